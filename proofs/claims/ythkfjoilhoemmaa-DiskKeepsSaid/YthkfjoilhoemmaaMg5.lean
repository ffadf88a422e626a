/-
  Walks: do, Ints.
-/
import Derived.Test.YthkfjoilhoemmaaMg4
namespace Go.Proofs.Ythkfjoilhoemmaa
open Go.RowKit
theorem C_PickN {n m r : Int} (w : World) (hr : pick n m = r) (wn : (Lit.int .i64 n).wf = true) (wm : (Lit.int .i64 m).wf = true) :
    CallsR Try.prog 10 [.int .i64 n, .int .i64 m] w fun v w' => v = .int .i64 r ∧ w' = w := by
  subst hr
  exact C_Pick n m wn wm w
/-- What an act leaves. -/
def stepD (S : List Sec) (C : List (Option Sec)) (a : DAct) : List Sec × List (Option Sec) :=
  if pick a.1 5 = 0 then (S, C) else if pick a.1 5 = 3 then (cur S C, List.replicate S.length none) else if pick a.1 5 = 4 then (crash S C a.2.2.2.2, List.replicate S.length none) else (S, (wrC S C a.2.1 (actB a.2.2.1 a.2.2.2.1)).1)
set_option maxRecDepth 100000 in
theorem C_do {lo hi lo2 hi2 g n c : Nat} {S : List Sec} {C : List (Option Sec)} {k t x : Int} {b : UInt8} {lg : Bool} {K : Option Addr} {kp : List Bool} {r : List Sec × List (Option Sec)} (w : World) (hd : DkAt w lo hi g S C) (hK : RdBo w lo2 hi2 K kp) (hx : x = (b.toNat : Int)) (hr : stepD S C (k, t, b, lg, kp) = r) (hn : n = kp.length) (hl : kp.length ≤ 80) (w1 : (Lit.int .i64 k).wf = true) (w2 : (Lit.int .i64 t).wf = true) :
    CallsR Try.prog 22 [.pointer (some ⟨g, 0, none⟩), .agg #[.int .i64 k, .int .i64 t, .int .u8 x, .bool lg, .slice K n c]] w fun v w' => v = .tuple #[] ∧ DkAt w' lo hi g r.1 r.2 ∧ Chg lo hi w w' := by
  subst hx; subst hn; subst hr
  have hhi := hd.hi
  have wm : (Lit.int .i64 5).wf = true := by decide
  have hpk := pick_range k 5 (by omega)
  obtain ⟨p, hp⟩ : ∃ p, pick k 5 = p := ⟨_, rfl⟩
  rw [hp] at hpk
  have hst : stepD S C (k, t, b, lg, kp) = if p = 0 then (S, C) else if p = 3 then (cur S C, List.replicate S.length none) else if p = 4 then (crash S C kp, List.replicate S.length none) else (S, (wrC S C t (actB b lg)).1) := by rw [stepD]; simp only [hp]
  rw [hst]
  clear hst
  refine callsR Try.func22 rfl rfl (by kernel_rfl) rfl ?_
  have hcg : Chg lo hi w w := Chg.refl
  by_cases h0 : p = 0
  · rw [if_pos h0]
    subst h0
    refine rk_seq ?_
    refine rk_region ?_
    refine wl_boxg [_, _, _, _, _] rfl (by rfl) ?_
    rintro g3 w3 f3 b3 i3 i3_1
    have s3 := b3.size
    replace hcg := hcg.thenB b3
    replace hK := hK.u b3
    replace hd := hd.u b3
    refine wl_nil ?_
    refine rk_seq ?_
    refine rk_region ?_
    refine wl_p (fun _ => o_faddr (s := 35) (i := 0) (off := 0) Try.underlying35 rfl Try.sizeOf3 rfl rfl rfl) ?_
    refine wl_r (o_loadbg Try.isAgg3 rfl f3 (by rfl)) ?_
    refine wl_call rfl (C_PickR _ hp w1 wm) ?_
    rintro v6 w6 ⟨rfl, b6⟩
    have s6 := b6.size
    replace hcg := hcg.thenB b6
    replace hd := hd.u b6
    replace hK := hK.u b6
    replace f3 := f3.u b6
    refine wl_nil ?_
    refine rk_block ?_
    refine rk_seq ?_
    refine rk_region ?_
    refine wl_p (fun _ => o_eq rfl rfl) ?_
    refine wl_p (fun _ => o_assign rfl) ?_
    refine wl_nil ?_
    refine rk_true rfl ?_
    refine rk_region ?_
    refine wl_p (fun _ => o_move rfl) ?_
    refine wl_p (fun _ => o_faddr (s := 35) (i := 1) (off := 1) Try.underlying35 rfl Try.sizeOf3 rfl rfl rfl) ?_
    refine wl_r (o_loadbg Try.isAgg3 rfl f3 (by rfl)) ?_
    refine wl_call rfl (C_dReadN _ hd (by rfl) w2) ?_
    rintro v18 w18 ⟨A18, ⟨c18, ⟨rfl, ⟨f18, ⟨i18, b18⟩⟩⟩⟩⟩
    have s18 := b18.size
    replace hcg := hcg.thenB b18
    replace f3 := f3.u b18
    replace hK := hK.u b18
    replace hd := hd.u b18
    refine wl_nil ?_
    refine rk_blk ?_
    refine end0 rfl ?_
    exact ⟨rfl, hd, hcg⟩
  · rw [if_neg h0]
    by_cases h3 : p = 3
    · rw [if_pos h3]
      subst h3
      refine rk_seq ?_
      refine rk_region ?_
      refine wl_boxg [_, _, _, _, _] rfl (by rfl) ?_
      rintro g3 w3 f3 b3 i3 i3_1
      have s3 := b3.size
      replace hcg := hcg.thenB b3
      replace hK := hK.u b3
      replace hd := hd.u b3
      refine wl_nil ?_
      refine rk_seq ?_
      refine rk_region ?_
      refine wl_p (fun _ => o_faddr (s := 35) (i := 0) (off := 0) Try.underlying35 rfl Try.sizeOf3 rfl rfl rfl) ?_
      refine wl_r (o_loadbg Try.isAgg3 rfl f3 (by rfl)) ?_
      refine wl_call rfl (C_PickR _ hp w1 wm) ?_
      rintro v6 w6 ⟨rfl, b6⟩
      have s6 := b6.size
      replace hcg := hcg.thenB b6
      replace hd := hd.u b6
      replace hK := hK.u b6
      replace f3 := f3.u b6
      refine wl_nil ?_
      refine rk_block ?_
      refine rk_seq ?_
      refine rk_region ?_
      refine wl_p (fun _ => o_eq rfl rfl) ?_
      refine wl_p (fun _ => o_assign rfl) ?_
      refine wl_nil ?_
      refine rk_false rfl ?_
      refine rk_seq ?_
      refine rk_region ?_
      refine wl_p (fun _ => o_eq rfl rfl) ?_
      refine wl_p (fun _ => o_assign rfl) ?_
      refine wl_nil ?_
      refine rk_true rfl ?_
      refine rk_region ?_
      refine wl_p (fun _ => o_move rfl) ?_
      refine wl_call rfl (C_dFlush _ hd (by rfl) (by rfl)) ?_
      rintro v22 w22 ⟨rfl, ⟨f22, g22⟩⟩
      have s22 := g22.size
      replace hcg := hcg.trans (g22.wide (by omega) (by omega))
      replace f3 := f3.c g22 (by omega)
      clear hK
      clear hd
      refine wl_nil ?_
      refine rk_blk ?_
      refine end0 rfl ?_
      exact ⟨rfl, f22, hcg⟩
    · rw [if_neg h3]
      by_cases h4 : p = 4
      · rw [if_pos h4]
        subst h4
        refine rk_seq ?_
        refine rk_region ?_
        refine wl_boxg [_, _, _, _, _] rfl (by rfl) ?_
        rintro g3 w3 f3 b3 i3 i3_1
        have s3 := b3.size
        replace hcg := hcg.thenB b3
        replace hK := hK.u b3
        replace hd := hd.u b3
        refine wl_nil ?_
        refine rk_seq ?_
        refine rk_region ?_
        refine wl_p (fun _ => o_faddr (s := 35) (i := 0) (off := 0) Try.underlying35 rfl Try.sizeOf3 rfl rfl rfl) ?_
        refine wl_r (o_loadbg Try.isAgg3 rfl f3 (by rfl)) ?_
        refine wl_call rfl (C_PickR _ hp w1 wm) ?_
        rintro v6 w6 ⟨rfl, b6⟩
        have s6 := b6.size
        replace hcg := hcg.thenB b6
        replace hd := hd.u b6
        replace hK := hK.u b6
        replace f3 := f3.u b6
        refine wl_nil ?_
        refine rk_block ?_
        refine rk_seq ?_
        refine rk_region ?_
        refine wl_p (fun _ => o_eq rfl rfl) ?_
        refine wl_p (fun _ => o_assign rfl) ?_
        refine wl_nil ?_
        refine rk_false rfl ?_
        refine rk_seq ?_
        refine rk_region ?_
        refine wl_p (fun _ => o_eq rfl rfl) ?_
        refine wl_p (fun _ => o_assign rfl) ?_
        refine wl_nil ?_
        refine rk_false rfl ?_
        refine rk_seq ?_
        refine rk_region ?_
        refine wl_p (fun _ => o_eq rfl rfl) ?_
        refine wl_p (fun _ => o_assign rfl) ?_
        refine wl_nil ?_
        refine rk_true rfl ?_
        refine rk_region ?_
        refine wl_p (fun _ => o_move rfl) ?_
        refine wl_litBo0 rfl ?_
        rintro A26 w26 f26 b26
        have qf26 := f26.cap
        have s26 := b26.size
        replace hcg := hcg.thenB b26
        replace f3 := f3.u b26
        replace hK := hK.u b26
        replace hd := hd.u b26
        refine wl_p (fun _ => o_faddr (s := 35) (i := 4) (off := 4) Try.underlying35 rfl Try.sizeOf31 rfl rfl rfl) ?_
        refine wl_r (o_loadbg Try.isAgg31 rfl f3 (by rfl)) ?_
        refine wl_appBo0 rfl f26 rfl hK (Below.refl _ _) rfl (by omega) (by omega) ?_
        rintro A29 c29 w29 f29 b29
        have qf29 := f29.cap
        have s29 := b29.size
        replace hcg := hcg.thenB b29
        replace hd := hd.u b29
        replace hK := hK.u b29
        replace f3 := f3.u b29
        replace f26 := f26.u b29
        refine wl_call rfl (C_dCrash _ hd f29.to_RdBo (by rfl) (by rfl) (by omega) rfl (by omega)) ?_
        rintro v30 w30 ⟨rfl, ⟨f30, g30⟩⟩
        have s30 := g30.size
        replace hcg := hcg.trans (g30.wide (by omega) (by omega))
        replace f26 := f26.c g30 (by omega)
        replace f3 := f3.c g30 (by omega)
        replace f29 := f29.c g30 (by omega)
        clear hK
        clear hd
        refine wl_nil ?_
        refine rk_blk ?_
        refine end0 rfl ?_
        exact ⟨rfl, f30, hcg⟩
      · rw [if_neg h4]
        obtain ⟨q, hq⟩ : ∃ q, actB b lg = q := ⟨_, rfl⟩
        obtain ⟨z, hz⟩ : ∃ z, wrC S C t q = z := ⟨_, rfl⟩
        rw [hq, hz]
        refine rk_seq ?_
        refine rk_region ?_
        refine wl_boxg [_, _, _, _, _] rfl (by rfl) ?_
        rintro g3 w3 f3 b3 i3 i3_1
        have s3 := b3.size
        replace hcg := hcg.thenB b3
        replace hK := hK.u b3
        replace hd := hd.u b3
        refine wl_nil ?_
        refine rk_seq ?_
        refine rk_region ?_
        refine wl_p (fun _ => o_faddr (s := 35) (i := 0) (off := 0) Try.underlying35 rfl Try.sizeOf3 rfl rfl rfl) ?_
        refine wl_r (o_loadbg Try.isAgg3 rfl f3 (by rfl)) ?_
        refine wl_call rfl (C_PickR _ hp w1 wm) ?_
        rintro v6 w6 ⟨rfl, b6⟩
        have s6 := b6.size
        replace hcg := hcg.thenB b6
        replace hd := hd.u b6
        replace hK := hK.u b6
        replace f3 := f3.u b6
        refine wl_nil ?_
        refine rk_block ?_
        refine rk_seq ?_
        refine rk_region ?_
        refine wl_p (fun _ => o_eq rfl rfl) ?_
        refine wl_p (fun _ => o_assign rfl) ?_
        refine wl_nil ?_
        refine rk_if rfl (fun h13 => absurd h13 (by omega)) (fun h13 => ?_)
        refine rk_seq ?_
        refine rk_region ?_
        refine wl_p (fun _ => o_eq rfl rfl) ?_
        refine wl_p (fun _ => o_assign rfl) ?_
        refine wl_nil ?_
        refine rk_if rfl (fun h19 => absurd h19 (by omega)) (fun h19 => ?_)
        refine rk_seq ?_
        refine rk_region ?_
        refine wl_p (fun _ => o_eq rfl rfl) ?_
        refine wl_p (fun _ => o_assign rfl) ?_
        refine wl_nil ?_
        refine rk_if rfl (fun h23 => absurd h23 (by omega)) (fun h23 => ?_)
        refine rk_draw (id := 2) (none) [0, 0, 2, 0, 8, 21] [0, 0, 2, 0, 8, 31] 48 16 [(.p, 0), (.p, 1), (.s, 2), (.r, 3), (.c, 4), (.l, 5)] (by kernel_rfl) (by kernel_rfl) (by kernel_rfl) (by kernel_rfl) (by kernel_rfl) ?_
        replace hcg := hcg.trans Chg.drew
        replace f3 := f3.d
        replace hK := hK.d
        replace hd := hd.d
        refine wl_p (fun _ => o_move rfl) ?_
        refine wl_p (fun _ => o_faddr (s := 35) (i := 1) (off := 1) Try.underlying35 rfl Try.sizeOf3 rfl rfl rfl) ?_
        refine wl_s (fun _ hk => (o_loadbg Try.isAgg3 rfl (f3.u (below_of_grown_none hk)) (by rfl))) ?_
        refine wl_r (o_loadag Try.isAgg35 Try.sizeOf35 rfl f3 (by rfl)) ?_
        refine wl_call rfl (C_actBytes _ (by rfl) hq) ?_ (hq := .inr fun _ _ h => grown_of_below h.choose_spec.choose_spec.2.2.2 _)
        rintro v11 w11 ⟨A11, ⟨c11, ⟨rfl, ⟨f11, ⟨i11, b11⟩⟩⟩⟩⟩
        simp only [drew_size] at f11
        simp only [drew_size] at b11
        have qf11 := f11.cap
        have s11 := b11.size
        simp only [drew_size] at s11
        replace hcg := hcg.thenB b11
        replace hd := hd.u b11
        replace hK := hK.u b11
        replace f3 := f3.u b11
        refine wl_call rfl (C_dWriteN _ hd f11.to_Rd hz w2 rfl (by omega)) ?_
        rintro v12 w12 ⟨rfl, ⟨f12, g12⟩⟩
        have s12 := g12.size
        replace hcg := hcg.trans (g12.wide (by omega) (by omega))
        replace f3 := f3.c g12 (by omega)
        replace f11 := f11.c g12 (by omega)
        clear hK
        clear hd
        refine wl_nild ?_
        refine rk_blk ?_
        refine end0 rfl ?_
        exact ⟨rfl, f12, hcg⟩
theorem wrC_len (S : List Sec) (C : List (Option Sec)) (a : Int) (b : By) : (wrC S C a b).1.length = C.length := by
  unfold wrC; split <;> simp
theorem stepD_len (S : List Sec) (C : List (Option Sec)) (a : DAct) (h : C.length = S.length) : (stepD S C a).1.length = S.length ∧ (stepD S C a).2.length = S.length := by
  unfold stepD
  split
  · exact ⟨rfl, h⟩
  · split
    · exact ⟨cur_len _ _, by simp⟩
    · split
      · exact ⟨crash_len _ _ _, by simp⟩
      · exact ⟨rfl, by rw [wrC_len]; exact h⟩
def runD : List Sec → List (Option Sec) → List DAct → List Sec × List (Option Sec)
  | S, C, [] => (S, C)
  | S, C, a :: L => runD (stepD S C a).1 (stepD S C a).2 L
theorem runD_snoc : ∀ (S : List Sec) (C : List (Option Sec)) (L : List DAct) (a : DAct), runD S C (L ++ [a]) = stepD (runD S C L).1 (runD S C L).2 a
  | S, C, [], a => rfl
  | S, C, b :: L, a => by rw [List.cons_append, runD, runD_snoc _ _ L a]; rfl
set_option maxRecDepth 100000 in
theorem C_DiskNames (w : World) : CallsR Try.prog 6 [] w fun v w' => v = .bool true ∧ Below w.heap.size w w' := by
  obtain ⟨r5, hr5⟩ : ∃ r, rowB 5 = r := ⟨_, rfl⟩
  obtain ⟨r7, hr7⟩ : ∃ r, rowB 7 = r := ⟨_, rfl⟩
  have l5 : r5.length = 256 := by rw [← hr5, rowB, List.length_replicate]
  have l7 : r7.length = 256 := by rw [← hr7, rowB, List.length_replicate]
  obtain ⟨Z, hZ⟩ : ∃ Z : By, List.replicate 300 0 = Z := ⟨_, rfl⟩
  have lZ : Z.length = 300 := by rw [← hZ, List.length_replicate]
  refine callsR Try.func6 rfl rfl (by kernel_rfl) rfl ?_
  have hw := Below.refl w.heap.size w
  refine rk_seq ?_
  refine rk_region ?_
  refine wl_p (fun _ => o_assign rfl) ?_
  refine wl_nil ?_
  refine rk_seq ?_
  refine rk_region ?_
  refine wl_call rfl (C_dNewBad _ (by omega)) ?_
  rintro v17 w17 ⟨rfl, b17⟩
  have s17 := b17.size
  replace hw := hw.trans (b17.mono hw.size)
  refine wl_p (fun _ => o_move rfl) ?_
  refine wl_p (fun _ => o_ext20 rfl) ?_
  refine wl_p (fun _ => o_ext21 rfl) ?_
  refine wl_p (fun _ => o_assign rfl) ?_
  refine wl_p (fun _ => o_assign rfl) ?_
  refine wl_nil ?_
  refine rk_seq ?_
  refine rk_region ?_
  refine wl_mkBz (300) rfl rfl (by omega) (by rfl) (by omega) hZ ?_
  rintro A21 w21 f21 b21
  have qf21 := f21.cap
  have s21 := b21.size
  replace hw := hw.trans (b21.mono hw.size)
  refine wl_call rfl (C_dOfBad _ f21.to_Rd (by omega) (by omega) (by omega) (by omega)) ?_
  rintro v22 w22 ⟨rfl, b22⟩
  have s22 := b22.size
  replace hw := hw.trans (b22.mono hw.size)
  replace f21 := f21.u b22
  refine wl_p (fun _ => o_move rfl) ?_
  refine wl_p (fun _ => o_ext20 rfl) ?_
  refine wl_p (fun _ => o_ext21 rfl) ?_
  refine wl_p (fun _ => o_assign rfl) ?_
  refine wl_p (fun _ => o_assign rfl) ?_
  refine wl_nil ?_
  refine rk_seq ?_
  refine rk_region ?_
  refine wl_call rfl (C_dOfBad _ (Rd.nil_) (by rfl) (by omega) (by simp) (by simp)) ?_
  rintro v26 w26 ⟨rfl, b26⟩
  have s26 := b26.size
  replace hw := hw.trans (b26.mono hw.size)
  replace f21 := f21.u b26
  refine wl_p (fun _ => o_move rfl) ?_
  refine wl_p (fun _ => o_ext20 rfl) ?_
  refine wl_p (fun _ => o_ext21 rfl) ?_
  refine wl_p (fun _ => o_assign rfl) ?_
  refine wl_p (fun _ => o_assign rfl) ?_
  refine wl_nil ?_
  refine rk_seq ?_
  refine rk_region ?_
  refine wl_call rfl (C_row (b := 7) _ rfl hr7) ?_
  rintro v30 w30 ⟨A30, c30, rfl, f30, i30, b30⟩
  have q30 := f30.cap
  have sb30 := b30.size
  replace hw := hw.trans (b30.mono hw.size)
  replace f21 := f21.u b30
  refine wl_call rfl (C_dOfOk (m := 1) _ f30.to_Rd (by omega) rfl q30 (by omega) (by omega)) ?_
  rintro v31 w31 ⟨g31, S31, rfl, himg, hSl, f31, b31⟩
  have sb31 := b31.size
  replace hw := hw.trans (b31.mono hw.size)
  replace f21 := f21.u b31
  replace f30 := f30.u b31
  obtain ⟨Q, hQ⟩ : ∃ Q : List (Option Sec), List.replicate 1 none = Q := ⟨_, rfl⟩
  have hS31 : S31 = [⟨r7, l7⟩] := by
    obtain ⟨s, rfl⟩ : ∃ s, S31 = [s] := by
      cases S31 with
      | nil => cases hSl
      | cons s L => cases L with
        | nil => exact ⟨s, rfl⟩
        | cons _ _ => simp at hSl
    have e : img [s] = s.1 := by simp [img]
    rw [e] at himg
    exact congrArg (fun x => [x]) (Subtype.ext himg)
  rw [hQ] at f31
  have hR1 : rdD S31 Q 1 = ([], 2) := by rw [rdD, dif_neg (by rw [hSl]; omega)]
  have hR0 : rdD S31 Q 0 = (r7, 0) := by subst hS31; subst hQ; rw [rdD, dif_pos (by simp)]; rfl
  have hW0 : wrC S31 Q 0 [] = (Q, 2) := by rw [wrC, dif_neg (by simp)]
  have hW1 : wrC S31 Q 0 r5 = ([some ⟨r5, l5⟩], 0) := by subst hQ; rw [wrC, dif_pos ⟨by rw [hSl]; omega, l5⟩]; rfl
  have hI : ixz [some (⟨r5, l5⟩ : Sec)] = [0] := rfl
  refine wl_p (fun _ => o_move rfl) ?_
  refine wl_p (fun _ => o_ext20 rfl) ?_
  refine wl_p (fun _ => o_ext21 rfl) ?_
  refine wl_p (fun _ => o_assign rfl) ?_
  refine wl_p (fun _ => o_assign rfl) ?_
  refine wl_nil ?_
  refine rk_seq ?_
  refine rk_seq ?_
  refine rk_region ?_
  refine wl_p (fun _ => o_move rfl) ?_
  refine wl_p (fun _ => o_ne rfl rfl) ?_
  refine wl_nil ?_
  refine rk_false rfl ?_
  refine rk_skip ?_
  refine rk_seq ?_
  refine rk_region ?_
  refine wl_p (fun _ => o_move rfl) ?_
  refine wl_call rfl (C_dReadN _ f31 hR1 (by rfl)) ?_
  rintro v38 w38 ⟨A38, ⟨c38, ⟨rfl, ⟨f38, ⟨i38, b38⟩⟩⟩⟩⟩
  dsimp only at f38
  dsimp only at i38
  dsimp only
  have s38 := b38.size
  replace hw := hw.trans (b38.mono hw.size)
  replace f31 := f31.u b38
  replace f30 := f30.u b38
  replace f21 := f21.u b38
  refine wl_p (fun _ => o_move rfl) ?_
  refine wl_p (fun _ => o_ext20 rfl) ?_
  refine wl_p (fun _ => o_ext21 rfl) ?_
  refine wl_p (fun _ => o_assign rfl) ?_
  refine wl_p (fun _ => o_assign rfl) ?_
  refine wl_nil ?_
  refine rk_seq ?_
  refine rk_region ?_
  refine wl_p (fun _ => o_move rfl) ?_
  refine wl_call rfl (C_dReadN _ f31 hR0 (by rfl)) ?_
  rintro v43 w43 ⟨A43, ⟨c43, ⟨rfl, ⟨f43, ⟨i43, b43⟩⟩⟩⟩⟩
  dsimp only at f43
  dsimp only at i43
  dsimp only
  have s43 := b43.size
  replace hw := hw.trans (b43.mono hw.size)
  replace f21 := f21.u b43
  replace f30 := f30.u b43
  replace f31 := f31.u b43
  replace f38 := f38.u b43
  refine wl_p (fun _ => o_move rfl) ?_
  refine wl_p (fun _ => o_ext20 rfl) ?_
  refine wl_p (fun _ => o_ext21 rfl) ?_
  refine wl_p (fun _ => o_assign rfl) ?_
  refine wl_p (fun _ => o_assign rfl) ?_
  refine wl_nil ?_
  refine rk_seq ?_
  refine rk_region ?_
  refine wl_p (fun _ => o_move rfl) ?_
  refine wl_call rfl (C_dWriteN _ f31 (Rd.nil_) hW0 (by rfl) (by rfl) (by omega)) ?_
  rintro v47 w47 ⟨rfl, ⟨f47, g47⟩⟩
  dsimp only at f47
  dsimp only
  have s47 := g47.size
  replace hw := hw.trans (g47.below hw.size (by omega))
  replace f38 := f38.c g47 (by omega)
  replace f30 := f30.c g47 (by omega)
  replace f21 := f21.c g47 (by omega)
  replace f43 := f43.c g47 (by omega)
  clear f31
  refine wl_p (fun _ => o_assign rfl) ?_
  refine wl_nil ?_
  refine rk_seq ?_
  refine rk_region ?_
  refine wl_p (fun _ => o_move rfl) ?_
  refine wl_call rfl (C_row (b := 5) _ rfl hr5) ?_
  rintro v49 w49 ⟨A49, c49, rfl, f49, i49, b49⟩
  have q49 := f49.cap
  have sb49 := b49.size
  replace hw := hw.trans (b49.mono hw.size)
  replace f43 := f43.u b49
  replace f21 := f21.u b49
  replace f30 := f30.u b49
  replace f38 := f38.u b49
  replace f47 := f47.u b49
  refine wl_call rfl (C_dWriteN _ f47 f49.to_Rd hW1 (by rfl) rfl (by omega)) ?_
  rintro v50 w50 ⟨rfl, ⟨f50, g50⟩⟩
  dsimp only at f50
  dsimp only
  have s50 := g50.size
  replace hw := hw.trans (g50.below hw.size (by omega))
  replace f38 := f38.c g50 (by omega)
  replace f30 := f30.c g50 (by omega)
  replace f21 := f21.c g50 (by omega)
  replace f43 := f43.c g50 (by omega)
  replace f49 := f49.c g50 (by omega)
  clear f47
  refine wl_nil ?_
  refine rk_seq ?_
  refine rk_region ?_
  refine wl_p (fun _ => o_move rfl) ?_
  refine wl_call rfl (C_dCached _ f50 hI) ?_
  rintro v52 w52 ⟨A52, ⟨c52, ⟨rfl, ⟨f52, b52⟩⟩⟩⟩
  have qf52 := f52.cap
  have s52 := b52.size
  replace hw := hw.trans (b52.mono hw.size)
  replace f49 := f49.u b52
  replace f43 := f43.u b52
  replace f21 := f21.u b52
  replace f30 := f30.u b52
  replace f38 := f38.u b52
  replace f50 := f50.u b52
  refine wl_p (fun _ => o_assign rfl) ?_
  refine wl_nil ?_
  refine rk_seq ?_
  refine rk_region ?_
  refine wl_p (fun _ => o_assign rfl) ?_
  refine wl_nil ?_
  refine rk_seq ?_
  refine rk_draw (id := 13) (none) [0, 1, 2, 6, 10, 18, 32, 96, 160, 288, 512, 1536, 2560, 4608, 8192, 24576, 40960, 73728, 131072, 393216, 655360, 1179648, 2097152, 6291456, 2097152, 18874368, 44040192, 69206016, 150994944, 268435456, 805306368, 1342177280, 2415919104, 4294967296, 12884901888, 21474836480, 38654705664, 73014444032, 137438953472, 412316860416, 687194767360, 1236950581248, 2748779069440, 4398046511104, 13194139533312, 21990232555520, 39582418599936, 87960930222080, 140737488355328, 422212465065984, 703687441776640, 1266637395197952, 2814749767106560, 4503599627370496, 18014398509481983] [0, 1, 3, 7, 15, 31, 63, 127, 255, 511, 1023, 2047, 4095, 8191, 16383, 32767, 65535, 131071, 262143, 524287, 1048575, 2097151, 4194303, 8388607, 4194303, 20971519, 67108863, 134217727, 268435455, 536870911, 1073741823, 2147483647, 4294967295, 8589934591, 17179869183, 34359738367, 68719476735, 137438953471, 274877906943, 549755813887, 1099511627775, 2199023255551, 4398046511103, 8796093022207, 17592186044415, 35184372088831, 70368744177663, 140737488355327, 281474976710655, 562949953421311, 1125899906842623, 2251799813685247, 4503599627370495, 9007199254740991, 18014398509481983] 581091912056833 16777216 [(.l, 0), (.p, 1), (.p, 2), (.p, 3), (.p, 4), (.p, 5), (.p, 6), (.p, 7), (.p, 8), (.p, 9), (.p, 10), (.p, 11), (.p, 12), (.p, 13), (.p, 14), (.p, 15), (.p, 16), (.p, 17), (.p, 18), (.p, 19), (.p, 20), (.p, 21), (.p, 22), (.s, 23), (.c, 24), (.r, 25), (.p, 26), (.p, 27), (.p, 28), (.p, 29), (.p, 30), (.p, 31), (.p, 32), (.p, 33), (.p, 34), (.p, 35), (.p, 36), (.p, 37), (.p, 38), (.l, 39), (.p, 40), (.p, 41), (.p, 42), (.p, 43), (.l, 44), (.p, 45), (.p, 46), (.p, 47), (.p, 48), (.l, 49), (.p, 50), (.p, 51), (.p, 52), (.p, 53), (.p, 54)] (by kernel_rfl) (by kernel_rfl) (by kernel_rfl) (by kernel_rfl) (by kernel_rfl) ?_
  replace hw := hw.drew
  replace f50 := f50.d
  replace f38 := f38.d
  replace f30 := f30.d
  replace f21 := f21.d
  replace f43 := f43.d
  replace f49 := f49.d
  replace f52 := f52.d
  refine wl_call rfl (C_lives07 _) ?_
  rintro v53 w53 ⟨rfl, b53⟩
  simp only [drew_size] at b53
  have s53 := b53.size
  simp only [drew_size] at s53
  replace hw := hw.trans (b53.mono hw.size)
  replace f52 := f52.u b53
  replace f49 := f49.u b53
  replace f43 := f43.u b53
  replace f21 := f21.u b53
  replace f30 := f30.u b53
  replace f38 := f38.u b53
  replace f50 := f50.u b53
  refine wl_p (fun _ => o_move rfl) ?_
  refine wl_p (fun _ => o_move rfl) ?_
  refine wl_p (fun _ => o_eq rfl rfl) ?_
  refine wl_p (fun _ => o_pick_t rfl rfl) ?_
  refine wl_p (fun _ => o_move rfl) ?_
  refine wl_p (fun _ => o_move rfl) ?_
  refine wl_p (fun _ => o_eq rfl rfl) ?_
  refine wl_p (fun _ => o_pick_t rfl rfl) ?_
  refine wl_p (fun _ => o_move rfl) ?_
  refine wl_p (fun _ => o_move rfl) ?_
  refine wl_p (fun _ => o_eq rfl rfl) ?_
  refine wl_p (fun _ => o_pick_t rfl rfl) ?_
  refine wl_p (fun _ => o_move rfl) ?_
  refine wl_p (fun _ => o_move rfl) ?_
  refine wl_p (fun _ => o_eq rfl rfl) ?_
  refine wl_p (fun _ => o_pick_t rfl rfl) ?_
  refine wl_p (fun _ => o_move rfl) ?_
  refine wl_p (fun _ => o_move rfl) ?_
  refine wl_p (fun _ => o_eq rfl rfl) ?_
  refine wl_p (fun _ => o_pick_t rfl rfl) ?_
  refine wl_p (fun _ => o_move rfl) ?_
  refine wl_p (fun _ => o_move rfl) ?_
  refine wl_s (fun _ hk => (o_strU Try.underlying32 Try.underlying5 Try.underlying9 rfl f43.to_Rd (below_of_grown_none hk) rfl)) ?_
  refine wl_know 74 true rfl (decide_eq_true (by omega)) ?_
  refine wl_call (hq := .inr fun _ _ h => by obtain ⟨_, _, _, _, _, hb⟩ := h; exact grown_of_below hb _) rfl (C_row (b := 7) _ rfl hr7) ?_
  rintro v77 w77 ⟨A77, c77, rfl, f77, i77, b77⟩
  have sb77 := b77.size
  replace hw := hw.trans (b77.mono hw.size)
  replace f50 := f50.u b77
  replace f38 := f38.u b77
  replace f30 := f30.u b77
  replace f21 := f21.u b77
  replace f43 := f43.u b77
  replace f49 := f49.u b77
  replace f52 := f52.u b77
  refine wl_r (o_strU Try.underlying32 Try.underlying5 Try.underlying9 rfl f77.to_Rd (Below.refl _ _) rfl) ?_
  refine wl_p (fun _ => o_seq rfl rfl) ?_
  refine wl_p (fun _ => o_pick_t rfl rfl) ?_
  refine wl_p (fun _ => o_move rfl) ?_
  refine wl_know 81 true rfl (by simp) ?_
  refine wl_p (fun _ => o_move rfl) ?_
  refine wl_p (fun _ => o_eq rfl rfl) ?_
  refine wl_p (fun _ => o_pick_t rfl rfl) ?_
  refine wl_p (fun _ => o_move rfl) ?_
  refine wl_p (fun _ => o_move rfl) ?_
  refine wl_p (fun _ => o_len (t := 41) Try.underlying41 rfl) ?_
  refine wl_p (fun _ => o_eq rfl rfl) ?_
  refine wl_p (fun _ => o_pick_t rfl rfl) ?_
  refine wl_p (fun _ => o_move rfl) ?_
  refine wl_p (fun _ => o_move rfl) ?_
  refine wl_call rfl (C_dSize _ f50) ?_
  rintro v92 w92 ⟨rfl, rfl⟩
  refine wl_p (fun _ => o_eq rfl rfl) ?_
  refine wl_p (fun _ => o_pick_t rfl rfl) ?_
  refine wl_p (fun _ => o_move rfl) ?_
  refine wl_know 95 true rfl (decide_eq_true (by omega)) ?_
  refine wl_p (fun _ => o_move rfl) ?_
  refine wl_call rfl (C_dCloneNil _) ?_
  rintro v97 w97 ⟨rfl, b97⟩
  have s97 := b97.size
  replace hw := hw.trans (b97.mono hw.size)
  replace f52 := f52.u b97
  replace f49 := f49.u b97
  replace f43 := f43.u b97
  replace f21 := f21.u b97
  replace f30 := f30.u b97
  replace f38 := f38.u b97
  replace f50 := f50.u b97
  replace f77 := f77.u b97
  refine wl_p (fun _ => o_peq_nil (t := 26) Try.underlying26 rfl rfl) ?_
  refine wl_p (fun _ => o_pick_t rfl rfl) ?_
  refine wl_p (fun _ => o_move rfl) ?_
  refine wl_p (fun _ => o_move rfl) ?_
  refine wl_call rfl (C_dFlushNil _) ?_
  rintro v102 w102 ⟨rfl, b102⟩
  have s102 := b102.size
  replace hw := hw.trans (b102.mono hw.size)
  replace f77 := f77.u b102
  replace f50 := f50.u b102
  replace f38 := f38.u b102
  replace f30 := f30.u b102
  replace f21 := f21.u b102
  replace f43 := f43.u b102
  replace f49 := f49.u b102
  replace f52 := f52.u b102
  refine wl_p (fun _ => o_eq rfl rfl) ?_
  refine wl_p (fun _ => o_pick_t rfl rfl) ?_
  refine wl_p (fun _ => o_move rfl) ?_
  refine wl_p (fun _ => o_pick_t rfl rfl) ?_
  refine wl_p (fun _ => o_assign rfl) ?_
  refine wl_nild ?_
  refine ret1 rfl rfl ?_
  exact ⟨rfl, hw⟩
set_option maxRecDepth 100000 in
set_option maxHeartbeats 1000000 in
theorem C_DiskClones {n0 : Int} {A1 A2 : Option Addr} {L M : List DAct} {c1 c2 : Nat} (w : World) (hL : RDA w A1 L) (hM : RDA w A2 M) (wn : (Lit.int .i64 n0).wf = true) (m1 : L.length ≤ maxLen) (m2 : M.length ≤ maxLen) :
    CallsR Try.prog 5 [.int .i64 n0, .slice A1 L.length c1, .slice A2 M.length c2] w fun v w' => v = .bool true ∧ Below w.heap.size w w' := by
  have wm : (Lit.int .i64 40).wf = true := by decide
  have hpk := pick_range n0 40 (by omega)
  obtain ⟨p, hp⟩ : ∃ p, pick n0 40 = p := ⟨_, rfl⟩
  rw [hp] at hpk
  obtain ⟨m, hm⟩ : ∃ m : Nat, 1 + p = (m : Int) := ⟨(1 + p).toNat, by omega⟩
  obtain ⟨Z, hZ⟩ : ∃ Z : List Sec, List.replicate m z256 = Z := ⟨_, rfl⟩
  obtain ⟨Q, hQ⟩ : ∃ Q : List (Option Sec), List.replicate m none = Q := ⟨_, rfl⟩
  refine callsR Try.func5 rfl rfl (by kernel_rfl) rfl ?_
  have hw := Below.refl w.heap.size w
  refine rk_seq ?_
  refine rk_region ?_
  refine wl_p (fun _ => o_assign rfl) ?_
  refine wl_nil ?_
  refine rk_seq ?_
  refine rk_seq ?_
  refine rk_region ?_
  refine wl_call rfl (C_lives07 _) ?_
  rintro v15 w15 ⟨rfl, b15⟩
  have s15 := b15.size
  replace hw := hw.trans (b15.mono hw.size)
  refine wl_p (fun _ => o_not rfl) ?_
  refine wl_nil ?_
  refine rk_false rfl ?_
  refine rk_skip ?_
  refine rk_seq ?_
  refine rk_seq ?_
  refine rk_region ?_
  refine wl_p (fun _ => o_move rfl) ?_
  refine wl_call rfl (C_small _ (hL.u hw) rfl (by omega)) ?_
  rintro v18 w18 ⟨b18, ⟨rfl, ⟨i18, b18_1⟩⟩⟩
  have s18 := b18_1.size
  replace hw := hw.trans (b18_1.mono hw.size)
  refine wl_p (fun _ => o_not rfl) ?_
  refine wl_p (fun _ => o_move rfl) ?_
  cases b18 with
  | false =>
    refine wl_off ?_
    refine wl_off ?_
    refine wl_off ?_
    refine wl_p (fun _ => o_pick_t rfl rfl) ?_
    refine wl_nil ?_
    refine rk_true rfl ?_
    refine rk_seq ?_
    refine rk_region ?_
    refine wl_p (fun _ => o_assign rfl) ?_
    refine wl_nil ?_
    refine ret1 rfl rfl ?_
    exact ⟨rfl, hw⟩
  | true =>
    have hsL : smallA L := (show true = true ↔ smallA L by assumption).1 rfl
    refine wl_p (fun _ => o_move rfl) ?_
    refine wl_call rfl (C_small _ (hM.u hw) rfl (by omega)) ?_
    rintro v22 w22 ⟨b22, ⟨rfl, ⟨i22, b22_1⟩⟩⟩
    have s22 := b22_1.size
    replace hw := hw.trans (b22_1.mono hw.size)
    refine wl_p (fun _ => o_not rfl) ?_
    refine wl_p (fun _ => o_pick_f rfl rfl) ?_
    refine wl_nil ?_
    cases b22 with
    | false =>
      refine rk_true rfl ?_
      refine rk_seq ?_
      refine rk_region ?_
      refine wl_p (fun _ => o_assign rfl) ?_
      refine wl_nil ?_
      refine ret1 rfl rfl ?_
      exact ⟨rfl, hw⟩
    | true =>
      have hsM : smallA M := (show true = true ↔ smallA M by assumption).1 rfl
      refine rk_false rfl ?_
      refine rk_skip ?_
      refine rk_seq ?_
      refine rk_region ?_
      refine wl_p (fun _ => o_move rfl) ?_
      refine wl_call rfl (C_PickR _ hp wn wm) ?_
      rintro v27 w27 ⟨rfl, b27⟩
      have s27 := b27.size
      replace hw := hw.trans (b27.mono hw.size)
      refine wl_p (fun _ => o_add rfl rfl (by omega) (by omega)) ?_
      refine wl_call rfl (C_dNewOk _ hm hZ hQ (by omega) (by omega)) ?_
      rintro v29 w29 ⟨g29, ⟨rfl, ⟨f29, b29⟩⟩⟩
      have s29 := b29.size
      replace hw := hw.trans (b29.mono hw.size)
      refine wl_p (fun _ => o_move rfl) ?_
      refine wl_p (fun _ => o_ext20 rfl) ?_
      refine wl_p (fun _ => o_ext21 rfl) ?_
      refine wl_p (fun _ => o_assign rfl) ?_
      refine wl_p (fun _ => o_assign rfl) ?_
      refine wl_nil ?_
      refine rk_seq ?_
      refine rk_seq ?_
      refine rk_region ?_
      refine wl_p (fun _ => o_move rfl) ?_
      refine wl_p (fun _ => o_ne rfl rfl) ?_
      refine wl_nil ?_
      refine rk_false rfl ?_
      refine rk_skip ?_
      refine rk_seq ?_
      refine rk_seq ?_
      refine rk_region ?_
      refine wl_p (fun _ => o_assign rfl) ?_
      refine wl_nil ?_
      refine rk_block ?_
      have hs0 : w.heap.size ≤ w27.heap.size := by omega
      have hle0 := f29.len
      have hlL := hsL.1
      have hlM := hsM.1
      refine rk_joinf (fun fb fr W => ∃ (S : List Sec) (C : List (Option Sec)), fr = [] ++ fb.drop 1 ∧ (S, C) = runD Z Q L ∧ DkAt W w27.heap.size w29.heap.size g29 S C ∧ Below w.heap.size w W) ?_ (fun ks hj => ?_)
      rotate_left
      · refine rk_loopf (fun fb k fr W => ∃ (i : Nat) (v : Int) (S : List Sec) (C : List (Option Sec)), fr = [(9, .int .i64 v)] ++ fb.drop 1 ∧ v = i ∧ i ≤ L.length ∧ k = L.length - i ∧ (S, C) = runD Z Q (L.take i) ∧ DkAt W w27.heap.size w29.heap.size g29 S C ∧ Below w.heap.size w W) (n := L.length) (Fr.le_of (by kernel_rfl) (by kernel_rfl) (by repeat' constructor)) ⟨0, _, Z, Q, rfl, rfl, by omega, rfl, rfl, f29, hw⟩ ?_
        clear f29 hw
        rintro k fr W ⟨i, v, S, C, rfl, rfl, hi, rfl, hr, f29, hw⟩
        first | refine rk_frame (by simp only [List.cons_append, List.nil_append, List.drop_succ_cons, List.drop_zero]; rfl) ?_ | refine wl_frame (by simp only [List.cons_append, List.nil_append, List.drop_succ_cons, List.drop_zero]; rfl) ?_
        refine rk_seq ?_
        refine rk_seq ?_
        refine rk_region ?_
        refine wl_p (fun _ => o_move rfl) ?_
        refine wl_p (fun _ => o_move rfl) ?_
        refine wl_p (fun _ => o_len (t := 22) Try.underlying22 rfl) ?_
        refine wl_p (fun _ => o_lt rfl rfl) ?_
        refine wl_nil ?_
        refine rk_if rfl (fun h37 => ?_) (fun h37 => ?_)
        · have hil : i < L.length := by omega
          have hkl := hsL.2 _ (List.getElem_mem hil)
          obtain ⟨r, hst⟩ : ∃ r, stepD S C (L[i].1, L[i].2.1, L[i].2.2.1, L[i].2.2.2.1, L[i].2.2.2.2) = r := ⟨_, rfl⟩
          refine rk_skip ?_
          refine rk_seq ?_
          refine rk_block ?_
          refine rk_region ?_
          refine wl_p (fun _ => o_move rfl) ?_
          refine wl_p (fun _ => o_move rfl) ?_
          refine wl_p (fun _ => o_move rfl) ?_
          refine wl_p (fun _ => (o_iaddrA (i) Try.underlying22 Try.sizeOf35 rfl rfl rfl (hL.some_ (by omega)) (by omega))) ?_
          refine wl_ldDAct rfl hL hw (by omega) ?_
          rintro A144 c144 f44 i44 i44_1 e44 e44_1
          refine wl_call rfl (C_do _ f29 (f44.u hw) (by rfl) hst rfl (by omega) e44 e44_1) ?_
          rintro v45 w45 ⟨rfl, ⟨f45, g45⟩⟩
          have s45 := g45.size
          replace hw := hw.trans (g45.below hw.size (by omega))
          clear f29
          refine wl_nil ?_
          refine rk_blk ?_
          refine rk_region ?_
          refine wl_p (fun _ => o_move rfl) ?_
          refine wl_p (fun _ => o_add rfl rfl (by omega) (by omega)) ?_
          refine wl_p (fun _ => o_assign rfl) ?_
          refine wl_nil ?_
          have e : (r.1, r.2) = runD Z Q (L.take (i + 1)) := by rw [List.take_succ_eq_append_getElem hil, runD_snoc, ← hr]; exact hst.symm
          exact rk_againf (Fr.le_of (by kernel_rfl) (by kernel_rfl) (by repeat' constructor)) ⟨i + 1, (i : Int) + 1, r.1, r.2, rfl, by omega, by omega, rfl, e, f45, hw⟩ (by omega)
        · refine rk_exit rfl ?_
          obtain rfl : i = L.length := by omega
          rw [List.take_length] at hr
          exact rk_tof hj (Fr.le_of (by kernel_rfl) (by kernel_rfl) (by repeat' constructor)) ⟨S, C, rfl, hr, f29, hw⟩
      clear f29 hw
      rintro fr W ⟨S, C, rfl, hr, f29, hw⟩
      have hWs := f29.hi
      have hWs2 := hw.size
      obtain ⟨I, hI⟩ : ∃ I, ixz C = I := ⟨_, rfl⟩
      obtain ⟨im, him⟩ : ∃ im, img S = im := ⟨_, rfl⟩
      first | refine rk_frame (by simp only [List.cons_append, List.nil_append, List.drop_succ_cons, List.drop_zero]; rfl) ?_ | refine wl_frame (by simp only [List.cons_append, List.nil_append, List.drop_succ_cons, List.drop_zero]; rfl) ?_
      refine rk_seq ?_
      refine rk_drawo (id := 12) (none) [0, 1, 2, 0, 10, 23, 63] [0, 1, 3, 0, 11, 31, 63] 18 16 [0, 3, 1, 2, 4, 5, 6] [(.p, 0), (.p, 3), (.l, 1), (.s, 2), (.c, 4), (.p, 5), (.p, 6)] (by kernel_rfl) (by kernel_rfl) (by kernel_rfl) (by kernel_rfl) (by kernel_rfl) ?_
      dsimp only [inOrder, nthOp]
      replace hw := hw.drew
      replace f29 := f29.d
      refine wl_p (fun _ => o_move rfl) ?_
      refine wl_p (fun _ => o_move rfl) ?_
      refine wl_call rfl (C_dImage _ f29 him) ?_
      rintro v47 w47 ⟨A47, ⟨c47, ⟨rfl, ⟨f47, b47⟩⟩⟩⟩
      simp only [drew_size] at f47
      simp only [drew_size] at b47
      have qf47 := f47.cap
      have s47 := b47.size
      simp only [drew_size] at s47
      replace hw := hw.trans (b47.mono hw.size)
      replace f29 := f29.u b47
      refine wl_s (fun _ hk => (o_strU Try.underlying32 Try.underlying5 Try.underlying9 rfl f47.to_Rd (below_of_grown_none hk) rfl)) ?_
      refine wl_call rfl (C_dCached _ f29 hI) ?_ (hq := .inr fun _ _ h => by obtain ⟨_, _, _, _, hb⟩ := h; exact grown_of_below hb _)
      rintro v50 w50 ⟨A50, ⟨c50, ⟨rfl, ⟨f50, b50⟩⟩⟩⟩
      have qf50 := f50.cap
      have s50 := b50.size
      replace hw := hw.trans (b50.mono hw.size)
      replace f29 := f29.u b50
      replace f47 := f47.u b50
      refine wl_p (fun _ => o_assign rfl) ?_
      refine wl_p (fun _ => o_assign rfl) ?_
      refine wl_nild ?_
      refine rk_seq ?_
      refine rk_region ?_
      refine wl_p (fun _ => o_move rfl) ?_
      refine wl_call rfl (C_dClone _ f29) ?_
      rintro v52 w52 ⟨g52, ⟨rfl, ⟨f52, b52⟩⟩⟩
      have s52 := b52.size
      replace hw := hw.trans (b52.mono hw.size)
      replace f47 := f47.u b52
      replace f29 := f29.u b52
      replace f50 := f50.u b52
      refine wl_p (fun _ => o_assign rfl) ?_
      refine wl_nil ?_
      refine rk_seq ?_
      refine rk_seq ?_
      refine rk_region ?_
      refine wl_p (fun _ => o_assign rfl) ?_
      refine wl_nil ?_
      refine rk_block ?_
      have hsW1 : w29.heap.size ≤ w50.heap.size := by omega
      have hsW2 : w.heap.size ≤ w50.heap.size := by omega
      refine rk_joinf (fun fb fr V => ∃ (S2 : List Sec) (C2 : List (Option Sec)), fr = [] ++ fb.drop 1 ∧ (S2, C2) = runD S C M ∧ DkAt V w50.heap.size w52.heap.size g52 S2 C2 ∧ DkAt V w27.heap.size w29.heap.size g29 S C ∧ OwnZ V w47.heap.size w50.heap.size A50 c50 I ∧ Below w.heap.size w V) ?_ (fun ks hj => ?_)
      rotate_left
      · refine rk_loopf (fun fb k fr V => ∃ (i : Nat) (v : Int) (S2 : List Sec) (C2 : List (Option Sec)), fr = [(13, .int .i64 v)] ++ fb.drop 1 ∧ v = i ∧ i ≤ M.length ∧ k = M.length - i ∧ (S2, C2) = runD S C (M.take i) ∧ DkAt V w50.heap.size w52.heap.size g52 S2 C2 ∧ DkAt V w27.heap.size w29.heap.size g29 S C ∧ OwnZ V w47.heap.size w50.heap.size A50 c50 I ∧ Below w.heap.size w V) (n := M.length) (Fr.le_of (by kernel_rfl) (by kernel_rfl) (by repeat' constructor)) ⟨0, _, S, C, rfl, rfl, by omega, rfl, rfl, f52, f29, f50, hw⟩ ?_
        clear f29 f47 f50 f52 hw
        rintro k fr V ⟨i, v, S2, C2, rfl, rfl, hi, rfl, hr2, f52, f29, f50, hw⟩
        first | refine rk_frame (by simp only [List.cons_append, List.nil_append, List.drop_succ_cons, List.drop_zero]; rfl) ?_ | refine wl_frame (by simp only [List.cons_append, List.nil_append, List.drop_succ_cons, List.drop_zero]; rfl) ?_
        refine rk_seq ?_
        refine rk_seq ?_
        refine rk_region ?_
        refine wl_p (fun _ => o_move rfl) ?_
        refine wl_p (fun _ => o_move rfl) ?_
        refine wl_p (fun _ => o_len (t := 22) Try.underlying22 rfl) ?_
        refine wl_p (fun _ => o_lt rfl rfl) ?_
        refine wl_nil ?_
        refine rk_if rfl (fun h56 => ?_) (fun h56 => ?_)
        · have hil : i < M.length := by omega
          have hkl := hsM.2 _ (List.getElem_mem hil)
          obtain ⟨r, hst⟩ : ∃ r, stepD S2 C2 (M[i].1, M[i].2.1, M[i].2.2.1, M[i].2.2.2.1, M[i].2.2.2.2) = r := ⟨_, rfl⟩
          refine rk_skip ?_
          refine rk_seq ?_
          refine rk_block ?_
          refine rk_region ?_
          refine wl_p (fun _ => o_move rfl) ?_
          refine wl_p (fun _ => o_move rfl) ?_
          refine wl_p (fun _ => o_move rfl) ?_
          refine wl_p (fun _ => (o_iaddrA (i) Try.underlying22 Try.sizeOf35 rfl rfl rfl (hM.some_ (by omega)) (by omega))) ?_
          refine wl_ldDAct rfl hM hw (by omega) ?_
          rintro A163 c163 f63 i63 i63_1 e63 e63_1
          refine wl_call rfl (C_do _ f52 (f63.u hw) (by rfl) hst rfl (by omega) e63 e63_1) ?_
          rintro v64 w64 ⟨rfl, ⟨f64, g64⟩⟩
          have s64 := g64.size
          replace hw := hw.trans (g64.below hw.size (by omega))
          replace f50 := f50.c g64 (by omega)
          replace f29 := f29.c g64 (by omega)
          clear f52
          refine wl_nil ?_
          refine rk_blk ?_
          refine rk_region ?_
          refine wl_p (fun _ => o_move rfl) ?_
          refine wl_p (fun _ => o_add rfl rfl (by omega) (by omega)) ?_
          refine wl_p (fun _ => o_assign rfl) ?_
          refine wl_nil ?_
          have e : (r.1, r.2) = runD S C (M.take (i + 1)) := by rw [List.take_succ_eq_append_getElem hil, runD_snoc, ← hr2]; exact hst.symm
          exact rk_againf (Fr.le_of (by kernel_rfl) (by kernel_rfl) (by repeat' constructor)) ⟨i + 1, (i : Int) + 1, r.1, r.2, rfl, by omega, by omega, rfl, e, f64, f29, f50, hw⟩ (by omega)
        · refine rk_exit rfl ?_
          obtain rfl : i = M.length := by omega
          rw [List.take_length] at hr2
          exact rk_tof hj (Fr.le_of (by kernel_rfl) (by kernel_rfl) (by repeat' constructor)) ⟨S2, C2, rfl, hr2, f52, f29, f50, hw⟩
      clear f29 f47 f50 f52 hw
      rintro fr V ⟨S2, C2, rfl, hr2, f52, f29, f50, hw⟩
      have hIl : I.length ≤ 16384 := by rw [← hI, ixz_len]; have := cnt_le C; have := f29.len; have := f29.n2; omega
      first | refine rk_frame (by simp only [List.cons_append, List.nil_append, List.drop_succ_cons, List.drop_zero]; rfl) ?_ | refine wl_frame (by simp only [List.cons_append, List.nil_append, List.drop_succ_cons, List.drop_zero]; rfl) ?_
      refine rk_seq ?_
      refine rk_seq ?_
      refine rk_region ?_
      refine wl_p (fun _ => o_move rfl) ?_
      refine wl_call rfl (C_dImage _ f29 him) ?_
      rintro v66 w66 ⟨A66, ⟨c66, ⟨rfl, ⟨f66, b66⟩⟩⟩⟩
      have qf66 := f66.cap
      have s66 := b66.size
      replace hw := hw.trans (b66.mono hw.size)
      replace f50 := f50.u b66
      replace f29 := f29.u b66
      replace f52 := f52.u b66
      refine wl_r (o_strU Try.underlying32 Try.underlying5 Try.underlying9 rfl f66.to_Rd (Below.refl _ _) rfl) ?_
      refine wl_p (fun _ => o_move rfl) ?_
      refine wl_p (fun _ => o_sne rfl rfl) ?_
      refine wl_p (fun _ => o_move rfl) ?_
      refine wl_know 70 false rfl (by simp) ?_
      refine wl_p (fun _ => o_move rfl) ?_
      refine wl_call rfl (C_dCached _ f29 hI) ?_
      rintro v72 w72 ⟨A72, ⟨c72, ⟨rfl, ⟨f72, b72⟩⟩⟩⟩
      have qf72 := f72.cap
      have s72 := b72.size
      replace hw := hw.trans (b72.mono hw.size)
      replace f52 := f52.u b72
      replace f29 := f29.u b72
      replace f50 := f50.u b72
      replace f66 := f66.u b72
      refine wl_p (fun _ => o_move rfl) ?_
      refine wl_call rfl (C_IntsZ _ f72.to_RZ f50.to_RZ rfl rfl (by omega) (by omega)) ?_
      rintro v74 w74 ⟨rfl, b74⟩
      have s74 := b74.size
      replace hw := hw.trans (b74.mono hw.size)
      replace f66 := f66.u b74
      replace f50 := f50.u b74
      replace f29 := f29.u b74
      replace f52 := f52.u b74
      replace f72 := f72.u b74
      refine wl_p (fun _ => o_not rfl) ?_
      refine wl_p (fun _ => o_pick_f rfl rfl) ?_
      refine wl_nil ?_
      refine rk_cond rfl (fun h76 => by simp at h76) (fun h76 => ?_)
      refine rk_skip ?_
      refine rk_seq ?_
      refine rk_seq ?_
      refine rk_region ?_
      refine wl_p (fun _ => o_assign rfl) ?_
      refine wl_nil ?_
      refine rk_block ?_
      have hVs := f52.hi
      refine rk_joinf (fun fb fr U => fr = [] ++ fb.drop 4 ∧ DkAt U w50.heap.size w52.heap.size g52 S2 C2 ∧ DkAt U w27.heap.size w29.heap.size g29 S2 C2 ∧ Below w.heap.size w U) ?_ (fun ks hj => ?_)
      rotate_left
      · refine rk_loopf (fun fb k fr U => ∃ (i : Nat) (v : Int) (S3 : List Sec) (C3 : List (Option Sec)), fr = [(14, .int .i64 v)] ++ fb.drop 4 ∧ v = i ∧ i ≤ M.length ∧ k = M.length - i ∧ (S3, C3) = runD S C (M.take i) ∧ DkAt U w50.heap.size w52.heap.size g52 S2 C2 ∧ DkAt U w27.heap.size w29.heap.size g29 S3 C3 ∧ Below w.heap.size w U) (n := M.length) (Fr.le_of (by kernel_rfl) (by kernel_rfl) (by repeat' constructor)) ⟨0, _, S, C, rfl, rfl, by omega, rfl, rfl, f52, f29, hw⟩ ?_
        clear f29 f66 f72 f50 f52 hw
        rintro k fr U ⟨i, v, S3, C3, rfl, rfl, hi, rfl, hr3, f52, f29, hw⟩
        first | refine rk_frame (by simp only [List.cons_append, List.nil_append, List.drop_succ_cons, List.drop_zero]; rfl) ?_ | refine wl_frame (by simp only [List.cons_append, List.nil_append, List.drop_succ_cons, List.drop_zero]; rfl) ?_
        refine rk_seq ?_
        refine rk_seq ?_
        refine rk_region ?_
        refine wl_p (fun _ => o_move rfl) ?_
        refine wl_p (fun _ => o_move rfl) ?_
        refine wl_p (fun _ => o_len (t := 22) Try.underlying22 rfl) ?_
        refine wl_p (fun _ => o_lt rfl rfl) ?_
        refine wl_nil ?_
        refine rk_if rfl (fun h80 => ?_) (fun h80 => ?_)
        · have hil : i < M.length := by omega
          have hkl := hsM.2 _ (List.getElem_mem hil)
          obtain ⟨r, hst⟩ : ∃ r, stepD S3 C3 (M[i].1, M[i].2.1, M[i].2.2.1, M[i].2.2.2.1, M[i].2.2.2.2) = r := ⟨_, rfl⟩
          refine rk_skip ?_
          refine rk_seq ?_
          refine rk_block ?_
          refine rk_region ?_
          refine wl_p (fun _ => o_move rfl) ?_
          refine wl_p (fun _ => o_move rfl) ?_
          refine wl_p (fun _ => o_move rfl) ?_
          refine wl_p (fun _ => (o_iaddrA (i) Try.underlying22 Try.sizeOf35 rfl rfl rfl (hM.some_ (by omega)) (by omega))) ?_
          refine wl_ldDAct rfl hM hw (by omega) ?_
          rintro A187 c187 f87 i87 i87_1 e87 e87_1
          refine wl_call rfl (C_do _ f29 (f87.u hw) (by rfl) hst rfl (by omega) e87 e87_1) ?_
          rintro v88 w88 ⟨rfl, ⟨f88, g88⟩⟩
          have s88 := g88.size
          replace hw := hw.trans (g88.below hw.size (by omega))
          replace f52 := f52.c g88 (by omega)
          clear f29
          refine wl_nil ?_
          refine rk_blk ?_
          refine rk_region ?_
          refine wl_p (fun _ => o_move rfl) ?_
          refine wl_p (fun _ => o_add rfl rfl (by omega) (by omega)) ?_
          refine wl_p (fun _ => o_assign rfl) ?_
          refine wl_nil ?_
          have e : (r.1, r.2) = runD S C (M.take (i + 1)) := by rw [List.take_succ_eq_append_getElem hil, runD_snoc, ← hr3]; exact hst.symm
          exact rk_againf (Fr.le_of (by kernel_rfl) (by kernel_rfl) (by repeat' constructor)) ⟨i + 1, (i : Int) + 1, r.1, r.2, rfl, by omega, by omega, rfl, e, f52, f88, hw⟩ (by omega)
        · refine rk_exit rfl ?_
          obtain rfl : i = M.length := by omega
          rw [List.take_length, ← hr2] at hr3
          have h1 := congrArg Prod.fst hr3
          have h2 := congrArg Prod.snd hr3
          dsimp only at h1 h2
          rw [h1, h2] at f29
          exact rk_tof hj (Fr.le_of (by kernel_rfl) (by kernel_rfl) (by repeat' constructor)) ⟨rfl, f52, f29, hw⟩
      clear f29 f66 f72 f50 f52 hw
      rintro fr U ⟨rfl, f52, f29, hw⟩
      obtain ⟨I2, hI2⟩ : ∃ I, ixz C2 = I := ⟨_, rfl⟩
      obtain ⟨im2, him2⟩ : ∃ im, img S2 = im := ⟨_, rfl⟩
      have hIl2 : I2.length ≤ 16384 := by rw [← hI2, ixz_len]; have := cnt_le C2; have := f29.len; have := f29.n2; omega
      first | refine rk_frame (by simp only [List.cons_append, List.nil_append, List.drop_succ_cons, List.drop_zero]; rfl) ?_ | refine wl_frame (by simp only [List.cons_append, List.nil_append, List.drop_succ_cons, List.drop_zero]; rfl) ?_
      refine rk_seq ?_
      refine rk_drawo (id := 24) (none) [0, 1, 2, 0, 10, 16, 36, 80, 128, 384, 128, 1664, 2688, 4224, 12288, 16384, 49152, 16384, 212992, 344064, 540672, 2097151] [0, 1, 3, 0, 11, 27, 63, 127, 255, 511, 255, 2047, 4095, 8191, 16383, 32767, 65535, 32767, 262143, 524287, 1048575, 2097151] 334354 16 [0, 3, 1, 2, 4, 5, 6, 7, 8, 10, 9, 11, 12, 13, 14, 15, 17, 16, 18, 19, 20, 21] [(.p, 0), (.p, 3), (.l, 1), (.s, 2), (.c, 4), (.r, 5), (.p, 6), (.p, 7), (.p, 8), (.p, 10), (.l, 9), (.l, 11), (.l, 12), (.p, 13), (.p, 14), (.p, 15), (.p, 17), (.l, 16), (.l, 18), (.p, 19), (.p, 20), (.p, 21)] (by kernel_rfl) (by kernel_rfl) (by kernel_rfl) (by kernel_rfl) (by kernel_rfl) ?_
      dsimp only [inOrder, nthOp]
      replace hw := hw.drew
      replace f29 := f29.d
      replace f52 := f52.d
      refine wl_p (fun _ => o_move rfl) ?_
      refine wl_p (fun _ => o_move rfl) ?_
      refine wl_call rfl (C_dImage _ f29 him2) ?_
      rintro v90 w90 ⟨A90, ⟨c90, ⟨rfl, ⟨f90, b90⟩⟩⟩⟩
      simp only [drew_size] at f90
      simp only [drew_size] at b90
      have qf90 := f90.cap
      have s90 := b90.size
      simp only [drew_size] at s90
      replace hw := hw.trans (b90.mono hw.size)
      replace f52 := f52.u b90
      replace f29 := f29.u b90
      refine wl_s (fun _ hk => (o_strU Try.underlying32 Try.underlying5 Try.underlying9 rfl f90.to_Rd (below_of_grown_none hk) rfl)) ?_
      refine wl_call rfl (C_dImage _ f52 him2) ?_ (hq := .inr fun _ _ h => by obtain ⟨_, _, _, _, hb⟩ := h; exact grown_of_below hb _)
      rintro v93 w93 ⟨A93, ⟨c93, ⟨rfl, ⟨f93, b93⟩⟩⟩⟩
      have qf93 := f93.cap
      have s93 := b93.size
      replace hw := hw.trans (b93.mono hw.size)
      replace f29 := f29.u b93
      replace f52 := f52.u b93
      replace f90 := f90.u b93
      refine wl_r (o_strU Try.underlying32 Try.underlying5 Try.underlying9 rfl f93.to_Rd (Below.refl _ _) rfl) ?_
      refine wl_p (fun _ => o_seq rfl rfl) ?_
      refine wl_p (fun _ => o_move rfl) ?_
      refine wl_know 96 true rfl (by simp) ?_
      refine wl_p (fun _ => o_move rfl) ?_
      refine wl_p (fun _ => o_move rfl) ?_
      refine wl_call rfl (C_dCached _ f29 hI2) ?_
      rintro v98 w98 ⟨A98, ⟨c98, ⟨rfl, ⟨f98, b98⟩⟩⟩⟩
      have qf98 := f98.cap
      have s98 := b98.size
      replace hw := hw.trans (b98.mono hw.size)
      replace f90 := f90.u b98
      replace f52 := f52.u b98
      replace f29 := f29.u b98
      replace f93 := f93.u b98
      refine wl_call rfl (C_dCached _ f52 hI2) ?_
      rintro v100 w100 ⟨A100, ⟨c100, ⟨rfl, ⟨f100, b100⟩⟩⟩⟩
      have qf100 := f100.cap
      have s100 := b100.size
      replace hw := hw.trans (b100.mono hw.size)
      replace f93 := f93.u b100
      replace f29 := f29.u b100
      replace f52 := f52.u b100
      replace f90 := f90.u b100
      replace f98 := f98.u b100
      refine wl_call rfl (C_IntsZ _ f98.to_RZ f100.to_RZ rfl rfl (by omega) (by omega)) ?_
      rintro v101 w101 ⟨rfl, b101⟩
      have s101 := b101.size
      replace hw := hw.trans (b101.mono hw.size)
      replace f98 := f98.u b101
      replace f90 := f90.u b101
      replace f52 := f52.u b101
      replace f29 := f29.u b101
      replace f93 := f93.u b101
      replace f100 := f100.u b101
      refine wl_p (fun _ => o_pick_t rfl rfl) ?_
      refine wl_p (fun _ => o_move rfl) ?_
      refine wl_know 103 true rfl (by simp) ?_
      refine wl_p (fun _ => o_move rfl) ?_
      refine wl_p (fun _ => o_move rfl) ?_
      refine wl_call rfl (C_dSize _ f29) ?_
      rintro v105 w105 ⟨rfl, rfl⟩
      refine wl_call rfl (C_dSize _ f52) ?_
      rintro v107 w107 ⟨rfl, rfl⟩
      refine wl_p (fun _ => o_eq rfl rfl) ?_
      refine wl_p (fun _ => o_pick_t rfl rfl) ?_
      refine wl_p (fun _ => o_assign rfl) ?_
      refine wl_nild ?_
      refine ret1 rfl rfl ?_
      exact ⟨congrArg Value.bool (decide_eq_true rfl), hw⟩
end Go.Proofs.Ythkfjoilhoemmaa
/-
  The document's disk in memory; its methods.
-/
namespace Go.Proofs.Ythkfjoilhoemmaa
open Go.RowKit
theorem img_set : ∀ (S : List Sec) (i : Nat) (x : Sec), i < S.length → img (S.set i x) = (img S).take (i * 256) ++ x.1 ++ (img S).drop (i * 256 + 256)
  | s :: S, 0, x, _ => by
    have e : (s :: S).set 0 x = x :: S := rfl
    rw [e, img, img, List.flatMap_cons, List.flatMap_cons, Nat.zero_mul, List.take_zero, List.nil_append, Nat.zero_add]
    have h1 : (s.1 ++ List.flatMap Subtype.val S).drop 256 = List.flatMap Subtype.val S := by
      have := List.drop_left (l₁ := s.1) (l₂ := List.flatMap Subtype.val S)
      rwa [s.2] at this
    rw [h1]
  | s :: S, i + 1, x, h => by
    have ih := img_set S i x (by simpa using h)
    have e : (s :: S).set (i + 1) x = s :: S.set i x := rfl
    have e1 : img (s :: S) = s.1 ++ img S := rfl
    have e2 : img (s :: S.set i x) = s.1 ++ img (S.set i x) := rfl
    rw [e, e2, ih, e1, List.take_append, List.drop_append, s.2]
    have h1 : s.1.take ((i + 1) * 256) = s.1 := List.take_of_length_le (by have := s.2; omega)
    have h2 : s.1.drop ((i + 1) * 256 + 256) = [] := List.drop_eq_nil_of_le (by have := s.2; omega)
    have h3 : (i + 1) * 256 - 256 = i * 256 := by omega
    have h5 : (i + 1) * 256 = i * 256 + 256 := Nat.succ_mul i 256
    have h4 : (i + 1) * 256 + 256 - 256 = i * 256 + 256 := (Nat.add_sub_cancel _ _).trans h5
    rw [h1, h2, h3, h4]
    simp
theorem img_at : ∀ (S : List Sec) (i : Nat) (h : i < S.length), ((img S).drop (i * 256)).take 256 = S[i].1
  | s :: S, 0, _ => by
    have e1 : img (s :: S) = s.1 ++ img S := rfl
    rw [Nat.zero_mul, List.drop_zero, e1]
    have := List.take_left (l₁ := s.1) (l₂ := img S)
    rw [s.2] at this
    exact this
  | s :: S, i + 1, h => by
    have ih := img_at S i (by simpa using h)
    have e1 : img (s :: S) = s.1 ++ img S := rfl
    rw [e1, List.drop_append, s.2]
    have h2 : s.1.drop ((i + 1) * 256) = [] := List.drop_eq_nil_of_le (by have := s.2; omega)
    have h3 : (i + 1) * 256 - 256 = i * 256 := by omega
    rw [h2, h3, List.nil_append, ih]
    rfl
theorem img_z (n : Nat) : img (List.replicate n z256) = List.replicate (n * 256) 0 := by
  induction n with
  | zero => rfl
  | succ n ih =>
    rw [List.replicate_succ]
    have e1 : img (z256 :: List.replicate n z256) = z256.1 ++ img (List.replicate n z256) := rfl
    rw [e1, ih]
    show List.replicate 256 0 ++ _ = _
    rw [List.replicate_append_replicate, show 256 + n * 256 = (n + 1) * 256 by omega]
/-! Rows of slices' headers. -/
abbrev Hd := Option Addr × Nat × Nat
def vHd (h : Hd) : Value := .slice h.1 h.2.1 h.2.2
def gHd : GoT Hd := GoT.flat vHd (fun _ => True)
def OwnHd (w : World) (lo hi : Nat) (A : Option Addr) (c : Nat) (H : List Hd) : Prop := OwnS gHd 32 w lo hi A c H
section
variable {w w' : World} {lo hi lo' hi' cp b : Nat} {A : Option Addr} {S : List Hd} {e' : TypeId} {row : Option Nat}
theorem OwnHd.u (h : OwnHd w lo hi A cp S) (hb : Below w.heap.size w w') : OwnHd w' lo hi A cp S := OwnS.u h hb
theorem OwnHd.d (h : OwnHd w lo hi A cp S) : OwnHd w.drew lo hi A cp S := OwnS.d h
theorem OwnHd.y (h : OwnHd w lo hi A cp S) (hg : Grew w w' e' row) (hne : e' ∉ [32]) : OwnHd w' lo hi A cp S := OwnS.y h hg hne
theorem OwnHd.k (h : OwnHd w lo hi A cp S) (hg : w.grownBy w' row) (ha : Ap row lo hi) : OwnHd w' lo hi A cp S := by
  obtain ⟨xs, h1, h2⟩ := h
  exact ⟨xs, h1.k hg ha, h2⟩
theorem OwnHd.m (h : OwnHd w lo hi A cp S) (hg : GrewM w w' b) : OwnHd w' lo hi A cp S := OwnS.m h hg
theorem OwnHd.ap (h : OwnHd w lo hi A cp S) (hd : hi ≤ lo' ∨ hi' ≤ lo) : Ap (blk A) lo' hi' := OwnS.ap h hd
theorem OwnHd.cap (h : OwnHd w lo hi A cp S) : S.length ≤ cp := OwnS.cap h
theorem OwnHd.base (h : OwnHd w lo hi A cp S) (h1 : lo' ≤ lo) (h2 : hi ≤ hi') : OwnHd w lo' hi' A cp S := OwnS.base h h1 h2
theorem OwnHd.c (h : OwnHd w lo hi A cp S) (hc : Chg lo' hi' w w') (ha : hi ≤ lo' ∨ hi' ≤ lo) : OwnHd w' lo hi A cp S := OwnS.c0 h (fun h => h) hc ha
theorem OwnHd.some_ (h : OwnHd w lo hi A cp S) (hl : 0 < S.length) : A = some (A.getD ⟨0, 0, none⟩) := RSl.some_ (OwnS.to_RSl h) (show 0 < 1 by decide) hl
theorem OwnHd.rng (h : OwnHd w lo hi A cp S) : ∀ k, blk A = some k → lo ≤ k ∧ k < hi := by obtain ⟨xs, h1, _⟩ := h; exact fun k hk => ⟨(RowH.lt h1 k hk).1, h1.hi k hk⟩
theorem OwnHd.cell (h : OwnHd w lo hi A cp S) {j : Nat} (hj : j < S.length) : w.cell? (adr A j) = some (vHd S[j]) := by
  obtain ⟨cs, h1, h2⟩ := RSl.elem (OwnS.to_RSl h) (show 0 < 1 by decide) hj
  obtain ⟨rfl, _⟩ : cs = [vHd S[j]] ∧ True := h2
  have := h1 0 _ rfl
  rwa [Nat.add_zero, show j * gHd.sz = j from Nat.mul_one j] at this
end
theorem Try.rowHd : RowT Try.prog 55 32 (.slice none 0 0) 1 24 := ⟨Try.underlying55, by kernel_rfl, rfl, by omega⟩
section
variable {fn : Func} {F : Ending → World → Prop} {N : Nat} {ks : List K} {ops : Array Oper} {tg : Tags} {l : List Oper} {fr : Fr} {w : World} {ty t t' : TypeId} {pos : String} {aft : Array Edge} {gd : Option (Nat × Bool)} {k1 k2 : IntKind} {d n j c lo hi : Nat} {x y : Operand} {A : Option Addr} {S : List Hd} {s : Hd}
--@ rule load r o_ldHd
theorem o_ldHd (hx : fr.ev x = some (.pointer (some (adr A j)))) (hr : OwnHd w lo hi A c S) (hj : j < S.length) : OpV Try.prog N fr w (.load 32 x) ty (.slice S[j].1 S[j].2.1 S[j].2.2) w :=
  o_load Try.isAgg32 hx (hr.cell hj)
--@ rule store l wl_stHd
theorem wl_stHd {B : Option Addr} {m q : Nat} (hx : fr.ev x = some (.pointer (some (adr A j)))) (hown : OwnHd w lo hi A c S) (hy : fr.ev y = some (.slice B m q)) (hj : j < S.length)
    (hk : ∀ w', OwnHd w' lo hi A c (S.set j (B, m, q)) → Grew w w' 32 (blk A) → Below lo w w' → w'.heap.size = w.heap.size → WL Try.prog fn F N ks ops tg.tail l fr w') (ht : tg.loud = true := by rfl) (hg : onG ops fr gd = true := by rfl) (hq : tg.calm = false ∨ tg.rw.may (blk A) := by exact .inl rfl) :
    WL Try.prog fn F N ks ops tg (⟨none, .store 32 x y, ty, pos, aft, gd⟩ :: l) fr w := by
  have hown0 := hown
  obtain ⟨g, w', rfl, hr, e3, e4, e5⟩ := OwnS.put (X := gHd) (a := (B, m, q)) (vs := [.slice B m q]) (P := Try.prog) hown hj ⟨rfl, trivial⟩ (by simp [Value.oneCell']) (show 0 < 1 by decide) (by simp [gHd, GoT.flat])
  have hbl : Below lo w w' := by
    obtain ⟨xs, g1, _⟩ := hown0
    have hlt := RowH.lt g1 g rfl
    exact e4.below (by omega) (fun k hk => by have hk' : g = k := by simpa [blk] using hk
                                              omega)
  have ead : adr (some (⟨g, 0, none⟩ : Addr)) j = ⟨g, j, none⟩ := by simp [adr, add_plain]
  rw [ead] at hx
  have e1 : j * gHd.sz = j := Nat.mul_one j
  rw [e1] at hr
  refine wl_u (w' := w') (fun a ha op hop => ?_) (hk w' e3 e4 hbl e5) ht hg (hq.imp id (Rw.of_may e4.g))
  have hcs : (Value.slice B m q).cells = #[Value.slice B m q] := rfl
  simp [execOp, hop, ha.ev hx, ha.ev hy, Instr.storeAt, Instr.sureAddr, storeVar, hcs, Try.sizeOf32, hr]
--@ rule makeSlice l wl_mkHd
theorem wl_mkHd {E C : Int} (n : Nat) (hx : fr.ev x = some (.int k1 E)) (hy : fr.ev y = some (.int k2 C)) (hE : E = (n : Int)) (hC : C = (n : Int)) (hn : n ≤ 1000000)
    (hk : ∀ A w', OwnHd w' w.heap.size w'.heap.size A n (List.replicate n (none, 0, 0)) → Below w.heap.size w w' → WL Try.prog fn F N ks ops tg.tail l ((d, .slice A n n) :: fr) w')
    (ht : tg.loud = true := by rfl) (hg : onG ops fr gd = true := by rfl) (hd : Nat.blt d N = true := by rfl) : WL Try.prog fn F N ks ops tg (⟨some d, .makeSlice 55 x y, ty, pos, aft, gd⟩ :: l) fr w :=
  wl_mkS (X := gHd) Try.rowHd hx hy hE hC (by omega) (by omega) (fun _ => ⟨rfl, trivial⟩) hk ht hg hd
--@ rule binOp p o_slneN
theorem o_slneN {e : TypeId} {m q : Nat} (hu : Try.prog.underlying t = some (.slice e)) (hx : fr.ev x = some (.slice A m q)) (hy : fr.ev y = some (.slice none 0 0)) : OpV Try.prog N fr w (.binOp .neq t x y t') ty (.bool A.isSome) w :=
  o_bin hx hy (fun _ _ => by simp [go_sem]) (by simp only [binOp]; simp [run_equal_slice_nil hu])
end
section
variable {P : Program} {w w' : World} {lo hi e g k n c : Nat} {xs cur vs : List Value}
/-- Cells in the midst of a row are written. -/
theorem RowH.spl_ (h : RowH w lo hi e 1 (some ⟨g, 0, none⟩) n c xs) (hB : Blk w g e cur) (hB' : Blk w' g e (spl cur k vs)) (hk : k + vs.length ≤ n) (h0 : 0 < n) : RowH w' lo hi e 1 (some ⟨g, 0, none⟩) n c (spl xs k vs) := by
  have hrd := h.rd.1
  have ho := h.o
  obtain ⟨g', cur', e1, g1, g2, hB2, g3, g4, g5⟩ := h.blk_ h0
  injection e1 with e1
  injection e1 with e1
  subst e1
  have hcc : cur' = cur := by
    unfold Blk at hB hB2
    rw [hB] at hB2
    injection hB2 with hB2
    injection hB2 with hB2
    exact (List.toArray_inj hB2).symm
  subst hcc
  rw [Nat.mul_one] at g4 g5 hrd
  refine ⟨⟨?_, .inr ⟨g, c, (spl cur' k vs).toArray, rfl, g1, hB', g3, ?_, ?_, ?_⟩⟩, h.hi⟩
  · rw [spl_length (by omega), hrd, Nat.mul_one]
  · rcases ho.2 with ⟨hv', h0'⟩ | ⟨_, cap, _, hv', _, _, _, h4, _⟩
    · omega
    · injection hv' with _ _ e3; rw [e3]; exact h4
  · rw [List.size_toArray, spl_length (by omega), g4, Nat.mul_one]
  · show (spl cur' k vs).take (n * 1) = _
    rw [Nat.mul_one]
    apply List.ext_getElem?
    intro q
    rw [List.getElem?_take, getElem_spl (by omega), getElem_spl (by rw [hrd]; omega), ← g5, List.getElem?_take]
    by_cases hq : q < n
    · rw [if_pos hq, if_pos hq]
    · rw [if_neg hq, if_neg hq, if_neg (by omega)]
end
section
variable {fn : Func} {F : Ending → World → Prop} {N : Nat} {ks : List K} {ops : Array Oper} {tg : Tags} {l : List Oper} {fr : Fr} {w : World} {ty t t2 : TypeId} {pos : String} {aft : Array Edge} {gd : Option (Nat × Bool)} {d n c c' k j q lo hi : Nat} {x y : Operand} {A B : Option Addr} {s m : By}
--@ rule copy l wl_cpH
/-- copy, to the midst of bytes of the call's own. -/
theorem wl_cpH (T : U8 Try.prog t) (hx : fr.ev x = some (.slice (cutA A c 1 k) n c')) (hown : OwnH w lo hi A c s) (hy : fr.ev y = some (.slice B j q)) (hj : j = m.length) (hr : Rd w B m) (hn : n = s.length - k) (hm : k + m.length ≤ s.length) (h0 : 0 < m.length)
    (hk : ∀ w', OwnH w' lo hi A c (s.take k ++ m ++ s.drop (k + m.length)) → Grew w w' 5 (blk A) → Below lo w w' → w'.heap.size = w.heap.size → WL Try.prog fn F N ks ops tg.tail l ((d, .int .i64 (m.length : Nat)) :: fr) w')
    (ht : tg.loud = true := by rfl) (hg : onG ops fr gd = true := by rfl) (hd : Nat.blt d N = true := by rfl) (hq : tg.calm = false ∨ blk A = tg.row := by exact .inl rfl) :
    WL Try.prog fn F N ks ops tg (⟨some d, .call { callee := .builtin .copy, args := #[x, y], argTypes := #[t, t2] }, ty, pos, aft, gd⟩ :: l) fr w := by
  have hT := RowH.ty hown
  have hown0 : RowH w lo hi 5 1 A s.length c (B8 s) := hown
  obtain ⟨g, cur, rfl, g1, g2, hB, g3, g4, g5⟩ := hown0.blk_ (by omega)
  rw [Nat.mul_one] at g4 g5
  have hcut : cutA (some (⟨g, 0, none⟩ : Addr)) c 1 k = some ⟨g, k, none⟩ := by
    unfold cutA; rw [if_neg (by omega)]; simp [add_plain]
  rw [hcut] at hx
  have htk : m.take n = m := List.take_of_length_le (by omega)
  refine wl_copy T hx hy hj hr hB (by omega) (fun w' h1 h2 h3 => ?_) ht hg hd (hq.imp id (fun e => e))
  rw [htk] at h1
  have hmin : min j n = m.length := by omega
  rw [hmin]
  have h4 := hown0.spl_ hB h1 (by rw [B8_length]; omega) (by omega)
  have e1 : spl (B8 s) k (B8 m) = B8 (s.take k ++ m ++ s.drop (k + m.length)) := by
    unfold spl
    rw [B8_length]
    simp [B8, List.map_append, List.map_take, List.map_drop]
  have e2 : (s.take k ++ m ++ s.drop (k + m.length)).length = s.length := by
    rw [List.length_append, List.length_append, List.length_take, List.length_drop]; omega
  rw [e1] at h4
  have hlt := RowH.lt hown0 g rfl
  have hgr : Grew w w' 5 (blk (some (⟨g, 0, none⟩ : Addr))) := ⟨h2, hT⟩
  refine hk w' ?_ hgr (hgr.below (by omega) (fun k' hk' => by have hk2 : g = k' := by simpa [blk] using hk'
                                                              omega)) h3
  show RowH w' lo hi 5 1 _ (s.take k ++ m ++ s.drop (k + m.length)).length c _
  rw [e2]
  exact h4
--@ rule! append l wl_appB00
/-- append to nothing. -/
theorem wl_appB00 (hx : fr.ev x = some (.slice A 0 0)) (hown : OwnH w lo hi A 0 []) (hy : fr.ev y = some (.slice B j q)) (hr : Rd w B m) (hj : j = m.length) (hlen : m.length ≤ 4000000000) (hB : lo ≤ w.heap.size)
    (h : ∀ A' c' w', OwnH w' lo w'.heap.size A' c' m → Below w.heap.size w w' → WL Try.prog fn F N ks ops tg.tail l ((d, .slice A' m.length c') :: fr) w')
    (ht : tg.loud = true := by rfl) (hg : onG ops fr gd = true := by rfl) (hd : Nat.blt d N = true := by rfl) :
    WL Try.prog fn F N ks ops tg (⟨some d, .call { callee := .builtin .append, args := #[x, y], argTypes := #[32, 32] }, ty, pos, aft, gd⟩ :: l) fr w := by
  subst hj
  exact wl_appR0 (hi := hi) Try.rowB hx hown hy hr (B8_oneCell m) (by simp only [maxLen]; omega) (by omega) hB (fun A' c' w' k1 k2 => h A' c' w' k1 k2) ht hg hd
end
end Go.Proofs.Ythkfjoilhoemmaa
/-
  The document's disk in memory: New, Size, Read, Write, Cached.
-/
namespace Go.Proofs.Ythkfjoilhoemmaa
open Go.RowKit
/-- What a header of the cache points to: bytes in blocks at or above b. -/
def Ct1 (w : World) (b : Nat) (h : Hd) : Option Sec → Prop
  | none => h = (none, 0, 0)
  | some s => h.1.isSome = true ∧ h.2.1 = 256 ∧ 256 ≤ h.2.2 ∧ Rd w h.1 s.1 ∧ ∀ k, blk h.1 = some k → b ≤ k ∧ TyAt w k 5
structure Cts (w : World) (b : Nat) (H : List Hd) (C : List (Option Sec)) : Prop where
  len : H.length = C.length
  el : ∀ i (h1 : i < H.length) (h2 : i < C.length), Ct1 w b H[i] C[i]
section
variable {w w' : World} {lo hi b b' i : Nat} {H : List Hd} {C : List (Option Sec)} {row : Option Nat} {h : Hd} {x : Option Sec}
theorem Rd.keepB {A : Option Addr} {l : By} (h : Rd w A l) (hk : ∀ k, blk A = some k → k < w.heap.size → w'.heap[k]? = w.heap[k]?) : Rd w' A l := by
  by_cases hl : l = []
  · subst hl; exact ⟨h.1, fun h => absurd rfl h⟩
  · obtain ⟨b, o, rfl, hcl⟩ := h.2 (fun e => hl (by cases l with | nil => rfl | cons x y => cases e))
    refine ⟨h.1, fun _ => ⟨b, o, rfl, fun j u hj => ?_⟩⟩
    have h1 := hcl j u hj
    have hlt : b < w.heap.size := block_lt_of_cell h1
    rw [← h1]
    show World.cell? w' _ = World.cell? w _
    unfold World.cell?
    rw [show w'.heap[b]? = w.heap[b]? from hk b rfl hlt]
theorem Ct1.keep (hc : Ct1 w b h x) (hk : ∀ k, b ≤ k → TyAt w k 5 → w'.heap[k]? = w.heap[k]?) : Ct1 w' b h x := by
  cases x with
  | none => exact hc
  | some s =>
    obtain ⟨h1, h2, h3, h4, h5⟩ := hc
    exact ⟨h1, h2, h3, h4.keepB (fun k e _ => hk k (h5 k e).1 (h5 k e).2), fun k e => ⟨(h5 k e).1, (h5 k e).2.keep (hk k (h5 k e).1 (h5 k e).2)⟩⟩
theorem Cts.u (h : Cts w b H C) (hb : Below w.heap.size w w') : Cts w' b H C := ⟨h.len, fun i h1 h2 => (h.el i h1 h2).keep (fun k _ ht => hb.block k ht.lt)⟩
theorem Cts.d (h : Cts w b H C) : Cts w.drew b H C := h.u (below_drew w)
theorem Cts.k (h : Cts w b H C) (hg : w.grownBy w' row) (ha : Ap row b w.heap.size) : Cts w' b H C :=
  ⟨h.len, fun i h1 h2 => (h.el i h1 h2).keep (fun k hb ht => hg.block k ht.lt (fun e => by have := ha k e.symm; have := ht.lt; omega))⟩
theorem Cts.y {e' : TypeId} (h : Cts w b H C) (hg : Grew w w' e' row) (hne : e' ≠ 5) : Cts w' b H C :=
  ⟨h.len, fun i h1 h2 => (h.el i h1 h2).keep (fun k hb ht => hg.g.block k ht.lt (fun e => by
    obtain ⟨_, _, h3⟩ := ht
    obtain ⟨_, _, h4⟩ := hg.ty k e.symm
    rw [h3] at h4
    injection h4 with h4
    injection h4 with _ h4
    exact hne h4.symm))⟩
theorem Cts.c (h : Cts w b H C) (hc : Chg lo hi w w') (ha : hi ≤ b) : Cts w' b H C :=
  ⟨h.len, fun i h1 h2 => (h.el i h1 h2).keep (fun k hb ht => hc.block k ht.lt (by omega))⟩
theorem Cts.none_ (n : Nat) : Cts w b (List.replicate n (none, 0, 0)) (List.replicate n none) :=
  ⟨by simp, fun i h1 h2 => by rw [List.getElem_replicate, List.getElem_replicate]; exact rfl⟩
theorem Cts.clear_ (h : Cts w b H C) (i : Nat) : Cts w b (H.set i (none, 0, 0)) (C.set i none) :=
  ⟨by rw [List.length_set, List.length_set, h.len], fun j h1 h2 => by
    rw [List.length_set] at h1 h2
    rw [List.getElem_set, List.getElem_set]
    split
    · exact rfl
    · exact h.el j h1 h2⟩
theorem Cts.put_ {A : Option Addr} {cp : Nat} {s : Sec} (h : Cts w b H C) (i : Nat) (hs : OwnH w lo hi A cp s.1) (hl : b ≤ lo) : Cts w b (H.set i (A, 256, cp)) (C.set i (some s)) :=
  ⟨by rw [List.length_set, List.length_set, h.len], fun j h1 h2 => by
    rw [List.length_set] at h1 h2
    rw [List.getElem_set, List.getElem_set]
    split
    · have hA := (RowH.rd hs).some_ (show 0 < 1 by decide) (by rw [s.2]; decide)
      refine ⟨?_, rfl, by have := hs.cap; rw [s.2] at this; exact this, hs.to_Rd, fun k e => ⟨by have := RowH.lt hs k e; omega, RowH.ty hs k e⟩⟩
      show A.isSome = true
      rw [hA]; rfl
    · exact h.el j h1 h2⟩
theorem Cts.at_ (h : Cts w b H C) (hi : i < C.length) : Ct1 w b (H[i]'(by rw [h.len]; exact hi)) C[i] := h.el i _ hi
end
/-- The document's disk in the blocks from lo to hi (its cached sectors above): what is on it, what is cached. -/
structure RfAt (w : World) (lo hi g : Nat) (S : List Sec) (C : List (Option Sec)) : Prop where
  ex : ∃ (A : Option Addr) (c : Nat) (D : Option Addr) (q : Nat) (H : List Hd), Blk w g 57 [.slice A (img S).length c, .slice D H.length q] ∧ OwnH w lo hi A c (img S) ∧ OwnHd w lo hi D q H ∧ Cts w hi H C
  g1 : lo ≤ g
  g2 : g < hi
  hi : hi ≤ w.heap.size
  len : C.length = S.length
  n1 : 1 ≤ S.length
  n2 : S.length ≤ 16384
section
variable {w w' : World} {lo hi lo' hi' g : Nat} {S : List Sec} {C : List (Option Sec)}
theorem RfAt.u (h : RfAt w lo hi g S C) (hb : Below w.heap.size w w') : RfAt w' lo hi g S C := by
  obtain ⟨A, c, D, q, H, h1, h2, h3, h4⟩ := h.ex
  exact ⟨⟨A, c, D, q, H, h1.u hb, h2.u hb, h3.u hb, h4.u hb⟩, h.g1, h.g2, by have := h.hi; have := hb.size; omega, h.len, h.n1, h.n2⟩
theorem RfAt.d (h : RfAt w lo hi g S C) : RfAt w.drew lo hi g S C := h.u (below_drew w)
theorem RfAt.y {e' : TypeId} {row : Option Nat} (h : RfAt w lo hi g S C) (hg : Grew w w' e' row) (hne : e' ∉ [57, 32, 5]) : RfAt w' lo hi g S C := by
  obtain ⟨A, c, D, q, H, h1, h2, h3, h4⟩ := h.ex
  simp only [List.mem_cons, List.not_mem_nil, or_false, not_or] at hne
  exact ⟨⟨A, c, D, q, H, h1.y hg hne.1, RowH.y h2 hg hne.2.2, h3.y hg (by simpa using hne.2.1), h4.y hg hne.2.2⟩, h.g1, h.g2, by have := h.hi; have := hg.g.size; omega, h.len, h.n1, h.n2⟩
theorem RfAt.c (h : RfAt w lo hi g S C) (hc : Chg lo' hi' w w') (ha : hi' ≤ lo) : RfAt w' lo hi g S C := by
  obtain ⟨A, c, D, q, H, h1, h2, h3, h4⟩ := h.ex
  have := h.g1
  have := h.g2
  exact ⟨⟨A, c, D, q, H, h1.c hc (by omega), h2.c hc (.inr ha), h3.c hc (.inr ha), h4.c hc (by omega)⟩, h.g1, h.g2, by have := h.hi; have := hc.size; omega, h.len, h.n1, h.n2⟩
end
theorem C_rNew {n : Int} {m : Nat} {Z : List Sec} {Q : List (Option Sec)} (w : World) (hm : n = (m : Int)) (hZ : List.replicate m z256 = Z) (hQ : List.replicate m none = Q) (h1 : 1 ≤ m) (h2 : m ≤ 16384) :
    CallsR Try.prog 25 [.int .i64 n] w fun v w' => ∃ g, v = .tuple #[.pointer (some ⟨g, 0, none⟩), .int .i64 0] ∧ RfAt w' w.heap.size w'.heap.size g Z Q ∧ Below w.heap.size w w' := by
  subst hm; subst hZ; subst hQ
  obtain ⟨M, hM⟩ : ∃ M : Nat, M = m * 256 := ⟨_, rfl⟩
  have hM2 : (m : Int) * 256 = (M : Int) := by omega
  obtain ⟨I, hI⟩ : ∃ I : By, List.replicate M 0 = I := ⟨_, rfl⟩
  obtain ⟨H, hH⟩ : ∃ H : List Hd, List.replicate m (none, 0, 0) = H := ⟨_, rfl⟩
  refine callsR Try.func25 rfl rfl (by kernel_rfl) rfl ?_
  have hw := Below.refl w.heap.size w
  refine rk_seq ?_
  refine rk_region ?_
  refine wl_p (fun _ => o_assign rfl) ?_
  refine wl_p (fun _ => o_assign rfl) ?_
  refine wl_nil ?_
  refine rk_seq ?_
  refine rk_seq ?_
  refine rk_region ?_
  refine wl_p (fun _ => o_move rfl) ?_
  refine wl_p (fun _ => o_lt rfl rfl) ?_
  refine wl_p (fun _ => o_move rfl) ?_
  refine wl_know 6 false rfl (decide_eq_false (by omega)) ?_
  refine wl_p (fun _ => o_move rfl) ?_
  refine wl_p (fun _ => o_gt rfl rfl) ?_
  refine wl_p (fun _ => o_pick_f rfl rfl) ?_
  refine wl_nil ?_
  refine rk_if rfl (fun h9 => absurd h9 (by omega)) (fun h9 => ?_)
  refine rk_skip ?_
  refine rk_seq ?_
  refine rk_drawo (id := 3) (none) [0, 1, 2, 0, 8, 20, 32, 127, 255] [0, 1, 3, 0, 8, 31, 63, 127, 255] 84 0 [0, 1, 3] [(.p, 0), (.p, 1), (.p, 3), (.f 11 84 0, 6)] (by kernel_rfl) (by kernel_rfl) (by kernel_rfl) (by kernel_rfl) (by kernel_rfl) ?_
  dsimp only [inOrder, nthOp]
  replace hw := hw.drew
  refine wl_p (fun _ => o_move rfl) ?_
  refine wl_p (fun _ => o_mul rfl rfl (by omega) (by omega)) ?_
  refine wl_p (fun _ => o_move rfl) ?_
  · rw [hM2]
    refine wl_forkf (m := 11) (L := 84) (C := 0) (n := 6) (k1 := 2) (k2 := 4) (fun fb fr V => ∃ A D, fr = [(12, .slice A M M), (14, .slice D m m)] ++ fb ∧ OwnH V w.heap.size V.heap.size A M I ∧ OwnHd V w.heap.size V.heap.size D m (List.replicate m (none, 0, 0)) ∧ Below w.heap.size w V) [0, 1, 2, 0, 8, 20, 32, 127, 255] [0, 1, 3, 0, 8, 31, 63, 127, 255] [2, 4, 5, 6, 7, 8] [4, 2, 5, 6, 7, 8] [5, 6, 7, 8] [(.l, 4), (.p, 5), (.l, 6), (.p, 7), (.p, 8)] [(.l, 2), (.p, 5), (.l, 6), (.p, 7), (.p, 8)] [(.p, 5), (.l, 6), (.p, 7), (.p, 8)] (by kernel_rfl) (by kernel_rfl) (by kernel_rfl) (by kernel_rfl) (by kernel_rfl) ?_ (fun hj => ?_) (fun hj => ?_) <;> dsimp only [inOrder, nthOp]
    · clear hw
      rintro fr V ⟨A, D, rfl, fa, fh, hw⟩
      have hsV := hw.size
      first | refine rk_frame (by simp only [List.cons_append, List.nil_append, List.drop_succ_cons, List.drop_zero]; rfl) ?_ | refine wl_frame (by simp only [List.cons_append, List.nil_append, List.drop_succ_cons, List.drop_zero]; rfl) ?_
      refine wl_p (fun _ => (o_buildg [_, _] Try.underlying57 Try.zeroValue57 (by rfl) (by rfl) rfl (by rfl) (by rfl) (fun _ => by kernel_rfl))) ?_
      refine wl_boxg [_, _] rfl (by rfl) ?_
      rintro g16 w16 f16 b16 i16 i16_1
      have s16 := b16.size
      replace hw := hw.trans (b16.mono hw.size)
      replace fh := fh.u b16
      replace fa := fa.u b16
      refine wl_p (fun _ => o_assign rfl) ?_
      refine wl_p (fun _ => o_assign rfl) ?_
      refine wl_nild ?_
      refine ret2 rfl rfl rfl ?_
      have hsz := hw.size
      have e1 : img (List.replicate m z256) = I := by rw [img_z, ← hM, hI]
      have e2 : I.length = M := by rw [← hI, List.length_replicate]
      have e3 : (List.replicate m ((none, 0, 0) : Hd)).length = m := List.length_replicate
      exact ⟨g16, rfl, ⟨⟨A, M, D, m, _, by rw [e1, e2, e3]; exact f16, by rw [e1]; exact fa.base (Nat.le_refl _) (by omega), fh.base (Nat.le_refl _) (by omega), Cts.none_ m⟩, by omega, by omega, Nat.le_refl _, by rw [List.length_replicate, List.length_replicate], by rw [List.length_replicate]; omega, by rw [List.length_replicate]; omega⟩, hw⟩
    · refine wl_mkBz (M) rfl rfl rfl rfl (by omega) hI ?_
      rintro A12 w12 f12 b12
      simp only [drew_size] at f12
      simp only [drew_size] at b12
      have qf12 := f12.cap
      have s12 := b12.size
      simp only [drew_size] at s12
      replace hw := hw.trans (b12.mono hw.size)
      refine wl_mkHd (m) rfl rfl rfl rfl (by omega) ?_
      rintro A14 w14 f14 b14
      have qf14 := f14.cap
      have s14 := b14.size
      replace hw := hw.trans (b14.mono hw.size)
      replace f12 := f12.u b14
      exact wl_tof hj (Fr.le_of (by kernel_rfl) (by kernel_rfl) (by repeat' constructor)) ⟨_, _, rfl, f12.base (by omega) (by omega), f14.base (by omega) (by omega), hw⟩
    · refine wl_mkHd (m) rfl rfl rfl rfl (by omega) ?_
      rintro A14 w14 f14 b14
      simp only [drew_size] at f14
      simp only [drew_size] at b14
      have qf14 := f14.cap
      have s14 := b14.size
      simp only [drew_size] at s14
      replace hw := hw.trans (b14.mono hw.size)
      refine wl_mkBz (M) rfl rfl rfl rfl (by omega) hI ?_
      rintro A12 w12 f12 b12
      have qf12 := f12.cap
      have s12 := b12.size
      replace hw := hw.trans (b12.mono hw.size)
      replace f14 := f14.u b12
      exact wl_tof hj (Fr.le_of (by kernel_rfl) (by kernel_rfl) (by repeat' constructor)) ⟨_, _, rfl, f12.base (by omega) (by omega), f14.base (by omega) (by omega), hw⟩
theorem C_rSize {lo hi g : Nat} {S : List Sec} {C : List (Option Sec)} (w : World) (hd : RfAt w lo hi g S C) :
    CallsR Try.prog 38 [.pointer (some ⟨g, 0, none⟩)] w fun v w' => v = .int .i64 (S.length : Int) ∧ w' = w := by
  obtain ⟨A, c, D, q, H, f, fa, fh, fc⟩ := hd.ex
  have hHl := fc.len
  have hCl := hd.len
  refine callsR Try.func38 rfl rfl (by kernel_rfl) rfl ?_
  refine rk_seq ?_
  refine rk_region ?_
  refine wl_p (fun _ => o_assign rfl) ?_
  refine wl_nil ?_
  refine rk_seq ?_
  refine rk_region ?_
  refine wl_p (fun _ => o_move rfl) ?_
  refine wl_p (fun _ => o_nil rfl) ?_
  refine wl_p (fun _ => o_faddr (s := 57) (i := 1) (off := 1) Try.underlying57 rfl Try.sizeOf55 rfl rfl rfl) ?_
  refine wl_r (o_loadbg Try.isAgg55 rfl f (by rfl)) ?_
  refine wl_p (fun _ => o_len (t := 55) Try.underlying55 rfl) ?_
  refine wl_p (fun _ => o_assign rfl) ?_
  refine wl_nil ?_
  refine ret1 rfl rfl ?_
  exact ⟨by rw [hHl, hCl], rfl⟩
theorem C_rRead {lo hi g : Nat} {S : List Sec} {C : List (Option Sec)} {a : Int} {r : By × Nat} (w : World) (hd : RfAt w lo hi g S C) (hr : rdD S C a = r) (wa : (Lit.int .i64 a).wf = true) :
    CallsR Try.prog 26 [.pointer (some ⟨g, 0, none⟩), .int .i64 a] w fun v w' => ∃ (A : Option Addr) (c : Nat), v = .tuple #[.slice A r.1.length c, .int .i64 (r.2 : Int)] ∧ RdB w' w.heap.size w'.heap.size A r.1 ∧ r.1.length ≤ c ∧ Below w.heap.size w w' := by
  subst hr
  refine callsR Try.func26 rfl rfl (by kernel_rfl) rfl ?_
  have hw := Below.refl w.heap.size w
  refine rk_seq ?_
  refine rk_region ?_
  refine wl_p (fun _ => o_assign rfl) ?_
  refine wl_p (fun _ => o_assign rfl) ?_
  refine wl_nil ?_
  refine rk_seq ?_
  refine rk_seq ?_
  refine rk_region ?_
  refine wl_p (fun _ => o_move rfl) ?_
  refine wl_p (fun _ => o_lt rfl rfl) ?_
  refine wl_p (fun _ => o_move rfl) ?_
  by_cases h0 : 0 ≤ a ∧ a < S.length
  · obtain ⟨A, c, D, q, H, f, fa, fh, fc⟩ := hd.ex
    have hHl := fc.len
    have hCl := hd.len
    have hle := hd.n2
    obtain ⟨i, rfl⟩ : ∃ i : Nat, a = (i : Int) := ⟨a.toNat, by omega⟩
    have hiC : i < C.length := by omega
    have hiS : i < S.length := by omega
    have h1 := fc.at_ hiC
    have hci := cAt_nat C hiC
    have hat := img_at S i hiS
    have him := img_len S
    cases hcc : C[i] with
    | some s =>
      rw [hcc] at h1
      obtain ⟨k1, k2, k3, k4, k5⟩ := h1
      have hs2 : s.1.length = 256 := s.2
      rw [show rdD S C (i : Int) = (s.1, 0) by rw [rdD, dif_pos h0, hci, hcc]; rfl]
      refine wl_p (fun _ => o_move rfl) ?_
      refine wl_p (fun _ => o_move rfl) ?_
      refine wl_call rfl (C_rSize _ hd) ?_
      rintro v11 w11 ⟨rfl, rfl⟩
      refine wl_p (fun _ => o_ge rfl rfl) ?_
      refine wl_p (fun _ => o_pick_f rfl rfl) ?_
      refine wl_nil ?_
      refine rk_if rfl (fun h13 => absurd h13 (by omega)) (fun h13 => ?_)
      refine rk_skip ?_
      refine rk_seq ?_
      refine rk_seq ?_
      refine rk_region ?_
      refine wl_p (fun _ => o_move rfl) ?_
      refine wl_p (fun _ => o_nil rfl) ?_
      refine wl_p (fun _ => o_faddr (s := 57) (i := 1) (off := 1) Try.underlying57 rfl Try.sizeOf55 rfl rfl rfl) ?_
      refine wl_r (o_loadbg Try.isAgg55 rfl f (by rfl)) ?_
      refine wl_p (fun _ => o_move rfl) ?_
      refine wl_p (fun _ => (o_iaddrA1 (i) Try.underlying55 Try.sizeOf32 rfl rfl rfl (fh.some_ (by omega)) (by omega))) ?_
      refine wl_r (o_ldHd rfl fh (by omega)) ?_
      refine wl_p (fun _ => (o_slneN Try.underlying32 rfl rfl)) ?_
      refine wl_nil ?_
      rw [k1]
      refine rk_true rfl ?_
      refine rk_seq ?_
      refine rk_region ?_
      refine wl_litB [] Try.u8 Try.sizeOf5 Try.zeroValue5 (by rfl) rfl rfl (by rfl) (by rfl) (by rfl) ?_
      rintro A22 w22 f22 b22
      have qf22 := f22.cap
      have s22 := b22.size
      replace hw := hw.trans (b22.mono hw.size)
      refine wl_p (fun _ => o_move rfl) ?_
      refine wl_p (fun _ => o_nil rfl) ?_
      refine wl_p (fun _ => o_faddr (s := 57) (i := 1) (off := 1) Try.underlying57 rfl Try.sizeOf55 rfl rfl rfl) ?_
      refine wl_r (o_loadbg Try.isAgg55 rfl (f.u hw) (by rfl)) ?_
      refine wl_p (fun _ => o_move rfl) ?_
      refine wl_p (fun _ => (o_iaddrA1 (i) Try.underlying55 Try.sizeOf32 rfl rfl rfl (fh.some_ (by omega)) (by omega))) ?_
      refine wl_r (o_ldHd rfl (fh.u hw) (by omega)) ?_
      refine wl_appB00 rfl f22 rfl (k4.u hw) (by omega) (by omega) hw.size ?_
      rintro A30 c30 w30 f30 b30
      have qf30 := f30.cap
      have s30 := b30.size
      replace hw := hw.trans (b30.mono hw.size)
      replace f22 := f22.u b30
      refine wl_p (fun _ => o_assign rfl) ?_
      refine wl_p (fun _ => o_assign rfl) ?_
      refine wl_nil ?_
      refine ret2 rfl rfl rfl ?_
      exact ⟨A30, c30, rfl, f30.rdB, f30.cap, hw⟩
    | none =>
      rw [hcc] at h1
      have k1 : H[i] = (none, 0, 0) := h1
      rw [show rdD S C (i : Int) = (S[i].1, 0) by rw [rdD, dif_pos h0, hci, hcc]; rfl]
      have e : (i + 1) * 256 - i * 256 = 256 := by omega
      refine wl_p (fun _ => o_move rfl) ?_
      refine wl_p (fun _ => o_move rfl) ?_
      refine wl_call rfl (C_rSize _ hd) ?_
      rintro v11 w11 ⟨rfl, rfl⟩
      refine wl_p (fun _ => o_ge rfl rfl) ?_
      refine wl_p (fun _ => o_pick_f rfl rfl) ?_
      refine wl_nil ?_
      refine rk_if rfl (fun h13 => absurd h13 (by omega)) (fun h13 => ?_)
      refine rk_skip ?_
      refine rk_seq ?_
      refine rk_seq ?_
      refine rk_region ?_
      refine wl_p (fun _ => o_move rfl) ?_
      refine wl_p (fun _ => o_nil rfl) ?_
      refine wl_p (fun _ => o_faddr (s := 57) (i := 1) (off := 1) Try.underlying57 rfl Try.sizeOf55 rfl rfl rfl) ?_
      refine wl_r (o_loadbg Try.isAgg55 rfl f (by rfl)) ?_
      refine wl_p (fun _ => o_move rfl) ?_
      refine wl_p (fun _ => (o_iaddrA1 (i) Try.underlying55 Try.sizeOf32 rfl rfl rfl (fh.some_ (by omega)) (by omega))) ?_
      refine wl_r (o_ldHd rfl fh (by omega)) ?_
      refine wl_p (fun _ => (o_slneN Try.underlying32 rfl rfl)) ?_
      refine wl_nil ?_
      rw [k1]
      simp only [Option.isSome_none]
      refine rk_false rfl ?_
      refine rk_skip ?_
      refine rk_seq ?_
      refine rk_region ?_
      refine wl_litB [] Try.u8 Try.sizeOf5 Try.zeroValue5 (by rfl) rfl rfl (by rfl) (by rfl) (by rfl) ?_
      rintro A31 w31 f31 b31
      have qf31 := f31.cap
      have s31 := b31.size
      replace hw := hw.trans (b31.mono hw.size)
      refine wl_p (fun _ => o_move rfl) ?_
      refine wl_p (fun _ => o_nil rfl) ?_
      refine wl_p (fun _ => o_faddr (s := 57) (i := 0) (off := 0) Try.underlying57 rfl Try.sizeOf32 rfl rfl rfl) ?_
      refine wl_r (o_loadbg Try.isAgg32 rfl (f.u hw) (by rfl)) ?_
      refine wl_p (fun _ => o_move rfl) ?_
      refine wl_p (fun _ => o_mul rfl rfl (by omega) (by omega)) ?_
      refine wl_p (fun _ => o_move rfl) ?_
      refine wl_p (fun _ => o_add rfl rfl (by omega) (by omega)) ?_
      refine wl_p (fun _ => o_mul rfl rfl (by omega) (by omega)) ?_
      refine wl_slBB Try.u8 (i * 256) ((i + 1) * 256) rfl rfl rfl (fa.u hw).to_Rd rfl (by omega) (by omega) (by omega) (by omega) fa.cap ?_
      rintro A41 c41 f41 i41 i41_1
      refine wl_appB00 rfl f31 rfl f41 (by simp; omega) (by simp; omega) hw.size ?_
      rintro A42 c42 w42 f42 b42
      have qf42 := f42.cap
      have s42 := b42.size
      replace hw := hw.trans (b42.mono hw.size)
      replace f41 := f41.u b42
      replace f31 := f31.u b42
      refine wl_p (fun _ => o_assign rfl) ?_
      refine wl_p (fun _ => o_assign rfl) ?_
      refine wl_nil ?_
      rw [e, hat] at f42
      rw [e, hat]
      refine ret2 rfl rfl rfl ?_
      exact ⟨A42, c42, rfl, f42.rdB, f42.cap, hw⟩
  · rw [show rdD S C a = ([], 2) by rw [rdD, dif_neg h0]]
    by_cases ha : a < 0
    · refine wl_know 8 true rfl (decide_eq_true (by omega)) ?_
      refine wl_off ?_
      refine wl_off ?_
      refine wl_off ?_
      refine wl_off ?_
      refine wl_p (fun _ => o_pick_t rfl rfl) ?_
      refine wl_nil ?_
      refine rk_true rfl ?_
      refine rk_seq ?_
      refine rk_region ?_
      refine wl_p (fun _ => o_assign rfl) ?_
      refine wl_p (fun _ => o_assign rfl) ?_
      refine wl_nil ?_
      refine ret2 rfl rfl rfl ?_
      exact ⟨none, 0, rfl, RdB.nil_, by simp, hw⟩
    · refine wl_know 8 false rfl (decide_eq_false (by omega)) ?_
      refine wl_p (fun _ => o_move rfl) ?_
      refine wl_p (fun _ => o_move rfl) ?_
      refine wl_call rfl (C_rSize _ hd) ?_
      rintro v11 w11 ⟨rfl, rfl⟩
      refine wl_p (fun _ => o_ge rfl rfl) ?_
      refine wl_p (fun _ => o_pick_f rfl rfl) ?_
      refine wl_nil ?_
      refine rk_if rfl (fun h13 => ?_) (fun h13 => h13.elim (by omega))
      refine rk_seq ?_
      refine rk_region ?_
      refine wl_p (fun _ => o_assign rfl) ?_
      refine wl_p (fun _ => o_assign rfl) ?_
      refine wl_nil ?_
      refine ret2 rfl rfl rfl ?_
      exact ⟨none, 0, rfl, RdB.nil_, by simp, hw⟩
theorem C_rWrite {lo hi g n cp : Nat} {S : List Sec} {C : List (Option Sec)} {r : List (Option Sec) × Nat} {a : Int} {B : Option Addr} {b : By} (w : World) (hd : RfAt w lo hi g S C) (hb : Rd w B b) (hr : wrC S C a b = r) (wa : (Lit.int .i64 a).wf = true) (hn : n = b.length) (hc : n ≤ cp) (hm : b.length ≤ 1000000) :
    CallsR Try.prog 29 [.pointer (some ⟨g, 0, none⟩), .int .i64 a, .slice B n cp] w fun v w' => v = .int .i64 (r.2 : Int) ∧ RfAt w' lo hi g S r.1 ∧ Chg lo hi w w' := by
  subst hr; subst hn
  refine callsR Try.func29 rfl rfl (by kernel_rfl) rfl ?_
  have hcg : Chg lo hi w w := Chg.refl
  refine rk_seq ?_
  refine rk_region ?_
  refine wl_p (fun _ => o_assign rfl) ?_
  refine wl_nil ?_
  refine rk_seq ?_
  refine rk_seq ?_
  refine rk_region ?_
  refine wl_p (fun _ => o_move rfl) ?_
  refine wl_p (fun _ => o_lt rfl rfl) ?_
  refine wl_p (fun _ => o_move rfl) ?_
  by_cases h0 : 0 ≤ a ∧ a < S.length
  · by_cases hbl : b.length = 256
    · obtain ⟨A, c, D, q, H, f, fa, fh, fc⟩ := hd.ex
      have hHl := fc.len
      have hCl := hd.len
      have hle := hd.n2
      have hhi := hd.hi
      have hg1 := hd.g1
      have hg2 := hd.g2
      have hn1 := hd.n1
      obtain ⟨i, rfl⟩ : ∃ i : Nat, a = (i : Int) := ⟨a.toNat, by omega⟩
      have hiC : i < C.length := by omega
      rw [show wrC S C (i : Int) b = (C.set i (some ⟨b, hbl⟩), 0) by rw [wrC, dif_pos ⟨h0, hbl⟩]; rfl]
      refine wl_p (fun _ => o_move rfl) ?_
      refine wl_p (fun _ => o_move rfl) ?_
      refine wl_call rfl (C_rSize _ hd) ?_
      rintro v12 w12 ⟨rfl, rfl⟩
      refine wl_p (fun _ => o_ge rfl rfl) ?_
      refine wl_p (fun _ => o_pick_f rfl rfl) ?_
      refine wl_p (fun _ => o_move rfl) ?_
      refine wl_know 15 false rfl (decide_eq_false (by omega)) ?_
      refine wl_p (fun _ => o_move rfl) ?_
      refine wl_p (fun _ => o_len (t := 32) Try.underlying32 rfl) ?_
      refine wl_p (fun _ => o_ne rfl rfl) ?_
      refine wl_p (fun _ => o_pick_f rfl rfl) ?_
      refine wl_nil ?_
      refine rk_if rfl (fun h19 => absurd h19 (by omega)) (fun h19 => ?_)
      refine rk_skip ?_
      refine rk_seq ?_
      refine rk_drawoB (id := 3) (none) [0, 1, 2, 4, 0, 0, 0, 96, 255, 511] [0, 1, 3, 7, 0, 0, 0, 96, 255, 511] 672 160 [0, 1, 2, 3, 4, 6, 5, 7, 8, 9] [(.p, 0), (.p, 1), (.p, 2), (.s, 3), (.p, 4), (.p, 6), (.c, 5), (.c, 7), (.p, 8), (.l, 9)] (by kernel_rfl) (by kernel_rfl) (by kernel_rfl) (by kernel_rfl) (by kernel_rfl) ?_
      dsimp only [inOrder, nthOp]
      replace hcg := hcg.trans Chg.drew
      replace fc := fc.d
      replace fh := fh.d
      replace fa := fa.d
      replace f := f.d
      replace hb := hb.d
      replace hd := hd.d
      refine wl_p (fun _ => o_move rfl) ?_
      refine wl_p (fun _ => o_nil rfl) ?_
      refine wl_p (fun _ => o_faddr (s := 57) (i := 1) (off := 1) Try.underlying57 rfl Try.sizeOf55 rfl rfl rfl) ?_
      refine wl_s (fun _ hk => (o_loadbg Try.isAgg55 rfl (f.u (below_of_ok hk (Nat.le_refl _) (fun _ e => by cases e))) (by rfl))) ?_
      refine wl_p (fun _ => o_move rfl) ?_
      refine wl_p (fun _ => o_move rfl) ?_
      refine wl_litB [] Try.u8 Try.sizeOf5 Try.zeroValue5 (by rfl) rfl rfl (by rfl) (by rfl) (by rfl) ?_
      rintro A25 w25 f25 b25
      simp only [drew_size] at f25
      simp only [drew_size] at b25
      have qf25 := f25.cap
      have s25 := b25.size
      simp only [drew_size] at s25
      replace hcg := hcg.thenB b25
      replace hd := hd.u b25
      replace hb := hb.u b25
      replace f := f.u b25
      replace fa := fa.u b25
      replace fh := fh.u b25
      replace fc := fc.u b25
      refine wl_appB00 rfl f25 rfl hb rfl (by omega) (by omega) ?_
      rintro A27 c27 w27 f27 b27
      have qf27 := f27.cap
      have s27 := b27.size
      replace hcg := hcg.thenB b27
      replace fc := fc.u b27
      replace fh := fh.u b27
      replace fa := fa.u b27
      replace f := f.u b27
      replace hb := hb.u b27
      replace hd := hd.u b27
      replace f25 := f25.u b27
      refine wl_p (fun _ => (o_iaddrA1 (i) Try.underlying55 Try.sizeOf32 rfl rfl rfl (fh.some_ (by omega)) (by omega))) ?_
      refine wl_stHd rfl fh rfl (by omega) ?_
      rintro w f_1 g_1 b_1 e
      have qf_1 := f_1.cap
      have s := g_1.size
      replace hcg := hcg.trans ((Chg.of_g g_1.g f_1.rng).wide (by omega) (by omega))
      replace f25 := f25.y g_1 (by decide)
      replace f := f.y g_1 (by decide)
      replace fa := fa.y g_1 (by decide)
      replace fc := fc.y g_1 (by decide)
      replace f27 := f27.y g_1 (by decide)
      clear hd
      clear hb
      clear fh
      refine wl_nild ?_
      refine rk_seq ?_
      refine rk_region ?_
      refine wl_p (fun _ => o_assign rfl) ?_
      refine wl_nil ?_
      refine ret1 rfl rfl ?_
      rw [hbl] at f_1
      have e1 : (H.set i (A27, 256, c27)).length = H.length := List.length_set ..
      have e2 : (C.set i (some ⟨b, hbl⟩)).length = C.length := List.length_set ..
      exact ⟨rfl, ⟨⟨A, c, D, q, H.set i (A27, 256, c27), by rw [e1]; exact f, fa, f_1, fc.put_ (s := ⟨b, hbl⟩) i f27 hhi⟩, hg1, hg2, by have := hcg.size; omega, by rw [e2]; exact hCl, hn1, hle⟩, hcg⟩
    · rw [show wrC S C a b = (C, 2) by rw [wrC, dif_neg (fun h => hbl h.2)]]
      refine wl_know 9 false rfl (decide_eq_false (by omega)) ?_
      refine wl_p (fun _ => o_move rfl) ?_
      refine wl_p (fun _ => o_move rfl) ?_
      refine wl_call rfl (C_rSize _ hd) ?_
      rintro v12 w12 ⟨rfl, rfl⟩
      refine wl_p (fun _ => o_ge rfl rfl) ?_
      refine wl_p (fun _ => o_pick_f rfl rfl) ?_
      refine wl_p (fun _ => o_move rfl) ?_
      refine wl_know 15 false rfl (decide_eq_false (by omega)) ?_
      refine wl_p (fun _ => o_move rfl) ?_
      refine wl_p (fun _ => o_len (t := 32) Try.underlying32 rfl) ?_
      refine wl_p (fun _ => o_ne rfl rfl) ?_
      refine wl_p (fun _ => o_pick_f rfl rfl) ?_
      refine wl_nil ?_
      refine rk_if rfl (fun h19 => ?_) (fun h19 => h19.elim (by omega))
      refine rk_seq ?_
      refine rk_region ?_
      refine wl_p (fun _ => o_assign rfl) ?_
      refine wl_nil ?_
      refine ret1 rfl rfl ?_
      exact ⟨rfl, hd, hcg⟩
  · rw [show wrC S C a b = (C, 2) by rw [wrC, dif_neg (fun h => h0 h.1)]]
    by_cases ha : a < 0
    · refine wl_know 9 true rfl (decide_eq_true (by omega)) ?_
      refine wl_off ?_
      refine wl_off ?_
      refine wl_off ?_
      refine wl_off ?_
      refine wl_p (fun _ => o_pick_t rfl rfl) ?_
      refine wl_p (fun _ => o_move rfl) ?_
      refine wl_off ?_
      refine wl_off ?_
      refine wl_off ?_
      refine wl_p (fun _ => o_pick_t rfl rfl) ?_
      refine wl_nil ?_
      refine rk_true rfl ?_
      refine rk_seq ?_
      refine rk_region ?_
      refine wl_p (fun _ => o_assign rfl) ?_
      refine wl_nil ?_
      refine ret1 rfl rfl ?_
      exact ⟨rfl, hd, hcg⟩
    · refine wl_know 9 false rfl (decide_eq_false (by omega)) ?_
      refine wl_p (fun _ => o_move rfl) ?_
      refine wl_p (fun _ => o_move rfl) ?_
      refine wl_call rfl (C_rSize _ hd) ?_
      rintro v12 w12 ⟨rfl, rfl⟩
      refine wl_p (fun _ => o_ge rfl rfl) ?_
      refine wl_p (fun _ => o_pick_f rfl rfl) ?_
      refine wl_p (fun _ => o_move rfl) ?_
      refine wl_know 15 true rfl (decide_eq_true (by omega)) ?_
      refine wl_off ?_
      refine wl_off ?_
      refine wl_off ?_
      refine wl_p (fun _ => o_pick_t rfl rfl) ?_
      refine wl_nil ?_
      refine rk_true rfl ?_
      refine rk_seq ?_
      refine rk_region ?_
      refine wl_p (fun _ => o_assign rfl) ?_
      refine wl_nil ?_
      refine ret1 rfl rfl ?_
      exact ⟨rfl, hd, hcg⟩
theorem ixs_snoc : ∀ (k : Nat) (C : List (Option Sec)) (c : Option Sec), ixs k (C ++ [c]) = ixs k C ++ (if c.isSome then [k + C.length] else [])
  | k, [], c => by cases c <;> simp [ixs]
  | k, none :: C, c => by
    rw [List.cons_append, ixs, ixs, ixs_snoc (k + 1) C c, List.length_cons, show k + 1 + C.length = k + (C.length + 1) by omega]
  | k, some x :: C, c => by
    rw [List.cons_append, ixs, ixs, ixs_snoc (k + 1) C c, List.length_cons, show k + 1 + C.length = k + (C.length + 1) by omega, List.cons_append]
theorem ixz_take {C : List (Option Sec)} {i : Nat} (h : i < C.length) : ixz (C.take (i + 1)) = ixz (C.take i) ++ (if C[i].isSome then [(i : Int)] else []) := by
  rw [List.take_succ_eq_append_getElem h, ixz, cix, ixs_snoc, List.map_append, List.length_take, Nat.min_eq_left (Nat.le_of_lt h), Nat.zero_add]
  cases C[i] <;> rfl
theorem C_rCached {lo hi g : Nat} {S : List Sec} {C : List (Option Sec)} {I : List Int} (w : World) (hd : RfAt w lo hi g S C) (hr : ixz C = I) :
    CallsR Try.prog 30 [.pointer (some ⟨g, 0, none⟩)] w fun v w' => ∃ A c, v = .slice A I.length c ∧ OwnZ w' w.heap.size w'.heap.size A c I ∧ Below w.heap.size w w' := by
  refine callsR Try.func30 rfl rfl (by kernel_rfl) rfl ?_
  have hw := Below.refl w.heap.size w
  have hCl := hd.len
  have hle := hd.n2
  refine rk_seq ?_
  refine rk_region ?_
  refine wl_p (fun _ => o_assign rfl) ?_
  refine wl_nil ?_
  refine rk_seq ?_
  refine rk_region ?_
  refine wl_p (fun _ => o_assign rfl) ?_
  refine wl_nil ?_
  refine rk_seq ?_
  refine rk_seq ?_
  refine rk_region ?_
  refine wl_p (fun _ => o_assign rfl) ?_
  refine wl_nil ?_
  refine rk_block ?_
  refine rk_joinf (fun fb fr V => ∃ A c, fr = [(3, .slice A I.length c)] ++ fb.drop 2 ∧ OwnZ V w.heap.size V.heap.size A c I ∧ Below w.heap.size w V) ?_ (fun ks hj => ?_)
  rotate_left
  · refine rk_loopf (fun fb m fr V => ∃ (i : Nat) (v : Int) (A : Option Addr) (c : Nat) (Z : List Int), fr = [(4, .int .i64 v), (3, .slice A Z.length c)] ++ fb.drop 2 ∧ v = i ∧ i ≤ S.length ∧ m = S.length - i ∧ Z = ixz (C.take i) ∧ OwnZ V w.heap.size V.heap.size A c Z ∧ Below w.heap.size w V) (n := S.length) (Fr.le_of (by kernel_rfl) (by kernel_rfl) (by repeat' constructor)) ⟨0, _, none, 0, [], rfl, rfl, by omega, rfl, rfl, OwnZ.nil_, hw⟩ ?_
    clear hw
    rintro m fr V ⟨i, v, A, c, Z, rfl, rfl, hi', rfl, hZ, fz, hw⟩
    have hdV := hd.u hw
    have q := fz.cap
    have hsV := hw.size
    first | refine rk_frame (by simp only [List.cons_append, List.nil_append, List.drop_succ_cons, List.drop_zero]; rfl) ?_ | refine wl_frame (by simp only [List.cons_append, List.nil_append, List.drop_succ_cons, List.drop_zero]; rfl) ?_
    refine rk_seq ?_
    refine rk_seq ?_
    refine rk_region ?_
    refine wl_p (fun _ => o_move rfl) ?_
    refine wl_p (fun _ => o_move rfl) ?_
    refine wl_call rfl (C_rSize _ hdV) ?_
    rintro v7 w7 ⟨rfl, rfl⟩
    refine wl_p (fun _ => o_lt rfl rfl) ?_
    refine wl_nil ?_
    refine rk_if rfl (fun h8 => ?_) (fun h8 => ?_)
    · obtain ⟨A1, c1, D, q1, H, f, fa, fh, fc⟩ := hdV.ex
      have hHl := fc.len
      have hiC : i < C.length := by omega
      have h1 := fc.at_ hiC
      have hZs := ixz_take hiC
      have hZl : Z.length ≤ 16384 := by rw [hZ, ixz_len]; have := cnt_le (C.take i); rw [List.length_take] at this; omega
      cases hcc : C[i] with
      | some s =>
        rw [hcc] at h1 hZs
        obtain ⟨k1, k2, k3, k4, k5⟩ := h1
        refine rk_skip ?_
        refine rk_seq ?_
        refine rk_block ?_
        refine rk_seq ?_
        refine rk_region ?_
        refine wl_p (fun _ => o_move rfl) ?_
        refine wl_p (fun _ => o_nil rfl) ?_
        refine wl_p (fun _ => o_faddr (s := 57) (i := 1) (off := 1) Try.underlying57 rfl Try.sizeOf55 rfl rfl rfl) ?_
        refine wl_r (o_loadbg Try.isAgg55 rfl f (by rfl)) ?_
        refine wl_p (fun _ => o_move rfl) ?_
        refine wl_p (fun _ => (o_iaddrA1 (i) Try.underlying55 Try.sizeOf32 rfl rfl rfl (fh.some_ (by omega)) (by omega))) ?_
        refine wl_r (o_ldHd rfl fh (by omega)) ?_
        refine wl_p (fun _ => (o_slneN Try.underlying32 rfl rfl)) ?_
        refine wl_nil ?_
        rw [k1]
        refine rk_true rfl ?_
        refine rk_region ?_
        refine wl_p (fun _ => o_move rfl) ?_
        refine wl_p (fun _ => o_move rfl) ?_
        refine wl_litZH [↑i] (by rfl) rfl rfl (by rfl) (by rfl) (by rfl) ?_
        rintro A21 w21 f21 b21
        have qf21 := f21.cap
        have s21 := b21.size
        replace hw := hw.trans (b21.mono hw.size)
        replace k4 := k4.u b21
        replace fc := fc.u b21
        replace fh := fh.u b21
        replace fa := fa.u b21
        replace f := f.u b21
        replace hdV := hdV.u b21
        replace fz := fz.u b21
        refine wl_appZ rfl fz rfl rfl f21.to_RZ (by rfl) (by omega) hw.size ?_
        rintro A22 c22 w22 f22 g22 b22 i22
        have qf22 := f22.cap
        have s22 := g22.size
        replace hw := hw.trans (b22.mono (by omega))
        replace hdV := hdV.y g22 (by decide)
        replace f := f.y g22 (by decide)
        replace fa := fa.y g22 (by decide)
        replace fh := fh.y g22 (by decide)
        replace fc := fc.y g22 (by decide)
        replace f21 := f21.k g22.g (fz.ap (by omega))
        clear fz
        clear k4
        refine wl_p (fun _ => o_assign rfl) ?_
        refine wl_nil ?_
        refine rk_blk ?_
        refine rk_region ?_
        refine wl_p (fun _ => o_move rfl) ?_
        refine wl_p (fun _ => o_add rfl rfl (by omega) (by omega)) ?_
        refine wl_p (fun _ => o_assign rfl) ?_
        refine wl_nil ?_
        exact rk_againf (Fr.le_of (by kernel_rfl) (by kernel_rfl) (by repeat' constructor)) ⟨i + 1, (i : Int) + 1, _, _, Z ++ [(i : Int)], rfl, by omega, by omega, rfl, by rw [hZs, hZ]; rfl, f22.base (Nat.le_refl _) (by omega), hw⟩ (by omega)
      | none =>
        rw [hcc] at h1 hZs
        have k1 : H[i] = (none, 0, 0) := h1
        refine rk_skip ?_
        refine rk_seq ?_
        refine rk_block ?_
        refine rk_seq ?_
        refine rk_region ?_
        refine wl_p (fun _ => o_move rfl) ?_
        refine wl_p (fun _ => o_nil rfl) ?_
        refine wl_p (fun _ => o_faddr (s := 57) (i := 1) (off := 1) Try.underlying57 rfl Try.sizeOf55 rfl rfl rfl) ?_
        refine wl_r (o_loadbg Try.isAgg55 rfl f (by rfl)) ?_
        refine wl_p (fun _ => o_move rfl) ?_
        refine wl_p (fun _ => (o_iaddrA1 (i) Try.underlying55 Try.sizeOf32 rfl rfl rfl (fh.some_ (by omega)) (by omega))) ?_
        refine wl_r (o_ldHd rfl fh (by omega)) ?_
        refine wl_p (fun _ => (o_slneN Try.underlying32 rfl rfl)) ?_
        refine wl_nil ?_
        rw [k1]
        simp only [Option.isSome_none]
        refine rk_false rfl ?_
        refine rk_skip ?_
        refine rk_blk ?_
        refine rk_region ?_
        refine wl_p (fun _ => o_move rfl) ?_
        refine wl_p (fun _ => o_add rfl rfl (by omega) (by omega)) ?_
        refine wl_p (fun _ => o_assign rfl) ?_
        refine wl_nil ?_
        exact rk_againf (Fr.le_of (by kernel_rfl) (by kernel_rfl) (by repeat' constructor)) ⟨i + 1, (i : Int) + 1, _, _, Z, rfl, by omega, by omega, rfl, by rw [hZs, hZ]; simp, fz, hw⟩ (by omega)
    · refine rk_exit rfl ?_
      obtain rfl : i = S.length := by omega
      rw [List.take_of_length_le (by omega), hr] at hZ
      subst hZ
      exact rk_tof hj (Fr.le_of (by kernel_rfl) (by kernel_rfl) (by repeat' constructor)) ⟨_, _, rfl, fz, hw⟩
  clear hw
  rintro fr V ⟨A, c, rfl, fz, hw⟩
  have q := fz.cap
  first | refine rk_frame (by simp only [List.cons_append, List.nil_append, List.drop_succ_cons, List.drop_zero]; rfl) ?_ | refine wl_frame (by simp only [List.cons_append, List.nil_append, List.drop_succ_cons, List.drop_zero]; rfl) ?_
  refine rk_seq ?_
  refine rk_region ?_
  refine wl_p (fun _ => o_move rfl) ?_
  refine wl_p (fun _ => o_assign rfl) ?_
  refine wl_nil ?_
  refine ret1 rfl rfl ?_
  exact ⟨A, c, rfl, fz, hw⟩
end Go.Proofs.Ythkfjoilhoemmaa
/-
  The document's disk: put, Flush, Crash.
-/
namespace Go.Proofs.Ythkfjoilhoemmaa
open Go.RowKit
/-- What is on it, and what is cached, when the first i sectors are gone through. -/
def putS (S : List Sec) (C : List (Option Sec)) (kp : List Bool) (i : Nat) : List Sec := crash (S.take i) (C.take i) kp ++ S.drop i
def putC (C : List (Option Sec)) (i : Nat) : List (Option Sec) := List.replicate i none ++ C.drop i
section
variable {S : List Sec} {C : List (Option Sec)} {kp : List Bool} {i : Nat}
theorem putS_len (hi : i ≤ S.length) : (putS S C kp i).length = S.length := by
  rw [putS, List.length_append, crash_len, List.length_take, List.length_drop]; omega
theorem putC_len (hi : i ≤ C.length) : (putC C i).length = C.length := by
  rw [putC, List.length_append, List.length_replicate, List.length_drop]; omega
theorem putS_zero : putS S C kp 0 = S := by simp [putS, crash]
theorem putC_zero : putC C 0 = C := by simp [putC]
theorem putS_all (hl : C.length = S.length) : putS S C kp S.length = crash S C kp := by
  rw [putS, List.take_length, List.take_of_length_le (by omega), List.drop_length, List.append_nil]
theorem putC_all (hl : C.length = i) : putC C i = List.replicate i none := by
  rw [putC, List.drop_eq_nil_of_le (by omega), List.append_nil]
theorem putC_get (hi : i < C.length) : (putC C i)[i]'(by rw [putC_len (by omega)]; exact hi) = C[i] := by
  simp [putC, List.getElem_append_right]
theorem putC_step (hi : i < C.length) : putC C (i + 1) = (putC C i).set i none := by
  rw [putC, putC, List.drop_eq_getElem_cons hi, List.replicate_succ', List.append_assoc, List.set_append_right _ _ (by simp), List.length_replicate, Nat.sub_self]
  rfl
theorem putC_none (hi : i < C.length) (h : C[i] = none) : putC C (i + 1) = putC C i := by
  rw [putC, putC, List.drop_eq_getElem_cons hi, List.replicate_succ', List.append_assoc, h]; rfl
theorem putS_step (hl : C.length = S.length) (hi : i < S.length) : putS S C kp (i + 1) = crash (S.take i) (C.take i) kp ++ ((match C[i]'(by omega) with | none => S[i] | some x => if (kp.drop (cnt (C.take i))).headD false then x else S[i]) :: S.drop (i + 1)) := by
  rw [putS, List.take_succ_eq_append_getElem hi, List.take_succ_eq_append_getElem (by omega), crash_snoc _ _ _ _ _ (by rw [List.length_take, List.length_take, hl]), List.append_assoc]; rfl
theorem putS_none (hl : C.length = S.length) (hi : i < S.length) (h : C[i]'(by omega) = none) : putS S C kp (i + 1) = putS S C kp i := by
  rw [putS_step hl hi, h, putS, List.drop_eq_getElem_cons hi]
theorem putS_not {x : Sec} (hl : C.length = S.length) (hi : i < S.length) (h : C[i]'(by omega) = some x) (hk : (kp.drop (cnt (C.take i))).headD false = false) : putS S C kp (i + 1) = putS S C kp i := by
  rw [putS_step hl hi, h, putS, List.drop_eq_getElem_cons hi]
  dsimp only
  rw [hk]; rfl
theorem putS_put {x : Sec} (hl : C.length = S.length) (hi : i < S.length) (h : C[i]'(by omega) = some x) (hk : (kp.drop (cnt (C.take i))).headD false = true) : putS S C kp (i + 1) = (putS S C kp i).set i x := by
  have h1 : (crash (S.take i) (C.take i) kp).length = i := by rw [crash_len, List.length_take]; omega
  rw [putS_step hl hi, h, putS, List.drop_eq_getElem_cons hi]
  dsimp only
  rw [hk, if_pos rfl, List.set_append_right _ _ (by omega), h1, Nat.sub_self]
  rfl
theorem cnt_take_none (hi : i < C.length) (h : C[i] = none) : cnt (C.take (i + 1)) = cnt (C.take i) := by
  rw [List.take_succ_eq_append_getElem hi, h]; simp [cnt]
theorem cnt_take_some {x : Sec} (hi : i < C.length) (h : C[i] = some x) : cnt (C.take (i + 1)) = cnt (C.take i) + 1 := by
  rw [List.take_succ_eq_append_getElem hi, h]; simp [cnt]
theorem headD_drop {l : List Bool} {k : Nat} (h : k < l.length) : (l.drop k).headD false = l[k] := by
  rw [List.drop_eq_getElem_cons h]; rfl
theorem headD_drop0 {l : List Bool} {k : Nat} (h : l.length ≤ k) : (l.drop k).headD false = false := by
  rw [List.drop_eq_nil_of_le h]; rfl
theorem headD_rep {n k : Nat} (h : k < n) : ((List.replicate n true).drop k).headD false = true := by
  rw [headD_drop (by rw [List.length_replicate]; exact h), List.getElem_replicate]
end
section
variable {fn : Func} {F : Ending → World → Prop} {N : Nat} {ks : List K} {ops : Array Oper} {tg : Tags} {l : List Oper} {fr : Fr} {w : World} {ty t : TypeId} {pos : String} {aft : Array Edge} {gd : Option (Nat × Bool)} {d lo2 hi2 : Nat} {x y : Operand} {A : Option Addr}
--@ rule! slice l wl_slOwn
/-- s[lo:], to be written. -/
theorem wl_slOwn (T : U8 Try.prog t) {p : List UInt8} {len cap : Nat} {kl : IntKind} {L : Int} (lo : Nat) (hx : fr.ev x = some (.slice A len cap)) (hy : fr.ev y = some (.int kl L)) (hown : OwnH w lo2 hi2 A cap p) (hlen : len = p.length) (hl : L = (lo : Int)) (h1 : lo ≤ p.length)
    (hk : WL Try.prog fn F N ks ops tg.tail l ((d, .slice (cutA A cap 1 lo) (p.length - lo) (cap - lo)) :: fr) w) (hg : onG ops fr gd = true := by rfl) (hd : Nat.blt d N = true := by rfl) :
    WL Try.prog fn F N ks ops tg (⟨some d, .slice t x (some y) none none, ty, pos, aft, gd⟩ :: l) fr w := by
  subst hlen
  exact wl_p (fun _ => o_slice_lo T.ht Try.sizeOf5 hx hy hl (by have := hown.cap; omega)) hk hg hd
end
theorem OwnH.rng {w : World} {lo hi c : Nat} {A : Option Addr} {l : By} (h : OwnH w lo hi A c l) : ∀ k, blk A = some k → lo ≤ k ∧ k < hi := fun k hk => ⟨(RowH.lt h k hk).1, h.hi k hk⟩
set_option maxRecDepth 100000 in
theorem K_put {lo hi lo2 hi2 g n cp : Nat} {S S0 : List Sec} {C C0 : List (Option Sec)} {K : Option Addr} {kp kq : List Bool} {all : Bool} (w : World) (hd : RfAt w lo hi g S C) (hk : RdBo w lo2 hi2 K kp) (hq : (if all then List.replicate S.length true else kp) = kq) (hS0 : crash S C kq = S0) (hC0 : List.replicate S.length none = C0) (ha : hi2 ≤ lo ∨ hi ≤ lo2) (hn : n = kp.length) (hm : n ≤ 1000000) :
    CallsR Try.prog 39 [.pointer (some ⟨g, 0, none⟩), .slice K n cp, .bool all] w fun v w' => v = .tuple #[] ∧ RfAt w' lo hi g S0 C0 ∧ Chg lo hi w w' := by
  subst hn; subst hS0; subst hC0
  refine callsR Try.func39 rfl rfl (by kernel_rfl) rfl ?_
  have hcg : Chg lo hi w w := Chg.refl
  have hhi := hd.hi
  have hg1 := hd.g1
  have hg2 := hd.g2
  have hCl := hd.len
  have hn1 := hd.n1
  have hn2 := hd.n2
  have hcl := cnt_le C
  refine rk_seq ?_
  refine rk_region ?_
  refine wl_p (fun _ => o_assign rfl) ?_
  refine wl_nil ?_
  refine rk_seq ?_
  refine rk_region ?_
  refine wl_p (fun _ => o_assign rfl) ?_
  refine wl_nil ?_
  refine rk_block ?_
  refine rk_joinf (fun fb fr V => fr = [] ++ fb.drop 2 ∧ RfAt V lo hi g (crash S C kq) (List.replicate S.length none) ∧ Chg lo hi w V) ?_ (fun ks hj => ?_)
  rotate_left
  · refine rk_loopf (fun fb m fr V => ∃ (i : Nat) (v u : Int) (S1 : List Sec) (C1 : List (Option Sec)), fr = [(7, .int .i64 v), (6, .int .i64 u)] ++ fb.drop 2 ∧ v = i ∧ i ≤ S.length ∧ m = S.length - i ∧ u = (cnt (C.take i) : Nat) ∧ S1 = putS S C kq i ∧ C1 = putC C i ∧ RfAt V lo hi g S1 C1 ∧ RdBo V lo2 hi2 K kp ∧ Chg lo hi w V) (n := S.length) (Fr.le_of (by kernel_rfl) (by kernel_rfl) (by repeat' constructor)) ⟨0, _, _, S, C, rfl, rfl, by omega, rfl, rfl, putS_zero.symm, putC_zero.symm, hd, hk, hcg⟩ ?_
    clear hd hk hcg
    rintro m fr V ⟨i, v, u, S1, C1, rfl, rfl, hi', rfl, rfl, hS1, hC1, hd, hk, hcg⟩
    have hSl : S1.length = S.length := by rw [hS1, putS_len hi']
    have hsz := hcg.size
    first | refine rk_frame (by simp only [List.cons_append, List.nil_append, List.drop_succ_cons, List.drop_zero]; rfl) ?_ | refine wl_frame (by simp only [List.cons_append, List.nil_append, List.drop_succ_cons, List.drop_zero]; rfl) ?_
    refine rk_seq ?_
    refine rk_seq ?_
    refine rk_region ?_
    refine wl_p (fun _ => o_move rfl) ?_
    refine wl_p (fun _ => o_move rfl) ?_
    refine wl_call rfl (C_rSize _ hd) ?_
    rintro v10 w10 ⟨rfl, rfl⟩
    refine wl_p (fun _ => o_lt rfl rfl) ?_
    refine wl_nil ?_
    refine rk_if rfl (fun h11 => ?_) (fun h11 => ?_)
    · obtain ⟨A, c, D, q, H, f, fa, fh, fc⟩ := hd.ex
      have hHl := fc.len
      have hC1l := hd.len
      have hhV := hd.hi
      have hiC : i < C.length := by omega
      have hiC1 : i < C1.length := by omega
      have hC1i : C1[i] = C[i] := by subst hC1; exact putC_get hiC
      have h1 := fc.at_ hiC1
      rw [hC1i] at h1
      cases hcc : C[i] with
      | none =>
        rw [hcc] at h1
        have k1 : H[i] = (none, 0, 0) := h1
        refine rk_skip ?_
        refine rk_seq ?_
        refine rk_block ?_
        refine rk_seq ?_
        refine rk_seq ?_
        refine rk_region ?_
        refine wl_p (fun _ => o_move rfl) ?_
        refine wl_p (fun _ => o_nil rfl) ?_
        refine wl_p (fun _ => o_faddr (s := 57) (i := 1) (off := 1) Try.underlying57 rfl Try.sizeOf55 rfl rfl rfl) ?_
        refine wl_r (o_loadbg Try.isAgg55 rfl f (by rfl)) ?_
        refine wl_p (fun _ => o_move rfl) ?_
        refine wl_p (fun _ => (o_iaddrA1 (i) Try.underlying55 Try.sizeOf32 rfl rfl rfl (fh.some_ (by omega)) (by omega))) ?_
        refine wl_r (o_ldHd rfl fh (by omega)) ?_
        refine wl_p (fun _ => (o_sleqN Try.underlying32 rfl rfl)) ?_
        refine wl_nil ?_
        rw [k1]
        simp only [Option.isNone_none]
        refine rk_true rfl ?_
        refine rk_exit rfl ?_
        refine rk_region ?_
        refine wl_p (fun _ => o_move rfl) ?_
        refine wl_p (fun _ => o_add rfl rfl (by omega) (by omega)) ?_
        refine wl_p (fun _ => o_assign rfl) ?_
        refine wl_nil ?_
        exact rk_againf (Fr.le_of (by kernel_rfl) (by kernel_rfl) (by repeat' constructor)) ⟨i + 1, (i : Int) + 1, _, S1, C1, rfl, by omega, by omega, rfl, by rw [cnt_take_none hiC hcc], by rw [putS_none hCl (by omega) hcc]; exact hS1, by rw [putC_none hiC hcc]; exact hC1, hd, hk, hcg⟩ (by omega)
      | some x =>
        rw [hcc] at h1
        obtain ⟨k1, k2, k3, k4, k5⟩ := h1
        have k1' : H[i].1.isNone = false := by cases hh : H[i].1 with | none => rw [hh] at k1; cases k1 | some a => rfl
        have hkc : cnt (C.take i) ≤ i := by have := cnt_le (C.take i); rw [List.length_take] at this; omega
        have hks := cnt_take_some hiC hcc
        have hs2 : x.1.length = 256 := x.2
        have him := img_len S1
        have hnot := putS_not (kp := kq) hCl (by omega) hcc
        have hput := putS_put (kp := kq) hCl (by omega) hcc
        have hstep := putC_step hiC
        obtain ⟨k, hkk⟩ : ∃ k, cnt (C.take i) = k := ⟨_, rfl⟩
        rw [hkk] at hkc hks hnot hput
        rw [hkk]
        refine rk_skip ?_
        refine rk_seq ?_
        refine rk_block ?_
        refine rk_seq ?_
        refine rk_seq ?_
        refine rk_region ?_
        refine wl_p (fun _ => o_move rfl) ?_
        refine wl_p (fun _ => o_nil rfl) ?_
        refine wl_p (fun _ => o_faddr (s := 57) (i := 1) (off := 1) Try.underlying57 rfl Try.sizeOf55 rfl rfl rfl) ?_
        refine wl_r (o_loadbg Try.isAgg55 rfl f (by rfl)) ?_
        refine wl_p (fun _ => o_move rfl) ?_
        refine wl_p (fun _ => (o_iaddrA1 (i) Try.underlying55 Try.sizeOf32 rfl rfl rfl (fh.some_ (by omega)) (by omega))) ?_
        refine wl_r (o_ldHd rfl fh (by omega)) ?_
        refine wl_p (fun _ => (o_sleqN Try.underlying32 rfl rfl)) ?_
        refine wl_nil ?_
        rw [k1']
        cases all with
        | true =>
          rw [if_pos rfl] at hq
          have hbit : (kq.drop k).headD false = true := by rw [← hq]; exact headD_rep (by omega)
          refine rk_false rfl ?_
          refine rk_skip ?_
          refine rk_seq ?_
          refine rk_seq ?_
          refine rk_region ?_
          refine wl_p (fun _ => o_move rfl) ?_
          refine wl_p (fun _ => o_move rfl) ?_
          refine wl_off ?_
          refine wl_off ?_
          refine wl_off ?_
          refine wl_off ?_
          refine wl_off ?_
          refine wl_off ?_
          refine wl_off ?_
          refine wl_off ?_
          refine wl_off ?_
          refine wl_off ?_
          refine wl_p (fun _ => o_pick_t rfl rfl) ?_
          refine wl_nil ?_
          refine rk_true rfl ?_
          refine rk_draw (id := 6) (none) [0, 1, 2, 4, 0, 16, 40, 0, 128, 256, 512, 0, 3072, 4096, 8256] [0, 1, 3, 7, 0, 16, 63, 0, 128, 384, 896, 0, 3968, 8064, 16383] 16384 0 [(.p, 0), (.p, 1), (.p, 2), (.r, 3), (.p, 4), (.p, 5), (.p, 6), (.p, 7), (.p, 8), (.p, 9), (.r, 10), (.p, 11), (.p, 12), (.r, 13), (.l, 14)] (by kernel_rfl) (by kernel_rfl) (by kernel_rfl) (by kernel_rfl) (by kernel_rfl) ?_
          replace hcg := hcg.trans Chg.drew
          replace k4 := k4.d
          replace fc := fc.d
          replace fh := fh.d
          replace fa := fa.d
          replace f := f.d
          replace hk := hk.d
          replace hd := hd.d
          refine wl_p (fun _ => o_move rfl) ?_
          refine wl_p (fun _ => o_nil rfl) ?_
          refine wl_p (fun _ => o_faddr (s := 57) (i := 0) (off := 0) Try.underlying57 rfl Try.sizeOf32 rfl rfl rfl) ?_
          refine wl_r (o_loadbg Try.isAgg32 rfl f (by rfl)) ?_
          refine wl_p (fun _ => o_move rfl) ?_
          refine wl_p (fun _ => o_mul rfl rfl (by omega) (by omega)) ?_
          refine wl_slOwn Try.u8 (i * 256) rfl rfl fa rfl (by omega) (by omega) ?_
          refine wl_p (fun _ => o_move rfl) ?_
          refine wl_p (fun _ => o_nil rfl) ?_
          refine wl_p (fun _ => o_faddr (s := 57) (i := 1) (off := 1) Try.underlying57 rfl Try.sizeOf55 rfl rfl rfl) ?_
          refine wl_r (o_loadbg Try.isAgg55 rfl f (by rfl)) ?_
          refine wl_p (fun _ => o_move rfl) ?_
          refine wl_p (fun _ => (o_iaddrA1 (i) Try.underlying55 Try.sizeOf32 rfl rfl rfl (fh.some_ (by omega)) (by omega))) ?_
          refine wl_r (o_ldHd rfl fh (by omega)) ?_
          refine wl_cpH Try.u8 rfl fa rfl (by omega) k4 rfl (by omega) (by omega) ?_
          rintro w49 f49 g49 b49 e49
          simp only [drew_size] at e49
          have qf49 := f49.cap
          have s49 := g49.size
          simp only [drew_size] at s49
          replace hcg := hcg.trans ((Chg.of_g g49.g f49.rng).wide (by omega) (by omega))
          replace hk := hk.k g49.g (f49.ap (by omega))
          replace f := f.y g49 (by decide)
          replace fh := fh.y g49 (by decide)
          replace fc := fc.k g49.g (f49.ap (by omega))
          clear hd
          clear fa
          clear k4
          refine wl_nild ?_
          refine rk_seq ?_
          refine rk_region ?_
          refine wl_p (fun _ => o_move rfl) ?_
          refine wl_p (fun _ => o_nil rfl) ?_
          refine wl_p (fun _ => o_faddr (s := 57) (i := 1) (off := 1) Try.underlying57 rfl Try.sizeOf55 rfl rfl rfl) ?_
          refine wl_r (o_loadbg Try.isAgg55 rfl f (by rfl)) ?_
          refine wl_p (fun _ => o_move rfl) ?_
          refine wl_p (fun _ => (o_iaddrA1 (i) Try.underlying55 Try.sizeOf32 rfl rfl rfl (fh.some_ (by omega)) (by omega))) ?_
          refine wl_stHd rfl fh rfl (by omega) ?_
          rintro w_1 f_1 g_1 b e
          have qf_1 := f_1.cap
          have s := g_1.size
          replace hcg := hcg.trans ((Chg.of_g g_1.g f_1.rng).wide (by omega) (by omega))
          replace fc := fc.y g_1 (by decide)
          replace f := f.y g_1 (by decide)
          replace hk := hk.k g_1.g (f_1.ap (by omega))
          replace f49 := f49.y g_1 (by decide)
          clear fh
          refine wl_nil ?_
          refine rk_region ?_
          refine wl_p (fun _ => o_move rfl) ?_
          refine wl_p (fun _ => o_add rfl rfl (by omega) (by omega)) ?_
          refine wl_p (fun _ => o_assign rfl) ?_
          refine wl_nil ?_
          refine rk_blk ?_
          refine rk_region ?_
          refine wl_p (fun _ => o_move rfl) ?_
          refine wl_p (fun _ => o_add rfl rfl (by omega) (by omega)) ?_
          refine wl_p (fun _ => o_assign rfl) ?_
          refine wl_nil ?_
          rw [hs2, ← img_set S1 i x (by omega)] at f49
          have e1 : (H.set i ((none, 0, 0) : Hd)).length = H.length := List.length_set ..
          have e2 : (img (S1.set i x)).length = (img S1).length := by rw [img_len, img_len, List.length_set]
          have e3 : (S1.set i x).length = S1.length := List.length_set ..
          have e4 : (C1.set i none).length = C1.length := List.length_set ..
          have hsz2 := hcg.size
          exact rk_againf (Fr.le_of (by kernel_rfl) (by kernel_rfl) (by repeat' constructor)) ⟨i + 1, (i : Int) + 1, (k : Int) + 1, S1.set i x, C1.set i none, rfl, by omega, by omega, rfl, by rw [hks]; rfl, by rw [hput hbit, hS1], by rw [hstep, hC1], ⟨⟨A, c, D, q, H.set i (none, 0, 0), by rw [e1, e2]; exact f, f49, f_1, fc.clear_ i⟩, hg1, hg2, by omega, by rw [e3, e4]; exact hC1l, by rw [e3]; omega, by rw [e3]; omega⟩, hk, hcg⟩ (by omega)
        | false =>
          rw [if_neg (by simp)] at hq
          subst hq
          by_cases hkl : k < kp.length
          · have hbit := headD_drop hkl
            cases hkb : kp[k] with
            | true =>
              refine rk_false rfl ?_
              refine rk_skip ?_
              refine rk_seq ?_
              refine rk_seq ?_
              refine rk_region ?_
              refine wl_p (fun _ => o_move rfl) ?_
              refine wl_p (fun _ => o_move rfl) ?_
              refine wl_p (fun _ => o_move rfl) ?_
              refine wl_p (fun _ => o_move rfl) ?_
              refine wl_p (fun _ => o_len (t := 31) Try.underlying31 rfl) ?_
              refine wl_p (fun _ => o_lt rfl rfl) ?_
              refine wl_p (fun _ => o_move rfl) ?_
              refine wl_know 28 true rfl (decide_eq_true (by omega)) ?_
              refine wl_p (fun _ => o_move rfl) ?_
              refine wl_p (fun _ => o_move rfl) ?_
              refine wl_p (fun _ => (o_iaddrA1 (k) Try.underlying31 Try.sizeOf4 rfl rfl rfl (hk.some_ (by omega)) (by omega))) ?_
              refine wl_r (o_ldBo Try.isAgg4 rfl hk (by omega)) ?_
              refine wl_p (fun _ => o_pick_t rfl rfl) ?_
              refine wl_p (fun _ => o_pick_f rfl rfl) ?_
              refine wl_nil ?_
              rw [hkb] at hbit
              rw [hkb]
              refine rk_true rfl ?_
              refine rk_draw (id := 6) (none) [0, 1, 2, 4, 0, 16, 40, 0, 128, 256, 512, 0, 3072, 4096, 8256] [0, 1, 3, 7, 0, 16, 63, 0, 128, 384, 896, 0, 3968, 8064, 16383] 16384 0 [(.p, 0), (.p, 1), (.p, 2), (.r, 3), (.p, 4), (.p, 5), (.p, 6), (.p, 7), (.p, 8), (.p, 9), (.r, 10), (.p, 11), (.p, 12), (.r, 13), (.l, 14)] (by kernel_rfl) (by kernel_rfl) (by kernel_rfl) (by kernel_rfl) (by kernel_rfl) ?_
              replace hcg := hcg.trans Chg.drew
              replace k4 := k4.d
              replace fc := fc.d
              replace fh := fh.d
              replace fa := fa.d
              replace f := f.d
              replace hk := hk.d
              replace hd := hd.d
              refine wl_p (fun _ => o_move rfl) ?_
              refine wl_p (fun _ => o_nil rfl) ?_
              refine wl_p (fun _ => o_faddr (s := 57) (i := 0) (off := 0) Try.underlying57 rfl Try.sizeOf32 rfl rfl rfl) ?_
              refine wl_r (o_loadbg Try.isAgg32 rfl f (by rfl)) ?_
              refine wl_p (fun _ => o_move rfl) ?_
              refine wl_p (fun _ => o_mul rfl rfl (by omega) (by omega)) ?_
              refine wl_slOwn Try.u8 (i * 256) rfl rfl fa rfl (by omega) (by omega) ?_
              refine wl_p (fun _ => o_move rfl) ?_
              refine wl_p (fun _ => o_nil rfl) ?_
              refine wl_p (fun _ => o_faddr (s := 57) (i := 1) (off := 1) Try.underlying57 rfl Try.sizeOf55 rfl rfl rfl) ?_
              refine wl_r (o_loadbg Try.isAgg55 rfl f (by rfl)) ?_
              refine wl_p (fun _ => o_move rfl) ?_
              refine wl_p (fun _ => (o_iaddrA1 (i) Try.underlying55 Try.sizeOf32 rfl rfl rfl (fh.some_ (by omega)) (by omega))) ?_
              refine wl_r (o_ldHd rfl fh (by omega)) ?_
              refine wl_cpH Try.u8 rfl fa rfl (by omega) k4 rfl (by omega) (by omega) ?_
              rintro w49 f49 g49 b49 e49
              simp only [drew_size] at e49
              have qf49 := f49.cap
              have s49 := g49.size
              simp only [drew_size] at s49
              replace hcg := hcg.trans ((Chg.of_g g49.g f49.rng).wide (by omega) (by omega))
              replace hk := hk.k g49.g (f49.ap (by omega))
              replace f := f.y g49 (by decide)
              replace fh := fh.y g49 (by decide)
              replace fc := fc.k g49.g (f49.ap (by omega))
              clear hd
              clear fa
              clear k4
              refine wl_nild ?_
              refine rk_seq ?_
              refine rk_region ?_
              refine wl_p (fun _ => o_move rfl) ?_
              refine wl_p (fun _ => o_nil rfl) ?_
              refine wl_p (fun _ => o_faddr (s := 57) (i := 1) (off := 1) Try.underlying57 rfl Try.sizeOf55 rfl rfl rfl) ?_
              refine wl_r (o_loadbg Try.isAgg55 rfl f (by rfl)) ?_
              refine wl_p (fun _ => o_move rfl) ?_
              refine wl_p (fun _ => (o_iaddrA1 (i) Try.underlying55 Try.sizeOf32 rfl rfl rfl (fh.some_ (by omega)) (by omega))) ?_
              refine wl_stHd rfl fh rfl (by omega) ?_
              rintro w_1 f_1 g_1 b e
              have qf_1 := f_1.cap
              have s := g_1.size
              replace hcg := hcg.trans ((Chg.of_g g_1.g f_1.rng).wide (by omega) (by omega))
              replace fc := fc.y g_1 (by decide)
              replace f := f.y g_1 (by decide)
              replace hk := hk.k g_1.g (f_1.ap (by omega))
              replace f49 := f49.y g_1 (by decide)
              clear fh
              refine wl_nil ?_
              refine rk_region ?_
              refine wl_p (fun _ => o_move rfl) ?_
              refine wl_p (fun _ => o_add rfl rfl (by omega) (by omega)) ?_
              refine wl_p (fun _ => o_assign rfl) ?_
              refine wl_nil ?_
              refine rk_blk ?_
              refine rk_region ?_
              refine wl_p (fun _ => o_move rfl) ?_
              refine wl_p (fun _ => o_add rfl rfl (by omega) (by omega)) ?_
              refine wl_p (fun _ => o_assign rfl) ?_
              refine wl_nil ?_
              rw [hs2, ← img_set S1 i x (by omega)] at f49
              have e1 : (H.set i ((none, 0, 0) : Hd)).length = H.length := List.length_set ..
              have e2 : (img (S1.set i x)).length = (img S1).length := by rw [img_len, img_len, List.length_set]
              have e3 : (S1.set i x).length = S1.length := List.length_set ..
              have e4 : (C1.set i none).length = C1.length := List.length_set ..
              have hsz2 := hcg.size
              exact rk_againf (Fr.le_of (by kernel_rfl) (by kernel_rfl) (by repeat' constructor)) ⟨i + 1, (i : Int) + 1, (k : Int) + 1, S1.set i x, C1.set i none, rfl, by omega, by omega, rfl, by rw [hks]; rfl, by rw [hput hbit, hS1], by rw [hstep, hC1], ⟨⟨A, c, D, q, H.set i (none, 0, 0), by rw [e1, e2]; exact f, f49, f_1, fc.clear_ i⟩, hg1, hg2, by omega, by rw [e3, e4]; exact hC1l, by rw [e3]; omega, by rw [e3]; omega⟩, hk, hcg⟩ (by omega)
            | false =>
              refine rk_false rfl ?_
              refine rk_skip ?_
              refine rk_seq ?_
              refine rk_seq ?_
              refine rk_region ?_
              refine wl_p (fun _ => o_move rfl) ?_
              refine wl_p (fun _ => o_move rfl) ?_
              refine wl_p (fun _ => o_move rfl) ?_
              refine wl_p (fun _ => o_move rfl) ?_
              refine wl_p (fun _ => o_len (t := 31) Try.underlying31 rfl) ?_
              refine wl_p (fun _ => o_lt rfl rfl) ?_
              refine wl_p (fun _ => o_move rfl) ?_
              refine wl_know 28 true rfl (decide_eq_true (by omega)) ?_
              refine wl_p (fun _ => o_move rfl) ?_
              refine wl_p (fun _ => o_move rfl) ?_
              refine wl_p (fun _ => (o_iaddrA1 (k) Try.underlying31 Try.sizeOf4 rfl rfl rfl (hk.some_ (by omega)) (by omega))) ?_
              refine wl_r (o_ldBo Try.isAgg4 rfl hk (by omega)) ?_
              refine wl_p (fun _ => o_pick_t rfl rfl) ?_
              refine wl_p (fun _ => o_pick_f rfl rfl) ?_
              refine wl_nil ?_
              rw [hkb] at hbit
              rw [hkb]
              refine rk_false rfl ?_
              refine rk_skip ?_
              refine rk_seq ?_
              refine rk_region ?_
              refine wl_p (fun _ => o_move rfl) ?_
              refine wl_p (fun _ => o_nil rfl) ?_
              refine wl_p (fun _ => o_faddr (s := 57) (i := 1) (off := 1) Try.underlying57 rfl Try.sizeOf55 rfl rfl rfl) ?_
              refine wl_r (o_loadbg Try.isAgg55 rfl f (by rfl)) ?_
              refine wl_p (fun _ => o_move rfl) ?_
              refine wl_p (fun _ => (o_iaddrA1 (i) Try.underlying55 Try.sizeOf32 rfl rfl rfl (fh.some_ (by omega)) (by omega))) ?_
              refine wl_stHd rfl fh rfl (by omega) ?_
              rintro w_1 f_1 g_1 b e
              have qf_1 := f_1.cap
              have s := g_1.size
              replace hcg := hcg.trans ((Chg.of_g g_1.g f_1.rng).wide (by omega) (by omega))
              replace fc := fc.y g_1 (by decide)
              replace fa := fa.y g_1 (by decide)
              replace f := f.y g_1 (by decide)
              replace hk := hk.k g_1.g (f_1.ap (by omega))
              clear k4
              clear fh
              clear hd
              refine wl_nil ?_
              refine rk_region ?_
              refine wl_p (fun _ => o_move rfl) ?_
              refine wl_p (fun _ => o_add rfl rfl (by omega) (by omega)) ?_
              refine wl_p (fun _ => o_assign rfl) ?_
              refine wl_nil ?_
              refine rk_blk ?_
              refine rk_region ?_
              refine wl_p (fun _ => o_move rfl) ?_
              refine wl_p (fun _ => o_add rfl rfl (by omega) (by omega)) ?_
              refine wl_p (fun _ => o_assign rfl) ?_
              refine wl_nil ?_
              have e1 : (H.set i ((none, 0, 0) : Hd)).length = H.length := List.length_set ..
              have e4 : (C1.set i none).length = C1.length := List.length_set ..
              have hsz2 := hcg.size
              exact rk_againf (Fr.le_of (by kernel_rfl) (by kernel_rfl) (by repeat' constructor)) ⟨i + 1, (i : Int) + 1, (k : Int) + 1, S1, C1.set i none, rfl, by omega, by omega, rfl, by rw [hks]; rfl, by rw [hnot hbit, hS1], by rw [hstep, hC1], ⟨⟨A, c, D, q, H.set i (none, 0, 0), by rw [e1]; exact f, fa, f_1, fc.clear_ i⟩, hg1, hg2, by omega, by rw [e4]; exact hC1l, by omega, by omega⟩, hk, hcg⟩ (by omega)
          · have hbit : (kp.drop k).headD false = false := headD_drop0 (by omega)
            refine rk_false rfl ?_
            refine rk_skip ?_
            refine rk_seq ?_
            refine rk_seq ?_
            refine rk_region ?_
            refine wl_p (fun _ => o_move rfl) ?_
            refine wl_p (fun _ => o_move rfl) ?_
            refine wl_p (fun _ => o_move rfl) ?_
            refine wl_p (fun _ => o_move rfl) ?_
            refine wl_p (fun _ => o_len (t := 31) Try.underlying31 rfl) ?_
            refine wl_p (fun _ => o_lt rfl rfl) ?_
            refine wl_p (fun _ => o_move rfl) ?_
            refine wl_know 28 false rfl (decide_eq_false (by omega)) ?_
            refine wl_off ?_
            refine wl_off ?_
            refine wl_off ?_
            refine wl_off ?_
            refine wl_p (fun _ => o_pick_f rfl rfl) ?_
            refine wl_p (fun _ => o_pick_f rfl rfl) ?_
            refine wl_nil ?_
            refine rk_false rfl ?_
            refine rk_skip ?_
            refine rk_seq ?_
            refine rk_region ?_
            refine wl_p (fun _ => o_move rfl) ?_
            refine wl_p (fun _ => o_nil rfl) ?_
            refine wl_p (fun _ => o_faddr (s := 57) (i := 1) (off := 1) Try.underlying57 rfl Try.sizeOf55 rfl rfl rfl) ?_
            refine wl_r (o_loadbg Try.isAgg55 rfl f (by rfl)) ?_
            refine wl_p (fun _ => o_move rfl) ?_
            refine wl_p (fun _ => (o_iaddrA1 (i) Try.underlying55 Try.sizeOf32 rfl rfl rfl (fh.some_ (by omega)) (by omega))) ?_
            refine wl_stHd rfl fh rfl (by omega) ?_
            rintro w_1 f_1 g_1 b e
            have qf_1 := f_1.cap
            have s := g_1.size
            replace hcg := hcg.trans ((Chg.of_g g_1.g f_1.rng).wide (by omega) (by omega))
            replace fc := fc.y g_1 (by decide)
            replace fa := fa.y g_1 (by decide)
            replace f := f.y g_1 (by decide)
            replace hk := hk.k g_1.g (f_1.ap (by omega))
            clear k4
            clear fh
            clear hd
            refine wl_nil ?_
            refine rk_region ?_
            refine wl_p (fun _ => o_move rfl) ?_
            refine wl_p (fun _ => o_add rfl rfl (by omega) (by omega)) ?_
            refine wl_p (fun _ => o_assign rfl) ?_
            refine wl_nil ?_
            refine rk_blk ?_
            refine rk_region ?_
            refine wl_p (fun _ => o_move rfl) ?_
            refine wl_p (fun _ => o_add rfl rfl (by omega) (by omega)) ?_
            refine wl_p (fun _ => o_assign rfl) ?_
            refine wl_nil ?_
            have e1 : (H.set i ((none, 0, 0) : Hd)).length = H.length := List.length_set ..
            have e4 : (C1.set i none).length = C1.length := List.length_set ..
            have hsz2 := hcg.size
            exact rk_againf (Fr.le_of (by kernel_rfl) (by kernel_rfl) (by repeat' constructor)) ⟨i + 1, (i : Int) + 1, (k : Int) + 1, S1, C1.set i none, rfl, by omega, by omega, rfl, by rw [hks]; rfl, by rw [hnot hbit, hS1], by rw [hstep, hC1], ⟨⟨A, c, D, q, H.set i (none, 0, 0), by rw [e1]; exact f, fa, f_1, fc.clear_ i⟩, hg1, hg2, by omega, by rw [e4]; exact hC1l, by omega, by omega⟩, hk, hcg⟩ (by omega)
    · refine rk_exit rfl ?_
      obtain rfl : i = S.length := by omega
      rw [putS_all hCl] at hS1
      rw [putC_all hCl] at hC1
      subst hS1; subst hC1
      exact rk_tof hj (Fr.le_of (by kernel_rfl) (by kernel_rfl) (by repeat' constructor)) ⟨rfl, hd, hcg⟩
  clear hd hk hcg
  rintro fr V ⟨rfl, hd, hcg⟩
  first | refine rk_frame (by simp only [List.cons_append, List.nil_append, List.drop_succ_cons, List.drop_zero]; rfl) ?_ | refine wl_frame (by simp only [List.cons_append, List.nil_append, List.drop_succ_cons, List.drop_zero]; rfl) ?_
  refine end0 rfl ?_
  exact ⟨rfl, hd, hcg⟩
theorem C_putAll {lo hi g : Nat} {S S0 : List Sec} {C C0 : List (Option Sec)} (w : World) (hd : RfAt w lo hi g S C) (hS0 : cur S C = S0) (hC0 : List.replicate S.length none = C0) :
    CallsR Try.prog 39 [.pointer (some ⟨g, 0, none⟩), .slice none 0 0, .bool true] w fun v w' => v = .tuple #[] ∧ RfAt w' lo hi g S0 C0 ∧ Chg lo hi w w' :=
  K_put (lo2 := lo) (hi2 := lo) (kp := []) w hd RdBo.nil_ rfl (by rw [if_pos rfl, crash_all S C _ (by have := cnt_le C; have := hd.len; omega)]; exact hS0) hC0 (.inl (Nat.le_refl _)) rfl (by simp)
theorem C_putKeep {lo hi lo2 hi2 g n cp : Nat} {S S0 : List Sec} {C C0 : List (Option Sec)} {K : Option Addr} {kp : List Bool} (w : World) (hd : RfAt w lo hi g S C) (hk : RdBo w lo2 hi2 K kp) (hS0 : crash S C kp = S0) (hC0 : List.replicate S.length none = C0) (ha : hi2 ≤ lo ∨ hi ≤ lo2) (hn : n = kp.length) (hm : n ≤ 1000000) :
    CallsR Try.prog 39 [.pointer (some ⟨g, 0, none⟩), .slice K n cp, .bool false] w fun v w' => v = .tuple #[] ∧ RfAt w' lo hi g S0 C0 ∧ Chg lo hi w w' :=
  K_put w hd hk (by rw [if_neg (by simp)]) hS0 hC0 ha hn hm
theorem C_rFlush {lo hi g : Nat} {S S0 : List Sec} {C C0 : List (Option Sec)} (w : World) (hd : RfAt w lo hi g S C) (hS0 : cur S C = S0) (hC0 : List.replicate S.length none = C0) :
    CallsR Try.prog 27 [.pointer (some ⟨g, 0, none⟩)] w fun v w' => v = .int .i64 0 ∧ RfAt w' lo hi g S0 C0 ∧ Chg lo hi w w' := by
  refine callsR Try.func27 rfl rfl (by kernel_rfl) rfl ?_
  have hcg : Chg lo hi w w := Chg.refl
  refine rk_seq ?_
  refine rk_region ?_
  refine wl_p (fun _ => o_assign rfl) ?_
  refine wl_nil ?_
  refine rk_seq ?_
  refine rk_region ?_
  refine wl_p (fun _ => o_move rfl) ?_
  refine wl_call rfl (C_putAll _ hd hS0 hC0) ?_
  rintro v4 w4 ⟨rfl, ⟨f4, g4⟩⟩
  have s4 := g4.size
  replace hcg := hcg.trans (g4.wide (by omega) (by omega))
  clear hd
  refine wl_nil ?_
  refine rk_seq ?_
  refine rk_region ?_
  refine wl_p (fun _ => o_assign rfl) ?_
  refine wl_nil ?_
  refine ret1 rfl rfl ?_
  exact ⟨rfl, by assumption, hcg⟩
theorem C_rCrash {lo hi lo2 hi2 g n cp : Nat} {S S0 : List Sec} {C C0 : List (Option Sec)} {K : Option Addr} {kp : List Bool} (w : World) (hd : RfAt w lo hi g S C) (hk : RdBo w lo2 hi2 K kp) (hS0 : crash S C kp = S0) (hC0 : List.replicate S.length none = C0) (ha : hi2 ≤ lo ∨ hi ≤ lo2) (hn : n = kp.length) (hm : n ≤ 1000000) :
    CallsR Try.prog 28 [.pointer (some ⟨g, 0, none⟩), .slice K n cp] w fun v w' => v = .int .i64 0 ∧ RfAt w' lo hi g S0 C0 ∧ Chg lo hi w w' := by
  refine callsR Try.func28 rfl rfl (by kernel_rfl) rfl ?_
  have hcg : Chg lo hi w w := Chg.refl
  refine rk_seq ?_
  refine rk_region ?_
  refine wl_p (fun _ => o_assign rfl) ?_
  refine wl_nil ?_
  refine rk_seq ?_
  refine rk_region ?_
  refine wl_p (fun _ => o_move rfl) ?_
  refine wl_p (fun _ => o_move rfl) ?_
  refine wl_call rfl (C_putKeep _ hd hk hS0 hC0 (by omega) hn (by omega)) ?_
  rintro v7 w7 ⟨rfl, ⟨f7, g7⟩⟩
  have s7 := g7.size
  replace hcg := hcg.trans (g7.wide (by omega) (by omega))
  replace hk := hk.c g7 (by omega)
  clear hd
  refine wl_nil ?_
  refine rk_seq ?_
  refine rk_region ?_
  refine wl_p (fun _ => o_assign rfl) ?_
  refine wl_nil ?_
  refine ret1 rfl rfl ?_
  exact ⟨rfl, by assumption, hcg⟩
end Go.Proofs.Ythkfjoilhoemmaa
/-
  Rows of strings; strings joined.
-/
namespace Go.Proofs.Ythkfjoilhoemmaa
open Go.RowKit
def vSt (s : By) : Value := .string ⟨s.toArray⟩
def gSt : GoT By := GoT.flat vSt (fun _ => True)
/-- A row of strings of the call's own. -/
def OwnSt (w : World) (lo hi : Nat) (A : Option Addr) (c : Nat) (L : List By) : Prop := OwnS gSt 9 w lo hi A c L
section
variable {w w' : World} {lo hi lo' hi' cp b : Nat} {A : Option Addr} {S : List By} {e' : TypeId} {row : Option Nat}
theorem OwnSt.u (h : OwnSt w lo hi A cp S) (hb : Below w.heap.size w w') : OwnSt w' lo hi A cp S := OwnS.u h hb
theorem OwnSt.d (h : OwnSt w lo hi A cp S) : OwnSt w.drew lo hi A cp S := OwnS.d h
theorem OwnSt.y (h : OwnSt w lo hi A cp S) (hg : Grew w w' e' row) (hne : e' ∉ [9]) : OwnSt w' lo hi A cp S := OwnS.y h hg hne
theorem OwnSt.k (h : OwnSt w lo hi A cp S) (hg : w.grownBy w' row) (ha : Ap row lo hi) : OwnSt w' lo hi A cp S := by
  obtain ⟨xs, h1, h2⟩ := h
  exact ⟨xs, h1.k hg ha, h2⟩
theorem OwnSt.m (h : OwnSt w lo hi A cp S) (hg : GrewM w w' b) : OwnSt w' lo hi A cp S := OwnS.m h hg
theorem OwnSt.ap (h : OwnSt w lo hi A cp S) (hd : hi ≤ lo' ∨ hi' ≤ lo) : Ap (blk A) lo' hi' := OwnS.ap h hd
theorem OwnSt.cap (h : OwnSt w lo hi A cp S) : S.length ≤ cp := OwnS.cap h
theorem OwnSt.base (h : OwnSt w lo hi A cp S) (h1 : lo' ≤ lo) (h2 : hi ≤ hi') : OwnSt w lo' hi' A cp S := OwnS.base h h1 h2
theorem OwnSt.c (h : OwnSt w lo hi A cp S) (hc : Chg lo' hi' w w') (ha : hi ≤ lo' ∨ hi' ≤ lo) : OwnSt w' lo hi A cp S := OwnS.c0 h (fun h => h) hc ha
theorem OwnSt.some_ (h : OwnSt w lo hi A cp S) (hl : 0 < S.length) : A = some (A.getD ⟨0, 0, none⟩) := RSl.some_ (OwnS.to_RSl h) (show 0 < 1 by decide) hl
theorem OwnSt.rng (h : OwnSt w lo hi A cp S) : ∀ k, blk A = some k → lo ≤ k ∧ k < hi := by obtain ⟨xs, h1, _⟩ := h; exact fun k hk => ⟨(RowH.lt h1 k hk).1, h1.hi k hk⟩
theorem OwnSt.cell (h : OwnSt w lo hi A cp S) {j : Nat} (hj : j < S.length) : w.cell? (adr A j) = some (vSt S[j]) := by
  obtain ⟨cs, h1, h2⟩ := RSl.elem (OwnS.to_RSl h) (show 0 < 1 by decide) hj
  obtain ⟨rfl, _⟩ : cs = [vSt S[j]] ∧ True := h2
  have := h1 0 _ rfl
  rwa [Nat.add_zero, show j * gSt.sz = j from Nat.mul_one j] at this
theorem part_single {xs : List Value} {i : Nat} (h : i < xs.length) : part xs 1 i = [xs[i]] := by
  unfold part
  rw [Nat.mul_one, List.drop_eq_getElem_cons h]
  rfl
theorem OwnSt.row_ (h : OwnSt w lo hi A cp S) : RowH w lo hi 9 1 A S.length cp (S.map vSt) := by
  obtain ⟨xs, h1, h2⟩ := h
  have h1' : RowH w lo hi 9 1 A S.length cp xs := h1
  have hl : xs.length = S.length := by have := h1'.rd.1; omega
  have e : xs = S.map vSt := by
    apply List.ext_getElem (by rw [hl, List.length_map])
    intro i q1 q2
    obtain ⟨e1, _⟩ : part xs 1 i = [vSt (S[i]'(by omega))] ∧ True := h2 i (by omega)
    rw [part_single q1] at e1
    injection e1 with e1
    rw [List.getElem_map, e1]
  rwa [e] at h1'
theorem OwnSt.of_row (h : RowH w lo hi 9 1 A S.length cp (S.map vSt)) : OwnSt w lo hi A cp S :=
  ⟨_, h, fun i hi => ⟨by
    show part (S.map vSt) 1 i = _
    rw [part_single (by rw [List.length_map]; exact hi), List.getElem_map], trivial⟩⟩
end
theorem Try.rowSt : RowT Try.prog 30 9 (.string ⟨#[]⟩) 1 16 := ⟨Try.underlying30, by kernel_rfl, rfl, by omega⟩
section
variable {fn : Func} {F : Ending → World → Prop} {N : Nat} {ks : List K} {ops : Array Oper} {tg : Tags} {l : List Oper} {fr : Fr} {w : World} {ty t t' t2 : TypeId} {pos : String} {aft : Array Edge} {gd : Option (Nat × Bool)} {k1 k2 : IntKind} {d n j c lo hi : Nat} {x y : Operand} {A : Option Addr} {S : List By} {s u : By}
--@ rule load r o_ldSt
theorem o_ldSt (hx : fr.ev x = some (.pointer (some (adr A j)))) (hr : OwnSt w lo hi A c S) (hj : j < S.length) : OpV Try.prog N fr w (.load 9 x) ty (.string ⟨S[j].toArray⟩) w :=
  o_load Try.isAgg9 hx (hr.cell hj)
--@ rule store l wl_stSt
theorem wl_stSt (hx : fr.ev x = some (.pointer (some (adr A j)))) (hown : OwnSt w lo hi A c S) (hy : fr.ev y = some (.string ⟨s.toArray⟩)) (hj : j < S.length)
    (hk : ∀ w', OwnSt w' lo hi A c (S.set j s) → Grew w w' 9 (blk A) → Below lo w w' → w'.heap.size = w.heap.size → WL Try.prog fn F N ks ops tg.tail l fr w') (ht : tg.loud = true := by rfl) (hg : onG ops fr gd = true := by rfl) (hq : tg.calm = false ∨ tg.rw.may (blk A) := by exact .inl rfl) :
    WL Try.prog fn F N ks ops tg (⟨none, .store 9 x y, ty, pos, aft, gd⟩ :: l) fr w := by
  have hown0 := hown
  obtain ⟨g, w', rfl, hr, e3, e4, e5⟩ := OwnS.put (X := gSt) (a := s) (vs := [.string ⟨s.toArray⟩]) (P := Try.prog) hown hj ⟨rfl, trivial⟩ (by simp [Value.oneCell']) (show 0 < 1 by decide) (by simp [gSt, GoT.flat])
  have hbl : Below lo w w' := by
    obtain ⟨xs, g1, _⟩ := hown0
    have hlt := RowH.lt g1 g rfl
    exact e4.below (by omega) (fun k hk => by have hk' : g = k := by simpa [blk] using hk
                                              omega)
  have ead : adr (some (⟨g, 0, none⟩ : Addr)) j = ⟨g, j, none⟩ := by simp [adr, add_plain]
  rw [ead] at hx
  have e1 : j * gSt.sz = j := Nat.mul_one j
  rw [e1] at hr
  refine wl_u (w' := w') (fun a ha op hop => ?_) (hk w' e3 e4 hbl e5) ht hg (hq.imp id (Rw.of_may e4.g))
  have hcs : (Value.string ⟨s.toArray⟩).cells = #[Value.string ⟨s.toArray⟩] := rfl
  simp [execOp, hop, ha.ev hx, ha.ev hy, Instr.storeAt, Instr.sureAddr, storeVar, hcs, Try.sizeOf9, hr]
--@ rule makeSlice l wl_mkSt
theorem wl_mkSt {E C : Int} (n : Nat) (hx : fr.ev x = some (.int k1 E)) (hy : fr.ev y = some (.int k2 C)) (hE : E = (n : Int)) (hC : C = (n : Int)) (hn : n ≤ 1000000)
    (hk : ∀ A w', OwnSt w' w.heap.size w'.heap.size A n (List.replicate n []) → Below w.heap.size w w' → WL Try.prog fn F N ks ops tg.tail l ((d, .slice A n n) :: fr) w')
    (ht : tg.loud = true := by rfl) (hg : onG ops fr gd = true := by rfl) (hd : Nat.blt d N = true := by rfl) : WL Try.prog fn F N ks ops tg (⟨some d, .makeSlice 30 x y, ty, pos, aft, gd⟩ :: l) fr w :=
  wl_mkS (X := gSt) Try.rowSt hx hy hE hC (by omega) (by omega) (fun _ => ⟨rfl, trivial⟩) hk ht hg hd
--@ rule binOp p o_sadd
theorem o_sadd (hx : fr.ev x = some (.string ⟨s.toArray⟩)) (hy : fr.ev y = some (.string ⟨u.toArray⟩)) (hl : s.length + u.length ≤ 1000000000) : OpV Try.prog N fr w (.binOp .add t x y t') ty (.string ⟨(s ++ u).toArray⟩) w :=
  o_bin hx hy (fun _ _ => by simp [go_sem]) (by
    have e : (⟨s.toArray⟩ : ByteArray) ++ ⟨u.toArray⟩ = ⟨(s ++ u).toArray⟩ := by
      apply ByteArray.ext
      simp
    have hs : (⟨s.toArray⟩ : ByteArray).size = s.length := by simp [ByteArray.size]
    have hu : (⟨u.toArray⟩ : ByteArray).size = u.length := by simp [ByteArray.size]
    have hm : ¬ (((s.length + u.length : Nat) : Int) > IntKind.i64.max) := by
      show ¬ (((s.length + u.length : Nat) : Int) > 9223372036854775807)
      omega
    simp only [binOp, Op.stringOp, hs, hu]
    rw [if_neg hm, e]
    rfl)
--@ rule copy l wl_cpSt
/-- copy, of a whole row of strings to another one. -/
theorem wl_cpSt {B : Option Addr} {M : List By} {m q lo2 hi2 c2 : Nat} (hu : Try.prog.underlying t = some (.slice 9)) (hx : fr.ev x = some (.slice A n q)) (hown : OwnSt w lo hi A c S) (hy : fr.ev y = some (.slice B m j)) (hr : OwnSt w lo2 hi2 B c2 M) (hn : n = S.length) (hm : m = M.length) (hl : M.length = S.length) (h0 : 0 < S.length)
    (hk : ∀ w', OwnSt w' lo hi A c M → Grew w w' 9 (blk A) → Below lo w w' → w'.heap.size = w.heap.size → WL Try.prog fn F N ks ops tg.tail l ((d, .int .i64 (m : Nat)) :: fr) w')
    (ht : tg.loud = true := by rfl) (hg : onG ops fr gd = true := by rfl) (hd : Nat.blt d N = true := by rfl) (hq : tg.calm = false := by rfl) :
    WL Try.prog fn F N ks ops tg (⟨some d, .call { callee := .builtin .copy, args := #[x, y], argTypes := #[t, t2] }, ty, pos, aft, gd⟩ :: l) fr w := by
  subst hn; subst hm
  have hrow := hown.row_
  obtain ⟨g, cur, rfl, g1, g2, hB, g3, g4, g5⟩ := hrow.blk_ h0
  have hrd := hr.row_.rd
  obtain ⟨b, o, rfl, hc⟩ := hrd.2 (fun e => by have := congrArg List.length e; rw [List.length_map, List.length_nil] at this; omega)
  have hld := run_loadCells_list (P := Try.prog) w ⟨b, o, none⟩ (M.map vSt) (fun j u hu => by rw [add_plain]; exact hc j u hu)
  rw [Nat.mul_one] at g4
  obtain ⟨w', hst, hB', hg', hz'⟩ := run_storeCells_blk (P := Try.prog) (o := 0) (M.map vSt) 0 cur w hB (fun v hv => by obtain ⟨s, _, rfl⟩ := List.mem_map.1 hv; rfl) (by rw [List.length_map]; omega)
  have h4 := hrow.spl_ hB hB' (by rw [List.length_map]; omega) h0
  have e1 : spl (S.map vSt) 0 (M.map vSt) = M.map vSt := by
    unfold spl
    rw [List.take_zero, List.nil_append, Nat.zero_add, List.length_map, List.drop_eq_nil_of_le (by rw [List.length_map]; omega), List.append_nil]
  rw [e1, ← hl] at h4
  have hgr : Grew w w' 9 (blk (some (⟨g, 0, none⟩ : Addr))) := ⟨hg', hrow.ty⟩
  have hlt := RowH.lt hrow g rfl
  have hbl : Below lo w w' := hgr.below (by omega) (fun k' hk' => by have hk2 : g = k' := by simpa [blk] using hk'
                                                                     omega)
  refine wl_v (w' := w') (o_builtin (xs := [x, y]) (vs := [.slice (some ⟨g, 0, none⟩) S.length q, .slice (some ⟨b, o, none⟩) M.length j]) (by simp [Fr.evs, hx, hy]) ?_ (by simp)) (hk w' (OwnSt.of_row h4) hgr hbl hz') ht hg hd (.inl hq)
  have hmin : Nat.min M.length S.length = M.length := by rw [hl]; exact Nat.min_self _
  rw [List.length_map] at hld
  simp [builtin, Builtin.copy_, run_underlying hu, Try.sizeOf9, Builtin.lenOf, hmin, Builtin.firstCells, hld, hst]
  rfl
end
end Go.Proofs.Ythkfjoilhoemmaa
/-
  A region whose order is open at a place where three loud operations are ready. No function of the program is named here.
-/
namespace Go.Proofs.Ythkfjoilhoemmaa
def only3 (m k1 k2 k3 : Nat) : List Nat → Nat → Bool
  | [], _ => true
  | d :: D, j => (Nat.beq j k1 || (Nat.beq j k2 || (Nat.beq j k3 || (Nat.testBit m j || !Nat.beq (Nat.land d m) d)))) && only3 m k1 k2 k3 D (j + 1)
theorem only3_spec {m k1 k2 k3 : Nat} : ∀ (D : List Nat) (j : Nat), only3 m k1 k2 k3 D j = true → ∀ i d, D[i]? = some d → j + i = k1 ∨ j + i = k2 ∨ j + i = k3 ∨ m.testBit (j + i) = true ∨ Nat.beq (Nat.land d m) d = false
  | [], _, _, i, d, h => by simp at h
  | x :: D, j, hc, i, d, hd => by
    unfold only3 at hc
    simp only [Bool.and_eq_true, Bool.or_eq_true, Bool.not_eq_true'] at hc
    cases i with
    | zero =>
      obtain rfl : x = d := by simpa using hd
      rcases hc.1 with h | h | h | h | h
      · exact .inl (Nat.eq_of_beq_eq_true h)
      · exact .inr (.inl (Nat.eq_of_beq_eq_true h))
      · exact .inr (.inr (.inl (Nat.eq_of_beq_eq_true h)))
      · exact .inr (.inr (.inr (.inl h)))
      · exact .inr (.inr (.inr (.inr h)))
    | succ i =>
      have := only3_spec D (j + 1) hc.2 i d (by simpa using hd)
      rwa [show j + 1 + i = j + (i + 1) by omega] at this
section
variable {P : Program} {fn : Func} {F : Ending → World → Prop} {N : Nat} {ks : List K} {ops : Array Oper} {fr : Fr} {w : World}
theorem Marks.only3 {D A : List Nat} {listed : Array Bool} {m : Nat} (h : Marks .any ops D A listed m) {k1 k2 k3 : Nat} (hk : only3 m k1 k2 k3 D 0 = true) : ∀ j ∈ Region.ready .any ops listed, j = k1 ∨ j = k2 ∨ j = k3 := by
  intro j hj
  obtain ⟨hun, o, ho, hall⟩ := mem_ready.1 hj
  have hlt : j < ops.size := (Array.getElem?_eq_some_iff.1 ho).1
  rw [h.getD hlt] at hun
  rcases only3_spec D 0 hk j _ (h.dAt ho) with h1 | h1 | h1 | h1 | h1
  · exact .inl (by simpa using h1)
  · exact .inr (.inl (by simpa using h1))
  · exact .inr (.inr (by simpa using h1))
  · rw [Nat.zero_add, hun] at h1; cases h1
  · rw [h.subset.2 hall] at h1; cases h1
theorem wl_fork3 {row : Rw} {m L C n k1 k2 k3 : Nat} {l1 l2 l3 : List Oper} {ts1 ts2 ts3 : List (Tag × Nat)} (D A : List Nat) (hD : ops.toList.map (dmask .any) = D) (hA : ancs .any ops.toList [] = A)
    (hc : (Nat.testBit L k1 && (Nat.testBit L k2 && (Nat.testBit L k3 && (rdyK D m k1 && (rdyK D m k2 && (rdyK D m k3 && (Go.Proofs.Ythkfjoilhoemmaa.only3 m k1 k2 k3 D 0 && (Nat.beq n (l1.length + extra ts1) && (Nat.beq n (l2.length + extra ts2) && (Nat.beq n (l3.length + extra ts3) && (chk ops ops.toList D A L C ts1 (m ||| 2 ^ k1) && (chk ops ops.toList D A L C ts2 (m ||| 2 ^ k2) && chk ops ops.toList D A L C ts3 (m ||| 2 ^ k3))))))))))))) = true)
    (hl1 : l1.map some = ops[k1]? :: opsOf ops ts1) (hl2 : l2.map some = ops[k2]? :: opsOf ops ts2) (hl3 : l3.map some = ops[k3]? :: opsOf ops ts3)
    (h1 : WL P fn F N ks ops (some (row, (.g m L C, k1) :: ts1)) l1 fr w) (h2 : WL P fn F N ks ops (some (row, (.g m L C, k2) :: ts2)) l2 fr w) (h3 : WL P fn F N ks ops (some (row, (.g m L C, k3) :: ts3)) l3 fr w) : WL P fn F N ks ops (some (row, [(.f m L C, n)])) [] fr w := fun a ha => by
  intro D' A' L' C' listed m' hm _ hchk
  unfold chk at hchk
  simp only [Bool.and_eq_true] at hchk hc
  obtain ⟨hm1, hL1, hC1⟩ := hchk
  obtain rfl := Nat.eq_of_beq_eq_true hm1
  obtain rfl := Nat.eq_of_beq_eq_true hL1
  obtain rfl := Nat.eq_of_beq_eq_true hC1
  obtain rfl : D' = D := by rw [hm.D, hD]
  obtain rfl : A' = A := by rw [hm.A, hA]
  obtain ⟨c1, c2, c3, c4, c5, c6, c7, c8, c9, c10, c11, c12, c13⟩ := hc
  obtain ⟨o1, r1, rfl⟩ : ∃ o r, l1 = o :: r := by cases l1 with | nil => simp at hl1 | cons o r => exact ⟨o, r, rfl⟩
  obtain ⟨o2, r2, rfl⟩ : ∃ o r, l2 = o :: r := by cases l2 with | nil => simp at hl2 | cons o r => exact ⟨o, r, rfl⟩
  obtain ⟨o3, r3, rfl⟩ : ∃ o r, l3 = o :: r := by cases l3 with | nil => simp at hl3 | cons o r => exact ⟨o, r, rfl⟩
  obtain ⟨a1, b1⟩ := head_of hl1
  obtain ⟨a2, b2⟩ := head_of hl2
  obtain ⟨a3, b3⟩ := head_of hl3
  have e1 : n = (r1.length + extra ts1) + 1 := by have := Nat.eq_of_beq_eq_true c8; rw [this]; exact fuel_succ r1 _
  have e2 : n = (r2.length + extra ts2) + 1 := by have := Nat.eq_of_beq_eq_true c9; rw [this]; exact fuel_succ r2 _
  have e3 : n = (r3.length + extra ts3) + 1 := by have := Nat.eq_of_beq_eq_true c10; rw [this]; exact fuel_succ r3 _
  have w1 := h1 a ha D' A' listed o1 r1 rfl hm a1 b1 (hm.ready c4) c11
  have w2 := h2 a ha D' A' listed o2 r2 rfl hm a2 b2 (hm.ready c5) c12
  have w3 := h3 a ha D' A' listed o3 r3 rfl hm a3 b3 (hm.ready c6) c13
  have e0 : r1.length + extra ts1 = r2.length + extra ts2 := by omega
  have e0' : r1.length + extra ts1 = r3.length + extra ts3 := by omega
  show wpMix P .any ops _ _ _ row (0 + n) listed a w
  rw [Nat.zero_add, e1]
  refine ⟨fun h => (by have := hm.ready c4; rw [h] at this; cases this), fun j hj => ?_⟩
  rcases hm.only3 c7 j hj with rfl | rfl | rfl
  · rw [if_pos c1]; exact w1
  · rw [if_pos c2, e0]; exact w2
  · rw [if_pos c3, e0']; exact w3
theorem wl_forkf3 {row : Rw} {m L C n k1 k2 k3 : Nat} {ops : List Oper} (R : Fr → Fr → World → Prop) (D A : List Nat) (ord1 ord2 ord3 ordR : List Nat) (ts1 ts2 ts3 tsR : List (Tag × Nat)) (hD : ops.map (dmask .any) = D) (hA : ancs .any ops [] = A)
    (hc : (Nat.testBit L k1 && (Nat.testBit L k2 && (Nat.testBit L k3 && (rdyK D m k1 && (rdyK D m k2 && (rdyK D m k3 && (Go.Proofs.Ythkfjoilhoemmaa.only3 m k1 k2 k3 D 0 && (Nat.beq n ((inOrder ops ord1).length + extra ts1) && (Nat.beq n ((inOrder ops ord2).length + extra ts2) && (Nat.beq n ((inOrder ops ord3).length + extra ts3) && (chk ops.toArray ops D A L C ts1 (m ||| 2 ^ k1) && (chk ops.toArray ops D A L C ts2 (m ||| 2 ^ k2) && chk ops.toArray ops D A L C ts3 (m ||| 2 ^ k3))))))))))))) = true)
    (hl1 : (inOrder ops ord1).map some = ops.toArray[k1]? :: opsOf ops.toArray ts1) (hl2 : (inOrder ops ord2).map some = ops.toArray[k2]? :: opsOf ops.toArray ts2) (hl3 : (inOrder ops ord3).map some = ops.toArray[k3]? :: opsOf ops.toArray ts3)
    (h0 : ∀ fr' w, R fr fr' w → WL P fn F N ks ops.toArray (some (row, tsR)) (inOrder ops ordR) fr' w)
    (h1 : (∀ fr' w, R fr fr' w → WL P fn F N ks ops.toArray (some (row, tsR)) (inOrder ops ordR) fr' w) → WL P fn F N ks ops.toArray (some (row, (.g m L C, k1) :: ts1)) (inOrder ops ord1) fr w)
    (h2 : (∀ fr' w, R fr fr' w → WL P fn F N ks ops.toArray (some (row, tsR)) (inOrder ops ordR) fr' w) → WL P fn F N ks ops.toArray (some (row, (.g m L C, k2) :: ts2)) (inOrder ops ord2) fr w)
    (h3 : (∀ fr' w, R fr fr' w → WL P fn F N ks ops.toArray (some (row, tsR)) (inOrder ops ordR) fr' w) → WL P fn F N ks ops.toArray (some (row, (.g m L C, k3) :: ts3)) (inOrder ops ord3) fr w) : WL P fn F N ks ops.toArray (some (row, [(.f m L C, n)])) [] fr w :=
  wl_fork3 D A hD hA hc hl1 hl2 hl3 (h1 h0) (h2 h0) (h3 h0)
end
end Go.Proofs.Ythkfjoilhoemmaa
