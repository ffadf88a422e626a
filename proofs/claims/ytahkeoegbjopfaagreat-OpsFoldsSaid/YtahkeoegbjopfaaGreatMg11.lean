/-
  Walks of the document's answer for chapter 22: may an op apply?
-/
import Derived.Test.YtahkeoegbjopfaaGreatMg10
namespace Go.Proofs.YtahkeoegbjopfaaGreat
set_option maxRecDepth 100000
open Go.RowKit
section
variable {I I' : List (By × By)} {X Y X' Y' : List Ky} {wr u : Ky} {k : Int} {p q : By} {b : Bool}
theorem StepR.no1 (hr : StepR I X Y wr k p q u I' X' Y' b) (h : ¬OkSt I X Y) : I' = I ∧ X' = X ∧ Y' = Y ∧ b = false := by
 obtain ⟨hr⟩ := hr
 unfold stepS at hr
 rw [if_neg h] at hr
 injection hr with h1 h2
 injection h1 with h1 h3
 injection h3 with h3 h4
 exact ⟨h1.symm, h3.symm, h4.symm, h2.symm⟩
theorem StepR.no2 (hr : StepR I X Y wr k p q u I' X' Y' b) (h : ¬mayS (I, X, Y) wr k p.length q.length u) : I' = I ∧ X' = X ∧ Y' = Y ∧ b = false := by
 by_cases ho : OkSt I X Y
 ·obtain ⟨hr⟩ := hr
  unfold stepS stS at hr
  rw [if_pos ho, if_neg h] at hr
  injection hr with h1 h2
  injection h1 with h1 h3
  injection h3 with h3 h4
  exact ⟨h1.symm, h3.symm, h4.symm, h2.symm⟩
 ·exact hr.no1 ho
theorem StepR.yes (hr : StepR I X Y wr k p q u I' X' Y' b) (ho : OkSt I X Y) (h : mayS (I, X, Y) wr k p.length q.length u) : doS k (I, X, Y) p q u = ((I', X', Y'), b) := by
 obtain ⟨hr⟩ := hr
 unfold stepS stS at hr
 rwa [if_pos ho, if_pos h] at hr
end
theorem putS2 {I : List (By × By)} {p q : By} : (putS I p q).2 = (decide (p ∈ I.map Prod.fst) || decide (I.length < 1024)) := by
 unfold putS
 by_cases h : p ∈ I.map Prod.fst
 ·rw [if_pos h, decide_eq_true h]; rfl
 ·rw [if_neg h, decide_eq_false h]
  by_cases h2 : 1024 ≤ I.length
  ·rw [if_pos h2, decide_eq_false (by omega)]; rfl
  ·rw [if_neg h2, decide_eq_true (by omega)]; rfl
theorem delS2 {I : List (By × By)} {p : By} : (delS I p).2 = decide (p ∈ I.map Prod.fst) := by
 unfold delS
 by_cases h : p ∈ I.map Prod.fst
 ·rw [if_pos h, decide_eq_true h]
 ·rw [if_neg h, decide_eq_false h]
theorem addS2 {L : List Ky} {u : Ky} {m : Nat} : (addS L u m).2 = (decide (¬u ∈ L) && decide (L.length < m)) := by
 unfold addS
 by_cases h : u ∈ L
 ·rw [if_pos (.inl h), decide_eq_false (fun h2 => h2 h)]; rfl
 ·by_cases h2 : m ≤ L.length
  ·rw [if_pos (.inr h2), decide_eq_false (p := L.length < m) (by omega), Bool.and_false]
  ·rw [if_neg (fun h3 => h3.elim h h2), decide_eq_true h, decide_eq_true (by omega)]; rfl
theorem dropS2 {L : List Ky} {u : Ky} {m : Nat} : (dropS L u m).2 = (decide (u ∈ L) && decide (m < L.length)) := by
 unfold dropS
 by_cases h : u ∈ L
 ·by_cases h2 : L.length ≤ m
  ·rw [if_pos (.inr h2), decide_eq_false (p := m < L.length) (by omega), Bool.and_false]
  ·rw [if_neg (fun h3 => h3.elim (fun h4 => h4 h) h2), decide_eq_true h, decide_eq_true (by omega)]; rfl
 ·rw [if_pos (.inl h), decide_eq_false h]; rfl
theorem C_r22MemberY {A : Option Addr} {L : List Ky} {u : Ky} {n c : Nat} (w : World) (h : u ∈ L) (hA : RKs w A L) (hn : n = L.length) (hl : L.length ≤ 4000000) :
  CallsR Tryz.prog 132 [.slice A n c, .agg (B8 u.1).toArray] w fun v w' => v = .bool true ∧ Below w.heap.size w w' := by
 have := C_r22Member (c := c) (u := u) w hA hn hl
 rwa [decide_eq_true h] at this
theorem C_r22MemberN {A : Option Addr} {L : List Ky} {u : Ky} {n c : Nat} (w : World) (h : ¬u ∈ L) (hA : RKs w A L) (hn : n = L.length) (hl : L.length ≤ 4000000) :
  CallsR Tryz.prog 132 [.slice A n c, .agg (B8 u.1).toArray] w fun v w' => v = .bool false ∧ Below w.heap.size w w' := by
 have := C_r22Member (c := c) (u := u) w hA hn hl
 rwa [decide_eq_false h] at this
set_option maxHeartbeats 4000000 in
set_option maxRecDepth 100000 in
theorem C_r22May {A B C K V : Option Addr} {I I' : List (By × By)} {X Y X' Y' : List Ky} {p q : By} {n c n2 c2 n3 c3 mk ck md cd : Nat} {k : Int} {u wr : Ky} {b : Bool} (w : World) (hr : StepR I X Y wr k p q u I' X' Y' b) (hA : RI w A I) (hB : RKs w B X) (hC : RKs w C Y) (hK : Rd w K p) (hn : n = I.length) (hn2 : n2 = X.length) (hn3 : n3 = Y.length) (hmk : mk = p.length) (hmd : md = q.length) (hl : I.length ≤ 400000) (hl2 : X.length ≤ 400000) (hl3 : Y.length ≤ 400000) (hL : LtI I) (hp : p.length ≤ 4000000) (hq : q.length ≤ 4000000) :
  CallsR Tryz.prog 97 [.agg #[.slice A n c, .slice B n2 c2, .slice C n3 c3], .agg (B8 wr.1).toArray, .agg (opC k K mk ck V md cd u).toArray] w fun v w' => v = .bool b ∧ Below w.heap.size w w' := by
 subst hn; subst hn2; subst hn3; subst hmk; subst hmd
 refine callsR Tryz.func97 rfl rfl (by kernel_rfl) rfl ?_
 have hw := Below.refl w.heap.size w
 by_cases hok : OkSt I X Y
 rotate_left
 ·obtain ⟨_, _, _, rfl⟩ := hr.no1 hok
  refine rk_seq ?_
  refine rk_region ?_
  refine wl_boxg [_, _, _] rfl (by rfl) ?_
  rintro g3 w3 f3 b3 i3 i3_1
  have s3 := b3.size
  replace hw := hw.trans (b3.mono hw.size)
  refine wl_boxg _ rfl (by rfl) ?_
  rintro g4 w4 f4 b4 i4 i4_1
  have s4 := b4.size
  replace hw := hw.trans (b4.mono hw.size)
  replace f3 := f3.u b4
  refine wl_boxg _ rfl (by rfl) ?_
  rintro g5 w5 f5 b5 i5 i5_1
  have s5 := b5.size
  replace hw := hw.trans (b5.mono hw.size)
  replace f3 := f3.u b5
  replace f4 := f4.u b5
  refine wl_p (fun _ => o_assign rfl) ?_
  refine wl_nil ?_
  refine rk_seq ?_
  refine rk_seq ?_
  refine rk_region ?_
  refine wl_r (o_loadag Tryz.isAgg31 Tryz.sizeOf31 rfl f3 (by rfl)) ?_
  refine wl_call rfl (C_r22CheckStateN _ (by omega) (hA.u hw) (hB.u hw) (hC.u hw) rfl rfl rfl (by omega) (by omega) (by omega) (by omega)) ?_
  rintro v11 w11 ⟨rfl, b11⟩
  have s11 := b11.size
  replace hw := hw.trans (b11.mono hw.size)
  replace f4 := f4.u b11
  replace f3 := f3.u b11
  replace f5 := f5.u b11
  refine wl_p (fun _ => o_ne rfl rfl) ?_
  refine wl_p (fun _ => o_move rfl) ?_
  refine wl_off ?_
  refine wl_off ?_
  refine wl_off ?_
  refine wl_p (fun _ => o_pick_t rfl rfl) ?_
  refine wl_p (fun _ => o_move rfl) ?_
  refine wl_off ?_
  refine wl_off ?_
  refine wl_off ?_
  refine wl_off ?_
  refine wl_off ?_
  refine wl_p (fun _ => o_pick_t rfl rfl) ?_
  refine wl_nil ?_
  refine rk_true rfl ?_
  refine rk_seq ?_
  refine rk_region ?_
  refine wl_p (fun _ => o_assign rfl) ?_
  refine wl_nil ?_
  refine ret1 rfl rfl ?_
  exact ⟨rfl, hw⟩
 cases hc : okOp k p.length q.length u
 ·obtain ⟨_, _, _, rfl⟩ := hr.no2 (fun h => by have := h.1; rw [hc] at this; cases this)
  refine rk_seq ?_
  refine rk_region ?_
  refine wl_boxg [_, _, _] rfl (by rfl) ?_
  rintro g3 w3 f3 b3 i3 i3_1
  have s3 := b3.size
  replace hw := hw.trans (b3.mono hw.size)
  refine wl_boxg _ rfl (by rfl) ?_
  rintro g4 w4 f4 b4 i4 i4_1
  have s4 := b4.size
  replace hw := hw.trans (b4.mono hw.size)
  replace f3 := f3.u b4
  refine wl_boxg _ rfl (by rfl) ?_
  rintro g5 w5 f5 b5 i5 i5_1
  have s5 := b5.size
  replace hw := hw.trans (b5.mono hw.size)
  replace f3 := f3.u b5
  replace f4 := f4.u b5
  refine wl_p (fun _ => o_assign rfl) ?_
  refine wl_nil ?_
  refine rk_seq ?_
  refine rk_seq ?_
  refine rk_region ?_
  refine wl_r (o_loadag Tryz.isAgg31 Tryz.sizeOf31 rfl f3 (by rfl)) ?_
  refine wl_call rfl (C_r22CheckStateY _ (by omega) (hA.u hw) (hB.u hw) (hC.u hw) rfl rfl rfl (by omega) (by omega) (by omega) (by omega)) ?_
  rintro v11 w11 ⟨rfl, b11⟩
  have s11 := b11.size
  replace hw := hw.trans (b11.mono hw.size)
  replace f4 := f4.u b11
  replace f3 := f3.u b11
  replace f5 := f5.u b11
  refine wl_p (fun _ => o_ne rfl rfl) ?_
  refine wl_p (fun _ => o_move rfl) ?_
  refine wl_r (o_loadag Tryz.isAgg54 Tryz.sizeOf54 rfl f5 (opC_length ..)) ?_
  refine wl_call rfl (C_r22CheckN _ (by omega) (by omega) hc) ?_
  rintro v15 w15 ⟨rfl, b15⟩
  have s15 := b15.size
  replace hw := hw.trans (b15.mono hw.size)
  replace f5 := f5.u b15
  replace f3 := f3.u b15
  replace f4 := f4.u b15
  refine wl_p (fun _ => o_ne rfl rfl) ?_
  refine wl_p (fun _ => o_pick_f rfl rfl) ?_
  refine wl_p (fun _ => o_move rfl) ?_
  refine wl_off ?_
  refine wl_off ?_
  refine wl_off ?_
  refine wl_off ?_
  refine wl_off ?_
  refine wl_p (fun _ => o_pick_t rfl rfl) ?_
  refine wl_nil ?_
  refine rk_true rfl ?_
  refine rk_seq ?_
  refine rk_region ?_
  refine wl_p (fun _ => o_assign rfl) ?_
  refine wl_nil ?_
  refine ret1 rfl rfl ?_
  exact ⟨rfl, hw⟩
 by_cases hx : wr ∈ X
 rotate_left
 ·obtain ⟨_, _, _, rfl⟩ := hr.no2 (fun h => hx h.2.1)
  refine rk_seq ?_
  refine rk_region ?_
  refine wl_boxg [_, _, _] rfl (by rfl) ?_
  rintro g3 w3 f3 b3 i3 i3_1
  have s3 := b3.size
  replace hw := hw.trans (b3.mono hw.size)
  refine wl_boxg _ rfl (by rfl) ?_
  rintro g4 w4 f4 b4 i4 i4_1
  have s4 := b4.size
  replace hw := hw.trans (b4.mono hw.size)
  replace f3 := f3.u b4
  refine wl_boxg _ rfl (by rfl) ?_
  rintro g5 w5 f5 b5 i5 i5_1
  have s5 := b5.size
  replace hw := hw.trans (b5.mono hw.size)
  replace f3 := f3.u b5
  replace f4 := f4.u b5
  refine wl_p (fun _ => o_assign rfl) ?_
  refine wl_nil ?_
  refine rk_seq ?_
  refine rk_seq ?_
  refine rk_region ?_
  refine wl_r (o_loadag Tryz.isAgg31 Tryz.sizeOf31 rfl f3 (by rfl)) ?_
  refine wl_call rfl (C_r22CheckStateY _ (by omega) (hA.u hw) (hB.u hw) (hC.u hw) rfl rfl rfl (by omega) (by omega) (by omega) (by omega)) ?_
  rintro v11 w11 ⟨rfl, b11⟩
  have s11 := b11.size
  replace hw := hw.trans (b11.mono hw.size)
  replace f4 := f4.u b11
  replace f3 := f3.u b11
  replace f5 := f5.u b11
  refine wl_p (fun _ => o_ne rfl rfl) ?_
  refine wl_p (fun _ => o_move rfl) ?_
  refine wl_r (o_loadag Tryz.isAgg54 Tryz.sizeOf54 rfl f5 (opC_length ..)) ?_
  refine wl_call rfl (C_r22CheckY _ (by omega) (by omega) hc) ?_
  rintro v15 w15 ⟨rfl, b15⟩
  have s15 := b15.size
  replace hw := hw.trans (b15.mono hw.size)
  replace f5 := f5.u b15
  replace f3 := f3.u b15
  replace f4 := f4.u b15
  refine wl_p (fun _ => o_ne rfl rfl) ?_
  refine wl_p (fun _ => o_pick_f rfl rfl) ?_
  refine wl_p (fun _ => o_move rfl) ?_
  refine wl_p (fun _ => o_faddr (s := 31) (i := 1) (off := 1) Tryz.underlying31 rfl Tryz.sizeOf29 rfl rfl rfl) ?_
  refine wl_r (o_loadbg Tryz.isAgg29 rfl f3 (by rfl)) ?_
  refine wl_r (o_ldKyB rfl f4) ?_
  refine wl_call rfl (C_r22MemberN _ (by omega) (hB.u hw) rfl (by omega)) ?_
  rintro v22 w22 ⟨rfl, b22⟩
  have s22 := b22.size
  replace hw := hw.trans (b22.mono hw.size)
  replace f4 := f4.u b22
  replace f3 := f3.u b22
  replace f5 := f5.u b22
  refine wl_p (fun _ => o_not rfl) ?_
  refine wl_p (fun _ => o_pick_f rfl rfl) ?_
  refine wl_nil ?_
  refine rk_true rfl ?_
  refine rk_seq ?_
  refine rk_region ?_
  refine wl_p (fun _ => o_assign rfl) ?_
  refine wl_nil ?_
  refine ret1 rfl rfl ?_
  exact ⟨rfl, hw⟩
 obtain ⟨hk1, hk2, _⟩ := okOp_of hc
 obtain ⟨kk, hkk⟩ : ∃ kk, low (I.map Prod.fst) p = kk := ⟨_, rfl⟩
 obtain ⟨bb, hbb⟩ : ∃ bb, decide (p ∈ I.map Prod.fst) = bb := ⟨_, rfl⟩
 have ePl : PlaceR I p kk bb := ⟨hok.2.2.1.srt, hkk, hbb⟩
 refine rk_seq ?_
 refine rk_region ?_
 refine wl_boxg [_, _, _] rfl (by rfl) ?_
 rintro g3 w3 f3 b3 i3 i3_1
 have s3 := b3.size
 replace hw := hw.trans (b3.mono hw.size)
 refine wl_boxg _ rfl (by rfl) ?_
 rintro g4 w4 f4 b4 i4 i4_1
 have s4 := b4.size
 replace hw := hw.trans (b4.mono hw.size)
 replace f3 := f3.u b4
 refine wl_boxg _ rfl (by rfl) ?_
 rintro g5 w5 f5 b5 i5 i5_1
 have s5 := b5.size
 replace hw := hw.trans (b5.mono hw.size)
 replace f3 := f3.u b5
 replace f4 := f4.u b5
 refine wl_p (fun _ => o_assign rfl) ?_
 refine wl_nil ?_
 refine rk_seq ?_
 refine rk_seq ?_
 refine rk_region ?_
 refine wl_r (o_loadag Tryz.isAgg31 Tryz.sizeOf31 rfl f3 (by rfl)) ?_
 refine wl_call rfl (C_r22CheckStateY _ (by omega) (hA.u hw) (hB.u hw) (hC.u hw) rfl rfl rfl (by omega) (by omega) (by omega) (by omega)) ?_
 rintro v11 w11 ⟨rfl, b11⟩
 have s11 := b11.size
 replace hw := hw.trans (b11.mono hw.size)
 replace f4 := f4.u b11
 replace f3 := f3.u b11
 replace f5 := f5.u b11
 refine wl_p (fun _ => o_ne rfl rfl) ?_
 refine wl_p (fun _ => o_move rfl) ?_
 refine wl_r (o_loadag Tryz.isAgg54 Tryz.sizeOf54 rfl f5 (opC_length ..)) ?_
 refine wl_call rfl (C_r22CheckY _ (by omega) (by omega) hc) ?_
 rintro v15 w15 ⟨rfl, b15⟩
 have s15 := b15.size
 replace hw := hw.trans (b15.mono hw.size)
 replace f5 := f5.u b15
 replace f3 := f3.u b15
 replace f4 := f4.u b15
 refine wl_p (fun _ => o_ne rfl rfl) ?_
 refine wl_p (fun _ => o_pick_f rfl rfl) ?_
 refine wl_p (fun _ => o_move rfl) ?_
 refine wl_p (fun _ => o_faddr (s := 31) (i := 1) (off := 1) Tryz.underlying31 rfl Tryz.sizeOf29 rfl rfl rfl) ?_
 refine wl_r (o_loadbg Tryz.isAgg29 rfl f3 (by rfl)) ?_
 refine wl_r (o_ldKyB rfl f4) ?_
 refine wl_call rfl (C_r22MemberY _ (by omega) (hB.u hw) rfl (by omega)) ?_
 rintro v22 w22 ⟨rfl, b22⟩
 have s22 := b22.size
 replace hw := hw.trans (b22.mono hw.size)
 replace f4 := f4.u b22
 replace f3 := f3.u b22
 replace f5 := f5.u b22
 refine wl_p (fun _ => o_not rfl) ?_
 refine wl_p (fun _ => o_pick_f rfl rfl) ?_
 refine wl_nil ?_
 refine rk_false rfl ?_
 refine rk_skip ?_
 refine rk_seq ?_
 refine rk_region ?_
 refine wl_r (o_loadag Tryz.isAgg31 Tryz.sizeOf31 rfl f3 (by rfl)) ?_
 refine wl_p (fun _ => o_faddr (s := 54) (i := 1) (off := 1) Tryz.underlying54 rfl Tryz.sizeOf39 rfl rfl rfl) ?_
 refine wl_r (o_loadbg Tryz.isAgg39 rfl f5 (by rfl)) ?_
 refine wl_call rfl (C_r22place _ (hA.u hw) (hK.u hw) ePl rfl rfl (by omega) (by omega) (by omega)) ?_
 rintro v29 w29 ⟨rfl, b29⟩
 have s29 := b29.size
 replace hw := hw.trans (b29.mono hw.size)
 replace f5 := f5.u b29
 replace f3 := f3.u b29
 replace f4 := f4.u b29
 refine wl_p (fun _ => o_move rfl) ?_
 refine wl_p (fun _ => o_ext20 rfl) ?_
 refine wl_p (fun _ => o_ext21 rfl) ?_
 refine wl_p (fun _ => o_assign rfl) ?_
 refine wl_p (fun _ => o_assign rfl) ?_
 refine wl_nil ?_
 refine rk_seq ?_
 refine rk_region ?_
 refine wl_p (fun _ => o_faddr (s := 31) (i := 2) (off := 2) Tryz.underlying31 rfl Tryz.sizeOf29 rfl rfl rfl) ?_
 refine wl_r (o_loadbg Tryz.isAgg29 rfl f3 (by rfl)) ?_
 refine wl_r (o_ldKyB rfl f4) ?_
 refine wl_call rfl (C_r22Member _ (hC.u hw) rfl (by omega)) ?_
 rintro v35 w35 ⟨rfl, b35⟩
 have s35 := b35.size
 replace hw := hw.trans (b35.mono hw.size)
 replace f4 := f4.u b35
 replace f3 := f3.u b35
 replace f5 := f5.u b35
 refine wl_p (fun _ => o_assign rfl) ?_
 refine wl_nil ?_
 refine rk_seq ?_
 refine rk_seq ?_
 refine rk_region ?_
 refine wl_p (fun _ => o_faddr (s := 54) (i := 0) (off := 0) Tryz.underlying54 rfl Tryz.sizeOf3 rfl rfl rfl) ?_
 refine wl_r (o_loadbg Tryz.isAgg3 rfl f5 (by rfl)) ?_
 refine wl_nil ?_
 refine rk_block ?_
 refine rk_seq ?_
 refine rk_region ?_
 refine wl_p (fun _ => o_eq rfl rfl) ?_
 refine wl_p (fun _ => o_assign rfl) ?_
 refine wl_nil ?_
 rcases (show k = 1 ∨ k = 2 ∨ k = 3 ∨ k = 4 ∨ k = 5 ∨ k = 6 by omega) with rfl | rfl | rfl | rfl | rfl | rfl
 ·have hd : (putS I p q).2 = b := congrArg Prod.snd (hr.yes hok ⟨hc, hx, fun h => absurd rfl h.1⟩)
  rw [putS2, hbb] at hd
  cases bb
  ·by_cases h5 : I.length < 1024
   ·rw [decide_eq_true h5] at hd
    refine rk_true rfl ?_
    refine rk_seq ?_
    refine rk_region ?_
    refine wl_p (fun _ => o_move rfl) ?_
    refine wl_p (fun _ => o_move rfl) ?_
    refine wl_p (fun _ => o_faddr (s := 31) (i := 0) (off := 0) Tryz.underlying31 rfl Tryz.sizeOf28 rfl rfl rfl) ?_
    refine wl_r (o_loadbg Tryz.isAgg28 rfl f3 (by rfl)) ?_
    refine wl_p (fun _ => o_len (t := 28) Tryz.underlying28 rfl) ?_
    refine wl_p (fun _ => o_lt rfl rfl) ?_
    refine wl_p (fun _ => o_pick_f rfl rfl) ?_
    refine wl_p (fun _ => o_assign rfl) ?_
    refine wl_nil ?_
    refine ret1 rfl rfl ?_
    exact ⟨by rw [← hd]; exact congrArg Value.bool (by first | exact decide_eq_true (by omega) | exact decide_eq_false (by omega)), hw⟩
   ·rw [decide_eq_false h5] at hd
    refine rk_true rfl ?_
    refine rk_seq ?_
    refine rk_region ?_
    refine wl_p (fun _ => o_move rfl) ?_
    refine wl_p (fun _ => o_move rfl) ?_
    refine wl_p (fun _ => o_faddr (s := 31) (i := 0) (off := 0) Tryz.underlying31 rfl Tryz.sizeOf28 rfl rfl rfl) ?_
    refine wl_r (o_loadbg Tryz.isAgg28 rfl f3 (by rfl)) ?_
    refine wl_p (fun _ => o_len (t := 28) Tryz.underlying28 rfl) ?_
    refine wl_p (fun _ => o_lt rfl rfl) ?_
    refine wl_p (fun _ => o_pick_f rfl rfl) ?_
    refine wl_p (fun _ => o_assign rfl) ?_
    refine wl_nil ?_
    refine ret1 rfl rfl ?_
    exact ⟨by rw [← hd]; exact congrArg Value.bool (by first | exact decide_eq_true (by omega) | exact decide_eq_false (by omega)), hw⟩
  ·refine rk_true rfl ?_
   refine rk_seq ?_
   refine rk_region ?_
   refine wl_p (fun _ => o_move rfl) ?_
   refine wl_p (fun _ => o_move rfl) ?_
   refine wl_off ?_
   refine wl_off ?_
   refine wl_off ?_
   refine wl_off ?_
   refine wl_p (fun _ => o_pick_t rfl rfl) ?_
   refine wl_p (fun _ => o_assign rfl) ?_
   refine wl_nil ?_
   refine ret1 rfl rfl ?_
   exact ⟨by rw [← hd]; rfl, hw⟩
 ·have hd : (delS I p).2 = b := congrArg Prod.snd (hr.yes hok ⟨hc, hx, fun h => absurd rfl h.2⟩)
  rw [delS2, hbb] at hd
  refine rk_false rfl ?_
  refine rk_seq ?_
  refine rk_region ?_
  refine wl_p (fun _ => o_eq rfl rfl) ?_
  refine wl_p (fun _ => o_assign rfl) ?_
  refine wl_nil ?_
  refine rk_true rfl ?_
  refine rk_seq ?_
  refine rk_region ?_
  refine wl_p (fun _ => o_move rfl) ?_
  refine wl_p (fun _ => o_assign rfl) ?_
  refine wl_nil ?_
  refine ret1 rfl rfl ?_
  exact ⟨by rw [← hd], hw⟩
 ·by_cases hy : wr ∈ Y
  rotate_left
  ·obtain ⟨_, _, _, rfl⟩ := hr.no2 (fun h => hy (h.2.2 ⟨by decide, by decide⟩))
   rw [decide_eq_false hy]
   refine rk_false rfl ?_
   refine rk_seq ?_
   refine rk_region ?_
   refine wl_p (fun _ => o_eq rfl rfl) ?_
   refine wl_p (fun _ => o_assign rfl) ?_
   refine wl_nil ?_
   refine rk_false rfl ?_
   refine rk_seq ?_
   refine rk_region ?_
   refine wl_p (fun _ => o_eq rfl rfl) ?_
   refine wl_p (fun _ => o_assign rfl) ?_
   refine wl_nil ?_
   refine rk_true rfl ?_
   refine rk_seq ?_
   refine rk_region ?_
   refine wl_p (fun _ => o_move rfl) ?_
   refine wl_p (fun _ => o_move rfl) ?_
   refine wl_off ?_
   refine wl_off ?_
   refine wl_off ?_
   refine wl_off ?_
   refine wl_off ?_
   refine wl_off ?_
   refine wl_p (fun _ => o_pick_f rfl rfl) ?_
   refine wl_p (fun _ => o_move rfl) ?_
   refine wl_off ?_
   refine wl_off ?_
   refine wl_off ?_
   refine wl_off ?_
   refine wl_p (fun _ => o_pick_f rfl rfl) ?_
   refine wl_p (fun _ => o_assign rfl) ?_
   refine wl_nil ?_
   refine ret1 rfl rfl ?_
   exact ⟨rfl, hw⟩
  rw [decide_eq_true hy]
  have hd : (addS X u 16).2 = b := congrArg Prod.snd (hr.yes hok ⟨hc, hx, fun _ => hy⟩)
  rw [addS2] at hd
  by_cases hu : u ∈ X
  ·rw [decide_eq_false (fun h => h hu)] at hd
   refine rk_false rfl ?_
   refine rk_seq ?_
   refine rk_region ?_
   refine wl_p (fun _ => o_eq rfl rfl) ?_
   refine wl_p (fun _ => o_assign rfl) ?_
   refine wl_nil ?_
   refine rk_false rfl ?_
   refine rk_seq ?_
   refine rk_region ?_
   refine wl_p (fun _ => o_eq rfl rfl) ?_
   refine wl_p (fun _ => o_assign rfl) ?_
   refine wl_nil ?_
   refine rk_true rfl ?_
   refine rk_seq ?_
   refine rk_region ?_
   refine wl_p (fun _ => o_move rfl) ?_
   refine wl_p (fun _ => o_move rfl) ?_
   refine wl_p (fun _ => o_faddr (s := 31) (i := 1) (off := 1) Tryz.underlying31 rfl Tryz.sizeOf29 rfl rfl rfl) ?_
   refine wl_r (o_loadbg Tryz.isAgg29 rfl f3 (by rfl)) ?_
   refine wl_p (fun _ => o_faddr (s := 54) (i := 3) (off := 3) Tryz.underlying54 rfl Tryz.sizeOf42 rfl rfl rfl) ?_
   refine wl_r (o_ldWho rfl f5) ?_
   refine wl_call rfl (C_r22MemberY _ (by omega) (hB.u hw) rfl (by omega)) ?_
   rintro v58 w58 ⟨rfl, b58⟩
   have s58 := b58.size
   replace hw := hw.trans (b58.mono hw.size)
   replace f5 := f5.u b58
   replace f3 := f3.u b58
   replace f4 := f4.u b58
   refine wl_p (fun _ => o_not rfl) ?_
   refine wl_p (fun _ => o_pick_t rfl rfl) ?_
   refine wl_p (fun _ => o_move rfl) ?_
   refine wl_off ?_
   refine wl_off ?_
   refine wl_off ?_
   refine wl_off ?_
   refine wl_p (fun _ => o_pick_f rfl rfl) ?_
   refine wl_p (fun _ => o_assign rfl) ?_
   refine wl_nil ?_
   refine ret1 rfl rfl ?_
   exact ⟨by rw [← hd]; rfl, hw⟩
  ·rw [decide_eq_true hu] at hd
   by_cases h5 : X.length < 16
   ·rw [decide_eq_true h5] at hd
    refine rk_false rfl ?_
    refine rk_seq ?_
    refine rk_region ?_
    refine wl_p (fun _ => o_eq rfl rfl) ?_
    refine wl_p (fun _ => o_assign rfl) ?_
    refine wl_nil ?_
    refine rk_false rfl ?_
    refine rk_seq ?_
    refine rk_region ?_
    refine wl_p (fun _ => o_eq rfl rfl) ?_
    refine wl_p (fun _ => o_assign rfl) ?_
    refine wl_nil ?_
    refine rk_true rfl ?_
    refine rk_seq ?_
    refine rk_region ?_
    refine wl_p (fun _ => o_move rfl) ?_
    refine wl_p (fun _ => o_move rfl) ?_
    refine wl_p (fun _ => o_faddr (s := 31) (i := 1) (off := 1) Tryz.underlying31 rfl Tryz.sizeOf29 rfl rfl rfl) ?_
    refine wl_r (o_loadbg Tryz.isAgg29 rfl f3 (by rfl)) ?_
    refine wl_p (fun _ => o_faddr (s := 54) (i := 3) (off := 3) Tryz.underlying54 rfl Tryz.sizeOf42 rfl rfl rfl) ?_
    refine wl_r (o_ldWho rfl f5) ?_
    refine wl_call rfl (C_r22MemberN _ (by omega) (hB.u hw) rfl (by omega)) ?_
    rintro v58 w58 ⟨rfl, b58⟩
    have s58 := b58.size
    replace hw := hw.trans (b58.mono hw.size)
    replace f5 := f5.u b58
    replace f3 := f3.u b58
    replace f4 := f4.u b58
    refine wl_p (fun _ => o_not rfl) ?_
    refine wl_p (fun _ => o_pick_t rfl rfl) ?_
    refine wl_p (fun _ => o_move rfl) ?_
    refine wl_p (fun _ => o_faddr (s := 31) (i := 1) (off := 1) Tryz.underlying31 rfl Tryz.sizeOf29 rfl rfl rfl) ?_
    refine wl_r (o_loadbg Tryz.isAgg29 rfl f3 (by rfl)) ?_
    refine wl_p (fun _ => o_len (t := 29) Tryz.underlying29 rfl) ?_
    refine wl_p (fun _ => o_lt rfl rfl) ?_
    refine wl_p (fun _ => o_pick_t rfl rfl) ?_
    refine wl_p (fun _ => o_assign rfl) ?_
    refine wl_nil ?_
    refine ret1 rfl rfl ?_
    exact ⟨by rw [← hd]; exact congrArg Value.bool (by first | exact decide_eq_true (by omega) | exact decide_eq_false (by omega)), hw⟩
   ·rw [decide_eq_false h5] at hd
    refine rk_false rfl ?_
    refine rk_seq ?_
    refine rk_region ?_
    refine wl_p (fun _ => o_eq rfl rfl) ?_
    refine wl_p (fun _ => o_assign rfl) ?_
    refine wl_nil ?_
    refine rk_false rfl ?_
    refine rk_seq ?_
    refine rk_region ?_
    refine wl_p (fun _ => o_eq rfl rfl) ?_
    refine wl_p (fun _ => o_assign rfl) ?_
    refine wl_nil ?_
    refine rk_true rfl ?_
    refine rk_seq ?_
    refine rk_region ?_
    refine wl_p (fun _ => o_move rfl) ?_
    refine wl_p (fun _ => o_move rfl) ?_
    refine wl_p (fun _ => o_faddr (s := 31) (i := 1) (off := 1) Tryz.underlying31 rfl Tryz.sizeOf29 rfl rfl rfl) ?_
    refine wl_r (o_loadbg Tryz.isAgg29 rfl f3 (by rfl)) ?_
    refine wl_p (fun _ => o_faddr (s := 54) (i := 3) (off := 3) Tryz.underlying54 rfl Tryz.sizeOf42 rfl rfl rfl) ?_
    refine wl_r (o_ldWho rfl f5) ?_
    refine wl_call rfl (C_r22MemberN _ (by omega) (hB.u hw) rfl (by omega)) ?_
    rintro v58 w58 ⟨rfl, b58⟩
    have s58 := b58.size
    replace hw := hw.trans (b58.mono hw.size)
    replace f5 := f5.u b58
    replace f3 := f3.u b58
    replace f4 := f4.u b58
    refine wl_p (fun _ => o_not rfl) ?_
    refine wl_p (fun _ => o_pick_t rfl rfl) ?_
    refine wl_p (fun _ => o_move rfl) ?_
    refine wl_p (fun _ => o_faddr (s := 31) (i := 1) (off := 1) Tryz.underlying31 rfl Tryz.sizeOf29 rfl rfl rfl) ?_
    refine wl_r (o_loadbg Tryz.isAgg29 rfl f3 (by rfl)) ?_
    refine wl_p (fun _ => o_len (t := 29) Tryz.underlying29 rfl) ?_
    refine wl_p (fun _ => o_lt rfl rfl) ?_
    refine wl_p (fun _ => o_pick_t rfl rfl) ?_
    refine wl_p (fun _ => o_assign rfl) ?_
    refine wl_nil ?_
    refine ret1 rfl rfl ?_
    exact ⟨by rw [← hd]; exact congrArg Value.bool (by first | exact decide_eq_true (by omega) | exact decide_eq_false (by omega)), hw⟩
 ·by_cases hy : wr ∈ Y
  rotate_left
  ·obtain ⟨_, _, _, rfl⟩ := hr.no2 (fun h => hy (h.2.2 ⟨by decide, by decide⟩))
   rw [decide_eq_false hy]
   refine rk_false rfl ?_
   refine rk_seq ?_
   refine rk_region ?_
   refine wl_p (fun _ => o_eq rfl rfl) ?_
   refine wl_p (fun _ => o_assign rfl) ?_
   refine wl_nil ?_
   refine rk_false rfl ?_
   refine rk_seq ?_
   refine rk_region ?_
   refine wl_p (fun _ => o_eq rfl rfl) ?_
   refine wl_p (fun _ => o_assign rfl) ?_
   refine wl_nil ?_
   refine rk_false rfl ?_
   refine rk_seq ?_
   refine rk_region ?_
   refine wl_p (fun _ => o_eq rfl rfl) ?_
   refine wl_p (fun _ => o_assign rfl) ?_
   refine wl_nil ?_
   refine rk_true rfl ?_
   refine rk_seq ?_
   refine rk_region ?_
   refine wl_p (fun _ => o_move rfl) ?_
   refine wl_p (fun _ => o_move rfl) ?_
   refine wl_off ?_
   refine wl_off ?_
   refine wl_off ?_
   refine wl_off ?_
   refine wl_off ?_
   refine wl_p (fun _ => o_pick_f rfl rfl) ?_
   refine wl_p (fun _ => o_assign rfl) ?_
   refine wl_nil ?_
   refine ret1 rfl rfl ?_
   exact ⟨rfl, hw⟩
  rw [decide_eq_true hy]
  have hd : (dropS X u 0).2 = b := congrArg Prod.snd (hr.yes hok ⟨hc, hx, fun _ => hy⟩)
  rw [dropS2] at hd
  by_cases hu : u ∈ X
  ·rw [decide_eq_true hu, decide_eq_true (List.length_pos_of_mem hu)] at hd
   refine rk_false rfl ?_
   refine rk_seq ?_
   refine rk_region ?_
   refine wl_p (fun _ => o_eq rfl rfl) ?_
   refine wl_p (fun _ => o_assign rfl) ?_
   refine wl_nil ?_
   refine rk_false rfl ?_
   refine rk_seq ?_
   refine rk_region ?_
   refine wl_p (fun _ => o_eq rfl rfl) ?_
   refine wl_p (fun _ => o_assign rfl) ?_
   refine wl_nil ?_
   refine rk_false rfl ?_
   refine rk_seq ?_
   refine rk_region ?_
   refine wl_p (fun _ => o_eq rfl rfl) ?_
   refine wl_p (fun _ => o_assign rfl) ?_
   refine wl_nil ?_
   refine rk_true rfl ?_
   refine rk_seq ?_
   refine rk_region ?_
   refine wl_p (fun _ => o_move rfl) ?_
   refine wl_p (fun _ => o_move rfl) ?_
   refine wl_p (fun _ => o_faddr (s := 31) (i := 1) (off := 1) Tryz.underlying31 rfl Tryz.sizeOf29 rfl rfl rfl) ?_
   refine wl_r (o_loadbg Tryz.isAgg29 rfl f3 (by rfl)) ?_
   refine wl_p (fun _ => o_faddr (s := 54) (i := 3) (off := 3) Tryz.underlying54 rfl Tryz.sizeOf42 rfl rfl rfl) ?_
   refine wl_r (o_ldWho rfl f5) ?_
   refine wl_call rfl (C_r22MemberY _ (by omega) (hB.u hw) rfl (by omega)) ?_
   rintro v75 w75 ⟨rfl, b75⟩
   have s75 := b75.size
   replace hw := hw.trans (b75.mono hw.size)
   replace f5 := f5.u b75
   replace f3 := f3.u b75
   replace f4 := f4.u b75
   refine wl_p (fun _ => o_pick_t rfl rfl) ?_
   refine wl_p (fun _ => o_assign rfl) ?_
   refine wl_nil ?_
   refine ret1 rfl rfl ?_
   exact ⟨by rw [← hd]; rfl, hw⟩
  ·rw [decide_eq_false hu] at hd
   refine rk_false rfl ?_
   refine rk_seq ?_
   refine rk_region ?_
   refine wl_p (fun _ => o_eq rfl rfl) ?_
   refine wl_p (fun _ => o_assign rfl) ?_
   refine wl_nil ?_
   refine rk_false rfl ?_
   refine rk_seq ?_
   refine rk_region ?_
   refine wl_p (fun _ => o_eq rfl rfl) ?_
   refine wl_p (fun _ => o_assign rfl) ?_
   refine wl_nil ?_
   refine rk_false rfl ?_
   refine rk_seq ?_
   refine rk_region ?_
   refine wl_p (fun _ => o_eq rfl rfl) ?_
   refine wl_p (fun _ => o_assign rfl) ?_
   refine wl_nil ?_
   refine rk_true rfl ?_
   refine rk_seq ?_
   refine rk_region ?_
   refine wl_p (fun _ => o_move rfl) ?_
   refine wl_p (fun _ => o_move rfl) ?_
   refine wl_p (fun _ => o_faddr (s := 31) (i := 1) (off := 1) Tryz.underlying31 rfl Tryz.sizeOf29 rfl rfl rfl) ?_
   refine wl_r (o_loadbg Tryz.isAgg29 rfl f3 (by rfl)) ?_
   refine wl_p (fun _ => o_faddr (s := 54) (i := 3) (off := 3) Tryz.underlying54 rfl Tryz.sizeOf42 rfl rfl rfl) ?_
   refine wl_r (o_ldWho rfl f5) ?_
   refine wl_call rfl (C_r22MemberN _ (by omega) (hB.u hw) rfl (by omega)) ?_
   rintro v75 w75 ⟨rfl, b75⟩
   have s75 := b75.size
   replace hw := hw.trans (b75.mono hw.size)
   replace f5 := f5.u b75
   replace f3 := f3.u b75
   replace f4 := f4.u b75
   refine wl_p (fun _ => o_pick_t rfl rfl) ?_
   refine wl_p (fun _ => o_assign rfl) ?_
   refine wl_nil ?_
   refine ret1 rfl rfl ?_
   exact ⟨by rw [← hd]; rfl, hw⟩
 ·by_cases hy : wr ∈ Y
  rotate_left
  ·obtain ⟨_, _, _, rfl⟩ := hr.no2 (fun h => hy (h.2.2 ⟨by decide, by decide⟩))
   rw [decide_eq_false hy]
   refine rk_false rfl ?_
   refine rk_seq ?_
   refine rk_region ?_
   refine wl_p (fun _ => o_eq rfl rfl) ?_
   refine wl_p (fun _ => o_assign rfl) ?_
   refine wl_nil ?_
   refine rk_false rfl ?_
   refine rk_seq ?_
   refine rk_region ?_
   refine wl_p (fun _ => o_eq rfl rfl) ?_
   refine wl_p (fun _ => o_assign rfl) ?_
   refine wl_nil ?_
   refine rk_false rfl ?_
   refine rk_seq ?_
   refine rk_region ?_
   refine wl_p (fun _ => o_eq rfl rfl) ?_
   refine wl_p (fun _ => o_assign rfl) ?_
   refine wl_nil ?_
   refine rk_false rfl ?_
   refine rk_seq ?_
   refine rk_region ?_
   refine wl_p (fun _ => o_eq rfl rfl) ?_
   refine wl_p (fun _ => o_assign rfl) ?_
   refine wl_nil ?_
   refine rk_true rfl ?_
   refine rk_seq ?_
   refine rk_region ?_
   refine wl_p (fun _ => o_move rfl) ?_
   refine wl_p (fun _ => o_move rfl) ?_
   refine wl_off ?_
   refine wl_off ?_
   refine wl_off ?_
   refine wl_off ?_
   refine wl_off ?_
   refine wl_off ?_
   refine wl_p (fun _ => o_pick_f rfl rfl) ?_
   refine wl_p (fun _ => o_move rfl) ?_
   refine wl_off ?_
   refine wl_off ?_
   refine wl_off ?_
   refine wl_off ?_
   refine wl_p (fun _ => o_pick_f rfl rfl) ?_
   refine wl_p (fun _ => o_assign rfl) ?_
   refine wl_nil ?_
   refine ret1 rfl rfl ?_
   exact ⟨rfl, hw⟩
  rw [decide_eq_true hy]
  have hd : (addS Y u 16).2 = b := congrArg Prod.snd (hr.yes hok ⟨hc, hx, fun _ => hy⟩)
  rw [addS2] at hd
  by_cases hu : u ∈ Y
  ·rw [decide_eq_false (fun h => h hu)] at hd
   refine rk_false rfl ?_
   refine rk_seq ?_
   refine rk_region ?_
   refine wl_p (fun _ => o_eq rfl rfl) ?_
   refine wl_p (fun _ => o_assign rfl) ?_
   refine wl_nil ?_
   refine rk_false rfl ?_
   refine rk_seq ?_
   refine rk_region ?_
   refine wl_p (fun _ => o_eq rfl rfl) ?_
   refine wl_p (fun _ => o_assign rfl) ?_
   refine wl_nil ?_
   refine rk_false rfl ?_
   refine rk_seq ?_
   refine rk_region ?_
   refine wl_p (fun _ => o_eq rfl rfl) ?_
   refine wl_p (fun _ => o_assign rfl) ?_
   refine wl_nil ?_
   refine rk_false rfl ?_
   refine rk_seq ?_
   refine rk_region ?_
   refine wl_p (fun _ => o_eq rfl rfl) ?_
   refine wl_p (fun _ => o_assign rfl) ?_
   refine wl_nil ?_
   refine rk_true rfl ?_
   refine rk_seq ?_
   refine rk_region ?_
   refine wl_p (fun _ => o_move rfl) ?_
   refine wl_p (fun _ => o_move rfl) ?_
   refine wl_p (fun _ => o_faddr (s := 31) (i := 2) (off := 2) Tryz.underlying31 rfl Tryz.sizeOf29 rfl rfl rfl) ?_
   refine wl_r (o_loadbg Tryz.isAgg29 rfl f3 (by rfl)) ?_
   refine wl_p (fun _ => o_faddr (s := 54) (i := 3) (off := 3) Tryz.underlying54 rfl Tryz.sizeOf42 rfl rfl rfl) ?_
   refine wl_r (o_ldWho rfl f5) ?_
   refine wl_call rfl (C_r22MemberY _ (by omega) (hC.u hw) rfl (by omega)) ?_
   rintro v85 w85 ⟨rfl, b85⟩
   have s85 := b85.size
   replace hw := hw.trans (b85.mono hw.size)
   replace f5 := f5.u b85
   replace f3 := f3.u b85
   replace f4 := f4.u b85
   refine wl_p (fun _ => o_not rfl) ?_
   refine wl_p (fun _ => o_pick_t rfl rfl) ?_
   refine wl_p (fun _ => o_move rfl) ?_
   refine wl_off ?_
   refine wl_off ?_
   refine wl_off ?_
   refine wl_off ?_
   refine wl_p (fun _ => o_pick_f rfl rfl) ?_
   refine wl_p (fun _ => o_assign rfl) ?_
   refine wl_nil ?_
   refine ret1 rfl rfl ?_
   exact ⟨by rw [← hd]; rfl, hw⟩
  ·rw [decide_eq_true hu] at hd
   by_cases h5 : Y.length < 16
   ·rw [decide_eq_true h5] at hd
    refine rk_false rfl ?_
    refine rk_seq ?_
    refine rk_region ?_
    refine wl_p (fun _ => o_eq rfl rfl) ?_
    refine wl_p (fun _ => o_assign rfl) ?_
    refine wl_nil ?_
    refine rk_false rfl ?_
    refine rk_seq ?_
    refine rk_region ?_
    refine wl_p (fun _ => o_eq rfl rfl) ?_
    refine wl_p (fun _ => o_assign rfl) ?_
    refine wl_nil ?_
    refine rk_false rfl ?_
    refine rk_seq ?_
    refine rk_region ?_
    refine wl_p (fun _ => o_eq rfl rfl) ?_
    refine wl_p (fun _ => o_assign rfl) ?_
    refine wl_nil ?_
    refine rk_false rfl ?_
    refine rk_seq ?_
    refine rk_region ?_
    refine wl_p (fun _ => o_eq rfl rfl) ?_
    refine wl_p (fun _ => o_assign rfl) ?_
    refine wl_nil ?_
    refine rk_true rfl ?_
    refine rk_seq ?_
    refine rk_region ?_
    refine wl_p (fun _ => o_move rfl) ?_
    refine wl_p (fun _ => o_move rfl) ?_
    refine wl_p (fun _ => o_faddr (s := 31) (i := 2) (off := 2) Tryz.underlying31 rfl Tryz.sizeOf29 rfl rfl rfl) ?_
    refine wl_r (o_loadbg Tryz.isAgg29 rfl f3 (by rfl)) ?_
    refine wl_p (fun _ => o_faddr (s := 54) (i := 3) (off := 3) Tryz.underlying54 rfl Tryz.sizeOf42 rfl rfl rfl) ?_
    refine wl_r (o_ldWho rfl f5) ?_
    refine wl_call rfl (C_r22MemberN _ (by omega) (hC.u hw) rfl (by omega)) ?_
    rintro v85 w85 ⟨rfl, b85⟩
    have s85 := b85.size
    replace hw := hw.trans (b85.mono hw.size)
    replace f5 := f5.u b85
    replace f3 := f3.u b85
    replace f4 := f4.u b85
    refine wl_p (fun _ => o_not rfl) ?_
    refine wl_p (fun _ => o_pick_t rfl rfl) ?_
    refine wl_p (fun _ => o_move rfl) ?_
    refine wl_p (fun _ => o_faddr (s := 31) (i := 2) (off := 2) Tryz.underlying31 rfl Tryz.sizeOf29 rfl rfl rfl) ?_
    refine wl_r (o_loadbg Tryz.isAgg29 rfl f3 (by rfl)) ?_
    refine wl_p (fun _ => o_len (t := 29) Tryz.underlying29 rfl) ?_
    refine wl_p (fun _ => o_lt rfl rfl) ?_
    refine wl_p (fun _ => o_pick_t rfl rfl) ?_
    refine wl_p (fun _ => o_assign rfl) ?_
    refine wl_nil ?_
    refine ret1 rfl rfl ?_
    exact ⟨by rw [← hd]; exact congrArg Value.bool (by first | exact decide_eq_true (by omega) | exact decide_eq_false (by omega)), hw⟩
   ·rw [decide_eq_false h5] at hd
    refine rk_false rfl ?_
    refine rk_seq ?_
    refine rk_region ?_
    refine wl_p (fun _ => o_eq rfl rfl) ?_
    refine wl_p (fun _ => o_assign rfl) ?_
    refine wl_nil ?_
    refine rk_false rfl ?_
    refine rk_seq ?_
    refine rk_region ?_
    refine wl_p (fun _ => o_eq rfl rfl) ?_
    refine wl_p (fun _ => o_assign rfl) ?_
    refine wl_nil ?_
    refine rk_false rfl ?_
    refine rk_seq ?_
    refine rk_region ?_
    refine wl_p (fun _ => o_eq rfl rfl) ?_
    refine wl_p (fun _ => o_assign rfl) ?_
    refine wl_nil ?_
    refine rk_false rfl ?_
    refine rk_seq ?_
    refine rk_region ?_
    refine wl_p (fun _ => o_eq rfl rfl) ?_
    refine wl_p (fun _ => o_assign rfl) ?_
    refine wl_nil ?_
    refine rk_true rfl ?_
    refine rk_seq ?_
    refine rk_region ?_
    refine wl_p (fun _ => o_move rfl) ?_
    refine wl_p (fun _ => o_move rfl) ?_
    refine wl_p (fun _ => o_faddr (s := 31) (i := 2) (off := 2) Tryz.underlying31 rfl Tryz.sizeOf29 rfl rfl rfl) ?_
    refine wl_r (o_loadbg Tryz.isAgg29 rfl f3 (by rfl)) ?_
    refine wl_p (fun _ => o_faddr (s := 54) (i := 3) (off := 3) Tryz.underlying54 rfl Tryz.sizeOf42 rfl rfl rfl) ?_
    refine wl_r (o_ldWho rfl f5) ?_
    refine wl_call rfl (C_r22MemberN _ (by omega) (hC.u hw) rfl (by omega)) ?_
    rintro v85 w85 ⟨rfl, b85⟩
    have s85 := b85.size
    replace hw := hw.trans (b85.mono hw.size)
    replace f5 := f5.u b85
    replace f3 := f3.u b85
    replace f4 := f4.u b85
    refine wl_p (fun _ => o_not rfl) ?_
    refine wl_p (fun _ => o_pick_t rfl rfl) ?_
    refine wl_p (fun _ => o_move rfl) ?_
    refine wl_p (fun _ => o_faddr (s := 31) (i := 2) (off := 2) Tryz.underlying31 rfl Tryz.sizeOf29 rfl rfl rfl) ?_
    refine wl_r (o_loadbg Tryz.isAgg29 rfl f3 (by rfl)) ?_
    refine wl_p (fun _ => o_len (t := 29) Tryz.underlying29 rfl) ?_
    refine wl_p (fun _ => o_lt rfl rfl) ?_
    refine wl_p (fun _ => o_pick_t rfl rfl) ?_
    refine wl_p (fun _ => o_assign rfl) ?_
    refine wl_nil ?_
    refine ret1 rfl rfl ?_
    exact ⟨by rw [← hd]; exact congrArg Value.bool (by first | exact decide_eq_true (by omega) | exact decide_eq_false (by omega)), hw⟩
 ·by_cases hy : wr ∈ Y
  rotate_left
  ·obtain ⟨_, _, _, rfl⟩ := hr.no2 (fun h => hy (h.2.2 ⟨by decide, by decide⟩))
   rw [decide_eq_false hy]
   refine rk_false rfl ?_
   refine rk_seq ?_
   refine rk_region ?_
   refine wl_p (fun _ => o_eq rfl rfl) ?_
   refine wl_p (fun _ => o_assign rfl) ?_
   refine wl_nil ?_
   refine rk_false rfl ?_
   refine rk_seq ?_
   refine rk_region ?_
   refine wl_p (fun _ => o_eq rfl rfl) ?_
   refine wl_p (fun _ => o_assign rfl) ?_
   refine wl_nil ?_
   refine rk_false rfl ?_
   refine rk_seq ?_
   refine rk_region ?_
   refine wl_p (fun _ => o_eq rfl rfl) ?_
   refine wl_p (fun _ => o_assign rfl) ?_
   refine wl_nil ?_
   refine rk_false rfl ?_
   refine rk_seq ?_
   refine rk_region ?_
   refine wl_p (fun _ => o_eq rfl rfl) ?_
   refine wl_p (fun _ => o_assign rfl) ?_
   refine wl_nil ?_
   refine rk_false rfl ?_
   refine rk_skip ?_
   refine rk_blk ?_
   refine rk_seq ?_
   refine rk_region ?_
   refine wl_p (fun _ => o_move rfl) ?_
   refine wl_p (fun _ => o_move rfl) ?_
   refine wl_off ?_
   refine wl_off ?_
   refine wl_off ?_
   refine wl_off ?_
   refine wl_off ?_
   refine wl_p (fun _ => o_pick_f rfl rfl) ?_
   refine wl_p (fun _ => o_move rfl) ?_
   refine wl_off ?_
   refine wl_off ?_
   refine wl_off ?_
   refine wl_off ?_
   refine wl_p (fun _ => o_pick_f rfl rfl) ?_
   refine wl_p (fun _ => o_assign rfl) ?_
   refine wl_nil ?_
   refine ret1 rfl rfl ?_
   exact ⟨rfl, hw⟩
  rw [decide_eq_true hy]
  have hd : (dropS Y u 1).2 = b := congrArg Prod.snd (hr.yes hok ⟨hc, hx, fun _ => hy⟩)
  rw [dropS2] at hd
  by_cases hu : u ∈ Y
  ·rw [decide_eq_true hu] at hd
   by_cases h5 : 1 < Y.length
   ·rw [decide_eq_true h5] at hd
    refine rk_false rfl ?_
    refine rk_seq ?_
    refine rk_region ?_
    refine wl_p (fun _ => o_eq rfl rfl) ?_
    refine wl_p (fun _ => o_assign rfl) ?_
    refine wl_nil ?_
    refine rk_false rfl ?_
    refine rk_seq ?_
    refine rk_region ?_
    refine wl_p (fun _ => o_eq rfl rfl) ?_
    refine wl_p (fun _ => o_assign rfl) ?_
    refine wl_nil ?_
    refine rk_false rfl ?_
    refine rk_seq ?_
    refine rk_region ?_
    refine wl_p (fun _ => o_eq rfl rfl) ?_
    refine wl_p (fun _ => o_assign rfl) ?_
    refine wl_nil ?_
    refine rk_false rfl ?_
    refine rk_seq ?_
    refine rk_region ?_
    refine wl_p (fun _ => o_eq rfl rfl) ?_
    refine wl_p (fun _ => o_assign rfl) ?_
    refine wl_nil ?_
    refine rk_false rfl ?_
    refine rk_skip ?_
    refine rk_blk ?_
    refine rk_seq ?_
    refine rk_region ?_
    refine wl_p (fun _ => o_move rfl) ?_
    refine wl_p (fun _ => o_move rfl) ?_
    refine wl_p (fun _ => o_faddr (s := 31) (i := 2) (off := 2) Tryz.underlying31 rfl Tryz.sizeOf29 rfl rfl rfl) ?_
    refine wl_r (o_loadbg Tryz.isAgg29 rfl f3 (by rfl)) ?_
    refine wl_p (fun _ => o_faddr (s := 54) (i := 3) (off := 3) Tryz.underlying54 rfl Tryz.sizeOf42 rfl rfl rfl) ?_
    refine wl_r (o_ldWho rfl f5) ?_
    refine wl_call rfl (C_r22MemberY _ (by omega) (hC.u hw) rfl (by omega)) ?_
    rintro v100 w100 ⟨rfl, b100⟩
    have s100 := b100.size
    replace hw := hw.trans (b100.mono hw.size)
    replace f5 := f5.u b100
    replace f3 := f3.u b100
    replace f4 := f4.u b100
    refine wl_p (fun _ => o_pick_t rfl rfl) ?_
    refine wl_p (fun _ => o_move rfl) ?_
    refine wl_p (fun _ => o_faddr (s := 31) (i := 2) (off := 2) Tryz.underlying31 rfl Tryz.sizeOf29 rfl rfl rfl) ?_
    refine wl_r (o_loadbg Tryz.isAgg29 rfl f3 (by rfl)) ?_
    refine wl_p (fun _ => o_len (t := 29) Tryz.underlying29 rfl) ?_
    refine wl_p (fun _ => o_gt rfl rfl) ?_
    refine wl_p (fun _ => o_pick_t rfl rfl) ?_
    refine wl_p (fun _ => o_assign rfl) ?_
    refine wl_nil ?_
    refine ret1 rfl rfl ?_
    exact ⟨by rw [← hd]; exact congrArg Value.bool (by first | exact decide_eq_true (by omega) | exact decide_eq_false (by omega)), hw⟩
   ·rw [decide_eq_false h5] at hd
    refine rk_false rfl ?_
    refine rk_seq ?_
    refine rk_region ?_
    refine wl_p (fun _ => o_eq rfl rfl) ?_
    refine wl_p (fun _ => o_assign rfl) ?_
    refine wl_nil ?_
    refine rk_false rfl ?_
    refine rk_seq ?_
    refine rk_region ?_
    refine wl_p (fun _ => o_eq rfl rfl) ?_
    refine wl_p (fun _ => o_assign rfl) ?_
    refine wl_nil ?_
    refine rk_false rfl ?_
    refine rk_seq ?_
    refine rk_region ?_
    refine wl_p (fun _ => o_eq rfl rfl) ?_
    refine wl_p (fun _ => o_assign rfl) ?_
    refine wl_nil ?_
    refine rk_false rfl ?_
    refine rk_seq ?_
    refine rk_region ?_
    refine wl_p (fun _ => o_eq rfl rfl) ?_
    refine wl_p (fun _ => o_assign rfl) ?_
    refine wl_nil ?_
    refine rk_false rfl ?_
    refine rk_skip ?_
    refine rk_blk ?_
    refine rk_seq ?_
    refine rk_region ?_
    refine wl_p (fun _ => o_move rfl) ?_
    refine wl_p (fun _ => o_move rfl) ?_
    refine wl_p (fun _ => o_faddr (s := 31) (i := 2) (off := 2) Tryz.underlying31 rfl Tryz.sizeOf29 rfl rfl rfl) ?_
    refine wl_r (o_loadbg Tryz.isAgg29 rfl f3 (by rfl)) ?_
    refine wl_p (fun _ => o_faddr (s := 54) (i := 3) (off := 3) Tryz.underlying54 rfl Tryz.sizeOf42 rfl rfl rfl) ?_
    refine wl_r (o_ldWho rfl f5) ?_
    refine wl_call rfl (C_r22MemberY _ (by omega) (hC.u hw) rfl (by omega)) ?_
    rintro v100 w100 ⟨rfl, b100⟩
    have s100 := b100.size
    replace hw := hw.trans (b100.mono hw.size)
    replace f5 := f5.u b100
    replace f3 := f3.u b100
    replace f4 := f4.u b100
    refine wl_p (fun _ => o_pick_t rfl rfl) ?_
    refine wl_p (fun _ => o_move rfl) ?_
    refine wl_p (fun _ => o_faddr (s := 31) (i := 2) (off := 2) Tryz.underlying31 rfl Tryz.sizeOf29 rfl rfl rfl) ?_
    refine wl_r (o_loadbg Tryz.isAgg29 rfl f3 (by rfl)) ?_
    refine wl_p (fun _ => o_len (t := 29) Tryz.underlying29 rfl) ?_
    refine wl_p (fun _ => o_gt rfl rfl) ?_
    refine wl_p (fun _ => o_pick_t rfl rfl) ?_
    refine wl_p (fun _ => o_assign rfl) ?_
    refine wl_nil ?_
    refine ret1 rfl rfl ?_
    exact ⟨by rw [← hd]; exact congrArg Value.bool (by first | exact decide_eq_true (by omega) | exact decide_eq_false (by omega)), hw⟩
  ·rw [decide_eq_false hu] at hd
   refine rk_false rfl ?_
   refine rk_seq ?_
   refine rk_region ?_
   refine wl_p (fun _ => o_eq rfl rfl) ?_
   refine wl_p (fun _ => o_assign rfl) ?_
   refine wl_nil ?_
   refine rk_false rfl ?_
   refine rk_seq ?_
   refine rk_region ?_
   refine wl_p (fun _ => o_eq rfl rfl) ?_
   refine wl_p (fun _ => o_assign rfl) ?_
   refine wl_nil ?_
   refine rk_false rfl ?_
   refine rk_seq ?_
   refine rk_region ?_
   refine wl_p (fun _ => o_eq rfl rfl) ?_
   refine wl_p (fun _ => o_assign rfl) ?_
   refine wl_nil ?_
   refine rk_false rfl ?_
   refine rk_seq ?_
   refine rk_region ?_
   refine wl_p (fun _ => o_eq rfl rfl) ?_
   refine wl_p (fun _ => o_assign rfl) ?_
   refine wl_nil ?_
   refine rk_false rfl ?_
   refine rk_skip ?_
   refine rk_blk ?_
   refine rk_seq ?_
   refine rk_region ?_
   refine wl_p (fun _ => o_move rfl) ?_
   refine wl_p (fun _ => o_move rfl) ?_
   refine wl_p (fun _ => o_faddr (s := 31) (i := 2) (off := 2) Tryz.underlying31 rfl Tryz.sizeOf29 rfl rfl rfl) ?_
   refine wl_r (o_loadbg Tryz.isAgg29 rfl f3 (by rfl)) ?_
   refine wl_p (fun _ => o_faddr (s := 54) (i := 3) (off := 3) Tryz.underlying54 rfl Tryz.sizeOf42 rfl rfl rfl) ?_
   refine wl_r (o_ldWho rfl f5) ?_
   refine wl_call rfl (C_r22MemberN _ (by omega) (hC.u hw) rfl (by omega)) ?_
   rintro v100 w100 ⟨rfl, b100⟩
   have s100 := b100.size
   replace hw := hw.trans (b100.mono hw.size)
   replace f5 := f5.u b100
   replace f3 := f3.u b100
   replace f4 := f4.u b100
   refine wl_p (fun _ => o_pick_t rfl rfl) ?_
   refine wl_p (fun _ => o_move rfl) ?_
   refine wl_off ?_
   refine wl_off ?_
   refine wl_off ?_
   refine wl_off ?_
   refine wl_p (fun _ => o_pick_f rfl rfl) ?_
   refine wl_p (fun _ => o_assign rfl) ?_
   refine wl_nil ?_
   refine ret1 rfl rfl ?_
   exact ⟨by rw [← hd]; rfl, hw⟩
end Go.Proofs.YtahkeoegbjopfaaGreat
/-
  Walks of the document's answer for chapter 22: an op done.
-/
namespace Go.Proofs.YtahkeoegbjopfaaGreat
set_option maxRecDepth 100000
open Go.RowKit
theorem Pts.setK {w : World} {xs : List Value} {I : List (By × By)} {j d : Nat} {V : Option Addr} {q : By} (h : Pts gItem w xs I) (hj : j < I.length) (hV : RdT w V q) (h5 : q.length ≤ d) (h6 : d ≤ maxLen) : Pts gItem w (xs.set (j * 2 + 0) (.slice V q.length d)) (I.set j (q, I[j].2)) := by
 refine ⟨by rw [List.length_set, List.length_set]; exact h.n, fun i hi => ?_⟩
 rw [List.length_set] at hi
 show gItem.T w (part (xs.set (j * 2 + 0) (.slice V q.length d)) 2 i) _
 rw [List.getElem_set]
 by_cases e : j = i
 ·subst e
  rw [if_pos rfl, part_set (by omega)]
  obtain ⟨c1, c2, e1, ⟨A, c, rfl, hA⟩, A2, c2', rfl, h2⟩ := h.t j hj
  rw [show part xs 2 j = [.slice A I[j].1.length c] ++ [.slice A2 I[j].2.length c2'] from e1]
  exact ⟨[.slice V q.length d], [.slice A2 I[j].2.length c2'], rfl, ⟨V, d, rfl, hV, h5, h6⟩, A2, c2', rfl, h2⟩
 ·rw [if_neg e, part_set_ne (by omega) (fun e2 => e e2.symm)]
  exact h.t i hi
section
variable {fn : Func} {F : Ending → World → Prop} {N : Nat} {ks : List K} {ops : Array Oper} {tg : Tags} {l : List Oper} {fr : Fr} {w w0 : World} {ty t' : TypeId} {pos : String} {aft : Array Edge} {gd : Option (Nat × Bool)} {m d m' d' c c' j lo hi g r : Nat} {x y : Operand} {A B K V : Option Addr} {p q : By} {I M : List (By × By)}
theorem wl_stItm (hx : fr.ev x = some (.pointer (some (adr A (j * 2))))) (hy : fr.ev y = some (.agg #[.slice K m' d', .slice V m d])) (hown : OwnI w lo hi A c I) (hK : RdT w K p) (hm' : m' = p.length) (h7 : p.length ≤ d') (h8 : d' ≤ maxLen) (hV : RdT w V q) (hm : m = q.length) (h5 : q.length ≤ d) (h6 : d ≤ maxLen) (hj : j < I.length) (hB0 : lo ≤ w.heap.size)
  (hk : ∀ w', OwnI w' lo hi A c (I.set j (p, q)) → Grew w w' 94 (blk A) → Below lo w w' → w'.heap.size = w.heap.size → WL Tryz.prog fn F N ks ops tg.tail l fr w') (ht : tg.loud = true := by rfl) (hg : onG ops fr gd = true := by rfl) (hq : tg.calm = false ∨ tg.rw.may (blk A) := by exact .inl rfl) :
  WL Tryz.prog fn F N ks ops tg (⟨none, .store 94 x y, ty, pos, aft, gd⟩ :: l) fr w := by
 subst hm; subst hm'
 have hty := hown.ty
 have hlt := fun k hk => (RowH.lt hown.choose_spec.1 k hk).1
 obtain ⟨xs, hrow, hp⟩ := OwnS.pts hown
 have hcm := row_max hrow
 obtain ⟨g, cur, rfl, g1, g2, hB, g3, g4, g5⟩ := hrow.blk_ (by omega)
 have g4' : cur.length = c * 2 := g4
 have ead : adr (some (⟨g, 0, none⟩ : Addr)) (j * 2) = ⟨g, j * 2, none⟩ := by simp [adr, add_plain]
 rw [ead] at hx
 obtain ⟨w', hr, hB', hgr, hsz⟩ := run_storeCells_blk (P := Tryz.prog) (o := j * 2) [.slice K p.length d', .slice V q.length d] 0 cur w hB (fun v hv => by simp only [List.mem_cons, List.not_mem_nil, or_false] at hv; rcases hv with rfl | rfl <;> rfl) (by simp; omega)
 have gg : Grew w w' 94 (some g) := ⟨hgr, hty⟩
 refine wl_u (w' := w') (fun a ha op hop => ?_) (hk w' ?_ gg (gg.below hB0 hlt) hsz) ht hg (hq.imp id (Rw.of_may hgr))
 ·have hcs : (Value.agg #[.slice K p.length d', .slice V q.length d]).cells = #[.slice K p.length d', .slice V q.length d] := rfl
  simp [execOp, hop, ha.ev hx, ha.ev hy, Instr.storeAt, Instr.sureAddr, storeVar, hcs, Tryz.sizeOf94, hr]
 ·have hpp := ((hp.setK hj hK h7 h8).setV (j := j) (by rw [List.length_set]; exact hj) hV h5 h6).ty gg (by simp [gItem_tys])
  rw [List.set_set, List.getElem_set_self] at hpp
  refine hpp.own ?_
  rw [List.length_set]
  have e1 : spl cur (j * 2 + 0) [.slice K p.length d', .slice V q.length d] = (cur.set (j * 2 + 0) (.slice K p.length d')).set (j * 2 + 1) (.slice V q.length d) := by
   apply List.ext_getElem?
   intro i
   rw [getElem_spl (by simp; omega), List.getElem?_set, List.getElem?_set]
   by_cases h : j * 2 + 1 = i
   ·subst h; simp [show j * 2 + 1 < cur.length by omega]
   ·rw [if_neg h]
    by_cases h2 : j * 2 + 0 = i
    ·subst h2; simp [show j * 2 < cur.length by omega]
    ·rw [if_neg h2, if_neg (by simp; omega)]
  rw [e1] at hB'
  refine row_of_blk hB' g1 g2 (by rw [List.length_set, List.length_set, g4]) g3 hcm (by rw [List.length_set, List.length_set]; exact hp.n) ?_
  rw [← g5]
  show ((cur.set (j * 2 + 0) _).set (j * 2 + 1) _).take (I.length * 2) = ((cur.take (I.length * 2)).set _ _).set _ _
  rw [List.take_set, List.take_set]
theorem wl_appItm0 (hx : fr.ev x = some (.slice A 0 0)) (hown : OwnI w lo hi A 0 []) (hy : fr.ev y = some (.slice B j r)) (hr : RIT w B M) (hj : j = M.length) (hlen : M.length ≤ 1000000) (hB : lo ≤ w.heap.size)
  (h : ∀ A' c' w', OwnI w' lo w'.heap.size A' c' M → Below w.heap.size w w' → WL Tryz.prog fn F N ks ops tg.tail l ((d, .slice A' M.length c') :: fr) w')
  (ht : tg.loud = true := by rfl) (hg : onG ops fr gd = true := by rfl) (hd : Nat.blt d N = true := by rfl) :
  WL Tryz.prog fn F N ks ops tg (⟨some d, .call { callee := .builtin .append, args := #[x, y], argTypes := #[28, 28] }, ty, pos, aft, gd⟩ :: l) fr w := by
 subst hj
 obtain ⟨xs, g1, g2⟩ := hown
 obtain rfl : xs = [] := List.eq_nil_of_length_eq_zero (by have := g1.rd.1; simpa using this)
 obtain ⟨ms, r1, r2, r3⟩ := hr
 refine wl_appR0 Tryz.rowItem hx g1 hy r1 (fun u hu => ?_) (by simp only [maxLen]; omega) (by omega) hB (fun A' c' w' k1 k2 => h A' c' w' ⟨ms, k1, fun i hi => gItem.tu (r3 i hi) k2⟩ k2) ht hg hd
 obtain ⟨i, hi, rfl⟩ := List.getElem_of_mem hu
 have hml : ms.length = M.length * 2 := r1.1
 have hq : i / 2 < M.length := by omega
 refine gItem_one w _ _ (r3 _ hq) _ (List.mem_of_getElem? (i := i % 2) ?_)
 show (part ms 2 (i / 2))[i % 2]? = some ms[i]
 rw [part_get (Nat.mod_lt _ (by omega)), Nat.div_add_mod' i 2]
 exact List.getElem?_eq_getElem hi
theorem wl_litI0 {ps : Array (Nat × Operand)} {xs : List Operand} (hxs : ps.toList.map Prod.snd = xs) (hx : fr.evs xs = some []) (hps : ps = ((List.range' 0 0).zip xs).toArray)
  (hk : ∀ A w', OwnI w' w.heap.size w'.heap.size A 0 [] → Below w.heap.size w w' → WL Tryz.prog fn F N ks ops tg.tail l ((d, .slice A 0 0) :: fr) w')
  (ht : tg.loud = true := by rfl) (hg : onG ops fr gd = true := by rfl) (hd : Nat.blt d N = true := by rfl) : WL Tryz.prog fn F N ks ops tg (⟨some d, .buildSlice 28 0 ps, ty, pos, aft, gd⟩ :: l) fr w :=
 wl_litS (X := gItem) (L := []) Tryz.rowItem Tryz.sizeOf94 Tryz.zeroValue94 hxs hps hx rfl rfl (fun i h => absurd h (Nat.not_lt_zero _)) rfl hk ht hg hd
end
theorem part_rsF {α : Type} {X : GoT α} {w : World} {M : List α} {ms : List Value} (h0 : 0 < X.sz) (hml : ms.length = M.length * X.sz) (r3 : ∀ i (h : i < M.length), X.T w (part ms X.sz i) M[i]) (h1 : ∀ w cs a, X.T w cs a → ∀ u ∈ cs, u.oneCell' = true) : ∀ u ∈ ms, u.oneCell' = true := fun u hu => by
 obtain ⟨i, hi, rfl⟩ := List.getElem_of_mem hu
 have hq : i / X.sz < M.length := (Nat.div_lt_iff_lt_mul h0).2 (by omega)
 refine h1 _ _ _ (r3 _ hq) _ (List.mem_of_getElem? (i := i % X.sz) ?_)
 rw [part_get (Nat.mod_lt _ h0), Nat.div_add_mod' i X.sz]
 exact List.getElem?_eq_getElem hi
theorem part_appF {α : Type} {X : GoT α} {w : World} {L M : List α} {xs ms : List Value} (hxl : xs.length = L.length * X.sz) (g2 : ∀ i (h : i < L.length), X.T w (part xs X.sz i) L[i]) (r3 : ∀ i (h : i < M.length), X.T w (part ms X.sz i) M[i]) :
  ∀ i (h : i < (L ++ M).length), X.T w (part (xs ++ ms) X.sz i) (L ++ M)[i] := fun i hi => by
 rcases Nat.lt_or_ge i L.length with hl | hl
 ·rw [part_append_lt hxl hl, List.getElem_append_left hl]
  exact g2 i hl
 ·rw [List.getElem_append_right hl]
  have hi2 : i - L.length < M.length := by rw [List.length_append] at hi; omega
  have := r3 _ hi2
  have e3 : part (xs ++ ms) X.sz i = part ms X.sz (i - L.length) := by
   unfold part
   rw [show i * X.sz = xs.length + (i - L.length) * X.sz by rw [hxl, ← Nat.add_mul]; congr 1; omega, ← List.drop_drop, List.drop_left]
  rw [e3]; exact this
section
variable {fn : Func} {F : Ending → World → Prop} {N : Nat} {ks : List K} {ops : Array Oper} {tg : Tags} {l : List Oper} {fr : Fr} {w : World} {ty : TypeId} {pos : String} {aft : Array Edge} {gd : Option (Nat × Bool)} {d n j q c lo hi : Nat} {x y : Operand} {A B : Option Addr} {L I : List (By × By)}
theorem OwnI.ge_ (h : OwnI w lo hi A c L) {b : Nat} (hB : b ≤ lo) : ∀ k, blk A = some k → b ≤ k := fun k hk => by
 obtain ⟨xs, h1, _⟩ := h
 exact Nat.le_trans hB (RowH.lt h1 k hk).1
theorem wl_appItmM (hx : fr.ev x = some (.slice A n c)) (hown : OwnI w lo hi A c L) (hn : n = L.length) (hy : fr.ev y = some (.slice B j q)) (hr : RIT w B I) (hj : j = I.length) (hlen : L.length + I.length ≤ 1000000) (hB : lo ≤ w.heap.size)
  (h : ∀ A' c' w', OwnI w' lo w'.heap.size A' c' (L ++ I) → Grew w w' 94 (blk A) → Below lo w w' → WL Tryz.prog fn F N ks ops tg.tail l ((d, .slice A' (L ++ I).length c') :: fr) w')
  (ht : tg.loud = true := by rfl) (hg : onG ops fr gd = true := by rfl) (hd : Nat.blt d N = true := by rfl) (hq : tg.calm = false ∨ tg.rw.may (blk A) := by exact .inl rfl) :
  WL Tryz.prog fn F N ks ops tg (⟨some d, .call { callee := .builtin .append, args := #[x, y], argTypes := #[28, 28] }, ty, pos, aft, gd⟩ :: l) fr w := by
 subst hn; subst hj
 obtain ⟨xs, g1, g2⟩ := hown
 obtain ⟨ms, r1, r2, r3⟩ := hr
 have hT := g1.ty
 have hlt := g1.lt
 obtain ⟨i, hi, hz, hs, hb⟩ := info_parts Tryz.rowItem.hi
 obtain ⟨v', w', hrun, h2, h3, h4⟩ := run_append_any (P := Tryz.prog) w lo 28 ty 94 i _ 2 48 Tryz.rowItem.ht hi hz hs hb Tryz.rowItem.hz (by omega) (.slice A L.length c) L.length xs g1.o B I.length q ms r1 (part_rsF (X := gItem) (show 0 < 2 by decide) r1.1 r3 gItem_one) (by simp only [maxLen]; omega) (by omega) hB
 obtain ⟨A', c', rfl⟩ := ownsRow_shape h2
 rw [blk_own] at h3 h4
 rw [blk_own] at h4
 have hG : Grew w w' 94 (blk A) := ⟨h3, hT⟩
 have e2 : (L ++ I).length = L.length + I.length := List.length_append
 rw [← e2] at h2 hrun
 have hO : OwnI w' lo w'.heap.size A' c' (L ++ I) := ⟨_, ⟨h2, fun k hk => (World.ownsRow.lt h2 k (by rw [blk_own]; exact hk)).2⟩, part_appF g1.rd.1 (fun i hi => gItem.ty (g2 i hi) hG (by simp [gItem_tys])) (fun i hi => gItem.ty (r3 i hi) hG (by simp [gItem_tys]))⟩
 exact wl_vR (o_builtin (xs := [x, y]) (vs := [.slice A L.length c, .slice B I.length q]) (by simp [Fr.evs, hx, hy]) (by simp [builtin, hrun]) (by simp)) (h A' c' w' hO hG (hG.below hB (fun k hk => (hlt k hk).1))) ht hg hd (hq.imp id fun e => Rw.of_may h3 e)
end
theorem OwnI.takeT {w : World} {lo hi cp : Nat} {A : Option Addr} {L : List (By × By)} (h : OwnI w lo hi A cp L) {k : Nat} (hk : k ≤ L.length) : RIT w A (L.take k) := OwnS.to_RSlT (OwnS.take h k hk)
theorem OwnI.dropT {w : World} {lo hi cp : Nat} {A : Option Addr} {L : List (By × By)} (h : OwnI w lo hi A cp L) {k : Nat} (hk : k ≤ L.length) : RIT w (cutA A cp 2 k) (L.drop k) := OwnS.drop h k hk
theorem OwnI.some_ {w : World} {lo hi cp : Nat} {A : Option Addr} {L : List (By × By)} (h : OwnI w lo hi A cp L) (hl : 0 < L.length) : A = some (A.getD ⟨0, 0, none⟩) := RI.some_ h.to_RI hl
set_option maxHeartbeats 8000000 in
set_option maxRecDepth 100000 in
theorem C_r22Step {A B C K V : Option Addr} {I I' : List (By × By)} {X Y X' Y' : List Ky} {p q : By} {n c n2 c2 n3 c3 mk ck md cd : Nat} {k : Int} {u wr : Ky} {b : Bool} (w : World) (hr : StepR I X Y wr k p q u I' X' Y' b) (hA : RIT w A I) (hB : RKT w B X) (hC : RKT w C Y) (hK : Rd w K p) (hV : Rd w V q) (hn : n = I.length) (hn2 : n2 = X.length) (hn3 : n3 = Y.length) (hmk : mk = p.length) (hmd : md = q.length) (hl : I.length ≤ 400000) (hl2 : X.length ≤ 400000) (hl3 : Y.length ≤ 400000) (hL : LtI I) (hp : p.length ≤ 4000000) (hq : q.length ≤ 4000000) :
  CallsR Tryz.prog 52 [.agg #[.slice A n c, .slice B n2 c2, .slice C n3 c3], .agg (B8 wr.1).toArray, .agg (opC k K mk ck V md cd u).toArray] w fun v w' => ∃ A' c' B' d' C' e', v = .tuple #[.agg #[.slice A' I'.length c', .slice B' X'.length d', .slice C' Y'.length e'], .bool b] ∧ RIT w' A' I' ∧ RKT w' B' X' ∧ RKT w' C' Y' ∧ Below w.heap.size w w' := by
 subst hn; subst hn2; subst hn3; subst hmk; subst hmd
 have hA0 := hA.to_RI
 have hB0 := hB.to_RKs
 have hC0 := hC.to_RKs
 refine callsR Tryz.func52 rfl rfl (by kernel_rfl) rfl ?_
 have hw := Below.refl w.heap.size w
 refine rk_seq ?_
 refine rk_region ?_
 refine wl_boxg [_, _, _] rfl (by rfl) ?_
 rintro g3 w3 f3 b3 i3 i3_1
 have s3 := b3.size
 replace hw := hw.trans (b3.mono hw.size)
 refine wl_boxg _ rfl (by rfl) ?_
 rintro g4 w4 f4 b4 i4 i4_1
 have s4 := b4.size
 replace hw := hw.trans (b4.mono hw.size)
 replace f3 := f3.u b4
 refine wl_boxg _ rfl (by rfl) ?_
 rintro g5 w5 f5 b5 i5 i5_1
 have s5 := b5.size
 replace hw := hw.trans (b5.mono hw.size)
 replace f3 := f3.u b5
 replace f4 := f4.u b5
 refine wl_allocg [_, _, _] Tryz.zeroValue31 (by rfl) ?_
 rintro g6 w6 f6 b6 i6 i6_1
 have s6 := b6.size
 replace hw := hw.trans (b6.mono hw.size)
 replace f4 := f4.u b6
 replace f3 := f3.u b6
 replace f5 := f5.u b6
 refine wl_p (fun _ => o_assign rfl) ?_
 refine wl_nil ?_
 refine rk_seq ?_
 refine rk_seq ?_
 refine rk_region ?_
 refine wl_r (o_loadag Tryz.isAgg31 Tryz.sizeOf31 rfl f3 (by rfl)) ?_
 refine wl_r (o_ldKyB rfl f4) ?_
 refine wl_r (o_loadag Tryz.isAgg54 Tryz.sizeOf54 rfl f5 (opC_length ..)) ?_
 refine wl_call rfl (C_r22May _ hr (hA0.u hw) (hB0.u hw) (hC0.u hw) (hK.u hw) rfl rfl rfl rfl rfl (by omega) (by omega) (by omega) (by omega) (by omega) (by omega)) ?_
 rintro v14 w14 ⟨rfl, b14⟩
 have s14 := b14.size
 replace hw := hw.trans (b14.mono hw.size)
 replace f5 := f5.u b14
 replace f3 := f3.u b14
 replace f4 := f4.u b14
 replace f6 := f6.u b14
 refine wl_p (fun _ => o_not rfl) ?_
 refine wl_nil ?_
 have s14 := hw.size
 cases b
 ·have he : I' = I ∧ X' = X ∧ Y' = Y := by
   by_cases ho : OkSt I X Y
   ·have hsp := (stepS_spec (S := (I, X, Y)) (wr := wr) (o := (k, p, q, u)) ho).2.1
    rw [hr.h] at hsp
    have h := hsp rfl
    injection h with h1 h2
    injection h2 with h2 h3
    exact ⟨h1, h2, h3⟩
   ·obtain ⟨h1, h2, h3, _⟩ := hr.no1 ho
    exact ⟨h1, h2, h3⟩
  obtain ⟨rfl, rfl, rfl⟩ := he
  refine rk_true rfl ?_
  refine rk_seq ?_
  refine rk_region ?_
  refine wl_r (o_loadag Tryz.isAgg31 Tryz.sizeOf31 rfl f3 (by rfl)) ?_
  refine wl_storega Tryz.sizeOf31 rfl rfl (by rfl) (oneCell_of (by rfl)) f6 (by rfl) ?_
  rintro w_1 f g e
  have s := g.size
  replace hw := hw.trans (below_of_grownBy g.g hw.size (by omega))
  replace f3 := f3.k g.g (ap_some (by omega))
  replace f4 := f4.k g.g (ap_some (by omega))
  replace f5 := f5.k g.g (ap_some (by omega))
  clear f6
  refine wl_p (fun _ => o_assign rfl) ?_
  refine wl_nil ?_
  refine ret_any rfl (.cell rfl Tryz.isAgg31 Tryz.sizeOf31 (by assumption) rfl <| .tmp rfl <| .nil) (by simp) ?_
  exact ⟨_, _, _, _, _, _, rfl, hA.u hw, hB.u hw, hC.u hw, hw⟩
 by_cases hok : OkSt I X Y
 rotate_left
 ·cases (hr.no1 hok).2.2.2
 by_cases hm : mayS (I, X, Y) wr k p.length q.length u
 rotate_left
 ·cases (hr.no2 hm).2.2.2
 have hd := hr.yes hok hm
 obtain ⟨hk1, hk2, _⟩ := okOp_of hm.1
 obtain ⟨kk, hkk⟩ : ∃ kk, low (I.map Prod.fst) p = kk := ⟨_, rfl⟩
 obtain ⟨bb, hbb⟩ : ∃ bb, decide (p ∈ I.map Prod.fst) = bb := ⟨_, rfl⟩
 have ePl : PlaceR I p kk bb := ⟨hok.2.2.1.srt, hkk, hbb⟩
 have hkl := low_le (I.map Prod.fst) p
 rw [hkk, List.length_map] at hkl
 refine rk_false rfl ?_
 refine rk_skip ?_
 refine rk_seq ?_
 refine rk_region ?_
 refine wl_r (o_loadag Tryz.isAgg31 Tryz.sizeOf31 rfl f3 (by rfl)) ?_
 refine wl_call rfl (C_r22Copy _ (hA0.u hw) (hB0.u hw) (hC0.u hw) rfl rfl rfl (by omega) (by omega) (by omega) (by omega)) ?_
 rintro v18 w18 ⟨A18, ⟨c18, ⟨B18, ⟨d18, ⟨C18, ⟨e18, ⟨rfl, ⟨f18, ⟨f18_1, ⟨f18_2, ⟨i18, ⟨i18_1, b18⟩⟩⟩⟩⟩⟩⟩⟩⟩⟩⟩⟩
 have qf18 := f18.cap
 have s18 := b18.size
 replace hw := hw.trans (b18.mono hw.size)
 replace f6 := f6.u b18
 replace f4 := f4.u b18
 replace f3 := f3.u b18
 replace f5 := f5.u b18
 refine wl_storega Tryz.sizeOf31 rfl rfl (by rfl) (oneCell_of (by rfl)) f3 (by rfl) ?_
 rintro w_1 f g e
 have s := g.size
 replace hw := hw.trans (below_of_grownBy g.g hw.size (by omega))
 replace f5 := f5.k g.g (ap_some (by omega))
 replace f4 := f4.k g.g (ap_some (by omega))
 replace f6 := f6.k g.g (ap_some (by omega))
 replace f18_2 := f18_2.y g (by decide)
 replace f18_1 := f18_1.y g (by decide)
 replace f18 := f18.y g (by decide)
 clear f3
 refine wl_nil ?_
 refine rk_seq ?_
 refine rk_region ?_
 refine wl_r (o_loadag Tryz.isAgg31 Tryz.sizeOf31 rfl f (by rfl)) ?_
 refine wl_p (fun _ => o_faddr (s := 54) (i := 1) (off := 1) Tryz.underlying54 rfl Tryz.sizeOf39 rfl rfl rfl) ?_
 refine wl_r (o_loadbg Tryz.isAgg39 rfl f5 (by rfl)) ?_
 refine wl_call rfl (C_r22place _ f18.to_RI (hK.u hw) ePl rfl rfl (by omega) (by omega) (by omega)) ?_
 rintro v23 w23 ⟨rfl, b23⟩
 have s23 := b23.size
 replace hw := hw.trans (b23.mono hw.size)
 replace f18 := f18.u b23
 replace f18_1 := f18_1.u b23
 replace f18_2 := f18_2.u b23
 replace f6 := f6.u b23
 replace f4 := f4.u b23
 replace f5 := f5.u b23
 replace f := f.u b23
 refine wl_p (fun _ => o_move rfl) ?_
 refine wl_p (fun _ => o_ext20 rfl) ?_
 refine wl_p (fun _ => o_ext21 rfl) ?_
 refine wl_p (fun _ => o_assign rfl) ?_
 refine wl_p (fun _ => o_assign rfl) ?_
 refine wl_nil ?_
 refine rk_seq ?_
 refine rk_drawoB (id := 5) (none) [0, 0, 2, 5, 0, 0, 32, 88, 136, 0, 1023] [0, 0, 2, 7, 0, 0, 32, 127, 255, 0, 1023] 1689 537 [1, 2, 5, 6] [(.p, 1), (.s, 2), (.p, 5), (.s, 6), (.f 102 1689 537, 7)] (by kernel_rfl) (by kernel_rfl) (by kernel_rfl) (by kernel_rfl) (by kernel_rfl) ?_
 dsimp only [inOrder, nthOp]
 replace hw := hw.drew
 replace f := f.d
 replace f5 := f5.d
 replace f4 := f4.d
 replace f6 := f6.d
 replace f18_2 := f18_2.d
 replace f18_1 := f18_1.d
 replace f18 := f18.d
 refine wl_p (fun _ => o_faddr (s := 54) (i := 1) (off := 1) Tryz.underlying54 rfl Tryz.sizeOf39 rfl rfl rfl) ?_
 refine wl_s (fun _ hk => (o_loadbg Tryz.isAgg39 rfl (f5.u (below_of_ok hk (Nat.le_refl _) (fun _ e => by cases e))) (by rfl))) ?_
 refine wl_p (fun _ => o_faddr (s := 54) (i := 2) (off := 2) Tryz.underlying54 rfl Tryz.sizeOf39 rfl rfl rfl) ?_
 refine wl_s (fun _ hk => (o_loadbg Tryz.isAgg39 rfl (f5.u (below_of_ok hk (Nat.le_refl _) (fun _ e => by cases e))) (by rfl))) ?_
 refine wl_conc [⟨0, [], [26], [], fun vs w' lo hi => ∃ (A26 : Option Addr), vs = [.slice A26 0 0] ∧ OwnH w' lo hi A26 0 []⟩, ⟨3, [], [29], [0], fun vs w' lo hi => ∃ (A29 : Option Addr) (c29 : Nat), vs = [.slice A29 p.length c29] ∧ RdT w' A29 p ∧ p.length ≤ c29 ∧ c29 ≤ maxLen⟩, ⟨4, [], [30], [], fun vs w' lo hi => ∃ (A30 : Option Addr), vs = [.slice A30 0 0] ∧ OwnH w' lo hi A30 0 []⟩, ⟨7, [(.p, 8)], [34, 33], [0, 1, 2], fun vs w' lo hi => ∃ (A33 : Option Addr) (c33 : Nat) (K29 : Option Addr) (d29 : Nat), vs = [.agg #[.slice K29 p.length d29, .slice A33 q.length c33], .slice A33 q.length c33] ∧ RdT w' K29 p ∧ RdT w' A33 q ∧ p.length ≤ d29 ∧ d29 ≤ maxLen ∧ q.length ≤ c33 ∧ c33 ≤ maxLen⟩, ⟨9, [], [10], [], fun vs w' lo hi => ∃ (g10 : Nat), vs = [.pointer (some ⟨g10, 0, none⟩)] ∧ Blk w' g10 94 [.slice none 0 0, .slice none 0 0] ∧ lo ≤ g10 ∧ g10 < hi⟩] [0, 1, 2, 3, 4] [0, 0, 2, 5, 0, 0, 32, 88, 136, 0, 1023] [0, 0, 2, 7, 0, 0, 32, 127, 255, 0, 1023] [10] [(.l, 10)] (by kernel_rfl) (by kernel_rfl) (by kernel_rfl) (by kernel_rfl) ⟨fun _ _ _ _ _ h hb => by obtain ⟨A26, e0, g0⟩ := h; exact ⟨A26, e0, g0.u hb⟩, fun _ _ _ _ _ h hb => by obtain ⟨A29, c29, e0, g0, g1, g2⟩ := h; exact ⟨A29, c29, e0, g0.u hb, g1, g2⟩, fun _ _ _ _ _ h hb => by obtain ⟨A30, e0, g0⟩ := h; exact ⟨A30, e0, g0.u hb⟩, fun _ _ _ _ _ h hb => by obtain ⟨A33, c33, K29, d29, e0, g0, g1, g2, g3, g4, g5⟩ := h; exact ⟨A33, c33, K29, d29, e0, g0.u hb, g1.u hb, g2, g3, g4, g5⟩, fun _ _ _ _ _ h hb => by obtain ⟨g10, e0, g0, g1, g2⟩ := h; exact ⟨g10, e0, g0.u hb, g1, g2⟩, trivial⟩ ⟨?_, ?_, ?_, ?_, ?_, trivial⟩ ?_
 ·intro wI hbI fo T T2 n2
  intro hk
  dsimp only [Item.idx, inOrder, nthOp, List.map, List.zip_cons_cons, List.zip_nil_right, List.cons_append, List.nil_append]
  have shbI := hbI.size
  simp only [drew_size] at shbI
  replace hw := hw.trans (hbI.mono hw.size)
  replace f18 := f18.u hbI
  replace f18_1 := f18_1.u hbI
  replace f18_2 := f18_2.u hbI
  replace f6 := f6.u hbI
  replace f4 := f4.u hbI
  replace f5 := f5.u hbI
  replace f := f.u hbI
  have hw1 := Below.refl wI.heap.size wI
  refine wl_litB [] Tryz.u8 Tryz.sizeOf5 Tryz.zeroValue5 (by rfl) rfl rfl (by rfl) (by rfl) (by rfl) ?_
  rintro A26 w26 f26 b26
  have qf26 := f26.cap
  have s26 := b26.size
  replace hw := hw.trans (b26.mono hw.size)
  replace hw1 := hw1.trans (b26.mono hw1.size)
  replace f := f.u b26
  replace f5 := f5.u b26
  replace f4 := f4.u b26
  replace f6 := f6.u b26
  replace f18_2 := f18_2.u b26
  replace f18_1 := f18_1.u b26
  replace f18 := f18.u b26
  exact hk [_] _ ⟨_, rfl, f26⟩ hw1
 ·intro wI hbI fo T T2 n2
  rintro _ lo0 hi0 ⟨A26, rfl, f26⟩ ql0 qm0 qh0 -
  try dsimp only at ql0 qm0 qh0 
  try simp only [drew_size] at ql0 qm0 qh0 
  intro hk
  dsimp only [Item.idx, inOrder, nthOp, List.map, List.zip_cons_cons, List.zip_nil_right, List.cons_append, List.nil_append]
  have shbI := hbI.size
  simp only [drew_size] at shbI
  replace hw := hw.trans (hbI.mono hw.size)
  replace f18 := f18.u hbI
  replace f18_1 := f18_1.u hbI
  replace f18_2 := f18_2.u hbI
  replace f6 := f6.u hbI
  replace f4 := f4.u hbI
  replace f5 := f5.u hbI
  replace f := f.u hbI
  have hw1 := Below.refl wI.heap.size wI
  refine wl_appB01 rfl f26 rfl hK hw rfl (by omega) (by omega) ?_
  rintro A29 c29 w29 f29 b29
  have qf29 := f29.cap
  have s29 := b29.size
  replace hw := hw.trans (b29.mono hw.size)
  replace hw1 := hw1.trans (b29.mono hw1.size)
  replace f := f.u b29
  replace f5 := f5.u b29
  replace f4 := f4.u b29
  replace f6 := f6.u b29
  replace f18_2 := f18_2.u b29
  replace f18_1 := f18_1.u b29
  replace f18 := f18.u b29
  replace f26 := f26.u b29
  exact hk [_] _ ⟨_, _, rfl, f29.to_RdT, f29.cap, own_max f29⟩ hw1
 ·intro wI hbI fo T T2 n2
  intro hk
  dsimp only [Item.idx, inOrder, nthOp, List.map, List.zip_cons_cons, List.zip_nil_right, List.cons_append, List.nil_append]
  have shbI := hbI.size
  simp only [drew_size] at shbI
  replace hw := hw.trans (hbI.mono hw.size)
  replace f18 := f18.u hbI
  replace f18_1 := f18_1.u hbI
  replace f18_2 := f18_2.u hbI
  replace f6 := f6.u hbI
  replace f4 := f4.u hbI
  replace f5 := f5.u hbI
  replace f := f.u hbI
  have hw1 := Below.refl wI.heap.size wI
  refine wl_litB [] Tryz.u8 Tryz.sizeOf5 Tryz.zeroValue5 (by rfl) rfl rfl (by rfl) (by rfl) (by rfl) ?_
  rintro A30 w30 f30 b30
  have qf30 := f30.cap
  have s30 := b30.size
  replace hw := hw.trans (b30.mono hw.size)
  replace hw1 := hw1.trans (b30.mono hw1.size)
  replace f := f.u b30
  replace f5 := f5.u b30
  replace f4 := f4.u b30
  replace f6 := f6.u b30
  replace f18_2 := f18_2.u b30
  replace f18_1 := f18_1.u b30
  replace f18 := f18.u b30
  exact hk [_] _ ⟨_, rfl, f30⟩ hw1
 ·intro wI hbI fo T T2 n2
  rintro _ lo0 hi0 ⟨A26, rfl, f26⟩ ql0 qm0 qh0 -
  rintro _ lo1 hi1 ⟨A29, c29, rfl, f29, f29_1, f29_2⟩ ql1 qm1 qh1 ⟨qa1_0, -⟩
  rintro _ lo2 hi2 ⟨A30, rfl, f30⟩ ql2 qm2 qh2 ⟨qa2_1, qa2_0, -⟩
  try dsimp only at ql0 qm0 qh0  ql1 qm1 qh1 qa1_0 ql2 qm2 qh2 qa2_0 qa2_1
  try simp only [drew_size] at ql0 qm0 qh0  ql1 qm1 qh1 qa1_0 ql2 qm2 qh2 qa2_0 qa2_1
  intro hk
  dsimp only [Item.idx, inOrder, nthOp, List.map, List.zip_cons_cons, List.zip_nil_right, List.cons_append, List.nil_append]
  have shbI := hbI.size
  simp only [drew_size] at shbI
  replace hw := hw.trans (hbI.mono hw.size)
  replace f18 := f18.u hbI
  replace f18_1 := f18_1.u hbI
  replace f18_2 := f18_2.u hbI
  replace f6 := f6.u hbI
  replace f4 := f4.u hbI
  replace f5 := f5.u hbI
  replace f := f.u hbI
  have hw1 := Below.refl wI.heap.size wI
  refine wl_appB01 rfl f30 rfl hV hw rfl (by omega) (by omega) ?_
  rintro A33 c33 w33 f33 b33
  have qf33 := f33.cap
  have s33 := b33.size
  replace hw := hw.trans (b33.mono hw.size)
  replace hw1 := hw1.trans (b33.mono hw1.size)
  replace f := f.u b33
  replace f5 := f5.u b33
  replace f4 := f4.u b33
  replace f6 := f6.u b33
  replace f18_2 := f18_2.u b33
  replace f18_1 := f18_1.u b33
  replace f18 := f18.u b33
  replace f30 := f30.u b33
  replace f29 := f29.u b33
  replace f26 := f26.u b33
  refine wl_p (fun _ => (o_buildg [_, _] Tryz.underlying94 Tryz.zeroValue94 (by rfl) (by rfl) rfl (by rfl) (by rfl) (fun _ => by kernel_rfl))) ?_
  exact hk [_, _] _ ⟨_, _, _, _, rfl, f29, f33.to_RdT, by omega, by omega, f33.cap, own_max f33⟩ hw1
 ·intro wI hbI fo T T2 n2
  intro hk
  dsimp only [Item.idx, inOrder, nthOp, List.map, List.zip_cons_cons, List.zip_nil_right, List.cons_append, List.nil_append]
  have shbI := hbI.size
  simp only [drew_size] at shbI
  replace hw := hw.trans (hbI.mono hw.size)
  replace f18 := f18.u hbI
  replace f18_1 := f18_1.u hbI
  replace f18_2 := f18_2.u hbI
  replace f6 := f6.u hbI
  replace f4 := f4.u hbI
  replace f5 := f5.u hbI
  replace f := f.u hbI
  have hw1 := Below.refl wI.heap.size wI
  refine wl_allocg [_, _] Tryz.zeroValue94 (by rfl) ?_
  rintro g10 w10 f10 b10 i10 i10_1
  have s10 := b10.size
  replace hw := hw.trans (b10.mono hw.size)
  replace hw1 := hw1.trans (b10.mono hw1.size)
  replace f := f.u b10
  replace f5 := f5.u b10
  replace f4 := f4.u b10
  replace f6 := f6.u b10
  replace f18_2 := f18_2.u b10
  replace f18_1 := f18_1.u b10
  replace f18 := f18.u b10
  exact hk [_] _ ⟨_, rfl, f10, by omega, by omega⟩ hw1
 intro wE hbE
 rintro _ lo0 hi0 ⟨A26, rfl, f26⟩ ql0 qm0 qh0 -
 rintro _ lo1 hi1 ⟨A29, c29, rfl, f29, f29_1, f29_2⟩ ql1 qm1 qh1 ⟨qa1_0, -⟩
 rintro _ lo2 hi2 ⟨A30, rfl, f30⟩ ql2 qm2 qh2 ⟨qa2_1, qa2_0, -⟩
 rintro _ lo3 hi3 ⟨A33, c33, K29, d29, rfl, f33, f33_1, f33_2, f33_3, f33_4, f33_5⟩ ql3 qm3 qh3 ⟨qa3_2, qa3_1, qa3_0, -⟩
 rintro _ lo4 hi4 ⟨g10, rfl, f10, f10_1, f10_2⟩ ql4 qm4 qh4 ⟨qa4_3, qa4_2, qa4_1, qa4_0, -⟩
 try dsimp only at ql0 qm0 qh0  ql1 qm1 qh1 qa1_0 ql2 qm2 qh2 qa2_0 qa2_1 ql3 qm3 qh3 qa3_0 qa3_1 qa3_2 ql4 qm4 qh4 qa4_0 qa4_1 qa4_2 qa4_3
 try simp only [drew_size] at ql0 qm0 qh0  ql1 qm1 qh1 qa1_0 ql2 qm2 qh2 qa2_0 qa2_1 ql3 qm3 qh3 qa3_0 qa3_1 qa3_2 ql4 qm4 qh4 qa4_0 qa4_1 qa4_2 qa4_3
 dsimp only [given, Item.idx, inOrder, nthOp, List.map, List.zip_cons_cons, List.zip_nil_right]
 have shbE := hbE.size
 simp only [drew_size] at shbE
 replace hw := hw.trans (hbE.mono hw.size)
 replace f18 := f18.u hbE
 replace f18_1 := f18_1.u hbE
 replace f18_2 := f18_2.u hbE
 replace f6 := f6.u hbE
 replace f4 := f4.u hbE
 replace f5 := f5.u hbE
 replace f := f.u hbE
 refine wl_storega Tryz.sizeOf94 rfl rfl (by rfl) (oneCell_of (by rfl)) f10 (by rfl) ?_
 rintro w_2 f_1 g_1 e_1
 have s_1 := g_1.size
 replace hw := hw.trans (below_of_grownBy g_1.g hw.size (by omega))
 replace f := f.k g_1.g (ap_some (by omega))
 replace f5 := f5.k g_1.g (ap_some (by omega))
 replace f4 := f4.k g_1.g (ap_some (by omega))
 replace f6 := f6.k g_1.g (ap_some (by omega))
 replace f18_2 := f18_2.y g_1 (by decide)
 replace f18_1 := f18_1.y g_1 (by decide)
 replace f18 := f18.q g_1 (ap_some (by omega)) (by decide)
 replace f33_1 := f33_1.y g_1 (by decide)
 replace f33 := f33.y g_1 (by decide)
 replace f30 := f30.k g_1.g (ap_some (by omega))
 replace f29 := f29.y g_1 (by decide)
 replace f26 := f26.k g_1.g (ap_some (by omega))
 clear f10
 refine wl_nild ?_
 refine rk_seq ?_
 refine rk_seq ?_
 refine rk_region ?_
 refine wl_p (fun _ => o_faddr (s := 54) (i := 0) (off := 0) Tryz.underlying54 rfl Tryz.sizeOf3 rfl rfl rfl) ?_
 refine wl_r (o_loadbg Tryz.isAgg3 rfl f5 (by rfl)) ?_
 refine wl_nil ?_
 refine rk_block ?_
 refine rk_seq ?_
 refine rk_region ?_
 refine wl_p (fun _ => o_eq rfl rfl) ?_
 refine wl_p (fun _ => o_assign rfl) ?_
 refine wl_nil ?_
 rcases (show k = 1 ∨ k = 2 ∨ k = 3 ∨ k = 4 ∨ k = 5 ∨ k = 6 by omega) with rfl | rfl | rfl | rfl | rfl | rfl
 ·have e1 : (putS I p q).1 = I' := congrArg (fun r => r.1.1) hd
  have e2 : X = X' := congrArg (fun r => r.1.2.1) hd
  have e3 : Y = Y' := congrArg (fun r => r.1.2.2) hd
  have e4 : (putS I p q).2 = true := congrArg (fun r => r.2) hd
  subst e2; subst e3
  unfold putS at e1 e4
  cases bb
  ·have hno := of_decide_eq_false hbb
   rw [if_neg hno] at e1 e4
   by_cases h5 : 1024 ≤ I.length
   ·rw [if_pos h5] at e4; cases e4
   rw [if_neg h5, hkk] at e1
   dsimp only at e1
   subst e1
   have t1 := f18.takeT hkl
   have t3 : (I.take kk).length = kk := by rw [List.length_take]; omega
   have t4 : (I.drop kk).length = I.length - kk := by rw [List.length_drop]
   have s2 := hw.size
   refine rk_true rfl ?_
   refine rk_seq ?_
   refine rk_region ?_
   refine wl_p (fun _ => o_move rfl) ?_
   refine wl_nil ?_
   refine rk_false rfl ?_
   refine rk_drawoB (id := 10) (none) [0, 0, 2, 0, 12, 17, 0, 64, 160, 0, 512, 0, 3072, 4352, 16383, 32767] [0, 0, 2, 0, 14, 31, 0, 64, 255, 0, 512, 0, 3584, 8191, 16383, 32767] 41377 417 [1, 2, 3, 4, 6, 9, 10, 11, 12] [(.p, 1), (.s, 2), (.p, 3), (.p, 4), (.s, 6), (.p, 9), (.s, 10), (.p, 11), (.p, 12), (.f 7774 41377 417, 7)] (by kernel_rfl) (by kernel_rfl) (by kernel_rfl) (by kernel_rfl) (by kernel_rfl) ?_
   dsimp only [inOrder, nthOp]
   replace hw := hw.drew
   replace t1 := t1.d
   replace f5 := f5.d
   replace f26 := f26.d
   replace f29 := f29.d
   replace f30 := f30.d
   replace f33 := f33.d
   replace f33_1 := f33_1.d
   replace f18 := f18.d
   replace f18_1 := f18_1.d
   replace f18_2 := f18_2.d
   replace f6 := f6.d
   replace f4 := f4.d
   replace f := f.d
   replace f_1 := f_1.d
   refine wl_p (fun _ => o_faddr (s := 31) (i := 0) (off := 0) Tryz.underlying31 rfl Tryz.sizeOf28 rfl rfl rfl) ?_
   refine wl_s (fun _ hk => (o_loadbg Tryz.isAgg28 rfl (f.u (below_of_ok hk (Nat.le_refl _) (fun _ e => by cases e))) (by rfl))) ?_
   refine wl_p (fun _ => o_move rfl) ?_
   refine wl_p (fun _ => (o_slHiG (kk) Tryz.underlying28 Tryz.sizeOf94 rfl rfl rfl (by omega))) ?_
   refine wl_s (fun _ hk => (o_loadag Tryz.isAgg94 Tryz.sizeOf94 rfl (f_1.u (below_of_ok hk (Nat.le_refl _) (fun _ e => by cases e))) (by rfl))) ?_
   refine wl_p (fun _ => o_faddr (s := 31) (i := 0) (off := 0) Tryz.underlying31 rfl Tryz.sizeOf28 rfl rfl rfl) ?_
   refine wl_s (fun _ hk => (o_loadbg Tryz.isAgg28 rfl (f.u (below_of_ok hk (Nat.le_refl _) (fun _ e => by cases e))) (by rfl))) ?_
   refine wl_p (fun _ => o_move rfl) ?_
   refine wl_p (fun _ => (o_slLoG (kk) Tryz.underlying28 Tryz.sizeOf94 rfl rfl rfl (by omega))) ?_
   refine wl_conc [⟨0, [], [45], [], fun vs w' lo hi => ∃ (A45 : Option Addr), vs = [.slice A45 0 0] ∧ OwnI w' lo hi A45 0 []⟩, ⟨5, [], [50], [0], fun vs w' lo hi => ∃ (A50 : Option Addr) (c50 l50 h50 : Nat), vs = [.slice A50 kk c50] ∧ OwnI w' l50 h50 A50 c50 (I.take kk) ∧ w_2.heap.size ≤ l50 ∧ l50 ≤ hi⟩, ⟨7, [], [52], [], fun vs w' lo hi => ∃ (A52 : Option Addr), vs = [.slice A52 1 1] ∧ RIT w' A52 [(p, q)]⟩] [0, 1, 2] [0, 0, 2, 0, 12, 17, 0, 64, 160, 0, 512, 0, 3072, 4352, 16383, 32767] [0, 0, 2, 0, 14, 31, 0, 64, 255, 0, 512, 0, 3584, 8191, 16383, 32767] [8, 13, 14, 15] [(.c, 8), (.l, 13), (.p, 14), (.l, 15)] (by kernel_rfl) (by kernel_rfl) (by kernel_rfl) (by kernel_rfl) ⟨fun _ _ _ _ _ h hb => by obtain ⟨A45, e0, g0⟩ := h; exact ⟨A45, e0, g0.u hb⟩, fun _ _ _ _ _ h hb => by obtain ⟨A50, c50, l50, h50, e0, g0, g1, g2⟩ := h; exact ⟨A50, c50, l50, h50, e0, g0.u hb, g1, g2⟩, fun _ _ _ _ _ h hb => by obtain ⟨A52, e0, g0⟩ := h; exact ⟨A52, e0, g0.u hb⟩, trivial⟩ ⟨?_, ?_, ?_, trivial⟩ ?_
   ·intro wI hbI fo T T2 n2
    intro hk
    dsimp only [Item.idx, inOrder, nthOp, List.map, List.zip_cons_cons, List.zip_nil_right, List.cons_append, List.nil_append]
    have shbI := hbI.size
    simp only [drew_size] at shbI
    replace hw := hw.trans (hbI.mono hw.size)
    replace f_1 := f_1.u hbI
    replace f := f.u hbI
    replace f4 := f4.u hbI
    replace f6 := f6.u hbI
    replace f18_2 := f18_2.u hbI
    replace f18_1 := f18_1.u hbI
    replace f18 := f18.u hbI
    replace f33_1 := f33_1.u hbI
    replace f33 := f33.u hbI
    replace f30 := f30.u hbI
    replace f29 := f29.u hbI
    replace f26 := f26.u hbI
    replace f5 := f5.u hbI
    replace t1 := t1.u hbI
    have hw1 := Below.refl wI.heap.size wI
    refine wl_litI0 (by rfl) rfl (by rfl) ?_
    rintro A45 w45 f45 b45
    have qf45 := f45.cap
    have s45 := b45.size
    replace hw := hw.trans (b45.mono hw.size)
    replace hw1 := hw1.trans (b45.mono hw1.size)
    replace t1 := t1.u b45
    replace f5 := f5.u b45
    replace f26 := f26.u b45
    replace f29 := f29.u b45
    replace f30 := f30.u b45
    replace f33 := f33.u b45
    replace f33_1 := f33_1.u b45
    replace f18 := f18.u b45
    replace f18_1 := f18_1.u b45
    replace f18_2 := f18_2.u b45
    replace f6 := f6.u b45
    replace f4 := f4.u b45
    replace f := f.u b45
    replace f_1 := f_1.u b45
    exact hk [_] _ ⟨_, rfl, f45⟩ hw1
   ·intro wI hbI fo T T2 n2
    rintro _ lo0 hi0 ⟨A45, rfl, f45⟩ ql0 qm0 qh0 -
    try dsimp only at ql0 qm0 qh0 
    try simp only [drew_size] at ql0 qm0 qh0 
    intro hk
    dsimp only [Item.idx, inOrder, nthOp, List.map, List.zip_cons_cons, List.zip_nil_right, List.cons_append, List.nil_append]
    have shbI := hbI.size
    simp only [drew_size] at shbI
    replace hw := hw.trans (hbI.mono hw.size)
    replace f_1 := f_1.u hbI
    replace f := f.u hbI
    replace f4 := f4.u hbI
    replace f6 := f6.u hbI
    replace f18_2 := f18_2.u hbI
    replace f18_1 := f18_1.u hbI
    replace f18 := f18.u hbI
    replace f33_1 := f33_1.u hbI
    replace f33 := f33.u hbI
    replace f30 := f30.u hbI
    replace f29 := f29.u hbI
    replace f26 := f26.u hbI
    replace f5 := f5.u hbI
    replace t1 := t1.u hbI
    have hw1 := Below.refl wI.heap.size wI
    refine wl_appItm0 rfl f45 rfl t1 (by omega) (by omega) (by omega) ?_
    rintro A50 c50 w50 f50 b50
    have qf50 := f50.cap
    have s50 := b50.size
    replace hw := hw.trans (b50.mono hw.size)
    replace hw1 := hw1.trans (b50.mono hw1.size)
    replace t1 := t1.u b50
    replace f5 := f5.u b50
    replace f26 := f26.u b50
    replace f29 := f29.u b50
    replace f30 := f30.u b50
    replace f33 := f33.u b50
    replace f33_1 := f33_1.u b50
    replace f18 := f18.u b50
    replace f18_1 := f18_1.u b50
    replace f18_2 := f18_2.u b50
    replace f6 := f6.u b50
    replace f4 := f4.u b50
    replace f := f.u b50
    replace f_1 := f_1.u b50
    replace f45 := f45.u b50
    rw [t3]
    exact hk [_] _ ⟨_, _, _, _, rfl, f50, by omega, by omega⟩ hw1
   ·intro wI hbI fo T T2 n2
    intro hk
    dsimp only [Item.idx, inOrder, nthOp, List.map, List.zip_cons_cons, List.zip_nil_right, List.cons_append, List.nil_append]
    have shbI := hbI.size
    simp only [drew_size] at shbI
    replace hw := hw.trans (hbI.mono hw.size)
    replace f_1 := f_1.u hbI
    replace f := f.u hbI
    replace f4 := f4.u hbI
    replace f6 := f6.u hbI
    replace f18_2 := f18_2.u hbI
    replace f18_1 := f18_1.u hbI
    replace f18 := f18.u hbI
    replace f33_1 := f33_1.u hbI
    replace f33 := f33.u hbI
    replace f30 := f30.u hbI
    replace f29 := f29.u hbI
    replace f26 := f26.u hbI
    replace f5 := f5.u hbI
    replace t1 := t1.u hbI
    have hw1 := Below.refl wI.heap.size wI
    refine wl_litItm (by rfl) rfl f33 f33_1 rfl rfl (by omega) (by omega) (by omega) (by omega) (by rfl) ?_
    rintro A52 w52 f52 b52
    have qf52 := f52.cap
    have s52 := b52.size
    replace hw := hw.trans (b52.mono hw.size)
    replace hw1 := hw1.trans (b52.mono hw1.size)
    replace t1 := t1.u b52
    replace f5 := f5.u b52
    replace f26 := f26.u b52
    replace f29 := f29.u b52
    replace f30 := f30.u b52
    replace f33 := f33.u b52
    replace f33_1 := f33_1.u b52
    replace f18 := f18.u b52
    replace f18_1 := f18_1.u b52
    replace f18_2 := f18_2.u b52
    replace f6 := f6.u b52
    replace f4 := f4.u b52
    replace f := f.u b52
    replace f_1 := f_1.u b52
    exact hk [_] _ ⟨_, rfl, f52.to_RIT⟩ hw1
   intro wE hbE
   rintro _ lo0 hi0 ⟨A45, rfl, f45⟩ ql0 qm0 qh0 -
   rintro _ lo1 hi1 ⟨A50, c50, l50, h50, rfl, f50, f50_1, f50_2⟩ ql1 qm1 qh1 ⟨qa1_0, -⟩
   rintro _ lo2 hi2 ⟨A52, rfl, f52⟩ ql2 qm2 qh2 ⟨qa2_1, qa2_0, -⟩
   try dsimp only at ql0 qm0 qh0  ql1 qm1 qh1 qa1_0 ql2 qm2 qh2 qa2_0 qa2_1
   try simp only [drew_size] at ql0 qm0 qh0  ql1 qm1 qh1 qa1_0 ql2 qm2 qh2 qa2_0 qa2_1
   dsimp only [given, Item.idx, inOrder, nthOp, List.map, List.zip_cons_cons, List.zip_nil_right]
   have shbE_1 := hbE.size
   simp only [drew_size] at shbE_1
   replace hw := hw.trans (hbE.mono hw.size)
   replace f_1 := f_1.u hbE
   replace f := f.u hbE
   replace f4 := f4.u hbE
   replace f6 := f6.u hbE
   replace f18_2 := f18_2.u hbE
   replace f18_1 := f18_1.u hbE
   replace f18 := f18.u hbE
   replace f33_1 := f33_1.u hbE
   replace f33 := f33.u hbE
   replace f30 := f30.u hbE
   replace f29 := f29.u hbE
   replace f26 := f26.u hbE
   replace f5 := f5.u hbE
   replace t1 := t1.u hbE
   refine wl_appItmM rfl f50 (by omega) rfl f52 (by rfl) (by simp; omega) (by omega) ?_ (hq := .inr (.inr (f50.ge_ (by omega))))
   rintro A53 c53 w53 f53 g53 b53
   have qf53 := f53.cap
   have s53 := g53.size
   replace hw := hw.trans (b53.mono (by omega))
   replace f5 := f5.y g53 (by decide)
   replace f26 := f26.y g53 (by decide)
   replace f29 := f29.y g53 (by decide)
   replace f30 := f30.y g53 (by decide)
   replace f33 := f33.y g53 (by decide)
   replace f33_1 := f33_1.y g53 (by decide)
   replace f18 := f18.q g53 (f50.ap (by omega)) (by decide)
   replace f18_1 := f18_1.y g53 (by decide)
   replace f18_2 := f18_2.y g53 (by decide)
   replace f6 := f6.y g53 (by decide)
   replace f4 := f4.y g53 (by decide)
   replace f := f.y g53 (by decide)
   replace f_1 := f_1.k g53.g (f50.ap (by omega))
   clear t1
   clear f52
   clear f50
   clear f45
   have t2 := f18.dropT hkl
   refine wl_appItm rfl f53 rfl rfl t2 (by omega) (by simp; omega) (by omega) ?_
   rintro A58 c58 w58 f58 g58 b58
   have qf58 := f58.cap
   have s58 := g58.size
   replace hw := hw.trans (b58.mono (by omega))
   replace f_1 := f_1.k g58.g (f53.ap (by omega))
   replace f := f.y g58 (by decide)
   replace f4 := f4.y g58 (by decide)
   replace f6 := f6.y g58 (by decide)
   replace f18_2 := f18_2.y g58 (by decide)
   replace f18_1 := f18_1.y g58 (by decide)
   replace f18 := f18.q g58 (f53.ap (by omega)) (by decide)
   replace f33_1 := f33_1.y g58 (by decide)
   replace f33 := f33.y g58 (by decide)
   replace f30 := f30.y g58 (by decide)
   replace f29 := f29.y g58 (by decide)
   replace f26 := f26.y g58 (by decide)
   replace f5 := f5.y g58 (by decide)
   clear t2
   clear f53
   refine wl_p (fun _ => o_faddr (s := 31) (i := 0) (off := 0) Tryz.underlying31 rfl Tryz.sizeOf28 rfl rfl rfl) ?_
   refine wl_storeg1 Tryz.sizeOf28 rfl rfl (by rfl) f (by simp) ?_
   rintro w_3 f_2 g_2 e_2
   have s_2 := g_2.size
   replace hw := hw.trans (below_of_grownBy g_2.g hw.size (by omega))
   replace f5 := f5.k g_2.g (ap_some (by omega))
   replace f26 := f26.k g_2.g (ap_some (by omega))
   replace f29 := f29.y g_2 (by decide)
   replace f30 := f30.k g_2.g (ap_some (by omega))
   replace f33 := f33.y g_2 (by decide)
   replace f33_1 := f33_1.y g_2 (by decide)
   replace f18 := f18.y g_2 (by decide)
   replace f18_1 := f18_1.y g_2 (by decide)
   replace f18_2 := f18_2.y g_2 (by decide)
   replace f6 := f6.k g_2.g (ap_some (by omega))
   replace f4 := f4.k g_2.g (ap_some (by omega))
   replace f_1 := f_1.k g_2.g (ap_some (by omega))
   replace f58 := f58.y g_2 (by decide)
   clear f
   refine wl_nild ?_
   refine rk_blk ?_
   refine rk_seq ?_
   refine rk_region ?_
   refine wl_r (o_loadag Tryz.isAgg31 Tryz.sizeOf31 rfl f_2 (by rfl)) ?_
   refine wl_storega Tryz.sizeOf31 rfl rfl (by rfl) (oneCell_of (by rfl)) f6 (by rfl) ?_
   rintro w_4 f g_3 e_3
   have s_3 := g_3.size
   replace hw := hw.trans (below_of_grownBy g_3.g hw.size (by omega))
   replace f58 := f58.y g_3 (by decide)
   replace f_1 := f_1.k g_3.g (ap_some (by omega))
   replace f4 := f4.k g_3.g (ap_some (by omega))
   replace f18_2 := f18_2.y g_3 (by decide)
   replace f18_1 := f18_1.y g_3 (by decide)
   replace f18 := f18.y g_3 (by decide)
   replace f33_1 := f33_1.y g_3 (by decide)
   replace f33 := f33.y g_3 (by decide)
   replace f30 := f30.k g_3.g (ap_some (by omega))
   replace f29 := f29.y g_3 (by decide)
   replace f26 := f26.k g_3.g (ap_some (by omega))
   replace f5 := f5.k g_3.g (ap_some (by omega))
   replace f_2 := f_2.k g_3.g (ap_some (by omega))
   clear f6
   refine wl_p (fun _ => o_assign rfl) ?_
   refine wl_nil ?_
   refine ret_any rfl (.cell rfl Tryz.isAgg31 Tryz.sizeOf31 (by assumption) rfl <| .tmp rfl <| .nil) (by simp) ?_
   exact ⟨_, _, _, _, _, _, rfl, f58.to_RIT, f18_1, f18_2, hw⟩
  ·have hyes := of_decide_eq_true hbb
   rw [if_pos hyes, hkk] at e1
   dsimp only at e1
   subst e1
   obtain ⟨hkl2, _⟩ := mem_low hok.2.2.1.srt hyes
   rw [hkk] at hkl2
   refine rk_true rfl ?_
   refine rk_seq ?_
   refine rk_region ?_
   refine wl_p (fun _ => o_move rfl) ?_
   refine wl_nil ?_
   refine rk_true rfl ?_
   refine rk_region ?_
   refine wl_p (fun _ => o_faddr (s := 31) (i := 0) (off := 0) Tryz.underlying31 rfl Tryz.sizeOf28 rfl rfl rfl) ?_
   refine wl_r (o_loadbg Tryz.isAgg28 rfl f (by rfl)) ?_
   refine wl_p (fun _ => o_move rfl) ?_
   refine wl_r (o_loadag Tryz.isAgg94 Tryz.sizeOf94 rfl f_1 (by rfl)) ?_
   refine wl_p (fun _ => (o_iaddrA (kk) Tryz.underlying28 Tryz.sizeOf94 rfl rfl rfl (f18.some_ (by omega)) (by omega))) ?_
   refine wl_stItm rfl rfl f18 f33 rfl (by omega) (by omega) f33_1 rfl (by omega) (by omega) (by omega) (by omega) ?_
   rintro w_3 f_2 g_2 b e_2
   have qf_2 := f_2.cap
   have s_2 := g_2.size
   replace hw := hw.trans (b.mono (by omega))
   replace f5 := f5.y g_2 (by decide)
   replace f26 := f26.y g_2 (by decide)
   replace f29 := f29.y g_2 (by decide)
   replace f30 := f30.y g_2 (by decide)
   replace f33 := f33.y g_2 (by decide)
   replace f33_1 := f33_1.y g_2 (by decide)
   replace f18_1 := f18_1.y g_2 (by decide)
   replace f18_2 := f18_2.y g_2 (by decide)
   replace f6 := f6.y g_2 (by decide)
   replace f4 := f4.y g_2 (by decide)
   replace f := f.y g_2 (by decide)
   replace f_1 := f_1.k g_2.g (f_2.ap (by omega))
   clear f18
   refine wl_nil ?_
   refine rk_blk ?_
   refine rk_seq ?_
   refine rk_region ?_
   refine wl_r (o_loadag Tryz.isAgg31 Tryz.sizeOf31 rfl f (by rfl)) ?_
   refine wl_storega Tryz.sizeOf31 rfl rfl (by rfl) (oneCell_of (by rfl)) f6 (by rfl) ?_
   rintro w_4 f_3 g_3 e_3
   have s_3 := g_3.size
   replace hw := hw.trans (below_of_grownBy g_3.g hw.size (by omega))
   replace f_1 := f_1.k g_3.g (ap_some (by omega))
   replace f := f.k g_3.g (ap_some (by omega))
   replace f4 := f4.k g_3.g (ap_some (by omega))
   replace f18_2 := f18_2.y g_3 (by decide)
   replace f18_1 := f18_1.y g_3 (by decide)
   replace f33_1 := f33_1.y g_3 (by decide)
   replace f33 := f33.y g_3 (by decide)
   replace f30 := f30.k g_3.g (ap_some (by omega))
   replace f29 := f29.y g_3 (by decide)
   replace f26 := f26.k g_3.g (ap_some (by omega))
   replace f5 := f5.k g_3.g (ap_some (by omega))
   replace f_2 := f_2.y g_3 (by decide)
   clear f6
   refine wl_p (fun _ => o_assign rfl) ?_
   refine wl_nil ?_
   refine ret_any rfl (.cell rfl Tryz.isAgg31 Tryz.sizeOf31 (by assumption) rfl <| .tmp rfl <| .nil) (by simp) ?_
   exact ⟨A18, c18, _, _, _, _, by rw [List.length_set], OwnI.to_RIT (by assumption), f18_1, f18_2, hw⟩
 ·have e1 : (delS I p).1 = I' := congrArg (fun r => r.1.1) hd
  have e2 : X = X' := congrArg (fun r => r.1.2.1) hd
  have e3 : Y = Y' := congrArg (fun r => r.1.2.2) hd
  have e4 : (delS I p).2 = true := congrArg (fun r => r.2) hd
  subst e2; subst e3
  unfold delS at e1 e4
  cases bb
  ·rw [if_neg (of_decide_eq_false hbb)] at e4; cases e4
  have hyes := of_decide_eq_true hbb
  rw [if_pos hyes, hkk] at e1
  dsimp only [cutI] at e1
  subst e1
  obtain ⟨hkl2, _⟩ := mem_low hok.2.2.1.srt hyes
  rw [hkk] at hkl2
  have t1 := f18.takeT hkl
  have t3 : (I.take kk).length = kk := by rw [List.length_take]; omega
  have t4 : (I.drop (kk + 1)).length = I.length - (kk + 1) := by rw [List.length_drop]
  refine rk_false rfl ?_
  refine rk_seq ?_
  refine rk_region ?_
  refine wl_p (fun _ => o_eq rfl rfl) ?_
  refine wl_p (fun _ => o_assign rfl) ?_
  refine wl_nil ?_
  refine rk_true rfl ?_
  refine rk_drawoB (id := 12) (none) [0, 0, 2, 0, 12, 17, 0, 64, 0, 256, 640, 1056, 4095, 8191] [0, 0, 2, 0, 14, 31, 0, 64, 0, 256, 960, 2047, 4095, 8191] 10273 33 [1, 2, 3, 4, 6, 7, 8, 9, 10, 0, 5, 11, 12, 13] [(.p, 1), (.s, 2), (.p, 3), (.p, 4), (.p, 6), (.s, 7), (.p, 8), (.p, 9), (.p, 10), (.c, 0), (.c, 5), (.l, 11), (.p, 12), (.l, 13)] (by kernel_rfl) (by kernel_rfl) (by kernel_rfl) (by kernel_rfl) (by kernel_rfl) ?_
  dsimp only [inOrder, nthOp]
  replace hw := hw.drew
  replace t1 := t1.d
  replace f5 := f5.d
  replace f26 := f26.d
  replace f29 := f29.d
  replace f30 := f30.d
  replace f33 := f33.d
  replace f33_1 := f33_1.d
  replace f18 := f18.d
  replace f18_1 := f18_1.d
  replace f18_2 := f18_2.d
  replace f6 := f6.d
  replace f4 := f4.d
  replace f := f.d
  replace f_1 := f_1.d
  refine wl_p (fun _ => o_faddr (s := 31) (i := 0) (off := 0) Tryz.underlying31 rfl Tryz.sizeOf28 rfl rfl rfl) ?_
  refine wl_s (fun _ hk => (o_loadbg Tryz.isAgg28 rfl (f.u (below_of_ok hk (Nat.le_refl _) (fun _ e => by cases e))) (by rfl))) ?_
  refine wl_p (fun _ => o_move rfl) ?_
  refine wl_p (fun _ => (o_slHiG (kk) Tryz.underlying28 Tryz.sizeOf94 rfl rfl rfl (by omega))) ?_
  refine wl_p (fun _ => o_faddr (s := 31) (i := 0) (off := 0) Tryz.underlying31 rfl Tryz.sizeOf28 rfl rfl rfl) ?_
  refine wl_s (fun _ hk => (o_loadbg Tryz.isAgg28 rfl (f.u (below_of_ok hk (Nat.le_refl _) (fun _ e => by cases e))) (by rfl))) ?_
  refine wl_p (fun _ => o_move rfl) ?_
  refine wl_p (fun _ => o_add rfl rfl (by omega) (by omega)) ?_
  refine wl_p (fun _ => (o_slLoG (kk + 1) Tryz.underlying28 Tryz.sizeOf94 rfl rfl (by omega) (by omega))) ?_
  refine wl_litI0 (by rfl) rfl (by rfl) ?_
  rintro A62 w62 f62 b62
  simp only [drew_size] at f62
  simp only [drew_size] at b62
  have qf62 := f62.cap
  have s62 := b62.size
  simp only [drew_size] at s62
  replace hw := hw.trans (b62.mono hw.size)
  replace f_1 := f_1.u b62
  replace f := f.u b62
  replace f4 := f4.u b62
  replace f6 := f6.u b62
  replace f18_2 := f18_2.u b62
  replace f18_1 := f18_1.u b62
  replace f18 := f18.u b62
  replace f33_1 := f33_1.u b62
  replace f33 := f33.u b62
  replace f30 := f30.u b62
  replace f29 := f29.u b62
  replace f26 := f26.u b62
  replace f5 := f5.u b62
  replace t1 := t1.u b62
  refine wl_appItm0 rfl f62 rfl t1 (by omega) (by omega) (by omega) ?_
  rintro A67 c67 w67 f67 b67
  have qf67 := f67.cap
  have s67 := b67.size
  replace hw := hw.trans (b67.mono hw.size)
  replace t1 := t1.u b67
  replace f5 := f5.u b67
  replace f26 := f26.u b67
  replace f29 := f29.u b67
  replace f30 := f30.u b67
  replace f33 := f33.u b67
  replace f33_1 := f33_1.u b67
  replace f18 := f18.u b67
  replace f18_1 := f18_1.u b67
  replace f18_2 := f18_2.u b67
  replace f6 := f6.u b67
  replace f4 := f4.u b67
  replace f := f.u b67
  replace f_1 := f_1.u b67
  replace f62 := f62.u b67
  have t2 := f18.dropT (k := kk + 1) (by omega)
  refine wl_appItm rfl f67 rfl rfl t2 (by omega) (by omega) (by omega) ?_
  rintro A73 c73 w73 f73 g73 b73
  have qf73 := f73.cap
  have s73 := g73.size
  replace hw := hw.trans (b73.mono (by omega))
  replace f_1 := f_1.k g73.g (f67.ap (by omega))
  replace f := f.y g73 (by decide)
  replace f4 := f4.y g73 (by decide)
  replace f6 := f6.y g73 (by decide)
  replace f18_2 := f18_2.y g73 (by decide)
  replace f18_1 := f18_1.y g73 (by decide)
  replace f18 := f18.q g73 (f67.ap (by omega)) (by decide)
  replace f33_1 := f33_1.y g73 (by decide)
  replace f33 := f33.y g73 (by decide)
  replace f30 := f30.y g73 (by decide)
  replace f29 := f29.y g73 (by decide)
  replace f26 := f26.y g73 (by decide)
  replace f5 := f5.y g73 (by decide)
  clear t2
  clear f62
  clear t1
  clear f67
  refine wl_p (fun _ => o_faddr (s := 31) (i := 0) (off := 0) Tryz.underlying31 rfl Tryz.sizeOf28 rfl rfl rfl) ?_
  refine wl_storeg1 Tryz.sizeOf28 rfl rfl (by rfl) f (by simp) ?_
  rintro w_3 f_2 g_2 e_2
  have s_2 := g_2.size
  replace hw := hw.trans (below_of_grownBy g_2.g hw.size (by omega))
  replace f5 := f5.k g_2.g (ap_some (by omega))
  replace f26 := f26.k g_2.g (ap_some (by omega))
  replace f29 := f29.y g_2 (by decide)
  replace f30 := f30.k g_2.g (ap_some (by omega))
  replace f33 := f33.y g_2 (by decide)
  replace f33_1 := f33_1.y g_2 (by decide)
  replace f18 := f18.y g_2 (by decide)
  replace f18_1 := f18_1.y g_2 (by decide)
  replace f18_2 := f18_2.y g_2 (by decide)
  replace f6 := f6.k g_2.g (ap_some (by omega))
  replace f4 := f4.k g_2.g (ap_some (by omega))
  replace f_1 := f_1.k g_2.g (ap_some (by omega))
  replace f73 := f73.y g_2 (by decide)
  clear f
  refine wl_nild ?_
  refine rk_blk ?_
  refine rk_seq ?_
  refine rk_region ?_
  refine wl_r (o_loadag Tryz.isAgg31 Tryz.sizeOf31 rfl f_2 (by rfl)) ?_
  refine wl_storega Tryz.sizeOf31 rfl rfl (by rfl) (oneCell_of (by rfl)) f6 (by rfl) ?_
  rintro w_4 f g_3 e_3
  have s_3 := g_3.size
  replace hw := hw.trans (below_of_grownBy g_3.g hw.size (by omega))
  replace f73 := f73.y g_3 (by decide)
  replace f_1 := f_1.k g_3.g (ap_some (by omega))
  replace f4 := f4.k g_3.g (ap_some (by omega))
  replace f18_2 := f18_2.y g_3 (by decide)
  replace f18_1 := f18_1.y g_3 (by decide)
  replace f18 := f18.y g_3 (by decide)
  replace f33_1 := f33_1.y g_3 (by decide)
  replace f33 := f33.y g_3 (by decide)
  replace f30 := f30.k g_3.g (ap_some (by omega))
  replace f29 := f29.y g_3 (by decide)
  replace f26 := f26.k g_3.g (ap_some (by omega))
  replace f5 := f5.k g_3.g (ap_some (by omega))
  replace f_2 := f_2.k g_3.g (ap_some (by omega))
  clear f6
  refine wl_p (fun _ => o_assign rfl) ?_
  refine wl_nil ?_
  refine ret_any rfl (.cell rfl Tryz.isAgg31 Tryz.sizeOf31 (by assumption) rfl <| .tmp rfl <| .nil) (by simp) ?_
  exact ⟨_, _, _, _, _, _, rfl, f73.to_RIT, f18_1, f18_2, hw⟩
 ·have e1 : I = I' := congrArg (fun r => r.1.1) hd
  have e2 : (addS X u 16).1 = X' := congrArg (fun r => r.1.2.1) hd
  have e3 : Y = Y' := congrArg (fun r => r.1.2.2) hd
  have e4 : (addS X u 16).2 = true := congrArg (fun r => r.2) hd
  have hinc : IncK X := hok.2.2.2.1
  subst e1; subst e3
  unfold addS at e2 e4
  by_cases hu : u ∈ X ∨ 16 ≤ X.length
  ·rw [if_pos hu] at e4; cases e4
  rw [if_neg hu] at e2
  dsimp only at e2
  subst e2
  refine rk_false rfl ?_
  refine rk_seq ?_
  refine rk_region ?_
  refine wl_p (fun _ => o_eq rfl rfl) ?_
  refine wl_p (fun _ => o_assign rfl) ?_
  refine wl_nil ?_
  refine rk_false rfl ?_
  refine rk_seq ?_
  refine rk_region ?_
  refine wl_p (fun _ => o_eq rfl rfl) ?_
  refine wl_p (fun _ => o_assign rfl) ?_
  refine wl_nil ?_
  refine rk_true rfl ?_
  refine rk_region ?_
  refine wl_p (fun _ => o_faddr (s := 31) (i := 1) (off := 1) Tryz.underlying31 rfl Tryz.sizeOf29 rfl rfl rfl) ?_
  refine wl_r (o_loadbg Tryz.isAgg29 rfl f (by rfl)) ?_
  refine wl_p (fun _ => o_faddr (s := 54) (i := 3) (off := 3) Tryz.underlying54 rfl Tryz.sizeOf42 rfl rfl rfl) ?_
  refine wl_r (o_ldWho rfl f5) ?_
  refine wl_call rfl (C_r22with _ f18_1.to_RKs (by omega) rfl (by omega) (by omega)) ?_
  rintro v81 w81 ⟨A81, ⟨c81, ⟨rfl, ⟨f81, b81⟩⟩⟩⟩
  have s81 := b81.size
  replace hw := hw.trans (b81.mono hw.size)
  replace f5 := f5.u b81
  replace f26 := f26.u b81
  replace f29 := f29.u b81
  replace f30 := f30.u b81
  replace f33 := f33.u b81
  replace f33_1 := f33_1.u b81
  replace f18 := f18.u b81
  replace f18_1 := f18_1.u b81
  replace f18_2 := f18_2.u b81
  replace f6 := f6.u b81
  replace f4 := f4.u b81
  replace f := f.u b81
  replace f_1 := f_1.u b81
  refine wl_p (fun _ => o_faddr (s := 31) (i := 1) (off := 1) Tryz.underlying31 rfl Tryz.sizeOf29 rfl rfl rfl) ?_
  refine wl_storeg1 Tryz.sizeOf29 rfl rfl (by rfl) f (by simp) ?_
  rintro w_3 f_2 g_2 e_2
  have s_2 := g_2.size
  replace hw := hw.trans (below_of_grownBy g_2.g hw.size (by omega))
  replace f_1 := f_1.k g_2.g (ap_some (by omega))
  replace f4 := f4.k g_2.g (ap_some (by omega))
  replace f6 := f6.k g_2.g (ap_some (by omega))
  replace f18_2 := f18_2.y g_2 (by decide)
  replace f18_1 := f18_1.y g_2 (by decide)
  replace f18 := f18.y g_2 (by decide)
  replace f33_1 := f33_1.y g_2 (by decide)
  replace f33 := f33.y g_2 (by decide)
  replace f30 := f30.k g_2.g (ap_some (by omega))
  replace f29 := f29.y g_2 (by decide)
  replace f26 := f26.k g_2.g (ap_some (by omega))
  replace f5 := f5.k g_2.g (ap_some (by omega))
  replace f81 := f81.y g_2 (by decide)
  clear f
  refine wl_nil ?_
  refine rk_blk ?_
  refine rk_seq ?_
  refine rk_region ?_
  refine wl_r (o_loadag Tryz.isAgg31 Tryz.sizeOf31 rfl f_2 (by rfl)) ?_
  refine wl_storega Tryz.sizeOf31 rfl rfl (by rfl) (oneCell_of (by rfl)) f6 (by rfl) ?_
  rintro w_4 f g_3 e_3
  have s_3 := g_3.size
  replace hw := hw.trans (below_of_grownBy g_3.g hw.size (by omega))
  replace f81 := f81.y g_3 (by decide)
  replace f5 := f5.k g_3.g (ap_some (by omega))
  replace f26 := f26.k g_3.g (ap_some (by omega))
  replace f29 := f29.y g_3 (by decide)
  replace f30 := f30.k g_3.g (ap_some (by omega))
  replace f33 := f33.y g_3 (by decide)
  replace f33_1 := f33_1.y g_3 (by decide)
  replace f18 := f18.y g_3 (by decide)
  replace f18_1 := f18_1.y g_3 (by decide)
  replace f18_2 := f18_2.y g_3 (by decide)
  replace f4 := f4.k g_3.g (ap_some (by omega))
  replace f_1 := f_1.k g_3.g (ap_some (by omega))
  replace f_2 := f_2.k g_3.g (ap_some (by omega))
  clear f6
  refine wl_p (fun _ => o_assign rfl) ?_
  refine wl_nil ?_
  refine ret_any rfl (.cell rfl Tryz.isAgg31 Tryz.sizeOf31 (by assumption) rfl <| .tmp rfl <| .nil) (by simp) ?_
  exact ⟨_, _, _, _, _, _, rfl, f18.to_RIT, by assumption, f18_2, hw⟩
 ·have e1 : I = I' := congrArg (fun r => r.1.1) hd
  have e2 : (dropS X u 0).1 = X' := congrArg (fun r => r.1.2.1) hd
  have e3 : Y = Y' := congrArg (fun r => r.1.2.2) hd
  have e4 : (dropS X u 0).2 = true := congrArg (fun r => r.2) hd
  have hinc : IncK X := hok.2.2.2.1
  subst e1; subst e3
  unfold dropS at e2 e4
  by_cases hu : u ∉ X ∨ X.length ≤ 0
  ·rw [if_pos hu] at e4; cases e4
  rw [if_neg hu] at e2
  dsimp only at e2
  have hmem : u ∈ X := Decidable.byContradiction fun h => hu (.inl h)
  rw [← filter_cut hinc hmem] at e2
  subst e2
  refine rk_false rfl ?_
  refine rk_seq ?_
  refine rk_region ?_
  refine wl_p (fun _ => o_eq rfl rfl) ?_
  refine wl_p (fun _ => o_assign rfl) ?_
  refine wl_nil ?_
  refine rk_false rfl ?_
  refine rk_seq ?_
  refine rk_region ?_
  refine wl_p (fun _ => o_eq rfl rfl) ?_
  refine wl_p (fun _ => o_assign rfl) ?_
  refine wl_nil ?_
  refine rk_false rfl ?_
  refine rk_seq ?_
  refine rk_region ?_
  refine wl_p (fun _ => o_eq rfl rfl) ?_
  refine wl_p (fun _ => o_assign rfl) ?_
  refine wl_nil ?_
  refine rk_true rfl ?_
  refine rk_region ?_
  refine wl_p (fun _ => o_faddr (s := 31) (i := 1) (off := 1) Tryz.underlying31 rfl Tryz.sizeOf29 rfl rfl rfl) ?_
  refine wl_r (o_loadbg Tryz.isAgg29 rfl f (by rfl)) ?_
  refine wl_p (fun _ => o_faddr (s := 54) (i := 3) (off := 3) Tryz.underlying54 rfl Tryz.sizeOf42 rfl rfl rfl) ?_
  refine wl_r (o_ldWho rfl f5) ?_
  refine wl_call rfl (C_r22without _ f18_1.to_RKs rfl (by omega)) ?_
  rintro v89 w89 ⟨A89, ⟨c89, ⟨rfl, ⟨f89, b89⟩⟩⟩⟩
  have s89 := b89.size
  replace hw := hw.trans (b89.mono hw.size)
  replace f5 := f5.u b89
  replace f26 := f26.u b89
  replace f29 := f29.u b89
  replace f30 := f30.u b89
  replace f33 := f33.u b89
  replace f33_1 := f33_1.u b89
  replace f18 := f18.u b89
  replace f18_1 := f18_1.u b89
  replace f18_2 := f18_2.u b89
  replace f6 := f6.u b89
  replace f4 := f4.u b89
  replace f := f.u b89
  replace f_1 := f_1.u b89
  refine wl_p (fun _ => o_faddr (s := 31) (i := 1) (off := 1) Tryz.underlying31 rfl Tryz.sizeOf29 rfl rfl rfl) ?_
  refine wl_storeg1 Tryz.sizeOf29 rfl rfl (by rfl) f (by simp) ?_
  rintro w_3 f_2 g_2 e_2
  have s_2 := g_2.size
  replace hw := hw.trans (below_of_grownBy g_2.g hw.size (by omega))
  replace f_1 := f_1.k g_2.g (ap_some (by omega))
  replace f4 := f4.k g_2.g (ap_some (by omega))
  replace f6 := f6.k g_2.g (ap_some (by omega))
  replace f18_2 := f18_2.y g_2 (by decide)
  replace f18_1 := f18_1.y g_2 (by decide)
  replace f18 := f18.y g_2 (by decide)
  replace f33_1 := f33_1.y g_2 (by decide)
  replace f33 := f33.y g_2 (by decide)
  replace f30 := f30.k g_2.g (ap_some (by omega))
  replace f29 := f29.y g_2 (by decide)
  replace f26 := f26.k g_2.g (ap_some (by omega))
  replace f5 := f5.k g_2.g (ap_some (by omega))
  replace f89 := f89.y g_2 (by decide)
  clear f
  refine wl_nil ?_
  refine rk_blk ?_
  refine rk_seq ?_
  refine rk_region ?_
  refine wl_r (o_loadag Tryz.isAgg31 Tryz.sizeOf31 rfl f_2 (by rfl)) ?_
  refine wl_storega Tryz.sizeOf31 rfl rfl (by rfl) (oneCell_of (by rfl)) f6 (by rfl) ?_
  rintro w_4 f g_3 e_3
  have s_3 := g_3.size
  replace hw := hw.trans (below_of_grownBy g_3.g hw.size (by omega))
  replace f89 := f89.y g_3 (by decide)
  replace f5 := f5.k g_3.g (ap_some (by omega))
  replace f26 := f26.k g_3.g (ap_some (by omega))
  replace f29 := f29.y g_3 (by decide)
  replace f30 := f30.k g_3.g (ap_some (by omega))
  replace f33 := f33.y g_3 (by decide)
  replace f33_1 := f33_1.y g_3 (by decide)
  replace f18 := f18.y g_3 (by decide)
  replace f18_1 := f18_1.y g_3 (by decide)
  replace f18_2 := f18_2.y g_3 (by decide)
  replace f4 := f4.k g_3.g (ap_some (by omega))
  replace f_1 := f_1.k g_3.g (ap_some (by omega))
  replace f_2 := f_2.k g_3.g (ap_some (by omega))
  clear f6
  refine wl_p (fun _ => o_assign rfl) ?_
  refine wl_nil ?_
  refine ret_any rfl (.cell rfl Tryz.isAgg31 Tryz.sizeOf31 (by assumption) rfl <| .tmp rfl <| .nil) (by simp) ?_
  exact ⟨_, _, _, _, _, _, rfl, f18.to_RIT, by assumption, f18_2, hw⟩
 ·have e1 : I = I' := congrArg (fun r => r.1.1) hd
  have e2 : (addS Y u 16).1 = Y' := congrArg (fun r => r.1.2.2) hd
  have e3 : X = X' := congrArg (fun r => r.1.2.1) hd
  have e4 : (addS Y u 16).2 = true := congrArg (fun r => r.2) hd
  have hinc : IncK Y := hok.2.2.2.2
  subst e1; subst e3
  unfold addS at e2 e4
  by_cases hu : u ∈ Y ∨ 16 ≤ Y.length
  ·rw [if_pos hu] at e4; cases e4
  rw [if_neg hu] at e2
  dsimp only at e2
  subst e2
  refine rk_false rfl ?_
  refine rk_seq ?_
  refine rk_region ?_
  refine wl_p (fun _ => o_eq rfl rfl) ?_
  refine wl_p (fun _ => o_assign rfl) ?_
  refine wl_nil ?_
  refine rk_false rfl ?_
  refine rk_seq ?_
  refine rk_region ?_
  refine wl_p (fun _ => o_eq rfl rfl) ?_
  refine wl_p (fun _ => o_assign rfl) ?_
  refine wl_nil ?_
  refine rk_false rfl ?_
  refine rk_seq ?_
  refine rk_region ?_
  refine wl_p (fun _ => o_eq rfl rfl) ?_
  refine wl_p (fun _ => o_assign rfl) ?_
  refine wl_nil ?_
  refine rk_false rfl ?_
  refine rk_seq ?_
  refine rk_region ?_
  refine wl_p (fun _ => o_eq rfl rfl) ?_
  refine wl_p (fun _ => o_assign rfl) ?_
  refine wl_nil ?_
  refine rk_true rfl ?_
  refine rk_region ?_
  refine wl_p (fun _ => o_faddr (s := 31) (i := 2) (off := 2) Tryz.underlying31 rfl Tryz.sizeOf29 rfl rfl rfl) ?_
  refine wl_r (o_loadbg Tryz.isAgg29 rfl f (by rfl)) ?_
  refine wl_p (fun _ => o_faddr (s := 54) (i := 3) (off := 3) Tryz.underlying54 rfl Tryz.sizeOf42 rfl rfl rfl) ?_
  refine wl_r (o_ldWho rfl f5) ?_
  refine wl_call rfl (C_r22with _ f18_2.to_RKs (by omega) rfl (by omega) (by omega)) ?_
  rintro v97 w97 ⟨A97, ⟨c97, ⟨rfl, ⟨f97, b97⟩⟩⟩⟩
  have s97 := b97.size
  replace hw := hw.trans (b97.mono hw.size)
  replace f5 := f5.u b97
  replace f26 := f26.u b97
  replace f29 := f29.u b97
  replace f30 := f30.u b97
  replace f33 := f33.u b97
  replace f33_1 := f33_1.u b97
  replace f18 := f18.u b97
  replace f18_1 := f18_1.u b97
  replace f18_2 := f18_2.u b97
  replace f6 := f6.u b97
  replace f4 := f4.u b97
  replace f := f.u b97
  replace f_1 := f_1.u b97
  refine wl_p (fun _ => o_faddr (s := 31) (i := 2) (off := 2) Tryz.underlying31 rfl Tryz.sizeOf29 rfl rfl rfl) ?_
  refine wl_storeg1 Tryz.sizeOf29 rfl rfl (by rfl) f (by simp) ?_
  rintro w_3 f_2 g_2 e_2
  have s_2 := g_2.size
  replace hw := hw.trans (below_of_grownBy g_2.g hw.size (by omega))
  replace f_1 := f_1.k g_2.g (ap_some (by omega))
  replace f4 := f4.k g_2.g (ap_some (by omega))
  replace f6 := f6.k g_2.g (ap_some (by omega))
  replace f18_2 := f18_2.y g_2 (by decide)
  replace f18_1 := f18_1.y g_2 (by decide)
  replace f18 := f18.y g_2 (by decide)
  replace f33_1 := f33_1.y g_2 (by decide)
  replace f33 := f33.y g_2 (by decide)
  replace f30 := f30.k g_2.g (ap_some (by omega))
  replace f29 := f29.y g_2 (by decide)
  replace f26 := f26.k g_2.g (ap_some (by omega))
  replace f5 := f5.k g_2.g (ap_some (by omega))
  replace f97 := f97.y g_2 (by decide)
  clear f
  refine wl_nil ?_
  refine rk_blk ?_
  refine rk_seq ?_
  refine rk_region ?_
  refine wl_r (o_loadag Tryz.isAgg31 Tryz.sizeOf31 rfl f_2 (by rfl)) ?_
  refine wl_storega Tryz.sizeOf31 rfl rfl (by rfl) (oneCell_of (by rfl)) f6 (by rfl) ?_
  rintro w_4 f g_3 e_3
  have s_3 := g_3.size
  replace hw := hw.trans (below_of_grownBy g_3.g hw.size (by omega))
  replace f97 := f97.y g_3 (by decide)
  replace f5 := f5.k g_3.g (ap_some (by omega))
  replace f26 := f26.k g_3.g (ap_some (by omega))
  replace f29 := f29.y g_3 (by decide)
  replace f30 := f30.k g_3.g (ap_some (by omega))
  replace f33 := f33.y g_3 (by decide)
  replace f33_1 := f33_1.y g_3 (by decide)
  replace f18 := f18.y g_3 (by decide)
  replace f18_1 := f18_1.y g_3 (by decide)
  replace f18_2 := f18_2.y g_3 (by decide)
  replace f4 := f4.k g_3.g (ap_some (by omega))
  replace f_1 := f_1.k g_3.g (ap_some (by omega))
  replace f_2 := f_2.k g_3.g (ap_some (by omega))
  clear f6
  refine wl_p (fun _ => o_assign rfl) ?_
  refine wl_nil ?_
  refine ret_any rfl (.cell rfl Tryz.isAgg31 Tryz.sizeOf31 (by assumption) rfl <| .tmp rfl <| .nil) (by simp) ?_
  exact ⟨_, _, _, _, _, _, rfl, f18.to_RIT, f18_1, by assumption, hw⟩
 ·have e1 : I = I' := congrArg (fun r => r.1.1) hd
  have e2 : (dropS Y u 1).1 = Y' := congrArg (fun r => r.1.2.2) hd
  have e3 : X = X' := congrArg (fun r => r.1.2.1) hd
  have e4 : (dropS Y u 1).2 = true := congrArg (fun r => r.2) hd
  have hinc : IncK Y := hok.2.2.2.2
  subst e1; subst e3
  unfold dropS at e2 e4
  by_cases hu : u ∉ Y ∨ Y.length ≤ 1
  ·rw [if_pos hu] at e4; cases e4
  rw [if_neg hu] at e2
  dsimp only at e2
  have hmem : u ∈ Y := Decidable.byContradiction fun h => hu (.inl h)
  rw [← filter_cut hinc hmem] at e2
  subst e2
  refine rk_false rfl ?_
  refine rk_seq ?_
  refine rk_region ?_
  refine wl_p (fun _ => o_eq rfl rfl) ?_
  refine wl_p (fun _ => o_assign rfl) ?_
  refine wl_nil ?_
  refine rk_false rfl ?_
  refine rk_seq ?_
  refine rk_region ?_
  refine wl_p (fun _ => o_eq rfl rfl) ?_
  refine wl_p (fun _ => o_assign rfl) ?_
  refine wl_nil ?_
  refine rk_false rfl ?_
  refine rk_seq ?_
  refine rk_region ?_
  refine wl_p (fun _ => o_eq rfl rfl) ?_
  refine wl_p (fun _ => o_assign rfl) ?_
  refine wl_nil ?_
  refine rk_false rfl ?_
  refine rk_seq ?_
  refine rk_region ?_
  refine wl_p (fun _ => o_eq rfl rfl) ?_
  refine wl_p (fun _ => o_assign rfl) ?_
  refine wl_nil ?_
  refine rk_false rfl ?_
  refine rk_seq ?_
  refine rk_region ?_
  refine wl_p (fun _ => o_eq rfl rfl) ?_
  refine wl_p (fun _ => o_assign rfl) ?_
  refine wl_nil ?_
  refine rk_true rfl ?_
  refine rk_region ?_
  refine wl_p (fun _ => o_faddr (s := 31) (i := 2) (off := 2) Tryz.underlying31 rfl Tryz.sizeOf29 rfl rfl rfl) ?_
  refine wl_r (o_loadbg Tryz.isAgg29 rfl f (by rfl)) ?_
  refine wl_p (fun _ => o_faddr (s := 54) (i := 3) (off := 3) Tryz.underlying54 rfl Tryz.sizeOf42 rfl rfl rfl) ?_
  refine wl_r (o_ldWho rfl f5) ?_
  refine wl_call rfl (C_r22without _ f18_2.to_RKs rfl (by omega)) ?_
  rintro v105 w105 ⟨A105, ⟨c105, ⟨rfl, ⟨f105, b105⟩⟩⟩⟩
  have s105 := b105.size
  replace hw := hw.trans (b105.mono hw.size)
  replace f5 := f5.u b105
  replace f26 := f26.u b105
  replace f29 := f29.u b105
  replace f30 := f30.u b105
  replace f33 := f33.u b105
  replace f33_1 := f33_1.u b105
  replace f18 := f18.u b105
  replace f18_1 := f18_1.u b105
  replace f18_2 := f18_2.u b105
  replace f6 := f6.u b105
  replace f4 := f4.u b105
  replace f := f.u b105
  replace f_1 := f_1.u b105
  refine wl_p (fun _ => o_faddr (s := 31) (i := 2) (off := 2) Tryz.underlying31 rfl Tryz.sizeOf29 rfl rfl rfl) ?_
  refine wl_storeg1 Tryz.sizeOf29 rfl rfl (by rfl) f (by simp) ?_
  rintro w_3 f_2 g_2 e_2
  have s_2 := g_2.size
  replace hw := hw.trans (below_of_grownBy g_2.g hw.size (by omega))
  replace f_1 := f_1.k g_2.g (ap_some (by omega))
  replace f4 := f4.k g_2.g (ap_some (by omega))
  replace f6 := f6.k g_2.g (ap_some (by omega))
  replace f18_2 := f18_2.y g_2 (by decide)
  replace f18_1 := f18_1.y g_2 (by decide)
  replace f18 := f18.y g_2 (by decide)
  replace f33_1 := f33_1.y g_2 (by decide)
  replace f33 := f33.y g_2 (by decide)
  replace f30 := f30.k g_2.g (ap_some (by omega))
  replace f29 := f29.y g_2 (by decide)
  replace f26 := f26.k g_2.g (ap_some (by omega))
  replace f5 := f5.k g_2.g (ap_some (by omega))
  replace f105 := f105.y g_2 (by decide)
  clear f
  refine wl_nil ?_
  refine rk_blk ?_
  refine rk_seq ?_
  refine rk_region ?_
  refine wl_r (o_loadag Tryz.isAgg31 Tryz.sizeOf31 rfl f_2 (by rfl)) ?_
  refine wl_storega Tryz.sizeOf31 rfl rfl (by rfl) (oneCell_of (by rfl)) f6 (by rfl) ?_
  rintro w_4 f g_3 e_3
  have s_3 := g_3.size
  replace hw := hw.trans (below_of_grownBy g_3.g hw.size (by omega))
  replace f105 := f105.y g_3 (by decide)
  replace f5 := f5.k g_3.g (ap_some (by omega))
  replace f26 := f26.k g_3.g (ap_some (by omega))
  replace f29 := f29.y g_3 (by decide)
  replace f30 := f30.k g_3.g (ap_some (by omega))
  replace f33 := f33.y g_3 (by decide)
  replace f33_1 := f33_1.y g_3 (by decide)
  replace f18 := f18.y g_3 (by decide)
  replace f18_1 := f18_1.y g_3 (by decide)
  replace f18_2 := f18_2.y g_3 (by decide)
  replace f4 := f4.k g_3.g (ap_some (by omega))
  replace f_1 := f_1.k g_3.g (ap_some (by omega))
  replace f_2 := f_2.k g_3.g (ap_some (by omega))
  clear f6
  refine wl_p (fun _ => o_assign rfl) ?_
  refine wl_nil ?_
  refine ret_any rfl (.cell rfl Tryz.isAgg31 Tryz.sizeOf31 (by assumption) rfl <| .tmp rfl <| .nil) (by simp) ?_
  exact ⟨_, _, _, _, _, _, rfl, f18.to_RIT, f18_1, by assumption, hw⟩
end Go.Proofs.YtahkeoegbjopfaaGreat
/-
  Contracts for the statements on blocks.
-/
namespace Go.Proofs.YtahkeoegbjopfaaGreat
set_option maxRecDepth 100000
open Go.RowKit
theorem bytesO_le {L : List Opn} {x : By} (h : bytesO L = (x, 0)) : x.length ≤ 1000 := by
 obtain ⟨h1, h2, rfl⟩ := bytesO_ok h
 have : ∀ (M : List Opn), (∀ o ∈ M, okO o = true) → (M.flatMap opB).length ≤ M.length * 71 := fun M => by
  induction M with
  | nil => intro _; simp
  | cons o M ih =>
   intro hM
   have h3 := ih fun x hx => hM x (List.mem_cons_of_mem _ hx)
   have h4 := hM o (List.mem_cons_self ..)
   unfold okO okOp at h4
   simp only [Bool.and_eq_true] at h4
   obtain ⟨h5, h6⟩ := goodS_le h4.2
   have h7 := tailS_le (k := o.1) (u := o.2.2.2) h5 h6
   rw [List.flatMap_cons, List.length_append, List.length_cons]
   have h8 : (opB o).length = (tailS o.1 o.2.1 o.2.2.1 o.2.2.2).length + 1 := rfl
   rw [Nat.succ_mul]
   omega
 have h3 := this L h2
 rw [List.length_cons]
 omega
theorem blkOf_lt (L : List Ded) : LtB (L.map blkOf) := by
 intro b hb
 obtain ⟨d, _, rfl⟩ := List.mem_map.1 hb
 show (bytesO d.2).1.length ≤ 4000000
 obtain ⟨⟨x, e⟩, h⟩ : ∃ r, bytesO d.2 = r := ⟨_, rfl⟩
 rw [h]
 rcases bytesO_err d.2 with h1 | ⟨_, h1⟩
 ·rw [h] at h1
  obtain rfl : e = 0 := h1
  have := bytesO_le h
  show x.length ≤ 4000000
  omega
 ·rw [h] at h1
  obtain rfl : x = [] := h1
  exact Nat.zero_le _
theorem C_light22Y {A : Option Addr} {L : List Ded} {n c : Nat} (w : World) (hL : RDe w A L) (hn : n = L.length) (hl : L.length ≤ 9223372036854775807) (h : LtD L) :
  CallsR Tryz.prog 7 [.slice A n c] w fun v w' => v = .bool true ∧ Below w.heap.size w w' := by
 refine CallsR.mono (C_light22 (c := c) w hL hn hl) ?_
 rintro v w' ⟨b, rfl, h1, h2⟩
 rw [h1.2 h]
 exact ⟨rfl, h2⟩
theorem C_light22N {A : Option Addr} {L : List Ded} {n c : Nat} (w : World) (hL : RDe w A L) (hn : n = L.length) (hl : L.length ≤ 9223372036854775807) (h : ¬LtD L) :
  CallsR Tryz.prog 7 [.slice A n c] w fun v w' => v = .bool false ∧ Below w.heap.size w w' := by
 refine CallsR.mono (C_light22 (c := c) w hL hn hl) ?_
 rintro v w' ⟨b, rfl, h1, h2⟩
 cases b
 ·exact ⟨rfl, h2⟩
 ·exact absurd (h1.1 rfl) h
theorem OwnB.some_ {w : World} {lo hi cp : Nat} {A : Option Addr} {L : List Bk} (h : OwnB w lo hi A cp L) (hl : 0 < L.length) : A = some (A.getD ⟨0, 0, none⟩) := RBk.some_ h.to_RBk hl
section
variable {fn : Func} {F : Ending → World → Prop} {N : Nat} {ks : List K} {ops : Array Oper} {tg : Tags} {l : List Oper} {fr : Fr} {w w0 : World} {ty : TypeId} {pos : String} {aft : Array Edge} {gd : Option (Nat × Bool)} {d0 j o : Nat} {x : Operand} {A : Option Addr} {L : List Opn}
end
end Go.Proofs.YtahkeoegbjopfaaGreat
/-
  Blocks applied: by the document's answer, and by package ops, to any state.
-/
namespace Go.Proofs.YtahkeoegbjopfaaGreat
set_option maxRecDepth 100000
open Go.RowKit
def opsX (S : Stt) (u : Ky) (L : List Opn) : Stt := L.foldl (fun T o => (stepS T u o).1) S
def foldX (S : Stt) (L : List Bk) : Stt := L.foldl (fun T b => opsX T b.1 (readO b.2).1) S
theorem opsX_snoc (S : Stt) (u : Ky) (L : List Opn) (o : Opn) : opsX S u (L ++ [o]) = (stepS (opsX S u L) u o).1 := by simp [opsX]
theorem opsX_ok {u : Ky} : ∀ (L : List Opn) {S : Stt}, OkT S → opsX S u L = opsS S u L
 | [], _, _ => rfl
 | o :: L, S, h => by
  show opsX (stepS S u o).1 u L = opsS (stS S u o).1 u L
  rw [← stS_step h]
  exact opsX_ok L (stS_ok h u o)
theorem opsX_bad {u : Ky} : ∀ (L : List Opn) {S : Stt}, ¬OkT S → opsX S u L = S
 | [], _, _ => rfl
 | o :: L, S, h => by
  show opsX (stepS S u o).1 u L = S
  rw [show stepS S u o = (S, false) by unfold stepS; rw [if_neg h]]
  exact opsX_bad L h
theorem foldX_snoc (S : Stt) (L : List Bk) (b : Bk) : foldX S (L ++ [b]) = opsX (foldX S L) b.1 (readO b.2).1 := by simp [foldX]
theorem foldX_ok : ∀ (L : List Bk) {S : Stt}, OkT S → foldX S L = foldS S L
 | [], _, _ => rfl
 | b :: L, S, h => by
  show foldX (opsX S b.1 (readO b.2).1) L = foldS (blockS S b) L
  rw [opsX_ok _ h]
  exact foldX_ok L (blockS_ok h b)
theorem foldX_bad : ∀ (L : List Bk) {S : Stt}, ¬OkT S → foldX S L = S
 | [], _, _ => rfl
 | b :: L, S, h => by
  show foldX (opsX S b.1 (readO b.2).1) L = S
  rw [opsX_bad _ h]
  exact foldX_bad L h
structure SmS (S : Stt) : Prop where
 l1 : S.1.length ≤ 2000
 l2 : S.2.1.length ≤ 2000
 l3 : S.2.2.length ≤ 2000
 lt : LtI S.1
theorem OkT.sm {S : Stt} (h : OkT S) : SmS S := by
 obtain ⟨⟨h1, h2⟩, ⟨_, h3⟩, h4, _⟩ := h
 exact ⟨by omega, by omega, by omega, h4.lt⟩
theorem SmS.ops {S : Stt} (h : SmS S) (u : Ky) (L : List Opn) : SmS (opsX S u L) := by
 by_cases ho : OkT S
 ·rw [opsX_ok _ ho]; exact (opsS_ok _ ho).sm
 ·rw [opsX_bad _ ho]; exact h
theorem SmS.fold {S : Stt} (h : SmS S) (L : List Bk) : SmS (foldX S L) := by
 by_cases ho : OkT S
 ·rw [foldX_ok _ ho]; exact (foldS_ok _ ho).sm
 ·rw [foldX_bad _ ho]; exact h
structure ApplyR (I : List (By × By)) (X Y : List Ky) (u : Ky) (p : By) (I' : List (By × By)) (X' Y' : List Ky) : Prop where
 h : opsX (I, X, Y) u (readO p).1 = (I', X', Y')
set_option maxHeartbeats 8000000 in
set_option maxRecDepth 100000 in
theorem C_r22Apply {A B C D N0 : Option Addr} {I I' : List (By × By)} {X Y X' Y' : List Ky} {p : By} {M G : List Value} {n c n2 c2 n3 c3 nc m cd : Nat} {u : Ky} (w : World) (hS : BkS M G) (hr : ApplyR I X Y u p I' X' Y') (hA : RIT w A I) (hB : RKT w B X) (hC : RKT w C Y) (hD : Rd w D p) (hm : m = p.length) (hn : n = I.length) (hn2 : n2 = X.length) (hn3 : n3 = Y.length) (hsm : SmS (I, X, Y)) (hp : p.length ≤ 4000000) :
  CallsR Tryz.prog 24 [.agg #[.slice A n c, .slice B n2 c2, .slice C n3 c3], .agg (bkC u M N0 nc D m cd G).toArray] w fun v w' => ∃ A' c' B' d' C' e', v = .agg #[.slice A' I'.length c', .slice B' X'.length d', .slice C' Y'.length e'] ∧ RIT w' A' I' ∧ RKT w' B' X' ∧ RKT w' C' Y' ∧ Below w.heap.size w w' := by
 subst hn; subst hn2; subst hn3; subst hm
 obtain ⟨hr⟩ := hr
 obtain ⟨⟨U, eU⟩, hU⟩ : ∃ r, readO p = r := ⟨_, rfl⟩
 have er : ReadR p U eU := ⟨hU⟩
 have hUl : U.length ≤ 8 := by have := readO_len p; rwa [hU] at this
 have hUo : ∀ o ∈ U, o.2.1.length ≤ 4000000 ∧ o.2.2.1.length ≤ 4000000 := by have := readO_ok p; rwa [hU] at this
 rw [hU] at hr
 dsimp only at hr
 refine callsR Tryz.func24 rfl rfl (by kernel_rfl) rfl ?_
 have hw := Below.refl w.heap.size w
 refine rk_seq ?_
 refine rk_region ?_
 refine wl_boxg [_, _, _] rfl (by rfl) ?_
 rintro g2 w2 f2 b2 i2 i2_1
 have s2 := b2.size
 replace hw := hw.trans (b2.mono hw.size)
 refine wl_boxg _ rfl (by rfl) ?_
 rintro g3 w3 f3 b3 i3 i3_1
 have s3 := b3.size
 replace hw := hw.trans (b3.mono hw.size)
 replace f2 := f2.u b3
 refine wl_allocg [_, _, _] Tryz.zeroValue31 (by rfl) ?_
 rintro g4 w4 f4 b4 i4 i4_1
 have s4 := b4.size
 replace hw := hw.trans (b4.mono hw.size)
 replace f2 := f2.u b4
 replace f3 := f3.u b4
 refine wl_nil ?_
 refine rk_seq ?_
 refine rk_region ?_
 refine wl_p (fun _ => o_faddr (s := 49) (i := 4) (off := 66) Tryz.underlying49 rfl Tryz.sizeOf39 rfl rfl rfl) ?_
 refine wl_r (o_ldBkDt rfl f3 (by omega)) ?_
 refine wl_call rfl (C_r22Read _ er (hD.u hw) rfl (by omega)) ?_
 rintro v11 w11 ⟨A11, ⟨c11, ⟨rfl, ⟨f11, b11⟩⟩⟩⟩
 have qf11 := f11.cap
 have s11 := b11.size
 replace hw := hw.trans (b11.mono hw.size)
 replace f3 := f3.u b11
 replace f2 := f2.u b11
 replace f4 := f4.u b11
 refine wl_p (fun _ => o_move rfl) ?_
 refine wl_p (fun _ => o_ext20 rfl) ?_
 refine wl_p (fun _ => o_ext21 rfl) ?_
 refine wl_p (fun _ => o_assign rfl) ?_
 refine wl_p (fun _ => o_assign rfl) ?_
 refine wl_nil ?_
 refine rk_seq ?_
 refine rk_seq ?_
 refine rk_region ?_
 refine wl_p (fun _ => o_assign rfl) ?_
 refine wl_nil ?_
 refine rk_block ?_
 refine rk_joinf (fun fb fr W => ∃ (Aa Ba Ca : Option Addr) (ca da ea : Nat), fr = [] ++ fb.drop 1 ∧ Blk W g2 31 [.slice Aa I'.length ca, .slice Ba X'.length da, .slice Ca Y'.length ea] ∧ (RIT W Aa I' ∧ RKT W Ba X' ∧ RKT W Ca Y') ∧ Blk W g4 31 [.slice none 0 0, .slice none 0 0, .slice none 0 0] ∧ Below w.heap.size w W) ?_ (fun ks hj => ?_)
 rotate_left
 ·refine rk_loopf (fun fb k fr W => ∃ (j : Nat) (v : Int) (Ij : List (By × By)) (Xj Yj : List Ky) (Aj Bj Cj : Option Addr) (cj dj ej : Nat), fr = [(7, .int .i64 v)] ++ fb.drop 1 ∧ v = j ∧ j ≤ U.length ∧ k = U.length - j ∧ opsX (I, X, Y) u (U.take j) = (Ij, Xj, Yj) ∧ OwnO W w4.heap.size w11.heap.size A11 c11 U ∧ Blk W g2 31 [.slice Aj Ij.length cj, .slice Bj Xj.length dj, .slice Cj Yj.length ej] ∧ (RIT W Aj Ij ∧ RKT W Bj Xj ∧ RKT W Cj Yj) ∧ Blk W g3 49 (bkC u M N0 nc D p.length cd G) ∧ Blk W g4 31 [.slice none 0 0, .slice none 0 0, .slice none 0 0] ∧ w11.heap.size ≤ W.heap.size ∧ Below w.heap.size w W) (n := U.length) (Fr.le_of (by kernel_rfl) (by kernel_rfl) (by repeat' constructor)) ⟨0, _, I, X, Y, A, B, C, c, c2, c3, rfl, rfl, by omega, rfl, rfl, f11, f2, ⟨hA.u hw, hB.u hw, hC.u hw⟩, f3, f4, Nat.le_refl _, hw⟩ ?_
  clear hw f11 f2 f3 f4
  rintro k fr W ⟨j, v, Ij, Xj, Yj, Aj, Bj, Cj, cj, dj, ej, rfl, rfl, hjU, rfl, hIj, f11, f2, ⟨m1, m2, m3⟩, f3, f4, hsz, hw⟩
  have shw := hw.size
  have hsj := hsm.ops u (U.take j)
  rw [hIj] at hsj
  obtain ⟨z1, z2, z3, z4⟩ := hsj
  dsimp only at z1 z2 z3 z4
  first | refine rk_frame (by simp only [List.cons_append, List.nil_append, List.drop_succ_cons, List.drop_zero]; rfl) ?_ | refine wl_frame (by simp only [List.cons_append, List.nil_append, List.drop_succ_cons, List.drop_zero]; rfl) ?_
  by_cases hjl : j < U.length
  ·obtain rfl : eU = 0 := by
    by_cases he : eU = 0
    ·exact he
    ·rw [readO_nil hU he] at hjl
     exact absurd hjl (Nat.not_lt_zero _)
   obtain ⟨n2, n3⟩ := hUo _ (List.getElem_mem hjl)
   obtain ⟨⟨⟨I1, X1, Y1⟩, b⟩, hst⟩ : ∃ r, stepS (Ij, Xj, Yj) u (U[j].1, U[j].2.1, U[j].2.2.1, U[j].2.2.2) = r := ⟨_, rfl⟩
   have e6 : StepR Ij Xj Yj u U[j].1 U[j].2.1 U[j].2.2.1 U[j].2.2.2 I1 X1 Y1 b := ⟨hst⟩
   have hnx : opsX (I, X, Y) u (U.take (j + 1)) = (I1, X1, Y1) := by
    rw [List.take_succ_eq_append_getElem hjl, opsX_snoc, hIj]
    exact congrArg Prod.fst hst
   refine rk_seq ?_
   refine rk_seq ?_
   refine rk_region ?_
   refine wl_p (fun _ => o_move rfl) ?_
   refine wl_p (fun _ => o_move rfl) ?_
   refine wl_p (fun _ => o_len (t := 35) Tryz.underlying35 rfl) ?_
   refine wl_p (fun _ => o_lt rfl rfl) ?_
   refine wl_p (fun _ => o_move rfl) ?_
   refine wl_know 18 true rfl (decide_eq_true (by omega)) ?_
   refine wl_p (fun _ => o_move rfl) ?_
   refine wl_p (fun _ => o_eq rfl rfl) ?_
   refine wl_p (fun _ => o_pick_t rfl rfl) ?_
   refine wl_nil ?_
   refine rk_true rfl ?_
   refine rk_skip ?_
   refine rk_seq ?_
   refine rk_block ?_
   refine rk_draw (id := 5) (none) [0, 0, 2, 0, 0, 24, 32, 69, 128, 256, 256, 1023] [0, 0, 2, 0, 0, 24, 56, 127, 255, 511, 511, 1023] 2176 0 [(.r, 0), (.p, 1), (.r, 2), (.p, 3), (.p, 4), (.p, 5), (.r, 6), (.l, 7), (.p, 8), (.p, 9), (.p, 10), (.l, 11)] (by kernel_rfl) (by kernel_rfl) (by kernel_rfl) (by kernel_rfl) (by kernel_rfl) ?_
   replace hw := hw.drew
   replace f4 := f4.d
   replace f3 := f3.d
   replace m3 := m3.d
   replace m2 := m2.d
   replace m1 := m1.d
   replace f2 := f2.d
   replace f11 := f11.d
   refine wl_r (o_loadag Tryz.isAgg31 Tryz.sizeOf31 rfl f2 (by rfl)) ?_
   refine wl_p (fun _ => o_faddr (s := 49) (i := 0) (off := 0) Tryz.underlying49 rfl Tryz.sizeOf42 rfl rfl rfl) ?_
   refine wl_r (o_ldBkW rfl f3) ?_
   refine wl_p (fun _ => o_move rfl) ?_
   refine wl_p (fun _ => o_move rfl) ?_
   refine wl_p (fun _ => (o_iaddrA (j) Tryz.underlying35 Tryz.sizeOf54 rfl rfl rfl (f11.some_ (by omega)) (by omega))) ?_
   refine wl_ldOpT rfl f11.to_ROT (by omega) ?_
   rintro K31 c31 V31 d31 f31 f31_1 i31 i31_1 i31_2 i31_3 e31
   refine wl_call rfl (C_r22Step _ e6 m1 m2 m3 f31.to_Rd f31_1.to_Rd rfl rfl rfl rfl rfl (by omega) (by omega) (by omega) (by omega) (by omega) (by omega)) ?_
   rintro v32 w32 ⟨A32, ⟨c32, ⟨B32, ⟨d32, ⟨C32, ⟨e32, ⟨rfl, ⟨f32, ⟨f32_1, ⟨f32_2, b32⟩⟩⟩⟩⟩⟩⟩⟩⟩⟩
   simp only [drew_size] at b32
   have s32 := b32.size
   simp only [drew_size] at s32
   replace hw := hw.trans (b32.mono hw.size)
   replace f31_1 := f31_1.u b32
   replace f31 := f31.u b32
   replace f11 := f11.u b32
   replace f2 := f2.u b32
   replace m1 := m1.u b32
   replace m2 := m2.u b32
   replace m3 := m3.u b32
   replace f3 := f3.u b32
   replace f4 := f4.u b32
   refine wl_p (fun _ => o_move rfl) ?_
   refine wl_p (fun _ => o_ext20 rfl) ?_
   refine wl_p (fun _ => o_ext21 rfl) ?_
   refine wl_storega Tryz.sizeOf31 rfl rfl (by rfl) (oneCell_of (by rfl)) f2 (by rfl) ?_
   rintro w_1 f g e
   have s := g.size
   replace hw := hw.trans (below_of_grownBy g.g hw.size (by omega))
   replace f4 := f4.k g.g (ap_some (by omega))
   replace f3 := f3.k g.g (ap_some (by omega))
   replace m3 := m3.y g (by decide)
   replace m2 := m2.y g (by decide)
   replace m1 := m1.y g (by decide)
   replace f11 := f11.y g (by decide)
   replace f31 := f31.y g (by decide)
   replace f31_1 := f31_1.y g (by decide)
   replace f32_2 := f32_2.y g (by decide)
   replace f32_1 := f32_1.y g (by decide)
   replace f32 := f32.y g (by decide)
   clear f2
   refine wl_nild ?_
   refine rk_blk ?_
   refine rk_region ?_
   refine wl_p (fun _ => o_move rfl) ?_
   refine wl_p (fun _ => o_add rfl rfl (by omega) (by omega)) ?_
   refine wl_p (fun _ => o_assign rfl) ?_
   refine wl_nil ?_
   exact rk_againf (Fr.le_of (by kernel_rfl) (by kernel_rfl) (by repeat' constructor)) ⟨j + 1, (j : Int) + 1, I1, X1, Y1, _, _, _, _, _, _, rfl, by omega, by omega, rfl, hnx, f11, by assumption, ⟨f32, f32_1, f32_2⟩, f3, f4, by omega, hw⟩ (by omega)
  ·refine rk_seq ?_
   refine rk_seq ?_
   refine rk_region ?_
   refine wl_p (fun _ => o_move rfl) ?_
   refine wl_p (fun _ => o_move rfl) ?_
   refine wl_p (fun _ => o_len (t := 35) Tryz.underlying35 rfl) ?_
   refine wl_p (fun _ => o_lt rfl rfl) ?_
   refine wl_p (fun _ => o_move rfl) ?_
   refine wl_know 18 false rfl (decide_eq_false (by omega)) ?_
   refine wl_off ?_
   refine wl_off ?_
   refine wl_p (fun _ => o_pick_f rfl rfl) ?_
   refine wl_nil ?_
   refine rk_false rfl ?_
   refine rk_exit rfl ?_
   obtain rfl : j = U.length := by omega
   rw [List.take_length, hr] at hIj
   injection hIj with x1 hIj
   injection hIj with x2 x3
   subst x1; subst x2; subst x3
   exact rk_tof hj (Fr.le_of (by kernel_rfl) (by kernel_rfl) (by repeat' constructor)) ⟨_, _, _, _, _, _, rfl, f2, ⟨m1, m2, m3⟩, f4, hw⟩
 clear hw f11 f2 f3 f4
 rintro fr W ⟨Aa, Ba, Ca, ca, da, ea, rfl, f2, ⟨m1, m2, m3⟩, f4, hw⟩
 have shw := hw.size
 first | refine rk_frame (by simp only [List.cons_append, List.nil_append, List.drop_succ_cons, List.drop_zero]; rfl) ?_ | refine wl_frame (by simp only [List.cons_append, List.nil_append, List.drop_succ_cons, List.drop_zero]; rfl) ?_
 refine rk_seq ?_
 refine rk_region ?_
 refine wl_r (o_loadag Tryz.isAgg31 Tryz.sizeOf31 rfl f2 (by rfl)) ?_
 refine wl_storega Tryz.sizeOf31 rfl rfl (by rfl) (oneCell_of (by rfl)) f4 (by rfl) ?_
 rintro w_1 f g e
 have s := g.size
 replace hw := hw.trans (below_of_grownBy g.g hw.size (by omega))
 replace m3 := m3.y g (by decide)
 replace m2 := m2.y g (by decide)
 replace m1 := m1.y g (by decide)
 replace f2 := f2.k g.g (ap_some (by omega))
 clear f4
 refine wl_nil ?_
 refine ret_cell rfl rfl Tryz.isAgg31 Tryz.sizeOf31 (by assumption) rfl ?_
 exact ⟨_, _, _, _, _, _, rfl, m1, m2, m3, hw⟩
set_option maxRecDepth 100000 in
theorem K_foldBad {A B C D : Option Addr} {I : List (By × By)} {X Y : List Ky} {n c m d q e r s : Nat} (w : World) (hok : ¬OkSt I X Y) (hA : RI w A I) (hB : RKs w B X) (hC : RKs w C Y) (hn : n = I.length) (hm : m = X.length) (hq : q = Y.length) (hl : I.length ≤ 400000) (hl2 : X.length ≤ 400000) (hl3 : Y.length ≤ 400000) (hL : LtI I) :
  CallsR Tryz.prog 10 [.agg #[.slice A n c, .slice B m d, .slice C q e], .slice D r s] w fun v w' => ∃ A' c' B' d' C' e', v = .agg #[.slice A' I.length c', .slice B' X.length d', .slice C' Y.length e'] ∧ OwnI w' w.heap.size w'.heap.size A' c' I ∧ OwnKs w' w.heap.size w'.heap.size B' d' X ∧ OwnKs w' w.heap.size w'.heap.size C' e' Y ∧ Below w.heap.size w w' := by
 subst hn; subst hm; subst hq
 refine callsR Tryz.func10 rfl rfl (by kernel_rfl) rfl ?_
 have hw := Below.refl w.heap.size w
 refine rk_seq ?_
 refine rk_region ?_
 refine wl_boxg [_, _, _] rfl (by rfl) ?_
 rintro g2 w2 f2 b2 i2 i2_1
 have s2 := b2.size
 replace hw := hw.trans (b2.mono hw.size)
 refine wl_allocg [_, _, _] Tryz.zeroValue31 (by rfl) ?_
 rintro g4 w4 f4 b4 i4 i4_1
 have s4 := b4.size
 replace hw := hw.trans (b4.mono hw.size)
 replace f2 := f2.u b4
 refine wl_nil ?_
 refine rk_seq ?_
 refine rk_region ?_
 refine wl_r (o_loadag Tryz.isAgg31 Tryz.sizeOf31 rfl f2 (by rfl)) ?_
 refine wl_call rfl (C_clone _ (hA.u hw) (hB.u hw) (hC.u hw) rfl rfl rfl (by omega) (by omega) (by omega) (by omega)) ?_
 rintro v12 w12 ⟨A12, ⟨c12, ⟨B12, ⟨d12, ⟨C12, ⟨e12, ⟨m112, ⟨m212, ⟨rfl, ⟨f12, ⟨f12_1, ⟨f12_2, ⟨i12, ⟨i12_1, ⟨i12_2, b12⟩⟩⟩⟩⟩⟩⟩⟩⟩⟩⟩⟩⟩⟩⟩
 have qf12 := f12.cap
 have qf12_1 := f12_1.cap
 have qf12_2 := f12_2.cap
 have s12 := b12.size
 replace hw := hw.trans (b12.mono hw.size)
 replace f2 := f2.u b12
 replace f4 := f4.u b12
 refine wl_storega Tryz.sizeOf31 rfl rfl (by rfl) (oneCell_of (by rfl)) f2 (by rfl) ?_
 rintro w_1 f g e_1
 have s_1 := g.size
 replace hw := hw.trans (below_of_grownBy g.g hw.size (by omega))
 replace f4 := f4.k g.g (ap_some (by omega))
 replace f12_2 := f12_2.y g (by decide)
 replace f12_1 := f12_1.y g (by decide)
 replace f12 := f12.y g (by decide)
 clear f2
 refine wl_nil ?_
 refine rk_seq ?_
 refine rk_seq ?_
 refine rk_region ?_
 refine wl_r (o_loadag Tryz.isAgg31 Tryz.sizeOf31 rfl f (by rfl)) ?_
 refine wl_call rfl (C_checkStateBad _ f12.to_RI f12_1.to_RKs f12_2.to_RKs rfl rfl rfl (by omega) (by omega) (by omega) (by omega) (by omega)) ?_
 rintro v14 w14 ⟨rfl, b14⟩
 have s14 := b14.size
 replace hw := hw.trans (b14.mono hw.size)
 replace f12 := f12.u b14
 replace f12_1 := f12_1.u b14
 replace f12_2 := f12_2.u b14
 replace f4 := f4.u b14
 replace f := f.u b14
 refine wl_p (fun _ => o_ne rfl rfl) ?_
 refine wl_nil ?_
 refine rk_true rfl ?_
 refine rk_seq ?_
 refine rk_region ?_
 refine wl_r (o_loadag Tryz.isAgg31 Tryz.sizeOf31 rfl f (by rfl)) ?_
 refine wl_storega Tryz.sizeOf31 rfl rfl (by rfl) (oneCell_of (by rfl)) f4 (by rfl) ?_
 rintro w_2 f_1 g_1 e_2
 have s_2 := g_1.size
 replace hw := hw.trans (below_of_grownBy g_1.g hw.size (by omega))
 replace f := f.k g_1.g (ap_some (by omega))
 replace f12_2 := f12_2.y g_1 (by decide)
 replace f12_1 := f12_1.y g_1 (by decide)
 replace f12 := f12.y g_1 (by decide)
 clear f4
 refine wl_nil ?_
 refine ret_cell rfl rfl Tryz.isAgg31 Tryz.sizeOf31 (by assumption) rfl ?_
 exact ⟨_, _, _, _, _, _, rfl, f12.base (by omega) (by omega), f12_1.base (by omega) (by omega), f12_2.base (by omega) (by omega), hw⟩
structure FoldXR (I : List (By × By)) (X Y : List Ky) (L : List Bk) (I' : List (By × By)) (X' Y' : List Ky) : Prop where
 h : foldX (I, X, Y) L = (I', X', Y')
theorem C_foldXN {A B C D : Option Addr} {I I' : List (By × By)} {X Y X' Y' : List Ky} {L : List Bk} {n c m d q e r s : Nat} (w : World) (hr0 : FoldXR I X Y L I' X' Y') (hA : RI w A I) (hB : RKs w B X) (hC : RKs w C Y) (hD : RBk w D L) (hn : n = I.length) (hm : m = X.length) (hq : q = Y.length) (hr : r = L.length) (hsm : SmS (I, X, Y)) (hl4 : L.length ≤ 40000) (hLB : LtB L) :
  CallsR Tryz.prog 10 [.agg #[.slice A n c, .slice B m d, .slice C q e], .slice D r s] w fun v w' => ∃ A' c' B' d' C' e', v = .agg #[.slice A' I'.length c', .slice B' X'.length d', .slice C' Y'.length e'] ∧ OwnI w' w.heap.size w'.heap.size A' c' I' ∧ OwnKs w' w.heap.size w'.heap.size B' d' X' ∧ OwnKs w' w.heap.size w'.heap.size C' e' Y' ∧ Below w.heap.size w w' := by
 obtain ⟨h1, h2, h3, h4⟩ := hsm
 dsimp only at h1 h2 h3 h4
 by_cases hok : OkSt I X Y
 ·refine C_foldN w hA hB hC hD ⟨?_⟩ hn hm hq hr (by omega) (by omega) (by omega) h4 hl4 hLB hok
  rw [← foldX_ok _ hok]
  exact hr0.h
 ·have h := K_foldBad (D := D) (r := r) (s := s) (c := c) (d := d) (e := e) w hok hA hB hC hn hm hq (by omega) (by omega) (by omega) h4
  have e1 := hr0.h
  rw [foldX_bad _ hok] at e1
  injection e1 with e1 e2
  injection e2 with e2 e3
  subst e1; subst e2; subst e3
  exact h
set_option maxRecDepth 100000 in
theorem C_applyX {A B C D N0 : Option Addr} {I I' : List (By × By)} {X Y X' Y' : List Ky} {p : By} {M G : List Value} {n c n2 c2 n3 c3 nc m cd : Nat} {u : Ky} (w : World) (hS : BkS M G) (hr : ApplyR I X Y u p I' X' Y') (hA : RI w A I) (hB : RKs w B X) (hC : RKs w C Y) (hD : RdT w D p) (hm : m = p.length) (hcd : p.length ≤ cd) (hcm : cd ≤ maxLen) (hn : n = I.length) (hn2 : n2 = X.length) (hn3 : n3 = Y.length) (hsm : SmS (I, X, Y)) (hp : p.length ≤ 4000000) :
  CallsR Tryz.prog 22 [.agg #[.slice A n c, .slice B n2 c2, .slice C n3 c3], .agg (bkC u M N0 nc D m cd G).toArray] w fun v w' => ∃ A' c' B' d' C' e', v = .agg #[.slice A' I'.length c', .slice B' X'.length d', .slice C' Y'.length e'] ∧ OwnI w' w.heap.size w'.heap.size A' c' I' ∧ OwnKs w' w.heap.size w'.heap.size B' d' X' ∧ OwnKs w' w.heap.size w'.heap.size C' e' Y' ∧ Below w.heap.size w w' := by
 subst hn; subst hn2; subst hn3; subst hm
 have e0 : FoldXR I X Y [(u, p)] I' X' Y' := ⟨hr.h⟩
 have hLB : LtB [(u, p)] := fun b hb => by rw [List.mem_singleton] at hb; subst hb; exact hp
 refine callsR Tryz.func22 rfl rfl (by kernel_rfl) rfl ?_
 have hw := Below.refl w.heap.size w
 refine rk_seq ?_
 refine rk_region ?_
 refine wl_boxg [_, _, _] rfl (by rfl) ?_
 rintro g2 w2 f2 b2 i2 i2_1
 have s2 := b2.size
 replace hw := hw.trans (b2.mono hw.size)
 refine wl_boxg _ rfl (by rfl) ?_
 rintro g3 w3 f3 b3 i3 i3_1
 have s3 := b3.size
 replace hw := hw.trans (b3.mono hw.size)
 replace f2 := f2.u b3
 refine wl_allocg [_, _, _] Tryz.zeroValue31 (by rfl) ?_
 rintro g4 w4 f4 b4 i4 i4_1
 have s4 := b4.size
 replace hw := hw.trans (b4.mono hw.size)
 replace f2 := f2.u b4
 replace f3 := f3.u b4
 refine wl_nil ?_
 refine rk_seq ?_
 refine rk_region ?_
 refine wl_r (o_loadag Tryz.isAgg31 Tryz.sizeOf31 rfl f2 (by rfl)) ?_
 refine wl_r (o_ldBkA rfl f3 (by omega)) ?_
 refine wl_litBk1 (by rfl) rfl (by omega) (hD.u hw) rfl (by omega) (by omega) (by rfl) ?_
 rintro A7 w7 f7 b7
 have qf7 := f7.cap
 have s7 := b7.size
 replace hw := hw.trans (b7.mono hw.size)
 replace f3 := f3.u b7
 replace f2 := f2.u b7
 replace f4 := f4.u b7
 refine wl_call rfl (C_foldXN _ e0 (hA.u hw) (hB.u hw) (hC.u hw) f7.to_RBk rfl rfl rfl (by rfl) (by omega) (by omega) (by omega)) ?_
 rintro v8 w8 ⟨A8, ⟨c8, ⟨B8, ⟨d8, ⟨C8, ⟨e8, ⟨rfl, ⟨f8, ⟨f8_1, ⟨f8_2, b8⟩⟩⟩⟩⟩⟩⟩⟩⟩⟩
 have qf8 := f8.cap
 have qf8_1 := f8_1.cap
 have qf8_2 := f8_2.cap
 have s8 := b8.size
 replace hw := hw.trans (b8.mono hw.size)
 replace f4 := f4.u b8
 replace f2 := f2.u b8
 replace f3 := f3.u b8
 replace f7 := f7.u b8
 refine wl_storega Tryz.sizeOf31 rfl rfl (by rfl) (oneCell_of (by rfl)) f4 (by rfl) ?_
 rintro w_1 f g e
 have s := g.size
 replace hw := hw.trans (below_of_grownBy g.g hw.size (by omega))
 replace f7 := f7.y g (by decide)
 replace f3 := f3.k g.g (ap_some (by omega))
 replace f2 := f2.k g.g (ap_some (by omega))
 replace f8_2 := f8_2.y g (by decide)
 replace f8_1 := f8_1.y g (by decide)
 replace f8 := f8.y g (by decide)
 clear f4
 refine wl_nil ?_
 refine ret_cell rfl rfl Tryz.isAgg31 Tryz.sizeOf31 (by assumption) rfl ?_
 exact ⟨_, _, _, _, _, _, rfl, f8.base (by omega) (by omega), f8_1.base (by omega) (by omega), f8_2.base (by omega) (by omega), hw⟩
end Go.Proofs.YtahkeoegbjopfaaGreat
