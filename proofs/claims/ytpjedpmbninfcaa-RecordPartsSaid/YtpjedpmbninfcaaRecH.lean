/-
  Walks of package record: records that can be read one after the other.
-/
import Derived.Test.YtpjedpmbninfcaaRecG
import Derived.Test.YtpjedpmbninfcaaConcE
import Derived.Test.YtpjedpmbninfcaaRange
import Derived.Shelf.Abstract
namespace Go.Proofs.Ytpjedpmbninfcaa
open Go.RowKit
theorem list32 {c : By} (h : c.length = 32) : ∃ a0 a1 a2 a3 a4 a5 a6 a7 a8 a9 b0 b1 b2 b3 b4 b5 b6 b7 b8 b9 c0 c1 c2 c3 c4 c5 c6 c7 c8 c9 d0 d1, c = [a0, a1, a2, a3, a4, a5, a6, a7, a8, a9, b0, b1, b2, b3, b4, b5, b6, b7, b8, b9, c0, c1, c2, c3, c4, c5, c6, c7, c8, c9, d0, d1] := by
  have step : ∀ {n : Nat} {l : By}, l.length = n + 1 → ∃ a r, l = a :: r ∧ r.length = n := fun {n l} h => by
    cases l with
    | nil => simp at h
    | cons a r => exact ⟨a, r, rfl, by simpa using h⟩
  obtain ⟨a0, r0, e0, h0⟩ := step h
  obtain ⟨a1, r1, e1, h1⟩ := step h0
  obtain ⟨a2, r2, e2, h2⟩ := step h1
  obtain ⟨a3, r3, e3, h3⟩ := step h2
  obtain ⟨a4, r4, e4, h4⟩ := step h3
  obtain ⟨a5, r5, e5, h5⟩ := step h4
  obtain ⟨a6, r6, e6, h6⟩ := step h5
  obtain ⟨a7, r7, e7, h7⟩ := step h6
  obtain ⟨a8, r8, e8, h8⟩ := step h7
  obtain ⟨a9, r9, e9, h9⟩ := step h8
  obtain ⟨b0, r10, e10, h10⟩ := step h9
  obtain ⟨b1, r11, e11, h11⟩ := step h10
  obtain ⟨b2, r12, e12, h12⟩ := step h11
  obtain ⟨b3, r13, e13, h13⟩ := step h12
  obtain ⟨b4, r14, e14, h14⟩ := step h13
  obtain ⟨b5, r15, e15, h15⟩ := step h14
  obtain ⟨b6, r16, e16, h16⟩ := step h15
  obtain ⟨b7, r17, e17, h17⟩ := step h16
  obtain ⟨b8, r18, e18, h18⟩ := step h17
  obtain ⟨b9, r19, e19, h19⟩ := step h18
  obtain ⟨c0, r20, e20, h20⟩ := step h19
  obtain ⟨c1, r21, e21, h21⟩ := step h20
  obtain ⟨c2, r22, e22, h22⟩ := step h21
  obtain ⟨c3, r23, e23, h23⟩ := step h22
  obtain ⟨c4, r24, e24, h24⟩ := step h23
  obtain ⟨c5, r25, e25, h25⟩ := step h24
  obtain ⟨c6, r26, e26, h26⟩ := step h25
  obtain ⟨c7, r27, e27, h27⟩ := step h26
  obtain ⟨c8, r28, e28, h28⟩ := step h27
  obtain ⟨c9, r29, e29, h29⟩ := step h28
  obtain ⟨d0, r30, e30, h30⟩ := step h29
  obtain ⟨d1, r31, e31, h31⟩ := step h30
  obtain rfl := List.length_eq_zero_iff.1 h31
  subst e31
  subst e30
  subst e29
  subst e28
  subst e27
  subst e26
  subst e25
  subst e24
  subst e23
  subst e22
  subst e21
  subst e20
  subst e19
  subst e18
  subst e17
  subst e16
  subst e15
  subst e14
  subst e13
  subst e12
  subst e11
  subst e10
  subst e9
  subst e8
  subst e7
  subst e6
  subst e5
  subst e4
  subst e3
  subst e2
  subst e1
  subst e0
  exact ⟨_, _, _, _, _, _, _, _, _, _, _, _, _, _, _, _, _, _, _, _, _, _, _, _, _, _, _, _, _, _, _, _, rfl⟩
/-- A mark's cells. -/
def cMark (n : Int) (c : By) : List Value := .int .i64 n :: B8 c
theorem cMark_len {n : Int} {c : By} (h : c.length = 32) : (cMark n c).length = 33 := by simp [cMark, B8_length, h]
theorem Try.build_mark {c : By} (h : c.length = 32) (n : Int) (w : World) : (Instr.build 59 ([0, 1].zip [Value.int .i64 n, Value.agg (B8 c).toArray]).toArray).run Try.prog w = .ok (.agg (cMark n c).toArray) w := by
  obtain ⟨a0, a1, a2, a3, a4, a5, a6, a7, a8, a9, b0, b1, b2, b3, b4, b5, b6, b7, b8, b9, c0, c1, c2, c3, c4, c5, c6, c7, c8, c9, d0, d1, rfl⟩ := list32 h
  kernel_rfl
section
variable {N : Nat} {fr : Fr} {w : World} {ty : TypeId} {x y : Operand} {n : Int} {c : By}
--@ rule! build p o_buildMark
theorem o_buildMark (hx : fr.ev x = some (.int .i64 n)) (hy : fr.ev y = some (.agg (B8 c).toArray)) (hc : c.length = 32) : OpV Try.prog N fr w (.build 59 #[(0, x), (1, y)]) ty (.agg (cMark n c).toArray) w :=
  o_build (is := [0, 1]) (xs := [x, y]) (vs := [.int .i64 n, .agg (B8 c).toArray]) (by simp [Fr.evs, hx, hy]) (Try.build_mark hc n)
end
/-- What each hands on: a record, where its Data lies, the mark. -/
abbrev Ev := Rc × (Option Addr × Nat) × (Nat × By)
def encE (x : Ev) : Array Value := #[.agg #[.int .u8 (x.1.1.toNat : Int), .slice x.2.1.1 x.1.2.length x.2.1.2], .agg (cMark x.2.2.1 x.2.2.2).toArray]
def ydE (pre : List Ev) (x : Ev) (w : World) : Prop := RdT w x.2.1.1 x.1.2 ∧ x.1.2.length ≤ x.2.1.2 ∧ x.2.1.2 ≤ maxLen ∧ x.2.2.2.length = 32 ∧ pre.length ≤ 400000
theorem bytesAll_ge : ∀ (d : By) (l : List Rc), l.length ≤ (bytesAll d l).length
  | _, [] => Nat.zero_le _
  | d, r :: l => by
    have := bytesAll_ge (nextB d r) l
    rw [bytesAll, List.length_append, bytesR_len, List.length_cons]; omega
/-- The last mark. -/
def lastE (c : By) (l : List Ev) : Nat × By := ((l.getLast?).map fun x => x.2.2).getD (0, c)
theorem lastE_snoc (c : By) (l : List Ev) (x : Ev) : lastE c (l ++ [x]) = x.2.2 := by simp [lastE]
/-- What lies below B is still there, but for the blocks X. -/
structure KeepX (B : Nat) (X : Nat → Prop) (w w' : World) : Prop where
  os : w'.os = w.os
  tape : w'.tape = w.tape
  output : w'.output = w.output
  size : w.heap.size ≤ w'.heap.size
  block : ∀ k, k < B → ¬ X k → w'.heap[k]? = w.heap[k]?
theorem KeepX.of {w w' : World} {B : Nat} {X : Nat → Prop} (h : Below B w w') : KeepX B X w w' := ⟨h.os, h.tape, h.output, h.size, fun k hk _ => h.block k hk⟩
theorem KeepX.trans {B : Nat} {X : Nat → Prop} {a b c : World} (h : KeepX B X a b) (k : KeepX B X b c) : KeepX B X a c := ⟨k.os.trans h.os, k.tape.trans h.tape, k.output.trans h.output, Nat.le_trans h.size k.size, fun i hi hn => (k.block i hi hn).trans (h.block i hi hn)⟩
theorem KeepX.grown {B : Nat} {X : Nat → Prop} {w w' : World} {row : Option Nat} (h : w.grownBy w' row) (hB : B ≤ w.heap.size) (hr : ∀ k, row = some k → X k) : KeepX B X w w' := ⟨h.os, h.tape, h.output, h.size, fun k hk hx => h.block k (by omega) (fun e => hx (hr k e.symm))⟩
theorem KeepX.blk {w w' : World} {X : Nat → Prop} {i : Nat} {t : TypeId} {cs : List Value} (h : KeepX w.heap.size X w w') (hB : Blk w i t cs) (hne : ¬ X i) : Blk w' i t cs := (h.block i hB.lt hne).trans hB
theorem KeepX.rd {w w' : World} {X : Nat → Prop} {A : Option Addr} {l : By} (h : KeepX w.heap.size X w w') (hR : Rd w A l) (hne : ∀ k, l ≠ [] → Go.Proofs.Ytpjedpmbninfcaa.blk A = some k → ¬ X k) : Rd w' A l := by
  by_cases hl : l = []
  · subst hl; exact ⟨hR.1, fun h => absurd rfl h⟩
  · obtain ⟨b, o, rfl, hc⟩ := hR.2 (fun e => hl (by cases l with | nil => rfl | cons x y => cases e))
    refine ⟨hR.1, fun _ => ⟨b, o, rfl, fun j u hj => ?_⟩⟩
    have h1 := hc j u hj
    have hlt : b < w.heap.size := block_lt_of_cell h1
    rw [← h1]
    show World.cell? w' _ = World.cell? w _
    unfold World.cell?
    rw [show w'.heap[b]? = w.heap[b]? from h.block b hlt (hne b hl rfl)]
theorem each_seq {A : Option Addr} {b c : By} {cap g h : Nat} (w : World) (hg : Blk w g 23 (B8 c)) (hh : Blk w h 26 [.slice A b.length cap]) (hb : Rd w A b) (hcap : b.length ≤ cap) (hc : c.length = 32) (hl : b.length ≤ 400000) (hgh : h ≠ g) {X : Nat → Prop} (hXg : ¬ X g) (hXh : ¬ X h) (hgb : ∀ k, b ≠ [] → blk A = some k → k ≠ g ∧ ¬ X k) :
    SeqC Fence.wide 2 Try.prog 42 #[.pointer (some ⟨g, 0, none⟩), .pointer (some ⟨h, 0, none⟩)] encE (KeepX w.heap.size X) (fun W W' => Grew W W' 23 (some g)) ydE
      (fun xs => AllP c b (xs.map Prod.fst) ∧ lastE c xs = ((bytesAll c (xs.map Prod.fst)).length, chainAll c (xs.map Prod.fst))) w := fun l J W hbW hJ hY h0 => by
  have main : CallsR Try.prog 42 [.func (.yield l) #[] #[], .pointer (some ⟨g, 0, none⟩), .pointer (some ⟨h, 0, none⟩)] W fun _ w' => ∃ xs, (AllP c b (xs.map Prod.fst) ∧ lastE c xs = ((bytesAll c (xs.map Prod.fst)).length, chainAll c (xs.map Prod.fst))) ∧ J xs w' := by
    have hglt := hg.lt
    have hhlt := hh.lt
    have hsW := hbW.size
    refine callsR Try.func42 rfl rfl (by kernel_rfl) rfl ?_
    have hw := hbW
    have fg := hg.under hbW
    have fh := hh.under hbW
    have fb := hb.below hbW
    refine rk_seq ?_
    refine rk_region ?_
    refine wl_p (fun _ => o_assign rfl) ?_
    refine wl_nil ?_
    refine rk_block ?_
    refine rk_loopf (fun fb m fr w2 => ∃ (xs : List Ev) (l1 : List Rc) (at0 : Nat) (v : Int) (ch : By), fr = [(4, .int .i64 v)] ++ fb.drop 1 ∧ v = at0 ∧ l1 = xs.map Prod.fst ∧ at0 = (bytesAll c l1).length ∧ ch = chainAll c l1 ∧ lastE c xs = (at0, ch) ∧ b = bytesAll c l1 ++ b.drop at0 ∧ (∀ r ∈ l1, OkR r) ∧ m = b.length - at0 ∧ J xs w2 ∧ Blk w2 g 23 (B8 ch) ∧ W.heap.size ≤ w2.heap.size ∧ KeepX w.heap.size (fun k => k = g ∨ X k) w w2) (n := b.length) (Fr.le_of (by kernel_rfl) (by kernel_rfl) (by repeat' constructor)) ⟨[], [], 0, _, c, rfl, rfl, rfl, rfl, rfl, rfl, rfl, by simp, by simp, h0, fg, Nat.le_refl _, KeepX.of hbW⟩ ?_
    clear hw fg fh fb h0
    rintro m fr w2 ⟨xs, l1, at0, v, ch, rfl, rfl, hl1, hat, hch, hlast, hbq, hok, rfl, hJx, fg, hsz, hkg⟩
    first | refine rk_frame (by simp only [List.cons_append, List.nil_append, List.drop_succ_cons, List.drop_zero]; rfl) ?_ | refine wl_frame (by simp only [List.cons_append, List.nil_append, List.drop_succ_cons, List.drop_zero]; rfl) ?_
    have fh := hkg.blk hh (fun e => e.elim hgh hXh)
    have fr0 := hkg.rd hb (fun k h1 h2 e => e.elim (hgb k h1 h2).1 (hgb k h1 h2).2)
    have hatb : at0 ≤ b.length := by rw [hbq, List.length_append]; omega
    have hchl : ch.length = 32 := by rw [hch]; exact chainAll_len hc l1
    obtain ⟨bq, hbq2⟩ : ∃ q, b.drop at0 = q := ⟨_, rfl⟩
    obtain ⟨⟨⟨k, p⟩, z, x, e⟩, hR⟩ : ∃ s, readR ch bq = s := ⟨_, rfl⟩
    have hw := Below.refl w2.heap.size w2
    refine rk_block ?_
    refine rk_seq ?_
    refine rk_drawo (id := 1) (none) [0, 0, 0, 6, 9, 16, 32, 32, 32, 32, 0, 0, 3199, 7423, 15871, 32767] [0, 0, 0, 6, 15, 31, 63, 63, 63, 63, 0, 0, 3199, 7423, 15871, 32767] 23568 3072 [0, 1, 2, 3] [(.s, 0), (.s, 1), (.p, 2), (.p, 3), (.f 15 23568 3072, 12)] (by kernel_rfl) (by kernel_rfl) (by kernel_rfl) (by kernel_rfl) (by kernel_rfl) ?_
    dsimp only [inOrder, nthOp]
    replace hw := hw.drew
    refine wl_s (fun _ hk => (o_ldBa Try.isAgg23 Try.sizeOf23 rfl ((fg.u hw).u (below_of_grown_none hk)) hchl)) ?_
    refine wl_s (fun _ hk => (o_loadbg Try.isAgg26 rfl ((fh.u hw).u (below_of_grown_none hk)) (by rfl))) ?_
    refine wl_p (fun _ => o_move rfl) ?_
    refine wl_slBl Try.u8 (at0) rfl rfl (fr0.u hw) rfl rfl (by omega) (by omega) ?_
    rintro A13 c13 f13 i13 i13_1
    rw [hbq2] at f13
    have hqb : bq.length + at0 = b.length := by rw [← hbq2, List.length_drop]; omega
    have hql : b.length - at0 = bq.length := by rw [← hbq2, List.length_drop]
    rw [hql] at *
    have hx32 : x.length = 32 := by
      rcases readR_e ch bq with h | ⟨h, _⟩
      · rw [hR] at h
        simp only at h
        subst h
        obtain ⟨_, _, h3, _⟩ := readR_back hR
        rw [h3]; exact nextB_len _ _
      · rw [hR] at h
        simp only [Prod.mk.injEq] at h
        rw [h.2.2.1]; rfl
    refine wl_conc [⟨4, [(.p, 5), (.p, 6), (.p, 7), (.p, 8), (.p, 9)], [18, 17, 16, 15, 9, 14], [], fun vs w' lo hi => ∃ (A14 : Option Addr) (c14 : Nat) (u9 u14 : Value), vs = [.int .i64 (e : Int), .agg (B8 x).toArray, .int .i64 (z : Int), .agg #[.int .u8 (k.toNat : Int), .slice A14 p.length c14], u9, u14] ∧ OwnH w' lo hi A14 c14 p⟩, ⟨10, [], [5], [], fun vs w' lo hi => ∃ (g5 : Nat), vs = [.pointer (some ⟨g5, 0, none⟩)] ∧ Blk w' g5 31 [.int .u8 0, .slice none 0 0] ∧ lo ≤ g5 ∧ g5 < hi⟩, ⟨11, [], [7], [], fun vs w' lo hi => ∃ (g7 : Nat), vs = [.pointer (some ⟨g7, 0, none⟩)] ∧ Blk w' g7 23 (B8 nul32) ∧ lo ≤ g7 ∧ g7 < hi⟩] [0, 1, 2] [0, 0, 0, 6, 9, 16, 32, 32, 32, 32, 0, 0, 3199, 7423, 15871, 32767] [0, 0, 0, 6, 15, 31, 63, 63, 63, 63, 0, 0, 3199, 7423, 15871, 32767] [12, 13, 14, 15] [(.l, 12), (.p, 13), (.l, 14), (.p, 15)] (by kernel_rfl) (by kernel_rfl) (by kernel_rfl) (by kernel_rfl) ⟨fun _ _ _ _ _ h hb => by obtain ⟨A14, c14, u9, u14, e0, g0⟩ := h; exact ⟨A14, c14, u9, u14, e0, g0.u hb⟩, fun _ _ _ _ _ h hb => by obtain ⟨g5, e0, g0, g1, g2⟩ := h; exact ⟨g5, e0, g0.u hb, g1, g2⟩, fun _ _ _ _ _ h hb => by obtain ⟨g7, e0, g0, g1, g2⟩ := h; exact ⟨g7, e0, g0.u hb, g1, g2⟩, trivial⟩ ⟨?_, ?_, ?_, trivial⟩ ?_
    · intro wI hbI fo T T2 n2
      intro hk
      dsimp only [Item.idx, inOrder, nthOp, List.map, List.zip_cons_cons, List.zip_nil_right, List.cons_append, List.nil_append]
      have shbI := hbI.size
      simp only [drew_size] at shbI
      replace hw := hw.trans (hbI.mono hw.size)
      replace f13 := f13.u hbI
      have hw1 := Below.refl wI.heap.size wI
      refine wl_call rfl (C_RecReadN _ hR f13 rfl (by omega) hchl (by omega)) ?_
      rintro v14 w14 ⟨A14, ⟨c14, ⟨rfl, ⟨f14, b14⟩⟩⟩⟩
      dsimp only at f14
      dsimp only
      have qf14 := f14.cap
      have s14 := b14.size
      replace hw := hw.trans (b14.mono hw.size)
      replace hw1 := hw1.trans (b14.mono hw1.size)
      replace f13 := f13.u b14
      refine wl_p (fun _ => o_move rfl) ?_
      refine wl_p (fun _ => o_ext40 rfl) ?_
      refine wl_p (fun _ => o_ext41 rfl) ?_
      refine wl_p (fun _ => o_ext42 rfl) ?_
      refine wl_p (fun _ => o_ext43 rfl) ?_
      exact hk [_, _, _, _, _, _] _ ⟨_, _, _, _, rfl, f14⟩ hw1
    · intro wI hbI fo T T2 n2
      intro hk
      dsimp only [Item.idx, inOrder, nthOp, List.map, List.zip_cons_cons, List.zip_nil_right, List.cons_append, List.nil_append]
      have shbI := hbI.size
      simp only [drew_size] at shbI
      replace hw := hw.trans (hbI.mono hw.size)
      replace f13 := f13.u hbI
      have hw1 := Below.refl wI.heap.size wI
      refine wl_allocg [_, _] Try.zeroValue31 (by rfl) ?_
      rintro g5 w5 f5 b5 i5 i5_1
      have s5 := b5.size
      replace hw := hw.trans (b5.mono hw.size)
      replace hw1 := hw1.trans (b5.mono hw1.size)
      replace f13 := f13.u b5
      exact hk [_] _ ⟨_, rfl, f5, by omega, by omega⟩ hw1
    · intro wI hbI fo T T2 n2
      intro hk
      dsimp only [Item.idx, inOrder, nthOp, List.map, List.zip_cons_cons, List.zip_nil_right, List.cons_append, List.nil_append]
      have shbI := hbI.size
      simp only [drew_size] at shbI
      replace hw := hw.trans (hbI.mono hw.size)
      replace f13 := f13.u hbI
      have hw1 := Below.refl wI.heap.size wI
      refine wl_allocB Try.underlying23 Try.zeroValue23 (by rfl) ?_
      rintro g7 w7 f7 b7 i7 i7_1
      have s7 := b7.size
      replace hw := hw.trans (b7.mono hw.size)
      replace hw1 := hw1.trans (b7.mono hw1.size)
      replace f13 := f13.u b7
      exact hk [_] _ ⟨_, rfl, f7, by omega, by omega⟩ hw1
    intro wE hbE
    rintro _ lo0 hi0 ⟨A14, c14, u9, u14, rfl, f14⟩ ql0 qm0 qh0 -
    rintro _ lo1 hi1 ⟨g5, rfl, f5, f5_1, f5_2⟩ ql1 qm1 qh1 ⟨qa1_0, -⟩
    rintro _ lo2 hi2 ⟨g7, rfl, f7, f7_1, f7_2⟩ ql2 qm2 qh2 ⟨qa2_1, qa2_0, -⟩
    try dsimp only at ql0 qm0 qh0  ql1 qm1 qh1 qa1_0 ql2 qm2 qh2 qa2_0 qa2_1
    try simp only [drew_size] at ql0 qm0 qh0  ql1 qm1 qh1 qa1_0 ql2 qm2 qh2 qa2_0 qa2_1
    dsimp only [given, Item.idx, inOrder, nthOp, List.map, List.zip_cons_cons, List.zip_nil_right]
    have shbE := hbE.size
    simp only [drew_size] at shbE
    replace hw := hw.trans (hbE.mono hw.size)
    replace f13 := f13.u hbE
    refine wl_storega Try.sizeOf31 rfl rfl (by rfl) (oneCell_of (by rfl)) f5 (by rfl) ?_
    rintro w_1 f g_1 e_1
    have s := g_1.size
    replace hw := hw.trans (below_of_grownBy g_1.g hw.size (by omega))
    replace f7 := f7.k g_1.g (ap_some (by omega))
    replace f14 := f14.k g_1.g (ap_some (by omega))
    clear f13
    clear f5
    refine wl_p (fun _ => o_assign rfl) ?_
    refine wl_stBa Try.sizeOf23 rfl f7 rfl hx32 (by rfl) ?_
    rintro w_2 f_1 g_2 e_2
    have s_1 := g_2.size
    replace hw := hw.trans (below_of_grownBy g_2.g hw.size (by omega))
    replace f14 := f14.k g_2.g (ap_some (by omega))
    replace f := f.k g_2.g (ap_some (by omega))
    clear f7
    refine wl_p (fun _ => o_assign rfl) ?_
    refine wl_nild ?_
    refine rk_seq ?_
    refine rk_seq ?_
    refine rk_region ?_
    refine wl_p (fun _ => o_move rfl) ?_
    refine wl_p (fun _ => o_ne rfl rfl) ?_
    refine wl_nil ?_
    have hglt2 := fg.lt
    have fgE := fg.u hw
    have hJE : J xs w_2 := hJ _ _ _ hJx ⟨grown_of_below hw _, fun k hk => by injection hk with hk; subst hk; exact fg.at_⟩
    refine rk_if rfl (fun h20 => ?_) (fun h20 => ?_)
    · skip
      refine ret0 rfl ?_
      exact ⟨xs, ⟨⟨bq, by rw [← hl1, ← hbq2]; exact hbq, by rw [← hl1]; exact hok, by rw [← hl1, ← hch, hR]; simp only; omega⟩, by rw [← hl1, hlast, hat, hch]⟩, hJE⟩
    · obtain rfl : e = 0 := by omega
      obtain ⟨hO, hz, hxn, q, hq⟩ := readR_back hR
      have hzq : z ≤ bq.length := by rw [hq, List.length_append]; omega
      have kw := hw
      refine rk_skip ?_
      refine rk_seq ?_
      refine rk_region ?_
      refine wl_p (fun _ => o_move rfl) ?_
      refine wl_p (fun _ => o_move rfl) ?_
      refine wl_p (fun _ => o_add rfl rfl (by omega) (by omega)) ?_
      refine wl_p (fun _ => o_assign rfl) ?_
      refine wl_nil ?_
      refine rk_seq ?_
      refine rk_region ?_
      refine wl_r (o_ldBa Try.isAgg23 Try.sizeOf23 rfl f_1 hx32) ?_
      refine wl_stBa Try.sizeOf23 rfl fgE rfl hx32 hchl ?_
      rintro w_3 f_2 g_3 e
      have s_2 := g_3.size
      replace f := f.k g_3.g (ap_some (by omega))
      replace f14 := f14.k g_3.g (ap_some (by omega))
      replace f_1 := f_1.k g_3.g (ap_some (by omega))
      clear fgE
      refine wl_nil ?_
      have hG : Grew w_2 w_3 23 (some g) := by assumption
      have hG2 : Grew w2 w_3 23 (some g) := ⟨grownBy_step (grown_of_below kw _) hG.g, fun k hk => by injection hk with hk; subst hk; exact fg.at_⟩
      have hJ3 : J xs w_3 := hJ _ _ _ hJx hG2
      have hsz3 := hG2.size
      have hcp := f14.cap
      have hyd : ydE xs ((k, p), (A14, c14), (at0 + z, x)) w_3 := ⟨f14.to_RdT, hcp, own_max f14, hx32, by
        have h1 := bytesAll_ge c l1
        rw [← hat, hl1, List.length_map] at h1; omega⟩
      refine rk_seq ?_
      refine rk_regionI 2 ?_
      refine wli_p (o_move rfl) ?_
      refine wli_p (o_loadag Try.isAgg31 Try.sizeOf31 rfl f rfl) ?_
      refine wli_p (o_move rfl) ?_
      refine wli_p (o_loadag Try.isAgg23 Try.sizeOf23 rfl f_2 (by rw [B8_length, hx32])) ?_
      refine wli_p (o_buildMark rfl rfl hx32) ?_
      refine wli_yieldL (xs := [.tmp 26, .tmp 29]) rfl rfl (hY xs ((k, p), (A14, c14), (at0 + z, x)) _ hJ3 hyd) (fun e w3 he => ?_)
      obtain ⟨rfl, hJ4, hkp⟩ := he
      refine ⟨true, rfl, ?_⟩
      refine wli_p (o_not rfl) ?_
      refine wli_nil ?_
      have hsk := hkp.size
      have fg3 : Blk w3 g 23 (B8 x) := (hkp.block g (by omega) hXg).trans f_2
      have hkg3 : KeepX w.heap.size (fun k => k = g ∨ X k) w w3 := hkg.trans ((KeepX.grown hG2.g hkg.size (fun k e => by injection e with e; exact .inl e.symm)).trans ⟨hkp.os, hkp.tape, hkp.output, hkp.size, fun k hk hx => hkp.block k hk (fun e => hx (.inr e))⟩)
      clear f f_1 f_2 f14 hw
      refine rk_false rfl ?_
      refine rk_skip ?_
      refine rk_blk ?_
      have e1 : bytesAll c (l1 ++ [(k, p)]) = bytesAll c l1 ++ bytesR ch (k, p) := by rw [bytesAll_append, ← hch]; simp [bytesAll]
      have e2 : chainAll c (l1 ++ [(k, p)]) = x := by rw [chainAll_append, ← hch, hxn]; rfl
      have e3 : b.drop (at0 + z) = q := by rw [← List.drop_drop, hbq2, hq, hz, List.drop_left]
      have hz0 : 0 < z := by rw [hz, bytesR_len]; omega
      exact rk_againf (Fr.le_of (by kernel_rfl) (by kernel_rfl) (by repeat' constructor)) ⟨xs ++ [((k, p), (A14, c14), (at0 + z, x))], l1 ++ [(k, p)], at0 + z, (at0 : Int) + (z : Int), x, rfl, by omega, by rw [hl1]; simp, by rw [e1, List.length_append, ← hat, ← hz], e2.symm, lastE_snoc _ _ _, by rw [e1, e3, List.append_assoc, ← hq, ← hbq2]; exact hbq, fun r hr => by
        rcases List.mem_append.1 hr with h | h
        · exact hok r h
        · rw [List.mem_singleton] at h; subst h; exact hO, rfl, hJ4, fg3, by omega, hkg3⟩ (by omega)
  refine callsIn_wide.2 (main.2.mono ?_)
  rintro e w' ⟨v, rfl, hv⟩
  exact ⟨⟨v, rfl⟩, hv⟩
end Go.Proofs.Ytpjedpmbninfcaa
