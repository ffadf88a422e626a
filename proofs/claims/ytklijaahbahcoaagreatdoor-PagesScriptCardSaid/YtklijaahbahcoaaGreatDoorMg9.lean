/-
  The document's disk in memory: New, Size, Read, Write, Cached.
-/
import Derived.Test.YtklijaahbahcoaaGreatDoorMg8
namespace Go.Proofs.YtklijaahbahcoaaGreatDoor
set_option maxRecDepth 100000
open Go.RowKit
/-- What a header of the cache points to: bytes in blocks at or above b. -/
def Ct1 (w : World) (b : Nat) (h : Hd) : Option Sec → Prop
  | none => h = (none, 0, 0)
  | some s => h.1.isSome = true ∧ h.2.1 = 256 ∧ 256 ≤ h.2.2 ∧ Rd w h.1 s.1 ∧ ∀ k, blk h.1 = some k → b ≤ k ∧ TyAt w k 5
structure Cts (w : World) (b : Nat) (H : List Hd) (C : List (Option Sec)) : Prop where
  len : H.length = C.length
  el : ∀ i (h1 : i < H.length) (h2 : i < C.length), Ct1 w b H[i] C[i]
section
variable {w w' : World} {lo hi b b' i : Nat} {H : List Hd} {C : List (Option Sec)} {row : Option Nat} {h : Hd} {x : Option Sec}
theorem Rd.keepB {A : Option Addr} {l : By} (h : Rd w A l) (hk : ∀ k, blk A = some k → k < w.heap.size → w'.heap[k]? = w.heap[k]?) : Rd w' A l := by
  by_cases hl : l = []
  · subst hl; exact ⟨h.1, fun h => absurd rfl h⟩
  · obtain ⟨b, o, rfl, hcl⟩ := h.2 (fun e => hl (by cases l with | nil => rfl | cons x y => cases e))
    refine ⟨h.1, fun _ => ⟨b, o, rfl, fun j u hj => ?_⟩⟩
    have h1 := hcl j u hj
    have hlt : b < w.heap.size := block_lt_of_cell h1
    rw [← h1]
    show World.cell? w' _ = World.cell? w _
    unfold World.cell?
    rw [show w'.heap[b]? = w.heap[b]? from hk b rfl hlt]
theorem Ct1.keep (hc : Ct1 w b h x) (hk : ∀ k, b ≤ k → TyAt w k 5 → w'.heap[k]? = w.heap[k]?) : Ct1 w' b h x := by
  cases x with
  | none => exact hc
  | some s =>
    obtain ⟨h1, h2, h3, h4, h5⟩ := hc
    exact ⟨h1, h2, h3, h4.keepB (fun k e _ => hk k (h5 k e).1 (h5 k e).2), fun k e => ⟨(h5 k e).1, (h5 k e).2.keep (hk k (h5 k e).1 (h5 k e).2)⟩⟩
theorem Cts.u (h : Cts w b H C) (hb : Below w.heap.size w w') : Cts w' b H C := ⟨h.len, fun i h1 h2 => (h.el i h1 h2).keep (fun k _ ht => hb.block k ht.lt)⟩
theorem Cts.d (h : Cts w b H C) : Cts w.drew b H C := h.u (below_drew w)
theorem Cts.k (h : Cts w b H C) (hg : w.grownBy w' row) (ha : Ap row b w.heap.size) : Cts w' b H C :=
  ⟨h.len, fun i h1 h2 => (h.el i h1 h2).keep (fun k hb ht => hg.block k ht.lt (fun e => by have := ha k e.symm; have := ht.lt; omega))⟩
theorem Cts.y {e' : TypeId} (h : Cts w b H C) (hg : Grew w w' e' row) (hne : e' ≠ 5) : Cts w' b H C :=
  ⟨h.len, fun i h1 h2 => (h.el i h1 h2).keep (fun k hb ht => hg.g.block k ht.lt (fun e => by
    obtain ⟨_, _, h3⟩ := ht
    obtain ⟨_, _, h4⟩ := hg.ty k e.symm
    rw [h3] at h4
    injection h4 with h4
    injection h4 with _ h4
    exact hne h4.symm))⟩
theorem Cts.c (h : Cts w b H C) (hc : Chg lo hi w w') (ha : hi ≤ b) : Cts w' b H C :=
  ⟨h.len, fun i h1 h2 => (h.el i h1 h2).keep (fun k hb ht => hc.block k ht.lt (by omega))⟩
theorem Cts.none_ (n : Nat) : Cts w b (List.replicate n (none, 0, 0)) (List.replicate n none) :=
  ⟨by simp, fun i h1 h2 => by rw [List.getElem_replicate, List.getElem_replicate]; exact rfl⟩
theorem Cts.clear_ (h : Cts w b H C) (i : Nat) : Cts w b (H.set i (none, 0, 0)) (C.set i none) :=
  ⟨by rw [List.length_set, List.length_set, h.len], fun j h1 h2 => by
    rw [List.length_set] at h1 h2
    rw [List.getElem_set, List.getElem_set]
    split
    · exact rfl
    · exact h.el j h1 h2⟩
theorem Cts.put_ {A : Option Addr} {cp : Nat} {s : Sec} (h : Cts w b H C) (i : Nat) (hs : OwnH w lo hi A cp s.1) (hl : b ≤ lo) : Cts w b (H.set i (A, 256, cp)) (C.set i (some s)) :=
  ⟨by rw [List.length_set, List.length_set, h.len], fun j h1 h2 => by
    rw [List.length_set] at h1 h2
    rw [List.getElem_set, List.getElem_set]
    split
    · have hA := (RowH.rd hs).some_ (show 0 < 1 by decide) (by rw [s.2]; decide)
      refine ⟨?_, rfl, by have := hs.cap; rw [s.2] at this; exact this, hs.to_Rd, fun k e => ⟨by have := RowH.lt hs k e; omega, RowH.ty hs k e⟩⟩
      show A.isSome = true
      rw [hA]; rfl
    · exact h.el j h1 h2⟩
theorem Cts.at_ (h : Cts w b H C) (hi : i < C.length) : Ct1 w b (H[i]'(by rw [h.len]; exact hi)) C[i] := h.el i _ hi
end
/-- The document's disk in the blocks from lo to hi (its cached sectors above): what is on it, what is cached. -/
structure RfAt (w : World) (lo hi g : Nat) (S : List Sec) (C : List (Option Sec)) : Prop where
  ex : ∃ (A : Option Addr) (c : Nat) (D : Option Addr) (q : Nat) (H : List Hd), Blk w g 60 [.slice A (img S).length c, .slice D H.length q] ∧ OwnH w lo hi A c (img S) ∧ OwnHd w lo hi D q H ∧ Cts w hi H C
  g1 : lo ≤ g
  g2 : g < hi
  hi : hi ≤ w.heap.size
  len : C.length = S.length
  n1 : 1 ≤ S.length
  n2 : S.length ≤ 16384
section
variable {w w' : World} {lo hi lo' hi' g : Nat} {S : List Sec} {C : List (Option Sec)}
theorem RfAt.u (h : RfAt w lo hi g S C) (hb : Below w.heap.size w w') : RfAt w' lo hi g S C := by
  obtain ⟨A, c, D, q, H, h1, h2, h3, h4⟩ := h.ex
  exact ⟨⟨A, c, D, q, H, h1.u hb, h2.u hb, h3.u hb, h4.u hb⟩, h.g1, h.g2, by have := h.hi; have := hb.size; omega, h.len, h.n1, h.n2⟩
theorem RfAt.d (h : RfAt w lo hi g S C) : RfAt w.drew lo hi g S C := h.u (below_drew w)
theorem RfAt.y {e' : TypeId} {row : Option Nat} (h : RfAt w lo hi g S C) (hg : Grew w w' e' row) (hne : e' ∉ [60, 40, 5]) : RfAt w' lo hi g S C := by
  obtain ⟨A, c, D, q, H, h1, h2, h3, h4⟩ := h.ex
  simp only [List.mem_cons, List.not_mem_nil, or_false, not_or] at hne
  exact ⟨⟨A, c, D, q, H, h1.y hg hne.1, RowH.y h2 hg hne.2.2, h3.y hg (by simpa using hne.2.1), h4.y hg hne.2.2⟩, h.g1, h.g2, by have := h.hi; have := hg.g.size; omega, h.len, h.n1, h.n2⟩
theorem RfAt.c (h : RfAt w lo hi g S C) (hc : Chg lo' hi' w w') (ha : hi' ≤ lo) : RfAt w' lo hi g S C := by
  obtain ⟨A, c, D, q, H, h1, h2, h3, h4⟩ := h.ex
  have := h.g1
  have := h.g2
  exact ⟨⟨A, c, D, q, H, h1.c hc (by omega), h2.c hc (.inr ha), h3.c hc (.inr ha), h4.c hc (by omega)⟩, h.g1, h.g2, by have := h.hi; have := hc.size; omega, h.len, h.n1, h.n2⟩
end
theorem C_rNew {n : Int} {m : Nat} {Z : List Sec} {Q : List (Option Sec)} (w : World) (hm : n = (m : Int)) (hZ : List.replicate m z256 = Z) (hQ : List.replicate m none = Q) (h1 : 1 ≤ m) (h2 : m ≤ 16384) :
    CallsR Tryz.prog 8 [.int .i64 n] w fun v w' => ∃ g, v = .tuple #[.pointer (some ⟨g, 0, none⟩), .int .i64 0] ∧ RfAt w' w.heap.size w'.heap.size g Z Q ∧ Below w.heap.size w w' := by
  subst hm; subst hZ; subst hQ
  obtain ⟨M, hM⟩ : ∃ M : Nat, M = m * 256 := ⟨_, rfl⟩
  have hM2 : (m : Int) * 256 = (M : Int) := by omega
  obtain ⟨I, hI⟩ : ∃ I : By, List.replicate M 0 = I := ⟨_, rfl⟩
  obtain ⟨H, hH⟩ : ∃ H : List Hd, List.replicate m (none, 0, 0) = H := ⟨_, rfl⟩
  refine callsR Tryz.func8 rfl rfl (by kernel_rfl) rfl ?_
  have hw := Below.refl w.heap.size w
  refine rk_seq ?_
  refine rk_region ?_
  refine wl_p (fun _ => o_assign rfl) ?_
  refine wl_p (fun _ => o_assign rfl) ?_
  refine wl_nil ?_
  refine rk_seq ?_
  refine rk_seq ?_
  refine rk_region ?_
  refine wl_p (fun _ => o_move rfl) ?_
  refine wl_p (fun _ => o_lt rfl rfl) ?_
  refine wl_p (fun _ => o_move rfl) ?_
  refine wl_know 6 false rfl (decide_eq_false (by omega)) ?_
  refine wl_p (fun _ => o_move rfl) ?_
  refine wl_p (fun _ => o_gt rfl rfl) ?_
  refine wl_p (fun _ => o_pick_f rfl rfl) ?_
  refine wl_nil ?_
  refine rk_if rfl (fun h9 => absurd h9 (by omega)) (fun h9 => ?_)
  refine rk_skip ?_
  refine rk_seq ?_
  refine rk_drawo (id := 3) (none) [0, 1, 2, 0, 8, 20, 32, 127, 255] [0, 1, 3, 0, 8, 31, 63, 127, 255] 84 0 [0, 1, 3] [(.p, 0), (.p, 1), (.p, 3), (.f 11 84 0, 6)] (by kernel_rfl) (by kernel_rfl) (by kernel_rfl) (by kernel_rfl) (by kernel_rfl) ?_
  dsimp only [inOrder, nthOp]
  replace hw := hw.drew
  refine wl_p (fun _ => o_move rfl) ?_
  refine wl_p (fun _ => o_mul rfl rfl (by omega) (by omega)) ?_
  refine wl_p (fun _ => o_move rfl) ?_
  · rw [hM2]
    refine wl_forkf (m := 11) (L := 84) (C := 0) (n := 6) (k1 := 2) (k2 := 4) (fun fb fr V => ∃ A D, fr = [(12, .slice A M M), (14, .slice D m m)] ++ fb ∧ OwnH V w.heap.size V.heap.size A M I ∧ OwnHd V w.heap.size V.heap.size D m (List.replicate m (none, 0, 0)) ∧ Below w.heap.size w V) [0, 1, 2, 0, 8, 20, 32, 127, 255] [0, 1, 3, 0, 8, 31, 63, 127, 255] [2, 4, 5, 6, 7, 8] [4, 2, 5, 6, 7, 8] [5, 6, 7, 8] [(.l, 4), (.p, 5), (.l, 6), (.p, 7), (.p, 8)] [(.l, 2), (.p, 5), (.l, 6), (.p, 7), (.p, 8)] [(.p, 5), (.l, 6), (.p, 7), (.p, 8)] (by kernel_rfl) (by kernel_rfl) (by kernel_rfl) (by kernel_rfl) (by kernel_rfl) ?_ (fun hj => ?_) (fun hj => ?_) <;> dsimp only [inOrder, nthOp]
    · clear hw
      rintro fr V ⟨A, D, rfl, fa, fh, hw⟩
      have hsV := hw.size
      first | refine rk_frame (by simp only [List.cons_append, List.nil_append, List.drop_succ_cons, List.drop_zero]; rfl) ?_ | refine wl_frame (by simp only [List.cons_append, List.nil_append, List.drop_succ_cons, List.drop_zero]; rfl) ?_
      refine wl_p (fun _ => (o_buildg [_, _] Tryz.underlying60 Tryz.zeroValue60 (by rfl) (by rfl) rfl (by rfl) (by rfl) (fun _ => by kernel_rfl))) ?_
      refine wl_boxg [_, _] rfl (by rfl) ?_
      rintro g16 w16 f16 b16 i16 i16_1
      have s16 := b16.size
      replace hw := hw.trans (b16.mono hw.size)
      replace fh := fh.u b16
      replace fa := fa.u b16
      refine wl_p (fun _ => o_assign rfl) ?_
      refine wl_p (fun _ => o_assign rfl) ?_
      refine wl_nild ?_
      refine ret2 rfl rfl rfl ?_
      have hsz := hw.size
      have e1 : img (List.replicate m z256) = I := by rw [img_z, ← hM, hI]
      have e2 : I.length = M := by rw [← hI, List.length_replicate]
      have e3 : (List.replicate m ((none, 0, 0) : Hd)).length = m := List.length_replicate
      exact ⟨g16, rfl, ⟨⟨A, M, D, m, _, by rw [e1, e2, e3]; exact f16, by rw [e1]; exact fa.base (Nat.le_refl _) (by omega), fh.base (Nat.le_refl _) (by omega), Cts.none_ m⟩, by omega, by omega, Nat.le_refl _, by rw [List.length_replicate, List.length_replicate], by rw [List.length_replicate]; omega, by rw [List.length_replicate]; omega⟩, hw⟩
    · refine wl_mkBz (M) rfl rfl rfl rfl (by omega) hI ?_
      rintro A12 w12 f12 b12
      simp only [drew_size] at f12
      simp only [drew_size] at b12
      have qf12 := f12.cap
      have s12 := b12.size
      simp only [drew_size] at s12
      replace hw := hw.trans (b12.mono hw.size)
      refine wl_mkHd (m) rfl rfl rfl rfl (by omega) ?_
      rintro A14 w14 f14 b14
      have qf14 := f14.cap
      have s14 := b14.size
      replace hw := hw.trans (b14.mono hw.size)
      replace f12 := f12.u b14
      exact wl_tof hj (Fr.le_of (by kernel_rfl) (by kernel_rfl) (by repeat' constructor)) ⟨_, _, rfl, f12.base (by omega) (by omega), f14.base (by omega) (by omega), hw⟩
    · refine wl_mkHd (m) rfl rfl rfl rfl (by omega) ?_
      rintro A14 w14 f14 b14
      simp only [drew_size] at f14
      simp only [drew_size] at b14
      have qf14 := f14.cap
      have s14 := b14.size
      simp only [drew_size] at s14
      replace hw := hw.trans (b14.mono hw.size)
      refine wl_mkBz (M) rfl rfl rfl rfl (by omega) hI ?_
      rintro A12 w12 f12 b12
      have qf12 := f12.cap
      have s12 := b12.size
      replace hw := hw.trans (b12.mono hw.size)
      replace f14 := f14.u b12
      exact wl_tof hj (Fr.le_of (by kernel_rfl) (by kernel_rfl) (by repeat' constructor)) ⟨_, _, rfl, f12.base (by omega) (by omega), f14.base (by omega) (by omega), hw⟩
theorem C_rSize {lo hi g : Nat} {S : List Sec} {C : List (Option Sec)} (w : World) (hd : RfAt w lo hi g S C) :
    CallsR Tryz.prog 34 [.pointer (some ⟨g, 0, none⟩)] w fun v w' => v = .int .i64 (S.length : Int) ∧ w' = w := by
  obtain ⟨A, c, D, q, H, f, fa, fh, fc⟩ := hd.ex
  have hHl := fc.len
  have hCl := hd.len
  refine callsR Tryz.func34 rfl rfl (by kernel_rfl) rfl ?_
  refine rk_seq ?_
  refine rk_region ?_
  refine wl_p (fun _ => o_assign rfl) ?_
  refine wl_nil ?_
  refine rk_seq ?_
  refine rk_region ?_
  refine wl_p (fun _ => o_move rfl) ?_
  refine wl_p (fun _ => o_nil rfl) ?_
  refine wl_p (fun _ => o_faddr (s := 60) (i := 1) (off := 1) Tryz.underlying60 rfl Tryz.sizeOf58 rfl rfl rfl) ?_
  refine wl_r (o_loadbg Tryz.isAgg58 rfl f (by rfl)) ?_
  refine wl_p (fun _ => o_len (t := 58) Tryz.underlying58 rfl) ?_
  refine wl_p (fun _ => o_assign rfl) ?_
  refine wl_nil ?_
  refine ret1 rfl rfl ?_
  exact ⟨by rw [hHl, hCl], rfl⟩
/-- What Read returns is the call's own. -/
theorem K_rReadO {lo hi g : Nat} {S : List Sec} {C : List (Option Sec)} {a : Int} {r : By × Nat} (w : World) (hd : RfAt w lo hi g S C) (hr : rdD S C a = r) (wa : (Lit.int .i64 a).wf = true) :
    CallsR Tryz.prog 45 [.pointer (some ⟨g, 0, none⟩), .int .i64 a] w fun v w' => ∃ (A : Option Addr) (c : Nat), v = .tuple #[.slice A r.1.length c, .int .i64 (r.2 : Int)] ∧ OwnH w' w.heap.size w'.heap.size A c r.1 ∧ Below w.heap.size w w' := by
  subst hr
  refine callsR Tryz.func45 rfl rfl (by kernel_rfl) rfl ?_
  have hw := Below.refl w.heap.size w
  refine rk_seq ?_
  refine rk_region ?_
  refine wl_p (fun _ => o_assign rfl) ?_
  refine wl_p (fun _ => o_assign rfl) ?_
  refine wl_nil ?_
  refine rk_seq ?_
  refine rk_seq ?_
  refine rk_region ?_
  refine wl_p (fun _ => o_move rfl) ?_
  refine wl_p (fun _ => o_lt rfl rfl) ?_
  refine wl_p (fun _ => o_move rfl) ?_
  by_cases h0 : 0 ≤ a ∧ a < S.length
  · obtain ⟨A, c, D, q, H, f, fa, fh, fc⟩ := hd.ex
    have hHl := fc.len
    have hCl := hd.len
    have hle := hd.n2
    obtain ⟨i, rfl⟩ : ∃ i : Nat, a = (i : Int) := ⟨a.toNat, by omega⟩
    have hiC : i < C.length := by omega
    have hiS : i < S.length := by omega
    have h1 := fc.at_ hiC
    have hci := cAt_nat C hiC
    have hat := img_at S i hiS
    have him := img_len S
    cases hcc : C[i] with
    | some s =>
      rw [hcc] at h1
      obtain ⟨k1, k2, k3, k4, k5⟩ := h1
      have hs2 : s.1.length = 256 := s.2
      rw [show rdD S C (i : Int) = (s.1, 0) by rw [rdD, dif_pos h0, hci, hcc]; rfl]
      refine wl_p (fun _ => o_move rfl) ?_
      refine wl_p (fun _ => o_move rfl) ?_
      refine wl_call rfl (C_rSize _ hd) ?_
      rintro v11 w11 ⟨rfl, rfl⟩
      refine wl_p (fun _ => o_ge rfl rfl) ?_
      refine wl_p (fun _ => o_pick_f rfl rfl) ?_
      refine wl_nil ?_
      refine rk_if rfl (fun h13 => absurd h13 (by omega)) (fun h13 => ?_)
      refine rk_skip ?_
      refine rk_seq ?_
      refine rk_seq ?_
      refine rk_region ?_
      refine wl_p (fun _ => o_move rfl) ?_
      refine wl_p (fun _ => o_nil rfl) ?_
      refine wl_p (fun _ => o_faddr (s := 60) (i := 1) (off := 1) Tryz.underlying60 rfl Tryz.sizeOf58 rfl rfl rfl) ?_
      refine wl_r (o_loadbg Tryz.isAgg58 rfl f (by rfl)) ?_
      refine wl_p (fun _ => o_move rfl) ?_
      refine wl_p (fun _ => (o_iaddrA1 (i) Tryz.underlying58 Tryz.sizeOf40 rfl rfl rfl (fh.some_ (by omega)) (by omega))) ?_
      refine wl_r (o_ldHd rfl fh (by omega)) ?_
      refine wl_p (fun _ => (o_slneN Tryz.underlying40 rfl rfl)) ?_
      refine wl_nil ?_
      rw [k1]
      refine rk_true rfl ?_
      refine rk_seq ?_
      refine rk_region ?_
      refine wl_litB [] Tryz.u8 Tryz.sizeOf5 Tryz.zeroValue5 (by rfl) rfl rfl (by rfl) (by rfl) (by rfl) ?_
      rintro A22 w22 f22 b22
      have qf22 := f22.cap
      have s22 := b22.size
      replace hw := hw.trans (b22.mono hw.size)
      refine wl_p (fun _ => o_move rfl) ?_
      refine wl_p (fun _ => o_nil rfl) ?_
      refine wl_p (fun _ => o_faddr (s := 60) (i := 1) (off := 1) Tryz.underlying60 rfl Tryz.sizeOf58 rfl rfl rfl) ?_
      refine wl_r (o_loadbg Tryz.isAgg58 rfl (f.u hw) (by rfl)) ?_
      refine wl_p (fun _ => o_move rfl) ?_
      refine wl_p (fun _ => (o_iaddrA1 (i) Tryz.underlying58 Tryz.sizeOf40 rfl rfl rfl (fh.some_ (by omega)) (by omega))) ?_
      refine wl_r (o_ldHd rfl (fh.u hw) (by omega)) ?_
      refine wl_appB00 rfl f22 rfl (k4.u hw) (by omega) (by omega) hw.size ?_
      rintro A30 c30 w30 f30 b30
      have qf30 := f30.cap
      have s30 := b30.size
      replace hw := hw.trans (b30.mono hw.size)
      replace f22 := f22.u b30
      refine wl_p (fun _ => o_assign rfl) ?_
      refine wl_p (fun _ => o_assign rfl) ?_
      refine wl_nil ?_
      refine ret2 rfl rfl rfl ?_
      have hsz := hw.size
      exact ⟨A30, c30, rfl, f30.base (by omega) (by omega), hw⟩
    | none =>
      rw [hcc] at h1
      have k1 : H[i] = (none, 0, 0) := h1
      rw [show rdD S C (i : Int) = (S[i].1, 0) by rw [rdD, dif_pos h0, hci, hcc]; rfl]
      have e : (i + 1) * 256 - i * 256 = 256 := by omega
      refine wl_p (fun _ => o_move rfl) ?_
      refine wl_p (fun _ => o_move rfl) ?_
      refine wl_call rfl (C_rSize _ hd) ?_
      rintro v11 w11 ⟨rfl, rfl⟩
      refine wl_p (fun _ => o_ge rfl rfl) ?_
      refine wl_p (fun _ => o_pick_f rfl rfl) ?_
      refine wl_nil ?_
      refine rk_if rfl (fun h13 => absurd h13 (by omega)) (fun h13 => ?_)
      refine rk_skip ?_
      refine rk_seq ?_
      refine rk_seq ?_
      refine rk_region ?_
      refine wl_p (fun _ => o_move rfl) ?_
      refine wl_p (fun _ => o_nil rfl) ?_
      refine wl_p (fun _ => o_faddr (s := 60) (i := 1) (off := 1) Tryz.underlying60 rfl Tryz.sizeOf58 rfl rfl rfl) ?_
      refine wl_r (o_loadbg Tryz.isAgg58 rfl f (by rfl)) ?_
      refine wl_p (fun _ => o_move rfl) ?_
      refine wl_p (fun _ => (o_iaddrA1 (i) Tryz.underlying58 Tryz.sizeOf40 rfl rfl rfl (fh.some_ (by omega)) (by omega))) ?_
      refine wl_r (o_ldHd rfl fh (by omega)) ?_
      refine wl_p (fun _ => (o_slneN Tryz.underlying40 rfl rfl)) ?_
      refine wl_nil ?_
      rw [k1]
      simp only [Option.isSome_none]
      refine rk_false rfl ?_
      refine rk_skip ?_
      refine rk_seq ?_
      refine rk_region ?_
      refine wl_litB [] Tryz.u8 Tryz.sizeOf5 Tryz.zeroValue5 (by rfl) rfl rfl (by rfl) (by rfl) (by rfl) ?_
      rintro A31 w31 f31 b31
      have qf31 := f31.cap
      have s31 := b31.size
      replace hw := hw.trans (b31.mono hw.size)
      refine wl_p (fun _ => o_move rfl) ?_
      refine wl_p (fun _ => o_nil rfl) ?_
      refine wl_p (fun _ => o_faddr (s := 60) (i := 0) (off := 0) Tryz.underlying60 rfl Tryz.sizeOf40 rfl rfl rfl) ?_
      refine wl_r (o_loadbg Tryz.isAgg40 rfl (f.u hw) (by rfl)) ?_
      refine wl_p (fun _ => o_move rfl) ?_
      refine wl_p (fun _ => o_mul rfl rfl (by omega) (by omega)) ?_
      refine wl_p (fun _ => o_move rfl) ?_
      refine wl_p (fun _ => o_add rfl rfl (by omega) (by omega)) ?_
      refine wl_p (fun _ => o_mul rfl rfl (by omega) (by omega)) ?_
      refine wl_slBB Tryz.u8 (i * 256) ((i + 1) * 256) rfl rfl rfl (fa.u hw).to_Rd rfl (by omega) (by omega) (by omega) (by omega) fa.cap ?_
      rintro A41 c41 f41 i41 i41_1
      refine wl_appB00 rfl f31 rfl f41 (by simp; omega) (by simp; omega) hw.size ?_
      rintro A42 c42 w42 f42 b42
      have qf42 := f42.cap
      have s42 := b42.size
      replace hw := hw.trans (b42.mono hw.size)
      replace f41 := f41.u b42
      replace f31 := f31.u b42
      refine wl_p (fun _ => o_assign rfl) ?_
      refine wl_p (fun _ => o_assign rfl) ?_
      refine wl_nil ?_
      rw [e, hat] at f42
      rw [e, hat]
      refine ret2 rfl rfl rfl ?_
      have hsz := hw.size
      exact ⟨A42, c42, rfl, f42.base (by omega) (by omega), hw⟩
  · rw [show rdD S C a = ([], 2) by rw [rdD, dif_neg h0]]
    by_cases ha : a < 0
    · refine wl_know 8 true rfl (decide_eq_true (by omega)) ?_
      refine wl_off ?_
      refine wl_off ?_
      refine wl_off ?_
      refine wl_off ?_
      refine wl_p (fun _ => o_pick_t rfl rfl) ?_
      refine wl_nil ?_
      refine rk_true rfl ?_
      refine rk_seq ?_
      refine rk_region ?_
      refine wl_p (fun _ => o_assign rfl) ?_
      refine wl_p (fun _ => o_assign rfl) ?_
      refine wl_nil ?_
      refine ret2 rfl rfl rfl ?_
      exact ⟨none, 0, rfl, OwnH.nil_, hw⟩
    · refine wl_know 8 false rfl (decide_eq_false (by omega)) ?_
      refine wl_p (fun _ => o_move rfl) ?_
      refine wl_p (fun _ => o_move rfl) ?_
      refine wl_call rfl (C_rSize _ hd) ?_
      rintro v11 w11 ⟨rfl, rfl⟩
      refine wl_p (fun _ => o_ge rfl rfl) ?_
      refine wl_p (fun _ => o_pick_f rfl rfl) ?_
      refine wl_nil ?_
      refine rk_if rfl (fun h13 => ?_) (fun h13 => h13.elim (by omega))
      refine rk_seq ?_
      refine rk_region ?_
      refine wl_p (fun _ => o_assign rfl) ?_
      refine wl_p (fun _ => o_assign rfl) ?_
      refine wl_nil ?_
      refine ret2 rfl rfl rfl ?_
      exact ⟨none, 0, rfl, OwnH.nil_, hw⟩
theorem C_rRead {lo hi g : Nat} {S : List Sec} {C : List (Option Sec)} {a : Int} {r : By × Nat} (w : World) (hd : RfAt w lo hi g S C) (hr : rdD S C a = r) (wa : (Lit.int .i64 a).wf = true) :
    CallsR Tryz.prog 45 [.pointer (some ⟨g, 0, none⟩), .int .i64 a] w fun v w' => ∃ (A : Option Addr) (c : Nat), v = .tuple #[.slice A r.1.length c, .int .i64 (r.2 : Int)] ∧ RdB w' w.heap.size w'.heap.size A r.1 ∧ r.1.length ≤ c ∧ Below w.heap.size w w' := by
  refine (K_rReadO w hd hr wa).mono ?_
  rintro v w' ⟨A, c, rfl, h1, h2⟩
  exact ⟨A, c, rfl, h1.rdB, h1.cap, h2⟩
theorem C_rWrite {lo hi g n cp : Nat} {S : List Sec} {C : List (Option Sec)} {r : List (Option Sec) × Nat} {a : Int} {B : Option Addr} {b : By} (w : World) (hd : RfAt w lo hi g S C) (hb : Rd w B b) (hr : wrC S C a b = r) (wa : (Lit.int .i64 a).wf = true) (hn : n = b.length) (hc : n ≤ cp) (hm : b.length ≤ 1000000) :
    CallsR Tryz.prog 40 [.pointer (some ⟨g, 0, none⟩), .int .i64 a, .slice B n cp] w fun v w' => v = .int .i64 (r.2 : Int) ∧ RfAt w' lo hi g S r.1 ∧ Chg lo hi w w' := by
  subst hr; subst hn
  refine callsR Tryz.func40 rfl rfl (by kernel_rfl) rfl ?_
  have hcg : Chg lo hi w w := Chg.refl
  refine rk_seq ?_
  refine rk_region ?_
  refine wl_p (fun _ => o_assign rfl) ?_
  refine wl_nil ?_
  refine rk_seq ?_
  refine rk_seq ?_
  refine rk_region ?_
  refine wl_p (fun _ => o_move rfl) ?_
  refine wl_p (fun _ => o_lt rfl rfl) ?_
  refine wl_p (fun _ => o_move rfl) ?_
  by_cases h0 : 0 ≤ a ∧ a < S.length
  · by_cases hbl : b.length = 256
    · obtain ⟨A, c, D, q, H, f, fa, fh, fc⟩ := hd.ex
      have hHl := fc.len
      have hCl := hd.len
      have hle := hd.n2
      have hhi := hd.hi
      have hg1 := hd.g1
      have hg2 := hd.g2
      have hn1 := hd.n1
      obtain ⟨i, rfl⟩ : ∃ i : Nat, a = (i : Int) := ⟨a.toNat, by omega⟩
      have hiC : i < C.length := by omega
      rw [show wrC S C (i : Int) b = (C.set i (some ⟨b, hbl⟩), 0) by rw [wrC, dif_pos ⟨h0, hbl⟩]; rfl]
      refine wl_p (fun _ => o_move rfl) ?_
      refine wl_p (fun _ => o_move rfl) ?_
      refine wl_call rfl (C_rSize _ hd) ?_
      rintro v12 w12 ⟨rfl, rfl⟩
      refine wl_p (fun _ => o_ge rfl rfl) ?_
      refine wl_p (fun _ => o_pick_f rfl rfl) ?_
      refine wl_p (fun _ => o_move rfl) ?_
      refine wl_know 15 false rfl (decide_eq_false (by omega)) ?_
      refine wl_p (fun _ => o_move rfl) ?_
      refine wl_p (fun _ => o_len (t := 40) Tryz.underlying40 rfl) ?_
      refine wl_p (fun _ => o_ne rfl rfl) ?_
      refine wl_p (fun _ => o_pick_f rfl rfl) ?_
      refine wl_nil ?_
      refine rk_if rfl (fun h19 => absurd h19 (by omega)) (fun h19 => ?_)
      refine rk_skip ?_
      refine rk_seq ?_
      refine rk_drawoB (id := 3) (none) [0, 1, 2, 4, 0, 0, 0, 96, 255, 511] [0, 1, 3, 7, 0, 0, 0, 96, 255, 511] 672 160 [0, 1, 2, 3, 4, 6, 5, 7, 8, 9] [(.p, 0), (.p, 1), (.p, 2), (.s, 3), (.p, 4), (.p, 6), (.c, 5), (.c, 7), (.p, 8), (.l, 9)] (by kernel_rfl) (by kernel_rfl) (by kernel_rfl) (by kernel_rfl) (by kernel_rfl) ?_
      dsimp only [inOrder, nthOp]
      replace hcg := hcg.trans Chg.drew
      replace fc := fc.d
      replace fh := fh.d
      replace fa := fa.d
      replace f := f.d
      replace hb := hb.d
      replace hd := hd.d
      refine wl_p (fun _ => o_move rfl) ?_
      refine wl_p (fun _ => o_nil rfl) ?_
      refine wl_p (fun _ => o_faddr (s := 60) (i := 1) (off := 1) Tryz.underlying60 rfl Tryz.sizeOf58 rfl rfl rfl) ?_
      refine wl_s (fun _ hk => (o_loadbg Tryz.isAgg58 rfl (f.u (below_of_ok hk (Nat.le_refl _) (fun _ e => by cases e))) (by rfl))) ?_
      refine wl_p (fun _ => o_move rfl) ?_
      refine wl_p (fun _ => o_move rfl) ?_
      refine wl_litB [] Tryz.u8 Tryz.sizeOf5 Tryz.zeroValue5 (by rfl) rfl rfl (by rfl) (by rfl) (by rfl) ?_
      rintro A25 w25 f25 b25
      simp only [drew_size] at f25
      simp only [drew_size] at b25
      have qf25 := f25.cap
      have s25 := b25.size
      simp only [drew_size] at s25
      replace hcg := hcg.thenB b25
      replace hd := hd.u b25
      replace hb := hb.u b25
      replace f := f.u b25
      replace fa := fa.u b25
      replace fh := fh.u b25
      replace fc := fc.u b25
      refine wl_appB00 rfl f25 rfl hb rfl (by omega) (by omega) ?_
      rintro A27 c27 w27 f27 b27
      have qf27 := f27.cap
      have s27 := b27.size
      replace hcg := hcg.thenB b27
      replace fc := fc.u b27
      replace fh := fh.u b27
      replace fa := fa.u b27
      replace f := f.u b27
      replace hb := hb.u b27
      replace hd := hd.u b27
      replace f25 := f25.u b27
      refine wl_p (fun _ => (o_iaddrA1 (i) Tryz.underlying58 Tryz.sizeOf40 rfl rfl rfl (fh.some_ (by omega)) (by omega))) ?_
      refine wl_stHd rfl fh rfl (by omega) ?_
      rintro w f_1 g_1 b_1 e
      have qf_1 := f_1.cap
      have s := g_1.size
      replace hcg := hcg.trans ((Chg.of_g g_1.g f_1.rng).wide (by omega) (by omega))
      replace f25 := f25.y g_1 (by decide)
      replace f := f.y g_1 (by decide)
      replace fa := fa.y g_1 (by decide)
      replace fc := fc.y g_1 (by decide)
      replace f27 := f27.y g_1 (by decide)
      clear hd
      clear hb
      clear fh
      refine wl_nild ?_
      refine rk_seq ?_
      refine rk_region ?_
      refine wl_p (fun _ => o_assign rfl) ?_
      refine wl_nil ?_
      refine ret1 rfl rfl ?_
      rw [hbl] at f_1
      have e1 : (H.set i (A27, 256, c27)).length = H.length := List.length_set ..
      have e2 : (C.set i (some ⟨b, hbl⟩)).length = C.length := List.length_set ..
      exact ⟨rfl, ⟨⟨A, c, D, q, H.set i (A27, 256, c27), by rw [e1]; exact f, fa, f_1, fc.put_ (s := ⟨b, hbl⟩) i f27 hhi⟩, hg1, hg2, by have := hcg.size; omega, by rw [e2]; exact hCl, hn1, hle⟩, hcg⟩
    · rw [show wrC S C a b = (C, 2) by rw [wrC, dif_neg (fun h => hbl h.2)]]
      refine wl_know 9 false rfl (decide_eq_false (by omega)) ?_
      refine wl_p (fun _ => o_move rfl) ?_
      refine wl_p (fun _ => o_move rfl) ?_
      refine wl_call rfl (C_rSize _ hd) ?_
      rintro v12 w12 ⟨rfl, rfl⟩
      refine wl_p (fun _ => o_ge rfl rfl) ?_
      refine wl_p (fun _ => o_pick_f rfl rfl) ?_
      refine wl_p (fun _ => o_move rfl) ?_
      refine wl_know 15 false rfl (decide_eq_false (by omega)) ?_
      refine wl_p (fun _ => o_move rfl) ?_
      refine wl_p (fun _ => o_len (t := 40) Tryz.underlying40 rfl) ?_
      refine wl_p (fun _ => o_ne rfl rfl) ?_
      refine wl_p (fun _ => o_pick_f rfl rfl) ?_
      refine wl_nil ?_
      refine rk_if rfl (fun h19 => ?_) (fun h19 => h19.elim (by omega))
      refine rk_seq ?_
      refine rk_region ?_
      refine wl_p (fun _ => o_assign rfl) ?_
      refine wl_nil ?_
      refine ret1 rfl rfl ?_
      exact ⟨rfl, hd, hcg⟩
  · rw [show wrC S C a b = (C, 2) by rw [wrC, dif_neg (fun h => h0 h.1)]]
    by_cases ha : a < 0
    · refine wl_know 9 true rfl (decide_eq_true (by omega)) ?_
      refine wl_off ?_
      refine wl_off ?_
      refine wl_off ?_
      refine wl_off ?_
      refine wl_p (fun _ => o_pick_t rfl rfl) ?_
      refine wl_p (fun _ => o_move rfl) ?_
      refine wl_off ?_
      refine wl_off ?_
      refine wl_off ?_
      refine wl_p (fun _ => o_pick_t rfl rfl) ?_
      refine wl_nil ?_
      refine rk_true rfl ?_
      refine rk_seq ?_
      refine rk_region ?_
      refine wl_p (fun _ => o_assign rfl) ?_
      refine wl_nil ?_
      refine ret1 rfl rfl ?_
      exact ⟨rfl, hd, hcg⟩
    · refine wl_know 9 false rfl (decide_eq_false (by omega)) ?_
      refine wl_p (fun _ => o_move rfl) ?_
      refine wl_p (fun _ => o_move rfl) ?_
      refine wl_call rfl (C_rSize _ hd) ?_
      rintro v12 w12 ⟨rfl, rfl⟩
      refine wl_p (fun _ => o_ge rfl rfl) ?_
      refine wl_p (fun _ => o_pick_f rfl rfl) ?_
      refine wl_p (fun _ => o_move rfl) ?_
      refine wl_know 15 true rfl (decide_eq_true (by omega)) ?_
      refine wl_off ?_
      refine wl_off ?_
      refine wl_off ?_
      refine wl_p (fun _ => o_pick_t rfl rfl) ?_
      refine wl_nil ?_
      refine rk_true rfl ?_
      refine rk_seq ?_
      refine rk_region ?_
      refine wl_p (fun _ => o_assign rfl) ?_
      refine wl_nil ?_
      refine ret1 rfl rfl ?_
      exact ⟨rfl, hd, hcg⟩
theorem ixs_snoc : ∀ (k : Nat) (C : List (Option Sec)) (c : Option Sec), ixs k (C ++ [c]) = ixs k C ++ (if c.isSome then [k + C.length] else [])
  | k, [], c => by cases c <;> simp [ixs]
  | k, none :: C, c => by
    rw [List.cons_append, ixs, ixs, ixs_snoc (k + 1) C c, List.length_cons, show k + 1 + C.length = k + (C.length + 1) by omega]
  | k, some x :: C, c => by
    rw [List.cons_append, ixs, ixs, ixs_snoc (k + 1) C c, List.length_cons, show k + 1 + C.length = k + (C.length + 1) by omega, List.cons_append]
theorem ixz_take {C : List (Option Sec)} {i : Nat} (h : i < C.length) : ixz (C.take (i + 1)) = ixz (C.take i) ++ (if C[i].isSome then [(i : Int)] else []) := by
  rw [List.take_succ_eq_append_getElem h, ixz, cix, ixs_snoc, List.map_append, List.length_take, Nat.min_eq_left (Nat.le_of_lt h), Nat.zero_add]
  cases C[i] <;> rfl
end Go.Proofs.YtklijaahbahcoaaGreatDoor
/-
  The document's disk: put, Flush, Crash.
-/
namespace Go.Proofs.YtklijaahbahcoaaGreatDoor
set_option maxRecDepth 100000
open Go.RowKit
/-- What is on it, and what is cached, when the first i sectors are gone through. -/
def putS (S : List Sec) (C : List (Option Sec)) (kp : List Bool) (i : Nat) : List Sec := crash (S.take i) (C.take i) kp ++ S.drop i
def putC (C : List (Option Sec)) (i : Nat) : List (Option Sec) := List.replicate i none ++ C.drop i
section
variable {S : List Sec} {C : List (Option Sec)} {kp : List Bool} {i : Nat}
theorem putS_len (hi : i ≤ S.length) : (putS S C kp i).length = S.length := by
  rw [putS, List.length_append, crash_len, List.length_take, List.length_drop]; omega
theorem putC_len (hi : i ≤ C.length) : (putC C i).length = C.length := by
  rw [putC, List.length_append, List.length_replicate, List.length_drop]; omega
theorem putS_zero : putS S C kp 0 = S := by simp [putS, crash]
theorem putC_zero : putC C 0 = C := by simp [putC]
theorem putS_all (hl : C.length = S.length) : putS S C kp S.length = crash S C kp := by
  rw [putS, List.take_length, List.take_of_length_le (by omega), List.drop_length, List.append_nil]
theorem putC_all (hl : C.length = i) : putC C i = List.replicate i none := by
  rw [putC, List.drop_eq_nil_of_le (by omega), List.append_nil]
theorem putC_get (hi : i < C.length) : (putC C i)[i]'(by rw [putC_len (by omega)]; exact hi) = C[i] := by
  simp [putC, List.getElem_append_right]
theorem putC_step (hi : i < C.length) : putC C (i + 1) = (putC C i).set i none := by
  rw [putC, putC, List.drop_eq_getElem_cons hi, List.replicate_succ', List.append_assoc, List.set_append_right _ _ (by simp), List.length_replicate, Nat.sub_self]
  rfl
theorem putC_none (hi : i < C.length) (h : C[i] = none) : putC C (i + 1) = putC C i := by
  rw [putC, putC, List.drop_eq_getElem_cons hi, List.replicate_succ', List.append_assoc, h]; rfl
theorem putS_step (hl : C.length = S.length) (hi : i < S.length) : putS S C kp (i + 1) = crash (S.take i) (C.take i) kp ++ ((match C[i]'(by omega) with | none => S[i] | some x => if (kp.drop (cnt (C.take i))).headD false then x else S[i]) :: S.drop (i + 1)) := by
  rw [putS, List.take_succ_eq_append_getElem hi, List.take_succ_eq_append_getElem (by omega), crash_snoc _ _ _ _ _ (by rw [List.length_take, List.length_take, hl]), List.append_assoc]; rfl
theorem putS_none (hl : C.length = S.length) (hi : i < S.length) (h : C[i]'(by omega) = none) : putS S C kp (i + 1) = putS S C kp i := by
  rw [putS_step hl hi, h, putS, List.drop_eq_getElem_cons hi]
theorem putS_not {x : Sec} (hl : C.length = S.length) (hi : i < S.length) (h : C[i]'(by omega) = some x) (hk : (kp.drop (cnt (C.take i))).headD false = false) : putS S C kp (i + 1) = putS S C kp i := by
  rw [putS_step hl hi, h, putS, List.drop_eq_getElem_cons hi]
  dsimp only
  rw [hk]; rfl
theorem putS_put {x : Sec} (hl : C.length = S.length) (hi : i < S.length) (h : C[i]'(by omega) = some x) (hk : (kp.drop (cnt (C.take i))).headD false = true) : putS S C kp (i + 1) = (putS S C kp i).set i x := by
  have h1 : (crash (S.take i) (C.take i) kp).length = i := by rw [crash_len, List.length_take]; omega
  rw [putS_step hl hi, h, putS, List.drop_eq_getElem_cons hi]
  dsimp only
  rw [hk, if_pos rfl, List.set_append_right _ _ (by omega), h1, Nat.sub_self]
  rfl
theorem cnt_take_none (hi : i < C.length) (h : C[i] = none) : cnt (C.take (i + 1)) = cnt (C.take i) := by
  rw [List.take_succ_eq_append_getElem hi, h]; simp [cnt]
theorem cnt_take_some {x : Sec} (hi : i < C.length) (h : C[i] = some x) : cnt (C.take (i + 1)) = cnt (C.take i) + 1 := by
  rw [List.take_succ_eq_append_getElem hi, h]; simp [cnt]
theorem headD_drop {l : List Bool} {k : Nat} (h : k < l.length) : (l.drop k).headD false = l[k] := by
  rw [List.drop_eq_getElem_cons h]; rfl
theorem headD_drop0 {l : List Bool} {k : Nat} (h : l.length ≤ k) : (l.drop k).headD false = false := by
  rw [List.drop_eq_nil_of_le h]; rfl
theorem headD_rep {n k : Nat} (h : k < n) : ((List.replicate n true).drop k).headD false = true := by
  rw [headD_drop (by rw [List.length_replicate]; exact h), List.getElem_replicate]
end
section
variable {fn : Func} {F : Ending → World → Prop} {N : Nat} {ks : List K} {ops : Array Oper} {tg : Tags} {l : List Oper} {fr : Fr} {w : World} {ty t : TypeId} {pos : String} {aft : Array Edge} {gd : Option (Nat × Bool)} {d lo2 hi2 : Nat} {x y : Operand} {A : Option Addr}
--@ rule! slice l wl_slOwn
/-- s[lo:], to be written. -/
theorem wl_slOwn (T : U8 Tryz.prog t) {p : List UInt8} {len cap : Nat} {kl : IntKind} {L : Int} (lo : Nat) (hx : fr.ev x = some (.slice A len cap)) (hy : fr.ev y = some (.int kl L)) (hown : OwnH w lo2 hi2 A cap p) (hlen : len = p.length) (hl : L = (lo : Int)) (h1 : lo ≤ p.length)
    (hk : WL Tryz.prog fn F N ks ops tg.tail l ((d, .slice (cutA A cap 1 lo) (p.length - lo) (cap - lo)) :: fr) w) (hg : onG ops fr gd = true := by rfl) (hd : Nat.blt d N = true := by rfl) :
    WL Tryz.prog fn F N ks ops tg (⟨some d, .slice t x (some y) none none, ty, pos, aft, gd⟩ :: l) fr w := by
  subst hlen
  exact wl_p (fun _ => o_slice_lo T.ht Tryz.sizeOf5 hx hy hl (by have := hown.cap; omega)) hk hg hd
end
theorem OwnH.rng {w : World} {lo hi c : Nat} {A : Option Addr} {l : By} (h : OwnH w lo hi A c l) : ∀ k, blk A = some k → lo ≤ k ∧ k < hi := fun k hk => ⟨(RowH.lt h k hk).1, h.hi k hk⟩
set_option maxRecDepth 100000 in
theorem K_put {lo hi lo2 hi2 g n cp : Nat} {S S0 : List Sec} {C C0 : List (Option Sec)} {K : Option Addr} {kp kq : List Bool} {all : Bool} (w : World) (hd : RfAt w lo hi g S C) (hk : RdBo w lo2 hi2 K kp) (hq : (if all then List.replicate S.length true else kp) = kq) (hS0 : crash S C kq = S0) (hC0 : List.replicate S.length none = C0) (ha : hi2 ≤ lo ∨ hi ≤ lo2) (hn : n = kp.length) (hm : n ≤ 1000000) :
    CallsR Tryz.prog 52 [.pointer (some ⟨g, 0, none⟩), .slice K n cp, .bool all] w fun v w' => v = .tuple #[] ∧ RfAt w' lo hi g S0 C0 ∧ Chg lo hi w w' := by
  subst hn; subst hS0; subst hC0
  refine callsR Tryz.func52 rfl rfl (by kernel_rfl) rfl ?_
  have hcg : Chg lo hi w w := Chg.refl
  have hhi := hd.hi
  have hg1 := hd.g1
  have hg2 := hd.g2
  have hCl := hd.len
  have hn1 := hd.n1
  have hn2 := hd.n2
  have hcl := cnt_le C
  refine rk_seq ?_
  refine rk_region ?_
  refine wl_p (fun _ => o_assign rfl) ?_
  refine wl_nil ?_
  refine rk_seq ?_
  refine rk_region ?_
  refine wl_p (fun _ => o_assign rfl) ?_
  refine wl_nil ?_
  refine rk_block ?_
  refine rk_joinf (fun fb fr V => fr = [] ++ fb.drop 2 ∧ RfAt V lo hi g (crash S C kq) (List.replicate S.length none) ∧ Chg lo hi w V) ?_ (fun ks hj => ?_)
  rotate_left
  · refine rk_loopf (fun fb m fr V => ∃ (i : Nat) (v u : Int) (S1 : List Sec) (C1 : List (Option Sec)), fr = [(7, .int .i64 v), (6, .int .i64 u)] ++ fb.drop 2 ∧ v = i ∧ i ≤ S.length ∧ m = S.length - i ∧ u = (cnt (C.take i) : Nat) ∧ S1 = putS S C kq i ∧ C1 = putC C i ∧ RfAt V lo hi g S1 C1 ∧ RdBo V lo2 hi2 K kp ∧ Chg lo hi w V) (n := S.length) (Fr.le_of (by kernel_rfl) (by kernel_rfl) (by repeat' constructor)) ⟨0, _, _, S, C, rfl, rfl, by omega, rfl, rfl, putS_zero.symm, putC_zero.symm, hd, hk, hcg⟩ ?_
    clear hd hk hcg
    rintro m fr V ⟨i, v, u, S1, C1, rfl, rfl, hi', rfl, rfl, hS1, hC1, hd, hk, hcg⟩
    have hSl : S1.length = S.length := by rw [hS1, putS_len hi']
    have hsz := hcg.size
    first | refine rk_frame (by simp only [List.cons_append, List.nil_append, List.drop_succ_cons, List.drop_zero]; rfl) ?_ | refine wl_frame (by simp only [List.cons_append, List.nil_append, List.drop_succ_cons, List.drop_zero]; rfl) ?_
    refine rk_seq ?_
    refine rk_seq ?_
    refine rk_region ?_
    refine wl_p (fun _ => o_move rfl) ?_
    refine wl_p (fun _ => o_move rfl) ?_
    refine wl_call rfl (C_rSize _ hd) ?_
    rintro v10 w10 ⟨rfl, rfl⟩
    refine wl_p (fun _ => o_lt rfl rfl) ?_
    refine wl_nil ?_
    refine rk_if rfl (fun h11 => ?_) (fun h11 => ?_)
    · obtain ⟨A, c, D, q, H, f, fa, fh, fc⟩ := hd.ex
      have hHl := fc.len
      have hC1l := hd.len
      have hhV := hd.hi
      have hiC : i < C.length := by omega
      have hiC1 : i < C1.length := by omega
      have hC1i : C1[i] = C[i] := by subst hC1; exact putC_get hiC
      have h1 := fc.at_ hiC1
      rw [hC1i] at h1
      cases hcc : C[i] with
      | none =>
        rw [hcc] at h1
        have k1 : H[i] = (none, 0, 0) := h1
        refine rk_skip ?_
        refine rk_seq ?_
        refine rk_block ?_
        refine rk_seq ?_
        refine rk_seq ?_
        refine rk_region ?_
        refine wl_p (fun _ => o_move rfl) ?_
        refine wl_p (fun _ => o_nil rfl) ?_
        refine wl_p (fun _ => o_faddr (s := 60) (i := 1) (off := 1) Tryz.underlying60 rfl Tryz.sizeOf58 rfl rfl rfl) ?_
        refine wl_r (o_loadbg Tryz.isAgg58 rfl f (by rfl)) ?_
        refine wl_p (fun _ => o_move rfl) ?_
        refine wl_p (fun _ => (o_iaddrA1 (i) Tryz.underlying58 Tryz.sizeOf40 rfl rfl rfl (fh.some_ (by omega)) (by omega))) ?_
        refine wl_r (o_ldHd rfl fh (by omega)) ?_
        refine wl_p (fun _ => (o_sleqN Tryz.underlying40 rfl rfl)) ?_
        refine wl_nil ?_
        rw [k1]
        simp only [Option.isNone_none]
        refine rk_true rfl ?_
        refine rk_exit rfl ?_
        refine rk_region ?_
        refine wl_p (fun _ => o_move rfl) ?_
        refine wl_p (fun _ => o_add rfl rfl (by omega) (by omega)) ?_
        refine wl_p (fun _ => o_assign rfl) ?_
        refine wl_nil ?_
        exact rk_againf (Fr.le_of (by kernel_rfl) (by kernel_rfl) (by repeat' constructor)) ⟨i + 1, (i : Int) + 1, _, S1, C1, rfl, by omega, by omega, rfl, by rw [cnt_take_none hiC hcc], by rw [putS_none hCl (by omega) hcc]; exact hS1, by rw [putC_none hiC hcc]; exact hC1, hd, hk, hcg⟩ (by omega)
      | some x =>
        rw [hcc] at h1
        obtain ⟨k1, k2, k3, k4, k5⟩ := h1
        have k1' : H[i].1.isNone = false := by cases hh : H[i].1 with | none => rw [hh] at k1; cases k1 | some a => rfl
        have hkc : cnt (C.take i) ≤ i := by have := cnt_le (C.take i); rw [List.length_take] at this; omega
        have hks := cnt_take_some hiC hcc
        have hs2 : x.1.length = 256 := x.2
        have him := img_len S1
        have hnot := putS_not (kp := kq) hCl (by omega) hcc
        have hput := putS_put (kp := kq) hCl (by omega) hcc
        have hstep := putC_step hiC
        obtain ⟨k, hkk⟩ : ∃ k, cnt (C.take i) = k := ⟨_, rfl⟩
        rw [hkk] at hkc hks hnot hput
        rw [hkk]
        refine rk_skip ?_
        refine rk_seq ?_
        refine rk_block ?_
        refine rk_seq ?_
        refine rk_seq ?_
        refine rk_region ?_
        refine wl_p (fun _ => o_move rfl) ?_
        refine wl_p (fun _ => o_nil rfl) ?_
        refine wl_p (fun _ => o_faddr (s := 60) (i := 1) (off := 1) Tryz.underlying60 rfl Tryz.sizeOf58 rfl rfl rfl) ?_
        refine wl_r (o_loadbg Tryz.isAgg58 rfl f (by rfl)) ?_
        refine wl_p (fun _ => o_move rfl) ?_
        refine wl_p (fun _ => (o_iaddrA1 (i) Tryz.underlying58 Tryz.sizeOf40 rfl rfl rfl (fh.some_ (by omega)) (by omega))) ?_
        refine wl_r (o_ldHd rfl fh (by omega)) ?_
        refine wl_p (fun _ => (o_sleqN Tryz.underlying40 rfl rfl)) ?_
        refine wl_nil ?_
        rw [k1']
        cases all with
        | true =>
          rw [if_pos rfl] at hq
          have hbit : (kq.drop k).headD false = true := by rw [← hq]; exact headD_rep (by omega)
          refine rk_false rfl ?_
          refine rk_skip ?_
          refine rk_seq ?_
          refine rk_seq ?_
          refine rk_region ?_
          refine wl_p (fun _ => o_move rfl) ?_
          refine wl_p (fun _ => o_move rfl) ?_
          refine wl_off ?_
          refine wl_off ?_
          refine wl_off ?_
          refine wl_off ?_
          refine wl_off ?_
          refine wl_off ?_
          refine wl_off ?_
          refine wl_off ?_
          refine wl_off ?_
          refine wl_off ?_
          refine wl_p (fun _ => o_pick_t rfl rfl) ?_
          refine wl_nil ?_
          refine rk_true rfl ?_
          refine rk_draw (id := 6) (none) [0, 1, 2, 4, 0, 16, 40, 0, 128, 256, 512, 0, 3072, 4096, 8256] [0, 1, 3, 7, 0, 16, 63, 0, 128, 384, 896, 0, 3968, 8064, 16383] 16384 0 [(.p, 0), (.p, 1), (.p, 2), (.r, 3), (.p, 4), (.p, 5), (.p, 6), (.p, 7), (.p, 8), (.p, 9), (.r, 10), (.p, 11), (.p, 12), (.r, 13), (.l, 14)] (by kernel_rfl) (by kernel_rfl) (by kernel_rfl) (by kernel_rfl) (by kernel_rfl) ?_
          replace hcg := hcg.trans Chg.drew
          replace k4 := k4.d
          replace fc := fc.d
          replace fh := fh.d
          replace fa := fa.d
          replace f := f.d
          replace hk := hk.d
          replace hd := hd.d
          refine wl_p (fun _ => o_move rfl) ?_
          refine wl_p (fun _ => o_nil rfl) ?_
          refine wl_p (fun _ => o_faddr (s := 60) (i := 0) (off := 0) Tryz.underlying60 rfl Tryz.sizeOf40 rfl rfl rfl) ?_
          refine wl_r (o_loadbg Tryz.isAgg40 rfl f (by rfl)) ?_
          refine wl_p (fun _ => o_move rfl) ?_
          refine wl_p (fun _ => o_mul rfl rfl (by omega) (by omega)) ?_
          refine wl_slOwn Tryz.u8 (i * 256) rfl rfl fa rfl (by omega) (by omega) ?_
          refine wl_p (fun _ => o_move rfl) ?_
          refine wl_p (fun _ => o_nil rfl) ?_
          refine wl_p (fun _ => o_faddr (s := 60) (i := 1) (off := 1) Tryz.underlying60 rfl Tryz.sizeOf58 rfl rfl rfl) ?_
          refine wl_r (o_loadbg Tryz.isAgg58 rfl f (by rfl)) ?_
          refine wl_p (fun _ => o_move rfl) ?_
          refine wl_p (fun _ => (o_iaddrA1 (i) Tryz.underlying58 Tryz.sizeOf40 rfl rfl rfl (fh.some_ (by omega)) (by omega))) ?_
          refine wl_r (o_ldHd rfl fh (by omega)) ?_
          refine wl_cpH Tryz.u8 rfl fa rfl (by omega) k4 rfl (by omega) (by omega) ?_
          rintro w49 f49 g49 b49 e49
          simp only [drew_size] at e49
          have qf49 := f49.cap
          have s49 := g49.size
          simp only [drew_size] at s49
          replace hcg := hcg.trans ((Chg.of_g g49.g f49.rng).wide (by omega) (by omega))
          replace hk := hk.k g49.g (f49.ap (by omega))
          replace f := f.y g49 (by decide)
          replace fh := fh.y g49 (by decide)
          replace fc := fc.k g49.g (f49.ap (by omega))
          clear hd
          clear fa
          clear k4
          refine wl_nild ?_
          refine rk_seq ?_
          refine rk_region ?_
          refine wl_p (fun _ => o_move rfl) ?_
          refine wl_p (fun _ => o_nil rfl) ?_
          refine wl_p (fun _ => o_faddr (s := 60) (i := 1) (off := 1) Tryz.underlying60 rfl Tryz.sizeOf58 rfl rfl rfl) ?_
          refine wl_r (o_loadbg Tryz.isAgg58 rfl f (by rfl)) ?_
          refine wl_p (fun _ => o_move rfl) ?_
          refine wl_p (fun _ => (o_iaddrA1 (i) Tryz.underlying58 Tryz.sizeOf40 rfl rfl rfl (fh.some_ (by omega)) (by omega))) ?_
          refine wl_stHd rfl fh rfl (by omega) ?_
          rintro w_1 f_1 g_1 b e
          have qf_1 := f_1.cap
          have s := g_1.size
          replace hcg := hcg.trans ((Chg.of_g g_1.g f_1.rng).wide (by omega) (by omega))
          replace fc := fc.y g_1 (by decide)
          replace f := f.y g_1 (by decide)
          replace hk := hk.k g_1.g (f_1.ap (by omega))
          replace f49 := f49.y g_1 (by decide)
          clear fh
          refine wl_nil ?_
          refine rk_region ?_
          refine wl_p (fun _ => o_move rfl) ?_
          refine wl_p (fun _ => o_add rfl rfl (by omega) (by omega)) ?_
          refine wl_p (fun _ => o_assign rfl) ?_
          refine wl_nil ?_
          refine rk_blk ?_
          refine rk_region ?_
          refine wl_p (fun _ => o_move rfl) ?_
          refine wl_p (fun _ => o_add rfl rfl (by omega) (by omega)) ?_
          refine wl_p (fun _ => o_assign rfl) ?_
          refine wl_nil ?_
          rw [hs2, ← img_set S1 i x (by omega)] at f49
          have e1 : (H.set i ((none, 0, 0) : Hd)).length = H.length := List.length_set ..
          have e2 : (img (S1.set i x)).length = (img S1).length := by rw [img_len, img_len, List.length_set]
          have e3 : (S1.set i x).length = S1.length := List.length_set ..
          have e4 : (C1.set i none).length = C1.length := List.length_set ..
          have hsz2 := hcg.size
          exact rk_againf (Fr.le_of (by kernel_rfl) (by kernel_rfl) (by repeat' constructor)) ⟨i + 1, (i : Int) + 1, (k : Int) + 1, S1.set i x, C1.set i none, rfl, by omega, by omega, rfl, by rw [hks]; rfl, by rw [hput hbit, hS1], by rw [hstep, hC1], ⟨⟨A, c, D, q, H.set i (none, 0, 0), by rw [e1, e2]; exact f, f49, f_1, fc.clear_ i⟩, hg1, hg2, by omega, by rw [e3, e4]; exact hC1l, by rw [e3]; omega, by rw [e3]; omega⟩, hk, hcg⟩ (by omega)
        | false =>
          rw [if_neg (by simp)] at hq
          subst hq
          by_cases hkl : k < kp.length
          · have hbit := headD_drop hkl
            cases hkb : kp[k] with
            | true =>
              refine rk_false rfl ?_
              refine rk_skip ?_
              refine rk_seq ?_
              refine rk_seq ?_
              refine rk_region ?_
              refine wl_p (fun _ => o_move rfl) ?_
              refine wl_p (fun _ => o_move rfl) ?_
              refine wl_p (fun _ => o_move rfl) ?_
              refine wl_p (fun _ => o_move rfl) ?_
              refine wl_p (fun _ => o_len (t := 53) Tryz.underlying53 rfl) ?_
              refine wl_p (fun _ => o_lt rfl rfl) ?_
              refine wl_p (fun _ => o_move rfl) ?_
              refine wl_know 28 true rfl (decide_eq_true (by omega)) ?_
              refine wl_p (fun _ => o_move rfl) ?_
              refine wl_p (fun _ => o_move rfl) ?_
              refine wl_p (fun _ => (o_iaddrA1 (k) Tryz.underlying53 Tryz.sizeOf4 rfl rfl rfl (hk.some_ (by omega)) (by omega))) ?_
              refine wl_r (o_ldBo Tryz.isAgg4 rfl hk (by omega)) ?_
              refine wl_p (fun _ => o_pick_t rfl rfl) ?_
              refine wl_p (fun _ => o_pick_f rfl rfl) ?_
              refine wl_nil ?_
              rw [hkb] at hbit
              rw [hkb]
              refine rk_true rfl ?_
              refine rk_draw (id := 6) (none) [0, 1, 2, 4, 0, 16, 40, 0, 128, 256, 512, 0, 3072, 4096, 8256] [0, 1, 3, 7, 0, 16, 63, 0, 128, 384, 896, 0, 3968, 8064, 16383] 16384 0 [(.p, 0), (.p, 1), (.p, 2), (.r, 3), (.p, 4), (.p, 5), (.p, 6), (.p, 7), (.p, 8), (.p, 9), (.r, 10), (.p, 11), (.p, 12), (.r, 13), (.l, 14)] (by kernel_rfl) (by kernel_rfl) (by kernel_rfl) (by kernel_rfl) (by kernel_rfl) ?_
              replace hcg := hcg.trans Chg.drew
              replace k4 := k4.d
              replace fc := fc.d
              replace fh := fh.d
              replace fa := fa.d
              replace f := f.d
              replace hk := hk.d
              replace hd := hd.d
              refine wl_p (fun _ => o_move rfl) ?_
              refine wl_p (fun _ => o_nil rfl) ?_
              refine wl_p (fun _ => o_faddr (s := 60) (i := 0) (off := 0) Tryz.underlying60 rfl Tryz.sizeOf40 rfl rfl rfl) ?_
              refine wl_r (o_loadbg Tryz.isAgg40 rfl f (by rfl)) ?_
              refine wl_p (fun _ => o_move rfl) ?_
              refine wl_p (fun _ => o_mul rfl rfl (by omega) (by omega)) ?_
              refine wl_slOwn Tryz.u8 (i * 256) rfl rfl fa rfl (by omega) (by omega) ?_
              refine wl_p (fun _ => o_move rfl) ?_
              refine wl_p (fun _ => o_nil rfl) ?_
              refine wl_p (fun _ => o_faddr (s := 60) (i := 1) (off := 1) Tryz.underlying60 rfl Tryz.sizeOf58 rfl rfl rfl) ?_
              refine wl_r (o_loadbg Tryz.isAgg58 rfl f (by rfl)) ?_
              refine wl_p (fun _ => o_move rfl) ?_
              refine wl_p (fun _ => (o_iaddrA1 (i) Tryz.underlying58 Tryz.sizeOf40 rfl rfl rfl (fh.some_ (by omega)) (by omega))) ?_
              refine wl_r (o_ldHd rfl fh (by omega)) ?_
              refine wl_cpH Tryz.u8 rfl fa rfl (by omega) k4 rfl (by omega) (by omega) ?_
              rintro w49 f49 g49 b49 e49
              simp only [drew_size] at e49
              have qf49 := f49.cap
              have s49 := g49.size
              simp only [drew_size] at s49
              replace hcg := hcg.trans ((Chg.of_g g49.g f49.rng).wide (by omega) (by omega))
              replace hk := hk.k g49.g (f49.ap (by omega))
              replace f := f.y g49 (by decide)
              replace fh := fh.y g49 (by decide)
              replace fc := fc.k g49.g (f49.ap (by omega))
              clear hd
              clear fa
              clear k4
              refine wl_nild ?_
              refine rk_seq ?_
              refine rk_region ?_
              refine wl_p (fun _ => o_move rfl) ?_
              refine wl_p (fun _ => o_nil rfl) ?_
              refine wl_p (fun _ => o_faddr (s := 60) (i := 1) (off := 1) Tryz.underlying60 rfl Tryz.sizeOf58 rfl rfl rfl) ?_
              refine wl_r (o_loadbg Tryz.isAgg58 rfl f (by rfl)) ?_
              refine wl_p (fun _ => o_move rfl) ?_
              refine wl_p (fun _ => (o_iaddrA1 (i) Tryz.underlying58 Tryz.sizeOf40 rfl rfl rfl (fh.some_ (by omega)) (by omega))) ?_
              refine wl_stHd rfl fh rfl (by omega) ?_
              rintro w_1 f_1 g_1 b e
              have qf_1 := f_1.cap
              have s := g_1.size
              replace hcg := hcg.trans ((Chg.of_g g_1.g f_1.rng).wide (by omega) (by omega))
              replace fc := fc.y g_1 (by decide)
              replace f := f.y g_1 (by decide)
              replace hk := hk.k g_1.g (f_1.ap (by omega))
              replace f49 := f49.y g_1 (by decide)
              clear fh
              refine wl_nil ?_
              refine rk_region ?_
              refine wl_p (fun _ => o_move rfl) ?_
              refine wl_p (fun _ => o_add rfl rfl (by omega) (by omega)) ?_
              refine wl_p (fun _ => o_assign rfl) ?_
              refine wl_nil ?_
              refine rk_blk ?_
              refine rk_region ?_
              refine wl_p (fun _ => o_move rfl) ?_
              refine wl_p (fun _ => o_add rfl rfl (by omega) (by omega)) ?_
              refine wl_p (fun _ => o_assign rfl) ?_
              refine wl_nil ?_
              rw [hs2, ← img_set S1 i x (by omega)] at f49
              have e1 : (H.set i ((none, 0, 0) : Hd)).length = H.length := List.length_set ..
              have e2 : (img (S1.set i x)).length = (img S1).length := by rw [img_len, img_len, List.length_set]
              have e3 : (S1.set i x).length = S1.length := List.length_set ..
              have e4 : (C1.set i none).length = C1.length := List.length_set ..
              have hsz2 := hcg.size
              exact rk_againf (Fr.le_of (by kernel_rfl) (by kernel_rfl) (by repeat' constructor)) ⟨i + 1, (i : Int) + 1, (k : Int) + 1, S1.set i x, C1.set i none, rfl, by omega, by omega, rfl, by rw [hks]; rfl, by rw [hput hbit, hS1], by rw [hstep, hC1], ⟨⟨A, c, D, q, H.set i (none, 0, 0), by rw [e1, e2]; exact f, f49, f_1, fc.clear_ i⟩, hg1, hg2, by omega, by rw [e3, e4]; exact hC1l, by rw [e3]; omega, by rw [e3]; omega⟩, hk, hcg⟩ (by omega)
            | false =>
              refine rk_false rfl ?_
              refine rk_skip ?_
              refine rk_seq ?_
              refine rk_seq ?_
              refine rk_region ?_
              refine wl_p (fun _ => o_move rfl) ?_
              refine wl_p (fun _ => o_move rfl) ?_
              refine wl_p (fun _ => o_move rfl) ?_
              refine wl_p (fun _ => o_move rfl) ?_
              refine wl_p (fun _ => o_len (t := 53) Tryz.underlying53 rfl) ?_
              refine wl_p (fun _ => o_lt rfl rfl) ?_
              refine wl_p (fun _ => o_move rfl) ?_
              refine wl_know 28 true rfl (decide_eq_true (by omega)) ?_
              refine wl_p (fun _ => o_move rfl) ?_
              refine wl_p (fun _ => o_move rfl) ?_
              refine wl_p (fun _ => (o_iaddrA1 (k) Tryz.underlying53 Tryz.sizeOf4 rfl rfl rfl (hk.some_ (by omega)) (by omega))) ?_
              refine wl_r (o_ldBo Tryz.isAgg4 rfl hk (by omega)) ?_
              refine wl_p (fun _ => o_pick_t rfl rfl) ?_
              refine wl_p (fun _ => o_pick_f rfl rfl) ?_
              refine wl_nil ?_
              rw [hkb] at hbit
              rw [hkb]
              refine rk_false rfl ?_
              refine rk_skip ?_
              refine rk_seq ?_
              refine rk_region ?_
              refine wl_p (fun _ => o_move rfl) ?_
              refine wl_p (fun _ => o_nil rfl) ?_
              refine wl_p (fun _ => o_faddr (s := 60) (i := 1) (off := 1) Tryz.underlying60 rfl Tryz.sizeOf58 rfl rfl rfl) ?_
              refine wl_r (o_loadbg Tryz.isAgg58 rfl f (by rfl)) ?_
              refine wl_p (fun _ => o_move rfl) ?_
              refine wl_p (fun _ => (o_iaddrA1 (i) Tryz.underlying58 Tryz.sizeOf40 rfl rfl rfl (fh.some_ (by omega)) (by omega))) ?_
              refine wl_stHd rfl fh rfl (by omega) ?_
              rintro w_1 f_1 g_1 b e
              have qf_1 := f_1.cap
              have s := g_1.size
              replace hcg := hcg.trans ((Chg.of_g g_1.g f_1.rng).wide (by omega) (by omega))
              replace fc := fc.y g_1 (by decide)
              replace fa := fa.y g_1 (by decide)
              replace f := f.y g_1 (by decide)
              replace hk := hk.k g_1.g (f_1.ap (by omega))
              clear k4
              clear fh
              clear hd
              refine wl_nil ?_
              refine rk_region ?_
              refine wl_p (fun _ => o_move rfl) ?_
              refine wl_p (fun _ => o_add rfl rfl (by omega) (by omega)) ?_
              refine wl_p (fun _ => o_assign rfl) ?_
              refine wl_nil ?_
              refine rk_blk ?_
              refine rk_region ?_
              refine wl_p (fun _ => o_move rfl) ?_
              refine wl_p (fun _ => o_add rfl rfl (by omega) (by omega)) ?_
              refine wl_p (fun _ => o_assign rfl) ?_
              refine wl_nil ?_
              have e1 : (H.set i ((none, 0, 0) : Hd)).length = H.length := List.length_set ..
              have e4 : (C1.set i none).length = C1.length := List.length_set ..
              have hsz2 := hcg.size
              exact rk_againf (Fr.le_of (by kernel_rfl) (by kernel_rfl) (by repeat' constructor)) ⟨i + 1, (i : Int) + 1, (k : Int) + 1, S1, C1.set i none, rfl, by omega, by omega, rfl, by rw [hks]; rfl, by rw [hnot hbit, hS1], by rw [hstep, hC1], ⟨⟨A, c, D, q, H.set i (none, 0, 0), by rw [e1]; exact f, fa, f_1, fc.clear_ i⟩, hg1, hg2, by omega, by rw [e4]; exact hC1l, by omega, by omega⟩, hk, hcg⟩ (by omega)
          · have hbit : (kp.drop k).headD false = false := headD_drop0 (by omega)
            refine rk_false rfl ?_
            refine rk_skip ?_
            refine rk_seq ?_
            refine rk_seq ?_
            refine rk_region ?_
            refine wl_p (fun _ => o_move rfl) ?_
            refine wl_p (fun _ => o_move rfl) ?_
            refine wl_p (fun _ => o_move rfl) ?_
            refine wl_p (fun _ => o_move rfl) ?_
            refine wl_p (fun _ => o_len (t := 53) Tryz.underlying53 rfl) ?_
            refine wl_p (fun _ => o_lt rfl rfl) ?_
            refine wl_p (fun _ => o_move rfl) ?_
            refine wl_know 28 false rfl (decide_eq_false (by omega)) ?_
            refine wl_off ?_
            refine wl_off ?_
            refine wl_off ?_
            refine wl_off ?_
            refine wl_p (fun _ => o_pick_f rfl rfl) ?_
            refine wl_p (fun _ => o_pick_f rfl rfl) ?_
            refine wl_nil ?_
            refine rk_false rfl ?_
            refine rk_skip ?_
            refine rk_seq ?_
            refine rk_region ?_
            refine wl_p (fun _ => o_move rfl) ?_
            refine wl_p (fun _ => o_nil rfl) ?_
            refine wl_p (fun _ => o_faddr (s := 60) (i := 1) (off := 1) Tryz.underlying60 rfl Tryz.sizeOf58 rfl rfl rfl) ?_
            refine wl_r (o_loadbg Tryz.isAgg58 rfl f (by rfl)) ?_
            refine wl_p (fun _ => o_move rfl) ?_
            refine wl_p (fun _ => (o_iaddrA1 (i) Tryz.underlying58 Tryz.sizeOf40 rfl rfl rfl (fh.some_ (by omega)) (by omega))) ?_
            refine wl_stHd rfl fh rfl (by omega) ?_
            rintro w_1 f_1 g_1 b e
            have qf_1 := f_1.cap
            have s := g_1.size
            replace hcg := hcg.trans ((Chg.of_g g_1.g f_1.rng).wide (by omega) (by omega))
            replace fc := fc.y g_1 (by decide)
            replace fa := fa.y g_1 (by decide)
            replace f := f.y g_1 (by decide)
            replace hk := hk.k g_1.g (f_1.ap (by omega))
            clear k4
            clear fh
            clear hd
            refine wl_nil ?_
            refine rk_region ?_
            refine wl_p (fun _ => o_move rfl) ?_
            refine wl_p (fun _ => o_add rfl rfl (by omega) (by omega)) ?_
            refine wl_p (fun _ => o_assign rfl) ?_
            refine wl_nil ?_
            refine rk_blk ?_
            refine rk_region ?_
            refine wl_p (fun _ => o_move rfl) ?_
            refine wl_p (fun _ => o_add rfl rfl (by omega) (by omega)) ?_
            refine wl_p (fun _ => o_assign rfl) ?_
            refine wl_nil ?_
            have e1 : (H.set i ((none, 0, 0) : Hd)).length = H.length := List.length_set ..
            have e4 : (C1.set i none).length = C1.length := List.length_set ..
            have hsz2 := hcg.size
            exact rk_againf (Fr.le_of (by kernel_rfl) (by kernel_rfl) (by repeat' constructor)) ⟨i + 1, (i : Int) + 1, (k : Int) + 1, S1, C1.set i none, rfl, by omega, by omega, rfl, by rw [hks]; rfl, by rw [hnot hbit, hS1], by rw [hstep, hC1], ⟨⟨A, c, D, q, H.set i (none, 0, 0), by rw [e1]; exact f, fa, f_1, fc.clear_ i⟩, hg1, hg2, by omega, by rw [e4]; exact hC1l, by omega, by omega⟩, hk, hcg⟩ (by omega)
    · refine rk_exit rfl ?_
      obtain rfl : i = S.length := by omega
      rw [putS_all hCl] at hS1
      rw [putC_all hCl] at hC1
      subst hS1; subst hC1
      exact rk_tof hj (Fr.le_of (by kernel_rfl) (by kernel_rfl) (by repeat' constructor)) ⟨rfl, hd, hcg⟩
  clear hd hk hcg
  rintro fr V ⟨rfl, hd, hcg⟩
  first | refine rk_frame (by simp only [List.cons_append, List.nil_append, List.drop_succ_cons, List.drop_zero]; rfl) ?_ | refine wl_frame (by simp only [List.cons_append, List.nil_append, List.drop_succ_cons, List.drop_zero]; rfl) ?_
  refine end0 rfl ?_
  exact ⟨rfl, hd, hcg⟩
theorem C_putAll {lo hi g : Nat} {S S0 : List Sec} {C C0 : List (Option Sec)} (w : World) (hd : RfAt w lo hi g S C) (hS0 : cur S C = S0) (hC0 : List.replicate S.length none = C0) :
    CallsR Tryz.prog 52 [.pointer (some ⟨g, 0, none⟩), .slice none 0 0, .bool true] w fun v w' => v = .tuple #[] ∧ RfAt w' lo hi g S0 C0 ∧ Chg lo hi w w' :=
  K_put (lo2 := lo) (hi2 := lo) (kp := []) w hd RdBo.nil_ rfl (by rw [if_pos rfl, crash_all S C _ (by have := cnt_le C; have := hd.len; omega)]; exact hS0) hC0 (.inl (Nat.le_refl _)) rfl (by simp)
theorem C_putKeep {lo hi lo2 hi2 g n cp : Nat} {S S0 : List Sec} {C C0 : List (Option Sec)} {K : Option Addr} {kp : List Bool} (w : World) (hd : RfAt w lo hi g S C) (hk : RdBo w lo2 hi2 K kp) (hS0 : crash S C kp = S0) (hC0 : List.replicate S.length none = C0) (ha : hi2 ≤ lo ∨ hi ≤ lo2) (hn : n = kp.length) (hm : n ≤ 1000000) :
    CallsR Tryz.prog 52 [.pointer (some ⟨g, 0, none⟩), .slice K n cp, .bool false] w fun v w' => v = .tuple #[] ∧ RfAt w' lo hi g S0 C0 ∧ Chg lo hi w w' :=
  K_put w hd hk (by rw [if_neg (by simp)]) hS0 hC0 ha hn hm
theorem C_rFlush {lo hi g : Nat} {S S0 : List Sec} {C C0 : List (Option Sec)} (w : World) (hd : RfAt w lo hi g S C) (hS0 : cur S C = S0) (hC0 : List.replicate S.length none = C0) :
    CallsR Tryz.prog 47 [.pointer (some ⟨g, 0, none⟩)] w fun v w' => v = .int .i64 0 ∧ RfAt w' lo hi g S0 C0 ∧ Chg lo hi w w' := by
  refine callsR Tryz.func47 rfl rfl (by kernel_rfl) rfl ?_
  have hcg : Chg lo hi w w := Chg.refl
  refine rk_seq ?_
  refine rk_region ?_
  refine wl_p (fun _ => o_assign rfl) ?_
  refine wl_nil ?_
  refine rk_seq ?_
  refine rk_region ?_
  refine wl_p (fun _ => o_move rfl) ?_
  refine wl_call rfl (C_putAll _ hd hS0 hC0) ?_
  rintro v4 w4 ⟨rfl, ⟨f4, g4⟩⟩
  have s4 := g4.size
  replace hcg := hcg.trans (g4.wide (by omega) (by omega))
  clear hd
  refine wl_nil ?_
  refine rk_seq ?_
  refine rk_region ?_
  refine wl_p (fun _ => o_assign rfl) ?_
  refine wl_nil ?_
  refine ret1 rfl rfl ?_
  exact ⟨rfl, by assumption, hcg⟩
theorem C_rCrash {lo hi lo2 hi2 g n cp : Nat} {S S0 : List Sec} {C C0 : List (Option Sec)} {K : Option Addr} {kp : List Bool} (w : World) (hd : RfAt w lo hi g S C) (hk : RdBo w lo2 hi2 K kp) (hS0 : crash S C kp = S0) (hC0 : List.replicate S.length none = C0) (ha : hi2 ≤ lo ∨ hi ≤ lo2) (hn : n = kp.length) (hm : n ≤ 1000000) :
    CallsR Tryz.prog 25 [.pointer (some ⟨g, 0, none⟩), .slice K n cp] w fun v w' => v = .int .i64 0 ∧ RfAt w' lo hi g S0 C0 ∧ Chg lo hi w w' := by
  refine callsR Tryz.func25 rfl rfl (by kernel_rfl) rfl ?_
  have hcg : Chg lo hi w w := Chg.refl
  refine rk_seq ?_
  refine rk_region ?_
  refine wl_p (fun _ => o_assign rfl) ?_
  refine wl_nil ?_
  refine rk_seq ?_
  refine rk_region ?_
  refine wl_p (fun _ => o_move rfl) ?_
  refine wl_p (fun _ => o_move rfl) ?_
  refine wl_call rfl (C_putKeep _ hd hk hS0 hC0 (by omega) hn (by omega)) ?_
  rintro v7 w7 ⟨rfl, ⟨f7, g7⟩⟩
  have s7 := g7.size
  replace hcg := hcg.trans (g7.wide (by omega) (by omega))
  replace hk := hk.c g7 (by omega)
  clear hd
  refine wl_nil ?_
  refine rk_seq ?_
  refine rk_region ?_
  refine wl_p (fun _ => o_assign rfl) ?_
  refine wl_nil ?_
  refine ret1 rfl rfl ?_
  exact ⟨rfl, by assumption, hcg⟩
end Go.Proofs.YtklijaahbahcoaaGreatDoor
/-
  The document's page file in memory; walks of its methods.
-/
namespace Go.Proofs.YtklijaahbahcoaaGreatDoor
set_option maxRecDepth 100000
open Go.RowKit
theorem C_rReadO {lo hi g : Nat} {S : List Sec} {C : List (Option Sec)} {a : Int} {r : By × Nat} (w : World) (hd : RfAt w lo hi g S C) (hr : rdD S C a = r) (wa : (Lit.int .i64 a).wf = true) :
    CallsR Tryz.prog 45 [.pointer (some ⟨g, 0, none⟩), .int .i64 a] w fun v w' => ∃ (A : Option Addr) (c : Nat), v = .tuple #[.slice A r.1.length c, .int .i64 (r.2 : Int)] ∧ OwnH w' w.heap.size w'.heap.size A c r.1 ∧ Below w.heap.size w w' := K_rReadO w hd hr wa
theorem OwnZ.c {w w' : World} {lo hi lo' hi' cp : Nat} {A : Option Addr} {L : List Int} (h : OwnZ w lo hi A cp L) (hc : Chg lo' hi' w w') (ha : hi ≤ lo' ∨ hi' ≤ lo) : OwnZ w' lo hi A cp L := RowH.c h hc ha
/-- The document's page file at block g, on the disk at block gd; what says which pages are in use lies in the blocks from lo to hi. -/
structure RpAt (w : World) (g gd lo hi : Nat) (U : List Bool) : Prop where
  ex : ∃ A c, Blk w g 69 [.pointer (some ⟨gd, 0, none⟩), .slice A U.length c] ∧ OwnBo w lo hi A c U
  hi : hi ≤ w.heap.size
  len : U.length ≤ 8192
section
variable {w w' : World} {g gd lo hi lo' hi' : Nat} {U : List Bool} {e' : TypeId} {row : Option Nat}
theorem RpAt.u (h : RpAt w g gd lo hi U) (hb : Below w.heap.size w w') : RpAt w' g gd lo hi U := by
  obtain ⟨A, c, h1, h2⟩ := h.ex
  exact ⟨⟨A, c, h1.u hb, h2.u hb⟩, Nat.le_trans h.hi hb.size, h.len⟩
theorem RpAt.d (h : RpAt w g gd lo hi U) : RpAt w.drew g gd lo hi U := h.u (below_drew w)
theorem RpAt.c (h : RpAt w g gd lo hi U) (hc : Chg lo' hi' w w') (ha : (g < lo' ∨ hi' ≤ g) ∧ (hi ≤ lo' ∨ hi' ≤ lo)) : RpAt w' g gd lo hi U := by
  obtain ⟨A, c, h1, h2⟩ := h.ex
  exact ⟨⟨A, c, h1.c hc ha.1, h2.c hc ha.2⟩, Nat.le_trans h.hi hc.size, h.len⟩
theorem RpAt.y (h : RpAt w g gd lo hi U) (hg : Grew w w' e' row) (hne : e' ≠ 69 ∧ e' ≠ 4) : RpAt w' g gd lo hi U := by
  obtain ⟨A, c, h1, h2⟩ := h.ex
  exact ⟨⟨A, c, h1.y hg hne.1, h2.y hg hne.2⟩, Nat.le_trans h.hi hg.size, h.len⟩
end
theorem C_rpOpenOk {gd m n c : Nat} {lo hi : Nat} {B : Option Addr} {zs : List Int} {U : List Bool} {S : List Sec} {C : List (Option Sec)} (w : World) (hd : RfAt w lo hi gd S C) (hz : RZ w B zs) (hn : n = zs.length) (hnm : n ≤ 100000) (hm : S.length / 2 = m) (ho : openOk m zs = true) (hU : markAll (List.replicate m false) zs = U) :
    CallsR Tryz.prog 10 [.pointer (some ⟨gd, 0, none⟩), .slice B n c] w fun v w' => ∃ g, v = .tuple #[.pointer (some ⟨g, 0, none⟩), .int .i64 0] ∧ RpAt w' g gd w.heap.size w'.heap.size U ∧ w.heap.size ≤ g ∧ g < w'.heap.size ∧ Below w.heap.size w w' := by
  subst hn; subst hm
  have hn1 := hd.n1
  have hn2 := hd.n2
  have hdiv : (S.length : Int) / 2 = ((S.length / 2 : Nat) : Int) := by omega
  refine callsR Tryz.func10 rfl rfl (by kernel_rfl) rfl ?_
  have hw := Below.refl w.heap.size w
  refine rk_seq ?_
  refine rk_region ?_
  refine wl_p (fun _ => o_assign rfl) ?_
  refine wl_p (fun _ => o_assign rfl) ?_
  refine wl_nil ?_
  refine rk_seq ?_
  refine rk_seq ?_
  refine rk_region ?_
  refine wl_p (fun _ => o_move rfl) ?_
  refine wl_p (fun _ => o_peq_nil (t := 30) Tryz.underlying30 rfl rfl) ?_
  refine wl_nil ?_
  refine rk_false rfl ?_
  refine rk_skip ?_
  refine rk_seq ?_
  refine rk_region ?_
  refine wl_p (fun _ => o_move rfl) ?_
  refine wl_p (fun _ => o_move rfl) ?_
  refine wl_call rfl (C_rSize _ hd) ?_
  rintro v12 w12 ⟨rfl, rfl⟩
  refine wl_p (fun _ => o_quo rfl rfl (by omega) (by omega) (by omega)) ?_
  refine wl_mkBo (S.length / 2) rfl rfl (by omega) hdiv (by omega) ?_
  rintro A14 w14 f14 b14
  have qf14 := f14.cap
  have s14 := b14.size
  replace hw := hw.trans (b14.mono hw.size)
  refine wl_p (fun _ => (o_buildg [_, _] Tryz.underlying69 Tryz.zeroValue69 (by rfl) (by rfl) rfl (by rfl) (by rfl) (fun _ => by kernel_rfl))) ?_
  refine wl_boxg [_, _] rfl (by rfl) ?_
  rintro g16 w16 f16 b16 i16 i16_1
  have s16 := b16.size
  replace hw := hw.trans (b16.mono hw.size)
  replace f14 := f14.u b16
  refine wl_p (fun _ => o_assign rfl) ?_
  refine wl_nil ?_
  refine rk_seq ?_
  refine rk_seq ?_
  refine rk_region ?_
  refine wl_p (fun _ => o_assign rfl) ?_
  refine wl_nil ?_
  refine rk_block ?_
  have hsz := hw.size
  refine rk_joinf (fun fb fr V => fr = [] ++ fb.drop 1 ∧ Blk V g16 69 [.pointer (some ⟨gd, 0, none⟩), .slice A14 (S.length / 2) (S.length / 2)] ∧ OwnBo V w12.heap.size w16.heap.size A14 (S.length / 2) U ∧ w16.heap.size ≤ V.heap.size ∧ Below w12.heap.size w12 V) ?_ (fun ks hj => ?_)
  rotate_left
  · refine rk_loopf (fun fb k fr V => ∃ (i : Nat) (v : Int) (q : List Bool), fr = [(7, .int .i64 v)] ++ fb.drop 1 ∧ v = i ∧ i ≤ zs.length ∧ k = zs.length - i ∧ q = markAll (List.replicate (S.length / 2) false) (zs.take i) ∧ Blk V g16 69 [.pointer (some ⟨gd, 0, none⟩), .slice A14 (S.length / 2) (S.length / 2)] ∧ OwnBo V w12.heap.size w16.heap.size A14 (S.length / 2) q ∧ w16.heap.size ≤ V.heap.size ∧ Below w12.heap.size w12 V) (n := zs.length) (Fr.le_of (by kernel_rfl) (by kernel_rfl) (by repeat' constructor)) ⟨0, _, _, rfl, rfl, by omega, rfl, rfl, f16, f14.base (by omega) (by omega), Nat.le_refl _, hw⟩ ?_
    clear f14 f16 hw
    rintro k fr V ⟨i, v, q, rfl, rfl, hi, rfl, hq, f16, f14, hsV, hw⟩
    have hql : q.length = S.length / 2 := by rw [hq, markAll_len, List.length_replicate]
    first | refine rk_frame (by simp only [List.cons_append, List.nil_append, List.drop_succ_cons, List.drop_zero]; rfl) ?_ | refine wl_frame (by simp only [List.cons_append, List.nil_append, List.drop_succ_cons, List.drop_zero]; rfl) ?_
    refine rk_seq ?_
    refine rk_seq ?_
    refine rk_region ?_
    refine wl_p (fun _ => o_move rfl) ?_
    refine wl_p (fun _ => o_move rfl) ?_
    refine wl_p (fun _ => o_len (t := 39) Tryz.underlying39 rfl) ?_
    refine wl_p (fun _ => o_lt rfl rfl) ?_
    refine wl_nil ?_
    refine rk_if rfl (fun h20 => ?_) (fun h20 => ?_)
    · have hil : i < zs.length := by omega
      have hzi := List.all_eq_true.1 ho _ (List.getElem_mem hil)
      rw [decide_eq_true_eq] at hzi
      obtain ⟨z, hzz⟩ : ∃ z : Nat, zs[i] = (z : Int) := ⟨zs[i].toNat, by omega⟩
      refine rk_skip ?_
      refine rk_seq ?_
      refine rk_block ?_
      refine rk_seq ?_
      refine rk_seq ?_
      refine rk_draw (id := 7) (none) [0, 0, 3, 4, 8, 16, 32, 32, 224, 288, 32, 1056, 2080, 4128, 8224, 16928, 32800] [0, 0, 3, 7, 15, 31, 63, 63, 255, 511, 63, 1087, 3135, 7231, 15423, 32767, 65535] 0 0 [(.p, 0), (.p, 1), (.p, 2), (.r, 3), (.p, 4), (.p, 5), (.p, 6), (.p, 7), (.p, 8), (.r, 9), (.p, 10), (.p, 11), (.p, 12), (.r, 13), (.p, 14), (.p, 15), (.p, 16)] (by kernel_rfl) (by kernel_rfl) (by kernel_rfl) (by kernel_rfl) (by kernel_rfl) ?_
      replace hw := hw.drew
      replace f14 := f14.d
      replace f16 := f16.d
      refine wl_p (fun _ => o_move rfl) ?_
      refine wl_p (fun _ => o_move rfl) ?_
      refine wl_p (fun _ => (o_iaddrA1 (i) Tryz.underlying39 Tryz.sizeOf3 rfl rfl rfl (Reads.some_ hz.to_Reads (by decide) (by omega)) (by omega))) ?_
      refine wl_r (o_loadZ Tryz.isAgg3 rfl (hz.u hw).to_Reads (by omega)) ?_
      refine wl_p (fun _ => o_lt rfl rfl) ?_
      refine wl_p (fun _ => o_move rfl) ?_
      refine wl_know 28 false rfl (decide_eq_false (by omega)) ?_
      refine wl_p (fun _ => o_move rfl) ?_
      refine wl_p (fun _ => o_move rfl) ?_
      refine wl_p (fun _ => (o_iaddrA1 (i) Tryz.underlying39 Tryz.sizeOf3 rfl rfl rfl (Reads.some_ hz.to_Reads (by decide) (by omega)) (by omega))) ?_
      refine wl_r (o_loadZ Tryz.isAgg3 rfl (hz.u hw).to_Reads (by omega)) ?_
      refine wl_p (fun _ => o_move rfl) ?_
      refine wl_p (fun _ => o_nil rfl) ?_
      refine wl_p (fun _ => o_faddr (s := 69) (i := 1) (off := 1) Tryz.underlying69 rfl Tryz.sizeOf53 rfl rfl rfl) ?_
      refine wl_r (o_loadbg Tryz.isAgg53 rfl f16 (by rfl)) ?_
      refine wl_p (fun _ => o_len (t := 53) Tryz.underlying53 rfl) ?_
      refine wl_p (fun _ => o_ge rfl rfl) ?_
      refine wl_p (fun _ => o_pick_f rfl rfl) ?_
      refine wl_nild ?_
      refine rk_if rfl (fun h39 => absurd h39 (by omega)) (fun h39 => ?_)
      refine rk_skip ?_
      refine rk_draw (id := 9) (none) [0, 1, 2, 4, 0, 0, 48, 64, 255, 511] [0, 1, 3, 7, 0, 0, 48, 112, 255, 511] 512 0 [(.p, 0), (.p, 1), (.p, 2), (.r, 3), (.p, 4), (.p, 5), (.p, 6), (.r, 7), (.p, 8), (.l, 9)] (by kernel_rfl) (by kernel_rfl) (by kernel_rfl) (by kernel_rfl) (by kernel_rfl) ?_
      replace hw := hw.drew
      replace f16 := f16.d
      replace f14 := f14.d
      refine wl_p (fun _ => o_move rfl) ?_
      refine wl_p (fun _ => o_nil rfl) ?_
      refine wl_p (fun _ => o_faddr (s := 69) (i := 1) (off := 1) Tryz.underlying69 rfl Tryz.sizeOf53 rfl rfl rfl) ?_
      refine wl_r (o_loadbg Tryz.isAgg53 rfl f16 (by rfl)) ?_
      refine wl_p (fun _ => o_move rfl) ?_
      refine wl_p (fun _ => o_move rfl) ?_
      refine wl_p (fun _ => (o_iaddrA1 (i) Tryz.underlying39 Tryz.sizeOf3 rfl rfl rfl (Reads.some_ hz.to_Reads (by decide) (by omega)) (by omega))) ?_
      refine wl_r (o_loadZ Tryz.isAgg3 rfl (hz.u hw).to_Reads (by omega)) ?_
      refine wl_p (fun _ => (o_iaddrA1 (z) Tryz.underlying53 Tryz.sizeOf4 rfl rfl hzz (f14.some_ (by omega)) (by omega))) ?_
      refine wl_stBo Tryz.sizeOf4 rfl f14 rfl (by omega) ?_
      rintro w f g b e
      simp only [drew_size] at e
      have qf := f.cap
      have s := g.size
      simp only [drew_size] at s
      replace hw := hw.trans (b.mono (by omega))
      replace f16 := f16.y g (by decide)
      clear f14
      refine wl_nild ?_
      refine rk_blk ?_
      refine rk_region ?_
      refine wl_p (fun _ => o_move rfl) ?_
      refine wl_p (fun _ => o_add rfl rfl (by omega) (by omega)) ?_
      refine wl_p (fun _ => o_assign rfl) ?_
      refine wl_nil ?_
      exact rk_againf (Fr.le_of (by kernel_rfl) (by kernel_rfl) (by repeat' constructor)) ⟨i + 1, (i : Int) + 1, q.set z true, rfl, by omega, by omega, rfl, by rw [List.take_succ_eq_append_getElem hil, markAll_snoc, hzz, hq]; rfl, f16, by assumption, by omega, hw⟩ (by omega)
    · refine rk_exit rfl ?_
      obtain rfl : i = zs.length := by omega
      rw [List.take_length, hU] at hq
      subst hq
      exact rk_tof hj (Fr.le_of (by kernel_rfl) (by kernel_rfl) (by repeat' constructor)) ⟨rfl, f16, f14, hsV, hw⟩
  clear f14 f16 hw
  rintro fr V ⟨rfl, f16, f14, hsV, hw⟩
  have hUl : U.length = S.length / 2 := by rw [← hU, markAll_len, List.length_replicate]
  first | refine rk_frame (by simp only [List.cons_append, List.nil_append, List.drop_succ_cons, List.drop_zero]; rfl) ?_ | refine wl_frame (by simp only [List.cons_append, List.nil_append, List.drop_succ_cons, List.drop_zero]; rfl) ?_
  refine rk_seq ?_
  refine rk_region ?_
  refine wl_p (fun _ => o_move rfl) ?_
  refine wl_p (fun _ => o_assign rfl) ?_
  refine wl_p (fun _ => o_assign rfl) ?_
  refine wl_nil ?_
  refine ret2 rfl rfl rfl ?_
  have hsz2 := hw.size
  exact ⟨g16, rfl, ⟨⟨A14, S.length / 2, by rw [hUl]; exact f16, f14.base (by omega) (by omega)⟩, Nat.le_refl _, by omega⟩, by omega, by omega, hw⟩
theorem C_rpIs {g gd lo hi : Nat} {z : Int} {U : List Bool} {r : Bool} (w : World) (hp : RpAt w g gd lo hi U) (hr : usdAt U z = r) :
    CallsR Tryz.prog 44 [.pointer (some ⟨g, 0, none⟩), .int .i64 z] w fun v w' => v = .bool r ∧ w' = w := by
  obtain ⟨A, c, f, fs⟩ := hp.ex
  have hl := hp.len
  subst hr
  by_cases h0 : 0 ≤ z
  · obtain ⟨n, rfl⟩ : ∃ n : Nat, z = (n : Int) := ⟨z.toNat, by omega⟩
    by_cases h1 : n < U.length
    · have e : usdAt U (n : Int) = U[n] := by rw [usdAt, Int.toNat_natCast, decide_eq_true (by omega), Bool.true_and, List.getD_eq_getElem?_getD, List.getElem?_eq_getElem h1]; rfl
      rw [e]
      refine callsR Tryz.func44 rfl rfl (by kernel_rfl) rfl ?_
      refine rk_seq ?_
      refine rk_region ?_
      refine wl_p (fun _ => o_assign rfl) ?_
      refine wl_nil ?_
      refine rk_seq ?_
      refine rk_region ?_
      refine wl_p (fun _ => o_move rfl) ?_
      refine wl_p (fun _ => o_ge rfl rfl) ?_
      refine wl_p (fun _ => o_move rfl) ?_
      refine wl_p (fun _ => o_move rfl) ?_
      refine wl_p (fun _ => o_move rfl) ?_
      refine wl_p (fun _ => o_nil rfl) ?_
      refine wl_p (fun _ => o_faddr (s := 69) (i := 1) (off := 1) Tryz.underlying69 rfl Tryz.sizeOf53 rfl rfl rfl) ?_
      refine wl_r (o_loadbg Tryz.isAgg53 rfl f (by rfl)) ?_
      refine wl_p (fun _ => o_len (t := 53) Tryz.underlying53 rfl) ?_
      refine wl_p (fun _ => o_lt rfl rfl) ?_
      refine wl_p (fun _ => o_pick_t rfl rfl) ?_
      refine wl_p (fun _ => o_move rfl) ?_
      refine wl_know 16 true rfl (decide_eq_true (by omega)) ?_
      refine wl_p (fun _ => o_move rfl) ?_
      refine wl_p (fun _ => o_nil rfl) ?_
      refine wl_p (fun _ => o_faddr (s := 69) (i := 1) (off := 1) Tryz.underlying69 rfl Tryz.sizeOf53 rfl rfl rfl) ?_
      refine wl_r (o_loadbg Tryz.isAgg53 rfl f (by rfl)) ?_
      refine wl_p (fun _ => o_move rfl) ?_
      refine wl_p (fun _ => (o_iaddrA1 (n) Tryz.underlying53 Tryz.sizeOf4 rfl rfl rfl (fs.some_ (by omega)) (by omega))) ?_
      refine wl_r (o_ldBo Tryz.isAgg4 rfl fs.to_RdBo (by omega)) ?_
      refine wl_p (fun _ => o_pick_t rfl rfl) ?_
      refine wl_p (fun _ => o_assign rfl) ?_
      refine wl_nil ?_
      refine ret1 rfl rfl ?_
      exact ⟨rfl, rfl⟩
    · have e : usdAt U (n : Int) = false := by rw [usdAt, Int.toNat_natCast, getD_past U (by omega), Bool.and_false]
      rw [e]
      refine callsR Tryz.func44 rfl rfl (by kernel_rfl) rfl ?_
      refine rk_seq ?_
      refine rk_region ?_
      refine wl_p (fun _ => o_assign rfl) ?_
      refine wl_nil ?_
      refine rk_seq ?_
      refine rk_region ?_
      refine wl_p (fun _ => o_move rfl) ?_
      refine wl_p (fun _ => o_ge rfl rfl) ?_
      refine wl_p (fun _ => o_move rfl) ?_
      refine wl_p (fun _ => o_move rfl) ?_
      refine wl_p (fun _ => o_move rfl) ?_
      refine wl_p (fun _ => o_nil rfl) ?_
      refine wl_p (fun _ => o_faddr (s := 69) (i := 1) (off := 1) Tryz.underlying69 rfl Tryz.sizeOf53 rfl rfl rfl) ?_
      refine wl_r (o_loadbg Tryz.isAgg53 rfl f (by rfl)) ?_
      refine wl_p (fun _ => o_len (t := 53) Tryz.underlying53 rfl) ?_
      refine wl_p (fun _ => o_lt rfl rfl) ?_
      refine wl_p (fun _ => o_pick_t rfl rfl) ?_
      refine wl_p (fun _ => o_move rfl) ?_
      refine wl_know 16 false rfl (decide_eq_false (by omega)) ?_
      refine wl_off ?_
      refine wl_off ?_
      refine wl_off ?_
      refine wl_off ?_
      refine wl_off ?_
      refine wl_off ?_
      refine wl_off ?_
      refine wl_p (fun _ => o_pick_f rfl rfl) ?_
      refine wl_p (fun _ => o_assign rfl) ?_
      refine wl_nil ?_
      refine ret1 rfl rfl ?_
      exact ⟨rfl, rfl⟩
  · have e : usdAt U z = false := by rw [usdAt, decide_eq_false h0, Bool.false_and]
    rw [e]
    refine callsR Tryz.func44 rfl rfl (by kernel_rfl) rfl ?_
    refine rk_seq ?_
    refine rk_region ?_
    refine wl_p (fun _ => o_assign rfl) ?_
    refine wl_nil ?_
    refine rk_seq ?_
    refine rk_region ?_
    refine wl_p (fun _ => o_move rfl) ?_
    refine wl_p (fun _ => o_ge rfl rfl) ?_
    refine wl_p (fun _ => o_move rfl) ?_
    refine wl_know 7 false rfl (decide_eq_false (by omega)) ?_
    refine wl_off ?_
    refine wl_off ?_
    refine wl_off ?_
    refine wl_off ?_
    refine wl_off ?_
    refine wl_off ?_
    refine wl_off ?_
    refine wl_p (fun _ => o_pick_f rfl rfl) ?_
    refine wl_p (fun _ => o_move rfl) ?_
    refine wl_off ?_
    refine wl_off ?_
    refine wl_off ?_
    refine wl_off ?_
    refine wl_off ?_
    refine wl_off ?_
    refine wl_off ?_
    refine wl_p (fun _ => o_pick_f rfl rfl) ?_
    refine wl_p (fun _ => o_assign rfl) ?_
    refine wl_nil ?_
    refine ret1 rfl rfl ?_
    exact ⟨rfl, rfl⟩
theorem C_rpFree {g gd lo hi : Nat} {z : Int} {U : List Bool} {r : Nat × List Bool} (w : World) (hp : RpAt w g gd lo hi U) (hr : freeP U z = r) :
    CallsR Tryz.prog 17 [.pointer (some ⟨g, 0, none⟩), .int .i64 z] w fun v w' => v = .int .i64 (r.1 : Nat) ∧ RpAt w' g gd lo hi r.2 ∧ Chg lo hi w w' ∧ ∃ row, Grew w w' 4 row := by
  subst hr
  rw [freeP]
  by_cases hu : usdAt U z = true
  · rw [if_pos hu]
    obtain ⟨hz0, hz1⟩ := usdAt_lt hu
    obtain ⟨n, rfl⟩ : ∃ n : Nat, z = (n : Int) := ⟨z.toNat, by omega⟩
    rw [Int.toNat_natCast] at hz1 ⊢
    obtain ⟨A, c, f, fs⟩ := hp.ex
    have hl := hp.len
    have hhi := hp.hi
    have hsl : (U.set n false).length = U.length := List.length_set
    refine callsR Tryz.func17 rfl rfl (by kernel_rfl) rfl ?_
    have hcg : Chg lo hi w w := Chg.refl
    refine rk_seq ?_
    refine rk_region ?_
    refine wl_p (fun _ => o_assign rfl) ?_
    refine wl_nil ?_
    refine rk_seq ?_
    refine rk_seq ?_
    refine rk_region ?_
    refine wl_p (fun _ => o_move rfl) ?_
    refine wl_p (fun _ => o_move rfl) ?_
    refine wl_call rfl (C_rpIs _ hp hu) ?_
    rintro v7 w7 ⟨rfl, rfl⟩
    refine wl_p (fun _ => o_not rfl) ?_
    refine wl_nil ?_
    refine rk_false rfl ?_
    refine rk_skip ?_
    refine rk_seq ?_
    refine rk_region ?_
    refine wl_p (fun _ => o_move rfl) ?_
    refine wl_p (fun _ => o_nil rfl) ?_
    refine wl_p (fun _ => o_faddr (s := 69) (i := 1) (off := 1) Tryz.underlying69 rfl Tryz.sizeOf53 rfl rfl rfl) ?_
    refine wl_r (o_loadbg Tryz.isAgg53 rfl f (by rfl)) ?_
    refine wl_p (fun _ => o_move rfl) ?_
    refine wl_p (fun _ => (o_iaddrA1 (n) Tryz.underlying53 Tryz.sizeOf4 rfl rfl rfl (fs.some_ (by omega)) (by omega))) ?_
    refine wl_stBo Tryz.sizeOf4 rfl fs rfl (by omega) ?_
    rintro w f_1 g_1 b e
    have qf_1 := f_1.cap
    have s := g_1.size
    replace hcg := hcg.trans ((Chg.of_g g_1.g f_1.rng).wide (by omega) (by omega))
    replace f := f.y g_1 (by decide)
    clear fs
    clear hp
    refine wl_nil ?_
    refine rk_seq ?_
    refine rk_region ?_
    refine wl_p (fun _ => o_assign rfl) ?_
    refine wl_nil ?_
    refine ret1 rfl rfl ?_
    exact ⟨rfl, ⟨⟨A, c, by rw [hsl]; exact f, f_1⟩, by omega, by rw [hsl]; exact hl⟩, hcg, _, by first | assumption | exact Grew.of_drew (by assumption)⟩
  · rw [if_neg hu]
    have hu : usdAt U z = false := by cases h : usdAt U z with | true => exact absurd h hu | false => rfl
    refine callsR Tryz.func17 rfl rfl (by kernel_rfl) rfl ?_
    have hcg : Chg lo hi w w := Chg.refl
    refine rk_seq ?_
    refine rk_region ?_
    refine wl_p (fun _ => o_assign rfl) ?_
    refine wl_nil ?_
    refine rk_seq ?_
    refine rk_seq ?_
    refine rk_region ?_
    refine wl_p (fun _ => o_move rfl) ?_
    refine wl_p (fun _ => o_move rfl) ?_
    refine wl_call rfl (C_rpIs _ hp hu) ?_
    rintro v7 w7 ⟨rfl, rfl⟩
    refine wl_p (fun _ => o_not rfl) ?_
    refine wl_nil ?_
    refine rk_true rfl ?_
    refine rk_seq ?_
    refine rk_region ?_
    refine wl_p (fun _ => o_assign rfl) ?_
    refine wl_nil ?_
    refine ret1 rfl rfl ?_
    exact ⟨rfl, hp, hcg, _, Grew.refl_⟩
theorem C_rpSync {g gd lo hi dl dh : Nat} {U : List Bool} {S S0 : List Sec} {C C0 : List (Option Sec)} (w : World) (hp : RpAt w g gd lo hi U) (hd : RfAt w dl dh gd S C) (hS0 : cur S C = S0) (hC0 : List.replicate S.length none = C0) :
    CallsR Tryz.prog 19 [.pointer (some ⟨g, 0, none⟩)] w fun v w' => v = .int .i64 0 ∧ RfAt w' dl dh gd S0 C0 ∧ Chg dl dh w w' := by
  obtain ⟨A, c, f, fs⟩ := hp.ex
  refine callsR Tryz.func19 rfl rfl (by kernel_rfl) rfl ?_
  have hcg : Chg dl dh w w := Chg.refl
  refine rk_seq ?_
  refine rk_region ?_
  refine wl_p (fun _ => o_assign rfl) ?_
  refine wl_nil ?_
  refine rk_seq ?_
  refine rk_region ?_
  refine wl_p (fun _ => o_move rfl) ?_
  refine wl_p (fun _ => o_nil rfl) ?_
  refine wl_p (fun _ => o_faddr (s := 69) (i := 0) (off := 0) Tryz.underlying69 rfl Tryz.sizeOf30 rfl rfl rfl) ?_
  refine wl_r (o_loadbg Tryz.isAgg30 rfl f (by rfl)) ?_
  refine wl_call rfl (C_rFlush _ hd hS0 hC0) ?_
  rintro v7 w7 ⟨rfl, ⟨f7, g7⟩⟩
  have s7 := g7.size
  replace hcg := hcg.trans (g7.wide (by omega) (by omega))
  clear fs
  clear f
  clear hd
  clear hp
  refine wl_p (fun _ => o_assign rfl) ?_
  refine wl_nil ?_
  refine ret1 rfl rfl ?_
  exact ⟨rfl, by assumption, hcg⟩
set_option maxRecDepth 100000 in
theorem C_rpUsed {g gd lo hi : Nat} {U : List Bool} {I : List Int} (w : World) (hp : RpAt w g gd lo hi U) (hI : usdZ U U.length = I) :
    CallsR Tryz.prog 22 [.pointer (some ⟨g, 0, none⟩)] w fun v w' => ∃ A c, v = .slice A I.length c ∧ OwnZ w' w.heap.size w'.heap.size A c I ∧ Below w.heap.size w w' := by
  have hl := hp.len
  refine callsR Tryz.func22 rfl rfl (by kernel_rfl) rfl ?_
  have hw := Below.refl w.heap.size w
  refine rk_seq ?_
  refine rk_region ?_
  refine wl_p (fun _ => o_assign rfl) ?_
  refine wl_nil ?_
  refine rk_seq ?_
  refine rk_region ?_
  refine wl_p (fun _ => o_assign rfl) ?_
  refine wl_nil ?_
  refine rk_seq ?_
  refine rk_seq ?_
  refine rk_region ?_
  refine wl_p (fun _ => o_assign rfl) ?_
  refine wl_nil ?_
  refine rk_block ?_
  refine rk_joinf (fun fb fr V => ∃ A c, fr = [(3, .slice A I.length c)] ++ fb.drop 2 ∧ OwnZ V w.heap.size V.heap.size A c I ∧ Below w.heap.size w V) ?_ (fun ks hj => ?_)
  rotate_left
  · refine rk_loopf (fun fb k fr V => ∃ (i : Nat) (v : Int) (A : Option Addr) (c : Nat) (Z : List Int), fr = [(4, .int .i64 v), (3, .slice A Z.length c)] ++ fb.drop 2 ∧ v = i ∧ i ≤ U.length ∧ k = U.length - i ∧ Z = usdZ U i ∧ OwnZ V w.heap.size V.heap.size A c Z ∧ Below w.heap.size w V) (n := U.length) (Fr.le_of (by kernel_rfl) (by kernel_rfl) (by repeat' constructor)) ⟨0, _, none, 0, [], rfl, rfl, by omega, rfl, rfl, OwnZ.nil_, hw⟩ ?_
    clear hw
    rintro k fr V ⟨i, v, A, c, Z, rfl, rfl, hi, rfl, hZ, f3, hw⟩
    have q3 := f3.cap
    have hsV := hw.size
    have hpV := hp.u hw
    obtain ⟨A1, c1, f, fs⟩ := hpV.ex
    have hZl : Z.length ≤ 8192 := by rw [hZ, usdZ_len]; have := usd_le U i; omega
    first | refine rk_frame (by simp only [List.cons_append, List.nil_append, List.drop_succ_cons, List.drop_zero]; rfl) ?_ | refine wl_frame (by simp only [List.cons_append, List.nil_append, List.drop_succ_cons, List.drop_zero]; rfl) ?_
    refine rk_seq ?_
    refine rk_seq ?_
    refine rk_region ?_
    refine wl_p (fun _ => o_move rfl) ?_
    refine wl_p (fun _ => o_move rfl) ?_
    refine wl_p (fun _ => o_nil rfl) ?_
    refine wl_p (fun _ => o_faddr (s := 69) (i := 1) (off := 1) Tryz.underlying69 rfl Tryz.sizeOf53 rfl rfl rfl) ?_
    refine wl_r (o_loadbg Tryz.isAgg53 rfl f (by rfl)) ?_
    refine wl_p (fun _ => o_len (t := 53) Tryz.underlying53 rfl) ?_
    refine wl_p (fun _ => o_lt rfl rfl) ?_
    refine wl_nil ?_
    refine rk_if rfl (fun h11 => ?_) (fun h11 => ?_)
    · have hil : i < U.length := by omega
      have hget : U.getD i false = U[i] := by rw [List.getD_eq_getElem?_getD, List.getElem?_eq_getElem hil]; rfl
      cases hu : U[i] with
      | true =>
        rw [hu] at hget
        have e : Z ++ [(i : Int)] = usdZ U (i + 1) := by rw [usdZ_succ U hget, hZ]
        refine rk_skip ?_
        refine rk_seq ?_
        refine rk_block ?_
        refine rk_seq ?_
        refine rk_region ?_
        refine wl_p (fun _ => o_move rfl) ?_
        refine wl_p (fun _ => o_nil rfl) ?_
        refine wl_p (fun _ => o_faddr (s := 69) (i := 1) (off := 1) Tryz.underlying69 rfl Tryz.sizeOf53 rfl rfl rfl) ?_
        refine wl_r (o_loadbg Tryz.isAgg53 rfl f (by rfl)) ?_
        refine wl_p (fun _ => o_move rfl) ?_
        refine wl_p (fun _ => (o_iaddrA1 (i) Tryz.underlying53 Tryz.sizeOf4 rfl rfl rfl (fs.some_ (by omega)) (by omega))) ?_
        refine wl_r (o_ldBo Tryz.isAgg4 rfl fs.to_RdBo (by omega)) ?_
        refine wl_nil ?_
        rw [hu]
        refine rk_true rfl ?_
        refine rk_region ?_
        refine wl_p (fun _ => o_move rfl) ?_
        refine wl_p (fun _ => o_move rfl) ?_
        refine wl_litZH [↑i] (by rfl) rfl rfl (by rfl) (by rfl) (by rfl) ?_
        rintro A23 w23 f23 b23
        have qf23 := f23.cap
        have s23 := b23.size
        replace hw := hw.trans (b23.mono hw.size)
        replace fs := fs.u b23
        replace f := f.u b23
        replace hpV := hpV.u b23
        replace f3 := f3.u b23
        refine wl_appZ rfl f3 rfl rfl f23.to_RZ (by rfl) (by omega) hw.size ?_
        rintro A24 c24 w24 f24 g24 b24 i24
        have qf24 := f24.cap
        have s24 := g24.size
        replace hw := hw.trans (b24.mono (by omega))
        replace hpV := hpV.y g24 (by decide)
        replace f := f.y g24 (by decide)
        replace fs := fs.y g24 (by decide)
        replace f23 := f23.k g24.g (f3.ap (by omega))
        clear f3
        refine wl_p (fun _ => o_assign rfl) ?_
        refine wl_nil ?_
        refine rk_blk ?_
        refine rk_region ?_
        refine wl_p (fun _ => o_move rfl) ?_
        refine wl_p (fun _ => o_add rfl rfl (by omega) (by omega)) ?_
        refine wl_p (fun _ => o_assign rfl) ?_
        refine wl_nil ?_
        exact rk_againf (Fr.le_of (by kernel_rfl) (by kernel_rfl) (by repeat' constructor)) ⟨i + 1, (i : Int) + 1, _, _, _, rfl, by omega, by omega, rfl, e, f24, hw⟩ (by omega)
      | false =>
        rw [hu] at hget
        have e : Z = usdZ U (i + 1) := by rw [hZ, usdZ, usdZ, usd_succ, hget, if_neg (by simp)]
        refine rk_skip ?_
        refine rk_seq ?_
        refine rk_block ?_
        refine rk_seq ?_
        refine rk_region ?_
        refine wl_p (fun _ => o_move rfl) ?_
        refine wl_p (fun _ => o_nil rfl) ?_
        refine wl_p (fun _ => o_faddr (s := 69) (i := 1) (off := 1) Tryz.underlying69 rfl Tryz.sizeOf53 rfl rfl rfl) ?_
        refine wl_r (o_loadbg Tryz.isAgg53 rfl f (by rfl)) ?_
        refine wl_p (fun _ => o_move rfl) ?_
        refine wl_p (fun _ => (o_iaddrA1 (i) Tryz.underlying53 Tryz.sizeOf4 rfl rfl rfl (fs.some_ (by omega)) (by omega))) ?_
        refine wl_r (o_ldBo Tryz.isAgg4 rfl fs.to_RdBo (by omega)) ?_
        refine wl_nil ?_
        rw [hu]
        refine rk_false rfl ?_
        refine rk_skip ?_
        refine rk_blk ?_
        refine rk_region ?_
        refine wl_p (fun _ => o_move rfl) ?_
        refine wl_p (fun _ => o_add rfl rfl (by omega) (by omega)) ?_
        refine wl_p (fun _ => o_assign rfl) ?_
        refine wl_nil ?_
        exact rk_againf (Fr.le_of (by kernel_rfl) (by kernel_rfl) (by repeat' constructor)) ⟨i + 1, (i : Int) + 1, A, c, Z, rfl, by omega, by omega, rfl, e, f3, hw⟩ (by omega)
    · refine rk_exit rfl ?_
      obtain rfl : i = U.length := by omega
      rw [hI] at hZ
      subst hZ
      exact rk_tof hj (Fr.le_of (by kernel_rfl) (by kernel_rfl) (by repeat' constructor)) ⟨A, c, rfl, f3, hw⟩
  clear hw
  rintro fr V ⟨A, c, rfl, f3, hw⟩
  first | refine rk_frame (by simp only [List.cons_append, List.nil_append, List.drop_succ_cons, List.drop_zero]; rfl) ?_ | refine wl_frame (by simp only [List.cons_append, List.nil_append, List.drop_succ_cons, List.drop_zero]; rfl) ?_
  refine rk_seq ?_
  refine rk_region ?_
  refine wl_p (fun _ => o_move rfl) ?_
  refine wl_p (fun _ => o_assign rfl) ?_
  refine wl_nil ?_
  refine ret1 rfl rfl ?_
  exact ⟨A, c, rfl, f3, hw⟩
theorem C_rpSpare {g gd lo hi k : Nat} {U : List Bool} (w : World) (hp : RpAt w g gd lo hi U) (hk : (usd U U.length).length = k) :
    CallsR Tryz.prog 29 [.pointer (some ⟨g, 0, none⟩)] w fun v w' => v = .int .i64 ((U.length : Int) - k) ∧ Below w.heap.size w w' := by
  obtain ⟨I, hI⟩ : ∃ I, usdZ U U.length = I := ⟨_, rfl⟩
  have hIl : I.length = k := by rw [← hI, usdZ_len, hk]
  have hl := hp.len
  have hkl := usd_le U U.length
  obtain ⟨A1, c1, f, fs⟩ := hp.ex
  refine callsR Tryz.func29 rfl rfl (by kernel_rfl) rfl ?_
  have hw := Below.refl w.heap.size w
  refine rk_seq ?_
  refine rk_region ?_
  refine wl_p (fun _ => o_assign rfl) ?_
  refine wl_nil ?_
  refine rk_seq ?_
  refine rk_draw (id := 1) (none) [0, 1, 2, 4, 8, 0, 32, 64, 144, 511] [0, 1, 3, 7, 15, 0, 32, 96, 255, 511] 64 64 [(.p, 0), (.p, 1), (.p, 2), (.s, 3), (.p, 4), (.p, 5), (.c, 6), (.p, 7), (.p, 8), (.p, 9)] (by kernel_rfl) (by kernel_rfl) (by kernel_rfl) (by kernel_rfl) (by kernel_rfl) ?_
  replace hw := hw.drew
  refine wl_p (fun _ => o_move rfl) ?_
  refine wl_p (fun _ => o_nil rfl) ?_
  refine wl_p (fun _ => o_faddr (s := 69) (i := 1) (off := 1) Tryz.underlying69 rfl Tryz.sizeOf53 rfl rfl rfl) ?_
  refine wl_s (fun _ hk => (o_loadbg Tryz.isAgg53 rfl ((f.u hw).u (below_of_grown_none hk)) (by rfl))) ?_
  refine wl_p (fun _ => o_len (t := 53) Tryz.underlying53 rfl) ?_
  refine wl_p (fun _ => o_move rfl) ?_
  refine wl_call rfl (C_rpUsed _ (hp.u hw) hI) ?_ (hq := .inr fun _ _ h => grown_of_below h.choose_spec.choose_spec.2.2 _)
  rintro v9 w9 ⟨A9, ⟨c9, ⟨rfl, ⟨f9, b9⟩⟩⟩⟩
  simp only [drew_size] at f9
  simp only [drew_size] at b9
  have qf9 := f9.cap
  have s9 := b9.size
  simp only [drew_size] at s9
  replace hw := hw.trans (b9.mono hw.size)
  refine wl_p (fun _ => o_len (t := 39) Tryz.underlying39 rfl) ?_
  refine wl_p (fun _ => o_sub rfl rfl (by omega) (by omega)) ?_
  refine wl_p (fun _ => o_assign rfl) ?_
  refine wl_nild ?_
  refine ret1 rfl rfl ?_
  exact ⟨by rw [hIl], hw⟩
end Go.Proofs.YtklijaahbahcoaaGreatDoor
/-
  The document's page file: walks of Keep, Read, New.
-/
namespace Go.Proofs.YtklijaahbahcoaaGreatDoor
set_option maxRecDepth 100000
open Go.RowKit
theorem Grew.thenB {w w' w'' : World} {e : TypeId} {row : Option Nat} (h : Grew w w' e row) (k : Below w'.heap.size w' w'') : Grew w w'' e row :=
  ⟨⟨k.os.trans h.g.os, k.tape.trans h.g.tape, k.output.trans h.g.output, Nat.le_trans h.g.size k.size, fun i hi hn => (k.block i (Nat.lt_of_lt_of_le hi h.g.size)).trans (h.g.block i hi hn)⟩, h.ty⟩
theorem rd_cutB {w : World} {A : Option Addr} {p : By} {k c : Nat} (h : Rd w A p) (hk : k ≤ p.length) (hc : p.length ≤ c) : Rd w (cutA A c 1 k) (p.drop k) := by
  have h4 := (h.drop (k := k) (cap := c) hk hc)
  have h5 : cutA A c 1 k = if c = k then A else A.map (·.add k) := by unfold cutA; rw [Nat.mul_one]
  rw [h5]
  exact h4
theorem C_rpKeepNo {g gd lo hi n c : Nat} {B : Option Addr} {zs : List Int} {U : List Bool} (w : World) (hp : RpAt w g gd lo hi U) (hz : RZ w B zs) (hn : n = zs.length) (hnm : n ≤ 100000) (ho : zs.all (usdAt U) = false) :
    CallsR Tryz.prog 21 [.pointer (some ⟨g, 0, none⟩), .slice B n c] w fun v w' => v = .tuple #[.int .i64 0, .int .i64 6] ∧ Below w.heap.size w w' := by
  subst hn
  have hl := hp.len
  obtain ⟨A1, c1, f, fs⟩ := hp.ex
  refine callsR Tryz.func21 rfl rfl (by kernel_rfl) rfl ?_
  have hw := Below.refl w.heap.size w
  refine rk_seq ?_
  refine rk_region ?_
  refine wl_p (fun _ => o_assign rfl) ?_
  refine wl_p (fun _ => o_assign rfl) ?_
  refine wl_nil ?_
  refine rk_seq ?_
  refine rk_region ?_
  refine wl_p (fun _ => o_move rfl) ?_
  refine wl_p (fun _ => o_nil rfl) ?_
  refine wl_p (fun _ => o_faddr (s := 69) (i := 1) (off := 1) Tryz.underlying69 rfl Tryz.sizeOf53 rfl rfl rfl) ?_
  refine wl_r (o_loadbg Tryz.isAgg53 rfl f (by rfl)) ?_
  refine wl_p (fun _ => o_len (t := 53) Tryz.underlying53 rfl) ?_
  refine wl_mkBo (U.length) rfl rfl rfl rfl (by omega) ?_
  rintro A14 w14 f14 b14
  have qf14 := f14.cap
  have s14 := b14.size
  replace hw := hw.trans (b14.mono hw.size)
  refine wl_p (fun _ => o_assign rfl) ?_
  refine wl_nil ?_
  refine rk_seq ?_
  refine rk_seq ?_
  refine rk_region ?_
  refine wl_p (fun _ => o_assign rfl) ?_
  refine wl_nil ?_
  refine rk_block ?_
  have hsz := hw.size
  refine rk_joinf (fun fb fr V => False) ?_ (fun ks hj => ?_)
  rotate_left
  · refine rk_loopf (fun fb k fr V => ∃ (i : Nat) (v : Int) (q : List Bool), fr = [(7, .int .i64 v)] ++ fb.drop 1 ∧ v = i ∧ i ≤ zs.length ∧ k = zs.length - i ∧ (zs.take i).all (usdAt U) = true ∧ q.length = U.length ∧ OwnBo V w.heap.size w14.heap.size A14 U.length q ∧ Below w.heap.size w V) (n := zs.length) (Fr.le_of (by kernel_rfl) (by kernel_rfl) (by repeat' constructor)) ⟨0, _, _, rfl, rfl, by omega, rfl, rfl, List.length_replicate, f14.base (by omega) (by omega), hw⟩ ?_
    clear f14 hw f fs
    rintro k fr V ⟨i, v, q, rfl, rfl, hi, rfl, hq, hql, f14, hw⟩
    have hil : i < zs.length := by
      rcases Nat.lt_or_ge i zs.length with h | h
      · exact h
      · rw [List.take_of_length_le h, ho] at hq; cases hq
    have hpV := hp.u hw
    first | refine rk_frame (by simp only [List.cons_append, List.nil_append, List.drop_succ_cons, List.drop_zero]; rfl) ?_ | refine wl_frame (by simp only [List.cons_append, List.nil_append, List.drop_succ_cons, List.drop_zero]; rfl) ?_
    refine rk_seq ?_
    refine rk_seq ?_
    refine rk_region ?_
    refine wl_p (fun _ => o_move rfl) ?_
    refine wl_p (fun _ => o_move rfl) ?_
    refine wl_p (fun _ => o_len (t := 39) Tryz.underlying39 rfl) ?_
    refine wl_p (fun _ => o_lt rfl rfl) ?_
    refine wl_nil ?_
    refine rk_if rfl (fun h18 => ?_) (fun h18 => h18.elim (by omega))
    refine rk_skip ?_
    refine rk_seq ?_
    refine rk_block ?_
    refine rk_seq ?_
    refine rk_seq ?_
    refine rk_region ?_
    refine wl_p (fun _ => o_move rfl) ?_
    refine wl_p (fun _ => o_move rfl) ?_
    refine wl_p (fun _ => o_move rfl) ?_
    refine wl_p (fun _ => (o_iaddrA1 (i) Tryz.underlying39 Tryz.sizeOf3 rfl rfl rfl (Reads.some_ hz.to_Reads (by decide) (by omega)) (by omega))) ?_
    refine wl_r (o_loadZ Tryz.isAgg3 rfl (hz.u hw).to_Reads (by omega)) ?_
    refine wl_call rfl (C_rpIs _ hpV (by rfl)) ?_
    rintro v26 w26 ⟨rfl, rfl⟩
    refine wl_p (fun _ => o_not rfl) ?_
    refine wl_nil ?_
    cases hu : usdAt U zs[i] with
    | false =>
      refine rk_true rfl ?_
      refine rk_seq ?_
      refine rk_region ?_
      refine wl_p (fun _ => o_assign rfl) ?_
      refine wl_p (fun _ => o_assign rfl) ?_
      refine wl_nil ?_
      refine ret2 rfl rfl rfl ?_
      exact ⟨rfl, hw⟩
    | true =>
      obtain ⟨hz0, hz1⟩ := usdAt_lt hu
      obtain ⟨z, hzz⟩ : ∃ z : Nat, zs[i] = (z : Int) := ⟨zs[i].toNat, by omega⟩
      refine rk_false rfl ?_
      refine rk_skip ?_
      refine rk_region ?_
      refine wl_p (fun _ => o_move rfl) ?_
      refine wl_p (fun _ => o_move rfl) ?_
      refine wl_p (fun _ => o_move rfl) ?_
      refine wl_p (fun _ => (o_iaddrA1 (i) Tryz.underlying39 Tryz.sizeOf3 rfl rfl rfl (Reads.some_ hz.to_Reads (by decide) (by omega)) (by omega))) ?_
      refine wl_r (o_loadZ Tryz.isAgg3 rfl (hz.u hw).to_Reads (by omega)) ?_
      refine wl_p (fun _ => (o_iaddrA1 (z) Tryz.underlying53 Tryz.sizeOf4 rfl rfl hzz (f14.some_ (by omega)) (by omega))) ?_
      refine wl_stBo Tryz.sizeOf4 rfl f14 rfl (by omega) ?_
      rintro w_1 f g_1 b e
      have qf := f.cap
      have s := g_1.size
      replace hw := hw.trans (b.mono (by omega))
      clear hpV
      clear f14
      refine wl_nil ?_
      refine rk_blk ?_
      refine rk_region ?_
      refine wl_p (fun _ => o_move rfl) ?_
      refine wl_p (fun _ => o_add rfl rfl (by omega) (by omega)) ?_
      refine wl_p (fun _ => o_assign rfl) ?_
      refine wl_nil ?_
      refine rk_againf (Fr.le_of (by kernel_rfl) (by kernel_rfl) (by repeat' constructor)) ⟨i + 1, (i : Int) + 1, q.set z true, rfl, by omega, by omega, rfl, ?_, by rw [List.length_set]; exact hql, by assumption, hw⟩ (by omega)
      rw [List.take_succ_eq_append_getElem hil, List.all_append, Bool.and_eq_true]
      exact ⟨hq, by simp [hu]⟩
  rintro fr V h
  exact h.elim
theorem C_rpKeepOk {g gd lo hi n c k0 k1 : Nat} {B : Option Addr} {zs : List Int} {U M : List Bool} (w : World) (hp : RpAt w g gd lo hi U) (hz : RZ w B zs) (hM : markAll (List.replicate U.length false) zs = M) (hk0 : (usd U U.length).length = k0) (hk1 : (usd M M.length).length = k1) (hn : n = zs.length) (hnm : n ≤ 100000) (ho : zs.all (usdAt U) = true) :
    CallsR Tryz.prog 21 [.pointer (some ⟨g, 0, none⟩), .slice B n c] w fun v w' => v = .tuple #[.int .i64 ((k0 : Int) - k1), .int .i64 0] ∧ RpAt w' g gd w.heap.size w'.heap.size M ∧ ∃ w1, Below w.heap.size w w1 ∧ Chg g (g + 1) w1 w' ∧ Grew w1 w' 69 (some g) := by
  subst hn
  have hl := hp.len
  obtain ⟨I, hI⟩ : ∃ I, usdZ U U.length = I := ⟨_, rfl⟩
  obtain ⟨J, hJ⟩ : ∃ J, usdZ M M.length = J := ⟨_, rfl⟩
  have hMl : M.length = U.length := by rw [← hM, markAll_len, List.length_replicate]
  have hIl : I.length = k0 := by rw [← hI, usdZ_len, hk0]
  have hJl : J.length = k1 := by rw [← hJ, usdZ_len, hk1]
  have hkl0 := usd_le U U.length
  have hkl1 := usd_le M M.length
  obtain ⟨A1, c1, f, fs⟩ := hp.ex
  refine callsR Tryz.func21 rfl rfl (by kernel_rfl) rfl ?_
  have hw := Below.refl w.heap.size w
  refine rk_seq ?_
  refine rk_region ?_
  refine wl_p (fun _ => o_assign rfl) ?_
  refine wl_p (fun _ => o_assign rfl) ?_
  refine wl_nil ?_
  refine rk_seq ?_
  refine rk_region ?_
  refine wl_p (fun _ => o_move rfl) ?_
  refine wl_p (fun _ => o_nil rfl) ?_
  refine wl_p (fun _ => o_faddr (s := 69) (i := 1) (off := 1) Tryz.underlying69 rfl Tryz.sizeOf53 rfl rfl rfl) ?_
  refine wl_r (o_loadbg Tryz.isAgg53 rfl f (by rfl)) ?_
  refine wl_p (fun _ => o_len (t := 53) Tryz.underlying53 rfl) ?_
  refine wl_mkBo (U.length) rfl rfl rfl rfl (by omega) ?_
  rintro A14 w14 f14 b14
  have qf14 := f14.cap
  have s14 := b14.size
  replace hw := hw.trans (b14.mono hw.size)
  refine wl_p (fun _ => o_assign rfl) ?_
  refine wl_nil ?_
  refine rk_seq ?_
  refine rk_seq ?_
  refine rk_region ?_
  refine wl_p (fun _ => o_assign rfl) ?_
  refine wl_nil ?_
  refine rk_block ?_
  have hsz := hw.size
  refine rk_joinf (fun fb fr V => fr = [] ++ fb.drop 1 ∧ OwnBo V w.heap.size w14.heap.size A14 U.length M ∧ w14.heap.size ≤ V.heap.size ∧ Below w.heap.size w V) ?_ (fun ks hj => ?_)
  rotate_left
  · refine rk_loopf (fun fb k fr V => ∃ (i : Nat) (v : Int) (q : List Bool), fr = [(7, .int .i64 v)] ++ fb.drop 1 ∧ v = i ∧ i ≤ zs.length ∧ k = zs.length - i ∧ q = markAll (List.replicate U.length false) (zs.take i) ∧ q.length = U.length ∧ OwnBo V w.heap.size w14.heap.size A14 U.length q ∧ w14.heap.size ≤ V.heap.size ∧ Below w.heap.size w V) (n := zs.length) (Fr.le_of (by kernel_rfl) (by kernel_rfl) (by repeat' constructor)) ⟨0, _, _, rfl, rfl, by omega, rfl, rfl, List.length_replicate, f14.base (by omega) (by omega), Nat.le_refl _, hw⟩ ?_
    clear f14 hw f fs
    rintro k fr V ⟨i, v, q, rfl, rfl, hi, rfl, hq, hql, f14, hsV, hw⟩
    have hpV := hp.u hw
    first | refine rk_frame (by simp only [List.cons_append, List.nil_append, List.drop_succ_cons, List.drop_zero]; rfl) ?_ | refine wl_frame (by simp only [List.cons_append, List.nil_append, List.drop_succ_cons, List.drop_zero]; rfl) ?_
    refine rk_seq ?_
    refine rk_seq ?_
    refine rk_region ?_
    refine wl_p (fun _ => o_move rfl) ?_
    refine wl_p (fun _ => o_move rfl) ?_
    refine wl_p (fun _ => o_len (t := 39) Tryz.underlying39 rfl) ?_
    refine wl_p (fun _ => o_lt rfl rfl) ?_
    refine wl_nil ?_
    refine rk_if rfl (fun h18 => ?_) (fun h18 => ?_)
    · have hil : i < zs.length := by omega
      have hu : usdAt U zs[i] = true := List.all_eq_true.1 ho _ (List.getElem_mem hil)
      obtain ⟨hz0, hz1⟩ := usdAt_lt hu
      obtain ⟨z, hzz⟩ : ∃ z : Nat, zs[i] = (z : Int) := ⟨zs[i].toNat, by omega⟩
      refine rk_skip ?_
      refine rk_seq ?_
      refine rk_block ?_
      refine rk_seq ?_
      refine rk_seq ?_
      refine rk_region ?_
      refine wl_p (fun _ => o_move rfl) ?_
      refine wl_p (fun _ => o_move rfl) ?_
      refine wl_p (fun _ => o_move rfl) ?_
      refine wl_p (fun _ => (o_iaddrA1 (i) Tryz.underlying39 Tryz.sizeOf3 rfl rfl rfl (Reads.some_ hz.to_Reads (by decide) (by omega)) (by omega))) ?_
      refine wl_r (o_loadZ Tryz.isAgg3 rfl (hz.u hw).to_Reads (by omega)) ?_
      refine wl_call rfl (C_rpIs _ hpV hu) ?_
      rintro v26 w26 ⟨rfl, rfl⟩
      refine wl_p (fun _ => o_not rfl) ?_
      refine wl_nil ?_
      refine rk_false rfl ?_
      refine rk_skip ?_
      refine rk_region ?_
      refine wl_p (fun _ => o_move rfl) ?_
      refine wl_p (fun _ => o_move rfl) ?_
      refine wl_p (fun _ => o_move rfl) ?_
      refine wl_p (fun _ => (o_iaddrA1 (i) Tryz.underlying39 Tryz.sizeOf3 rfl rfl rfl (Reads.some_ hz.to_Reads (by decide) (by omega)) (by omega))) ?_
      refine wl_r (o_loadZ Tryz.isAgg3 rfl (hz.u hw).to_Reads (by omega)) ?_
      refine wl_p (fun _ => (o_iaddrA1 (z) Tryz.underlying53 Tryz.sizeOf4 rfl rfl hzz (f14.some_ (by omega)) (by omega))) ?_
      refine wl_stBo Tryz.sizeOf4 rfl f14 rfl (by omega) ?_
      rintro w_1 f g_1 b e
      have qf := f.cap
      have s := g_1.size
      replace hw := hw.trans (b.mono (by omega))
      clear hpV
      clear f14
      refine wl_nil ?_
      refine rk_blk ?_
      refine rk_region ?_
      refine wl_p (fun _ => o_move rfl) ?_
      refine wl_p (fun _ => o_add rfl rfl (by omega) (by omega)) ?_
      refine wl_p (fun _ => o_assign rfl) ?_
      refine wl_nil ?_
      exact rk_againf (Fr.le_of (by kernel_rfl) (by kernel_rfl) (by repeat' constructor)) ⟨i + 1, (i : Int) + 1, q.set z true, rfl, by omega, by omega, rfl, by rw [List.take_succ_eq_append_getElem hil, markAll_snoc, hzz, hq]; rfl, by rw [List.length_set]; exact hql, by assumption, by omega, hw⟩ (by omega)
    · refine rk_exit rfl ?_
      obtain rfl : i = zs.length := by omega
      rw [List.take_length, hM] at hq
      subst hq
      exact rk_tof hj (Fr.le_of (by kernel_rfl) (by kernel_rfl) (by repeat' constructor)) ⟨rfl, f14, hsV, hw⟩
  clear f14 hw f fs
  rintro fr V ⟨rfl, f14, hsV, hw⟩
  have hpV := hp.u hw
  obtain ⟨A2, c2, f, fs⟩ := hpV.ex
  first | refine rk_frame (by simp only [List.cons_append, List.nil_append, List.drop_succ_cons, List.drop_zero]; rfl) ?_ | refine wl_frame (by simp only [List.cons_append, List.nil_append, List.drop_succ_cons, List.drop_zero]; rfl) ?_
  refine rk_seq ?_
  refine rk_region ?_
  refine wl_p (fun _ => o_move rfl) ?_
  refine wl_call rfl (C_rpUsed _ hpV hI) ?_
  rintro v35 w35 ⟨A35, ⟨c35, ⟨rfl, ⟨f35, b35⟩⟩⟩⟩
  have qf35 := f35.cap
  have s35 := b35.size
  replace hw := hw.trans (b35.mono hw.size)
  replace fs := fs.u b35
  replace f := f.u b35
  replace hpV := hpV.u b35
  replace f14 := f14.u b35
  refine wl_p (fun _ => o_len (t := 39) Tryz.underlying39 rfl) ?_
  refine wl_p (fun _ => o_assign rfl) ?_
  refine wl_nil ?_
  refine rk_seq ?_
  refine rk_region ?_
  refine wl_p (fun _ => o_move rfl) ?_
  refine wl_p (fun _ => o_move rfl) ?_
  refine wl_p (fun _ => o_nil rfl) ?_
  refine wl_p (fun _ => o_faddr (s := 69) (i := 1) (off := 1) Tryz.underlying69 rfl Tryz.sizeOf53 rfl rfl rfl) ?_
  refine wl_storeg1 Tryz.sizeOf53 rfl rfl (by rfl) f (by simp) ?_
  rintro w_1 f_1 g_1 e
  have s := g_1.size
  replace f14 := f14.y g_1 (by decide)
  replace fs := fs.y g_1 (by decide)
  replace f35 := f35.y g_1 (by decide)
  clear hpV
  clear f
  refine wl_nil ?_
  refine rk_seq ?_
  refine rk_region ?_
  refine wl_p (fun _ => o_move rfl) ?_
  refine wl_p (fun _ => o_move rfl) ?_
  have hG : Grew w35 w_1 69 (some g) := by assumption
  have hsG := hG.size
  have hp1 : RpAt w_1 g gd w.heap.size w14.heap.size M := ⟨⟨A14, U.length, by rw [hMl]; exact f_1, f14⟩, by omega, by omega⟩
  have hw1 := Below.refl w_1.heap.size w_1
  refine wl_call rfl (C_rpUsed _ hp1 hJ) ?_
  rintro v43 w43 ⟨A43, ⟨c43, ⟨rfl, ⟨f43, b43⟩⟩⟩⟩
  have qf43 := f43.cap
  have s43 := b43.size
  replace hw1 := hw1.trans (b43.mono hw1.size)
  replace hp1 := hp1.u b43
  replace f35 := f35.u b43
  replace fs := fs.u b43
  replace f14 := f14.u b43
  replace f_1 := f_1.u b43
  refine wl_p (fun _ => o_len (t := 39) Tryz.underlying39 rfl) ?_
  refine wl_p (fun _ => o_sub rfl rfl (by omega) (by omega)) ?_
  refine wl_p (fun _ => o_assign rfl) ?_
  refine wl_p (fun _ => o_assign rfl) ?_
  refine wl_nil ?_
  refine ret2 rfl rfl rfl ?_
  have hsE := hw1.size
  obtain ⟨A5, c5, f5, f6⟩ := hp1.ex
  have hG2 := hG.thenB hw1
  exact ⟨by rw [hIl, hJl], ⟨⟨A5, c5, f5, f6.base (by omega) (by omega)⟩, Nat.le_refl _, by omega⟩, w35, hw, Chg.of_g1 hG2.g (Nat.le_refl _) (Nat.lt_succ_self _), hG2⟩
set_option maxRecDepth 100000 in
theorem C_rpRead {g gd lo hi dl dh : Nat} {z : Int} {U : List Bool} {S X : List Sec} {C : List (Option Sec)} {r : By × Nat} (w : World) (hp : RpAt w g gd lo hi U) (hd : RfAt w dl dh gd S C) (hX : cur S C = X) (hr : readP X U z = r) (hUS : 2 * U.length ≤ S.length) (wz : (Lit.int .i64 z).wf = true) :
    CallsR Tryz.prog 15 [.pointer (some ⟨g, 0, none⟩), .int .i64 z] w fun v w' => ∃ A c, v = .tuple #[.slice A r.1.length c, .int .i64 (r.2 : Nat)] ∧ RdB w' w.heap.size w'.heap.size A r.1 ∧ r.1.length ≤ c ∧ Below w.heap.size w w' := by
  subst hr
  have hl := hp.len
  have hCl := hd.len
  rw [readP]
  by_cases hu : usdAt U z = true
  · rw [if_pos hu]
    obtain ⟨hz0, hz1⟩ := usdAt_lt hu
    obtain ⟨n, rfl⟩ : ∃ n : Nat, z = (n : Int) := ⟨z.toNat, by omega⟩
    rw [Int.toNat_natCast] at hz1 ⊢
    have hXl : X.length = S.length := by rw [← hX, cur_len]
    have l0 := sAt_len (X := X) (i := 2 * n) (by omega)
    have l1 := sAt_len (X := X) (i := 2 * n + 1) (by omega)
    have hr0 : rdD S C (2 * (n : Int)) = (sAt X (2 * n), 0) := by
      rw [← hX, show 2 * (n : Int) = ((2 * n : Nat) : Int) by omega]; exact rdD_at hCl (by omega)
    have hr1 : rdD S C (2 * (n : Int) + 1) = (sAt X (2 * n + 1), 0) := by
      rw [← hX, show 2 * (n : Int) + 1 = ((2 * n + 1 : Nat) : Int) by omega]; exact rdD_at hCl (by omega)
    obtain ⟨s0, hs0⟩ : ∃ s, sAt X (2 * n) = s := ⟨_, rfl⟩
    obtain ⟨s1, hs1⟩ : ∃ s, sAt X (2 * n + 1) = s := ⟨_, rfl⟩
    have hal : (s0 ++ s1).length = 512 := by rw [List.length_append, ← hs0, ← hs1, l0, l1]
    have hpa : pgAll X n = s0 ++ s1 := by rw [pgAll, hs0, hs1]
    rw [hs0] at hr0 l0
    rw [hs1] at hr1 l1
    rw [hpa]
    have hbdl : ((s0 ++ s1).drop 12).length = 500 := by rw [List.length_drop, hal]
    obtain ⟨y, hy⟩ : ∃ y, pageL n ((s0 ++ s1).drop 12) = y := ⟨_, rfl⟩
    rw [hy]
    have wa0 : (Lit.int .i64 (2 * (n : Int))).wf = true := wf_small (by omega) (by omega)
    have wa1 : (Lit.int .i64 (2 * (n : Int) + 1)).wf = true := wf_small (by omega) (by omega)
    obtain ⟨A1, c1, f, fs⟩ := hp.ex
    refine callsR Tryz.func15 rfl rfl (by kernel_rfl) rfl ?_
    have hw := Below.refl w.heap.size w
    refine rk_seq ?_
    refine rk_region ?_
    refine wl_p (fun _ => o_assign rfl) ?_
    refine wl_p (fun _ => o_assign rfl) ?_
    refine wl_nil ?_
    refine rk_seq ?_
    refine rk_seq ?_
    refine rk_region ?_
    refine wl_p (fun _ => o_move rfl) ?_
    refine wl_p (fun _ => o_move rfl) ?_
    refine wl_call rfl (C_rpIs _ hp hu) ?_
    rintro v15 w15 ⟨rfl, rfl⟩
    refine wl_p (fun _ => o_not rfl) ?_
    refine wl_nil ?_
    refine rk_false rfl ?_
    refine rk_skip ?_
    refine rk_seq ?_
    refine rk_region ?_
    refine wl_p (fun _ => o_move rfl) ?_
    refine wl_p (fun _ => o_nil rfl) ?_
    refine wl_p (fun _ => o_faddr (s := 69) (i := 0) (off := 0) Tryz.underlying69 rfl Tryz.sizeOf30 rfl rfl rfl) ?_
    refine wl_r (o_loadbg Tryz.isAgg30 rfl f (by rfl)) ?_
    refine wl_p (fun _ => o_move rfl) ?_
    refine wl_p (fun _ => o_mul rfl rfl (by omega) (by omega)) ?_
    refine wl_call rfl (C_rReadO _ hd hr0 wa0) ?_
    rintro v24 w24 ⟨A24, ⟨c24, ⟨rfl, ⟨f24, b24⟩⟩⟩⟩
    dsimp only at f24
    dsimp only
    have qf24 := f24.cap
    have s24 := b24.size
    replace hw := hw.trans (b24.mono hw.size)
    refine wl_p (fun _ => o_move rfl) ?_
    refine wl_p (fun _ => o_ext20 rfl) ?_
    refine wl_p (fun _ => o_ext21 rfl) ?_
    refine wl_p (fun _ => o_assign rfl) ?_
    refine wl_p (fun _ => o_assign rfl) ?_
    refine wl_nil ?_
    refine rk_seq ?_
    refine rk_region ?_
    refine wl_p (fun _ => o_move rfl) ?_
    refine wl_p (fun _ => o_nil rfl) ?_
    refine wl_p (fun _ => o_faddr (s := 69) (i := 0) (off := 0) Tryz.underlying69 rfl Tryz.sizeOf30 rfl rfl rfl) ?_
    refine wl_r (o_loadbg Tryz.isAgg30 rfl (f.u hw) (by rfl)) ?_
    refine wl_p (fun _ => o_move rfl) ?_
    refine wl_p (fun _ => o_mul rfl rfl (by omega) (by omega)) ?_
    refine wl_p (fun _ => o_add rfl rfl (by omega) (by omega)) ?_
    refine wl_call rfl (C_rReadO _ (hd.u hw) hr1 wa1) ?_
    rintro v35 w35 ⟨A35, ⟨c35, ⟨rfl, ⟨f35, b35⟩⟩⟩⟩
    dsimp only at f35
    dsimp only
    have qf35 := f35.cap
    have s35 := b35.size
    replace hw := hw.trans (b35.mono hw.size)
    replace f24 := f24.u b35
    refine wl_p (fun _ => o_move rfl) ?_
    refine wl_p (fun _ => o_ext20 rfl) ?_
    refine wl_p (fun _ => o_ext21 rfl) ?_
    refine wl_p (fun _ => o_assign rfl) ?_
    refine wl_p (fun _ => o_assign rfl) ?_
    refine wl_nil ?_
    refine rk_seq ?_
    refine rk_region ?_
    refine wl_p (fun _ => o_move rfl) ?_
    refine wl_p (fun _ => o_move rfl) ?_
    refine wl_appB Tryz.u8 rfl f24 rfl rfl f35.to_Rd rfl (by omega) hw.size ?_
    rintro A40 c40 w40 f40 g40 b40 i40
    have qf40 := f40.cap
    have s40 := g40.size
    replace hw := hw.trans (b40.mono (by omega))
    replace f35 := f35.k g40.g (f24.ap (by omega))
    clear f24
    refine wl_p (fun _ => o_assign rfl) ?_
    refine wl_nil ?_
    refine rk_seq ?_
    refine rk_region ?_
    refine wl_p (fun _ => o_move rfl) ?_
    refine wl_p (fun _ => o_move rfl) ?_
    refine wl_slOwn Tryz.u8 (12) rfl rfl f40 rfl (by omega) (by omega) ?_
    have q40 := f40.cap
    have rA := rd_cutB (k := 12) f40.to_Rd (by omega) q40
    refine wl_call rfl (C_rBytesOk _ rA rfl hy (by omega) (by omega) (by omega)) ?_
    rintro v45 w45 ⟨A45, ⟨c45, ⟨rfl, ⟨f45, ⟨e45, b45⟩⟩⟩⟩⟩
    have qf45 := f45.cap
    have s45 := b45.size
    replace hw := hw.trans (b45.mono hw.size)
    replace rA := rA.u b45
    replace f35 := f35.u b45
    replace f40 := f40.u b45
    refine wl_p (fun _ => o_move rfl) ?_
    refine wl_p (fun _ => o_ext20 rfl) ?_
    refine wl_p (fun _ => o_ext21 rfl) ?_
    refine wl_p (fun _ => o_assign rfl) ?_
    refine wl_p (fun _ => o_assign rfl) ?_
    refine wl_nil ?_
    refine rk_seq ?_
    refine rk_seq ?_
    refine rk_region ?_
    refine wl_p (fun _ => o_move rfl) ?_
    refine wl_r (o_strU Tryz.underlying40 Tryz.underlying5 Tryz.underlying9 rfl f45.to_Rd (Below.refl _ _) rfl) ?_
    refine wl_p (fun _ => o_move rfl) ?_
    refine wl_r (o_strU Tryz.underlying40 Tryz.underlying5 Tryz.underlying9 rfl f40.to_Rd (Below.refl _ _) rfl) ?_
    refine wl_p (fun _ => o_sne rfl rfl) ?_
    refine wl_nil ?_
    by_cases he : y = s0 ++ s1
    · rw [if_pos he, show decide (y ≠ s0 ++ s1) = false from decide_eq_false (fun h => h he)]
      have hsz2 := hw.size
      refine rk_false rfl ?_
      refine rk_skip ?_
      refine rk_seq ?_
      refine rk_region ?_
      refine wl_litB [] Tryz.u8 Tryz.sizeOf5 Tryz.zeroValue5 (by rfl) rfl rfl (by rfl) (by rfl) (by rfl) ?_
      rintro A53 w53 f53 b53
      have qf53 := f53.cap
      have s53 := b53.size
      replace hw := hw.trans (b53.mono hw.size)
      replace f40 := f40.u b53
      replace f35 := f35.u b53
      replace rA := rA.u b53
      replace f45 := f45.u b53
      refine wl_p (fun _ => o_move rfl) ?_
      refine wl_slOwn Tryz.u8 (12) rfl rfl f40 rfl (by omega) (by omega) ?_
      refine wl_appB00 rfl f53 rfl rA (by omega) (by omega) (by omega) ?_
      rintro A56 c56 w56 f56 b56
      have qf56 := f56.cap
      have s56 := b56.size
      replace hw := hw.trans (b56.mono hw.size)
      replace f45 := f45.u b56
      replace rA := rA.u b56
      replace f35 := f35.u b56
      replace f40 := f40.u b56
      replace f53 := f53.u b56
      refine wl_p (fun _ => o_assign rfl) ?_
      refine wl_p (fun _ => o_assign rfl) ?_
      refine wl_nil ?_
      refine ret2 rfl rfl rfl ?_
      have hsz3 := hw.size
      exact ⟨A56, c56, rfl, f56.rdB.base (by omega) (by omega), f56.cap, hw⟩
    · rw [if_neg he, show decide (y ≠ s0 ++ s1) = true from decide_eq_true he]
      refine rk_true rfl ?_
      refine rk_seq ?_
      refine rk_region ?_
      refine wl_p (fun _ => o_assign rfl) ?_
      refine wl_p (fun _ => o_assign rfl) ?_
      refine wl_nil ?_
      refine ret2 rfl rfl rfl ?_
      exact ⟨none, 0, rfl, RdB.nil_, by simp, hw⟩
  · rw [if_neg hu]
    have hu : usdAt U z = false := by cases h : usdAt U z with | true => exact absurd h hu | false => rfl
    refine callsR Tryz.func15 rfl rfl (by kernel_rfl) rfl ?_
    have hw := Below.refl w.heap.size w
    refine rk_seq ?_
    refine rk_region ?_
    refine wl_p (fun _ => o_assign rfl) ?_
    refine wl_p (fun _ => o_assign rfl) ?_
    refine wl_nil ?_
    refine rk_seq ?_
    refine rk_seq ?_
    refine rk_region ?_
    refine wl_p (fun _ => o_move rfl) ?_
    refine wl_p (fun _ => o_move rfl) ?_
    refine wl_call rfl (C_rpIs _ hp hu) ?_
    rintro v15 w15 ⟨rfl, rfl⟩
    refine wl_p (fun _ => o_not rfl) ?_
    refine wl_nil ?_
    refine rk_true rfl ?_
    refine rk_seq ?_
    refine rk_region ?_
    refine wl_p (fun _ => o_assign rfl) ?_
    refine wl_p (fun _ => o_assign rfl) ?_
    refine wl_nil ?_
    refine ret2 rfl rfl rfl ?_
    exact ⟨none, 0, rfl, RdB.nil_, by simp, hw⟩
set_option maxRecDepth 100000 in
theorem C_rpNew {g gd lo hi dl dh m c : Nat} {U : List Bool} {S : List Sec} {C : List (Option Sec)} {A : Option Addr} {b : By} {r : (Nat × Nat) × List (Option Sec) × List Bool} (w : World) (hp : RpAt w g gd lo hi U) (hd : RfAt w dl dh gd S C) (hb : Rd w A b) (hr : newP S C U b = r) (hm : m = b.length) (hml : m ≤ 1000000) (hUS : 2 * U.length ≤ S.length) (hs1 : dh ≤ lo) (hs2 : dh ≤ g) :
    CallsR Tryz.prog 13 [.pointer (some ⟨g, 0, none⟩), .slice A m c] w fun v w' => v = .tuple #[.int .i64 (r.1.1 : Nat), .int .i64 (r.1.2 : Nat)] ∧ RpAt w' g gd lo hi r.2.2 ∧ RfAt w' dl dh gd S r.2.1 ∧ ∃ w1, Chg dl dh w w1 ∧ Chg lo hi w1 w' ∧ ∃ row, Grew w1 w' 4 row := by
  subst hm; subst hr
  have hl := hp.len
  have hhi := hp.hi
  have hdhi := hd.hi
  rw [newP]
  by_cases h5 : 500 < b.length
  · rw [if_pos h5]
    refine callsR Tryz.func13 rfl rfl (by kernel_rfl) rfl ?_
    refine rk_seq ?_
    refine rk_region ?_
    refine wl_p (fun _ => o_assign rfl) ?_
    refine wl_p (fun _ => o_assign rfl) ?_
    refine wl_nil ?_
    refine rk_seq ?_
    refine rk_seq ?_
    refine rk_region ?_
    refine wl_p (fun _ => o_move rfl) ?_
    refine wl_p (fun _ => o_len (t := 40) Tryz.underlying40 rfl) ?_
    refine wl_p (fun _ => o_gt rfl rfl) ?_
    refine wl_nil ?_
    refine rk_if rfl (fun h11 => ?_) (fun h11 => h11.elim (by omega))
    refine rk_seq ?_
    refine rk_region ?_
    refine wl_p (fun _ => o_assign rfl) ?_
    refine wl_p (fun _ => o_assign rfl) ?_
    refine wl_nil ?_
    refine ret2 rfl rfl rfl ?_
    exact ⟨rfl, hp, hd, _, Chg.refl, Chg.refl, _, Grew.refl_⟩
  rw [if_neg h5]
  obtain ⟨k, hk⟩ : ∃ k, least U = k := ⟨_, rfl⟩
  have hkl := least_le U
  rw [hk] at hkl ⊢
  obtain ⟨A1, c1, f, fs⟩ := hp.ex
  refine callsR Tryz.func13 rfl rfl (by kernel_rfl) rfl ?_
  refine rk_seq ?_
  refine rk_region ?_
  refine wl_p (fun _ => o_assign rfl) ?_
  refine wl_p (fun _ => o_assign rfl) ?_
  refine wl_nil ?_
  refine rk_seq ?_
  refine rk_seq ?_
  refine rk_region ?_
  refine wl_p (fun _ => o_move rfl) ?_
  refine wl_p (fun _ => o_len (t := 40) Tryz.underlying40 rfl) ?_
  refine wl_p (fun _ => o_gt rfl rfl) ?_
  refine wl_nil ?_
  refine rk_if rfl (fun h11 => absurd h11 (by omega)) (fun h11 => ?_)
  refine rk_skip ?_
  refine rk_seq ?_
  refine rk_seq ?_
  refine rk_region ?_
  refine wl_p (fun _ => o_assign rfl) ?_
  refine wl_nil ?_
  refine rk_block ?_
  refine rk_joinf (fun fb fr V => fr = [] ++ fb.drop 1 ∧ k = U.length ∧ V = w) ?_ (fun ks hj => ?_)
  rotate_left
  · refine rk_loopf (fun fb m fr V => ∃ (i : Nat) (v : Int), fr = [(6, .int .i64 v)] ++ fb.drop 1 ∧ v = i ∧ i ≤ U.length ∧ m = U.length - i ∧ (∀ j, j < i → U.getD j false = true) ∧ V = w) (n := U.length) (Fr.le_of (by kernel_rfl) (by kernel_rfl) (by repeat' constructor)) ⟨0, _, rfl, rfl, by omega, rfl, fun j h => by omega, rfl⟩ ?_
    rintro m fr V ⟨i, v, rfl, rfl, hi', rfl, hall, rfl⟩
    first | refine rk_frame (by simp only [List.cons_append, List.nil_append, List.drop_succ_cons, List.drop_zero]; rfl) ?_ | refine wl_frame (by simp only [List.cons_append, List.nil_append, List.drop_succ_cons, List.drop_zero]; rfl) ?_
    refine rk_seq ?_
    refine rk_seq ?_
    refine rk_region ?_
    refine wl_p (fun _ => o_move rfl) ?_
    refine wl_p (fun _ => o_move rfl) ?_
    refine wl_p (fun _ => o_nil rfl) ?_
    refine wl_p (fun _ => o_faddr (s := 69) (i := 1) (off := 1) Tryz.underlying69 rfl Tryz.sizeOf53 rfl rfl rfl) ?_
    refine wl_r (o_loadbg Tryz.isAgg53 rfl f (by rfl)) ?_
    refine wl_p (fun _ => o_len (t := 53) Tryz.underlying53 rfl) ?_
    refine wl_p (fun _ => o_lt rfl rfl) ?_
    refine wl_nil ?_
    refine rk_if rfl (fun h18 => ?_) (fun h18 => ?_)
    · have hil : i < U.length := by omega
      have hget : U.getD i false = U[i] := by rw [List.getD_eq_getElem?_getD, List.getElem?_eq_getElem hil]; rfl
      cases hu : U[i] with
      | true =>
        rw [hu] at hget
        refine rk_skip ?_
        refine rk_seq ?_
        refine rk_block ?_
        refine rk_seq ?_
        refine rk_region ?_
        refine wl_p (fun _ => o_move rfl) ?_
        refine wl_p (fun _ => o_nil rfl) ?_
        refine wl_p (fun _ => o_faddr (s := 69) (i := 1) (off := 1) Tryz.underlying69 rfl Tryz.sizeOf53 rfl rfl rfl) ?_
        refine wl_r (o_loadbg Tryz.isAgg53 rfl f (by rfl)) ?_
        refine wl_p (fun _ => o_move rfl) ?_
        refine wl_p (fun _ => (o_iaddrA1 (i) Tryz.underlying53 Tryz.sizeOf4 rfl rfl rfl (fs.some_ (by omega)) (by omega))) ?_
        refine wl_r (o_ldBo Tryz.isAgg4 rfl fs.to_RdBo (by omega)) ?_
        refine wl_p (fun _ => o_not rfl) ?_
        refine wl_nil ?_
        rw [hu]
        refine rk_false rfl ?_
        refine rk_skip ?_
        refine rk_blk ?_
        refine rk_region ?_
        refine wl_p (fun _ => o_move rfl) ?_
        refine wl_p (fun _ => o_add rfl rfl (by omega) (by omega)) ?_
        refine wl_p (fun _ => o_assign rfl) ?_
        refine wl_nil ?_
        exact rk_againf (Fr.le_of (by kernel_rfl) (by kernel_rfl) (by repeat' constructor)) ⟨i + 1, (i : Int) + 1, rfl, by omega, by omega, rfl, fun j h => by
          rcases Nat.lt_or_ge j i with h1 | h1
          · exact hall j h1
          · rw [show j = i by omega, hget], rfl⟩ (by omega)
      | false =>
        rw [hu] at hget
        have hki : k = i := by
          have := least_of U hall hget
          rw [hk, Nat.min_eq_left (by omega)] at this; exact this.symm
        subst hki
        rw [if_neg (by omega)]
        refine rk_skip ?_
        refine rk_seq ?_
        refine rk_block ?_
        refine rk_seq ?_
        refine rk_region ?_
        refine wl_p (fun _ => o_move rfl) ?_
        refine wl_p (fun _ => o_nil rfl) ?_
        refine wl_p (fun _ => o_faddr (s := 69) (i := 1) (off := 1) Tryz.underlying69 rfl Tryz.sizeOf53 rfl rfl rfl) ?_
        refine wl_r (o_loadbg Tryz.isAgg53 rfl f (by rfl)) ?_
        refine wl_p (fun _ => o_move rfl) ?_
        refine wl_p (fun _ => (o_iaddrA1 (k) Tryz.underlying53 Tryz.sizeOf4 rfl rfl rfl (fs.some_ (by omega)) (by omega))) ?_
        refine wl_r (o_ldBo Tryz.isAgg4 rfl fs.to_RdBo (by omega)) ?_
        refine wl_p (fun _ => o_not rfl) ?_
        refine wl_nil ?_
        rw [hu]
        obtain ⟨p, hpp⟩ : ∃ p, pageL k b = p := ⟨_, rfl⟩
        have hpl : p.length = 512 := by rw [← hpp]; exact pageL_len k (by omega)
        have hp1l : (p.take 256).length = 256 := by rw [List.length_take]; omega
        have hp2l : (p.drop 256).length = 256 := by rw [List.length_drop]; omega
        obtain ⟨q1, hq1⟩ : ∃ q, wrC S C (2 * (k : Int)) (p.take 256) = q := ⟨_, rfl⟩
        obtain ⟨q2, hq2⟩ : ∃ q, wrC S q1.1 (2 * (k : Int) + 1) (p.drop 256) = q := ⟨_, rfl⟩
        have hN : newC S C k p = q2.1 := by rw [newC, hq1, hq2]
        rw [hpp, hN]
        have wa1 : (Lit.int .i64 (2 * (k : Int))).wf = true := wf_small (by omega) (by omega)
        have wa2 : (Lit.int .i64 (2 * (k : Int) + 1)).wf = true := wf_small (by omega) (by omega)
        have hcg : Chg dl dh V V := Chg.refl
        refine rk_true rfl ?_
        refine rk_seq ?_
        refine rk_region ?_
        refine wl_p (fun _ => o_move rfl) ?_
        refine wl_p (fun _ => o_move rfl) ?_
        refine wl_call rfl (C_rBytesOk _ hb rfl hpp (by omega) rfl (by omega)) ?_
        rintro v32 w32 ⟨A32, ⟨c32, ⟨rfl, ⟨f32, ⟨e32, b32⟩⟩⟩⟩⟩
        have qf32 := f32.cap
        have s32 := b32.size
        replace hcg := hcg.thenB b32
        replace fs := fs.u b32
        replace f := f.u b32
        replace hb := hb.u b32
        replace hd := hd.u b32
        replace hp := hp.u b32
        refine wl_p (fun _ => o_move rfl) ?_
        refine wl_p (fun _ => o_ext20 rfl) ?_
        refine wl_p (fun _ => o_ext21 rfl) ?_
        refine wl_p (fun _ => o_assign rfl) ?_
        refine wl_p (fun _ => o_assign rfl) ?_
        refine wl_nil ?_
        refine rk_seq ?_
        refine rk_draw (id := 8) (none) [0, 1, 2, 4, 0, 16, 0, 64, 168] [0, 1, 3, 7, 0, 16, 0, 64, 255] 256 0 [(.p, 0), (.p, 1), (.p, 2), (.r, 3), (.p, 4), (.p, 5), (.p, 6), (.p, 7), (.l, 8)] (by kernel_rfl) (by kernel_rfl) (by kernel_rfl) (by kernel_rfl) (by kernel_rfl) ?_
        replace hcg := hcg.trans Chg.drew
        replace hp := hp.d
        replace hd := hd.d
        replace hb := hb.d
        replace f := f.d
        replace fs := fs.d
        replace f32 := f32.d
        refine wl_p (fun _ => o_move rfl) ?_
        refine wl_p (fun _ => o_nil rfl) ?_
        refine wl_p (fun _ => o_faddr (s := 69) (i := 0) (off := 0) Tryz.underlying69 rfl Tryz.sizeOf30 rfl rfl rfl) ?_
        refine wl_r (o_loadbg Tryz.isAgg30 rfl f (by rfl)) ?_
        refine wl_p (fun _ => o_move rfl) ?_
        refine wl_p (fun _ => o_mul rfl rfl (by omega) (by omega)) ?_
        refine wl_p (fun _ => o_move rfl) ?_
        refine wl_slBh Tryz.u8 (256) rfl rfl f32.to_Rd rfl (by omega) (by omega) (by omega) ?_
        rintro f42
        refine wl_call rfl (C_rWrite _ hd f42 hq1 wa1 (by omega) (by omega) (by omega)) ?_
        rintro v43 w43 ⟨rfl, ⟨f43, g43⟩⟩
        have s43 := g43.size
        simp only [drew_size] at s43
        replace hcg := hcg.trans (g43.wide (by omega) (by omega))
        replace f32 := f32.c g43 (by omega)
        replace fs := fs.c g43 (by omega)
        replace f := f.c g43 (by omega)
        replace hp := hp.c g43 (by omega)
        clear f42
        clear hb
        clear hd
        refine wl_nild ?_
        refine rk_seq ?_
        refine rk_draw (id := 9) (none) [0, 1, 2, 4, 0, 16, 32, 0, 128, 328] [0, 1, 3, 7, 0, 16, 48, 0, 128, 511] 512 0 [(.p, 0), (.p, 1), (.p, 2), (.r, 3), (.p, 4), (.p, 5), (.p, 6), (.p, 7), (.p, 8), (.l, 9)] (by kernel_rfl) (by kernel_rfl) (by kernel_rfl) (by kernel_rfl) (by kernel_rfl) ?_
        replace hcg := hcg.trans Chg.drew
        replace hp := hp.d
        replace f := f.d
        replace fs := fs.d
        replace f32 := f32.d
        replace f43 := f43.d
        refine wl_p (fun _ => o_move rfl) ?_
        refine wl_p (fun _ => o_nil rfl) ?_
        refine wl_p (fun _ => o_faddr (s := 69) (i := 0) (off := 0) Tryz.underlying69 rfl Tryz.sizeOf30 rfl rfl rfl) ?_
        refine wl_r (o_loadbg Tryz.isAgg30 rfl f (by rfl)) ?_
        refine wl_p (fun _ => o_move rfl) ?_
        refine wl_p (fun _ => o_mul rfl rfl (by omega) (by omega)) ?_
        refine wl_p (fun _ => o_add rfl rfl (by omega) (by omega)) ?_
        refine wl_p (fun _ => o_move rfl) ?_
        refine wl_slOwn Tryz.u8 (256) rfl rfl f32 rfl (by omega) (by omega) ?_
        have q32 := f32.cap
        have rB := rd_cutB (k := 256) f32.to_Rd (by omega) q32
        refine wl_call rfl (C_rWrite _ f43 rB hq2 wa2 (by omega) (by omega) (by omega)) ?_
        rintro v53 w53 ⟨rfl, ⟨f53, g53⟩⟩
        have s53 := g53.size
        simp only [drew_size] at s53
        replace hcg := hcg.trans (g53.wide (by omega) (by omega))
        replace f32 := f32.c g53 (by omega)
        replace fs := fs.c g53 (by omega)
        replace f := f.c g53 (by omega)
        replace hp := hp.c g53 (by omega)
        clear rB
        clear f43
        have keep : ∀ W, Chg lo hi w53 W → (∃ row, Grew w53 W 4 row) → ∃ w1, Chg dl dh V w1 ∧ Chg lo hi w1 W ∧ ∃ row, Grew w1 W 4 row := fun W h h2 => ⟨_, hcg, h, h2⟩
        have hcu : Chg lo hi w53 w53 := Chg.refl
        clear hcg
        refine wl_nild ?_
        refine rk_seq ?_
        refine rk_region ?_
        refine wl_p (fun _ => o_move rfl) ?_
        refine wl_p (fun _ => o_nil rfl) ?_
        refine wl_p (fun _ => o_faddr (s := 69) (i := 1) (off := 1) Tryz.underlying69 rfl Tryz.sizeOf53 rfl rfl rfl) ?_
        refine wl_r (o_loadbg Tryz.isAgg53 rfl f (by rfl)) ?_
        refine wl_p (fun _ => o_move rfl) ?_
        refine wl_p (fun _ => (o_iaddrA1 (k) Tryz.underlying53 Tryz.sizeOf4 rfl rfl rfl (fs.some_ (by omega)) (by omega))) ?_
        refine wl_stBo Tryz.sizeOf4 rfl fs rfl (by omega) ?_
        rintro w f_1 g_1 b_1 e
        have qf_1 := f_1.cap
        have s := g_1.size
        replace hcu := hcu.trans ((Chg.of_g g_1.g f_1.rng).wide (by omega) (by omega))
        replace f := f.y g_1 (by decide)
        replace f32 := f32.y g_1 (by decide)
        replace f53 := f53.y g_1 (by decide)
        clear hp
        clear fs
        refine wl_nil ?_
        refine rk_seq ?_
        refine rk_region ?_
        refine wl_p (fun _ => o_move rfl) ?_
        refine wl_p (fun _ => o_assign rfl) ?_
        refine wl_p (fun _ => o_assign rfl) ?_
        refine wl_nil ?_
        refine ret2 rfl rfl rfl ?_
        have hsl : (U.set k true).length = U.length := List.length_set
        exact ⟨rfl, ⟨⟨A1, c1, by rw [hsl]; exact f, by assumption⟩, by omega, by rw [hsl]; exact hl⟩, by assumption, keep _ hcu ⟨_, by first | assumption | exact Grew.of_drew (by assumption)⟩⟩
    · refine rk_exit rfl ?_
      exact rk_tof hj (Fr.le_of (by kernel_rfl) (by kernel_rfl) (by repeat' constructor)) ⟨rfl, by rw [← hk]; exact (least_all U (fun j h => hall j (by omega))).symm, rfl⟩
  rintro fr V ⟨rfl, hfull, rfl⟩
  rw [if_pos hfull]
  first | refine rk_frame (by simp only [List.cons_append, List.nil_append, List.drop_succ_cons, List.drop_zero]; rfl) ?_ | refine wl_frame (by simp only [List.cons_append, List.nil_append, List.drop_succ_cons, List.drop_zero]; rfl) ?_
  refine rk_seq ?_
  refine rk_region ?_
  refine wl_p (fun _ => o_assign rfl) ?_
  refine wl_p (fun _ => o_assign rfl) ?_
  refine wl_nil ?_
  refine ret2 rfl rfl rfl ?_
  exact ⟨rfl, hp, hd, _, Chg.refl, Chg.refl, _, Grew.refl_⟩
end Go.Proofs.YtklijaahbahcoaaGreatDoor
