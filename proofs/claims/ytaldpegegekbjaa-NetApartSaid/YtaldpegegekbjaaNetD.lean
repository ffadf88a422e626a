/-
  Walks of package net: what changes a net: an envelope twice.
-/
import Derived.Test.YtaldpegegekbjaaNetC
namespace Go.Proofs.Ytaldpegegekbjaa
open Go.RowKit
theorem C_Twice1 {b lo hi g i : Nat} {A : Option Addr} {L : List En} {n c : Nat} (w : World) (hown : OwnEn b w lo hi A c L) (hg : Blk w g 3 [.int .i64 (i : Int)]) (hn : n = L.length) (hlen : L.length ≤ 1000) (hil : i < L.length) (hraw : L[i].2.2.length ≤ 16384) (hB : lo ≤ w.heap.size) (hb : b ≤ w.heap.size) :
    CallsR Try.prog 28 [.slice A n c, .pointer (some ⟨g, 0, none⟩)] w fun v w' => ∃ A' c', v = .slice A' (L ++ [L[i]]).length c' ∧ OwnEn b w' lo w'.heap.size A' c' (L ++ [L[i]]) ∧ w.grownBy w' (blk A) ∧ Below lo w w' := by
  subst hn
  refine callsR Try.func28 rfl rfl (by kernel_rfl) rfl ?_
  have hw := Below.refl w.heap.size w
  have hwl := Below.refl lo w
  have hr0 := hown.to_REn
  refine rk_seq ?_
  refine rk_region ?_
  refine wl_p (fun _ => o_assign rfl) ?_
  refine wl_nil ?_
  refine rk_seq ?_
  refine rk_region ?_
  refine wl_p (fun _ => o_move rfl) ?_
  refine wl_p (fun _ => o_move rfl) ?_
  refine wl_p (fun _ => o_len (t := 25) Try.underlying25 rfl) ?_
  refine wl_p (fun _ => o_move rfl) ?_
  refine wl_r (o_loadbg Try.isAgg3 rfl hg (by rfl)) ?_
  refine wl_p (fun _ => (o_iaddrA (i) Try.underlying25 Try.sizeOf38 rfl rfl rfl (hr0.some_ (by omega)) (by omega))) ?_
  refine wl_ldEnv rfl hr0 hw (by omega) ?_
  rintro A110 c110 f10 i10 i10_1 e10 e10_1
  refine wl_call rfl (C_clone _ f10 rfl (by omega)) ?_
  rintro v11 w11 ⟨A11, ⟨c11, ⟨rfl, ⟨f11, b11⟩⟩⟩⟩
  have qf11 := f11.cap
  have s11 := b11.size
  replace hw := hw.trans (b11.mono hw.size)
  replace hwl := hwl.trans (b11.mono (by omega))
  refine wl_litE1 (by rfl) rfl f11 hw (by omega) rfl e10 e10_1 (by rfl) ?_
  rintro A12 w12 f12 b12
  have qf12 := f12.cap
  have s12 := b12.size
  replace hw := hw.trans (b12.mono hw.size)
  replace hwl := hwl.trans (b12.mono (by omega))
  replace f11 := f11.u b12
  have ft := f12.to_REnT.mono hb
  have ho := hown.u hw
  refine wl_call rfl (C_InsertEnd _ ho ft rfl rfl rfl (by simp only [List.length_singleton]; omega) (by omega)) ?_
  rintro v13 w13 ⟨A13, c13, rfl, f13, g13, b13⟩
  have hgr := grownBy_trans (grown_of_below hw (blk A)) g13
  replace hwl := hwl.trans b13
  clear hw
  refine wl_p (fun _ => o_assign rfl) ?_
  refine wl_nil ?_
  refine ret1 rfl rfl ?_
  exact ⟨_, _, rfl, f13, hgr, hwl⟩
theorem netAt_zero {k i : Int} {L : List En} (h : netAt k L i = 0) : netOk k L = true ∧ 0 ≤ i ∧ i < (L.length : Int) := by
  unfold netAt at h
  cases h1 : netOk k L
  · rw [h1, if_pos rfl] at h; omega
  · rw [h1, if_neg (by decide)] at h
    refine ⟨rfl, ?_⟩
    split at h <;> omega
theorem netOk_parts {k : Int} {L : List En} (h : netOk k L = true) : 1 ≤ k ∧ k ≤ 7 ∧ L.length ≤ 512 ∧ ∀ e ∈ L, okEnv k e = true ∧ e.2.2.length ≤ 16384 := by
  unfold netOk at h
  rw [Bool.and_eq_true] at h
  have h1 := of_decide_eq_true h.1
  refine ⟨h1.1, h1.2.1, h1.2.2, fun e he => ?_⟩
  have h2 := List.all_eq_true.1 h.2 e he
  refine ⟨h2, ?_⟩
  unfold okEnv at h2
  rw [Bool.and_eq_true] at h2
  exact of_decide_eq_true h2.2
theorem C_Twice {k i r : Int} {A : Option Addr} {L : List En} {n c : Nat} (w : World) (hL : REn w A L) (hr : (if netAt k L i ≠ 0 then netAt k L i else if 512 ≤ L.length then 7 else 0) = r) (hn : n = L.length) (hm : n ≤ maxLen) (wi : (Lit.int .i64 i).wf = true) :
    CallsR Try.prog 13 [.agg #[.int .i64 k, .slice A n c], .int .i64 i] w fun v w' => ∃ k' A' c' Q, v = .tuple #[.agg #[.int .i64 k', .slice A' Q.length c'], .int .i64 r] ∧ OwnEn w.heap.size w' w.heap.size w'.heap.size A' c' Q ∧ (r = 0 → k' = k ∧ ∃ h : i.toNat < L.length, Q = L ++ [L[i.toNat]]) ∧ (r ≠ 0 → k' = 0 ∧ Q = []) ∧ Below w.heap.size w w' := by
  subst hn
  obtain ⟨e, he⟩ : ∃ e, netAt k L i = e := ⟨_, rfl⟩
  rw [he] at hr
  refine callsR Try.func13 rfl rfl (by kernel_rfl) rfl ?_
  have hw := Below.refl w.heap.size w
  refine rk_seq ?_
  refine rk_region ?_
  refine wl_boxg [_, _] rfl (by rfl) ?_
  rintro g2 w2 f2 b2 i2 i2_1
  have s2 := b2.size
  replace hw := hw.trans (b2.mono hw.size)
  refine wl_boxg [_] rfl (by rfl) ?_
  rintro g3 w3 f3 b3 i3 i3_1
  have s3 := b3.size
  replace hw := hw.trans (b3.mono hw.size)
  replace f2 := f2.u b3
  refine wl_allocg [_, _] Try.zeroValue27 (by rfl) ?_
  rintro g4 w4 f4 b4 i4 i4_1
  have s4 := b4.size
  replace hw := hw.trans (b4.mono hw.size)
  replace f2 := f2.u b4
  replace f3 := f3.u b4
  refine wl_p (fun _ => o_assign rfl) ?_
  refine wl_nil ?_
  refine rk_seq ?_
  refine rk_seq ?_
  refine rk_region ?_
  refine wl_r (o_loadag Try.isAgg27 Try.sizeOf27 rfl f2 (by rfl)) ?_
  refine wl_r (o_loadbg Try.isAgg3 rfl f3 (by rfl)) ?_
  refine wl_call rfl (C_at _ (hL.u hw) he rfl (by omega)) ?_
  rintro v9 w9 ⟨rfl, b9⟩
  have s9 := b9.size
  replace hw := hw.trans (b9.mono hw.size)
  replace f3 := f3.u b9
  replace f2 := f2.u b9
  replace f4 := f4.u b9
  refine wl_p (fun _ => o_assign rfl) ?_
  refine wl_nil ?_
  refine rk_seq ?_
  refine rk_region ?_
  refine wl_p (fun _ => o_move rfl) ?_
  refine wl_p (fun _ => o_ne rfl rfl) ?_
  refine wl_nil ?_
  refine rk_if rfl (fun h11 => ?_) (fun h11 => ?_)
  · rw [if_pos (by omega)] at hr
    subst hr
    refine rk_seq ?_
    refine rk_region ?_
    refine wl_p (fun _ => (o_buildg [_, _] Try.underlying27 Try.zeroValue27 (by rfl) (by rfl) rfl (by rfl) (by rfl) (fun _ => by kernel_rfl))) ?_
    refine wl_p (fun _ => o_move rfl) ?_
    refine wl_storega Try.sizeOf27 rfl rfl (by rfl) (by decide) f4 (by rfl) ?_
    rintro w_1 f g e_1
    have s := g.size
    replace hw := hw.trans (below_of_grownBy g.g hw.size (by omega))
    replace f2 := f2.k g.g (ap_some (by omega))
    replace f3 := f3.k g.g (ap_some (by omega))
    clear f4
    refine wl_p (fun _ => o_assign rfl) ?_
    refine wl_nil ?_
    refine ret_cell_tmp rfl rfl rfl Try.isAgg27 Try.sizeOf27 f rfl ?_
    exact ⟨0, none, 0, [], rfl, OwnEn.nil_, fun h => absurd h (by omega), fun _ => ⟨rfl, rfl⟩, hw⟩
  · have he0 : e = 0 := by omega
    rw [he0] at he
    obtain ⟨hok, hi0, hil⟩ := netAt_zero he
    obtain ⟨hk1, hk7, hl5, hall⟩ := netOk_parts hok
    have hraw : ∀ e ∈ L, e.2.2.length ≤ 16384 := fun e h => (hall e h).2
    obtain ⟨j, rfl⟩ : ∃ j : Nat, i = j := ⟨i.toNat, by omega⟩
    have hjl : j < L.length := by omega
    rw [he0, if_neg (by decide)] at hr
    refine rk_skip ?_
    refine rk_seq ?_
    refine rk_seq ?_
    refine rk_region ?_
    refine wl_p (fun _ => o_faddr (s := 27) (i := 1) (off := 1) Try.underlying27 rfl Try.sizeOf25 rfl rfl rfl) ?_
    refine wl_r (o_loadbg Try.isAgg25 rfl f2 (by rfl)) ?_
    refine wl_p (fun _ => o_len (t := 25) Try.underlying25 rfl) ?_
    refine wl_p (fun _ => o_ge rfl rfl) ?_
    refine wl_nil ?_
    refine rk_if rfl (fun h17 => ?_) (fun h17 => ?_)
    · rw [if_pos (by omega)] at hr
      subst hr
      refine rk_seq ?_
      refine rk_region ?_
      refine wl_p (fun _ => (o_buildg [_, _] Try.underlying27 Try.zeroValue27 (by rfl) (by rfl) rfl (by rfl) (by rfl) (fun _ => by kernel_rfl))) ?_
      refine wl_storega Try.sizeOf27 rfl rfl (by rfl) (by decide) f4 (by rfl) ?_
      rintro w_1 f g e_1
      have s := g.size
      replace hw := hw.trans (below_of_grownBy g.g hw.size (by omega))
      replace f3 := f3.k g.g (ap_some (by omega))
      replace f2 := f2.k g.g (ap_some (by omega))
      clear f4
      refine wl_p (fun _ => o_assign rfl) ?_
      refine wl_nil ?_
      refine ret_cell_tmp rfl rfl rfl Try.isAgg27 Try.sizeOf27 f rfl ?_
      exact ⟨0, none, 0, [], rfl, OwnEn.nil_, fun h => absurd h (by decide), fun _ => ⟨rfl, rfl⟩, hw⟩
    · rw [if_neg (by omega)] at hr
      subst hr
      refine rk_skip ?_
      refine rk_seq ?_
      refine rk_region ?_
      refine wl_r (o_loadag Try.isAgg27 Try.sizeOf27 rfl f2 (by rfl)) ?_
      refine wl_p (fun _ => o_makeFunc (xs := [.tmp 3]) rfl) ?_
      have H : ∀ w1 A1 c1, OwnEn w9.heap.size w1 w9.heap.size w1.heap.size A1 c1 L → Below w9.heap.size w9 w1 → CallsR Try.prog 28 ([.slice A1 L.length c1] ++ (#[Value.pointer (some ⟨g3, 0, none⟩)] : Array Value).toList) w1 fun v w' => ∃ A' c', v = .slice A' (L ++ [L[j]]).length c' ∧ OwnEn w9.heap.size w' w9.heap.size w'.heap.size A' c' (L ++ [L[j]]) ∧ w1.grownBy w' (blk A1) ∧ Below w9.heap.size w1 w' :=
        fun w1 A1 c1 ho hb1 => C_Twice1 w1 ho (f3.u hb1) rfl (by omega) hjl (hraw _ (List.getElem_mem hjl)) hb1.size hb1.size
      refine wl_call rfl (C_change w9 (Nat.le_refl _) (hL.u hw) rfl hl5 (by omega) hk7 hraw H) ?_
      rintro v21 w21 ⟨A21, c21, rfl, f21, b21⟩
      have hsw := hw.size
      replace hw := hw.trans (b21.mono hsw)
      replace f4 := f4.u b21
      clear f2 f3
      refine wl_storega Try.sizeOf27 rfl rfl (by rfl) (oneCell_of (by rfl)) f4 (by rfl) ?_
      rintro w_1 f g e_1
      have s := g.size
      replace hw := hw.trans (below_of_grownBy g.g hw.size (by omega))
      replace f21 := f21.y g (by decide)
      clear f4
      refine wl_p (fun _ => o_assign rfl) ?_
      refine wl_nil ?_
      refine ret_cell_tmp rfl rfl rfl Try.isAgg27 Try.sizeOf27 f rfl ?_
      exact ⟨k, A21, c21, L ++ [L[j]], rfl, (f21.mono hsw).base hsw (by omega), fun _ => ⟨rfl, hjl, rfl⟩, fun h => absurd rfl h, hw⟩
end Go.Proofs.Ytaldpegegekbjaa
