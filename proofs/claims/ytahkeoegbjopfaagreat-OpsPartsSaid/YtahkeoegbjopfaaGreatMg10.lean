/-
  Walks of the document's answer for chapter 22: the bytes of ops.
-/
import Derived.Test.YtahkeoegbjopfaaGreatMg9
namespace Go.Proofs.YtahkeoegbjopfaaGreat
set_option maxRecDepth 100000
open Go.RowKit
set_option maxHeartbeats 4000000 in
set_option maxRecDepth 100000 in
theorem K_r22Bytes {A : Option Addr} {L : List Opn} {b : By} {e n c : Nat} (w : World) (hr : bytesO L = (b, e)) (hL : RO w A L) (hn : n = L.length) (hln : L.length ≤ 4000000) (hl : ∀ o ∈ L, o.2.1.length ≤ 4000000 ∧ o.2.2.1.length ≤ 4000000) :
    CallsR Tryz.prog 34 [.slice A n c] w fun v w' => ∃ A' c', v = .tuple #[.slice A' b.length c', .int .i64 (e : Int)] ∧ OwnH w' w.heap.size w'.heap.size A' c' b ∧ Below w.heap.size w w' := by
  subst hn
  unfold bytesO at hr
  refine callsR Tryz.func34 rfl rfl (by kernel_rfl) rfl ?_
  have hw := Below.refl w.heap.size w
  refine rk_seq ?_
  refine rk_region ?_
  refine wl_p (fun _ => o_assign rfl) ?_
  refine wl_p (fun _ => o_assign rfl) ?_
  refine wl_nil ?_
  refine rk_seq ?_
  refine rk_seq ?_
  refine rk_region ?_
  refine wl_p (fun _ => o_move rfl) ?_
  refine wl_p (fun _ => o_len (t := 35) Tryz.underlying35 rfl) ?_
  refine wl_p (fun _ => o_gt rfl rfl) ?_
  refine wl_nil ?_
  refine rk_if rfl (fun h9 => ?_) (fun h9 => ?_)
  · rw [if_pos (by omega)] at hr
    injection hr with h1 h2
    subst h1; subst h2
    refine rk_seq ?_
    refine rk_region ?_
    refine wl_p (fun _ => o_assign rfl) ?_
    refine wl_p (fun _ => o_assign rfl) ?_
    refine wl_nil ?_
    refine ret2 rfl rfl rfl ?_
    exact ⟨_, _, rfl, OwnH.nil_, hw⟩
  rw [if_neg (by omega)] at hr
  refine rk_skip ?_
  refine rk_seq ?_
  refine rk_region ?_
  refine wl_p (fun _ => o_move rfl) ?_
  refine wl_p (fun _ => o_len (t := 35) Tryz.underlying35 rfl) ?_
  refine wl_p (fun _ => o_convi (src := 3) (dst := 5) Tryz.underlying3 Tryz.underlying5 rfl) ?_
  rw [u8w (n := L.length) (by omega)]
  refine wl_litB [UInt8.ofNat L.length] Tryz.u8 Tryz.sizeOf5 Tryz.zeroValue5 (by rfl) rfl rfl (by rfl) (by rfl) (by rfl) ?_
  rintro A13 w13 f13 b13
  have qf13 := f13.cap
  have s13 := b13.size
  replace hw := hw.trans (b13.mono hw.size)
  refine wl_p (fun _ => o_assign rfl) ?_
  refine wl_nil ?_
  refine rk_seq ?_
  refine rk_seq ?_
  refine rk_region ?_
  refine wl_p (fun _ => o_assign rfl) ?_
  refine wl_nil ?_
  refine rk_block ?_
  refine rk_joinf (fun fb fr w3 => ∃ A' c', fr = [(4, .slice A' (UInt8.ofNat L.length :: L.flatMap opB).length c')] ++ fb.drop 2 ∧ L.all okO = true ∧ OwnH w3 w.heap.size w3.heap.size A' c' (UInt8.ofNat L.length :: L.flatMap opB) ∧ Below w.heap.size w w3) ?_ (fun ks hj => ?_)
  rotate_left
  · refine rk_loopf (fun fb m fr w3 => ∃ (i : Nat) (v : Int) (A' : Option Addr) (bs : By) (c' : Nat), fr = [(5, .int .i64 v), (4, .slice A' bs.length c')] ++ fb.drop 2 ∧ v = i ∧ i ≤ L.length ∧ m = L.length - i ∧ bs = UInt8.ofNat L.length :: (L.take i).flatMap opB ∧ (L.take i).all okO = true ∧ bs.length ≤ 1 + 71 * i ∧ OwnH w3 w.heap.size w3.heap.size A' c' bs ∧ Below w.heap.size w w3) (n := L.length) (Fr.le_of (by kernel_rfl) (by kernel_rfl) (by repeat' constructor)) ⟨0, _, A13, _, _, rfl, rfl, by omega, rfl, by simp, by simp, by simp, f13, hw⟩ ?_
    clear hw f13
    rintro m fr w3 ⟨i, v, A', bs, c', rfl, rfl, hi, rfl, hbs, hok, hbl, fo, hw⟩
    have shw := hw.size
    first | refine rk_frame (by simp only [List.cons_append, List.nil_append, List.drop_succ_cons, List.drop_zero]; rfl) ?_ | refine wl_frame (by simp only [List.cons_append, List.nil_append, List.drop_succ_cons, List.drop_zero]; rfl) ?_
    refine rk_seq ?_
    refine rk_seq ?_
    refine rk_region ?_
    refine wl_p (fun _ => o_move rfl) ?_
    refine wl_p (fun _ => o_move rfl) ?_
    refine wl_p (fun _ => o_len (t := 35) Tryz.underlying35 rfl) ?_
    refine wl_p (fun _ => o_lt rfl rfl) ?_
    refine wl_nil ?_
    refine rk_if rfl (fun h17 => ?_) (fun h17 => ?_)
    · have hil : i < L.length := by omega
      obtain ⟨n1, n2⟩ := hl _ (List.getElem_mem hil)
      cases hgk : okOp L[i].1 L[i].2.1.length L[i].2.2.1.length L[i].2.2.2
      · rw [if_neg (fun h => by have := List.all_eq_true.1 h _ (List.getElem_mem hil); unfold okO at this; rw [hgk] at this; cases this)] at hr
        injection hr with h1 h2
        subst h1; subst h2
        refine rk_skip ?_
        refine rk_seq ?_
        refine rk_block ?_
        refine rk_seq ?_
        refine rk_region ?_
        refine wl_p (fun _ => o_move rfl) ?_
        refine wl_p (fun _ => o_move rfl) ?_
        refine wl_p (fun _ => (o_iaddrA (i) Tryz.underlying35 Tryz.sizeOf54 rfl rfl rfl (hL.some_ (by omega)) (by omega))) ?_
        refine wl_ldOp rfl hL hw (by omega) ?_
        rintro K23 c23 V23 d23 f23 f23_1 i23 i23_1 i23_2 i23_3 e23
        refine wl_allocOp ?_
        rintro g6 w6 f6 b6 i6 i6_1
        have s6 := b6.size
        replace hw := hw.trans (b6.mono hw.size)
        replace fo := fo.u b6
        refine wl_stOpB rfl f6 rfl ?_
        rintro w_1 f g e
        have s := g.size
        replace hw := hw.trans (below_of_grownBy g.g hw.size (by omega))
        replace fo := fo.k g.g (ap_some (by omega))
        clear f6
        refine wl_nil ?_
        refine rk_seq ?_
        refine rk_seq ?_
        refine rk_region ?_
        refine wl_r (o_loadag Tryz.isAgg54 Tryz.sizeOf54 rfl f (opC_length ..)) ?_
        refine wl_call rfl (C_r22CheckN _ (by omega) (by omega) hgk) ?_
        rintro v25 w25 ⟨rfl, b25⟩
        have s25 := b25.size
        replace hw := hw.trans (b25.mono hw.size)
        replace fo := fo.u b25
        replace f := f.u b25
        refine wl_p (fun _ => o_ne rfl rfl) ?_
        refine wl_nil ?_
        refine rk_true rfl ?_
        refine rk_seq ?_
        refine rk_region ?_
        refine wl_p (fun _ => o_assign rfl) ?_
        refine wl_p (fun _ => o_assign rfl) ?_
        refine wl_nil ?_
        refine ret2 rfl rfl rfl ?_
        exact ⟨_, _, rfl, OwnH.nil_, hw⟩
      · obtain ⟨q1, q2, q3⟩ := okOp_of hgk
        refine rk_skip ?_
        refine rk_seq ?_
        refine rk_block ?_
        refine rk_seq ?_
        refine rk_region ?_
        refine wl_p (fun _ => o_move rfl) ?_
        refine wl_p (fun _ => o_move rfl) ?_
        refine wl_p (fun _ => (o_iaddrA (i) Tryz.underlying35 Tryz.sizeOf54 rfl rfl rfl (hL.some_ (by omega)) (by omega))) ?_
        refine wl_ldOp rfl hL hw (by omega) ?_
        rintro K23 c23 V23 d23 f23 f23_1 i23 i23_1 i23_2 i23_3 e23
        refine wl_allocOp ?_
        rintro g6 w6 f6 b6 i6 i6_1
        have s6 := b6.size
        replace hw := hw.trans (b6.mono hw.size)
        replace fo := fo.u b6
        refine wl_stOpB rfl f6 rfl ?_
        rintro w_1 f g e_1
        have s := g.size
        replace hw := hw.trans (below_of_grownBy g.g hw.size (by omega))
        replace fo := fo.k g.g (ap_some (by omega))
        clear f6
        refine wl_nil ?_
        refine rk_seq ?_
        refine rk_seq ?_
        refine rk_region ?_
        refine wl_r (o_loadag Tryz.isAgg54 Tryz.sizeOf54 rfl f (opC_length ..)) ?_
        refine wl_call rfl (C_r22CheckY _ (by omega) (by omega) hgk) ?_
        rintro v25 w25 ⟨rfl, b25⟩
        have s25 := b25.size
        replace hw := hw.trans (b25.mono hw.size)
        replace fo := fo.u b25
        replace f := f.u b25
        refine wl_p (fun _ => o_ne rfl rfl) ?_
        refine wl_nil ?_
        refine rk_false rfl ?_
        refine rk_skip ?_
        refine rk_seq ?_
        refine rk_region ?_
        refine wl_p (fun _ => o_move rfl) ?_
        refine wl_p (fun _ => o_faddr (s := 54) (i := 0) (off := 0) Tryz.underlying54 rfl Tryz.sizeOf3 rfl rfl rfl) ?_
        refine wl_r (o_loadbg Tryz.isAgg3 rfl f (by rfl)) ?_
        refine wl_p (fun _ => o_convi (src := 3) (dst := 5) Tryz.underlying3 Tryz.underlying5 rfl) ?_
        have hkw : IntKind.u8.wrap L[i].1 = ((UInt8.ofNat L[i].1.toNat).toNat : Int) := by
          rw [← u8w (n := L[i].1.toNat) (by omega), Int.toNat_of_nonneg (by omega)]
        rw [hkw]
        obtain ⟨r1, r2⟩ := goodS_le q3
        have x1 := blkB_le (Nat.le_refl L[i].2.1.length) (by omega)
        have x2 := blkB_le (Nat.le_refl L[i].2.2.1.length) (by omega)
        have r3 := tailS_le (k := L[i].1) (u := L[i].2.2.2) r1 r2
        have hnx : ∀ z, z = tailS L[i].1 L[i].2.1 L[i].2.2.1 L[i].2.2.2 → bs ++ [UInt8.ofNat L[i].1.toNat] ++ z = UInt8.ofNat L.length :: (L.take (i + 1)).flatMap opB := fun z hz => by
          rw [List.take_succ_eq_append_getElem hil, List.flatMap_append, List.flatMap_singleton, hbs, opB, hz]
          simp
        have hok2 : (L.take (i + 1)).all okO = true := by
          rw [List.take_succ_eq_append_getElem hil, List.all_append, hok]
          simp [okO, hgk]
        by_cases k1 : L[i].1 = 1
        · have ht : tailS L[i].1 L[i].2.1 L[i].2.2.1 L[i].2.2.2 = blkB L[i].2.1 ++ blkB L[i].2.2.1 := by unfold tailS; rw [if_pos k1]
          refine wl_litB [UInt8.ofNat L[i].fst.toNat] Tryz.u8 Tryz.sizeOf5 Tryz.zeroValue5 (by rfl) rfl rfl (by rfl) (by rfl) (by rfl) ?_
          rintro A31 w31 f31 b31
          have qf31 := f31.cap
          have s31 := b31.size
          replace hw := hw.trans (b31.mono hw.size)
          replace f := f.u b31
          replace fo := fo.u b31
          refine wl_appB Tryz.u8 rfl fo rfl rfl f31.to_Rd (by rfl) (by omega) hw.size ?_
          rintro A32 c32 w32 f32 g32 b32 i32
          have qf32 := f32.cap
          have s32 := g32.size
          replace hw := hw.trans (b32.mono (by omega))
          replace f := f.y g32 (by decide)
          replace f31 := f31.k g32.g (fo.ap (by omega))
          clear fo
          refine wl_p (fun _ => o_assign rfl) ?_
          refine wl_nil ?_
          refine rk_seq ?_
          refine rk_region ?_
          refine wl_p (fun _ => o_faddr (s := 54) (i := 0) (off := 0) Tryz.underlying54 rfl Tryz.sizeOf3 rfl rfl rfl) ?_
          refine wl_r (o_loadbg Tryz.isAgg3 rfl f (by rfl)) ?_
          refine wl_nil ?_
          refine rk_block ?_
          refine rk_seq ?_
          refine rk_region ?_
          refine wl_p (fun _ => o_eq rfl rfl) ?_
          refine wl_p (fun _ => o_assign rfl) ?_
          refine wl_nil ?_
          refine rk_if rfl (fun h39 => ?_) (fun h39 => h39.elim (by omega))
          refine rk_drawo (id := 14) (none) [0, 0, 2, 5, 0, 16, 40, 127] [0, 0, 2, 7, 0, 16, 63, 127] 72 8 [0, 1, 2, 4, 5, 3, 6, 7] [(.p, 0), (.p, 1), (.r, 2), (.p, 4), (.s, 5), (.c, 3), (.l, 6), (.p, 7)] (by kernel_rfl) (by kernel_rfl) (by kernel_rfl) (by kernel_rfl) (by kernel_rfl) ?_
          dsimp only [inOrder, nthOp]
          replace hw := hw.drew
          replace f31 := f31.d
          replace f := f.d
          replace f32 := f32.d
          refine wl_p (fun _ => o_move rfl) ?_
          refine wl_p (fun _ => o_faddr (s := 54) (i := 1) (off := 1) Tryz.underlying54 rfl Tryz.sizeOf39 rfl rfl rfl) ?_
          refine wl_r (o_loadbg Tryz.isAgg39 rfl f (by rfl)) ?_
          refine wl_p (fun _ => o_faddr (s := 54) (i := 2) (off := 2) Tryz.underlying54 rfl Tryz.sizeOf39 rfl rfl rfl) ?_
          refine wl_s (fun _ hk => (o_loadbg Tryz.isAgg39 rfl (f.u (below_of_grown_none hk)) (by rfl))) ?_
          refine wl_call rfl (C_refBlockH _ f32.to_Rd (f23.u hw) rfl rfl (by simp; omega) (by omega)) ?_ (hq := .inr fun _ _ h => grown_of_below h.choose_spec.choose_spec.2.2 _)
          rintro v44 w44 ⟨A44, ⟨c44, ⟨rfl, ⟨f44, b44⟩⟩⟩⟩
          simp only [drew_size] at f44
          simp only [drew_size] at b44
          have qf44 := f44.cap
          have s44 := b44.size
          simp only [drew_size] at s44
          replace hw := hw.trans (b44.mono hw.size)
          replace f32 := f32.u b44
          replace f := f.u b44
          replace f31 := f31.u b44
          refine wl_call rfl (C_refBlockH _ f44.to_Rd (f23_1.u hw) rfl rfl (by simp; omega) (by omega)) ?_
          rintro v47 w47 ⟨A47, ⟨c47, ⟨rfl, ⟨f47, b47⟩⟩⟩⟩
          have qf47 := f47.cap
          have s47 := b47.size
          replace hw := hw.trans (b47.mono hw.size)
          replace f31 := f31.u b47
          replace f := f.u b47
          replace f32 := f32.u b47
          replace f44 := f44.u b47
          refine wl_p (fun _ => o_assign rfl) ?_
          refine wl_nild ?_
          refine rk_blk ?_
          refine rk_blk ?_
          refine rk_region ?_
          refine wl_p (fun _ => o_move rfl) ?_
          refine wl_p (fun _ => o_add rfl rfl (by omega) (by omega)) ?_
          refine wl_p (fun _ => o_assign rfl) ?_
          refine wl_nil ?_
          exact rk_againf (Fr.le_of (by kernel_rfl) (by kernel_rfl) (by repeat' constructor)) ⟨i + 1, (i : Int) + 1, A47, _, c47, rfl, by omega, by omega, rfl, by rw [List.append_assoc (bs ++ _)]; exact hnx _ ht.symm, hok2, by simp only [List.length_append, List.length_singleton]; omega, f47.base (by omega) (by omega), hw⟩ (by omega)
        · by_cases k2 : L[i].1 = 2
          · have ht : tailS L[i].1 L[i].2.1 L[i].2.2.1 L[i].2.2.2 = blkB L[i].2.1 := by unfold tailS; rw [if_neg k1, if_pos k2]
            refine wl_litB [UInt8.ofNat L[i].fst.toNat] Tryz.u8 Tryz.sizeOf5 Tryz.zeroValue5 (by rfl) rfl rfl (by rfl) (by rfl) (by rfl) ?_
            rintro A31 w31 f31 b31
            have qf31 := f31.cap
            have s31 := b31.size
            replace hw := hw.trans (b31.mono hw.size)
            replace f := f.u b31
            replace fo := fo.u b31
            refine wl_appB Tryz.u8 rfl fo rfl rfl f31.to_Rd (by rfl) (by omega) hw.size ?_
            rintro A32 c32 w32 f32 g32 b32 i32
            have qf32 := f32.cap
            have s32 := g32.size
            replace hw := hw.trans (b32.mono (by omega))
            replace f := f.y g32 (by decide)
            replace f31 := f31.k g32.g (fo.ap (by omega))
            clear fo
            refine wl_p (fun _ => o_assign rfl) ?_
            refine wl_nil ?_
            refine rk_seq ?_
            refine rk_region ?_
            refine wl_p (fun _ => o_faddr (s := 54) (i := 0) (off := 0) Tryz.underlying54 rfl Tryz.sizeOf3 rfl rfl rfl) ?_
            refine wl_r (o_loadbg Tryz.isAgg3 rfl f (by rfl)) ?_
            refine wl_nil ?_
            refine rk_block ?_
            refine rk_seq ?_
            refine rk_region ?_
            refine wl_p (fun _ => o_eq rfl rfl) ?_
            refine wl_p (fun _ => o_assign rfl) ?_
            refine wl_nil ?_
            refine rk_if rfl (fun h39 => absurd h39 (by omega)) (fun h39 => ?_)
            refine rk_seq ?_
            refine rk_region ?_
            refine wl_p (fun _ => o_eq rfl rfl) ?_
            refine wl_p (fun _ => o_assign rfl) ?_
            refine wl_nil ?_
            refine rk_if rfl (fun h48 => ?_) (fun h48 => h48.elim (by omega))
            refine rk_region ?_
            refine wl_p (fun _ => o_move rfl) ?_
            refine wl_p (fun _ => o_faddr (s := 54) (i := 1) (off := 1) Tryz.underlying54 rfl Tryz.sizeOf39 rfl rfl rfl) ?_
            refine wl_r (o_loadbg Tryz.isAgg39 rfl f (by rfl)) ?_
            refine wl_call rfl (C_refBlockH _ f32.to_Rd (f23.u hw) rfl rfl (by simp; omega) (by omega)) ?_
            rintro v53 w53 ⟨A53, ⟨c53, ⟨rfl, ⟨f53, b53⟩⟩⟩⟩
            have qf53 := f53.cap
            have s53 := b53.size
            replace hw := hw.trans (b53.mono hw.size)
            replace f31 := f31.u b53
            replace f := f.u b53
            replace f32 := f32.u b53
            refine wl_p (fun _ => o_assign rfl) ?_
            refine wl_nil ?_
            refine rk_blk ?_
            refine rk_blk ?_
            refine rk_region ?_
            refine wl_p (fun _ => o_move rfl) ?_
            refine wl_p (fun _ => o_add rfl rfl (by omega) (by omega)) ?_
            refine wl_p (fun _ => o_assign rfl) ?_
            refine wl_nil ?_
            exact rk_againf (Fr.le_of (by kernel_rfl) (by kernel_rfl) (by repeat' constructor)) ⟨i + 1, (i : Int) + 1, A53, _, c53, rfl, by omega, by omega, rfl, hnx _ ht.symm, hok2, by simp only [List.length_append, List.length_singleton]; omega, f53.base (by omega) (by omega), hw⟩ (by omega)
          · have ht : tailS L[i].1 L[i].2.1 L[i].2.2.1 L[i].2.2.2 = L[i].2.2.2.1 := by unfold tailS; rw [if_neg k1, if_neg k2]
            refine wl_litB [UInt8.ofNat L[i].fst.toNat] Tryz.u8 Tryz.sizeOf5 Tryz.zeroValue5 (by rfl) rfl rfl (by rfl) (by rfl) (by rfl) ?_
            rintro A31 w31 f31 b31
            have qf31 := f31.cap
            have s31 := b31.size
            replace hw := hw.trans (b31.mono hw.size)
            replace f := f.u b31
            replace fo := fo.u b31
            refine wl_appB Tryz.u8 rfl fo rfl rfl f31.to_Rd (by rfl) (by omega) hw.size ?_
            rintro A32 c32 w32 f32 g32 b32 i32
            have qf32 := f32.cap
            have s32 := g32.size
            replace hw := hw.trans (b32.mono (by omega))
            replace f := f.y g32 (by decide)
            replace f31 := f31.k g32.g (fo.ap (by omega))
            clear fo
            refine wl_p (fun _ => o_assign rfl) ?_
            refine wl_nil ?_
            refine rk_seq ?_
            refine rk_region ?_
            refine wl_p (fun _ => o_faddr (s := 54) (i := 0) (off := 0) Tryz.underlying54 rfl Tryz.sizeOf3 rfl rfl rfl) ?_
            refine wl_r (o_loadbg Tryz.isAgg3 rfl f (by rfl)) ?_
            refine wl_nil ?_
            refine rk_block ?_
            refine rk_seq ?_
            refine rk_region ?_
            refine wl_p (fun _ => o_eq rfl rfl) ?_
            refine wl_p (fun _ => o_assign rfl) ?_
            refine wl_nil ?_
            refine rk_if rfl (fun h39 => absurd h39 (by omega)) (fun h39 => ?_)
            refine rk_seq ?_
            refine rk_region ?_
            refine wl_p (fun _ => o_eq rfl rfl) ?_
            refine wl_p (fun _ => o_assign rfl) ?_
            refine wl_nil ?_
            refine rk_if rfl (fun h48 => absurd h48 (by omega)) (fun h48 => ?_)
            refine rk_region ?_
            refine wl_p (fun _ => o_move rfl) ?_
            refine wl_p (fun _ => o_faddr (s := 54) (i := 3) (off := 3) Tryz.underlying54 rfl Tryz.sizeOf42 rfl rfl rfl) ?_
            refine wl_p (fun _ => o_slice_arr (t := 42) Tryz.underlying42 Tryz.sizeOf5 rfl) ?_
            have hU := who_rd f
            have hul := L[i].2.2.2.2
            refine wl_appBm Tryz.u8 rfl f32 rfl rfl hU hul.symm (by simp; omega) (by omega) ?_
            intro A38 c38 w38 f38 g38 b38
            replace hw := hw.trans b38
            clear f32 f f31
            refine wl_p (fun _ => o_assign rfl) ?_
            refine wl_nil ?_
            refine rk_blk ?_
            refine rk_blk ?_
            refine rk_region ?_
            refine wl_p (fun _ => o_move rfl) ?_
            refine wl_p (fun _ => o_add rfl rfl (by omega) (by omega)) ?_
            refine wl_p (fun _ => o_assign rfl) ?_
            refine wl_nil ?_
            exact rk_againf (Fr.le_of (by kernel_rfl) (by kernel_rfl) (by repeat' constructor)) ⟨i + 1, (i : Int) + 1, A38, _, c38, rfl, by omega, by omega, rfl, hnx _ ht.symm, hok2, by simp only [List.length_append, List.length_singleton]; omega, f38.base (by omega) (by omega), hw⟩ (by omega)
    · refine rk_exit rfl ?_
      have e : i = L.length := by omega
      subst e
      rw [List.take_length] at hok hbs
      subst hbs
      exact rk_tof hj (Fr.le_of (by kernel_rfl) (by kernel_rfl) (by repeat' constructor)) ⟨A', c', rfl, hok, fo, hw⟩
  clear hw f13
  rintro fr w3 ⟨A', c', rfl, hok, fo, hw⟩
  have shw := hw.size
  rw [if_pos hok] at hr
  injection hr with h1 h2
  subst h1; subst h2
  first | refine rk_frame (by simp only [List.cons_append, List.nil_append, List.drop_succ_cons, List.drop_zero]; rfl) ?_ | refine wl_frame (by simp only [List.cons_append, List.nil_append, List.drop_succ_cons, List.drop_zero]; rfl) ?_
  refine rk_seq ?_
  refine rk_region ?_
  refine wl_p (fun _ => o_move rfl) ?_
  refine wl_p (fun _ => o_assign rfl) ?_
  refine wl_p (fun _ => o_assign rfl) ?_
  refine wl_nil ?_
  refine ret2 rfl rfl rfl ?_
  exact ⟨A', c', rfl, fo, hw⟩
end Go.Proofs.YtahkeoegbjopfaaGreat
/-
  Walk of headwaterkit.Pick.
-/
namespace Go.Proofs.YtahkeoegbjopfaaGreat
set_option maxRecDepth 100000
open Go.RowKit
theorem tmod_neg (n m : Int) (hm : 0 < m) (h : n.tmod m < 0) : n % m = n.tmod m + m := by
  have e := Int.tmod_eq_emod (a := n) (b := m)
  have h1 := Int.emod_nonneg n (b := m) (by omega)
  split at e <;> omega
theorem tmod_pos (n m : Int) (hm : 0 < m) (h : ¬ n.tmod m < 0) : n % m = n.tmod m := by
  have e := Int.tmod_eq_emod (a := n) (b := m)
  have h2 := Int.emod_lt_of_pos n hm
  split at e <;> omega
def pick (n m : Int) : Int := if m < 1 then 0 else n % m
theorem i64_wf {n : Int} (h : -9223372036854775808 ≤ n ∧ n ≤ 9223372036854775807) : (Lit.int .i64 n).wf = true := by
  simp only [Lit.wf, Bool.and_eq_true, decide_eq_true_eq]
  exact h
theorem pick_range (n m : Int) (hm : 1 ≤ m) : 0 ≤ pick n m ∧ pick n m < m := by
  rw [pick, if_neg (by omega)]
  exact ⟨Int.emod_nonneg n (by omega), Int.emod_lt_of_pos n (by omega)⟩
theorem C_Pick (n m : Int) (wn : (Lit.int .i64 n).wf = true) (wm : (Lit.int .i64 m).wf = true) (w : World) :
    CallsR Tryz.prog 9 [.int .i64 n, .int .i64 m] w fun v w' => v = .int .i64 (pick n m) ∧ w' = w := by
  have bn := bounds_i64 wn
  have bm := bounds_i64 wm
  refine callsR Tryz.func9 rfl rfl (by kernel_rfl) rfl ?_
  refine rk_seq ?_
  refine rk_region ?_
  refine wl_p (fun _ => o_assign rfl) ?_
  refine wl_nil ?_
  refine rk_seq ?_
  refine rk_seq ?_
  refine rk_region ?_
  refine wl_p (fun _ => o_move rfl) ?_
  refine wl_p (fun _ => o_lt rfl rfl) ?_
  refine wl_nil ?_
  refine rk_if rfl (fun h => ?_) (fun h => ?_)
  · refine rk_seq ?_
    refine rk_region ?_
    refine wl_p (fun _ => o_assign rfl) ?_
    refine wl_nil ?_
    refine ret1 rfl rfl ?_
    exact ⟨by rw [pick, if_pos h], rfl⟩
  · refine rk_skip ?_
    refine rk_seq ?_
    refine rk_region ?_
    refine wl_p (fun _ => o_move rfl) ?_
    refine wl_p (fun _ => o_move rfl) ?_
    refine wl_p (fun _ => o_remz rfl rfl (by omega)) ?_
    refine wl_p (fun _ => o_assign rfl) ?_
    refine wl_nil ?_
    refine rk_seq ?_
    refine rk_seq ?_
    refine rk_region ?_
    refine wl_p (fun _ => o_move rfl) ?_
    refine wl_p (fun _ => o_lt rfl rfl) ?_
    refine wl_nil ?_
    refine rk_if rfl (fun h2 => ?_) (fun h2 => ?_)
    · have e := tmod_neg n m (by omega) h2
      have e1 := Int.emod_nonneg n (b := m) (by omega)
      have e2 := Int.emod_lt_of_pos n (b := m) (by omega)
      refine rk_region ?_
      refine wl_p (fun _ => o_move rfl) ?_
      refine wl_p (fun _ => o_move rfl) ?_
      refine wl_p (fun _ => o_add rfl rfl (by omega) (by omega)) ?_
      refine wl_p (fun _ => o_assign rfl) ?_
      refine wl_nil ?_
      refine rk_seq ?_
      refine rk_region ?_
      refine wl_p (fun _ => o_move rfl) ?_
      refine wl_p (fun _ => o_assign rfl) ?_
      refine wl_nil ?_
      refine ret1 rfl rfl ?_
      exact ⟨by rw [pick, if_neg h, tmod_neg n m (by omega) h2], rfl⟩
    · refine rk_skip ?_
      refine rk_seq ?_
      refine rk_region ?_
      refine wl_p (fun _ => o_move rfl) ?_
      refine wl_p (fun _ => o_assign rfl) ?_
      refine wl_nil ?_
      refine ret1 rfl rfl ?_
      exact ⟨by rw [pick, if_neg h, tmod_pos n m (by omega) h2], rfl⟩
theorem C_PickR {n m r : Int} (w : World) (hr : pick n m = r) (wn : (Lit.int .i64 n).wf = true) (wm : (Lit.int .i64 m).wf = true) :
    CallsR Tryz.prog 9 [.int .i64 n, .int .i64 m] w fun v w' => v = .int .i64 r ∧ Below w.heap.size w w' := by
  refine (C_Pick n m wn wm w).mono ?_
  rintro v w' ⟨rfl, rfl⟩
  exact ⟨congrArg _ hr, Below.refl _ _⟩
end Go.Proofs.YtahkeoegbjopfaaGreat
/-
  Contracts of the kit's functions: what is light, by the answer.
-/
namespace Go.Proofs.YtahkeoegbjopfaaGreat
set_option maxRecDepth 100000
open Go.RowKit
theorem C_lightOpsN {A : Option Addr} {L : List Opn} {n c m : Nat} {mi : Int} (w : World) (hL : RO w A L) (hno : ¬LtO L m) (hn : n = L.length) (hm : mi = (m : Int)) (hl : L.length ≤ 9223372036854775807) (hmm : m ≤ 1000) :
    CallsR Tryz.prog 25 [.slice A n c, .int .i64 mi] w fun v w' => v = .bool false ∧ Below w.heap.size w w' := by
  refine CallsR.mono (C_lightOps (c := c) w hL hn hm hl hmm) ?_
  rintro v w' ⟨b, rfl, h1, h2⟩
  cases b
  · exact ⟨rfl, h2⟩
  · exact absurd (h1.1 rfl) hno
theorem C_lightOpsY {A : Option Addr} {L : List Opn} {n c m : Nat} {mi : Int} (w : World) (hL : RO w A L) (hyes : LtO L m) (hn : n = L.length) (hm : mi = (m : Int)) (hl : L.length ≤ 9223372036854775807) (hmm : m ≤ 1000) :
    CallsR Tryz.prog 25 [.slice A n c, .int .i64 mi] w fun v w' => v = .bool true ∧ Below w.heap.size w w' := by
  refine CallsR.mono (C_lightOps (c := c) w hL hn hm hl hmm) ?_
  rintro v w' ⟨b, rfl, h1, h2⟩
  rw [h1.2 hyes]
  exact ⟨rfl, h2⟩
theorem C_lightStateN {A B C : Option Addr} {I : List (By × By)} {X Y : List Ky} {n c p d q e m : Nat} {mi : Int} (w : World) (hno : ¬LtS I X Y m) (hA : RI w A I) (hn : n = I.length) (hp : p = X.length) (hq : q = Y.length) (hm : mi = (m : Int)) (hmm : m ≤ 1000) :
    CallsR Tryz.prog 20 [.agg #[.slice A n c, .slice B p d, .slice C q e], .int .i64 mi] w fun v w' => v = .bool false ∧ Below w.heap.size w w' := by
  refine CallsR.mono (C_lightState (B := B) (C := C) (c := c) (d := d) (e := e) w hA hn hp hq hm hmm) ?_
  rintro v w' ⟨b, rfl, h1, h2⟩
  cases b
  · exact ⟨rfl, h2⟩
  · exact absurd (h1.1 rfl) hno
theorem C_lightStateY {A B C : Option Addr} {I : List (By × By)} {X Y : List Ky} {n c p d q e m : Nat} {mi : Int} (w : World) (hyes : LtS I X Y m) (hA : RI w A I) (hn : n = I.length) (hp : p = X.length) (hq : q = Y.length) (hm : mi = (m : Int)) (hmm : m ≤ 1000) :
    CallsR Tryz.prog 20 [.agg #[.slice A n c, .slice B p d, .slice C q e], .int .i64 mi] w fun v w' => v = .bool true ∧ Below w.heap.size w w' := by
  refine CallsR.mono (C_lightState (B := B) (C := C) (c := c) (d := d) (e := e) w hA hn hp hq hm hmm) ?_
  rintro v w' ⟨b, rfl, h1, h2⟩
  rw [h1.2 hyes]
  exact ⟨rfl, h2⟩
end Go.Proofs.YtahkeoegbjopfaaGreat
/-
  Deeds: their light, their blocks.
-/
namespace Go.Proofs.YtahkeoegbjopfaaGreat
set_option maxRecDepth 100000
open Go.RowKit
structure FoldR (I : List (By × By)) (X Y : List Ky) (L : List Bk) (I' : List (By × By)) (X' Y' : List Ky) : Prop where
  h : foldS (I, X, Y) L = (I', X', Y')
theorem C_foldN {A B C D : Option Addr} {I I' : List (By × By)} {X Y X' Y' : List Ky} {L : List Bk} {n c m d q e r s : Nat} (w : World) (hA : RI w A I) (hB : RKs w B X) (hC : RKs w C Y) (hD : RBk w D L) (hr0 : FoldR I X Y L I' X' Y') (hn : n = I.length) (hm : m = X.length) (hq : q = Y.length) (hr : r = L.length) (hl : I.length ≤ 400000) (hl2 : X.length ≤ 400000) (hl3 : Y.length ≤ 400000) (hL : LtI I) (hl4 : L.length ≤ 40000) (hLB : LtB L) (hok : OkSt I X Y) :
    CallsR Tryz.prog 10 [.agg #[.slice A n c, .slice B m d, .slice C q e], .slice D r s] w fun v w' => ∃ A' c' B' d' C' e', v = .agg #[.slice A' I'.length c', .slice B' X'.length d', .slice C' Y'.length e'] ∧ OwnI w' w.heap.size w'.heap.size A' c' I' ∧ OwnKs w' w.heap.size w'.heap.size B' d' X' ∧ OwnKs w' w.heap.size w'.heap.size C' e' Y' ∧ Below w.heap.size w w' := by
  have h := K_fold (S := (I, X, Y)) (n := n) (c := c) (m := m) (d := d) (q := q) (e := e) (r := r) (s := s) w hA hB hC hD hn hm hq hr hl hl2 hl3 hL hl4 hLB hok
  rwa [hr0.h] at h
/-- A writer's key. -/
def keyK (n : Int) : Ky := ⟨UInt8.ofNat (1 + (pick n 4).toNat) :: List.replicate 31 0, rfl⟩
section
variable {N : Nat} {fr : Fr} {w : World} {ty : TypeId} {x : Operand} {b : UInt8}
--@ rule! build p o_bldKy1
theorem o_bldKy1 (hx : fr.ev x = some (.int .u8 (b.toNat : Int))) : OpV Tryz.prog N fr w (.build 42 #[(0, x)]) ty (.agg (B8 (b :: List.replicate 31 0)).toArray) w :=
  o_build (is := [0]) (xs := [x]) (vs := [.int .u8 (b.toNat : Int)]) (by simp [Fr.evs, hx]) (fun _ => by kernel_rfl)
end
theorem C_key22 {n : Int} (w : World) (wn : (Lit.int .i64 n).wf = true) : CallsR Tryz.prog 35 [.int .i64 n] w fun v w' => v = .agg (B8 (keyK n).1).toArray ∧ Below w.heap.size w w' := by
  have hp := pick_range n 4 (by omega)
  obtain ⟨r, hr⟩ : ∃ r, pick n 4 = r := ⟨_, rfl⟩
  have w4 : (Lit.int .i64 4).wf = true := by decide
  rw [hr] at hp
  have e1 : IntKind.u8.wrap (1 + r) = ((UInt8.ofNat (1 + r.toNat)).toNat : Int) := by
    rw [← u8w (n := 1 + r.toNat) (by omega)]
    congr 1
    omega
  refine callsR Tryz.func35 rfl rfl (by kernel_rfl) rfl ?_
  have hw := Below.refl w.heap.size w
  refine rk_seq ?_
  refine rk_region ?_
  refine wl_allocg [_, _, _, _, _, _, _, _, _, _, _, _, _, _, _, _, _, _, _, _, _, _, _, _, _, _, _, _, _, _, _, _] Tryz.zeroValue42 (by rfl) ?_
  rintro g2 w2 f2 b2 i2 i2_1
  have s2 := b2.size
  replace hw := hw.trans (b2.mono hw.size)
  refine wl_nil ?_
  refine rk_seq ?_
  refine rk_region ?_
  refine wl_p (fun _ => o_move rfl) ?_
  refine wl_call rfl (C_PickR _ hr wn w4) ?_
  rintro v4 w4_1 ⟨rfl, b4⟩
  have s4 := b4.size
  replace hw := hw.trans (b4.mono hw.size)
  replace f2 := f2.u b4
  refine wl_p (fun _ => o_add rfl rfl (by omega) (by omega)) ?_
  refine wl_p (fun _ => o_convi (src := 3) (dst := 5) Tryz.underlying3 Tryz.underlying5 rfl) ?_
  refine wl_p (fun _ => (o_buildga [_, _, _, _, _, _, _, _, _, _, _, _, _, _, _, _, _, _, _, _, _, _, _, _, _, _, _, _, _, _, _, _] Tryz.underlying42 Tryz.sizeOf5 Tryz.zeroValue42 (by rfl) (by rfl) rfl (by rfl) (by rfl) (fun _ => by kernel_rfl))) ?_
  refine wl_storega Tryz.sizeOf42 rfl rfl (by rfl) (oneCell_of (by rfl)) f2 (by rfl) ?_
  rintro w_1 f g e
  have s := g.size
  replace hw := hw.trans (below_of_grownBy g.g hw.size (by omega))
  clear f2
  refine wl_nil ?_
  refine ret_cell rfl rfl Tryz.isAgg42 Tryz.sizeOf42 f rfl ?_
  exact ⟨by rw [e1, ← hr]; rfl, hw⟩
abbrev Ded := Int × List Opn
def gDeed : GoT Ded := (gInt .i64).pair (GoT.slice 54 gOp)
def RDe (w : World) (A : Option Addr) (L : List Ded) : Prop := RSl gDeed w A L
section
variable {w w' : World} {A : Option Addr} {L : List Ded}
theorem RDe.u (h : RDe w A L) (hb : Below w.heap.size w w') : RDe w' A L := RSl.u h hb
theorem RDe.d (h : RDe w A L) : RDe w.drew A L := RSl.u h (below_drew w)
theorem RDe.nil_ : RDe w none [] := RSl.nil _ _ _
theorem RDe.some_ (h : RDe w A L) (hl : 0 < L.length) : A = some (A.getD ⟨0, 0, none⟩) := RSl.some_ h (show 0 < 2 by decide) hl
theorem RDe.elem (h : RDe w A L) {i : Nat} (hi : i < L.length) : ∃ A1 c1, CellsAt w A (i * 2) [.int .i64 L[i].1, .slice A1 L[i].2.length c1] ∧ RO w A1 L[i].2 ∧ L[i].2.length ≤ c1 ∧ c1 ≤ maxLen ∧ (Lit.int .i64 L[i].1).wf = true := by
  obtain ⟨cs, h1, x, y, rfl, ⟨rfl, hk⟩, h2⟩ := RSl.elem h (by decide) hi
  obtain ⟨A1, c1, rfl, h3, h4, h5⟩ := slice_RSl h2
  exact ⟨A1, c1, h1, h3, h4, h5, hk⟩
end
section
variable {fn : Func} {F : Ending → World → Prop} {N : Nat} {ks : List K} {ops : Array Oper} {tg : Tags} {l : List Oper} {fr : Fr} {w w0 : World} {ty : TypeId} {pos : String} {aft : Array Edge} {gd : Option (Nat × Bool)} {d0 j o : Nat} {x : Operand} {A : Option Addr} {L : List Ded}
--@ rule load l wl_ldDeW
theorem wl_ldDeW (hx : fr.ev x = some (.pointer (some (adr A (j * 2 + o))))) (ho : o = 0) (hr : RDe w0 A L) (hb : Below w0.heap.size w0 w) (hj : j < L.length)
    (hk : (Lit.int .i64 L[j].1).wf = true → WL Tryz.prog fn F N ks ops tg.tail l ((d0, .int .i64 L[j].1) :: fr) w)
    (ht : tg.reads = true := by rfl) (hg : onG ops fr gd = true := by rfl) (hd : Nat.blt d0 N = true := by rfl) : WL Tryz.prog fn F N ks ops tg (⟨some d0, .load 3 x, ty, pos, aft, gd⟩ :: l) fr w := by
  subst ho
  obtain ⟨A1, c1, h1, h2, h3, h4, h5⟩ := hr.elem hj
  exact wl_r (o_load (t := 3) Tryz.isAgg3 hx (h1.u hb 0 _ rfl)) (hk h5) ht hg hd
--@ rule load l wl_ldDeO
theorem wl_ldDeO (hx : fr.ev x = some (.pointer (some (adr A (j * 2 + o))))) (ho : o = 1) (hr : RDe w0 A L) (hb : Below w0.heap.size w0 w) (hj : j < L.length)
    (hk : ∀ A1 c1, RO w0 A1 L[j].2 → L[j].2.length ≤ c1 → c1 ≤ maxLen → WL Tryz.prog fn F N ks ops tg.tail l ((d0, .slice A1 L[j].2.length c1) :: fr) w)
    (ht : tg.reads = true := by rfl) (hg : onG ops fr gd = true := by rfl) (hd : Nat.blt d0 N = true := by rfl) : WL Tryz.prog fn F N ks ops tg (⟨some d0, .load 35 x, ty, pos, aft, gd⟩ :: l) fr w := by
  subst ho
  obtain ⟨A1, c1, h1, h2, h3, h4, h5⟩ := hr.elem hj
  exact wl_r (o_load (t := 35) Tryz.isAgg35 hx (h1.u hb 1 _ rfl)) (hk A1 c1 h2 h3 h4) ht hg hd
end
/-- The deeds are few, and small. -/
def LtD (L : List Ded) : Prop := L.length ≤ 24 ∧ (∀ d ∈ L, LtO d.2 24) ∧ (L.map fun d => d.2.length).sum ≤ 100
theorem sum_snoc (l : List Nat) (x : Nat) : (l ++ [x]).sum = l.sum + x := by simp
set_option maxHeartbeats 4000000 in
theorem C_light22 {A : Option Addr} {L : List Ded} {n c : Nat} (w : World) (hL : RDe w A L) (hn : n = L.length) (hl : L.length ≤ 9223372036854775807) :
    CallsR Tryz.prog 7 [.slice A n c] w fun v w' => ∃ b, v = .bool b ∧ (b = true ↔ LtD L) ∧ Below w.heap.size w w' := by
  subst hn
  have hmx : maxLen = 9223372036854775807 := rfl
  refine callsR Tryz.func7 rfl rfl (by kernel_rfl) rfl ?_
  have hw := Below.refl w.heap.size w
  refine rk_seq ?_
  refine rk_region ?_
  refine wl_p (fun _ => o_assign rfl) ?_
  refine wl_nil ?_
  refine rk_seq ?_
  refine rk_region ?_
  refine wl_p (fun _ => o_assign rfl) ?_
  refine wl_nil ?_
  refine rk_seq ?_
  refine rk_seq ?_
  refine rk_region ?_
  refine wl_p (fun _ => o_assign rfl) ?_
  refine wl_nil ?_
  refine rk_block ?_
  refine rk_joinf (fun fb fr w2 => ∃ (z : Int), fr = [(3, .int .i64 z)] ++ fb.drop 2 ∧ (L.length ≤ 24 → (∀ d ∈ L, LtO d.2 24) ∧ z = (L.map fun d => d.2.length).sum) ∧ Below w.heap.size w w2) ?_ (fun ks hj => ?_)
  rotate_left
  · refine rk_loopf (fun fb k fr w2 => ∃ (i : Nat) (v z : Int), fr = [(4, .int .i64 v), (3, .int .i64 z)] ++ fb.drop 2 ∧ v = i ∧ i ≤ L.length ∧ i ≤ 25 ∧ k = L.length - i ∧ (∀ j (h : j < L.length), j < i → LtO L[j].2 24) ∧ z = ((L.take i).map fun d => d.2.length).sum ∧ z ≤ 24 * i ∧ Below w.heap.size w w2) (n := L.length) (Fr.le_of (by kernel_rfl) (by kernel_rfl) (by repeat' constructor)) ⟨0, _, _, rfl, rfl, by omega, by omega, rfl, fun j _ h => absurd h (Nat.not_lt_zero _), rfl, by simp, hw⟩ ?_
    clear hw
    rintro k fr w2 ⟨i, v, z, rfl, rfl, hi, hi25, rfl, hok, hz, hz2, hw⟩
    have shw := hw.size
    have hz0 : 0 ≤ z := by rw [hz]; omega
    first | refine rk_frame (by simp only [List.cons_append, List.nil_append, List.drop_succ_cons, List.drop_zero]; rfl) ?_ | refine wl_frame (by simp only [List.cons_append, List.nil_append, List.drop_succ_cons, List.drop_zero]; rfl) ?_
    by_cases h1 : i < L.length
    · by_cases h2 : i ≤ 24
      · have hnx : ((L.take (i + 1)).map fun d => d.2.length).sum = ((L.take i).map fun d => d.2.length).sum + L[i].2.length := by
          rw [List.take_succ_eq_append_getElem h1, List.map_append, List.map_singleton, sum_snoc]
        by_cases h3 : LtO L[i].2 24
        · have h4 := h3.1
          refine rk_seq ?_
          refine rk_seq ?_
          refine rk_region ?_
          refine wl_p (fun _ => o_move rfl) ?_
          refine wl_p (fun _ => o_move rfl) ?_
          refine wl_p (fun _ => o_len (t := 22) Tryz.underlying22 rfl) ?_
          refine wl_p (fun _ => o_lt rfl rfl) ?_
          refine wl_p (fun _ => o_move rfl) ?_
          refine wl_know 9 true rfl (decide_eq_true (by omega)) ?_
          refine wl_p (fun _ => o_move rfl) ?_
          refine wl_p (fun _ => o_le rfl rfl) ?_
          refine wl_p (fun _ => o_pick_t rfl rfl) ?_
          refine wl_nil ?_
          refine rk_if rfl (fun h12 => ?_) (fun h12 => h12.elim (by omega))
          refine rk_skip ?_
          refine rk_seq ?_
          refine rk_block ?_
          refine rk_seq ?_
          refine rk_region ?_
          refine wl_p (fun _ => o_move rfl) ?_
          refine wl_p (fun _ => o_move rfl) ?_
          refine wl_p (fun _ => o_move rfl) ?_
          refine wl_p (fun _ => (o_iaddrA (i) Tryz.underlying22 Tryz.sizeOf75 rfl rfl rfl (hL.some_ (by omega)) (by omega))) ?_
          refine wl_p (fun _ => (o_faddrR rfl Tryz.underlying75 (by rfl) Tryz.sizeOf35 (by rfl) (by rfl))) ?_
          refine wl_ldDeO rfl (by rfl) hL hw (by omega) ?_
          rintro A120 c120 f20 i20 i20_1
          refine wl_p (fun _ => o_len (t := 35) Tryz.underlying35 rfl) ?_
          refine wl_p (fun _ => o_add rfl rfl (by omega) (by omega)) ?_
          refine wl_p (fun _ => o_assign rfl) ?_
          refine wl_nil ?_
          refine rk_seq ?_
          refine rk_region ?_
          refine wl_p (fun _ => o_move rfl) ?_
          refine wl_p (fun _ => o_move rfl) ?_
          refine wl_p (fun _ => (o_iaddrA (i) Tryz.underlying22 Tryz.sizeOf75 rfl rfl rfl (hL.some_ (by omega)) (by omega))) ?_
          refine wl_p (fun _ => (o_faddrR rfl Tryz.underlying75 (by rfl) Tryz.sizeOf35 (by rfl) (by rfl))) ?_
          refine wl_ldDeO rfl (by rfl) hL hw (by omega) ?_
          rintro A127 c127 f27 i27 i27_1
          refine wl_call rfl (C_lightOpsY _ (f27.u hw) h3 rfl (by rfl) (by omega) (by omega)) ?_
          rintro v28 w28 ⟨rfl, b28⟩
          have s28 := b28.size
          replace hw := hw.trans (b28.mono hw.size)
          refine wl_p (fun _ => o_not rfl) ?_
          refine wl_nil ?_
          refine rk_false rfl ?_
          refine rk_skip ?_
          refine rk_blk ?_
          refine rk_region ?_
          refine wl_p (fun _ => o_move rfl) ?_
          refine wl_p (fun _ => o_add rfl rfl (by omega) (by omega)) ?_
          refine wl_p (fun _ => o_assign rfl) ?_
          refine wl_nil ?_
          exact rk_againf (Fr.le_of (by kernel_rfl) (by kernel_rfl) (by repeat' constructor)) ⟨i + 1, (i : Int) + 1, _, rfl, by omega, by omega, by omega, rfl, fun j hj hji => by
            rcases Nat.lt_or_ge j i with h | h
            · exact hok j hj h
            · obtain rfl : j = i := by omega
              exact h3, by rw [hnx]; omega, by omega, hw⟩ (by omega)
        · have hno : ¬LtD L := fun h => h3 (h.2.1 _ (List.getElem_mem h1))
          by_cases h5 : L[i].2.length ≤ 24
          · refine rk_seq ?_
            refine rk_seq ?_
            refine rk_region ?_
            refine wl_p (fun _ => o_move rfl) ?_
            refine wl_p (fun _ => o_move rfl) ?_
            refine wl_p (fun _ => o_len (t := 22) Tryz.underlying22 rfl) ?_
            refine wl_p (fun _ => o_lt rfl rfl) ?_
            refine wl_p (fun _ => o_move rfl) ?_
            refine wl_know 9 true rfl (decide_eq_true (by omega)) ?_
            refine wl_p (fun _ => o_move rfl) ?_
            refine wl_p (fun _ => o_le rfl rfl) ?_
            refine wl_p (fun _ => o_pick_t rfl rfl) ?_
            refine wl_nil ?_
            refine rk_if rfl (fun h12 => ?_) (fun h12 => h12.elim (by omega))
            refine rk_skip ?_
            refine rk_seq ?_
            refine rk_block ?_
            refine rk_seq ?_
            refine rk_region ?_
            refine wl_p (fun _ => o_move rfl) ?_
            refine wl_p (fun _ => o_move rfl) ?_
            refine wl_p (fun _ => o_move rfl) ?_
            refine wl_p (fun _ => (o_iaddrA (i) Tryz.underlying22 Tryz.sizeOf75 rfl rfl rfl (hL.some_ (by omega)) (by omega))) ?_
            refine wl_p (fun _ => (o_faddrR rfl Tryz.underlying75 (by rfl) Tryz.sizeOf35 (by rfl) (by rfl))) ?_
            refine wl_ldDeO rfl (by rfl) hL hw (by omega) ?_
            rintro A120 c120 f20 i20 i20_1
            refine wl_p (fun _ => o_len (t := 35) Tryz.underlying35 rfl) ?_
            refine wl_p (fun _ => o_add rfl rfl (by omega) (by omega)) ?_
            refine wl_p (fun _ => o_assign rfl) ?_
            refine wl_nil ?_
            refine rk_seq ?_
            refine rk_region ?_
            refine wl_p (fun _ => o_move rfl) ?_
            refine wl_p (fun _ => o_move rfl) ?_
            refine wl_p (fun _ => (o_iaddrA (i) Tryz.underlying22 Tryz.sizeOf75 rfl rfl rfl (hL.some_ (by omega)) (by omega))) ?_
            refine wl_p (fun _ => (o_faddrR rfl Tryz.underlying75 (by rfl) Tryz.sizeOf35 (by rfl) (by rfl))) ?_
            refine wl_ldDeO rfl (by rfl) hL hw (by omega) ?_
            rintro A127 c127 f27 i27 i27_1
            refine wl_call rfl (C_lightOpsN _ (f27.u hw) h3 rfl (by rfl) (by omega) (by omega)) ?_
            rintro v28 w28 ⟨rfl, b28⟩
            have s28 := b28.size
            replace hw := hw.trans (b28.mono hw.size)
            refine wl_p (fun _ => o_not rfl) ?_
            refine wl_nil ?_
            refine rk_true rfl ?_
            refine rk_seq ?_
            refine rk_region ?_
            refine wl_p (fun _ => o_assign rfl) ?_
            refine wl_nil ?_
            refine ret1 rfl rfl ?_
            exact ⟨false, rfl, ⟨fun h => (by cases h), fun h => absurd h hno⟩, hw⟩
          · refine rk_seq ?_
            refine rk_seq ?_
            refine rk_region ?_
            refine wl_p (fun _ => o_move rfl) ?_
            refine wl_p (fun _ => o_move rfl) ?_
            refine wl_p (fun _ => o_len (t := 22) Tryz.underlying22 rfl) ?_
            refine wl_p (fun _ => o_lt rfl rfl) ?_
            refine wl_p (fun _ => o_move rfl) ?_
            refine wl_know 9 true rfl (decide_eq_true (by omega)) ?_
            refine wl_p (fun _ => o_move rfl) ?_
            refine wl_p (fun _ => o_le rfl rfl) ?_
            refine wl_p (fun _ => o_pick_t rfl rfl) ?_
            refine wl_nil ?_
            refine rk_if rfl (fun h12 => ?_) (fun h12 => h12.elim (by omega))
            refine rk_skip ?_
            refine rk_seq ?_
            refine rk_block ?_
            refine rk_seq ?_
            refine rk_region ?_
            refine wl_p (fun _ => o_move rfl) ?_
            refine wl_p (fun _ => o_move rfl) ?_
            refine wl_p (fun _ => o_move rfl) ?_
            refine wl_p (fun _ => (o_iaddrA (i) Tryz.underlying22 Tryz.sizeOf75 rfl rfl rfl (hL.some_ (by omega)) (by omega))) ?_
            refine wl_p (fun _ => (o_faddrR rfl Tryz.underlying75 (by rfl) Tryz.sizeOf35 (by rfl) (by rfl))) ?_
            refine wl_ldDeO rfl (by rfl) hL hw (by omega) ?_
            rintro A120 c120 f20 i20 i20_1
            refine wl_p (fun _ => o_len (t := 35) Tryz.underlying35 rfl) ?_
            refine wl_p (fun _ => o_addw rfl rfl) ?_
            refine wl_p (fun _ => o_assign rfl) ?_
            refine wl_nil ?_
            refine rk_seq ?_
            refine rk_region ?_
            refine wl_p (fun _ => o_move rfl) ?_
            refine wl_p (fun _ => o_move rfl) ?_
            refine wl_p (fun _ => (o_iaddrA (i) Tryz.underlying22 Tryz.sizeOf75 rfl rfl rfl (hL.some_ (by omega)) (by omega))) ?_
            refine wl_p (fun _ => (o_faddrR rfl Tryz.underlying75 (by rfl) Tryz.sizeOf35 (by rfl) (by rfl))) ?_
            refine wl_ldDeO rfl (by rfl) hL hw (by omega) ?_
            rintro A127 c127 f27 i27 i27_1
            refine wl_call rfl (C_lightOpsN _ (f27.u hw) h3 rfl (by rfl) (by omega) (by omega)) ?_
            rintro v28 w28 ⟨rfl, b28⟩
            have s28 := b28.size
            replace hw := hw.trans (b28.mono hw.size)
            refine wl_p (fun _ => o_not rfl) ?_
            refine wl_nil ?_
            refine rk_true rfl ?_
            refine rk_seq ?_
            refine rk_region ?_
            refine wl_p (fun _ => o_assign rfl) ?_
            refine wl_nil ?_
            refine ret1 rfl rfl ?_
            exact ⟨false, rfl, ⟨fun h => (by cases h), fun h => absurd h hno⟩, hw⟩
      · refine rk_seq ?_
        refine rk_seq ?_
        refine rk_region ?_
        refine wl_p (fun _ => o_move rfl) ?_
        refine wl_p (fun _ => o_move rfl) ?_
        refine wl_p (fun _ => o_len (t := 22) Tryz.underlying22 rfl) ?_
        refine wl_p (fun _ => o_lt rfl rfl) ?_
        refine wl_p (fun _ => o_move rfl) ?_
        refine wl_know 9 true rfl (decide_eq_true (by omega)) ?_
        refine wl_p (fun _ => o_move rfl) ?_
        refine wl_p (fun _ => o_le rfl rfl) ?_
        refine wl_p (fun _ => o_pick_t rfl rfl) ?_
        refine wl_nil ?_
        refine rk_if rfl (fun h12 => absurd h12 (by omega)) (fun h12 => ?_)
        refine rk_exit rfl ?_
        exact rk_tof hj (Fr.le_of (by kernel_rfl) (by kernel_rfl) (by repeat' constructor)) ⟨_, rfl, fun h => by omega, hw⟩
    · refine rk_seq ?_
      refine rk_seq ?_
      refine rk_region ?_
      refine wl_p (fun _ => o_move rfl) ?_
      refine wl_p (fun _ => o_move rfl) ?_
      refine wl_p (fun _ => o_len (t := 22) Tryz.underlying22 rfl) ?_
      refine wl_p (fun _ => o_lt rfl rfl) ?_
      refine wl_p (fun _ => o_move rfl) ?_
      refine wl_know 9 false rfl (decide_eq_false (by omega)) ?_
      refine wl_off ?_
      refine wl_off ?_
      refine wl_p (fun _ => o_pick_f rfl rfl) ?_
      refine wl_nil ?_
      refine rk_false rfl ?_
      refine rk_exit rfl ?_
      have e : i = L.length := by omega
      subst e
      rw [List.take_length] at hz
      exact rk_tof hj (Fr.le_of (by kernel_rfl) (by kernel_rfl) (by repeat' constructor)) ⟨_, rfl, fun h => ⟨fun d hd => by obtain ⟨j, hj, rfl⟩ := List.getElem_of_mem hd; exact hok j hj hj, hz⟩, hw⟩
  clear hw
  rintro fr w2 ⟨z, rfl, hz, hw⟩
  first | refine rk_frame (by simp only [List.cons_append, List.nil_append, List.drop_succ_cons, List.drop_zero]; rfl) ?_ | refine wl_frame (by simp only [List.cons_append, List.nil_append, List.drop_succ_cons, List.drop_zero]; rfl) ?_
  by_cases h1 : L.length ≤ 24
  · obtain ⟨q1, q2⟩ := hz h1
    refine rk_seq ?_
    refine rk_region ?_
    refine wl_p (fun _ => o_move rfl) ?_
    refine wl_p (fun _ => o_len (t := 22) Tryz.underlying22 rfl) ?_
    refine wl_p (fun _ => o_le rfl rfl) ?_
    refine wl_p (fun _ => o_move rfl) ?_
    refine wl_know 33 true rfl (decide_eq_true (by omega)) ?_
    refine wl_p (fun _ => o_move rfl) ?_
    refine wl_p (fun _ => o_le rfl rfl) ?_
    refine wl_p (fun _ => o_pick_t rfl rfl) ?_
    refine wl_p (fun _ => o_assign rfl) ?_
    refine wl_nil ?_
    refine ret1 rfl rfl ?_
    exact ⟨_, rfl, by rw [decide_eq_true_eq]; exact ⟨fun h => ⟨h1, q1, by omega⟩, fun h => by have := h.2.2; omega⟩, hw⟩
  · refine rk_seq ?_
    refine rk_region ?_
    refine wl_p (fun _ => o_move rfl) ?_
    refine wl_p (fun _ => o_len (t := 22) Tryz.underlying22 rfl) ?_
    refine wl_p (fun _ => o_le rfl rfl) ?_
    refine wl_p (fun _ => o_move rfl) ?_
    refine wl_know 33 false rfl (decide_eq_false (by omega)) ?_
    refine wl_off ?_
    refine wl_off ?_
    refine wl_p (fun _ => o_pick_f rfl rfl) ?_
    refine wl_p (fun _ => o_assign rfl) ?_
    refine wl_nil ?_
    refine ret1 rfl rfl ?_
    exact ⟨false, rfl, ⟨fun h => (by cases h), fun h => absurd h.1 h1⟩, hw⟩
end Go.Proofs.YtahkeoegbjopfaaGreat
/-
  The blocks of deeds.
-/
namespace Go.Proofs.YtahkeoegbjopfaaGreat
set_option maxRecDepth 100000
open Go.RowKit
def blkOf (d : Ded) : Bk := (keyK d.1, (bytesO d.2).1)
theorem C_r22BytesN {A : Option Addr} {L : List Opn} {b : By} {e n c : Nat} (w : World) (hr : BytesR L b e) (hL : RO w A L) (hn : n = L.length) (hln : L.length ≤ 4000000) (hl : ∀ o ∈ L, o.2.1.length ≤ 4000000 ∧ o.2.2.1.length ≤ 4000000) :
    CallsR Tryz.prog 34 [.slice A n c] w fun v w' => ∃ A' c', v = .tuple #[.slice A' b.length c', .int .i64 (e : Int)] ∧ OwnH w' w.heap.size w'.heap.size A' c' b ∧ Below w.heap.size w w' :=
  K_r22Bytes w hr.h hL hn hln hl
set_option maxHeartbeats 4000000 in
theorem K_blocks22 {A : Option Addr} {L : List Ded} {n c : Nat} (w : World) (hL : RDe w A L) (hn : n = L.length) (hd : LtD L) :
    CallsR Tryz.prog 8 [.slice A n c] w fun v w' => ∃ A' c', v = .slice A' (L.map blkOf).length c' ∧ OwnB w' w.heap.size w'.heap.size A' c' (L.map blkOf) ∧ Below w.heap.size w w' := by
  subst hn
  have hl24 := hd.1
  refine callsR Tryz.func8 rfl rfl (by kernel_rfl) rfl ?_
  have hw := Below.refl w.heap.size w
  refine rk_seq ?_
  refine rk_region ?_
  refine wl_p (fun _ => o_assign rfl) ?_
  refine wl_nil ?_
  refine rk_seq ?_
  refine rk_region ?_
  refine wl_p (fun _ => o_assign rfl) ?_
  refine wl_nil ?_
  refine rk_seq ?_
  refine rk_seq ?_
  refine rk_region ?_
  refine wl_p (fun _ => o_assign rfl) ?_
  refine wl_nil ?_
  refine rk_block ?_
  refine rk_joinf (fun fb fr w3 => ∃ A' c', fr = [(3, .slice A' (L.map blkOf).length c')] ++ fb.drop 2 ∧ OwnB w3 w.heap.size w3.heap.size A' c' (L.map blkOf) ∧ Below w.heap.size w w3) ?_ (fun ks hj => ?_)
  rotate_left
  · refine rk_loopf (fun fb k fr w3 => ∃ (i : Nat) (v : Int) (A' : Option Addr) (c' : Nat) (J : List Bk), fr = [(4, .int .i64 v), (3, .slice A' J.length c')] ++ fb.drop 2 ∧ v = i ∧ i ≤ L.length ∧ k = L.length - i ∧ J = (L.take i).map blkOf ∧ OwnB w3 w.heap.size w3.heap.size A' c' J ∧ Below w.heap.size w w3) (n := L.length) (Fr.le_of (by kernel_rfl) (by kernel_rfl) (by repeat' constructor)) ⟨0, _, none, _, [], rfl, rfl, by omega, rfl, rfl, OwnB.nil_, hw⟩ ?_
    clear hw
    rintro k fr w3 ⟨i, v, A', c', J, rfl, rfl, hi, rfl, hJ, fo, hw⟩
    have shw := hw.size
    have hJl : J.length = i := by rw [hJ, List.length_map, List.length_take]; omega
    first | refine rk_frame (by simp only [List.cons_append, List.nil_append, List.drop_succ_cons, List.drop_zero]; rfl) ?_ | refine wl_frame (by simp only [List.cons_append, List.nil_append, List.drop_succ_cons, List.drop_zero]; rfl) ?_
    refine rk_seq ?_
    refine rk_seq ?_
    refine rk_region ?_
    refine wl_p (fun _ => o_move rfl) ?_
    refine wl_p (fun _ => o_move rfl) ?_
    refine wl_p (fun _ => o_len (t := 22) Tryz.underlying22 rfl) ?_
    refine wl_p (fun _ => o_lt rfl rfl) ?_
    refine wl_nil ?_
    refine rk_if rfl (fun h10 => ?_) (fun h10 => ?_)
    · have hil : i < L.length := by omega
      have hlo := hd.2.1 _ (List.getElem_mem hil)
      have hlo1 := hlo.1
      have hlo2 : ∀ o ∈ L[i].2, o.2.1.length ≤ 4000000 ∧ o.2.2.1.length ≤ 4000000 := fun o ho => by have := hlo.2 o ho; omega
      obtain ⟨⟨b, e⟩, hb⟩ : ∃ r, bytesO L[i].2 = r := ⟨_, rfl⟩
      have e1 : BytesR L[i].2 b e := ⟨hb⟩
      refine rk_skip ?_
      refine rk_seq ?_
      refine rk_block ?_
      refine rk_seq ?_
      refine rk_region ?_
      refine wl_p (fun _ => o_move rfl) ?_
      refine wl_p (fun _ => o_move rfl) ?_
      refine wl_p (fun _ => (o_iaddrA (i) Tryz.underlying22 Tryz.sizeOf75 rfl rfl rfl (hL.some_ (by omega)) (by omega))) ?_
      refine wl_p (fun _ => (o_faddrR rfl Tryz.underlying75 (by rfl) Tryz.sizeOf35 (by rfl) (by rfl))) ?_
      refine wl_ldDeO rfl (by rfl) hL hw (by omega) ?_
      rintro A118 c118 f18 i18 i18_1
      refine wl_call rfl (C_r22BytesN _ e1 (f18.u hw) rfl (by omega) (by omega)) ?_
      rintro v19 w19 ⟨A19, ⟨c19, ⟨rfl, ⟨f19, b19⟩⟩⟩⟩
      have qf19 := f19.cap
      have s19 := b19.size
      replace hw := hw.trans (b19.mono hw.size)
      replace fo := fo.u b19
      refine wl_p (fun _ => o_move rfl) ?_
      refine wl_p (fun _ => o_ext20 rfl) ?_
      refine wl_p (fun _ => o_ext21 rfl) ?_
      refine wl_p (fun _ => o_assign rfl) ?_
      refine wl_p (fun _ => o_assign rfl) ?_
      refine wl_nil ?_
      refine rk_region ?_
      refine wl_p (fun _ => o_move rfl) ?_
      refine wl_p (fun _ => o_move rfl) ?_
      refine wl_p (fun _ => o_move rfl) ?_
      refine wl_p (fun _ => (o_iaddrA (i) Tryz.underlying22 Tryz.sizeOf75 rfl rfl rfl (hL.some_ (by omega)) (by omega))) ?_
      refine wl_p (fun _ => (o_faddrR rfl Tryz.underlying75 (by rfl) Tryz.sizeOf3 (by rfl) (by rfl))) ?_
      refine wl_ldDeW rfl (by rfl) hL hw (by omega) ?_
      rintro e27
      refine wl_call rfl (C_key22 _ e27) ?_
      rintro v28 w28 ⟨rfl, b28⟩
      have s28 := b28.size
      replace hw := hw.trans (b28.mono hw.size)
      replace fo := fo.u b28
      replace f19 := f19.u b28
      refine wl_p (fun _ => o_move rfl) ?_
      refine wl_p (fun _ => (o_bldBk rfl rfl)) ?_
      have m1 := own_max f19
      refine wl_litBk1 (by rfl) rfl bkS0 f19.to_RdT rfl (by omega) (by omega) (by rfl) ?_
      rintro A31 w31 f31 b31
      have qf31 := f31.cap
      have s31 := b31.size
      replace hw := hw.trans (b31.mono hw.size)
      replace f19 := f19.u b31
      replace fo := fo.u b31
      refine wl_appBk rfl fo rfl rfl f31.to_RBT (by rfl) (by omega) hw.size ?_
      rintro A32 c32 w32 f32 g32 b32
      have qf32 := f32.cap
      have s32 := g32.size
      replace hw := hw.trans (b32.mono (by omega))
      replace f19 := f19.y g32 (by decide)
      replace f31 := f31.q g32 (fo.ap (by omega)) (by decide)
      clear fo
      refine wl_p (fun _ => o_assign rfl) ?_
      refine wl_nil ?_
      refine rk_blk ?_
      refine rk_region ?_
      refine wl_p (fun _ => o_move rfl) ?_
      refine wl_p (fun _ => o_add rfl rfl (by omega) (by omega)) ?_
      refine wl_p (fun _ => o_assign rfl) ?_
      refine wl_nil ?_
      exact rk_againf (Fr.le_of (by kernel_rfl) (by kernel_rfl) (by repeat' constructor)) ⟨i + 1, (i : Int) + 1, A32, c32, J ++ [(keyK L[i].1, b)], rfl, by omega, by omega, rfl, by rw [hJ, List.take_succ_eq_append_getElem hil, List.map_append, List.map_singleton, blkOf, hb], f32, hw⟩ (by omega)
    · refine rk_exit rfl ?_
      obtain rfl : i = L.length := by omega
      rw [List.take_length] at hJ
      subst hJ
      exact rk_tof hj (Fr.le_of (by kernel_rfl) (by kernel_rfl) (by repeat' constructor)) ⟨A', c', rfl, fo, hw⟩
  clear hw
  rintro fr w3 ⟨A', c', rfl, fo, hw⟩
  have shw := hw.size
  first | refine rk_frame (by simp only [List.cons_append, List.nil_append, List.drop_succ_cons, List.drop_zero]; rfl) ?_ | refine wl_frame (by simp only [List.cons_append, List.nil_append, List.drop_succ_cons, List.drop_zero]; rfl) ?_
  refine rk_seq ?_
  refine rk_region ?_
  refine wl_p (fun _ => o_move rfl) ?_
  refine wl_p (fun _ => o_assign rfl) ?_
  refine wl_nil ?_
  refine ret1 rfl rfl ?_
  exact ⟨A', c', rfl, fo, hw⟩
theorem C_blocks22R {A : Option Addr} {L : List Ded} {M : List Bk} {n c : Nat} (w : World) (hr : L.map blkOf = M) (hL : RDe w A L) (hn : n = L.length) (hd : LtD L) :
    CallsR Tryz.prog 8 [.slice A n c] w fun v w' => ∃ A' c', v = .slice A' M.length c' ∧ OwnB w' w.heap.size w'.heap.size A' c' M ∧ Below w.heap.size w w' := by
  have h := K_blocks22 (c := c) w hL hn hd
  rwa [hr] at h
end Go.Proofs.YtahkeoegbjopfaaGreat
/-
  A region whose order is open at a place where three loud operations are ready. No function of the program is named here.
-/
namespace Go.Proofs.YtahkeoegbjopfaaGreat
set_option maxRecDepth 100000
def only3 (m k1 k2 k3 : Nat) : List Nat → Nat → Bool
  | [], _ => true
  | d :: D, j => (Nat.beq j k1 || (Nat.beq j k2 || (Nat.beq j k3 || (Nat.testBit m j || !Nat.beq (Nat.land d m) d)))) && only3 m k1 k2 k3 D (j + 1)
theorem only3_spec {m k1 k2 k3 : Nat} : ∀ (D : List Nat) (j : Nat), only3 m k1 k2 k3 D j = true → ∀ i d, D[i]? = some d → j + i = k1 ∨ j + i = k2 ∨ j + i = k3 ∨ m.testBit (j + i) = true ∨ Nat.beq (Nat.land d m) d = false
  | [], _, _, i, d, h => by simp at h
  | x :: D, j, hc, i, d, hd => by
    unfold only3 at hc
    simp only [Bool.and_eq_true, Bool.or_eq_true, Bool.not_eq_true'] at hc
    cases i with
    | zero =>
      obtain rfl : x = d := by simpa using hd
      rcases hc.1 with h | h | h | h | h
      · exact .inl (Nat.eq_of_beq_eq_true h)
      · exact .inr (.inl (Nat.eq_of_beq_eq_true h))
      · exact .inr (.inr (.inl (Nat.eq_of_beq_eq_true h)))
      · exact .inr (.inr (.inr (.inl h)))
      · exact .inr (.inr (.inr (.inr h)))
    | succ i =>
      have := only3_spec D (j + 1) hc.2 i d (by simpa using hd)
      rwa [show j + 1 + i = j + (i + 1) by omega] at this
section
variable {P : Program} {fn : Func} {F : Ending → World → Prop} {N : Nat} {ks : List K} {ops : Array Oper} {fr : Fr} {w : World}
theorem Marks.only3 {D A : List Nat} {listed : Array Bool} {m : Nat} (h : Marks .any ops D A listed m) {k1 k2 k3 : Nat} (hk : only3 m k1 k2 k3 D 0 = true) : ∀ j ∈ Region.ready .any ops listed, j = k1 ∨ j = k2 ∨ j = k3 := by
  intro j hj
  obtain ⟨hun, o, ho, hall⟩ := mem_ready.1 hj
  have hlt : j < ops.size := (Array.getElem?_eq_some_iff.1 ho).1
  rw [h.getD hlt] at hun
  rcases only3_spec D 0 hk j _ (h.dAt ho) with h1 | h1 | h1 | h1 | h1
  · exact .inl (by simpa using h1)
  · exact .inr (.inl (by simpa using h1))
  · exact .inr (.inr (by simpa using h1))
  · rw [Nat.zero_add, hun] at h1; cases h1
  · rw [h.subset.2 hall] at h1; cases h1
theorem wl_fork3 {row : Rw} {m L C n k1 k2 k3 : Nat} {l1 l2 l3 : List Oper} {ts1 ts2 ts3 : List (Tag × Nat)} (D A : List Nat) (hD : ops.toList.map (dmask .any) = D) (hA : ancs .any ops.toList [] = A)
    (hc : (Nat.testBit L k1 && (Nat.testBit L k2 && (Nat.testBit L k3 && (rdyK D m k1 && (rdyK D m k2 && (rdyK D m k3 && (Go.Proofs.YtahkeoegbjopfaaGreat.only3 m k1 k2 k3 D 0 && (Nat.beq n (l1.length + extra ts1) && (Nat.beq n (l2.length + extra ts2) && (Nat.beq n (l3.length + extra ts3) && (chk ops ops.toList D A L C ts1 (m ||| 2 ^ k1) && (chk ops ops.toList D A L C ts2 (m ||| 2 ^ k2) && chk ops ops.toList D A L C ts3 (m ||| 2 ^ k3))))))))))))) = true)
    (hl1 : l1.map some = ops[k1]? :: opsOf ops ts1) (hl2 : l2.map some = ops[k2]? :: opsOf ops ts2) (hl3 : l3.map some = ops[k3]? :: opsOf ops ts3)
    (h1 : WL P fn F N ks ops (some (row, (.g m L C, k1) :: ts1)) l1 fr w) (h2 : WL P fn F N ks ops (some (row, (.g m L C, k2) :: ts2)) l2 fr w) (h3 : WL P fn F N ks ops (some (row, (.g m L C, k3) :: ts3)) l3 fr w) : WL P fn F N ks ops (some (row, [(.f m L C, n)])) [] fr w := fun a ha => by
  intro D' A' L' C' listed m' hm _ hchk
  unfold chk at hchk
  simp only [Bool.and_eq_true] at hchk hc
  obtain ⟨hm1, hL1, hC1⟩ := hchk
  obtain rfl := Nat.eq_of_beq_eq_true hm1
  obtain rfl := Nat.eq_of_beq_eq_true hL1
  obtain rfl := Nat.eq_of_beq_eq_true hC1
  obtain rfl : D' = D := by rw [hm.D, hD]
  obtain rfl : A' = A := by rw [hm.A, hA]
  obtain ⟨c1, c2, c3, c4, c5, c6, c7, c8, c9, c10, c11, c12, c13⟩ := hc
  obtain ⟨o1, r1, rfl⟩ : ∃ o r, l1 = o :: r := by cases l1 with | nil => simp at hl1 | cons o r => exact ⟨o, r, rfl⟩
  obtain ⟨o2, r2, rfl⟩ : ∃ o r, l2 = o :: r := by cases l2 with | nil => simp at hl2 | cons o r => exact ⟨o, r, rfl⟩
  obtain ⟨o3, r3, rfl⟩ : ∃ o r, l3 = o :: r := by cases l3 with | nil => simp at hl3 | cons o r => exact ⟨o, r, rfl⟩
  obtain ⟨a1, b1⟩ := head_of hl1
  obtain ⟨a2, b2⟩ := head_of hl2
  obtain ⟨a3, b3⟩ := head_of hl3
  have e1 : n = (r1.length + extra ts1) + 1 := by have := Nat.eq_of_beq_eq_true c8; rw [this]; exact fuel_succ r1 _
  have e2 : n = (r2.length + extra ts2) + 1 := by have := Nat.eq_of_beq_eq_true c9; rw [this]; exact fuel_succ r2 _
  have e3 : n = (r3.length + extra ts3) + 1 := by have := Nat.eq_of_beq_eq_true c10; rw [this]; exact fuel_succ r3 _
  have w1 := h1 a ha D' A' listed o1 r1 rfl hm a1 b1 (hm.ready c4) c11
  have w2 := h2 a ha D' A' listed o2 r2 rfl hm a2 b2 (hm.ready c5) c12
  have w3 := h3 a ha D' A' listed o3 r3 rfl hm a3 b3 (hm.ready c6) c13
  have e0 : r1.length + extra ts1 = r2.length + extra ts2 := by omega
  have e0' : r1.length + extra ts1 = r3.length + extra ts3 := by omega
  show wpMix P .any ops _ _ _ row (0 + n) listed a w
  rw [Nat.zero_add, e1]
  refine ⟨fun h => (by have := hm.ready c4; rw [h] at this; cases this), fun j hj => ?_⟩
  rcases hm.only3 c7 j hj with rfl | rfl | rfl
  · rw [if_pos c1]; exact w1
  · rw [if_pos c2, e0]; exact w2
  · rw [if_pos c3, e0']; exact w3
theorem wl_forkf3 {row : Rw} {m L C n k1 k2 k3 : Nat} {ops : List Oper} (R : Fr → Fr → World → Prop) (D A : List Nat) (ord1 ord2 ord3 ordR : List Nat) (ts1 ts2 ts3 tsR : List (Tag × Nat)) (hD : ops.map (dmask .any) = D) (hA : ancs .any ops [] = A)
    (hc : (Nat.testBit L k1 && (Nat.testBit L k2 && (Nat.testBit L k3 && (rdyK D m k1 && (rdyK D m k2 && (rdyK D m k3 && (Go.Proofs.YtahkeoegbjopfaaGreat.only3 m k1 k2 k3 D 0 && (Nat.beq n ((inOrder ops ord1).length + extra ts1) && (Nat.beq n ((inOrder ops ord2).length + extra ts2) && (Nat.beq n ((inOrder ops ord3).length + extra ts3) && (chk ops.toArray ops D A L C ts1 (m ||| 2 ^ k1) && (chk ops.toArray ops D A L C ts2 (m ||| 2 ^ k2) && chk ops.toArray ops D A L C ts3 (m ||| 2 ^ k3))))))))))))) = true)
    (hl1 : (inOrder ops ord1).map some = ops.toArray[k1]? :: opsOf ops.toArray ts1) (hl2 : (inOrder ops ord2).map some = ops.toArray[k2]? :: opsOf ops.toArray ts2) (hl3 : (inOrder ops ord3).map some = ops.toArray[k3]? :: opsOf ops.toArray ts3)
    (h0 : ∀ fr' w, R fr fr' w → WL P fn F N ks ops.toArray (some (row, tsR)) (inOrder ops ordR) fr' w)
    (h1 : (∀ fr' w, R fr fr' w → WL P fn F N ks ops.toArray (some (row, tsR)) (inOrder ops ordR) fr' w) → WL P fn F N ks ops.toArray (some (row, (.g m L C, k1) :: ts1)) (inOrder ops ord1) fr w)
    (h2 : (∀ fr' w, R fr fr' w → WL P fn F N ks ops.toArray (some (row, tsR)) (inOrder ops ordR) fr' w) → WL P fn F N ks ops.toArray (some (row, (.g m L C, k2) :: ts2)) (inOrder ops ord2) fr w)
    (h3 : (∀ fr' w, R fr fr' w → WL P fn F N ks ops.toArray (some (row, tsR)) (inOrder ops ordR) fr' w) → WL P fn F N ks ops.toArray (some (row, (.g m L C, k3) :: ts3)) (inOrder ops ord3) fr w) : WL P fn F N ks ops.toArray (some (row, [(.f m L C, n)])) [] fr w :=
  wl_fork3 D A hD hA hc hl1 hl2 hl3 (h1 h0) (h2 h0) (h3 h0)
theorem wl_fork3j {row : Rw} {m L C n k1 k2 k3 : Nat} {ops : List Oper} (R : Fr → World → Prop) (D A : List Nat) (ord1 ord2 ord3 ordR : List Nat) (ts1 ts2 ts3 tsR : List (Tag × Nat)) (hD : ops.map (dmask .any) = D) (hA : ancs .any ops [] = A)
    (hc : (Nat.testBit L k1 && (Nat.testBit L k2 && (Nat.testBit L k3 && (rdyK D m k1 && (rdyK D m k2 && (rdyK D m k3 && (Go.Proofs.YtahkeoegbjopfaaGreat.only3 m k1 k2 k3 D 0 && (Nat.beq n ((inOrder ops ord1).length + extra ts1) && (Nat.beq n ((inOrder ops ord2).length + extra ts2) && (Nat.beq n ((inOrder ops ord3).length + extra ts3) && (chk ops.toArray ops D A L C ts1 (m ||| 2 ^ k1) && (chk ops.toArray ops D A L C ts2 (m ||| 2 ^ k2) && chk ops.toArray ops D A L C ts3 (m ||| 2 ^ k3))))))))))))) = true)
    (hl1 : (inOrder ops ord1).map some = ops.toArray[k1]? :: opsOf ops.toArray ts1) (hl2 : (inOrder ops ord2).map some = ops.toArray[k2]? :: opsOf ops.toArray ts2) (hl3 : (inOrder ops ord3).map some = ops.toArray[k3]? :: opsOf ops.toArray ts3)
    (h0 : ∀ fr' w, R fr' w → WL P fn F N ks ops.toArray (some (row, tsR)) (inOrder ops ordR) fr' w)
    (h1 : (∀ fr' w, R fr' w → WL P fn F N ks ops.toArray (some (row, tsR)) (inOrder ops ordR) fr' w) → WL P fn F N ks ops.toArray (some (row, (.g m L C, k1) :: ts1)) (inOrder ops ord1) fr w)
    (h2 : (∀ fr' w, R fr' w → WL P fn F N ks ops.toArray (some (row, tsR)) (inOrder ops ordR) fr' w) → WL P fn F N ks ops.toArray (some (row, (.g m L C, k2) :: ts2)) (inOrder ops ord2) fr w)
    (h3 : (∀ fr' w, R fr' w → WL P fn F N ks ops.toArray (some (row, tsR)) (inOrder ops ordR) fr' w) → WL P fn F N ks ops.toArray (some (row, (.g m L C, k3) :: ts3)) (inOrder ops ord3) fr w) : WL P fn F N ks ops.toArray (some (row, [(.f m L C, n)])) [] fr w :=
  wl_fork3 D A hD hA hc hl1 hl2 hl3 (h1 h0) (h2 h0) (h3 h0)
end
end Go.Proofs.YtahkeoegbjopfaaGreat
/-
  Walks of the kit's functions: a state copied.
-/
namespace Go.Proofs.YtahkeoegbjopfaaGreat
set_option maxRecDepth 100000
open Go.RowKit
section
variable {fn : Func} {F : Ending → World → Prop} {N : Nat} {ks : List K} {ops : Array Oper} {tg : Tags} {l : List Oper} {fr : Fr} {w w0 : World} {ty : TypeId} {pos : String} {aft : Array Edge} {gd : Option (Nat × Bool)} {d j q lo hi : Nat} {x y : Operand} {A B : Option Addr} {M : List Ky}
--@ rule! append l wl_appKs0
theorem wl_appKs0 (hx : fr.ev x = some (.slice A 0 0)) (hown : OwnKs w lo hi A 0 []) (hy : fr.ev y = some (.slice B j q)) (hr : RKs w0 B M) (hb : Below w0.heap.size w0 w) (hj : j = M.length) (hlen : M.length ≤ 1000000) (hB : lo ≤ w.heap.size)
    (h : ∀ A' c' w', OwnKs w' lo w'.heap.size A' c' M → Below w.heap.size w w' → WL Tryz.prog fn F N ks ops tg.tail l ((d, .slice A' M.length c') :: fr) w')
    (ht : tg.loud = true := by rfl) (hg : onG ops fr gd = true := by rfl) (hd : Nat.blt d N = true := by rfl) :
    WL Tryz.prog fn F N ks ops tg (⟨some d, .call { callee := .builtin .append, args := #[x, y], argTypes := #[29, 29] }, ty, pos, aft, gd⟩ :: l) fr w := by
  subst hj
  obtain ⟨xs, g1, g2⟩ := hown
  obtain rfl : xs = [] := List.eq_nil_of_length_eq_zero (by have := g1.rd.1; simpa using this)
  obtain ⟨ms, r1, r3⟩ := RSl.u hr hb
  refine wl_appR0 Tryz.rowKs hx g1 hy r1 (fun u hu => ?_) (by simp only [maxLen]; omega) (by omega) hB (fun A' c' w' k1 k2 => h A' c' w' ⟨ms, k1, fun i hi => ?_⟩ k2) ht hg hd
  · obtain ⟨i, hi, rfl⟩ := List.getElem_of_mem hu
    have hml : ms.length = M.length * 32 := r1.1
    have hq : i / 32 < M.length := by omega
    refine gKey_one w _ _ (r3 _ hq) _ (List.mem_of_getElem? (i := i % 32) ?_)
    show (part ms 32 (i / 32))[i % 32]? = some ms[i]
    rw [part_get (Nat.mod_lt _ (by omega)), Nat.div_add_mod' i 32]
    exact List.getElem?_eq_getElem hi
  · exact r3 i hi
end
def ItV (w : World) (A : Option Addr) (j : Nat) (V : Option Addr) (m d : Nat) : Prop := ∃ v0, CellsAt w A (j * 2) [v0, .slice V m d]
theorem ItV.u {w w' : World} {A V : Option Addr} {j m d : Nat} (h : ItV w A j V m d) (hb : Below w.heap.size w w') : ItV w' A j V m d := by
  obtain ⟨v0, h1⟩ := h
  exact ⟨v0, h1.u hb⟩
--@ rule load r o_ldItV
theorem o_ldItV {N : Nat} {fr : Fr} {w w0 : World} {ty : TypeId} {x : Operand} {A V : Option Addr} {j o m d : Nat} (hx : fr.ev x = some (.pointer (some (adr A (j * 2 + o))))) (ho : o = 1) (h : ItV w0 A j V m d) (hb : Below w0.heap.size w0 w) : OpV Tryz.prog N fr w (.load 39 x) ty (.slice V m d) w := by
  subst ho
  obtain ⟨v0, h1⟩ := h.u hb
  exact o_load (t := 39) Tryz.isAgg39 hx (h1 1 _ rfl)
set_option maxRecDepth 100000 in
set_option maxHeartbeats 2000000 in
theorem C_kOwnState {A B C : Option Addr} {I : List (By × By)} {X Y : List Ky} {n c m d q e : Nat} (w : World) (hA : RI w A I) (hB : RKs w B X) (hC : RKs w C Y) (hn : n = I.length) (hm : m = X.length) (hq : q = Y.length) (hl : I.length ≤ 400000) (hl2 : X.length ≤ 400000) (hl3 : Y.length ≤ 400000) (hL : LtI I) :
    CallsR Tryz.prog 16 [.agg #[.slice A n c, .slice B m d, .slice C q e]] w fun v w' => ∃ A' c' B' d' C' e', v = .agg #[.slice A' I.length c', .slice B' X.length d', .slice C' Y.length e'] ∧ OwnI w' w.heap.size w'.heap.size A' c' I ∧ OwnKs w' w.heap.size w'.heap.size B' d' X ∧ OwnKs w' w.heap.size w'.heap.size C' e' Y ∧ Below w.heap.size w w' := by
  subst hn; subst hm; subst hq
  refine callsR Tryz.func16 rfl rfl (by kernel_rfl) rfl ?_
  have hw := Below.refl w.heap.size w
  refine rk_seq ?_
  refine rk_region ?_
  refine wl_boxg [_, _, _] rfl (by rfl) ?_
  rintro g1 w1 f1 b1 i1 i1_1
  have s1 := b1.size
  replace hw := hw.trans (b1.mono hw.size)
  refine wl_allocg [_, _, _] Tryz.zeroValue31 (by rfl) ?_
  rintro g2 w2 f2 b2 i2 i2_1
  have s2 := b2.size
  replace hw := hw.trans (b2.mono hw.size)
  replace f1 := f1.u b2
  refine wl_nil ?_
  refine rk_seq ?_
  refine rk_drawoB (id := 1) (none) [0, 0, 2, 5, 0, 0, 32, 88, 136, 0, 1023] [0, 0, 2, 7, 0, 0, 32, 127, 255, 0, 1023] 1689 537 [1, 2, 5, 6] [(.p, 1), (.s, 2), (.p, 5), (.s, 6), (.f 102 1689 537, 7)] (by kernel_rfl) (by kernel_rfl) (by kernel_rfl) (by kernel_rfl) (by kernel_rfl) ?_
  dsimp only [inOrder, nthOp]
  replace hw := hw.drew
  replace f1 := f1.d
  replace f2 := f2.d
  refine wl_p (fun _ => o_faddr (s := 31) (i := 1) (off := 1) Tryz.underlying31 rfl Tryz.sizeOf29 rfl rfl rfl) ?_
  refine wl_s (fun _ hk => (o_loadbg Tryz.isAgg29 rfl (f1.u (below_of_ok hk (Nat.le_refl _) (fun _ e => by cases e))) (by rfl))) ?_
  refine wl_p (fun _ => o_faddr (s := 31) (i := 2) (off := 2) Tryz.underlying31 rfl Tryz.sizeOf29 rfl rfl rfl) ?_
  refine wl_s (fun _ hk => (o_loadbg Tryz.isAgg29 rfl (f1.u (below_of_ok hk (Nat.le_refl _) (fun _ e => by cases e))) (by rfl))) ?_
  have szw := hw.size
  have hdr : w2.drew.heap.size = w2.heap.size := rfl
  refine wl_forkf3 (m := 102) (L := 1689) (C := 537) (n := 7) (k1 := 0) (k2 := 4) (k3 := 9) (fun fb fr V => ∃ (A8 : Option Addr) (c8 : Nat) (A12 : Option Addr) (c12 g3 : Nat), fr = [(3, .pointer (some ⟨g3, 0, none⟩)), (13, .agg #[.slice none 0 0, .slice A8 X.length c8, .slice A12 Y.length c12])] ++ fb ∧ OwnKs V w2.heap.size V.heap.size A8 c8 X ∧ OwnKs V w2.heap.size V.heap.size A12 c12 Y ∧ Blk V g3 31 [.slice none 0 0, .slice none 0 0, .slice none 0 0] ∧ Blk V g1 31 [.slice A I.length c, .slice B X.length d, .slice C Y.length e] ∧ Blk V g2 31 [.slice none 0 0, .slice none 0 0, .slice none 0 0] ∧ w2.heap.size ≤ g3 ∧ Below w.heap.size w V) [0, 0, 2, 5, 0, 0, 32, 88, 136, 0, 1023] [0, 0, 2, 7, 0, 0, 32, 127, 255, 0, 1023] [0] [4] [9] [10] [(.f 103 1689 537, 6)] [(.f 118 1689 537, 6)] [(.f 614 1689 537, 6)] [(.l, 10)] (by kernel_rfl) (by kernel_rfl) (by kernel_rfl) (by kernel_rfl) (by kernel_rfl) (by kernel_rfl) ?_ (fun hj => ?_) (fun hj => ?_) (fun hj => ?_) <;> dsimp only [inOrder, nthOp]
  · clear f1 f2 hw
    rintro fr V ⟨A8, c8, A12, c12, g3, rfl, f8, f12, f3, f1, f2, hg3, hw⟩
    have hgV : w2.heap.size ≤ V.heap.size := by have := f3.lt; omega
    first | refine rk_frame (by simp only [List.cons_append, List.nil_append, List.drop_succ_cons, List.drop_zero]; rfl) ?_ | refine wl_frame (by simp only [List.cons_append, List.nil_append, List.drop_succ_cons, List.drop_zero]; rfl) ?_
    refine wl_storega Tryz.sizeOf31 rfl rfl (by rfl) (oneCell_of (by rfl)) f3 (by rfl) ?_
    rintro w_1 f g e_1
    have s := g.size
    replace hw := hw.trans (below_of_grownBy g.g hw.size (by omega))
    replace f2 := f2.k g.g (ap_some (by omega))
    replace f1 := f1.k g.g (ap_some (by omega))
    replace f12 := f12.y g (by decide)
    replace f8 := f8.y g (by decide)
    clear f3
    refine wl_nild ?_
    refine rk_seq ?_
    refine rk_seq ?_
    refine rk_region ?_
    refine wl_p (fun _ => o_assign rfl) ?_
    refine wl_nil ?_
    refine rk_block ?_
    have hw9 := hw.size
    refine rk_joinf (fun fb fr V2 => ∃ A' c', fr = [] ++ fb.drop 1 ∧ OwnI V2 w2.heap.size V2.heap.size A' c' I ∧ OwnKs V2 w2.heap.size V.heap.size A8 c8 X ∧ OwnKs V2 w2.heap.size V.heap.size A12 c12 Y ∧ Blk V2 g3 31 [.slice A' I.length c', .slice A8 X.length c8, .slice A12 Y.length c12] ∧ Blk V2 g1 31 [.slice A I.length c, .slice B X.length d, .slice C Y.length e] ∧ Blk V2 g2 31 [.slice none 0 0, .slice none 0 0, .slice none 0 0] ∧ V.heap.size ≤ V2.heap.size ∧ Below w.heap.size w V2) ?_ (fun ks hj => ?_)
    rotate_left
    · refine rk_loopf (fun fb k fr V2 => ∃ (i : Nat) (v : Int) (A' : Option Addr) (c' : Nat) (J : List (By × By)), fr = [(4, .int .i64 v)] ++ fb.drop 1 ∧ v = i ∧ i ≤ I.length ∧ k = I.length - i ∧ J = I.take i ∧ OwnI V2 w2.heap.size V2.heap.size A' c' J ∧ OwnKs V2 w2.heap.size V.heap.size A8 c8 X ∧ OwnKs V2 w2.heap.size V.heap.size A12 c12 Y ∧ Blk V2 g3 31 [.slice A' J.length c', .slice A8 X.length c8, .slice A12 Y.length c12] ∧ Blk V2 g1 31 [.slice A I.length c, .slice B X.length d, .slice C Y.length e] ∧ Blk V2 g2 31 [.slice none 0 0, .slice none 0 0, .slice none 0 0] ∧ V.heap.size ≤ V2.heap.size ∧ Below w.heap.size w V2) (n := I.length) (Fr.le_of (by kernel_rfl) (by kernel_rfl) (by repeat' constructor)) ⟨0, _, none, 0, [], rfl, rfl, by omega, rfl, rfl, OwnI.nil_, f8, f12, f, f1, f2, by omega, hw⟩ ?_
      clear hw f8 f12 f f1 f2
      rintro k fr V2 ⟨i, v, A', c', J, rfl, rfl, hi, rfl, hJ, fo, f8, f12, f, f1, f2, hsz, hw⟩
      have shw := hw.size
      have hJl : J.length = i := by rw [hJ, List.length_take]; omega
      first | refine rk_frame (by simp only [List.cons_append, List.nil_append, List.drop_succ_cons, List.drop_zero]; rfl) ?_ | refine wl_frame (by simp only [List.cons_append, List.nil_append, List.drop_succ_cons, List.drop_zero]; rfl) ?_
      refine rk_seq ?_
      refine rk_seq ?_
      refine rk_region ?_
      refine wl_p (fun _ => o_move rfl) ?_
      refine wl_p (fun _ => o_faddr (s := 31) (i := 0) (off := 0) Tryz.underlying31 rfl Tryz.sizeOf28 rfl rfl rfl) ?_
      refine wl_r (o_loadbg Tryz.isAgg28 rfl f1 (by rfl)) ?_
      refine wl_p (fun _ => o_len (t := 28) Tryz.underlying28 rfl) ?_
      refine wl_p (fun _ => o_lt rfl rfl) ?_
      refine wl_nil ?_
      refine rk_if rfl (fun h18 => ?_) (fun h18 => ?_)
      · have hil : i < I.length := by omega
        obtain ⟨n1, n2⟩ := hL _ (List.getElem_mem hil)
        obtain ⟨Ai, ci, Vi, di, hcell, r1, r2, r3, r4⟩ := hA.elem hil
        have hiv : ItV w A i Vi I[i].2.length di := ⟨_, hcell⟩
        clear hcell
        refine rk_skip ?_
        refine rk_seq ?_
        refine rk_block ?_
        refine rk_drawo (id := 5) (none) [0, 1, 0, 4, 0, 24, 32, 64, 128, 0, 512, 0, 3072, 4096, 8192, 16640, 33024, 65536, 163842, 524287, 1048575] [0, 1, 0, 4, 0, 28, 60, 124, 252, 0, 512, 0, 3584, 7680, 15872, 32764, 65532, 131068, 262143, 524287, 1048575] 1474816 164096 [0, 1, 2, 3, 4, 5, 6, 7, 9, 10, 11, 12, 13, 14, 8, 15, 16, 17, 18, 19, 20] [(.p, 0), (.s, 1), (.p, 2), (.r, 3), (.p, 4), (.p, 5), (.p, 6), (.r, 7), (.p, 9), (.s, 10), (.p, 11), (.p, 12), (.p, 13), (.s, 14), (.c, 8), (.c, 15), (.p, 16), (.c, 17), (.l, 18), (.p, 19), (.l, 20)] (by kernel_rfl) (by kernel_rfl) (by kernel_rfl) (by kernel_rfl) (by kernel_rfl) ?_
        dsimp only [inOrder, nthOp]
        replace hw := hw.drew
        replace f2 := f2.d
        replace f1 := f1.d
        replace f := f.d
        replace f12 := f12.d
        replace f8 := f8.d
        replace fo := fo.d
        refine wl_p (fun _ => o_faddr (s := 31) (i := 0) (off := 0) Tryz.underlying31 rfl Tryz.sizeOf28 rfl rfl rfl) ?_
        refine wl_s (fun _ hk => (o_loadbg Tryz.isAgg28 rfl (f.u (below_of_grown_none hk)) (by rfl))) ?_
        refine wl_p (fun _ => o_faddr (s := 31) (i := 0) (off := 0) Tryz.underlying31 rfl Tryz.sizeOf28 rfl rfl rfl) ?_
        refine wl_r (o_loadbg Tryz.isAgg28 rfl f1 (by rfl)) ?_
        refine wl_p (fun _ => o_move rfl) ?_
        refine wl_p (fun _ => (o_iaddrA (i) Tryz.underlying28 Tryz.sizeOf94 rfl rfl rfl (hA.some_ (by omega)) (by omega))) ?_
        refine wl_p (fun _ => (o_faddrR rfl Tryz.underlying94 (by rfl) Tryz.sizeOf39 (by rfl) (by rfl))) ?_
        refine wl_ldKey rfl hA hw (by omega) ?_
        rintro A128 c128 f28 i28
        refine wl_p (fun _ => o_faddr (s := 31) (i := 0) (off := 0) Tryz.underlying31 rfl Tryz.sizeOf28 rfl rfl rfl) ?_
        refine wl_s (fun _ hk => (o_loadbg Tryz.isAgg28 rfl (f1.u (below_of_grown_none hk)) (by rfl))) ?_
        refine wl_p (fun _ => o_move rfl) ?_
        refine wl_p (fun _ => (o_iaddrA (i) Tryz.underlying28 Tryz.sizeOf94 rfl rfl rfl (hA.some_ (by omega)) (by omega))) ?_
        refine wl_p (fun _ => (o_faddrR rfl Tryz.underlying94 (by rfl) Tryz.sizeOf39 (by rfl) (by rfl))) ?_
        refine wl_s (fun _ hk => (o_ldItV rfl (by rfl) hiv (hw.trans ((below_of_grown_none hk).mono hw.size)))) ?_
        refine wl_call rfl (C_kOwn _ (f28.u hw) rfl (by omega)) ?_ (hq := .inr fun _ _ h => grown_of_below h.choose_spec.choose_spec.2.2 _)
        rintro v29 w29 ⟨A29, ⟨c29, ⟨rfl, ⟨f29, b29⟩⟩⟩⟩
        simp only [drew_size] at f29
        simp only [drew_size] at b29
        have qf29 := f29.cap
        have s29 := b29.size
        simp only [drew_size] at s29
        replace hw := hw.trans (b29.mono hw.size)
        replace fo := fo.u b29
        replace f8 := f8.u b29
        replace f12 := f12.u b29
        replace f := f.u b29
        replace f1 := f1.u b29
        replace f2 := f2.u b29
        refine wl_call rfl (C_kOwn _ (r2.u hw) rfl (by omega)) ?_ (hq := .inr fun _ _ h => grown_of_below h.choose_spec.choose_spec.2.2 _)
        rintro v36 w36 ⟨A36, ⟨c36, ⟨rfl, ⟨f36, b36⟩⟩⟩⟩
        have qf36 := f36.cap
        have s36 := b36.size
        replace hw := hw.trans (b36.mono hw.size)
        replace f2 := f2.u b36
        replace f1 := f1.u b36
        replace f := f.u b36
        replace f12 := f12.u b36
        replace f8 := f8.u b36
        replace fo := fo.u b36
        replace f29 := f29.u b36
        refine wl_p (fun _ => (o_buildg [_, _] Tryz.underlying94 Tryz.zeroValue94 (by rfl) (by rfl) rfl (by rfl) (by rfl) (fun _ => by kernel_rfl))) ?_
        have m1 := own_max f29
        have m2 := own_max f36
        refine wl_litItm (by rfl) rfl f29.to_RdT f36.to_RdT rfl rfl (by omega) (by omega) (by omega) (by omega) (by rfl) ?_
        rintro A38 w38 f38 b38
        have qf38 := f38.cap
        have s38 := b38.size
        replace hw := hw.trans (b38.mono hw.size)
        replace f29 := f29.u b38
        replace fo := fo.u b38
        replace f8 := f8.u b38
        replace f12 := f12.u b38
        replace f := f.u b38
        replace f1 := f1.u b38
        replace f2 := f2.u b38
        replace f36 := f36.u b38
        refine wl_appItm rfl fo rfl rfl f38.to_RIT (by rfl) (by omega) (by omega) ?_
        rintro A39 c39 w39 f39 g39 b39
        have qf39 := f39.cap
        have s39 := g39.size
        replace hw := hw.trans (b39.mono (by omega))
        replace f36 := f36.y g39 (by decide)
        replace f2 := f2.y g39 (by decide)
        replace f1 := f1.y g39 (by decide)
        replace f := f.y g39 (by decide)
        replace f12 := f12.y g39 (by decide)
        replace f8 := f8.y g39 (by decide)
        replace f29 := f29.y g39 (by decide)
        replace f38 := f38.q g39 (fo.ap (by omega)) (by decide)
        clear fo
        refine wl_p (fun _ => o_faddr (s := 31) (i := 0) (off := 0) Tryz.underlying31 rfl Tryz.sizeOf28 rfl rfl rfl) ?_
        refine wl_storeg1 Tryz.sizeOf28 rfl rfl (by rfl) f (by simp) ?_
        rintro w_2 f_1 g_1 e_2
        have s_1 := g_1.size
        replace hw := hw.trans (below_of_grownBy g_1.g hw.size (by omega))
        replace f38 := f38.y g_1 (by decide)
        replace f29 := f29.y g_1 (by decide)
        replace f8 := f8.y g_1 (by decide)
        replace f12 := f12.y g_1 (by decide)
        replace f1 := f1.k g_1.g (ap_some (by omega))
        replace f2 := f2.k g_1.g (ap_some (by omega))
        replace f36 := f36.y g_1 (by decide)
        replace f39 := f39.y g_1 (by decide)
        clear f
        refine wl_nild ?_
        refine rk_blk ?_
        refine rk_region ?_
        refine wl_p (fun _ => o_move rfl) ?_
        refine wl_p (fun _ => o_add rfl rfl (by omega) (by omega)) ?_
        refine wl_p (fun _ => o_assign rfl) ?_
        refine wl_nil ?_
        exact rk_againf (Fr.le_of (by kernel_rfl) (by kernel_rfl) (by repeat' constructor)) ⟨i + 1, (i : Int) + 1, A39, c39, J ++ [(I[i].1, I[i].2)], rfl, by omega, by omega, rfl, by rw [hJ, List.take_succ_eq_append_getElem hil], f39.base (by omega) (by omega), f8, f12, by assumption, f1, f2, by omega, hw⟩ (by omega)
      · refine rk_exit rfl ?_
        obtain rfl : i = I.length := by omega
        rw [List.take_length] at hJ
        subst hJ
        exact rk_tof hj (Fr.le_of (by kernel_rfl) (by kernel_rfl) (by repeat' constructor)) ⟨A', c', rfl, fo, f8, f12, f, f1, f2, hsz, hw⟩
    clear hw f8 f12 f f1 f2
    rintro fr V2 ⟨A', c', rfl, fo, f8, f12, f, f1, f2, hsz, hw⟩
    have shw := hw.size
    first | refine rk_frame (by simp only [List.cons_append, List.nil_append, List.drop_succ_cons, List.drop_zero]; rfl) ?_ | refine wl_frame (by simp only [List.cons_append, List.nil_append, List.drop_succ_cons, List.drop_zero]; rfl) ?_
    refine rk_seq ?_
    refine rk_region ?_
    refine wl_r (o_loadag Tryz.isAgg31 Tryz.sizeOf31 rfl f (by rfl)) ?_
    refine wl_storega Tryz.sizeOf31 rfl rfl (by rfl) (oneCell_of (by rfl)) f2 (by rfl) ?_
    rintro w_2 f_1 g_1 e_2
    have s_1 := g_1.size
    replace hw := hw.trans (below_of_grownBy g_1.g hw.size (by omega))
    replace f1 := f1.k g_1.g (ap_some (by omega))
    replace f := f.k g_1.g (ap_some (by omega))
    replace f12 := f12.y g_1 (by decide)
    replace f8 := f8.y g_1 (by decide)
    replace fo := fo.y g_1 (by decide)
    clear f2
    refine wl_nil ?_
    refine ret_cell rfl rfl Tryz.isAgg31 Tryz.sizeOf31 (by assumption) rfl ?_
    exact ⟨_, _, _, _, _, _, rfl, fo.base (by omega) (by omega), f8.base (by omega) (by omega), f12.base (by omega) (by omega), hw⟩
  · refine wl_litKs0 (by rfl) rfl (by rfl) ?_
    rintro A5 w5 f5 b5
    simp only [drew_size] at f5
    simp only [drew_size] at b5
    have qf5 := f5.cap
    have s5 := b5.size
    simp only [drew_size] at s5
    replace hw := hw.trans (b5.mono hw.size)
    replace f2 := f2.u b5
    replace f1 := f1.u b5
    refine wl_fork3j (m := 103) (L := 1689) (C := 537) (n := 6) (k1 := 3) (k2 := 4) (k3 := 9) _ [0, 0, 2, 5, 0, 0, 32, 88, 136, 0, 1023] [0, 0, 2, 7, 0, 0, 32, 127, 255, 0, 1023] [3] [4] [9] [10] [(.f 111 1689 537, 5)] [(.f 119 1689 537, 5)] [(.f 615 1689 537, 5)] [(.l, 10)] (by kernel_rfl) (by kernel_rfl) (by kernel_rfl) (by kernel_rfl) (by kernel_rfl) (by kernel_rfl) hj (fun hj => ?_) (fun hj => ?_) (fun hj => ?_) <;> dsimp only [inOrder, nthOp]
    · refine wl_appKs0 rfl f5 rfl hB hw rfl (by omega) (by omega) ?_
      rintro A8 c8 w8 f8 b8
      have qf8 := f8.cap
      have s8 := b8.size
      replace hw := hw.trans (b8.mono hw.size)
      replace f1 := f1.u b8
      replace f2 := f2.u b8
      replace f5 := f5.u b8
      refine wl_fork2j (m := 111) (L := 1689) (C := 537) (n := 5) (k1 := 4) (k2 := 9) _ [0, 0, 2, 5, 0, 0, 32, 88, 136, 0, 1023] [0, 0, 2, 7, 0, 0, 32, 127, 255, 0, 1023] [4] [9, 4, 7, 8, 10] [10] [(.f 127 1689 537, 4)] [(.c, 4), (.l, 7), (.p, 8), (.l, 10)] [(.l, 10)] (by kernel_rfl) (by kernel_rfl) (by kernel_rfl) (by kernel_rfl) (by kernel_rfl) hj (fun hj => ?_) (fun hj => ?_) <;> dsimp only [inOrder, nthOp]
      · refine wl_litKs0 (by rfl) rfl (by rfl) ?_
        rintro A9 w9 f9 b9
        have qf9 := f9.cap
        have s9 := b9.size
        replace hw := hw.trans (b9.mono hw.size)
        replace f5 := f5.u b9
        replace f2 := f2.u b9
        replace f1 := f1.u b9
        replace f8 := f8.u b9
        refine wl_fork2j (m := 127) (L := 1689) (C := 537) (n := 4) (k1 := 7) (k2 := 9) _ [0, 0, 2, 5, 0, 0, 32, 88, 136, 0, 1023] [0, 0, 2, 7, 0, 0, 32, 127, 255, 0, 1023] [7, 8, 9, 10] [9, 7, 8, 10] [10] [(.p, 8), (.c, 9), (.l, 10)] [(.l, 7), (.p, 8), (.l, 10)] [(.l, 10)] (by kernel_rfl) (by kernel_rfl) (by kernel_rfl) (by kernel_rfl) (by kernel_rfl) hj (fun hj => ?_) (fun hj => ?_) <;> dsimp only [inOrder, nthOp]
        · refine wl_appKs0 rfl f9 rfl hC hw rfl (by omega) (by omega) ?_
          rintro A12 c12 w12 f12 b12
          have qf12 := f12.cap
          have s12 := b12.size
          replace hw := hw.trans (b12.mono hw.size)
          replace f8 := f8.u b12
          replace f1 := f1.u b12
          replace f2 := f2.u b12
          replace f5 := f5.u b12
          replace f9 := f9.u b12
          refine wl_p (fun _ => (o_buildg [_, _, _] Tryz.underlying31 Tryz.zeroValue31 (by rfl) (by rfl) rfl (by rfl) (by rfl) (fun _ => by kernel_rfl))) ?_
          refine wl_allocg [_, _, _] Tryz.zeroValue31 (by rfl) ?_
          rintro g3 w3 f3 b3 i3 i3_1
          have s3 := b3.size
          replace hw := hw.trans (b3.mono hw.size)
          replace f9 := f9.u b3
          replace f5 := f5.u b3
          replace f2 := f2.u b3
          replace f1 := f1.u b3
          replace f8 := f8.u b3
          replace f12 := f12.u b3
          exact wl_tof hj (Fr.le_of (by kernel_rfl) (by kernel_rfl) (by repeat' constructor)) ⟨_, _, _, _, _, rfl, f8.base (by omega) (by omega), f12.base (by omega) (by omega), f3, f1, f2, by omega, hw⟩
        · refine wl_allocg [_, _, _] Tryz.zeroValue31 (by rfl) ?_
          rintro g3 w3 f3 b3 i3 i3_1
          have s3 := b3.size
          replace hw := hw.trans (b3.mono hw.size)
          replace f8 := f8.u b3
          replace f1 := f1.u b3
          replace f2 := f2.u b3
          replace f5 := f5.u b3
          replace f9 := f9.u b3
          refine wl_appKs0 rfl f9 rfl hC hw rfl (by omega) (by omega) ?_
          rintro A12 c12 w12 f12 b12
          have qf12 := f12.cap
          have s12 := b12.size
          replace hw := hw.trans (b12.mono hw.size)
          replace f9 := f9.u b12
          replace f5 := f5.u b12
          replace f2 := f2.u b12
          replace f1 := f1.u b12
          replace f8 := f8.u b12
          replace f3 := f3.u b12
          refine wl_p (fun _ => (o_buildg [_, _, _] Tryz.underlying31 Tryz.zeroValue31 (by rfl) (by rfl) rfl (by rfl) (by rfl) (fun _ => by kernel_rfl))) ?_
          exact wl_tof hj (Fr.le_of (by kernel_rfl) (by kernel_rfl) (by repeat' constructor)) ⟨_, _, _, _, _, rfl, f8.base (by omega) (by omega), f12.base (by omega) (by omega), f3, f1, f2, by omega, hw⟩
      · refine wl_allocg [_, _, _] Tryz.zeroValue31 (by rfl) ?_
        rintro g3 w3 f3 b3 i3 i3_1
        have s3 := b3.size
        replace hw := hw.trans (b3.mono hw.size)
        replace f5 := f5.u b3
        replace f2 := f2.u b3
        replace f1 := f1.u b3
        replace f8 := f8.u b3
        refine wl_litKs0 (by rfl) rfl (by rfl) ?_
        rintro A9 w9 f9 b9
        have qf9 := f9.cap
        have s9 := b9.size
        replace hw := hw.trans (b9.mono hw.size)
        replace f8 := f8.u b9
        replace f1 := f1.u b9
        replace f2 := f2.u b9
        replace f5 := f5.u b9
        replace f3 := f3.u b9
        refine wl_appKs0 rfl f9 rfl hC hw rfl (by omega) (by omega) ?_
        rintro A12 c12 w12 f12 b12
        have qf12 := f12.cap
        have s12 := b12.size
        replace hw := hw.trans (b12.mono hw.size)
        replace f3 := f3.u b12
        replace f5 := f5.u b12
        replace f2 := f2.u b12
        replace f1 := f1.u b12
        replace f8 := f8.u b12
        replace f9 := f9.u b12
        refine wl_p (fun _ => (o_buildg [_, _, _] Tryz.underlying31 Tryz.zeroValue31 (by rfl) (by rfl) rfl (by rfl) (by rfl) (fun _ => by kernel_rfl))) ?_
        exact wl_tof hj (Fr.le_of (by kernel_rfl) (by kernel_rfl) (by repeat' constructor)) ⟨_, _, _, _, _, rfl, f8.base (by omega) (by omega), f12.base (by omega) (by omega), f3, f1, f2, by omega, hw⟩
    · refine wl_litKs0 (by rfl) rfl (by rfl) ?_
      rintro A9 w9 f9 b9
      have qf9 := f9.cap
      have s9 := b9.size
      replace hw := hw.trans (b9.mono hw.size)
      replace f1 := f1.u b9
      replace f2 := f2.u b9
      replace f5 := f5.u b9
      refine wl_fork2j (m := 119) (L := 1689) (C := 537) (n := 5) (k1 := 3) (k2 := 9) _ [0, 0, 2, 5, 0, 0, 32, 88, 136, 0, 1023] [0, 0, 2, 7, 0, 0, 32, 127, 255, 0, 1023] [3] [9, 3, 7, 8, 10] [10] [(.f 127 1689 537, 4)] [(.c, 3), (.l, 7), (.p, 8), (.l, 10)] [(.l, 10)] (by kernel_rfl) (by kernel_rfl) (by kernel_rfl) (by kernel_rfl) (by kernel_rfl) hj (fun hj => ?_) (fun hj => ?_) <;> dsimp only [inOrder, nthOp]
      · refine wl_appKs0 rfl f5 rfl hB hw rfl (by omega) (by omega) ?_
        rintro A8 c8 w8 f8 b8
        have qf8 := f8.cap
        have s8 := b8.size
        replace hw := hw.trans (b8.mono hw.size)
        replace f5 := f5.u b8
        replace f2 := f2.u b8
        replace f1 := f1.u b8
        replace f9 := f9.u b8
        refine wl_fork2j (m := 127) (L := 1689) (C := 537) (n := 4) (k1 := 7) (k2 := 9) _ [0, 0, 2, 5, 0, 0, 32, 88, 136, 0, 1023] [0, 0, 2, 7, 0, 0, 32, 127, 255, 0, 1023] [7, 8, 9, 10] [9, 7, 8, 10] [10] [(.p, 8), (.c, 9), (.l, 10)] [(.l, 7), (.p, 8), (.l, 10)] [(.l, 10)] (by kernel_rfl) (by kernel_rfl) (by kernel_rfl) (by kernel_rfl) (by kernel_rfl) hj (fun hj => ?_) (fun hj => ?_) <;> dsimp only [inOrder, nthOp]
        · refine wl_appKs0 rfl f9 rfl hC hw rfl (by omega) (by omega) ?_
          rintro A12 c12 w12 f12 b12
          have qf12 := f12.cap
          have s12 := b12.size
          replace hw := hw.trans (b12.mono hw.size)
          replace f9 := f9.u b12
          replace f1 := f1.u b12
          replace f2 := f2.u b12
          replace f5 := f5.u b12
          replace f8 := f8.u b12
          refine wl_p (fun _ => (o_buildg [_, _, _] Tryz.underlying31 Tryz.zeroValue31 (by rfl) (by rfl) rfl (by rfl) (by rfl) (fun _ => by kernel_rfl))) ?_
          refine wl_allocg [_, _, _] Tryz.zeroValue31 (by rfl) ?_
          rintro g3 w3 f3 b3 i3 i3_1
          have s3 := b3.size
          replace hw := hw.trans (b3.mono hw.size)
          replace f8 := f8.u b3
          replace f5 := f5.u b3
          replace f2 := f2.u b3
          replace f1 := f1.u b3
          replace f9 := f9.u b3
          replace f12 := f12.u b3
          exact wl_tof hj (Fr.le_of (by kernel_rfl) (by kernel_rfl) (by repeat' constructor)) ⟨_, _, _, _, _, rfl, f8.base (by omega) (by omega), f12.base (by omega) (by omega), f3, f1, f2, by omega, hw⟩
        · refine wl_allocg [_, _, _] Tryz.zeroValue31 (by rfl) ?_
          rintro g3 w3 f3 b3 i3 i3_1
          have s3 := b3.size
          replace hw := hw.trans (b3.mono hw.size)
          replace f9 := f9.u b3
          replace f1 := f1.u b3
          replace f2 := f2.u b3
          replace f5 := f5.u b3
          replace f8 := f8.u b3
          refine wl_appKs0 rfl f9 rfl hC hw rfl (by omega) (by omega) ?_
          rintro A12 c12 w12 f12 b12
          have qf12 := f12.cap
          have s12 := b12.size
          replace hw := hw.trans (b12.mono hw.size)
          replace f8 := f8.u b12
          replace f5 := f5.u b12
          replace f2 := f2.u b12
          replace f1 := f1.u b12
          replace f9 := f9.u b12
          replace f3 := f3.u b12
          refine wl_p (fun _ => (o_buildg [_, _, _] Tryz.underlying31 Tryz.zeroValue31 (by rfl) (by rfl) rfl (by rfl) (by rfl) (fun _ => by kernel_rfl))) ?_
          exact wl_tof hj (Fr.le_of (by kernel_rfl) (by kernel_rfl) (by repeat' constructor)) ⟨_, _, _, _, _, rfl, f8.base (by omega) (by omega), f12.base (by omega) (by omega), f3, f1, f2, by omega, hw⟩
      · refine wl_allocg [_, _, _] Tryz.zeroValue31 (by rfl) ?_
        rintro g3 w3 f3 b3 i3 i3_1
        have s3 := b3.size
        replace hw := hw.trans (b3.mono hw.size)
        replace f5 := f5.u b3
        replace f2 := f2.u b3
        replace f1 := f1.u b3
        replace f9 := f9.u b3
        refine wl_appKs0 rfl f5 rfl hB hw rfl (by omega) (by omega) ?_
        rintro A8 c8 w8 f8 b8
        have qf8 := f8.cap
        have s8 := b8.size
        replace hw := hw.trans (b8.mono hw.size)
        replace f9 := f9.u b8
        replace f1 := f1.u b8
        replace f2 := f2.u b8
        replace f5 := f5.u b8
        replace f3 := f3.u b8
        refine wl_appKs0 rfl f9 rfl hC hw rfl (by omega) (by omega) ?_
        rintro A12 c12 w12 f12 b12
        have qf12 := f12.cap
        have s12 := b12.size
        replace hw := hw.trans (b12.mono hw.size)
        replace f3 := f3.u b12
        replace f5 := f5.u b12
        replace f2 := f2.u b12
        replace f1 := f1.u b12
        replace f9 := f9.u b12
        replace f8 := f8.u b12
        refine wl_p (fun _ => (o_buildg [_, _, _] Tryz.underlying31 Tryz.zeroValue31 (by rfl) (by rfl) rfl (by rfl) (by rfl) (fun _ => by kernel_rfl))) ?_
        exact wl_tof hj (Fr.le_of (by kernel_rfl) (by kernel_rfl) (by repeat' constructor)) ⟨_, _, _, _, _, rfl, f8.base (by omega) (by omega), f12.base (by omega) (by omega), f3, f1, f2, by omega, hw⟩
    · refine wl_allocg [_, _, _] Tryz.zeroValue31 (by rfl) ?_
      rintro g3 w3 f3 b3 i3 i3_1
      have s3 := b3.size
      replace hw := hw.trans (b3.mono hw.size)
      replace f1 := f1.u b3
      replace f2 := f2.u b3
      replace f5 := f5.u b3
      have s3 := hw.size
      have hf5 := f5
      refine wl_forkf (m := 615) (L := 1689) (C := 537) (n := 5) (k1 := 3) (k2 := 4) (fun fb fr V => ∃ (A8 : Option Addr) (c8 : Nat) (A9 : Option Addr), fr = [(8, .slice A8 X.length c8), (9, .slice A9 0 0)] ++ fb ∧ OwnKs V w2.heap.size V.heap.size A8 c8 X ∧ OwnKs V w2.heap.size V.heap.size A9 0 [] ∧ Blk V g3 31 [.slice none 0 0, .slice none 0 0, .slice none 0 0] ∧ Blk V g1 31 [.slice A I.length c, .slice B X.length d, .slice C Y.length e] ∧ Blk V g2 31 [.slice none 0 0, .slice none 0 0, .slice none 0 0] ∧ w2.heap.size ≤ V.heap.size ∧ Below w.heap.size w V) [0, 0, 2, 5, 0, 0, 32, 88, 136, 0, 1023] [0, 0, 2, 7, 0, 0, 32, 127, 255, 0, 1023] [3, 4, 7, 8, 10] [4, 3, 7, 8, 10] [7, 8, 10] [(.c, 4), (.l, 7), (.p, 8), (.l, 10)] [(.c, 3), (.l, 7), (.p, 8), (.l, 10)] [(.l, 7), (.p, 8), (.l, 10)] (by kernel_rfl) (by kernel_rfl) (by kernel_rfl) (by kernel_rfl) (by kernel_rfl) ?_ (fun hj => ?_) (fun hj => ?_) <;> dsimp only [inOrder, nthOp]
      · clear f1 f2 f3 hw
        rintro fr V ⟨A8, c8, A9, rfl, f8, f9, f3, f1, f2, hg9, hw⟩
        first | refine rk_frame (by simp only [List.cons_append, List.nil_append, List.drop_succ_cons, List.drop_zero]; rfl) ?_ | refine wl_frame (by simp only [List.cons_append, List.nil_append, List.drop_succ_cons, List.drop_zero]; rfl) ?_
        refine wl_appKs0 rfl f9 rfl hC hw rfl (by omega) (by omega) ?_
        rintro A12 c12 w12 f12 b12
        have qf12 := f12.cap
        have s12 := b12.size
        replace hw := hw.trans (b12.mono hw.size)
        replace f2 := f2.u b12
        replace f1 := f1.u b12
        replace f3 := f3.u b12
        replace f9 := f9.u b12
        replace f8 := f8.u b12
        refine wl_p (fun _ => (o_buildg [_, _, _] Tryz.underlying31 Tryz.zeroValue31 (by rfl) (by rfl) rfl (by rfl) (by rfl) (fun _ => by kernel_rfl))) ?_
        exact wl_tof hj (Fr.le_of (by kernel_rfl) (by kernel_rfl) (by repeat' constructor)) ⟨_, _, _, _, _, rfl, f8.base (by omega) (by omega), f12.base (by omega) (by omega), f3, f1, f2, by omega, hw⟩
      · refine wl_appKs0 rfl hf5 rfl hB hw rfl (by omega) (by omega) ?_
        rintro A8 c8 w8 f8 b8
        have qf8 := f8.cap
        have s8 := b8.size
        replace hw := hw.trans (b8.mono hw.size)
        replace hf5 := hf5.u b8
        replace f5 := f5.u b8
        replace f2 := f2.u b8
        replace f1 := f1.u b8
        replace f3 := f3.u b8
        refine wl_litKs0 (by rfl) rfl (by rfl) ?_
        rintro A9 w9 f9 b9
        have qf9 := f9.cap
        have s9 := b9.size
        replace hw := hw.trans (b9.mono hw.size)
        replace f3 := f3.u b9
        replace f1 := f1.u b9
        replace f2 := f2.u b9
        replace f5 := f5.u b9
        replace hf5 := hf5.u b9
        replace f8 := f8.u b9
        exact wl_tof hj (Fr.le_of (by kernel_rfl) (by kernel_rfl) (by repeat' constructor)) ⟨_, _, _, rfl, f8.base (by omega) (by omega), f9.base (by omega) (by omega), f3, f1, f2, by omega, hw⟩
      · refine wl_litKs0 (by rfl) rfl (by rfl) ?_
        rintro A9 w9 f9 b9
        have qf9 := f9.cap
        have s9 := b9.size
        replace hw := hw.trans (b9.mono hw.size)
        replace hf5 := hf5.u b9
        replace f5 := f5.u b9
        replace f2 := f2.u b9
        replace f1 := f1.u b9
        replace f3 := f3.u b9
        refine wl_appKs0 rfl f5 rfl hB hw rfl (by omega) (by omega) ?_
        rintro A8 c8 w8 f8 b8
        have qf8 := f8.cap
        have s8 := b8.size
        replace hw := hw.trans (b8.mono hw.size)
        replace f3 := f3.u b8
        replace f1 := f1.u b8
        replace f2 := f2.u b8
        replace f5 := f5.u b8
        replace hf5 := hf5.u b8
        replace f9 := f9.u b8
        exact wl_tof hj (Fr.le_of (by kernel_rfl) (by kernel_rfl) (by repeat' constructor)) ⟨_, _, _, rfl, f8.base (by omega) (by omega), f9.base (by omega) (by omega), f3, f1, f2, by omega, hw⟩
  · refine wl_litKs0 (by rfl) rfl (by rfl) ?_
    rintro A9 w9 f9 b9
    simp only [drew_size] at f9
    simp only [drew_size] at b9
    have qf9 := f9.cap
    have s9 := b9.size
    simp only [drew_size] at s9
    replace hw := hw.trans (b9.mono hw.size)
    replace f2 := f2.u b9
    replace f1 := f1.u b9
    refine wl_fork2j (m := 118) (L := 1689) (C := 537) (n := 6) (k1 := 0) (k2 := 9) _ [0, 0, 2, 5, 0, 0, 32, 88, 136, 0, 1023] [0, 0, 2, 7, 0, 0, 32, 127, 255, 0, 1023] [0] [9, 0, 3, 7, 8, 10] [10] [(.f 119 1689 537, 5)] [(.c, 0), (.c, 3), (.l, 7), (.p, 8), (.l, 10)] [(.l, 10)] (by kernel_rfl) (by kernel_rfl) (by kernel_rfl) (by kernel_rfl) (by kernel_rfl) hj (fun hj => ?_) (fun hj => ?_) <;> dsimp only [inOrder, nthOp]
    · refine wl_litKs0 (by rfl) rfl (by rfl) ?_
      rintro A5 w5 f5 b5
      have qf5 := f5.cap
      have s5 := b5.size
      replace hw := hw.trans (b5.mono hw.size)
      replace f1 := f1.u b5
      replace f2 := f2.u b5
      replace f9 := f9.u b5
      refine wl_fork2j (m := 119) (L := 1689) (C := 537) (n := 5) (k1 := 3) (k2 := 9) _ [0, 0, 2, 5, 0, 0, 32, 88, 136, 0, 1023] [0, 0, 2, 7, 0, 0, 32, 127, 255, 0, 1023] [3] [9, 3, 7, 8, 10] [10] [(.f 127 1689 537, 4)] [(.c, 3), (.l, 7), (.p, 8), (.l, 10)] [(.l, 10)] (by kernel_rfl) (by kernel_rfl) (by kernel_rfl) (by kernel_rfl) (by kernel_rfl) hj (fun hj => ?_) (fun hj => ?_) <;> dsimp only [inOrder, nthOp]
      · refine wl_appKs0 rfl f5 rfl hB hw rfl (by omega) (by omega) ?_
        rintro A8 c8 w8 f8 b8
        have qf8 := f8.cap
        have s8 := b8.size
        replace hw := hw.trans (b8.mono hw.size)
        replace f9 := f9.u b8
        replace f2 := f2.u b8
        replace f1 := f1.u b8
        replace f5 := f5.u b8
        refine wl_fork2j (m := 127) (L := 1689) (C := 537) (n := 4) (k1 := 7) (k2 := 9) _ [0, 0, 2, 5, 0, 0, 32, 88, 136, 0, 1023] [0, 0, 2, 7, 0, 0, 32, 127, 255, 0, 1023] [7, 8, 9, 10] [9, 7, 8, 10] [10] [(.p, 8), (.c, 9), (.l, 10)] [(.l, 7), (.p, 8), (.l, 10)] [(.l, 10)] (by kernel_rfl) (by kernel_rfl) (by kernel_rfl) (by kernel_rfl) (by kernel_rfl) hj (fun hj => ?_) (fun hj => ?_) <;> dsimp only [inOrder, nthOp]
        · refine wl_appKs0 rfl f9 rfl hC hw rfl (by omega) (by omega) ?_
          rintro A12 c12 w12 f12 b12
          have qf12 := f12.cap
          have s12 := b12.size
          replace hw := hw.trans (b12.mono hw.size)
          replace f5 := f5.u b12
          replace f1 := f1.u b12
          replace f2 := f2.u b12
          replace f9 := f9.u b12
          replace f8 := f8.u b12
          refine wl_p (fun _ => (o_buildg [_, _, _] Tryz.underlying31 Tryz.zeroValue31 (by rfl) (by rfl) rfl (by rfl) (by rfl) (fun _ => by kernel_rfl))) ?_
          refine wl_allocg [_, _, _] Tryz.zeroValue31 (by rfl) ?_
          rintro g3 w3 f3 b3 i3 i3_1
          have s3 := b3.size
          replace hw := hw.trans (b3.mono hw.size)
          replace f8 := f8.u b3
          replace f9 := f9.u b3
          replace f2 := f2.u b3
          replace f1 := f1.u b3
          replace f5 := f5.u b3
          replace f12 := f12.u b3
          exact wl_tof hj (Fr.le_of (by kernel_rfl) (by kernel_rfl) (by repeat' constructor)) ⟨_, _, _, _, _, rfl, f8.base (by omega) (by omega), f12.base (by omega) (by omega), f3, f1, f2, by omega, hw⟩
        · refine wl_allocg [_, _, _] Tryz.zeroValue31 (by rfl) ?_
          rintro g3 w3 f3 b3 i3 i3_1
          have s3 := b3.size
          replace hw := hw.trans (b3.mono hw.size)
          replace f5 := f5.u b3
          replace f1 := f1.u b3
          replace f2 := f2.u b3
          replace f9 := f9.u b3
          replace f8 := f8.u b3
          refine wl_appKs0 rfl f9 rfl hC hw rfl (by omega) (by omega) ?_
          rintro A12 c12 w12 f12 b12
          have qf12 := f12.cap
          have s12 := b12.size
          replace hw := hw.trans (b12.mono hw.size)
          replace f8 := f8.u b12
          replace f9 := f9.u b12
          replace f2 := f2.u b12
          replace f1 := f1.u b12
          replace f5 := f5.u b12
          replace f3 := f3.u b12
          refine wl_p (fun _ => (o_buildg [_, _, _] Tryz.underlying31 Tryz.zeroValue31 (by rfl) (by rfl) rfl (by rfl) (by rfl) (fun _ => by kernel_rfl))) ?_
          exact wl_tof hj (Fr.le_of (by kernel_rfl) (by kernel_rfl) (by repeat' constructor)) ⟨_, _, _, _, _, rfl, f8.base (by omega) (by omega), f12.base (by omega) (by omega), f3, f1, f2, by omega, hw⟩
      · refine wl_allocg [_, _, _] Tryz.zeroValue31 (by rfl) ?_
        rintro g3 w3 f3 b3 i3 i3_1
        have s3 := b3.size
        replace hw := hw.trans (b3.mono hw.size)
        replace f9 := f9.u b3
        replace f2 := f2.u b3
        replace f1 := f1.u b3
        replace f5 := f5.u b3
        refine wl_appKs0 rfl f5 rfl hB hw rfl (by omega) (by omega) ?_
        rintro A8 c8 w8 f8 b8
        have qf8 := f8.cap
        have s8 := b8.size
        replace hw := hw.trans (b8.mono hw.size)
        replace f5 := f5.u b8
        replace f1 := f1.u b8
        replace f2 := f2.u b8
        replace f9 := f9.u b8
        replace f3 := f3.u b8
        refine wl_appKs0 rfl f9 rfl hC hw rfl (by omega) (by omega) ?_
        rintro A12 c12 w12 f12 b12
        have qf12 := f12.cap
        have s12 := b12.size
        replace hw := hw.trans (b12.mono hw.size)
        replace f3 := f3.u b12
        replace f9 := f9.u b12
        replace f2 := f2.u b12
        replace f1 := f1.u b12
        replace f5 := f5.u b12
        replace f8 := f8.u b12
        refine wl_p (fun _ => (o_buildg [_, _, _] Tryz.underlying31 Tryz.zeroValue31 (by rfl) (by rfl) rfl (by rfl) (by rfl) (fun _ => by kernel_rfl))) ?_
        exact wl_tof hj (Fr.le_of (by kernel_rfl) (by kernel_rfl) (by repeat' constructor)) ⟨_, _, _, _, _, rfl, f8.base (by omega) (by omega), f12.base (by omega) (by omega), f3, f1, f2, by omega, hw⟩
    · refine wl_allocg [_, _, _] Tryz.zeroValue31 (by rfl) ?_
      rintro g3 w3 f3 b3 i3 i3_1
      have s3 := b3.size
      replace hw := hw.trans (b3.mono hw.size)
      replace f1 := f1.u b3
      replace f2 := f2.u b3
      replace f9 := f9.u b3
      refine wl_litKs0 (by rfl) rfl (by rfl) ?_
      rintro A5 w5 f5 b5
      have qf5 := f5.cap
      have s5 := b5.size
      replace hw := hw.trans (b5.mono hw.size)
      replace f9 := f9.u b5
      replace f2 := f2.u b5
      replace f1 := f1.u b5
      replace f3 := f3.u b5
      refine wl_appKs0 rfl f5 rfl hB hw rfl (by omega) (by omega) ?_
      rintro A8 c8 w8 f8 b8
      have qf8 := f8.cap
      have s8 := b8.size
      replace hw := hw.trans (b8.mono hw.size)
      replace f3 := f3.u b8
      replace f1 := f1.u b8
      replace f2 := f2.u b8
      replace f9 := f9.u b8
      replace f5 := f5.u b8
      refine wl_appKs0 rfl f9 rfl hC hw rfl (by omega) (by omega) ?_
      rintro A12 c12 w12 f12 b12
      have qf12 := f12.cap
      have s12 := b12.size
      replace hw := hw.trans (b12.mono hw.size)
      replace f5 := f5.u b12
      replace f9 := f9.u b12
      replace f2 := f2.u b12
      replace f1 := f1.u b12
      replace f3 := f3.u b12
      replace f8 := f8.u b12
      refine wl_p (fun _ => (o_buildg [_, _, _] Tryz.underlying31 Tryz.zeroValue31 (by rfl) (by rfl) rfl (by rfl) (by rfl) (fun _ => by kernel_rfl))) ?_
      exact wl_tof hj (Fr.le_of (by kernel_rfl) (by kernel_rfl) (by repeat' constructor)) ⟨_, _, _, _, _, rfl, f8.base (by omega) (by omega), f12.base (by omega) (by omega), f3, f1, f2, by omega, hw⟩
  · refine wl_allocg [_, _, _] Tryz.zeroValue31 (by rfl) ?_
    rintro g3 w3 f3 b3 i3 i3_1
    simp only [drew_size] at b3
    simp only [drew_size] at i3
    have s3 := b3.size
    simp only [drew_size] at s3
    replace hw := hw.trans (b3.mono hw.size)
    replace f2 := f2.u b3
    replace f1 := f1.u b3
    have s3 := hw.size
    refine wl_forkf (m := 614) (L := 1689) (C := 537) (n := 6) (k1 := 0) (k2 := 4) (fun fb fr V => ∃ (A8 : Option Addr) (c8 : Nat) (A9 : Option Addr), fr = [(8, .slice A8 X.length c8), (9, .slice A9 0 0)] ++ fb ∧ OwnKs V w2.heap.size V.heap.size A8 c8 X ∧ OwnKs V w2.heap.size V.heap.size A9 0 [] ∧ Blk V g3 31 [.slice none 0 0, .slice none 0 0, .slice none 0 0] ∧ Blk V g1 31 [.slice A I.length c, .slice B X.length d, .slice C Y.length e] ∧ Blk V g2 31 [.slice none 0 0, .slice none 0 0, .slice none 0 0] ∧ w2.heap.size ≤ V.heap.size ∧ Below w.heap.size w V) [0, 0, 2, 5, 0, 0, 32, 88, 136, 0, 1023] [0, 0, 2, 7, 0, 0, 32, 127, 255, 0, 1023] [0] [4, 0, 3, 7, 8, 10] [7, 8, 10] [(.f 615 1689 537, 5)] [(.c, 0), (.c, 3), (.l, 7), (.p, 8), (.l, 10)] [(.l, 7), (.p, 8), (.l, 10)] (by kernel_rfl) (by kernel_rfl) (by kernel_rfl) (by kernel_rfl) (by kernel_rfl) ?_ (fun hj => ?_) (fun hj => ?_) <;> dsimp only [inOrder, nthOp]
    · clear f1 f2 f3 hw
      rintro fr V ⟨A8, c8, A9, rfl, f8, f9, f3, f1, f2, hg9, hw⟩
      first | refine rk_frame (by simp only [List.cons_append, List.nil_append, List.drop_succ_cons, List.drop_zero]; rfl) ?_ | refine wl_frame (by simp only [List.cons_append, List.nil_append, List.drop_succ_cons, List.drop_zero]; rfl) ?_
      refine wl_appKs0 rfl f9 rfl hC hw rfl (by omega) (by omega) ?_
      rintro A12 c12 w12 f12 b12
      have qf12 := f12.cap
      have s12 := b12.size
      replace hw := hw.trans (b12.mono hw.size)
      replace f2 := f2.u b12
      replace f1 := f1.u b12
      replace f3 := f3.u b12
      replace f9 := f9.u b12
      replace f8 := f8.u b12
      refine wl_p (fun _ => (o_buildg [_, _, _] Tryz.underlying31 Tryz.zeroValue31 (by rfl) (by rfl) rfl (by rfl) (by rfl) (fun _ => by kernel_rfl))) ?_
      exact wl_tof hj (Fr.le_of (by kernel_rfl) (by kernel_rfl) (by repeat' constructor)) ⟨_, _, _, _, _, rfl, f8.base (by omega) (by omega), f12.base (by omega) (by omega), f3, f1, f2, by omega, hw⟩
    · refine wl_litKs0 (by rfl) rfl (by rfl) ?_
      rintro A5 w5 f5 b5
      have qf5 := f5.cap
      have s5 := b5.size
      replace hw := hw.trans (b5.mono hw.size)
      replace f1 := f1.u b5
      replace f2 := f2.u b5
      replace f3 := f3.u b5
      refine wl_fork2j (m := 615) (L := 1689) (C := 537) (n := 5) (k1 := 3) (k2 := 4) _ [0, 0, 2, 5, 0, 0, 32, 88, 136, 0, 1023] [0, 0, 2, 7, 0, 0, 32, 127, 255, 0, 1023] [3, 4, 7, 8, 10] [4, 3, 7, 8, 10] [7, 8, 10] [(.c, 4), (.l, 7), (.p, 8), (.l, 10)] [(.c, 3), (.l, 7), (.p, 8), (.l, 10)] [(.l, 7), (.p, 8), (.l, 10)] (by kernel_rfl) (by kernel_rfl) (by kernel_rfl) (by kernel_rfl) (by kernel_rfl) hj (fun hj => ?_) (fun hj => ?_) <;> dsimp only [inOrder, nthOp]
      · refine wl_appKs0 rfl f5 rfl hB hw rfl (by omega) (by omega) ?_
        rintro A8 c8 w8 f8 b8
        have qf8 := f8.cap
        have s8 := b8.size
        replace hw := hw.trans (b8.mono hw.size)
        replace f3 := f3.u b8
        replace f2 := f2.u b8
        replace f1 := f1.u b8
        replace f5 := f5.u b8
        refine wl_litKs0 (by rfl) rfl (by rfl) ?_
        rintro A9 w9 f9 b9
        have qf9 := f9.cap
        have s9 := b9.size
        replace hw := hw.trans (b9.mono hw.size)
        replace f5 := f5.u b9
        replace f1 := f1.u b9
        replace f2 := f2.u b9
        replace f3 := f3.u b9
        replace f8 := f8.u b9
        exact wl_tof hj (Fr.le_of (by kernel_rfl) (by kernel_rfl) (by repeat' constructor)) ⟨_, _, _, rfl, f8.base (by omega) (by omega), f9.base (by omega) (by omega), f3, f1, f2, by omega, hw⟩
      · refine wl_litKs0 (by rfl) rfl (by rfl) ?_
        rintro A9 w9 f9 b9
        have qf9 := f9.cap
        have s9 := b9.size
        replace hw := hw.trans (b9.mono hw.size)
        replace f3 := f3.u b9
        replace f2 := f2.u b9
        replace f1 := f1.u b9
        replace f5 := f5.u b9
        refine wl_appKs0 rfl f5 rfl hB hw rfl (by omega) (by omega) ?_
        rintro A8 c8 w8 f8 b8
        have qf8 := f8.cap
        have s8 := b8.size
        replace hw := hw.trans (b8.mono hw.size)
        replace f5 := f5.u b8
        replace f1 := f1.u b8
        replace f2 := f2.u b8
        replace f3 := f3.u b8
        replace f9 := f9.u b8
        exact wl_tof hj (Fr.le_of (by kernel_rfl) (by kernel_rfl) (by repeat' constructor)) ⟨_, _, _, rfl, f8.base (by omega) (by omega), f9.base (by omega) (by omega), f3, f1, f2, by omega, hw⟩
    · refine wl_litKs0 (by rfl) rfl (by rfl) ?_
      rintro A9 w9 f9 b9
      have qf9 := f9.cap
      have s9 := b9.size
      replace hw := hw.trans (b9.mono hw.size)
      replace f1 := f1.u b9
      replace f2 := f2.u b9
      replace f3 := f3.u b9
      refine wl_litKs0 (by rfl) rfl (by rfl) ?_
      rintro A5 w5 f5 b5
      have qf5 := f5.cap
      have s5 := b5.size
      replace hw := hw.trans (b5.mono hw.size)
      replace f3 := f3.u b5
      replace f2 := f2.u b5
      replace f1 := f1.u b5
      replace f9 := f9.u b5
      refine wl_appKs0 rfl f5 rfl hB hw rfl (by omega) (by omega) ?_
      rintro A8 c8 w8 f8 b8
      have qf8 := f8.cap
      have s8 := b8.size
      replace hw := hw.trans (b8.mono hw.size)
      replace f9 := f9.u b8
      replace f1 := f1.u b8
      replace f2 := f2.u b8
      replace f3 := f3.u b8
      replace f5 := f5.u b8
      exact wl_tof hj (Fr.le_of (by kernel_rfl) (by kernel_rfl) (by repeat' constructor)) ⟨_, _, _, rfl, f8.base (by omega) (by omega), f9.base (by omega) (by omega), f3, f1, f2, by omega, hw⟩
end Go.Proofs.YtahkeoegbjopfaaGreat
