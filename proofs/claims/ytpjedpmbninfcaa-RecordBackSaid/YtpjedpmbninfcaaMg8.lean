/-
  The statement RecordBack: its walk.
-/
import Derived.Test.YtpjedpmbninfcaaMg7
namespace Go.Proofs.Ytpjedpmbninfcaa
open Go.RowKit
set_option maxRecDepth 100000 in
set_option maxHeartbeats 4000000 in
theorem C_RecordBack {A0 : Option Addr} {L : List Rc} {c : By} {c0 : Nat} {cut0 : Int} (w : World) (hL : RRec w A0 L) (hc0 : L.length ≤ c0) (hm0 : c0 ≤ maxLen) (hc : c.length = 32) (wcut : (Lit.int .i64 cut0).wf = true) :
    CallsR Try.prog 5 [.slice A0 L.length c0, .agg (B8 c).toArray, .int .i64 cut0] w fun v w' => v = .bool true ∧ Below w.heap.size w w' := by
  refine callsR Try.func5 rfl rfl (by kernel_rfl) rfl ?_
  have hw := Below.refl w.heap.size w
  refine rk_seq ?_
  refine rk_region ?_
  refine wl_boxg _ rfl (by rfl) ?_
  rintro g4 w4 f4 b4 i4 i4_1
  have s4 := b4.size
  replace hw := hw.trans (b4.mono hw.size)
  refine wl_p (fun _ => o_assign rfl) ?_
  refine wl_nil ?_
  refine rk_seq ?_
  refine rk_seq ?_
  refine rk_region ?_
  refine wl_call rfl (C_lives08 _) ?_
  rintro v19 w19 ⟨rfl, b19⟩
  have s19 := b19.size
  replace hw := hw.trans (b19.mono hw.size)
  replace f4 := f4.u b19
  refine wl_p (fun _ => o_not rfl) ?_
  refine wl_nil ?_
  refine rk_false rfl ?_
  refine rk_skip ?_
  refine rk_seq ?_
  refine rk_seq ?_
  refine rk_region ?_
  refine wl_p (fun _ => o_move rfl) ?_
  refine wl_call rfl (C_lightRec _ (hL.u hw) rfl (by omega)) ?_
  rintro v22 w22 ⟨b22, ⟨rfl, ⟨i22, b22_1⟩⟩⟩
  have s22 := b22_1.size
  replace hw := hw.trans (b22_1.mono hw.size)
  replace f4 := f4.u b22_1
  refine wl_p (fun _ => o_not rfl) ?_
  refine wl_nil ?_
  cases b22 with
  | false =>
    refine rk_true rfl ?_
    refine rk_seq ?_
    refine rk_region ?_
    refine wl_p (fun _ => o_assign rfl) ?_
    refine wl_nil ?_
    refine ret1 rfl rfl ?_
    exact ⟨rfl, hw⟩
  | true =>
    have hlight : lightR L := (show true = true → lightR L by assumption) rfl
    refine rk_false rfl ?_
    refine rk_skip ?_
    refine rk_seq ?_
    refine rk_region ?_
    refine wl_p (fun _ => o_assign rfl) ?_
    refine wl_nil ?_
    refine rk_seq ?_
    refine rk_region ?_
    refine wl_p (fun _ => o_assign rfl) ?_
    refine wl_nil ?_
    refine rk_seq ?_
    refine rk_drawo (id := 7) (none) [0, 0, 2, 1, 15] [0, 0, 2, 1, 15] 5 1 [1] [(.s, 1), (.f 2 5 1, 4)] (by kernel_rfl) (by kernel_rfl) (by kernel_rfl) (by kernel_rfl) (by kernel_rfl) ?_
    dsimp only [inOrder, nthOp]
    replace hw := hw.drew
    replace f4 := f4.d
    refine wl_s (fun _ hk => (o_ldBa Try.isAgg23 Try.sizeOf23 rfl (f4.u (below_of_grown_none hk)) hc)) ?_
    have hg4 := f4.lt
    have hll := hlight.1
    refine wl_conc [⟨0, [(.p, 3)], [9, 24], [], fun vs w' lo hi => ∃ (A24 : Option Addr), vs = [.slice A24 1 1, .slice A24 1 1] ∧ OwnZ w' lo hi A24 1 [0]⟩, ⟨2, [], [26], [], fun vs w' lo hi => ∃ (A26 : Option Addr), vs = [.slice A26 1 1] ∧ OwnDH w' lo hi A26 1 [⟨c, hc⟩]⟩] [0, 1] [0, 0, 2, 1, 15] [0, 0, 2, 1, 15] [4] [(.p, 4)] (by kernel_rfl) (by kernel_rfl) (by kernel_rfl) (by kernel_rfl) ⟨fun _ _ _ _ _ h hb => by obtain ⟨A24, e0, g0⟩ := h; exact ⟨A24, e0, g0.u hb⟩, fun _ _ _ _ _ h hb => by obtain ⟨A26, e0, g0⟩ := h; exact ⟨A26, e0, g0.u hb⟩, trivial⟩ ⟨?_, ?_, trivial⟩ ?_
    · intro wI hbI fo T T2 n2
      intro hk
      dsimp only [Item.idx, inOrder, nthOp, List.map, List.zip_cons_cons, List.zip_nil_right, List.cons_append, List.nil_append]
      have shbI := hbI.size
      simp only [drew_size] at shbI
      replace hw := hw.trans (hbI.mono hw.size)
      replace f4 := f4.u hbI
      have hw1 := Below.refl wI.heap.size wI
      refine wl_litZH [0] (by rfl) rfl rfl (by rfl) (by rfl) (by rfl) ?_
      rintro A24 w24 f24 b24
      have qf24 := f24.cap
      have s24 := b24.size
      replace hw := hw.trans (b24.mono hw.size)
      replace hw1 := hw1.trans (b24.mono hw1.size)
      replace f4 := f4.u b24
      refine wl_p (fun _ => o_assign rfl) ?_
      exact hk [_, _] _ ⟨_, rfl, f24⟩ hw1
    · intro wI hbI fo T T2 n2
      intro hk
      dsimp only [Item.idx, inOrder, nthOp, List.map, List.zip_cons_cons, List.zip_nil_right, List.cons_append, List.nil_append]
      have shbI := hbI.size
      simp only [drew_size] at shbI
      replace hw := hw.trans (hbI.mono hw.size)
      replace f4 := f4.u hbI
      have hw1 := Below.refl wI.heap.size wI
      refine wl_litD1 (by rfl) rfl hc (by rfl) ?_
      rintro A26 w26 f26 b26
      have qf26 := f26.cap
      have s26 := b26.size
      replace hw := hw.trans (b26.mono hw.size)
      replace hw1 := hw1.trans (b26.mono hw1.size)
      replace f4 := f4.u b26
      exact hk [_] _ ⟨_, rfl, f26⟩ hw1
    intro wE hbE
    rintro _ lo0 hi0 ⟨A24, rfl, f24⟩ ql0 qm0 qh0 -
    rintro _ lo1 hi1 ⟨A26, rfl, f26⟩ ql1 qm1 qh1 ⟨qa1_0, -⟩
    try dsimp only at ql0 qm0 qh0  ql1 qm1 qh1 qa1_0
    try simp only [drew_size] at ql0 qm0 qh0  ql1 qm1 qh1 qa1_0
    dsimp only [given, Item.idx, inOrder, nthOp, List.map, List.zip_cons_cons, List.zip_nil_right]
    have shbE := hbE.size
    simp only [drew_size] at shbE
    replace hw := hw.trans (hbE.mono hw.size)
    replace f4 := f4.u hbE
    refine wl_p (fun _ => o_assign rfl) ?_
    refine wl_nild ?_
    refine rk_seq ?_
    refine rk_seq ?_
    refine rk_region ?_
    refine wl_p (fun _ => o_assign rfl) ?_
    refine wl_nil ?_
    refine rk_block ?_
    have hll := hlight.1
    refine rk_joinf (fun fb fr W => ∃ (A7 A8 A9 A10 : Option Addr) (c7 c8 c9 c10 : Nat) (b : By) (G : List Rc) (E : List Int) (H : List Dg), fr = [(10, .slice A10 H.length c10), (9, .slice A9 E.length c9), (8, .slice A8 G.length c8), (7, .slice A7 b.length c7)] ++ fb.drop 8 ∧ G = goodR L ∧ b = bytesAll c G ∧ E = endsR c G ∧ H = chainsR c hc G ∧ OwnH W w22.heap.size W.heap.size A7 c7 b ∧ OwnRecW W w w22.heap.size W.heap.size A8 c8 G ∧ OwnZ W w22.heap.size W.heap.size A9 c9 E ∧ OwnDH W w22.heap.size W.heap.size A10 c10 H ∧ Blk W g4 23 (B8 c) ∧ w22.heap.size ≤ W.heap.size ∧ Below w.heap.size w W) ?_ (fun ks hj => ?_)
    rotate_left
    · refine rk_loopf (fun fb m fr W => ∃ (i : Nat) (v : Int) (A7 A8 A9 A10 : Option Addr) (c7 c8 c9 c10 : Nat) (b : By) (G : List Rc) (E : List Int) (H : List Dg), fr = [(11, .int .i64 v), (10, .slice A10 H.length c10), (9, .slice A9 E.length c9), (8, .slice A8 G.length c8), (7, .slice A7 b.length c7)] ++ fb.drop 8 ∧ v = i ∧ i ≤ L.length ∧ m = L.length - i ∧ G = goodR (L.take i) ∧ b = bytesAll c G ∧ E = endsR c G ∧ H = chainsR c hc G ∧ OwnH W w22.heap.size W.heap.size A7 c7 b ∧ OwnRecW W w w22.heap.size W.heap.size A8 c8 G ∧ OwnZ W w22.heap.size W.heap.size A9 c9 E ∧ OwnDH W w22.heap.size W.heap.size A10 c10 H ∧ Blk W g4 23 (B8 c) ∧ w22.heap.size ≤ W.heap.size ∧ Below w.heap.size w W) (n := L.length) (Fr.le_of (by kernel_rfl) (by kernel_rfl) (by repeat' constructor)) ⟨0, _, none, none, A24, A26, 0, 0, 1, 1, [], [], [0], [⟨c, hc⟩], rfl, rfl, by omega, rfl, by simp [goodR], rfl, rfl, rfl, OwnH.nil_, OwnRecW.nil_, RowH.base f24 (by omega) (by omega), f26.base (by omega) (by omega), f4, by omega, hw⟩ ?_
      clear hw f24 f26 f4
      rintro m fr W ⟨i, v, A7, A8, A9, A10, c7, c8, c9, c10, b, G, E, H, rfl, rfl, hi, rfl, hG, hb, hE, hH, f7, f8, f9, f10, f4, hsW, hw⟩
      have hGl : G.length ≤ 40 := by rw [hG]; have := goodR_len L i; omega
      have hbl : b.length ≤ 328400 := by
        have h1 := bytesAll_le 40 c G (by rw [hG]; exact goodR_ok) hGl
        rw [← hb] at h1; omega
      have hEl : E.length = G.length + 1 := by rw [hE, endsR_len]
      have hHl : H.length = G.length + 1 := by rw [hH, chainsR_len]
      first | refine rk_frame (by simp only [List.cons_append, List.nil_append, List.drop_succ_cons, List.drop_zero]; rfl) ?_ | refine wl_frame (by simp only [List.cons_append, List.nil_append, List.drop_succ_cons, List.drop_zero]; rfl) ?_
      refine rk_seq ?_
      refine rk_seq ?_
      refine rk_region ?_
      refine wl_p (fun _ => o_move rfl) ?_
      refine wl_p (fun _ => o_move rfl) ?_
      refine wl_p (fun _ => o_len (t := 42) Try.underlying42 rfl) ?_
      refine wl_p (fun _ => o_lt rfl rfl) ?_
      refine wl_nil ?_
      refine rk_if rfl (fun h30 => ?_) (fun h30 => ?_)
      · have hil : i < L.length := by omega
        have hpl := hlight.2 _ (List.getElem_mem hil)
        have hgs := goodR_succ L hil
        obtain ⟨ch, hch⟩ : ∃ ch, chainAll c G = ch := ⟨_, rfl⟩
        have hHg : H[H.length - 1]'(by omega) = ⟨ch, by rw [← hch]; exact chainAll_len hc _⟩ := by
          subst hE hH
          rw [chainsR_get]
          refine Subtype.ext ?_
          show chainAll c (List.take _ G) = ch
          rw [List.take_of_length_le (by rw [chainsR_len]; omega)]; exact hch
        have hch32 : ch.length = 32 := by rw [← hch]; exact chainAll_len hc _
        by_cases hO : OkR L[i]
        · rw [if_pos hO] at hgs
          obtain ⟨bs, hbs0⟩ : ∃ bs, bytesR ch L[i] = bs := ⟨_, rfl⟩
          obtain ⟨e, he⟩ : ∃ e, nextB ch L[i] = e := ⟨_, rfl⟩
          have he32 : e.length = 32 := by rw [← he]; exact nextB_len _ _
          have hz2 : (bodyB L[i]).length + 8 = bs.length := by rw [← hbs0, bytesR_len]
          refine rk_skip ?_
          refine rk_seq ?_
          refine rk_block ?_
          refine rk_seq ?_
          refine rk_drawo (id := 11) (none) [0, 0, 2, 4, 9, 16, 0, 0, 192, 256, 544, 1024, 2048, 2048, 2048, 0, 40959, 114687, 262143] [0, 0, 2, 6, 15, 31, 0, 0, 192, 448, 1023, 2047, 4095, 4095, 4095, 0, 40959, 114687, 262143] 164864 32768 [0, 1, 2, 3, 4, 5, 6, 7, 8, 9] [(.p, 0), (.p, 1), (.p, 2), (.p, 3), (.p, 4), (.s, 5), (.p, 6), (.p, 7), (.p, 8), (.s, 9), (.f 1023 164864 32768, 9)] (by kernel_rfl) (by kernel_rfl) (by kernel_rfl) (by kernel_rfl) (by kernel_rfl) ?_
          dsimp only [inOrder, nthOp]
          replace hw := hw.drew
          replace f4 := f4.d
          replace f10 := f10.d
          replace f9 := f9.d
          replace f8 := f8.d
          replace f7 := f7.d
          refine wl_p (fun _ => o_move rfl) ?_
          refine wl_p (fun _ => o_move rfl) ?_
          refine wl_p (fun _ => o_len (t := 45) Try.underlying45 rfl) ?_
          refine wl_p (fun _ => o_sub rfl rfl (by omega) (by omega)) ?_
          refine wl_p (fun _ => (o_iaddrA (H.length - 1) Try.underlying45 Try.sizeOf23 rfl rfl (by omega) (Reads.some_ f10.to_Reads (by decide) (by omega)) (by omega))) ?_
          refine wl_s (fun _ hk => o_loadDR (j := H.length - 1) (L := H) rfl (f10.u (below_of_grown_none hk)).to_RD (by omega)) ?_
          rw [hHg]
          refine wl_p (fun _ => o_move rfl) ?_
          refine wl_p (fun _ => o_move rfl) ?_
          refine wl_p (fun _ => (o_iaddrA (i) Try.underlying42 Try.sizeOf31 rfl rfl rfl (hL.some_ (by omega)) (by omega))) ?_
          refine wl_ldRecS rfl hL (fun _ hk => hw.trans ((below_of_grown_none hk).mono hw.size)) (by omega) ?_
          rintro A143 c143 f43 i43 i43_1
          refine wl_conc [⟨10, [(.p, 11), (.p, 12), (.p, 13), (.p, 14)], [47, 46, 45, 33, 44], [], fun vs w' lo hi => ∃ (A44 : Option Addr) (c44 : Nat) (u33 u44 : Value), vs = [.int .i64 0, .agg (B8 e).toArray, .slice A44 bs.length c44, u33, u44] ∧ OwnH w' lo hi A44 c44 bs⟩, ⟨15, [], [13], [], fun vs w' lo hi => ∃ (g13 : Nat), vs = [.pointer (some ⟨g13, 0, none⟩)] ∧ Blk w' g13 23 (B8 nul32) ∧ lo ≤ g13 ∧ g13 < hi⟩] [0, 1] [0, 0, 2, 4, 9, 16, 0, 0, 192, 256, 544, 1024, 2048, 2048, 2048, 0, 40959, 114687, 262143] [0, 0, 2, 6, 15, 31, 0, 0, 192, 448, 1023, 2047, 4095, 4095, 4095, 0, 40959, 114687, 262143] [16, 17, 18] [(.p, 16), (.l, 17), (.p, 18)] (by kernel_rfl) (by kernel_rfl) (by kernel_rfl) (by kernel_rfl) ⟨fun _ _ _ _ _ h hb => by obtain ⟨A44, c44, u33, u44, e0, g0⟩ := h; exact ⟨A44, c44, u33, u44, e0, g0.u hb⟩, fun _ _ _ _ _ h hb => by obtain ⟨g13, e0, g0, g1, g2⟩ := h; exact ⟨g13, e0, g0.u hb, g1, g2⟩, trivial⟩ ⟨?_, ?_, trivial⟩ ?_
          · intro wI hbI fo T T2 n2
            intro hk
            dsimp only [Item.idx, inOrder, nthOp, List.map, List.zip_cons_cons, List.zip_nil_right, List.cons_append, List.nil_append]
            have shbI := hbI.size
            simp only [drew_size] at shbI
            replace hw := hw.trans (hbI.mono hw.size)
            replace f7 := f7.u hbI
            replace f8 := f8.u hbI
            replace f9 := f9.u hbI
            replace f10 := f10.u hbI
            replace f4 := f4.u hbI
            have hw1 := Below.refl wI.heap.size wI
            refine wl_call rfl (C_RecBytesOk _ (by rfl) (f43.u hw) (by omega) hbs0 he rfl (by omega) (by omega)) ?_
            rintro v44 w44 ⟨A44, ⟨c44, ⟨rfl, ⟨f44, b44⟩⟩⟩⟩
            have qf44 := f44.cap
            have s44 := b44.size
            replace hw := hw.trans (b44.mono hw.size)
            replace hw1 := hw1.trans (b44.mono hw1.size)
            replace f4 := f4.u b44
            replace f10 := f10.u b44
            replace f9 := f9.u b44
            replace f8 := f8.u b44
            replace f7 := f7.u b44
            refine wl_p (fun _ => o_move rfl) ?_
            refine wl_p (fun _ => o_ext30 rfl) ?_
            refine wl_p (fun _ => o_ext31 rfl) ?_
            refine wl_p (fun _ => o_ext32 rfl) ?_
            exact hk [_, _, _, _, _] _ ⟨_, _, _, _, rfl, f44⟩ hw1
          · intro wI hbI fo T T2 n2
            intro hk
            dsimp only [Item.idx, inOrder, nthOp, List.map, List.zip_cons_cons, List.zip_nil_right, List.cons_append, List.nil_append]
            have shbI := hbI.size
            simp only [drew_size] at shbI
            replace hw := hw.trans (hbI.mono hw.size)
            replace f7 := f7.u hbI
            replace f8 := f8.u hbI
            replace f9 := f9.u hbI
            replace f10 := f10.u hbI
            replace f4 := f4.u hbI
            have hw1 := Below.refl wI.heap.size wI
            refine wl_allocB Try.underlying23 Try.zeroValue23 (by rfl) ?_
            rintro g13 w13 f13 b13 i13 i13_1
            have s13 := b13.size
            replace hw := hw.trans (b13.mono hw.size)
            replace hw1 := hw1.trans (b13.mono hw1.size)
            replace f4 := f4.u b13
            replace f10 := f10.u b13
            replace f9 := f9.u b13
            replace f8 := f8.u b13
            replace f7 := f7.u b13
            exact hk [_] _ ⟨_, rfl, f13, by omega, by omega⟩ hw1
          intro wE hbE
          rintro _ lo0 hi0 ⟨A44, c44, u33, u44, rfl, f44⟩ ql0 qm0 qh0 -
          rintro _ lo1 hi1 ⟨g13, rfl, f13, f13_1, f13_2⟩ ql1 qm1 qh1 ⟨qa1_0, -⟩
          try dsimp only at ql0 qm0 qh0  ql1 qm1 qh1 qa1_0
          try simp only [drew_size] at ql0 qm0 qh0  ql1 qm1 qh1 qa1_0
          dsimp only [given, Item.idx, inOrder, nthOp, List.map, List.zip_cons_cons, List.zip_nil_right]
          have shbE_1 := hbE.size
          simp only [drew_size] at shbE_1
          replace hw := hw.trans (hbE.mono hw.size)
          replace f7 := f7.u hbE
          replace f8 := f8.u hbE
          replace f9 := f9.u hbE
          replace f10 := f10.u hbE
          replace f4 := f4.u hbE
          refine wl_p (fun _ => o_assign rfl) ?_
          refine wl_stBa Try.sizeOf23 rfl f13 rfl he32 (by rfl) ?_
          rintro w_1 f g e_1
          have s := g.size
          replace hw := hw.trans (below_of_grownBy g.g hw.size (by omega))
          replace f4 := f4.k g.g (ap_some (by omega))
          replace f10 := f10.k g.g (ap_some (by omega))
          replace f9 := f9.k g.g (ap_some (by omega))
          replace f8 := f8.y g (by decide)
          replace f7 := f7.k g.g (ap_some (by omega))
          replace f44 := f44.k g.g (ap_some (by omega))
          clear f13
          refine wl_p (fun _ => o_assign rfl) ?_
          refine wl_nild ?_
          refine rk_seq ?_
          refine rk_seq ?_
          refine rk_region ?_
          refine wl_p (fun _ => o_move rfl) ?_
          refine wl_p (fun _ => o_ne rfl rfl) ?_
          refine wl_nil ?_
          refine rk_false rfl ?_
          refine rk_skip ?_
          refine rk_seq ?_
          refine rk_seq ?_
          refine rk_draw (id := 15) (none) [0, 1, 0, 0, 12, 16, 32, 66, 192, 256, 256, 256, 2304, 4352, 9472, 16640, 256, 256, 196864, 262400, 557312, 1049344, 2097408] [0, 1, 0, 0, 12, 28, 60, 127, 255, 511, 511, 511, 2559, 6655, 15871, 32255, 511, 511, 197119, 459263, 1048063, 2097151, 4194303] 1048640 1048576 [(.p, 0), (.p, 1), (.p, 2), (.p, 3), (.p, 4), (.r, 5), (.l, 6), (.p, 7), (.p, 8), (.s, 9), (.p, 10), (.p, 11), (.p, 12), (.p, 13), (.p, 14), (.r, 15), (.p, 16), (.p, 17), (.p, 18), (.r, 19), (.c, 20), (.p, 21), (.p, 22)] (by kernel_rfl) (by kernel_rfl) (by kernel_rfl) (by kernel_rfl) (by kernel_rfl) ?_
          replace hw := hw.drew
          replace f44 := f44.d
          replace f7 := f7.d
          replace f8 := f8.d
          replace f9 := f9.d
          replace f10 := f10.d
          replace f4 := f4.d
          replace f := f.d
          refine wl_p (fun _ => o_move rfl) ?_
          refine wl_p (fun _ => o_len (t := 26) Try.underlying26 rfl) ?_
          refine wl_p (fun _ => o_move rfl) ?_
          refine wl_p (fun _ => o_move rfl) ?_
          refine wl_p (fun _ => (o_iaddrA (i) Try.underlying42 Try.sizeOf31 rfl rfl rfl (hL.some_ (by omega)) (by omega))) ?_
          refine wl_ldRec rfl hL hw (by omega) ?_
          rintro A167 c167 f67 i67 i67_1
          refine wl_call rfl (C_SizeOk _ (f67.u hw) (by rfl) hz2 (by omega) rfl (by omega)) ?_
          rintro v68 w68 ⟨rfl, b68⟩
          simp only [drew_size] at b68
          have s68 := b68.size
          simp only [drew_size] at s68
          replace hw := hw.trans (b68.mono hw.size)
          replace f := f.u b68
          replace f4 := f4.u b68
          replace f10 := f10.u b68
          replace f9 := f9.u b68
          replace f8 := f8.u b68
          replace f7 := f7.u b68
          replace f44 := f44.u b68
          refine wl_p (fun _ => o_ne rfl rfl) ?_
          refine wl_p (fun _ => o_move rfl) ?_
          refine wl_know 70 false rfl (decide_eq_false (by omega)) ?_
          refine wl_s (fun _ hk => (o_ldBa Try.isAgg23 Try.sizeOf23 rfl (f.u (below_of_grown_none hk)) he32)) ?_
          refine wl_p (fun _ => o_move rfl) ?_
          refine wl_p (fun _ => o_move rfl) ?_
          refine wl_p (fun _ => o_len (t := 45) Try.underlying45 rfl) ?_
          refine wl_p (fun _ => o_sub rfl rfl (by omega) (by omega)) ?_
          refine wl_p (fun _ => (o_iaddrA (H.length - 1) Try.underlying45 Try.sizeOf23 rfl rfl (by omega) (Reads.some_ f10.to_Reads (by decide) (by omega)) (by omega))) ?_
          refine wl_r (o_loadDR rfl f10.to_RD (by omega)) ?_
          refine wl_p (fun _ => o_move rfl) ?_
          refine wl_p (fun _ => o_move rfl) ?_
          refine wl_p (fun _ => (o_iaddrA (i) Try.underlying42 Try.sizeOf31 rfl rfl rfl (hL.some_ (by omega)) (by omega))) ?_
          refine wl_ldRec rfl hL hw (by omega) ?_
          rintro A181 c181 f81 i81 i81_1
          rw [hHg]
          refine wl_call rfl (C_Next _ (f81.u hw) rfl (by omega) (by omega) he) ?_ (hq := .inr fun _ _ h => grown_of_below h.2 _)
          rintro v82 w82 ⟨rfl, b82⟩
          have s82 := b82.size
          replace hw := hw.trans (b82.mono hw.size)
          replace f44 := f44.u b82
          replace f7 := f7.u b82
          replace f8 := f8.u b82
          replace f9 := f9.u b82
          replace f10 := f10.u b82
          replace f4 := f4.u b82
          replace f := f.u b82
          refine wl_p (fun _ => (o_neD32 rfl rfl he32 he32)) ?_
          refine wl_p (fun _ => o_pick_f rfl rfl) ?_
          refine wl_nild ?_
          refine rk_cond rfl (fun h84 => by simp at h84) (fun h84 => ?_)
          refine rk_skip ?_
          refine rk_seq ?_
          have hlt := f7.rng
          refine rk_drawo (id := 17) ((blk A7)) [0, 0, 3, 0, 0, 0, 48, 64, 128, 268, 519, 2047] [0, 0, 3, 0, 0, 0, 48, 112, 240, 511, 1023, 2047] 772 4 [0, 1, 3, 4, 5, 6, 7] [(.p, 0), (.p, 1), (.p, 3), (.p, 4), (.p, 5), (.p, 6), (.s, 7), (.f 251 772 4, 5)] (by kernel_rfl) (by kernel_rfl) (by kernel_rfl) (by kernel_rfl) (by kernel_rfl) ?_; dsimp only [inOrder, nthOp]
          replace f := f.d
          replace f7 := f7.d
          replace f8 := f8.d
          replace f9 := f9.d
          replace f10 := f10.d
          replace f4 := f4.d
          replace f44 := f44.d
          replace hw := hw.drew
          refine wl_p (fun _ => o_move rfl) ?_
          refine wl_p (fun _ => o_move rfl) ?_
          refine wl_p (fun _ => o_move rfl) ?_
          refine wl_p (fun _ => o_move rfl) ?_
          refine wl_p (fun _ => o_move rfl) ?_
          refine wl_p (fun _ => (o_iaddrA (i) Try.underlying42 Try.sizeOf31 rfl rfl rfl (hL.some_ (by omega)) (by omega))) ?_
          refine wl_ldRecS rfl hL (fun _ hk => hw.grown hk hw.size (fun k e => by have := hlt k e; have := hw.size; omega)) hil ?_
          rintro A192 c192 f92 i92 i92_1
          have hbs : bs.length ≤ 8210 := by
            have h1 := bodyB_le (r := L[i]) (n := 8192) hO.2
            omega
          have hg13 := f.lt
          refine wl_forkf (m := 251) (L := 772) (C := 4) (n := 5) (k1 := 2) (k2 := 8) (fun fb fr V => ∃ (A87 A93 : Option Addr) (c87 : Nat), fr = [(87, .slice A87 (b ++ bs).length c87), (93, .slice A93 1 1)] ++ fb ∧ OwnH V w22.heap.size V.heap.size A87 c87 (b ++ bs) ∧ OwnRecW V w w22.heap.size V.heap.size A93 1 [L[i]] ∧ OwnRecW V w w22.heap.size W.heap.size A8 c8 G ∧ OwnZ V w22.heap.size W.heap.size A9 c9 E ∧ OwnDH V w22.heap.size W.heap.size A10 c10 H ∧ Blk V g13 23 (B8 e) ∧ Blk V g4 23 (B8 c) ∧ w82.heap.size ≤ V.heap.size ∧ Below w.heap.size w V) [0, 0, 3, 0, 0, 0, 48, 64, 128, 268, 519, 2047] [0, 0, 3, 0, 0, 0, 48, 112, 240, 511, 1023, 2047] [2, 8, 9, 10, 11] [8, 2, 9, 10, 11] [9, 10, 11] [(.l, 8), (.l, 9), (.p, 10), (.p, 11)] [(.c, 2), (.l, 9), (.p, 10), (.p, 11)] [(.l, 9), (.p, 10), (.p, 11)] (by kernel_rfl) (by kernel_rfl) (by kernel_rfl) (by kernel_rfl) (by kernel_rfl) ?_ (fun hj => ?_) (fun hj => ?_) <;> dsimp only [inOrder, nthOp]
          · clear hw f f4 f7 f8 f9 f10 f44
            rintro fr V ⟨A87, A93, c87, rfl, f87, f93, f8, f9, f10, f13, f4, hsV, hw⟩
            first | refine rk_frame (by simp only [List.cons_append, List.nil_append, List.drop_succ_cons, List.drop_zero]; rfl) ?_ | refine wl_frame (by simp only [List.cons_append, List.nil_append, List.drop_succ_cons, List.drop_zero]; rfl) ?_
            refine wl_appRecW rfl f8 rfl rfl f93.to_RRecWT (by rfl) (by simp; omega) (by omega) ?_
            rintro A94 c94 w94 f94 g94 b94
            have qf94 := f94.cap
            have s94 := g94.size
            replace hw := hw.trans (b94.mono (by omega))
            replace f4 := f4.y g94 (by decide)
            replace f13 := f13.y g94 (by decide)
            replace f10 := f10.y g94 (by decide)
            replace f9 := f9.y g94 (by decide)
            replace f87 := f87.y g94 (by decide)
            clear f8
            clear f93
            refine wl_p (fun _ => o_assign rfl) ?_
            refine wl_p (fun _ => o_assign rfl) ?_
            refine wl_nild ?_
            refine rk_drawo (id := 18) ((blk A9)) [0, 0, 2, 4, 9, 0, 0, 64, 176, 287, 1023] [0, 0, 2, 6, 15, 0, 0, 64, 255, 511, 1023] 408 24 [0, 1, 2, 5, 6] [(.p, 0), (.p, 1), (.p, 2), (.p, 5), (.s, 6), (.f 103 408 24, 6)] (by kernel_rfl) (by kernel_rfl) (by kernel_rfl) (by kernel_rfl) (by kernel_rfl) ?_; dsimp only [inOrder, nthOp]
            replace f87 := f87.d
            replace f94 := f94.d
            replace f9 := f9.d
            replace f10 := f10.d
            replace f13 := f13.d
            replace f4 := f4.d
            replace hw := hw.drew
            refine wl_p (fun _ => o_move rfl) ?_
            refine wl_p (fun _ => o_move rfl) ?_
            refine wl_p (fun _ => o_len (t := 26) Try.underlying26 rfl) ?_
            refine wl_p (fun _ => o_move rfl) ?_
            refine wl_s (fun _ hk => (o_ldBa Try.isAgg23 Try.sizeOf23 rfl (f13.k hk (f9.ap (by omega))) he32)) ?_
            obtain ⟨z, hz⟩ : ∃ z : Int, ((b ++ bs).length : Int) = z := ⟨_, rfl⟩
            rw [hz]
            have hbs2 : (b ++ bs).length ≤ 400000 := by rw [List.length_append]; omega
            refine wl_forkf (m := 103) (L := 408) (C := 24) (n := 6) (k1 := 3) (k2 := 7) (fun fb fr U => ∃ (A99 A102 : Option Addr) (c99 : Nat), fr = [(99, .slice A99 (E ++ [z]).length c99), (102, .slice A102 1 1)] ++ fb ∧ OwnZ U w22.heap.size U.heap.size A99 c99 (E ++ [z]) ∧ OwnDH U w22.heap.size U.heap.size A102 1 [⟨e, he32⟩] ∧ OwnH U w22.heap.size U.heap.size A87 c87 (b ++ bs) ∧ OwnRecW U w w22.heap.size U.heap.size A94 c94 (G ++ [L[i]]) ∧ OwnDH U w22.heap.size W.heap.size A10 c10 H ∧ Blk U g4 23 (B8 c) ∧ w22.heap.size ≤ U.heap.size ∧ Below w.heap.size w U) [0, 0, 2, 4, 9, 0, 0, 64, 176, 287, 1023] [0, 0, 2, 6, 15, 0, 0, 64, 255, 511, 1023] [3] [7, 3, 4, 8, 9, 10] [8, 9, 10] [(.f 111 408 24, 5)] [(.c, 3), (.c, 4), (.l, 8), (.p, 9), (.p, 10)] [(.l, 8), (.p, 9), (.p, 10)] (by kernel_rfl) (by kernel_rfl) (by kernel_rfl) (by kernel_rfl) (by kernel_rfl) ?_ (fun hj => ?_) (fun hj => ?_) <;> dsimp only [inOrder, nthOp]
            · clear hw f9 f10 f13 f87 f94 f4
              rintro fr U ⟨A99, A102, c99, rfl, f99, f102, f87, f94, f10, f4, hsU, hw⟩
              first | refine rk_frame (by simp only [List.cons_append, List.nil_append, List.drop_succ_cons, List.drop_zero]; rfl) ?_ | refine wl_frame (by simp only [List.cons_append, List.nil_append, List.drop_succ_cons, List.drop_zero]; rfl) ?_
              refine wl_appDH rfl f10 rfl rfl f102.to_RD (by rfl) (by simp; omega) (by omega) ?_
              rintro A103 c103 w103 f103 g103 b103 i103
              have qf103 := f103.cap
              have s103 := g103.size
              replace hw := hw.trans (b103.mono (by omega))
              replace f4 := f4.k g103.g (f10.ap (by omega))
              replace f94 := f94.y g103 (by decide)
              replace f87 := f87.y g103 (by decide)
              replace f99 := f99.y g103 (by decide)
              clear f10
              clear f102
              refine wl_p (fun _ => o_assign rfl) ?_
              refine wl_p (fun _ => o_assign rfl) ?_
              refine wl_nild ?_
              refine rk_blk ?_
              refine rk_region ?_
              refine wl_p (fun _ => o_move rfl) ?_
              refine wl_p (fun _ => o_add rfl rfl (by omega) (by omega)) ?_
              refine wl_p (fun _ => o_assign rfl) ?_
              refine wl_nil ?_
              have eG : G ++ [L[i]] = goodR (L.take (i + 1)) := by rw [hgs, hG]
              have eb : b ++ bs = bytesAll c (G ++ [L[i]]) := by rw [bytesAll_append, ← hb, hch, bytesAll, bytesAll, List.append_nil, hbs0]
              have eE : E ++ [z] = endsR c (G ++ [L[i]]) := by rw [endsR_snoc, ← hE, ← eb, hz]
              have ec : chainAll c (G ++ [L[i]]) = e := by rw [chainAll_append, hch, ← he]; rfl
              have eH : H ++ [⟨e, he32⟩] = chainsR c hc (G ++ [L[i]]) := by
                rw [chainsR_snoc, ← hH]
                congr 2
                exact Subtype.ext ec.symm
              exact rk_againf (Fr.le_of (by kernel_rfl) (by kernel_rfl) (by repeat' constructor)) ⟨i + 1, (i : Int) + 1, A87, A94, A99, A103, c87, c94, c99, c103, b ++ bs, G ++ [L[i]], E ++ [z], H ++ [⟨e, he32⟩], rfl, by omega, by omega, rfl, eG, eb, eE, eH, f87.base (by omega) (by omega), f94.base (by omega) (by omega), f99.base (by omega) (by omega), f103.base (by omega) (by omega), f4, by omega, hw⟩ (by omega)
            · refine wl_litZH [z] (by rfl) rfl rfl (by rfl) (by rfl) (by rfl) ?_
              rintro A98 w98 f98 b98
              simp only [drew_size] at f98
              simp only [drew_size] at b98
              have qf98 := f98.cap
              have s98 := b98.size
              simp only [drew_size] at s98
              replace hw := hw.trans (b98.mono hw.size)
              replace f4 := f4.u b98
              replace f13 := f13.u b98
              replace f10 := f10.u b98
              replace f9 := f9.u b98
              replace f94 := f94.u b98
              replace f87 := f87.u b98
              refine wl_fork2j (m := 111) (L := 408) (C := 24) (n := 5) (k1 := 4) (k2 := 7) _ [0, 0, 2, 4, 9, 0, 0, 64, 176, 287, 1023] [0, 0, 2, 6, 15, 0, 0, 64, 255, 511, 1023] [4, 7, 8, 9, 10] [7, 4, 8, 9, 10] [8, 9, 10] [(.l, 7), (.l, 8), (.p, 9), (.p, 10)] [(.c, 4), (.l, 8), (.p, 9), (.p, 10)] [(.l, 8), (.p, 9), (.p, 10)] (by kernel_rfl) (by kernel_rfl) (by kernel_rfl) (by kernel_rfl) (by kernel_rfl) hj (fun hj => ?_) (fun hj => ?_) <;> dsimp only [inOrder, nthOp]
              · refine wl_appZ rfl f9 rfl rfl f98.to_RZ (by rfl) (by omega) (by omega) ?_ (hq := .inr (.inr rfl))
                rintro A99 c99 w99 f99 g99 b99 i99
                have qf99 := f99.cap
                have s99 := g99.size
                replace hw := hw.trans (b99.mono (by omega))
                replace f87 := f87.y g99 (by decide)
                replace f94 := f94.y g99 (by decide)
                replace f10 := f10.y g99 (by decide)
                replace f13 := f13.y g99 (by decide)
                replace f4 := f4.y g99 (by decide)
                replace f98 := f98.k g99.g (f9.ap (by omega))
                clear f9
                refine wl_litD1 (by rfl) rfl he32 (by rfl) ?_
                rintro A102 w102 f102 b102
                have qf102 := f102.cap
                have s102 := b102.size
                replace hw := hw.trans (b102.mono hw.size)
                replace f98 := f98.u b102
                replace f4 := f4.u b102
                replace f13 := f13.u b102
                replace f10 := f10.u b102
                replace f94 := f94.u b102
                replace f87 := f87.u b102
                replace f99 := f99.u b102
                exact wl_tof hj (Fr.le_of (by kernel_rfl) (by kernel_rfl) (by repeat' constructor)) ⟨A99, A102, c99, rfl, f99.base (by omega) (by omega), f102.base (by omega) (by omega), f87.base (by omega) (by omega), f94.base (by omega) (by omega), f10, f4, by omega, hw⟩
              · refine wl_litD1 (by rfl) rfl he32 (by rfl) ?_
                rintro A102 w102 f102 b102
                have qf102 := f102.cap
                have s102 := b102.size
                replace hw := hw.trans (b102.mono hw.size)
                replace f87 := f87.u b102
                replace f94 := f94.u b102
                replace f9 := f9.u b102
                replace f10 := f10.u b102
                replace f13 := f13.u b102
                replace f4 := f4.u b102
                replace f98 := f98.u b102
                refine wl_appZ rfl f9 rfl rfl f98.to_RZ (by rfl) (by omega) (by omega) ?_ (hq := .inr (.inr rfl))
                rintro A99 c99 w99 f99 g99 b99 i99
                have qf99 := f99.cap
                have s99 := g99.size
                replace hw := hw.trans (b99.mono (by omega))
                replace f98 := f98.k g99.g (f9.ap (by omega))
                replace f4 := f4.y g99 (by decide)
                replace f13 := f13.y g99 (by decide)
                replace f10 := f10.y g99 (by decide)
                replace f94 := f94.y g99 (by decide)
                replace f87 := f87.y g99 (by decide)
                replace f102 := f102.y g99 (by decide)
                clear f9
                exact wl_tof hj (Fr.le_of (by kernel_rfl) (by kernel_rfl) (by repeat' constructor)) ⟨A99, A102, c99, rfl, f99.base (by omega) (by omega), f102.base (by omega) (by omega), f87.base (by omega) (by omega), f94.base (by omega) (by omega), f10, f4, by omega, hw⟩
            · refine wl_litD1 (by rfl) rfl he32 (by rfl) ?_
              rintro A102 w102 f102 b102
              simp only [drew_size] at f102
              simp only [drew_size] at b102
              have qf102 := f102.cap
              have s102 := b102.size
              simp only [drew_size] at s102
              replace hw := hw.trans (b102.mono hw.size)
              replace f4 := f4.u b102
              replace f13 := f13.u b102
              replace f10 := f10.u b102
              replace f9 := f9.u b102
              replace f94 := f94.u b102
              replace f87 := f87.u b102
              refine wl_litZH [z] (by rfl) rfl rfl (by rfl) (by rfl) (by rfl) ?_
              rintro A98 w98 f98 b98
              have qf98 := f98.cap
              have s98 := b98.size
              replace hw := hw.trans (b98.mono hw.size)
              replace f87 := f87.u b98
              replace f94 := f94.u b98
              replace f9 := f9.u b98
              replace f10 := f10.u b98
              replace f13 := f13.u b98
              replace f4 := f4.u b98
              replace f102 := f102.u b98
              refine wl_appZ rfl f9 rfl rfl f98.to_RZ (by rfl) (by omega) (by omega) ?_ (hq := .inr (.inr rfl))
              rintro A99 c99 w99 f99 g99 b99 i99
              have qf99 := f99.cap
              have s99 := g99.size
              replace hw := hw.trans (b99.mono (by omega))
              replace f102 := f102.y g99 (by decide)
              replace f4 := f4.y g99 (by decide)
              replace f13 := f13.y g99 (by decide)
              replace f10 := f10.y g99 (by decide)
              replace f94 := f94.y g99 (by decide)
              replace f87 := f87.y g99 (by decide)
              replace f98 := f98.k g99.g (f9.ap (by omega))
              clear f9
              exact wl_tof hj (Fr.le_of (by kernel_rfl) (by kernel_rfl) (by repeat' constructor)) ⟨A99, A102, c99, rfl, f99.base (by omega) (by omega), f102.base (by omega) (by omega), f87.base (by omega) (by omega), f94.base (by omega) (by omega), f10, f4, by omega, hw⟩
          · refine wl_appB Try.u8 rfl f7 rfl rfl f44.to_Rd rfl (by omega) (by omega) ?_ (hq := .inr (.inr rfl))
            rintro A87 c87 w87 f87 g87 b87 i87
            simp only [drew_size] at i87
            have qf87 := f87.cap
            have s87 := g87.size
            simp only [drew_size] at s87
            replace hw := hw.trans (b87.mono (by omega))
            replace f44 := f44.k g87.g (f7.ap (by omega))
            replace f4 := f4.y g87 (by decide)
            replace f10 := f10.y g87 (by decide)
            replace f9 := f9.y g87 (by decide)
            replace f8 := f8.y g87 (by decide)
            replace f := f.y g87 (by decide)
            clear f7
            refine wl_litRecW (by rfl) rfl f92 rfl (by omega) (by omega) (by rfl) ?_
            rintro A93 w93 f93 b93
            have qf93 := f93.cap
            have s93 := b93.size
            replace hw := hw.trans (b93.mono hw.size)
            replace f := f.u b93
            replace f8 := f8.u b93
            replace f9 := f9.u b93
            replace f10 := f10.u b93
            replace f4 := f4.u b93
            replace f44 := f44.u b93
            replace f87 := f87.u b93
            exact wl_tof hj (Fr.le_of (by kernel_rfl) (by kernel_rfl) (by repeat' constructor)) ⟨A87, A93, c87, rfl, f87.base (by omega) (by omega), f93.base (by omega) (by omega), f8, f9, f10, f, f4, by omega, hw⟩
          · refine wl_litRecW (by rfl) rfl f92 rfl (by omega) (by omega) (by rfl) ?_
            rintro A93 w93 f93 b93
            simp only [drew_size] at f93
            simp only [drew_size] at b93
            have qf93 := f93.cap
            have s93 := b93.size
            simp only [drew_size] at s93
            replace hw := hw.trans (b93.mono hw.size)
            replace f44 := f44.u b93
            replace f4 := f4.u b93
            replace f10 := f10.u b93
            replace f9 := f9.u b93
            replace f8 := f8.u b93
            replace f7 := f7.u b93
            replace f := f.u b93
            refine wl_appB Try.u8 rfl f7 rfl rfl f44.to_Rd rfl (by omega) (by omega) ?_ (hq := .inr (.inr rfl))
            rintro A87 c87 w87 f87 g87 b87 i87
            have qf87 := f87.cap
            have s87 := g87.size
            replace hw := hw.trans (b87.mono (by omega))
            replace f := f.y g87 (by decide)
            replace f8 := f8.y g87 (by decide)
            replace f9 := f9.y g87 (by decide)
            replace f10 := f10.y g87 (by decide)
            replace f4 := f4.y g87 (by decide)
            replace f44 := f44.k g87.g (f7.ap (by omega))
            replace f93 := f93.y g87 (by decide)
            clear f7
            exact wl_tof hj (Fr.le_of (by kernel_rfl) (by kernel_rfl) (by repeat' constructor)) ⟨A87, A93, c87, rfl, f87.base (by omega) (by omega), f93.base (by omega) (by omega), f8, f9, f10, f, f4, by omega, hw⟩
        · rw [if_neg hO, List.append_nil] at hgs
          refine rk_skip ?_
          refine rk_seq ?_
          refine rk_block ?_
          refine rk_seq ?_
          refine rk_drawo (id := 11) (none) [0, 0, 2, 4, 9, 16, 0, 0, 192, 256, 544, 1024, 2048, 2048, 2048, 0, 40959, 114687, 262143] [0, 0, 2, 6, 15, 31, 0, 0, 192, 448, 1023, 2047, 4095, 4095, 4095, 0, 40959, 114687, 262143] 164864 32768 [0, 1, 2, 3, 4, 5, 6, 7, 8, 9] [(.p, 0), (.p, 1), (.p, 2), (.p, 3), (.p, 4), (.s, 5), (.p, 6), (.p, 7), (.p, 8), (.s, 9), (.f 1023 164864 32768, 9)] (by kernel_rfl) (by kernel_rfl) (by kernel_rfl) (by kernel_rfl) (by kernel_rfl) ?_
          dsimp only [inOrder, nthOp]
          replace hw := hw.drew
          replace f4 := f4.d
          replace f10 := f10.d
          replace f9 := f9.d
          replace f8 := f8.d
          replace f7 := f7.d
          refine wl_p (fun _ => o_move rfl) ?_
          refine wl_p (fun _ => o_move rfl) ?_
          refine wl_p (fun _ => o_len (t := 45) Try.underlying45 rfl) ?_
          refine wl_p (fun _ => o_sub rfl rfl (by omega) (by omega)) ?_
          refine wl_p (fun _ => (o_iaddrA (H.length - 1) Try.underlying45 Try.sizeOf23 rfl rfl (by omega) (Reads.some_ f10.to_Reads (by decide) (by omega)) (by omega))) ?_
          refine wl_s (fun _ hk => o_loadDR (j := H.length - 1) (L := H) rfl (f10.u (below_of_grown_none hk)).to_RD (by omega)) ?_
          rw [hHg]
          refine wl_p (fun _ => o_move rfl) ?_
          refine wl_p (fun _ => o_move rfl) ?_
          refine wl_p (fun _ => (o_iaddrA (i) Try.underlying42 Try.sizeOf31 rfl rfl rfl (hL.some_ (by omega)) (by omega))) ?_
          refine wl_ldRecS rfl hL (fun _ hk => hw.trans ((below_of_grown_none hk).mono hw.size)) (by omega) ?_
          rintro A143 c143 f43 i43 i43_1
          refine wl_conc [⟨10, [(.p, 11), (.p, 12), (.p, 13), (.p, 14)], [47, 46, 45, 33, 44], [], fun vs w' lo hi => ∃ (A44 : Option Addr) (c44 : Nat) (e : By) (u33 u44 : Value), vs = [.int .i64 2, .agg (B8 e).toArray, .slice A44 0 c44, u33, u44] ∧ e.length = 32⟩, ⟨15, [], [13], [], fun vs w' lo hi => ∃ (g13 : Nat), vs = [.pointer (some ⟨g13, 0, none⟩)] ∧ Blk w' g13 23 (B8 nul32) ∧ lo ≤ g13 ∧ g13 < hi⟩] [0, 1] [0, 0, 2, 4, 9, 16, 0, 0, 192, 256, 544, 1024, 2048, 2048, 2048, 0, 40959, 114687, 262143] [0, 0, 2, 6, 15, 31, 0, 0, 192, 448, 1023, 2047, 4095, 4095, 4095, 0, 40959, 114687, 262143] [16, 17, 18] [(.p, 16), (.l, 17), (.p, 18)] (by kernel_rfl) (by kernel_rfl) (by kernel_rfl) (by kernel_rfl) ⟨fun _ _ _ _ _ h hb => by obtain ⟨A44, c44, e, u33, u44, e0, g0⟩ := h; exact ⟨A44, c44, e, u33, u44, e0, g0⟩, fun _ _ _ _ _ h hb => by obtain ⟨g13, e0, g0, g1, g2⟩ := h; exact ⟨g13, e0, g0.u hb, g1, g2⟩, trivial⟩ ⟨?_, ?_, trivial⟩ ?_
          · intro wI hbI fo T T2 n2
            intro hk
            dsimp only [Item.idx, inOrder, nthOp, List.map, List.zip_cons_cons, List.zip_nil_right, List.cons_append, List.nil_append]
            have shbI := hbI.size
            simp only [drew_size] at shbI
            replace hw := hw.trans (hbI.mono hw.size)
            replace f7 := f7.u hbI
            replace f8 := f8.u hbI
            replace f9 := f9.u hbI
            replace f10 := f10.u hbI
            replace f4 := f4.u hbI
            have hw1 := Below.refl wI.heap.size wI
            refine wl_call rfl (C_RecBytesBad _ (by rfl) (f43.u hw) (by omega) rfl (by omega) (by omega)) ?_
            rintro v44 w44 ⟨A44, ⟨c44, ⟨e44, ⟨rfl, ⟨f44, ⟨e44_1, b44⟩⟩⟩⟩⟩⟩
            have qf44 := f44.cap
            have s44 := b44.size
            replace hw := hw.trans (b44.mono hw.size)
            replace hw1 := hw1.trans (b44.mono hw1.size)
            replace f4 := f4.u b44
            replace f10 := f10.u b44
            replace f9 := f9.u b44
            replace f8 := f8.u b44
            replace f7 := f7.u b44
            refine wl_p (fun _ => o_move rfl) ?_
            refine wl_p (fun _ => o_ext30 rfl) ?_
            refine wl_p (fun _ => o_ext31 rfl) ?_
            refine wl_p (fun _ => o_ext32 rfl) ?_
            exact hk [_, _, _, _, _] _ ⟨_, _, _, _, _, rfl, by assumption⟩ hw1
          · intro wI hbI fo T T2 n2
            intro hk
            dsimp only [Item.idx, inOrder, nthOp, List.map, List.zip_cons_cons, List.zip_nil_right, List.cons_append, List.nil_append]
            have shbI := hbI.size
            simp only [drew_size] at shbI
            replace hw := hw.trans (hbI.mono hw.size)
            replace f7 := f7.u hbI
            replace f8 := f8.u hbI
            replace f9 := f9.u hbI
            replace f10 := f10.u hbI
            replace f4 := f4.u hbI
            have hw1 := Below.refl wI.heap.size wI
            refine wl_allocB Try.underlying23 Try.zeroValue23 (by rfl) ?_
            rintro g13 w13 f13 b13 i13 i13_1
            have s13 := b13.size
            replace hw := hw.trans (b13.mono hw.size)
            replace hw1 := hw1.trans (b13.mono hw1.size)
            replace f4 := f4.u b13
            replace f10 := f10.u b13
            replace f9 := f9.u b13
            replace f8 := f8.u b13
            replace f7 := f7.u b13
            exact hk [_] _ ⟨_, rfl, f13, by omega, by omega⟩ hw1
          intro wE hbE
          rintro _ lo0 hi0 ⟨A44, c44, e, u33, u44, rfl, f44⟩ ql0 qm0 qh0 -
          rintro _ lo1 hi1 ⟨g13, rfl, f13, f13_1, f13_2⟩ ql1 qm1 qh1 ⟨qa1_0, -⟩
          try dsimp only at ql0 qm0 qh0  ql1 qm1 qh1 qa1_0
          try simp only [drew_size] at ql0 qm0 qh0  ql1 qm1 qh1 qa1_0
          dsimp only [given, Item.idx, inOrder, nthOp, List.map, List.zip_cons_cons, List.zip_nil_right]
          have shbE_1 := hbE.size
          simp only [drew_size] at shbE_1
          replace hw := hw.trans (hbE.mono hw.size)
          replace f7 := f7.u hbE
          replace f8 := f8.u hbE
          replace f9 := f9.u hbE
          replace f10 := f10.u hbE
          replace f4 := f4.u hbE
          refine wl_p (fun _ => o_assign rfl) ?_
          refine wl_stBa Try.sizeOf23 rfl f13 rfl f44 (by rfl) ?_
          rintro w_1 f g e_1
          have s := g.size
          replace hw := hw.trans (below_of_grownBy g.g hw.size (by omega))
          replace f4 := f4.k g.g (ap_some (by omega))
          replace f10 := f10.k g.g (ap_some (by omega))
          replace f9 := f9.k g.g (ap_some (by omega))
          replace f8 := f8.y g (by decide)
          replace f7 := f7.k g.g (ap_some (by omega))
          clear f13
          refine wl_p (fun _ => o_assign rfl) ?_
          refine wl_nild ?_
          refine rk_seq ?_
          refine rk_seq ?_
          refine rk_region ?_
          refine wl_p (fun _ => o_move rfl) ?_
          refine wl_p (fun _ => o_ne rfl rfl) ?_
          refine wl_nil ?_
          refine rk_true rfl ?_
          refine rk_seq ?_
          refine rk_seq ?_
          refine rk_region ?_
          refine wl_p (fun _ => o_move rfl) ?_
          refine wl_p (fun _ => o_move rfl) ?_
          refine wl_p (fun _ => (o_iaddrA (i) Try.underlying42 Try.sizeOf31 rfl rfl rfl (hL.some_ (by omega)) (by omega))) ?_
          refine wl_ldRec rfl hL hw (by omega) ?_
          rintro A153 c153 f53 i53 i53_1
          refine wl_call rfl (C_CheckBad _ (by rfl) (by omega) (by rfl)) ?_
          rintro v54 w54 ⟨rfl, b54⟩
          have s54 := b54.size
          replace hw := hw.trans (b54.mono hw.size)
          replace f7 := f7.u b54
          replace f8 := f8.u b54
          replace f9 := f9.u b54
          replace f10 := f10.u b54
          replace f4 := f4.u b54
          replace f := f.u b54
          refine wl_p (fun _ => o_move rfl) ?_
          refine wl_p (fun _ => o_ne rfl rfl) ?_
          refine wl_p (fun _ => o_move rfl) ?_
          refine wl_p (fun _ => o_move rfl) ?_
          refine wl_p (fun _ => o_len (t := 26) Try.underlying26 rfl) ?_
          refine wl_p (fun _ => o_ne rfl rfl) ?_
          refine wl_p (fun _ => o_pick_f rfl rfl) ?_
          refine wl_nil ?_
          refine rk_false rfl ?_
          refine rk_skip ?_
          refine rk_exit rfl ?_
          refine rk_region ?_
          refine wl_p (fun _ => o_move rfl) ?_
          refine wl_p (fun _ => o_add rfl rfl (by omega) (by omega)) ?_
          refine wl_p (fun _ => o_assign rfl) ?_
          refine wl_nil ?_
          exact rk_againf (Fr.le_of (by kernel_rfl) (by kernel_rfl) (by repeat' constructor)) ⟨i + 1, (i : Int) + 1, A7, A8, A9, A10, c7, c8, c9, c10, b, G, E, H, rfl, by omega, by omega, rfl, by rw [hgs, hG], hb, hE, hH, f7.base (by omega) (by omega), f8.base (by omega) (by omega), f9.base (by omega) (by omega), f10.base (by omega) (by omega), f4, by omega, hw⟩ (by omega)
      · refine rk_exit rfl ?_
        obtain rfl : i = L.length := by omega
        rw [List.take_length] at hG
        exact rk_tof hj (Fr.le_of (by kernel_rfl) (by kernel_rfl) (by repeat' constructor)) ⟨A7, A8, A9, A10, c7, c8, c9, c10, b, G, E, H, rfl, hG, hb, hE, hH, f7, f8, f9, f10, f4, hsW, hw⟩
    clear hw f24 f26 f4
    rintro fr W ⟨A7, A8, A9, A10, c7, c8, c9, c10, b, G, E, H, rfl, hG, hb, hE, hH, f7, f8, f9, f10, f4, hsW, hw⟩
    have hGo : ∀ r ∈ G, OkR r := by rw [hG]; exact goodR_ok
    have hGl : G.length ≤ 40 := by rw [hG]; have := goodR_len L L.length; rw [List.take_length] at this; omega
    have hbl : b.length ≤ 328400 := by
      have h1 := bytesAll_le 40 c G hGo hGl
      rw [← hb] at h1; omega
    have hEl : E.length = G.length + 1 := by rw [hE, endsR_len]
    have hHl : H.length = G.length + 1 := by rw [hH, chainsR_len]
    have hEg : ∀ k (h : k < E.length), E[k] = ((bytesAll c (G.take k)).length : Int) := fun k h => by subst hE; exact endsR_get c G h
    have hpk := pick_range cut0 ((b.length : Int) + 1) (by omega)
    obtain ⟨cut, hcut⟩ : ∃ cut : Nat, pick cut0 ((b.length : Int) + 1) = (cut : Int) := ⟨(pick cut0 ((b.length : Int) + 1)).toNat, by omega⟩
    have wb : (Lit.int .i64 ((b.length : Int) + 1)).wf = true := i64_wf (by omega)
    first | refine rk_frame (by simp only [List.cons_append, List.nil_append, List.drop_succ_cons, List.drop_zero]; rfl) ?_ | refine wl_frame (by simp only [List.cons_append, List.nil_append, List.drop_succ_cons, List.drop_zero]; rfl) ?_
    refine rk_seq ?_
    refine rk_region ?_
    refine wl_p (fun _ => o_move rfl) ?_
    refine wl_p (fun _ => o_move rfl) ?_
    refine wl_p (fun _ => o_len (t := 26) Try.underlying26 rfl) ?_
    refine wl_p (fun _ => o_add rfl rfl (by omega) (by omega)) ?_
    refine wl_call rfl (C_PickR _ hcut wcut wb) ?_
    rintro v108 w108 ⟨rfl, b108⟩
    have s108 := b108.size
    replace hw := hw.trans (b108.mono hw.size)
    replace f4 := f4.u b108
    replace f10 := f10.u b108
    replace f9 := f9.u b108
    replace f8 := f8.u b108
    replace f7 := f7.u b108
    refine wl_p (fun _ => o_assign rfl) ?_
    refine wl_nil ?_
    refine rk_seq ?_
    refine rk_region ?_
    refine wl_p (fun _ => o_assign rfl) ?_
    refine wl_nil ?_
    refine rk_seq ?_
    refine rk_block ?_
    refine rk_joinf (fun fb fr V => ∃ (k : Nat) (v : Int), fr = [(15, .int .i64 v)] ++ fb.drop 1 ∧ v = k ∧ k ≤ G.length ∧ (bytesAll c (G.take k)).length ≤ cut ∧ (k = G.length ∨ k < G.length ∧ cut < (bytesAll c (G.take (k + 1))).length) ∧ V = w108) ?_ (fun ks hj => ?_)
    rotate_left
    · refine rk_loopf (fun fb m fr V => ∃ (k : Nat) (v : Int), fr = [(15, .int .i64 v)] ++ fb.drop 1 ∧ v = k ∧ k ≤ G.length ∧ m = G.length - k ∧ (bytesAll c (G.take k)).length ≤ cut ∧ V = w108) (n := G.length) (Fr.le_of (by kernel_rfl) (by kernel_rfl) (by repeat' constructor)) ⟨0, _, rfl, rfl, by omega, rfl, by simp [bytesAll], rfl⟩ ?_
      rintro m fr V ⟨k, v, rfl, rfl, hk, rfl, hkc, rfl⟩
      by_cases hk1 : k + 1 < E.length
      · have hEk := hEg (k + 1) hk1
        obtain ⟨en, hen⟩ : ∃ en, (bytesAll c (G.take (k + 1))).length = en := ⟨_, rfl⟩
        rw [hen] at hEk
        first | refine rk_frame (by simp only [List.cons_append, List.nil_append, List.drop_succ_cons, List.drop_zero]; rfl) ?_ | refine wl_frame (by simp only [List.cons_append, List.nil_append, List.drop_succ_cons, List.drop_zero]; rfl) ?_
        refine rk_seq ?_
        refine rk_seq ?_
        refine rk_region ?_
        refine wl_p (fun _ => o_move rfl) ?_
        refine wl_p (fun _ => o_add rfl rfl (by omega) (by omega)) ?_
        refine wl_p (fun _ => o_move rfl) ?_
        refine wl_p (fun _ => o_len (t := 44) Try.underlying44 rfl) ?_
        refine wl_p (fun _ => o_lt rfl rfl) ?_
        refine wl_p (fun _ => o_move rfl) ?_
        refine wl_know 114 true rfl (decide_eq_true (by omega)) ?_
        refine wl_p (fun _ => o_move rfl) ?_
        refine wl_p (fun _ => o_move rfl) ?_
        refine wl_p (fun _ => o_add rfl rfl (by omega) (by omega)) ?_
        refine wl_p (fun _ => (o_iaddrA1 (k + 1) Try.underlying44 Try.sizeOf3 rfl rfl (by omega) (Reads.some_ f9.to_Reads (by decide) (by omega)) (by omega))) ?_
        refine wl_r (o_loadZ Try.isAgg3 rfl f9.to_Reads (by omega)) ?_
        refine wl_p (fun _ => o_move rfl) ?_
        refine wl_p (fun _ => o_le rfl rfl) ?_
        refine wl_p (fun _ => o_pick_t rfl rfl) ?_
        refine wl_nil ?_
        refine rk_if rfl (fun h122 => ?_) (fun h122 => ?_)
        · refine rk_skip ?_
          refine rk_block ?_
          refine rk_region ?_
          refine wl_p (fun _ => o_move rfl) ?_
          refine wl_p (fun _ => o_add rfl rfl (by omega) (by omega)) ?_
          refine wl_p (fun _ => o_assign rfl) ?_
          refine wl_nil ?_
          refine rk_blk ?_
          exact rk_againf (Fr.le_of (by kernel_rfl) (by kernel_rfl) (by repeat' constructor)) ⟨k + 1, (k : Int) + 1, rfl, by omega, by omega, rfl, by omega, rfl⟩ (by omega)
        · refine rk_exit rfl ?_
          exact rk_tof hj (Fr.le_of (by kernel_rfl) (by kernel_rfl) (by repeat' constructor)) ⟨k, _, rfl, rfl, hk, hkc, .inr ⟨by omega, by omega⟩, rfl⟩
      · first | refine rk_frame (by simp only [List.cons_append, List.nil_append, List.drop_succ_cons, List.drop_zero]; rfl) ?_ | refine wl_frame (by simp only [List.cons_append, List.nil_append, List.drop_succ_cons, List.drop_zero]; rfl) ?_
        refine rk_seq ?_
        refine rk_seq ?_
        refine rk_region ?_
        refine wl_p (fun _ => o_move rfl) ?_
        refine wl_p (fun _ => o_add rfl rfl (by omega) (by omega)) ?_
        refine wl_p (fun _ => o_move rfl) ?_
        refine wl_p (fun _ => o_len (t := 44) Try.underlying44 rfl) ?_
        refine wl_p (fun _ => o_lt rfl rfl) ?_
        refine wl_p (fun _ => o_move rfl) ?_
        refine wl_know 114 false rfl (decide_eq_false (by omega)) ?_
        refine wl_off ?_
        refine wl_off ?_
        refine wl_off ?_
        refine wl_off ?_
        refine wl_off ?_
        refine wl_off ?_
        refine wl_off ?_
        refine wl_p (fun _ => o_pick_f rfl rfl) ?_
        refine wl_nil ?_
        refine rk_false rfl ?_
        refine rk_exit rfl ?_
        exact rk_tof hj (Fr.le_of (by kernel_rfl) (by kernel_rfl) (by repeat' constructor)) ⟨k, _, rfl, rfl, hk, hkc, .inl (by omega), rfl⟩
    rintro fr V ⟨k, v, rfl, rfl, hk, hkc, hke, rfl⟩
    have hP : AllP c (b.take cut) (G.take k) := by
      rw [hb]
      refine AllP.cut hGo hk hkc ?_
      rcases hke with h | h
      · exact .inl ⟨h, by rw [← hb]; omega⟩
      · exact .inr h
    have hr := hP.eq
    obtain ⟨M, hM⟩ : ∃ M, G.take k = M := ⟨_, rfl⟩
    rw [hM] at hr
    have hMl : k = M.length := by rw [← hM, List.length_take]; omega
    obtain ⟨nb, hnb⟩ : ∃ nb, (bytesAll c M).length = nb := ⟨_, rfl⟩
    obtain ⟨en, hen⟩ : ∃ en, chainAll c M = en := ⟨_, rfl⟩
    have hen32 : en.length = 32 := by rw [← hen]; exact chainAll_len hc M
    have hEk := hEg k (by omega)
    rw [hM, hnb] at hEk
    have hHk : H[k]'(by omega) = ⟨en, hen32⟩ := by
      subst hH
      rw [chainsR_get]
      refine Subtype.ext ?_
      show chainAll c (G.take k) = en
      rw [hM, hen]
    have hcl : cut = (b.take cut).length := by rw [List.length_take]; omega
    have hcb : cut ≤ b.length := by omega
    have hc7 := f7.cap
    first | refine rk_frame (by simp only [List.cons_append, List.nil_append, List.drop_succ_cons, List.drop_zero]; rfl) ?_ | refine wl_frame (by simp only [List.cons_append, List.nil_append, List.drop_succ_cons, List.drop_zero]; rfl) ?_
    refine rk_seq ?_
    refine rk_drawo (id := 23) (none) [0, 0, 0, 6, 9, 16, 32, 32, 32, 0, 639, 1791, 4095] [0, 0, 0, 6, 15, 31, 63, 63, 63, 0, 639, 1791, 4095] 4624 512 [0, 1, 2, 3] [(.s, 0), (.p, 1), (.p, 2), (.p, 3), (.f 15 4624 512, 9)] (by kernel_rfl) (by kernel_rfl) (by kernel_rfl) (by kernel_rfl) (by kernel_rfl) ?_
    dsimp only [inOrder, nthOp]
    replace hw := hw.drew
    replace f7 := f7.d
    replace f8 := f8.d
    replace f9 := f9.d
    replace f10 := f10.d
    replace f4 := f4.d
    refine wl_s (fun _ hk => (o_ldBa Try.isAgg23 Try.sizeOf23 rfl (f4.u (below_of_grown_none hk)) hc)) ?_
    refine wl_p (fun _ => o_move rfl) ?_
    refine wl_p (fun _ => o_move rfl) ?_
    refine wl_slBh Try.u8 (cut) rfl rfl f7.to_Rd rfl rfl (by omega) (by omega) ?_
    rintro f129
    obtain ⟨bc, hbc⟩ : ∃ bc, b.take cut = bc := ⟨_, rfl⟩
    rw [hbc] at f129 hr hcl
    refine wl_conc [⟨4, [(.p, 5), (.p, 6), (.p, 7), (.p, 8)], [133, 132, 131, 125, 130], [], fun vs w' lo hi => ∃ (A130 : Option Addr) (c130 : Nat) (u125 u130 : Value), vs = [.agg (B8 en).toArray, .int .i64 (nb : Int), .slice A130 M.length c130, u125, u130] ∧ OwnRec w' lo hi A130 c130 M⟩, ⟨9, [], [18], [], fun vs w' lo hi => ∃ (g18 : Nat), vs = [.pointer (some ⟨g18, 0, none⟩)] ∧ Blk w' g18 23 (B8 nul32) ∧ lo ≤ g18 ∧ g18 < hi⟩] [0, 1] [0, 0, 0, 6, 9, 16, 32, 32, 32, 0, 639, 1791, 4095] [0, 0, 0, 6, 15, 31, 63, 63, 63, 0, 639, 1791, 4095] [10, 11, 12] [(.p, 10), (.p, 11), (.l, 12)] (by kernel_rfl) (by kernel_rfl) (by kernel_rfl) (by kernel_rfl) ⟨fun _ _ _ _ _ h hb => by obtain ⟨A130, c130, u125, u130, e0, g0⟩ := h; exact ⟨A130, c130, u125, u130, e0, g0.u hb⟩, fun _ _ _ _ _ h hb => by obtain ⟨g18, e0, g0, g1, g2⟩ := h; exact ⟨g18, e0, g0.u hb, g1, g2⟩, trivial⟩ ⟨?_, ?_, trivial⟩ ?_
    · intro wI hbI fo T T2 n2
      intro hk
      dsimp only [Item.idx, inOrder, nthOp, List.map, List.zip_cons_cons, List.zip_nil_right, List.cons_append, List.nil_append]
      have shbI := hbI.size
      simp only [drew_size] at shbI
      replace hw := hw.trans (hbI.mono hw.size)
      replace f129 := f129.u hbI
      replace f4 := f4.u hbI
      replace f10 := f10.u hbI
      replace f9 := f9.u hbI
      replace f8 := f8.u hbI
      replace f7 := f7.u hbI
      have hw1 := Below.refl wI.heap.size wI
      refine wl_call rfl (C_AllN _ hr hnb hen f129 hcl (by omega) hc (by omega)) ?_
      rintro v130 w130 ⟨A130, ⟨c130, ⟨rfl, ⟨f130, b130⟩⟩⟩⟩
      have qf130 := f130.cap
      have s130 := b130.size
      replace hw := hw.trans (b130.mono hw.size)
      replace hw1 := hw1.trans (b130.mono hw1.size)
      replace f7 := f7.u b130
      replace f8 := f8.u b130
      replace f9 := f9.u b130
      replace f10 := f10.u b130
      replace f4 := f4.u b130
      replace f129 := f129.u b130
      refine wl_p (fun _ => o_move rfl) ?_
      refine wl_p (fun _ => o_ext30 rfl) ?_
      refine wl_p (fun _ => o_ext31 rfl) ?_
      refine wl_p (fun _ => o_ext32 rfl) ?_
      exact hk [_, _, _, _, _] _ ⟨_, _, _, _, rfl, f130⟩ hw1
    · intro wI hbI fo T T2 n2
      intro hk
      dsimp only [Item.idx, inOrder, nthOp, List.map, List.zip_cons_cons, List.zip_nil_right, List.cons_append, List.nil_append]
      have shbI := hbI.size
      simp only [drew_size] at shbI
      replace hw := hw.trans (hbI.mono hw.size)
      replace f129 := f129.u hbI
      replace f4 := f4.u hbI
      replace f10 := f10.u hbI
      replace f9 := f9.u hbI
      replace f8 := f8.u hbI
      replace f7 := f7.u hbI
      have hw1 := Below.refl wI.heap.size wI
      refine wl_allocB Try.underlying23 Try.zeroValue23 (by rfl) ?_
      rintro g18 w18 f18 b18 i18 i18_1
      have s18 := b18.size
      replace hw := hw.trans (b18.mono hw.size)
      replace hw1 := hw1.trans (b18.mono hw1.size)
      replace f7 := f7.u b18
      replace f8 := f8.u b18
      replace f9 := f9.u b18
      replace f10 := f10.u b18
      replace f4 := f4.u b18
      replace f129 := f129.u b18
      exact hk [_] _ ⟨_, rfl, f18, by omega, by omega⟩ hw1
    intro wE hbE
    rintro _ lo0 hi0 ⟨A130, c130, u125, u130, rfl, f130⟩ ql0 qm0 qh0 -
    rintro _ lo1 hi1 ⟨g18, rfl, f18, f18_1, f18_2⟩ ql1 qm1 qh1 ⟨qa1_0, -⟩
    try dsimp only at ql0 qm0 qh0  ql1 qm1 qh1 qa1_0
    try simp only [drew_size] at ql0 qm0 qh0  ql1 qm1 qh1 qa1_0
    dsimp only [given, Item.idx, inOrder, nthOp, List.map, List.zip_cons_cons, List.zip_nil_right]
    have shbE_1 := hbE.size
    simp only [drew_size] at shbE_1
    replace hw := hw.trans (hbE.mono hw.size)
    replace f129 := f129.u hbE
    replace f4 := f4.u hbE
    replace f10 := f10.u hbE
    replace f9 := f9.u hbE
    replace f8 := f8.u hbE
    replace f7 := f7.u hbE
    refine wl_p (fun _ => o_assign rfl) ?_
    refine wl_p (fun _ => o_assign rfl) ?_
    refine wl_stBa Try.sizeOf23 rfl f18 rfl hen32 (by rfl) ?_
    rintro w_1 f g e
    have s := g.size
    replace hw := hw.trans (below_of_grownBy g.g hw.size (by omega))
    replace f7 := f7.k g.g (ap_some (by omega))
    replace f8 := f8.y g (by decide)
    replace f9 := f9.k g.g (ap_some (by omega))
    replace f10 := f10.k g.g (ap_some (by omega))
    replace f4 := f4.k g.g (ap_some (by omega))
    replace f130 := f130.y g (by decide)
    clear f129
    clear f18
    refine wl_nild ?_
    refine rk_seq ?_
    refine rk_draw (id := 24) (none) [0, 0, 0, 6, 9, 16, 32, 32, 32, 416, 544, 1120, 2080, 4128, 8192, 8192, 8192, 106496, 139264, 286720, 532480, 2097151] [0, 0, 0, 6, 15, 31, 63, 63, 63, 447, 959, 2047, 4095, 8191, 16383, 16383, 16383, 114687, 245759, 524287, 1048575, 2097151] 16 0 [(.p, 0), (.p, 1), (.p, 2), (.p, 3), (.l, 4), (.p, 5), (.p, 6), (.p, 7), (.p, 8), (.p, 9), (.r, 10), (.p, 11), (.p, 12), (.p, 13), (.r, 14), (.p, 15), (.p, 16), (.p, 17), (.r, 18), (.p, 19), (.p, 20), (.p, 21)] (by kernel_rfl) (by kernel_rfl) (by kernel_rfl) (by kernel_rfl) (by kernel_rfl) ?_
    replace hw := hw.drew
    replace f130 := f130.d
    replace f4 := f4.d
    replace f10 := f10.d
    replace f9 := f9.d
    replace f8 := f8.d
    replace f7 := f7.d
    replace f := f.d
    refine wl_p (fun _ => o_move rfl) ?_
    refine wl_p (fun _ => o_move rfl) ?_
    refine wl_p (fun _ => o_move rfl) ?_
    have r8 := f8.rd hw
    refine wl_slRecHi (k) rfl rfl r8 rfl rfl (by omega) f8.cap ?_
    rintro f137
    refine wl_call rfl (C_kRecs _ f130.to_RRec f137 rfl (by simp; omega) (by omega) (by simp; omega)) ?_
    rintro v138 w138 ⟨rfl, b138⟩
    simp only [drew_size] at b138
    have s138 := b138.size
    simp only [drew_size] at s138
    replace hw := hw.trans (b138.mono hw.size)
    replace f137 := f137.u b138
    replace r8 := r8.u b138
    replace f := f.u b138
    replace f7 := f7.u b138
    replace f8 := f8.u b138
    replace f9 := f9.u b138
    replace f10 := f10.u b138
    replace f4 := f4.u b138
    replace f130 := f130.u b138
    refine wl_p (fun _ => o_move rfl) ?_
    rw [hM]
    refine wl_know 139 true rfl (by simp) ?_
    refine wl_p (fun _ => o_move rfl) ?_
    refine wl_p (fun _ => o_move rfl) ?_
    refine wl_p (fun _ => o_move rfl) ?_
    refine wl_p (fun _ => (o_iaddrA1 (k) Try.underlying44 Try.sizeOf3 rfl rfl rfl (Reads.some_ f9.to_Reads (by decide) (by omega)) (by omega))) ?_
    refine wl_r (o_loadZ Try.isAgg3 rfl f9.to_Reads (by omega)) ?_
    refine wl_p (fun _ => o_eq rfl rfl) ?_
    refine wl_p (fun _ => o_pick_t rfl rfl) ?_
    refine wl_p (fun _ => o_move rfl) ?_
    refine wl_know 147 true rfl (decide_eq_true (by omega)) ?_
    refine wl_r (o_ldBa Try.isAgg23 Try.sizeOf23 rfl f hen32) ?_
    refine wl_p (fun _ => o_move rfl) ?_
    refine wl_p (fun _ => o_move rfl) ?_
    refine wl_p (fun _ => (o_iaddrA (k) Try.underlying45 Try.sizeOf23 rfl rfl rfl (Reads.some_ f10.to_Reads (by decide) (by omega)) (by omega))) ?_
    refine wl_r (o_loadDR rfl f10.to_RD (by omega)) ?_
    rw [hHk]
    refine wl_p (fun _ => (o_eqD32 rfl rfl hen32 (by omega))) ?_
    refine wl_p (fun _ => o_pick_t rfl rfl) ?_
    refine wl_p (fun _ => o_assign rfl) ?_
    refine wl_nild ?_
    refine ret1 rfl rfl ?_
    exact ⟨congrArg Value.bool (decide_eq_true rfl), hw⟩
end Go.Proofs.Ytpjedpmbninfcaa
