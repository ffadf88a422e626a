/-
  DiskKeeps: the walk.
-/
import Derived.Test.YthkfjoilhoemmaaMg5
namespace Go.Proofs.Ythkfjoilhoemmaa
open Go.RowKit
theorem rk_joinkf {P : Program} {fn : Func} {F : Ending → World → Prop} {N : Nat} {k : K} {ks : List K} {fr : Fr} {w : World} (R : Fr → Fr → World → Prop) (h2 : ∀ fr' w, R fr fr' w → RK P fn F N ks fr' w) (h1 : ∀ ks, (∀ fr' w, R fr fr' w → RK P fn F N ks fr' w) → RK P fn F N (k :: ks) fr w) : RK P fn F N (k :: ks) fr w := h1 ks h2
theorem crash_cnt0 : ∀ (S : List Sec) (C : List (Option Sec)) (kp : List Bool), cnt C = 0 → crash S C kp = S
  | [], _, _, _ => by simp [crash]
  | s :: S, [], _, _ => by simp [crash]
  | s :: S, none :: C, kp, h => by rw [crash, crash_cnt0 S C kp (by simpa [cnt] using h)]
  | s :: S, some c :: C, kp, h => by simp [cnt] at h
set_option maxRecDepth 100000 in
set_option maxHeartbeats 1000000 in
theorem C_DiskKeeps {n0 : Int} {A1 : Option Addr} {L : List DAct} {c1 : Nat} (w : World) (hL : RDA w A1 L) (wn : (Lit.int .i64 n0).wf = true) (m1 : L.length ≤ maxLen) :
    CallsR Try.prog 3 [.int .i64 n0, .slice A1 L.length c1] w fun v w' => v = .bool true ∧ Below w.heap.size w w' := by
  have wm : (Lit.int .i64 40).wf = true := by decide
  have wm5 : (Lit.int .i64 5).wf = true := by decide
  have hpk := pick_range n0 40 (by omega)
  obtain ⟨p, hp⟩ : ∃ p, pick n0 40 = p := ⟨_, rfl⟩
  rw [hp] at hpk
  obtain ⟨m, hm⟩ : ∃ m : Nat, 1 + p = (m : Int) := ⟨(1 + p).toNat, by omega⟩
  obtain ⟨Z, hZ⟩ : ∃ Z : List Sec, List.replicate m z256 = Z := ⟨_, rfl⟩
  obtain ⟨Q, hQ⟩ : ∃ Q : List (Option Sec), List.replicate m none = Q := ⟨_, rfl⟩
  refine callsR Try.func3 rfl rfl (by kernel_rfl) rfl ?_
  have hw := Below.refl w.heap.size w
  refine rk_seq ?_
  refine rk_region ?_
  refine wl_p (fun _ => o_assign rfl) ?_
  refine wl_nil ?_
  refine rk_seq ?_
  refine rk_seq ?_
  refine rk_region ?_
  refine wl_call rfl (C_lives07 _) ?_
  rintro v22 w22 ⟨rfl, b22⟩
  have s22 := b22.size
  replace hw := hw.trans (b22.mono hw.size)
  refine wl_p (fun _ => o_not rfl) ?_
  refine wl_nil ?_
  refine rk_false rfl ?_
  refine rk_skip ?_
  refine rk_seq ?_
  refine rk_seq ?_
  refine rk_region ?_
  refine wl_p (fun _ => o_move rfl) ?_
  refine wl_call rfl (C_small _ (hL.u hw) rfl (by omega)) ?_
  rintro v25 w25 ⟨b25, ⟨rfl, ⟨i25, b25_1⟩⟩⟩
  have s25 := b25_1.size
  replace hw := hw.trans (b25_1.mono hw.size)
  refine wl_p (fun _ => o_not rfl) ?_
  refine wl_nil ?_
  cases b25 with
  | false =>
    refine rk_true rfl ?_
    refine rk_seq ?_
    refine rk_region ?_
    refine wl_p (fun _ => o_assign rfl) ?_
    refine wl_nil ?_
    refine ret1 rfl rfl ?_
    exact ⟨rfl, hw⟩
  | true =>
    have hsL : smallA L := (show true = true ↔ smallA L by assumption).1 rfl
    have hlL := hsL.1
    refine rk_false rfl ?_
    refine rk_skip ?_
    refine rk_seq ?_
    refine rk_region ?_
    refine wl_p (fun _ => o_move rfl) ?_
    refine wl_call rfl (C_PickR _ hp wn wm) ?_
    rintro v28 w28 ⟨rfl, b28⟩
    have s28 := b28.size
    replace hw := hw.trans (b28.mono hw.size)
    refine wl_p (fun _ => o_add rfl rfl (by omega) (by omega)) ?_
    refine wl_p (fun _ => o_assign rfl) ?_
    refine wl_nil ?_
    refine rk_seq ?_
    refine rk_region ?_
    refine wl_p (fun _ => o_move rfl) ?_
    refine wl_call rfl (C_dNewOk _ hm hZ hQ (by omega) (by omega)) ?_
    rintro v32 w32 ⟨g32, ⟨rfl, ⟨f32, b32⟩⟩⟩
    have s32 := b32.size
    replace hw := hw.trans (b32.mono hw.size)
    refine wl_p (fun _ => o_move rfl) ?_
    refine wl_p (fun _ => o_ext20 rfl) ?_
    refine wl_p (fun _ => o_ext21 rfl) ?_
    refine wl_p (fun _ => o_assign rfl) ?_
    refine wl_p (fun _ => o_assign rfl) ?_
    refine wl_nil ?_
    refine rk_seq ?_
    refine rk_seq ?_
    refine rk_region ?_
    refine wl_p (fun _ => o_move rfl) ?_
    refine wl_p (fun _ => o_ne rfl rfl) ?_
    refine wl_nil ?_
    refine rk_false rfl ?_
    refine rk_skip ?_
    refine rk_seq ?_
    refine rk_drawo (id := 9) (none) [0, 1, 0, 4, 0, 16, 3, 79, 255] [0, 1, 0, 4, 0, 16, 3, 79, 255] 42 0 [0, 2, 4] [(.p, 0), (.p, 2), (.p, 4), (.f 21 42 0, 6)] (by kernel_rfl) (by kernel_rfl) (by kernel_rfl) (by kernel_rfl) (by kernel_rfl) ?_
    dsimp only [inOrder, nthOp]
    replace hw := hw.drew
    replace f32 := f32.d
    refine wl_p (fun _ => o_move rfl) ?_
    refine wl_p (fun _ => o_move rfl) ?_
    refine wl_p (fun _ => o_move rfl) ?_
    rw [hm]
    refine wl_forkf3 (m := 21) (L := 42) (C := 0) (n := 6) (k1 := 1) (k2 := 3) (k3 := 5) (fun fb fr V => ∃ (A38 A40 A42 : Option Addr) (lo0 hi0 lo1 hi1 lo2 hi2 : Nat), fr = [(7, .slice A38 m m), (8, .slice A40 m m), (42, .slice A42 m m)] ++ fb ∧ OwnSt V lo0 hi0 A38 m (List.replicate m []) ∧ OwnSt V lo1 hi1 A40 m (List.replicate m []) ∧ OwnBo V lo2 hi2 A42 m (List.replicate m false) ∧ (w32.heap.size ≤ lo0 ∧ lo0 ≤ hi0 ∧ hi0 ≤ V.heap.size) ∧ (w32.heap.size ≤ lo1 ∧ lo1 ≤ hi1 ∧ hi1 ≤ V.heap.size) ∧ (w32.heap.size ≤ lo2 ∧ lo2 ≤ hi2 ∧ hi2 ≤ V.heap.size) ∧ (hi0 ≤ lo1 ∨ hi1 ≤ lo0) ∧ DkAt V w28.heap.size w32.heap.size g32 Z Q ∧ Below w.heap.size w V) [0, 1, 0, 4, 0, 16, 3, 79, 255] [0, 1, 0, 4, 0, 16, 3, 79, 255] [1, 6] [3] [5] [8] [(.p, 6), (.f 87 42 0, 4)] [(.f 29 42 0, 5)] [(.f 53 42 0, 5)] [(.p, 8)] (by kernel_rfl) (by kernel_rfl) (by kernel_rfl) (by kernel_rfl) (by kernel_rfl) (by kernel_rfl) ?_ (fun hj => ?_) (fun hj => ?_) (fun hj => ?_) <;> dsimp only [inOrder, nthOp]
    · clear f32 hw
      rintro fr wE ⟨A38, A40, A42, lo0, hi0, lo1, hi1, lo2, hi2, rfl, f38, f40, f42, ⟨ql0, qm0, qh0⟩, ⟨ql1, qm1, qh1⟩, ⟨ql2, qm2, qh2⟩, qa, f32, hw⟩
      first | refine rk_frame (by simp only [List.cons_append, List.nil_append, List.drop_succ_cons, List.drop_zero]; rfl) ?_ | refine wl_frame (by simp only [List.cons_append, List.nil_append, List.drop_succ_cons, List.drop_zero]; rfl) ?_
      refine wl_p (fun _ => o_assign rfl) ?_
      refine wl_nild ?_
      refine rk_seq ?_
      refine rk_seq ?_
      refine rk_region ?_
      refine wl_p (fun _ => o_assign rfl) ?_
      refine wl_nil ?_
      refine rk_block ?_
      obtain ⟨z, hz⟩ : ∃ z, rowB 0 = z := ⟨_, rfl⟩
      have hzv : z256.1 = z := by rw [← hz]; rfl
      have hzl : z.length = 256 := by rw [← hz, rowB, List.length_replicate]
      refine rk_joinf (fun fb fr V => fr = [] ++ fb.drop 1 ∧ OwnSt V lo0 hi0 A38 m (List.replicate m z) ∧ OwnSt V lo1 hi1 A40 m (List.replicate m z) ∧ OwnBo V lo2 hi2 A42 m (List.replicate m false) ∧ wE.heap.size ≤ V.heap.size ∧ DkAt V w28.heap.size w32.heap.size g32 Z Q ∧ Below w.heap.size w V) ?_ (fun ks hj => ?_)
      rotate_left
      · refine rk_loopf (fun fb k fr V => ∃ (i : Nat) (v : Int) (X Y : List By), fr = [(10, .int .i64 v)] ++ fb.drop 1 ∧ v = i ∧ i ≤ m ∧ k = m - i ∧ X.length = m ∧ Y.length = m ∧ X.take i = List.replicate i z ∧ Y.take i = List.replicate i z ∧ OwnSt V lo0 hi0 A38 m X ∧ OwnSt V lo1 hi1 A40 m Y ∧ OwnBo V lo2 hi2 A42 m (List.replicate m false) ∧ wE.heap.size ≤ V.heap.size ∧ DkAt V w28.heap.size w32.heap.size g32 Z Q ∧ Below w.heap.size w V) (n := m) (Fr.le_of (by kernel_rfl) (by kernel_rfl) (by repeat' constructor)) ⟨0, _, List.replicate m [], List.replicate m [], rfl, rfl, by omega, rfl, List.length_replicate, List.length_replicate, rfl, rfl, f38, f40, f42, Nat.le_refl _, f32, hw⟩ ?_
        clear f38 f40 f42 f32 hw
        rintro k fr V ⟨i, v, X, Y, rfl, rfl, hi, rfl, hX, hY, hX1, hY1, f38, f40, f42, hsE, f32, hw⟩
        first | refine rk_frame (by simp only [List.cons_append, List.nil_append, List.drop_succ_cons, List.drop_zero]; rfl) ?_ | refine wl_frame (by simp only [List.cons_append, List.nil_append, List.drop_succ_cons, List.drop_zero]; rfl) ?_
        refine rk_seq ?_
        refine rk_seq ?_
        refine rk_region ?_
        refine wl_p (fun _ => o_move rfl) ?_
        refine wl_p (fun _ => o_move rfl) ?_
        refine wl_p (fun _ => o_lt rfl rfl) ?_
        refine wl_nil ?_
        refine rk_if rfl (fun h45 => ?_) (fun h45 => ?_)
        · refine rk_skip ?_
          refine rk_seq ?_
          refine rk_block ?_
          refine rk_draw (id := 13) (none) [0, 0, 0, 0, 0, 16, 16, 64, 243, 499, 1023, 2047] [0, 0, 0, 0, 0, 16, 16, 80, 243, 499, 1023, 2047] 2640 64 [(.p, 0), (.p, 1), (.p, 2), (.p, 3), (.l, 4), (.s, 5), (.c, 6), (.r, 7), (.p, 8), (.l, 9), (.p, 10), (.l, 11)] (by kernel_rfl) (by kernel_rfl) (by kernel_rfl) (by kernel_rfl) (by kernel_rfl) ?_
          replace hw := hw.drew
          replace f32 := f32.d
          replace f42 := f42.d
          replace f40 := f40.d
          replace f38 := f38.d
          refine wl_p (fun _ => o_move rfl) ?_
          refine wl_p (fun _ => o_move rfl) ?_
          refine wl_p (fun _ => o_move rfl) ?_
          refine wl_p (fun _ => o_move rfl) ?_
          refine wl_call rfl (C_row (b := 0) _ rfl hz) ?_
          rintro v52 w52 ⟨A52, c52, rfl, f52, i52, b52⟩
          have q52 := f52.cap
          have sb52 := b52.size
          simp only [drew_size] at sb52
          replace hw := hw.trans (b52.mono hw.size)
          replace f38 := f38.u b52
          replace f40 := f40.u b52
          replace f42 := f42.u b52
          replace f32 := f32.u b52
          refine wl_s (fun _ hk => (o_strU Try.underlying32 Try.underlying5 Try.underlying9 rfl f52.to_Rd (below_of_grown_none hk) rfl)) ?_
          refine wl_call (hq := .inr fun _ _ h => by obtain ⟨_, _, _, _, _, hb⟩ := h; exact grown_of_below hb _) rfl (C_row (b := 0) _ rfl hz) ?_
          rintro v54 w54 ⟨A54, c54, rfl, f54, i54, b54⟩
          have q54 := f54.cap
          have sb54 := b54.size
          replace hw := hw.trans (b54.mono hw.size)
          replace f32 := f32.u b54
          replace f42 := f42.u b54
          replace f40 := f40.u b54
          replace f38 := f38.u b54
          replace f52 := f52.u b54
          refine wl_r (o_strU Try.underlying32 Try.underlying5 Try.underlying9 rfl f54.to_Rd (Below.refl _ _) rfl) ?_
          refine wl_p (fun _ => (o_iaddrA1 (i) Try.underlying30 Try.sizeOf9 rfl rfl rfl (f38.some_ (by omega)) (by omega))) ?_
          refine wl_stSt rfl f38 rfl (by omega) ?_
          rintro w_1 f g b e
          have qf := f.cap
          have s := g.size
          replace hw := hw.trans (b.mono (by omega))
          replace f52 := f52.y g (by decide)
          replace f40 := f40.k g.g (f.ap (by omega))
          replace f42 := f42.y g (by decide)
          replace f32 := f32.k g.g (f.ap (by omega))
          replace f54 := f54.y g (by decide)
          clear f38
          refine wl_p (fun _ => (o_iaddrA1 (i) Try.underlying30 Try.sizeOf9 rfl rfl rfl (f40.some_ (by omega)) (by omega))) ?_
          refine wl_stSt rfl f40 rfl (by omega) ?_
          rintro w_2 f_1 g_1 b_1 e_1
          have qf_1 := f_1.cap
          have s_1 := g_1.size
          replace hw := hw.trans (b_1.mono (by omega))
          replace f54 := f54.y g_1 (by decide)
          replace f32 := f32.k g_1.g (f_1.ap (by omega))
          replace f42 := f42.y g_1 (by decide)
          replace f52 := f52.y g_1 (by decide)
          replace f := f.k g_1.g (f_1.ap (by omega))
          clear f40
          refine wl_nild ?_
          refine rk_blk ?_
          refine rk_region ?_
          refine wl_p (fun _ => o_move rfl) ?_
          refine wl_p (fun _ => o_add rfl rfl (by omega) (by omega)) ?_
          refine wl_p (fun _ => o_assign rfl) ?_
          refine wl_nil ?_
          have hXs : (X.set i z).take (i + 1) = List.replicate (i + 1) z := by
            rw [List.take_succ_eq_append_getElem (by rw [List.length_set]; omega), List.take_set_of_le (Nat.le_refl _), hX1, List.getElem_set_self, ← List.replicate_succ']
          have hYs : (Y.set i z).take (i + 1) = List.replicate (i + 1) z := by
            rw [List.take_succ_eq_append_getElem (by rw [List.length_set]; omega), List.take_set_of_le (Nat.le_refl _), hY1, List.getElem_set_self, ← List.replicate_succ']
          exact rk_againf (Fr.le_of (by kernel_rfl) (by kernel_rfl) (by repeat' constructor)) ⟨i + 1, (i : Int) + 1, X.set i z, Y.set i z, rfl, by omega, by omega, rfl, by rw [List.length_set]; exact hX, by rw [List.length_set]; exact hY, hXs, hYs, by assumption, by assumption, f42, by omega, f32, hw⟩ (by omega)
        · refine rk_exit rfl ?_
          obtain rfl : i = m := by omega
          rw [List.take_of_length_le (by omega)] at hX1 hY1
          subst hX1; subst hY1
          exact rk_tof hj (Fr.le_of (by kernel_rfl) (by kernel_rfl) (by repeat' constructor)) ⟨rfl, f38, f40, f42, hsE, f32, hw⟩
      clear f38 f40 f42 f32 hw
      rintro fr V ⟨rfl, f38, f40, f42, hsE0, f32, hw⟩
      have hcz : (cur Z Q).map Subtype.val = List.replicate m z := by rw [← hQ, cur_none, ← hZ, List.map_replicate, hzv]
      have hzz : Z.map Subtype.val = List.replicate m z := by rw [← hZ, List.map_replicate, hzv]
      have hqz : Q.map Option.isSome = List.replicate m false := by rw [← hQ, List.map_replicate]; rfl
      have hZl : Z.length = m := by rw [← hZ, List.length_replicate]
      have hsV := hw.size
      first | refine rk_frame (by simp only [List.cons_append, List.nil_append, List.drop_succ_cons, List.drop_zero]; rfl) ?_ | refine wl_frame (by simp only [List.cons_append, List.nil_append, List.drop_succ_cons, List.drop_zero]; rfl) ?_
      refine rk_seq ?_
      refine rk_seq ?_
      refine rk_region ?_
      refine wl_p (fun _ => o_assign rfl) ?_
      refine wl_nil ?_
      refine rk_block ?_
      refine rk_joinf (fun fb fr V => fr = [] ++ fb.drop 2 ∧ Below w.heap.size w V) ?_ (fun ks hj => ?_)
      rotate_left
      · refine rk_loopf (fun fb k fr V => ∃ (i : Nat) (v : Int) (S : List Sec) (C : List (Option Sec)) (X Y : List By) (B : List Bool) (A9 : Option Addr) (c9 lo9 hi9 : Nat), fr = [(11, .int .i64 v), (9, .slice A9 m c9)] ++ fb.drop 2 ∧ v = i ∧ i ≤ L.length ∧ k = L.length - i ∧ S.length = m ∧ X = (cur S C).map Subtype.val ∧ Y = S.map Subtype.val ∧ B = C.map Option.isSome ∧ OwnSt V lo0 hi0 A38 m X ∧ OwnSt V lo1 hi1 A40 m Y ∧ OwnBo V lo9 hi9 A9 c9 B ∧ w32.heap.size ≤ lo9 ∧ hi9 ≤ V.heap.size ∧ wE.heap.size ≤ V.heap.size ∧ DkAt V w28.heap.size w32.heap.size g32 S C ∧ Below w.heap.size w V) (n := L.length) (Fr.le_of (by kernel_rfl) (by kernel_rfl) (by repeat' constructor)) ⟨0, _, Z, Q, _, _, _, A42, m, lo2, hi2, rfl, rfl, by omega, rfl, hZl, hcz.symm, hzz.symm, hqz.symm, f38, f40, f42, by omega, by omega, by omega, f32, hw⟩ ?_
        clear f38 f40 f42 f32 hw
        rintro k fr V1 ⟨i, v, S, C, X, Y, B, A9, c9, lo9, hi9, rfl, rfl, hi, rfl, hlS, hX, hY, hB, f38, f40, f42, ql9, qh9, hsE, f32, hw⟩
        have hle := f32.len
        have hn2 := f32.n2
        have hXl : X.length = m := by rw [hX, List.length_map, cur_len, hlS]
        have hYl : Y.length = m := by rw [hY, List.length_map, hlS]
        have hBl : B.length = m := by rw [hB, List.length_map, hle, hlS]
        first | refine rk_frame (by simp only [List.cons_append, List.nil_append, List.drop_succ_cons, List.drop_zero]; rfl) ?_ | refine wl_frame (by simp only [List.cons_append, List.nil_append, List.drop_succ_cons, List.drop_zero]; rfl) ?_
        refine rk_seq ?_
        refine rk_seq ?_
        refine rk_region ?_
        refine wl_p (fun _ => o_move rfl) ?_
        refine wl_p (fun _ => o_move rfl) ?_
        refine wl_p (fun _ => o_len (t := 22) Try.underlying22 rfl) ?_
        refine wl_p (fun _ => o_lt rfl rfl) ?_
        refine wl_nil ?_
        refine rk_if rfl (fun h61 => ?_) (fun h61 => ?_)
        · have hil : i < L.length := by omega
          have hkl := hsL.2 _ (List.getElem_mem hil)
          have hpk5 := pick_range L[i].1 5 (by omega)
          obtain ⟨t, ht⟩ : ∃ t, pick L[i].1 5 = t := ⟨_, rfl⟩
          rw [ht] at hpk5
          refine rk_skip ?_
          refine rk_seq ?_
          refine rk_block ?_
          refine rk_seq ?_
          refine rk_region ?_
          refine wl_p (fun _ => o_move rfl) ?_
          refine wl_p (fun _ => o_move rfl) ?_
          refine wl_p (fun _ => (o_iaddrA (i) Try.underlying22 Try.sizeOf35 rfl rfl rfl (hL.some_ (by omega)) (by omega))) ?_
          refine wl_ldDAct rfl hL hw (by omega) ?_
          rintro A167 c167 f67 i67 i67_1 e67 e67_1
          refine wl_allocg [_, _, _, _, _] Try.zeroValue35 (by rfl) ?_
          rintro g12 w12 f12 b12 i12 i12_1
          have s12 := b12.size
          replace hw := hw.trans (b12.mono hw.size)
          replace f32 := f32.u b12
          replace f42 := f42.u b12
          replace f40 := f40.u b12
          replace f38 := f38.u b12
          refine wl_storega Try.sizeOf35 rfl rfl (by rfl) (oneCell_of (by rfl)) f12 (by rfl) ?_
          rintro w_1 f g e
          have s := g.size
          replace hw := hw.trans (below_of_grownBy g.g hw.size (by omega))
          replace f38 := f38.k g.g (ap_some (by omega))
          replace f40 := f40.k g.g (ap_some (by omega))
          replace f42 := f42.k g.g (ap_some (by omega))
          replace f32 := f32.k g.g (ap_some (by omega))
          clear f12
          refine wl_nil ?_
          refine rk_seq ?_
          obtain ⟨bt, hbt⟩ : ∃ bt, decide (0 ≤ L[i].2.1 ∧ L[i].2.1 < (m : Int)) = bt := ⟨_, rfl⟩
          refine rk_joinkf (fun fb fr V2 => fr = [(13, .bool bt)] ++ fb ∧ V2 = w_1) ?_ (fun ks hj => ?_)
          rotate_left
          · by_cases ha : L[i].2.1 < 0
            · have e : bt = false := by rw [← hbt]; exact decide_eq_false (fun h => by omega)
              subst e
              refine rk_region ?_
              refine wl_p (fun _ => o_faddr (s := 35) (i := 1) (off := 1) Try.underlying35 rfl Try.sizeOf3 rfl rfl rfl) ?_
              refine wl_r (o_loadbg Try.isAgg3 rfl f (by rfl)) ?_
              refine wl_p (fun _ => o_ge rfl rfl) ?_
              refine wl_p (fun _ => o_move rfl) ?_
              refine wl_know 71 false rfl (decide_eq_false (by omega)) ?_
              refine wl_off ?_
              refine wl_off ?_
              refine wl_off ?_
              refine wl_off ?_
              refine wl_p (fun _ => o_pick_f rfl rfl) ?_
              refine wl_p (fun _ => o_assign rfl) ?_
              refine wl_nil ?_
              exact rk_tof hj (Fr.le_of (by kernel_rfl) (by kernel_rfl) (by repeat' constructor)) ⟨rfl, rfl⟩
            · have e : decide (L[i].2.1 < (m : Int)) = bt := by rw [← hbt]; exact decide_eq_decide.2 ⟨fun h => ⟨by omega, h⟩, fun h => h.2⟩
              by_cases hb : L[i].2.1 < m
              · refine rk_region ?_
                refine wl_p (fun _ => o_faddr (s := 35) (i := 1) (off := 1) Try.underlying35 rfl Try.sizeOf3 rfl rfl rfl) ?_
                refine wl_r (o_loadbg Try.isAgg3 rfl f (by rfl)) ?_
                refine wl_p (fun _ => o_ge rfl rfl) ?_
                refine wl_p (fun _ => o_move rfl) ?_
                refine wl_know 71 true rfl (decide_eq_true (by omega)) ?_
                refine wl_p (fun _ => o_faddr (s := 35) (i := 1) (off := 1) Try.underlying35 rfl Try.sizeOf3 rfl rfl rfl) ?_
                refine wl_r (o_loadbg Try.isAgg3 rfl f (by rfl)) ?_
                refine wl_p (fun _ => o_move rfl) ?_
                refine wl_p (fun _ => o_lt rfl rfl) ?_
                refine wl_p (fun _ => o_pick_t rfl rfl) ?_
                refine wl_p (fun _ => o_assign rfl) ?_
                refine wl_nil ?_
                rw [e]
                exact rk_tof hj (Fr.le_of (by kernel_rfl) (by kernel_rfl) (by repeat' constructor)) ⟨rfl, rfl⟩
              · refine rk_region ?_
                refine wl_p (fun _ => o_faddr (s := 35) (i := 1) (off := 1) Try.underlying35 rfl Try.sizeOf3 rfl rfl rfl) ?_
                refine wl_r (o_loadbg Try.isAgg3 rfl f (by rfl)) ?_
                refine wl_p (fun _ => o_ge rfl rfl) ?_
                refine wl_p (fun _ => o_move rfl) ?_
                refine wl_know 71 true rfl (decide_eq_true (by omega)) ?_
                refine wl_p (fun _ => o_faddr (s := 35) (i := 1) (off := 1) Try.underlying35 rfl Try.sizeOf3 rfl rfl rfl) ?_
                refine wl_r (o_loadbg Try.isAgg3 rfl f (by rfl)) ?_
                refine wl_p (fun _ => o_move rfl) ?_
                refine wl_p (fun _ => o_lt rfl rfl) ?_
                refine wl_p (fun _ => o_pick_t rfl rfl) ?_
                refine wl_p (fun _ => o_assign rfl) ?_
                refine wl_nil ?_
                rw [e]
                exact rk_tof hj (Fr.le_of (by kernel_rfl) (by kernel_rfl) (by repeat' constructor)) ⟨rfl, rfl⟩
          rintro fr V2 ⟨rfl, rfl⟩
          first | refine rk_frame (by simp only [List.cons_append, List.nil_append, List.drop_succ_cons, List.drop_zero]; rfl) ?_ | refine wl_frame (by simp only [List.cons_append, List.nil_append, List.drop_succ_cons, List.drop_zero]; rfl) ?_
          refine rk_seq ?_
          refine rk_seq ?_
          refine rk_region ?_
          refine wl_p (fun _ => o_faddr (s := 35) (i := 0) (off := 0) Try.underlying35 rfl Try.sizeOf3 rfl rfl rfl) ?_
          refine wl_r (o_loadbg Try.isAgg3 rfl f (by rfl)) ?_
          refine wl_call rfl (C_PickR _ ht e67 wm5) ?_
          rintro v79 w79 ⟨rfl, b79⟩
          have s79 := b79.size
          replace hw := hw.trans (b79.mono hw.size)
          replace f32 := f32.u b79
          replace f42 := f42.u b79
          replace f40 := f40.u b79
          replace f38 := f38.u b79
          replace f := f.u b79
          refine wl_nil ?_
          refine rk_block ?_
          refine rk_seq ?_
          refine rk_region ?_
          refine wl_p (fun _ => o_eq rfl rfl) ?_
          refine wl_p (fun _ => o_assign rfl) ?_
          refine wl_nil ?_
          refine rk_joinf (fun fb fr V => ∃ (S : List Sec) (C : List (Option Sec)) (X Y : List By) (B : List Bool) (A9 : Option Addr) (c9 lo9 hi9 : Nat), fr = [(11, .int .i64 (i : Int)), (9, .slice A9 m c9)] ++ fb.drop 17 ∧ S.length = m ∧ X = (cur S C).map Subtype.val ∧ Y = S.map Subtype.val ∧ B = C.map Option.isSome ∧ OwnSt V lo0 hi0 A38 m X ∧ OwnSt V lo1 hi1 A40 m Y ∧ OwnBo V lo9 hi9 A9 c9 B ∧ w32.heap.size ≤ lo9 ∧ hi9 ≤ V.heap.size ∧ wE.heap.size ≤ V.heap.size ∧ DkAt V w28.heap.size w32.heap.size g32 S C ∧ Below w.heap.size w V) ?_ (fun ks hj => ?_)
          rotate_left
          · by_cases h0 : t = 0
            · by_cases hth : 0 ≤ L[i].2.1 ∧ L[i].2.1 < (m : Int)
              · have e : bt = true := by rw [← hbt]; exact decide_eq_true hth
                subst e
                obtain ⟨j, hja⟩ : ∃ j : Nat, L[i].2.1 = (j : Int) := ⟨L[i].2.1.toNat, by omega⟩
                have hjX : j < X.length := by omega
                have hr : rdD S C L[i].2.1 = (X[j], 0) := by
                  rw [hja, rdD, dif_pos (by omega), cAt_nat C (by omega)]
                  subst hX
                  rw [List.getElem_map, cur_get S C j (by omega) (by omega)]
                  rfl
                refine rk_if rfl (fun h108 => ?_) (fun h108 => h108.elim (by omega))
                refine rk_seq ?_
                refine rk_region ?_
                refine wl_p (fun _ => o_move rfl) ?_
                refine wl_p (fun _ => o_faddr (s := 35) (i := 1) (off := 1) Try.underlying35 rfl Try.sizeOf3 rfl rfl rfl) ?_
                refine wl_r (o_loadbg Try.isAgg3 rfl f (by rfl)) ?_
                refine wl_call rfl (C_dReadN _ f32 hr e67_1) ?_
                rintro v114 w114 ⟨A114, ⟨c114, ⟨rfl, ⟨f114, ⟨i114, b114⟩⟩⟩⟩⟩
                dsimp only at f114
                dsimp only at i114
                dsimp only
                have s114 := b114.size
                replace hw := hw.trans (b114.mono hw.size)
                replace f := f.u b114
                replace f38 := f38.u b114
                replace f40 := f40.u b114
                replace f42 := f42.u b114
                replace f32 := f32.u b114
                refine wl_p (fun _ => o_move rfl) ?_
                refine wl_p (fun _ => o_ext20 rfl) ?_
                refine wl_p (fun _ => o_ext21 rfl) ?_
                refine wl_p (fun _ => o_assign rfl) ?_
                refine wl_p (fun _ => o_assign rfl) ?_
                refine wl_nil ?_
                refine rk_seq ?_
                refine rk_draw (id := 27) (none) [0, 1, 0, 6, 8, 16, 48, 64, 192, 64, 64, 1088, 2624, 4160, 8512, 16464, 32784] [0, 1, 0, 7, 15, 31, 63, 127, 255, 127, 127, 1151, 3711, 7807, 16383, 32767, 65535] 0 0 [(.p, 0), (.p, 1), (.p, 2), (.p, 3), (.p, 4), (.p, 5), (.p, 6), (.p, 7), (.r, 8), (.p, 9), (.p, 10), (.r, 11), (.p, 12), (.r, 13), (.p, 14), (.p, 15), (.p, 16)] (by kernel_rfl) (by kernel_rfl) (by kernel_rfl) (by kernel_rfl) (by kernel_rfl) ?_
                replace hw := hw.drew
                replace f32 := f32.d
                replace f42 := f42.d
                replace f40 := f40.d
                replace f38 := f38.d
                replace f := f.d
                replace f114 := f114.d
                refine wl_p (fun _ => o_move rfl) ?_
                refine wl_p (fun _ => o_eq rfl rfl) ?_
                refine wl_p (fun _ => o_move rfl) ?_
                refine wl_p (fun _ => o_bne (t := 4) Try.underlying4 rfl rfl) ?_
                refine wl_p (fun _ => o_move rfl) ?_
                refine wl_p (fun _ => o_move rfl) ?_
                refine wl_p (fun _ => o_move rfl) ?_
                refine wl_p (fun _ => o_move rfl) ?_
                refine wl_r (o_strU Try.underlying32 Try.underlying5 Try.underlying9 rfl f114.to_Rd (Below.refl _ _) rfl) ?_
                refine wl_p (fun _ => o_move rfl) ?_
                refine wl_p (fun _ => o_faddr (s := 35) (i := 1) (off := 1) Try.underlying35 rfl Try.sizeOf3 rfl rfl rfl) ?_
                refine wl_r (o_loadbg Try.isAgg3 rfl f (by rfl)) ?_
                refine wl_p (fun _ => (o_iaddrA1 (j) Try.underlying30 Try.sizeOf9 rfl rfl hja (f38.some_ (by omega)) (by omega))) ?_
                refine wl_r (o_ldSt rfl f38 (by omega)) ?_
                refine wl_p (fun _ => o_sne rfl rfl) ?_
                refine wl_p (fun _ => o_pick_t rfl rfl) ?_
                refine wl_p (fun _ => o_pick_f rfl rfl) ?_
                refine wl_nild ?_
                refine rk_cond rfl (fun h133 => by simp at h133) (fun h133 => ?_)
                refine rk_skip ?_
                refine rk_blk ?_
                exact rk_tof hj (Fr.le_of (by kernel_rfl) (by kernel_rfl) (by repeat' constructor)) ⟨S, C, X, Y, B, A9, c9, lo9, hi9, rfl, hlS, hX, hY, hB, f38, f40, f42, ql9, by show hi9 ≤ w114.heap.size; omega, by show wE.heap.size ≤ w114.heap.size; omega, f32, hw⟩
              · have e : bt = false := by rw [← hbt]; exact decide_eq_false hth
                subst e
                have hr : rdD S C L[i].2.1 = ([], 2) := by rw [rdD, dif_neg (by rw [hlS]; exact hth)]
                refine rk_if rfl (fun h108 => ?_) (fun h108 => h108.elim (by omega))
                refine rk_seq ?_
                refine rk_region ?_
                refine wl_p (fun _ => o_move rfl) ?_
                refine wl_p (fun _ => o_faddr (s := 35) (i := 1) (off := 1) Try.underlying35 rfl Try.sizeOf3 rfl rfl rfl) ?_
                refine wl_r (o_loadbg Try.isAgg3 rfl f (by rfl)) ?_
                refine wl_call rfl (C_dReadN _ f32 hr e67_1) ?_
                rintro v114 w114 ⟨A114, ⟨c114, ⟨rfl, ⟨f114, ⟨i114, b114⟩⟩⟩⟩⟩
                dsimp only at f114
                dsimp only at i114
                dsimp only
                have s114 := b114.size
                replace hw := hw.trans (b114.mono hw.size)
                replace f := f.u b114
                replace f38 := f38.u b114
                replace f40 := f40.u b114
                replace f42 := f42.u b114
                replace f32 := f32.u b114
                refine wl_p (fun _ => o_move rfl) ?_
                refine wl_p (fun _ => o_ext20 rfl) ?_
                refine wl_p (fun _ => o_ext21 rfl) ?_
                refine wl_p (fun _ => o_assign rfl) ?_
                refine wl_p (fun _ => o_assign rfl) ?_
                refine wl_nil ?_
                refine rk_seq ?_
                refine rk_draw (id := 27) (none) [0, 1, 0, 6, 8, 16, 48, 64, 192, 64, 64, 1088, 2624, 4160, 8512, 16464, 32784] [0, 1, 0, 7, 15, 31, 63, 127, 255, 127, 127, 1151, 3711, 7807, 16383, 32767, 65535] 0 0 [(.p, 0), (.p, 1), (.p, 2), (.p, 3), (.p, 4), (.p, 5), (.p, 6), (.p, 7), (.r, 8), (.p, 9), (.p, 10), (.r, 11), (.p, 12), (.r, 13), (.p, 14), (.p, 15), (.p, 16)] (by kernel_rfl) (by kernel_rfl) (by kernel_rfl) (by kernel_rfl) (by kernel_rfl) ?_
                replace hw := hw.drew
                replace f32 := f32.d
                replace f42 := f42.d
                replace f40 := f40.d
                replace f38 := f38.d
                replace f := f.d
                replace f114 := f114.d
                refine wl_p (fun _ => o_move rfl) ?_
                refine wl_p (fun _ => o_eq rfl rfl) ?_
                refine wl_p (fun _ => o_move rfl) ?_
                refine wl_p (fun _ => o_bne (t := 4) Try.underlying4 rfl rfl) ?_
                refine wl_p (fun _ => o_move rfl) ?_
                refine wl_p (fun _ => o_move rfl) ?_
                refine wl_p (fun _ => o_move rfl) ?_
                refine wl_off ?_
                refine wl_off ?_
                refine wl_off ?_
                refine wl_off ?_
                refine wl_off ?_
                refine wl_off ?_
                refine wl_off ?_
                refine wl_off ?_
                refine wl_p (fun _ => o_pick_f rfl rfl) ?_
                refine wl_p (fun _ => o_pick_f rfl rfl) ?_
                refine wl_nild ?_
                refine rk_false rfl ?_
                refine rk_skip ?_
                refine rk_blk ?_
                exact rk_tof hj (Fr.le_of (by kernel_rfl) (by kernel_rfl) (by repeat' constructor)) ⟨S, C, X, Y, B, A9, c9, lo9, hi9, rfl, hlS, hX, hY, hB, f38, f40, f42, ql9, by show hi9 ≤ w114.heap.size; omega, by show wE.heap.size ≤ w114.heap.size; omega, f32, hw⟩
            by_cases h3 : t = 3
            · obtain ⟨S1, hS1⟩ : ∃ S1, cur S C = S1 := ⟨_, rfl⟩
              obtain ⟨C1, hC1⟩ : ∃ C1 : List (Option Sec), List.replicate S.length none = C1 := ⟨_, rfl⟩
              have hS1l : S1.length = m := by rw [← hS1, cur_len, hlS]
              have hX1 : X = (cur S1 C1).map Subtype.val := by rw [hX, hS1, ← hC1, cur_none]
              have hB1 : List.replicate m false = C1.map Option.isSome := by rw [← hC1, List.map_replicate, hlS]; rfl
              refine rk_if rfl (fun h108 => absurd h108 (by omega)) (fun h108 => ?_)
              refine rk_seq ?_
              refine rk_region ?_
              refine wl_p (fun _ => o_eq rfl rfl) ?_
              refine wl_p (fun _ => o_assign rfl) ?_
              refine wl_nil ?_
              refine rk_if rfl (fun h134 => ?_) (fun h134 => h134.elim (by omega))
              refine rk_seq ?_
              refine rk_seq ?_
              refine rk_region ?_
              refine wl_p (fun _ => o_move rfl) ?_
              refine wl_call rfl (C_dFlush _ f32 hS1 hC1) ?_
              rintro v137 w137 ⟨rfl, ⟨f137, g137⟩⟩
              have s137 := g137.size
              replace hw := hw.trans (g137.below hw.size (by omega))
              replace f := f.c g137 (by omega)
              replace f38 := f38.c g137 (by omega)
              replace f40 := f40.c g137 (by omega)
              replace f42 := f42.c g137 (by omega)
              clear f32
              refine wl_p (fun _ => o_ne rfl rfl) ?_
              refine wl_nil ?_
              refine rk_false rfl ?_
              refine rk_skip ?_
              refine rk_seq ?_
              refine rk_region ?_
              refine wl_p (fun _ => o_move rfl) ?_
              refine wl_p (fun _ => o_move rfl) ?_
              refine wl_cpSt Try.underlying30 rfl f40 rfl f38 (by omega) (by omega) (by omega) (by omega) ?_
              rintro w141 f141 g141 b141 e141
              have qf141 := f141.cap
              have s141 := g141.size
              replace hw := hw.trans (b141.mono (by omega))
              replace f42 := f42.y g141 (by decide)
              replace f38 := f38.k g141.g (f141.ap (by omega))
              replace f := f.y g141 (by decide)
              replace f137 := f137.k g141.g (f141.ap (by omega))
              clear f40
              refine wl_nil ?_
              refine rk_region ?_
              refine wl_p (fun _ => o_move rfl) ?_
              refine wl_mkBo (m) rfl rfl rfl rfl (by omega) ?_
              rintro A143 w143 f143 b143
              have qf143 := f143.cap
              have s143 := b143.size
              replace hw := hw.trans (b143.mono hw.size)
              replace f137 := f137.u b143
              replace f := f.u b143
              replace f38 := f38.u b143
              replace f42 := f42.u b143
              replace f141 := f141.u b143
              refine wl_p (fun _ => o_assign rfl) ?_
              refine wl_nil ?_
              refine rk_blk ?_
              exact rk_tof hj (Fr.le_of (by kernel_rfl) (by kernel_rfl) (by repeat' constructor)) ⟨S1, C1, X, X, _, _, m, _, _, rfl, hS1l, hX1, by rw [hX, hS1], hB1, f38, by assumption, by assumption, by omega, by omega, by omega, by assumption, hw⟩
            by_cases h4 : t = 4
            · obtain ⟨S1, hS1⟩ : ∃ S1, crash S C L[i].2.2.2.2 = S1 := ⟨_, rfl⟩
              obtain ⟨C1, hC1⟩ : ∃ C1 : List (Option Sec), List.replicate S.length none = C1 := ⟨_, rfl⟩
              obtain ⟨I, hI⟩ : ∃ I, ixz C = I := ⟨_, rfl⟩
              have hI1 : ixz C1 = [] := by rw [← hC1, ixz, cix_none]; rfl
              have hIl : I.length ≤ 16384 := by rw [← hI, ixz_len]; have := cnt_le C; omega
              obtain ⟨im, him⟩ : ∃ im, img S = im := ⟨_, rfl⟩
              obtain ⟨im1, him1⟩ : ∃ im1, img S1 = im1 := ⟨_, rfl⟩
              have hS1l : S1.length = m := by rw [← hS1, crash_len, hlS]
              refine rk_if rfl (fun h108 => absurd h108 (by omega)) (fun h108 => ?_)
              refine rk_seq ?_
              refine rk_region ?_
              refine wl_p (fun _ => o_eq rfl rfl) ?_
              refine wl_p (fun _ => o_assign rfl) ?_
              refine wl_nil ?_
              refine rk_if rfl (fun h134 => absurd h134 (by omega)) (fun h134 => ?_)
              refine rk_seq ?_
              refine rk_region ?_
              refine wl_p (fun _ => o_eq rfl rfl) ?_
              refine wl_p (fun _ => o_assign rfl) ?_
              refine wl_nil ?_
              refine rk_if rfl (fun h144 => ?_) (fun h144 => h144.elim (by omega))
              refine rk_seq ?_
              refine rk_region ?_
              refine wl_p (fun _ => o_move rfl) ?_
              refine wl_call rfl (C_dClone _ f32) ?_
              rintro v147 w147 ⟨g147, ⟨rfl, ⟨f147, b147⟩⟩⟩
              have s147 := b147.size
              replace hw := hw.trans (b147.mono hw.size)
              replace f := f.u b147
              replace f38 := f38.u b147
              replace f40 := f40.u b147
              replace f42 := f42.u b147
              replace f32 := f32.u b147
              refine wl_p (fun _ => o_assign rfl) ?_
              refine wl_nil ?_
              refine rk_seq ?_
              refine rk_seq ?_
              refine rk_drawo (id := 36) (none) [0, 0, 0, 4, 10, 17, 32, 96, 128, 384, 640, 1152, 2176, 4608, 8192, 24576, 40960, 73728, 172032, 262144, 786432, 1310720, 262144, 5505024, 8650752, 19136512, 33824768, 67117056] [0, 0, 0, 4, 14, 31, 63, 127, 255, 511, 1023, 2047, 4095, 8191, 16383, 32767, 65535, 131071, 262143, 524287, 1048575, 2097151, 524287, 6291455, 14680063, 33554431, 67108863, 134217727] 9470514 8388610 [0, 2, 3, 1, 4, 5, 6, 7, 8, 9, 10, 11, 12, 13, 14, 15, 16, 17, 18, 19, 22, 20, 21, 23, 24, 25, 26, 27] [(.p, 0), (.p, 2), (.s, 3), (.c, 1), (.l, 4), (.l, 5), (.p, 6), (.p, 7), (.p, 8), (.l, 9), (.p, 10), (.p, 11), (.p, 12), (.p, 13), (.p, 14), (.l, 15), (.p, 16), (.p, 17), (.p, 18), (.p, 19), (.p, 22), (.l, 20), (.s, 21), (.c, 23), (.r, 24), (.p, 25), (.p, 26), (.p, 27)] (by kernel_rfl) (by kernel_rfl) (by kernel_rfl) (by kernel_rfl) (by kernel_rfl) ?_
              dsimp only [inOrder, nthOp]
              replace hw := hw.drew
              replace f32 := f32.d
              replace f42 := f42.d
              replace f40 := f40.d
              replace f38 := f38.d
              replace f := f.d
              replace f147 := f147.d
              refine wl_p (fun _ => o_move rfl) ?_
              refine wl_p (fun _ => o_faddr (s := 35) (i := 4) (off := 4) Try.underlying35 rfl Try.sizeOf31 rfl rfl rfl) ?_
              refine wl_s (fun _ hk => (o_loadbg Try.isAgg31 rfl (f.u (below_of_grown_none hk)) (by rfl))) ?_
              refine wl_litBo0 rfl ?_
              rintro A149 w149 f149 b149
              simp only [drew_size] at f149
              simp only [drew_size] at b149
              have qf149 := f149.cap
              have s149 := b149.size
              simp only [drew_size] at s149
              replace hw := hw.trans (b149.mono hw.size)
              replace f147 := f147.u b149
              replace f := f.u b149
              replace f38 := f38.u b149
              replace f40 := f40.u b149
              replace f42 := f42.u b149
              replace f32 := f32.u b149
              refine wl_appBo0 rfl f149 rfl f67 hw rfl (by omega) (by omega) ?_
              rintro A152 c152 w152 f152 b152
              have qf152 := f152.cap
              have s152 := b152.size
              replace hw := hw.trans (b152.mono hw.size)
              replace f32 := f32.u b152
              replace f42 := f42.u b152
              replace f40 := f40.u b152
              replace f38 := f38.u b152
              replace f := f.u b152
              replace f147 := f147.u b152
              replace f149 := f149.u b152
              refine wl_call rfl (C_dCrash _ f32 f152.to_RdBo hS1 hC1 (by omega) rfl (by omega)) ?_
              rintro v153 w153 ⟨rfl, ⟨f153, g153⟩⟩
              have s153 := g153.size
              replace hw := hw.trans (g153.below hw.size (by omega))
              replace f149 := f149.c g153 (by omega)
              replace f147 := f147.c g153 (by omega)
              replace f := f.c g153 (by omega)
              replace f38 := f38.c g153 (by omega)
              replace f40 := f40.c g153 (by omega)
              replace f42 := f42.c g153 (by omega)
              replace f152 := f152.c g153 (by omega)
              clear f32
              refine wl_p (fun _ => o_ne rfl rfl) ?_
              refine wl_p (fun _ => o_move rfl) ?_
              refine wl_p (fun _ => o_move rfl) ?_
              refine wl_call rfl (C_dCached _ f153 hI1) ?_
              rintro v157 w157 ⟨A157, ⟨c157, ⟨rfl, ⟨f157, b157⟩⟩⟩⟩
              have qf157 := f157.cap
              have s157 := b157.size
              replace hw := hw.trans (b157.mono hw.size)
              replace f152 := f152.u b157
              replace f42 := f42.u b157
              replace f40 := f40.u b157
              replace f38 := f38.u b157
              replace f := f.u b157
              replace f147 := f147.u b157
              replace f149 := f149.u b157
              replace f153 := f153.u b157
              refine wl_p (fun _ => o_len (t := 41) Try.underlying41 rfl) ?_
              refine wl_p (fun _ => o_ne rfl rfl) ?_
              refine wl_p (fun _ => o_pick_f rfl rfl) ?_
              refine wl_p (fun _ => o_move rfl) ?_
              refine wl_p (fun _ => o_move rfl) ?_
              refine wl_call rfl (C_dCached _ f147 hI) ?_
              rintro v163 w163 ⟨A163, ⟨c163, ⟨rfl, ⟨f163, b163⟩⟩⟩⟩
              have qf163 := f163.cap
              have s163 := b163.size
              replace hw := hw.trans (b163.mono hw.size)
              replace f153 := f153.u b163
              replace f149 := f149.u b163
              replace f147 := f147.u b163
              replace f := f.u b163
              replace f38 := f38.u b163
              replace f40 := f40.u b163
              replace f42 := f42.u b163
              replace f152 := f152.u b163
              replace f157 := f157.u b163
              refine wl_p (fun _ => o_len (t := 41) Try.underlying41 rfl) ?_
              refine wl_p (fun _ => o_eq rfl rfl) ?_
              refine wl_p (fun _ => o_move rfl) ?_
              have hs163 := hw.size
              refine wl_joinf 9 (fun fb fr V => fr = [(175, .bool false)] ++ fb.drop 5 ∧ Blk V g12 35 [.int .i64 L[i].1, .int .i64 L[i].2.1, .int .u8 (L[i].2.2.1.toNat : Int), .bool L[i].2.2.2.1, .slice A167 L[i].2.2.2.2.length c167] ∧ OwnSt V lo0 hi0 A38 m X ∧ OwnSt V lo1 hi1 A40 m Y ∧ OwnBo V lo9 hi9 A9 c9 B ∧ DkAt V w28.heap.size w32.heap.size g32 S1 C1 ∧ w163.heap.size ≤ V.heap.size ∧ Below w.heap.size w V) ?_ (fun hj2 => ?_)
              rotate_left
              · refine wl_bool 166 rfl (fun h166 => ?_) (fun h166 => ?_) <;> try simp only [decide_eq_true_eq, decide_eq_false_iff_not, Bool.not_eq_true', Bool.not_eq_false', Bool.and_eq_true, Bool.and_eq_false_iff, Bool.or_eq_true, Bool.or_eq_false_iff] at h166
                · have hI0 : cnt C = 0 := by rw [← ixz_len, hI]; omega
                  have hSS : S1 = S := by rw [← hS1]; exact crash_cnt0 S C _ hI0
                  have hii : im1 = im := by rw [← him1, ← him, hSS]
                  subst hii
                  refine wl_p (fun _ => o_move rfl) ?_
                  refine wl_p (fun _ => o_move rfl) ?_
                  refine wl_call rfl (C_dImage _ f147 him) ?_
                  rintro v168 w168 ⟨A168, ⟨c168, ⟨rfl, ⟨f168, b168⟩⟩⟩⟩
                  have qf168 := f168.cap
                  have s168 := b168.size
                  replace hw := hw.trans (b168.mono hw.size)
                  replace f157 := f157.u b168
                  replace f152 := f152.u b168
                  replace f42 := f42.u b168
                  replace f40 := f40.u b168
                  replace f38 := f38.u b168
                  replace f := f.u b168
                  replace f147 := f147.u b168
                  replace f149 := f149.u b168
                  replace f153 := f153.u b168
                  replace f163 := f163.u b168
                  refine wl_s (fun _ hk => (o_strU Try.underlying32 Try.underlying5 Try.underlying9 rfl f168.to_Rd (below_of_grown_none hk) rfl)) ?_
                  refine wl_call rfl (C_dImage _ f153 him1) ?_ (hq := .inr fun _ _ h => by obtain ⟨_, _, _, _, hb⟩ := h; exact grown_of_below hb _)
                  rintro v171 w171 ⟨A171, ⟨c171, ⟨rfl, ⟨f171, b171⟩⟩⟩⟩
                  have qf171 := f171.cap
                  have s171 := b171.size
                  replace hw := hw.trans (b171.mono hw.size)
                  replace f163 := f163.u b171
                  replace f153 := f153.u b171
                  replace f149 := f149.u b171
                  replace f147 := f147.u b171
                  replace f := f.u b171
                  replace f38 := f38.u b171
                  replace f40 := f40.u b171
                  replace f42 := f42.u b171
                  replace f152 := f152.u b171
                  replace f157 := f157.u b171
                  replace f168 := f168.u b171
                  refine wl_r (o_strU Try.underlying32 Try.underlying5 Try.underlying9 rfl f171.to_Rd (Below.refl _ _) rfl) ?_
                  refine wl_p (fun _ => o_sne rfl rfl) ?_
                  refine wl_p (fun _ => o_pick_t rfl rfl) ?_
                  refine wl_p (fun _ => o_pick_f rfl rfl) ?_
                  rw [show decide (im1 ≠ im1) = false from decide_eq_false (fun h => h rfl)]
                  exact wl_tof hj2 (Fr.le_of (by kernel_rfl) (by kernel_rfl) (by repeat' constructor)) ⟨rfl, f, f38, f40, f42, f153, by omega, hw⟩
                · refine wl_off ?_
                  refine wl_off ?_
                  refine wl_off ?_
                  refine wl_off ?_
                  refine wl_off ?_
                  refine wl_off ?_
                  refine wl_off ?_
                  refine wl_p (fun _ => o_pick_f rfl rfl) ?_
                  refine wl_p (fun _ => o_pick_f rfl rfl) ?_
                  exact wl_tof hj2 (Fr.le_of (by kernel_rfl) (by kernel_rfl) (by repeat' constructor)) ⟨rfl, f, f38, f40, f42, f153, by omega, hw⟩
              clear f f38 f40 f42 f153 f149 f147 f152 f157 f163 hw
              rintro fr V4 ⟨rfl, f, f38, f40, f42, f153, hs4, hw⟩
              first | refine rk_frame (by simp only [List.cons_append, List.nil_append, List.drop_succ_cons, List.drop_zero]; rfl) ?_ | refine wl_frame (by simp only [List.cons_append, List.nil_append, List.drop_succ_cons, List.drop_zero]; rfl) ?_
              refine wl_nild ?_
              refine rk_false rfl ?_
              refine rk_skip ?_
              refine rk_seq ?_
              refine rk_region ?_
              refine wl_p (fun _ => o_assign rfl) ?_
              refine wl_nil ?_
              refine rk_seq ?_
              refine rk_seq ?_
              refine rk_region ?_
              refine wl_p (fun _ => o_assign rfl) ?_
              refine wl_nil ?_
              refine rk_block ?_
              refine rk_joinf (fun fb fr V => fr = [] ++ fb.drop 2 ∧ OwnSt V lo0 hi0 A38 m X ∧ OwnSt V lo1 hi1 A40 m (S1.map Subtype.val) ∧ OwnBo V lo9 hi9 A9 c9 B ∧ DkAt V w28.heap.size w32.heap.size g32 S1 C1 ∧ w163.heap.size ≤ V.heap.size ∧ Below w.heap.size w V) ?_ (fun ks hj2 => ?_)
              rotate_left
              · refine rk_loopf (fun fb k fr V => ∃ (j : Nat) (v u : Int) (Y1 : List By), fr = [(18, .int .i64 v), (17, .int .i64 u)] ++ fb.drop 2 ∧ v = j ∧ j ≤ m ∧ k = m - j ∧ u = (cnt (C.take j) : Nat) ∧ Y1 = (putS S C L[i].2.2.2.2 j).map Subtype.val ∧ Blk V g12 35 [.int .i64 L[i].1, .int .i64 L[i].2.1, .int .u8 (L[i].2.2.1.toNat : Int), .bool L[i].2.2.2.1, .slice A167 L[i].2.2.2.2.length c167] ∧ OwnSt V lo0 hi0 A38 m X ∧ OwnSt V lo1 hi1 A40 m Y1 ∧ OwnBo V lo9 hi9 A9 c9 B ∧ DkAt V w28.heap.size w32.heap.size g32 S1 C1 ∧ w163.heap.size ≤ V.heap.size ∧ Below w.heap.size w V) (n := m) (Fr.le_of (by kernel_rfl) (by kernel_rfl) (by repeat' constructor)) ⟨0, _, _, Y, rfl, rfl, by omega, rfl, rfl, by rw [putS_zero, hY], f, f38, f40, f42, f153, hs4, hw⟩ ?_
                clear f f38 f40 f42 f153 hs4 hw
                rintro k fr V5 ⟨j, v, u, Y1, rfl, rfl, hjm, rfl, rfl, hY1, f, f38, f40, f42, f153, hs4, hw⟩
                have hY1l : Y1.length = m := by rw [hY1, List.length_map, putS_len (by omega), hlS]
                first | refine rk_frame (by simp only [List.cons_append, List.nil_append, List.drop_succ_cons, List.drop_zero]; rfl) ?_ | refine wl_frame (by simp only [List.cons_append, List.nil_append, List.drop_succ_cons, List.drop_zero]; rfl) ?_
                refine rk_seq ?_
                refine rk_seq ?_
                refine rk_region ?_
                refine wl_p (fun _ => o_move rfl) ?_
                refine wl_p (fun _ => o_move rfl) ?_
                refine wl_p (fun _ => o_lt rfl rfl) ?_
                refine wl_nil ?_
                refine rk_if rfl (fun h178 => ?_) (fun h178 => ?_)
                · have hjC : j < C.length := by omega
                  have hjS : j < S.length := by omega
                  have hBj : B[j]'(by omega) = (C[j]).isSome := by subst hB; rw [List.getElem_map]
                  refine rk_skip ?_
                  refine rk_seq ?_
                  refine rk_block ?_
                  refine rk_seq ?_
                  refine rk_region ?_
                  refine wl_p (fun _ => o_move rfl) ?_
                  refine wl_p (fun _ => o_move rfl) ?_
                  refine wl_p (fun _ => (o_iaddrA1 (j) Try.underlying31 Try.sizeOf4 rfl rfl rfl (f42.some_ (by omega)) (by omega))) ?_
                  refine wl_r (o_ldBo Try.isAgg4 rfl f42.to_RdBo (by omega)) ?_
                  refine wl_nil ?_
                  rw [hBj]
                  cases hc : C[j] with
                  | none =>
                    simp only [Option.isSome_none]
                    refine rk_false rfl ?_
                    refine rk_skip ?_
                    refine rk_blk ?_
                    refine rk_region ?_
                    refine wl_p (fun _ => o_move rfl) ?_
                    refine wl_p (fun _ => o_add rfl rfl (by omega) (by omega)) ?_
                    refine wl_p (fun _ => o_assign rfl) ?_
                    refine wl_nil ?_
                    exact rk_againf (Fr.le_of (by kernel_rfl) (by kernel_rfl) (by repeat' constructor)) ⟨j + 1, (j : Int) + 1, _, Y1, rfl, by omega, by omega, rfl, by rw [cnt_take_none hjC hc], by rw [putS_none hle hjS hc]; exact hY1, f, f38, f40, f42, f153, hs4, hw⟩ (by omega)
                  | some x =>
                    simp only [Option.isSome_some]
                    have hkc : cnt (C.take j) ≤ j := by have := cnt_le (C.take j); rw [List.length_take] at this; omega
                    have hks := cnt_take_some hjC hc
                    have hnot := putS_not (kp := L[i].2.2.2.2) hle hjS hc
                    have hput := putS_put (kp := L[i].2.2.2.2) hle hjS hc
                    have hXj : X[j]'(by omega) = x.1 := by
                      subst hX
                      rw [List.getElem_map, cur_get S C j hjS hjC, hc]
                      rfl
                    obtain ⟨q, hq⟩ : ∃ q, cnt (C.take j) = q := ⟨_, rfl⟩
                    rw [hq] at hkc hks hnot hput
                    rw [hq]
                    refine rk_true rfl ?_
                    refine rk_seq ?_
                    refine rk_seq ?_
                    refine rk_region ?_
                    refine wl_p (fun _ => o_move rfl) ?_
                    refine wl_p (fun _ => o_faddr (s := 35) (i := 4) (off := 4) Try.underlying35 rfl Try.sizeOf31 rfl rfl rfl) ?_
                    refine wl_r (o_loadbg Try.isAgg31 rfl f (by rfl)) ?_
                    refine wl_p (fun _ => o_len (t := 31) Try.underlying31 rfl) ?_
                    refine wl_p (fun _ => o_lt rfl rfl) ?_
                    refine wl_p (fun _ => o_move rfl) ?_
                    refine wl_bool 190 rfl (fun h190 => ?_) (fun h190 => ?_) <;> try simp only [decide_eq_true_eq, decide_eq_false_iff_not, Bool.not_eq_true', Bool.not_eq_false', Bool.and_eq_true, Bool.and_eq_false_iff, Bool.or_eq_true, Bool.or_eq_false_iff] at h190
                    · have hql : q < L[i].2.2.2.2.length := by omega
                      have hbit := headD_drop hql
                      cases hkb : L[i].2.2.2.2[q] with
                      | true =>
                        rw [hkb] at hbit
                        refine wl_p (fun _ => o_faddr (s := 35) (i := 4) (off := 4) Try.underlying35 rfl Try.sizeOf31 rfl rfl rfl) ?_
                        refine wl_r (o_loadbg Try.isAgg31 rfl f (by rfl)) ?_
                        refine wl_p (fun _ => o_move rfl) ?_
                        refine wl_p (fun _ => (o_iaddrA1 (q) Try.underlying31 Try.sizeOf4 rfl rfl rfl (f67.some_ (by omega)) (by omega))) ?_
                        refine wl_r (o_ldBo Try.isAgg4 rfl (f67.u hw) (by omega)) ?_
                        refine wl_p (fun _ => o_pick_t rfl rfl) ?_
                        refine wl_nil ?_
                        rw [hkb]
                        refine rk_true rfl ?_
                        refine rk_region ?_
                        refine wl_p (fun _ => o_move rfl) ?_
                        refine wl_p (fun _ => o_move rfl) ?_
                        refine wl_p (fun _ => o_move rfl) ?_
                        refine wl_p (fun _ => o_move rfl) ?_
                        refine wl_p (fun _ => (o_iaddrA1 (j) Try.underlying30 Try.sizeOf9 rfl rfl rfl (f38.some_ (by omega)) (by omega))) ?_
                        refine wl_r (o_ldSt rfl f38 (by omega)) ?_
                        refine wl_p (fun _ => (o_iaddrA1 (j) Try.underlying30 Try.sizeOf9 rfl rfl rfl (f40.some_ (by omega)) (by omega))) ?_
                        refine wl_stSt rfl f40 rfl (by omega) ?_
                        rintro w_1 f_1 g_1 b e_1
                        have qf_1 := f_1.cap
                        have s_1 := g_1.size
                        replace hw := hw.trans (b.mono (by omega))
                        replace f153 := f153.k g_1.g (f_1.ap (by omega))
                        replace f42 := f42.y g_1 (by decide)
                        replace f38 := f38.k g_1.g (f_1.ap (by omega))
                        replace f := f.y g_1 (by decide)
                        clear f40
                        refine wl_nil ?_
                        refine rk_region ?_
                        refine wl_p (fun _ => o_move rfl) ?_
                        refine wl_p (fun _ => o_add rfl rfl (by omega) (by omega)) ?_
                        refine wl_p (fun _ => o_assign rfl) ?_
                        refine wl_nil ?_
                        refine rk_blk ?_
                        refine rk_region ?_
                        refine wl_p (fun _ => o_move rfl) ?_
                        refine wl_p (fun _ => o_add rfl rfl (by omega) (by omega)) ?_
                        refine wl_p (fun _ => o_assign rfl) ?_
                        refine wl_nil ?_
                        exact rk_againf (Fr.le_of (by kernel_rfl) (by kernel_rfl) (by repeat' constructor)) ⟨j + 1, (j : Int) + 1, (q : Int) + 1, Y1.set j X[j], rfl, by omega, by omega, rfl, by rw [hks]; rfl, by rw [hput hbit, List.map_set, ← hY1, hXj], f, f38, by assumption, f42, f153, by omega, hw⟩ (by omega)
                      | false =>
                        rw [hkb] at hbit
                        refine wl_p (fun _ => o_faddr (s := 35) (i := 4) (off := 4) Try.underlying35 rfl Try.sizeOf31 rfl rfl rfl) ?_
                        refine wl_r (o_loadbg Try.isAgg31 rfl f (by rfl)) ?_
                        refine wl_p (fun _ => o_move rfl) ?_
                        refine wl_p (fun _ => (o_iaddrA1 (q) Try.underlying31 Try.sizeOf4 rfl rfl rfl (f67.some_ (by omega)) (by omega))) ?_
                        refine wl_r (o_ldBo Try.isAgg4 rfl (f67.u hw) (by omega)) ?_
                        refine wl_p (fun _ => o_pick_t rfl rfl) ?_
                        refine wl_nil ?_
                        rw [hkb]
                        refine rk_false rfl ?_
                        refine rk_skip ?_
                        refine rk_region ?_
                        refine wl_p (fun _ => o_move rfl) ?_
                        refine wl_p (fun _ => o_add rfl rfl (by omega) (by omega)) ?_
                        refine wl_p (fun _ => o_assign rfl) ?_
                        refine wl_nil ?_
                        refine rk_blk ?_
                        refine rk_region ?_
                        refine wl_p (fun _ => o_move rfl) ?_
                        refine wl_p (fun _ => o_add rfl rfl (by omega) (by omega)) ?_
                        refine wl_p (fun _ => o_assign rfl) ?_
                        refine wl_nil ?_
                        exact rk_againf (Fr.le_of (by kernel_rfl) (by kernel_rfl) (by repeat' constructor)) ⟨j + 1, (j : Int) + 1, (q : Int) + 1, Y1, rfl, by omega, by omega, rfl, by rw [hks]; rfl, by rw [hnot hbit]; exact hY1, f, f38, f40, f42, f153, by omega, hw⟩ (by omega)
                    · have hbit := headD_drop0 (l := L[i].2.2.2.2) (k := q) (by omega)
                      refine wl_off ?_
                      refine wl_off ?_
                      refine wl_off ?_
                      refine wl_off ?_
                      refine wl_off ?_
                      refine wl_p (fun _ => o_pick_f rfl rfl) ?_
                      refine wl_nil ?_
                      refine rk_false rfl ?_
                      refine rk_skip ?_
                      refine rk_region ?_
                      refine wl_p (fun _ => o_move rfl) ?_
                      refine wl_p (fun _ => o_add rfl rfl (by omega) (by omega)) ?_
                      refine wl_p (fun _ => o_assign rfl) ?_
                      refine wl_nil ?_
                      refine rk_blk ?_
                      refine rk_region ?_
                      refine wl_p (fun _ => o_move rfl) ?_
                      refine wl_p (fun _ => o_add rfl rfl (by omega) (by omega)) ?_
                      refine wl_p (fun _ => o_assign rfl) ?_
                      refine wl_nil ?_
                      exact rk_againf (Fr.le_of (by kernel_rfl) (by kernel_rfl) (by repeat' constructor)) ⟨j + 1, (j : Int) + 1, (q : Int) + 1, Y1, rfl, by omega, by omega, rfl, by rw [hks]; rfl, by rw [hnot hbit]; exact hY1, f, f38, f40, f42, f153, by omega, hw⟩ (by omega)
                · refine rk_exit rfl ?_
                  obtain rfl : j = m := by omega
                  subst hlS
                  rw [putS_all hle, hS1] at hY1
                  subst hY1
                  exact rk_tof hj2 (Fr.le_of (by kernel_rfl) (by kernel_rfl) (by repeat' constructor)) ⟨rfl, f38, f40, f42, f153, hs4, hw⟩
              clear f f38 f40 f42 f153 hs4 hw
              rintro fr V6 ⟨rfl, f38, f40, f42, f153, hs4, hw⟩
              have hY2 : S1.map Subtype.val = (cur S1 C1).map Subtype.val := by rw [← hC1, cur_none]
              have hB1 : List.replicate m false = C1.map Option.isSome := by rw [← hC1, List.map_replicate, hlS]; rfl
              have hYl1 : (S1.map Subtype.val).length = m := by rw [List.length_map, hS1l]
              first | refine rk_frame (by simp only [List.cons_append, List.nil_append, List.drop_succ_cons, List.drop_zero]; rfl) ?_ | refine wl_frame (by simp only [List.cons_append, List.nil_append, List.drop_succ_cons, List.drop_zero]; rfl) ?_
              refine rk_seq ?_
              refine rk_region ?_
              refine wl_p (fun _ => o_move rfl) ?_
              refine wl_p (fun _ => o_move rfl) ?_
              refine wl_cpSt Try.underlying30 rfl f38 rfl f40 (by omega) (by omega) (by omega) (by omega) ?_
              rintro w208 f208 g208 b208 e208
              have qf208 := f208.cap
              have s208 := g208.size
              replace hw := hw.trans (b208.mono (by omega))
              replace f153 := f153.k g208.g (f208.ap (by omega))
              replace f42 := f42.y g208 (by decide)
              replace f40 := f40.k g208.g (f208.ap (by omega))
              clear f38
              refine wl_nil ?_
              refine rk_region ?_
              refine wl_p (fun _ => o_move rfl) ?_
              refine wl_mkBo (m) rfl rfl rfl rfl (by omega) ?_
              rintro A210 w210 f210 b210
              have qf210 := f210.cap
              have s210 := b210.size
              replace hw := hw.trans (b210.mono hw.size)
              replace f40 := f40.u b210
              replace f42 := f42.u b210
              replace f153 := f153.u b210
              replace f208 := f208.u b210
              refine wl_p (fun _ => o_assign rfl) ?_
              refine wl_nil ?_
              refine rk_blk ?_
              exact rk_tof hj (Fr.le_of (by kernel_rfl) (by kernel_rfl) (by repeat' constructor)) ⟨S1, C1, _, _, _, _, m, _, _, rfl, hS1l, hY2, rfl, hB1, by assumption, f40, by assumption, by omega, by omega, by omega, by assumption, hw⟩
            · obtain ⟨q, hq⟩ : ∃ q, actB L[i].2.2.1 L[i].2.2.2.1 = q := ⟨_, rfl⟩
              have hql : q.length = if L[i].2.2.2.1 then 257 else 256 := by
                rw [← hq, actB]
                split <;> simp [rowB]
              by_cases hth : 0 ≤ L[i].2.1 ∧ L[i].2.1 < (m : Int)
              · have e : bt = true := by rw [← hbt]; exact decide_eq_true hth
                subst e
                cases hlg : L[i].2.2.2.1 with
                | false =>
                  rw [hlg, if_neg (by simp)] at hql
                  obtain ⟨j, hja⟩ : ∃ j : Nat, L[i].2.1 = (j : Int) := ⟨L[i].2.1.toNat, by omega⟩
                  have hz : wrC S C L[i].2.1 q = (C.set j (some ⟨q, hql⟩), 0) := by
                    rw [hja, wrC, dif_pos ⟨by omega, hql⟩]; rfl
                  refine rk_if rfl (fun h108 => absurd h108 (by omega)) (fun h108 => ?_)
                  refine rk_seq ?_
                  refine rk_region ?_
                  refine wl_p (fun _ => o_eq rfl rfl) ?_
                  refine wl_p (fun _ => o_assign rfl) ?_
                  refine wl_nil ?_
                  refine rk_if rfl (fun h134 => absurd h134 (by omega)) (fun h134 => ?_)
                  refine rk_seq ?_
                  refine rk_region ?_
                  refine wl_p (fun _ => o_eq rfl rfl) ?_
                  refine wl_p (fun _ => o_assign rfl) ?_
                  refine wl_nil ?_
                  refine rk_if rfl (fun h144 => absurd h144 (by omega)) (fun h144 => ?_)
                  refine rk_seq ?_
                  refine rk_draw (id := 20) (none) [0, 0, 2, 0, 8, 21, 63] [0, 0, 2, 0, 8, 31, 63] 48 16 [(.p, 0), (.p, 1), (.s, 2), (.r, 3), (.c, 4), (.l, 5), (.p, 6)] (by kernel_rfl) (by kernel_rfl) (by kernel_rfl) (by kernel_rfl) (by kernel_rfl) ?_
                  replace f := f.d
                  replace f38 := f38.d
                  replace f40 := f40.d
                  replace f42 := f42.d
                  replace f32 := f32.d
                  replace hw := hw.drew
                  refine wl_p (fun _ => o_move rfl) ?_
                  refine wl_p (fun _ => o_faddr (s := 35) (i := 1) (off := 1) Try.underlying35 rfl Try.sizeOf3 rfl rfl rfl) ?_
                  refine wl_s (fun _ hk => (o_loadbg Try.isAgg3 rfl (f.u (below_of_grown_none hk)) (by rfl))) ?_
                  refine wl_r (o_loadag Try.isAgg35 Try.sizeOf35 rfl f (by rfl)) ?_
                  refine wl_call rfl (C_actBytes _ (by rfl) hq) ?_ (hq := .inr fun _ _ h => grown_of_below h.choose_spec.choose_spec.2.2.2 _)
                  rintro v84 w84 ⟨A84, ⟨c84, ⟨rfl, ⟨f84, ⟨i84, b84⟩⟩⟩⟩⟩
                  simp only [drew_size] at f84
                  simp only [drew_size] at b84
                  have qf84 := f84.cap
                  have s84 := b84.size
                  simp only [drew_size] at s84
                  replace hw := hw.trans (b84.mono hw.size)
                  replace f32 := f32.u b84
                  replace f42 := f42.u b84
                  replace f40 := f40.u b84
                  replace f38 := f38.u b84
                  replace f := f.u b84
                  refine wl_call rfl (C_dWriteN _ f32 f84.to_Rd hz e67_1 rfl (by omega)) ?_
                  rintro v85 w85 ⟨rfl, ⟨f85, g85⟩⟩
                  dsimp only at f85
                  dsimp only
                  have s85 := g85.size
                  replace hw := hw.trans (g85.below hw.size (by omega))
                  replace f := f.c g85 (by omega)
                  replace f38 := f38.c g85 (by omega)
                  replace f40 := f40.c g85 (by omega)
                  replace f42 := f42.c g85 (by omega)
                  replace f84 := f84.c g85 (by omega)
                  clear f32
                  refine wl_p (fun _ => o_assign rfl) ?_
                  refine wl_nild ?_
                  refine rk_seq ?_
                  refine rk_seq ?_
                  refine rk_region ?_
                  refine wl_p (fun _ => o_move rfl) ?_
                  refine wl_p (fun _ => o_eq rfl rfl) ?_
                  refine wl_p (fun _ => o_move rfl) ?_
                  refine wl_p (fun _ => o_move rfl) ?_
                  refine wl_p (fun _ => o_faddr (s := 35) (i := 3) (off := 3) Try.underlying35 rfl Try.sizeOf4 rfl rfl rfl) ?_
                  refine wl_r (o_loadbg Try.isAgg4 rfl f (by rfl)) ?_
                  refine wl_p (fun _ => o_not rfl) ?_
                  refine wl_p (fun _ => o_pick_t rfl rfl) ?_
                  refine wl_p (fun _ => o_bne (t := 4) Try.underlying4 rfl rfl) ?_
                  refine wl_nil ?_
                  rw [hlg]
                  refine rk_false rfl ?_
                  refine rk_skip ?_
                  refine rk_seq ?_
                  refine rk_region ?_
                  refine wl_p (fun _ => o_move rfl) ?_
                  refine wl_p (fun _ => o_eq rfl rfl) ?_
                  refine wl_nil ?_
                  refine rk_true rfl ?_
                  refine rk_draw (id := 24) ((blk A38)) [0, 0, 2, 0, 0, 16, 0, 64, 128, 455, 967, 2047, 4095] [0, 0, 2, 0, 0, 16, 0, 64, 192, 455, 967, 2047, 4095] 5248 1152 [(.p, 0), (.p, 1), (.s, 2), (.p, 3), (.p, 4), (.s, 5), (.r, 6), (.c, 7), (.r, 8), (.p, 9), (.c, 10), (.p, 11), (.l, 12)] (by kernel_rfl) (by kernel_rfl) (by kernel_rfl) (by kernel_rfl) (by kernel_rfl) ?_
                  replace f := f.d
                  replace f38 := f38.d
                  replace f40 := f40.d
                  replace f42 := f42.d
                  replace f85 := f85.d
                  replace hw := hw.drew
                  refine wl_p (fun _ => o_move rfl) ?_
                  refine wl_p (fun _ => o_faddr (s := 35) (i := 1) (off := 1) Try.underlying35 rfl Try.sizeOf3 rfl rfl rfl) ?_
                  refine wl_s (fun _ hk => (o_loadbg Try.isAgg3 rfl (f.k hk (f38.ap (by omega))) (by rfl))) ?_
                  refine wl_p (fun _ => o_move rfl) ?_
                  refine wl_p (fun _ => o_faddr (s := 35) (i := 1) (off := 1) Try.underlying35 rfl Try.sizeOf3 rfl rfl rfl) ?_
                  refine wl_s (fun _ hk => (o_loadbg Try.isAgg3 rfl (f.k hk (f38.ap (by omega))) (by rfl))) ?_
                  refine wl_r (o_loadag Try.isAgg35 Try.sizeOf35 rfl f (by rfl)) ?_
                  refine wl_call rfl (C_actBytes _ (by rfl) hq) ?_ (hq := .inr fun _ _ h => grown_of_below h.choose_spec.choose_spec.2.2.2 _)
                  rintro v104 w104 ⟨A104, ⟨c104, ⟨rfl, ⟨f104, ⟨i104, b104⟩⟩⟩⟩⟩
                  simp only [drew_size] at f104
                  simp only [drew_size] at b104
                  have qf104 := f104.cap
                  have s104 := b104.size
                  simp only [drew_size] at s104
                  replace hw := hw.trans (b104.mono hw.size)
                  replace f85 := f85.u b104
                  replace f42 := f42.u b104
                  replace f40 := f40.u b104
                  replace f38 := f38.u b104
                  replace f := f.u b104
                  refine wl_r (o_strU Try.underlying32 Try.underlying5 Try.underlying9 rfl f104.to_Rd (Below.refl _ _) rfl) ?_
                  refine wl_p (fun _ => (o_iaddrA1 (j) Try.underlying30 Try.sizeOf9 rfl rfl hja (f38.some_ (by omega)) (by omega))) ?_
                  refine wl_stSt rfl f38 rfl (by omega) ?_ (hq := .inr rfl)
                  rintro w_1 f_1 g_1 b e_1
                  have qf_1 := f_1.cap
                  have s_1 := g_1.size
                  replace hw := hw.trans (b.mono (by omega))
                  replace f := f.y g_1 (by decide)
                  replace f40 := f40.k g_1.g (f_1.ap (by omega))
                  replace f42 := f42.y g_1 (by decide)
                  replace f85 := f85.k g_1.g (f_1.ap (by omega))
                  replace f104 := f104.y g_1 (by decide)
                  clear f38
                  refine wl_p (fun _ => (o_iaddrA1 (j) Try.underlying31 Try.sizeOf4 rfl rfl hja (f42.some_ (by omega)) (by omega))) ?_
                  refine wl_stBo Try.sizeOf4 rfl f42 rfl (by omega) ?_
                  rintro w_2 f_2 g_2 b_1 e_2
                  have qf_2 := f_2.cap
                  have s_2 := g_2.size
                  replace hw := hw.trans (b_1.mono (by omega))
                  replace f104 := f104.y g_2 (by decide)
                  replace f85 := f85.k g_2.g (f_2.ap (by omega))
                  replace f40 := f40.y g_2 (by decide)
                  replace f := f.y g_2 (by decide)
                  replace f_1 := f_1.y g_2 (by decide)
                  clear f42
                  refine wl_nild ?_
                  refine rk_blk ?_
                  have hX2 : X.set j q = (cur S (C.set j (some ⟨q, hql⟩))).map Subtype.val := by rw [cur_set _ _ _ _ hle, List.map_set, ← hX]
                  have hB2 : B.set j true = (C.set j (some ⟨q, hql⟩)).map Option.isSome := by rw [List.map_set, ← hB]; rfl
                  exact rk_tof hj (Fr.le_of (by kernel_rfl) (by kernel_rfl) (by repeat' constructor)) ⟨S, _, _, Y, _, A9, c9, lo9, hi9, rfl, hlS, hX2, hY, hB2, by assumption, by assumption, by assumption, ql9, by omega, by omega, by assumption, hw⟩
                | true =>
                  rw [hlg, if_pos rfl] at hql
                  have hz : wrC S C L[i].2.1 q = (C, 2) := by rw [wrC, dif_neg (fun h => by omega)]
                  refine rk_if rfl (fun h108 => absurd h108 (by omega)) (fun h108 => ?_)
                  refine rk_seq ?_
                  refine rk_region ?_
                  refine wl_p (fun _ => o_eq rfl rfl) ?_
                  refine wl_p (fun _ => o_assign rfl) ?_
                  refine wl_nil ?_
                  refine rk_if rfl (fun h134 => absurd h134 (by omega)) (fun h134 => ?_)
                  refine rk_seq ?_
                  refine rk_region ?_
                  refine wl_p (fun _ => o_eq rfl rfl) ?_
                  refine wl_p (fun _ => o_assign rfl) ?_
                  refine wl_nil ?_
                  refine rk_if rfl (fun h144 => absurd h144 (by omega)) (fun h144 => ?_)
                  refine rk_seq ?_
                  refine rk_draw (id := 20) (none) [0, 0, 2, 0, 8, 21, 63] [0, 0, 2, 0, 8, 31, 63] 48 16 [(.p, 0), (.p, 1), (.s, 2), (.r, 3), (.c, 4), (.l, 5), (.p, 6)] (by kernel_rfl) (by kernel_rfl) (by kernel_rfl) (by kernel_rfl) (by kernel_rfl) ?_
                  replace hw := hw.drew
                  replace f := f.d
                  replace f38 := f38.d
                  replace f40 := f40.d
                  replace f42 := f42.d
                  replace f32 := f32.d
                  refine wl_p (fun _ => o_move rfl) ?_
                  refine wl_p (fun _ => o_faddr (s := 35) (i := 1) (off := 1) Try.underlying35 rfl Try.sizeOf3 rfl rfl rfl) ?_
                  refine wl_s (fun _ hk => (o_loadbg Try.isAgg3 rfl (f.u (below_of_grown_none hk)) (by rfl))) ?_
                  refine wl_r (o_loadag Try.isAgg35 Try.sizeOf35 rfl f (by rfl)) ?_
                  refine wl_call rfl (C_actBytes _ (by rfl) hq) ?_ (hq := .inr fun _ _ h => grown_of_below h.choose_spec.choose_spec.2.2.2 _)
                  rintro v84 w84 ⟨A84, ⟨c84, ⟨rfl, ⟨f84, ⟨i84, b84⟩⟩⟩⟩⟩
                  simp only [drew_size] at f84
                  simp only [drew_size] at b84
                  have qf84 := f84.cap
                  have s84 := b84.size
                  simp only [drew_size] at s84
                  replace hw := hw.trans (b84.mono hw.size)
                  replace f32 := f32.u b84
                  replace f42 := f42.u b84
                  replace f40 := f40.u b84
                  replace f38 := f38.u b84
                  replace f := f.u b84
                  refine wl_call rfl (C_dWriteN _ f32 f84.to_Rd hz e67_1 rfl (by omega)) ?_
                  rintro v85 w85 ⟨rfl, ⟨f85, g85⟩⟩
                  dsimp only at f85
                  dsimp only
                  have s85 := g85.size
                  replace hw := hw.trans (g85.below hw.size (by omega))
                  replace f := f.c g85 (by omega)
                  replace f38 := f38.c g85 (by omega)
                  replace f40 := f40.c g85 (by omega)
                  replace f42 := f42.c g85 (by omega)
                  replace f84 := f84.c g85 (by omega)
                  clear f32
                  refine wl_p (fun _ => o_assign rfl) ?_
                  refine wl_nild ?_
                  refine rk_seq ?_
                  refine rk_seq ?_
                  refine rk_region ?_
                  refine wl_p (fun _ => o_move rfl) ?_
                  refine wl_p (fun _ => o_eq rfl rfl) ?_
                  refine wl_p (fun _ => o_move rfl) ?_
                  refine wl_p (fun _ => o_move rfl) ?_
                  refine wl_p (fun _ => o_faddr (s := 35) (i := 3) (off := 3) Try.underlying35 rfl Try.sizeOf4 rfl rfl rfl) ?_
                  refine wl_r (o_loadbg Try.isAgg4 rfl f (by rfl)) ?_
                  refine wl_p (fun _ => o_not rfl) ?_
                  refine wl_p (fun _ => o_pick_t rfl rfl) ?_
                  refine wl_p (fun _ => o_bne (t := 4) Try.underlying4 rfl rfl) ?_
                  refine wl_nil ?_
                  rw [hlg]
                  refine rk_false rfl ?_
                  refine rk_skip ?_
                  refine rk_seq ?_
                  refine rk_region ?_
                  refine wl_p (fun _ => o_move rfl) ?_
                  refine wl_p (fun _ => o_eq rfl rfl) ?_
                  refine wl_nil ?_
                  refine rk_false rfl ?_
                  refine rk_skip ?_
                  refine rk_blk ?_
                  exact rk_tof hj (Fr.le_of (by kernel_rfl) (by kernel_rfl) (by repeat' constructor)) ⟨S, C, X, Y, B, A9, c9, lo9, hi9, rfl, hlS, hX, hY, hB, f38, f40, f42, ql9, by omega, by omega, by assumption, hw⟩
              · have e : bt = false := by rw [← hbt]; exact decide_eq_false hth
                subst e
                have hz : wrC S C L[i].2.1 q = (C, 2) := by rw [wrC, dif_neg (fun h => hth (by rw [← hlS]; exact h.1))]
                refine rk_if rfl (fun h108 => absurd h108 (by omega)) (fun h108 => ?_)
                refine rk_seq ?_
                refine rk_region ?_
                refine wl_p (fun _ => o_eq rfl rfl) ?_
                refine wl_p (fun _ => o_assign rfl) ?_
                refine wl_nil ?_
                refine rk_if rfl (fun h134 => absurd h134 (by omega)) (fun h134 => ?_)
                refine rk_seq ?_
                refine rk_region ?_
                refine wl_p (fun _ => o_eq rfl rfl) ?_
                refine wl_p (fun _ => o_assign rfl) ?_
                refine wl_nil ?_
                refine rk_if rfl (fun h144 => absurd h144 (by omega)) (fun h144 => ?_)
                refine rk_seq ?_
                refine rk_draw (id := 20) (none) [0, 0, 2, 0, 8, 21, 63] [0, 0, 2, 0, 8, 31, 63] 48 16 [(.p, 0), (.p, 1), (.s, 2), (.r, 3), (.c, 4), (.l, 5), (.p, 6)] (by kernel_rfl) (by kernel_rfl) (by kernel_rfl) (by kernel_rfl) (by kernel_rfl) ?_
                replace hw := hw.drew
                replace f := f.d
                replace f38 := f38.d
                replace f40 := f40.d
                replace f42 := f42.d
                replace f32 := f32.d
                refine wl_p (fun _ => o_move rfl) ?_
                refine wl_p (fun _ => o_faddr (s := 35) (i := 1) (off := 1) Try.underlying35 rfl Try.sizeOf3 rfl rfl rfl) ?_
                refine wl_s (fun _ hk => (o_loadbg Try.isAgg3 rfl (f.u (below_of_grown_none hk)) (by rfl))) ?_
                refine wl_r (o_loadag Try.isAgg35 Try.sizeOf35 rfl f (by rfl)) ?_
                refine wl_call rfl (C_actBytes _ (by rfl) hq) ?_ (hq := .inr fun _ _ h => grown_of_below h.choose_spec.choose_spec.2.2.2 _)
                rintro v84 w84 ⟨A84, ⟨c84, ⟨rfl, ⟨f84, ⟨i84, b84⟩⟩⟩⟩⟩
                simp only [drew_size] at f84
                simp only [drew_size] at b84
                have qf84 := f84.cap
                have s84 := b84.size
                simp only [drew_size] at s84
                replace hw := hw.trans (b84.mono hw.size)
                replace f32 := f32.u b84
                replace f42 := f42.u b84
                replace f40 := f40.u b84
                replace f38 := f38.u b84
                replace f := f.u b84
                refine wl_call rfl (C_dWriteN _ f32 f84.to_Rd hz e67_1 rfl (by omega)) ?_
                rintro v85 w85 ⟨rfl, ⟨f85, g85⟩⟩
                dsimp only at f85
                dsimp only
                have s85 := g85.size
                replace hw := hw.trans (g85.below hw.size (by omega))
                replace f := f.c g85 (by omega)
                replace f38 := f38.c g85 (by omega)
                replace f40 := f40.c g85 (by omega)
                replace f42 := f42.c g85 (by omega)
                replace f84 := f84.c g85 (by omega)
                clear f32
                refine wl_p (fun _ => o_assign rfl) ?_
                refine wl_nild ?_
                refine rk_seq ?_
                refine rk_seq ?_
                refine rk_region ?_
                refine wl_p (fun _ => o_move rfl) ?_
                refine wl_p (fun _ => o_eq rfl rfl) ?_
                refine wl_p (fun _ => o_move rfl) ?_
                refine wl_p (fun _ => o_move rfl) ?_
                refine wl_off ?_
                refine wl_off ?_
                refine wl_off ?_
                refine wl_p (fun _ => o_pick_f rfl rfl) ?_
                refine wl_p (fun _ => o_bne (t := 4) Try.underlying4 rfl rfl) ?_
                refine wl_nil ?_
                refine rk_false rfl ?_
                refine rk_skip ?_
                refine rk_seq ?_
                refine rk_region ?_
                refine wl_p (fun _ => o_move rfl) ?_
                refine wl_p (fun _ => o_eq rfl rfl) ?_
                refine wl_nil ?_
                refine rk_false rfl ?_
                refine rk_skip ?_
                refine rk_blk ?_
                exact rk_tof hj (Fr.le_of (by kernel_rfl) (by kernel_rfl) (by repeat' constructor)) ⟨S, C, X, Y, B, A9, c9, lo9, hi9, rfl, hlS, hX, hY, hB, f38, f40, f42, ql9, by omega, by omega, by assumption, hw⟩
          clear hX hY hB f38 f40 f42 ql9 qh9 hsE f32 hw
          rintro fr V2 ⟨S, C, X, Y, B, A9, c9, lo9, hi9, rfl, hlS, hX, hY, hB, f38, f40, f42, ql9, qh9, hsE, f32, hw⟩
          have hYl : Y.length = m := by rw [hY, List.length_map, hlS]
          have himl := img_len S
          first | refine rk_frame (by simp only [List.cons_append, List.nil_append, List.drop_succ_cons, List.drop_zero]; rfl) ?_ | refine wl_frame (by simp only [List.cons_append, List.nil_append, List.drop_succ_cons, List.drop_zero]; rfl) ?_
          refine rk_seq ?_
          refine rk_region ?_
          refine wl_p (fun _ => o_assign rfl) ?_
          refine wl_nil ?_
          refine rk_seq ?_
          refine rk_seq ?_
          refine rk_region ?_
          refine wl_p (fun _ => o_assign rfl) ?_
          refine wl_nil ?_
          refine rk_block ?_
          refine rk_joinf (fun fb fr V => fr = [(20, .string ⟨(img S).toArray⟩)] ++ fb.drop 2 ∧ V = V2) ?_ (fun ks hj => ?_)
          rotate_left
          · refine rk_loopf (fun fb k fr V => ∃ (j : Nat) (v : Int) (s : By), fr = [(21, .int .i64 v), (20, .string ⟨s.toArray⟩)] ++ fb.drop 2 ∧ v = j ∧ j ≤ m ∧ k = m - j ∧ s = img (S.take j) ∧ V = V2) (n := m) (Fr.le_of (by kernel_rfl) (by kernel_rfl) (by repeat' constructor)) ⟨0, _, [], rfl, rfl, by omega, rfl, rfl, rfl⟩ ?_
            rintro k fr V3 ⟨j, v, s, rfl, rfl, hj', rfl, hs, rfl⟩
            have hsl : s.length ≤ 40 * 256 := by rw [hs, img_len, List.length_take]; omega
            first | refine rk_frame (by simp only [List.cons_append, List.nil_append, List.drop_succ_cons, List.drop_zero]; rfl) ?_ | refine wl_frame (by simp only [List.cons_append, List.nil_append, List.drop_succ_cons, List.drop_zero]; rfl) ?_
            refine rk_seq ?_
            refine rk_seq ?_
            refine rk_region ?_
            refine wl_p (fun _ => o_move rfl) ?_
            refine wl_p (fun _ => o_move rfl) ?_
            refine wl_p (fun _ => o_lt rfl rfl) ?_
            refine wl_nil ?_
            refine rk_if rfl (fun h213 => ?_) (fun h213 => ?_)
            · have hjY : Y[j]'(by omega) = (S[j]'(by omega)).1 := by subst hY; rw [List.getElem_map]
              have hjl : (Y[j]'(by omega)).length = 256 := by rw [hjY]; exact (S[j]'(by omega)).2
              refine rk_skip ?_
              refine rk_seq ?_
              refine rk_block ?_
              refine rk_region ?_
              refine wl_p (fun _ => o_move rfl) ?_
              refine wl_p (fun _ => o_move rfl) ?_
              refine wl_p (fun _ => o_move rfl) ?_
              refine wl_p (fun _ => (o_iaddrA1 (j) Try.underlying30 Try.sizeOf9 rfl rfl rfl (f40.some_ (by omega)) (by omega))) ?_
              refine wl_r (o_ldSt rfl f40 (by omega)) ?_
              refine wl_p (fun _ => (o_sadd rfl rfl (by omega))) ?_
              refine wl_p (fun _ => o_assign rfl) ?_
              refine wl_nil ?_
              refine rk_blk ?_
              refine rk_region ?_
              refine wl_p (fun _ => o_move rfl) ?_
              refine wl_p (fun _ => o_add rfl rfl (by omega) (by omega)) ?_
              refine wl_p (fun _ => o_assign rfl) ?_
              refine wl_nil ?_
              exact rk_againf (Fr.le_of (by kernel_rfl) (by kernel_rfl) (by repeat' constructor)) ⟨j + 1, (j : Int) + 1, s ++ Y[j], rfl, by omega, by omega, rfl, by rw [List.take_succ_eq_append_getElem (by omega), img_snoc, ← hs, hjY], rfl⟩ (by omega)
            · refine rk_exit rfl ?_
              obtain rfl : j = m := by omega
              rw [List.take_of_length_le (by omega)] at hs
              subst hs
              exact rk_tof hj (Fr.le_of (by kernel_rfl) (by kernel_rfl) (by repeat' constructor)) ⟨rfl, rfl⟩
          rintro fr V3 ⟨rfl, rfl⟩
          obtain ⟨im, him⟩ : ∃ im, img S = im := ⟨_, rfl⟩
          rw [him] at himl
          rw [him]
          first | refine rk_frame (by simp only [List.cons_append, List.nil_append, List.drop_succ_cons, List.drop_zero]; rfl) ?_ | refine wl_frame (by simp only [List.cons_append, List.nil_append, List.drop_succ_cons, List.drop_zero]; rfl) ?_
          refine rk_seq ?_
          refine rk_region ?_
          refine wl_p (fun _ => o_move rfl) ?_
          refine wl_call rfl (C_dImage _ f32 him) ?_
          rintro v223 w223 ⟨A223, ⟨c223, ⟨rfl, ⟨f223, b223⟩⟩⟩⟩
          have qf223 := f223.cap
          have s223 := b223.size
          replace hw := hw.trans (b223.mono hw.size)
          replace f32 := f32.u b223
          replace f42 := f42.u b223
          replace f40 := f40.u b223
          replace f38 := f38.u b223
          refine wl_r (o_strU Try.underlying32 Try.underlying5 Try.underlying9 rfl f223.to_Rd (Below.refl _ _) rfl) ?_
          refine wl_p (fun _ => o_move rfl) ?_
          refine wl_p (fun _ => o_sne rfl rfl) ?_
          refine wl_nil ?_
          refine rk_cond rfl (fun h226 => by simp at h226) (fun h226 => ?_)
          refine rk_skip ?_
          refine rk_blk ?_
          refine rk_region ?_
          refine wl_p (fun _ => o_move rfl) ?_
          refine wl_p (fun _ => o_add rfl rfl (by omega) (by omega)) ?_
          refine wl_p (fun _ => o_assign rfl) ?_
          refine wl_nil ?_
          exact rk_againf (Fr.le_of (by kernel_rfl) (by kernel_rfl) (by repeat' constructor)) ⟨i + 1, (i : Int) + 1, S, C, X, Y, B, A9, c9, lo9, hi9, rfl, by omega, by omega, rfl, hlS, hX, hY, hB, f38, f40, f42, ql9, by omega, by omega, f32, hw⟩ (by omega)
        · refine rk_exit rfl ?_
          exact rk_tof hj (Fr.le_of (by kernel_rfl) (by kernel_rfl) (by repeat' constructor)) ⟨rfl, hw⟩
      clear f38 f40 f42 f32 hw
      rintro fr V ⟨rfl, hw⟩
      first | refine rk_frame (by simp only [List.cons_append, List.nil_append, List.drop_succ_cons, List.drop_zero]; rfl) ?_ | refine wl_frame (by simp only [List.cons_append, List.nil_append, List.drop_succ_cons, List.drop_zero]; rfl) ?_
      refine rk_seq ?_
      refine rk_region ?_
      refine wl_p (fun _ => o_assign rfl) ?_
      refine wl_nil ?_
      refine ret1 rfl rfl ?_
      exact ⟨rfl, hw⟩
    · refine wl_mkSt (m) rfl rfl rfl rfl (by omega) ?_
      rintro A38 w38 f38 b38
      simp only [drew_size] at f38
      simp only [drew_size] at b38
      have qf38 := f38.cap
      have s38 := b38.size
      simp only [drew_size] at s38
      replace hw := hw.trans (b38.mono hw.size)
      replace f32 := f32.u b38
      refine wl_p (fun _ => o_assign rfl) ?_
      refine wl_fork2j (m := 87) (L := 42) (C := 0) (n := 4) (k1 := 3) (k2 := 5) _ [0, 1, 0, 4, 0, 16, 3, 79, 255] [0, 1, 0, 4, 0, 16, 3, 79, 255] [3, 7, 5, 8] [5, 3, 7, 8] [8] [(.p, 7), (.l, 5), (.p, 8)] [(.l, 3), (.p, 7), (.p, 8)] [(.p, 8)] (by kernel_rfl) (by kernel_rfl) (by kernel_rfl) (by kernel_rfl) (by kernel_rfl) hj (fun hj => ?_) (fun hj => ?_) <;> dsimp only [inOrder, nthOp]
      · refine wl_mkSt (m) rfl rfl rfl rfl (by omega) ?_
        rintro A40 w40 f40 b40
        have qf40 := f40.cap
        have s40 := b40.size
        replace hw := hw.trans (b40.mono hw.size)
        replace f32 := f32.u b40
        replace f38 := f38.u b40
        refine wl_p (fun _ => o_assign rfl) ?_
        refine wl_mkBo (m) rfl rfl rfl rfl (by omega) ?_
        rintro A42 w42 f42 b42
        have qf42 := f42.cap
        have s42 := b42.size
        replace hw := hw.trans (b42.mono hw.size)
        replace f38 := f38.u b42
        replace f32 := f32.u b42
        replace f40 := f40.u b42
        exact wl_tof hj (Fr.le_of (by kernel_rfl) (by kernel_rfl) (by repeat' constructor)) ⟨_, _, _, _, _, _, _, _, _, rfl, f38, f40, f42, ⟨by omega, by omega, by omega⟩, ⟨by omega, by omega, by omega⟩, ⟨by omega, by omega, by omega⟩, by omega, f32, hw⟩
      · refine wl_mkBo (m) rfl rfl rfl rfl (by omega) ?_
        rintro A42 w42 f42 b42
        have qf42 := f42.cap
        have s42 := b42.size
        replace hw := hw.trans (b42.mono hw.size)
        replace f32 := f32.u b42
        replace f38 := f38.u b42
        refine wl_mkSt (m) rfl rfl rfl rfl (by omega) ?_
        rintro A40 w40 f40 b40
        have qf40 := f40.cap
        have s40 := b40.size
        replace hw := hw.trans (b40.mono hw.size)
        replace f38 := f38.u b40
        replace f32 := f32.u b40
        replace f42 := f42.u b40
        refine wl_p (fun _ => o_assign rfl) ?_
        exact wl_tof hj (Fr.le_of (by kernel_rfl) (by kernel_rfl) (by repeat' constructor)) ⟨_, _, _, _, _, _, _, _, _, rfl, f38, f40, f42, ⟨by omega, by omega, by omega⟩, ⟨by omega, by omega, by omega⟩, ⟨by omega, by omega, by omega⟩, by omega, f32, hw⟩
    · refine wl_mkSt (m) rfl rfl rfl rfl (by omega) ?_
      rintro A40 w40 f40 b40
      simp only [drew_size] at f40
      simp only [drew_size] at b40
      have qf40 := f40.cap
      have s40 := b40.size
      simp only [drew_size] at s40
      replace hw := hw.trans (b40.mono hw.size)
      replace f32 := f32.u b40
      refine wl_fork2j (m := 29) (L := 42) (C := 0) (n := 5) (k1 := 1) (k2 := 5) _ [0, 1, 0, 4, 0, 16, 3, 79, 255] [0, 1, 0, 4, 0, 16, 3, 79, 255] [1, 6, 7, 5, 8] [5, 1, 6, 7, 8] [8] [(.p, 6), (.p, 7), (.l, 5), (.p, 8)] [(.l, 1), (.p, 6), (.p, 7), (.p, 8)] [(.p, 8)] (by kernel_rfl) (by kernel_rfl) (by kernel_rfl) (by kernel_rfl) (by kernel_rfl) hj (fun hj => ?_) (fun hj => ?_) <;> dsimp only [inOrder, nthOp]
      · refine wl_mkSt (m) rfl rfl rfl rfl (by omega) ?_
        rintro A38 w38 f38 b38
        have qf38 := f38.cap
        have s38 := b38.size
        replace hw := hw.trans (b38.mono hw.size)
        replace f32 := f32.u b38
        replace f40 := f40.u b38
        refine wl_p (fun _ => o_assign rfl) ?_
        refine wl_p (fun _ => o_assign rfl) ?_
        refine wl_mkBo (m) rfl rfl rfl rfl (by omega) ?_
        rintro A42 w42 f42 b42
        have qf42 := f42.cap
        have s42 := b42.size
        replace hw := hw.trans (b42.mono hw.size)
        replace f40 := f40.u b42
        replace f32 := f32.u b42
        replace f38 := f38.u b42
        exact wl_tof hj (Fr.le_of (by kernel_rfl) (by kernel_rfl) (by repeat' constructor)) ⟨_, _, _, _, _, _, _, _, _, rfl, f38, f40, f42, ⟨by omega, by omega, by omega⟩, ⟨by omega, by omega, by omega⟩, ⟨by omega, by omega, by omega⟩, by omega, f32, hw⟩
      · refine wl_mkBo (m) rfl rfl rfl rfl (by omega) ?_
        rintro A42 w42 f42 b42
        have qf42 := f42.cap
        have s42 := b42.size
        replace hw := hw.trans (b42.mono hw.size)
        replace f32 := f32.u b42
        replace f40 := f40.u b42
        refine wl_mkSt (m) rfl rfl rfl rfl (by omega) ?_
        rintro A38 w38 f38 b38
        have qf38 := f38.cap
        have s38 := b38.size
        replace hw := hw.trans (b38.mono hw.size)
        replace f40 := f40.u b38
        replace f32 := f32.u b38
        replace f42 := f42.u b38
        refine wl_p (fun _ => o_assign rfl) ?_
        refine wl_p (fun _ => o_assign rfl) ?_
        exact wl_tof hj (Fr.le_of (by kernel_rfl) (by kernel_rfl) (by repeat' constructor)) ⟨_, _, _, _, _, _, _, _, _, rfl, f38, f40, f42, ⟨by omega, by omega, by omega⟩, ⟨by omega, by omega, by omega⟩, ⟨by omega, by omega, by omega⟩, by omega, f32, hw⟩
    · refine wl_mkBo (m) rfl rfl rfl rfl (by omega) ?_
      rintro A42 w42 f42 b42
      simp only [drew_size] at f42
      simp only [drew_size] at b42
      have qf42 := f42.cap
      have s42 := b42.size
      simp only [drew_size] at s42
      replace hw := hw.trans (b42.mono hw.size)
      replace f32 := f32.u b42
      have hs42 := hw.size
      refine wl_forkf (m := 53) (L := 42) (C := 0) (n := 5) (k1 := 1) (k2 := 3) (fun fb fr V => ∃ (A38 A40 : Option Addr) (lo0 hi0 lo1 hi1 : Nat), fr = [(7, .slice A38 m m), (40, .slice A40 m m)] ++ fb ∧ OwnSt V lo0 hi0 A38 m (List.replicate m []) ∧ OwnSt V lo1 hi1 A40 m (List.replicate m []) ∧ (w32.heap.size ≤ lo0 ∧ lo0 ≤ hi0 ∧ hi0 ≤ V.heap.size) ∧ (w32.heap.size ≤ lo1 ∧ lo1 ≤ hi1 ∧ hi1 ≤ V.heap.size) ∧ (hi0 ≤ lo1 ∨ hi1 ≤ lo0) ∧ w42.heap.size ≤ V.heap.size ∧ OwnBo V w32.heap.size w42.heap.size A42 m (List.replicate m false) ∧ DkAt V w28.heap.size w32.heap.size g32 Z Q ∧ Below w.heap.size w V) [0, 1, 0, 4, 0, 16, 3, 79, 255] [0, 1, 0, 4, 0, 16, 3, 79, 255] [1, 6, 3, 7, 8] [3, 1, 6, 7, 8] [7, 8] [(.p, 6), (.l, 3), (.p, 7), (.p, 8)] [(.l, 1), (.p, 6), (.p, 7), (.p, 8)] [(.p, 7), (.p, 8)] (by kernel_rfl) (by kernel_rfl) (by kernel_rfl) (by kernel_rfl) (by kernel_rfl) ?_ (fun hj => ?_) (fun hj => ?_) <;> dsimp only [inOrder, nthOp]
      · clear f42 f32 hw
        rintro fr wF ⟨A38, A40, lo0, hi0, lo1, hi1, rfl, f38, f40, ⟨ql0, qm0, qh0⟩, ⟨ql1, qm1, qh1⟩, qa, q42, f42, f32, hw⟩
        first | refine rk_frame (by simp only [List.cons_append, List.nil_append, List.drop_succ_cons, List.drop_zero]; rfl) ?_ | refine wl_frame (by simp only [List.cons_append, List.nil_append, List.drop_succ_cons, List.drop_zero]; rfl) ?_
        refine wl_p (fun _ => o_assign rfl) ?_
        exact wl_tof hj (Fr.le_of (by kernel_rfl) (by kernel_rfl) (by repeat' constructor)) ⟨_, _, _, _, _, _, _, _, _, rfl, f38, f40, f42, ⟨by omega, by omega, by omega⟩, ⟨by omega, by omega, by omega⟩, ⟨by omega, by omega, by omega⟩, by omega, f32, hw⟩
      · refine wl_mkSt (m) rfl rfl rfl rfl (by omega) ?_
        rintro A38 w38 f38 b38
        have qf38 := f38.cap
        have s38 := b38.size
        replace hw := hw.trans (b38.mono hw.size)
        replace f32 := f32.u b38
        replace f42 := f42.u b38
        refine wl_p (fun _ => o_assign rfl) ?_
        refine wl_mkSt (m) rfl rfl rfl rfl (by omega) ?_
        rintro A40 w40 f40 b40
        have qf40 := f40.cap
        have s40 := b40.size
        replace hw := hw.trans (b40.mono hw.size)
        replace f42 := f42.u b40
        replace f32 := f32.u b40
        replace f38 := f38.u b40
        exact wl_tof hj (Fr.le_of (by kernel_rfl) (by kernel_rfl) (by repeat' constructor)) ⟨_, _, _, _, _, _, rfl, f38, f40, ⟨by omega, by omega, by omega⟩, ⟨by omega, by omega, by omega⟩, by omega, by omega, f42, f32, hw⟩
      · refine wl_mkSt (m) rfl rfl rfl rfl (by omega) ?_
        rintro A40 w40 f40 b40
        have qf40 := f40.cap
        have s40 := b40.size
        replace hw := hw.trans (b40.mono hw.size)
        replace f32 := f32.u b40
        replace f42 := f42.u b40
        refine wl_mkSt (m) rfl rfl rfl rfl (by omega) ?_
        rintro A38 w38 f38 b38
        have qf38 := f38.cap
        have s38 := b38.size
        replace hw := hw.trans (b38.mono hw.size)
        replace f42 := f42.u b38
        replace f32 := f32.u b38
        replace f40 := f40.u b38
        refine wl_p (fun _ => o_assign rfl) ?_
        exact wl_tof hj (Fr.le_of (by kernel_rfl) (by kernel_rfl) (by repeat' constructor)) ⟨_, _, _, _, _, _, rfl, f38, f40, ⟨by omega, by omega, by omega⟩, ⟨by omega, by omega, by omega⟩, by omega, by omega, f42, f32, hw⟩
end Go.Proofs.Ythkfjoilhoemmaa
