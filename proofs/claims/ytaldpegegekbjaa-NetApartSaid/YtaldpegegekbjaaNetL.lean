/-
  What stays valid; the statement NetFull: its walk.
-/
import Derived.Test.YtaldpegegekbjaaNetJ
namespace Go.Proofs.Ytaldpegegekbjaa
open Go.RowKit
theorem okEnv_iff {k : Int} {e : En} : okEnv k e = true ↔ isNd k e.1 = true ∧ isNd k e.2.1 = true ∧ e.1 ≠ e.2.1 ∧ e.2.2.length ≤ 16384 := by
  unfold okEnv
  simp [and_assoc]
theorem netOk_iff {k : Int} {L : List En} : netOk k L = true ↔ (1 ≤ k ∧ k ≤ 7 ∧ L.length ≤ 512) ∧ ∀ e ∈ L, okEnv k e = true := by
  unfold netOk
  rw [Bool.and_eq_true, List.all_eq_true]
  simp
theorem putMore_ok {k f t : Int} {raw : By} (hf : isNd k f = true) (ht : t ≠ f) (hr : raw.length ≤ 16384) : ∀ e ∈ putMore k f t raw, okEnv k e = true := by
  intro e he
  unfold putMore at he
  obtain ⟨i, hi, rfl⟩ := List.mem_map.1 he
  obtain ⟨h1, h2⟩ := List.mem_filter.1 hi
  have h3 := List.mem_range.1 h1
  rw [okEnv_iff]
  refine ⟨hf, ?_, ?_, hr⟩
  · unfold isNd
    exact decide_eq_true ⟨by simp only; omega, by simp only; omega⟩
  · simp at h2
    simp only
    omega
theorem putErr_zero {k f t : Int} {L : List En} {raw : By} (h : putErr k L f t raw = 0) : netOk k L = true ∧ isNd k f = true ∧ t ≠ f ∧ (t = -1 ∨ isNd k t = true) ∧ raw.length ≤ 16384 ∧ L.length + (putMore k f t raw).length ≤ 512 := by
  unfold putErr at h
  split at h
  · cases h
  · rename_i h1
    split at h
    · cases h
    · split at h
      · cases h
      · have h2 : netOk k L = true := by cases e : netOk k L <;> simp [e] at h1 ⊢
        have h3 : isNd k f = true := by cases e : isNd k f <;> simp [e] at h1 ⊢
        have h4 : t ≠ f := fun e => h1 (.inr (.inr (.inl e)))
        refine ⟨h2, h3, h4, ?_, by omega, by omega⟩
        by_cases e : t = -1
        · exact .inl e
        · right; cases e2 : isNd k t with
          | true => rfl
          | false => exact absurd (Or.inr (Or.inr (Or.inr ⟨e, e2⟩))) h1
theorem netOk_put {k f t : Int} {L : List En} {raw : By} (h : putErr k L f t raw = 0) : netOk k (L ++ putMore k f t raw) = true := by
  obtain ⟨h1, h2, h3, _, h5, h6⟩ := putErr_zero h
  rw [netOk_iff] at h1 ⊢
  refine ⟨⟨h1.1.1, h1.1.2.1, by rw [List.length_append]; exact h6⟩, fun e he => ?_⟩
  rcases List.mem_append.1 he with he | he
  · exact h1.2 e he
  · exact putMore_ok h2 h3 h5 e he
theorem cutI_len {α : Type} {L : List α} {i : Nat} (h : i < L.length) : (cutI L i).length = L.length - 1 := by
  unfold cutI; rw [List.length_append, List.length_take, List.length_drop]; omega
theorem cutI_mem {α : Type} {L : List α} {i : Nat} {x : α} (h : x ∈ cutI L i) : x ∈ L := by
  unfold cutI at h
  rcases List.mem_append.1 h with h | h
  · exact List.mem_of_mem_take h
  · exact List.mem_of_mem_drop h
theorem netOk_cut {k : Int} {L : List En} {i : Nat} (h : netOk k L = true) : netOk k (cutI L i) = true := by
  rw [netOk_iff] at h ⊢
  refine ⟨⟨h.1.1, h.1.2.1, ?_⟩, fun e he => h.2 e (cutI_mem he)⟩
  have : (cutI L i).length ≤ L.length := by unfold cutI; rw [List.length_append, List.length_take, List.length_drop]; omega
  omega
theorem netOk_twice {k : Int} {L : List En} {x : En} (h : netOk k L = true) (hx : x ∈ L) (hl : L.length < 512) : netOk k (L ++ [x]) = true := by
  rw [netOk_iff] at h ⊢
  refine ⟨⟨h.1.1, h.1.2.1, by simp; omega⟩, fun e he => ?_⟩
  rcases List.mem_append.1 he with he | he
  · exact h.2 e he
  · rw [List.mem_singleton] at he; subst he; exact h.2 e hx
theorem putErr_ok {k f t : Int} {L : List En} {raw : By} (h1 : netOk k L = true) (h2 : isNd k f = true) (h3 : t ≠ f) (h4 : t = -1 ∨ isNd k t = true) (h5 : raw.length ≤ 16384) : putErr k L f t raw = if 512 < L.length + (putMore k f t raw).length then 7 else 0 := by
  unfold putErr
  rw [if_neg, if_neg (by omega)]
  rintro (h | h | h | h)
  · rw [h1] at h; cases h
  · rw [h2] at h; cases h
  · exact h3 h
  · rcases h4 with h4 | h4
    · exact h.1 h4
    · rw [h4] at h; cases h.2
theorem netAt_ok {k i : Int} {L : List En} (h : netOk k L = true) (h0 : 0 ≤ i) (h1 : i < (L.length : Int)) : netAt k L i = 0 := by
  unfold netAt; rw [h, if_neg (by decide), if_neg (by omega)]
theorem more3 {f : Int} (raw : By) (h0 : 0 ≤ f) (h2 : f < 3) : (putMore 3 f (-1) raw).length = 2 := by
  unfold putMore
  rw [List.length_map]
  have : f = 0 ∨ f = 1 ∨ f = 2 := by omega
  rcases this with rfl | rfl | rfl <;> rfl
set_option maxRecDepth 100000 in
set_option maxHeartbeats 4000000 in
theorem C_NetFull {A : Option Addr} {raw : By} {c : Nat} (w : World) (hR : Rd w A raw) (hc : raw.length ≤ c) (hmx : c ≤ maxLen) : CallsR Try.prog 5 [.slice A raw.length c] w fun v w' => v = .bool true ∧ Below w.heap.size w w' := by
  have wm1 : (Lit.int .i64 (-1)).wf = true := by decide
  have w0 : (Lit.int .i64 0).wf = true := by decide
  have w1 : (Lit.int .i64 1).wf = true := by decide
  refine callsR Try.func5 rfl rfl (by kernel_rfl) rfl ?_
  have hw := Below.refl w.heap.size w
  refine rk_seq ?_
  refine rk_region ?_
  refine wl_p (fun _ => o_assign rfl) ?_
  refine wl_nil ?_
  refine rk_seq ?_
  refine rk_seq ?_
  refine rk_region ?_
  refine wl_call rfl (C_livesN _) ?_
  rintro v20 w20 ⟨rfl, b20⟩
  have s20 := b20.size
  replace hw := hw.trans (b20.mono hw.size)
  refine wl_p (fun _ => o_not rfl) ?_
  refine wl_nil ?_
  refine rk_false rfl ?_
  refine rk_skip ?_
  refine rk_seq ?_
  refine rk_seq ?_
  refine rk_region ?_
  refine wl_p (fun _ => o_move rfl) ?_
  refine wl_p (fun _ => o_len (t := 32) Try.underlying32 rfl) ?_
  refine wl_p (fun _ => o_gt rfl rfl) ?_
  refine wl_nil ?_
  refine rk_if rfl (fun h24 => ?_) (fun h24 => ?_)
  · refine rk_seq ?_
    refine rk_region ?_
    refine wl_p (fun _ => o_assign rfl) ?_
    refine wl_nil ?_
    refine ret1 rfl rfl ?_
    exact ⟨rfl, hw⟩
  have hml : raw.length ≤ maxLen := by omega
  refine rk_skip ?_
  refine rk_seq ?_
  refine rk_region ?_
  refine wl_call rfl (C_NewOk _ (by omega) (by omega)) ?_
  rintro v26 w26 ⟨rfl, b26⟩
  have s26 := b26.size
  replace hw := hw.trans (b26.mono hw.size)
  refine wl_p (fun _ => o_move rfl) ?_
  refine wl_p (fun _ => o_ext20 rfl) ?_
  refine wl_p (fun _ => o_ext21 rfl) ?_
  refine wl_allocg [_, _] Try.zeroValue27 (by rfl) ?_
  rintro g3 w3 f3 b3 i3 i3_1
  have s3 := b3.size
  replace hw := hw.trans (b3.mono hw.size)
  refine wl_storega Try.sizeOf27 rfl rfl (by rfl) (by decide) f3 (by rfl) ?_
  rintro w_1 f g e
  have s := g.size
  replace hw := hw.trans (below_of_grownBy g.g hw.size (by omega))
  clear f3
  refine wl_p (fun _ => o_assign rfl) ?_
  refine wl_nil ?_
  refine rk_seq ?_
  refine rk_seq ?_
  refine rk_region ?_
  refine wl_p (fun _ => o_assign rfl) ?_
  refine wl_nil ?_
  refine rk_block ?_
  refine rk_joinf (fun fb fr w2 => ∃ A1 c1 lo L, fr = [(4, .int .i64 0)] ++ fb.drop 2 ∧ L.length = 512 ∧ netOk 3 L = true ∧ OwnEn lo w2 lo w2.heap.size A1 c1 L ∧ Blk w2 g3 27 [.int .i64 3, .slice A1 L.length c1] ∧ w.heap.size ≤ lo ∧ lo ≤ w2.heap.size ∧ Below w.heap.size w w2) ?_ (fun ks hj => ?_)
  rotate_left
  · refine rk_loopf (fun fb m fr w2 => ∃ (i : Nat) (v : Int) (A1 : Option Addr) (c1 lo : Nat) (L : List En), fr = [(5, .int .i64 v), (4, .int .i64 0)] ++ fb.drop 2 ∧ v = i ∧ i ≤ 256 ∧ m = 256 - i ∧ L.length = 2 * i ∧ netOk 3 L = true ∧ OwnEn lo w2 lo w2.heap.size A1 c1 L ∧ Blk w2 g3 27 [.int .i64 3, .slice A1 L.length c1] ∧ w.heap.size ≤ lo ∧ lo ≤ w2.heap.size ∧ Below w.heap.size w w2) (n := 256) (Fr.le_of (by kernel_rfl) (by kernel_rfl) (by repeat' constructor)) ⟨0, _, none, 0, w.heap.size, [], rfl, rfl, by omega, rfl, rfl, netOk_nil (by decide) (by decide), OwnEn.nil_, f, Nat.le_refl _, hw.size, hw⟩ ?_
    clear hw f
    rintro m fr w2 ⟨i, v, A1, c1, lo, L, rfl, rfl, hi, rfl, hL, hok, fo, f3, hlo, hlo2, hw⟩
    have shw := hw.size
    first | refine rk_frame (by simp only [List.cons_append, List.nil_append, List.drop_succ_cons, List.drop_zero]; rfl) ?_ | refine wl_frame (by simp only [List.cons_append, List.nil_append, List.drop_succ_cons, List.drop_zero]; rfl) ?_
    refine rk_seq ?_
    refine rk_seq ?_
    refine rk_region ?_
    refine wl_p (fun _ => o_move rfl) ?_
    refine wl_p (fun _ => o_lt rfl rfl) ?_
    refine wl_p (fun _ => o_move rfl) ?_
    refine wl_bool 31 rfl (fun h31 => ?_) (fun h31 => ?_) <;> try simp only [decide_eq_true_eq, decide_eq_false_iff_not, Bool.not_eq_true', Bool.not_eq_false', Bool.and_eq_true, Bool.and_eq_false_iff, Bool.or_eq_true, Bool.or_eq_false_iff] at h31
    · obtain ⟨M, hM⟩ : ∃ M, putMore 3 ((i : Int) % 3) (-1) raw = M := ⟨_, rfl⟩
      have hM2 : M.length = 2 := by rw [← hM]; exact more3 raw (by omega) (by omega)
      have hr : putErr 3 L ((i : Int) % 3) (-1) raw = 0 := by
        rw [putErr_ok hok (decide_eq_true (by omega)) (by omega) (.inl rfl) (by omega), hM, if_neg (by omega)]
      obtain ⟨Q, hQ⟩ : ∃ Q, L ++ M = Q := ⟨_, rfl⟩
      have hQl : Q.length = 2 * (i + 1) := by rw [← hQ, List.length_append]; omega
      have hQok : netOk 3 Q = true := by rw [← hQ, ← hM]; exact netOk_put hr
      have wf : (Lit.int .i64 ((i : Int) % 3)).wf = true := i64_wf (by omega)
      have mL : L.length ≤ maxLen := by simp only [maxLen]; omega
      refine wl_p (fun _ => o_move rfl) ?_
      refine wl_p (fun _ => o_eq rfl rfl) ?_
      refine wl_p (fun _ => o_pick_t rfl rfl) ?_
      refine wl_nil ?_
      refine rk_true rfl ?_
      refine rk_skip ?_
      refine rk_seq ?_
      refine rk_block ?_
      refine rk_draw (id := 9) (none) [0, 0, 2, 0, 8, 16, 53, 64, 128, 128, 128, 511, 4095] [0, 0, 2, 0, 8, 24, 63, 127, 255, 255, 255, 511, 4095] 2128 16 [(.s, 0), (.p, 1), (.p, 2), (.p, 3), (.c, 4), (.p, 5), (.l, 6), (.p, 7), (.p, 8), (.p, 9), (.p, 10), (.l, 11), (.p, 12)] (by kernel_rfl) (by kernel_rfl) (by kernel_rfl) (by kernel_rfl) (by kernel_rfl) ?_
      replace hw := hw.drew
      replace f3 := f3.d
      replace fo := fo.d
      refine wl_s (fun _ hk => (o_loadag Try.isAgg27 Try.sizeOf27 rfl (f3.u (below_of_grown_none hk)) (by rfl))) ?_
      refine wl_p (fun _ => o_move rfl) ?_
      refine wl_p (fun _ => o_rem rfl rfl (by omega) (by omega)) ?_
      refine wl_p (fun _ => o_move rfl) ?_
      refine wl_call rfl (C_OwnN _ (hR.u hw) rfl (by omega)) ?_ (hq := .inr fun _ _ h => grown_of_below h.choose_spec.choose_spec.2.2 _)
      rintro v42 w42 ⟨A42, ⟨c42, ⟨rfl, ⟨f42, b42⟩⟩⟩⟩
      simp only [drew_size] at f42
      simp only [drew_size] at b42
      have qf42 := f42.cap
      have s42 := b42.size
      simp only [drew_size] at s42
      replace hw := hw.trans (b42.mono hw.size)
      replace fo := fo.u b42
      replace f3 := f3.u b42
      refine wl_p (fun _ => (o_buildg [_, _] Try.underlying34 Try.zeroValue34 (by rfl) (by rfl) rfl (by rfl) (by rfl) (fun _ => by kernel_rfl))) ?_
      refine wl_call rfl (C_PutOk _ fo.to_REn f42.to_Rd hr hM hQ (by rfl) rfl (by omega) rfl (by omega) wf wm1) ?_
      rintro v44 w44 ⟨A44, ⟨c44, ⟨rfl, ⟨f44, b44⟩⟩⟩⟩
      have qf44 := f44.cap
      have s44 := b44.size
      replace hw := hw.trans (b44.mono hw.size)
      replace f3 := f3.u b44
      replace fo := fo.u b44
      replace f42 := f42.u b44
      refine wl_p (fun _ => o_move rfl) ?_
      refine wl_p (fun _ => o_ext30 rfl) ?_
      refine wl_p (fun _ => o_ext31 rfl) ?_
      refine wl_p (fun _ => o_ext32 rfl) ?_
      refine wl_storega Try.sizeOf27 rfl rfl (by rfl) (oneCell_of (by rfl)) f3 (by rfl) ?_
      rintro w_2 f g_1 e_1
      have s_1 := g_1.size
      replace hw := hw.trans (below_of_grownBy g_1.g hw.size (by omega))
      replace f42 := f42.y g_1 (by decide)
      replace fo := fo.y g_1 (by decide)
      replace f44 := f44.y g_1 (by decide)
      clear f3
      refine wl_p (fun _ => o_assign rfl) ?_
      refine wl_nild ?_
      refine rk_blk ?_
      refine rk_region ?_
      refine wl_p (fun _ => o_move rfl) ?_
      refine wl_p (fun _ => o_add rfl rfl (by omega) (by omega)) ?_
      refine wl_p (fun _ => o_assign rfl) ?_
      refine wl_nil ?_
      exact rk_againf (Fr.le_of (by kernel_rfl) (by kernel_rfl) (by repeat' constructor)) ⟨i + 1, _, A44, c44, w42.heap.size, Q, rfl, by omega, by omega, rfl, hQl, hQok, f44.top, f, by omega, by omega, hw⟩ (by omega)
    · refine wl_off ?_
      refine wl_off ?_
      refine wl_p (fun _ => o_pick_f rfl rfl) ?_
      refine wl_nil ?_
      refine rk_false rfl ?_
      refine rk_exit rfl ?_
      obtain rfl : i = 256 := by omega
      exact rk_tof hj (Fr.le_of (by kernel_rfl) (by kernel_rfl) (by repeat' constructor)) ⟨_, _, _, _, rfl, hL, hok, fo, f3, hlo, hlo2, hw⟩
  clear hw f
  rintro fr w2 ⟨A1, c1, lo, L, rfl, hL, hok, fo, f3, hlo, hlo2, hw⟩
  have shw := hw.size
  have hg3 := f3.lt
  have mL : L.length ≤ maxLen := by simp only [maxLen]; omega
  have a7 : netAt 3 L 7 = 0 := netAt_ok hok (by omega) (by omega)
  have a5 : netAt 3 L 5 = 0 := netAt_ok hok (by omega) (by omega)
  have e1 : putErr 3 L 0 1 raw = 7 := by
    rw [putErr_ok hok (by decide) (by decide) (.inr (by decide)) (by omega), if_pos]
    have : (putMore 3 0 1 raw).length = 1 := rfl
    omega
  have e2 : twiceErr 3 L 5 = 7 := by unfold twiceErr; rw [a5, if_neg (by decide), if_pos (by omega)]
  obtain ⟨Q, hQ⟩ : ∃ Q, cutI L 7 = Q := ⟨_, rfl⟩
  have hQl : Q.length = 511 := by rw [← hQ, cutI_len (by omega)]; omega
  have hQok : netOk 3 Q = true := by rw [← hQ]; exact netOk_cut hok
  have mQ : Q.length ≤ maxLen := by simp only [maxLen]; omega
  have j7 : (7 : Int) = ((7 : Nat) : Int) := rfl
  have hl7 : 7 < L.length := by omega
  have w7 : (Lit.int .i64 7).wf = true := by decide
  have w5 : (Lit.int .i64 5).wf = true := by decide
  have e4 : putErr 3 Q 0 (-1) raw = 7 := by
    rw [putErr_ok hQok (by decide) (by decide) (.inl rfl) (by omega), if_pos]
    rw [more3 raw (by decide) (by decide)]; omega
  obtain ⟨M, hM⟩ : ∃ M, putMore 3 0 1 raw = M := ⟨_, rfl⟩
  have hM1 : (M.length : Int) = 1 := by rw [← hM]; rfl
  have e5 : putErr 3 Q 0 1 raw = 0 := by
    rw [putErr_ok hQok (by decide) (by decide) (.inr (by decide)) (by omega), hM, if_neg (by omega)]
  obtain ⟨Q2, hQ2⟩ : ∃ Q2, Q ++ M = Q2 := ⟨_, rfl⟩
  have hQ2l : (Q2.length : Int) = 512 := by rw [← hQ2, List.length_append]; omega
  have hLl : (L.length : Int) = 512 := by omega
  first | refine rk_frame (by simp only [List.cons_append, List.nil_append, List.drop_succ_cons, List.drop_zero]; rfl) ?_ | refine wl_frame (by simp only [List.cons_append, List.nil_append, List.drop_succ_cons, List.drop_zero]; rfl) ?_
  refine rk_seq ?_
  refine rk_region ?_
  refine wl_r (o_loadag Try.isAgg27 Try.sizeOf27 rfl f3 (by rfl)) ?_
  refine wl_p (fun _ => o_move rfl) ?_
  refine wl_p (fun _ => (o_buildg [_, _] Try.underlying34 Try.zeroValue34 (by rfl) (by rfl) rfl (by rfl) (by rfl) (fun _ => by kernel_rfl))) ?_
  refine wl_call rfl (C_Put _ fo.to_REn (hR.u hw) e1 rfl (by omega) rfl (by omega) w0 w1) ?_
  rintro v52 w52 ⟨k52, ⟨A52, ⟨c52, ⟨Q52, ⟨x52, ⟨rfl, ⟨f52, ⟨i52, ⟨i52_1, b52⟩⟩⟩⟩⟩⟩⟩⟩⟩
  have qf52 := f52.cap
  have s52 := b52.size
  replace hw := hw.trans (b52.mono hw.size)
  replace f3 := f3.u b52
  replace fo := fo.u b52
  refine wl_p (fun _ => o_move rfl) ?_
  refine wl_p (fun _ => o_ext30 rfl) ?_
  refine wl_p (fun _ => o_ext31 rfl) ?_
  refine wl_p (fun _ => o_ext32 rfl) ?_
  refine wl_allocg [_, _] Try.zeroValue27 (by rfl) ?_
  rintro g6 w6 f6 b6 i6 i6_1
  have s6 := b6.size
  replace hw := hw.trans (b6.mono hw.size)
  replace fo := fo.u b6
  replace f3 := f3.u b6
  replace f52 := f52.u b6
  refine wl_storega Try.sizeOf27 rfl rfl (by rfl) (oneCell_of (by rfl)) f6 (by rfl) ?_
  rintro w_2 f g_1 e_1
  have s_1 := g_1.size
  replace hw := hw.trans (below_of_grownBy g_1.g hw.size (by omega))
  replace f52 := f52.y g_1 (by decide)
  replace f3 := f3.k g_1.g (ap_some (by omega))
  replace fo := fo.y g_1 (by decide)
  clear f6
  refine wl_p (fun _ => o_assign rfl) ?_
  refine wl_p (fun _ => o_assign rfl) ?_
  refine wl_nil ?_
  refine rk_seq ?_
  refine rk_region ?_
  refine wl_r (o_loadag Try.isAgg27 Try.sizeOf27 rfl f3 (by rfl)) ?_
  refine wl_call rfl (C_Twice _ fo.to_REn (by rfl) rfl (by omega) w5) ?_
  rintro v58 w58 ⟨k58, ⟨A58, ⟨c58, ⟨Q58, ⟨rfl, ⟨f58, ⟨i58, ⟨i58_1, b58⟩⟩⟩⟩⟩⟩⟩⟩
  have qf58 := f58.cap
  have s58 := b58.size
  replace hw := hw.trans (b58.mono hw.size)
  replace fo := fo.u b58
  replace f3 := f3.u b58
  replace f52 := f52.u b58
  replace f := f.u b58
  refine wl_p (fun _ => o_move rfl) ?_
  refine wl_p (fun _ => o_ext20 rfl) ?_
  refine wl_p (fun _ => o_ext21 rfl) ?_
  refine wl_allocg [_, _] Try.zeroValue27 (by rfl) ?_
  rintro g9 w9 f9 b9 i9 i9_1
  have s9 := b9.size
  replace hw := hw.trans (b9.mono hw.size)
  replace f := f.u b9
  replace f52 := f52.u b9
  replace f3 := f3.u b9
  replace fo := fo.u b9
  replace f58 := f58.u b9
  refine wl_storega Try.sizeOf27 rfl rfl (by rfl) (oneCell_of (by rfl)) f9 (by rfl) ?_
  rintro w_3 f_1 g_2 e_2
  have s_2 := g_2.size
  replace hw := hw.trans (below_of_grownBy g_2.g hw.size (by omega))
  replace f58 := f58.y g_2 (by decide)
  replace fo := fo.y g_2 (by decide)
  replace f3 := f3.k g_2.g (ap_some (by omega))
  replace f52 := f52.y g_2 (by decide)
  replace f := f.k g_2.g (ap_some (by omega))
  clear f9
  refine wl_p (fun _ => o_assign rfl) ?_
  refine wl_nil ?_
  refine rk_seq ?_
  refine rk_region ?_
  refine wl_r (o_loadag Try.isAgg27 Try.sizeOf27 rfl f3 (by rfl)) ?_
  refine wl_call rfl (C_TakeOk _ fo.to_REn a7 (by omega) (by omega) (by rfl) hQ rfl (by omega) w7) ?_
  rintro v63 w63 ⟨A163, ⟨c163, ⟨A63, ⟨c63, ⟨rfl, ⟨f63, ⟨f63_1, b63⟩⟩⟩⟩⟩⟩⟩
  have qf63 := f63.cap
  have qf63_1 := f63_1.cap
  have s63 := b63.size
  replace hw := hw.trans (b63.mono hw.size)
  replace f := f.u b63
  replace f52 := f52.u b63
  replace f3 := f3.u b63
  replace fo := fo.u b63
  replace f58 := f58.u b63
  replace f_1 := f_1.u b63
  refine wl_p (fun _ => o_move rfl) ?_
  refine wl_p (fun _ => o_ext30 rfl) ?_
  refine wl_p (fun _ => o_ext31 rfl) ?_
  refine wl_p (fun _ => o_ext32 rfl) ?_
  refine wl_allocg [_, _, _] Try.zeroValue38 (by rfl) ?_
  rintro g11 w11 f11 b11 i11 i11_1
  have s11 := b11.size
  replace hw := hw.trans (b11.mono hw.size)
  replace f_1 := f_1.u b11
  replace f58 := f58.u b11
  replace fo := fo.u b11
  replace f3 := f3.u b11
  replace f52 := f52.u b11
  replace f := f.u b11
  replace f63_1 := f63_1.u b11
  replace f63 := f63.u b11
  refine wl_allocg [_, _] Try.zeroValue27 (by rfl) ?_
  rintro g12 w12 f12 b12 i12 i12_1
  have s12 := b12.size
  replace hw := hw.trans (b12.mono hw.size)
  replace f63 := f63.u b12
  replace f63_1 := f63_1.u b12
  replace f := f.u b12
  replace f52 := f52.u b12
  replace f3 := f3.u b12
  replace fo := fo.u b12
  replace f58 := f58.u b12
  replace f_1 := f_1.u b12
  replace f11 := f11.u b12
  refine wl_storega Try.sizeOf38 rfl rfl (by rfl) (oneCell_of (by rfl)) f11 (by rfl) ?_
  rintro w_4 f_2 g_3 e_3
  have s_3 := g_3.size
  replace hw := hw.trans (below_of_grownBy g_3.g hw.size (by omega))
  replace f_1 := f_1.k g_3.g (ap_some (by omega))
  replace f58 := f58.q g_3 (ap_some (by omega)) (by decide)
  replace fo := fo.q g_3 (ap_some (by omega)) (by decide)
  replace f3 := f3.k g_3.g (ap_some (by omega))
  replace f52 := f52.q g_3 (ap_some (by omega)) (by decide)
  replace f := f.k g_3.g (ap_some (by omega))
  replace f63_1 := f63_1.k g_3.g (ap_some (by omega))
  replace f63 := f63.q g_3 (ap_some (by omega)) (by decide)
  replace f12 := f12.k g_3.g (ap_some (by omega))
  clear f11
  refine wl_storega Try.sizeOf27 rfl rfl (by rfl) (oneCell_of (by rfl)) f12 (by rfl) ?_
  rintro w_5 f_3 g_4 e_4
  have s_4 := g_4.size
  replace hw := hw.trans (below_of_grownBy g_4.g hw.size (by omega))
  replace f63 := f63.y g_4 (by decide)
  replace f63_1 := f63_1.k g_4.g (ap_some (by omega))
  replace f := f.k g_4.g (ap_some (by omega))
  replace f52 := f52.y g_4 (by decide)
  replace f3 := f3.k g_4.g (ap_some (by omega))
  replace fo := fo.y g_4 (by decide)
  replace f58 := f58.y g_4 (by decide)
  replace f_1 := f_1.k g_4.g (ap_some (by omega))
  replace f_2 := f_2.k g_4.g (ap_some (by omega))
  clear f12
  refine wl_p (fun _ => o_assign rfl) ?_
  refine wl_nil ?_
  refine rk_seq ?_
  refine rk_region ?_
  refine wl_r (o_loadag Try.isAgg27 Try.sizeOf27 rfl f_3 (by rfl)) ?_
  refine wl_p (fun _ => o_move rfl) ?_
  refine wl_p (fun _ => (o_buildg [_, _] Try.underlying34 Try.zeroValue34 (by rfl) (by rfl) rfl (by rfl) (by rfl) (fun _ => by kernel_rfl))) ?_
  refine wl_call rfl (C_Put _ f63.to_REn (hR.u hw) e4 rfl (by omega) rfl (by omega) w0 wm1) ?_
  rintro v71 w71 ⟨k71, ⟨A71, ⟨c71, ⟨Q71, ⟨x71, ⟨rfl, ⟨f71, ⟨i71, ⟨i71_1, b71⟩⟩⟩⟩⟩⟩⟩⟩⟩
  have qf71 := f71.cap
  have s71 := b71.size
  replace hw := hw.trans (b71.mono hw.size)
  replace f_2 := f_2.u b71
  replace f_1 := f_1.u b71
  replace f58 := f58.u b71
  replace fo := fo.u b71
  replace f3 := f3.u b71
  replace f52 := f52.u b71
  replace f := f.u b71
  replace f63_1 := f63_1.u b71
  replace f63 := f63.u b71
  replace f_3 := f_3.u b71
  refine wl_p (fun _ => o_move rfl) ?_
  refine wl_p (fun _ => o_ext30 rfl) ?_
  refine wl_p (fun _ => o_ext31 rfl) ?_
  refine wl_p (fun _ => o_ext32 rfl) ?_
  refine wl_allocg [_, _] Try.zeroValue27 (by rfl) ?_
  rintro g14 w14 f14 b14 i14 i14_1
  have s14 := b14.size
  replace hw := hw.trans (b14.mono hw.size)
  replace f_3 := f_3.u b14
  replace f63 := f63.u b14
  replace f63_1 := f63_1.u b14
  replace f := f.u b14
  replace f52 := f52.u b14
  replace f3 := f3.u b14
  replace fo := fo.u b14
  replace f58 := f58.u b14
  replace f_1 := f_1.u b14
  replace f_2 := f_2.u b14
  replace f71 := f71.u b14
  refine wl_storega Try.sizeOf27 rfl rfl (by rfl) (oneCell_of (by rfl)) f14 (by rfl) ?_
  rintro w_6 f_4 g_5 e_5
  have s_5 := g_5.size
  replace hw := hw.trans (below_of_grownBy g_5.g hw.size (by omega))
  replace f71 := f71.y g_5 (by decide)
  replace f_2 := f_2.k g_5.g (ap_some (by omega))
  replace f_1 := f_1.k g_5.g (ap_some (by omega))
  replace f58 := f58.y g_5 (by decide)
  replace fo := fo.y g_5 (by decide)
  replace f3 := f3.k g_5.g (ap_some (by omega))
  replace f52 := f52.y g_5 (by decide)
  replace f := f.k g_5.g (ap_some (by omega))
  replace f63_1 := f63_1.k g_5.g (ap_some (by omega))
  replace f63 := f63.y g_5 (by decide)
  replace f_3 := f_3.k g_5.g (ap_some (by omega))
  clear f14
  refine wl_p (fun _ => o_assign rfl) ?_
  refine wl_p (fun _ => o_assign rfl) ?_
  refine wl_nil ?_
  refine rk_seq ?_
  refine rk_region ?_
  refine wl_r (o_loadag Try.isAgg27 Try.sizeOf27 rfl f_3 (by rfl)) ?_
  refine wl_p (fun _ => o_move rfl) ?_
  refine wl_p (fun _ => (o_buildg [_, _] Try.underlying34 Try.zeroValue34 (by rfl) (by rfl) rfl (by rfl) (by rfl) (fun _ => by kernel_rfl))) ?_
  refine wl_call rfl (C_PutOk _ f63.to_REn (hR.u hw) e5 hM hQ2 hM1 rfl (by omega) rfl (by omega) w0 w1) ?_
  rintro v79 w79 ⟨A79, ⟨c79, ⟨rfl, ⟨f79, b79⟩⟩⟩⟩
  have qf79 := f79.cap
  have s79 := b79.size
  replace hw := hw.trans (b79.mono hw.size)
  replace f_3 := f_3.u b79
  replace f63 := f63.u b79
  replace f63_1 := f63_1.u b79
  replace f := f.u b79
  replace f52 := f52.u b79
  replace f3 := f3.u b79
  replace fo := fo.u b79
  replace f58 := f58.u b79
  replace f_1 := f_1.u b79
  replace f_2 := f_2.u b79
  replace f71 := f71.u b79
  replace f_4 := f_4.u b79
  refine wl_p (fun _ => o_move rfl) ?_
  refine wl_p (fun _ => o_ext30 rfl) ?_
  refine wl_p (fun _ => o_ext31 rfl) ?_
  refine wl_p (fun _ => o_ext32 rfl) ?_
  refine wl_allocg [_, _] Try.zeroValue27 (by rfl) ?_
  rintro g17 w17 f17 b17 i17 i17_1
  have s17 := b17.size
  replace hw := hw.trans (b17.mono hw.size)
  replace f_4 := f_4.u b17
  replace f71 := f71.u b17
  replace f_2 := f_2.u b17
  replace f_1 := f_1.u b17
  replace f58 := f58.u b17
  replace fo := fo.u b17
  replace f3 := f3.u b17
  replace f52 := f52.u b17
  replace f := f.u b17
  replace f63_1 := f63_1.u b17
  replace f63 := f63.u b17
  replace f_3 := f_3.u b17
  replace f79 := f79.u b17
  refine wl_storega Try.sizeOf27 rfl rfl (by rfl) (oneCell_of (by rfl)) f17 (by rfl) ?_
  rintro w_7 f_5 g_6 e_6
  have s_6 := g_6.size
  replace hw := hw.trans (below_of_grownBy g_6.g hw.size (by omega))
  replace f79 := f79.y g_6 (by decide)
  replace f_3 := f_3.k g_6.g (ap_some (by omega))
  replace f63 := f63.y g_6 (by decide)
  replace f63_1 := f63_1.k g_6.g (ap_some (by omega))
  replace f := f.k g_6.g (ap_some (by omega))
  replace f52 := f52.y g_6 (by decide)
  replace f3 := f3.k g_6.g (ap_some (by omega))
  replace fo := fo.y g_6 (by decide)
  replace f58 := f58.y g_6 (by decide)
  replace f_1 := f_1.k g_6.g (ap_some (by omega))
  replace f_2 := f_2.k g_6.g (ap_some (by omega))
  replace f71 := f71.y g_6 (by decide)
  replace f_4 := f_4.k g_6.g (ap_some (by omega))
  clear f17
  refine wl_p (fun _ => o_assign rfl) ?_
  refine wl_p (fun _ => o_assign rfl) ?_
  refine wl_nil ?_
  refine rk_seq ?_
  refine rk_region ?_
  refine wl_p (fun _ => o_move rfl) ?_
  refine wl_p (fun _ => o_eq rfl rfl) ?_
  refine wl_p (fun _ => o_move rfl) ?_
  refine wl_p (fun _ => o_faddr (s := 27) (i := 1) (off := 1) Try.underlying27 rfl Try.sizeOf25 rfl rfl rfl) ?_
  refine wl_r (o_loadbg Try.isAgg25 rfl f3 (by rfl)) ?_
  refine wl_p (fun _ => o_len (t := 25) Try.underlying25 rfl) ?_
  refine wl_p (fun _ => o_eq rfl rfl) ?_
  refine wl_p (fun _ => o_pick_t rfl rfl) ?_
  refine wl_p (fun _ => o_move rfl) ?_
  refine wl_know 91 true rfl (decide_eq_true (by omega)) ?_
  refine wl_p (fun _ => o_move rfl) ?_
  refine wl_p (fun _ => o_eq rfl rfl) ?_
  refine wl_p (fun _ => o_pick_t rfl rfl) ?_
  refine wl_p (fun _ => o_move rfl) ?_
  refine wl_p (fun _ => o_move rfl) ?_
  refine wl_p (fun _ => o_eq rfl rfl) ?_
  refine wl_p (fun _ => o_pick_t rfl rfl) ?_
  refine wl_p (fun _ => o_move rfl) ?_
  refine wl_know 99 true rfl (decide_eq_true (by omega)) ?_
  refine wl_p (fun _ => o_move rfl) ?_
  refine wl_p (fun _ => o_eq rfl rfl) ?_
  refine wl_p (fun _ => o_pick_t rfl rfl) ?_
  refine wl_p (fun _ => o_move rfl) ?_
  refine wl_p (fun _ => o_move rfl) ?_
  refine wl_p (fun _ => o_eq rfl rfl) ?_
  refine wl_p (fun _ => o_pick_t rfl rfl) ?_
  refine wl_p (fun _ => o_move rfl) ?_
  refine wl_p (fun _ => o_move rfl) ?_
  refine wl_p (fun _ => o_eq rfl rfl) ?_
  refine wl_p (fun _ => o_pick_t rfl rfl) ?_
  refine wl_p (fun _ => o_move rfl) ?_
  refine wl_p (fun _ => o_move rfl) ?_
  refine wl_p (fun _ => o_eq rfl rfl) ?_
  refine wl_p (fun _ => o_pick_t rfl rfl) ?_
  refine wl_p (fun _ => o_move rfl) ?_
  refine wl_p (fun _ => o_faddr (s := 27) (i := 1) (off := 1) Try.underlying27 rfl Try.sizeOf25 rfl rfl rfl) ?_
  refine wl_r (o_loadbg Try.isAgg25 rfl f_5 (by rfl)) ?_
  refine wl_p (fun _ => o_len (t := 25) Try.underlying25 rfl) ?_
  refine wl_p (fun _ => o_eq rfl rfl) ?_
  refine wl_p (fun _ => o_pick_t rfl rfl) ?_
  refine wl_p (fun _ => o_assign rfl) ?_
  refine wl_nil ?_
  refine ret1 rfl rfl ?_
  exact ⟨congrArg Value.bool (decide_eq_true hQ2l), hw⟩
end Go.Proofs.Ytaldpegegekbjaa
