/-
  PagesScript: the walk.
-/
import Derived.Test.YtklijaahbahcoaaGreatDoorMg9
import Derived.Test.YtklijaahbahcoaaGreatDoorTie
import Derived.LaidMore
import Derived.Lay
import Derived.SevenTiedAt
namespace Go.Proofs.YtklijaahbahcoaaGreatDoor
set_option maxRecDepth 100000
open Go.RowKit
theorem C_PickM {n m r : Int} (w : World) (hr : pick n m = r) (wn : (Lit.int .i64 n).wf = true) (wm : (Lit.int .i64 m).wf = true) :
    CallsR Tryz.prog 6 [.int .i64 n, .int .i64 m] w fun v w' => v = .int .i64 r ∧ w' = w := by
  subst hr
  exact C_Pick n m wn wm w
theorem usd_mem {U : List Bool} {n k : Nat} : n ∈ usd U k ↔ n < k ∧ U.getD n false = true := by
  rw [usd, List.mem_filter, List.mem_range]
theorem markAll_get : ∀ (l : List Int) (V : List Bool), (∀ z ∈ l, 0 ≤ z ∧ z < (V.length : Int)) → ∀ j : Nat, (markAll V l).getD j false = (V.getD j false || decide ((j : Int) ∈ l))
  | [], V, _, j => by simp [markAll]
  | z :: l, V, h, j => by
    have h1 := h z (List.mem_cons_self ..)
    have e : markAll V (z :: l) = markAll (V.set z.toNat true) l := rfl
    rw [e, markAll_get l _ (fun x hx => by rw [List.length_set]; exact h x (List.mem_cons_of_mem _ hx)) j, getD_set _ _ _ _ (by omega)]
    by_cases e : j = z.toNat
    · rw [if_pos e, Bool.true_or, decide_eq_true (List.mem_cons.2 (.inl (by omega))), Bool.or_true]
    · rw [if_neg e]
      congr 1
      refine decide_eq_decide.2 ⟨fun h => List.mem_cons_of_mem _ h, fun h => ?_⟩
      rcases List.mem_cons.1 h with h | h
      · omega
      · exact h
theorem usdZ_all {U : List Bool} {n : Nat} (h : n = U.length) : openOk n (usdZ U U.length) = true := by
  subst h
  refine List.all_eq_true.2 (fun z hz => ?_)
  obtain ⟨k, hk, rfl⟩ := List.mem_map.1 hz
  have := (usd_mem.1 hk).1
  exact decide_eq_true ⟨Int.natCast_nonneg _, Int.ofNat_lt.2 this⟩
theorem markAll_usd {U : List Bool} {n : Nat} (h : n = U.length) : markAll (List.replicate n false) (usdZ U U.length) = U := by
  subst h
  have hb : ∀ z ∈ usdZ U U.length, 0 ≤ z ∧ z < ((List.replicate U.length false).length : Int) := fun z hz => by
    have := of_decide_eq_true (List.all_eq_true.1 (usdZ_all (U := U) rfl) z hz)
    rw [List.length_replicate]; exact this
  apply List.ext_getElem (by rw [markAll_len, List.length_replicate])
  intro j h1 h2
  have h3 := markAll_get _ _ hb j
  have e1 : (List.replicate U.length false).getD j false = false := by rw [List.getD_eq_getElem?_getD, List.getElem?_replicate]; split <;> rfl
  have e2 : U.getD j false = U[j] := by rw [List.getD_eq_getElem?_getD, List.getElem?_eq_getElem h2]; rfl
  have e3 : decide ((j : Int) ∈ usdZ U U.length) = U[j] := by
    rw [← e2]
    by_cases hj : U.getD j false = true
    · rw [hj]; exact decide_eq_true (List.mem_map.2 ⟨j, usd_mem.2 ⟨h2, hj⟩, rfl⟩)
    · rw [(by cases h : U.getD j false with | true => exact absurd h hj | false => rfl : U.getD j false = false)]
      refine decide_eq_false (fun h => ?_)
      obtain ⟨k, hk, e⟩ := List.mem_map.1 h
      have e : k = j := by exact Int.ofNat.inj e
      subst e
      exact hj (usd_mem.1 hk).2
  rw [e1, Bool.false_or, e3, List.getD_eq_getElem?_getD, List.getElem?_eq_getElem h1] at h3
  exact h3
theorem newP_len (S : List Sec) (C : List (Option Sec)) (U : List Bool) (b : By) : (newP S C U b).2.2.length = U.length := by
  unfold newP; split
  · rfl
  · split
    · rfl
    · exact List.length_set
theorem freeP_len (U : List Bool) (z : Int) : (freeP U z).2.length = U.length := by
  unfold freeP; split
  · exact List.length_set
  · rfl
theorem pgAll_le (X : List Sec) (n : Nat) : (pgAll X n).length ≤ 512 := by
  have h : ∀ j, (sAt X j).length ≤ 256 := fun j => by
    unfold sAt; split
    · rename_i h; exact Nat.le_of_eq X[j].2
    · simp
  rw [pgAll, List.length_append]
  have := h (2 * n)
  have := h (2 * n + 1)
  omega
theorem readP_len (X : List Sec) (U : List Bool) (z : Int) : (readP X U z).1.length ≤ 100000 := by
  unfold readP
  have := pgAll_le X z.toNat
  split
  · split
    · show (List.drop 12 _).length ≤ _
      rw [List.length_drop]; omega
    · simp
  · simp
set_option maxRecDepth 100000 in
set_option maxHeartbeats 1000000 in
theorem C_PagesScript {n0 : Int} {v : Value} {L : List PAct} (w : World) (wn : (Lit.int .i64 n0).wf = true) (hL0 : PasV w L v) (hT : TabAt0 w 0) :
    CallsR Tryz.prog 3 [.int .i64 n0, v] w fun v w' => v = .bool true ∧ Below w.heap.size w w' := by
  obtain ⟨A1, c1, rfl, hL, hLc, hLm⟩ := hL0
  have hgd : 0 < w.heap.size := hT.lt
  have w60 : (Lit.int .i64 60).wf = true := by decide
  have w7 : (Lit.int .i64 7).wf = true := by decide
  have hpk := pick_range n0 60 (by omega)
  obtain ⟨p, hp⟩ : ∃ p, pick n0 60 = p := ⟨_, rfl⟩
  rw [hp] at hpk
  obtain ⟨m, hm⟩ : ∃ m : Nat, 1 + p = (m : Int) := ⟨(1 + p).toNat, by omega⟩
  obtain ⟨Z, hZ⟩ : ∃ Z : List Sec, List.replicate m z256 = Z := ⟨_, rfl⟩
  obtain ⟨Q, hQ⟩ : ∃ Q : List (Option Sec), List.replicate m none = Q := ⟨_, rfl⟩
  have hlZ : Z.length = m := by rw [← hZ, List.length_replicate]
  obtain ⟨h, hh⟩ : ∃ h, m / 2 = h := ⟨_, rfl⟩
  have hZ2 : Z.length / 2 = h := by rw [hlZ, hh]
  obtain ⟨U0, hU0⟩ : ∃ U, markAll (List.replicate h false) [] = U := ⟨_, rfl⟩
  have hlU0 : U0.length = h := by rw [← hU0, markAll_len, List.length_replicate]
  have ho0 : openOk h [] = true := rfl
  refine callsR Tryz.func3 rfl rfl (by kernel_rfl) rfl ?_
  have hw := Below.refl w.heap.size w
  refine rk_seq ?_
  refine rk_region ?_
  refine wl_p (fun _ => o_assign rfl) ?_
  refine wl_nil ?_
  refine rk_seq ?_
  refine rk_seq ?_
  refine rk_region ?_
  refine wl_call rfl (C_lives10 _ hT) ?_
  rintro v20 w20 ⟨rfl, b20⟩
  have s20 := b20.size
  replace hw := hw.trans (b20.mono hw.size)
  refine wl_p (fun _ => o_not rfl) ?_
  refine wl_nil ?_
  refine rk_false rfl ?_
  refine rk_skip ?_
  refine rk_seq ?_
  refine rk_seq ?_
  refine rk_region ?_
  refine wl_p (fun _ => o_move rfl) ?_
  refine wl_call rfl (C_small10 _ (hL.u hw) rfl (by omega)) ?_
  rintro v23 w23 ⟨b23, ⟨rfl, ⟨i23, b23_1⟩⟩⟩
  have s23 := b23_1.size
  replace hw := hw.trans (b23_1.mono hw.size)
  refine wl_p (fun _ => o_not rfl) ?_
  refine wl_nil ?_
  cases b23 with
  | false =>
    refine rk_true rfl ?_
    refine rk_seq ?_
    refine rk_region ?_
    refine wl_p (fun _ => o_assign rfl) ?_
    refine wl_nil ?_
    refine ret1 rfl rfl ?_
    exact ⟨rfl, hw⟩
  | true =>
    have hsL := (show true = true ↔ smallP L by assumption).1 rfl
    have hlL := hsL.1
    refine rk_false rfl ?_
    refine rk_skip ?_
    refine rk_seq ?_
    refine rk_region ?_
    refine wl_p (fun _ => o_move rfl) ?_
    refine wl_call rfl (C_PickR _ hp wn w60) ?_
    rintro v26 w26 ⟨rfl, b26⟩
    have s26 := b26.size
    replace hw := hw.trans (b26.mono hw.size)
    refine wl_p (fun _ => o_add rfl rfl (by omega) (by omega)) ?_
    refine wl_p (fun _ => o_assign rfl) ?_
    refine wl_nil ?_
    refine rk_seq ?_
    refine rk_region ?_
    refine wl_p (fun _ => o_move rfl) ?_
    refine wl_call rfl (C_dNewOk _ hm hZ hQ (by omega) (by omega)) ?_
    rintro v30 w30 ⟨g30, ⟨rfl, ⟨f30, b30⟩⟩⟩
    have s30 := b30.size
    replace hw := hw.trans (b30.mono hw.size)
    refine wl_p (fun _ => o_move rfl) ?_
    refine wl_p (fun _ => o_ext20 rfl) ?_
    refine wl_p (fun _ => o_ext21 rfl) ?_
    refine wl_p (fun _ => o_assign rfl) ?_
    refine wl_p (fun _ => o_assign rfl) ?_
    refine wl_nil ?_
    refine rk_seq ?_
    refine rk_region ?_
    refine wl_p (fun _ => o_move rfl) ?_
    refine wl_call rfl (C_rNew _ hm hZ hQ (by omega) (by omega)) ?_
    rintro v35 w35 ⟨g35, ⟨rfl, ⟨f35, b35⟩⟩⟩
    have s35 := b35.size
    replace hw := hw.trans (b35.mono hw.size)
    replace f30 := f30.u b35
    refine wl_p (fun _ => o_move rfl) ?_
    refine wl_p (fun _ => o_ext20 rfl) ?_
    refine wl_p (fun _ => o_ext21 rfl) ?_
    refine wl_p (fun _ => o_assign rfl) ?_
    refine wl_p (fun _ => o_assign rfl) ?_
    refine wl_nil ?_
    refine rk_seq ?_
    refine rk_region ?_
    refine wl_p (fun _ => o_move rfl) ?_
    refine wl_call rfl (C_pOpenOk _ f30 (RZ.nil_) (by rfl) (by omega) hZ2 ho0 hU0) ?_
    rintro v40 w40 ⟨g40, ⟨rfl, ⟨f40, ⟨i40, ⟨i40_1, b40⟩⟩⟩⟩⟩
    have s40 := b40.size
    replace hw := hw.trans (b40.mono hw.size)
    replace f30 := f30.u b40
    replace f35 := f35.u b40
    refine wl_p (fun _ => o_move rfl) ?_
    refine wl_p (fun _ => o_ext20 rfl) ?_
    refine wl_p (fun _ => o_ext21 rfl) ?_
    refine wl_p (fun _ => o_assign rfl) ?_
    refine wl_p (fun _ => o_assign rfl) ?_
    refine wl_nil ?_
    refine rk_seq ?_
    refine rk_region ?_
    refine wl_p (fun _ => o_move rfl) ?_
    refine wl_call rfl (C_rpOpenOk _ f35 (RZ.nil_) (by rfl) (by omega) hZ2 ho0 hU0) ?_
    rintro v45 w45 ⟨g45, ⟨rfl, ⟨f45, ⟨i45, ⟨i45_1, b45⟩⟩⟩⟩⟩
    have s45 := b45.size
    replace hw := hw.trans (b45.mono hw.size)
    replace f35 := f35.u b45
    replace f30 := f30.u b45
    replace f40 := f40.u b45
    refine wl_p (fun _ => o_move rfl) ?_
    refine wl_p (fun _ => o_ext20 rfl) ?_
    refine wl_p (fun _ => o_ext21 rfl) ?_
    refine wl_p (fun _ => o_assign rfl) ?_
    refine wl_p (fun _ => o_assign rfl) ?_
    refine wl_nil ?_
    refine rk_seq ?_
    refine rk_seq ?_
    refine rk_region ?_
    refine wl_p (fun _ => o_move rfl) ?_
    refine wl_p (fun _ => o_move rfl) ?_
    refine wl_p (fun _ => o_ne rfl rfl) ?_
    refine wl_p (fun _ => o_move rfl) ?_
    refine wl_p (fun _ => o_move rfl) ?_
    refine wl_p (fun _ => o_ne rfl rfl) ?_
    refine wl_p (fun _ => o_pick_f rfl rfl) ?_
    refine wl_nil ?_
    refine rk_false rfl ?_
    refine rk_skip ?_
    refine rk_seq ?_
    refine rk_seq ?_
    refine rk_region ?_
    refine wl_p (fun _ => o_assign rfl) ?_
    refine wl_nil ?_
    refine rk_block ?_
    have hs0 := hw.size
    have hsA : w.heap.size ≤ w26.heap.size := by omega
    have hsB : w26.heap.size ≤ w30.heap.size := by omega
    have hsC : w30.heap.size ≤ w35.heap.size := by omega
    refine rk_joinf (fun fb fr V => ∃ (S : List Sec) (C : List (Option Sec)) (g gr : Nat), fr = [(9, .pointer (some ⟨g, 0, none⟩)), (11, .pointer (some ⟨gr, 0, none⟩))] ++ fb.drop 17 ∧ S.length = m ∧ DkAt V w26.heap.size w30.heap.size g30 S C ∧ RfAt V w30.heap.size w35.heap.size g35 S C ∧ Below w.heap.size w V) ?_ (fun ks hj => ?_)
    rotate_left
    · refine rk_loopf (fun fb k fr V => ∃ (i : Nat) (v : Int) (S : List Sec) (C : List (Option Sec)) (U : List Bool) (g ul uh gr lo hi : Nat), fr = [(13, .int .i64 v), (9, .pointer (some ⟨g, 0, none⟩)), (11, .pointer (some ⟨gr, 0, none⟩))] ++ fb.drop 17 ∧ v = i ∧ i ≤ L.length ∧ k = L.length - i ∧ S.length = m ∧ U.length = h ∧ DkAt V w26.heap.size w30.heap.size g30 S C ∧ RfAt V w30.heap.size w35.heap.size g35 S C ∧ PgAt V g g30 ul uh U ∧ RpAt V gr g35 lo hi U ∧ w35.heap.size ≤ ul ∧ w35.heap.size ≤ lo ∧ w35.heap.size ≤ g ∧ w35.heap.size ≤ gr ∧ w35.heap.size ≤ V.heap.size ∧ Below w.heap.size w V) (n := L.length) (Fr.le_of (by kernel_rfl) (by kernel_rfl) (by repeat' constructor)) ⟨0, _, Z, Q, U0, g40, w35.heap.size, w40.heap.size, g45, w40.heap.size, w45.heap.size, rfl, rfl, by omega, rfl, hlZ, hlU0, f30, f35, f40, f45, by omega, by omega, by omega, by omega, by omega, hw⟩ ?_
      clear f30 f35 f40 f45 hw
      rintro k fr V ⟨i, v, S, C, U, g, ul, uh, gr, lo, hi, rfl, rfl, hil0, rfl, hlS, hlU, f30, f35, f40, f45, hb1, hb2, hb3, hb4, hb5, hw⟩
      have hphi := f40.1.hi
      have hrhi := f45.hi
      have hUS : 2 * U.length ≤ S.length := by omega
      first | refine rk_frame (by simp only [List.cons_append, List.nil_append, List.drop_succ_cons, List.drop_zero]; rfl) ?_ | refine wl_frame (by simp only [List.cons_append, List.nil_append, List.drop_succ_cons, List.drop_zero]; rfl) ?_
      refine rk_seq ?_
      refine rk_seq ?_
      refine rk_region ?_
      refine wl_p (fun _ => o_move rfl) ?_
      refine wl_p (fun _ => o_move rfl) ?_
      refine wl_p (fun _ => o_len (t := 22) Tryz.underlying22 rfl) ?_
      refine wl_p (fun _ => o_lt rfl rfl) ?_
      refine wl_nil ?_
      refine rk_if rfl (fun h58 => ?_) (fun h58 => ?_)
      · have hil : i < L.length := by omega
        obtain ⟨hkb, hkl⟩ := hsL.2 _ (List.getElem_mem hil)
        have hpk7 := pick_range L[i].1 7 (by omega)
        obtain ⟨t, ht⟩ : ∃ t, pick L[i].1 7 = t := ⟨_, rfl⟩
        rw [ht] at hpk7
        by_cases h3 : t = 3
        · obtain ⟨r, hr⟩ : ∃ r, freeP U L[i].2.1 = r := ⟨_, rfl⟩
          have hrl : r.2.length = h := by rw [← hr, freeP_len, hlU]
          obtain ⟨I, hI⟩ : ∃ I, usdZ r.2 r.2.length = I := ⟨_, rfl⟩
          have hIl : I.length ≤ 100000 := by rw [← hI, usdZ_len]; have := usd_le r.2 r.2.length; omega
          obtain ⟨q, hq⟩ : ∃ q, (usd r.2 r.2.length).length = q := ⟨_, rfl⟩
          refine rk_skip ?_
          refine rk_seq ?_
          refine rk_block ?_
          refine rk_seq ?_
          refine rk_region ?_
          refine wl_p (fun _ => o_move rfl) ?_
          refine wl_p (fun _ => o_move rfl) ?_
          refine wl_p (fun _ => (o_iaddrA (i) Tryz.underlying22 Tryz.sizeOf42 rfl rfl rfl (hL.some_ (by omega)) (by omega))) ?_
          refine wl_ldPAct rfl hL hw (by omega) ?_
          rintro A164 c164 B164 d164 f64 f64_1 i64 i64_1 i64_2 i64_3 e64 e64_1 i64_4
          refine wl_allocg [_, _, _, _] Tryz.zeroValue42 (by rfl) ?_
          rintro g14 w14 f14 b14 i14 i14_1
          have s14 := b14.size
          replace hw := hw.trans (b14.mono hw.size)
          replace f45 := f45.u b14
          replace f40 := f40.u b14
          replace f35 := f35.u b14
          replace f30 := f30.u b14
          refine wl_storega Tryz.sizeOf42 rfl rfl (by rfl) (oneCell_of (by rfl)) f14 (by rfl) ?_
          rintro w_1 f g_1 e
          have s := g_1.size
          replace hw := hw.trans (below_of_grownBy g_1.g hw.size (by omega))
          replace f30 := f30.k g_1.g (ap_some (by omega))
          replace f35 := f35.y g_1 (by decide)
          replace f40 := f40.y g_1 (by decide)
          replace f45 := f45.y g_1 (by decide)
          clear f14
          refine wl_nil ?_
          refine rk_seq ?_
          refine rk_region ?_
          refine wl_p (fun _ => o_assign rfl) ?_
          refine wl_p (fun _ => o_assign rfl) ?_
          refine wl_nil ?_
          refine rk_seq ?_
          refine rk_region ?_
          refine wl_p (fun _ => o_assign rfl) ?_
          refine wl_p (fun _ => o_assign rfl) ?_
          refine wl_nil ?_
          refine rk_seq ?_
          refine rk_seq ?_
          refine rk_region ?_
          refine wl_p (fun _ => o_faddr (s := 42) (i := 0) (off := 0) Tryz.underlying42 rfl Tryz.sizeOf3 rfl rfl rfl) ?_
          refine wl_r (o_loadbg Tryz.isAgg3 rfl f (by rfl)) ?_
          refine wl_call rfl (C_PickR _ ht e64 w7) ?_
          rintro v67 w67 ⟨rfl, b67⟩
          have s67 := b67.size
          replace hw := hw.trans (b67.mono hw.size)
          replace f45 := f45.u b67
          replace f40 := f40.u b67
          replace f35 := f35.u b67
          replace f30 := f30.u b67
          replace f := f.u b67
          refine wl_nil ?_
          refine rk_block ?_
          refine rk_seq ?_
          refine rk_seq ?_
          refine rk_region ?_
          refine wl_p (fun _ => o_eq rfl rfl) ?_
          refine wl_p (fun _ => o_assign rfl) ?_
          refine wl_nil ?_
          refine rk_if rfl (fun h94 => absurd h94 (by omega)) (fun h94 => ?_)
          refine rk_region ?_
          refine wl_p (fun _ => o_eq rfl rfl) ?_
          refine wl_p (fun _ => o_assign rfl) ?_
          refine wl_nil ?_
          refine rk_if rfl (fun h94 => absurd h94 (by omega)) (fun h94 => ?_)
          refine rk_seq ?_
          refine rk_region ?_
          refine wl_p (fun _ => o_eq rfl rfl) ?_
          refine wl_p (fun _ => o_assign rfl) ?_
          refine wl_nil ?_
          refine rk_if rfl (fun h112 => absurd h112 (by omega)) (fun h112 => ?_)
          refine rk_seq ?_
          refine rk_region ?_
          refine wl_p (fun _ => o_eq rfl rfl) ?_
          refine wl_p (fun _ => o_assign rfl) ?_
          refine wl_nil ?_
          refine rk_if rfl (fun h128 => ?_) (fun h128 => h128.elim (by omega))
          refine rk_drawoR (ul) (uh) (id := 32) (none) [0, 0, 2, 5, 0, 0, 32, 88, 143, 511] [0, 0, 2, 7, 0, 0, 32, 127, 255, 511] 136 8 [0, 1, 2, 4, 5, 6, 3, 7, 8, 9] [(.p, 0), (.p, 1), (.r, 2), (.p, 4), (.p, 5), (.s, 6), (.c, 3), (.l, 7), (.p, 8), (.p, 9)] (by kernel_rfl) (by kernel_rfl) (by kernel_rfl) (by kernel_rfl) (by kernel_rfl) ?_; dsimp only [inOrder, nthOp]
          replace f := f.d
          replace f30 := f30.d
          replace f35 := f35.d
          replace f40 := f40.d
          replace f45 := f45.d
          replace hw := hw.drew
          refine wl_p (fun _ => o_move rfl) ?_
          refine wl_p (fun _ => o_faddr (s := 42) (i := 1) (off := 1) Tryz.underlying42 rfl Tryz.sizeOf3 rfl rfl rfl) ?_
          refine wl_r (o_loadbg Tryz.isAgg3 rfl f (by rfl)) ?_
          refine wl_p (fun _ => o_move rfl) ?_
          refine wl_p (fun _ => o_faddr (s := 42) (i := 1) (off := 1) Tryz.underlying42 rfl Tryz.sizeOf3 rfl rfl rfl) ?_
          refine wl_s (fun _ hk => (o_loadbg Tryz.isAgg3 rfl (f.c (chg_of_ok hk) (by omega)) (by rfl))) ?_
          refine wl_callQ rfl (C_pFreeN _ f40 hr e64_1) ?_ (hq := .inr fun _ _ h => by obtain ⟨_, _, _, hb⟩ := h; exact ok_of_chg hb)
          rintro v133 w133 ⟨rfl, ⟨f133, ⟨⟨row133, g133⟩, g133_1⟩⟩⟩
          have s133 := g133.size
          simp only [drew_size] at s133
          replace hw := hw.trans (g133_1.below hw.size (by omega))
          replace f45 := f45.y g133 (by decide)
          replace f35 := f35.y g133 (by decide)
          replace f30 := f30.c g133_1 (by omega)
          replace f := f.y g133 (by decide)
          clear f40
          refine wl_call rfl (C_rpFree _ f45 hr) ?_
          rintro v137 w137 ⟨rfl, ⟨f137, ⟨g137, ⟨row137, g137_1⟩⟩⟩⟩
          have s137 := g137.size
          replace hw := hw.trans (g137.below hw.size (by omega))
          replace f := f.c g137 (by omega)
          replace f30 := f30.c g137 (by omega)
          replace f35 := f35.y g137_1 (by decide)
          replace f133 := f133.y g137_1 (by decide)
          clear f45
          refine wl_p (fun _ => o_assign rfl) ?_
          refine wl_p (fun _ => o_assign rfl) ?_
          refine wl_nild ?_
          refine rk_blk ?_
          refine rk_seq ?_
          refine rk_region ?_
          refine wl_p (fun _ => o_move rfl) ?_
          refine wl_p (fun _ => o_move rfl) ?_
          refine wl_p (fun _ => o_ne rfl rfl) ?_
          refine wl_p (fun _ => o_move rfl) ?_
          refine wl_p (fun _ => o_move rfl) ?_
          refine wl_r (o_strU Tryz.underlying40 Tryz.underlying5 Tryz.underlying9 rfl (Rd.nil_) hw (by rfl)) ?_
          refine wl_p (fun _ => o_move rfl) ?_
          refine wl_r (o_strU Tryz.underlying40 Tryz.underlying5 Tryz.underlying9 rfl (Rd.nil_) hw (by rfl)) ?_
          refine wl_p (fun _ => o_sne rfl rfl) ?_
          refine wl_p (fun _ => o_pick_f rfl rfl) ?_
          refine wl_p (fun _ => o_move rfl) ?_
          refine wl_p (fun _ => o_move rfl) ?_
          refine wl_p (fun _ => o_move rfl) ?_
          refine wl_p (fun _ => o_ne rfl rfl) ?_
          refine wl_p (fun _ => o_pick_f rfl rfl) ?_
          refine wl_p (fun _ => o_move rfl) ?_
          refine wl_know 177 false rfl (decide_eq_false (by omega)) ?_
          refine wl_p (fun _ => o_move rfl) ?_
          refine wl_call rfl (C_pUsed _ (hT.u hw) f133 hI) ?_
          rintro v179 w179 ⟨A179, ⟨c179, ⟨rfl, ⟨f179, b179⟩⟩⟩⟩
          have qf179 := f179.cap
          have s179 := b179.size
          replace hw := hw.trans (b179.mono hw.size)
          replace f133 := f133.u b179
          replace f35 := f35.u b179
          replace f30 := f30.u b179
          replace f := f.u b179
          replace f137 := f137.u b179
          refine wl_p (fun _ => o_move rfl) ?_
          refine wl_call rfl (C_rpUsed _ f137 hI) ?_
          rintro v181 w181 ⟨A181, ⟨c181, ⟨rfl, ⟨f181, b181⟩⟩⟩⟩
          have qf181 := f181.cap
          have s181 := b181.size
          replace hw := hw.trans (b181.mono hw.size)
          replace f137 := f137.u b181
          replace f := f.u b181
          replace f30 := f30.u b181
          replace f35 := f35.u b181
          replace f133 := f133.u b181
          replace f179 := f179.u b181
          refine wl_call rfl (C_IntsZ _ f179.to_RZ f181.to_RZ rfl rfl (by omega) (by omega)) ?_
          rintro v182 w182 ⟨rfl, b182⟩
          have s182 := b182.size
          replace hw := hw.trans (b182.mono hw.size)
          replace f179 := f179.u b182
          replace f133 := f133.u b182
          replace f35 := f35.u b182
          replace f30 := f30.u b182
          replace f := f.u b182
          replace f137 := f137.u b182
          replace f181 := f181.u b182
          refine wl_p (fun _ => o_not rfl) ?_
          refine wl_p (fun _ => o_pick_f rfl rfl) ?_
          refine wl_p (fun _ => o_move rfl) ?_
          refine wl_know 185 false rfl (by simp) ?_
          refine wl_p (fun _ => o_move rfl) ?_
          refine wl_call rfl (C_pSpare _ f133 hq) ?_
          rintro v187 w187 ⟨rfl, b187⟩
          have s187 := b187.size
          replace hw := hw.trans (b187.mono hw.size)
          replace f181 := f181.u b187
          replace f137 := f137.u b187
          replace f := f.u b187
          replace f30 := f30.u b187
          replace f35 := f35.u b187
          replace f133 := f133.u b187
          replace f179 := f179.u b187
          refine wl_p (fun _ => o_move rfl) ?_
          refine wl_call rfl (C_rpSpare _ f137 hq) ?_
          rintro v189 w189 ⟨rfl, b189⟩
          have s189 := b189.size
          replace hw := hw.trans (b189.mono hw.size)
          replace f179 := f179.u b189
          replace f133 := f133.u b189
          replace f35 := f35.u b189
          replace f30 := f30.u b189
          replace f := f.u b189
          replace f137 := f137.u b189
          replace f181 := f181.u b189
          refine wl_p (fun _ => o_ne rfl rfl) ?_
          refine wl_p (fun _ => o_pick_f rfl rfl) ?_
          refine wl_nil ?_
          refine rk_if rfl (fun h191 => absurd h191 (by omega)) (fun h191 => ?_)
          refine rk_skip ?_
          refine rk_blk ?_
          refine rk_region ?_
          refine wl_p (fun _ => o_move rfl) ?_
          refine wl_p (fun _ => o_add rfl rfl (by omega) (by omega)) ?_
          refine wl_p (fun _ => o_assign rfl) ?_
          refine wl_nil ?_
          exact rk_againf (Fr.le_of (by kernel_rfl) (by kernel_rfl) (by repeat' constructor)) ⟨i + 1, (i : Int) + 1, S, C, r.2, g, ul, uh, gr, lo, hi, rfl, by omega, by omega, rfl, hlS, hrl, by assumption, by assumption, by assumption, by assumption, hb1, hb2, hb3, hb4, by omega, hw⟩ (by omega)
        by_cases h4 : t = 4
        · obtain ⟨S1, hS1⟩ : ∃ S1, cur S C = S1 := ⟨_, rfl⟩
          obtain ⟨C1, hC1⟩ : ∃ C1 : List (Option Sec), List.replicate S.length none = C1 := ⟨_, rfl⟩
          have hS1l : S1.length = m := by rw [← hS1, cur_len, hlS]
          obtain ⟨I, hI⟩ : ∃ I, usdZ U U.length = I := ⟨_, rfl⟩
          have hIl : I.length ≤ 100000 := by rw [← hI, usdZ_len]; have := usd_le U U.length; omega
          obtain ⟨q, hq⟩ : ∃ q, (usd U U.length).length = q := ⟨_, rfl⟩
          refine rk_skip ?_
          refine rk_seq ?_
          refine rk_block ?_
          refine rk_seq ?_
          refine rk_region ?_
          refine wl_p (fun _ => o_move rfl) ?_
          refine wl_p (fun _ => o_move rfl) ?_
          refine wl_p (fun _ => (o_iaddrA (i) Tryz.underlying22 Tryz.sizeOf42 rfl rfl rfl (hL.some_ (by omega)) (by omega))) ?_
          refine wl_ldPAct rfl hL hw (by omega) ?_
          rintro A164 c164 B164 d164 f64 f64_1 i64 i64_1 i64_2 i64_3 e64 e64_1 i64_4
          refine wl_allocg [_, _, _, _] Tryz.zeroValue42 (by rfl) ?_
          rintro g14 w14 f14 b14 i14 i14_1
          have s14 := b14.size
          replace hw := hw.trans (b14.mono hw.size)
          replace f45 := f45.u b14
          replace f40 := f40.u b14
          replace f35 := f35.u b14
          replace f30 := f30.u b14
          refine wl_storega Tryz.sizeOf42 rfl rfl (by rfl) (oneCell_of (by rfl)) f14 (by rfl) ?_
          rintro w_1 f g_1 e
          have s := g_1.size
          replace hw := hw.trans (below_of_grownBy g_1.g hw.size (by omega))
          replace f30 := f30.k g_1.g (ap_some (by omega))
          replace f35 := f35.y g_1 (by decide)
          replace f40 := f40.y g_1 (by decide)
          replace f45 := f45.y g_1 (by decide)
          clear f14
          refine wl_nil ?_
          refine rk_seq ?_
          refine rk_region ?_
          refine wl_p (fun _ => o_assign rfl) ?_
          refine wl_p (fun _ => o_assign rfl) ?_
          refine wl_nil ?_
          refine rk_seq ?_
          refine rk_region ?_
          refine wl_p (fun _ => o_assign rfl) ?_
          refine wl_p (fun _ => o_assign rfl) ?_
          refine wl_nil ?_
          refine rk_seq ?_
          refine rk_seq ?_
          refine rk_region ?_
          refine wl_p (fun _ => o_faddr (s := 42) (i := 0) (off := 0) Tryz.underlying42 rfl Tryz.sizeOf3 rfl rfl rfl) ?_
          refine wl_r (o_loadbg Tryz.isAgg3 rfl f (by rfl)) ?_
          refine wl_call rfl (C_PickR _ ht e64 w7) ?_
          rintro v67 w67 ⟨rfl, b67⟩
          have s67 := b67.size
          replace hw := hw.trans (b67.mono hw.size)
          replace f45 := f45.u b67
          replace f40 := f40.u b67
          replace f35 := f35.u b67
          replace f30 := f30.u b67
          replace f := f.u b67
          refine wl_nil ?_
          refine rk_block ?_
          refine rk_seq ?_
          refine rk_seq ?_
          refine rk_region ?_
          refine wl_p (fun _ => o_eq rfl rfl) ?_
          refine wl_p (fun _ => o_assign rfl) ?_
          refine wl_nil ?_
          refine rk_if rfl (fun h94 => absurd h94 (by omega)) (fun h94 => ?_)
          refine rk_region ?_
          refine wl_p (fun _ => o_eq rfl rfl) ?_
          refine wl_p (fun _ => o_assign rfl) ?_
          refine wl_nil ?_
          refine rk_if rfl (fun h94 => absurd h94 (by omega)) (fun h94 => ?_)
          refine rk_seq ?_
          refine rk_region ?_
          refine wl_p (fun _ => o_eq rfl rfl) ?_
          refine wl_p (fun _ => o_assign rfl) ?_
          refine wl_nil ?_
          refine rk_if rfl (fun h112 => absurd h112 (by omega)) (fun h112 => ?_)
          refine rk_seq ?_
          refine rk_region ?_
          refine wl_p (fun _ => o_eq rfl rfl) ?_
          refine wl_p (fun _ => o_assign rfl) ?_
          refine wl_nil ?_
          refine rk_if rfl (fun h128 => absurd h128 (by omega)) (fun h128 => ?_)
          refine rk_seq ?_
          refine rk_region ?_
          refine wl_p (fun _ => o_eq rfl rfl) ?_
          refine wl_p (fun _ => o_assign rfl) ?_
          refine wl_nil ?_
          refine rk_if rfl (fun h138 => ?_) (fun h138 => h138.elim (by omega))
          refine rk_region ?_
          refine wl_p (fun _ => o_move rfl) ?_
          refine wl_call rfl (C_pSync _ f40 f30 hS1 hC1) ?_
          rintro v141 w141 ⟨rfl, ⟨f141, g141⟩⟩
          have s141 := g141.size
          replace hw := hw.trans (g141.below hw.size (by omega))
          replace f := f.c g141 (by omega)
          replace f35 := f35.c g141 (by omega)
          replace f40 := f40.c g141 (by omega)
          replace f45 := f45.c g141 (by omega)
          clear f30
          refine wl_p (fun _ => o_move rfl) ?_
          refine wl_call rfl (C_rpSync _ f45 f35 hS1 hC1) ?_
          rintro v143 w143 ⟨rfl, ⟨f143, g143⟩⟩
          have s143 := g143.size
          replace hw := hw.trans (g143.below hw.size (by omega))
          replace f45 := f45.c g143 (by omega)
          replace f40 := f40.c g143 (by omega)
          replace f := f.c g143 (by omega)
          replace f141 := f141.c g143 (by omega)
          clear f35
          refine wl_p (fun _ => o_assign rfl) ?_
          refine wl_p (fun _ => o_assign rfl) ?_
          refine wl_nil ?_
          refine rk_blk ?_
          refine rk_seq ?_
          refine rk_region ?_
          refine wl_p (fun _ => o_move rfl) ?_
          refine wl_p (fun _ => o_move rfl) ?_
          refine wl_p (fun _ => o_ne rfl rfl) ?_
          refine wl_p (fun _ => o_move rfl) ?_
          refine wl_p (fun _ => o_move rfl) ?_
          refine wl_r (o_strU Tryz.underlying40 Tryz.underlying5 Tryz.underlying9 rfl (Rd.nil_) hw (by rfl)) ?_
          refine wl_p (fun _ => o_move rfl) ?_
          refine wl_r (o_strU Tryz.underlying40 Tryz.underlying5 Tryz.underlying9 rfl (Rd.nil_) hw (by rfl)) ?_
          refine wl_p (fun _ => o_sne rfl rfl) ?_
          refine wl_p (fun _ => o_pick_f rfl rfl) ?_
          refine wl_p (fun _ => o_move rfl) ?_
          refine wl_p (fun _ => o_move rfl) ?_
          refine wl_p (fun _ => o_move rfl) ?_
          refine wl_p (fun _ => o_ne rfl rfl) ?_
          refine wl_p (fun _ => o_pick_f rfl rfl) ?_
          refine wl_p (fun _ => o_move rfl) ?_
          refine wl_p (fun _ => o_move rfl) ?_
          refine wl_call rfl (C_pUsed _ (hT.u hw) f40 hI) ?_
          rintro v179 w179 ⟨A179, ⟨c179, ⟨rfl, ⟨f179, b179⟩⟩⟩⟩
          have qf179 := f179.cap
          have s179 := b179.size
          replace hw := hw.trans (b179.mono hw.size)
          replace f141 := f141.u b179
          replace f := f.u b179
          replace f40 := f40.u b179
          replace f45 := f45.u b179
          replace f143 := f143.u b179
          refine wl_p (fun _ => o_move rfl) ?_
          refine wl_call rfl (C_rpUsed _ f45 hI) ?_
          rintro v181 w181 ⟨A181, ⟨c181, ⟨rfl, ⟨f181, b181⟩⟩⟩⟩
          have qf181 := f181.cap
          have s181 := b181.size
          replace hw := hw.trans (b181.mono hw.size)
          replace f143 := f143.u b181
          replace f45 := f45.u b181
          replace f40 := f40.u b181
          replace f := f.u b181
          replace f141 := f141.u b181
          replace f179 := f179.u b181
          refine wl_call rfl (C_IntsZ _ f179.to_RZ f181.to_RZ rfl rfl (by omega) (by omega)) ?_
          rintro v182 w182 ⟨rfl, b182⟩
          have s182 := b182.size
          replace hw := hw.trans (b182.mono hw.size)
          replace f179 := f179.u b182
          replace f141 := f141.u b182
          replace f := f.u b182
          replace f40 := f40.u b182
          replace f45 := f45.u b182
          replace f143 := f143.u b182
          replace f181 := f181.u b182
          refine wl_p (fun _ => o_not rfl) ?_
          refine wl_p (fun _ => o_pick_f rfl rfl) ?_
          refine wl_p (fun _ => o_move rfl) ?_
          refine wl_know 185 false rfl (by simp) ?_
          refine wl_p (fun _ => o_move rfl) ?_
          refine wl_call rfl (C_pSpare _ f40 hq) ?_
          rintro v187 w187 ⟨rfl, b187⟩
          have s187 := b187.size
          replace hw := hw.trans (b187.mono hw.size)
          replace f181 := f181.u b187
          replace f143 := f143.u b187
          replace f45 := f45.u b187
          replace f40 := f40.u b187
          replace f := f.u b187
          replace f141 := f141.u b187
          replace f179 := f179.u b187
          refine wl_p (fun _ => o_move rfl) ?_
          refine wl_call rfl (C_rpSpare _ f45 hq) ?_
          rintro v189 w189 ⟨rfl, b189⟩
          have s189 := b189.size
          replace hw := hw.trans (b189.mono hw.size)
          replace f179 := f179.u b189
          replace f141 := f141.u b189
          replace f := f.u b189
          replace f40 := f40.u b189
          replace f45 := f45.u b189
          replace f143 := f143.u b189
          replace f181 := f181.u b189
          refine wl_p (fun _ => o_ne rfl rfl) ?_
          refine wl_p (fun _ => o_pick_f rfl rfl) ?_
          refine wl_nil ?_
          refine rk_if rfl (fun h191 => absurd h191 (by omega)) (fun h191 => ?_)
          refine rk_skip ?_
          refine rk_blk ?_
          refine rk_region ?_
          refine wl_p (fun _ => o_move rfl) ?_
          refine wl_p (fun _ => o_add rfl rfl (by omega) (by omega)) ?_
          refine wl_p (fun _ => o_assign rfl) ?_
          refine wl_nil ?_
          exact rk_againf (Fr.le_of (by kernel_rfl) (by kernel_rfl) (by repeat' constructor)) ⟨i + 1, (i : Int) + 1, S1, C1, U, g, ul, uh, gr, lo, hi, rfl, by omega, by omega, rfl, hS1l, hlU, by assumption, by assumption, by assumption, by assumption, hb1, hb2, hb3, hb4, by omega, hw⟩ (by omega)
        by_cases h2 : t = 2
        · obtain ⟨X, hX⟩ : ∃ X, cur S C = X := ⟨_, rfl⟩
          obtain ⟨r, hr⟩ : ∃ r, readP X U L[i].2.1 = r := ⟨_, rfl⟩
          obtain ⟨I, hI⟩ : ∃ I, usdZ U U.length = I := ⟨_, rfl⟩
          have hIl : I.length ≤ 100000 := by rw [← hI, usdZ_len]; have := usd_le U U.length; omega
          obtain ⟨q, hq⟩ : ∃ q, (usd U U.length).length = q := ⟨_, rfl⟩
          have hrl : r.1.length ≤ 100000 := by rw [← hr]; exact readP_len X U _
          refine rk_skip ?_
          refine rk_seq ?_
          refine rk_block ?_
          refine rk_seq ?_
          refine rk_region ?_
          refine wl_p (fun _ => o_move rfl) ?_
          refine wl_p (fun _ => o_move rfl) ?_
          refine wl_p (fun _ => (o_iaddrA (i) Tryz.underlying22 Tryz.sizeOf42 rfl rfl rfl (hL.some_ (by omega)) (by omega))) ?_
          refine wl_ldPAct rfl hL hw (by omega) ?_
          rintro A164 c164 B164 d164 f64 f64_1 i64 i64_1 i64_2 i64_3 e64 e64_1 i64_4
          refine wl_allocg [_, _, _, _] Tryz.zeroValue42 (by rfl) ?_
          rintro g14 w14 f14 b14 i14 i14_1
          have s14 := b14.size
          replace hw := hw.trans (b14.mono hw.size)
          replace f45 := f45.u b14
          replace f40 := f40.u b14
          replace f35 := f35.u b14
          replace f30 := f30.u b14
          refine wl_storega Tryz.sizeOf42 rfl rfl (by rfl) (oneCell_of (by rfl)) f14 (by rfl) ?_
          rintro w_1 f g_1 e
          have s := g_1.size
          replace hw := hw.trans (below_of_grownBy g_1.g hw.size (by omega))
          replace f30 := f30.k g_1.g (ap_some (by omega))
          replace f35 := f35.y g_1 (by decide)
          replace f40 := f40.y g_1 (by decide)
          replace f45 := f45.y g_1 (by decide)
          clear f14
          refine wl_nil ?_
          refine rk_seq ?_
          refine rk_region ?_
          refine wl_p (fun _ => o_assign rfl) ?_
          refine wl_p (fun _ => o_assign rfl) ?_
          refine wl_nil ?_
          refine rk_seq ?_
          refine rk_region ?_
          refine wl_p (fun _ => o_assign rfl) ?_
          refine wl_p (fun _ => o_assign rfl) ?_
          refine wl_nil ?_
          refine rk_seq ?_
          refine rk_seq ?_
          refine rk_region ?_
          refine wl_p (fun _ => o_faddr (s := 42) (i := 0) (off := 0) Tryz.underlying42 rfl Tryz.sizeOf3 rfl rfl rfl) ?_
          refine wl_r (o_loadbg Tryz.isAgg3 rfl f (by rfl)) ?_
          refine wl_call rfl (C_PickR _ ht e64 w7) ?_
          rintro v67 w67 ⟨rfl, b67⟩
          have s67 := b67.size
          replace hw := hw.trans (b67.mono hw.size)
          replace f45 := f45.u b67
          replace f40 := f40.u b67
          replace f35 := f35.u b67
          replace f30 := f30.u b67
          replace f := f.u b67
          refine wl_nil ?_
          refine rk_block ?_
          refine rk_seq ?_
          refine rk_seq ?_
          refine rk_region ?_
          refine wl_p (fun _ => o_eq rfl rfl) ?_
          refine wl_p (fun _ => o_assign rfl) ?_
          refine wl_nil ?_
          refine rk_if rfl (fun h94 => absurd h94 (by omega)) (fun h94 => ?_)
          refine rk_region ?_
          refine wl_p (fun _ => o_eq rfl rfl) ?_
          refine wl_p (fun _ => o_assign rfl) ?_
          refine wl_nil ?_
          refine rk_if rfl (fun h94 => absurd h94 (by omega)) (fun h94 => ?_)
          refine rk_seq ?_
          refine rk_region ?_
          refine wl_p (fun _ => o_eq rfl rfl) ?_
          refine wl_p (fun _ => o_assign rfl) ?_
          refine wl_nil ?_
          refine rk_if rfl (fun h112 => ?_) (fun h112 => h112.elim (by omega))
          refine rk_seq ?_
          refine rk_region ?_
          refine wl_p (fun _ => o_move rfl) ?_
          refine wl_p (fun _ => o_faddr (s := 42) (i := 1) (off := 1) Tryz.underlying42 rfl Tryz.sizeOf3 rfl rfl rfl) ?_
          refine wl_r (o_loadbg Tryz.isAgg3 rfl f (by rfl)) ?_
          refine wl_call rfl (C_pRead _ f40 f30 hX hr (by omega) e64_1) ?_
          rintro v118 w118 ⟨A118, ⟨c118, ⟨rfl, ⟨f118, ⟨i118, b118⟩⟩⟩⟩⟩
          have s118 := b118.size
          replace hw := hw.trans (b118.mono hw.size)
          replace f := f.u b118
          replace f30 := f30.u b118
          replace f35 := f35.u b118
          replace f40 := f40.u b118
          replace f45 := f45.u b118
          refine wl_p (fun _ => o_move rfl) ?_
          refine wl_p (fun _ => o_ext20 rfl) ?_
          refine wl_p (fun _ => o_ext21 rfl) ?_
          refine wl_p (fun _ => o_assign rfl) ?_
          refine wl_p (fun _ => o_assign rfl) ?_
          refine wl_nil ?_
          refine rk_region ?_
          refine wl_p (fun _ => o_move rfl) ?_
          refine wl_p (fun _ => o_faddr (s := 42) (i := 1) (off := 1) Tryz.underlying42 rfl Tryz.sizeOf3 rfl rfl rfl) ?_
          refine wl_r (o_loadbg Tryz.isAgg3 rfl f (by rfl)) ?_
          refine wl_call rfl (C_rpRead _ f45 f35 hX hr (by omega) e64_1) ?_
          rintro v125 w125 ⟨A125, ⟨c125, ⟨rfl, ⟨f125, ⟨i125, b125⟩⟩⟩⟩⟩
          have s125 := b125.size
          replace hw := hw.trans (b125.mono hw.size)
          replace f45 := f45.u b125
          replace f40 := f40.u b125
          replace f35 := f35.u b125
          replace f30 := f30.u b125
          replace f := f.u b125
          replace f118 := f118.u b125
          refine wl_p (fun _ => o_move rfl) ?_
          refine wl_p (fun _ => o_ext20 rfl) ?_
          refine wl_p (fun _ => o_ext21 rfl) ?_
          refine wl_p (fun _ => o_assign rfl) ?_
          refine wl_p (fun _ => o_assign rfl) ?_
          refine wl_nil ?_
          refine rk_blk ?_
          refine rk_seq ?_
          refine rk_region ?_
          refine wl_p (fun _ => o_move rfl) ?_
          refine wl_p (fun _ => o_move rfl) ?_
          refine wl_p (fun _ => o_ne rfl rfl) ?_
          refine wl_p (fun _ => o_move rfl) ?_
          refine wl_p (fun _ => o_move rfl) ?_
          refine wl_r (o_strU Tryz.underlying40 Tryz.underlying5 Tryz.underlying9 rfl f118.to_Rd (Below.refl _ _) rfl) ?_
          refine wl_p (fun _ => o_move rfl) ?_
          refine wl_r (o_strU Tryz.underlying40 Tryz.underlying5 Tryz.underlying9 rfl f125.to_Rd (Below.refl _ _) rfl) ?_
          refine wl_p (fun _ => o_sne rfl rfl) ?_
          refine wl_p (fun _ => o_pick_f rfl rfl) ?_
          refine wl_p (fun _ => o_move rfl) ?_
          refine wl_know 172 false rfl (by simp) ?_
          refine wl_p (fun _ => o_move rfl) ?_
          refine wl_p (fun _ => o_move rfl) ?_
          refine wl_p (fun _ => o_ne rfl rfl) ?_
          refine wl_p (fun _ => o_pick_f rfl rfl) ?_
          refine wl_p (fun _ => o_move rfl) ?_
          refine wl_know 177 false rfl (decide_eq_false (by omega)) ?_
          refine wl_p (fun _ => o_move rfl) ?_
          refine wl_call rfl (C_pUsed _ (hT.u hw) f40 hI) ?_
          rintro v179 w179 ⟨A179, ⟨c179, ⟨rfl, ⟨f179, b179⟩⟩⟩⟩
          have qf179 := f179.cap
          have s179 := b179.size
          replace hw := hw.trans (b179.mono hw.size)
          replace f118 := f118.u b179
          replace f := f.u b179
          replace f30 := f30.u b179
          replace f35 := f35.u b179
          replace f40 := f40.u b179
          replace f45 := f45.u b179
          replace f125 := f125.u b179
          refine wl_p (fun _ => o_move rfl) ?_
          refine wl_call rfl (C_rpUsed _ f45 hI) ?_
          rintro v181 w181 ⟨A181, ⟨c181, ⟨rfl, ⟨f181, b181⟩⟩⟩⟩
          have qf181 := f181.cap
          have s181 := b181.size
          replace hw := hw.trans (b181.mono hw.size)
          replace f125 := f125.u b181
          replace f45 := f45.u b181
          replace f40 := f40.u b181
          replace f35 := f35.u b181
          replace f30 := f30.u b181
          replace f := f.u b181
          replace f118 := f118.u b181
          replace f179 := f179.u b181
          refine wl_call rfl (C_IntsZ _ f179.to_RZ f181.to_RZ rfl rfl (by omega) (by omega)) ?_
          rintro v182 w182 ⟨rfl, b182⟩
          have s182 := b182.size
          replace hw := hw.trans (b182.mono hw.size)
          replace f179 := f179.u b182
          replace f118 := f118.u b182
          replace f := f.u b182
          replace f30 := f30.u b182
          replace f35 := f35.u b182
          replace f40 := f40.u b182
          replace f45 := f45.u b182
          replace f125 := f125.u b182
          replace f181 := f181.u b182
          refine wl_p (fun _ => o_not rfl) ?_
          refine wl_p (fun _ => o_pick_f rfl rfl) ?_
          refine wl_p (fun _ => o_move rfl) ?_
          refine wl_know 185 false rfl (by simp) ?_
          refine wl_p (fun _ => o_move rfl) ?_
          refine wl_call rfl (C_pSpare _ f40 hq) ?_
          rintro v187 w187 ⟨rfl, b187⟩
          have s187 := b187.size
          replace hw := hw.trans (b187.mono hw.size)
          replace f181 := f181.u b187
          replace f125 := f125.u b187
          replace f45 := f45.u b187
          replace f40 := f40.u b187
          replace f35 := f35.u b187
          replace f30 := f30.u b187
          replace f := f.u b187
          replace f118 := f118.u b187
          replace f179 := f179.u b187
          refine wl_p (fun _ => o_move rfl) ?_
          refine wl_call rfl (C_rpSpare _ f45 hq) ?_
          rintro v189 w189 ⟨rfl, b189⟩
          have s189 := b189.size
          replace hw := hw.trans (b189.mono hw.size)
          replace f179 := f179.u b189
          replace f118 := f118.u b189
          replace f := f.u b189
          replace f30 := f30.u b189
          replace f35 := f35.u b189
          replace f40 := f40.u b189
          replace f45 := f45.u b189
          replace f125 := f125.u b189
          replace f181 := f181.u b189
          refine wl_p (fun _ => o_ne rfl rfl) ?_
          refine wl_p (fun _ => o_pick_f rfl rfl) ?_
          refine wl_nil ?_
          refine rk_if rfl (fun h191 => absurd h191 (by omega)) (fun h191 => ?_)
          refine rk_skip ?_
          refine rk_blk ?_
          refine rk_region ?_
          refine wl_p (fun _ => o_move rfl) ?_
          refine wl_p (fun _ => o_add rfl rfl (by omega) (by omega)) ?_
          refine wl_p (fun _ => o_assign rfl) ?_
          refine wl_nil ?_
          exact rk_againf (Fr.le_of (by kernel_rfl) (by kernel_rfl) (by repeat' constructor)) ⟨i + 1, (i : Int) + 1, S, C, U, g, ul, uh, gr, lo, hi, rfl, by omega, by omega, rfl, hlS, hlU, by assumption, by assumption, by assumption, by assumption, hb1, hb2, hb3, hb4, by omega, hw⟩ (by omega)
        by_cases h5 : t = 5
        · obtain ⟨I0, hI0⟩ : ∃ I, usdZ U U.length = I := ⟨_, rfl⟩
          have hI0l : I0.length ≤ 100000 := by rw [← hI0, usdZ_len]; have := usd_le U U.length; omega
          obtain ⟨q0, hq0⟩ : ∃ q, (usd U U.length).length = q := ⟨_, rfl⟩
          obtain ⟨M, hM⟩ : ∃ M, markAll (List.replicate U.length false) L[i].2.2.1 = M := ⟨_, rfl⟩
          have hMl : M.length = h := by rw [← hM, markAll_len, List.length_replicate, hlU]
          obtain ⟨I, hI⟩ : ∃ I, usdZ M M.length = I := ⟨_, rfl⟩
          have hIl : I.length ≤ 100000 := by rw [← hI, usdZ_len]; have := usd_le M M.length; omega
          obtain ⟨q, hq⟩ : ∃ q, (usd M M.length).length = q := ⟨_, rfl⟩
          cases hall : L[i].2.2.1.all (usdAt U) with
          | true =>
            refine rk_skip ?_
            refine rk_seq ?_
            refine rk_block ?_
            refine rk_seq ?_
            refine rk_region ?_
            refine wl_p (fun _ => o_move rfl) ?_
            refine wl_p (fun _ => o_move rfl) ?_
            refine wl_p (fun _ => (o_iaddrA (i) Tryz.underlying22 Tryz.sizeOf42 rfl rfl rfl (hL.some_ (by omega)) (by omega))) ?_
            refine wl_ldPAct rfl hL hw (by omega) ?_
            rintro A164 c164 B164 d164 f64 f64_1 i64 i64_1 i64_2 i64_3 e64 e64_1 i64_4
            refine wl_allocg [_, _, _, _] Tryz.zeroValue42 (by rfl) ?_
            rintro g14 w14 f14 b14 i14 i14_1
            have s14 := b14.size
            replace hw := hw.trans (b14.mono hw.size)
            replace f45 := f45.u b14
            replace f40 := f40.u b14
            replace f35 := f35.u b14
            replace f30 := f30.u b14
            refine wl_storega Tryz.sizeOf42 rfl rfl (by rfl) (oneCell_of (by rfl)) f14 (by rfl) ?_
            rintro w_1 f g_1 e
            have s := g_1.size
            replace hw := hw.trans (below_of_grownBy g_1.g hw.size (by omega))
            replace f30 := f30.k g_1.g (ap_some (by omega))
            replace f35 := f35.y g_1 (by decide)
            replace f40 := f40.y g_1 (by decide)
            replace f45 := f45.y g_1 (by decide)
            clear f14
            refine wl_nil ?_
            refine rk_seq ?_
            refine rk_region ?_
            refine wl_p (fun _ => o_assign rfl) ?_
            refine wl_p (fun _ => o_assign rfl) ?_
            refine wl_nil ?_
            refine rk_seq ?_
            refine rk_region ?_
            refine wl_p (fun _ => o_assign rfl) ?_
            refine wl_p (fun _ => o_assign rfl) ?_
            refine wl_nil ?_
            refine rk_seq ?_
            refine rk_seq ?_
            refine rk_region ?_
            refine wl_p (fun _ => o_faddr (s := 42) (i := 0) (off := 0) Tryz.underlying42 rfl Tryz.sizeOf3 rfl rfl rfl) ?_
            refine wl_r (o_loadbg Tryz.isAgg3 rfl f (by rfl)) ?_
            refine wl_call rfl (C_PickR _ ht e64 w7) ?_
            rintro v67 w67 ⟨rfl, b67⟩
            have s67 := b67.size
            replace hw := hw.trans (b67.mono hw.size)
            replace f45 := f45.u b67
            replace f40 := f40.u b67
            replace f35 := f35.u b67
            replace f30 := f30.u b67
            replace f := f.u b67
            refine wl_nil ?_
            refine rk_block ?_
            refine rk_seq ?_
            refine rk_seq ?_
            refine rk_region ?_
            refine wl_p (fun _ => o_eq rfl rfl) ?_
            refine wl_p (fun _ => o_assign rfl) ?_
            refine wl_nil ?_
            refine rk_if rfl (fun h94 => absurd h94 (by omega)) (fun h94 => ?_)
            refine rk_region ?_
            refine wl_p (fun _ => o_eq rfl rfl) ?_
            refine wl_p (fun _ => o_assign rfl) ?_
            refine wl_nil ?_
            refine rk_if rfl (fun h94 => absurd h94 (by omega)) (fun h94 => ?_)
            refine rk_seq ?_
            refine rk_region ?_
            refine wl_p (fun _ => o_eq rfl rfl) ?_
            refine wl_p (fun _ => o_assign rfl) ?_
            refine wl_nil ?_
            refine rk_if rfl (fun h112 => absurd h112 (by omega)) (fun h112 => ?_)
            refine rk_seq ?_
            refine rk_region ?_
            refine wl_p (fun _ => o_eq rfl rfl) ?_
            refine wl_p (fun _ => o_assign rfl) ?_
            refine wl_nil ?_
            refine rk_if rfl (fun h128 => absurd h128 (by omega)) (fun h128 => ?_)
            refine rk_seq ?_
            refine rk_region ?_
            refine wl_p (fun _ => o_eq rfl rfl) ?_
            refine wl_p (fun _ => o_assign rfl) ?_
            refine wl_nil ?_
            refine rk_if rfl (fun h138 => absurd h138 (by omega)) (fun h138 => ?_)
            refine rk_seq ?_
            refine rk_region ?_
            refine wl_p (fun _ => o_eq rfl rfl) ?_
            refine wl_p (fun _ => o_assign rfl) ?_
            refine wl_nil ?_
            refine rk_if rfl (fun h144 => ?_) (fun h144 => h144.elim (by omega))
            refine rk_seq ?_
            refine rk_region ?_
            refine wl_p (fun _ => o_move rfl) ?_
            refine wl_litZH [] (by rfl) rfl rfl (by rfl) (by rfl) (by rfl) ?_
            rintro A148 w148 f148 b148
            have qf148 := f148.cap
            have s148 := b148.size
            replace hw := hw.trans (b148.mono hw.size)
            replace f := f.u b148
            replace f30 := f30.u b148
            replace f35 := f35.u b148
            replace f40 := f40.u b148
            replace f45 := f45.u b148
            refine wl_p (fun _ => o_faddr (s := 42) (i := 2) (off := 2) Tryz.underlying42 rfl Tryz.sizeOf39 rfl rfl rfl) ?_
            refine wl_r (o_loadbg Tryz.isAgg39 rfl f (by rfl)) ?_
            refine wl_appZ rfl f148 (by rfl) rfl (f64.u hw) rfl (by omega) (by omega) ?_
            rintro A151 c151 w151 f151 g151 b151 i151
            have qf151 := f151.cap
            have s151 := g151.size
            replace hw := hw.trans (b151.mono (by omega))
            replace f45 := f45.y g151 (by decide)
            replace f40 := f40.y g151 (by decide)
            replace f35 := f35.y g151 (by decide)
            replace f30 := f30.k g151.g (f148.ap (by omega))
            replace f := f.y g151 (by decide)
            clear f148
            simp only [List.nil_append] at f151
            simp only [List.nil_append]
            refine wl_call rfl (C_pKeepOk _ f40 f151.to_RZ hM hq0 hq rfl (by omega) hall (by omega)) ?_
            rintro v152 w152 ⟨rfl, ⟨f152, ⟨w1152, ⟨b152, ⟨g152, g152_1⟩⟩⟩⟩⟩
            have s152 := b152.size
            replace hw := hw.trans (b152.mono hw.size)
            replace f := f.u b152
            replace f30 := f30.u b152
            replace f35 := f35.u b152
            replace f40 := f40.u b152
            replace f45 := f45.u b152
            replace f151 := f151.u b152
            have s152g152 := g152.size
            replace hw := hw.trans (g152.below hw.size (by omega))
            replace f151 := f151.y g152_1 (by decide)
            replace f45 := f45.y g152_1 (by decide)
            replace f35 := f35.y g152_1 (by decide)
            replace f30 := f30.c g152 (by omega)
            replace f := f.y g152_1 (by decide)
            clear f40
            refine wl_p (fun _ => o_move rfl) ?_
            refine wl_p (fun _ => o_ext20 rfl) ?_
            refine wl_p (fun _ => o_ext21 rfl) ?_
            refine wl_p (fun _ => o_assign rfl) ?_
            refine wl_p (fun _ => o_assign rfl) ?_
            refine wl_nil ?_
            refine rk_region ?_
            refine wl_p (fun _ => o_move rfl) ?_
            refine wl_p (fun _ => o_faddr (s := 42) (i := 2) (off := 2) Tryz.underlying42 rfl Tryz.sizeOf39 rfl rfl rfl) ?_
            refine wl_r (o_loadbg Tryz.isAgg39 rfl f (by rfl)) ?_
            refine wl_call rfl (C_rpKeepOk _ f45 (f64.u hw) hM hq0 hq rfl (by omega) hall) ?_
            rintro v159 w159 ⟨rfl, ⟨f159, ⟨w1159, ⟨b159, ⟨g159, g159_1⟩⟩⟩⟩⟩
            have s159 := b159.size
            replace hw := hw.trans (b159.mono hw.size)
            replace f := f.u b159
            replace f30 := f30.u b159
            replace f35 := f35.u b159
            replace f45 := f45.u b159
            replace f151 := f151.u b159
            replace f152 := f152.u b159
            have s159g159 := g159.size
            replace hw := hw.trans (g159.below hw.size (by omega))
            replace f152 := f152.y g159_1 (by decide)
            replace f151 := f151.y g159_1 (by decide)
            replace f35 := f35.y g159_1 (by decide)
            replace f30 := f30.c g159 (by omega)
            replace f := f.y g159_1 (by decide)
            clear f45
            refine wl_p (fun _ => o_move rfl) ?_
            refine wl_p (fun _ => o_ext20 rfl) ?_
            refine wl_p (fun _ => o_ext21 rfl) ?_
            refine wl_p (fun _ => o_assign rfl) ?_
            refine wl_p (fun _ => o_assign rfl) ?_
            refine wl_nil ?_
            refine rk_blk ?_
            refine rk_seq ?_
            refine rk_region ?_
            refine wl_p (fun _ => o_move rfl) ?_
            refine wl_p (fun _ => o_move rfl) ?_
            refine wl_p (fun _ => o_ne rfl rfl) ?_
            refine wl_p (fun _ => o_move rfl) ?_
            refine wl_know 165 false rfl (decide_eq_false (by omega)) ?_
            refine wl_p (fun _ => o_move rfl) ?_
            refine wl_r (o_strU Tryz.underlying40 Tryz.underlying5 Tryz.underlying9 rfl (Rd.nil_) hw (by rfl)) ?_
            refine wl_p (fun _ => o_move rfl) ?_
            refine wl_r (o_strU Tryz.underlying40 Tryz.underlying5 Tryz.underlying9 rfl (Rd.nil_) hw (by rfl)) ?_
            refine wl_p (fun _ => o_sne rfl rfl) ?_
            refine wl_p (fun _ => o_pick_f rfl rfl) ?_
            refine wl_p (fun _ => o_move rfl) ?_
            refine wl_p (fun _ => o_move rfl) ?_
            refine wl_p (fun _ => o_move rfl) ?_
            refine wl_p (fun _ => o_ne rfl rfl) ?_
            refine wl_p (fun _ => o_pick_f rfl rfl) ?_
            refine wl_p (fun _ => o_move rfl) ?_
            refine wl_p (fun _ => o_move rfl) ?_
            refine wl_call rfl (C_pUsed _ (hT.u hw) f152 hI) ?_
            rintro v179 w179 ⟨A179, ⟨c179, ⟨rfl, ⟨f179, b179⟩⟩⟩⟩
            have qf179 := f179.cap
            have s179 := b179.size
            replace hw := hw.trans (b179.mono hw.size)
            replace f := f.u b179
            replace f30 := f30.u b179
            replace f35 := f35.u b179
            replace f151 := f151.u b179
            replace f152 := f152.u b179
            replace f159 := f159.u b179
            refine wl_p (fun _ => o_move rfl) ?_
            refine wl_call rfl (C_rpUsed _ f159 hI) ?_
            rintro v181 w181 ⟨A181, ⟨c181, ⟨rfl, ⟨f181, b181⟩⟩⟩⟩
            have qf181 := f181.cap
            have s181 := b181.size
            replace hw := hw.trans (b181.mono hw.size)
            replace f159 := f159.u b181
            replace f152 := f152.u b181
            replace f151 := f151.u b181
            replace f35 := f35.u b181
            replace f30 := f30.u b181
            replace f := f.u b181
            replace f179 := f179.u b181
            refine wl_call rfl (C_IntsZ _ f179.to_RZ f181.to_RZ rfl rfl (by omega) (by omega)) ?_
            rintro v182 w182 ⟨rfl, b182⟩
            have s182 := b182.size
            replace hw := hw.trans (b182.mono hw.size)
            replace f179 := f179.u b182
            replace f := f.u b182
            replace f30 := f30.u b182
            replace f35 := f35.u b182
            replace f151 := f151.u b182
            replace f152 := f152.u b182
            replace f159 := f159.u b182
            replace f181 := f181.u b182
            refine wl_p (fun _ => o_not rfl) ?_
            refine wl_p (fun _ => o_pick_f rfl rfl) ?_
            refine wl_p (fun _ => o_move rfl) ?_
            refine wl_know 185 false rfl (by simp) ?_
            refine wl_p (fun _ => o_move rfl) ?_
            refine wl_call rfl (C_pSpare _ f152 hq) ?_
            rintro v187 w187 ⟨rfl, b187⟩
            have s187 := b187.size
            replace hw := hw.trans (b187.mono hw.size)
            replace f181 := f181.u b187
            replace f159 := f159.u b187
            replace f152 := f152.u b187
            replace f151 := f151.u b187
            replace f35 := f35.u b187
            replace f30 := f30.u b187
            replace f := f.u b187
            replace f179 := f179.u b187
            refine wl_p (fun _ => o_move rfl) ?_
            refine wl_call rfl (C_rpSpare _ f159 hq) ?_
            rintro v189 w189 ⟨rfl, b189⟩
            have s189 := b189.size
            replace hw := hw.trans (b189.mono hw.size)
            replace f179 := f179.u b189
            replace f := f.u b189
            replace f30 := f30.u b189
            replace f35 := f35.u b189
            replace f151 := f151.u b189
            replace f152 := f152.u b189
            replace f159 := f159.u b189
            replace f181 := f181.u b189
            refine wl_p (fun _ => o_ne rfl rfl) ?_
            refine wl_p (fun _ => o_pick_f rfl rfl) ?_
            refine wl_nil ?_
            refine rk_if rfl (fun h191 => absurd h191 (by omega)) (fun h191 => ?_)
            refine rk_skip ?_
            refine rk_blk ?_
            refine rk_region ?_
            refine wl_p (fun _ => o_move rfl) ?_
            refine wl_p (fun _ => o_add rfl rfl (by omega) (by omega)) ?_
            refine wl_p (fun _ => o_assign rfl) ?_
            refine wl_nil ?_
            exact rk_againf (Fr.le_of (by kernel_rfl) (by kernel_rfl) (by repeat' constructor)) ⟨i + 1, (i : Int) + 1, S, C, M, g, _, _, gr, _, _, rfl, by omega, by omega, rfl, hlS, hMl, by assumption, by assumption, by assumption, by assumption, by omega, by omega, hb3, hb4, by omega, hw⟩ (by omega)
          | false =>
            refine rk_skip ?_
            refine rk_seq ?_
            refine rk_block ?_
            refine rk_seq ?_
            refine rk_region ?_
            refine wl_p (fun _ => o_move rfl) ?_
            refine wl_p (fun _ => o_move rfl) ?_
            refine wl_p (fun _ => (o_iaddrA (i) Tryz.underlying22 Tryz.sizeOf42 rfl rfl rfl (hL.some_ (by omega)) (by omega))) ?_
            refine wl_ldPAct rfl hL hw (by omega) ?_
            rintro A164 c164 B164 d164 f64 f64_1 i64 i64_1 i64_2 i64_3 e64 e64_1 i64_4
            refine wl_allocg [_, _, _, _] Tryz.zeroValue42 (by rfl) ?_
            rintro g14 w14 f14 b14 i14 i14_1
            have s14 := b14.size
            replace hw := hw.trans (b14.mono hw.size)
            replace f45 := f45.u b14
            replace f40 := f40.u b14
            replace f35 := f35.u b14
            replace f30 := f30.u b14
            refine wl_storega Tryz.sizeOf42 rfl rfl (by rfl) (oneCell_of (by rfl)) f14 (by rfl) ?_
            rintro w_1 f g_1 e
            have s := g_1.size
            replace hw := hw.trans (below_of_grownBy g_1.g hw.size (by omega))
            replace f30 := f30.k g_1.g (ap_some (by omega))
            replace f35 := f35.y g_1 (by decide)
            replace f40 := f40.y g_1 (by decide)
            replace f45 := f45.y g_1 (by decide)
            clear f14
            refine wl_nil ?_
            refine rk_seq ?_
            refine rk_region ?_
            refine wl_p (fun _ => o_assign rfl) ?_
            refine wl_p (fun _ => o_assign rfl) ?_
            refine wl_nil ?_
            refine rk_seq ?_
            refine rk_region ?_
            refine wl_p (fun _ => o_assign rfl) ?_
            refine wl_p (fun _ => o_assign rfl) ?_
            refine wl_nil ?_
            refine rk_seq ?_
            refine rk_seq ?_
            refine rk_region ?_
            refine wl_p (fun _ => o_faddr (s := 42) (i := 0) (off := 0) Tryz.underlying42 rfl Tryz.sizeOf3 rfl rfl rfl) ?_
            refine wl_r (o_loadbg Tryz.isAgg3 rfl f (by rfl)) ?_
            refine wl_call rfl (C_PickR _ ht e64 w7) ?_
            rintro v67 w67 ⟨rfl, b67⟩
            have s67 := b67.size
            replace hw := hw.trans (b67.mono hw.size)
            replace f45 := f45.u b67
            replace f40 := f40.u b67
            replace f35 := f35.u b67
            replace f30 := f30.u b67
            replace f := f.u b67
            refine wl_nil ?_
            refine rk_block ?_
            refine rk_seq ?_
            refine rk_seq ?_
            refine rk_region ?_
            refine wl_p (fun _ => o_eq rfl rfl) ?_
            refine wl_p (fun _ => o_assign rfl) ?_
            refine wl_nil ?_
            refine rk_if rfl (fun h94 => absurd h94 (by omega)) (fun h94 => ?_)
            refine rk_region ?_
            refine wl_p (fun _ => o_eq rfl rfl) ?_
            refine wl_p (fun _ => o_assign rfl) ?_
            refine wl_nil ?_
            refine rk_if rfl (fun h94 => absurd h94 (by omega)) (fun h94 => ?_)
            refine rk_seq ?_
            refine rk_region ?_
            refine wl_p (fun _ => o_eq rfl rfl) ?_
            refine wl_p (fun _ => o_assign rfl) ?_
            refine wl_nil ?_
            refine rk_if rfl (fun h112 => absurd h112 (by omega)) (fun h112 => ?_)
            refine rk_seq ?_
            refine rk_region ?_
            refine wl_p (fun _ => o_eq rfl rfl) ?_
            refine wl_p (fun _ => o_assign rfl) ?_
            refine wl_nil ?_
            refine rk_if rfl (fun h128 => absurd h128 (by omega)) (fun h128 => ?_)
            refine rk_seq ?_
            refine rk_region ?_
            refine wl_p (fun _ => o_eq rfl rfl) ?_
            refine wl_p (fun _ => o_assign rfl) ?_
            refine wl_nil ?_
            refine rk_if rfl (fun h138 => absurd h138 (by omega)) (fun h138 => ?_)
            refine rk_seq ?_
            refine rk_region ?_
            refine wl_p (fun _ => o_eq rfl rfl) ?_
            refine wl_p (fun _ => o_assign rfl) ?_
            refine wl_nil ?_
            refine rk_if rfl (fun h144 => ?_) (fun h144 => h144.elim (by omega))
            refine rk_seq ?_
            refine rk_region ?_
            refine wl_p (fun _ => o_move rfl) ?_
            refine wl_litZH [] (by rfl) rfl rfl (by rfl) (by rfl) (by rfl) ?_
            rintro A148 w148 f148 b148
            have qf148 := f148.cap
            have s148 := b148.size
            replace hw := hw.trans (b148.mono hw.size)
            replace f := f.u b148
            replace f30 := f30.u b148
            replace f35 := f35.u b148
            replace f40 := f40.u b148
            replace f45 := f45.u b148
            refine wl_p (fun _ => o_faddr (s := 42) (i := 2) (off := 2) Tryz.underlying42 rfl Tryz.sizeOf39 rfl rfl rfl) ?_
            refine wl_r (o_loadbg Tryz.isAgg39 rfl f (by rfl)) ?_
            refine wl_appZ rfl f148 (by rfl) rfl (f64.u hw) rfl (by omega) (by omega) ?_
            rintro A151 c151 w151 f151 g151 b151 i151
            have qf151 := f151.cap
            have s151 := g151.size
            replace hw := hw.trans (b151.mono (by omega))
            replace f45 := f45.y g151 (by decide)
            replace f40 := f40.y g151 (by decide)
            replace f35 := f35.y g151 (by decide)
            replace f30 := f30.k g151.g (f148.ap (by omega))
            replace f := f.y g151 (by decide)
            clear f148
            simp only [List.nil_append] at f151
            simp only [List.nil_append]
            refine wl_call rfl (C_pKeepNo _ f40 f151.to_RZ rfl (by omega) hall (by omega)) ?_
            rintro v152 w152 ⟨rfl, b152⟩
            have s152 := b152.size
            replace hw := hw.trans (b152.mono hw.size)
            replace f := f.u b152
            replace f30 := f30.u b152
            replace f35 := f35.u b152
            replace f40 := f40.u b152
            replace f45 := f45.u b152
            replace f151 := f151.u b152
            refine wl_p (fun _ => o_move rfl) ?_
            refine wl_p (fun _ => o_ext20 rfl) ?_
            refine wl_p (fun _ => o_ext21 rfl) ?_
            refine wl_p (fun _ => o_assign rfl) ?_
            refine wl_p (fun _ => o_assign rfl) ?_
            refine wl_nil ?_
            refine rk_region ?_
            refine wl_p (fun _ => o_move rfl) ?_
            refine wl_p (fun _ => o_faddr (s := 42) (i := 2) (off := 2) Tryz.underlying42 rfl Tryz.sizeOf39 rfl rfl rfl) ?_
            refine wl_r (o_loadbg Tryz.isAgg39 rfl f (by rfl)) ?_
            refine wl_call rfl (C_rpKeepNo _ f45 (f64.u hw) rfl (by omega) hall) ?_
            rintro v159 w159 ⟨rfl, b159⟩
            have s159 := b159.size
            replace hw := hw.trans (b159.mono hw.size)
            replace f151 := f151.u b159
            replace f45 := f45.u b159
            replace f40 := f40.u b159
            replace f35 := f35.u b159
            replace f30 := f30.u b159
            replace f := f.u b159
            refine wl_p (fun _ => o_move rfl) ?_
            refine wl_p (fun _ => o_ext20 rfl) ?_
            refine wl_p (fun _ => o_ext21 rfl) ?_
            refine wl_p (fun _ => o_assign rfl) ?_
            refine wl_p (fun _ => o_assign rfl) ?_
            refine wl_nil ?_
            refine rk_blk ?_
            refine rk_seq ?_
            refine rk_region ?_
            refine wl_p (fun _ => o_move rfl) ?_
            refine wl_p (fun _ => o_move rfl) ?_
            refine wl_p (fun _ => o_ne rfl rfl) ?_
            refine wl_p (fun _ => o_move rfl) ?_
            refine wl_p (fun _ => o_move rfl) ?_
            refine wl_r (o_strU Tryz.underlying40 Tryz.underlying5 Tryz.underlying9 rfl (Rd.nil_) hw (by rfl)) ?_
            refine wl_p (fun _ => o_move rfl) ?_
            refine wl_r (o_strU Tryz.underlying40 Tryz.underlying5 Tryz.underlying9 rfl (Rd.nil_) hw (by rfl)) ?_
            refine wl_p (fun _ => o_sne rfl rfl) ?_
            refine wl_p (fun _ => o_pick_f rfl rfl) ?_
            refine wl_p (fun _ => o_move rfl) ?_
            refine wl_p (fun _ => o_move rfl) ?_
            refine wl_p (fun _ => o_move rfl) ?_
            refine wl_p (fun _ => o_ne rfl rfl) ?_
            refine wl_p (fun _ => o_pick_f rfl rfl) ?_
            refine wl_p (fun _ => o_move rfl) ?_
            refine wl_p (fun _ => o_move rfl) ?_
            refine wl_call rfl (C_pUsed _ (hT.u hw) f40 hI0) ?_
            rintro v179 w179 ⟨A179, ⟨c179, ⟨rfl, ⟨f179, b179⟩⟩⟩⟩
            have qf179 := f179.cap
            have s179 := b179.size
            replace hw := hw.trans (b179.mono hw.size)
            replace f := f.u b179
            replace f30 := f30.u b179
            replace f35 := f35.u b179
            replace f40 := f40.u b179
            replace f45 := f45.u b179
            replace f151 := f151.u b179
            refine wl_p (fun _ => o_move rfl) ?_
            refine wl_call rfl (C_rpUsed _ f45 hI0) ?_
            rintro v181 w181 ⟨A181, ⟨c181, ⟨rfl, ⟨f181, b181⟩⟩⟩⟩
            have qf181 := f181.cap
            have s181 := b181.size
            replace hw := hw.trans (b181.mono hw.size)
            replace f151 := f151.u b181
            replace f45 := f45.u b181
            replace f40 := f40.u b181
            replace f35 := f35.u b181
            replace f30 := f30.u b181
            replace f := f.u b181
            replace f179 := f179.u b181
            refine wl_call rfl (C_IntsZ _ f179.to_RZ f181.to_RZ rfl rfl (by omega) (by omega)) ?_
            rintro v182 w182 ⟨rfl, b182⟩
            have s182 := b182.size
            replace hw := hw.trans (b182.mono hw.size)
            replace f179 := f179.u b182
            replace f := f.u b182
            replace f30 := f30.u b182
            replace f35 := f35.u b182
            replace f40 := f40.u b182
            replace f45 := f45.u b182
            replace f151 := f151.u b182
            replace f181 := f181.u b182
            refine wl_p (fun _ => o_not rfl) ?_
            refine wl_p (fun _ => o_pick_f rfl rfl) ?_
            refine wl_p (fun _ => o_move rfl) ?_
            refine wl_know 185 false rfl (by simp) ?_
            refine wl_p (fun _ => o_move rfl) ?_
            refine wl_call rfl (C_pSpare _ f40 hq0) ?_
            rintro v187 w187 ⟨rfl, b187⟩
            have s187 := b187.size
            replace hw := hw.trans (b187.mono hw.size)
            replace f181 := f181.u b187
            replace f151 := f151.u b187
            replace f45 := f45.u b187
            replace f40 := f40.u b187
            replace f35 := f35.u b187
            replace f30 := f30.u b187
            replace f := f.u b187
            replace f179 := f179.u b187
            refine wl_p (fun _ => o_move rfl) ?_
            refine wl_call rfl (C_rpSpare _ f45 hq0) ?_
            rintro v189 w189 ⟨rfl, b189⟩
            have s189 := b189.size
            replace hw := hw.trans (b189.mono hw.size)
            replace f179 := f179.u b189
            replace f := f.u b189
            replace f30 := f30.u b189
            replace f35 := f35.u b189
            replace f40 := f40.u b189
            replace f45 := f45.u b189
            replace f151 := f151.u b189
            replace f181 := f181.u b189
            refine wl_p (fun _ => o_ne rfl rfl) ?_
            refine wl_p (fun _ => o_pick_f rfl rfl) ?_
            refine wl_nil ?_
            refine rk_if rfl (fun h191 => absurd h191 (by omega)) (fun h191 => ?_)
            refine rk_skip ?_
            refine rk_blk ?_
            refine rk_region ?_
            refine wl_p (fun _ => o_move rfl) ?_
            refine wl_p (fun _ => o_add rfl rfl (by omega) (by omega)) ?_
            refine wl_p (fun _ => o_assign rfl) ?_
            refine wl_nil ?_
            exact rk_againf (Fr.le_of (by kernel_rfl) (by kernel_rfl) (by repeat' constructor)) ⟨i + 1, (i : Int) + 1, S, C, U, g, ul, uh, gr, lo, hi, rfl, by omega, by omega, rfl, hlS, hlU, by assumption, by assumption, by assumption, by assumption, hb1, hb2, hb3, hb4, by omega, hw⟩ (by omega)
        by_cases h6 : t = 6
        · obtain ⟨kp, hkp⟩ : ∃ kp, L[i].2.2.1.map (fun z => decide (z.tmod 2 ≠ 0)) = kp := ⟨_, rfl⟩
          have hkpl : kp.length ≤ 80 := by rw [← hkp, List.length_map]; exact hkl
          obtain ⟨S1, hS1⟩ : ∃ S1, crash S C kp = S1 := ⟨_, rfl⟩
          obtain ⟨C1, hC1⟩ : ∃ C1 : List (Option Sec), List.replicate S.length none = C1 := ⟨_, rfl⟩
          have hS1l : S1.length = m := by rw [← hS1, crash_len, hlS]
          have hS12 : S1.length / 2 = h := by rw [hS1l, hh]
          obtain ⟨I, hI⟩ : ∃ I, usdZ U U.length = I := ⟨_, rfl⟩
          have hIl : I.length ≤ 100000 := by rw [← hI, usdZ_len]; have := usd_le U U.length; omega
          have hoI : openOk h I = true := by rw [← hI]; exact usdZ_all hlU.symm
          have hUI : markAll (List.replicate h false) I = U := by rw [← hI]; exact markAll_usd hlU.symm
          obtain ⟨q, hq⟩ : ∃ q, (usd U U.length).length = q := ⟨_, rfl⟩
          have hoI2 : openOk h ([] ++ I) = true := hoI
          have hUI2 : markAll (List.replicate h false) ([] ++ I) = U := hUI
          refine rk_skip ?_
          refine rk_seq ?_
          refine rk_block ?_
          refine rk_seq ?_
          refine rk_region ?_
          refine wl_p (fun _ => o_move rfl) ?_
          refine wl_p (fun _ => o_move rfl) ?_
          refine wl_p (fun _ => (o_iaddrA (i) Tryz.underlying22 Tryz.sizeOf42 rfl rfl rfl (hL.some_ (by omega)) (by omega))) ?_
          refine wl_ldPAct rfl hL hw (by omega) ?_
          rintro A164 c164 B164 d164 f64 f64_1 i64 i64_1 i64_2 i64_3 e64 e64_1 i64_4
          refine wl_allocg [_, _, _, _] Tryz.zeroValue42 (by rfl) ?_
          rintro g14 w14 f14 b14 i14 i14_1
          have s14 := b14.size
          replace hw := hw.trans (b14.mono hw.size)
          replace f45 := f45.u b14
          replace f40 := f40.u b14
          replace f35 := f35.u b14
          replace f30 := f30.u b14
          refine wl_storega Tryz.sizeOf42 rfl rfl (by rfl) (oneCell_of (by rfl)) f14 (by rfl) ?_
          rintro w_1 f g_1 e
          have s := g_1.size
          replace hw := hw.trans (below_of_grownBy g_1.g hw.size (by omega))
          replace f30 := f30.k g_1.g (ap_some (by omega))
          replace f35 := f35.y g_1 (by decide)
          replace f40 := f40.y g_1 (by decide)
          replace f45 := f45.y g_1 (by decide)
          clear f14
          refine wl_nil ?_
          refine rk_seq ?_
          refine rk_region ?_
          refine wl_p (fun _ => o_assign rfl) ?_
          refine wl_p (fun _ => o_assign rfl) ?_
          refine wl_nil ?_
          refine rk_seq ?_
          refine rk_region ?_
          refine wl_p (fun _ => o_assign rfl) ?_
          refine wl_p (fun _ => o_assign rfl) ?_
          refine wl_nil ?_
          refine rk_seq ?_
          refine rk_seq ?_
          refine rk_region ?_
          refine wl_p (fun _ => o_faddr (s := 42) (i := 0) (off := 0) Tryz.underlying42 rfl Tryz.sizeOf3 rfl rfl rfl) ?_
          refine wl_r (o_loadbg Tryz.isAgg3 rfl f (by rfl)) ?_
          refine wl_call rfl (C_PickR _ ht e64 w7) ?_
          rintro v67 w67 ⟨rfl, b67⟩
          have s67 := b67.size
          replace hw := hw.trans (b67.mono hw.size)
          replace f45 := f45.u b67
          replace f40 := f40.u b67
          replace f35 := f35.u b67
          replace f30 := f30.u b67
          replace f := f.u b67
          refine wl_nil ?_
          refine rk_block ?_
          refine rk_seq ?_
          refine rk_seq ?_
          refine rk_region ?_
          refine wl_p (fun _ => o_eq rfl rfl) ?_
          refine wl_p (fun _ => o_assign rfl) ?_
          refine wl_nil ?_
          refine rk_if rfl (fun h94 => absurd h94 (by omega)) (fun h94 => ?_)
          refine rk_region ?_
          refine wl_p (fun _ => o_eq rfl rfl) ?_
          refine wl_p (fun _ => o_assign rfl) ?_
          refine wl_nil ?_
          refine rk_if rfl (fun h94 => absurd h94 (by omega)) (fun h94 => ?_)
          refine rk_seq ?_
          refine rk_region ?_
          refine wl_p (fun _ => o_eq rfl rfl) ?_
          refine wl_p (fun _ => o_assign rfl) ?_
          refine wl_nil ?_
          refine rk_if rfl (fun h112 => absurd h112 (by omega)) (fun h112 => ?_)
          refine rk_seq ?_
          refine rk_region ?_
          refine wl_p (fun _ => o_eq rfl rfl) ?_
          refine wl_p (fun _ => o_assign rfl) ?_
          refine wl_nil ?_
          refine rk_if rfl (fun h128 => absurd h128 (by omega)) (fun h128 => ?_)
          refine rk_seq ?_
          refine rk_region ?_
          refine wl_p (fun _ => o_eq rfl rfl) ?_
          refine wl_p (fun _ => o_assign rfl) ?_
          refine wl_nil ?_
          refine rk_if rfl (fun h138 => absurd h138 (by omega)) (fun h138 => ?_)
          refine rk_seq ?_
          refine rk_region ?_
          refine wl_p (fun _ => o_eq rfl rfl) ?_
          refine wl_p (fun _ => o_assign rfl) ?_
          refine wl_nil ?_
          refine rk_if rfl (fun h144 => absurd h144 (by omega)) (fun h144 => ?_)
          refine rk_seq ?_
          refine rk_region ?_
          refine wl_p (fun _ => o_move rfl) ?_
          refine wl_call rfl (C_rpUsed _ f45 hI) ?_
          rintro v69 w69 ⟨A69, ⟨c69, ⟨rfl, ⟨f69, b69⟩⟩⟩⟩
          have qf69 := f69.cap
          have s69 := b69.size
          replace hw := hw.trans (b69.mono hw.size)
          replace f := f.u b69
          replace f30 := f30.u b69
          replace f35 := f35.u b69
          replace f40 := f40.u b69
          replace f45 := f45.u b69
          refine wl_p (fun _ => o_assign rfl) ?_
          refine wl_nil ?_
          refine rk_seq ?_
          refine rk_region ?_
          refine wl_p (fun _ => o_move rfl) ?_
          refine wl_p (fun _ => o_faddr (s := 42) (i := 2) (off := 2) Tryz.underlying42 rfl Tryz.sizeOf39 rfl rfl rfl) ?_
          refine wl_r (o_loadbg Tryz.isAgg39 rfl f (by rfl)) ?_
          refine wl_call rfl (C_keep10 _ (f64.u hw) hkp rfl (by omega)) ?_
          rintro v73 w73 ⟨A73, ⟨c73, ⟨rfl, ⟨f73, b73⟩⟩⟩⟩
          have qf73 := f73.cap
          have s73 := b73.size
          replace hw := hw.trans (b73.mono hw.size)
          replace f45 := f45.u b73
          replace f40 := f40.u b73
          replace f35 := f35.u b73
          replace f30 := f30.u b73
          replace f := f.u b73
          replace f69 := f69.u b73
          refine wl_call rfl (C_dCrash _ f30 f73.to_RdBo hS1 hC1 (by omega) rfl (by omega)) ?_
          rintro v74 w74 ⟨rfl, ⟨f74, g74⟩⟩
          have s74 := g74.size
          replace hw := hw.trans (g74.below hw.size (by omega))
          replace f69 := f69.c g74 (by omega)
          replace f := f.c g74 (by omega)
          replace f35 := f35.c g74 (by omega)
          replace f40 := f40.c g74 (by omega)
          replace f45 := f45.c g74 (by omega)
          replace f73 := f73.c g74 (by omega)
          clear f30
          refine wl_nil ?_
          refine rk_seq ?_
          refine rk_region ?_
          refine wl_p (fun _ => o_move rfl) ?_
          refine wl_p (fun _ => o_faddr (s := 42) (i := 2) (off := 2) Tryz.underlying42 rfl Tryz.sizeOf39 rfl rfl rfl) ?_
          refine wl_r (o_loadbg Tryz.isAgg39 rfl f (by rfl)) ?_
          refine wl_call rfl (C_keep10 _ (f64.u hw) hkp rfl (by omega)) ?_
          rintro v78 w78 ⟨A78, ⟨c78, ⟨rfl, ⟨f78, b78⟩⟩⟩⟩
          have qf78 := f78.cap
          have s78 := b78.size
          replace hw := hw.trans (b78.mono hw.size)
          replace f73 := f73.u b78
          replace f45 := f45.u b78
          replace f40 := f40.u b78
          replace f35 := f35.u b78
          replace f := f.u b78
          replace f69 := f69.u b78
          replace f74 := f74.u b78
          refine wl_call rfl (C_rCrash _ f35 f78.to_RdBo hS1 hC1 (by omega) rfl (by omega)) ?_
          rintro v79 w79 ⟨rfl, ⟨f79, g79⟩⟩
          have s79 := g79.size
          replace hw := hw.trans (g79.below hw.size (by omega))
          replace f74 := f74.c g79 (by omega)
          replace f69 := f69.c g79 (by omega)
          replace f := f.c g79 (by omega)
          replace f40 := f40.c g79 (by omega)
          replace f45 := f45.c g79 (by omega)
          replace f73 := f73.c g79 (by omega)
          replace f78 := f78.c g79 (by omega)
          clear f35
          refine wl_nil ?_
          refine rk_seq ?_
          refine rk_region ?_
          refine wl_p (fun _ => o_move rfl) ?_
          refine wl_litZH [] (by rfl) rfl rfl (by rfl) (by rfl) (by rfl) ?_
          rintro A82 w82 f82 b82
          have qf82 := f82.cap
          have s82 := b82.size
          replace hw := hw.trans (b82.mono hw.size)
          replace f78 := f78.u b82
          replace f73 := f73.u b82
          replace f45 := f45.u b82
          replace f40 := f40.u b82
          replace f := f.u b82
          replace f69 := f69.u b82
          replace f74 := f74.u b82
          replace f79 := f79.u b82
          refine wl_p (fun _ => o_move rfl) ?_
          refine wl_appZ rfl f82 (by rfl) rfl f69.to_RZ rfl (by omega) (by omega) ?_
          rintro A84 c84 w84 f84 g84 b84 i84
          have qf84 := f84.cap
          have s84 := g84.size
          replace hw := hw.trans (b84.mono (by omega))
          replace f79 := f79.y g84 (by decide)
          replace f74 := f74.k g84.g (f82.ap (by omega))
          replace f69 := f69.k g84.g (f82.ap (by omega))
          replace f := f.y g84 (by decide)
          replace f40 := f40.y g84 (by decide)
          replace f45 := f45.y g84 (by decide)
          replace f73 := f73.y g84 (by decide)
          replace f78 := f78.y g84 (by decide)
          clear f82
          refine wl_call rfl (C_pOpenOk _ f74 f84.to_RZ rfl (by simp; omega) hS12 hoI2 hUI2) ?_
          rintro v85 w85 ⟨g85, ⟨rfl, ⟨f85, ⟨i85, ⟨i85_1, b85⟩⟩⟩⟩⟩
          have s85 := b85.size
          replace hw := hw.trans (b85.mono hw.size)
          replace f78 := f78.u b85
          replace f73 := f73.u b85
          replace f45 := f45.u b85
          replace f40 := f40.u b85
          replace f := f.u b85
          replace f69 := f69.u b85
          replace f74 := f74.u b85
          replace f79 := f79.u b85
          replace f84 := f84.u b85
          refine wl_p (fun _ => o_move rfl) ?_
          refine wl_p (fun _ => o_ext20 rfl) ?_
          refine wl_p (fun _ => o_ext21 rfl) ?_
          refine wl_p (fun _ => o_assign rfl) ?_
          refine wl_p (fun _ => o_assign rfl) ?_
          refine wl_nil ?_
          refine rk_region ?_
          refine wl_p (fun _ => o_move rfl) ?_
          refine wl_p (fun _ => o_move rfl) ?_
          refine wl_call rfl (C_rpOpenOk _ f79 f69.to_RZ rfl (by omega) hS12 hoI hUI) ?_
          rintro v91 w91 ⟨g91, ⟨rfl, ⟨f91, ⟨i91, ⟨i91_1, b91⟩⟩⟩⟩⟩
          have s91 := b91.size
          replace hw := hw.trans (b91.mono hw.size)
          replace f84 := f84.u b91
          replace f79 := f79.u b91
          replace f74 := f74.u b91
          replace f69 := f69.u b91
          replace f := f.u b91
          replace f40 := f40.u b91
          replace f45 := f45.u b91
          replace f73 := f73.u b91
          replace f78 := f78.u b91
          replace f85 := f85.u b91
          refine wl_p (fun _ => o_move rfl) ?_
          refine wl_p (fun _ => o_ext20 rfl) ?_
          refine wl_p (fun _ => o_ext21 rfl) ?_
          refine wl_p (fun _ => o_assign rfl) ?_
          refine wl_p (fun _ => o_assign rfl) ?_
          refine wl_nil ?_
          refine rk_blk ?_
          refine rk_seq ?_
          refine rk_region ?_
          refine wl_p (fun _ => o_move rfl) ?_
          refine wl_p (fun _ => o_move rfl) ?_
          refine wl_p (fun _ => o_ne rfl rfl) ?_
          refine wl_p (fun _ => o_move rfl) ?_
          refine wl_p (fun _ => o_move rfl) ?_
          refine wl_r (o_strU Tryz.underlying40 Tryz.underlying5 Tryz.underlying9 rfl (Rd.nil_) hw (by rfl)) ?_
          refine wl_p (fun _ => o_move rfl) ?_
          refine wl_r (o_strU Tryz.underlying40 Tryz.underlying5 Tryz.underlying9 rfl (Rd.nil_) hw (by rfl)) ?_
          refine wl_p (fun _ => o_sne rfl rfl) ?_
          refine wl_p (fun _ => o_pick_f rfl rfl) ?_
          refine wl_p (fun _ => o_move rfl) ?_
          refine wl_p (fun _ => o_move rfl) ?_
          refine wl_p (fun _ => o_move rfl) ?_
          refine wl_p (fun _ => o_ne rfl rfl) ?_
          refine wl_p (fun _ => o_pick_f rfl rfl) ?_
          refine wl_p (fun _ => o_move rfl) ?_
          refine wl_p (fun _ => o_move rfl) ?_
          refine wl_call rfl (C_pUsed _ (hT.u hw) f85 hI) ?_
          rintro v179 w179 ⟨A179, ⟨c179, ⟨rfl, ⟨f179, b179⟩⟩⟩⟩
          have qf179 := f179.cap
          have s179 := b179.size
          replace hw := hw.trans (b179.mono hw.size)
          replace f85 := f85.u b179
          replace f78 := f78.u b179
          replace f73 := f73.u b179
          replace f45 := f45.u b179
          replace f40 := f40.u b179
          replace f := f.u b179
          replace f69 := f69.u b179
          replace f74 := f74.u b179
          replace f79 := f79.u b179
          replace f84 := f84.u b179
          replace f91 := f91.u b179
          refine wl_p (fun _ => o_move rfl) ?_
          refine wl_call rfl (C_rpUsed _ f91 hI) ?_
          rintro v181 w181 ⟨A181, ⟨c181, ⟨rfl, ⟨f181, b181⟩⟩⟩⟩
          have qf181 := f181.cap
          have s181 := b181.size
          replace hw := hw.trans (b181.mono hw.size)
          replace f91 := f91.u b181
          replace f84 := f84.u b181
          replace f79 := f79.u b181
          replace f74 := f74.u b181
          replace f69 := f69.u b181
          replace f := f.u b181
          replace f40 := f40.u b181
          replace f45 := f45.u b181
          replace f73 := f73.u b181
          replace f78 := f78.u b181
          replace f85 := f85.u b181
          replace f179 := f179.u b181
          refine wl_call rfl (C_IntsZ _ f179.to_RZ f181.to_RZ rfl rfl (by omega) (by omega)) ?_
          rintro v182 w182 ⟨rfl, b182⟩
          have s182 := b182.size
          replace hw := hw.trans (b182.mono hw.size)
          replace f179 := f179.u b182
          replace f85 := f85.u b182
          replace f78 := f78.u b182
          replace f73 := f73.u b182
          replace f45 := f45.u b182
          replace f40 := f40.u b182
          replace f := f.u b182
          replace f69 := f69.u b182
          replace f74 := f74.u b182
          replace f79 := f79.u b182
          replace f84 := f84.u b182
          replace f91 := f91.u b182
          replace f181 := f181.u b182
          refine wl_p (fun _ => o_not rfl) ?_
          refine wl_p (fun _ => o_pick_f rfl rfl) ?_
          refine wl_p (fun _ => o_move rfl) ?_
          refine wl_know 185 false rfl (by simp) ?_
          refine wl_p (fun _ => o_move rfl) ?_
          refine wl_call rfl (C_pSpare _ f85 hq) ?_
          rintro v187 w187 ⟨rfl, b187⟩
          have s187 := b187.size
          replace hw := hw.trans (b187.mono hw.size)
          replace f181 := f181.u b187
          replace f91 := f91.u b187
          replace f84 := f84.u b187
          replace f79 := f79.u b187
          replace f74 := f74.u b187
          replace f69 := f69.u b187
          replace f := f.u b187
          replace f40 := f40.u b187
          replace f45 := f45.u b187
          replace f73 := f73.u b187
          replace f78 := f78.u b187
          replace f85 := f85.u b187
          replace f179 := f179.u b187
          refine wl_p (fun _ => o_move rfl) ?_
          refine wl_call rfl (C_rpSpare _ f91 hq) ?_
          rintro v189 w189 ⟨rfl, b189⟩
          have s189 := b189.size
          replace hw := hw.trans (b189.mono hw.size)
          replace f179 := f179.u b189
          replace f85 := f85.u b189
          replace f78 := f78.u b189
          replace f73 := f73.u b189
          replace f45 := f45.u b189
          replace f40 := f40.u b189
          replace f := f.u b189
          replace f69 := f69.u b189
          replace f74 := f74.u b189
          replace f79 := f79.u b189
          replace f84 := f84.u b189
          replace f91 := f91.u b189
          replace f181 := f181.u b189
          refine wl_p (fun _ => o_ne rfl rfl) ?_
          refine wl_p (fun _ => o_pick_f rfl rfl) ?_
          refine wl_nil ?_
          refine rk_if rfl (fun h191 => absurd h191 (by omega)) (fun h191 => ?_)
          refine rk_skip ?_
          refine rk_blk ?_
          refine rk_region ?_
          refine wl_p (fun _ => o_move rfl) ?_
          refine wl_p (fun _ => o_add rfl rfl (by omega) (by omega)) ?_
          refine wl_p (fun _ => o_assign rfl) ?_
          refine wl_nil ?_
          exact rk_againf (Fr.le_of (by kernel_rfl) (by kernel_rfl) (by repeat' constructor)) ⟨i + 1, (i : Int) + 1, S1, C1, U, _, _, _, _, _, _, rfl, by omega, by omega, rfl, hS1l, hlU, by assumption, by assumption, by assumption, by assumption, by omega, by omega, by omega, by omega, by omega, hw⟩ (by omega)
        have h01 : t = 0 ∨ t = 1 := by omega
        obtain ⟨r, hr⟩ : ∃ r, newP S C U L[i].2.2.2 = r := ⟨_, rfl⟩
        have hrl : r.2.2.length = h := by rw [← hr, newP_len, hlU]
        obtain ⟨I, hI⟩ : ∃ I, usdZ r.2.2 r.2.2.length = I := ⟨_, rfl⟩
        have hIl : I.length ≤ 100000 := by rw [← hI, usdZ_len]; have := usd_le r.2.2 r.2.2.length; omega
        obtain ⟨q, hq⟩ : ∃ q, (usd r.2.2 r.2.2.length).length = q := ⟨_, rfl⟩
        by_cases h0 : t = 0
        · refine rk_skip ?_
          refine rk_seq ?_
          refine rk_block ?_
          refine rk_seq ?_
          refine rk_region ?_
          refine wl_p (fun _ => o_move rfl) ?_
          refine wl_p (fun _ => o_move rfl) ?_
          refine wl_p (fun _ => (o_iaddrA (i) Tryz.underlying22 Tryz.sizeOf42 rfl rfl rfl (hL.some_ (by omega)) (by omega))) ?_
          refine wl_ldPAct rfl hL hw (by omega) ?_
          rintro A164 c164 B164 d164 f64 f64_1 i64 i64_1 i64_2 i64_3 e64 e64_1 i64_4
          refine wl_allocg [_, _, _, _] Tryz.zeroValue42 (by rfl) ?_
          rintro g14 w14 f14 b14 i14 i14_1
          have s14 := b14.size
          replace hw := hw.trans (b14.mono hw.size)
          replace f45 := f45.u b14
          replace f40 := f40.u b14
          replace f35 := f35.u b14
          replace f30 := f30.u b14
          refine wl_storega Tryz.sizeOf42 rfl rfl (by rfl) (oneCell_of (by rfl)) f14 (by rfl) ?_
          rintro w_1 f g_1 e
          have s := g_1.size
          replace hw := hw.trans (below_of_grownBy g_1.g hw.size (by omega))
          replace f30 := f30.k g_1.g (ap_some (by omega))
          replace f35 := f35.y g_1 (by decide)
          replace f40 := f40.y g_1 (by decide)
          replace f45 := f45.y g_1 (by decide)
          clear f14
          refine wl_nil ?_
          refine rk_seq ?_
          refine rk_region ?_
          refine wl_p (fun _ => o_assign rfl) ?_
          refine wl_p (fun _ => o_assign rfl) ?_
          refine wl_nil ?_
          refine rk_seq ?_
          refine rk_region ?_
          refine wl_p (fun _ => o_assign rfl) ?_
          refine wl_p (fun _ => o_assign rfl) ?_
          refine wl_nil ?_
          refine rk_seq ?_
          refine rk_seq ?_
          refine rk_region ?_
          refine wl_p (fun _ => o_faddr (s := 42) (i := 0) (off := 0) Tryz.underlying42 rfl Tryz.sizeOf3 rfl rfl rfl) ?_
          refine wl_r (o_loadbg Tryz.isAgg3 rfl f (by rfl)) ?_
          refine wl_call rfl (C_PickR _ ht e64 w7) ?_
          rintro v67 w67 ⟨rfl, b67⟩
          have s67 := b67.size
          replace hw := hw.trans (b67.mono hw.size)
          replace f45 := f45.u b67
          replace f40 := f40.u b67
          replace f35 := f35.u b67
          replace f30 := f30.u b67
          replace f := f.u b67
          refine wl_nil ?_
          refine rk_block ?_
          refine rk_seq ?_
          refine rk_seq ?_
          refine rk_region ?_
          refine wl_p (fun _ => o_eq rfl rfl) ?_
          refine wl_p (fun _ => o_assign rfl) ?_
          refine wl_nil ?_
          refine rk_if rfl (fun h94 => ?_) (fun h94 => h94.elim (by omega))
          refine rk_skip ?_
          refine rk_if rfl (fun h94 => ?_) (fun h94 => h94.elim (by omega))
          refine rk_seq ?_
          refine rk_region ?_
          refine wl_p (fun _ => o_move rfl) ?_
          refine wl_p (fun _ => o_faddr (s := 42) (i := 3) (off := 3) Tryz.underlying42 rfl Tryz.sizeOf40 rfl rfl rfl) ?_
          refine wl_r (o_loadbg Tryz.isAgg40 rfl f (by rfl)) ?_
          refine wl_call rfl (C_OwnP _ (f64_1.u hw) rfl (by omega)) ?_
          rintro v101 w101 ⟨A101, ⟨c101, ⟨rfl, ⟨f101, b101⟩⟩⟩⟩
          have qf101 := f101.cap
          have s101 := b101.size
          replace hw := hw.trans (b101.mono hw.size)
          replace f := f.u b101
          replace f30 := f30.u b101
          replace f35 := f35.u b101
          replace f40 := f40.u b101
          replace f45 := f45.u b101
          refine wl_call rfl (C_pNew _ (hT.u hw) f40 f30 f101.to_Rd hr rfl (by omega) (by omega) (by omega) (by omega) (by omega)) ?_
          rintro v102 w102 ⟨rfl, ⟨f102, ⟨f102_1, ⟨w1102, ⟨g102, ⟨g102_1, ⟨row102, g102_2⟩⟩⟩⟩⟩⟩⟩
          have s102 := g102.size
          replace hw := hw.trans (g102.below hw.size (by omega))
          replace f45 := f45.c g102 (by omega)
          replace f40 := f40.c g102 (by omega)
          replace f35 := f35.c g102 (by omega)
          replace f := f.c g102 (by omega)
          replace f101 := f101.c g102 (by omega)
          clear f30
          have s102g102_1 := g102_1.size
          replace hw := hw.trans (g102_1.below hw.size (by omega))
          replace f101 := f101.c g102_1 (by omega)
          replace f := f.c g102_1 (by omega)
          replace f35 := f35.y g102_2 (by decide)
          replace f45 := f45.y g102_2 (by decide)
          clear f40
          refine wl_p (fun _ => o_move rfl) ?_
          refine wl_p (fun _ => o_ext20 rfl) ?_
          refine wl_p (fun _ => o_ext21 rfl) ?_
          refine wl_p (fun _ => o_assign rfl) ?_
          refine wl_p (fun _ => o_assign rfl) ?_
          refine wl_nil ?_
          refine rk_region ?_
          refine wl_p (fun _ => o_move rfl) ?_
          refine wl_p (fun _ => o_faddr (s := 42) (i := 3) (off := 3) Tryz.underlying42 rfl Tryz.sizeOf40 rfl rfl rfl) ?_
          refine wl_r (o_loadbg Tryz.isAgg40 rfl f (by rfl)) ?_
          refine wl_call rfl (C_rpNew _ f45 f35 (f64_1.u hw) hr rfl (by omega) (by omega) (by omega) (by omega)) ?_
          rintro v109 w109 ⟨rfl, ⟨f109, ⟨f109_1, ⟨w1109, ⟨g109, ⟨g109_1, ⟨row109, g109_2⟩⟩⟩⟩⟩⟩⟩
          have s109 := g109.size
          replace hw := hw.trans (g109.below hw.size (by omega))
          replace f45 := f45.c g109 (by omega)
          replace f := f.c g109 (by omega)
          replace f101 := f101.c g109 (by omega)
          replace f102_1 := f102_1.c g109 (by omega)
          replace f102 := f102.c g109 (by omega)
          clear f35
          have s109g109_1 := g109_1.size
          replace hw := hw.trans (g109_1.below hw.size (by omega))
          replace f102 := f102.y g109_2 (by decide)
          replace f102_1 := f102_1.c g109_1 (by omega)
          replace f101 := f101.c g109_1 (by omega)
          replace f := f.c g109_1 (by omega)
          clear f45
          refine wl_p (fun _ => o_move rfl) ?_
          refine wl_p (fun _ => o_ext20 rfl) ?_
          refine wl_p (fun _ => o_ext21 rfl) ?_
          refine wl_p (fun _ => o_assign rfl) ?_
          refine wl_p (fun _ => o_assign rfl) ?_
          refine wl_nil ?_
          refine rk_blk ?_
          refine rk_seq ?_
          refine rk_region ?_
          refine wl_p (fun _ => o_move rfl) ?_
          refine wl_p (fun _ => o_move rfl) ?_
          refine wl_p (fun _ => o_ne rfl rfl) ?_
          refine wl_p (fun _ => o_move rfl) ?_
          refine wl_know 165 false rfl (decide_eq_false (by omega)) ?_
          refine wl_p (fun _ => o_move rfl) ?_
          refine wl_r (o_strU Tryz.underlying40 Tryz.underlying5 Tryz.underlying9 rfl (Rd.nil_) hw (by rfl)) ?_
          refine wl_p (fun _ => o_move rfl) ?_
          refine wl_r (o_strU Tryz.underlying40 Tryz.underlying5 Tryz.underlying9 rfl (Rd.nil_) hw (by rfl)) ?_
          refine wl_p (fun _ => o_sne rfl rfl) ?_
          refine wl_p (fun _ => o_pick_f rfl rfl) ?_
          refine wl_p (fun _ => o_move rfl) ?_
          refine wl_p (fun _ => o_move rfl) ?_
          refine wl_p (fun _ => o_move rfl) ?_
          refine wl_p (fun _ => o_ne rfl rfl) ?_
          refine wl_p (fun _ => o_pick_f rfl rfl) ?_
          refine wl_p (fun _ => o_move rfl) ?_
          refine wl_know 177 false rfl (decide_eq_false (by omega)) ?_
          refine wl_p (fun _ => o_move rfl) ?_
          refine wl_call rfl (C_pUsed _ (hT.u hw) f102 hI) ?_
          rintro v179 w179 ⟨A179, ⟨c179, ⟨rfl, ⟨f179, b179⟩⟩⟩⟩
          have qf179 := f179.cap
          have s179 := b179.size
          replace hw := hw.trans (b179.mono hw.size)
          replace f := f.u b179
          replace f101 := f101.u b179
          replace f102_1 := f102_1.u b179
          replace f102 := f102.u b179
          replace f109_1 := f109_1.u b179
          replace f109 := f109.u b179
          refine wl_p (fun _ => o_move rfl) ?_
          refine wl_call rfl (C_rpUsed _ f109 hI) ?_
          rintro v181 w181 ⟨A181, ⟨c181, ⟨rfl, ⟨f181, b181⟩⟩⟩⟩
          have qf181 := f181.cap
          have s181 := b181.size
          replace hw := hw.trans (b181.mono hw.size)
          replace f109 := f109.u b181
          replace f109_1 := f109_1.u b181
          replace f102 := f102.u b181
          replace f102_1 := f102_1.u b181
          replace f101 := f101.u b181
          replace f := f.u b181
          replace f179 := f179.u b181
          refine wl_call rfl (C_IntsZ _ f179.to_RZ f181.to_RZ rfl rfl (by omega) (by omega)) ?_
          rintro v182 w182 ⟨rfl, b182⟩
          have s182 := b182.size
          replace hw := hw.trans (b182.mono hw.size)
          replace f179 := f179.u b182
          replace f := f.u b182
          replace f101 := f101.u b182
          replace f102_1 := f102_1.u b182
          replace f102 := f102.u b182
          replace f109_1 := f109_1.u b182
          replace f109 := f109.u b182
          replace f181 := f181.u b182
          refine wl_p (fun _ => o_not rfl) ?_
          refine wl_p (fun _ => o_pick_f rfl rfl) ?_
          refine wl_p (fun _ => o_move rfl) ?_
          refine wl_know 185 false rfl (by simp) ?_
          refine wl_p (fun _ => o_move rfl) ?_
          refine wl_call rfl (C_pSpare _ f102 hq) ?_
          rintro v187 w187 ⟨rfl, b187⟩
          have s187 := b187.size
          replace hw := hw.trans (b187.mono hw.size)
          replace f181 := f181.u b187
          replace f109 := f109.u b187
          replace f109_1 := f109_1.u b187
          replace f102 := f102.u b187
          replace f102_1 := f102_1.u b187
          replace f101 := f101.u b187
          replace f := f.u b187
          replace f179 := f179.u b187
          refine wl_p (fun _ => o_move rfl) ?_
          refine wl_call rfl (C_rpSpare _ f109 hq) ?_
          rintro v189 w189 ⟨rfl, b189⟩
          have s189 := b189.size
          replace hw := hw.trans (b189.mono hw.size)
          replace f179 := f179.u b189
          replace f := f.u b189
          replace f101 := f101.u b189
          replace f102_1 := f102_1.u b189
          replace f102 := f102.u b189
          replace f109_1 := f109_1.u b189
          replace f109 := f109.u b189
          replace f181 := f181.u b189
          refine wl_p (fun _ => o_ne rfl rfl) ?_
          refine wl_p (fun _ => o_pick_f rfl rfl) ?_
          refine wl_nil ?_
          refine rk_if rfl (fun h191 => absurd h191 (by omega)) (fun h191 => ?_)
          refine rk_skip ?_
          refine rk_blk ?_
          refine rk_region ?_
          refine wl_p (fun _ => o_move rfl) ?_
          refine wl_p (fun _ => o_add rfl rfl (by omega) (by omega)) ?_
          refine wl_p (fun _ => o_assign rfl) ?_
          refine wl_nil ?_
          exact rk_againf (Fr.le_of (by kernel_rfl) (by kernel_rfl) (by repeat' constructor)) ⟨i + 1, (i : Int) + 1, S, r.2.1, r.2.2, g, ul, uh, gr, lo, hi, rfl, by omega, by omega, rfl, hlS, hrl, by assumption, by assumption, by assumption, by assumption, hb1, hb2, hb3, hb4, by omega, hw⟩ (by omega)
        · refine rk_skip ?_
          refine rk_seq ?_
          refine rk_block ?_
          refine rk_seq ?_
          refine rk_region ?_
          refine wl_p (fun _ => o_move rfl) ?_
          refine wl_p (fun _ => o_move rfl) ?_
          refine wl_p (fun _ => (o_iaddrA (i) Tryz.underlying22 Tryz.sizeOf42 rfl rfl rfl (hL.some_ (by omega)) (by omega))) ?_
          refine wl_ldPAct rfl hL hw (by omega) ?_
          rintro A164 c164 B164 d164 f64 f64_1 i64 i64_1 i64_2 i64_3 e64 e64_1 i64_4
          refine wl_allocg [_, _, _, _] Tryz.zeroValue42 (by rfl) ?_
          rintro g14 w14 f14 b14 i14 i14_1
          have s14 := b14.size
          replace hw := hw.trans (b14.mono hw.size)
          replace f45 := f45.u b14
          replace f40 := f40.u b14
          replace f35 := f35.u b14
          replace f30 := f30.u b14
          refine wl_storega Tryz.sizeOf42 rfl rfl (by rfl) (oneCell_of (by rfl)) f14 (by rfl) ?_
          rintro w_1 f g_1 e
          have s := g_1.size
          replace hw := hw.trans (below_of_grownBy g_1.g hw.size (by omega))
          replace f30 := f30.k g_1.g (ap_some (by omega))
          replace f35 := f35.y g_1 (by decide)
          replace f40 := f40.y g_1 (by decide)
          replace f45 := f45.y g_1 (by decide)
          clear f14
          refine wl_nil ?_
          refine rk_seq ?_
          refine rk_region ?_
          refine wl_p (fun _ => o_assign rfl) ?_
          refine wl_p (fun _ => o_assign rfl) ?_
          refine wl_nil ?_
          refine rk_seq ?_
          refine rk_region ?_
          refine wl_p (fun _ => o_assign rfl) ?_
          refine wl_p (fun _ => o_assign rfl) ?_
          refine wl_nil ?_
          refine rk_seq ?_
          refine rk_seq ?_
          refine rk_region ?_
          refine wl_p (fun _ => o_faddr (s := 42) (i := 0) (off := 0) Tryz.underlying42 rfl Tryz.sizeOf3 rfl rfl rfl) ?_
          refine wl_r (o_loadbg Tryz.isAgg3 rfl f (by rfl)) ?_
          refine wl_call rfl (C_PickR _ ht e64 w7) ?_
          rintro v67 w67 ⟨rfl, b67⟩
          have s67 := b67.size
          replace hw := hw.trans (b67.mono hw.size)
          replace f45 := f45.u b67
          replace f40 := f40.u b67
          replace f35 := f35.u b67
          replace f30 := f30.u b67
          replace f := f.u b67
          refine wl_nil ?_
          refine rk_block ?_
          refine rk_seq ?_
          refine rk_seq ?_
          refine rk_region ?_
          refine wl_p (fun _ => o_eq rfl rfl) ?_
          refine wl_p (fun _ => o_assign rfl) ?_
          refine wl_nil ?_
          refine rk_if rfl (fun h94 => absurd h94 (by omega)) (fun h94 => ?_)
          refine rk_region ?_
          refine wl_p (fun _ => o_eq rfl rfl) ?_
          refine wl_p (fun _ => o_assign rfl) ?_
          refine wl_nil ?_
          refine rk_if rfl (fun h94 => ?_) (fun h94 => h94.elim (by omega))
          refine rk_seq ?_
          refine rk_region ?_
          refine wl_p (fun _ => o_move rfl) ?_
          refine wl_p (fun _ => o_faddr (s := 42) (i := 3) (off := 3) Tryz.underlying42 rfl Tryz.sizeOf40 rfl rfl rfl) ?_
          refine wl_r (o_loadbg Tryz.isAgg40 rfl f (by rfl)) ?_
          refine wl_call rfl (C_OwnP _ (f64_1.u hw) rfl (by omega)) ?_
          rintro v101 w101 ⟨A101, ⟨c101, ⟨rfl, ⟨f101, b101⟩⟩⟩⟩
          have qf101 := f101.cap
          have s101 := b101.size
          replace hw := hw.trans (b101.mono hw.size)
          replace f := f.u b101
          replace f30 := f30.u b101
          replace f35 := f35.u b101
          replace f40 := f40.u b101
          replace f45 := f45.u b101
          refine wl_call rfl (C_pNew _ (hT.u hw) f40 f30 f101.to_Rd hr rfl (by omega) (by omega) (by omega) (by omega) (by omega)) ?_
          rintro v102 w102 ⟨rfl, ⟨f102, ⟨f102_1, ⟨w1102, ⟨g102, ⟨g102_1, ⟨row102, g102_2⟩⟩⟩⟩⟩⟩⟩
          have s102 := g102.size
          replace hw := hw.trans (g102.below hw.size (by omega))
          replace f45 := f45.c g102 (by omega)
          replace f40 := f40.c g102 (by omega)
          replace f35 := f35.c g102 (by omega)
          replace f := f.c g102 (by omega)
          replace f101 := f101.c g102 (by omega)
          clear f30
          have s102g102_1 := g102_1.size
          replace hw := hw.trans (g102_1.below hw.size (by omega))
          replace f101 := f101.c g102_1 (by omega)
          replace f := f.c g102_1 (by omega)
          replace f35 := f35.y g102_2 (by decide)
          replace f45 := f45.y g102_2 (by decide)
          clear f40
          refine wl_p (fun _ => o_move rfl) ?_
          refine wl_p (fun _ => o_ext20 rfl) ?_
          refine wl_p (fun _ => o_ext21 rfl) ?_
          refine wl_p (fun _ => o_assign rfl) ?_
          refine wl_p (fun _ => o_assign rfl) ?_
          refine wl_nil ?_
          refine rk_region ?_
          refine wl_p (fun _ => o_move rfl) ?_
          refine wl_p (fun _ => o_faddr (s := 42) (i := 3) (off := 3) Tryz.underlying42 rfl Tryz.sizeOf40 rfl rfl rfl) ?_
          refine wl_r (o_loadbg Tryz.isAgg40 rfl f (by rfl)) ?_
          refine wl_call rfl (C_rpNew _ f45 f35 (f64_1.u hw) hr rfl (by omega) (by omega) (by omega) (by omega)) ?_
          rintro v109 w109 ⟨rfl, ⟨f109, ⟨f109_1, ⟨w1109, ⟨g109, ⟨g109_1, ⟨row109, g109_2⟩⟩⟩⟩⟩⟩⟩
          have s109 := g109.size
          replace hw := hw.trans (g109.below hw.size (by omega))
          replace f45 := f45.c g109 (by omega)
          replace f := f.c g109 (by omega)
          replace f101 := f101.c g109 (by omega)
          replace f102_1 := f102_1.c g109 (by omega)
          replace f102 := f102.c g109 (by omega)
          clear f35
          have s109g109_1 := g109_1.size
          replace hw := hw.trans (g109_1.below hw.size (by omega))
          replace f102 := f102.y g109_2 (by decide)
          replace f102_1 := f102_1.c g109_1 (by omega)
          replace f101 := f101.c g109_1 (by omega)
          replace f := f.c g109_1 (by omega)
          clear f45
          refine wl_p (fun _ => o_move rfl) ?_
          refine wl_p (fun _ => o_ext20 rfl) ?_
          refine wl_p (fun _ => o_ext21 rfl) ?_
          refine wl_p (fun _ => o_assign rfl) ?_
          refine wl_p (fun _ => o_assign rfl) ?_
          refine wl_nil ?_
          refine rk_blk ?_
          refine rk_seq ?_
          refine rk_region ?_
          refine wl_p (fun _ => o_move rfl) ?_
          refine wl_p (fun _ => o_move rfl) ?_
          refine wl_p (fun _ => o_ne rfl rfl) ?_
          refine wl_p (fun _ => o_move rfl) ?_
          refine wl_know 165 false rfl (decide_eq_false (by omega)) ?_
          refine wl_p (fun _ => o_move rfl) ?_
          refine wl_r (o_strU Tryz.underlying40 Tryz.underlying5 Tryz.underlying9 rfl (Rd.nil_) hw (by rfl)) ?_
          refine wl_p (fun _ => o_move rfl) ?_
          refine wl_r (o_strU Tryz.underlying40 Tryz.underlying5 Tryz.underlying9 rfl (Rd.nil_) hw (by rfl)) ?_
          refine wl_p (fun _ => o_sne rfl rfl) ?_
          refine wl_p (fun _ => o_pick_f rfl rfl) ?_
          refine wl_p (fun _ => o_move rfl) ?_
          refine wl_p (fun _ => o_move rfl) ?_
          refine wl_p (fun _ => o_move rfl) ?_
          refine wl_p (fun _ => o_ne rfl rfl) ?_
          refine wl_p (fun _ => o_pick_f rfl rfl) ?_
          refine wl_p (fun _ => o_move rfl) ?_
          refine wl_know 177 false rfl (decide_eq_false (by omega)) ?_
          refine wl_p (fun _ => o_move rfl) ?_
          refine wl_call rfl (C_pUsed _ (hT.u hw) f102 hI) ?_
          rintro v179 w179 ⟨A179, ⟨c179, ⟨rfl, ⟨f179, b179⟩⟩⟩⟩
          have qf179 := f179.cap
          have s179 := b179.size
          replace hw := hw.trans (b179.mono hw.size)
          replace f := f.u b179
          replace f101 := f101.u b179
          replace f102_1 := f102_1.u b179
          replace f102 := f102.u b179
          replace f109_1 := f109_1.u b179
          replace f109 := f109.u b179
          refine wl_p (fun _ => o_move rfl) ?_
          refine wl_call rfl (C_rpUsed _ f109 hI) ?_
          rintro v181 w181 ⟨A181, ⟨c181, ⟨rfl, ⟨f181, b181⟩⟩⟩⟩
          have qf181 := f181.cap
          have s181 := b181.size
          replace hw := hw.trans (b181.mono hw.size)
          replace f109 := f109.u b181
          replace f109_1 := f109_1.u b181
          replace f102 := f102.u b181
          replace f102_1 := f102_1.u b181
          replace f101 := f101.u b181
          replace f := f.u b181
          replace f179 := f179.u b181
          refine wl_call rfl (C_IntsZ _ f179.to_RZ f181.to_RZ rfl rfl (by omega) (by omega)) ?_
          rintro v182 w182 ⟨rfl, b182⟩
          have s182 := b182.size
          replace hw := hw.trans (b182.mono hw.size)
          replace f179 := f179.u b182
          replace f := f.u b182
          replace f101 := f101.u b182
          replace f102_1 := f102_1.u b182
          replace f102 := f102.u b182
          replace f109_1 := f109_1.u b182
          replace f109 := f109.u b182
          replace f181 := f181.u b182
          refine wl_p (fun _ => o_not rfl) ?_
          refine wl_p (fun _ => o_pick_f rfl rfl) ?_
          refine wl_p (fun _ => o_move rfl) ?_
          refine wl_know 185 false rfl (by simp) ?_
          refine wl_p (fun _ => o_move rfl) ?_
          refine wl_call rfl (C_pSpare _ f102 hq) ?_
          rintro v187 w187 ⟨rfl, b187⟩
          have s187 := b187.size
          replace hw := hw.trans (b187.mono hw.size)
          replace f181 := f181.u b187
          replace f109 := f109.u b187
          replace f109_1 := f109_1.u b187
          replace f102 := f102.u b187
          replace f102_1 := f102_1.u b187
          replace f101 := f101.u b187
          replace f := f.u b187
          replace f179 := f179.u b187
          refine wl_p (fun _ => o_move rfl) ?_
          refine wl_call rfl (C_rpSpare _ f109 hq) ?_
          rintro v189 w189 ⟨rfl, b189⟩
          have s189 := b189.size
          replace hw := hw.trans (b189.mono hw.size)
          replace f179 := f179.u b189
          replace f := f.u b189
          replace f101 := f101.u b189
          replace f102_1 := f102_1.u b189
          replace f102 := f102.u b189
          replace f109_1 := f109_1.u b189
          replace f109 := f109.u b189
          replace f181 := f181.u b189
          refine wl_p (fun _ => o_ne rfl rfl) ?_
          refine wl_p (fun _ => o_pick_f rfl rfl) ?_
          refine wl_nil ?_
          refine rk_if rfl (fun h191 => absurd h191 (by omega)) (fun h191 => ?_)
          refine rk_skip ?_
          refine rk_blk ?_
          refine rk_region ?_
          refine wl_p (fun _ => o_move rfl) ?_
          refine wl_p (fun _ => o_add rfl rfl (by omega) (by omega)) ?_
          refine wl_p (fun _ => o_assign rfl) ?_
          refine wl_nil ?_
          exact rk_againf (Fr.le_of (by kernel_rfl) (by kernel_rfl) (by repeat' constructor)) ⟨i + 1, (i : Int) + 1, S, r.2.1, r.2.2, g, ul, uh, gr, lo, hi, rfl, by omega, by omega, rfl, hlS, hrl, by assumption, by assumption, by assumption, by assumption, hb1, hb2, hb3, hb4, by omega, hw⟩ (by omega)
      · refine rk_exit rfl ?_
        exact rk_tof hj (Fr.le_of (by kernel_rfl) (by kernel_rfl) (by repeat' constructor)) ⟨S, C, g, gr, rfl, hlS, f30, f35, hw⟩
    clear f30 f35 f40 f45 hw
    rintro fr V ⟨S, C, g, gr, rfl, hlS, f30, f35, hw⟩
    have himl := img_len S
    rw [hlS] at himl
    obtain ⟨B, c, D, q, H, fg, fa, fh, fc⟩ := f35.ex
    obtain ⟨im, him⟩ : ∃ im, img S = im := ⟨_, rfl⟩
    rw [him] at himl fa fg
    clear f35
    first | refine rk_frame (by simp only [List.cons_append, List.nil_append, List.drop_succ_cons, List.drop_zero]; rfl) ?_ | refine wl_frame (by simp only [List.cons_append, List.nil_append, List.drop_succ_cons, List.drop_zero]; rfl) ?_
    refine rk_seq ?_
    refine rk_drawo (id := 40) (none) [0, 1, 2, 0, 8, 16, 32, 64, 132, 511] [0, 1, 3, 0, 8, 24, 56, 120, 255, 511] 2 2 [0, 3, 4, 5, 6, 7, 1, 2, 8, 9] [(.p, 0), (.p, 3), (.p, 4), (.p, 5), (.s, 6), (.s, 7), (.c, 1), (.r, 2), (.p, 8), (.p, 9)] (by kernel_rfl) (by kernel_rfl) (by kernel_rfl) (by kernel_rfl) (by kernel_rfl) ?_
    dsimp only [inOrder, nthOp]
    replace hw := hw.drew
    replace fa := fa.d
    replace fg := fg.d
    replace fc := fc.d
    replace fh := fh.d
    replace f30 := f30.d
    refine wl_p (fun _ => o_move rfl) ?_
    refine wl_p (fun _ => o_move rfl) ?_
    refine wl_p (fun _ => o_nil rfl) ?_
    refine wl_p (fun _ => o_faddr (s := 60) (i := 0) (off := 0) Tryz.underlying60 rfl Tryz.sizeOf40 rfl rfl rfl) ?_
    refine wl_s (fun _ hk => (o_loadbg Tryz.isAgg40 rfl (fg.u (below_of_grown_none hk)) (by rfl))) ?_
    refine wl_s (fun _ hk => (o_strU Tryz.underlying40 Tryz.underlying5 Tryz.underlying9 rfl fa.to_Rd (below_of_grown_none hk) rfl)) ?_
    refine wl_call rfl (C_dImage _ f30 him) ?_ (hq := .inr fun _ _ h => by obtain ⟨_, _, _, _, hb⟩ := h; exact grown_of_below hb _)
    rintro v193 w193 ⟨A193, ⟨c193, ⟨rfl, ⟨f193, b193⟩⟩⟩⟩
    simp only [drew_size] at f193
    simp only [drew_size] at b193
    have qf193 := f193.cap
    have s193 := b193.size
    simp only [drew_size] at s193
    replace hw := hw.trans (b193.mono hw.size)
    replace f30 := f30.u b193
    replace fh := fh.u b193
    replace fc := fc.u b193
    replace fg := fg.u b193
    replace fa := fa.u b193
    refine wl_r (o_strU Tryz.underlying40 Tryz.underlying5 Tryz.underlying9 rfl f193.to_Rd (Below.refl _ _) rfl) ?_
    refine wl_p (fun _ => o_seq rfl rfl) ?_
    refine wl_p (fun _ => o_assign rfl) ?_
    refine wl_nild ?_
    refine ret1 rfl rfl ?_
    exact ⟨congrArg Value.bool (decide_eq_true rfl), hw⟩
end Go.Proofs.YtklijaahbahcoaaGreatDoor
/-
  The table of math/bits, out of what the row lists.
-/
namespace Go.Proofs.YtklijaahbahcoaaGreatDoor
set_option maxRecDepth 100000
open Go.ChangeShapes Go.WideShapes Go.ChangeAt Go.RowKit
abbrev tabLaid : List (String × DataW Unit) := [("math/bits.deBruijn64tab", Rows.laid_math_bits_deBruijn64tab)]
theorem tab_datum : (Rows.laid_math_bits_deBruijn64tab : DataW Unit) = .agg (tabL.map fun b => .lit (.int .u8 (b.toNat : Int))) := rfl
theorem tab_of_laid {W : World} (h : laidMetH Tryz.prog tabLaid W) : TabAt0 W 0 := by
  rw [MakeChecks.laidMetH_plain _ _ _ (by kernel_rfl)] at h
  obtain ⟨ps, ⟨g, t, cs, fuel, p, q, hg, ht, hv, hd, _, _⟩, _, _⟩ := h
  obtain rfl := Option.some.inj ((show Tryz.prog.globalNamed "math/bits.deBruijn64tab" = some 0 by kernel_rfl).symm.trans hg)
  obtain rfl := Option.some.inj ((show (Tryz.prog.globals[0]?).map (·.type) = some 93 by kernel_rfl).symm.trans ht)
  obtain ⟨xs, m, _, ex, _, hl, hel⟩ := DataW.trod_array Tryz.underlying93 hd
  have c5 : Tryz.prog.cellsOf 5 = 1 := by kernel_rfl
  have hlen : tabL.length = 64 := rfl
  rw [tab_datum] at ex
  have e3 : (xs.map (·.1)) = tabL.map fun b => (DataW.lit (.int .u8 (b.toNat : Int)) : DataW Unit) := (DataW.agg.inj (Prod.mk.inj ex).1).symm
  have hcell : ∀ r : Nat, (hr : r < 64) → W.cell? ⟨0, r, none⟩ = some (.int .u8 ((tabL[r]'(by omega)).toNat : Int)) := fun r hr => by
    have hE := hel r hr
    rw [c5, Nat.mul_one, List.getElem?_eq_getElem (by omega)] at hE
    obtain ⟨z, e1, e2, _⟩ := DataW.trod_int Tryz.underlying5 hE
    have e4 : (xs.map (·.1))[r]? = (tabL.map fun b => (DataW.lit (.int .u8 (b.toNat : Int)) : DataW Unit))[r]? := by rw [e3]
    rw [List.getElem?_map, List.getElem?_map, List.getElem?_eq_getElem (by omega : r < xs.length), List.getElem?_eq_getElem (by omega : r < tabL.length), e2] at e4
    have hz : z = ((tabL[r]'(by omega)).toNat : Int) := by
      simp only [Option.map_some, Option.some.injEq, DataW.lit.injEq, Lit.int.injEq, true_and] at e4
      exact e4
    rw [World.var?_cell hg hv r, ← hz]
    have : cs.toList[r]? = some (.int .u8 z) := by
      have h0 : ((cs.toList.drop r).take 1)[0]? = some (.int .u8 z) := by rw [e1]; rfl
      simpa using h0
    simpa using this
  refine ⟨⟨by rw [B8_length, hlen], fun _ => ⟨_, 0, rfl, fun j u hj => ?_⟩⟩, fun k e => ?_⟩
  · have hj2 : j < 64 := by
      rcases Nat.lt_or_ge j 64 with h | h
      · exact h
      · rw [List.getElem?_eq_none (by rw [B8_length, hlen]; exact h)] at hj; cases hj
    rw [Nat.zero_add, hcell j hj2, ← hj]
    unfold B8
    rw [List.getElem?_map, List.getElem?_eq_getElem (by omega)]; rfl
  · have : 0 = k := by simpa [blk] using e
    omega
end Go.Proofs.YtklijaahbahcoaaGreatDoor
