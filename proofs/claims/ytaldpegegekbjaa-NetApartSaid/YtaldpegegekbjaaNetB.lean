/-
  Walks of package net: copies, what is valid, a new net.
-/
import Derived.Test.YtaldpegegekbjaaNetA
import Derived.Test.YtaldpegegekbjaaU8
namespace Go.Proofs.Ytaldpegegekbjaa
open Go.RowKit
section
variable {P : Program} {N : Nat} {fr : Fr} {w : World} {ty t t' : TypeId} {x y : Operand}
theorem run_equal_slice_nil {e : TypeId} (hu : P.underlying t = some (.slice e)) (A : Option Addr) (n c : Nat) : (Op.equal t (.slice A n c) (.slice none 0 0)).run P w = .ok A.isNone w := by
  have h : ∀ d : Nat, (Op.equalIn (d + 1) t (.slice A n c) (.slice none 0 0)).run P w = .ok A.isNone w := fun d => by
    cases A <;> simp [Op.equalIn, run_underlying hu]
  exact h 9999
--@ rule binOp p o_sleqN
theorem o_sleqN {e : TypeId} {A : Option Addr} {n c : Nat} (hu : P.underlying t = some (.slice e)) (hx : fr.ev x = some (.slice A n c)) (hy : fr.ev y = some (.slice none 0 0)) : OpV P N fr w (.binOp .eql t x y t') ty (.bool A.isNone) w :=
  o_bin hx hy (fun _ _ => by simp [go_sem]) (by simp only [binOp]; simp [run_equal_slice_nil hu])
end
theorem C_bClone {A : Option Addr} {p : By} {n c : Nat} (w : World) (hp : Rd w A p) (hn : n = p.length) (hl : p.length ≤ 4000000000) :
    CallsR Try.prog 36 [.slice A n c] w fun v w' => ∃ A' c', v = .slice A' p.length c' ∧ OwnH w' w.heap.size w'.heap.size A' c' p ∧ Below w.heap.size w w' := by
  subst hn
  rcases A with _ | ad
  · obtain rfl : p = [] := by
      rcases p with _ | ⟨a, p⟩
      · rfl
      · obtain ⟨_, _, e, _⟩ := hp.2 (by simp [B8]); cases e
    refine callsR Try.func36 rfl rfl (by kernel_rfl) rfl ?_
    have hw := Below.refl w.heap.size w
    refine rk_seq ?_
    refine rk_region ?_
    refine wl_p (fun _ => o_assign rfl) ?_
    refine wl_nil ?_
    refine rk_seq ?_
    refine rk_seq ?_
    refine rk_region ?_
    refine wl_p (fun _ => o_move rfl) ?_
    refine wl_p (fun _ => (o_sleqN Try.underlying32 rfl rfl)) ?_
    refine wl_nil ?_
    refine rk_true rfl ?_
    refine rk_seq ?_
    refine rk_region ?_
    refine wl_p (fun _ => o_assign rfl) ?_
    refine wl_nil ?_
    refine ret1 rfl rfl ?_
    exact ⟨none, 0, rfl, OwnH.nil_, hw⟩
  · refine callsR Try.func36 rfl rfl (by kernel_rfl) rfl ?_
    have hw := Below.refl w.heap.size w
    refine rk_seq ?_
    refine rk_region ?_
    refine wl_p (fun _ => o_assign rfl) ?_
    refine wl_nil ?_
    refine rk_seq ?_
    refine rk_seq ?_
    refine rk_region ?_
    refine wl_p (fun _ => o_move rfl) ?_
    refine wl_p (fun _ => (o_sleqN Try.underlying32 rfl rfl)) ?_
    refine wl_nil ?_
    refine rk_false rfl ?_
    refine rk_skip ?_
    refine rk_seq ?_
    refine rk_region ?_
    refine wl_litB [] Try.u8 Try.sizeOf5 Try.zeroValue5 (by rfl) rfl rfl (by rfl) (by rfl) (by rfl) ?_
    rintro A5 w5 f5 b5
    have qf5 := f5.cap
    have s5 := b5.size
    replace hw := hw.trans (b5.mono hw.size)
    refine wl_p (fun _ => o_move rfl) ?_
    refine wl_appB Try.u8 rfl f5 (by rfl) rfl (hp.u hw) rfl (by omega) hw.size ?_
    rintro A7 c7 w7 f7 g7 b7 i7
    have qf7 := f7.cap
    have s7 := g7.size
    replace hw := hw.trans (b7.mono (by omega))
    clear f5
    refine wl_p (fun _ => o_assign rfl) ?_
    refine wl_nil ?_
    rw [List.nil_append] at f7 ⊢
    refine ret1 rfl rfl ?_
    exact ⟨_, _, rfl, f7, hw⟩
theorem C_clone {f0 t0 : Int} {A : Option Addr} {p : By} {n c : Nat} (w : World) (hp : Rd w A p) (hn : n = p.length) (hl : p.length ≤ 4000000000) :
    CallsR Try.prog 23 [.agg #[.int .i64 f0, .int .i64 t0, .slice A n c]] w fun v w' => ∃ A' c', v = .agg #[.int .i64 f0, .int .i64 t0, .slice A' p.length c'] ∧ OwnH w' w.heap.size w'.heap.size A' c' p ∧ Below w.heap.size w w' := by
  subst hn
  refine callsR Try.func23 rfl rfl (by kernel_rfl) rfl ?_
  have hw := Below.refl w.heap.size w
  refine rk_seq ?_
  refine rk_region ?_
  refine wl_boxg [_, _, _] rfl (by rfl) ?_
  rintro g1 w1 f1 b1 i1 i1_1
  have s1 := b1.size
  replace hw := hw.trans (b1.mono hw.size)
  refine wl_allocg [_, _, _] Try.zeroValue38 (by rfl) ?_
  rintro g2 w2 f2 b2 i2 i2_1
  have s2 := b2.size
  replace hw := hw.trans (b2.mono hw.size)
  replace f1 := f1.u b2
  refine wl_nil ?_
  refine rk_seq ?_
  refine rk_region ?_
  refine wl_p (fun _ => o_faddr (s := 38) (i := 2) (off := 2) Try.underlying38 rfl Try.sizeOf32 rfl rfl rfl) ?_
  refine wl_r (o_loadbg Try.isAgg32 rfl f1 (by rfl)) ?_
  refine wl_call rfl (C_bClone _ (hp.u hw) rfl (by omega)) ?_
  rintro v5 w5 ⟨A5, ⟨c5, ⟨rfl, ⟨f5, b5⟩⟩⟩⟩
  have qf5 := f5.cap
  have s5 := b5.size
  replace hw := hw.trans (b5.mono hw.size)
  replace f1 := f1.u b5
  replace f2 := f2.u b5
  refine wl_p (fun _ => o_faddr (s := 38) (i := 2) (off := 2) Try.underlying38 rfl Try.sizeOf32 rfl rfl rfl) ?_
  refine wl_storeg1 Try.sizeOf32 rfl rfl (by rfl) f1 (by simp) ?_
  rintro w_1 f g e
  have s := g.size
  replace hw := hw.trans (below_of_grownBy g.g hw.size (by omega))
  replace f2 := f2.k g.g (ap_some (by omega))
  clear f1
  replace f5 := f5.k g.g (ap_some (by omega))
  refine wl_nil ?_
  refine rk_seq ?_
  refine rk_region ?_
  refine wl_r (o_loadag Try.isAgg38 Try.sizeOf38 rfl f (by rfl)) ?_
  refine wl_storega Try.sizeOf38 rfl rfl (by rfl) (oneCell_of (by rfl)) f2 (by rfl) ?_
  rintro w_2 f_1 g_1 e_1
  have s_1 := g_1.size
  replace hw := hw.trans (below_of_grownBy g_1.g hw.size (by omega))
  replace f5 := f5.k g_1.g (ap_some (by omega))
  clear f2
  replace f := f.k g_1.g (ap_some (by omega))
  refine wl_nil ?_
  refine ret_cell rfl rfl Try.isAgg38 Try.sizeOf38 f_1 rfl ?_
  exact ⟨_, _, rfl, f5.base (by omega) (by omega), hw⟩
/-- Is there such an envelope? -/
def netAt (k : Int) (L : List En) (i : Int) : Int := if netOk k L = false then 2 else if i < 0 ∨ (L.length : Int) ≤ i then 6 else 0
theorem C_at {k i r : Int} {A : Option Addr} {L : List En} {n c : Nat} (w : World) (hL : REn w A L) (hr : netAt k L i = r) (hn : n = L.length) (hm : n ≤ maxLen) : CallsR Try.prog 24 [.agg #[.int .i64 k, .slice A n c], .int .i64 i] w fun v w' => v = .int .i64 r ∧ Below w.heap.size w w' := by
  subst hn; subst hr
  obtain ⟨e, he⟩ : ∃ e, netErr k L = e := ⟨_, rfl⟩
  refine callsR Try.func24 rfl rfl (by kernel_rfl) rfl ?_
  have hw := Below.refl w.heap.size w
  refine rk_seq ?_
  refine rk_region ?_
  refine wl_boxg [_, _] rfl (by rfl) ?_
  rintro g2 w2 f2 b2 i2 i2_1
  have s2 := b2.size
  replace hw := hw.trans (b2.mono hw.size)
  refine wl_p (fun _ => o_assign rfl) ?_
  refine wl_nil ?_
  refine rk_seq ?_
  refine rk_seq ?_
  refine rk_region ?_
  refine wl_r (o_loadag Try.isAgg27 Try.sizeOf27 rfl f2 (by rfl)) ?_
  refine wl_call rfl (C_Check _ (hL.u hw) he rfl (by omega)) ?_
  rintro v6 w6 ⟨rfl, b6⟩
  have s6 := b6.size
  replace hw := hw.trans (b6.mono hw.size)
  replace f2 := f2.u b6
  refine wl_p (fun _ => o_ne rfl rfl) ?_
  refine wl_nil ?_
  refine rk_if rfl (fun h7 => ?_) (fun h7 => ?_)
  · have h2 : netAt k L i = 2 := by
      unfold netErr at he; unfold netAt
      cases h : netOk k L
      · rfl
      · rw [h] at he; simp at he; omega
    rw [h2]
    refine rk_seq ?_
    refine rk_region ?_
    refine wl_p (fun _ => o_assign rfl) ?_
    refine wl_nil ?_
    refine ret1 rfl rfl ?_
    exact ⟨rfl, hw⟩
  have hok : netOk k L = true := by
    unfold netErr at he
    cases h : netOk k L
    · rw [h] at he; simp at he; omega
    · rfl
  by_cases h0 : i < 0
  · have h6 : netAt k L i = 6 := by unfold netAt; rw [hok, if_neg (by decide), if_pos (Or.inl h0)]
    rw [h6]
    refine rk_skip ?_
    refine rk_seq ?_
    refine rk_seq ?_
    refine rk_region ?_
    refine wl_p (fun _ => o_move rfl) ?_
    refine wl_p (fun _ => o_lt rfl rfl) ?_
    refine wl_p (fun _ => o_move rfl) ?_
    refine wl_know 10 true rfl (decide_eq_true (by omega)) ?_
    refine wl_off ?_
    refine wl_off ?_
    refine wl_off ?_
    refine wl_off ?_
    refine wl_off ?_
    refine wl_p (fun _ => o_pick_t rfl rfl) ?_
    refine wl_nil ?_
    refine rk_true rfl ?_
    refine rk_seq ?_
    refine rk_region ?_
    refine wl_p (fun _ => o_assign rfl) ?_
    refine wl_nil ?_
    rw [decide_eq_true h0]
    refine ret1 rfl rfl ?_
    exact ⟨rfl, hw⟩
  refine rk_skip ?_
  refine rk_seq ?_
  refine rk_seq ?_
  refine rk_region ?_
  refine wl_p (fun _ => o_move rfl) ?_
  refine wl_p (fun _ => o_lt rfl rfl) ?_
  refine wl_p (fun _ => o_move rfl) ?_
  refine wl_know 10 false rfl (decide_eq_false (by omega)) ?_
  refine wl_p (fun _ => o_move rfl) ?_
  refine wl_p (fun _ => o_faddr (s := 27) (i := 1) (off := 1) Try.underlying27 rfl Try.sizeOf25 rfl rfl rfl) ?_
  refine wl_r (o_loadbg Try.isAgg25 rfl f2 (by rfl)) ?_
  refine wl_p (fun _ => o_len (t := 25) Try.underlying25 rfl) ?_
  refine wl_p (fun _ => o_ge rfl rfl) ?_
  refine wl_p (fun _ => o_pick_f rfl rfl) ?_
  refine wl_nil ?_
  rw [decide_eq_false h0]
  refine rk_if rfl (fun h16 => ?_) (fun h16 => ?_)
  · have h6 : netAt k L i = 6 := by unfold netAt; rw [hok, if_neg (by decide), if_pos (Or.inr (by omega))]
    rw [h6]
    refine rk_seq ?_
    refine rk_region ?_
    refine wl_p (fun _ => o_assign rfl) ?_
    refine wl_nil ?_
    refine ret1 rfl rfl ?_
    exact ⟨rfl, hw⟩
  · have h6 : netAt k L i = 0 := by unfold netAt; rw [hok, if_neg (by decide), if_neg (by omega)]
    rw [h6]
    refine rk_skip ?_
    refine rk_seq ?_
    refine rk_region ?_
    refine wl_p (fun _ => o_assign rfl) ?_
    refine wl_nil ?_
    refine ret1 rfl rfl ?_
    exact ⟨rfl, hw⟩
theorem C_New {k r : Int} (w : World) (hr : netErr k [] = r) : CallsR Try.prog 9 [.int .i64 k] w fun v w' => v = .tuple #[.agg #[.int .i64 (if r = 0 then k else 0), .slice none 0 0], .int .i64 r] ∧ Below w.heap.size w w' := by
  refine callsR Try.func9 rfl rfl (by kernel_rfl) rfl ?_
  have hw := Below.refl w.heap.size w
  refine rk_seq ?_
  refine rk_region ?_
  refine wl_allocg [_, _] Try.zeroValue27 (by rfl) ?_
  rintro g2 w2 f2 b2 i2 i2_1
  have s2 := b2.size
  replace hw := hw.trans (b2.mono hw.size)
  refine wl_p (fun _ => o_assign rfl) ?_
  refine wl_nil ?_
  refine rk_seq ?_
  refine rk_region ?_
  refine wl_p (fun _ => o_move rfl) ?_
  refine wl_p (fun _ => (o_buildg [_, _] Try.underlying27 Try.zeroValue27 (by rfl) (by rfl) rfl (by rfl) (by rfl) (fun _ => by kernel_rfl))) ?_
  refine wl_allocg [_, _] Try.zeroValue27 (by rfl) ?_
  rintro g4 w4 f4 b4 i4 i4_1
  have s4 := b4.size
  replace hw := hw.trans (b4.mono hw.size)
  replace f2 := f2.u b4
  refine wl_storega Try.sizeOf27 rfl rfl (by rfl) (oneCell_of (by rfl)) f4 (by rfl) ?_
  rintro w_1 f g e
  have s := g.size
  replace hw := hw.trans (below_of_grownBy g.g hw.size (by omega))
  replace f2 := f2.k g.g (ap_some (by omega))
  clear f4
  refine wl_nil ?_
  refine rk_seq ?_
  refine rk_seq ?_
  refine rk_region ?_
  refine wl_r (o_loadag Try.isAgg27 Try.sizeOf27 rfl f (by rfl)) ?_
  refine wl_call rfl (C_Check _ (REn.nil_) hr (by rfl) (by omega)) ?_
  rintro v8 w8 ⟨rfl, b8⟩
  have s8 := b8.size
  replace hw := hw.trans (b8.mono hw.size)
  replace f2 := f2.u b8
  replace f := f.u b8
  refine wl_p (fun _ => o_ne rfl rfl) ?_
  refine wl_nil ?_
  refine rk_if rfl (fun h9 => ?_) (fun h9 => ?_)
  · have hr2 : r = 2 := by
      rw [← hr] at h9 ⊢; unfold netErr at h9 ⊢
      cases h : netOk k []
      · rfl
      · rw [h] at h9; simp at h9
    subst hr2
    refine rk_seq ?_
    refine rk_region ?_
    refine wl_p (fun _ => (o_buildg [_, _] Try.underlying27 Try.zeroValue27 (by rfl) (by rfl) rfl (by rfl) (by rfl) (fun _ => by kernel_rfl))) ?_
    refine wl_storega Try.sizeOf27 rfl rfl (by rfl) (by decide) f2 (by rfl) ?_
    rintro w_2 f_1 g_1 e_1
    have s_1 := g_1.size
    replace hw := hw.trans (below_of_grownBy g_1.g hw.size (by omega))
    replace f := f.k g_1.g (ap_some (by omega))
    clear f2
    refine wl_p (fun _ => o_assign rfl) ?_
    refine wl_nil ?_
    refine ret_cell_tmp rfl rfl rfl Try.isAgg27 Try.sizeOf27 f_1 rfl ?_
    exact ⟨rfl, hw⟩
  · have hr2 : r = 0 := by omega
    subst hr2
    refine rk_skip ?_
    refine rk_seq ?_
    refine rk_region ?_
    refine wl_r (o_loadag Try.isAgg27 Try.sizeOf27 rfl f (by rfl)) ?_
    refine wl_storega Try.sizeOf27 rfl rfl (by rfl) (oneCell_of (by rfl)) f2 (by rfl) ?_
    rintro w_2 f_1 g_1 e_1
    have s_1 := g_1.size
    replace hw := hw.trans (below_of_grownBy g_1.g hw.size (by omega))
    replace f := f.k g_1.g (ap_some (by omega))
    clear f2
    refine wl_p (fun _ => o_assign rfl) ?_
    refine wl_nil ?_
    refine ret_cell_tmp rfl rfl rfl Try.isAgg27 Try.sizeOf27 f_1 rfl ?_
    exact ⟨rfl, hw⟩
end Go.Proofs.Ytaldpegegekbjaa
