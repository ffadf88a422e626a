/-
  The walk of ReorgCalls.
-/
import Derived.Test.YtbncaabcddoicaaReoR
namespace Go.Proofs.Ytbncaabcddoicaa
open Go.RowKit

theorem pFrom_len (a b : List Dg) : (pFrom a b).1.undo.length ≤ a.length ∧ (pFrom a b).1.doo.length ≤ b.length := by
  unfold pFrom
  split
  · simp
  · simp [pl0]
theorem pBack_len (p : Pl) : (pBack p).1.undo.length ≤ p.doo.length ∧ (pBack p).1.doo.length ≤ p.undo.length := by
  unfold pBack
  split
  · simp [pl0]
  · simp
theorem pThen_len (p q : Pl) (a : List Dg) : (pThen p q a).1.undo.length ≤ a.length ∧ (pThen p q a).1.doo.length ≤ a.length + p.doo.length + q.doo.length := by
  have h1 := pApply_len p a
  have h2 := pApply_len q (pApply p a).1
  have h3 := pFrom_len a (pApply q (pApply p a).1).1
  unfold pThen
  split
  · simp [pl0]
  · split
    · simp [pl0]
    · omega
set_option maxHeartbeats 2000000 in
set_option maxRecDepth 20000 in
theorem C_ReorgCalls (w : World) (A : Option Addr) (c : Nat) (xs : List Int) (hr0 : Reads w 1 A xs.length (xs.map (Value.int .i64))) (_hc0 : xs.length ≤ c) (_hm0 : c ≤ maxLen) (_hz0 : ∀ n ∈ xs, (Lit.int .i64 n).wf = true)
    (A1 : Option Addr) (c1 : Nat) (ys : List Int) (hr1 : Reads w 1 A1 ys.length (ys.map (Value.int .i64))) (_hc1 : ys.length ≤ c1) (_hm1 : c1 ≤ maxLen) (_hz1 : ∀ n ∈ ys, (Lit.int .i64 n).wf = true)
    (v : Value) (p : Pl) (hp : PlV w p v ∧ (Lit.int .i64 p.keep).wf = true) (u : Value) (q : Pl) (hq : PlV w q u ∧ (Lit.int .i64 q.keep).wf = true) (stable : Int) (_ws : (Lit.int .i64 stable).wf = true) :
    CallsR Try.prog 7 [.slice A xs.length c, .slice A1 ys.length c1, v, u, .int .i64 stable] w fun v w' => v = .bool true ∧ Below w.heap.size w w' := by
  obtain ⟨hp, wk⟩ := hp
  obtain ⟨AL, cL, AM, cM, rfl, hL, hM, hcL, hcM⟩ := hp
  obtain ⟨k, L, M⟩ := p
  obtain ⟨hq, wk'⟩ := hq
  obtain ⟨AL', cL', AM', cM', rfl, hL', hM', hcL', hcM'⟩ := hq
  obtain ⟨k', L', M'⟩ := q
  simp only at *
  have hrx : RZ w A xs := hr0
  have hry : RZ w A1 ys := hr1
  refine callsR Try.func7 rfl rfl (by kernel_rfl) rfl ?_
  have hw := Below.refl w.heap.size w
  refine rk_seq ?_
  refine rk_region ?_
  refine wl_boxg [_, _, _] rfl (by rfl) ?_
  rintro g7 w7 f7 b7 i7 i7_1
  have s7 := b7.size
  replace hw := hw.trans (b7.mono hw.size)
  refine wl_boxg [_, _, _] rfl (by rfl) ?_
  rintro g8 w8 f8 b8 i8 i8_1
  have s8 := b8.size
  replace hw := hw.trans (b8.mono hw.size)
  replace f7 := f7.u b8
  refine wl_p (fun _ => o_assign rfl) ?_
  refine wl_nil ?_
  refine rk_seq ?_
  refine rk_seq ?_
  refine rk_region ?_
  refine wl_call rfl (C_lives _) ?_
  rintro v25 w25 ⟨rfl, b25⟩
  have s25 := b25.size
  replace hw := hw.trans (b25.mono hw.size)
  replace f7 := f7.u b25
  replace f8 := f8.u b25
  refine wl_p (fun _ => o_not rfl) ?_
  refine wl_nil ?_
  refine rk_false rfl ?_
  refine rk_skip ?_
  refine rk_seq ?_
  refine rk_seq ?_
  refine rk_region ?_
  refine wl_p (fun _ => o_move rfl) ?_
  refine wl_p (fun _ => o_len (t := 22) Try.underlying22 rfl) ?_
  refine wl_p (fun _ => o_gt rfl rfl) ?_
  refine wl_p (fun _ => o_move rfl) ?_
  refine wl_bool 30 rfl (fun h30 => ?_) (fun h30 => ?_) <;> try simp only [decide_eq_true_eq, decide_eq_false_iff_not, Bool.not_eq_true', Bool.not_eq_false', Bool.and_eq_true, Bool.and_eq_false_iff, Bool.or_eq_true, Bool.or_eq_false_iff] at h30
  · refine wl_off ?_
    refine wl_off ?_
    refine wl_off ?_
    refine wl_p (fun _ => o_pick_t rfl rfl) ?_
    refine wl_p (fun _ => o_move rfl) ?_
    refine wl_off ?_
    refine wl_off ?_
    refine wl_off ?_
    refine wl_p (fun _ => o_pick_t rfl rfl) ?_
    refine wl_p (fun _ => o_move rfl) ?_
    refine wl_off ?_
    refine wl_off ?_
    refine wl_off ?_
    refine wl_p (fun _ => o_pick_t rfl rfl) ?_
    refine wl_nil ?_
    refine rk_true rfl ?_
    refine rk_seq ?_
    refine rk_region ?_
    refine wl_p (fun _ => o_assign rfl) ?_
    refine wl_nil ?_
    refine ret1 rfl rfl ?_
    exact ⟨rfl, hw⟩
  refine wl_p (fun _ => o_move rfl) ?_
  refine wl_p (fun _ => o_len (t := 22) Try.underlying22 rfl) ?_
  refine wl_p (fun _ => o_gt rfl rfl) ?_
  refine wl_p (fun _ => o_pick_f rfl rfl) ?_
  refine wl_p (fun _ => o_move rfl) ?_
  refine wl_bool 35 rfl (fun h35 => ?_) (fun h35 => ?_) <;> try simp only [decide_eq_true_eq, decide_eq_false_iff_not, Bool.not_eq_true', Bool.not_eq_false', Bool.and_eq_true, Bool.and_eq_false_iff, Bool.or_eq_true, Bool.or_eq_false_iff] at h35
  · refine wl_off ?_
    refine wl_off ?_
    refine wl_off ?_
    refine wl_p (fun _ => o_pick_t rfl rfl) ?_
    refine wl_p (fun _ => o_move rfl) ?_
    refine wl_off ?_
    refine wl_off ?_
    refine wl_off ?_
    refine wl_p (fun _ => o_pick_t rfl rfl) ?_
    refine wl_nil ?_
    refine rk_true rfl ?_
    refine rk_seq ?_
    refine rk_region ?_
    refine wl_p (fun _ => o_assign rfl) ?_
    refine wl_nil ?_
    refine ret1 rfl rfl ?_
    exact ⟨rfl, hw⟩
  refine wl_r (o_loadag Try.isAgg25 Try.sizeOf25 rfl f7 (by rfl)) ?_
  refine wl_call rfl (C_light _ (PlV.mk_ (hL.u hw) (hM.u hw) rfl rfl (by omega) (by omega))) ?_
  rintro v37 w37 ⟨rfl, b37⟩
  dsimp only
  have s37 := b37.size
  replace hw := hw.trans (b37.mono hw.size)
  replace f8 := f8.u b37
  replace f7 := f7.u b37
  refine wl_p (fun _ => o_not rfl) ?_
  refine wl_p (fun _ => o_pick_f rfl rfl) ?_
  refine wl_p (fun _ => o_move rfl) ?_
  refine wl_bool 40 rfl (fun h40 => ?_) (fun h40 => ?_) <;> try simp only [decide_eq_true_eq, decide_eq_false_iff_not, Bool.not_eq_true', Bool.not_eq_false', Bool.and_eq_true, Bool.and_eq_false_iff, Bool.or_eq_true, Bool.or_eq_false_iff] at h40
  · refine wl_off ?_
    refine wl_off ?_
    refine wl_off ?_
    refine wl_p (fun _ => o_pick_t rfl rfl) ?_
    refine wl_nil ?_
    refine rk_true rfl ?_
    refine rk_seq ?_
    refine rk_region ?_
    refine wl_p (fun _ => o_assign rfl) ?_
    refine wl_nil ?_
    refine ret1 rfl rfl ?_
    exact ⟨rfl, hw⟩
  refine wl_r (o_loadag Try.isAgg25 Try.sizeOf25 rfl f8 (by rfl)) ?_
  refine wl_call rfl (C_light _ (PlV.mk_ (hL'.u hw) (hM'.u hw) rfl rfl (by omega) (by omega))) ?_
  rintro v42 w42 ⟨rfl, b42⟩
  dsimp only
  have s42 := b42.size
  replace hw := hw.trans (b42.mono hw.size)
  replace f7 := f7.u b42
  replace f8 := f8.u b42
  refine wl_p (fun _ => o_not rfl) ?_
  refine wl_p (fun _ => o_pick_f rfl rfl) ?_
  refine wl_nil ?_
  refine rk_cond rfl (fun h44 => ?_) (fun h44 => ?_) <;> try simp only [decide_eq_true_eq, decide_eq_false_iff_not, Bool.not_eq_true', Bool.not_eq_false', Bool.and_eq_true, Bool.and_eq_false_iff, Bool.or_eq_true, Bool.or_eq_false_iff] at h44
  · refine rk_seq ?_
    refine rk_region ?_
    refine wl_p (fun _ => o_assign rfl) ?_
    refine wl_nil ?_
    refine ret1 rfl rfl ?_
    exact ⟨rfl, hw⟩
  obtain ⟨a, ea⟩ : ∃ a, xs.map nm = a := ⟨_, rfl⟩
  obtain ⟨b, eb⟩ : ∃ b, ys.map nm = b := ⟨_, rfl⟩
  have la : a.length ≤ 40 := by rw [← ea, List.length_map]; omega
  have lb : b.length ≤ 40 := by rw [← eb, List.length_map]; omega
  obtain ⟨l1, l2⟩ := pFrom_len a b
  have l3 := pApply_len ⟨k, L, M⟩ a
  obtain ⟨l4, l5⟩ := pBack_len ⟨k, L, M⟩
  obtain ⟨l6, l7⟩ := pThen_len ⟨k, L, M⟩ ⟨k', L', M'⟩ a
  simp only at l3 l4 l5 l6 l7
  refine rk_skip ?_
  refine rk_seq ?_
  refine rk_region ?_
  refine wl_p (fun _ => o_move rfl) ?_
  refine wl_call rfl (C_names' _ (hrx.u hw) ea rfl (by omega)) ?_
  rintro v46 w46 ⟨A46, ⟨c46, ⟨rfl, ⟨f46, b46⟩⟩⟩⟩
  replace f46 := f46.h_
  have qf46 := f46.cap
  have s46 := b46.size
  replace hw := hw.trans (b46.mono hw.size)
  replace f8 := f8.u b46
  replace f7 := f7.u b46
  refine wl_p (fun _ => o_move rfl) ?_
  refine wl_call rfl (C_names' _ (hry.u hw) eb rfl (by omega)) ?_
  rintro v48 w48 ⟨A48, ⟨c48, ⟨rfl, ⟨f48, b48⟩⟩⟩⟩
  replace f48 := f48.h_
  have qf48 := f48.cap
  have s48 := b48.size
  replace hw := hw.trans (b48.mono hw.size)
  replace f7 := f7.u b48
  replace f8 := f8.u b48
  replace f46 := f46.u b48
  refine wl_p (fun _ => o_assign rfl) ?_
  refine wl_p (fun _ => o_assign rfl) ?_
  refine wl_nil ?_
  refine rk_seq ?_
  refine rk_region ?_
  refine wl_p (fun _ => o_move rfl) ?_
  refine wl_call rfl (C_Names' _ f46.to_RD rfl (by omega)) ?_
  rintro v51 w51 ⟨A51, ⟨c51, ⟨rfl, ⟨f51, b51⟩⟩⟩⟩
  replace f51 := f51.h_
  have qf51 := f51.cap
  have s51 := b51.size
  replace hw := hw.trans (b51.mono hw.size)
  replace f46 := f46.u b51
  replace f8 := f8.u b51
  replace f7 := f7.u b51
  replace f48 := f48.u b51
  refine wl_p (fun _ => o_move rfl) ?_
  refine wl_call rfl (C_Names' _ f48.to_RD rfl (by omega)) ?_
  rintro v53 w53 ⟨A53, ⟨c53, ⟨rfl, ⟨f53, b53⟩⟩⟩⟩
  replace f53 := f53.h_
  have qf53 := f53.cap
  have s53 := b53.size
  replace hw := hw.trans (b53.mono hw.size)
  replace f48 := f48.u b53
  replace f7 := f7.u b53
  replace f8 := f8.u b53
  replace f46 := f46.u b53
  replace f51 := f51.u b53
  refine wl_call rfl (C_From' _ f51.to_RD f53.to_RD (by rfl) rfl rfl (by omega) (by omega) (by omega) (by omega)) ?_
  rintro v54 w54 ⟨u54, ⟨rfl, ⟨⟨A54, ⟨c54, ⟨A54_1, ⟨c54_1, ⟨rfl, ⟨f54, f54_1⟩⟩⟩⟩⟩⟩, b54⟩⟩⟩
  replace f54 := f54.h_
  have qf54 := f54.cap
  replace f54_1 := f54_1.h_
  have qf54_1 := f54_1.cap
  have s54 := b54.size
  replace hw := hw.trans (b54.mono hw.size)
  replace f51 := f51.u b54
  replace f46 := f46.u b54
  replace f8 := f8.u b54
  replace f7 := f7.u b54
  replace f48 := f48.u b54
  replace f53 := f53.u b54
  refine wl_p (fun _ => o_move rfl) ?_
  refine wl_p (fun _ => o_ext20 rfl) ?_
  refine wl_p (fun _ => o_ext21 rfl) ?_
  refine wl_allocg [_, _, _] Try.zeroValue25 (by rfl) ?_
  rintro g13 w13 f13 b13 i13 i13_1
  have s13 := b13.size
  replace hw := hw.trans (b13.mono hw.size)
  replace f53 := f53.u b13
  replace f48 := f48.u b13
  replace f7 := f7.u b13
  replace f8 := f8.u b13
  replace f46 := f46.u b13
  replace f51 := f51.u b13
  replace f54_1 := f54_1.u b13
  replace f54 := f54.u b13
  refine wl_storega Try.sizeOf25 rfl rfl (by rfl) (oneCell_of (by rfl)) f13 (by rfl) ?_
  rintro w_1 f g e
  have s := g.size
  replace hw := hw.trans (below_of_grownBy g.g hw.size (by omega))
  replace f54 := f54.k g.g (ap_some (by omega))
  replace f54_1 := f54_1.k g.g (ap_some (by omega))
  replace f51 := f51.k g.g (ap_some (by omega))
  replace f46 := f46.k g.g (ap_some (by omega))
  replace f8 := f8.k g.g (ap_some (by omega))
  replace f7 := f7.k g.g (ap_some (by omega))
  replace f48 := f48.k g.g (ap_some (by omega))
  replace f53 := f53.k g.g (ap_some (by omega))
  clear f13
  refine wl_p (fun _ => o_assign rfl) ?_
  refine wl_nil ?_
  refine rk_seq ?_
  refine rk_region ?_
  refine wl_p (fun _ => o_move rfl) ?_
  refine wl_p (fun _ => o_move rfl) ?_
  refine wl_call rfl (C_refFrom' _ f46.to_RD f48.to_RD (by rfl) rfl rfl (by omega) (by omega) (by omega) (by omega)) ?_
  rintro v60 w60 ⟨u60, ⟨rfl, ⟨⟨A60, ⟨c60, ⟨A60_1, ⟨c60_1, ⟨rfl, ⟨f60, f60_1⟩⟩⟩⟩⟩⟩, b60⟩⟩⟩
  replace f60 := f60.h_
  have qf60 := f60.cap
  replace f60_1 := f60_1.h_
  have qf60_1 := f60_1.cap
  have s60 := b60.size
  replace hw := hw.trans (b60.mono hw.size)
  replace f53 := f53.u b60
  replace f48 := f48.u b60
  replace f7 := f7.u b60
  replace f8 := f8.u b60
  replace f46 := f46.u b60
  replace f51 := f51.u b60
  replace f54_1 := f54_1.u b60
  replace f54 := f54.u b60
  replace f := f.u b60
  refine wl_p (fun _ => o_move rfl) ?_
  refine wl_p (fun _ => o_ext20 rfl) ?_
  refine wl_p (fun _ => o_ext21 rfl) ?_
  refine wl_allocg [_, _, _] Try.zeroValue25 (by rfl) ?_
  rintro g15 w15 f15 b15 i15 i15_1
  have s15 := b15.size
  replace hw := hw.trans (b15.mono hw.size)
  replace f := f.u b15
  replace f54 := f54.u b15
  replace f54_1 := f54_1.u b15
  replace f51 := f51.u b15
  replace f46 := f46.u b15
  replace f8 := f8.u b15
  replace f7 := f7.u b15
  replace f48 := f48.u b15
  replace f53 := f53.u b15
  replace f60_1 := f60_1.u b15
  replace f60 := f60.u b15
  refine wl_storega Try.sizeOf25 rfl rfl (by rfl) (oneCell_of (by rfl)) f15 (by rfl) ?_
  rintro w_2 f_1 g_1 e_1
  have s_1 := g_1.size
  replace hw := hw.trans (below_of_grownBy g_1.g hw.size (by omega))
  replace f60 := f60.k g_1.g (ap_some (by omega))
  replace f60_1 := f60_1.k g_1.g (ap_some (by omega))
  replace f53 := f53.k g_1.g (ap_some (by omega))
  replace f48 := f48.k g_1.g (ap_some (by omega))
  replace f7 := f7.k g_1.g (ap_some (by omega))
  replace f8 := f8.k g_1.g (ap_some (by omega))
  replace f46 := f46.k g_1.g (ap_some (by omega))
  replace f51 := f51.k g_1.g (ap_some (by omega))
  replace f54_1 := f54_1.k g_1.g (ap_some (by omega))
  replace f54 := f54.k g_1.g (ap_some (by omega))
  replace f := f.k g_1.g (ap_some (by omega))
  clear f15
  refine wl_p (fun _ => o_assign rfl) ?_
  refine wl_nil ?_
  refine rk_seq ?_
  refine rk_region ?_
  refine wl_r (o_loadag Try.isAgg25 Try.sizeOf25 rfl f7 (by rfl)) ?_
  refine wl_call rfl (C_lplan _ (PlV.mk_ (hL.u hw) (hM.u hw) rfl rfl (by omega) (by omega)) (by simp; omega) (by simp; omega)) ?_
  rintro v65 w65 ⟨⟨A65, ⟨c65, ⟨A65_1, ⟨c65_1, ⟨rfl, ⟨f65, f65_1⟩⟩⟩⟩⟩⟩, b65⟩
  dsimp only at f65
  dsimp only at f65_1
  dsimp only
  replace f65 := f65.h_
  have qf65 := f65.cap
  replace f65_1 := f65_1.h_
  have qf65_1 := f65_1.cap
  have s65 := b65.size
  replace hw := hw.trans (b65.mono hw.size)
  replace f := f.u b65
  replace f54 := f54.u b65
  replace f54_1 := f54_1.u b65
  replace f51 := f51.u b65
  replace f46 := f46.u b65
  replace f8 := f8.u b65
  replace f7 := f7.u b65
  replace f48 := f48.u b65
  replace f53 := f53.u b65
  replace f60_1 := f60_1.u b65
  replace f60 := f60.u b65
  replace f_1 := f_1.u b65
  refine wl_p (fun _ => o_move rfl) ?_
  refine wl_call rfl (C_Names' _ f46.to_RD rfl (by omega)) ?_
  rintro v67 w67 ⟨A67, ⟨c67, ⟨rfl, ⟨f67, b67⟩⟩⟩⟩
  replace f67 := f67.h_
  have qf67 := f67.cap
  have s67 := b67.size
  replace hw := hw.trans (b67.mono hw.size)
  replace f_1 := f_1.u b67
  replace f60 := f60.u b67
  replace f60_1 := f60_1.u b67
  replace f53 := f53.u b67
  replace f48 := f48.u b67
  replace f7 := f7.u b67
  replace f8 := f8.u b67
  replace f46 := f46.u b67
  replace f51 := f51.u b67
  replace f54_1 := f54_1.u b67
  replace f54 := f54.u b67
  replace f := f.u b67
  replace f65_1 := f65_1.u b67
  replace f65 := f65.u b67
  refine wl_call rfl (C_Apply' _ (PlV.mk_ f65.to_RD f65_1.to_RD rfl rfl (by omega) (by omega)) f67.to_RD (by rfl) rfl ⟨by simp only; omega, by simp only; omega⟩ (by omega) (by omega)) ?_
  rintro v68 w68 ⟨A68, ⟨c68, ⟨rfl, ⟨f68, b68⟩⟩⟩⟩
  replace f68 := f68.h_
  have qf68 := f68.cap
  have s68 := b68.size
  replace hw := hw.trans (b68.mono hw.size)
  replace f65 := f65.u b68
  replace f65_1 := f65_1.u b68
  replace f := f.u b68
  replace f54 := f54.u b68
  replace f54_1 := f54_1.u b68
  replace f51 := f51.u b68
  replace f46 := f46.u b68
  replace f8 := f8.u b68
  replace f7 := f7.u b68
  replace f48 := f48.u b68
  replace f53 := f53.u b68
  replace f60_1 := f60_1.u b68
  replace f60 := f60.u b68
  replace f_1 := f_1.u b68
  replace f67 := f67.u b68
  refine wl_p (fun _ => o_move rfl) ?_
  refine wl_p (fun _ => o_ext20 rfl) ?_
  refine wl_p (fun _ => o_ext21 rfl) ?_
  refine wl_p (fun _ => o_assign rfl) ?_
  refine wl_p (fun _ => o_assign rfl) ?_
  refine wl_nil ?_
  refine rk_seq ?_
  refine rk_region ?_
  refine wl_r (o_loadag Try.isAgg25 Try.sizeOf25 rfl f7 (by rfl)) ?_
  refine wl_p (fun _ => o_move rfl) ?_
  refine wl_call rfl (C_refApply _ (PlV.mk_ (hL.u hw) (hM.u hw) rfl rfl (by omega) (by omega)) f46.to_RD (by rfl) rfl ⟨by simp only; omega, by simp only; omega⟩ (by omega) (by omega)) ?_
  rintro v74 w74 ⟨A74, ⟨c74, ⟨rfl, ⟨f74, b74⟩⟩⟩⟩
  replace f74 := f74.h_
  have qf74 := f74.cap
  have s74 := b74.size
  replace hw := hw.trans (b74.mono hw.size)
  replace f67 := f67.u b74
  replace f_1 := f_1.u b74
  replace f60 := f60.u b74
  replace f60_1 := f60_1.u b74
  replace f53 := f53.u b74
  replace f48 := f48.u b74
  replace f7 := f7.u b74
  replace f8 := f8.u b74
  replace f46 := f46.u b74
  replace f51 := f51.u b74
  replace f54_1 := f54_1.u b74
  replace f54 := f54.u b74
  replace f := f.u b74
  replace f65_1 := f65_1.u b74
  replace f65 := f65.u b74
  replace f68 := f68.u b74
  refine wl_p (fun _ => o_move rfl) ?_
  refine wl_p (fun _ => o_ext20 rfl) ?_
  refine wl_p (fun _ => o_ext21 rfl) ?_
  refine wl_p (fun _ => o_assign rfl) ?_
  refine wl_p (fun _ => o_assign rfl) ?_
  refine wl_nil ?_
  refine rk_seq ?_
  refine rk_region ?_
  refine wl_r (o_loadag Try.isAgg25 Try.sizeOf25 rfl f7 (by rfl)) ?_
  refine wl_call rfl (C_lplan _ (PlV.mk_ (hL.u hw) (hM.u hw) rfl rfl (by omega) (by omega)) (by simp; omega) (by simp; omega)) ?_
  rintro v79 w79 ⟨⟨A79, ⟨c79, ⟨A79_1, ⟨c79_1, ⟨rfl, ⟨f79, f79_1⟩⟩⟩⟩⟩⟩, b79⟩
  dsimp only at f79
  dsimp only at f79_1
  dsimp only
  replace f79 := f79.h_
  have qf79 := f79.cap
  replace f79_1 := f79_1.h_
  have qf79_1 := f79_1.cap
  have s79 := b79.size
  replace hw := hw.trans (b79.mono hw.size)
  replace f68 := f68.u b79
  replace f65 := f65.u b79
  replace f65_1 := f65_1.u b79
  replace f := f.u b79
  replace f54 := f54.u b79
  replace f54_1 := f54_1.u b79
  replace f51 := f51.u b79
  replace f46 := f46.u b79
  replace f8 := f8.u b79
  replace f7 := f7.u b79
  replace f48 := f48.u b79
  replace f53 := f53.u b79
  replace f60_1 := f60_1.u b79
  replace f60 := f60.u b79
  replace f_1 := f_1.u b79
  replace f67 := f67.u b79
  replace f74 := f74.u b79
  refine wl_call rfl (C_Back' _ (PlV.mk_ f79.to_RD f79_1.to_RD rfl rfl (by omega) (by omega)) (by rfl) ⟨by simp only; omega, by simp only; omega⟩) ?_
  rintro v80 w80 ⟨u80, ⟨rfl, ⟨⟨A80, ⟨c80, ⟨A80_1, ⟨c80_1, ⟨rfl, ⟨f80, f80_1⟩⟩⟩⟩⟩⟩, b80⟩⟩⟩
  replace f80 := f80.h_
  have qf80 := f80.cap
  replace f80_1 := f80_1.h_
  have qf80_1 := f80_1.cap
  have s80 := b80.size
  replace hw := hw.trans (b80.mono hw.size)
  replace f74 := f74.u b80
  replace f67 := f67.u b80
  replace f_1 := f_1.u b80
  replace f60 := f60.u b80
  replace f60_1 := f60_1.u b80
  replace f53 := f53.u b80
  replace f48 := f48.u b80
  replace f7 := f7.u b80
  replace f8 := f8.u b80
  replace f46 := f46.u b80
  replace f51 := f51.u b80
  replace f54_1 := f54_1.u b80
  replace f54 := f54.u b80
  replace f := f.u b80
  replace f65_1 := f65_1.u b80
  replace f65 := f65.u b80
  replace f68 := f68.u b80
  replace f79_1 := f79_1.u b80
  replace f79 := f79.u b80
  refine wl_p (fun _ => o_move rfl) ?_
  refine wl_p (fun _ => o_ext20 rfl) ?_
  refine wl_p (fun _ => o_ext21 rfl) ?_
  refine wl_allocg [_, _, _] Try.zeroValue25 (by rfl) ?_
  rintro g21 w21 f21 b21 i21 i21_1
  have s21 := b21.size
  replace hw := hw.trans (b21.mono hw.size)
  replace f79 := f79.u b21
  replace f79_1 := f79_1.u b21
  replace f68 := f68.u b21
  replace f65 := f65.u b21
  replace f65_1 := f65_1.u b21
  replace f := f.u b21
  replace f54 := f54.u b21
  replace f54_1 := f54_1.u b21
  replace f51 := f51.u b21
  replace f46 := f46.u b21
  replace f8 := f8.u b21
  replace f7 := f7.u b21
  replace f48 := f48.u b21
  replace f53 := f53.u b21
  replace f60_1 := f60_1.u b21
  replace f60 := f60.u b21
  replace f_1 := f_1.u b21
  replace f67 := f67.u b21
  replace f74 := f74.u b21
  replace f80_1 := f80_1.u b21
  replace f80 := f80.u b21
  refine wl_storega Try.sizeOf25 rfl rfl (by rfl) (oneCell_of (by rfl)) f21 (by rfl) ?_
  rintro w_3 f_2 g_2 e_2
  have s_2 := g_2.size
  replace hw := hw.trans (below_of_grownBy g_2.g hw.size (by omega))
  replace f80 := f80.k g_2.g (ap_some (by omega))
  replace f80_1 := f80_1.k g_2.g (ap_some (by omega))
  replace f74 := f74.k g_2.g (ap_some (by omega))
  replace f67 := f67.k g_2.g (ap_some (by omega))
  replace f_1 := f_1.k g_2.g (ap_some (by omega))
  replace f60 := f60.k g_2.g (ap_some (by omega))
  replace f60_1 := f60_1.k g_2.g (ap_some (by omega))
  replace f53 := f53.k g_2.g (ap_some (by omega))
  replace f48 := f48.k g_2.g (ap_some (by omega))
  replace f7 := f7.k g_2.g (ap_some (by omega))
  replace f8 := f8.k g_2.g (ap_some (by omega))
  replace f46 := f46.k g_2.g (ap_some (by omega))
  replace f51 := f51.k g_2.g (ap_some (by omega))
  replace f54_1 := f54_1.k g_2.g (ap_some (by omega))
  replace f54 := f54.k g_2.g (ap_some (by omega))
  replace f := f.k g_2.g (ap_some (by omega))
  replace f65_1 := f65_1.k g_2.g (ap_some (by omega))
  replace f65 := f65.k g_2.g (ap_some (by omega))
  replace f68 := f68.k g_2.g (ap_some (by omega))
  replace f79_1 := f79_1.k g_2.g (ap_some (by omega))
  replace f79 := f79.k g_2.g (ap_some (by omega))
  clear f21
  refine wl_p (fun _ => o_assign rfl) ?_
  refine wl_nil ?_
  refine rk_seq ?_
  refine rk_region ?_
  refine wl_r (o_loadag Try.isAgg25 Try.sizeOf25 rfl f7 (by rfl)) ?_
  refine wl_call rfl (C_refBack _ (PlV.mk_ (hL.u hw) (hM.u hw) rfl rfl (by omega) (by omega)) (by rfl) ⟨by simp only; omega, by simp only; omega⟩) ?_
  rintro v85 w85 ⟨u85, ⟨rfl, ⟨⟨A85, ⟨c85, ⟨A85_1, ⟨c85_1, ⟨rfl, ⟨f85, f85_1⟩⟩⟩⟩⟩⟩, b85⟩⟩⟩
  replace f85 := f85.h_
  have qf85 := f85.cap
  replace f85_1 := f85_1.h_
  have qf85_1 := f85_1.cap
  have s85 := b85.size
  replace hw := hw.trans (b85.mono hw.size)
  replace f79 := f79.u b85
  replace f79_1 := f79_1.u b85
  replace f68 := f68.u b85
  replace f65 := f65.u b85
  replace f65_1 := f65_1.u b85
  replace f := f.u b85
  replace f54 := f54.u b85
  replace f54_1 := f54_1.u b85
  replace f51 := f51.u b85
  replace f46 := f46.u b85
  replace f8 := f8.u b85
  replace f7 := f7.u b85
  replace f48 := f48.u b85
  replace f53 := f53.u b85
  replace f60_1 := f60_1.u b85
  replace f60 := f60.u b85
  replace f_1 := f_1.u b85
  replace f67 := f67.u b85
  replace f74 := f74.u b85
  replace f80_1 := f80_1.u b85
  replace f80 := f80.u b85
  replace f_2 := f_2.u b85
  refine wl_p (fun _ => o_move rfl) ?_
  refine wl_p (fun _ => o_ext20 rfl) ?_
  refine wl_p (fun _ => o_ext21 rfl) ?_
  refine wl_allocg [_, _, _] Try.zeroValue25 (by rfl) ?_
  rintro g23 w23 f23 b23 i23 i23_1
  have s23 := b23.size
  replace hw := hw.trans (b23.mono hw.size)
  replace f_2 := f_2.u b23
  replace f80 := f80.u b23
  replace f80_1 := f80_1.u b23
  replace f74 := f74.u b23
  replace f67 := f67.u b23
  replace f_1 := f_1.u b23
  replace f60 := f60.u b23
  replace f60_1 := f60_1.u b23
  replace f53 := f53.u b23
  replace f48 := f48.u b23
  replace f7 := f7.u b23
  replace f8 := f8.u b23
  replace f46 := f46.u b23
  replace f51 := f51.u b23
  replace f54_1 := f54_1.u b23
  replace f54 := f54.u b23
  replace f := f.u b23
  replace f65_1 := f65_1.u b23
  replace f65 := f65.u b23
  replace f68 := f68.u b23
  replace f79_1 := f79_1.u b23
  replace f79 := f79.u b23
  replace f85_1 := f85_1.u b23
  replace f85 := f85.u b23
  refine wl_storega Try.sizeOf25 rfl rfl (by rfl) (oneCell_of (by rfl)) f23 (by rfl) ?_
  rintro w_4 f_3 g_3 e_3
  have s_3 := g_3.size
  replace hw := hw.trans (below_of_grownBy g_3.g hw.size (by omega))
  replace f85 := f85.k g_3.g (ap_some (by omega))
  replace f85_1 := f85_1.k g_3.g (ap_some (by omega))
  replace f79 := f79.k g_3.g (ap_some (by omega))
  replace f79_1 := f79_1.k g_3.g (ap_some (by omega))
  replace f68 := f68.k g_3.g (ap_some (by omega))
  replace f65 := f65.k g_3.g (ap_some (by omega))
  replace f65_1 := f65_1.k g_3.g (ap_some (by omega))
  replace f := f.k g_3.g (ap_some (by omega))
  replace f54 := f54.k g_3.g (ap_some (by omega))
  replace f54_1 := f54_1.k g_3.g (ap_some (by omega))
  replace f51 := f51.k g_3.g (ap_some (by omega))
  replace f46 := f46.k g_3.g (ap_some (by omega))
  replace f8 := f8.k g_3.g (ap_some (by omega))
  replace f7 := f7.k g_3.g (ap_some (by omega))
  replace f48 := f48.k g_3.g (ap_some (by omega))
  replace f53 := f53.k g_3.g (ap_some (by omega))
  replace f60_1 := f60_1.k g_3.g (ap_some (by omega))
  replace f60 := f60.k g_3.g (ap_some (by omega))
  replace f_1 := f_1.k g_3.g (ap_some (by omega))
  replace f67 := f67.k g_3.g (ap_some (by omega))
  replace f74 := f74.k g_3.g (ap_some (by omega))
  replace f80_1 := f80_1.k g_3.g (ap_some (by omega))
  replace f80 := f80.k g_3.g (ap_some (by omega))
  replace f_2 := f_2.k g_3.g (ap_some (by omega))
  clear f23
  refine wl_p (fun _ => o_assign rfl) ?_
  refine wl_nil ?_
  refine rk_seq ?_
  refine rk_seq ?_
  refine rk_region ?_
  refine wl_r (o_loadag Try.isAgg25 Try.sizeOf25 rfl f (by rfl)) ?_
  refine wl_r (o_loadag Try.isAgg25 Try.sizeOf25 rfl f_1 (by rfl)) ?_
  refine wl_call rfl (C_kPlan _ (PlV.mk_ f54.to_RD f54_1.to_RD rfl rfl (by omega) (by omega)) (PlV.mk_ f60.to_RD f60_1.to_RD rfl rfl (by omega) (by omega)) (by simp; omega) (by simp; omega) (by simp; omega) (by simp; omega)) ?_
  rintro v90 w90 ⟨rfl, b90⟩
  have s90 := b90.size
  replace hw := hw.trans (b90.mono hw.size)
  replace f_2 := f_2.u b90
  replace f80 := f80.u b90
  replace f80_1 := f80_1.u b90
  replace f74 := f74.u b90
  replace f67 := f67.u b90
  replace f_1 := f_1.u b90
  replace f60 := f60.u b90
  replace f60_1 := f60_1.u b90
  replace f53 := f53.u b90
  replace f48 := f48.u b90
  replace f7 := f7.u b90
  replace f8 := f8.u b90
  replace f46 := f46.u b90
  replace f51 := f51.u b90
  replace f54_1 := f54_1.u b90
  replace f54 := f54.u b90
  replace f := f.u b90
  replace f65_1 := f65_1.u b90
  replace f65 := f65.u b90
  replace f68 := f68.u b90
  replace f79_1 := f79_1.u b90
  replace f79 := f79.u b90
  replace f85_1 := f85_1.u b90
  replace f85 := f85.u b90
  replace f_3 := f_3.u b90
  refine wl_p (fun _ => o_not rfl) ?_
  refine wl_p (fun _ => o_move rfl) ?_
  refine wl_know 92 false rfl (by simp) ?_
  refine wl_p (fun _ => o_move rfl) ?_
  refine wl_p (fun _ => o_move rfl) ?_
  refine wl_p (fun _ => o_ne rfl rfl) ?_
  refine wl_p (fun _ => o_pick_f rfl rfl) ?_
  refine wl_p (fun _ => o_move rfl) ?_
  refine wl_know 97 false rfl (decide_eq_false (by omega)) ?_
  refine wl_p (fun _ => o_move rfl) ?_
  refine wl_p (fun _ => o_move rfl) ?_
  refine wl_call rfl (C_Digests (c68) (c74) rfl rfl _ f68.to_RD f74.to_RD (by omega) (by omega)) ?_
  rintro v100 w100 ⟨rfl, b100⟩
  have s100 := b100.size
  replace hw := hw.trans (b100.mono hw.size)
  replace f_3 := f_3.u b100
  replace f85 := f85.u b100
  replace f85_1 := f85_1.u b100
  replace f79 := f79.u b100
  replace f79_1 := f79_1.u b100
  replace f68 := f68.u b100
  replace f65 := f65.u b100
  replace f65_1 := f65_1.u b100
  replace f := f.u b100
  replace f54 := f54.u b100
  replace f54_1 := f54_1.u b100
  replace f51 := f51.u b100
  replace f46 := f46.u b100
  replace f8 := f8.u b100
  replace f7 := f7.u b100
  replace f48 := f48.u b100
  replace f53 := f53.u b100
  replace f60_1 := f60_1.u b100
  replace f60 := f60.u b100
  replace f_1 := f_1.u b100
  replace f67 := f67.u b100
  replace f74 := f74.u b100
  replace f80_1 := f80_1.u b100
  replace f80 := f80.u b100
  replace f_2 := f_2.u b100
  refine wl_p (fun _ => o_not rfl) ?_
  refine wl_p (fun _ => o_pick_f rfl rfl) ?_
  refine wl_p (fun _ => o_move rfl) ?_
  refine wl_know 103 false rfl (by simp) ?_
  refine wl_p (fun _ => o_move rfl) ?_
  refine wl_p (fun _ => o_move rfl) ?_
  refine wl_p (fun _ => o_ne rfl rfl) ?_
  refine wl_p (fun _ => o_pick_f rfl rfl) ?_
  refine wl_p (fun _ => o_move rfl) ?_
  refine wl_know 108 false rfl (decide_eq_false (by omega)) ?_
  refine wl_r (o_loadag Try.isAgg25 Try.sizeOf25 rfl f_2 (by rfl)) ?_
  refine wl_r (o_loadag Try.isAgg25 Try.sizeOf25 rfl f_3 (by rfl)) ?_
  refine wl_call rfl (C_kPlan _ (PlV.mk_ f80.to_RD f80_1.to_RD rfl rfl (by omega) (by omega)) (PlV.mk_ f85.to_RD f85_1.to_RD rfl rfl (by omega) (by omega)) (by simp; omega) (by simp; omega) (by simp; omega) (by simp; omega)) ?_
  rintro v111 w111 ⟨rfl, b111⟩
  have s111 := b111.size
  replace hw := hw.trans (b111.mono hw.size)
  replace f_2 := f_2.u b111
  replace f80 := f80.u b111
  replace f80_1 := f80_1.u b111
  replace f74 := f74.u b111
  replace f67 := f67.u b111
  replace f_1 := f_1.u b111
  replace f60 := f60.u b111
  replace f60_1 := f60_1.u b111
  replace f53 := f53.u b111
  replace f48 := f48.u b111
  replace f7 := f7.u b111
  replace f8 := f8.u b111
  replace f46 := f46.u b111
  replace f51 := f51.u b111
  replace f54_1 := f54_1.u b111
  replace f54 := f54.u b111
  replace f := f.u b111
  replace f65_1 := f65_1.u b111
  replace f65 := f65.u b111
  replace f68 := f68.u b111
  replace f79_1 := f79_1.u b111
  replace f79 := f79.u b111
  replace f85_1 := f85_1.u b111
  replace f85 := f85.u b111
  replace f_3 := f_3.u b111
  refine wl_p (fun _ => o_not rfl) ?_
  refine wl_p (fun _ => o_pick_f rfl rfl) ?_
  refine wl_p (fun _ => o_move rfl) ?_
  refine wl_know 114 false rfl (by simp) ?_
  refine wl_p (fun _ => o_move rfl) ?_
  refine wl_p (fun _ => o_move rfl) ?_
  refine wl_p (fun _ => o_ne rfl rfl) ?_
  refine wl_p (fun _ => o_pick_f rfl rfl) ?_
  refine wl_nil ?_
  refine rk_if rfl (fun h118 => absurd h118 (by omega)) (fun h118 => ?_)
  refine rk_skip ?_
  refine rk_seq ?_
  refine rk_drawo (id := 14) (none) [0, 1, 0, 6, 0, 24, 42, 64, 128, 128, 511, 2047] [0, 1, 0, 7, 0, 31, 63, 127, 255, 255, 511, 2047] 1130 2 [0, 2, 4, 1, 3, 5, 6, 7, 8, 9, 10, 11] [(.r, 0), (.s, 2), (.p, 4), (.c, 1), (.l, 3), (.l, 5), (.l, 6), (.p, 7), (.p, 8), (.p, 9), (.l, 10), (.p, 11)] (by kernel_rfl) (by kernel_rfl) (by kernel_rfl) (by kernel_rfl) (by kernel_rfl) ?_
  dsimp only [inOrder, nthOp]
  replace hw := hw.drew
  replace f_3 := f_3.d
  replace f85 := f85.d
  replace f85_1 := f85_1.d
  replace f79 := f79.d
  replace f79_1 := f79_1.d
  replace f68 := f68.d
  replace f65 := f65.d
  replace f65_1 := f65_1.d
  replace f := f.d
  replace f54 := f54.d
  replace f54_1 := f54_1.d
  replace f51 := f51.d
  replace f46 := f46.d
  replace f8 := f8.d
  replace f7 := f7.d
  replace f48 := f48.d
  replace f53 := f53.d
  replace f60_1 := f60_1.d
  replace f60 := f60.d
  replace f_1 := f_1.d
  replace f67 := f67.d
  replace f74 := f74.d
  replace f80_1 := f80_1.d
  replace f80 := f80.d
  replace f_2 := f_2.d
  refine wl_r (o_loadag Try.isAgg25 Try.sizeOf25 rfl f7 (by rfl)) ?_
  refine wl_s (fun _ hk => (o_loadag Try.isAgg25 Try.sizeOf25 rfl (f8.u (below_of_grown_none hk)) (by rfl))) ?_
  refine wl_p (fun _ => o_move rfl) ?_
  refine wl_call rfl (C_lplan _ (PlV.mk_ (hL.u hw) (hM.u hw) rfl rfl (by omega) (by omega)) (by simp; omega) (by simp; omega)) ?_ (hq := .inr fun _ _ h => grown_of_below h.2 _)
  rintro v121 w121 ⟨⟨A121, ⟨c121, ⟨A121_1, ⟨c121_1, ⟨rfl, ⟨f121, f121_1⟩⟩⟩⟩⟩⟩, b121⟩
  simp only [drew_size] at f121
  simp only [drew_size] at f121_1
  simp only [drew_size] at b121
  dsimp only
  replace f121 := f121.h_
  have qf121 := f121.cap
  replace f121_1 := f121_1.h_
  have qf121_1 := f121_1.cap
  have s121 := b121.size
  simp only [drew_size] at s121
  replace hw := hw.trans (b121.mono hw.size)
  replace f_2 := f_2.u b121
  replace f80 := f80.u b121
  replace f80_1 := f80_1.u b121
  replace f74 := f74.u b121
  replace f67 := f67.u b121
  replace f_1 := f_1.u b121
  replace f60 := f60.u b121
  replace f60_1 := f60_1.u b121
  replace f53 := f53.u b121
  replace f48 := f48.u b121
  replace f7 := f7.u b121
  replace f8 := f8.u b121
  replace f46 := f46.u b121
  replace f51 := f51.u b121
  replace f54_1 := f54_1.u b121
  replace f54 := f54.u b121
  replace f := f.u b121
  replace f65_1 := f65_1.u b121
  replace f65 := f65.u b121
  replace f68 := f68.u b121
  replace f79_1 := f79_1.u b121
  replace f79 := f79.u b121
  replace f85_1 := f85_1.u b121
  replace f85 := f85.u b121
  replace f_3 := f_3.u b121
  refine wl_call rfl (C_lplan _ (PlV.mk_ (hL'.u hw) (hM'.u hw) rfl rfl (by omega) (by omega)) (by simp; omega) (by simp; omega)) ?_
  rintro v123 w123 ⟨⟨A123, ⟨c123, ⟨A123_1, ⟨c123_1, ⟨rfl, ⟨f123, f123_1⟩⟩⟩⟩⟩⟩, b123⟩
  dsimp only at f123
  dsimp only at f123_1
  dsimp only
  replace f123 := f123.h_
  have qf123 := f123.cap
  replace f123_1 := f123_1.h_
  have qf123_1 := f123_1.cap
  have s123 := b123.size
  replace hw := hw.trans (b123.mono hw.size)
  replace f_3 := f_3.u b123
  replace f85 := f85.u b123
  replace f85_1 := f85_1.u b123
  replace f79 := f79.u b123
  replace f79_1 := f79_1.u b123
  replace f68 := f68.u b123
  replace f65 := f65.u b123
  replace f65_1 := f65_1.u b123
  replace f := f.u b123
  replace f54 := f54.u b123
  replace f54_1 := f54_1.u b123
  replace f51 := f51.u b123
  replace f46 := f46.u b123
  replace f8 := f8.u b123
  replace f7 := f7.u b123
  replace f48 := f48.u b123
  replace f53 := f53.u b123
  replace f60_1 := f60_1.u b123
  replace f60 := f60.u b123
  replace f_1 := f_1.u b123
  replace f67 := f67.u b123
  replace f74 := f74.u b123
  replace f80_1 := f80_1.u b123
  replace f80 := f80.u b123
  replace f_2 := f_2.u b123
  replace f121_1 := f121_1.u b123
  replace f121 := f121.u b123
  refine wl_call rfl (C_Names' _ f46.to_RD rfl (by omega)) ?_
  rintro v125 w125 ⟨A125, ⟨c125, ⟨rfl, ⟨f125, b125⟩⟩⟩⟩
  replace f125 := f125.h_
  have qf125 := f125.cap
  have s125 := b125.size
  replace hw := hw.trans (b125.mono hw.size)
  replace f121 := f121.u b125
  replace f121_1 := f121_1.u b125
  replace f_2 := f_2.u b125
  replace f80 := f80.u b125
  replace f80_1 := f80_1.u b125
  replace f74 := f74.u b125
  replace f67 := f67.u b125
  replace f_1 := f_1.u b125
  replace f60 := f60.u b125
  replace f60_1 := f60_1.u b125
  replace f53 := f53.u b125
  replace f48 := f48.u b125
  replace f7 := f7.u b125
  replace f8 := f8.u b125
  replace f46 := f46.u b125
  replace f51 := f51.u b125
  replace f54_1 := f54_1.u b125
  replace f54 := f54.u b125
  replace f := f.u b125
  replace f65_1 := f65_1.u b125
  replace f65 := f65.u b125
  replace f68 := f68.u b125
  replace f79_1 := f79_1.u b125
  replace f79 := f79.u b125
  replace f85_1 := f85_1.u b125
  replace f85 := f85.u b125
  replace f_3 := f_3.u b125
  replace f123_1 := f123_1.u b125
  replace f123 := f123.u b125
  refine wl_call rfl (C_Then' _ (PlV.mk_ f121.to_RD f121_1.to_RD rfl rfl (by omega) (by omega)) (PlV.mk_ f123.to_RD f123_1.to_RD rfl rfl (by omega) (by omega)) f125.to_RD (by rfl) rfl ⟨by simp only; omega, by simp only; omega⟩ ⟨by simp only; omega, by simp only; omega⟩ (by omega) (by omega)) ?_
  rintro v126 w126 ⟨u126, ⟨rfl, ⟨⟨A126, ⟨c126, ⟨A126_1, ⟨c126_1, ⟨rfl, ⟨f126, f126_1⟩⟩⟩⟩⟩⟩, b126⟩⟩⟩
  replace f126 := f126.h_
  have qf126 := f126.cap
  replace f126_1 := f126_1.h_
  have qf126_1 := f126_1.cap
  have s126 := b126.size
  replace hw := hw.trans (b126.mono hw.size)
  replace f123 := f123.u b126
  replace f123_1 := f123_1.u b126
  replace f_3 := f_3.u b126
  replace f85 := f85.u b126
  replace f85_1 := f85_1.u b126
  replace f79 := f79.u b126
  replace f79_1 := f79_1.u b126
  replace f68 := f68.u b126
  replace f65 := f65.u b126
  replace f65_1 := f65_1.u b126
  replace f := f.u b126
  replace f54 := f54.u b126
  replace f54_1 := f54_1.u b126
  replace f51 := f51.u b126
  replace f46 := f46.u b126
  replace f8 := f8.u b126
  replace f7 := f7.u b126
  replace f48 := f48.u b126
  replace f53 := f53.u b126
  replace f60_1 := f60_1.u b126
  replace f60 := f60.u b126
  replace f_1 := f_1.u b126
  replace f67 := f67.u b126
  replace f74 := f74.u b126
  replace f80_1 := f80_1.u b126
  replace f80 := f80.u b126
  replace f_2 := f_2.u b126
  replace f121_1 := f121_1.u b126
  replace f121 := f121.u b126
  replace f125 := f125.u b126
  refine wl_p (fun _ => o_move rfl) ?_
  refine wl_p (fun _ => o_ext20 rfl) ?_
  refine wl_p (fun _ => o_ext21 rfl) ?_
  refine wl_storega Try.sizeOf25 rfl rfl (by rfl) (oneCell_of (by rfl)) f (by rfl) ?_
  rintro w_5 f_4 g_4 e_4
  have s_4 := g_4.size
  replace hw := hw.trans (below_of_grownBy g_4.g hw.size (by omega))
  replace f125 := f125.k g_4.g (ap_some (by omega))
  replace f121 := f121.k g_4.g (ap_some (by omega))
  replace f121_1 := f121_1.k g_4.g (ap_some (by omega))
  replace f_2 := f_2.k g_4.g (ap_some (by omega))
  replace f80 := f80.k g_4.g (ap_some (by omega))
  replace f80_1 := f80_1.k g_4.g (ap_some (by omega))
  replace f74 := f74.k g_4.g (ap_some (by omega))
  replace f67 := f67.k g_4.g (ap_some (by omega))
  replace f_1 := f_1.k g_4.g (ap_some (by omega))
  replace f60 := f60.k g_4.g (ap_some (by omega))
  replace f60_1 := f60_1.k g_4.g (ap_some (by omega))
  replace f53 := f53.k g_4.g (ap_some (by omega))
  replace f48 := f48.k g_4.g (ap_some (by omega))
  replace f7 := f7.k g_4.g (ap_some (by omega))
  replace f8 := f8.k g_4.g (ap_some (by omega))
  replace f46 := f46.k g_4.g (ap_some (by omega))
  replace f51 := f51.k g_4.g (ap_some (by omega))
  replace f54_1 := f54_1.k g_4.g (ap_some (by omega))
  replace f54 := f54.k g_4.g (ap_some (by omega))
  clear f
  replace f65_1 := f65_1.k g_4.g (ap_some (by omega))
  replace f65 := f65.k g_4.g (ap_some (by omega))
  replace f68 := f68.k g_4.g (ap_some (by omega))
  replace f79_1 := f79_1.k g_4.g (ap_some (by omega))
  replace f79 := f79.k g_4.g (ap_some (by omega))
  replace f85_1 := f85_1.k g_4.g (ap_some (by omega))
  replace f85 := f85.k g_4.g (ap_some (by omega))
  replace f_3 := f_3.k g_4.g (ap_some (by omega))
  replace f123_1 := f123_1.k g_4.g (ap_some (by omega))
  replace f123 := f123.k g_4.g (ap_some (by omega))
  replace f126_1 := f126_1.k g_4.g (ap_some (by omega))
  replace f126 := f126.k g_4.g (ap_some (by omega))
  refine wl_p (fun _ => o_assign rfl) ?_
  refine wl_nild ?_
  refine rk_seq ?_
  refine rk_region ?_
  refine wl_r (o_loadag Try.isAgg25 Try.sizeOf25 rfl f7 (by rfl)) ?_
  refine wl_r (o_loadag Try.isAgg25 Try.sizeOf25 rfl f8 (by rfl)) ?_
  refine wl_p (fun _ => o_move rfl) ?_
  refine wl_call rfl (C_refThen _ (PlV.mk_ (hL.u hw) (hM.u hw) rfl rfl (by omega) (by omega)) (PlV.mk_ (hL'.u hw) (hM'.u hw) rfl rfl (by omega) (by omega)) f46.to_RD (by rfl) rfl ⟨by simp only; omega, by simp only; omega⟩ ⟨by simp only; omega, by simp only; omega⟩ (by omega) (by omega)) ?_
  rintro v133 w133 ⟨u133, ⟨rfl, ⟨⟨A133, ⟨c133, ⟨A133_1, ⟨c133_1, ⟨rfl, ⟨f133, f133_1⟩⟩⟩⟩⟩⟩, b133⟩⟩⟩
  replace f133 := f133.h_
  have qf133 := f133.cap
  replace f133_1 := f133_1.h_
  have qf133_1 := f133_1.cap
  have s133 := b133.size
  replace hw := hw.trans (b133.mono hw.size)
  replace f126 := f126.u b133
  replace f126_1 := f126_1.u b133
  replace f123 := f123.u b133
  replace f123_1 := f123_1.u b133
  replace f_3 := f_3.u b133
  replace f85 := f85.u b133
  replace f85_1 := f85_1.u b133
  replace f79 := f79.u b133
  replace f79_1 := f79_1.u b133
  replace f68 := f68.u b133
  replace f65 := f65.u b133
  replace f65_1 := f65_1.u b133
  replace f54 := f54.u b133
  replace f54_1 := f54_1.u b133
  replace f51 := f51.u b133
  replace f46 := f46.u b133
  replace f8 := f8.u b133
  replace f7 := f7.u b133
  replace f48 := f48.u b133
  replace f53 := f53.u b133
  replace f60_1 := f60_1.u b133
  replace f60 := f60.u b133
  replace f_1 := f_1.u b133
  replace f67 := f67.u b133
  replace f74 := f74.u b133
  replace f80_1 := f80_1.u b133
  replace f80 := f80.u b133
  replace f_2 := f_2.u b133
  replace f121_1 := f121_1.u b133
  replace f121 := f121.u b133
  replace f125 := f125.u b133
  replace f_4 := f_4.u b133
  refine wl_p (fun _ => o_move rfl) ?_
  refine wl_p (fun _ => o_ext20 rfl) ?_
  refine wl_p (fun _ => o_ext21 rfl) ?_
  refine wl_storega Try.sizeOf25 rfl rfl (by rfl) (oneCell_of (by rfl)) f_1 (by rfl) ?_
  rintro w_6 f g_5 e_5
  have s_5 := g_5.size
  replace hw := hw.trans (below_of_grownBy g_5.g hw.size (by omega))
  replace f_4 := f_4.k g_5.g (ap_some (by omega))
  replace f125 := f125.k g_5.g (ap_some (by omega))
  replace f121 := f121.k g_5.g (ap_some (by omega))
  replace f121_1 := f121_1.k g_5.g (ap_some (by omega))
  replace f_2 := f_2.k g_5.g (ap_some (by omega))
  replace f80 := f80.k g_5.g (ap_some (by omega))
  replace f80_1 := f80_1.k g_5.g (ap_some (by omega))
  replace f74 := f74.k g_5.g (ap_some (by omega))
  replace f67 := f67.k g_5.g (ap_some (by omega))
  clear f_1
  replace f60 := f60.k g_5.g (ap_some (by omega))
  replace f60_1 := f60_1.k g_5.g (ap_some (by omega))
  replace f53 := f53.k g_5.g (ap_some (by omega))
  replace f48 := f48.k g_5.g (ap_some (by omega))
  replace f7 := f7.k g_5.g (ap_some (by omega))
  replace f8 := f8.k g_5.g (ap_some (by omega))
  replace f46 := f46.k g_5.g (ap_some (by omega))
  replace f51 := f51.k g_5.g (ap_some (by omega))
  replace f54_1 := f54_1.k g_5.g (ap_some (by omega))
  replace f54 := f54.k g_5.g (ap_some (by omega))
  replace f65_1 := f65_1.k g_5.g (ap_some (by omega))
  replace f65 := f65.k g_5.g (ap_some (by omega))
  replace f68 := f68.k g_5.g (ap_some (by omega))
  replace f79_1 := f79_1.k g_5.g (ap_some (by omega))
  replace f79 := f79.k g_5.g (ap_some (by omega))
  replace f85_1 := f85_1.k g_5.g (ap_some (by omega))
  replace f85 := f85.k g_5.g (ap_some (by omega))
  replace f_3 := f_3.k g_5.g (ap_some (by omega))
  replace f123_1 := f123_1.k g_5.g (ap_some (by omega))
  replace f123 := f123.k g_5.g (ap_some (by omega))
  replace f126_1 := f126_1.k g_5.g (ap_some (by omega))
  replace f126 := f126.k g_5.g (ap_some (by omega))
  replace f133_1 := f133_1.k g_5.g (ap_some (by omega))
  replace f133 := f133.k g_5.g (ap_some (by omega))
  refine wl_p (fun _ => o_assign rfl) ?_
  refine wl_nil ?_
  refine rk_seq ?_
  refine rk_drawo (id := 16) (none) [0, 0, 3, 4, 8, 8, 56, 72, 136, 256, 768, 256, 3328, 5376, 8448, 20480, 32768, 98304, 32768, 425984, 688128, 1081344, 2621440, 4194304, 4194304, 29360128, 4194304, 4194304, 239075328, 306184192, 541065216, 1342177280, 2147483648, 2147483648, 15032385536, 2147483648, 2147483648, 122406567936, 156766306304, 277025390592, 1099511627775] [0, 0, 3, 7, 15, 15, 63, 127, 255, 511, 1023, 511, 4095, 8191, 16383, 32767, 65535, 131071, 65535, 524287, 1048575, 2097151, 4194303, 8388607, 8388607, 33554431, 8388607, 8388607, 268435455, 536870911, 1073741823, 2147483647, 4294967295, 4294967295, 17179869183, 4294967295, 4294967295, 137438953471, 274877906943, 549755813887, 1099511627775] 154921473028 17213555712 [0, 1, 2, 3, 4, 5, 6, 7, 8, 9, 11, 10, 12, 13, 14, 15, 16, 18, 17, 19, 20, 21, 22, 23, 24, 26, 27, 25, 28, 29, 30, 31, 32, 33, 35, 36, 34, 37, 38, 39, 40] [(.r, 0), (.r, 1), (.l, 2), (.p, 3), (.p, 4), (.p, 5), (.p, 6), (.p, 7), (.p, 8), (.r, 9), (.s, 11), (.c, 10), (.l, 12), (.p, 13), (.p, 14), (.p, 15), (.r, 16), (.s, 18), (.c, 17), (.l, 19), (.p, 20), (.p, 21), (.p, 22), (.r, 23), (.p, 24), (.s, 26), (.p, 27), (.c, 25), (.l, 28), (.p, 29), (.p, 30), (.p, 31), (.r, 32), (.r, 33), (.s, 35), (.s, 36), (.c, 34), (.l, 37), (.p, 38), (.p, 39), (.p, 40)] (by kernel_rfl) (by kernel_rfl) (by kernel_rfl) (by kernel_rfl) (by kernel_rfl) ?_
  dsimp only [inOrder, nthOp]
  replace hw := hw.drew
  replace f133 := f133.d
  replace f133_1 := f133_1.d
  replace f126 := f126.d
  replace f126_1 := f126_1.d
  replace f123 := f123.d
  replace f123_1 := f123_1.d
  replace f_3 := f_3.d
  replace f85 := f85.d
  replace f85_1 := f85_1.d
  replace f79 := f79.d
  replace f79_1 := f79_1.d
  replace f68 := f68.d
  replace f65 := f65.d
  replace f65_1 := f65_1.d
  replace f54 := f54.d
  replace f54_1 := f54_1.d
  replace f51 := f51.d
  replace f46 := f46.d
  replace f8 := f8.d
  replace f7 := f7.d
  replace f48 := f48.d
  replace f53 := f53.d
  replace f60_1 := f60_1.d
  replace f60 := f60.d
  replace f67 := f67.d
  replace f74 := f74.d
  replace f80_1 := f80_1.d
  replace f80 := f80.d
  replace f_2 := f_2.d
  replace f121_1 := f121_1.d
  replace f121 := f121.d
  replace f125 := f125.d
  replace f_4 := f_4.d
  replace f := f.d
  refine wl_r (o_loadag Try.isAgg25 Try.sizeOf25 rfl f_4 (by rfl)) ?_
  refine wl_r (o_loadag Try.isAgg25 Try.sizeOf25 rfl f (by rfl)) ?_
  refine wl_call rfl (C_kPlan _ (PlV.mk_ f126.to_RD f126_1.to_RD rfl rfl (by omega) (by omega)) (PlV.mk_ f133.to_RD f133_1.to_RD rfl rfl (by omega) (by omega)) (by simp; omega) (by simp; omega) (by simp; omega) (by simp; omega)) ?_
  rintro v138 w138 ⟨rfl, b138⟩
  simp only [drew_size] at b138
  have s138 := b138.size
  simp only [drew_size] at s138
  replace hw := hw.trans (b138.mono hw.size)
  replace f := f.u b138
  replace f_4 := f_4.u b138
  replace f125 := f125.u b138
  replace f121 := f121.u b138
  replace f121_1 := f121_1.u b138
  replace f_2 := f_2.u b138
  replace f80 := f80.u b138
  replace f80_1 := f80_1.u b138
  replace f74 := f74.u b138
  replace f67 := f67.u b138
  replace f60 := f60.u b138
  replace f60_1 := f60_1.u b138
  replace f53 := f53.u b138
  replace f48 := f48.u b138
  replace f7 := f7.u b138
  replace f8 := f8.u b138
  replace f46 := f46.u b138
  replace f51 := f51.u b138
  replace f54_1 := f54_1.u b138
  replace f54 := f54.u b138
  replace f65_1 := f65_1.u b138
  replace f65 := f65.u b138
  replace f68 := f68.u b138
  replace f79_1 := f79_1.u b138
  replace f79 := f79.u b138
  replace f85_1 := f85_1.u b138
  replace f85 := f85.u b138
  replace f_3 := f_3.u b138
  replace f123_1 := f123_1.u b138
  replace f123 := f123.u b138
  replace f126_1 := f126_1.u b138
  replace f126 := f126.u b138
  replace f133_1 := f133_1.u b138
  replace f133 := f133.u b138
  refine wl_p (fun _ => o_move rfl) ?_
  refine wl_know 139 true rfl (by simp) ?_
  refine wl_p (fun _ => o_move rfl) ?_
  refine wl_p (fun _ => o_move rfl) ?_
  refine wl_p (fun _ => o_eq rfl rfl) ?_
  refine wl_p (fun _ => o_pick_t rfl rfl) ?_
  refine wl_p (fun _ => o_move rfl) ?_
  refine wl_know 144 true rfl (decide_eq_true (by omega)) ?_
  refine wl_r (o_loadag Try.isAgg25 Try.sizeOf25 rfl f7 (by rfl)) ?_
  refine wl_s (fun _ hk => (o_loadag Try.isAgg25 Try.sizeOf25 rfl (f7.u (below_of_grown_none hk)) (by rfl))) ?_
  refine wl_call rfl (C_Check' _ (PlV.mk_ (hL.u hw) (hM.u hw) rfl rfl (by omega) (by omega)) (by rfl) ⟨by simp only; omega, by simp only; omega⟩) ?_ (hq := .inr fun _ _ h => grown_of_below h.2 _)
  rintro v146 w146 ⟨rfl, b146⟩
  have s146 := b146.size
  replace hw := hw.trans (b146.mono hw.size)
  replace f133 := f133.u b146
  replace f133_1 := f133_1.u b146
  replace f126 := f126.u b146
  replace f126_1 := f126_1.u b146
  replace f123 := f123.u b146
  replace f123_1 := f123_1.u b146
  replace f_3 := f_3.u b146
  replace f85 := f85.u b146
  replace f85_1 := f85_1.u b146
  replace f79 := f79.u b146
  replace f79_1 := f79_1.u b146
  replace f68 := f68.u b146
  replace f65 := f65.u b146
  replace f65_1 := f65_1.u b146
  replace f54 := f54.u b146
  replace f54_1 := f54_1.u b146
  replace f51 := f51.u b146
  replace f46 := f46.u b146
  replace f8 := f8.u b146
  replace f7 := f7.u b146
  replace f48 := f48.u b146
  replace f53 := f53.u b146
  replace f60_1 := f60_1.u b146
  replace f60 := f60.u b146
  replace f67 := f67.u b146
  replace f74 := f74.u b146
  replace f80_1 := f80_1.u b146
  replace f80 := f80.u b146
  replace f_2 := f_2.u b146
  replace f121_1 := f121_1.u b146
  replace f121 := f121.u b146
  replace f125 := f125.u b146
  replace f_4 := f_4.u b146
  replace f := f.u b146
  refine wl_call rfl (C_refCheck _ (PlV.mk_ (hL.u hw) (hM.u hw) rfl rfl (by omega) (by omega)) (by rfl) ⟨by simp only; omega, by simp only; omega⟩) ?_
  rintro v148 w148 ⟨rfl, b148⟩
  have s148 := b148.size
  replace hw := hw.trans (b148.mono hw.size)
  replace f := f.u b148
  replace f_4 := f_4.u b148
  replace f125 := f125.u b148
  replace f121 := f121.u b148
  replace f121_1 := f121_1.u b148
  replace f_2 := f_2.u b148
  replace f80 := f80.u b148
  replace f80_1 := f80_1.u b148
  replace f74 := f74.u b148
  replace f67 := f67.u b148
  replace f60 := f60.u b148
  replace f60_1 := f60_1.u b148
  replace f53 := f53.u b148
  replace f48 := f48.u b148
  replace f7 := f7.u b148
  replace f8 := f8.u b148
  replace f46 := f46.u b148
  replace f51 := f51.u b148
  replace f54_1 := f54_1.u b148
  replace f54 := f54.u b148
  replace f65_1 := f65_1.u b148
  replace f65 := f65.u b148
  replace f68 := f68.u b148
  replace f79_1 := f79_1.u b148
  replace f79 := f79.u b148
  replace f85_1 := f85_1.u b148
  replace f85 := f85.u b148
  replace f_3 := f_3.u b148
  replace f123_1 := f123_1.u b148
  replace f123 := f123.u b148
  replace f126_1 := f126_1.u b148
  replace f126 := f126.u b148
  replace f133_1 := f133_1.u b148
  replace f133 := f133.u b148
  refine wl_p (fun _ => o_eq rfl rfl) ?_
  refine wl_p (fun _ => o_pick_t rfl rfl) ?_
  refine wl_p (fun _ => o_move rfl) ?_
  refine wl_know 151 true rfl (decide_eq_true (by omega)) ?_
  refine wl_r (o_loadag Try.isAgg25 Try.sizeOf25 rfl f7 (by rfl)) ?_
  refine wl_s (fun _ hk => (o_loadag Try.isAgg25 Try.sizeOf25 rfl (f7.u (below_of_grown_none hk)) (by rfl))) ?_
  refine wl_call rfl (C_Depth' _ (PlV.mk_ (hL.u hw) (hM.u hw) rfl rfl (by omega) (by omega)) (by rfl) ⟨by simp only; omega, by simp only; omega⟩) ?_ (hq := .inr fun _ _ h => grown_of_below h.2 _)
  rintro v153 w153 ⟨rfl, b153⟩
  dsimp only
  have s153 := b153.size
  replace hw := hw.trans (b153.mono hw.size)
  replace f133 := f133.u b153
  replace f133_1 := f133_1.u b153
  replace f126 := f126.u b153
  replace f126_1 := f126_1.u b153
  replace f123 := f123.u b153
  replace f123_1 := f123_1.u b153
  replace f_3 := f_3.u b153
  replace f85 := f85.u b153
  replace f85_1 := f85_1.u b153
  replace f79 := f79.u b153
  replace f79_1 := f79_1.u b153
  replace f68 := f68.u b153
  replace f65 := f65.u b153
  replace f65_1 := f65_1.u b153
  replace f54 := f54.u b153
  replace f54_1 := f54_1.u b153
  replace f51 := f51.u b153
  replace f46 := f46.u b153
  replace f8 := f8.u b153
  replace f7 := f7.u b153
  replace f48 := f48.u b153
  replace f53 := f53.u b153
  replace f60_1 := f60_1.u b153
  replace f60 := f60.u b153
  replace f67 := f67.u b153
  replace f74 := f74.u b153
  replace f80_1 := f80_1.u b153
  replace f80 := f80.u b153
  replace f_2 := f_2.u b153
  replace f121_1 := f121_1.u b153
  replace f121 := f121.u b153
  replace f125 := f125.u b153
  replace f_4 := f_4.u b153
  replace f := f.u b153
  refine wl_call rfl (C_refDepth _ (PlV.mk_ (hL.u hw) (hM.u hw) rfl rfl (by omega) (by omega)) (by rfl) ⟨by simp only; omega, by simp only; omega⟩) ?_
  rintro v155 w155 ⟨rfl, b155⟩
  dsimp only
  have s155 := b155.size
  replace hw := hw.trans (b155.mono hw.size)
  replace f := f.u b155
  replace f_4 := f_4.u b155
  replace f125 := f125.u b155
  replace f121 := f121.u b155
  replace f121_1 := f121_1.u b155
  replace f_2 := f_2.u b155
  replace f80 := f80.u b155
  replace f80_1 := f80_1.u b155
  replace f74 := f74.u b155
  replace f67 := f67.u b155
  replace f60 := f60.u b155
  replace f60_1 := f60_1.u b155
  replace f53 := f53.u b155
  replace f48 := f48.u b155
  replace f7 := f7.u b155
  replace f8 := f8.u b155
  replace f46 := f46.u b155
  replace f51 := f51.u b155
  replace f54_1 := f54_1.u b155
  replace f54 := f54.u b155
  replace f65_1 := f65_1.u b155
  replace f65 := f65.u b155
  replace f68 := f68.u b155
  replace f79_1 := f79_1.u b155
  replace f79 := f79.u b155
  replace f85_1 := f85_1.u b155
  replace f85 := f85.u b155
  replace f_3 := f_3.u b155
  replace f123_1 := f123_1.u b155
  replace f123 := f123.u b155
  replace f126_1 := f126_1.u b155
  replace f126 := f126.u b155
  replace f133_1 := f133_1.u b155
  replace f133 := f133.u b155
  refine wl_p (fun _ => o_eq rfl rfl) ?_
  refine wl_p (fun _ => o_pick_t rfl rfl) ?_
  refine wl_p (fun _ => o_move rfl) ?_
  refine wl_know 158 true rfl (decide_eq_true (by omega)) ?_
  refine wl_r (o_loadag Try.isAgg25 Try.sizeOf25 rfl f7 (by rfl)) ?_
  refine wl_p (fun _ => o_move rfl) ?_
  refine wl_s (fun _ hk => (o_loadag Try.isAgg25 Try.sizeOf25 rfl (f7.u (below_of_grown_none hk)) (by rfl))) ?_
  refine wl_p (fun _ => o_move rfl) ?_
  refine wl_call rfl (C_Spares' _ (PlV.mk_ (hL.u hw) (hM.u hw) rfl rfl (by omega) (by omega)) (by rfl) ⟨by simp only; omega, by simp only; omega⟩) ?_ (hq := .inr fun _ _ h => grown_of_below h.2 _)
  rintro v161 w161 ⟨rfl, b161⟩
  dsimp only
  have s161 := b161.size
  replace hw := hw.trans (b161.mono hw.size)
  replace f133 := f133.u b161
  replace f133_1 := f133_1.u b161
  replace f126 := f126.u b161
  replace f126_1 := f126_1.u b161
  replace f123 := f123.u b161
  replace f123_1 := f123_1.u b161
  replace f_3 := f_3.u b161
  replace f85 := f85.u b161
  replace f85_1 := f85_1.u b161
  replace f79 := f79.u b161
  replace f79_1 := f79_1.u b161
  replace f68 := f68.u b161
  replace f65 := f65.u b161
  replace f65_1 := f65_1.u b161
  replace f54 := f54.u b161
  replace f54_1 := f54_1.u b161
  replace f51 := f51.u b161
  replace f46 := f46.u b161
  replace f8 := f8.u b161
  replace f7 := f7.u b161
  replace f48 := f48.u b161
  replace f53 := f53.u b161
  replace f60_1 := f60_1.u b161
  replace f60 := f60.u b161
  replace f67 := f67.u b161
  replace f74 := f74.u b161
  replace f80_1 := f80_1.u b161
  replace f80 := f80.u b161
  replace f_2 := f_2.u b161
  replace f121_1 := f121_1.u b161
  replace f121 := f121.u b161
  replace f125 := f125.u b161
  replace f_4 := f_4.u b161
  replace f := f.u b161
  refine wl_call rfl (C_refSpares _ (PlV.mk_ (hL.u hw) (hM.u hw) rfl rfl (by omega) (by omega)) (by rfl) ⟨by simp only; omega, by simp only; omega⟩) ?_
  rintro v164 w164 ⟨rfl, b164⟩
  dsimp only
  have s164 := b164.size
  replace hw := hw.trans (b164.mono hw.size)
  replace f := f.u b164
  replace f_4 := f_4.u b164
  replace f125 := f125.u b164
  replace f121 := f121.u b164
  replace f121_1 := f121_1.u b164
  replace f_2 := f_2.u b164
  replace f80 := f80.u b164
  replace f80_1 := f80_1.u b164
  replace f74 := f74.u b164
  replace f67 := f67.u b164
  replace f60 := f60.u b164
  replace f60_1 := f60_1.u b164
  replace f53 := f53.u b164
  replace f48 := f48.u b164
  replace f7 := f7.u b164
  replace f8 := f8.u b164
  replace f46 := f46.u b164
  replace f51 := f51.u b164
  replace f54_1 := f54_1.u b164
  replace f54 := f54.u b164
  replace f65_1 := f65_1.u b164
  replace f65 := f65.u b164
  replace f68 := f68.u b164
  replace f79_1 := f79_1.u b164
  replace f79 := f79.u b164
  replace f85_1 := f85_1.u b164
  replace f85 := f85.u b164
  replace f_3 := f_3.u b164
  replace f123_1 := f123_1.u b164
  replace f123 := f123.u b164
  replace f126_1 := f126_1.u b164
  replace f126 := f126.u b164
  replace f133_1 := f133_1.u b164
  replace f133 := f133.u b164
  refine wl_p (fun _ => o_beq (t := 4) Try.underlying4 rfl rfl) ?_
  refine wl_p (fun _ => o_pick_t rfl rfl) ?_
  refine wl_p (fun _ => o_move rfl) ?_
  refine wl_know 167 true rfl (by simp) ?_
  refine wl_r (o_loadag Try.isAgg25 Try.sizeOf25 rfl f7 (by rfl)) ?_
  refine wl_r (o_loadag Try.isAgg25 Try.sizeOf25 rfl f8 (by rfl)) ?_
  refine wl_s (fun _ hk => (o_loadag Try.isAgg25 Try.sizeOf25 rfl (f7.u (below_of_grown_none hk)) (by rfl))) ?_
  refine wl_s (fun _ hk => (o_loadag Try.isAgg25 Try.sizeOf25 rfl (f8.u (below_of_grown_none hk)) (by rfl))) ?_
  refine wl_call rfl (C_Same _ (PlV.mk_ (hL.u hw) (hM.u hw) rfl rfl (by omega) (by omega)) (PlV.mk_ (hL'.u hw) (hM'.u hw) rfl rfl (by omega) (by omega)) ⟨by simp only; omega, by simp only; omega⟩ ⟨by simp only; omega, by simp only; omega⟩) ?_ (hq := .inr fun _ _ h => grown_of_below h.2 _)
  rintro v170 w170 ⟨rfl, b170⟩
  have s170 := b170.size
  replace hw := hw.trans (b170.mono hw.size)
  replace f133 := f133.u b170
  replace f133_1 := f133_1.u b170
  replace f126 := f126.u b170
  replace f126_1 := f126_1.u b170
  replace f123 := f123.u b170
  replace f123_1 := f123_1.u b170
  replace f_3 := f_3.u b170
  replace f85 := f85.u b170
  replace f85_1 := f85_1.u b170
  replace f79 := f79.u b170
  replace f79_1 := f79_1.u b170
  replace f68 := f68.u b170
  replace f65 := f65.u b170
  replace f65_1 := f65_1.u b170
  replace f54 := f54.u b170
  replace f54_1 := f54_1.u b170
  replace f51 := f51.u b170
  replace f46 := f46.u b170
  replace f8 := f8.u b170
  replace f7 := f7.u b170
  replace f48 := f48.u b170
  replace f53 := f53.u b170
  replace f60_1 := f60_1.u b170
  replace f60 := f60.u b170
  replace f67 := f67.u b170
  replace f74 := f74.u b170
  replace f80_1 := f80_1.u b170
  replace f80 := f80.u b170
  replace f_2 := f_2.u b170
  replace f121_1 := f121_1.u b170
  replace f121 := f121.u b170
  replace f125 := f125.u b170
  replace f_4 := f_4.u b170
  replace f := f.u b170
  refine wl_call rfl (C_kPlan _ (PlV.mk_ (hL.u hw) (hM.u hw) rfl rfl (by omega) (by omega)) (PlV.mk_ (hL'.u hw) (hM'.u hw) rfl rfl (by omega) (by omega)) (by simp; omega) (by simp; omega) (by simp; omega) (by simp; omega)) ?_
  rintro v173 w173 ⟨rfl, b173⟩
  have s173 := b173.size
  replace hw := hw.trans (b173.mono hw.size)
  replace f := f.u b173
  replace f_4 := f_4.u b173
  replace f125 := f125.u b173
  replace f121 := f121.u b173
  replace f121_1 := f121_1.u b173
  replace f_2 := f_2.u b173
  replace f80 := f80.u b173
  replace f80_1 := f80_1.u b173
  replace f74 := f74.u b173
  replace f67 := f67.u b173
  replace f60 := f60.u b173
  replace f60_1 := f60_1.u b173
  replace f53 := f53.u b173
  replace f48 := f48.u b173
  replace f7 := f7.u b173
  replace f8 := f8.u b173
  replace f46 := f46.u b173
  replace f51 := f51.u b173
  replace f54_1 := f54_1.u b173
  replace f54 := f54.u b173
  replace f65_1 := f65_1.u b173
  replace f65 := f65.u b173
  replace f68 := f68.u b173
  replace f79_1 := f79_1.u b173
  replace f79 := f79.u b173
  replace f85_1 := f85_1.u b173
  replace f85 := f85.u b173
  replace f_3 := f_3.u b173
  replace f123_1 := f123_1.u b173
  replace f123 := f123.u b173
  replace f126_1 := f126_1.u b173
  replace f126 := f126.u b173
  replace f133_1 := f133_1.u b173
  replace f133 := f133.u b173
  refine wl_p (fun _ => o_beq (t := 4) Try.underlying4 rfl rfl) ?_
  refine wl_p (fun _ => o_pick_t rfl rfl) ?_
  refine wl_p (fun _ => o_assign rfl) ?_
  refine wl_nild ?_
  refine ret1 rfl rfl ?_
  exact ⟨by simp, hw⟩
end Go.Proofs.Ytbncaabcddoicaa
