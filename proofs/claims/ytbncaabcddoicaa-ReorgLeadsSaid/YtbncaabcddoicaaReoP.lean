/-
  The walk of ReorgLeads.
-/
import Derived.Test.YtbncaabcddoicaaReoN
namespace Go.Proofs.Ytbncaabcddoicaa
open Go.RowKit

set_option maxHeartbeats 1000000 in
theorem C_ReorgLeads (w : World) (A : Option Addr) (c : Nat) (xs : List Int) (hr0 : Reads w 1 A xs.length (xs.map (Value.int .i64))) (_hc0 : xs.length ≤ c) (_hm0 : c ≤ maxLen) (hz0 : ∀ n ∈ xs, (Lit.int .i64 n).wf = true)
    (A1 : Option Addr) (c1 : Nat) (ys : List Int) (hr1 : Reads w 1 A1 ys.length (ys.map (Value.int .i64))) (_hc1 : ys.length ≤ c1) (_hm1 : c1 ≤ maxLen) (hz1 : ∀ n ∈ ys, (Lit.int .i64 n).wf = true)
    (A2 : Option Addr) (c2 : Nat) (zs : List Int) (hr2 : Reads w 1 A2 zs.length (zs.map (Value.int .i64))) (_hc2 : zs.length ≤ c2) (_hm2 : c2 ≤ maxLen) (hz2 : ∀ n ∈ zs, (Lit.int .i64 n).wf = true) :
    CallsR Try.prog 5 [.slice A xs.length c, .slice A1 ys.length c1, .slice A2 zs.length c2] w fun v w' => v = .bool true ∧ Below w.heap.size w w' := by
  have hrx : RZ w A xs := hr0
  have hry : RZ w A1 ys := hr1
  have hrz : RZ w A2 zs := hr2
  refine callsR Try.func5 rfl rfl (by kernel_rfl) rfl ?_
  have hw := Below.refl w.heap.size w
  refine rk_seq ?_
  refine rk_region ?_
  refine wl_p (fun _ => o_assign rfl) ?_
  refine wl_nil ?_
  refine rk_seq ?_
  refine rk_seq ?_
  refine rk_region ?_
  refine wl_call rfl (C_lives _) ?_
  rintro v23 w23 ⟨rfl, b23⟩
  have s23 := b23.size
  replace hw := hw.trans (b23.mono hw.size)
  refine wl_p (fun _ => o_not rfl) ?_
  refine wl_nil ?_
  refine rk_false rfl ?_
  refine rk_skip ?_
  refine rk_seq ?_
  refine rk_seq ?_
  refine rk_region ?_
  refine wl_p (fun _ => o_move rfl) ?_
  refine wl_p (fun _ => o_len (t := 22) Try.underlying22 rfl) ?_
  refine wl_p (fun _ => o_gt rfl rfl) ?_
  refine wl_p (fun _ => o_move rfl) ?_
  refine wl_bool 28 rfl (fun h28 => ?_) (fun h28 => ?_) <;> try simp only [decide_eq_true_eq, decide_eq_false_iff_not, Bool.not_eq_true', Bool.not_eq_false', Bool.and_eq_true, Bool.and_eq_false_iff, Bool.or_eq_true, Bool.or_eq_false_iff] at h28
  · refine wl_off ?_
    refine wl_off ?_
    refine wl_off ?_
    refine wl_p (fun _ => o_pick_t rfl rfl) ?_
    refine wl_p (fun _ => o_move rfl) ?_
    refine wl_off ?_
    refine wl_off ?_
    refine wl_off ?_
    refine wl_p (fun _ => o_pick_t rfl rfl) ?_
    refine wl_nil ?_
    refine rk_true rfl ?_
    refine rk_seq ?_
    refine rk_region ?_
    refine wl_p (fun _ => o_assign rfl) ?_
    refine wl_nil ?_
    refine ret1 rfl rfl ?_
    exact ⟨rfl, hw⟩
  refine wl_p (fun _ => o_move rfl) ?_
  refine wl_p (fun _ => o_len (t := 22) Try.underlying22 rfl) ?_
  refine wl_p (fun _ => o_gt rfl rfl) ?_
  refine wl_p (fun _ => o_pick_f rfl rfl) ?_
  refine wl_p (fun _ => o_move rfl) ?_
  refine wl_bool 33 rfl (fun h33 => ?_) (fun h33 => ?_) <;> try simp only [decide_eq_true_eq, decide_eq_false_iff_not, Bool.not_eq_true', Bool.not_eq_false', Bool.and_eq_true, Bool.and_eq_false_iff, Bool.or_eq_true, Bool.or_eq_false_iff] at h33
  · refine wl_off ?_
    refine wl_off ?_
    refine wl_off ?_
    refine wl_p (fun _ => o_pick_t rfl rfl) ?_
    refine wl_nil ?_
    refine rk_true rfl ?_
    refine rk_seq ?_
    refine rk_region ?_
    refine wl_p (fun _ => o_assign rfl) ?_
    refine wl_nil ?_
    refine ret1 rfl rfl ?_
    exact ⟨rfl, hw⟩
  refine wl_p (fun _ => o_move rfl) ?_
  refine wl_p (fun _ => o_len (t := 22) Try.underlying22 rfl) ?_
  refine wl_p (fun _ => o_gt rfl rfl) ?_
  refine wl_p (fun _ => o_pick_f rfl rfl) ?_
  refine wl_nil ?_
  refine rk_if rfl (fun h37 => ?_) (fun h37 => ?_)
  · refine rk_seq ?_
    refine rk_region ?_
    refine wl_p (fun _ => o_assign rfl) ?_
    refine wl_nil ?_
    refine ret1 rfl rfl ?_
    exact ⟨rfl, hw⟩
  have hla := lonce_len xs
  have hlb := lonce_len ys
  have hlc := lonce_len zs
  obtain ⟨a, ea⟩ : ∃ a, (lonce xs).map nm = a := ⟨_, rfl⟩
  obtain ⟨b, eb⟩ : ∃ b, (lonce ys).map nm = b := ⟨_, rfl⟩
  obtain ⟨c0, ec⟩ : ∃ b, (lonce zs).map nm = b := ⟨_, rfl⟩
  have ua : uniq a = true := by rw [← ea]; exact once_uniq xs
  have ub : uniq b = true := by rw [← eb]; exact once_uniq ys
  have uc : uniq c0 = true := by rw [← ec]; exact once_uniq zs
  have la : a.length ≤ 40 := by rw [← ea, List.length_map]; omega
  have lb : b.length ≤ 40 := by rw [← eb, List.length_map]; omega
  have lc : c0.length ≤ 40 := by rw [← ec, List.length_map]; omega
  have pab := from_eq ua ub
  have pbc := from_eq ub uc
  have pac := from_eq ua uc
  have cab : pCheck ⟨(common a b : Nat), a.drop (common a b), b.drop (common a b)⟩ = 0 := by simp [pCheck, from_ok ua ub]
  have lab := from_leads ua ub
  have lba := from_leads ub ua
  have lac := from_leads ua uc
  have bab := from_back ua ub
  have tabc := from_then ua ub uc
  have k1 := common_le a b
  have k2 := common_le b c0
  have k3 := common_le a c0
  have k4 := common_le b a
  refine rk_skip ?_
  refine rk_seq ?_
  refine rk_region ?_
  refine wl_p (fun _ => o_move rfl) ?_
  refine wl_call rfl (C_once _ _ (hrx.u hw) rfl (by omega) (by omega)) ?_
  rintro v39 w39 ⟨A39, ⟨c39, ⟨rfl, ⟨f39, b39⟩⟩⟩⟩
  have qf39 := f39.cap
  have s39 := b39.size
  replace hw := hw.trans (b39.mono hw.size)
  refine wl_call rfl (C_names' _ f39.to_RZ ea rfl (by omega)) ?_
  rintro v40 w40 ⟨A40, ⟨c40, ⟨rfl, ⟨f40, b40⟩⟩⟩⟩
  replace f40 := f40.h_
  have qf40 := f40.cap
  have s40 := b40.size
  replace hw := hw.trans (b40.mono hw.size)
  replace f39 := f39.u b40
  refine wl_p (fun _ => o_move rfl) ?_
  refine wl_call rfl (C_once _ _ (hry.u hw) rfl (by omega) (by omega)) ?_
  rintro v42 w42 ⟨A42, ⟨c42, ⟨rfl, ⟨f42, b42⟩⟩⟩⟩
  have qf42 := f42.cap
  have s42 := b42.size
  replace hw := hw.trans (b42.mono hw.size)
  replace f39 := f39.u b42
  replace f40 := f40.u b42
  refine wl_call rfl (C_names' _ f42.to_RZ eb rfl (by omega)) ?_
  rintro v43 w43 ⟨A43, ⟨c43, ⟨rfl, ⟨f43, b43⟩⟩⟩⟩
  replace f43 := f43.h_
  have qf43 := f43.cap
  have s43 := b43.size
  replace hw := hw.trans (b43.mono hw.size)
  replace f40 := f40.u b43
  replace f39 := f39.u b43
  replace f42 := f42.u b43
  refine wl_p (fun _ => o_move rfl) ?_
  refine wl_call rfl (C_once _ _ (hrz.u hw) rfl (by omega) (by omega)) ?_
  rintro v45 w45 ⟨A45, ⟨c45, ⟨rfl, ⟨f45, b45⟩⟩⟩⟩
  have qf45 := f45.cap
  have s45 := b45.size
  replace hw := hw.trans (b45.mono hw.size)
  replace f42 := f42.u b45
  replace f39 := f39.u b45
  replace f40 := f40.u b45
  replace f43 := f43.u b45
  refine wl_call rfl (C_names' _ f45.to_RZ ec rfl (by omega)) ?_
  rintro v46 w46 ⟨A46, ⟨c46, ⟨rfl, ⟨f46, b46⟩⟩⟩⟩
  replace f46 := f46.h_
  have qf46 := f46.cap
  have s46 := b46.size
  replace hw := hw.trans (b46.mono hw.size)
  replace f43 := f43.u b46
  replace f40 := f40.u b46
  replace f39 := f39.u b46
  replace f42 := f42.u b46
  replace f45 := f45.u b46
  refine wl_p (fun _ => o_assign rfl) ?_
  refine wl_p (fun _ => o_assign rfl) ?_
  refine wl_p (fun _ => o_assign rfl) ?_
  refine wl_nil ?_
  refine rk_seq ?_
  refine rk_region ?_
  refine wl_p (fun _ => o_move rfl) ?_
  refine wl_p (fun _ => o_move rfl) ?_
  refine wl_call rfl (C_From' _ f40.to_RD f43.to_RD pab rfl rfl (by omega) (by omega) (by omega) (by omega)) ?_
  rintro v50 w50 ⟨u50, ⟨rfl, ⟨⟨A50, ⟨c50, ⟨A50_1, ⟨c50_1, ⟨rfl, ⟨f50, f50_1⟩⟩⟩⟩⟩⟩, b50⟩⟩⟩
  dsimp only at f50
  dsimp only at f50_1
  dsimp only
  replace f50 := f50.h_
  have qf50 := f50.cap
  replace f50_1 := f50_1.h_
  have qf50_1 := f50_1.cap
  have s50 := b50.size
  replace hw := hw.trans (b50.mono hw.size)
  replace f45 := f45.u b50
  replace f42 := f42.u b50
  replace f39 := f39.u b50
  replace f40 := f40.u b50
  replace f43 := f43.u b50
  replace f46 := f46.u b50
  refine wl_p (fun _ => o_move rfl) ?_
  refine wl_p (fun _ => o_ext20 rfl) ?_
  refine wl_p (fun _ => o_ext21 rfl) ?_
  refine wl_allocg [_, _, _] Try.zeroValue25 (by rfl) ?_
  rintro g10 w10 f10 b10 i10 i10_1
  have s10 := b10.size
  replace hw := hw.trans (b10.mono hw.size)
  replace f46 := f46.u b10
  replace f43 := f43.u b10
  replace f40 := f40.u b10
  replace f39 := f39.u b10
  replace f42 := f42.u b10
  replace f45 := f45.u b10
  replace f50_1 := f50_1.u b10
  replace f50 := f50.u b10
  refine wl_storega Try.sizeOf25 rfl rfl (by rfl) (oneCell_of (by rfl)) f10 (by rfl) ?_
  rintro w_1 f g e
  have s := g.size
  replace hw := hw.trans (below_of_grownBy g.g hw.size (by omega))
  replace f50 := f50.k g.g (ap_some (by omega))
  replace f50_1 := f50_1.k g.g (ap_some (by omega))
  replace f45 := f45.k g.g (ap_some (by omega))
  replace f42 := f42.k g.g (ap_some (by omega))
  replace f39 := f39.k g.g (ap_some (by omega))
  replace f40 := f40.k g.g (ap_some (by omega))
  replace f43 := f43.k g.g (ap_some (by omega))
  replace f46 := f46.k g.g (ap_some (by omega))
  clear f10
  refine wl_p (fun _ => o_assign rfl) ?_
  refine wl_nil ?_
  refine rk_seq ?_
  refine rk_region ?_
  refine wl_p (fun _ => o_move rfl) ?_
  refine wl_p (fun _ => o_move rfl) ?_
  refine wl_call rfl (C_From' _ f43.to_RD f46.to_RD pbc rfl rfl (by omega) (by omega) (by omega) (by omega)) ?_
  rintro v56 w56 ⟨u56, ⟨rfl, ⟨⟨A56, ⟨c56, ⟨A56_1, ⟨c56_1, ⟨rfl, ⟨f56, f56_1⟩⟩⟩⟩⟩⟩, b56⟩⟩⟩
  dsimp only at f56
  dsimp only at f56_1
  dsimp only
  replace f56 := f56.h_
  have qf56 := f56.cap
  replace f56_1 := f56_1.h_
  have qf56_1 := f56_1.cap
  have s56 := b56.size
  replace hw := hw.trans (b56.mono hw.size)
  replace f46 := f46.u b56
  replace f43 := f43.u b56
  replace f40 := f40.u b56
  replace f39 := f39.u b56
  replace f42 := f42.u b56
  replace f45 := f45.u b56
  replace f50_1 := f50_1.u b56
  replace f50 := f50.u b56
  replace f := f.u b56
  refine wl_p (fun _ => o_move rfl) ?_
  refine wl_p (fun _ => o_ext20 rfl) ?_
  refine wl_p (fun _ => o_ext21 rfl) ?_
  refine wl_allocg [_, _, _] Try.zeroValue25 (by rfl) ?_
  rintro g12 w12 f12 b12 i12 i12_1
  have s12 := b12.size
  replace hw := hw.trans (b12.mono hw.size)
  replace f := f.u b12
  replace f50 := f50.u b12
  replace f50_1 := f50_1.u b12
  replace f45 := f45.u b12
  replace f42 := f42.u b12
  replace f39 := f39.u b12
  replace f40 := f40.u b12
  replace f43 := f43.u b12
  replace f46 := f46.u b12
  replace f56_1 := f56_1.u b12
  replace f56 := f56.u b12
  refine wl_storega Try.sizeOf25 rfl rfl (by rfl) (oneCell_of (by rfl)) f12 (by rfl) ?_
  rintro w_2 f_1 g_1 e_1
  have s_1 := g_1.size
  replace hw := hw.trans (below_of_grownBy g_1.g hw.size (by omega))
  replace f56 := f56.k g_1.g (ap_some (by omega))
  replace f56_1 := f56_1.k g_1.g (ap_some (by omega))
  replace f46 := f46.k g_1.g (ap_some (by omega))
  replace f43 := f43.k g_1.g (ap_some (by omega))
  replace f40 := f40.k g_1.g (ap_some (by omega))
  replace f39 := f39.k g_1.g (ap_some (by omega))
  replace f42 := f42.k g_1.g (ap_some (by omega))
  replace f45 := f45.k g_1.g (ap_some (by omega))
  replace f50_1 := f50_1.k g_1.g (ap_some (by omega))
  replace f50 := f50.k g_1.g (ap_some (by omega))
  replace f := f.k g_1.g (ap_some (by omega))
  clear f12
  refine wl_p (fun _ => o_assign rfl) ?_
  refine wl_nil ?_
  refine rk_seq ?_
  refine rk_region ?_
  refine wl_p (fun _ => o_move rfl) ?_
  refine wl_p (fun _ => o_move rfl) ?_
  refine wl_call rfl (C_From' _ f40.to_RD f46.to_RD pac rfl rfl (by omega) (by omega) (by omega) (by omega)) ?_
  rintro v62 w62 ⟨u62, ⟨rfl, ⟨⟨A62, ⟨c62, ⟨A62_1, ⟨c62_1, ⟨rfl, ⟨f62, f62_1⟩⟩⟩⟩⟩⟩, b62⟩⟩⟩
  dsimp only at f62
  dsimp only at f62_1
  dsimp only
  replace f62 := f62.h_
  have qf62 := f62.cap
  replace f62_1 := f62_1.h_
  have qf62_1 := f62_1.cap
  have s62 := b62.size
  replace hw := hw.trans (b62.mono hw.size)
  replace f := f.u b62
  replace f50 := f50.u b62
  replace f50_1 := f50_1.u b62
  replace f45 := f45.u b62
  replace f42 := f42.u b62
  replace f39 := f39.u b62
  replace f40 := f40.u b62
  replace f43 := f43.u b62
  replace f46 := f46.u b62
  replace f56_1 := f56_1.u b62
  replace f56 := f56.u b62
  replace f_1 := f_1.u b62
  refine wl_p (fun _ => o_move rfl) ?_
  refine wl_p (fun _ => o_ext20 rfl) ?_
  refine wl_p (fun _ => o_ext21 rfl) ?_
  refine wl_allocg [_, _, _] Try.zeroValue25 (by rfl) ?_
  rintro g14 w14 f14 b14 i14 i14_1
  have s14 := b14.size
  replace hw := hw.trans (b14.mono hw.size)
  replace f_1 := f_1.u b14
  replace f56 := f56.u b14
  replace f56_1 := f56_1.u b14
  replace f46 := f46.u b14
  replace f43 := f43.u b14
  replace f40 := f40.u b14
  replace f39 := f39.u b14
  replace f42 := f42.u b14
  replace f45 := f45.u b14
  replace f50_1 := f50_1.u b14
  replace f50 := f50.u b14
  replace f := f.u b14
  replace f62_1 := f62_1.u b14
  replace f62 := f62.u b14
  refine wl_storega Try.sizeOf25 rfl rfl (by rfl) (oneCell_of (by rfl)) f14 (by rfl) ?_
  rintro w_3 f_2 g_2 e_2
  have s_2 := g_2.size
  replace hw := hw.trans (below_of_grownBy g_2.g hw.size (by omega))
  replace f62 := f62.k g_2.g (ap_some (by omega))
  replace f62_1 := f62_1.k g_2.g (ap_some (by omega))
  replace f := f.k g_2.g (ap_some (by omega))
  replace f50 := f50.k g_2.g (ap_some (by omega))
  replace f50_1 := f50_1.k g_2.g (ap_some (by omega))
  replace f45 := f45.k g_2.g (ap_some (by omega))
  replace f42 := f42.k g_2.g (ap_some (by omega))
  replace f39 := f39.k g_2.g (ap_some (by omega))
  replace f40 := f40.k g_2.g (ap_some (by omega))
  replace f43 := f43.k g_2.g (ap_some (by omega))
  replace f46 := f46.k g_2.g (ap_some (by omega))
  replace f56_1 := f56_1.k g_2.g (ap_some (by omega))
  replace f56 := f56.k g_2.g (ap_some (by omega))
  replace f_1 := f_1.k g_2.g (ap_some (by omega))
  clear f14
  refine wl_p (fun _ => o_assign rfl) ?_
  refine wl_nil ?_
  refine rk_seq ?_
  refine rk_seq ?_
  refine rk_region ?_
  refine wl_p (fun _ => o_move rfl) ?_
  refine wl_p (fun _ => o_ne rfl rfl) ?_
  refine wl_p (fun _ => o_move rfl) ?_
  refine wl_p (fun _ => o_move rfl) ?_
  refine wl_p (fun _ => o_ne rfl rfl) ?_
  refine wl_p (fun _ => o_pick_f rfl rfl) ?_
  refine wl_p (fun _ => o_move rfl) ?_
  refine wl_p (fun _ => o_move rfl) ?_
  refine wl_p (fun _ => o_ne rfl rfl) ?_
  refine wl_p (fun _ => o_pick_f rfl rfl) ?_
  refine wl_p (fun _ => o_move rfl) ?_
  refine wl_r (o_loadag Try.isAgg25 Try.sizeOf25 rfl f (by rfl)) ?_
  refine wl_call rfl (C_Check' _ (PlV.mk_ f50.to_RD f50_1.to_RD rfl rfl (by omega) (by omega)) cab ⟨by simp; omega, by simp; omega⟩) ?_
  rintro v77 w77 ⟨rfl, b77⟩
  have s77 := b77.size
  replace hw := hw.trans (b77.mono hw.size)
  replace f_1 := f_1.u b77
  replace f56 := f56.u b77
  replace f56_1 := f56_1.u b77
  replace f46 := f46.u b77
  replace f43 := f43.u b77
  replace f40 := f40.u b77
  replace f39 := f39.u b77
  replace f42 := f42.u b77
  replace f45 := f45.u b77
  replace f50_1 := f50_1.u b77
  replace f50 := f50.u b77
  replace f := f.u b77
  replace f62_1 := f62_1.u b77
  replace f62 := f62.u b77
  replace f_2 := f_2.u b77
  refine wl_p (fun _ => o_ne rfl rfl) ?_
  refine wl_p (fun _ => o_pick_f rfl rfl) ?_
  refine wl_nil ?_
  refine rk_false rfl ?_
  refine rk_skip ?_
  refine rk_seq ?_
  refine rk_draw (id := 11) (none) [0, 0, 2, 5, 8, 16, 16, 63, 255] [0, 0, 2, 7, 15, 31, 31, 63, 255] 12 4 [(.s, 0), (.p, 1), (.c, 2), (.l, 3), (.p, 4), (.p, 5), (.p, 6), (.p, 7), (.p, 8)] (by kernel_rfl) (by kernel_rfl) (by kernel_rfl) (by kernel_rfl) (by kernel_rfl) ?_
  replace hw := hw.drew
  replace f_2 := f_2.d
  replace f62 := f62.d
  replace f62_1 := f62_1.d
  replace f := f.d
  replace f50 := f50.d
  replace f50_1 := f50_1.d
  replace f45 := f45.d
  replace f42 := f42.d
  replace f39 := f39.d
  replace f40 := f40.d
  replace f43 := f43.d
  replace f46 := f46.d
  replace f56_1 := f56_1.d
  replace f56 := f56.d
  replace f_1 := f_1.d
  refine wl_s (fun _ hk => (o_loadag Try.isAgg25 Try.sizeOf25 rfl (f.u (below_of_grown_none hk)) (by rfl))) ?_
  refine wl_p (fun _ => o_move rfl) ?_
  refine wl_call rfl (C_Names _ rfl _ f40.to_RD (by omega)) ?_ (hq := .inr fun _ _ h => grown_of_below h.choose_spec.choose_spec.2.2 _)
  rintro v83 w83 ⟨A83, ⟨c83, ⟨rfl, ⟨f83, b83⟩⟩⟩⟩
  simp only [drew_size] at f83
  simp only [drew_size] at b83
  replace f83 := f83.h_
  have qf83 := f83.cap
  have s83 := b83.size
  simp only [drew_size] at s83
  replace hw := hw.trans (b83.mono hw.size)
  replace f_1 := f_1.u b83
  replace f56 := f56.u b83
  replace f56_1 := f56_1.u b83
  replace f46 := f46.u b83
  replace f43 := f43.u b83
  replace f40 := f40.u b83
  replace f39 := f39.u b83
  replace f42 := f42.u b83
  replace f45 := f45.u b83
  replace f50_1 := f50_1.u b83
  replace f50 := f50.u b83
  replace f := f.u b83
  replace f62_1 := f62_1.u b83
  replace f62 := f62.u b83
  replace f_2 := f_2.u b83
  refine wl_call rfl (C_Apply' _ (PlV.mk_ f50.to_RD f50_1.to_RD rfl rfl (by omega) (by omega)) f83.to_RD lab rfl ⟨by simp; omega, by simp; omega⟩ (by omega) (by omega)) ?_
  rintro v84 w84 ⟨A84, ⟨c84, ⟨rfl, ⟨f84, b84⟩⟩⟩⟩
  dsimp only at f84
  dsimp only
  replace f84 := f84.h_
  have qf84 := f84.cap
  have s84 := b84.size
  replace hw := hw.trans (b84.mono hw.size)
  replace f_2 := f_2.u b84
  replace f62 := f62.u b84
  replace f62_1 := f62_1.u b84
  replace f := f.u b84
  replace f50 := f50.u b84
  replace f50_1 := f50_1.u b84
  replace f45 := f45.u b84
  replace f42 := f42.u b84
  replace f39 := f39.u b84
  replace f40 := f40.u b84
  replace f43 := f43.u b84
  replace f46 := f46.u b84
  replace f56_1 := f56_1.u b84
  replace f56 := f56.u b84
  replace f_1 := f_1.u b84
  replace f83 := f83.u b84
  refine wl_p (fun _ => o_move rfl) ?_
  refine wl_p (fun _ => o_ext20 rfl) ?_
  refine wl_p (fun _ => o_ext21 rfl) ?_
  refine wl_p (fun _ => o_assign rfl) ?_
  refine wl_p (fun _ => o_assign rfl) ?_
  refine wl_nild ?_
  refine rk_seq ?_
  refine rk_region ?_
  refine wl_r (o_loadag Try.isAgg25 Try.sizeOf25 rfl f (by rfl)) ?_
  refine wl_call rfl (C_Back' _ (PlV.mk_ f50.to_RD f50_1.to_RD rfl rfl (by omega) (by omega)) bab ⟨by simp; omega, by simp; omega⟩) ?_
  rintro v89 w89 ⟨u89, ⟨rfl, ⟨⟨A89, ⟨c89, ⟨A89_1, ⟨c89_1, ⟨rfl, ⟨f89, f89_1⟩⟩⟩⟩⟩⟩, b89⟩⟩⟩
  dsimp only at f89
  dsimp only at f89_1
  dsimp only
  replace f89 := f89.h_
  have qf89 := f89.cap
  replace f89_1 := f89_1.h_
  have qf89_1 := f89_1.cap
  have s89 := b89.size
  replace hw := hw.trans (b89.mono hw.size)
  replace f83 := f83.u b89
  replace f_1 := f_1.u b89
  replace f56 := f56.u b89
  replace f56_1 := f56_1.u b89
  replace f46 := f46.u b89
  replace f43 := f43.u b89
  replace f40 := f40.u b89
  replace f39 := f39.u b89
  replace f42 := f42.u b89
  replace f45 := f45.u b89
  replace f50_1 := f50_1.u b89
  replace f50 := f50.u b89
  replace f := f.u b89
  replace f62_1 := f62_1.u b89
  replace f62 := f62.u b89
  replace f_2 := f_2.u b89
  replace f84 := f84.u b89
  refine wl_p (fun _ => o_move rfl) ?_
  refine wl_p (fun _ => o_ext20 rfl) ?_
  refine wl_p (fun _ => o_ext21 rfl) ?_
  refine wl_allocg [_, _, _] Try.zeroValue25 (by rfl) ?_
  rintro g17 w17 f17 b17 i17 i17_1
  have s17 := b17.size
  replace hw := hw.trans (b17.mono hw.size)
  replace f84 := f84.u b17
  replace f_2 := f_2.u b17
  replace f62 := f62.u b17
  replace f62_1 := f62_1.u b17
  replace f := f.u b17
  replace f50 := f50.u b17
  replace f50_1 := f50_1.u b17
  replace f45 := f45.u b17
  replace f42 := f42.u b17
  replace f39 := f39.u b17
  replace f40 := f40.u b17
  replace f43 := f43.u b17
  replace f46 := f46.u b17
  replace f56_1 := f56_1.u b17
  replace f56 := f56.u b17
  replace f_1 := f_1.u b17
  replace f83 := f83.u b17
  replace f89_1 := f89_1.u b17
  replace f89 := f89.u b17
  refine wl_storega Try.sizeOf25 rfl rfl (by rfl) (oneCell_of (by rfl)) f17 (by rfl) ?_
  rintro w_4 f_3 g_3 e_3
  have s_3 := g_3.size
  replace hw := hw.trans (below_of_grownBy g_3.g hw.size (by omega))
  replace f89 := f89.k g_3.g (ap_some (by omega))
  replace f89_1 := f89_1.k g_3.g (ap_some (by omega))
  replace f83 := f83.k g_3.g (ap_some (by omega))
  replace f_1 := f_1.k g_3.g (ap_some (by omega))
  replace f56 := f56.k g_3.g (ap_some (by omega))
  replace f56_1 := f56_1.k g_3.g (ap_some (by omega))
  replace f46 := f46.k g_3.g (ap_some (by omega))
  replace f43 := f43.k g_3.g (ap_some (by omega))
  replace f40 := f40.k g_3.g (ap_some (by omega))
  replace f39 := f39.k g_3.g (ap_some (by omega))
  replace f42 := f42.k g_3.g (ap_some (by omega))
  replace f45 := f45.k g_3.g (ap_some (by omega))
  replace f50_1 := f50_1.k g_3.g (ap_some (by omega))
  replace f50 := f50.k g_3.g (ap_some (by omega))
  replace f := f.k g_3.g (ap_some (by omega))
  replace f62_1 := f62_1.k g_3.g (ap_some (by omega))
  replace f62 := f62.k g_3.g (ap_some (by omega))
  replace f_2 := f_2.k g_3.g (ap_some (by omega))
  replace f84 := f84.k g_3.g (ap_some (by omega))
  clear f17
  refine wl_p (fun _ => o_assign rfl) ?_
  refine wl_nil ?_
  refine rk_seq ?_
  refine rk_draw (id := 13) (none) [0, 0, 2, 5, 8, 16, 16, 63, 255] [0, 0, 2, 7, 15, 31, 31, 63, 255] 12 4 [(.s, 0), (.p, 1), (.c, 2), (.l, 3), (.p, 4), (.p, 5), (.p, 6), (.p, 7), (.p, 8)] (by kernel_rfl) (by kernel_rfl) (by kernel_rfl) (by kernel_rfl) (by kernel_rfl) ?_
  replace hw := hw.drew
  replace f84 := f84.d
  replace f_2 := f_2.d
  replace f62 := f62.d
  replace f62_1 := f62_1.d
  replace f := f.d
  replace f50 := f50.d
  replace f50_1 := f50_1.d
  replace f45 := f45.d
  replace f42 := f42.d
  replace f39 := f39.d
  replace f40 := f40.d
  replace f43 := f43.d
  replace f46 := f46.d
  replace f56_1 := f56_1.d
  replace f56 := f56.d
  replace f_1 := f_1.d
  replace f83 := f83.d
  replace f89_1 := f89_1.d
  replace f89 := f89.d
  replace f_3 := f_3.d
  refine wl_s (fun _ hk => (o_loadag Try.isAgg25 Try.sizeOf25 rfl (f_3.u (below_of_grown_none hk)) (by rfl))) ?_
  refine wl_p (fun _ => o_move rfl) ?_
  refine wl_call rfl (C_Names _ rfl _ f43.to_RD (by omega)) ?_ (hq := .inr fun _ _ h => grown_of_below h.choose_spec.choose_spec.2.2 _)
  rintro v95 w95 ⟨A95, ⟨c95, ⟨rfl, ⟨f95, b95⟩⟩⟩⟩
  simp only [drew_size] at f95
  simp only [drew_size] at b95
  replace f95 := f95.h_
  have qf95 := f95.cap
  have s95 := b95.size
  simp only [drew_size] at s95
  replace hw := hw.trans (b95.mono hw.size)
  replace f_3 := f_3.u b95
  replace f89 := f89.u b95
  replace f89_1 := f89_1.u b95
  replace f83 := f83.u b95
  replace f_1 := f_1.u b95
  replace f56 := f56.u b95
  replace f56_1 := f56_1.u b95
  replace f46 := f46.u b95
  replace f43 := f43.u b95
  replace f40 := f40.u b95
  replace f39 := f39.u b95
  replace f42 := f42.u b95
  replace f45 := f45.u b95
  replace f50_1 := f50_1.u b95
  replace f50 := f50.u b95
  replace f := f.u b95
  replace f62_1 := f62_1.u b95
  replace f62 := f62.u b95
  replace f_2 := f_2.u b95
  replace f84 := f84.u b95
  refine wl_call rfl (C_Apply' _ (PlV.mk_ f89.to_RD f89_1.to_RD rfl rfl (by omega) (by omega)) f95.to_RD lba rfl ⟨by simp; omega, by simp; omega⟩ (by omega) (by omega)) ?_
  rintro v96 w96 ⟨A96, ⟨c96, ⟨rfl, ⟨f96, b96⟩⟩⟩⟩
  dsimp only at f96
  dsimp only
  replace f96 := f96.h_
  have qf96 := f96.cap
  have s96 := b96.size
  replace hw := hw.trans (b96.mono hw.size)
  replace f84 := f84.u b96
  replace f_2 := f_2.u b96
  replace f62 := f62.u b96
  replace f62_1 := f62_1.u b96
  replace f := f.u b96
  replace f50 := f50.u b96
  replace f50_1 := f50_1.u b96
  replace f45 := f45.u b96
  replace f42 := f42.u b96
  replace f39 := f39.u b96
  replace f40 := f40.u b96
  replace f43 := f43.u b96
  replace f46 := f46.u b96
  replace f56_1 := f56_1.u b96
  replace f56 := f56.u b96
  replace f_1 := f_1.u b96
  replace f83 := f83.u b96
  replace f89_1 := f89_1.u b96
  replace f89 := f89.u b96
  replace f_3 := f_3.u b96
  replace f95 := f95.u b96
  refine wl_p (fun _ => o_move rfl) ?_
  refine wl_p (fun _ => o_ext20 rfl) ?_
  refine wl_p (fun _ => o_ext21 rfl) ?_
  refine wl_p (fun _ => o_assign rfl) ?_
  refine wl_p (fun _ => o_assign rfl) ?_
  refine wl_nild ?_
  refine rk_seq ?_
  refine rk_drawo (id := 14) (none) [0, 0, 0, 4, 11, 16, 32, 32, 0, 383, 1023] [0, 0, 0, 4, 15, 31, 63, 63, 0, 383, 1023] 792 264 [0, 1, 2] [(.s, 0), (.s, 1), (.p, 2), (.f 7 792 264, 8)] (by kernel_rfl) (by kernel_rfl) (by kernel_rfl) (by kernel_rfl) (by kernel_rfl) ?_
  dsimp only [inOrder, nthOp]
  replace hw := hw.drew
  replace f95 := f95.d
  replace f_3 := f_3.d
  replace f89 := f89.d
  replace f89_1 := f89_1.d
  replace f83 := f83.d
  replace f_1 := f_1.d
  replace f56 := f56.d
  replace f56_1 := f56_1.d
  replace f46 := f46.d
  replace f43 := f43.d
  replace f40 := f40.d
  replace f39 := f39.d
  replace f42 := f42.d
  replace f45 := f45.d
  replace f50_1 := f50_1.d
  replace f50 := f50.d
  replace f := f.d
  replace f62_1 := f62_1.d
  replace f62 := f62.d
  replace f_2 := f_2.d
  replace f84 := f84.d
  replace f96 := f96.d
  refine wl_s (fun _ hk => (o_loadag Try.isAgg25 Try.sizeOf25 rfl (f.u (below_of_grown_none hk)) (by rfl))) ?_
  refine wl_s (fun _ hk => (o_loadag Try.isAgg25 Try.sizeOf25 rfl (f_1.u (below_of_grown_none hk)) (by rfl))) ?_
  refine wl_p (fun _ => o_move rfl) ?_
  refine wl_forkf (m := 7) (L := 792) (C := 264) (n := 8) (k1 := 3) (k2 := 8) (fun fb fr w' => ∃ A5 c5 A6 c6 lo hi g19, fr = [(105, Value.agg #[.int .i64 (common a c0 : Nat), .slice A5 (a.drop (common a c0)).length c5, .slice A6 (c0.drop (common a c0)).length c6]), (106, .int .i64 ((0 : Nat) : Int)), (19, .pointer (some ⟨g19, 0, none⟩))] ++ fb ∧ OwnDH w' lo hi A5 c5 (a.drop (common a c0)) ∧ OwnDH w' lo hi A6 c6 (c0.drop (common a c0)) ∧ Blk w' g19 25 pl0c ∧ w96.heap.size ≤ g19 ∧ Below w96.heap.size w96.drew w') [0, 0, 0, 4, 11, 16, 32, 32, 0, 383, 1023] [0, 0, 0, 4, 15, 31, 63, 63, 0, 383, 1023] [3] [8, 3, 4, 5, 6, 7, 9, 10] [9, 10] [(.f 15 792 264, 7)] [(.c, 3), (.l, 4), (.p, 5), (.p, 6), (.p, 7), (.l, 9), (.p, 10)] [(.l, 9), (.p, 10)] (by kernel_rfl) (by kernel_rfl) (by kernel_rfl) (by kernel_rfl) (by kernel_rfl) ?_ (fun hj => ?_) (fun hj => ?_) <;> dsimp only [inOrder, nthOp]
  · rintro fr w' ⟨A5, c5, A6, c6, lo, hi, g19, rfl, f104, f104b, f19, i19, b19⟩
    first | refine rk_frame (by simp only [List.cons_append, List.nil_append, List.drop_succ_cons, List.drop_zero]; rfl) ?_ | refine wl_frame (by simp only [List.cons_append, List.nil_append, List.drop_succ_cons, List.drop_zero]; rfl) ?_
    have sb19 := b19.size
    simp only [drew_size] at sb19
    replace hw := hw.trans (b19.mono hw.size)
    replace f96 := f96.u b19
    replace f84 := f84.u b19
    replace f_2 := f_2.u b19
    replace f62 := f62.u b19
    replace f62_1 := f62_1.u b19
    replace f := f.u b19
    replace f50 := f50.u b19
    replace f50_1 := f50_1.u b19
    replace f45 := f45.u b19
    replace f42 := f42.u b19
    replace f39 := f39.u b19
    replace f40 := f40.u b19
    replace f43 := f43.u b19
    replace f46 := f46.u b19
    replace f56_1 := f56_1.u b19
    replace f56 := f56.u b19
    replace f_1 := f_1.u b19
    replace f83 := f83.u b19
    replace f89_1 := f89_1.u b19
    replace f89 := f89.u b19
    replace f_3 := f_3.u b19
    replace f95 := f95.u b19
    refine wl_storega Try.sizeOf25 rfl rfl (by rfl) (oneCell_of (by rfl)) f19 (by rfl) ?_
    rintro w_5 f_4 g_4 e_4
    have s_4 := g_4.size
    replace hw := hw.trans (below_of_grownBy g_4.g hw.size (by omega))
    replace f95 := f95.k g_4.g (ap_some (by omega))
    replace f_3 := f_3.k g_4.g (ap_some (by omega))
    replace f89 := f89.k g_4.g (ap_some (by omega))
    replace f89_1 := f89_1.k g_4.g (ap_some (by omega))
    replace f83 := f83.k g_4.g (ap_some (by omega))
    replace f_1 := f_1.k g_4.g (ap_some (by omega))
    replace f56 := f56.k g_4.g (ap_some (by omega))
    replace f56_1 := f56_1.k g_4.g (ap_some (by omega))
    replace f46 := f46.k g_4.g (ap_some (by omega))
    replace f43 := f43.k g_4.g (ap_some (by omega))
    replace f40 := f40.k g_4.g (ap_some (by omega))
    replace f39 := f39.k g_4.g (ap_some (by omega))
    replace f42 := f42.k g_4.g (ap_some (by omega))
    replace f45 := f45.k g_4.g (ap_some (by omega))
    replace f50_1 := f50_1.k g_4.g (ap_some (by omega))
    replace f50 := f50.k g_4.g (ap_some (by omega))
    replace f := f.k g_4.g (ap_some (by omega))
    replace f62_1 := f62_1.k g_4.g (ap_some (by omega))
    replace f62 := f62.k g_4.g (ap_some (by omega))
    replace f_2 := f_2.k g_4.g (ap_some (by omega))
    replace f84 := f84.k g_4.g (ap_some (by omega))
    replace f96 := f96.k g_4.g (ap_some (by omega))
    clear f19
    replace f104b := f104b.y g_4 (by decide)
    replace f104 := f104.y g_4 (by decide)
    refine wl_p (fun _ => o_assign rfl) ?_
    refine wl_nild ?_
    refine rk_seq ?_
    refine rk_draw (id := 15) (none) [0, 0, 2, 5, 8, 16, 16, 63, 255] [0, 0, 2, 7, 15, 31, 31, 63, 255] 12 4 [(.s, 0), (.p, 1), (.c, 2), (.l, 3), (.p, 4), (.p, 5), (.p, 6), (.p, 7), (.p, 8)] (by kernel_rfl) (by kernel_rfl) (by kernel_rfl) (by kernel_rfl) (by kernel_rfl) ?_
    replace hw := hw.drew
    replace f104 := f104.d
    replace f104b := f104b.d
    replace f96 := f96.d
    replace f84 := f84.d
    replace f_2 := f_2.d
    replace f62 := f62.d
    replace f62_1 := f62_1.d
    replace f := f.d
    replace f50 := f50.d
    replace f50_1 := f50_1.d
    replace f45 := f45.d
    replace f42 := f42.d
    replace f39 := f39.d
    replace f40 := f40.d
    replace f43 := f43.d
    replace f46 := f46.d
    replace f56_1 := f56_1.d
    replace f56 := f56.d
    replace f_1 := f_1.d
    replace f83 := f83.d
    replace f89_1 := f89_1.d
    replace f89 := f89.d
    replace f_3 := f_3.d
    replace f95 := f95.d
    replace f_4 := f_4.d
    refine wl_s (fun _ hk => (o_loadag Try.isAgg25 Try.sizeOf25 rfl (f_4.u (below_of_grown_none hk)) (by rfl))) ?_
    refine wl_p (fun _ => o_move rfl) ?_
    refine wl_call rfl (C_Names _ rfl _ f40.to_RD (by omega)) ?_ (hq := .inr fun _ _ h => grown_of_below h.choose_spec.choose_spec.2.2 _)
    rintro v110 w110 ⟨A110, ⟨c110, ⟨rfl, ⟨f110, b110⟩⟩⟩⟩
    simp only [drew_size] at f110
    simp only [drew_size] at b110
    replace f110 := f110.h_
    have qf110 := f110.cap
    have s110 := b110.size
    simp only [drew_size] at s110
    replace hw := hw.trans (b110.mono hw.size)
    replace f_4 := f_4.u b110
    replace f95 := f95.u b110
    replace f_3 := f_3.u b110
    replace f89 := f89.u b110
    replace f89_1 := f89_1.u b110
    replace f83 := f83.u b110
    replace f_1 := f_1.u b110
    replace f56 := f56.u b110
    replace f56_1 := f56_1.u b110
    replace f46 := f46.u b110
    replace f43 := f43.u b110
    replace f40 := f40.u b110
    replace f39 := f39.u b110
    replace f42 := f42.u b110
    replace f45 := f45.u b110
    replace f50_1 := f50_1.u b110
    replace f50 := f50.u b110
    replace f := f.u b110
    replace f62_1 := f62_1.u b110
    replace f62 := f62.u b110
    replace f_2 := f_2.u b110
    replace f84 := f84.u b110
    replace f96 := f96.u b110
    replace f104b := f104b.u b110
    replace f104 := f104.u b110
    refine wl_call rfl (C_Apply' _ (PlV.mk_ f104.to_RD f104b.to_RD rfl rfl f104.cap f104b.cap) f110.to_RD lac rfl ⟨by simp; omega, by simp; omega⟩ (by omega) (by omega)) ?_
    rintro v111 w111 ⟨A111, ⟨c111, ⟨rfl, ⟨f111, b111⟩⟩⟩⟩
    dsimp only at f111
    dsimp only
    replace f111 := f111.h_
    have qf111 := f111.cap
    have s111 := b111.size
    replace hw := hw.trans (b111.mono hw.size)
    replace f104 := f104.u b111
    replace f104b := f104b.u b111
    replace f96 := f96.u b111
    replace f84 := f84.u b111
    replace f_2 := f_2.u b111
    replace f62 := f62.u b111
    replace f62_1 := f62_1.u b111
    replace f := f.u b111
    replace f50 := f50.u b111
    replace f50_1 := f50_1.u b111
    replace f45 := f45.u b111
    replace f42 := f42.u b111
    replace f39 := f39.u b111
    replace f40 := f40.u b111
    replace f43 := f43.u b111
    replace f46 := f46.u b111
    replace f56_1 := f56_1.u b111
    replace f56 := f56.u b111
    replace f_1 := f_1.u b111
    replace f83 := f83.u b111
    replace f89_1 := f89_1.u b111
    replace f89 := f89.u b111
    replace f_3 := f_3.u b111
    replace f95 := f95.u b111
    replace f_4 := f_4.u b111
    replace f110 := f110.u b111
    refine wl_p (fun _ => o_move rfl) ?_
    refine wl_p (fun _ => o_ext20 rfl) ?_
    refine wl_p (fun _ => o_ext21 rfl) ?_
    refine wl_p (fun _ => o_assign rfl) ?_
    refine wl_p (fun _ => o_assign rfl) ?_
    refine wl_nild ?_
    refine rk_seq ?_
    refine rk_region ?_
    refine wl_p (fun _ => o_move rfl) ?_
    refine wl_p (fun _ => o_eq rfl rfl) ?_
    refine wl_p (fun _ => o_move rfl) ?_
    refine wl_p (fun _ => o_move rfl) ?_
    refine wl_p (fun _ => o_eq rfl rfl) ?_
    refine wl_p (fun _ => o_pick_t rfl rfl) ?_
    refine wl_p (fun _ => o_move rfl) ?_
    refine wl_p (fun _ => o_move rfl) ?_
    refine wl_p (fun _ => o_eq rfl rfl) ?_
    refine wl_p (fun _ => o_pick_t rfl rfl) ?_
    refine wl_p (fun _ => o_move rfl) ?_
    refine wl_p (fun _ => o_move rfl) ?_
    refine wl_p (fun _ => o_eq rfl rfl) ?_
    refine wl_p (fun _ => o_pick_t rfl rfl) ?_
    refine wl_p (fun _ => o_move rfl) ?_
    refine wl_p (fun _ => o_move rfl) ?_
    refine wl_p (fun _ => o_eq rfl rfl) ?_
    refine wl_p (fun _ => o_pick_t rfl rfl) ?_
    refine wl_p (fun _ => o_move rfl) ?_
    refine wl_p (fun _ => o_move rfl) ?_
    refine wl_p (fun _ => o_move rfl) ?_
    refine wl_call rfl (C_Digests _ _ rfl rfl _ f84.to_RD f43.to_RD (by omega) (by omega)) ?_
    rintro v135 w135 ⟨rfl, b135⟩
    have s135 := b135.size
    replace hw := hw.trans (b135.mono hw.size)
    replace f110 := f110.u b135
    replace f_4 := f_4.u b135
    replace f95 := f95.u b135
    replace f_3 := f_3.u b135
    replace f89 := f89.u b135
    replace f89_1 := f89_1.u b135
    replace f83 := f83.u b135
    replace f_1 := f_1.u b135
    replace f56 := f56.u b135
    replace f56_1 := f56_1.u b135
    replace f46 := f46.u b135
    replace f43 := f43.u b135
    replace f40 := f40.u b135
    replace f39 := f39.u b135
    replace f42 := f42.u b135
    replace f45 := f45.u b135
    replace f50_1 := f50_1.u b135
    replace f50 := f50.u b135
    replace f := f.u b135
    replace f62_1 := f62_1.u b135
    replace f62 := f62.u b135
    replace f_2 := f_2.u b135
    replace f84 := f84.u b135
    replace f96 := f96.u b135
    replace f104b := f104b.u b135
    replace f104 := f104.u b135
    replace f111 := f111.u b135
    refine wl_p (fun _ => o_pick_t rfl rfl) ?_
    refine wl_p (fun _ => o_move rfl) ?_
    refine wl_know 137 true rfl (by simp) ?_
    refine wl_p (fun _ => o_move rfl) ?_
    refine wl_p (fun _ => o_move rfl) ?_
    refine wl_call rfl (C_Digests _ _ rfl rfl _ f96.to_RD f40.to_RD (by omega) (by omega)) ?_
    rintro v140 w140 ⟨rfl, b140⟩
    have s140 := b140.size
    replace hw := hw.trans (b140.mono hw.size)
    replace f111 := f111.u b140
    replace f104 := f104.u b140
    replace f104b := f104b.u b140
    replace f96 := f96.u b140
    replace f84 := f84.u b140
    replace f_2 := f_2.u b140
    replace f62 := f62.u b140
    replace f62_1 := f62_1.u b140
    replace f := f.u b140
    replace f50 := f50.u b140
    replace f50_1 := f50_1.u b140
    replace f45 := f45.u b140
    replace f42 := f42.u b140
    replace f39 := f39.u b140
    replace f40 := f40.u b140
    replace f43 := f43.u b140
    replace f46 := f46.u b140
    replace f56_1 := f56_1.u b140
    replace f56 := f56.u b140
    replace f_1 := f_1.u b140
    replace f83 := f83.u b140
    replace f89_1 := f89_1.u b140
    replace f89 := f89.u b140
    replace f_3 := f_3.u b140
    replace f95 := f95.u b140
    replace f_4 := f_4.u b140
    replace f110 := f110.u b140
    refine wl_p (fun _ => o_pick_t rfl rfl) ?_
    refine wl_p (fun _ => o_move rfl) ?_
    refine wl_know 142 true rfl (by simp) ?_
    refine wl_r (o_loadag Try.isAgg25 Try.sizeOf25 rfl f_4 (by rfl)) ?_
    refine wl_r (o_loadag Try.isAgg25 Try.sizeOf25 rfl f_2 (by rfl)) ?_
    refine wl_call rfl (C_kPlan _ (PlV.mk_ f104.to_RD f104b.to_RD rfl rfl f104.cap f104b.cap) (PlV.mk_ f62.to_RD f62_1.to_RD rfl rfl (by omega) (by omega)) (by simp; omega) (by simp; omega) (by simp; omega) (by simp; omega)) ?_
    rintro v145 w145 ⟨rfl, b145⟩
    have s145 := b145.size
    replace hw := hw.trans (b145.mono hw.size)
    replace f110 := f110.u b145
    replace f_4 := f_4.u b145
    replace f95 := f95.u b145
    replace f_3 := f_3.u b145
    replace f89 := f89.u b145
    replace f89_1 := f89_1.u b145
    replace f83 := f83.u b145
    replace f_1 := f_1.u b145
    replace f56 := f56.u b145
    replace f56_1 := f56_1.u b145
    replace f46 := f46.u b145
    replace f43 := f43.u b145
    replace f40 := f40.u b145
    replace f39 := f39.u b145
    replace f42 := f42.u b145
    replace f45 := f45.u b145
    replace f50_1 := f50_1.u b145
    replace f50 := f50.u b145
    replace f := f.u b145
    replace f62_1 := f62_1.u b145
    replace f62 := f62.u b145
    replace f_2 := f_2.u b145
    replace f84 := f84.u b145
    replace f96 := f96.u b145
    replace f104b := f104b.u b145
    replace f104 := f104.u b145
    replace f111 := f111.u b145
    refine wl_p (fun _ => o_pick_t rfl rfl) ?_
    refine wl_p (fun _ => o_move rfl) ?_
    refine wl_know 147 true rfl (by simp) ?_
    refine wl_p (fun _ => o_move rfl) ?_
    refine wl_p (fun _ => o_move rfl) ?_
    refine wl_call rfl (C_Digests _ _ rfl rfl _ f111.to_RD f46.to_RD (by omega) (by omega)) ?_
    rintro v150 w150 ⟨rfl, b150⟩
    have s150 := b150.size
    replace hw := hw.trans (b150.mono hw.size)
    replace f111 := f111.u b150
    replace f104 := f104.u b150
    replace f104b := f104b.u b150
    replace f96 := f96.u b150
    replace f84 := f84.u b150
    replace f_2 := f_2.u b150
    replace f62 := f62.u b150
    replace f62_1 := f62_1.u b150
    replace f := f.u b150
    replace f50 := f50.u b150
    replace f50_1 := f50_1.u b150
    replace f45 := f45.u b150
    replace f42 := f42.u b150
    replace f39 := f39.u b150
    replace f40 := f40.u b150
    replace f43 := f43.u b150
    replace f46 := f46.u b150
    replace f56_1 := f56_1.u b150
    replace f56 := f56.u b150
    replace f_1 := f_1.u b150
    replace f83 := f83.u b150
    replace f89_1 := f89_1.u b150
    replace f89 := f89.u b150
    replace f_3 := f_3.u b150
    replace f95 := f95.u b150
    replace f_4 := f_4.u b150
    replace f110 := f110.u b150
    refine wl_p (fun _ => o_pick_t rfl rfl) ?_
    refine wl_p (fun _ => o_assign rfl) ?_
    refine wl_nil ?_
    refine ret1 rfl rfl ?_
    exact ⟨by simp, hw⟩
  · refine wl_call rfl (C_Names _ rfl _ f40.to_RD (by omega)) ?_ (hq := .inr fun _ _ h => grown_of_below h.choose_spec.choose_spec.2.2 _)
    rintro v103 w103 ⟨A103, ⟨c103, ⟨rfl, ⟨f103, b103⟩⟩⟩⟩
    simp only [drew_size] at f103
    simp only [drew_size] at b103
    replace f103 := f103.h_
    have qf103 := f103.cap
    have s103 := b103.size
    simp only [drew_size] at s103
    replace hw := hw.trans (b103.mono hw.size)
    replace f96 := f96.u b103
    replace f84 := f84.u b103
    replace f_2 := f_2.u b103
    replace f62 := f62.u b103
    replace f62_1 := f62_1.u b103
    replace f := f.u b103
    replace f50 := f50.u b103
    replace f50_1 := f50_1.u b103
    replace f45 := f45.u b103
    replace f42 := f42.u b103
    replace f39 := f39.u b103
    replace f40 := f40.u b103
    replace f43 := f43.u b103
    replace f46 := f46.u b103
    replace f56_1 := f56_1.u b103
    replace f56 := f56.u b103
    replace f_1 := f_1.u b103
    replace f83 := f83.u b103
    replace f89_1 := f89_1.u b103
    replace f89 := f89.u b103
    replace f_3 := f_3.u b103
    replace f95 := f95.u b103
    refine wl_fork2j (m := 15) (L := 792) (C := 264) (n := 7) (k1 := 4) (k2 := 8) _ [0, 0, 0, 4, 11, 16, 32, 32, 0, 383, 1023] [0, 0, 0, 4, 15, 31, 63, 63, 0, 383, 1023] [4, 5, 6, 7, 8, 9, 10] [8, 4, 5, 6, 7, 9, 10] [9, 10] [(.p, 5), (.p, 6), (.p, 7), (.c, 8), (.l, 9), (.p, 10)] [(.l, 4), (.p, 5), (.p, 6), (.p, 7), (.l, 9), (.p, 10)] [(.l, 9), (.p, 10)] (by kernel_rfl) (by kernel_rfl) (by kernel_rfl) (by kernel_rfl) (by kernel_rfl) hj (fun hj => ?_) (fun hj => ?_) <;> dsimp only [inOrder, nthOp]
    · refine wl_call rfl (C_Then' _ (PlV.mk_ f50.to_RD f50_1.to_RD rfl rfl (by omega) (by omega)) (PlV.mk_ f56.to_RD f56_1.to_RD rfl rfl (by omega) (by omega)) f103.to_RD tabc rfl ⟨by simp; omega, by simp; omega⟩ ⟨by simp; omega, by simp; omega⟩ (by omega) (by omega)) ?_
      rintro v104 w104 ⟨u104, ⟨rfl, ⟨⟨A104, ⟨c104, ⟨A104_1, ⟨c104_1, ⟨rfl, ⟨f104, f104_1⟩⟩⟩⟩⟩⟩, b104⟩⟩⟩
      dsimp only at f104
      dsimp only at f104_1
      dsimp only
      replace f104 := f104.h_
      have qf104 := f104.cap
      replace f104_1 := f104_1.h_
      have qf104_1 := f104_1.cap
      have s104 := b104.size
      replace hw := hw.trans (b104.mono hw.size)
      replace f95 := f95.u b104
      replace f_3 := f_3.u b104
      replace f89 := f89.u b104
      replace f89_1 := f89_1.u b104
      replace f83 := f83.u b104
      replace f_1 := f_1.u b104
      replace f56 := f56.u b104
      replace f56_1 := f56_1.u b104
      replace f46 := f46.u b104
      replace f43 := f43.u b104
      replace f40 := f40.u b104
      replace f39 := f39.u b104
      replace f42 := f42.u b104
      replace f45 := f45.u b104
      replace f50_1 := f50_1.u b104
      replace f50 := f50.u b104
      replace f := f.u b104
      replace f62_1 := f62_1.u b104
      replace f62 := f62.u b104
      replace f_2 := f_2.u b104
      replace f84 := f84.u b104
      replace f96 := f96.u b104
      replace f103 := f103.u b104
      refine wl_p (fun _ => o_move rfl) ?_
      refine wl_p (fun _ => o_ext20 rfl) ?_
      refine wl_p (fun _ => o_ext21 rfl) ?_
      refine wl_allocg [_, _, _] Try.zeroValue25 (by rfl) ?_
      rintro g19 w19 f19 b19 i19 i19_1
      have s19 := b19.size
      replace hw := hw.trans (b19.mono hw.size)
      replace f103 := f103.u b19
      replace f96 := f96.u b19
      replace f84 := f84.u b19
      replace f_2 := f_2.u b19
      replace f62 := f62.u b19
      replace f62_1 := f62_1.u b19
      replace f := f.u b19
      replace f50 := f50.u b19
      replace f50_1 := f50_1.u b19
      replace f45 := f45.u b19
      replace f42 := f42.u b19
      replace f39 := f39.u b19
      replace f40 := f40.u b19
      replace f43 := f43.u b19
      replace f46 := f46.u b19
      replace f56_1 := f56_1.u b19
      replace f56 := f56.u b19
      replace f_1 := f_1.u b19
      replace f83 := f83.u b19
      replace f89_1 := f89_1.u b19
      replace f89 := f89.u b19
      replace f_3 := f_3.u b19
      replace f95 := f95.u b19
      replace f104_1 := f104_1.u b19
      replace f104 := f104.u b19
      exact wl_tof hj (Fr.le_of (by kernel_rfl) (by kernel_rfl) (by repeat' constructor)) ⟨_, _, _, _, _, _, g19, rfl, f104, f104_1, f19, by omega, b103.trans ((b104.mono (by omega)).trans (b19.mono (by omega)))⟩
    · refine wl_allocg [_, _, _] Try.zeroValue25 (by rfl) ?_
      rintro g19 w19 f19 b19 i19 i19_1
      have s19 := b19.size
      replace hw := hw.trans (b19.mono hw.size)
      replace f95 := f95.u b19
      replace f_3 := f_3.u b19
      replace f89 := f89.u b19
      replace f89_1 := f89_1.u b19
      replace f83 := f83.u b19
      replace f_1 := f_1.u b19
      replace f56 := f56.u b19
      replace f56_1 := f56_1.u b19
      replace f46 := f46.u b19
      replace f43 := f43.u b19
      replace f40 := f40.u b19
      replace f39 := f39.u b19
      replace f42 := f42.u b19
      replace f45 := f45.u b19
      replace f50_1 := f50_1.u b19
      replace f50 := f50.u b19
      replace f := f.u b19
      replace f62_1 := f62_1.u b19
      replace f62 := f62.u b19
      replace f_2 := f_2.u b19
      replace f84 := f84.u b19
      replace f96 := f96.u b19
      replace f103 := f103.u b19
      refine wl_call rfl (C_Then' _ (PlV.mk_ f50.to_RD f50_1.to_RD rfl rfl (by omega) (by omega)) (PlV.mk_ f56.to_RD f56_1.to_RD rfl rfl (by omega) (by omega)) f103.to_RD tabc rfl ⟨by simp; omega, by simp; omega⟩ ⟨by simp; omega, by simp; omega⟩ (by omega) (by omega)) ?_
      rintro v104 w104 ⟨u104, ⟨rfl, ⟨⟨A104, ⟨c104, ⟨A104_1, ⟨c104_1, ⟨rfl, ⟨f104, f104_1⟩⟩⟩⟩⟩⟩, b104⟩⟩⟩
      dsimp only at f104
      dsimp only at f104_1
      dsimp only
      replace f104 := f104.h_
      have qf104 := f104.cap
      replace f104_1 := f104_1.h_
      have qf104_1 := f104_1.cap
      have s104 := b104.size
      replace hw := hw.trans (b104.mono hw.size)
      replace f103 := f103.u b104
      replace f96 := f96.u b104
      replace f84 := f84.u b104
      replace f_2 := f_2.u b104
      replace f62 := f62.u b104
      replace f62_1 := f62_1.u b104
      replace f := f.u b104
      replace f50 := f50.u b104
      replace f50_1 := f50_1.u b104
      replace f45 := f45.u b104
      replace f42 := f42.u b104
      replace f39 := f39.u b104
      replace f40 := f40.u b104
      replace f43 := f43.u b104
      replace f46 := f46.u b104
      replace f56_1 := f56_1.u b104
      replace f56 := f56.u b104
      replace f_1 := f_1.u b104
      replace f83 := f83.u b104
      replace f89_1 := f89_1.u b104
      replace f89 := f89.u b104
      replace f_3 := f_3.u b104
      replace f95 := f95.u b104
      replace f19 := f19.u b104
      refine wl_p (fun _ => o_move rfl) ?_
      refine wl_p (fun _ => o_ext20 rfl) ?_
      refine wl_p (fun _ => o_ext21 rfl) ?_
      exact wl_tof hj (Fr.le_of (by kernel_rfl) (by kernel_rfl) (by repeat' constructor)) ⟨_, _, _, _, _, _, g19, rfl, f104, f104_1, f19, by omega, b103.trans ((b19.mono (by omega)).trans (b104.mono (by omega)))⟩
  · refine wl_allocg [_, _, _] Try.zeroValue25 (by rfl) ?_
    rintro g19 w19 f19 b19 i19 i19_1
    simp only [drew_size] at b19
    simp only [drew_size] at i19
    have s19 := b19.size
    simp only [drew_size] at s19
    replace hw := hw.trans (b19.mono hw.size)
    replace f96 := f96.u b19
    replace f84 := f84.u b19
    replace f_2 := f_2.u b19
    replace f62 := f62.u b19
    replace f62_1 := f62_1.u b19
    replace f := f.u b19
    replace f50 := f50.u b19
    replace f50_1 := f50_1.u b19
    replace f45 := f45.u b19
    replace f42 := f42.u b19
    replace f39 := f39.u b19
    replace f40 := f40.u b19
    replace f43 := f43.u b19
    replace f46 := f46.u b19
    replace f56_1 := f56_1.u b19
    replace f56 := f56.u b19
    replace f_1 := f_1.u b19
    replace f83 := f83.u b19
    replace f89_1 := f89_1.u b19
    replace f89 := f89.u b19
    replace f_3 := f_3.u b19
    replace f95 := f95.u b19
    refine wl_call rfl (C_Names _ rfl _ f40.to_RD (by omega)) ?_ (hq := .inr fun _ _ h => grown_of_below h.choose_spec.choose_spec.2.2 _)
    rintro v103 w103 ⟨A103, ⟨c103, ⟨rfl, ⟨f103, b103⟩⟩⟩⟩
    replace f103 := f103.h_
    have qf103 := f103.cap
    have s103 := b103.size
    replace hw := hw.trans (b103.mono hw.size)
    replace f95 := f95.u b103
    replace f_3 := f_3.u b103
    replace f89 := f89.u b103
    replace f89_1 := f89_1.u b103
    replace f83 := f83.u b103
    replace f_1 := f_1.u b103
    replace f56 := f56.u b103
    replace f56_1 := f56_1.u b103
    replace f46 := f46.u b103
    replace f43 := f43.u b103
    replace f40 := f40.u b103
    replace f39 := f39.u b103
    replace f42 := f42.u b103
    replace f45 := f45.u b103
    replace f50_1 := f50_1.u b103
    replace f50 := f50.u b103
    replace f := f.u b103
    replace f62_1 := f62_1.u b103
    replace f62 := f62.u b103
    replace f_2 := f_2.u b103
    replace f84 := f84.u b103
    replace f96 := f96.u b103
    replace f19 := f19.u b103
    refine wl_call rfl (C_Then' _ (PlV.mk_ f50.to_RD f50_1.to_RD rfl rfl (by omega) (by omega)) (PlV.mk_ f56.to_RD f56_1.to_RD rfl rfl (by omega) (by omega)) f103.to_RD tabc rfl ⟨by simp; omega, by simp; omega⟩ ⟨by simp; omega, by simp; omega⟩ (by omega) (by omega)) ?_
    rintro v104 w104 ⟨u104, ⟨rfl, ⟨⟨A104, ⟨c104, ⟨A104_1, ⟨c104_1, ⟨rfl, ⟨f104, f104_1⟩⟩⟩⟩⟩⟩, b104⟩⟩⟩
    dsimp only at f104
    dsimp only at f104_1
    dsimp only
    replace f104 := f104.h_
    have qf104 := f104.cap
    replace f104_1 := f104_1.h_
    have qf104_1 := f104_1.cap
    have s104 := b104.size
    replace hw := hw.trans (b104.mono hw.size)
    replace f19 := f19.u b104
    replace f96 := f96.u b104
    replace f84 := f84.u b104
    replace f_2 := f_2.u b104
    replace f62 := f62.u b104
    replace f62_1 := f62_1.u b104
    replace f := f.u b104
    replace f50 := f50.u b104
    replace f50_1 := f50_1.u b104
    replace f45 := f45.u b104
    replace f42 := f42.u b104
    replace f39 := f39.u b104
    replace f40 := f40.u b104
    replace f43 := f43.u b104
    replace f46 := f46.u b104
    replace f56_1 := f56_1.u b104
    replace f56 := f56.u b104
    replace f_1 := f_1.u b104
    replace f83 := f83.u b104
    replace f89_1 := f89_1.u b104
    replace f89 := f89.u b104
    replace f_3 := f_3.u b104
    replace f95 := f95.u b104
    replace f103 := f103.u b104
    refine wl_p (fun _ => o_move rfl) ?_
    refine wl_p (fun _ => o_ext20 rfl) ?_
    refine wl_p (fun _ => o_ext21 rfl) ?_
    exact wl_tof hj (Fr.le_of (by kernel_rfl) (by kernel_rfl) (by repeat' constructor)) ⟨_, _, _, _, _, _, g19, rfl, f104, f104_1, f19, by omega, b19.trans ((b103.mono (by omega)).trans (b104.mono (by omega)))⟩
end Go.Proofs.Ytbncaabcddoicaa
