/-
  The chapter's examples: package sha.
-/
import Derived.Test.YtldhmnakkkjenaaShG
namespace Go.Proofs.Ytldhmnakkkjenaa
open Go.RowKit
theorem ev_abc : (bytesU (runU Sl (padU ([[97, 98, 99]] : List By).flatten))).take 8 = [221, 175, 53, 161, 147, 97, 122, 186] := by kernel_rfl
theorem ev_short : ((bytesU (runU Ul (padU ([[97, 98, 99]] : List By).flatten))).take 32).take 8 = [83, 4, 142, 38, 129, 148, 30, 249] := by kernel_rfl
theorem ev_root2 : root (2 % 4294967296) 2 % 18446744073709551616 = 7640891576956012808 := by kernel_rfl
theorem ev_cube2 : root (2 % 4294967296) 3 % 18446744073709551616 = 4794697086780616226 := by kernel_rfl
set_option maxRecDepth 100000 in
theorem C_lives02 (w : World) : CallsR Try.prog 9 [] w fun v w' => v = .bool true ∧ Below w.heap.size w w' := by
  have hn2 : ∀ x ∈ ([[97, 98, 99]] : List By), x.length ≤ 4000 := fun x hx => by
    rw [List.mem_singleton] at hx; subst hx; decide
  have e1 := ev_abc
  have e2 := ev_short
  obtain ⟨r1, h1⟩ : ∃ r1, bytesU (runU Sl (padU ([[97, 98, 99]] : List By).flatten)) = r1 := ⟨_, rfl⟩
  obtain ⟨r2, h2⟩ : ∃ r2, (bytesU (runU Ul (padU ([[97, 98, 99]] : List By).flatten))).take 32 = r2 := ⟨_, rfl⟩
  rw [h1] at e1
  rw [h2] at e2
  have hr1 : r1.length = 64 := by rw [← h1, bytesU_len]
  have hr2 : r2.length = 32 := by rw [← h2, List.length_take, bytesU_len]; rfl
  refine callsR Try.func9 rfl rfl (by kernel_rfl) rfl ?_
  have hw := Below.refl w.heap.size w
  refine rk_seq ?_
  refine rk_region ?_
  refine wl_p (fun _ => o_assign rfl) ?_
  refine wl_nil ?_
  refine rk_seq ?_
  refine rk_region ?_
  refine wl_litC [97, 98, 99] Try.u8 Try.sizeOf5 Try.zeroValue5 (by rfl) rfl rfl (by rfl) (by rfl) (by rfl) ?_
  rintro A3 w3 f3 b3
  have s3 := b3.size
  replace hw := hw.trans (b3.mono hw.size)
  refine wl_litK1 (by rfl) rfl f3 (by rfl) (by simp) (by omega) (by rfl) ?_
  rintro A5 w5 f5 b5
  have s5 := b5.size
  replace hw := hw.trans (b5.mono hw.size)
  replace f3 := f3.u b5
  refine wl_call rfl (C_Sum512 _ f5 h1 (by rfl) (by simp) (by omega)) ?_
  rintro v6 w6 ⟨rfl, b6⟩
  have s6 := b6.size
  replace hw := hw.trans (b6.mono hw.size)
  replace f3 := f3.u b6
  replace f5 := f5.u b6
  refine wl_litC [97, 98, 99] Try.u8 Try.sizeOf5 Try.zeroValue5 (by rfl) rfl rfl (by rfl) (by rfl) (by rfl) ?_
  rintro A7 w7 f7 b7
  have s7 := b7.size
  replace hw := hw.trans (b7.mono hw.size)
  replace f5 := f5.u b7
  replace f3 := f3.u b7
  refine wl_litK1 (by rfl) rfl f7 (by rfl) (by simp) (by omega) (by rfl) ?_
  rintro A9 w9 f9 b9
  have s9 := b9.size
  replace hw := hw.trans (b9.mono hw.size)
  replace f3 := f3.u b9
  replace f5 := f5.u b9
  replace f7 := f7.u b9
  refine wl_call rfl (C_Sum _ f9 h2 (by rfl) (by simp) (by omega)) ?_
  rintro v10 w10 ⟨rfl, b10⟩
  have s10 := b10.size
  replace hw := hw.trans (b10.mono hw.size)
  replace f7 := f7.u b10
  replace f5 := f5.u b10
  replace f3 := f3.u b10
  replace f9 := f9.u b10
  refine wl_allocB Try.underlying37 Try.zeroValue37 (by rfl) ?_
  rintro g1 w1 f1 b1 i1 i1_1
  have s1 := b1.size
  replace hw := hw.trans (b1.mono hw.size)
  replace f9 := f9.u b1
  replace f3 := f3.u b1
  replace f5 := f5.u b1
  replace f7 := f7.u b1
  refine wl_allocB Try.underlying43 Try.zeroValue43 (by rfl) ?_
  rintro g2 w2 f2 b2 i2 i2_1
  have s2 := b2.size
  replace hw := hw.trans (b2.mono hw.size)
  replace f7 := f7.u b2
  replace f5 := f5.u b2
  replace f3 := f3.u b2
  replace f9 := f9.u b2
  replace f1 := f1.u b2
  refine wl_stBa Try.sizeOf37 rfl f1 rfl (by omega) (by rfl) ?_
  rintro w_1 f g e
  have s := g.size
  replace hw := hw.trans (below_of_grownBy g.g hw.size (by omega))
  clear f1
  clear f9
  replace f3 := f3.y g (by decide)
  clear f5
  replace f7 := f7.y g (by decide)
  replace f2 := f2.k g.g (ap_some (by omega))
  refine wl_stBa Try.sizeOf43 rfl f2 rfl (by omega) (by rfl) ?_
  rintro w_2 f_1 g_1 e_1
  have s_1 := g_1.size
  replace hw := hw.trans (below_of_grownBy g_1.g hw.size (by omega))
  clear f2
  replace f7 := f7.y g_1 (by decide)
  replace f3 := f3.y g_1 (by decide)
  replace f := f.k g_1.g (ap_some (by omega))
  refine wl_nil ?_
  refine rk_seq ?_
  refine rk_region ?_
  refine wl_slArrHi (8) Try.underlying37 Try.sizeOf5 rfl f rfl (by omega) (by omega) ?_
  rintro f11
  refine wl_r (o_strU Try.underlying39 Try.underlying5 Try.underlying9 rfl f11 (Below.refl _ _) (by simp; omega)) ?_
  refine wl_p (fun _ => o_seq rfl rfl) ?_
  refine wl_p (fun _ => o_move rfl) ?_
  refine wl_know 14 true rfl (decide_eq_true (by omega)) ?_
  refine wl_slArrHi (8) Try.underlying43 Try.sizeOf5 rfl f_1 rfl (by omega) (by omega) ?_
  rintro f15
  refine wl_r (o_strU Try.underlying39 Try.underlying5 Try.underlying9 rfl f15 (Below.refl _ _) (by simp; omega)) ?_
  refine wl_p (fun _ => o_seq rfl rfl) ?_
  refine wl_p (fun _ => o_pick_t rfl rfl) ?_
  refine wl_p (fun _ => o_move rfl) ?_
  refine wl_know 19 true rfl (decide_eq_true (by omega)) ?_
  refine wl_call rfl (C_Root _ (by simp)) ?_
  rintro v20 w20 ⟨rfl, b20⟩
  have s20 := b20.size
  replace hw := hw.trans (b20.mono hw.size)
  replace f15 := f15.u b20
  replace f11 := f11.u b20
  replace f := f.u b20
  replace f3 := f3.u b20
  replace f7 := f7.u b20
  replace f_1 := f_1.u b20
  refine wl_p (fun _ => o_eq rfl rfl) ?_
  refine wl_p (fun _ => o_pick_t rfl rfl) ?_
  refine wl_p (fun _ => o_move rfl) ?_
  refine wl_call rfl (C_Cube _ (by simp)) ?_
  rintro v24 w24 ⟨rfl, b24⟩
  have s24 := b24.size
  replace hw := hw.trans (b24.mono hw.size)
  replace f_1 := f_1.u b24
  replace f7 := f7.u b24
  replace f3 := f3.u b24
  replace f := f.u b24
  replace f11 := f11.u b24
  replace f15 := f15.u b24
  refine wl_p (fun _ => o_eq rfl rfl) ?_
  refine wl_p (fun _ => o_pick_t rfl rfl) ?_
  refine wl_p (fun _ => o_assign rfl) ?_
  refine wl_nil ?_
  refine ret1 rfl rfl ?_
  exact ⟨congrArg Value.bool (decide_eq_true (by rw [ev_cube2]; rfl)), hw⟩
end Go.Proofs.Ytldhmnakkkjenaa
