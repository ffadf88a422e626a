/-
  The statement ShaNames: padding of one string, the examples.
-/
import Derived.Test.YtldhmnakkkjenaaShH
import Derived.Laws.OwnMore
namespace Go.Proofs.Ytldhmnakkkjenaa
open Go.RowKit
theorem C_Pad {A : Option Addr} {p r : By} {n c : Nat} (w : World) (hp : RdT w A p) (hr : padU p = r) (hn : n = p.length) (hl : p.length ≤ 4000) (hc : p.length ≤ c) (hm : c ≤ 9223372036854775807) :
    CallsR Try.prog 20 [.slice A n c] w fun v w' => ∃ A' c', v = .slice A' r.length c' ∧ OwnH w' w.heap.size w'.heap.size A' c' r ∧ Below w.heap.size w w' := by
  subst hn
  have hr2 : padU ([p] : List By).flatten = r := by simpa using hr
  have hl2 : ∀ x ∈ ([p] : List By), x.length ≤ 4000 := fun x hx => by
    rw [List.mem_singleton] at hx; subst hx; exact hl
  refine callsR Try.func20 rfl rfl (by kernel_rfl) rfl ?_
  have hw := Below.refl w.heap.size w
  refine rk_seq ?_
  refine rk_region ?_
  refine wl_p (fun _ => o_assign rfl) ?_
  refine wl_nil ?_
  refine rk_seq ?_
  refine rk_region ?_
  refine wl_p (fun _ => o_move rfl) ?_
  refine wl_litK1 (by rfl) rfl hp rfl (by omega) (by omega) (by rfl) ?_
  rintro A4 w4 f4 b4
  have s4 := b4.size
  replace hw := hw.trans (b4.mono hw.size)
  refine wl_call rfl (C_padded _ f4 hr2 (by rfl) (by simp) (by omega)) ?_
  rintro v5 w5 ⟨A5, ⟨c5, ⟨rfl, ⟨f5, b5⟩⟩⟩⟩
  have qf5 := f5.cap
  have s5 := b5.size
  replace hw := hw.trans (b5.mono hw.size)
  replace f4 := f4.u b5
  refine wl_p (fun _ => o_assign rfl) ?_
  refine wl_nil ?_
  refine ret1 rfl rfl ?_
  exact ⟨_, _, rfl, f5.base (by omega) (Nat.le_refl _), hw⟩
theorem own_max {w : World} {lo hi c : Nat} {A : Option Addr} {l : By} (h : OwnH w lo hi A c l) : c ≤ 9223372036854775807 := by
  have h1 : w.ownsRow lo 5 1 (.slice A l.length c) l.length (B8 l) := h.o
  rcases h1.2 with ⟨hv, _⟩ | ⟨g, cap, cur, hv, _, _, _, hm, _⟩
  · injection hv with _ _ e; omega
  · injection hv with _ _ e
    simp only [maxLen] at hm; omega
theorem C_Own {A : Option Addr} {p : By} {n c : Nat} (w : World) (hp : Rd w A p) (hn : n = p.length) (hl : p.length ≤ 4000000000) :
    CallsR Try.prog 21 [.slice A n c] w fun v w' => ∃ A' c', v = .slice A' p.length c' ∧ OwnH w' w.heap.size w'.heap.size A' c' p ∧ c' ≤ 9223372036854775807 ∧ Below w.heap.size w w' := by
  subst hn
  refine callsR Try.func21 rfl rfl (by kernel_rfl) rfl ?_
  have hw := Below.refl w.heap.size w
  refine rk_seq ?_
  refine rk_region ?_
  refine wl_p (fun _ => o_assign rfl) ?_
  refine wl_nil ?_
  refine rk_seq ?_
  refine rk_region ?_
  refine wl_litB [] Try.u8 Try.sizeOf5 Try.zeroValue5 (by rfl) rfl rfl (by rfl) (by rfl) (by rfl) ?_
  rintro A3 w3 f3 b3
  have qf3 := f3.cap
  have s3 := b3.size
  replace hw := hw.trans (b3.mono hw.size)
  refine wl_p (fun _ => o_move rfl) ?_
  refine wl_appB Try.u8 rfl f3 (by rfl) rfl (hp.u hw) rfl (by omega) hw.size ?_
  rintro A5 c5 w5 f5 g5 b5 i5
  have qf5 := f5.cap
  have s5 := g5.size
  replace hw := hw.trans (b5.mono (by omega))
  clear f3
  refine wl_p (fun _ => o_assign rfl) ?_
  refine wl_nil ?_
  refine ret1 rfl rfl ?_
  exact ⟨_, _, rfl, f5, own_max f5, hw⟩
section
variable {fn : Func} {F : Ending → World → Prop} {N : Nat} {ks : List K} {ops : Array Oper} {tg : Tags} {l : List Oper} {fr : Fr} {w : World} {ty : TypeId} {pos : String} {aft : Array Edge} {gd : Option (Nat × Bool)} {d : Nat} {x y : Operand}
--@ rule makeSlice l wl_mkBz
theorem wl_mkBz {k1 k2 : IntKind} {C E : Int} (n : Nat) (hx : fr.ev x = some (.int k1 E)) (hy : fr.ev y = some (.int k2 C)) (hE : E = (n : Int)) (hC : C = (n : Int)) (hn : n ≤ 4000000000)
    (hk : ∀ A w', OwnH w' w.heap.size w'.heap.size A n (List.replicate n 0) → Below w.heap.size w w' → WL Try.prog fn F N ks ops tg.tail l ((d, .slice A n n) :: fr) w')
    (ht : tg.loud = true := by rfl) (hg : onG ops fr gd = true := by rfl) (hd : Nat.blt d N = true := by rfl) : WL Try.prog fn F N ks ops tg (⟨some d, .makeSlice 39 x y, ty, pos, aft, gd⟩ :: l) fr w := by
  subst hC; subst hE
  obtain ⟨i, hi, hz, hs, hb⟩ := info_parts Try.u8.hi
  obtain ⟨w', hrun, r1, r2⟩ := run_make_full (P := Try.prog) w w.heap.size 39 5 i _ 1 Try.u8.ht hi hz hs k1 k2 n (by rw [hb]; omega) (by simp only [maxLen]; omega) (Nat.le_refl _)
  have hbl : Below w.heap.size w w' := (Below.refl _ _).grown r2 (Nat.le_refl _) (by simp)
  have e : (madeCells (Value.int .u8 0).cells (n * 1)).toList = B8 (List.replicate n 0) := by
    rw [Nat.mul_one]; exact (toList_madeCells_one _ _).trans (by simp [B8])
  rw [e] at r1
  have ho : Own w' w.heap.size (some ⟨w.heap.size, 0, none⟩) n (List.replicate n 0) := by
    unfold Own; rw [List.length_replicate]; exact r1
  exact wl_v (fun a ha o ho _ => by simp [execOp, ho, ha.ev hx, ha.ev hy, hrun]) (hk _ w' ho.h_ hbl) ht hg hd (.inr (grown_of_below hbl _))
end
theorem ev_nil : (bytesU (runU Sl (padU ([[]] : List By).flatten))).take 4 = [207, 131, 225, 53] := by kernel_rfl
set_option maxRecDepth 100000 in
set_option maxHeartbeats 1000000 in
theorem C_ShaNames (w : World) : CallsR Try.prog 5 [] w fun v w' => v = .bool true ∧ Below w.heap.size w w' := by
  have hn2 : ∀ x ∈ ([[]] : List By), x.length ≤ 4000 := fun x hx => by
    rw [List.mem_singleton] at hx; subst hx; decide
  have e1 := ev_nil
  obtain ⟨r1, h1⟩ : ∃ r1, bytesU (runU Sl (padU ([[]] : List By).flatten)) = r1 := ⟨_, rfl⟩
  rw [h1] at e1
  have hr1 : r1.length = 64 := by rw [← h1, bytesU_len]
  obtain ⟨p1, hp1⟩ : ∃ p1, padU [] = p1 := ⟨_, rfl⟩
  have hp1l : p1.length = 128 := by rw [← hp1]; rfl
  obtain ⟨p2, hp2⟩ : ∃ p2, padU (List.replicate 112 0) = p2 := ⟨_, rfl⟩
  have hp2l : p2.length = 256 := by rw [← hp2, padU_len]; rfl
  obtain ⟨kl, hkl⟩ : ∃ kl, Kl = kl := ⟨_, rfl⟩
  have hS8 : Sl.length = 8 := Sl_len
  have hK8 : Kl.length = 80 := Kl_len
  refine callsR Try.func5 rfl rfl (by kernel_rfl) rfl ?_
  have hw := Below.refl w.heap.size w
  refine rk_seq ?_
  refine rk_region ?_
  refine wl_p (fun _ => o_assign rfl) ?_
  refine wl_nil ?_
  refine rk_seq ?_
  refine rk_region ?_
  refine wl_litK1 (by rfl) rfl (RdT.nil_) (by rfl) (by simp) (by omega) (by rfl) ?_
  rintro A4 w4 f4 b4
  have s4 := b4.size
  replace hw := hw.trans (b4.mono hw.size)
  refine wl_call rfl (C_Sum512 _ f4 h1 (by rfl) (by simp) (by omega)) ?_
  rintro v5 w5 ⟨rfl, b5⟩
  have s5 := b5.size
  replace hw := hw.trans (b5.mono hw.size)
  replace f4 := f4.u b5
  refine wl_allocB Try.underlying37 Try.zeroValue37 (by rfl) ?_
  rintro g1 w1 f1 b1 i1 i1_1
  have s1 := b1.size
  replace hw := hw.trans (b1.mono hw.size)
  replace f4 := f4.u b1
  refine wl_stBa Try.sizeOf37 rfl f1 rfl (by omega) (by rfl) ?_
  rintro w_1 f g e
  have s := g.size
  replace hw := hw.trans (below_of_grownBy g.g hw.size (by omega))
  clear f4
  clear f1
  refine wl_nil ?_
  refine rk_seq ?_
  refine rk_region ?_
  refine wl_call rfl (C_K _) ?_
  rintro v6 w6 ⟨rfl, b6⟩
  have s6 := b6.size
  replace hw := hw.trans (b6.mono hw.size)
  replace f := f.u b6
  refine wl_alloc80 ?_
  rintro g2 w2 f2 b2 i2 i2_1
  have s2 := b2.size
  replace hw := hw.trans (b2.mono hw.size)
  replace f := f.u b2
  refine wl_stUa Try.sizeOf26 rfl f2 rfl (by rfl) (by rfl) ?_
  rintro w_2 f_1 g_1 e_1
  have s_1 := g_1.size
  replace hw := hw.trans (below_of_grownBy g_1.g hw.size (by omega))
  replace f := f.k g_1.g (ap_some (by omega))
  clear f2
  refine wl_nil ?_
  refine rk_seq ?_
  refine rk_region ?_
  refine wl_call rfl (C_Start _) ?_
  rintro v7 w7 ⟨rfl, b7⟩
  have s7 := b7.size
  replace hw := hw.trans (b7.mono hw.size)
  replace f := f.u b7
  replace f_1 := f_1.u b7
  refine wl_allocU Try.underlying28 Try.zeroValue28 (by rfl) ?_
  rintro g3 w3 f3 b3 i3 i3_1
  have s3 := b3.size
  replace hw := hw.trans (b3.mono hw.size)
  replace f_1 := f_1.u b3
  replace f := f.u b3
  refine wl_stUa Try.sizeOf28 rfl f3 rfl (by rfl) (by rfl) ?_
  rintro w_3 f_2 g_2 e_2
  have s_2 := g_2.size
  replace hw := hw.trans (below_of_grownBy g_2.g hw.size (by omega))
  replace f := f.k g_2.g (ap_some (by omega))
  replace f_1 := f_1.k g_2.g (ap_some (by omega))
  clear f3
  refine wl_nil ?_
  refine rk_seq ?_
  refine rk_region ?_
  refine wl_call rfl (C_lives02 _) ?_
  rintro v8 w8 ⟨rfl, b8⟩
  have s8 := b8.size
  replace hw := hw.trans (b8.mono hw.size)
  replace f_1 := f_1.u b8
  replace f := f.u b8
  replace f_2 := f_2.u b8
  refine wl_p (fun _ => o_move rfl) ?_
  refine wl_slArrHi (4) Try.underlying37 Try.sizeOf5 rfl f rfl (by omega) (by omega) ?_
  rintro f10
  refine wl_r (o_strU Try.underlying39 Try.underlying5 Try.underlying9 rfl f10 (Below.refl _ _) (by simp; omega)) ?_
  refine wl_p (fun _ => o_seq rfl rfl) ?_
  refine wl_p (fun _ => o_pick_t rfl rfl) ?_
  refine wl_p (fun _ => o_move rfl) ?_
  refine wl_know 14 true rfl (decide_eq_true (by omega)) ?_
  refine wl_p (fun _ => (o_iaddrP (79) Try.underlying26 Try.sizeOf25 rfl rfl (by omega) (by omega))) ?_
  refine wl_r (o_ldU Try.isAgg25 rfl f_1 (by omega)) ?_
  refine wl_p (fun _ => o_eq rfl rfl) ?_
  refine wl_p (fun _ => o_pick_t rfl rfl) ?_
  refine wl_p (fun _ => o_move rfl) ?_
  refine wl_p (fun _ => (o_iaddrP (7) Try.underlying28 Try.sizeOf25 rfl rfl (by omega) (by omega))) ?_
  refine wl_r (o_ldU Try.isAgg25 rfl f_2 (by omega)) ?_
  refine wl_p (fun _ => o_eq rfl rfl) ?_
  refine wl_p (fun _ => o_pick_t rfl rfl) ?_
  refine wl_p (fun _ => o_move rfl) ?_
  refine wl_call rfl (C_Root _ (by simp)) ?_
  rintro v25 w25 ⟨rfl, b25⟩
  have s25 := b25.size
  replace hw := hw.trans (b25.mono hw.size)
  replace f10 := f10.u b25
  replace f_2 := f_2.u b25
  replace f := f.u b25
  replace f_1 := f_1.u b25
  refine wl_p (fun _ => o_eq rfl rfl) ?_
  refine wl_p (fun _ => o_pick_t rfl rfl) ?_
  refine wl_p (fun _ => o_move rfl) ?_
  refine wl_call rfl (C_Cube _ (by simp)) ?_
  rintro v29 w29 ⟨rfl, b29⟩
  have s29 := b29.size
  replace hw := hw.trans (b29.mono hw.size)
  replace f_1 := f_1.u b29
  replace f := f.u b29
  replace f_2 := f_2.u b29
  replace f10 := f10.u b29
  refine wl_p (fun _ => o_eq rfl rfl) ?_
  refine wl_p (fun _ => o_pick_t rfl rfl) ?_
  refine wl_p (fun _ => o_move rfl) ?_
  refine wl_call rfl (C_Root _ (by simp)) ?_
  rintro v33 w33 ⟨rfl, b33⟩
  have s33 := b33.size
  replace hw := hw.trans (b33.mono hw.size)
  replace f10 := f10.u b33
  replace f_2 := f_2.u b33
  replace f := f.u b33
  replace f_1 := f_1.u b33
  refine wl_call rfl (C_Root _ (by simp)) ?_
  rintro v34 w34 ⟨rfl, b34⟩
  have s34 := b34.size
  replace hw := hw.trans (b34.mono hw.size)
  replace f_1 := f_1.u b34
  replace f := f.u b34
  replace f_2 := f_2.u b34
  replace f10 := f10.u b34
  refine wl_p (fun _ => o_eq rfl rfl) ?_
  refine wl_p (fun _ => o_pick_t rfl rfl) ?_
  refine wl_p (fun _ => o_move rfl) ?_
  refine wl_call rfl (C_Pad _ (RdT.nil_) hp1 (by rfl) (by simp) (by simp) (by omega)) ?_
  rintro v38 w38 ⟨A38, ⟨c38, ⟨rfl, ⟨f38, b38⟩⟩⟩⟩
  have qf38 := f38.cap
  have s38 := b38.size
  replace hw := hw.trans (b38.mono hw.size)
  replace f10 := f10.u b38
  replace f_2 := f_2.u b38
  replace f := f.u b38
  replace f_1 := f_1.u b38
  refine wl_p (fun _ => o_len (t := 39) Try.underlying39 rfl) ?_
  refine wl_p (fun _ => o_eq rfl rfl) ?_
  refine wl_p (fun _ => o_pick_t rfl rfl) ?_
  refine wl_p (fun _ => o_move rfl) ?_
  refine wl_know 42 true rfl (decide_eq_true (by omega)) ?_
  refine wl_mkBz (112) rfl rfl (by omega) (by rfl) (by omega) ?_
  rintro A43 w43 f43 b43
  have qf43 := f43.cap
  have s43 := b43.size
  replace hw := hw.trans (b43.mono hw.size)
  replace f_1 := f_1.u b43
  replace f := f.u b43
  replace f_2 := f_2.u b43
  replace f10 := f10.u b43
  replace f38 := f38.u b43
  refine wl_call rfl (C_Pad _ f43.to_RdT hp2 (by rfl) (by omega) (by omega) (by omega)) ?_
  rintro v44 w44 ⟨A44, ⟨c44, ⟨rfl, ⟨f44, b44⟩⟩⟩⟩
  have qf44 := f44.cap
  have s44 := b44.size
  replace hw := hw.trans (b44.mono hw.size)
  replace f38 := f38.u b44
  replace f10 := f10.u b44
  replace f_2 := f_2.u b44
  replace f := f.u b44
  replace f_1 := f_1.u b44
  replace f43 := f43.u b44
  refine wl_p (fun _ => o_len (t := 39) Try.underlying39 rfl) ?_
  refine wl_p (fun _ => o_eq rfl rfl) ?_
  refine wl_p (fun _ => o_pick_t rfl rfl) ?_
  refine wl_p (fun _ => o_assign rfl) ?_
  refine wl_nil ?_
  refine ret1 rfl rfl ?_
  exact ⟨congrArg Value.bool (decide_eq_true (by omega)), hw⟩
end Go.Proofs.Ytldhmnakkkjenaa
