/-
  Walks of package journal: Open.
-/
import Derived.Test.YtnnhenafhalobaaGreatMg7
import Derived.Laws.OwnMore
namespace Go.Proofs.YtnnhenafhalobaaGreat
set_option maxRecDepth 100000
open Go.RowKit
theorem rk_joinkf {P : Program} {fn : Func} {F : Ending → World → Prop} {N : Nat} {k : K} {ks : List K} {fr : Fr} {w : World} (R : Fr → Fr → World → Prop) (h2 : ∀ fr' w, R fr fr' w → RK P fn F N ks fr' w) (h1 : ∀ ks, (∀ fr' w, R fr fr' w → RK P fn F N ks fr' w) → RK P fn F N (k :: ks) fr w) : RK P fn F N (k :: ks) fr w := h1 ks h2
/-- The epoch and the area of the later one of two heads. -/
def headOf (b0 b1 : By) : Option (Nat × Nat) :=
  if HeadOk b1 1 ∧ (¬HeadOk b0 0 ∨ headE b0 < headE b1) then some (headE b1, headA b1)
  else if HeadOk b0 0 then some (headE b0, headA b0) else none
theorem headOf_lt {b0 b1 : By} {e a : Nat} (h : headOf b0 b1 = some (e, a)) : e < 18446744073709551616 ∧ 1 ≤ a ∧ a ≤ 256 := by
  unfold headOf at h
  split at h
  · rename_i h1
    injection h with h
    injection h with h2 h3
    exact ⟨h2 ▸ headE_lt _, h3 ▸ h1.1.2.1⟩
  · split at h
    · rename_i h1
      injection h with h
      injection h with h2 h3
      exact ⟨h2 ▸ headE_lt _, h3 ▸ h1.2.1⟩
    · cases h
/-- The first chain of an epoch. -/
def fstB (n : Nat) : By := sumB [wB8 n]
/-- The disk after a switch. -/
def swS (S : List Sec) (C : List (Option Sec)) (a e1 : Nat) (b : By) : List Sec :=
  cur (cur S (wrs C (2 + e1 % 2 * a) (secsN a (overJ (List.replicate (a * 256) 0) 0 b)))) (wrs (List.replicate S.length none) (e1 % 2) (secsN 1 (headB e1 a)))
set_option maxRecDepth 100000 in
set_option maxHeartbeats 4000000 in
theorem K_jOpen {dl dh gd : Nat} {S : List Sec} {C : List (Option Sec)} {b0 b1 : By} (w : World) (hd : DkAt w dl dh gd S C) (h0 : rdD S C ((0 : Nat) : Int) = (b0, 0)) (h1 : rdD S C ((1 : Nat) : Int) = (b1, 0)) (l0 : b0.length = 256) (l1 : b1.length = 256) (hS : 2 ≤ S.length) :
    CallsR Tryz.prog 22 [.pointer (some ⟨gd, 0, none⟩)] w fun v w' => (v = .tuple #[.pointer none, .int .i64 4] ∧ Below w.heap.size w w' ∧ ∀ e a, headOf b0 b1 = some (e, a) → S.length < 2 + 2 * a) ∨ ∃ (e a e1 g : Nat) (L' : Option Addr) (c' : Nat) (R : List Rc) (b nx : By), headOf b0 b1 = some (e, a) ∧ 2 + 2 * a ≤ S.length ∧ (e + 1) % 18446744073709551616 = e1 ∧ allR (fstB e) (areaB (cur S C) (2 + e % 2 * a) a) = R ∧ bytesAll (fstB e1) R = b ∧ chainAll (fstB e1) R = nx ∧ v = .tuple #[.pointer (some ⟨g, 0, none⟩), .int .i64 0] ∧ Blk w' g 85 (jC (some ⟨g, 0, none⟩) (some ⟨gd, 0, none⟩) a e1 L' b.length c' b.length nx R.length R.length) ∧ OwnH w' w.heap.size w'.heap.size L' c' b ∧ DkAt w' dl dh gd (swS S C a e1 b) (List.replicate S.length none) ∧ Chg dl dh w w' ∧ w.heap.size ≤ g := by
  have hSl := hd.n2
  refine callsR Tryz.func22 rfl rfl (by kernel_rfl) rfl ?_
  have hw := Below.refl w.heap.size w
  refine rk_seq ?_
  refine rk_region ?_
  refine wl_p (fun _ => o_assign rfl) ?_
  refine wl_p (fun _ => o_assign rfl) ?_
  refine wl_nil ?_
  refine rk_seq ?_
  refine rk_seq ?_
  refine rk_region ?_
  refine wl_p (fun _ => o_move rfl) ?_
  refine wl_call rfl (C_dSize _ hd) ?_
  rintro v15 w15 ⟨rfl, rfl⟩
  refine wl_p (fun _ => o_eq rfl rfl) ?_
  refine wl_nil ?_
  refine rk_if rfl (fun h16 => absurd h16 (by omega)) (fun h16 => ?_)
  refine rk_skip ?_
  refine rk_seq ?_
  refine rk_seq ?_
  refine rk_region ?_
  refine wl_p (fun _ => o_move rfl) ?_
  refine wl_call rfl (C_dSize _ hd) ?_
  rintro v18 w18 ⟨rfl, rfl⟩
  refine wl_p (fun _ => o_lt rfl rfl) ?_
  refine wl_nil ?_
  refine rk_if rfl (fun h19 => absurd h19 (by omega)) (fun h19 => ?_)
  refine rk_skip ?_
  refine rk_seq ?_
  refine rk_region ?_
  refine wl_p (fun _ => o_move rfl) ?_
  obtain ⟨w, hww⟩ : ∃ w, w = w18 := ⟨_, rfl⟩
  subst hww
  refine wl_call rfl (K_readHead _ hd rfl (by decide) h0 l0) ?_
  rintro _ w22 ⟨x0, y0, rfl, hx0, q0⟩
  have sq0 := q0.size
  replace hw := hw.trans (q0.mono hw.size)
  refine wl_p (fun _ => o_move rfl) ?_
  refine wl_p (fun _ => o_ext30 rfl) ?_
  refine wl_p (fun _ => o_ext31 rfl) ?_
  refine wl_p (fun _ => o_ext32 rfl) ?_
  refine wl_p (fun _ => o_assign rfl) ?_
  refine wl_p (fun _ => o_assign rfl) ?_
  refine wl_p (fun _ => o_assign rfl) ?_
  refine wl_nil ?_
  refine rk_seq ?_
  refine rk_seq ?_
  refine rk_region ?_
  refine wl_p (fun _ => o_move rfl) ?_
  refine wl_call rfl (K_readHead _ (hd.u hw) rfl (by decide) h1 l1) ?_
  rintro _ w28 ⟨x1, y1, rfl, hx1, q1⟩
  have sq1 := q1.size
  replace hw := hw.trans (q1.mono hw.size)
  refine wl_p (fun _ => o_move rfl) ?_
  refine wl_p (fun _ => o_ext30 rfl) ?_
  refine wl_p (fun _ => o_ext31 rfl) ?_
  refine wl_p (fun _ => o_ext32 rfl) ?_
  refine wl_p (fun _ => o_assign rfl) ?_
  refine wl_p (fun _ => o_assign rfl) ?_
  refine wl_p (fun _ => o_assign rfl) ?_
  refine wl_nil ?_
  refine rk_joinkf (fun fb fr W => ∃ (ev : Nat) (av : Int) (fd : Bool), fr = [(6, .bool fd), (5, .int .i64 av), (4, .int .u64 (ev : Int))] ++ fb.drop 18 ∧ fd = (headOf b0 b1).isSome ∧ (∀ e a, headOf b0 b1 = some (e, a) → ev = e ∧ av = a) ∧ Below w.heap.size w W) ?_ (fun ks hj => ?_)
  rotate_left
  · by_cases k1 : HeadOk b1 1
    · obtain ⟨rfl, rfl⟩ := hx1 k1
      rw [decide_eq_true k1]
      by_cases k0 : HeadOk b0 0
      · obtain ⟨rfl, rfl⟩ := hx0 k0
        rw [decide_eq_true k0]
        by_cases hlt : headE b0 < headE b1
        · have hh : headOf b0 b1 = some (headE b1, headA b1) := by unfold headOf; rw [if_pos ⟨k1, .inr hlt⟩]
          refine rk_seq ?_
          refine rk_region ?_
          refine wl_p (fun _ => o_move rfl) ?_
          refine wl_p (fun _ => o_move rfl) ?_
          refine wl_p (fun _ => o_move rfl) ?_
          refine wl_p (fun _ => o_not rfl) ?_
          refine wl_p (fun _ => o_move rfl) ?_
          refine wl_p (fun _ => o_move rfl) ?_
          refine wl_p (fun _ => o_move rfl) ?_
          refine wl_p (fun _ => o_gt rfl rfl) ?_
          refine wl_p (fun _ => o_pick_f rfl rfl) ?_
          refine wl_p (fun _ => o_pick_t rfl rfl) ?_
          refine wl_nil ?_
          refine rk_if rfl (fun h41 => ?_) (fun h41 => h41.elim (by omega))
          refine rk_region ?_
          refine wl_p (fun _ => o_move rfl) ?_
          refine wl_p (fun _ => o_move rfl) ?_
          refine wl_p (fun _ => o_assign rfl) ?_
          refine wl_p (fun _ => o_assign rfl) ?_
          refine wl_p (fun _ => o_assign rfl) ?_
          refine wl_nil ?_
          exact rk_tof hj (Fr.le_of (by kernel_rfl) (by kernel_rfl) (by repeat' constructor)) ⟨_, _, _, rfl, by rw [hh]; rfl, fun e a h => by rw [hh] at h; injection h with h; injection h with h2 h3; exact ⟨h2, by rw [h3]⟩, hw⟩
        · have hh : headOf b0 b1 = some (headE b0, headA b0) := by unfold headOf; rw [if_neg (fun h => hlt (h.2.resolve_left (fun h => h k0))), if_pos k0]
          refine rk_seq ?_
          refine rk_region ?_
          refine wl_p (fun _ => o_move rfl) ?_
          refine wl_p (fun _ => o_move rfl) ?_
          refine wl_p (fun _ => o_move rfl) ?_
          refine wl_p (fun _ => o_not rfl) ?_
          refine wl_p (fun _ => o_move rfl) ?_
          refine wl_p (fun _ => o_move rfl) ?_
          refine wl_p (fun _ => o_move rfl) ?_
          refine wl_p (fun _ => o_gt rfl rfl) ?_
          refine wl_p (fun _ => o_pick_f rfl rfl) ?_
          refine wl_p (fun _ => o_pick_t rfl rfl) ?_
          refine wl_nil ?_
          refine rk_if rfl (fun h41 => absurd h41 (by omega)) (fun h41 => ?_)
          refine rk_skip ?_
          exact rk_tof hj (Fr.le_of (by kernel_rfl) (by kernel_rfl) (by repeat' constructor)) ⟨_, _, _, rfl, by rw [hh]; rfl, fun e a h => by rw [hh] at h; injection h with h; injection h with h2 h3; exact ⟨h2, by rw [h3]⟩, hw⟩
      · have hh : headOf b0 b1 = some (headE b1, headA b1) := by unfold headOf; rw [if_pos ⟨k1, .inl k0⟩]
        rw [decide_eq_false k0]
        refine rk_seq ?_
        refine rk_region ?_
        refine wl_p (fun _ => o_move rfl) ?_
        refine wl_p (fun _ => o_move rfl) ?_
        refine wl_p (fun _ => o_move rfl) ?_
        refine wl_p (fun _ => o_not rfl) ?_
        refine wl_p (fun _ => o_move rfl) ?_
        refine wl_off ?_
        refine wl_off ?_
        refine wl_off ?_
        refine wl_p (fun _ => o_pick_t rfl rfl) ?_
        refine wl_p (fun _ => o_pick_t rfl rfl) ?_
        refine wl_nil ?_
        refine rk_true rfl ?_
        refine rk_region ?_
        refine wl_p (fun _ => o_move rfl) ?_
        refine wl_p (fun _ => o_move rfl) ?_
        refine wl_p (fun _ => o_assign rfl) ?_
        refine wl_p (fun _ => o_assign rfl) ?_
        refine wl_p (fun _ => o_assign rfl) ?_
        refine wl_nil ?_
        exact rk_tof hj (Fr.le_of (by kernel_rfl) (by kernel_rfl) (by repeat' constructor)) ⟨_, _, _, rfl, by rw [hh]; rfl, fun e a h => by rw [hh] at h; injection h with h; injection h with h2 h3; exact ⟨h2, by rw [h3]⟩, hw⟩
    · rw [decide_eq_false k1]
      by_cases k0 : HeadOk b0 0
      · obtain ⟨rfl, rfl⟩ := hx0 k0
        rw [decide_eq_true k0]
        have hh : headOf b0 b1 = some (headE b0, headA b0) := by unfold headOf; rw [if_neg (fun h => k1 h.1), if_pos k0]
        refine rk_seq ?_
        refine rk_region ?_
        refine wl_p (fun _ => o_move rfl) ?_
        refine wl_p (fun _ => o_move rfl) ?_
        refine wl_off ?_
        refine wl_off ?_
        refine wl_off ?_
        refine wl_off ?_
        refine wl_off ?_
        refine wl_off ?_
        refine wl_off ?_
        refine wl_p (fun _ => o_pick_f rfl rfl) ?_
        refine wl_nil ?_
        refine rk_false rfl ?_
        refine rk_skip ?_
        exact rk_tof hj (Fr.le_of (by kernel_rfl) (by kernel_rfl) (by repeat' constructor)) ⟨_, _, _, rfl, by rw [hh]; rfl, fun e a h => by rw [hh] at h; injection h with h; injection h with h2 h3; exact ⟨h2, by rw [h3]⟩, hw⟩
      · rw [decide_eq_false k0]
        have hh : headOf b0 b1 = none := by unfold headOf; rw [if_neg (fun h => k1 h.1), if_neg k0]
        refine rk_seq ?_
        refine rk_region ?_
        refine wl_p (fun _ => o_move rfl) ?_
        refine wl_p (fun _ => o_move rfl) ?_
        refine wl_off ?_
        refine wl_off ?_
        refine wl_off ?_
        refine wl_off ?_
        refine wl_off ?_
        refine wl_off ?_
        refine wl_off ?_
        refine wl_p (fun _ => o_pick_f rfl rfl) ?_
        refine wl_nil ?_
        refine rk_false rfl ?_
        refine rk_skip ?_
        exact rk_tof hj (Fr.le_of (by kernel_rfl) (by kernel_rfl) (by repeat' constructor)) ⟨_, _, _, rfl, by rw [hh]; rfl, fun e a h => (by rw [hh] at h; cases h), hw⟩
  clear hw
  rintro fr W ⟨ev, av, fd, rfl, hfd, hea, hw⟩
  have shw := hw.size
  first | refine rk_frame (by simp only [List.cons_append, List.nil_append, List.drop_succ_cons, List.drop_zero]; rfl) ?_ | refine wl_frame (by simp only [List.cons_append, List.nil_append, List.drop_succ_cons, List.drop_zero]; rfl) ?_
  cases hq : headOf b0 b1 with
  | none =>
    rw [hq] at hfd
    obtain rfl : fd = false := hfd
    refine rk_seq ?_
    refine rk_seq ?_
    refine rk_region ?_
    refine wl_p (fun _ => o_move rfl) ?_
    refine wl_p (fun _ => o_not rfl) ?_
    refine wl_p (fun _ => o_move rfl) ?_
    refine wl_off ?_
    refine wl_off ?_
    refine wl_off ?_
    refine wl_off ?_
    refine wl_off ?_
    refine wl_p (fun _ => o_pick_t rfl rfl) ?_
    refine wl_nil ?_
    refine rk_true rfl ?_
    refine rk_seq ?_
    refine rk_region ?_
    refine wl_p (fun _ => o_assign rfl) ?_
    refine wl_p (fun _ => o_assign rfl) ?_
    refine wl_nil ?_
    refine ret2 rfl rfl rfl ?_
    exact .inl ⟨rfl, hw, fun e a h => by cases h⟩
  | some q =>
    obtain ⟨e, a⟩ := q
    rw [hq] at hfd
    obtain rfl : fd = true := hfd
    obtain ⟨rfl, rfl⟩ := hea e a hq
    obtain ⟨he, ha⟩ := headOf_lt hq
    have ha2 : 1 ≤ (a : Int) ∧ (a : Int) ≤ 256 := by omega
    by_cases hsz : 2 + 2 * a ≤ S.length
    · obtain ⟨n0, hn0⟩ : ∃ n0, 2 + ev % 2 * a = n0 := ⟨_, rfl⟩
      have hn0b : n0 ≤ 2 + a := by
        rw [← hn0]
        have := Nat.mul_le_mul_right a (show ev % 2 ≤ 1 by omega)
        omega
      obtain ⟨u, hu⟩ : ∃ u : D32, sumB [wB8 ev] = u.1 := ⟨⟨_, sumB_len _⟩, rfl⟩
      have hu32 := u.2
      obtain ⟨r, hr⟩ : ∃ r, areaB (cur S C) n0 a = r := ⟨_, rfl⟩
      have hrl : r.length = 256 * a := by rw [← hr]; exact areaB_len (by rw [cur_len]; omega)
      obtain ⟨R, hR⟩ : ∃ R, allR u.1 r = R := ⟨_, rfl⟩
      obtain ⟨nb, hnb⟩ : ∃ nb, (bytesAll u.1 R).length = nb := ⟨_, rfl⟩
      obtain ⟨nx, hnx⟩ : ∃ nx, chainAll u.1 R = nx := ⟨_, rfl⟩
      have hn32 : nx.length = 32 := by rw [← hnx]; exact chainAll_len hu32 _
      refine rk_seq ?_
      refine rk_seq ?_
      refine rk_region ?_
      refine wl_p (fun _ => o_move rfl) ?_
      refine wl_p (fun _ => o_not rfl) ?_
      refine wl_p (fun _ => o_move rfl) ?_
      refine wl_p (fun _ => o_move rfl) ?_
      refine wl_call rfl (C_dSize _ (hd.u hw)) ?_
      rintro v48 w48 ⟨rfl, rfl⟩
      refine wl_p (fun _ => o_move rfl) ?_
      refine wl_call rfl (C_jSectorsY _ (by omega)) ?_
      rintro v50 w50 ⟨rfl, rfl⟩
      refine wl_p (fun _ => o_lt rfl rfl) ?_
      refine wl_p (fun _ => o_pick_f rfl rfl) ?_
      refine wl_nil ?_
      refine rk_if rfl (fun h52 => absurd h52 (by omega)) (fun h52 => ?_)
      refine rk_skip ?_
      refine rk_seq ?_
      refine rk_region ?_
      refine wl_p (fun _ => o_move rfl) ?_
      refine wl_p (fun _ => o_move rfl) ?_
      refine wl_p (fun _ => o_move rfl) ?_
      refine wl_call rfl (C_jMade _ rfl (by omega) hu) ?_
      rintro v56 w56 ⟨g56, ⟨rfl, ⟨f56, ⟨i56, b56⟩⟩⟩⟩
      have s56 := b56.size
      replace hw := hw.trans (b56.mono hw.size)
      refine wl_p (fun _ => o_assign rfl) ?_
      refine wl_nil ?_
      refine rk_seq ?_
      refine rk_drawo (id := 12) (none) [0, 1, 2, 4, 0, 0, 0, 96, 0, 400, 520, 1024, 2048, 2048, 2048, 0, 40959, 114687, 262143] [0, 1, 3, 7, 0, 0, 0, 96, 0, 496, 1023, 2047, 4095, 4095, 4095, 0, 40959, 114687, 262143] 296576 33408 [0, 1, 2, 3, 4, 5, 6, 8] [(.p, 0), (.p, 1), (.p, 2), (.s, 3), (.p, 4), (.p, 5), (.p, 6), (.p, 8), (.f 383 296576 33408, 11)] (by kernel_rfl) (by kernel_rfl) (by kernel_rfl) (by kernel_rfl) (by kernel_rfl) ?_
      dsimp only [inOrder, nthOp]
      replace hw := hw.drew
      replace f56 := f56.d
      refine wl_p (fun _ => o_move rfl) ?_
      refine wl_p (fun _ => o_nil rfl) ?_
      refine wl_p (fun _ => o_faddr (s := 85) (i := 6) (off := 6) Tryz.underlying85 rfl Tryz.sizeOf64 rfl rfl rfl) ?_
      refine wl_s (fun _ hk => (o_ldJch rfl (f56.u (below_of_grown_none hk)) hu32)) ?_
      refine wl_p (fun _ => o_move rfl) ?_
      refine wl_p (fun _ => o_move rfl) ?_
      refine wl_p (fun _ => o_move rfl) ?_
      refine wl_p (fun _ => o_move rfl) ?_
      have hdhi := hd.hi
      have s56 := hw.size
      simp only [drew_size] at s56
      refine wl_conc [⟨7, [], [65], [], fun vs w' lo hi => vs = [.int .i64 (n0 : Int)]⟩, ⟨9, [], [67], [0], fun vs w' lo hi => ∃ (A67 : Option Addr) (c67 : Nat), vs = [.slice A67 r.length c67] ∧ OwnH w' lo hi A67 c67 r⟩, ⟨10, [(.p, 11), (.p, 12), (.p, 13), (.p, 14)], [71, 70, 69, 57, 68], [0, 1], fun vs w' lo hi => ∃ (A68 : Option Addr) (c68 : Nat) (u57 u68 : Value), vs = [.agg (B8 nx).toArray, .int .i64 (nb : Int), .slice A68 R.length c68, u57, u68] ∧ OwnRec w' lo hi A68 c68 R⟩, ⟨15, [], [13], [], fun vs w' lo hi => ∃ (g13 : Nat), vs = [.pointer (some ⟨g13, 0, none⟩)] ∧ Blk w' g13 64 (B8 nul32) ∧ lo ≤ g13 ∧ g13 < hi⟩] [0, 1, 2, 3] [0, 1, 2, 4, 0, 0, 0, 96, 0, 400, 520, 1024, 2048, 2048, 2048, 0, 40959, 114687, 262143] [0, 1, 3, 7, 0, 0, 0, 96, 0, 496, 1023, 2047, 4095, 4095, 4095, 0, 40959, 114687, 262143] [16, 17, 18] [(.p, 16), (.p, 17), (.l, 18)] (by kernel_rfl) (by kernel_rfl) (by kernel_rfl) (by kernel_rfl) ⟨fun _ _ _ _ _ h _ => h, fun _ _ _ _ _ h hb => by obtain ⟨A67, c67, e0, g0⟩ := h; exact ⟨A67, c67, e0, g0.u hb⟩, fun _ _ _ _ _ h hb => by obtain ⟨A68, c68, u57, u68, e0, g0⟩ := h; exact ⟨A68, c68, u57, u68, e0, g0.u hb⟩, fun _ _ _ _ _ h hb => by obtain ⟨g13, e0, g0, g1, g2⟩ := h; exact ⟨g13, e0, g0.u hb, g1, g2⟩, trivial⟩ ⟨?_, ?_, ?_, ?_, trivial⟩ ?_
      · intro wI hbI fo T T2 n2
        intro hk
        dsimp only [Item.idx, inOrder, nthOp, List.map, List.zip_cons_cons, List.zip_nil_right, List.cons_append, List.nil_append]
        have shbI := hbI.size
        simp only [drew_size] at shbI
        replace hw := hw.trans (hbI.mono hw.size)
        replace f56 := f56.u hbI
        have hw1 := Below.refl wI.heap.size wI
        refine wl_call rfl (C_jFirstB _ rfl rfl hn0 (by omega) (by omega)) ?_ (hq := .inr fun _ _ h => grown_of_below h.2 _)
        rintro v65 w65 ⟨rfl, b65⟩
        have s65 := b65.size
        replace hw := hw.trans (b65.mono hw.size)
        replace hw1 := hw1.trans (b65.mono hw1.size)
        replace f56 := f56.u b65
        exact hk [_] _ rfl hw1
      · intro wI hbI fo T T2 n2
        rintro _ lo0 hi0 ⟨rfl⟩ ql0 qm0 qh0 -
        try dsimp only at ql0 qm0 qh0 
        try simp only [drew_size] at ql0 qm0 qh0 
        intro hk
        dsimp only [Item.idx, inOrder, nthOp, List.map, List.zip_cons_cons, List.zip_nil_right, List.cons_append, List.nil_append]
        have shbI := hbI.size
        simp only [drew_size] at shbI
        replace hw := hw.trans (hbI.mono hw.size)
        replace f56 := f56.u hbI
        have hw1 := Below.refl wI.heap.size wI
        refine wl_call rfl (C_jRead _ (hd.u hw) rfl rfl hr (by omega)) ?_ (hq := .inr fun _ _ h => grown_of_below h.choose_spec.choose_spec.2.2 _)
        rintro v67 w67 ⟨A67, ⟨c67, ⟨rfl, ⟨f67, b67⟩⟩⟩⟩
        have qf67 := f67.cap
        have s67 := b67.size
        replace hw := hw.trans (b67.mono hw.size)
        replace hw1 := hw1.trans (b67.mono hw1.size)
        replace f56 := f56.u b67
        exact hk [_] _ ⟨_, _, rfl, f67⟩ hw1
      · intro wI hbI fo T T2 n2
        rintro _ lo0 hi0 ⟨rfl⟩ ql0 qm0 qh0 -
        rintro _ lo1 hi1 ⟨A67, c67, rfl, f67⟩ ql1 qm1 qh1 ⟨qa1_0, -⟩
        try dsimp only at ql0 qm0 qh0  ql1 qm1 qh1 qa1_0
        try simp only [drew_size] at ql0 qm0 qh0  ql1 qm1 qh1 qa1_0
        intro hk
        dsimp only [Item.idx, inOrder, nthOp, List.map, List.zip_cons_cons, List.zip_nil_right, List.cons_append, List.nil_append]
        have shbI := hbI.size
        simp only [drew_size] at shbI
        replace hw := hw.trans (hbI.mono hw.size)
        replace f56 := f56.u hbI
        have hw1 := Below.refl wI.heap.size wI
        refine wl_call rfl (C_AllN _ hR hnb hnx f67.to_Rd rfl f67.cap hu32 (by omega)) ?_
        rintro v68 w68 ⟨A68, ⟨c68, ⟨rfl, ⟨f68, b68⟩⟩⟩⟩
        have qf68 := f68.cap
        have s68 := b68.size
        replace hw := hw.trans (b68.mono hw.size)
        replace hw1 := hw1.trans (b68.mono hw1.size)
        replace f56 := f56.u b68
        replace f67 := f67.u b68
        refine wl_p (fun _ => o_move rfl) ?_
        refine wl_p (fun _ => o_ext30 rfl) ?_
        refine wl_p (fun _ => o_ext31 rfl) ?_
        refine wl_p (fun _ => o_ext32 rfl) ?_
        exact hk [_, _, _, _, _] _ ⟨_, _, _, _, rfl, f68⟩ hw1
      · intro wI hbI fo T T2 n2
        intro hk
        dsimp only [Item.idx, inOrder, nthOp, List.map, List.zip_cons_cons, List.zip_nil_right, List.cons_append, List.nil_append]
        have shbI := hbI.size
        simp only [drew_size] at shbI
        replace hw := hw.trans (hbI.mono hw.size)
        replace f56 := f56.u hbI
        have hw1 := Below.refl wI.heap.size wI
        refine wl_allocB Tryz.underlying64 Tryz.zeroValue64 (by rfl) ?_
        rintro g13 w13 f13 b13 i13 i13_1
        have s13 := b13.size
        replace hw := hw.trans (b13.mono hw.size)
        replace hw1 := hw1.trans (b13.mono hw1.size)
        replace f56 := f56.u b13
        exact hk [_] _ ⟨_, rfl, f13, by omega, by omega⟩ hw1
      intro wE hbE
      rintro _ lo0 hi0 ⟨rfl⟩ ql0 qm0 qh0 -
      rintro _ lo1 hi1 ⟨A67, c67, rfl, f67⟩ ql1 qm1 qh1 ⟨qa1_0, -⟩
      rintro _ lo2 hi2 ⟨A68, c68, u57, u68, rfl, f68⟩ ql2 qm2 qh2 ⟨qa2_1, qa2_0, -⟩
      rintro _ lo3 hi3 ⟨g13, rfl, f13, f13_1, f13_2⟩ ql3 qm3 qh3 ⟨qa3_2, qa3_1, qa3_0, -⟩
      try dsimp only at ql0 qm0 qh0  ql1 qm1 qh1 qa1_0 ql2 qm2 qh2 qa2_0 qa2_1 ql3 qm3 qh3 qa3_0 qa3_1 qa3_2
      try simp only [drew_size] at ql0 qm0 qh0  ql1 qm1 qh1 qa1_0 ql2 qm2 qh2 qa2_0 qa2_1 ql3 qm3 qh3 qa3_0 qa3_1 qa3_2
      dsimp only [given, Item.idx, inOrder, nthOp, List.map, List.zip_cons_cons, List.zip_nil_right]
      have shbE := hbE.size
      simp only [drew_size] at shbE
      replace hw := hw.trans (hbE.mono hw.size)
      replace f56 := f56.u hbE
      have hcE : Chg lo1 hi1 wE wE := Chg.refl
      refine wl_p (fun _ => o_assign rfl) ?_
      refine wl_p (fun _ => o_assign rfl) ?_
      refine wl_stBa Tryz.sizeOf64 rfl f13 rfl hn32 (by rfl) ?_
      rintro w_1 f g e
      have s := g.size
      replace hw := hw.trans (below_of_grownBy g.g hw.size (by omega))
      replace f56 := f56.y g (by decide)
      replace f68 := f68.y g (by decide)
      replace f67 := f67.k g.g (ap_some (by omega))
      clear f13
      refine wl_nild ?_
      refine rk_seq ?_
      refine rk_region ?_
      refine wl_p (fun _ => o_move rfl) ?_
      refine wl_p (fun _ => o_move rfl) ?_
      have szE := hcE.size
      obtain ⟨e1, he1⟩ : ∃ e1, (ev + 1) % 18446744073709551616 = e1 := ⟨_, rfl⟩
      have hRo : ∀ x ∈ R, OkR x := by rw [← hR]; exact allR_ok
      have hfit : (bytesAll (fstB e1) R).length ≤ a * 256 := by
        have := allR_len (c := u.1) (b := r)
        rw [hR, bytesAll_sz] at this
        rw [bytesAll_sz]; omega
      have sw1 := hw.size
      have hdw := hd.u hw
      refine wl_call rfl (K_jChange (R := R) (u := ⟨fstB e1, sumB_len _⟩) _ hdw f56 hu32 f68.to_RRec rfl hRo ha he he1 rfl rfl rfl hfit hsz (by omega) rfl rfl rfl rfl rfl rfl rfl rfl rfl) ?_
      rintro _ w74 ⟨rfl, L', c', q1, q2, q3, w1, q4, q5⟩
      have q6 := ((Chg.of_below hw : Chg dl dh _ _).trans q4).andNew q5.g (fun j e => by injection e with e; omega)
      have q7 := q2.base sw1 (Nat.le_refl _)
      clear hw q5 q4
      refine wl_nil ?_
      refine rk_seq ?_
      refine rk_region ?_
      refine wl_p (fun _ => o_move rfl) ?_
      refine wl_p (fun _ => o_assign rfl) ?_
      refine wl_p (fun _ => o_assign rfl) ?_
      refine wl_nil ?_
      refine ret2 rfl rfl rfl ?_
      refine .inr ⟨ev, a, e1, g56, L', c', R, _, _, rfl, hsz, he1, ?_, rfl, rfl, rfl, q1, q7, q3, q6, by omega⟩
      rw [← hR, ← hr, ← hu, ← hn0]
      rfl
    · refine rk_seq ?_
      refine rk_seq ?_
      refine rk_region ?_
      refine wl_p (fun _ => o_move rfl) ?_
      refine wl_p (fun _ => o_not rfl) ?_
      refine wl_p (fun _ => o_move rfl) ?_
      refine wl_p (fun _ => o_move rfl) ?_
      refine wl_call rfl (C_dSize _ (hd.u hw)) ?_
      rintro v48 w48 ⟨rfl, rfl⟩
      refine wl_p (fun _ => o_move rfl) ?_
      refine wl_call rfl (C_jSectorsY _ (by omega)) ?_
      rintro v50 w50 ⟨rfl, rfl⟩
      refine wl_p (fun _ => o_lt rfl rfl) ?_
      refine wl_p (fun _ => o_pick_f rfl rfl) ?_
      refine wl_nil ?_
      refine rk_if rfl (fun h52 => ?_) (fun h52 => h52.elim (by omega))
      refine rk_seq ?_
      refine rk_region ?_
      refine wl_p (fun _ => o_assign rfl) ?_
      refine wl_p (fun _ => o_assign rfl) ?_
      refine wl_nil ?_
      refine ret2 rfl rfl rfl ?_
      exact .inl ⟨rfl, hw, fun e1 a1 h => by injection h with h; injection h with h1 h2; omega⟩
theorem C_jOpenOk {dl dh gd e a e1 : Nat} {S S2 : List Sec} {C C1 : List (Option Sec)} {b0 b1 b nx : By} {R : List Rc} (w : World) (hd : DkAt w dl dh gd S C) (h0 : rdD S C ((0 : Nat) : Int) = (b0, 0)) (h1 : rdD S C ((1 : Nat) : Int) = (b1, 0)) (hh : headOf b0 b1 = some (e, a)) (he1 : (e + 1) % 18446744073709551616 = e1) (hR : allR (fstB e) (areaB (cur S C) (2 + e % 2 * a) a) = R) (hb : bytesAll (fstB e1) R = b) (hnx : chainAll (fstB e1) R = nx) (hS2 : swS S C a e1 b = S2) (hC1 : List.replicate S.length none = C1) (l0 : b0.length = 256) (l1 : b1.length = 256) (hS : 2 ≤ S.length) (hsz : 2 + 2 * a ≤ S.length) :
    CallsR Tryz.prog 22 [.pointer (some ⟨gd, 0, none⟩)] w fun v w' => ∃ (g : Nat) (L' : Option Addr) (c' : Nat), v = .tuple #[.pointer (some ⟨g, 0, none⟩), .int .i64 0] ∧ Blk w' g 85 (jC (some ⟨g, 0, none⟩) (some ⟨gd, 0, none⟩) a e1 L' b.length c' b.length nx R.length R.length) ∧ OwnH w' w.heap.size w'.heap.size L' c' b ∧ DkAt w' dl dh gd S2 C1 ∧ Chg dl dh w w' ∧ w.heap.size ≤ g := by
  refine (K_jOpen w hd h0 h1 l0 l1 hS).mono ?_
  rintro v w' (⟨_, _, h⟩ | ⟨e', a', e1', g, L', c', R', b', nx', k1, k2, k3, k4, k5, k6, k7, k8, k9, k10, k11, k12⟩)
  · have := h e a hh; omega
  · rw [hh] at k1
    injection k1 with k1
    injection k1 with k1 k1'
    subst k1; subst k1'
    obtain rfl := he1.symm.trans k3
    obtain rfl := hR.symm.trans k4
    obtain rfl := hb.symm.trans k5
    obtain rfl := hnx.symm.trans k6
    rw [hS2, hC1] at k10
    exact ⟨g, L', c', k7, k8, k9, k10, k11, k12⟩
end Go.Proofs.YtnnhenafhalobaaGreat
/-
  A journal on a disk: what lies in memory, and what each method makes of it.
-/
namespace Go.Proofs.YtnnhenafhalobaaGreat
set_option maxRecDepth 100000
open Go.RowKit
--@ hide C_jWriteH
--@ hide C_jWrite
set_option maxRecDepth 100000 in
set_option maxHeartbeats 1000000 in
theorem K_jAppendBad {g n m : Nat} {e c : Nat} {a t k s : Int} {d L A : Option Addr} {ch p : By} {kd : UInt8} {x : Int} {nl : Nat} (w : World) (hB : Blk w g 85 (jC (some ⟨g, 0, none⟩) d a e L nl c t ch k s)) (hp : Rd w A p) (hkd : x = (kd.toNat : Int)) (hn : n = p.length) (hl : p.length ≤ 9000) (hch : ch.length = 32) (hO : ¬OkR (kd, p)) :
    CallsR Tryz.prog 15 [.pointer (some ⟨g, 0, none⟩), .agg #[.int .u8 x, .slice A n m]] w fun v w' => v = .int .i64 2 ∧ Below w.heap.size w w' := by
  subst hn
  refine callsR Tryz.func15 rfl rfl (by kernel_rfl) rfl ?_
  have hw := Below.refl w.heap.size w
  refine rk_seq ?_
  refine rk_region ?_
  refine wl_boxg [_, _] rfl (by rfl) ?_
  rintro g3 w3 f3 b3 i3 i3_1
  have s3 := b3.size
  replace hw := hw.trans (b3.mono hw.size)
  refine wl_p (fun _ => o_assign rfl) ?_
  refine wl_nil ?_
  refine rk_seq ?_
  refine rk_seq ?_
  refine rk_region ?_
  refine wl_p (fun _ => o_move rfl) ?_
  refine wl_call rfl (C_jValid _ (hB.u hw)) ?_
  rintro v15 w15 ⟨rfl, rfl⟩
  refine wl_p (fun _ => o_not rfl) ?_
  refine wl_nil ?_
  refine rk_false rfl ?_
  refine rk_skip ?_
  refine rk_seq ?_
  refine rk_drawo (id := 3) (none) [0, 1, 2, 4, 0, 24, 32, 64, 64, 64, 0, 1279, 3583, 8191] [0, 1, 3, 7, 0, 31, 63, 127, 127, 127, 0, 1279, 3583, 8191] 5152 1024 [0, 1, 2, 3, 4] [(.p, 0), (.p, 1), (.p, 2), (.s, 3), (.s, 4), (.f 31 5152 1024, 9)] (by kernel_rfl) (by kernel_rfl) (by kernel_rfl) (by kernel_rfl) (by kernel_rfl) ?_
  dsimp only [inOrder, nthOp]
  replace hw := hw.drew
  replace f3 := f3.d
  refine wl_p (fun _ => o_move rfl) ?_
  refine wl_p (fun _ => o_nil rfl) ?_
  refine wl_p (fun _ => o_faddr (s := 85) (i := 6) (off := 6) Tryz.underlying85 rfl Tryz.sizeOf64 rfl rfl rfl) ?_
  refine wl_s (fun _ hk => (o_ldJch rfl ((hB.u hw).u (below_of_grown_none hk)) hch)) ?_
  refine wl_s (fun _ hk => (o_loadag Tryz.isAgg37 Tryz.sizeOf37 rfl (f3.u (below_of_grown_none hk)) (by rfl))) ?_
  refine wl_conc [⟨5, [(.p, 6), (.p, 7), (.p, 8), (.p, 9)], [26, 25, 24, 17, 23], [], fun vs w' lo hi => ∃ (A24 : Option Addr) (n24 c24 : Nat) (y : By) (u17 u23 : Value), vs = [.int .i64 2, .agg (B8 y).toArray, .slice A24 n24 c24, u17, u23] ∧ y.length = 32⟩, ⟨10, [], [6], [], fun vs w' lo hi => ∃ (g6 : Nat), vs = [.pointer (some ⟨g6, 0, none⟩)] ∧ Blk w' g6 64 (B8 nul32) ∧ lo ≤ g6 ∧ g6 < hi⟩] [0, 1] [0, 1, 2, 4, 0, 24, 32, 64, 64, 64, 0, 1279, 3583, 8191] [0, 1, 3, 7, 0, 31, 63, 127, 127, 127, 0, 1279, 3583, 8191] [11, 12, 13] [(.p, 11), (.l, 12), (.p, 13)] (by kernel_rfl) (by kernel_rfl) (by kernel_rfl) (by kernel_rfl) ⟨fun _ _ _ _ _ h hb => by obtain ⟨A24, n24, c24, y, u17, u23, e0, g0⟩ := h; exact ⟨A24, n24, c24, y, u17, u23, e0, g0⟩, fun _ _ _ _ _ h hb => by obtain ⟨g6, e0, g0, g1, g2⟩ := h; exact ⟨g6, e0, g0.u hb, g1, g2⟩, trivial⟩ ⟨?_, ?_, trivial⟩ ?_
  · intro wI hbI fo T T2 n2
    intro hk
    dsimp only [Item.idx, inOrder, nthOp, List.map, List.zip_cons_cons, List.zip_nil_right, List.cons_append, List.nil_append]
    have shbI := hbI.size
    simp only [drew_size] at shbI
    replace hw := hw.trans (hbI.mono hw.size)
    replace f3 := f3.u hbI
    have hw1 := Below.refl wI.heap.size wI
    refine wl_call rfl (C_RecBytesBad _ hkd (hp.u hw) (by omega) rfl (by omega) hch) ?_
    rintro v23 w23 ⟨A23, ⟨c23, ⟨e23, ⟨rfl, ⟨f23, ⟨e23_1, b23⟩⟩⟩⟩⟩⟩
    have qf23 := f23.cap
    have s23 := b23.size
    replace hw := hw.trans (b23.mono hw.size)
    replace hw1 := hw1.trans (b23.mono hw1.size)
    replace f3 := f3.u b23
    refine wl_p (fun _ => o_move rfl) ?_
    refine wl_p (fun _ => o_ext30 rfl) ?_
    refine wl_p (fun _ => o_ext31 rfl) ?_
    refine wl_p (fun _ => o_ext32 rfl) ?_
    exact hk [_, _, _, _, _] _ ⟨_, _, _, _, _, _, rfl, by assumption⟩ hw1
  · intro wI hbI fo T T2 n2
    intro hk
    dsimp only [Item.idx, inOrder, nthOp, List.map, List.zip_cons_cons, List.zip_nil_right, List.cons_append, List.nil_append]
    have shbI := hbI.size
    simp only [drew_size] at shbI
    replace hw := hw.trans (hbI.mono hw.size)
    replace f3 := f3.u hbI
    have hw1 := Below.refl wI.heap.size wI
    refine wl_allocB Tryz.underlying64 Tryz.zeroValue64 (by rfl) ?_
    rintro g6 w6 f6 b6 i6 i6_1
    have s6 := b6.size
    replace hw := hw.trans (b6.mono hw.size)
    replace hw1 := hw1.trans (b6.mono hw1.size)
    replace f3 := f3.u b6
    exact hk [_] _ ⟨_, rfl, f6, by omega, by omega⟩ hw1
  intro wE hbE
  rintro _ lo0 hi0 ⟨A24, n24, c24, y, u17, u23, rfl, f23⟩ ql0 qm0 qh0 -
  rintro _ lo1 hi1 ⟨g6, rfl, f6, f6_1, f6_2⟩ ql1 qm1 qh1 ⟨qa1_0, -⟩
  try dsimp only at ql0 qm0 qh0  ql1 qm1 qh1 qa1_0
  try simp only [drew_size] at ql0 qm0 qh0  ql1 qm1 qh1 qa1_0
  dsimp only [given, Item.idx, inOrder, nthOp, List.map, List.zip_cons_cons, List.zip_nil_right]
  have shbE := hbE.size
  simp only [drew_size] at shbE
  replace hw := hw.trans (hbE.mono hw.size)
  replace f3 := f3.u hbE
  refine wl_p (fun _ => o_assign rfl) ?_
  refine wl_stBa Tryz.sizeOf64 rfl f6 rfl f23 (by rfl) ?_
  rintro w_1 f g_1 e_1
  have s_1 := g_1.size
  replace hw := hw.trans (below_of_grownBy g_1.g hw.size (by omega))
  replace f3 := f3.k g_1.g (ap_some (by omega))
  clear f6
  refine wl_p (fun _ => o_assign rfl) ?_
  refine wl_nild ?_
  refine rk_seq ?_
  refine rk_seq ?_
  refine rk_region ?_
  refine wl_p (fun _ => o_move rfl) ?_
  refine wl_p (fun _ => o_ne rfl rfl) ?_
  refine wl_nil ?_
  refine rk_true rfl ?_
  refine rk_seq ?_
  refine rk_region ?_
  refine wl_p (fun _ => o_move rfl) ?_
  refine wl_p (fun _ => o_assign rfl) ?_
  refine wl_nil ?_
  refine ret1 rfl rfl ?_
  exact ⟨rfl, hw⟩
/-- The disk when a journal is made on it. -/
def fmS (S : List Sec) (C : List (Option Sec)) (a : Nat) : List Sec :=
  cur (cur S (wrs (wrs C 1 (secsN 1 (List.replicate 256 0))) 2 (secsN a (List.replicate (a * 256) 0)))) (wrs (List.replicate S.length none) 0 (secsN 1 (headB 0 a)))
/-- What is cached when bytes are appended to an area of so many. -/
def appC (S : List Sec) (C : List (Option Sec)) (a e n : Nat) (bs : By) : List (Option Sec) :=
  wrs C (2 + e % 2 * a + n / 256) (secsN ((n + bs.length - 1) / 256 - n / 256 + 1) (overJ (areaB (cur S C) (2 + e % 2 * a + n / 256) ((n + bs.length - 1) / 256 - n / 256 + 1)) (n - 256 * (n / 256)) bs))
theorem DkAt.y {w w' : World} {lo hi g : Nat} {S : List Sec} {C : List (Option Sec)} {e' : TypeId} {row : Option Nat} (h : DkAt w lo hi g S C) (hg : Grew w w' e' row) (hne : e' ∉ [98, 95]) : DkAt w' lo hi g S C := by
  obtain ⟨A, c, b, h1, h2, h3, h4, h5, h6⟩ := h.ex
  simp only [List.mem_cons, List.not_mem_nil, or_false, not_or] at hne
  exact ⟨⟨A, c, b, h1.y hg hne.1, h2.y hg (by simpa using hne.2), h3.y hg rfl, h4, h5, h6⟩, h.g1, h.g2, by have := h.hi; have := hg.g.size; omega, h.len, h.n1, h.n2⟩
/-- A journal on a disk: the disk in the blocks from dl to dh, the journal at g, its log at L. -/
structure JSt (w : World) (dl dh gd g : Nat) (L : Option Addr) (S : List Sec) (C : List (Option Sec)) (a e : Nat) (R : List Rc) (s : Nat) : Prop where
  ex : ∃ (lo hi c : Nat) (b ch : By), Blk w g 85 (jC (some ⟨g, 0, none⟩) (some ⟨gd, 0, none⟩) a e L b.length c b.length ch R.length s) ∧ OwnH w lo hi L c b ∧ bytesAll (fstB e) R = b ∧ chainAll (fstB e) R = ch ∧ dh ≤ lo ∧ lo ≤ hi ∧ hi ≤ w.heap.size
  dk : DkAt w dl dh gd S C
  ok : ∀ r ∈ R, OkR r
  fit : szR R ≤ a * 256
  ha : 1 ≤ a ∧ a ≤ 256
  he : e < 18446744073709551616
  hg : dh ≤ g
  hS : 2 + 2 * a ≤ S.length
section
variable {w w' : World} {dl dh gd g a e s lo hi : Nat} {L : Option Addr} {S : List Sec} {C : List (Option Sec)} {R : List Rc}
theorem JSt.u (h : JSt w dl dh gd g L S C a e R s) (hb : Below w.heap.size w w') : JSt w' dl dh gd g L S C a e R s := by
  obtain ⟨lo, hi, c, b, ch, h1, h2, h3, h4, h5, h6, h7⟩ := h.ex
  exact ⟨⟨lo, hi, c, b, ch, h1.u hb, h2.u hb, h3, h4, h5, h6, by have := hb.size; omega⟩, h.dk.u hb, h.ok, h.fit, h.ha, h.he, h.hg, h.hS⟩
theorem JSt.d (h : JSt w dl dh gd g L S C a e R s) : JSt w.drew dl dh gd g L S C a e R s := h.u (below_drew w)
theorem JSt.y {e' : TypeId} {row : Option Nat} (h : JSt w dl dh gd g L S C a e R s) (hg : Grew w w' e' row) (hne : e' ∉ [85, 5, 98, 95]) : JSt w' dl dh gd g L S C a e R s := by
  obtain ⟨lo, hi, c, b, ch, h1, h2, h3, h4, h5, h6, h7⟩ := h.ex
  simp only [List.mem_cons, List.not_mem_nil, or_false, not_or] at hne
  exact ⟨⟨lo, hi, c, b, ch, h1.y hg hne.1, RowH.y h2 hg hne.2.1, h3, h4, h5, h6, by have := hg.g.size; omega⟩, h.dk.y hg (by simp [hne.2.2]), h.ok, h.fit, h.ha, h.he, h.hg, h.hS⟩
theorem JSt.len (h : JSt w dl dh gd g L S C a e R s) : R.length ≤ 65536 := by
  have := bytesAll_ge (fstB e) R
  rw [bytesAll_sz] at this
  have := h.fit
  have := h.ha
  omega
theorem JSt.lt (h : JSt w dl dh gd g L S C a e R s) : g < w.heap.size := by
  obtain ⟨lo, hi, c, b, ch, h1, _⟩ := h.ex
  exact h1.lt
theorem JSt.row (h : JSt w dl dh gd g L S C a e R s) : ∀ k, blk L = some k → dh ≤ k ∧ k < w.heap.size := by
  obtain ⟨lo, hi, c, b, ch, h1, h2, h3, h4, h5, h6, h7⟩ := h.ex
  intro k hk
  have := RowH.lt h2 k hk
  omega
/-- What a method changes: the disk, the log, the journal. -/
inductive JCh (dl dh g : Nat) (L : Option Addr) : World → World → Prop
  | refl (w : World) : JCh dl dh g L w w
  | chg {w w1 w2 : World} (h : JCh dl dh g L w w1) (k : Chg dl dh w1 w2) : JCh dl dh g L w w2
  | log {w w1 w2 : World} (h : JCh dl dh g L w w1) (k : Grew w1 w2 5 (blk L)) : JCh dl dh g L w w2
  | self {w w1 w2 : World} (h : JCh dl dh g L w w1) (k : Grew w1 w2 85 (some g)) : JCh dl dh g L w w2
theorem JCh.size (h : JCh dl dh g L w w') : w.heap.size ≤ w'.heap.size := by
  induction h with
  | refl => exact Nat.le_refl _
  | chg _ k ih => have := k.size; omega
  | log _ k ih => have := k.size; omega
  | self _ k ih => have := k.size; omega
theorem JCh.block {k : Nat} (h : JCh dl dh g L w w') (hk : k < w.heap.size) (h1 : k < dl ∨ dh ≤ k) (h2 : k ≠ g) (h3 : blk L ≠ some k) : w'.heap[k]? = w.heap[k]? := by
  induction h with
  | refl => rfl
  | chg h q ih => exact (q.block k (by have := h.size; omega) h1).trans ih
  | log h q ih => exact (q.g.block k (by have := h.size; omega) (fun e => h3 e.symm)).trans ih
  | self h q ih => exact (q.g.block k (by have := h.size; omega) (fun e => h2 (by injection e))).trans ih
theorem JCh.bel {B : Nat} (h : JCh dl dh g L w w') (hB : B ≤ w.heap.size) (h1 : B ≤ dl) (h2 : B ≤ g) (h3 : ∀ k, blk L = some k → B ≤ k) : Below B w w' := by
  induction h with
  | refl => exact Below.refl _ _
  | chg h k ih => exact ih.trans (k.below (by have := h.size; omega) h1)
  | log h k ih => exact ih.trans (k.below (by have := h.size; omega) h3)
  | self h k ih => exact ih.trans (k.below (by have := h.size; omega) (fun j e => by injection e with e; omega))
theorem JCh.own {B : Nat} (h : JCh dl dh g L w w') (hs : JSt w dl dh gd g L S C a e R s) (hB : B ≤ dl) : Below B w w' := by
  have h1 := hs.dk.g1
  have h2 := hs.dk.g2
  have h3 := hs.dk.hi
  have h4 := hs.hg
  exact h.bel (by omega) hB (by omega) (fun k hk => by have := hs.row k hk; omega)
end
theorem fst_len (e : Nat) : (fstB e).length = 32 := sumB_len _
theorem C_jsFormat {dl dh gd a : Nat} {S S1 : List Sec} {C C1 : List (Option Sec)} {z : Int} (w : World) (hd : DkAt w dl dh gd S C) (hz : z = a) (h1 : fmS S C a = S1) (h4 : List.replicate S.length none = C1) (ha : 1 ≤ a ∧ a ≤ 256) (hn : 2 + 2 * a ≤ S.length) :
    CallsR Tryz.prog 12 [.pointer (some ⟨gd, 0, none⟩), .int .i64 z] w fun v w' => ∃ g, v = .tuple #[.pointer (some ⟨g, 0, none⟩), .int .i64 0] ∧ JSt w' dl dh gd g none S1 C1 a 0 [] 0 ∧ w.heap.size ≤ g ∧ Chg dl dh w w' := by
  subst h1; subst h4
  have hdh := hd.hi
  refine (K_jFormat (u := ⟨fstB 0, sumB_len _⟩) w hd hz ha hn rfl rfl rfl rfl rfl rfl rfl rfl rfl rfl).mono ?_
  rintro v w' ⟨g, rfl, hB, hg, hD, hC⟩
  have hs := hC.size
  exact ⟨g, rfl, ⟨⟨w'.heap.size, w'.heap.size, 0, [], fstB 0, hB, OwnH.nil_, rfl, rfl, by omega, Nat.le_refl _, Nat.le_refl _⟩, hD, by simp, by simp [szR], ha, by decide, by omega, by rw [fmS, cur_len, cur_len]; exact hn⟩, hg, hC⟩
theorem K_jsAppend {dl dh gd g a e s n m : Nat} {L A : Option Addr} {S : List Sec} {C C1 : List (Option Sec)} {R : List Rc} {p bs : By} {kd : UInt8} {x : Int} (w : World) (h : JSt w dl dh gd g L S C a e R s) (hp : Rd w A p) (hkd : x = (kd.toNat : Int)) (hn : n = p.length) (hO : OkR (kd, p)) (hl : p.length ≤ 9000) (hbs : bytesR (chainAll (fstB e) R) (kd, p) = bs) (hC1 : appC S C a e (szR R) bs = C1) (hfit : szR R + bs.length ≤ a * 256) :
    CallsR Tryz.prog 15 [.pointer (some ⟨g, 0, none⟩), .agg #[.int .u8 x, .slice A n m]] w fun v w' => v = .int .i64 0 ∧ ∃ L', JSt w' dl dh gd g L' S C1 a e (R ++ [(kd, p)]) s ∧ JCh dl dh g L w w' ∧ (blk L' = blk L ∨ ∀ k, blk L' = some k → w.heap.size ≤ k) := by
  obtain ⟨lo, hi, c, b, ch, hB, hL, hb, hch, q1, q2, q3⟩ := h.ex
  have hcl : ch.length = 32 := by rw [← hch]; exact chainAll_len (fst_len e) _
  have hbl : b.length = szR R := by rw [← hb, bytesAll_sz]
  have hgl := h.hg
  have hRl := h.len
  have hdk := h.dk
  have hd1 := hdk.g1
  have hd2 := hdk.g2
  have hbs9 : 9 ≤ bs.length := by
    rw [← hbs, bytesR_len, bodyB, List.length_append, List.length_singleton]; omega
  rw [hch] at hbs
  subst hC1
  refine (K_jAppend (nx := nextB ch (kd, p)) (low := szR R / 256) (tt := szR R + bs.length - 1) (hgh := (szR R + bs.length - 1) / 256) (n0 := 2 + e % 2 * a) (M := (szR R + bs.length - 1) / 256 - szR R / 256 + 1) (r := szR R - 256 * (szR R / 256)) w h.dk hB hL hp hkd hn hl hcl hO hbs rfl h.ha h.he (by rw [hbl]; exact hfit) h.hS (.inr hgl) (.inr q1) ⟨q2, q3⟩ (by omega) (by rw [hbl]) (by rw [hbl]; omega) rfl rfl rfl rfl (by rw [hbl]) rfl).mono ?_
  rintro v w' ⟨rfl, L', c', hB2, hL2, k0, w1, w2, k1, k2, k3, k4⟩
  have e0 : (((R ++ [(kd, p)]).length : Nat) : Int) = (R.length : Int) + 1 := by simp
  have s1 := k2.size
  have s2 := k3.size
  have s3 := k4.size
  have hrL : ∀ k, blk L = some k → dh ≤ k := fun k hk => by have := RowH.lt hL k hk; omega
  have hD2 : DkAt w' dl dh gd S (appC S C a e (szR R) bs) := (k1.k k3.g (fun k hk => .inr (hrL k hk))).k k4.g (fun k hk => by injection hk with hk; omega)
  refine ⟨rfl, L', ⟨⟨lo, w'.heap.size, c', b ++ bs, nextB ch (kd, p), by rw [e0]; exact hB2, hL2, ?_, ?_, q1, by omega, Nat.le_refl _⟩, hD2, ?_, ?_, h.ha, h.he, h.hg, h.hS⟩, ((((JCh.refl w).chg k2).log k3).self k4), ?_⟩
  · rw [bytesAll_append, hb, hch]
    simp [bytesAll, hbs]
  · rw [chainAll_append, hch]
    rfl
  · intro r hr
    rcases List.mem_append.1 hr with hr | hr
    · exact h.ok r hr
    · rw [List.mem_singleton] at hr; exact hr ▸ hO
  · rw [← bytesAll_sz (fstB e), bytesAll_append, List.length_append, hb, hch, hbl]
    simpa [bytesAll, hbs] using hfit
  · exact k0
theorem C_jsAppendFull {dl dh gd g a e s n m : Nat} {L A : Option Addr} {S : List Sec} {C : List (Option Sec)} {R : List Rc} {p : By} {kd : UInt8} {x : Int} (w : World) (h : JSt w dl dh gd g L S C a e R s) (hp : Rd w A p) (hkd : x = (kd.toNat : Int)) (hn : n = p.length) (hO : OkR (kd, p)) (hl : p.length ≤ 9000) (hfit : a * 256 < szR R + ((bodyB (kd, p)).length + 8)) :
    CallsR Tryz.prog 15 [.pointer (some ⟨g, 0, none⟩), .agg #[.int .u8 x, .slice A n m]] w fun v w' => v = .int .i64 7 ∧ Below w.heap.size w w' := by
  obtain ⟨lo, hi, c, b, ch, hB, hL, hb, hch, q1, q2, q3⟩ := h.ex
  have hbl : b.length = szR R := by rw [← hb, bytesAll_sz]
  exact K_jAppendFull (low := 0) (tt := 0) (hgh := 0) (n0 := 0) (M := 0) (r := 0) (TA := []) (TB := []) w h.dk hB hL hp hkd hn hl (by rw [← hch]; exact chainAll_len (fst_len e) _) hO rfl rfl h.ha h.he (by rw [hbl]; exact h.fit) (by rw [hbl, bytesR_len]; exact hfit) ⟨q2, q3⟩
theorem C_jsAppendBad {dl dh gd g a e s n m : Nat} {L A : Option Addr} {S : List Sec} {C : List (Option Sec)} {R : List Rc} {p : By} {kd : UInt8} {x : Int} (w : World) (h : JSt w dl dh gd g L S C a e R s) (hp : Rd w A p) (hkd : x = (kd.toNat : Int)) (hn : n = p.length) (hO : ¬OkR (kd, p)) (hl : p.length ≤ 9000) :
    CallsR Tryz.prog 15 [.pointer (some ⟨g, 0, none⟩), .agg #[.int .u8 x, .slice A n m]] w fun v w' => v = .int .i64 2 ∧ Below w.heap.size w w' := by
  obtain ⟨lo, hi, c, b, ch, hB, hL, hb, hch, q1, q2, q3⟩ := h.ex
  exact K_jAppendBad w hB hp hkd hn hl (by rw [← hch]; exact chainAll_len (fst_len e) _) hO
theorem C_jsLeft {dl dh gd g a e s : Nat} {L : Option Addr} {S : List Sec} {C : List (Option Sec)} {R : List Rc} {z : Nat} (w : World) (h : JSt w dl dh gd g L S C a e R s) (hz : a * 256 - szR R = z) :
    CallsR Tryz.prog 13 [.pointer (some ⟨g, 0, none⟩)] w fun v w' => v = .int .i64 (z : Int) ∧ Below w.heap.size w w' := by
  obtain ⟨lo, hi, c, b, ch, hB, hL, hb, hch, q1, q2, q3⟩ := h.ex
  have hbl : b.length = szR R := by rw [← hb, bytesAll_sz]
  have hf := h.fit
  have ha := h.ha
  exact C_jLeft w hB (by omega) (by omega) (by omega)
theorem C_jsEpoch {dl dh gd g a e s : Nat} {L : Option Addr} {S : List Sec} {C : List (Option Sec)} {R : List Rc} (w : World) (h : JSt w dl dh gd g L S C a e R s) :
    CallsR Tryz.prog 24 [.pointer (some ⟨g, 0, none⟩)] w fun v w' => v = .int .u64 (e : Int) ∧ Below w.heap.size w w' := by
  obtain ⟨lo, hi, c, b, ch, hB, hL, hb, hch, q1, q2, q3⟩ := h.ex
  exact C_jEpoch w hB
theorem C_jsRecords {dl dh gd g a e s : Nat} {L : Option Addr} {S : List Sec} {C : List (Option Sec)} {R : List Rc} (w : World) (h : JSt w dl dh gd g L S C a e R s) :
    CallsR Tryz.prog 18 [.pointer (some ⟨g, 0, none⟩)] w fun v w' => ∃ A' c', v = .slice A' R.length c' ∧ OwnRecX (fun k => w.heap.size ≤ k) w' w.heap.size w'.heap.size A' c' R ∧ Below w.heap.size w w' := by
  obtain ⟨lo, hi, c, b, ch, hB, hL, hb, hch, q1, q2, q3⟩ := h.ex
  have hbl : b.length = szR R := by rw [← hb, bytesAll_sz]
  have hf := h.fit
  have ha := h.ha
  exact C_jRecords (u := ⟨fstB e, sumB_len _⟩) w hB hL hb (by rw [← hch]; exact chainAll_len (fst_len e) _) h.he rfl h.ok (by omega)
theorem K_jsSwitch {dl dh gd g a e s nr c0 e1 : Nat} {L A : Option Addr} {S S2 : List Sec} {C C1 : List (Option Sec)} {R R1 : List Rc} (w : World) (h : JSt w dl dh gd g L S C a e R s) (hR : RRec w A R1) (hnr : nr = R1.length) (hRo : ∀ r ∈ R1, OkR r) (hfit : szR R1 ≤ a * 256) (he1 : (e + 1) % 18446744073709551616 = e1) (hS2 : swS S C a e1 (bytesAll (fstB e1) R1) = S2) (hC1 : List.replicate S.length none = C1) :
    CallsR Tryz.prog 19 [.pointer (some ⟨g, 0, none⟩), .slice A nr c0] w fun v w' => v = .int .i64 0 ∧ ∃ L', JSt w' dl dh gd g L' S2 C1 a e1 R1 R1.length ∧ JCh dl dh g L w w' ∧ ∀ k, blk L' = some k → w.heap.size ≤ k := by
  obtain ⟨lo, hi, c, b, ch, hB, hL, hb, hch, q1, q2, q3⟩ := h.ex
  have hcl : ch.length = 32 := by rw [← hch]; exact chainAll_len (fst_len e) _
  have hdk := h.dk
  have hd1 := hdk.g1
  have hd2 := hdk.g2
  have hd3 := hdk.hi
  have hgl := h.hg
  have hgw := h.lt
  have hbl : (bytesAll (fstB e1) R1).length = szR R1 := bytesAll_sz _ _
  subst hS2; subst hC1
  refine (K_jSwitch (u := ⟨fstB e1, sumB_len _⟩) (R := R1) w h.dk hB hcl hR hnr hRo h.ha h.he he1 rfl rfl rfl (by rw [hbl]; exact hfit) h.hS (.inr hgl) rfl rfl rfl rfl rfl rfl rfl rfl rfl).mono ?_
  rintro v w' ⟨rfl, L', c', hB2, hL2, hD2, w1, k1, k2⟩
  have s1 := k1.size
  have s2 := k2.size
  have he1' : e1 < 18446744073709551616 := by omega
  subst hnr
  exact ⟨rfl, L', ⟨⟨_, _, c', _, _, hB2, hL2, rfl, rfl, by omega, by omega, Nat.le_refl _⟩, hD2, hRo, hfit, h.ha, he1', hgl, by rw [swS, cur_len, cur_len]; exact h.hS⟩, ((JCh.refl w).chg k1).self k2, fun k hk => (RowH.lt hL2 k hk).1⟩
theorem C_jsOpen {dl dh gd e a e1 : Nat} {S S2 : List Sec} {C C1 : List (Option Sec)} {b0 b1 : By} {R : List Rc} (w : World) (hd : DkAt w dl dh gd S C) (h0 : rdD S C ((0 : Nat) : Int) = (b0, 0)) (h1 : rdD S C ((1 : Nat) : Int) = (b1, 0)) (hh : headOf b0 b1 = some (e, a)) (he1 : (e + 1) % 18446744073709551616 = e1) (hR : allR (fstB e) (areaB (cur S C) (2 + e % 2 * a) a) = R) (hS2 : swS S C a e1 (bytesAll (fstB e1) R) = S2) (hC1 : List.replicate S.length none = C1) (l0 : b0.length = 256) (l1 : b1.length = 256) (hS : 2 ≤ S.length) (hsz : 2 + 2 * a ≤ S.length) :
    CallsR Tryz.prog 22 [.pointer (some ⟨gd, 0, none⟩)] w fun v w' => ∃ (g : Nat) (L' : Option Addr), v = .tuple #[.pointer (some ⟨g, 0, none⟩), .int .i64 0] ∧ JSt w' dl dh gd g L' S2 C1 a e1 R R.length ∧ w.heap.size ≤ g ∧ (∀ k, blk L' = some k → w.heap.size ≤ k) ∧ Chg dl dh w w' := by
  have hd3 := hd.hi
  have he1' : e1 < 18446744073709551616 := by omega
  have ha := (headOf_lt hh).2
  have hRo : ∀ x ∈ R, OkR x := by rw [← hR]; exact allR_ok
  have hn0b : 2 + e % 2 * a ≤ 2 + a := by
    have := Nat.mul_le_mul_right a (show e % 2 ≤ 1 by omega)
    omega
  have hfit : szR R ≤ a * 256 := by
    have h1 := allR_len (c := fstB e) (b := areaB (cur S C) (2 + e % 2 * a) a)
    rw [hR, bytesAll_sz, areaB_len (by rw [cur_len]; omega)] at h1
    omega
  refine (C_jOpenOk w hd h0 h1 hh he1 hR rfl rfl hS2 hC1 l0 l1 hS hsz).mono ?_
  rintro v w' ⟨g, L', c', rfl, hB2, hL2, hD2, k1, k2⟩
  have s1 := k1.size
  exact ⟨g, L', rfl, ⟨⟨_, _, c', _, _, hB2, hL2, rfl, rfl, hd3, s1, Nat.le_refl _⟩, hD2, hRo, hfit, ha, he1', by omega, by rw [← hS2, swS, cur_len, cur_len]; exact hsz⟩, k2, fun k hk => (RowH.lt hL2 k hk).1, k1⟩
end Go.Proofs.YtnnhenafhalobaaGreat
/-
  Plain laws: what is on the disk of a journal.
-/
namespace Go.Proofs.YtnnhenafhalobaaGreat
set_option maxRecDepth 100000
open Go.RowKit
theorem headE_headB {e a : Nat} (h : e < 18446744073709551616) : headE (headB e a) = e := by
  unfold headE headB hd12
  rw [List.append_assoc, List.append_assoc, List.take_left' (wB8_len e), wB8, leVal_leB]
  exact Nat.mod_eq_of_lt h
theorem headA_headB {e a : Nat} (h : a < 4294967296) : headA (headB e a) = a := by
  unfold headA headB hd12
  rw [List.append_assoc, List.append_assoc, List.drop_left' (wB8_len e), List.take_left' (leB_length 4 a), leVal_leB]
  exact Nat.mod_eq_of_lt h
theorem headOk_headB {e a : Nat} (h : e < 18446744073709551616) (ha : 1 ≤ a ∧ a ≤ 256) : HeadOk (headB e a) (e % 2) := by
  unfold HeadOk
  rw [headE_headB h, headA_headB (by omega)]
  exact ⟨rfl, ha, rfl⟩
theorem headOk_zero (k : Nat) : ¬HeadOk (List.replicate 256 0) k := fun h => by
  have h1 : headA (List.replicate 256 0) = 0 := by
    unfold headA
    rw [List.drop_replicate, List.take_replicate]
    rfl
  have := h.2.1.1
  omega
theorem headOf_first {a : Nat} (ha : 1 ≤ a ∧ a ≤ 256) : headOf (headB 0 a) (List.replicate 256 0) = some (0, a) := by
  unfold headOf
  rw [if_neg (fun h => headOk_zero 1 h.1), if_pos (headOk_headB (by decide) ha), headE_headB (by decide), headA_headB (by omega)]
theorem headOf_second {a : Nat} (ha : 1 ≤ a ∧ a ≤ 256) : headOf (headB 0 a) (headB 1 a) = some (1, a) := by
  unfold headOf
  rw [if_pos ⟨headOk_headB (e := 1) (by decide) ha, .inr (by rw [headE_headB (by decide), headE_headB (by decide)]; decide)⟩, headE_headB (by decide), headA_headB (by omega)]
theorem rdD_of {S : List Sec} {C : List (Option Sec)} {i : Nat} {x : Sec} (h : (cur S C)[i]? = some x) (hc : C.length = S.length) : rdD S C (i : Int) = (x.1, 0) := by
  obtain ⟨h1, h2⟩ := List.getElem?_eq_some_iff.1 h
  rw [cur_len] at h1
  rw [rdD_cur h1 hc, h2]
section
variable {S : List Sec} {C : List (Option Sec)} {a e1 : Nat} {b bs : By}
theorem fmS_eq (hc : C.length = S.length) : fmS S C a = pts (pts (pts (cur S C) 1 (secsN 1 (List.replicate 256 0))) 2 (secsN a (List.replicate (a * 256) 0))) 0 (secsN 1 (headB 0 a)) := by
  unfold fmS
  rw [cur_wrs _ _ _ _ (by rw [List.length_replicate, cur_len]), cur_none, cur_wrs _ _ _ _ (by rw [wrs_len, hc]), cur_wrs _ _ _ _ hc]
theorem swS_eq (hc : C.length = S.length) : swS S C a e1 b = pts (pts (cur S C) (2 + e1 % 2 * a) (secsN a (overJ (List.replicate (a * 256) 0) 0 b))) (e1 % 2) (secsN 1 (headB e1 a)) := by
  unfold swS
  rw [cur_wrs _ _ _ _ (by rw [List.length_replicate, cur_len]), cur_none, cur_wrs _ _ _ _ hc]
theorem secsN_one {l : By} (h : l.length = 256) : secsN 1 l = [⟨l, h⟩] := by
  show [secOf (l.take 256)] = _
  rw [List.take_of_length_le (by omega)]
  congr 1
  exact Subtype.ext (secOf_val h)
theorem fmS_0 (hc : C.length = S.length) (hS : 2 + 2 * a ≤ S.length) : (cur (fmS S C a) (List.replicate S.length none))[0]? = some ⟨headB 0 a, headB_len 0 a⟩ := by
  rw [cur_none, fmS_eq hc, pts_get _ _ _ _ (by rw [pts_len, pts_len, cur_len, secsN_len]; omega), secsN_len, if_pos (by omega), secsN_one (headB_len 0 a)]
  rfl
theorem fmS_1 (hc : C.length = S.length) (hS : 2 + 2 * a ≤ S.length) : (cur (fmS S C a) (List.replicate S.length none))[1]? = some ⟨List.replicate 256 0, List.length_replicate⟩ := by
  rw [cur_none, fmS_eq hc, pts_get _ _ _ _ (by rw [pts_len, pts_len, cur_len, secsN_len]; omega), secsN_len, if_neg (by omega), pts_get _ _ _ _ (by rw [pts_len, cur_len, secsN_len]; omega), secsN_len, if_neg (by omega), pts_get _ _ _ _ (by rw [cur_len, secsN_len]; omega), secsN_len, if_pos (by omega), secsN_one List.length_replicate]
  rfl
theorem fmS_area (hc : C.length = S.length) (hS : 2 + 2 * a ≤ S.length) : areaB (cur (fmS S C a) (List.replicate S.length none)) 2 a = List.replicate (a * 256) 0 := by
  rw [cur_none, fmS_eq hc, areaB_out (by rw [pts_len, pts_len, cur_len, secsN_len]; omega) (.inr (by rw [secsN_len]; omega))]
  conv => lhs; arg 3; rw [← secsN_len a (List.replicate (a * 256) 0)]
  rw [areaB_pts (by rw [pts_len, cur_len, secsN_len]; omega), img_secsN _ _ (by rw [List.length_replicate]; omega)]
theorem mod_le (a e : Nat) : e % 2 * a ≤ a := by
  have := Nat.mul_le_mul_right a (show e % 2 ≤ 1 by omega)
  omega
theorem swS_head (hc : C.length = S.length) (hS : 2 + 2 * a ≤ S.length) : (cur (swS S C a e1 b) (List.replicate S.length none))[e1 % 2]? = some ⟨headB e1 a, headB_len e1 a⟩ := by
  have := mod_le a e1
  rw [cur_none, swS_eq hc, pts_get _ _ _ _ (by rw [pts_len, cur_len, secsN_len]; omega), secsN_len, if_pos (by omega), secsN_one (headB_len e1 a), Nat.sub_self]
  rfl
theorem swS_other {k : Nat} (hc : C.length = S.length) (hS : 2 + 2 * a ≤ S.length) (hk : k < 2) (hne : k ≠ e1 % 2) : (cur (swS S C a e1 b) (List.replicate S.length none))[k]? = (cur S C)[k]? := by
  have := mod_le a e1
  rw [cur_none, swS_eq hc, pts_get _ _ _ _ (by rw [pts_len, cur_len, secsN_len]; omega), secsN_len, if_neg (by omega), pts_get _ _ _ _ (by rw [cur_len, secsN_len]; omega), secsN_len, if_neg (by omega)]
theorem swS_area (hc : C.length = S.length) (hS : 2 + 2 * a ≤ S.length) (hb : b.length ≤ a * 256) : areaB (cur (swS S C a e1 b) (List.replicate S.length none)) (2 + e1 % 2 * a) a = b ++ List.replicate (a * 256 - b.length) 0 := by
  have := mod_le a e1
  rw [cur_none, swS_eq hc, areaB_out (by rw [pts_len, cur_len, secsN_len]; omega) (.inr (by rw [secsN_len]; omega))]
  conv => lhs; arg 3; rw [← secsN_len a (overJ (List.replicate (a * 256) 0) 0 b)]
  rw [areaB_pts (by rw [cur_len, secsN_len]; omega), img_secsN _ _ (by rw [overJ_len (by rw [List.length_replicate]; omega), List.length_replicate]; omega)]
  unfold overJ
  rw [List.take_zero, List.nil_append, Nat.zero_add, List.drop_replicate]
theorem appC_len {e n : Nat} (hc : C.length = S.length) : (appC S C a e n bs).length = S.length := by rw [appC, wrs_len, hc]
theorem appC_head {k e n : Nat} (hc : C.length = S.length) (hS : 2 + 2 * a ≤ S.length) (hn : n + bs.length ≤ a * 256) (hb : 1 ≤ bs.length) (hk : k < 2) : (cur S (appC S C a e n bs))[k]? = (cur S C)[k]? := by
  have := mod_le a e
  unfold appC
  rw [cur_wrs _ _ _ _ hc, pts_get _ _ _ _ (by rw [cur_len, secsN_len]; omega), if_neg (by omega)]
theorem swS_len : (swS S C a e1 b).length = S.length := by rw [swS, cur_len, cur_len]
theorem fmS_len : (fmS S C a).length = S.length := by rw [fmS, cur_len, cur_len]
end
theorem allR_zero (c : By) (n : Nat) : allR c (List.replicate n 0) = [] := by
  have := (AllP.zeros (c := c) (R := []) n (by simp)).eq
  simpa [bytesAll] using this
theorem allR_back {c : By} {R : List Rc} (n : Nat) (hO : ∀ r ∈ R, OkR r) : allR c (bytesAll c R ++ List.replicate n 0) = R := (AllP.zeros n hO).eq
end Go.Proofs.YtnnhenafhalobaaGreat
/-
  Walks: the chapter's examples; the statement JournalNil.
-/
namespace Go.Proofs.YtnnhenafhalobaaGreat
set_option maxRecDepth 100000
open Go.RowKit
--@ hide C_jOpenOk
--@ hide C_jOpenBad
--@ hide C_jOpenNil
--@ hide C_jsOpen
set_option maxRecDepth 100000 in
theorem C_lives09 (w : World) : CallsR Tryz.prog 7 [] w fun v w' => v = .bool true ∧ Below w.heap.size w w' := by
  obtain ⟨Z, hZ⟩ : ∃ Z : List Sec, List.replicate 6 z256 = Z := ⟨_, rfl⟩
  obtain ⟨Q, hQ⟩ : ∃ Q : List (Option Sec), List.replicate 6 none = Q := ⟨_, rfl⟩
  have hZl : Z.length = 6 := by rw [← hZ, List.length_replicate]
  have hQl : Q.length = 6 := by rw [← hQ, List.length_replicate]
  obtain ⟨S1, hS1⟩ : ∃ S1, fmS Z Q 2 = S1 := ⟨_, rfl⟩
  have hS1l : S1.length = 6 := by rw [← hS1, fmS_len, hZl]
  have hQ1 : List.replicate Z.length none = Q := by rw [hZl, hQ]
  obtain ⟨bs, hbs⟩ : ∃ bs, bytesR (chainAll (fstB 0) []) (1, [97, 98, 99]) = bs := ⟨_, rfl⟩
  have hbl : bs.length = 13 := by rw [← hbs, bytesR_len]; rfl
  obtain ⟨C2, hC2⟩ : ∃ C2, appC S1 Q 2 0 (szR []) bs = C2 := ⟨_, rfl⟩
  have hC2l : C2.length = 6 := by rw [← hC2, appC_len (by omega), hS1l]
  have hlf : 2 * 256 - szR ([] ++ [((1 : UInt8), ([97, 98, 99] : By))]) = 499 := rfl
  have hcr : crash S1 C2 [] = S1 := crash_nil _ _
  have hQ2 : List.replicate S1.length none = Q := by rw [hS1l, hQ]
  have hr0 : rdD S1 Q ((0 : Nat) : Int) = (headB 0 2, 0) := by
    have := fmS_0 (S := Z) (C := Q) (a := 2) (by omega) (by omega)
    rw [hS1, hQ1] at this
    exact rdD_of this (by omega)
  have hr1 : rdD S1 Q ((1 : Nat) : Int) = (List.replicate 256 0, 0) := by
    have := fmS_1 (S := Z) (C := Q) (a := 2) (by omega) (by omega)
    rw [hS1, hQ1] at this
    exact rdD_of this (by omega)
  have har : allR (fstB 0) (areaB (cur S1 Q) (2 + 0 % 2 * 2) 2) = [] := by
    have := fmS_area (S := Z) (C := Q) (a := 2) (by omega) (by omega)
    rw [hS1, hQ1] at this
    rw [show 2 + 0 % 2 * 2 = 2 from rfl, this, allR_zero]
  obtain ⟨S2, hS2⟩ : ∃ S2, swS S1 Q 2 1 (bytesAll (fstB 1) []) = S2 := ⟨_, rfl⟩
  refine callsR Tryz.func7 rfl rfl (by kernel_rfl) rfl ?_
  have hw := Below.refl w.heap.size w
  refine rk_seq ?_
  refine rk_region ?_
  refine wl_p (fun _ => o_assign rfl) ?_
  refine wl_nil ?_
  refine rk_seq ?_
  refine rk_region ?_
  refine wl_call rfl (C_dNewOk _ (by omega) hZ hQ (by omega) (by omega)) ?_
  rintro v5 w5 ⟨g5, ⟨rfl, ⟨f5, b5⟩⟩⟩
  have s5 := b5.size
  replace hw := hw.trans (b5.mono hw.size)
  refine wl_p (fun _ => o_move rfl) ?_
  refine wl_p (fun _ => o_ext20 rfl) ?_
  refine wl_p (fun _ => o_ext21 rfl) ?_
  refine wl_p (fun _ => o_assign rfl) ?_
  refine wl_p (fun _ => o_assign rfl) ?_
  refine wl_nil ?_
  refine rk_seq ?_
  refine rk_seq ?_
  refine rk_region ?_
  refine wl_p (fun _ => o_move rfl) ?_
  refine wl_p (fun _ => o_ne rfl rfl) ?_
  refine wl_nil ?_
  refine rk_false rfl ?_
  refine rk_skip ?_
  refine rk_seq ?_
  refine rk_region ?_
  refine wl_p (fun _ => o_move rfl) ?_
  refine wl_call rfl (C_jsFormat _ f5 (by omega) hS1 hQ1 (by omega) (by omega)) ?_
  rintro v12 w12 ⟨g12, ⟨rfl, ⟨f12, ⟨i12, g12_1⟩⟩⟩⟩
  have s12 := g12_1.size
  replace hw := hw.trans (g12_1.below hw.size (by omega))
  clear f5
  refine wl_p (fun _ => o_move rfl) ?_
  refine wl_p (fun _ => o_ext20 rfl) ?_
  refine wl_p (fun _ => o_ext21 rfl) ?_
  refine wl_p (fun _ => o_assign rfl) ?_
  refine wl_p (fun _ => o_assign rfl) ?_
  refine wl_nil ?_
  refine rk_seq ?_
  refine rk_seq ?_
  refine rk_region ?_
  refine wl_p (fun _ => o_move rfl) ?_
  refine wl_p (fun _ => o_ne rfl rfl) ?_
  refine wl_p (fun _ => o_move rfl) ?_
  refine wl_p (fun _ => o_move rfl) ?_
  refine wl_p (fun _ => o_peq_nil (t := 31) Tryz.underlying31 rfl rfl) ?_
  refine wl_p (fun _ => o_pick_f rfl rfl) ?_
  refine wl_p (fun _ => o_move rfl) ?_
  refine wl_p (fun _ => o_move rfl) ?_
  refine wl_litC [97, 98, 99] Tryz.u8 Tryz.sizeOf5 Tryz.zeroValue5 (by rfl) rfl rfl (by rfl) (by rfl) (by rfl) ?_
  rintro A23 w23 f23 b23
  have s23 := b23.size
  replace hw := hw.trans (b23.mono hw.size)
  replace f12 := f12.u b23
  refine wl_p (fun _ => (o_buildg [_, _] Tryz.underlying37 Tryz.zeroValue37 (by rfl) (by rfl) rfl (by rfl) (by rfl) (fun _ => by kernel_rfl))) ?_
  refine wl_know 21 false rfl (by simp) ?_
  refine wl_call rfl (K_jsAppend (kd := 1) (p := [97, 98, 99]) _ f12 f23.to_Rd rfl rfl (by decide) (by decide) hbs hC2 (by rw [hbl]; decide)) ?_
  rintro _ w26 ⟨rfl, L', fJ, hJ, hL⟩
  have hw2 := hw.trans (hJ.own f12 (Nat.le_refl _))
  clear hw f12 f23
  have hw := hw2
  clear hw2 hJ
  refine wl_p (fun _ => o_ne rfl rfl) ?_
  refine wl_p (fun _ => o_pick_f rfl rfl) ?_
  refine wl_p (fun _ => o_move rfl) ?_
  refine wl_p (fun _ => o_move rfl) ?_
  refine wl_call rfl (C_jsLeft _ fJ hlf) ?_
  rintro v31 w31 ⟨rfl, b31⟩
  have s31 := b31.size
  replace hw := hw.trans (b31.mono hw.size)
  replace fJ := fJ.u b31
  refine wl_p (fun _ => o_ne rfl rfl) ?_
  refine wl_p (fun _ => o_pick_f rfl rfl) ?_
  refine wl_nil ?_
  refine rk_false rfl ?_
  refine rk_skip ?_
  refine rk_seq ?_
  refine rk_region ?_
  refine wl_p (fun _ => o_move rfl) ?_
  have hd := fJ.dk
  clear fJ
  refine wl_call rfl (C_dCrashNone _ hd hQ2) ?_
  rintro v35 w35 ⟨rfl, ⟨f35, g35⟩⟩
  have s35 := g35.size
  replace hw := hw.trans (g35.below hw.size (by omega))
  clear hd
  refine wl_nil ?_
  refine rk_seq ?_
  refine rk_region ?_
  refine wl_p (fun _ => o_move rfl) ?_
  refine wl_call rfl (C_jsOpen (e := 0) (a := 2) (e1 := 1) (S := S1) (C := Q) _ (by assumption) hr0 hr1 (headOf_first (by decide)) rfl har hS2 hQ2 (headB_len _ _) List.length_replicate (by omega) (by omega)) ?_
  rintro _ w38 ⟨g38, L38, rfl, fJ, hg38, hL38, hcO⟩
  have hw2 := hw.trans (hcO.below hw.size (Nat.le_refl _))
  clear hw f35
  have hw := hw2
  clear hw2 hcO
  refine wl_p (fun _ => o_move rfl) ?_
  refine wl_p (fun _ => o_ext20 rfl) ?_
  refine wl_p (fun _ => o_ext21 rfl) ?_
  refine wl_p (fun _ => o_assign rfl) ?_
  refine wl_p (fun _ => o_assign rfl) ?_
  refine wl_nil ?_
  refine rk_seq ?_
  refine rk_region ?_
  refine wl_p (fun _ => o_move rfl) ?_
  refine wl_p (fun _ => o_eq rfl rfl) ?_
  refine wl_p (fun _ => o_move rfl) ?_
  refine wl_p (fun _ => o_move rfl) ?_
  refine wl_p (fun _ => o_pne_nil (t := 31) Tryz.underlying31 rfl rfl) ?_
  refine wl_p (fun _ => o_pick_t rfl rfl) ?_
  refine wl_p (fun _ => o_move rfl) ?_
  refine wl_p (fun _ => o_move rfl) ?_
  refine wl_call rfl (C_jsRecords _ fJ) ?_
  rintro v49 w49 ⟨A49, ⟨c49, ⟨rfl, ⟨f49, b49⟩⟩⟩⟩
  have qf49 := f49.cap
  have s49 := b49.size
  replace hw := hw.trans (b49.mono hw.size)
  replace fJ := fJ.u b49
  refine wl_p (fun _ => o_len (t := 44) Tryz.underlying44 rfl) ?_
  refine wl_p (fun _ => o_eq rfl rfl) ?_
  refine wl_p (fun _ => o_pick_t rfl rfl) ?_
  refine wl_p (fun _ => o_move rfl) ?_
  refine wl_p (fun _ => o_move rfl) ?_
  refine wl_call rfl (C_jsEpoch _ fJ) ?_
  rintro v55 w55 ⟨rfl, b55⟩
  have s55 := b55.size
  replace hw := hw.trans (b55.mono hw.size)
  replace fJ := fJ.u b55
  replace f49 := f49.u b55
  refine wl_p (fun _ => o_eq rfl rfl) ?_
  refine wl_p (fun _ => o_pick_t rfl rfl) ?_
  refine wl_p (fun _ => o_assign rfl) ?_
  refine wl_nil ?_
  refine ret1 rfl rfl ?_
  exact ⟨rfl, hw⟩
end Go.Proofs.YtnnhenafhalobaaGreat
/-
  Acts as they lie in memory; walks: small, JournalNil.
-/
namespace Go.Proofs.YtnnhenafhalobaaGreat
set_option maxRecDepth 100000
open Go.RowKit
theorem gRec_mkR {w : World} {k : UInt8} {p : By} {A : Option Addr} {c : Nat} (h : Rd w A p) (h1 : p.length ≤ c) (h2 : c ≤ maxLen) : gRec.R w [.int .u8 (k.toNat : Int), .slice A p.length c] (k, p) := by
  have hk := k.toNat_lt
  refine ⟨((k.toNat : Int), p), by simp, [_], _, rfl, ⟨rfl, ?_⟩, A, c, rfl, h, h1, h2⟩
  simp only [Lit.wf, Bool.and_eq_true, decide_eq_true_eq]
  exact ⟨by show (0 : Int) ≤ _; omega, by show _ ≤ (255 : Int); omega⟩
/-- Kind, Record, N, Keep. -/
abbrev JAct := Int × Rc × Int × List Bool
def gJAct : GoT JAct := (gInt .i64).pair (gRec.pair ((gInt .i64).pair (GoT.slice 4 gBool)))
theorem gJAct_R {w : World} {cs : List Value} {a : JAct} (h : gJAct.R w cs a) : ∃ A c K c2, cs = [.int .i64 a.1, .int .u8 (a.2.1.1.toNat : Int), .slice A a.2.1.2.length c, .int .i64 a.2.2.1, .slice K a.2.2.2.length c2] ∧ Rd w A a.2.1.2 ∧ a.2.1.2.length ≤ c ∧ c ≤ maxLen ∧ RdBo w 0 w.heap.size K a.2.2.2 ∧ a.2.2.2.length ≤ c2 ∧ c2 ≤ maxLen ∧ (Lit.int .i64 a.1).wf = true ∧ (Lit.int .i64 a.2.2.1).wf = true := by
  obtain ⟨c1, c2, rfl, ⟨rfl, w1⟩, c3, c4, rfl, h2, c5, c6, rfl, ⟨rfl, w2⟩, h5⟩ := h
  obtain ⟨A, c, rfl, k2, k3, k4⟩ := gRec_R h2
  obtain ⟨K, cc, rfl, h6, h7, h8⟩ := slice_RSl h5
  exact ⟨A, c, K, cc, rfl, k2, k3, k4, .of (rsl_bools h6), h7, h8, w1, w2⟩
theorem opens_JAct : Opens Tryz.prog 40 gJAct :=
  opens_struct Tryz.underlying40 (by kernel_rfl) (.more (opens_int Tryz.underlying3 (by kernel_rfl)) rfl (.more opens_Rec rfl (.more (opens_int Tryz.underlying3 (by kernel_rfl)) rfl
    (.one (opens_slice Tryz.underlying38 (by kernel_rfl) (by decide) (opens_bool Tryz.underlying4 (by kernel_rfl))) rfl))))
--@ arg []headwaterlaw09.Act arg_JActs
theorem arg_JActs {H : Type} {enc : TypeId × Value → H} {W : World} {base : Nat} {v : Value} {d : DataW H} {p : List MemPlace} (hok : Value.okWide Tryz.prog W .any base 22 v) (h : DataW.Trod enc Tryz.prog W 0 (fun _ => true) true 22 v d p) :
    ∃ (A : Option Addr) (c : Nat) (L : List JAct), v = .slice A L.length c ∧ RSl gJAct W A L ∧ L.length ≤ c ∧ c ≤ maxLen := by
  obtain ⟨L, h1⟩ := open_slc (X := GoT.slice 40 gJAct) (opens_slice Tryz.underlying22 (by kernel_rfl) (by decide) opens_JAct) Tryz.underlying22 hok h
  obtain ⟨A, c, e, h2, h3, h4⟩ := slice_RSl h1
  injection e with e
  exact ⟨A, c, L, e, h2, h3, h4⟩
def RJA (w : World) (A : Option Addr) (L : List JAct) : Prop := RSl gJAct w A L
section
variable {w w' : World} {A : Option Addr} {L : List JAct}
theorem RJA.u (h : RJA w A L) (hb : Below w.heap.size w w') : RJA w' A L := RSl.u h hb
theorem RJA.some_ (h : RJA w A L) (hl : 0 < L.length) : A = some (A.getD ⟨0, 0, none⟩) := RSl.some_ h (show 0 < 5 by decide) hl
theorem RJA.elem (h : RJA w A L) {i : Nat} (hi : i < L.length) : ∃ A1 c1 A2 c2, CellsAt w A (i * 5) [.int .i64 L[i].1, .int .u8 (L[i].2.1.1.toNat : Int), .slice A1 L[i].2.1.2.length c1, .int .i64 L[i].2.2.1, .slice A2 L[i].2.2.2.length c2] ∧ Rd w A1 L[i].2.1.2 ∧ L[i].2.1.2.length ≤ c1 ∧ c1 ≤ maxLen ∧ RdBo w 0 w.heap.size A2 L[i].2.2.2 ∧ L[i].2.2.2.length ≤ c2 ∧ c2 ≤ maxLen ∧
    (Lit.int .i64 L[i].1).wf = true ∧ (Lit.int .i64 L[i].2.2.1).wf = true := by
  obtain ⟨cs, h1, h2⟩ := RSl.elem h (show 0 < 5 by decide) hi
  obtain ⟨A1, c1, A2, c2, rfl, h3⟩ := gJAct_R h2
  exact ⟨A1, c1, A2, c2, h1, h3⟩
end
section
variable {fn : Func} {F : Ending → World → Prop} {N : Nat} {ks : List K} {ops : Array Oper} {tg : Tags} {l : List Oper} {fr : Fr} {w w0 : World} {ty : TypeId} {pos : String} {aft : Array Edge} {gd : Option (Nat × Bool)} {d j : Nat} {x : Operand} {A : Option Addr} {L : List JAct}
--@ rule load l wl_ldJKeep
theorem wl_ldJKeep (hx : fr.ev x = some (.pointer (some (adr A (j * 5 + 4))))) (hr : RJA w0 A L) (hb : Below w0.heap.size w0 w) (hj : j < L.length)
    (hk : ∀ A1 c1, RdBo w0 0 w0.heap.size A1 L[j].2.2.2 → L[j].2.2.2.length ≤ c1 → c1 ≤ maxLen → WL Tryz.prog fn F N ks ops tg.tail l ((d, .slice A1 L[j].2.2.2.length c1) :: fr) w)
    (ht : tg.reads = true := by rfl) (hg : onG ops fr gd = true := by rfl) (hd : Nat.blt d N = true := by rfl) : WL Tryz.prog fn F N ks ops tg (⟨some d, .load 38 x, ty, pos, aft, gd⟩ :: l) fr w := by
  obtain ⟨A1, c1, A2, c2, h1, h2, h3, h4, h5, h6, h7, _⟩ := hr.elem hj
  exact wl_r (o_load (t := 38) Tryz.isAgg38 hx (h1.u hb 4 _ rfl)) (hk A2 c2 h5 h6 h7) ht hg hd
--@ rule load l wl_ldJData
theorem wl_ldJData (hx : fr.ev x = some (.pointer (some (adr A (j * 5 + 1 + 1))))) (hr : RJA w0 A L) (hb : Below w0.heap.size w0 w) (hj : j < L.length)
    (hk : ∀ A1 c1, Rd w0 A1 L[j].2.1.2 → L[j].2.1.2.length ≤ c1 → c1 ≤ maxLen → WL Tryz.prog fn F N ks ops tg.tail l ((d, .slice A1 L[j].2.1.2.length c1) :: fr) w)
    (ht : tg.reads = true := by rfl) (hg : onG ops fr gd = true := by rfl) (hd : Nat.blt d N = true := by rfl) : WL Tryz.prog fn F N ks ops tg (⟨some d, .load 35 x, ty, pos, aft, gd⟩ :: l) fr w := by
  obtain ⟨A1, c1, A2, c2, h1, h2, h3, h4, h5, h6, h7, _⟩ := hr.elem hj
  exact wl_r (o_load (t := 35) Tryz.isAgg35 hx (h1.u hb 2 _ rfl)) (hk A1 c1 h2 h3 h4) ht hg hd
--@ rule load l wl_ldJRec
theorem wl_ldJRec (hx : fr.ev x = some (.pointer (some (adr A (j * 5 + 1))))) (hr : RJA w0 A L) (hb : Below w0.heap.size w0 w) (hj : j < L.length)
    (hk : ∀ A1 c1, Rd w0 A1 L[j].2.1.2 → L[j].2.1.2.length ≤ c1 → c1 ≤ maxLen → WL Tryz.prog fn F N ks ops tg.tail l ((d, .agg #[.int .u8 (L[j].2.1.1.toNat : Int), .slice A1 L[j].2.1.2.length c1]) :: fr) w)
    (ht : tg.reads = true := by rfl) (hg : onG ops fr gd = true := by rfl) (hd : Nat.blt d N = true := by rfl) : WL Tryz.prog fn F N ks ops tg (⟨some d, .load 37 x, ty, pos, aft, gd⟩ :: l) fr w := by
  obtain ⟨A1, c1, A2, c2, h1, h2, h3, h4, h5, h6, h7, _⟩ := hr.elem hj
  refine wl_r (o_loadn (cs := [.int .u8 (L[j].2.1.1.toNat : Int), .slice A1 L[j].2.1.2.length c1]) Tryz.isAgg37 Tryz.sizeOf37 hx (fun i u hu => ?_)) (hk A1 c1 h2 h3 h4) ht hg hd
  rw [adr_add]
  have h9 := h1.u hb (1 + i) u
  rw [← Nat.add_assoc] at h9
  refine h9 ?_
  match i, hu with
  | 0, hu => exact hu
  | 1, hu => exact hu
end
def smallJ (L : List JAct) : Prop := L.length ≤ 40 ∧ ∀ a ∈ L, a.2.1.2.length ≤ 700 ∧ a.2.2.2.length ≤ 100
set_option maxRecDepth 100000 in
theorem C_small09 {A : Option Addr} {L : List JAct} {n c : Nat} (w : World) (hL : RJA w A L) (hn : n = L.length) (hm : n ≤ maxLen) :
    CallsR Tryz.prog 8 [.slice A n c] w fun v w' => ∃ b, v = .bool b ∧ (b = true ↔ smallJ L) ∧ Below w.heap.size w w' := by
  subst hn
  refine callsR Tryz.func8 rfl rfl (by kernel_rfl) rfl ?_
  have hw := Below.refl w.heap.size w
  refine rk_seq ?_
  refine rk_region ?_
  refine wl_p (fun _ => o_assign rfl) ?_
  refine wl_nil ?_
  refine rk_seq ?_
  refine rk_seq ?_
  refine rk_region ?_
  refine wl_p (fun _ => o_move rfl) ?_
  refine wl_p (fun _ => o_len (t := 22) Tryz.underlying22 rfl) ?_
  refine wl_p (fun _ => o_gt rfl rfl) ?_
  refine wl_nil ?_
  refine rk_if rfl (fun h6 => ?_) (fun h6 => ?_)
  · refine rk_seq ?_
    refine rk_region ?_
    refine wl_p (fun _ => o_assign rfl) ?_
    refine wl_nil ?_
    refine ret1 rfl rfl ?_
    exact ⟨false, rfl, ⟨fun h => (by cases h), fun h => by have := h.1; omega⟩, hw⟩
  · refine rk_skip ?_
    refine rk_seq ?_
    refine rk_seq ?_
    refine rk_region ?_
    refine wl_p (fun _ => o_assign rfl) ?_
    refine wl_nil ?_
    refine rk_block ?_
    refine rk_joinf (fun fb fr W => fr = [] ++ fb.drop 1 ∧ (∀ a ∈ L, a.2.1.2.length ≤ 700 ∧ a.2.2.2.length ≤ 100) ∧ Below w.heap.size w W) ?_ (fun ks hj => ?_)
    rotate_left
    · refine rk_loopf (fun fb m fr W => ∃ (i : Nat) (v : Int), fr = [(3, .int .i64 v)] ++ fb.drop 1 ∧ v = i ∧ i ≤ L.length ∧ m = L.length - i ∧ (∀ a ∈ L.take i, a.2.1.2.length ≤ 700 ∧ a.2.2.2.length ≤ 100) ∧ Below w.heap.size w W) (n := L.length) (Fr.le_of (by kernel_rfl) (by kernel_rfl) (by repeat' constructor)) ⟨0, _, rfl, rfl, by omega, rfl, by simp, hw⟩ ?_
      clear hw
      rintro m fr W ⟨i, v, rfl, rfl, hi, rfl, hall, hw⟩
      have shw := hw.size
      by_cases hil : i < L.length
      · by_cases hb : L[i].2.1.2.length ≤ 700 ∧ L[i].2.2.2.length ≤ 100
        · first | refine rk_frame (by simp only [List.cons_append, List.nil_append, List.drop_succ_cons, List.drop_zero]; rfl) ?_ | refine wl_frame (by simp only [List.cons_append, List.nil_append, List.drop_succ_cons, List.drop_zero]; rfl) ?_
          refine rk_seq ?_
          refine rk_seq ?_
          refine rk_region ?_
          refine wl_p (fun _ => o_move rfl) ?_
          refine wl_p (fun _ => o_move rfl) ?_
          refine wl_p (fun _ => o_len (t := 22) Tryz.underlying22 rfl) ?_
          refine wl_p (fun _ => o_lt rfl rfl) ?_
          refine wl_nil ?_
          refine rk_if rfl (fun h10 => ?_) (fun h10 => h10.elim (by omega))
          refine rk_skip ?_
          refine rk_seq ?_
          refine rk_block ?_
          refine rk_seq ?_
          refine rk_region ?_
          refine wl_p (fun _ => o_move rfl) ?_
          refine wl_p (fun _ => o_move rfl) ?_
          refine wl_p (fun _ => (o_iaddrA (i) Tryz.underlying22 Tryz.sizeOf40 rfl rfl rfl (hL.some_ (by omega)) (by omega))) ?_
          refine wl_p (fun _ => (o_faddrR rfl Tryz.underlying40 (by rfl) Tryz.sizeOf37 (by rfl) (by rfl))) ?_
          refine wl_p (fun _ => (o_faddrR rfl Tryz.underlying37 (by rfl) Tryz.sizeOf35 (by rfl) (by rfl))) ?_
          refine wl_ldJData rfl hL hw (by omega) ?_
          rintro A118 c118 f18 i18 i18_1
          refine wl_p (fun _ => o_len (t := 35) Tryz.underlying35 rfl) ?_
          refine wl_p (fun _ => o_gt rfl rfl) ?_
          refine wl_p (fun _ => o_move rfl) ?_
          refine wl_know 21 false rfl (decide_eq_false (by omega)) ?_
          refine wl_p (fun _ => o_move rfl) ?_
          refine wl_p (fun _ => o_move rfl) ?_
          refine wl_p (fun _ => (o_iaddrA (i) Tryz.underlying22 Tryz.sizeOf40 rfl rfl rfl (hL.some_ (by omega)) (by omega))) ?_
          refine wl_p (fun _ => (o_faddrR rfl Tryz.underlying40 (by rfl) Tryz.sizeOf38 (by rfl) (by rfl))) ?_
          refine wl_ldJKeep rfl hL hw (by omega) ?_
          rintro A126 c126 f26 i26 i26_1
          refine wl_p (fun _ => o_len (t := 38) Tryz.underlying38 rfl) ?_
          refine wl_p (fun _ => o_gt rfl rfl) ?_
          refine wl_p (fun _ => o_pick_f rfl rfl) ?_
          refine wl_nil ?_
          refine rk_if rfl (fun h29 => absurd h29 (by omega)) (fun h29 => ?_)
          refine rk_skip ?_
          refine rk_blk ?_
          refine rk_region ?_
          refine wl_p (fun _ => o_move rfl) ?_
          refine wl_p (fun _ => o_add rfl rfl (by omega) (by omega)) ?_
          refine wl_p (fun _ => o_assign rfl) ?_
          refine wl_nil ?_
          refine rk_againf (Fr.le_of (by kernel_rfl) (by kernel_rfl) (by repeat' constructor)) ⟨i + 1, (i : Int) + 1, rfl, by omega, by omega, rfl, ?_, hw⟩ (by omega)
          rw [List.take_succ_eq_append_getElem hil]
          intro a ha
          rcases List.mem_append.1 ha with ha | ha
          · exact hall a ha
          · rw [List.mem_singleton] at ha; subst ha; exact hb
        · have hno : ¬ smallJ L := fun h => hb (h.2 _ (List.getElem_mem hil))
          by_cases hb1 : L[i].2.1.2.length ≤ 700
          · first | refine rk_frame (by simp only [List.cons_append, List.nil_append, List.drop_succ_cons, List.drop_zero]; rfl) ?_ | refine wl_frame (by simp only [List.cons_append, List.nil_append, List.drop_succ_cons, List.drop_zero]; rfl) ?_
            refine rk_seq ?_
            refine rk_seq ?_
            refine rk_region ?_
            refine wl_p (fun _ => o_move rfl) ?_
            refine wl_p (fun _ => o_move rfl) ?_
            refine wl_p (fun _ => o_len (t := 22) Tryz.underlying22 rfl) ?_
            refine wl_p (fun _ => o_lt rfl rfl) ?_
            refine wl_nil ?_
            refine rk_if rfl (fun h10 => ?_) (fun h10 => h10.elim (by omega))
            refine rk_skip ?_
            refine rk_seq ?_
            refine rk_block ?_
            refine rk_seq ?_
            refine rk_region ?_
            refine wl_p (fun _ => o_move rfl) ?_
            refine wl_p (fun _ => o_move rfl) ?_
            refine wl_p (fun _ => (o_iaddrA (i) Tryz.underlying22 Tryz.sizeOf40 rfl rfl rfl (hL.some_ (by omega)) (by omega))) ?_
            refine wl_p (fun _ => (o_faddrR rfl Tryz.underlying40 (by rfl) Tryz.sizeOf37 (by rfl) (by rfl))) ?_
            refine wl_p (fun _ => (o_faddrR rfl Tryz.underlying37 (by rfl) Tryz.sizeOf35 (by rfl) (by rfl))) ?_
            refine wl_ldJData rfl hL hw (by omega) ?_
            rintro A118 c118 f18 i18 i18_1
            refine wl_p (fun _ => o_len (t := 35) Tryz.underlying35 rfl) ?_
            refine wl_p (fun _ => o_gt rfl rfl) ?_
            refine wl_p (fun _ => o_move rfl) ?_
            refine wl_know 21 false rfl (decide_eq_false (by omega)) ?_
            refine wl_p (fun _ => o_move rfl) ?_
            refine wl_p (fun _ => o_move rfl) ?_
            refine wl_p (fun _ => (o_iaddrA (i) Tryz.underlying22 Tryz.sizeOf40 rfl rfl rfl (hL.some_ (by omega)) (by omega))) ?_
            refine wl_p (fun _ => (o_faddrR rfl Tryz.underlying40 (by rfl) Tryz.sizeOf38 (by rfl) (by rfl))) ?_
            refine wl_ldJKeep rfl hL hw (by omega) ?_
            rintro A126 c126 f26 i26 i26_1
            refine wl_p (fun _ => o_len (t := 38) Tryz.underlying38 rfl) ?_
            refine wl_p (fun _ => o_gt rfl rfl) ?_
            refine wl_p (fun _ => o_pick_f rfl rfl) ?_
            refine wl_nil ?_
            refine rk_if rfl (fun h29 => ?_) (fun h29 => h29.elim (by omega))
            refine rk_seq ?_
            refine rk_region ?_
            refine wl_p (fun _ => o_assign rfl) ?_
            refine wl_nil ?_
            refine ret1 rfl rfl ?_
            exact ⟨false, rfl, ⟨fun h => (by cases h), fun h => absurd h hno⟩, hw⟩
          · first | refine rk_frame (by simp only [List.cons_append, List.nil_append, List.drop_succ_cons, List.drop_zero]; rfl) ?_ | refine wl_frame (by simp only [List.cons_append, List.nil_append, List.drop_succ_cons, List.drop_zero]; rfl) ?_
            refine rk_seq ?_
            refine rk_seq ?_
            refine rk_region ?_
            refine wl_p (fun _ => o_move rfl) ?_
            refine wl_p (fun _ => o_move rfl) ?_
            refine wl_p (fun _ => o_len (t := 22) Tryz.underlying22 rfl) ?_
            refine wl_p (fun _ => o_lt rfl rfl) ?_
            refine wl_nil ?_
            refine rk_if rfl (fun h10 => ?_) (fun h10 => h10.elim (by omega))
            refine rk_skip ?_
            refine rk_seq ?_
            refine rk_block ?_
            refine rk_seq ?_
            refine rk_region ?_
            refine wl_p (fun _ => o_move rfl) ?_
            refine wl_p (fun _ => o_move rfl) ?_
            refine wl_p (fun _ => (o_iaddrA (i) Tryz.underlying22 Tryz.sizeOf40 rfl rfl rfl (hL.some_ (by omega)) (by omega))) ?_
            refine wl_p (fun _ => (o_faddrR rfl Tryz.underlying40 (by rfl) Tryz.sizeOf37 (by rfl) (by rfl))) ?_
            refine wl_p (fun _ => (o_faddrR rfl Tryz.underlying37 (by rfl) Tryz.sizeOf35 (by rfl) (by rfl))) ?_
            refine wl_ldJData rfl hL hw (by omega) ?_
            rintro A118 c118 f18 i18 i18_1
            refine wl_p (fun _ => o_len (t := 35) Tryz.underlying35 rfl) ?_
            refine wl_p (fun _ => o_gt rfl rfl) ?_
            refine wl_p (fun _ => o_move rfl) ?_
            refine wl_know 21 true rfl (decide_eq_true (by omega)) ?_
            refine wl_off ?_
            refine wl_off ?_
            refine wl_off ?_
            refine wl_off ?_
            refine wl_off ?_
            refine wl_off ?_
            refine wl_off ?_
            refine wl_p (fun _ => o_pick_t rfl rfl) ?_
            refine wl_nil ?_
            refine rk_true rfl ?_
            refine rk_seq ?_
            refine rk_region ?_
            refine wl_p (fun _ => o_assign rfl) ?_
            refine wl_nil ?_
            refine ret1 rfl rfl ?_
            exact ⟨false, rfl, ⟨fun h => (by cases h), fun h => absurd h hno⟩, hw⟩
      · first | refine rk_frame (by simp only [List.cons_append, List.nil_append, List.drop_succ_cons, List.drop_zero]; rfl) ?_ | refine wl_frame (by simp only [List.cons_append, List.nil_append, List.drop_succ_cons, List.drop_zero]; rfl) ?_
        refine rk_seq ?_
        refine rk_seq ?_
        refine rk_region ?_
        refine wl_p (fun _ => o_move rfl) ?_
        refine wl_p (fun _ => o_move rfl) ?_
        refine wl_p (fun _ => o_len (t := 22) Tryz.underlying22 rfl) ?_
        refine wl_p (fun _ => o_lt rfl rfl) ?_
        refine wl_nil ?_
        refine rk_if rfl (fun h10 => absurd h10 (by omega)) (fun h10 => ?_)
        refine rk_exit rfl ?_
        rw [List.take_of_length_le (by omega)] at hall
        exact rk_tof hj (Fr.le_of (by kernel_rfl) (by kernel_rfl) (by repeat' constructor)) ⟨rfl, hall, hw⟩
    clear hw
    rintro fr W ⟨rfl, hall, hw⟩
    first | refine rk_frame (by simp only [List.cons_append, List.nil_append, List.drop_succ_cons, List.drop_zero]; rfl) ?_ | refine wl_frame (by simp only [List.cons_append, List.nil_append, List.drop_succ_cons, List.drop_zero]; rfl) ?_
    refine rk_seq ?_
    refine rk_region ?_
    refine wl_p (fun _ => o_assign rfl) ?_
    refine wl_nil ?_
    refine ret1 rfl rfl ?_
    exact ⟨true, rfl, ⟨fun _ => ⟨by omega, hall⟩, fun _ => rfl⟩, hw⟩
end Go.Proofs.YtnnhenafhalobaaGreat
/-
  Walks: JournalNames.
-/
namespace Go.Proofs.YtnnhenafhalobaaGreat
set_option maxRecDepth 100000
open Go.RowKit
end Go.Proofs.YtnnhenafhalobaaGreat
/-
  Walks of the kit: OwnRecords; the last records.
-/
namespace Go.Proofs.YtnnhenafhalobaaGreat
set_option maxRecDepth 100000
open Go.RowKit
--@ hide wl_litRecR
section
variable {fn : Func} {F : Ending → World → Prop} {N : Nat} {ks : List K} {ops : Array Oper} {tg : Tags} {l : List Oper} {fr : Fr} {w w0 : World} {ty : TypeId} {pos : String} {aft : Array Edge} {gd : Option (Nat × Bool)} {d j : Nat} {x : Operand} {A : Option Addr} {L : List Rc}
--@ rule load l wl_ldRecKs
theorem wl_ldRecKs (hx : fr.ev x = some (.pointer (some (adr A (j * 2))))) (hr : RRec w0 A L) (hb : ∀ w', tg.rw.ok w w' → Below w0.heap.size w0 w') (hj : j < L.length)
    (hk : WL Tryz.prog fn F N ks ops tg.tail l ((d, .int .u8 (L[j].1.toNat : Int)) :: fr) w)
    (ht : tg.stays = true := by rfl) (hg : onG ops fr gd = true := by rfl) (hd : Nat.blt d N = true := by rfl) : WL Tryz.prog fn F N ks ops tg (⟨some d, .load 5 x, ty, pos, aft, gd⟩ :: l) fr w := by
  obtain ⟨A1, c1, h1, h2, h3, h4⟩ := hr.elem hj
  exact wl_s (fun w' hw' => o_load (t := 5) Tryz.isAgg5 hx (h1.u (hb w' hw') 0 _ rfl)) hk ht hg hd
end
set_option maxRecDepth 100000 in
theorem C_OwnRecords {A : Option Addr} {L : List Rc} {n c : Nat} (w : World) (hL : RRec w A L) (hn : n = L.length) (hm : L.length ≤ 70000) (hd : ∀ r ∈ L, r.2.length ≤ 10000) :
    CallsR Tryz.prog 20 [.slice A n c] w fun v w' => ∃ A' c', v = .slice A' L.length c' ∧ OwnRec w' w.heap.size w'.heap.size A' c' L ∧ Below w.heap.size w w' := by
  subst hn
  refine callsR Tryz.func20 rfl rfl (by kernel_rfl) rfl ?_
  have hw := Below.refl w.heap.size w
  refine rk_seq ?_
  refine rk_region ?_
  refine wl_p (fun _ => o_assign rfl) ?_
  refine wl_nil ?_
  refine rk_seq ?_
  refine rk_region ?_
  refine wl_p (fun _ => o_assign rfl) ?_
  refine wl_nil ?_
  refine rk_seq ?_
  refine rk_seq ?_
  refine rk_region ?_
  refine wl_p (fun _ => o_assign rfl) ?_
  refine wl_nil ?_
  refine rk_block ?_
  refine rk_joinf (fun fb fr W => ∃ A' c', fr = [(3, .slice A' L.length c')] ++ fb.drop 2 ∧ OwnRec W w.heap.size W.heap.size A' c' L ∧ Below w.heap.size w W) ?_ (fun ks hj => ?_)
  rotate_left
  · refine rk_loopf (fun fb m fr W => ∃ (i : Nat) (v : Int) (A' : Option Addr) (c' : Nat) (Q : List Rc), fr = [(4, .int .i64 v), (3, .slice A' Q.length c')] ++ fb.drop 2 ∧ v = i ∧ i ≤ L.length ∧ m = L.length - i ∧ Q = L.take i ∧ OwnRec W w.heap.size W.heap.size A' c' Q ∧ Below w.heap.size w W) (n := L.length) (Fr.le_of (by kernel_rfl) (by kernel_rfl) (by repeat' constructor)) ⟨0, _, none, 0, [], rfl, rfl, by omega, rfl, rfl, OwnRec.nil_, hw⟩ ?_
    clear hw
    rintro m fr W ⟨i, v, A', c', Q, rfl, rfl, hi, rfl, hQ, fo, hw⟩
    have shw := hw.size
    have hQl : Q.length = i := by rw [hQ, List.length_take]; omega
    first | refine rk_frame (by simp only [List.cons_append, List.nil_append, List.drop_succ_cons, List.drop_zero]; rfl) ?_ | refine wl_frame (by simp only [List.cons_append, List.nil_append, List.drop_succ_cons, List.drop_zero]; rfl) ?_
    by_cases hil : i < L.length
    · have hdl := hd _ (List.getElem_mem hil)
      have ht := List.take_succ_eq_append_getElem hil
      rw [← hQ] at ht
      refine rk_seq ?_
      refine rk_seq ?_
      refine rk_region ?_
      refine wl_p (fun _ => o_move rfl) ?_
      refine wl_p (fun _ => o_move rfl) ?_
      refine wl_p (fun _ => o_len (t := 44) Tryz.underlying44 rfl) ?_
      refine wl_p (fun _ => o_lt rfl rfl) ?_
      refine wl_nil ?_
      refine rk_if rfl (fun h8 => ?_) (fun h8 => h8.elim (by omega))
      refine rk_skip ?_
      refine rk_seq ?_
      refine rk_block ?_
      refine rk_draw (id := 5) (none) [0, 0, 0, 6, 8, 16, 0, 0, 192, 256, 512, 1024, 2080, 4096, 10241, 32767] [0, 0, 0, 6, 14, 30, 0, 0, 192, 448, 960, 1984, 4094, 8190, 16383, 32767] 26624 2048 [(.p, 0), (.p, 1), (.p, 2), (.p, 3), (.p, 4), (.s, 5), (.p, 6), (.p, 7), (.p, 8), (.p, 9), (.r, 10), (.c, 11), (.p, 12), (.l, 13), (.l, 14), (.p, 15)] (by kernel_rfl) (by kernel_rfl) (by kernel_rfl) (by kernel_rfl) (by kernel_rfl) ?_
      replace hw := hw.drew
      replace fo := fo.d
      refine wl_p (fun _ => o_move rfl) ?_
      refine wl_p (fun _ => o_move rfl) ?_
      refine wl_p (fun _ => o_move rfl) ?_
      refine wl_p (fun _ => (o_iaddrA (i) Tryz.underlying44 Tryz.sizeOf37 rfl rfl rfl (hL.some_ (by omega)) (by omega))) ?_
      refine wl_p (fun _ => (o_faddrR rfl Tryz.underlying37 (by rfl) Tryz.sizeOf5 (by rfl) (by rfl))) ?_
      refine wl_ldRecKs rfl hL (fun _ hk => hw.trans ((below_of_grown_none hk).mono hw.size)) (by omega) ?_
      refine wl_p (fun _ => o_move rfl) ?_
      refine wl_p (fun _ => o_move rfl) ?_
      refine wl_p (fun _ => (o_iaddrA (i) Tryz.underlying44 Tryz.sizeOf37 rfl rfl rfl (hL.some_ (by omega)) (by omega))) ?_
      refine wl_p (fun _ => (o_faddrR rfl Tryz.underlying37 (by rfl) Tryz.sizeOf35 (by rfl) (by rfl))) ?_
      refine wl_ldRecD rfl hL hw (by omega) ?_
      rintro A121 c121 f21 i21 i21_1
      refine wl_call rfl (C_OwnB _ (f21.u hw) rfl (by omega)) ?_ (hq := .inr fun _ _ h => grown_of_below h.choose_spec.choose_spec.2.2 _)
      rintro v22 w22 ⟨A22, ⟨c22, ⟨rfl, ⟨f22, b22⟩⟩⟩⟩
      simp only [drew_size] at f22
      simp only [drew_size] at b22
      have qf22 := f22.cap
      have s22 := b22.size
      simp only [drew_size] at s22
      replace hw := hw.trans (b22.mono hw.size)
      replace fo := fo.u b22
      refine wl_p (fun _ => (o_buildg [_, _] Tryz.underlying37 Tryz.zeroValue37 (by rfl) (by rfl) rfl (by rfl) (by rfl) (fun _ => by kernel_rfl))) ?_
      refine wl_litRec1 (by rfl) rfl f22.to_RdT rfl (by omega) (own_max' (by assumption)) (by rfl) ?_
      rintro A24 w24 f24 b24
      have qf24 := f24.cap
      have s24 := b24.size
      replace hw := hw.trans (b24.mono hw.size)
      replace fo := fo.u b24
      replace f22 := f22.u b24
      refine wl_appRec rfl fo rfl rfl f24.to_RRecT (by rfl) (by omega) hw.size ?_
      rintro A25 c25 w25 f25 g25 b25
      have qf25 := f25.cap
      have s25 := g25.size
      replace hw := hw.trans (b25.mono (by omega))
      replace f22 := f22.y g25 (by decide)
      replace f24 := f24.q g25 (fo.ap (by omega)) (by decide)
      clear fo
      refine wl_p (fun _ => o_assign rfl) ?_
      refine wl_nild ?_
      refine rk_blk ?_
      refine rk_region ?_
      refine wl_p (fun _ => o_move rfl) ?_
      refine wl_p (fun _ => o_add rfl rfl (by omega) (by omega)) ?_
      refine wl_p (fun _ => o_assign rfl) ?_
      refine wl_nil ?_
      exact rk_againf (Fr.le_of (by kernel_rfl) (by kernel_rfl) (by repeat' constructor)) ⟨i + 1, (i : Int) + 1, A25, c25, Q ++ [(L[i].1, L[i].2)], rfl, by omega, by omega, rfl, ht.symm, f25.base (by omega) (by omega), hw⟩ (by omega)
    · refine rk_seq ?_
      refine rk_seq ?_
      refine rk_region ?_
      refine wl_p (fun _ => o_move rfl) ?_
      refine wl_p (fun _ => o_move rfl) ?_
      refine wl_p (fun _ => o_len (t := 44) Tryz.underlying44 rfl) ?_
      refine wl_p (fun _ => o_lt rfl rfl) ?_
      refine wl_nil ?_
      refine rk_if rfl (fun h8 => absurd h8 (by omega)) (fun h8 => ?_)
      refine rk_exit rfl ?_
      obtain rfl : i = L.length := by omega
      rw [List.take_length] at hQ
      subst hQ
      exact rk_tof hj (Fr.le_of (by kernel_rfl) (by kernel_rfl) (by repeat' constructor)) ⟨A', c', rfl, fo, hw⟩
  clear hw
  rintro fr W ⟨A', c', rfl, fo, hw⟩
  first | refine rk_frame (by simp only [List.cons_append, List.nil_append, List.drop_succ_cons, List.drop_zero]; rfl) ?_ | refine wl_frame (by simp only [List.cons_append, List.nil_append, List.drop_succ_cons, List.drop_zero]; rfl) ?_
  refine rk_seq ?_
  refine rk_region ?_
  refine wl_p (fun _ => o_move rfl) ?_
  refine wl_p (fun _ => o_assign rfl) ?_
  refine wl_nil ?_
  refine ret1 rfl rfl ?_
  exact ⟨A', c', rfl, fo, hw⟩
/-- Records whose blocks are all in X: they are kept as long as these blocks are. -/
structure RRq (X : Nat → Prop) (w : World) (A : Option Addr) (L : List Rc) : Prop where
  r : RRecX X w A L
  b : ∀ k, blk A = some k → X k
theorem OwnRecX.rrq {X : Nat → Prop} {w : World} {lo hi c : Nat} {A : Option Addr} {L : List Rc} (h : OwnRecX X w lo hi A c L) (hX : ∀ k, lo ≤ k → X k) : RRq X w A L := ⟨h.to_RRecX, fun k hk => hX k (h.row k hk).1⟩
theorem RRq.to_RRec {X : Nat → Prop} {w : World} {A : Option Addr} {L : List Rc} (h : RRq X w A L) : RRec w A L := h.r.to_RRec
theorem RRq.u {X : Nat → Prop} {w w' : World} {A : Option Addr} {L : List Rc} (h : RRq X w A L) (hb : Below w.heap.size w w') : RRq X w' A L := ⟨h.r.u hb, h.b⟩
theorem RRq.some_ {X : Nat → Prop} {w : World} {A : Option Addr} {L : List Rc} (h : RRq X w A L) (hl : 0 < L.length) : A = some (A.getD ⟨0, 0, none⟩) := h.r.some_ hl
theorem Rd.keepX {w w' : World} {A : Option Addr} {l : By} {X : Nat → Prop} (h : Rd w A l) (hX : ∀ k, blk A = some k → X k) (hk : ∀ k, X k → k < w.heap.size → w'.heap[k]? = w.heap[k]?) : Rd w' A l := by
  by_cases hl : l = []
  · subst hl; exact ⟨h.1, fun h => absurd rfl h⟩
  · obtain ⟨b, o, rfl, hcl⟩ := h.2 (fun e => hl (by cases l with | nil => rfl | cons x y => cases e))
    refine ⟨h.1, fun _ => ⟨b, o, rfl, fun j u hj => ?_⟩⟩
    have h1 := hcl j u hj
    have hlt : b < w.heap.size := block_lt_of_cell h1
    rw [← h1]
    show World.cell? w' _ = World.cell? w _
    unfold World.cell?
    rw [show w'.heap[b]? = w.heap[b]? from hk b (hX b rfl) hlt]
theorem Reads.keepX {w w' : World} {A : Option Addr} {sz n : Nat} {xs : List Value} {X : Nat → Prop} (h : Reads w sz A n xs) (hX : ∀ k, blk A = some k → X k) (hk : ∀ k, X k → k < w.heap.size → w'.heap[k]? = w.heap[k]?) : Reads w' sz A n xs := by
  by_cases hl : xs = []
  · subst hl; exact ⟨h.1, fun h => absurd rfl h⟩
  · obtain ⟨b, o, rfl, hcl⟩ := h.2 hl
    refine ⟨h.1, fun _ => ⟨b, o, rfl, fun j u hj => ?_⟩⟩
    have h1 := hcl j u hj
    have hlt : b < w.heap.size := block_lt_of_cell h1
    rw [← h1]
    show World.cell? w' _ = World.cell? w _
    unfold World.cell?
    rw [show w'.heap[b]? = w.heap[b]? from hk b (hX b rfl) hlt]
theorem gRecX_keep {X : Nat → Prop} {w w' : World} {cs : List Value} {r : Rc} (h : (gRecX X).R w cs r) (hk : ∀ k, X k → k < w.heap.size → w'.heap[k]? = w.heap[k]?) : (gRecX X).R w' cs r := by
  obtain ⟨h1, h2⟩ := h
  refine ⟨?_, h2⟩
  obtain ⟨A, c, rfl, k1, k2, k3⟩ := gRec_R h1
  obtain ⟨k, p⟩ := r
  exact gRec_mkR (k1.keepX (h2 A p.length c (by simp)) hk) k2 k3
theorem RRq.keep {X : Nat → Prop} {w w' : World} {A : Option Addr} {L : List Rc} (h : RRq X w A L) (hk : ∀ k, X k → k < w.heap.size → w'.heap[k]? = w.heap[k]?) : RRq X w' A L := by
  obtain ⟨⟨xs, h1, h2⟩, h3⟩ := h
  exact ⟨⟨xs, Reads.keepX h1 h3 hk, fun i hi => gRecX_keep (h2 i hi) hk⟩, h3⟩
theorem RRq.drop {X : Nat → Prop} {w : World} {A : Option Addr} {L : List Rc} (h : RRq X w A L) {k cap : Nat} (hk : k ≤ L.length) (hc : L.length ≤ cap) : RRq X w (cutA A cap 2 k) (L.drop k) := by
  refine ⟨RSl.drop (X := gRecX X) h.r hk hc, fun j hj => ?_⟩
  rw [blk_cutA] at hj
  exact h.b j hj
section
variable {fn : Func} {F : Ending → World → Prop} {N : Nat} {ks : List K} {ops : Array Oper} {tg : Tags} {l : List Oper} {fr : Fr} {w w0 : World} {ty : TypeId} {pos : String} {aft : Array Edge} {gd : Option (Nat × Bool)} {d j : Nat} {x y : Operand} {A : Option Addr} {L : List Rc}
--@ rule! slice l wl_slRecQ
theorem wl_slRecQ {X : Nat → Prop} {len cap : Nat} {kl : IntKind} {S : Int} (lo : Nat) (hx : fr.ev x = some (.slice A len cap)) (hy : fr.ev y = some (.int kl S)) (hr : RRq X w A L) (hlen : len = L.length) (hl : S = (lo : Int)) (h1 : lo ≤ L.length) (h3 : L.length ≤ cap)
    (hk : ∀ A' c', RRq X w A' (L.drop lo) → L.length - lo ≤ c' → WL Tryz.prog fn F N ks ops tg.tail l ((d, .slice A' (L.length - lo) c') :: fr) w) (hg : onG ops fr gd = true := by rfl) (hd : Nat.blt d N = true := by rfl) :
    WL Tryz.prog fn F N ks ops tg (⟨some d, .slice 44 x (some y) none none, ty, pos, aft, gd⟩ :: l) fr w := by
  subst hlen
  exact wl_p (fun _ => o_slice_lo (sz := 2) (lo := lo) Tryz.underlying44 Tryz.sizeOf37 hx hy hl h1) (hk _ _ (hr.drop h1 h3) (by omega)) hg hd
end
theorem C_last09 {X : Nat → Prop} {A : Option Addr} {L : List Rc} {n c : Nat} {x : Int} {k : Nat} (w : World) (hL : RRq X w A L) (hk : (L.length : Int) - pick x (L.length + 1) = k) (hn : n = L.length) (hc : L.length ≤ c) (hm : L.length ≤ 1000000) (wx : (Lit.int .i64 x).wf = true) :
    CallsR Tryz.prog 17 [.slice A n c, .int .i64 x] w fun v w' => ∃ A' c', v = .slice A' (L.length - k) c' ∧ RRq X w' A' (L.drop k) ∧ L.length - k ≤ c' ∧ Below w.heap.size w w' := by
  subst hn
  have hpk := pick_range x (L.length + 1) (by omega)
  obtain ⟨q, hq⟩ : ∃ q, pick x (L.length + 1) = q := ⟨_, rfl⟩
  rw [hq] at hk hpk
  have wl : (Lit.int .i64 ((L.length : Int) + 1)).wf = true := i64_wf (by omega)
  refine callsR Tryz.func17 rfl rfl (by kernel_rfl) rfl ?_
  have hw := Below.refl w.heap.size w
  refine rk_seq ?_
  refine rk_region ?_
  refine wl_p (fun _ => o_assign rfl) ?_
  refine wl_nil ?_
  refine rk_seq ?_
  refine rk_region ?_
  refine wl_p (fun _ => o_move rfl) ?_
  refine wl_p (fun _ => o_move rfl) ?_
  refine wl_p (fun _ => o_len (t := 44) Tryz.underlying44 rfl) ?_
  refine wl_p (fun _ => o_move rfl) ?_
  refine wl_p (fun _ => o_move rfl) ?_
  refine wl_p (fun _ => o_len (t := 44) Tryz.underlying44 rfl) ?_
  refine wl_p (fun _ => o_add rfl rfl (by omega) (by omega)) ?_
  refine wl_call rfl (C_PickR _ hq wx wl) ?_
  rintro v12 w12 ⟨rfl, b12⟩
  have s12 := b12.size
  replace hw := hw.trans (b12.mono hw.size)
  refine wl_p (fun _ => o_sub rfl rfl (by omega) (by omega)) ?_
  refine wl_slRecQ (k) rfl rfl (hL.u hw) rfl hk (by omega) (by omega) ?_
  rintro A14 c14 f14 i14
  refine wl_p (fun _ => o_assign rfl) ?_
  refine wl_nil ?_
  rw [hk]
  refine ret1 rfl rfl ?_
  exact ⟨_, _, rfl, f14, by omega, hw⟩
end Go.Proofs.YtnnhenafhalobaaGreat
/-
  The chapter's examples: package sha.
-/
namespace Go.Proofs.YtnnhenafhalobaaGreat
set_option maxRecDepth 100000
open Go.RowKit
end Go.Proofs.YtnnhenafhalobaaGreat
/-
  The statement ShaNames: padding of one string, the examples.
-/
namespace Go.Proofs.YtnnhenafhalobaaGreat
set_option maxRecDepth 100000
open Go.RowKit
end Go.Proofs.YtnnhenafhalobaaGreat
/-
  Walks of the reference for sums: turned words, words, padding, a piece.
-/
namespace Go.Proofs.YtnnhenafhalobaaGreat
set_option maxRecDepth 100000
open Go.RowKit
theorem C_refrot {x : UInt64} {k : Int} (w : World) (h1 : 0 < k) (h2 : k < 64) : CallsR Tryz.prog 150 [.int .u64 (x.toNat : Int), .int .i64 k] w fun v w' => v = .int .u64 ((rotU x (-k)).toNat : Int) ∧ Below w.heap.size w w' := by
  obtain ⟨s, rfl⟩ : ∃ s : Nat, k = s := ⟨k.toNat, by omega⟩
  refine callsR Tryz.func150 rfl rfl (by kernel_rfl) rfl ?_
  refine rk_seq ?_
  refine rk_region ?_
  refine wl_p (fun _ => o_assign rfl) ?_
  refine wl_nil ?_
  refine rk_seq ?_
  refine rk_region ?_
  refine wl_p (fun _ => o_move rfl) ?_
  refine wl_p (fun _ => o_move rfl) ?_
  refine wl_p (fun _ => o_convu64 (src := 3) (dst := 151) Tryz.underlying3 Tryz.underlying151 rfl (by omega) (by omega)) ?_
  refine wl_p (fun _ => o_shrU rfl rfl (by omega) (by omega)) ?_
  refine wl_p (fun _ => o_move rfl) ?_
  refine wl_p (fun _ => o_move rfl) ?_
  refine wl_p (fun _ => o_sub rfl rfl (by omega) (by omega)) ?_
  refine wl_p (fun _ => o_convu64 (src := 3) (dst := 151) Tryz.underlying3 Tryz.underlying151 rfl (by omega) (by omega)) ?_
  refine wl_p (fun _ => o_shlU rfl rfl (by omega) (by omega)) ?_
  refine wl_p (fun _ => o_orU rfl rfl) ?_
  refine wl_p (fun _ => o_assign rfl) ?_
  refine wl_nil ?_
  refine ret1 rfl rfl ?_
  exact ⟨by unfold rotU; rw [show (s : Int).toNat = s from rfl, show (64 - (s : Int)).toNat = 64 - s by omega, show (-(s : Int) % 64).toNat = 64 - s by omega, show 64 - (64 - s) = s by omega, UInt64.or_comm], Below.refl _ _⟩
set_option maxRecDepth 100000 in
theorem C_refK {r : List UInt64} (w : World) (hr : Kl = r) : CallsR Tryz.prog 149 [] w fun v w' => v = .agg (vU r).toArray ∧ Below w.heap.size w w' := by
  subst hr
  refine callsR Tryz.func149 rfl rfl (by kernel_rfl) rfl ?_
  have hw := Below.refl w.heap.size w
  refine rk_seq ?_
  refine rk_region ?_
  refine wl_allocU Tryz.underlying178 Tryz.zeroValue178 (by rfl) ?_
  rintro g0 w0 f0 b0 i0 i0_1
  have s0 := b0.size
  replace hw := hw.trans (b0.mono hw.size)
  refine wl_nil ?_
  refine rk_seq ?_
  refine rk_region ?_
  refine wl_p (fun _ => o_buildU (n := 80) (vs := vU Kl) Kl Tryz.underlying178 rfl rfl (by kernel_rfl) rfl rfl (by kernel_rfl) (fun _ => by kernel_rfl)) ?_
  refine wl_stUa Tryz.sizeOf178 rfl f0 rfl (by rfl) (by rfl) ?_
  rintro w_1 f g e
  have s := g.size
  replace hw := hw.trans (below_of_grownBy g.g hw.size (by omega))
  clear f0
  refine wl_nil ?_
  refine ret_cell rfl rfl Tryz.isAgg178 Tryz.sizeOf178 f rfl ?_
  exact ⟨rfl, hw⟩
theorem C_refStart (w : World) : CallsR Tryz.prog 131 [] w fun v w' => v = .agg (vU Sl).toArray ∧ Below w.heap.size w w' := by
  refine callsR Tryz.func131 rfl rfl (by kernel_rfl) rfl ?_
  have hw := Below.refl w.heap.size w
  refine rk_seq ?_
  refine rk_region ?_
  refine wl_allocU Tryz.underlying141 Tryz.zeroValue141 (by rfl) ?_
  rintro g0 w0 f0 b0 i0 i0_1
  have s0 := b0.size
  replace hw := hw.trans (b0.mono hw.size)
  refine wl_nil ?_
  refine rk_seq ?_
  refine rk_region ?_
  refine wl_p (fun _ => (o_buildga [_, _, _, _, _, _, _, _] Tryz.underlying141 Tryz.sizeOf52 Tryz.zeroValue141 (by rfl) (by rfl) rfl (by rfl) (by rfl) (fun _ => by kernel_rfl))) ?_
  refine wl_storega Tryz.sizeOf141 rfl rfl (by rfl) (by decide) f0 (by rfl) ?_
  rintro w_1 f g e
  have s := g.size
  replace hw := hw.trans (below_of_grownBy g.g hw.size (by omega))
  clear f0
  refine wl_nil ?_
  refine ret_cell rfl rfl Tryz.isAgg141 Tryz.sizeOf141 f rfl ?_
  exact ⟨by kernel_rfl, hw⟩
section
variable {fn : Func} {F : Ending → World → Prop} {N : Nat} {ks : List K} {ops : Array Oper} {tg : Tags} {l : List Oper} {fr : Fr} {w : World} {ty : TypeId} {pos : String} {aft : Array Edge} {gd : Option (Nat × Bool)} {d n c lo hi : Nat} {x y : Operand} {A : Option Addr} {s : List UInt8}
--@ rule append l wl_appZx
theorem wl_appZx (m : Nat) {M : Int} (hx : fr.ev x = some (.slice A n c)) (hown : OwnH w lo hi A c s) (hn : n = s.length) (hy : fr.ev y = some (.int .i64 M)) (hM : M = (m : Int)) (hm : 0 < m) (hlen : s.length + m ≤ 4000000000) (hB : lo ≤ w.heap.size)
    (h : ∀ A' c' w', OwnH w' lo w'.heap.size A' c' (s ++ List.replicate m 0) → Grew w w' 5 (blk A) → Below lo w w' → WL Tryz.prog fn F N ks ops tg.tail l ((d, .slice A' (s ++ List.replicate m 0).length c') :: fr) w')
    (ht : tg.loud = true := by rfl) (hg : onG ops fr gd = true := by rfl) (hd : Nat.blt d N = true := by rfl) (hq : tg.calm = false ∨ blk A = none ∨ blk A = tg.row := by exact .inl rfl) :
    WL Tryz.prog fn F N ks ops tg (⟨some d, .call { callee := .builtin .append, args := #[x, y], argTypes := #[35, 3] }, ty, pos, aft, gd⟩ :: l) fr w :=
  wl_appZs Tryz.u8 Tryz.underlying3 Tryz.underlying9 m hx hown hn hy hM hm hlen hB h ht hg hd hq
end
set_option maxHeartbeats 800000 in
theorem C_refPad {A : Option Addr} {b r : By} {n c : Nat} (w : World) (hp : Rd w A b) (hr : padU b = r) (hn : n = b.length) (hbl : b.length ≤ 200000) :
    CallsR Tryz.prog 129 [.slice A n c] w fun v w' => ∃ A' c', v = .slice A' r.length c' ∧ OwnH w' w.heap.size w'.heap.size A' c' r ∧ Below w.heap.size w w' := by
  subst hn
  obtain ⟨zn, hz⟩ : ∃ zn, zeros b.length = zn := ⟨_, rfl⟩
  have hzd := hz
  unfold zeros at hzd
  refine callsR Tryz.func129 rfl rfl (by kernel_rfl) rfl ?_
  have hw := Below.refl w.heap.size w
  refine rk_seq ?_
  refine rk_region ?_
  refine wl_p (fun _ => o_assign rfl) ?_
  refine wl_nil ?_
  refine rk_seq ?_
  refine rk_region ?_
  refine wl_litB [] Tryz.u8 Tryz.sizeOf5 Tryz.zeroValue5 (by rfl) rfl rfl (by rfl) (by rfl) (by rfl) ?_
  rintro A6 w6 f6 b6
  have qf6 := f6.cap
  have s6 := b6.size
  replace hw := hw.trans (b6.mono hw.size)
  refine wl_p (fun _ => o_move rfl) ?_
  refine wl_appB Tryz.u8 rfl f6 (by rfl) rfl (hp.u hw) rfl (by omega) hw.size ?_
  rintro A8 c8 w8 f8 g8 b8 i8
  have qf8 := f8.cap
  have s8 := g8.size
  replace hw := hw.trans (b8.mono (by omega))
  clear f6
  refine wl_litB [128] Tryz.u8 Tryz.sizeOf5 Tryz.zeroValue5 (by rfl) rfl rfl (by rfl) (by rfl) (by rfl) ?_
  rintro A9 w9 f9 b9
  have qf9 := f9.cap
  have s9 := b9.size
  replace hw := hw.trans (b9.mono hw.size)
  replace f8 := f8.u b9
  refine wl_appB Tryz.u8 rfl f8 rfl rfl f9.to_Rd (by rfl) (by simp; omega) hw.size ?_
  rintro A10 c10 w10 f10 g10 b10 i10
  have qf10 := f10.cap
  have s10 := g10.size
  replace hw := hw.trans (b10.mono (by omega))
  replace f9 := f9.k g10.g (f8.ap (by omega))
  clear f8
  refine wl_p (fun _ => o_assign rfl) ?_
  refine wl_nil ?_
  refine rk_seq ?_
  refine rk_block ?_
  rw [List.nil_append] at f10 ⊢
  refine rk_joinf (fun fb fr w4 => ∃ A' c' bs, fr = [(3, .slice A' bs.length c')] ++ fb.drop 1 ∧ bs = b ++ [128] ++ List.replicate zn 0 ∧ OwnH w4 w.heap.size w4.heap.size A' c' bs ∧ Below w.heap.size w w4) ?_ (fun ks hj => ?_)
  rotate_left
  · refine rk_loopf (fun fb m fr w4 => ∃ (i : Nat) (A' : Option Addr) (bs : By) (c' : Nat), fr = [(3, .slice A' bs.length c')] ++ fb.drop 1 ∧ i ≤ zn ∧ m = zn - i ∧ bs = b ++ [128] ++ List.replicate i 0 ∧ OwnH w4 w.heap.size w4.heap.size A' c' bs ∧ Below w.heap.size w w4) (n := zn) (Fr.le_of (by kernel_rfl) (by kernel_rfl) (by repeat' constructor)) ⟨0, A10, _, _, rfl, by omega, rfl, by rw [List.replicate_zero, List.append_nil], f10.base (by omega) (Nat.le_refl _), hw⟩ ?_
    clear hw f10
    rintro m fr w4 ⟨i, A', bs, c', rfl, hi, rfl, hbs, fo, hw⟩
    have shw4 := hw.size
    have hbl4 : bs.length = b.length + 1 + i := by rw [hbs, List.length_append, List.length_append, List.length_replicate, List.length_singleton]
    first | refine rk_frame (by simp only [List.cons_append, List.nil_append, List.drop_succ_cons, List.drop_zero]; rfl) ?_ | refine wl_frame (by simp only [List.cons_append, List.nil_append, List.drop_succ_cons, List.drop_zero]; rfl) ?_
    refine rk_seq ?_
    refine rk_seq ?_
    refine rk_region ?_
    refine wl_p (fun _ => o_move rfl) ?_
    refine wl_p (fun _ => o_len (t := 35) Tryz.underlying35 rfl) ?_
    refine wl_p (fun _ => o_rem rfl rfl (by omega) (by omega)) ?_
    refine wl_p (fun _ => o_ne rfl rfl) ?_
    refine wl_nil ?_
    refine rk_if rfl (fun h14 => ?_) (fun h14 => ?_)
    · refine rk_skip ?_
      refine rk_block ?_
      refine rk_region ?_
      refine wl_p (fun _ => o_move rfl) ?_
      refine wl_litB [0] Tryz.u8 Tryz.sizeOf5 Tryz.zeroValue5 (by rfl) rfl rfl (by rfl) (by rfl) (by rfl) ?_
      rintro A16 w16 f16 b16
      have qf16 := f16.cap
      have s16 := b16.size
      replace hw := hw.trans (b16.mono hw.size)
      replace fo := fo.u b16
      refine wl_appB Tryz.u8 rfl fo rfl rfl f16.to_Rd (by rfl) (by omega) hw.size ?_
      rintro A17 c17 w17 f17 g17 b17 i17
      have qf17 := f17.cap
      have s17 := g17.size
      replace hw := hw.trans (b17.mono (by omega))
      replace f16 := f16.k g17.g (fo.ap (by omega))
      clear fo
      refine wl_p (fun _ => o_assign rfl) ?_
      refine wl_nil ?_
      refine rk_blk ?_
      exact rk_againf (Fr.le_of (by kernel_rfl) (by kernel_rfl) (by repeat' constructor)) ⟨i + 1, _, _, _, rfl, by omega, rfl, by rw [hbs, List.replicate_succ', List.append_assoc (b ++ [128])], f17, hw⟩ (by omega)
    · refine rk_exit rfl ?_
      obtain rfl : i = zn := by omega
      exact rk_tof hj (Fr.le_of (by kernel_rfl) (by kernel_rfl) (by repeat' constructor)) ⟨A', c', bs, rfl, hbs, fo, hw⟩
  clear hw f10
  rintro fr w4 ⟨A', c', bs, rfl, hbs, fo, hw⟩
  have shw4 := hw.size
  have hbl4 : bs.length = b.length + 1 + zn := by rw [hbs, List.length_append, List.length_append, List.length_replicate, List.length_singleton]
  obtain ⟨x, hx⟩ : ∃ x, UInt64.ofNat (b.length * 8) = x := ⟨_, rfl⟩
  have hxn : x.toNat = b.length * 8 := by rw [← hx, UInt64.toNat_ofNat_of_lt' (by show b.length * 8 < 18446744073709551616; omega)]
  first | refine rk_frame (by simp only [List.cons_append, List.nil_append, List.drop_succ_cons, List.drop_zero]; rfl) ?_ | refine wl_frame (by simp only [List.cons_append, List.nil_append, List.drop_succ_cons, List.drop_zero]; rfl) ?_
  refine rk_seq ?_
  refine rk_region ?_
  refine wl_p (fun _ => o_move rfl) ?_
  refine wl_appZx (8) rfl fo rfl rfl (by omega) (by omega) (by omega) hw.size ?_
  rintro A19 c19 w19 f19 g19 b19
  have qf19 := f19.cap
  have s19 := g19.size
  replace hw := hw.trans (b19.mono (by omega))
  clear fo
  refine wl_p (fun _ => o_assign rfl) ?_
  refine wl_nil ?_
  refine rk_seq ?_
  refine rk_region ?_
  refine wl_p (fun _ => o_move rfl) ?_
  refine wl_p (fun _ => o_len (t := 35) Tryz.underlying35 rfl) ?_
  refine wl_p (fun _ => o_convu64 (src := 3) (dst := 52) Tryz.underlying3 Tryz.underlying52 rfl (by omega) (by omega)) ?_
  refine wl_p (fun _ => o_mulq rfl rfl (by omega) (by omega)) ?_
  refine wl_p (fun _ => o_assign rfl) ?_
  refine wl_nil ?_
  refine rk_seq ?_
  refine rk_seq ?_
  refine rk_region ?_
  refine wl_p (fun _ => o_assign rfl) ?_
  refine wl_nil ?_
  refine rk_block ?_
  rw [show (b.length : Int) * 8 = (x.toNat : Int) by omega]
  obtain ⟨b2, hb2⟩ : ∃ b2, bs ++ List.replicate 8 0 = b2 := ⟨_, rfl⟩
  rw [hb2] at f19 ⊢
  have hb2l : b2.length = bs.length + 8 := by rw [← hb2, List.length_append, List.length_replicate]
  have hrr : r = b2 ++ be8 x := by
    rw [← hr, ← hb2, hbs, ← hz, ← hx]; rfl
  have hbn : (be8 x).length = 8 := be8_len x
  refine rk_joinf (fun fb fr w5 => ∃ A' c', fr = [(3, .slice A' r.length c')] ++ fb.drop 6 ∧ OwnH w5 w.heap.size w5.heap.size A' c' r ∧ Below w.heap.size w w5) ?_ (fun ks hj => ?_)
  rotate_left
  · refine rk_loopf (fun fb m fr w6 => ∃ (k : Nat) (v : Int) (A' : Option Addr) (bu : By) (c' : Nat), fr = [(5, .int .i64 v), (4, .int .u64 (x.toNat : Int)), (3, .slice A' bu.length c')] ++ fb.drop 6 ∧ v = 7 - (k : Int) ∧ k ≤ 8 ∧ m = 8 - k ∧ bu = b2 ++ (be8 x).take k ∧ OwnH w6 w.heap.size w6.heap.size A' c' bu ∧ Below w.heap.size w w6) (n := 8) (Fr.le_of (by kernel_rfl) (by kernel_rfl) (by repeat' constructor)) ⟨0, _, A19, _, c19, rfl, by omega, by omega, rfl, by rw [List.take_zero, List.append_nil], f19.base (by omega) (Nat.le_refl _), hw⟩ ?_
    clear hw f19
    rintro m fr w6 ⟨k, v, A', bu, c', rfl, rfl, hk, rfl, hbu, fo, hw⟩
    have shw6 := hw.size
    have hbul : bu.length = b2.length + k := by rw [hbu, List.length_append, List.length_take]; omega
    first | refine rk_frame (by simp only [List.cons_append, List.nil_append, List.drop_succ_cons, List.drop_zero]; rfl) ?_ | refine wl_frame (by simp only [List.cons_append, List.nil_append, List.drop_succ_cons, List.drop_zero]; rfl) ?_
    refine rk_seq ?_
    refine rk_seq ?_
    refine rk_region ?_
    refine wl_p (fun _ => o_move rfl) ?_
    refine wl_p (fun _ => o_ge rfl rfl) ?_
    refine wl_nil ?_
    refine rk_if rfl (fun h25 => ?_) (fun h25 => ?_)
    · refine rk_skip ?_
      refine rk_seq ?_
      refine rk_block ?_
      refine rk_region ?_
      refine wl_p (fun _ => o_move rfl) ?_
      refine wl_p (fun _ => o_move rfl) ?_
      refine wl_p (fun _ => o_move rfl) ?_
      refine wl_p (fun _ => o_mul rfl rfl (by omega) (by omega)) ?_
      refine wl_p (fun _ => o_convu64 (src := 3) (dst := 151) Tryz.underlying3 Tryz.underlying151 rfl (by omega) (by omega)) ?_
      refine wl_p (fun _ => o_shrU rfl rfl (by omega) (by omega)) ?_
      rw [show (8 * (7 - (k : Int))).toNat = 56 - 8 * k by omega]
      refine wl_p (fun _ => o_convU8 (src := 52) (dst := 5) Tryz.underlying52 Tryz.underlying5 rfl) ?_
      refine wl_litB [(shrU x (56 - 8 * k)).toUInt8] Tryz.u8 Tryz.sizeOf5 Tryz.zeroValue5 (by rfl) rfl rfl (by rfl) (by rfl) (by rfl) ?_
      rintro A35 w35 f35 b35
      have qf35 := f35.cap
      have s35 := b35.size
      replace hw := hw.trans (b35.mono hw.size)
      replace fo := fo.u b35
      refine wl_appB Tryz.u8 rfl fo rfl rfl f35.to_Rd (by rfl) (by omega) hw.size ?_
      rintro A36 c36 w36 f36 g36 b36 i36
      have qf36 := f36.cap
      have s36 := g36.size
      replace hw := hw.trans (b36.mono (by omega))
      replace f35 := f35.k g36.g (fo.ap (by omega))
      clear fo
      refine wl_p (fun _ => o_assign rfl) ?_
      refine wl_nil ?_
      refine rk_blk ?_
      refine rk_region ?_
      refine wl_p (fun _ => o_move rfl) ?_
      refine wl_p (fun _ => o_sub rfl rfl (by omega) (by omega)) ?_
      refine wl_p (fun _ => o_assign rfl) ?_
      refine wl_nil ?_
      exact rk_againf (Fr.le_of (by kernel_rfl) (by kernel_rfl) (by repeat' constructor)) ⟨k + 1, 7 - (k : Int) - 1, _, _, _, rfl, by omega, by omega, rfl, by rw [hbu, List.take_succ_eq_append_getElem (by omega), be8_get, List.append_assoc], f36, hw⟩ (by omega)
    · refine rk_exit rfl ?_
      obtain rfl : k = 8 := by omega
      rw [List.take_of_length_le (by omega), ← hrr] at hbu
      subst hbu
      exact rk_tof hj (Fr.le_of (by kernel_rfl) (by kernel_rfl) (by repeat' constructor)) ⟨A', c', rfl, fo, hw⟩
  clear hw f19
  rintro fr w5 ⟨A', c', rfl, fo, hw⟩
  have shw5 := hw.size
  first | refine rk_frame (by simp only [List.cons_append, List.nil_append, List.drop_succ_cons, List.drop_zero]; rfl) ?_ | refine wl_frame (by simp only [List.cons_append, List.nil_append, List.drop_succ_cons, List.drop_zero]; rfl) ?_
  refine rk_seq ?_
  refine rk_region ?_
  refine wl_p (fun _ => o_move rfl) ?_
  refine wl_p (fun _ => o_assign rfl) ?_
  refine wl_nil ?_
  refine ret1 rfl rfl ?_
  exact ⟨A', c', rfl, fo, hw⟩
end Go.Proofs.YtnnhenafhalobaaGreat
/-
  Walks of the reference for sums: a piece, all pieces, bytes, what is joined.
-/
namespace Go.Proofs.YtnnhenafhalobaaGreat
set_option maxRecDepth 100000
open Go.RowKit
/-- The words while they are made. -/
def wsAt (p : By) (n : Nat) (q : List UInt64) : Prop := (n ≤ 16 ∧ q = ws80 p (8 * n)) ∨ (16 ≤ n ∧ q = wx p (n - 16) ++ List.replicate (64 - (n - 16)) 0)
theorem wsAt_len {p : By} {n : Nat} {q : List UInt64} (hn : n ≤ 80) (h : wsAt p n q) : q.length = 80 := by
  rcases h with ⟨_, rfl⟩ | ⟨h1, rfl⟩
  · exact ws80_len p _
  · rw [List.length_append, wx_len, List.length_replicate]; omega
theorem wsAt_low {p : By} {n : Nat} {q : List UInt64} (hp : p.length = 128) (h : wsAt p n q) (hn : n < 16) : q = ws80 p (8 * n) := by
  rcases h with ⟨_, h⟩ | ⟨h1, h⟩
  · exact h
  · omega
theorem wsAt_high {p : By} {n : Nat} {q : List UInt64} (hp : p.length = 128) (h : wsAt p (n + 16) q) : q = wx p n ++ List.replicate (64 - n) 0 := by
  rcases h with ⟨h1, h⟩ | ⟨h1, h⟩
  · obtain rfl : n = 0 := by omega
    rw [h]; exact wx_start hp
  · rw [h, Nat.add_sub_cancel]
theorem list_stOf {l : List UInt64} (hl : l.length = 8) : (stOf l).list = l := by
  match l, hl with
  | [a, b, c, d, e, f, g, h], _ => rfl
theorem zip_comm (l m : List UInt64) : List.zipWith (· + ·) l m = List.zipWith (· + ·) m l := by
  rw [List.zipWith_comm]; congr 1; funext a b; exact UInt64.add_comm _ _
set_option maxHeartbeats 4000000 in
set_option maxRecDepth 100000 in
theorem C_refpiece {l : List UInt64} {A : Option Addr} {p : By} {r : List UInt64} {n c : Nat} (w : World) (hpr : Rd w A p) (hr : pieceU l p = r) (hl : l.length = 8) (hp : p.length = 128) (hn : n = p.length) :
    CallsR Tryz.prog 130 [.agg (vU l).toArray, .slice A n c] w fun v w' => v = .agg (vU r).toArray ∧ Below w.heap.size w w' := by
  subst hn
  have hr8 : r.length = 8 := by rw [← hr]; exact pieceU_len p hl
  obtain ⟨W, hW⟩ : ∃ W, wx p 64 = W := ⟨_, rfl⟩
  have hW8 : W.length = 80 := by rw [← hW, wx_len]
  obtain ⟨kl, hkl⟩ : ∃ kl, Kl = kl := ⟨_, rfl⟩
  have hK8 : kl.length = 80 := by rw [← hkl]; rfl
  obtain ⟨s0, hs0⟩ : ∃ s0, stOf l = s0 := ⟨_, rfl⟩
  obtain ⟨R, hR⟩ : ∃ R, rnds kl W 80 s0 = R := ⟨_, rfl⟩
  have hrr : r = List.zipWith (· + ·) l R.list := by
    rw [← hr, ← hR, ← hkl, ← hW, ← hs0]; rfl
  refine callsR Tryz.func130 rfl rfl (by kernel_rfl) rfl ?_
  have hw := Below.refl w.heap.size w
  refine rk_seq ?_
  refine rk_region ?_
  refine wl_boxg _ rfl (by rfl) ?_
  rintro g2 w2 f2 b2 i2 i2_1
  have s2 := b2.size
  replace hw := hw.trans (b2.mono hw.size)
  refine wl_allocU Tryz.underlying141 Tryz.zeroValue141 (by rfl) ?_
  rintro g4 w4 f4 b4 i4 i4_1
  have s4 := b4.size
  replace hw := hw.trans (b4.mono hw.size)
  replace f2 := f2.u b4
  refine wl_nil ?_
  refine rk_seq ?_
  refine rk_region ?_
  refine wl_call rfl (C_refK _ hkl) ?_
  rintro v18 w18 ⟨rfl, b18⟩
  have s18 := b18.size
  replace hw := hw.trans (b18.mono hw.size)
  replace f2 := f2.u b18
  replace f4 := f4.u b18
  refine wl_allocstU (q := kl) Tryz.underlying178 zv80 rfl (by first | exact Tryz.sizeOf178 | kernel_rfl) (fun _ => rfl) hK8 ?_
  rintro g5 w5 f b5 i5 j5
  have sb5 := b5.size
  replace hw := hw.trans (b5.mono hw.size)
  replace f4 := f4.u b5
  replace f2 := f2.u b5
  refine wl_nil ?_
  refine rk_seq ?_
  refine rk_region ?_
  refine wl_allocU Tryz.underlying178 Tryz.zeroValue178 (by rfl) ?_
  rintro g6 w6 f6 b6 i6 i6_1
  have s6 := b6.size
  replace hw := hw.trans (b6.mono hw.size)
  replace f2 := f2.u b6
  replace f4 := f4.u b6
  replace f := f.u b6
  refine wl_nil ?_
  refine rk_seq ?_
  refine rk_seq ?_
  refine rk_region ?_
  refine wl_p (fun _ => o_assign rfl) ?_
  refine wl_nil ?_
  refine rk_block ?_
  refine rk_joinf (fun fb fr w5 => fr = [] ++ fb.drop 1 ∧ Blk w5 g6 178 (vU W) ∧ Blk w5 g5 178 (vU kl) ∧ Blk w5 g2 141 (vU l) ∧ Blk w5 g4 141 (vU (List.replicate 8 0)) ∧ w6.heap.size ≤ w5.heap.size ∧ Below w.heap.size w w5) ?_ (fun ks hj => ?_)
  rotate_left
  · refine rk_loopf (fun fb m fr w5 => ∃ (n : Nat) (v : Int) (q : List UInt64), fr = [(7, .int .i64 v)] ++ fb.drop 1 ∧ v = n ∧ n ≤ 80 ∧ m = 80 - n ∧ wsAt p n q ∧ Blk w5 g6 178 (vU q) ∧ Blk w5 g5 178 (vU kl) ∧ Blk w5 g2 141 (vU l) ∧ Blk w5 g4 141 (vU (List.replicate 8 0)) ∧ w6.heap.size ≤ w5.heap.size ∧ Below w.heap.size w w5) (n := 80) (Fr.le_of (by kernel_rfl) (by kernel_rfl) (by repeat' constructor)) ⟨0, _, _, rfl, rfl, by omega, rfl, .inl ⟨by omega, (ws80_zero p).symm⟩, f6, f, f2, f4, Nat.le_refl _, hw⟩ ?_
    clear hw f6 f f2 f4
    rintro m fr w5 ⟨n, v, q, rfl, rfl, hn, rfl, hq, f6, f, f2, f4, hsz, hw⟩
    have shw := hw.size
    have hql := wsAt_len hn hq
    first | refine rk_frame (by simp only [List.cons_append, List.nil_append, List.drop_succ_cons, List.drop_zero]; rfl) ?_ | refine wl_frame (by simp only [List.cons_append, List.nil_append, List.drop_succ_cons, List.drop_zero]; rfl) ?_
    refine rk_seq ?_
    refine rk_seq ?_
    refine rk_region ?_
    refine wl_p (fun _ => o_move rfl) ?_
    refine wl_p (fun _ => o_lt rfl rfl) ?_
    refine wl_nil ?_
    refine rk_if rfl (fun h20 => ?_) (fun h20 => ?_)
    · refine rk_skip ?_
      refine rk_seq ?_
      refine rk_block ?_
      refine rk_seq ?_
      refine rk_seq ?_
      refine rk_region ?_
      refine wl_p (fun _ => o_move rfl) ?_
      refine wl_p (fun _ => o_lt rfl rfl) ?_
      refine wl_nil ?_
      refine rk_if rfl (fun h24 => ?_) (fun h24 => ?_)
      · have hq8 := wsAt_low hp hq (by omega)
        refine rk_seq ?_
        refine rk_seq ?_
        refine rk_region ?_
        refine wl_p (fun _ => o_assign rfl) ?_
        refine wl_nil ?_
        refine rk_block ?_
        refine rk_joinf (fun fb fr w7 => fr = [] ++ fb.drop 1 ∧ Blk w7 g6 178 (vU (ws80 p (8 * (n + 1)))) ∧ Blk w7 g5 178 (vU kl) ∧ Blk w7 g2 141 (vU l) ∧ Blk w7 g4 141 (vU (List.replicate 8 0)) ∧ w6.heap.size ≤ w7.heap.size ∧ Below w.heap.size w w7) ?_ (fun ks2 hj2 => ?_)
        rotate_left
        · refine rk_loopf (fun fb m fr w7 => ∃ (i : Nat) (v : Int) (q2 : List UInt64), fr = [(8, .int .i64 v)] ++ fb.drop 1 ∧ v = i ∧ i ≤ 8 ∧ m = 8 - i ∧ q2 = ws80 p (8 * n + i) ∧ Blk w7 g6 178 (vU q2) ∧ Blk w7 g5 178 (vU kl) ∧ Blk w7 g2 141 (vU l) ∧ Blk w7 g4 141 (vU (List.replicate 8 0)) ∧ w6.heap.size ≤ w7.heap.size ∧ Below w.heap.size w w7) (n := 8) (Fr.le_of (by kernel_rfl) (by kernel_rfl) (by repeat' constructor)) ⟨0, _, q, rfl, rfl, by omega, rfl, hq8, f6, f, f2, f4, hsz, hw⟩ ?_
          clear hw f6 f f2 f4
          rintro m fr w7 ⟨i, v, q2, rfl, rfl, hi, rfl, hq2, f6, f, f2, f4, hsz7, hw⟩
          have shw7 := hw.size
          have hq2l : q2.length = 80 := by rw [hq2]; exact ws80_len _ _
          first | refine rk_frame (by simp only [List.cons_append, List.nil_append, List.drop_succ_cons, List.drop_zero]; rfl) ?_ | refine wl_frame (by simp only [List.cons_append, List.nil_append, List.drop_succ_cons, List.drop_zero]; rfl) ?_
          refine rk_seq ?_
          refine rk_seq ?_
          refine rk_region ?_
          refine wl_p (fun _ => o_move rfl) ?_
          refine wl_p (fun _ => o_lt rfl rfl) ?_
          refine wl_nil ?_
          refine rk_if rfl (fun h26 => ?_) (fun h26 => ?_)
          · have hil : 8 * n + i < p.length := by omega
            have hnx := ws80_next hil (by rw [ws80_len]; omega)
            refine rk_skip ?_
            refine rk_seq ?_
            refine rk_block ?_
            refine rk_draw (id := 10) (none) [0, 0, 2, 4, 8, 0, 0, 64, 0, 384, 544, 1024, 2048, 4112, 16383, 32767] [0, 0, 2, 6, 14, 0, 0, 64, 0, 448, 992, 2016, 4064, 8190, 16383, 32767] 32768 0 [(.p, 0), (.p, 1), (.p, 2), (.r, 3), (.p, 4), (.p, 5), (.p, 6), (.p, 7), (.p, 8), (.p, 9), (.p, 10), (.r, 11), (.p, 12), (.p, 13), (.p, 14), (.l, 15)] (by kernel_rfl) (by kernel_rfl) (by kernel_rfl) (by kernel_rfl) (by kernel_rfl) ?_
            replace hw := hw.drew
            replace f4 := f4.d
            replace f2 := f2.d
            replace f := f.d
            replace f6 := f6.d
            refine wl_p (fun _ => o_move rfl) ?_
            refine wl_p (fun _ => o_move rfl) ?_
            refine wl_p (fun _ => (o_iaddrP (n) Tryz.underlying178 Tryz.sizeOf52 rfl rfl rfl (by omega))) ?_
            refine wl_r (o_ldU Tryz.isAgg52 rfl f6 (by omega)) ?_
            refine wl_p (fun _ => o_shlU rfl rfl (by omega) (by omega)) ?_
            refine wl_p (fun _ => o_move rfl) ?_
            refine wl_p (fun _ => o_move rfl) ?_
            refine wl_p (fun _ => o_mul rfl rfl (by omega) (by omega)) ?_
            refine wl_p (fun _ => o_move rfl) ?_
            refine wl_p (fun _ => o_add rfl rfl (by omega) (by omega)) ?_
            refine wl_p (fun _ => (o_iaddrA1 (8 * n + i) Tryz.underlying35 Tryz.sizeOf5 rfl rfl (by omega) (Reads.some_ hpr.to_Reads (by decide) (by omega)) (by omega))) ?_
            refine wl_r (o_loadB Tryz.isAgg5 rfl (hpr.u hw) (by omega)) ?_
            refine wl_p (fun _ => o_conv8U (src := 5) (dst := 52) Tryz.underlying5 Tryz.underlying52 rfl) ?_
            refine wl_p (fun _ => o_orU rfl rfl) ?_
            refine wl_p (fun _ => (o_iaddrP (n) Tryz.underlying178 Tryz.sizeOf52 rfl rfl rfl (by omega))) ?_
            refine wl_stU Tryz.sizeOf52 rfl f6 rfl (by omega) ?_
            rintro w_1 f_1 g e
            simp only [drew_size] at e
            have s := g.size
            simp only [drew_size] at s
            replace hw := hw.trans (below_of_grownBy g.g hw.size (by omega))
            replace f := f.k g.g (ap_some (by omega))
            replace f2 := f2.k g.g (ap_some (by omega))
            replace f4 := f4.k g.g (ap_some (by omega))
            clear f6
            refine wl_nild ?_
            refine rk_blk ?_
            refine rk_region ?_
            refine wl_p (fun _ => o_move rfl) ?_
            refine wl_p (fun _ => o_add rfl rfl (by omega) (by omega)) ?_
            refine wl_p (fun _ => o_assign rfl) ?_
            refine wl_nil ?_
            exact rk_againf (Fr.le_of (by kernel_rfl) (by kernel_rfl) (by repeat' constructor)) ⟨i + 1, (i : Int) + 1, _, rfl, by omega, by omega, rfl, by
              subst hq2
              have e : (8 * n + i) / 8 = n := by omega
              simp only [e] at hnx
              rw [show 8 * n + (i + 1) = 8 * n + i + 1 by omega]
              exact hnx, f_1, f, f2, f4, by omega, hw⟩ (by omega)
          · refine rk_exit rfl ?_
            obtain rfl : i = 8 := by omega
            rw [hq2] at f6
            exact rk_tof hj2 (Fr.le_of (by kernel_rfl) (by kernel_rfl) (by repeat' constructor)) ⟨rfl, f6, f, f2, f4, hsz7, hw⟩
        clear hw f6 f f2 f4
        rintro fr w7 ⟨rfl, f6, f, f2, f4, hsz7, hw⟩
        have shw7 := hw.size
        first | refine rk_frame (by simp only [List.cons_append, List.nil_append, List.drop_succ_cons, List.drop_zero]; rfl) ?_ | refine wl_frame (by simp only [List.cons_append, List.nil_append, List.drop_succ_cons, List.drop_zero]; rfl) ?_
        refine rk_exit rfl ?_
        refine rk_region ?_
        refine wl_p (fun _ => o_move rfl) ?_
        refine wl_p (fun _ => o_add rfl rfl (by omega) (by omega)) ?_
        refine wl_p (fun _ => o_assign rfl) ?_
        refine wl_nil ?_
        exact rk_againf (Fr.le_of (by kernel_rfl) (by kernel_rfl) (by repeat' constructor)) ⟨n + 1, (n : Int) + 1, _, rfl, by omega, by omega, rfl, .inl ⟨by omega, rfl⟩, f6, f, f2, f4, hsz7, hw⟩ (by omega)
      · obtain ⟨k, rfl⟩ : ∃ k, n = k + 16 := ⟨n - 16, by omega⟩
        have hq3 := wsAt_high hp hq
        have hkq : k + 16 - 16 < q.length := by omega
        have hkq2 : k + 16 - 7 < q.length := by omega
        refine rk_skip ?_
        refine rk_seq ?_
        refine rk_draw (id := 11) (none) [0, 1, 2, 4, 0, 16, 32, 64, 15, 511] [0, 1, 3, 7, 0, 16, 48, 112, 15, 511] 0 0 [(.p, 0), (.p, 1), (.p, 2), (.r, 3), (.p, 4), (.p, 5), (.p, 6), (.r, 7), (.p, 8), (.p, 9)] (by kernel_rfl) (by kernel_rfl) (by kernel_rfl) (by kernel_rfl) (by kernel_rfl) ?_
        replace hw := hw.drew
        replace f4 := f4.d
        replace f2 := f2.d
        replace f := f.d
        replace f6 := f6.d
        refine wl_p (fun _ => o_move rfl) ?_
        refine wl_p (fun _ => o_sub rfl rfl (by omega) (by omega)) ?_
        refine wl_p (fun _ => (o_iaddrP (k + 16 - 15) Tryz.underlying178 Tryz.sizeOf52 rfl rfl (by omega) (by omega))) ?_
        refine wl_r (o_ldU Tryz.isAgg52 rfl f6 (by omega)) ?_
        refine wl_p (fun _ => o_move rfl) ?_
        refine wl_p (fun _ => o_sub rfl rfl (by omega) (by omega)) ?_
        refine wl_p (fun _ => (o_iaddrP (k + 16 - 2) Tryz.underlying178 Tryz.sizeOf52 rfl rfl (by omega) (by omega))) ?_
        refine wl_r (o_ldU Tryz.isAgg52 rfl f6 (by omega)) ?_
        refine wl_p (fun _ => o_assign rfl) ?_
        refine wl_p (fun _ => o_assign rfl) ?_
        refine wl_nild ?_
        refine rk_drawo (id := 12) (none) [0, 0, 2, 4, 8, 0, 32, 0, 192, 320, 0, 1024, 2560, 4112, 0, 16384, 32768, 65536, 139264, 0, 524544, 0, 3145728, 5242880, 0, 16777216, 41943040, 67371008, 268435455, 536870911] [0, 0, 2, 6, 14, 0, 32, 0, 224, 480, 0, 1024, 4064, 8190, 0, 16384, 49152, 114688, 262142, 0, 524768, 0, 3670496, 7864800, 0, 16777216, 66585056, 134217726, 268435455, 536870911] 542114112 5243200 [0, 1, 2, 3, 4, 5, 7, 10, 11, 14, 15, 16, 17, 19, 21, 24, 25, 6, 8, 9, 12, 13, 18, 20, 22, 23, 26, 27, 28, 29] [(.p, 0), (.p, 1), (.p, 2), (.p, 3), (.s, 4), (.p, 5), (.p, 7), (.p, 10), (.p, 11), (.p, 14), (.p, 15), (.p, 16), (.s, 17), (.p, 19), (.p, 21), (.p, 24), (.p, 25), (.c, 6), (.c, 8), (.p, 9), (.p, 12), (.p, 13), (.p, 18), (.c, 20), (.c, 22), (.p, 23), (.p, 26), (.p, 27), (.p, 28), (.l, 29)] (by kernel_rfl) (by kernel_rfl) (by kernel_rfl) (by kernel_rfl) (by kernel_rfl) ?_
        dsimp only [inOrder, nthOp]
        replace hw := hw.drew
        replace f6 := f6.d
        replace f := f.d
        replace f2 := f2.d
        replace f4 := f4.d
        refine wl_p (fun _ => o_move rfl) ?_
        refine wl_p (fun _ => o_move rfl) ?_
        refine wl_p (fun _ => o_sub rfl rfl (by omega) (by omega)) ?_
        refine wl_p (fun _ => (o_iaddrP (k + 16 - 16) Tryz.underlying178 Tryz.sizeOf52 rfl rfl (by omega) (by omega))) ?_
        refine wl_s (fun _ hk => (o_ldU Tryz.isAgg52 rfl (f6.u (below_of_grown_none hk)) hkq)) ?_
        refine wl_p (fun _ => o_move rfl) ?_
        refine wl_p (fun _ => o_move rfl) ?_
        refine wl_p (fun _ => o_move rfl) ?_
        refine wl_p (fun _ => o_shrU rfl rfl (by omega) (by omega)) ?_
        refine wl_p (fun _ => o_move rfl) ?_
        refine wl_p (fun _ => o_sub rfl rfl (by omega) (by omega)) ?_
        refine wl_p (fun _ => (o_iaddrP (k + 16 - 7) Tryz.underlying178 Tryz.sizeOf52 rfl rfl (by omega) (by omega))) ?_
        refine wl_s (fun _ hk => (o_ldU Tryz.isAgg52 rfl (f6.u (below_of_grown_none hk)) hkq2)) ?_
        refine wl_p (fun _ => o_move rfl) ?_
        refine wl_p (fun _ => o_move rfl) ?_
        refine wl_p (fun _ => o_move rfl) ?_
        refine wl_p (fun _ => o_shrU rfl rfl (by omega) (by omega)) ?_
        refine wl_call rfl (C_refrot _ (by omega) (by omega)) ?_ (hq := .inr fun _ _ h => grown_of_below h.2 _)
        rintro v58 w58 ⟨rfl, b58⟩
        simp only [drew_size] at b58
        have s58 := b58.size
        simp only [drew_size] at s58
        replace hw := hw.trans (b58.mono hw.size)
        replace f4 := f4.u b58
        replace f2 := f2.u b58
        replace f := f.u b58
        replace f6 := f6.u b58
        refine wl_call rfl (C_refrot _ (by omega) (by omega)) ?_ (hq := .inr fun _ _ h => grown_of_below h.2 _)
        rintro v60 w60 ⟨rfl, b60⟩
        have s60 := b60.size
        replace hw := hw.trans (b60.mono hw.size)
        replace f6 := f6.u b60
        replace f := f.u b60
        replace f2 := f2.u b60
        replace f4 := f4.u b60
        refine wl_p (fun _ => o_xorU rfl rfl) ?_
        refine wl_p (fun _ => o_xorU rfl rfl) ?_
        refine wl_p (fun _ => o_addU rfl rfl) ?_
        refine wl_p (fun _ => o_addU rfl rfl) ?_
        refine wl_call rfl (C_refrot _ (by omega) (by omega)) ?_ (hq := .inr fun _ _ h => grown_of_below h.2 _)
        rintro v72 w72 ⟨rfl, b72⟩
        have s72 := b72.size
        replace hw := hw.trans (b72.mono hw.size)
        replace f4 := f4.u b72
        replace f2 := f2.u b72
        replace f := f.u b72
        replace f6 := f6.u b72
        refine wl_call rfl (C_refrot _ (by omega) (by omega)) ?_ (hq := .inr fun _ _ h => grown_of_below h.2 _)
        rintro v74 w74 ⟨rfl, b74⟩
        have s74 := b74.size
        replace hw := hw.trans (b74.mono hw.size)
        replace f6 := f6.u b74
        replace f := f.u b74
        replace f2 := f2.u b74
        replace f4 := f4.u b74
        refine wl_p (fun _ => o_xorU rfl rfl) ?_
        refine wl_p (fun _ => o_xorU rfl rfl) ?_
        refine wl_p (fun _ => o_addU rfl rfl) ?_
        refine wl_p (fun _ => (o_iaddrP (k + 16) Tryz.underlying178 Tryz.sizeOf52 rfl rfl rfl (by omega))) ?_
        refine wl_stU Tryz.sizeOf52 rfl f6 rfl (by omega) ?_
        rintro w_1 f_1 g e
        have s := g.size
        replace hw := hw.trans (below_of_grownBy g.g hw.size (by omega))
        replace f4 := f4.k g.g (ap_some (by omega))
        replace f2 := f2.k g.g (ap_some (by omega))
        replace f := f.k g.g (ap_some (by omega))
        clear f6
        refine wl_nild ?_
        refine rk_blk ?_
        refine rk_region ?_
        refine wl_p (fun _ => o_move rfl) ?_
        refine wl_p (fun _ => o_add rfl rfl (by omega) (by omega)) ?_
        refine wl_p (fun _ => o_assign rfl) ?_
        refine wl_nil ?_
        exact rk_againf (Fr.le_of (by kernel_rfl) (by kernel_rfl) (by repeat' constructor)) ⟨k + 16 + 1, ((k + 16 : Nat) : Int) + 1, _, rfl, by omega, by omega, rfl, .inr ⟨by omega, by
          rw [show k + 16 + 1 - 16 = k + 1 by omega]
          exact sched_next (by omega) hq3 hkq (by omega) hkq2 (by omega)⟩, f_1, f, f2, f4, by omega, hw⟩ (by omega)
    · refine rk_exit rfl ?_
      obtain rfl : n = 80 := by omega
      have hqW := wsAt_high (n := 64) hp hq
      rw [hqW, hW, Nat.sub_self, List.replicate_zero, List.append_nil] at f6
      exact rk_tof hj (Fr.le_of (by kernel_rfl) (by kernel_rfl) (by repeat' constructor)) ⟨rfl, f6, f, f2, f4, hsz, hw⟩
  clear hw f6 f f2 f4
  rintro fr w5 ⟨rfl, f6, f, f2, f4, hsz, hw⟩
  have shw := hw.size
  first | refine rk_frame (by simp only [List.cons_append, List.nil_append, List.drop_succ_cons, List.drop_zero]; rfl) ?_ | refine wl_frame (by simp only [List.cons_append, List.nil_append, List.drop_succ_cons, List.drop_zero]; rfl) ?_
  refine rk_seq ?_
  refine rk_region ?_
  refine wl_r (o_ldUa Tryz.isAgg141 Tryz.sizeOf141 rfl f2 hl) ?_
  refine wl_allocU Tryz.underlying141 Tryz.zeroValue141 (by rfl) ?_
  rintro g11 w11 f11 b11 i11 i11_1
  have sb11 := b11.size
  replace hw := hw.trans (b11.mono hw.size)
  replace f4 := f4.u b11
  replace f2 := f2.u b11
  replace f := f.u b11
  replace f6 := f6.u b11
  refine wl_stUa Tryz.sizeOf141 rfl f11 rfl hl (by rfl) ?_
  rintro w_1 f_1 g e
  have s := g.size
  replace hw := hw.trans (below_of_grownBy g.g hw.size (by omega))
  replace f6 := f6.k g.g (ap_some (by omega))
  replace f := f.k g.g (ap_some (by omega))
  replace f2 := f2.k g.g (ap_some (by omega))
  replace f4 := f4.k g.g (ap_some (by omega))
  clear f11
  refine wl_nil ?_
  refine rk_seq ?_
  refine rk_seq ?_
  refine rk_region ?_
  refine wl_p (fun _ => o_assign rfl) ?_
  refine wl_nil ?_
  refine rk_block ?_
  refine rk_joinf (fun fb fr w7 => ∃ sl, fr = [] ++ fb.drop 1 ∧ sl.length = 8 ∧ stOf sl = R ∧ Blk w7 g11 141 (vU sl) ∧ Blk w7 g6 178 (vU W) ∧ Blk w7 g5 178 (vU kl) ∧ Blk w7 g2 141 (vU l) ∧ Blk w7 g4 141 (vU (List.replicate 8 0)) ∧ w_1.heap.size ≤ w7.heap.size ∧ Below w.heap.size w w7) ?_ (fun ks hj => ?_)
  rotate_left
  · refine rk_loopf (fun fb m fr w7 => ∃ (i : Nat) (v : Int) (sl : List UInt64), fr = [(12, .int .i64 v)] ++ fb.drop 1 ∧ v = i ∧ i ≤ 80 ∧ m = 80 - i ∧ sl.length = 8 ∧ stOf sl = rnds kl W i s0 ∧ Blk w7 g11 141 (vU sl) ∧ Blk w7 g6 178 (vU W) ∧ Blk w7 g5 178 (vU kl) ∧ Blk w7 g2 141 (vU l) ∧ Blk w7 g4 141 (vU (List.replicate 8 0)) ∧ w_1.heap.size ≤ w7.heap.size ∧ Below w.heap.size w w7) (n := 80) (Fr.le_of (by kernel_rfl) (by kernel_rfl) (by repeat' constructor)) ⟨0, _, l, rfl, rfl, by omega, rfl, hl, hs0, f_1, f6, f, f2, f4, Nat.le_refl _, hw⟩ ?_
    clear hw f_1 f6 f f2 f4
    rintro m fr w7 ⟨i, v, sl, rfl, rfl, hi, rfl, hsl, hss, f11, f6, f, f2, f4, hsz7, hw⟩
    have shw7 := hw.size
    first | refine rk_frame (by simp only [List.cons_append, List.nil_append, List.drop_succ_cons, List.drop_zero]; rfl) ?_ | refine wl_frame (by simp only [List.cons_append, List.nil_append, List.drop_succ_cons, List.drop_zero]; rfl) ?_
    refine rk_seq ?_
    refine rk_seq ?_
    refine rk_region ?_
    refine wl_p (fun _ => o_move rfl) ?_
    refine wl_p (fun _ => o_lt rfl rfl) ?_
    refine wl_nil ?_
    refine rk_if rfl (fun h83 => ?_) (fun h83 => ?_)
    · have hik : i < kl.length := by omega
      have hiW : i < W.length := by omega
      have hnx := rnds_next hss.symm.symm hik hiW
      have h1 : 1 < sl.length := by omega
      have h2 : 2 < sl.length := by omega
      have h5 : 5 < sl.length := by omega
      have h6 : 6 < sl.length := by omega
      have h7 : 7 < sl.length := by omega
      refine rk_skip ?_
      refine rk_seq ?_
      refine rk_block ?_
      refine rk_seq ?_
      refine rk_draw (id := 17) (none) [0, 1, 0, 4, 3, 31] [0, 1, 0, 4, 3, 31] 0 0 [(.p, 0), (.r, 1), (.p, 2), (.r, 3), (.p, 4), (.p, 5)] (by kernel_rfl) (by kernel_rfl) (by kernel_rfl) (by kernel_rfl) (by kernel_rfl) ?_
      replace hw := hw.drew
      replace f4 := f4.d
      replace f2 := f2.d
      replace f := f.d
      replace f6 := f6.d
      replace f11 := f11.d
      refine wl_p (fun _ => (o_iaddrP (0) Tryz.underlying141 Tryz.sizeOf52 rfl rfl (by omega) (by omega))) ?_
      refine wl_r (o_ldU Tryz.isAgg52 rfl f11 (by omega)) ?_
      refine wl_p (fun _ => (o_iaddrP (4) Tryz.underlying141 Tryz.sizeOf52 rfl rfl (by omega) (by omega))) ?_
      refine wl_r (o_ldU Tryz.isAgg52 rfl f11 (by omega)) ?_
      refine wl_p (fun _ => o_assign rfl) ?_
      refine wl_p (fun _ => o_assign rfl) ?_
      refine wl_nild ?_
      refine rk_seq ?_
      refine rk_drawo (id := 18) (none) [0, 1, 0, 4, 0, 24, 40, 0, 160, 320, 514, 0, 0, 4096, 10240, 0, 32768, 0, 131072, 327680, 540672, 1049600, 0, 4194304, 8388608, 18874368, 0, 67108864, 134217728, 301989888, 1073741823] [0, 1, 0, 4, 0, 28, 60, 0, 188, 508, 1023, 0, 0, 4096, 14336, 0, 32768, 0, 131072, 491520, 1046528, 2097151, 0, 4194304, 12582912, 33554431, 0, 67108864, 201326592, 536870911, 1073741823] 296 296 [0, 1, 2, 4, 7, 11, 12, 13, 14, 15, 16, 17, 18, 19, 20, 22, 23, 24, 26, 27, 28, 3, 5, 6, 8, 9, 10, 21, 25, 29, 30] [(.p, 0), (.s, 1), (.p, 2), (.p, 4), (.p, 7), (.p, 11), (.p, 12), (.s, 13), (.p, 14), (.p, 15), (.p, 16), (.p, 17), (.s, 18), (.p, 19), (.p, 20), (.p, 22), (.p, 23), (.s, 24), (.p, 26), (.p, 27), (.s, 28), (.c, 3), (.c, 5), (.p, 6), (.c, 8), (.p, 9), (.p, 10), (.p, 21), (.p, 25), (.p, 29), (.p, 30)] (by kernel_rfl) (by kernel_rfl) (by kernel_rfl) (by kernel_rfl) (by kernel_rfl) ?_
      dsimp only [inOrder, nthOp]
      replace hw := hw.drew
      replace f11 := f11.d
      replace f6 := f6.d
      replace f := f.d
      replace f2 := f2.d
      replace f4 := f4.d
      refine wl_p (fun _ => (o_iaddrP (7) Tryz.underlying141 Tryz.sizeOf52 rfl rfl (by omega) (by omega))) ?_
      refine wl_s (fun _ hk => (o_ldU Tryz.isAgg52 rfl (f11.u (below_of_grown_none hk)) h7)) ?_
      refine wl_p (fun _ => o_move rfl) ?_
      refine wl_p (fun _ => o_move rfl) ?_
      refine wl_p (fun _ => o_move rfl) ?_
      refine wl_p (fun _ => o_move rfl) ?_
      refine wl_p (fun _ => (o_iaddrP (5) Tryz.underlying141 Tryz.sizeOf52 rfl rfl (by omega) (by omega))) ?_
      refine wl_s (fun _ hk => (o_ldU Tryz.isAgg52 rfl (f11.u (below_of_grown_none hk)) h5)) ?_
      refine wl_p (fun _ => o_andU rfl rfl) ?_
      refine wl_p (fun _ => o_move rfl) ?_
      refine wl_p (fun _ => o_notU rfl) ?_
      refine wl_p (fun _ => (o_iaddrP (6) Tryz.underlying141 Tryz.sizeOf52 rfl rfl (by omega) (by omega))) ?_
      refine wl_s (fun _ hk => (o_ldU Tryz.isAgg52 rfl (f11.u (below_of_grown_none hk)) h6)) ?_
      refine wl_p (fun _ => o_andU rfl rfl) ?_
      refine wl_p (fun _ => o_xorU rfl rfl) ?_
      refine wl_p (fun _ => o_move rfl) ?_
      refine wl_p (fun _ => (o_iaddrP (i) Tryz.underlying178 Tryz.sizeOf52 rfl rfl rfl (by omega))) ?_
      refine wl_s (fun _ hk => (o_ldU Tryz.isAgg52 rfl (f.u (below_of_grown_none hk)) hik)) ?_
      refine wl_p (fun _ => o_move rfl) ?_
      refine wl_p (fun _ => (o_iaddrP (i) Tryz.underlying178 Tryz.sizeOf52 rfl rfl rfl (by omega))) ?_
      refine wl_s (fun _ hk => (o_ldU Tryz.isAgg52 rfl (f6.u (below_of_grown_none hk)) hiW)) ?_
      refine wl_call rfl (C_refrot _ (by omega) (by omega)) ?_ (hq := .inr fun _ _ h => grown_of_below h.2 _)
      rintro v93 w93 ⟨rfl, b93⟩
      simp only [drew_size] at b93
      have s93 := b93.size
      simp only [drew_size] at s93
      replace hw := hw.trans (b93.mono hw.size)
      replace f4 := f4.u b93
      replace f2 := f2.u b93
      replace f := f.u b93
      replace f6 := f6.u b93
      replace f11 := f11.u b93
      refine wl_call rfl (C_refrot _ (by omega) (by omega)) ?_ (hq := .inr fun _ _ h => grown_of_below h.2 _)
      rintro v95 w95 ⟨rfl, b95⟩
      have s95 := b95.size
      replace hw := hw.trans (b95.mono hw.size)
      replace f11 := f11.u b95
      replace f6 := f6.u b95
      replace f := f.u b95
      replace f2 := f2.u b95
      replace f4 := f4.u b95
      refine wl_p (fun _ => o_xorU rfl rfl) ?_
      refine wl_call rfl (C_refrot _ (by omega) (by omega)) ?_ (hq := .inr fun _ _ h => grown_of_below h.2 _)
      rintro v98 w98 ⟨rfl, b98⟩
      have s98 := b98.size
      replace hw := hw.trans (b98.mono hw.size)
      replace f4 := f4.u b98
      replace f2 := f2.u b98
      replace f := f.u b98
      replace f6 := f6.u b98
      replace f11 := f11.u b98
      refine wl_p (fun _ => o_xorU rfl rfl) ?_
      refine wl_p (fun _ => o_addU rfl rfl) ?_
      refine wl_p (fun _ => o_addU rfl rfl) ?_
      refine wl_p (fun _ => o_addU rfl rfl) ?_
      refine wl_p (fun _ => o_addU rfl rfl) ?_
      refine wl_p (fun _ => o_assign rfl) ?_
      obtain ⟨T1, hT1⟩ : ∃ T1, sl[7] + (rotU sl[4] (-14) ^^^ rotU sl[4] (-18) ^^^ rotU sl[4] (-41)) + (sl[4] &&& sl[5] ^^^ ~~~sl[4] &&& sl[6]) + kl[i] + W[i] = T1 := ⟨_, rfl⟩
      rw [hT1]
      refine wl_nild ?_
      refine rk_seq ?_
      refine rk_drawo (id := 19) (none) [0, 1, 0, 6, 10, 0, 40, 80, 0, 0, 512, 1280, 0, 0, 8192, 20480, 34816, 0, 131072, 0, 524288, 1310720, 2162688, 4194432, 16777215] [0, 1, 0, 7, 15, 0, 47, 127, 0, 0, 512, 1792, 0, 0, 8192, 28672, 65280, 0, 131072, 0, 524288, 1966080, 4194048, 8388607, 16777215] 74 74 [0, 2, 5, 8, 9, 10, 11, 12, 13, 14, 15, 16, 17, 18, 19, 20, 21, 22, 1, 3, 4, 6, 7, 23, 24] [(.p, 0), (.p, 2), (.p, 5), (.p, 8), (.p, 9), (.s, 10), (.p, 11), (.p, 12), (.p, 13), (.s, 14), (.p, 15), (.p, 16), (.p, 17), (.s, 18), (.p, 19), (.s, 20), (.p, 21), (.p, 22), (.c, 1), (.c, 3), (.p, 4), (.c, 6), (.p, 7), (.p, 23), (.p, 24)] (by kernel_rfl) (by kernel_rfl) (by kernel_rfl) (by kernel_rfl) (by kernel_rfl) ?_
      dsimp only [inOrder, nthOp]
      replace hw := hw.drew
      replace f11 := f11.d
      replace f6 := f6.d
      replace f := f.d
      replace f2 := f2.d
      replace f4 := f4.d
      refine wl_p (fun _ => o_move rfl) ?_
      refine wl_p (fun _ => o_move rfl) ?_
      refine wl_p (fun _ => o_move rfl) ?_
      refine wl_p (fun _ => o_move rfl) ?_
      refine wl_p (fun _ => (o_iaddrP (1) Tryz.underlying141 Tryz.sizeOf52 rfl rfl (by omega) (by omega))) ?_
      refine wl_s (fun _ hk => (o_ldU Tryz.isAgg52 rfl (f11.u (below_of_grown_none hk)) h1)) ?_
      refine wl_p (fun _ => o_andU rfl rfl) ?_
      refine wl_p (fun _ => o_move rfl) ?_
      refine wl_p (fun _ => (o_iaddrP (2) Tryz.underlying141 Tryz.sizeOf52 rfl rfl (by omega) (by omega))) ?_
      refine wl_s (fun _ hk => (o_ldU Tryz.isAgg52 rfl (f11.u (below_of_grown_none hk)) h2)) ?_
      refine wl_p (fun _ => o_andU rfl rfl) ?_
      refine wl_p (fun _ => o_xorU rfl rfl) ?_
      refine wl_p (fun _ => (o_iaddrP (1) Tryz.underlying141 Tryz.sizeOf52 rfl rfl (by omega) (by omega))) ?_
      refine wl_s (fun _ hk => (o_ldU Tryz.isAgg52 rfl (f11.u (below_of_grown_none hk)) h1)) ?_
      refine wl_p (fun _ => (o_iaddrP (2) Tryz.underlying141 Tryz.sizeOf52 rfl rfl (by omega) (by omega))) ?_
      refine wl_s (fun _ hk => (o_ldU Tryz.isAgg52 rfl (f11.u (below_of_grown_none hk)) h2)) ?_
      refine wl_p (fun _ => o_andU rfl rfl) ?_
      refine wl_p (fun _ => o_xorU rfl rfl) ?_
      refine wl_call rfl (C_refrot _ (by omega) (by omega)) ?_ (hq := .inr fun _ _ h => grown_of_below h.2 _)
      rintro v121 w121 ⟨rfl, b121⟩
      simp only [drew_size] at b121
      have s121 := b121.size
      simp only [drew_size] at s121
      replace hw := hw.trans (b121.mono hw.size)
      replace f4 := f4.u b121
      replace f2 := f2.u b121
      replace f := f.u b121
      replace f6 := f6.u b121
      replace f11 := f11.u b121
      refine wl_call rfl (C_refrot _ (by omega) (by omega)) ?_ (hq := .inr fun _ _ h => grown_of_below h.2 _)
      rintro v123 w123 ⟨rfl, b123⟩
      have s123 := b123.size
      replace hw := hw.trans (b123.mono hw.size)
      replace f11 := f11.u b123
      replace f6 := f6.u b123
      replace f := f.u b123
      replace f2 := f2.u b123
      replace f4 := f4.u b123
      refine wl_p (fun _ => o_xorU rfl rfl) ?_
      refine wl_call rfl (C_refrot _ (by omega) (by omega)) ?_ (hq := .inr fun _ _ h => grown_of_below h.2 _)
      rintro v126 w126 ⟨rfl, b126⟩
      have s126 := b126.size
      replace hw := hw.trans (b126.mono hw.size)
      replace f4 := f4.u b126
      replace f2 := f2.u b126
      replace f := f.u b126
      replace f6 := f6.u b126
      replace f11 := f11.u b126
      refine wl_p (fun _ => o_xorU rfl rfl) ?_
      refine wl_p (fun _ => o_addU rfl rfl) ?_
      refine wl_p (fun _ => o_assign rfl) ?_
      obtain ⟨T2, hT2⟩ : ∃ T2, (rotU sl[0] (-28) ^^^ rotU sl[0] (-34) ^^^ rotU sl[0] (-39)) + (sl[0] &&& sl[1] ^^^ sl[0] &&& sl[2] ^^^ sl[1] &&& sl[2]) = T2 := ⟨_, rfl⟩
      rw [hT2]
      refine wl_nild ?_
      refine rk_region ?_
      refine wl_p (fun _ => o_move rfl) ?_
      refine wl_p (fun _ => o_move rfl) ?_
      refine wl_p (fun _ => o_addU rfl rfl) ?_
      refine wl_p (fun _ => o_move rfl) ?_
      refine wl_p (fun _ => (o_iaddrP (1) Tryz.underlying141 Tryz.sizeOf52 rfl rfl (by omega) (by omega))) ?_
      refine wl_r (o_ldU Tryz.isAgg52 rfl f11 (by omega)) ?_
      refine wl_p (fun _ => (o_iaddrP (2) Tryz.underlying141 Tryz.sizeOf52 rfl rfl (by omega) (by omega))) ?_
      refine wl_r (o_ldU Tryz.isAgg52 rfl f11 (by omega)) ?_
      refine wl_p (fun _ => (o_iaddrP (3) Tryz.underlying141 Tryz.sizeOf52 rfl rfl (by omega) (by omega))) ?_
      refine wl_r (o_ldU Tryz.isAgg52 rfl f11 (by omega)) ?_
      refine wl_p (fun _ => o_move rfl) ?_
      refine wl_p (fun _ => o_addU rfl rfl) ?_
      refine wl_p (fun _ => o_move rfl) ?_
      refine wl_p (fun _ => (o_iaddrP (5) Tryz.underlying141 Tryz.sizeOf52 rfl rfl (by omega) (by omega))) ?_
      refine wl_r (o_ldU Tryz.isAgg52 rfl f11 (by omega)) ?_
      refine wl_p (fun _ => (o_iaddrP (6) Tryz.underlying141 Tryz.sizeOf52 rfl rfl (by omega) (by omega))) ?_
      refine wl_r (o_ldU Tryz.isAgg52 rfl f11 (by omega)) ?_
      refine wl_p (fun _ => (o_buildga [_, _, _, _, _, _, _, _] Tryz.underlying141 Tryz.sizeOf52 Tryz.zeroValue141 (by rfl) (by rfl) rfl (by rfl) (by rfl) (fun _ => by kernel_rfl))) ?_
      obtain ⟨nl, hnl⟩ : ∃ nl, [T1 + T2, sl[0], sl[1], sl[2], sl[3] + T1, sl[4], sl[5], sl[6]] = nl := ⟨_, rfl⟩
      have hn8 : nl.length = 8 := by rw [← hnl]; rfl
      have hns : stOf nl = rnds kl W (i + 1) s0 := by rw [← hnx, stOf_eq hsl, ← hnl, ← hT1, ← hT2]; rfl
      rw [show (#[Value.int .u64 ((T1 + T2).toNat : Int), Value.int .u64 (sl[0].toNat : Int), Value.int .u64 (sl[1].toNat : Int), Value.int .u64 (sl[2].toNat : Int), Value.int .u64 ((sl[3] + T1).toNat : Int), Value.int .u64 (sl[4].toNat : Int), Value.int .u64 (sl[5].toNat : Int), Value.int .u64 (sl[6].toNat : Int)] : Array Value) = (vU nl).toArray from by rw [← hnl]; rfl]
      clear hnl hT1 hT2
      refine wl_stUa Tryz.sizeOf141 rfl f11 rfl hn8 hsl ?_
      rintro w_2 f_1 g_1 e_1
      have s_1 := g_1.size
      replace hw := hw.trans (below_of_grownBy g_1.g hw.size (by omega))
      replace f6 := f6.k g_1.g (ap_some (by omega))
      replace f := f.k g_1.g (ap_some (by omega))
      replace f2 := f2.k g_1.g (ap_some (by omega))
      replace f4 := f4.k g_1.g (ap_some (by omega))
      clear f11
      refine wl_nil ?_
      refine rk_blk ?_
      refine rk_region ?_
      refine wl_p (fun _ => o_move rfl) ?_
      refine wl_p (fun _ => o_add rfl rfl (by omega) (by omega)) ?_
      refine wl_p (fun _ => o_assign rfl) ?_
      refine wl_nil ?_
      exact rk_againf (Fr.le_of (by kernel_rfl) (by kernel_rfl) (by repeat' constructor)) ⟨i + 1, (i : Int) + 1, nl, rfl, by omega, by omega, rfl, hn8, hns, f_1, f6, f, f2, f4, by omega, hw⟩ (by omega)
    · refine rk_exit rfl ?_
      obtain rfl : i = 80 := by omega
      exact rk_tof hj (Fr.le_of (by kernel_rfl) (by kernel_rfl) (by repeat' constructor)) ⟨sl, rfl, hsl, hss.trans hR, f11, f6, f, f2, f4, hsz7, hw⟩
  clear hw f_1 f6 f f2 f4
  rintro fr w7 ⟨sl, rfl, hsl, hss, f11, f6, f, f2, f4, hsz7, hw⟩
  have shw7 := hw.size
  have hRs : R.list = sl := by rw [← hss]; exact list_stOf hsl
  have hrz : r = List.zipWith (· + ·) sl l := by
    rw [hrr, hRs]; exact zip_comm _ _
  first | refine rk_frame (by simp only [List.cons_append, List.nil_append, List.drop_succ_cons, List.drop_zero]; rfl) ?_ | refine wl_frame (by simp only [List.cons_append, List.nil_append, List.drop_succ_cons, List.drop_zero]; rfl) ?_
  refine rk_seq ?_
  refine rk_seq ?_
  refine rk_region ?_
  refine wl_p (fun _ => o_assign rfl) ?_
  refine wl_nil ?_
  refine rk_block ?_
  refine rk_joinf (fun fb fr w8 => fr = [] ++ fb.drop 1 ∧ Blk w8 g11 141 (vU r) ∧ Blk w8 g4 141 (vU (List.replicate 8 0)) ∧ w_1.heap.size ≤ w8.heap.size ∧ Below w.heap.size w w8) ?_ (fun ks hj => ?_)
  rotate_left
  · refine rk_loopf (fun fb m fr w8 => ∃ (i : Nat) (v : Int) (q : List UInt64), fr = [(17, .int .i64 v)] ++ fb.drop 1 ∧ v = i ∧ i ≤ 8 ∧ m = 8 - i ∧ q = (List.zipWith (· + ·) sl l).take i ++ sl.drop i ∧ Blk w8 g11 141 (vU q) ∧ Blk w8 g2 141 (vU l) ∧ Blk w8 g4 141 (vU (List.replicate 8 0)) ∧ w_1.heap.size ≤ w8.heap.size ∧ Below w.heap.size w w8) (n := 8) (Fr.le_of (by kernel_rfl) (by kernel_rfl) (by repeat' constructor)) ⟨0, _, _, rfl, rfl, by omega, rfl, rfl, f11, f2, f4, by omega, hw⟩ ?_
    clear hw f11 f6 f f2 f4
    rintro m fr w8 ⟨i, v, q, rfl, rfl, hi, rfl, hq, f11, f2, f4, hsz8, hw⟩
    have shw8 := hw.size
    have hql : q.length = 8 := by
      rw [hq, List.length_append, List.length_take, List.length_zipWith, List.length_drop]; omega
    first | refine rk_frame (by simp only [List.cons_append, List.nil_append, List.drop_succ_cons, List.drop_zero]; rfl) ?_ | refine wl_frame (by simp only [List.cons_append, List.nil_append, List.drop_succ_cons, List.drop_zero]; rfl) ?_
    refine rk_seq ?_
    refine rk_seq ?_
    refine rk_region ?_
    refine wl_p (fun _ => o_move rfl) ?_
    refine wl_p (fun _ => o_lt rfl rfl) ?_
    refine wl_nil ?_
    refine rk_if rfl (fun h163 => ?_) (fun h163 => ?_)
    · have hil : i < l.length := by omega
      refine rk_skip ?_
      refine rk_seq ?_
      refine rk_block ?_
      refine rk_draw (id := 24) (none) [0, 0, 2, 4, 0, 16, 32, 72, 255, 511] [0, 0, 2, 6, 0, 16, 48, 126, 255, 511] 512 0 [(.p, 0), (.p, 1), (.p, 2), (.r, 3), (.p, 4), (.p, 5), (.r, 6), (.p, 7), (.p, 8), (.l, 9)] (by kernel_rfl) (by kernel_rfl) (by kernel_rfl) (by kernel_rfl) (by kernel_rfl) ?_
      replace hw := hw.drew
      replace f4 := f4.d
      replace f2 := f2.d
      replace f11 := f11.d
      refine wl_p (fun _ => o_move rfl) ?_
      refine wl_p (fun _ => o_move rfl) ?_
      refine wl_p (fun _ => (o_iaddrP (i) Tryz.underlying141 Tryz.sizeOf52 rfl rfl rfl (by omega))) ?_
      refine wl_r (o_ldU Tryz.isAgg52 rfl f11 (by omega)) ?_
      refine wl_p (fun _ => o_move rfl) ?_
      refine wl_p (fun _ => (o_iaddrP (i) Tryz.underlying141 Tryz.sizeOf52 rfl rfl rfl (by omega))) ?_
      refine wl_r (o_ldU Tryz.isAgg52 rfl f2 (by omega)) ?_
      refine wl_p (fun _ => o_addU rfl rfl) ?_
      refine wl_p (fun _ => (o_iaddrP (i) Tryz.underlying141 Tryz.sizeOf52 rfl rfl rfl (by omega))) ?_
      refine wl_stU Tryz.sizeOf52 rfl f11 rfl (by omega) ?_
      rintro w_2 f g_1 e_1
      simp only [drew_size] at e_1
      have s_1 := g_1.size
      simp only [drew_size] at s_1
      replace hw := hw.trans (below_of_grownBy g_1.g hw.size (by omega))
      replace f2 := f2.k g_1.g (ap_some (by omega))
      replace f4 := f4.k g_1.g (ap_some (by omega))
      clear f11
      refine wl_nild ?_
      refine rk_blk ?_
      refine rk_region ?_
      refine wl_p (fun _ => o_move rfl) ?_
      refine wl_p (fun _ => o_add rfl rfl (by omega) (by omega)) ?_
      refine wl_p (fun _ => o_assign rfl) ?_
      refine wl_nil ?_
      exact rk_againf (Fr.le_of (by kernel_rfl) (by kernel_rfl) (by repeat' constructor)) ⟨i + 1, (i : Int) + 1, _, rfl, by omega, by omega, rfl, zip_next hq (by omega) (by omega) hil, f, f2, f4, by omega, hw⟩ (by omega)
    · refine rk_exit rfl ?_
      obtain rfl : i = 8 := by omega
      rw [List.take_of_length_le (by rw [List.length_zipWith]; omega), List.drop_of_length_le (by omega), List.append_nil, ← hrz] at hq
      subst hq
      exact rk_tof hj (Fr.le_of (by kernel_rfl) (by kernel_rfl) (by repeat' constructor)) ⟨rfl, f11, f4, hsz8, hw⟩
  clear hw f11 f6 f f2 f4
  rintro fr w8 ⟨rfl, f11, f4, hsz8, hw⟩
  have shw8 := hw.size
  first | refine rk_frame (by simp only [List.cons_append, List.nil_append, List.drop_succ_cons, List.drop_zero]; rfl) ?_ | refine wl_frame (by simp only [List.cons_append, List.nil_append, List.drop_succ_cons, List.drop_zero]; rfl) ?_
  refine rk_seq ?_
  refine rk_region ?_
  refine wl_r (o_ldUa Tryz.isAgg141 Tryz.sizeOf141 rfl f11 hr8) ?_
  refine wl_stUa Tryz.sizeOf141 rfl f4 rfl hr8 (by rfl) ?_
  rintro w_2 f g_1 e_1
  have s_1 := g_1.size
  replace hw := hw.trans (below_of_grownBy g_1.g hw.size (by omega))
  replace f11 := f11.k g_1.g (ap_some (by omega))
  clear f4
  refine wl_nil ?_
  refine ret_cell rfl rfl Tryz.isAgg141 Tryz.sizeOf141 f (by rw [vU_length, hr8]) ?_
  exact ⟨rfl, hw⟩
end Go.Proofs.YtnnhenafhalobaaGreat
