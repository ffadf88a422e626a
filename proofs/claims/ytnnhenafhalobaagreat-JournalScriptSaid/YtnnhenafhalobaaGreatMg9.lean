/-
  Walks of the document's answer for chapter 8: Read, All.
-/
import Derived.Test.YtnnhenafhalobaaGreatMg8
namespace Go.Proofs.YtnnhenafhalobaaGreat
set_option maxRecDepth 100000
open Go.RowKit
theorem lead_le (x : UInt8) : lead x ≤ 9 := by
 have h : ∀ c : Fin 256, lead (UInt8.ofNat c.val) ≤ 9 := by decide +kernel
 have := h ⟨x.toNat, x.toNat_lt⟩
 simpa using this
theorem rNumber_take (q : By) : (rNumber (q.take 9, 0)).1 = (rNumber (q, 0)).1 ∧ (rNumber (q.take 9, 0)).2.2 = (rNumber (q, 0)).2.2 ∧ ((rNumber (q, 0)).2.2 = 0 → ∃ f, f ≤ 9 ∧ f ≤ q.length ∧ (rNumber (q, 0)).2.1 = q.drop f ∧ (q.take 9).length - (rNumber (q.take 9, 0)).2.1.length = f) := by
 cases q with
 | nil => exact ⟨rfl, rfl, fun h => by rw [rNumber_nil] at h; cases h⟩
 | cons x t =>
  have hl := lead_le x
  rw [show (x :: t).take 9 = x :: t.take 8 from rfl]
  by_cases h1 : t.length + 1 < lead x
  ·rw [rNumber_more (c := x) (t := t) h1, rNumber_more (c := x) (t := t.take 8) (by rw [List.length_take]; omega)]
   exact ⟨rfl, rfl, fun h => by cases h⟩
  ·have h2 : ¬(t.take 8).length + 1 < lead x := by rw [List.length_take]; omega
   have e : (t.take 8).take (lead x - 1) = t.take (lead x - 1) := by rw [List.take_take, Nat.min_eq_left (by omega)]
   unfold rNumber
   simp only [ne_eq, not_true_eq_false, if_false, h1, h2, e]
   by_cases h3 : room (beVal (x.toNat % 2 ^ (8 - lead x)) (t.take (lead x - 1))) = lead x
   ·simp only [h3, if_true]
    refine ⟨trivial, trivial, fun _ => ⟨1 + (lead x - 1), by omega, by rw [List.length_cons]; omega, ?_, ?_⟩⟩
    ·rw [Nat.add_comm, List.drop_succ_cons]
    ·rw [List.length_cons, List.length_drop, List.length_take]; omega
   ·simp only [h3, if_false]
    exact ⟨trivial, trivial, fun h => by cases h⟩
theorem rNumber_e3 (q : By) : (rNumber (q, 0)).2.2 = 0 ∨ (rNumber (q, 0)).2.2 = 4 ∨ (rNumber (q, 0)).2.2 = 5 := by
 unfold rNumber
 simp only [ne_eq, not_true_eq_false, if_false]
 split
 ·exact .inr (.inr rfl)
 ·split
  ·exact .inr (.inr rfl)
  ·split
   ·exact .inl rfl
   ·exact .inr (.inl rfl)
theorem readR_eq (d b : By) : readR d b = match b with
  | [] => ((0, []), 0, nul32, 5)
  | x :: q => if x = 0 then ((0, []), 0, nul32, 4) else if (rNumber (q, 0)).2.2 ≠ 0 then ((0, []), 0, nul32, (rNumber (q, 0)).2.2) else if 8192 < (rNumber (q, 0)).1 then ((0, []), 0, nul32, 4)
   else if (rNumber (q, 0)).2.1.length < (rNumber (q, 0)).1 + 8 then ((0, []), 0, nul32, 5)
   else if (nextB d (x, (rNumber (q, 0)).2.1.take (rNumber (q, 0)).1)).take 8 = ((rNumber (q, 0)).2.1.drop (rNumber (q, 0)).1).take 8 then ((x, (rNumber (q, 0)).2.1.take (rNumber (q, 0)).1), b.length - (rNumber (q, 0)).2.1.length + (rNumber (q, 0)).1 + 8, nextB d (x, (rNumber (q, 0)).2.1.take (rNumber (q, 0)).1), 0)
   else ((0, []), 0, nul32, 4) := by
 cases b with
 | nil => exact readR_nil d
 | cons x q =>
  obtain ⟨h1, h2, h3⟩ := rNumber_take q
  have hw : rWord 1 ((x :: q).take 10, 0) = (x.toNat, (q.take 9, 0)) := by
   unfold rWord rTake
   rw [show clampN 1 = 1 from rfl]
   simp [leVal]
  by_cases hx : x = 0
  ·have hs : startR (x :: q) = (0, 0, 0, 4) := by
    unfold startR
    rw [hw, if_pos ⟨rfl, by rw [hx]; rfl⟩]
   unfold readR
   rw [hs]
   simp only [if_pos hx]
   rfl
  ·have hx' : x.toNat ≠ 0 := fun e => hx (UInt8.toNat_inj.1 (by simpa using e))
   by_cases he : (rNumber (q, 0)).2.2 = 0
   ·obtain ⟨f, k1, k2, k3, k4⟩ := h3 he
    by_cases hz : 8192 < (rNumber (q, 0)).1
    ·have hs : startR (x :: q) = (0, 0, 0, 4) := by
      unfold startR
      rw [hw, if_neg (fun h => hx' h.2), h2, if_neg (fun h => h he), h1, if_pos hz]
     unfold readR
     rw [hs]
     simp only [if_neg hx, he, hz, if_true, ne_eq, not_true_eq_false, if_false]
     rfl
    ·obtain ⟨z, hzz⟩ : ∃ z, (rNumber (q, 0)).1 = z := ⟨_, rfl⟩
     have hf : ((x :: q).take 10).length - (rNumber (q.take 9, 0)).2.1.length = f + 1 := by
      have h9 : (rNumber (q.take 9, 0)).2.1.length ≤ (q.take 9).length := by
       have h5 := h2.trans he
       obtain ⟨f', _, _, k3', _⟩ := (rNumber_take (q.take 9)).2.2 h5
       rw [k3', List.length_drop]; omega
      rw [show (x :: q).take 10 = x :: q.take 9 from rfl, List.length_cons]
      omega
     have hs : startR (x :: q) = (x.toNat, f + 1, z, 0) := by
      unfold startR
      rw [hw, if_neg (fun h => hx' h.2), h2, if_neg (fun h => h he), h1, if_neg hz, hf, hzz]
     unfold readR
     rw [hs]
     simp only [if_neg hx, he, ne_eq, not_true_eq_false, if_false, hz, k3, hzz]
     rw [show UInt8.ofNat x.toNat = x by simp]
     have e1 : (x :: q).length - (f + 1) = (q.drop f).length := by rw [List.length_cons, List.length_drop]; omega
     have e2 : (x :: q).drop (f + 1) = q.drop f := rfl
     have e3 : (x :: q).drop (f + 1 + z) = (q.drop f).drop z := by rw [List.drop_drop, show f + 1 + z = (f + z) + 1 by omega]; rfl
     have e4 : f + 1 + z + 8 = (x :: q).length - (q.drop f).length + z + 8 := by rw [List.length_cons, List.length_drop]; omega
     rw [hzz] at hz
     rw [e1, e2, e3, e4, if_neg hz]
   ·have hs : startR (x :: q) = (0, 0, 0, (rNumber (q, 0)).2.2) := by
     unfold startR
     rw [hw, if_neg (fun h => hx' h.2), h2, if_pos he]
    unfold readR
    rw [hs]
    simp only [if_neg hx, ne_eq, he, not_false_eq_true, if_true]
section
variable {N : Nat} {fr : Fr} {w : World} {ty : TypeId} {x : Operand} {g e : Nat} {l : By}
theorem o_ldRfE (hx : fr.ev x = some (.pointer (some ⟨g, 0 + 1, none⟩))) (hR : Rfr w g (l, e)) : OpV Tryz.prog N fr w (.load 27 x) ty (.int .i64 (e : Int)) w := by
 obtain ⟨B, cap, A, c, l2, hB, _⟩ := hR
 exact o_loadbg Tryz.isAgg27 hx hB rfl
end
structure NumR (l : By) (e v : Nat) (l' : By) (e' : Nat) : Prop where
 h : rNumber (l, e) = (v, (l', e'))
theorem C_xfNumber {g e e' v : Nat} {l l' : List UInt8} (w : World) (hR : Rfr w g (l, e)) (hr : NumR l e v l' e') :
  CallsR Tryz.prog 116 [.pointer (some ⟨g, 0, none⟩)] w fun x w' => x = .int .u64 (v : Int) ∧ Rfr w' g (l', e') ∧ Grew w w' 155 (some g) ∧ Chg g (g + 1) w w' := by
 refine (C_refRNumber w hR).mono ?_
 rintro v w' ⟨rfl, hg, _, hR2⟩
 rw [hr.h] at hR2 ⊢
 exact ⟨rfl, hR2, grew_rfr hR hg, Chg.of_g1 hg (Nat.le_refl _) (by omega)⟩
set_option maxRecDepth 100000 in
set_option maxHeartbeats 4000000 in
theorem C_r8Read {A : Option Addr} {d b p x : By} {k : UInt8} {z e : Nat} {n c : Nat} (w : World) (hr : readR d b = ((k, p), z, x, e)) (hb : Rd w A b) (hn : n = b.length) (hc : b.length ≤ c) (hd : d.length = 32) (hl : b.length ≤ 3400) :
  CallsR Tryz.prog 93 [.agg (B8 d).toArray, .slice A n c] w fun v w' => ∃ (A' : Option Addr) (c' : Nat), v = .tuple #[.agg #[.int .u8 (k.toNat : Int), .slice A' p.length c'], .int .i64 (z : Int), .agg (B8 x).toArray, .int .i64 (e : Int)] ∧ OwnH w' w.heap.size w'.heap.size A' c' p ∧ Below w.heap.size w w' := by
 subst hn
 rw [readR_eq] at hr
 cases b with
 | nil =>
  simp only [Prod.mk.injEq] at hr
  obtain ⟨⟨rfl, rfl⟩, rfl, rfl, rfl⟩ := hr
  have t1 : TakeR 1 [] 0 [] [] 5 := ⟨rfl⟩
  have t2 : NumR [] 5 0 [] 5 := ⟨rNumber_err (by decide)⟩
  refine callsR Tryz.func93 rfl rfl (by kernel_rfl) rfl ?_
  have hw := Below.refl w.heap.size w
  refine zs ?_
  refine wl_boxg _ rfl (by rfl) ?_
  rintro g2 w2 f2 b2 i2 i2_1
  have s2 := b2.size
  replace hw := hw.trans (b2.mono hw.size)
  refine wl_allocg [_, _] Tryz.zeroValue37 (by rfl) ?_
  rintro g4 w4 f4 b4 i4 i4_1
  have s4 := b4.size
  replace hw := hw.trans (b4.mono hw.size)
  replace f2 := f2.u b4
  refine za rfl ?_
  refine wl_allocB Tryz.underlying64 Tryz.zeroValue64 (by rfl) ?_
  rintro g6 w6 f6 b6 i6 i6_1
  have s6 := b6.size
  replace hw := hw.trans (b6.mono hw.size)
  replace f2 := f2.u b6
  replace f4 := f4.u b6
  refine za rfl (wl_nil (zs (za rfl (wl_nil (zs (zm rfl ?_))))))
  refine wl_call rfl (C_xfRead _ (hb.u hw) rfl (by omega)) ?_
  rintro v17 w17 ⟨g17, ⟨rfl, ⟨i17, ⟨i17_1, ⟨f17, b17⟩⟩⟩⟩⟩
  have s17 := b17.size
  replace hw := hw.trans (b17.mono hw.size)
  replace f4 := f4.u b17
  replace f2 := f2.u b17
  replace f6 := f6.u b17
  refine za rfl (wl_nil (zs (zm rfl ?_)))
  refine wl_call rfl (C_xfTake _ f17 t1 (by omega)) ?_
  rintro v19 w19 ⟨A19, ⟨c19, ⟨rfl, ⟨f19, ⟨f19_1, ⟨g19, g19_1⟩⟩⟩⟩⟩⟩
  have qf19 := f19.cap
  have s19 := g19.size
  replace hw := hw.trans (below_of_grownBy g19.g hw.size (by omega))
  replace f6 := f6.k g19.g (ap_some (by omega))
  replace f2 := f2.k g19.g (ap_some (by omega))
  replace f4 := f4.k g19.g (ap_some (by omega))
  clear f17
  refine za rfl (wl_nil (rk_seq (zs (zm rfl ?_))))
  refine zp (o_nil rfl) ?_
  refine zp (o_faddr (s := 155) (i := 1) (off := 1) Tryz.underlying155 rfl Tryz.sizeOf27 rfl rfl rfl) ?_
  refine wl_r (o_ldRfE rfl f19_1) ?_
  refine zp (o_eq rfl rfl) ?_
  refine zm rfl (wl_off (wl_off (wl_off (wl_off ?_))))
  refine zp (o_pick_f rfl rfl) ?_
  refine wl_nil ?_
  refine rk_false rfl ?_
  refine rk_skip (zs (zm rfl ?_))
  refine wl_call rfl (C_xfNumber _ f19_1 t2) ?_
  rintro v34 w34 ⟨rfl, ⟨f34, ⟨g34, g34_1⟩⟩⟩
  have s34 := g34.size
  replace hw := hw.trans (below_of_grownBy g34.g hw.size (by omega))
  replace f4 := f4.k g34.g (ap_some (by omega))
  replace f2 := f2.k g34.g (ap_some (by omega))
  replace f6 := f6.k g34.g (ap_some (by omega))
  replace f19 := f19.k g34.g (ap_some (by omega))
  clear f19_1
  refine za rfl (wl_nil (rk_seq (zs (zm rfl ?_))))
  refine zp (o_nil rfl) ?_
  refine zp (o_faddr (s := 155) (i := 1) (off := 1) Tryz.underlying155 rfl Tryz.sizeOf27 rfl rfl rfl) ?_
  refine wl_r (o_ldRfE rfl f34) ?_
  refine zp (o_eq rfl rfl) ?_
  refine zm rfl (wl_off (wl_off ?_))
  refine zp (o_pick_f rfl rfl) ?_
  refine wl_nil ?_
  refine rk_false rfl ?_
  refine rk_skip (rk_seq (zs (zm rfl ?_)))
  refine zp (o_nil rfl) ?_
  refine zp (o_faddr (s := 155) (i := 1) (off := 1) Tryz.underlying155 rfl Tryz.sizeOf27 rfl rfl rfl) ?_
  refine wl_r (o_ldRfE rfl f34) ?_
  refine zp (o_eq rfl rfl) ?_
  refine wl_nil ?_
  refine rk_false rfl ?_
  refine rk_skip (rk_seq (zs (zm rfl ?_)))
  refine zp (o_nil rfl) ?_
  refine zp (o_faddr (s := 155) (i := 1) (off := 1) Tryz.underlying155 rfl Tryz.sizeOf27 rfl rfl rfl) ?_
  refine wl_r (o_ldRfE rfl f34) ?_
  refine zp (o_ne rfl rfl) ?_
  refine zm rfl (wl_off (wl_off ?_))
  refine zp (o_pick_t rfl rfl) ?_
  refine wl_nil ?_
  refine rk_true rfl ?_
  refine zs ?_
  refine zp (o_buildg [_, _] Tryz.underlying37 Tryz.zeroValue37 (by rfl) (by rfl) rfl (by rfl) (by rfl) (fun _ => by kernel_rfl)) ?_
  refine zp (o_buildD0) ?_
  refine zm rfl ?_
  refine wl_storega Tryz.sizeOf37 rfl rfl (by rfl) (by decide) f4 (by rfl) ?_
  rintro w_1 f g e
  have s := g.size
  replace hw := hw.trans (below_of_grownBy g.g hw.size (by omega))
  replace f19 := f19.k g.g (ap_some (by omega))
  replace f6 := f6.k g.g (ap_some (by omega))
  replace f2 := f2.k g.g (ap_some (by omega))
  replace f34 := f34.y g (by decide)
  clear f4
  refine za rfl ?_
  refine wl_stBa Tryz.sizeOf64 rfl f6 rfl (by rfl) (by rfl) ?_
  rintro w_2 f_1 g_1 e_1
  have s_1 := g_1.size
  replace hw := hw.trans (below_of_grownBy g_1.g hw.size (by omega))
  replace f34 := f34.y g_1 (by decide)
  replace f2 := f2.k g_1.g (ap_some (by omega))
  replace f19 := f19.k g_1.g (ap_some (by omega))
  replace f := f.k g_1.g (ap_some (by omega))
  clear f6
  refine za rfl (wl_nil ?_)
  refine ret_any (vs := [.agg #[.int .u8 0, .slice none 0 0], .int .i64 0, .agg (B8 nul32).toArray, .int .i64 5]) rfl (.cell rfl Tryz.isAgg37 Tryz.sizeOf37 f rfl (.tmp rfl (.cell rfl Tryz.isAgg64 Tryz.sizeOf64 f_1 rfl (.tmp rfl .nil)))) (by simp) ?_
  exact ⟨none, 0, rfl, OwnH.nil_, hw⟩
 | cons y q =>
  have t1 : TakeR 1 (y :: q) 0 [y] q 0 := ⟨by simp [rTake]⟩
  have hql : q.length ≤ 3400 := by rw [List.length_cons] at hl; omega
  simp only at hr
  by_cases hy : y = 0
  ·rw [if_pos hy] at hr
   simp only [Prod.mk.injEq] at hr
   obtain ⟨⟨rfl, rfl⟩, rfl, rfl, rfl⟩ := hr
   subst hy
   refine callsR Tryz.func93 rfl rfl (by kernel_rfl) rfl ?_
   have hw := Below.refl w.heap.size w
   refine zs ?_
   refine wl_boxg _ rfl (by rfl) ?_
   rintro g2 w2 f2 b2 i2 i2_1
   have s2 := b2.size
   replace hw := hw.trans (b2.mono hw.size)
   refine wl_allocg [_, _] Tryz.zeroValue37 (by rfl) ?_
   rintro g4 w4 f4 b4 i4 i4_1
   have s4 := b4.size
   replace hw := hw.trans (b4.mono hw.size)
   replace f2 := f2.u b4
   refine za rfl ?_
   refine wl_allocB Tryz.underlying64 Tryz.zeroValue64 (by rfl) ?_
   rintro g6 w6 f6 b6 i6 i6_1
   have s6 := b6.size
   replace hw := hw.trans (b6.mono hw.size)
   replace f2 := f2.u b6
   replace f4 := f4.u b6
   refine za rfl (wl_nil (zs (za rfl (wl_nil (zs (zm rfl ?_))))))
   refine wl_call rfl (C_xfRead _ (hb.u hw) rfl (by omega)) ?_
   rintro v17 w17 ⟨g17, ⟨rfl, ⟨i17, ⟨i17_1, ⟨f17, b17⟩⟩⟩⟩⟩
   have s17 := b17.size
   replace hw := hw.trans (b17.mono hw.size)
   replace f4 := f4.u b17
   replace f2 := f2.u b17
   replace f6 := f6.u b17
   refine za rfl (wl_nil (zs (zm rfl ?_)))
   refine wl_call rfl (C_xfTake _ f17 t1 (by omega)) ?_
   rintro v19 w19 ⟨A19, ⟨c19, ⟨rfl, ⟨f19, ⟨f19_1, ⟨g19, g19_1⟩⟩⟩⟩⟩⟩
   have qf19 := f19.cap
   have s19 := g19.size
   replace hw := hw.trans (below_of_grownBy g19.g hw.size (by omega))
   replace f6 := f6.k g19.g (ap_some (by omega))
   replace f2 := f2.k g19.g (ap_some (by omega))
   replace f4 := f4.k g19.g (ap_some (by omega))
   clear f17
   refine za rfl (wl_nil (rk_seq (zs (zm rfl ?_))))
   refine zp (o_nil rfl) ?_
   refine zp (o_faddr (s := 155) (i := 1) (off := 1) Tryz.underlying155 rfl Tryz.sizeOf27 rfl rfl rfl) ?_
   refine wl_r (o_ldRfE rfl f19_1) ?_
   refine zp (o_eq rfl rfl) ?_
   refine zm rfl (zm rfl ?_)
   refine wl_know 25 true rfl (decide_eq_true (by omega)) ?_
   have hA := (RowH.rd f19).some_ (show 0 < 1 by decide) (by simp)
   refine zp (o_iaddrA1 0 Tryz.underlying35 Tryz.sizeOf5 rfl rfl rfl hA (by simp)) ?_
   refine wl_r (o_loadB (j := 0) Tryz.isAgg5 rfl f19.to_Rd (by simp)) ?_
   simp only [List.getElem_cons_zero]
   refine zp (o_eq rfl rfl) ?_
   refine zp (o_pick_t rfl rfl) ?_
   refine wl_nil ?_
   refine rk_true rfl ?_
   refine zs ?_
   refine zp (o_buildg [_, _] Tryz.underlying37 Tryz.zeroValue37 (by rfl) (by rfl) rfl (by rfl) (by rfl) (fun _ => by kernel_rfl)) ?_
   refine zp (o_buildD0) ?_
   refine wl_storega Tryz.sizeOf37 rfl rfl (by rfl) (by decide) f4 (by rfl) ?_
   rintro w_1 f g e
   have s := g.size
   replace hw := hw.trans (below_of_grownBy g.g hw.size (by omega))
   replace f2 := f2.k g.g (ap_some (by omega))
   replace f6 := f6.k g.g (ap_some (by omega))
   replace f19_1 := f19_1.y g (by decide)
   replace f19 := f19.k g.g (ap_some (by omega))
   clear f4
   refine za rfl ?_
   refine wl_stBa Tryz.sizeOf64 rfl f6 rfl (by rfl) (by rfl) ?_
   rintro w_2 f_1 g_1 e_1
   have s_1 := g_1.size
   replace hw := hw.trans (below_of_grownBy g_1.g hw.size (by omega))
   replace f19 := f19.k g_1.g (ap_some (by omega))
   replace f19_1 := f19_1.y g_1 (by decide)
   replace f2 := f2.k g_1.g (ap_some (by omega))
   replace f := f.k g_1.g (ap_some (by omega))
   clear f6
   refine za rfl (wl_nil ?_)
   refine ret_any (vs := [.agg #[.int .u8 0, .slice none 0 0], .int .i64 0, .agg (B8 nul32).toArray, .int .i64 4]) rfl (.cell rfl Tryz.isAgg37 Tryz.sizeOf37 f rfl (.tmp rfl (.cell rfl Tryz.isAgg64 Tryz.sizeOf64 f_1 rfl (.tmp rfl .nil)))) (by simp) ?_
   exact ⟨none, 0, rfl, OwnH.nil_, hw⟩
  ·have hy' : (y.toNat : Int) ≠ 0 := fun e => hy (UInt8.toNat_inj.1 (by simpa using e))
   rw [if_neg hy] at hr
   obtain ⟨⟨v, l1, e1⟩, hN⟩ : ∃ s, rNumber (q, 0) = s := ⟨_, rfl⟩
   rw [hN] at hr
   simp only at hr
   have t2 : NumR q 0 v l1 e1 := ⟨hN⟩
   by_cases he1 : e1 = 0
   ·subst he1
    rw [if_neg (by simp)] at hr
    by_cases hv : 8192 < v
    ·rw [if_pos hv] at hr
     simp only [Prod.mk.injEq] at hr
     obtain ⟨⟨rfl, rfl⟩, rfl, rfl, rfl⟩ := hr
     refine callsR Tryz.func93 rfl rfl (by kernel_rfl) rfl ?_
     have hw := Below.refl w.heap.size w
     refine zs ?_
     refine wl_boxg _ rfl (by rfl) ?_
     rintro g2 w2 f2 b2 i2 i2_1
     have s2 := b2.size
     replace hw := hw.trans (b2.mono hw.size)
     refine wl_allocg [_, _] Tryz.zeroValue37 (by rfl) ?_
     rintro g4 w4 f4 b4 i4 i4_1
     have s4 := b4.size
     replace hw := hw.trans (b4.mono hw.size)
     replace f2 := f2.u b4
     refine za rfl ?_
     refine wl_allocB Tryz.underlying64 Tryz.zeroValue64 (by rfl) ?_
     rintro g6 w6 f6 b6 i6 i6_1
     have s6 := b6.size
     replace hw := hw.trans (b6.mono hw.size)
     replace f2 := f2.u b6
     replace f4 := f4.u b6
     refine za rfl (wl_nil (zs (za rfl (wl_nil (zs (zm rfl ?_))))))
     refine wl_call rfl (C_xfRead _ (hb.u hw) rfl (by omega)) ?_
     rintro v17 w17 ⟨g17, ⟨rfl, ⟨i17, ⟨i17_1, ⟨f17, b17⟩⟩⟩⟩⟩
     have s17 := b17.size
     replace hw := hw.trans (b17.mono hw.size)
     replace f4 := f4.u b17
     replace f2 := f2.u b17
     replace f6 := f6.u b17
     refine za rfl (wl_nil (zs (zm rfl ?_)))
     refine wl_call rfl (C_xfTake _ f17 t1 (by omega)) ?_
     rintro v19 w19 ⟨A19, ⟨c19, ⟨rfl, ⟨f19, ⟨f19_1, ⟨g19, g19_1⟩⟩⟩⟩⟩⟩
     have qf19 := f19.cap
     have s19 := g19.size
     replace hw := hw.trans (below_of_grownBy g19.g hw.size (by omega))
     replace f6 := f6.k g19.g (ap_some (by omega))
     replace f2 := f2.k g19.g (ap_some (by omega))
     replace f4 := f4.k g19.g (ap_some (by omega))
     clear f17
     refine za rfl (wl_nil (rk_seq (zs (zm rfl ?_))))
     refine zp (o_nil rfl) ?_
     refine zp (o_faddr (s := 155) (i := 1) (off := 1) Tryz.underlying155 rfl Tryz.sizeOf27 rfl rfl rfl) ?_
     refine wl_r (o_ldRfE rfl f19_1) ?_
     refine zp (o_eq rfl rfl) ?_
     refine zm rfl (zm rfl ?_)
     refine wl_know 25 true rfl (decide_eq_true (by omega)) ?_
     have hA := (RowH.rd f19).some_ (show 0 < 1 by decide) (by simp)
     refine zp (o_iaddrA1 0 Tryz.underlying35 Tryz.sizeOf5 rfl rfl rfl hA (by simp)) ?_
     refine wl_r (o_loadB (j := 0) Tryz.isAgg5 rfl f19.to_Rd (by simp)) ?_
     simp only [List.getElem_cons_zero]
     refine zp (o_eq rfl rfl) ?_
     refine zp (o_pick_t rfl rfl) ?_
     refine wl_nil ?_
     refine rk_if rfl (fun h30 => absurd h30 (by omega)) (fun h30 => ?_)
     refine rk_skip (zs (zm rfl ?_))
     refine wl_call rfl (C_xfNumber _ f19_1 t2) ?_
     rintro v34 w34 ⟨rfl, ⟨f34, ⟨g34, g34_1⟩⟩⟩
     have s34 := g34.size
     replace hw := hw.trans (below_of_grownBy g34.g hw.size (by omega))
     replace f4 := f4.k g34.g (ap_some (by omega))
     replace f2 := f2.k g34.g (ap_some (by omega))
     replace f6 := f6.k g34.g (ap_some (by omega))
     replace f19 := f19.k g34.g (ap_some (by omega))
     clear f19_1
     refine za rfl (wl_nil (rk_seq (zs (zm rfl ?_))))
     refine zp (o_nil rfl) ?_
     refine zp (o_faddr (s := 155) (i := 1) (off := 1) Tryz.underlying155 rfl Tryz.sizeOf27 rfl rfl rfl) ?_
     refine wl_r (o_ldRfE rfl f34) ?_
     refine zp (o_eq rfl rfl) ?_
     refine zm rfl (zm rfl ?_)
     refine zp (o_gt rfl rfl) ?_
     refine zp (o_pick_t rfl rfl) ?_
     refine wl_nil ?_
     refine rk_if rfl (fun h43 => ?_) (fun h43 => h43.elim (by omega))
     refine rk_region (za rfl (wl_nil (rk_seq (zs (zm rfl ?_)))))
     refine zp (o_nil rfl) ?_
     refine zp (o_faddr (s := 155) (i := 1) (off := 1) Tryz.underlying155 rfl Tryz.sizeOf27 rfl rfl rfl) ?_
     refine wl_r (o_ldRfE rfl f34) ?_
     refine zp (o_eq rfl rfl) ?_
     refine wl_nil ?_
     refine rk_false rfl ?_
     refine rk_skip (rk_seq (zs (zm rfl ?_)))
     refine zp (o_nil rfl) ?_
     refine zp (o_faddr (s := 155) (i := 1) (off := 1) Tryz.underlying155 rfl Tryz.sizeOf27 rfl rfl rfl) ?_
     refine wl_r (o_ldRfE rfl f34) ?_
     refine zp (o_ne rfl rfl) ?_
     refine zm rfl (zm rfl ?_)
     refine zp (o_eq rfl rfl) ?_
     refine zp (o_pick_f rfl rfl) ?_
     refine wl_nil ?_
     refine rk_true rfl ?_
     refine zs ?_
     refine zp (o_buildg [_, _] Tryz.underlying37 Tryz.zeroValue37 (by rfl) (by rfl) rfl (by rfl) (by rfl) (fun _ => by kernel_rfl)) ?_
     refine zp (o_buildD0) ?_
     refine zm rfl ?_
     refine wl_storega Tryz.sizeOf37 rfl rfl (by rfl) (by decide) f4 (by rfl) ?_
     rintro w_1 f g e
     have s := g.size
     replace hw := hw.trans (below_of_grownBy g.g hw.size (by omega))
     replace f19 := f19.k g.g (ap_some (by omega))
     replace f6 := f6.k g.g (ap_some (by omega))
     replace f2 := f2.k g.g (ap_some (by omega))
     replace f34 := f34.y g (by decide)
     clear f4
     refine za rfl ?_
     refine wl_stBa Tryz.sizeOf64 rfl f6 rfl (by rfl) (by rfl) ?_
     rintro w_2 f_1 g_1 e_1
     have s_1 := g_1.size
     replace hw := hw.trans (below_of_grownBy g_1.g hw.size (by omega))
     replace f34 := f34.y g_1 (by decide)
     replace f2 := f2.k g_1.g (ap_some (by omega))
     replace f19 := f19.k g_1.g (ap_some (by omega))
     replace f := f.k g_1.g (ap_some (by omega))
     clear f6
     refine za rfl (wl_nil ?_)
     refine ret_any (vs := [.agg #[.int .u8 0, .slice none 0 0], .int .i64 0, .agg (B8 nul32).toArray, .int .i64 4]) rfl (.cell rfl Tryz.isAgg37 Tryz.sizeOf37 f rfl (.tmp rfl (.cell rfl Tryz.isAgg64 Tryz.sizeOf64 f_1 rfl (.tmp rfl .nil)))) (by simp) ?_
     exact ⟨none, 0, rfl, OwnH.nil_, hw⟩
    ·rw [if_neg hv] at hr
     have hl1 : l1.length ≤ q.length := by
      by_cases h0 : l1 = []
      ·rw [h0]; simp
      ·have := (rNumber_take q).2.2 (by rw [hN])
       obtain ⟨f, _, _, h4, _⟩ := this
       rw [hN] at h4
       simp only at h4
       rw [h4, List.length_drop]; omega
     by_cases hz1 : l1.length < v
     ·rw [if_pos (by omega)] at hr
      simp only [Prod.mk.injEq] at hr
      obtain ⟨⟨rfl, rfl⟩, rfl, rfl, rfl⟩ := hr
      have t3 : TakeR (v : Int) l1 0 [] l1 5 := ⟨by rw [Int.toNat_natCast]; simp [rTake, hz1]⟩
      have t4 : TakeR 8 l1 5 [] l1 5 := ⟨by simp [rTake]⟩
      refine callsR Tryz.func93 rfl rfl (by kernel_rfl) rfl ?_
      have hw := Below.refl w.heap.size w
      refine zs ?_
      refine wl_boxg _ rfl (by rfl) ?_
      rintro g2 w2 f2 b2 i2 i2_1
      have s2 := b2.size
      replace hw := hw.trans (b2.mono hw.size)
      refine wl_allocg [_, _] Tryz.zeroValue37 (by rfl) ?_
      rintro g4 w4 f4 b4 i4 i4_1
      have s4 := b4.size
      replace hw := hw.trans (b4.mono hw.size)
      replace f2 := f2.u b4
      refine za rfl ?_
      refine wl_allocB Tryz.underlying64 Tryz.zeroValue64 (by rfl) ?_
      rintro g6 w6 f6 b6 i6 i6_1
      have s6 := b6.size
      replace hw := hw.trans (b6.mono hw.size)
      replace f2 := f2.u b6
      replace f4 := f4.u b6
      refine za rfl (wl_nil (zs (za rfl (wl_nil (zs (zm rfl ?_))))))
      refine wl_call rfl (C_xfRead _ (hb.u hw) rfl (by omega)) ?_
      rintro v17 w17 ⟨g17, ⟨rfl, ⟨i17, ⟨i17_1, ⟨f17, b17⟩⟩⟩⟩⟩
      have s17 := b17.size
      replace hw := hw.trans (b17.mono hw.size)
      replace f4 := f4.u b17
      replace f2 := f2.u b17
      replace f6 := f6.u b17
      refine za rfl (wl_nil (zs (zm rfl ?_)))
      refine wl_call rfl (C_xfTake _ f17 t1 (by omega)) ?_
      rintro v19 w19 ⟨A19, ⟨c19, ⟨rfl, ⟨f19, ⟨f19_1, ⟨g19, g19_1⟩⟩⟩⟩⟩⟩
      have qf19 := f19.cap
      have s19 := g19.size
      replace hw := hw.trans (below_of_grownBy g19.g hw.size (by omega))
      replace f6 := f6.k g19.g (ap_some (by omega))
      replace f2 := f2.k g19.g (ap_some (by omega))
      replace f4 := f4.k g19.g (ap_some (by omega))
      clear f17
      refine za rfl (wl_nil (rk_seq (zs (zm rfl ?_))))
      refine zp (o_nil rfl) ?_
      refine zp (o_faddr (s := 155) (i := 1) (off := 1) Tryz.underlying155 rfl Tryz.sizeOf27 rfl rfl rfl) ?_
      refine wl_r (o_ldRfE rfl f19_1) ?_
      refine zp (o_eq rfl rfl) ?_
      refine zm rfl (zm rfl ?_)
      refine wl_know 25 true rfl (decide_eq_true (by omega)) ?_
      have hA := (RowH.rd f19).some_ (show 0 < 1 by decide) (by simp)
      refine zp (o_iaddrA1 0 Tryz.underlying35 Tryz.sizeOf5 rfl rfl rfl hA (by simp)) ?_
      refine wl_r (o_loadB (j := 0) Tryz.isAgg5 rfl f19.to_Rd (by simp)) ?_
      simp only [List.getElem_cons_zero]
      refine zp (o_eq rfl rfl) ?_
      refine zp (o_pick_t rfl rfl) ?_
      refine wl_nil ?_
      refine rk_if rfl (fun h30 => absurd h30 (by omega)) (fun h30 => ?_)
      refine rk_skip (zs (zm rfl ?_))
      refine wl_call rfl (C_xfNumber _ f19_1 t2) ?_
      rintro v34 w34 ⟨rfl, ⟨f34, ⟨g34, g34_1⟩⟩⟩
      have s34 := g34.size
      replace hw := hw.trans (below_of_grownBy g34.g hw.size (by omega))
      replace f4 := f4.k g34.g (ap_some (by omega))
      replace f2 := f2.k g34.g (ap_some (by omega))
      replace f6 := f6.k g34.g (ap_some (by omega))
      replace f19 := f19.k g34.g (ap_some (by omega))
      clear f19_1
      refine za rfl (wl_nil (rk_seq (zs (zm rfl ?_))))
      refine zp (o_nil rfl) ?_
      refine zp (o_faddr (s := 155) (i := 1) (off := 1) Tryz.underlying155 rfl Tryz.sizeOf27 rfl rfl rfl) ?_
      refine wl_r (o_ldRfE rfl f34) ?_
      refine zp (o_eq rfl rfl) ?_
      refine zm rfl (zm rfl ?_)
      refine zp (o_gt rfl rfl) ?_
      refine zp (o_pick_t rfl rfl) ?_
      refine wl_nil ?_
      refine rk_if rfl (fun h43 => absurd h43 (by omega)) (fun h43 => ?_)
      refine rk_skip (rk_seq (zs (zm rfl ?_)))
      refine zp (o_nil rfl) ?_
      refine zp (o_faddr (s := 155) (i := 1) (off := 1) Tryz.underlying155 rfl Tryz.sizeOf27 rfl rfl rfl) ?_
      refine wl_r (o_ldRfE rfl f34) ?_
      refine zp (o_eq rfl rfl) ?_
      refine wl_nil ?_
      refine rk_false rfl ?_
      refine rk_skip (rk_seq (zs (zm rfl ?_)))
      refine zp (o_nil rfl) ?_
      refine zp (o_faddr (s := 155) (i := 1) (off := 1) Tryz.underlying155 rfl Tryz.sizeOf27 rfl rfl rfl) ?_
      refine wl_r (o_ldRfE rfl f34) ?_
      refine zp (o_ne rfl rfl) ?_
      refine zm rfl (zm rfl ?_)
      refine zp (o_eq rfl rfl) ?_
      refine zp (o_pick_f rfl rfl) ?_
      refine wl_nil ?_
      refine rk_false rfl ?_
      refine rk_skip (zs (zm rfl (zm rfl ?_)))
      refine zp (o_convi64 (src := 52) (dst := 3) Tryz.underlying52 Tryz.underlying3 rfl (by omega) (by omega)) ?_
      refine wl_call rfl (C_xfTake _ f34 t3 (by omega)) ?_
      rintro v64 w64 ⟨A64, ⟨c64, ⟨rfl, ⟨f64, ⟨f64_1, ⟨g64, g64_1⟩⟩⟩⟩⟩⟩
      have qf64 := f64.cap
      have s64 := g64.size
      replace hw := hw.trans (below_of_grownBy g64.g hw.size (by omega))
      replace f19 := f19.k g64.g (ap_some (by omega))
      replace f6 := f6.k g64.g (ap_some (by omega))
      replace f2 := f2.k g64.g (ap_some (by omega))
      replace f4 := f4.k g64.g (ap_some (by omega))
      clear f34
      refine za rfl (wl_nil (zs (zm rfl ?_)))
      refine wl_call rfl (C_xfTake _ f64_1 t4 (by omega)) ?_
      rintro v66 w66 ⟨A66, ⟨c66, ⟨rfl, ⟨f66, ⟨f66_1, ⟨g66, g66_1⟩⟩⟩⟩⟩⟩
      have qf66 := f66.cap
      have s66 := g66.size
      replace hw := hw.trans (below_of_grownBy g66.g hw.size (by omega))
      replace f4 := f4.k g66.g (ap_some (by omega))
      replace f2 := f2.k g66.g (ap_some (by omega))
      replace f6 := f6.k g66.g (ap_some (by omega))
      replace f19 := f19.k g66.g (ap_some (by omega))
      replace f64 := f64.k g66.g (ap_some (by omega))
      clear f64_1
      refine za rfl (wl_nil (rk_seq (zs (zm rfl ?_))))
      refine zp (o_nil rfl) ?_
      refine zp (o_faddr (s := 155) (i := 1) (off := 1) Tryz.underlying155 rfl Tryz.sizeOf27 rfl rfl rfl) ?_
      refine wl_r (o_ldRfE rfl f66_1) ?_
      refine zp (o_ne rfl rfl) ?_
      refine wl_nil ?_
      refine rk_true rfl ?_
      refine zs ?_
      refine zp (o_buildg [_, _] Tryz.underlying37 Tryz.zeroValue37 (by rfl) (by rfl) rfl (by rfl) (by rfl) (fun _ => by kernel_rfl)) ?_
      refine zp (o_buildD0) ?_
      refine wl_storega Tryz.sizeOf37 rfl rfl (by rfl) (by decide) f4 (by rfl) ?_
      rintro w_1 f g e
      have s := g.size
      replace hw := hw.trans (below_of_grownBy g.g hw.size (by omega))
      replace f64 := f64.k g.g (ap_some (by omega))
      replace f19 := f19.k g.g (ap_some (by omega))
      replace f6 := f6.k g.g (ap_some (by omega))
      replace f2 := f2.k g.g (ap_some (by omega))
      replace f66_1 := f66_1.y g (by decide)
      replace f66 := f66.k g.g (ap_some (by omega))
      clear f4
      refine za rfl ?_
      refine wl_stBa Tryz.sizeOf64 rfl f6 rfl (by rfl) (by rfl) ?_
      rintro w_2 f_1 g_1 e_1
      have s_1 := g_1.size
      replace hw := hw.trans (below_of_grownBy g_1.g hw.size (by omega))
      replace f66 := f66.k g_1.g (ap_some (by omega))
      replace f66_1 := f66_1.y g_1 (by decide)
      replace f2 := f2.k g_1.g (ap_some (by omega))
      replace f19 := f19.k g_1.g (ap_some (by omega))
      replace f64 := f64.k g_1.g (ap_some (by omega))
      replace f := f.k g_1.g (ap_some (by omega))
      clear f6
      refine za rfl (wl_nil ?_)
      refine ret_any (vs := [.agg #[.int .u8 0, .slice none 0 0], .int .i64 0, .agg (B8 nul32).toArray, .int .i64 5]) rfl (.cell rfl Tryz.isAgg37 Tryz.sizeOf37 f rfl (.tmp rfl (.cell rfl Tryz.isAgg64 Tryz.sizeOf64 f_1 rfl (.tmp rfl .nil)))) (by simp) ?_
      exact ⟨none, 0, rfl, OwnH.nil_, hw⟩
     ·have t3 : TakeR (v : Int) l1 0 (l1.take v) (l1.drop v) 0 := ⟨by rw [Int.toNat_natCast]; simp [rTake, hz1]⟩
      obtain ⟨l2, hl2⟩ : ∃ l, l1.drop v = l := ⟨_, rfl⟩
      obtain ⟨dt, hdt⟩ : ∃ l, l1.take v = l := ⟨_, rfl⟩
      have hl2l : l2.length + v = l1.length := by rw [← hl2, List.length_drop]; omega
      have hdl : dt.length = v := by rw [← hdt, List.length_take]; omega
      rw [hl2, hdt] at hr t3
      by_cases hz2 : l2.length < 8
      ·rw [if_pos (by omega)] at hr
       simp only [Prod.mk.injEq] at hr
       obtain ⟨⟨rfl, rfl⟩, rfl, rfl, rfl⟩ := hr
       have t4 : TakeR 8 l2 0 [] l2 5 := ⟨by rw [show (8 : Int).toNat = 8 from rfl]; simp [rTake, hz2]⟩
       refine callsR Tryz.func93 rfl rfl (by kernel_rfl) rfl ?_
       have hw := Below.refl w.heap.size w
       refine zs ?_
       refine wl_boxg _ rfl (by rfl) ?_
       rintro g2 w2 f2 b2 i2 i2_1
       have s2 := b2.size
       replace hw := hw.trans (b2.mono hw.size)
       refine wl_allocg [_, _] Tryz.zeroValue37 (by rfl) ?_
       rintro g4 w4 f4 b4 i4 i4_1
       have s4 := b4.size
       replace hw := hw.trans (b4.mono hw.size)
       replace f2 := f2.u b4
       refine za rfl ?_
       refine wl_allocB Tryz.underlying64 Tryz.zeroValue64 (by rfl) ?_
       rintro g6 w6 f6 b6 i6 i6_1
       have s6 := b6.size
       replace hw := hw.trans (b6.mono hw.size)
       replace f2 := f2.u b6
       replace f4 := f4.u b6
       refine za rfl (wl_nil (zs (za rfl (wl_nil (zs (zm rfl ?_))))))
       refine wl_call rfl (C_xfRead _ (hb.u hw) rfl (by omega)) ?_
       rintro v17 w17 ⟨g17, ⟨rfl, ⟨i17, ⟨i17_1, ⟨f17, b17⟩⟩⟩⟩⟩
       have s17 := b17.size
       replace hw := hw.trans (b17.mono hw.size)
       replace f4 := f4.u b17
       replace f2 := f2.u b17
       replace f6 := f6.u b17
       refine za rfl (wl_nil (zs (zm rfl ?_)))
       refine wl_call rfl (C_xfTake _ f17 t1 (by omega)) ?_
       rintro v19 w19 ⟨A19, ⟨c19, ⟨rfl, ⟨f19, ⟨f19_1, ⟨g19, g19_1⟩⟩⟩⟩⟩⟩
       have qf19 := f19.cap
       have s19 := g19.size
       replace hw := hw.trans (below_of_grownBy g19.g hw.size (by omega))
       replace f6 := f6.k g19.g (ap_some (by omega))
       replace f2 := f2.k g19.g (ap_some (by omega))
       replace f4 := f4.k g19.g (ap_some (by omega))
       clear f17
       refine za rfl (wl_nil (rk_seq (zs (zm rfl ?_))))
       refine zp (o_nil rfl) ?_
       refine zp (o_faddr (s := 155) (i := 1) (off := 1) Tryz.underlying155 rfl Tryz.sizeOf27 rfl rfl rfl) ?_
       refine wl_r (o_ldRfE rfl f19_1) ?_
       refine zp (o_eq rfl rfl) ?_
       refine zm rfl (zm rfl ?_)
       refine wl_know 25 true rfl (decide_eq_true (by omega)) ?_
       have hA := (RowH.rd f19).some_ (show 0 < 1 by decide) (by simp)
       refine zp (o_iaddrA1 0 Tryz.underlying35 Tryz.sizeOf5 rfl rfl rfl hA (by simp)) ?_
       refine wl_r (o_loadB (j := 0) Tryz.isAgg5 rfl f19.to_Rd (by simp)) ?_
       simp only [List.getElem_cons_zero]
       refine zp (o_eq rfl rfl) ?_
       refine zp (o_pick_t rfl rfl) ?_
       refine wl_nil ?_
       refine rk_if rfl (fun h30 => absurd h30 (by omega)) (fun h30 => ?_)
       refine rk_skip (zs (zm rfl ?_))
       refine wl_call rfl (C_xfNumber _ f19_1 t2) ?_
       rintro v34 w34 ⟨rfl, ⟨f34, ⟨g34, g34_1⟩⟩⟩
       have s34 := g34.size
       replace hw := hw.trans (below_of_grownBy g34.g hw.size (by omega))
       replace f4 := f4.k g34.g (ap_some (by omega))
       replace f2 := f2.k g34.g (ap_some (by omega))
       replace f6 := f6.k g34.g (ap_some (by omega))
       replace f19 := f19.k g34.g (ap_some (by omega))
       clear f19_1
       refine za rfl (wl_nil (rk_seq (zs (zm rfl ?_))))
       refine zp (o_nil rfl) ?_
       refine zp (o_faddr (s := 155) (i := 1) (off := 1) Tryz.underlying155 rfl Tryz.sizeOf27 rfl rfl rfl) ?_
       refine wl_r (o_ldRfE rfl f34) ?_
       refine zp (o_eq rfl rfl) ?_
       refine zm rfl (zm rfl ?_)
       refine zp (o_gt rfl rfl) ?_
       refine zp (o_pick_t rfl rfl) ?_
       refine wl_nil ?_
       refine rk_if rfl (fun h43 => absurd h43 (by omega)) (fun h43 => ?_)
       refine rk_skip (rk_seq (zs (zm rfl ?_)))
       refine zp (o_nil rfl) ?_
       refine zp (o_faddr (s := 155) (i := 1) (off := 1) Tryz.underlying155 rfl Tryz.sizeOf27 rfl rfl rfl) ?_
       refine wl_r (o_ldRfE rfl f34) ?_
       refine zp (o_eq rfl rfl) ?_
       refine wl_nil ?_
       refine rk_false rfl ?_
       refine rk_skip (rk_seq (zs (zm rfl ?_)))
       refine zp (o_nil rfl) ?_
       refine zp (o_faddr (s := 155) (i := 1) (off := 1) Tryz.underlying155 rfl Tryz.sizeOf27 rfl rfl rfl) ?_
       refine wl_r (o_ldRfE rfl f34) ?_
       refine zp (o_ne rfl rfl) ?_
       refine zm rfl (zm rfl ?_)
       refine zp (o_eq rfl rfl) ?_
       refine zp (o_pick_f rfl rfl) ?_
       refine wl_nil ?_
       refine rk_false rfl ?_
       refine rk_skip (zs (zm rfl (zm rfl ?_)))
       refine zp (o_convi64 (src := 52) (dst := 3) Tryz.underlying52 Tryz.underlying3 rfl (by omega) (by omega)) ?_
       refine wl_call rfl (C_xfTake _ f34 t3 (by omega)) ?_
       rintro v64 w64 ⟨A64, ⟨c64, ⟨rfl, ⟨f64, ⟨f64_1, ⟨g64, g64_1⟩⟩⟩⟩⟩⟩
       have qf64 := f64.cap
       have s64 := g64.size
       replace hw := hw.trans (below_of_grownBy g64.g hw.size (by omega))
       replace f19 := f19.k g64.g (ap_some (by omega))
       replace f6 := f6.k g64.g (ap_some (by omega))
       replace f2 := f2.k g64.g (ap_some (by omega))
       replace f4 := f4.k g64.g (ap_some (by omega))
       clear f34
       refine za rfl (wl_nil (zs (zm rfl ?_)))
       refine wl_call rfl (C_xfTake _ f64_1 t4 (by omega)) ?_
       rintro v66 w66 ⟨A66, ⟨c66, ⟨rfl, ⟨f66, ⟨f66_1, ⟨g66, g66_1⟩⟩⟩⟩⟩⟩
       have qf66 := f66.cap
       have s66 := g66.size
       replace hw := hw.trans (below_of_grownBy g66.g hw.size (by omega))
       replace f4 := f4.k g66.g (ap_some (by omega))
       replace f2 := f2.k g66.g (ap_some (by omega))
       replace f6 := f6.k g66.g (ap_some (by omega))
       replace f19 := f19.k g66.g (ap_some (by omega))
       replace f64 := f64.k g66.g (ap_some (by omega))
       clear f64_1
       refine za rfl (wl_nil (rk_seq (zs (zm rfl ?_))))
       refine zp (o_nil rfl) ?_
       refine zp (o_faddr (s := 155) (i := 1) (off := 1) Tryz.underlying155 rfl Tryz.sizeOf27 rfl rfl rfl) ?_
       refine wl_r (o_ldRfE rfl f66_1) ?_
       refine zp (o_ne rfl rfl) ?_
       refine wl_nil ?_
       refine rk_true rfl ?_
       refine zs ?_
       refine zp (o_buildg [_, _] Tryz.underlying37 Tryz.zeroValue37 (by rfl) (by rfl) rfl (by rfl) (by rfl) (fun _ => by kernel_rfl)) ?_
       refine zp (o_buildD0) ?_
       refine wl_storega Tryz.sizeOf37 rfl rfl (by rfl) (by decide) f4 (by rfl) ?_
       rintro w_1 f g e
       have s := g.size
       replace hw := hw.trans (below_of_grownBy g.g hw.size (by omega))
       replace f64 := f64.k g.g (ap_some (by omega))
       replace f19 := f19.k g.g (ap_some (by omega))
       replace f6 := f6.k g.g (ap_some (by omega))
       replace f2 := f2.k g.g (ap_some (by omega))
       replace f66_1 := f66_1.y g (by decide)
       replace f66 := f66.k g.g (ap_some (by omega))
       clear f4
       refine za rfl ?_
       refine wl_stBa Tryz.sizeOf64 rfl f6 rfl (by rfl) (by rfl) ?_
       rintro w_2 f_1 g_1 e_1
       have s_1 := g_1.size
       replace hw := hw.trans (below_of_grownBy g_1.g hw.size (by omega))
       replace f66 := f66.k g_1.g (ap_some (by omega))
       replace f66_1 := f66_1.y g_1 (by decide)
       replace f2 := f2.k g_1.g (ap_some (by omega))
       replace f19 := f19.k g_1.g (ap_some (by omega))
       replace f64 := f64.k g_1.g (ap_some (by omega))
       replace f := f.k g_1.g (ap_some (by omega))
       clear f6
       refine za rfl (wl_nil ?_)
       refine ret_any (vs := [.agg #[.int .u8 0, .slice none 0 0], .int .i64 0, .agg (B8 nul32).toArray, .int .i64 5]) rfl (.cell rfl Tryz.isAgg37 Tryz.sizeOf37 f rfl (.tmp rfl (.cell rfl Tryz.isAgg64 Tryz.sizeOf64 f_1 rfl (.tmp rfl .nil)))) (by simp) ?_
       exact ⟨none, 0, rfl, OwnH.nil_, hw⟩
      ·rw [if_neg (by omega)] at hr
       have t4 : TakeR 8 l2 0 (l2.take 8) (l2.drop 8) 0 := ⟨by rw [show (8 : Int).toNat = 8 from rfl]; simp [rTake, hz2]⟩
       obtain ⟨sm, hsm⟩ : ∃ l, l2.take 8 = l := ⟨_, rfl⟩
       have hsml : sm.length = 8 := by rw [← hsm, List.length_take]; omega
       obtain ⟨nx, hnx⟩ : ∃ l, nextB d (y, dt) = l := ⟨_, rfl⟩
       have hnl : nx.length = 32 := by rw [← hnx]; exact nextB_len _ _
       rw [hsm] at hr t4
       rw [hnx] at hr
       have hd8 : (l2.drop 8).length + 8 = l2.length := by rw [List.length_drop]; omega
       have hyq : (y :: q).length = q.length + 1 := rfl
       by_cases hq : nx.take 8 = sm
       ·rw [if_pos hq] at hr
        simp only [Prod.mk.injEq] at hr
        obtain ⟨⟨rfl, rfl⟩, rfl, rfl, rfl⟩ := hr
        refine callsR Tryz.func93 rfl rfl (by kernel_rfl) rfl ?_
        have hw := Below.refl w.heap.size w
        refine zs ?_
        refine wl_boxg _ rfl (by rfl) ?_
        rintro g2 w2 f2 b2 i2 i2_1
        have s2 := b2.size
        replace hw := hw.trans (b2.mono hw.size)
        refine wl_allocg [_, _] Tryz.zeroValue37 (by rfl) ?_
        rintro g4 w4 f4 b4 i4 i4_1
        have s4 := b4.size
        replace hw := hw.trans (b4.mono hw.size)
        replace f2 := f2.u b4
        refine za rfl ?_
        refine wl_allocB Tryz.underlying64 Tryz.zeroValue64 (by rfl) ?_
        rintro g6 w6 f6 b6 i6 i6_1
        have s6 := b6.size
        replace hw := hw.trans (b6.mono hw.size)
        replace f2 := f2.u b6
        replace f4 := f4.u b6
        refine za rfl (wl_nil (zs (za rfl (wl_nil (zs (zm rfl ?_))))))
        refine wl_call rfl (C_xfRead _ (hb.u hw) rfl (by omega)) ?_
        rintro v17 w17 ⟨g17, ⟨rfl, ⟨i17, ⟨i17_1, ⟨f17, b17⟩⟩⟩⟩⟩
        have s17 := b17.size
        replace hw := hw.trans (b17.mono hw.size)
        replace f4 := f4.u b17
        replace f2 := f2.u b17
        replace f6 := f6.u b17
        refine za rfl (wl_nil (zs (zm rfl ?_)))
        refine wl_call rfl (C_xfTake _ f17 t1 (by omega)) ?_
        rintro v19 w19 ⟨A19, ⟨c19, ⟨rfl, ⟨f19, ⟨f19_1, ⟨g19, g19_1⟩⟩⟩⟩⟩⟩
        have qf19 := f19.cap
        have s19 := g19.size
        replace hw := hw.trans (below_of_grownBy g19.g hw.size (by omega))
        replace f6 := f6.k g19.g (ap_some (by omega))
        replace f2 := f2.k g19.g (ap_some (by omega))
        replace f4 := f4.k g19.g (ap_some (by omega))
        clear f17
        refine za rfl (wl_nil (rk_seq (zs (zm rfl ?_))))
        refine zp (o_nil rfl) ?_
        refine zp (o_faddr (s := 155) (i := 1) (off := 1) Tryz.underlying155 rfl Tryz.sizeOf27 rfl rfl rfl) ?_
        refine wl_r (o_ldRfE rfl f19_1) ?_
        refine zp (o_eq rfl rfl) ?_
        refine zm rfl (zm rfl ?_)
        refine wl_know 25 true rfl (decide_eq_true (by omega)) ?_
        have hA := (RowH.rd f19).some_ (show 0 < 1 by decide) (by simp)
        refine zp (o_iaddrA1 0 Tryz.underlying35 Tryz.sizeOf5 rfl rfl rfl hA (by simp)) ?_
        refine wl_r (o_loadB (j := 0) Tryz.isAgg5 rfl f19.to_Rd (by simp)) ?_
        simp only [List.getElem_cons_zero]
        refine zp (o_eq rfl rfl) ?_
        refine zp (o_pick_t rfl rfl) ?_
        refine wl_nil ?_
        refine rk_if rfl (fun h30 => absurd h30 (by omega)) (fun h30 => ?_)
        refine rk_skip (zs (zm rfl ?_))
        refine wl_call rfl (C_xfNumber _ f19_1 t2) ?_
        rintro v34 w34 ⟨rfl, ⟨f34, ⟨g34, g34_1⟩⟩⟩
        have s34 := g34.size
        replace hw := hw.trans (below_of_grownBy g34.g hw.size (by omega))
        replace f4 := f4.k g34.g (ap_some (by omega))
        replace f2 := f2.k g34.g (ap_some (by omega))
        replace f6 := f6.k g34.g (ap_some (by omega))
        replace f19 := f19.k g34.g (ap_some (by omega))
        clear f19_1
        refine za rfl (wl_nil (rk_seq (zs (zm rfl ?_))))
        refine zp (o_nil rfl) ?_
        refine zp (o_faddr (s := 155) (i := 1) (off := 1) Tryz.underlying155 rfl Tryz.sizeOf27 rfl rfl rfl) ?_
        refine wl_r (o_ldRfE rfl f34) ?_
        refine zp (o_eq rfl rfl) ?_
        refine zm rfl (zm rfl ?_)
        refine zp (o_gt rfl rfl) ?_
        refine zp (o_pick_t rfl rfl) ?_
        refine wl_nil ?_
        refine rk_if rfl (fun h43 => absurd h43 (by omega)) (fun h43 => ?_)
        refine rk_skip (rk_seq (zs (zm rfl ?_)))
        refine zp (o_nil rfl) ?_
        refine zp (o_faddr (s := 155) (i := 1) (off := 1) Tryz.underlying155 rfl Tryz.sizeOf27 rfl rfl rfl) ?_
        refine wl_r (o_ldRfE rfl f34) ?_
        refine zp (o_eq rfl rfl) ?_
        refine wl_nil ?_
        refine rk_false rfl ?_
        refine rk_skip (rk_seq (zs (zm rfl ?_)))
        refine zp (o_nil rfl) ?_
        refine zp (o_faddr (s := 155) (i := 1) (off := 1) Tryz.underlying155 rfl Tryz.sizeOf27 rfl rfl rfl) ?_
        refine wl_r (o_ldRfE rfl f34) ?_
        refine zp (o_ne rfl rfl) ?_
        refine zm rfl (zm rfl ?_)
        refine zp (o_eq rfl rfl) ?_
        refine zp (o_pick_f rfl rfl) ?_
        refine wl_nil ?_
        refine rk_false rfl ?_
        refine rk_skip (zs (zm rfl (zm rfl ?_)))
        refine zp (o_convi64 (src := 52) (dst := 3) Tryz.underlying52 Tryz.underlying3 rfl (by omega) (by omega)) ?_
        refine wl_call rfl (C_xfTake _ f34 t3 (by omega)) ?_
        rintro v64 w64 ⟨A64, ⟨c64, ⟨rfl, ⟨f64, ⟨f64_1, ⟨g64, g64_1⟩⟩⟩⟩⟩⟩
        have qf64 := f64.cap
        have s64 := g64.size
        replace hw := hw.trans (below_of_grownBy g64.g hw.size (by omega))
        replace f19 := f19.k g64.g (ap_some (by omega))
        replace f6 := f6.k g64.g (ap_some (by omega))
        replace f2 := f2.k g64.g (ap_some (by omega))
        replace f4 := f4.k g64.g (ap_some (by omega))
        clear f34
        refine za rfl (wl_nil (zs (zm rfl ?_)))
        refine wl_call rfl (C_xfTake _ f64_1 t4 (by omega)) ?_
        rintro v66 w66 ⟨A66, ⟨c66, ⟨rfl, ⟨f66, ⟨f66_1, ⟨g66, g66_1⟩⟩⟩⟩⟩⟩
        have qf66 := f66.cap
        have s66 := g66.size
        replace hw := hw.trans (below_of_grownBy g66.g hw.size (by omega))
        replace f4 := f4.k g66.g (ap_some (by omega))
        replace f2 := f2.k g66.g (ap_some (by omega))
        replace f6 := f6.k g66.g (ap_some (by omega))
        replace f19 := f19.k g66.g (ap_some (by omega))
        replace f64 := f64.k g66.g (ap_some (by omega))
        clear f64_1
        refine za rfl (wl_nil (rk_seq (zs (zm rfl ?_))))
        refine zp (o_nil rfl) ?_
        refine zp (o_faddr (s := 155) (i := 1) (off := 1) Tryz.underlying155 rfl Tryz.sizeOf27 rfl rfl rfl) ?_
        refine wl_r (o_ldRfE rfl f66_1) ?_
        refine zp (o_ne rfl rfl) ?_
        refine wl_nil ?_
        refine rk_false rfl ?_
        refine rk_skip (zs (zm rfl ?_))
        refine zp (o_iaddrA1 0 Tryz.underlying35 Tryz.sizeOf5 rfl rfl rfl hA (by simp)) ?_
        refine wl_r (o_loadB (j := 0) Tryz.isAgg5 rfl f19.to_Rd (by simp)) ?_
        simp only [List.getElem_cons_zero]
        refine zm rfl ?_
        refine zp (o_buildg [_, _] Tryz.underlying37 Tryz.zeroValue37 (by rfl) (by rfl) rfl (by rfl) (by rfl) (fun _ => by kernel_rfl)) ?_
        refine wl_allocg [_, _] Tryz.zeroValue37 (by rfl) ?_
        rintro g14 w14 f14 b14 i14 i14_1
        have s14 := b14.size
        replace hw := hw.trans (b14.mono hw.size)
        replace f64 := f64.u b14
        replace f19 := f19.u b14
        replace f6 := f6.u b14
        replace f2 := f2.u b14
        replace f4 := f4.u b14
        replace f66_1 := f66_1.u b14
        replace f66 := f66.u b14
        refine wl_storega Tryz.sizeOf37 rfl rfl (by rfl) (oneCell_of (by rfl)) f14 (by rfl) ?_
        rintro w_1 f g e
        have s := g.size
        replace hw := hw.trans (below_of_grownBy g.g hw.size (by omega))
        replace f66 := f66.k g.g (ap_some (by omega))
        replace f66_1 := f66_1.y g (by decide)
        replace f4 := f4.k g.g (ap_some (by omega))
        replace f2 := f2.k g.g (ap_some (by omega))
        replace f6 := f6.k g.g (ap_some (by omega))
        replace f19 := f19.k g.g (ap_some (by omega))
        replace f64 := f64.k g.g (ap_some (by omega))
        clear f14
        refine wl_nil (zs ?_)
        refine wl_r (o_ldBa Tryz.isAgg64 Tryz.sizeOf64 rfl f2 hd) ?_
        refine wl_r (o_loadag Tryz.isAgg37 Tryz.sizeOf37 rfl f (by rfl)) ?_
        refine wl_call rfl (C_r8Next _ (by rfl) f64.to_Rd rfl (by omega) hd hnx) ?_
        rintro v81 w81 ⟨rfl, b81⟩
        have s81 := b81.size
        replace hw := hw.trans (b81.mono hw.size)
        replace f64 := f64.u b81
        replace f19 := f19.u b81
        replace f6 := f6.u b81
        replace f2 := f2.u b81
        replace f4 := f4.u b81
        replace f66_1 := f66_1.u b81
        replace f66 := f66.u b81
        replace f := f.u b81
        refine wl_allocB Tryz.underlying64 Tryz.zeroValue64 (by rfl) ?_
        rintro g15 w15 f15 b15 i15 i15_1
        have s15 := b15.size
        replace hw := hw.trans (b15.mono hw.size)
        replace f := f.u b15
        replace f66 := f66.u b15
        replace f66_1 := f66_1.u b15
        replace f4 := f4.u b15
        replace f2 := f2.u b15
        replace f6 := f6.u b15
        replace f19 := f19.u b15
        replace f64 := f64.u b15
        refine wl_stBa Tryz.sizeOf64 rfl f15 rfl hnl (by rfl) ?_
        rintro w_2 f_1 g_1 e_1
        have s_1 := g_1.size
        replace hw := hw.trans (below_of_grownBy g_1.g hw.size (by omega))
        replace f64 := f64.k g_1.g (ap_some (by omega))
        replace f19 := f19.k g_1.g (ap_some (by omega))
        replace f6 := f6.k g_1.g (ap_some (by omega))
        replace f2 := f2.k g_1.g (ap_some (by omega))
        replace f4 := f4.k g_1.g (ap_some (by omega))
        replace f66_1 := f66_1.y g_1 (by decide)
        replace f66 := f66.k g_1.g (ap_some (by omega))
        replace f := f.k g_1.g (ap_some (by omega))
        clear f15
        refine wl_nil (rk_seq (rk_seq ?_))
        refine rk_draw (id := 19) (none) [0, 1, 0, 4, 10] [0, 1, 0, 4, 15] 0 0 [(.p, 0), (.r, 1), (.p, 2), (.r, 3), (.p, 4)] (by kernel_rfl) (by kernel_rfl) (by kernel_rfl) (by kernel_rfl) (by kernel_rfl) ?_
        replace hw := hw.drew
        replace f := f.d
        replace f66 := f66.d
        replace f66_1 := f66_1.d
        replace f4 := f4.d
        replace f2 := f2.d
        replace f6 := f6.d
        replace f19 := f19.d
        replace f64 := f64.d
        replace f_1 := f_1.d
        refine zp (o_slArrHi (8) Tryz.underlying64 Tryz.sizeOf5 rfl rfl (by omega) (by omega)) ?_
        have hr8 := rd_pre f_1 8
        have h88 : (nx.take 8).length = 8 := by rw [List.length_take]; omega
        refine wl_r (o_strU Tryz.underlying35 Tryz.underlying5 Tryz.underlying9 rfl hr8 (Below.refl _ _) (by omega)) ?_
        refine zm rfl ?_
        refine wl_r (o_strU Tryz.underlying35 Tryz.underlying5 Tryz.underlying9 rfl f66.to_Rd (Below.refl _ _) rfl) ?_
        refine zp (o_sne rfl rfl) ?_
        refine wl_nild ?_
        rw [decide_eq_false (fun h => h hq)]
        obtain ⟨B, cap, A2, c2, l3, hBf, hr', q1, q2, ho, q3⟩ := f66_1
        simp only at hBf
        clear ho hr' q1 q2 q3
        refine rk_false rfl ?_
        refine rk_skip (rk_seq ?_)
        refine rk_draw (id := 21) (some g4) [0, 0, 2, 0, 8, 16, 32, 64, 132, 0, 1, 1535, 4095, 8191] [0, 0, 2, 0, 8, 24, 56, 120, 254, 0, 1, 1535, 4095, 8191] 5120 1024 [(.r, 0), (.p, 1), (.p, 2), (.p, 3), (.p, 4), (.p, 5), (.s, 6), (.p, 7), (.p, 8), (.s, 9), (.c, 10), (.p, 11), (.l, 12), (.p, 13)] (by kernel_rfl) (by kernel_rfl) (by kernel_rfl) (by kernel_rfl) (by kernel_rfl) ?_
        replace hw := hw.drew
        replace hBf := hBf.d
        replace hr8 := hr8.d
        replace f_1 := f_1.d
        replace f64 := f64.d
        replace f19 := f19.d
        replace f6 := f6.d
        replace f2 := f2.d
        replace f4 := f4.d
        replace f66 := f66.d
        replace f := f.d
        refine wl_r (o_loadag Tryz.isAgg37 Tryz.sizeOf37 rfl f (by rfl)) ?_
        refine zm rfl ?_
        refine zp (o_len (t := 35) Tryz.underlying35 rfl) ?_
        refine zm rfl ?_
        refine zp (o_nil rfl) ?_
        refine zp (o_faddr (s := 155) (i := 0) (off := 0) Tryz.underlying155 rfl Tryz.sizeOf35 rfl rfl rfl) ?_
        refine wl_s (fun _ hk => (o_loadbg Tryz.isAgg35 rfl (hBf.k hk (ap_some (by omega))) (by rfl))) ?_
        refine zp (o_len (t := 35) Tryz.underlying35 rfl) ?_
        refine zp (o_sub rfl rfl (by omega) (by omega)) ?_
        refine wl_s (fun _ hk => (o_ldBa Tryz.isAgg64 Tryz.sizeOf64 rfl (f_1.k hk (ap_some (by omega))) hnl)) ?_
        refine wl_storega Tryz.sizeOf37 rfl rfl (by rfl) (oneCell_of (by rfl)) f4 (by rfl) ?_ (hq := .inr rfl)
        rintro w_3 f_2 g_2 e_2
        simp only [drew_size] at e_2
        have s_2 := g_2.size
        simp only [drew_size] at s_2
        replace hw := hw.trans (below_of_grownBy g_2.g hw.size (by omega))
        replace f := f.k g_2.g (ap_some (by omega))
        replace f66 := f66.k g_2.g (ap_some (by omega))
        replace f2 := f2.k g_2.g (ap_some (by omega))
        replace f6 := f6.k g_2.g (ap_some (by omega))
        replace f19 := f19.k g_2.g (ap_some (by omega))
        replace f64 := f64.k g_2.g (ap_some (by omega))
        replace f_1 := f_1.k g_2.g (ap_some (by omega))
        replace hBf := hBf.k g_2.g (ap_some (by omega))
        clear f4
        clear hr8
        refine za rfl ?_
        refine wl_stBa Tryz.sizeOf64 rfl f6 rfl hnl (by rfl) ?_
        rintro w_4 f_3 g_3 e_3
        have s_3 := g_3.size
        replace hw := hw.trans (below_of_grownBy g_3.g hw.size (by omega))
        replace hBf := hBf.k g_3.g (ap_some (by omega))
        replace f_1 := f_1.k g_3.g (ap_some (by omega))
        replace f64 := f64.k g_3.g (ap_some (by omega))
        replace f19 := f19.k g_3.g (ap_some (by omega))
        replace f2 := f2.k g_3.g (ap_some (by omega))
        replace f66 := f66.k g_3.g (ap_some (by omega))
        replace f := f.k g_3.g (ap_some (by omega))
        replace f_2 := f_2.k g_3.g (ap_some (by omega))
        clear f6
        refine za rfl ?_
        refine wl_nild ?_
        refine ret_any (vs := [.agg #[.int .u8 (y.toNat : Int), .slice A64 dt.length c64], .int .i64 (((y :: q).length : Int) - ((l2.drop 8).length : Int)), .agg (B8 nx).toArray, .int .i64 0]) rfl (.cell rfl Tryz.isAgg37 Tryz.sizeOf37 f_2 rfl (.tmp rfl (.cell rfl Tryz.isAgg64 Tryz.sizeOf64 f_3 (by rw [B8_length, hnl]) (.tmp rfl .nil)))) (by simp) ?_
        exact ⟨A64, c64, by rw [show (((y :: q).length : Int) - ((l2.drop 8).length : Int)) = (((y :: q).length - l1.length + v + 8 : Nat) : Int) by omega]; rfl, f64.top.base (by omega) (Nat.le_refl _), hw⟩
       ·rw [if_neg hq] at hr
        simp only [Prod.mk.injEq] at hr
        obtain ⟨⟨rfl, rfl⟩, rfl, rfl, rfl⟩ := hr
        refine callsR Tryz.func93 rfl rfl (by kernel_rfl) rfl ?_
        have hw := Below.refl w.heap.size w
        refine zs ?_
        refine wl_boxg _ rfl (by rfl) ?_
        rintro g2 w2 f2 b2 i2 i2_1
        have s2 := b2.size
        replace hw := hw.trans (b2.mono hw.size)
        refine wl_allocg [_, _] Tryz.zeroValue37 (by rfl) ?_
        rintro g4 w4 f4 b4 i4 i4_1
        have s4 := b4.size
        replace hw := hw.trans (b4.mono hw.size)
        replace f2 := f2.u b4
        refine za rfl ?_
        refine wl_allocB Tryz.underlying64 Tryz.zeroValue64 (by rfl) ?_
        rintro g6 w6 f6 b6 i6 i6_1
        have s6 := b6.size
        replace hw := hw.trans (b6.mono hw.size)
        replace f2 := f2.u b6
        replace f4 := f4.u b6
        refine za rfl (wl_nil (zs (za rfl (wl_nil (zs (zm rfl ?_))))))
        refine wl_call rfl (C_xfRead _ (hb.u hw) rfl (by omega)) ?_
        rintro v17 w17 ⟨g17, ⟨rfl, ⟨i17, ⟨i17_1, ⟨f17, b17⟩⟩⟩⟩⟩
        have s17 := b17.size
        replace hw := hw.trans (b17.mono hw.size)
        replace f4 := f4.u b17
        replace f2 := f2.u b17
        replace f6 := f6.u b17
        refine za rfl (wl_nil (zs (zm rfl ?_)))
        refine wl_call rfl (C_xfTake _ f17 t1 (by omega)) ?_
        rintro v19 w19 ⟨A19, ⟨c19, ⟨rfl, ⟨f19, ⟨f19_1, ⟨g19, g19_1⟩⟩⟩⟩⟩⟩
        have qf19 := f19.cap
        have s19 := g19.size
        replace hw := hw.trans (below_of_grownBy g19.g hw.size (by omega))
        replace f6 := f6.k g19.g (ap_some (by omega))
        replace f2 := f2.k g19.g (ap_some (by omega))
        replace f4 := f4.k g19.g (ap_some (by omega))
        clear f17
        refine za rfl (wl_nil (rk_seq (zs (zm rfl ?_))))
        refine zp (o_nil rfl) ?_
        refine zp (o_faddr (s := 155) (i := 1) (off := 1) Tryz.underlying155 rfl Tryz.sizeOf27 rfl rfl rfl) ?_
        refine wl_r (o_ldRfE rfl f19_1) ?_
        refine zp (o_eq rfl rfl) ?_
        refine zm rfl (zm rfl ?_)
        refine wl_know 25 true rfl (decide_eq_true (by omega)) ?_
        have hA := (RowH.rd f19).some_ (show 0 < 1 by decide) (by simp)
        refine zp (o_iaddrA1 0 Tryz.underlying35 Tryz.sizeOf5 rfl rfl rfl hA (by simp)) ?_
        refine wl_r (o_loadB (j := 0) Tryz.isAgg5 rfl f19.to_Rd (by simp)) ?_
        simp only [List.getElem_cons_zero]
        refine zp (o_eq rfl rfl) ?_
        refine zp (o_pick_t rfl rfl) ?_
        refine wl_nil ?_
        refine rk_if rfl (fun h30 => absurd h30 (by omega)) (fun h30 => ?_)
        refine rk_skip (zs (zm rfl ?_))
        refine wl_call rfl (C_xfNumber _ f19_1 t2) ?_
        rintro v34 w34 ⟨rfl, ⟨f34, ⟨g34, g34_1⟩⟩⟩
        have s34 := g34.size
        replace hw := hw.trans (below_of_grownBy g34.g hw.size (by omega))
        replace f4 := f4.k g34.g (ap_some (by omega))
        replace f2 := f2.k g34.g (ap_some (by omega))
        replace f6 := f6.k g34.g (ap_some (by omega))
        replace f19 := f19.k g34.g (ap_some (by omega))
        clear f19_1
        refine za rfl (wl_nil (rk_seq (zs (zm rfl ?_))))
        refine zp (o_nil rfl) ?_
        refine zp (o_faddr (s := 155) (i := 1) (off := 1) Tryz.underlying155 rfl Tryz.sizeOf27 rfl rfl rfl) ?_
        refine wl_r (o_ldRfE rfl f34) ?_
        refine zp (o_eq rfl rfl) ?_
        refine zm rfl (zm rfl ?_)
        refine zp (o_gt rfl rfl) ?_
        refine zp (o_pick_t rfl rfl) ?_
        refine wl_nil ?_
        refine rk_if rfl (fun h43 => absurd h43 (by omega)) (fun h43 => ?_)
        refine rk_skip (rk_seq (zs (zm rfl ?_)))
        refine zp (o_nil rfl) ?_
        refine zp (o_faddr (s := 155) (i := 1) (off := 1) Tryz.underlying155 rfl Tryz.sizeOf27 rfl rfl rfl) ?_
        refine wl_r (o_ldRfE rfl f34) ?_
        refine zp (o_eq rfl rfl) ?_
        refine wl_nil ?_
        refine rk_false rfl ?_
        refine rk_skip (rk_seq (zs (zm rfl ?_)))
        refine zp (o_nil rfl) ?_
        refine zp (o_faddr (s := 155) (i := 1) (off := 1) Tryz.underlying155 rfl Tryz.sizeOf27 rfl rfl rfl) ?_
        refine wl_r (o_ldRfE rfl f34) ?_
        refine zp (o_ne rfl rfl) ?_
        refine zm rfl (zm rfl ?_)
        refine zp (o_eq rfl rfl) ?_
        refine zp (o_pick_f rfl rfl) ?_
        refine wl_nil ?_
        refine rk_false rfl ?_
        refine rk_skip (zs (zm rfl (zm rfl ?_)))
        refine zp (o_convi64 (src := 52) (dst := 3) Tryz.underlying52 Tryz.underlying3 rfl (by omega) (by omega)) ?_
        refine wl_call rfl (C_xfTake _ f34 t3 (by omega)) ?_
        rintro v64 w64 ⟨A64, ⟨c64, ⟨rfl, ⟨f64, ⟨f64_1, ⟨g64, g64_1⟩⟩⟩⟩⟩⟩
        have qf64 := f64.cap
        have s64 := g64.size
        replace hw := hw.trans (below_of_grownBy g64.g hw.size (by omega))
        replace f19 := f19.k g64.g (ap_some (by omega))
        replace f6 := f6.k g64.g (ap_some (by omega))
        replace f2 := f2.k g64.g (ap_some (by omega))
        replace f4 := f4.k g64.g (ap_some (by omega))
        clear f34
        refine za rfl (wl_nil (zs (zm rfl ?_)))
        refine wl_call rfl (C_xfTake _ f64_1 t4 (by omega)) ?_
        rintro v66 w66 ⟨A66, ⟨c66, ⟨rfl, ⟨f66, ⟨f66_1, ⟨g66, g66_1⟩⟩⟩⟩⟩⟩
        have qf66 := f66.cap
        have s66 := g66.size
        replace hw := hw.trans (below_of_grownBy g66.g hw.size (by omega))
        replace f4 := f4.k g66.g (ap_some (by omega))
        replace f2 := f2.k g66.g (ap_some (by omega))
        replace f6 := f6.k g66.g (ap_some (by omega))
        replace f19 := f19.k g66.g (ap_some (by omega))
        replace f64 := f64.k g66.g (ap_some (by omega))
        clear f64_1
        refine za rfl (wl_nil (rk_seq (zs (zm rfl ?_))))
        refine zp (o_nil rfl) ?_
        refine zp (o_faddr (s := 155) (i := 1) (off := 1) Tryz.underlying155 rfl Tryz.sizeOf27 rfl rfl rfl) ?_
        refine wl_r (o_ldRfE rfl f66_1) ?_
        refine zp (o_ne rfl rfl) ?_
        refine wl_nil ?_
        refine rk_false rfl ?_
        refine rk_skip (zs (zm rfl ?_))
        refine zp (o_iaddrA1 0 Tryz.underlying35 Tryz.sizeOf5 rfl rfl rfl hA (by simp)) ?_
        refine wl_r (o_loadB (j := 0) Tryz.isAgg5 rfl f19.to_Rd (by simp)) ?_
        simp only [List.getElem_cons_zero]
        refine zm rfl ?_
        refine zp (o_buildg [_, _] Tryz.underlying37 Tryz.zeroValue37 (by rfl) (by rfl) rfl (by rfl) (by rfl) (fun _ => by kernel_rfl)) ?_
        refine wl_allocg [_, _] Tryz.zeroValue37 (by rfl) ?_
        rintro g14 w14 f14 b14 i14 i14_1
        have s14 := b14.size
        replace hw := hw.trans (b14.mono hw.size)
        replace f64 := f64.u b14
        replace f19 := f19.u b14
        replace f6 := f6.u b14
        replace f2 := f2.u b14
        replace f4 := f4.u b14
        replace f66_1 := f66_1.u b14
        replace f66 := f66.u b14
        refine wl_storega Tryz.sizeOf37 rfl rfl (by rfl) (oneCell_of (by rfl)) f14 (by rfl) ?_
        rintro w_1 f g e
        have s := g.size
        replace hw := hw.trans (below_of_grownBy g.g hw.size (by omega))
        replace f66 := f66.k g.g (ap_some (by omega))
        replace f66_1 := f66_1.y g (by decide)
        replace f4 := f4.k g.g (ap_some (by omega))
        replace f2 := f2.k g.g (ap_some (by omega))
        replace f6 := f6.k g.g (ap_some (by omega))
        replace f19 := f19.k g.g (ap_some (by omega))
        replace f64 := f64.k g.g (ap_some (by omega))
        clear f14
        refine wl_nil (zs ?_)
        refine wl_r (o_ldBa Tryz.isAgg64 Tryz.sizeOf64 rfl f2 hd) ?_
        refine wl_r (o_loadag Tryz.isAgg37 Tryz.sizeOf37 rfl f (by rfl)) ?_
        refine wl_call rfl (C_r8Next _ (by rfl) f64.to_Rd rfl (by omega) hd hnx) ?_
        rintro v81 w81 ⟨rfl, b81⟩
        have s81 := b81.size
        replace hw := hw.trans (b81.mono hw.size)
        replace f64 := f64.u b81
        replace f19 := f19.u b81
        replace f6 := f6.u b81
        replace f2 := f2.u b81
        replace f4 := f4.u b81
        replace f66_1 := f66_1.u b81
        replace f66 := f66.u b81
        replace f := f.u b81
        refine wl_allocB Tryz.underlying64 Tryz.zeroValue64 (by rfl) ?_
        rintro g15 w15 f15 b15 i15 i15_1
        have s15 := b15.size
        replace hw := hw.trans (b15.mono hw.size)
        replace f := f.u b15
        replace f66 := f66.u b15
        replace f66_1 := f66_1.u b15
        replace f4 := f4.u b15
        replace f2 := f2.u b15
        replace f6 := f6.u b15
        replace f19 := f19.u b15
        replace f64 := f64.u b15
        refine wl_stBa Tryz.sizeOf64 rfl f15 rfl hnl (by rfl) ?_
        rintro w_2 f_1 g_1 e_1
        have s_1 := g_1.size
        replace hw := hw.trans (below_of_grownBy g_1.g hw.size (by omega))
        replace f64 := f64.k g_1.g (ap_some (by omega))
        replace f19 := f19.k g_1.g (ap_some (by omega))
        replace f6 := f6.k g_1.g (ap_some (by omega))
        replace f2 := f2.k g_1.g (ap_some (by omega))
        replace f4 := f4.k g_1.g (ap_some (by omega))
        replace f66_1 := f66_1.y g_1 (by decide)
        replace f66 := f66.k g_1.g (ap_some (by omega))
        replace f := f.k g_1.g (ap_some (by omega))
        clear f15
        refine wl_nil (rk_seq (rk_seq ?_))
        refine rk_draw (id := 19) (none) [0, 1, 0, 4, 10] [0, 1, 0, 4, 15] 0 0 [(.p, 0), (.r, 1), (.p, 2), (.r, 3), (.p, 4)] (by kernel_rfl) (by kernel_rfl) (by kernel_rfl) (by kernel_rfl) (by kernel_rfl) ?_
        replace hw := hw.drew
        replace f := f.d
        replace f66 := f66.d
        replace f66_1 := f66_1.d
        replace f4 := f4.d
        replace f2 := f2.d
        replace f6 := f6.d
        replace f19 := f19.d
        replace f64 := f64.d
        replace f_1 := f_1.d
        refine zp (o_slArrHi (8) Tryz.underlying64 Tryz.sizeOf5 rfl rfl (by omega) (by omega)) ?_
        have hr8 := rd_pre f_1 8
        have h88 : (nx.take 8).length = 8 := by rw [List.length_take]; omega
        refine wl_r (o_strU Tryz.underlying35 Tryz.underlying5 Tryz.underlying9 rfl hr8 (Below.refl _ _) (by omega)) ?_
        refine zm rfl ?_
        refine wl_r (o_strU Tryz.underlying35 Tryz.underlying5 Tryz.underlying9 rfl f66.to_Rd (Below.refl _ _) rfl) ?_
        refine zp (o_sne rfl rfl) ?_
        refine wl_nild ?_
        refine rk_if rfl (fun h86 => ?_) (fun h86 => h86.elim (by omega))
        refine zs ?_
        refine zp (o_buildg [_, _] Tryz.underlying37 Tryz.zeroValue37 (by rfl) (by rfl) rfl (by rfl) (by rfl) (fun _ => by kernel_rfl)) ?_
        refine zp (o_buildD0) ?_
        refine wl_storega Tryz.sizeOf37 rfl rfl (by rfl) (by decide) f4 (by rfl) ?_
        rintro w_3 f_2 g_2 e_2
        simp only [drew_size] at e_2
        have s_2 := g_2.size
        simp only [drew_size] at s_2
        replace hw := hw.trans (below_of_grownBy g_2.g hw.size (by omega))
        replace f_1 := f_1.k g_2.g (ap_some (by omega))
        replace f64 := f64.k g_2.g (ap_some (by omega))
        replace f19 := f19.k g_2.g (ap_some (by omega))
        replace f6 := f6.k g_2.g (ap_some (by omega))
        replace f2 := f2.k g_2.g (ap_some (by omega))
        replace f66_1 := f66_1.y g_2 (by decide)
        replace f66 := f66.k g_2.g (ap_some (by omega))
        replace f := f.k g_2.g (ap_some (by omega))
        clear hr8
        clear f4
        refine za rfl ?_
        refine wl_stBa Tryz.sizeOf64 rfl f6 rfl (by rfl) (by rfl) ?_
        rintro w_4 f_3 g_3 e_3
        have s_3 := g_3.size
        replace hw := hw.trans (below_of_grownBy g_3.g hw.size (by omega))
        replace f := f.k g_3.g (ap_some (by omega))
        replace f66 := f66.k g_3.g (ap_some (by omega))
        replace f66_1 := f66_1.y g_3 (by decide)
        replace f2 := f2.k g_3.g (ap_some (by omega))
        replace f19 := f19.k g_3.g (ap_some (by omega))
        replace f64 := f64.k g_3.g (ap_some (by omega))
        replace f_1 := f_1.k g_3.g (ap_some (by omega))
        replace f_2 := f_2.k g_3.g (ap_some (by omega))
        clear f6
        refine za rfl (wl_nil ?_)
        refine ret_any (vs := [.agg #[.int .u8 0, .slice none 0 0], .int .i64 0, .agg (B8 nul32).toArray, .int .i64 4]) rfl (.cell rfl Tryz.isAgg37 Tryz.sizeOf37 f_2 rfl (.tmp rfl (.cell rfl Tryz.isAgg64 Tryz.sizeOf64 f_3 rfl (.tmp rfl .nil)))) (by simp) ?_
        exact ⟨none, 0, rfl, OwnH.nil_, hw⟩
   ·rw [if_pos he1] at hr
    simp only [Prod.mk.injEq] at hr
    obtain ⟨⟨rfl, rfl⟩, rfl, rfl, rfl⟩ := hr
    have h45 : e1 = 4 ∨ e1 = 5 := by
     have := rNumber_e3 q
     rw [hN] at this
     simp only at this
     omega
    rcases h45 with rfl | rfl
    ·skip
     refine callsR Tryz.func93 rfl rfl (by kernel_rfl) rfl ?_
     have hw := Below.refl w.heap.size w
     refine zs ?_
     refine wl_boxg _ rfl (by rfl) ?_
     rintro g2 w2 f2 b2 i2 i2_1
     have s2 := b2.size
     replace hw := hw.trans (b2.mono hw.size)
     refine wl_allocg [_, _] Tryz.zeroValue37 (by rfl) ?_
     rintro g4 w4 f4 b4 i4 i4_1
     have s4 := b4.size
     replace hw := hw.trans (b4.mono hw.size)
     replace f2 := f2.u b4
     refine za rfl ?_
     refine wl_allocB Tryz.underlying64 Tryz.zeroValue64 (by rfl) ?_
     rintro g6 w6 f6 b6 i6 i6_1
     have s6 := b6.size
     replace hw := hw.trans (b6.mono hw.size)
     replace f2 := f2.u b6
     replace f4 := f4.u b6
     refine za rfl (wl_nil (zs (za rfl (wl_nil (zs (zm rfl ?_))))))
     refine wl_call rfl (C_xfRead _ (hb.u hw) rfl (by omega)) ?_
     rintro v17 w17 ⟨g17, ⟨rfl, ⟨i17, ⟨i17_1, ⟨f17, b17⟩⟩⟩⟩⟩
     have s17 := b17.size
     replace hw := hw.trans (b17.mono hw.size)
     replace f4 := f4.u b17
     replace f2 := f2.u b17
     replace f6 := f6.u b17
     refine za rfl (wl_nil (zs (zm rfl ?_)))
     refine wl_call rfl (C_xfTake _ f17 t1 (by omega)) ?_
     rintro v19 w19 ⟨A19, ⟨c19, ⟨rfl, ⟨f19, ⟨f19_1, ⟨g19, g19_1⟩⟩⟩⟩⟩⟩
     have qf19 := f19.cap
     have s19 := g19.size
     replace hw := hw.trans (below_of_grownBy g19.g hw.size (by omega))
     replace f6 := f6.k g19.g (ap_some (by omega))
     replace f2 := f2.k g19.g (ap_some (by omega))
     replace f4 := f4.k g19.g (ap_some (by omega))
     clear f17
     refine za rfl (wl_nil (rk_seq (zs (zm rfl ?_))))
     refine zp (o_nil rfl) ?_
     refine zp (o_faddr (s := 155) (i := 1) (off := 1) Tryz.underlying155 rfl Tryz.sizeOf27 rfl rfl rfl) ?_
     refine wl_r (o_ldRfE rfl f19_1) ?_
     refine zp (o_eq rfl rfl) ?_
     refine zm rfl (zm rfl ?_)
     refine wl_know 25 true rfl (decide_eq_true (by omega)) ?_
     have hA := (RowH.rd f19).some_ (show 0 < 1 by decide) (by simp)
     refine zp (o_iaddrA1 0 Tryz.underlying35 Tryz.sizeOf5 rfl rfl rfl hA (by simp)) ?_
     refine wl_r (o_loadB (j := 0) Tryz.isAgg5 rfl f19.to_Rd (by simp)) ?_
     simp only [List.getElem_cons_zero]
     refine zp (o_eq rfl rfl) ?_
     refine zp (o_pick_t rfl rfl) ?_
     refine wl_nil ?_
     refine rk_if rfl (fun h30 => absurd h30 (by omega)) (fun h30 => ?_)
     refine rk_skip (zs (zm rfl ?_))
     refine wl_call rfl (C_xfNumber _ f19_1 t2) ?_
     rintro v34 w34 ⟨rfl, ⟨f34, ⟨g34, g34_1⟩⟩⟩
     have s34 := g34.size
     replace hw := hw.trans (below_of_grownBy g34.g hw.size (by omega))
     replace f4 := f4.k g34.g (ap_some (by omega))
     replace f2 := f2.k g34.g (ap_some (by omega))
     replace f6 := f6.k g34.g (ap_some (by omega))
     replace f19 := f19.k g34.g (ap_some (by omega))
     clear f19_1
     refine za rfl (wl_nil (rk_seq (zs (zm rfl ?_))))
     refine zp (o_nil rfl) ?_
     refine zp (o_faddr (s := 155) (i := 1) (off := 1) Tryz.underlying155 rfl Tryz.sizeOf27 rfl rfl rfl) ?_
     refine wl_r (o_ldRfE rfl f34) ?_
     refine zp (o_eq rfl rfl) ?_
     refine zm rfl (wl_off (wl_off ?_))
     refine zp (o_pick_f rfl rfl) ?_
     refine wl_nil ?_
     refine rk_false rfl ?_
     refine rk_skip (rk_seq (zs (zm rfl ?_)))
     refine zp (o_nil rfl) ?_
     refine zp (o_faddr (s := 155) (i := 1) (off := 1) Tryz.underlying155 rfl Tryz.sizeOf27 rfl rfl rfl) ?_
     refine wl_r (o_ldRfE rfl f34) ?_
     refine zp (o_eq rfl rfl) ?_
     refine wl_nil ?_
     refine rk_true rfl ?_
     refine rk_region (za rfl (wl_nil (rk_seq (zs (zm rfl ?_)))))
     refine zp (o_nil rfl) ?_
     refine zp (o_faddr (s := 155) (i := 1) (off := 1) Tryz.underlying155 rfl Tryz.sizeOf27 rfl rfl rfl) ?_
     refine wl_r (o_ldRfE rfl f34) ?_
     refine zp (o_ne rfl rfl) ?_
     refine zm rfl (wl_off (wl_off ?_))
     refine zp (o_pick_t rfl rfl) ?_
     refine wl_nil ?_
     refine rk_true rfl ?_
     refine zs ?_
     refine zp (o_buildg [_, _] Tryz.underlying37 Tryz.zeroValue37 (by rfl) (by rfl) rfl (by rfl) (by rfl) (fun _ => by kernel_rfl)) ?_
     refine zp (o_buildD0) ?_
     refine zm rfl ?_
     refine wl_storega Tryz.sizeOf37 rfl rfl (by rfl) (by decide) f4 (by rfl) ?_
     rintro w_1 f g e
     have s := g.size
     replace hw := hw.trans (below_of_grownBy g.g hw.size (by omega))
     replace f19 := f19.k g.g (ap_some (by omega))
     replace f6 := f6.k g.g (ap_some (by omega))
     replace f2 := f2.k g.g (ap_some (by omega))
     replace f34 := f34.y g (by decide)
     clear f4
     refine za rfl ?_
     refine wl_stBa Tryz.sizeOf64 rfl f6 rfl (by rfl) (by rfl) ?_
     rintro w_2 f_1 g_1 e_1
     have s_1 := g_1.size
     replace hw := hw.trans (below_of_grownBy g_1.g hw.size (by omega))
     replace f34 := f34.y g_1 (by decide)
     replace f2 := f2.k g_1.g (ap_some (by omega))
     replace f19 := f19.k g_1.g (ap_some (by omega))
     replace f := f.k g_1.g (ap_some (by omega))
     clear f6
     refine za rfl (wl_nil ?_)
     refine ret_any (vs := [.agg #[.int .u8 0, .slice none 0 0], .int .i64 0, .agg (B8 nul32).toArray, .int .i64 4]) rfl (.cell rfl Tryz.isAgg37 Tryz.sizeOf37 f rfl (.tmp rfl (.cell rfl Tryz.isAgg64 Tryz.sizeOf64 f_1 rfl (.tmp rfl .nil)))) (by simp) ?_
     exact ⟨none, 0, rfl, OwnH.nil_, hw⟩
    ·skip
     refine callsR Tryz.func93 rfl rfl (by kernel_rfl) rfl ?_
     have hw := Below.refl w.heap.size w
     refine zs ?_
     refine wl_boxg _ rfl (by rfl) ?_
     rintro g2 w2 f2 b2 i2 i2_1
     have s2 := b2.size
     replace hw := hw.trans (b2.mono hw.size)
     refine wl_allocg [_, _] Tryz.zeroValue37 (by rfl) ?_
     rintro g4 w4 f4 b4 i4 i4_1
     have s4 := b4.size
     replace hw := hw.trans (b4.mono hw.size)
     replace f2 := f2.u b4
     refine za rfl ?_
     refine wl_allocB Tryz.underlying64 Tryz.zeroValue64 (by rfl) ?_
     rintro g6 w6 f6 b6 i6 i6_1
     have s6 := b6.size
     replace hw := hw.trans (b6.mono hw.size)
     replace f2 := f2.u b6
     replace f4 := f4.u b6
     refine za rfl (wl_nil (zs (za rfl (wl_nil (zs (zm rfl ?_))))))
     refine wl_call rfl (C_xfRead _ (hb.u hw) rfl (by omega)) ?_
     rintro v17 w17 ⟨g17, ⟨rfl, ⟨i17, ⟨i17_1, ⟨f17, b17⟩⟩⟩⟩⟩
     have s17 := b17.size
     replace hw := hw.trans (b17.mono hw.size)
     replace f4 := f4.u b17
     replace f2 := f2.u b17
     replace f6 := f6.u b17
     refine za rfl (wl_nil (zs (zm rfl ?_)))
     refine wl_call rfl (C_xfTake _ f17 t1 (by omega)) ?_
     rintro v19 w19 ⟨A19, ⟨c19, ⟨rfl, ⟨f19, ⟨f19_1, ⟨g19, g19_1⟩⟩⟩⟩⟩⟩
     have qf19 := f19.cap
     have s19 := g19.size
     replace hw := hw.trans (below_of_grownBy g19.g hw.size (by omega))
     replace f6 := f6.k g19.g (ap_some (by omega))
     replace f2 := f2.k g19.g (ap_some (by omega))
     replace f4 := f4.k g19.g (ap_some (by omega))
     clear f17
     refine za rfl (wl_nil (rk_seq (zs (zm rfl ?_))))
     refine zp (o_nil rfl) ?_
     refine zp (o_faddr (s := 155) (i := 1) (off := 1) Tryz.underlying155 rfl Tryz.sizeOf27 rfl rfl rfl) ?_
     refine wl_r (o_ldRfE rfl f19_1) ?_
     refine zp (o_eq rfl rfl) ?_
     refine zm rfl (zm rfl ?_)
     refine wl_know 25 true rfl (decide_eq_true (by omega)) ?_
     have hA := (RowH.rd f19).some_ (show 0 < 1 by decide) (by simp)
     refine zp (o_iaddrA1 0 Tryz.underlying35 Tryz.sizeOf5 rfl rfl rfl hA (by simp)) ?_
     refine wl_r (o_loadB (j := 0) Tryz.isAgg5 rfl f19.to_Rd (by simp)) ?_
     simp only [List.getElem_cons_zero]
     refine zp (o_eq rfl rfl) ?_
     refine zp (o_pick_t rfl rfl) ?_
     refine wl_nil ?_
     refine rk_if rfl (fun h30 => absurd h30 (by omega)) (fun h30 => ?_)
     refine rk_skip (zs (zm rfl ?_))
     refine wl_call rfl (C_xfNumber _ f19_1 t2) ?_
     rintro v34 w34 ⟨rfl, ⟨f34, ⟨g34, g34_1⟩⟩⟩
     have s34 := g34.size
     replace hw := hw.trans (below_of_grownBy g34.g hw.size (by omega))
     replace f4 := f4.k g34.g (ap_some (by omega))
     replace f2 := f2.k g34.g (ap_some (by omega))
     replace f6 := f6.k g34.g (ap_some (by omega))
     replace f19 := f19.k g34.g (ap_some (by omega))
     clear f19_1
     refine za rfl (wl_nil (rk_seq (zs (zm rfl ?_))))
     refine zp (o_nil rfl) ?_
     refine zp (o_faddr (s := 155) (i := 1) (off := 1) Tryz.underlying155 rfl Tryz.sizeOf27 rfl rfl rfl) ?_
     refine wl_r (o_ldRfE rfl f34) ?_
     refine zp (o_eq rfl rfl) ?_
     refine zm rfl (wl_off (wl_off ?_))
     refine zp (o_pick_f rfl rfl) ?_
     refine wl_nil ?_
     refine rk_false rfl ?_
     refine rk_skip (rk_seq (zs (zm rfl ?_)))
     refine zp (o_nil rfl) ?_
     refine zp (o_faddr (s := 155) (i := 1) (off := 1) Tryz.underlying155 rfl Tryz.sizeOf27 rfl rfl rfl) ?_
     refine wl_r (o_ldRfE rfl f34) ?_
     refine zp (o_eq rfl rfl) ?_
     refine wl_nil ?_
     refine rk_false rfl ?_
     refine rk_skip (rk_seq (zs (zm rfl ?_)))
     refine zp (o_nil rfl) ?_
     refine zp (o_faddr (s := 155) (i := 1) (off := 1) Tryz.underlying155 rfl Tryz.sizeOf27 rfl rfl rfl) ?_
     refine wl_r (o_ldRfE rfl f34) ?_
     refine zp (o_ne rfl rfl) ?_
     refine zm rfl (wl_off (wl_off ?_))
     refine zp (o_pick_t rfl rfl) ?_
     refine wl_nil ?_
     refine rk_true rfl ?_
     refine zs ?_
     refine zp (o_buildg [_, _] Tryz.underlying37 Tryz.zeroValue37 (by rfl) (by rfl) rfl (by rfl) (by rfl) (fun _ => by kernel_rfl)) ?_
     refine zp (o_buildD0) ?_
     refine zm rfl ?_
     refine wl_storega Tryz.sizeOf37 rfl rfl (by rfl) (by decide) f4 (by rfl) ?_
     rintro w_1 f g e
     have s := g.size
     replace hw := hw.trans (below_of_grownBy g.g hw.size (by omega))
     replace f19 := f19.k g.g (ap_some (by omega))
     replace f6 := f6.k g.g (ap_some (by omega))
     replace f2 := f2.k g.g (ap_some (by omega))
     replace f34 := f34.y g (by decide)
     clear f4
     refine za rfl ?_
     refine wl_stBa Tryz.sizeOf64 rfl f6 rfl (by rfl) (by rfl) ?_
     rintro w_2 f_1 g_1 e_1
     have s_1 := g_1.size
     replace hw := hw.trans (below_of_grownBy g_1.g hw.size (by omega))
     replace f34 := f34.y g_1 (by decide)
     replace f2 := f2.k g_1.g (ap_some (by omega))
     replace f19 := f19.k g_1.g (ap_some (by omega))
     replace f := f.k g_1.g (ap_some (by omega))
     clear f6
     refine za rfl (wl_nil ?_)
     refine ret_any (vs := [.agg #[.int .u8 0, .slice none 0 0], .int .i64 0, .agg (B8 nul32).toArray, .int .i64 5]) rfl (.cell rfl Tryz.isAgg37 Tryz.sizeOf37 f rfl (.tmp rfl (.cell rfl Tryz.isAgg64 Tryz.sizeOf64 f_1 rfl (.tmp rfl .nil)))) (by simp) ?_
     exact ⟨none, 0, rfl, OwnH.nil_, hw⟩
theorem C_r8ReadR {A : Option Addr} {d b : By} {r : Rc × Nat × By × Nat} {n c : Nat} (w : World) (hr : readR d b = r) (hb : Rd w A b) (hn : n = b.length) (hc : b.length ≤ c) (hd : d.length = 32) (hl : b.length ≤ 3400) :
  CallsR Tryz.prog 93 [.agg (B8 d).toArray, .slice A n c] w fun v w' => ∃ (A' : Option Addr) (c' : Nat), v = .tuple #[.agg #[.int .u8 (r.1.1.toNat : Int), .slice A' r.1.2.length c'], .int .i64 (r.2.1 : Int), .agg (B8 r.2.2.1).toArray, .int .i64 (r.2.2.2 : Int)] ∧ OwnH w' w.heap.size w'.heap.size A' c' r.1.2 ∧ Below w.heap.size w w' :=
 C_r8Read w hr hb hn hc hd hl
set_option maxRecDepth 100000 in
set_option maxHeartbeats 4000000 in
theorem C_r8All {A : Option Addr} {b d ch : By} {L : List Rc} {n nb cap : Nat} (w : World) (hr : allR d b = L) (h1 : (bytesAll d L).length = nb) (h2 : chainAll d L = ch) (hb : Rd w A b) (hn : n = b.length) (hcap : b.length ≤ cap) (hc : d.length = 32) (hl : b.length ≤ 3400) :
  CallsR Tryz.prog 72 [.agg (B8 d).toArray, .slice A n cap] w fun v w' => ∃ (A' : Option Addr) (c' : Nat), v = .tuple #[.slice A' L.length c', .int .i64 (nb : Int), .agg (B8 ch).toArray] ∧ OwnRecX (fun k => w.heap.size ≤ k) w' w.heap.size w'.heap.size A' c' L ∧ Below w.heap.size w w' := by
 subst hn
 have hA : AllP d b L := hr ▸ AllP.fun
 have hLl : L.length ≤ 3400 := by
  obtain ⟨q, e, _, _⟩ := hA
  have h3 := congrArg List.length e
  rw [List.length_append] at h3
  have := bytesAll_ge d L
  omega
 refine callsR Tryz.func72 rfl rfl (by kernel_rfl) rfl ?_
 have hw := Below.refl w.heap.size w
 refine zs ?_
 refine wl_boxg _ rfl (by rfl) ?_
 rintro g2 w2 f2 b2 i2 i2_1
 have s2 := b2.size
 replace hw := hw.trans (b2.mono hw.size)
 refine za rfl (za rfl ?_)
 refine wl_allocB Tryz.underlying64 Tryz.zeroValue64 (by rfl) ?_
 rintro g6 w6 f6 b6 i6 i6_1
 have s6 := b6.size
 replace hw := hw.trans (b6.mono hw.size)
 replace f2 := f2.u b6
 refine wl_nil (zs (za rfl (wl_nil (zs (za rfl (wl_nil (rk_block ?_)))))))
 have hg2 : w.heap.size ≤ g2 := by omega
 have hg6 : w.heap.size ≤ g6 := by omega
 have hne : g2 ≠ g6 := by omega
 refine rk_loopf (fun fb m fr W => ∃ (i : Nat) (v : Int) (A' : Option Addr) (c' at0 : Nat) (Q : List Rc) (x : By), fr = [(8, .int .i64 v), (7, .slice A' Q.length c')] ++ fb.drop 2 ∧ v = at0 ∧ i ≤ L.length ∧ m = L.length + 1 - i ∧ Q = L.take i ∧ at0 = (bytesAll d Q).length ∧ x = chainAll d Q ∧ OwnRecX (fun k => w.heap.size ≤ k) W w.heap.size W.heap.size A' c' Q ∧ Blk W g2 64 (B8 x) ∧ Blk W g6 64 (B8 (List.replicate 32 0)) ∧ Below w.heap.size w W) (n := L.length + 1) (Fr.le_of (by kernel_rfl) (by kernel_rfl) (by repeat' constructor)) ⟨0, _, none, 0, 0, [], d, rfl, rfl, by omega, rfl, rfl, rfl, rfl, OwnRecX.nil_, f2, f6, hw⟩ ?_
 clear f2 f6 hw
 rintro m fr W ⟨i, v, A', c', at0, Q, x, rfl, rfl, hi, rfl, hQ, hat, hx, fo, f2, f6, hw⟩
 have shw := hw.size
 have hpt := hA.part i
 rw [← hQ, ← hat, ← hx] at hpt
 obtain ⟨p1, p2, p3, p4⟩ := hpt
 obtain ⟨bq, hbq⟩ : ∃ q, b.drop at0 = q := ⟨_, rfl⟩
 rw [hbq] at p1
 have hbl : bq.length + at0 = b.length := by rw [← hbq, List.length_drop]; omega
 have hx32 : x.length = 32 := by rw [hx]; exact chainAll_len hc _
 have hQl : Q.length = i := by rw [hQ, List.length_take]; omega
 first | refine zf ?_ | refine zg ?_
 by_cases hil : i < L.length
 ·have hd : L.drop i = L[i] :: L.drop (i + 1) := List.drop_eq_getElem_cons hil
  rw [hd] at p1
  obtain ⟨hrd, hO⟩ := p1.head
  obtain ⟨z, hz⟩ : ∃ z, (bytesR x L[i]).length = z := ⟨_, rfl⟩
  obtain ⟨nx, hnx⟩ : ∃ y, nextB x L[i] = y := ⟨_, rfl⟩
  have hn32 : nx.length = 32 := by rw [← hnx]; exact nextB_len _ _
  rw [hz, hnx] at hrd
  have hzb : z ≤ bq.length := by
   obtain ⟨q', e', _, _⟩ := p1
   have := congrArg List.length e'
   rw [bytesAll, List.length_append, List.length_append, hz] at this; omega
  obtain ⟨rr, hrr⟩ : ∃ r, readR x bq = r := ⟨_, rfl⟩
  have hrv : (L[i], z, nx, 0) = rr := hrd.symm.trans hrr
  have hg2l := f2.lt
  have hg6l := f6.lt
  have e1 := bytesAll_succ d L hil
  have e2 := chainAll_succ d L hil
  have e3 := List.take_succ_eq_append_getElem hil
  rw [← hQ] at e1 e2 e3
  rw [← hx] at e1 e2
  refine rk_block (rk_seq ?_)
  refine rk_drawo (id := 3) (none) [0, 0, 0, 6, 9, 16, 32, 32, 32, 32, 0, 0, 3199, 7423, 15871, 32767] [0, 0, 0, 6, 15, 31, 63, 63, 63, 63, 0, 0, 3199, 7423, 15871, 32767] 23568 3072 [0, 1, 2, 3] [(.s, 0), (.p, 1), (.p, 2), (.p, 3), (.f 15 23568 3072, 12)] (by kernel_rfl) (by kernel_rfl) (by kernel_rfl) (by kernel_rfl) (by kernel_rfl) ?_
  dsimp only [inOrder, nthOp]
  replace hw := hw.drew
  replace f6 := f6.d
  replace f2 := f2.d
  replace fo := fo.d
  refine wl_s (fun _ hk => (o_ldBa Tryz.isAgg64 Tryz.sizeOf64 rfl (f2.u (below_of_grown_none hk)) hx32)) ?_
  refine zm rfl (zm rfl ?_)
  refine wl_slBl Tryz.u8 (at0) rfl rfl (hb.u hw) rfl rfl (by omega) (by omega) ?_
  rintro A17 c17 f17 i17 i17_1
  rw [hbq] at f17
  have hql : b.length - at0 = bq.length := by omega
  rw [hql] at *
  refine wl_conc [⟨4, [(.p, 5), (.p, 6), (.p, 7), (.p, 8), (.p, 9)], [22, 21, 20, 19, 13, 18], [], fun vs w' lo hi => ∃ (A18 : Option Addr) (c18 : Nat) (u13 u18 : Value), vs = [.int .i64 0, .agg (B8 nx).toArray, .int .i64 (z : Int), .agg #[.int .u8 (L[i].1.toNat : Int), .slice A18 L[i].2.length c18], u13, u18] ∧ OwnH w' lo hi A18 c18 L[i].2⟩, ⟨10, [], [9], [], fun vs w' lo hi => ∃ (g9 : Nat), vs = [.pointer (some ⟨g9, 0, none⟩)] ∧ Blk w' g9 37 [.int .u8 0, .slice none 0 0] ∧ lo ≤ g9 ∧ g9 < hi⟩, ⟨11, [], [11], [], fun vs w' lo hi => ∃ (g11 : Nat), vs = [.pointer (some ⟨g11, 0, none⟩)] ∧ Blk w' g11 64 (B8 nul32) ∧ lo ≤ g11 ∧ g11 < hi⟩] [0, 1, 2] [0, 0, 0, 6, 9, 16, 32, 32, 32, 32, 0, 0, 3199, 7423, 15871, 32767] [0, 0, 0, 6, 15, 31, 63, 63, 63, 63, 0, 0, 3199, 7423, 15871, 32767] [12, 13, 14, 15] [(.l, 12), (.p, 13), (.l, 14), (.p, 15)] (by kernel_rfl) (by kernel_rfl) (by kernel_rfl) (by kernel_rfl) ⟨fun _ _ _ _ _ h hb => by obtain ⟨A18, c18, u13, u18, e0, g0⟩ := h; exact ⟨A18, c18, u13, u18, e0, g0.u hb⟩, fun _ _ _ _ _ h hb => by obtain ⟨g9, e0, g0, g1, g2⟩ := h; exact ⟨g9, e0, g0.u hb, g1, g2⟩, fun _ _ _ _ _ h hb => by obtain ⟨g11, e0, g0, g1, g2⟩ := h; exact ⟨g11, e0, g0.u hb, g1, g2⟩, trivial⟩ ⟨?_, ?_, ?_, trivial⟩ ?_
  ·intro wI hbI fo T T2 n2
   intro hk
   dsimp only [Item.idx, inOrder, nthOp, List.map, List.zip_cons_cons, List.zip_nil_right, List.cons_append, List.nil_append]
   have shbI := hbI.size
   simp only [drew_size] at shbI
   replace hw := hw.trans (hbI.mono hw.size)
   replace f17 := f17.u hbI
   replace f2 := f2.u hbI
   replace f6 := f6.u hbI
   have hw1 := Below.refl wI.heap.size wI
   refine wl_call rfl (C_r8ReadR _ hrd f17 rfl (by omega) hx32 (by omega)) ?_
   rintro v18 w18 ⟨A18, ⟨c18, ⟨rfl, ⟨f18, b18⟩⟩⟩⟩
   dsimp only at f18
   dsimp only
   have qf18 := f18.cap
   have s18 := b18.size
   replace hw := hw.trans (b18.mono hw.size)
   replace hw1 := hw1.trans (b18.mono hw1.size)
   replace f6 := f6.u b18
   replace f2 := f2.u b18
   replace f17 := f17.u b18
   refine zm rfl ?_
   refine zp (o_ext40 rfl) ?_
   refine zp (o_ext41 rfl) ?_
   refine zp (o_ext42 rfl) ?_
   refine zp (o_ext43 rfl) ?_
   subst hrv
   exact hk [_, _, _, _, _, _] _ ⟨_, _, _, _, rfl, f18⟩ hw1
  ·intro wI hbI fo T T2 n2
   intro hk
   dsimp only [Item.idx, inOrder, nthOp, List.map, List.zip_cons_cons, List.zip_nil_right, List.cons_append, List.nil_append]
   have shbI := hbI.size
   simp only [drew_size] at shbI
   replace hw := hw.trans (hbI.mono hw.size)
   replace f17 := f17.u hbI
   replace f2 := f2.u hbI
   replace f6 := f6.u hbI
   have hw1 := Below.refl wI.heap.size wI
   refine wl_allocg [_, _] Tryz.zeroValue37 (by rfl) ?_
   rintro g9 w9 f9 b9 i9 i9_1
   have s9 := b9.size
   replace hw := hw.trans (b9.mono hw.size)
   replace hw1 := hw1.trans (b9.mono hw1.size)
   replace f6 := f6.u b9
   replace f2 := f2.u b9
   replace f17 := f17.u b9
   exact hk [_] _ ⟨_, rfl, f9, by omega, by omega⟩ hw1
  ·intro wI hbI fo T T2 n2
   intro hk
   dsimp only [Item.idx, inOrder, nthOp, List.map, List.zip_cons_cons, List.zip_nil_right, List.cons_append, List.nil_append]
   have shbI := hbI.size
   simp only [drew_size] at shbI
   replace hw := hw.trans (hbI.mono hw.size)
   replace f17 := f17.u hbI
   replace f2 := f2.u hbI
   replace f6 := f6.u hbI
   have hw1 := Below.refl wI.heap.size wI
   refine wl_allocB Tryz.underlying64 Tryz.zeroValue64 (by rfl) ?_
   rintro g11 w11 f11 b11 i11 i11_1
   have s11 := b11.size
   replace hw := hw.trans (b11.mono hw.size)
   replace hw1 := hw1.trans (b11.mono hw1.size)
   replace f6 := f6.u b11
   replace f2 := f2.u b11
   replace f17 := f17.u b11
   exact hk [_] _ ⟨_, rfl, f11, by omega, by omega⟩ hw1
  intro wE hbE
  rintro _ lo0 hi0 ⟨A18, c18, u13, u18, rfl, f18⟩ ql0 qm0 qh0 -
  rintro _ lo1 hi1 ⟨g9, rfl, f9, f9_1, f9_2⟩ ql1 qm1 qh1 ⟨qa1_0, -⟩
  rintro _ lo2 hi2 ⟨g11, rfl, f11, f11_1, f11_2⟩ ql2 qm2 qh2 ⟨qa2_1, qa2_0, -⟩
  try dsimp only at ql0 qm0 qh0  ql1 qm1 qh1 qa1_0 ql2 qm2 qh2 qa2_0 qa2_1
  try simp only [drew_size] at ql0 qm0 qh0  ql1 qm1 qh1 qa1_0 ql2 qm2 qh2 qa2_0 qa2_1
  dsimp only [given, Item.idx, inOrder, nthOp, List.map, List.zip_cons_cons, List.zip_nil_right]
  have shbE := hbE.size
  simp only [drew_size] at shbE
  replace hw := hw.trans (hbE.mono hw.size)
  replace f17 := f17.u hbE
  replace fo := fo.u hbE
  replace f2 := f2.u hbE
  replace f6 := f6.u hbE
  have hcE : Chg lo0 hi0 wE wE := Chg.refl
  refine wl_storega Tryz.sizeOf37 rfl rfl (by rfl) (oneCell_of (by rfl)) f9 (by rfl) ?_
  rintro w_1 f g e
  have s := g.size
  replace hw := hw.trans (below_of_grownBy g.g hw.size (by omega))
  replace f6 := f6.k g.g (ap_some (by omega))
  replace f2 := f2.k g.g (ap_some (by omega))
  replace fo := fo.q g (ap_some (by omega)) (by decide)
  replace f11 := f11.k g.g (ap_some (by omega))
  replace f18 := f18.k g.g (ap_some (by omega))
  clear f17
  clear f9
  refine za rfl ?_
  refine wl_stBa Tryz.sizeOf64 rfl f11 rfl hn32 (by rfl) ?_
  rintro w_2 f_1 g_1 e_1
  have s_1 := g_1.size
  replace hw := hw.trans (below_of_grownBy g_1.g hw.size (by omega))
  replace f18 := f18.k g_1.g (ap_some (by omega))
  replace fo := fo.y g_1 (by decide)
  replace f2 := f2.k g_1.g (ap_some (by omega))
  replace f6 := f6.k g_1.g (ap_some (by omega))
  replace f := f.k g_1.g (ap_some (by omega))
  clear f11
  refine za rfl ?_
  refine wl_nild ?_
  refine rk_seq (zs (zm rfl ?_))
  refine zp (o_ne rfl rfl) ?_
  refine wl_nil ?_
  refine rk_false rfl ?_
  refine rk_skip ?_
  have hX18 : ∀ k, blk A18 = some k → w.heap.size ≤ k := fun k hk => by have := (RowH.lt f18 k hk).1; omega
  refine rk_drawo (id := 6) ((blk A')) [0, 0, 2, 5, 0, 0, 48, 0, 15, 383, 1023] [0, 0, 2, 7, 0, 0, 48, 0, 15, 383, 1023] 1036 12 [0, 1, 4, 5, 6, 7, 2, 3, 8, 9, 10] [(.p, 0), (.r, 1), (.p, 4), (.p, 5), (.p, 6), (.s, 7), (.c, 2), (.c, 3), (.p, 8), (.p, 9), (.l, 10)] (by kernel_rfl) (by kernel_rfl) (by kernel_rfl) (by kernel_rfl) (by kernel_rfl) ?_; dsimp only [inOrder, nthOp]
  replace fo := fo.d
  replace f := f.d
  replace f_1 := f_1.d
  replace f18 := f18.d
  replace f2 := f2.d
  replace f6 := f6.d
  replace hw := hw.drew
  refine zm rfl ?_
  refine wl_r (o_loadag Tryz.isAgg37 Tryz.sizeOf37 rfl f (by rfl)) ?_
  refine zm rfl (zm rfl ?_)
  refine zp (o_add rfl rfl (by omega) (by omega)) ?_
  refine wl_s (fun _ hk => (o_ldBa Tryz.isAgg64 Tryz.sizeOf64 rfl (f_1.k hk (fo.ap (by omega))) hn32)) ?_
  refine wl_litRecX (by rfl) rfl (by omega) f18.to_RdT rfl f18.cap (own_max' (by assumption)) (by rfl) ?_
  rintro A30 w30 f30 b30
  simp only [drew_size] at f30
  simp only [drew_size] at b30
  have qf30 := f30.cap
  have s30 := b30.size
  simp only [drew_size] at s30
  replace hw := hw.trans (b30.mono hw.size)
  replace f6 := f6.u b30
  replace f2 := f2.u b30
  replace f18 := f18.u b30
  replace f_1 := f_1.u b30
  replace f := f.u b30
  replace fo := fo.u b30
  refine wl_appRecX rfl fo rfl rfl f30.to_RRecXT (by rfl) (by omega) hw.size ?_ (hq := .inr (.inr rfl))
  rintro A31 c31 w31 f31 g31 b31
  have qf31 := f31.cap
  have s31 := g31.size
  replace hw := hw.trans (b31.mono (by omega))
  replace f := f.k g31.g (fo.ap (by omega))
  replace f_1 := f_1.y g31 (by decide)
  replace f18 := f18.y g31 (by decide)
  replace f2 := f2.y g31 (by decide)
  replace f6 := f6.y g31 (by decide)
  replace f30 := f30.q g31 (fo.ap (by omega)) (by decide)
  clear fo
  refine za rfl (za rfl ?_)
  refine wl_stBa Tryz.sizeOf64 rfl f2 rfl hn32 hx32 ?_
  rintro w_3 f_2 g_2 e_2
  have s_2 := g_2.size
  replace hw := hw.trans (below_of_grownBy g_2.g hw.size (by omega))
  replace f30 := f30.y g_2 (by decide)
  replace f6 := f6.k g_2.g (ap_some (by omega))
  replace f18 := f18.k g_2.g (ap_some (by omega))
  replace f_1 := f_1.k g_2.g (ap_some (by omega))
  replace f := f.k g_2.g (ap_some (by omega))
  replace f31 := f31.y g_2 (by decide)
  clear f2
  refine wl_nild ?_
  refine rk_blk ?_
  rw [e3] at e1 e2
  exact rk_againf (Fr.le_of (by kernel_rfl) (by kernel_rfl) (by repeat' constructor)) ⟨i + 1, (at0 : Int) + z, A31, c31, at0 + z, Q ++ [(L[i].1, L[i].2)], nx, rfl, by omega, by omega, rfl, e3.symm, by rw [e1, List.length_append, ← hat, hz], by rw [e2, hnx], f31.base (Nat.le_refl _) (by omega), by assumption, f6, hw⟩ (by omega)
 ·obtain rfl : i = L.length := by omega
  rw [List.take_length] at hQ
  subst hQ
  rw [List.drop_length] at p1
  obtain ⟨rr, hrr⟩ : ∃ r, readR x bq = r := ⟨_, rfl⟩
  have hre : rr.2.2.2 ≠ 0 := by
   obtain ⟨q', e', _, h4⟩ := p1
   simp only [bytesAll, List.nil_append] at e'
   rw [← hrr, e']
   exact h4
  have hg2l := f2.lt
  have hg6l := f6.lt
  refine rk_block (rk_seq ?_)
  refine rk_drawo (id := 3) (none) [0, 0, 0, 6, 9, 16, 32, 32, 32, 32, 0, 0, 3199, 7423, 15871, 32767] [0, 0, 0, 6, 15, 31, 63, 63, 63, 63, 0, 0, 3199, 7423, 15871, 32767] 23568 3072 [0, 1, 2, 3] [(.s, 0), (.p, 1), (.p, 2), (.p, 3), (.f 15 23568 3072, 12)] (by kernel_rfl) (by kernel_rfl) (by kernel_rfl) (by kernel_rfl) (by kernel_rfl) ?_
  dsimp only [inOrder, nthOp]
  replace hw := hw.drew
  replace f6 := f6.d
  replace f2 := f2.d
  replace fo := fo.d
  refine wl_s (fun _ hk => (o_ldBa Tryz.isAgg64 Tryz.sizeOf64 rfl (f2.u (below_of_grown_none hk)) hx32)) ?_
  refine zm rfl (zm rfl ?_)
  refine wl_slBl Tryz.u8 (at0) rfl rfl (hb.u hw) rfl rfl (by omega) (by omega) ?_
  rintro A17 c17 f17 i17 i17_1
  rw [hbq] at f17
  have hql : b.length - at0 = bq.length := by omega
  rw [hql] at *
  refine wl_conc [⟨4, [(.p, 5), (.p, 6), (.p, 7), (.p, 8), (.p, 9)], [22, 21, 20, 19, 13, 18], [], fun vs w' lo hi => ∃ (A18 : Option Addr) (c18 : Nat) (u13 u18 : Value), vs = [.int .i64 (rr.2.2.2 : Int), .agg (B8 rr.2.2.1).toArray, .int .i64 (rr.2.1 : Int), .agg #[.int .u8 (rr.1.1.toNat : Int), .slice A18 rr.1.2.length c18], u13, u18] ∧ OwnH w' lo hi A18 c18 rr.1.2⟩, ⟨10, [], [9], [], fun vs w' lo hi => ∃ (g9 : Nat), vs = [.pointer (some ⟨g9, 0, none⟩)] ∧ Blk w' g9 37 [.int .u8 0, .slice none 0 0] ∧ lo ≤ g9 ∧ g9 < hi⟩, ⟨11, [], [11], [], fun vs w' lo hi => ∃ (g11 : Nat), vs = [.pointer (some ⟨g11, 0, none⟩)] ∧ Blk w' g11 64 (B8 nul32) ∧ lo ≤ g11 ∧ g11 < hi⟩] [0, 1, 2] [0, 0, 0, 6, 9, 16, 32, 32, 32, 32, 0, 0, 3199, 7423, 15871, 32767] [0, 0, 0, 6, 15, 31, 63, 63, 63, 63, 0, 0, 3199, 7423, 15871, 32767] [12, 13, 14, 15] [(.l, 12), (.p, 13), (.l, 14), (.p, 15)] (by kernel_rfl) (by kernel_rfl) (by kernel_rfl) (by kernel_rfl) ⟨fun _ _ _ _ _ h hb => by obtain ⟨A18, c18, u13, u18, e0, g0⟩ := h; exact ⟨A18, c18, u13, u18, e0, g0.u hb⟩, fun _ _ _ _ _ h hb => by obtain ⟨g9, e0, g0, g1, g2⟩ := h; exact ⟨g9, e0, g0.u hb, g1, g2⟩, fun _ _ _ _ _ h hb => by obtain ⟨g11, e0, g0, g1, g2⟩ := h; exact ⟨g11, e0, g0.u hb, g1, g2⟩, trivial⟩ ⟨?_, ?_, ?_, trivial⟩ ?_
  ·intro wI hbI fo T T2 n2
   intro hk
   dsimp only [Item.idx, inOrder, nthOp, List.map, List.zip_cons_cons, List.zip_nil_right, List.cons_append, List.nil_append]
   have shbI := hbI.size
   simp only [drew_size] at shbI
   replace hw := hw.trans (hbI.mono hw.size)
   replace f17 := f17.u hbI
   replace f2 := f2.u hbI
   replace f6 := f6.u hbI
   have hw1 := Below.refl wI.heap.size wI
   refine wl_call rfl (C_r8ReadR _ hrr f17 rfl (by omega) hx32 (by omega)) ?_
   rintro v18 w18 ⟨A18, ⟨c18, ⟨rfl, ⟨f18, b18⟩⟩⟩⟩
   have qf18 := f18.cap
   have s18 := b18.size
   replace hw := hw.trans (b18.mono hw.size)
   replace hw1 := hw1.trans (b18.mono hw1.size)
   replace f6 := f6.u b18
   replace f2 := f2.u b18
   replace f17 := f17.u b18
   refine zm rfl ?_
   refine zp (o_ext40 rfl) ?_
   refine zp (o_ext41 rfl) ?_
   refine zp (o_ext42 rfl) ?_
   refine zp (o_ext43 rfl) ?_
   exact hk [_, _, _, _, _, _] _ ⟨_, _, _, _, rfl, f18⟩ hw1
  ·intro wI hbI fo T T2 n2
   intro hk
   dsimp only [Item.idx, inOrder, nthOp, List.map, List.zip_cons_cons, List.zip_nil_right, List.cons_append, List.nil_append]
   have shbI := hbI.size
   simp only [drew_size] at shbI
   replace hw := hw.trans (hbI.mono hw.size)
   replace f17 := f17.u hbI
   replace f2 := f2.u hbI
   replace f6 := f6.u hbI
   have hw1 := Below.refl wI.heap.size wI
   refine wl_allocg [_, _] Tryz.zeroValue37 (by rfl) ?_
   rintro g9 w9 f9 b9 i9 i9_1
   have s9 := b9.size
   replace hw := hw.trans (b9.mono hw.size)
   replace hw1 := hw1.trans (b9.mono hw1.size)
   replace f6 := f6.u b9
   replace f2 := f2.u b9
   replace f17 := f17.u b9
   exact hk [_] _ ⟨_, rfl, f9, by omega, by omega⟩ hw1
  ·intro wI hbI fo T T2 n2
   intro hk
   dsimp only [Item.idx, inOrder, nthOp, List.map, List.zip_cons_cons, List.zip_nil_right, List.cons_append, List.nil_append]
   have shbI := hbI.size
   simp only [drew_size] at shbI
   replace hw := hw.trans (hbI.mono hw.size)
   replace f17 := f17.u hbI
   replace f2 := f2.u hbI
   replace f6 := f6.u hbI
   have hw1 := Below.refl wI.heap.size wI
   refine wl_allocB Tryz.underlying64 Tryz.zeroValue64 (by rfl) ?_
   rintro g11 w11 f11 b11 i11 i11_1
   have s11 := b11.size
   replace hw := hw.trans (b11.mono hw.size)
   replace hw1 := hw1.trans (b11.mono hw1.size)
   replace f6 := f6.u b11
   replace f2 := f2.u b11
   replace f17 := f17.u b11
   exact hk [_] _ ⟨_, rfl, f11, by omega, by omega⟩ hw1
  intro wE hbE
  rintro _ lo0 hi0 ⟨A18, c18, u13, u18, rfl, f18⟩ ql0 qm0 qh0 -
  rintro _ lo1 hi1 ⟨g9, rfl, f9, f9_1, f9_2⟩ ql1 qm1 qh1 ⟨qa1_0, -⟩
  rintro _ lo2 hi2 ⟨g11, rfl, f11, f11_1, f11_2⟩ ql2 qm2 qh2 ⟨qa2_1, qa2_0, -⟩
  try dsimp only at ql0 qm0 qh0  ql1 qm1 qh1 qa1_0 ql2 qm2 qh2 qa2_0 qa2_1
  try simp only [drew_size] at ql0 qm0 qh0  ql1 qm1 qh1 qa1_0 ql2 qm2 qh2 qa2_0 qa2_1
  dsimp only [given, Item.idx, inOrder, nthOp, List.map, List.zip_cons_cons, List.zip_nil_right]
  have shbE := hbE.size
  simp only [drew_size] at shbE
  replace hw := hw.trans (hbE.mono hw.size)
  replace f17 := f17.u hbE
  replace fo := fo.u hbE
  replace f2 := f2.u hbE
  replace f6 := f6.u hbE
  have hr32 : rr.2.2.1.length = 32 := by
   rcases readR_e x bq with h | ⟨h, _⟩
   ·rw [hrr] at h; exact absurd h hre
   ·rw [← hrr, h]; rfl
  refine wl_storega Tryz.sizeOf37 rfl rfl (by rfl) (oneCell_of (by rfl)) f9 (by rfl) ?_
  rintro w_1 f g e
  have s := g.size
  replace hw := hw.trans (below_of_grownBy g.g hw.size (by omega))
  replace f6 := f6.k g.g (ap_some (by omega))
  replace f2 := f2.k g.g (ap_some (by omega))
  replace fo := fo.q g (ap_some (by omega)) (by decide)
  replace f11 := f11.k g.g (ap_some (by omega))
  replace f18 := f18.k g.g (ap_some (by omega))
  clear f17
  clear f9
  refine za rfl ?_
  refine wl_stBa Tryz.sizeOf64 rfl f11 rfl hr32 (by rfl) ?_
  rintro w_2 f_1 g_1 e_1
  have s_1 := g_1.size
  replace hw := hw.trans (below_of_grownBy g_1.g hw.size (by omega))
  replace f18 := f18.k g_1.g (ap_some (by omega))
  replace fo := fo.y g_1 (by decide)
  replace f2 := f2.k g_1.g (ap_some (by omega))
  replace f6 := f6.k g_1.g (ap_some (by omega))
  replace f := f.k g_1.g (ap_some (by omega))
  clear f11
  refine za rfl ?_
  refine wl_nild ?_
  refine rk_seq (zs (zm rfl ?_))
  refine zp (o_ne rfl rfl) ?_
  refine wl_nil ?_
  refine rk_if rfl (fun h24 => ?_) (fun h24 => h24.elim (by omega))
  refine rk_seq ?_
  refine rk_draw (id := 5) (none) [0, 0, 0, 1, 11, 31] [0, 0, 0, 1, 11, 31] 32 0 [(.p, 0), (.p, 1), (.r, 2), (.p, 3), (.p, 4), (.l, 5)] (by kernel_rfl) (by kernel_rfl) (by kernel_rfl) (by kernel_rfl) (by kernel_rfl) ?_
  replace hw := hw.drew
  replace f := f.d
  replace f6 := f6.d
  replace f2 := f2.d
  replace fo := fo.d
  replace f18 := f18.d
  replace f_1 := f_1.d
  refine zm rfl (zm rfl ?_)
  refine wl_r (o_ldBa Tryz.isAgg64 Tryz.sizeOf64 rfl f2 hx32) ?_
  refine za rfl (za rfl ?_)
  refine wl_stBa Tryz.sizeOf64 rfl f6 rfl hx32 (by rfl) ?_
  rintro w_3 f_2 g_2 e_2
  simp only [drew_size] at e_2
  have s_2 := g_2.size
  simp only [drew_size] at s_2
  replace hw := hw.trans (below_of_grownBy g_2.g hw.size (by omega))
  replace f_1 := f_1.k g_2.g (ap_some (by omega))
  replace f18 := f18.k g_2.g (ap_some (by omega))
  replace fo := fo.y g_2 (by decide)
  replace f2 := f2.k g_2.g (ap_some (by omega))
  replace f := f.k g_2.g (ap_some (by omega))
  clear f6
  refine wl_nild ?_
  refine ret_any (vs := [.slice A' Q.length c', .int .i64 (at0 : Int), .agg (B8 x).toArray]) rfl (.tmp rfl (.tmp rfl (.cell rfl Tryz.isAgg64 Tryz.sizeOf64 f_2 (by rw [B8_length, hx32]) .nil))) (by simp) ?_
  exact ⟨A', c', by rw [← h1, ← h2, hat, hx], fo.base (Nat.le_refl _) (by omega), hw⟩
end Go.Proofs.YtnnhenafhalobaaGreat
namespace Go.Proofs.YtnnhenafhalobaaGreat
set_option maxRecDepth 100000
open Go.RowKit
def Ct1q (w : World) (b : Nat) (Q : Nat → Prop) (h : Hd) : Option Sec → Prop
 | none => h = (none, 0, 0)
 | some s => h.1.isSome = true ∧ h.2.1 = 256 ∧ 256 ≤ h.2.2 ∧ Rd w h.1 s.1 ∧ ∀ k, blk h.1 = some k → (b ≤ k ∧ TyAt w k 5) ∧ Q k
structure Ctsq (w : World) (b : Nat) (Q : Nat → Prop) (H : List Hd) (C : List (Option Sec)) : Prop where
 len : H.length = C.length
 el : ∀ i (h1 : i < H.length) (h2 : i < C.length), Ct1q w b Q H[i] C[i]
section
variable {w w' : World} {lo hi b b' i : Nat} {Q Q' : Nat → Prop} {H : List Hd} {C : List (Option Sec)} {row : Option Nat} {h : Hd} {x : Option Sec}
theorem Rd.keepB {A : Option Addr} {l : By} (h : Rd w A l) (hk : ∀ k, blk A = some k → k < w.heap.size → w'.heap[k]? = w.heap[k]?) : Rd w' A l := by
 by_cases hl : l = []
 ·subst hl; exact ⟨h.1, fun h => absurd rfl h⟩
 ·obtain ⟨b, o, rfl, hcl⟩ := h.2 (fun e => hl (by cases l with | nil => rfl | cons x y => cases e))
  refine ⟨h.1, fun _ => ⟨b, o, rfl, fun j u hj => ?_⟩⟩
  have h1 := hcl j u hj
  have hlt : b < w.heap.size := block_lt_of_cell h1
  rw [← h1]
  show World.cell? w' _ = World.cell? w _
  unfold World.cell?
  rw [show w'.heap[b]? = w.heap[b]? from hk b rfl hlt]
theorem Ct1q.keep (hc : Ct1q w b Q h x) (hk : ∀ k, b ≤ k → TyAt w k 5 → w'.heap[k]? = w.heap[k]?) : Ct1q w' b Q h x := by
 cases x with
 | none => exact hc
 | some s =>
  obtain ⟨h1, h2, h3, h4, h5⟩ := hc
  exact ⟨h1, h2, h3, h4.keepB (fun k e _ => hk k (h5 k e).1.1 (h5 k e).1.2), fun k e => ⟨⟨(h5 k e).1.1, (h5 k e).1.2.keep (hk k (h5 k e).1.1 (h5 k e).1.2)⟩, (h5 k e).2⟩⟩
theorem Ctsq.u (h : Ctsq w b Q H C) (hb : Below w.heap.size w w') : Ctsq w' b Q H C := ⟨h.len, fun i h1 h2 => (h.el i h1 h2).keep (fun k _ ht => hb.block k ht.lt)⟩
theorem Ctsq.d (h : Ctsq w b Q H C) : Ctsq w.drew b Q H C := h.u (below_drew w)
theorem Ctsq.k (h : Ctsq w b Q H C) (hg : w.grownBy w' row) (ha : Ap row b w.heap.size) : Ctsq w' b Q H C :=
 ⟨h.len, fun i h1 h2 => (h.el i h1 h2).keep (fun k hb ht => hg.block k ht.lt (fun e => by have := ha k e.symm; have := ht.lt; omega))⟩
theorem Ctsq.y {e' : TypeId} (h : Ctsq w b Q H C) (hg : Grew w w' e' row) (hne : e' ≠ 5) : Ctsq w' b Q H C :=
 ⟨h.len, fun i h1 h2 => (h.el i h1 h2).keep (fun k hb ht => hg.g.block k ht.lt (fun e => by
  obtain ⟨_, _, h3⟩ := ht
  obtain ⟨_, _, h4⟩ := hg.ty k e.symm
  rw [h3] at h4
  injection h4 with h4
  injection h4 with _ h4
  exact hne h4.symm))⟩
theorem Ctsq.c (h : Ctsq w b Q H C) (hc : Chg lo hi w w') (ha : hi ≤ b) : Ctsq w' b Q H C :=
 ⟨h.len, fun i h1 h2 => (h.el i h1 h2).keep (fun k hb ht => hc.block k ht.lt (by omega))⟩
theorem Ctsq.keep (h : Ctsq w b Q H C) (hk : ∀ k, b ≤ k → Q k → k < w.heap.size → w'.heap[k]? = w.heap[k]?) : Ctsq w' b Q H C :=
 ⟨h.len, fun i h1 h2 => by
  have h3 := h.el i h1 h2
  revert h3
  generalize C[i] = x
  intro h3
  cases x with
  | none => exact h3
  | some s =>
   obtain ⟨k1, k2, k3, k4, k5⟩ := h3
   exact ⟨k1, k2, k3, k4.keepB (fun k e hlt => hk k (k5 k e).1.1 (k5 k e).2 hlt), fun k e => ⟨⟨(k5 k e).1.1, (k5 k e).1.2.keep (hk k (k5 k e).1.1 (k5 k e).2 (k5 k e).1.2.lt)⟩, (k5 k e).2⟩⟩⟩
theorem Ctsq.re (h : Ctsq w b Q H C) (hq : ∀ k, k < w.heap.size → Q k → Q' k) : Ctsq w b Q' H C :=
 ⟨h.len, fun i h1 h2 => by
  have h3 := h.el i h1 h2
  revert h3
  generalize C[i] = x
  intro h3
  cases x with
  | none => exact h3
  | some s =>
   obtain ⟨k1, k2, k3, k4, k5⟩ := h3
   exact ⟨k1, k2, k3, k4, fun k e => ⟨(k5 k e).1, hq k (k5 k e).1.2.lt (k5 k e).2⟩⟩⟩
theorem Ctsq.none_ (n : Nat) : Ctsq w b Q (List.replicate n (none, 0, 0)) (List.replicate n none) :=
 ⟨by simp, fun i h1 h2 => by rw [List.getElem_replicate, List.getElem_replicate]; exact rfl⟩
theorem Ctsq.clear_ (h : Ctsq w b Q H C) (i : Nat) : Ctsq w b Q (H.set i (none, 0, 0)) (C.set i none) :=
 ⟨by rw [List.length_set, List.length_set, h.len], fun j h1 h2 => by
  rw [List.length_set] at h1 h2
  rw [List.getElem_set, List.getElem_set]
  split
  ·exact rfl
  ·exact h.el j h1 h2⟩
theorem Ctsq.put_ {A : Option Addr} {cp : Nat} {s : Sec} (h : Ctsq w b Q H C) (i : Nat) (hs : OwnH w lo hi A cp s.1) (hl : b ≤ lo) (hQ : ∀ k, lo ≤ k → Q k) : Ctsq w b Q (H.set i (A, 256, cp)) (C.set i (some s)) :=
 ⟨by rw [List.length_set, List.length_set, h.len], fun j h1 h2 => by
  rw [List.length_set] at h1 h2
  rw [List.getElem_set, List.getElem_set]
  split
  ·have hA := (RowH.rd hs).some_ (show 0 < 1 by decide) (by rw [s.2]; decide)
   refine ⟨?_, rfl, by have := hs.cap; rw [s.2] at this; exact this, hs.to_Rd, fun k e => ⟨⟨by have := RowH.lt hs k e; omega, RowH.ty hs k e⟩, hQ k (RowH.lt hs k e).1⟩⟩
   show A.isSome = true
   rw [hA]; rfl
  ·exact h.el j h1 h2⟩
theorem Ctsq.at_ (h : Ctsq w b Q H C) (hi : i < C.length) : Ct1q w b Q (H[i]'(by rw [h.len]; exact hi)) C[i] := h.el i _ hi
end
structure RqAt (w : World) (lo hi : Nat) (Q : Nat → Prop) (g : Nat) (S : List Sec) (C : List (Option Sec)) : Prop where
 ex : ∃ (A : Option Addr) (c : Nat) (D : Option Addr) (q : Nat) (H : List Hd), Blk w g 74 [.slice A (img S).length c, .slice D H.length q] ∧ OwnH w lo hi A c (img S) ∧ OwnHd w lo hi D q H ∧ Ctsq w hi Q H C
 g1 : lo ≤ g
 g2 : g < hi
 hi : hi ≤ w.heap.size
 len : C.length = S.length
 n1 : 1 ≤ S.length
 n2 : S.length ≤ 16384
section
variable {w w' : World} {lo hi lo' hi' g : Nat} {Q Q' : Nat → Prop} {S : List Sec} {C : List (Option Sec)}
theorem RqAt.re (h : RqAt w lo hi Q g S C) (hq : ∀ k, k < w.heap.size → Q k → Q' k) : RqAt w lo hi Q' g S C := by
 obtain ⟨A, c, D, q, H, h1, h2, h3, h4⟩ := h.ex
 exact ⟨⟨A, c, D, q, H, h1, h2, h3, h4.re hq⟩, h.g1, h.g2, h.hi, h.len, h.n1, h.n2⟩
theorem RowH.kb {e : TypeId} {sz n cp : Nat} {A : Option Addr} {xs : List Value} (h : RowH w lo hi e sz A n cp xs) (hk : ∀ k, blk A = some k → k < w.heap.size → w'.heap[k]? = w.heap[k]?) (hs : w.heap.size ≤ w'.heap.size) : RowH w' lo hi e sz A n cp xs :=
 ⟨⟨h.o.1, by
  rcases h.o.2 with h3 | ⟨g, cap, cur, h3, h4, h5, h6⟩
  ·exact .inl h3
  ·have hA : A = some ⟨g, 0, none⟩ := by injection h3
   have hl := h.lt g (by rw [hA]; rfl)
   exact .inr ⟨g, cap, cur, h3, h4, (hk g (by rw [hA]; rfl) hl.2).trans h5, h6⟩⟩, h.hi⟩
theorem RqAt.keep (h : RqAt w lo hi Q g S C) (hk : ∀ k, lo ≤ k → (k < hi ∨ Q k) → k < w.heap.size → w'.heap[k]? = w.heap[k]?) (hs : w.heap.size ≤ w'.heap.size) : RqAt w' lo hi Q g S C := by
 obtain ⟨A, c, D, q, H, h1, h2, ⟨xs, h3, h3'⟩, h4⟩ := h.ex
 have g1 := h.g1
 have g2 := h.g2
 refine ⟨⟨A, c, D, q, H, (hk g g1 (.inl g2) h1.lt).trans h1, RowH.kb h2 (fun k e hl => hk k (RowH.lt h2 k e).1 (.inl (h2.hi k e)) hl) hs, ⟨xs, RowH.kb h3 (fun k e hl => hk k (RowH.lt h3 k e).1 (.inl (h3.hi k e)) hl) hs, h3'⟩, h4.keep (fun k a b c => hk k (by omega) (.inr b) c)⟩, g1, g2, by have := h.hi; omega, h.len, h.n1, h.n2⟩
theorem RqAt.u (h : RqAt w lo hi Q g S C) (hb : Below w.heap.size w w') : RqAt w' lo hi Q g S C := by
 obtain ⟨A, c, D, q, H, h1, h2, h3, h4⟩ := h.ex
 exact ⟨⟨A, c, D, q, H, h1.u hb, h2.u hb, h3.u hb, h4.u hb⟩, h.g1, h.g2, by have := h.hi; have := hb.size; omega, h.len, h.n1, h.n2⟩
theorem RqAt.d (h : RqAt w lo hi Q g S C) : RqAt w.drew lo hi Q g S C := h.u (below_drew w)
theorem RqAt.y {e' : TypeId} {row : Option Nat} (h : RqAt w lo hi Q g S C) (hg : Grew w w' e' row) (hne : e' ∉ [74, 35, 5]) : RqAt w' lo hi Q g S C := by
 obtain ⟨A, c, D, q, H, h1, h2, h3, h4⟩ := h.ex
 simp only [List.mem_cons, List.not_mem_nil, or_false, not_or] at hne
 exact ⟨⟨A, c, D, q, H, h1.y hg hne.1, RowH.y h2 hg hne.2.2, h3.y hg (by simpa using hne.2.1), h4.y hg hne.2.2⟩, h.g1, h.g2, by have := h.hi; have := hg.g.size; omega, h.len, h.n1, h.n2⟩
theorem RqAt.c (h : RqAt w lo hi Q g S C) (hc : Chg lo' hi' w w') (ha : hi' ≤ lo) : RqAt w' lo hi Q g S C := by
 obtain ⟨A, c, D, q, H, h1, h2, h3, h4⟩ := h.ex
 have := h.g1
 have := h.g2
 exact ⟨⟨A, c, D, q, H, h1.c hc (by omega), h2.c hc (.inr ha), h3.c hc (.inr ha), h4.c hc (by omega)⟩, h.g1, h.g2, by have := h.hi; have := hc.size; omega, h.len, h.n1, h.n2⟩
end
theorem C_qNew {n : Int} {m : Nat} {Z : List Sec} {Q : List (Option Sec)} (w : World) (hm : n = (m : Int)) (hZ : List.replicate m z256 = Z) (hQ : List.replicate m none = Q) (h1 : 1 ≤ m) (h2 : m ≤ 16384) :
  CallsR Tryz.prog 27 [.int .i64 n] w fun v w' => ∃ g, v = .tuple #[.pointer (some ⟨g, 0, none⟩), .int .i64 0] ∧ (∀ Qp : Nat → Prop, RqAt w' w.heap.size w'.heap.size Qp g Z Q) ∧ Below w.heap.size w w' := by
 subst hm; subst hZ; subst hQ
 obtain ⟨M, hM⟩ : ∃ M : Nat, M = m * 256 := ⟨_, rfl⟩
 have hM2 : (m : Int) * 256 = (M : Int) := by omega
 obtain ⟨I, hI⟩ : ∃ I : By, List.replicate M 0 = I := ⟨_, rfl⟩
 obtain ⟨H, hH⟩ : ∃ H : List Hd, List.replicate m (none, 0, 0) = H := ⟨_, rfl⟩
 refine callsR Tryz.func27 rfl rfl (by kernel_rfl) rfl ?_
 have hw := Below.refl w.heap.size w
 refine zs (za rfl (za rfl (wl_nil (rk_seq (zs (zm rfl ?_))))))
 refine zp (o_lt rfl rfl) ?_
 refine zm rfl ?_
 refine wl_know 6 false rfl (decide_eq_false (by omega)) ?_
 refine zm rfl ?_
 refine zp (o_gt rfl rfl) ?_
 refine zp (o_pick_f rfl rfl) ?_
 refine wl_nil ?_
 refine rk_if rfl (fun h9 => absurd h9 (by omega)) (fun h9 => ?_)
 refine rk_skip (rk_seq ?_)
 refine rk_drawo (id := 3) (none) [0, 1, 2, 0, 8, 20, 32, 127, 255] [0, 1, 3, 0, 8, 31, 63, 127, 255] 84 0 [0, 1, 3] [(.p, 0), (.p, 1), (.p, 3), (.f 11 84 0, 6)] (by kernel_rfl) (by kernel_rfl) (by kernel_rfl) (by kernel_rfl) (by kernel_rfl) ?_
 dsimp only [inOrder, nthOp]
 replace hw := hw.drew
 refine zm rfl ?_
 refine zp (o_mul rfl rfl (by omega) (by omega)) ?_
 refine zm rfl ?_
 ·rw [hM2]
  refine wl_forkf (m := 11) (L := 84) (C := 0) (n := 6) (k1 := 2) (k2 := 4) (fun fb fr V => ∃ A D, fr = [(12, .slice A M M), (14, .slice D m m)] ++ fb ∧ OwnH V w.heap.size V.heap.size A M I ∧ OwnHd V w.heap.size V.heap.size D m (List.replicate m (none, 0, 0)) ∧ Below w.heap.size w V) [0, 1, 2, 0, 8, 20, 32, 127, 255] [0, 1, 3, 0, 8, 31, 63, 127, 255] [2, 4, 5, 6, 7, 8] [4, 2, 5, 6, 7, 8] [5, 6, 7, 8] [(.l, 4), (.p, 5), (.l, 6), (.p, 7), (.p, 8)] [(.l, 2), (.p, 5), (.l, 6), (.p, 7), (.p, 8)] [(.p, 5), (.l, 6), (.p, 7), (.p, 8)] (by kernel_rfl) (by kernel_rfl) (by kernel_rfl) (by kernel_rfl) (by kernel_rfl) ?_ (fun hj => ?_) (fun hj => ?_) <;> dsimp only [inOrder, nthOp]
  ·clear hw
   rintro fr V ⟨A, D, rfl, fa, fh, hw⟩
   have hsV := hw.size
   first | refine zf ?_ | refine zg ?_
   refine zp (o_buildg [_, _] Tryz.underlying74 Tryz.zeroValue74 (by rfl) (by rfl) rfl (by rfl) (by rfl) (fun _ => by kernel_rfl)) ?_
   refine wl_boxg [_, _] rfl (by rfl) ?_
   rintro g16 w16 f16 b16 i16 i16_1
   have s16 := b16.size
   replace hw := hw.trans (b16.mono hw.size)
   replace fh := fh.u b16
   replace fa := fa.u b16
   refine za rfl (za rfl ?_)
   refine wl_nild ?_
   refine ret2 rfl rfl rfl ?_
   have hsz := hw.size
   have e1 : img (List.replicate m z256) = I := by rw [img_z, ← hM, hI]
   have e2 : I.length = M := by rw [← hI, List.length_replicate]
   have e3 : (List.replicate m ((none, 0, 0) : Hd)).length = m := List.length_replicate
   exact ⟨g16, rfl, fun Qp => ⟨⟨A, M, D, m, _, by rw [e1, e2, e3]; exact f16, by rw [e1]; exact fa.base (Nat.le_refl _) (by omega), fh.base (Nat.le_refl _) (by omega), Ctsq.none_ m⟩, by omega, by omega, Nat.le_refl _, by rw [List.length_replicate, List.length_replicate], by rw [List.length_replicate]; omega, by rw [List.length_replicate]; omega⟩, hw⟩
  ·refine wl_mkBz (M) rfl rfl rfl rfl (by omega) hI ?_
   rintro A12 w12 f12 b12
   simp only [drew_size] at f12
   simp only [drew_size] at b12
   have qf12 := f12.cap
   have s12 := b12.size
   simp only [drew_size] at s12
   replace hw := hw.trans (b12.mono hw.size)
   refine wl_mkHd (m) rfl rfl rfl rfl (by omega) ?_
   rintro A14 w14 f14 b14
   have qf14 := f14.cap
   have s14 := b14.size
   replace hw := hw.trans (b14.mono hw.size)
   replace f12 := f12.u b14
   exact wl_tof hj (Fr.le_of (by kernel_rfl) (by kernel_rfl) (by repeat' constructor)) ⟨_, _, rfl, f12.base (by omega) (by omega), f14.base (by omega) (by omega), hw⟩
  ·refine wl_mkHd (m) rfl rfl rfl rfl (by omega) ?_
   rintro A14 w14 f14 b14
   simp only [drew_size] at f14
   simp only [drew_size] at b14
   have qf14 := f14.cap
   have s14 := b14.size
   simp only [drew_size] at s14
   replace hw := hw.trans (b14.mono hw.size)
   refine wl_mkBz (M) rfl rfl rfl rfl (by omega) hI ?_
   rintro A12 w12 f12 b12
   have qf12 := f12.cap
   have s12 := b12.size
   replace hw := hw.trans (b12.mono hw.size)
   replace f14 := f14.u b12
   exact wl_tof hj (Fr.le_of (by kernel_rfl) (by kernel_rfl) (by repeat' constructor)) ⟨_, _, rfl, f12.base (by omega) (by omega), f14.base (by omega) (by omega), hw⟩
theorem C_qSize {Q : Nat → Prop} {lo hi g : Nat} {S : List Sec} {C : List (Option Sec)} (w : World) (hd : RqAt w lo hi Q g S C) :
  CallsR Tryz.prog 62 [.pointer (some ⟨g, 0, none⟩)] w fun v w' => v = .int .i64 (S.length : Int) ∧ w' = w := by
 obtain ⟨A, c, D, q, H, f, fa, fh, fc⟩ := hd.ex
 have hHl := fc.len
 have hCl := hd.len
 refine callsR Tryz.func62 rfl rfl (by kernel_rfl) rfl ?_
 refine zs (za rfl (wl_nil (zs (zm rfl ?_))))
 refine zp (o_nil rfl) ?_
 refine zp (o_faddr (s := 74) (i := 1) (off := 1) Tryz.underlying74 rfl Tryz.sizeOf72 rfl rfl rfl) ?_
 refine wl_r (o_loadbg Tryz.isAgg72 rfl f (by rfl)) ?_
 refine zp (o_len (t := 72) Tryz.underlying72 rfl) ?_
 refine za rfl (wl_nil ?_)
 refine ret1 rfl rfl ?_
 exact ⟨by rw [hHl, hCl], rfl⟩
theorem K_qReadO {Q : Nat → Prop} {lo hi g : Nat} {S : List Sec} {C : List (Option Sec)} {a : Int} {r : By × Nat} (w : World) (hd : RqAt w lo hi Q g S C) (hr : rdD S C a = r) (wa : (Lit.int .i64 a).wf = true) :
  CallsR Tryz.prog 71 [.pointer (some ⟨g, 0, none⟩), .int .i64 a] w fun v w' => ∃ (A : Option Addr) (c : Nat), v = .tuple #[.slice A r.1.length c, .int .i64 (r.2 : Int)] ∧ OwnH w' w.heap.size w'.heap.size A c r.1 ∧ Below w.heap.size w w' := by
 subst hr
 refine callsR Tryz.func71 rfl rfl (by kernel_rfl) rfl ?_
 have hw := Below.refl w.heap.size w
 refine zs (za rfl (za rfl (wl_nil (rk_seq (zs (zm rfl ?_))))))
 refine zp (o_lt rfl rfl) ?_
 refine zm rfl ?_
 by_cases h0 : 0 ≤ a ∧ a < S.length
 ·obtain ⟨A, c, D, q, H, f, fa, fh, fc⟩ := hd.ex
  have hHl := fc.len
  have hCl := hd.len
  have hle := hd.n2
  obtain ⟨i, rfl⟩ : ∃ i : Nat, a = (i : Int) := ⟨a.toNat, by omega⟩
  have hiC : i < C.length := by omega
  have hiS : i < S.length := by omega
  have h1 := fc.at_ hiC
  have hci := cAt_nat C hiC
  have hat := img_at S i hiS
  have him := img_len S
  cases hcc : C[i] with
  | some s =>
   rw [hcc] at h1
   obtain ⟨k1, k2, k3, k4, k5⟩ := h1
   have hs2 : s.1.length = 256 := s.2
   rw [show rdD S C (i : Int) = (s.1, 0) by rw [rdD, dif_pos h0, hci, hcc]; rfl]
   refine zm rfl (zm rfl ?_)
   refine wl_call rfl (C_qSize _ hd) ?_
   rintro v11 w11 ⟨rfl, rfl⟩
   refine zp (o_ge rfl rfl) ?_
   refine zp (o_pick_f rfl rfl) ?_
   refine wl_nil ?_
   refine rk_if rfl (fun h13 => absurd h13 (by omega)) (fun h13 => ?_)
   refine rk_skip (rk_seq (zs (zm rfl ?_)))
   refine zp (o_nil rfl) ?_
   refine zp (o_faddr (s := 74) (i := 1) (off := 1) Tryz.underlying74 rfl Tryz.sizeOf72 rfl rfl rfl) ?_
   refine wl_r (o_loadbg Tryz.isAgg72 rfl f (by rfl)) ?_
   refine zm rfl ?_
   refine zp (o_iaddrA1 (i) Tryz.underlying72 Tryz.sizeOf35 rfl rfl rfl (fh.some_ (by omega)) (by omega)) ?_
   refine wl_r (o_ldHd rfl fh (by omega)) ?_
   refine zp (o_slneN Tryz.underlying35 rfl rfl) ?_
   refine wl_nil ?_
   rw [k1]
   refine rk_true rfl ?_
   refine zs ?_
   refine wl_litB [] Tryz.u8 Tryz.sizeOf5 Tryz.zeroValue5 (by rfl) rfl rfl (by rfl) (by rfl) (by rfl) ?_
   rintro A22 w22 f22 b22
   have qf22 := f22.cap
   have s22 := b22.size
   replace hw := hw.trans (b22.mono hw.size)
   refine zm rfl ?_
   refine zp (o_nil rfl) ?_
   refine zp (o_faddr (s := 74) (i := 1) (off := 1) Tryz.underlying74 rfl Tryz.sizeOf72 rfl rfl rfl) ?_
   refine wl_r (o_loadbg Tryz.isAgg72 rfl (f.u hw) (by rfl)) ?_
   refine zm rfl ?_
   refine zp (o_iaddrA1 (i) Tryz.underlying72 Tryz.sizeOf35 rfl rfl rfl (fh.some_ (by omega)) (by omega)) ?_
   refine wl_r (o_ldHd rfl (fh.u hw) (by omega)) ?_
   refine wl_appB00 rfl f22 rfl (k4.u hw) (by omega) (by omega) hw.size ?_
   rintro A30 c30 w30 f30 b30
   have qf30 := f30.cap
   have s30 := b30.size
   replace hw := hw.trans (b30.mono hw.size)
   replace f22 := f22.u b30
   refine za rfl (za rfl (wl_nil ?_))
   refine ret2 rfl rfl rfl ?_
   have hsz := hw.size
   exact ⟨A30, c30, rfl, f30.base (by omega) (by omega), hw⟩
  | none =>
   rw [hcc] at h1
   have k1 : H[i] = (none, 0, 0) := h1
   rw [show rdD S C (i : Int) = (S[i].1, 0) by rw [rdD, dif_pos h0, hci, hcc]; rfl]
   have e : (i + 1) * 256 - i * 256 = 256 := by omega
   refine zm rfl (zm rfl ?_)
   refine wl_call rfl (C_qSize _ hd) ?_
   rintro v11 w11 ⟨rfl, rfl⟩
   refine zp (o_ge rfl rfl) ?_
   refine zp (o_pick_f rfl rfl) ?_
   refine wl_nil ?_
   refine rk_if rfl (fun h13 => absurd h13 (by omega)) (fun h13 => ?_)
   refine rk_skip (rk_seq (zs (zm rfl ?_)))
   refine zp (o_nil rfl) ?_
   refine zp (o_faddr (s := 74) (i := 1) (off := 1) Tryz.underlying74 rfl Tryz.sizeOf72 rfl rfl rfl) ?_
   refine wl_r (o_loadbg Tryz.isAgg72 rfl f (by rfl)) ?_
   refine zm rfl ?_
   refine zp (o_iaddrA1 (i) Tryz.underlying72 Tryz.sizeOf35 rfl rfl rfl (fh.some_ (by omega)) (by omega)) ?_
   refine wl_r (o_ldHd rfl fh (by omega)) ?_
   refine zp (o_slneN Tryz.underlying35 rfl rfl) ?_
   refine wl_nil ?_
   rw [k1]
   simp only [Option.isSome_none]
   refine rk_false rfl ?_
   refine rk_skip (zs ?_)
   refine wl_litB [] Tryz.u8 Tryz.sizeOf5 Tryz.zeroValue5 (by rfl) rfl rfl (by rfl) (by rfl) (by rfl) ?_
   rintro A31 w31 f31 b31
   have qf31 := f31.cap
   have s31 := b31.size
   replace hw := hw.trans (b31.mono hw.size)
   refine zm rfl ?_
   refine zp (o_nil rfl) ?_
   refine zp (o_faddr (s := 74) (i := 0) (off := 0) Tryz.underlying74 rfl Tryz.sizeOf35 rfl rfl rfl) ?_
   refine wl_r (o_loadbg Tryz.isAgg35 rfl (f.u hw) (by rfl)) ?_
   refine zm rfl ?_
   refine zp (o_mul rfl rfl (by omega) (by omega)) ?_
   refine zm rfl ?_
   refine zp (o_add rfl rfl (by omega) (by omega)) ?_
   refine zp (o_mul rfl rfl (by omega) (by omega)) ?_
   refine wl_slBB Tryz.u8 (i * 256) ((i + 1) * 256) rfl rfl rfl (fa.u hw).to_Rd rfl (by omega) (by omega) (by omega) (by omega) fa.cap ?_
   rintro A41 c41 f41 i41 i41_1
   refine wl_appB00 rfl f31 rfl f41 (by simp; omega) (by simp; omega) hw.size ?_
   rintro A42 c42 w42 f42 b42
   have qf42 := f42.cap
   have s42 := b42.size
   replace hw := hw.trans (b42.mono hw.size)
   replace f41 := f41.u b42
   replace f31 := f31.u b42
   refine za rfl (za rfl (wl_nil ?_))
   rw [e, hat] at f42
   rw [e, hat]
   refine ret2 rfl rfl rfl ?_
   have hsz := hw.size
   exact ⟨A42, c42, rfl, f42.base (by omega) (by omega), hw⟩
 ·rw [show rdD S C a = ([], 2) by rw [rdD, dif_neg h0]]
  by_cases ha : a < 0
  ·refine wl_know 8 true rfl (decide_eq_true (by omega)) ?_
   refine wl_off (wl_off (wl_off (wl_off ?_)))
   refine zp (o_pick_t rfl rfl) ?_
   refine wl_nil ?_
   refine rk_true rfl ?_
   refine zs (za rfl (za rfl (wl_nil ?_)))
   refine ret2 rfl rfl rfl ?_
   exact ⟨none, 0, rfl, OwnH.nil_, hw⟩
  ·refine wl_know 8 false rfl (decide_eq_false (by omega)) ?_
   refine zm rfl (zm rfl ?_)
   refine wl_call rfl (C_qSize _ hd) ?_
   rintro v11 w11 ⟨rfl, rfl⟩
   refine zp (o_ge rfl rfl) ?_
   refine zp (o_pick_f rfl rfl) ?_
   refine wl_nil ?_
   refine rk_if rfl (fun h13 => ?_) (fun h13 => h13.elim (by omega))
   refine zs (za rfl (za rfl (wl_nil ?_)))
   refine ret2 rfl rfl rfl ?_
   exact ⟨none, 0, rfl, OwnH.nil_, hw⟩
theorem C_qDkRead {Q : Nat → Prop} {lo hi g : Nat} {S : List Sec} {C : List (Option Sec)} {a : Int} {r : By × Nat} (w : World) (hd : RqAt w lo hi Q g S C) (hr : rdD S C a = r) (wa : (Lit.int .i64 a).wf = true) :
  CallsR Tryz.prog 71 [.pointer (some ⟨g, 0, none⟩), .int .i64 a] w fun v w' => ∃ (A : Option Addr) (c : Nat), v = .tuple #[.slice A r.1.length c, .int .i64 (r.2 : Int)] ∧ RdB w' w.heap.size w'.heap.size A r.1 ∧ r.1.length ≤ c ∧ Below w.heap.size w w' := by
 refine (K_qReadO w hd hr wa).mono ?_
 rintro v w' ⟨A, c, rfl, h1, h2⟩
 exact ⟨A, c, rfl, h1.rdB, h1.cap, h2⟩
theorem C_qWrite {Q : Nat → Prop} {lo hi g n cp : Nat} {S : List Sec} {C : List (Option Sec)} {r : List (Option Sec) × Nat} {a : Int} {B : Option Addr} {b : By} (w : World) (hd : RqAt w lo hi Q g S C) (hb : Rd w B b) (hr : wrC S C a b = r) (wa : (Lit.int .i64 a).wf = true) (hn : n = b.length) (hc : n ≤ cp) (hm : b.length ≤ 1000000) (hQ : ∀ k, w.heap.size ≤ k → Q k) :
  CallsR Tryz.prog 63 [.pointer (some ⟨g, 0, none⟩), .int .i64 a, .slice B n cp] w fun v w' => v = .int .i64 (r.2 : Int) ∧ RqAt w' lo hi Q g S r.1 ∧ Chg lo hi w w' := by
 subst hr; subst hn
 refine callsR Tryz.func63 rfl rfl (by kernel_rfl) rfl ?_
 have hcg : Chg lo hi w w := Chg.refl
 refine zs (za rfl (wl_nil (rk_seq (zs (zm rfl ?_)))))
 refine zp (o_lt rfl rfl) ?_
 refine zm rfl ?_
 by_cases h0 : 0 ≤ a ∧ a < S.length
 ·by_cases hbl : b.length = 256
  ·obtain ⟨A, c, D, q, H, f, fa, fh, fc⟩ := hd.ex
   have hHl := fc.len
   have hCl := hd.len
   have hle := hd.n2
   have hhi := hd.hi
   have hg1 := hd.g1
   have hg2 := hd.g2
   have hn1 := hd.n1
   obtain ⟨i, rfl⟩ : ∃ i : Nat, a = (i : Int) := ⟨a.toNat, by omega⟩
   have hiC : i < C.length := by omega
   rw [show wrC S C (i : Int) b = (C.set i (some ⟨b, hbl⟩), 0) by rw [wrC, dif_pos ⟨h0, hbl⟩]; rfl]
   refine zm rfl (zm rfl ?_)
   refine wl_call rfl (C_qSize _ hd) ?_
   rintro v12 w12 ⟨rfl, rfl⟩
   refine zp (o_ge rfl rfl) ?_
   refine zp (o_pick_f rfl rfl) ?_
   refine zm rfl ?_
   refine wl_know 15 false rfl (decide_eq_false (by omega)) ?_
   refine zm rfl ?_
   refine zp (o_len (t := 35) Tryz.underlying35 rfl) ?_
   refine zp (o_ne rfl rfl) ?_
   refine zp (o_pick_f rfl rfl) ?_
   refine wl_nil ?_
   refine rk_if rfl (fun h19 => absurd h19 (by omega)) (fun h19 => ?_)
   refine rk_skip (rk_seq ?_)
   refine rk_drawoB (id := 3) (none) [0, 1, 2, 4, 0, 0, 0, 96, 255, 511] [0, 1, 3, 7, 0, 0, 0, 96, 255, 511] 672 160 [0, 1, 2, 3, 4, 6, 5, 7, 8, 9] [(.p, 0), (.p, 1), (.p, 2), (.s, 3), (.p, 4), (.p, 6), (.c, 5), (.c, 7), (.p, 8), (.l, 9)] (by kernel_rfl) (by kernel_rfl) (by kernel_rfl) (by kernel_rfl) (by kernel_rfl) ?_
   dsimp only [inOrder, nthOp]
   replace hcg := hcg.trans Chg.drew
   replace fc := fc.d
   replace fh := fh.d
   replace fa := fa.d
   replace f := f.d
   replace hb := hb.d
   replace hd := hd.d
   refine zm rfl ?_
   refine zp (o_nil rfl) ?_
   refine zp (o_faddr (s := 74) (i := 1) (off := 1) Tryz.underlying74 rfl Tryz.sizeOf72 rfl rfl rfl) ?_
   refine wl_s (fun _ hk => (o_loadbg Tryz.isAgg72 rfl (f.u (below_of_ok hk (Nat.le_refl _) (fun _ e => by cases e))) (by rfl))) ?_
   refine zm rfl (zm rfl ?_)
   refine wl_litB [] Tryz.u8 Tryz.sizeOf5 Tryz.zeroValue5 (by rfl) rfl rfl (by rfl) (by rfl) (by rfl) ?_
   rintro A25 w25 f25 b25
   simp only [drew_size] at f25
   simp only [drew_size] at b25
   have qf25 := f25.cap
   have s25 := b25.size
   simp only [drew_size] at s25
   replace hcg := hcg.thenB b25
   replace hd := hd.u b25
   replace hb := hb.u b25
   replace f := f.u b25
   replace fa := fa.u b25
   replace fh := fh.u b25
   replace fc := fc.u b25
   refine wl_appB00 rfl f25 rfl hb rfl (by omega) (by omega) ?_
   rintro A27 c27 w27 f27 b27
   have qf27 := f27.cap
   have s27 := b27.size
   replace hcg := hcg.thenB b27
   replace fc := fc.u b27
   replace fh := fh.u b27
   replace fa := fa.u b27
   replace f := f.u b27
   replace hb := hb.u b27
   replace hd := hd.u b27
   replace f25 := f25.u b27
   refine zp (o_iaddrA1 (i) Tryz.underlying72 Tryz.sizeOf35 rfl rfl rfl (fh.some_ (by omega)) (by omega)) ?_
   refine wl_stHd rfl fh rfl (by omega) ?_
   rintro w f_1 g_1 b_1 e
   have qf_1 := f_1.cap
   have s := g_1.size
   replace hcg := hcg.trans ((Chg.of_g g_1.g f_1.rng).wide (by omega) (by omega))
   replace f25 := f25.y g_1 (by decide)
   replace f := f.y g_1 (by decide)
   replace fa := fa.y g_1 (by decide)
   replace fc := fc.y g_1 (by decide)
   replace f27 := f27.y g_1 (by decide)
   clear hd
   clear hb
   clear fh
   refine wl_nild ?_
   refine zs (za rfl (wl_nil ?_))
   refine ret1 rfl rfl ?_
   rw [hbl] at f_1
   have e1 : (H.set i (A27, 256, c27)).length = H.length := List.length_set ..
   have e2 : (C.set i (some ⟨b, hbl⟩)).length = C.length := List.length_set ..
   exact ⟨rfl, ⟨⟨A, c, D, q, H.set i (A27, 256, c27), by rw [e1]; exact f, fa, f_1, fc.put_ (s := ⟨b, hbl⟩) i f27 hhi (fun k hk => hQ k (by omega))⟩, hg1, hg2, by have := hcg.size; omega, by rw [e2]; exact hCl, hn1, hle⟩, hcg⟩
  ·rw [show wrC S C a b = (C, 2) by rw [wrC, dif_neg (fun h => hbl h.2)]]
   refine wl_know 9 false rfl (decide_eq_false (by omega)) ?_
   refine zm rfl (zm rfl ?_)
   refine wl_call rfl (C_qSize _ hd) ?_
   rintro v12 w12 ⟨rfl, rfl⟩
   refine zp (o_ge rfl rfl) ?_
   refine zp (o_pick_f rfl rfl) ?_
   refine zm rfl ?_
   refine wl_know 15 false rfl (decide_eq_false (by omega)) ?_
   refine zm rfl ?_
   refine zp (o_len (t := 35) Tryz.underlying35 rfl) ?_
   refine zp (o_ne rfl rfl) ?_
   refine zp (o_pick_f rfl rfl) ?_
   refine wl_nil ?_
   refine rk_if rfl (fun h19 => ?_) (fun h19 => h19.elim (by omega))
   refine zs (za rfl (wl_nil ?_))
   refine ret1 rfl rfl ?_
   exact ⟨rfl, hd, hcg⟩
 ·rw [show wrC S C a b = (C, 2) by rw [wrC, dif_neg (fun h => h0 h.1)]]
  by_cases ha : a < 0
  ·refine wl_know 9 true rfl (decide_eq_true (by omega)) ?_
   refine wl_off (wl_off (wl_off (wl_off ?_)))
   refine zp (o_pick_t rfl rfl) ?_
   refine zm rfl (wl_off (wl_off (wl_off ?_)))
   refine zp (o_pick_t rfl rfl) ?_
   refine wl_nil ?_
   refine rk_true rfl ?_
   refine zs (za rfl (wl_nil ?_))
   refine ret1 rfl rfl ?_
   exact ⟨rfl, hd, hcg⟩
  ·refine wl_know 9 false rfl (decide_eq_false (by omega)) ?_
   refine zm rfl (zm rfl ?_)
   refine wl_call rfl (C_qSize _ hd) ?_
   rintro v12 w12 ⟨rfl, rfl⟩
   refine zp (o_ge rfl rfl) ?_
   refine zp (o_pick_f rfl rfl) ?_
   refine zm rfl ?_
   refine wl_know 15 true rfl (decide_eq_true (by omega)) ?_
   refine wl_off (wl_off (wl_off ?_))
   refine zp (o_pick_t rfl rfl) ?_
   refine wl_nil ?_
   refine rk_true rfl ?_
   refine zs (za rfl (wl_nil ?_))
   refine ret1 rfl rfl ?_
   exact ⟨rfl, hd, hcg⟩
theorem ixs_snoc : ∀ (k : Nat) (C : List (Option Sec)) (c : Option Sec), ixs k (C ++ [c]) = ixs k C ++ (if c.isSome then [k + C.length] else [])
 | k, [], c => by cases c <;> simp [ixs]
 | k, none :: C, c => by
  rw [List.cons_append, ixs, ixs, ixs_snoc (k + 1) C c, List.length_cons, show k + 1 + C.length = k + (C.length + 1) by omega]
 | k, some x :: C, c => by
  rw [List.cons_append, ixs, ixs, ixs_snoc (k + 1) C c, List.length_cons, show k + 1 + C.length = k + (C.length + 1) by omega, List.cons_append]
theorem ixz_take {C : List (Option Sec)} {i : Nat} (h : i < C.length) : ixz (C.take (i + 1)) = ixz (C.take i) ++ (if C[i].isSome then [(i : Int)] else []) := by
 rw [List.take_succ_eq_append_getElem h, ixz, cix, ixs_snoc, List.map_append, List.length_take, Nat.min_eq_left (Nat.le_of_lt h), Nat.zero_add]
 cases C[i] <;> rfl
theorem C_qCached {Q : Nat → Prop} {lo hi g : Nat} {S : List Sec} {C : List (Option Sec)} {I : List Int} (w : World) (hd : RqAt w lo hi Q g S C) (hr : ixz C = I) :
  CallsR Tryz.prog 38 [.pointer (some ⟨g, 0, none⟩)] w fun v w' => ∃ A c, v = .slice A I.length c ∧ OwnZ w' w.heap.size w'.heap.size A c I ∧ Below w.heap.size w w' := by
 refine callsR Tryz.func38 rfl rfl (by kernel_rfl) rfl ?_
 have hw := Below.refl w.heap.size w
 have hCl := hd.len
 have hle := hd.n2
 refine zs (za rfl (wl_nil (zs (za rfl (wl_nil (rk_seq (zs (za rfl (wl_nil (rk_block ?_))))))))))
 refine rk_joinf (fun fb fr V => ∃ A c, fr = [(3, .slice A I.length c)] ++ fb.drop 2 ∧ OwnZ V w.heap.size V.heap.size A c I ∧ Below w.heap.size w V) ?_ (fun ks hj => ?_)
 rotate_left
 ·refine rk_loopf (fun fb m fr V => ∃ (i : Nat) (v : Int) (A : Option Addr) (c : Nat) (Z : List Int), fr = [(4, .int .i64 v), (3, .slice A Z.length c)] ++ fb.drop 2 ∧ v = i ∧ i ≤ S.length ∧ m = S.length - i ∧ Z = ixz (C.take i) ∧ OwnZ V w.heap.size V.heap.size A c Z ∧ Below w.heap.size w V) (n := S.length) (Fr.le_of (by kernel_rfl) (by kernel_rfl) (by repeat' constructor)) ⟨0, _, none, 0, [], rfl, rfl, by omega, rfl, rfl, OwnZ.nil_, hw⟩ ?_
  clear hw
  rintro m fr V ⟨i, v, A, c, Z, rfl, rfl, hi', rfl, hZ, fz, hw⟩
  have hdV := hd.u hw
  have q := fz.cap
  have hsV := hw.size
  first | refine zf ?_ | refine zg ?_
  refine rk_seq (zs (zm rfl (zm rfl ?_)))
  refine wl_call rfl (C_qSize _ hdV) ?_
  rintro v7 w7 ⟨rfl, rfl⟩
  refine zp (o_lt rfl rfl) ?_
  refine wl_nil ?_
  refine rk_if rfl (fun h8 => ?_) (fun h8 => ?_)
  ·obtain ⟨A1, c1, D, q1, H, f, fa, fh, fc⟩ := hdV.ex
   have hHl := fc.len
   have hiC : i < C.length := by omega
   have h1 := fc.at_ hiC
   have hZs := ixz_take hiC
   have hZl : Z.length ≤ 16384 := by rw [hZ, ixz_len]; have := cnt_le (C.take i); rw [List.length_take] at this; omega
   cases hcc : C[i] with
   | some s =>
    rw [hcc] at h1 hZs
    obtain ⟨k1, k2, k3, k4, k5⟩ := h1
    refine rk_skip (rk_seq (rk_block (zs (zm rfl ?_))))
    refine zp (o_nil rfl) ?_
    refine zp (o_faddr (s := 74) (i := 1) (off := 1) Tryz.underlying74 rfl Tryz.sizeOf72 rfl rfl rfl) ?_
    refine wl_r (o_loadbg Tryz.isAgg72 rfl f (by rfl)) ?_
    refine zm rfl ?_
    refine zp (o_iaddrA1 (i) Tryz.underlying72 Tryz.sizeOf35 rfl rfl rfl (fh.some_ (by omega)) (by omega)) ?_
    refine wl_r (o_ldHd rfl fh (by omega)) ?_
    refine zp (o_slneN Tryz.underlying35 rfl rfl) ?_
    refine wl_nil ?_
    rw [k1]
    refine rk_true rfl ?_
    refine rk_region (zm rfl (zm rfl ?_))
    refine wl_litZH [↑i] (by rfl) rfl rfl (by rfl) (by rfl) (by rfl) ?_
    rintro A21 w21 f21 b21
    have qf21 := f21.cap
    have s21 := b21.size
    replace hw := hw.trans (b21.mono hw.size)
    replace k4 := k4.u b21
    replace fc := fc.u b21
    replace fh := fh.u b21
    replace fa := fa.u b21
    replace f := f.u b21
    replace hdV := hdV.u b21
    replace fz := fz.u b21
    refine wl_appZ rfl fz rfl rfl f21.to_RZ (by rfl) (by omega) hw.size ?_
    rintro A22 c22 w22 f22 g22 b22 i22
    have qf22 := f22.cap
    have s22 := g22.size
    replace hw := hw.trans (b22.mono (by omega))
    replace hdV := hdV.y g22 (by decide)
    replace f := f.y g22 (by decide)
    replace fa := fa.y g22 (by decide)
    replace fh := fh.y g22 (by decide)
    replace fc := fc.y g22 (by decide)
    replace f21 := f21.k g22.g (fz.ap (by omega))
    clear fz
    clear k4
    refine za rfl (wl_nil ?_)
    refine rk_blk ?_
    refine rk_region (zm rfl ?_)
    refine zp (o_add rfl rfl (by omega) (by omega)) ?_
    refine za rfl (wl_nil ?_)
    exact rk_againf (Fr.le_of (by kernel_rfl) (by kernel_rfl) (by repeat' constructor)) ⟨i + 1, (i : Int) + 1, _, _, Z ++ [(i : Int)], rfl, by omega, by omega, rfl, by rw [hZs, hZ]; rfl, f22.base (Nat.le_refl _) (by omega), hw⟩ (by omega)
   | none =>
    rw [hcc] at h1 hZs
    have k1 : H[i] = (none, 0, 0) := h1
    refine rk_skip (rk_seq (rk_block (zs (zm rfl ?_))))
    refine zp (o_nil rfl) ?_
    refine zp (o_faddr (s := 74) (i := 1) (off := 1) Tryz.underlying74 rfl Tryz.sizeOf72 rfl rfl rfl) ?_
    refine wl_r (o_loadbg Tryz.isAgg72 rfl f (by rfl)) ?_
    refine zm rfl ?_
    refine zp (o_iaddrA1 (i) Tryz.underlying72 Tryz.sizeOf35 rfl rfl rfl (fh.some_ (by omega)) (by omega)) ?_
    refine wl_r (o_ldHd rfl fh (by omega)) ?_
    refine zp (o_slneN Tryz.underlying35 rfl rfl) ?_
    refine wl_nil ?_
    rw [k1]
    simp only [Option.isSome_none]
    refine rk_false rfl ?_
    refine rk_skip ?_
    refine rk_blk ?_
    refine rk_region (zm rfl ?_)
    refine zp (o_add rfl rfl (by omega) (by omega)) ?_
    refine za rfl (wl_nil ?_)
    exact rk_againf (Fr.le_of (by kernel_rfl) (by kernel_rfl) (by repeat' constructor)) ⟨i + 1, (i : Int) + 1, _, _, Z, rfl, by omega, by omega, rfl, by rw [hZs, hZ]; simp, fz, hw⟩ (by omega)
  ·refine rk_exit rfl ?_
   obtain rfl : i = S.length := by omega
   rw [List.take_of_length_le (by omega), hr] at hZ
   subst hZ
   exact rk_tof hj (Fr.le_of (by kernel_rfl) (by kernel_rfl) (by repeat' constructor)) ⟨_, _, rfl, fz, hw⟩
 clear hw
 rintro fr V ⟨A, c, rfl, fz, hw⟩
 have q := fz.cap
 first | refine zf ?_ | refine zg ?_
 refine zs (zm rfl (za rfl (wl_nil ?_)))
 refine ret1 rfl rfl ?_
 exact ⟨A, c, rfl, fz, hw⟩
end Go.Proofs.YtnnhenafhalobaaGreat
