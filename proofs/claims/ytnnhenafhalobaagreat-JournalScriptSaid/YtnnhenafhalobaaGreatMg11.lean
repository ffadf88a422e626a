/-
  Walks of the document's journal: Switch.
-/
import Derived.Test.YtnnhenafhalobaaGreatMg10
namespace Go.Proofs.YtnnhenafhalobaaGreat
set_option maxRecDepth 100000
open Go.RowKit
theorem run_append_zq {P : Program} (w : World) (t ti ty e : TypeId) (i : TypeInfo) (ht : P.underlying t = some (.slice e)) (hti : P.underlying ti = some (.int .i64)) (hi : P.info? e = some i) (hz : i.zero = some (.int .u8 0)) (hsize : i.size = 1) (hby : i.bytes = 1)
  (A : Option Addr) (n c : Nat) (hc : n ≤ c) : (Builtin.append_ #[t, ti] ty #[.slice A n c, .int .i64 0]).run P w = .ok (.slice A n c) w := by
 have hw : IntKind.i64.wrap 0 = 0 := i64_in (by omega) (by omega)
 cases A <;> simp [Builtin.append_, run_underlying ht, run_underlying hti, sizeOf, typeInfo, zeroValue, hi, hz, hsize, hby, asInt, asIntOf, hw, Builtin.lenOf, hc, Builtin.firstCells, Builtin.zeroCells, storeCells]
section
variable {fn : Func} {F : Ending → World → Prop} {N : Nat} {ks : List K} {ops : Array Oper} {tg : Tags} {l : List Oper} {fr : Fr} {w : World} {ty : TypeId} {pos : String} {aft : Array Edge} {gd : Option (Nat × Bool)} {d n c lo hi : Nat} {x y : Operand} {A : Option Addr} {s : List UInt8}
theorem wl_appZq (m : Nat) {M : Int} (hx : fr.ev x = some (.slice A n c)) (hown : OwnH w lo hi A c s) (hn : n = s.length) (hy : fr.ev y = some (.int .i64 M)) (hM : M = (m : Int)) (hlen : s.length + m ≤ 4000000000) (hB : lo ≤ w.heap.size)
  (h : ∀ A' c' w', OwnH w' lo w'.heap.size A' c' (s ++ List.replicate m 0) → Grew w w' 5 (blk A) → Below lo w w' → WL Tryz.prog fn F N ks ops tg.tail l ((d, .slice A' (s ++ List.replicate m 0).length c') :: fr) w')
  (ht : tg.loud = true := by rfl) (hg : onG ops fr gd = true := by rfl) (hd : Nat.blt d N = true := by rfl) (hq : tg.calm = false ∨ blk A = none ∨ blk A = tg.row := by exact .inl rfl) :
  WL Tryz.prog fn F N ks ops tg (⟨some d, .call { callee := .builtin .append, args := #[x, y], argTypes := #[35, 3] }, ty, pos, aft, gd⟩ :: l) fr w := by
 rcases Nat.eq_zero_or_pos m with hm | hm
 ·subst hm; subst hn; subst hM
  obtain ⟨i, hi', hz, hs, hb⟩ := info_parts Tryz.u8.hi
  have hrun := run_append_zq (P := Tryz.prog) w 35 3 ty 5 i Tryz.u8.ht Tryz.underlying3 hi' hz hs hb A s.length c hown.cap
  have h2 := h A c w (by rw [List.replicate_zero, List.append_nil]; exact hown.top) ⟨grown_of_below (Below.refl _ _) _, fun k hk => RowH.ty hown k hk⟩ (Below.refl _ _)
  rw [List.replicate_zero, List.append_nil] at h2
  exact wl_v (o_builtin (xs := [x, y]) (vs := [.slice A s.length c, .int .i64 0]) (by simp [Fr.evs, hx, hy]) (by simp [builtin, hrun]) (by simp)) h2 ht hg hd (.inr (grown_of_below (Below.refl _ _) _))
 ·exact wl_appZj m hx hown hn hy hM hm hlen hB h ht hg hd hq
end
section
variable {fn : Func} {F : Ending → World → Prop} {N : Nat} {ks : List K} {ops : Array Oper} {tg : Tags} {l : List Oper} {fr : Fr} {w w0 : World} {ty : TypeId} {pos : String} {aft : Array Edge} {gd : Option (Nat × Bool)} {d j : Nat} {x : Operand} {A : Option Addr} {L : List Rc}
theorem wl_ldRecDs (hx : fr.ev x = some (.pointer (some (adr A (j * 2 + 1))))) (hr : RRec w0 A L) (hb : ∀ w', tg.rw.ok w w' → Below w0.heap.size w0 w') (hj : j < L.length)
  (hk : ∀ A1 c1, Rd w0 A1 L[j].2 → L[j].2.length ≤ c1 → c1 ≤ maxLen → WL Tryz.prog fn F N ks ops tg.tail l ((d, .slice A1 L[j].2.length c1) :: fr) w)
  (ht : tg.stays = true := by rfl) (hg : onG ops fr gd = true := by rfl) (hd : Nat.blt d N = true := by rfl) : WL Tryz.prog fn F N ks ops tg (⟨some d, .load 35 x, ty, pos, aft, gd⟩ :: l) fr w := by
 obtain ⟨A1, c1, h1, h2, h3, h4⟩ := hr.elem hj
 exact wl_s (fun w' hw' => o_load (t := 35) Tryz.isAgg35 hx (h1.u (hb w' hw') 1 _ rfl)) (hk A1 c1 h2 h3 h4) ht hg hd
end
theorem over_zeros {b : By} {m : Nat} (h : b.length ≤ m) : b ++ List.replicate (m - b.length) 0 = overJ (List.replicate m 0) 0 b := by
 apply List.ext_getElem?
 intro i
 rw [overJ_get (by rw [List.length_replicate]; omega), if_neg (by omega), Nat.zero_add, Nat.sub_zero]
 by_cases hi : i < b.length
 ·rw [if_pos hi, List.getElem?_append_left hi]
 ·rw [if_neg hi, List.getElem?_append_right (by omega), List.getElem?_replicate, List.getElem?_replicate]
  by_cases h2 : i < m
  ·rw [if_pos h2, if_pos (by omega)]
  ·rw [if_neg h2, if_neg (by omega)]
set_option maxRecDepth 100000 in
set_option maxHeartbeats 4000000 in
theorem K_r9Switch {fl fh fg rg a e e1 nl cl nr c0 : Nat} {t s : Int} {X : Nat → Prop} {S S1 S2 : List Sec} {C Ca Cb C1 : List (Option Sec)} {L AA : Option Addr} {ch b nx hx TW ZA : By} {R : List Rc} {u : D32} (w : World) (hd : RqAt w fl fh X fg S C) (hX : ∀ k, X k → k ≠ rg ∧ fh ≤ k) (hQ : ∀ k, w.heap.size ≤ k → X k) (hg : fh ≤ rg) (hB : Blk w rg 66 (rJ (some ⟨fg, 0, none⟩) a e L nl cl s ch t)) (hch : ch.length = 32) (hR : RRq X w AA R) (hnr : nr = R.length) (hRo : ∀ r ∈ R, OkR r) (hRl : ∀ r ∈ R, r.2.length ≤ 3500) (ha : 1 ≤ a ∧ a ≤ 256) (he : e < 18446744073709551616) (he1 : (e + 1) % 18446744073709551616 = e1) (hu : sumB [wB8 e1] = u.1) (hb : bytesAll u.1 R = b) (hnx : chainAll u.1 R = nx) (hfit : b.length ≤ a * 256) (hS : 2 + 2 * a ≤ S.length) (hZA : List.replicate (a * 256) 0 = ZA) (hTW : overJ ZA 0 b = TW) (h1 : wrs C (2 + e1 % 2 * a) (secsN a TW) = Ca) (h2 : cur S Ca = S1) (h4 : List.replicate S.length none = C1) (hhb : headB e1 a = hx) (h5 : wrs C1 (e1 % 2) (secsN 1 hx) = Cb) (h6 : cur S1 Cb = S2) :
  CallsR Tryz.prog 32 [.pointer (some ⟨rg, 0, none⟩), .slice AA nr c0] w fun v w' => v = .int .i64 0 ∧ ∃ A' c', Blk w' rg 66 (rJ (some ⟨fg, 0, none⟩) a e1 A' R.length c' (R.length : Int) nx (b.length : Int)) ∧ RRq X w' A' R ∧ R.length ≤ c' ∧ RqAt w' fl fh X fg S2 C1 ∧ RCh fl fh rg w w' := by
 subst hnr
 have hn32 : nx.length = 32 := by rw [← hnx]; exact chainAll_len u.2 _
 have hZl : ZA.length = a * 256 := by rw [← hZA, List.length_replicate]
 have hTl : TW.length = 256 * a := by rw [← hTW, overJ_len (by omega)]; omega
 have hS1 : S1.length = S.length := by rw [← h2, cur_len]
 have h4b : List.replicate S1.length none = C1 := by rw [hS1, h4]
 have hS2l : S2.length = S.length := by rw [← h6, cur_len, hS1]
 have h4c : List.replicate S2.length none = C1 := by rw [hS2l, h4]
 obtain ⟨n0, hn0⟩ : ∃ n0, 2 + e1 % 2 * a = n0 := ⟨_, rfl⟩
 have hn0b : n0 ≤ 2 + a := by
  rw [← hn0]
  have := Nat.mul_le_mul_right a (show e1 % 2 ≤ 1 by omega)
  omega
 have hR65 : R.length ≤ 65536 := by have := bytesAll_ge u.1 R; rw [hb] at this; omega
 have he2 : e1 < 18446744073709551616 := by omega
 have hu32 := u.2
 have hdh := hd.hi
 have hgw := hB.lt
 have kR : ∀ W, Below w.heap.size w W → RRq X W AA R := fun W h => hR.u h
 have kC : ∀ W, Chg fl fh w W → RRq X W AA R := fun W h => hR.keep (fun k hx hl => h.block k hl (.inr (hX k hx).2))
 have kd : ∀ W, Below w.heap.size w W → RqAt W fl fh X fg S C := fun W h => hd.u h
 have kB : ∀ W, Below w.heap.size w W → Blk W rg 66 (rJ (some ⟨fg, 0, none⟩) a e L nl cl s ch t) := fun W h => hB.u h
 have hR0 := hR.to_RRec
 refine callsR Tryz.func32 rfl rfl (by kernel_rfl) rfl ?_
 have hw := Below.refl w.heap.size w
 refine zs (za rfl (wl_nil (zs (zm rfl ?_))))
 refine zp (o_nil rfl) ?_
 refine zp (o_faddr (s := 66) (i := 2) (off := 2) Tryz.underlying66 rfl Tryz.sizeOf52 rfl rfl rfl) ?_
 refine wl_r (o_loadbg Tryz.isAgg52 rfl hB (by rfl)) ?_
 refine zp (o_addw rfl rfl) ?_
 refine za rfl (wl_nil (zs (zm rfl ?_)))
 rw [show IntKind.u64.wrap ((e : Int) + 1) = (e1 : Int) by rw [← he1]; simp [IntKind.wrap, IntKind.signed, IntKind.bits]]
 refine wl_call rfl (C_r8First _ rfl (by omega) hu) ?_
 rintro v22 w22 ⟨rfl, b22⟩
 have s22 := b22.size
 replace hw := hw.trans (b22.mono hw.size)
 refine wl_allocB Tryz.underlying64 Tryz.zeroValue64 (by rfl) ?_
 rintro g6 w6 f6 b6 i6 i6_1
 have s6 := b6.size
 replace hw := hw.trans (b6.mono hw.size)
 refine wl_stBa Tryz.sizeOf64 rfl f6 rfl hu32 (by rfl) ?_
 rintro w_1 f g e_1
 have s_1 := g.size
 replace hw := hw.trans (below_of_grownBy g.g hw.size (by omega))
 clear f6
 refine wl_nil (zs (za rfl (wl_nil (rk_seq (zs (za rfl (wl_nil (rk_block ?_))))))))
 clear hd hB hR
 have hg6 : w.heap.size ≤ g6 := by omega
 refine rk_joinf (fun fb fr W => ∃ (L' : Option Addr) (c' : Nat), fr = [(7, .slice L' b.length c')] ++ fb.drop 2 ∧ Blk W g6 64 (B8 nx) ∧ OwnH W w.heap.size W.heap.size L' c' b ∧ Below w.heap.size w W) ?_ (fun ks hj => ?_)
 rotate_left
 ·refine rk_loopf (fun fb m fr W => ∃ (i : Nat) (v : Int) (L' : Option Addr) (c' : Nat) (q x : By), fr = [(8, .int .i64 v), (7, .slice L' q.length c')] ++ fb.drop 2 ∧ v = i ∧ i ≤ R.length ∧ m = R.length - i ∧ q = bytesAll u.1 (R.take i) ∧ x = chainAll u.1 (R.take i) ∧ Blk W g6 64 (B8 x) ∧ OwnH W w.heap.size W.heap.size L' c' q ∧ Below w.heap.size w W) (n := R.length) (Fr.le_of (by kernel_rfl) (by kernel_rfl) (by repeat' constructor)) ⟨0, _, none, 0, [], u.1, rfl, rfl, by omega, rfl, rfl, rfl, f, OwnH.nil_, hw⟩ ?_
  clear hw f
  rintro m fr W ⟨i, v, L', c', q, x, rfl, rfl, hi, rfl, hq, hxx, fj, fo, hw⟩
  have shw := hw.size
  have hgj := fj.lt
  have hx32 : x.length = 32 := by rw [hxx]; exact chainAll_len u.2 _
  have hql : q.length ≤ b.length := by rw [hq, ← hb]; exact bytesAll_take_le _ _ _
  first | refine zf ?_ | refine zg ?_
  by_cases hil : i < R.length
  ·have hO := hRo _ (List.getElem_mem hil)
   have hpl := hRl _ (List.getElem_mem hil)
   have e1' := bytesAll_succ u.1 R hil
   have e2' := chainAll_succ u.1 R hil
   obtain ⟨bs, hbs⟩ : ∃ bs, bytesR x R[i] = bs := ⟨_, rfl⟩
   obtain ⟨y, hy⟩ : ∃ y, nextB x R[i] = y := ⟨_, rfl⟩
   have hy32 : y.length = 32 := by rw [← hy]; exact nextB_len _ _
   rw [← hq, ← hxx, hbs] at e1'
   rw [← hxx, hy] at e2'
   have hql2 : q.length + bs.length ≤ b.length := by rw [← List.length_append, ← e1', ← hb]; exact bytesAll_take_le _ _ _
   refine rk_seq (zs (zm rfl (zm rfl ?_)))
   refine zp (o_len (t := 44) Tryz.underlying44 rfl) ?_
   refine zp (o_lt rfl rfl) ?_
   refine wl_nil ?_
   refine rk_if rfl (fun h26 => ?_) (fun h26 => h26.elim (by omega))
   refine rk_skip (rk_seq (rk_block (rk_seq ?_)))
   refine rk_drawo (id := 7) (none) [0, 0, 0, 6, 8, 17, 32, 64, 64, 64, 0, 1279, 3583, 8191] [0, 0, 0, 6, 14, 31, 63, 127, 127, 127, 0, 1279, 3583, 8191] 5152 1024 [0, 1, 2, 3, 4] [(.s, 0), (.p, 1), (.p, 2), (.p, 3), (.s, 4), (.f 31 5152 1024, 9)] (by kernel_rfl) (by kernel_rfl) (by kernel_rfl) (by kernel_rfl) (by kernel_rfl) ?_
   dsimp only [inOrder, nthOp]
   replace hw := hw.drew
   replace fo := fo.d
   replace fj := fj.d
   refine wl_s (fun _ hk => (o_ldBa Tryz.isAgg64 Tryz.sizeOf64 rfl (fj.u (below_of_grown_none hk)) hx32)) ?_
   refine zm rfl (zm rfl ?_)
   refine zp (o_iaddrA (i) Tryz.underlying44 Tryz.sizeOf37 rfl rfl rfl (hR0.some_ (by omega)) (by omega)) ?_
   refine wl_ldRecS rfl hR0 (fun _ hk => hw.trans ((below_of_grown_none hk).mono hw.size)) (by omega) ?_
   rintro A134 c134 f34 i34 i34_1
   refine wl_conc [⟨5, [(.p, 6), (.p, 7), (.p, 8), (.p, 9)], [38, 37, 36, 29, 35], [], fun vs w' lo hi => ∃ (A36 : Option Addr) (c36 : Nat) (u29 u35 : Value), vs = [.int .i64 0, .agg (B8 y).toArray, .slice A36 bs.length c36, u29, u35] ∧ OwnH w' lo hi A36 c36 bs⟩, ⟨10, [], [10], [], fun vs w' lo hi => ∃ (g10 : Nat), vs = [.pointer (some ⟨g10, 0, none⟩)] ∧ Blk w' g10 64 (B8 nul32) ∧ lo ≤ g10 ∧ g10 < hi⟩] [0, 1] [0, 0, 0, 6, 8, 17, 32, 64, 64, 64, 0, 1279, 3583, 8191] [0, 0, 0, 6, 14, 31, 63, 127, 127, 127, 0, 1279, 3583, 8191] [11, 12, 13] [(.p, 11), (.l, 12), (.p, 13)] (by kernel_rfl) (by kernel_rfl) (by kernel_rfl) (by kernel_rfl) ⟨fun _ _ _ _ _ h hb => by obtain ⟨A36, c36, u29, u35, e0, g0⟩ := h; exact ⟨A36, c36, u29, u35, e0, g0.u hb⟩, fun _ _ _ _ _ h hb => by obtain ⟨g10, e0, g0, g1, g2⟩ := h; exact ⟨g10, e0, g0.u hb, g1, g2⟩, trivial⟩ ⟨?_, ?_, trivial⟩ ?_
   ·intro wI hbI fo T T2 n2
    intro hk
    dsimp only [Item.idx, inOrder, nthOp, List.map, List.zip_cons_cons, List.zip_nil_right, List.cons_append, List.nil_append]
    have shbI := hbI.size
    simp only [drew_size] at shbI
    replace hw := hw.trans (hbI.mono hw.size)
    replace fj := fj.u hbI
    have hw1 := Below.refl wI.heap.size wI
    refine wl_call rfl (C_r8BytesOk _ (by rfl) (f34.u hw) (by omega) hbs hy rfl (by omega) hx32) ?_
    rintro v35 w35 ⟨A35, ⟨c35, ⟨rfl, ⟨f35, b35⟩⟩⟩⟩
    have qf35 := f35.cap
    have s35 := b35.size
    replace hw := hw.trans (b35.mono hw.size)
    replace hw1 := hw1.trans (b35.mono hw1.size)
    replace fj := fj.u b35
    refine zm rfl ?_
    refine zp (o_ext30 rfl) ?_
    refine zp (o_ext31 rfl) ?_
    refine zp (o_ext32 rfl) ?_
    exact hk [_, _, _, _, _] _ ⟨_, _, _, _, rfl, f35⟩ hw1
   ·intro wI hbI fo T T2 n2
    intro hk
    dsimp only [Item.idx, inOrder, nthOp, List.map, List.zip_cons_cons, List.zip_nil_right, List.cons_append, List.nil_append]
    have shbI := hbI.size
    simp only [drew_size] at shbI
    replace hw := hw.trans (hbI.mono hw.size)
    replace fj := fj.u hbI
    have hw1 := Below.refl wI.heap.size wI
    refine wl_allocB Tryz.underlying64 Tryz.zeroValue64 (by rfl) ?_
    rintro g10 w10 f10 b10 i10 i10_1
    have s10 := b10.size
    replace hw := hw.trans (b10.mono hw.size)
    replace hw1 := hw1.trans (b10.mono hw1.size)
    replace fj := fj.u b10
    exact hk [_] _ ⟨_, rfl, f10, by omega, by omega⟩ hw1
   intro wE hbE
   rintro _ lo0 hi0 ⟨A36, c36, u29, u35, rfl, f35⟩ ql0 qm0 qh0 -
   rintro _ lo1 hi1 ⟨g10, rfl, f10, f10_1, f10_2⟩ ql1 qm1 qh1 ⟨qa1_0, -⟩
   try dsimp only at ql0 qm0 qh0  ql1 qm1 qh1 qa1_0
   try simp only [drew_size] at ql0 qm0 qh0  ql1 qm1 qh1 qa1_0
   dsimp only [given, Item.idx, inOrder, nthOp, List.map, List.zip_cons_cons, List.zip_nil_right]
   have shbE := hbE.size
   simp only [drew_size] at shbE
   replace hw := hw.trans (hbE.mono hw.size)
   replace fj := fj.u hbE
   replace fo := fo.u hbE
   refine za rfl ?_
   refine wl_stBa Tryz.sizeOf64 rfl f10 rfl hy32 (by rfl) ?_
   rintro w_2 f g_1 e_2
   have s_2 := g_1.size
   replace hw := hw.trans (below_of_grownBy g_1.g hw.size (by omega))
   replace fo := fo.k g_1.g (ap_some (by omega))
   replace fj := fj.k g_1.g (ap_some (by omega))
   replace f35 := f35.k g_1.g (ap_some (by omega))
   clear f10
   refine za rfl ?_
   refine wl_nild ?_
   refine rk_seq (zs (zm rfl ?_))
   refine zp (o_ne rfl rfl) ?_
   refine wl_nil ?_
   refine rk_false rfl ?_
   refine rk_skip ?_
   refine rk_drawo (id := 10) ((blk L')) [0, 0, 3, 0, 7, 31] [0, 0, 3, 0, 7, 31] 36 4 [0, 1, 3, 2, 4, 5] [(.p, 0), (.p, 1), (.s, 3), (.c, 2), (.p, 4), (.l, 5)] (by kernel_rfl) (by kernel_rfl) (by kernel_rfl) (by kernel_rfl) (by kernel_rfl) ?_; dsimp only [inOrder, nthOp]
   replace fo := fo.d
   replace fj := fj.d
   replace f35 := f35.d
   replace f := f.d
   replace hw := hw.drew
   refine zm rfl (zm rfl ?_)
   refine wl_s (fun _ hk => (o_ldBa Tryz.isAgg64 Tryz.sizeOf64 rfl (f.k hk (fo.ap (by omega))) hy32)) ?_
   refine wl_appB Tryz.u8 rfl fo rfl rfl f35.to_Rd rfl (by omega) hw.size ?_ (hq := .inr (.inr rfl))
   rintro A44 c44 w44 f44 g44 b44 i44
   simp only [drew_size] at i44
   have qf44 := f44.cap
   have s44 := g44.size
   simp only [drew_size] at s44
   replace hw := hw.trans (b44.mono (by omega))
   replace f := f.y g44 (by decide)
   replace f35 := f35.k g44.g (fo.ap (by omega))
   replace fj := fj.y g44 (by decide)
   clear fo
   refine za rfl ?_
   refine wl_stBa Tryz.sizeOf64 rfl fj rfl hy32 hx32 ?_
   rintro w_3 f_1 g_2 e_3
   have s_3 := g_2.size
   replace hw := hw.trans (below_of_grownBy g_2.g hw.size (by omega))
   replace f35 := f35.k g_2.g (ap_some (by omega))
   replace f := f.k g_2.g (ap_some (by omega))
   replace f44 := f44.y g_2 (by decide)
   clear fj
   refine wl_nild ?_
   refine rk_blk ?_
   refine rk_region (zm rfl ?_)
   refine zp (o_add rfl rfl (by omega) (by omega)) ?_
   refine za rfl (wl_nil ?_)
   exact rk_againf (Fr.le_of (by kernel_rfl) (by kernel_rfl) (by repeat' constructor)) ⟨i + 1, (i : Int) + 1, A44, c44, q ++ bs, y, rfl, by omega, by omega, rfl, e1'.symm, e2'.symm, f_1, f44.top, hw⟩ (by omega)
  ·refine rk_seq ?_
   refine zs (zm rfl (zm rfl ?_))
   refine zp (o_len (t := 44) Tryz.underlying44 rfl) ?_
   refine zp (o_lt rfl rfl) ?_
   refine wl_nil ?_
   refine rk_if rfl (fun h26 => absurd h26 (by omega)) (fun h26 => ?_)
   refine rk_exit rfl ?_
   obtain rfl : i = R.length := by omega
   rw [List.take_length] at hq hxx
   obtain rfl : q = b := hq.trans hb
   obtain rfl : x = nx := hxx.trans hnx
   exact rk_tof hj (Fr.le_of (by kernel_rfl) (by kernel_rfl) (by repeat' constructor)) ⟨L', c', rfl, fj, fo, hw⟩
 clear hw f
 rintro fr W ⟨L', c', rfl, fj, fo, hw⟩
 have shw := hw.size
 first | refine zf ?_ | refine zg ?_
 have hB := kB W hw
 refine rk_seq (zs (zm rfl ?_))
 refine zp (o_len (t := 35) Tryz.underlying35 rfl) ?_
 refine zm rfl ?_
 refine zp (o_nil rfl) ?_
 refine zp (o_faddr (s := 66) (i := 1) (off := 1) Tryz.underlying66 rfl Tryz.sizeOf3 rfl rfl rfl) ?_
 refine wl_r (o_loadbg Tryz.isAgg3 rfl hB (by rfl)) ?_
 refine zp (o_mul rfl rfl (by omega) (by omega)) ?_
 refine zp (o_gt rfl rfl) ?_
 refine wl_nil ?_
 refine rk_if rfl (fun h53 => absurd h53 (by omega)) (fun h53 => ?_)
 refine rk_skip (zs (zm rfl ?_))
 refine zp (o_len (t := 35) Tryz.underlying35 rfl) ?_
 refine za rfl (wl_nil (zs (zm rfl (zm rfl ?_))))
 refine zp (o_nil rfl) ?_
 refine zp (o_faddr (s := 66) (i := 1) (off := 1) Tryz.underlying66 rfl Tryz.sizeOf3 rfl rfl rfl) ?_
 refine wl_r (o_loadbg Tryz.isAgg3 rfl hB (by rfl)) ?_
 refine zp (o_mul rfl rfl (by omega) (by omega)) ?_
 refine zm rfl ?_
 refine zp (o_sub rfl rfl (by omega) (by omega)) ?_
 refine wl_appZq (a * 256 - b.length) rfl fo rfl rfl (by omega) (by omega) (by omega) ?_
 rintro A64 c64 w64 f64 g64 b64
 have hbZ : b ++ List.replicate (a * 256 - b.length) 0 = TW := by rw [over_zeros (by omega), hZA, hTW]
 rw [hbZ] at f64
 rw [hbZ]
 replace hw := hw.trans b64
 clear fo hB hR0
 replace fj := fj.y g64 (by decide)
 clear g64 b64
 have sz64 := hw.size
 have hcg : Chg fl fh w w64 := Chg.of_below hw
 have hd64 := kd _ hw
 have hB64 := kB _ hw
 clear hw
 obtain ⟨SS, hSS⟩ : ∃ SS, secsN a TW = SS := ⟨_, rfl⟩
 have hSSl : SS.length = a := by rw [← hSS, secsN_len]
 rw [hSS, hn0] at h1
 refine za rfl (wl_nil (rk_seq (zs (za rfl (wl_nil (rk_block ?_))))))
 refine rk_joinf (fun fb fr W => fr = [] ++ fb.drop 1 ∧ RqAt W fl fh X fg S Ca ∧ Blk W rg 66 (rJ (some ⟨fg, 0, none⟩) a e L nl cl s ch t) ∧ Blk W g6 64 (B8 nx) ∧ Chg fl fh w W) ?_ (fun ks hj => ?_)
 rotate_left
 ·refine rk_loopf (fun fb m fr W => ∃ (j : Nat) (v : Int) (D : List (Option Sec)), fr = [(13, .int .i64 v)] ++ fb.drop 1 ∧ v = 256 * j ∧ j ≤ a ∧ m = a - j ∧ wrs C n0 (SS.take j) = D ∧ RqAt W fl fh X fg S D ∧ Blk W rg 66 (rJ (some ⟨fg, 0, none⟩) a e L nl cl s ch t) ∧ Blk W g6 64 (B8 nx) ∧ OwnH W w.heap.size w64.heap.size A64 c64 TW ∧ Chg fl fh w W) (n := a) (Fr.le_of (by kernel_rfl) (by kernel_rfl) (by repeat' constructor)) ⟨0, _, C, rfl, rfl, by omega, rfl, by simp [wrs], hd64, hB64, fj, f64, hcg⟩ ?_
  clear hd64 hB64 fj f64 hcg
  rintro m fr W ⟨j, v, D, rfl, rfl, hj, rfl, hD, hd, hB, fj, f64, hcg⟩
  have shw := hcg.size
  first | refine zf ?_ | refine zg ?_
  by_cases hja : j < a
  ·have hst := wrs_take_succ (ss := SS) (C := C) (n := n0) (j := j) (by omega)
   obtain ⟨D2, hD2⟩ : ∃ D2, wrs C n0 (SS.take (j + 1)) = D2 := ⟨_, rfl⟩
   obtain ⟨bq, hbq⟩ : ∃ bq, (TW.drop (256 * j)).take 256 = bq := ⟨_, rfl⟩
   have hql : bq.length = 256 := by rw [← hbq, List.length_take, List.length_drop]; omega
   have hSj : SS[j]'(by omega) = ⟨bq, hql⟩ := by
    subst hSS
    rw [secsN_get _ _ _ hja]
    apply Subtype.ext
    rw [hbq]
    exact secOf_val hql
   have hDl := hd.len
   have hw3 : wrC S D ((n0 + j : Nat) : Int) bq = (D2, 0) := by
    rw [wrC_ok (by omega) hql, secsN_one hql, ← hD2, hst, hD, hSj]
    rfl
   refine rk_seq (zs (zm rfl (zm rfl ?_)))
   refine zp (o_len (t := 35) Tryz.underlying35 rfl) ?_
   refine zp (o_lt rfl rfl) ?_
   refine wl_nil ?_
   refine rk_if rfl (fun h68 => ?_) (fun h68 => h68.elim (by omega))
   refine rk_skip (rk_seq (rk_block ?_))
   refine rk_drawo (id := 18) (none) [0, 1, 2, 4, 0, 0, 32, 64, 128, 272, 0, 1024, 2560, 0, 0, 0, 32768, 90112, 135688] [0, 1, 3, 7, 0, 0, 32, 96, 224, 496, 0, 1024, 4080, 0, 0, 0, 32768, 122880, 262143] 262656 512 [0, 1, 2, 3, 4, 5, 6, 7, 8, 10, 11, 13, 14, 15, 16, 17, 9, 12, 18] [(.p, 0), (.p, 1), (.p, 2), (.s, 3), (.p, 4), (.p, 5), (.p, 6), (.p, 7), (.r, 8), (.p, 10), (.p, 11), (.p, 13), (.p, 14), (.p, 15), (.p, 16), (.p, 17), (.c, 9), (.p, 12), (.l, 18)] (by kernel_rfl) (by kernel_rfl) (by kernel_rfl) (by kernel_rfl) (by kernel_rfl) ?_
   dsimp only [inOrder, nthOp]
   replace hcg := hcg.trans Chg.drew
   replace f64 := f64.d
   replace fj := fj.d
   replace hB := hB.d
   replace hd := hd.d
   refine zm rfl ?_
   refine zp (o_nil rfl) ?_
   refine zp (o_faddr (s := 66) (i := 0) (off := 0) Tryz.underlying66 rfl Tryz.sizeOf57 rfl rfl rfl) ?_
   refine wl_s (fun _ hk => (o_loadbg Tryz.isAgg57 rfl (hB.u (below_of_grown_none hk)) (by rfl))) ?_
   refine zm rfl (zm rfl ?_)
   refine zp (o_nil rfl) ?_
   refine zp (o_faddr (s := 66) (i := 1) (off := 1) Tryz.underlying66 rfl Tryz.sizeOf3 rfl rfl rfl) ?_
   refine wl_r (o_loadbg Tryz.isAgg3 rfl hB (by rfl)) ?_
   refine zm rfl ?_
   refine zp (o_quo rfl rfl (by omega) (by omega) (by omega)) ?_
   refine zm rfl (zm rfl (zm rfl ?_))
   refine zp (o_add rfl rfl (by omega) (by omega)) ?_
   refine wl_slBB Tryz.u8 (256 * j) (256 * j + 256) rfl rfl rfl f64.to_Rd rfl (by omega) (by omega) (by omega) (by omega) f64.cap ?_
   rintro A88 c88 f88 i88 i88_1
   refine wl_call rfl (C_r9first _ rfl rfl hn0 (by omega) (by omega)) ?_ (hq := .inr fun _ _ h => grown_of_below h.2 _)
   rintro v80 w80 ⟨rfl, b80⟩
   simp only [drew_size] at b80
   have s80 := b80.size
   simp only [drew_size] at s80
   replace hcg := hcg.thenB b80
   replace f88 := f88.u b80
   replace hd := hd.u b80
   replace hB := hB.u b80
   replace fj := fj.u b80
   replace f64 := f64.u b80
   refine zp (o_add rfl rfl (by omega) (by omega)) ?_
   have hcs := hcg.size
   rw [show ((n0 : Int) + 256 * (j : Int) / 256) = ((n0 + j : Nat) : Int) by omega, show 256 * j + 256 - 256 * j = 256 by omega]
   rw [show 256 * j + 256 - 256 * j = 256 by omega, hbq] at f88
   refine wl_call rfl (C_qWrite (r := (D2, 0)) _ hd f88 hw3 (i64_wf (by omega)) (by omega) (by omega) (by omega) (fun k hk => hQ k (by omega))) ?_
   rintro _ w89 ⟨rfl, hd89, b89⟩
   have sb89 := b89.size
   replace hcg := hcg.trans (b89.wide (by omega) (by omega))
   replace f64 := f64.c b89 (by omega)
   replace fj := fj.c b89 (by omega)
   replace hB := hB.c b89 (by omega)
   clear hd
   clear f88
   refine wl_nild ?_
   refine rk_blk ?_
   refine rk_region (zm rfl ?_)
   refine zp (o_add rfl rfl (by omega) (by omega)) ?_
   refine za rfl (wl_nil ?_)
   exact rk_againf (Fr.le_of (by kernel_rfl) (by kernel_rfl) (by repeat' constructor)) ⟨j + 1, 256 * (j : Int) + 256, D2, rfl, by omega, by omega, rfl, hD2, hd89, hB, fj, f64, hcg⟩ (by omega)
  ·refine rk_seq ?_
   refine zs (zm rfl (zm rfl ?_))
   refine zp (o_len (t := 35) Tryz.underlying35 rfl) ?_
   refine zp (o_lt rfl rfl) ?_
   refine wl_nil ?_
   refine rk_if rfl (fun h68 => absurd h68 (by omega)) (fun h68 => ?_)
   refine rk_exit rfl ?_
   obtain rfl : j = a := by omega
   rw [List.take_of_length_le (by omega)] at hD
   obtain rfl : D = Ca := hD.symm.trans h1
   exact rk_tof hj (Fr.le_of (by kernel_rfl) (by kernel_rfl) (by repeat' constructor)) ⟨rfl, hd, hB, fj, hcg⟩
 clear hd64 hB64 fj f64 hcg
 rintro fr W ⟨rfl, hd, hB, fj, hcg⟩
 have shw := hcg.size
 first | refine zf ?_ | refine zg ?_
 refine zs (zm rfl ?_)
 refine zp (o_nil rfl) ?_
 refine zp (o_faddr (s := 66) (i := 0) (off := 0) Tryz.underlying66 rfl Tryz.sizeOf57 rfl rfl rfl) ?_
 refine wl_r (o_loadbg Tryz.isAgg57 rfl hB (by rfl)) ?_
 refine wl_call rfl (C_qFlush _ hd h2 h4) ?_
 rintro v94 w94 ⟨rfl, ⟨f94, g94⟩⟩
 have s94 := g94.size
 replace hcg := hcg.trans (g94.wide (by omega) (by omega))
 replace fj := fj.c g94 (by omega)
 replace hB := hB.c g94 (by omega)
 clear hd
 refine wl_nil (rk_seq ?_)
 refine rk_draw (id := 20) (none) [0, 1, 2, 4, 0, 16, 32, 0, 0, 256, 512, 1024, 2176, 4168] [0, 1, 3, 7, 0, 16, 48, 0, 0, 256, 768, 1792, 3968, 8191] 12288 4096 [(.p, 0), (.p, 1), (.p, 2), (.s, 3), (.p, 4), (.p, 5), (.p, 6), (.p, 7), (.p, 8), (.p, 9), (.p, 10), (.r, 11), (.c, 12), (.l, 13)] (by kernel_rfl) (by kernel_rfl) (by kernel_rfl) (by kernel_rfl) (by kernel_rfl) ?_
 replace hcg := hcg.trans Chg.drew
 replace hB := hB.d
 replace fj := fj.d
 replace f94 := f94.d
 refine zm rfl ?_
 refine zp (o_nil rfl) ?_
 refine zp (o_faddr (s := 66) (i := 0) (off := 0) Tryz.underlying66 rfl Tryz.sizeOf57 rfl rfl rfl) ?_
 refine wl_s (fun _ hk => (o_loadbg Tryz.isAgg57 rfl (hB.u (below_of_grown_none hk)) (by rfl))) ?_
 refine zm rfl ?_
 refine zp (o_remu rfl rfl (by omega) (by omega)) ?_
 refine zp (o_convi64 (src := 52) (dst := 3) Tryz.underlying52 Tryz.underlying3 rfl (by omega) (by omega)) ?_
 refine zm rfl (zm rfl ?_)
 refine zp (o_nil rfl) ?_
 refine zp (o_faddr (s := 66) (i := 1) (off := 1) Tryz.underlying66 rfl Tryz.sizeOf3 rfl rfl rfl) ?_
 refine wl_r (o_loadbg Tryz.isAgg3 rfl hB (by rfl)) ?_
 refine wl_call rfl (C_r9head _ rfl rfl hhb (by omega) (by omega)) ?_ (hq := .inr fun _ _ h => grown_of_below h.choose_spec.choose_spec.2.2.2 _)
 rintro v107 w107 ⟨A107, ⟨c107, ⟨rfl, ⟨f107, ⟨e107, b107⟩⟩⟩⟩⟩
 simp only [drew_size] at f107
 simp only [drew_size] at b107
 have qf107 := f107.cap
 have s107 := b107.size
 simp only [drew_size] at s107
 replace hcg := hcg.thenB b107
 replace f94 := f94.u b107
 replace fj := fj.u b107
 replace hB := hB.u b107
 have hhl : hx.length = 256 := by rw [← hhb, headB_len]
 have hw2 : wrC S1 C1 ((e1 % 2 : Nat) : Int) hx = (Cb, 0) := by rw [wrC_ok (by omega) hhl, h5]
 have hcs := hcg.size
 rw [show ((e1 : Int) % 2) = ((e1 % 2 : Nat) : Int) by omega]
 refine wl_call rfl (C_qWrite (r := (Cb, 0)) _ f94 f107.to_RdT.1 hw2 (i64_wf (by omega)) (by omega) (by have := f107.cap; omega) (by omega) (fun k hk => hQ k (by omega))) ?_
 rintro _ w108 ⟨rfl, hd108, b108⟩
 have sb108 := b108.size
 replace hcg := hcg.trans (b108.wide (by omega) (by omega))
 replace hB := hB.c b108 (by omega)
 replace fj := fj.c b108 (by omega)
 replace f107 := f107.c b108 (by omega)
 clear f94
 refine wl_nild ?_
 refine zs (zm rfl ?_)
 refine zp (o_nil rfl) ?_
 refine zp (o_faddr (s := 66) (i := 0) (off := 0) Tryz.underlying66 rfl Tryz.sizeOf57 rfl rfl rfl) ?_
 refine wl_r (o_loadbg Tryz.isAgg57 rfl hB (by rfl)) ?_
 refine wl_call rfl (C_qFlush _ hd108 h6 h4b) ?_
 rintro v113 w113 ⟨rfl, ⟨f113, g113⟩⟩
 dsimp only
 have s113 := g113.size
 replace hcg := hcg.trans (g113.wide (by omega) (by omega))
 replace f107 := f107.c g113 (by omega)
 replace fj := fj.c g113 (by omega)
 replace hB := hB.c g113 (by omega)
 clear hd108
 refine wl_nil (zs (za rfl (wl_nil (rk_seq (zs (za rfl (wl_nil (rk_block ?_))))))))
 have hcs := hcg.size
 have hR65b : R.length ≤ 70000 := by omega
 have kW : ∀ V, Below w113.heap.size w113 V → RqAt V fl fh X fg S2 C1 ∧ Blk V rg 66 (rJ (some ⟨fg, 0, none⟩) a e L nl cl s ch t) ∧ Blk V g6 64 (B8 nx) ∧ Chg fl fh w V := fun V h => ⟨f113.u h, hB.u h, fj.u h, hcg.thenB h⟩
 have hR2 := (kC _ hcg).to_RRec
 clear f113 hB fj hcg f107 kC kR kd kB
 have hw := Below.refl w113.heap.size w113
 refine rk_joinf (fun fb fr W => ∃ A' c', fr = [(14, .slice A' R.length c')] ++ fb.drop 2 ∧ OwnRecX X W w113.heap.size W.heap.size A' c' R ∧ Below w113.heap.size w113 W) ?_ (fun ks hj => ?_)
 rotate_left
 ·refine rk_loopf (fun fb m fr W => ∃ (i : Nat) (v : Int) (A' : Option Addr) (c' : Nat) (Q : List Rc), fr = [(15, .int .i64 v), (14, .slice A' Q.length c')] ++ fb.drop 2 ∧ v = i ∧ i ≤ R.length ∧ m = R.length - i ∧ Q = R.take i ∧ OwnRecX X W w113.heap.size W.heap.size A' c' Q ∧ Below w113.heap.size w113 W) (n := R.length) (Fr.le_of (by kernel_rfl) (by kernel_rfl) (by repeat' constructor)) ⟨0, _, none, 0, [], rfl, rfl, by omega, rfl, rfl, OwnRecX.nil_, hw⟩ ?_
  clear hw
  rintro m fr W ⟨i, v, A', c', Q, rfl, rfl, hi, rfl, hQq, fo, hw⟩
  have shw := hw.size
  have hQl : Q.length = i := by rw [hQq, List.length_take]; omega
  first | refine zf ?_ | refine zg ?_
  by_cases hil : i < R.length
  ·have hpl := hRl _ (List.getElem_mem hil)
   have ht := List.take_succ_eq_append_getElem hil
   rw [← hQq] at ht
   refine rk_seq (zs (zm rfl (zm rfl ?_)))
   refine zp (o_len (t := 44) Tryz.underlying44 rfl) ?_
   refine zp (o_lt rfl rfl) ?_
   refine wl_nil ?_
   refine rk_if rfl (fun h117 => ?_) (fun h117 => h117.elim (by omega))
   refine rk_skip (rk_seq (rk_block ?_))
   refine rk_drawoB (id := 26) (none) [0, 0, 0, 6, 8, 16, 0, 0, 0, 384, 512, 1024, 2112, 4128, 8192, 20481, 65535] [0, 0, 0, 6, 14, 30, 0, 0, 0, 384, 896, 1920, 4032, 8190, 16382, 32767, 65535] 53312 4160 [0, 1, 2, 3, 4, 5, 7, 8, 9, 10, 11, 6, 12, 13, 14, 15, 16] [(.p, 0), (.p, 1), (.p, 2), (.p, 3), (.p, 4), (.s, 5), (.p, 7), (.p, 8), (.p, 9), (.p, 10), (.s, 11), (.c, 6), (.c, 12), (.p, 13), (.l, 14), (.l, 15), (.p, 16)] (by kernel_rfl) (by kernel_rfl) (by kernel_rfl) (by kernel_rfl) (by kernel_rfl) ?_
   dsimp only [inOrder, nthOp]
   replace hw := hw.drew
   replace fo := fo.d
   refine zm rfl (zm rfl (zm rfl ?_))
   refine zp (o_iaddrA (i) Tryz.underlying44 Tryz.sizeOf37 rfl rfl rfl (hR2.some_ (by omega)) (by omega)) ?_
   refine zp (o_faddrR rfl Tryz.underlying37 (by rfl) Tryz.sizeOf5 (by rfl) (by rfl)) ?_
   refine wl_ldRecKs rfl hR2 (fun _ hk => hw.trans ((below_of_ok hk (by first | exact Nat.le_refl _ | omega) (fun _ e => by cases e)).mono (by first | exact hw.size | omega))) (by omega) ?_
   refine zm rfl (zm rfl ?_)
   refine zp (o_iaddrA (i) Tryz.underlying44 Tryz.sizeOf37 rfl rfl rfl (hR2.some_ (by omega)) (by omega)) ?_
   refine zp (o_faddrR rfl Tryz.underlying37 (by rfl) Tryz.sizeOf35 (by rfl) (by rfl)) ?_
   refine wl_ldRecDs rfl hR2 (fun _ hk => hw.trans ((below_of_ok hk (by first | exact Nat.le_refl _ | omega) (fun _ e => by cases e)).mono (by first | exact hw.size | omega))) (by omega) ?_
   rintro A1131 c1131 f131 i131 i131_1
   refine wl_litB [] Tryz.u8 Tryz.sizeOf5 Tryz.zeroValue5 (by rfl) rfl rfl (by rfl) (by rfl) (by rfl) ?_
   rintro A126 w126 f126 b126
   simp only [drew_size] at f126
   simp only [drew_size] at b126
   have qf126 := f126.cap
   have s126 := b126.size
   simp only [drew_size] at s126
   replace hw := hw.trans (b126.mono hw.size)
   replace fo := fo.u b126
   refine wl_appB00 rfl f126 rfl (f131.u hw) rfl (by omega) (by omega) ?_
   rintro A132 c132 w132 f132 b132
   have qf132 := f132.cap
   have s132 := b132.size
   replace hw := hw.trans (b132.mono hw.size)
   replace fo := fo.u b132
   replace f126 := f126.u b132
   refine zp (o_buildg [_, _] Tryz.underlying37 Tryz.zeroValue37 (by rfl) (by rfl) rfl (by rfl) (by rfl) (fun _ => by kernel_rfl)) ?_
   refine wl_litRecX (X := X) (k1 := R[i].1) (p1 := R[i].2) rfl rfl (fun k hk => hQ k (by have := (RowH.lt f132 k hk).1; omega)) f132.to_RdT rfl f132.cap (own_max f132) rfl ?_
   rintro A134 w134 f134 b134
   have sb134 := b134.size
   replace hw := hw.trans (b134.mono hw.size)
   replace f126 := f126.u b134
   replace fo := fo.u b134
   replace f132 := f132.u b134
   refine wl_appRecX rfl fo rfl rfl f134.to_RRecXT (by rfl) (by simp; omega) hw.size ?_
   rintro A135 c135 w135 f135 g135 b135
   have qf135 := f135.cap
   have s135 := g135.size
   replace hw := hw.trans (b135.mono (by omega))
   replace f132 := f132.y g135 (by decide)
   replace f126 := f126.y g135 (by decide)
   replace f134 := f134.q g135 (fo.ap (by omega)) (by decide)
   clear fo
   refine za rfl ?_
   refine wl_nild ?_
   refine rk_blk ?_
   refine rk_region (zm rfl ?_)
   refine zp (o_add rfl rfl (by omega) (by omega)) ?_
   refine za rfl (wl_nil ?_)
   exact rk_againf (Fr.le_of (by kernel_rfl) (by kernel_rfl) (by repeat' constructor)) ⟨i + 1, (i : Int) + 1, A135, c135, Q ++ [(R[i].1, R[i].2)], rfl, by omega, by omega, rfl, ht.symm, f135, hw⟩ (by omega)
  ·refine rk_seq ?_
   refine zs (zm rfl (zm rfl ?_))
   refine zp (o_len (t := 44) Tryz.underlying44 rfl) ?_
   refine zp (o_lt rfl rfl) ?_
   refine wl_nil ?_
   refine rk_if rfl (fun h117 => absurd h117 (by omega)) (fun h117 => ?_)
   refine rk_exit rfl ?_
   obtain rfl : i = R.length := by omega
   rw [List.take_length] at hQq
   subst hQq
   exact rk_tof hj (Fr.le_of (by kernel_rfl) (by kernel_rfl) (by repeat' constructor)) ⟨A', c', rfl, fo, hw⟩
 clear hw
 rintro fr W ⟨A', c', rfl, fo, hw⟩
 have shw := hw.size
 obtain ⟨hd, hB, fj, hcg⟩ := kW W hw
 clear hw kW hR2
 first | refine zf ?_ | refine zg ?_
 have hC := RCh.of_chg (rg := rg) hcg
 have hwlt : w.heap.size ≤ w113.heap.size := by omega
 clear hcg
 refine rk_seq ?_
 refine rk_draw (id := 27) ((some rg)) [0, 0, 0, 0, 0, 0, 0, 0, 128, 0, 0, 33, 2081, 4129, 14435, 30819, 47203, 129511, 260583, 391655, 1047535, 2096111, 3144687, 8388607, 16777215, 25165823] [0, 0, 0, 0, 0, 0, 0, 0, 128, 0, 0, 33, 2081, 6177, 14435, 30819, 63587, 129511, 260583, 522727, 1047535, 2096111, 4193263, 8388607, 16777215, 33554431] 38346752 598016 [(.p, 0), (.p, 1), (.p, 2), (.p, 3), (.p, 4), (.p, 5), (.p, 6), (.p, 7), (.p, 8), (.s, 9), (.p, 10), (.p, 11), (.p, 12), (.c, 13), (.p, 14), (.p, 15), (.c, 16), (.p, 17), (.p, 18), (.c, 19), (.p, 20), (.p, 21), (.l, 22), (.p, 23), (.p, 24), (.l, 25)] (by kernel_rfl) (by kernel_rfl) (by kernel_rfl) (by kernel_rfl) (by kernel_rfl) ?_
 replace fo := fo.d
 replace hd := hd.d
 replace hB := hB.d
 replace fj := fj.d
 replace hC := hC.trans (RCh.of_below (below_drew W))
 have hcx : Chg rg (rg + 1) W.drew W.drew := Chg.refl
 refine zm rfl (zm rfl (zm rfl (zm rfl (zm rfl (zm rfl (zm rfl (zm rfl ?_)))))))
 refine zp (o_len (t := 44) Tryz.underlying44 rfl) ?_
 refine wl_s (fun _ hk => (o_ldBa Tryz.isAgg64 Tryz.sizeOf64 rfl (fj.k hk (ap_some (by omega))) hn32)) ?_
 refine zm rfl ?_
 refine zp (o_nil rfl) ?_
 refine zp (o_faddr (s := 66) (i := 2) (off := 2) Tryz.underlying66 rfl Tryz.sizeOf52 rfl rfl rfl) ?_
 refine wl_stRe rfl hB rfl rfl hch ?_ (hq := .inr rfl)
 rintro w_2 f g_1 e_2
 simp only [drew_size] at e_2
 have s_2 := g_1.size
 simp only [drew_size] at s_2
 replace hcx := hcx.trans (Chg.of_g1 g_1.g (by omega) (by omega))
 replace fj := fj.k g_1.g (ap_some (by omega))
 replace hd := hd.y g_1 (by decide)
 replace fo := fo.y g_1 (by decide)
 clear hB
 refine zp (o_nil rfl) ?_
 refine zp (o_faddr (s := 66) (i := 3) (off := 3) Tryz.underlying66 rfl Tryz.sizeOf44 rfl rfl rfl) ?_
 refine wl_stRL rfl f rfl hch ?_ (hq := .inr rfl)
 rintro w_3 f_1 g_2 e_3
 have s_3 := g_2.size
 replace hcx := hcx.trans (Chg.of_g1 g_2.g (by omega) (by omega))
 replace fo := fo.y g_2 (by decide)
 replace hd := hd.y g_2 (by decide)
 replace fj := fj.k g_2.g (ap_some (by omega))
 clear f
 refine zp (o_nil rfl) ?_
 refine zp (o_faddr (s := 66) (i := 4) (off := 4) Tryz.underlying66 rfl Tryz.sizeOf3 rfl rfl rfl) ?_
 refine wl_stRs rfl f_1 rfl hch ?_ (hq := .inr rfl)
 rintro w_4 f g_3 e_4
 have s_4 := g_3.size
 replace hcx := hcx.trans (Chg.of_g1 g_3.g (by omega) (by omega))
 replace fj := fj.k g_3.g (ap_some (by omega))
 replace hd := hd.y g_3 (by decide)
 replace fo := fo.y g_3 (by decide)
 clear f_1
 refine zp (o_nil rfl) ?_
 refine zp (o_faddr (s := 66) (i := 5) (off := 5) Tryz.underlying66 rfl Tryz.sizeOf64 rfl rfl rfl) ?_
 refine wl_stRch rfl f rfl hch hn32 ?_
 rintro w_5 f_1 g_4 e_5
 have s_5 := g_4.size
 replace hcx := hcx.trans (Chg.of_g1 g_4.g (by omega) (by omega))
 replace fo := fo.y g_4 (by decide)
 replace hd := hd.y g_4 (by decide)
 replace fj := fj.k g_4.g (ap_some (by omega))
 clear f
 refine zp (o_nil rfl) ?_
 refine zp (o_faddr (s := 66) (i := 6) (off := 37) Tryz.underlying66 rfl Tryz.sizeOf3 rfl rfl rfl) ?_
 refine wl_stRt rfl f_1 rfl hn32 ?_
 rintro w_6 f g_5 e_6
 have s_6 := g_5.size
 replace hcx := hcx.trans (Chg.of_g1 g_5.g (by omega) (by omega))
 replace fj := fj.k g_5.g (ap_some (by omega))
 replace hd := hd.y g_5 (by decide)
 replace fo := fo.y g_5 (by decide)
 clear f_1
 refine wl_nild ?_
 refine zs (za rfl (wl_nil ?_))
 have hC7 := hC.trans (⟨hcx.os, hcx.tape, hcx.output, hcx.size, fun k hk _ hn => hcx.block k hk (by omega)⟩ : RCh fl fh rg W.drew _)
 refine ret1 rfl rfl ?_
 exact ⟨rfl, A', c', by assumption, fo.rrq (fun k hk => hQ k (by omega)), fo.cap, hd, hC7⟩
theorem K_r9SwitchB {fl fh fg rg a e e1 nl cl nr c0 : Nat} {t s : Int} {X : Nat → Prop} {S S2 : List Sec} {C C1 : List (Option Sec)} {L AA : Option Addr} {ch b : By} {R : List Rc} (w : World) (hd : RqAt w fl fh X fg S C) (hX : ∀ k, X k → k ≠ rg ∧ fh ≤ k) (hQ : ∀ k, w.heap.size ≤ k → X k) (hg : fh ≤ rg) (hB : Blk w rg 66 (rJ (some ⟨fg, 0, none⟩) a e L nl cl s ch t)) (hch : ch.length = 32) (hR : RRq X w AA R) (hnr : nr = R.length) (hRo : ∀ r ∈ R, OkR r) (hRl : ∀ r ∈ R, r.2.length ≤ 3500) (ha : 1 ≤ a ∧ a ≤ 256) (he : e < 18446744073709551616) (he1 : (e + 1) % 18446744073709551616 = e1) (hfit : szR R ≤ a * 256) (hS : 2 + 2 * a ≤ S.length) (hb : bytesAll (fstB e1) R = b) (hS2 : swS S C a e1 b = S2) (hC1 : List.replicate S.length none = C1) :
  CallsR Tryz.prog 32 [.pointer (some ⟨rg, 0, none⟩), .slice AA nr c0] w fun v w' => v = .int .i64 0 ∧ RJt w' fl fh X fg rg S2 C1 a e1 R R.length ∧ RCh fl fh rg w w' := by
 have hbl : b.length = szR R := by rw [← hb]; exact bytesAll_sz _ _
 subst hS2; subst hC1
 refine (K_r9Switch (u := ⟨fstB e1, sumB_len _⟩) (R := R) w hd hX hQ hg hB hch hR hnr hRo hRl ha he he1 rfl hb rfl (by rw [hbl]; exact hfit) hS rfl rfl rfl rfl rfl rfl rfl rfl).mono ?_
 rintro v w' ⟨rfl, A', c', h1, h2, h3, h4, h5⟩
 rw [hbl] at h1
 exact ⟨rfl, ⟨⟨A', c', h1, h2, h3⟩, h4, hX, hg⟩, h5⟩
theorem K_r9SwitchT {fl fh fg rg a e s e1 nr c0 : Nat} {X : Nat → Prop} {S S2 : List Sec} {C C1 : List (Option Sec)} {AA : Option Addr} {R0 R : List Rc} (w : World) (h : RJt w fl fh X fg rg S C a e R0 s) (hQ : ∀ k, w.heap.size ≤ k → X k) (hR : RRq X w AA R) (hnr : nr = R.length) (hRo : ∀ r ∈ R, OkR r) (hRl : ∀ r ∈ R, r.2.length ≤ 3500) (ha : 1 ≤ a ∧ a ≤ 256) (he : e < 18446744073709551616) (he1 : (e + 1) % 18446744073709551616 = e1) (hfit : szR R ≤ a * 256) (hS : 2 + 2 * a ≤ S.length) (hS2 : swS S C a e1 (bytesAll (fstB e1) R) = S2) (hC1 : List.replicate S.length none = C1) :
  CallsR Tryz.prog 32 [.pointer (some ⟨rg, 0, none⟩), .slice AA nr c0] w fun v w' => v = .int .i64 0 ∧ RJt w' fl fh X fg rg S2 C1 a e1 R R.length ∧ RCh fl fh rg w w' := by
 obtain ⟨L, c, hB, _, _⟩ := h.ex
 exact K_r9SwitchB w h.dk h.hX hQ h.hg hB (ch_len e R0) hR hnr hRo hRl ha he he1 hfit hS rfl hS2 hC1
end Go.Proofs.YtnnhenafhalobaaGreat
namespace Go.Proofs.YtnnhenafhalobaaGreat
set_option maxRecDepth 100000
open Go.RowKit
theorem OwnRecX.reb {X X' : Nat → Prop} {w : World} {lo hi c : Nat} {A : Option Addr} {L : List Rc} (h : OwnRecX X w lo hi A c L) (hX : ∀ k, k < w.heap.size → X k → X' k) : OwnRecX X' w lo hi A c L := by
 obtain ⟨xs, h1, h2⟩ := h
 refine ⟨xs, h1, fun i hi => ?_⟩
 obtain ⟨g1, g2⟩ := h2 i hi
 refine ⟨g1, fun A n c hm k hk => ?_⟩
 obtain ⟨a, e, c1, c2, e2, h3, A1, n1, e3, h4, h5, h6⟩ := g1
 have hx := g2 A n c hm k hk
 replace hm : Value.slice A n c ∈ part xs (gRecX X).sz i := hm
 rw [e2, e3] at hm
 obtain ⟨e1, _⟩ := h3
 subst e1
 simp only [List.cons_append, List.nil_append, List.mem_cons, List.not_mem_nil, or_false, reduceCtorEq, false_or, Value.slice.injEq] at hm
 obtain ⟨rfl, _, _⟩ := hm
 exact hX k (h4.2 k hk).lt hx
theorem szR_ge : ∀ (R : List Rc), ∀ x ∈ R, x.2.length ≤ szR R
 | r :: R, x, hx => by
  have h1 : r.2.length ≤ (bodyB r).length := by
   simp only [bodyB, blkB, List.length_append]
   omega
  rcases List.mem_cons.1 hx with rfl | hx
  ·simp only [szR]; omega
  ·have := szR_ge R x hx
   simp only [szR]; omega
set_option maxRecDepth 100000 in
set_option maxHeartbeats 4000000 in
theorem K_r9Open {fl fh fg : Nat} {X : Nat → Prop} {S : List Sec} {C : List (Option Sec)} {b0 b1 : By} (w : World) (hd : RqAt w fl fh X fg S C) (hX : ∀ k, X k → k < w.heap.size ∧ fh ≤ k) (h0 : rdD S C ((0 : Nat) : Int) = (b0, 0)) (h1 : rdD S C ((1 : Nat) : Int) = (b1, 0)) (l0 : b0.length = 256) (l1 : b1.length = 256) (hS : 2 ≤ S.length) (hsm : ∀ e a, headOf b0 b1 = some (e, a) → 2 + 2 * a ≤ S.length → a ≤ 13) :
  CallsR Tryz.prog 34 [.pointer (some ⟨fg, 0, none⟩)] w fun v w' => (v = .tuple #[.pointer none, .int .i64 4] ∧ Below w.heap.size w w' ∧ ∀ e a, headOf b0 b1 = some (e, a) → S.length < 2 + 2 * a) ∨ ∃ (e a e1 rg : Nat) (R : List Rc), headOf b0 b1 = some (e, a) ∧ 2 + 2 * a ≤ S.length ∧ (e + 1) % 18446744073709551616 = e1 ∧ allR (fstB e) (areaB (cur S C) (2 + e % 2 * a) a) = R ∧ v = .tuple #[.pointer (some ⟨rg, 0, none⟩), .int .i64 0] ∧ RJt w' fl fh (fun k => X k ∨ w.heap.size ≤ k ∧ k ≠ rg) fg rg (swS S C a e1 (bytesAll (fstB e1) R)) (List.replicate S.length none) a e1 R R.length ∧ Chg fl fh w w' ∧ w.heap.size ≤ rg := by
 have hSl := hd.n2
 have hdh := hd.hi
 refine callsR Tryz.func34 rfl rfl (by kernel_rfl) rfl ?_
 have hw := Below.refl w.heap.size w
 refine zs (za rfl (za rfl (wl_nil (rk_seq (zs (zm rfl ?_))))))
 refine zp (o_peq_nil (t := 57) Tryz.underlying57 rfl rfl) ?_
 refine wl_nil ?_
 refine rk_false rfl ?_
 refine rk_skip (rk_seq (zs (zm rfl ?_)))
 refine wl_call rfl (C_qSize _ hd) ?_
 rintro v21 w21 ⟨rfl, rfl⟩
 refine zp (o_lt rfl rfl) ?_
 refine wl_nil ?_
 refine rk_if rfl (fun h22 => absurd h22 (by omega)) (fun h22 => ?_)
 refine rk_skip (zs (zm rfl ?_))
 obtain ⟨w, hww⟩ : ∃ w, w = w21 := ⟨_, rfl⟩
 subst hww
 refine wl_call rfl (K_r9heads (k := 0) _ hd rfl (by decide) h0 l0) ?_
 rintro _ w22 ⟨rfl, q0⟩
 have sq0 := q0.size
 replace hw := hw.trans (q0.mono hw.size)
 refine zm rfl ?_
 refine zp (o_ext30 rfl) ?_
 refine zp (o_ext31 rfl) ?_
 refine zp (o_ext32 rfl) ?_
 refine za rfl (za rfl (za rfl (wl_nil (zs (zm rfl ?_)))))
 refine wl_call rfl (K_r9heads (k := 1) _ (hd.u hw) rfl (by decide) h1 l1) ?_
 rintro _ w28 ⟨rfl, q1⟩
 have sq1 := q1.size
 replace hw := hw.trans (q1.mono hw.size)
 refine zm rfl ?_
 refine zp (o_ext30 rfl) ?_
 refine zp (o_ext31 rfl) ?_
 refine zp (o_ext32 rfl) ?_
 refine za rfl (za rfl (za rfl (wl_nil ?_)))
 obtain ⟨d0, hd0⟩ : ∃ d, decide (HeadOk b0 0) = d := ⟨_, rfl⟩
 obtain ⟨d1, hd1⟩ : ∃ d, decide (HeadOk b1 1) = d := ⟨_, rfl⟩
 rw [hd0, hd1]
 refine rk_seq ?_
 refine rk_joinkf (fun fb fr W => ∃ (ev : Nat) (av : Int), fr = [(5, .int .i64 av), (4, .int .u64 (ev : Int)), (9, .bool d1), (6, .bool d0)] ++ fb.drop 12 ∧ (∀ e a, headOf b0 b1 = some (e, a) → ev = e ∧ av = a) ∧ Below w.heap.size w W) ?_ (fun ks hj => ?_)
 rotate_left
 ·have b0e := headE_lt b0
  have b1e := headE_lt b1
  cases d1 with
  | true =>
   have k1 := of_decide_eq_true hd1
   cases d0 with
   | true =>
    have k0 := of_decide_eq_true hd0
    by_cases hlt : headE b0 < headE b1
    ·have hh : headOf b0 b1 = some (headE b1, headA b1) := by unfold headOf; rw [if_pos ⟨k1, .inr hlt⟩]
     refine zs (zm rfl (zm rfl (zm rfl ?_)))
     refine zp (o_not rfl) ?_
     refine zm rfl (zm rfl (zm rfl ?_))
     refine zp (o_gt rfl rfl) ?_
     refine zp (o_pick_f rfl rfl) ?_
     refine zp (o_pick_t rfl rfl) ?_
     refine wl_nil ?_
     refine rk_if rfl (fun h44 => ?_) (fun h44 => h44.elim (by omega))
     refine rk_region (zm rfl (zm rfl (za rfl (za rfl (wl_nil ?_)))))
     exact rk_tof hj (Fr.le_of (by kernel_rfl) (by kernel_rfl) (by repeat' constructor)) ⟨_, _, rfl, fun e a h => by rw [hh] at h; injection h with h; injection h with h2 h3; exact ⟨h2, by rw [h3]⟩, hw⟩
    ·have hh : headOf b0 b1 = some (headE b0, headA b0) := by unfold headOf; rw [if_neg (fun h => hlt (h.2.resolve_left (fun h => h k0))), if_pos k0]
     refine zs (zm rfl (zm rfl (zm rfl ?_)))
     refine zp (o_not rfl) ?_
     refine zm rfl (zm rfl (zm rfl ?_))
     refine zp (o_gt rfl rfl) ?_
     refine zp (o_pick_f rfl rfl) ?_
     refine zp (o_pick_t rfl rfl) ?_
     refine wl_nil ?_
     refine rk_if rfl (fun h44 => absurd h44 (by omega)) (fun h44 => ?_)
     refine rk_skip ?_
     exact rk_tof hj (Fr.le_of (by kernel_rfl) (by kernel_rfl) (by repeat' constructor)) ⟨_, _, rfl, fun e a h => by rw [hh] at h; injection h with h; injection h with h2 h3; exact ⟨h2, by rw [h3]⟩, hw⟩
   | false =>
    have k0 := of_decide_eq_false hd0
    have hh : headOf b0 b1 = some (headE b1, headA b1) := by unfold headOf; rw [if_pos ⟨k1, .inl k0⟩]
    refine zs (zm rfl (zm rfl (zm rfl ?_)))
    refine zp (o_not rfl) ?_
    refine zm rfl (wl_off (wl_off (wl_off ?_)))
    refine zp (o_pick_t rfl rfl) ?_
    refine zp (o_pick_t rfl rfl) ?_
    refine wl_nil ?_
    refine rk_true rfl ?_
    refine rk_region (zm rfl (zm rfl (za rfl (za rfl (wl_nil ?_)))))
    exact rk_tof hj (Fr.le_of (by kernel_rfl) (by kernel_rfl) (by repeat' constructor)) ⟨_, _, rfl, fun e a h => by rw [hh] at h; injection h with h; injection h with h2 h3; exact ⟨h2, by rw [h3]⟩, hw⟩
  | false =>
   have k1 := of_decide_eq_false hd1
   refine zs (zm rfl (zm rfl (wl_off (wl_off (wl_off (wl_off (wl_off (wl_off (wl_off ?_)))))))))
   refine zp (o_pick_f rfl rfl) ?_
   refine wl_nil ?_
   refine rk_false rfl ?_
   refine rk_skip ?_
   refine rk_tof hj (Fr.le_of (by kernel_rfl) (by kernel_rfl) (by repeat' constructor)) ⟨_, _, rfl, fun e a h => ?_, hw⟩
   unfold headOf at h
   rw [if_neg (fun h => k1 h.1)] at h
   split at h
   ·injection h with h; injection h with h2 h3; exact ⟨h2, by rw [h3]⟩
   ·cases h
 clear hw
 rintro fr W ⟨ev, av, rfl, hea, hw⟩
 have shw := hw.size
 first | refine zf ?_ | refine zg ?_
 cases hq : headOf b0 b1 with
 | none =>
  have k0 : ¬HeadOk b0 0 := fun k => by
   unfold headOf at hq
   rw [if_pos k] at hq
   split at hq <;> cases hq
  have k1 : ¬HeadOk b1 1 := fun k => by
   unfold headOf at hq
   rw [if_pos ⟨k, .inl k0⟩] at hq
   cases hq
  obtain rfl := hd0.symm.trans (decide_eq_false k0)
  obtain rfl := hd1.symm.trans (decide_eq_false k1)
  refine rk_seq (zs (zm rfl ?_))
  refine zp (o_not rfl) ?_
  refine zm rfl (zm rfl ?_)
  refine zp (o_not rfl) ?_
  refine zp (o_pick_t rfl rfl) ?_
  refine zm rfl (wl_off (wl_off (wl_off (wl_off (wl_off ?_)))))
  refine zp (o_pick_t rfl rfl) ?_
  refine wl_nil ?_
  refine rk_true rfl ?_
  refine zs (za rfl (za rfl (wl_nil ?_)))
  refine ret2 rfl rfl rfl ?_
  exact .inl ⟨rfl, hw, fun e a h => by cases h⟩
 | some q =>
  obtain ⟨e, a⟩ := q
  obtain ⟨rfl, rfl⟩ := hea e a hq
  obtain ⟨he, ha⟩ := headOf_lt hq
  have ha2 : 1 ≤ (a : Int) ∧ (a : Int) ≤ 256 := by omega
  have hor : HeadOk b0 0 ∨ HeadOk b1 1 := by
   by_cases k0 : HeadOk b0 0
   ·exact .inl k0
   ·refine .inr (Classical.byContradiction fun k1 => ?_)
    unfold headOf at hq
    rw [if_neg (fun h => k1 h.1), if_neg k0] at hq
    cases hq
  by_cases hsz : 2 + 2 * a ≤ S.length
  ·have ha13 := hsm _ _ hq hsz
   obtain ⟨n0, hn0⟩ : ∃ n0, 2 + ev % 2 * a = n0 := ⟨_, rfl⟩
   have hn0b : n0 ≤ 2 + a := by
    rw [← hn0]
    have := Nat.mul_le_mul_right a (show ev % 2 ≤ 1 by omega)
    omega
   obtain ⟨u, hu⟩ : ∃ u : D32, sumB [wB8 ev] = u.1 := ⟨⟨_, sumB_len _⟩, rfl⟩
   have hu32 := u.2
   obtain ⟨r, hr⟩ : ∃ r, areaB (cur S C) n0 a = r := ⟨_, rfl⟩
   have hrl : r.length = 256 * a := by rw [← hr]; exact areaB_len (by rw [cur_len]; omega)
   obtain ⟨R, hR⟩ : ∃ R, allR u.1 r = R := ⟨_, rfl⟩
   obtain ⟨nb, hnb⟩ : ∃ nb, (bytesAll u.1 R).length = nb := ⟨_, rfl⟩
   obtain ⟨nx, hnx⟩ : ∃ nx, chainAll u.1 R = nx := ⟨_, rfl⟩
   have hn32 : nx.length = 32 := by rw [← hnx]; exact chainAll_len hu32 _
   have hCl := hd.len
   refine rk_seq ?_
   refine rk_joinkf (fun fb fr W => fr = [] ++ fb.drop 0 ∧ Below w.heap.size w W) ?_ (fun ks hj => ?_)
   rotate_left
   ·by_cases k0 : HeadOk b0 0
    ·obtain rfl := hd0.symm.trans (decide_eq_true k0)
     refine zs (zm rfl ?_)
     refine zp (o_not rfl) ?_
     refine zm rfl (wl_off (wl_off ?_))
     refine zp (o_pick_f rfl rfl) ?_
     refine zm rfl (zm rfl ?_)
     refine wl_call rfl (C_r9SectorsY _ (by omega)) ?_
     rintro v55 w55 ⟨rfl, b55⟩
     have s55 := b55.size
     replace hw := hw.trans (b55.mono hw.size)
     refine zm rfl ?_
     refine wl_call rfl (C_qSize _ (hd.u hw)) ?_
     rintro v57 w57 ⟨rfl, rfl⟩
     refine zp (o_gt rfl rfl) ?_
     refine zp (o_pick_f rfl rfl) ?_
     refine wl_nil ?_
     refine rk_if rfl (fun h59 => absurd h59 (by omega)) (fun h59 => ?_)
     refine rk_skip ?_
     exact rk_tof hj (Fr.le_of (by kernel_rfl) (by kernel_rfl) (by repeat' constructor)) ⟨rfl, hw⟩
    ·have k1 := hor.resolve_left k0
     obtain rfl := hd0.symm.trans (decide_eq_false k0)
     obtain rfl := hd1.symm.trans (decide_eq_true k1)
     refine zs (zm rfl ?_)
     refine zp (o_not rfl) ?_
     refine zm rfl (zm rfl ?_)
     refine zp (o_not rfl) ?_
     refine zp (o_pick_t rfl rfl) ?_
     refine zm rfl (zm rfl ?_)
     refine wl_call rfl (C_r9SectorsY _ (by omega)) ?_
     rintro v55 w55 ⟨rfl, b55⟩
     have s55 := b55.size
     replace hw := hw.trans (b55.mono hw.size)
     refine zm rfl ?_
     refine wl_call rfl (C_qSize _ (hd.u hw)) ?_
     rintro v57 w57 ⟨rfl, rfl⟩
     refine zp (o_gt rfl rfl) ?_
     refine zp (o_pick_f rfl rfl) ?_
     refine wl_nil ?_
     refine rk_if rfl (fun h59 => absurd h59 (by omega)) (fun h59 => ?_)
     refine rk_skip ?_
     exact rk_tof hj (Fr.le_of (by kernel_rfl) (by kernel_rfl) (by repeat' constructor)) ⟨rfl, hw⟩
   clear hw shw
   rintro fr W ⟨rfl, hw⟩
   have shw := hw.size
   first | refine zf ?_ | refine zg ?_
   refine zs (za rfl (wl_nil (rk_seq (zs (za rfl (wl_nil (rk_block ?_)))))))
   refine rk_joinf (fun fb fr W => ∃ (A' : Option Addr) (c' : Nat), fr = [(10, .slice A' r.length c')] ++ fb.drop 2 ∧ OwnH W w.heap.size W.heap.size A' c' r ∧ Below w.heap.size w W) ?_ (fun ks hj => ?_)
   rotate_left
   ·refine rk_loopf (fun fb m fr W => ∃ (j : Nat) (v : Int) (A' : Option Addr) (c' : Nat) (q : By), fr = [(11, .int .i64 v), (10, .slice A' q.length c')] ++ fb.drop 2 ∧ v = j ∧ j ≤ a ∧ m = a - j ∧ q = r.take (256 * j) ∧ OwnH W w.heap.size W.heap.size A' c' q ∧ Below w.heap.size w W) (n := a) (Fr.le_of (by kernel_rfl) (by kernel_rfl) (by repeat' constructor)) ⟨0, _, none, 0, [], rfl, rfl, by omega, rfl, by simp, OwnH.nil_, hw⟩ ?_
    clear hw shw
    rintro m fr W ⟨j, v, A', c', q, rfl, rfl, hj, rfl, hqr, fo, hw⟩
    have shw := hw.size
    first | refine zf ?_ | refine zg ?_
    by_cases hja : j < a
    ·have hql : q.length = 256 * j := by rw [hqr, List.length_take]; omega
     have hag := areaB_get (T := cur S C) (n := n0) (M := a) (j := j) (by rw [cur_len]; omega) hja
     rw [hr] at hag
     obtain ⟨x, hx⟩ : ∃ x, (r.drop (256 * j)).take 256 = x := ⟨_, rfl⟩
     have hxl : x.length = 256 := by rw [← hx, List.length_take, List.length_drop]; omega
     have hrd : rdD S C ((n0 + j : Nat) : Int) = (x, 0) := by
      rw [rdD_of (x := (cur S C)[n0 + j]'(by rw [cur_len]; omega)) (List.getElem?_eq_getElem (by rw [cur_len]; omega)) hCl, ← hag, hx]
     have hqx : q ++ x = r.take (256 * (j + 1)) := by
      rw [hqr, ← hx, show 256 * (j + 1) = 256 * j + 256 by omega, List.take_add]
     refine rk_seq (zs (zm rfl (zm rfl ?_)))
     refine zp (o_lt rfl rfl) ?_
     refine wl_nil ?_
     refine rk_if rfl (fun h62 => ?_) (fun h62 => h62.elim (by omega))
     refine rk_skip (rk_seq (rk_block (zs (zm rfl (zm rfl (zm rfl ?_))))))
     refine wl_call rfl (C_r9first _ rfl rfl hn0 (by omega) (by omega)) ?_
     rintro v69 w69 ⟨rfl, b69⟩
     have s69 := b69.size
     replace hw := hw.trans (b69.mono hw.size)
     replace fo := fo.u b69
     refine zm rfl ?_
     refine zp (o_add rfl rfl (by omega) (by omega)) ?_
     rw [show ((n0 : Int) + j) = ((n0 + j : Nat) : Int) by omega]
     refine wl_call rfl (K_qReadO (r := (x, 0)) _ (hd.u hw) hrd (i64_wf (by omega))) ?_
     rintro _ w72 ⟨A72, c72, rfl, f72, b72⟩
     have sb72 := b72.size
     replace hw := hw.trans (b72.mono hw.size)
     replace fo := fo.u b72
     simp only at f72
     refine zm rfl ?_
     refine zp (o_ext20 rfl) ?_
     refine zp (o_ext21 rfl) ?_
     refine za rfl (za rfl (wl_nil (rk_region (zm rfl (zm rfl ?_)))))
     refine wl_appB Tryz.u8 rfl fo rfl rfl f72.to_Rd rfl (by omega) hw.size ?_
     rintro A77 c77 w77 f77 g77 b77 i77
     dsimp only
     have qf77 := f77.cap
     have s77 := g77.size
     replace hw := hw.trans (b77.mono (by omega))
     replace f72 := f72.k g77.g (fo.ap (by omega))
     clear fo
     refine za rfl (wl_nil ?_)
     refine rk_blk ?_
     refine rk_region (zm rfl ?_)
     refine zp (o_add rfl rfl (by omega) (by omega)) ?_
     refine za rfl (wl_nil ?_)
     exact rk_againf (Fr.le_of (by kernel_rfl) (by kernel_rfl) (by repeat' constructor)) ⟨j + 1, (j : Int) + 1, A77, c77, q ++ x, rfl, by omega, by omega, rfl, hqx, f77.top, hw⟩ (by omega)
    ·refine rk_seq ?_
     refine zs (zm rfl (zm rfl ?_))
     refine zp (o_lt rfl rfl) ?_
     refine wl_nil ?_
     refine rk_if rfl (fun h62 => absurd h62 (by omega)) (fun h62 => ?_)
     refine rk_exit rfl ?_
     obtain rfl : j = a := by omega
     rw [List.take_of_length_le (by omega)] at hqr
     subst hqr
     exact rk_tof hj (Fr.le_of (by kernel_rfl) (by kernel_rfl) (by repeat' constructor)) ⟨A', c', rfl, fo, hw⟩
   clear hw shw
   rintro fr W ⟨A', c', rfl, fo, hw⟩
   have shw := hw.size
   first | refine zf ?_ | refine zg ?_
   have cfo := fo.cap
   refine zs (zm rfl ?_)
   refine wl_call rfl (C_r8First _ rfl (by omega) hu) ?_
   rintro v80 w80 ⟨rfl, b80⟩
   have s80 := b80.size
   replace hw := hw.trans (b80.mono hw.size)
   replace fo := fo.u b80
   refine zm rfl ?_
   refine wl_call rfl (C_r8All _ hR hnb hnx fo.to_RdT.1 rfl cfo hu32 (by omega)) ?_
   rintro _ w82 ⟨A82, c82, rfl, f82, b82⟩
   have sb82 := b82.size
   replace hw := hw.trans (b82.mono hw.size)
   replace fo := fo.u b82
   replace f82 := f82.reb (X' := fun k => w.heap.size ≤ k ∧ k < w82.heap.size) (fun k h1 h2 => ⟨by have := hw.size; omega, h1⟩)
   refine zm rfl ?_
   refine zp (o_ext30 rfl) ?_
   refine zp (o_ext31 rfl) ?_
   refine zp (o_ext32 rfl) ?_
   refine wl_allocB Tryz.underlying64 Tryz.zeroValue64 (by rfl) ?_
   rintro g16 w16 f16 b16 i16 i16_1
   have s16 := b16.size
   replace hw := hw.trans (b16.mono hw.size)
   replace f82 := f82.u b16
   replace fo := fo.u b16
   refine za rfl (za rfl ?_)
   refine wl_stBa Tryz.sizeOf64 rfl f16 rfl hn32 (by rfl) ?_
   rintro w_1 f g e
   have s := g.size
   replace hw := hw.trans (below_of_grownBy g.g hw.size (by omega))
   replace fo := fo.k g.g (ap_some (by omega))
   replace f82 := f82.y g (by decide)
   clear f16
   refine wl_nil (zs (zm rfl (zm rfl (zm rfl ?_))))
   refine zp (o_bldR1 rfl rfl rfl rfl) ?_
   refine wl_boxg _ rfl (by rfl) ?_
   rintro g90 w90 f90 b90 i90 i90_1
   have s90 := b90.size
   replace hw := hw.trans (b90.mono hw.size)
   replace f82 := f82.u b90
   replace fo := fo.u b90
   replace f := f.u b90
   refine za rfl (wl_nil (zs (zm rfl (zm rfl (zm rfl ?_)))))
   obtain ⟨e1, he1⟩ : ∃ e1, (ev + 1) % 18446744073709551616 = e1 := ⟨_, rfl⟩
   have hRo : ∀ x ∈ R, OkR x := by rw [← hR]; exact allR_ok
   have hfit : szR R ≤ a * 256 := by
    have := allR_len (c := u.1) (b := r)
    rw [hR, bytesAll_sz] at this
    omega
   have sw1 := hw.size
   have hg90 : w82.heap.size ≤ g90 := by omega
   have hgl := f90.lt
   have hd90 : RqAt w90 fl fh (fun k => X k ∨ w.heap.size ≤ k ∧ k ≠ g90) fg S C := (hd.u hw).re (fun k _ h => .inl h)
   have hR90 : RRq (fun k => X k ∨ w.heap.size ≤ k ∧ k ≠ g90) w90 A82 R := ⟨(f82.re (fun k h => .inr ⟨h.1, by omega⟩)).to_RRecXT, fun k hk => by
    obtain ⟨xs, h1, _⟩ := f82
    have h2 := RowH.lt h1 k hk
    have h3 := h1.hi k hk
    exact .inr ⟨by omega, by omega⟩⟩
   refine wl_call rfl (K_r9SwitchB (R := R) _ hd90 (fun k h => by rcases h with h | h <;> first | (have := hX k h; omega) | omega) (fun k h => .inr ⟨by omega, by omega⟩) (by omega) f90 rfl hR90 rfl hRo (fun x hx => by have := szR_ge R x hx; omega) ha he he1 hfit hsz rfl rfl rfl) ?_
   rintro _ w94 ⟨rfl, hJ, hC⟩
   have hcg : Chg fl fh w w94 := ⟨hC.os.trans hw.os, hC.tape.trans hw.tape, hC.output.trans hw.output, Nat.le_trans sw1 hC.size, fun k hk ha => (hC.block k (by omega) ha (by omega)).trans (hw.block k hk)⟩
   clear hw f90 f82 fo f
   refine za rfl (za rfl (wl_nil ?_))
   refine ret2 rfl rfl rfl ?_
   refine .inr ⟨ev, a, e1, g90, R, rfl, hsz, he1, ?_, rfl, hJ, hcg, by omega⟩
   rw [← hR, ← hr, ← hu, ← hn0]
   rfl
  ·by_cases k0 : HeadOk b0 0
   ·obtain rfl := hd0.symm.trans (decide_eq_true k0)
    refine rk_seq (zs (zm rfl ?_))
    refine zp (o_not rfl) ?_
    refine zm rfl (wl_off (wl_off ?_))
    refine zp (o_pick_f rfl rfl) ?_
    refine zm rfl (zm rfl ?_)
    refine wl_call rfl (C_r9SectorsY _ (by omega)) ?_
    rintro v55 w55 ⟨rfl, b55⟩
    have s55 := b55.size
    replace hw := hw.trans (b55.mono hw.size)
    refine zm rfl ?_
    refine wl_call rfl (C_qSize _ (hd.u hw)) ?_
    rintro v57 w57 ⟨rfl, rfl⟩
    refine zp (o_gt rfl rfl) ?_
    refine zp (o_pick_f rfl rfl) ?_
    refine wl_nil ?_
    refine rk_if rfl (fun h59 => ?_) (fun h59 => h59.elim (by omega))
    refine zs (za rfl (za rfl (wl_nil ?_)))
    refine ret2 rfl rfl rfl ?_
    exact .inl ⟨rfl, hw, fun e1 a1 h => by injection h with h; injection h with h1 h2; omega⟩
   ·have k1 := hor.resolve_left k0
    obtain rfl := hd0.symm.trans (decide_eq_false k0)
    obtain rfl := hd1.symm.trans (decide_eq_true k1)
    refine rk_seq (zs (zm rfl ?_))
    refine zp (o_not rfl) ?_
    refine zm rfl (zm rfl ?_)
    refine zp (o_not rfl) ?_
    refine zp (o_pick_t rfl rfl) ?_
    refine zm rfl (zm rfl ?_)
    refine wl_call rfl (C_r9SectorsY _ (by omega)) ?_
    rintro v55 w55 ⟨rfl, b55⟩
    have s55 := b55.size
    replace hw := hw.trans (b55.mono hw.size)
    refine zm rfl ?_
    refine wl_call rfl (C_qSize _ (hd.u hw)) ?_
    rintro v57 w57 ⟨rfl, rfl⟩
    refine zp (o_gt rfl rfl) ?_
    refine zp (o_pick_f rfl rfl) ?_
    refine wl_nil ?_
    refine rk_if rfl (fun h59 => ?_) (fun h59 => h59.elim (by omega))
    refine zs (za rfl (za rfl (wl_nil ?_)))
    refine ret2 rfl rfl rfl ?_
    exact .inl ⟨rfl, hw, fun e1 a1 h => by injection h with h; injection h with h1 h2; omega⟩
theorem C_r9OpenBad {fl fh fg : Nat} {X : Nat → Prop} {S : List Sec} {C : List (Option Sec)} {b0 b1 : By} (w : World) (hd : RqAt w fl fh X fg S C) (hX : ∀ k, X k → fh ≤ k) (h0 : rdD S C ((0 : Nat) : Int) = (b0, 0)) (h1 : rdD S C ((1 : Nat) : Int) = (b1, 0)) (hno : ∀ e a, headOf b0 b1 = some (e, a) → S.length < 2 + 2 * a) (l0 : b0.length = 256) (l1 : b1.length = 256) (hS : 2 ≤ S.length) :
  CallsR Tryz.prog 34 [.pointer (some ⟨fg, 0, none⟩)] w fun v w' => v = .tuple #[.pointer none, .int .i64 4] ∧ Below w.heap.size w w' := by
 refine (K_r9Open w (hd.re (Q' := fun k => X k ∧ k < w.heap.size) (fun k h1 h2 => ⟨h2, h1⟩)) (fun k h => ⟨h.2, hX k h.1⟩) h0 h1 l0 l1 hS (fun e' a' h h2 => by have := hno e' a' h; omega)).mono ?_
 rintro v w' (⟨h, h2, _⟩ | ⟨e, a, _, _, _, h, h2, _⟩)
 ·exact ⟨h, h2⟩
 ·have := hno e a h; omega
theorem C_r9OpenOk {fl fh fg e a e1 : Nat} {X : Nat → Prop} {S S2 : List Sec} {C C1 : List (Option Sec)} {b0 b1 : By} {R : List Rc} (w : World) (hd : RqAt w fl fh X fg S C) (hX : ∀ k, X k → fh ≤ k) (h0 : rdD S C ((0 : Nat) : Int) = (b0, 0)) (h1 : rdD S C ((1 : Nat) : Int) = (b1, 0)) (hh : headOf b0 b1 = some (e, a)) (he1 : (e + 1) % 18446744073709551616 = e1) (hR : allR (fstB e) (areaB (cur S C) (2 + e % 2 * a) a) = R) (hS2 : swS S C a e1 (bytesAll (fstB e1) R) = S2) (hC1 : List.replicate S.length none = C1) (l0 : b0.length = 256) (l1 : b1.length = 256) (hS : 2 ≤ S.length) (hfit : 2 + 2 * a ≤ S.length) (hsm : a ≤ 13) :
  CallsR Tryz.prog 34 [.pointer (some ⟨fg, 0, none⟩)] w fun v w' => ∃ rg, v = .tuple #[.pointer (some ⟨rg, 0, none⟩), .int .i64 0] ∧ RJt w' fl fh (fun k => X k ∧ k < w.heap.size ∨ w.heap.size ≤ k ∧ k ≠ rg) fg rg S2 C1 a e1 R R.length ∧ Chg fl fh w w' ∧ w.heap.size ≤ rg := by
 refine (K_r9Open w (hd.re (Q' := fun k => X k ∧ k < w.heap.size) (fun k h1 h2 => ⟨h2, h1⟩)) (fun k h => ⟨h.2, hX k h.1⟩) h0 h1 l0 l1 hS (fun e' a' h _ => by rw [hh] at h; injection h with h; injection h with h1 h2; omega)).mono ?_
 rintro v w' (⟨_, _, h⟩ | ⟨e', a', e1', rg, R', k1, k2, k3, k4, k5, k6, k7, k8⟩)
 ·have := h e a hh; omega
 ·rw [hh] at k1
  injection k1 with k1
  injection k1 with k1 k1'
  subst k1; subst k1'
  obtain rfl := he1.symm.trans k3
  obtain rfl := hR.symm.trans k4
  subst hS2; subst hC1
  exact ⟨rg, k5, k6, k7, k8⟩
end Go.Proofs.YtnnhenafhalobaaGreat
namespace Go.Proofs.YtnnhenafhalobaaGreat
set_option maxRecDepth 100000
open Go.RowKit
section
variable {w w' : World} {dl dh gd g fl fh fg rg a e s : Nat} {X : Nat → Prop} {L : Option Addr} {S : List Sec} {C : List (Option Sec)} {R : List Rc}
theorem DkAt.keep (h : DkAt w dl dh gd S C) (hk : ∀ k, dl ≤ k → k < dh → k < w.heap.size → w'.heap[k]? = w.heap[k]?) (hs : w.heap.size ≤ w'.heap.size) : DkAt w' dl dh gd S C := by
 obtain ⟨A, c, b, h1, h2, h3, h4, h5, h6⟩ := h.ex
 have g1 := h.g1
 have g2 := h.g2
 have g3 := h.hi
 refine ⟨⟨A, c, b, (hk gd g1 g2 h1.lt).trans h1, ?_, h3.keep (hk b h4 h5 h3.lt), h4, h5, h6⟩, g1, g2, by omega, h.len, h.n1, h.n2⟩
 obtain ⟨xs, r1, r2⟩ := h2
 exact ⟨xs, r1.kb (fun k e hl => hk k (RowH.lt r1 k e).1 (r1.hi k e) hl) hs, fun i hi => r2 i hi⟩
theorem JSt.keep (h : JSt w dl dh gd g L S C a e R s) (hk : ∀ k, (dl ≤ k ∧ k < dh ∨ k = g ∨ blk L = some k) → k < w.heap.size → w'.heap[k]? = w.heap[k]?) (hs : w.heap.size ≤ w'.heap.size) : JSt w' dl dh gd g L S C a e R s := by
 obtain ⟨lo, hi, c, b, ch, h1, h2, h3, h4, h5, h6, h7⟩ := h.ex
 exact ⟨⟨lo, hi, c, b, ch, (hk g (.inr (.inl rfl)) h1.lt).trans h1, RowH.kb h2 (fun k e hl => hk k (.inr (.inr e)) hl) hs, h3, h4, h5, h6, by omega⟩, h.dk.keep (fun k p q r => hk k (.inl ⟨p, q⟩) r) hs, h.ok, h.fit, h.ha, h.he, h.hg, h.hS⟩
theorem JSt.rch (h : JSt w dl dh gd g L S C a e R s) (hc : RCh fl fh rg w w') (hd : dh ≤ fl ∨ fh ≤ dl) (hg : (g < fl ∨ fh ≤ g) ∧ g ≠ rg) (hr : rg < dl ∨ dh ≤ rg) (hL : ∀ k, blk L = some k → (k < fl ∨ fh ≤ k) ∧ k ≠ rg) : JSt w' dl dh gd g L S C a e R s :=
 h.keep (fun k hk hl => by
  rcases hk with hk | rfl | hk
  ·exact hc.block k hl (by omega) (by omega)
  ·exact hc.block k hl hg.1 hg.2
  ·exact hc.block k hl (hL k hk).1 (hL k hk).2) hc.size
theorem RJt.jch (h : RJt w fl fh X fg rg S C a e R s) (hc : JCh dl dh g L w w') (hd : dh ≤ fl ∨ fh ≤ dl) (hg : g < fl ∨ fh ≤ g) (hgr : g ≠ rg) (hr : rg < dl ∨ dh ≤ rg) (hX : ∀ k, X k → (k < dl ∨ dh ≤ k) ∧ k ≠ g ∧ blk L ≠ some k) (hL : ∀ k, blk L = some k → (k < fl ∨ fh ≤ k) ∧ k ≠ rg) : RJt w' fl fh X fg rg S C a e R s :=
 h.keep (fun k hk hl => by
  rcases hk with hk
  by_cases h1 : fl ≤ k ∧ k < fh
  ·exact hc.block hl (by omega) (by omega) (fun e => by have := (hL k e).1; omega)
  ·by_cases h2 : k = rg
   ·subst h2
    exact hc.block hl hr (fun e => hgr e.symm) (fun e => (hL _ e).2 rfl)
   ·have hx : X k := by
     rcases hk with h3 | h3 | h3
     ·exact absurd h3 h1
     ·exact h3
     ·exact absurd h3 h2
    exact hc.block hl (hX k hx).1 (hX k hx).2.1 (hX k hx).2.2) hc.size
theorem RJt.re {X' : Nat → Prop} (h : RJt w fl fh X fg rg S C a e R s) (hx : ∀ k, k < w.heap.size → X k → X' k) (hX : ∀ k, X' k → k ≠ rg ∧ fh ≤ k) : RJt w fl fh X' fg rg S C a e R s := by
 obtain ⟨L, c, h1, ⟨⟨xs, q1, q2, q3⟩, q4⟩, h3⟩ := h.ex
 refine ⟨⟨L, c, h1, ⟨⟨xs, q1, q2, fun i hi => ?_⟩, fun k hk => hx k (q2 k hk).lt (q4 k hk)⟩, h3⟩, h.dk.re hx, hX, h.hg⟩
 obtain ⟨g1, g2⟩ := q3 i hi
 refine ⟨g1, fun A n c hm k hk => ?_⟩
 obtain ⟨a, e, c1, c2, e2, h3, A1, n1, e3, h4, h5, h6⟩ := g1
 have hx2 := g2 A n c hm k hk
 replace hm : Value.slice A n c ∈ part xs (gRecX X).sz i := hm
 rw [e2, e3] at hm
 obtain ⟨e1, _⟩ := h3
 subst e1
 simp only [List.cons_append, List.nil_append, List.mem_cons, List.not_mem_nil, or_false, reduceCtorEq, false_or, Value.slice.injEq] at hm
 obtain ⟨rfl, _, _⟩ := hm
 exact hx k (h4.2 k hk).lt hx2
end
end Go.Proofs.YtnnhenafhalobaaGreat
namespace Go.Proofs.YtnnhenafhalobaaGreat
set_option maxRecDepth 100000
open Go.RowKit
theorem Blk.p {w w' : World} {g : Nat} {t : TypeId} {cs : List Value} {P : Nat → Prop} (h : Blk w g t cs) (hk : Rw.ok (none, some (.inr P)) w w') (ha : ¬P g) : Blk w' g t cs :=
 have h' : SameOut w w' none P := hk
 (h'.block g h.lt (fun e => by cases e) ha).trans h
theorem JCh.okP {w w' : World} {dl dh g : Nat} {L : Option Addr} {P : Nat → Prop} (h : JCh dl dh g L w w') (hP : ∀ k, (dl ≤ k ∧ k < dh ∨ k = g ∨ blk L = some k) → P k) : Rw.ok (none, some (.inr P)) w w' :=
 have hs : w'.os = w.os ∧ w'.tape = w.tape ∧ w'.output = w.output := by
  induction h with
  | refl => exact ⟨rfl, rfl, rfl⟩
  | chg _ k ih => exact ⟨k.os.trans ih.1, k.tape.trans ih.2.1, k.output.trans ih.2.2⟩
  | log _ k ih => exact ⟨k.g.os.trans ih.1, k.g.tape.trans ih.2.1, k.g.output.trans ih.2.2⟩
  | self _ k ih => exact ⟨k.g.os.trans ih.1, k.g.tape.trans ih.2.1, k.g.output.trans ih.2.2⟩
 show SameOut w w' none P from ⟨hs.1, hs.2.1, hs.2.2, h.size, fun k hk _ hn => h.block hk (by
  by_cases q : k < dl ∨ dh ≤ k
  ·exact q
  ·exact absurd (hP k (.inl (by omega))) hn) (fun e => hn (hP k (.inr (.inl e)))) (fun e => hn (hP k (.inr (.inr e))))⟩
def Xof (fh g rg : Nat) (L : Option Addr) (k : Nat) : Prop := fh ≤ k ∧ k ≠ g ∧ k ≠ rg ∧ blk L ≠ some k
structure Both (w : World) (dl dh fl fh gd fg g rg : Nat) (L : Option Addr) (S : List Sec) (C : List (Option Sec)) (a e : Nat) (R : List Rc) (s : Nat) : Prop where
 p : JSt w dl dh gd g L S C a e R s
 r : RJt w fl fh (Xof fh g rg L) fg rg S C a e R s
 o : dl ≤ dh ∧ dh ≤ fl ∧ fl ≤ fh
 hg : fh ≤ g
 hgr : g ≠ rg
 hL : ∀ k, blk L = some k → fh ≤ k ∧ k ≠ rg
section
variable {w w1 w' : World} {dl dh fl fh gd fg g rg a e s e1 s1 : Nat} {L L' : Option Addr} {S S1 : List Sec} {C C1 : List (Option Sec)} {R R1 : List Rc}
theorem Both.hrg (h : Both w dl dh fl fh gd fg g rg L S C a e R s) : fh ≤ rg := h.r.hg
theorem Both.u (h : Both w dl dh fl fh gd fg g rg L S C a e R s) (hb : Below w.heap.size w w') : Both w' dl dh fl fh gd fg g rg L S C a e R s := ⟨h.p.u hb, h.r.u hb, h.o, h.hg, h.hgr, h.hL⟩
theorem Both.d (h : Both w dl dh fl fh gd fg g rg L S C a e R s) : Both w.drew dl dh fl fh gd fg g rg L S C a e R s := h.u (below_drew w)
theorem Both.doc (h : Both w dl dh fl fh gd fg g rg L S C a e R s) (hc : JCh dl dh g L w w1) (hL : blk L' = blk L ∨ ∀ k, blk L' = some k → w.heap.size ≤ k) : RJt w1 fl fh (Xof fh g rg L') fg rg S C a e R s ∧ ∀ k, blk L' = some k → fh ≤ k ∧ k ≠ rg := by
 have o := h.o
 have h1 := h.hg
 have h2 := h.hgr
 have h3 := h.hrg
 have h4 := h.r.lt
 have h5 := h.r.dk.hi
 have hd : RJt w fl fh (fun k => Xof fh g rg L k ∧ k < w.heap.size) fg rg S C a e R s := h.r.re (fun k x y => ⟨y, x⟩) (fun k x => h.r.hX k x.1)
 have hd1 := hd.jch hc (.inl o.2.1) (.inr h1) h2 (.inr (by omega)) (fun k x => ⟨.inr (by have := x.1.1; omega), x.1.2.1, x.1.2.2.2⟩) (fun k x => ⟨.inr (h.hL k x).1, (h.hL k x).2⟩)
 refine ⟨hd1.re (fun k _ x => ⟨x.1.1, x.1.2.1, x.1.2.2.1, fun y => ?_⟩) (fun k x => ⟨x.2.2.1, x.1⟩), fun k x => ?_⟩
 ·rcases hL with q | q
  ·exact x.1.2.2.2 (q ▸ y)
  ·have := q k y; have := x.2; omega
 ·rcases hL with q | q
  ·exact h.hL k (q ▸ x)
  ·have := q k x; omega
theorem Both.join (o : dl ≤ dh ∧ dh ≤ fl ∧ fl ≤ fh) (hg : fh ≤ g) (hgr : g ≠ rg) (hL : ∀ k, blk L = some k → fh ≤ k ∧ k ≠ rg) (hp : JSt w dl dh gd g L S C a e R s) (hd : RJt w' fl fh (Xof fh g rg L) fg rg S C a e R s) (hc : RCh fl fh rg w w') : Both w' dl dh fl fh gd fg g rg L S C a e R s :=
 ⟨hp.rch hc (.inl o.2.1) ⟨.inr hg, hgr⟩ (.inr (by have := hd.hg; omega)) (fun k x => ⟨.inr (hL k x).1, (hL k x).2⟩), hd, o, hg, hgr, hL⟩
theorem RqAt.free {Q Q' : Nat → Prop} {lo hi gq n : Nat} (h : RqAt w lo hi Q gq S C) (hC : List.replicate n none = C) : RqAt w lo hi Q' gq S C := by
 obtain ⟨A, c, D, q, H, h1, h2, h3, h4⟩ := h.ex
 refine ⟨⟨A, c, D, q, H, h1, h2, h3, h4.len, fun i i1 i2 => ?_⟩, h.g1, h.g2, h.hi, h.len, h.n1, h.n2⟩
 have h5 := h4.el i i1 i2
 have h6 : C[i] = none := by subst hC; exact List.getElem_replicate ..
 rw [h6] at h5 ⊢
 exact h5
theorem Both.made {Q : Nat → Prop} {n : Nat} (o : dl ≤ dh ∧ dh ≤ fl ∧ fl ≤ fh) (hp : JSt w dl dh gd g none S C a 0 [] 0) (hB : Blk w' rg 66 (rJ (some ⟨fg, 0, none⟩) a 0 none 0 0 0 (fstB 0) 0)) (hg : fh ≤ g) (hrg : w.heap.size ≤ rg) (hfw : fh ≤ w.heap.size) (hd : RqAt w' fl fh Q fg S C) (hC : List.replicate n none = C) (hc : Chg fl fh w w') : Both w' dl dh fl fh gd fg g rg none S C a 0 [] 0 := by
 have h1 := hp.lt
 refine ⟨hp.keep (fun k hk hl => hc.block k hl ?_) hc.size, ⟨⟨none, 0, hB, ⟨⟨[], ⟨by simp, fun h => absurd rfl h⟩, fun k e => (by cases e), fun i hi => absurd hi (Nat.not_lt_zero _)⟩, fun k e => by cases e⟩, Nat.le_refl _⟩, hd.free hC, fun k x => ⟨x.2.2.1, x.1⟩, by omega⟩, o, hg, by omega, fun k e => by cases e⟩
 rcases hk with hk | rfl | hk
 ·omega
 ·omega
 ·cases hk
theorem Both.opened {X : Nat → Prop} {w2 : World} {n : Nat} (o : dl ≤ dh ∧ dh ≤ fl ∧ fl ≤ fh) (hX : ∀ k, X k → fh ≤ k) (hfw : fh ≤ w.heap.size) (hs : w.heap.size ≤ w1.heap.size) (hp : JSt w1 dl dh gd g L S C a e R s) (hg : w.heap.size ≤ g) (hL : ∀ k, blk L = some k → w.heap.size ≤ k) (hd : RJt w2 fl fh (fun k => (X k ∧ k < w.heap.size) ∧ k < w1.heap.size ∨ w1.heap.size ≤ k ∧ k ≠ rg) fg rg S C a e R s) (hc : Chg fl fh w1 w2) (hrg : w1.heap.size ≤ rg) : Both w2 dl dh fl fh gd fg g rg L S C a e R s := by
 have h1 := hp.lt
 have hLw := hp.row
 refine ⟨hp.keep (fun k hk hl => hc.block k hl ?_) hc.size, hd.re (fun k _ x => ?_) (fun k x => ⟨x.2.2.1, x.1⟩), o, by omega, by omega, fun k e => ?_⟩
 ·rcases hk with hk | rfl | hk
  ·omega
  ·omega
  ·have := hL k hk; omega
 ·rcases x with ⟨⟨x1, x2⟩, x3⟩ | ⟨x1, x2⟩
  ·exact ⟨hX k x1, by omega, by omega, fun e => by have := hL k e; omega⟩
  ·exact ⟨by omega, by omega, x2, fun e => by have := hLw k e; omega⟩
 ·have := hL k e; have := hLw k e; omega
end
end Go.Proofs.YtnnhenafhalobaaGreat
namespace Go.Proofs.YtnnhenafhalobaaGreat
set_option maxRecDepth 100000
open Go.RowKit
theorem C_IntsZ {A B : Option Addr} {a b : List Int} {n m c d : Nat} (w : World) (hA : RZ w A a) (hB : RZ w B b) (hn : n = a.length) (hm : m = b.length) (hl : a.length ≤ 4000000000) (hl2 : b.length ≤ 4000000000) :
  CallsR Tryz.prog 36 [.slice A n c, .slice B m d] w fun v w' => v = .bool (decide (a = b)) ∧ Below w.heap.size w w' := by
 subst hn; subst hm
 refine callsR Tryz.func36 rfl rfl (by kernel_rfl) rfl ?_
 have hw := Below.refl w.heap.size w
 refine zs (za rfl (wl_nil (rk_seq (zs (zm rfl ?_)))))
 refine zp (o_len (t := 69) Tryz.underlying69 rfl) ?_
 refine zm rfl ?_
 refine zp (o_len (t := 69) Tryz.underlying69 rfl) ?_
 refine zp (o_ne rfl rfl) ?_
 refine wl_nil ?_
 refine rk_if rfl (fun h10 => ?_) (fun h10 => ?_)
 ·refine zs ?_
  refine za rfl (wl_nil ?_)
  refine ret1 rfl rfl ?_
  exact ⟨by rw [decide_eq_false (fun e => by rw [e] at h10; omega)], hw⟩
 ·refine rk_skip ?_
  refine rk_seq (zs (za rfl (wl_nil (rk_block ?_))))
  refine rk_joinf (fun fb fr w2 => fr = [] ++ fb.drop 1 ∧ a = b ∧ Below w.heap.size w w2) ?_ (fun ks hj => ?_)
  rotate_left
  ·refine rk_loopf (fun fb k fr w2 => ∃ (i : Nat) (v : Int), fr = [(5, .int .i64 v)] ++ fb.drop 1 ∧ v = i ∧ i ≤ a.length ∧ k = a.length - i ∧ a.take i = b.take i ∧ Below w.heap.size w w2) (n := a.length) (Fr.le_of (by kernel_rfl) (by kernel_rfl) (by repeat' constructor)) ⟨0, _, rfl, rfl, by omega, rfl, rfl, hw⟩ ?_
   clear hw
   rintro k fr w2 ⟨i, v, rfl, rfl, hi, rfl, heq, hw⟩
   first | refine zf ?_ | refine zg ?_
   refine rk_seq (zs (zm rfl (zm rfl ?_)))
   refine zp (o_len (t := 69) Tryz.underlying69 rfl) ?_
   refine zp (o_lt rfl rfl) ?_
   refine wl_nil ?_
   refine rk_if rfl (fun h14 => ?_) (fun h14 => ?_)
   ·have h1 : i < a.length := by omega
    have h2 : i < b.length := by omega
    refine rk_skip (rk_seq (rk_block (rk_seq ?_)))
    refine rk_draw (id := 6) (none) [0, 0, 3, 4, 0, 0, 48, 64, 136] [0, 0, 3, 7, 0, 0, 48, 112, 255] 0 0 [(.p, 0), (.p, 1), (.p, 2), (.r, 3), (.p, 4), (.p, 5), (.p, 6), (.r, 7), (.p, 8)] (by kernel_rfl) (by kernel_rfl) (by kernel_rfl) (by kernel_rfl) (by kernel_rfl) ?_
    replace hw := hw.drew
    refine zm rfl (zm rfl ?_)
    refine zp (o_iaddrA1 (i) Tryz.underlying69 Tryz.sizeOf3 rfl rfl rfl (Reads.some_ hA.to_Reads (by decide) (by omega)) (by omega)) ?_
    refine wl_r (o_loadZ Tryz.isAgg3 rfl (hA.u hw).to_Reads (by omega)) ?_
    refine zm rfl (zm rfl ?_)
    refine zp (o_iaddrA1 (i) Tryz.underlying69 Tryz.sizeOf3 rfl rfl rfl (Reads.some_ hB.to_Reads (by decide) (by omega)) (by omega)) ?_
    refine wl_r (o_loadZ Tryz.isAgg3 rfl (hB.u hw).to_Reads (by omega)) ?_
    refine zp (o_ne rfl rfl) ?_
    refine wl_nild ?_
    refine rk_if rfl (fun h25 => ?_) (fun h25 => ?_)
    ·refine zs ?_
     refine za rfl (wl_nil ?_)
     refine ret1 rfl rfl ?_
     exact ⟨by rw [decide_eq_false (fun e => by subst e; exact h25 rfl)], hw⟩
    ·refine rk_skip ?_
     refine rk_blk ?_
     refine rk_region (zm rfl ?_)
     refine zp (o_add rfl rfl (by omega) (by omega)) ?_
     refine za rfl (wl_nil ?_)
     exact rk_againf (Fr.le_of (by kernel_rfl) (by kernel_rfl) (by repeat' constructor)) ⟨i + 1, _, rfl, by omega, by omega, rfl, by rw [List.take_succ_eq_append_getElem h1, List.take_succ_eq_append_getElem h2, heq]; simp at h25; rw [h25], hw⟩ (by omega)
   ·refine rk_exit rfl ?_
    obtain rfl : i = a.length := by omega
    have e : a = b := by
     rw [List.take_length] at heq
     rw [heq]; exact List.take_of_length_le (by omega)
    exact rk_tof hj (Fr.le_of (by kernel_rfl) (by kernel_rfl) (by repeat' constructor)) ⟨rfl, e, hw⟩
  clear hw
  rintro fr w2 ⟨rfl, e, hw⟩
  first | refine zf ?_ | refine zg ?_
  refine zs (za rfl (wl_nil ?_))
  refine ret1 rfl rfl ?_
  exact ⟨by rw [decide_eq_true e], hw⟩
end Go.Proofs.YtnnhenafhalobaaGreat
namespace Go.Proofs.YtnnhenafhalobaaGreat
set_option maxRecDepth 100000
open Go.RowKit
theorem szR_dropV : ∀ (R : List Rc) (k : Nat), szR (R.drop k) ≤ szR R
 | [], k => by simp
 | r :: R, 0 => by simp
 | r :: R, k + 1 => by simp only [List.drop_succ_cons, szR]; have := szR_dropV R k; omega
theorem RRq.re {X X' : Nat → Prop} {w : World} {A : Option Addr} {L : List Rc} (h : RRq X w A L) (hx : ∀ k, k < w.heap.size → X k → X' k) : RRq X' w A L := by
 obtain ⟨⟨xs, q1, q2, q3⟩, q4⟩ := h
 refine ⟨⟨xs, q1, q2, fun i hi => ?_⟩, fun k hk => hx k (q2 k hk).lt (q4 k hk)⟩
 obtain ⟨g1, g2⟩ := q3 i hi
 refine ⟨g1, fun A n c hm k hk => ?_⟩
 obtain ⟨a, e, c1, c2, e2, h3, A1, n1, e3, h4, h5, h6⟩ := g1
 have hx2 := g2 A n c hm k hk
 replace hm : Value.slice A n c ∈ part xs (gRecX X).sz i := hm
 rw [e2, e3] at hm
 obtain ⟨e1, _⟩ := h3
 subst e1
 simp only [List.cons_append, List.nil_append, List.mem_cons, List.not_mem_nil, or_false, reduceCtorEq, false_or, Value.slice.injEq] at hm
 obtain ⟨rfl, _, _⟩ := hm
 exact hx k (h4.2 k hk).lt hx2
set_option maxRecDepth 100000 in
set_option maxHeartbeats 4000000 in
theorem C_JournalScript {a0 : Int} {A1 : Option Addr} {L : List JAct} {c1 : Nat} (w : World) (hL : RJA w A1 L) (m1 : L.length ≤ maxLen) (w1 : (Lit.int .i64 a0).wf = true) :
  CallsR Tryz.prog 6 [.int .i64 a0, .slice A1 L.length c1] w fun v w' => v = .bool true ∧ Below w.heap.size w w' := by
 have wm : (Lit.int .i64 12).wf = true := by decide
 have hpk := pick_range a0 12 (by omega)
 obtain ⟨p, hp⟩ : ∃ p, pick a0 12 = p := ⟨_, rfl⟩
 rw [hp] at hpk
 obtain ⟨m, hm⟩ : ∃ m : Nat, 1 + p = (m : Int) := ⟨(1 + p).toNat, by omega⟩
 have hmb : 1 ≤ m ∧ m ≤ 12 := by omega
 have hm2 : 1 ≤ (m : Int) ∧ (m : Int) ≤ 256 := by omega
 obtain ⟨Z, hZ⟩ : ∃ Z : List Sec, List.replicate (2 + 2 * m) z256 = Z := ⟨_, rfl⟩
 obtain ⟨Q, hQ⟩ : ∃ Q : List (Option Sec), List.replicate (2 + 2 * m) none = Q := ⟨_, rfl⟩
 have hZl : Z.length = 2 + 2 * m := by rw [← hZ, List.length_replicate]
 have hQl : Q.length = 2 + 2 * m := by rw [← hQ, List.length_replicate]
 obtain ⟨S1, hS1⟩ : ∃ S1, fmS Z Q m = S1 := ⟨_, rfl⟩
 have hS1l : S1.length = 2 + 2 * m := by rw [← hS1, fmS_len, hZl]
 have hQ1 : List.replicate Z.length none = Q := by rw [hZl, hQ]
 have hz0 : szR ([] : List Rc) = 0 := rfl
 refine callsR Tryz.func6 rfl rfl (by kernel_rfl) rfl ?_
 have hw := Below.refl w.heap.size w
 refine zs (za rfl (wl_nil (rk_seq (zs ?_))))
 refine wl_call rfl (C_lives09 _) ?_
 rintro v15 w15 ⟨rfl, b15⟩
 have s15 := b15.size
 replace hw := hw.trans (b15.mono hw.size)
 refine zp (o_not rfl) ?_
 refine wl_nil ?_
 refine rk_false rfl ?_
 refine rk_skip (rk_seq (zs (zm rfl ?_)))
 refine wl_call rfl (C_small09 _ (hL.u hw) rfl (by omega)) ?_
 rintro v18 w18 ⟨b18, ⟨rfl, ⟨i18, b18_1⟩⟩⟩
 have s18 := b18_1.size
 replace hw := hw.trans (b18_1.mono hw.size)
 refine zp (o_not rfl) ?_
 refine wl_nil ?_
 cases b18 with
 | false =>
  refine rk_true rfl ?_
  refine zs (za rfl (wl_nil ?_))
  refine ret1 rfl rfl ?_
  exact ⟨rfl, hw⟩
 | true =>
  have hs : smallJ L := (show true = true ↔ smallJ L by assumption).1 rfl
  refine rk_false rfl ?_
  refine rk_skip (zs (zm rfl ?_))
  refine wl_call rfl (C_PickR _ hp w1 wm) ?_
  rintro v21 w21 ⟨rfl, b21⟩
  have s21 := b21.size
  replace hw := hw.trans (b21.mono hw.size)
  refine zp (o_add rfl rfl (by omega) (by omega)) ?_
  refine za rfl (wl_nil (zs (zm rfl ?_)))
  refine wl_call rfl (C_jSectorsY _ (by omega)) ?_
  rintro v25 w25 ⟨rfl, rfl⟩
  rw [hm]
  refine wl_call rfl (C_dNewOk _ (by omega) hZ hQ (by omega) (by omega)) ?_
  rintro v26 w26 ⟨g26, ⟨rfl, ⟨f26, b26⟩⟩⟩
  have s26 := b26.size
  replace hw := hw.trans (b26.mono hw.size)
  refine zm rfl ?_
  refine zp (o_ext20 rfl) ?_
  refine zp (o_ext21 rfl) ?_
  refine za rfl (za rfl (wl_nil (zs (zm rfl ?_))))
  refine wl_call rfl (C_r9SectorsY _ (by omega)) ?_
  rintro v31 w31 ⟨rfl, b31⟩
  have s31 := b31.size
  replace hw := hw.trans (b31.mono hw.size)
  replace f26 := f26.u b31
  refine wl_call rfl (C_qNew (m := 2 + 2 * m) _ (by omega) hZ hQ (by omega) (by omega)) ?_
  rintro _ w32 ⟨g32, rfl, hq32, b32⟩
  have sb32 := b32.size
  replace hw := hw.trans (b32.mono hw.size)
  replace f26 := f26.u b32
  have f32 := hq32 (fun _ => True)
  clear hq32
  have hs31 : w.heap.size ≤ w31.heap.size := by omega
  refine zm rfl ?_
  refine zp (o_ext20 rfl) ?_
  refine zp (o_ext21 rfl) ?_
  refine za rfl (za rfl (wl_nil (zs (zm rfl (zm rfl ?_)))))
  refine wl_call rfl (C_jsFormat _ f26 rfl hS1 hQ1 (by omega) (by omega)) ?_
  rintro v38 w38 ⟨g38, ⟨rfl, ⟨f38, ⟨i38, g38_1⟩⟩⟩⟩
  have s38 := g38_1.size
  replace hw := hw.trans (g38_1.below hw.size (by omega))
  replace f32 := f32.c g38_1 (by omega)
  clear f26
  refine zm rfl ?_
  refine zp (o_ext20 rfl) ?_
  refine zp (o_ext21 rfl) ?_
  refine za rfl (za rfl (wl_nil (zs (zm rfl (zm rfl ?_)))))
  have hs25 : w.heap.size ≤ w25.heap.size := by omega
  have ho : w25.heap.size ≤ w26.heap.size ∧ w26.heap.size ≤ w31.heap.size ∧ w31.heap.size ≤ w32.heap.size := by omega
  refine wl_call rfl (K_r9Format (S1 := S1) (C1 := Q) _ f32 (fun _ _ => trivial) rfl (by omega) (by omega) rfl rfl hS1 hQ1) ?_
  rintro _ w44 ⟨g44, rfl, fB, hg44, hd44, hc44⟩
  have hB : Both w44 w25.heap.size w26.heap.size w31.heap.size w32.heap.size g26 g32 g38 g44 none S1 Q m 0 [] 0 := Both.made (n := Z.length) ho f38 fB (by omega) hg44 (by omega) hd44 hQ1 hc44
  replace hw := hw.trans (hc44.below hw.size hs31)
  clear f38 f32 fB hd44 hc44
  refine zm rfl ?_
  refine zp (o_ext20 rfl) ?_
  refine zp (o_ext21 rfl) ?_
  refine za rfl (za rfl (wl_nil (rk_seq (zs (zm rfl (zm rfl ?_))))))
  refine zp (o_ne rfl rfl) ?_
  refine zm rfl (zm rfl ?_)
  refine zp (o_ne rfl rfl) ?_
  refine zp (o_pick_f rfl rfl) ?_
  refine wl_nil ?_
  refine rk_false rfl ?_
  refine rk_skip (rk_seq (zs (za rfl (wl_nil (rk_block ?_)))))
  have hsl := hs.1
  refine rk_joinf (fun fb fr V => ∃ (g rg : Nat) (L' : Option Addr) (S : List Sec) (C : List (Option Sec)) (a e : Nat) (R : List Rc) (s : Nat) (x y : Int), fr = [(12, .int .i64 x), (11, .pointer (some ⟨rg, 0, none⟩)), (10, .int .i64 y), (9, .pointer (some ⟨g, 0, none⟩))] ++ fb.drop 18 ∧ Both V w25.heap.size w26.heap.size w31.heap.size w32.heap.size g26 g32 g rg L' S C a e R s ∧ S.length = 2 + 2 * m ∧ Below w.heap.size w V) ?_ (fun ks hj => ?_)
  rotate_left
  ·refine rk_loopf (fun fb k fr V => ∃ (i : Nat) (v : Int) (g rg : Nat) (L' : Option Addr) (S : List Sec) (C : List (Option Sec)) (a e : Nat) (R : List Rc) (s : Nat) (x y : Int), fr = [(13, .int .i64 v), (12, .int .i64 x), (11, .pointer (some ⟨rg, 0, none⟩)), (10, .int .i64 y), (9, .pointer (some ⟨g, 0, none⟩))] ++ fb.drop 18 ∧ v = i ∧ i ≤ L.length ∧ k = L.length - i ∧ Both V w25.heap.size w26.heap.size w31.heap.size w32.heap.size g26 g32 g rg L' S C a e R s ∧ S.length = 2 + 2 * m ∧ Below w.heap.size w V) (n := L.length) (Fr.le_of (by kernel_rfl) (by kernel_rfl) (by repeat' constructor)) ⟨0, _, g38, g44, none, S1, Q, m, 0, [], 0, 0, 0, rfl, rfl, by omega, rfl, hB, hS1l, hw⟩ ?_
   clear hB hw
   rintro k fr V ⟨i, v, g, rg, L', S, C, a, e, R, s, x, y, rfl, rfl, hi, rfl, hB, hSl, hw⟩
   have shw := hw.size
   have hCl := hB.p.dk.len
   have hfit := hB.p.fit
   have hgV := hB.p.lt
   have hgrV := hB.r.lt
   have hdV := hB.p.dk.hi
   have hLV := fun k h => (hB.p.row k h).2
   have kB : ∀ V', Below V.heap.size V V' → Both V' w25.heap.size w26.heap.size w31.heap.size w32.heap.size g26 g32 g rg L' S C a e R s := fun _ h => hB.u h
   clear hB
   have hw1 := Below.refl V.heap.size V
   first | refine zf ?_ | refine zg ?_
   by_cases hil : i < L.length
   ·have hLi := hs.2 _ (List.getElem_mem hil)
    refine rk_seq (zs (zm rfl (zm rfl ?_)))
    refine zp (o_len (t := 22) Tryz.underlying22 rfl) ?_
    refine zp (o_lt rfl rfl) ?_
    refine wl_nil ?_
    refine rk_if rfl (fun h57 => ?_) (fun h57 => h57.elim (by omega))
    refine rk_skip (rk_seq (rk_block (zs (zm rfl (zm rfl ?_)))))
    refine zp (o_iaddrA (i) Tryz.underlying22 Tryz.sizeOf40 rfl rfl rfl (hL.some_ (by omega)) (by omega)) ?_
    refine wl_ldJAct rfl hL hw (by omega) ?_
    rintro A163 c163 A263 c263 f63 i63 i63_1 f63_1 i63_2 i63_3 e63 e63_1
    refine wl_allocg [_, _, _, _, _] Tryz.zeroValue40 (by rfl) ?_
    rintro g14 w14 f14 b14 i14 i14_1
    have s14 := b14.size
    replace hw := hw.trans (b14.mono hw.size)
    replace hw1 := hw1.trans (b14.mono hw1.size)
    refine wl_storega Tryz.sizeOf40 rfl rfl (by rfl) (oneCell_of (by rfl)) f14 (by rfl) ?_
    rintro w_1 f g_1 e_1
    have s_1 := g_1.size
    replace hw := hw.trans (below_of_grownBy g_1.g hw.size (by omega))
    replace hw1 := hw1.trans (below_of_grownBy g_1.g hw1.size (by omega))
    clear f14
    refine wl_nil (rk_seq (zs ?_))
    refine zp (o_faddr (s := 40) (i := 0) (off := 0) Tryz.underlying40 rfl Tryz.sizeOf3 rfl rfl rfl) ?_
    refine wl_r (o_loadbg Tryz.isAgg3 rfl f (by rfl)) ?_
    refine wl_call rfl (C_PickR _ (by rfl) e63 (by rfl)) ?_
    rintro v66 w66 ⟨rfl, b66⟩
    have s66 := b66.size
    replace hw := hw.trans (b66.mono hw.size)
    replace hw1 := hw1.trans (b66.mono hw1.size)
    replace f := f.u b66
    refine wl_nil ?_
    obtain ⟨q, hq⟩ : ∃ q, pick L[i].1 6 = q := ⟨_, rfl⟩
    have hq6 := pick_range L[i].1 6 (by omega)
    rw [hq] at hq6
    rw [hq]
    have hB := kB _ hw1
    have shw66 := hw.size
    clear kB hw1
    refine rk_joinkf (fun fb fr V' => ∃ (g rg : Nat) (L' : Option Addr) (S : List Sec) (C : List (Option Sec)) (a e : Nat) (R : List Rc) (s : Nat) (x : Int), fr = [(13, .int .i64 (i : Int)), (12, .int .i64 x), (11, .pointer (some ⟨rg, 0, none⟩)), (10, .int .i64 x), (9, .pointer (some ⟨g, 0, none⟩))] ++ fb.drop 17 ∧ Both V' w25.heap.size w26.heap.size w31.heap.size w32.heap.size g26 g32 g rg L' S C a e R s ∧ S.length = 2 + 2 * m ∧ Below w.heap.size w V') ?_ (fun ks hj => ?_)
    rotate_left
    ·by_cases q2 : q = 2
     ·obtain ⟨S2, hS2⟩ : ∃ S2, cur S C = S2 := ⟨_, rfl⟩
      obtain ⟨C2, hC2⟩ : ∃ C2 : List (Option Sec), List.replicate S.length none = C2 := ⟨_, rfl⟩
      have hS2l : S2.length = 2 + 2 * m := by rw [← hS2, cur_len, hSl]
      have q0 : ¬ q = 0 := by omega
      have q1 : ¬ q = 1 := by omega
      refine rk_block (rk_seq (zs ?_))
      refine zp (o_eq rfl rfl) ?_
      refine za rfl (wl_nil ?_)
      refine rk_if rfl (fun h100 => absurd h100 (by omega)) (fun h100 => ?_)
      refine rk_region ?_
      refine zp (o_eq rfl rfl) ?_
      refine za rfl (wl_nil ?_)
      refine rk_if rfl (fun h100 => absurd h100 (by omega)) (fun h100 => ?_)
      refine zs ?_
      refine zp (o_eq rfl rfl) ?_
      refine za rfl (wl_nil ?_)
      refine rk_if rfl (fun h117 => ?_) (fun h117 => h117.elim (by omega))
      refine rk_region (zm rfl ?_)
      refine wl_call rfl (K_jsSync _ hB.p hS2 hC2) ?_
      rintro _ w120 ⟨rfl, hp2, hc2⟩
      obtain ⟨hd2, hL2⟩ := hB.doc hc2 (.inl rfl)
      have ho2 := hB.o
      have hg2 := hB.hg
      have hgr2 := hB.hgr
      have hw2 := hw.trans (hc2.own hB.p hs25)
      clear hB hw
      have hw := hw2
      clear hw2 hc2
      refine zm rfl ?_
      refine wl_call rfl (K_r9Sync _ hd2 hS2 hC2) ?_
      rintro _ w122 ⟨rfl, hd3, hc3⟩
      have hB := Both.join ho2 hg2 hgr2 hL2 hp2 hd3 hc3
      have hw2 := hw.trans (hc3.below hw.size hs31 (by have := hd3.hg; omega))
      clear hw hc3 hp2 hd2 hd3
      have hw := hw2
      clear hw2
      refine za rfl (za rfl (wl_nil ?_))
      refine rk_blk ?_
      exact rk_tof hj (Fr.le_of (by kernel_rfl) (by kernel_rfl) (by repeat' constructor)) ⟨g, rg, L', S2, C2, a, e, R, R.length, 0, rfl, hB, hS2l, hw⟩
     ·by_cases q3 : q = 3
      ·have q0 : ¬ q = 0 := by omega
       have q1 : ¬ q = 1 := by omega
       have hRl := hB.p.len
       have hba := hB.p.ha
       have hbe := hB.p.he
       have hbS := hB.p.hS
       have hpk2 := pick_range L[i].2.2.1 (R.length + 1) (by omega)
       obtain ⟨k, hk⟩ : ∃ k : Nat, (R.length : Int) - pick L[i].2.2.1 (R.length + 1) = k := ⟨((R.length : Int) - pick L[i].2.2.1 (R.length + 1)).toNat, by omega⟩
       obtain ⟨T, hT⟩ : ∃ T, R.drop k = T := ⟨_, rfl⟩
       have hTl : R.length - k = T.length := by rw [← hT, List.length_drop]
       have hTm : ∀ r ∈ T, r ∈ R := fun r hr => by rw [← hT] at hr; exact List.mem_of_mem_drop hr
       have hTo : ∀ r ∈ T, OkR r := fun r hr => hB.p.ok r (hTm r hr)
       have hTz : szR T ≤ a * 256 := by rw [← hT]; exact Nat.le_trans (szR_dropV R k) hfit
       have hT7 : ∀ r ∈ T, r.2.length ≤ 3500 := fun r hr => by have := szR_ge T r hr; omega
       have hT10 : ∀ r ∈ T, r.2.length ≤ 10000 := fun r hr => by have := hT7 r hr; omega
       obtain ⟨e1, he1⟩ : ∃ e1, (e + 1) % 18446744073709551616 = e1 := ⟨_, rfl⟩
       obtain ⟨S2, hS2⟩ : ∃ S2, swS S C a e1 (bytesAll (fstB e1) T) = S2 := ⟨_, rfl⟩
       obtain ⟨C2, hC2⟩ : ∃ C2 : List (Option Sec), List.replicate S.length none = C2 := ⟨_, rfl⟩
       have hS2l : S2.length = 2 + 2 * m := by rw [← hS2, swS_len, hSl]
       obtain ⟨P, hP⟩ : ∃ P : Nat → Prop, (fun k => w25.heap.size ≤ k ∧ k < w26.heap.size ∨ k = g ∨ blk L' = some k) = P := ⟨_, rfl⟩
       have hPk : ∀ k, (w25.heap.size ≤ k ∧ k < w26.heap.size ∨ k = g ∨ blk L' = some k) → P k := fun k h => by rw [← hP]; exact h
       have hPw : ∀ k, P k → w.heap.size ≤ k := fun k h => by
        rw [← hP] at h
        have := hB.hg
        rcases h with h | h | h
        ·omega
        ·omega
        ·have := (hB.hL k h).1; omega
       have hPn : ∀ k, (V.heap.size ≤ k ∨ k = rg) → ¬P k := fun k h hp => by
        rw [← hP] at hp
        have h1 := hB.hg
        have h2 := hB.hgr
        have h3 := hB.hrg
        rcases hp with hp | hp | hp
        ·omega
        ·omega
        ·have h4 := hLV k hp
         have h5 := (hB.hL k hp).2
         omega
       obtain ⟨Lr, cr, fr9, hRr, hcr⟩ := hB.r.ex
       refine rk_block (rk_seq (zs ?_))
       refine zp (o_eq rfl rfl) ?_
       refine za rfl (wl_nil ?_)
       refine rk_if rfl (fun h100 => absurd h100 (by omega)) (fun h100 => ?_)
       refine rk_region ?_
       refine zp (o_eq rfl rfl) ?_
       refine za rfl (wl_nil ?_)
       refine rk_if rfl (fun h100 => absurd h100 (by omega)) (fun h100 => ?_)
       refine zs ?_
       refine zp (o_eq rfl rfl) ?_
       refine za rfl (wl_nil ?_)
       refine rk_if rfl (fun h117 => absurd h117 (by omega)) (fun h117 => ?_)
       refine zs ?_
       refine zp (o_eq rfl rfl) ?_
       refine za rfl (wl_nil ?_)
       refine rk_if rfl (fun h123 => ?_) (fun h123 => h123.elim (by omega))
       refine rk_drawoP (P) (id := 30) (none) [0, 0, 2, 0, 8, 20, 32, 65, 0, 0, 512, 1024, 2048, 0, 8192, 20608, 33024, 65791, 262143] [0, 0, 2, 0, 8, 30, 62, 127, 0, 0, 512, 1536, 3584, 0, 8192, 32511, 65535, 131071, 262143] 98532 228 [0, 1, 3, 4, 8, 9, 10, 11, 12, 13, 14, 2, 5, 6, 7, 15, 16, 17, 18] [(.p, 0), (.p, 1), (.p, 3), (.s, 4), (.p, 8), (.p, 9), (.p, 10), (.p, 11), (.s, 12), (.p, 13), (.s, 14), (.c, 2), (.c, 5), (.c, 6), (.c, 7), (.l, 15), (.l, 16), (.p, 17), (.p, 18)] (by kernel_rfl) (by kernel_rfl) (by kernel_rfl) (by kernel_rfl) (by kernel_rfl) ?_; dsimp only [inOrder, nthOp]
       replace f := f.d
       replace hB := hB.d
       replace hw := hw.drew
       replace fr9 := fr9.d
       replace hRr := hRr.d
       obtain ⟨vs, hvs⟩ : ∃ n, w66.heap.size = n := ⟨_, rfl⟩
       have hp := hB.p
       refine zm rfl (zm rfl ?_)
       refine zp (o_faddr (s := 40) (i := 2) (off := 3) Tryz.underlying40 rfl Tryz.sizeOf3 rfl rfl rfl) ?_
       refine wl_s (fun _ hk => (o_loadbg Tryz.isAgg3 rfl (f.p hk (by exact hPn _ (by omega))) (by rfl))) ?_
       refine zm rfl (zm rfl ?_)
       refine zp (o_nil rfl) ?_
       refine zp (o_faddr (s := 66) (i := 3) (off := 3) Tryz.underlying66 rfl Tryz.sizeOf44 rfl rfl rfl) ?_
       refine wl_s (fun _ hk => (o_loadbg Tryz.isAgg44 rfl (fr9.p hk (by exact hPn _ (by omega))) (by rfl))) ?_
       refine zp (o_faddr (s := 40) (i := 2) (off := 3) Tryz.underlying40 rfl Tryz.sizeOf3 rfl rfl rfl) ?_
       refine wl_s (fun _ hk => (o_loadbg Tryz.isAgg3 rfl (f.p hk (by exact hPn _ (by omega))) (by rfl))) ?_
       refine wl_call rfl (C_jsRecords _ hp) ?_ (hq := .inr fun _ _ h => grown_of_below h.choose_spec.choose_spec.2.2 _)
       rintro v127 w127 ⟨A127, ⟨c127, ⟨rfl, ⟨f127, b127⟩⟩⟩⟩
       simp only [drew_size] at f127
       simp only [drew_size] at b127
       have qf127 := f127.cap
       have s127 := b127.size
       simp only [drew_size] at s127
       replace hw := hw.trans (b127.mono hw.size)
       replace hp := hp.u b127
       replace hRr := hRr.u b127
       replace fr9 := fr9.u b127
       replace hB := hB.u b127
       replace f := f.u b127
       have fq := (f127.re (X' := fun k => vs ≤ k) (fun k h => by have h' : w66.drew.heap.size ≤ k := h; have : w66.drew.heap.size = vs := hvs; omega)).rrq (fun k h => by have h' : w66.drew.heap.size ≤ k := h; have : w66.drew.heap.size = vs := hvs; omega)
       clear f127
       refine wl_call rfl (C_last09 _ fq hk rfl (by omega) (by omega) e63_1) ?_ (hq := .inr fun _ _ h => grown_of_below h.choose_spec.choose_spec.2.2.2 _)
       rintro v130 w130 ⟨A130, ⟨c130, ⟨rfl, ⟨f130, ⟨i130, b130⟩⟩⟩⟩⟩
       have s130 := b130.size
       replace hw := hw.trans (b130.mono hw.size)
       replace fq := fq.u b130
       replace f := f.u b130
       replace hB := hB.u b130
       replace fr9 := fr9.u b130
       replace hRr := hRr.u b130
       replace hp := hp.u b130
       rw [hT] at f130
       rw [hTl]
       refine wl_call rfl (C_OwnRecords _ f130.to_RRec rfl (by omega) (by omega)) ?_ (hq := .inr fun _ _ h => grown_of_below h.choose_spec.choose_spec.2.2 _)
       rintro v131 w131 ⟨A131, ⟨c131, ⟨rfl, ⟨f131, b131⟩⟩⟩⟩
       have qf131 := f131.cap
       have s131 := b131.size
       replace hw := hw.trans (b131.mono hw.size)
       replace hp := hp.u b131
       replace hRr := hRr.u b131
       replace fr9 := fr9.u b131
       replace hB := hB.u b131
       replace f := f.u b131
       replace fq := fq.u b131
       replace f130 := f130.u b131
       clear hp
       refine wl_callQ rfl (K_jsSwitch (e1 := e1) _ hB.p f131.to_RRec rfl hTo hTz he1 hS2 hC2) ?_ (hq := .inr fun _ _ h => by obtain ⟨_, _, _, h, _⟩ := h; exact h.okP hPk)
       rintro _ w132 ⟨rfl, L2, hp2, hc2, hLr2⟩
       obtain ⟨hd2, hL2⟩ := hB.doc hc2 (.inr hLr2)
       have hRr1 := hRr.re (X' := fun k => Xof w32.heap.size g rg L' k ∧ k < w131.heap.size) (fun k h1 h2 => ⟨h2, h1⟩)
       have hRr2 := hRr1.keep (fun k hx hl => hc2.block hl (.inr (by have := hx.1.1; omega)) hx.1.2.1 hx.1.2.2.2)
       have hRr3 := hRr2.re (X' := Xof w32.heap.size g rg L2) (fun k _ x => ⟨x.1.1, x.1.2.1, x.1.2.2.1, fun e => by have := hLr2 k e; have := x.2; omega⟩)
       have ho2 := hB.o
       have hg2 := hB.hg
       have hgr2 := hB.hgr
       have hw2 := hw.trans (hc2.own hB.p hs25)
       clear hB hw hRr hRr1 hRr2 fr9 fq f130 f131
       have hw := hw2
       clear hw2 hc2
       refine wl_call rfl (C_last09 _ hRr3 hk rfl (by omega) (by omega) e63_1) ?_
       rintro v140 w140 ⟨A140, ⟨c140, ⟨rfl, ⟨f140, ⟨i140, b140⟩⟩⟩⟩⟩
       have s140 := b140.size
       replace hw := hw.trans (b140.mono hw.size)
       replace hRr3 := hRr3.u b140
       replace hd2 := hd2.u b140
       replace hp2 := hp2.u b140
       have q1 := hp2.lt
       have q2 := hd2.lt
       have q3 := hd2.dk.hi
       have q4 := hd2.hg
       rw [hT] at f140
       rw [hTl]
       refine wl_call rfl (K_r9SwitchT (e1 := e1) _ hd2 (fun k hk => ⟨by omega, by omega, by omega, fun e => by have := hp2.row k e; omega⟩) f140 rfl hTo hT7 hba hbe he1 hTz hbS hS2 hC2) ?_
       rintro _ w141 ⟨rfl, hd3, hc3⟩
       have hB := Both.join ho2 hg2 hgr2 hL2 hp2 hd3 hc3
       have hw2 := hw.trans (hc3.below hw.size hs31 (by omega))
       clear hw hc3 hp2 hd2 hd3
       have hw := hw2
       clear hw2
       refine za rfl (za rfl ?_)
       refine wl_nild ?_
       refine rk_blk ?_
       exact rk_tof hj (Fr.le_of (by kernel_rfl) (by kernel_rfl) (by repeat' constructor)) ⟨g, rg, L2, S2, C2, a, e1, T, T.length, 0, rfl, hB, hS2l, hw⟩
      ·by_cases q1 : q ≤ 1
       ·refine rk_block ?_
        refine rk_seq (zs ?_)
        refine zp (o_eq rfl rfl) ?_
        refine za rfl (wl_nil ?_)
        refine rk_joinkf (fun fb fr V' => fr = [(100, .bool true)] ++ fb.drop 2 ∧ V' = w66) ?_ (fun ks hj => ?_)
        rotate_left
        ·by_cases q0 : q = 0
         ·refine rk_if rfl (fun h100 => ?_) (fun h100 => h100.elim (by omega))
          refine rk_skip ?_
          rw [decide_eq_true q0]
          exact rk_tof hj (Fr.le_of (by kernel_rfl) (by kernel_rfl) (by repeat' constructor)) ⟨rfl, rfl⟩
         ·have e1 : q = 1 := by omega
          refine rk_if rfl (fun h100 => absurd h100 (by omega)) (fun h100 => ?_)
          refine rk_region ?_
          refine zp (o_eq rfl rfl) ?_
          refine za rfl (wl_nil ?_)
          rw [decide_eq_true e1]
          exact rk_tof hj (Fr.le_of (by kernel_rfl) (by kernel_rfl) (by repeat' constructor)) ⟨rfl, rfl⟩
        rintro fr V' ⟨rfl, rfl⟩
        first | refine zf ?_ | refine zg ?_
        refine rk_true rfl ?_
        obtain ⟨P, hP⟩ : ∃ P : Nat → Prop, (fun k => w25.heap.size ≤ k ∧ k < w26.heap.size ∨ k = g ∨ blk L' = some k) = P := ⟨_, rfl⟩
        have hPk : ∀ k, (w25.heap.size ≤ k ∧ k < w26.heap.size ∨ k = g ∨ blk L' = some k) → P k := fun k h => by rw [← hP]; exact h
        have hPw : ∀ k, P k → w.heap.size ≤ k := fun k h => by
         rw [← hP] at h
         have := hB.hg
         rcases h with h | h | h
         ·omega
         ·omega
         ·have := (hB.hL k h).1; omega
        have hPn : ∀ k, V.heap.size ≤ k → ¬P k := fun k h hp => by
         rw [← hP] at hp
         rcases hp with hp | hp | hp
         ·omega
         ·omega
         ·have := hLV k hp; omega
        refine rk_drawoP (P) (id := 26) (none) [0, 0, 2, 4, 0, 16, 32, 64, 136, 385, 0, 0, 2048, 5632, 9215, 32767] [0, 0, 2, 6, 0, 16, 48, 112, 254, 511, 0, 0, 2048, 8191, 16383, 32767] 8832 640 [0, 1, 2, 3, 4, 5, 6, 10, 11, 12, 7, 8, 9, 13, 14, 15] [(.p, 0), (.p, 1), (.p, 2), (.s, 3), (.p, 4), (.p, 5), (.r, 6), (.p, 10), (.p, 11), (.s, 12), (.c, 7), (.p, 8), (.c, 9), (.l, 13), (.p, 14), (.p, 15)] (by kernel_rfl) (by kernel_rfl) (by kernel_rfl) (by kernel_rfl) (by kernel_rfl) ?_; dsimp only [inOrder, nthOp]
        replace f := f.d
        replace hB := hB.d
        replace hw := hw.drew
        refine zm rfl ?_
        refine zp (o_faddr (s := 40) (i := 1) (off := 1) Tryz.underlying40 rfl Tryz.sizeOf37 rfl rfl rfl) ?_
        refine zp (o_faddr (s := 37) (i := 0) (off := 0) Tryz.underlying37 rfl Tryz.sizeOf5 rfl rfl rfl) ?_
        refine wl_s (fun _ hk => (o_loadbg Tryz.isAgg5 rfl (f.p hk (by exact hPn _ (by omega))) (by rfl))) ?_
        refine zp (o_faddr (s := 40) (i := 1) (off := 1) Tryz.underlying40 rfl Tryz.sizeOf37 rfl rfl rfl) ?_
        refine zp (o_faddr (s := 37) (i := 1) (off := 1) Tryz.underlying37 rfl Tryz.sizeOf35 rfl rfl rfl) ?_
        refine wl_r (o_loadbg Tryz.isAgg35 rfl f (by rfl)) ?_
        refine zm rfl ?_
        refine zp (o_faddr (s := 40) (i := 1) (off := 1) Tryz.underlying40 rfl Tryz.sizeOf37 rfl rfl rfl) ?_
        refine wl_s (fun _ hk => (o_loadCut Tryz.isAgg37 Tryz.sizeOf37 rfl (f.p hk (by exact hPn _ (by omega))) (by rfl) (by rfl))) ?_
        refine wl_call rfl (C_OwnB _ (f63.u hw) rfl (by omega)) ?_ (hq := .inr fun _ _ h => grown_of_below h.choose_spec.choose_spec.2.2 _)
        rintro v110 w110 ⟨A110, ⟨c110, ⟨rfl, ⟨f110, b110⟩⟩⟩⟩
        simp only [drew_size] at f110
        simp only [drew_size] at b110
        have qf110 := f110.cap
        have s110 := b110.size
        simp only [drew_size] at s110
        replace hw := hw.trans (b110.mono hw.size)
        replace hB := hB.u b110
        replace f := f.u b110
        refine zp (o_buildg [_, _] Tryz.underlying37 Tryz.zeroValue37 (by rfl) (by rfl) rfl (by rfl) (by rfl) (fun _ => by kernel_rfl)) ?_
        have hp7 := hLi.1
        have hRl := hB.p.len
        have hba := hB.p.ha
        have hbe := hB.p.he
        have hbS := hB.p.hS
        by_cases hO : OkR L[i].2.1
        ·obtain ⟨z, hz⟩ : ∃ z, (bodyB L[i].2.1).length + 8 = z := ⟨_, rfl⟩
         by_cases hfull : a * 256 < szR R + z
         ·refine wl_call rfl (C_jsAppendFull (kd := L[i].2.1.1) (p := L[i].2.1.2) _ hB.p f110.to_RdT.1 rfl rfl hO (by omega) (by rw [show (bodyB (L[i].2.1.1, L[i].2.1.2)).length + 8 = z from hz]; exact hfull)) ?_ (hq := .inr fun _ _ h => grown_of_below h.2 _)
          rintro _ w112 ⟨rfl, b112⟩
          have sb112 := b112.size
          replace hw := hw.trans (b112.mono hw.size)
          replace f := f.u b112
          replace hB := hB.u b112
          replace f110 := f110.u b112
          refine wl_call rfl (C_r9AppendFull (kd := L[i].2.1.1) (p := L[i].2.1.2) _ hB.r (f63.u hw) rfl rfl (by assumption) hO (by omega) (by rw [show (bodyB (L[i].2.1.1, L[i].2.1.2)).length + 8 = z from hz]; exact hfull) hba hfit hbe hbS hRl) ?_
          rintro _ w116 ⟨rfl, b116⟩
          have sb116 := b116.size
          replace hw := hw.trans (b116.mono hw.size)
          replace f110 := f110.u b116
          replace hB := hB.u b116
          replace f := f.u b116
          refine za rfl (za rfl ?_)
          refine wl_nild ?_
          refine rk_blk ?_
          exact rk_tof hj (Fr.le_of (by kernel_rfl) (by kernel_rfl) (by repeat' constructor)) ⟨g, rg, L', S, C, a, e, R, s, 7, rfl, hB, hSl, hw⟩
         ·obtain ⟨bs, hbs⟩ : ∃ bs, bytesR (chainAll (fstB e) R) (L[i].2.1.1, L[i].2.1.2) = bs := ⟨_, rfl⟩
          have hbl : bs.length = z := by rw [← hbs, bytesR_len]; exact hz
          obtain ⟨C2, hC2⟩ : ∃ C2, appC S C a e (szR R) bs = C2 := ⟨_, rfl⟩
          refine wl_callQ rfl (K_jsAppend (kd := L[i].2.1.1) (p := L[i].2.1.2) _ hB.p f110.to_RdT.1 rfl rfl hO (by omega) hbs hC2 (by omega)) ?_ (hq := .inr fun _ _ h => by obtain ⟨_, _, _, h, _⟩ := h; exact h.okP hPk)
          rintro _ w112 ⟨rfl, L2, hp2, hc2, hLr2⟩
          obtain ⟨hd2, hL2⟩ := hB.doc hc2 hLr2
          have ho2 := hB.o
          have hg2 := hB.hg
          have hgr2 := hB.hgr
          have hw2 := hw.trans (hc2.own hB.p hs25)
          clear hB hw
          have hw := hw2
          clear hw2 hc2
          have q1 := hp2.lt
          have q2 := hd2.lt
          have q3 := hd2.dk.hi
          have q4 := hd2.hg
          refine wl_call rfl (K_r9Append (kd := L[i].2.1.1) (p := L[i].2.1.2) _ hd2 (fun k hk => ⟨by omega, by omega, by omega, fun e => by have := hp2.row k e; omega⟩) f63 hw hs31 rfl rfl (by assumption) hO (by omega) hbs hC2 (by omega) hba hbe hbS hRl) ?_
          rintro _ w116 ⟨rfl, hd3, hc3⟩
          have hB := Both.join ho2 hg2 hgr2 hL2 hp2 hd3 hc3
          have hw2 := hw.trans (hc3.below hw.size hs31 (by omega))
          clear hw hc3 hp2 hd2 hd3
          have hw := hw2
          clear hw2
          refine za rfl (za rfl ?_)
          refine wl_nild ?_
          refine rk_blk ?_
          exact rk_tof hj (Fr.le_of (by kernel_rfl) (by kernel_rfl) (by repeat' constructor)) ⟨g, rg, L2, S, C2, a, e, R ++ [(L[i].2.1.1, L[i].2.1.2)], s, 0, rfl, hB, hSl, hw⟩
        ·refine wl_call rfl (C_jsAppendBad (kd := L[i].2.1.1) (p := L[i].2.1.2) _ hB.p f110.to_RdT.1 rfl rfl hO (by omega)) ?_ (hq := .inr fun _ _ h => grown_of_below h.2 _)
         rintro _ w112 ⟨rfl, b112⟩
         have sb112 := b112.size
         replace hw := hw.trans (b112.mono hw.size)
         replace f := f.u b112
         replace hB := hB.u b112
         replace f110 := f110.u b112
         refine wl_call rfl (C_r9AppendBad (kd := L[i].2.1.1) (p := L[i].2.1.2) _ hB.r (f63.u hw) rfl rfl (by assumption) hO (by omega) hba hfit hbe hRl) ?_
         rintro _ w116 ⟨rfl, b116⟩
         have sb116 := b116.size
         replace hw := hw.trans (b116.mono hw.size)
         replace f110 := f110.u b116
         replace hB := hB.u b116
         replace f := f.u b116
         refine za rfl (za rfl ?_)
         refine wl_nild ?_
         refine rk_blk ?_
         exact rk_tof hj (Fr.le_of (by kernel_rfl) (by kernel_rfl) (by repeat' constructor)) ⟨g, rg, L', S, C, a, e, R, s, 2, rfl, hB, hSl, hw⟩
       ·have q0 : ¬ q = 0 := by omega
        have n1 : ¬ q = 1 := by omega
        have ho2 := hB.o
        have hD := hB.p.dk
        have hF := hB.r.dk.re (Q' := fun k => w32.heap.size ≤ k) (fun k _ h => h.1)
        have hD2 := hD.n2
        clear hB
        refine rk_block (rk_seq (zs ?_))
        refine zp (o_eq rfl rfl) ?_
        refine za rfl (wl_nil ?_)
        refine rk_if rfl (fun h100 => absurd h100 (by omega)) (fun h100 => ?_)
        refine rk_region ?_
        refine zp (o_eq rfl rfl) ?_
        refine za rfl (wl_nil ?_)
        refine rk_if rfl (fun h100 => absurd h100 (by omega)) (fun h100 => ?_)
        refine zs ?_
        refine zp (o_eq rfl rfl) ?_
        refine za rfl (wl_nil ?_)
        refine rk_if rfl (fun h117 => absurd h117 (by omega)) (fun h117 => ?_)
        refine zs ?_
        refine zp (o_eq rfl rfl) ?_
        refine za rfl (wl_nil ?_)
        refine rk_if rfl (fun h123 => absurd h123 (by omega)) (fun h123 => ?_)
        refine rk_seq (zs ?_)
        refine zp (o_faddr (s := 40) (i := 0) (off := 0) Tryz.underlying40 rfl Tryz.sizeOf3 rfl rfl rfl) ?_
        refine wl_r (o_loadbg Tryz.isAgg3 rfl f (by rfl)) ?_
        refine wl_call rfl (C_PickR _ hq e63 (by rfl)) ?_
        rintro v69 w69 ⟨rfl, b69⟩
        have s69 := b69.size
        replace hw := hw.trans (b69.mono hw.size)
        replace hF := hF.u b69
        replace hD := hD.u b69
        replace f := f.u b69
        refine zp (o_eq rfl rfl) ?_
        refine wl_nil ?_
        refine rk_joinkf (fun fb fr V' => ∃ (S' : List Sec) (C' : List (Option Sec)), fr = [] ++ fb.drop 13 ∧ DkAt V' w25.heap.size w26.heap.size g26 S' C' ∧ RqAt V' w31.heap.size w32.heap.size (fun k => w32.heap.size ≤ k) g32 S' C' ∧ S'.length = 2 + 2 * m ∧ Below w.heap.size w V') ?_ (fun ks hj => ?_)
        rotate_left
        ·by_cases q5 : q = 5
         ·obtain ⟨S2, hS2⟩ : ∃ S2, crash S C L[i].2.2.2 = S2 := ⟨_, rfl⟩
          obtain ⟨C2, hC2⟩ : ∃ C2 : List (Option Sec), List.replicate S.length none = C2 := ⟨_, rfl⟩
          have hS2l : S2.length = 2 + 2 * m := by rw [← hS2, crash_len, hSl]
          refine rk_if rfl (fun h70 => ?_) (fun h70 => h70.elim (by omega))
          refine zs (zm rfl ?_)
          refine wl_litBo0 rfl ?_
          rintro A72 w72 f72 b72
          have qf72 := f72.cap
          have s72 := b72.size
          replace hw := hw.trans (b72.mono hw.size)
          replace f := f.u b72
          replace hD := hD.u b72
          replace hF := hF.u b72
          refine zp (o_faddr (s := 40) (i := 3) (off := 4) Tryz.underlying40 rfl Tryz.sizeOf38 rfl rfl rfl) ?_
          refine wl_r (o_loadbg Tryz.isAgg38 rfl f (by rfl)) ?_
          refine wl_appBo0 rfl f72 rfl f63_1 hw rfl (by omega) (by omega) ?_
          rintro A75 c75 w75 f75 b75
          have qf75 := f75.cap
          have s75 := b75.size
          replace hw := hw.trans (b75.mono hw.size)
          replace hF := hF.u b75
          replace hD := hD.u b75
          replace f := f.u b75
          replace f72 := f72.u b75
          refine wl_call rfl (C_dCrash _ hD f75.to_RdBo hS2 hC2 (by omega) rfl (by omega)) ?_
          rintro v76 w76 ⟨rfl, ⟨f76, g76⟩⟩
          have s76 := g76.size
          replace hw := hw.trans (g76.below hw.size (by omega))
          replace f72 := f72.c g76 (by omega)
          replace f := f.c g76 (by omega)
          replace hF := hF.c g76 (by omega)
          replace f75 := f75.c g76 (by omega)
          clear hD
          refine wl_nil (rk_region (zm rfl ?_))
          refine zp (o_faddr (s := 40) (i := 3) (off := 4) Tryz.underlying40 rfl Tryz.sizeOf38 rfl rfl rfl) ?_
          refine wl_r (o_loadbg Tryz.isAgg38 rfl f (by rfl)) ?_
          refine wl_call rfl (C_qCrash _ hF (f63_1.u hw) hS2 hC2 (by omega) rfl (by omega)) ?_
          rintro v80 w80 ⟨rfl, ⟨f80, g80⟩⟩
          have s80 := g80.size
          replace hw := hw.trans (g80.below hw.size (by omega))
          replace f76 := f76.c g80 (by omega)
          clear f75
          clear hF
          clear f
          clear f72
          refine wl_nil ?_
          exact rk_tof hj (Fr.le_of (by kernel_rfl) (by kernel_rfl) (by repeat' constructor)) ⟨S2, C2, rfl, by assumption, by assumption, hS2l, hw⟩
         ·refine rk_if rfl (fun h70 => absurd h70 (by omega)) (fun h70 => ?_)
          refine rk_skip ?_
          exact rk_tof hj (Fr.le_of (by kernel_rfl) (by kernel_rfl) (by repeat' constructor)) ⟨S, C, rfl, hD, hF, hSl, hw⟩
        clear hD hF hw hD2 hCl
        rintro fr V' ⟨S', C', rfl, hD, hF, hSl', hw⟩
        have shw := hw.size
        first | refine zf ?_ | refine zg ?_
        have hCl := hD.len
        have hfw := hF.hi
        obtain ⟨b0, hb0⟩ : ∃ b0 : Sec, (cur S' C')[0]? = some b0 := ⟨_, List.getElem?_eq_getElem (by rw [cur_len]; omega)⟩
        obtain ⟨b1, hb1⟩ : ∃ b1 : Sec, (cur S' C')[1]? = some b1 := ⟨_, List.getElem?_eq_getElem (by rw [cur_len]; omega)⟩
        have r0 := rdD_of hb0 hCl
        have r1 := rdD_of hb1 hCl
        by_cases hno : ∀ e a, headOf b0.1 b1.1 = some (e, a) → S'.length < 2 + 2 * a
        ·refine zs ?_
         refine zm rfl ?_
         refine wl_call rfl (C_jOpenBad _ hD r0 r1 hno b0.2 b1.2 (by omega)) ?_
         rintro _ w83 ⟨rfl, b83⟩
         have sb83 := b83.size
         replace hw := hw.trans (b83.mono hw.size)
         replace hF := hF.u b83
         replace hD := hD.u b83
         refine zm rfl ?_
         refine zp (o_ext20 rfl) ?_
         refine zp (o_ext21 rfl) ?_
         refine za rfl (za rfl (wl_nil (zs (zm rfl ?_))))
         refine wl_call rfl (C_r9OpenBad _ hF (fun k h => h) r0 r1 hno b0.2 b1.2 (by omega)) ?_
         rintro _ w88 ⟨rfl, b88⟩
         have sb88 := b88.size
         replace hw := hw.trans (b88.mono hw.size)
         replace hD := hD.u b88
         replace hF := hF.u b88
         refine zm rfl ?_
         refine zp (o_ext20 rfl) ?_
         refine zp (o_ext21 rfl) ?_
         refine za rfl (za rfl (wl_nil (zs (zm rfl ?_))))
         refine zp (o_ne rfl rfl) ?_
         refine zm rfl (wl_off (wl_off ?_))
         refine zp (o_pick_t rfl rfl) ?_
         refine wl_nil ?_
         refine rk_true rfl ?_
         refine zs (zm rfl (zm rfl ?_))
         refine zp (o_eq rfl rfl) ?_
         refine za rfl (wl_nil ?_)
         refine ret1 rfl rfl ?_
         exact ⟨rfl, hw⟩
        ·obtain ⟨e', a', hh, hsz⟩ : ∃ e' a', headOf b0.1 b1.1 = some (e', a') ∧ 2 + 2 * a' ≤ S'.length := by
          cases hq : headOf b0.1 b1.1 with
          | none => exact absurd (fun e a h => by rw [hq] at h; cases h) hno
          | some q => exact ⟨q.1, q.2, rfl, Classical.byContradiction fun hc => hno (fun e a h => by rw [hq] at h; injection h with h; subst h; simp only at hc; omega)⟩
         obtain ⟨e1, he1⟩ : ∃ e1, (e' + 1) % 18446744073709551616 = e1 := ⟨_, rfl⟩
         obtain ⟨R2, hR2⟩ : ∃ R2, allR (fstB e') (areaB (cur S' C') (2 + e' % 2 * a') a') = R2 := ⟨_, rfl⟩
         obtain ⟨S2, hS2⟩ : ∃ S2, swS S' C' a' e1 (bytesAll (fstB e1) R2) = S2 := ⟨_, rfl⟩
         obtain ⟨C2, hC2⟩ : ∃ C2 : List (Option Sec), List.replicate S'.length none = C2 := ⟨_, rfl⟩
         have hS2l : S2.length = 2 + 2 * m := by rw [← hS2, swS_len, hSl']
         have hF2 := hF.re (Q' := fun k => w32.heap.size ≤ k ∧ k < V'.heap.size) (fun k h1 h2 => ⟨h2, h1⟩)
         have kF : ∀ W, Chg w25.heap.size w26.heap.size V' W → RqAt W w31.heap.size w32.heap.size (fun k => w32.heap.size ≤ k ∧ k < V'.heap.size) g32 S' C' := fun W h => hF2.keep (fun k x1 x2 x3 => h.block k x3 (by omega)) h.size
         clear hF hF2
         refine zs (zm rfl ?_)
         refine wl_call rfl (C_jsOpen _ hD r0 r1 hh he1 hR2 hS2 hC2 b0.2 b1.2 (by omega) hsz) ?_
         rintro _ w83 ⟨g83, L2, rfl, hp2, hg83, hL83, hc2⟩
         have hF := kF _ hc2
         have hs83 := hc2.size
         have hw2 := hw.trans (hc2.below hw.size hs25)
         clear hw hD kF hc2
         have hw := hw2
         clear hw2
         refine zm rfl ?_
         refine zp (o_ext20 rfl) ?_
         refine zp (o_ext21 rfl) ?_
         refine za rfl (za rfl (wl_nil (zs (zm rfl ?_))))
         refine wl_call rfl (C_r9OpenOk _ hF (fun k h => h.1) r0 r1 hh he1 hR2 hS2 hC2 b0.2 b1.2 (by omega) hsz (by omega)) ?_
         rintro _ w88 ⟨g88, rfl, hd3, hc3, hg88⟩
         have hB := Both.opened (n := 0) ho2 (X := fun k => w32.heap.size ≤ k) (fun k h => h) hfw hs83 hp2 hg83 hL83 hd3 hc3 hg88
         have hw2 := hw.trans (hc3.below hw.size hs31)
         clear hw hc3 hp2 hd3
         have hw := hw2
         clear hw2
         refine zm rfl ?_
         refine zp (o_ext20 rfl) ?_
         refine zp (o_ext21 rfl) ?_
         refine za rfl (za rfl (wl_nil (zs (zm rfl ?_))))
         refine zp (o_ne rfl rfl) ?_
         refine zm rfl (zm rfl ?_)
         refine zp (o_ne rfl rfl) ?_
         refine zp (o_pick_f rfl rfl) ?_
         refine wl_nil ?_
         refine rk_false rfl ?_
         refine rk_skip ?_
         refine rk_blk ?_
         exact rk_tof hj (Fr.le_of (by kernel_rfl) (by kernel_rfl) (by repeat' constructor)) ⟨g83, g88, L2, S2, C2, a', e1, R2, R2.length, 0, rfl, hB, hS2l, hw⟩
    clear hB hw
    rintro fr V' ⟨g', rg', L'', S', C', a', e', R', s', x', rfl, hB, hSl', hw⟩
    have shw' := hw.size
    first | refine zf ?_ | refine zg ?_
    obtain ⟨Lr, cr, fr9, hRr, hcr⟩ := hB.r.ex
    have hp := hB.p
    have hqd := hB.r.dk
    have hqp := hp.dk
    obtain ⟨I, hI⟩ : ∃ I, ixz C' = I := ⟨_, rfl⟩
    have hIl : I.length ≤ 4000000000 := by
     have h1 := hp.dk.len
     have h2 := cnt_le C'
     rw [← hI, ixz_len]; omega
    have hRr2 := hRr.to_RRec
    have hRl := hp.len
    have hchl := ch_len e' R'
    have hfa := hp.ha
    have hff := hp.fit
    have hzl : (a' : Int) * 256 - (szR R' : Int) = ((a' * 256 - szR R' : Nat) : Int) := by omega
    have hab : 0 ≤ (a' : Int) ∧ (a' : Int) ≤ 256 := by omega
    have hsb : 0 ≤ (szR R' : Int) ∧ (szR R' : Int) ≤ 100000 := by omega
    refine rk_seq ?_
    refine rk_drawo (id := 31) (none) [0, 0, 3, 4, 8, 24, 8, 72, 136, 264, 552, 1032, 2056, 5120, 8192, 24576, 8192, 73728, 139264, 270336, 565248, 1056768, 2129920, 4194304, 12582912, 4194304, 54525952, 88080384, 138412032, 335544320, 536870912, 1610612736, 536870912, 4831838208, 9126805504, 17716740096, 37044092928, 69256347648, 139586437120, 274877906944, 824633720832, 274877906944, 3573412790272, 5772436045824, 9070970929152, 17867063951360] [0, 0, 3, 7, 15, 31, 15, 79, 207, 463, 1023, 2047, 4095, 8191, 16383, 32767, 16383, 81919, 212991, 475135, 1048575, 2097151, 4194303, 8388607, 16777215, 8388607, 67108863, 134217727, 268435455, 536870911, 1073741823, 2147483647, 1073741823, 5368709119, 13958643711, 31138512895, 68719476735, 137438953471, 274877906943, 549755813887, 1099511627775, 549755813887, 4398046511103, 8796093022207, 17592186044415, 35184372088831] 14295882564640 2147516448 [0, 1, 2, 3, 4, 6, 7, 8, 9, 5, 10, 11, 12, 13, 14, 16, 17, 18, 19, 15, 20, 21, 22, 23, 25, 24, 26, 27, 28, 29, 30, 32, 33, 34, 35, 31, 36, 37, 38, 39, 41, 40, 42, 43, 44, 45] [(.p, 0), (.p, 1), (.p, 2), (.p, 3), (.p, 4), (.p, 6), (.p, 7), (.p, 8), (.s, 9), (.c, 5), (.l, 10), (.p, 11), (.p, 12), (.p, 13), (.p, 14), (.p, 16), (.p, 17), (.p, 18), (.s, 19), (.c, 15), (.p, 20), (.p, 21), (.p, 22), (.p, 23), (.p, 25), (.l, 24), (.l, 26), (.p, 27), (.p, 28), (.p, 29), (.p, 30), (.p, 32), (.p, 33), (.p, 34), (.s, 35), (.c, 31), (.p, 36), (.p, 37), (.p, 38), (.p, 39), (.p, 41), (.l, 40), (.l, 42), (.l, 43), (.p, 44), (.p, 45)] (by kernel_rfl) (by kernel_rfl) (by kernel_rfl) (by kernel_rfl) (by kernel_rfl) ?_
    dsimp only [inOrder, nthOp]
    replace hw := hw.drew
    replace hRr2 := hRr2.d
    replace hqp := hqp.d
    replace hqd := hqd.d
    replace hp := hp.d
    replace hRr := hRr.d
    replace fr9 := fr9.d
    replace hB := hB.d
    refine zm rfl (zm rfl ?_)
    refine zp (o_ne rfl rfl) ?_
    refine zm rfl ?_
    refine wl_know 145 false rfl (decide_eq_false (by omega)) ?_
    refine zm rfl (zm rfl ?_)
    refine zp (o_nil rfl) ?_
    refine zp (o_faddr (s := 66) (i := 3) (off := 3) Tryz.underlying66 rfl Tryz.sizeOf44 rfl rfl rfl) ?_
    refine wl_s (fun _ hk => (o_loadbg Tryz.isAgg44 rfl (fr9.u (below_of_grown_none hk)) (by rfl))) ?_
    refine wl_call rfl (C_jsRecords _ hp) ?_ (hq := .inr fun _ _ h => grown_of_below h.choose_spec.choose_spec.2.2 _)
    rintro v147 w147 ⟨A147, ⟨c147, ⟨rfl, ⟨f147, b147⟩⟩⟩⟩
    simp only [drew_size] at f147
    simp only [drew_size] at b147
    have qf147 := f147.cap
    have s147 := b147.size
    simp only [drew_size] at s147
    replace hw := hw.trans (b147.mono hw.size)
    replace hB := hB.u b147
    replace fr9 := fr9.u b147
    replace hRr := hRr.u b147
    replace hp := hp.u b147
    replace hqd := hqd.u b147
    replace hqp := hqp.u b147
    replace hRr2 := hRr2.u b147
    refine wl_call rfl (C_kRecs _ f147.to_RRec hRr2 rfl rfl (by omega) (by omega)) ?_
    rintro v152 w152 ⟨rfl, b152⟩
    have s152 := b152.size
    replace hw := hw.trans (b152.mono hw.size)
    replace hRr2 := hRr2.u b152
    replace hqp := hqp.u b152
    replace hqd := hqd.u b152
    replace hp := hp.u b152
    replace hRr := hRr.u b152
    replace fr9 := fr9.u b152
    replace hB := hB.u b152
    replace f147 := f147.u b152
    refine zp (o_not rfl) ?_
    refine zp (o_pick_f rfl rfl) ?_
    refine zm rfl ?_
    refine wl_know 155 false rfl (by simp) ?_
    refine zm rfl (zm rfl ?_)
    refine zp (o_nil rfl) ?_
    refine zp (o_faddr (s := 66) (i := 2) (off := 2) Tryz.underlying66 rfl Tryz.sizeOf52 rfl rfl rfl) ?_
    refine wl_s (fun _ hk => (o_loadbg Tryz.isAgg52 rfl (fr9.u (below_of_grown_none hk)) (by rfl))) ?_
    refine wl_call rfl (C_jsEpoch _ hp) ?_ (hq := .inr fun _ _ h => grown_of_below h.2 _)
    rintro v157 w157 ⟨rfl, b157⟩
    have s157 := b157.size
    replace hw := hw.trans (b157.mono hw.size)
    replace f147 := f147.u b157
    replace hB := hB.u b157
    replace fr9 := fr9.u b157
    replace hRr := hRr.u b157
    replace hp := hp.u b157
    replace hqd := hqd.u b157
    replace hqp := hqp.u b157
    replace hRr2 := hRr2.u b157
    refine zp (o_ne rfl rfl) ?_
    refine zp (o_pick_f rfl rfl) ?_
    refine zm rfl ?_
    refine wl_know 164 false rfl (decide_eq_false (by omega)) ?_
    refine zm rfl (zm rfl ?_)
    refine wl_call rfl (C_jsLeft _ hp (by rfl)) ?_
    rintro v166 w166 ⟨rfl, b166⟩
    have s166 := b166.size
    replace hw := hw.trans (b166.mono hw.size)
    replace hRr2 := hRr2.u b166
    replace hqp := hqp.u b166
    replace hqd := hqd.u b166
    replace hp := hp.u b166
    replace hRr := hRr.u b166
    replace fr9 := fr9.u b166
    replace hB := hB.u b166
    replace f147 := f147.u b166
    refine wl_call rfl (C_r9Left _ fr9 hchl hzl (by omega) (by omega)) ?_
    rintro v168 w168 ⟨rfl, b168⟩
    have s168 := b168.size
    replace hw := hw.trans (b168.mono hw.size)
    replace f147 := f147.u b168
    replace hB := hB.u b168
    replace fr9 := fr9.u b168
    replace hRr := hRr.u b168
    replace hp := hp.u b168
    replace hqd := hqd.u b168
    replace hqp := hqp.u b168
    replace hRr2 := hRr2.u b168
    refine zp (o_ne rfl rfl) ?_
    refine zp (o_pick_f rfl rfl) ?_
    refine zm rfl ?_
    refine wl_know 171 false rfl (decide_eq_false (by omega)) ?_
    refine zm rfl (zm rfl ?_)
    refine zp (o_nil rfl) ?_
    refine zp (o_faddr (s := 66) (i := 4) (off := 4) Tryz.underlying66 rfl Tryz.sizeOf3 rfl rfl rfl) ?_
    refine wl_s (fun _ hk => (o_loadbg Tryz.isAgg3 rfl (fr9.u (below_of_grown_none hk)) (by rfl))) ?_
    refine wl_call rfl (C_jsSynced _ hp) ?_ (hq := .inr fun _ _ h => grown_of_below h.2 _)
    rintro v173 w173 ⟨rfl, b173⟩
    have s173 := b173.size
    replace hw := hw.trans (b173.mono hw.size)
    replace hRr2 := hRr2.u b173
    replace hqp := hqp.u b173
    replace hqd := hqd.u b173
    replace hp := hp.u b173
    replace hRr := hRr.u b173
    replace fr9 := fr9.u b173
    replace hB := hB.u b173
    replace f147 := f147.u b173
    refine zp (o_ne rfl rfl) ?_
    refine zp (o_pick_f rfl rfl) ?_
    refine zm rfl ?_
    refine wl_know 180 false rfl (decide_eq_false (by omega)) ?_
    refine zm rfl (zm rfl ?_)
    refine wl_call rfl (C_dCached _ hqp hI) ?_
    rintro v182 w182 ⟨A182, ⟨c182, ⟨rfl, ⟨f182, b182⟩⟩⟩⟩
    have qf182 := f182.cap
    have s182 := b182.size
    replace hw := hw.trans (b182.mono hw.size)
    replace f147 := f147.u b182
    replace hB := hB.u b182
    replace fr9 := fr9.u b182
    replace hRr := hRr.u b182
    replace hp := hp.u b182
    replace hqd := hqd.u b182
    replace hqp := hqp.u b182
    replace hRr2 := hRr2.u b182
    refine wl_call rfl (C_qCached _ hqd hI) ?_
    rintro v184 w184 ⟨A184, ⟨c184, ⟨rfl, ⟨f184, b184⟩⟩⟩⟩
    have qf184 := f184.cap
    have s184 := b184.size
    replace hw := hw.trans (b184.mono hw.size)
    replace hRr2 := hRr2.u b184
    replace hqp := hqp.u b184
    replace hqd := hqd.u b184
    replace hp := hp.u b184
    replace hRr := hRr.u b184
    replace fr9 := fr9.u b184
    replace hB := hB.u b184
    replace f147 := f147.u b184
    replace f182 := f182.u b184
    refine wl_call rfl (C_IntsZ _ f182.to_RZ f184.to_RZ rfl rfl (by omega) (by omega)) ?_
    rintro v185 w185 ⟨rfl, b185⟩
    have s185 := b185.size
    replace hw := hw.trans (b185.mono hw.size)
    replace f182 := f182.u b185
    replace f147 := f147.u b185
    replace hB := hB.u b185
    replace fr9 := fr9.u b185
    replace hRr := hRr.u b185
    replace hp := hp.u b185
    replace hqd := hqd.u b185
    replace hqp := hqp.u b185
    replace hRr2 := hRr2.u b185
    replace f184 := f184.u b185
    refine zp (o_not rfl) ?_
    refine zp (o_pick_f rfl rfl) ?_
    refine wl_nild ?_
    refine rk_cond rfl (fun h187 => by simp at h187) (fun h187 => ?_)
    refine rk_skip ?_
    refine rk_blk ?_
    refine rk_region (zm rfl ?_)
    refine zp (o_add rfl rfl (by omega) (by omega)) ?_
    refine za rfl (wl_nil ?_)
    exact rk_againf (Fr.le_of (by kernel_rfl) (by kernel_rfl) (by repeat' constructor)) ⟨i + 1, (i : Int) + 1, g', rg', L'', S', C', a', e', R', s', x', x', rfl, by omega, by omega, rfl, hB, hSl', hw⟩ (by omega)
   ·refine rk_seq ?_
    refine zs (zm rfl (zm rfl ?_))
    refine zp (o_len (t := 22) Tryz.underlying22 rfl) ?_
    refine zp (o_lt rfl rfl) ?_
    refine wl_nil ?_
    refine rk_if rfl (fun h57 => absurd h57 (by omega)) (fun h57 => ?_)
    refine rk_exit rfl ?_
    exact rk_tof hj (Fr.le_of (by kernel_rfl) (by kernel_rfl) (by repeat' constructor)) ⟨g, rg, L', S, C, a, e, R, s, x, y, rfl, kB V hw1, hSl, hw⟩
  clear hB hw
  rintro fr V ⟨g, rg, L', S, C, a, e, R, s, x, y, rfl, hB, hSl, hw⟩
  have shw := hw.size
  have hD := hB.p.dk
  obtain ⟨Ad, cd, Dd, qd, Hd', fd, fa, -, -⟩ := hB.r.dk.ex
  clear hB
  first | refine zf ?_ | refine zg ?_
  refine rk_seq ?_
  refine rk_drawo (id := 33) (none) [0, 1, 2, 0, 8, 16, 32, 64, 132, 511] [0, 1, 3, 0, 8, 24, 56, 120, 255, 511] 2 2 [0, 3, 4, 5, 6, 7, 1, 2, 8, 9] [(.p, 0), (.p, 3), (.p, 4), (.p, 5), (.s, 6), (.s, 7), (.c, 1), (.r, 2), (.p, 8), (.p, 9)] (by kernel_rfl) (by kernel_rfl) (by kernel_rfl) (by kernel_rfl) (by kernel_rfl) ?_
  dsimp only [inOrder, nthOp]
  replace hw := hw.drew
  replace fa := fa.d
  replace fd := fd.d
  replace hD := hD.d
  refine zm rfl (zm rfl ?_)
  refine zp (o_nil rfl) ?_
  refine zp (o_faddr (s := 74) (i := 0) (off := 0) Tryz.underlying74 rfl Tryz.sizeOf35 rfl rfl rfl) ?_
  refine wl_s (fun _ hk => (o_loadbg Tryz.isAgg35 rfl (fd.u (below_of_grown_none hk)) (by rfl))) ?_
  refine wl_s (fun _ hk => (o_strU Tryz.underlying35 Tryz.underlying5 Tryz.underlying9 rfl fa.to_Rd (below_of_grown_none hk) rfl)) ?_
  refine wl_call rfl (C_dImage _ hD (by rfl)) ?_ (hq := .inr fun _ _ h => by obtain ⟨_, _, _, _, hb⟩ := h; exact grown_of_below hb _)
  rintro v189 w189 ⟨A189, ⟨c189, ⟨rfl, ⟨f189, b189⟩⟩⟩⟩
  simp only [drew_size] at f189
  simp only [drew_size] at b189
  have qf189 := f189.cap
  have s189 := b189.size
  simp only [drew_size] at s189
  replace hw := hw.trans (b189.mono hw.size)
  replace hD := hD.u b189
  replace fd := fd.u b189
  replace fa := fa.u b189
  refine wl_r (o_strU Tryz.underlying35 Tryz.underlying5 Tryz.underlying9 rfl f189.to_Rd (Below.refl _ _) rfl) ?_
  refine zp (o_seq rfl rfl) ?_
  refine za rfl ?_
  refine wl_nild ?_
  refine ret1 rfl rfl ?_
  exact ⟨by simp, hw⟩
end Go.Proofs.YtnnhenafhalobaaGreat
