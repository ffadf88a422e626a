/-
  Walks of the document's answer for chapter 15: Copy, Check, Text, Sign (blocks without links, of Seq 0).
-/
import Derived.Test.YtahkeoegbjopfaaGreatMg10
import Derived.ArgAppend
namespace Go.Proofs.YtahkeoegbjopfaaGreat
set_option maxRecDepth 100000
open Go.RowKit
theorem C_refNumberZ {A : Option Addr} {l : By} {n c : Nat} (w : World) (hr : Rd w A l) (hn : n = l.length) (hl : l.length ≤ 4000000) :
  CallsR Tryz.prog 108 [.slice A n c, .int .u64 0] w fun v w' => ∃ A' c', v = .slice A' (l ++ [0]).length c' ∧ OwnH w' w.heap.size w'.heap.size A' c' (l ++ [0]) ∧ Below w.heap.size w w' := by
 subst hn
 have h := C_refNumber c 0 w hr (by decide) (by omega)
 rw [show enc 0 = [0] from by decide +kernel] at h
 exact h.mono fun _ _ ⟨A', c', h0, h1, h2⟩ => ⟨A', c', h0, h1.h_, h2⟩
section
variable {u : Ky} {M G : List Value} {N D : Option Addr} {nc n c : Nat}
theorem bkC_seq : (bkC u bkM N nc D n c G)[0 + 32]? = some (.int .u64 0) := by
 unfold bkC
 rw [List.getElem?_append_right (by rw [B8_length, u.2]; omega), B8_length, u.2]
 rfl
theorem bkC_at33 : bkC u bkM N nc D n c G = (B8 u.1 ++ [.int .u64 0]) ++ (B8 z32.1 ++ ([.slice N 0 nc, .slice D n c] ++ G)) := by
 unfold bkC bkM
 rw [List.append_assoc]
 rfl
theorem bkC_prv : ((bkC u bkM N nc D n c G).drop (0 + 33)).take 32 = B8 z32.1 := by
 rw [bkC_at33, List.drop_left' (by rw [List.length_append, B8_length, u.2]; rfl), List.take_left' (by rw [B8_length, z32.2])]
theorem bkC_setU (u' : Ky) : spl (bkC u M N nc D n c G) (0 + 0) (B8 u'.1) = bkC u' M N nc D n c G := by
 have hl : (B8 u.1).length = 32 := by rw [B8_length, u.2]
 unfold spl bkC
 rw [B8_length, u'.2, Nat.zero_add, List.take_zero, List.nil_append, List.drop_left' hl]
theorem bkC_setG (hS : BkS M G) {G' : List Value} (hG : G'.length = 64) : spl (bkC u M N nc D n c G) (0 + 67) G' = bkC u M N nc D n c G' := by
 have e : ∀ X : List Value, bkC u M N nc D n c X = (B8 u.1 ++ M ++ [Value.slice N 0 nc, Value.slice D n c]) ++ X := fun X => by unfold bkC; simp
 have hl : (B8 u.1 ++ M ++ [Value.slice N 0 nc, Value.slice D n c]).length = 0 + 67 := by rw [List.length_append, List.length_append, B8_length, u.2, hS.m]; rfl
 unfold spl
 rw [hG, List.drop_of_length_le (by rw [bkC_length hS]; omega), List.append_nil, e G, List.take_left' hl, ← e G']
theorem rd_bk0 {w : World} {g : Nat} {t : TypeId} (hB : Blk w g t (bkC u M N nc D n c G)) : Rd w (some ⟨g, 0 + 0, none⟩) u.1 := by
 refine ⟨by rw [B8_length, Nat.mul_one], fun _ => ⟨g, 0 + 0, rfl, fun j v hj => ?_⟩⟩
 rw [hB.cell, show 0 + 0 + j = j by omega]
 unfold bkC
 rw [List.getElem?_append_left (by have := (List.getElem?_eq_some_iff.1 hj).1; exact this)]
 exact hj
theorem rd_bk33 {w : World} {g : Nat} {t : TypeId} (hB : Blk w g t (bkC u bkM N nc D n c G)) : Rd w (some ⟨g, 0 + 33, none⟩) z32.1 := by
 refine ⟨by rw [B8_length, Nat.mul_one], fun _ => ⟨g, 0 + 33, rfl, fun j v hj => ?_⟩⟩
 have hl : (B8 u.1 ++ [Value.int .u64 0]).length = 33 := by rw [List.length_append, B8_length, u.2]; rfl
 rw [hB.cell, show 0 + 33 + j = 33 + j by omega, bkC_at33, List.getElem?_append_right (by rw [hl]; omega), hl, show 33 + j - 33 = j by omega, List.getElem?_append_left (by have := (List.getElem?_eq_some_iff.1 hj).1; exact this)]
 exact hj
end
theorem Tryz.eqg_Digest : Tryz.prog.eqGuardType Tryz.prog.depth 44 = false := by kernel_rfl
section
variable {fn : Func} {F : Ending → World → Prop} {N : Nat} {ks : List K} {ops : Array Oper} {tg : Tags} {l : List Oper} {fr : Fr} {w : World} {ty t' : TypeId} {pos : String} {aft : Array Edge} {gd : Option (Nat × Bool)} {d0 n c nc g : Nat} {x y : Operand} {D N1 : Option Addr} {u v : Ky} {M G : List Value}
theorem o_ldBkQ (hx : fr.ev x = some (.pointer (some ⟨g, 0 + 32, none⟩))) (hB : Blk w g t' (bkC u bkM N1 nc D n c G)) : OpV Tryz.prog N fr w (.load 43 x) ty (.int .u64 0) w :=
 o_loadbg Tryz.isAgg43 hx hB bkC_seq
theorem o_ldBkP (hx : fr.ev x = some (.pointer (some ⟨g, 0 + 33, none⟩))) (hB : Blk w g t' (bkC u bkM N1 nc D n c G)) : OpV Tryz.prog N fr w (.load 44 x) ty (.agg (B8 z32.1).toArray) w :=
 o_loadCut Tryz.isAgg44 Tryz.sizeOf44 hx hB bkC_prv (by rw [B8_length, z32.2])
theorem o_eqDgK (hx : fr.ev x = some (.agg (B8 u.1).toArray)) (hy : fr.ev y = some (.agg (B8 v.1).toArray)) : OpV Tryz.prog N fr w (.binOp .eql 44 x y t') ty (.bool (decide (u = v))) w := by
 have h := o_aeq (P := Tryz.prog) (N := N) (fr := fr) (w := w) (ty := ty) (t' := t') Tryz.underlying44 Tryz.underlying5 Tryz.sizeOf5 Tryz.eqg_Digest hx hy u.2 v.2
 rwa [show decide (u.1 = v.1) = decide (u = v) from decide_eq_decide.2 Subtype.ext_iff.symm] at h
theorem o_zDg : OpV Tryz.prog N fr w (.build 44 #[]) ty (.agg (B8 z32.1).toArray) w :=
 o_build (is := []) (xs := []) rfl (fun _ => by kernel_rfl)
theorem wl_allocDg (hk : ∀ g w', Blk w' g 44 (B8 z32.1) → Below w.heap.size w w' → w.heap.size ≤ g → g < w'.heap.size → WL Tryz.prog fn F N ks ops tg.tail l ((d0, .pointer (some ⟨g, 0, none⟩)) :: fr) w')
  (ht : tg.loud = true := by rfl) (hg : onG ops fr gd = true := by rfl) (hd : Nat.blt d0 N = true := by rfl) : WL Tryz.prog fn F N ks ops tg (⟨some d0, .alloc 44, ty, pos, aft, gd⟩ :: l) fr w :=
 wl_allocg _ Tryz.zeroValue44 rfl hk ht hg hd
theorem wl_stDg (hx : fr.ev x = some (.pointer (some ⟨g, 0, none⟩))) (hB : Blk w g t' (B8 u.1)) (hy : fr.ev y = some (.agg (B8 v.1).toArray))
  (hk : ∀ w', Blk w' g t' (B8 v.1) → Grew w w' t' (some g) → w'.heap.size = w.heap.size → WL Tryz.prog fn F N ks ops tg.tail l fr w') (ht : tg.loud = true := by rfl) (hg : onG ops fr gd = true := by rfl) (hq : tg.calm = false ∨ tg.rw.may (some g) := by exact .inl rfl) :
  WL Tryz.prog fn F N ks ops tg (⟨none, .store 44 x y, ty, pos, aft, gd⟩ :: l) fr w :=
 wl_storega Tryz.sizeOf44 hx hy (by rw [B8_length, v.2]) (B8_oneCell _) hB (by rw [B8_length, u.2]) hk ht hg hq
theorem o_ldDg (hx : fr.ev x = some (.pointer (some ⟨g, 0, none⟩))) (hB : Blk w g t' (B8 u.1)) : OpV Tryz.prog N fr w (.load 44 x) ty (.agg (B8 u.1).toArray) w :=
 o_loadag Tryz.isAgg44 Tryz.sizeOf44 hx hB (by rw [B8_length, u.2])
theorem wl_appBg {X : Option Addr} {s m : By} {j q k : Nat} (hx : fr.ev x = some (.slice D n c)) (hs : Rd w D s) (hn : n = s.length) (hs0 : 0 < s.length) (hc : c < s.length + k) (hy : fr.ev y = some (.slice X j q)) (hr : Rd w X m) (hj : j = m.length) (hk : m.length = k) (hm0 : 0 < k) (hlen : s.length + m.length ≤ 4000000000)
  (h : ∀ A' c' w', OwnH w' w.heap.size w'.heap.size A' c' (s ++ m) → Below w.heap.size w w' → WL Tryz.prog fn F N ks ops tg.tail l ((d0, .slice A' (s ++ m).length c') :: fr) w')
  (ht : tg.loud = true := by rfl) (hg : onG ops fr gd = true := by rfl) (hd : Nat.blt d0 N = true := by rfl) :
  WL Tryz.prog fn F N ks ops tg (⟨some d0, .call { callee := .builtin .append, args := #[x, y], argTypes := #[39, 39] }, ty, pos, aft, gd⟩ :: l) fr w := by
 subst hn; subst hj; subst hk
 obtain ⟨b1, o1, rfl, _, h1⟩ := hs.at_ (by rintro rfl; cases hs0)
 obtain ⟨b2, o2, rfl, _, h2⟩ := hr.at_ (by rintro rfl; cases hm0)
 obtain ⟨i, hi, hz, hsz, hb⟩ := info_parts Tryz.rowB.hi
 have e1 : ∀ (p : By) (b o : Nat), (∀ j (hj : j < p.length), w.cell? ⟨b, o + j, none⟩ = some (.int .u8 (p[j].toNat : Int))) → ∀ j u, (B8 p)[j]? = some u → w.cell? ((⟨b, o, none⟩ : Addr).add j) = some u := fun p b o hp j u hu => by
  obtain ⟨hl, hu⟩ := List.getElem?_eq_some_iff.1 hu
  rw [B8_length] at hl
  rw [add_plain, hp j hl, ← hu]
  simp [B8]
 obtain ⟨v', w', hrun, k2, k3⟩ := run_append_arg_grows (P := Tryz.prog) (w := w) 39 ty 5 i _ 1 1 Tryz.rowB.ht hi hz hsz hb rfl (by omega) ⟨b1, o1, none⟩ s.length c (B8 s) (by rw [B8_length, Nat.mul_one]) (e1 s b1 o1 h1) ⟨b2, o2, none⟩ m.length q (B8 m) (by rw [B8_length, Nat.mul_one]) (e1 m b2 o2 h2) hc (by simp only [maxLen]; omega) (by omega)
 obtain ⟨A', c', rfl⟩ := ownsRow_shape k2
 have hbl : Below w.heap.size w w' := below_of_grown_none k3
 have hR : OwnH w' w.heap.size w'.heap.size A' c' (s ++ m) := by
  have : RowH w' w.heap.size w'.heap.size 5 1 A' (s.length + m.length) c' (B8 s ++ B8 m) := ⟨k2, fun k hk => (World.ownsRow.lt k2 k (by rw [blk_own]; exact hk)).2⟩
  rw [← B8_append, ← List.length_append] at this
  exact this
 have hh := h A' c' w' hR hbl
 rw [List.length_append] at hh
 exact wl_v (o_builtin (xs := [x, y]) (vs := [.slice (some ⟨b1, o1, none⟩) s.length c, .slice (some ⟨b2, o2, none⟩) m.length q]) (by simp [Fr.evs, hx, hy]) (by simp [builtin, hrun]) (by simp)) hh ht hg hd (.inr (grown_of_below hbl _))
theorem wl_stBkU (hx : fr.ev x = some (.pointer (some ⟨g, 0 + 0, none⟩))) (hB : Blk w g t' (bkC u M N1 nc D n c G)) (hy : fr.ev y = some (.agg (B8 v.1).toArray)) (hS : BkS M G)
  (hk : ∀ w', Blk w' g t' (bkC v M N1 nc D n c G) → Grew w w' t' (some g) → w'.heap.size = w.heap.size → WL Tryz.prog fn F N ks ops tg.tail l fr w') (ht : tg.loud = true := by rfl) (hg : onG ops fr gd = true := by rfl) (hq : tg.calm = false ∨ tg.rw.may (some g) := by exact .inl rfl) :
  WL Tryz.prog fn F N ks ops tg (⟨none, .store 42 x y, ty, pos, aft, gd⟩ :: l) fr w :=
 wl_storegn Tryz.sizeOf42 hx hy (by rw [B8_length, v.2]) (B8_oneCell _) hB (by rw [bkC_length hS]; omega) (fun w' h1 h2 h3 => hk w' (by rwa [bkC_setU] at h1) h2 h3) ht hg hq
theorem wl_stBkG {q : By} (hx : fr.ev x = some (.pointer (some ⟨g, 0 + 67, none⟩))) (hB : Blk w g t' (bkC u M N1 nc D n c G)) (hy : fr.ev y = some (.agg (B8 q).toArray)) (hS : BkS M G) (hq0 : q.length = 64)
  (hk : ∀ w', Blk w' g t' (bkC u M N1 nc D n c (B8 q)) → Grew w w' t' (some g) → w'.heap.size = w.heap.size → WL Tryz.prog fn F N ks ops tg.tail l fr w') (ht : tg.loud = true := by rfl) (hg : onG ops fr gd = true := by rfl) (hq : tg.calm = false ∨ tg.rw.may (some g) := by exact .inl rfl) :
  WL Tryz.prog fn F N ks ops tg (⟨none, .store 47 x y, ty, pos, aft, gd⟩ :: l) fr w :=
 wl_storegn Tryz.sizeOf47 hx hy (by rw [B8_length, hq0]) (B8_oneCell _) hB (by rw [bkC_length hS]; omega) (fun w' h1 h2 h3 => hk w' (by rwa [bkC_setG hS (by rw [B8_length, hq0])] at h1) h2 h3) ht hg hq
end
theorem BkS.sig {M G : List Value} (h : BkS M G) {q : By} (hq : q.length = 64) : BkS M (B8 q) := ⟨h.m, by rw [B8_length, hq], h.m1, B8_oneCell _⟩
set_option maxRecDepth 100000 in
theorem C_r15Copy {u : Ky} {M G : List Value} {N0 D : Option Addr} {nc n c : Nat} {p : By} (w : World) (hS : BkS M G) (hD : Rd w D p) (hn : n = p.length) (hp : p.length ≤ 4000000) :
  CallsR Tryz.prog 54 [.agg (bkC u M N0 nc D n c G).toArray] w fun v w' => ∃ N' nc' D' c', v = .agg (bkC u M N' nc' D' p.length c' G).toArray ∧ OwnH w' w.heap.size w'.heap.size D' c' p ∧ Below w.heap.size w w' := by
 subst hn
 refine callsR Tryz.func54 rfl rfl (by kernel_rfl) rfl ?_
 have hw := Below.refl w.heap.size w
 refine zs ?_
 refine wl_boxg _ rfl (by rfl) ?_
 rintro g1 w1 f1 b1 i1 i1_1
 have s1 := b1.size
 replace hw := hw.trans (b1.mono hw.size)
 refine wl_allocBk ?_
 rintro g2 w2 f2 b2 i2 i2_1
 have s2 := b2.size
 replace hw := hw.trans (b2.mono hw.size)
 replace f1 := f1.u b2
 refine wl_nil (rk_seq ?_)
 refine rk_drawoB (id := 1) (none) [0, 0, 2, 5, 0, 0, 32, 88, 111, 495, 1023, 2047] [0, 0, 2, 7, 0, 0, 32, 127, 111, 511, 1023, 2047] 2713 25 [1, 2, 5, 6] [(.p, 1), (.s, 2), (.p, 5), (.s, 6), (.f 102 2713 25, 8)] (by kernel_rfl) (by kernel_rfl) (by kernel_rfl) (by kernel_rfl) (by kernel_rfl) ?_
 dsimp only [inOrder, nthOp]
 replace hw := hw.drew
 replace f1 := f1.d
 replace f2 := f2.d
 refine zp (o_faddr (s := 49) (i := 3) (off := 65) Tryz.underlying49 rfl Tryz.sizeOf45 rfl rfl rfl) ?_
 refine wl_s (fun _ hk => (o_ldBkL rfl (f1.u (below_of_ok hk (Nat.le_refl _) (fun _ e => by cases e))) hS)) ?_
 refine zp (o_faddr (s := 49) (i := 4) (off := 66) Tryz.underlying49 rfl Tryz.sizeOf39 rfl rfl rfl) ?_
 refine wl_s (fun _ hk => (o_ldBkDt rfl (f1.u (below_of_ok hk (Nat.le_refl _) (fun _ e => by cases e))) hS)) ?_
 refine wl_conc [⟨0, [], [3], [], fun vs w' lo hi => ∃ (A3 : Option Addr), vs = [.slice A3 0 0] ∧ OwnD0 w' lo hi A3⟩, ⟨3, [(.p, 8)], [11, 6], [0], fun vs w' lo hi => ∃ (A6 : Option Addr) (c6 : Nat), vs = [.pointer (some ⟨g1, 0 + 65, none⟩), .slice A6 0 c6]⟩, ⟨4, [], [7], [], fun vs w' lo hi => ∃ (A7 : Option Addr), vs = [.slice A7 0 0] ∧ OwnH w' lo hi A7 0 []⟩] [0, 1, 2] [0, 0, 2, 5, 0, 0, 32, 88, 111, 495, 1023, 2047] [0, 0, 2, 7, 0, 0, 32, 127, 111, 511, 1023, 2047] [7, 9, 10, 11] [(.l, 7), (.l, 9), (.p, 10), (.l, 11)] (by kernel_rfl) (by kernel_rfl) (by kernel_rfl) (by kernel_rfl) ⟨fun _ _ _ _ _ h hb => by obtain ⟨A3, e0, g0⟩ := h; exact ⟨A3, e0, g0.u hb⟩, fun _ _ _ _ _ h hb => by obtain ⟨A6, c6, e0⟩ := h; exact ⟨A6, c6, e0⟩, fun _ _ _ _ _ h hb => by obtain ⟨A7, e0, g0⟩ := h; exact ⟨A7, e0, g0.u hb⟩, trivial⟩ ⟨?_, ?_, ?_, trivial⟩ ?_
 ·intro wI hbI fo T T2 n2
  intro hk
  dsimp only [Item.idx, inOrder, nthOp, List.map, List.zip_cons_cons, List.zip_nil_right, List.cons_append, List.nil_append]
  have shbI := hbI.size
  simp only [drew_size] at shbI
  replace hw := hw.trans (hbI.mono hw.size)
  replace f2 := f2.u hbI
  replace f1 := f1.u hbI
  have hw1 := Below.refl wI.heap.size wI
  refine wl_litDg0 (by rfl) rfl (by rfl) ?_
  rintro A3 w3 f3 b3
  have s3 := b3.size
  replace hw := hw.trans (b3.mono hw.size)
  replace hw1 := hw1.trans (b3.mono hw1.size)
  replace f1 := f1.u b3
  replace f2 := f2.u b3
  exact hk [_] _ ⟨_, rfl, f3⟩ hw1
 ·intro wI hbI fo T T2 n2
  rintro _ lo0 hi0 ⟨A3, rfl, f3⟩ ql0 qm0 qh0 -
  try dsimp only at ql0 qm0 qh0 
  try simp only [drew_size] at ql0 qm0 qh0 
  intro hk
  dsimp only [Item.idx, inOrder, nthOp, List.map, List.zip_cons_cons, List.zip_nil_right, List.cons_append, List.nil_append]
  have shbI := hbI.size
  simp only [drew_size] at shbI
  replace hw := hw.trans (hbI.mono hw.size)
  replace f2 := f2.u hbI
  replace f1 := f1.u hbI
  have hw1 := Below.refl wI.heap.size wI
  refine wl_appDg0 rfl f3 rfl (by omega) ?_
  rintro A6 c6 w6 b6
  have s6 := b6.size
  replace hw := hw.trans (b6.mono hw.size)
  replace hw1 := hw1.trans (b6.mono hw1.size)
  replace f1 := f1.u b6
  replace f2 := f2.u b6
  replace f3 := f3.u b6
  refine zp (o_faddr (s := 49) (i := 3) (off := 65) Tryz.underlying49 rfl Tryz.sizeOf45 rfl rfl rfl) ?_
  exact hk [_, _] _ ⟨_, _, rfl⟩ hw1
 ·intro wI hbI fo T T2 n2
  intro hk
  dsimp only [Item.idx, inOrder, nthOp, List.map, List.zip_cons_cons, List.zip_nil_right, List.cons_append, List.nil_append]
  have shbI := hbI.size
  simp only [drew_size] at shbI
  replace hw := hw.trans (hbI.mono hw.size)
  replace f2 := f2.u hbI
  replace f1 := f1.u hbI
  have hw1 := Below.refl wI.heap.size wI
  refine wl_litB [] Tryz.u8 Tryz.sizeOf5 Tryz.zeroValue5 (by rfl) rfl rfl (by rfl) (by rfl) (by rfl) ?_
  rintro A7 w7 f7 b7
  have qf7 := f7.cap
  have s7 := b7.size
  replace hw := hw.trans (b7.mono hw.size)
  replace hw1 := hw1.trans (b7.mono hw1.size)
  replace f1 := f1.u b7
  replace f2 := f2.u b7
  exact hk [_] _ ⟨_, rfl, f7⟩ hw1
 intro wE hbE
 rintro _ lo0 hi0 ⟨A3, rfl, f3⟩ ql0 qm0 qh0 -
 rintro _ lo1 hi1 ⟨A6, c6, rfl⟩ ql1 qm1 qh1 ⟨qa1_0, -⟩
 rintro _ lo2 hi2 ⟨A7, rfl, f7⟩ ql2 qm2 qh2 ⟨qa2_1, qa2_0, -⟩
 try dsimp only at ql0 qm0 qh0  ql1 qm1 qh1 qa1_0 ql2 qm2 qh2 qa2_0 qa2_1
 try simp only [drew_size] at ql0 qm0 qh0  ql1 qm1 qh1 qa1_0 ql2 qm2 qh2 qa2_0 qa2_1
 dsimp only [given, Item.idx, inOrder, nthOp, List.map, List.zip_cons_cons, List.zip_nil_right]
 have shbE := hbE.size
 simp only [drew_size] at shbE
 replace hw := hw.trans (hbE.mono hw.size)
 replace f2 := f2.u hbE
 replace f1 := f1.u hbE
 refine wl_appB Tryz.u8 rfl f7 (by rfl) rfl (hD.u hw) rfl (by simp; omega) (by omega) ?_
 rintro A10 c10 w10 f10 g10 b10 i10
 have qf10 := f10.cap
 have s10 := g10.size
 replace hw := hw.trans (b10.mono (by omega))
 replace f1 := f1.y g10 (by decide)
 replace f2 := f2.y g10 (by decide)
 replace f3 := f3.y g10 (by decide)
 clear f7
 refine wl_stBkL rfl f1 rfl (by omega) ?_
 rintro w_1 f g e
 have s := g.size
 replace hw := hw.trans (below_of_grownBy g.g hw.size (by omega))
 replace f3 := f3.k g.g (ap_some (by omega))
 replace f2 := f2.k g.g (ap_some (by omega))
 replace f10 := f10.k g.g (ap_some (by omega))
 clear f1
 refine zp (o_faddr (s := 49) (i := 4) (off := 66) Tryz.underlying49 rfl Tryz.sizeOf39 rfl rfl rfl) ?_
 refine wl_stBkD rfl f rfl (by omega) ?_
 rintro w_2 f_1 g_1 e_1
 have s_1 := g_1.size
 replace hw := hw.trans (below_of_grownBy g_1.g hw.size (by omega))
 replace f10 := f10.k g_1.g (ap_some (by omega))
 replace f2 := f2.k g_1.g (ap_some (by omega))
 replace f3 := f3.k g_1.g (ap_some (by omega))
 clear f
 refine wl_nild ?_
 refine zs ?_
 refine wl_r (o_ldBkA rfl f_1 (by omega)) ?_
 refine wl_stBkB rfl f2 bkS0 rfl (by omega) ?_
 rintro w_3 f g_2 e_2
 have s_2 := g_2.size
 replace hw := hw.trans (below_of_grownBy g_2.g hw.size (by omega))
 replace f3 := f3.k g_2.g (ap_some (by omega))
 replace f10 := f10.k g_2.g (ap_some (by omega))
 replace f_1 := f_1.k g_2.g (ap_some (by omega))
 clear f2
 refine wl_nil ?_
 refine ret_cell rfl rfl Tryz.isAgg49 Tryz.sizeOf49 f (bkC_length hS) ?_
 exact ⟨A6, c6, A10, c10, rfl, f10.base (by omega) (by omega), hw⟩
set_option maxRecDepth 100000 in
theorem C_r15Check {u : Ky} {G : List Value} {N0 D : Option Addr} {nc n c : Nat} (w : World) (hS : BkS bkM G) (hn : n ≤ 500) :
  CallsR Tryz.prog 55 [.agg (bkC u bkM N0 nc D n c G).toArray] w fun v w' => v = .int .i64 0 ∧ Below w.heap.size w w' := by
 refine callsR Tryz.func55 rfl rfl (by kernel_rfl) rfl ?_
 have hw := Below.refl w.heap.size w
 refine zs ?_
 refine wl_boxg _ rfl (by rfl) ?_
 rintro g1 w1 f1 b1 i1 i1_1
 have s1 := b1.size
 replace hw := hw.trans (b1.mono hw.size)
 refine za rfl (wl_nil (zs ?_))
 refine zp (o_zDg) ?_
 refine wl_allocDg ?_
 rintro g3 w3 f3 b3 i3 i3_1
 have s3 := b3.size
 replace hw := hw.trans (b3.mono hw.size)
 replace f1 := f1.u b3
 refine wl_stDg rfl f3 rfl ?_
 rintro w_1 f g e
 have s := g.size
 replace hw := hw.trans (below_of_grownBy g.g hw.size (by omega))
 replace f1 := f1.k g.g (ap_some (by omega))
 clear f3
 refine wl_nil (rk_seq (rk_seq ?_))
 refine rk_draw (id := 2) (none) [0, 1, 2, 4, 8, 24, 8, 104, 8, 264, 520, 1160, 2056, 4104, 8192, 24576, 40960, 73728, 139264, 270336, 524288, 1572864, 2621440, 4718592, 8912896] [0, 1, 3, 7, 15, 31, 15, 127, 15, 271, 783, 2047, 4095, 8191, 16383, 32767, 65535, 131071, 262143, 524287, 1048575, 2097151, 4194303, 8388607, 16777215] 0 0 [(.p, 0), (.r, 1), (.p, 2), (.p, 3), (.p, 4), (.r, 5), (.r, 6), (.p, 7), (.p, 8), (.r, 9), (.p, 10), (.p, 11), (.p, 12), (.p, 13), (.p, 14), (.r, 15), (.p, 16), (.p, 17), (.p, 18), (.p, 19), (.p, 20), (.r, 21), (.p, 22), (.p, 23), (.p, 24)] (by kernel_rfl) (by kernel_rfl) (by kernel_rfl) (by kernel_rfl) (by kernel_rfl) ?_
 replace hw := hw.drew
 replace f1 := f1.d
 replace f := f.d
 refine zp (o_faddr (s := 49) (i := 1) (off := 32) Tryz.underlying49 rfl Tryz.sizeOf43 rfl rfl rfl) ?_
 refine wl_r (o_ldBkQ rfl f1) ?_
 refine zp (o_gt rfl rfl) ?_
 refine zm rfl ?_
 refine zp (o_faddr (s := 49) (i := 2) (off := 33) Tryz.underlying49 rfl Tryz.sizeOf44 rfl rfl rfl) ?_
 refine wl_r (o_ldBkP rfl f1) ?_
 refine wl_r (o_ldDg rfl f) ?_
 refine zp (o_eqDgK rfl rfl) ?_
 refine zp (o_faddr (s := 49) (i := 1) (off := 32) Tryz.underlying49 rfl Tryz.sizeOf43 rfl rfl rfl) ?_
 refine wl_r (o_ldBkQ rfl f1) ?_
 refine zp (o_eq rfl rfl) ?_
 refine zp (o_bne (t := 4) Tryz.underlying4 rfl rfl) ?_
 refine zp (o_pick_f rfl rfl) ?_
 refine zm rfl ?_
 refine zp (o_faddr (s := 49) (i := 3) (off := 65) Tryz.underlying49 rfl Tryz.sizeOf45 rfl rfl rfl) ?_
 refine wl_r (o_ldBkL rfl f1 (by omega)) ?_
 refine zp (o_len (t := 45) Tryz.underlying45 rfl) ?_
 refine zp (o_gt rfl rfl) ?_
 refine zp (o_pick_f rfl rfl) ?_
 refine zm rfl ?_
 refine zp (o_faddr (s := 49) (i := 4) (off := 66) Tryz.underlying49 rfl Tryz.sizeOf39 rfl rfl rfl) ?_
 refine wl_r (o_ldBkDt rfl f1 (by omega)) ?_
 refine zp (o_len (t := 39) Tryz.underlying39 rfl) ?_
 refine zp (o_gt rfl rfl) ?_
 refine zp (o_pick_f rfl rfl) ?_
 refine wl_nild ?_
 refine rk_if rfl (fun h30 => absurd h30 (by omega)) (fun h30 => ?_)
 refine rk_skip (rk_seq (zs (za rfl (wl_nil (rk_block ?_)))))
 refine rk_loopf (fun fb k fr W => fr = [(4, .int .i64 0)] ++ fb.drop 26 ∧ W = w_1.drew) (n := 0) (Fr.le_of (by kernel_rfl) (by kernel_rfl) (by repeat' constructor)) ⟨rfl, rfl⟩ ?_
 rintro k fr W ⟨rfl, rfl⟩
 first | refine zf ?_ | refine zg ?_
 refine rk_seq (zs (zm rfl ?_))
 refine zp (o_faddr (s := 49) (i := 3) (off := 65) Tryz.underlying49 rfl Tryz.sizeOf45 rfl rfl rfl) ?_
 refine wl_r (o_ldBkL rfl f1 (by omega)) ?_
 refine zp (o_len (t := 45) Tryz.underlying45 rfl) ?_
 refine zp (o_lt rfl rfl) ?_
 refine wl_nil ?_
 refine rk_false rfl ?_
 refine rk_exit rfl ?_
 refine zs (za rfl (wl_nil ?_))
 refine ret1 rfl rfl ?_
 exact ⟨rfl, hw⟩
set_option maxRecDepth 100000 in
theorem C_r15Text {u : Ky} {G : List Value} {N0 D : Option Addr} {nc n c : Nat} {p : By} (w : World) (hS : BkS bkM G) (hD : Rd w D p) (hn : n = p.length) (hp : p.length ≤ 500) :
  CallsR Tryz.prog 57 [.agg (bkC u bkM N0 nc D n c G).toArray] w fun v w' => ∃ A' c' q, v = .slice A' q.length c' ∧ q.length ≤ 1000 ∧ OwnH w' w.heap.size w'.heap.size A' c' q ∧ Below w.heap.size w w' := by
 subst hn
 refine callsR Tryz.func57 rfl rfl (by kernel_rfl) rfl ?_
 have hw := Below.refl w.heap.size w
 refine zs ?_
 refine wl_boxg _ rfl (by rfl) ?_
 rintro g1 w1 f1 b1 i1 i1_1
 have s1 := b1.size
 replace hw := hw.trans (b1.mono hw.size)
 refine za rfl (wl_nil (zs ?_))
 refine wl_litC [98, 108, 111, 99, 107] Tryz.u8 Tryz.sizeOf5 Tryz.zeroValue5 (by rfl) rfl rfl (by rfl) (by rfl) (by rfl) ?_
 rintro A5 w5 f5 b5
 have s5 := b5.size
 replace hw := hw.trans (b5.mono hw.size)
 replace f1 := f1.u b5
 refine zp (o_faddr (s := 49) (i := 0) (off := 0) Tryz.underlying49 rfl Tryz.sizeOf42 rfl rfl rfl) ?_
 refine zp (o_slice_arr (t := 42) Tryz.underlying42 Tryz.sizeOf5 rfl) ?_
 have hu := u.2
 have r0 := rd_bk0 f1
 refine wl_appBg rfl f5.1 rfl (by decide) (k := 32) (by decide) rfl r0 hu.symm hu (by decide) (by rw [hu]; decide) ?_
 intro A9 c9 w9 f9 b9
 have sb9 := b9.size
 replace hw := hw.trans (b9.mono hw.size)
 replace r0 := r0.u b9
 replace f1 := f1.u b9
 replace f5 := f5.u b9
 clear r0 f5
 have r33 := rd_bk33 f1
 have hz : z32.1.length = 32 := rfl
 refine za rfl (wl_nil (rk_seq ?_))
 refine rk_drawo (id := 2) (none) [0, 0, 2, 5, 0, 16, 40, 127] [0, 0, 2, 7, 0, 16, 63, 127] 72 0 [0, 1, 2, 4, 5, 3, 6, 7] [(.p, 0), (.p, 1), (.r, 2), (.p, 4), (.p, 5), (.l, 3), (.l, 6), (.p, 7)] (by kernel_rfl) (by kernel_rfl) (by kernel_rfl) (by kernel_rfl) (by kernel_rfl) ?_
 dsimp only [inOrder, nthOp]
 replace hw := hw.drew
 replace r33 := r33.d
 replace f1 := f1.d
 replace f9 := f9.d
 refine zm rfl ?_
 refine zp (o_faddr (s := 49) (i := 1) (off := 32) Tryz.underlying49 rfl Tryz.sizeOf43 rfl rfl rfl) ?_
 refine wl_r (o_ldBkQ rfl f1) ?_
 refine zp (o_faddr (s := 49) (i := 2) (off := 33) Tryz.underlying49 rfl Tryz.sizeOf44 rfl rfl rfl) ?_
 refine zp (o_slice_arr (t := 44) Tryz.underlying44 Tryz.sizeOf5 rfl) ?_
 refine wl_call rfl (C_refNumberZ _ f9.to_Rd rfl (by simp; omega)) ?_
 rintro v13 w13 ⟨A13, ⟨c13, ⟨rfl, ⟨f13, b13⟩⟩⟩⟩
 simp only [drew_size] at f13
 simp only [drew_size] at b13
 have qf13 := f13.cap
 have s13 := b13.size
 simp only [drew_size] at s13
 replace hw := hw.trans (b13.mono hw.size)
 replace f9 := f9.u b13
 replace f1 := f1.u b13
 replace r33 := r33.u b13
 refine wl_appB Tryz.u8 rfl f13 rfl rfl r33 (by rfl) (by simp; omega) (by omega) ?_
 rintro A16 c16 w16 f16 g16 b16 i16
 have qf16 := f16.cap
 have s16 := g16.size
 replace hw := hw.trans (b16.mono (by omega))
 replace f1 := f1.y g16 (by decide)
 replace f9 := f9.k g16.g (f13.ap (by omega))
 clear r33
 clear f13
 refine za rfl ?_
 refine wl_nild ?_
 refine zs (zm rfl ?_)
 refine zp (o_faddr (s := 49) (i := 3) (off := 65) Tryz.underlying49 rfl Tryz.sizeOf45 rfl rfl rfl) ?_
 refine wl_r (o_ldBkL rfl f1 (by omega)) ?_
 refine zp (o_len (t := 45) Tryz.underlying45 rfl) ?_
 refine zp (o_convu64 (src := 3) (dst := 43) Tryz.underlying3 Tryz.underlying43 rfl (by omega) (by omega)) ?_
 refine wl_call rfl (C_refNumberZ _ f16.to_Rd rfl (by simp; omega)) ?_
 rintro v22 w22 ⟨A22, ⟨c22, ⟨rfl, ⟨f22, b22⟩⟩⟩⟩
 have qf22 := f22.cap
 have s22 := b22.size
 replace hw := hw.trans (b22.mono hw.size)
 replace f9 := f9.u b22
 replace f1 := f1.u b22
 replace f16 := f16.u b22
 refine za rfl (wl_nil (rk_seq (zs (za rfl (wl_nil (rk_block ?_))))))
 obtain ⟨q, hq⟩ : ∃ q : By, [98, 108, 111, 99, 107] ++ u.1 ++ [0] ++ z32.1 ++ [0] = q := ⟨_, rfl⟩
 have hql : q.length = 71 := by rw [← hq]; simp only [List.length_append, hu, hz]; rfl
 rw [hq] at f22
 rw [hq]
 clear f9 f16
 refine rk_loopf (fun fb k fr W => fr = [(4, .int .i64 0)] ++ fb.drop 1 ∧ W = w22) (n := 0) (Fr.le_of (by kernel_rfl) (by kernel_rfl) (by repeat' constructor)) ⟨rfl, rfl⟩ ?_
 rintro k fr W ⟨rfl, rfl⟩
 first | refine zf ?_ | refine zg ?_
 refine rk_seq (zs (zm rfl ?_))
 refine zp (o_faddr (s := 49) (i := 3) (off := 65) Tryz.underlying49 rfl Tryz.sizeOf45 rfl rfl rfl) ?_
 refine wl_r (o_ldBkL rfl f1 (by omega)) ?_
 refine zp (o_len (t := 45) Tryz.underlying45 rfl) ?_
 refine zp (o_lt rfl rfl) ?_
 refine wl_nil ?_
 refine rk_false rfl ?_
 refine rk_exit rfl ?_
 refine zs (zm rfl ?_)
 refine zp (o_faddr (s := 49) (i := 4) (off := 66) Tryz.underlying49 rfl Tryz.sizeOf39 rfl rfl rfl) ?_
 refine wl_r (o_ldBkDt rfl f1 (by omega)) ?_
 refine wl_call rfl (C_refBlockH _ f22.to_Rd (hD.u hw) rfl rfl (by omega) (by omega)) ?_
 rintro v40 w40 ⟨A40, ⟨c40, ⟨rfl, ⟨f40, b40⟩⟩⟩⟩
 have qf40 := f40.cap
 have s40 := b40.size
 replace hw := hw.trans (b40.mono hw.size)
 replace f22 := f22.u b40
 replace f1 := f1.u b40
 refine za rfl (wl_nil ?_)
 have hbl := blkB_le (p := p) (n := 500) hp (by omega)
 refine ret1 rfl rfl ?_
 exact ⟨A40, c40, q ++ blkB p, rfl, by rw [List.length_append]; omega, f40.base (by omega) (by omega), hw⟩
end Go.Proofs.YtahkeoegbjopfaaGreat
namespace Go.Proofs.YtahkeoegbjopfaaGreat
set_option maxRecDepth 100000
open Go.RowKit
attribute [local irreducible] carryS openS closeS plusS minusS timesS powerS ofS shiftedS restS subS negS mulS powS invS rootS crRoot awayS nearS fplus ckS dS zeroPt mul2S baseS mlF mulPt bytesPt secS
set_option maxRecDepth 100000 in
theorem C_r15Sign {s n0 : N32} {b p0 : Pt} {kq : N32 × Int} {D : Option Addr} {n c : Nat} {p : By} (w : World) (hn0 : secS s = n0) (hb0 : baseS = b) (hp0 : mulPt n0 b = p0) (hq0 : bytesPt p0 = kq) (hD : Rd w D p) (hn : n = p.length) (hp : p.length ≤ 500) :
  CallsR Tryz.prog 29 [.agg (B8 s.1).toArray, .agg (bkC z32 bkM none 0 D n c bkG).toArray] w fun v w' => ∃ N' nc' D' c' q, v = .tuple #[.agg (bkC kq.1 bkM N' nc' D' p.length c' (B8 q)).toArray, .int .i64 0] ∧ q.length = 64 ∧ OwnH w' w.heap.size w'.heap.size D' c' p ∧ Below w.heap.size w w' := by
 subst hn
 have hs := s.2
 refine callsR Tryz.func29 rfl rfl (by kernel_rfl) rfl ?_
 have hw := Below.refl w.heap.size w
 refine zs ?_
 refine wl_boxg _ rfl (by rfl) ?_
 rintro g2 w2 f2 b2 i2 i2_1
 have s2 := b2.size
 replace hw := hw.trans (b2.mono hw.size)
 refine wl_boxg _ rfl (by rfl) ?_
 rintro g3 w3 f3 b3 i3 i3_1
 have s3 := b3.size
 replace hw := hw.trans (b3.mono hw.size)
 replace f2 := f2.u b3
 refine wl_allocBk ?_
 rintro g4 w4 f4 b4 i4 i4_1
 have s4 := b4.size
 replace hw := hw.trans (b4.mono hw.size)
 replace f2 := f2.u b4
 replace f3 := f3.u b4
 refine za rfl (wl_nil (zs ?_))
 refine wl_r (o_ldBkA rfl f3 bkS0) ?_
 refine wl_call rfl (C_r15Copy _ bkS0 (hD.u hw) rfl (by omega)) ?_
 rintro v7 w7 ⟨N7, ⟨nc7, ⟨D7, ⟨c7, ⟨rfl, ⟨f7, b7⟩⟩⟩⟩⟩⟩
 have qf7 := f7.cap
 have s7 := b7.size
 replace hw := hw.trans (b7.mono hw.size)
 replace f3 := f3.u b7
 replace f2 := f2.u b7
 replace f4 := f4.u b7
 refine wl_stBkB rfl f3 bkS0 rfl bkS0 ?_
 rintro w_1 f g e
 have s_1 := g.size
 replace hw := hw.trans (below_of_grownBy g.g hw.size (by omega))
 replace f4 := f4.k g.g (ap_some (by omega))
 replace f2 := f2.k g.g (ap_some (by omega))
 replace f7 := f7.k g.g (ap_some (by omega))
 clear f3
 refine wl_nil (zs ?_)
 refine wl_r (o_ldBa Tryz.isAgg41 Tryz.sizeOf41 rfl f2 hs) ?_
 refine wl_call rfl (C_f6Key _ hn0 hb0 hp0 hq0) ?_
 rintro v9 w9 ⟨rfl, b9⟩
 have s9 := b9.size
 replace hw := hw.trans (b9.mono hw.size)
 replace f7 := f7.u b9
 replace f2 := f2.u b9
 replace f4 := f4.u b9
 replace f := f.u b9
 refine zp (o_faddr (s := 49) (i := 0) (off := 0) Tryz.underlying49 rfl Tryz.sizeOf42 rfl rfl rfl) ?_
 refine wl_stBkU rfl f rfl bkS0 ?_
 rintro w_2 f_1 g_1 e_1
 have s_2 := g_1.size
 replace hw := hw.trans (below_of_grownBy g_1.g hw.size (by omega))
 replace f4 := f4.k g_1.g (ap_some (by omega))
 replace f2 := f2.k g_1.g (ap_some (by omega))
 replace f7 := f7.k g_1.g (ap_some (by omega))
 clear f
 refine wl_nil (rk_seq (zs ?_))
 refine wl_r (o_ldBkA rfl f_1 bkS0) ?_
 refine wl_call rfl (C_r15Check _ bkS0 (by omega)) ?_
 rintro v12 w12 ⟨rfl, b12⟩
 have s12 := b12.size
 replace hw := hw.trans (b12.mono hw.size)
 replace f7 := f7.u b12
 replace f2 := f2.u b12
 replace f4 := f4.u b12
 replace f_1 := f_1.u b12
 refine zp (o_ne rfl rfl) ?_
 refine wl_nil ?_
 refine rk_false rfl ?_
 refine rk_skip (rk_seq ?_)
 refine rk_draw (id := 5) (none) [0, 0, 2, 5, 15, 31] [0, 0, 2, 7, 15, 31] 44 4 [(.s, 0), (.r, 1), (.c, 2), (.l, 3), (.p, 4), (.l, 5)] (by kernel_rfl) (by kernel_rfl) (by kernel_rfl) (by kernel_rfl) (by kernel_rfl) ?_
 replace hw := hw.drew
 replace f_1 := f_1.d
 replace f4 := f4.d
 replace f2 := f2.d
 replace f7 := f7.d
 refine wl_s (fun _ hk => (o_ldBa Tryz.isAgg41 Tryz.sizeOf41 rfl (f2.u (below_of_grown_none hk)) hs)) ?_
 refine wl_r (o_ldBkA rfl f_1 bkS0) ?_
 refine wl_call rfl (C_r15Text _ bkS0 f7.to_Rd rfl (by omega)) ?_ (hq := .inr fun _ _ h => grown_of_below h.choose_spec.choose_spec.choose_spec.2.2.2 _)
 rintro v17 w17 ⟨A17, ⟨c17, ⟨q17, ⟨rfl, ⟨i17, ⟨f17, b17⟩⟩⟩⟩⟩⟩
 simp only [drew_size] at f17
 simp only [drew_size] at b17
 have qf17 := f17.cap
 have s17 := b17.size
 simp only [drew_size] at s17
 replace hw := hw.trans (b17.mono hw.size)
 replace f7 := f7.u b17
 replace f2 := f2.u b17
 replace f4 := f4.u b17
 replace f_1 := f_1.u b17
 refine wl_call rfl (C_f6Sign _ f17.to_Rd rfl (by omega) (own_max' (by assumption)) (by omega)) ?_
 rintro v18 w18 ⟨q18, ⟨rfl, ⟨e18, b18⟩⟩⟩
 have s18 := b18.size
 replace hw := hw.trans (b18.mono hw.size)
 replace f_1 := f_1.u b18
 replace f4 := f4.u b18
 replace f2 := f2.u b18
 replace f7 := f7.u b18
 replace f17 := f17.u b18
 refine zp (o_faddr (s := 49) (i := 5) (off := 67) Tryz.underlying49 rfl Tryz.sizeOf47 rfl rfl rfl) ?_
 refine wl_stBkG rfl f_1 rfl bkS0 e18 ?_
 rintro w_3 f g_2 e_2
 have s_3 := g_2.size
 replace hw := hw.trans (below_of_grownBy g_2.g hw.size (by omega))
 replace f17 := f17.k g_2.g (ap_some (by omega))
 replace f7 := f7.k g_2.g (ap_some (by omega))
 replace f2 := f2.k g_2.g (ap_some (by omega))
 replace f4 := f4.k g_2.g (ap_some (by omega))
 clear f_1
 refine wl_nild ?_
 refine zs ?_
 refine wl_r (o_ldBkA rfl f (bkS0.sig (by assumption))) ?_
 refine wl_stBkB rfl f4 bkS0 rfl (bkS0.sig (by assumption)) ?_
 rintro w_4 f_1 g_3 e_3
 have s_4 := g_3.size
 replace hw := hw.trans (below_of_grownBy g_3.g hw.size (by omega))
 replace f2 := f2.k g_3.g (ap_some (by omega))
 replace f7 := f7.k g_3.g (ap_some (by omega))
 replace f17 := f17.k g_3.g (ap_some (by omega))
 replace f := f.k g_3.g (ap_some (by omega))
 clear f4
 refine za rfl (wl_nil ?_)
 refine ret_any (vs := [.agg (bkC kq.1 bkM N7 nc7 D7 p.length c7 (B8 q18)).toArray, .int .i64 0]) rfl (.cell rfl Tryz.isAgg49 Tryz.sizeOf49 f_1 (bkC_length (bkS0.sig (by assumption))) (.tmp rfl .nil)) (by simp) ?_
 exact ⟨N7, nc7, D7, c7, q18, rfl, by assumption, f7.base (by omega) (by omega), hw⟩
end Go.Proofs.YtahkeoegbjopfaaGreat
namespace Go.Proofs.YtahkeoegbjopfaaGreat
set_option maxRecDepth 100000
theorem stepS_in {S : Stt} {wr : Ky} {o : Opn} (h : (stepS S wr o).2 = true) : wr ∈ S.2.1 := by
 unfold stepS stS at h
 split at h
 ·split at h
  ·rename_i hm
   exact hm.2.1
  ·cases h
 ·cases h
theorem stepS_mem {S : Stt} {wr : Ky} {o : Opn} (h : wr ∉ S.2.2) : (stepS S wr o).1.2 = S.2 := by
 unfold stepS stS
 split
 ·split
  ·rename_i hm
   by_cases k1 : o.1 = 1
   ·unfold doS
    rw [if_pos k1]
   ·by_cases k2 : o.1 = 2
    ·unfold doS
     rw [if_neg k1, if_pos k2]
    ·exact absurd (hm.2.2 ⟨k1, k2⟩) h
  ·rfl
 ·rfl
theorem readO_0 : readO [0] = ([], 0) := by rw [← Prod.eta (readO [0])]; exact Prod.ext (by decide +kernel) (by decide +kernel)
end Go.Proofs.YtahkeoegbjopfaaGreat
namespace Go.Proofs.YtahkeoegbjopfaaGreat
set_option maxRecDepth 100000
open Go.RowKit
attribute [local irreducible] carryS openS closeS plusS minusS timesS powerS ofS shiftedS restS subS negS mulS powS invS rootS crRoot awayS nearS fplus ckS dS zeroPt mul2S baseS mlF mulPt bytesPt secS
section
variable {N : Nat} {fr : Fr} {w : World} {ty : TypeId} {x : Operand} {n c : Nat} {D : Option Addr}
theorem o_bldBkD (hx : fr.ev x = some (.slice D n c)) : OpV Tryz.prog N fr w (.build 49 #[(4, x)]) ty (.agg (bkC z32 bkM none 0 D n c bkG).toArray) w :=
 o_build (is := [4]) (xs := [x]) (vs := [.slice D n c]) (by simp [Fr.evs, hx]) (by intros; kernel_rfl)
end
theorem applyR_0 {I : List (By × By)} {X Y : List Ky} {u : Ky} : ApplyR I X Y u [0] I X Y := ⟨by rw [readO_0]; rfl⟩
set_option maxRecDepth 100000 in
set_option maxHeartbeats 40000000 in
theorem C_OpsStranger {A B C O : Option Addr} {I : List (By × By)} {X Y : List Ky} {L : List Opn} {who : Ky} {c1 c2 c3 co : Nat} (w : World) (hI : RI w A I) (hX : RKs w B X) (hY : RKs w C Y) (hL : RO w O L) (hlc : L.length ≤ co) (hcm : co ≤ maxLen) :
  CallsR Tryz.prog 5 [.agg #[.slice A I.length c1, .slice B X.length c2, .slice C Y.length c3], .agg (B8 who.1).toArray, .slice O L.length co] w fun v w' => v = .bool true ∧ Below w.heap.size w w' := by
 have hmx : maxLen = 9223372036854775807 := rfl
 have hwho := who.2
 refine callsR Tryz.func5 rfl rfl (by kernel_rfl) rfl ?_
 have hw := Below.refl w.heap.size w
 by_cases g1 : LtS I X Y 24
 rotate_left
 ·refine zs ?_
  refine wl_boxg [_, _, _] rfl (by rfl) ?_
  rintro g3 w3 f3 b3 i3 i3_1
  have s3 := b3.size
  replace hw := hw.trans (b3.mono hw.size)
  refine wl_boxg _ rfl (by rfl) ?_
  rintro g4 w4 f4 b4 i4 i4_1
  have s4 := b4.size
  replace hw := hw.trans (b4.mono hw.size)
  replace f3 := f3.u b4
  refine za rfl (wl_nil (rk_seq (zs ?_)))
  refine wl_call rfl (C_lives22 _) ?_
  rintro v16 w16 ⟨rfl, b16⟩
  have s16 := b16.size
  replace hw := hw.trans (b16.mono hw.size)
  replace f3 := f3.u b16
  replace f4 := f4.u b16
  refine zp (o_not rfl) ?_
  refine wl_nil ?_
  refine rk_false rfl ?_
  refine rk_skip (rk_seq (zs ?_))
  refine wl_r (o_loadag Tryz.isAgg31 Tryz.sizeOf31 rfl f3 (by rfl)) ?_
  refine wl_call rfl (C_lightStateN _ g1 (hI.u hw) rfl rfl rfl (by rfl) (by omega)) ?_
  rintro v19 w19 ⟨rfl, b19⟩
  have s19 := b19.size
  replace hw := hw.trans (b19.mono hw.size)
  replace f4 := f4.u b19
  replace f3 := f3.u b19
  refine zp (o_not rfl) ?_
  refine zm rfl (wl_off (wl_off (wl_off ?_)))
  refine zp (o_pick_t rfl rfl) ?_
  refine zm rfl (wl_off (wl_off (wl_off ?_)))
  refine zp (o_pick_t rfl rfl) ?_
  refine wl_nil ?_
  refine rk_true rfl ?_
  refine zs (za rfl (wl_nil ?_))
  refine ret1 rfl rfl ?_
  exact ⟨rfl, hw⟩
 by_cases g2 : LtO L 24
 rotate_left
 ·refine zs ?_
  refine wl_boxg [_, _, _] rfl (by rfl) ?_
  rintro g3 w3 f3 b3 i3 i3_1
  have s3 := b3.size
  replace hw := hw.trans (b3.mono hw.size)
  refine wl_boxg _ rfl (by rfl) ?_
  rintro g4 w4 f4 b4 i4 i4_1
  have s4 := b4.size
  replace hw := hw.trans (b4.mono hw.size)
  replace f3 := f3.u b4
  refine za rfl (wl_nil (rk_seq (zs ?_)))
  refine wl_call rfl (C_lives22 _) ?_
  rintro v16 w16 ⟨rfl, b16⟩
  have s16 := b16.size
  replace hw := hw.trans (b16.mono hw.size)
  replace f3 := f3.u b16
  replace f4 := f4.u b16
  refine zp (o_not rfl) ?_
  refine wl_nil ?_
  refine rk_false rfl ?_
  refine rk_skip (rk_seq (zs ?_))
  refine wl_r (o_loadag Tryz.isAgg31 Tryz.sizeOf31 rfl f3 (by rfl)) ?_
  refine wl_call rfl (C_lightStateY _ g1 (hI.u hw) rfl rfl rfl (by rfl) (by omega)) ?_
  rintro v19 w19 ⟨rfl, b19⟩
  have s19 := b19.size
  replace hw := hw.trans (b19.mono hw.size)
  replace f4 := f4.u b19
  replace f3 := f3.u b19
  refine zp (o_not rfl) ?_
  refine zm rfl (zm rfl ?_)
  refine wl_call rfl (C_lightOpsN _ (hL.u hw) g2 rfl (by rfl) (by omega) (by omega)) ?_
  rintro v23 w23 ⟨rfl, b23⟩
  have s23 := b23.size
  replace hw := hw.trans (b23.mono hw.size)
  replace f3 := f3.u b23
  replace f4 := f4.u b23
  refine zp (o_not rfl) ?_
  refine zp (o_pick_f rfl rfl) ?_
  refine zm rfl (wl_off (wl_off (wl_off ?_)))
  refine zp (o_pick_t rfl rfl) ?_
  refine wl_nil ?_
  refine rk_true rfl ?_
  refine zs (za rfl (wl_nil ?_))
  refine ret1 rfl rfl ?_
  exact ⟨rfl, hw⟩
 have hI24 := g1.1
 have hX40 := g1.2.1
 have hY40 := g1.2.2.1
 have hLI : LtI I := fun x hx => by have := g1.2.2.2 x hx; omega
 have hl24 := g2.1
 have hlo : ∀ o ∈ L, o.2.1.length ≤ 4000000 ∧ o.2.2.1.length ≤ 4000000 := fun o ho => by have := g2.2 o ho; omega
 by_cases g3 : OkSt I X Y
 rotate_left
 ·refine zs ?_
  refine wl_boxg [_, _, _] rfl (by rfl) ?_
  rintro g3_1 w3 f3 b3 i3 i3_1
  have s3 := b3.size
  replace hw := hw.trans (b3.mono hw.size)
  refine wl_boxg _ rfl (by rfl) ?_
  rintro g4 w4 f4 b4 i4 i4_1
  have s4 := b4.size
  replace hw := hw.trans (b4.mono hw.size)
  replace f3 := f3.u b4
  refine za rfl (wl_nil (rk_seq (zs ?_)))
  refine wl_call rfl (C_lives22 _) ?_
  rintro v16 w16 ⟨rfl, b16⟩
  have s16 := b16.size
  replace hw := hw.trans (b16.mono hw.size)
  replace f3 := f3.u b16
  replace f4 := f4.u b16
  refine zp (o_not rfl) ?_
  refine wl_nil ?_
  refine rk_false rfl ?_
  refine rk_skip (rk_seq (zs ?_))
  refine wl_r (o_loadag Tryz.isAgg31 Tryz.sizeOf31 rfl f3 (by rfl)) ?_
  refine wl_call rfl (C_lightStateY _ g1 (hI.u hw) rfl rfl rfl (by rfl) (by omega)) ?_
  rintro v19 w19 ⟨rfl, b19⟩
  have s19 := b19.size
  replace hw := hw.trans (b19.mono hw.size)
  replace f4 := f4.u b19
  replace f3 := f3.u b19
  refine zp (o_not rfl) ?_
  refine zm rfl (zm rfl ?_)
  refine wl_call rfl (C_lightOpsY _ (hL.u hw) g2 rfl (by rfl) (by omega) (by omega)) ?_
  rintro v23 w23 ⟨rfl, b23⟩
  have s23 := b23.size
  replace hw := hw.trans (b23.mono hw.size)
  replace f3 := f3.u b23
  replace f4 := f4.u b23
  refine zp (o_not rfl) ?_
  refine zp (o_pick_f rfl rfl) ?_
  refine zm rfl ?_
  refine wl_r (o_loadag Tryz.isAgg31 Tryz.sizeOf31 rfl f3 (by rfl)) ?_
  refine wl_call rfl (C_checkStateBad _ (hI.u hw) (hX.u hw) (hY.u hw) rfl rfl rfl (by omega) (by omega) (by omega) (by omega) (by omega)) ?_
  rintro v28 w28 ⟨rfl, b28⟩
  have s28 := b28.size
  replace hw := hw.trans (b28.mono hw.size)
  replace f4 := f4.u b28
  replace f3 := f3.u b28
  refine zp (o_ne rfl rfl) ?_
  refine zp (o_pick_f rfl rfl) ?_
  refine wl_nil ?_
  refine rk_true rfl ?_
  refine zs (za rfl (wl_nil ?_))
  refine ret1 rfl rfl ?_
  exact ⟨rfl, hw⟩
 refine zs ?_
 refine wl_boxg [_, _, _] rfl (by rfl) ?_
 rintro g3_1 w3 f3 b3 i3 i3_1
 have s3 := b3.size
 replace hw := hw.trans (b3.mono hw.size)
 refine wl_boxg _ rfl (by rfl) ?_
 rintro g4 w4 f4 b4 i4 i4_1
 have s4 := b4.size
 replace hw := hw.trans (b4.mono hw.size)
 replace f3 := f3.u b4
 refine za rfl (wl_nil (rk_seq (zs ?_)))
 refine wl_call rfl (C_lives22 _) ?_
 rintro v16 w16 ⟨rfl, b16⟩
 have s16 := b16.size
 replace hw := hw.trans (b16.mono hw.size)
 replace f3 := f3.u b16
 replace f4 := f4.u b16
 refine zp (o_not rfl) ?_
 refine wl_nil ?_
 refine rk_false rfl ?_
 refine rk_skip (rk_seq (zs ?_))
 refine wl_r (o_loadag Tryz.isAgg31 Tryz.sizeOf31 rfl f3 (by rfl)) ?_
 refine wl_call rfl (C_lightStateY _ g1 (hI.u hw) rfl rfl rfl (by rfl) (by omega)) ?_
 rintro v19 w19 ⟨rfl, b19⟩
 have s19 := b19.size
 replace hw := hw.trans (b19.mono hw.size)
 replace f4 := f4.u b19
 replace f3 := f3.u b19
 refine zp (o_not rfl) ?_
 refine zm rfl (zm rfl ?_)
 refine wl_call rfl (C_lightOpsY _ (hL.u hw) g2 rfl (by rfl) (by omega) (by omega)) ?_
 rintro v23 w23 ⟨rfl, b23⟩
 have s23 := b23.size
 replace hw := hw.trans (b23.mono hw.size)
 replace f3 := f3.u b23
 replace f4 := f4.u b23
 refine zp (o_not rfl) ?_
 refine zp (o_pick_f rfl rfl) ?_
 refine zm rfl ?_
 refine wl_r (o_loadag Tryz.isAgg31 Tryz.sizeOf31 rfl f3 (by rfl)) ?_
 refine wl_call rfl (C_checkStateOk _ (hI.u hw) (hX.u hw) (hY.u hw) rfl rfl rfl (by omega) (by omega) (by omega) (by omega) (by omega)) ?_
 rintro v28 w28 ⟨rfl, b28⟩
 have s28 := b28.size
 replace hw := hw.trans (b28.mono hw.size)
 replace f4 := f4.u b28
 replace f3 := f3.u b28
 refine zp (o_ne rfl rfl) ?_
 refine zp (o_pick_f rfl rfl) ?_
 refine wl_nil ?_
 refine rk_false rfl ?_
 refine rk_skip (zs ?_)
 refine wl_r (o_loadag Tryz.isAgg31 Tryz.sizeOf31 rfl f3 (by rfl)) ?_
 refine wl_call rfl (C_kOwnState _ (hI.u hw) (hX.u hw) (hY.u hw) rfl rfl rfl (by omega) (by omega) (by omega) (by omega)) ?_
 rintro v32 w32 ⟨A32, ⟨c32, ⟨B32, ⟨d32, ⟨C32, ⟨e32, ⟨rfl, ⟨f32, ⟨f32_1, ⟨f32_2, b32⟩⟩⟩⟩⟩⟩⟩⟩⟩⟩
 have qf32 := f32.cap
 have qf32_1 := f32_1.cap
 have qf32_2 := f32_2.cap
 have s32 := b32.size
 replace hw := hw.trans (b32.mono hw.size)
 replace f3 := f3.u b32
 replace f4 := f4.u b32
 refine wl_allocg [_, _, _] Tryz.zeroValue31 (by rfl) ?_
 rintro g7 w7 f7 b7 i7 i7_1
 have s7 := b7.size
 replace hw := hw.trans (b7.mono hw.size)
 replace f4 := f4.u b7
 replace f3 := f3.u b7
 replace f32_2 := f32_2.u b7
 replace f32_1 := f32_1.u b7
 replace f32 := f32.u b7
 refine wl_storega Tryz.sizeOf31 rfl rfl (by rfl) (oneCell_of (by rfl)) f7 (by rfl) ?_
 rintro w_1 f g e
 have s := g.size
 replace hw := hw.trans (below_of_grownBy g.g hw.size (by omega))
 replace f32 := f32.y g (by decide)
 replace f32_1 := f32_1.y g (by decide)
 replace f32_2 := f32_2.y g (by decide)
 replace f3 := f3.k g.g (ap_some (by omega))
 replace f4 := f4.k g.g (ap_some (by omega))
 clear f7
 refine wl_nil (rk_seq (zs (za rfl (wl_nil (rk_block ?_)))))
 have k4 := f32.to_RIT
 have k5 := f32_1.to_RKT
 have k6 := f32_2.to_RKT
 have h74 : g4 < g7 := by omega
 have h0g : w.heap.size ≤ g7 := by have := hw.size; omega
 refine rk_joinf (fun fb fr W => ∃ (T : Stt) (Aa Ba Ca : Option Addr) (ca da ea : Nat), fr = [] ++ fb.drop 1 ∧ OkT T ∧ (Blk W g7 31 [.slice Aa T.1.length ca, .slice Ba T.2.1.length da, .slice Ca T.2.2.length ea] ∧ RIT W Aa T.1 ∧ RKT W Ba T.2.1 ∧ RKT W Ca T.2.2) ∧ Below w.heap.size w W) ?_ (fun ks hj => ?_)
 rotate_left
 ·refine rk_loopf (fun fb k fr W => ∃ (i : Nat) (v : Int) (I : List (By × By)) (X Y : List Ky) (Aa Ba Ca : Option Addr) (ca da ea : Nat), fr = [(8, .int .i64 v)] ++ fb.drop 1 ∧ v = i ∧ i ≤ L.length ∧ k = L.length - i ∧ OkT (I, X, Y) ∧ (Blk W g7 31 [.slice Aa I.length ca, .slice Ba X.length da, .slice Ca Y.length ea] ∧ RIT W Aa I ∧ RKT W Ba X ∧ RKT W Ca Y) ∧ Blk W g4 42 (B8 who.1) ∧ w_1.heap.size ≤ W.heap.size ∧ Below w.heap.size w W) (n := L.length) (Fr.le_of (by kernel_rfl) (by kernel_rfl) (by repeat' constructor)) ⟨0, _, I, X, Y, A32, B32, C32, c32, d32, e32, rfl, rfl, by omega, rfl, g3, ⟨f, k4, k5, k6⟩, f4, Nat.le_refl _, hw⟩ ?_
  clear hw f k4 k5 k6 f32 f32_1 f32_2 f3 f4
  clear hI hX hY g1 g3 hI24 hX40 hY40 hLI
  rintro k fr W ⟨i, v, I, X, Y, Aa, Ba, Ca, ca, da, ea, rfl, rfl, hi, rfl, hok, ⟨f7, m1, m2, m3⟩, f4, hsz, hw⟩
  have shw := hw.size
  have z1 := hok.1.1
  have z2 := hok.1.2
  have z3 := hok.2.1.2
  have z4 : LtI I := hok.2.2.1.lt
  dsimp only at z1 z2 z3
  have hg7 := f7.lt
  first | refine zf ?_ | refine zg ?_
  refine rk_seq (zs (zm rfl (zm rfl ?_)))
  refine zp (o_len (t := 35) Tryz.underlying35 rfl) ?_
  refine zp (o_lt rfl rfl) ?_
  refine wl_nil ?_
  refine rk_if rfl (fun h36 => ?_) (fun h36 => ?_)
  ·have hil : i < L.length := by omega
   obtain ⟨n2, n3⟩ := hlo _ (List.getElem_mem hil)
   obtain ⟨Ko, co', Vo, dd, hcl, r1, r2, _, _, _, _, _⟩ := hL.elem hil
   have hOp : OpAt w O i L[i].1 Ko L[i].2.1.length co' Vo L[i].2.2.1.length dd L[i].2.2.2 := ⟨_, rfl, hcl⟩
   clear hcl
   obtain ⟨⟨⟨I', X', Y'⟩, b⟩, hst⟩ : ∃ r, stepS (I, X, Y) who (L[i].1, L[i].2.1, L[i].2.2.1, L[i].2.2.2) = r := ⟨_, rfl⟩
   have e6 : StepR I X Y who L[i].1 L[i].2.1 L[i].2.2.1 L[i].2.2.2 I' X' Y' b := ⟨hst⟩
   have hok' : OkT (I', X', Y') := by
    have := (stepS_spec (S := (I, X, Y)) (wr := who) (o := (L[i].1, L[i].2.1, L[i].2.2.1, L[i].2.2.2)) hok).1
    rwa [hst] at this
   have hin : b = true → who ∈ X := fun h => stepS_in (S := (I, X, Y)) (wr := who) (o := (L[i].1, L[i].2.1, L[i].2.2.1, L[i].2.2.2)) (by rw [hst]; exact h)
   have hme : who ∉ Y → (X', Y') = (X, Y) := fun h => by
    have := stepS_mem (S := (I, X, Y)) (wr := who) (o := (L[i].1, L[i].2.1, L[i].2.2.1, L[i].2.2.2)) h
    rwa [hst] at this
   have y1 := hok'.1.1
   have y2 := hok'.1.2
   have y3 := hok'.2.1.2
   have y5 := hok'.2.1.1
   have y4 : LtI I' := hok'.2.2.1.lt
   dsimp only at y1 y2 y3 y5
   refine rk_skip (rk_seq (rk_block (rk_seq ?_)))
   refine rk_drawo (id := 9) (none) [0, 1, 0, 6, 0, 16, 0, 104, 143, 511] [0, 1, 0, 7, 0, 16, 0, 127, 255, 511] 136 8 [0, 1, 2, 4, 5, 6, 3, 7, 8, 9] [(.p, 0), (.r, 1), (.r, 2), (.p, 4), (.s, 5), (.s, 6), (.c, 3), (.l, 7), (.p, 8), (.p, 9)] (by kernel_rfl) (by kernel_rfl) (by kernel_rfl) (by kernel_rfl) (by kernel_rfl) ?_
   dsimp only [inOrder, nthOp]
   replace hw := hw.drew
   replace f4 := f4.d
   replace m3 := m3.d
   replace m2 := m2.d
   replace m1 := m1.d
   replace f7 := f7.d
   refine zp (o_faddr (s := 31) (i := 1) (off := 1) Tryz.underlying31 rfl Tryz.sizeOf29 rfl rfl rfl) ?_
   refine wl_r (o_loadbg Tryz.isAgg29 rfl f7 (by rfl)) ?_
   refine wl_r (o_ldBa Tryz.isAgg42 Tryz.sizeOf42 rfl f4 hwho) ?_
   refine zp (o_faddr (s := 31) (i := 2) (off := 2) Tryz.underlying31 rfl Tryz.sizeOf29 rfl rfl rfl) ?_
   refine wl_s (fun _ hk => (o_loadbg Tryz.isAgg29 rfl (f7.u (below_of_grown_none hk)) (by rfl))) ?_
   refine wl_s (fun _ hk => (o_ldBa Tryz.isAgg42 Tryz.sizeOf42 rfl (f4.u (below_of_grown_none hk)) hwho)) ?_
   refine wl_call rfl (C_member _ m2.to_RKs rfl (by omega)) ?_ (hq := .inr fun _ _ h => grown_of_below h.2 _)
   rintro v42 w42 ⟨rfl, b42⟩
   simp only [drew_size] at b42
   have s42 := b42.size
   simp only [drew_size] at s42
   replace hw := hw.trans (b42.mono hw.size)
   replace f7 := f7.u b42
   replace m1 := m1.u b42
   replace m2 := m2.u b42
   replace m3 := m3.u b42
   replace f4 := f4.u b42
   refine wl_call rfl (C_member _ m3.to_RKs rfl (by omega)) ?_
   rintro v46 w46 ⟨rfl, b46⟩
   have s46 := b46.size
   replace hw := hw.trans (b46.mono hw.size)
   replace f4 := f4.u b46
   replace m3 := m3.u b46
   replace m2 := m2.u b46
   replace m1 := m1.u b46
   replace f7 := f7.u b46
   refine za rfl (za rfl ?_)
   refine wl_nild ?_
   refine rk_seq ?_
   refine rk_drawo (id := 10) (none) [0, 1, 0, 0, 0, 24, 32, 70, 128, 256, 256, 0, 3071, 8191] [0, 1, 0, 0, 0, 24, 56, 127, 255, 511, 511, 0, 3071, 8191] 6274 2050 [0, 2, 3, 4, 5, 6] [(.s, 0), (.s, 2), (.p, 3), (.p, 4), (.p, 5), (.s, 6), (.f 125 6274 2050, 8)] (by kernel_rfl) (by kernel_rfl) (by kernel_rfl) (by kernel_rfl) (by kernel_rfl) ?_
   dsimp only [inOrder, nthOp]
   replace hw := hw.drew
   replace f7 := f7.d
   replace m1 := m1.d
   replace m2 := m2.d
   replace m3 := m3.d
   replace f4 := f4.d
   refine wl_s (fun _ hk => (o_loadag Tryz.isAgg31 Tryz.sizeOf31 rfl (f7.u (below_of_grown_none hk)) (by rfl))) ?_
   refine wl_s (fun _ hk => (o_ldBa Tryz.isAgg42 Tryz.sizeOf42 rfl (f4.u (below_of_grown_none hk)) hwho)) ?_
   refine zm rfl (zm rfl ?_)
   refine zp (o_iaddrA (i) Tryz.underlying35 Tryz.sizeOf54 rfl rfl rfl (hL.some_ (by omega)) (by omega)) ?_
   refine wl_s (fun _ hk => (o_ldOpAt rfl hOp (hw.trans ((below_of_grown_none hk).mono hw.size)))) ?_
   refine wl_conc [⟨1, [], [49], [], fun vs w' lo hi => ∃ (A49 : Option Addr) (c49 : Nat) (B49 : Option Addr) (d49 : Nat) (C49 : Option Addr) (e49 : Nat), vs = [.agg #[.slice A49 I.length c49, .slice B49 X.length d49, .slice C49 Y.length e49]] ∧ RIT w' A49 I ∧ RKT w' B49 X ∧ RKT w' C49 Y⟩, ⟨7, [(.p, 8), (.p, 9), (.p, 10)], [57, 56, 47, 55], [0], fun vs w' lo hi => ∃ (A55 : Option Addr) (c55 : Nat) (B55 : Option Addr) (d55 : Nat) (C55 : Option Addr) (e55 : Nat), vs = [.bool b, .agg #[.slice A55 I'.length c55, .slice B55 X'.length d55, .slice C55 Y'.length e55], .tuple #[.agg #[.slice A55 I'.length c55, .slice B55 X'.length d55, .slice C55 Y'.length e55], .bool b], .tuple #[.agg #[.slice A55 I'.length c55, .slice B55 X'.length d55, .slice C55 Y'.length e55], .bool b]] ∧ RIT w' A55 I' ∧ RKT w' B55 X' ∧ RKT w' C55 Y'⟩, ⟨11, [], [11], [], fun vs w' lo hi => ∃ (g11 : Nat), vs = [.pointer (some ⟨g11, 0, none⟩)] ∧ Blk w' g11 31 [.slice none 0 0, .slice none 0 0, .slice none 0 0] ∧ lo ≤ g11 ∧ g11 < hi⟩] [0, 1, 2] [0, 1, 0, 0, 0, 24, 32, 70, 128, 256, 256, 0, 3071, 8191] [0, 1, 0, 0, 0, 24, 56, 127, 255, 511, 511, 0, 3071, 8191] [12, 13] [(.l, 12), (.p, 13)] (by kernel_rfl) (by kernel_rfl) (by kernel_rfl) (by kernel_rfl) ⟨fun _ _ _ _ _ h hb => by obtain ⟨A49, c49, B49, d49, C49, e49, e0, g0, g1, g2⟩ := h; exact ⟨A49, c49, B49, d49, C49, e49, e0, g0.u hb, g1.u hb, g2.u hb⟩, fun _ _ _ _ _ h hb => by obtain ⟨A55, c55, B55, d55, C55, e55, e0, g0, g1, g2⟩ := h; exact ⟨A55, c55, B55, d55, C55, e55, e0, g0.u hb, g1.u hb, g2.u hb⟩, fun _ _ _ _ _ h hb => by obtain ⟨g11, e0, g0, g1, g2⟩ := h; exact ⟨g11, e0, g0.u hb, g1, g2⟩, trivial⟩ ⟨?_, ?_, ?_, trivial⟩ ?_
   ·intro wI hbI fo T T2 n2
    intro hk
    dsimp only [Item.idx, inOrder, nthOp, List.map, List.zip_cons_cons, List.zip_nil_right, List.cons_append, List.nil_append]
    have shbI := hbI.size
    simp only [drew_size] at shbI
    replace hw := hw.trans (hbI.mono hw.size)
    replace f4 := f4.u hbI
    replace m3 := m3.u hbI
    replace m2 := m2.u hbI
    replace m1 := m1.u hbI
    replace f7 := f7.u hbI
    have hw1 := Below.refl wI.heap.size wI
    refine wl_call rfl (C_kOwnState _ m1.to_RI m2.to_RKs m3.to_RKs rfl rfl rfl (by omega) (by omega) (by omega) (by omega)) ?_ (hq := .inr fun _ _ h => grown_of_below h.choose_spec.choose_spec.choose_spec.choose_spec.choose_spec.choose_spec.2.2.2.2 _)
    rintro v49 w49 ⟨A49, ⟨c49, ⟨B49, ⟨d49, ⟨C49, ⟨e49, ⟨rfl, ⟨f49, ⟨f49_1, ⟨f49_2, b49⟩⟩⟩⟩⟩⟩⟩⟩⟩⟩
    have qf49 := f49.cap
    have qf49_1 := f49_1.cap
    have qf49_2 := f49_2.cap
    have s49 := b49.size
    replace hw := hw.trans (b49.mono hw.size)
    replace hw1 := hw1.trans (b49.mono hw1.size)
    replace f7 := f7.u b49
    replace m1 := m1.u b49
    replace m2 := m2.u b49
    replace m3 := m3.u b49
    replace f4 := f4.u b49
    exact hk [_] _ ⟨_, _, _, _, _, _, rfl, f49.to_RIT, f49_1.to_RKT, f49_2.to_RKT⟩ hw1
   ·intro wI hbI fo T T2 n2
    rintro _ lo0 hi0 ⟨A49, c49, B49, d49, C49, e49, rfl, f49, f49_1, f49_2⟩ ql0 qm0 qh0 -
    try dsimp only at ql0 qm0 qh0 
    try simp only [drew_size] at ql0 qm0 qh0 
    intro hk
    dsimp only [Item.idx, inOrder, nthOp, List.map, List.zip_cons_cons, List.zip_nil_right, List.cons_append, List.nil_append]
    have shbI := hbI.size
    simp only [drew_size] at shbI
    replace hw := hw.trans (hbI.mono hw.size)
    replace f4 := f4.u hbI
    replace m3 := m3.u hbI
    replace m2 := m2.u hbI
    replace m1 := m1.u hbI
    replace f7 := f7.u hbI
    have hw1 := Below.refl wI.heap.size wI
    refine wl_call rfl (C_opsStepN _ e6 f49.to_RI f49_1.to_RKs f49_2.to_RKs (r1.u hw) (r2.u hw) rfl rfl rfl rfl rfl (by omega) (by omega) (by omega) (by omega) (by omega) (by omega)) ?_
    rintro v55 w55 ⟨A55, ⟨c55, ⟨B55, ⟨d55, ⟨C55, ⟨e55, ⟨rfl, ⟨f55, ⟨f55_1, ⟨f55_2, b55⟩⟩⟩⟩⟩⟩⟩⟩⟩⟩
    have qf55 := f55.cap
    have qf55_1 := f55_1.cap
    have qf55_2 := f55_2.cap
    have s55 := b55.size
    replace hw := hw.trans (b55.mono hw.size)
    replace hw1 := hw1.trans (b55.mono hw1.size)
    replace f7 := f7.u b55
    replace m1 := m1.u b55
    replace m2 := m2.u b55
    replace m3 := m3.u b55
    replace f4 := f4.u b55
    replace f49_2 := f49_2.u b55
    replace f49_1 := f49_1.u b55
    replace f49 := f49.u b55
    refine zm rfl ?_
    refine zp (o_ext20 rfl) ?_
    refine zp (o_ext21 rfl) ?_
    exact hk [_, _, _, _] _ ⟨_, _, _, _, _, _, rfl, f55.to_RIT, f55_1.to_RKT, f55_2.to_RKT⟩ hw1
   ·intro wI hbI fo T T2 n2
    intro hk
    dsimp only [Item.idx, inOrder, nthOp, List.map, List.zip_cons_cons, List.zip_nil_right, List.cons_append, List.nil_append]
    have shbI := hbI.size
    simp only [drew_size] at shbI
    replace hw := hw.trans (hbI.mono hw.size)
    replace f4 := f4.u hbI
    replace m3 := m3.u hbI
    replace m2 := m2.u hbI
    replace m1 := m1.u hbI
    replace f7 := f7.u hbI
    have hw1 := Below.refl wI.heap.size wI
    refine wl_allocg [_, _, _] Tryz.zeroValue31 (by rfl) ?_
    rintro g11 w11 f11 b11 i11 i11_1
    have s11 := b11.size
    replace hw := hw.trans (b11.mono hw.size)
    replace hw1 := hw1.trans (b11.mono hw1.size)
    replace f7 := f7.u b11
    replace m1 := m1.u b11
    replace m2 := m2.u b11
    replace m3 := m3.u b11
    replace f4 := f4.u b11
    exact hk [_] _ ⟨_, rfl, f11, by omega, by omega⟩ hw1
   intro wE hbE
   rintro _ lo0 hi0 ⟨A49, c49, B49, d49, C49, e49, rfl, f49, f49_1, f49_2⟩ ql0 qm0 qh0 -
   rintro _ lo1 hi1 ⟨A55, c55, B55, d55, C55, e55, rfl, f55, f55_1, f55_2⟩ ql1 qm1 qh1 ⟨qa1_0, -⟩
   rintro _ lo2 hi2 ⟨g11, rfl, f11, f11_1, f11_2⟩ ql2 qm2 qh2 ⟨qa2_1, qa2_0, -⟩
   try dsimp only at ql0 qm0 qh0  ql1 qm1 qh1 qa1_0 ql2 qm2 qh2 qa2_0 qa2_1
   try simp only [drew_size] at ql0 qm0 qh0  ql1 qm1 qh1 qa1_0 ql2 qm2 qh2 qa2_0 qa2_1
   dsimp only [given, Item.idx, inOrder, nthOp, List.map, List.zip_cons_cons, List.zip_nil_right]
   have shbE := hbE.size
   simp only [drew_size] at shbE
   replace hw := hw.trans (hbE.mono hw.size)
   replace f4 := f4.u hbE
   replace m3 := m3.u hbE
   replace m2 := m2.u hbE
   replace m1 := m1.u hbE
   replace f7 := f7.u hbE
   refine wl_storega Tryz.sizeOf31 rfl rfl (by rfl) (oneCell_of (by rfl)) f11 (by rfl) ?_
   rintro w_2 f g_1 e_1
   have s_1 := g_1.size
   replace hw := hw.trans (below_of_grownBy g_1.g hw.size (by omega))
   replace f7 := f7.k g_1.g (ap_some (by omega))
   replace m1 := m1.y g_1 (by decide)
   replace m2 := m2.y g_1 (by decide)
   replace m3 := m3.y g_1 (by decide)
   replace f4 := f4.k g_1.g (ap_some (by omega))
   replace f55_2 := f55_2.y g_1 (by decide)
   replace f55_1 := f55_1.y g_1 (by decide)
   replace f55 := f55.y g_1 (by decide)
   replace f49_2 := f49_2.y g_1 (by decide)
   replace f49_1 := f49_1.y g_1 (by decide)
   replace f49 := f49.y g_1 (by decide)
   clear f11
   refine za rfl ?_
   refine wl_nild ?_
   refine rk_seq (zs (zm rfl (zm rfl ?_)))
   by_cases hy : who ∈ Y
   ·rw [decide_eq_true hy]
    cases b
    ·refine wl_off ?_
     refine wl_off ?_
     refine zp (o_pick_f rfl rfl) ?_
     refine zm rfl (zm rfl ?_)
     refine zp (o_not rfl) ?_
     refine zm rfl (wl_off (wl_off (wl_off (wl_off (wl_off (wl_off (wl_off (wl_off (wl_off (wl_off (wl_off ?_)))))))))))
     refine wl_off (wl_off ?_)
     refine zp (o_pick_f rfl rfl) ?_
     refine zp (o_pick_f rfl rfl) ?_
     refine zm rfl ?_
     refine zp (o_faddr (s := 31) (i := 2) (off := 2) Tryz.underlying31 rfl Tryz.sizeOf29 rfl rfl rfl) ?_
     refine wl_r (o_loadbg Tryz.isAgg29 rfl f (by rfl)) ?_
     refine zp (o_len (t := 29) Tryz.underlying29 rfl) ?_
     refine zp (o_lt rfl rfl) ?_
     refine zp (o_pick_f rfl rfl) ?_
     refine wl_nil ?_
     refine rk_if rfl (fun h87 => absurd h87 (by omega)) (fun h87 => ?_)
     refine rk_skip (rk_region ?_)
     refine wl_r (o_loadag Tryz.isAgg31 Tryz.sizeOf31 rfl f (by rfl)) ?_
     refine wl_storega Tryz.sizeOf31 rfl rfl (by rfl) (oneCell_of (by rfl)) f7 (by rfl) ?_
     rintro w_3 f_1 g_2 e_2
     have s_2 := g_2.size
     replace hw := hw.trans (below_of_grownBy g_2.g hw.size (by omega))
     replace f49 := f49.y g_2 (by decide)
     replace f49_1 := f49_1.y g_2 (by decide)
     replace f49_2 := f49_2.y g_2 (by decide)
     replace f55 := f55.y g_2 (by decide)
     replace f55_1 := f55_1.y g_2 (by decide)
     replace f55_2 := f55_2.y g_2 (by decide)
     replace f4 := f4.k g_2.g (ap_some (by omega))
     replace m3 := m3.y g_2 (by decide)
     replace m2 := m2.y g_2 (by decide)
     replace m1 := m1.y g_2 (by decide)
     replace f := f.k g_2.g (ap_some (by omega))
     clear f7
     refine wl_nil ?_
     refine rk_blk ?_
     refine rk_region (zm rfl ?_)
     refine zp (o_add rfl rfl (by omega) (by omega)) ?_
     refine za rfl (wl_nil ?_)
     exact rk_againf (Fr.le_of (by kernel_rfl) (by kernel_rfl) (by repeat' constructor)) ⟨i + 1, (i : Int) + 1, I', X', Y', A55, B55, C55, c55, d55, e55, rfl, by omega, by omega, rfl, hok', ⟨by assumption, f55, f55_1, f55_2⟩, f4, by omega, hw⟩ (by omega)
    ·rw [decide_eq_true (hin rfl)]
     refine zm rfl ?_
     refine zp (o_not rfl) ?_
     refine zp (o_pick_t rfl rfl) ?_
     refine zm rfl (zm rfl ?_)
     refine zp (o_not rfl) ?_
     refine zm rfl (wl_off (wl_off (wl_off (wl_off (wl_off (wl_off (wl_off (wl_off (wl_off (wl_off (wl_off ?_)))))))))))
     refine wl_off (wl_off ?_)
     refine zp (o_pick_f rfl rfl) ?_
     refine zp (o_pick_f rfl rfl) ?_
     refine zm rfl ?_
     refine zp (o_faddr (s := 31) (i := 2) (off := 2) Tryz.underlying31 rfl Tryz.sizeOf29 rfl rfl rfl) ?_
     refine wl_r (o_loadbg Tryz.isAgg29 rfl f (by rfl)) ?_
     refine zp (o_len (t := 29) Tryz.underlying29 rfl) ?_
     refine zp (o_lt rfl rfl) ?_
     refine zp (o_pick_f rfl rfl) ?_
     refine wl_nil ?_
     refine rk_if rfl (fun h87 => absurd h87 (by omega)) (fun h87 => ?_)
     refine rk_skip (rk_region ?_)
     refine wl_r (o_loadag Tryz.isAgg31 Tryz.sizeOf31 rfl f (by rfl)) ?_
     refine wl_storega Tryz.sizeOf31 rfl rfl (by rfl) (oneCell_of (by rfl)) f7 (by rfl) ?_
     rintro w_3 f_1 g_2 e_2
     have s_2 := g_2.size
     replace hw := hw.trans (below_of_grownBy g_2.g hw.size (by omega))
     replace f49 := f49.y g_2 (by decide)
     replace f49_1 := f49_1.y g_2 (by decide)
     replace f49_2 := f49_2.y g_2 (by decide)
     replace f55 := f55.y g_2 (by decide)
     replace f55_1 := f55_1.y g_2 (by decide)
     replace f55_2 := f55_2.y g_2 (by decide)
     replace f4 := f4.k g_2.g (ap_some (by omega))
     replace m3 := m3.y g_2 (by decide)
     replace m2 := m2.y g_2 (by decide)
     replace m1 := m1.y g_2 (by decide)
     replace f := f.k g_2.g (ap_some (by omega))
     clear f7
     refine wl_nil ?_
     refine rk_blk ?_
     refine rk_region (zm rfl ?_)
     refine zp (o_add rfl rfl (by omega) (by omega)) ?_
     refine za rfl (wl_nil ?_)
     exact rk_againf (Fr.le_of (by kernel_rfl) (by kernel_rfl) (by repeat' constructor)) ⟨i + 1, (i : Int) + 1, I', X', Y', A55, B55, C55, c55, d55, e55, rfl, by omega, by omega, rfl, hok', ⟨by assumption, f55, f55_1, f55_2⟩, f4, by omega, hw⟩ (by omega)
   ·rw [decide_eq_false hy]
    have e7 := hme hy
    injection e7 with x2 x3
    subst x2; subst x3
    cases b
    ·refine wl_off ?_
     refine wl_off ?_
     refine zp (o_pick_f rfl rfl) ?_
     refine zm rfl (zm rfl ?_)
     refine zp (o_not rfl) ?_
     refine zm rfl ?_
     refine zp (o_faddr (s := 31) (i := 1) (off := 1) Tryz.underlying31 rfl Tryz.sizeOf29 rfl rfl rfl) ?_
     refine wl_r (o_loadbg Tryz.isAgg29 rfl f (by rfl)) ?_
     refine zp (o_faddr (s := 31) (i := 1) (off := 1) Tryz.underlying31 rfl Tryz.sizeOf29 rfl rfl rfl) ?_
     refine wl_r (o_loadbg Tryz.isAgg29 rfl f7 (by rfl)) ?_
     refine wl_call rfl (C_kKeys _ f55_1.to_RKs m2.to_RKs rfl rfl (by omega) (by omega)) ?_
     rintro v71 w71 ⟨rfl, b71⟩
     have s71 := b71.size
     replace hw := hw.trans (b71.mono hw.size)
     replace f7 := f7.u b71
     replace f49_2 := f49_2.u b71
     replace m3 := m3.u b71
     replace f49_1 := f49_1.u b71
     replace m2 := m2.u b71
     replace f49 := f49.u b71
     replace f55 := f55.u b71
     replace f55_1 := f55_1.u b71
     replace f55_2 := f55_2.u b71
     replace f4 := f4.u b71
     replace m1 := m1.u b71
     replace f := f.u b71
     refine zm rfl ?_
     refine wl_know 72 true rfl (by simp) ?_
     refine zp (o_faddr (s := 31) (i := 2) (off := 2) Tryz.underlying31 rfl Tryz.sizeOf29 rfl rfl rfl) ?_
     refine wl_r (o_loadbg Tryz.isAgg29 rfl f (by rfl)) ?_
     refine zp (o_faddr (s := 31) (i := 2) (off := 2) Tryz.underlying31 rfl Tryz.sizeOf29 rfl rfl rfl) ?_
     refine wl_r (o_loadbg Tryz.isAgg29 rfl f7 (by rfl)) ?_
     refine wl_call rfl (C_kKeys _ f55_2.to_RKs m3.to_RKs rfl rfl (by omega) (by omega)) ?_
     rintro v77 w77 ⟨rfl, b77⟩
     have s77 := b77.size
     replace hw := hw.trans (b77.mono hw.size)
     replace f := f.u b77
     replace m1 := m1.u b77
     replace f4 := f4.u b77
     replace f55_2 := f55_2.u b77
     replace f55_1 := f55_1.u b77
     replace f55 := f55.u b77
     replace f49 := f49.u b77
     replace m2 := m2.u b77
     replace f49_1 := f49_1.u b77
     replace m3 := m3.u b77
     replace f49_2 := f49_2.u b77
     replace f7 := f7.u b77
     refine zp (o_pick_t rfl rfl) ?_
     refine zp (o_not rfl) ?_
     refine zp (o_pick_t rfl rfl) ?_
     refine zp (o_pick_f rfl rfl) ?_
     refine zm rfl ?_
     refine wl_know 82 false rfl (by simp) ?_
     refine zp (o_faddr (s := 31) (i := 2) (off := 2) Tryz.underlying31 rfl Tryz.sizeOf29 rfl rfl rfl) ?_
     refine wl_r (o_loadbg Tryz.isAgg29 rfl f (by rfl)) ?_
     refine zp (o_len (t := 29) Tryz.underlying29 rfl) ?_
     refine zp (o_lt rfl rfl) ?_
     refine zp (o_pick_f rfl rfl) ?_
     refine wl_nil ?_
     refine rk_if rfl (fun h87 => absurd h87 (by omega)) (fun h87 => ?_)
     refine rk_skip (rk_region ?_)
     refine wl_r (o_loadag Tryz.isAgg31 Tryz.sizeOf31 rfl f (by rfl)) ?_
     refine wl_storega Tryz.sizeOf31 rfl rfl (by rfl) (oneCell_of (by rfl)) f7 (by rfl) ?_
     rintro w_3 f_1 g_2 e_2
     have s_2 := g_2.size
     replace hw := hw.trans (below_of_grownBy g_2.g hw.size (by omega))
     replace f49_2 := f49_2.y g_2 (by decide)
     replace m3 := m3.y g_2 (by decide)
     replace f49_1 := f49_1.y g_2 (by decide)
     replace m2 := m2.y g_2 (by decide)
     replace f49 := f49.y g_2 (by decide)
     replace f55 := f55.y g_2 (by decide)
     replace f55_1 := f55_1.y g_2 (by decide)
     replace f55_2 := f55_2.y g_2 (by decide)
     replace f4 := f4.k g_2.g (ap_some (by omega))
     replace m1 := m1.y g_2 (by decide)
     replace f := f.k g_2.g (ap_some (by omega))
     clear f7
     refine wl_nil ?_
     refine rk_blk ?_
     refine rk_region (zm rfl ?_)
     refine zp (o_add rfl rfl (by omega) (by omega)) ?_
     refine za rfl (wl_nil ?_)
     rw [decide_eq_true rfl]
     exact rk_againf (Fr.le_of (by kernel_rfl) (by kernel_rfl) (by repeat' constructor)) ⟨i + 1, (i : Int) + 1, I', X', Y', A55, B55, C55, c55, d55, e55, rfl, by omega, by omega, rfl, hok', ⟨by assumption, f55, f55_1, f55_2⟩, f4, by omega, hw⟩ (by omega)
    ·rw [decide_eq_true (hin rfl)]
     refine zm rfl ?_
     refine zp (o_not rfl) ?_
     refine zp (o_pick_t rfl rfl) ?_
     refine zm rfl (zm rfl ?_)
     refine zp (o_not rfl) ?_
     refine zm rfl ?_
     refine zp (o_faddr (s := 31) (i := 1) (off := 1) Tryz.underlying31 rfl Tryz.sizeOf29 rfl rfl rfl) ?_
     refine wl_r (o_loadbg Tryz.isAgg29 rfl f (by rfl)) ?_
     refine zp (o_faddr (s := 31) (i := 1) (off := 1) Tryz.underlying31 rfl Tryz.sizeOf29 rfl rfl rfl) ?_
     refine wl_r (o_loadbg Tryz.isAgg29 rfl f7 (by rfl)) ?_
     refine wl_call rfl (C_kKeys _ f55_1.to_RKs m2.to_RKs rfl rfl (by omega) (by omega)) ?_
     rintro v71 w71 ⟨rfl, b71⟩
     have s71 := b71.size
     replace hw := hw.trans (b71.mono hw.size)
     replace f7 := f7.u b71
     replace f49_2 := f49_2.u b71
     replace m3 := m3.u b71
     replace f49_1 := f49_1.u b71
     replace m2 := m2.u b71
     replace f49 := f49.u b71
     replace f55 := f55.u b71
     replace f55_1 := f55_1.u b71
     replace f55_2 := f55_2.u b71
     replace f4 := f4.u b71
     replace m1 := m1.u b71
     replace f := f.u b71
     refine zm rfl ?_
     refine wl_know 72 true rfl (by simp) ?_
     refine zp (o_faddr (s := 31) (i := 2) (off := 2) Tryz.underlying31 rfl Tryz.sizeOf29 rfl rfl rfl) ?_
     refine wl_r (o_loadbg Tryz.isAgg29 rfl f (by rfl)) ?_
     refine zp (o_faddr (s := 31) (i := 2) (off := 2) Tryz.underlying31 rfl Tryz.sizeOf29 rfl rfl rfl) ?_
     refine wl_r (o_loadbg Tryz.isAgg29 rfl f7 (by rfl)) ?_
     refine wl_call rfl (C_kKeys _ f55_2.to_RKs m3.to_RKs rfl rfl (by omega) (by omega)) ?_
     rintro v77 w77 ⟨rfl, b77⟩
     have s77 := b77.size
     replace hw := hw.trans (b77.mono hw.size)
     replace f := f.u b77
     replace m1 := m1.u b77
     replace f4 := f4.u b77
     replace f55_2 := f55_2.u b77
     replace f55_1 := f55_1.u b77
     replace f55 := f55.u b77
     replace f49 := f49.u b77
     replace m2 := m2.u b77
     replace f49_1 := f49_1.u b77
     replace m3 := m3.u b77
     replace f49_2 := f49_2.u b77
     replace f7 := f7.u b77
     refine zp (o_pick_t rfl rfl) ?_
     refine zp (o_not rfl) ?_
     refine zp (o_pick_t rfl rfl) ?_
     refine zp (o_pick_f rfl rfl) ?_
     refine zm rfl ?_
     refine wl_know 82 false rfl (by simp) ?_
     refine zp (o_faddr (s := 31) (i := 2) (off := 2) Tryz.underlying31 rfl Tryz.sizeOf29 rfl rfl rfl) ?_
     refine wl_r (o_loadbg Tryz.isAgg29 rfl f (by rfl)) ?_
     refine zp (o_len (t := 29) Tryz.underlying29 rfl) ?_
     refine zp (o_lt rfl rfl) ?_
     refine zp (o_pick_f rfl rfl) ?_
     refine wl_nil ?_
     refine rk_if rfl (fun h87 => absurd h87 (by omega)) (fun h87 => ?_)
     refine rk_skip (rk_region ?_)
     refine wl_r (o_loadag Tryz.isAgg31 Tryz.sizeOf31 rfl f (by rfl)) ?_
     refine wl_storega Tryz.sizeOf31 rfl rfl (by rfl) (oneCell_of (by rfl)) f7 (by rfl) ?_
     rintro w_3 f_1 g_2 e_2
     have s_2 := g_2.size
     replace hw := hw.trans (below_of_grownBy g_2.g hw.size (by omega))
     replace f49_2 := f49_2.y g_2 (by decide)
     replace m3 := m3.y g_2 (by decide)
     replace f49_1 := f49_1.y g_2 (by decide)
     replace m2 := m2.y g_2 (by decide)
     replace f49 := f49.y g_2 (by decide)
     replace f55 := f55.y g_2 (by decide)
     replace f55_1 := f55_1.y g_2 (by decide)
     replace f55_2 := f55_2.y g_2 (by decide)
     replace f4 := f4.k g_2.g (ap_some (by omega))
     replace m1 := m1.y g_2 (by decide)
     replace f := f.k g_2.g (ap_some (by omega))
     clear f7
     refine wl_nil ?_
     refine rk_blk ?_
     refine rk_region (zm rfl ?_)
     refine zp (o_add rfl rfl (by omega) (by omega)) ?_
     refine za rfl (wl_nil ?_)
     rw [decide_eq_true rfl]
     exact rk_againf (Fr.le_of (by kernel_rfl) (by kernel_rfl) (by repeat' constructor)) ⟨i + 1, (i : Int) + 1, I', X', Y', A55, B55, C55, c55, d55, e55, rfl, by omega, by omega, rfl, hok', ⟨by assumption, f55, f55_1, f55_2⟩, f4, by omega, hw⟩ (by omega)
  ·refine rk_exit rfl ?_
   exact rk_tof hj (Fr.le_of (by kernel_rfl) (by kernel_rfl) (by repeat' constructor)) ⟨(I, X, Y), _, _, _, _, _, _, rfl, hok, ⟨f7, m1, m2, m3⟩, hw⟩
 clear hw f k4 k5 k6 f32 f32_1 f32_2 f3 f4
 clear hI hX hY g1 g3 hI24 hX40 hY40 hLI
 rintro fr W ⟨⟨I, X, Y⟩, Aa, Ba, Ca, ca, da, ea, rfl, hok, ⟨f7, m1, m2, m3⟩, hw⟩
 dsimp only at f7 m1 m2 m3
 have shw := hw.size
 have z1 := hok.1.1
 have z2 := hok.1.2
 have z3 := hok.2.1.2
 have z4 : LtI I := hok.2.2.1.lt
 have z5 : SmS (I, X, Y) := hok.sm
 dsimp only at z1 z2 z3
 have hg7 := f7.lt
 obtain ⟨n0, hn0⟩ : ∃ zz, secS sd5 = zz := ⟨_, rfl⟩
 obtain ⟨b0, hb0⟩ : ∃ zz, baseS = zz := ⟨_, rfl⟩
 obtain ⟨p0, hp0⟩ : ∃ zz, mulPt n0 b0 = zz := ⟨_, rfl⟩
 obtain ⟨kq, hkq⟩ : ∃ zz, bytesPt p0 = zz := ⟨_, rfl⟩
 first | refine zf ?_ | refine zg ?_
 refine zs ?_
 refine wl_call rfl (C_kSeed5 _) ?_
 rintro v89 w89 ⟨rfl, b89⟩
 have s89 := b89.size
 replace hw := hw.trans (b89.mono hw.size)
 replace m3 := m3.u b89
 replace m2 := m2.u b89
 replace m1 := m1.u b89
 replace f7 := f7.u b89
 refine wl_allocB Tryz.underlying41 Tryz.zeroValue41 (by rfl) ?_
 rintro g13 w13 f13 b13 i13 i13_1
 have s13 := b13.size
 replace hw := hw.trans (b13.mono hw.size)
 replace f7 := f7.u b13
 replace m1 := m1.u b13
 replace m2 := m2.u b13
 replace m3 := m3.u b13
 refine wl_stBa Tryz.sizeOf41 rfl f13 rfl (by rfl) (by rfl) ?_
 rintro w_2 f g_1 e_1
 have s_1 := g_1.size
 replace hw := hw.trans (below_of_grownBy g_1.g hw.size (by omega))
 replace m3 := m3.y g_1 (by decide)
 replace m2 := m2.y g_1 (by decide)
 replace m1 := m1.y g_1 (by decide)
 replace f7 := f7.k g_1.g (ap_some (by omega))
 clear f13
 refine wl_nil (zs ?_)
 refine wl_r (o_ldBa Tryz.isAgg41 Tryz.sizeOf41 rfl f (by rfl)) ?_
 refine wl_litB [0] Tryz.u8 Tryz.sizeOf5 Tryz.zeroValue5 (by rfl) rfl rfl (by rfl) (by rfl) (by rfl) ?_
 rintro A92 w92 f92 b92
 have qf92 := f92.cap
 have s92 := b92.size
 replace hw := hw.trans (b92.mono hw.size)
 replace f7 := f7.u b92
 replace m1 := m1.u b92
 replace m2 := m2.u b92
 replace m3 := m3.u b92
 replace f := f.u b92
 refine zp (o_bldBkD rfl) ?_
 refine wl_call rfl (C_r15Sign _ hn0 hb0 hp0 hkq f92.to_Rd (by rfl) (by omega)) ?_
 rintro v94 w94 ⟨N94, ⟨nc94, ⟨D94, ⟨c94, ⟨q94, ⟨rfl, ⟨e94, ⟨f94, b94⟩⟩⟩⟩⟩⟩⟩⟩
 have qf94 := f94.cap
 have s94 := b94.size
 replace hw := hw.trans (b94.mono hw.size)
 replace f := f.u b94
 replace m3 := m3.u b94
 replace m2 := m2.u b94
 replace m1 := m1.u b94
 replace f7 := f7.u b94
 replace f92 := f92.u b94
 refine zm rfl ?_
 refine zp (o_ext20 rfl) ?_
 refine zp (o_ext21 rfl) ?_
 refine wl_allocBk ?_
 rintro g14 w14 f14 b14 i14 i14_1
 have s14 := b14.size
 replace hw := hw.trans (b14.mono hw.size)
 replace f92 := f92.u b14
 replace f7 := f7.u b14
 replace m1 := m1.u b14
 replace m2 := m2.u b14
 replace m3 := m3.u b14
 replace f := f.u b14
 replace f94 := f94.u b14
 refine wl_stBkB rfl f14 bkS0 rfl (bkS0.sig (by assumption)) ?_
 rintro w_3 f_1 g_2 e_2
 have s_2 := g_2.size
 replace hw := hw.trans (below_of_grownBy g_2.g hw.size (by omega))
 replace f94 := f94.k g_2.g (ap_some (by omega))
 replace f := f.k g_2.g (ap_some (by omega))
 replace m3 := m3.y g_2 (by decide)
 replace m2 := m2.y g_2 (by decide)
 replace m1 := m1.y g_2 (by decide)
 replace f7 := f7.k g_2.g (ap_some (by omega))
 replace f92 := f92.k g_2.g (ap_some (by omega))
 clear f14
 refine za rfl (wl_nil (rk_seq ?_))
 refine rk_drawo (id := 16) (none) [0, 1, 2, 4, 12, 4, 52, 4, 196, 260, 768, 1024, 3072, 1024, 9216, 21504, 33792, 131071] [0, 1, 3, 7, 15, 7, 63, 7, 255, 511, 1023, 2047, 4095, 2047, 10239, 32767, 65535, 131071] 16720 16464 [0, 1, 2, 3, 5, 7, 4, 6, 8, 9, 10, 11, 12, 13, 14, 15, 16, 17] [(.p, 0), (.p, 1), (.p, 2), (.r, 3), (.s, 5), (.s, 7), (.c, 4), (.c, 6), (.l, 8), (.p, 9), (.p, 10), (.p, 11), (.s, 12), (.r, 13), (.c, 14), (.p, 15), (.p, 16), (.p, 17)] (by kernel_rfl) (by kernel_rfl) (by kernel_rfl) (by kernel_rfl) (by kernel_rfl) ?_
 dsimp only [inOrder, nthOp]
 replace hw := hw.drew
 replace f92 := f92.d
 replace f7 := f7.d
 replace m1 := m1.d
 replace m2 := m2.d
 replace m3 := m3.d
 replace f := f.d
 replace f94 := f94.d
 replace f_1 := f_1.d
 refine zm rfl ?_
 refine zp (o_eq rfl rfl) ?_
 refine zm rfl ?_
 refine wl_r (o_loadag Tryz.isAgg31 Tryz.sizeOf31 rfl f7 (by rfl)) ?_
 refine wl_s (fun _ hk => (o_ldBkA rfl (f_1.u (below_of_grown_none hk)) (bkS0.sig (by assumption)))) ?_
 refine wl_s (fun _ hk => (o_loadag Tryz.isAgg31 Tryz.sizeOf31 rfl (f7.u (below_of_grown_none hk)) (by rfl))) ?_
 refine wl_call rfl (C_kOwnState _ m1.to_RI m2.to_RKs m3.to_RKs rfl rfl rfl (by omega) (by omega) (by omega) (by omega)) ?_ (hq := .inr fun _ _ h => grown_of_below h.choose_spec.choose_spec.choose_spec.choose_spec.choose_spec.choose_spec.2.2.2.2 _)
 rintro v101 w101 ⟨A101, ⟨c101, ⟨B101, ⟨d101, ⟨C101, ⟨e101, ⟨rfl, ⟨f101, ⟨f101_1, ⟨f101_2, b101⟩⟩⟩⟩⟩⟩⟩⟩⟩⟩
 simp only [drew_size] at f101
 simp only [drew_size] at f101_1
 simp only [drew_size] at f101_2
 simp only [drew_size] at b101
 have qf101 := f101.cap
 have qf101_1 := f101_1.cap
 have qf101_2 := f101_2.cap
 have s101 := b101.size
 simp only [drew_size] at s101
 replace hw := hw.trans (b101.mono hw.size)
 replace f_1 := f_1.u b101
 replace f94 := f94.u b101
 replace f := f.u b101
 replace m3 := m3.u b101
 replace m2 := m2.u b101
 replace m1 := m1.u b101
 replace f7 := f7.u b101
 replace f92 := f92.u b101
 refine wl_know 99 true rfl (decide_eq_true (by omega)) ?_
 have mx := own_max f94
 have mc := f94.cap
 have e8 : ApplyR I X Y kq.1 [0] I X Y := applyR_0
 have m4 := f94.to_RdT
 refine wl_call rfl (C_applyX _ (bkS0.sig (by assumption)) e8 f101.to_RI f101_1.to_RKs f101_2.to_RKs m4 rfl (by omega) (by omega) rfl rfl rfl (by omega) (by omega)) ?_ (hq := .inr fun _ _ h => grown_of_below h.choose_spec.choose_spec.choose_spec.choose_spec.choose_spec.choose_spec.2.2.2.2 _)
 rintro v103 w103 ⟨A103, ⟨c103, ⟨B103, ⟨d103, ⟨C103, ⟨e103, ⟨rfl, ⟨f103, ⟨f103_1, ⟨f103_2, b103⟩⟩⟩⟩⟩⟩⟩⟩⟩⟩
 have qf103 := f103.cap
 have qf103_1 := f103_1.cap
 have qf103_2 := f103_2.cap
 have s103 := b103.size
 replace hw := hw.trans (b103.mono hw.size)
 replace m4 := m4.u b103
 replace f92 := f92.u b103
 replace f7 := f7.u b103
 replace m1 := m1.u b103
 replace m2 := m2.u b103
 replace m3 := m3.u b103
 replace f := f.u b103
 replace f94 := f94.u b103
 replace f_1 := f_1.u b103
 replace f101_2 := f101_2.u b103
 replace f101_1 := f101_1.u b103
 replace f101 := f101.u b103
 refine wl_call rfl (C_kState _ f103.to_RI f103_1.to_RKs f103_2.to_RKs m1.to_RI m2.to_RKs m3.to_RKs rfl rfl rfl rfl rfl rfl (by omega) (by omega) (by omega) (by omega) (by omega) (by omega)) ?_
 rintro v105 w105 ⟨rfl, b105⟩
 have s105 := b105.size
 replace hw := hw.trans (b105.mono hw.size)
 replace f101 := f101.u b105
 replace f101_1 := f101_1.u b105
 replace f101_2 := f101_2.u b105
 replace f_1 := f_1.u b105
 replace f94 := f94.u b105
 replace f := f.u b105
 replace m3 := m3.u b105
 replace m2 := m2.u b105
 replace m1 := m1.u b105
 replace f7 := f7.u b105
 replace f92 := f92.u b105
 replace m4 := m4.u b105
 replace f103_2 := f103_2.u b105
 replace f103_1 := f103_1.u b105
 replace f103 := f103.u b105
 refine zp (o_pick_t rfl rfl) ?_
 refine zm rfl ?_
 refine wl_know 107 true rfl (by simp) ?_
 refine zp (o_faddr (s := 49) (i := 0) (off := 0) Tryz.underlying49 rfl Tryz.sizeOf42 rfl rfl rfl) ?_
 refine wl_s (fun _ hk => (o_ldBkW rfl (f_1.u (below_of_grown_none hk)))) ?_
 refine wl_r (o_ldBa Tryz.isAgg41 Tryz.sizeOf41 rfl f (by rfl)) ?_
 refine wl_call rfl (C_f6Key _ hn0 hb0 hp0 hkq) ?_ (hq := .inr fun _ _ h => grown_of_below h.2 _)
 rintro v111 w111 ⟨rfl, b111⟩
 have s111 := b111.size
 replace hw := hw.trans (b111.mono hw.size)
 replace f103 := f103.u b111
 replace f103_1 := f103_1.u b111
 replace f103_2 := f103_2.u b111
 replace m4 := m4.u b111
 replace f92 := f92.u b111
 replace f7 := f7.u b111
 replace m1 := m1.u b111
 replace m2 := m2.u b111
 replace m3 := m3.u b111
 replace f := f.u b111
 replace f94 := f94.u b111
 replace f_1 := f_1.u b111
 replace f101_2 := f101_2.u b111
 replace f101_1 := f101_1.u b111
 replace f101 := f101.u b111
 refine zp (o_eqKy rfl rfl) ?_
 refine zp (o_pick_t rfl rfl) ?_
 refine za rfl ?_
 refine wl_nild ?_
 rw [decide_eq_true rfl]
 refine ret1 rfl rfl ?_
 exact ⟨rfl, hw⟩
end Go.Proofs.YtahkeoegbjopfaaGreat
namespace Go.Proofs.YtahkeoegbjopfaaGreat
set_option maxRecDepth 100000
open Go.RowKit
theorem opens_OpB : Opens Tryz.prog 54 gOp :=
 have hb : Opens Tryz.prog 39 gBytes := opens_bytes Tryz.underlying39 Tryz.underlying5 (by kernel_rfl) (by kernel_rfl)
 have hk : Opens Tryz.prog 42 (gArr 32) := opens_arr8 Tryz.underlying42 Tryz.underlying5 (by kernel_rfl) (by kernel_rfl)
 opens_struct Tryz.underlying54 (by kernel_rfl) (.more (opens_int Tryz.underlying3 (by kernel_rfl)) rfl (.more hb rfl (.more hb rfl (.one hk rfl))))
def gStB : GoT Stt := (GoT.slice 94 gItem).pair ((GoT.slice 42 (gArr 32)).pair (GoT.slice 42 (gArr 32)))
theorem opens_StB : Opens Tryz.prog 31 gStB :=
 have hb : Opens Tryz.prog 39 gBytes := opens_bytes Tryz.underlying39 Tryz.underlying5 (by kernel_rfl) (by kernel_rfl)
 have hI : Opens Tryz.prog 94 gItem := opens_struct Tryz.underlying94 (by kernel_rfl) (.more hb rfl (.one hb rfl))
 have hk : Opens Tryz.prog 42 (gArr 32) := opens_arr8 Tryz.underlying42 Tryz.underlying5 (by kernel_rfl) (by kernel_rfl)
 opens_struct Tryz.underlying31 (by kernel_rfl) (.more (opens_slice Tryz.underlying28 (by kernel_rfl) (by decide) hI) rfl (.more (opens_slice Tryz.underlying29 (by kernel_rfl) (by decide) hk) rfl (.one (opens_slice Tryz.underlying29 (by kernel_rfl) (by decide) hk) rfl)))
set_option maxRecDepth 100000 in
theorem arg_StateB {H : Type} {enc : TypeId × Value → H} {W : World} {base : Nat} {v : Value} {d : DataW H} {p : List MemPlace} (hok : Value.okWide Tryz.prog W .any base 31 v) (h : DataW.Trod enc Tryz.prog W 0 (fun _ => true) true 31 v d p) :
  ∃ (I : List (By × By)) (X Y : List Ky) (A : Option Addr) (c : Nat) (B : Option Addr) (d : Nat) (C : Option Addr) (e : Nat), v = .agg #[.slice A I.length c, .slice B X.length d, .slice C Y.length e] ∧ RI W A I ∧ RKs W B X ∧ RKs W C Y := by
 obtain ⟨cs, ⟨I, X, Y⟩, rfl, c1, c2, rfl, h1, c3, c4, rfl, h2, h3⟩ := open_agg opens_StB (.inl ⟨_, Tryz.underlying31⟩) hok h
 obtain ⟨A, c, rfl, hA, _⟩ := slice_RSl h1
 obtain ⟨B, d, rfl, hB, _⟩ := slice_RSl h2
 obtain ⟨C, e, rfl, hC, _⟩ := slice_RSl h3
 exact ⟨I, X, Y, A, c, B, d, C, e, rfl, hA, hB, hC⟩
set_option maxRecDepth 100000 in
theorem arg_OpsB {H : Type} {enc : TypeId × Value → H} {W : World} {base : Nat} {v : Value} {d : DataW H} {p : List MemPlace} (hok : Value.okWide Tryz.prog W .any base 35 v) (h : DataW.Trod enc Tryz.prog W 0 (fun _ => true) true 35 v d p) :
  ∃ (A : Option Addr) (c : Nat) (L : List Opn), v = .slice A L.length c ∧ RO W A L ∧ L.length ≤ c ∧ c ≤ maxLen := by
 obtain ⟨L, h1⟩ := open_slc (X := GoT.slice 54 gOp) (opens_slice Tryz.underlying35 (by kernel_rfl) (by decide) opens_OpB) Tryz.underlying35 hok h
 obtain ⟨A, c, e, h2, h3, h4⟩ := slice_RSl h1
 injection e with e
 exact ⟨A, c, L, e, h2, h3, h4⟩
end Go.Proofs.YtahkeoegbjopfaaGreat
