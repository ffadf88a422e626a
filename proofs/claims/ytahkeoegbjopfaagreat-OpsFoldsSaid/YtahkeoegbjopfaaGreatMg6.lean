/-
  Walks of package ops: slices.Insert of one item, of one key.
-/
import Derived.Test.YtahkeoegbjopfaaGreatMg5
namespace Go.Proofs.YtahkeoegbjopfaaGreat
set_option maxRecDepth 100000
open Go.RowKit
section
variable {P : Program} {N : Nat} {fr : Fr} {w : World} {ty t e : TypeId} {x y z u : Operand} {A : Option Addr} {len cap sz : Nat} {kl kh km : IntKind} {L H M : Int}
theorem o_slLoG (lo : Nat) (hu : P.underlying t = some (.slice e)) (hs : ∀ w, (sizeOf e).run P w = .ok sz w) (hx : fr.ev x = some (.slice A len cap)) (hy : fr.ev y = some (.int kl L)) (hl : L = (lo : Int)) (h1 : lo ≤ len) : OpV P N fr w (.slice t x (some y) none none) ty (.slice (cutA A cap sz lo) (len - lo) (cap - lo)) w := o_slice_lo hu hs hx hy hl h1
theorem o_slHiG (hi : Nat) (hu : P.underlying t = some (.slice e)) (hs : ∀ w, (sizeOf e).run P w = .ok sz w) (hx : fr.ev x = some (.slice A len cap)) (hz : fr.ev z = some (.int kh H)) (hh : H = (hi : Int)) (h2 : hi ≤ cap) : OpV P N fr w (.slice t x none (some z) none) ty (.slice A hi cap) w := o_slice_hi hu hs hx hz hh h2
theorem o_slBothG (lo hi : Nat) (hu : P.underlying t = some (.slice e)) (hs : ∀ w, (sizeOf e).run P w = .ok sz w) (hx : fr.ev x = some (.slice A len cap)) (hy : fr.ev y = some (.int kl L)) (hz : fr.ev z = some (.int kh H)) (hl : L = (lo : Int)) (hh : H = (hi : Int)) (h1 : lo ≤ hi) (h2 : hi ≤ cap) : OpV P N fr w (.slice t x (some y) (some z) none) ty (.slice (cutA A cap sz lo) (hi - lo) (cap - lo)) w := o_slice hu hs hx hy hz hl hh h1 h2
theorem o_sl3G (lo hi mx : Nat) (hu : P.underlying t = some (.slice e)) (hs : ∀ w, (sizeOf e).run P w = .ok sz w) (hx : fr.ev x = some (.slice A len cap)) (hy : fr.ev y = some (.int kl L)) (hz : fr.ev z = some (.int kh H)) (hq : fr.ev u = some (.int km M))
  (hl : L = (lo : Int)) (hh : H = (hi : Int)) (hm : M = (mx : Int)) (h1 : lo ≤ hi) (h2 : hi ≤ mx) (h3 : mx ≤ cap) : OpV P N fr w (.slice t x (some y) (some z) (some u)) ty (.slice (cutA A mx sz lo) (hi - lo) (mx - lo)) w := o_slice3S lo hi mx hu hs hx hy hz hq hl hh hm h1 h2 h3
theorem o_capG (hu : P.underlying t = some (.slice e)) (hx : fr.ev x = some (.slice A len cap)) : OpV P N fr w (.call { callee := .builtin .cap, args := #[x], argTypes := #[t] }) ty (.int .i64 cap) w :=
 o_builtin (xs := [x]) (vs := [.slice A len cap]) (by simp [Fr.evs, hx]) (by simp [builtin, Builtin.cap_, run_underlying hu, goInt]) (by simp)
end
theorem blk_shape {w : World} {g : Nat} {t : TypeId} {cs : List Value} (h : Blk w g t cs) : w.shape? g = some (t, cs.length) := by
 unfold Blk at h
 simp [World.shape?, h]
section
variable {P : Program} {fn : Func} {F : Ending → World → Prop} {N : Nat} {ks : List K} {ops : Array Oper} {tg : Tags} {l : List Oper} {fr : Fr} {w : World} {ty t t2 e e' ti : TypeId} {z : Value} {sz bytes : Nat} {pos : String} {aft : Array Edge} {gd : Option (Nat × Bool)} {d g o dl dc sl sc n m c : Nat} {x y : Operand} {a : Addr} {cur ms : List Value}
theorem wl_copyR (T : RowT P t e z sz bytes) (hx : fr.ev x = some (.slice (some ⟨g, o, none⟩) dl dc)) (hy : fr.ev y = some (.slice (some a) sl sc)) (hB : Blk w g e' cur) (hr : ∀ j v, ms[j]? = some v → w.cell? (a.add j) = some v) (hm : ms.length = Nat.min sl dl * sz) (h1 : ∀ u ∈ ms, u.oneCell' = true) (hfit : o + ms.length ≤ cur.length)
  (hk : ∀ w', Blk w' g e' (spl cur o ms) → Grew w w' e' (some g) → w'.heap.size = w.heap.size → WL P fn F N ks ops tg.tail l ((d, goInt (Nat.min sl dl)) :: fr) w')
  (ht : tg.loud = true := by rfl) (hg : onG ops fr gd = true := by rfl) (hd : Nat.blt d N = true := by rfl) (hq : tg.calm = false ∨ tg.row = some g := by exact .inl rfl) :
  WL P fn F N ks ops tg (⟨some d, .call { callee := .builtin .copy, args := #[x, y], argTypes := #[t, t2] }, ty, pos, aft, gd⟩ :: l) fr w := by
 obtain ⟨w', hrun, r1, r2, r3⟩ := run_copyS (ty := ty) (t2 := t2) (dCap := dc) (sCap := sc) T hB hr hm h1 hfit
 exact wl_v (o_builtin (xs := [x, y]) (vs := [.slice (some ⟨g, o, none⟩) dl dc, .slice (some a) sl sc]) (by simp [Fr.evs, hx, hy]) (by simp [builtin, hrun]) (by simp [goInt])) (hk w' r1 ⟨r2, fun k hk => by injection hk with hk; subst hk; exact hB.at_⟩ r3) ht hg hd (hq.imp id fun e => by rw [e]; exact r2)
theorem wl_appzg {M : Int} (T : RowT P t e z sz bytes) (hti : P.underlying ti = some (.int .i64)) (hx : fr.ev x = some (.slice (some a) n c)) (hy : fr.ev y = some (.int .i64 M)) (hM : M = (m : Int)) (hl : ms.length = n * sz) (hr : ∀ j v, ms[j]? = some v → w.cell? (a.add j) = some v) (hm : 0 < m) (hc : c < n + m) (hmx : n + m ≤ 1000000) (hcx : c ≤ 1000000) (hb : bytes ≤ 100)
  (hk : ∀ w' c' zs, Blk w' w.heap.size e (ms ++ zs) → (ms ++ zs).length = c' * sz → n + m ≤ c' → c' ≤ maxLen → Below w.heap.size w w' → w'.heap.size = w.heap.size + 1 → WL P fn F N ks ops tg.tail l ((d, .slice (some ⟨w.heap.size, 0, none⟩) (n + m) c') :: fr) w')
  (ht : tg.loud = true := by rfl) (hg : onG ops fr gd = true := by rfl) (hd : Nat.blt d N = true := by rfl) :
  WL P fn F N ks ops tg (⟨some d, .call { callee := .builtin .append, args := #[x, y], argTypes := #[t, ti] }, ty, pos, aft, gd⟩ :: l) fr w := by
 subst hM
 obtain ⟨c', zs, hrun, r1, r2, r3⟩ := run_append_zgrow (ty := ty) T hti hl hr hm hc hmx hcx hb
 have hbl : Below w.heap.size w (w.drew.alloc (.cells (ms ++ zs).toArray e)) := ((Below.refl w.heap.size w).drew.alloc (Nat.le_refl _) _)
 have hB : Blk (w.drew.alloc (.cells (ms ++ zs).toArray e)) w.heap.size e (ms ++ zs) := by
  have := Blk.new w.drew e (ms ++ zs).toArray
  simpa using this
 exact wl_v (o_builtin (xs := [x, y]) (vs := [.slice (some a) n c, .int .i64 m]) (by simp [Fr.evs, hx, hy]) (by simp [builtin, hrun]) (by simp)) (hk _ c' zs hB r1 r2 r3 hbl (by simp)) ht hg hd (.inr (grown_of_below hbl _))
end
section
variable {N : Nat} {fr : Fr} {w : World} {ty : TypeId} {x y : Operand} {ts : Array TypeId} {e e' : TypeId} {g g' n c m d o : Nat} {cs cs' : List Value}
theorem o_ovlI (hx : fr.ev x = some (.slice (some ⟨g, 0, none⟩) n c)) (hy : fr.ev y = some (.slice (some ⟨g', o, none⟩) m d)) (hB : Blk w g e cs) (hB' : Blk w g' e' cs') (hne : g ≠ g') (h0 : cs'.length ≠ 0) :
  OpV Tryz.prog N fr w (.call { callee := .value (.func 162), args := #[x, y], argTypes := ts }) ty (.bool false) w := fun ac hac op ho _ => by
 have e1 := Lib.run_overlaps_apart (P := Tryz.prog) w 28 4 94 Tryz.underlying28 2 Tryz.sizeOf94 ⟨g, 0, none⟩ ⟨g', o, none⟩ n c m d hne _ _ _ _ (blk_shape hB) (blk_shape hB') h0 (hB.frozen 0) (hB.frozen _)
 have hrun : (callFunc 162 #[.slice (some ⟨g, 0, none⟩) n c, .slice (some ⟨g', o, none⟩) m d]).run Tryz.prog w = .ok (.value (.bool false)) w := by
  rw [run_callFunc_extern Tryz.func162 (by kernel_rfl) (by kernel_rfl) (by kernel_rfl) (e := Extern.SlicesOverlaps.overlaps #[28, 28] #[4]) (by kernel_rfl), e1]
  rfl
 have hfn : ac.eval (.func 162) = .func (.func 162) #[] #[] := rfl
 simp [execOp, ho, resolve, invoke, Deferred.ofValue, hac.ev hx, hac.ev hy, hfn, hrun]
theorem o_ovlK (hx : fr.ev x = some (.slice (some ⟨g, 0, none⟩) n c)) (hy : fr.ev y = some (.slice (some ⟨g', o, none⟩) m d)) (hB : Blk w g e cs) (hB' : Blk w g' e' cs') (hne : g ≠ g') (h0 : cs'.length ≠ 0) :
  OpV Tryz.prog N fr w (.call { callee := .value (.func 182), args := #[x, y], argTypes := ts }) ty (.bool false) w := fun ac hac op ho _ => by
 have e1 := Lib.run_overlaps_apart (P := Tryz.prog) w 29 4 42 Tryz.underlying29 32 Tryz.sizeOf42 ⟨g, 0, none⟩ ⟨g', o, none⟩ n c m d hne _ _ _ _ (blk_shape hB) (blk_shape hB') h0 (hB.frozen 0) (hB.frozen _)
 have hrun : (callFunc 182 #[.slice (some ⟨g, 0, none⟩) n c, .slice (some ⟨g', o, none⟩) m d]).run Tryz.prog w = .ok (.value (.bool false)) w := by
  rw [run_callFunc_extern Tryz.func182 (by kernel_rfl) (by kernel_rfl) (by kernel_rfl) (e := Extern.SlicesOverlaps.overlaps #[29, 29] #[4]) (by kernel_rfl), e1]
  rfl
 have hfn : ac.eval (.func 182) = .func (.func 182) #[] #[] := rfl
 simp [execOp, ho, resolve, invoke, Deferred.ofValue, hac.ev hx, hac.ev hy, hfn, hrun]
end
theorem K_insI {A B : Option Addr} {I : List (By × By)} {x : By × By} {i n c q lo hi lo2 hi2 : Nat} {iv : Int} (w : World) (hA : OwnI w lo hi A c I) (hB : OwnI w lo2 hi2 B q [x]) (hap : hi ≤ lo2) (hn : n = I.length) (hiv : iv = (i : Int)) (hi1 : i ≤ I.length) (hl : I.length ≤ 100000) (hlo : lo ≤ w.heap.size) :
  CallsR Tryz.prog 121 [.slice A n c, .int .i64 iv, .slice B 1 q] w fun v w' => ∃ A' c', v = .slice A' (I.take i ++ [x] ++ I.drop i).length c' ∧ OwnI w' lo w'.heap.size A' c' (I.take i ++ [x] ++ I.drop i) ∧ Grew w w' 94 (blk A) ∧ Below lo w w' ∧ (blk A' = blk A ∨ ∀ k, blk A' = some k → w.heap.size ≤ k) := by
 subst hn; subst hiv
 have hAc := hA.cap
 refine callsR Tryz.func121 rfl rfl (by kernel_rfl) rfl ?_
 have hw := Below.refl w.heap.size w
 refine rk_seq ?_
 refine rk_region ?_
 refine wl_p (fun _ => o_assign rfl) ?_
 refine wl_nil ?_
 refine rk_seq ?_
 refine rk_region ?_
 refine wl_p (fun _ => o_move rfl) ?_
 refine wl_p (fun _ => o_move rfl) ?_
 refine wl_p (fun _ => (o_slLoG (i) Tryz.underlying28 Tryz.sizeOf94 rfl rfl rfl (by omega))) ?_
 refine wl_nil ?_
 refine rk_seq ?_
 refine rk_region ?_
 refine wl_p (fun _ => o_move rfl) ?_
 refine wl_p (fun _ => o_len (t := 28) Tryz.underlying28 rfl) ?_
 refine wl_p (fun _ => o_assign rfl) ?_
 refine wl_nil ?_
 refine rk_seq ?_
 refine rk_seq ?_
 refine rk_region ?_
 refine wl_p (fun _ => o_move rfl) ?_
 refine wl_p (fun _ => o_eq rfl rfl) ?_
 refine wl_nil ?_
 refine rk_false rfl ?_
 refine rk_skip ?_
 refine rk_seq ?_
 refine rk_region ?_
 refine wl_p (fun _ => o_move rfl) ?_
 refine wl_p (fun _ => o_len (t := 28) Tryz.underlying28 rfl) ?_
 refine wl_p (fun _ => o_assign rfl) ?_
 refine wl_nil ?_
 refine rk_seq ?_
 refine rk_seq ?_
 refine rk_region ?_
 refine wl_p (fun _ => o_move rfl) ?_
 refine wl_p (fun _ => o_move rfl) ?_
 refine wl_p (fun _ => o_eq rfl rfl) ?_
 refine wl_nil ?_
 refine rk_if rfl (fun h22 => ?_) (fun h22 => ?_)
 ·have he : i = I.length := by omega
  have e : I.take i ++ [x] ++ I.drop i = I ++ [x] := by rw [he, List.take_length, List.drop_length, List.append_nil]
  rw [e]
  refine rk_seq ?_
  refine rk_region ?_
  refine wl_p (fun _ => o_move rfl) ?_
  refine wl_p (fun _ => o_move rfl) ?_
  refine wl_appS (X := gItem) Tryz.rowItem rfl hA rfl rfl hB.to_RIT rfl (by simp [gItem_tys]) gItem_one (by simp; omega) (by simp; omega) hlo ?_
  intro A25 c25 w25 f25 g25 b25 t25
  refine wl_p (fun _ => o_assign rfl) ?_
  refine wl_nil ?_
  refine ret1 rfl rfl ?_
  exact ⟨A25, c25, rfl, f25, g25, b25, t25.imp id (fun e k hk => by rw [e] at hk; injection hk with hk; omega)⟩
 have hil : i < I.length := by omega
 obtain ⟨xs, hrow, hp⟩ := OwnS.pts hA
 obtain ⟨ms, hrowB, hpB⟩ := OwnS.pts hB
 have hcm := row_max hrow
 obtain ⟨g, cur, rfl, g1, g2, hBk, g3, g4, g5⟩ := hrow.blk_ (by omega)
 obtain ⟨gb, curb, rfl, b1, b2, hBb, b3, b4, b5⟩ := hrowB.blk_ (by simp)
 have hcut : ∀ k, k ≠ c → cutA (some (⟨g, 0, none⟩ : Addr)) c 2 k = some ⟨g, k * 2, none⟩ := fun k hk => by unfold cutA; rw [if_neg (fun e => hk e.symm)]; simp [add_plain]
 have hxl : xs.length = I.length * 2 := hp.n
 have hml : ms.length = 2 := hpB.n
 have hne : gb ≠ g := by omega
 have hx1 : ∀ u ∈ xs, u.oneCell' = true := hp.one gItem_one (by decide)
 have hm1 : ∀ u ∈ ms, u.oneCell' = true := hpB.one gItem_one (by decide)
 obtain ⟨J, hJ⟩ : ∃ J, I.take i ++ [x] ++ I.drop i = J := ⟨_, rfl⟩
 have hJl : J.length = I.length + 1 := by rw [← hJ]; simp only [List.length_append, List.length_take, List.length_drop, List.length_singleton]; omega
 have hxd : (xs.drop (i * 2)).length = (I.length - i) * 2 := by rw [List.length_drop, hxl]; omega
 have hJx : (xs.take (i * 2) ++ ms ++ xs.drop (i * 2)).length = J.length * 2 := by
  simp only [List.length_append, List.length_take, hxd, hml, hxl, hJl]; omega
 rw [hJ, hJl]
 by_cases hcap : I.length + 1 ≤ c
 ·refine rk_skip ?_
  refine rk_seq ?_
  refine rk_seq ?_
  refine rk_region ?_
  refine wl_p (fun _ => o_move rfl) ?_
  refine wl_p (fun _ => o_move rfl) ?_
  refine wl_p (fun _ => o_add rfl rfl (by omega) (by omega)) ?_
  refine wl_p (fun _ => o_move rfl) ?_
  refine wl_p (fun _ => (o_capG Tryz.underlying28 rfl)) ?_
  refine wl_p (fun _ => o_gt rfl rfl) ?_
  refine wl_nil ?_
  refine rk_if rfl (fun h31 => absurd h31 (by omega)) (fun h31 => ?_)
  refine rk_skip ?_
  refine rk_seq ?_
  refine rk_region ?_
  refine wl_p (fun _ => o_move rfl) ?_
  refine wl_p (fun _ => o_move rfl) ?_
  refine wl_p (fun _ => o_move rfl) ?_
  refine wl_p (fun _ => o_add rfl rfl (by omega) (by omega)) ?_
  refine wl_p (fun _ => (o_slHiG (I.length + 1) Tryz.underlying28 Tryz.sizeOf94 rfl rfl (by omega) (by omega))) ?_
  refine wl_p (fun _ => o_assign rfl) ?_
  refine wl_nil ?_
  refine rk_seq ?_
  refine rk_seq ?_
  refine rk_region ?_
  refine wl_p (fun _ => o_move rfl) ?_
  refine wl_p (fun _ => o_move rfl) ?_
  refine wl_p (fun _ => o_move rfl) ?_
  refine wl_p (fun _ => o_move rfl) ?_
  refine wl_p (fun _ => o_add rfl rfl (by omega) (by omega)) ?_
  refine wl_p (fun _ => (o_slLoG (i + 1) Tryz.underlying28 Tryz.sizeOf94 rfl rfl (by omega) (by omega))) ?_
  rw [hcut (i + 1) (by omega)]
  refine wl_r (o_ovlI rfl rfl hBb hBk hne (by rw [g4]; show c * 2 ≠ 0; omega)) ?_
  refine wl_p (fun _ => o_not rfl) ?_
  refine wl_nil ?_
  refine rk_true rfl ?_
  refine rk_seq ?_
  refine rk_draw (id := 15) (none) [0, 0, 0, 6, 9, 0, 0, 96, 144] [0, 0, 0, 6, 15, 0, 0, 96, 255] 256 0 [(.p, 0), (.p, 1), (.p, 2), (.p, 3), (.p, 4), (.p, 5), (.p, 6), (.p, 7), (.l, 8)] (by kernel_rfl) (by kernel_rfl) (by kernel_rfl) (by kernel_rfl) (by kernel_rfl) ?_
  replace hw := hw.drew
  refine wl_p (fun _ => o_move rfl) ?_
  refine wl_p (fun _ => o_move rfl) ?_
  refine wl_p (fun _ => o_move rfl) ?_
  refine wl_p (fun _ => o_add rfl rfl (by omega) (by omega)) ?_
  refine wl_p (fun _ => (o_slLoG (i + 1) Tryz.underlying28 Tryz.sizeOf94 rfl rfl (by omega) (by omega))) ?_
  refine wl_p (fun _ => o_move rfl) ?_
  refine wl_p (fun _ => o_move rfl) ?_
  refine wl_p (fun _ => (o_slLoG (i) Tryz.underlying28 Tryz.sizeOf94 rfl rfl rfl (by omega))) ?_
  rw [hcut (i + 1) (by omega), hcut i (by omega)]
  have hmin1 : Nat.min (I.length + 1 - i) (I.length + 1 - (i + 1)) = I.length - i := by show min _ _ = _; omega
  refine wl_copyR (ms := xs.drop (i * 2)) Tryz.rowItem rfl rfl hBk.d (src_blk hBk.d g5) (by rw [hmin1, hxd]) (fun u hu => hx1 u (List.mem_of_mem_drop hu)) (by rw [hxd, g4]; show (i + 1) * 2 + (I.length - i) * 2 ≤ c * 2; omega) ?_
  intro w77 f77 g77 s77
  have fb77 : Blk w77 gb 94 curb := hBb.d.grown g77.g (fun e => by injection e with e; exact hne e)
  refine wl_nild ?_
  refine rk_seq ?_
  refine rk_region ?_
  refine wl_p (fun _ => o_move rfl) ?_
  refine wl_p (fun _ => o_move rfl) ?_
  refine wl_p (fun _ => (o_slLoG (i) Tryz.underlying28 Tryz.sizeOf94 rfl rfl rfl (by omega))) ?_
  refine wl_p (fun _ => o_move rfl) ?_
  rw [hcut i (by omega)]
  have hmin2 : Nat.min 1 (I.length + 1 - i) = 1 := by show min _ _ = _; omega
  have hms0 : ms = ms.drop 0 := rfl
  refine wl_copyR (ms := ms) Tryz.rowItem rfl rfl f77 (hms0 ▸ src_blk (k := 0) fb77 b5) (by rw [hmin2, hml]) hm1 (by rw [spl_length (by rw [hxd, g4]; show (i + 1) * 2 + (I.length - i) * 2 ≤ c * 2; omega), hml, g4]; show i * 2 + 2 ≤ c * 2; omega) ?_
  intro w82 f82 g82 s82
  refine wl_nil ?_
  refine rk_seq ?_
  refine rk_region ?_
  refine wl_p (fun _ => o_move rfl) ?_
  refine wl_p (fun _ => o_assign rfl) ?_
  refine wl_nil ?_
  refine ret1 rfl rfl ?_
  have gg : Grew w w82 94 (some g) := ⟨grownBy_trans (grownBy_trans (grownBy_drew w _) g77.g) g82.g, fun k hk => by injection hk with hk; subst hk; exact hBk.at_⟩
  refine ⟨some ⟨g, 0, none⟩, c, rfl, ?_, gg, gg.below hlo (fun k hk => by injection hk with hk; omega), .inl rfl⟩
  have hpp : Pts gItem w82 (xs.take (i * 2) ++ ms ++ xs.drop (i * 2)) J := by
   rw [← hJ]
   exact (((hp.take hi1).append hpB).append (hp.drop hi1)).ty gg (by simp [gItem_tys])
  refine hpp.own ?_
  rw [hJl]
  have hgl := f82.lt
  exact row_of_blk f82 g1 (by omega) (by rw [spl_length (by rw [spl_length (by rw [hxd, g4]; show (i + 1) * 2 + (I.length - i) * 2 ≤ c * 2; omega), hml, g4]; show i * 2 + 2 ≤ c * 2; omega), spl_length (by rw [hxd, g4]; show (i + 1) * 2 + (I.length - i) * 2 ≤ c * 2; omega), g4]) hcap hcm (by rw [hJx, hJl]; rfl) (ins_in hi1 hxl hml (by rw [g4]; show (I.length + 1) * 2 ≤ c * 2; omega) g5)
 ·refine rk_skip ?_
  refine rk_seq ?_
  refine rk_seq ?_
  refine rk_region ?_
  refine wl_p (fun _ => o_move rfl) ?_
  refine wl_p (fun _ => o_move rfl) ?_
  refine wl_p (fun _ => o_add rfl rfl (by omega) (by omega)) ?_
  refine wl_p (fun _ => o_move rfl) ?_
  refine wl_p (fun _ => (o_capG Tryz.underlying28 rfl)) ?_
  refine wl_p (fun _ => o_gt rfl rfl) ?_
  refine wl_nil ?_
  refine rk_if rfl (fun h31 => ?_) (fun h31 => h31.elim (by omega))
  refine rk_seq ?_
  refine rk_region ?_
  refine wl_p (fun _ => o_move rfl) ?_
  refine wl_p (fun _ => o_move rfl) ?_
  refine wl_p (fun _ => (o_slHiG (i) Tryz.underlying28 Tryz.sizeOf94 rfl rfl rfl (by omega))) ?_
  refine wl_p (fun _ => o_move rfl) ?_
  refine wl_p (fun _ => o_move rfl) ?_
  refine wl_p (fun _ => o_add rfl rfl (by omega) (by omega)) ?_
  refine wl_p (fun _ => o_move rfl) ?_
  refine wl_p (fun _ => o_sub rfl rfl (by omega) (by omega)) ?_
  have hxt : (xs.take (i * 2)).length = i * 2 := by rw [List.length_take, hxl]; omega
  refine wl_appzg (m := I.length + 1 - i) (ms := xs.take (i * 2)) Tryz.rowItem Tryz.underlying3 rfl rfl (by omega) hxt (fun j v hj => by
   rcases Nat.lt_or_ge j (i * 2) with h | h
   ·rw [List.getElem?_take_of_lt h] at hj
    have := src_blk (k := 0) hBk g5 j v hj
    exact this
   ·rw [List.getElem?_eq_none (by omega)] at hj; cases hj) (by omega) (by omega) (by omega) (by omega) (by omega) ?_
  intro w40 c40 zs f40 l40 n40 m40 b40 s40
  have hcut2 : ∀ k, k ≠ c40 → cutA (some (⟨w.heap.size, 0, none⟩ : Addr)) c40 2 k = some ⟨w.heap.size, k * 2, none⟩ := fun k hk => by unfold cutA; rw [if_neg (fun e => hk e.symm)]; simp [add_plain]
  have hnm : i + (I.length + 1 - i) = I.length + 1 := by omega
  rw [hnm] at n40 ⊢
  have fb40 : Blk w40 gb 94 curb := hBb.under b40
  have fk40 : Blk w40 g 94 cur := hBk.under b40
  have hgl := hBk.lt
  have hbl := hBb.lt
  refine wl_p (fun _ => o_assign rfl) ?_
  refine wl_nil ?_
  refine rk_seq ?_
  refine rk_region ?_
  refine wl_p (fun _ => o_move rfl) ?_
  refine wl_p (fun _ => o_move rfl) ?_
  refine wl_p (fun _ => (o_slLoG (i) Tryz.underlying28 Tryz.sizeOf94 rfl rfl rfl (by omega))) ?_
  refine wl_p (fun _ => o_move rfl) ?_
  rw [hcut2 i (by omega)]
  have hmin2 : Nat.min 1 (I.length + 1 - i) = 1 := by show min _ _ = _; omega
  refine wl_copyR (ms := ms) Tryz.rowItem rfl rfl f40 (src_blk (k := 0) fb40 b5) (by rw [hmin2, hml]) hm1 (by rw [hml, l40]; omega) ?_
  intro w45 f45 g45 s45
  have fk45 : Blk w45 g 94 cur := fk40.grown g45.g (fun e => by injection e with e; omega)
  refine wl_nil ?_
  refine rk_seq ?_
  refine rk_draw (id := 11) (none) [0, 0, 0, 6, 9, 0, 0, 96, 144] [0, 0, 0, 6, 15, 0, 0, 96, 255] 256 0 [(.p, 0), (.p, 1), (.p, 2), (.p, 3), (.p, 4), (.p, 5), (.p, 6), (.p, 7), (.l, 8)] (by kernel_rfl) (by kernel_rfl) (by kernel_rfl) (by kernel_rfl) (by kernel_rfl) ?_
  replace fk45 := fk45.d
  replace f45 := f45.d
  refine wl_p (fun _ => o_move rfl) ?_
  refine wl_p (fun _ => o_move rfl) ?_
  refine wl_p (fun _ => o_move rfl) ?_
  refine wl_p (fun _ => o_add rfl rfl (by omega) (by omega)) ?_
  refine wl_p (fun _ => (o_slLoG (i + 1) Tryz.underlying28 Tryz.sizeOf94 rfl rfl (by omega) (by omega))) ?_
  refine wl_p (fun _ => o_move rfl) ?_
  refine wl_p (fun _ => o_move rfl) ?_
  refine wl_p (fun _ => (o_slLoG (i) Tryz.underlying28 Tryz.sizeOf94 rfl rfl rfl (by omega))) ?_
  rw [hcut2 (i + 1) (by omega), hcut i (by omega)]
  have hmin3 : Nat.min (I.length - i) (I.length + 1 - (i + 1)) = I.length - i := by show min _ _ = _; omega
  have l45 : (spl (xs.take (i * 2) ++ zs) (i * 2) ms).length = c40 * 2 := by rw [spl_length (by rw [hml, l40]; omega), l40]
  refine wl_copyR (ms := xs.drop (i * 2)) Tryz.rowItem rfl rfl f45.d (src_blk fk45.d g5) (by rw [hmin3, hxd]) (fun u hu => hx1 u (List.mem_of_mem_drop hu)) (by rw [l45, hxd]; omega) ?_
  intro w54 f54 g54 s54
  refine wl_nild ?_
  refine rk_seq ?_
  refine rk_region ?_
  refine wl_p (fun _ => o_move rfl) ?_
  refine wl_p (fun _ => o_assign rfl) ?_
  refine wl_nil ?_
  refine ret1 rfl rfl ?_
  have z45 : w45.drew.heap.size = w45.heap.size := rfl
  have hb54 : Below w.heap.size w w54 := (b40.trans (g45.below (by omega) (fun k hk => by injection hk with hk; omega))).drew.trans (g54.below (by omega) (fun k hk => by injection hk with hk; omega))
  have gg : Grew w w54 94 (some g) := ⟨grown_of_below hb54 _, fun k hk => by injection hk with hk; subst hk; exact hBk.at_⟩
  refine ⟨some ⟨w.heap.size, 0, none⟩, c40, rfl, ?_, gg, hb54.mono hlo, .inr (fun k hk => Nat.le_of_eq (by simpa [blk] using hk))⟩
  have hpp : Pts gItem w54 (xs.take (i * 2) ++ ms ++ xs.drop (i * 2)) J := by
   rw [← hJ]
   exact (((hp.take hi1).append hpB).append (hp.drop hi1)).ty gg (by simp [gItem_tys])
  refine hpp.own ?_
  rw [hJl]
  exact row_of_blk (sz := 2) f54 hlo f54.lt (by rw [spl_length (by rw [l45, hxd]; omega), l45]) n40 m40 (by rw [hJx, hJl]) (ins_new (sz := 2) hi1 hxl hml (by rw [l40]; omega) (by rw [List.take_append_of_le_length (by omega), List.take_of_length_le (by omega)]))
theorem K_insK {A B : Option Addr} {I : List Ky} {x : Ky} {i n c q lo hi lo2 hi2 : Nat} {iv : Int} (w : World) (hA : OwnKs w lo hi A c I) (hB : OwnKs w lo2 hi2 B q [x]) (hap : hi ≤ lo2) (hn : n = I.length) (hiv : iv = (i : Int)) (hi1 : i ≤ I.length) (hl : I.length ≤ 100000) (hlo : lo ≤ w.heap.size) :
  CallsR Tryz.prog 165 [.slice A n c, .int .i64 iv, .slice B 1 q] w fun v w' => ∃ A' c', v = .slice A' (I.take i ++ [x] ++ I.drop i).length c' ∧ OwnKs w' lo w'.heap.size A' c' (I.take i ++ [x] ++ I.drop i) ∧ Grew w w' 42 (blk A) ∧ Below lo w w' ∧ (blk A' = blk A ∨ ∀ k, blk A' = some k → w.heap.size ≤ k) := by
 subst hn; subst hiv
 have hAc := hA.cap
 refine callsR Tryz.func165 rfl rfl (by kernel_rfl) rfl ?_
 have hw := Below.refl w.heap.size w
 refine rk_seq ?_
 refine rk_region ?_
 refine wl_p (fun _ => o_assign rfl) ?_
 refine wl_nil ?_
 refine rk_seq ?_
 refine rk_region ?_
 refine wl_p (fun _ => o_move rfl) ?_
 refine wl_p (fun _ => o_move rfl) ?_
 refine wl_p (fun _ => (o_slLoG (i) Tryz.underlying29 Tryz.sizeOf42 rfl rfl rfl (by omega))) ?_
 refine wl_nil ?_
 refine rk_seq ?_
 refine rk_region ?_
 refine wl_p (fun _ => o_move rfl) ?_
 refine wl_p (fun _ => o_len (t := 29) Tryz.underlying29 rfl) ?_
 refine wl_p (fun _ => o_assign rfl) ?_
 refine wl_nil ?_
 refine rk_seq ?_
 refine rk_seq ?_
 refine rk_region ?_
 refine wl_p (fun _ => o_move rfl) ?_
 refine wl_p (fun _ => o_eq rfl rfl) ?_
 refine wl_nil ?_
 refine rk_false rfl ?_
 refine rk_skip ?_
 refine rk_seq ?_
 refine rk_region ?_
 refine wl_p (fun _ => o_move rfl) ?_
 refine wl_p (fun _ => o_len (t := 29) Tryz.underlying29 rfl) ?_
 refine wl_p (fun _ => o_assign rfl) ?_
 refine wl_nil ?_
 refine rk_seq ?_
 refine rk_seq ?_
 refine rk_region ?_
 refine wl_p (fun _ => o_move rfl) ?_
 refine wl_p (fun _ => o_move rfl) ?_
 refine wl_p (fun _ => o_eq rfl rfl) ?_
 refine wl_nil ?_
 refine rk_if rfl (fun h22 => ?_) (fun h22 => ?_)
 ·have he : i = I.length := by omega
  have e : I.take i ++ [x] ++ I.drop i = I ++ [x] := by rw [he, List.take_length, List.drop_length, List.append_nil]
  rw [e]
  refine rk_seq ?_
  refine rk_region ?_
  refine wl_p (fun _ => o_move rfl) ?_
  refine wl_p (fun _ => o_move rfl) ?_
  refine wl_appS (X := gArr 32) Tryz.rowKs rfl hA rfl rfl hB.to_RKT rfl (by simp [gArr_tys]) gKey_one (by simp; omega) (by simp; omega) hlo ?_
  intro A25 c25 w25 f25 g25 b25 t25
  refine wl_p (fun _ => o_assign rfl) ?_
  refine wl_nil ?_
  refine ret1 rfl rfl ?_
  exact ⟨A25, c25, rfl, f25, g25, b25, t25.imp id (fun e k hk => by rw [e] at hk; injection hk with hk; omega)⟩
 have hil : i < I.length := by omega
 obtain ⟨xs, hrow, hp⟩ := OwnS.pts hA
 obtain ⟨ms, hrowB, hpB⟩ := OwnS.pts hB
 have hcm := row_max hrow
 obtain ⟨g, cur, rfl, g1, g2, hBk, g3, g4, g5⟩ := hrow.blk_ (by omega)
 obtain ⟨gb, curb, rfl, b1, b2, hBb, b3, b4, b5⟩ := hrowB.blk_ (by simp)
 have hcut : ∀ k, k ≠ c → cutA (some (⟨g, 0, none⟩ : Addr)) c 32 k = some ⟨g, k * 32, none⟩ := fun k hk => by unfold cutA; rw [if_neg (fun e => hk e.symm)]; simp [add_plain]
 have hxl : xs.length = I.length * 32 := hp.n
 have hml : ms.length = 32 := hpB.n
 have hne : gb ≠ g := by omega
 have hx1 : ∀ u ∈ xs, u.oneCell' = true := hp.one gKey_one (by decide)
 have hm1 : ∀ u ∈ ms, u.oneCell' = true := hpB.one gKey_one (by decide)
 obtain ⟨J, hJ⟩ : ∃ J, I.take i ++ [x] ++ I.drop i = J := ⟨_, rfl⟩
 have hJl : J.length = I.length + 1 := by rw [← hJ]; simp only [List.length_append, List.length_take, List.length_drop, List.length_singleton]; omega
 have hxd : (xs.drop (i * 32)).length = (I.length - i) * 32 := by rw [List.length_drop, hxl]; omega
 have hJx : (xs.take (i * 32) ++ ms ++ xs.drop (i * 32)).length = J.length * 32 := by
  simp only [List.length_append, List.length_take, hxd, hml, hxl, hJl]; omega
 rw [hJ, hJl]
 by_cases hcap : I.length + 1 ≤ c
 ·refine rk_skip ?_
  refine rk_seq ?_
  refine rk_seq ?_
  refine rk_region ?_
  refine wl_p (fun _ => o_move rfl) ?_
  refine wl_p (fun _ => o_move rfl) ?_
  refine wl_p (fun _ => o_add rfl rfl (by omega) (by omega)) ?_
  refine wl_p (fun _ => o_move rfl) ?_
  refine wl_p (fun _ => (o_capG Tryz.underlying29 rfl)) ?_
  refine wl_p (fun _ => o_gt rfl rfl) ?_
  refine wl_nil ?_
  refine rk_if rfl (fun h31 => absurd h31 (by omega)) (fun h31 => ?_)
  refine rk_skip ?_
  refine rk_seq ?_
  refine rk_region ?_
  refine wl_p (fun _ => o_move rfl) ?_
  refine wl_p (fun _ => o_move rfl) ?_
  refine wl_p (fun _ => o_move rfl) ?_
  refine wl_p (fun _ => o_add rfl rfl (by omega) (by omega)) ?_
  refine wl_p (fun _ => (o_slHiG (I.length + 1) Tryz.underlying29 Tryz.sizeOf42 rfl rfl (by omega) (by omega))) ?_
  refine wl_p (fun _ => o_assign rfl) ?_
  refine wl_nil ?_
  refine rk_seq ?_
  refine rk_seq ?_
  refine rk_region ?_
  refine wl_p (fun _ => o_move rfl) ?_
  refine wl_p (fun _ => o_move rfl) ?_
  refine wl_p (fun _ => o_move rfl) ?_
  refine wl_p (fun _ => o_move rfl) ?_
  refine wl_p (fun _ => o_add rfl rfl (by omega) (by omega)) ?_
  refine wl_p (fun _ => (o_slLoG (i + 1) Tryz.underlying29 Tryz.sizeOf42 rfl rfl (by omega) (by omega))) ?_
  rw [hcut (i + 1) (by omega)]
  refine wl_r (o_ovlK rfl rfl hBb hBk hne (by rw [g4]; show c * 32 ≠ 0; omega)) ?_
  refine wl_p (fun _ => o_not rfl) ?_
  refine wl_nil ?_
  refine rk_true rfl ?_
  refine rk_seq ?_
  refine rk_draw (id := 15) (none) [0, 0, 0, 6, 9, 0, 0, 96, 144] [0, 0, 0, 6, 15, 0, 0, 96, 255] 256 0 [(.p, 0), (.p, 1), (.p, 2), (.p, 3), (.p, 4), (.p, 5), (.p, 6), (.p, 7), (.l, 8)] (by kernel_rfl) (by kernel_rfl) (by kernel_rfl) (by kernel_rfl) (by kernel_rfl) ?_
  replace hw := hw.drew
  refine wl_p (fun _ => o_move rfl) ?_
  refine wl_p (fun _ => o_move rfl) ?_
  refine wl_p (fun _ => o_move rfl) ?_
  refine wl_p (fun _ => o_add rfl rfl (by omega) (by omega)) ?_
  refine wl_p (fun _ => (o_slLoG (i + 1) Tryz.underlying29 Tryz.sizeOf42 rfl rfl (by omega) (by omega))) ?_
  refine wl_p (fun _ => o_move rfl) ?_
  refine wl_p (fun _ => o_move rfl) ?_
  refine wl_p (fun _ => (o_slLoG (i) Tryz.underlying29 Tryz.sizeOf42 rfl rfl rfl (by omega))) ?_
  rw [hcut (i + 1) (by omega), hcut i (by omega)]
  have hmin1 : Nat.min (I.length + 1 - i) (I.length + 1 - (i + 1)) = I.length - i := by show min _ _ = _; omega
  refine wl_copyR (ms := xs.drop (i * 32)) Tryz.rowKs rfl rfl hBk.d (src_blk hBk.d g5) (by rw [hmin1, hxd]) (fun u hu => hx1 u (List.mem_of_mem_drop hu)) (by rw [hxd, g4]; show (i + 1) * 32 + (I.length - i) * 32 ≤ c * 32; omega) ?_
  intro w77 f77 g77 s77
  have fb77 : Blk w77 gb 42 curb := hBb.d.grown g77.g (fun e => by injection e with e; exact hne e)
  refine wl_nild ?_
  refine rk_seq ?_
  refine rk_region ?_
  refine wl_p (fun _ => o_move rfl) ?_
  refine wl_p (fun _ => o_move rfl) ?_
  refine wl_p (fun _ => (o_slLoG (i) Tryz.underlying29 Tryz.sizeOf42 rfl rfl rfl (by omega))) ?_
  refine wl_p (fun _ => o_move rfl) ?_
  rw [hcut i (by omega)]
  have hmin2 : Nat.min 1 (I.length + 1 - i) = 1 := by show min _ _ = _; omega
  have hms0 : ms = ms.drop 0 := rfl
  refine wl_copyR (ms := ms) Tryz.rowKs rfl rfl f77 (hms0 ▸ src_blk (k := 0) fb77 b5) (by rw [hmin2, hml]) hm1 (by rw [spl_length (by rw [hxd, g4]; show (i + 1) * 32 + (I.length - i) * 32 ≤ c * 32; omega), hml, g4]; show i * 32 + 32 ≤ c * 32; omega) ?_
  intro w82 f82 g82 s82
  refine wl_nil ?_
  refine rk_seq ?_
  refine rk_region ?_
  refine wl_p (fun _ => o_move rfl) ?_
  refine wl_p (fun _ => o_assign rfl) ?_
  refine wl_nil ?_
  refine ret1 rfl rfl ?_
  have gg : Grew w w82 42 (some g) := ⟨grownBy_trans (grownBy_trans (grownBy_drew w _) g77.g) g82.g, fun k hk => by injection hk with hk; subst hk; exact hBk.at_⟩
  refine ⟨some ⟨g, 0, none⟩, c, rfl, ?_, gg, gg.below hlo (fun k hk => by injection hk with hk; omega), .inl rfl⟩
  have hpp : Pts (gArr 32) w82 (xs.take (i * 32) ++ ms ++ xs.drop (i * 32)) J := by
   rw [← hJ]
   exact (((hp.take hi1).append hpB).append (hp.drop hi1)).ty gg (by simp [gArr_tys])
  refine hpp.own ?_
  rw [hJl]
  have hgl := f82.lt
  exact row_of_blk f82 g1 (by omega) (by rw [spl_length (by rw [spl_length (by rw [hxd, g4]; show (i + 1) * 32 + (I.length - i) * 32 ≤ c * 32; omega), hml, g4]; show i * 32 + 32 ≤ c * 32; omega), spl_length (by rw [hxd, g4]; show (i + 1) * 32 + (I.length - i) * 32 ≤ c * 32; omega), g4]) hcap hcm (by rw [hJx, hJl]; rfl) (ins_in hi1 hxl hml (by rw [g4]; show (I.length + 1) * 32 ≤ c * 32; omega) g5)
 ·refine rk_skip ?_
  refine rk_seq ?_
  refine rk_seq ?_
  refine rk_region ?_
  refine wl_p (fun _ => o_move rfl) ?_
  refine wl_p (fun _ => o_move rfl) ?_
  refine wl_p (fun _ => o_add rfl rfl (by omega) (by omega)) ?_
  refine wl_p (fun _ => o_move rfl) ?_
  refine wl_p (fun _ => (o_capG Tryz.underlying29 rfl)) ?_
  refine wl_p (fun _ => o_gt rfl rfl) ?_
  refine wl_nil ?_
  refine rk_if rfl (fun h31 => ?_) (fun h31 => h31.elim (by omega))
  refine rk_seq ?_
  refine rk_region ?_
  refine wl_p (fun _ => o_move rfl) ?_
  refine wl_p (fun _ => o_move rfl) ?_
  refine wl_p (fun _ => (o_slHiG (i) Tryz.underlying29 Tryz.sizeOf42 rfl rfl rfl (by omega))) ?_
  refine wl_p (fun _ => o_move rfl) ?_
  refine wl_p (fun _ => o_move rfl) ?_
  refine wl_p (fun _ => o_add rfl rfl (by omega) (by omega)) ?_
  refine wl_p (fun _ => o_move rfl) ?_
  refine wl_p (fun _ => o_sub rfl rfl (by omega) (by omega)) ?_
  have hxt : (xs.take (i * 32)).length = i * 32 := by rw [List.length_take, hxl]; omega
  refine wl_appzg (m := I.length + 1 - i) (ms := xs.take (i * 32)) Tryz.rowKs Tryz.underlying3 rfl rfl (by omega) hxt (fun j v hj => by
   rcases Nat.lt_or_ge j (i * 32) with h | h
   ·rw [List.getElem?_take_of_lt h] at hj
    have := src_blk (k := 0) hBk g5 j v hj
    exact this
   ·rw [List.getElem?_eq_none (by omega)] at hj; cases hj) (by omega) (by omega) (by omega) (by omega) (by omega) ?_
  intro w40 c40 zs f40 l40 n40 m40 b40 s40
  have hcut2 : ∀ k, k ≠ c40 → cutA (some (⟨w.heap.size, 0, none⟩ : Addr)) c40 32 k = some ⟨w.heap.size, k * 32, none⟩ := fun k hk => by unfold cutA; rw [if_neg (fun e => hk e.symm)]; simp [add_plain]
  have hnm : i + (I.length + 1 - i) = I.length + 1 := by omega
  rw [hnm] at n40 ⊢
  have fb40 : Blk w40 gb 42 curb := hBb.under b40
  have fk40 : Blk w40 g 42 cur := hBk.under b40
  have hgl := hBk.lt
  have hbl := hBb.lt
  refine wl_p (fun _ => o_assign rfl) ?_
  refine wl_nil ?_
  refine rk_seq ?_
  refine rk_region ?_
  refine wl_p (fun _ => o_move rfl) ?_
  refine wl_p (fun _ => o_move rfl) ?_
  refine wl_p (fun _ => (o_slLoG (i) Tryz.underlying29 Tryz.sizeOf42 rfl rfl rfl (by omega))) ?_
  refine wl_p (fun _ => o_move rfl) ?_
  rw [hcut2 i (by omega)]
  have hmin2 : Nat.min 1 (I.length + 1 - i) = 1 := by show min _ _ = _; omega
  refine wl_copyR (ms := ms) Tryz.rowKs rfl rfl f40 (src_blk (k := 0) fb40 b5) (by rw [hmin2, hml]) hm1 (by rw [hml, l40]; omega) ?_
  intro w45 f45 g45 s45
  have fk45 : Blk w45 g 42 cur := fk40.grown g45.g (fun e => by injection e with e; omega)
  refine wl_nil ?_
  refine rk_seq ?_
  refine rk_draw (id := 11) (none) [0, 0, 0, 6, 9, 0, 0, 96, 144] [0, 0, 0, 6, 15, 0, 0, 96, 255] 256 0 [(.p, 0), (.p, 1), (.p, 2), (.p, 3), (.p, 4), (.p, 5), (.p, 6), (.p, 7), (.l, 8)] (by kernel_rfl) (by kernel_rfl) (by kernel_rfl) (by kernel_rfl) (by kernel_rfl) ?_
  replace fk45 := fk45.d
  replace f45 := f45.d
  refine wl_p (fun _ => o_move rfl) ?_
  refine wl_p (fun _ => o_move rfl) ?_
  refine wl_p (fun _ => o_move rfl) ?_
  refine wl_p (fun _ => o_add rfl rfl (by omega) (by omega)) ?_
  refine wl_p (fun _ => (o_slLoG (i + 1) Tryz.underlying29 Tryz.sizeOf42 rfl rfl (by omega) (by omega))) ?_
  refine wl_p (fun _ => o_move rfl) ?_
  refine wl_p (fun _ => o_move rfl) ?_
  refine wl_p (fun _ => (o_slLoG (i) Tryz.underlying29 Tryz.sizeOf42 rfl rfl rfl (by omega))) ?_
  rw [hcut2 (i + 1) (by omega), hcut i (by omega)]
  have hmin3 : Nat.min (I.length - i) (I.length + 1 - (i + 1)) = I.length - i := by show min _ _ = _; omega
  have l45 : (spl (xs.take (i * 32) ++ zs) (i * 32) ms).length = c40 * 32 := by rw [spl_length (by rw [hml, l40]; omega), l40]
  refine wl_copyR (ms := xs.drop (i * 32)) Tryz.rowKs rfl rfl f45.d (src_blk fk45.d g5) (by rw [hmin3, hxd]) (fun u hu => hx1 u (List.mem_of_mem_drop hu)) (by rw [l45, hxd]; omega) ?_
  intro w54 f54 g54 s54
  refine wl_nild ?_
  refine rk_seq ?_
  refine rk_region ?_
  refine wl_p (fun _ => o_move rfl) ?_
  refine wl_p (fun _ => o_assign rfl) ?_
  refine wl_nil ?_
  refine ret1 rfl rfl ?_
  have z45 : w45.drew.heap.size = w45.heap.size := rfl
  have hb54 : Below w.heap.size w w54 := (b40.trans (g45.below (by omega) (fun k hk => by injection hk with hk; omega))).drew.trans (g54.below (by omega) (fun k hk => by injection hk with hk; omega))
  have gg : Grew w w54 42 (some g) := ⟨grown_of_below hb54 _, fun k hk => by injection hk with hk; subst hk; exact hBk.at_⟩
  refine ⟨some ⟨w.heap.size, 0, none⟩, c40, rfl, ?_, gg, hb54.mono hlo, .inr (fun k hk => Nat.le_of_eq (by simpa [blk] using hk))⟩
  have hpp : Pts (gArr 32) w54 (xs.take (i * 32) ++ ms ++ xs.drop (i * 32)) J := by
   rw [← hJ]
   exact (((hp.take hi1).append hpB).append (hp.drop hi1)).ty gg (by simp [gArr_tys])
  refine hpp.own ?_
  rw [hJl]
  exact row_of_blk (sz := 32) f54 hlo f54.lt (by rw [spl_length (by rw [l45, hxd]; omega), l45]) n40 m40 (by rw [hJx, hJl]) (ins_new (sz := 32) hi1 hxl hml (by rw [l40]; omega) (by rw [List.take_append_of_le_length (by omega), List.take_of_length_le (by omega)]))
end Go.Proofs.YtahkeoegbjopfaaGreat
/-
  Walks of package ops: slices.Delete of one item, of one key.
-/
namespace Go.Proofs.YtahkeoegbjopfaaGreat
set_option maxRecDepth 100000
open Go.RowKit
def cutI {α : Type} (L : List α) (i : Nat) : List α := L.take i ++ L.drop (i + 1)
theorem K_delI {lo hi i : Nat} {A : Option Addr} {L : List (By × By)} {n c : Nat} {v1 v2 : Int} (w : World) (hown : OwnI w lo hi A c L) (hn : n = L.length) (h1 : v1 = (i : Int)) (h2 : v2 = (i : Int) + 1) (hlen : L.length ≤ 100000) (hil : i < L.length) (hB : lo ≤ w.heap.size) :
  CallsR Tryz.prog 122 [.slice A n c, .int .i64 v1, .int .i64 v2] w fun v w' => v = .slice A (cutI L i).length c ∧ OwnI w' lo hi A c (cutI L i) ∧ Grew w w' 94 (blk A) ∧ Below lo w w' := by
 subst hn; subst h1; subst h2
 have hlt : ∀ k, blk A = some k → lo ≤ k ∧ k < w.heap.size := by obtain ⟨xs, h1, _⟩ := hown; exact RowH.lt h1
 have hty : ∀ k, blk A = some k → TyAt w k 94 := by obtain ⟨xs, h1, _⟩ := hown; exact RowH.ty h1
 refine callsR Tryz.func122 rfl rfl (by kernel_rfl) rfl ?_
 have hw := Below.refl w.heap.size w
 have hcap := hown.cap
 refine rk_seq ?_
 refine rk_region ?_
 refine wl_p (fun _ => o_assign rfl) ?_
 refine wl_nil ?_
 refine rk_seq ?_
 refine rk_region ?_
 refine wl_p (fun _ => o_move rfl) ?_
 refine wl_p (fun _ => o_move rfl) ?_
 refine wl_p (fun _ => o_move rfl) ?_
 refine wl_p (fun _ => o_move rfl) ?_
 refine wl_p (fun _ => o_len (t := 28) Tryz.underlying28 rfl) ?_
 refine wl_p (fun _ => (o_sl3G (i) (i + 1) (L.length) Tryz.underlying28 Tryz.sizeOf94 rfl rfl rfl rfl rfl (by omega) rfl (by omega) (by omega) (by omega))) ?_
 refine wl_nil ?_
 refine rk_seq ?_
 refine rk_seq ?_
 refine rk_region ?_
 refine wl_p (fun _ => o_move rfl) ?_
 refine wl_p (fun _ => o_move rfl) ?_
 refine wl_p (fun _ => o_eq rfl rfl) ?_
 refine wl_nil ?_
 refine rk_if rfl (fun h16 => absurd h16 (by omega)) (fun h16 => ?_)
 refine rk_skip ?_
 refine rk_seq ?_
 refine rk_region ?_
 refine wl_p (fun _ => o_move rfl) ?_
 refine wl_p (fun _ => o_len (t := 28) Tryz.underlying28 rfl) ?_
 refine wl_p (fun _ => o_assign rfl) ?_
 refine wl_nil ?_
 refine rk_seq ?_
 refine rk_draw (id := 5) (none) [0, 0, 3, 0, 0, 24, 36, 127] [0, 0, 3, 0, 0, 24, 63, 127] 64 0 [(.p, 0), (.p, 1), (.p, 2), (.p, 3), (.p, 4), (.p, 5), (.l, 6), (.p, 7)] (by kernel_rfl) (by kernel_rfl) (by kernel_rfl) (by kernel_rfl) (by kernel_rfl) ?_
 replace hw := hw.drew
 refine wl_p (fun _ => o_move rfl) ?_
 refine wl_p (fun _ => o_move rfl) ?_
 refine wl_p (fun _ => (o_slHiG (i) Tryz.underlying28 Tryz.sizeOf94 rfl rfl rfl (by omega))) ?_
 refine wl_p (fun _ => o_move rfl) ?_
 refine wl_p (fun _ => o_move rfl) ?_
 refine wl_p (fun _ => (o_slLoG (i + 1) Tryz.underlying28 Tryz.sizeOf94 rfl rfl (by omega) (by omega))) ?_
 have ho := hown.d
 have e1 : (L.take i).length = i := by rw [List.length_take]; omega
 have e2 : (L.drop (i + 1)).length = L.length - (i + 1) := List.length_drop
 have e3 : (cutI L i).length = L.length - 1 := by unfold cutI; rw [List.length_append]; omega
 refine wl_appFit (X := gItem) Tryz.rowItem rfl (OwnS.take ho i (by omega)) e1.symm rfl (OwnS.drop ho (i + 1) (by omega)) e2.symm (by simp [gItem_tys]) gItem_one (by omega) ?_
 intro w26 f26 g26
 have hwl := (Below.refl lo w).drew.trans (g26.below hB (fun k hk => (hlt k hk).1))
 rw [show L.take i ++ L.drop (i + 1) = cutI L i from rfl] at f26 ⊢
 have hgr := grownBy_trans (grownBy_drew w (blk A)) g26.g
 clear hw hown ho
 refine wl_p (fun _ => o_assign rfl) ?_
 refine wl_nild ?_
 refine rk_seq ?_
 refine rk_region ?_
 refine wl_p (fun _ => o_move rfl) ?_
 refine wl_p (fun _ => o_move rfl) ?_
 refine wl_p (fun _ => o_len (t := 28) Tryz.underlying28 rfl) ?_
 refine wl_p (fun _ => o_move rfl) ?_
 refine wl_p (fun _ => (o_slBothG ((cutI L i).length) (L.length) Tryz.underlying28 Tryz.sizeOf94 rfl rfl rfl rfl rfl (by omega) (by omega))) ?_
 refine wl_clearS (X := gItem) Tryz.rowItem Tryz.zeroValue94 (by kernel_rfl) rfl f26 (Nat.le_refl _) (by omega) (by simp [gItem_tys]) ?_
 intro w31 f31 g31
 replace hwl := hwl.trans (g31.below (by have := hwl.size; omega) (fun k hk => (hlt k hk).1))
 replace hgr := grownBy_trans hgr g31.g
 clear f26
 refine wl_nil ?_
 refine rk_seq ?_
 refine rk_region ?_
 refine wl_p (fun _ => o_move rfl) ?_
 refine wl_p (fun _ => o_assign rfl) ?_
 refine wl_nil ?_
 refine ret1 rfl rfl ?_
 exact ⟨rfl, f31, ⟨hgr, hty⟩, hwl⟩
theorem K_delK {lo hi i : Nat} {A : Option Addr} {L : List Ky} {n c : Nat} {v1 v2 : Int} (w : World) (hown : OwnKs w lo hi A c L) (hn : n = L.length) (h1 : v1 = (i : Int)) (h2 : v2 = (i : Int) + 1) (hlen : L.length ≤ 100000) (hil : i < L.length) (hB : lo ≤ w.heap.size) :
  CallsR Tryz.prog 166 [.slice A n c, .int .i64 v1, .int .i64 v2] w fun v w' => v = .slice A (cutI L i).length c ∧ OwnKs w' lo hi A c (cutI L i) ∧ Grew w w' 42 (blk A) ∧ Below lo w w' := by
 subst hn; subst h1; subst h2
 have hlt : ∀ k, blk A = some k → lo ≤ k ∧ k < w.heap.size := by obtain ⟨xs, h1, _⟩ := hown; exact RowH.lt h1
 have hty : ∀ k, blk A = some k → TyAt w k 42 := by obtain ⟨xs, h1, _⟩ := hown; exact RowH.ty h1
 refine callsR Tryz.func166 rfl rfl (by kernel_rfl) rfl ?_
 have hw := Below.refl w.heap.size w
 have hcap := hown.cap
 refine rk_seq ?_
 refine rk_region ?_
 refine wl_p (fun _ => o_assign rfl) ?_
 refine wl_nil ?_
 refine rk_seq ?_
 refine rk_region ?_
 refine wl_p (fun _ => o_move rfl) ?_
 refine wl_p (fun _ => o_move rfl) ?_
 refine wl_p (fun _ => o_move rfl) ?_
 refine wl_p (fun _ => o_move rfl) ?_
 refine wl_p (fun _ => o_len (t := 29) Tryz.underlying29 rfl) ?_
 refine wl_p (fun _ => (o_sl3G (i) (i + 1) (L.length) Tryz.underlying29 Tryz.sizeOf42 rfl rfl rfl rfl rfl (by omega) rfl (by omega) (by omega) (by omega))) ?_
 refine wl_nil ?_
 refine rk_seq ?_
 refine rk_seq ?_
 refine rk_region ?_
 refine wl_p (fun _ => o_move rfl) ?_
 refine wl_p (fun _ => o_move rfl) ?_
 refine wl_p (fun _ => o_eq rfl rfl) ?_
 refine wl_nil ?_
 refine rk_if rfl (fun h16 => absurd h16 (by omega)) (fun h16 => ?_)
 refine rk_skip ?_
 refine rk_seq ?_
 refine rk_region ?_
 refine wl_p (fun _ => o_move rfl) ?_
 refine wl_p (fun _ => o_len (t := 29) Tryz.underlying29 rfl) ?_
 refine wl_p (fun _ => o_assign rfl) ?_
 refine wl_nil ?_
 refine rk_seq ?_
 refine rk_draw (id := 5) (none) [0, 0, 3, 0, 0, 24, 36, 127] [0, 0, 3, 0, 0, 24, 63, 127] 64 0 [(.p, 0), (.p, 1), (.p, 2), (.p, 3), (.p, 4), (.p, 5), (.l, 6), (.p, 7)] (by kernel_rfl) (by kernel_rfl) (by kernel_rfl) (by kernel_rfl) (by kernel_rfl) ?_
 replace hw := hw.drew
 refine wl_p (fun _ => o_move rfl) ?_
 refine wl_p (fun _ => o_move rfl) ?_
 refine wl_p (fun _ => (o_slHiG (i) Tryz.underlying29 Tryz.sizeOf42 rfl rfl rfl (by omega))) ?_
 refine wl_p (fun _ => o_move rfl) ?_
 refine wl_p (fun _ => o_move rfl) ?_
 refine wl_p (fun _ => (o_slLoG (i + 1) Tryz.underlying29 Tryz.sizeOf42 rfl rfl (by omega) (by omega))) ?_
 have ho := hown.d
 have e1 : (L.take i).length = i := by rw [List.length_take]; omega
 have e2 : (L.drop (i + 1)).length = L.length - (i + 1) := List.length_drop
 have e3 : (cutI L i).length = L.length - 1 := by unfold cutI; rw [List.length_append]; omega
 refine wl_appFit (X := gArr 32) Tryz.rowKs rfl (OwnS.take ho i (by omega)) e1.symm rfl (OwnS.drop ho (i + 1) (by omega)) e2.symm (by simp [gArr_tys]) gKey_one (by omega) ?_
 intro w26 f26 g26
 have hwl := (Below.refl lo w).drew.trans (g26.below hB (fun k hk => (hlt k hk).1))
 rw [show L.take i ++ L.drop (i + 1) = cutI L i from rfl] at f26 ⊢
 have hgr := grownBy_trans (grownBy_drew w (blk A)) g26.g
 clear hw hown ho
 refine wl_p (fun _ => o_assign rfl) ?_
 refine wl_nild ?_
 refine rk_seq ?_
 refine rk_region ?_
 refine wl_p (fun _ => o_move rfl) ?_
 refine wl_p (fun _ => o_move rfl) ?_
 refine wl_p (fun _ => o_len (t := 29) Tryz.underlying29 rfl) ?_
 refine wl_p (fun _ => o_move rfl) ?_
 refine wl_p (fun _ => (o_slBothG ((cutI L i).length) (L.length) Tryz.underlying29 Tryz.sizeOf42 rfl rfl rfl rfl rfl (by omega) (by omega))) ?_
 refine wl_clearS (X := gArr 32) Tryz.rowKs Tryz.zeroValue42 (by kernel_rfl) rfl f26 (Nat.le_refl _) (by omega) (by simp [gArr_tys]) ?_
 intro w31 f31 g31
 replace hwl := hwl.trans (g31.below (by have := hwl.size; omega) (fun k hk => (hlt k hk).1))
 replace hgr := grownBy_trans hgr g31.g
 clear f26
 refine wl_nil ?_
 refine rk_seq ?_
 refine rk_region ?_
 refine wl_p (fun _ => o_move rfl) ?_
 refine wl_p (fun _ => o_assign rfl) ?_
 refine wl_nil ?_
 refine ret1 rfl rfl ?_
 exact ⟨rfl, f31, ⟨hgr, hty⟩, hwl⟩
end Go.Proofs.YtahkeoegbjopfaaGreat
/-
  Walks of package ops: what an op does to a state.
-/
namespace Go.Proofs.YtahkeoegbjopfaaGreat
set_option maxRecDepth 100000
open Go.RowKit
def addS (L : List Ky) (u : Ky) (most : Nat) : List Ky × Bool :=
 if u ∈ L ∨ most ≤ L.length then (L, false) else (L.take (low (L.map Subtype.val) u.1) ++ [u] ++ L.drop (low (L.map Subtype.val) u.1), true)
def dropS (L : List Ky) (u : Ky) (least : Nat) : List Ky × Bool :=
 if u ∉ L ∨ L.length ≤ least then (L, false) else (cutI L (low (L.map Subtype.val) u.1), true)
def putS (I : List (By × By)) (p q : By) : List (By × By) × Bool :=
 if p ∈ I.map Prod.fst then (I.set (low (I.map Prod.fst) p) (p, q), true)
 else if 1024 ≤ I.length then (I, false) else (I.take (low (I.map Prod.fst) p) ++ [(p, q)] ++ I.drop (low (I.map Prod.fst) p), true)
def delS (I : List (By × By)) (p : By) : List (By × By) × Bool :=
 if p ∈ I.map Prod.fst then (cutI I (low (I.map Prod.fst) p), true) else (I, false)
def doS (k : Int) (S : Stt) (p q : By) (u : Ky) : Stt × Bool :=
 if k = 1 then (((putS S.1 p q).1, S.2), (putS S.1 p q).2)
 else if k = 2 then (((delS S.1 p).1, S.2), (delS S.1 p).2)
 else if k = 3 then ((S.1, (addS S.2.1 u 16).1, S.2.2), (addS S.2.1 u 16).2)
 else if k = 4 then ((S.1, (dropS S.2.1 u 0).1, S.2.2), (dropS S.2.1 u 0).2)
 else if k = 5 then ((S.1, S.2.1, (addS S.2.2 u 16).1), (addS S.2.2 u 16).2)
 else ((S.1, S.2.1, (dropS S.2.2 u 1).1), (dropS S.2.2 u 1).2)
theorem RowH.rerange {w : World} {lo hi lo' hi' sz n c : Nat} {e : TypeId} {A : Option Addr} {xs : List Value} (h : RowH w lo hi e sz A n c xs) (hr : ∀ k, blk A = some k → lo' ≤ k ∧ k < hi') : RowH w lo' hi' e sz A n c xs :=
 ⟨⟨h.o.1, by
  rcases h.o.2 with h3 | ⟨g, cap, cur, h3, h4, h5⟩
  ·exact .inl h3
  ·refine .inr ⟨g, cap, cur, h3, ?_, h5⟩
   injection h3 with e1
   exact (hr g (by rw [e1]; rfl)).1⟩, fun k hk => (hr k hk).2⟩
theorem OwnKs.rerange {w : World} {lo hi lo' hi' c : Nat} {A : Option Addr} {L : List Ky} (h : OwnKs w lo hi A c L) (hr : ∀ k, blk A = some k → lo' ≤ k ∧ k < hi') : OwnKs w lo' hi' A c L := by obtain ⟨xs, h1, h2⟩ := h; exact ⟨xs, h1.rerange hr, h2⟩
structure StAt (w : World) (B g : Nat) (S : Stt) : Prop where
 ex : ∃ (A : Option Addr) (c : Nat) (A2 : Option Addr) (c2 : Nat) (A3 : Option Addr) (c3 : Nat), Blk w g 31 [.slice A S.1.length c, .slice A2 S.2.1.length c2, .slice A3 S.2.2.length c3] ∧ OwnI w B w.heap.size A c S.1 ∧ OwnKs w B w.heap.size A2 c2 S.2.1 ∧ OwnKs w B w.heap.size A3 c3 S.2.2 ∧ (∀ k, blk A2 = some k → blk A3 ≠ some k) ∧ B ≤ w.heap.size
structure StCh (B g : Nat) (w w' : World) : Prop where
 ex : ∃ w1 w2 r1 r2, Grew w w1 94 r1 ∧ Grew w1 w2 42 r2 ∧ Grew w2 w' 31 (some g) ∧ (∀ k, r1 = some k → B ≤ k) ∧ ∀ k, r2 = some k → B ≤ k
theorem Grew.of_below {w w' : World} {e : TypeId} {g : Nat} (h : Below w.heap.size w w') (ht : TyAt w g e) : Grew w w' e (some g) := ⟨grown_of_below h _, fun k hk => by injection hk with hk; subst hk; exact ht⟩
theorem Grew.none_ {w w' : World} {e : TypeId} (h : Below w.heap.size w w') : Grew w w' e none := ⟨grown_of_below h _, fun k hk => by cases hk⟩
theorem Grew.after {w w1 w' : World} {e : TypeId} {row : Option Nat} (h : Below w.heap.size w w1) (k : Grew w1 w' e row) (ht : ∀ b, row = some b → TyAt w b e) : Grew w w' e row := ⟨grownBy_trans (grown_of_below h _) k.g, ht⟩
theorem OwnI.ty {w : World} {lo hi c : Nat} {A : Option Addr} {L : List (By × By)} (h : OwnI w lo hi A c L) : ∀ k, blk A = some k → TyAt w k 94 := by obtain ⟨xs, h1, _⟩ := h; exact RowH.ty h1
theorem OwnI.rng {w : World} {lo hi c : Nat} {A : Option Addr} {L : List (By × By)} (h : OwnI w lo hi A c L) : ∀ k, blk A = some k → lo ≤ k ∧ k < hi := by obtain ⟨xs, h1, _⟩ := h; exact fun k hk => ⟨(RowH.lt h1 k hk).1, h1.hi k hk⟩
theorem OwnKs.rng {w : World} {lo hi c : Nat} {A : Option Addr} {L : List Ky} (h : OwnKs w lo hi A c L) : ∀ k, blk A = some k → lo ≤ k ∧ k < hi := by obtain ⟨xs, h1, _⟩ := h; exact fun k hk => ⟨(RowH.lt h1 k hk).1, h1.hi k hk⟩
theorem OwnKs.keepNe {w w' : World} {lo hi c : Nat} {row : Option Nat} {A1 : Option Addr} {L : List Ky} (h : OwnKs w lo hi A1 c L) (hg : Grew w w' 42 row) (hne : ∀ k, blk A1 = some k → row ≠ some k) : OwnKs w' lo hi A1 c L := by
 have hr := h.rng
 cases hA : blk A1 with
 | none => exact ((h.rerange (lo' := 0) (hi' := 0) (fun k hk => by rw [hA] at hk; cases hk)).q hg (fun k _ => .inr (Nat.zero_le _)) (by simp)).rerange (fun k hk => by rw [hA] at hk; cases hk)
 | some b => exact ((h.rerange (lo' := b) (hi' := b + 1) (fun k hk => by rw [hA] at hk; injection hk with hk; omega)).q hg (fun k hk => by
   have : k ≠ b := fun e => hne b hA (by rw [hk, e])
   omega) (by simp)).rerange (fun k hk => hr k hk)
theorem StAt.same {w w' : World} {B g : Nat} {S : Stt} (h : StAt w B g S) (hb : Below w.heap.size w w') : StAt w' B g S ∧ StCh B g w w' := by
 obtain ⟨A, c, A2, c2, A3, c3, f0, f1, f2, f3, f6, f7⟩ := h.ex
 have hs := hb.size
 exact ⟨⟨A, c, A2, c2, A3, c3, f0.u hb, (f1.u hb).base (Nat.le_refl _) hs, (f2.u hb).base (Nat.le_refl _) hs, (f3.u hb).base (Nat.le_refl _) hs, f6, by omega⟩, ⟨w, w, none, none, Grew.none_ (Below.refl _ _), Grew.none_ (Below.refl _ _), Grew.of_below hb f0.at_, fun k hk => (by cases hk), fun k hk => (by cases hk)⟩⟩
theorem K_doDelete {K V : Option Addr} {p : By} {n c m d B g : Nat} {k : Int} {u : Ky} {S : Stt} (w : World) (hS : StAt w B g S) (hK : Rd w K p) (hn : n = p.length) (hp : p.length ≤ 4000000) (hl : S.1.length ≤ 100000) (hL : LtI S.1) (hs : Srt (S.1.map Prod.fst)) :
  CallsR Tryz.prog 76 [.pointer (some ⟨g, 0, none⟩), .agg (opC k K n c V m d u).toArray] w fun v w' => v = .bool (delS S.1 p).2 ∧ StAt w' B g ((delS S.1 p).1, S.2) ∧ StCh B g w w' := by
 subst hn
 have hS0 := hS
 obtain ⟨I, X, Y⟩ := S
 obtain ⟨A, ca, A2, c2, A3, c3, f0, f1, f2, f3, q7, q8⟩ := hS.ex
 dsimp only at f0 f1 f2 f3 hl hL hs ⊢
 unfold delS
 refine callsR Tryz.func76 rfl rfl (by kernel_rfl) rfl ?_
 have hw := Below.refl w.heap.size w
 by_cases h : p ∈ I.map Prod.fst
 ·rw [if_pos h]
  obtain ⟨hk, e1⟩ := mem_low hs h
  refine rk_seq ?_
  refine rk_region ?_
  refine wl_boxg _ rfl (by rfl) ?_
  rintro g3 w3 f3_1 b3 i3 i3_1
  have s3 := b3.size
  replace hw := hw.trans (b3.mono hw.size)
  refine wl_p (fun _ => o_assign rfl) ?_
  refine wl_nil ?_
  refine rk_seq ?_
  refine rk_draw (id := 1) (none) [0, 1, 2, 4, 0, 16, 40, 64, 128, 128, 511, 2047] [0, 1, 3, 7, 0, 16, 63, 127, 255, 255, 511, 2047] 64 0 [(.p, 0), (.p, 1), (.p, 2), (.r, 3), (.p, 4), (.r, 5), (.l, 6), (.p, 7), (.p, 8), (.p, 9), (.p, 10), (.p, 11)] (by kernel_rfl) (by kernel_rfl) (by kernel_rfl) (by kernel_rfl) (by kernel_rfl) ?_
  replace hw := hw.drew
  replace f3_1 := f3_1.d
  refine wl_p (fun _ => o_move rfl) ?_
  refine wl_p (fun _ => o_nil rfl) ?_
  refine wl_p (fun _ => o_faddr (s := 31) (i := 0) (off := 0) Tryz.underlying31 rfl Tryz.sizeOf28 rfl rfl rfl) ?_
  refine wl_r (o_loadbg Tryz.isAgg28 rfl (f0.u hw) (by rfl)) ?_
  refine wl_p (fun _ => o_faddr (s := 54) (i := 1) (off := 1) Tryz.underlying54 rfl Tryz.sizeOf39 rfl rfl rfl) ?_
  refine wl_r (o_loadbg Tryz.isAgg39 rfl f3_1 (by rfl)) ?_
  refine wl_call rfl (C_find _ (f1.u hw).to_RI (hK.u hw) rfl rfl (by omega) (by omega) (by omega) (by omega)) ?_
  rintro v14 w14 ⟨rfl, b14⟩
  simp only [drew_size] at b14
  have s14 := b14.size
  simp only [drew_size] at s14
  replace hw := hw.trans (b14.mono hw.size)
  replace f3_1 := f3_1.u b14
  refine wl_p (fun _ => o_move rfl) ?_
  refine wl_p (fun _ => o_ext20 rfl) ?_
  refine wl_p (fun _ => o_ext21 rfl) ?_
  refine wl_p (fun _ => o_assign rfl) ?_
  refine wl_p (fun _ => o_assign rfl) ?_
  refine wl_nild ?_
  refine rk_seq ?_
  refine rk_seq ?_
  refine rk_region ?_
  refine wl_p (fun _ => o_move rfl) ?_
  refine wl_nil ?_
  refine rk_if rfl (fun h17 => ?_) (fun h17 => h17.elim (by omega))
  refine rk_region ?_
  refine wl_p (fun _ => o_move rfl) ?_
  refine wl_p (fun _ => o_move rfl) ?_
  refine wl_p (fun _ => o_nil rfl) ?_
  refine wl_p (fun _ => o_faddr (s := 31) (i := 0) (off := 0) Tryz.underlying31 rfl Tryz.sizeOf28 rfl rfl rfl) ?_
  refine wl_r (o_loadbg Tryz.isAgg28 rfl (f0.u hw) (by rfl)) ?_
  refine wl_p (fun _ => o_move rfl) ?_
  refine wl_p (fun _ => o_move rfl) ?_
  refine wl_p (fun _ => o_add rfl rfl (by omega) (by omega)) ?_
  refine wl_call rfl (K_delI w14 (f1.u hw) rfl rfl rfl hl hk (by have := hw.size; omega)) ?_
  rintro _ w26 ⟨rfl, f26, g26, b26⟩
  have f0b := (f0.u hw).y g26 (by decide)
  have f2b := (f2.u hw).y g26 (by decide)
  have f3b := (f3.u hw).y g26 (by decide)
  have hcg : Chg g (g + 1) w26 w26 := Chg.refl
  have hst := f0b.at_
  have hws := hw.size
  have hgs := g26.size
  refine wl_p (fun _ => o_nil rfl) ?_
  refine wl_p (fun _ => o_faddr (s := 31) (i := 0) (off := 0) Tryz.underlying31 rfl Tryz.sizeOf28 rfl rfl rfl) ?_
  refine wl_storeg1 Tryz.sizeOf28 rfl rfl (by rfl) f0b (by simp) ?_
  rintro w_1 f g_1 e
  have s := g_1.size
  replace hcg := hcg.trans (Chg.of_g1 g_1.g (by omega) (by omega))
  replace f3b := f3b.y g_1 (by decide)
  replace f2b := f2b.y g_1 (by decide)
  replace f26 := f26.y g_1 (by decide)
  clear f0b
  refine wl_nil ?_
  refine rk_seq ?_
  refine rk_region ?_
  refine wl_p (fun _ => o_move rfl) ?_
  refine wl_p (fun _ => o_assign rfl) ?_
  refine wl_nil ?_
  refine ret1 rfl rfl ?_
  have hcs := hcg.size
  exact ⟨by rw [decide_eq_true h], ⟨A, ca, A2, c2, A3, c3, f, f26.base (Nat.le_refl _) (by omega), f2b.base (Nat.le_refl _) (by omega), f3b.base (Nat.le_refl _) (by omega), q7, by omega⟩, ⟨w26, w26, blk A, none, Grew.after hw g26 f1.ty, Grew.none_ (Below.refl _ _), Grew.of_chg1 hcg hst, fun k hk => (f1.rng k hk).1, fun k hk => (by cases hk)⟩⟩
 ·rw [if_neg h]
  refine rk_seq ?_
  refine rk_region ?_
  refine wl_boxg _ rfl (by rfl) ?_
  rintro g3 w3 f3_1 b3 i3 i3_1
  have s3 := b3.size
  replace hw := hw.trans (b3.mono hw.size)
  refine wl_p (fun _ => o_assign rfl) ?_
  refine wl_nil ?_
  refine rk_seq ?_
  refine rk_draw (id := 1) (none) [0, 1, 2, 4, 0, 16, 40, 64, 128, 128, 511, 2047] [0, 1, 3, 7, 0, 16, 63, 127, 255, 255, 511, 2047] 64 0 [(.p, 0), (.p, 1), (.p, 2), (.r, 3), (.p, 4), (.r, 5), (.l, 6), (.p, 7), (.p, 8), (.p, 9), (.p, 10), (.p, 11)] (by kernel_rfl) (by kernel_rfl) (by kernel_rfl) (by kernel_rfl) (by kernel_rfl) ?_
  replace hw := hw.drew
  replace f3_1 := f3_1.d
  refine wl_p (fun _ => o_move rfl) ?_
  refine wl_p (fun _ => o_nil rfl) ?_
  refine wl_p (fun _ => o_faddr (s := 31) (i := 0) (off := 0) Tryz.underlying31 rfl Tryz.sizeOf28 rfl rfl rfl) ?_
  refine wl_r (o_loadbg Tryz.isAgg28 rfl (f0.u hw) (by rfl)) ?_
  refine wl_p (fun _ => o_faddr (s := 54) (i := 1) (off := 1) Tryz.underlying54 rfl Tryz.sizeOf39 rfl rfl rfl) ?_
  refine wl_r (o_loadbg Tryz.isAgg39 rfl f3_1 (by rfl)) ?_
  refine wl_call rfl (C_find _ (f1.u hw).to_RI (hK.u hw) rfl rfl (by omega) (by omega) (by omega) (by omega)) ?_
  rintro v14 w14 ⟨rfl, b14⟩
  simp only [drew_size] at b14
  have s14 := b14.size
  simp only [drew_size] at s14
  replace hw := hw.trans (b14.mono hw.size)
  replace f3_1 := f3_1.u b14
  refine wl_p (fun _ => o_move rfl) ?_
  refine wl_p (fun _ => o_ext20 rfl) ?_
  refine wl_p (fun _ => o_ext21 rfl) ?_
  refine wl_p (fun _ => o_assign rfl) ?_
  refine wl_p (fun _ => o_assign rfl) ?_
  refine wl_nild ?_
  refine rk_seq ?_
  refine rk_seq ?_
  refine rk_region ?_
  refine wl_p (fun _ => o_move rfl) ?_
  refine wl_nil ?_
  refine rk_if rfl (fun h17 => absurd h17 (by omega)) (fun h17 => ?_)
  refine rk_skip ?_
  refine rk_seq ?_
  refine rk_region ?_
  refine wl_p (fun _ => o_move rfl) ?_
  refine wl_p (fun _ => o_assign rfl) ?_
  refine wl_nil ?_
  refine ret1 rfl rfl ?_
  exact ⟨by rw [decide_eq_false h], hS0.same hw⟩
end Go.Proofs.YtahkeoegbjopfaaGreat
/-
  Walks of package ops: members added and dropped.
-/
namespace Go.Proofs.YtahkeoegbjopfaaGreat
set_option maxRecDepth 100000
open Go.RowKit
theorem mem_val (u : Ky) (L : List Ky) : u.1 ∈ L.map Subtype.val ↔ u ∈ L := by
 rw [List.mem_map]
 exact ⟨fun ⟨a, ha, e⟩ => Subtype.ext e ▸ ha, fun h => ⟨u, h, rfl⟩⟩
theorem IncK.srt {L : List Ky} (h : IncK L) : Srt (L.map Subtype.val) := fun i hi h0 => by
 rw [List.length_map] at hi
 rw [List.getElem_map, List.getElem_map]
 exact h i hi h0
theorem low_lt {L : List Ky} {u : Ky} (hs : Srt (L.map Subtype.val)) (h : u.1 ∈ L.map Subtype.val) : low (L.map Subtype.val) u.1 < L.length := by
 obtain ⟨j, hj, e⟩ := List.getElem_of_mem h
 have hlow : low (L.map Subtype.val) u.1 = j := by
  refine low_eq (Nat.le_of_lt hj) (fun q hq hqj => ?_) (fun q hq hqj => ?_)
  ·rw [← e]; exact cmpL_chain hs j q hj hqj
  ·rw [← e]
   rcases Nat.lt_or_eq_of_le hqj with h1 | h1
   ·have h2 := cmpL_chain hs q j hq h1
    have h3 := cmpL_neg (L.map Subtype.val)[q] (L.map Subtype.val)[j]
    omega
   ·subst h1; rw [cmpL_self]; exact Int.le_refl _
 rw [List.length_map] at hj
 omega
theorem K_dropW {B g least : Nat} {u : Ky} {S : Stt} (w : World) (hS : StAt w B g S) (hl : S.2.1.length ≤ 100000) (hs : IncK S.2.1) (hle : least ≤ 100) :
  CallsR Tryz.prog 125 [.pointer (some ⟨g, 0 + 1, none⟩), .agg (B8 u.1).toArray, .int .i64 (least : Int)] w fun v w' => v = .bool (dropS S.2.1 u least).2 ∧ StAt w' B g (S.1, (dropS S.2.1 u least).1, S.2.2) ∧ StCh B g w w' := by
 have hS0 := hS
 obtain ⟨I, X, Y⟩ := S
 obtain ⟨A, ca, A2, c2, A3, c3, f0, f1, f2, f3, q7, q8⟩ := hS.ex
 dsimp only at f0 f1 f2 f3 hl hs ⊢
 have hsr := hs.srt
 unfold dropS
 refine callsR Tryz.func125 rfl rfl (by kernel_rfl) rfl ?_
 have hw := Below.refl w.heap.size w
 by_cases h : u.1 ∈ X.map Subtype.val
 ·have hu : u ∈ X := (mem_val u X).1 h
  have hkl := low_lt hsr h
  by_cases h2 : X.length ≤ least
  ·rw [if_pos (.inr h2)]
   refine rk_seq ?_
   refine rk_region ?_
   refine wl_boxg _ rfl (by rfl) ?_
   rintro g4 w4 f4 b4 i4 i4_1
   have s4 := b4.size
   replace hw := hw.trans (b4.mono hw.size)
   refine wl_p (fun _ => o_assign rfl) ?_
   refine wl_nil ?_
   refine rk_seq ?_
   refine rk_draw (id := 1) (none) [0, 1, 2, 0, 12, 16, 32, 32, 127, 511] [0, 1, 3, 0, 15, 31, 63, 63, 127, 511] 16 0 [(.p, 0), (.p, 1), (.r, 2), (.r, 3), (.l, 4), (.p, 5), (.p, 6), (.p, 7), (.p, 8), (.p, 9)] (by kernel_rfl) (by kernel_rfl) (by kernel_rfl) (by kernel_rfl) (by kernel_rfl) ?_
   replace hw := hw.drew
   replace f4 := f4.d
   refine wl_p (fun _ => o_move rfl) ?_
   refine wl_p (fun _ => o_nil rfl) ?_
   refine wl_r (o_loadbg Tryz.isAgg29 rfl (f0.u hw) (by rfl)) ?_
   refine wl_r (o_ldKyB rfl f4) ?_
   refine wl_call rfl (C_bsK _ (f2.u hw).to_RKs rfl (by omega) (by omega)) ?_
   rintro v14 w14 ⟨rfl, b14⟩
   simp only [drew_size] at b14
   have s14 := b14.size
   simp only [drew_size] at s14
   replace hw := hw.trans (b14.mono hw.size)
   replace f4 := f4.u b14
   refine wl_p (fun _ => o_move rfl) ?_
   refine wl_p (fun _ => o_ext20 rfl) ?_
   refine wl_p (fun _ => o_ext21 rfl) ?_
   refine wl_p (fun _ => o_assign rfl) ?_
   refine wl_p (fun _ => o_assign rfl) ?_
   refine wl_nild ?_
   refine rk_seq ?_
   refine rk_seq ?_
   refine rk_region ?_
   refine wl_p (fun _ => o_move rfl) ?_
   refine wl_p (fun _ => o_not rfl) ?_
   refine wl_p (fun _ => o_move rfl) ?_
   rw [decide_eq_true h]
   refine wl_p (fun _ => o_move rfl) ?_
   refine wl_p (fun _ => o_nil rfl) ?_
   refine wl_r (o_loadbg Tryz.isAgg29 rfl (f0.u hw) (by rfl)) ?_
   refine wl_p (fun _ => o_len (t := 29) Tryz.underlying29 rfl) ?_
   refine wl_p (fun _ => o_move rfl) ?_
   refine wl_p (fun _ => o_le rfl rfl) ?_
   refine wl_p (fun _ => o_pick_f rfl rfl) ?_
   refine wl_nil ?_
   refine rk_if rfl (fun h26 => ?_) (fun h26 => h26.elim (by omega))
   refine rk_seq ?_
   refine rk_region ?_
   refine wl_p (fun _ => o_assign rfl) ?_
   refine wl_nil ?_
   refine ret1 rfl rfl ?_
   exact ⟨rfl, hS0.same hw⟩
  ·rw [if_neg (fun e => e.elim (fun e => e hu) h2)]
   refine rk_seq ?_
   refine rk_region ?_
   refine wl_boxg _ rfl (by rfl) ?_
   rintro g4 w4 f4 b4 i4 i4_1
   have s4 := b4.size
   replace hw := hw.trans (b4.mono hw.size)
   refine wl_p (fun _ => o_assign rfl) ?_
   refine wl_nil ?_
   refine rk_seq ?_
   refine rk_draw (id := 1) (none) [0, 1, 2, 0, 12, 16, 32, 32, 127, 511] [0, 1, 3, 0, 15, 31, 63, 63, 127, 511] 16 0 [(.p, 0), (.p, 1), (.r, 2), (.r, 3), (.l, 4), (.p, 5), (.p, 6), (.p, 7), (.p, 8), (.p, 9)] (by kernel_rfl) (by kernel_rfl) (by kernel_rfl) (by kernel_rfl) (by kernel_rfl) ?_
   replace hw := hw.drew
   replace f4 := f4.d
   refine wl_p (fun _ => o_move rfl) ?_
   refine wl_p (fun _ => o_nil rfl) ?_
   refine wl_r (o_loadbg Tryz.isAgg29 rfl (f0.u hw) (by rfl)) ?_
   refine wl_r (o_ldKyB rfl f4) ?_
   refine wl_call rfl (C_bsK _ (f2.u hw).to_RKs rfl (by omega) (by omega)) ?_
   rintro v14 w14 ⟨rfl, b14⟩
   simp only [drew_size] at b14
   have s14 := b14.size
   simp only [drew_size] at s14
   replace hw := hw.trans (b14.mono hw.size)
   replace f4 := f4.u b14
   refine wl_p (fun _ => o_move rfl) ?_
   refine wl_p (fun _ => o_ext20 rfl) ?_
   refine wl_p (fun _ => o_ext21 rfl) ?_
   refine wl_p (fun _ => o_assign rfl) ?_
   refine wl_p (fun _ => o_assign rfl) ?_
   refine wl_nild ?_
   refine rk_seq ?_
   refine rk_seq ?_
   refine rk_region ?_
   refine wl_p (fun _ => o_move rfl) ?_
   refine wl_p (fun _ => o_not rfl) ?_
   refine wl_p (fun _ => o_move rfl) ?_
   rw [decide_eq_true h]
   refine wl_p (fun _ => o_move rfl) ?_
   refine wl_p (fun _ => o_nil rfl) ?_
   refine wl_r (o_loadbg Tryz.isAgg29 rfl (f0.u hw) (by rfl)) ?_
   refine wl_p (fun _ => o_len (t := 29) Tryz.underlying29 rfl) ?_
   refine wl_p (fun _ => o_move rfl) ?_
   refine wl_p (fun _ => o_le rfl rfl) ?_
   refine wl_p (fun _ => o_pick_f rfl rfl) ?_
   refine wl_nil ?_
   refine rk_if rfl (fun h26 => absurd h26 (by omega)) (fun h26 => ?_)
   refine rk_skip ?_
   refine rk_seq ?_
   refine rk_region ?_
   refine wl_p (fun _ => o_move rfl) ?_
   refine wl_p (fun _ => o_move rfl) ?_
   refine wl_p (fun _ => o_nil rfl) ?_
   refine wl_r (o_loadbg Tryz.isAgg29 rfl (f0.u hw) (by rfl)) ?_
   refine wl_p (fun _ => o_move rfl) ?_
   refine wl_p (fun _ => o_move rfl) ?_
   refine wl_p (fun _ => o_add rfl rfl (by omega) (by omega)) ?_
   refine wl_call rfl (K_delK w14 (f2.u hw) rfl rfl rfl hl hkl (by have := hw.size; omega)) ?_
   rintro _ w34 ⟨rfl, f34, g34, b34⟩
   have f0b := (f0.u hw).y g34 (by decide)
   have f1b := (f1.u hw).y g34 (by decide)
   have fob := (f3.u hw).keepNe g34 (fun k hk e => q7 k e hk)
   have hcg : Chg g (g + 1) w34 w34 := Chg.refl
   have hst := f0b.at_
   have hws := hw.size
   have hgs := g34.size
   have hw14 := hw
   clear hw
   refine wl_p (fun _ => o_nil rfl) ?_
   refine wl_storeg1 Tryz.sizeOf29 rfl rfl (by rfl) f0b (by simp) ?_
   rintro w_1 f g_1 e
   have s := g_1.size
   replace hcg := hcg.trans (Chg.of_g1 g_1.g (by omega) (by omega))
   replace fob := fob.y g_1 (by decide)
   replace f1b := f1b.y g_1 (by decide)
   replace f34 := f34.y g_1 (by decide)
   clear f0b
   refine wl_nil ?_
   refine rk_seq ?_
   refine rk_region ?_
   refine wl_p (fun _ => o_assign rfl) ?_
   refine wl_nil ?_
   refine ret1 rfl rfl ?_
   have hcs := hcg.size
   exact ⟨rfl, ⟨A, ca, A2, c2, A3, c3, f, f1b.base (Nat.le_refl _) (by omega), f34.base (Nat.le_refl _) (by omega), fob.base (Nat.le_refl _) (by omega), q7, by omega⟩, ⟨w14, w34, none, blk A2, Grew.none_ hw14, g34, Grew.of_chg1 hcg hst, fun k hk => (by cases hk), fun k hk => (f2.rng k hk).1⟩⟩
 ·rw [if_pos (.inl (fun e => h ((mem_val u X).2 e)))]
  refine rk_seq ?_
  refine rk_region ?_
  refine wl_boxg _ rfl (by rfl) ?_
  rintro g4 w4 f4 b4 i4 i4_1
  have s4 := b4.size
  replace hw := hw.trans (b4.mono hw.size)
  refine wl_p (fun _ => o_assign rfl) ?_
  refine wl_nil ?_
  refine rk_seq ?_
  refine rk_draw (id := 1) (none) [0, 1, 2, 0, 12, 16, 32, 32, 127, 511] [0, 1, 3, 0, 15, 31, 63, 63, 127, 511] 16 0 [(.p, 0), (.p, 1), (.r, 2), (.r, 3), (.l, 4), (.p, 5), (.p, 6), (.p, 7), (.p, 8), (.p, 9)] (by kernel_rfl) (by kernel_rfl) (by kernel_rfl) (by kernel_rfl) (by kernel_rfl) ?_
  replace hw := hw.drew
  replace f4 := f4.d
  refine wl_p (fun _ => o_move rfl) ?_
  refine wl_p (fun _ => o_nil rfl) ?_
  refine wl_r (o_loadbg Tryz.isAgg29 rfl (f0.u hw) (by rfl)) ?_
  refine wl_r (o_ldKyB rfl f4) ?_
  refine wl_call rfl (C_bsK _ (f2.u hw).to_RKs rfl (by omega) (by omega)) ?_
  rintro v14 w14 ⟨rfl, b14⟩
  simp only [drew_size] at b14
  have s14 := b14.size
  simp only [drew_size] at s14
  replace hw := hw.trans (b14.mono hw.size)
  replace f4 := f4.u b14
  refine wl_p (fun _ => o_move rfl) ?_
  refine wl_p (fun _ => o_ext20 rfl) ?_
  refine wl_p (fun _ => o_ext21 rfl) ?_
  refine wl_p (fun _ => o_assign rfl) ?_
  refine wl_p (fun _ => o_assign rfl) ?_
  refine wl_nild ?_
  refine rk_seq ?_
  refine rk_seq ?_
  refine rk_region ?_
  refine wl_p (fun _ => o_move rfl) ?_
  refine wl_p (fun _ => o_not rfl) ?_
  refine wl_p (fun _ => o_move rfl) ?_
  rw [decide_eq_false h]
  refine wl_off ?_
  refine wl_off ?_
  refine wl_off ?_
  refine wl_off ?_
  refine wl_off ?_
  refine wl_off ?_
  refine wl_p (fun _ => o_pick_t rfl rfl) ?_
  refine wl_nil ?_
  refine rk_true rfl ?_
  refine rk_seq ?_
  refine rk_region ?_
  refine wl_p (fun _ => o_assign rfl) ?_
  refine wl_nil ?_
  refine ret1 rfl rfl ?_
  exact ⟨rfl, hS0.same hw⟩
theorem K_addW {B g most : Nat} {u : Ky} {S : Stt} (w : World) (hS : StAt w B g S) (hl : S.2.1.length ≤ 100000) (hs : IncK S.2.1) (hle : most ≤ 100) :
  CallsR Tryz.prog 124 [.pointer (some ⟨g, 0 + 1, none⟩), .agg (B8 u.1).toArray, .int .i64 (most : Int)] w fun v w' => v = .bool (addS S.2.1 u most).2 ∧ StAt w' B g (S.1, (addS S.2.1 u most).1, S.2.2) ∧ StCh B g w w' := by
 have hS0 := hS
 obtain ⟨I, X, Y⟩ := S
 obtain ⟨A, ca, A2, c2, A3, c3, f0, f1, f2, f3, q7, q8⟩ := hS.ex
 dsimp only at f0 f1 f2 f3 hl hs ⊢
 have hsr := hs.srt
 unfold addS
 refine callsR Tryz.func124 rfl rfl (by kernel_rfl) rfl ?_
 have hw := Below.refl w.heap.size w
 by_cases h : u.1 ∈ X.map Subtype.val
 ·rw [if_pos (.inl ((mem_val u X).1 h))]
  refine rk_seq ?_
  refine rk_region ?_
  refine wl_boxg _ rfl (by rfl) ?_
  rintro g4 w4 f4 b4 i4 i4_1
  have s4 := b4.size
  replace hw := hw.trans (b4.mono hw.size)
  refine wl_p (fun _ => o_assign rfl) ?_
  refine wl_nil ?_
  refine rk_seq ?_
  refine rk_draw (id := 1) (none) [0, 1, 2, 0, 12, 16, 32, 32, 127, 511] [0, 1, 3, 0, 15, 31, 63, 63, 127, 511] 16 0 [(.p, 0), (.p, 1), (.r, 2), (.r, 3), (.l, 4), (.p, 5), (.p, 6), (.p, 7), (.p, 8), (.p, 9)] (by kernel_rfl) (by kernel_rfl) (by kernel_rfl) (by kernel_rfl) (by kernel_rfl) ?_
  replace hw := hw.drew
  replace f4 := f4.d
  refine wl_p (fun _ => o_move rfl) ?_
  refine wl_p (fun _ => o_nil rfl) ?_
  refine wl_r (o_loadbg Tryz.isAgg29 rfl (f0.u hw) (by rfl)) ?_
  refine wl_r (o_ldKyB rfl f4) ?_
  refine wl_call rfl (C_bsK _ (f2.u hw).to_RKs rfl (by omega) (by omega)) ?_
  rintro v14 w14 ⟨rfl, b14⟩
  simp only [drew_size] at b14
  have s14 := b14.size
  simp only [drew_size] at s14
  replace hw := hw.trans (b14.mono hw.size)
  replace f4 := f4.u b14
  refine wl_p (fun _ => o_move rfl) ?_
  refine wl_p (fun _ => o_ext20 rfl) ?_
  refine wl_p (fun _ => o_ext21 rfl) ?_
  refine wl_p (fun _ => o_assign rfl) ?_
  refine wl_p (fun _ => o_assign rfl) ?_
  refine wl_nild ?_
  refine rk_seq ?_
  refine rk_seq ?_
  refine rk_region ?_
  refine wl_p (fun _ => o_move rfl) ?_
  refine wl_p (fun _ => o_move rfl) ?_
  refine wl_know 18 true rfl (decide_eq_true (by omega)) ?_
  refine wl_off ?_
  refine wl_off ?_
  refine wl_off ?_
  refine wl_off ?_
  refine wl_off ?_
  refine wl_off ?_
  refine wl_p (fun _ => o_pick_t rfl rfl) ?_
  refine wl_nil ?_
  refine rk_true rfl ?_
  refine rk_seq ?_
  refine rk_region ?_
  refine wl_p (fun _ => o_assign rfl) ?_
  refine wl_nil ?_
  rw [decide_eq_true h]
  refine ret1 rfl rfl ?_
  exact ⟨rfl, hS0.same hw⟩
 ·have hu : u ∉ X := fun e => h ((mem_val u X).2 e)
  have hkl : low (X.map Subtype.val) u.1 ≤ X.length := by have := low_le (X.map Subtype.val) u.1; rwa [List.length_map] at this
  by_cases h2 : most ≤ X.length
  ·rw [if_pos (.inr h2)]
   refine rk_seq ?_
   refine rk_region ?_
   refine wl_boxg _ rfl (by rfl) ?_
   rintro g4 w4 f4 b4 i4 i4_1
   have s4 := b4.size
   replace hw := hw.trans (b4.mono hw.size)
   refine wl_p (fun _ => o_assign rfl) ?_
   refine wl_nil ?_
   refine rk_seq ?_
   refine rk_draw (id := 1) (none) [0, 1, 2, 0, 12, 16, 32, 32, 127, 511] [0, 1, 3, 0, 15, 31, 63, 63, 127, 511] 16 0 [(.p, 0), (.p, 1), (.r, 2), (.r, 3), (.l, 4), (.p, 5), (.p, 6), (.p, 7), (.p, 8), (.p, 9)] (by kernel_rfl) (by kernel_rfl) (by kernel_rfl) (by kernel_rfl) (by kernel_rfl) ?_
   replace hw := hw.drew
   replace f4 := f4.d
   refine wl_p (fun _ => o_move rfl) ?_
   refine wl_p (fun _ => o_nil rfl) ?_
   refine wl_r (o_loadbg Tryz.isAgg29 rfl (f0.u hw) (by rfl)) ?_
   refine wl_r (o_ldKyB rfl f4) ?_
   refine wl_call rfl (C_bsK _ (f2.u hw).to_RKs rfl (by omega) (by omega)) ?_
   rintro v14 w14 ⟨rfl, b14⟩
   simp only [drew_size] at b14
   have s14 := b14.size
   simp only [drew_size] at s14
   replace hw := hw.trans (b14.mono hw.size)
   replace f4 := f4.u b14
   refine wl_p (fun _ => o_move rfl) ?_
   refine wl_p (fun _ => o_ext20 rfl) ?_
   refine wl_p (fun _ => o_ext21 rfl) ?_
   refine wl_p (fun _ => o_assign rfl) ?_
   refine wl_p (fun _ => o_assign rfl) ?_
   refine wl_nild ?_
   refine rk_seq ?_
   refine rk_seq ?_
   refine rk_region ?_
   refine wl_p (fun _ => o_move rfl) ?_
   refine wl_p (fun _ => o_move rfl) ?_
   refine wl_know 18 false rfl (decide_eq_false (by omega)) ?_
   refine wl_p (fun _ => o_move rfl) ?_
   refine wl_p (fun _ => o_nil rfl) ?_
   refine wl_r (o_loadbg Tryz.isAgg29 rfl (f0.u hw) (by rfl)) ?_
   refine wl_p (fun _ => o_len (t := 29) Tryz.underlying29 rfl) ?_
   refine wl_p (fun _ => o_move rfl) ?_
   refine wl_p (fun _ => o_ge rfl rfl) ?_
   refine wl_p (fun _ => o_pick_f rfl rfl) ?_
   refine wl_nil ?_
   refine rk_if rfl (fun h25 => ?_) (fun h25 => h25.elim (by omega))
   refine rk_seq ?_
   refine rk_region ?_
   refine wl_p (fun _ => o_assign rfl) ?_
   refine wl_nil ?_
   rw [decide_eq_false h]
   refine ret1 rfl rfl ?_
   exact ⟨rfl, hS0.same hw⟩
  ·rw [if_neg (fun e => e.elim hu h2)]
   refine rk_seq ?_
   refine rk_region ?_
   refine wl_boxg _ rfl (by rfl) ?_
   rintro g4 w4 f4 b4 i4 i4_1
   have s4 := b4.size
   replace hw := hw.trans (b4.mono hw.size)
   refine wl_p (fun _ => o_assign rfl) ?_
   refine wl_nil ?_
   refine rk_seq ?_
   refine rk_draw (id := 1) (none) [0, 1, 2, 0, 12, 16, 32, 32, 127, 511] [0, 1, 3, 0, 15, 31, 63, 63, 127, 511] 16 0 [(.p, 0), (.p, 1), (.r, 2), (.r, 3), (.l, 4), (.p, 5), (.p, 6), (.p, 7), (.p, 8), (.p, 9)] (by kernel_rfl) (by kernel_rfl) (by kernel_rfl) (by kernel_rfl) (by kernel_rfl) ?_
   replace hw := hw.drew
   replace f4 := f4.d
   refine wl_p (fun _ => o_move rfl) ?_
   refine wl_p (fun _ => o_nil rfl) ?_
   refine wl_r (o_loadbg Tryz.isAgg29 rfl (f0.u hw) (by rfl)) ?_
   refine wl_r (o_ldKyB rfl f4) ?_
   refine wl_call rfl (C_bsK _ (f2.u hw).to_RKs rfl (by omega) (by omega)) ?_
   rintro v14 w14 ⟨rfl, b14⟩
   simp only [drew_size] at b14
   have s14 := b14.size
   simp only [drew_size] at s14
   replace hw := hw.trans (b14.mono hw.size)
   replace f4 := f4.u b14
   refine wl_p (fun _ => o_move rfl) ?_
   refine wl_p (fun _ => o_ext20 rfl) ?_
   refine wl_p (fun _ => o_ext21 rfl) ?_
   refine wl_p (fun _ => o_assign rfl) ?_
   refine wl_p (fun _ => o_assign rfl) ?_
   refine wl_nild ?_
   refine rk_seq ?_
   refine rk_seq ?_
   refine rk_region ?_
   refine wl_p (fun _ => o_move rfl) ?_
   refine wl_p (fun _ => o_move rfl) ?_
   refine wl_know 18 false rfl (decide_eq_false (by omega)) ?_
   refine wl_p (fun _ => o_move rfl) ?_
   refine wl_p (fun _ => o_nil rfl) ?_
   refine wl_r (o_loadbg Tryz.isAgg29 rfl (f0.u hw) (by rfl)) ?_
   refine wl_p (fun _ => o_len (t := 29) Tryz.underlying29 rfl) ?_
   refine wl_p (fun _ => o_move rfl) ?_
   refine wl_p (fun _ => o_ge rfl rfl) ?_
   refine wl_p (fun _ => o_pick_f rfl rfl) ?_
   refine wl_nil ?_
   refine rk_if rfl (fun h25 => absurd h25 (by omega)) (fun h25 => ?_)
   refine rk_skip ?_
   refine rk_seq ?_
   refine rk_draw (id := 4) (none) [0, 0, 2, 4, 0, 0, 32, 88, 255, 511] [0, 0, 2, 6, 0, 0, 32, 126, 255, 511] 704 64 [(.p, 0), (.p, 1), (.p, 2), (.s, 3), (.p, 4), (.r, 5), (.c, 6), (.l, 7), (.p, 8), (.l, 9)] (by kernel_rfl) (by kernel_rfl) (by kernel_rfl) (by kernel_rfl) (by kernel_rfl) ?_
   replace hw := hw.drew
   replace f4 := f4.d
   refine wl_p (fun _ => o_move rfl) ?_
   refine wl_p (fun _ => o_move rfl) ?_
   refine wl_p (fun _ => o_nil rfl) ?_
   refine wl_s (fun _ hk => (o_loadbg Tryz.isAgg29 rfl ((f0.u hw).u (below_of_grown_none hk)) (by rfl))) ?_
   refine wl_p (fun _ => o_move rfl) ?_
   refine wl_r (o_ldKyB rfl f4) ?_
   refine wl_litKs1 (by rfl) rfl (by rfl) ?_
   rintro A32 w32 f32 b32
   simp only [drew_size] at f32
   simp only [drew_size] at b32
   have qf32 := f32.cap
   have s32 := b32.size
   simp only [drew_size] at s32
   replace hw := hw.trans (b32.mono hw.size)
   replace f4 := f4.u b32
   rw [decide_eq_false h]
   refine wl_call rfl (K_insK w32 (f2.u hw) f32 (by have := hw.size; omega) rfl rfl hkl hl (by have := hw.size; omega)) ?_
   rintro _ w33 ⟨A33, c33, rfl, f33, g33, b33, t33⟩
   have f0b := (f0.u hw).y g33 (by decide)
   have f1b := (f1.u hw).y g33 (by decide)
   have fob := (f3.u hw).keepNe g33 (fun k hk e => q7 k e hk)
   have hcg : Chg g (g + 1) w33 w33 := Chg.refl
   have hst := f0b.at_
   have hws := hw.size
   have hgs := g33.size
   have hw14 := hw
   have q9 : ∀ k, blk A33 = some k → blk A3 ≠ some k := fun k hk e => by
    rcases t33 with t | t
    ·rw [t] at hk; exact q7 k hk e
    ·have h5 := t k hk
     have h6 := (f3.rng k e).2
     omega
   clear hw f32
   refine wl_p (fun _ => o_nil rfl) ?_
   refine wl_storeg1 Tryz.sizeOf29 rfl rfl (by rfl) f0b (by simp) ?_
   rintro w_1 f g_1 e
   have s := g_1.size
   replace hcg := hcg.trans (Chg.of_g1 g_1.g (by omega) (by omega))
   replace fob := fob.y g_1 (by decide)
   replace f1b := f1b.y g_1 (by decide)
   replace f33 := f33.y g_1 (by decide)
   clear f0b
   refine wl_nild ?_
   refine rk_seq ?_
   refine rk_region ?_
   refine wl_p (fun _ => o_assign rfl) ?_
   refine wl_nil ?_
   refine ret1 rfl rfl ?_
   have hcs := hcg.size
   exact ⟨rfl, ⟨A, ca, A33, c33, A3, c3, f, f1b.base (Nat.le_refl _) (by omega), f33.base (Nat.le_refl _) (by omega), fob.base (Nat.le_refl _) (by omega), q9, by omega⟩, ⟨w32, w33, none, blk A2, Grew.none_ hw14, g33, Grew.of_chg1 hcg hst, fun k hk => (by cases hk), fun k hk => (f2.rng k hk).1⟩⟩
theorem K_dropX {B g least : Nat} {u : Ky} {S : Stt} (w : World) (hS : StAt w B g S) (hl : S.2.2.length ≤ 100000) (hs : IncK S.2.2) (hle : least ≤ 100) :
  CallsR Tryz.prog 125 [.pointer (some ⟨g, 0 + 2, none⟩), .agg (B8 u.1).toArray, .int .i64 (least : Int)] w fun v w' => v = .bool (dropS S.2.2 u least).2 ∧ StAt w' B g (S.1, S.2.1, (dropS S.2.2 u least).1) ∧ StCh B g w w' := by
 have hS0 := hS
 obtain ⟨I, X, Y⟩ := S
 obtain ⟨A, ca, A2, c2, A3, c3, f0, f1, f2, f3, q7, q8⟩ := hS.ex
 dsimp only at f0 f1 f2 f3 hl hs ⊢
 have hsr := hs.srt
 unfold dropS
 refine callsR Tryz.func125 rfl rfl (by kernel_rfl) rfl ?_
 have hw := Below.refl w.heap.size w
 by_cases h : u.1 ∈ Y.map Subtype.val
 ·have hu : u ∈ Y := (mem_val u Y).1 h
  have hkl := low_lt hsr h
  by_cases h2 : Y.length ≤ least
  ·rw [if_pos (.inr h2)]
   refine rk_seq ?_
   refine rk_region ?_
   refine wl_boxg _ rfl (by rfl) ?_
   rintro g4 w4 f4 b4 i4 i4_1
   have s4 := b4.size
   replace hw := hw.trans (b4.mono hw.size)
   refine wl_p (fun _ => o_assign rfl) ?_
   refine wl_nil ?_
   refine rk_seq ?_
   refine rk_draw (id := 1) (none) [0, 1, 2, 0, 12, 16, 32, 32, 127, 511] [0, 1, 3, 0, 15, 31, 63, 63, 127, 511] 16 0 [(.p, 0), (.p, 1), (.r, 2), (.r, 3), (.l, 4), (.p, 5), (.p, 6), (.p, 7), (.p, 8), (.p, 9)] (by kernel_rfl) (by kernel_rfl) (by kernel_rfl) (by kernel_rfl) (by kernel_rfl) ?_
   replace hw := hw.drew
   replace f4 := f4.d
   refine wl_p (fun _ => o_move rfl) ?_
   refine wl_p (fun _ => o_nil rfl) ?_
   refine wl_r (o_loadbg Tryz.isAgg29 rfl (f0.u hw) (by rfl)) ?_
   refine wl_r (o_ldKyB rfl f4) ?_
   refine wl_call rfl (C_bsK _ (f3.u hw).to_RKs rfl (by omega) (by omega)) ?_
   rintro v14 w14 ⟨rfl, b14⟩
   simp only [drew_size] at b14
   have s14 := b14.size
   simp only [drew_size] at s14
   replace hw := hw.trans (b14.mono hw.size)
   replace f4 := f4.u b14
   refine wl_p (fun _ => o_move rfl) ?_
   refine wl_p (fun _ => o_ext20 rfl) ?_
   refine wl_p (fun _ => o_ext21 rfl) ?_
   refine wl_p (fun _ => o_assign rfl) ?_
   refine wl_p (fun _ => o_assign rfl) ?_
   refine wl_nild ?_
   refine rk_seq ?_
   refine rk_seq ?_
   refine rk_region ?_
   refine wl_p (fun _ => o_move rfl) ?_
   refine wl_p (fun _ => o_not rfl) ?_
   refine wl_p (fun _ => o_move rfl) ?_
   rw [decide_eq_true h]
   refine wl_p (fun _ => o_move rfl) ?_
   refine wl_p (fun _ => o_nil rfl) ?_
   refine wl_r (o_loadbg Tryz.isAgg29 rfl (f0.u hw) (by rfl)) ?_
   refine wl_p (fun _ => o_len (t := 29) Tryz.underlying29 rfl) ?_
   refine wl_p (fun _ => o_move rfl) ?_
   refine wl_p (fun _ => o_le rfl rfl) ?_
   refine wl_p (fun _ => o_pick_f rfl rfl) ?_
   refine wl_nil ?_
   refine rk_if rfl (fun h26 => ?_) (fun h26 => h26.elim (by omega))
   refine rk_seq ?_
   refine rk_region ?_
   refine wl_p (fun _ => o_assign rfl) ?_
   refine wl_nil ?_
   refine ret1 rfl rfl ?_
   exact ⟨rfl, hS0.same hw⟩
  ·rw [if_neg (fun e => e.elim (fun e => e hu) h2)]
   refine rk_seq ?_
   refine rk_region ?_
   refine wl_boxg _ rfl (by rfl) ?_
   rintro g4 w4 f4 b4 i4 i4_1
   have s4 := b4.size
   replace hw := hw.trans (b4.mono hw.size)
   refine wl_p (fun _ => o_assign rfl) ?_
   refine wl_nil ?_
   refine rk_seq ?_
   refine rk_draw (id := 1) (none) [0, 1, 2, 0, 12, 16, 32, 32, 127, 511] [0, 1, 3, 0, 15, 31, 63, 63, 127, 511] 16 0 [(.p, 0), (.p, 1), (.r, 2), (.r, 3), (.l, 4), (.p, 5), (.p, 6), (.p, 7), (.p, 8), (.p, 9)] (by kernel_rfl) (by kernel_rfl) (by kernel_rfl) (by kernel_rfl) (by kernel_rfl) ?_
   replace hw := hw.drew
   replace f4 := f4.d
   refine wl_p (fun _ => o_move rfl) ?_
   refine wl_p (fun _ => o_nil rfl) ?_
   refine wl_r (o_loadbg Tryz.isAgg29 rfl (f0.u hw) (by rfl)) ?_
   refine wl_r (o_ldKyB rfl f4) ?_
   refine wl_call rfl (C_bsK _ (f3.u hw).to_RKs rfl (by omega) (by omega)) ?_
   rintro v14 w14 ⟨rfl, b14⟩
   simp only [drew_size] at b14
   have s14 := b14.size
   simp only [drew_size] at s14
   replace hw := hw.trans (b14.mono hw.size)
   replace f4 := f4.u b14
   refine wl_p (fun _ => o_move rfl) ?_
   refine wl_p (fun _ => o_ext20 rfl) ?_
   refine wl_p (fun _ => o_ext21 rfl) ?_
   refine wl_p (fun _ => o_assign rfl) ?_
   refine wl_p (fun _ => o_assign rfl) ?_
   refine wl_nild ?_
   refine rk_seq ?_
   refine rk_seq ?_
   refine rk_region ?_
   refine wl_p (fun _ => o_move rfl) ?_
   refine wl_p (fun _ => o_not rfl) ?_
   refine wl_p (fun _ => o_move rfl) ?_
   rw [decide_eq_true h]
   refine wl_p (fun _ => o_move rfl) ?_
   refine wl_p (fun _ => o_nil rfl) ?_
   refine wl_r (o_loadbg Tryz.isAgg29 rfl (f0.u hw) (by rfl)) ?_
   refine wl_p (fun _ => o_len (t := 29) Tryz.underlying29 rfl) ?_
   refine wl_p (fun _ => o_move rfl) ?_
   refine wl_p (fun _ => o_le rfl rfl) ?_
   refine wl_p (fun _ => o_pick_f rfl rfl) ?_
   refine wl_nil ?_
   refine rk_if rfl (fun h26 => absurd h26 (by omega)) (fun h26 => ?_)
   refine rk_skip ?_
   refine rk_seq ?_
   refine rk_region ?_
   refine wl_p (fun _ => o_move rfl) ?_
   refine wl_p (fun _ => o_move rfl) ?_
   refine wl_p (fun _ => o_nil rfl) ?_
   refine wl_r (o_loadbg Tryz.isAgg29 rfl (f0.u hw) (by rfl)) ?_
   refine wl_p (fun _ => o_move rfl) ?_
   refine wl_p (fun _ => o_move rfl) ?_
   refine wl_p (fun _ => o_add rfl rfl (by omega) (by omega)) ?_
   refine wl_call rfl (K_delK w14 (f3.u hw) rfl rfl rfl hl hkl (by have := hw.size; omega)) ?_
   rintro _ w34 ⟨rfl, f34, g34, b34⟩
   have f0b := (f0.u hw).y g34 (by decide)
   have f1b := (f1.u hw).y g34 (by decide)
   have fob := (f2.u hw).keepNe g34 q7
   have hcg : Chg g (g + 1) w34 w34 := Chg.refl
   have hst := f0b.at_
   have hws := hw.size
   have hgs := g34.size
   have hw14 := hw
   clear hw
   refine wl_p (fun _ => o_nil rfl) ?_
   refine wl_storeg1 Tryz.sizeOf29 rfl rfl (by rfl) f0b (by simp) ?_
   rintro w_1 f g_1 e
   have s := g_1.size
   replace hcg := hcg.trans (Chg.of_g1 g_1.g (by omega) (by omega))
   replace fob := fob.y g_1 (by decide)
   replace f1b := f1b.y g_1 (by decide)
   replace f34 := f34.y g_1 (by decide)
   clear f0b
   refine wl_nil ?_
   refine rk_seq ?_
   refine rk_region ?_
   refine wl_p (fun _ => o_assign rfl) ?_
   refine wl_nil ?_
   refine ret1 rfl rfl ?_
   have hcs := hcg.size
   exact ⟨rfl, ⟨A, ca, A2, c2, A3, c3, f, f1b.base (Nat.le_refl _) (by omega), fob.base (Nat.le_refl _) (by omega), f34.base (Nat.le_refl _) (by omega), q7, by omega⟩, ⟨w14, w34, none, blk A3, Grew.none_ hw14, g34, Grew.of_chg1 hcg hst, fun k hk => (by cases hk), fun k hk => (f3.rng k hk).1⟩⟩
 ·rw [if_pos (.inl (fun e => h ((mem_val u Y).2 e)))]
  refine rk_seq ?_
  refine rk_region ?_
  refine wl_boxg _ rfl (by rfl) ?_
  rintro g4 w4 f4 b4 i4 i4_1
  have s4 := b4.size
  replace hw := hw.trans (b4.mono hw.size)
  refine wl_p (fun _ => o_assign rfl) ?_
  refine wl_nil ?_
  refine rk_seq ?_
  refine rk_draw (id := 1) (none) [0, 1, 2, 0, 12, 16, 32, 32, 127, 511] [0, 1, 3, 0, 15, 31, 63, 63, 127, 511] 16 0 [(.p, 0), (.p, 1), (.r, 2), (.r, 3), (.l, 4), (.p, 5), (.p, 6), (.p, 7), (.p, 8), (.p, 9)] (by kernel_rfl) (by kernel_rfl) (by kernel_rfl) (by kernel_rfl) (by kernel_rfl) ?_
  replace hw := hw.drew
  replace f4 := f4.d
  refine wl_p (fun _ => o_move rfl) ?_
  refine wl_p (fun _ => o_nil rfl) ?_
  refine wl_r (o_loadbg Tryz.isAgg29 rfl (f0.u hw) (by rfl)) ?_
  refine wl_r (o_ldKyB rfl f4) ?_
  refine wl_call rfl (C_bsK _ (f3.u hw).to_RKs rfl (by omega) (by omega)) ?_
  rintro v14 w14 ⟨rfl, b14⟩
  simp only [drew_size] at b14
  have s14 := b14.size
  simp only [drew_size] at s14
  replace hw := hw.trans (b14.mono hw.size)
  replace f4 := f4.u b14
  refine wl_p (fun _ => o_move rfl) ?_
  refine wl_p (fun _ => o_ext20 rfl) ?_
  refine wl_p (fun _ => o_ext21 rfl) ?_
  refine wl_p (fun _ => o_assign rfl) ?_
  refine wl_p (fun _ => o_assign rfl) ?_
  refine wl_nild ?_
  refine rk_seq ?_
  refine rk_seq ?_
  refine rk_region ?_
  refine wl_p (fun _ => o_move rfl) ?_
  refine wl_p (fun _ => o_not rfl) ?_
  refine wl_p (fun _ => o_move rfl) ?_
  rw [decide_eq_false h]
  refine wl_off ?_
  refine wl_off ?_
  refine wl_off ?_
  refine wl_off ?_
  refine wl_off ?_
  refine wl_off ?_
  refine wl_p (fun _ => o_pick_t rfl rfl) ?_
  refine wl_nil ?_
  refine rk_true rfl ?_
  refine rk_seq ?_
  refine rk_region ?_
  refine wl_p (fun _ => o_assign rfl) ?_
  refine wl_nil ?_
  refine ret1 rfl rfl ?_
  exact ⟨rfl, hS0.same hw⟩
theorem K_addX {B g most : Nat} {u : Ky} {S : Stt} (w : World) (hS : StAt w B g S) (hl : S.2.2.length ≤ 100000) (hs : IncK S.2.2) (hle : most ≤ 100) :
  CallsR Tryz.prog 124 [.pointer (some ⟨g, 0 + 2, none⟩), .agg (B8 u.1).toArray, .int .i64 (most : Int)] w fun v w' => v = .bool (addS S.2.2 u most).2 ∧ StAt w' B g (S.1, S.2.1, (addS S.2.2 u most).1) ∧ StCh B g w w' := by
 have hS0 := hS
 obtain ⟨I, X, Y⟩ := S
 obtain ⟨A, ca, A2, c2, A3, c3, f0, f1, f2, f3, q7, q8⟩ := hS.ex
 dsimp only at f0 f1 f2 f3 hl hs ⊢
 have hsr := hs.srt
 unfold addS
 refine callsR Tryz.func124 rfl rfl (by kernel_rfl) rfl ?_
 have hw := Below.refl w.heap.size w
 by_cases h : u.1 ∈ Y.map Subtype.val
 ·rw [if_pos (.inl ((mem_val u Y).1 h))]
  refine rk_seq ?_
  refine rk_region ?_
  refine wl_boxg _ rfl (by rfl) ?_
  rintro g4 w4 f4 b4 i4 i4_1
  have s4 := b4.size
  replace hw := hw.trans (b4.mono hw.size)
  refine wl_p (fun _ => o_assign rfl) ?_
  refine wl_nil ?_
  refine rk_seq ?_
  refine rk_draw (id := 1) (none) [0, 1, 2, 0, 12, 16, 32, 32, 127, 511] [0, 1, 3, 0, 15, 31, 63, 63, 127, 511] 16 0 [(.p, 0), (.p, 1), (.r, 2), (.r, 3), (.l, 4), (.p, 5), (.p, 6), (.p, 7), (.p, 8), (.p, 9)] (by kernel_rfl) (by kernel_rfl) (by kernel_rfl) (by kernel_rfl) (by kernel_rfl) ?_
  replace hw := hw.drew
  replace f4 := f4.d
  refine wl_p (fun _ => o_move rfl) ?_
  refine wl_p (fun _ => o_nil rfl) ?_
  refine wl_r (o_loadbg Tryz.isAgg29 rfl (f0.u hw) (by rfl)) ?_
  refine wl_r (o_ldKyB rfl f4) ?_
  refine wl_call rfl (C_bsK _ (f3.u hw).to_RKs rfl (by omega) (by omega)) ?_
  rintro v14 w14 ⟨rfl, b14⟩
  simp only [drew_size] at b14
  have s14 := b14.size
  simp only [drew_size] at s14
  replace hw := hw.trans (b14.mono hw.size)
  replace f4 := f4.u b14
  refine wl_p (fun _ => o_move rfl) ?_
  refine wl_p (fun _ => o_ext20 rfl) ?_
  refine wl_p (fun _ => o_ext21 rfl) ?_
  refine wl_p (fun _ => o_assign rfl) ?_
  refine wl_p (fun _ => o_assign rfl) ?_
  refine wl_nild ?_
  refine rk_seq ?_
  refine rk_seq ?_
  refine rk_region ?_
  refine wl_p (fun _ => o_move rfl) ?_
  refine wl_p (fun _ => o_move rfl) ?_
  refine wl_know 18 true rfl (decide_eq_true (by omega)) ?_
  refine wl_off ?_
  refine wl_off ?_
  refine wl_off ?_
  refine wl_off ?_
  refine wl_off ?_
  refine wl_off ?_
  refine wl_p (fun _ => o_pick_t rfl rfl) ?_
  refine wl_nil ?_
  refine rk_true rfl ?_
  refine rk_seq ?_
  refine rk_region ?_
  refine wl_p (fun _ => o_assign rfl) ?_
  refine wl_nil ?_
  rw [decide_eq_true h]
  refine ret1 rfl rfl ?_
  exact ⟨rfl, hS0.same hw⟩
 ·have hu : u ∉ Y := fun e => h ((mem_val u Y).2 e)
  have hkl : low (Y.map Subtype.val) u.1 ≤ Y.length := by have := low_le (Y.map Subtype.val) u.1; rwa [List.length_map] at this
  by_cases h2 : most ≤ Y.length
  ·rw [if_pos (.inr h2)]
   refine rk_seq ?_
   refine rk_region ?_
   refine wl_boxg _ rfl (by rfl) ?_
   rintro g4 w4 f4 b4 i4 i4_1
   have s4 := b4.size
   replace hw := hw.trans (b4.mono hw.size)
   refine wl_p (fun _ => o_assign rfl) ?_
   refine wl_nil ?_
   refine rk_seq ?_
   refine rk_draw (id := 1) (none) [0, 1, 2, 0, 12, 16, 32, 32, 127, 511] [0, 1, 3, 0, 15, 31, 63, 63, 127, 511] 16 0 [(.p, 0), (.p, 1), (.r, 2), (.r, 3), (.l, 4), (.p, 5), (.p, 6), (.p, 7), (.p, 8), (.p, 9)] (by kernel_rfl) (by kernel_rfl) (by kernel_rfl) (by kernel_rfl) (by kernel_rfl) ?_
   replace hw := hw.drew
   replace f4 := f4.d
   refine wl_p (fun _ => o_move rfl) ?_
   refine wl_p (fun _ => o_nil rfl) ?_
   refine wl_r (o_loadbg Tryz.isAgg29 rfl (f0.u hw) (by rfl)) ?_
   refine wl_r (o_ldKyB rfl f4) ?_
   refine wl_call rfl (C_bsK _ (f3.u hw).to_RKs rfl (by omega) (by omega)) ?_
   rintro v14 w14 ⟨rfl, b14⟩
   simp only [drew_size] at b14
   have s14 := b14.size
   simp only [drew_size] at s14
   replace hw := hw.trans (b14.mono hw.size)
   replace f4 := f4.u b14
   refine wl_p (fun _ => o_move rfl) ?_
   refine wl_p (fun _ => o_ext20 rfl) ?_
   refine wl_p (fun _ => o_ext21 rfl) ?_
   refine wl_p (fun _ => o_assign rfl) ?_
   refine wl_p (fun _ => o_assign rfl) ?_
   refine wl_nild ?_
   refine rk_seq ?_
   refine rk_seq ?_
   refine rk_region ?_
   refine wl_p (fun _ => o_move rfl) ?_
   refine wl_p (fun _ => o_move rfl) ?_
   refine wl_know 18 false rfl (decide_eq_false (by omega)) ?_
   refine wl_p (fun _ => o_move rfl) ?_
   refine wl_p (fun _ => o_nil rfl) ?_
   refine wl_r (o_loadbg Tryz.isAgg29 rfl (f0.u hw) (by rfl)) ?_
   refine wl_p (fun _ => o_len (t := 29) Tryz.underlying29 rfl) ?_
   refine wl_p (fun _ => o_move rfl) ?_
   refine wl_p (fun _ => o_ge rfl rfl) ?_
   refine wl_p (fun _ => o_pick_f rfl rfl) ?_
   refine wl_nil ?_
   refine rk_if rfl (fun h25 => ?_) (fun h25 => h25.elim (by omega))
   refine rk_seq ?_
   refine rk_region ?_
   refine wl_p (fun _ => o_assign rfl) ?_
   refine wl_nil ?_
   rw [decide_eq_false h]
   refine ret1 rfl rfl ?_
   exact ⟨rfl, hS0.same hw⟩
  ·rw [if_neg (fun e => e.elim hu h2)]
   refine rk_seq ?_
   refine rk_region ?_
   refine wl_boxg _ rfl (by rfl) ?_
   rintro g4 w4 f4 b4 i4 i4_1
   have s4 := b4.size
   replace hw := hw.trans (b4.mono hw.size)
   refine wl_p (fun _ => o_assign rfl) ?_
   refine wl_nil ?_
   refine rk_seq ?_
   refine rk_draw (id := 1) (none) [0, 1, 2, 0, 12, 16, 32, 32, 127, 511] [0, 1, 3, 0, 15, 31, 63, 63, 127, 511] 16 0 [(.p, 0), (.p, 1), (.r, 2), (.r, 3), (.l, 4), (.p, 5), (.p, 6), (.p, 7), (.p, 8), (.p, 9)] (by kernel_rfl) (by kernel_rfl) (by kernel_rfl) (by kernel_rfl) (by kernel_rfl) ?_
   replace hw := hw.drew
   replace f4 := f4.d
   refine wl_p (fun _ => o_move rfl) ?_
   refine wl_p (fun _ => o_nil rfl) ?_
   refine wl_r (o_loadbg Tryz.isAgg29 rfl (f0.u hw) (by rfl)) ?_
   refine wl_r (o_ldKyB rfl f4) ?_
   refine wl_call rfl (C_bsK _ (f3.u hw).to_RKs rfl (by omega) (by omega)) ?_
   rintro v14 w14 ⟨rfl, b14⟩
   simp only [drew_size] at b14
   have s14 := b14.size
   simp only [drew_size] at s14
   replace hw := hw.trans (b14.mono hw.size)
   replace f4 := f4.u b14
   refine wl_p (fun _ => o_move rfl) ?_
   refine wl_p (fun _ => o_ext20 rfl) ?_
   refine wl_p (fun _ => o_ext21 rfl) ?_
   refine wl_p (fun _ => o_assign rfl) ?_
   refine wl_p (fun _ => o_assign rfl) ?_
   refine wl_nild ?_
   refine rk_seq ?_
   refine rk_seq ?_
   refine rk_region ?_
   refine wl_p (fun _ => o_move rfl) ?_
   refine wl_p (fun _ => o_move rfl) ?_
   refine wl_know 18 false rfl (decide_eq_false (by omega)) ?_
   refine wl_p (fun _ => o_move rfl) ?_
   refine wl_p (fun _ => o_nil rfl) ?_
   refine wl_r (o_loadbg Tryz.isAgg29 rfl (f0.u hw) (by rfl)) ?_
   refine wl_p (fun _ => o_len (t := 29) Tryz.underlying29 rfl) ?_
   refine wl_p (fun _ => o_move rfl) ?_
   refine wl_p (fun _ => o_ge rfl rfl) ?_
   refine wl_p (fun _ => o_pick_f rfl rfl) ?_
   refine wl_nil ?_
   refine rk_if rfl (fun h25 => absurd h25 (by omega)) (fun h25 => ?_)
   refine rk_skip ?_
   refine rk_seq ?_
   refine rk_draw (id := 4) (none) [0, 0, 2, 4, 0, 0, 32, 88, 255, 511] [0, 0, 2, 6, 0, 0, 32, 126, 255, 511] 704 64 [(.p, 0), (.p, 1), (.p, 2), (.s, 3), (.p, 4), (.r, 5), (.c, 6), (.l, 7), (.p, 8), (.l, 9)] (by kernel_rfl) (by kernel_rfl) (by kernel_rfl) (by kernel_rfl) (by kernel_rfl) ?_
   replace hw := hw.drew
   replace f4 := f4.d
   refine wl_p (fun _ => o_move rfl) ?_
   refine wl_p (fun _ => o_move rfl) ?_
   refine wl_p (fun _ => o_nil rfl) ?_
   refine wl_s (fun _ hk => (o_loadbg Tryz.isAgg29 rfl ((f0.u hw).u (below_of_grown_none hk)) (by rfl))) ?_
   refine wl_p (fun _ => o_move rfl) ?_
   refine wl_r (o_ldKyB rfl f4) ?_
   refine wl_litKs1 (by rfl) rfl (by rfl) ?_
   rintro A32 w32 f32 b32
   simp only [drew_size] at f32
   simp only [drew_size] at b32
   have qf32 := f32.cap
   have s32 := b32.size
   simp only [drew_size] at s32
   replace hw := hw.trans (b32.mono hw.size)
   replace f4 := f4.u b32
   rw [decide_eq_false h]
   refine wl_call rfl (K_insK w32 (f3.u hw) f32 (by have := hw.size; omega) rfl rfl hkl hl (by have := hw.size; omega)) ?_
   rintro _ w33 ⟨A33, c33, rfl, f33, g33, b33, t33⟩
   have f0b := (f0.u hw).y g33 (by decide)
   have f1b := (f1.u hw).y g33 (by decide)
   have fob := (f2.u hw).keepNe g33 q7
   have hcg : Chg g (g + 1) w33 w33 := Chg.refl
   have hst := f0b.at_
   have hws := hw.size
   have hgs := g33.size
   have hw14 := hw
   have q9 : ∀ k, blk A2 = some k → blk A33 ≠ some k := fun k hk e => by
    rcases t33 with t | t
    ·rw [t] at e; exact q7 k hk e
    ·have h5 := t k e
     have h6 := (f2.rng k hk).2
     omega
   clear hw f32
   refine wl_p (fun _ => o_nil rfl) ?_
   refine wl_storeg1 Tryz.sizeOf29 rfl rfl (by rfl) f0b (by simp) ?_
   rintro w_1 f g_1 e
   have s := g_1.size
   replace hcg := hcg.trans (Chg.of_g1 g_1.g (by omega) (by omega))
   replace fob := fob.y g_1 (by decide)
   replace f1b := f1b.y g_1 (by decide)
   replace f33 := f33.y g_1 (by decide)
   clear f0b
   refine wl_nild ?_
   refine rk_seq ?_
   refine rk_region ?_
   refine wl_p (fun _ => o_assign rfl) ?_
   refine wl_nil ?_
   refine ret1 rfl rfl ?_
   have hcs := hcg.size
   exact ⟨rfl, ⟨A, ca, A2, c2, A33, c33, f, f1b.base (Nat.le_refl _) (by omega), fob.base (Nat.le_refl _) (by omega), f33.base (Nat.le_refl _) (by omega), q9, by omega⟩, ⟨w32, w33, none, blk A3, Grew.none_ hw14, g33, Grew.of_chg1 hcg hst, fun k hk => (by cases hk), fun k hk => (f3.rng k hk).1⟩⟩
end Go.Proofs.YtahkeoegbjopfaaGreat
/-
  Walks of package ops: a value put; what an op does to a state.
-/
namespace Go.Proofs.YtahkeoegbjopfaaGreat
set_option maxRecDepth 100000
open Go.RowKit
theorem part_set {xs : List Value} {m i r : Nat} {v : Value} (hr : r < m) : part (xs.set (i * m + r) v) m i = (part xs m i).set r v := by
 apply List.ext_getElem?
 intro q
 by_cases hq : q < m
 ·rw [part_get hq, List.getElem?_set, List.getElem?_set, part_get hq]
  by_cases h : r = q
  ·subst h
   rw [if_pos rfl, if_pos rfl]
   have hlp : (part xs m i).length = min m (xs.length - i * m) := by unfold part; rw [List.length_take, List.length_drop]
   by_cases h2 : i * m + r < xs.length
   ·have h3 : r < (part xs m i).length := by omega
    simp [h2, h3]
   ·have h3 : ¬ r < (part xs m i).length := by omega
    simp [h2, h3]
  ·rw [if_neg (by omega), if_neg h]
 ·have hl : ∀ ys : List Value, (part ys m i).length ≤ m := fun ys => by unfold part; rw [List.length_take]; omega
  rw [List.getElem?_eq_none (by have := hl (xs.set (i * m + r) v); omega), List.getElem?_eq_none (by rw [List.length_set]; have := hl xs; omega)]
theorem part_set_ne {xs : List Value} {m i j r : Nat} {v : Value} (hr : r < m) (hne : i ≠ j) : part (xs.set (j * m + r) v) m i = part xs m i := by
 apply List.ext_getElem?
 intro q
 by_cases hq : q < m
 ·rw [part_get hq, part_get hq, List.getElem?_set, if_neg]
  intro e
  rcases Nat.lt_or_ge i j with h | h
  ·have : (i + 1) * m ≤ j * m := Nat.mul_le_mul_right _ h
   rw [Nat.add_mul, Nat.one_mul] at this; omega
  ·have : (j + 1) * m ≤ i * m := Nat.mul_le_mul_right _ (by omega)
   rw [Nat.add_mul, Nat.one_mul] at this; omega
 ·have hl : ∀ ys : List Value, (part ys m i).length ≤ m := fun ys => by unfold part; rw [List.length_take]; omega
  rw [List.getElem?_eq_none (by have := hl (xs.set (j * m + r) v); omega), List.getElem?_eq_none (by have := hl xs; omega)]
theorem Pts.setV {w : World} {xs : List Value} {I : List (By × By)} {j d : Nat} {V : Option Addr} {q : By} (h : Pts gItem w xs I) (hj : j < I.length) (hV : RdT w V q) (h5 : q.length ≤ d) (h6 : d ≤ maxLen) : Pts gItem w (xs.set (j * 2 + 1) (.slice V q.length d)) (I.set j (I[j].1, q)) := by
 refine ⟨by rw [List.length_set, List.length_set]; exact h.n, fun i hi => ?_⟩
 rw [List.length_set] at hi
 show gItem.T w (part (xs.set (j * 2 + 1) (.slice V q.length d)) 2 i) _
 rw [List.getElem_set]
 by_cases e : j = i
 ·subst e
  rw [if_pos rfl, part_set (by omega)]
  obtain ⟨c1, c2, e1, ⟨A, c, rfl, hA⟩, A2, c2', rfl, _⟩ := h.t j hj
  rw [show part xs 2 j = [.slice A I[j].1.length c] ++ [.slice A2 I[j].2.length c2'] from e1]
  exact ⟨[.slice A I[j].1.length c], [.slice V q.length d], rfl, ⟨A, c, rfl, hA⟩, V, d, rfl, hV, h5, h6⟩
 ·rw [if_neg e, part_set_ne (by omega) (fun e2 => e e2.symm)]
  exact h.t i hi
section
variable {fn : Func} {F : Ending → World → Prop} {N : Nat} {ks : List K} {ops : Array Oper} {tg : Tags} {l : List Oper} {fr : Fr} {w : World} {ty : TypeId} {pos : String} {aft : Array Edge} {gd : Option (Nat × Bool)} {m d c j lo hi : Nat} {x y : Operand} {A V : Option Addr} {I : List (By × By)} {q : By}
theorem wl_stVal (hx : fr.ev x = some (.pointer (some (adr A (j * 2 + 1))))) (hown : OwnI w lo hi A c I) (hy : fr.ev y = some (.slice V m d)) (hm : m = q.length) (hV : RdT w V q) (h5 : q.length ≤ d) (h6 : d ≤ maxLen) (hj : j < I.length)
  (hk : ∀ w', OwnI w' lo hi A c (I.set j (I[j].1, q)) → Grew w w' 94 (blk A) → w'.heap.size = w.heap.size → WL Tryz.prog fn F N ks ops tg.tail l fr w') (ht : tg.loud = true := by rfl) (hg : onG ops fr gd = true := by rfl) (hq : tg.calm = false ∨ tg.rw.may (blk A) := by exact .inl rfl) :
  WL Tryz.prog fn F N ks ops tg (⟨none, .store 39 x y, ty, pos, aft, gd⟩ :: l) fr w := by
 subst hm
 have hty := hown.ty
 obtain ⟨xs, hrow, hp⟩ := OwnS.pts hown
 have hcm := row_max hrow
 obtain ⟨g, cur, rfl, g1, g2, hB, g3, g4, g5⟩ := hrow.blk_ (by omega)
 have g4' : cur.length = c * 2 := g4
 have ead : adr (some (⟨g, 0, none⟩ : Addr)) (j * 2 + 1) = ⟨g, j * 2 + 1, none⟩ := by simp [adr, add_plain]
 rw [ead] at hx
 obtain ⟨w', hr, hB', hgr, hsz⟩ := run_storeCells_blk (P := Tryz.prog) (o := j * 2 + 1) [.slice V q.length d] 0 cur w hB (fun v hv => by simp only [List.mem_singleton] at hv; subst hv; rfl) (by simp; omega)
 have gg : Grew w w' 94 (some g) := ⟨hgr, hty⟩
 refine wl_u (w' := w') (fun a ha op hop => ?_) (hk w' ?_ gg hsz) ht hg (hq.imp id (Rw.of_may hgr))
 ·have hcs : (Value.slice V q.length d).cells = #[Value.slice V q.length d] := rfl
  simp [execOp, hop, ha.ev hx, ha.ev hy, Instr.storeAt, Instr.sureAddr, storeVar, hcs, Tryz.sizeOf39, hr]
 ·have hpp := (hp.setV hj hV h5 h6).ty gg (by simp [gItem_tys])
  refine hpp.own ?_
  rw [List.length_set]
  have e1 : spl cur (j * 2 + 1 + 0) [.slice V q.length d] = cur.set (j * 2 + 1) (.slice V q.length d) := by
   rw [Nat.add_zero]
   apply List.ext_getElem?
   intro i
   rw [getElem_spl (by simp; omega), List.getElem?_set]
   by_cases h : j * 2 + 1 = i
   ·subst h; simp [show j * 2 + 1 < cur.length by omega]
   ·rw [if_neg h, if_neg (by simp; omega)]
  rw [e1] at hB'
  refine row_of_blk hB' g1 g2 (by rw [List.length_set, g4]) g3 hcm (by rw [List.length_set]; exact hp.n) ?_
  rw [← g5]
  show (cur.set (j * 2 + 1) _).take (I.length * 2) = (cur.take (I.length * 2)).set _ _
  rw [List.take_set]
end
set_option maxRecDepth 100000 in
theorem K_doPut {K V : Option Addr} {p q : By} {n c m d B g : Nat} {k : Int} {u : Ky} {S : Stt} (w : World) (hS : StAt w B g S) (hK : Rd w K p) (hV : Rd w V q) (hn : n = p.length) (hm : m = q.length) (hp : p.length ≤ 4000000) (hq : q.length ≤ 4000000) (hl : S.1.length ≤ 100000) (hL : LtI S.1) (hs : Srt (S.1.map Prod.fst)) :
  CallsR Tryz.prog 72 [.pointer (some ⟨g, 0, none⟩), .agg (opC k K n c V m d u).toArray] w fun v w' => v = .bool (putS S.1 p q).2 ∧ StAt w' B g ((putS S.1 p q).1, S.2) ∧ StCh B g w w' := by
 subst hn; subst hm
 have hS0 := hS
 obtain ⟨I, X, Y⟩ := S
 obtain ⟨A, ca, A2, c2, A3, c3, f0, f1, f2, f3, q7, q8⟩ := hS.ex
 dsimp only at f0 f1 f2 f3 hl hL hs ⊢
 unfold putS
 refine callsR Tryz.func72 rfl rfl (by kernel_rfl) rfl ?_
 have hw := Below.refl w.heap.size w
 by_cases h : p ∈ I.map Prod.fst
 ·rw [if_pos h]
  obtain ⟨hk, e1⟩ := mem_low hs h
  have hA1 : A = some (A.getD ⟨0, 0, none⟩) := (OwnI.to_RI f1).some_ (by omega)
  refine rk_seq ?_
  refine rk_region ?_
  refine wl_boxg _ rfl (by rfl) ?_
  rintro g3 w3 f3_1 b3 i3 i3_1
  have s3 := b3.size
  replace hw := hw.trans (b3.mono hw.size)
  refine wl_p (fun _ => o_assign rfl) ?_
  refine wl_nil ?_
  refine rk_seq ?_
  refine rk_draw (id := 1) (none) [0, 1, 2, 4, 0, 16, 40, 64, 128, 128, 511, 2047] [0, 1, 3, 7, 0, 16, 63, 127, 255, 255, 511, 2047] 64 0 [(.p, 0), (.p, 1), (.p, 2), (.r, 3), (.p, 4), (.r, 5), (.l, 6), (.p, 7), (.p, 8), (.p, 9), (.p, 10), (.p, 11)] (by kernel_rfl) (by kernel_rfl) (by kernel_rfl) (by kernel_rfl) (by kernel_rfl) ?_
  replace hw := hw.drew
  replace f3_1 := f3_1.d
  refine wl_p (fun _ => o_move rfl) ?_
  refine wl_p (fun _ => o_nil rfl) ?_
  refine wl_p (fun _ => o_faddr (s := 31) (i := 0) (off := 0) Tryz.underlying31 rfl Tryz.sizeOf28 rfl rfl rfl) ?_
  refine wl_r (o_loadbg Tryz.isAgg28 rfl (f0.u hw) (by rfl)) ?_
  refine wl_p (fun _ => o_faddr (s := 54) (i := 1) (off := 1) Tryz.underlying54 rfl Tryz.sizeOf39 rfl rfl rfl) ?_
  refine wl_r (o_loadbg Tryz.isAgg39 rfl f3_1 (by rfl)) ?_
  refine wl_call rfl (C_find _ (f1.u hw).to_RI (hK.u hw) rfl rfl (by omega) (by omega) (by omega) (by omega)) ?_
  rintro v14 w14 ⟨rfl, b14⟩
  simp only [drew_size] at b14
  have s14 := b14.size
  simp only [drew_size] at s14
  replace hw := hw.trans (b14.mono hw.size)
  replace f3_1 := f3_1.u b14
  refine wl_p (fun _ => o_move rfl) ?_
  refine wl_p (fun _ => o_ext20 rfl) ?_
  refine wl_p (fun _ => o_ext21 rfl) ?_
  refine wl_p (fun _ => o_assign rfl) ?_
  refine wl_p (fun _ => o_assign rfl) ?_
  refine wl_nild ?_
  refine rk_seq ?_
  refine rk_seq ?_
  refine rk_region ?_
  refine wl_p (fun _ => o_move rfl) ?_
  refine wl_nil ?_
  refine rk_if rfl (fun h17 => ?_) (fun h17 => h17.elim (by omega))
  refine rk_seq ?_
  refine rk_draw (id := 3) (none) [0, 1, 2, 4, 0, 0, 32, 64, 255, 511, 767] [0, 1, 3, 7, 0, 0, 32, 96, 255, 511, 1023] 1152 128 [(.p, 0), (.p, 1), (.p, 2), (.s, 3), (.p, 4), (.p, 5), (.r, 6), (.c, 7), (.p, 8), (.p, 9), (.l, 10)] (by kernel_rfl) (by kernel_rfl) (by kernel_rfl) (by kernel_rfl) (by kernel_rfl) ?_
  replace hw := hw.drew
  replace f3_1 := f3_1.d
  refine wl_p (fun _ => o_move rfl) ?_
  refine wl_p (fun _ => o_nil rfl) ?_
  refine wl_p (fun _ => o_faddr (s := 31) (i := 0) (off := 0) Tryz.underlying31 rfl Tryz.sizeOf28 rfl rfl rfl) ?_
  refine wl_s (fun _ hk => (o_loadbg Tryz.isAgg28 rfl ((f0.u hw).u (below_of_grown_none hk)) (by rfl))) ?_
  refine wl_p (fun _ => o_move rfl) ?_
  refine wl_p (fun _ => o_faddr (s := 54) (i := 2) (off := 2) Tryz.underlying54 rfl Tryz.sizeOf39 rfl rfl rfl) ?_
  refine wl_r (o_loadbg Tryz.isAgg39 rfl f3_1 (by rfl)) ?_
  refine wl_call rfl (C_bClone _ (hV.u hw) rfl (by omega)) ?_ (hq := .inr fun _ _ h => grown_of_below h.choose_spec.choose_spec.2.2 _)
  rintro v25 w25 ⟨A25, ⟨c25, ⟨rfl, ⟨f25, b25⟩⟩⟩⟩
  simp only [drew_size] at f25
  simp only [drew_size] at b25
  have qf25 := f25.cap
  have s25 := b25.size
  simp only [drew_size] at s25
  replace hw := hw.trans (b25.mono hw.size)
  replace f3_1 := f3_1.u b25
  refine wl_p (fun _ => o_iaddrA (low (I.map Prod.fst) p) Tryz.underlying28 Tryz.sizeOf94 rfl rfl rfl hA1 hk) ?_
  refine wl_p (fun _ => (o_faddrR rfl Tryz.underlying94 (by rfl) Tryz.sizeOf39 (by rfl) (by rfl))) ?_
  refine wl_stVal (I := I) (q := q) rfl (f1.u hw) rfl rfl f25.to_RdT f25.cap (own_max f25) hk ?_
  intro w27 f27 g27 s27
  rw [e1] at f27
  have f0b := (f0.u hw).y g27 (by decide)
  have f2b := (f2.u hw).y g27 (by decide)
  have f3b := (f3.u hw).y g27 (by decide)
  have hws := hw.size
  have hwp := hw
  clear hw f25 f3_1
  refine wl_nild ?_
  refine rk_seq ?_
  refine rk_region ?_
  refine wl_p (fun _ => o_assign rfl) ?_
  refine wl_nil ?_
  refine ret1 rfl rfl ?_
  exact ⟨rfl, ⟨A, ca, A2, c2, A3, c3, by rw [List.length_set]; exact f0b, f27.base (Nat.le_refl _) (by omega), f2b.base (Nat.le_refl _) (by omega), f3b.base (Nat.le_refl _) (by omega), q7, by omega⟩, ⟨w27, w27, blk A, none, Grew.after hwp g27 f1.ty, Grew.none_ (Below.refl _ _), Grew.of_below (Below.refl _ _) f0b.at_, fun k hk => (f1.rng k hk).1, fun k hk => (by cases hk)⟩⟩
 ·rw [if_neg h]
  have hkl : low (I.map Prod.fst) p ≤ I.length := by have := low_le (I.map Prod.fst) p; rwa [List.length_map] at this
  by_cases h2 : 1024 ≤ I.length
  ·rw [if_pos h2]
   refine rk_seq ?_
   refine rk_region ?_
   refine wl_boxg _ rfl (by rfl) ?_
   rintro g3 w3 f3_1 b3 i3 i3_1
   have s3 := b3.size
   replace hw := hw.trans (b3.mono hw.size)
   refine wl_p (fun _ => o_assign rfl) ?_
   refine wl_nil ?_
   refine rk_seq ?_
   refine rk_draw (id := 1) (none) [0, 1, 2, 4, 0, 16, 40, 64, 128, 128, 511, 2047] [0, 1, 3, 7, 0, 16, 63, 127, 255, 255, 511, 2047] 64 0 [(.p, 0), (.p, 1), (.p, 2), (.r, 3), (.p, 4), (.r, 5), (.l, 6), (.p, 7), (.p, 8), (.p, 9), (.p, 10), (.p, 11)] (by kernel_rfl) (by kernel_rfl) (by kernel_rfl) (by kernel_rfl) (by kernel_rfl) ?_
   replace hw := hw.drew
   replace f3_1 := f3_1.d
   refine wl_p (fun _ => o_move rfl) ?_
   refine wl_p (fun _ => o_nil rfl) ?_
   refine wl_p (fun _ => o_faddr (s := 31) (i := 0) (off := 0) Tryz.underlying31 rfl Tryz.sizeOf28 rfl rfl rfl) ?_
   refine wl_r (o_loadbg Tryz.isAgg28 rfl (f0.u hw) (by rfl)) ?_
   refine wl_p (fun _ => o_faddr (s := 54) (i := 1) (off := 1) Tryz.underlying54 rfl Tryz.sizeOf39 rfl rfl rfl) ?_
   refine wl_r (o_loadbg Tryz.isAgg39 rfl f3_1 (by rfl)) ?_
   refine wl_call rfl (C_find _ (f1.u hw).to_RI (hK.u hw) rfl rfl (by omega) (by omega) (by omega) (by omega)) ?_
   rintro v14 w14 ⟨rfl, b14⟩
   simp only [drew_size] at b14
   have s14 := b14.size
   simp only [drew_size] at s14
   replace hw := hw.trans (b14.mono hw.size)
   replace f3_1 := f3_1.u b14
   refine wl_p (fun _ => o_move rfl) ?_
   refine wl_p (fun _ => o_ext20 rfl) ?_
   refine wl_p (fun _ => o_ext21 rfl) ?_
   refine wl_p (fun _ => o_assign rfl) ?_
   refine wl_p (fun _ => o_assign rfl) ?_
   refine wl_nild ?_
   refine rk_seq ?_
   refine rk_seq ?_
   refine rk_region ?_
   refine wl_p (fun _ => o_move rfl) ?_
   refine wl_nil ?_
   refine rk_if rfl (fun h17 => absurd h17 (by omega)) (fun h17 => ?_)
   refine rk_skip ?_
   refine rk_seq ?_
   refine rk_seq ?_
   refine rk_region ?_
   refine wl_p (fun _ => o_move rfl) ?_
   refine wl_p (fun _ => o_nil rfl) ?_
   refine wl_p (fun _ => o_faddr (s := 31) (i := 0) (off := 0) Tryz.underlying31 rfl Tryz.sizeOf28 rfl rfl rfl) ?_
   refine wl_r (o_loadbg Tryz.isAgg28 rfl (f0.u hw) (by rfl)) ?_
   refine wl_p (fun _ => o_len (t := 28) Tryz.underlying28 rfl) ?_
   refine wl_p (fun _ => o_ge rfl rfl) ?_
   refine wl_nil ?_
   refine rk_if rfl (fun h33 => ?_) (fun h33 => h33.elim (by omega))
   refine rk_seq ?_
   refine rk_region ?_
   refine wl_p (fun _ => o_assign rfl) ?_
   refine wl_nil ?_
   refine ret1 rfl rfl ?_
   exact ⟨rfl, hS0.same hw⟩
  ·rw [if_neg h2]
   refine rk_seq ?_
   refine rk_region ?_
   refine wl_boxg _ rfl (by rfl) ?_
   rintro g3 w3 f3_1 b3 i3 i3_1
   have s3 := b3.size
   replace hw := hw.trans (b3.mono hw.size)
   refine wl_p (fun _ => o_assign rfl) ?_
   refine wl_nil ?_
   refine rk_seq ?_
   refine rk_draw (id := 1) (none) [0, 1, 2, 4, 0, 16, 40, 64, 128, 128, 511, 2047] [0, 1, 3, 7, 0, 16, 63, 127, 255, 255, 511, 2047] 64 0 [(.p, 0), (.p, 1), (.p, 2), (.r, 3), (.p, 4), (.r, 5), (.l, 6), (.p, 7), (.p, 8), (.p, 9), (.p, 10), (.p, 11)] (by kernel_rfl) (by kernel_rfl) (by kernel_rfl) (by kernel_rfl) (by kernel_rfl) ?_
   replace hw := hw.drew
   replace f3_1 := f3_1.d
   refine wl_p (fun _ => o_move rfl) ?_
   refine wl_p (fun _ => o_nil rfl) ?_
   refine wl_p (fun _ => o_faddr (s := 31) (i := 0) (off := 0) Tryz.underlying31 rfl Tryz.sizeOf28 rfl rfl rfl) ?_
   refine wl_r (o_loadbg Tryz.isAgg28 rfl (f0.u hw) (by rfl)) ?_
   refine wl_p (fun _ => o_faddr (s := 54) (i := 1) (off := 1) Tryz.underlying54 rfl Tryz.sizeOf39 rfl rfl rfl) ?_
   refine wl_r (o_loadbg Tryz.isAgg39 rfl f3_1 (by rfl)) ?_
   refine wl_call rfl (C_find _ (f1.u hw).to_RI (hK.u hw) rfl rfl (by omega) (by omega) (by omega) (by omega)) ?_
   rintro v14 w14 ⟨rfl, b14⟩
   simp only [drew_size] at b14
   have s14 := b14.size
   simp only [drew_size] at s14
   replace hw := hw.trans (b14.mono hw.size)
   replace f3_1 := f3_1.u b14
   refine wl_p (fun _ => o_move rfl) ?_
   refine wl_p (fun _ => o_ext20 rfl) ?_
   refine wl_p (fun _ => o_ext21 rfl) ?_
   refine wl_p (fun _ => o_assign rfl) ?_
   refine wl_p (fun _ => o_assign rfl) ?_
   refine wl_nild ?_
   refine rk_seq ?_
   refine rk_seq ?_
   refine rk_region ?_
   refine wl_p (fun _ => o_move rfl) ?_
   refine wl_nil ?_
   refine rk_if rfl (fun h17 => absurd h17 (by omega)) (fun h17 => ?_)
   refine rk_skip ?_
   refine rk_seq ?_
   refine rk_seq ?_
   refine rk_region ?_
   refine wl_p (fun _ => o_move rfl) ?_
   refine wl_p (fun _ => o_nil rfl) ?_
   refine wl_p (fun _ => o_faddr (s := 31) (i := 0) (off := 0) Tryz.underlying31 rfl Tryz.sizeOf28 rfl rfl rfl) ?_
   refine wl_r (o_loadbg Tryz.isAgg28 rfl (f0.u hw) (by rfl)) ?_
   refine wl_p (fun _ => o_len (t := 28) Tryz.underlying28 rfl) ?_
   refine wl_p (fun _ => o_ge rfl rfl) ?_
   refine wl_nil ?_
   refine rk_if rfl (fun h33 => absurd h33 (by omega)) (fun h33 => ?_)
   refine rk_skip ?_
   refine rk_seq ?_
   refine rk_drawo (id := 7) (none) [0, 0, 2, 4, 8, 0, 0, 64, 128, 0, 512, 1280, 2304, 4096, 10288, 32767, 65535, 98303] [0, 0, 2, 6, 14, 0, 0, 64, 192, 0, 512, 1984, 4032, 8128, 16382, 32767, 65535, 131071] 157952 10496 [0, 1, 2, 3, 4, 5, 6, 7, 9, 10, 8, 11, 12, 13, 14, 15, 16, 17] [(.p, 0), (.p, 1), (.p, 2), (.p, 3), (.s, 4), (.p, 5), (.p, 6), (.r, 7), (.p, 9), (.s, 10), (.c, 8), (.c, 11), (.p, 12), (.c, 13), (.l, 14), (.p, 15), (.p, 16), (.l, 17)] (by kernel_rfl) (by kernel_rfl) (by kernel_rfl) (by kernel_rfl) (by kernel_rfl) ?_
   dsimp only [inOrder, nthOp]
   replace hw := hw.drew
   replace f3_1 := f3_1.d
   refine wl_p (fun _ => o_move rfl) ?_
   refine wl_p (fun _ => o_move rfl) ?_
   refine wl_p (fun _ => o_nil rfl) ?_
   refine wl_p (fun _ => o_faddr (s := 31) (i := 0) (off := 0) Tryz.underlying31 rfl Tryz.sizeOf28 rfl rfl rfl) ?_
   refine wl_s (fun _ hk => (o_loadbg Tryz.isAgg28 rfl ((f0.u hw).u (below_of_grown_none hk)) (by rfl))) ?_
   refine wl_p (fun _ => o_move rfl) ?_
   refine wl_p (fun _ => o_faddr (s := 54) (i := 1) (off := 1) Tryz.underlying54 rfl Tryz.sizeOf39 rfl rfl rfl) ?_
   refine wl_r (o_loadbg Tryz.isAgg39 rfl f3_1 (by rfl)) ?_
   refine wl_p (fun _ => o_faddr (s := 54) (i := 2) (off := 2) Tryz.underlying54 rfl Tryz.sizeOf39 rfl rfl rfl) ?_
   refine wl_s (fun _ hk => (o_loadbg Tryz.isAgg39 rfl (f3_1.u (below_of_grown_none hk)) (by rfl))) ?_
   refine wl_call rfl (C_bClone _ (hK.u hw) rfl (by omega)) ?_ (hq := .inr fun _ _ h => grown_of_below h.choose_spec.choose_spec.2.2 _)
   rintro v42 w42 ⟨A42, ⟨c42, ⟨rfl, ⟨f42, b42⟩⟩⟩⟩
   simp only [drew_size] at f42
   simp only [drew_size] at b42
   have qf42 := f42.cap
   have s42 := b42.size
   simp only [drew_size] at s42
   replace hw := hw.trans (b42.mono hw.size)
   replace f3_1 := f3_1.u b42
   refine wl_call rfl (C_bClone _ (hV.u hw) rfl (by omega)) ?_ (hq := .inr fun _ _ h => grown_of_below h.choose_spec.choose_spec.2.2 _)
   rintro v45 w45 ⟨A45, ⟨c45, ⟨rfl, ⟨f45, b45⟩⟩⟩⟩
   have qf45 := f45.cap
   have s45 := b45.size
   replace hw := hw.trans (b45.mono hw.size)
   replace f3_1 := f3_1.u b45
   replace f42 := f42.u b45
   refine wl_p (fun _ => (o_buildg [_, _] Tryz.underlying94 Tryz.zeroValue94 (by rfl) (by rfl) rfl (by rfl) (by rfl) (fun _ => by kernel_rfl))) ?_
   have m1 := own_max f42
   have m2 := own_max f45
   refine wl_litItm (by rfl) rfl f42.to_RdT f45.to_RdT rfl rfl (by omega) (by omega) (by omega) (by omega) (by rfl) ?_
   rintro A47 w47 f47 b47
   have qf47 := f47.cap
   have s47 := b47.size
   replace hw := hw.trans (b47.mono hw.size)
   replace f42 := f42.u b47
   replace f3_1 := f3_1.u b47
   replace f45 := f45.u b47
   refine wl_call rfl (K_insI w47 (f1.u hw) f47 (by have := hw.size; omega) rfl rfl hkl hl (by have := hw.size; omega)) ?_
   rintro _ w48 ⟨A48, c48, rfl, f48, g48, b48, t48⟩
   have f0b := (f0.u hw).y g48 (by decide)
   have f2b := (f2.u hw).y g48 (by decide)
   have f3b := (f3.u hw).y g48 (by decide)
   have hcg : Chg g (g + 1) w48 w48 := Chg.refl
   have hst := f0b.at_
   have hws := hw.size
   have hgs := g48.size
   have hwp := hw
   clear hw f47 f42 f45 f3_1
   refine wl_p (fun _ => o_nil rfl) ?_
   refine wl_p (fun _ => o_faddr (s := 31) (i := 0) (off := 0) Tryz.underlying31 rfl Tryz.sizeOf28 rfl rfl rfl) ?_
   refine wl_storeg1 Tryz.sizeOf28 rfl rfl (by rfl) f0b (by simp) ?_
   rintro w_1 f g_1 e
   have s := g_1.size
   replace hcg := hcg.trans (Chg.of_g1 g_1.g (by omega) (by omega))
   replace f3b := f3b.y g_1 (by decide)
   replace f2b := f2b.y g_1 (by decide)
   replace f48 := f48.y g_1 (by decide)
   clear f0b
   refine wl_nild ?_
   refine rk_seq ?_
   refine rk_region ?_
   refine wl_p (fun _ => o_assign rfl) ?_
   refine wl_nil ?_
   refine ret1 rfl rfl ?_
   have hcs := hcg.size
   exact ⟨rfl, ⟨A48, c48, A2, c2, A3, c3, f, f48.base (Nat.le_refl _) (by omega), f2b.base (Nat.le_refl _) (by omega), f3b.base (Nat.le_refl _) (by omega), q7, by omega⟩, ⟨w48, w48, blk A, none, Grew.after hwp g48 f1.ty, Grew.none_ (Below.refl _ _), Grew.of_chg1 hcg hst, fun k hk => (f1.rng k hk).1, fun k hk => (by cases hk)⟩⟩
end Go.Proofs.YtahkeoegbjopfaaGreat
