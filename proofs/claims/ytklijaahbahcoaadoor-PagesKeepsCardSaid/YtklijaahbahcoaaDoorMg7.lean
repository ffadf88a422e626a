/-
  Walks of a page file: Open, New, Read, Used, Keep.
-/
import Derived.Test.YtklijaahbahcoaaDoorMg6
import Derived.Laws.OwnMore
namespace Go.Proofs.YtklijaahbahcoaaDoor
set_option maxRecDepth 100000
open Go.RowKit
/-! The sectors as they are read. -/
def sAt (X : List Sec) (i : Nat) : By := if h : i < X.length then X[i].1 else []
theorem sAt_of {X : List Sec} {i : Nat} (h : i < X.length) : sAt X i = X[i].1 := dif_pos h
theorem sAt_len {X : List Sec} {i : Nat} (h : i < X.length) : (sAt X i).length = 256 := by rw [sAt_of h]; exact X[i].2
theorem rdD_at {S : List Sec} {C : List (Option Sec)} {i : Nat} (hl : C.length = S.length) (h : i < S.length) : rdD S C (i : Int) = (sAt (cur S C) i, 0) := by
  rw [rdD, dif_pos (by omega), cAt_nat C (by omega), sAt_of (by rw [cur_len]; exact h), cur_get S C i h (by omega)]
  rfl
/-- The bytes of a page, as they are read. -/
def pgAll (X : List Sec) (n : Nat) : By := sAt X (2 * n) ++ sAt X (2 * n + 1)
theorem pgAll_len {X : List Sec} {n : Nat} (h : 2 * n + 1 < X.length) : (pgAll X n).length = 512 := by rw [pgAll, List.length_append, sAt_len (by omega), sAt_len h]
theorem usdAt_lt {U : List Bool} {z : Int} (h : usdAt U z = true) : 0 ≤ z ∧ z.toNat < U.length := by
  rw [usdAt, Bool.and_eq_true, decide_eq_true_eq] at h
  refine ⟨h.1, ?_⟩
  rcases Nat.lt_or_ge z.toNat U.length with h1 | h1
  · exact h1
  · rw [getD_past U h1] at h; cases h.2
/-- What Read returns. -/
def readP (X : List Sec) (U : List Bool) (z : Int) : By × Nat :=
  if usdAt U z then (if pageL z.toNat ((pgAll X z.toNat).drop 12) = pgAll X z.toNat then ((pgAll X z.toNat).drop 12, 0) else ([], 4)) else ([], 6)
/-- What New returns, and leaves. -/
def newC (S : List Sec) (C : List (Option Sec)) (k : Nat) (p : By) : List (Option Sec) := (wrC S (wrC S C (2 * (k : Int)) (p.take 256)).1 (2 * (k : Int) + 1) (p.drop 256)).1
def newP (S : List Sec) (C : List (Option Sec)) (U : List Bool) (b : By) : (Nat × Nat) × List (Option Sec) × List Bool :=
  if 500 < b.length then ((0, 2), C, U) else if least U = U.length then ((0, 7), C, U) else ((least U, 0), newC S C (least U) (pageL (least U) b), U.set (least U) true)
def markAll (U : List Bool) (l : List Int) : List Bool := l.foldl (fun U z => U.set z.toNat true) U
theorem markAll_len : ∀ (l : List Int) (U : List Bool), (markAll U l).length = U.length
  | [], _ => rfl
  | z :: l, U => by rw [markAll, List.foldl_cons]; show (markAll _ l).length = _; rw [markAll_len l, List.length_set]
theorem markAll_snoc (l : List Int) (U : List Bool) (z : Int) : markAll U (l ++ [z]) = (markAll U l).set z.toNat true := by rw [markAll, List.foldl_append]; rfl
/-- What Keep returns, and leaves. -/
def keepP (U : List Bool) (l : List Int) : (Nat × Nat) × List Bool :=
  if l.all (usdAt U) then (((usd U U.length).length - (usd (markAll (List.replicate U.length false) l) U.length).length, 0), markAll (List.replicate U.length false) l) else ((0, 6), U)
def openOk (m : Nat) (l : List Int) : Bool := l.all fun z => decide (0 ≤ z ∧ z < (m : Int))
section
variable {fn : Func} {F : Ending → World → Prop} {N : Nat} {ks : List K} {ops : Array Oper} {tg : Tags} {l : List Oper} {fr : Fr} {w : World} {ty : TypeId} {pos : String} {aft : Array Edge} {gd : Option (Nat × Bool)} {k1 k2 : IntKind} {d : Nat} {x y : Operand}
--@ rule makeSlice l wl_mkU64
theorem wl_mkU64 {C E : Int} (n : Nat) (hx : fr.ev x = some (.int k1 E)) (hy : fr.ev y = some (.int k2 C)) (hE : E = (n : Int)) (hC : C = (n : Int)) (hn : n ≤ 1000000)
    (hk : ∀ A w', OwnK .u64 73 w' w.heap.size w'.heap.size A n (List.replicate n 0) → Below w.heap.size w w' → WL Tryd.prog fn F N ks ops tg.tail l ((d, .slice A n n) :: fr) w')
    (ht : tg.loud = true := by rfl) (hg : onG ops fr gd = true := by rfl) (hd : Nat.blt d N = true := by rfl) : WL Tryd.prog fn F N ks ops tg (⟨some d, .makeSlice 62 x y, ty, pos, aft, gd⟩ :: l) fr w := by
  subst hC; subst hE
  obtain ⟨i, hi, hz, hs, hb'⟩ := info_parts Tryd.rowU64.hi
  obtain ⟨w', hrun, r1, r2⟩ := run_make_full (P := Tryd.prog) w w.heap.size 62 73 i _ 1 Tryd.rowU64.ht hi hz hs k1 k2 n (by rw [hb']; omega) (by simp only [maxLen]; omega) (Nat.le_refl _)
  have hbl : Below w.heap.size w w' := (Below.refl _ _).grown r2 (Nat.le_refl _) (by simp)
  have e : (madeCells (Value.int .u64 0).cells (n * 1)).toList = vK .u64 (List.replicate n 0) := by
    rw [Nat.mul_one]; exact (toList_madeCells_one _ _).trans (by simp [vK])
  rw [e] at r1
  have ho : OwnK .u64 73 w' w.heap.size w'.heap.size (some ⟨w.heap.size, 0, none⟩) n (List.replicate n 0) :=
    ⟨by rw [List.length_replicate]; exact r1, fun k hk => (World.ownsRow.lt r1 k (by rw [blk_own]; exact hk)).2⟩
  exact wl_v (fun a ha o ho _ => by simp [execOp, ho, ha.ev hx, ha.ev hy, hrun]) (hk _ w' ho hbl) ht hg hd (.inr (grown_of_below hbl _))
--@ rule makeSlice l wl_mkZ0
theorem wl_mkZ0 {C E : Int} (n : Nat) (hx : fr.ev x = some (.int k1 E)) (hy : fr.ev y = some (.int k2 C)) (hE : E = 0) (hC : C = (n : Int)) (hn : n ≤ 1000000)
    (hk : ∀ A w', OwnZ w' w.heap.size w'.heap.size A n [] → Below w.heap.size w w' → WL Tryd.prog fn F N ks ops tg.tail l ((d, .slice A 0 n) :: fr) w')
    (ht : tg.loud = true := by rfl) (hg : onG ops fr gd = true := by rfl) (hd : Nat.blt d N = true := by rfl) : WL Tryd.prog fn F N ks ops tg (⟨some d, .makeSlice 35 x y, ty, pos, aft, gd⟩ :: l) fr w := by
  subst hC; subst hE
  obtain ⟨i, hi, hz, hs, hb'⟩ := info_parts Tryd.rowI.hi
  have hr := run_make (P := Tryd.prog) w 35 3 i _ Tryd.rowI.ht hi hz k1 k2 0 (n : Int) (by omega) (by omega) (by rw [hb']; omega) (by omega)
  have hsz : (madeCells (Value.int .i64 0).cells (n * 1)).size = n * 1 := size_madeCells _ _
  simp only [Int.toNat_natCast, Int.toNat_zero, hs] at hr
  generalize madeCells (Value.int .i64 0).cells (n * 1) = arr at hr hsz
  have hgb : w.grownBy (w.alloc (.cells arr 3)) none := World.grownBy_alloc w _ none
  have hbl : Below w.heap.size w (w.alloc (.cells arr 3)) := (Below.refl _ _).grown hgb (Nat.le_refl _) (by simp)
  have hlt : w.heap.size < (w.alloc (.cells arr 3)).heap.size := by show w.heap.size < (w.heap.push _).size; simp
  have hat : (w.alloc (.cells arr 3)).heap[w.heap.size]? = some (.cells arr 3) := by show (w.heap.push _)[w.heap.size]? = _; simp
  generalize w.alloc (.cells arr 3) = w' at hr hgb hbl hlt hat
  have ho : OwnZ w' w.heap.size w'.heap.size (some ⟨w.heap.size, 0, none⟩) n [] :=
    ⟨⟨rfl, .inr ⟨w.heap.size, n, arr, rfl, Nat.le_refl _, hat, Nat.zero_le _, by simp only [maxLen]; omega, hsz, by simp⟩⟩, fun k hk => by
      have : w.heap.size = k := by simpa [blk] using hk
      omega⟩
  exact wl_v (fun a ha o ho _ => by simp [execOp, ho, ha.ev hx, ha.ev hy, hr]) (hk _ _ ho hbl) ht hg hd (.inr (grown_of_below hbl _))
end
theorem C_pOpenNil {B : Option Addr} {n c : Nat} (w : World) :
    CallsR Tryd.prog 12 [.pointer none, .slice B n c] w fun v w' => v = .tuple #[.pointer none, .int .i64 1] ∧ Below w.heap.size w w' := by
  refine callsR Tryd.func12 rfl rfl (by kernel_rfl) rfl ?_
  have hw := Below.refl w.heap.size w
  refine rk_seq ?_
  refine rk_region ?_
  refine wl_p (fun _ => o_assign rfl) ?_
  refine wl_p (fun _ => o_assign rfl) ?_
  refine wl_nil ?_
  refine rk_seq ?_
  refine rk_seq ?_
  refine rk_region ?_
  refine wl_p (fun _ => o_move rfl) ?_
  refine wl_call rfl (C_dSizeNil _) ?_
  rintro v10 w10 ⟨rfl, rfl⟩
  refine wl_p (fun _ => o_eq rfl rfl) ?_
  refine wl_nil ?_
  refine rk_true rfl ?_
  refine rk_seq ?_
  refine rk_region ?_
  refine wl_p (fun _ => o_assign rfl) ?_
  refine wl_p (fun _ => o_assign rfl) ?_
  refine wl_nil ?_
  refine ret2 rfl rfl rfl ?_
  exact ⟨rfl, hw⟩
theorem C_pOpenOk {gd dl dh m n c : Nat} {B : Option Addr} {zs : List Int} {U : List Bool} {S : List Sec} {C : List (Option Sec)} (w : World) (hd : DkAt w dl dh gd S C) (hz : RZ w B zs) (hn : n = zs.length) (hnm : n ≤ 100000) (hm : S.length / 2 = m) (ho : openOk m zs = true) (hU : markAll (List.replicate m false) zs = U) :
    CallsR Tryd.prog 12 [.pointer (some ⟨gd, 0, none⟩), .slice B n c] w fun v w' => ∃ g, v = .tuple #[.pointer (some ⟨g, 0, none⟩), .int .i64 0] ∧ PgAt w' g gd w.heap.size w'.heap.size U ∧ w.heap.size ≤ g ∧ g < w'.heap.size ∧ Below w.heap.size w w' := by
  subst hn
  have hn1 := hd.n1
  have hn2 := hd.n2
  have hml : m ≤ 8192 := by omega
  have hdiv : (S.length : Int) / 2 = (m : Int) := by omega
  refine callsR Tryd.func12 rfl rfl (by kernel_rfl) rfl ?_
  have hw := Below.refl w.heap.size w
  refine rk_seq ?_
  refine rk_region ?_
  refine wl_p (fun _ => o_assign rfl) ?_
  refine wl_p (fun _ => o_assign rfl) ?_
  refine wl_nil ?_
  refine rk_seq ?_
  refine rk_seq ?_
  refine rk_region ?_
  refine wl_p (fun _ => o_move rfl) ?_
  refine wl_call rfl (C_dSize _ hd) ?_
  rintro v10 w10 ⟨rfl, rfl⟩
  refine wl_p (fun _ => o_eq rfl rfl) ?_
  refine wl_nil ?_
  refine rk_if rfl (fun h11 => absurd h11 (by omega)) (fun h11 => ?_)
  refine rk_skip ?_
  refine rk_seq ?_
  refine rk_region ?_
  refine wl_p (fun _ => o_move rfl) ?_
  refine wl_p (fun _ => o_move rfl) ?_
  refine wl_call rfl (C_dSize _ hd) ?_
  rintro v14 w14 ⟨rfl, rfl⟩
  refine wl_p (fun _ => o_quo rfl rfl (by omega) (by omega) (by omega)) ?_
  refine wl_p (fun _ => (o_buildg [_, _, _, _] Tryd.underlying64 Tryd.zeroValue64 (by rfl) (by rfl) rfl (by rfl) (by rfl) (fun _ => by kernel_rfl))) ?_
  refine wl_boxg [_, _, _, _] rfl (by rfl) ?_
  rintro g17 w17 f17 b17 i17 i17_1
  have s17 := b17.size
  replace hw := hw.trans (b17.mono hw.size)
  refine wl_p (fun _ => o_assign rfl) ?_
  refine wl_nil ?_
  refine rk_seq ?_
  refine rk_region ?_
  refine wl_p (fun _ => o_move rfl) ?_
  refine wl_p (fun _ => o_move rfl) ?_
  refine wl_p (fun _ => o_nil rfl) ?_
  refine wl_p (fun _ => o_faddr (s := 64) (i := 2) (off := 2) Tryd.underlying64 rfl Tryd.sizeOf3 rfl rfl rfl) ?_
  refine wl_r (o_loadbg Tryd.isAgg3 rfl f17 (by rfl)) ?_
  refine wl_p (fun _ => o_add rfl rfl (by omega) (by omega)) ?_
  refine wl_p (fun _ => o_quo rfl rfl (by omega) (by omega) (by omega)) ?_
  refine wl_mkU64 ((S.length / 2 + 63) / 64) rfl rfl (by omega) (by rfl) (by omega) ?_
  rintro A25 w25 f25 b25
  have qf25 := f25.cap
  have s25 := b25.size
  replace hw := hw.trans (b25.mono hw.size)
  replace f17 := f17.u b25
  refine wl_p (fun _ => o_nil rfl) ?_
  refine wl_p (fun _ => o_faddr (s := 64) (i := 3) (off := 3) Tryd.underlying64 rfl Tryd.sizeOf62 rfl rfl rfl) ?_
  refine wl_storeg1 Tryd.sizeOf62 rfl rfl (by rfl) f17 (by simp) ?_
  rintro w f g e
  have s := g.size
  replace hw := hw.trans (below_of_grownBy g.g hw.size (by omega))
  replace f25 := f25.k g.g (ap_some (by omega))
  clear f17
  refine wl_nil ?_
  refine rk_seq ?_
  refine rk_seq ?_
  refine rk_region ?_
  refine wl_p (fun _ => o_move rfl) ?_
  refine wl_p (fun _ => o_len (t := 35) Tryd.underlying35 rfl) ?_
  refine wl_p (fun _ => o_move rfl) ?_
  refine wl_nil ?_
  refine rk_block ?_
  have hsz := hw.size
  rw [hm] at f25
  simp only [hdiv, hm] at f
  have e0 : List.replicate ((m + 63) / 64) 0 = wds (List.replicate m false) := wds_none m
  rw [e0] at f25
  have hcount : ((List.replicate m false).length : Nat) = m := List.length_replicate
  have hwl : (wds (List.replicate m false)).length = (m + 63) / 64 := by rw [wds_len, List.length_replicate]
  have fq : PgQ w g17 (.pointer none) (.pointer (some ⟨gd, 0, none⟩)) m w14.heap.size w.heap.size (List.replicate m false) := ⟨⟨A25, (m + 63) / 64, by rw [hwl]; exact f, f25.base (by omega) (by omega)⟩, Nat.le_refl _⟩
  clear f f25
  refine rk_joinf (fun fb fr V => fr = [] ++ fb.drop 1 ∧ PgQ V g17 (.pointer none) (.pointer (some ⟨gd, 0, none⟩)) m w14.heap.size w.heap.size U ∧ Below w14.heap.size w14 V) ?_ (fun ks hj => ?_)
  rotate_left
  · refine rk_loopf (fun fb k fr V => ∃ (i : Nat) (v : Int) (q : List Bool), fr = [(30, .int .i64 v)] ++ fb.drop 1 ∧ v = i ∧ i ≤ zs.length ∧ k = zs.length - i ∧ q = markAll (List.replicate m false) (zs.take i) ∧ PgQ V g17 (.pointer none) (.pointer (some ⟨gd, 0, none⟩)) m w14.heap.size w.heap.size q ∧ Below w14.heap.size w14 V) (n := zs.length) (Fr.le_of (by kernel_rfl) (by kernel_rfl) (by repeat' constructor)) ⟨0, _, _, rfl, rfl, by omega, rfl, rfl, fq, hw⟩ ?_
    clear fq hw
    rintro k fr V ⟨i, v, q, rfl, rfl, hi, rfl, hq, fq, hw⟩
    have hql : q.length = m := by rw [hq, markAll_len, List.length_replicate]
    obtain ⟨A', c', f, fs⟩ := fq.ex
    first | refine rk_frame (by simp only [List.cons_append, List.nil_append, List.drop_succ_cons, List.drop_zero]; rfl) ?_ | refine wl_frame (by simp only [List.cons_append, List.nil_append, List.drop_succ_cons, List.drop_zero]; rfl) ?_
    refine rk_seq ?_
    refine rk_region ?_
    refine wl_p (fun _ => o_lt rfl rfl) ?_
    refine wl_nil ?_
    refine rk_seq ?_
    refine rk_if rfl (fun h31 => ?_) (fun h31 => ?_)
    · have hil : i < zs.length := by omega
      have hzi := List.all_eq_true.1 ho _ (List.getElem_mem hil)
      rw [decide_eq_true_eq] at hzi
      obtain ⟨z, hzz⟩ : ∃ z : Nat, zs[i] = (z : Int) := ⟨zs[i].toNat, by omega⟩
      refine rk_skip ?_
      refine rk_seq ?_
      refine rk_block ?_
      refine rk_seq ?_
      refine rk_region ?_
      refine wl_p (fun _ => (o_iaddrA1 (i) Tryd.underlying35 Tryd.sizeOf3 rfl rfl rfl (Reads.some_ hz.to_Reads (by decide) (by omega)) (by omega))) ?_
      refine wl_r (o_loadZ Tryd.isAgg3 rfl (hz.u hw).to_Reads (by omega)) ?_
      refine wl_p (fun _ => o_assign rfl) ?_
      refine wl_nil ?_
      refine rk_seq ?_
      refine rk_seq ?_
      refine rk_region ?_
      refine wl_p (fun _ => o_move rfl) ?_
      refine wl_p (fun _ => o_lt rfl rfl) ?_
      refine wl_p (fun _ => o_move rfl) ?_
      refine wl_know 36 false rfl (decide_eq_false (by omega)) ?_
      refine wl_p (fun _ => o_move rfl) ?_
      refine wl_p (fun _ => o_move rfl) ?_
      refine wl_p (fun _ => o_nil rfl) ?_
      refine wl_p (fun _ => o_faddr (s := 64) (i := 2) (off := 2) Tryd.underlying64 rfl Tryd.sizeOf3 rfl rfl rfl) ?_
      refine wl_r (o_loadbg Tryd.isAgg3 rfl f (by rfl)) ?_
      refine wl_p (fun _ => o_ge rfl rfl) ?_
      refine wl_p (fun _ => o_pick_f rfl rfl) ?_
      refine wl_nil ?_
      refine rk_if rfl (fun h43 => absurd h43 (by omega)) (fun h43 => ?_)
      refine rk_skip ?_
      refine rk_region ?_
      refine wl_p (fun _ => o_move rfl) ?_
      refine wl_p (fun _ => o_move rfl) ?_
      refine wl_call rfl (C_mark _ fq hzz (by omega) (by omega)) ?_
      rintro v46 w46 ⟨rfl, ⟨f46, ⟨g46, ⟨row46, g46_1⟩⟩⟩⟩
      have s46 := g46.size
      replace hw := hw.trans (g46.below hw.size (by omega))
      replace f := f.y g46_1 (by decide)
      clear fs
      clear fq
      refine wl_nil ?_
      refine rk_blk ?_
      refine rk_region ?_
      refine wl_p (fun _ => o_add rfl rfl (by omega) (by omega)) ?_
      refine wl_p (fun _ => o_move rfl) ?_
      refine wl_nil ?_
      exact rk_againf (Fr.le_of (by kernel_rfl) (by kernel_rfl) (by repeat' constructor)) ⟨i + 1, (i : Int) + 1, q.set z true, rfl, by omega, by omega, rfl, by rw [List.take_succ_eq_append_getElem hil, markAll_snoc, hzz, hq]; rfl, by assumption, hw⟩ (by omega)
    · refine rk_exit rfl ?_
      obtain rfl : i = zs.length := by omega
      rw [List.take_length, hU] at hq
      subst hq
      exact rk_tof hj (Fr.le_of (by kernel_rfl) (by kernel_rfl) (by repeat' constructor)) ⟨rfl, fq, hw⟩
  clear fq hw
  rintro fr V ⟨rfl, fq, hw⟩
  obtain ⟨A', c', f, fs⟩ := fq.ex
  have hUl : U.length = m := by rw [← hU, markAll_len, List.length_replicate]
  have hhi := fq.hi
  first | refine rk_frame (by simp only [List.cons_append, List.nil_append, List.drop_succ_cons, List.drop_zero]; rfl) ?_ | refine wl_frame (by simp only [List.cons_append, List.nil_append, List.drop_succ_cons, List.drop_zero]; rfl) ?_
  refine rk_seq ?_
  refine rk_region ?_
  refine wl_p (fun _ => o_move rfl) ?_
  refine wl_p (fun _ => o_move rfl) ?_
  refine wl_p (fun _ => o_nil rfl) ?_
  refine wl_p (fun _ => o_faddr (s := 64) (i := 0) (off := 0) Tryd.underlying64 rfl Tryd.sizeOf32 rfl rfl rfl) ?_
  refine wl_storeg1 Tryd.sizeOf32 rfl rfl (by rfl) f (by simp) ?_
  rintro w_1 f_1 g_1 e_1
  have s_1 := g_1.size
  replace hw := hw.trans (below_of_grownBy g_1.g hw.size (by omega))
  replace fs := fs.y g_1 (by decide)
  clear f
  clear fq
  refine wl_nil ?_
  refine rk_seq ?_
  refine rk_region ?_
  refine wl_p (fun _ => o_move rfl) ?_
  refine wl_p (fun _ => o_assign rfl) ?_
  refine wl_p (fun _ => o_assign rfl) ?_
  refine wl_nil ?_
  refine ret2 rfl rfl rfl ?_
  have hsz2 := hw.size
  exact ⟨g17, rfl, ⟨⟨⟨A', c', by rw [hUl]; exact f_1, fs.base (by omega) (by omega)⟩, Nat.le_refl _⟩, by omega⟩, by omega, by omega, hw⟩
theorem C_pOpenBad {gd dl dh m n c : Nat} {B : Option Addr} {zs : List Int} {S : List Sec} {C : List (Option Sec)} (w : World) (hd : DkAt w dl dh gd S C) (hz : RZ w B zs) (hn : n = zs.length) (hnm : n ≤ 100000) (hm : S.length / 2 = m) (ho : openOk m zs = false) :
    CallsR Tryd.prog 12 [.pointer (some ⟨gd, 0, none⟩), .slice B n c] w fun v w' => v = .tuple #[.pointer none, .int .i64 2] ∧ Below w.heap.size w w' := by
  subst hn
  have hn1 := hd.n1
  have hn2 := hd.n2
  have hml : m ≤ 8192 := by omega
  have hdiv : (S.length : Int) / 2 = (m : Int) := by omega
  refine callsR Tryd.func12 rfl rfl (by kernel_rfl) rfl ?_
  have hw := Below.refl w.heap.size w
  refine rk_seq ?_
  refine rk_region ?_
  refine wl_p (fun _ => o_assign rfl) ?_
  refine wl_p (fun _ => o_assign rfl) ?_
  refine wl_nil ?_
  refine rk_seq ?_
  refine rk_seq ?_
  refine rk_region ?_
  refine wl_p (fun _ => o_move rfl) ?_
  refine wl_call rfl (C_dSize _ hd) ?_
  rintro v10 w10 ⟨rfl, rfl⟩
  refine wl_p (fun _ => o_eq rfl rfl) ?_
  refine wl_nil ?_
  refine rk_if rfl (fun h11 => absurd h11 (by omega)) (fun h11 => ?_)
  refine rk_skip ?_
  refine rk_seq ?_
  refine rk_region ?_
  refine wl_p (fun _ => o_move rfl) ?_
  refine wl_p (fun _ => o_move rfl) ?_
  refine wl_call rfl (C_dSize _ hd) ?_
  rintro v14 w14 ⟨rfl, rfl⟩
  refine wl_p (fun _ => o_quo rfl rfl (by omega) (by omega) (by omega)) ?_
  refine wl_p (fun _ => (o_buildg [_, _, _, _] Tryd.underlying64 Tryd.zeroValue64 (by rfl) (by rfl) rfl (by rfl) (by rfl) (fun _ => by kernel_rfl))) ?_
  refine wl_boxg [_, _, _, _] rfl (by rfl) ?_
  rintro g17 w17 f17 b17 i17 i17_1
  have s17 := b17.size
  replace hw := hw.trans (b17.mono hw.size)
  refine wl_p (fun _ => o_assign rfl) ?_
  refine wl_nil ?_
  refine rk_seq ?_
  refine rk_region ?_
  refine wl_p (fun _ => o_move rfl) ?_
  refine wl_p (fun _ => o_move rfl) ?_
  refine wl_p (fun _ => o_nil rfl) ?_
  refine wl_p (fun _ => o_faddr (s := 64) (i := 2) (off := 2) Tryd.underlying64 rfl Tryd.sizeOf3 rfl rfl rfl) ?_
  refine wl_r (o_loadbg Tryd.isAgg3 rfl f17 (by rfl)) ?_
  refine wl_p (fun _ => o_add rfl rfl (by omega) (by omega)) ?_
  refine wl_p (fun _ => o_quo rfl rfl (by omega) (by omega) (by omega)) ?_
  refine wl_mkU64 ((S.length / 2 + 63) / 64) rfl rfl (by omega) (by rfl) (by omega) ?_
  rintro A25 w25 f25 b25
  have qf25 := f25.cap
  have s25 := b25.size
  replace hw := hw.trans (b25.mono hw.size)
  replace f17 := f17.u b25
  refine wl_p (fun _ => o_nil rfl) ?_
  refine wl_p (fun _ => o_faddr (s := 64) (i := 3) (off := 3) Tryd.underlying64 rfl Tryd.sizeOf62 rfl rfl rfl) ?_
  refine wl_storeg1 Tryd.sizeOf62 rfl rfl (by rfl) f17 (by simp) ?_
  rintro w f g e
  have s := g.size
  replace hw := hw.trans (below_of_grownBy g.g hw.size (by omega))
  replace f25 := f25.k g.g (ap_some (by omega))
  clear f17
  refine wl_nil ?_
  refine rk_seq ?_
  refine rk_seq ?_
  refine rk_region ?_
  refine wl_p (fun _ => o_move rfl) ?_
  refine wl_p (fun _ => o_len (t := 35) Tryd.underlying35 rfl) ?_
  refine wl_p (fun _ => o_move rfl) ?_
  refine wl_nil ?_
  refine rk_block ?_
  have hsz := hw.size
  rw [hm] at f25
  simp only [hdiv, hm] at f
  have e0 : List.replicate ((m + 63) / 64) 0 = wds (List.replicate m false) := wds_none m
  rw [e0] at f25
  have hwl : (wds (List.replicate m false)).length = (m + 63) / 64 := by rw [wds_len, List.length_replicate]
  have fq : PgQ w g17 (.pointer none) (.pointer (some ⟨gd, 0, none⟩)) m w14.heap.size w.heap.size (List.replicate m false) := ⟨⟨A25, (m + 63) / 64, by rw [hwl]; exact f, f25.base (by omega) (by omega)⟩, Nat.le_refl _⟩
  clear f f25
  refine rk_joinf (fun fb fr V => False) ?_ (fun ks hj => ?_)
  rotate_left
  · refine rk_loopf (fun fb k fr V => ∃ (i : Nat) (v : Int) (q : List Bool), fr = [(30, .int .i64 v)] ++ fb.drop 1 ∧ v = i ∧ i ≤ zs.length ∧ k = zs.length - i ∧ openOk m (zs.take i) = true ∧ q.length = m ∧ PgQ V g17 (.pointer none) (.pointer (some ⟨gd, 0, none⟩)) m w14.heap.size w.heap.size q ∧ Below w14.heap.size w14 V) (n := zs.length) (Fr.le_of (by kernel_rfl) (by kernel_rfl) (by repeat' constructor)) ⟨0, _, _, rfl, rfl, by omega, rfl, rfl, List.length_replicate, fq, hw⟩ ?_
    clear fq hw
    rintro k fr V ⟨i, v, q, rfl, rfl, hi, rfl, hq, hql, fq, hw⟩
    obtain ⟨A', c', f, fs⟩ := fq.ex
    have hil : i < zs.length := by
      rcases Nat.lt_or_ge i zs.length with h | h
      · exact h
      · rw [List.take_of_length_le h, ho] at hq; cases hq
    first | refine rk_frame (by simp only [List.cons_append, List.nil_append, List.drop_succ_cons, List.drop_zero]; rfl) ?_ | refine wl_frame (by simp only [List.cons_append, List.nil_append, List.drop_succ_cons, List.drop_zero]; rfl) ?_
    refine rk_seq ?_
    refine rk_region ?_
    refine wl_p (fun _ => o_lt rfl rfl) ?_
    refine wl_nil ?_
    refine rk_seq ?_
    refine rk_if rfl (fun h31 => ?_) (fun h31 => h31.elim (by omega))
    refine rk_skip ?_
    refine rk_seq ?_
    refine rk_block ?_
    refine rk_seq ?_
    refine rk_region ?_
    refine wl_p (fun _ => (o_iaddrA1 (i) Tryd.underlying35 Tryd.sizeOf3 rfl rfl rfl (Reads.some_ hz.to_Reads (by decide) (by omega)) (by omega))) ?_
    refine wl_r (o_loadZ Tryd.isAgg3 rfl (hz.u hw).to_Reads (by omega)) ?_
    refine wl_p (fun _ => o_assign rfl) ?_
    refine wl_nil ?_
    refine rk_seq ?_
    refine rk_seq ?_
    refine rk_region ?_
    refine wl_p (fun _ => o_move rfl) ?_
    refine wl_p (fun _ => o_lt rfl rfl) ?_
    refine wl_p (fun _ => o_move rfl) ?_
    by_cases hz0 : zs[i] < 0
    · refine wl_know 36 true rfl (decide_eq_true (by omega)) ?_
      refine wl_off ?_
      refine wl_off ?_
      refine wl_off ?_
      refine wl_off ?_
      refine wl_off ?_
      refine wl_off ?_
      refine wl_p (fun _ => o_pick_t rfl rfl) ?_
      refine wl_nil ?_
      refine rk_true rfl ?_
      refine rk_seq ?_
      refine rk_region ?_
      refine wl_p (fun _ => o_assign rfl) ?_
      refine wl_p (fun _ => o_assign rfl) ?_
      refine wl_nil ?_
      refine ret2 rfl rfl rfl ?_
      exact ⟨rfl, hw⟩
    · by_cases hz1 : (m : Int) ≤ zs[i]
      · refine wl_know 36 false rfl (decide_eq_false (by omega)) ?_
        refine wl_p (fun _ => o_move rfl) ?_
        refine wl_p (fun _ => o_move rfl) ?_
        refine wl_p (fun _ => o_nil rfl) ?_
        refine wl_p (fun _ => o_faddr (s := 64) (i := 2) (off := 2) Tryd.underlying64 rfl Tryd.sizeOf3 rfl rfl rfl) ?_
        refine wl_r (o_loadbg Tryd.isAgg3 rfl f (by rfl)) ?_
        refine wl_p (fun _ => o_ge rfl rfl) ?_
        refine wl_p (fun _ => o_pick_f rfl rfl) ?_
        refine wl_nil ?_
        refine rk_if rfl (fun h43 => ?_) (fun h43 => h43.elim (by omega))
        refine rk_seq ?_
        refine rk_region ?_
        refine wl_p (fun _ => o_assign rfl) ?_
        refine wl_p (fun _ => o_assign rfl) ?_
        refine wl_nil ?_
        refine ret2 rfl rfl rfl ?_
        exact ⟨rfl, hw⟩
      · obtain ⟨z, hzz⟩ : ∃ z : Nat, zs[i] = (z : Int) := ⟨zs[i].toNat, by omega⟩
        refine wl_know 36 false rfl (decide_eq_false (by omega)) ?_
        refine wl_p (fun _ => o_move rfl) ?_
        refine wl_p (fun _ => o_move rfl) ?_
        refine wl_p (fun _ => o_nil rfl) ?_
        refine wl_p (fun _ => o_faddr (s := 64) (i := 2) (off := 2) Tryd.underlying64 rfl Tryd.sizeOf3 rfl rfl rfl) ?_
        refine wl_r (o_loadbg Tryd.isAgg3 rfl f (by rfl)) ?_
        refine wl_p (fun _ => o_ge rfl rfl) ?_
        refine wl_p (fun _ => o_pick_f rfl rfl) ?_
        refine wl_nil ?_
        refine rk_if rfl (fun h43 => absurd h43 (by omega)) (fun h43 => ?_)
        refine rk_skip ?_
        refine rk_region ?_
        refine wl_p (fun _ => o_move rfl) ?_
        refine wl_p (fun _ => o_move rfl) ?_
        refine wl_call rfl (C_mark _ fq hzz (by omega) (by omega)) ?_
        rintro v46 w46 ⟨rfl, ⟨f46, ⟨g46, ⟨row46, g46_1⟩⟩⟩⟩
        have s46 := g46.size
        replace hw := hw.trans (g46.below hw.size (by omega))
        replace f := f.y g46_1 (by decide)
        clear fs
        clear fq
        refine wl_nil ?_
        refine rk_blk ?_
        refine rk_region ?_
        refine wl_p (fun _ => o_add rfl rfl (by omega) (by omega)) ?_
        refine wl_p (fun _ => o_move rfl) ?_
        refine wl_nil ?_
        refine rk_againf (Fr.le_of (by kernel_rfl) (by kernel_rfl) (by repeat' constructor)) ⟨i + 1, (i : Int) + 1, q.set z true, rfl, by omega, by omega, rfl, ?_, by rw [List.length_set]; exact hql, by assumption, hw⟩ (by omega)
        rw [List.take_succ_eq_append_getElem hil, openOk, List.all_append, Bool.and_eq_true]
        exact ⟨hq, by simp; omega⟩
  rintro fr V h
  exact h.elim
end Go.Proofs.YtklijaahbahcoaaDoor
/-
  Walks of a page file: New, Read.
-/
namespace Go.Proofs.YtklijaahbahcoaaDoor
set_option maxRecDepth 100000
open Go.RowKit
theorem Grew.refl_ {w : World} {e : TypeId} : Grew w w e none := ⟨grown_of_below (Below.refl _ _) _, fun k e => by cases e⟩
theorem Grew.of_below {w w' : World} {e : TypeId} (h : Below w.heap.size w w') : Grew w w' e none := ⟨grown_of_below h _, fun k e => by cases e⟩
theorem rd_hi {w : World} {g : Nat} {t : TypeId} {c : By} (hB : Blk w g t (B8 c)) (k : Nat) : Rd w (some ⟨g, 0, none⟩) (c.take k) := by
  refine ⟨by rw [B8_length, Nat.mul_one], fun _ => ⟨g, 0, rfl, fun j u hj => ?_⟩⟩
  rw [hB.cell]
  unfold B8 at hj ⊢
  rw [List.getElem?_map] at hj ⊢
  rw [← hj, Nat.zero_add]
  by_cases h : j < k
  · rw [List.getElem?_take_of_lt h]
  · rw [List.getElem?_take, if_neg h] at hj
    simp at hj
theorem wf_small {z : Int} (h0 : -1000000000 ≤ z) (h1 : z ≤ 1000000000) : (Lit.int .i64 z).wf = true := by
  simp only [Lit.wf, Bool.and_eq_true, decide_eq_true_eq]
  exact ⟨by show -9223372036854775808 ≤ z; omega, by show z ≤ 9223372036854775807; omega⟩
theorem C_pNewNil {A : Option Addr} {m c : Nat} (w : World) :
    CallsR Tryd.prog 15 [.pointer none, .slice A m c] w fun v w' => v = .tuple #[.int .i64 0, .int .i64 1] ∧ Below w.heap.size w w' := by
  refine callsR Tryd.func15 rfl rfl (by kernel_rfl) rfl ?_
  have hw := Below.refl w.heap.size w
  refine rk_seq ?_
  refine rk_region ?_
  refine wl_p (fun _ => o_assign rfl) ?_
  refine wl_p (fun _ => o_assign rfl) ?_
  refine wl_nil ?_
  refine rk_seq ?_
  refine rk_seq ?_
  refine rk_region ?_
  refine wl_p (fun _ => o_move rfl) ?_
  refine wl_call rfl (C_pvalidNil _) ?_
  rintro v9 w9 ⟨rfl, rfl⟩
  refine wl_p (fun _ => o_not rfl) ?_
  refine wl_nil ?_
  refine rk_true rfl ?_
  refine rk_seq ?_
  refine rk_region ?_
  refine wl_p (fun _ => o_assign rfl) ?_
  refine wl_p (fun _ => o_assign rfl) ?_
  refine wl_nil ?_
  refine ret2 rfl rfl rfl ?_
  exact ⟨rfl, hw⟩
set_option maxRecDepth 100000 in
theorem C_pNew {g gd ul uh dl dh m c : Nat} {U : List Bool} {S : List Sec} {C : List (Option Sec)} {A : Option Addr} {b : By} {r : (Nat × Nat) × List (Option Sec) × List Bool} (w : World) (hT : TabAt0 w 0) (hp : PgAt w g gd ul uh U) (hd : DkAt w dl dh gd S C) (hb : Rd w A b) (hr : newP S C U b = r) (hm : m = b.length) (hml : m ≤ 1000000) (hUS : 2 * U.length ≤ S.length) (hs1 : dh ≤ ul ∨ uh ≤ dl) (hs2 : g < dl ∨ dh ≤ g) (hg : 0 < dl) :
    CallsR Tryd.prog 15 [.pointer (some ⟨g, 0, none⟩), .slice A m c] w fun v w' => v = .tuple #[.int .i64 (r.1.1 : Nat), .int .i64 (r.1.2 : Nat)] ∧ PgAt w' g gd ul uh r.2.2 ∧ DkAt w' dl dh gd S r.2.1 ∧ ∃ w1, Chg dl dh w w1 ∧ Chg ul uh w1 w' ∧ ∃ row, Grew w1 w' 73 row := by
  subst hm; subst hr
  have hl := hp.2
  have hhi := hp.1.hi
  have hdhi := hd.hi
  rw [newP]
  by_cases h5 : 500 < b.length
  · rw [if_pos h5]
    refine callsR Tryd.func15 rfl rfl (by kernel_rfl) rfl ?_
    refine rk_seq ?_
    refine rk_region ?_
    refine wl_p (fun _ => o_assign rfl) ?_
    refine wl_p (fun _ => o_assign rfl) ?_
    refine wl_nil ?_
    refine rk_seq ?_
    refine rk_seq ?_
    refine rk_region ?_
    refine wl_p (fun _ => o_move rfl) ?_
    refine wl_call rfl (C_pvalid _ hp) ?_
    rintro v9 w9 ⟨rfl, rfl⟩
    refine wl_p (fun _ => o_not rfl) ?_
    refine wl_nil ?_
    refine rk_false rfl ?_
    refine rk_skip ?_
    refine rk_seq ?_
    refine rk_seq ?_
    refine rk_region ?_
    refine wl_p (fun _ => o_move rfl) ?_
    refine wl_p (fun _ => o_len (t := 22) Tryd.underlying22 rfl) ?_
    refine wl_p (fun _ => o_gt rfl rfl) ?_
    refine wl_nil ?_
    refine rk_if rfl (fun h13 => ?_) (fun h13 => h13.elim (by omega))
    refine rk_seq ?_
    refine rk_region ?_
    refine wl_p (fun _ => o_assign rfl) ?_
    refine wl_p (fun _ => o_assign rfl) ?_
    refine wl_nil ?_
    refine ret2 rfl rfl rfl ?_
    exact ⟨rfl, hp, hd, _, Chg.refl, Chg.refl, _, Grew.refl_⟩
  rw [if_neg h5]
  obtain ⟨k, hk⟩ : ∃ k, least U = k := ⟨_, rfl⟩
  have hkl := least_le U
  rw [hk] at hkl ⊢
  obtain ⟨A1, c1, f, fs⟩ := hp.1.ex
  by_cases hfull : k = U.length
  · rw [if_pos hfull]
    refine callsR Tryd.func15 rfl rfl (by kernel_rfl) rfl ?_
    refine rk_seq ?_
    refine rk_region ?_
    refine wl_p (fun _ => o_assign rfl) ?_
    refine wl_p (fun _ => o_assign rfl) ?_
    refine wl_nil ?_
    refine rk_seq ?_
    refine rk_seq ?_
    refine rk_region ?_
    refine wl_p (fun _ => o_move rfl) ?_
    refine wl_call rfl (C_pvalid _ hp) ?_
    rintro v9 w9 ⟨rfl, rfl⟩
    refine wl_p (fun _ => o_not rfl) ?_
    refine wl_nil ?_
    refine rk_false rfl ?_
    refine rk_skip ?_
    refine rk_seq ?_
    refine rk_seq ?_
    refine rk_region ?_
    refine wl_p (fun _ => o_move rfl) ?_
    refine wl_p (fun _ => o_len (t := 22) Tryd.underlying22 rfl) ?_
    refine wl_p (fun _ => o_gt rfl rfl) ?_
    refine wl_nil ?_
    refine rk_if rfl (fun h13 => absurd h13 (by omega)) (fun h13 => ?_)
    refine rk_skip ?_
    refine rk_seq ?_
    refine rk_region ?_
    refine wl_p (fun _ => o_move rfl) ?_
    refine wl_call rfl (C_lowest _ hT hp hk) ?_
    rintro v15 w15 ⟨rfl, rfl⟩
    refine wl_p (fun _ => o_assign rfl) ?_
    refine wl_nil ?_
    refine rk_seq ?_
    refine rk_seq ?_
    refine rk_region ?_
    refine wl_p (fun _ => o_move rfl) ?_
    refine wl_p (fun _ => o_move rfl) ?_
    refine wl_p (fun _ => o_nil rfl) ?_
    refine wl_p (fun _ => o_faddr (s := 64) (i := 2) (off := 2) Tryd.underlying64 rfl Tryd.sizeOf3 rfl rfl rfl) ?_
    refine wl_r (o_loadbg Tryd.isAgg3 rfl f (by rfl)) ?_
    refine wl_p (fun _ => o_eq rfl rfl) ?_
    refine wl_nil ?_
    refine rk_if rfl (fun h21 => ?_) (fun h21 => h21.elim (by omega))
    refine rk_seq ?_
    refine rk_region ?_
    refine wl_p (fun _ => o_assign rfl) ?_
    refine wl_p (fun _ => o_assign rfl) ?_
    refine wl_nil ?_
    refine ret2 rfl rfl rfl ?_
    exact ⟨rfl, hp, hd, _, Chg.refl, Chg.refl, _, Grew.refl_⟩
  rw [if_neg hfull]
  obtain ⟨p, hpp⟩ : ∃ p, pageL k b = p := ⟨_, rfl⟩
  have hpl : p.length = 512 := by rw [← hpp]; exact pageL_len k (by omega)
  obtain ⟨Z, hZ⟩ : ∃ Z, zerB 512 = Z := ⟨_, rfl⟩
  have hZl : Z.length = 512 := by rw [← hZ, zerB_len]
  obtain ⟨p1, hp1⟩ : ∃ q, p.take 256 = q := ⟨_, rfl⟩
  obtain ⟨p2, hp2⟩ : ∃ q, p.drop 256 = q := ⟨_, rfl⟩
  have hp1l : p1.length = 256 := by rw [← hp1, List.length_take]; omega
  have hp2l : p2.length = 256 := by rw [← hp2, List.length_drop]; omega
  obtain ⟨q1, hq1⟩ : ∃ q, wrC S C (2 * (k : Int)) p1 = q := ⟨_, rfl⟩
  obtain ⟨q2, hq2⟩ : ∃ q, wrC S q1.1 (2 * (k : Int) + 1) p2 = q := ⟨_, rfl⟩
  have hN : newC S C k (pageL k b) = q2.1 := by rw [newC, hpp, hp1, hp2, hq1, hq2]
  rw [hN]
  have wa1 : (Lit.int .i64 (2 * (k : Int))).wf = true := wf_small (by omega) (by omega)
  have wa2 : (Lit.int .i64 (2 * (k : Int) + 1)).wf = true := wf_small (by omega) (by omega)
  refine callsR Tryd.func15 rfl rfl (by kernel_rfl) rfl ?_
  have hcg : Chg dl dh w w := Chg.refl
  refine rk_seq ?_
  refine rk_region ?_
  refine wl_p (fun _ => o_assign rfl) ?_
  refine wl_p (fun _ => o_assign rfl) ?_
  refine wl_nil ?_
  refine rk_seq ?_
  refine rk_seq ?_
  refine rk_region ?_
  refine wl_p (fun _ => o_move rfl) ?_
  refine wl_call rfl (C_pvalid _ hp) ?_
  rintro v9 w9 ⟨rfl, rfl⟩
  refine wl_p (fun _ => o_not rfl) ?_
  refine wl_nil ?_
  refine rk_false rfl ?_
  refine rk_skip ?_
  refine rk_seq ?_
  refine rk_seq ?_
  refine rk_region ?_
  refine wl_p (fun _ => o_move rfl) ?_
  refine wl_p (fun _ => o_len (t := 22) Tryd.underlying22 rfl) ?_
  refine wl_p (fun _ => o_gt rfl rfl) ?_
  refine wl_nil ?_
  refine rk_if rfl (fun h13 => absurd h13 (by omega)) (fun h13 => ?_)
  refine rk_skip ?_
  refine rk_seq ?_
  refine rk_region ?_
  refine wl_p (fun _ => o_move rfl) ?_
  refine wl_call rfl (C_lowest _ hT hp hk) ?_
  rintro v15 w15 ⟨rfl, rfl⟩
  refine wl_p (fun _ => o_assign rfl) ?_
  refine wl_nil ?_
  refine rk_seq ?_
  refine rk_seq ?_
  refine rk_region ?_
  refine wl_p (fun _ => o_move rfl) ?_
  refine wl_p (fun _ => o_move rfl) ?_
  refine wl_p (fun _ => o_nil rfl) ?_
  refine wl_p (fun _ => o_faddr (s := 64) (i := 2) (off := 2) Tryd.underlying64 rfl Tryd.sizeOf3 rfl rfl rfl) ?_
  refine wl_r (o_loadbg Tryd.isAgg3 rfl f (by rfl)) ?_
  refine wl_p (fun _ => o_eq rfl rfl) ?_
  refine wl_nil ?_
  refine rk_if rfl (fun h21 => absurd h21 (by omega)) (fun h21 => ?_)
  refine rk_skip ?_
  refine rk_seq ?_
  refine rk_region ?_
  refine wl_p (fun _ => o_move rfl) ?_
  refine wl_p (fun _ => o_move rfl) ?_
  refine wl_call rfl (C_page _ hb rfl hpp (by omega) rfl (by omega)) ?_
  rintro v24 w24 ⟨rfl, b24⟩
  have s24 := b24.size
  replace hcg := hcg.thenB b24
  replace fs := fs.u b24
  replace f := f.u b24
  replace hb := hb.u b24
  replace hd := hd.u b24
  replace hp := hp.u b24
  replace hT := hT.u b24
  refine wl_allocB Tryd.underlying58 Tryd.zeroValue58 (by rfl) ?_
  rintro g7 w7 f7 b7 i7 i7_1
  have s7 := b7.size
  replace hcg := hcg.thenB b7
  replace hT := hT.u b7
  replace hp := hp.u b7
  replace hd := hd.u b7
  replace hb := hb.u b7
  replace f := f.u b7
  replace fs := fs.u b7
  refine wl_stBa Tryd.sizeOf58 rfl f7 rfl hpl (by rfl) ?_
  rintro w f_1 g_1 e
  have s := g_1.size
  replace hcg := hcg.andNew g_1.g (fun _ e => by injection e with e; have := hcg.size; omega)
  replace fs := fs.k g_1.g (ap_some (by omega))
  replace f := f.y g_1 (by decide)
  replace hd := hd.k g_1.g (ap_some (by omega))
  replace hp := hp.y g_1 (by decide)
  clear hb
  clear hT
  clear f7
  refine wl_nil ?_
  refine rk_seq ?_
  refine rk_draw (id := 9) (none) [0, 1, 2, 4, 0, 16, 0, 104] [0, 1, 3, 7, 0, 16, 0, 127] 128 0 [(.p, 0), (.p, 1), (.p, 2), (.r, 3), (.p, 4), (.p, 5), (.p, 6), (.l, 7)] (by kernel_rfl) (by kernel_rfl) (by kernel_rfl) (by kernel_rfl) (by kernel_rfl) ?_
  replace hcg := hcg.trans Chg.drew
  replace hp := hp.d
  replace hd := hd.d
  replace f := f.d
  replace fs := fs.d
  replace f_1 := f_1.d
  refine wl_p (fun _ => o_move rfl) ?_
  refine wl_p (fun _ => o_nil rfl) ?_
  refine wl_p (fun _ => o_faddr (s := 64) (i := 1) (off := 1) Tryd.underlying64 rfl Tryd.sizeOf29 rfl rfl rfl) ?_
  refine wl_r (o_loadbg Tryd.isAgg29 rfl f (by rfl)) ?_
  refine wl_p (fun _ => o_move rfl) ?_
  refine wl_p (fun _ => o_mul rfl rfl (by omega) (by omega)) ?_
  refine wl_p (fun _ => (o_slArrHi (256) Tryd.underlying58 Tryd.sizeOf5 rfl rfl (by omega) (by omega))) ?_
  have rA := rd_hi (show Blk _ g7 _ (B8 p) by assumption) 256
  rw [hp1] at rA
  refine wl_call rfl (C_dWriteN _ hd rA hq1 wa1 (by omega) (by omega)) ?_
  rintro v32 w32 ⟨rfl, ⟨f32, g32⟩⟩
  have s32 := g32.size
  simp only [drew_size] at s32
  replace hcg := hcg.trans (g32.wide (by omega) (by omega))
  replace f_1 := f_1.c g32 (by omega)
  replace fs := fs.c g32 (by omega)
  replace f := f.c g32 (by omega)
  replace hp := hp.c g32 (by omega)
  clear rA
  clear hd
  refine wl_nild ?_
  refine rk_seq ?_
  refine rk_draw (id := 10) (none) [0, 1, 2, 4, 0, 16, 32, 0, 200] [0, 1, 3, 7, 0, 16, 48, 0, 255] 256 0 [(.p, 0), (.p, 1), (.p, 2), (.r, 3), (.p, 4), (.p, 5), (.p, 6), (.p, 7), (.l, 8)] (by kernel_rfl) (by kernel_rfl) (by kernel_rfl) (by kernel_rfl) (by kernel_rfl) ?_
  replace hcg := hcg.trans Chg.drew
  replace hp := hp.d
  replace f := f.d
  replace fs := fs.d
  replace f_1 := f_1.d
  replace f32 := f32.d
  refine wl_p (fun _ => o_move rfl) ?_
  refine wl_p (fun _ => o_nil rfl) ?_
  refine wl_p (fun _ => o_faddr (s := 64) (i := 1) (off := 1) Tryd.underlying64 rfl Tryd.sizeOf29 rfl rfl rfl) ?_
  refine wl_r (o_loadbg Tryd.isAgg29 rfl f (by rfl)) ?_
  refine wl_p (fun _ => o_move rfl) ?_
  refine wl_p (fun _ => o_mul rfl rfl (by omega) (by omega)) ?_
  refine wl_p (fun _ => o_add rfl rfl (by omega) (by omega)) ?_
  refine wl_p (fun _ => (o_slArrLo (256) Tryd.underlying58 Tryd.sizeOf5 rfl rfl (by omega) (by omega))) ?_
  have rB := rd_lo (show Blk _ g7 _ (B8 p) by assumption) 256
  rw [hp2] at rB
  refine wl_call rfl (C_dWriteN _ f32 rB hq2 wa2 (by omega) (by omega)) ?_
  rintro v41 w41 ⟨rfl, ⟨f41, g41⟩⟩
  have s41 := g41.size
  simp only [drew_size] at s41
  replace hcg := hcg.trans (g41.wide (by omega) (by omega))
  replace f_1 := f_1.c g41 (by omega)
  replace fs := fs.c g41 (by omega)
  replace f := f.c g41 (by omega)
  replace hp := hp.c g41 (by omega)
  clear rB
  clear f32
  have keep : ∀ W, Chg ul uh w41 W → (∃ row, Grew w41 W 73 row) → ∃ w1, Chg dl dh w15 w1 ∧ Chg ul uh w1 W ∧ ∃ row, Grew w1 W 73 row := fun W h h2 => ⟨_, hcg, h, h2⟩
  have hcu : Chg ul uh w41 w41 := Chg.refl
  clear hcg
  refine wl_nild ?_
  refine rk_seq ?_
  refine rk_region ?_
  refine wl_p (fun _ => o_move rfl) ?_
  refine wl_p (fun _ => o_move rfl) ?_
  refine wl_call rfl (C_mark _ hp.to_PgQ rfl (by omega) (by omega)) ?_
  rintro v44 w44 ⟨rfl, ⟨f44, ⟨g44, ⟨row44, g44_1⟩⟩⟩⟩
  have s44 := g44.size
  replace hcu := hcu.trans (g44.wide (by omega) (by omega))
  replace f := f.y g44_1 (by decide)
  replace f_1 := f_1.c g44 (by omega)
  replace f41 := f41.c g44 (by omega)
  clear hp
  clear fs
  refine wl_nil ?_
  refine rk_seq ?_
  refine rk_region ?_
  refine wl_p (fun _ => o_move rfl) ?_
  refine wl_p (fun _ => o_assign rfl) ?_
  refine wl_p (fun _ => o_assign rfl) ?_
  refine wl_nil ?_
  refine ret2 rfl rfl rfl ?_
  have hsl : (U.set k true).length = U.length := List.length_set
  exact ⟨rfl, ⟨by show PgQ _ g _ _ ((U.set k true).length : Nat) ul uh _; rw [hsl]; exact f44, by rw [hsl]; exact hl⟩, by assumption, keep _ hcu ⟨_, by assumption⟩⟩
theorem putB_take {q s : By} {k : Nat} (h : k + s.length ≤ q.length) : (putB q k s).take (k + s.length) = q.take k ++ s := by
  rw [putB, List.take_append_of_le_length (by rw [List.length_append, List.length_take]; omega), List.take_of_length_le (by rw [List.length_append, List.length_take]; omega)]
theorem C_pReadNil {z : Int} (w : World) :
    CallsR Tryd.prog 14 [.pointer none, .int .i64 z] w fun v w' => v = .tuple #[.slice none 0 0, .int .i64 1] ∧ Below w.heap.size w w' := by
  refine callsR Tryd.func14 rfl rfl (by kernel_rfl) rfl ?_
  have hw := Below.refl w.heap.size w
  refine rk_seq ?_
  refine rk_region ?_
  refine wl_p (fun _ => o_assign rfl) ?_
  refine wl_p (fun _ => o_assign rfl) ?_
  refine wl_nil ?_
  refine rk_seq ?_
  refine rk_seq ?_
  refine rk_region ?_
  refine wl_p (fun _ => o_move rfl) ?_
  refine wl_p (fun _ => o_move rfl) ?_
  refine wl_call rfl (C_pcheckNil _) ?_
  rintro v13 w13 ⟨rfl, rfl⟩
  refine wl_p (fun _ => o_assign rfl) ?_
  refine wl_nil ?_
  refine rk_seq ?_
  refine rk_region ?_
  refine wl_p (fun _ => o_move rfl) ?_
  refine wl_p (fun _ => o_ne rfl rfl) ?_
  refine wl_nil ?_
  refine rk_true rfl ?_
  refine rk_seq ?_
  refine rk_region ?_
  refine wl_p (fun _ => o_move rfl) ?_
  refine wl_p (fun _ => o_assign rfl) ?_
  refine wl_p (fun _ => o_assign rfl) ?_
  refine wl_nil ?_
  refine ret2 rfl rfl rfl ?_
  exact ⟨rfl, hw⟩
set_option maxRecDepth 100000 in
theorem C_pRead {g gd ul uh dl dh : Nat} {z : Int} {U : List Bool} {S X : List Sec} {C : List (Option Sec)} {r : By × Nat} (w : World) (hp : PgAt w g gd ul uh U) (hd : DkAt w dl dh gd S C) (hX : cur S C = X) (hr : readP X U z = r) (hUS : 2 * U.length ≤ S.length) (wz : (Lit.int .i64 z).wf = true) :
    CallsR Tryd.prog 14 [.pointer (some ⟨g, 0, none⟩), .int .i64 z] w fun v w' => ∃ A c, v = .tuple #[.slice A r.1.length c, .int .i64 (r.2 : Nat)] ∧ RdB w' w.heap.size w'.heap.size A r.1 ∧ r.1.length ≤ c ∧ Below w.heap.size w w' := by
  subst hr
  have hl := hp.2
  have hCl := hd.len
  rw [readP]
  by_cases hu : usdAt U z = true
  · rw [if_pos hu]
    obtain ⟨hz0, hz1⟩ := usdAt_lt hu
    obtain ⟨n, rfl⟩ : ∃ n : Nat, z = (n : Int) := ⟨z.toNat, by omega⟩
    rw [Int.toNat_natCast] at hz1 ⊢
    have hXl : X.length = S.length := by rw [← hX, cur_len]
    obtain ⟨a, ha⟩ : ∃ a, pgAll X n = a := ⟨_, rfl⟩
    have hal : a.length = 512 := by rw [← ha]; exact pgAll_len (by omega)
    obtain ⟨Z, hZ⟩ : ∃ Z : By, List.replicate 512 0 = Z := ⟨_, rfl⟩
    have hZl : Z.length = 512 := by rw [← hZ, List.length_replicate]
    have hrd : ∀ i : Nat, i < 2 → rdD S C (2 * (n : Int) + (i : Int)) = (sAt X (2 * n + i), 0) := fun i hi => by
      rw [← hX, show 2 * (n : Int) + (i : Int) = ((2 * n + i : Nat) : Int) by omega]
      exact rdD_at hCl (by omega)
    have hsl : ∀ i : Nat, i < 2 → (sAt X (2 * n + i)).length = 256 := fun i hi => sAt_len (by omega)
    have hat : ∀ i : Nat, i < 2 → a.take (256 * i) ++ sAt X (2 * n + i) = a.take (256 * (i + 1)) := fun i hi => by
      have h0 := hsl 0 (by omega)
      have h1 := hsl 1 (by omega)
      rw [← ha, pgAll]
      match i, hi with
      | 0, _ => rw [Nat.mul_zero, List.take_zero, List.nil_append, List.take_append_of_le_length (by rw [Nat.add_zero] at h0; omega), List.take_of_length_le (by rw [Nat.add_zero] at h0; omega)]; rfl
      | 1, _ => rw [List.take_append_of_le_length (by rw [Nat.add_zero] at h0; omega), List.take_of_length_le (by rw [Nat.add_zero] at h0; omega), List.take_of_length_le (by rw [List.length_append]; rw [Nat.add_zero] at h0; omega)]
    refine callsR Tryd.func14 rfl rfl (by kernel_rfl) rfl ?_
    have hw := Below.refl w.heap.size w
    refine rk_seq ?_
    refine rk_region ?_
    refine wl_p (fun _ => o_assign rfl) ?_
    refine wl_p (fun _ => o_assign rfl) ?_
    refine wl_nil ?_
    refine rk_seq ?_
    refine rk_seq ?_
    refine rk_region ?_
    refine wl_p (fun _ => o_move rfl) ?_
    refine wl_p (fun _ => o_move rfl) ?_
    refine wl_call rfl (C_pcheckOk _ hp hu wz) ?_
    rintro v13 w13 ⟨rfl, rfl⟩
    refine wl_p (fun _ => o_assign rfl) ?_
    refine wl_nil ?_
    refine rk_seq ?_
    refine rk_region ?_
    refine wl_p (fun _ => o_move rfl) ?_
    refine wl_p (fun _ => o_ne rfl rfl) ?_
    refine wl_nil ?_
    refine rk_false rfl ?_
    refine rk_skip ?_
    refine rk_seq ?_
    refine rk_region ?_
    refine wl_allocB Tryd.underlying58 Tryd.zeroValue58 (by rfl) ?_
    rintro g7 w7 f7 b7 i7 i7_1
    have s7 := b7.size
    replace hw := hw.trans (b7.mono hw.size)
    refine wl_nil ?_
    refine rk_seq ?_
    refine rk_seq ?_
    refine rk_region ?_
    refine wl_p (fun _ => o_move rfl) ?_
    refine wl_nil ?_
    refine rk_block ?_
    rw [hZ] at f7
    have hsz := hw.size
    refine rk_joinf (fun fb fr V => fr = [] ++ fb.drop 1 ∧ Blk V g7 58 (B8 a) ∧ Below w13.heap.size w13 V) ?_ (fun ks hj => ?_)
    rotate_left
    · refine rk_loopf (fun fb k fr V => ∃ (i : Nat) (v : Int) (q : By), fr = [(17, .int .i64 v)] ++ fb.drop 1 ∧ v = i ∧ i ≤ 2 ∧ k = 2 - i ∧ q.length = 512 ∧ q.take (256 * i) = a.take (256 * i) ∧ Blk V g7 58 (B8 q) ∧ Below w13.heap.size w13 V) (n := 2) (Fr.le_of (by kernel_rfl) (by kernel_rfl) (by repeat' constructor)) ⟨0, _, Z, rfl, rfl, by omega, rfl, hZl, by simp, f7, hw⟩ ?_
      clear f7 hw
      rintro k fr V ⟨i, v, q, rfl, rfl, hi, rfl, hql, hq, f7, hw⟩
      have hdV := hd.u hw
      have hpV := hp.u hw
      obtain ⟨A1, c1, f, fs⟩ := hpV.1.ex
      first | refine rk_frame (by simp only [List.cons_append, List.nil_append, List.drop_succ_cons, List.drop_zero]; rfl) ?_ | refine wl_frame (by simp only [List.cons_append, List.nil_append, List.drop_succ_cons, List.drop_zero]; rfl) ?_
      refine rk_seq ?_
      refine rk_region ?_
      refine wl_p (fun _ => o_lt rfl rfl) ?_
      refine wl_nil ?_
      refine rk_seq ?_
      refine rk_if rfl (fun h18 => ?_) (fun h18 => ?_)
      · have hr0 := hrd i (by omega)
        have hs0 := hsl i (by omega)
        obtain ⟨s, hs⟩ : ∃ s, sAt X (2 * n + i) = s := ⟨_, rfl⟩
        have ha0 := hat i (by omega)
        rw [hs] at hr0 hs0 ha0
        have wa : (Lit.int .i64 (2 * (n : Int) + (i : Int))).wf = true := wf_small (by omega) (by omega)
        obtain ⟨r, hr⟩ : ∃ r, (s, 0) = r := ⟨_, rfl⟩
        have hr1 : r.1 = s := by rw [← hr]
        have hr2 : r.2 = 0 := by rw [← hr]
        rw [hr] at hr0
        have h256 : r.1.length = 256 := by rw [hr1]; exact hs0
        refine rk_skip ?_
        refine rk_seq ?_
        refine rk_block ?_
        refine rk_seq ?_
        refine rk_region ?_
        refine wl_p (fun _ => o_move rfl) ?_
        refine wl_p (fun _ => o_assign rfl) ?_
        refine wl_nil ?_
        refine rk_seq ?_
        refine rk_region ?_
        refine wl_p (fun _ => o_move rfl) ?_
        refine wl_p (fun _ => o_nil rfl) ?_
        refine wl_p (fun _ => o_faddr (s := 64) (i := 1) (off := 1) Tryd.underlying64 rfl Tryd.sizeOf29 rfl rfl rfl) ?_
        refine wl_r (o_loadbg Tryd.isAgg29 rfl f (by rfl)) ?_
        refine wl_p (fun _ => o_move rfl) ?_
        refine wl_p (fun _ => o_mul rfl rfl (by omega) (by omega)) ?_
        refine wl_p (fun _ => o_move rfl) ?_
        refine wl_p (fun _ => o_add rfl rfl (by omega) (by omega)) ?_
        refine wl_call rfl (C_dReadN _ hdV hr0 wa) ?_
        rintro v29 w29 ⟨A29, ⟨c29, ⟨rfl, ⟨f29, ⟨i29, b29⟩⟩⟩⟩⟩
        have s29 := b29.size
        replace hw := hw.trans (b29.mono hw.size)
        replace fs := fs.u b29
        replace f := f.u b29
        replace hpV := hpV.u b29
        replace hdV := hdV.u b29
        replace f7 := f7.u b29
        refine wl_p (fun _ => o_move rfl) ?_
        refine wl_p (fun _ => o_ext20 rfl) ?_
        refine wl_p (fun _ => o_ext21 rfl) ?_
        refine wl_p (fun _ => o_assign rfl) ?_
        refine wl_p (fun _ => o_assign rfl) ?_
        refine wl_nil ?_
        refine rk_region ?_
        refine wl_p (fun _ => o_move rfl) ?_
        refine wl_p (fun _ => o_mul rfl rfl (by omega) (by omega)) ?_
        refine wl_p (fun _ => o_move rfl) ?_
        refine wl_p (fun _ => o_add rfl rfl (by omega) (by omega)) ?_
        refine wl_p (fun _ => o_mul rfl rfl (by omega) (by omega)) ?_
        refine wl_p (fun _ => (o_slArrBoth (i * 256) ((i + 1) * 256) Tryd.underlying58 Tryd.sizeOf5 rfl rfl rfl (by omega) (by omega) (by omega) (by omega) (by omega))) ?_
        refine wl_p (fun _ => o_move rfl) ?_
        refine wl_cpArr Tryd.u8 rfl rfl f7 f29.to_Rd rfl (by omega) (by omega) ?_
        rintro w39 f39 g39 e39
        have s39 := g39.size
        replace hw := hw.trans (below_of_grownBy g39.g hw.size (by omega))
        replace hpV := hpV.y g39 (by decide)
        replace f := f.y g39 (by decide)
        replace fs := fs.y g39 (by decide)
        clear f7
        clear hdV
        clear f29
        refine wl_nil ?_
        refine rk_blk ?_
        refine rk_region ?_
        refine wl_p (fun _ => o_add rfl rfl (by omega) (by omega)) ?_
        refine wl_p (fun _ => o_move rfl) ?_
        refine wl_nil ?_
        have hfit : i * 256 + r.1.length ≤ q.length := by omega
        refine rk_againf (Fr.le_of (by kernel_rfl) (by kernel_rfl) (by repeat' constructor)) ⟨i + 1, (i : Int) + 1, putB q (i * 256) r.1, rfl, by omega, by omega, rfl, by rw [putB_len hfit]; exact hql, ?_, by assumption, hw⟩ (by omega)
        have := putB_take hfit
        rw [h256, show i * 256 + 256 = 256 * (i + 1) by omega, hr1, show i * 256 = 256 * i by omega, hq, ha0] at this
        rw [hr1, show i * 256 = 256 * i by omega]
        exact this
      · refine rk_exit rfl ?_
        obtain rfl : i = 2 := by omega
        rw [List.take_of_length_le (by omega), List.take_of_length_le (by omega)] at hq
        subst hq
        exact rk_tof hj (Fr.le_of (by kernel_rfl) (by kernel_rfl) (by repeat' constructor)) ⟨rfl, f7, hw⟩
    clear f7 hw
    rintro fr V ⟨rfl, f7, hw⟩
    obtain ⟨bd, hbd⟩ : ∃ bd, a.drop 12 = bd := ⟨_, rfl⟩
    have hbdl : bd.length = 500 := by rw [← hbd, List.length_drop, hal]
    obtain ⟨y, hy⟩ : ∃ y, pageL n bd = y := ⟨_, rfl⟩
    have hyl : y.length = 512 := by rw [← hy]; exact pageL_len n (by omega)
    rw [ha, hbd, hy]
    first | refine rk_frame (by simp only [List.cons_append, List.nil_append, List.drop_succ_cons, List.drop_zero]; rfl) ?_ | refine wl_frame (by simp only [List.cons_append, List.nil_append, List.drop_succ_cons, List.drop_zero]; rfl) ?_
    refine rk_seq ?_
    refine rk_seq ?_
    refine rk_draw (id := 11) (none) [0, 0, 0, 6, 9] [0, 0, 0, 6, 15] 8 8 [(.s, 0), (.p, 1), (.p, 2), (.c, 3), (.p, 4)] (by kernel_rfl) (by kernel_rfl) (by kernel_rfl) (by kernel_rfl) (by kernel_rfl) ?_
    replace hw := hw.drew
    replace f7 := f7.d
    refine wl_s (fun _ hk => (o_ldBa Tryd.isAgg58 Tryd.sizeOf58 rfl (f7.u (below_of_grown_none hk)) hal)) ?_
    refine wl_p (fun _ => o_move rfl) ?_
    refine wl_p (fun _ => (o_slArrLo (12) Tryd.underlying58 Tryd.sizeOf5 rfl rfl (by omega) (by omega))) ?_
    have rA := rd_lo f7 12
    rw [hbd] at rA
    refine wl_call rfl (C_page _ rA rfl hy (by omega) (by omega) (by omega)) ?_ (hq := .inr fun _ _ h => grown_of_below h.2 _)
    rintro v44 w44 ⟨rfl, b44⟩
    simp only [drew_size] at b44
    have s44 := b44.size
    simp only [drew_size] at s44
    replace hw := hw.trans (b44.mono hw.size)
    replace rA := rA.u b44
    replace f7 := f7.u b44
    refine wl_p (fun _ => (o_ne512 rfl rfl hal hyl)) ?_
    refine wl_nild ?_
    by_cases he : y = a
    · rw [if_pos he, show decide (a ≠ y) = false from decide_eq_false (fun h => h he.symm)]
      have hsz2 := hw.size
      refine rk_false rfl ?_
      refine rk_skip ?_
      refine rk_seq ?_
      refine rk_region ?_
      refine wl_p (fun _ => (o_slArrLo (12) Tryd.underlying58 Tryd.sizeOf5 rfl rfl (by omega) (by omega))) ?_
      refine wl_call rfl (C_bClone _ rA (by omega) (by omega)) ?_
      rintro v47 w47 ⟨A47, ⟨c47, ⟨rfl, ⟨f47, b47⟩⟩⟩⟩
      have qf47 := f47.cap
      have s47 := b47.size
      replace hw := hw.trans (b47.mono hw.size)
      replace f7 := f7.u b47
      replace rA := rA.u b47
      refine wl_p (fun _ => o_assign rfl) ?_
      refine wl_p (fun _ => o_assign rfl) ?_
      refine wl_nil ?_
      have rB := rd_lo (show Blk _ g7 _ (B8 a) by assumption) 12
      rw [hbd] at rB
      refine ret2 rfl rfl rfl ?_
      have hsz3 := hw.size
      exact ⟨A47, c47, rfl, f47.rdB.base (by omega) (by omega), f47.cap, hw⟩
    · rw [if_neg he, show decide (a ≠ y) = true from decide_eq_true (fun h => he h.symm)]
      refine rk_true rfl ?_
      refine rk_seq ?_
      refine rk_region ?_
      refine wl_p (fun _ => o_assign rfl) ?_
      refine wl_p (fun _ => o_assign rfl) ?_
      refine wl_nil ?_
      refine ret2 rfl rfl rfl ?_
      exact ⟨none, 0, rfl, RdB.nil_, by simp, hw⟩
  · rw [if_neg hu]
    have hu : usdAt U z = false := by cases h : usdAt U z with | true => exact absurd h hu | false => rfl
    refine callsR Tryd.func14 rfl rfl (by kernel_rfl) rfl ?_
    have hw := Below.refl w.heap.size w
    refine rk_seq ?_
    refine rk_region ?_
    refine wl_p (fun _ => o_assign rfl) ?_
    refine wl_p (fun _ => o_assign rfl) ?_
    refine wl_nil ?_
    refine rk_seq ?_
    refine rk_seq ?_
    refine rk_region ?_
    refine wl_p (fun _ => o_move rfl) ?_
    refine wl_p (fun _ => o_move rfl) ?_
    refine wl_call rfl (C_pcheckNo _ hp hu wz) ?_
    rintro v13 w13 ⟨rfl, rfl⟩
    refine wl_p (fun _ => o_assign rfl) ?_
    refine wl_nil ?_
    refine rk_seq ?_
    refine rk_region ?_
    refine wl_p (fun _ => o_move rfl) ?_
    refine wl_p (fun _ => o_ne rfl rfl) ?_
    refine wl_nil ?_
    refine rk_true rfl ?_
    refine rk_seq ?_
    refine rk_region ?_
    refine wl_p (fun _ => o_move rfl) ?_
    refine wl_p (fun _ => o_assign rfl) ?_
    refine wl_p (fun _ => o_assign rfl) ?_
    refine wl_nil ?_
    refine ret2 rfl rfl rfl ?_
    exact ⟨none, 0, rfl, RdB.nil_, by simp, hw⟩
end Go.Proofs.YtklijaahbahcoaaDoor
/-
  Walks of a page file: Used, Keep.
-/
namespace Go.Proofs.YtklijaahbahcoaaDoor
set_option maxRecDepth 100000
open Go.RowKit
/-- The pages in use, as numbers. -/
def usdZ (U : List Bool) (n : Nat) : List Int := (usd U n).map Int.ofNat
theorem usdZ_len (U : List Bool) (n : Nat) : (usdZ U n).length = (usd U n).length := by rw [usdZ, List.length_map]
theorem usdZ_succ (U : List Bool) {n : Nat} (h : U.getD n false = true) : usdZ U (n + 1) = usdZ U n ++ [(n : Int)] := by rw [usdZ, usd_succ, h, if_pos rfl, List.map_append]; rfl
set_option maxRecDepth 100000 in
theorem C_pUsed {g gd ul uh : Nat} {U : List Bool} {I : List Int} (w : World) (hT : TabAt0 w 0) (hp : PgAt w g gd ul uh U) (hI : usdZ U U.length = I) :
    CallsR Tryd.prog 19 [.pointer (some ⟨g, 0, none⟩)] w fun v w' => ∃ A c, v = .slice A I.length c ∧ OwnZ w' w.heap.size w'.heap.size A c I ∧ Below w.heap.size w w' := by
  obtain ⟨A1, c1, f, fs⟩ := hp.1.ex
  have hl := hp.2
  have hwl := wds_len U
  have hIl : I.length ≤ U.length := by rw [← hI, usdZ_len]; exact usd_le U _
  obtain ⟨k, hk⟩ : ∃ k, (usd U U.length).length = k := ⟨_, rfl⟩
  have hkl : k ≤ U.length := by rw [← hk]; exact usd_le U _
  refine callsR Tryd.func19 rfl rfl (by kernel_rfl) rfl ?_
  have hw := Below.refl w.heap.size w
  refine rk_seq ?_
  refine rk_region ?_
  refine wl_p (fun _ => o_assign rfl) ?_
  refine wl_nil ?_
  refine rk_seq ?_
  refine rk_seq ?_
  refine rk_region ?_
  refine wl_p (fun _ => o_move rfl) ?_
  refine wl_call rfl (C_pvalid _ hp) ?_
  rintro v7 w7 ⟨rfl, rfl⟩
  refine wl_p (fun _ => o_not rfl) ?_
  refine wl_nil ?_
  refine rk_false rfl ?_
  refine rk_skip ?_
  refine rk_seq ?_
  refine rk_region ?_
  refine wl_p (fun _ => o_move rfl) ?_
  refine wl_p (fun _ => o_nil rfl) ?_
  refine wl_p (fun _ => o_faddr (s := 64) (i := 3) (off := 3) Tryd.underlying64 rfl Tryd.sizeOf62 rfl rfl rfl) ?_
  refine wl_r (o_loadbg Tryd.isAgg62 rfl f (by rfl)) ?_
  refine wl_call rfl (C_total _ fs.to_RdK hk rfl (by omega)) ?_
  rintro v13 w13 ⟨rfl, b13⟩
  have s13 := b13.size
  replace hw := hw.trans (b13.mono hw.size)
  refine wl_mkZ0 (k) rfl rfl rfl rfl (by omega) ?_
  rintro A14 w14 f14 b14
  have qf14 := f14.cap
  have s14 := b14.size
  replace hw := hw.trans (b14.mono hw.size)
  refine wl_p (fun _ => o_assign rfl) ?_
  refine wl_nil ?_
  refine rk_seq ?_
  refine rk_seq ?_
  refine rk_region ?_
  refine wl_p (fun _ => o_move rfl) ?_
  refine wl_p (fun _ => o_nil rfl) ?_
  refine wl_p (fun _ => o_faddr (s := 64) (i := 3) (off := 3) Tryd.underlying64 rfl Tryd.sizeOf62 rfl rfl rfl) ?_
  refine wl_r (o_loadbg Tryd.isAgg62 rfl (f.u hw) (by rfl)) ?_
  refine wl_p (fun _ => o_len (t := 62) Tryd.underlying62 rfl) ?_
  refine wl_p (fun _ => o_move rfl) ?_
  refine wl_nil ?_
  refine rk_block ?_
  have hsz := hw.size
  have hsz2 := f14.cap
  have hUl : (usdZ U (64 * (wds U).length)) = I := by
    rw [← hI, usdZ, usdZ, usd_past U (by omega)]
  refine rk_joinf (fun fb fr V => ∃ A c, fr = [(3, .slice A I.length c)] ++ fb.drop 7 ∧ OwnZ V w7.heap.size V.heap.size A c I ∧ Below w7.heap.size w7 V) ?_ (fun ks hj => ?_)
  rotate_left
  · refine rk_loopf (fun fb m fr V => ∃ (i : Nat) (v : Int) (A : Option Addr) (c : Nat) (Z : List Int), fr = [(20, .int .i64 v), (19, .int .i64 ((wds U).length : Nat)), (18, .slice A1 (wds U).length c1), (3, .slice A Z.length c)] ++ fb.drop 7 ∧ v = i ∧ i ≤ (wds U).length ∧ m = (wds U).length - i ∧ Z = usdZ U (64 * i) ∧ OwnZ V w7.heap.size V.heap.size A c Z ∧ Below w7.heap.size w7 V) (n := (wds U).length) (Fr.le_of (by kernel_rfl) (by kernel_rfl) (by repeat' constructor)) ⟨0, _, _, _, [], rfl, rfl, by omega, rfl, rfl, f14.base (by omega) (by omega), hw⟩ ?_
    clear f14 hw
    rintro m fr V ⟨i, v, A, c, Z, rfl, rfl, hi, rfl, hZ, f3, hw⟩
    have hfsV := fs.u hw
    have hsV := hw.size
    have q3 := f3.cap
    first | refine rk_frame (by simp only [List.cons_append, List.nil_append, List.drop_succ_cons, List.drop_zero]; rfl) ?_ | refine wl_frame (by simp only [List.cons_append, List.nil_append, List.drop_succ_cons, List.drop_zero]; rfl) ?_
    refine rk_seq ?_
    refine rk_region ?_
    refine wl_p (fun _ => o_lt rfl rfl) ?_
    refine wl_nil ?_
    refine rk_seq ?_
    refine rk_if rfl (fun h21 => ?_) (fun h21 => ?_)
    · have hil : i < (wds U).length := by omega
      have hwd := wds_lt U hil
      have hbit : ∀ j, j < 64 → (wds U)[i].testBit j = U.getD (64 * i + j) false := fun j hj => wds_bit U hil hj
      refine rk_skip ?_
      refine rk_seq ?_
      refine rk_block ?_
      refine rk_seq ?_
      refine rk_region ?_
      refine wl_p (fun _ => o_move rfl) ?_
      refine wl_p (fun _ => (o_iaddrA1 (i) Tryd.underlying62 Tryd.sizeOf73 rfl rfl rfl (hfsV.some_ (by omega)) (by omega))) ?_
      refine wl_r (o_ldK Tryd.isAgg73 rfl hfsV.to_RdK (by omega)) ?_
      refine wl_p (fun _ => o_assign rfl) ?_
      refine wl_p (fun _ => o_assign rfl) ?_
      refine wl_nil ?_
      refine rk_block ?_
      refine rk_joinf (fun fb fr V => ∃ A c Z, fr = [(20, .int .i64 (i : Int)), (19, .int .i64 ((wds U).length : Nat)), (18, .slice A1 (wds U).length c1), (3, .slice A Z.length c)] ++ fb.drop 10 ∧ Z = usdZ U (64 * (i + 1)) ∧ OwnZ V w7.heap.size V.heap.size A c Z ∧ Below w7.heap.size w7 V) ?_ (fun ks hj => ?_)
      rotate_left
      · refine rk_loopf (fun fb m fr V => ∃ (t x : Nat) (A : Option Addr) (c : Nat) (Z : List Int), fr = [(5, .int .u64 (x : Int)), (4, .int .i64 (i : Int)), (20, .int .i64 (i : Int)), (19, .int .i64 ((wds U).length : Nat)), (18, .slice A1 (wds U).length c1), (3, .slice A Z.length c)] ++ fb.drop 10 ∧ t ≤ 64 ∧ m = 64 - t ∧ x < 18446744073709551616 ∧ (∀ j, j < 64 → x.testBit j = (decide (t ≤ j) && U.getD (64 * i + j) false)) ∧ Z = usdZ U (64 * i + t) ∧ OwnZ V w7.heap.size V.heap.size A c Z ∧ Below w7.heap.size w7 V) (n := 64) (Fr.le_of (by kernel_rfl) (by kernel_rfl) (by repeat' constructor)) ⟨0, (wds U)[i], A, c, Z, rfl, by omega, rfl, by omega, fun j hj => by rw [hbit j hj, decide_eq_true (Nat.zero_le j), Bool.true_and], hZ, f3, hw⟩ ?_
        clear f3 hw hfsV hsV q3
        rintro m fr V ⟨t, x, A, c, Z, rfl, ht, rfl, hxl, hxb, hZ, f3, hw⟩
        have hsV := hw.size
        have q3 := f3.cap
        have hZl : Z.length ≤ 100000 := by rw [hZ, usdZ_len]; have := usd_le U (64 * i + t); omega
        first | refine rk_frame (by simp only [List.cons_append, List.nil_append, List.drop_succ_cons, List.drop_zero]; rfl) ?_ | refine wl_frame (by simp only [List.cons_append, List.nil_append, List.drop_succ_cons, List.drop_zero]; rfl) ?_
        refine rk_seq ?_
        refine rk_seq ?_
        refine rk_region ?_
        refine wl_p (fun _ => o_move rfl) ?_
        refine wl_p (fun _ => o_ne rfl rfl) ?_
        refine wl_nil ?_
        refine rk_if rfl (fun h26 => ?_) (fun h26 => ?_)
        · have hx0 : x ≠ 0 := by omega
          obtain ⟨b1, b2, b3, b4⟩ := ctz_bit hx0 (by omega)
          obtain ⟨q, hq⟩ : ∃ q, Lib.ctz 64 x = q := ⟨_, rfl⟩
          rw [hq] at b1 b2 b3 b4
          have h1 := hxb q b3
          rw [b1] at h1
          have htq : t ≤ q := by
            rcases Nat.lt_or_ge q t with h | h
            · rw [decide_eq_false (by omega), Bool.false_and] at h1; cases h1
            · exact h
          rw [decide_eq_true htq, Bool.true_and] at h1
          have e1 : usdZ U (64 * i + q) = Z := by
            rw [hZ, usdZ, usdZ]
            congr 1
            refine usd_skip U (by omega) (fun j h3 h4 => ?_)
            have h5 := hxb (j - 64 * i) (by omega)
            rw [b2 _ (by omega), decide_eq_true (by omega), Bool.true_and, Nat.add_sub_cancel' (by omega)] at h5
            exact h5.symm
          have e2 : Z ++ [((64 * i + q : Nat) : Int)] = usdZ U (64 * i + (q + 1)) := by rw [← e1, ← usdZ_succ U h1.symm]; rfl
          have hcast : 64 * (i : Int) + (q : Int) = ((64 * i + q : Nat) : Int) := by omega
          refine rk_skip ?_
          refine rk_seq ?_
          refine rk_block ?_
          refine rk_region ?_
          refine wl_p (fun _ => o_move rfl) ?_
          refine wl_p (fun _ => o_move rfl) ?_
          refine wl_p (fun _ => o_mul rfl rfl (by omega) (by omega)) ?_
          refine wl_p (fun _ => o_move rfl) ?_
          refine wl_call rfl (C_tz64 _ (hT.u hw) (by omega)) ?_
          rintro v35 w35 ⟨rfl, rfl⟩
          refine wl_p (fun _ => o_add rfl rfl (by omega) (by omega)) ?_
          refine wl_litZH [64 * ↑i + ↑(Lib.ctz 64 x)] (by rfl) rfl rfl (by rfl) (by rfl) (by rfl) ?_
          rintro A37 w37 f37 b37
          have qf37 := f37.cap
          have s37 := b37.size
          replace hw := hw.trans (b37.mono hw.size)
          replace f3 := f3.u b37
          refine wl_appZ rfl f3 rfl rfl f37.to_RZ (by rfl) (by omega) hw.size ?_
          rintro A38 c38 w38 f38 g38 b38 i38
          have qf38 := f38.cap
          have s38 := g38.size
          replace hw := hw.trans (b38.mono (by omega))
          replace f37 := f37.k g38.g (f3.ap (by omega))
          clear f3
          refine wl_p (fun _ => o_assign rfl) ?_
          refine wl_nil ?_
          refine rk_blk ?_
          refine rk_region ?_
          refine wl_p (fun _ => o_move rfl) ?_
          refine wl_p (fun _ => o_move rfl) ?_
          refine wl_p (fun _ => (o_subN (x) (1) rfl rfl rfl (by omega) (by omega) (by omega))) ?_
          refine wl_p (fun _ => (o_andN (x) (x - 1) rfl rfl rfl rfl (by omega) (by omega))) ?_
          refine wl_p (fun _ => o_assign rfl) ?_
          refine wl_nil ?_
          rw [hq]
          rw [hq, hcast] at f38
          rw [hcast]
          exact rk_againf (Fr.le_of (by kernel_rfl) (by kernel_rfl) (by repeat' constructor)) ⟨q + 1, x &&& (x - 1), A38, c38, _, rfl, by omega, rfl, Nat.lt_of_le_of_lt Nat.and_le_left hxl, fun j hj => by
            rw [b4 j]
            rcases Nat.lt_trichotomy j q with h | h | h
            · rw [b2 j h, Bool.false_and, decide_eq_false (by omega), Bool.false_and]
            · rw [decide_eq_true h, Bool.not_true, Bool.and_false, decide_eq_false (by omega), Bool.false_and]
            · rw [hxb j hj, decide_eq_false (show ¬ j = q by omega), Bool.not_false, Bool.and_true, decide_eq_true (by omega), decide_eq_true (by omega)], e2, f38, hw⟩ (by omega)
        · refine rk_exit rfl ?_
          have e3 : Z = usdZ U (64 * (i + 1)) := by
            rw [hZ, usdZ, usdZ]
            congr 1
            refine (usd_skip U (by omega) (fun j h3 h4 => ?_)).symm
            have h5 := hxb (j - 64 * i) (by omega)
            rw [show x = 0 by omega, Nat.zero_testBit, decide_eq_true (by omega), Bool.true_and, Nat.add_sub_cancel' (by omega)] at h5
            exact h5.symm
          exact rk_tof hj (Fr.le_of (by kernel_rfl) (by kernel_rfl) (by repeat' constructor)) ⟨A, c, Z, rfl, e3, f3, hw⟩
      clear f3 hw hfsV hsV q3
      rintro fr V ⟨A, c, Z, rfl, hZ, f3, hw⟩
      first | refine rk_frame (by simp only [List.cons_append, List.nil_append, List.drop_succ_cons, List.drop_zero]; rfl) ?_ | refine wl_frame (by simp only [List.cons_append, List.nil_append, List.drop_succ_cons, List.drop_zero]; rfl) ?_
      refine rk_blk ?_
      refine rk_region ?_
      refine wl_p (fun _ => o_add rfl rfl (by omega) (by omega)) ?_
      refine wl_p (fun _ => o_move rfl) ?_
      refine wl_nil ?_
      exact rk_againf (Fr.le_of (by kernel_rfl) (by kernel_rfl) (by repeat' constructor)) ⟨i + 1, (i : Int) + 1, A, c, Z, rfl, by omega, by omega, rfl, hZ, f3, hw⟩ (by omega)
    · refine rk_exit rfl ?_
      obtain rfl : i = (wds U).length := by omega
      rw [hUl] at hZ
      subst hZ
      exact rk_tof hj (Fr.le_of (by kernel_rfl) (by kernel_rfl) (by repeat' constructor)) ⟨A, c, rfl, f3, hw⟩
  clear f14 hw
  rintro fr V ⟨A, c, rfl, f3, hw⟩
  first | refine rk_frame (by simp only [List.cons_append, List.nil_append, List.drop_succ_cons, List.drop_zero]; rfl) ?_ | refine wl_frame (by simp only [List.cons_append, List.nil_append, List.drop_succ_cons, List.drop_zero]; rfl) ?_
  refine rk_seq ?_
  refine rk_region ?_
  refine wl_p (fun _ => o_move rfl) ?_
  refine wl_p (fun _ => o_assign rfl) ?_
  refine wl_nil ?_
  refine ret1 rfl rfl ?_
  exact ⟨A, c, rfl, f3, hw⟩
theorem C_pUsedNil (w : World) :
    CallsR Tryd.prog 19 [.pointer none] w fun v w' => v = .slice none 0 0 ∧ Below w.heap.size w w' := by
  refine callsR Tryd.func19 rfl rfl (by kernel_rfl) rfl ?_
  have hw := Below.refl w.heap.size w
  refine rk_seq ?_
  refine rk_region ?_
  refine wl_p (fun _ => o_assign rfl) ?_
  refine wl_nil ?_
  refine rk_seq ?_
  refine rk_seq ?_
  refine rk_region ?_
  refine wl_p (fun _ => o_move rfl) ?_
  refine wl_call rfl (C_pvalidNil _) ?_
  rintro v7 w7 ⟨rfl, rfl⟩
  refine wl_p (fun _ => o_not rfl) ?_
  refine wl_nil ?_
  refine rk_true rfl ?_
  refine rk_seq ?_
  refine rk_region ?_
  refine wl_p (fun _ => o_assign rfl) ?_
  refine wl_nil ?_
  refine ret1 rfl rfl ?_
  exact ⟨rfl, hw⟩
theorem C_pKeepNil {B : Option Addr} {n c : Nat} (w : World) :
    CallsR Tryd.prog 16 [.pointer none, .slice B n c] w fun v w' => v = .tuple #[.int .i64 0, .int .i64 1] ∧ Below w.heap.size w w' := by
  refine callsR Tryd.func16 rfl rfl (by kernel_rfl) rfl ?_
  have hw := Below.refl w.heap.size w
  refine rk_seq ?_
  refine rk_region ?_
  refine wl_p (fun _ => o_assign rfl) ?_
  refine wl_p (fun _ => o_assign rfl) ?_
  refine wl_nil ?_
  refine rk_seq ?_
  refine rk_seq ?_
  refine rk_region ?_
  refine wl_p (fun _ => o_move rfl) ?_
  refine wl_call rfl (C_pvalidNil _) ?_
  rintro v11 w11 ⟨rfl, rfl⟩
  refine wl_p (fun _ => o_not rfl) ?_
  refine wl_nil ?_
  refine rk_true rfl ?_
  refine rk_seq ?_
  refine rk_region ?_
  refine wl_p (fun _ => o_assign rfl) ?_
  refine wl_p (fun _ => o_assign rfl) ?_
  refine wl_nil ?_
  refine ret2 rfl rfl rfl ?_
  exact ⟨rfl, hw⟩
theorem C_pKeepNo {g gd ul uh n c : Nat} {B : Option Addr} {zs : List Int} {U : List Bool} (w : World) (hp : PgAt w g gd ul uh U) (hz : RZ w B zs) (hn : n = zs.length) (hnm : n ≤ 100000) (ho : zs.all (usdAt U) = false) (wz : ∀ z ∈ zs, (Lit.int .i64 z).wf = true) :
    CallsR Tryd.prog 16 [.pointer (some ⟨g, 0, none⟩), .slice B n c] w fun v w' => v = .tuple #[.int .i64 0, .int .i64 6] ∧ Below w.heap.size w w' := by
  subst hn
  have hl := hp.2
  have hwl := wds_len U
  obtain ⟨A1, c1, f, fs⟩ := hp.1.ex
  refine callsR Tryd.func16 rfl rfl (by kernel_rfl) rfl ?_
  have hw := Below.refl w.heap.size w
  refine rk_seq ?_
  refine rk_region ?_
  refine wl_p (fun _ => o_assign rfl) ?_
  refine wl_p (fun _ => o_assign rfl) ?_
  refine wl_nil ?_
  refine rk_seq ?_
  refine rk_seq ?_
  refine rk_region ?_
  refine wl_p (fun _ => o_move rfl) ?_
  refine wl_call rfl (C_pvalid _ hp) ?_
  rintro v11 w11 ⟨rfl, rfl⟩
  refine wl_p (fun _ => o_not rfl) ?_
  refine wl_nil ?_
  refine rk_false rfl ?_
  refine rk_skip ?_
  refine rk_seq ?_
  refine rk_region ?_
  refine wl_p (fun _ => o_move rfl) ?_
  refine wl_p (fun _ => o_nil rfl) ?_
  refine wl_p (fun _ => o_faddr (s := 64) (i := 3) (off := 3) Tryd.underlying64 rfl Tryd.sizeOf62 rfl rfl rfl) ?_
  refine wl_r (o_loadbg Tryd.isAgg62 rfl f (by rfl)) ?_
  refine wl_p (fun _ => o_len (t := 62) Tryd.underlying62 rfl) ?_
  refine wl_mkU64 ((wds U).length) rfl rfl rfl rfl (by omega) ?_
  rintro A18 w18 f18 b18
  have qf18 := f18.cap
  have s18 := b18.size
  replace hw := hw.trans (b18.mono hw.size)
  refine wl_p (fun _ => (o_buildg [_, _, _, _] Tryd.underlying64 Tryd.zeroValue64 (by rfl) (by rfl) rfl (by rfl) (by rfl) (fun _ => by kernel_rfl))) ?_
  refine wl_boxg [_, _, _, _] rfl (by rfl) ?_
  rintro g20 w20 f20 b20 i20 i20_1
  have s20 := b20.size
  replace hw := hw.trans (b20.mono hw.size)
  replace f18 := f18.u b20
  refine wl_p (fun _ => o_assign rfl) ?_
  refine wl_nil ?_
  refine rk_seq ?_
  refine rk_seq ?_
  refine rk_region ?_
  refine wl_p (fun _ => o_move rfl) ?_
  refine wl_p (fun _ => o_len (t := 35) Tryd.underlying35 rfl) ?_
  refine wl_p (fun _ => o_move rfl) ?_
  refine wl_nil ?_
  refine rk_block ?_
  have hsz := hw.size
  have e0 : List.replicate (wds U).length 0 = wds (List.replicate U.length false) := by rw [hwl]; exact wds_none _
  rw [e0] at f18
  have hwl2 : (wds (List.replicate U.length false)).length = (wds U).length := by rw [wds_len, List.length_replicate, hwl]
  have fq : PgQ w20 g20 (.pointer none) (.pointer none) 0 w11.heap.size w20.heap.size (List.replicate U.length false) := ⟨⟨A18, (wds U).length, by rw [hwl2]; exact f20, f18.base (by omega) (by omega)⟩, Nat.le_refl _⟩
  clear f20 f18
  refine rk_joinf (fun fb fr V => False) ?_ (fun ks hj => ?_)
  rotate_left
  · refine rk_loopf (fun fb k fr V => ∃ (i : Nat) (v : Int) (q : List Bool), fr = [(23, .int .i64 v)] ++ fb.drop 1 ∧ v = i ∧ i ≤ zs.length ∧ k = zs.length - i ∧ (zs.take i).all (usdAt U) = true ∧ q.length = U.length ∧ PgQ V g20 (.pointer none) (.pointer none) 0 w11.heap.size w20.heap.size q ∧ Below w11.heap.size w11 V) (n := zs.length) (Fr.le_of (by kernel_rfl) (by kernel_rfl) (by repeat' constructor)) ⟨0, _, _, rfl, rfl, by omega, rfl, rfl, List.length_replicate, fq, hw⟩ ?_
    clear fq hw f fs
    rintro k fr V ⟨i, v, q, rfl, rfl, hi, rfl, hq, hql, fq, hw⟩
    have hil : i < zs.length := by
      rcases Nat.lt_or_ge i zs.length with h | h
      · exact h
      · rw [List.take_of_length_le h, ho] at hq; cases hq
    have hwi := wz _ (List.getElem_mem hil)
    have hpV := hp.u hw
    first | refine rk_frame (by simp only [List.cons_append, List.nil_append, List.drop_succ_cons, List.drop_zero]; rfl) ?_ | refine wl_frame (by simp only [List.cons_append, List.nil_append, List.drop_succ_cons, List.drop_zero]; rfl) ?_
    refine rk_seq ?_
    refine rk_region ?_
    refine wl_p (fun _ => o_lt rfl rfl) ?_
    refine wl_nil ?_
    refine rk_seq ?_
    refine rk_if rfl (fun h24 => ?_) (fun h24 => h24.elim (by omega))
    refine rk_skip ?_
    refine rk_seq ?_
    refine rk_block ?_
    refine rk_seq ?_
    refine rk_region ?_
    refine wl_p (fun _ => (o_iaddrA1 (i) Tryd.underlying35 Tryd.sizeOf3 rfl rfl rfl (Reads.some_ hz.to_Reads (by decide) (by omega)) (by omega))) ?_
    refine wl_r (o_loadZ Tryd.isAgg3 rfl (hz.u hw).to_Reads (by omega)) ?_
    refine wl_p (fun _ => o_assign rfl) ?_
    refine wl_nil ?_
    refine rk_seq ?_
    refine rk_seq ?_
    refine rk_region ?_
    refine wl_p (fun _ => o_move rfl) ?_
    refine wl_p (fun _ => o_move rfl) ?_
    refine wl_call rfl (C_has _ hpV (by rfl) hwi) ?_
    rintro v29 w29 ⟨rfl, rfl⟩
    refine wl_p (fun _ => o_not rfl) ?_
    refine wl_nil ?_
    cases hu : usdAt U zs[i] with
    | false =>
      refine rk_true rfl ?_
      refine rk_seq ?_
      refine rk_region ?_
      refine wl_p (fun _ => o_assign rfl) ?_
      refine wl_p (fun _ => o_assign rfl) ?_
      refine wl_nil ?_
      refine ret2 rfl rfl rfl ?_
      exact ⟨rfl, hw⟩
    | true =>
      obtain ⟨hz0, hz1⟩ := usdAt_lt hu
      obtain ⟨z, hzz⟩ : ∃ z : Nat, zs[i] = (z : Int) := ⟨zs[i].toNat, by omega⟩
      refine rk_false rfl ?_
      refine rk_skip ?_
      refine rk_region ?_
      refine wl_p (fun _ => o_move rfl) ?_
      refine wl_p (fun _ => o_move rfl) ?_
      refine wl_call rfl (C_mark _ fq hzz (by omega) (by omega)) ?_
      rintro v33 w33 ⟨rfl, ⟨f33, ⟨g33, ⟨row33, g33_1⟩⟩⟩⟩
      have s33 := g33.size
      replace hw := hw.trans (g33.below hw.size (by omega))
      clear hpV
      clear fq
      refine wl_nil ?_
      refine rk_blk ?_
      refine rk_region ?_
      refine wl_p (fun _ => o_add rfl rfl (by omega) (by omega)) ?_
      refine wl_p (fun _ => o_move rfl) ?_
      refine wl_nil ?_
      refine rk_againf (Fr.le_of (by kernel_rfl) (by kernel_rfl) (by repeat' constructor)) ⟨i + 1, (i : Int) + 1, q.set z true, rfl, by omega, by omega, rfl, ?_, by rw [List.length_set]; exact hql, by assumption, hw⟩ (by omega)
      rw [List.take_succ_eq_append_getElem hil, List.all_append, Bool.and_eq_true]
      exact ⟨hq, by simp [hu]⟩
  rintro fr V h
  exact h.elim
theorem C_pKeepOk {g gd ul uh n c k0 k1 : Nat} {B : Option Addr} {zs : List Int} {U M : List Bool} (w : World) (hp : PgAt w g gd ul uh U) (hz : RZ w B zs) (hM : markAll (List.replicate U.length false) zs = M) (hk0 : (usd U U.length).length = k0) (hk1 : (usd M M.length).length = k1) (hn : n = zs.length) (hnm : n ≤ 100000) (ho : zs.all (usdAt U) = true) (wz : ∀ z ∈ zs, (Lit.int .i64 z).wf = true) :
    CallsR Tryd.prog 16 [.pointer (some ⟨g, 0, none⟩), .slice B n c] w fun v w' => v = .tuple #[.int .i64 ((k0 : Int) - k1), .int .i64 0] ∧ PgAt w' g gd w.heap.size w'.heap.size M ∧ ∃ w1, Below w.heap.size w w1 ∧ Chg g (g + 1) w1 w' ∧ Grew w1 w' 64 (some g) := by
  subst hn
  have hl := hp.2
  have hwl := wds_len U
  have hMl : M.length = U.length := by rw [← hM, markAll_len, List.length_replicate]
  have hkl0 := usd_le U U.length
  have hkl1 := usd_le M M.length
  obtain ⟨A1, c1, f, fs⟩ := hp.1.ex
  refine callsR Tryd.func16 rfl rfl (by kernel_rfl) rfl ?_
  have hw := Below.refl w.heap.size w
  refine rk_seq ?_
  refine rk_region ?_
  refine wl_p (fun _ => o_assign rfl) ?_
  refine wl_p (fun _ => o_assign rfl) ?_
  refine wl_nil ?_
  refine rk_seq ?_
  refine rk_seq ?_
  refine rk_region ?_
  refine wl_p (fun _ => o_move rfl) ?_
  refine wl_call rfl (C_pvalid _ hp) ?_
  rintro v11 w11 ⟨rfl, rfl⟩
  refine wl_p (fun _ => o_not rfl) ?_
  refine wl_nil ?_
  refine rk_false rfl ?_
  refine rk_skip ?_
  refine rk_seq ?_
  refine rk_region ?_
  refine wl_p (fun _ => o_move rfl) ?_
  refine wl_p (fun _ => o_nil rfl) ?_
  refine wl_p (fun _ => o_faddr (s := 64) (i := 3) (off := 3) Tryd.underlying64 rfl Tryd.sizeOf62 rfl rfl rfl) ?_
  refine wl_r (o_loadbg Tryd.isAgg62 rfl f (by rfl)) ?_
  refine wl_p (fun _ => o_len (t := 62) Tryd.underlying62 rfl) ?_
  refine wl_mkU64 ((wds U).length) rfl rfl rfl rfl (by omega) ?_
  rintro A18 w18 f18 b18
  have qf18 := f18.cap
  have s18 := b18.size
  replace hw := hw.trans (b18.mono hw.size)
  refine wl_p (fun _ => (o_buildg [_, _, _, _] Tryd.underlying64 Tryd.zeroValue64 (by rfl) (by rfl) rfl (by rfl) (by rfl) (fun _ => by kernel_rfl))) ?_
  refine wl_boxg [_, _, _, _] rfl (by rfl) ?_
  rintro g20 w20 f20 b20 i20 i20_1
  have s20 := b20.size
  replace hw := hw.trans (b20.mono hw.size)
  replace f18 := f18.u b20
  refine wl_p (fun _ => o_assign rfl) ?_
  refine wl_nil ?_
  refine rk_seq ?_
  refine rk_seq ?_
  refine rk_region ?_
  refine wl_p (fun _ => o_move rfl) ?_
  refine wl_p (fun _ => o_len (t := 35) Tryd.underlying35 rfl) ?_
  refine wl_p (fun _ => o_move rfl) ?_
  refine wl_nil ?_
  refine rk_block ?_
  have hsz := hw.size
  have e0 : List.replicate (wds U).length 0 = wds (List.replicate U.length false) := by rw [hwl]; exact wds_none _
  rw [e0] at f18
  have hwl2 : (wds (List.replicate U.length false)).length = (wds U).length := by rw [wds_len, List.length_replicate, hwl]
  have fq : PgQ w20 g20 (.pointer none) (.pointer none) 0 w11.heap.size w20.heap.size (List.replicate U.length false) := ⟨⟨A18, (wds U).length, by rw [hwl2]; exact f20, f18.base (by omega) (by omega)⟩, Nat.le_refl _⟩
  clear f20 f18
  refine rk_joinf (fun fb fr V => fr = [] ++ fb.drop 1 ∧ PgQ V g20 (.pointer none) (.pointer none) 0 w11.heap.size w20.heap.size M ∧ Below w11.heap.size w11 V) ?_ (fun ks hj => ?_)
  rotate_left
  · refine rk_loopf (fun fb k fr V => ∃ (i : Nat) (v : Int) (q : List Bool), fr = [(23, .int .i64 v)] ++ fb.drop 1 ∧ v = i ∧ i ≤ zs.length ∧ k = zs.length - i ∧ q = markAll (List.replicate U.length false) (zs.take i) ∧ q.length = U.length ∧ PgQ V g20 (.pointer none) (.pointer none) 0 w11.heap.size w20.heap.size q ∧ Below w11.heap.size w11 V) (n := zs.length) (Fr.le_of (by kernel_rfl) (by kernel_rfl) (by repeat' constructor)) ⟨0, _, _, rfl, rfl, by omega, rfl, rfl, List.length_replicate, fq, hw⟩ ?_
    clear fq hw f fs
    rintro k fr V ⟨i, v, q, rfl, rfl, hi, rfl, hq, hql, fq, hw⟩
    have hpV := hp.u hw
    first | refine rk_frame (by simp only [List.cons_append, List.nil_append, List.drop_succ_cons, List.drop_zero]; rfl) ?_ | refine wl_frame (by simp only [List.cons_append, List.nil_append, List.drop_succ_cons, List.drop_zero]; rfl) ?_
    refine rk_seq ?_
    refine rk_region ?_
    refine wl_p (fun _ => o_lt rfl rfl) ?_
    refine wl_nil ?_
    refine rk_seq ?_
    refine rk_if rfl (fun h24 => ?_) (fun h24 => ?_)
    · have hil : i < zs.length := by omega
      have hwi := wz _ (List.getElem_mem hil)
      have hu : usdAt U zs[i] = true := List.all_eq_true.1 ho _ (List.getElem_mem hil)
      obtain ⟨hz0, hz1⟩ := usdAt_lt hu
      obtain ⟨z, hzz⟩ : ∃ z : Nat, zs[i] = (z : Int) := ⟨zs[i].toNat, by omega⟩
      refine rk_skip ?_
      refine rk_seq ?_
      refine rk_block ?_
      refine rk_seq ?_
      refine rk_region ?_
      refine wl_p (fun _ => (o_iaddrA1 (i) Tryd.underlying35 Tryd.sizeOf3 rfl rfl rfl (Reads.some_ hz.to_Reads (by decide) (by omega)) (by omega))) ?_
      refine wl_r (o_loadZ Tryd.isAgg3 rfl (hz.u hw).to_Reads (by omega)) ?_
      refine wl_p (fun _ => o_assign rfl) ?_
      refine wl_nil ?_
      refine rk_seq ?_
      refine rk_seq ?_
      refine rk_region ?_
      refine wl_p (fun _ => o_move rfl) ?_
      refine wl_p (fun _ => o_move rfl) ?_
      refine wl_call rfl (C_has _ hpV hu hwi) ?_
      rintro v29 w29 ⟨rfl, rfl⟩
      refine wl_p (fun _ => o_not rfl) ?_
      refine wl_nil ?_
      refine rk_false rfl ?_
      refine rk_skip ?_
      refine rk_region ?_
      refine wl_p (fun _ => o_move rfl) ?_
      refine wl_p (fun _ => o_move rfl) ?_
      refine wl_call rfl (C_mark _ fq hzz (by omega) (by omega)) ?_
      rintro v33 w33 ⟨rfl, ⟨f33, ⟨g33, ⟨row33, g33_1⟩⟩⟩⟩
      have s33 := g33.size
      replace hw := hw.trans (g33.below hw.size (by omega))
      clear hpV
      clear fq
      refine wl_nil ?_
      refine rk_blk ?_
      refine rk_region ?_
      refine wl_p (fun _ => o_add rfl rfl (by omega) (by omega)) ?_
      refine wl_p (fun _ => o_move rfl) ?_
      refine wl_nil ?_
      exact rk_againf (Fr.le_of (by kernel_rfl) (by kernel_rfl) (by repeat' constructor)) ⟨i + 1, (i : Int) + 1, q.set z true, rfl, by omega, by omega, rfl, by rw [List.take_succ_eq_append_getElem hil, markAll_snoc, hzz, hq]; rfl, by rw [List.length_set]; exact hql, by assumption, hw⟩ (by omega)
    · refine rk_exit rfl ?_
      obtain rfl : i = zs.length := by omega
      rw [List.take_length, hM] at hq
      subst hq
      exact rk_tof hj (Fr.le_of (by kernel_rfl) (by kernel_rfl) (by repeat' constructor)) ⟨rfl, fq, hw⟩
  clear fq hw f fs
  rintro fr V ⟨rfl, fq, hw⟩
  have hpV := hp.u hw
  obtain ⟨A2, c2, f, fs⟩ := hpV.1.ex
  obtain ⟨A3, c3, f3, fs3⟩ := fq.ex
  have hsz2 := hw.size
  have hqhi := fq.hi
  first | refine rk_frame (by simp only [List.cons_append, List.nil_append, List.drop_succ_cons, List.drop_zero]; rfl) ?_ | refine wl_frame (by simp only [List.cons_append, List.nil_append, List.drop_succ_cons, List.drop_zero]; rfl) ?_
  refine rk_seq ?_
  refine rk_drawo (id := 11) (none) [0, 1, 2, 4, 8, 0, 32, 64, 128, 272, 528, 2047] [0, 1, 3, 7, 15, 0, 32, 96, 224, 511, 1023, 2047] 528 16 [0, 1, 2, 3, 5, 6, 7, 8, 4, 9, 10, 11] [(.p, 0), (.p, 1), (.p, 2), (.r, 3), (.p, 5), (.p, 6), (.p, 7), (.s, 8), (.c, 4), (.l, 9), (.p, 10), (.p, 11)] (by kernel_rfl) (by kernel_rfl) (by kernel_rfl) (by kernel_rfl) (by kernel_rfl) ?_
  dsimp only [inOrder, nthOp]
  replace hw := hw.drew
  replace fs3 := fs3.d
  replace f3 := f3.d
  replace fs := fs.d
  replace f := f.d
  replace hpV := hpV.d
  replace fq := fq.d
  refine wl_p (fun _ => o_move rfl) ?_
  refine wl_p (fun _ => o_nil rfl) ?_
  refine wl_p (fun _ => o_faddr (s := 64) (i := 3) (off := 3) Tryd.underlying64 rfl Tryd.sizeOf62 rfl rfl rfl) ?_
  refine wl_r (o_loadbg Tryd.isAgg62 rfl f (by rfl)) ?_
  refine wl_p (fun _ => o_move rfl) ?_
  refine wl_p (fun _ => o_nil rfl) ?_
  refine wl_p (fun _ => o_faddr (s := 64) (i := 3) (off := 3) Tryd.underlying64 rfl Tryd.sizeOf62 rfl rfl rfl) ?_
  refine wl_s (fun _ hk => (o_loadbg Tryd.isAgg62 rfl (f3.u (below_of_grown_none hk)) (by rfl))) ?_
  refine wl_call rfl (C_total _ fs.to_RdK hk0 rfl (by omega)) ?_ (hq := .inr fun _ _ h => grown_of_below h.2 _)
  rintro v39 w39 ⟨rfl, b39⟩
  simp only [drew_size] at b39
  have s39 := b39.size
  simp only [drew_size] at s39
  replace hw := hw.trans (b39.mono hw.size)
  replace fq := fq.u b39
  replace hpV := hpV.u b39
  replace f := f.u b39
  replace fs := fs.u b39
  replace f3 := f3.u b39
  replace fs3 := fs3.u b39
  refine wl_call rfl (C_total _ fs3.to_RdK hk1 rfl (by omega)) ?_
  rintro v44 w44 ⟨rfl, b44⟩
  have s44 := b44.size
  replace hw := hw.trans (b44.mono hw.size)
  replace fs3 := fs3.u b44
  replace f3 := f3.u b44
  replace fs := fs.u b44
  replace f := f.u b44
  replace hpV := hpV.u b44
  replace fq := fq.u b44
  refine wl_p (fun _ => o_sub rfl rfl (by omega) (by omega)) ?_
  refine wl_p (fun _ => o_assign rfl) ?_
  refine wl_nild ?_
  refine rk_seq ?_
  refine rk_region ?_
  refine wl_p (fun _ => o_move rfl) ?_
  refine wl_p (fun _ => o_move rfl) ?_
  refine wl_p (fun _ => o_nil rfl) ?_
  refine wl_p (fun _ => o_faddr (s := 64) (i := 3) (off := 3) Tryd.underlying64 rfl Tryd.sizeOf62 rfl rfl rfl) ?_
  refine wl_r (o_loadbg Tryd.isAgg62 rfl f3 (by rfl)) ?_
  refine wl_p (fun _ => o_nil rfl) ?_
  refine wl_p (fun _ => o_faddr (s := 64) (i := 3) (off := 3) Tryd.underlying64 rfl Tryd.sizeOf62 rfl rfl rfl) ?_
  refine wl_storeg1 Tryd.sizeOf62 rfl rfl (by rfl) f (by simp) ?_
  rintro w f_1 g_1 e
  have s := g_1.size
  replace fs := fs.y g_1 (by decide)
  replace fs3 := fs3.y g_1 (by decide)
  clear fq
  clear hpV
  clear f
  clear f3
  refine wl_nil ?_
  refine rk_seq ?_
  refine rk_region ?_
  refine wl_p (fun _ => o_move rfl) ?_
  refine wl_p (fun _ => o_assign rfl) ?_
  refine wl_p (fun _ => o_assign rfl) ?_
  refine wl_nil ?_
  refine ret2 rfl rfl rfl ?_
  have hG : Grew w44 w 64 (some g) := by assumption
  have hsz3 := hG.size
  have hsz4 := hw.size
  exact ⟨rfl, ⟨⟨⟨A3, c3, by rw [hMl]; exact f_1, fs3.base (by omega) (by omega)⟩, Nat.le_refl _⟩, by omega⟩, w44, hw, Chg.of_g1 hG.g (Nat.le_refl _) (Nat.lt_succ_self _), hG⟩
/-- What Free returns, and leaves. -/
def freeP (U : List Bool) (z : Int) : Nat × List Bool := if usdAt U z then (0, U.set z.toNat false) else (6, U)
theorem C_pFreeN {g gd ul uh : Nat} {z : Int} {U : List Bool} {r : Nat × List Bool} (w : World) (hp : PgAt w g gd ul uh U) (hr : freeP U z = r) (wz : (Lit.int .i64 z).wf = true) :
    CallsR Tryd.prog 21 [.pointer (some ⟨g, 0, none⟩), .int .i64 z] w fun v w' => v = .int .i64 (r.1 : Nat) ∧ PgAt w' g gd ul uh r.2 ∧ (∃ row, Grew w w' 73 row) ∧ Chg ul uh w w' := by
  subst hr
  rw [freeP]
  by_cases hu : usdAt U z = true
  · rw [if_pos hu]
    have hz := (usdAt_lt hu).1
    refine (C_pFreeOk w hp hu (n := z.toNat) (by omega) wz).mono ?_
    rintro v w' ⟨rfl, h1, h2, h3⟩
    exact ⟨rfl, h1, h3, h2⟩
  · rw [if_neg hu]
    refine (C_pFreeNo w hp (by cases h : usdAt U z with | true => exact absurd h hu | false => rfl) wz).mono ?_
    rintro v w' ⟨rfl, hb⟩
    exact ⟨rfl, hp.u hb, ⟨_, Grew.of_below hb⟩, Chg.of_below hb⟩
end Go.Proofs.YtklijaahbahcoaaDoor
/-
  Plain laws of a page file's disk: what New leaves is read.
-/
namespace Go.Proofs.YtklijaahbahcoaaDoor
set_option maxRecDepth 100000
theorem TabAt0.lt {w : World} {g : Nat} (h : TabAt0 w g) : g < w.heap.size := by
  obtain ⟨b, o, e, hc⟩ := h.r.2 (by decide)
  obtain rfl : g = b := by injection e with e; injection e
  exact block_lt_of_cell (hc 0 _ rfl)
theorem wrC_at {S : List Sec} {C : List (Option Sec)} {i : Nat} {b : By} (h : i < S.length) (hb : b.length = 256) : wrC S C (i : Int) b = (C.set i (some ⟨b, hb⟩), 0) := by
  rw [wrC, dif_pos ⟨by omega, hb⟩]; rfl
theorem newC_eq {S : List Sec} {C : List (Option Sec)} {k : Nat} {p : By} (h : 2 * k + 1 < S.length) (hp : p.length = 512) :
    newC S C k p = (C.set (2 * k) (some ⟨p.take 256, by rw [List.length_take]; omega⟩)).set (2 * k + 1) (some ⟨p.drop 256, by rw [List.length_drop]; omega⟩) := by
  rw [newC, show 2 * (k : Int) = ((2 * k : Nat) : Int) by omega, wrC_at (by omega) (by rw [List.length_take]; omega), show ((2 * k : Nat) : Int) + 1 = ((2 * k + 1 : Nat) : Int) by omega, wrC_at h (by rw [List.length_drop]; omega)]
theorem newC_len (S : List Sec) (C : List (Option Sec)) (k : Nat) (p : By) : (newC S C k p).length = C.length := by
  have w : ∀ (C : List (Option Sec)) (a : Int) (b : By), (wrC S C a b).1.length = C.length := fun C a b => by unfold wrC; split <;> simp
  rw [newC, w, w]
theorem sAt_set {X : List Sec} {i j : Nat} {s : Sec} (h : i < X.length) : sAt (X.set i s) j = if j = i then s.1 else sAt X j := by
  by_cases hj : j < X.length
  · rw [sAt_of (show j < (X.set i s).length by rw [List.length_set]; exact hj), sAt_of hj]
    by_cases e : j = i
    · subst e; rw [if_pos rfl]; exact congrArg Subtype.val (List.getElem_set_self _)
    · rw [if_neg e]; exact congrArg Subtype.val (List.getElem_set_ne (fun h => e h.symm) _)
  · rw [if_neg (by omega)]
    unfold sAt
    rw [dif_neg (by rw [List.length_set]; exact hj), dif_neg hj]
theorem cur_newC {S : List Sec} {C : List (Option Sec)} {k : Nat} {p : By} (hl : C.length = S.length) (h : 2 * k + 1 < S.length) (hp : p.length = 512) (j : Nat) :
    pgAll (cur S (newC S C k p)) j = if j = k then p else pgAll (cur S C) j := by
  rw [newC_eq h hp, cur_set _ _ _ _ (by rw [List.length_set, hl]), cur_set _ _ _ _ hl, pgAll, sAt_set (by rw [List.length_set, cur_len]; exact h), sAt_set (by rw [cur_len]; omega), sAt_set (by rw [List.length_set, cur_len]; exact h), sAt_set (by rw [cur_len]; omega)]
  by_cases e : j = k
  · subst e
    rw [if_neg (by omega), if_pos rfl, if_pos rfl, if_pos rfl, List.take_append_drop]
  · rw [if_neg (by omega), if_neg (by omega), if_neg (by omega), if_neg (by omega), if_neg e]; rfl
theorem pageL_body (k : Nat) {b : By} (h : b.length ≤ 500) : pageL k (bodyL b) = pageL k b := by
  rw [pageL, pageL, bodyL_full (bodyL_len h)]
/-- What is read of a page whose bytes these are. -/
theorem readP_of {X : List Sec} {U : List Bool} {n : Nat} {b : By} (hu : U.getD n false = true) (hb : b.length ≤ 500) (h : pgAll X n = pageL n b) : readP X U (n : Int) = (bodyL b, 0) := by
  rw [readP, usdAt, Int.toNat_natCast, hu, decide_eq_true (by omega), Bool.and_self, if_pos rfl, h, pageL_drop, pageL_body n hb, if_pos rfl]
theorem readP_no {X : List Sec} {U : List Bool} {z : Int} (hu : usdAt U z = false) : readP X U z = ([], 6) := by
  rw [readP, hu, if_neg (by simp)]
theorem newP_ok {S : List Sec} {C : List (Option Sec)} {U : List Bool} {b : By} {k : Nat} (hb : b.length ≤ 500) (hk : least U = k) (hl : k < U.length) : newP S C U b = ((k, 0), newC S C k (pageL k b), U.set k true) := by
  subst hk
  rw [newP, if_neg (by omega), if_neg (by omega)]
theorem newP_full {S : List Sec} {C : List (Option Sec)} {U : List Bool} {b : By} (hb : b.length ≤ 500) (hl : least U = U.length) : newP S C U b = ((0, 7), C, U) := by
  rw [newP, if_neg (by omega), if_pos hl]
theorem newP_bad {S : List Sec} {C : List (Option Sec)} {U : List Bool} {b : By} (hb : 500 < b.length) : newP S C U b = ((0, 2), C, U) := by
  rw [newP, if_pos hb]
end Go.Proofs.YtklijaahbahcoaaDoor
/-
  Walk of headwaterkit.Pick.
-/
namespace Go.Proofs.YtklijaahbahcoaaDoor
set_option maxRecDepth 100000
open Go.RowKit
theorem tmod_neg (n m : Int) (hm : 0 < m) (h : n.tmod m < 0) : n % m = n.tmod m + m := by
  have e := Int.tmod_eq_emod (a := n) (b := m)
  have h1 := Int.emod_nonneg n (b := m) (by omega)
  split at e <;> omega
theorem tmod_pos (n m : Int) (hm : 0 < m) (h : ¬ n.tmod m < 0) : n % m = n.tmod m := by
  have e := Int.tmod_eq_emod (a := n) (b := m)
  have h2 := Int.emod_lt_of_pos n hm
  split at e <;> omega
def pick (n m : Int) : Int := if m < 1 then 0 else n % m
theorem i64_wf {n : Int} (h : -9223372036854775808 ≤ n ∧ n ≤ 9223372036854775807) : (Lit.int .i64 n).wf = true := by
  simp only [Lit.wf, Bool.and_eq_true, decide_eq_true_eq]
  exact h
theorem pick_range (n m : Int) (hm : 1 ≤ m) : 0 ≤ pick n m ∧ pick n m < m := by
  rw [pick, if_neg (by omega)]
  exact ⟨Int.emod_nonneg n (by omega), Int.emod_lt_of_pos n (by omega)⟩
theorem C_Pick (n m : Int) (wn : (Lit.int .i64 n).wf = true) (wm : (Lit.int .i64 m).wf = true) (w : World) :
    CallsR Tryd.prog 8 [.int .i64 n, .int .i64 m] w fun v w' => v = .int .i64 (pick n m) ∧ w' = w := by
  have bn := bounds_i64 wn
  have bm := bounds_i64 wm
  refine callsR Tryd.func8 rfl rfl (by kernel_rfl) rfl ?_
  refine rk_seq ?_
  refine rk_region ?_
  refine wl_p (fun _ => o_assign rfl) ?_
  refine wl_nil ?_
  refine rk_seq ?_
  refine rk_seq ?_
  refine rk_region ?_
  refine wl_p (fun _ => o_move rfl) ?_
  refine wl_p (fun _ => o_lt rfl rfl) ?_
  refine wl_nil ?_
  refine rk_if rfl (fun h => ?_) (fun h => ?_)
  · refine rk_seq ?_
    refine rk_region ?_
    refine wl_p (fun _ => o_assign rfl) ?_
    refine wl_nil ?_
    refine ret1 rfl rfl ?_
    exact ⟨by rw [pick, if_pos h], rfl⟩
  · refine rk_skip ?_
    refine rk_seq ?_
    refine rk_region ?_
    refine wl_p (fun _ => o_move rfl) ?_
    refine wl_p (fun _ => o_move rfl) ?_
    refine wl_p (fun _ => o_remz rfl rfl (by omega)) ?_
    refine wl_p (fun _ => o_assign rfl) ?_
    refine wl_nil ?_
    refine rk_seq ?_
    refine rk_seq ?_
    refine rk_region ?_
    refine wl_p (fun _ => o_move rfl) ?_
    refine wl_p (fun _ => o_lt rfl rfl) ?_
    refine wl_nil ?_
    refine rk_if rfl (fun h2 => ?_) (fun h2 => ?_)
    · have e := tmod_neg n m (by omega) h2
      have e1 := Int.emod_nonneg n (b := m) (by omega)
      have e2 := Int.emod_lt_of_pos n (b := m) (by omega)
      refine rk_region ?_
      refine wl_p (fun _ => o_move rfl) ?_
      refine wl_p (fun _ => o_move rfl) ?_
      refine wl_p (fun _ => o_add rfl rfl (by omega) (by omega)) ?_
      refine wl_p (fun _ => o_assign rfl) ?_
      refine wl_nil ?_
      refine rk_seq ?_
      refine rk_region ?_
      refine wl_p (fun _ => o_move rfl) ?_
      refine wl_p (fun _ => o_assign rfl) ?_
      refine wl_nil ?_
      refine ret1 rfl rfl ?_
      exact ⟨by rw [pick, if_neg h, tmod_neg n m (by omega) h2], rfl⟩
    · refine rk_skip ?_
      refine rk_seq ?_
      refine rk_region ?_
      refine wl_p (fun _ => o_move rfl) ?_
      refine wl_p (fun _ => o_assign rfl) ?_
      refine wl_nil ?_
      refine ret1 rfl rfl ?_
      exact ⟨by rw [pick, if_neg h, tmod_pos n m (by omega) h2], rfl⟩
theorem C_PickR {n m r : Int} (w : World) (hr : pick n m = r) (wn : (Lit.int .i64 n).wf = true) (wm : (Lit.int .i64 m).wf = true) :
    CallsR Tryd.prog 8 [.int .i64 n, .int .i64 m] w fun v w' => v = .int .i64 r ∧ Below w.heap.size w w' := by
  refine (C_Pick n m wn wm w).mono ?_
  rintro v w' ⟨rfl, rfl⟩
  exact ⟨congrArg _ hr, Below.refl _ _⟩
end Go.Proofs.YtklijaahbahcoaaDoor
/-
  Walks: the chapter's examples.
-/
namespace Go.Proofs.YtklijaahbahcoaaDoor
set_option maxRecDepth 100000
open Go.RowKit
set_option maxRecDepth 100000 in
theorem C_lives10 (w : World) (hT : TabAt0 w 0) : CallsR Tryd.prog 7 [] w fun v w' => v = .bool true ∧ Below w.heap.size w w' := by
  obtain ⟨Z, hZ⟩ : ∃ Z : List Sec, List.replicate 8 z256 = Z := ⟨_, rfl⟩
  obtain ⟨Q, hQ⟩ : ∃ Q : List (Option Sec), List.replicate 8 none = Q := ⟨_, rfl⟩
  have hZl : Z.length = 8 := by rw [← hZ, List.length_replicate]
  have hQl : Q.length = 8 := by rw [← hQ, List.length_replicate]
  have hm : Z.length / 2 = 4 := by rw [hZl]
  have ho : openOk 4 [] = true := rfl
  have hU : markAll (List.replicate 4 false) [] = [false, false, false, false] := rfl
  have hn1 : newP Z Q [false, false, false, false] [97] = ((0, 0), newC Z Q 0 (pageL 0 [97]), [true, false, false, false]) := newP_ok (by decide) (by decide) (by decide)
  obtain ⟨C1, hC1⟩ : ∃ C, newC Z Q 0 (pageL 0 [97]) = C := ⟨_, rfl⟩
  have hC1l : C1.length = 8 := by rw [← hC1, newC_len, hQl]
  rw [hC1] at hn1
  obtain ⟨r1, hr1⟩ : ∃ r : (Nat × Nat) × List (Option Sec) × List Bool, ((0, 0), C1, [true, false, false, false]) = r := ⟨_, rfl⟩
  have hn2 : newP Z C1 [true, false, false, false] [98] = ((1, 0), newC Z C1 1 (pageL 1 [98]), [true, true, false, false]) := newP_ok (by decide) (by decide) (by decide)
  obtain ⟨C2, hC2⟩ : ∃ C, newC Z C1 1 (pageL 1 [98]) = C := ⟨_, rfl⟩
  have hC2l : C2.length = 8 := by rw [← hC2, newC_len, hC1l]
  rw [hC2] at hn2
  have hn3 : newP Z C2 [false, true, false, false] [99] = ((0, 0), newC Z C2 0 (pageL 0 [99]), [true, true, false, false]) := newP_ok (by decide) (by decide) (by decide)
  have hlen99 : (pageL 0 [99]).length = 512 := pageL_len 0 (by decide)
  have hpg := cur_newC (S := Z) (C := C2) (k := 0) (p := pageL 0 [99]) (by omega) (by omega) hlen99 0
  rw [if_pos rfl] at hpg
  obtain ⟨C3, hC3⟩ : ∃ C, newC Z C2 0 (pageL 0 [99]) = C := ⟨_, rfl⟩
  rw [hC3] at hn3 hpg
  obtain ⟨X, hX⟩ : ∃ X, cur Z C3 = X := ⟨_, rfl⟩
  rw [hX] at hpg
  have hR3 : readP X [true, true, false, false] 3 = ([], 6) := readP_no rfl
  have hR0 : readP X [true, true, false, false] 0 = (bodyL [99], 0) := readP_of (n := 0) rfl (by decide) hpg
  obtain ⟨bd, hbd⟩ : ∃ bd, bodyL [99] = bd := ⟨_, rfl⟩
  have hbl : bd.length = 500 := by rw [← hbd]; exact bodyL_len (by decide)
  have hb0 : (bd[0]'(by omega)).toNat = 99 := by subst hbd; rfl
  rw [hbd] at hR0
  have hf : freeP [true, true, false, false] 0 = (0, [false, true, false, false]) := rfl
  refine callsR Tryd.func7 rfl rfl (by kernel_rfl) rfl ?_
  have hw := Below.refl w.heap.size w
  refine rk_seq ?_
  refine rk_region ?_
  refine wl_p (fun _ => o_assign rfl) ?_
  refine wl_nil ?_
  refine rk_seq ?_
  refine rk_region ?_
  have hTn := hT.u hw
  have hgd : 0 < w.heap.size := hT.lt
  refine wl_call rfl (C_dNewOk _ (by omega) hZ hQ (by omega) (by omega)) ?_
  rintro v16 w16 ⟨g16, ⟨rfl, ⟨f16, b16⟩⟩⟩
  have s16 := b16.size
  replace hw := hw.trans (b16.mono hw.size)
  refine wl_p (fun _ => o_move rfl) ?_
  refine wl_p (fun _ => o_ext20 rfl) ?_
  refine wl_p (fun _ => o_ext21 rfl) ?_
  refine wl_p (fun _ => o_assign rfl) ?_
  refine wl_p (fun _ => o_assign rfl) ?_
  refine wl_nil ?_
  refine rk_seq ?_
  refine rk_region ?_
  refine wl_p (fun _ => o_move rfl) ?_
  refine wl_call rfl (C_pOpenOk _ f16 (RZ.nil_) (by rfl) (by omega) hm ho hU) ?_
  rintro v21 w21 ⟨g21, ⟨rfl, ⟨f21, ⟨i21, ⟨i21_1, b21⟩⟩⟩⟩⟩
  have s21 := b21.size
  replace hw := hw.trans (b21.mono hw.size)
  replace f16 := f16.u b21
  refine wl_p (fun _ => o_move rfl) ?_
  refine wl_p (fun _ => o_ext20 rfl) ?_
  refine wl_p (fun _ => o_ext21 rfl) ?_
  refine wl_p (fun _ => o_assign rfl) ?_
  refine wl_p (fun _ => o_assign rfl) ?_
  refine wl_nil ?_
  refine rk_seq ?_
  refine rk_seq ?_
  refine rk_region ?_
  refine wl_p (fun _ => o_move rfl) ?_
  refine wl_p (fun _ => o_ne rfl rfl) ?_
  refine wl_p (fun _ => o_move rfl) ?_
  refine wl_p (fun _ => o_move rfl) ?_
  refine wl_p (fun _ => o_peq_nil (t := 32) Tryd.underlying32 rfl rfl) ?_
  refine wl_p (fun _ => o_pick_f rfl rfl) ?_
  refine wl_nil ?_
  refine rk_false rfl ?_
  refine rk_skip ?_
  refine rk_seq ?_
  refine rk_region ?_
  refine wl_p (fun _ => o_move rfl) ?_
  refine wl_litC [97] Tryd.u8 Tryd.sizeOf5 Tryd.zeroValue5 (by rfl) rfl rfl (by rfl) (by rfl) (by rfl) ?_
  rintro A32 w32 f32 b32
  have s32 := b32.size
  replace hw := hw.trans (b32.mono hw.size)
  replace f16 := f16.u b32
  replace f21 := f21.u b32
  refine wl_call rfl (C_pNew _ (hTn.u hw) f21 f16 f32.to_Rd hn1 (by rfl) (by omega) (by simp; omega) (by omega) (by omega) (by omega)) ?_
  rintro v34 w34 ⟨rfl, ⟨f34, ⟨f34_1, ⟨w134, ⟨g34, ⟨g34_1, ⟨row34, g34_2⟩⟩⟩⟩⟩⟩⟩
  dsimp only at f34
  dsimp only at f34_1
  dsimp only
  have s34 := g34.size
  replace hw := hw.trans (g34.below hw.size (by omega))
  replace f21 := f21.c g34 (by omega)
  clear f16
  clear f32
  have s34g34_1 := g34_1.size
  replace hw := hw.trans (g34_1.below hw.size (by omega))
  clear f21
  refine wl_p (fun _ => o_move rfl) ?_
  refine wl_p (fun _ => o_ext20 rfl) ?_
  refine wl_p (fun _ => o_ext21 rfl) ?_
  refine wl_p (fun _ => o_assign rfl) ?_
  refine wl_p (fun _ => o_assign rfl) ?_
  refine wl_nil ?_
  refine rk_seq ?_
  refine rk_region ?_
  refine wl_p (fun _ => o_move rfl) ?_
  refine wl_litC [98] Tryd.u8 Tryd.sizeOf5 Tryd.zeroValue5 (by rfl) rfl rfl (by rfl) (by rfl) (by rfl) ?_
  rintro A39 w39 f39 b39
  have s39 := b39.size
  replace hw := hw.trans (b39.mono hw.size)
  replace f34_1 := f34_1.u b39
  replace f34 := f34.u b39
  refine wl_call rfl (C_pNew _ (hTn.u hw) f34 f34_1 f39.to_Rd hn2 (by rfl) (by omega) (by simp; omega) (by omega) (by omega) (by omega)) ?_
  rintro v41 w41 ⟨rfl, ⟨f41, ⟨f41_1, ⟨w141, ⟨g41, ⟨g41_1, ⟨row41, g41_2⟩⟩⟩⟩⟩⟩⟩
  dsimp only at f41
  dsimp only at f41_1
  dsimp only
  have s41 := g41.size
  replace hw := hw.trans (g41.below hw.size (by omega))
  replace f34 := f34.c g41 (by omega)
  clear f34_1
  clear f39
  have s41g41_1 := g41_1.size
  replace hw := hw.trans (g41_1.below hw.size (by omega))
  clear f34
  refine wl_p (fun _ => o_move rfl) ?_
  refine wl_p (fun _ => o_ext20 rfl) ?_
  refine wl_p (fun _ => o_ext21 rfl) ?_
  refine wl_p (fun _ => o_assign rfl) ?_
  refine wl_p (fun _ => o_assign rfl) ?_
  refine wl_nil ?_
  refine rk_seq ?_
  refine rk_region ?_
  refine wl_p (fun _ => o_move rfl) ?_
  refine wl_call rfl (C_pFreeN _ f41 hf (by rfl)) ?_
  rintro v45 w45 ⟨rfl, ⟨f45, ⟨⟨row45, g45⟩, g45_1⟩⟩⟩
  dsimp only at f45
  dsimp only
  have s45 := g45.size
  replace hw := hw.trans (g45_1.below hw.size (by omega))
  replace f41_1 := f41_1.c g45_1 (by omega)
  clear f41
  refine wl_p (fun _ => o_assign rfl) ?_
  refine wl_nil ?_
  refine rk_seq ?_
  refine rk_region ?_
  refine wl_p (fun _ => o_move rfl) ?_
  refine wl_litC [99] Tryd.u8 Tryd.sizeOf5 Tryd.zeroValue5 (by rfl) rfl rfl (by rfl) (by rfl) (by rfl) ?_
  rintro A48 w48 f48 b48
  have s48 := b48.size
  replace hw := hw.trans (b48.mono hw.size)
  replace f41_1 := f41_1.u b48
  replace f45 := f45.u b48
  refine wl_call rfl (C_pNew _ (hTn.u hw) f45 f41_1 f48.to_Rd hn3 (by rfl) (by omega) (by simp; omega) (by omega) (by omega) (by omega)) ?_
  rintro v50 w50 ⟨rfl, ⟨f50, ⟨f50_1, ⟨w150, ⟨g50, ⟨g50_1, ⟨row50, g50_2⟩⟩⟩⟩⟩⟩⟩
  dsimp only at f50
  dsimp only at f50_1
  dsimp only
  have s50 := g50.size
  replace hw := hw.trans (g50.below hw.size (by omega))
  replace f45 := f45.c g50 (by omega)
  clear f41_1
  clear f48
  have s50g50_1 := g50_1.size
  replace hw := hw.trans (g50_1.below hw.size (by omega))
  clear f45
  refine wl_p (fun _ => o_move rfl) ?_
  refine wl_p (fun _ => o_ext20 rfl) ?_
  refine wl_p (fun _ => o_ext21 rfl) ?_
  refine wl_p (fun _ => o_assign rfl) ?_
  refine wl_p (fun _ => o_assign rfl) ?_
  refine wl_nil ?_
  refine rk_seq ?_
  refine rk_region ?_
  refine wl_p (fun _ => o_move rfl) ?_
  refine wl_call rfl (C_pRead _ f50 f50_1 hX hR3 (by simp; omega) (by rfl)) ?_
  rintro v55 w55 ⟨A55, ⟨c55, ⟨rfl, ⟨f55, ⟨i55, b55⟩⟩⟩⟩⟩
  dsimp only at f55
  dsimp only at i55
  dsimp only
  have s55 := b55.size
  replace hw := hw.trans (b55.mono hw.size)
  replace f50_1 := f50_1.u b55
  replace f50 := f50.u b55
  refine wl_p (fun _ => o_move rfl) ?_
  refine wl_p (fun _ => o_ext20 rfl) ?_
  refine wl_p (fun _ => o_ext21 rfl) ?_
  refine wl_p (fun _ => o_assign rfl) ?_
  refine wl_p (fun _ => o_assign rfl) ?_
  refine wl_nil ?_
  refine rk_seq ?_
  refine rk_region ?_
  refine wl_p (fun _ => o_move rfl) ?_
  refine wl_call rfl (C_pRead _ f50 f50_1 hX hR0 (by simp; omega) (by rfl)) ?_
  rintro v60 w60 ⟨A60, ⟨c60, ⟨rfl, ⟨f60, ⟨i60, b60⟩⟩⟩⟩⟩
  dsimp only at f60
  dsimp only at i60
  dsimp only
  have s60 := b60.size
  replace hw := hw.trans (b60.mono hw.size)
  replace f50 := f50.u b60
  replace f50_1 := f50_1.u b60
  replace f55 := f55.u b60
  refine wl_p (fun _ => o_move rfl) ?_
  refine wl_p (fun _ => o_ext20 rfl) ?_
  refine wl_p (fun _ => o_ext21 rfl) ?_
  refine wl_p (fun _ => o_assign rfl) ?_
  refine wl_p (fun _ => o_assign rfl) ?_
  refine wl_nil ?_
  refine rk_seq ?_
  refine rk_region ?_
  refine wl_p (fun _ => o_move rfl) ?_
  refine wl_p (fun _ => o_eq rfl rfl) ?_
  refine wl_p (fun _ => o_move rfl) ?_
  refine wl_p (fun _ => o_move rfl) ?_
  refine wl_p (fun _ => o_eq rfl rfl) ?_
  refine wl_p (fun _ => o_pick_t rfl rfl) ?_
  refine wl_p (fun _ => o_move rfl) ?_
  refine wl_p (fun _ => o_move rfl) ?_
  refine wl_p (fun _ => o_eq rfl rfl) ?_
  refine wl_p (fun _ => o_pick_t rfl rfl) ?_
  refine wl_p (fun _ => o_move rfl) ?_
  refine wl_p (fun _ => o_move rfl) ?_
  refine wl_p (fun _ => o_eq rfl rfl) ?_
  refine wl_p (fun _ => o_pick_t rfl rfl) ?_
  refine wl_p (fun _ => o_move rfl) ?_
  refine wl_p (fun _ => o_move rfl) ?_
  refine wl_p (fun _ => o_eq rfl rfl) ?_
  refine wl_p (fun _ => o_pick_t rfl rfl) ?_
  refine wl_p (fun _ => o_move rfl) ?_
  refine wl_p (fun _ => o_move rfl) ?_
  refine wl_p (fun _ => o_eq rfl rfl) ?_
  refine wl_p (fun _ => o_pick_t rfl rfl) ?_
  refine wl_p (fun _ => o_move rfl) ?_
  refine wl_p (fun _ => o_move rfl) ?_
  refine wl_p (fun _ => o_eq rfl rfl) ?_
  refine wl_p (fun _ => o_pick_t rfl rfl) ?_
  refine wl_p (fun _ => o_move rfl) ?_
  refine wl_p (fun _ => o_move rfl) ?_
  refine wl_p (fun _ => o_eq rfl rfl) ?_
  refine wl_p (fun _ => o_pick_t rfl rfl) ?_
  refine wl_p (fun _ => o_move rfl) ?_
  refine wl_p (fun _ => o_move rfl) ?_
  refine wl_p (fun _ => o_eq rfl rfl) ?_
  refine wl_p (fun _ => o_pick_t rfl rfl) ?_
  refine wl_p (fun _ => o_move rfl) ?_
  refine wl_p (fun _ => o_move rfl) ?_
  refine wl_p (fun _ => o_len (t := 22) Tryd.underlying22 rfl) ?_
  refine wl_p (fun _ => o_eq rfl rfl) ?_
  refine wl_p (fun _ => o_pick_t rfl rfl) ?_
  refine wl_p (fun _ => o_move rfl) ?_
  refine wl_know 102 true rfl (decide_eq_true (by omega)) ?_
  refine wl_p (fun _ => o_move rfl) ?_
  refine wl_p (fun _ => (o_iaddrA1 (0) Tryd.underlying22 Tryd.sizeOf5 rfl rfl (by omega) (Reads.some_ f60.to_Reads (by decide) (by omega)) (by omega))) ?_
  refine wl_r (o_loadB Tryd.isAgg5 rfl f60.to_Rd (by omega)) ?_
  refine wl_p (fun _ => o_eq rfl rfl) ?_
  refine wl_p (fun _ => o_pick_t rfl rfl) ?_
  refine wl_p (fun _ => o_assign rfl) ?_
  refine wl_nil ?_
  refine ret1 rfl rfl ?_
  exact ⟨congrArg Value.bool (decide_eq_true (by omega)), hw⟩
end Go.Proofs.YtklijaahbahcoaaDoor
/-
  The chapter's examples: package sha.
-/
namespace Go.Proofs.YtklijaahbahcoaaDoor
set_option maxRecDepth 100000
open Go.RowKit
theorem ev_abc : (bytesU (runU Sl (padU ([[97, 98, 99]] : List By).flatten))).take 8 = [221, 175, 53, 161, 147, 97, 122, 186] := by kernel_rfl
theorem ev_short : ((bytesU (runU Ul (padU ([[97, 98, 99]] : List By).flatten))).take 32).take 8 = [83, 4, 142, 38, 129, 148, 30, 249] := by kernel_rfl
theorem ev_root2 : root (2 % 4294967296) 2 % 18446744073709551616 = 7640891576956012808 := by kernel_rfl
theorem ev_cube2 : root (2 % 4294967296) 3 % 18446744073709551616 = 4794697086780616226 := by kernel_rfl
end Go.Proofs.YtklijaahbahcoaaDoor
/-
  The statement ShaNames: padding of one string, the examples.
-/
namespace Go.Proofs.YtklijaahbahcoaaDoor
set_option maxRecDepth 100000
open Go.RowKit
theorem C_Own {A : Option Addr} {p : By} {n c : Nat} (w : World) (hp : Rd w A p) (hn : n = p.length) (hl : p.length ≤ 4000000000) :
    CallsR Tryd.prog 10 [.slice A n c] w fun v w' => ∃ A' c', v = .slice A' p.length c' ∧ OwnH w' w.heap.size w'.heap.size A' c' p ∧ c' ≤ 9223372036854775807 ∧ Below w.heap.size w w' := by
  subst hn
  refine callsR Tryd.func10 rfl rfl (by kernel_rfl) rfl ?_
  have hw := Below.refl w.heap.size w
  refine rk_seq ?_
  refine rk_region ?_
  refine wl_p (fun _ => o_assign rfl) ?_
  refine wl_nil ?_
  refine rk_seq ?_
  refine rk_region ?_
  refine wl_litB [] Tryd.u8 Tryd.sizeOf5 Tryd.zeroValue5 (by rfl) rfl rfl (by rfl) (by rfl) (by rfl) ?_
  rintro A3 w3 f3 b3
  have qf3 := f3.cap
  have s3 := b3.size
  replace hw := hw.trans (b3.mono hw.size)
  refine wl_p (fun _ => o_move rfl) ?_
  refine wl_appB Tryd.u8 rfl f3 (by rfl) rfl (hp.u hw) rfl (by omega) hw.size ?_
  rintro A5 c5 w5 f5 g5 b5 i5
  have qf5 := f5.cap
  have s5 := g5.size
  replace hw := hw.trans (b5.mono (by omega))
  clear f3
  refine wl_p (fun _ => o_assign rfl) ?_
  refine wl_nil ?_
  refine ret1 rfl rfl ?_
  exact ⟨_, _, rfl, f5, (by have := own_max f5; simpa [maxLen] using this), hw⟩
theorem ev_nil : (bytesU (runU Sl (padU ([[]] : List By).flatten))).take 4 = [207, 131, 225, 53] := by kernel_rfl
end Go.Proofs.YtklijaahbahcoaaDoor
/-
  Walks of the reference for sums: turned words, words, padding, a piece.
-/
namespace Go.Proofs.YtklijaahbahcoaaDoor
set_option maxRecDepth 100000
open Go.RowKit
theorem C_refrot {x : UInt64} {k : Int} (w : World) (h1 : 0 < k) (h2 : k < 64) : CallsR Tryd.prog 72 [.int .u64 (x.toNat : Int), .int .i64 k] w fun v w' => v = .int .u64 ((rotU x (-k)).toNat : Int) ∧ Below w.heap.size w w' := by
  obtain ⟨s, rfl⟩ : ∃ s : Nat, k = s := ⟨k.toNat, by omega⟩
  refine callsR Tryd.func72 rfl rfl (by kernel_rfl) rfl ?_
  refine rk_seq ?_
  refine rk_region ?_
  refine wl_p (fun _ => o_assign rfl) ?_
  refine wl_nil ?_
  refine rk_seq ?_
  refine rk_region ?_
  refine wl_p (fun _ => o_move rfl) ?_
  refine wl_p (fun _ => o_move rfl) ?_
  refine wl_p (fun _ => o_convu64 (src := 3) (dst := 81) Tryd.underlying3 Tryd.underlying81 rfl (by omega) (by omega)) ?_
  refine wl_p (fun _ => o_shrU rfl rfl (by omega) (by omega)) ?_
  refine wl_p (fun _ => o_move rfl) ?_
  refine wl_p (fun _ => o_move rfl) ?_
  refine wl_p (fun _ => o_sub rfl rfl (by omega) (by omega)) ?_
  refine wl_p (fun _ => o_convu64 (src := 3) (dst := 81) Tryd.underlying3 Tryd.underlying81 rfl (by omega) (by omega)) ?_
  refine wl_p (fun _ => o_shlU rfl rfl (by omega) (by omega)) ?_
  refine wl_p (fun _ => o_orU rfl rfl) ?_
  refine wl_p (fun _ => o_assign rfl) ?_
  refine wl_nil ?_
  refine ret1 rfl rfl ?_
  exact ⟨by unfold rotU; rw [show (s : Int).toNat = s from rfl, show (64 - (s : Int)).toNat = 64 - s by omega, show (-(s : Int) % 64).toNat = 64 - s by omega, show 64 - (64 - s) = s by omega, UInt64.or_comm], Below.refl _ _⟩
set_option maxRecDepth 100000 in
theorem C_refK {r : List UInt64} (w : World) (hr : Kl = r) : CallsR Tryd.prog 71 [] w fun v w' => v = .agg (vU r).toArray ∧ Below w.heap.size w w' := by
  subst hr
  refine callsR Tryd.func71 rfl rfl (by kernel_rfl) rfl ?_
  have hw := Below.refl w.heap.size w
  refine rk_seq ?_
  refine rk_region ?_
  refine wl_allocU Tryd.underlying104 Tryd.zeroValue104 (by rfl) ?_
  rintro g0 w0 f0 b0 i0 i0_1
  have s0 := b0.size
  replace hw := hw.trans (b0.mono hw.size)
  refine wl_nil ?_
  refine rk_seq ?_
  refine rk_region ?_
  refine wl_p (fun _ => o_buildU (n := 80) (vs := vU Kl) Kl Tryd.underlying104 rfl rfl (by kernel_rfl) rfl rfl (by kernel_rfl) (fun _ => by kernel_rfl)) ?_
  refine wl_stUa Tryd.sizeOf104 rfl f0 rfl (by rfl) (by rfl) ?_
  rintro w_1 f g e
  have s := g.size
  replace hw := hw.trans (below_of_grownBy g.g hw.size (by omega))
  clear f0
  refine wl_nil ?_
  refine ret_cell rfl rfl Tryd.isAgg104 Tryd.sizeOf104 f rfl ?_
  exact ⟨rfl, hw⟩
theorem C_refStart (w : World) : CallsR Tryd.prog 63 [] w fun v w' => v = .agg (vU Sl).toArray ∧ Below w.heap.size w w' := by
  refine callsR Tryd.func63 rfl rfl (by kernel_rfl) rfl ?_
  have hw := Below.refl w.heap.size w
  refine rk_seq ?_
  refine rk_region ?_
  refine wl_allocU Tryd.underlying88 Tryd.zeroValue88 (by rfl) ?_
  rintro g0 w0 f0 b0 i0 i0_1
  have s0 := b0.size
  replace hw := hw.trans (b0.mono hw.size)
  refine wl_nil ?_
  refine rk_seq ?_
  refine rk_region ?_
  refine wl_p (fun _ => (o_buildga [_, _, _, _, _, _, _, _] Tryd.underlying88 Tryd.sizeOf73 Tryd.zeroValue88 (by rfl) (by rfl) rfl (by rfl) (by rfl) (fun _ => by kernel_rfl))) ?_
  refine wl_storega Tryd.sizeOf88 rfl rfl (by rfl) (by decide) f0 (by rfl) ?_
  rintro w_1 f g e
  have s := g.size
  replace hw := hw.trans (below_of_grownBy g.g hw.size (by omega))
  clear f0
  refine wl_nil ?_
  refine ret_cell rfl rfl Tryd.isAgg88 Tryd.sizeOf88 f rfl ?_
  exact ⟨by kernel_rfl, hw⟩
section
variable {fn : Func} {F : Ending → World → Prop} {N : Nat} {ks : List K} {ops : Array Oper} {tg : Tags} {l : List Oper} {fr : Fr} {w : World} {ty : TypeId} {pos : String} {aft : Array Edge} {gd : Option (Nat × Bool)} {d n c lo hi : Nat} {x y : Operand} {A : Option Addr} {s : List UInt8}
--@ rule append l wl_appZx
theorem wl_appZx (m : Nat) {M : Int} (hx : fr.ev x = some (.slice A n c)) (hown : OwnH w lo hi A c s) (hn : n = s.length) (hy : fr.ev y = some (.int .i64 M)) (hM : M = (m : Int)) (hm : 0 < m) (hlen : s.length + m ≤ 4000000000) (hB : lo ≤ w.heap.size)
    (h : ∀ A' c' w', OwnH w' lo w'.heap.size A' c' (s ++ List.replicate m 0) → Grew w w' 5 (blk A) → Below lo w w' → WL Tryd.prog fn F N ks ops tg.tail l ((d, .slice A' (s ++ List.replicate m 0).length c') :: fr) w')
    (ht : tg.loud = true := by rfl) (hg : onG ops fr gd = true := by rfl) (hd : Nat.blt d N = true := by rfl) (hq : tg.calm = false ∨ blk A = none ∨ blk A = tg.row := by exact .inl rfl) :
    WL Tryd.prog fn F N ks ops tg (⟨some d, .call { callee := .builtin .append, args := #[x, y], argTypes := #[22, 3] }, ty, pos, aft, gd⟩ :: l) fr w :=
  wl_appZs Tryd.u8 Tryd.underlying3 Tryd.underlying9 m hx hown hn hy hM hm hlen hB h ht hg hd hq
end
set_option maxHeartbeats 800000 in
theorem C_refPad {A : Option Addr} {b r : By} {n c : Nat} (w : World) (hp : Rd w A b) (hr : padU b = r) (hn : n = b.length) (hbl : b.length ≤ 200000) :
    CallsR Tryd.prog 61 [.slice A n c] w fun v w' => ∃ A' c', v = .slice A' r.length c' ∧ OwnH w' w.heap.size w'.heap.size A' c' r ∧ Below w.heap.size w w' := by
  subst hn
  obtain ⟨zn, hz⟩ : ∃ zn, zeros b.length = zn := ⟨_, rfl⟩
  have hzd := hz
  unfold zeros at hzd
  refine callsR Tryd.func61 rfl rfl (by kernel_rfl) rfl ?_
  have hw := Below.refl w.heap.size w
  refine rk_seq ?_
  refine rk_region ?_
  refine wl_p (fun _ => o_assign rfl) ?_
  refine wl_nil ?_
  refine rk_seq ?_
  refine rk_region ?_
  refine wl_litB [] Tryd.u8 Tryd.sizeOf5 Tryd.zeroValue5 (by rfl) rfl rfl (by rfl) (by rfl) (by rfl) ?_
  rintro A6 w6 f6 b6
  have qf6 := f6.cap
  have s6 := b6.size
  replace hw := hw.trans (b6.mono hw.size)
  refine wl_p (fun _ => o_move rfl) ?_
  refine wl_appB Tryd.u8 rfl f6 (by rfl) rfl (hp.u hw) rfl (by omega) hw.size ?_
  rintro A8 c8 w8 f8 g8 b8 i8
  have qf8 := f8.cap
  have s8 := g8.size
  replace hw := hw.trans (b8.mono (by omega))
  clear f6
  refine wl_litB [128] Tryd.u8 Tryd.sizeOf5 Tryd.zeroValue5 (by rfl) rfl rfl (by rfl) (by rfl) (by rfl) ?_
  rintro A9 w9 f9 b9
  have qf9 := f9.cap
  have s9 := b9.size
  replace hw := hw.trans (b9.mono hw.size)
  replace f8 := f8.u b9
  refine wl_appB Tryd.u8 rfl f8 rfl rfl f9.to_Rd (by rfl) (by simp; omega) hw.size ?_
  rintro A10 c10 w10 f10 g10 b10 i10
  have qf10 := f10.cap
  have s10 := g10.size
  replace hw := hw.trans (b10.mono (by omega))
  replace f9 := f9.k g10.g (f8.ap (by omega))
  clear f8
  refine wl_p (fun _ => o_assign rfl) ?_
  refine wl_nil ?_
  refine rk_seq ?_
  refine rk_block ?_
  rw [List.nil_append] at f10 ⊢
  refine rk_joinf (fun fb fr w4 => ∃ A' c' bs, fr = [(3, .slice A' bs.length c')] ++ fb.drop 1 ∧ bs = b ++ [128] ++ List.replicate zn 0 ∧ OwnH w4 w.heap.size w4.heap.size A' c' bs ∧ Below w.heap.size w w4) ?_ (fun ks hj => ?_)
  rotate_left
  · refine rk_loopf (fun fb m fr w4 => ∃ (i : Nat) (A' : Option Addr) (bs : By) (c' : Nat), fr = [(3, .slice A' bs.length c')] ++ fb.drop 1 ∧ i ≤ zn ∧ m = zn - i ∧ bs = b ++ [128] ++ List.replicate i 0 ∧ OwnH w4 w.heap.size w4.heap.size A' c' bs ∧ Below w.heap.size w w4) (n := zn) (Fr.le_of (by kernel_rfl) (by kernel_rfl) (by repeat' constructor)) ⟨0, A10, _, _, rfl, by omega, rfl, by rw [List.replicate_zero, List.append_nil], f10.base (by omega) (Nat.le_refl _), hw⟩ ?_
    clear hw f10
    rintro m fr w4 ⟨i, A', bs, c', rfl, hi, rfl, hbs, fo, hw⟩
    have shw4 := hw.size
    have hbl4 : bs.length = b.length + 1 + i := by rw [hbs, List.length_append, List.length_append, List.length_replicate, List.length_singleton]
    first | refine rk_frame (by simp only [List.cons_append, List.nil_append, List.drop_succ_cons, List.drop_zero]; rfl) ?_ | refine wl_frame (by simp only [List.cons_append, List.nil_append, List.drop_succ_cons, List.drop_zero]; rfl) ?_
    refine rk_seq ?_
    refine rk_seq ?_
    refine rk_region ?_
    refine wl_p (fun _ => o_move rfl) ?_
    refine wl_p (fun _ => o_len (t := 22) Tryd.underlying22 rfl) ?_
    refine wl_p (fun _ => o_rem rfl rfl (by omega) (by omega)) ?_
    refine wl_p (fun _ => o_ne rfl rfl) ?_
    refine wl_nil ?_
    refine rk_if rfl (fun h14 => ?_) (fun h14 => ?_)
    · refine rk_skip ?_
      refine rk_block ?_
      refine rk_region ?_
      refine wl_p (fun _ => o_move rfl) ?_
      refine wl_litB [0] Tryd.u8 Tryd.sizeOf5 Tryd.zeroValue5 (by rfl) rfl rfl (by rfl) (by rfl) (by rfl) ?_
      rintro A16 w16 f16 b16
      have qf16 := f16.cap
      have s16 := b16.size
      replace hw := hw.trans (b16.mono hw.size)
      replace fo := fo.u b16
      refine wl_appB Tryd.u8 rfl fo rfl rfl f16.to_Rd (by rfl) (by omega) hw.size ?_
      rintro A17 c17 w17 f17 g17 b17 i17
      have qf17 := f17.cap
      have s17 := g17.size
      replace hw := hw.trans (b17.mono (by omega))
      replace f16 := f16.k g17.g (fo.ap (by omega))
      clear fo
      refine wl_p (fun _ => o_assign rfl) ?_
      refine wl_nil ?_
      refine rk_blk ?_
      exact rk_againf (Fr.le_of (by kernel_rfl) (by kernel_rfl) (by repeat' constructor)) ⟨i + 1, _, _, _, rfl, by omega, rfl, by rw [hbs, List.replicate_succ', List.append_assoc (b ++ [128])], f17, hw⟩ (by omega)
    · refine rk_exit rfl ?_
      obtain rfl : i = zn := by omega
      exact rk_tof hj (Fr.le_of (by kernel_rfl) (by kernel_rfl) (by repeat' constructor)) ⟨A', c', bs, rfl, hbs, fo, hw⟩
  clear hw f10
  rintro fr w4 ⟨A', c', bs, rfl, hbs, fo, hw⟩
  have shw4 := hw.size
  have hbl4 : bs.length = b.length + 1 + zn := by rw [hbs, List.length_append, List.length_append, List.length_replicate, List.length_singleton]
  obtain ⟨x, hx⟩ : ∃ x, UInt64.ofNat (b.length * 8) = x := ⟨_, rfl⟩
  have hxn : x.toNat = b.length * 8 := by rw [← hx, UInt64.toNat_ofNat_of_lt' (by show b.length * 8 < 18446744073709551616; omega)]
  first | refine rk_frame (by simp only [List.cons_append, List.nil_append, List.drop_succ_cons, List.drop_zero]; rfl) ?_ | refine wl_frame (by simp only [List.cons_append, List.nil_append, List.drop_succ_cons, List.drop_zero]; rfl) ?_
  refine rk_seq ?_
  refine rk_region ?_
  refine wl_p (fun _ => o_move rfl) ?_
  refine wl_appZx (8) rfl fo rfl rfl (by omega) (by omega) (by omega) hw.size ?_
  rintro A19 c19 w19 f19 g19 b19
  have qf19 := f19.cap
  have s19 := g19.size
  replace hw := hw.trans (b19.mono (by omega))
  clear fo
  refine wl_p (fun _ => o_assign rfl) ?_
  refine wl_nil ?_
  refine rk_seq ?_
  refine rk_region ?_
  refine wl_p (fun _ => o_move rfl) ?_
  refine wl_p (fun _ => o_len (t := 22) Tryd.underlying22 rfl) ?_
  refine wl_p (fun _ => o_convu64 (src := 3) (dst := 73) Tryd.underlying3 Tryd.underlying73 rfl (by omega) (by omega)) ?_
  refine wl_p (fun _ => o_mulq rfl rfl (by omega) (by omega)) ?_
  refine wl_p (fun _ => o_assign rfl) ?_
  refine wl_nil ?_
  refine rk_seq ?_
  refine rk_seq ?_
  refine rk_region ?_
  refine wl_p (fun _ => o_assign rfl) ?_
  refine wl_nil ?_
  refine rk_block ?_
  rw [show (b.length : Int) * 8 = (x.toNat : Int) by omega]
  obtain ⟨b2, hb2⟩ : ∃ b2, bs ++ List.replicate 8 0 = b2 := ⟨_, rfl⟩
  rw [hb2] at f19 ⊢
  have hb2l : b2.length = bs.length + 8 := by rw [← hb2, List.length_append, List.length_replicate]
  have hrr : r = b2 ++ be8 x := by
    rw [← hr, ← hb2, hbs, ← hz, ← hx]; rfl
  have hbn : (be8 x).length = 8 := be8_len x
  refine rk_joinf (fun fb fr w5 => ∃ A' c', fr = [(3, .slice A' r.length c')] ++ fb.drop 6 ∧ OwnH w5 w.heap.size w5.heap.size A' c' r ∧ Below w.heap.size w w5) ?_ (fun ks hj => ?_)
  rotate_left
  · refine rk_loopf (fun fb m fr w6 => ∃ (k : Nat) (v : Int) (A' : Option Addr) (bu : By) (c' : Nat), fr = [(5, .int .i64 v), (4, .int .u64 (x.toNat : Int)), (3, .slice A' bu.length c')] ++ fb.drop 6 ∧ v = 7 - (k : Int) ∧ k ≤ 8 ∧ m = 8 - k ∧ bu = b2 ++ (be8 x).take k ∧ OwnH w6 w.heap.size w6.heap.size A' c' bu ∧ Below w.heap.size w w6) (n := 8) (Fr.le_of (by kernel_rfl) (by kernel_rfl) (by repeat' constructor)) ⟨0, _, A19, _, c19, rfl, by omega, by omega, rfl, by rw [List.take_zero, List.append_nil], f19.base (by omega) (Nat.le_refl _), hw⟩ ?_
    clear hw f19
    rintro m fr w6 ⟨k, v, A', bu, c', rfl, rfl, hk, rfl, hbu, fo, hw⟩
    have shw6 := hw.size
    have hbul : bu.length = b2.length + k := by rw [hbu, List.length_append, List.length_take]; omega
    first | refine rk_frame (by simp only [List.cons_append, List.nil_append, List.drop_succ_cons, List.drop_zero]; rfl) ?_ | refine wl_frame (by simp only [List.cons_append, List.nil_append, List.drop_succ_cons, List.drop_zero]; rfl) ?_
    refine rk_seq ?_
    refine rk_seq ?_
    refine rk_region ?_
    refine wl_p (fun _ => o_move rfl) ?_
    refine wl_p (fun _ => o_ge rfl rfl) ?_
    refine wl_nil ?_
    refine rk_if rfl (fun h25 => ?_) (fun h25 => ?_)
    · refine rk_skip ?_
      refine rk_seq ?_
      refine rk_block ?_
      refine rk_region ?_
      refine wl_p (fun _ => o_move rfl) ?_
      refine wl_p (fun _ => o_move rfl) ?_
      refine wl_p (fun _ => o_move rfl) ?_
      refine wl_p (fun _ => o_mul rfl rfl (by omega) (by omega)) ?_
      refine wl_p (fun _ => o_convu64 (src := 3) (dst := 81) Tryd.underlying3 Tryd.underlying81 rfl (by omega) (by omega)) ?_
      refine wl_p (fun _ => o_shrU rfl rfl (by omega) (by omega)) ?_
      rw [show (8 * (7 - (k : Int))).toNat = 56 - 8 * k by omega]
      refine wl_p (fun _ => o_convU8 (src := 73) (dst := 5) Tryd.underlying73 Tryd.underlying5 rfl) ?_
      refine wl_litB [(shrU x (56 - 8 * k)).toUInt8] Tryd.u8 Tryd.sizeOf5 Tryd.zeroValue5 (by rfl) rfl rfl (by rfl) (by rfl) (by rfl) ?_
      rintro A35 w35 f35 b35
      have qf35 := f35.cap
      have s35 := b35.size
      replace hw := hw.trans (b35.mono hw.size)
      replace fo := fo.u b35
      refine wl_appB Tryd.u8 rfl fo rfl rfl f35.to_Rd (by rfl) (by omega) hw.size ?_
      rintro A36 c36 w36 f36 g36 b36 i36
      have qf36 := f36.cap
      have s36 := g36.size
      replace hw := hw.trans (b36.mono (by omega))
      replace f35 := f35.k g36.g (fo.ap (by omega))
      clear fo
      refine wl_p (fun _ => o_assign rfl) ?_
      refine wl_nil ?_
      refine rk_blk ?_
      refine rk_region ?_
      refine wl_p (fun _ => o_move rfl) ?_
      refine wl_p (fun _ => o_sub rfl rfl (by omega) (by omega)) ?_
      refine wl_p (fun _ => o_assign rfl) ?_
      refine wl_nil ?_
      exact rk_againf (Fr.le_of (by kernel_rfl) (by kernel_rfl) (by repeat' constructor)) ⟨k + 1, 7 - (k : Int) - 1, _, _, _, rfl, by omega, by omega, rfl, by rw [hbu, List.take_succ_eq_append_getElem (by omega), be8_get, List.append_assoc], f36, hw⟩ (by omega)
    · refine rk_exit rfl ?_
      obtain rfl : k = 8 := by omega
      rw [List.take_of_length_le (by omega), ← hrr] at hbu
      subst hbu
      exact rk_tof hj (Fr.le_of (by kernel_rfl) (by kernel_rfl) (by repeat' constructor)) ⟨A', c', rfl, fo, hw⟩
  clear hw f19
  rintro fr w5 ⟨A', c', rfl, fo, hw⟩
  have shw5 := hw.size
  first | refine rk_frame (by simp only [List.cons_append, List.nil_append, List.drop_succ_cons, List.drop_zero]; rfl) ?_ | refine wl_frame (by simp only [List.cons_append, List.nil_append, List.drop_succ_cons, List.drop_zero]; rfl) ?_
  refine rk_seq ?_
  refine rk_region ?_
  refine wl_p (fun _ => o_move rfl) ?_
  refine wl_p (fun _ => o_assign rfl) ?_
  refine wl_nil ?_
  refine ret1 rfl rfl ?_
  exact ⟨A', c', rfl, fo, hw⟩
end Go.Proofs.YtklijaahbahcoaaDoor
