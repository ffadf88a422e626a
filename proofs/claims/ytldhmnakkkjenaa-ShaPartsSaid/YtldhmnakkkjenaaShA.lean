/-
  Walks of package sha: roots.
-/
import Derived.Test.YtldhmnakkkjenaaShelf
import Derived.Test.YtldhmnakkkjenaaAarr
import Derived.Test.YtldhmnakkkjenaaAconv
import Derived.Test.YtldhmnakkkjenaaRs
import Derived.Test.YtldhmnakkkjenaaShP
import Derived.Test.YtldhmnakkkjenaaGo
import Derived.Laws.Externs
namespace Go.Proofs.Ytldhmnakkkjenaa
open Go.RowKit
section
variable {fn : Func} {N : Nat} {fr : Fr} {w : World} {ty : TypeId} {x y z : Operand} {ts : Array TypeId}
theorem o_add64 {a b c : Nat} (hx : fr.ev x = some (.int .u64 (a : Int))) (hy : fr.ev y = some (.int .u64 (b : Int))) (hz : fr.ev z = some (.int .u64 (c : Int))) (hc : c ≤ 1) :
    OpV Try.prog N fr w (.call { callee := .value (.func 18), args := #[x, y, z], argTypes := ts }) ty (.tuple #[.int .u64 (((a + b + c) % 18446744073709551616 : Nat) : Int), .int .u64 (((a + b + c) / 18446744073709551616 : Nat) : Int)]) w := fun ac ha o ho _ => by
  have e1 := run_add64 (P := Try.prog) (a : Int) (b : Int) (c : Int) (by omega) (by omega) (by omega) (by omega) w
  have hrun : (callFunc 18 #[.int .u64 (a : Int), .int .u64 (b : Int), .int .u64 (c : Int)]).run Try.prog w = .ok (.value (.tuple #[.int .u64 (((a + b + c) % 18446744073709551616 : Nat) : Int), .int .u64 (((a + b + c) / 18446744073709551616 : Nat) : Int)])) w := by
    rw [run_callFunc_extern Try.func18 (by kernel_rfl) (by kernel_rfl) (by kernel_rfl) (e := add64Entry) (by kernel_rfl), e1]
    show Result.ok _ _ = _
    congr 5 <;> simp [18446744073709551616]
  have hfn : ac.eval (.func 18) = .func (.func 18) #[] #[] := rfl
  simp [execOp, ho, resolve, invoke, Deferred.ofValue, ha.ev hx, ha.ev hy, ha.ev hz, hfn, hrun]
end
theorem C_Mul64 {x y : Nat} (w : World) (hx : x < 18446744073709551616) (hy : y < 18446744073709551616) : CallsR Try.prog 17 [.int .u64 (x : Int), .int .u64 (y : Int)] w fun v w' => v = .tuple #[.int .u64 ((x * y / 18446744073709551616 : Nat) : Int), .int .u64 ((x * y % 18446744073709551616 : Nat) : Int)] ∧ w' = w := by
  refine ⟨⟨_, Try.func17, rfl, by kernel_rfl⟩, ?_⟩
  refine (Try.bits_Mul64 x y hx hy w).mono ?_
  rintro e w' ⟨rfl, rfl⟩
  exact ⟨_, rfl, rfl, rfl⟩
def vN (l : List Nat) : List Value := l.map fun x : Nat => .int .u64 (x : Int)
section
variable {fn : Func} {F : Ending → World → Prop} {N : Nat} {ks : List K} {ops : Array Oper} {tg : Tags} {l : List Oper} {fr : Fr} {w : World} {ty t t' e e2 : TypeId} {z v : Value} {pos : String} {aft : Array Edge} {gd : Option (Nat × Bool)} {d n g i a : Nat} {x y : Operand} {P : Program}
theorem vN_length (l : List Nat) : (vN l).length = l.length := List.length_map ..
theorem vN_one (l : List Nat) : ∀ v ∈ vN l, v.oneCell' = true := fun v h => by
  obtain ⟨x, _, rfl⟩ := List.mem_map.1 h; rfl
--@ rule load r o_ldN
theorem o_ldN {c : List Nat} (ha' : ∀ w, (isAgg t).run P w = .ok false w) (hx : fr.ev x = some (.pointer (some ⟨g, i, none⟩))) (hB : Blk w g t' (vN c)) (hi : i < c.length) : OpV P N fr w (.load t x) ty (.int .u64 (c[i] : Int)) w :=
  o_loadb ha' hx hB (by unfold vN; rw [List.getElem?_map, List.getElem?_eq_getElem hi]; rfl)
--@ rule load r o_ldNa
theorem o_ldNa {c : List Nat} (ha' : ∀ w, (isAgg t).run P w = .ok true w) (hs : ∀ w, (sizeOf t).run P w = .ok n w) (hx : fr.ev x = some (.pointer (some ⟨g, 0, none⟩))) (hB : Blk w g t' (vN c)) (hn : c.length = n) : OpV P N fr w (.load t x) ty (.agg (vN c).toArray) w :=
  o_load_all ha' hs hx hB (by rw [vN_length, hn])
--@ rule store l wl_stN
theorem wl_stN {c : List Nat} (hs : ∀ w, (sizeOf t).run P w = .ok 1 w) (hx : fr.ev x = some (.pointer (some ⟨g, i, none⟩))) (hB : Blk w g t' (vN c)) (hy : fr.ev y = some (.int .u64 (a : Int))) (hi : i < c.length)
    (hk : ∀ w', Blk w' g t' (vN (c.set i a)) → Grew w w' t' (some g) → w'.heap.size = w.heap.size → WL P fn F N ks ops tg.tail l fr w') (ht : tg.loud = true := by rfl) (hg : onG ops fr gd = true := by rfl) (hq : tg.calm = false ∨ some g = tg.row := by exact .inl rfl) :
    WL P fn F N ks ops tg (⟨none, .store t x y, ty, pos, aft, gd⟩ :: l) fr w :=
  wl_storeg1 hs hx hy rfl hB (by rw [vN_length]; exact hi) (fun w' h1 h2 h3 => hk w' (by unfold vN at h1 ⊢; rw [List.map_set]; exact h1) h2 h3) ht hg hq
--@ rule store l wl_stNa
theorem wl_stNa {c q : List Nat} (hs : ∀ w, (sizeOf t).run P w = .ok n w) (hx : fr.ev x = some (.pointer (some ⟨g, 0, none⟩))) (hB : Blk w g t' (vN c)) (hy : fr.ev y = some (.agg (vN q).toArray)) (hq' : q.length = n) (hi : c.length = n)
    (hk : ∀ w', Blk w' g t' (vN q) → Grew w w' t' (some g) → w'.heap.size = w.heap.size → WL P fn F N ks ops tg.tail l fr w') (ht : tg.loud = true := by rfl) (hg : onG ops fr gd = true := by rfl) (hq : tg.calm = false ∨ some g = tg.row := by exact .inl rfl) :
    WL P fn F N ks ops tg (⟨none, .store t x y, ty, pos, aft, gd⟩ :: l) fr w :=
  wl_storega hs hx hy (by rw [vN_length, hq']) (vN_one q) hB (by rw [vN_length, hi]) hk ht hg hq
end
/-- Four words. -/
structure W4 (l : List Nat) : Prop where
  len : l.length = 4
  lt : ∀ x ∈ l, x < 18446744073709551616
theorem C_times {l : List Nat} {b : Nat} (s : Nat) {zs : Int} (w : World) (hl : W4 l) (hb : b < 18446744073709551616) (hs : s ≤ 1) (hz : zs = s) :
    CallsR Try.prog 51 [.agg (vN l).toArray, .int .u64 (b : Int), .int .i64 zs] w fun v w' => v = .agg (vN (List.replicate s 0 ++ mulL (l.take (4 - s)) b 0)).toArray ∧ Below w.heap.size w w' := by
  subst hz
  obtain ⟨hl1, hl2⟩ := hl
  refine callsR Try.func51 rfl rfl (by kernel_rfl) rfl ?_
  have hw := Below.refl w.heap.size w
  refine rk_seq ?_
  refine rk_region ?_
  refine wl_boxg _ rfl (by rfl) ?_
  rintro g3 w3 f3 b3 i3 i3_1
  have s3 := b3.size
  replace hw := hw.trans (b3.mono hw.size)
  refine wl_allocU Try.underlying61 Try.zeroValue61 (by rfl) ?_
  rintro g6 w6 f6 b6 i6 i6_1
  have s6 := b6.size
  replace hw := hw.trans (b6.mono hw.size)
  replace f3 := f3.u b6
  refine wl_nil ?_
  refine rk_seq ?_
  refine rk_region ?_
  refine wl_allocU Try.underlying61 Try.zeroValue61 (by rfl) ?_
  rintro g7 w7 f7 b7 i7 i7_1
  have s7 := b7.size
  replace hw := hw.trans (b7.mono hw.size)
  replace f3 := f3.u b7
  replace f6 := f6.u b7
  refine wl_nil ?_
  refine rk_seq ?_
  refine rk_region ?_
  refine wl_p (fun _ => o_assign rfl) ?_
  refine wl_nil ?_
  refine rk_seq ?_
  refine rk_seq ?_
  refine rk_region ?_
  refine wl_p (fun _ => o_move rfl) ?_
  refine wl_p (fun _ => o_sub rfl rfl (by omega) (by omega)) ?_
  refine wl_p (fun _ => o_move rfl) ?_
  refine wl_nil ?_
  refine rk_block ?_
  replace f7 : Blk w7 g7 61 (vN (List.replicate 4 0)) := f7
  replace f6 : Blk w7 g6 61 (vN (List.replicate 4 0)) := f6
  have h4 : (List.replicate s 0 ++ mulL (l.take (4 - s)) b 0).length = 4 := by
    simp only [List.length_append, List.length_replicate, mulL_length, List.length_take]; omega
  refine rk_joinf (fun fb fr w2 => fr = [] ++ fb.drop 4 ∧ Blk w2 g7 61 (vN (List.replicate s 0 ++ mulL (l.take (4 - s)) b 0)) ∧ Blk w2 g6 61 (vN (List.replicate 4 0)) ∧ w7.heap.size ≤ w2.heap.size ∧ Below w.heap.size w w2) ?_ (fun ks hj => ?_)
  rotate_left
  · refine rk_loopf (fun fb m fr w2 => ∃ (i : Nat) (v : Int) (c : Nat) (q : List Nat), fr = [(16, .int .i64 v), (8, .int .u64 (c : Int))] ++ fb ∧ v = i ∧ i ≤ 4 - s ∧ m = 4 - s - i ∧ c = mulC (l.take i) b 0 ∧ q = List.replicate s 0 ++ mulL (l.take i) b 0 ++ List.replicate (4 - s - i) 0 ∧ Blk w2 g7 61 (vN q) ∧ Blk w2 g3 61 (vN l) ∧ Blk w2 g6 61 (vN (List.replicate 4 0)) ∧ w7.heap.size ≤ w2.heap.size ∧ Below w.heap.size w w2) (n := 4 - s) (Fr.le_of (by kernel_rfl) (by kernel_rfl) (by repeat' constructor)) ⟨0, _, 0, _, rfl, rfl, by omega, rfl, rfl, by rw [List.take_zero]; show _ = List.replicate s 0 ++ [] ++ _; rw [List.append_nil, List.replicate_append_replicate]; congr 1; omega, f7, f3, f6, Nat.le_refl _, hw⟩ ?_
    clear hw f7 f3 f6
    rintro m fr w2 ⟨i, v, c, q, rfl, rfl, hi, rfl, hc, hq, f7, f3, f6, hsz, hw⟩
    have shw := hw.size
    have hql : q.length = 4 := by
      rw [hq]; simp only [List.length_append, List.length_replicate, mulL_length, List.length_take]; omega
    have hcm : c < 18446744073709551616 := by rw [hc]; exact mulC_lt b hb _ _ (fun x hx => hl2 x (List.mem_of_mem_take hx)) (by decide)
    first | refine rk_frame (by simp only [List.cons_append, List.nil_append, List.drop_succ_cons, List.drop_zero]; rfl) ?_ | refine wl_frame (by simp only [List.cons_append, List.nil_append, List.drop_succ_cons, List.drop_zero]; rfl) ?_
    refine rk_seq ?_
    refine rk_region ?_
    refine wl_p (fun _ => o_lt rfl rfl) ?_
    refine wl_nil ?_
    refine rk_seq ?_
    refine rk_if rfl (fun h17 => ?_) (fun h17 => ?_)
    · have hil : i < l.length := by omega
      have hm := hl2 _ (List.getElem_mem hil)
      refine rk_skip ?_
      refine rk_seq ?_
      refine rk_block ?_
      refine rk_seq ?_
      refine rk_region ?_
      refine wl_p (fun _ => o_move rfl) ?_
      refine wl_p (fun _ => o_assign rfl) ?_
      refine wl_nil ?_
      refine rk_seq ?_
      refine rk_region ?_
      refine wl_p (fun _ => o_move rfl) ?_
      refine wl_p (fun _ => (o_iaddrP (i) Try.underlying61 Try.sizeOf25 rfl rfl rfl (by omega))) ?_
      refine wl_r (o_ldN Try.isAgg25 rfl f3 (by omega)) ?_
      refine wl_p (fun _ => o_move rfl) ?_
      refine wl_call rfl (C_Mul64 _ (by omega) (by omega)) ?_
      rintro v24 w24 ⟨rfl, rfl⟩
      refine wl_p (fun _ => o_move rfl) ?_
      refine wl_p (fun _ => o_ext20 rfl) ?_
      refine wl_p (fun _ => o_ext21 rfl) ?_
      refine wl_p (fun _ => o_assign rfl) ?_
      refine wl_p (fun _ => o_assign rfl) ?_
      refine wl_nil ?_
      refine rk_seq ?_
      refine rk_region ?_
      refine wl_p (fun _ => o_move rfl) ?_
      refine wl_p (fun _ => o_move rfl) ?_
      refine wl_p (fun _ => o_add64 (c := 0) rfl rfl rfl (by omega)) ?_
      refine wl_p (fun _ => o_move rfl) ?_
      refine wl_p (fun _ => o_ext20 rfl) ?_
      refine wl_p (fun _ => o_ext21 rfl) ?_
      refine wl_p (fun _ => o_assign rfl) ?_
      refine wl_p (fun _ => o_assign rfl) ?_
      refine wl_nil ?_
      refine rk_seq ?_
      refine rk_region ?_
      refine wl_p (fun _ => o_move rfl) ?_
      refine wl_p (fun _ => o_move rfl) ?_
      refine wl_p (fun _ => o_add rfl rfl (by omega) (by omega)) ?_
      refine wl_p (fun _ => o_move rfl) ?_
      refine wl_p (fun _ => (o_iaddrP (i + s) Try.underlying61 Try.sizeOf25 rfl rfl (by omega) (by omega))) ?_
      refine wl_stN Try.sizeOf25 rfl f7 rfl (by omega) ?_
      rintro w_1 f g e
      have s_1 := g.size
      replace hw := hw.trans (below_of_grownBy g.g hw.size (by omega))
      replace f6 := f6.k g.g (ap_some (by omega))
      replace f3 := f3.k g.g (ap_some (by omega))
      clear f7
      refine wl_nil ?_
      refine rk_region ?_
      refine wl_p (fun _ => o_move rfl) ?_
      refine wl_p (fun _ => o_move rfl) ?_
      refine wl_p (fun _ => o_addw rfl rfl) ?_
      refine wl_p (fun _ => o_assign rfl) ?_
      refine wl_nil ?_
      refine rk_blk ?_
      refine rk_region ?_
      refine wl_p (fun _ => o_add rfl rfl (by omega) (by omega)) ?_
      refine wl_p (fun _ => o_move rfl) ?_
      refine wl_nil ?_
      have hcn : (l[i] * b + c) / 18446744073709551616 < 18446744073709551616 := by
        have := mulC_lt b hb (l.take (i + 1)) 0 (fun x hx => hl2 x (List.mem_of_mem_take hx)) (by decide)
        rwa [List.take_succ_eq_append_getElem hil, mulC_append, ← hc] at this
      have e1 : IntKind.u64.wrap (((l[i] * b / 18446744073709551616 : Nat) : Int) + (((l[i] * b % 18446744073709551616 + c + 0) / 18446744073709551616 : Nat) : Int)) = (((l[i] * b + c) / 18446744073709551616 : Nat) : Int) := by
        rw [IntKind.wrap_u64]; omega
      have e2 : (l[i] * b % 18446744073709551616 + c + 0) % 18446744073709551616 = (l[i] * b + c) % 18446744073709551616 := by omega
      rw [e1]
      rw [e2] at f
      exact rk_againf (Fr.le_of (by kernel_rfl) (by kernel_rfl) (by repeat' constructor)) ⟨i + 1, (i : Int) + 1, _, _, rfl, by omega, by omega, rfl, by rw [List.take_succ_eq_append_getElem hil, mulC_append, ← hc], by
        rw [hq, List.take_succ_eq_append_getElem hil, mulL_append, ← hc]
        have hlen : (List.replicate s 0 ++ mulL (l.take i) b 0).length = i + s := by simp only [List.length_append, List.length_replicate, mulL_length, List.length_take]; omega
        rw [List.set_append_right _ _ (by omega), hlen, Nat.sub_self, show 4 - s - i = (4 - s - (i + 1)) + 1 by omega, List.replicate_succ, List.set_cons_zero]
        simp only [List.append_assoc, List.cons_append, List.nil_append], f, f3, f6, by omega, hw⟩ (by omega)
    · refine rk_exit rfl ?_
      have hii : i = 4 - s := by omega
      rw [hii, Nat.sub_self, List.replicate_zero, List.append_nil] at hq
      rw [hq] at f7
      exact rk_tof hj (Fr.le_of (by kernel_rfl) (by kernel_rfl) (by repeat' constructor)) ⟨rfl, f7, f6, hsz, hw⟩
  clear hw f7 f3 f6
  rintro fr w2 ⟨rfl, f7, f6, hsz, hw⟩
  have shw := hw.size
  first | refine rk_frame (by simp only [List.cons_append, List.nil_append, List.drop_succ_cons, List.drop_zero]; rfl) ?_ | refine wl_frame (by simp only [List.cons_append, List.nil_append, List.drop_succ_cons, List.drop_zero]; rfl) ?_
  refine rk_seq ?_
  refine rk_region ?_
  refine wl_r (o_ldNa Try.isAgg61 Try.sizeOf61 rfl f7 (by omega)) ?_
  refine wl_stNa Try.sizeOf61 rfl f6 rfl (by omega) (by rfl) ?_
  rintro w_1 f g e
  have s_1 := g.size
  replace hw := hw.trans (below_of_grownBy g.g hw.size (by omega))
  clear f6
  replace f7 := f7.k g.g (ap_some (by omega))
  refine wl_nil ?_
  refine ret_cell rfl rfl Try.isAgg61 Try.sizeOf61 f (by rw [vN_length, h4]) ?_
  exact ⟨rfl, hw⟩
theorem C_plus {l r : List Nat} (w : World) (hl : W4 l) (hr : W4 r) :
    CallsR Try.prog 50 [.agg (vN l).toArray, .agg (vN r).toArray] w fun v w' => v = .agg (vN (addL l r 0)).toArray ∧ Below w.heap.size w w' := by
  obtain ⟨hl1, hl2⟩ := hl
  obtain ⟨hr1, hr2⟩ := hr
  refine callsR Try.func50 rfl rfl (by kernel_rfl) rfl ?_
  have hw := Below.refl w.heap.size w
  refine rk_seq ?_
  refine rk_region ?_
  refine wl_boxg _ rfl (by rfl) ?_
  rintro g2 w2 f2 b2 i2 i2_1
  have s2 := b2.size
  replace hw := hw.trans (b2.mono hw.size)
  refine wl_boxg _ rfl (by rfl) ?_
  rintro g3 w3 f3 b3 i3 i3_1
  have s3 := b3.size
  replace hw := hw.trans (b3.mono hw.size)
  replace f2 := f2.u b3
  refine wl_allocU Try.underlying61 Try.zeroValue61 (by rfl) ?_
  rintro g4 w4 f4 b4 i4 i4_1
  have s4 := b4.size
  replace hw := hw.trans (b4.mono hw.size)
  replace f2 := f2.u b4
  replace f3 := f3.u b4
  refine wl_nil ?_
  refine rk_seq ?_
  refine rk_region ?_
  refine wl_p (fun _ => o_assign rfl) ?_
  refine wl_nil ?_
  refine rk_seq ?_
  refine rk_seq ?_
  refine rk_region ?_
  refine wl_p (fun _ => o_move rfl) ?_
  refine wl_nil ?_
  refine rk_block ?_
  replace f4 : Blk w4 g4 61 (vN (List.replicate 4 0)) := f4
  have h4 : (addL l r 0).length = 4 := by rw [addL_length _ _ _ (by omega)]; exact hl1
  refine rk_joinf (fun fb fr w5 => fr = [] ++ fb.drop 2 ∧ Blk w5 g2 61 (vN (addL l r 0)) ∧ Blk w5 g4 61 (vN (List.replicate 4 0)) ∧ w4.heap.size ≤ w5.heap.size ∧ Below w.heap.size w w5) ?_ (fun ks hj => ?_)
  rotate_left
  · refine rk_loopf (fun fb m fr w5 => ∃ (i : Nat) (v : Int) (c : Nat) (q : List Nat), fr = [(7, .int .i64 v), (5, .int .u64 (c : Int))] ++ fb ∧ v = i ∧ i ≤ 4 ∧ m = 4 - i ∧ c = addC (l.take i) (r.take i) 0 ∧ q = addL (l.take i) (r.take i) 0 ++ l.drop i ∧ Blk w5 g2 61 (vN q) ∧ Blk w5 g3 61 (vN r) ∧ Blk w5 g4 61 (vN (List.replicate 4 0)) ∧ w4.heap.size ≤ w5.heap.size ∧ Below w.heap.size w w5) (n := 4) (Fr.le_of (by kernel_rfl) (by kernel_rfl) (by repeat' constructor)) ⟨0, _, 0, _, rfl, rfl, by omega, rfl, rfl, rfl, f2, f3, f4, Nat.le_refl _, hw⟩ ?_
    clear hw f2 f3 f4
    rintro m fr w5 ⟨i, v, c, q, rfl, rfl, hi, rfl, hc, hq, f2, f3, f4, hsz, hw⟩
    have shw := hw.size
    have hat : (addL (l.take i) (r.take i) 0).length = i := by rw [addL_length _ _ _ (by simp only [List.length_take]; omega), List.length_take]; omega
    have hql : q.length = 4 := by
      rw [hq, List.length_append, hat, List.length_drop]; omega
    have hc1 : c ≤ 1 := by rw [hc]; exact addC_le _ _ _ (fun x hx => hl2 x (List.mem_of_mem_take hx)) (fun x hx => hr2 x (List.mem_of_mem_take hx)) (by omega)
    first | refine rk_frame (by simp only [List.cons_append, List.nil_append, List.drop_succ_cons, List.drop_zero]; rfl) ?_ | refine wl_frame (by simp only [List.cons_append, List.nil_append, List.drop_succ_cons, List.drop_zero]; rfl) ?_
    refine rk_seq ?_
    refine rk_region ?_
    refine wl_p (fun _ => o_lt rfl rfl) ?_
    refine wl_nil ?_
    refine rk_seq ?_
    refine rk_if rfl (fun h8 => ?_) (fun h8 => ?_)
    · have hil : i < l.length := by omega
      have hir : i < r.length := by omega
      refine rk_skip ?_
      refine rk_seq ?_
      refine rk_block ?_
      refine rk_seq ?_
      refine rk_region ?_
      refine wl_p (fun _ => o_move rfl) ?_
      refine wl_p (fun _ => o_assign rfl) ?_
      refine wl_nil ?_
      refine rk_draw (id := 5) (none) [0, 0, 2, 4, 0, 16, 32, 0, 200, 256, 512, 512, 2047, 6143, 16383] [0, 0, 2, 6, 0, 16, 48, 0, 254, 510, 1022, 1022, 2047, 6143, 16383] 8192 0 [(.p, 0), (.p, 1), (.p, 2), (.r, 3), (.p, 4), (.p, 5), (.r, 6), (.p, 7), (.p, 8), (.p, 9), (.p, 10), (.p, 11), (.p, 12), (.l, 13), (.p, 14)] (by kernel_rfl) (by kernel_rfl) (by kernel_rfl) (by kernel_rfl) (by kernel_rfl) ?_
      replace hw := hw.drew
      replace f4 := f4.d
      replace f3 := f3.d
      replace f2 := f2.d
      refine wl_p (fun _ => o_move rfl) ?_
      refine wl_p (fun _ => o_move rfl) ?_
      refine wl_p (fun _ => (o_iaddrP (i) Try.underlying61 Try.sizeOf25 rfl rfl rfl (by omega))) ?_
      refine wl_r (o_ldN Try.isAgg25 rfl f2 (by omega)) ?_
      refine wl_p (fun _ => o_move rfl) ?_
      refine wl_p (fun _ => (o_iaddrP (i) Try.underlying61 Try.sizeOf25 rfl rfl rfl (by omega))) ?_
      refine wl_r (o_ldN Try.isAgg25 rfl f3 (by omega)) ?_
      refine wl_p (fun _ => o_move rfl) ?_
      have hqi : q[i] = l[i] := by
        subst hq
        rw [List.getElem_append_right (by omega)]
        simp only [hat, Nat.sub_self, List.getElem_drop, Nat.add_zero]
      refine wl_p (fun _ => o_add64 (c := c) rfl rfl rfl (by omega)) ?_
      refine wl_p (fun _ => o_move rfl) ?_
      refine wl_p (fun _ => o_ext20 rfl) ?_
      refine wl_p (fun _ => o_ext21 rfl) ?_
      refine wl_p (fun _ => (o_iaddrP (i) Try.underlying61 Try.sizeOf25 rfl rfl rfl (by omega))) ?_
      refine wl_stN Try.sizeOf25 rfl f2 rfl (by omega) ?_
      rintro w_1 f g e
      simp only [drew_size] at e
      have s := g.size
      simp only [drew_size] at s
      replace hw := hw.trans (below_of_grownBy g.g hw.size (by omega))
      clear f2
      replace f3 := f3.k g.g (ap_some (by omega))
      replace f4 := f4.k g.g (ap_some (by omega))
      refine wl_p (fun _ => o_assign rfl) ?_
      refine wl_nild ?_
      refine rk_blk ?_
      refine rk_region ?_
      refine wl_p (fun _ => o_add rfl rfl (by omega) (by omega)) ?_
      refine wl_p (fun _ => o_move rfl) ?_
      refine wl_nil ?_
      rw [hqi] at f
      exact rk_againf (Fr.le_of (by kernel_rfl) (by kernel_rfl) (by repeat' constructor)) ⟨i + 1, (i : Int) + 1, _, _, rfl, by omega, by omega, rfl, by rw [List.take_succ_eq_append_getElem hil, List.take_succ_eq_append_getElem hir, addC_append _ _ _ _ _ (by simp only [List.length_take]; omega), ← hc, hqi], by
        rw [hq, List.take_succ_eq_append_getElem hil, List.take_succ_eq_append_getElem hir, addL_append _ _ _ _ _ (by simp only [List.length_take]; omega), ← hc, List.set_append_right _ _ (by omega), hat, Nat.sub_self, List.drop_eq_getElem_cons hil, List.set_cons_zero]
        simp only [List.append_assoc, List.cons_append, List.nil_append], f, f3, f4, by omega, hw⟩ (by omega)
    · refine rk_exit rfl ?_
      have hii : i = 4 := by omega
      subst hii
      rw [List.take_of_length_le (by omega), List.take_of_length_le (by omega), List.drop_of_length_le (by omega), List.append_nil] at hq
      rw [hq] at f2
      exact rk_tof hj (Fr.le_of (by kernel_rfl) (by kernel_rfl) (by repeat' constructor)) ⟨rfl, f2, f4, hsz, hw⟩
  clear hw f2 f3 f4
  rintro fr w5 ⟨rfl, f2, f4, hsz, hw⟩
  have shw := hw.size
  first | refine rk_frame (by simp only [List.cons_append, List.nil_append, List.drop_succ_cons, List.drop_zero]; rfl) ?_ | refine wl_frame (by simp only [List.cons_append, List.nil_append, List.drop_succ_cons, List.drop_zero]; rfl) ?_
  refine rk_seq ?_
  refine rk_region ?_
  refine wl_r (o_ldNa Try.isAgg61 Try.sizeOf61 rfl f2 (by omega)) ?_
  refine wl_stNa Try.sizeOf61 rfl f4 rfl (by omega) (by rfl) ?_
  rintro w_1 f g e
  have s := g.size
  replace hw := hw.trans (below_of_grownBy g.g hw.size (by omega))
  clear f4
  replace f2 := f2.k g.g (ap_some (by omega))
  refine wl_nil ?_
  refine ret_cell rfl rfl Try.isAgg61 Try.sizeOf61 f (by rw [vN_length, h4]) ?_
  exact ⟨rfl, hw⟩
theorem W4_times {l : List Nat} (hl : W4 l) (b s : Nat) (hs : s ≤ 1) : W4 (List.replicate s 0 ++ mulL (l.take (4 - s)) b 0) := by
  refine ⟨by simp only [List.length_append, List.length_replicate, mulL_length, List.length_take, hl.len]; omega, fun x hx => ?_⟩
  rcases List.mem_append.1 hx with h | h
  · rw [List.eq_of_mem_replicate h]; decide
  · exact mulL_lt _ _ _ x h
theorem W4_plus {l r : List Nat} (hl : W4 l) (hr : W4 r) : W4 (addL l r 0) := ⟨by rw [addL_length _ _ _ (by rw [hl.len, hr.len])]; exact hl.len, addL_lt _ _ _⟩
/-- One factor more. -/
def pstep (h low : Nat) (l : List Nat) : List Nat := addL (List.replicate 0 0 ++ mulL (l.take (4 - 0)) low 0) (List.replicate 1 0 ++ mulL (l.take (4 - 1)) h 0) 0
def pows (h low : Nat) : Nat → List Nat
  | 0 => [1, 0, 0, 0]
  | n + 1 => pstep h low (pows h low n)
theorem W4_pows (h low : Nat) : ∀ n, W4 (pows h low n)
  | 0 => ⟨rfl, fun x hx => by simp only [pows, List.mem_cons, List.not_mem_nil, or_false] at hx; omega⟩
  | n + 1 => W4_plus (W4_times (W4_pows h low n) _ _ (by decide)) (W4_times (W4_pows h low n) _ _ (by decide))
--@ side (W4_times (by assumption) _ _ (by omega))
theorem C_power {h low : Nat} (k : Nat) {zk : Int} (w : World) (hh : h < 18446744073709551616) (hlow : low < 18446744073709551616) (hk : k ≤ 3) (hz : zk = k) :
    CallsR Try.prog 46 [.int .u64 (h : Int), .int .u64 (low : Int), .int .i64 zk] w fun v w' => v = .agg (vN (pows h low k)).toArray ∧ Below w.heap.size w w' := by
  subst hz
  refine callsR Try.func46 rfl rfl (by kernel_rfl) rfl ?_
  have hw := Below.refl w.heap.size w
  refine rk_seq ?_
  refine rk_region ?_
  refine wl_allocU Try.underlying61 Try.zeroValue61 (by rfl) ?_
  rintro g6 w6 f6 b6 i6 i6_1
  have s6 := b6.size
  replace hw := hw.trans (b6.mono hw.size)
  refine wl_nil ?_
  refine rk_seq ?_
  refine rk_region ?_
  refine wl_p (fun _ => (o_buildga [_, _, _, _] Try.underlying61 Try.sizeOf25 Try.zeroValue61 (by rfl) (by rfl) rfl (by rfl) (by rfl) (fun _ => by kernel_rfl))) ?_
  refine wl_allocU Try.underlying61 Try.zeroValue61 (by rfl) ?_
  rintro g7 w7 f7 b7 i7 i7_1
  have s7 := b7.size
  replace hw := hw.trans (b7.mono hw.size)
  replace f6 := f6.u b7
  refine wl_storega Try.sizeOf61 rfl rfl (by rfl) (by decide) f7 (by rfl) ?_
  rintro w_1 f g e
  have s := g.size
  replace hw := hw.trans (below_of_grownBy g.g hw.size (by omega))
  replace f6 := f6.k g.g (ap_some (by omega))
  clear f7
  refine wl_nil ?_
  refine rk_seq ?_
  refine rk_seq ?_
  refine rk_region ?_
  refine wl_p (fun _ => o_move rfl) ?_
  refine wl_p (fun _ => o_move rfl) ?_
  refine wl_nil ?_
  refine rk_block ?_
  replace f : Blk w_1 g7 61 (vN (pows h low 0)) := f
  replace f6 : Blk w_1 g6 61 (vN (List.replicate 4 0)) := f6
  have h4 := (W4_pows h low k).len
  refine rk_joinf (fun fb fr w5 => fr = [] ++ fb.drop 1 ∧ Blk w5 g7 61 (vN (pows h low k)) ∧ Blk w5 g6 61 (vN (List.replicate 4 0)) ∧ w_1.heap.size ≤ w5.heap.size ∧ Below w.heap.size w w5) ?_ (fun ks hj => ?_)
  rotate_left
  · refine rk_loopf (fun fb m fr w5 => ∃ (i : Nat) (v : Int) (q : List Nat), fr = [(10, .int .i64 v)] ++ fb ∧ v = i ∧ i ≤ k ∧ m = k - i ∧ q = pows h low i ∧ Blk w5 g7 61 (vN q) ∧ Blk w5 g6 61 (vN (List.replicate 4 0)) ∧ w_1.heap.size ≤ w5.heap.size ∧ Below w.heap.size w w5) (n := k) (Fr.le_of (by kernel_rfl) (by kernel_rfl) (by repeat' constructor)) ⟨0, _, _, rfl, rfl, by omega, rfl, rfl, f, f6, Nat.le_refl _, hw⟩ ?_
    clear hw f f6
    rintro m fr w5 ⟨i, v, q, rfl, rfl, hi, rfl, hq, f, f6, hsz, hw⟩
    have shw := hw.size
    have hW : W4 q := by rw [hq]; exact W4_pows _ _ _
    have hq4 := hW.len
    first | refine rk_frame (by simp only [List.cons_append, List.nil_append, List.drop_succ_cons, List.drop_zero]; rfl) ?_ | refine wl_frame (by simp only [List.cons_append, List.nil_append, List.drop_succ_cons, List.drop_zero]; rfl) ?_
    refine rk_seq ?_
    refine rk_region ?_
    refine wl_p (fun _ => o_lt rfl rfl) ?_
    refine wl_nil ?_
    refine rk_seq ?_
    refine rk_if rfl (fun h11 => ?_) (fun h11 => ?_)
    · have h5 : (pstep h low q).length = 4 := (W4_plus (W4_times hW low 0 (by decide)) (W4_times hW h 1 (by decide))).len
      unfold pstep at h5
      refine rk_skip ?_
      refine rk_seq ?_
      refine rk_block ?_
      refine rk_drawo (id := 4) (none) [0, 0, 3, 0, 0, 28, 36, 127] [0, 0, 3, 0, 0, 31, 63, 127] 228 4 [0, 1, 3, 4, 2, 5, 6, 7] [(.r, 0), (.p, 1), (.s, 3), (.p, 4), (.c, 2), (.l, 5), (.l, 6), (.l, 7)] (by kernel_rfl) (by kernel_rfl) (by kernel_rfl) (by kernel_rfl) (by kernel_rfl) ?_
      dsimp only [inOrder, nthOp]
      replace hw := hw.drew
      replace f6 := f6.d
      replace f := f.d
      refine wl_r (o_ldNa Try.isAgg61 Try.sizeOf61 rfl f (by omega)) ?_
      refine wl_p (fun _ => o_move rfl) ?_
      refine wl_s (fun _ hk => (o_ldNa Try.isAgg61 Try.sizeOf61 rfl (f.u (below_of_grown_none hk)) (by omega))) ?_
      refine wl_p (fun _ => o_move rfl) ?_
      refine wl_call rfl (C_times (0) _ (by omega) (by omega) (by omega) (by omega)) ?_ (hq := .inr fun _ _ h => grown_of_below h.2 _)
      rintro v14 w14 ⟨rfl, b14⟩
      simp only [drew_size] at b14
      have s14 := b14.size
      simp only [drew_size] at s14
      replace hw := hw.trans (b14.mono hw.size)
      replace f := f.u b14
      replace f6 := f6.u b14
      refine wl_call rfl (C_times (1) _ (by omega) (by omega) (by omega) (by omega)) ?_
      rintro v17 w17 ⟨rfl, b17⟩
      have s17 := b17.size
      replace hw := hw.trans (b17.mono hw.size)
      replace f6 := f6.u b17
      replace f := f.u b17
      refine wl_call rfl (C_plus _ (W4_times (by assumption) _ _ (by omega)) (W4_times (by assumption) _ _ (by omega))) ?_
      rintro v18 w18 ⟨rfl, b18⟩
      have s18 := b18.size
      replace hw := hw.trans (b18.mono hw.size)
      replace f := f.u b18
      replace f6 := f6.u b18
      refine wl_stNa Try.sizeOf61 rfl f rfl (by omega) (by omega) ?_
      rintro w_2 f_1 g_1 e_1
      have s_1 := g_1.size
      replace hw := hw.trans (below_of_grownBy g_1.g hw.size (by omega))
      replace f6 := f6.k g_1.g (ap_some (by omega))
      clear f
      refine wl_nild ?_
      refine rk_blk ?_
      refine rk_region ?_
      refine wl_p (fun _ => o_add rfl rfl (by omega) (by omega)) ?_
      refine wl_p (fun _ => o_move rfl) ?_
      refine wl_nil ?_
      exact rk_againf (Fr.le_of (by kernel_rfl) (by kernel_rfl) (by repeat' constructor)) ⟨i + 1, (i : Int) + 1, _, rfl, by omega, by omega, rfl, by rw [hq]; rfl, f_1, f6, by omega, hw⟩ (by omega)
    · refine rk_exit rfl ?_
      have hii : i = k := by omega
      subst hii
      rw [hq] at f
      exact rk_tof hj (Fr.le_of (by kernel_rfl) (by kernel_rfl) (by repeat' constructor)) ⟨rfl, f, f6, hsz, hw⟩
  clear hw f f6
  rintro fr w5 ⟨rfl, f, f6, hsz, hw⟩
  have shw := hw.size
  first | refine rk_frame (by simp only [List.cons_append, List.nil_append, List.drop_succ_cons, List.drop_zero]; rfl) ?_ | refine wl_frame (by simp only [List.cons_append, List.nil_append, List.drop_succ_cons, List.drop_zero]; rfl) ?_
  refine rk_seq ?_
  refine rk_region ?_
  refine wl_r (o_ldNa Try.isAgg61 Try.sizeOf61 rfl f (by omega)) ?_
  refine wl_stNa Try.sizeOf61 rfl f6 rfl (by omega) (by rfl) ?_
  rintro w_2 f_1 g_1 e_1
  have s_1 := g_1.size
  replace hw := hw.trans (below_of_grownBy g_1.g hw.size (by omega))
  clear f6
  replace f := f.k g_1.g (ap_some (by omega))
  refine wl_nil ?_
  refine ret_cell rfl rfl Try.isAgg61 Try.sizeOf61 f_1 (by rw [vN_length, h4]) ?_
  exact ⟨rfl, hw⟩

theorem four {l : List Nat} (hl : W4 l) : ∃ a b c d, l = [a, b, c, d] ∧ a < 18446744073709551616 ∧ b < 18446744073709551616 ∧ c < 18446744073709551616 ∧ d < 18446744073709551616 := by
  obtain ⟨h1, h2⟩ := hl
  match l, h1 with
  | [a, b, c, d], _ => exact ⟨a, b, c, d, rfl, h2 a (by simp), h2 b (by simp), h2 c (by simp), h2 d (by simp)⟩
theorem atMost_high {l : List Nat} {n k : Nat} (hl : W4 l) (hn : n < 18446744073709551616) (h2 : 2 ≤ k) (h3 : k ≤ 3) {j : Nat} (hj : j < l.length) (hkj : k < j) (h0 : 0 < l[j]) : ¬ val l ≤ n * 18446744073709551616 ^ k := by
  obtain ⟨a, b, c, d, rfl, ha, hb, hc, hd⟩ := four hl
  simp at hj
  obtain ⟨rfl, rfl⟩ : j = 3 ∧ k = 2 := by omega
  simp only [List.getElem_cons_succ, List.getElem_cons_zero] at h0
  simp only [val]
  omega
theorem atMost_mid {l : List Nat} {n k : Nat} (hl : W4 l) (h2 : 2 ≤ k) (h3 : k ≤ 3) (hk : k < l.length) (hz : ∀ j (hj : j < l.length), k < j → l[j] = 0) (hne : l[k] ≠ n) : l[k] < n ↔ val l ≤ n * 18446744073709551616 ^ k := by
  obtain ⟨a, b, c, d, rfl, ha, hb, hc, hd⟩ := four hl
  have h3' := hz 3 (by simp)
  rcases (show k = 2 ∨ k = 3 by omega) with rfl | rfl
  · simp only [List.getElem_cons_succ, List.getElem_cons_zero] at h3' hne ⊢
    have := h3' (by omega)
    simp only [val]
    omega
  · simp only [List.getElem_cons_succ, List.getElem_cons_zero] at hne ⊢
    simp only [val]
    omega
theorem atMost_low {l : List Nat} {n k : Nat} (hl : W4 l) (h2 : 2 ≤ k) (h3 : k ≤ 3) {j : Nat} (hk : k < l.length) (hj : j < l.length) (hz : ∀ j (hj : j < l.length), k < j → l[j] = 0) (he : l[k] = n) (hjk : j < k) (h0 : 0 < l[j]) : ¬ val l ≤ n * 18446744073709551616 ^ k := by
  obtain ⟨a, b, c, d, rfl, ha, hb, hc, hd⟩ := four hl
  have h3' := hz 3 (by simp)
  rcases (show k = 2 ∨ k = 3 by omega) with rfl | rfl
  · rcases (show j = 0 ∨ j = 1 by omega) with rfl | rfl <;>
    · simp only [List.getElem_cons_succ, List.getElem_cons_zero] at h3' he h0
      simp only [val]
      omega
  · rcases (show j = 0 ∨ j = 1 ∨ j = 2 by omega) with rfl | rfl | rfl <;>
    · simp only [List.getElem_cons_succ, List.getElem_cons_zero] at he h0
      simp only [val]
      omega
theorem atMost_eq {l : List Nat} {n k : Nat} (hl : W4 l) (h2 : 2 ≤ k) (h3 : k ≤ 3) (hk : k < l.length) (hz : ∀ j (hj : j < l.length), k < j → l[j] = 0) (he : l[k] = n) (hlow : ∀ j (hj : j < l.length), j < k → l[j] = 0) : val l ≤ n * 18446744073709551616 ^ k := by
  obtain ⟨a, b, c, d, rfl, ha, hb, hc, hd⟩ := four hl
  have h3' := hz 3 (by simp)
  have h0 := hlow 0 (by simp)
  have h1 := hlow 1 (by simp)
  have h2' := hlow 2 (by simp)
  simp only [List.getElem_cons_succ, List.getElem_cons_zero] at h0 h1 h2' h3'
  rcases (show k = 2 ∨ k = 3 by omega) with rfl | rfl
  · simp only [List.getElem_cons_succ, List.getElem_cons_zero] at he
    simp only [val]
    omega
  · simp only [List.getElem_cons_succ, List.getElem_cons_zero] at he
    simp only [val]
    omega
theorem C_atMost {l : List Nat} {n : Nat} (k : Nat) {zk : Int} (w : World) (hl : W4 l) (hn : n < 18446744073709551616) (h2 : 2 ≤ k) (h3 : k ≤ 3) (hz : zk = k) :
    CallsR Try.prog 45 [.agg (vN l).toArray, .int .u64 (n : Int), .int .i64 zk] w fun v w' => v = .bool (decide (val l ≤ n * 18446744073709551616 ^ k)) ∧ Below w.heap.size w w' := by
  subst hz
  have hl4 := hl.len
  refine callsR Try.func45 rfl rfl (by kernel_rfl) rfl ?_
  have hw := Below.refl w.heap.size w
  refine rk_seq ?_
  refine rk_region ?_
  refine wl_boxg _ rfl (by rfl) ?_
  rintro g3 w3 f3 b3 i3 i3_1
  have s3 := b3.size
  replace hw := hw.trans (b3.mono hw.size)
  refine wl_p (fun _ => o_assign rfl) ?_
  refine wl_nil ?_
  refine rk_seq ?_
  refine rk_seq ?_
  refine rk_region ?_
  refine wl_p (fun _ => o_assign rfl) ?_
  refine wl_nil ?_
  refine rk_block ?_
  refine rk_joinf (fun fb fr w5 => fr = [] ++ fb.drop 1 ∧ (∀ j (hj : j < l.length), k < j → l[j] = 0) ∧ Below w3.heap.size w3 w5) ?_ (fun ks hj => ?_)
  rotate_left
  · refine rk_loopf (fun fb m fr w5 => ∃ (i : Nat) (v : Int), fr = [(7, .int .i64 v)] ++ fb ∧ v = i ∧ i ≤ 3 ∧ k ≤ i ∧ m = i - k ∧ (∀ j (hj : j < l.length), i < j → l[j] = 0) ∧ Below w3.heap.size w3 w5) (n := 3 - k) (Fr.le_of (by kernel_rfl) (by kernel_rfl) (by repeat' constructor)) ⟨3, _, rfl, rfl, by omega, by omega, rfl, fun j hj h => absurd h (by omega), Below.refl _ _⟩ ?_
    rintro m fr w5 ⟨i, v, rfl, rfl, hi, hki, rfl, hzz, hw1⟩
    first | refine rk_frame (by simp only [List.cons_append, List.nil_append, List.drop_succ_cons, List.drop_zero]; rfl) ?_ | refine wl_frame (by simp only [List.cons_append, List.nil_append, List.drop_succ_cons, List.drop_zero]; rfl) ?_
    have shw1 := hw1.size
    replace hw := hw.trans (hw1.mono hw.size)
    replace f3 := f3.u hw1
    refine rk_seq ?_
    refine rk_seq ?_
    refine rk_region ?_
    refine wl_p (fun _ => o_move rfl) ?_
    refine wl_p (fun _ => o_move rfl) ?_
    refine wl_p (fun _ => o_gt rfl rfl) ?_
    refine wl_nil ?_
    refine rk_if rfl (fun h11 => ?_) (fun h11 => ?_)
    · have hil : i < l.length := by omega
      refine rk_skip ?_
      refine rk_seq ?_
      refine rk_block ?_
      refine rk_seq ?_
      refine rk_region ?_
      refine wl_p (fun _ => o_move rfl) ?_
      refine wl_p (fun _ => (o_iaddrP (i) Try.underlying61 Try.sizeOf25 rfl rfl rfl (by omega))) ?_
      refine wl_r (o_ldN Try.isAgg25 rfl f3 (by omega)) ?_
      refine wl_p (fun _ => o_gt rfl rfl) ?_
      refine wl_nil ?_
      refine rk_if rfl (fun h17 => ?_) (fun h17 => ?_)
      · have hno := atMost_high hl hn h2 h3 hil (by omega) (by omega)
        refine rk_seq ?_
        refine rk_region ?_
        refine wl_p (fun _ => o_assign rfl) ?_
        refine wl_nil ?_
        refine ret1 rfl rfl ?_
        exact ⟨by rw [decide_eq_false hno], hw⟩
      · refine rk_skip ?_
        refine rk_blk ?_
        refine rk_region ?_
        refine wl_p (fun _ => o_move rfl) ?_
        refine wl_p (fun _ => o_sub rfl rfl (by omega) (by omega)) ?_
        refine wl_p (fun _ => o_assign rfl) ?_
        refine wl_nil ?_
        exact rk_againf (Fr.le_of (by kernel_rfl) (by kernel_rfl) (by repeat' constructor)) ⟨i - 1, (i : Int) - 1, rfl, by omega, by omega, by omega, rfl, fun j hj hij => by
          rcases Nat.lt_or_ge i j with h | h
          · exact hzz j hj h
          · obtain rfl : j = i := by omega
            omega, hw1⟩ (by omega)
    · refine rk_exit rfl ?_
      exact rk_tof hj (Fr.le_of (by kernel_rfl) (by kernel_rfl) (by repeat' constructor)) ⟨rfl, fun j hj hkj => hzz j hj (by omega), hw1⟩
  rintro fr w5 ⟨rfl, hzz, hw1⟩
  first | refine rk_frame (by simp only [List.cons_append, List.nil_append, List.drop_succ_cons, List.drop_zero]; rfl) ?_ | refine wl_frame (by simp only [List.cons_append, List.nil_append, List.drop_succ_cons, List.drop_zero]; rfl) ?_
  have shw1 := hw1.size
  replace hw := hw.trans (hw1.mono hw.size)
  replace f3 := f3.u hw1
  have hkl : k < l.length := by omega
  refine rk_seq ?_
  refine rk_seq ?_
  refine rk_region ?_
  refine wl_p (fun _ => o_move rfl) ?_
  refine wl_p (fun _ => (o_iaddrP (k) Try.underlying61 Try.sizeOf25 rfl rfl rfl (by omega))) ?_
  refine wl_r (o_ldN Try.isAgg25 rfl f3 (by omega)) ?_
  refine wl_p (fun _ => o_move rfl) ?_
  refine wl_p (fun _ => o_ne rfl rfl) ?_
  refine wl_nil ?_
  refine rk_if rfl (fun h22 => ?_) (fun h22 => ?_)
  · have hm := atMost_mid (n := n) hl h2 h3 hkl hzz (by omega)
    refine rk_seq ?_
    refine rk_region ?_
    refine wl_p (fun _ => o_move rfl) ?_
    refine wl_p (fun _ => (o_iaddrP (k) Try.underlying61 Try.sizeOf25 rfl rfl rfl (by omega))) ?_
    refine wl_r (o_ldN Try.isAgg25 rfl f3 (by omega)) ?_
    refine wl_p (fun _ => o_move rfl) ?_
    refine wl_p (fun _ => o_lt rfl rfl) ?_
    refine wl_p (fun _ => o_assign rfl) ?_
    refine wl_nil ?_
    refine ret1 rfl rfl ?_
    exact ⟨by congr 1; rw [decide_eq_decide]; omega, hw⟩
  have he : l[k] = n := by omega
  refine rk_skip ?_
  refine rk_seq ?_
  refine rk_seq ?_
  refine rk_region ?_
  refine wl_p (fun _ => o_move rfl) ?_
  refine wl_p (fun _ => o_move rfl) ?_
  refine wl_nil ?_
  refine rk_block ?_
  refine rk_joinf (fun fb fr w6 => fr = [] ++ fb.drop 1 ∧ (∀ j (hj : j < l.length), j < k → l[j] = 0) ∧ Below w5.heap.size w5 w6) ?_ (fun ks hj => ?_)
  rotate_left
  · refine rk_loopf (fun fb m fr w6 => ∃ (i : Nat) (v : Int), fr = [(29, .int .i64 v)] ++ fb ∧ v = i ∧ i ≤ k ∧ m = k - i ∧ (∀ j (hj : j < l.length), j < i → l[j] = 0) ∧ Below w5.heap.size w5 w6) (n := k) (Fr.le_of (by kernel_rfl) (by kernel_rfl) (by repeat' constructor)) ⟨0, _, rfl, rfl, by omega, rfl, fun j hj h => absurd h (by omega), Below.refl _ _⟩ ?_
    rintro m fr w6 ⟨i, v, rfl, rfl, hi, rfl, hlow, hw2⟩
    first | refine rk_frame (by simp only [List.cons_append, List.nil_append, List.drop_succ_cons, List.drop_zero]; rfl) ?_ | refine wl_frame (by simp only [List.cons_append, List.nil_append, List.drop_succ_cons, List.drop_zero]; rfl) ?_
    have shw2 := hw2.size
    replace hw1 := hw1.trans (hw2.mono hw1.size)
    replace hw := hw.trans (hw2.mono hw.size)
    replace f3 := f3.u hw2
    refine rk_seq ?_
    refine rk_region ?_
    refine wl_p (fun _ => o_lt rfl rfl) ?_
    refine wl_nil ?_
    refine rk_seq ?_
    refine rk_if rfl (fun h30 => ?_) (fun h30 => ?_)
    · have hil : i < l.length := by omega
      refine rk_skip ?_
      refine rk_seq ?_
      refine rk_block ?_
      refine rk_seq ?_
      refine rk_region ?_
      refine wl_p (fun _ => o_move rfl) ?_
      refine wl_p (fun _ => o_assign rfl) ?_
      refine wl_nil ?_
      refine rk_seq ?_
      refine rk_region ?_
      refine wl_p (fun _ => o_move rfl) ?_
      refine wl_p (fun _ => (o_iaddrP (i) Try.underlying61 Try.sizeOf25 rfl rfl rfl (by omega))) ?_
      refine wl_r (o_ldN Try.isAgg25 rfl f3 (by omega)) ?_
      refine wl_p (fun _ => o_gt rfl rfl) ?_
      refine wl_nil ?_
      refine rk_if rfl (fun h35 => ?_) (fun h35 => ?_)
      · have hno := atMost_low (n := n) hl h2 h3 hkl hil hzz he (by omega) (by omega)
        refine rk_seq ?_
        refine rk_region ?_
        refine wl_p (fun _ => o_assign rfl) ?_
        refine wl_nil ?_
        refine ret1 rfl rfl ?_
        exact ⟨by rw [decide_eq_false hno], hw⟩
      · refine rk_skip ?_
        refine rk_blk ?_
        refine rk_region ?_
        refine wl_p (fun _ => o_add rfl rfl (by omega) (by omega)) ?_
        refine wl_p (fun _ => o_move rfl) ?_
        refine wl_nil ?_
        exact rk_againf (Fr.le_of (by kernel_rfl) (by kernel_rfl) (by repeat' constructor)) ⟨i + 1, (i : Int) + 1, rfl, by omega, by omega, rfl, fun j hj hij => by
          rcases Nat.lt_or_ge j i with h | h
          · exact hlow j hj h
          · obtain rfl : j = i := by omega
            omega, hw2⟩ (by omega)
    · refine rk_exit rfl ?_
      exact rk_tof hj (Fr.le_of (by kernel_rfl) (by kernel_rfl) (by repeat' constructor)) ⟨rfl, fun j hj hkj => hlow j hj (by omega), hw2⟩
  rintro fr w6 ⟨rfl, hlow, hw2⟩
  first | refine rk_frame (by simp only [List.cons_append, List.nil_append, List.drop_succ_cons, List.drop_zero]; rfl) ?_ | refine wl_frame (by simp only [List.cons_append, List.nil_append, List.drop_succ_cons, List.drop_zero]; rfl) ?_
  have shw2 := hw2.size
  replace hw1 := hw1.trans (hw2.mono hw1.size)
  replace hw := hw.trans (hw2.mono hw.size)
  replace f3 := f3.u hw2
  have hyes := atMost_eq (n := n) hl h2 h3 hkl hzz he hlow
  refine rk_seq ?_
  refine rk_region ?_
  refine wl_p (fun _ => o_assign rfl) ?_
  refine wl_nil ?_
  refine ret1 rfl rfl ?_
  exact ⟨by rw [decide_eq_true hyes], hw⟩
/-! The powers, as numbers. -/
theorem val_pows {h low k : Nat} (hh : h < 65536) (hl : low < 18446744073709551616) (hk : k ≤ 3) : val (pows h low k) = (h * 18446744073709551616 + low) ^ k := by
  have hx : h * 18446744073709551616 + low < 2 ^ 80 := by omega
  suffices ∀ i, i ≤ k → val (pows h low i) = (h * 18446744073709551616 + low) ^ i from this k (Nat.le_refl _)
  intro i hi
  induction i with
  | zero => simp [pows, val]
  | succ i ih =>
    have ih := ih (by omega)
    obtain ⟨a, b, c, d, he, ha, hb, hc, hd⟩ := four (W4_pows h low i)
    have hle : (h * 18446744073709551616 + low) ^ i ≤ (2 ^ 80) ^ 2 := Nat.le_trans (Nat.pow_le_pow_left (by omega) i) (Nat.pow_le_pow_right (by decide) (by omega))
    have hd0 : d = 0 := by
      rw [he] at ih; simp only [val] at ih; omega
    have hv : val [a, b, c, d] = (h * 18446744073709551616 + low) ^ i := by rw [← he]; exact ih
    have hv3 : val [a, b, c] = (h * 18446744073709551616 + low) ^ i := by rw [← hv, hd0]; simp [val]
    have hb1 : val [a, b, c, d] * low ≤ (2 ^ 80) ^ 2 * 18446744073709551616 := by rw [hv]; exact Nat.mul_le_mul hle (by omega)
    have hb2 : val [a, b, c] * h ≤ (2 ^ 80) ^ 2 * 65536 := by rw [hv3]; exact Nat.mul_le_mul hle (by omega)
    have e1 : val (mulL [a, b, c, d] low 0) = val [a, b, c, d] * low := by
      rw [val_mulL' (by show _ < 18446744073709551616 ^ 4; omega)]; omega
    have e2 : val (mulL [a, b, c] h 0) = val [a, b, c] * h := by
      rw [val_mulL' (by show _ < 18446744073709551616 ^ 3; omega)]; omega
    show val (pstep h low (pows h low i)) = _
    unfold pstep
    rw [he]
    show val (addL ([] ++ mulL [a, b, c, d] low 0) ([0] ++ mulL [a, b, c] h 0) 0) = _
    have e3 : val ([0] ++ mulL [a, b, c] h 0) = 18446744073709551616 * (val [a, b, c] * h) := by
      rw [val_append, e2]; simp [val]
    have e4 : val ([] ++ mulL [a, b, c, d] low 0) = val [a, b, c, d] * low := e1
    rw [val_addL' (by simp [mulL_length]) (by rw [e3, e4]; show _ < 18446744073709551616 ^ 4; omega), e3, e4, hv, hv3, Nat.pow_succ, Nat.mul_add]
    rw [Nat.add_zero, Nat.add_comm, Nat.mul_comm h 18446744073709551616, Nat.mul_left_comm]
theorem low_bit {x b : Nat} (h : x % 2 ^ (b + 1) = 0) : x ||| 2 ^ b = x + 2 ^ b := by
  obtain ⟨q, rfl⟩ := Nat.dvd_of_mod_eq_zero h
  exact (Nat.two_pow_add_eq_or_of_lt (Nat.pow_lt_pow_right (by decide) (by omega)) q).symm
theorem or_bit {x b : Nat} (hx : x < 18446744073709551616) (hb : b < 64) (h : x % 2 ^ (b + 1) = 0) (z : Int) (hz : z = b) : bits .or .u64 (x : Int) (IntKind.u64.wrap (1 * 2 ^ min z.toNat IntKind.u64.bits)) = ((x + 2 ^ b : Nat) : Int) := by
  subst hz
  have h1 : 2 ^ b < 18446744073709551616 := Nat.lt_of_lt_of_le (Nat.pow_lt_pow_right (by decide) hb) (by decide : 2 ^ 64 ≤ 18446744073709551616)
  have h2 : IntKind.u64.wrap (1 * 2 ^ min (b : Int).toNat IntKind.u64.bits) = ((2 ^ b : Nat) : Int) := by
    rw [show min (b : Int).toNat IntKind.u64.bits = b by show min (b : Int).toNat 64 = b; omega, IntKind.wrap_u64]
    have : ((2 : Int) ^ b) = ((2 ^ b : Nat) : Int) := by simp
    rw [this]; omega
  rw [h2, bits_or_u64_nat _ _ hx h1, low_bit h]
theorem top_room {x b : Nat} (hx : x < 2 ^ 80) (hb : b ≤ 80) (h : x % 2 ^ b = 0) : x + 2 ^ b ≤ 2 ^ 80 := by
  obtain ⟨q, rfl⟩ := Nat.dvd_of_mod_eq_zero h
  have e : (2 : Nat) ^ 80 = 2 ^ b * 2 ^ (80 - b) := by rw [← Nat.pow_add]; congr 1; omega
  rw [e] at hx ⊢
  have : q < 2 ^ (80 - b) := Nat.lt_of_mul_lt_mul_left hx
  calc 2 ^ b * q + 2 ^ b = 2 ^ b * (q + 1) := by rw [Nat.mul_add, Nat.mul_one]
    _ ≤ 2 ^ b * 2 ^ (80 - b) := Nat.mul_le_mul_left _ this
theorem mod_add {x b : Nat} (h : x % 2 ^ (b + 1) = 0) : (x + 2 ^ b) % 2 ^ b = 0 ∧ x % 2 ^ b = 0 := by
  obtain ⟨q, rfl⟩ := Nat.dvd_of_mod_eq_zero h
  have e : 2 ^ (b + 1) * q = 2 ^ b * (2 * q) := by rw [Nat.pow_succ, Nat.mul_assoc]
  rw [e, Nat.mul_mod_right]
  exact ⟨by rw [Nat.add_mod, Nat.mul_mod_right, Nat.mod_self]; rfl, rfl⟩
theorem parts_hi {x b : Nat} (hb : 64 ≤ b) (h : x % 2 ^ (b + 1) = 0) : x % 18446744073709551616 = 0 ∧ (x / 18446744073709551616) % 2 ^ (b - 64 + 1) = 0 ∧ (x + 2 ^ b) / 18446744073709551616 = x / 18446744073709551616 + 2 ^ (b - 64) ∧ (x + 2 ^ b) % 18446744073709551616 = x % 18446744073709551616 := by
  obtain ⟨q, rfl⟩ := Nat.dvd_of_mod_eq_zero h
  have e : (2 : Nat) ^ (b + 1) = 18446744073709551616 * 2 ^ (b - 64 + 1) := by
    rw [show 18446744073709551616 = 2 ^ 64 from rfl, ← Nat.pow_add]; congr 1; omega
  have e2 : (2 : Nat) ^ b = 18446744073709551616 * 2 ^ (b - 64) := by
    rw [show 18446744073709551616 = 2 ^ 64 from rfl, ← Nat.pow_add]; congr 1; omega
  rw [e, e2, Nat.mul_assoc]
  refine ⟨Nat.mul_mod_right _ _, by rw [Nat.mul_div_cancel_left _ (by decide)]; exact Nat.mul_mod_right _ _, ?_, ?_⟩
  · rw [← Nat.mul_add, Nat.mul_div_cancel_left _ (by decide), Nat.mul_div_cancel_left _ (by decide)]
  · rw [← Nat.mul_add, Nat.mul_mod_right, Nat.mul_mod_right]
theorem parts_lo {x b : Nat} (hb : b < 64) (h : x % 2 ^ (b + 1) = 0) : (x % 18446744073709551616) % 2 ^ (b + 1) = 0 ∧ (x + 2 ^ b) / 18446744073709551616 = x / 18446744073709551616 ∧ (x + 2 ^ b) % 18446744073709551616 = x % 18446744073709551616 + 2 ^ b := by
  have e : 18446744073709551616 = 2 ^ (b + 1) * 2 ^ (63 - b) := by
    rw [show 18446744073709551616 = 2 ^ 64 from rfl, ← Nat.pow_add]; congr 1; omega
  have h1 : (x % 18446744073709551616) % 2 ^ (b + 1) = 0 := by rw [e, Nat.mod_mul_right_mod]; exact h
  have h2 : x % 18446744073709551616 + 2 ^ b < 18446744073709551616 := by
    obtain ⟨q, hq⟩ := Nat.dvd_of_mod_eq_zero h1
    have h3 : x % 18446744073709551616 < 18446744073709551616 := Nat.mod_lt _ (by decide)
    have h4 : 2 ^ (b + 1) * q < 2 ^ (b + 1) * 2 ^ (63 - b) := by rw [← hq, ← e]; exact h3
    have h5 : q < 2 ^ (63 - b) := Nat.lt_of_mul_lt_mul_left h4
    have h6 : 2 ^ (b + 1) * (q + 1) ≤ 2 ^ (b + 1) * 2 ^ (63 - b) := Nat.mul_le_mul_left _ h5
    rw [← e, Nat.mul_add, ← hq] at h6
    have h7 : 2 ^ b < 2 ^ (b + 1) := Nat.pow_lt_pow_right (by decide) (by omega)
    omega
  refine ⟨h1, ?_, ?_⟩ <;> omega
theorem C_fraction {n : Nat} (k : Nat) {zk : Int} (w : World) (hn : n < 18446744073709551616) (h2 : 2 ≤ k) (h3 : k ≤ 3) (hz : zk = k) :
    CallsR Try.prog 33 [.int .u64 (n : Int), .int .i64 zk] w fun v w' => v = .int .u64 ((root (n % 4294967296) k % 18446744073709551616 : Nat) : Int) ∧ Below w.heap.size w w' := by
  subst hz
  obtain ⟨r, hr⟩ : ∃ r, n % 4294967296 = r := ⟨_, rfl⟩
  have hr2 : r < 4294967296 := by omega
  have hmask : bits .and .u64 (n : Int) 4294967295 = (r : Int) := by rw [Mul64.maskN n hn, hr]
  rw [hr]
  refine callsR Try.func33 rfl rfl (by kernel_rfl) rfl ?_
  have hw := Below.refl w.heap.size w
  refine rk_seq ?_
  refine rk_region ?_
  refine wl_p (fun _ => o_assign rfl) ?_
  refine wl_nil ?_
  refine rk_seq ?_
  refine rk_region ?_
  refine wl_p (fun _ => o_move rfl) ?_
  refine wl_p (fun _ => o_and rfl rfl) ?_
  refine wl_p (fun _ => o_assign rfl) ?_
  refine wl_nil ?_
  refine rk_seq ?_
  refine rk_region ?_
  refine wl_p (fun _ => o_assign rfl) ?_
  refine wl_p (fun _ => o_assign rfl) ?_
  refine wl_nil ?_
  refine rk_seq ?_
  refine rk_seq ?_
  refine rk_region ?_
  refine wl_p (fun _ => o_assign rfl) ?_
  refine wl_nil ?_
  refine rk_block ?_
  rw [hmask]
  refine rk_joinf (fun fb fr w5 => fr = [(6, .int .u64 ((root r k % 18446744073709551616 : Nat) : Int))] ++ fb.drop 3 ∧ Below w.heap.size w w5) ?_ (fun ks hj => ?_)
  rotate_left
  · refine rk_loopf (fun fb m fr w5 => ∃ (b : Nat) (v : Int) (x hx lx : Nat), fr = [(7, .int .i64 v), (6, .int .u64 (lx : Int)), (5, .int .u64 (hx : Int))] ++ fb.drop 3 ∧ v = (b : Int) - 1 ∧ hx = x / 18446744073709551616 ∧ lx = x % 18446744073709551616 ∧ b ≤ 80 ∧ m = b ∧ x < 2 ^ 80 ∧ x % 2 ^ b = 0 ∧ greedy (rootP r k) b x = root r k ∧ Below w.heap.size w w5) (n := 80) (Fr.le_of (by kernel_rfl) (by kernel_rfl) (by repeat' constructor)) ⟨80, _, 0, 0, 0, rfl, rfl, by decide, by decide, by omega, rfl, by decide, by decide, rfl, hw⟩ ?_
    clear hw
    rintro m fr w5 ⟨b, v, x, hi, lo, rfl, rfl, hhi, hlo, hb, hmb, hx, hxb, hgr, hw⟩
    replace hmb := hmb.symm
    subst hmb
    have hlo2 : lo < 18446744073709551616 := by omega
    have hhi2 : hi < 65536 := by omega
    first | refine rk_frame (by simp only [List.cons_append, List.nil_append, List.drop_succ_cons, List.drop_zero]; rfl) ?_ | refine wl_frame (by simp only [List.cons_append, List.nil_append, List.drop_succ_cons, List.drop_zero]; rfl) ?_
    refine rk_seq ?_
    refine rk_seq ?_
    refine rk_region ?_
    refine wl_p (fun _ => o_move rfl) ?_
    refine wl_p (fun _ => o_ge rfl rfl) ?_
    refine wl_nil ?_
    refine rk_if rfl (fun h13 => ?_) (fun h13 => ?_)
    · obtain ⟨c, rfl⟩ : ∃ c, b = c + 1 := ⟨b - 1, by omega⟩
      obtain ⟨ha1, ha2⟩ := mod_add hxb
      have hroom := top_room hx hb hxb
      have hpp : 2 ^ c < 2 ^ (c + 1) := Nat.pow_lt_pow_right (by decide) (by omega)
      have hpos : 0 < 2 ^ c := Nat.pow_pos (by decide)
      have hy : x + 2 ^ c < 2 ^ 80 := by omega
      obtain ⟨y, hye⟩ : ∃ y, x + 2 ^ c = y := ⟨_, rfl⟩
      rw [hye] at ha1 hy
      have hval := val_pows (h := y / 18446744073709551616) (low := y % 18446744073709551616) (k := k) (by omega) (by omega) h3
      rw [show y / 18446744073709551616 * 18446744073709551616 + y % 18446744073709551616 = y by omega] at hval
      have hWp : W4 (pows (y / 18446744073709551616) (y % 18446744073709551616) k) := W4_pows _ _ _
      have hp : decide (val (pows (y / 18446744073709551616) (y % 18446744073709551616) k) ≤ r * 18446744073709551616 ^ k) = rootP r k y := by rw [hval]; rfl
      have hst : greedy (rootP r k) (c + 1) x = greedy (rootP r k) c (if rootP r k y then y else x) := by
        show greedy (rootP r k) c (if rootP r k (x + 2 ^ c) then x + 2 ^ c else x) = _
        rw [hye]
      refine rk_skip ?_
      refine rk_seq ?_
      refine rk_block ?_
      refine rk_seq ?_
      refine rk_region ?_
      refine wl_p (fun _ => o_move rfl) ?_
      refine wl_p (fun _ => o_move rfl) ?_
      refine wl_p (fun _ => o_assign rfl) ?_
      refine wl_p (fun _ => o_assign rfl) ?_
      refine wl_nil ?_
      refine rk_seq ?_
      refine rk_seq ?_
      refine rk_region ?_
      refine wl_p (fun _ => o_move rfl) ?_
      refine wl_p (fun _ => o_ge rfl rfl) ?_
      refine wl_nil ?_
      refine rk_if rfl (fun h19 => ?_) (fun h19 => ?_)
      · obtain ⟨q1, q2, q3, q4⟩ := parts_hi (by omega) hxb
        rw [hye] at q3 q4
        have e1 := or_bit (x := hi) (b := c - 64) (by omega) (by omega) (by rw [hhi]; exact q2) (((c + 1 : Nat) : Int) - 1 - 64) (by omega)
        have hlo' : lo = y % 18446744073709551616 := by omega
        subst hlo'
        refine rk_region ?_
        refine wl_p (fun _ => o_move rfl) ?_
        refine wl_p (fun _ => o_move rfl) ?_
        refine wl_p (fun _ => o_sub rfl rfl (by omega) (by omega)) ?_
        refine wl_p (fun _ => o_shl rfl rfl (by omega)) ?_
        refine wl_p (fun _ => o_or rfl rfl) ?_
        refine wl_p (fun _ => o_assign rfl) ?_
        refine wl_nil ?_
        refine rk_seq ?_
        refine rk_region ?_
        refine wl_p (fun _ => o_move rfl) ?_
        refine wl_p (fun _ => o_move rfl) ?_
        refine wl_p (fun _ => o_move rfl) ?_
        rw [e1, show hi + 2 ^ (c - 64) = y / 18446744073709551616 by omega]
        refine wl_call rfl (C_power (k) _ (by omega) (by omega) (by omega) rfl) ?_
        rintro v32 w32 ⟨rfl, b32⟩
        have s32 := b32.size
        replace hw := hw.trans (b32.mono hw.size)
        refine wl_p (fun _ => o_move rfl) ?_
        refine wl_p (fun _ => o_move rfl) ?_
        refine wl_call rfl (C_atMost (k) _ (by omega) (by omega) (by omega) (by omega) rfl) ?_
        rintro v35 w35 ⟨rfl, b35⟩
        have s35 := b35.size
        replace hw := hw.trans (b35.mono hw.size)
        refine wl_nil ?_
        rw [hp]
        refine rk_if rfl (fun h35 => ?_) (fun h35 => ?_)
        · rw [if_pos (show rootP r k y = true from decide_eq_true h35)] at hst
          refine rk_region ?_
          refine wl_p (fun _ => o_move rfl) ?_
          refine wl_p (fun _ => o_move rfl) ?_
          refine wl_p (fun _ => o_assign rfl) ?_
          refine wl_p (fun _ => o_assign rfl) ?_
          refine wl_nil ?_
          refine rk_blk ?_
          refine rk_region ?_
          refine wl_p (fun _ => o_move rfl) ?_
          refine wl_p (fun _ => o_sub rfl rfl (by omega) (by omega)) ?_
          refine wl_p (fun _ => o_assign rfl) ?_
          refine wl_nil ?_
          exact rk_againf (Fr.le_of (by kernel_rfl) (by kernel_rfl) (by repeat' constructor)) ⟨c, _, y, _, _, rfl, by omega, by omega, by omega, by omega, rfl, hy, ha1, by rw [← hgr, hst], hw⟩ (by omega)
        · rw [if_neg (by rw [show rootP r k y = false from decide_eq_false h35]; decide)] at hst
          refine rk_skip ?_
          refine rk_blk ?_
          refine rk_region ?_
          refine wl_p (fun _ => o_move rfl) ?_
          refine wl_p (fun _ => o_sub rfl rfl (by omega) (by omega)) ?_
          refine wl_p (fun _ => o_assign rfl) ?_
          refine wl_nil ?_
          exact rk_againf (Fr.le_of (by kernel_rfl) (by kernel_rfl) (by repeat' constructor)) ⟨c, _, x, _, _, rfl, by omega, by omega, by omega, by omega, rfl, hx, ha2, by rw [← hgr, hst], hw⟩ (by omega)
      · obtain ⟨q1, q3, q4⟩ := parts_lo (by omega) hxb
        rw [hye] at q3 q4
        have e1 := or_bit (x := lo) (b := c) (by omega) (by omega) (by rw [hlo]; exact q1) (((c + 1 : Nat) : Int) - 1) (by omega)
        have hhi' : hi = y / 18446744073709551616 := by omega
        subst hhi'
        refine rk_region ?_
        refine wl_p (fun _ => o_move rfl) ?_
        refine wl_p (fun _ => o_move rfl) ?_
        refine wl_p (fun _ => o_shl rfl rfl (by omega)) ?_
        refine wl_p (fun _ => o_or rfl rfl) ?_
        refine wl_p (fun _ => o_assign rfl) ?_
        refine wl_nil ?_
        refine rk_seq ?_
        refine rk_region ?_
        refine wl_p (fun _ => o_move rfl) ?_
        refine wl_p (fun _ => o_move rfl) ?_
        refine wl_p (fun _ => o_move rfl) ?_
        rw [e1, show lo + 2 ^ c = y % 18446744073709551616 by omega]
        refine wl_call rfl (C_power (k) _ (by omega) (by omega) (by omega) rfl) ?_
        rintro v32 w32 ⟨rfl, b32⟩
        have s32 := b32.size
        replace hw := hw.trans (b32.mono hw.size)
        refine wl_p (fun _ => o_move rfl) ?_
        refine wl_p (fun _ => o_move rfl) ?_
        refine wl_call rfl (C_atMost (k) _ (by omega) (by omega) (by omega) (by omega) rfl) ?_
        rintro v35 w35 ⟨rfl, b35⟩
        have s35 := b35.size
        replace hw := hw.trans (b35.mono hw.size)
        refine wl_nil ?_
        rw [hp]
        refine rk_if rfl (fun h35 => ?_) (fun h35 => ?_)
        · rw [if_pos (show rootP r k y = true from decide_eq_true h35)] at hst
          refine rk_region ?_
          refine wl_p (fun _ => o_move rfl) ?_
          refine wl_p (fun _ => o_move rfl) ?_
          refine wl_p (fun _ => o_assign rfl) ?_
          refine wl_p (fun _ => o_assign rfl) ?_
          refine wl_nil ?_
          refine rk_blk ?_
          refine rk_region ?_
          refine wl_p (fun _ => o_move rfl) ?_
          refine wl_p (fun _ => o_sub rfl rfl (by omega) (by omega)) ?_
          refine wl_p (fun _ => o_assign rfl) ?_
          refine wl_nil ?_
          exact rk_againf (Fr.le_of (by kernel_rfl) (by kernel_rfl) (by repeat' constructor)) ⟨c, _, y, _, _, rfl, by omega, by omega, by omega, by omega, rfl, hy, ha1, by rw [← hgr, hst], hw⟩ (by omega)
        · rw [if_neg (by rw [show rootP r k y = false from decide_eq_false h35]; decide)] at hst
          refine rk_skip ?_
          refine rk_blk ?_
          refine rk_region ?_
          refine wl_p (fun _ => o_move rfl) ?_
          refine wl_p (fun _ => o_sub rfl rfl (by omega) (by omega)) ?_
          refine wl_p (fun _ => o_assign rfl) ?_
          refine wl_nil ?_
          exact rk_againf (Fr.le_of (by kernel_rfl) (by kernel_rfl) (by repeat' constructor)) ⟨c, _, x, _, _, rfl, by omega, by omega, by omega, by omega, rfl, hx, ha2, by rw [← hgr, hst], hw⟩ (by omega)
    · refine rk_exit rfl ?_
      obtain rfl : b = 0 := by omega
      have e : lo = root r k % 18446744073709551616 := by rw [hlo, ← hgr]; rfl
      subst e
      exact rk_tof hj (Fr.le_of (by kernel_rfl) (by kernel_rfl) (by repeat' constructor)) ⟨rfl, hw⟩
  clear hw
  rintro fr w5 ⟨rfl, hw⟩
  first | refine rk_frame (by simp only [List.cons_append, List.nil_append, List.drop_succ_cons, List.drop_zero]; rfl) ?_ | refine wl_frame (by simp only [List.cons_append, List.nil_append, List.drop_succ_cons, List.drop_zero]; rfl) ?_
  refine rk_seq ?_
  refine rk_region ?_
  refine wl_p (fun _ => o_move rfl) ?_
  refine wl_p (fun _ => o_assign rfl) ?_
  refine wl_nil ?_
  refine ret1 rfl rfl ?_
  exact ⟨rfl, hw⟩
theorem C_Root {n : Nat} (w : World) (hn : n < 18446744073709551616) : CallsR Try.prog 15 [.int .u64 (n : Int)] w fun v w' => v = .int .u64 ((root (n % 4294967296) 2 % 18446744073709551616 : Nat) : Int) ∧ Below w.heap.size w w' := by
  refine callsR Try.func15 rfl rfl (by kernel_rfl) rfl ?_
  have hw := Below.refl w.heap.size w
  refine rk_seq ?_
  refine rk_region ?_
  refine wl_p (fun _ => o_assign rfl) ?_
  refine wl_nil ?_
  refine rk_seq ?_
  refine rk_region ?_
  refine wl_p (fun _ => o_move rfl) ?_
  refine wl_call rfl (C_fraction (2) _ (by omega) (by omega) (by omega) (by omega)) ?_
  rintro v4 w4 ⟨rfl, b4⟩
  have s4 := b4.size
  replace hw := hw.trans (b4.mono hw.size)
  refine wl_p (fun _ => o_assign rfl) ?_
  refine wl_nil ?_
  refine ret1 rfl rfl ?_
  exact ⟨rfl, hw⟩
theorem C_Cube {n : Nat} (w : World) (hn : n < 18446744073709551616) : CallsR Try.prog 16 [.int .u64 (n : Int)] w fun v w' => v = .int .u64 ((root (n % 4294967296) 3 % 18446744073709551616 : Nat) : Int) ∧ Below w.heap.size w w' := by
  refine callsR Try.func16 rfl rfl (by kernel_rfl) rfl ?_
  have hw := Below.refl w.heap.size w
  refine rk_seq ?_
  refine rk_region ?_
  refine wl_p (fun _ => o_assign rfl) ?_
  refine wl_nil ?_
  refine rk_seq ?_
  refine rk_region ?_
  refine wl_p (fun _ => o_move rfl) ?_
  refine wl_call rfl (C_fraction (3) _ (by omega) (by omega) (by omega) (by omega)) ?_
  rintro v4 w4 ⟨rfl, b4⟩
  have s4 := b4.size
  replace hw := hw.trans (b4.mono hw.size)
  refine wl_p (fun _ => o_assign rfl) ?_
  refine wl_nil ?_
  refine ret1 rfl rfl ?_
  exact ⟨rfl, hw⟩
end Go.Proofs.Ytldhmnakkkjenaa
