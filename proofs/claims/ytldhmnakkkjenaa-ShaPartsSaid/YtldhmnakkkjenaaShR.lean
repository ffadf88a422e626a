/-
  The statement ShaCalls: sums, words, pieces and padding are what the reference says.
-/
import Derived.Test.YtldhmnakkkjenaaShQ
namespace Go.Proofs.Ytldhmnakkkjenaa
open Go.RowKit
theorem all_range_eq64 : ∀ (xs ys : List UInt64), xs.length = ys.length → ((List.range xs.length).all fun i => xs.getD i 0 == ys.getD i 0) = (xs == ys)
  | [], [], _ => rfl
  | x :: xs, y :: ys, h => by
    have ih := all_range_eq64 xs ys (by simpa using h)
    rw [List.length_cons, List.range_succ_eq_map, List.all_cons, List.all_map]
    simp only [List.getD_cons_zero, Function.comp_def, List.getD_cons_succ, ih]
    simp [List.cons_beq_cons]
  | [], _ :: _, h => by simp at h
  | _ :: _, [], h => by simp at h
def cell64 (x : UInt64) : Value := .int .u64 (x.toNat : Int)
theorem run_equalIn_u64 {P : Program} (w : World) (d : Nat) (t e : TypeId) (n : Nat) (ht : P.underlying t = some (.array n e)) (he : P.underlying e = some (.int .u64)) (hsz : ∀ w, (sizeOf e).run P w = .ok 1 w)
    (xs ys : List UInt64) (hx : xs.length = n) (hy : ys.length = n) :
    (Op.equalIn (d + 2) t (.agg (xs.map cell64).toArray) (.agg (ys.map cell64).toArray)).run P w = .ok (xs == ys) w := by
  rw [← all_range_eq64 xs ys (hx.trans hy.symm), hx, List.range_eq_range', Op.equalIn]
  simp only [Sem.run_bind, run_underlying ht, Result.andThen_ok, hsz, Std.Legacy.Range.forIn_eq_forIn_range', Std.Legacy.Range.size, Nat.sub_zero, Nat.add_sub_cancel, Nat.div_one]
  have hl : ∀ i ∈ List.range' 0 n 1, i < n := fun i hi => by simpa using (List.mem_range'_1.1 hi).2
  generalize List.range' 0 n 1 = l at hl ⊢
  induction l with
  | nil => simp
  | cons i l ih =>
    have hi : i < n := hl i (by simp)
    have px : (Go.part e (xs.map cell64).toArray (i * 1)).run P w = .ok (cell64 (xs.getD i 0)) w := by
      simp [Go.part, isAgg, run_underlying he, List.getD, List.getElem?_eq_getElem (show i < xs.length by omega)]
    have py : (Go.part e (ys.map cell64).toArray (i * 1)).run P w = .ok (cell64 (ys.getD i 0)) w := by
      simp [Go.part, isAgg, run_underlying he, List.getD, List.getElem?_eq_getElem (show i < ys.length by omega)]
    have pe : (Op.equalIn (d + 1) e (cell64 (xs.getD i 0)) (cell64 (ys.getD i 0))).run P w = .ok (xs.getD i 0 == ys.getD i 0) w := by
      rw [cell64, cell64, run_equalIn_int w d e .u64 .u64 _ _ he]
      congr 1
      rw [Bool.eq_iff_iff]
      simp [← UInt64.toNat_inj]
      omega
    simp only [List.forIn_cons, Sem.run_bind, px, py, pe, Result.andThen_ok, List.all_cons]
    cases hb : (xs.getD i 0 == ys.getD i 0)
    · simp
    · simp only [Bool.not_true, Bool.false_eq_true, if_false, Sem.run_pure, Result.andThen_ok, Bool.true_and]
      exact ih fun j hj => hl j (by simp [hj])
section
variable {P : Program} {N : Nat} {fr : Fr} {w : World} {ty t t' e : TypeId} {x y : Operand} {n : Nat}
theorem o_ueqT {xs : List UInt64} (hu : P.underlying t = some (.array n e)) (he : P.underlying e = some (.int .u64)) (hs : ∀ w, (sizeOf e).run P w = .ok 1 w) (hm : P.eqGuardType P.depth t = false)
    (hx : fr.ev x = some (.agg (vU xs).toArray)) (hy : fr.ev y = some (.agg (vU xs).toArray)) (h1 : xs.length = n) : OpV P N fr w (.binOp .eql t x y t') ty (.bool true) w := fun a ha o ho _ => by
  have hr := run_equalIn_u64 (P := P) w 9998 t e n hu he hs xs xs h1 h1
  have hg := run_eqGuard_agg (P := P) (w := w) .eql t x y (vU xs).toArray (vU xs).toArray hm
  have hr' : (binOp .eql t (.agg (vU xs).toArray) (.agg (vU xs).toArray)).run P w = .ok (.bool true) w := by
    have e : (xs == xs) = true := by simp
    rw [run_eql_struct, ← e]
    exact congrArg (fun r => Result.andThen r fun b w' => Result.ok (Value.bool b) w') hr
  simp [execOp, ho, ha.ev hx, ha.ev hy, hg, hr']
theorem o_beqT {xs : List UInt8} (hu : P.underlying t = some (.array n e)) (he : P.underlying e = some (.int .u8)) (hs : ∀ w, (sizeOf e).run P w = .ok 1 w) (hm : P.eqGuardType P.depth t = false)
    (hx : fr.ev x = some (.agg (B8 xs).toArray)) (hy : fr.ev y = some (.agg (B8 xs).toArray)) (h1 : xs.length = n) : OpV P N fr w (.binOp .eql t x y t') ty (.bool true) w := by
  have := o_aeq (P := P) (N := N) (w := w) (ty := ty) (t' := t') hu he hs hm hx hy h1 h1
  rwa [decide_eq_true rfl] at this
theorem o_bneF {xs : List UInt8} (hu : P.underlying t = some (.array n e)) (he : P.underlying e = some (.int .u8)) (hs : ∀ w, (sizeOf e).run P w = .ok 1 w) (hm : P.eqGuardType P.depth t = false)
    (hx : fr.ev x = some (.agg (B8 xs).toArray)) (hy : fr.ev y = some (.agg (B8 xs).toArray)) (h1 : xs.length = n) : OpV P N fr w (.binOp .neq t x y t') ty (.bool false) w := by
  have := o_ane (P := P) (N := N) (w := w) (ty := ty) (t' := t') hu he hs hm hx hy h1 h1
  rwa [decide_eq_false (fun h => h rfl)] at this
end
theorem Try.eg64 : Try.prog.eqGuardType Try.prog.depth 37 = false := by kernel_rfl
theorem Try.egD : Try.prog.eqGuardType Try.prog.depth 43 = false := by kernel_rfl
theorem Try.eg8 : Try.prog.eqGuardType Try.prog.depth 28 = false := by kernel_rfl
theorem Try.eg80 : Try.prog.eqGuardType Try.prog.depth 26 = false := by kernel_rfl
section
variable {N : Nat} {fr : Fr} {w : World} {ty t' : TypeId} {x y : Operand}
--@ rule binOp p o_eq64T
theorem o_eq64T {xs : List UInt8} (hx : fr.ev x = some (.agg (B8 xs).toArray)) (hy : fr.ev y = some (.agg (B8 xs).toArray)) (h1 : xs.length = 64) : OpV Try.prog N fr w (.binOp .eql 37 x y t') ty (.bool true) w :=
  o_beqT Try.underlying37 Try.underlying5 Try.sizeOf5 Try.eg64 hx hy h1
--@ rule binOp p o_ne64F
theorem o_ne64F {xs : List UInt8} (hx : fr.ev x = some (.agg (B8 xs).toArray)) (hy : fr.ev y = some (.agg (B8 xs).toArray)) (h1 : xs.length = 64) : OpV Try.prog N fr w (.binOp .neq 37 x y t') ty (.bool false) w :=
  o_bneF Try.underlying37 Try.underlying5 Try.sizeOf5 Try.eg64 hx hy h1
--@ rule binOp p o_eqDT
theorem o_eqDT {xs : List UInt8} (hx : fr.ev x = some (.agg (B8 xs).toArray)) (hy : fr.ev y = some (.agg (B8 xs).toArray)) (h1 : xs.length = 32) : OpV Try.prog N fr w (.binOp .eql 43 x y t') ty (.bool true) w :=
  o_beqT Try.underlying43 Try.underlying5 Try.sizeOf5 Try.egD hx hy h1
--@ rule binOp p o_neDF
theorem o_neDF {xs : List UInt8} (hx : fr.ev x = some (.agg (B8 xs).toArray)) (hy : fr.ev y = some (.agg (B8 xs).toArray)) (h1 : xs.length = 32) : OpV Try.prog N fr w (.binOp .neq 43 x y t') ty (.bool false) w :=
  o_bneF Try.underlying43 Try.underlying5 Try.sizeOf5 Try.egD hx hy h1
--@ rule binOp p o_eq8T
theorem o_eq8T {xs : List UInt64} (hx : fr.ev x = some (.agg (vU xs).toArray)) (hy : fr.ev y = some (.agg (vU xs).toArray)) (h1 : xs.length = 8) : OpV Try.prog N fr w (.binOp .eql 28 x y t') ty (.bool true) w :=
  o_ueqT Try.underlying28 Try.underlying25 Try.sizeOf25 Try.eg8 hx hy h1
--@ rule binOp p o_eq80T
theorem o_eq80T {xs : List UInt64} (hx : fr.ev x = some (.agg (vU xs).toArray)) (hy : fr.ev y = some (.agg (vU xs).toArray)) (h1 : xs.length = 80) : OpV Try.prog N fr w (.binOp .eql 26 x y t') ty (.bool true) w :=
  o_ueqT Try.underlying26 Try.underlying25 Try.sizeOf25 Try.eg80 hx hy h1
end
section
variable {fn : Func} {F : Ending → World → Prop} {N : Nat} {ks : List K} {ops : Array Oper} {tg : Tags} {l : List Oper} {fr : Fr} {w : World} {ty : TypeId} {pos : String} {aft : Array Edge} {gd : Option (Nat × Bool)} {d : Nat}
--@ rule buildSlice l wl_litKr1
theorem wl_litKr1 {ps : Array (Nat × Operand)} {xs : List Operand} {A1 : Option Addr} {n1 c1 : Nat} {p1 : By} (hxs : ps.toList.map Prod.snd = xs) (hx : fr.evs xs = some [.slice A1 n1 c1]) (h1 : Rd w A1 p1) (hn1 : n1 = p1.length) (hc1 : p1.length ≤ c1) (hm1 : c1 ≤ 9223372036854775807) (hps : ps = ((List.range' 0 1).zip xs).toArray)
    (hk : ∀ A w', RKy w' A [p1] → Below w.heap.size w w' → WL Try.prog fn F N ks ops tg.tail l ((d, .slice A 1 1) :: fr) w')
    (ht : tg.loud = true := by rfl) (hg : onG ops fr gd = true := by rfl) (hd : Nat.blt d N = true := by rfl) : WL Try.prog fn F N ks ops tg (⟨some d, .buildSlice 50 1 ps, ty, pos, aft, gd⟩ :: l) fr w := by
  subst hn1
  refine wl_litRS (X := gBytes) (L := [p1]) Try.rowKey Try.sizeOf39 Try.zeroValue39 hxs hps hx rfl rfl (fun i h => ?_) rfl hk ht hg hd
  obtain rfl : i = 0 := by simp at h; omega
  exact ⟨_, rfl, rfl, A1, c1, rfl, h1, hc1, by simp only [maxLen]; omega⟩
--@ rule buildSlice l wl_litKr2
theorem wl_litKr2 {ps : Array (Nat × Operand)} {xs : List Operand} {A1 A2 : Option Addr} {n1 c1 n2 c2 : Nat} {p1 p2 : By} (hxs : ps.toList.map Prod.snd = xs) (hx : fr.evs xs = some [.slice A1 n1 c1, .slice A2 n2 c2]) (h1 : Rd w A1 p1) (h2 : Rd w A2 p2) (hn1 : n1 = p1.length) (hn2 : n2 = p2.length) (hc1 : p1.length ≤ c1) (hc2 : p2.length ≤ c2) (hm1 : c1 ≤ 9223372036854775807) (hm2 : c2 ≤ 9223372036854775807) (hps : ps = ((List.range' 0 2).zip xs).toArray)
    (hk : ∀ A w', RKy w' A [p1, p2] → Below w.heap.size w w' → WL Try.prog fn F N ks ops tg.tail l ((d, .slice A 2 2) :: fr) w')
    (ht : tg.loud = true := by rfl) (hg : onG ops fr gd = true := by rfl) (hd : Nat.blt d N = true := by rfl) : WL Try.prog fn F N ks ops tg (⟨some d, .buildSlice 50 2 ps, ty, pos, aft, gd⟩ :: l) fr w := by
  subst hn1; subst hn2
  refine wl_litRS (X := gBytes) (L := [p1, p2]) Try.rowKey Try.sizeOf39 Try.zeroValue39 hxs hps hx rfl rfl (fun i h => ?_) rfl hk ht hg hd
  rcases i with _ | _ | i
  · exact ⟨_, rfl, rfl, A1, c1, rfl, h1, hc1, by simp only [maxLen]; omega⟩
  · exact ⟨_, rfl, rfl, A2, c2, rfl, h2, hc2, by simp only [maxLen]; omega⟩
  · simp at h; omega
--@ rule buildSlice l wl_litKr3
theorem wl_litKr3 {ps : Array (Nat × Operand)} {xs : List Operand} {A1 A2 A3 : Option Addr} {n1 c1 n2 c2 n3 c3 : Nat} {p1 p2 p3 : By} (hxs : ps.toList.map Prod.snd = xs) (hx : fr.evs xs = some [.slice A1 n1 c1, .slice A2 n2 c2, .slice A3 n3 c3]) (h1 : Rd w A1 p1) (h2 : Rd w A2 p2) (h3 : Rd w A3 p3) (hn1 : n1 = p1.length) (hn2 : n2 = p2.length) (hn3 : n3 = p3.length) (hc1 : p1.length ≤ c1) (hc2 : p2.length ≤ c2) (hc3 : p3.length ≤ c3) (hm1 : c1 ≤ 9223372036854775807) (hm2 : c2 ≤ 9223372036854775807) (hm3 : c3 ≤ 9223372036854775807) (hps : ps = ((List.range' 0 3).zip xs).toArray)
    (hk : ∀ A w', RKy w' A [p1, p2, p3] → Below w.heap.size w w' → WL Try.prog fn F N ks ops tg.tail l ((d, .slice A 3 3) :: fr) w')
    (ht : tg.loud = true := by rfl) (hg : onG ops fr gd = true := by rfl) (hd : Nat.blt d N = true := by rfl) : WL Try.prog fn F N ks ops tg (⟨some d, .buildSlice 50 3 ps, ty, pos, aft, gd⟩ :: l) fr w := by
  subst hn1; subst hn2; subst hn3
  refine wl_litRS (X := gBytes) (L := [p1, p2, p3]) Try.rowKey Try.sizeOf39 Try.zeroValue39 hxs hps hx rfl rfl (fun i h => ?_) rfl hk ht hg hd
  rcases i with _ | _ | _ | i
  · exact ⟨_, rfl, rfl, A1, c1, rfl, h1, hc1, by simp only [maxLen]; omega⟩
  · exact ⟨_, rfl, rfl, A2, c2, rfl, h2, hc2, by simp only [maxLen]; omega⟩
  · exact ⟨_, rfl, rfl, A3, c3, rfl, h3, hc3, by simp only [maxLen]; omega⟩
  · simp at h; omega
end
set_option maxRecDepth 100000 in
set_option maxHeartbeats 2000000 in
theorem C_ShaCalls (w : World) (A : Option Addr) (c : Nat) (a : By) (hA : Rd w A a) (hac : a.length ≤ c) (hcm : c ≤ maxLen) (B : Option Addr) (d : Nat) (b : By) (hB : Rd w B b) (hbd : b.length ≤ d) (hdm : d ≤ maxLen) (s : List UInt64) (hs : s.length = 8) (p : By) (hp : p.length = 128) :
    CallsR Try.prog 6 [.slice A a.length c, .slice B b.length d, .agg (vU s).toArray, .agg (B8 p).toArray] w fun v w' => v = .bool true ∧ Below w.heap.size w w' := by
  simp only [maxLen] at hcm hdm
  obtain ⟨r1, h1⟩ : ∃ r1, bytesU (runU Sl (padU ([a, b] : List By).flatten)) = r1 := ⟨_, rfl⟩
  obtain ⟨r2, h2⟩ : ∃ r2, (bytesU (runU Ul (padU ([a] : List By).flatten))).take 32 = r2 := ⟨_, rfl⟩
  obtain ⟨p1, hp1⟩ : ∃ p1, padU b = p1 := ⟨_, rfl⟩
  obtain ⟨q1, hq1⟩ : ∃ q1, pieceU s p = q1 := ⟨_, rfl⟩
  obtain ⟨kl, hkl⟩ : ∃ kl, Kl = kl := ⟨_, rfl⟩
  obtain ⟨ul, hul⟩ : ∃ ul, Ul = ul := ⟨_, rfl⟩
  have hr1 : r1.length = 64 := by rw [← h1, bytesU_len]
  have hr2 : r2.length = 32 := by rw [← h2, List.length_take, bytesU_len]; rfl
  have hq8 : q1.length = 8 := by rw [← hq1]; exact pieceU_len p hs
  have hu8 : ul.length = 8 := by rw [← hul]; exact Ul_len
  have hK80 : kl.length = 80 := by rw [← hkl]; rfl
  have hS8 : Sl.length = 8 := Sl_len
  refine callsR Try.func6 rfl rfl (by kernel_rfl) rfl ?_
  have hw := Below.refl w.heap.size w
  refine rk_seq ?_
  refine rk_region ?_
  refine wl_boxg _ rfl (by rfl) ?_
  rintro g6 w6 f6 b6 i6 i6_1
  have s6 := b6.size
  replace hw := hw.trans (b6.mono hw.size)
  refine wl_boxg _ rfl (by rfl) ?_
  rintro g7 w7 f7 b7 i7 i7_1
  have s7 := b7.size
  replace hw := hw.trans (b7.mono hw.size)
  replace f6 := f6.u b7
  refine wl_p (fun _ => o_assign rfl) ?_
  refine wl_nil ?_
  refine rk_seq ?_
  refine rk_seq ?_
  refine rk_region ?_
  refine wl_call rfl (C_lives02 _) ?_
  rintro v9 w9 ⟨rfl, b9⟩
  have s9 := b9.size
  replace hw := hw.trans (b9.mono hw.size)
  replace f6 := f6.u b9
  replace f7 := f7.u b9
  refine wl_p (fun _ => o_not rfl) ?_
  refine wl_nil ?_
  refine rk_false rfl ?_
  refine rk_skip ?_
  refine rk_seq ?_
  refine rk_seq ?_
  refine rk_region ?_
  refine wl_p (fun _ => o_move rfl) ?_
  refine wl_p (fun _ => o_len (t := 39) Try.underlying39 rfl) ?_
  refine wl_p (fun _ => o_gt rfl rfl) ?_
  refine wl_p (fun _ => o_move rfl) ?_
  refine wl_bool 14 rfl (fun h14 => ?_) (fun h14 => ?_) <;> try simp only [decide_eq_true_eq, decide_eq_false_iff_not, Bool.not_eq_true', Bool.not_eq_false', Bool.and_eq_true, Bool.and_eq_false_iff, Bool.or_eq_true, Bool.or_eq_false_iff] at h14
  · refine wl_off ?_
    refine wl_off ?_
    refine wl_off ?_
    refine wl_p (fun _ => o_pick_t rfl rfl) ?_
    refine wl_nil ?_
    refine rk_true rfl ?_
    refine rk_seq ?_
    refine rk_region ?_
    refine wl_p (fun _ => o_assign rfl) ?_
    refine wl_nil ?_
    refine ret1 rfl rfl ?_
    exact ⟨rfl, hw⟩
  · have hal : a.length ≤ 2000 := by omega
    refine wl_p (fun _ => o_move rfl) ?_
    refine wl_p (fun _ => o_len (t := 39) Try.underlying39 rfl) ?_
    refine wl_p (fun _ => o_gt rfl rfl) ?_
    refine wl_p (fun _ => o_pick_f rfl rfl) ?_
    refine wl_nil ?_
    refine rk_if rfl (fun h18 => ?_) (fun h18 => ?_)
    · refine rk_seq ?_
      refine rk_region ?_
      refine wl_p (fun _ => o_assign rfl) ?_
      refine wl_nil ?_
      refine ret1 rfl rfl ?_
      exact ⟨rfl, hw⟩
    · have hbl : b.length ≤ 2000 := by omega
      have hp1l : p1.length ≤ 3000 := by rw [← hp1, padU_len]; have := zeros_lt b.length; omega
      have hn2 : ∀ x ∈ ([a, b] : List By), x.length ≤ 4000 := fun x hx => by
        rcases List.mem_cons.1 hx with h | h
        · subst h; omega
        · rw [List.mem_singleton] at h; subst h; omega
      have hn1 : ∀ x ∈ ([a] : List By), x.length ≤ 4000 := fun x hx => by
        rw [List.mem_singleton] at hx; subst hx; omega
      refine rk_skip ?_
      refine rk_seq ?_
      refine rk_drawo (id := 5) (none) [0, 1, 0, 6, 10, 24, 0, 0, 192, 288, 544, 1536, 2048, 6144, 10240, 26624, 2048, 67584, 165888, 296960, 526336, 1310720, 2097152, 6291456, 10485760, 18874368, 2097152, 85983232, 136314880, 304087040, 538968064, 1207959552, 2147483648, 2147483648, 15032385536, 2147483648, 2147483648, 122406567936, 156766306304, 277025390592, 687194767360, 1099511627776, 3298534883328, 7696581394432, 9895604649984, 21990232555520, 35184372088832, 105553116266496, 246290604621824, 316659348799488, 703687441776640, 1125899906842624, 3377699720527872, 7881299347898368, 10133099161583616, 36028797018963967] [0, 1, 0, 7, 15, 31, 0, 0, 192, 511, 1023, 2047, 4095, 8191, 16383, 32767, 4095, 69631, 262143, 524287, 1048575, 2097151, 4194303, 8388607, 16777215, 33554431, 4194303, 100663295, 234881023, 536870911, 1073741823, 2147483647, 4294967295, 4294967295, 17179869183, 4294967295, 4294967295, 137438953471, 274877906943, 549755813887, 1099511627775, 2199023255551, 4398046511103, 8796093022207, 17592186044415, 35184372088831, 70368744177663, 140737488355327, 281474976710655, 562949953421311, 1125899906842623, 2251799813685247, 4503599627370495, 9007199254740991, 18014398509481983, 36028797018963967] 6973257522012986 17314086912 [0, 2, 6, 7] [(.p, 0), (.p, 2), (.p, 6), (.p, 7), (.f 197 6973257522012986 17314086912, 52)] (by kernel_rfl) (by kernel_rfl) (by kernel_rfl) (by kernel_rfl) (by kernel_rfl) ?_
      dsimp only [inOrder, nthOp]
      replace hw := hw.drew
      replace f7 := f7.d
      replace f6 := f6.d
      refine wl_p (fun _ => o_move rfl) ?_
      refine wl_p (fun _ => o_move rfl) ?_
      refine wl_p (fun _ => o_move rfl) ?_
      refine wl_p (fun _ => o_move rfl) ?_
      refine wl_forkf (m := 197) (L := 6973257522012986) (C := 17314086912) (n := 52) (k1 := 1) (k2 := 8) (fun fb fr w' => ∃ A27, fr = [(24, .agg (B8 r1).toArray), (27, .slice A27 2 2)] ++ fb ∧ RKy w' A27 [a, b] ∧ Blk w' g6 28 (vU s) ∧ Blk w' g7 41 (B8 p) ∧ Below w.heap.size w w') [0, 1, 0, 6, 10, 24, 0, 0, 192, 288, 544, 1536, 2048, 6144, 10240, 26624, 2048, 67584, 165888, 296960, 526336, 1310720, 2097152, 6291456, 10485760, 18874368, 2097152, 85983232, 136314880, 304087040, 538968064, 1207959552, 2147483648, 2147483648, 15032385536, 2147483648, 2147483648, 122406567936, 156766306304, 277025390592, 687194767360, 1099511627776, 3298534883328, 7696581394432, 9895604649984, 21990232555520, 35184372088832, 105553116266496, 246290604621824, 316659348799488, 703687441776640, 1125899906842624, 3377699720527872, 7881299347898368, 10133099161583616, 36028797018963967] [0, 1, 0, 7, 15, 31, 0, 0, 192, 511, 1023, 2047, 4095, 8191, 16383, 32767, 4095, 69631, 262143, 524287, 1048575, 2097151, 4194303, 8388607, 16777215, 33554431, 4194303, 100663295, 234881023, 536870911, 1073741823, 2147483647, 4294967295, 4294967295, 17179869183, 4294967295, 4294967295, 137438953471, 274877906943, 549755813887, 1099511627775, 2199023255551, 4398046511103, 8796093022207, 17592186044415, 35184372088831, 70368744177663, 140737488355327, 281474976710655, 562949953421311, 1125899906842623, 2251799813685247, 4503599627370495, 9007199254740991, 18014398509481983, 36028797018963967] [1] [8, 1, 3, 4, 5, 9, 10, 11, 12, 16] [9, 10, 11, 12, 16] [(.f 199 6973257522012986 17314086912, 51)] [(.l, 1), (.l, 3), (.l, 4), (.l, 5), (.l, 9), (.p, 10), (.p, 11), (.p, 12), (.p, 16), (.f 73727 6973257522012986 17314086912, 42)] [(.l, 9), (.p, 10), (.p, 11), (.p, 12), (.p, 16), (.f 73727 6973257522012986 17314086912, 42)] (by kernel_rfl) (by kernel_rfl) (by kernel_rfl) (by kernel_rfl) (by kernel_rfl) ?_ (fun hj => ?_) (fun hj => ?_) <;> dsimp only [inOrder, nthOp]
      · clear hw f6 f7
        rintro fr w' ⟨A27, rfl, f27, f6, f7, hw⟩
        have shw := hw.size
        first | refine rk_frame (by simp only [List.cons_append, List.nil_append, List.drop_succ_cons, List.drop_zero]; rfl) ?_ | refine wl_frame (by simp only [List.cons_append, List.nil_append, List.drop_succ_cons, List.drop_zero]; rfl) ?_
        refine wl_call rfl (C_refSum512 _ f27 h1 (by rfl) (by simp) (by omega)) ?_
        rintro v28 w28 ⟨rfl, b28⟩
        have s28 := b28.size
        replace hw := hw.trans (b28.mono hw.size)
        replace f7 := f7.u b28
        replace f6 := f6.u b28
        replace f27 := f27.u b28
        refine wl_p (fun _ => (o_eq64T rfl rfl (by omega))) ?_
        refine wl_p (fun _ => o_move rfl) ?_
        refine wl_p (fun _ => o_move rfl) ?_
        refine wl_p (fun _ => o_move rfl) ?_
        refine wl_forkf (m := 73727) (L := 6973257522012986) (C := 17314086912) (n := 42) (k1 := 13) (k2 := 17) (fun fb fr w2 => ∃ A36, fr = [(34, .agg (B8 r2).toArray), (36, .slice A36 1 1)] ++ fb ∧ RKy w2 A36 [a] ∧ Blk w2 g6 28 (vU s) ∧ Blk w2 g7 41 (B8 p) ∧ Below w.heap.size w w2) [0, 1, 0, 6, 10, 24, 0, 0, 192, 288, 544, 1536, 2048, 6144, 10240, 26624, 2048, 67584, 165888, 296960, 526336, 1310720, 2097152, 6291456, 10485760, 18874368, 2097152, 85983232, 136314880, 304087040, 538968064, 1207959552, 2147483648, 2147483648, 15032385536, 2147483648, 2147483648, 122406567936, 156766306304, 277025390592, 687194767360, 1099511627776, 3298534883328, 7696581394432, 9895604649984, 21990232555520, 35184372088832, 105553116266496, 246290604621824, 316659348799488, 703687441776640, 1125899906842624, 3377699720527872, 7881299347898368, 10133099161583616, 36028797018963967] [0, 1, 0, 7, 15, 31, 0, 0, 192, 511, 1023, 2047, 4095, 8191, 16383, 32767, 4095, 69631, 262143, 524287, 1048575, 2097151, 4194303, 8388607, 16777215, 33554431, 4194303, 100663295, 234881023, 536870911, 1073741823, 2147483647, 4294967295, 4294967295, 17179869183, 4294967295, 4294967295, 137438953471, 274877906943, 549755813887, 1099511627775, 2199023255551, 4398046511103, 8796093022207, 17592186044415, 35184372088831, 70368744177663, 140737488355327, 281474976710655, 562949953421311, 1125899906842623, 2251799813685247, 4503599627370495, 9007199254740991, 18014398509481983, 36028797018963967] [13] [17, 13, 14, 15, 18, 19, 20, 21, 22, 26, 23, 24, 25, 27, 28, 29, 30, 31, 32, 33, 35, 36, 34, 37, 38, 39, 40, 41, 42, 43, 44, 45, 46, 47, 48, 49, 50, 51, 52, 53, 54, 55] [18, 19, 20, 21, 22, 26, 23, 24, 25, 27, 28, 29, 30, 31, 32, 33, 35, 36, 34, 37, 38, 39, 40, 41, 42, 43, 44, 45, 46, 47, 48, 49, 50, 51, 52, 53, 54, 55] [(.f 81919 6973257522012986 17314086912, 41)] [(.l, 13), (.l, 14), (.l, 15), (.l, 18), (.p, 19), (.p, 20), (.p, 21), (.p, 22), (.p, 26), (.l, 23), (.l, 24), (.s, 25), (.c, 27), (.r, 28), (.p, 29), (.p, 30), (.p, 31), (.r, 32), (.r, 33), (.s, 35), (.s, 36), (.c, 34), (.l, 37), (.p, 38), (.p, 39), (.p, 40), (.l, 41), (.l, 42), (.p, 43), (.p, 44), (.p, 45), (.l, 46), (.l, 47), (.p, 48), (.p, 49), (.p, 50), (.l, 51), (.l, 52), (.p, 53), (.p, 54), (.p, 55)] [(.l, 18), (.p, 19), (.p, 20), (.p, 21), (.p, 22), (.p, 26), (.l, 23), (.l, 24), (.s, 25), (.c, 27), (.r, 28), (.p, 29), (.p, 30), (.p, 31), (.r, 32), (.r, 33), (.s, 35), (.s, 36), (.c, 34), (.l, 37), (.p, 38), (.p, 39), (.p, 40), (.l, 41), (.l, 42), (.p, 43), (.p, 44), (.p, 45), (.l, 46), (.l, 47), (.p, 48), (.p, 49), (.p, 50), (.l, 51), (.l, 52), (.p, 53), (.p, 54), (.p, 55)] (by kernel_rfl) (by kernel_rfl) (by kernel_rfl) (by kernel_rfl) (by kernel_rfl) ?_ (fun hj => ?_) (fun hj => ?_) <;> dsimp only [inOrder, nthOp]
        · clear hw f6 f7
          rintro fr w2 ⟨A36, rfl, f36, f6, f7, hw⟩
          have shw2 := hw.size
          first | refine rk_frame (by simp only [List.cons_append, List.nil_append, List.drop_succ_cons, List.drop_zero]; rfl) ?_ | refine wl_frame (by simp only [List.cons_append, List.nil_append, List.drop_succ_cons, List.drop_zero]; rfl) ?_
          refine wl_call rfl (C_refSum _ f36 h2 (by rfl) (by simp) (by omega)) ?_
          rintro v37 w37 ⟨rfl, b37⟩
          have s37 := b37.size
          replace hw := hw.trans (b37.mono hw.size)
          replace f7 := f7.u b37
          replace f6 := f6.u b37
          replace f36 := f36.u b37
          refine wl_p (fun _ => (o_eqDT rfl rfl (by omega))) ?_
          refine wl_p (fun _ => o_pick_t rfl rfl) ?_
          refine wl_p (fun _ => o_move rfl) ?_
          refine wl_p (fun _ => o_move rfl) ?_
          refine wl_p (fun _ => o_move rfl) ?_
          refine wl_call rfl (C_Own _ (hB.u hw) rfl (by omega)) ?_
          rintro v42 w42 ⟨A42, ⟨c42, ⟨rfl, ⟨f42, ⟨i42, b42⟩⟩⟩⟩⟩
          have qf42 := f42.cap
          have s42 := b42.size
          replace hw := hw.trans (b42.mono hw.size)
          replace f36 := f36.u b42
          replace f6 := f6.u b42
          replace f7 := f7.u b42
          refine wl_call rfl (C_Pad _ f42.to_RdT hp1 rfl (by omega) (by omega) (by omega)) ?_
          rintro v43 w43 ⟨A43, ⟨c43, ⟨rfl, ⟨f43, b43⟩⟩⟩⟩
          have qf43 := f43.cap
          have s43 := b43.size
          replace hw := hw.trans (b43.mono hw.size)
          replace f7 := f7.u b43
          replace f6 := f6.u b43
          replace f36 := f36.u b43
          replace f42 := f42.u b43
          refine wl_s (fun _ hk => (o_strU Try.underlying39 Try.underlying5 Try.underlying9 rfl f43.to_Rd (below_of_grown_none hk) rfl)) ?_
          refine wl_call rfl (C_refPad _ (hB.u hw) hp1 rfl (by omega)) ?_ (hq := .inr fun _ _ h => grown_of_below h.choose_spec.choose_spec.2.2 _)
          rintro v46 w46 ⟨A46, ⟨c46, ⟨rfl, ⟨f46, b46⟩⟩⟩⟩
          have qf46 := f46.cap
          have s46 := b46.size
          replace hw := hw.trans (b46.mono hw.size)
          replace f42 := f42.u b46
          replace f36 := f36.u b46
          replace f6 := f6.u b46
          replace f7 := f7.u b46
          replace f43 := f43.u b46
          refine wl_r (o_strU Try.underlying39 Try.underlying5 Try.underlying9 rfl f46.to_Rd (Below.refl _ _) rfl) ?_
          refine wl_p (fun _ => o_seq rfl rfl) ?_
          refine wl_p (fun _ => o_pick_t rfl rfl) ?_
          refine wl_p (fun _ => o_move rfl) ?_
          refine wl_know 50 true rfl (by simp) ?_
          refine wl_r (o_ldUa Try.isAgg28 Try.sizeOf28 rfl f6 (by omega)) ?_
          refine wl_r (o_ldBa Try.isAgg41 Try.sizeOf41 rfl f7 (by omega)) ?_
          refine wl_s (fun _ hk => (o_ldUa Try.isAgg28 Try.sizeOf28 rfl (f6.u (below_of_grown_none hk)) hs)) ?_
          refine wl_s (fun _ hk => (o_ldBa Try.isAgg41 Try.sizeOf41 rfl (f7.u (below_of_grown_none hk)) hp)) ?_
          refine wl_call rfl (C_Piece _ hq1 (by omega) (by omega)) ?_ (hq := .inr fun _ _ h => grown_of_below h.2 _)
          rintro v53 w53 ⟨rfl, b53⟩
          have s53 := b53.size
          replace hw := hw.trans (b53.mono hw.size)
          replace f43 := f43.u b53
          replace f7 := f7.u b53
          replace f6 := f6.u b53
          replace f36 := f36.u b53
          replace f42 := f42.u b53
          replace f46 := f46.u b53
          refine wl_call rfl (C_refPiece _ hq1 (by omega) (by omega)) ?_
          rintro v56 w56 ⟨rfl, b56⟩
          have s56 := b56.size
          replace hw := hw.trans (b56.mono hw.size)
          replace f46 := f46.u b56
          replace f42 := f42.u b56
          replace f36 := f36.u b56
          replace f6 := f6.u b56
          replace f7 := f7.u b56
          replace f43 := f43.u b56
          refine wl_p (fun _ => (o_eq8T rfl rfl (by omega))) ?_
          refine wl_p (fun _ => o_pick_t rfl rfl) ?_
          refine wl_p (fun _ => o_move rfl) ?_
          refine wl_call rfl (C_K _) ?_
          rintro v60 w60 ⟨rfl, b60⟩
          have s60 := b60.size
          replace hw := hw.trans (b60.mono hw.size)
          replace f43 := f43.u b60
          replace f7 := f7.u b60
          replace f6 := f6.u b60
          replace f36 := f36.u b60
          replace f42 := f42.u b60
          replace f46 := f46.u b60
          refine wl_call rfl (C_refK _ hkl) ?_
          rintro v61 w61 ⟨rfl, b61⟩
          have s61 := b61.size
          replace hw := hw.trans (b61.mono hw.size)
          replace f46 := f46.u b61
          replace f42 := f42.u b61
          replace f36 := f36.u b61
          replace f6 := f6.u b61
          replace f7 := f7.u b61
          replace f43 := f43.u b61
          rw [hkl]
          refine wl_p (fun _ => (o_eq80T rfl rfl (by omega))) ?_
          refine wl_p (fun _ => o_pick_t rfl rfl) ?_
          refine wl_p (fun _ => o_move rfl) ?_
          refine wl_call rfl (C_Start _) ?_
          rintro v65 w65 ⟨rfl, b65⟩
          have s65 := b65.size
          replace hw := hw.trans (b65.mono hw.size)
          replace f43 := f43.u b65
          replace f7 := f7.u b65
          replace f6 := f6.u b65
          replace f36 := f36.u b65
          replace f42 := f42.u b65
          replace f46 := f46.u b65
          refine wl_call rfl (C_refStart _) ?_
          rintro v66 w66 ⟨rfl, b66⟩
          have s66 := b66.size
          replace hw := hw.trans (b66.mono hw.size)
          replace f46 := f46.u b66
          replace f42 := f42.u b66
          replace f36 := f36.u b66
          replace f6 := f6.u b66
          replace f7 := f7.u b66
          replace f43 := f43.u b66
          refine wl_p (fun _ => (o_eq8T rfl rfl (by rfl))) ?_
          refine wl_p (fun _ => o_pick_t rfl rfl) ?_
          refine wl_p (fun _ => o_move rfl) ?_
          refine wl_call rfl (C_StartShort _ hul) ?_
          rintro v70 w70 ⟨rfl, b70⟩
          have s70 := b70.size
          replace hw := hw.trans (b70.mono hw.size)
          replace f43 := f43.u b70
          replace f7 := f7.u b70
          replace f6 := f6.u b70
          replace f36 := f36.u b70
          replace f42 := f42.u b70
          replace f46 := f46.u b70
          refine wl_call rfl (C_refStartShort _ hul) ?_
          rintro v71 w71 ⟨rfl, b71⟩
          have s71 := b71.size
          replace hw := hw.trans (b71.mono hw.size)
          replace f46 := f46.u b71
          replace f42 := f42.u b71
          replace f36 := f36.u b71
          replace f6 := f6.u b71
          replace f7 := f7.u b71
          replace f43 := f43.u b71
          refine wl_p (fun _ => (o_eq8T rfl rfl (by omega))) ?_
          refine wl_p (fun _ => o_pick_t rfl rfl) ?_
          refine wl_p (fun _ => o_assign rfl) ?_
          refine wl_nild ?_
          refine ret1 rfl rfl ?_
          exact ⟨rfl, hw⟩
        · refine wl_call rfl (C_Own _ (hA.u hw) rfl (by omega)) ?_
          rintro v32 w32 ⟨A32, ⟨c32, ⟨rfl, ⟨f32, ⟨i32, b32⟩⟩⟩⟩⟩
          have qf32 := f32.cap
          have s32 := b32.size
          replace hw := hw.trans (b32.mono hw.size)
          replace f27 := f27.u b32
          replace f6 := f6.u b32
          replace f7 := f7.u b32
          refine wl_fork2j (m := 81919) (L := 6973257522012986) (C := 17314086912) (n := 41) (k1 := 14) (k2 := 17) _ [0, 1, 0, 6, 10, 24, 0, 0, 192, 288, 544, 1536, 2048, 6144, 10240, 26624, 2048, 67584, 165888, 296960, 526336, 1310720, 2097152, 6291456, 10485760, 18874368, 2097152, 85983232, 136314880, 304087040, 538968064, 1207959552, 2147483648, 2147483648, 15032385536, 2147483648, 2147483648, 122406567936, 156766306304, 277025390592, 687194767360, 1099511627776, 3298534883328, 7696581394432, 9895604649984, 21990232555520, 35184372088832, 105553116266496, 246290604621824, 316659348799488, 703687441776640, 1125899906842624, 3377699720527872, 7881299347898368, 10133099161583616, 36028797018963967] [0, 1, 0, 7, 15, 31, 0, 0, 192, 511, 1023, 2047, 4095, 8191, 16383, 32767, 4095, 69631, 262143, 524287, 1048575, 2097151, 4194303, 8388607, 16777215, 33554431, 4194303, 100663295, 234881023, 536870911, 1073741823, 2147483647, 4294967295, 4294967295, 17179869183, 4294967295, 4294967295, 137438953471, 274877906943, 549755813887, 1099511627775, 2199023255551, 4398046511103, 8796093022207, 17592186044415, 35184372088831, 70368744177663, 140737488355327, 281474976710655, 562949953421311, 1125899906842623, 2251799813685247, 4503599627370495, 9007199254740991, 18014398509481983, 36028797018963967] [14] [17, 14, 15, 18, 19, 20, 21, 22, 26, 23, 24, 25, 27, 28, 29, 30, 31, 32, 33, 35, 36, 34, 37, 38, 39, 40, 41, 42, 43, 44, 45, 46, 47, 48, 49, 50, 51, 52, 53, 54, 55] [18, 19, 20, 21, 22, 26, 23, 24, 25, 27, 28, 29, 30, 31, 32, 33, 35, 36, 34, 37, 38, 39, 40, 41, 42, 43, 44, 45, 46, 47, 48, 49, 50, 51, 52, 53, 54, 55] [(.f 98303 6973257522012986 17314086912, 40)] [(.l, 14), (.l, 15), (.l, 18), (.p, 19), (.p, 20), (.p, 21), (.p, 22), (.p, 26), (.l, 23), (.l, 24), (.s, 25), (.c, 27), (.r, 28), (.p, 29), (.p, 30), (.p, 31), (.r, 32), (.r, 33), (.s, 35), (.s, 36), (.c, 34), (.l, 37), (.p, 38), (.p, 39), (.p, 40), (.l, 41), (.l, 42), (.p, 43), (.p, 44), (.p, 45), (.l, 46), (.l, 47), (.p, 48), (.p, 49), (.p, 50), (.l, 51), (.l, 52), (.p, 53), (.p, 54), (.p, 55)] [(.l, 18), (.p, 19), (.p, 20), (.p, 21), (.p, 22), (.p, 26), (.l, 23), (.l, 24), (.s, 25), (.c, 27), (.r, 28), (.p, 29), (.p, 30), (.p, 31), (.r, 32), (.r, 33), (.s, 35), (.s, 36), (.c, 34), (.l, 37), (.p, 38), (.p, 39), (.p, 40), (.l, 41), (.l, 42), (.p, 43), (.p, 44), (.p, 45), (.l, 46), (.l, 47), (.p, 48), (.p, 49), (.p, 50), (.l, 51), (.l, 52), (.p, 53), (.p, 54), (.p, 55)] (by kernel_rfl) (by kernel_rfl) (by kernel_rfl) (by kernel_rfl) (by kernel_rfl) hj (fun hj => ?_) (fun hj => ?_) <;> dsimp only [inOrder, nthOp]
          · refine wl_litK1 (by rfl) rfl f32.to_RdT rfl (by omega) (by omega) (by rfl) ?_
            rintro A33 w33 f33 b33
            have s33 := b33.size
            replace hw := hw.trans (b33.mono hw.size)
            replace f7 := f7.u b33
            replace f6 := f6.u b33
            replace f27 := f27.u b33
            replace f32 := f32.u b33
            refine wl_fork2j (m := 98303) (L := 6973257522012986) (C := 17314086912) (n := 40) (k1 := 15) (k2 := 17) _ [0, 1, 0, 6, 10, 24, 0, 0, 192, 288, 544, 1536, 2048, 6144, 10240, 26624, 2048, 67584, 165888, 296960, 526336, 1310720, 2097152, 6291456, 10485760, 18874368, 2097152, 85983232, 136314880, 304087040, 538968064, 1207959552, 2147483648, 2147483648, 15032385536, 2147483648, 2147483648, 122406567936, 156766306304, 277025390592, 687194767360, 1099511627776, 3298534883328, 7696581394432, 9895604649984, 21990232555520, 35184372088832, 105553116266496, 246290604621824, 316659348799488, 703687441776640, 1125899906842624, 3377699720527872, 7881299347898368, 10133099161583616, 36028797018963967] [0, 1, 0, 7, 15, 31, 0, 0, 192, 511, 1023, 2047, 4095, 8191, 16383, 32767, 4095, 69631, 262143, 524287, 1048575, 2097151, 4194303, 8388607, 16777215, 33554431, 4194303, 100663295, 234881023, 536870911, 1073741823, 2147483647, 4294967295, 4294967295, 17179869183, 4294967295, 4294967295, 137438953471, 274877906943, 549755813887, 1099511627775, 2199023255551, 4398046511103, 8796093022207, 17592186044415, 35184372088831, 70368744177663, 140737488355327, 281474976710655, 562949953421311, 1125899906842623, 2251799813685247, 4503599627370495, 9007199254740991, 18014398509481983, 36028797018963967] [15, 17, 18, 19, 20, 21, 22, 26, 23, 24, 25, 27, 28, 29, 30, 31, 32, 33, 35, 36, 34, 37, 38, 39, 40, 41, 42, 43, 44, 45, 46, 47, 48, 49, 50, 51, 52, 53, 54, 55] [17, 15, 18, 19, 20, 21, 22, 26, 23, 24, 25, 27, 28, 29, 30, 31, 32, 33, 35, 36, 34, 37, 38, 39, 40, 41, 42, 43, 44, 45, 46, 47, 48, 49, 50, 51, 52, 53, 54, 55] [18, 19, 20, 21, 22, 26, 23, 24, 25, 27, 28, 29, 30, 31, 32, 33, 35, 36, 34, 37, 38, 39, 40, 41, 42, 43, 44, 45, 46, 47, 48, 49, 50, 51, 52, 53, 54, 55] [(.l, 17), (.l, 18), (.p, 19), (.p, 20), (.p, 21), (.p, 22), (.p, 26), (.l, 23), (.l, 24), (.s, 25), (.c, 27), (.r, 28), (.p, 29), (.p, 30), (.p, 31), (.r, 32), (.r, 33), (.s, 35), (.s, 36), (.c, 34), (.l, 37), (.p, 38), (.p, 39), (.p, 40), (.l, 41), (.l, 42), (.p, 43), (.p, 44), (.p, 45), (.l, 46), (.l, 47), (.p, 48), (.p, 49), (.p, 50), (.l, 51), (.l, 52), (.p, 53), (.p, 54), (.p, 55)] [(.l, 15), (.l, 18), (.p, 19), (.p, 20), (.p, 21), (.p, 22), (.p, 26), (.l, 23), (.l, 24), (.s, 25), (.c, 27), (.r, 28), (.p, 29), (.p, 30), (.p, 31), (.r, 32), (.r, 33), (.s, 35), (.s, 36), (.c, 34), (.l, 37), (.p, 38), (.p, 39), (.p, 40), (.l, 41), (.l, 42), (.p, 43), (.p, 44), (.p, 45), (.l, 46), (.l, 47), (.p, 48), (.p, 49), (.p, 50), (.l, 51), (.l, 52), (.p, 53), (.p, 54), (.p, 55)] [(.l, 18), (.p, 19), (.p, 20), (.p, 21), (.p, 22), (.p, 26), (.l, 23), (.l, 24), (.s, 25), (.c, 27), (.r, 28), (.p, 29), (.p, 30), (.p, 31), (.r, 32), (.r, 33), (.s, 35), (.s, 36), (.c, 34), (.l, 37), (.p, 38), (.p, 39), (.p, 40), (.l, 41), (.l, 42), (.p, 43), (.p, 44), (.p, 45), (.l, 46), (.l, 47), (.p, 48), (.p, 49), (.p, 50), (.l, 51), (.l, 52), (.p, 53), (.p, 54), (.p, 55)] (by kernel_rfl) (by kernel_rfl) (by kernel_rfl) (by kernel_rfl) (by kernel_rfl) hj (fun hj => ?_) (fun hj => ?_) <;> dsimp only [inOrder, nthOp]
            · refine wl_call rfl (C_Sum _ f33 h2 (by rfl) (by simp) (by omega)) ?_
              rintro v34 w34 ⟨rfl, b34⟩
              have s34 := b34.size
              replace hw := hw.trans (b34.mono hw.size)
              replace f32 := f32.u b34
              replace f27 := f27.u b34
              replace f6 := f6.u b34
              replace f7 := f7.u b34
              replace f33 := f33.u b34
              refine wl_litKr1 (by rfl) rfl (hA.u hw) rfl (by omega) (by omega) (by rfl) ?_
              rintro A36 w36 f36 b36
              have s36 := b36.size
              replace hw := hw.trans (b36.mono hw.size)
              replace f33 := f33.u b36
              replace f7 := f7.u b36
              replace f6 := f6.u b36
              replace f27 := f27.u b36
              replace f32 := f32.u b36
              exact wl_tof hj (Fr.le_of (by kernel_rfl) (by kernel_rfl) (by repeat' constructor)) ⟨_, rfl, f36, f6, f7, hw⟩
            · refine wl_litKr1 (by rfl) rfl (hA.u hw) rfl (by omega) (by omega) (by rfl) ?_
              rintro A36 w36 f36 b36
              have s36 := b36.size
              replace hw := hw.trans (b36.mono hw.size)
              replace f32 := f32.u b36
              replace f27 := f27.u b36
              replace f6 := f6.u b36
              replace f7 := f7.u b36
              replace f33 := f33.u b36
              refine wl_call rfl (C_Sum _ f33 h2 (by rfl) (by simp) (by omega)) ?_
              rintro v34 w34 ⟨rfl, b34⟩
              have s34 := b34.size
              replace hw := hw.trans (b34.mono hw.size)
              replace f33 := f33.u b34
              replace f7 := f7.u b34
              replace f6 := f6.u b34
              replace f27 := f27.u b34
              replace f32 := f32.u b34
              replace f36 := f36.u b34
              exact wl_tof hj (Fr.le_of (by kernel_rfl) (by kernel_rfl) (by repeat' constructor)) ⟨_, rfl, f36, f6, f7, hw⟩
          · refine wl_litKr1 (by rfl) rfl (hA.u hw) rfl (by omega) (by omega) (by rfl) ?_
            rintro A36 w36 f36 b36
            have s36 := b36.size
            replace hw := hw.trans (b36.mono hw.size)
            replace f7 := f7.u b36
            replace f6 := f6.u b36
            replace f27 := f27.u b36
            replace f32 := f32.u b36
            refine wl_litK1 (by rfl) rfl f32.to_RdT rfl (by omega) (by omega) (by rfl) ?_
            rintro A33 w33 f33 b33
            have s33 := b33.size
            replace hw := hw.trans (b33.mono hw.size)
            replace f32 := f32.u b33
            replace f27 := f27.u b33
            replace f6 := f6.u b33
            replace f7 := f7.u b33
            replace f36 := f36.u b33
            refine wl_call rfl (C_Sum _ f33 h2 (by rfl) (by simp) (by omega)) ?_
            rintro v34 w34 ⟨rfl, b34⟩
            have s34 := b34.size
            replace hw := hw.trans (b34.mono hw.size)
            replace f36 := f36.u b34
            replace f7 := f7.u b34
            replace f6 := f6.u b34
            replace f27 := f27.u b34
            replace f32 := f32.u b34
            replace f33 := f33.u b34
            exact wl_tof hj (Fr.le_of (by kernel_rfl) (by kernel_rfl) (by repeat' constructor)) ⟨_, rfl, f36, f6, f7, hw⟩
        · refine wl_litKr1 (by rfl) rfl (hA.u hw) rfl (by omega) (by omega) (by rfl) ?_
          rintro A36 w36 f36 b36
          have s36 := b36.size
          replace hw := hw.trans (b36.mono hw.size)
          replace f27 := f27.u b36
          replace f6 := f6.u b36
          replace f7 := f7.u b36
          refine wl_call rfl (C_Own _ (hA.u hw) rfl (by omega)) ?_
          rintro v32 w32 ⟨A32, ⟨c32, ⟨rfl, ⟨f32, ⟨i32, b32⟩⟩⟩⟩⟩
          have qf32 := f32.cap
          have s32 := b32.size
          replace hw := hw.trans (b32.mono hw.size)
          replace f7 := f7.u b32
          replace f6 := f6.u b32
          replace f27 := f27.u b32
          replace f36 := f36.u b32
          refine wl_litK1 (by rfl) rfl f32.to_RdT rfl (by omega) (by omega) (by rfl) ?_
          rintro A33 w33 f33 b33
          have s33 := b33.size
          replace hw := hw.trans (b33.mono hw.size)
          replace f36 := f36.u b33
          replace f27 := f27.u b33
          replace f6 := f6.u b33
          replace f7 := f7.u b33
          replace f32 := f32.u b33
          refine wl_call rfl (C_Sum _ f33 h2 (by rfl) (by simp) (by omega)) ?_
          rintro v34 w34 ⟨rfl, b34⟩
          have s34 := b34.size
          replace hw := hw.trans (b34.mono hw.size)
          replace f32 := f32.u b34
          replace f7 := f7.u b34
          replace f6 := f6.u b34
          replace f27 := f27.u b34
          replace f36 := f36.u b34
          replace f33 := f33.u b34
          exact wl_tof hj (Fr.le_of (by kernel_rfl) (by kernel_rfl) (by repeat' constructor)) ⟨_, rfl, f36, f6, f7, hw⟩
      · refine wl_call rfl (C_Own _ (hA.u hw) rfl (by omega)) ?_
        rintro v20 w20 ⟨A20, ⟨c20, ⟨rfl, ⟨f20, ⟨i20, b20⟩⟩⟩⟩⟩
        simp only [drew_size] at f20
        simp only [drew_size] at b20
        have qf20 := f20.cap
        have s20 := b20.size
        simp only [drew_size] at s20
        replace hw := hw.trans (b20.mono hw.size)
        replace f6 := f6.u b20
        replace f7 := f7.u b20
        refine wl_fork2j (m := 199) (L := 6973257522012986) (C := 17314086912) (n := 51) (k1 := 3) (k2 := 8) _ [0, 1, 0, 6, 10, 24, 0, 0, 192, 288, 544, 1536, 2048, 6144, 10240, 26624, 2048, 67584, 165888, 296960, 526336, 1310720, 2097152, 6291456, 10485760, 18874368, 2097152, 85983232, 136314880, 304087040, 538968064, 1207959552, 2147483648, 2147483648, 15032385536, 2147483648, 2147483648, 122406567936, 156766306304, 277025390592, 687194767360, 1099511627776, 3298534883328, 7696581394432, 9895604649984, 21990232555520, 35184372088832, 105553116266496, 246290604621824, 316659348799488, 703687441776640, 1125899906842624, 3377699720527872, 7881299347898368, 10133099161583616, 36028797018963967] [0, 1, 0, 7, 15, 31, 0, 0, 192, 511, 1023, 2047, 4095, 8191, 16383, 32767, 4095, 69631, 262143, 524287, 1048575, 2097151, 4194303, 8388607, 16777215, 33554431, 4194303, 100663295, 234881023, 536870911, 1073741823, 2147483647, 4294967295, 4294967295, 17179869183, 4294967295, 4294967295, 137438953471, 274877906943, 549755813887, 1099511627775, 2199023255551, 4398046511103, 8796093022207, 17592186044415, 35184372088831, 70368744177663, 140737488355327, 281474976710655, 562949953421311, 1125899906842623, 2251799813685247, 4503599627370495, 9007199254740991, 18014398509481983, 36028797018963967] [3] [8, 3, 4, 5, 9, 10, 11, 12, 16] [9, 10, 11, 12, 16] [(.f 207 6973257522012986 17314086912, 50)] [(.l, 3), (.l, 4), (.l, 5), (.l, 9), (.p, 10), (.p, 11), (.p, 12), (.p, 16), (.f 73727 6973257522012986 17314086912, 42)] [(.l, 9), (.p, 10), (.p, 11), (.p, 12), (.p, 16), (.f 73727 6973257522012986 17314086912, 42)] (by kernel_rfl) (by kernel_rfl) (by kernel_rfl) (by kernel_rfl) (by kernel_rfl) hj (fun hj => ?_) (fun hj => ?_) <;> dsimp only [inOrder, nthOp]
        · refine wl_call rfl (C_Own _ (hB.u hw) rfl (by omega)) ?_
          rintro v22 w22 ⟨A22, ⟨c22, ⟨rfl, ⟨f22, ⟨i22, b22⟩⟩⟩⟩⟩
          have qf22 := f22.cap
          have s22 := b22.size
          replace hw := hw.trans (b22.mono hw.size)
          replace f7 := f7.u b22
          replace f6 := f6.u b22
          replace f20 := f20.u b22
          refine wl_fork2j (m := 207) (L := 6973257522012986) (C := 17314086912) (n := 50) (k1 := 4) (k2 := 8) _ [0, 1, 0, 6, 10, 24, 0, 0, 192, 288, 544, 1536, 2048, 6144, 10240, 26624, 2048, 67584, 165888, 296960, 526336, 1310720, 2097152, 6291456, 10485760, 18874368, 2097152, 85983232, 136314880, 304087040, 538968064, 1207959552, 2147483648, 2147483648, 15032385536, 2147483648, 2147483648, 122406567936, 156766306304, 277025390592, 687194767360, 1099511627776, 3298534883328, 7696581394432, 9895604649984, 21990232555520, 35184372088832, 105553116266496, 246290604621824, 316659348799488, 703687441776640, 1125899906842624, 3377699720527872, 7881299347898368, 10133099161583616, 36028797018963967] [0, 1, 0, 7, 15, 31, 0, 0, 192, 511, 1023, 2047, 4095, 8191, 16383, 32767, 4095, 69631, 262143, 524287, 1048575, 2097151, 4194303, 8388607, 16777215, 33554431, 4194303, 100663295, 234881023, 536870911, 1073741823, 2147483647, 4294967295, 4294967295, 17179869183, 4294967295, 4294967295, 137438953471, 274877906943, 549755813887, 1099511627775, 2199023255551, 4398046511103, 8796093022207, 17592186044415, 35184372088831, 70368744177663, 140737488355327, 281474976710655, 562949953421311, 1125899906842623, 2251799813685247, 4503599627370495, 9007199254740991, 18014398509481983, 36028797018963967] [4] [8, 4, 5, 9, 10, 11, 12, 16] [9, 10, 11, 12, 16] [(.f 223 6973257522012986 17314086912, 49)] [(.l, 4), (.l, 5), (.l, 9), (.p, 10), (.p, 11), (.p, 12), (.p, 16), (.f 73727 6973257522012986 17314086912, 42)] [(.l, 9), (.p, 10), (.p, 11), (.p, 12), (.p, 16), (.f 73727 6973257522012986 17314086912, 42)] (by kernel_rfl) (by kernel_rfl) (by kernel_rfl) (by kernel_rfl) (by kernel_rfl) hj (fun hj => ?_) (fun hj => ?_) <;> dsimp only [inOrder, nthOp]
          · refine wl_litKr2 (by rfl) rfl f20.to_Rd f22.to_Rd rfl rfl (by omega) (by omega) (by omega) (by omega) (by rfl) ?_
            rintro A23 w23 f23 b23
            have s23 := b23.size
            replace hw := hw.trans (b23.mono hw.size)
            replace f20 := f20.u b23
            replace f6 := f6.u b23
            replace f7 := f7.u b23
            replace f22 := f22.u b23
            refine wl_fork2j (m := 223) (L := 6973257522012986) (C := 17314086912) (n := 49) (k1 := 5) (k2 := 8) _ [0, 1, 0, 6, 10, 24, 0, 0, 192, 288, 544, 1536, 2048, 6144, 10240, 26624, 2048, 67584, 165888, 296960, 526336, 1310720, 2097152, 6291456, 10485760, 18874368, 2097152, 85983232, 136314880, 304087040, 538968064, 1207959552, 2147483648, 2147483648, 15032385536, 2147483648, 2147483648, 122406567936, 156766306304, 277025390592, 687194767360, 1099511627776, 3298534883328, 7696581394432, 9895604649984, 21990232555520, 35184372088832, 105553116266496, 246290604621824, 316659348799488, 703687441776640, 1125899906842624, 3377699720527872, 7881299347898368, 10133099161583616, 36028797018963967] [0, 1, 0, 7, 15, 31, 0, 0, 192, 511, 1023, 2047, 4095, 8191, 16383, 32767, 4095, 69631, 262143, 524287, 1048575, 2097151, 4194303, 8388607, 16777215, 33554431, 4194303, 100663295, 234881023, 536870911, 1073741823, 2147483647, 4294967295, 4294967295, 17179869183, 4294967295, 4294967295, 137438953471, 274877906943, 549755813887, 1099511627775, 2199023255551, 4398046511103, 8796093022207, 17592186044415, 35184372088831, 70368744177663, 140737488355327, 281474976710655, 562949953421311, 1125899906842623, 2251799813685247, 4503599627370495, 9007199254740991, 18014398509481983, 36028797018963967] [5, 8, 9, 10, 11, 12, 16] [8, 5, 9, 10, 11, 12, 16] [9, 10, 11, 12, 16] [(.l, 8), (.l, 9), (.p, 10), (.p, 11), (.p, 12), (.p, 16), (.f 73727 6973257522012986 17314086912, 42)] [(.l, 5), (.l, 9), (.p, 10), (.p, 11), (.p, 12), (.p, 16), (.f 73727 6973257522012986 17314086912, 42)] [(.l, 9), (.p, 10), (.p, 11), (.p, 12), (.p, 16), (.f 73727 6973257522012986 17314086912, 42)] (by kernel_rfl) (by kernel_rfl) (by kernel_rfl) (by kernel_rfl) (by kernel_rfl) hj (fun hj => ?_) (fun hj => ?_) <;> dsimp only [inOrder, nthOp]
            · refine wl_call rfl (C_Sum512 _ f23 h1 (by rfl) (by simp) (by omega)) ?_
              rintro v24 w24 ⟨rfl, b24⟩
              have s24 := b24.size
              replace hw := hw.trans (b24.mono hw.size)
              replace f22 := f22.u b24
              replace f7 := f7.u b24
              replace f6 := f6.u b24
              replace f20 := f20.u b24
              replace f23 := f23.u b24
              refine wl_litKr2 (by rfl) rfl (hA.u hw) (hB.u hw) rfl rfl (by omega) (by omega) (by omega) (by omega) (by rfl) ?_
              rintro A27 w27 f27 b27
              have s27 := b27.size
              replace hw := hw.trans (b27.mono hw.size)
              replace f23 := f23.u b27
              replace f20 := f20.u b27
              replace f6 := f6.u b27
              replace f7 := f7.u b27
              replace f22 := f22.u b27
              exact wl_tof hj (Fr.le_of (by kernel_rfl) (by kernel_rfl) (by repeat' constructor)) ⟨_, rfl, f27, f6, f7, hw⟩
            · refine wl_litKr2 (by rfl) rfl (hA.u hw) (hB.u hw) rfl rfl (by omega) (by omega) (by omega) (by omega) (by rfl) ?_
              rintro A27 w27 f27 b27
              have s27 := b27.size
              replace hw := hw.trans (b27.mono hw.size)
              replace f22 := f22.u b27
              replace f7 := f7.u b27
              replace f6 := f6.u b27
              replace f20 := f20.u b27
              replace f23 := f23.u b27
              refine wl_call rfl (C_Sum512 _ f23 h1 (by rfl) (by simp) (by omega)) ?_
              rintro v24 w24 ⟨rfl, b24⟩
              have s24 := b24.size
              replace hw := hw.trans (b24.mono hw.size)
              replace f23 := f23.u b24
              replace f20 := f20.u b24
              replace f6 := f6.u b24
              replace f7 := f7.u b24
              replace f22 := f22.u b24
              replace f27 := f27.u b24
              exact wl_tof hj (Fr.le_of (by kernel_rfl) (by kernel_rfl) (by repeat' constructor)) ⟨_, rfl, f27, f6, f7, hw⟩
          · refine wl_litKr2 (by rfl) rfl (hA.u hw) (hB.u hw) rfl rfl (by omega) (by omega) (by omega) (by omega) (by rfl) ?_
            rintro A27 w27 f27 b27
            have s27 := b27.size
            replace hw := hw.trans (b27.mono hw.size)
            replace f20 := f20.u b27
            replace f6 := f6.u b27
            replace f7 := f7.u b27
            replace f22 := f22.u b27
            refine wl_litKr2 (by rfl) rfl f20.to_Rd f22.to_Rd rfl rfl (by omega) (by omega) (by omega) (by omega) (by rfl) ?_
            rintro A23 w23 f23 b23
            have s23 := b23.size
            replace hw := hw.trans (b23.mono hw.size)
            replace f22 := f22.u b23
            replace f7 := f7.u b23
            replace f6 := f6.u b23
            replace f20 := f20.u b23
            replace f27 := f27.u b23
            refine wl_call rfl (C_Sum512 _ f23 h1 (by rfl) (by simp) (by omega)) ?_
            rintro v24 w24 ⟨rfl, b24⟩
            have s24 := b24.size
            replace hw := hw.trans (b24.mono hw.size)
            replace f27 := f27.u b24
            replace f20 := f20.u b24
            replace f6 := f6.u b24
            replace f7 := f7.u b24
            replace f22 := f22.u b24
            replace f23 := f23.u b24
            exact wl_tof hj (Fr.le_of (by kernel_rfl) (by kernel_rfl) (by repeat' constructor)) ⟨_, rfl, f27, f6, f7, hw⟩
        · refine wl_litKr2 (by rfl) rfl (hA.u hw) (hB.u hw) rfl rfl (by omega) (by omega) (by omega) (by omega) (by rfl) ?_
          rintro A27 w27 f27 b27
          have s27 := b27.size
          replace hw := hw.trans (b27.mono hw.size)
          replace f7 := f7.u b27
          replace f6 := f6.u b27
          replace f20 := f20.u b27
          refine wl_call rfl (C_Own _ (hB.u hw) rfl (by omega)) ?_
          rintro v22 w22 ⟨A22, ⟨c22, ⟨rfl, ⟨f22, ⟨i22, b22⟩⟩⟩⟩⟩
          have qf22 := f22.cap
          have s22 := b22.size
          replace hw := hw.trans (b22.mono hw.size)
          replace f20 := f20.u b22
          replace f6 := f6.u b22
          replace f7 := f7.u b22
          replace f27 := f27.u b22
          refine wl_litKr2 (by rfl) rfl f20.to_Rd f22.to_Rd rfl rfl (by omega) (by omega) (by omega) (by omega) (by rfl) ?_
          rintro A23 w23 f23 b23
          have s23 := b23.size
          replace hw := hw.trans (b23.mono hw.size)
          replace f27 := f27.u b23
          replace f7 := f7.u b23
          replace f6 := f6.u b23
          replace f20 := f20.u b23
          replace f22 := f22.u b23
          refine wl_call rfl (C_Sum512 _ f23 h1 (by rfl) (by simp) (by omega)) ?_
          rintro v24 w24 ⟨rfl, b24⟩
          have s24 := b24.size
          replace hw := hw.trans (b24.mono hw.size)
          replace f22 := f22.u b24
          replace f20 := f20.u b24
          replace f6 := f6.u b24
          replace f7 := f7.u b24
          replace f27 := f27.u b24
          replace f23 := f23.u b24
          exact wl_tof hj (Fr.le_of (by kernel_rfl) (by kernel_rfl) (by repeat' constructor)) ⟨_, rfl, f27, f6, f7, hw⟩
      · refine wl_litKr2 (by rfl) rfl (hA.u hw) (hB.u hw) rfl rfl (by omega) (by omega) (by omega) (by omega) (by rfl) ?_
        rintro A27 w27 f27 b27
        simp only [drew_size] at b27
        have s27 := b27.size
        simp only [drew_size] at s27
        replace hw := hw.trans (b27.mono hw.size)
        replace f6 := f6.u b27
        replace f7 := f7.u b27
        refine wl_call rfl (C_Own _ (hA.u hw) rfl (by omega)) ?_
        rintro v20 w20 ⟨A20, ⟨c20, ⟨rfl, ⟨f20, ⟨i20, b20⟩⟩⟩⟩⟩
        have qf20 := f20.cap
        have s20 := b20.size
        replace hw := hw.trans (b20.mono hw.size)
        replace f7 := f7.u b20
        replace f6 := f6.u b20
        replace f27 := f27.u b20
        refine wl_call rfl (C_Own _ (hB.u hw) rfl (by omega)) ?_
        rintro v22 w22 ⟨A22, ⟨c22, ⟨rfl, ⟨f22, ⟨i22, b22⟩⟩⟩⟩⟩
        have qf22 := f22.cap
        have s22 := b22.size
        replace hw := hw.trans (b22.mono hw.size)
        replace f27 := f27.u b22
        replace f6 := f6.u b22
        replace f7 := f7.u b22
        replace f20 := f20.u b22
        refine wl_litKr2 (by rfl) rfl f20.to_Rd f22.to_Rd rfl rfl (by omega) (by omega) (by omega) (by omega) (by rfl) ?_
        rintro A23 w23 f23 b23
        have s23 := b23.size
        replace hw := hw.trans (b23.mono hw.size)
        replace f20 := f20.u b23
        replace f7 := f7.u b23
        replace f6 := f6.u b23
        replace f27 := f27.u b23
        replace f22 := f22.u b23
        refine wl_call rfl (C_Sum512 _ f23 h1 (by rfl) (by simp) (by omega)) ?_
        rintro v24 w24 ⟨rfl, b24⟩
        have s24 := b24.size
        replace hw := hw.trans (b24.mono hw.size)
        replace f22 := f22.u b24
        replace f27 := f27.u b24
        replace f6 := f6.u b24
        replace f7 := f7.u b24
        replace f20 := f20.u b24
        replace f23 := f23.u b24
        exact wl_tof hj (Fr.le_of (by kernel_rfl) (by kernel_rfl) (by repeat' constructor)) ⟨_, rfl, f27, f6, f7, hw⟩
end Go.Proofs.Ytldhmnakkkjenaa
