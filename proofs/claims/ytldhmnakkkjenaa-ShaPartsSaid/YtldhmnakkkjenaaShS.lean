/-
  The statement ShaParts: a sum does not depend on how the bytes are split; it is that of its pieces.
-/
import Derived.Test.YtldhmnakkkjenaaShR
import Derived.Test.YtldhmnakkkjenaaPick
namespace Go.Proofs.Ytldhmnakkkjenaa
open Go.RowKit
theorem split2 (a : By) (i : Nat) : ([a.take i, a.drop i] : List By).flatten = ([a] : List By).flatten := by simp
theorem split3 (a : By) {i k : Nat} (h : i ≤ k) : ([a.take i, (a.drop i).take (k - i), a.drop k] : List By).flatten = ([a] : List By).flatten := by
  have e : a.drop k = (a.drop i).drop (k - i) := by rw [List.drop_drop, show i + (k - i) = k by omega]
  rw [e]
  simp only [List.flatten_cons, List.flatten_nil, List.append_nil, List.take_append_drop]
theorem byte_eq {l : List UInt64} {n : Nat} (h : n < (bytesU l).length) (h2 : n / 8 < l.length) : (bytesU l)[n] = (shrU l[n / 8] (56 - 8 * (n % 8))).toUInt8 := by
  simp [bytesU, byteAt, List.getElem?_eq_getElem h2]
section
variable {P : Program} {N : Nat} {fr : Fr} {w w0 : World} {ty t : TypeId} {x : Operand}
--@ rule load r o_ldArrRd
theorem o_ldArrRd {A : Option Addr} {q : By} (ha' : ∀ w, (isAgg t).run P w = .ok true w) (hs : ∀ w, (sizeOf t).run P w = .ok 128 w) (hx : fr.ev x = some (.pointer A)) (hr : Rd w A q) (hq : q.length = 128) : OpV P N fr w (.load t x) ty (.agg (B8 q).toArray) w := by
  have hne : B8 q ≠ [] := by intro e; have := congrArg List.length e; rw [B8_length, List.length_nil] at this; omega
  obtain ⟨b, o, rfl, hc⟩ := hr.2 hne
  refine o_loadn (cs := B8 q) ha' (by rw [B8_length, hq]; exact hs) hx (fun j v hj => ?_)
  rw [add_plain]
  exact hc j v hj
end
theorem zv128 : ∀ w, (zeroValue 41).run Try.prog w = .ok (.agg (B8 (List.replicate 128 0)).toArray) w := fun w => by
  have h : (Try.prog.info? 41).map (fun i => (i.zero, i.size, i.bytes)) = some (some (.agg (B8 (List.replicate 128 0)).toArray), 128, 128) := by kernel_rfl
  obtain ⟨i, hi, hz, _, _⟩ := info_parts h
  simp [zeroValue, typeInfo, hi, hz]
section
variable {fn : Func} {F : Ending → World → Prop} {N : Nat} {ks : List K} {ops : Array Oper} {tg : Tags} {l : List Oper} {fr : Fr} {w : World} {ty : TypeId} {pos : String} {aft : Array Edge} {gd : Option (Nat × Bool)} {d : Nat}
--@ rule alloc l wl_alloc128
theorem wl_alloc128 (hk : ∀ g w', Blk w' g 41 (B8 (List.replicate 128 0)) → Below w.heap.size w w' → w.heap.size ≤ g → g < w'.heap.size → WL Try.prog fn F N ks ops tg.tail l ((d, .pointer (some ⟨g, 0, none⟩)) :: fr) w')
    (ht : tg.loud = true := by rfl) (hg : onG ops fr gd = true := by rfl) (hd : Nat.blt d N = true := by rfl) : WL Try.prog fn F N ks ops tg (⟨some d, .alloc 41, ty, pos, aft, gd⟩ :: l) fr w :=
  wl_allocB (n := 128) Try.underlying41 zv128 rfl hk ht hg hd
end
theorem C_PickN {n m r : Int} (w : World) (hr : pick n m = r) (wn : (Lit.int .i64 n).wf = true) (wm : (Lit.int .i64 m).wf = true) :
    CallsR Try.prog 10 [.int .i64 n, .int .i64 m] w fun v w' => v = .int .i64 r ∧ w' = w := by
  subst hr
  exact C_Pick n m wn wm w
set_option maxRecDepth 3000 in
set_option maxHeartbeats 4000000 in
theorem C_ShaParts (w : World) (A : Option Addr) (c : Nat) (a : By) (hA : Rd w A a) (hac : a.length ≤ c) (hcm : c ≤ maxLen) (ni : Int) (wi : (Lit.int .i64 ni).wf = true) (nk : Int) (wk : (Lit.int .i64 nk).wf = true) :
    CallsR Try.prog 7 [.slice A a.length c, .int .i64 ni, .int .i64 nk] w fun v w' => v = .bool true ∧ Below w.heap.size w w' := by
  simp only [maxLen] at hcm
  obtain ⟨sl, hsl⟩ : ∃ sl, Sl = sl := ⟨_, rfl⟩
  obtain ⟨ul, hul⟩ : ∃ ul, Ul = ul := ⟨_, rfl⟩
  have hS8 : sl.length = 8 := by rw [← hsl]; exact Sl_len
  have hu8 : ul.length = 8 := by rw [← hul]; exact Ul_len
  obtain ⟨p, hp⟩ : ∃ p, padU a = p := ⟨_, rfl⟩
  obtain ⟨R1, hR1⟩ : ∃ R1, runU sl p = R1 := ⟨_, rfl⟩
  obtain ⟨R2, hR2⟩ : ∃ R2, runU ul p = R2 := ⟨_, rfl⟩
  have hR18 : R1.length = 8 := by rw [← hR1]; exact runU_len _ hS8
  have hR28 : R2.length = 8 := by rw [← hR2]; exact runU_len _ hu8
  obtain ⟨r1, h1⟩ : ∃ r1, bytesU (runU Sl (padU ([a] : List By).flatten)) = r1 := ⟨_, rfl⟩
  obtain ⟨r2, h2⟩ : ∃ r2, (bytesU (runU Ul (padU ([a] : List By).flatten))).take 32 = r2 := ⟨_, rfl⟩
  have hr1 : r1.length = 64 := by rw [← h1, bytesU_len]
  have hr2 : r2.length = 32 := by rw [← h2, List.length_take, bytesU_len]; rfl
  have hr1e : bytesU R1 = r1 := by rw [← h1, ← hR1, ← hp, hsl]; simp
  have hr2e : (bytesU R2).take 32 = r2 := by rw [← h2, ← hR2, ← hp, hul]; simp
  refine callsR Try.func7 rfl rfl (by kernel_rfl) rfl ?_
  have hw := Below.refl w.heap.size w
  refine rk_seq ?_
  refine rk_region ?_
  refine wl_p (fun _ => o_assign rfl) ?_
  refine wl_nil ?_
  refine rk_seq ?_
  refine rk_seq ?_
  refine rk_region ?_
  refine wl_call rfl (C_lives02 _) ?_
  rintro v15 w15 ⟨rfl, b15⟩
  have s15 := b15.size
  replace hw := hw.trans (b15.mono hw.size)
  refine wl_p (fun _ => o_not rfl) ?_
  refine wl_nil ?_
  refine rk_false rfl ?_
  refine rk_skip ?_
  refine rk_seq ?_
  refine rk_seq ?_
  refine rk_region ?_
  refine wl_p (fun _ => o_move rfl) ?_
  refine wl_p (fun _ => o_len (t := 39) Try.underlying39 rfl) ?_
  refine wl_p (fun _ => o_gt rfl rfl) ?_
  refine wl_nil ?_
  refine rk_if rfl (fun h19 => ?_) (fun h19 => ?_)
  · refine rk_seq ?_
    refine rk_region ?_
    refine wl_p (fun _ => o_assign rfl) ?_
    refine wl_nil ?_
    refine ret1 rfl rfl ?_
    exact ⟨rfl, hw⟩
  · have hal : a.length ≤ 2000 := by omega
    have wi1 : (Lit.int .i64 ((a.length : Int) + 1)).wf = true := i64_wf (by omega)
    have hpi := pick_range ni ((a.length : Int) + 1) (by omega)
    obtain ⟨I, hI⟩ : ∃ I : Nat, pick ni ((a.length : Int) + 1) = I := ⟨(pick ni ((a.length : Int) + 1)).toNat, by omega⟩
    have wk1 : (Lit.int .i64 ((a.length : Int) - (I : Int) + 1)).wf = true := i64_wf (by omega)
    have hpk := pick_range nk ((a.length : Int) - (I : Int) + 1) (by omega)
    obtain ⟨J, hJ⟩ : ∃ J : Nat, pick nk ((a.length : Int) - (I : Int) + 1) = J := ⟨(pick nk ((a.length : Int) - (I : Int) + 1)).toNat, by omega⟩
    obtain ⟨M, hM⟩ := padU_mul a
    rw [hp] at hM
    have hpl : p.length = a.length + 17 + zeros a.length := by rw [← hp, padU_len]
    have hzl := zeros_lt a.length
    have hIJ : I + J ≤ a.length := by omega
    have hIa : I ≤ a.length := by omega
    have h3 : bytesU (runU Sl (padU ([a.take I, (a.drop I).take (I + J - I), a.drop (I + J)] : List By).flatten)) = r1 := by rw [split3 a (by omega)]; exact h1
    have h4 : (bytesU (runU Ul (padU ([a.take I, a.drop I] : List By).flatten))).take 32 = r2 := by rw [split2]; exact h2
    have n1 : ∀ x ∈ ([a] : List By), x.length ≤ 4000 := fun x hx => by
      simp only [List.mem_cons, List.not_mem_nil, or_false] at hx; subst hx; omega
    have n3 : ∀ x ∈ ([a.take I, (a.drop I).take (I + J - I), a.drop (I + J)] : List By), x.length ≤ 4000 := fun x hx => by
      simp only [List.mem_cons, List.not_mem_nil, or_false] at hx
      rcases hx with rfl | rfl | rfl <;> simp only [List.length_take, List.length_drop] <;> omega
    have n4 : ∀ x ∈ ([a.take I, a.drop I] : List By), x.length ≤ 4000 := fun x hx => by
      simp only [List.mem_cons, List.not_mem_nil, or_false] at hx
      rcases hx with rfl | rfl <;> simp only [List.length_take, List.length_drop] <;> omega
    have l1 : (a.take I).length = I := by rw [List.length_take]; omega
    have l2 : ((a.drop I).take (I + J - I)).length = I + J - I := by rw [List.length_take, List.length_drop]; omega
    have l3 : (a.drop (I + J)).length = a.length - (I + J) := by rw [List.length_drop]
    have l4 : (a.drop I).length = a.length - I := by rw [List.length_drop]
    refine rk_skip ?_
    refine rk_seq ?_
    refine rk_region ?_
    refine wl_p (fun _ => o_move rfl) ?_
    refine wl_p (fun _ => o_move rfl) ?_
    refine wl_p (fun _ => o_len (t := 39) Try.underlying39 rfl) ?_
    refine wl_p (fun _ => o_add rfl rfl (by omega) (by omega)) ?_
    refine wl_call rfl (C_PickN _ hI wi wi1) ?_
    rintro v24 w24 ⟨rfl, rfl⟩
    refine wl_p (fun _ => o_assign rfl) ?_
    refine wl_nil ?_
    refine rk_seq ?_
    refine rk_region ?_
    refine wl_p (fun _ => o_move rfl) ?_
    refine wl_p (fun _ => o_move rfl) ?_
    refine wl_p (fun _ => o_move rfl) ?_
    refine wl_p (fun _ => o_len (t := 39) Try.underlying39 rfl) ?_
    refine wl_p (fun _ => o_move rfl) ?_
    refine wl_p (fun _ => o_sub rfl rfl (by omega) (by omega)) ?_
    refine wl_p (fun _ => o_add rfl rfl (by omega) (by omega)) ?_
    refine wl_call rfl (C_PickN _ hJ wk wk1) ?_
    rintro v32 w32 ⟨rfl, rfl⟩
    refine wl_p (fun _ => o_add rfl rfl (by omega) (by omega)) ?_
    refine wl_p (fun _ => o_assign rfl) ?_
    refine wl_nil ?_
    refine rk_seq ?_
    refine rk_seq ?_
    refine rk_drawo (id := 7) (none) [0, 1, 2, 0, 0, 24, 0, 0, 0, 448, 0, 0, 3072, 4640, 8196, 16388, 49152, 65536, 196608, 327680, 65536, 65536, 3211264, 65536, 65536, 25231360, 37814272, 67698688, 134807552, 268500992] [0, 1, 3, 0, 0, 24, 0, 0, 0, 448, 0, 0, 3072, 8184, 16383, 32767, 65535, 131071, 262143, 524287, 131071, 131071, 3276799, 131071, 131071, 25296895, 66191359, 134217727, 268435455, 536870911] 202137606 0 [0, 3, 4, 5, 6, 7, 8, 9, 10, 11, 12] [(.p, 0), (.p, 3), (.p, 4), (.p, 5), (.p, 6), (.p, 7), (.p, 8), (.p, 9), (.p, 10), (.p, 11), (.p, 12), (.f 8185 202137606 0, 19)] (by kernel_rfl) (by kernel_rfl) (by kernel_rfl) (by kernel_rfl) (by kernel_rfl) ?_
    dsimp only [inOrder, nthOp]
    replace hw := hw.drew
    refine wl_p (fun _ => o_move rfl) ?_
    refine wl_p (fun _ => o_move rfl) ?_
    refine wl_p (fun _ => o_move rfl) ?_
    refine wl_slBh Try.u8 (I) rfl rfl (hA.u hw) rfl rfl (by omega) (by omega) ?_
    rintro f39
    refine wl_p (fun _ => o_move rfl) ?_
    refine wl_p (fun _ => o_move rfl) ?_
    refine wl_p (fun _ => o_move rfl) ?_
    refine wl_slBB Try.u8 (I) (I + J) rfl rfl rfl (hA.u hw) rfl rfl (by omega) (by omega) (by omega) (by omega) ?_
    rintro A43 c43 f43 i43 i43_1
    refine wl_p (fun _ => o_move rfl) ?_
    refine wl_p (fun _ => o_move rfl) ?_
    refine wl_slBl Try.u8 (I + J) rfl rfl (hA.u hw) rfl (by omega) (by omega) (by omega) ?_
    rintro A46 c46 f46 i46 i46_1
    refine wl_forkf (m := 8185) (L := 202137606) (C := 0) (n := 19) (k1 := 1) (k2 := 13) (fun fb fr w' => ∃ A47, fr = [(36, .agg (B8 r1).toArray), (47, .slice A47 3 3)] ++ fb ∧ RKy w' A47 [a.take I, (a.drop I).take (I + J - I), a.drop (I + J)] ∧ Below w.heap.size w w') [0, 1, 2, 0, 0, 24, 0, 0, 0, 448, 0, 0, 3072, 4640, 8196, 16388, 49152, 65536, 196608, 327680, 65536, 65536, 3211264, 65536, 65536, 25231360, 37814272, 67698688, 134807552, 268500992] [0, 1, 3, 0, 0, 24, 0, 0, 0, 448, 0, 0, 3072, 8184, 16383, 32767, 65535, 131071, 262143, 524287, 131071, 131071, 3276799, 131071, 131071, 25296895, 66191359, 134217727, 268435455, 536870911] [1] [13, 1, 2, 14, 15, 16, 17, 20, 21, 22, 23, 24, 25] [14, 15, 16, 17, 20, 21, 22, 23, 24, 25] [(.f 8187 202137606 0, 18)] [(.l, 1), (.l, 2), (.l, 14), (.p, 15), (.p, 16), (.p, 17), (.p, 20), (.p, 21), (.p, 22), (.p, 23), (.p, 24), (.p, 25), (.f 66322431 202137606 0, 6)] [(.l, 14), (.p, 15), (.p, 16), (.p, 17), (.p, 20), (.p, 21), (.p, 22), (.p, 23), (.p, 24), (.p, 25), (.f 66322431 202137606 0, 6)] (by kernel_rfl) (by kernel_rfl) (by kernel_rfl) (by kernel_rfl) (by kernel_rfl) ?_ (fun hj => ?_) (fun hj => ?_) <;> dsimp only [inOrder, nthOp]
    · clear hw
      rintro fr w' ⟨A47, rfl, f47, hw⟩
      have shw := hw.size
      first | refine rk_frame (by simp only [List.cons_append, List.nil_append, List.drop_succ_cons, List.drop_zero]; rfl) ?_ | refine wl_frame (by simp only [List.cons_append, List.nil_append, List.drop_succ_cons, List.drop_zero]; rfl) ?_
      refine wl_call rfl (C_Sum512 _ f47 h3 (by rfl) (by simp) (by omega)) ?_
      rintro v48 w48 ⟨rfl, b48⟩
      have s48 := b48.size
      replace hw := hw.trans (b48.mono hw.size)
      replace f47 := f47.u b48
      refine wl_p (fun _ => (o_ne64F rfl rfl hr1)) ?_
      refine wl_p (fun _ => o_move rfl) ?_
      refine wl_p (fun _ => o_move rfl) ?_
      refine wl_p (fun _ => o_move rfl) ?_
      refine wl_p (fun _ => o_move rfl) ?_
      refine wl_slBh Try.u8 (I) rfl rfl (hA.u hw) rfl rfl (by omega) (by omega) ?_
      rintro f56
      refine wl_p (fun _ => o_move rfl) ?_
      refine wl_p (fun _ => o_move rfl) ?_
      refine wl_slBl Try.u8 (I) rfl rfl (hA.u hw) rfl rfl (by omega) (by omega) ?_
      rintro A59 c59 f59 i59 i59_1
      refine wl_forkf (m := 66322431) (L := 202137606) (C := 0) (n := 6) (k1 := 18) (k2 := 26) (fun fb fr w2 => ∃ A60, fr = [(53, .agg (B8 r2).toArray), (60, .slice A60 2 2)] ++ fb ∧ RKy w2 A60 [a.take I, a.drop I] ∧ Below w.heap.size w w2) [0, 1, 2, 0, 0, 24, 0, 0, 0, 448, 0, 0, 3072, 4640, 8196, 16388, 49152, 65536, 196608, 327680, 65536, 65536, 3211264, 65536, 65536, 25231360, 37814272, 67698688, 134807552, 268500992] [0, 1, 3, 0, 0, 24, 0, 0, 0, 448, 0, 0, 3072, 8184, 16383, 32767, 65535, 131071, 262143, 524287, 131071, 131071, 3276799, 131071, 131071, 25296895, 66191359, 134217727, 268435455, 536870911] [18] [26, 18, 19, 27, 28, 29] [27, 28, 29] [(.f 66584575 202137606 0, 5)] [(.l, 18), (.l, 19), (.l, 27), (.p, 28), (.p, 29)] [(.l, 27), (.p, 28), (.p, 29)] (by kernel_rfl) (by kernel_rfl) (by kernel_rfl) (by kernel_rfl) (by kernel_rfl) ?_ (fun hj => ?_) (fun hj => ?_) <;> dsimp only [inOrder, nthOp]
      · clear hw
        rintro fr w2 ⟨A60, rfl, f60, hw⟩
        have shw2 := hw.size
        first | refine rk_frame (by simp only [List.cons_append, List.nil_append, List.drop_succ_cons, List.drop_zero]; rfl) ?_ | refine wl_frame (by simp only [List.cons_append, List.nil_append, List.drop_succ_cons, List.drop_zero]; rfl) ?_
        refine wl_call rfl (C_Sum _ f60 h4 (by rfl) (by simp) (by omega)) ?_
        rintro v61 w61 ⟨rfl, b61⟩
        have s61 := b61.size
        replace hw := hw.trans (b61.mono hw.size)
        replace f60 := f60.u b61
        refine wl_p (fun _ => (o_neDF rfl rfl hr2)) ?_
        refine wl_p (fun _ => o_pick_f rfl rfl) ?_
        refine wl_nild ?_
        refine rk_false rfl ?_
        refine rk_skip ?_
        refine rk_seq ?_
        refine rk_region ?_
        refine wl_call rfl (C_Start _) ?_
        rintro v64 w64 ⟨rfl, b64⟩
        have s64 := b64.size
        replace hw := hw.trans (b64.mono hw.size)
        replace f60 := f60.u b64
        refine wl_call rfl (C_StartShort _ hul) ?_
        rintro v65 w65 ⟨rfl, b65⟩
        have s65 := b65.size
        replace hw := hw.trans (b65.mono hw.size)
        replace f60 := f60.u b65
        refine wl_allocU Try.underlying28 Try.zeroValue28 (by rfl) ?_
        rintro g7 w7 f7 b7 i7 i7_1
        have s7 := b7.size
        replace hw := hw.trans (b7.mono hw.size)
        replace f60 := f60.u b7
        refine wl_allocU Try.underlying28 Try.zeroValue28 (by rfl) ?_
        rintro g8 w8 f8 b8 i8 i8_1
        have s8 := b8.size
        replace hw := hw.trans (b8.mono hw.size)
        replace f60 := f60.u b8
        replace f7 := f7.u b8
        refine wl_stUa Try.sizeOf28 rfl f7 rfl (by rfl) (by rfl) ?_
        rintro w_1 f g e
        have s := g.size
        replace hw := hw.trans (below_of_grownBy g.g hw.size (by omega))
        clear f7
        clear f60
        replace f8 := f8.k g.g (ap_some (by omega))
        refine wl_stUa Try.sizeOf28 rfl f8 rfl hu8 (by rfl) ?_
        rintro w_2 f_1 g_1 e_1
        have s_1 := g_1.size
        replace hw := hw.trans (below_of_grownBy g_1.g hw.size (by omega))
        clear f8
        replace f := f.k g_1.g (ap_some (by omega))
        refine wl_nil ?_
        refine rk_seq ?_
        refine rk_region ?_
        refine wl_p (fun _ => o_move rfl) ?_
        refine wl_call rfl (C_Own _ (hA.u hw) rfl (by omega)) ?_
        rintro v67 w67 ⟨A67, ⟨c67, ⟨rfl, ⟨f67, ⟨i67, b67⟩⟩⟩⟩⟩
        have qf67 := f67.cap
        have s67 := b67.size
        replace hw := hw.trans (b67.mono hw.size)
        replace f := f.u b67
        replace f_1 := f_1.u b67
        refine wl_call rfl (C_Pad _ f67.to_RdT hp rfl (by omega) (by omega) (by omega)) ?_
        rintro v68 w68 ⟨A68, ⟨c68, ⟨rfl, ⟨f68, b68⟩⟩⟩⟩
        have qf68 := f68.cap
        have s68 := b68.size
        replace hw := hw.trans (b68.mono hw.size)
        replace f_1 := f_1.u b68
        replace f := f.u b68
        replace f67 := f67.u b68
        refine wl_p (fun _ => o_assign rfl) ?_
        refine wl_nil ?_
        refine rk_seq ?_
        refine rk_seq ?_
        refine rk_draw (id := 11) (none) [0, 1, 2, 4, 8, 16, 16, 80, 176, 272, 16, 1040, 2576, 4112, 8208, 16384, 49152, 16384, 147456, 278528, 606208, 1064960, 2113536, 4194304, 12582912, 4194304, 37748736, 71303168, 155189248, 272629760] [0, 1, 3, 7, 15, 31, 31, 95, 255, 511, 31, 1055, 4095, 8191, 16383, 32767, 65535, 32767, 163839, 425983, 1048575, 2097151, 4194303, 8388607, 16777215, 8388607, 41943039, 109051903, 268435455, 536870911] 0 0 [(.p, 0), (.p, 1), (.p, 2), (.p, 3), (.p, 4), (.p, 5), (.p, 6), (.p, 7), (.p, 8), (.r, 9), (.p, 10), (.r, 11), (.p, 12), (.p, 13), (.p, 14), (.p, 15), (.p, 16), (.p, 17), (.p, 18), (.p, 19), (.p, 20), (.p, 21), (.p, 22), (.p, 23), (.p, 24), (.p, 25), (.p, 26), (.p, 27), (.p, 28), (.p, 29)] (by kernel_rfl) (by kernel_rfl) (by kernel_rfl) (by kernel_rfl) (by kernel_rfl) ?_
        replace hw := hw.drew
        replace f67 := f67.d
        replace f := f.d
        replace f_1 := f_1.d
        replace f68 := f68.d
        refine wl_p (fun _ => o_move rfl) ?_
        refine wl_p (fun _ => o_len (t := 39) Try.underlying39 rfl) ?_
        refine wl_p (fun _ => o_rem rfl rfl (by omega) (by omega)) ?_
        refine wl_p (fun _ => o_ne rfl rfl) ?_
        refine wl_p (fun _ => o_move rfl) ?_
        refine wl_know 73 false rfl (decide_eq_false (by omega)) ?_
        refine wl_p (fun _ => o_move rfl) ?_
        refine wl_p (fun _ => o_move rfl) ?_
        refine wl_p (fun _ => o_len (t := 39) Try.underlying39 rfl) ?_
        refine wl_slBh Try.u8 (List.length a) rfl rfl f68.to_Rd rfl rfl (by omega) (by omega) ?_
        rintro f77
        refine wl_r (o_strU Try.underlying39 Try.underlying5 Try.underlying9 rfl f77 (Below.refl _ _) (by simp; omega)) ?_
        refine wl_p (fun _ => o_move rfl) ?_
        refine wl_r (o_strU Try.underlying39 Try.underlying5 Try.underlying9 rfl hA hw rfl) ?_
        refine wl_p (fun _ => o_sne rfl rfl) ?_
        refine wl_p (fun _ => o_pick_f rfl rfl) ?_
        refine wl_p (fun _ => o_move rfl) ?_
        rw [hsl] at f
        have hta : p.take a.length = a := by rw [← hp]; simp [padU]
        rw [hta, show decide (a ≠ a) = false from decide_eq_false (fun h => h rfl)]
        refine wl_p (fun _ => o_move rfl) ?_
        refine wl_p (fun _ => o_len (t := 39) Try.underlying39 rfl) ?_
        refine wl_p (fun _ => o_move rfl) ?_
        refine wl_p (fun _ => o_len (t := 39) Try.underlying39 rfl) ?_
        refine wl_p (fun _ => o_add rfl rfl (by omega) (by omega)) ?_
        refine wl_p (fun _ => o_lt rfl rfl) ?_
        refine wl_p (fun _ => o_pick_f rfl rfl) ?_
        refine wl_p (fun _ => o_move rfl) ?_
        refine wl_know 91 false rfl (decide_eq_false (by omega)) ?_
        refine wl_p (fun _ => o_move rfl) ?_
        refine wl_p (fun _ => o_len (t := 39) Try.underlying39 rfl) ?_
        refine wl_p (fun _ => o_move rfl) ?_
        refine wl_p (fun _ => o_len (t := 39) Try.underlying39 rfl) ?_
        refine wl_p (fun _ => o_add rfl rfl (by omega) (by omega)) ?_
        refine wl_p (fun _ => o_gt rfl rfl) ?_
        refine wl_p (fun _ => o_pick_f rfl rfl) ?_
        refine wl_nild ?_
        refine rk_if rfl (fun h98 => absurd h98 (by omega)) (fun h98 => ?_)
        refine rk_skip ?_
        refine rk_seq ?_
        refine rk_seq ?_
        refine rk_region ?_
        refine wl_p (fun _ => o_assign rfl) ?_
        refine wl_nil ?_
        refine rk_block ?_
        rw [show decide ((p.length : Int) < (a.length : Int) + 17) = false from decide_eq_false (by omega)]
        rw [show decide ((a.length : Int) + 144 < (p.length : Int)) = false from decide_eq_false (by omega)]
        refine rk_joinf (fun fb fr w3 => fr = [] ++ fb.drop 1 ∧ Blk w3 g7 28 (vU R1) ∧ Blk w3 g8 28 (vU R2) ∧ w68.heap.size ≤ w3.heap.size ∧ Below w.heap.size w w3) ?_ (fun ks hj => ?_)
        rotate_left
        · refine rk_loopf (fun fb m fr w3 => ∃ (k j : Nat) (v : Int) (q1 q2 : List UInt64), fr = [(10, .int .i64 v)] ++ fb.drop 1 ∧ v = j ∧ j = 128 * k ∧ k ≤ M ∧ m = M - k ∧ q1.length = 8 ∧ q2.length = 8 ∧ q1 = (List.range k).foldl (fun s i => pieceU s (chunkB p i)) sl ∧ q2 = (List.range k).foldl (fun s i => pieceU s (chunkB p i)) ul ∧ Blk w3 g7 28 (vU q1) ∧ Blk w3 g8 28 (vU q2) ∧ OwnH w3 w67.heap.size w68.heap.size A68 c68 p ∧ w68.heap.size ≤ w3.heap.size ∧ Below w.heap.size w w3) (n := M) (Fr.le_of (by kernel_rfl) (by kernel_rfl) (by repeat' constructor)) ⟨0, 0, _, sl, ul, rfl, rfl, rfl, by omega, rfl, hS8, hu8, rfl, rfl, f, f_1, f68, Nat.le_refl _, hw⟩ ?_
          clear hw f f_1 f68
          rintro m fr w3 ⟨k, j, v, q1, q2, rfl, rfl, hj1, hk, rfl, hq18, hq28, hq1, hq2, f, f_1, f68, hsz, hw⟩
          have shw3 := hw.size
          first | refine rk_frame (by simp only [List.cons_append, List.nil_append, List.drop_succ_cons, List.drop_zero]; rfl) ?_ | refine wl_frame (by simp only [List.cons_append, List.nil_append, List.drop_succ_cons, List.drop_zero]; rfl) ?_
          refine rk_seq ?_
          refine rk_seq ?_
          refine rk_region ?_
          refine wl_p (fun _ => o_move rfl) ?_
          refine wl_p (fun _ => o_move rfl) ?_
          refine wl_p (fun _ => o_len (t := 39) Try.underlying39 rfl) ?_
          refine wl_p (fun _ => o_lt rfl rfl) ?_
          refine wl_nil ?_
          refine rk_if rfl (fun h102 => ?_) (fun h102 => ?_)
          · obtain ⟨qa, ha1⟩ : ∃ qa, pieceU q1 ((p.drop j).take (j + 128 - j)) = qa := ⟨_, rfl⟩
            obtain ⟨qb, hb1⟩ : ∃ qb, pieceU q2 ((p.drop j).take (j + 128 - j)) = qb := ⟨_, rfl⟩
            have hqa8 : qa.length = 8 := by rw [← ha1]; exact pieceU_len _ hq18
            have hqb8 : qb.length = 8 := by rw [← hb1]; exact pieceU_len _ hq28
            have hc128 : ((p.drop j).take (j + 128 - j)).length = 128 := by rw [List.length_take, List.length_drop]; omega
            refine rk_skip ?_
            refine rk_seq ?_
            refine rk_block ?_
            refine rk_seq ?_
            refine rk_region ?_
            refine wl_p (fun _ => o_move rfl) ?_
            refine wl_p (fun _ => o_move rfl) ?_
            refine wl_p (fun _ => o_move rfl) ?_
            refine wl_p (fun _ => o_add rfl rfl (by omega) (by omega)) ?_
            refine wl_slBB Try.u8 (j) (j + 128) rfl rfl rfl f68.to_Rd rfl rfl (by omega) (by omega) (by omega) (by omega) ?_
            rintro A109 c109 f109 i109 i109_1
            refine wl_p (fun _ => (o_arrptr Try.underlying41 rfl (by omega))) ?_
            refine wl_r (o_ldArrRd Try.isAgg41 Try.sizeOf41 rfl f109 hc128) ?_
            refine wl_alloc128 ?_
            rintro g11 w11 f11 b11 i11 i11_1
            have s11 := b11.size
            replace hw := hw.trans (b11.mono hw.size)
            replace f109 := f109.u b11
            replace f68 := f68.u b11
            replace f_1 := f_1.u b11
            replace f := f.u b11
            refine wl_stBa Try.sizeOf41 rfl f11 rfl hc128 (by rfl) ?_
            rintro w_3 f_2 g_2 e_2
            have s_2 := g_2.size
            replace hw := hw.trans (below_of_grownBy g_2.g hw.size (by omega))
            replace f := f.k g_2.g (ap_some (by omega))
            replace f_1 := f_1.k g_2.g (ap_some (by omega))
            replace f68 := f68.k g_2.g (ap_some (by omega))
            clear f109
            clear f11
            refine wl_nil ?_
            refine rk_drawo (id := 17) (none) [0, 0, 3, 0, 0, 28, 39, 127] [0, 0, 3, 0, 0, 31, 63, 127] 228 4 [0, 1, 3, 4, 2, 5, 6, 7] [(.r, 0), (.r, 1), (.s, 3), (.s, 4), (.c, 2), (.l, 5), (.l, 6), (.l, 7)] (by kernel_rfl) (by kernel_rfl) (by kernel_rfl) (by kernel_rfl) (by kernel_rfl) ?_
            dsimp only [inOrder, nthOp]
            replace hw := hw.drew
            replace f68 := f68.d
            replace f_1 := f_1.d
            replace f := f.d
            replace f_2 := f_2.d
            refine wl_r (o_ldUa Try.isAgg28 Try.sizeOf28 rfl f hq18) ?_
            refine wl_r (o_ldBa Try.isAgg41 Try.sizeOf41 rfl f_2 hc128) ?_
            refine wl_s (fun _ hk => (o_ldUa Try.isAgg28 Try.sizeOf28 rfl (f_1.u (below_of_grown_none hk)) hq28)) ?_
            refine wl_s (fun _ hk => (o_ldBa Try.isAgg41 Try.sizeOf41 rfl (f_2.u (below_of_grown_none hk)) hc128)) ?_
            refine wl_call rfl (C_Piece _ ha1 hq18 hc128) ?_ (hq := .inr fun _ _ h => grown_of_below h.2 _)
            rintro v114 w114 ⟨rfl, b114⟩
            simp only [drew_size] at b114
            have s114 := b114.size
            simp only [drew_size] at s114
            replace hw := hw.trans (b114.mono hw.size)
            replace f_2 := f_2.u b114
            replace f := f.u b114
            replace f_1 := f_1.u b114
            replace f68 := f68.u b114
            refine wl_call rfl (C_Piece _ hb1 hq28 hc128) ?_
            rintro v117 w117 ⟨rfl, b117⟩
            have s117 := b117.size
            replace hw := hw.trans (b117.mono hw.size)
            replace f68 := f68.u b117
            replace f_1 := f_1.u b117
            replace f := f.u b117
            replace f_2 := f_2.u b117
            refine wl_stUa Try.sizeOf28 rfl f rfl hqa8 hq18 ?_
            rintro w_4 f_3 g_3 e_3
            have s_3 := g_3.size
            replace hw := hw.trans (below_of_grownBy g_3.g hw.size (by omega))
            replace f_2 := f_2.k g_3.g (ap_some (by omega))
            clear f
            replace f_1 := f_1.k g_3.g (ap_some (by omega))
            replace f68 := f68.k g_3.g (ap_some (by omega))
            refine wl_stUa Try.sizeOf28 rfl f_1 rfl hqb8 hq28 ?_
            rintro w_5 f g_4 e_4
            have s_4 := g_4.size
            replace hw := hw.trans (below_of_grownBy g_4.g hw.size (by omega))
            replace f68 := f68.k g_4.g (ap_some (by omega))
            clear f_1
            replace f_2 := f_2.k g_4.g (ap_some (by omega))
            replace f_3 := f_3.k g_4.g (ap_some (by omega))
            refine wl_nild ?_
            refine rk_blk ?_
            refine rk_region ?_
            refine wl_p (fun _ => o_move rfl) ?_
            refine wl_p (fun _ => o_add rfl rfl (by omega) (by omega)) ?_
            refine wl_p (fun _ => o_assign rfl) ?_
            refine wl_nil ?_
            exact rk_againf (Fr.le_of (by kernel_rfl) (by kernel_rfl) (by repeat' constructor)) ⟨k + 1, j + 128, (j : Int) + 128, qa, qb, rfl, by omega, by omega, by omega, rfl, hqa8, hqb8, by
              rw [List.range_succ, List.foldl_append, ← hq1, ← ha1, hj1, show 128 * k + 128 - 128 * k = 128 by omega]; rfl, by
              rw [List.range_succ, List.foldl_append, ← hq2, ← hb1, hj1, show 128 * k + 128 - 128 * k = 128 by omega]; rfl, f_3, f, f68, by omega, hw⟩ (by omega)
          · refine rk_exit rfl ?_
            obtain rfl : k = M := by omega
            have e1 : q1 = R1 := by rw [hq1, ← hR1]; unfold runU; rw [hM, Nat.mul_div_cancel_left _ (by decide)]
            have e2 : q2 = R2 := by rw [hq2, ← hR2]; unfold runU; rw [hM, Nat.mul_div_cancel_left _ (by decide)]
            rw [e1] at f
            rw [e2] at f_1
            exact rk_tof hj (Fr.le_of (by kernel_rfl) (by kernel_rfl) (by repeat' constructor)) ⟨rfl, f, f_1, hsz, hw⟩
        clear hw f f_1 f68
        rintro fr w3 ⟨rfl, f, f_1, hsz, hw⟩
        have shw3 := hw.size
        first | refine rk_frame (by simp only [List.cons_append, List.nil_append, List.drop_succ_cons, List.drop_zero]; rfl) ?_ | refine wl_frame (by simp only [List.cons_append, List.nil_append, List.drop_succ_cons, List.drop_zero]; rfl) ?_
        refine rk_seq ?_
        refine rk_region ?_
        refine wl_p (fun _ => o_move rfl) ?_
        refine wl_litKr1 (by rfl) rfl (hA.u hw) rfl (by omega) (by omega) (by rfl) ?_
        rintro A119 w119 f119 b119
        have s119 := b119.size
        replace hw := hw.trans (b119.mono hw.size)
        replace f_1 := f_1.u b119
        replace f := f.u b119
        refine wl_call rfl (C_Sum512 _ f119 h1 (by rfl) (by simp) (by omega)) ?_
        rintro v120 w120 ⟨rfl, b120⟩
        have s120 := b120.size
        replace hw := hw.trans (b120.mono hw.size)
        replace f := f.u b120
        replace f_1 := f_1.u b120
        replace f119 := f119.u b120
        refine wl_p (fun _ => o_move rfl) ?_
        refine wl_litKr1 (by rfl) rfl (hA.u hw) rfl (by omega) (by omega) (by rfl) ?_
        rintro A122 w122 f122 b122
        have s122 := b122.size
        replace hw := hw.trans (b122.mono hw.size)
        replace f119 := f119.u b122
        replace f_1 := f_1.u b122
        replace f := f.u b122
        refine wl_call rfl (C_Sum _ f122 h2 (by rfl) (by simp) (by omega)) ?_
        rintro v123 w123 ⟨rfl, b123⟩
        have s123 := b123.size
        replace hw := hw.trans (b123.mono hw.size)
        replace f := f.u b123
        replace f_1 := f_1.u b123
        replace f119 := f119.u b123
        replace f122 := f122.u b123
        refine wl_allocB Try.underlying37 Try.zeroValue37 (by rfl) ?_
        rintro g12 w12 f12 b12 i12 i12_1
        have s12 := b12.size
        replace hw := hw.trans (b12.mono hw.size)
        replace f122 := f122.u b12
        replace f119 := f119.u b12
        replace f_1 := f_1.u b12
        replace f := f.u b12
        refine wl_allocB Try.underlying43 Try.zeroValue43 (by rfl) ?_
        rintro g13 w13 f13 b13 i13 i13_1
        have s13 := b13.size
        replace hw := hw.trans (b13.mono hw.size)
        replace f := f.u b13
        replace f_1 := f_1.u b13
        replace f119 := f119.u b13
        replace f122 := f122.u b13
        replace f12 := f12.u b13
        refine wl_stBa Try.sizeOf37 rfl f12 rfl hr1 (by rfl) ?_
        rintro w_3 f_2 g_2 e_2
        have s_2 := g_2.size
        replace hw := hw.trans (below_of_grownBy g_2.g hw.size (by omega))
        clear f12
        clear f122
        clear f119
        replace f_1 := f_1.k g_2.g (ap_some (by omega))
        replace f := f.k g_2.g (ap_some (by omega))
        replace f13 := f13.k g_2.g (ap_some (by omega))
        refine wl_stBa Try.sizeOf43 rfl f13 rfl hr2 (by rfl) ?_
        rintro w_4 f_3 g_3 e_3
        have s_3 := g_3.size
        replace hw := hw.trans (below_of_grownBy g_3.g hw.size (by omega))
        clear f13
        replace f := f.k g_3.g (ap_some (by omega))
        replace f_1 := f_1.k g_3.g (ap_some (by omega))
        replace f_2 := f_2.k g_3.g (ap_some (by omega))
        refine wl_nil ?_
        refine rk_seq ?_
        refine rk_seq ?_
        refine rk_region ?_
        refine wl_p (fun _ => o_assign rfl) ?_
        refine wl_nil ?_
        refine rk_block ?_
        refine rk_joinf (fun fb fr w4 => fr = [] ++ fb.drop 1 ∧ Below w_4.heap.size w_4 w4) ?_ (fun ks hj => ?_)
        rotate_left
        · refine rk_loopf (fun fb m fr w4 => ∃ (n : Nat) (v : Int), fr = [(14, .int .i64 v)] ++ fb.drop 1 ∧ v = n ∧ n ≤ 64 ∧ m = 64 - n ∧ Below w_4.heap.size w_4 w4) (n := 64) (Fr.le_of (by kernel_rfl) (by kernel_rfl) (by repeat' constructor)) ⟨0, _, rfl, rfl, by omega, rfl, Below.refl _ _⟩ ?_
          rintro m fr w4 ⟨n, v, rfl, rfl, hn, rfl, hw1⟩
          first | refine rk_frame (by simp only [List.cons_append, List.nil_append, List.drop_succ_cons, List.drop_zero]; rfl) ?_ | refine wl_frame (by simp only [List.cons_append, List.nil_append, List.drop_succ_cons, List.drop_zero]; rfl) ?_
          have shw1 := hw1.size
          replace hw := hw.trans (hw1.mono hw.size)
          replace f_2 := f_2.u hw1
          replace f_1 := f_1.u hw1
          replace f := f.u hw1
          replace f_3 := f_3.u hw1
          refine rk_seq ?_
          refine rk_seq ?_
          refine rk_region ?_
          refine wl_p (fun _ => o_move rfl) ?_
          refine wl_p (fun _ => o_lt rfl rfl) ?_
          refine wl_nil ?_
          refine rk_if rfl (fun h125 => ?_) (fun h125 => ?_)
          · have hn64 : n < r1.length := by omega
            have hnR : n / 8 < R1.length := by omega
            have hnR2 : n / 8 < R2.length := by omega
            have hb1 : r1[n] = (shrU R1[n / 8] (56 - 8 * (n % 8))).toUInt8 := by
              have := byte_eq (l := R1) (n := n) (by rw [hr1e]; exact hn64) hnR
              simp only [hr1e] at this
              exact this
            refine rk_skip ?_
            refine rk_seq ?_
            refine rk_block ?_
            refine rk_seq ?_
            refine rk_draw (id := 22) (none) [0, 1, 2, 0, 8, 16, 32, 0, 128, 256, 512, 1024, 2112, 4096, 8196, 16384, 32768, 98304, 163840, 262144, 786432, 1310720, 262144, 4456448, 8650752, 17039360, 262144, 67371008, 134479872, 268697600, 537133056, 1107558400, 2147745792, 4297326592, 8590229504, 17179901952] [0, 1, 3, 0, 8, 24, 56, 0, 128, 384, 896, 1920, 4088, 8184, 16383, 32767, 65535, 131071, 262143, 524287, 1048575, 2097151, 524287, 4718591, 13107199, 29884415, 524287, 67633151, 201850879, 470286335, 1007157247, 2143813631, 4291297279, 8589934591, 17179869183, 34359738367] 0 0 [(.p, 0), (.p, 1), (.r, 2), (.p, 3), (.p, 4), (.p, 5), (.r, 6), (.p, 7), (.p, 8), (.p, 9), (.p, 10), (.p, 11), (.p, 12), (.p, 13), (.p, 14), (.p, 15), (.p, 16), (.p, 17), (.p, 18), (.p, 19), (.p, 20), (.r, 21), (.p, 22), (.p, 23), (.p, 24), (.r, 25), (.p, 26), (.p, 27), (.p, 28), (.p, 29), (.p, 30), (.p, 31), (.p, 32), (.p, 33), (.p, 34), (.p, 35)] (by kernel_rfl) (by kernel_rfl) (by kernel_rfl) (by kernel_rfl) (by kernel_rfl) ?_
            replace hw1 := hw1.drew
            replace hw := hw.drew
            replace f_3 := f_3.d
            replace f := f.d
            replace f_1 := f_1.d
            replace f_2 := f_2.d
            refine wl_p (fun _ => o_move rfl) ?_
            refine wl_p (fun _ => (o_iaddrP (n) Try.underlying37 Try.sizeOf5 rfl rfl rfl (by omega))) ?_
            refine wl_r (o_ldB Try.isAgg5 rfl f_2 (by omega)) ?_
            refine wl_p (fun _ => o_move rfl) ?_
            refine wl_p (fun _ => o_quo rfl rfl (by omega) (by omega) (by omega)) ?_
            refine wl_p (fun _ => (o_iaddrP (n / 8) Try.underlying28 Try.sizeOf25 rfl rfl (by omega) (by omega))) ?_
            refine wl_r (o_ldU Try.isAgg25 rfl f (by omega)) ?_
            refine wl_p (fun _ => o_move rfl) ?_
            refine wl_p (fun _ => o_rem rfl rfl (by omega) (by omega)) ?_
            refine wl_p (fun _ => o_mul rfl rfl (by omega) (by omega)) ?_
            refine wl_p (fun _ => o_sub rfl rfl (by omega) (by omega)) ?_
            refine wl_p (fun _ => o_convu64 (src := 3) (dst := 35) Try.underlying3 Try.underlying35 rfl (by omega) (by omega)) ?_
            refine wl_p (fun _ => o_shrU rfl rfl (by omega) (by omega)) ?_
            refine wl_p (fun _ => o_convU8 (src := 25) (dst := 5) Try.underlying25 Try.underlying5 rfl) ?_
            refine wl_p (fun _ => o_ne rfl rfl) ?_
            refine wl_p (fun _ => o_move rfl) ?_
            rw [show (56 - 8 * ((n : Int) % 8)).toNat = 56 - 8 * (n % 8) by omega, ← hb1, show decide ((r1[n].toNat : Int) ≠ (r1[n].toNat : Int)) = false from decide_eq_false (fun h => h rfl)]
            rcases Nat.lt_or_ge n 32 with h32 | h32
            · have hn32 : n < r2.length := by omega
              have hb2 : r2[n] = (shrU R2[n / 8] (56 - 8 * (n % 8))).toUInt8 := by
                have := byte_eq (l := R2) (n := n) (by rw [bytesU_len]; omega) hnR2
                rw [← this]
                simp only [← hr2e, List.getElem_take]
              refine wl_p (fun _ => o_move rfl) ?_
              refine wl_p (fun _ => o_lt rfl rfl) ?_
              rw [show decide ((n : Int) < 32) = true from decide_eq_true (by omega)]
              refine wl_p (fun _ => o_move rfl) ?_
              refine wl_p (fun _ => o_move rfl) ?_
              refine wl_p (fun _ => (o_iaddrP (n) Try.underlying43 Try.sizeOf5 rfl rfl rfl (by omega))) ?_
              refine wl_r (o_ldB Try.isAgg5 rfl f_3 (by omega)) ?_
              refine wl_p (fun _ => o_move rfl) ?_
              refine wl_p (fun _ => o_quo rfl rfl (by omega) (by omega) (by omega)) ?_
              refine wl_p (fun _ => (o_iaddrP (n / 8) Try.underlying28 Try.sizeOf25 rfl rfl (by omega) (by omega))) ?_
              refine wl_r (o_ldU Try.isAgg25 rfl f_1 (by omega)) ?_
              refine wl_p (fun _ => o_move rfl) ?_
              refine wl_p (fun _ => o_rem rfl rfl (by omega) (by omega)) ?_
              refine wl_p (fun _ => o_mul rfl rfl (by omega) (by omega)) ?_
              refine wl_p (fun _ => o_sub rfl rfl (by omega) (by omega)) ?_
              refine wl_p (fun _ => o_convu64 (src := 3) (dst := 35) Try.underlying3 Try.underlying35 rfl (by omega) (by omega)) ?_
              refine wl_p (fun _ => o_shrU rfl rfl (by omega) (by omega)) ?_
              refine wl_p (fun _ => o_convU8 (src := 25) (dst := 5) Try.underlying25 Try.underlying5 rfl) ?_
              refine wl_p (fun _ => o_ne rfl rfl) ?_
              refine wl_p (fun _ => o_pick_t rfl rfl) ?_
              refine wl_p (fun _ => o_pick_f rfl rfl) ?_
              refine wl_nild ?_
              rw [show (56 - 8 * ((n : Int) % 8)).toNat = 56 - 8 * (n % 8) by omega, ← hb2, show decide ((r2[n].toNat : Int) ≠ (r2[n].toNat : Int)) = false from decide_eq_false (fun h => h rfl)]
              refine rk_false rfl ?_
              refine rk_skip ?_
              refine rk_blk ?_
              refine rk_region ?_
              refine wl_p (fun _ => o_move rfl) ?_
              refine wl_p (fun _ => o_add rfl rfl (by omega) (by omega)) ?_
              refine wl_p (fun _ => o_assign rfl) ?_
              refine wl_nil ?_
              exact rk_againf (Fr.le_of (by kernel_rfl) (by kernel_rfl) (by repeat' constructor)) ⟨n + 1, (n : Int) + 1, rfl, by omega, by omega, rfl, hw1⟩ (by omega)
            · refine wl_p (fun _ => o_move rfl) ?_
              refine wl_p (fun _ => o_lt rfl rfl) ?_
              rw [show decide ((n : Int) < 32) = false from decide_eq_false (by omega)]
              refine wl_p (fun _ => o_move rfl) ?_
              refine wl_off ?_
              refine wl_off ?_
              refine wl_off ?_
              refine wl_off ?_
              refine wl_off ?_
              refine wl_off ?_
              refine wl_off ?_
              refine wl_off ?_
              refine wl_off ?_
              refine wl_off ?_
              refine wl_off ?_
              refine wl_off ?_
              refine wl_off ?_
              refine wl_off ?_
              refine wl_off ?_
              refine wl_p (fun _ => o_pick_f rfl rfl) ?_
              refine wl_p (fun _ => o_pick_f rfl rfl) ?_
              refine wl_nild ?_
              refine rk_false rfl ?_
              refine rk_skip ?_
              refine rk_blk ?_
              refine rk_region ?_
              refine wl_p (fun _ => o_move rfl) ?_
              refine wl_p (fun _ => o_add rfl rfl (by omega) (by omega)) ?_
              refine wl_p (fun _ => o_assign rfl) ?_
              refine wl_nil ?_
              exact rk_againf (Fr.le_of (by kernel_rfl) (by kernel_rfl) (by repeat' constructor)) ⟨n + 1, (n : Int) + 1, rfl, by omega, by omega, rfl, hw1⟩ (by omega)
          · refine rk_exit rfl ?_
            exact rk_tof hj (Fr.le_of (by kernel_rfl) (by kernel_rfl) (by repeat' constructor)) ⟨rfl, hw1⟩
        rintro fr w4 ⟨rfl, hw1⟩
        first | refine rk_frame (by simp only [List.cons_append, List.nil_append, List.drop_succ_cons, List.drop_zero]; rfl) ?_ | refine wl_frame (by simp only [List.cons_append, List.nil_append, List.drop_succ_cons, List.drop_zero]; rfl) ?_
        have shw1 := hw1.size
        replace hw := hw.trans (hw1.mono hw.size)
        replace f_2 := f_2.u hw1
        replace f_1 := f_1.u hw1
        replace f := f.u hw1
        replace f_3 := f_3.u hw1
        refine rk_seq ?_
        refine rk_region ?_
        refine wl_p (fun _ => o_assign rfl) ?_
        refine wl_nil ?_
        refine ret1 rfl rfl ?_
        exact ⟨rfl, hw⟩
      · refine wl_litKr1 (by rfl) rfl (hA.u hw) rfl (by omega) (by omega) (by rfl) ?_
        rintro A52 w52 f52 b52
        have s52 := b52.size
        replace hw := hw.trans (b52.mono hw.size)
        replace f59 := f59.u b52
        replace f56 := f56.u b52
        replace f47 := f47.u b52
        refine wl_fork2j (m := 66584575) (L := 202137606) (C := 0) (n := 5) (k1 := 19) (k2 := 26) _ [0, 1, 2, 0, 0, 24, 0, 0, 0, 448, 0, 0, 3072, 4640, 8196, 16388, 49152, 65536, 196608, 327680, 65536, 65536, 3211264, 65536, 65536, 25231360, 37814272, 67698688, 134807552, 268500992] [0, 1, 3, 0, 0, 24, 0, 0, 0, 448, 0, 0, 3072, 8184, 16383, 32767, 65535, 131071, 262143, 524287, 131071, 131071, 3276799, 131071, 131071, 25296895, 66191359, 134217727, 268435455, 536870911] [19, 26, 27, 28, 29] [26, 19, 27, 28, 29] [27, 28, 29] [(.l, 26), (.l, 27), (.p, 28), (.p, 29)] [(.l, 19), (.l, 27), (.p, 28), (.p, 29)] [(.l, 27), (.p, 28), (.p, 29)] (by kernel_rfl) (by kernel_rfl) (by kernel_rfl) (by kernel_rfl) (by kernel_rfl) hj (fun hj => ?_) (fun hj => ?_) <;> dsimp only [inOrder, nthOp]
        · refine wl_call rfl (C_Sum _ f52 h2 (by rfl) (by simp) (by omega)) ?_
          rintro v53 w53 ⟨rfl, b53⟩
          have s53 := b53.size
          replace hw := hw.trans (b53.mono hw.size)
          replace f47 := f47.u b53
          replace f56 := f56.u b53
          replace f59 := f59.u b53
          replace f52 := f52.u b53
          refine wl_litKr2 (by rfl) rfl f56 f59 (by omega) (by omega) (by omega) (by omega) (by omega) (by omega) (by rfl) ?_
          rintro A60 w60 f60 b60
          have s60 := b60.size
          replace hw := hw.trans (b60.mono hw.size)
          replace f52 := f52.u b60
          replace f59 := f59.u b60
          replace f56 := f56.u b60
          replace f47 := f47.u b60
          exact wl_tof hj (Fr.le_of (by kernel_rfl) (by kernel_rfl) (by repeat' constructor)) ⟨_, rfl, f60, hw⟩
        · refine wl_litKr2 (by rfl) rfl f56 f59 (by omega) (by omega) (by omega) (by omega) (by omega) (by omega) (by rfl) ?_
          rintro A60 w60 f60 b60
          have s60 := b60.size
          replace hw := hw.trans (b60.mono hw.size)
          replace f47 := f47.u b60
          replace f56 := f56.u b60
          replace f59 := f59.u b60
          replace f52 := f52.u b60
          refine wl_call rfl (C_Sum _ f52 h2 (by rfl) (by simp) (by omega)) ?_
          rintro v53 w53 ⟨rfl, b53⟩
          have s53 := b53.size
          replace hw := hw.trans (b53.mono hw.size)
          replace f52 := f52.u b53
          replace f59 := f59.u b53
          replace f56 := f56.u b53
          replace f47 := f47.u b53
          replace f60 := f60.u b53
          exact wl_tof hj (Fr.le_of (by kernel_rfl) (by kernel_rfl) (by repeat' constructor)) ⟨_, rfl, f60, hw⟩
      · refine wl_litKr2 (by rfl) rfl f56 f59 (by omega) (by omega) (by omega) (by omega) (by omega) (by omega) (by rfl) ?_
        rintro A60 w60 f60 b60
        have s60 := b60.size
        replace hw := hw.trans (b60.mono hw.size)
        replace f59 := f59.u b60
        replace f56 := f56.u b60
        replace f47 := f47.u b60
        refine wl_litKr1 (by rfl) rfl (hA.u hw) rfl (by omega) (by omega) (by rfl) ?_
        rintro A52 w52 f52 b52
        have s52 := b52.size
        replace hw := hw.trans (b52.mono hw.size)
        replace f47 := f47.u b52
        replace f56 := f56.u b52
        replace f59 := f59.u b52
        replace f60 := f60.u b52
        refine wl_call rfl (C_Sum _ f52 h2 (by rfl) (by simp) (by omega)) ?_
        rintro v53 w53 ⟨rfl, b53⟩
        have s53 := b53.size
        replace hw := hw.trans (b53.mono hw.size)
        replace f60 := f60.u b53
        replace f59 := f59.u b53
        replace f56 := f56.u b53
        replace f47 := f47.u b53
        replace f52 := f52.u b53
        exact wl_tof hj (Fr.le_of (by kernel_rfl) (by kernel_rfl) (by repeat' constructor)) ⟨_, rfl, f60, hw⟩
    · refine wl_litKr1 (by rfl) rfl (hA.u hw) rfl (by omega) (by omega) (by rfl) ?_
      rintro A35 w35 f35 b35
      simp only [drew_size] at b35
      have s35 := b35.size
      simp only [drew_size] at s35
      replace hw := hw.trans (b35.mono hw.size)
      replace f46 := f46.u b35
      replace f43 := f43.u b35
      replace f39 := f39.u b35
      refine wl_fork2j (m := 8187) (L := 202137606) (C := 0) (n := 18) (k1 := 2) (k2 := 13) _ [0, 1, 2, 0, 0, 24, 0, 0, 0, 448, 0, 0, 3072, 4640, 8196, 16388, 49152, 65536, 196608, 327680, 65536, 65536, 3211264, 65536, 65536, 25231360, 37814272, 67698688, 134807552, 268500992] [0, 1, 3, 0, 0, 24, 0, 0, 0, 448, 0, 0, 3072, 8184, 16383, 32767, 65535, 131071, 262143, 524287, 131071, 131071, 3276799, 131071, 131071, 25296895, 66191359, 134217727, 268435455, 536870911] [2, 13, 14, 15, 16, 17, 20, 21, 22, 23, 24, 25] [13, 2, 14, 15, 16, 17, 20, 21, 22, 23, 24, 25] [14, 15, 16, 17, 20, 21, 22, 23, 24, 25] [(.l, 13), (.l, 14), (.p, 15), (.p, 16), (.p, 17), (.p, 20), (.p, 21), (.p, 22), (.p, 23), (.p, 24), (.p, 25), (.f 66322431 202137606 0, 6)] [(.l, 2), (.l, 14), (.p, 15), (.p, 16), (.p, 17), (.p, 20), (.p, 21), (.p, 22), (.p, 23), (.p, 24), (.p, 25), (.f 66322431 202137606 0, 6)] [(.l, 14), (.p, 15), (.p, 16), (.p, 17), (.p, 20), (.p, 21), (.p, 22), (.p, 23), (.p, 24), (.p, 25), (.f 66322431 202137606 0, 6)] (by kernel_rfl) (by kernel_rfl) (by kernel_rfl) (by kernel_rfl) (by kernel_rfl) hj (fun hj => ?_) (fun hj => ?_) <;> dsimp only [inOrder, nthOp]
      · refine wl_call rfl (C_Sum512 _ f35 h1 (by rfl) (by simp) (by omega)) ?_
        rintro v36 w36 ⟨rfl, b36⟩
        have s36 := b36.size
        replace hw := hw.trans (b36.mono hw.size)
        replace f39 := f39.u b36
        replace f43 := f43.u b36
        replace f46 := f46.u b36
        replace f35 := f35.u b36
        refine wl_litKr3 (by rfl) rfl f39 f43 f46 (by omega) (by omega) (by omega) (by omega) (by omega) (by omega) (by omega) (by omega) (by omega) (by rfl) ?_
        rintro A47 w47 f47 b47
        have s47 := b47.size
        replace hw := hw.trans (b47.mono hw.size)
        replace f35 := f35.u b47
        replace f46 := f46.u b47
        replace f43 := f43.u b47
        replace f39 := f39.u b47
        exact wl_tof hj (Fr.le_of (by kernel_rfl) (by kernel_rfl) (by repeat' constructor)) ⟨_, rfl, f47, hw⟩
      · refine wl_litKr3 (by rfl) rfl f39 f43 f46 (by omega) (by omega) (by omega) (by omega) (by omega) (by omega) (by omega) (by omega) (by omega) (by rfl) ?_
        rintro A47 w47 f47 b47
        have s47 := b47.size
        replace hw := hw.trans (b47.mono hw.size)
        replace f39 := f39.u b47
        replace f43 := f43.u b47
        replace f46 := f46.u b47
        replace f35 := f35.u b47
        refine wl_call rfl (C_Sum512 _ f35 h1 (by rfl) (by simp) (by omega)) ?_
        rintro v36 w36 ⟨rfl, b36⟩
        have s36 := b36.size
        replace hw := hw.trans (b36.mono hw.size)
        replace f35 := f35.u b36
        replace f46 := f46.u b36
        replace f43 := f43.u b36
        replace f39 := f39.u b36
        replace f47 := f47.u b36
        exact wl_tof hj (Fr.le_of (by kernel_rfl) (by kernel_rfl) (by repeat' constructor)) ⟨_, rfl, f47, hw⟩
    · refine wl_litKr3 (by rfl) rfl f39 f43 f46 (by omega) (by omega) (by omega) (by omega) (by omega) (by omega) (by omega) (by omega) (by omega) (by rfl) ?_
      rintro A47 w47 f47 b47
      simp only [drew_size] at b47
      have s47 := b47.size
      simp only [drew_size] at s47
      replace hw := hw.trans (b47.mono hw.size)
      replace f46 := f46.u b47
      replace f43 := f43.u b47
      replace f39 := f39.u b47
      refine wl_litKr1 (by rfl) rfl (hA.u hw) rfl (by omega) (by omega) (by rfl) ?_
      rintro A35 w35 f35 b35
      have s35 := b35.size
      replace hw := hw.trans (b35.mono hw.size)
      replace f39 := f39.u b35
      replace f43 := f43.u b35
      replace f46 := f46.u b35
      replace f47 := f47.u b35
      refine wl_call rfl (C_Sum512 _ f35 h1 (by rfl) (by simp) (by omega)) ?_
      rintro v36 w36 ⟨rfl, b36⟩
      have s36 := b36.size
      replace hw := hw.trans (b36.mono hw.size)
      replace f47 := f47.u b36
      replace f46 := f46.u b36
      replace f43 := f43.u b36
      replace f39 := f39.u b36
      replace f35 := f35.u b36
      exact wl_tof hj (Fr.le_of (by kernel_rfl) (by kernel_rfl) (by repeat' constructor)) ⟨_, rfl, f47, hw⟩
end Go.Proofs.Ytldhmnakkkjenaa
