/-
  Walks of package sha: sums.
-/
import Derived.Test.YtpjedpmbninfcaaShF
namespace Go.Proofs.Ytpjedpmbninfcaa
open Go.RowKit
section
variable {P : Program} {fn : Func} {F : Ending → World → Prop} {N : Nat} {ks : List K} {ops : Array Oper} {tg : Tags} {l : List Oper} {fr : Fr} {w : World} {ty t t' : TypeId} {pos : String} {aft : Array Edge} {gd : Option (Nat × Bool)} {d n g : Nat} {x y z : Operand} {h : Int} {kh : IntKind}
theorem rd_pre {c : By} (hB : Blk w g t' (B8 c)) (k : Nat) : Rd w (some ⟨g, 0, none⟩) (c.take k) := by
  refine ⟨by rw [B8_length, Nat.mul_one], fun _ => ⟨g, 0, rfl, fun j u hj => ?_⟩⟩
  rw [Nat.zero_add, hB.cell]
  unfold B8 at hj ⊢
  rw [List.getElem?_map] at hj ⊢
  rcases Nat.lt_or_ge j k with h | h
  · rw [List.getElem?_take_of_lt h] at hj; exact hj
  · rw [List.getElem?_eq_none (by rw [List.length_take]; omega)] at hj; cases hj
--@ rule slice l wl_slArrHi
theorem wl_slArrHi {c : By} (k : Nat) (hu : P.underlying t = some (.array n 5)) (hs : ∀ w, (sizeOf 5).run P w = .ok 1 w) (hx : fr.ev x = some (.pointer (some ⟨g, 0, none⟩))) (hB : Blk w g t' (B8 c)) (hz : fr.ev z = some (.int kh h)) (hh : h = (k : Int)) (hk : k ≤ n)
    (hK : Rd w (some ⟨g, 0, none⟩) (c.take k) → WL P fn F N ks ops tg.tail l ((d, .slice (some ⟨g, 0, none⟩) k n) :: fr) w)
    (ht : tg.reads = true := by rfl) (hg : onG ops fr gd = true := by rfl) (hd : Nat.blt d N = true := by rfl) : WL P fn F N ks ops tg (⟨some d, .slice t x none (some z) none, ty, pos, aft, gd⟩ :: l) fr w := by
  subst hh
  refine wl_r (fun a ha op hop _ => ?_) (hK (rd_pre hB k)) ht hg hd
  simp [execOp, hop, ha.ev hx, ha.ev hz, Instr.sliceAt, Instr.sureAddr, run_underlying hu, Instr.sliceBounds, Instr.sliceBound, asIntOf, hs, hk, Addr.add]
--@ rule load r o_ldBpre
theorem o_ldBpre {c : By} (ha' : ∀ w, (isAgg t).run P w = .ok true w) (hs : ∀ w, (sizeOf t).run P w = .ok n w) (hx : fr.ev x = some (.pointer (some ⟨g, 0, none⟩))) (hB : Blk w g t' (B8 c)) (hn : n ≤ c.length) : OpV P N fr w (.load t x) ty (.agg (B8 (c.take n)).toArray) w := by
  have hl : (B8 (c.take n)).length = n := by rw [B8_length, List.length_take]; omega
  refine o_loadn (cs := B8 (c.take n)) ha' (by rw [hl]; exact hs) hx (fun j v hj => ?_)
  obtain ⟨b, o, e, hc⟩ := (rd_pre hB n).2 (by intro e; rw [e] at hj; cases hj)
  injection e with e
  injection e with e1 e2
  subst e1; subst e2
  rw [add_plain]
  exact hc j v hj
end
section
variable {fn : Func} {F : Ending → World → Prop} {N : Nat} {ks : List K} {ops : Array Oper} {tg : Tags} {l : List Oper} {fr : Fr} {w : World} {ty : TypeId} {pos : String} {aft : Array Edge} {gd : Option (Nat × Bool)} {d : Nat}
theorem Try.rowKey : RowT Try.prog 63 26 (.slice none 0 0) 1 24 := ⟨Try.underlying63, by kernel_rfl, rfl, by omega⟩
--@ rule buildSlice l wl_litK1
theorem wl_litK1 {ps : Array (Nat × Operand)} {xs : List Operand} {A1 : Option Addr} {n1 c1 : Nat} {p1 : By} (hxs : ps.toList.map Prod.snd = xs) (hx : fr.evs xs = some [.slice A1 n1 c1]) (h1 : RdT w A1 p1) (hn1 : n1 = p1.length) (hc1 : p1.length ≤ c1) (hm1 : c1 ≤ 9223372036854775807) (hps : ps = ((List.range' 0 1).zip xs).toArray)
    (hk : ∀ A w', RKy w' A [p1] → Below w.heap.size w w' → WL Try.prog fn F N ks ops tg.tail l ((d, .slice A 1 1) :: fr) w')
    (ht : tg.loud = true := by rfl) (hg : onG ops fr gd = true := by rfl) (hd : Nat.blt d N = true := by rfl) : WL Try.prog fn F N ks ops tg (⟨some d, .buildSlice 63 1 ps, ty, pos, aft, gd⟩ :: l) fr w := by
  subst hn1
  refine wl_litS (X := gBytes) (L := [p1]) Try.rowKey Try.sizeOf26 Try.zeroValue26 hxs hps hx rfl rfl (fun i h => ?_) rfl (fun A w' h1 h2 => hk A w' h1.to_RSl h2) ht hg hd
  obtain rfl : i = 0 := by simp at h; omega
  exact ⟨_, rfl, rfl, A1, c1, rfl, h1, hc1, by simp only [maxLen]; omega⟩
end
/-- The start of the short sums, ahead of their name's piece. -/
def Tl : List UInt64 := Sl.map (· ^^^ 11936128518282651045)
theorem Tl_len : Tl.length = 8 := rfl
def nameB : By := [83, 72, 65, 45, 53, 49, 50, 47, 50, 53, 54]
def Ul : List UInt64 := runU Tl (padU nameB)
theorem Ul_len : Ul.length = 8 := runU_len _ Tl_len
theorem map_next {f : UInt64 → UInt64} {l q : List UInt64} {i : Nat} (hq : q = (l.map f).take i ++ l.drop i) (h1 : i < q.length) (h2 : i < l.length) : q.set i (f q[i]) = (l.map f).take (i + 1) ++ l.drop (i + 1) := by
  have ht : ((l.map f).take i).length = i := by rw [List.length_take, List.length_map]; omega
  have hqi : q[i] = l[i] := by
    subst hq
    rw [List.getElem_append_right (by omega)]
    simp only [ht, Nat.sub_self, List.getElem_drop, Nat.add_zero]
  rw [hqi, hq, List.set_append_right _ _ (by omega), ht, Nat.sub_self, List.drop_eq_getElem_cons h2, List.set_cons_zero, List.take_succ_eq_append_getElem (by rw [List.length_map]; exact h2), List.getElem_map, List.append_assoc]
  rfl
set_option maxHeartbeats 1000000 in
set_option maxRecDepth 100000 in
theorem C_StartShort {r : List UInt64} (w : World) (hr : Ul = r) :
    CallsR Try.prog 31 [] w fun v w' => v = .agg (vU r).toArray ∧ Below w.heap.size w w' := by
  have hr8 : r.length = 8 := by rw [← hr]; exact Ul_len
  have hr2 : runU Tl (padU [nameB].flatten) = r := by rw [← hr]; rfl
  have hS8 : Sl.length = 8 := Sl_len
  obtain ⟨tl, htl⟩ : ∃ tl, Tl = tl := ⟨_, rfl⟩
  obtain ⟨sl, hsl⟩ : ∃ sl, Sl = sl := ⟨_, rfl⟩
  have hts : sl.map (· ^^^ 11936128518282651045) = tl := by rw [← htl, ← hsl]; rfl
  have ht8 : tl.length = 8 := by rw [← htl]; rfl
  rw [htl] at hr2
  rw [hsl] at hS8
  refine callsR Try.func31 rfl rfl (by kernel_rfl) rfl ?_
  have hw := Below.refl w.heap.size w
  refine rk_seq ?_
  refine rk_region ?_
  refine wl_allocU Try.underlying66 Try.zeroValue66 (by rfl) ?_
  rintro g0 w0 f0 b0 i0 i0_1
  have s0 := b0.size
  replace hw := hw.trans (b0.mono hw.size)
  refine wl_nil ?_
  refine rk_seq ?_
  refine rk_region ?_
  refine wl_call rfl (C_Start _) ?_
  rintro v3 w3 ⟨rfl, b3⟩
  have s3 := b3.size
  replace hw := hw.trans (b3.mono hw.size)
  replace f0 := f0.u b3
  refine wl_allocU Try.underlying66 Try.zeroValue66 (by rfl) ?_
  rintro g1 w1 f1 b1 i1 i1_1
  have s1 := b1.size
  replace hw := hw.trans (b1.mono hw.size)
  replace f0 := f0.u b1
  refine wl_stUa Try.sizeOf66 rfl f1 rfl (by rfl) (by rfl) ?_
  rintro w_1 f g e
  have s := g.size
  replace hw := hw.trans (below_of_grownBy g.g hw.size (by omega))
  replace f0 := f0.k g.g (ap_some (by omega))
  clear f1
  refine wl_nil ?_
  refine rk_seq ?_
  refine rk_seq ?_
  refine rk_region ?_
  refine wl_p (fun _ => o_move rfl) ?_
  refine wl_nil ?_
  refine rk_block ?_
  rw [hsl] at f
  refine rk_joinf (fun fb fr w2 => fr = [] ++ fb.drop 1 ∧ Blk w2 g1 66 (vU tl) ∧ Blk w2 g0 66 (vU (List.replicate 8 0)) ∧ w_1.heap.size ≤ w2.heap.size ∧ Below w.heap.size w w2) ?_ (fun ks hj => ?_)
  rotate_left
  · refine rk_loopf (fun fb m fr w2 => ∃ (i : Nat) (v : Int) (q : List UInt64), fr = [(4, .int .i64 v)] ++ fb ∧ v = i ∧ i ≤ 8 ∧ m = 8 - i ∧ q = (sl.map (· ^^^ 11936128518282651045)).take i ++ sl.drop i ∧ Blk w2 g1 66 (vU q) ∧ Blk w2 g0 66 (vU (List.replicate 8 0)) ∧ w_1.heap.size ≤ w2.heap.size ∧ Below w.heap.size w w2) (n := 8) (Fr.le_of (by kernel_rfl) (by kernel_rfl) (by repeat' constructor)) ⟨0, _, _, rfl, rfl, by omega, rfl, rfl, f, f0, Nat.le_refl _, hw⟩ ?_
    clear hw f f0
    rintro m fr w2 ⟨i, v, q, rfl, rfl, hi, rfl, hq, f, f0, hsz, hw⟩
    have shw := hw.size
    have hql : q.length = 8 := by
      rw [hq, List.length_append, List.length_take, List.length_map, List.length_drop]; omega
    first | refine rk_frame (by simp only [List.cons_append, List.nil_append, List.drop_succ_cons, List.drop_zero]; rfl) ?_ | refine wl_frame (by simp only [List.cons_append, List.nil_append, List.drop_succ_cons, List.drop_zero]; rfl) ?_
    refine rk_seq ?_
    refine rk_region ?_
    refine wl_p (fun _ => o_lt rfl rfl) ?_
    refine wl_nil ?_
    refine rk_seq ?_
    refine rk_if rfl (fun h5 => ?_) (fun h5 => ?_)
    · have hil : i < q.length := by omega
      have e1 : bits .xor .u64 (q[i].toNat : Int) 11936128518282651045 = ((q[i] ^^^ 11936128518282651045).toNat : Int) := by
        rw [UInt64.toNat_xor]; exact bits_xor_u64_nat q[i].toNat 11936128518282651045 (u64_lt _) (by decide)
      refine rk_skip ?_
      refine rk_seq ?_
      refine rk_block ?_
      refine rk_seq ?_
      refine rk_region ?_
      refine wl_p (fun _ => o_move rfl) ?_
      refine wl_p (fun _ => o_assign rfl) ?_
      refine wl_nil ?_
      refine rk_region ?_
      refine wl_p (fun _ => o_move rfl) ?_
      refine wl_p (fun _ => (o_iaddrP (i) Try.underlying66 Try.sizeOf25 rfl rfl rfl (by omega))) ?_
      refine wl_r (o_ldU Try.isAgg25 rfl f (by omega)) ?_
      refine wl_p (fun _ => o_xor rfl rfl) ?_
      refine wl_p (fun _ => (o_iaddrP (i) Try.underlying66 Try.sizeOf25 rfl rfl rfl (by omega))) ?_
      rw [e1]
      refine wl_stU Try.sizeOf25 rfl f rfl (by omega) ?_
      rintro w_2 f_1 g_1 e_1
      have s_1 := g_1.size
      replace hw := hw.trans (below_of_grownBy g_1.g hw.size (by omega))
      replace f0 := f0.k g_1.g (ap_some (by omega))
      clear f
      refine wl_nil ?_
      refine rk_blk ?_
      refine rk_region ?_
      refine wl_p (fun _ => o_add rfl rfl (by omega) (by omega)) ?_
      refine wl_p (fun _ => o_move rfl) ?_
      refine wl_nil ?_
      exact rk_againf (Fr.le_of (by kernel_rfl) (by kernel_rfl) (by repeat' constructor)) ⟨i + 1, (i : Int) + 1, _, rfl, by omega, by omega, rfl, map_next (f := (· ^^^ 11936128518282651045)) hq hil (by omega), f_1, f0, by omega, hw⟩ (by omega)
    · refine rk_exit rfl ?_
      obtain rfl : i = 8 := by omega
      rw [List.take_of_length_le (by rw [List.length_map]; omega), List.drop_of_length_le (by omega), List.append_nil, hts] at hq
      subst hq
      exact rk_tof hj (Fr.le_of (by kernel_rfl) (by kernel_rfl) (by repeat' constructor)) ⟨rfl, f, f0, hsz, hw⟩
  clear hw f f0
  rintro fr w2 ⟨rfl, f, f0, hsz, hw⟩
  have shw := hw.size
  have hn2 : ∀ x ∈ ([[83, 72, 65, 45, 53, 49, 50, 47, 50, 53, 54]] : List By), x.length ≤ 10000 := fun x hx => by
    rw [List.mem_singleton] at hx; subst hx; decide
  have hr3 : runU tl (padU ([[83, 72, 65, 45, 53, 49, 50, 47, 50, 53, 54]] : List By).flatten) = r := hr2
  first | refine rk_frame (by simp only [List.cons_append, List.nil_append, List.drop_succ_cons, List.drop_zero]; rfl) ?_ | refine wl_frame (by simp only [List.cons_append, List.nil_append, List.drop_succ_cons, List.drop_zero]; rfl) ?_
  refine rk_seq ?_
  refine rk_region ?_
  refine wl_r (o_ldUa Try.isAgg66 Try.sizeOf66 rfl f ht8) ?_
  refine wl_litC [83, 72, 65, 45, 53, 49, 50, 47, 50, 53, 54] Try.u8 Try.sizeOf5 Try.zeroValue5 (by rfl) rfl rfl (by rfl) (by rfl) (by rfl) ?_
  rintro A14 w14 f14 b14
  have s14 := b14.size
  replace hw := hw.trans (b14.mono hw.size)
  replace f0 := f0.u b14
  replace f := f.u b14
  refine wl_litK1 (by rfl) rfl f14 (by rfl) (by simp) (by omega) (by rfl) ?_
  rintro A16 w16 f16 b16
  have s16 := b16.size
  replace hw := hw.trans (b16.mono hw.size)
  replace f := f.u b16
  replace f0 := f0.u b16
  replace f14 := f14.u b16
  refine wl_call rfl (C_whole _ f16 hr3 ht8 (by rfl) (by simp) (by omega)) ?_
  rintro v17 w17 ⟨rfl, b17⟩
  have s17 := b17.size
  replace hw := hw.trans (b17.mono hw.size)
  replace f14 := f14.u b17
  replace f0 := f0.u b17
  replace f := f.u b17
  replace f16 := f16.u b17
  refine wl_stUa Try.sizeOf66 rfl f0 rfl hr8 (by rfl) ?_
  rintro w_2 f_1 g_1 e_1
  have s_1 := g_1.size
  replace hw := hw.trans (below_of_grownBy g_1.g hw.size (by omega))
  replace f := f.k g_1.g (ap_some (by omega))
  replace f14 := f14.y g_1 (by decide)
  clear f16
  clear f0
  refine wl_nil ?_
  refine ret_cell rfl rfl Try.isAgg66 Try.sizeOf66 f_1 (by rw [vU_length, hr8]) ?_
  exact ⟨rfl, hw⟩
set_option maxRecDepth 100000 in
theorem C_Sum {A : Option Addr} {L : List By} {r : By} {n c : Nat} (w : World) (hK : RKy w A L) (hr : (bytesU (runU Ul (padU L.flatten))).take 32 = r) (hn : n = L.length) (hL : L.length ≤ 40) (hL2 : ∀ x ∈ L, x.length ≤ 10000) :
    CallsR Try.prog 21 [.slice A n c] w fun v w' => v = .agg (B8 r).toArray ∧ Below w.heap.size w w' := by
  subst hn
  obtain ⟨u, hu⟩ : ∃ u, Ul = u := ⟨_, rfl⟩
  have hu8 : u.length = 8 := by rw [← hu]; exact Ul_len
  rw [hu] at hr
  obtain ⟨r1, h1⟩ : ∃ r1, runU u (padU L.flatten) = r1 := ⟨_, rfl⟩
  rw [h1] at hr
  have hr8 : r1.length = 8 := by rw [← h1]; exact runU_len _ hu8
  obtain ⟨r2, h2⟩ : ∃ r2, bytesU r1 = r2 := ⟨_, rfl⟩
  rw [h2] at hr
  have hr64 : r2.length = 64 := by rw [← h2, bytesU_len]
  have hr32 : r.length = 32 := by rw [← hr, List.length_take]; omega
  refine callsR Try.func21 rfl rfl (by kernel_rfl) rfl ?_
  have hw := Below.refl w.heap.size w
  refine rk_seq ?_
  refine rk_region ?_
  refine wl_allocB Try.underlying23 Try.zeroValue23 (by rfl) ?_
  rintro g2 w2 f2 b2 i2 i2_1
  have s2 := b2.size
  replace hw := hw.trans (b2.mono hw.size)
  refine wl_nil ?_
  refine rk_seq ?_
  refine rk_region ?_
  refine wl_call rfl (C_StartShort _ hu) ?_
  rintro v4 w4 ⟨rfl, b4⟩
  have s4 := b4.size
  replace hw := hw.trans (b4.mono hw.size)
  replace f2 := f2.u b4
  refine wl_p (fun _ => o_move rfl) ?_
  refine wl_call rfl (C_whole _ (hK.u hw) h1 hu8 rfl (by omega) (by omega)) ?_
  rintro v6 w6 ⟨rfl, b6⟩
  have s6 := b6.size
  replace hw := hw.trans (b6.mono hw.size)
  replace f2 := f2.u b6
  refine wl_call rfl (C_sum _ h2 hr8) ?_
  rintro v7 w7 ⟨rfl, b7⟩
  have s7 := b7.size
  replace hw := hw.trans (b7.mono hw.size)
  replace f2 := f2.u b7
  refine wl_allocB Try.underlying64 Try.zeroValue64 (by rfl) ?_
  rintro g3 w3 f3 b3 i3 i3_1
  have s3 := b3.size
  replace hw := hw.trans (b3.mono hw.size)
  replace f2 := f2.u b3
  refine wl_stBa Try.sizeOf64 rfl f3 rfl hr64 (by rfl) ?_
  rintro w_1 f g e
  have s := g.size
  replace hw := hw.trans (below_of_grownBy g.g hw.size (by omega))
  replace f2 := f2.k g.g (ap_some (by omega))
  clear f3
  refine wl_nil ?_
  refine rk_seq ?_
  refine rk_region ?_
  refine wl_slArrHi (32) Try.underlying64 Try.sizeOf5 rfl f rfl (by omega) (by omega) ?_
  rintro f8
  refine wl_p (fun _ => (o_arrptr Try.underlying23 rfl (by omega))) ?_
  refine wl_r (o_ldBpre Try.isAgg23 Try.sizeOf23 rfl f (by omega)) ?_
  refine wl_stBa Try.sizeOf23 rfl f2 rfl (by simp; omega) (by rfl) ?_
  rintro w_2 f_1 g_1 e_1
  have s_1 := g_1.size
  replace hw := hw.trans (below_of_grownBy g_1.g hw.size (by omega))
  replace f := f.k g_1.g (ap_some (by omega))
  clear f8
  clear f2
  refine wl_nil ?_
  rw [hr] at f_1
  refine ret_cell rfl rfl Try.isAgg23 Try.sizeOf23 f_1 (by rw [B8_length, hr32]) ?_
  exact ⟨rfl, hw⟩
end Go.Proofs.Ytpjedpmbninfcaa
