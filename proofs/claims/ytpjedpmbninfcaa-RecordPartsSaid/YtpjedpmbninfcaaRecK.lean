/-
  The statement RecordParts: its walk.
-/
import Derived.Test.YtpjedpmbninfcaaRecJ
namespace Go.Proofs.Ytpjedpmbninfcaa
open Go.RowKit
/-- The records that can be read one after the other. -/
noncomputable def allR (c b : By) : List Rc := by
  classical
  exact if h : ∃ L, AllP c b L then h.choose else []
theorem AllP.eq {c b : By} {L : List Rc} (h : AllP c b L) : allR c b = L := by
  unfold allR
  rw [dif_pos ⟨L, h⟩]
  exact AllP.uniq (Exists.choose_spec (⟨L, h⟩ : ∃ L, AllP c b L)) h
theorem AllP.ex (c b : By) : ∃ L, AllP c b L := by
  have key : ∀ (n : Nat) (c b : By), b.length ≤ n → ∃ L, AllP c b L := by
    intro n
    induction n with
    | zero =>
      intro c b h
      obtain rfl : b = [] := List.length_eq_zero_iff.1 (by omega)
      exact ⟨[], [], rfl, by simp, by rw [chainAll, readR_nil]; simp⟩
    | succ n ih =>
      intro c b h
      by_cases he : (readR c b).2.2.2 = 0
      · obtain ⟨⟨r, z, x, e⟩, hr⟩ : ∃ s, readR c b = s := ⟨_, rfl⟩
        rw [hr] at he
        simp only at he
        subst he
        obtain ⟨h1, h2, h3, q, h4⟩ := readR_back hr
        have hl := congrArg List.length h4
        rw [List.length_append, bytesR_len] at hl
        obtain ⟨L, p, k1, k2, k3⟩ := ih x q (by omega)
        refine ⟨r :: L, p, ?_, fun y hy => ?_, ?_⟩
        · rw [h4, bytesAll, ← h3, List.append_assoc, ← k1]
        · rcases List.mem_cons.1 hy with e | e
          · subst e; exact h1
          · exact k2 y e
        · rw [chainAll, ← h3]; exact k3
      · exact ⟨[], b, rfl, by simp, he⟩
  exact key _ c b (Nat.le_refl _)
theorem AllP.fun {c b : By} : AllP c b (allR c b) := by
  obtain ⟨L, h⟩ := AllP.ex c b
  rw [h.eq]; exact h
theorem C_AllN {A : Option Addr} {b c ch : By} {L : List Rc} {n nb cap : Nat} (w : World) (hr : allR c b = L) (h1 : (bytesAll c L).length = nb) (h2 : chainAll c L = ch) (hb : Rd w A b) (hn : n = b.length) (hcap : b.length ≤ cap) (hc : c.length = 32) (hl : b.length ≤ 400000) :
    CallsR Try.prog 19 [.agg (B8 c).toArray, .slice A n cap] w fun v w' => ∃ (A' : Option Addr) (c' : Nat), v = .tuple #[.slice A' L.length c', .int .i64 (nb : Int), .agg (B8 ch).toArray] ∧ OwnRec w' w.heap.size w'.heap.size A' c' L ∧ Below w.heap.size w w' := by
  refine (C_AllR w hb hn hcap hc hl).mono ?_
  rintro v w' ⟨L', A', c', rfl, hA, hO, hw⟩
  obtain rfl : L = L' := by rw [← hr]; exact hA.eq
  rw [h1, h2]
  exact ⟨A', c', rfl, hO, hw⟩
theorem bytesAll_le (n : Nat) : ∀ (d : By) (l : List Rc), (∀ r ∈ l, OkR r) → l.length ≤ n → (bytesAll d l).length ≤ 8210 * n
  | d, [], _, _ => by simp [bytesAll]
  | d, r :: l, h, hn => by
    obtain ⟨m, rfl⟩ : ∃ m, n = m + 1 := ⟨n - 1, by simp at hn; omega⟩
    have ih := bytesAll_le m (nextB d r) l (fun x hx => h x (by simp [hx])) (by simpa using hn)
    have h1 := bodyB_le (r := r) (n := 8192) (h r (by simp)).2
    rw [bytesAll, List.length_append, bytesR_len]; omega
/-- What is left behind the first records. -/
theorem AllP.part {c B : By} {M : List Rc} (h : AllP c B M) (i : Nat) :
    AllP (chainAll c (M.take i)) (B.drop (bytesAll c (M.take i)).length) (M.drop i) ∧ (bytesAll c (M.take i)).length + (bytesAll (chainAll c (M.take i)) (M.drop i)).length = (bytesAll c M).length ∧ chainAll (chainAll c (M.take i)) (M.drop i) = chainAll c M ∧ (bytesAll c (M.take i)).length ≤ B.length := by
  obtain ⟨q, hq, ho, he⟩ := h
  have e1 : bytesAll c M = bytesAll c (M.take i) ++ bytesAll (chainAll c (M.take i)) (M.drop i) := by rw [← bytesAll_append, List.take_append_drop]
  have e2 : chainAll c M = chainAll (chainAll c (M.take i)) (M.drop i) := by rw [← chainAll_append, List.take_append_drop]
  refine ⟨⟨q, ?_, fun r hr => ho r (List.mem_of_mem_drop hr), by rw [← e2]; exact he⟩, by rw [e1, List.length_append], e2.symm, by rw [hq, e1, List.length_append, List.length_append]; omega⟩
  rw [hq, e1, List.append_assoc, List.drop_left]
theorem AllP.head {c B : By} {r : Rc} {M : List Rc} (h : AllP c B (r :: M)) : readR c B = (r, (bytesR c r).length, nextB c r, 0) ∧ OkR r := by
  obtain ⟨q, hq, ho, he⟩ := h
  have h1 := ho r (by simp)
  exact ⟨by rw [hq, bytesAll, List.append_assoc, readR_own c h1], h1⟩
theorem C_SizeOk {k : UInt8} {x : Int} {A : Option Addr} {p : By} {n c z : Nat} (w : World) (hp : Rd w A p) (hk : x = (k.toNat : Int)) (hz : (bodyB (k, p)).length + 8 = z) (hO : OkR (k, p)) (hn : n = p.length) (hl : p.length ≤ 10000) :
    CallsR Try.prog 14 [.agg #[.int .u8 x, .slice A n c]] w fun v w' => v = .int .i64 (z : Int) ∧ Below w.heap.size w w' := by
  refine (C_SizeZ w hk hn hl hp).mono ?_
  rintro v w' ⟨rfl, h⟩
  rw [if_pos hO]
  exact ⟨by rw [← hz]; simp, h⟩
def goodR (L : List Rc) : List Rc := L.filter (fun r => decide (OkR r))
theorem goodR_ok {L : List Rc} : ∀ r ∈ goodR L, OkR r := fun r hr => by simpa using (List.mem_filter.1 hr).2
theorem goodR_succ (L : List Rc) {i : Nat} (hi : i < L.length) : goodR (L.take (i + 1)) = goodR (L.take i) ++ (if OkR L[i] then [L[i]] else []) := by
  unfold goodR
  rw [List.take_succ_eq_append_getElem hi, List.filter_append]
  congr 1
  by_cases h : OkR L[i]
  · rw [if_pos h]; simp [h]
  · rw [if_neg h]; simp [h]
theorem goodR_len (L : List Rc) (i : Nat) : (goodR (L.take i)).length ≤ i := by
  unfold goodR
  have h1 := List.length_filter_le (fun r => decide (OkR r)) (L.take i)
  rw [List.length_take] at h1
  omega
set_option maxRecDepth 100000 in
set_option maxHeartbeats 4000000 in
theorem C_RecordParts {A0 At : Option Addr} {L : List Rc} {c tl : By} {c0 ct : Nat} (w : World) (hL : RRec w A0 L) (hc0 : L.length ≤ c0) (hm0 : c0 ≤ maxLen) (hc : c.length = 32) (ht : Rd w At tl) (hct : tl.length ≤ ct) (hmt : ct ≤ maxLen) :
    CallsR Try.prog 6 [.slice A0 L.length c0, .agg (B8 c).toArray, .slice At tl.length ct] w fun v w' => v = .bool true ∧ Below w.heap.size w w' := by
  refine callsR Try.func6 rfl rfl (by kernel_rfl) rfl ?_
  have hw := Below.refl w.heap.size w
  refine rk_seq ?_
  refine rk_region ?_
  refine wl_boxg _ rfl (by rfl) ?_
  rintro g4 w4 f4 b4 i4 i4_1
  have s4 := b4.size
  replace hw := hw.trans (b4.mono hw.size)
  refine wl_p (fun _ => o_assign rfl) ?_
  refine wl_nil ?_
  refine rk_seq ?_
  refine rk_seq ?_
  refine rk_region ?_
  refine wl_call rfl (C_lives08 _) ?_
  rintro v30 w30 ⟨rfl, b30⟩
  have s30 := b30.size
  replace hw := hw.trans (b30.mono hw.size)
  replace f4 := f4.u b30
  refine wl_p (fun _ => o_not rfl) ?_
  refine wl_nil ?_
  refine rk_false rfl ?_
  refine rk_skip ?_
  refine rk_seq ?_
  refine rk_seq ?_
  refine rk_region ?_
  refine wl_p (fun _ => o_move rfl) ?_
  refine wl_call rfl (C_lightRec _ (hL.u hw) rfl (by omega)) ?_
  rintro v33 w33 ⟨b33, ⟨rfl, ⟨i33, b33_1⟩⟩⟩
  have s33 := b33_1.size
  replace hw := hw.trans (b33_1.mono hw.size)
  replace f4 := f4.u b33_1
  refine wl_p (fun _ => o_not rfl) ?_
  refine wl_p (fun _ => o_move rfl) ?_
  cases b33 with
  | false =>
    refine wl_off ?_
    refine wl_off ?_
    refine wl_off ?_
    refine wl_p (fun _ => o_pick_t rfl rfl) ?_
    refine wl_nil ?_
    refine rk_true rfl ?_
    refine rk_seq ?_
    refine rk_region ?_
    refine wl_p (fun _ => o_assign rfl) ?_
    refine wl_nil ?_
    refine ret1 rfl rfl ?_
    exact ⟨rfl, hw⟩
  | true =>
    have hlight : lightR L := (show true = true → lightR L by assumption) rfl
    refine wl_p (fun _ => o_move rfl) ?_
    refine wl_p (fun _ => o_len (t := 26) Try.underlying26 rfl) ?_
    refine wl_p (fun _ => o_gt rfl rfl) ?_
    refine wl_p (fun _ => o_pick_f rfl rfl) ?_
    refine wl_nil ?_
    refine rk_if rfl (fun h39 => ?_) (fun h39 => ?_)
    · refine rk_seq ?_
      refine rk_region ?_
      refine wl_p (fun _ => o_assign rfl) ?_
      refine wl_nil ?_
      refine ret1 rfl rfl ?_
      exact ⟨rfl, hw⟩
    · refine rk_skip ?_
      refine rk_seq ?_
      refine rk_region ?_
      refine wl_p (fun _ => o_assign rfl) ?_
      refine wl_nil ?_
      refine rk_seq ?_
      refine rk_region ?_
      refine wl_r (o_ldBa Try.isAgg23 Try.sizeOf23 rfl f4 hc) ?_
      refine wl_allocB Try.underlying23 Try.zeroValue23 (by rfl) ?_
      rintro g8 w8 f8 b8 i8 i8_1
      have s8 := b8.size
      replace hw := hw.trans (b8.mono hw.size)
      replace f4 := f4.u b8
      refine wl_stBa Try.sizeOf23 rfl f8 rfl hc (by rfl) ?_
      rintro w_1 f g e
      have s := g.size
      replace hw := hw.trans (below_of_grownBy g.g hw.size (by omega))
      replace f4 := f4.k g.g (ap_some (by omega))
      clear f8
      refine wl_nil ?_
      refine rk_seq ?_
      refine rk_seq ?_
      refine rk_region ?_
      refine wl_p (fun _ => o_assign rfl) ?_
      refine wl_nil ?_
      refine rk_block ?_
      have hll := hlight.1
      refine rk_joinf (fun fb fr W => ∃ (A7 : Option Addr) (c7 : Nat) (b ch : By), fr = [(8, .pointer (some ⟨g8, 0, none⟩)), (7, .slice A7 b.length c7)] ++ fb.drop 4 ∧ b = bytesAll c (goodR L) ∧ ch = chainAll c (goodR L) ∧ OwnH W w_1.heap.size W.heap.size A7 c7 b ∧ Blk W g4 23 (B8 c) ∧ w_1.heap.size ≤ W.heap.size ∧ Below w.heap.size w W) ?_ (fun ks hj => ?_)
      rotate_left
      · refine rk_loopf (fun fb m fr W => ∃ (i : Nat) (v : Int) (A7 : Option Addr) (c7 : Nat) (b ch : By), fr = [(9, .int .i64 v), (8, .pointer (some ⟨g8, 0, none⟩)), (7, .slice A7 b.length c7)] ++ fb.drop 4 ∧ v = i ∧ i ≤ L.length ∧ m = L.length - i ∧ b = bytesAll c (goodR (L.take i)) ∧ ch = chainAll c (goodR (L.take i)) ∧ OwnH W w_1.heap.size W.heap.size A7 c7 b ∧ Blk W g8 23 (B8 ch) ∧ Blk W g4 23 (B8 c) ∧ w_1.heap.size ≤ W.heap.size ∧ Below w.heap.size w W) (n := L.length) (Fr.le_of (by kernel_rfl) (by kernel_rfl) (by repeat' constructor)) ⟨0, _, none, 0, [], c, rfl, rfl, by omega, rfl, by simp [goodR, bytesAll], by simp [goodR, chainAll], OwnH.nil_, f, f4, Nat.le_refl _, hw⟩ ?_
        have hg8 := f.lt
        have hg4 := f4.lt
        clear hw f f4
        rintro m fr W ⟨i, v, A7, c7, b, ch, rfl, rfl, hi, rfl, hb, hch, f7, f8, f4, hsW, hw⟩
        have hbl : b.length ≤ 328400 := by
          have h1 := bytesAll_le 40 c (goodR (L.take i)) goodR_ok (by have := goodR_len L i; omega)
          rw [← hb] at h1; omega
        have hchl : ch.length = 32 := by rw [hch]; exact chainAll_len hc _
        first | refine rk_frame (by simp only [List.cons_append, List.nil_append, List.drop_succ_cons, List.drop_zero]; rfl) ?_ | refine wl_frame (by simp only [List.cons_append, List.nil_append, List.drop_succ_cons, List.drop_zero]; rfl) ?_
        refine rk_seq ?_
        refine rk_seq ?_
        refine rk_region ?_
        refine wl_p (fun _ => o_move rfl) ?_
        refine wl_p (fun _ => o_move rfl) ?_
        refine wl_p (fun _ => o_len (t := 42) Try.underlying42 rfl) ?_
        refine wl_p (fun _ => o_lt rfl rfl) ?_
        refine wl_nil ?_
        refine rk_if rfl (fun h44 => ?_) (fun h44 => ?_)
        · have hil : i < L.length := by omega
          have hpl := hlight.2 _ (List.getElem_mem hil)
          have hgs := goodR_succ L hil
          by_cases hO : OkR L[i]
          · rw [if_pos hO] at hgs
            obtain ⟨bs, hbs0⟩ : ∃ bs, bytesR ch L[i] = bs := ⟨_, rfl⟩
            obtain ⟨e, he⟩ : ∃ e, nextB ch L[i] = e := ⟨_, rfl⟩
            have he32 : e.length = 32 := by rw [← he]; exact nextB_len _ _
            refine rk_skip ?_
            refine rk_seq ?_
            refine rk_block ?_
            refine rk_seq ?_
            refine rk_drawo (id := 10) (none) [0, 0, 0, 6, 8, 17, 32, 64, 64, 64, 0, 1279, 3583, 8191] [0, 0, 0, 6, 14, 31, 63, 127, 127, 127, 0, 1279, 3583, 8191] 5152 1024 [0, 1, 2, 3, 4] [(.s, 0), (.p, 1), (.p, 2), (.p, 3), (.s, 4), (.f 31 5152 1024, 9)] (by kernel_rfl) (by kernel_rfl) (by kernel_rfl) (by kernel_rfl) (by kernel_rfl) ?_
            dsimp only [inOrder, nthOp]
            replace hw := hw.drew
            replace f4 := f4.d
            replace f8 := f8.d
            replace f7 := f7.d
            refine wl_s (fun _ hk => (o_ldBa Try.isAgg23 Try.sizeOf23 rfl (f8.u (below_of_grown_none hk)) hchl)) ?_
            refine wl_p (fun _ => o_move rfl) ?_
            refine wl_p (fun _ => o_move rfl) ?_
            refine wl_p (fun _ => (o_iaddrA (i) Try.underlying42 Try.sizeOf31 rfl rfl rfl (hL.some_ (by omega)) (by omega))) ?_
            refine wl_ldRecS rfl hL (fun _ hk => hw.trans ((below_of_grown_none hk).mono hw.size)) (by omega) ?_
            rintro A152 c152 f52 i52 i52_1
            refine wl_conc [⟨5, [(.p, 6), (.p, 7), (.p, 8), (.p, 9)], [56, 55, 54, 47, 53], [], fun vs w' lo hi => ∃ (A53 : Option Addr) (c53 : Nat) (u47 u53 : Value), vs = [.int .i64 0, .agg (B8 e).toArray, .slice A53 bs.length c53, u47, u53] ∧ OwnH w' lo hi A53 c53 bs⟩, ⟨10, [], [11], [], fun vs w' lo hi => ∃ (g11 : Nat), vs = [.pointer (some ⟨g11, 0, none⟩)] ∧ Blk w' g11 23 (B8 nul32) ∧ lo ≤ g11 ∧ g11 < hi⟩] [0, 1] [0, 0, 0, 6, 8, 17, 32, 64, 64, 64, 0, 1279, 3583, 8191] [0, 0, 0, 6, 14, 31, 63, 127, 127, 127, 0, 1279, 3583, 8191] [11, 12, 13] [(.p, 11), (.l, 12), (.p, 13)] (by kernel_rfl) (by kernel_rfl) (by kernel_rfl) (by kernel_rfl) ⟨fun _ _ _ _ _ h hb => by obtain ⟨A53, c53, u47, u53, e0, g0⟩ := h; exact ⟨A53, c53, u47, u53, e0, g0.u hb⟩, fun _ _ _ _ _ h hb => by obtain ⟨g11, e0, g0, g1, g2⟩ := h; exact ⟨g11, e0, g0.u hb, g1, g2⟩, trivial⟩ ⟨?_, ?_, trivial⟩ ?_
            · intro wI hbI fo T T2 n2
              intro hk
              dsimp only [Item.idx, inOrder, nthOp, List.map, List.zip_cons_cons, List.zip_nil_right, List.cons_append, List.nil_append]
              have shbI := hbI.size
              simp only [drew_size] at shbI
              replace hw := hw.trans (hbI.mono hw.size)
              replace f7 := f7.u hbI
              replace f8 := f8.u hbI
              replace f4 := f4.u hbI
              have hw1 := Below.refl wI.heap.size wI
              refine wl_call rfl (C_RecBytesOk _ (by rfl) (f52.u hw) (by omega) hbs0 he rfl (by omega) hchl) ?_
              rintro v53 w53 ⟨A53, ⟨c53, ⟨rfl, ⟨f53, b53⟩⟩⟩⟩
              have qf53 := f53.cap
              have s53 := b53.size
              replace hw := hw.trans (b53.mono hw.size)
              replace hw1 := hw1.trans (b53.mono hw1.size)
              replace f4 := f4.u b53
              replace f8 := f8.u b53
              replace f7 := f7.u b53
              refine wl_p (fun _ => o_move rfl) ?_
              refine wl_p (fun _ => o_ext30 rfl) ?_
              refine wl_p (fun _ => o_ext31 rfl) ?_
              refine wl_p (fun _ => o_ext32 rfl) ?_
              exact hk [_, _, _, _, _] _ ⟨_, _, _, _, rfl, f53⟩ hw1
            · intro wI hbI fo T T2 n2
              intro hk
              dsimp only [Item.idx, inOrder, nthOp, List.map, List.zip_cons_cons, List.zip_nil_right, List.cons_append, List.nil_append]
              have shbI := hbI.size
              simp only [drew_size] at shbI
              replace hw := hw.trans (hbI.mono hw.size)
              replace f7 := f7.u hbI
              replace f8 := f8.u hbI
              replace f4 := f4.u hbI
              have hw1 := Below.refl wI.heap.size wI
              refine wl_allocB Try.underlying23 Try.zeroValue23 (by rfl) ?_
              rintro g11 w11 f11 b11 i11 i11_1
              have s11 := b11.size
              replace hw := hw.trans (b11.mono hw.size)
              replace hw1 := hw1.trans (b11.mono hw1.size)
              replace f4 := f4.u b11
              replace f8 := f8.u b11
              replace f7 := f7.u b11
              exact hk [_] _ ⟨_, rfl, f11, by omega, by omega⟩ hw1
            intro wE hbE
            rintro _ lo0 hi0 ⟨A53, c53, u47, u53, rfl, f53⟩ ql0 qm0 qh0 -
            rintro _ lo1 hi1 ⟨g11, rfl, f11, f11_1, f11_2⟩ ql1 qm1 qh1 ⟨qa1_0, -⟩
            try dsimp only at ql0 qm0 qh0  ql1 qm1 qh1 qa1_0
            try simp only [drew_size] at ql0 qm0 qh0  ql1 qm1 qh1 qa1_0
            dsimp only [given, Item.idx, inOrder, nthOp, List.map, List.zip_cons_cons, List.zip_nil_right]
            have shbE := hbE.size
            simp only [drew_size] at shbE
            replace hw := hw.trans (hbE.mono hw.size)
            replace f7 := f7.u hbE
            replace f8 := f8.u hbE
            replace f4 := f4.u hbE
            have hbs : bs.length ≤ 8210 := by
              have h1 := bodyB_le (r := L[i]) (n := 8192) hO.2
              rw [← hbs0, bytesR_len]; omega
            refine wl_p (fun _ => o_assign rfl) ?_
            refine wl_stBa Try.sizeOf23 rfl f11 rfl he32 (by rfl) ?_
            rintro w_2 f g_1 e_1
            have s_1 := g_1.size
            replace hw := hw.trans (below_of_grownBy g_1.g hw.size (by omega))
            replace f4 := f4.k g_1.g (ap_some (by omega))
            replace f8 := f8.k g_1.g (ap_some (by omega))
            replace f7 := f7.k g_1.g (ap_some (by omega))
            replace f53 := f53.k g_1.g (ap_some (by omega))
            clear f11
            refine wl_p (fun _ => o_assign rfl) ?_
            refine wl_nild ?_
            refine rk_seq ?_
            refine rk_region ?_
            refine wl_p (fun _ => o_move rfl) ?_
            refine wl_p (fun _ => o_eq rfl rfl) ?_
            refine wl_nil ?_
            refine rk_true rfl ?_
            have hlt := f7.rng
            have hne : blk A7 ≠ some g11 := fun e => by have := hlt _ e; omega
            refine rk_drawo (id := 12) ((blk A7)) [0, 0, 3, 0, 7, 31] [0, 0, 3, 0, 7, 31] 36 4 [0, 1, 3, 2, 4, 5] [(.p, 0), (.p, 1), (.s, 3), (.c, 2), (.p, 4), (.l, 5)] (by kernel_rfl) (by kernel_rfl) (by kernel_rfl) (by kernel_rfl) (by kernel_rfl) ?_; dsimp only [inOrder, nthOp]
            replace f := f.d
            replace f8 := f8.d
            replace f4 := f4.d
            replace f7 := f7.d
            replace f53 := f53.d
            replace hw := hw.drew
            refine wl_p (fun _ => o_move rfl) ?_
            refine wl_p (fun _ => o_move rfl) ?_
            refine wl_s (fun _ hk => (o_ldBa Try.isAgg23 Try.sizeOf23 rfl (f.k hk (f7.ap (by omega))) he32)) ?_
            refine wl_appB Try.u8 rfl f7 rfl rfl f53.to_Rd rfl (by omega) (by simp; omega) ?_ (hq := .inr (.inr rfl))
            rintro A61 c61 w61 f61 g61 b61 i61
            simp only [drew_size] at i61
            have qf61 := f61.cap
            have s61 := g61.size
            simp only [drew_size] at s61
            replace hw := hw.trans (b61.mono (by omega))
            replace f53 := f53.k g61.g (f7.ap (by omega))
            replace f4 := f4.y g61 (by decide)
            replace f8 := f8.y g61 (by decide)
            replace f := f.y g61 (by decide)
            clear f7
            refine wl_p (fun _ => o_assign rfl) ?_
            refine wl_stBa Try.sizeOf23 rfl f8 rfl he32 hchl ?_
            rintro w_3 f_1 g_2 e_2
            have s_2 := g_2.size
            replace hw := hw.trans (below_of_grownBy g_2.g hw.size (by omega))
            replace f := f.k g_2.g (ap_some (by omega))
            replace f4 := f4.k g_2.g (ap_some (by omega))
            replace f53 := f53.k g_2.g (ap_some (by omega))
            replace f61 := f61.k g_2.g (ap_some (by omega))
            clear f8
            refine wl_nild ?_
            refine rk_blk ?_
            refine rk_region ?_
            refine wl_p (fun _ => o_move rfl) ?_
            refine wl_p (fun _ => o_add rfl rfl (by omega) (by omega)) ?_
            refine wl_p (fun _ => o_assign rfl) ?_
            refine wl_nil ?_
            have e1 : bytesAll c (goodR (L.take (i + 1))) = b ++ bs := by
              rw [hgs, bytesAll_append, ← hb, ← hch, bytesAll, bytesAll, List.append_nil]; exact congrArg _ hbs0
            have e2 : chainAll c (goodR (L.take (i + 1))) = e := by
              rw [hgs, chainAll_append, ← hch]; exact he
            exact rk_againf (Fr.le_of (by kernel_rfl) (by kernel_rfl) (by repeat' constructor)) ⟨i + 1, (i : Int) + 1, A61, c61, b ++ bs, e, rfl, by omega, by omega, rfl, e1.symm, e2.symm, f61.base (Nat.le_refl _) (by omega), f_1, f4, by omega, hw⟩ (by omega)
          · rw [if_neg hO, List.append_nil] at hgs
            refine rk_skip ?_
            refine rk_seq ?_
            refine rk_block ?_
            refine rk_seq ?_
            refine rk_drawo (id := 10) (none) [0, 0, 0, 6, 8, 17, 32, 64, 64, 64, 0, 1279, 3583, 8191] [0, 0, 0, 6, 14, 31, 63, 127, 127, 127, 0, 1279, 3583, 8191] 5152 1024 [0, 1, 2, 3, 4] [(.s, 0), (.p, 1), (.p, 2), (.p, 3), (.s, 4), (.f 31 5152 1024, 9)] (by kernel_rfl) (by kernel_rfl) (by kernel_rfl) (by kernel_rfl) (by kernel_rfl) ?_
            dsimp only [inOrder, nthOp]
            replace hw := hw.drew
            replace f4 := f4.d
            replace f8 := f8.d
            replace f7 := f7.d
            refine wl_s (fun _ hk => (o_ldBa Try.isAgg23 Try.sizeOf23 rfl (f8.u (below_of_grown_none hk)) hchl)) ?_
            refine wl_p (fun _ => o_move rfl) ?_
            refine wl_p (fun _ => o_move rfl) ?_
            refine wl_p (fun _ => (o_iaddrA (i) Try.underlying42 Try.sizeOf31 rfl rfl rfl (hL.some_ (by omega)) (by omega))) ?_
            refine wl_ldRecS rfl hL (fun _ hk => hw.trans ((below_of_grown_none hk).mono hw.size)) (by omega) ?_
            rintro A152 c152 f52 i52 i52_1
            refine wl_conc [⟨5, [(.p, 6), (.p, 7), (.p, 8), (.p, 9)], [56, 55, 54, 47, 53], [], fun vs w' lo hi => ∃ (A53 : Option Addr) (c53 : Nat) (e : By) (u47 u53 : Value), vs = [.int .i64 2, .agg (B8 e).toArray, .slice A53 0 c53, u47, u53] ∧ e.length = 32⟩, ⟨10, [], [11], [], fun vs w' lo hi => ∃ (g11 : Nat), vs = [.pointer (some ⟨g11, 0, none⟩)] ∧ Blk w' g11 23 (B8 nul32) ∧ lo ≤ g11 ∧ g11 < hi⟩] [0, 1] [0, 0, 0, 6, 8, 17, 32, 64, 64, 64, 0, 1279, 3583, 8191] [0, 0, 0, 6, 14, 31, 63, 127, 127, 127, 0, 1279, 3583, 8191] [11, 12, 13] [(.p, 11), (.l, 12), (.p, 13)] (by kernel_rfl) (by kernel_rfl) (by kernel_rfl) (by kernel_rfl) ⟨fun _ _ _ _ _ h hb => by obtain ⟨A53, c53, e, u47, u53, e0, g0⟩ := h; exact ⟨A53, c53, e, u47, u53, e0, g0⟩, fun _ _ _ _ _ h hb => by obtain ⟨g11, e0, g0, g1, g2⟩ := h; exact ⟨g11, e0, g0.u hb, g1, g2⟩, trivial⟩ ⟨?_, ?_, trivial⟩ ?_
            · intro wI hbI fo T T2 n2
              intro hk
              dsimp only [Item.idx, inOrder, nthOp, List.map, List.zip_cons_cons, List.zip_nil_right, List.cons_append, List.nil_append]
              have shbI := hbI.size
              simp only [drew_size] at shbI
              replace hw := hw.trans (hbI.mono hw.size)
              replace f7 := f7.u hbI
              replace f8 := f8.u hbI
              replace f4 := f4.u hbI
              have hw1 := Below.refl wI.heap.size wI
              refine wl_call rfl (C_RecBytesBad _ (by rfl) (f52.u hw) (by omega) rfl (by omega) hchl) ?_
              rintro v53 w53 ⟨A53, ⟨c53, ⟨e53, ⟨rfl, ⟨f53, ⟨e53_1, b53⟩⟩⟩⟩⟩⟩
              have qf53 := f53.cap
              have s53 := b53.size
              replace hw := hw.trans (b53.mono hw.size)
              replace hw1 := hw1.trans (b53.mono hw1.size)
              replace f4 := f4.u b53
              replace f8 := f8.u b53
              replace f7 := f7.u b53
              refine wl_p (fun _ => o_move rfl) ?_
              refine wl_p (fun _ => o_ext30 rfl) ?_
              refine wl_p (fun _ => o_ext31 rfl) ?_
              refine wl_p (fun _ => o_ext32 rfl) ?_
              exact hk [_, _, _, _, _] _ ⟨_, _, _, _, _, rfl, by assumption⟩ hw1
            · intro wI hbI fo T T2 n2
              intro hk
              dsimp only [Item.idx, inOrder, nthOp, List.map, List.zip_cons_cons, List.zip_nil_right, List.cons_append, List.nil_append]
              have shbI := hbI.size
              simp only [drew_size] at shbI
              replace hw := hw.trans (hbI.mono hw.size)
              replace f7 := f7.u hbI
              replace f8 := f8.u hbI
              replace f4 := f4.u hbI
              have hw1 := Below.refl wI.heap.size wI
              refine wl_allocB Try.underlying23 Try.zeroValue23 (by rfl) ?_
              rintro g11 w11 f11 b11 i11 i11_1
              have s11 := b11.size
              replace hw := hw.trans (b11.mono hw.size)
              replace hw1 := hw1.trans (b11.mono hw1.size)
              replace f4 := f4.u b11
              replace f8 := f8.u b11
              replace f7 := f7.u b11
              exact hk [_] _ ⟨_, rfl, f11, by omega, by omega⟩ hw1
            intro wE hbE
            rintro _ lo0 hi0 ⟨A53, c53, e, u47, u53, rfl, f53⟩ ql0 qm0 qh0 -
            rintro _ lo1 hi1 ⟨g11, rfl, f11, f11_1, f11_2⟩ ql1 qm1 qh1 ⟨qa1_0, -⟩
            try dsimp only at ql0 qm0 qh0  ql1 qm1 qh1 qa1_0
            try simp only [drew_size] at ql0 qm0 qh0  ql1 qm1 qh1 qa1_0
            dsimp only [given, Item.idx, inOrder, nthOp, List.map, List.zip_cons_cons, List.zip_nil_right]
            have shbE := hbE.size
            simp only [drew_size] at shbE
            replace hw := hw.trans (hbE.mono hw.size)
            replace f7 := f7.u hbE
            replace f8 := f8.u hbE
            replace f4 := f4.u hbE
            refine wl_p (fun _ => o_assign rfl) ?_
            refine wl_stBa Try.sizeOf23 rfl f11 rfl f53 (by rfl) ?_
            rintro w_2 f g_1 e_1
            have s_1 := g_1.size
            replace hw := hw.trans (below_of_grownBy g_1.g hw.size (by omega))
            replace f4 := f4.k g_1.g (ap_some (by omega))
            replace f8 := f8.k g_1.g (ap_some (by omega))
            replace f7 := f7.k g_1.g (ap_some (by omega))
            clear f11
            refine wl_p (fun _ => o_assign rfl) ?_
            refine wl_nild ?_
            refine rk_seq ?_
            refine rk_region ?_
            refine wl_p (fun _ => o_move rfl) ?_
            refine wl_p (fun _ => o_eq rfl rfl) ?_
            refine wl_nil ?_
            refine rk_false rfl ?_
            refine rk_skip ?_
            refine rk_blk ?_
            refine rk_region ?_
            refine wl_p (fun _ => o_move rfl) ?_
            refine wl_p (fun _ => o_add rfl rfl (by omega) (by omega)) ?_
            refine wl_p (fun _ => o_assign rfl) ?_
            refine wl_nil ?_
            exact rk_againf (Fr.le_of (by kernel_rfl) (by kernel_rfl) (by repeat' constructor)) ⟨i + 1, (i : Int) + 1, A7, c7, b, ch, rfl, by omega, by omega, rfl, by rw [hgs]; exact hb, by rw [hgs]; exact hch, f7.base (Nat.le_refl _) (by omega), f8, f4, by omega, hw⟩ (by omega)
        · refine rk_exit rfl ?_
          obtain rfl : i = L.length := by omega
          rw [List.take_length] at hb hch
          exact rk_tof hj (Fr.le_of (by kernel_rfl) (by kernel_rfl) (by repeat' constructor)) ⟨A7, c7, b, ch, rfl, hb, hch, f7, f4, hsW, hw⟩
      clear hw f f4
      rintro fr W ⟨A7, c7, b, ch, rfl, hb, hch, f7, f4, hsW, hw⟩
      have hbl : b.length ≤ 328400 := by
        have h1 := bytesAll_le 40 c (goodR L) goodR_ok (by have := goodR_len L L.length; rw [List.take_length] at this; omega)
        rw [← hb] at h1; omega
      obtain ⟨B, hB⟩ : ∃ B, b ++ tl = B := ⟨_, rfl⟩
      obtain ⟨M, hM⟩ : ∃ M, allR c B = M := ⟨_, rfl⟩
      have hBl : B.length ≤ 337400 := by rw [← hB, List.length_append]; omega
      have hP : AllP c B M := by rw [← hM]; exact AllP.fun
      obtain ⟨nb, hnb⟩ : ∃ nb, (bytesAll c M).length = nb := ⟨_, rfl⟩
      obtain ⟨en, hen⟩ : ∃ en, chainAll c M = en := ⟨_, rfl⟩
      have hen32 : en.length = 32 := by rw [← hen]; exact chainAll_len hc M
      have hnbl : nb ≤ 337400 := by
        obtain ⟨q, hq, _⟩ := hP
        have h2 := congrArg List.length hq
        rw [List.length_append] at h2; omega
      have hMl : M.length ≤ 337400 := by
        obtain ⟨q, hq, _⟩ := hP
        have h1 := bytesAll_ge c M
        have h2 := congrArg List.length hq
        rw [List.length_append] at h2; omega
      first | refine rk_frame (by simp only [List.cons_append, List.nil_append, List.drop_succ_cons, List.drop_zero]; rfl) ?_ | refine wl_frame (by simp only [List.cons_append, List.nil_append, List.drop_succ_cons, List.drop_zero]; rfl) ?_
      refine rk_seq ?_
      refine rk_region ?_
      refine wl_p (fun _ => o_move rfl) ?_
      refine wl_p (fun _ => o_move rfl) ?_
      refine wl_appB Try.u8 rfl f7 rfl rfl (ht.u hw) rfl (by omega) (by omega) ?_
      rintro A65 c65 w65 f65 g65 b65 i65
      have qf65 := f65.cap
      have s65 := g65.size
      replace hw := hw.trans (b65.mono (by omega))
      replace f4 := f4.y g65 (by decide)
      clear f7
      refine wl_p (fun _ => o_assign rfl) ?_
      rw [hB] at f65 ⊢
      refine wl_nil ?_
      refine rk_seq ?_
      refine rk_region ?_
      refine wl_r (o_ldBa Try.isAgg23 Try.sizeOf23 rfl f4 hc) ?_
      refine wl_p (fun _ => o_move rfl) ?_
      refine wl_call rfl (C_AllN _ hM hnb hen f65.to_Rd rfl f65.cap hc (by omega)) ?_
      rintro v69 w69 ⟨A69, ⟨c69, ⟨rfl, ⟨f69, b69⟩⟩⟩⟩
      have qf69 := f69.cap
      have s69 := b69.size
      replace hw := hw.trans (b69.mono hw.size)
      replace f4 := f4.u b69
      replace f65 := f65.u b69
      refine wl_p (fun _ => o_move rfl) ?_
      refine wl_p (fun _ => o_ext30 rfl) ?_
      refine wl_p (fun _ => o_ext31 rfl) ?_
      refine wl_p (fun _ => o_ext32 rfl) ?_
      refine wl_allocB Try.underlying23 Try.zeroValue23 (by rfl) ?_
      rintro g15 w15 f15 b15 i15 i15_1
      have s15 := b15.size
      replace hw := hw.trans (b15.mono hw.size)
      replace f65 := f65.u b15
      replace f4 := f4.u b15
      replace f69 := f69.u b15
      refine wl_p (fun _ => o_assign rfl) ?_
      refine wl_p (fun _ => o_assign rfl) ?_
      refine wl_stBa Try.sizeOf23 rfl f15 rfl hen32 (by rfl) ?_
      rintro w_2 f g_1 e_1
      have s_1 := g_1.size
      replace hw := hw.trans (below_of_grownBy g_1.g hw.size (by omega))
      replace f69 := f69.y g_1 (by decide)
      replace f4 := f4.k g_1.g (ap_some (by omega))
      replace f65 := f65.k g_1.g (ap_some (by omega))
      clear f15
      refine wl_nil ?_
      refine rk_seq ?_
      refine rk_draw (id := 15) (none) [0, 0, 2, 7] [0, 0, 2, 7] 10 2 [(.s, 0), (.c, 1), (.p, 2), (.l, 3)] (by kernel_rfl) (by kernel_rfl) (by kernel_rfl) (by kernel_rfl) (by kernel_rfl) ?_
      replace hw := hw.drew
      replace f65 := f65.d
      replace f4 := f4.d
      replace f69 := f69.d
      replace f := f.d
      refine wl_s (fun _ hk => (o_ldBa Try.isAgg23 Try.sizeOf23 rfl (f4.u (below_of_grown_none hk)) hc)) ?_
      refine wl_allocB Try.underlying23 Try.zeroValue23 (by rfl) ?_
      rintro g17 w17 f17 b17 i17 i17_1
      simp only [drew_size] at b17
      simp only [drew_size] at i17
      have s17 := b17.size
      simp only [drew_size] at s17
      replace hw := hw.trans (b17.mono hw.size)
      replace f := f.u b17
      replace f69 := f69.u b17
      replace f4 := f4.u b17
      replace f65 := f65.u b17
      refine wl_p (fun _ => o_assign rfl) ?_
      refine wl_stBa Try.sizeOf23 rfl f17 rfl hc (by rfl) ?_
      rintro w_3 f_1 g_2 e_2
      have s_2 := g_2.size
      replace hw := hw.trans (below_of_grownBy g_2.g hw.size (by omega))
      replace f65 := f65.k g_2.g (ap_some (by omega))
      replace f4 := f4.k g_2.g (ap_some (by omega))
      replace f69 := f69.y g_2 (by decide)
      replace f := f.k g_2.g (ap_some (by omega))
      clear f17
      refine wl_nild ?_
      refine rk_seq ?_
      refine rk_seq ?_
      refine rk_region ?_
      refine wl_p (fun _ => o_assign rfl) ?_
      refine wl_nil ?_
      refine rk_block ?_
      refine rk_joinf (fun fb fr W => fr = [(16, .int .i64 (nb : Int)), (17, .pointer (some ⟨g17, 0, none⟩))] ++ fb.drop 3 ∧ OwnH W w_1.heap.size w65.heap.size A65 c65 B ∧ Blk W g15 23 (B8 en) ∧ Blk W g17 23 (B8 en) ∧ w_3.heap.size ≤ W.heap.size ∧ Below w.heap.size w W) ?_ (fun ks hj => ?_)
      rotate_left
      · refine rk_loopf (fun fb m fr W => ∃ (i k : Nat) (v kv : Int) (nx : By), fr = [(18, .int .i64 v), (16, .int .i64 kv), (17, .pointer (some ⟨g17, 0, none⟩))] ++ fb.drop 3 ∧ v = i ∧ kv = k ∧ i ≤ M.length ∧ m = M.length - i ∧ k = (bytesAll c (M.take i)).length ∧ nx = chainAll c (M.take i) ∧ OwnH W w_1.heap.size w65.heap.size A65 c65 B ∧ OwnRec W w65.heap.size w69.heap.size A69 c69 M ∧ Blk W g15 23 (B8 en) ∧ Blk W g17 23 (B8 nx) ∧ w_3.heap.size ≤ W.heap.size ∧ Below w.heap.size w W) (n := M.length) (Fr.le_of (by kernel_rfl) (by kernel_rfl) (by repeat' constructor)) ⟨0, 0, _, _, c, rfl, rfl, rfl, by omega, rfl, by simp [bytesAll], by simp [chainAll], f65, f69, f, f_1, Nat.le_refl _, hw⟩ ?_
        have hg15 := f.lt
        have hg17 := f_1.lt
        clear hw f f4 f65 f69 f_1
        rintro m fr W ⟨i, k, v, kv, nx, rfl, rfl, rfl, hi, rfl, hk, hnx, f65, f69, f15, f17, hsW, hw⟩
        have hnxl : nx.length = 32 := by rw [hnx]; exact chainAll_len hc _
        obtain ⟨p1, p2, p3, p4⟩ := hP.part i
        rw [← hk] at p1 p2 p4
        rw [← hnx] at p1 p2 p3
        rw [hen] at p3
        rw [hnb] at p2
        obtain ⟨Bk, hBk⟩ : ∃ Bk, B.drop k = Bk := ⟨_, rfl⟩
        have hBkl : B.length - k = Bk.length := by rw [← hBk, List.length_drop]
        have hBkb : Bk.length ≤ B.length := by omega
        rw [hBk] at p1
        have hr := p1.eq
        obtain ⟨nb2, hnb2⟩ : ∃ nb2, (bytesAll nx (M.drop i)).length = nb2 := ⟨_, rfl⟩
        rw [hnb2] at p2
        have hdl : M.length - i = (M.drop i).length := by rw [List.length_drop]
        first | refine rk_frame (by simp only [List.cons_append, List.nil_append, List.drop_succ_cons, List.drop_zero]; rfl) ?_ | refine wl_frame (by simp only [List.cons_append, List.nil_append, List.drop_succ_cons, List.drop_zero]; rfl) ?_
        refine rk_seq ?_
        refine rk_seq ?_
        refine rk_region ?_
        refine wl_p (fun _ => o_move rfl) ?_
        refine wl_p (fun _ => o_move rfl) ?_
        refine wl_p (fun _ => o_len (t := 42) Try.underlying42 rfl) ?_
        refine wl_p (fun _ => o_lt rfl rfl) ?_
        refine wl_nil ?_
        refine rk_if rfl (fun h77 => ?_) (fun h77 => ?_)
        · have hiM : i < M.length := by omega
          have hdr : M.drop i = M[i] :: M.drop (i + 1) := List.drop_eq_getElem_cons hiM
          have p5 := p1
          rw [hdr] at p5
          obtain ⟨hRd, hO⟩ := p5.head
          obtain ⟨z, hz⟩ : ∃ z, (bytesR nx M[i]).length = z := ⟨_, rfl⟩
          obtain ⟨x, hx⟩ : ∃ x, nextB nx M[i] = x := ⟨_, rfl⟩
          have hx32 : x.length = 32 := by rw [← hx]; exact nextB_len _ _
          have hpl : M[i].2.length ≤ 8192 := hO.2
          have hz2 : (bodyB M[i]).length + 8 = z := by rw [← hz, bytesR_len]
          have hzl : z ≤ nb2 := by rw [← hnb2, hdr, bytesAll, List.length_append, hz]; omega
          have e1 : (bytesAll c (M.take (i + 1))).length = k + z := by
            rw [List.take_succ_eq_append_getElem hiM, bytesAll_append, List.length_append, ← hk, ← hnx, bytesAll, bytesAll, List.append_nil, hz]
          have e2 : chainAll c (M.take (i + 1)) = x := by
            rw [List.take_succ_eq_append_getElem hiM, chainAll_append, ← hnx, ← hx]; rfl
          rw [hz, hx] at hRd
          refine rk_skip ?_
          refine rk_seq ?_
          refine rk_block ?_
          refine rk_seq ?_
          refine rk_drawo (id := 19) (none) [0, 0, 0, 6, 9, 16, 32, 32, 32, 0, 639, 1791, 4095] [0, 0, 0, 6, 15, 31, 63, 63, 63, 0, 639, 1791, 4095] 4624 512 [0, 1, 2, 3] [(.s, 0), (.p, 1), (.p, 2), (.p, 3), (.f 15 4624 512, 9)] (by kernel_rfl) (by kernel_rfl) (by kernel_rfl) (by kernel_rfl) (by kernel_rfl) ?_
          dsimp only [inOrder, nthOp]
          replace hw := hw.drew
          replace f17 := f17.d
          replace f15 := f15.d
          replace f69 := f69.d
          replace f65 := f65.d
          refine wl_s (fun _ hk => (o_ldBa Try.isAgg23 Try.sizeOf23 rfl (f17.u (below_of_grown_none hk)) hnxl)) ?_
          refine wl_p (fun _ => o_move rfl) ?_
          refine wl_p (fun _ => o_move rfl) ?_
          refine wl_slBl Try.u8 (k) rfl rfl f65.to_Rd rfl rfl (by omega) f65.cap ?_
          rintro A84 c84 f84 i84 i84_1
          rw [hBk] at f84
          rw [hBkl] at *
          refine wl_conc [⟨4, [(.p, 5), (.p, 6), (.p, 7), (.p, 8)], [88, 87, 86, 80, 85], [], fun vs w' lo hi => ∃ (A85 : Option Addr) (c85 : Nat) (u80 u85 : Value), vs = [.agg (B8 en).toArray, .int .i64 (nb2 : Int), .slice A85 (M.drop i).length c85, u80, u85] ∧ OwnRec w' lo hi A85 c85 (M.drop i)⟩, ⟨9, [], [21], [], fun vs w' lo hi => ∃ (g21 : Nat), vs = [.pointer (some ⟨g21, 0, none⟩)] ∧ Blk w' g21 23 (B8 nul32) ∧ lo ≤ g21 ∧ g21 < hi⟩] [0, 1] [0, 0, 0, 6, 9, 16, 32, 32, 32, 0, 639, 1791, 4095] [0, 0, 0, 6, 15, 31, 63, 63, 63, 0, 639, 1791, 4095] [10, 11, 12] [(.p, 10), (.p, 11), (.l, 12)] (by kernel_rfl) (by kernel_rfl) (by kernel_rfl) (by kernel_rfl) ⟨fun _ _ _ _ _ h hb => by obtain ⟨A85, c85, u80, u85, e0, g0⟩ := h; exact ⟨A85, c85, u80, u85, e0, g0.u hb⟩, fun _ _ _ _ _ h hb => by obtain ⟨g21, e0, g0, g1, g2⟩ := h; exact ⟨g21, e0, g0.u hb, g1, g2⟩, trivial⟩ ⟨?_, ?_, trivial⟩ ?_
          · intro wI hbI fo T T2 n2
            intro hk
            dsimp only [Item.idx, inOrder, nthOp, List.map, List.zip_cons_cons, List.zip_nil_right, List.cons_append, List.nil_append]
            have shbI := hbI.size
            simp only [drew_size] at shbI
            replace hw := hw.trans (hbI.mono hw.size)
            replace f84 := f84.u hbI
            replace f65 := f65.u hbI
            replace f69 := f69.u hbI
            replace f15 := f15.u hbI
            replace f17 := f17.u hbI
            have hw1 := Below.refl wI.heap.size wI
            refine wl_call rfl (C_AllN _ hr hnb2 p3 f84 rfl (by omega) hnxl (by omega)) ?_
            rintro v85 w85 ⟨A85, ⟨c85, ⟨rfl, ⟨f85, b85⟩⟩⟩⟩
            have qf85 := f85.cap
            have s85 := b85.size
            replace hw := hw.trans (b85.mono hw.size)
            replace hw1 := hw1.trans (b85.mono hw1.size)
            replace f17 := f17.u b85
            replace f15 := f15.u b85
            replace f69 := f69.u b85
            replace f65 := f65.u b85
            replace f84 := f84.u b85
            refine wl_p (fun _ => o_move rfl) ?_
            refine wl_p (fun _ => o_ext30 rfl) ?_
            refine wl_p (fun _ => o_ext31 rfl) ?_
            refine wl_p (fun _ => o_ext32 rfl) ?_
            exact hk [_, _, _, _, _] _ ⟨_, _, _, _, rfl, f85⟩ hw1
          · intro wI hbI fo T T2 n2
            intro hk
            dsimp only [Item.idx, inOrder, nthOp, List.map, List.zip_cons_cons, List.zip_nil_right, List.cons_append, List.nil_append]
            have shbI := hbI.size
            simp only [drew_size] at shbI
            replace hw := hw.trans (hbI.mono hw.size)
            replace f84 := f84.u hbI
            replace f65 := f65.u hbI
            replace f69 := f69.u hbI
            replace f15 := f15.u hbI
            replace f17 := f17.u hbI
            have hw1 := Below.refl wI.heap.size wI
            refine wl_allocB Try.underlying23 Try.zeroValue23 (by rfl) ?_
            rintro g21 w21 f21 b21 i21 i21_1
            have s21 := b21.size
            replace hw := hw.trans (b21.mono hw.size)
            replace hw1 := hw1.trans (b21.mono hw1.size)
            replace f17 := f17.u b21
            replace f15 := f15.u b21
            replace f69 := f69.u b21
            replace f65 := f65.u b21
            replace f84 := f84.u b21
            exact hk [_] _ ⟨_, rfl, f21, by omega, by omega⟩ hw1
          intro wE hbE
          rintro _ lo0 hi0 ⟨A85, c85, u80, u85, rfl, f85⟩ ql0 qm0 qh0 -
          rintro _ lo1 hi1 ⟨g21, rfl, f21, f21_1, f21_2⟩ ql1 qm1 qh1 ⟨qa1_0, -⟩
          try dsimp only at ql0 qm0 qh0  ql1 qm1 qh1 qa1_0
          try simp only [drew_size] at ql0 qm0 qh0  ql1 qm1 qh1 qa1_0
          dsimp only [given, Item.idx, inOrder, nthOp, List.map, List.zip_cons_cons, List.zip_nil_right]
          have shbE := hbE.size
          simp only [drew_size] at shbE
          replace hw := hw.trans (hbE.mono hw.size)
          replace f84 := f84.u hbE
          replace f65 := f65.u hbE
          replace f69 := f69.u hbE
          replace f15 := f15.u hbE
          replace f17 := f17.u hbE
          refine wl_p (fun _ => o_assign rfl) ?_
          refine wl_p (fun _ => o_assign rfl) ?_
          refine wl_stBa Try.sizeOf23 rfl f21 rfl hen32 (by rfl) ?_
          rintro w_4 f g_3 e_3
          have s_3 := g_3.size
          replace hw := hw.trans (below_of_grownBy g_3.g hw.size (by omega))
          replace f17 := f17.k g_3.g (ap_some (by omega))
          replace f15 := f15.k g_3.g (ap_some (by omega))
          replace f69 := f69.y g_3 (by decide)
          replace f65 := f65.k g_3.g (ap_some (by omega))
          replace f85 := f85.y g_3 (by decide)
          clear f84
          clear f21
          refine wl_nild ?_
          refine rk_seq ?_
          refine rk_seq ?_
          refine rk_region ?_
          refine wl_p (fun _ => o_move rfl) ?_
          refine wl_p (fun _ => o_move rfl) ?_
          refine wl_p (fun _ => o_move rfl) ?_
          refine wl_slRecLo (i) rfl rfl f69.to_RRec rfl rfl (by omega) (by omega) ?_
          rintro A92 c92 f92 i92
          refine wl_call rfl (C_kRecs _ f85.to_RRec f92 rfl hdl (by omega) (by omega)) ?_
          rintro v93 w93 ⟨rfl, b93⟩
          have s93 := b93.size
          replace hw := hw.trans (b93.mono hw.size)
          replace f92 := f92.u b93
          replace f85 := f85.u b93
          replace f65 := f65.u b93
          replace f69 := f69.u b93
          replace f15 := f15.u b93
          replace f17 := f17.u b93
          replace f := f.u b93
          refine wl_p (fun _ => o_not rfl) ?_
          refine wl_p (fun _ => o_move rfl) ?_
          refine wl_know 95 false rfl (by simp) ?_
          refine wl_p (fun _ => o_move rfl) ?_
          refine wl_p (fun _ => o_move rfl) ?_
          refine wl_p (fun _ => o_add rfl rfl (by omega) (by omega)) ?_
          refine wl_p (fun _ => o_move rfl) ?_
          refine wl_p (fun _ => o_ne rfl rfl) ?_
          refine wl_p (fun _ => o_pick_f rfl rfl) ?_
          refine wl_p (fun _ => o_move rfl) ?_
          refine wl_know 102 false rfl (decide_eq_false (by omega)) ?_
          refine wl_r (o_ldBa Try.isAgg23 Try.sizeOf23 rfl f hen32) ?_
          refine wl_r (o_ldBa Try.isAgg23 Try.sizeOf23 rfl f15 hen32) ?_
          refine wl_p (fun _ => (o_neD32 rfl rfl hen32 hen32)) ?_
          refine wl_p (fun _ => o_pick_f rfl rfl) ?_
          refine wl_nil ?_
          refine rk_cond rfl (fun h106 => by simp at h106) (fun h106 => ?_)
          refine rk_skip ?_
          refine rk_seq ?_
          refine rk_drawo (id := 22) (none) [0, 0, 0, 6, 9, 16, 32, 32, 32, 32, 0, 0, 3199, 7423, 15871, 32767] [0, 0, 0, 6, 15, 31, 63, 63, 63, 63, 0, 0, 3199, 7423, 15871, 32767] 23568 3072 [0, 1, 2, 3] [(.s, 0), (.p, 1), (.p, 2), (.p, 3), (.f 15 23568 3072, 12)] (by kernel_rfl) (by kernel_rfl) (by kernel_rfl) (by kernel_rfl) (by kernel_rfl) ?_
          dsimp only [inOrder, nthOp]
          replace hw := hw.drew
          replace f := f.d
          replace f17 := f17.d
          replace f15 := f15.d
          replace f69 := f69.d
          replace f65 := f65.d
          replace f85 := f85.d
          replace f92 := f92.d
          refine wl_s (fun _ hk => (o_ldBa Try.isAgg23 Try.sizeOf23 rfl (f17.u (below_of_grown_none hk)) hnxl)) ?_
          refine wl_p (fun _ => o_move rfl) ?_
          refine wl_p (fun _ => o_move rfl) ?_
          refine wl_slBl Try.u8 (k) rfl rfl f65.to_Rd rfl rfl (by omega) f65.cap ?_
          rintro A111 c111 f111 i111 i111_1
          have hBkl : B.length - k = Bk.length := by rw [← hBk, List.length_drop]
          rw [hBk] at f111
          rw [hBkl]
          refine wl_conc [⟨4, [(.p, 5), (.p, 6), (.p, 7), (.p, 8), (.p, 9)], [116, 115, 114, 113, 107, 112], [], fun vs w' lo hi => ∃ (A112 : Option Addr) (c112 : Nat) (u107 u112 : Value), vs = [.int .i64 0, .agg (B8 x).toArray, .int .i64 (z : Int), .agg #[.int .u8 (M[i].1.toNat : Int), .slice A112 M[i].2.length c112], u107, u112] ∧ OwnH w' lo hi A112 c112 M[i].2⟩, ⟨10, [], [22], [], fun vs w' lo hi => ∃ (g22 : Nat), vs = [.pointer (some ⟨g22, 0, none⟩)] ∧ Blk w' g22 31 [.int .u8 0, .slice none 0 0] ∧ lo ≤ g22 ∧ g22 < hi⟩, ⟨11, [], [24], [], fun vs w' lo hi => ∃ (g24 : Nat), vs = [.pointer (some ⟨g24, 0, none⟩)] ∧ Blk w' g24 23 (B8 nul32) ∧ lo ≤ g24 ∧ g24 < hi⟩] [0, 1, 2] [0, 0, 0, 6, 9, 16, 32, 32, 32, 32, 0, 0, 3199, 7423, 15871, 32767] [0, 0, 0, 6, 15, 31, 63, 63, 63, 63, 0, 0, 3199, 7423, 15871, 32767] [12, 13, 14, 15] [(.l, 12), (.p, 13), (.l, 14), (.p, 15)] (by kernel_rfl) (by kernel_rfl) (by kernel_rfl) (by kernel_rfl) ⟨fun _ _ _ _ _ h hb => by obtain ⟨A112, c112, u107, u112, e0, g0⟩ := h; exact ⟨A112, c112, u107, u112, e0, g0.u hb⟩, fun _ _ _ _ _ h hb => by obtain ⟨g22, e0, g0, g1, g2⟩ := h; exact ⟨g22, e0, g0.u hb, g1, g2⟩, fun _ _ _ _ _ h hb => by obtain ⟨g24, e0, g0, g1, g2⟩ := h; exact ⟨g24, e0, g0.u hb, g1, g2⟩, trivial⟩ ⟨?_, ?_, ?_, trivial⟩ ?_
          · intro wI hbI fo T T2 n2
            intro hk
            dsimp only [Item.idx, inOrder, nthOp, List.map, List.zip_cons_cons, List.zip_nil_right, List.cons_append, List.nil_append]
            have shbI := hbI.size
            simp only [drew_size] at shbI
            replace hw := hw.trans (hbI.mono hw.size)
            replace f111 := f111.u hbI
            replace f92 := f92.u hbI
            replace f85 := f85.u hbI
            replace f65 := f65.u hbI
            replace f69 := f69.u hbI
            replace f15 := f15.u hbI
            replace f17 := f17.u hbI
            replace f := f.u hbI
            have hw1 := Below.refl wI.heap.size wI
            refine wl_call rfl (C_RecReadN _ hRd f111 rfl (by omega) hnxl (by omega)) ?_
            rintro v112 w112 ⟨A112, ⟨c112, ⟨rfl, ⟨f112, b112⟩⟩⟩⟩
            dsimp only at f112
            dsimp only
            have qf112 := f112.cap
            have s112 := b112.size
            replace hw := hw.trans (b112.mono hw.size)
            replace hw1 := hw1.trans (b112.mono hw1.size)
            replace f := f.u b112
            replace f17 := f17.u b112
            replace f15 := f15.u b112
            replace f69 := f69.u b112
            replace f65 := f65.u b112
            replace f85 := f85.u b112
            replace f92 := f92.u b112
            replace f111 := f111.u b112
            refine wl_p (fun _ => o_move rfl) ?_
            refine wl_p (fun _ => o_ext40 rfl) ?_
            refine wl_p (fun _ => o_ext41 rfl) ?_
            refine wl_p (fun _ => o_ext42 rfl) ?_
            refine wl_p (fun _ => o_ext43 rfl) ?_
            exact hk [_, _, _, _, _, _] _ ⟨_, _, _, _, rfl, f112⟩ hw1
          · intro wI hbI fo T T2 n2
            intro hk
            dsimp only [Item.idx, inOrder, nthOp, List.map, List.zip_cons_cons, List.zip_nil_right, List.cons_append, List.nil_append]
            have shbI := hbI.size
            simp only [drew_size] at shbI
            replace hw := hw.trans (hbI.mono hw.size)
            replace f111 := f111.u hbI
            replace f92 := f92.u hbI
            replace f85 := f85.u hbI
            replace f65 := f65.u hbI
            replace f69 := f69.u hbI
            replace f15 := f15.u hbI
            replace f17 := f17.u hbI
            replace f := f.u hbI
            have hw1 := Below.refl wI.heap.size wI
            refine wl_allocg [_, _] Try.zeroValue31 (by rfl) ?_
            rintro g22 w22 f22 b22 i22 i22_1
            have s22 := b22.size
            replace hw := hw.trans (b22.mono hw.size)
            replace hw1 := hw1.trans (b22.mono hw1.size)
            replace f := f.u b22
            replace f17 := f17.u b22
            replace f15 := f15.u b22
            replace f69 := f69.u b22
            replace f65 := f65.u b22
            replace f85 := f85.u b22
            replace f92 := f92.u b22
            replace f111 := f111.u b22
            exact hk [_] _ ⟨_, rfl, f22, by omega, by omega⟩ hw1
          · intro wI hbI fo T T2 n2
            intro hk
            dsimp only [Item.idx, inOrder, nthOp, List.map, List.zip_cons_cons, List.zip_nil_right, List.cons_append, List.nil_append]
            have shbI := hbI.size
            simp only [drew_size] at shbI
            replace hw := hw.trans (hbI.mono hw.size)
            replace f111 := f111.u hbI
            replace f92 := f92.u hbI
            replace f85 := f85.u hbI
            replace f65 := f65.u hbI
            replace f69 := f69.u hbI
            replace f15 := f15.u hbI
            replace f17 := f17.u hbI
            replace f := f.u hbI
            have hw1 := Below.refl wI.heap.size wI
            refine wl_allocB Try.underlying23 Try.zeroValue23 (by rfl) ?_
            rintro g24 w24 f24 b24 i24 i24_1
            have s24 := b24.size
            replace hw := hw.trans (b24.mono hw.size)
            replace hw1 := hw1.trans (b24.mono hw1.size)
            replace f := f.u b24
            replace f17 := f17.u b24
            replace f15 := f15.u b24
            replace f69 := f69.u b24
            replace f65 := f65.u b24
            replace f85 := f85.u b24
            replace f92 := f92.u b24
            replace f111 := f111.u b24
            exact hk [_] _ ⟨_, rfl, f24, by omega, by omega⟩ hw1
          intro wE hbE
          rintro _ lo0 hi0 ⟨A112, c112, u107, u112, rfl, f112⟩ ql0 qm0 qh0 -
          rintro _ lo1 hi1 ⟨g22, rfl, f22, f22_1, f22_2⟩ ql1 qm1 qh1 ⟨qa1_0, -⟩
          rintro _ lo2 hi2 ⟨g24, rfl, f24, f24_1, f24_2⟩ ql2 qm2 qh2 ⟨qa2_1, qa2_0, -⟩
          try dsimp only at ql0 qm0 qh0  ql1 qm1 qh1 qa1_0 ql2 qm2 qh2 qa2_0 qa2_1
          try simp only [drew_size] at ql0 qm0 qh0  ql1 qm1 qh1 qa1_0 ql2 qm2 qh2 qa2_0 qa2_1
          dsimp only [given, Item.idx, inOrder, nthOp, List.map, List.zip_cons_cons, List.zip_nil_right]
          have shbE_1 := hbE.size
          simp only [drew_size] at shbE_1
          replace hw := hw.trans (hbE.mono hw.size)
          replace f111 := f111.u hbE
          replace f92 := f92.u hbE
          replace f85 := f85.u hbE
          replace f65 := f65.u hbE
          replace f69 := f69.u hbE
          replace f15 := f15.u hbE
          replace f17 := f17.u hbE
          replace f := f.u hbE
          refine wl_storega Try.sizeOf31 rfl rfl (by rfl) (oneCell_of (by rfl)) f22 (by rfl) ?_
          rintro w_5 f_1 g_4 e_4
          have s_4 := g_4.size
          replace hw := hw.trans (below_of_grownBy g_4.g hw.size (by omega))
          replace f := f.k g_4.g (ap_some (by omega))
          replace f17 := f17.k g_4.g (ap_some (by omega))
          replace f15 := f15.k g_4.g (ap_some (by omega))
          replace f69 := f69.q g_4 (ap_some (by omega)) (by decide)
          replace f65 := f65.k g_4.g (ap_some (by omega))
          replace f85 := f85.q g_4 (ap_some (by omega)) (by decide)
          replace f24 := f24.k g_4.g (ap_some (by omega))
          replace f112 := f112.k g_4.g (ap_some (by omega))
          clear f92
          clear f111
          clear f22
          refine wl_p (fun _ => o_assign rfl) ?_
          refine wl_stBa Try.sizeOf23 rfl f24 rfl hx32 (by rfl) ?_
          rintro w_6 f_2 g_5 e_5
          have s_5 := g_5.size
          replace hw := hw.trans (below_of_grownBy g_5.g hw.size (by omega))
          replace f112 := f112.k g_5.g (ap_some (by omega))
          replace f85 := f85.y g_5 (by decide)
          replace f65 := f65.k g_5.g (ap_some (by omega))
          replace f69 := f69.y g_5 (by decide)
          replace f15 := f15.k g_5.g (ap_some (by omega))
          replace f17 := f17.k g_5.g (ap_some (by omega))
          replace f := f.k g_5.g (ap_some (by omega))
          replace f_1 := f_1.k g_5.g (ap_some (by omega))
          clear f24
          refine wl_p (fun _ => o_assign rfl) ?_
          refine wl_nild ?_
          refine rk_seq ?_
          refine rk_seq ?_
          refine rk_draw (id := 23) (none) [0, 1, 2, 4, 4, 4, 52, 68, 140, 260, 516, 1280, 2048, 2048, 10240, 22528, 34816, 81920, 131072, 131072, 131072, 1703936, 2490368, 4325376] [0, 1, 3, 7, 7, 7, 55, 119, 255, 511, 1023, 2047, 4095, 4095, 12287, 32767, 65535, 131071, 262143, 262143, 262143, 1835007, 4194303, 8388607] 2113792 2097152 [(.p, 0), (.p, 1), (.p, 2), (.r, 3), (.p, 4), (.p, 5), (.p, 6), (.r, 7), (.l, 8), (.p, 9), (.p, 10), (.p, 11), (.p, 12), (.r, 13), (.l, 14), (.p, 15), (.p, 16), (.p, 17), (.s, 18), (.r, 19), (.r, 20), (.c, 21), (.p, 22), (.p, 23)] (by kernel_rfl) (by kernel_rfl) (by kernel_rfl) (by kernel_rfl) (by kernel_rfl) ?_
          replace hw := hw.drew
          replace f_1 := f_1.d
          replace f := f.d
          replace f17 := f17.d
          replace f15 := f15.d
          replace f69 := f69.d
          replace f65 := f65.d
          replace f85 := f85.d
          replace f112 := f112.d
          replace f_2 := f_2.d
          refine wl_p (fun _ => o_move rfl) ?_
          refine wl_p (fun _ => o_ne rfl rfl) ?_
          refine wl_p (fun _ => o_move rfl) ?_
          refine wl_r (o_loadag Try.isAgg31 Try.sizeOf31 rfl f_1 (by rfl)) ?_
          refine wl_p (fun _ => o_move rfl) ?_
          refine wl_p (fun _ => o_move rfl) ?_
          refine wl_p (fun _ => (o_iaddrA (i) Try.underlying42 Try.sizeOf31 rfl rfl rfl (f69.some_ (by omega)) (by omega))) ?_
          refine wl_ldRec rfl f69.to_RRec (Below.refl _ _) (by omega) ?_
          rintro A1124 c1124 f124 i124 i124_1
          refine wl_call rfl (C_kRecZ _ (by rfl) (by rfl) f112.to_Rd f124 rfl rfl) ?_
          rintro v125 w125 ⟨rfl, b125⟩
          simp only [drew_size] at b125
          have s125 := b125.size
          simp only [drew_size] at s125
          replace hw := hw.trans (b125.mono hw.size)
          replace f124 := f124.u b125
          replace f_2 := f_2.u b125
          replace f112 := f112.u b125
          replace f85 := f85.u b125
          replace f65 := f65.u b125
          replace f69 := f69.u b125
          replace f15 := f15.u b125
          replace f17 := f17.u b125
          replace f := f.u b125
          replace f_1 := f_1.u b125
          refine wl_p (fun _ => o_not rfl) ?_
          refine wl_p (fun _ => o_pick_f rfl rfl) ?_
          refine wl_p (fun _ => o_move rfl) ?_
          refine wl_know 128 false rfl (by simp) ?_
          refine wl_p (fun _ => o_move rfl) ?_
          refine wl_r (o_loadag Try.isAgg31 Try.sizeOf31 rfl f_1 (by rfl)) ?_
          refine wl_call rfl (C_SizeOk _ f112.to_Rd (by rfl) hz2 (by omega) rfl (by omega)) ?_
          rintro v131 w131 ⟨rfl, b131⟩
          have s131 := b131.size
          replace hw := hw.trans (b131.mono hw.size)
          replace f_1 := f_1.u b131
          replace f := f.u b131
          replace f17 := f17.u b131
          replace f15 := f15.u b131
          replace f69 := f69.u b131
          replace f65 := f65.u b131
          replace f85 := f85.u b131
          replace f112 := f112.u b131
          replace f_2 := f_2.u b131
          replace f124 := f124.u b131
          refine wl_p (fun _ => o_ne rfl rfl) ?_
          refine wl_p (fun _ => o_pick_f rfl rfl) ?_
          refine wl_p (fun _ => o_move rfl) ?_
          refine wl_know 134 false rfl (decide_eq_false (by omega)) ?_
          refine wl_s (fun _ hk => (o_ldBa Try.isAgg23 Try.sizeOf23 rfl (f_2.u (below_of_grown_none hk)) hx32)) ?_
          refine wl_r (o_ldBa Try.isAgg23 Try.sizeOf23 rfl f17 hnxl) ?_
          refine wl_r (o_loadag Try.isAgg31 Try.sizeOf31 rfl f_1 (by rfl)) ?_
          refine wl_call rfl (C_Next _ f112.to_Rd rfl (by omega) hnxl hx) ?_ (hq := .inr fun _ _ h => grown_of_below h.2 _)
          rintro v138 w138 ⟨rfl, b138⟩
          have s138 := b138.size
          replace hw := hw.trans (b138.mono hw.size)
          replace f124 := f124.u b138
          replace f_2 := f_2.u b138
          replace f112 := f112.u b138
          replace f85 := f85.u b138
          replace f65 := f65.u b138
          replace f69 := f69.u b138
          replace f15 := f15.u b138
          replace f17 := f17.u b138
          replace f := f.u b138
          replace f_1 := f_1.u b138
          refine wl_p (fun _ => (o_neD32 rfl rfl hx32 hx32)) ?_
          refine wl_p (fun _ => o_pick_f rfl rfl) ?_
          refine wl_nild ?_
          refine rk_cond rfl (fun h140 => by simp at h140) (fun h140 => ?_)
          refine rk_skip ?_
          refine rk_draw (id := 25) (none) [0, 0, 3, 0, 7, 31] [0, 0, 3, 0, 7, 31] 32 0 [(.p, 0), (.p, 1), (.p, 2), (.r, 3), (.p, 4), (.l, 5)] (by kernel_rfl) (by kernel_rfl) (by kernel_rfl) (by kernel_rfl) (by kernel_rfl) ?_
          replace hw := hw.drew
          replace f_1 := f_1.d
          replace f := f.d
          replace f17 := f17.d
          replace f15 := f15.d
          replace f69 := f69.d
          replace f65 := f65.d
          replace f85 := f85.d
          replace f112 := f112.d
          replace f_2 := f_2.d
          replace f124 := f124.d
          refine wl_p (fun _ => o_move rfl) ?_
          refine wl_p (fun _ => o_move rfl) ?_
          refine wl_p (fun _ => o_add rfl rfl (by omega) (by omega)) ?_
          refine wl_r (o_ldBa Try.isAgg23 Try.sizeOf23 rfl f_2 hx32) ?_
          refine wl_p (fun _ => o_assign rfl) ?_
          refine wl_stBa Try.sizeOf23 rfl f17 rfl hx32 hnxl ?_
          rintro w_7 f_3 g_6 e_6
          simp only [drew_size] at e_6
          have s_6 := g_6.size
          simp only [drew_size] at s_6
          replace hw := hw.trans (below_of_grownBy g_6.g hw.size (by omega))
          replace f_2 := f_2.k g_6.g (ap_some (by omega))
          replace f112 := f112.k g_6.g (ap_some (by omega))
          replace f85 := f85.y g_6 (by decide)
          replace f65 := f65.k g_6.g (ap_some (by omega))
          replace f69 := f69.y g_6 (by decide)
          replace f15 := f15.k g_6.g (ap_some (by omega))
          replace f := f.k g_6.g (ap_some (by omega))
          replace f_1 := f_1.k g_6.g (ap_some (by omega))
          clear f124
          clear f17
          refine wl_nild ?_
          refine rk_blk ?_
          refine rk_region ?_
          refine wl_p (fun _ => o_move rfl) ?_
          refine wl_p (fun _ => o_add rfl rfl (by omega) (by omega)) ?_
          refine wl_p (fun _ => o_assign rfl) ?_
          refine wl_nil ?_
          exact rk_againf (Fr.le_of (by kernel_rfl) (by kernel_rfl) (by repeat' constructor)) ⟨i + 1, k + z, (i : Int) + 1, (k : Int) + z, x, rfl, by omega, by omega, by omega, rfl, e1.symm, e2.symm, f65, f69, f15, by assumption, by omega, hw⟩ (by omega)
        · refine rk_exit rfl ?_
          obtain rfl : i = M.length := by omega
          rw [List.take_length] at hk hnx
          rw [hnb] at hk
          rw [hen] at hnx
          subst hk; subst hnx
          exact rk_tof hj (Fr.le_of (by kernel_rfl) (by kernel_rfl) (by repeat' constructor)) ⟨rfl, f65, f15, f17, hsW, hw⟩
      have hg15 := f.lt
      have hg17 := f_1.lt
      clear hw f f4 f65 f69 f_1
      rintro fr W ⟨rfl, f65, f15, f17, hsW, hw⟩
      obtain ⟨q, hq, hO, hqe⟩ := hP
      rw [hen] at hqe
      have hnbB : nb ≤ B.length := by rw [hq, List.length_append, hnb]; omega
      have hBq : B.drop nb = q := by rw [hq, ← hnb, List.drop_left]
      have hql : B.length - nb = q.length := by rw [← hBq, List.length_drop]
      have hqb : q.length ≤ B.length := by omega
      obtain ⟨⟨⟨k', p'⟩, z', x', e'⟩, hR⟩ : ∃ s, readR en q = s := ⟨_, rfl⟩
      rw [hR] at hqe
      simp only at hqe
      have hx32 : x'.length = 32 := by
        rcases readR_e en q with h | ⟨h, _⟩
        · exact absurd (by rw [hR] at h; exact h) hqe
        · rw [hR] at h; simp only [Prod.mk.injEq] at h; rw [h.2.2.1]; rfl
      first | refine rk_frame (by simp only [List.cons_append, List.nil_append, List.drop_succ_cons, List.drop_zero]; rfl) ?_ | refine wl_frame (by simp only [List.cons_append, List.nil_append, List.drop_succ_cons, List.drop_zero]; rfl) ?_
      refine rk_seq ?_
      refine rk_drawo (id := 26) (none) [0, 0, 0, 6, 9, 16, 32, 32, 32, 32, 0, 0, 3199, 7423, 15871, 32767] [0, 0, 0, 6, 15, 31, 63, 63, 63, 63, 0, 0, 3199, 7423, 15871, 32767] 23568 3072 [0, 1, 2, 3] [(.s, 0), (.p, 1), (.p, 2), (.p, 3), (.f 15 23568 3072, 12)] (by kernel_rfl) (by kernel_rfl) (by kernel_rfl) (by kernel_rfl) (by kernel_rfl) ?_
      dsimp only [inOrder, nthOp]
      replace hw := hw.drew
      replace f17 := f17.d
      replace f15 := f15.d
      replace f65 := f65.d
      refine wl_s (fun _ hk => (o_ldBa Try.isAgg23 Try.sizeOf23 rfl (f17.u (below_of_grown_none hk)) hen32)) ?_
      refine wl_p (fun _ => o_move rfl) ?_
      refine wl_p (fun _ => o_move rfl) ?_
      refine wl_slBl Try.u8 (nb) rfl rfl f65.to_Rd rfl rfl (by omega) f65.cap ?_
      rintro A149 c149 f149 i149 i149_1
      rw [hBq] at f149
      rw [hql]
      refine wl_conc [⟨4, [(.p, 5), (.p, 6), (.p, 7), (.p, 8), (.p, 9)], [154, 153, 152, 151, 145, 150], [], fun vs w' lo hi => ∃ (A150 : Option Addr) (c150 : Nat) (u145 u150 : Value), vs = [.int .i64 (e' : Int), .agg (B8 x').toArray, .int .i64 (z' : Int), .agg #[.int .u8 (k'.toNat : Int), .slice A150 p'.length c150], u145, u150] ∧ OwnH w' lo hi A150 c150 p'⟩, ⟨10, [], [26], [], fun vs w' lo hi => ∃ (g26 : Nat), vs = [.pointer (some ⟨g26, 0, none⟩)] ∧ Blk w' g26 31 [.int .u8 0, .slice none 0 0] ∧ lo ≤ g26 ∧ g26 < hi⟩, ⟨11, [], [28], [], fun vs w' lo hi => ∃ (g28 : Nat), vs = [.pointer (some ⟨g28, 0, none⟩)] ∧ Blk w' g28 23 (B8 nul32) ∧ lo ≤ g28 ∧ g28 < hi⟩] [0, 1, 2] [0, 0, 0, 6, 9, 16, 32, 32, 32, 32, 0, 0, 3199, 7423, 15871, 32767] [0, 0, 0, 6, 15, 31, 63, 63, 63, 63, 0, 0, 3199, 7423, 15871, 32767] [12, 13, 14, 15] [(.l, 12), (.p, 13), (.l, 14), (.p, 15)] (by kernel_rfl) (by kernel_rfl) (by kernel_rfl) (by kernel_rfl) ⟨fun _ _ _ _ _ h hb => by obtain ⟨A150, c150, u145, u150, e0, g0⟩ := h; exact ⟨A150, c150, u145, u150, e0, g0.u hb⟩, fun _ _ _ _ _ h hb => by obtain ⟨g26, e0, g0, g1, g2⟩ := h; exact ⟨g26, e0, g0.u hb, g1, g2⟩, fun _ _ _ _ _ h hb => by obtain ⟨g28, e0, g0, g1, g2⟩ := h; exact ⟨g28, e0, g0.u hb, g1, g2⟩, trivial⟩ ⟨?_, ?_, ?_, trivial⟩ ?_
      · intro wI hbI fo T T2 n2
        intro hk
        dsimp only [Item.idx, inOrder, nthOp, List.map, List.zip_cons_cons, List.zip_nil_right, List.cons_append, List.nil_append]
        have shbI := hbI.size
        simp only [drew_size] at shbI
        replace hw := hw.trans (hbI.mono hw.size)
        replace f149 := f149.u hbI
        replace f65 := f65.u hbI
        replace f15 := f15.u hbI
        replace f17 := f17.u hbI
        have hw1 := Below.refl wI.heap.size wI
        refine wl_call rfl (C_RecReadN _ hR f149 rfl (by omega) hen32 (by omega)) ?_
        rintro v150 w150 ⟨A150, ⟨c150, ⟨rfl, ⟨f150, b150⟩⟩⟩⟩
        dsimp only at f150
        dsimp only
        have qf150 := f150.cap
        have s150 := b150.size
        replace hw := hw.trans (b150.mono hw.size)
        replace hw1 := hw1.trans (b150.mono hw1.size)
        replace f17 := f17.u b150
        replace f15 := f15.u b150
        replace f65 := f65.u b150
        replace f149 := f149.u b150
        refine wl_p (fun _ => o_move rfl) ?_
        refine wl_p (fun _ => o_ext40 rfl) ?_
        refine wl_p (fun _ => o_ext41 rfl) ?_
        refine wl_p (fun _ => o_ext42 rfl) ?_
        refine wl_p (fun _ => o_ext43 rfl) ?_
        exact hk [_, _, _, _, _, _] _ ⟨_, _, _, _, rfl, f150⟩ hw1
      · intro wI hbI fo T T2 n2
        intro hk
        dsimp only [Item.idx, inOrder, nthOp, List.map, List.zip_cons_cons, List.zip_nil_right, List.cons_append, List.nil_append]
        have shbI := hbI.size
        simp only [drew_size] at shbI
        replace hw := hw.trans (hbI.mono hw.size)
        replace f149 := f149.u hbI
        replace f65 := f65.u hbI
        replace f15 := f15.u hbI
        replace f17 := f17.u hbI
        have hw1 := Below.refl wI.heap.size wI
        refine wl_allocg [_, _] Try.zeroValue31 (by rfl) ?_
        rintro g26 w26 f26 b26 i26 i26_1
        have s26 := b26.size
        replace hw := hw.trans (b26.mono hw.size)
        replace hw1 := hw1.trans (b26.mono hw1.size)
        replace f17 := f17.u b26
        replace f15 := f15.u b26
        replace f65 := f65.u b26
        replace f149 := f149.u b26
        exact hk [_] _ ⟨_, rfl, f26, by omega, by omega⟩ hw1
      · intro wI hbI fo T T2 n2
        intro hk
        dsimp only [Item.idx, inOrder, nthOp, List.map, List.zip_cons_cons, List.zip_nil_right, List.cons_append, List.nil_append]
        have shbI := hbI.size
        simp only [drew_size] at shbI
        replace hw := hw.trans (hbI.mono hw.size)
        replace f149 := f149.u hbI
        replace f65 := f65.u hbI
        replace f15 := f15.u hbI
        replace f17 := f17.u hbI
        have hw1 := Below.refl wI.heap.size wI
        refine wl_allocB Try.underlying23 Try.zeroValue23 (by rfl) ?_
        rintro g28 w28 f28 b28 i28 i28_1
        have s28 := b28.size
        replace hw := hw.trans (b28.mono hw.size)
        replace hw1 := hw1.trans (b28.mono hw1.size)
        replace f17 := f17.u b28
        replace f15 := f15.u b28
        replace f65 := f65.u b28
        replace f149 := f149.u b28
        exact hk [_] _ ⟨_, rfl, f28, by omega, by omega⟩ hw1
      intro wE hbE
      rintro _ lo0 hi0 ⟨A150, c150, u145, u150, rfl, f150⟩ ql0 qm0 qh0 -
      rintro _ lo1 hi1 ⟨g26, rfl, f26, f26_1, f26_2⟩ ql1 qm1 qh1 ⟨qa1_0, -⟩
      rintro _ lo2 hi2 ⟨g28, rfl, f28, f28_1, f28_2⟩ ql2 qm2 qh2 ⟨qa2_1, qa2_0, -⟩
      try dsimp only at ql0 qm0 qh0  ql1 qm1 qh1 qa1_0 ql2 qm2 qh2 qa2_0 qa2_1
      try simp only [drew_size] at ql0 qm0 qh0  ql1 qm1 qh1 qa1_0 ql2 qm2 qh2 qa2_0 qa2_1
      dsimp only [given, Item.idx, inOrder, nthOp, List.map, List.zip_cons_cons, List.zip_nil_right]
      have shbE := hbE.size
      simp only [drew_size] at shbE
      replace hw := hw.trans (hbE.mono hw.size)
      replace f149 := f149.u hbE
      replace f65 := f65.u hbE
      replace f15 := f15.u hbE
      replace f17 := f17.u hbE
      refine wl_storega Try.sizeOf31 rfl rfl (by rfl) (oneCell_of (by rfl)) f26 (by rfl) ?_
      rintro w_4 f g_3 e_3
      have s_3 := g_3.size
      replace hw := hw.trans (below_of_grownBy g_3.g hw.size (by omega))
      replace f17 := f17.k g_3.g (ap_some (by omega))
      replace f15 := f15.k g_3.g (ap_some (by omega))
      replace f65 := f65.k g_3.g (ap_some (by omega))
      replace f28 := f28.k g_3.g (ap_some (by omega))
      replace f150 := f150.k g_3.g (ap_some (by omega))
      clear f149
      clear f26
      refine wl_p (fun _ => o_assign rfl) ?_
      refine wl_stBa Try.sizeOf23 rfl f28 rfl hx32 (by rfl) ?_
      rintro w_5 f_1 g_4 e_4
      have s_4 := g_4.size
      replace hw := hw.trans (below_of_grownBy g_4.g hw.size (by omega))
      replace f150 := f150.k g_4.g (ap_some (by omega))
      replace f65 := f65.k g_4.g (ap_some (by omega))
      replace f15 := f15.k g_4.g (ap_some (by omega))
      replace f17 := f17.k g_4.g (ap_some (by omega))
      replace f := f.k g_4.g (ap_some (by omega))
      clear f28
      refine wl_p (fun _ => o_assign rfl) ?_
      refine wl_nild ?_
      refine rk_seq ?_
      refine rk_region ?_
      refine wl_p (fun _ => o_move rfl) ?_
      refine wl_p (fun _ => o_move rfl) ?_
      refine wl_p (fun _ => o_eq rfl rfl) ?_
      refine wl_p (fun _ => o_move rfl) ?_
      refine wl_know 158 true rfl (decide_eq_true (by omega)) ?_
      refine wl_r (o_ldBa Try.isAgg23 Try.sizeOf23 rfl f17 hen32) ?_
      refine wl_r (o_ldBa Try.isAgg23 Try.sizeOf23 rfl f15 hen32) ?_
      refine wl_p (fun _ => (o_eqD32 rfl rfl hen32 hen32)) ?_
      refine wl_p (fun _ => o_pick_t rfl rfl) ?_
      refine wl_p (fun _ => o_move rfl) ?_
      refine wl_know 163 true rfl (by simp) ?_
      refine wl_p (fun _ => o_move rfl) ?_
      refine wl_p (fun _ => o_ne rfl rfl) ?_
      refine wl_p (fun _ => o_pick_t rfl rfl) ?_
      refine wl_p (fun _ => o_assign rfl) ?_
      refine wl_nil ?_
      refine ret1 rfl rfl ?_
      exact ⟨congrArg Value.bool (decide_eq_true (by omega)), hw⟩
--@ arg []api.Record arg_Records
theorem arg_Records {H : Type} {enc : TypeId × Value → H} {W : World} {base : Nat} {v : Value} {d : DataW H} {p : List MemPlace} (hok : Value.okWide Try.prog W .any base 42 v) (h : DataW.Trod enc Try.prog W 0 (fun _ => true) true 42 v d p) :
    ∃ (A : Option Addr) (c : Nat) (L : List Rc), v = .slice A L.length c ∧ RRec W A L ∧ L.length ≤ c ∧ c ≤ maxLen := by
  obtain ⟨L, h1⟩ := open_slc (X := GoT.slice 31 gRec) (opens_slice Try.underlying42 (by kernel_rfl) (by decide) opens_Rec) Try.underlying42 hok h
  obtain ⟨A, c, e, h2, h3, h4⟩ := slice_RSl h1
  injection e with e
  exact ⟨A, c, L, e, h2, h3, h4⟩
end Go.Proofs.Ytpjedpmbninfcaa
