/-
  Walks of package sha: the words of a piece, and what a piece does to a state.
-/
import Derived.Test.YtpjedpmbninfcaaShA
namespace Go.Proofs.Ytpjedpmbninfcaa
open Go.RowKit
/-- Turned to the left. -/
def rotU (x : UInt64) (k : Int) : UInt64 := shlU x (k % 64).toNat ||| shrU x (64 - (k % 64).toNat)
theorem C_rot {x : UInt64} {k : Int} (w : World) (h1 : -64 < k) (h2 : k < 0) : CallsR Try.prog 56 [.int .u64 (x.toNat : Int), .int .i64 k] w fun v w' => v = .int .u64 ((rotU x k).toNat : Int) ∧ w' = w := by
  obtain ⟨s, hs⟩ : ∃ s : Nat, k % 64 = s := ⟨(k % 64).toNat, by omega⟩
  have e1 : bits .and .u64 (IntKind.u64.wrap k) 63 = (s : Int) := by
    rw [IntKind.wrap_u64]
    obtain ⟨n, hn⟩ : ∃ n : Nat, k % 18446744073709551616 = n := ⟨(k % 18446744073709551616).toNat, by omega⟩
    rw [hn]
    have h := bits_and_u64_nat n 63 (by omega) (by omega)
    have h3 : n &&& 63 = n % 64 := Nat.and_two_pow_sub_one_eq_mod n 6
    rw [h3] at h
    have : n % 64 = s := by omega
    rw [← this]; exact h
  refine callsR Try.func56 rfl rfl (by kernel_rfl) rfl ?_
  refine rk_seq ?_
  refine rk_region ?_
  refine wl_p (fun _ => o_assign rfl) ?_
  refine wl_nil ?_
  refine rk_seq ?_
  refine rk_region ?_
  refine wl_p (fun _ => o_move rfl) ?_
  refine wl_p (fun _ => o_convi Try.underlying3 Try.underlying92 rfl) ?_
  refine wl_p (fun _ => o_and rfl rfl) ?_
  refine wl_p (fun _ => o_assign rfl) ?_
  refine wl_nil ?_
  refine rk_seq ?_
  refine rk_region ?_
  refine wl_p (fun _ => o_move rfl) ?_
  refine wl_p (fun _ => o_move rfl) ?_
  refine wl_p (fun _ => o_shlU rfl rfl (by omega) (by omega)) ?_
  refine wl_p (fun _ => o_move rfl) ?_
  refine wl_p (fun _ => o_move rfl) ?_
  refine wl_p (fun _ => o_subq rfl rfl (by omega) (by omega)) ?_
  refine wl_p (fun _ => o_shrU rfl rfl (by omega) (by omega)) ?_
  refine wl_p (fun _ => o_orU rfl rfl) ?_
  refine wl_p (fun _ => o_assign rfl) ?_
  refine wl_nil ?_
  rw [e1]
  refine ret1 rfl rfl ?_
  exact ⟨by unfold rotU; rw [hs, show (64 - (s : Int)).toNat = 64 - s by omega]; rfl, rfl⟩

def Kl : List UInt64 := [
  0x428a2f98d728ae22, 0x7137449123ef65cd, 0xb5c0fbcfec4d3b2f, 0xe9b5dba58189dbbc, 0x3956c25bf348b538, 0x59f111f1b605d019, 0x923f82a4af194f9b, 0xab1c5ed5da6d8118,
  0xd807aa98a3030242, 0x12835b0145706fbe, 0x243185be4ee4b28c, 0x550c7dc3d5ffb4e2, 0x72be5d74f27b896f, 0x80deb1fe3b1696b1, 0x9bdc06a725c71235, 0xc19bf174cf692694,
  0xe49b69c19ef14ad2, 0xefbe4786384f25e3, 0x0fc19dc68b8cd5b5, 0x240ca1cc77ac9c65, 0x2de92c6f592b0275, 0x4a7484aa6ea6e483, 0x5cb0a9dcbd41fbd4, 0x76f988da831153b5,
  0x983e5152ee66dfab, 0xa831c66d2db43210, 0xb00327c898fb213f, 0xbf597fc7beef0ee4, 0xc6e00bf33da88fc2, 0xd5a79147930aa725, 0x06ca6351e003826f, 0x142929670a0e6e70,
  0x27b70a8546d22ffc, 0x2e1b21385c26c926, 0x4d2c6dfc5ac42aed, 0x53380d139d95b3df, 0x650a73548baf63de, 0x766a0abb3c77b2a8, 0x81c2c92e47edaee6, 0x92722c851482353b,
  0xa2bfe8a14cf10364, 0xa81a664bbc423001, 0xc24b8b70d0f89791, 0xc76c51a30654be30, 0xd192e819d6ef5218, 0xd69906245565a910, 0xf40e35855771202a, 0x106aa07032bbd1b8,
  0x19a4c116b8d2d0c8, 0x1e376c085141ab53, 0x2748774cdf8eeb99, 0x34b0bcb5e19b48a8, 0x391c0cb3c5c95a63, 0x4ed8aa4ae3418acb, 0x5b9cca4f7763e373, 0x682e6ff3d6b2b8a3,
  0x748f82ee5defb2fc, 0x78a5636f43172f60, 0x84c87814a1f0ab72, 0x8cc702081a6439ec, 0x90befffa23631e28, 0xa4506cebde82bde9, 0xbef9a3f7b2c67915, 0xc67178f2e372532b,
  0xca273eceea26619c, 0xd186b8c721c0c207, 0xeada7dd6cde0eb1e, 0xf57d4f7fee6ed178, 0x06f067aa72176fba, 0x0a637dc5a2c898a6, 0x113f9804bef90dae, 0x1b710b35131c471b,
  0x28db77f523047d84, 0x32caab7b40c72493, 0x3c9ebe0a15c9bebc, 0x431d67c49c100d4c, 0x4cc5d4becb3e42b6, 0x597f299cfc657e2a, 0x5fcb6fab3ad6faec, 0x6c44198c4a475817]
def Sl : List UInt64 := [0x6a09e667f3bcc908, 0xbb67ae8584caa73b, 0x3c6ef372fe94f82b, 0xa54ff53a5f1d36f1, 0x510e527fade682d1, 0x9b05688c2b3e6c1f, 0x1f83d9abfb41bd6b, 0x5be0cd19137e2179]
theorem Kl_len : Kl.length = 80 := rfl
theorem Sl_len : Sl.length = 8 := rfl
theorem zv80 : ∀ w, (zeroValue 97).run Try.prog w = .ok (.agg (vU (List.replicate 80 0)).toArray) w := fun w => by
  have h : (Try.prog.info? 97).map (fun i => (i.zero, i.size, i.bytes)) = some (some (.agg (vU (List.replicate 80 0)).toArray), 80, 640) := by kernel_rfl
  obtain ⟨i, hi, hz, _, _⟩ := info_parts h
  simp [zeroValue, typeInfo, hi, hz]
section
variable {fn : Func} {F : Ending → World → Prop} {N : Nat} {ks : List K} {ops : Array Oper} {tg : Tags} {l : List Oper} {fr : Fr} {w : World} {ty : TypeId} {pos : String} {aft : Array Edge} {gd : Option (Nat × Bool)} {d : Nat}
--@ rule alloc l wl_alloc80
theorem wl_alloc80 (hk : ∀ g w', Blk w' g 97 (vU (List.replicate 80 0)) → Below w.heap.size w w' → w.heap.size ≤ g → g < w'.heap.size → WL Try.prog fn F N ks ops tg.tail l ((d, .pointer (some ⟨g, 0, none⟩)) :: fr) w')
    (ht : tg.loud = true := by rfl) (hg : onG ops fr gd = true := by rfl) (hd : Nat.blt d N = true := by rfl) : WL Try.prog fn F N ks ops tg (⟨some d, .alloc 97, ty, pos, aft, gd⟩ :: l) fr w :=
  wl_allocU (n := 80) Try.underlying97 zv80 rfl hk ht hg hd
end
set_option maxRecDepth 100000 in
theorem C_K (w : World) : CallsR Try.prog 55 [] w fun v w' => v = .agg (vU Kl).toArray ∧ Below w.heap.size w w' := by
  refine callsR Try.func55 rfl rfl (by kernel_rfl) rfl ?_
  have hw := Below.refl w.heap.size w
  refine rk_seq ?_
  refine rk_region ?_
  refine wl_alloc80 ?_
  rintro g0 w0 f0 b0 i0 i0_1
  have s0 := b0.size
  replace hw := hw.trans (b0.mono hw.size)
  refine wl_nil ?_
  refine rk_seq ?_
  refine rk_region ?_
  refine wl_p (fun _ => o_buildU (n := 80) (vs := vU Kl) Kl Try.underlying97 rfl rfl (by kernel_rfl) rfl rfl (by kernel_rfl) (fun _ => by kernel_rfl)) ?_
  refine wl_stUa Try.sizeOf97 rfl f0 rfl (by rfl) (by rfl) ?_
  rintro w_1 f g e
  have s := g.size
  replace hw := hw.trans (below_of_grownBy g.g hw.size (by omega))
  clear f0
  refine wl_nil ?_
  refine ret_cell rfl rfl Try.isAgg97 Try.sizeOf97 f rfl ?_
  exact ⟨rfl, hw⟩
theorem C_Start (w : World) : CallsR Try.prog 46 [] w fun v w' => v = .agg (vU Sl).toArray ∧ Below w.heap.size w w' := by
  refine callsR Try.func46 rfl rfl (by kernel_rfl) rfl ?_
  have hw := Below.refl w.heap.size w
  refine rk_seq ?_
  refine rk_region ?_
  refine wl_allocU Try.underlying66 Try.zeroValue66 (by rfl) ?_
  rintro g0 w0 f0 b0 i0 i0_1
  have s0 := b0.size
  replace hw := hw.trans (b0.mono hw.size)
  refine wl_nil ?_
  refine rk_seq ?_
  refine rk_region ?_
  refine wl_p (fun _ => (o_buildga [_, _, _, _, _, _, _, _] Try.underlying66 Try.sizeOf25 Try.zeroValue66 (by rfl) (by rfl) rfl (by rfl) (by rfl) (fun _ => by kernel_rfl))) ?_
  refine wl_storega Try.sizeOf66 rfl rfl (by rfl) (by decide) f0 (by rfl) ?_
  rintro w_1 f g e
  have s := g.size
  replace hw := hw.trans (below_of_grownBy g.g hw.size (by omega))
  clear f0
  refine wl_nil ?_
  refine ret_cell rfl rfl Try.isAgg66 Try.sizeOf66 f rfl ?_
  exact ⟨by kernel_rfl, hw⟩

/-! The words of a piece. -/
def pw (l : List UInt8) : UInt64 := l.foldl (fun a c => shlU a 8 ||| c.toUInt64) 0
def part8 (p : List UInt8) (i j : Nat) : List UInt8 := ((p.take i).drop (8 * j)).take 8
theorem part8_same {p : List UInt8} {i j : Nat} (hi : i < p.length) (h : j ≠ i / 8) : part8 p (i + 1) j = part8 p i j := by
  unfold part8
  rw [List.take_succ_eq_append_getElem hi]
  rcases Nat.lt_or_gt_of_ne h with h | h
  · rw [List.drop_append_of_le_length (by rw [List.length_take]; omega), List.take_append_of_le_length (by rw [List.length_drop, List.length_take]; omega)]
  · rw [List.drop_of_length_le (by simp only [List.length_append, List.length_take, List.length_singleton]; omega), List.drop_of_length_le (by rw [List.length_take]; omega)]
theorem part8_next {p : List UInt8} {i : Nat} (hi : i < p.length) : part8 p (i + 1) (i / 8) = part8 p i (i / 8) ++ [p[i]] := by
  unfold part8
  rw [List.take_succ_eq_append_getElem hi, List.drop_append_of_le_length (by rw [List.length_take]; omega)]
  have h1 : ((p.take i).drop (8 * (i / 8))).length = i - 8 * (i / 8) := by rw [List.length_drop, List.length_take]; omega
  generalize (p.take i).drop (8 * (i / 8)) = q at h1
  rw [List.take_of_length_le (by rw [List.length_append, List.length_singleton]; omega), List.take_of_length_le (by omega)]
def ws80 (p : List UInt8) (i : Nat) : List UInt64 := (List.range 80).map fun j => pw (part8 p i j)
theorem ws80_len (p : List UInt8) (i : Nat) : (ws80 p i).length = 80 := by simp [ws80]
theorem ws80_get (p : List UInt8) (i j : Nat) (h : j < (ws80 p i).length) : (ws80 p i)[j] = pw (part8 p i j) := by
  simp [ws80]
theorem ws80_next {p : List UInt8} {i : Nat} (hi : i < p.length) (h : i / 8 < (ws80 p i).length) : (ws80 p i).set (i / 8) (shlU (ws80 p i)[i / 8] 8 ||| p[i].toUInt64) = ws80 p (i + 1) := by
  apply List.ext_getElem (by rw [List.length_set, ws80_len, ws80_len])
  intro j h1 h2
  rw [List.getElem_set]
  simp only [ws80_get]
  by_cases e : i / 8 = j
  · subst e
    rw [if_pos rfl, part8_next hi]
    simp [pw, List.foldl_append]
  · rw [if_neg e, part8_same hi (fun h => e h.symm)]
theorem ws80_zero (p : List UInt8) : ws80 p 0 = List.replicate 80 0 := by
  apply List.ext_getElem (by rw [ws80_len, List.length_replicate])
  intro j h1 h2
  rw [ws80_get, List.getElem_replicate]
  simp [part8, pw]
def sg0 (x : UInt64) : UInt64 := rotU x (-1) ^^^ rotU x (-8) ^^^ shrU x 7
def sg1 (x : UInt64) : UInt64 := rotU x (-19) ^^^ rotU x (-61) ^^^ shrU x 6
def wnext (l : List UInt64) (n : Nat) : UInt64 := l.getD n 0 + sg0 (l.getD (n + 1) 0) + l.getD (n + 9) 0 + sg1 (l.getD (n + 14) 0)
def wx (p : List UInt8) : Nat → List UInt64
  | 0 => (List.range 16).map fun j => pw (part8 p 128 j)
  | n + 1 => wx p n ++ [wnext (wx p n) n]
theorem wx_len (p : List UInt8) : ∀ n, (wx p n).length = 16 + n
  | 0 => by simp [wx]
  | n + 1 => by simp [wx, wx_len p n]; omega
theorem wx_start {p : List UInt8} (hp : p.length = 128) : ws80 p 128 = wx p 0 ++ List.replicate 64 0 := by
  apply List.ext_getElem (by rw [ws80_len]; simp [wx])
  intro j h1 h2
  rw [ws80_get]
  rcases Nat.lt_or_ge j 16 with h | h
  · rw [List.getElem_append_left (by rw [wx_len]; omega)]
    simp [wx]
  · rw [List.getElem_append_right (by rw [wx_len]; omega), List.getElem_replicate]
    unfold part8
    rw [List.drop_of_length_le (by rw [List.length_take]; omega)]
    rfl
theorem sched_next {p : List UInt8} {n : Nat} {q : List UInt64} (hn : n < 64) (hq : q = wx p n ++ List.replicate (64 - n) 0) (h1 : n + 16 - 16 < q.length) (h2 : n + 16 - 15 < q.length) (h3 : n + 16 - 7 < q.length) (h4 : n + 16 - 2 < q.length) :
    q.set (n + 16) (q[n + 16 - 16] + sg0 q[n + 16 - 15] + q[n + 16 - 7] + sg1 q[n + 16 - 2]) = wx p (n + 1) ++ List.replicate (64 - (n + 1)) 0 := by
  have hget : ∀ j (h : j < q.length), j < 16 + n → q[j] = (wx p n).getD j 0 := fun j h hj => by
    subst hq
    rw [List.getElem_append_left (by rw [wx_len]; exact hj), List.getD_eq_getElem?_getD, List.getElem?_eq_getElem (by rw [wx_len]; exact hj)]
    rfl
  rw [hget _ h1 (by omega), hget _ h2 (by omega), hget _ h3 (by omega), hget _ h4 (by omega)]
  rw [show n + 16 - 16 = n by omega, show n + 16 - 15 = n + 1 by omega, show n + 16 - 7 = n + 9 by omega, show n + 16 - 2 = n + 14 by omega]
  rw [hq, List.set_append_right _ _ (by rw [wx_len]; omega), wx_len, show n + 16 - (16 + n) = 0 by omega, show 64 - n = (64 - (n + 1)) + 1 by omega, List.replicate_succ, List.set_cons_zero]
  show _ = (wx p n ++ [wnext (wx p n) n]) ++ _
  rw [List.append_assoc]; rfl
set_option maxRecDepth 100000 in
set_option maxHeartbeats 1000000 in
theorem C_schedule {p : List UInt8} {W : List UInt64} (w : World) (hW : wx p 64 = W) (hp : p.length = 128) :
    CallsR Try.prog 54 [.agg (B8 p).toArray] w fun v w' => v = .agg (vU W).toArray ∧ Below w.heap.size w w' := by
  have hl80 : W.length = 80 := by rw [← hW, wx_len]
  refine callsR Try.func54 rfl rfl (by kernel_rfl) rfl ?_
  have hw := Below.refl w.heap.size w
  refine rk_seq ?_
  refine rk_region ?_
  refine wl_boxg _ rfl (by rfl) ?_
  rintro g1 w1 f1 b1 i1 i1_1
  have s1 := b1.size
  replace hw := hw.trans (b1.mono hw.size)
  refine wl_alloc80 ?_
  rintro g2 w2 f2 b2 i2 i2_1
  have s2 := b2.size
  replace hw := hw.trans (b2.mono hw.size)
  replace f1 := f1.u b2
  refine wl_nil ?_
  refine rk_seq ?_
  refine rk_region ?_
  refine wl_alloc80 ?_
  rintro g3 w3 f3 b3 i3 i3_1
  have s3 := b3.size
  replace hw := hw.trans (b3.mono hw.size)
  replace f1 := f1.u b3
  replace f2 := f2.u b3
  refine wl_nil ?_
  refine rk_seq ?_
  refine rk_seq ?_
  refine rk_region ?_
  refine wl_r (o_ldBa Try.isAgg85 Try.sizeOf85 rfl f1 hp) ?_
  refine wl_p (fun _ => o_move rfl) ?_
  refine wl_nil ?_
  refine rk_block ?_
  refine rk_joinf (fun fb fr w5 => fr = [] ++ fb.drop 1 ∧ Blk w5 g3 97 (vU (wx p 0 ++ List.replicate 64 0)) ∧ Blk w5 g2 97 (vU (List.replicate 80 0)) ∧ w3.heap.size ≤ w5.heap.size ∧ Below w.heap.size w w5) ?_ (fun ks hj => ?_)
  rotate_left
  · refine rk_loopf (fun fb m fr w5 => ∃ (i : Nat) (v : Int) (q : List UInt64), fr = [(12, .int .i64 v)] ++ fb ∧ v = i ∧ i ≤ 128 ∧ m = 128 - i ∧ q = ws80 p i ∧ Blk w5 g3 97 (vU q) ∧ Blk w5 g2 97 (vU (List.replicate 80 0)) ∧ w3.heap.size ≤ w5.heap.size ∧ Below w.heap.size w w5) (n := 128) (Fr.le_of (by kernel_rfl) (by kernel_rfl) (by repeat' constructor)) ⟨0, _, _, rfl, rfl, by omega, rfl, (ws80_zero p).symm, f3, f2, Nat.le_refl _, hw⟩ ?_
    clear hw f3 f2 f1
    rintro m fr w5 ⟨i, v, q, rfl, rfl, hi, rfl, hq, f3, f2, hsz, hw⟩
    have shw := hw.size
    have hql : q.length = 80 := by rw [hq, ws80_len]
    first | refine rk_frame (by simp only [List.cons_append, List.nil_append, List.drop_succ_cons, List.drop_zero]; rfl) ?_ | refine wl_frame (by simp only [List.cons_append, List.nil_append, List.drop_succ_cons, List.drop_zero]; rfl) ?_
    refine rk_seq ?_
    refine rk_region ?_
    refine wl_p (fun _ => o_lt rfl rfl) ?_
    refine wl_nil ?_
    refine rk_seq ?_
    refine rk_if rfl (fun h13 => ?_) (fun h13 => ?_)
    · have hil : i < p.length := by omega
      refine rk_skip ?_
      refine rk_seq ?_
      refine rk_block ?_
      refine rk_seq ?_
      refine rk_region ?_
      refine wl_p (fun _ => o_move rfl) ?_
      refine wl_p (fun _ => (o_indexB (i) Try.underlying85 Try.sizeOf5 Try.isAgg5 rfl rfl rfl (by omega) hp)) ?_
      refine wl_p (fun _ => o_assign rfl) ?_
      refine wl_p (fun _ => o_assign rfl) ?_
      refine wl_nil ?_
      refine rk_region ?_
      refine wl_p (fun _ => o_move rfl) ?_
      refine wl_p (fun _ => o_quo rfl rfl (by omega) (by omega) (by omega)) ?_
      refine wl_p (fun _ => o_move rfl) ?_
      refine wl_p (fun _ => o_quo rfl rfl (by omega) (by omega) (by omega)) ?_
      refine wl_p (fun _ => (o_iaddrP (i / 8) Try.underlying97 Try.sizeOf25 rfl rfl (by omega) (by omega))) ?_
      refine wl_r (o_ldU Try.isAgg25 rfl f3 (by omega)) ?_
      refine wl_p (fun _ => o_shlU rfl rfl (by omega) (by omega)) ?_
      refine wl_p (fun _ => o_move rfl) ?_
      refine wl_p (fun _ => o_conv8U (src := 5) (dst := 25) Try.underlying5 Try.underlying25 rfl) ?_
      refine wl_p (fun _ => o_orU rfl rfl) ?_
      refine wl_p (fun _ => (o_iaddrP (i / 8) Try.underlying97 Try.sizeOf25 rfl rfl (by omega) (by omega))) ?_
      refine wl_stU Try.sizeOf25 rfl f3 rfl (by omega) ?_
      rintro w_1 f g e
      have s := g.size
      replace hw := hw.trans (below_of_grownBy g.g hw.size (by omega))
      replace f2 := f2.k g.g (ap_some (by omega))
      clear f3
      refine wl_nil ?_
      refine rk_blk ?_
      refine rk_region ?_
      refine wl_p (fun _ => o_add rfl rfl (by omega) (by omega)) ?_
      refine wl_p (fun _ => o_move rfl) ?_
      refine wl_nil ?_
      exact rk_againf (Fr.le_of (by kernel_rfl) (by kernel_rfl) (by repeat' constructor)) ⟨i + 1, (i : Int) + 1, _, rfl, by omega, by omega, rfl, by subst hq; exact ws80_next hil (by rw [ws80_len]; omega), f, f2, by omega, hw⟩ (by omega)
    · refine rk_exit rfl ?_
      obtain rfl : i = 128 := by omega
      rw [hq, wx_start hp] at f3
      exact rk_tof hj (Fr.le_of (by kernel_rfl) (by kernel_rfl) (by repeat' constructor)) ⟨rfl, f3, f2, hsz, hw⟩
  clear hw f3 f2 f1
  rintro fr w5 ⟨rfl, f3, f2, hsz, hw⟩
  have shw := hw.size
  first | refine rk_frame (by simp only [List.cons_append, List.nil_append, List.drop_succ_cons, List.drop_zero]; rfl) ?_ | refine wl_frame (by simp only [List.cons_append, List.nil_append, List.drop_succ_cons, List.drop_zero]; rfl) ?_
  refine rk_seq ?_
  refine rk_seq ?_
  refine rk_region ?_
  refine wl_p (fun _ => o_assign rfl) ?_
  refine wl_nil ?_
  refine rk_block ?_
  refine rk_joinf (fun fb fr w6 => fr = [] ++ fb.drop 1 ∧ Blk w6 g3 97 (vU W) ∧ Blk w6 g2 97 (vU (List.replicate 80 0)) ∧ w5.heap.size ≤ w6.heap.size ∧ Below w.heap.size w w6) ?_ (fun ks hj => ?_)
  rotate_left
  · refine rk_loopf (fun fb m fr w6 => ∃ (n : Nat) (v : Int) (q : List UInt64), fr = [(6, .int .i64 v)] ++ fb.drop 1 ∧ v = (n : Int) + 16 ∧ n ≤ 64 ∧ m = 64 - n ∧ q = wx p n ++ List.replicate (64 - n) 0 ∧ Blk w6 g3 97 (vU q) ∧ Blk w6 g2 97 (vU (List.replicate 80 0)) ∧ w5.heap.size ≤ w6.heap.size ∧ Below w.heap.size w w6) (n := 64) (Fr.le_of (by kernel_rfl) (by kernel_rfl) (by repeat' constructor)) ⟨0, _, _, rfl, rfl, by omega, rfl, rfl, f3, f2, Nat.le_refl _, hw⟩ ?_
    clear hw f3 f2
    rintro m fr w6 ⟨n, v, q, rfl, rfl, hn, rfl, hq, f3, f2, hsz2, hw⟩
    have shw := hw.size
    have hql : q.length = 80 := by rw [hq, List.length_append, wx_len, List.length_replicate]; omega
    have hget : ∀ j (h : j < q.length), j < 16 + n → q[j] = (wx p n).getD j 0 := fun j h hj => by
      subst hq
      rw [List.getElem_append_left (by rw [wx_len]; exact hj), List.getD_eq_getElem?_getD, List.getElem?_eq_getElem (by rw [wx_len]; exact hj)]
      rfl
    first | refine rk_frame (by simp only [List.cons_append, List.nil_append, List.drop_succ_cons, List.drop_zero]; rfl) ?_ | refine wl_frame (by simp only [List.cons_append, List.nil_append, List.drop_succ_cons, List.drop_zero]; rfl) ?_
    refine rk_seq ?_
    refine rk_seq ?_
    refine rk_region ?_
    refine wl_p (fun _ => o_move rfl) ?_
    refine wl_p (fun _ => o_lt rfl rfl) ?_
    refine wl_nil ?_
    refine rk_if rfl (fun h29 => ?_) (fun h29 => ?_)
    · refine rk_skip ?_
      refine rk_seq ?_
      refine rk_block ?_
      refine rk_seq ?_
      refine rk_draw (id := 10) (none) [0, 1, 2, 4, 0, 16, 32, 64, 15, 511] [0, 1, 3, 7, 0, 16, 48, 112, 15, 511] 0 0 [(.p, 0), (.p, 1), (.p, 2), (.r, 3), (.p, 4), (.p, 5), (.p, 6), (.r, 7), (.p, 8), (.p, 9)] (by kernel_rfl) (by kernel_rfl) (by kernel_rfl) (by kernel_rfl) (by kernel_rfl) ?_
      replace hw := hw.drew
      replace f2 := f2.d
      replace f3 := f3.d
      refine wl_p (fun _ => o_move rfl) ?_
      refine wl_p (fun _ => o_sub rfl rfl (by omega) (by omega)) ?_
      refine wl_p (fun _ => (o_iaddrP (n + 16 - 15) Try.underlying97 Try.sizeOf25 rfl rfl (by omega) (by omega))) ?_
      refine wl_r (o_ldU Try.isAgg25 rfl f3 (by omega)) ?_
      refine wl_p (fun _ => o_move rfl) ?_
      refine wl_p (fun _ => o_sub rfl rfl (by omega) (by omega)) ?_
      refine wl_p (fun _ => (o_iaddrP (n + 16 - 2) Try.underlying97 Try.sizeOf25 rfl rfl (by omega) (by omega))) ?_
      refine wl_r (o_ldU Try.isAgg25 rfl f3 (by omega)) ?_
      refine wl_p (fun _ => o_assign rfl) ?_
      refine wl_p (fun _ => o_assign rfl) ?_
      refine wl_nild ?_
      refine rk_seq ?_
      refine rk_region ?_
      refine wl_p (fun _ => o_move rfl) ?_
      refine wl_call rfl (C_rot _ (by omega) (by omega)) ?_
      rintro v41 w41 ⟨rfl, rfl⟩
      refine wl_p (fun _ => o_move rfl) ?_
      refine wl_call rfl (C_rot _ (by omega) (by omega)) ?_
      rintro v43 w43 ⟨rfl, rfl⟩
      refine wl_p (fun _ => o_xorU rfl rfl) ?_
      refine wl_p (fun _ => o_move rfl) ?_
      refine wl_p (fun _ => o_shrU rfl rfl (by omega) (by omega)) ?_
      refine wl_p (fun _ => o_xorU rfl rfl) ?_
      refine wl_p (fun _ => o_assign rfl) ?_
      refine wl_nil ?_
      refine rk_seq ?_
      refine rk_region ?_
      refine wl_p (fun _ => o_move rfl) ?_
      refine wl_call rfl (C_rot _ (by omega) (by omega)) ?_
      rintro v49 w49 ⟨rfl, rfl⟩
      refine wl_p (fun _ => o_move rfl) ?_
      refine wl_call rfl (C_rot _ (by omega) (by omega)) ?_
      rintro v51 w51 ⟨rfl, rfl⟩
      refine wl_p (fun _ => o_xorU rfl rfl) ?_
      refine wl_p (fun _ => o_move rfl) ?_
      refine wl_p (fun _ => o_shrU rfl rfl (by omega) (by omega)) ?_
      refine wl_p (fun _ => o_xorU rfl rfl) ?_
      refine wl_p (fun _ => o_assign rfl) ?_
      refine wl_nil ?_
      refine rk_draw (id := 13) (none) [0, 0, 2, 4, 8, 0, 48, 0, 128, 256, 512, 1088, 0, 6144, 16383, 32767] [0, 0, 2, 6, 14, 0, 62, 0, 128, 384, 896, 2046, 0, 8190, 16383, 32767] 32768 0 [(.p, 0), (.p, 1), (.p, 2), (.p, 3), (.r, 4), (.p, 5), (.p, 6), (.p, 7), (.p, 8), (.p, 9), (.r, 10), (.p, 11), (.p, 12), (.p, 13), (.p, 14), (.l, 15)] (by kernel_rfl) (by kernel_rfl) (by kernel_rfl) (by kernel_rfl) (by kernel_rfl) ?_
      replace hw := hw.drew
      replace f3 := f3.d
      replace f2 := f2.d
      refine wl_p (fun _ => o_move rfl) ?_
      refine wl_p (fun _ => o_move rfl) ?_
      refine wl_p (fun _ => o_sub rfl rfl (by omega) (by omega)) ?_
      refine wl_p (fun _ => (o_iaddrP (n + 16 - 16) Try.underlying97 Try.sizeOf25 rfl rfl (by omega) (by omega))) ?_
      refine wl_r (o_ldU Try.isAgg25 rfl f3 (by omega)) ?_
      refine wl_p (fun _ => o_move rfl) ?_
      refine wl_p (fun _ => o_addU rfl rfl) ?_
      refine wl_p (fun _ => o_move rfl) ?_
      refine wl_p (fun _ => o_sub rfl rfl (by omega) (by omega)) ?_
      refine wl_p (fun _ => (o_iaddrP (n + 16 - 7) Try.underlying97 Try.sizeOf25 rfl rfl (by omega) (by omega))) ?_
      refine wl_r (o_ldU Try.isAgg25 rfl f3 (by omega)) ?_
      refine wl_p (fun _ => o_addU rfl rfl) ?_
      refine wl_p (fun _ => o_move rfl) ?_
      refine wl_p (fun _ => o_addU rfl rfl) ?_
      refine wl_p (fun _ => (o_iaddrP (n + 16) Try.underlying97 Try.sizeOf25 rfl rfl (by omega) (by omega))) ?_
      refine wl_stU Try.sizeOf25 rfl f3 rfl (by omega) ?_
      rintro w_1 f g e
      simp only [drew_size] at e
      have s := g.size
      simp only [drew_size] at s
      replace hw := hw.trans (below_of_grownBy g.g hw.size (by omega))
      replace f2 := f2.k g.g (ap_some (by omega))
      clear f3
      refine wl_nild ?_
      refine rk_blk ?_
      refine rk_region ?_
      refine wl_p (fun _ => o_move rfl) ?_
      refine wl_p (fun _ => o_add rfl rfl (by omega) (by omega)) ?_
      refine wl_p (fun _ => o_assign rfl) ?_
      refine wl_nil ?_
      exact rk_againf (Fr.le_of (by kernel_rfl) (by kernel_rfl) (by repeat' constructor)) ⟨n + 1, ((n + 1 : Nat) : Int) + 16, _, rfl, rfl, by omega, rfl, sched_next (by omega) hq (by omega) (by omega) (by omega) (by omega), f, f2, by omega, hw⟩ (by omega)
    · refine rk_exit rfl ?_
      obtain rfl : n = 64 := by omega
      rw [hq, hW, Nat.sub_self, List.replicate_zero, List.append_nil] at f3
      exact rk_tof hj (Fr.le_of (by kernel_rfl) (by kernel_rfl) (by repeat' constructor)) ⟨rfl, f3, f2, by omega, hw⟩
  clear hw f3 f2
  rintro fr w6 ⟨rfl, f3, f2, hsz2, hw⟩
  have shw := hw.size
  first | refine rk_frame (by simp only [List.cons_append, List.nil_append, List.drop_succ_cons, List.drop_zero]; rfl) ?_ | refine wl_frame (by simp only [List.cons_append, List.nil_append, List.drop_succ_cons, List.drop_zero]; rfl) ?_
  refine rk_seq ?_
  refine rk_region ?_
  refine wl_r (o_ldUa Try.isAgg97 Try.sizeOf97 rfl f3 hl80) ?_
  refine wl_stUa Try.sizeOf97 rfl f2 rfl hl80 (by rfl) ?_
  rintro w_1 f g e
  have s := g.size
  replace hw := hw.trans (below_of_grownBy g.g hw.size (by omega))
  replace f3 := f3.k g.g (ap_some (by omega))
  clear f2
  refine wl_nil ?_
  refine ret_cell rfl rfl Try.isAgg97 Try.sizeOf97 f (by rw [vU_length, hl80]) ?_
  exact ⟨rfl, hw⟩
end Go.Proofs.Ytpjedpmbninfcaa
