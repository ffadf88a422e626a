/-
  Walks of what the statements of chapter 1 use besides the program: headwaterkit and the document's answer, what it writes.
-/
import Derived.Test.YtifbbbbgefpgkaaOctR
import Derived.Test.YtifbbbbgefpgkaaOctP
import Derived.Test.YtifbbbbgefpgkaaOps4
import Derived.OpenShut
namespace Go.Proofs.Ytifbbbbgefpgkaa
open Go.RowKit

theorem C_Own {A : Option Addr} {l : List UInt8} {k : Nat} (c : Nat) (hk : k = l.length) (w : World) (hr : Rd w A l) (hl : l.length ≤ 140737488355328) :
    CallsR Try.prog 11 [.slice A k c] w fun v w' => ∃ A' c', v = .slice A' l.length c' ∧ Own w' w.heap.size A' c' l ∧ Below w.heap.size w w' := by
  refine callsR Try.func11 rfl rfl (by kernel_rfl) rfl ?_
  repeat (first | refine rk_seq ?_ | refine rk_region ?_ | refine rk_block ?_ | refine rk_blk ?_ | refine rk_skip ?_ | refine rk_label ?_ | refine wl_nil ?_ | refine wl_nild ?_ | refine rk_exit rfl ?_ | refine rk_true rfl ?_ | refine rk_false rfl ?_ | refine wl_p (fun _ => o_assign rfl) ?_ | refine wl_p (fun _ => o_move rfl) ?_)
  refine wl_lit8 (xs := []) [] Try.u8 Try.sizeOf5 Try.zeroValue5 rfl rfl ?_
  intro w1 hown1 hb1 hz1
  repeat (first | refine rk_seq ?_ | refine rk_region ?_ | refine rk_block ?_ | refine rk_blk ?_ | refine rk_skip ?_ | refine rk_label ?_ | refine wl_nil ?_ | refine wl_nild ?_ | refine rk_exit rfl ?_ | refine rk_true rfl ?_ | refine rk_false rfl ?_ | refine wl_p (fun _ => o_assign rfl) ?_ | refine wl_p (fun _ => o_move rfl) ?_)
  refine wl_app (s := []) Try.u8 rfl rfl hown1 rfl hk (hr.below hb1) (by simpa using hl) hb1.size ?_
  intro A5 c5 w5 hown5 hg5 hk5 hb5
  repeat (first | refine rk_seq ?_ | refine rk_region ?_ | refine rk_block ?_ | refine rk_blk ?_ | refine rk_skip ?_ | refine rk_label ?_ | refine wl_nil ?_ | refine wl_nild ?_ | refine rk_exit rfl ?_ | refine rk_true rfl ?_ | refine rk_false rfl ?_ | refine wl_p (fun _ => o_assign rfl) ?_ | refine wl_p (fun _ => o_move rfl) ?_)
  refine ret1 rfl rfl ?_
  exact ⟨A5, c5, by simp, hown5, hb1.trans hb5⟩

theorem tmod_neg (n m : Int) (hm : 0 < m) (h : n.tmod m < 0) : n % m = n.tmod m + m := by
  have e := Int.tmod_eq_emod (a := n) (b := m)
  have h1 := Int.emod_nonneg n (b := m) (by omega)
  split at e <;> omega
theorem tmod_pos (n m : Int) (hm : 0 < m) (h : ¬ n.tmod m < 0) : n % m = n.tmod m := by
  have e := Int.tmod_eq_emod (a := n) (b := m)
  have h2 := Int.emod_lt_of_pos n hm
  split at e <;> omega
def pick (n m : Int) : Int := if m < 1 then 0 else n % m
theorem C_Pick (n m : Int) (wn : (Lit.int .i64 n).wf = true) (wm : (Lit.int .i64 m).wf = true) (w : World) :
    CallsR Try.prog 19 [.int .i64 n, .int .i64 m] w fun v w' => v = .int .i64 (pick n m) ∧ w = w' := by
  have bn := bounds_i64 wn
  have bm := bounds_i64 wm
  refine callsR Try.func19 rfl rfl (by kernel_rfl) rfl ?_
  repeat (first | refine rk_seq ?_ | refine rk_region ?_ | refine rk_block ?_ | refine rk_blk ?_ | refine rk_skip ?_ | refine rk_label ?_ | refine wl_nil ?_ | refine wl_nild ?_ | refine rk_exit rfl ?_ | refine rk_true rfl ?_ | refine rk_false rfl ?_ | refine wl_p (fun _ => o_assign rfl) ?_ | refine wl_p (fun _ => o_move rfl) ?_ | refine wl_p (fun _ => o_lt rfl rfl) ?_ | refine wl_p (fun _ => o_rem rfl rfl (by omega) (by omega)) ?_ | refine wl_p (fun _ => o_remz rfl rfl (by omega)) ?_ | refine wl_p (fun _ => o_add rfl rfl (by omega) (by omega)) ?_)
  refine rk_if rfl (fun h => ?_) (fun h => ?_)
  · repeat (first | refine rk_seq ?_ | refine rk_region ?_ | refine rk_block ?_ | refine rk_blk ?_ | refine rk_skip ?_ | refine rk_label ?_ | refine wl_nil ?_ | refine wl_nild ?_ | refine rk_exit rfl ?_ | refine rk_true rfl ?_ | refine rk_false rfl ?_ | refine wl_p (fun _ => o_assign rfl) ?_ | refine wl_p (fun _ => o_move rfl) ?_ | refine wl_p (fun _ => o_lt rfl rfl) ?_ | refine wl_p (fun _ => o_rem rfl rfl (by omega) (by omega)) ?_ | refine wl_p (fun _ => o_remz rfl rfl (by omega)) ?_ | refine wl_p (fun _ => o_add rfl rfl (by omega) (by omega)) ?_)
    refine ret1 rfl rfl ?_
    exact ⟨by rw [pick, if_pos h], rfl⟩
  · repeat (first | refine rk_seq ?_ | refine rk_region ?_ | refine rk_block ?_ | refine rk_blk ?_ | refine rk_skip ?_ | refine rk_label ?_ | refine wl_nil ?_ | refine wl_nild ?_ | refine rk_exit rfl ?_ | refine rk_true rfl ?_ | refine rk_false rfl ?_ | refine wl_p (fun _ => o_assign rfl) ?_ | refine wl_p (fun _ => o_move rfl) ?_ | refine wl_p (fun _ => o_lt rfl rfl) ?_ | refine wl_p (fun _ => o_rem rfl rfl (by omega) (by omega)) ?_ | refine wl_p (fun _ => o_remz rfl rfl (by omega)) ?_ | refine wl_p (fun _ => o_add rfl rfl (by omega) (by omega)) ?_)
    refine rk_if rfl (fun h2 => ?_) (fun h2 => ?_)
    · have e := tmod_neg n m (by omega) h2
      have e1 := Int.emod_nonneg n (b := m) (by omega)
      have e2 := Int.emod_lt_of_pos n (b := m) (by omega)
      repeat (first | refine rk_seq ?_ | refine rk_region ?_ | refine rk_block ?_ | refine rk_blk ?_ | refine rk_skip ?_ | refine rk_label ?_ | refine wl_nil ?_ | refine wl_nild ?_ | refine rk_exit rfl ?_ | refine rk_true rfl ?_ | refine rk_false rfl ?_ | refine wl_p (fun _ => o_assign rfl) ?_ | refine wl_p (fun _ => o_move rfl) ?_ | refine wl_p (fun _ => o_lt rfl rfl) ?_ | refine wl_p (fun _ => o_rem rfl rfl (by omega) (by omega)) ?_ | refine wl_p (fun _ => o_remz rfl rfl (by omega)) ?_ | refine wl_p (fun _ => o_add rfl rfl (by omega) (by omega)) ?_)
      refine ret1 rfl rfl ?_
      exact ⟨by rw [pick, if_neg h, tmod_neg n m (by omega) h2], rfl⟩
    · repeat (first | refine rk_seq ?_ | refine rk_region ?_ | refine rk_block ?_ | refine rk_blk ?_ | refine rk_skip ?_ | refine rk_label ?_ | refine wl_nil ?_ | refine wl_nild ?_ | refine rk_exit rfl ?_ | refine rk_true rfl ?_ | refine rk_false rfl ?_ | refine wl_p (fun _ => o_assign rfl) ?_ | refine wl_p (fun _ => o_move rfl) ?_ | refine wl_p (fun _ => o_lt rfl rfl) ?_ | refine wl_p (fun _ => o_rem rfl rfl (by omega) (by omega)) ?_ | refine wl_p (fun _ => o_remz rfl rfl (by omega)) ?_ | refine wl_p (fun _ => o_add rfl rfl (by omega) (by omega)) ?_)
      refine ret1 rfl rfl ?_
      exact ⟨by rw [pick, if_neg h, tmod_pos n m (by omega) h2], rfl⟩
theorem div_pow_zero {n i j : Nat} (h : n / 2 ^ i = 0) (hij : i ≤ j) : n / 2 ^ j = 0 := by
  apply Nat.div_eq_of_lt
  have h2 : n < 2 ^ i := by
    rcases Nat.lt_or_ge n (2 ^ i) with h3 | h3
    · exact h3
    · have := (Nat.one_le_div_iff (Nat.two_pow_pos i)).2 h3
      omega
  exact Nat.lt_of_lt_of_le h2 (Nat.pow_le_pow_right (by decide) hij)
theorem room_char (n j : Nat) (h1 : 1 ≤ j) (h9 : j ≤ 9) (hlo : j = 1 ∨ n / 2 ^ (7 * (j - 1)) ≠ 0) (hhi : j = 9 ∨ n / 2 ^ (7 * j) = 0) : room n = j := by
  have hk := room_pos n
  rcases Nat.lt_trichotomy (room n) j with h | h | h
  · rcases hlo with e | e
    · omega
    · rcases room_hi n with e2 | e2
      · omega
      · exact absurd (div_pow_zero e2 (by omega)) e
  · exact h
  · rcases hhi with e | e
    · omega
    · rcases room_low n with e2 | e2
      · omega
      · exact absurd (div_pow_zero e (by omega)) e2

theorem shift_nat (n : Nat) (k : Int) (j : Nat) (hk : k = j) (hj : j ≤ 64) : (n : Int) / 2 ^ min k.toNat IntKind.u64.bits = ((n / 2 ^ j : Nat) : Int) := by
  have e2 : min k.toNat IntKind.u64.bits = j := by show min _ 64 = _; omega
  rw [e2]; rfl

theorem C_refroom (n : Nat) (w : World) (hn : n < u64) :
    CallsR Try.prog 37 [.int .u64 n] w fun v w' => v = .int .i64 (room n) ∧ w = w' := by
  refine callsR Try.func37 rfl rfl (by kernel_rfl) rfl ?_
  repeat (first | refine rk_seq ?_ | refine rk_region ?_ | refine rk_block ?_ | refine rk_blk ?_ | refine rk_skip ?_ | refine rk_label ?_ | refine wl_nil ?_ | refine wl_nild ?_ | refine rk_exit rfl ?_ | refine rk_true rfl ?_ | refine rk_false rfl ?_ | refine wl_p (fun _ => o_assign rfl) ?_ | refine wl_p (fun _ => o_move rfl) ?_ | refine wl_p (fun _ => o_lt rfl rfl) ?_ | refine wl_p (fun _ => o_mul rfl rfl (by omega) (by omega)) ?_ | refine wl_p (fun _ => o_convu64 (src := 3) (dst := 26) Try.underlying3 Try.underlying26 rfl (by omega) (by omega)) ?_ | refine wl_p (fun _ => o_shr rfl rfl (by omega)) ?_ | refine wl_p (fun _ => o_ne rfl rfl) ?_ | refine wl_p (fun _ => o_pick_t rfl rfl) ?_ | refine wl_p (fun _ => o_pick_f rfl rfl) ?_ | refine wl_p (fun _ => o_pick rfl rfl rfl) ?_ | refine wl_p (fun _ => o_add rfl rfl (by omega) (by omega)) ?_ | refine wl_off ?_)
  refine rk_loop (fun m fr w' => ∃ k : Nat, ∃ v : Int, fr = [(0, .int .u64 n), (3, .int .i64 v)] ∧ v = k ∧ 1 ≤ k ∧ k ≤ 9 ∧ m = 9 - k ∧ (k = 1 ∨ n / 2 ^ (7 * (k - 1)) ≠ 0) ∧ w = w') (n := 8) (by repeat' constructor) ⟨1, 1, rfl, rfl, by omega, by omega, rfl, .inl rfl, rfl⟩ ?_
  rintro m fr _ ⟨k, v, rfl, rfl, hk1, hk9, rfl, hk, rfl⟩
  repeat (first | refine rk_seq ?_ | refine rk_region ?_ | refine rk_block ?_ | refine rk_blk ?_ | refine rk_skip ?_ | refine rk_label ?_ | refine wl_nil ?_ | refine wl_nild ?_ | refine rk_exit rfl ?_ | refine rk_true rfl ?_ | refine rk_false rfl ?_ | refine wl_p (fun _ => o_assign rfl) ?_ | refine wl_p (fun _ => o_move rfl) ?_ | refine wl_p (fun _ => o_lt rfl rfl) ?_ | refine wl_p (fun _ => o_mul rfl rfl (by omega) (by omega)) ?_ | refine wl_p (fun _ => o_convu64 (src := 3) (dst := 26) Try.underlying3 Try.underlying26 rfl (by omega) (by omega)) ?_ | refine wl_p (fun _ => o_shr rfl rfl (by omega)) ?_ | refine wl_p (fun _ => o_ne rfl rfl) ?_ | refine wl_p (fun _ => o_pick_t rfl rfl) ?_ | refine wl_p (fun _ => o_pick_f rfl rfl) ?_ | refine wl_p (fun _ => o_pick rfl rfl rfl) ?_ | refine wl_p (fun _ => o_add rfl rfl (by omega) (by omega)) ?_ | refine wl_off ?_)
  refine wl_bool 6 rfl (fun h6 => ?_) (fun h6 => ?_)
  · have h9 : (k : Int) < 9 := of_decide_eq_true h6
    repeat (first | refine rk_seq ?_ | refine rk_region ?_ | refine rk_block ?_ | refine rk_blk ?_ | refine rk_skip ?_ | refine rk_label ?_ | refine wl_nil ?_ | refine wl_nild ?_ | refine rk_exit rfl ?_ | refine rk_true rfl ?_ | refine rk_false rfl ?_ | refine wl_p (fun _ => o_assign rfl) ?_ | refine wl_p (fun _ => o_move rfl) ?_ | refine wl_p (fun _ => o_lt rfl rfl) ?_ | refine wl_p (fun _ => o_mul rfl rfl (by omega) (by omega)) ?_ | refine wl_p (fun _ => o_convu64 (src := 3) (dst := 26) Try.underlying3 Try.underlying26 rfl (by omega) (by omega)) ?_ | refine wl_p (fun _ => o_shr rfl rfl (by omega)) ?_ | refine wl_p (fun _ => o_ne rfl rfl) ?_ | refine wl_p (fun _ => o_pick_t rfl rfl) ?_ | refine wl_p (fun _ => o_pick_f rfl rfl) ?_ | refine wl_p (fun _ => o_pick rfl rfl rfl) ?_ | refine wl_p (fun _ => o_add rfl rfl (by omega) (by omega)) ?_ | refine wl_off ?_)
    refine rk_if rfl (fun h => ?_) (fun h => ?_)
    · rw [shift_nat n _ (7 * k) (by omega) (by omega)] at h
      repeat (first | refine rk_seq ?_ | refine rk_region ?_ | refine rk_block ?_ | refine rk_blk ?_ | refine rk_skip ?_ | refine rk_label ?_ | refine wl_nil ?_ | refine wl_nild ?_ | refine rk_exit rfl ?_ | refine rk_true rfl ?_ | refine rk_false rfl ?_ | refine wl_p (fun _ => o_assign rfl) ?_ | refine wl_p (fun _ => o_move rfl) ?_ | refine wl_p (fun _ => o_lt rfl rfl) ?_ | refine wl_p (fun _ => o_mul rfl rfl (by omega) (by omega)) ?_ | refine wl_p (fun _ => o_convu64 (src := 3) (dst := 26) Try.underlying3 Try.underlying26 rfl (by omega) (by omega)) ?_ | refine wl_p (fun _ => o_shr rfl rfl (by omega)) ?_ | refine wl_p (fun _ => o_ne rfl rfl) ?_ | refine wl_p (fun _ => o_pick_t rfl rfl) ?_ | refine wl_p (fun _ => o_pick_f rfl rfl) ?_ | refine wl_p (fun _ => o_pick rfl rfl rfl) ?_ | refine wl_p (fun _ => o_add rfl rfl (by omega) (by omega)) ?_ | refine wl_off ?_)
      exact rk_again (by repeat' constructor) ⟨k + 1, _, rfl, rfl, by omega, by omega, rfl, .inr (by simp only [Nat.add_sub_cancel]; omega), rfl⟩ (by omega)
    · rw [shift_nat n _ (7 * k) (by omega) (by omega)] at h
      repeat (first | refine rk_seq ?_ | refine rk_region ?_ | refine rk_block ?_ | refine rk_blk ?_ | refine rk_skip ?_ | refine rk_label ?_ | refine wl_nil ?_ | refine wl_nild ?_ | refine rk_exit rfl ?_ | refine rk_true rfl ?_ | refine rk_false rfl ?_ | refine wl_p (fun _ => o_assign rfl) ?_ | refine wl_p (fun _ => o_move rfl) ?_ | refine wl_p (fun _ => o_lt rfl rfl) ?_ | refine wl_p (fun _ => o_mul rfl rfl (by omega) (by omega)) ?_ | refine wl_p (fun _ => o_convu64 (src := 3) (dst := 26) Try.underlying3 Try.underlying26 rfl (by omega) (by omega)) ?_ | refine wl_p (fun _ => o_shr rfl rfl (by omega)) ?_ | refine wl_p (fun _ => o_ne rfl rfl) ?_ | refine wl_p (fun _ => o_pick_t rfl rfl) ?_ | refine wl_p (fun _ => o_pick_f rfl rfl) ?_ | refine wl_p (fun _ => o_pick rfl rfl rfl) ?_ | refine wl_p (fun _ => o_add rfl rfl (by omega) (by omega)) ?_ | refine wl_off ?_)
      refine ret1 rfl rfl ?_
      exact ⟨by rw [room_char n k hk1 hk9 hk (.inr (by omega))], rfl⟩
  · have h9 : ¬ (k : Int) < 9 := of_decide_eq_false h6
    repeat (first | refine rk_seq ?_ | refine rk_region ?_ | refine rk_block ?_ | refine rk_blk ?_ | refine rk_skip ?_ | refine rk_label ?_ | refine wl_nil ?_ | refine wl_nild ?_ | refine rk_exit rfl ?_ | refine rk_true rfl ?_ | refine rk_false rfl ?_ | refine wl_p (fun _ => o_assign rfl) ?_ | refine wl_p (fun _ => o_move rfl) ?_ | refine wl_p (fun _ => o_lt rfl rfl) ?_ | refine wl_p (fun _ => o_mul rfl rfl (by omega) (by omega)) ?_ | refine wl_p (fun _ => o_convu64 (src := 3) (dst := 26) Try.underlying3 Try.underlying26 rfl (by omega) (by omega)) ?_ | refine wl_p (fun _ => o_shr rfl rfl (by omega)) ?_ | refine wl_p (fun _ => o_ne rfl rfl) ?_ | refine wl_p (fun _ => o_pick_t rfl rfl) ?_ | refine wl_p (fun _ => o_pick_f rfl rfl) ?_ | refine wl_p (fun _ => o_pick rfl rfl rfl) ?_ | refine wl_p (fun _ => o_add rfl rfl (by omega) (by omega)) ?_ | refine wl_off ?_)
    refine ret1 rfl rfl ?_
    exact ⟨by rw [room_char n k hk1 hk9 hk (.inl (by omega))], rfl⟩

theorem ref_byte (n : Nat) (h : n < 18446744073709551616) : IntKind.u8.wrap (IntKind.u8.wrap (IntKind.u64.wrap (256 - IntKind.u64.wrap (1 * 2 ^ min (9 - (room n : Int)).toNat IntKind.u64.bits))) + IntKind.u8.wrap ((n : Int) / 2 ^ min (8 * ((room n : Int) - 1)).toNat IntKind.u64.bits)) = ((first (room n) n).toNat : Int) := by
  have hk := room_pos n
  have hlt := room_lt n h
  have e1 : (8 * ((room n : Int) - 1)) = 8 * ((room n - 1 : Nat) : Int) := by omega
  rw [e1, byte_shift n (room n - 1) (by omega)]
  unfold first
  generalize hq : n / 256 ^ (room n - 1) = q at *
  have hq256 : q < 256 := Nat.lt_of_lt_of_le hlt (Nat.pow_le_pow_right (by omega) (show 8 - room n ≤ 8 by omega))
  have e2 : IntKind.u8.wrap (IntKind.u64.wrap (256 - IntKind.u64.wrap (1 * 2 ^ min (9 - (room n : Int)).toNat IntKind.u64.bits))) = (((256 - 2 ^ (9 - room n)) % 256 : Nat) : Int) := by
    have h3 : ∀ k : Fin 10, 1 ≤ k.val → IntKind.u8.wrap (IntKind.u64.wrap (256 - IntKind.u64.wrap (1 * 2 ^ min (9 - (k.val : Int)).toNat IntKind.u64.bits))) = (((256 - 2 ^ (9 - k.val)) % 256 : Nat) : Int) := by decide +kernel
    exact h3 ⟨room n, by omega⟩ hk.1
  rw [e2, UInt8.toNat_ofNat', UInt8.toNat_ofNat', IntKind.wrap_u8']
  generalize 256 - 2 ^ (9 - room n) = r
  omega

theorem C_refNumber {A : Option Addr} {l : List UInt8} (c : Nat) (n : Nat) (w : World) (hr : Rd w A l) (hn : n < u64) (hl : l.length ≤ 140737488355000) :
    CallsR Try.prog 12 [.slice A l.length c, .int .u64 n] w fun v w' => ∃ A' c', v = .slice A' (l ++ enc n).length c' ∧ Own w' w.heap.size A' c' (l ++ enc n) ∧ Below w.heap.size w w' := by
  have hk := room_pos n
  refine callsR Try.func12 rfl rfl (by kernel_rfl) rfl ?_
  repeat (first | refine rk_seq ?_ | refine rk_region ?_ | refine rk_block ?_ | refine rk_blk ?_ | refine rk_skip ?_ | refine rk_label ?_ | refine wl_nil ?_ | refine wl_nild ?_ | refine rk_exit rfl ?_ | refine rk_true rfl ?_ | refine rk_false rfl ?_ | refine wl_p (fun _ => o_assign rfl) ?_ | refine wl_p (fun _ => o_move rfl) ?_ | refine wl_p (fun _ => o_eq rfl rfl) ?_ | refine wl_p (fun _ => o_sub rfl rfl (by omega) (by omega)) ?_ | refine wl_p (fun _ => o_convu64 (src := 3) (dst := 26) Try.underlying3 Try.underlying26 rfl (by omega) (by omega)) ?_ | refine wl_p (fun _ => o_shl rfl rfl (by omega)) ?_ | refine wl_p (fun _ => o_subw rfl rfl) ?_ | refine wl_p (fun _ => o_convi (src := 22) (dst := 5) Try.underlying22 Try.underlying5 rfl) ?_ | refine wl_p (fun _ => o_mul rfl rfl (by omega) (by omega)) ?_ | refine wl_p (fun _ => o_shr rfl rfl (by omega)) ?_ | refine wl_p (fun _ => o_addw rfl rfl) ?_ | refine wl_p (fun _ => o_ge rfl rfl) ?_)
  refine wl_lit8 (xs := []) [] Try.u8 Try.sizeOf5 Try.zeroValue5 rfl rfl ?_
  intro w1 hown1 hb1 hz1
  repeat (first | refine rk_seq ?_ | refine rk_region ?_ | refine rk_block ?_ | refine rk_blk ?_ | refine rk_skip ?_ | refine rk_label ?_ | refine wl_nil ?_ | refine wl_nild ?_ | refine rk_exit rfl ?_ | refine rk_true rfl ?_ | refine rk_false rfl ?_ | refine wl_p (fun _ => o_assign rfl) ?_ | refine wl_p (fun _ => o_move rfl) ?_ | refine wl_p (fun _ => o_eq rfl rfl) ?_ | refine wl_p (fun _ => o_sub rfl rfl (by omega) (by omega)) ?_ | refine wl_p (fun _ => o_convu64 (src := 3) (dst := 26) Try.underlying3 Try.underlying26 rfl (by omega) (by omega)) ?_ | refine wl_p (fun _ => o_shl rfl rfl (by omega)) ?_ | refine wl_p (fun _ => o_subw rfl rfl) ?_ | refine wl_p (fun _ => o_convi (src := 22) (dst := 5) Try.underlying22 Try.underlying5 rfl) ?_ | refine wl_p (fun _ => o_mul rfl rfl (by omega) (by omega)) ?_ | refine wl_p (fun _ => o_shr rfl rfl (by omega)) ?_ | refine wl_p (fun _ => o_addw rfl rfl) ?_ | refine wl_p (fun _ => o_ge rfl rfl) ?_)
  refine wl_app (s := []) Try.u8 rfl rfl hown1 rfl rfl (hr.below hb1) (by simp; omega) hb1.size ?_
  intro A10 c10 w10 hown10 hg10 hk10 hb10
  rw [List.nil_append] at hown10 ⊢
  have hb := hb1.trans hb10
  repeat (first | refine rk_seq ?_ | refine rk_region ?_ | refine rk_block ?_ | refine rk_blk ?_ | refine rk_skip ?_ | refine rk_label ?_ | refine wl_nil ?_ | refine wl_nild ?_ | refine rk_exit rfl ?_ | refine rk_true rfl ?_ | refine rk_false rfl ?_ | refine wl_p (fun _ => o_assign rfl) ?_ | refine wl_p (fun _ => o_move rfl) ?_ | refine wl_p (fun _ => o_eq rfl rfl) ?_ | refine wl_p (fun _ => o_sub rfl rfl (by omega) (by omega)) ?_ | refine wl_p (fun _ => o_convu64 (src := 3) (dst := 26) Try.underlying3 Try.underlying26 rfl (by omega) (by omega)) ?_ | refine wl_p (fun _ => o_shl rfl rfl (by omega)) ?_ | refine wl_p (fun _ => o_subw rfl rfl) ?_ | refine wl_p (fun _ => o_convi (src := 22) (dst := 5) Try.underlying22 Try.underlying5 rfl) ?_ | refine wl_p (fun _ => o_mul rfl rfl (by omega) (by omega)) ?_ | refine wl_p (fun _ => o_shr rfl rfl (by omega)) ?_ | refine wl_p (fun _ => o_addw rfl rfl) ?_ | refine wl_p (fun _ => o_ge rfl rfl) ?_)
  refine wl_call rfl (C_refroom n w10 hn) ?_
  rintro _ w12 ⟨rfl, rfl⟩
  repeat (first | refine rk_seq ?_ | refine rk_region ?_ | refine rk_block ?_ | refine rk_blk ?_ | refine rk_skip ?_ | refine rk_label ?_ | refine wl_nil ?_ | refine wl_nild ?_ | refine rk_exit rfl ?_ | refine rk_true rfl ?_ | refine rk_false rfl ?_ | refine wl_p (fun _ => o_assign rfl) ?_ | refine wl_p (fun _ => o_move rfl) ?_ | refine wl_p (fun _ => o_eq rfl rfl) ?_ | refine wl_p (fun _ => o_sub rfl rfl (by omega) (by omega)) ?_ | refine wl_p (fun _ => o_convu64 (src := 3) (dst := 26) Try.underlying3 Try.underlying26 rfl (by omega) (by omega)) ?_ | refine wl_p (fun _ => o_shl rfl rfl (by omega)) ?_ | refine wl_p (fun _ => o_subw rfl rfl) ?_ | refine wl_p (fun _ => o_convi (src := 22) (dst := 5) Try.underlying22 Try.underlying5 rfl) ?_ | refine wl_p (fun _ => o_mul rfl rfl (by omega) (by omega)) ?_ | refine wl_p (fun _ => o_shr rfl rfl (by omega)) ?_ | refine wl_p (fun _ => o_addw rfl rfl) ?_ | refine wl_p (fun _ => o_ge rfl rfl) ?_)
  refine rk_join (fun fr w' => ∃ A' c' len, fr = [(1, .int .u64 n), (5, .slice A' len c'), (6, .int .i64 (room n))] ∧ len = (l ++ [first (room n) n]).length ∧ Own w' w.heap.size A' c' (l ++ [first (room n) n]) ∧ Below w.heap.size w w') ?_ (fun ks hj => ?_)
  · rintro fr w2 ⟨A', c', len, rfl, hln, hown', hb'⟩
    repeat (first | refine rk_seq ?_ | refine rk_region ?_ | refine rk_block ?_ | refine rk_blk ?_ | refine rk_skip ?_ | refine rk_label ?_ | refine wl_nil ?_ | refine wl_nild ?_ | refine rk_exit rfl ?_ | refine rk_true rfl ?_ | refine rk_false rfl ?_ | refine wl_p (fun _ => o_assign rfl) ?_ | refine wl_p (fun _ => o_move rfl) ?_ | refine wl_p (fun _ => o_eq rfl rfl) ?_ | refine wl_p (fun _ => o_sub rfl rfl (by omega) (by omega)) ?_ | refine wl_p (fun _ => o_convu64 (src := 3) (dst := 26) Try.underlying3 Try.underlying26 rfl (by omega) (by omega)) ?_ | refine wl_p (fun _ => o_shl rfl rfl (by omega)) ?_ | refine wl_p (fun _ => o_subw rfl rfl) ?_ | refine wl_p (fun _ => o_convi (src := 22) (dst := 5) Try.underlying22 Try.underlying5 rfl) ?_ | refine wl_p (fun _ => o_mul rfl rfl (by omega) (by omega)) ?_ | refine wl_p (fun _ => o_shr rfl rfl (by omega)) ?_ | refine wl_p (fun _ => o_addw rfl rfl) ?_ | refine wl_p (fun _ => o_ge rfl rfl) ?_)
    refine rk_loop (fun j fr w' => ∃ A' c' len l' i, fr = [(1, .int .u64 n), (5, .slice A' len c'), (7, .int .i64 i)] ∧ len = l'.length ∧ i = (j : Int) - 1 ∧ j ≤ 8 ∧ l' ++ beB j n = l ++ enc n ∧ Own w' w.heap.size A' c' l' ∧ Below w.heap.size w w')
      (n := room n - 1) (by repeat' constructor) ⟨A', c', _, _, _, rfl, hln, by omega, by omega, by simp [enc], hown', hb'⟩ ?_
    rintro j fr w3 ⟨A', c', len, l', i, rfl, hln, hi, hj8, hl', hown', hb'⟩
    have hlen : l'.length + j = l.length + room n := by have := congrArg List.length hl'; simpa [beB_length, enc_length] using this
    repeat (first | refine rk_seq ?_ | refine rk_region ?_ | refine rk_block ?_ | refine rk_blk ?_ | refine rk_skip ?_ | refine rk_label ?_ | refine wl_nil ?_ | refine wl_nild ?_ | refine rk_exit rfl ?_ | refine rk_true rfl ?_ | refine rk_false rfl ?_ | refine wl_p (fun _ => o_assign rfl) ?_ | refine wl_p (fun _ => o_move rfl) ?_ | refine wl_p (fun _ => o_eq rfl rfl) ?_ | refine wl_p (fun _ => o_sub rfl rfl (by omega) (by omega)) ?_ | refine wl_p (fun _ => o_convu64 (src := 3) (dst := 26) Try.underlying3 Try.underlying26 rfl (by omega) (by omega)) ?_ | refine wl_p (fun _ => o_shl rfl rfl (by omega)) ?_ | refine wl_p (fun _ => o_subw rfl rfl) ?_ | refine wl_p (fun _ => o_convi (src := 22) (dst := 5) Try.underlying22 Try.underlying5 rfl) ?_ | refine wl_p (fun _ => o_mul rfl rfl (by omega) (by omega)) ?_ | refine wl_p (fun _ => o_shr rfl rfl (by omega)) ?_ | refine wl_p (fun _ => o_addw rfl rfl) ?_ | refine wl_p (fun _ => o_ge rfl rfl) ?_)
    refine rk_if rfl (fun h => ?_) (fun h => ?_)
    · obtain ⟨q, rfl⟩ := Int.eq_ofNat_of_zero_le h
      obtain rfl : j = q + 1 := by omega
      repeat (first | refine rk_seq ?_ | refine rk_region ?_ | refine rk_block ?_ | refine rk_blk ?_ | refine rk_skip ?_ | refine rk_label ?_ | refine wl_nil ?_ | refine wl_nild ?_ | refine rk_exit rfl ?_ | refine rk_true rfl ?_ | refine rk_false rfl ?_ | refine wl_p (fun _ => o_assign rfl) ?_ | refine wl_p (fun _ => o_move rfl) ?_ | refine wl_p (fun _ => o_eq rfl rfl) ?_ | refine wl_p (fun _ => o_sub rfl rfl (by omega) (by omega)) ?_ | refine wl_p (fun _ => o_convu64 (src := 3) (dst := 26) Try.underlying3 Try.underlying26 rfl (by omega) (by omega)) ?_ | refine wl_p (fun _ => o_shl rfl rfl (by omega)) ?_ | refine wl_p (fun _ => o_subw rfl rfl) ?_ | refine wl_p (fun _ => o_mul rfl rfl (by omega) (by omega)) ?_ | refine wl_p (fun _ => o_shr rfl rfl (by omega)) ?_ | refine wl_p (fun _ => o_addw rfl rfl) ?_ | refine wl_p (fun _ => o_ge rfl rfl) ?_)
      refine wl_p (fun _ => o_asi (o_convi Try.underlying22 Try.underlying5 rfl) (byte_shift n q (by omega))) ?_
      refine wl_v (o_lit (is := [0]) (xs := [.tmp 47]) rfl (Try.lit8 _ _)) ?_
      have hs2 := hb'.size
      refine wl_app (m := [UInt8.ofNat (n / 256 ^ q)]) Try.u8 rfl hln (hown'.alloc _) rfl rfl (rd_lit _ _ _ rfl) (by simp; omega) (by simp; omega) ?_
      intro A35 c35 w35 hown35 hg35 hk35 hb35
      repeat (first | refine rk_seq ?_ | refine rk_region ?_ | refine rk_block ?_ | refine rk_blk ?_ | refine rk_skip ?_ | refine rk_label ?_ | refine wl_nil ?_ | refine wl_nild ?_ | refine rk_exit rfl ?_ | refine rk_true rfl ?_ | refine rk_false rfl ?_ | refine wl_p (fun _ => o_assign rfl) ?_ | refine wl_p (fun _ => o_move rfl) ?_ | refine wl_p (fun _ => o_eq rfl rfl) ?_ | refine wl_p (fun _ => o_sub rfl rfl (by omega) (by omega)) ?_ | refine wl_p (fun _ => o_convu64 (src := 3) (dst := 26) Try.underlying3 Try.underlying26 rfl (by omega) (by omega)) ?_ | refine wl_p (fun _ => o_shl rfl rfl (by omega)) ?_ | refine wl_p (fun _ => o_subw rfl rfl) ?_ | refine wl_p (fun _ => o_convi (src := 22) (dst := 5) Try.underlying22 Try.underlying5 rfl) ?_ | refine wl_p (fun _ => o_mul rfl rfl (by omega) (by omega)) ?_ | refine wl_p (fun _ => o_shr rfl rfl (by omega)) ?_ | refine wl_p (fun _ => o_addw rfl rfl) ?_ | refine wl_p (fun _ => o_ge rfl rfl) ?_)
      exact rk_again (m := q) (by repeat' constructor) ⟨A35, c35, _, _, _, rfl, rfl, rfl, by omega, by simpa [beB] using hl', hown35, (hb'.alloc (by omega) _).trans hb35⟩ (by omega)
    · obtain rfl : j = 0 := by omega
      repeat (first | refine rk_seq ?_ | refine rk_region ?_ | refine rk_block ?_ | refine rk_blk ?_ | refine rk_skip ?_ | refine rk_label ?_ | refine wl_nil ?_ | refine wl_nild ?_ | refine rk_exit rfl ?_ | refine rk_true rfl ?_ | refine rk_false rfl ?_ | refine wl_p (fun _ => o_assign rfl) ?_ | refine wl_p (fun _ => o_move rfl) ?_ | refine wl_p (fun _ => o_eq rfl rfl) ?_ | refine wl_p (fun _ => o_sub rfl rfl (by omega) (by omega)) ?_ | refine wl_p (fun _ => o_convu64 (src := 3) (dst := 26) Try.underlying3 Try.underlying26 rfl (by omega) (by omega)) ?_ | refine wl_p (fun _ => o_shl rfl rfl (by omega)) ?_ | refine wl_p (fun _ => o_subw rfl rfl) ?_ | refine wl_p (fun _ => o_convi (src := 22) (dst := 5) Try.underlying22 Try.underlying5 rfl) ?_ | refine wl_p (fun _ => o_mul rfl rfl (by omega) (by omega)) ?_ | refine wl_p (fun _ => o_shr rfl rfl (by omega)) ?_ | refine wl_p (fun _ => o_addw rfl rfl) ?_ | refine wl_p (fun _ => o_ge rfl rfl) ?_)
      refine ret1 rfl rfl ?_
      simp only [beB, List.append_nil] at hl'
      subst hl'
      exact ⟨A', c', by rw [hln], hown', hb'⟩
  · have hs10 := hb.size
    refine rk_if rfl (fun h => ?_) (fun h => ?_)
    · repeat (first | refine rk_seq ?_ | refine rk_region ?_ | refine rk_block ?_ | refine rk_blk ?_ | refine rk_skip ?_ | refine rk_label ?_ | refine wl_nil ?_ | refine wl_nild ?_ | refine rk_exit rfl ?_ | refine rk_true rfl ?_ | refine rk_false rfl ?_ | refine wl_p (fun _ => o_assign rfl) ?_ | refine wl_p (fun _ => o_move rfl) ?_ | refine wl_p (fun _ => o_eq rfl rfl) ?_ | refine wl_p (fun _ => o_sub rfl rfl (by omega) (by omega)) ?_ | refine wl_p (fun _ => o_convu64 (src := 3) (dst := 26) Try.underlying3 Try.underlying26 rfl (by omega) (by omega)) ?_ | refine wl_p (fun _ => o_shl rfl rfl (by omega)) ?_ | refine wl_p (fun _ => o_subw rfl rfl) ?_ | refine wl_p (fun _ => o_convi (src := 22) (dst := 5) Try.underlying22 Try.underlying5 rfl) ?_ | refine wl_p (fun _ => o_mul rfl rfl (by omega) (by omega)) ?_ | refine wl_p (fun _ => o_shr rfl rfl (by omega)) ?_ | refine wl_p (fun _ => o_addw rfl rfl) ?_ | refine wl_p (fun _ => o_ge rfl rfl) ?_)
      refine wl_v (o_lit (is := [0]) (xs := [.const (.int .u8 255)]) rfl (Try.lit8 _ _)) ?_
      have e9 : room n = 9 := by omega
      refine wl_app (m := [first (room n) n]) Try.u8 rfl rfl (hown10.alloc _) rfl rfl (rd_lit _ _ _ ?_) (by simp; omega) (by simp; omega) ?_
      · have h9 : n / 256 ^ 8 = 0 := Nat.div_eq_of_lt (by simpa using hn)
        rw [e9]; unfold first; rw [h9]; rfl
      intro A35 c35 w35 hown35 hg35 hk35 hb35
      repeat (first | refine rk_seq ?_ | refine rk_region ?_ | refine rk_block ?_ | refine rk_blk ?_ | refine rk_skip ?_ | refine rk_label ?_ | refine wl_nil ?_ | refine wl_nild ?_ | refine rk_exit rfl ?_ | refine rk_true rfl ?_ | refine rk_false rfl ?_ | refine wl_p (fun _ => o_assign rfl) ?_ | refine wl_p (fun _ => o_move rfl) ?_ | refine wl_p (fun _ => o_eq rfl rfl) ?_ | refine wl_p (fun _ => o_sub rfl rfl (by omega) (by omega)) ?_ | refine wl_p (fun _ => o_convu64 (src := 3) (dst := 26) Try.underlying3 Try.underlying26 rfl (by omega) (by omega)) ?_ | refine wl_p (fun _ => o_shl rfl rfl (by omega)) ?_ | refine wl_p (fun _ => o_subw rfl rfl) ?_ | refine wl_p (fun _ => o_convi (src := 22) (dst := 5) Try.underlying22 Try.underlying5 rfl) ?_ | refine wl_p (fun _ => o_mul rfl rfl (by omega) (by omega)) ?_ | refine wl_p (fun _ => o_shr rfl rfl (by omega)) ?_ | refine wl_p (fun _ => o_addw rfl rfl) ?_ | refine wl_p (fun _ => o_ge rfl rfl) ?_)
      exact rk_to hj (by repeat' constructor) ⟨A35, c35, _, rfl, rfl, hown35, (hb.alloc (by omega) _).trans hb35⟩
    · repeat (first | refine rk_seq ?_ | refine rk_region ?_ | refine rk_block ?_ | refine rk_blk ?_ | refine rk_skip ?_ | refine rk_label ?_ | refine wl_nil ?_ | refine wl_nild ?_ | refine rk_exit rfl ?_ | refine rk_true rfl ?_ | refine rk_false rfl ?_ | refine wl_p (fun _ => o_assign rfl) ?_ | refine wl_p (fun _ => o_move rfl) ?_ | refine wl_p (fun _ => o_eq rfl rfl) ?_ | refine wl_p (fun _ => o_sub rfl rfl (by omega) (by omega)) ?_ | refine wl_p (fun _ => o_convu64 (src := 3) (dst := 26) Try.underlying3 Try.underlying26 rfl (by omega) (by omega)) ?_ | refine wl_p (fun _ => o_shl rfl rfl (by omega)) ?_ | refine wl_p (fun _ => o_subw rfl rfl) ?_ | refine wl_p (fun _ => o_convi (src := 22) (dst := 5) Try.underlying22 Try.underlying5 rfl) ?_ | refine wl_p (fun _ => o_mul rfl rfl (by omega) (by omega)) ?_ | refine wl_p (fun _ => o_shr rfl rfl (by omega)) ?_ | refine wl_p (fun _ => o_ge rfl rfl) ?_)
      refine wl_p (fun _ => o_asi (o_addw rfl rfl) (ref_byte n hn)) ?_
      refine wl_v (o_lit (is := [0]) (xs := [.tmp 32]) rfl (Try.lit8 _ _)) ?_
      refine wl_app (m := [first (room n) n]) Try.u8 rfl rfl (hown10.alloc _) rfl rfl (rd_lit _ _ _ rfl) (by simp; omega) (by simp; omega) ?_
      intro A35 c35 w35 hown35 hg35 hk35 hb35
      repeat (first | refine rk_seq ?_ | refine rk_region ?_ | refine rk_block ?_ | refine rk_blk ?_ | refine rk_skip ?_ | refine rk_label ?_ | refine wl_nil ?_ | refine wl_nild ?_ | refine rk_exit rfl ?_ | refine rk_true rfl ?_ | refine rk_false rfl ?_ | refine wl_p (fun _ => o_assign rfl) ?_ | refine wl_p (fun _ => o_move rfl) ?_ | refine wl_p (fun _ => o_eq rfl rfl) ?_ | refine wl_p (fun _ => o_sub rfl rfl (by omega) (by omega)) ?_ | refine wl_p (fun _ => o_convu64 (src := 3) (dst := 26) Try.underlying3 Try.underlying26 rfl (by omega) (by omega)) ?_ | refine wl_p (fun _ => o_shl rfl rfl (by omega)) ?_ | refine wl_p (fun _ => o_subw rfl rfl) ?_ | refine wl_p (fun _ => o_convi (src := 22) (dst := 5) Try.underlying22 Try.underlying5 rfl) ?_ | refine wl_p (fun _ => o_mul rfl rfl (by omega) (by omega)) ?_ | refine wl_p (fun _ => o_shr rfl rfl (by omega)) ?_ | refine wl_p (fun _ => o_addw rfl rfl) ?_ | refine wl_p (fun _ => o_ge rfl rfl) ?_)
      exact rk_to hj (by repeat' constructor) ⟨A35, c35, _, rfl, rfl, hown35, (hb.alloc (by omega) _).trans hb35⟩

theorem C_refBlock {A X : Option Addr} {l p : List UInt8} (c k : Nat) (w : World) (hr : Rd w A l) (hp : Rd w X p) (hl : l.length + p.length ≤ 140737488355000) :
    CallsR Try.prog 14 [.slice A l.length c, .slice X p.length k] w fun v w' => ∃ A' c', v = .slice A' (l ++ enc p.length ++ p).length c' ∧ Own w' w.heap.size A' c' (l ++ enc p.length ++ p) ∧ Below w.heap.size w w' := by
  have hk := room_pos p.length
  have hn : p.length < u64 := by unfold u64; omega
  refine callsR Try.func14 rfl rfl (by kernel_rfl) rfl ?_
  repeat (first | refine rk_seq ?_ | refine rk_region ?_ | refine rk_block ?_ | refine rk_blk ?_ | refine rk_skip ?_ | refine rk_label ?_ | refine wl_nil ?_ | refine wl_nild ?_ | refine rk_exit rfl ?_ | refine rk_true rfl ?_ | refine rk_false rfl ?_ | refine wl_p (fun _ => o_assign rfl) ?_ | refine wl_p (fun _ => o_move rfl) ?_ | refine wl_p (fun _ => o_len (t := 24) Try.underlying24 rfl) ?_ | refine wl_p (fun _ => o_convu64 (src := 3) (dst := 22) Try.underlying3 Try.underlying22 rfl (by omega) (by omega)) ?_)
  refine wl_call rfl (C_refNumber c p.length w hr hn (by omega)) ?_
  rintro _ w3 ⟨A3, c3, rfl, hown3, hb3⟩
  repeat (first | refine rk_seq ?_ | refine rk_region ?_ | refine rk_block ?_ | refine rk_blk ?_ | refine rk_skip ?_ | refine rk_label ?_ | refine wl_nil ?_ | refine wl_nild ?_ | refine rk_exit rfl ?_ | refine rk_true rfl ?_ | refine rk_false rfl ?_ | refine wl_p (fun _ => o_assign rfl) ?_ | refine wl_p (fun _ => o_move rfl) ?_ | refine wl_p (fun _ => o_len (t := 24) Try.underlying24 rfl) ?_ | refine wl_p (fun _ => o_convu64 (src := 3) (dst := 22) Try.underlying3 Try.underlying22 rfl (by omega) (by omega)) ?_)
  refine wl_app Try.u8 rfl rfl hown3 rfl rfl (hp.below hb3) (by simp [enc_length]; omega) hb3.size ?_
  intro A4 c4 w4 hown4 hg4 hk4 hb4
  repeat (first | refine rk_seq ?_ | refine rk_region ?_ | refine rk_block ?_ | refine rk_blk ?_ | refine rk_skip ?_ | refine rk_label ?_ | refine wl_nil ?_ | refine wl_nild ?_ | refine rk_exit rfl ?_ | refine rk_true rfl ?_ | refine rk_false rfl ?_ | refine wl_p (fun _ => o_assign rfl) ?_ | refine wl_p (fun _ => o_move rfl) ?_ | refine wl_p (fun _ => o_len (t := 24) Try.underlying24 rfl) ?_ | refine wl_p (fun _ => o_convu64 (src := 3) (dst := 22) Try.underlying3 Try.underlying22 rfl (by omega) (by omega)) ?_)
  refine ret1 rfl rfl ?_
  exact ⟨A4, c4, rfl, hown4, hb3.trans hb4⟩

theorem C_refWord {A : Option Addr} {l : List UInt8} (c : Nat) (n : Nat) (size : Int) (w : World) (hr : Rd w A l) (hn : n < u64) (hl : l.length ≤ 140737488355000) :
    CallsR Try.prog 16 [.slice A l.length c, .int .u64 n, .int .i64 size] w fun v w' => ∃ A' c', v = .slice A' (l ++ leB (clampN size) n).length c' ∧ Own w' w.heap.size A' c' (l ++ leB (clampN size) n) ∧ Below w.heap.size w w' := by
  obtain ⟨hk1, hk2, hk3⟩ := clampN_bd size
  have hk4 : min (max size 1) 8 = (clampN size : Int) := by omega
  refine callsR Try.func16 rfl rfl (by kernel_rfl) rfl ?_
  repeat (first | refine rk_seq ?_ | refine rk_region ?_ | refine rk_block ?_ | refine rk_blk ?_ | refine rk_skip ?_ | refine rk_label ?_ | refine wl_nil ?_ | refine wl_nild ?_ | refine rk_exit rfl ?_ | refine rk_true rfl ?_ | refine rk_false rfl ?_ | refine wl_p (fun _ => o_assign rfl) ?_ | refine wl_p (fun _ => o_move rfl) ?_ | refine wl_p (fun _ => o_max rfl rfl) ?_ | refine wl_p (fun _ => o_min rfl rfl) ?_ | refine wl_p (fun _ => o_lt rfl rfl) ?_ | refine wl_p (fun _ => o_mul rfl rfl (by omega) (by omega)) ?_ | refine wl_p (fun _ => o_convu64 (src := 3) (dst := 26) Try.underlying3 Try.underlying26 rfl (by omega) (by omega)) ?_ | refine wl_p (fun _ => o_shr rfl rfl (by omega)) ?_ | refine wl_p (fun _ => o_convi (src := 22) (dst := 5) Try.underlying22 Try.underlying5 rfl) ?_ | refine wl_p (fun _ => o_add rfl rfl (by omega) (by omega)) ?_)
  refine wl_lit8 (xs := []) [] Try.u8 Try.sizeOf5 Try.zeroValue5 rfl rfl ?_
  intro w1 hown1 hb1 hz1
  repeat (first | refine rk_seq ?_ | refine rk_region ?_ | refine rk_block ?_ | refine rk_blk ?_ | refine rk_skip ?_ | refine rk_label ?_ | refine wl_nil ?_ | refine wl_nild ?_ | refine rk_exit rfl ?_ | refine rk_true rfl ?_ | refine rk_false rfl ?_ | refine wl_p (fun _ => o_assign rfl) ?_ | refine wl_p (fun _ => o_move rfl) ?_ | refine wl_p (fun _ => o_max rfl rfl) ?_ | refine wl_p (fun _ => o_min rfl rfl) ?_ | refine wl_p (fun _ => o_lt rfl rfl) ?_ | refine wl_p (fun _ => o_mul rfl rfl (by omega) (by omega)) ?_ | refine wl_p (fun _ => o_convu64 (src := 3) (dst := 26) Try.underlying3 Try.underlying26 rfl (by omega) (by omega)) ?_ | refine wl_p (fun _ => o_shr rfl rfl (by omega)) ?_ | refine wl_p (fun _ => o_convi (src := 22) (dst := 5) Try.underlying22 Try.underlying5 rfl) ?_ | refine wl_p (fun _ => o_add rfl rfl (by omega) (by omega)) ?_)
  refine wl_app (s := []) Try.u8 rfl rfl hown1 rfl rfl (hr.below hb1) (by simp; omega) hb1.size ?_
  intro A10 c10 w10 hown10 hg10 hk10 hb10
  rw [List.nil_append] at hown10 ⊢
  have hb := hb1.trans hb10
  repeat (first | refine rk_seq ?_ | refine rk_region ?_ | refine rk_block ?_ | refine rk_blk ?_ | refine rk_skip ?_ | refine rk_label ?_ | refine wl_nil ?_ | refine wl_nild ?_ | refine rk_exit rfl ?_ | refine rk_true rfl ?_ | refine rk_false rfl ?_ | refine wl_p (fun _ => o_assign rfl) ?_ | refine wl_p (fun _ => o_move rfl) ?_ | refine wl_p (fun _ => o_max rfl rfl) ?_ | refine wl_p (fun _ => o_min rfl rfl) ?_ | refine wl_p (fun _ => o_lt rfl rfl) ?_ | refine wl_p (fun _ => o_mul rfl rfl (by omega) (by omega)) ?_ | refine wl_p (fun _ => o_convu64 (src := 3) (dst := 26) Try.underlying3 Try.underlying26 rfl (by omega) (by omega)) ?_ | refine wl_p (fun _ => o_shr rfl rfl (by omega)) ?_ | refine wl_p (fun _ => o_convi (src := 22) (dst := 5) Try.underlying22 Try.underlying5 rfl) ?_ | refine wl_p (fun _ => o_add rfl rfl (by omega) (by omega)) ?_)
  refine rk_loop (fun m fr w' => ∃ j len A' c', fr = [(1, .int .u64 n), (2, .int .i64 size), (7, .slice A' len c'), (8, .int .i64 (j : Nat))] ∧ len = (l ++ leB j n).length ∧ m + j = clampN size ∧ Own w' w.heap.size A' c' (l ++ leB j n) ∧ Below w.heap.size w w')
    (n := clampN size) (by repeat' constructor) ⟨0, _, A10, c10, rfl, by simp [leB], by omega, by simpa [leB] using hown10, hb⟩ ?_
  rintro m fr w3 ⟨j, len, A', c', rfl, hln, hm, hown', hb'⟩
  have hlen : (l ++ leB j n).length = l.length + j := by simp [leB_length]
  repeat (first | refine rk_seq ?_ | refine rk_region ?_ | refine rk_block ?_ | refine rk_blk ?_ | refine rk_skip ?_ | refine rk_label ?_ | refine wl_nil ?_ | refine wl_nild ?_ | refine rk_exit rfl ?_ | refine rk_true rfl ?_ | refine rk_false rfl ?_ | refine wl_p (fun _ => o_assign rfl) ?_ | refine wl_p (fun _ => o_move rfl) ?_ | refine wl_p (fun _ => o_max rfl rfl) ?_ | refine wl_p (fun _ => o_min rfl rfl) ?_ | refine wl_p (fun _ => o_lt rfl rfl) ?_ | refine wl_p (fun _ => o_mul rfl rfl (by omega) (by omega)) ?_ | refine wl_p (fun _ => o_convu64 (src := 3) (dst := 26) Try.underlying3 Try.underlying26 rfl (by omega) (by omega)) ?_ | refine wl_p (fun _ => o_shr rfl rfl (by omega)) ?_ | refine wl_p (fun _ => o_convi (src := 22) (dst := 5) Try.underlying22 Try.underlying5 rfl) ?_ | refine wl_p (fun _ => o_add rfl rfl (by omega) (by omega)) ?_)
  refine rk_if rfl (fun h => ?_) (fun h => ?_)
  · rw [hk4] at h
    repeat (first | refine rk_seq ?_ | refine rk_region ?_ | refine rk_block ?_ | refine rk_blk ?_ | refine rk_skip ?_ | refine rk_label ?_ | refine wl_nil ?_ | refine wl_nild ?_ | refine rk_exit rfl ?_ | refine rk_true rfl ?_ | refine rk_false rfl ?_ | refine wl_p (fun _ => o_assign rfl) ?_ | refine wl_p (fun _ => o_move rfl) ?_ | refine wl_p (fun _ => o_max rfl rfl) ?_ | refine wl_p (fun _ => o_min rfl rfl) ?_ | refine wl_p (fun _ => o_lt rfl rfl) ?_ | refine wl_p (fun _ => o_mul rfl rfl (by omega) (by omega)) ?_ | refine wl_p (fun _ => o_convu64 (src := 3) (dst := 26) Try.underlying3 Try.underlying26 rfl (by omega) (by omega)) ?_ | refine wl_p (fun _ => o_shr rfl rfl (by omega)) ?_ | refine wl_p (fun _ => o_add rfl rfl (by omega) (by omega)) ?_)
    refine wl_p (fun _ => o_asi (o_convi Try.underlying22 Try.underlying5 rfl) (byte_shift n j (by omega))) ?_
    refine wl_v (o_lit (is := [0]) (xs := [.tmp 25]) rfl (Try.lit8 _ _)) ?_
    have hs2 := hb'.size
    refine wl_app (m := [UInt8.ofNat (n / 256 ^ j)]) Try.u8 rfl hln (hown'.alloc _) rfl rfl (rd_lit _ _ _ rfl) (by rw [hlen]; simp; omega) (by simp; omega) ?_
    intro A5 c5 w5 hown5 hg5 hk5 hb5
    repeat (first | refine rk_seq ?_ | refine rk_region ?_ | refine rk_block ?_ | refine rk_blk ?_ | refine rk_skip ?_ | refine rk_label ?_ | refine wl_nil ?_ | refine wl_nild ?_ | refine rk_exit rfl ?_ | refine rk_true rfl ?_ | refine rk_false rfl ?_ | refine wl_p (fun _ => o_assign rfl) ?_ | refine wl_p (fun _ => o_move rfl) ?_ | refine wl_p (fun _ => o_max rfl rfl) ?_ | refine wl_p (fun _ => o_min rfl rfl) ?_ | refine wl_p (fun _ => o_lt rfl rfl) ?_ | refine wl_p (fun _ => o_mul rfl rfl (by omega) (by omega)) ?_ | refine wl_p (fun _ => o_convu64 (src := 3) (dst := 26) Try.underlying3 Try.underlying26 rfl (by omega) (by omega)) ?_ | refine wl_p (fun _ => o_shr rfl rfl (by omega)) ?_ | refine wl_p (fun _ => o_convi (src := 22) (dst := 5) Try.underlying22 Try.underlying5 rfl) ?_ | refine wl_p (fun _ => o_add rfl rfl (by omega) (by omega)) ?_)
    exact rk_again (m := m - 1) (by repeat' constructor) ⟨j + 1, _, A5, c5, rfl, by simp [leB], by omega, by simpa [leB] using hown5, (hb'.alloc (by omega) _).trans hb5⟩ (by omega)
  · rw [hk4] at h
    obtain rfl : j = clampN size := by omega
    repeat (first | refine rk_seq ?_ | refine rk_region ?_ | refine rk_block ?_ | refine rk_blk ?_ | refine rk_skip ?_ | refine rk_label ?_ | refine wl_nil ?_ | refine wl_nild ?_ | refine rk_exit rfl ?_ | refine rk_true rfl ?_ | refine rk_false rfl ?_ | refine wl_p (fun _ => o_assign rfl) ?_ | refine wl_p (fun _ => o_move rfl) ?_ | refine wl_p (fun _ => o_max rfl rfl) ?_ | refine wl_p (fun _ => o_min rfl rfl) ?_ | refine wl_p (fun _ => o_lt rfl rfl) ?_ | refine wl_p (fun _ => o_mul rfl rfl (by omega) (by omega)) ?_ | refine wl_p (fun _ => o_convu64 (src := 3) (dst := 26) Try.underlying3 Try.underlying26 rfl (by omega) (by omega)) ?_ | refine wl_p (fun _ => o_shr rfl rfl (by omega)) ?_ | refine wl_p (fun _ => o_convi (src := 22) (dst := 5) Try.underlying22 Try.underlying5 rfl) ?_ | refine wl_p (fun _ => o_add rfl rfl (by omega) (by omega)) ?_)
    refine ret1 rfl rfl ?_
    exact ⟨A', c', by rw [hln], hown', hb'⟩
end Go.Proofs.Ytifbbbbgefpgkaa
