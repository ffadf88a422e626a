/-
  Plain mathematics: numbers are ordered as their bytes are.
-/
import Derived.Test.YtpjedpmbninfcaaOctS
import GoSem.Op.String
namespace Go.Proofs.Ytpjedpmbninfcaa

theorem less_cons (a b : UInt8) (x y : List UInt8) : Op.bytesLess (a :: x) (b :: y) = (decide (a.toNat < b.toNat) || (decide (a.toNat = b.toNat) && Op.bytesLess x y)) := by
  have h1 : decide (a < b) = decide (a.toNat < b.toNat) := by rw [decide_eq_decide, UInt8.lt_iff_toNat_lt]
  have h2 : (a == b) = decide (a.toNat = b.toNat) := by rw [Bool.eq_iff_iff]; simp [UInt8.toNat_inj]
  simp only [Op.bytesLess]
  rw [h1, h2]

theorem be_less : ∀ (j n m : Nat), Op.bytesLess (beB j n) (beB j m) = decide (n % 256 ^ j < m % 256 ^ j)
  | 0, n, m => by simp [beB, Op.bytesLess, Nat.mod_one]
  | j + 1, n, m => by
    rw [beB, beB, less_cons, be_less j n m, UInt8.toNat_ofNat', UInt8.toNat_ofNat']
    have hp : 0 < 256 ^ j := Nat.pos_of_ne_zero (by simp)
    rw [show (2 : Nat) ^ 8 = 256 from rfl, Nat.pow_succ, Nat.mod_mul, Nat.mod_mul]
    have h1 := Nat.mod_lt n hp
    have h2 := Nat.mod_lt m hp
    generalize n / 256 ^ j % 256 = a at *
    generalize m / 256 ^ j % 256 = b at *
    generalize n % 256 ^ j = x at *
    generalize m % 256 ^ j = y at *
    generalize 256 ^ j = q at *
    rw [Bool.eq_iff_iff]
    simp only [Bool.or_eq_true, decide_eq_true_eq, Bool.and_eq_true]
    rcases Nat.lt_trichotomy a b with h | h | h
    · have h3 : q * a + q ≤ q * b := by rw [← Nat.mul_succ]; exact Nat.mul_le_mul_left q h
      constructor
      · intro _; omega
      · intro _; exact .inl h
    · subst h
      constructor
      · rintro (h3 | ⟨_, h3⟩)
        · omega
        · omega
      · intro h3; exact .inr ⟨rfl, by omega⟩
    · have h3 : q * b + q ≤ q * a := by rw [← Nat.mul_succ]; exact Nat.mul_le_mul_left q h
      constructor
      · rintro (h4 | ⟨h4, _⟩) <;> omega
      · intro _; omega

theorem first_nat (n : Nat) (h : n < 18446744073709551616) : (first (room n) n).toNat = 256 - 2 ^ (9 - room n) + n / 256 ^ (room n - 1) := by
  have hk := room_pos n
  have hlt := room_lt n h
  have h5 : 2 ^ (8 - room n) ≤ 2 ^ (9 - room n) := Nat.pow_le_pow_right (by omega) (by omega)
  have h6 : 2 ^ (9 - room n) ≤ 256 := Nat.pow_le_pow_right (show 0 < 2 by omega) (show 9 - room n ≤ 8 by omega)
  unfold first
  rw [UInt8.toNat_ofNat', Nat.mod_eq_of_lt]
  rcases Nat.lt_or_ge (room n) 9 with h9 | h9
  · have : 2 ^ (9 - room n) = 2 ^ (8 - room n) * 2 := by rw [← Nat.pow_succ]; congr 1; omega
    have := Nat.two_pow_pos (8 - room n)
    omega
  · have e : room n = 9 := by omega
    rw [e] at hlt ⊢
    simp at hlt
    omega

def over (t n : Nat) : Nat := if n < t then 0 else 1
theorem over_mono (t : Nat) {n m : Nat} (h : n ≤ m) : over t n ≤ over t m := by unfold over; split <;> split <;> omega
theorem room_sum (n : Nat) : room n = 1 + over 128 n + over 16384 n + over 2097152 n + over 268435456 n + over 34359738368 n + over 4398046511104 n + over 562949953421312 n + over 72057594037927936 n := by
  unfold room
  split
  · simp only [over]; repeat rw [if_pos (by omega)]
  split
  · simp only [over]; rw [if_neg (by omega)]; repeat rw [if_pos (by omega)]
  split
  · simp only [over]; iterate 2 rw [if_neg (by omega)]
    repeat rw [if_pos (by omega)]
  split
  · simp only [over]; iterate 3 rw [if_neg (by omega)]
    repeat rw [if_pos (by omega)]
  split
  · simp only [over]; iterate 4 rw [if_neg (by omega)]
    repeat rw [if_pos (by omega)]
  split
  · simp only [over]; iterate 5 rw [if_neg (by omega)]
    repeat rw [if_pos (by omega)]
  split
  · simp only [over]; iterate 6 rw [if_neg (by omega)]
    repeat rw [if_pos (by omega)]
  split
  · simp only [over]; iterate 7 rw [if_neg (by omega)]
    repeat rw [if_pos (by omega)]
  · simp only [over]; iterate 8 rw [if_neg (by omega)]
theorem room_mono {n m : Nat} (h : n ≤ m) : room n ≤ room m := by
  rw [room_sum, room_sum]
  have := over_mono 128 h
  have := over_mono 16384 h
  have := over_mono 2097152 h
  have := over_mono 268435456 h
  have := over_mono 34359738368 h
  have := over_mono 4398046511104 h
  have := over_mono 562949953421312 h
  have := over_mono 72057594037927936 h
  omega

theorem first_lt {n m : Nat} (hn : n < 18446744073709551616) (hm : m < 18446744073709551616) (h : room n < room m) : (first (room n) n).toNat < (first (room m) m).toNat := by
  have hk := room_pos n
  have hk' := room_pos m
  rw [first_nat n hn, first_nat m hm]
  have hlt := room_lt n hn
  have e : 2 ^ (9 - room n) = 2 ^ (8 - room n) * 2 := by rw [← Nat.pow_succ]; congr 1; omega
  have h6 : 2 ^ (9 - room n) ≤ 256 := Nat.pow_le_pow_right (show 0 < 2 by omega) (show 9 - room n ≤ 8 by omega)
  have h7 : 2 ^ (9 - room m) ≤ 2 ^ (8 - room n) := Nat.pow_le_pow_right (by omega) (by omega)
  generalize n / 256 ^ (room n - 1) = a at *
  generalize m / 256 ^ (room m - 1) = b at *
  omega

theorem enc_less (n m : Nat) (hn : n < 18446744073709551616) (hm : m < 18446744073709551616) : Op.bytesLess (enc n) (enc m) = decide (n < m) := by
  unfold enc
  rw [less_cons]
  rcases Nat.lt_trichotomy (room n) (room m) with h | h | h
  · have h1 := first_lt hn hm h
    have h2 : n < m := by
      rcases Nat.lt_or_ge n m with h3 | h3
      · exact h3
      · have := room_mono h3; omega
    simp [h1, h2]
  · rw [first_nat n hn, first_nat m hm, ← h, be_less, Bool.eq_iff_iff]
    have hp : 0 < 256 ^ (room n - 1) := Nat.pos_of_ne_zero (by simp)
    have h1 := Nat.mod_lt n hp
    have h2 := Nat.mod_lt m hp
    have e1 := Nat.div_add_mod n (256 ^ (room n - 1))
    have e2 := Nat.div_add_mod m (256 ^ (room n - 1))
    generalize n / 256 ^ (room n - 1) = a at *
    generalize m / 256 ^ (room n - 1) = b at *
    generalize n % 256 ^ (room n - 1) = x at *
    generalize m % 256 ^ (room n - 1) = y at *
    generalize 256 ^ (room n - 1) = q at *
    simp only [Bool.or_eq_true, decide_eq_true_eq, Bool.and_eq_true]
    rcases Nat.lt_trichotomy a b with h | h | h
    · have h3 : q * a + q ≤ q * b := by rw [← Nat.mul_succ]; exact Nat.mul_le_mul_left q h
      constructor
      · intro _; omega
      · intro _; left; omega
    · subst h
      constructor
      · rintro (h3 | ⟨_, h3⟩) <;> omega
      · intro h3; exact .inr ⟨rfl, by omega⟩
    · have h3 : q * b + q ≤ q * a := by rw [← Nat.mul_succ]; exact Nat.mul_le_mul_left q h
      constructor
      · rintro (h4 | ⟨h4, _⟩) <;> omega
      · intro _; omega
  · have h1 := first_lt hm hn h
    have h2 : ¬ n < m := fun h3 => by have := room_mono (Nat.le_of_lt h3); omega
    have h3 : ¬ (first (room n) n).toNat < (first (room m) m).toNat := by omega
    have h4 : ¬ (first (room n) n).toNat = (first (room m) m).toNat := by omega
    simp [h2, h3, h4]

theorem less_irrefl : ∀ l : List UInt8, Op.bytesLess l l = false
  | [] => rfl
  | a :: l => by rw [less_cons, less_irrefl l]; simp
theorem enc_inj {n m : Nat} (hn : n < 18446744073709551616) (hm : m < 18446744073709551616) (h : enc n = enc m) : n = m := by
  have h1 := enc_less n m hn hm
  have h2 := enc_less m n hm hn
  rw [h, less_irrefl] at h1
  rw [h, less_irrefl] at h2
  have h3 := of_decide_eq_false h1.symm
  have h4 := of_decide_eq_false h2.symm
  omega

theorem room_hi (n : Nat) : room n = 9 ∨ n / 2 ^ (7 * room n) = 0 := by
  unfold room
  repeat' split
  all_goals first | (left; rfl) | (right; simp; omega)
theorem room_low (n : Nat) : room n = 1 ∨ n / 2 ^ (7 * (room n - 1)) ≠ 0 := by
  unfold room
  repeat' split
  all_goals first | (left; rfl) | (right; simp; omega)
end Go.Proofs.Ytpjedpmbninfcaa
