/-
  Plain laws of chapter 1: what is written is read back, and nothing else is read so.
-/
import Derived.Test.YtpjedpmbninfcaaOctP
namespace Go.Proofs.Ytpjedpmbninfcaa

theorem lead_first (n : Nat) (h : n < 18446744073709551616) : lead (first (room n) n) = room n ∧ (first (room n) n).toNat % 2 ^ (8 - room n) = n / 256 ^ (room n - 1) := by
  have hk := room_pos n
  have hlt := room_lt n h
  have hf := first_nat n h
  unfold lead
  generalize n / 256 ^ (room n - 1) = q at *
  generalize (first (room n) n).toNat = f at *
  generalize room n = k at *
  obtain e | e | e | e | e | e | e | e | e : k = 1 ∨ k = 2 ∨ k = 3 ∨ k = 4 ∨ k = 5 ∨ k = 6 ∨ k = 7 ∨ k = 8 ∨ k = 9 := by omega
  all_goals subst e; simp only [Nat.reduceSub, Nat.reducePow] at *; refine ⟨?_, by omega⟩; (repeat' split) <;> omega

theorem ofNat_byte (q : Nat) : (UInt8.ofNat q).toNat = q % 256 := by rw [UInt8.toNat_ofNat']
theorem mod_pow_succ (n j : Nat) : n % 256 ^ (j + 1) = n % 256 ^ j + 256 ^ j * (n / 256 ^ j % 256) := by rw [Nat.pow_succ, Nat.mod_mul]
theorem beVal_beB : ∀ (j a n : Nat), beVal a (beB j n) = a * 256 ^ j + n % 256 ^ j
  | 0, a, n => by simp [beVal, beB, Nat.mod_one]
  | j + 1, a, n => by
    have e : beVal a (beB (j + 1) n) = beVal (a * 256 + (UInt8.ofNat (n / 256 ^ j)).toNat) (beB j n) := rfl
    rw [e, beVal_beB j, ofNat_byte, mod_pow_succ, Nat.pow_succ, Nat.add_mul, Nat.mul_assoc a 256, Nat.mul_comm 256 (256 ^ j), Nat.mul_comm (n / 256 ^ j % 256), Nat.add_assoc, Nat.add_comm (256 ^ j * (n / 256 ^ j % 256))]

theorem rNumber_enc (n : Nat) (h : n < 18446744073709551616) (t : List UInt8) : rNumber (enc n ++ t, 0) = (n, (t, 0)) := by
  have hk := room_pos n
  obtain ⟨h1, h2⟩ := lead_first n h
  have hv : beVal ((first (room n) n).toNat % 2 ^ (8 - lead (first (room n) n))) ((beB (room n - 1) n ++ t).take (lead (first (room n) n) - 1)) = n := by
    rw [h1, h2, List.take_append_of_le_length (by rw [beB_length]; exact Nat.le_refl _), List.take_of_length_le (by rw [beB_length]; exact Nat.le_refl _), beVal_beB]
    exact Nat.div_add_mod' n _
  show rNumber (first (room n) n :: (beB (room n - 1) n ++ t), 0) = _
  rw [rNumber_ok (by rw [h1, List.length_append, beB_length]; omega) (by rw [hv, h1]), hv, h1]
  rw [List.drop_append_of_le_length (by rw [beB_length]; exact Nat.le_refl _), List.drop_of_length_le (by rw [beB_length]; exact Nat.le_refl _)]
  rfl

theorem rBlock_enc (p t : List UInt8) (h : p.length < 18446744073709551616) : rBlock (enc p.length ++ p ++ t, 0) = (p, (t, 0)) := by
  unfold rBlock
  rw [List.append_assoc, rNumber_enc _ h]
  simp

theorem leVal_leB : ∀ (k m : Nat), leVal (leB k m) = m % 256 ^ k
  | 0, m => by simp [leB, leVal, Nat.mod_one]
  | k + 1, m => by
    have e : leB (k + 1) m = leB k m ++ [UInt8.ofNat (m / 256 ^ k)] := rfl
    rw [e, leVal_snoc, leVal_leB k, leB_length, ofNat_byte, mod_pow_succ, Nat.mul_comm]

theorem rWord_le (size : Int) (m : Nat) (t : List UInt8) : rWord size (leB (clampN size) m ++ t, 0) = (m % 256 ^ clampN size, (t, 0)) := by
  unfold rWord rTake
  have hl : (leB (clampN size) m).length = clampN size := leB_length _ _
  rw [if_neg (by simp), if_neg (by simp [hl])]
  simp only [List.take_append_of_le_length (Nat.le_of_eq hl.symm), List.drop_append_of_le_length (Nat.le_of_eq hl.symm)]
  rw [List.take_of_length_le (Nat.le_of_eq hl), List.drop_of_length_le (Nat.le_of_eq hl), leVal_leB]
  rfl

theorem rDigest_all (d : List UInt8) (h : d.length = 32) : rDigest (d, 0) = (d, ([], 0)) := by
  unfold rDigest rTake
  have e : d.take 32 = d := List.take_of_length_le (Nat.le_of_eq h)
  simp [h, e]

theorem beVal_split : ∀ (l : List UInt8) (a : Nat), beVal a l / 256 ^ l.length = a
  | [], a => by simp [beVal]
  | c :: l, a => by
    have e : beVal a (c :: l) = beVal (a * 256 + c.toNat) l := rfl
    have h := beVal_split l (a * 256 + c.toNat)
    have hc := c.toNat_lt
    rw [e, List.length_cons, Nat.pow_succ, ← Nat.div_div_eq_div_mul, h]
    omega
theorem beB_beVal : ∀ (l : List UInt8) (a : Nat), beB l.length (beVal a l) = l
  | [], _ => rfl
  | c :: l, a => by
    have e : beVal a (c :: l) = beVal (a * 256 + c.toNat) l := rfl
    have hc := c.toNat_lt
    rw [e, List.length_cons, beB, beVal_split, beB_beVal l]
    congr 1
    apply UInt8.toNat_inj.1
    rw [UInt8.toNat_ofNat']
    omega
theorem lead_back (c : UInt8) : 256 - 2 ^ (9 - lead c) + c.toNat % 2 ^ (8 - lead c) = c.toNat := by
  have hc := c.toNat_lt
  unfold lead
  generalize c.toNat = x at *
  repeat' split
  all_goals simp only [Nat.reduceSub, Nat.reducePow]; omega

/-- What is read as a number is written so. -/
theorem rNumber_back {b r : List UInt8} {u : Nat} (h : rNumber (b, 0) = (u, (r, 0))) : b = enc u ++ r ∧ u < 18446744073709551616 := by
  cases b with
  | nil => rw [rNumber_nil] at h; simp at h
  | cons c t =>
    by_cases h1 : t.length + 1 < lead c
    · rw [rNumber_more h1] at h; simp at h
    · by_cases h2 : room (beVal (c.toNat % 2 ^ (8 - lead c)) (t.take (lead c - 1))) = lead c
      · rw [rNumber_ok h1 h2] at h
        simp only [Prod.mk.injEq, and_true] at h
        obtain ⟨hu, hr⟩ := h
        have hk := lead_bd c
        have hlen : (t.take (lead c - 1)).length = lead c - 1 := by rw [List.length_take]; omega
        have hu64 := beVal_u64 c (t.take (lead c - 1)) (by omega)
        rw [hu] at h2 hu64
        refine ⟨?_, hu64⟩
        have hdiv : u / 256 ^ (lead c - 1) = c.toNat % 2 ^ (8 - lead c) := by
          have := beVal_split (t.take (lead c - 1)) (c.toNat % 2 ^ (8 - lead c))
          rw [hlen, hu] at this
          exact this
        have hrest : beB (lead c - 1) u = t.take (lead c - 1) := by
          have := beB_beVal (t.take (lead c - 1)) (c.toNat % 2 ^ (8 - lead c))
          rw [hlen, hu] at this
          exact this
        have hf : first (lead c) u = c := by
          apply UInt8.toNat_inj.1
          unfold first
          rw [UInt8.toNat_ofNat', hdiv, lead_back]
          have := c.toNat_lt
          omega
        unfold enc
        rw [h2, hf, hrest, ← hr, List.cons_append, List.take_append_drop]
      · rw [rNumber_bad h1 h2] at h; simp at h

theorem rBlock_back {b q r : List UInt8} (h : rBlock (b, 0) = (q, (r, 0))) : b = enc q.length ++ q ++ r := by
  unfold rBlock at h
  generalize hn : rNumber (b, 0) = x at h
  obtain ⟨n, s, e⟩ := x
  simp only at h
  by_cases he : e = 0
  · subst he
    rw [if_neg (by simp)] at h
    obtain ⟨hb, _⟩ := rNumber_back hn
    by_cases hl : s.length < n
    · rw [if_pos hl] at h; simp at h
    · rw [if_neg hl] at h
      simp only [Prod.mk.injEq, and_true] at h
      obtain ⟨hq, hr⟩ := h
      have hqn : q.length = n := by rw [← hq, List.length_take]; omega
      rw [hb, hqn, ← hq, ← hr, List.append_assoc, List.take_append_drop]
  · rw [if_pos he] at h
    simp only [Prod.mk.injEq] at h
    exact absurd h.2.2 he
end Go.Proofs.Ytpjedpmbninfcaa
