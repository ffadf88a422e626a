/-
  Numbers in words of 64 bits, and roots: plain laws. No function of the program is named here.
-/
import Derived.Test.YtpjedpmbninfcaaAuto
namespace Go.Proofs.Ytpjedpmbninfcaa
/-! Numbers in words, the low one first. -/
def val : List Nat → Nat
  | [] => 0
  | a :: l => a + 18446744073709551616 * val l
def mulL : List Nat → Nat → Nat → List Nat
  | [], _, _ => []
  | a :: l, b, c => (a * b + c) % 18446744073709551616 :: mulL l b ((a * b + c) / 18446744073709551616)
def mulC : List Nat → Nat → Nat → Nat
  | [], _, c => c
  | a :: l, b, c => mulC l b ((a * b + c) / 18446744073709551616)
theorem mulL_append (a b : Nat) : ∀ (l : List Nat) (c : Nat), mulL (l ++ [a]) b c = mulL l b c ++ [(a * b + mulC l b c) % 18446744073709551616]
  | [], _ => rfl
  | x :: l, c => by simp only [List.cons_append, mulL, mulC, mulL_append a b l]
theorem mulC_append (a b : Nat) : ∀ (l : List Nat) (c : Nat), mulC (l ++ [a]) b c = (a * b + mulC l b c) / 18446744073709551616
  | [], _ => rfl
  | x :: l, c => by simp only [List.cons_append, mulC, mulC_append a b l]
theorem mulL_length (b : Nat) : ∀ (l : List Nat) (c : Nat), (mulL l b c).length = l.length
  | [], _ => rfl
  | x :: l, c => by simp only [mulL, List.length_cons, mulL_length b l]
theorem mulL_lt (b : Nat) : ∀ (l : List Nat) (c : Nat), ∀ x ∈ mulL l b c, x < 18446744073709551616
  | [], _, x, h => by cases h
  | a :: l, c, x, h => by
    rcases List.mem_cons.1 h with rfl | h
    · exact Nat.mod_lt _ (by decide)
    · exact mulL_lt b l _ x h
theorem mulC_lt (b : Nat) (hb : b < 18446744073709551616) : ∀ (l : List Nat) (c : Nat), (∀ x ∈ l, x < 18446744073709551616) → c < 18446744073709551616 → mulC l b c < 18446744073709551616
  | [], _, _, hc => hc
  | a :: l, c, hl, hc => by
    refine mulC_lt b hb l _ (fun x hx => hl x (by simp [hx])) ?_
    have ha := hl a (by simp)
    refine (Nat.div_lt_iff_lt_mul (by decide)).2 ?_
    have h1 : a * b ≤ (18446744073709551616 - 1) * (18446744073709551616 - 1) := Nat.mul_le_mul (by omega) (by omega)
    omega
theorem val_mulL (b : Nat) : ∀ (l : List Nat) (c : Nat), val (mulL l b c) + 18446744073709551616 ^ l.length * mulC l b c = val l * b + c
  | [], c => by simp [val, mulL, mulC]
  | a :: l, c => by
    have ih := val_mulL b l ((a * b + c) / 18446744073709551616)
    have h := Nat.div_add_mod (a * b + c) 18446744073709551616
    simp only [val, mulL, mulC, List.length_cons, Nat.pow_succ]
    have e1 : (a + 18446744073709551616 * val l) * b + c = (a * b + c) + 18446744073709551616 * (val l * b) := by
      rw [Nat.add_mul, Nat.mul_assoc]; omega
    have e2 : 18446744073709551616 ^ l.length * 18446744073709551616 * mulC l b ((a * b + c) / 18446744073709551616) = 18446744073709551616 * (18446744073709551616 ^ l.length * mulC l b ((a * b + c) / 18446744073709551616)) := by
      rw [Nat.mul_comm (18446744073709551616 ^ l.length) 18446744073709551616, Nat.mul_assoc]
    rw [e1, e2, Nat.add_assoc, ← Nat.mul_add, ih, Nat.mul_add]
    omega
def addL : List Nat → List Nat → Nat → List Nat
  | a :: l, b :: r, c => (a + b + c) % 18446744073709551616 :: addL l r ((a + b + c) / 18446744073709551616)
  | _, _, _ => []
def addC : List Nat → List Nat → Nat → Nat
  | a :: l, b :: r, c => addC l r ((a + b + c) / 18446744073709551616)
  | _, _, c => c
theorem addL_append (a b : Nat) : ∀ (l r : List Nat) (c : Nat), l.length = r.length → addL (l ++ [a]) (r ++ [b]) c = addL l r c ++ [(a + b + addC l r c) % 18446744073709551616]
  | [], [], _, _ => rfl
  | x :: l, y :: r, c, h => by simp only [List.cons_append, addL, addC, addL_append a b l r _ (by simpa using h)]
theorem addC_append (a b : Nat) : ∀ (l r : List Nat) (c : Nat), l.length = r.length → addC (l ++ [a]) (r ++ [b]) c = (a + b + addC l r c) / 18446744073709551616
  | [], [], _, _ => rfl
  | x :: l, y :: r, c, h => by simp only [List.cons_append, addC, addC_append a b l r _ (by simpa using h)]
theorem addL_length : ∀ (l r : List Nat) (c : Nat), l.length = r.length → (addL l r c).length = l.length
  | [], [], _, _ => rfl
  | x :: l, y :: r, c, h => by simp only [addL, List.length_cons, addL_length l r _ (by simpa using h)]
theorem addL_lt : ∀ (l r : List Nat) (c : Nat), ∀ x ∈ addL l r c, x < 18446744073709551616
  | [], [], _, x, h => by cases h
  | [], _ :: _, _, x, h => by cases h
  | _ :: _, [], _, x, h => by cases h
  | a :: l, b :: r, c, x, h => by
    rcases List.mem_cons.1 h with rfl | h
    · exact Nat.mod_lt _ (by decide)
    · exact addL_lt l r _ x h
theorem addC_le : ∀ (l r : List Nat) (c : Nat), (∀ x ∈ l, x < 18446744073709551616) → (∀ x ∈ r, x < 18446744073709551616) → c ≤ 1 → addC l r c ≤ 1
  | [], [], _, _, _, hc => hc
  | [], _ :: _, _, _, _, hc => hc
  | _ :: _, [], _, _, _, hc => hc
  | a :: l, b :: r, c, hl, hr, hc => by
    refine addC_le l r _ (fun x hx => hl x (by simp [hx])) (fun x hx => hr x (by simp [hx])) ?_
    have ha := hl a (by simp)
    have hb := hr b (by simp)
    omega
theorem val_addL : ∀ (l r : List Nat) (c : Nat), l.length = r.length → val (addL l r c) + 18446744073709551616 ^ l.length * addC l r c = val l + val r + c
  | [], [], c, _ => by simp [val, addL, addC]
  | a :: l, b :: r, c, h => by
    have ih := val_addL l r ((a + b + c) / 18446744073709551616) (by simpa using h)
    have h := Nat.div_add_mod (a + b + c) 18446744073709551616
    simp only [val, addL, addC, List.length_cons, Nat.pow_succ]
    have e2 : 18446744073709551616 ^ l.length * 18446744073709551616 * addC l r ((a + b + c) / 18446744073709551616) = 18446744073709551616 * (18446744073709551616 ^ l.length * addC l r ((a + b + c) / 18446744073709551616)) := by
      rw [Nat.mul_comm (18446744073709551616 ^ l.length) 18446744073709551616, Nat.mul_assoc]
    rw [e2, Nat.add_assoc, ← Nat.mul_add, ih, Nat.mul_add, Nat.mul_add]
    omega
theorem val_lt : ∀ (l : List Nat), (∀ x ∈ l, x < 18446744073709551616) → val l < 18446744073709551616 ^ l.length
  | [], _ => by simp [val]
  | a :: l, h => by
    have ih := val_lt l (fun x hx => h x (by simp [hx]))
    have ha := h a (by simp)
    simp only [val, List.length_cons, Nat.pow_succ]
    have : 18446744073709551616 * (val l + 1) ≤ 18446744073709551616 * 18446744073709551616 ^ l.length := Nat.mul_le_mul_left _ ih
    rw [Nat.mul_comm (18446744073709551616 ^ l.length)]
    rw [Nat.mul_add] at this
    omega
theorem val_append : ∀ (l r : List Nat), val (l ++ r) = val l + 18446744073709551616 ^ l.length * val r
  | [], r => by simp [val]
  | a :: l, r => by
    simp only [List.cons_append, val, val_append l r, List.length_cons, Nat.pow_succ, Nat.mul_add]
    rw [Nat.mul_comm (18446744073709551616 ^ l.length) 18446744073709551616, Nat.mul_assoc]; omega
/-- What has room is not cut. -/
theorem val_mulL' {l : List Nat} {b c : Nat} (h : val l * b + c < 18446744073709551616 ^ l.length) : val (mulL l b c) = val l * b + c := by
  have h1 := val_mulL b l c
  rcases Nat.eq_zero_or_pos (mulC l b c) with h2 | h2
  · rw [h2] at h1; omega
  · have : 18446744073709551616 ^ l.length * 1 ≤ 18446744073709551616 ^ l.length * mulC l b c := Nat.mul_le_mul_left _ h2
    omega
theorem val_addL' {l r : List Nat} {c : Nat} (hl : l.length = r.length) (h : val l + val r + c < 18446744073709551616 ^ l.length) : val (addL l r c) = val l + val r + c := by
  have h1 := val_addL l r c hl
  rcases Nat.eq_zero_or_pos (addC l r c) with h2 | h2
  · rw [h2] at h1; omega
  · have : 18446744073709551616 ^ l.length * 1 ≤ 18446744073709551616 ^ l.length * addC l r c := Nat.mul_le_mul_left _ h2
    omega

/-! Roots, bit by bit. -/
def greedy (p : Nat → Bool) : Nat → Nat → Nat
  | 0, x => x
  | b + 1, x => greedy p b (if p (x + 2 ^ b) then x + 2 ^ b else x)
theorem greedy_spec {p : Nat → Bool} : ∀ (b x : Nat), p x = true → p (x + 2 ^ b) = false → p (greedy p b x) = true ∧ p (greedy p b x + 1) = false
  | 0, x, h1, h2 => ⟨h1, h2⟩
  | b + 1, x, h1, h2 => by
    unfold greedy
    by_cases h : p (x + 2 ^ b) = true
    · rw [if_pos h]
      exact greedy_spec b _ h (by rw [Nat.add_assoc, ← Nat.two_mul, ← Nat.pow_succ']; exact h2)
    · rw [if_neg h]
      exact greedy_spec b _ h1 (by simpa using h)
theorem root_unique {p : Nat → Bool} (hd : ∀ a b, a ≤ b → p b = true → p a = true) {r s : Nat} (h1 : p r = true) (h2 : p (r + 1) = false) (h3 : p s = true) (h4 : p (s + 1) = false) : r = s := by
  rcases Nat.lt_trichotomy r s with h | h | h
  · rw [hd _ _ h h3] at h2; cases h2
  · exact h
  · rw [hd _ _ h h1] at h4; cases h4
/-- Not above n by 2^(64 k). -/
def rootP (n k x : Nat) : Bool := decide (x ^ k ≤ n * 18446744073709551616 ^ k)
theorem rootP_down (n k : Nat) : ∀ a b, a ≤ b → rootP n k b = true → rootP n k a = true := fun a b h hb => by
  simp only [rootP, decide_eq_true_eq] at hb ⊢
  exact Nat.le_trans (Nat.pow_le_pow_left h k) hb
theorem rootP_zero (n k : Nat) (hk : 0 < k) : rootP n k 0 = true := by
  simp [rootP, Nat.zero_pow hk]
theorem rootP_big (n k b : Nat) (hn : n < 4294967296) (hk : 2 ≤ k) (hb : 80 ≤ b) : rootP n k (0 + 2 ^ b) = false := by
  simp only [rootP, decide_eq_false_iff_not, Nat.not_le, Nat.zero_add]
  have h1 : (2 ^ 80) ^ k ≤ (2 ^ b) ^ k := Nat.pow_le_pow_left (Nat.pow_le_pow_right (by decide) hb) k
  have h2 : (2 ^ 80) ^ k = 18446744073709551616 ^ k * (2 ^ 16) ^ k := by rw [← Nat.mul_pow]
  have h3 : (2 ^ 16) ^ 2 ≤ (2 ^ 16) ^ k := Nat.pow_le_pow_right (by decide) hk
  have h4 : n * 18446744073709551616 ^ k < (2 ^ 16) ^ 2 * 18446744073709551616 ^ k := Nat.mul_lt_mul_of_pos_right (by omega) (Nat.pow_pos (by decide))
  have h5 : (2 ^ 16) ^ 2 * 18446744073709551616 ^ k ≤ 18446744073709551616 ^ k * (2 ^ 16) ^ k := by rw [Nat.mul_comm]; exact Nat.mul_le_mul_left _ h3
  omega
/-- The root, of as many bits as there are. -/
def root (n k : Nat) : Nat := greedy (rootP n k) 80 0
theorem root_spec {n k : Nat} (hn : n < 4294967296) (hk : 2 ≤ k) : (root n k) ^ k ≤ n * 18446744073709551616 ^ k ∧ n * 18446744073709551616 ^ k < (root n k + 1) ^ k := by
  have := greedy_spec 80 0 (rootP_zero n k (by omega)) (rootP_big n k 80 hn hk (by decide))
  simp only [rootP, decide_eq_true_eq, decide_eq_false_iff_not, Nat.not_le] at this
  exact this
theorem root_more {n k b : Nat} (hn : n < 4294967296) (hk : 2 ≤ k) (hb : 80 ≤ b) : greedy (rootP n k) b 0 = root n k := by
  have h1 := greedy_spec b 0 (rootP_zero n k (by omega)) (rootP_big n k b hn hk hb)
  have h2 := greedy_spec 80 0 (rootP_zero n k (by omega)) (rootP_big n k 80 hn hk (by decide))
  exact root_unique (rootP_down n k) h1.1 h1.2 h2.1 h2.2
end Go.Proofs.Ytpjedpmbninfcaa
