/-
  Plain mathematics of the bytes of numbers: no program in sight.
-/
import Derived.Lib.BitFns
import Derived.Laws.BitsAllLaws
namespace Go.Proofs.Ytpjedpmbninfcaa

/-- How many bytes a number has. -/
def room (n : Nat) : Nat :=
  if n < 128 then 1 else if n < 16384 then 2 else if n < 2097152 then 3 else if n < 268435456 then 4 else if n < 34359738368 then 5
  else if n < 4398046511104 then 6 else if n < 562949953421312 then 7 else if n < 72057594037927936 then 8 else 9

theorem room_pos (n : Nat) : 1 ≤ room n ∧ room n ≤ 9 := by
  unfold room
  refine ⟨?_, ?_⟩ <;> (repeat' split) <;> omega

theorem or_one (n : Nat) : n ||| 1 = n / 2 * 2 + 1 := by
  rcases Nat.mod_two_eq_zero_or_one n with h | h
  · rw [nat_join 1 n 1 (by simpa using h) (by omega)]; omega
  · have e : n = (n - 1) ||| 1 := by rw [nat_join 1 (n - 1) 1 (by simp; omega) (by omega)]; omega
    have e2 : n ||| 1 = n := by
      have : n ||| 1 = (n - 1) ||| 1 ||| 1 := by rw [← e]
      rw [this, Nat.or_assoc, Nat.or_self, ← e]
    rw [e2]; omega

theorem bl_lo (k x : Nat) (h : 2 ^ k ≤ x) (hx : x < 2 ^ 64) : k + 1 ≤ Lib.bitLen x := by
  rw [Lib.bitLen_shift k x h hx]
  have h1 : 1 ≤ x / 2 ^ k := (Nat.one_le_div_iff (Nat.two_pow_pos k)).2 h
  have h2 : x / 2 ^ k < 2 ^ 64 := Nat.lt_of_le_of_lt (Nat.div_le_self _ _) hx
  rw [Lib.bitLen_half _ (by omega) h2]
  omega

theorem size_room (n : Nat) (h : n < 18446744073709551616) : min (((Lib.bitLen (n ||| 1) : Int) + 6) / 7) 9 = (room n : Int) := by
  have hy := or_one n
  generalize n ||| 1 = y at *
  have y1 : y ≤ n + 1 := by omega
  have y2 : n ≤ y := by omega
  have y3 : y < 2 ^ 64 := by simp; omega
  have hodd : y % 2 = 1 := by omega
  clear hy
  have lo := fun k hk => bl_lo k y hk y3
  have hi := fun k hk hx => Lib.bitLen_le y k hk hx
  unfold room
  split
  · have := lo 0 (by simp; omega); have := hi 7 (by omega) (by simp; omega); omega
  split
  · have := lo 7 (by simp; omega); have := hi 14 (by omega) (by simp; omega); omega
  split
  · have := lo 14 (by simp; omega); have := hi 21 (by omega) (by simp; omega); omega
  split
  · have := lo 21 (by simp; omega); have := hi 28 (by omega) (by simp; omega); omega
  split
  · have := lo 28 (by simp; omega); have := hi 35 (by omega) (by simp; omega); omega
  split
  · have := lo 35 (by simp; omega); have := hi 42 (by omega) (by simp; omega); omega
  split
  · have := lo 42 (by simp; omega); have := hi 49 (by omega) (by simp; omega); omega
  split
  · have := lo 49 (by simp; omega); have := hi 56 (by omega) (by simp; omega); omega
  · have := lo 56 (by simp; omega); omega

/-- The low j bytes of a number, the highest first. -/
def beB : Nat → Nat → List UInt8
  | 0, _ => []
  | j + 1, n => UInt8.ofNat (n / 256 ^ j) :: beB j n
theorem beB_length : ∀ j n, (beB j n).length = j
  | 0, _ => rfl
  | j + 1, n => by simp [beB, beB_length j n]

/-- The first of k bytes. -/
def first (k n : Nat) : UInt8 := UInt8.ofNat (256 - 2 ^ (9 - k) + n / 256 ^ (k - 1))
/-- The bytes of a number. -/
def enc (n : Nat) : List UInt8 := first (room n) n :: beB (room n - 1) n
theorem enc_length (n : Nat) : (enc n).length = room n := by
  have := room_pos n
  simp [enc, beB_length]; omega

/-- The low k bytes of a number, the lowest first. -/
def leB : Nat → Nat → List UInt8
  | 0, _ => []
  | k + 1, n => leB k n ++ [UInt8.ofNat (n / 256 ^ k)]
theorem leB_length : ∀ k n, (leB k n).length = k
  | 0, _ => rfl
  | k + 1, n => by simp [leB, leB_length k n]

def clampN (size : Int) : Nat := (max 1 (min size 8)).toNat
theorem clampN_bd (size : Int) : 1 ≤ clampN size ∧ clampN size ≤ 8 ∧ max 1 (min size 8) = (clampN size : Int) := by unfold clampN; omega

/-- A Go byte of a shifted number. -/
theorem byte_shift (n j : Nat) (hj : j ≤ 8) : IntKind.u8.wrap ((n : Int) / 2 ^ min (8 * (j : Int)).toNat IntKind.u64.bits) = ((UInt8.ofNat (n / 256 ^ j)).toNat : Int) := by
  have e : min (8 * (j : Int)).toNat IntKind.u64.bits = 8 * j := by
    show min (8 * (j : Int)).toNat 64 = 8 * j
    omega
  rw [e, UInt8.toNat_ofNat', IntKind.wrap_u8', show (256 : Nat) ^ j = 2 ^ (8 * j) from by rw [Nat.pow_mul]]
  rw [show ((2 : Int) ^ (8 * j)) = ((2 ^ (8 * j) : Nat) : Int) from by simp, ← Int.natCast_ediv]
  generalize n / 2 ^ (8 * j) = q
  omega

theorem room_lt (n : Nat) (h : n < 18446744073709551616) : n / 256 ^ (room n - 1) < 2 ^ (8 - room n) := by
  unfold room
  repeat' split
  all_goals (simp; omega)

theorem first_byte (n : Nat) (h : n < 18446744073709551616) :
    bits .or .u8 (IntKind.u8.wrap (255 * 2 ^ min (9 - (room n : Int)).toNat IntKind.u8.bits)) (IntKind.u8.wrap ((n : Int) / 2 ^ min (8 * ((room n : Int) - 1)).toNat IntKind.u64.bits)) = ((first (room n) n).toNat : Int) := by
  have hk := room_pos n
  have hlt := room_lt n h
  have e1 : (8 * ((room n : Int) - 1)) = 8 * ((room n - 1 : Nat) : Int) := by omega
  rw [e1, byte_shift n (room n - 1) (by omega)]
  unfold first
  generalize hq : n / 256 ^ (room n - 1) = q at *
  have hq256 : q < 256 := Nat.lt_of_lt_of_le hlt (Nat.pow_le_pow_right (by omega) (show 8 - room n ≤ 8 by omega))
  have e2 : (IntKind.u8.wrap (255 * 2 ^ min (9 - (room n : Int)).toNat IntKind.u8.bits)) = ((256 - 2 ^ (9 - room n) : Nat) : Int) := by
    have h3 : ∀ k : Fin 10, 1 ≤ k.val → (IntKind.u8.wrap (255 * 2 ^ min (9 - (k.val : Int)).toNat IntKind.u8.bits)) = ((256 - 2 ^ (9 - k.val) : Nat) : Int) := by decide +kernel
    exact h3 ⟨room n, by omega⟩ hk.1
  rw [e2, UInt8.toNat_ofNat', UInt8.toNat_ofNat', Nat.mod_eq_of_lt hq256]
  have h5 : 2 ^ (8 - room n) ≤ 2 ^ (9 - room n) := Nat.pow_le_pow_right (by omega) (by omega)
  have h6 : 2 ^ (9 - room n) ≤ 256 := Nat.pow_le_pow_right (show 0 < 2 by omega) (show 9 - room n ≤ 8 by omega)
  have h7 : 0 < 2 ^ (9 - room n) := Nat.two_pow_pos _
  rw [u8_or_nat _ _ (by omega) hq256, nat_join (9 - room n) _ _ ?_ (by omega)]
  · omega
  · have h8 : 256 = 2 ^ (9 - room n) * 2 ^ (room n - 1) := by rw [← Nat.pow_add, show 9 - room n + (room n - 1) = 8 from by omega]
    have h9 : 256 - 2 ^ (9 - room n) = 2 ^ (9 - room n) * (2 ^ (room n - 1) - 1) := by rw [Nat.mul_sub, ← h8, Nat.mul_one]
    rw [h9]; exact Nat.mul_mod_right _ _

/-! What a reader does, on what is left and its error (ErrBad 4, ErrMore 5). -/
def lead (c : UInt8) : Nat := if c.toNat < 128 then 1 else if c.toNat < 192 then 2 else if c.toNat < 224 then 3 else if c.toNat < 240 then 4 else if c.toNat < 248 then 5 else if c.toNat < 252 then 6
  else if c.toNat < 254 then 7 else if c.toNat < 255 then 8 else 9
theorem lead_bd (c : UInt8) : 1 ≤ lead c ∧ lead c ≤ 9 := by
  unfold lead
  refine ⟨?_, ?_⟩ <;> (repeat' split) <;> omega
def beVal (n : Nat) (l : List UInt8) : Nat := l.foldl (fun a c => a * 256 + c.toNat) n
def leVal : List UInt8 → Nat
  | [] => 0
  | c :: r => c.toNat + 256 * leVal r
abbrev RS := List UInt8 × Nat
def rTake (n : Nat) (s : RS) : List UInt8 × RS := if s.2 ≠ 0 then ([], s) else if s.1.length < n then ([], (s.1, 5)) else (s.1.take n, (s.1.drop n, 0))
def rNumber (s : RS) : Nat × RS := if s.2 ≠ 0 then (0, s) else match s.1 with
  | [] => (0, ([], 5))
  | c :: t => if t.length + 1 < lead c then (0, (s.1, 5))
    else if room (beVal (c.toNat % 2 ^ (8 - lead c)) (t.take (lead c - 1))) = lead c then (beVal (c.toNat % 2 ^ (8 - lead c)) (t.take (lead c - 1)), (t.drop (lead c - 1), 0))
    else (0, (s.1, 4))
def rBlock (s : RS) : List UInt8 × RS :=
  if (rNumber s).2.2 ≠ 0 then ([], (s.1, (rNumber s).2.2)) else if (rNumber s).2.1.length < (rNumber s).1 then ([], (s.1, 5)) else ((rNumber s).2.1.take (rNumber s).1, ((rNumber s).2.1.drop (rNumber s).1, 0))
def rWord (size : Int) (s : RS) : Nat × RS := (leVal (rTake (clampN size) s).1, (rTake (clampN size) s).2)
def nulls (n : Nat) : List UInt8 := List.replicate n 0
def rDigest (s : RS) : List UInt8 × RS := (if (rTake 32 s).2.2 ≠ 0 then nulls 32 else (rTake 32 s).1, (rTake 32 s).2)
def rEnd (s : RS) : Nat := if s.2 ≠ 0 then s.2 else if s.1 ≠ [] then 4 else 0

theorem rNumber_err {s : List UInt8} {e : Nat} (h : e ≠ 0) : rNumber (s, e) = (0, (s, e)) := by simp [rNumber, h]
theorem rNumber_nil : rNumber ([], 0) = (0, ([], 5)) := by simp [rNumber]
theorem rNumber_more {c : UInt8} {t : List UInt8} (h : t.length + 1 < lead c) : rNumber (c :: t, 0) = (0, (c :: t, 5)) := by simp [rNumber, h]
theorem rNumber_bad {c : UInt8} {t : List UInt8} (h : ¬ t.length + 1 < lead c) (h2 : room (beVal (c.toNat % 2 ^ (8 - lead c)) (t.take (lead c - 1))) ≠ lead c) : rNumber (c :: t, 0) = (0, (c :: t, 4)) := by simp [rNumber, h, h2]
theorem rNumber_ok {c : UInt8} {t : List UInt8} (h : ¬ t.length + 1 < lead c) (h2 : room (beVal (c.toNat % 2 ^ (8 - lead c)) (t.take (lead c - 1))) = lead c) :
    rNumber (c :: t, 0) = (beVal (c.toNat % 2 ^ (8 - lead c)) (t.take (lead c - 1)), (t.drop (lead c - 1), 0)) := by simp [rNumber, h, h2]

theorem beVal_snoc (n : Nat) (l : List UInt8) (c : UInt8) : beVal n (l ++ [c]) = beVal n l * 256 + c.toNat := by simp [beVal]
theorem beVal_lt : ∀ (l : List UInt8) (n k : Nat), n < 2 ^ k → beVal n l < 2 ^ (k + 8 * l.length)
  | [], n, k, h => by simpa [beVal] using h
  | c :: l, n, k, h => by
    have h1 : n * 256 + c.toNat < 2 ^ (k + 8) := by
      have := c.toNat_lt
      rw [Nat.pow_add]
      omega
    have := beVal_lt l (n * 256 + c.toNat) (k + 8) h1
    have e : beVal n (c :: l) = beVal (n * 256 + c.toNat) l := rfl
    rw [e, List.length_cons, show k + 8 * (l.length + 1) = k + 8 + 8 * l.length from by omega]
    exact this
theorem beVal_u64 (c : UInt8) (l : List UInt8) (h : l.length ≤ lead c - 1) : beVal (c.toNat % 2 ^ (8 - lead c)) l < 18446744073709551616 := by
  have hk := lead_bd c
  have h1 := beVal_lt l (c.toNat % 2 ^ (8 - lead c)) (8 - lead c) (Nat.mod_lt _ (Nat.two_pow_pos _))
  exact Nat.lt_of_lt_of_le h1 (Nat.pow_le_pow_right (by omega) (show 8 - lead c + 8 * l.length ≤ 64 by omega))
/-- The bits behind the first ones. -/
theorem mask_byte (c : UInt8) : bits .and .u8 (c.toNat : Int) (255 / 2 ^ min ((lead c : Int)).toNat IntKind.u8.bits) = ((c.toNat % 2 ^ (8 - lead c) : Nat) : Int) := by
  have : ∀ c : Fin 256, bits .and .u8 (c.val : Int) (255 / 2 ^ min ((lead (UInt8.ofNat c.val) : Int)).toNat IntKind.u8.bits) = ((c.val % 2 ^ (8 - lead (UInt8.ofNat c.val)) : Nat) : Int) := by decide +kernel
  simpa using this ⟨c.toNat, c.toNat_lt⟩
/-- One more byte. -/
theorem join_byte (n : Nat) (c : UInt8) (h : n * 256 < 18446744073709551616) : bits .or .u64 (IntKind.u64.wrap ((n : Int) * 2 ^ min ((8 : Int)).toNat IntKind.u64.bits)) (c.toNat : Int) = ((n * 256 + c.toNat : Nat) : Int) := by
  have hc := c.toNat_lt
  have e : IntKind.u64.wrap ((n : Int) * 2 ^ min ((8 : Int)).toNat IntKind.u64.bits) = ((n * 256 : Nat) : Int) := by
    show ((n : Int) * 256) % 18446744073709551616 = _
    omega
  rw [e, u64_or_nat _ _ h (by omega), nat_join 8 _ _ (by simp) (by simpa using hc)]

theorem leVal_snoc : ∀ (l : List UInt8) (c : UInt8), leVal (l ++ [c]) = leVal l + c.toNat * 256 ^ l.length
  | [], c => by simp [leVal]
  | d :: l, c => by
    simp only [List.cons_append, leVal, leVal_snoc l c, List.length_cons, Nat.pow_succ]
    generalize 256 ^ l.length = q
    rw [Nat.mul_add, Nat.mul_left_comm, Nat.mul_comm 256 q]
    omega
theorem leVal_lt : ∀ l : List UInt8, leVal l < 256 ^ l.length
  | [] => by simp [leVal]
  | c :: l => by
    have h1 := leVal_lt l
    have h2 := c.toNat_lt
    simp only [leVal, List.length_cons, Nat.pow_succ]
    omega
/-- One more byte, the lowest first. -/
theorem or_byte (l : List UInt8) (c : UInt8) (h : l.length < 8) :
    bits .or .u64 (leVal l : Int) (IntKind.u64.wrap ((c.toNat : Int) * 2 ^ min (8 * (l.length : Int)).toNat IntKind.u64.bits)) = (leVal (l ++ [c]) : Int) := by
  have hc := c.toNat_lt
  have h1 := leVal_lt l
  have e1 : min (8 * (l.length : Int)).toNat IntKind.u64.bits = 8 * l.length := by
    show min (8 * (l.length : Int)).toNat 64 = 8 * l.length
    omega
  have hp : (256 : Nat) ^ l.length = 2 ^ (8 * l.length) := by rw [Nat.pow_mul]
  have hle : 2 ^ (8 * l.length) ≤ 2 ^ 56 := Nat.pow_le_pow_right (by omega) (by omega)
  have hq : c.toNat * 2 ^ (8 * l.length) < 18446744073709551616 := by
    have : c.toNat * 2 ^ (8 * l.length) ≤ 255 * 2 ^ 56 := Nat.mul_le_mul (by omega) hle
    omega
  rw [hp] at h1
  have e2 : IntKind.u64.wrap ((c.toNat : Int) * 2 ^ (8 * l.length)) = ((c.toNat * 2 ^ (8 * l.length) : Nat) : Int) := by
    have e3 : ((c.toNat : Int) * 2 ^ (8 * l.length)) = ((c.toNat * 2 ^ (8 * l.length) : Nat) : Int) := by simp
    rw [e3]
    show ((c.toNat * 2 ^ (8 * l.length) : Nat) : Int) % 18446744073709551616 = _
    omega
  rw [e1, e2, u64_or_nat _ _ (by omega) hq, Nat.or_comm, nat_join (8 * l.length) _ _ (Nat.mul_mod_left _ _) h1, leVal_snoc, hp, Nat.add_comm]
theorem leVal_u64 (l : List UInt8) (h : l.length ≤ 8) : leVal l < 18446744073709551616 :=
  Nat.lt_of_lt_of_le (leVal_lt l) (Nat.le_trans (Nat.pow_le_pow_right (by omega) h) (by decide))
end Go.Proofs.Ytpjedpmbninfcaa
