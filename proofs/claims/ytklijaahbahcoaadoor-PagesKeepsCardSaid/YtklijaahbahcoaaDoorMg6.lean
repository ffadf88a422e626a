/-
  Plain mathematics of the bytes of numbers: no program in sight.
-/
import Derived.Test.YtklijaahbahcoaaDoorMg5
import Derived.Lib.BitFns
import Derived.Laws.BitsAllLaws
import GoSem.Op.String
import Derived.OpenShut
namespace Go.Proofs.YtklijaahbahcoaaDoor
set_option maxRecDepth 100000

/-- How many bytes a number has. -/
def room (n : Nat) : Nat :=
  if n < 128 then 1 else if n < 16384 then 2 else if n < 2097152 then 3 else if n < 268435456 then 4 else if n < 34359738368 then 5
  else if n < 4398046511104 then 6 else if n < 562949953421312 then 7 else if n < 72057594037927936 then 8 else 9

theorem room_pos (n : Nat) : 1 ≤ room n ∧ room n ≤ 9 := by
  unfold room
  refine ⟨?_, ?_⟩ <;> (repeat' split) <;> omega

theorem or_one (n : Nat) : n ||| 1 = n / 2 * 2 + 1 := by
  rcases Nat.mod_two_eq_zero_or_one n with h | h
  · rw [nat_join 1 n 1 (by simpa using h) (by omega)]; omega
  · have e : n = (n - 1) ||| 1 := by rw [nat_join 1 (n - 1) 1 (by simp; omega) (by omega)]; omega
    have e2 : n ||| 1 = n := by
      have : n ||| 1 = (n - 1) ||| 1 ||| 1 := by rw [← e]
      rw [this, Nat.or_assoc, Nat.or_self, ← e]
    rw [e2]; omega

theorem bl_lo (k x : Nat) (h : 2 ^ k ≤ x) (hx : x < 2 ^ 64) : k + 1 ≤ Lib.bitLen x := by
  rw [Lib.bitLen_shift k x h hx]
  have h1 : 1 ≤ x / 2 ^ k := (Nat.one_le_div_iff (Nat.two_pow_pos k)).2 h
  have h2 : x / 2 ^ k < 2 ^ 64 := Nat.lt_of_le_of_lt (Nat.div_le_self _ _) hx
  rw [Lib.bitLen_half _ (by omega) h2]
  omega

theorem size_room (n : Nat) (h : n < 18446744073709551616) : min (((Lib.bitLen (n ||| 1) : Int) + 6) / 7) 9 = (room n : Int) := by
  have hy := or_one n
  generalize n ||| 1 = y at *
  have y1 : y ≤ n + 1 := by omega
  have y2 : n ≤ y := by omega
  have y3 : y < 2 ^ 64 := by simp; omega
  have hodd : y % 2 = 1 := by omega
  clear hy
  have lo := fun k hk => bl_lo k y hk y3
  have hi := fun k hk hx => Lib.bitLen_le y k hk hx
  unfold room
  split
  · have := lo 0 (by simp; omega); have := hi 7 (by omega) (by simp; omega); omega
  split
  · have := lo 7 (by simp; omega); have := hi 14 (by omega) (by simp; omega); omega
  split
  · have := lo 14 (by simp; omega); have := hi 21 (by omega) (by simp; omega); omega
  split
  · have := lo 21 (by simp; omega); have := hi 28 (by omega) (by simp; omega); omega
  split
  · have := lo 28 (by simp; omega); have := hi 35 (by omega) (by simp; omega); omega
  split
  · have := lo 35 (by simp; omega); have := hi 42 (by omega) (by simp; omega); omega
  split
  · have := lo 42 (by simp; omega); have := hi 49 (by omega) (by simp; omega); omega
  split
  · have := lo 49 (by simp; omega); have := hi 56 (by omega) (by simp; omega); omega
  · have := lo 56 (by simp; omega); omega

/-- The low j bytes of a number, the highest first. -/
def beB : Nat → Nat → List UInt8
  | 0, _ => []
  | j + 1, n => UInt8.ofNat (n / 256 ^ j) :: beB j n
theorem beB_length : ∀ j n, (beB j n).length = j
  | 0, _ => rfl
  | j + 1, n => by simp [beB, beB_length j n]

/-- The first of k bytes. -/
def first (k n : Nat) : UInt8 := UInt8.ofNat (256 - 2 ^ (9 - k) + n / 256 ^ (k - 1))
/-- The bytes of a number. -/
def enc (n : Nat) : List UInt8 := first (room n) n :: beB (room n - 1) n
theorem enc_length (n : Nat) : (enc n).length = room n := by
  have := room_pos n
  simp [enc, beB_length]; omega

/-- The low k bytes of a number, the lowest first. -/
def leB : Nat → Nat → List UInt8
  | 0, _ => []
  | k + 1, n => leB k n ++ [UInt8.ofNat (n / 256 ^ k)]
theorem leB_length : ∀ k n, (leB k n).length = k
  | 0, _ => rfl
  | k + 1, n => by simp [leB, leB_length k n]

def clampN (size : Int) : Nat := (max 1 (min size 8)).toNat
theorem clampN_bd (size : Int) : 1 ≤ clampN size ∧ clampN size ≤ 8 ∧ max 1 (min size 8) = (clampN size : Int) := by unfold clampN; omega

/-- A Go byte of a shifted number. -/
theorem byte_shift (n j : Nat) (hj : j ≤ 8) : IntKind.u8.wrap ((n : Int) / 2 ^ min (8 * (j : Int)).toNat IntKind.u64.bits) = ((UInt8.ofNat (n / 256 ^ j)).toNat : Int) := by
  have e : min (8 * (j : Int)).toNat IntKind.u64.bits = 8 * j := by
    show min (8 * (j : Int)).toNat 64 = 8 * j
    omega
  rw [e, UInt8.toNat_ofNat', IntKind.wrap_u8', show (256 : Nat) ^ j = 2 ^ (8 * j) from by rw [Nat.pow_mul]]
  rw [show ((2 : Int) ^ (8 * j)) = ((2 ^ (8 * j) : Nat) : Int) from by simp, ← Int.natCast_ediv]
  generalize n / 2 ^ (8 * j) = q
  omega

theorem room_lt (n : Nat) (h : n < 18446744073709551616) : n / 256 ^ (room n - 1) < 2 ^ (8 - room n) := by
  unfold room
  repeat' split
  all_goals (simp; omega)

theorem first_byte (n : Nat) (h : n < 18446744073709551616) :
    bits .or .u8 (IntKind.u8.wrap (255 * 2 ^ min (9 - (room n : Int)).toNat IntKind.u8.bits)) (IntKind.u8.wrap ((n : Int) / 2 ^ min (8 * ((room n : Int) - 1)).toNat IntKind.u64.bits)) = ((first (room n) n).toNat : Int) := by
  have hk := room_pos n
  have hlt := room_lt n h
  have e1 : (8 * ((room n : Int) - 1)) = 8 * ((room n - 1 : Nat) : Int) := by omega
  rw [e1, byte_shift n (room n - 1) (by omega)]
  unfold first
  generalize hq : n / 256 ^ (room n - 1) = q at *
  have hq256 : q < 256 := Nat.lt_of_lt_of_le hlt (Nat.pow_le_pow_right (by omega) (show 8 - room n ≤ 8 by omega))
  have e2 : (IntKind.u8.wrap (255 * 2 ^ min (9 - (room n : Int)).toNat IntKind.u8.bits)) = ((256 - 2 ^ (9 - room n) : Nat) : Int) := by
    have h3 : ∀ k : Fin 10, 1 ≤ k.val → (IntKind.u8.wrap (255 * 2 ^ min (9 - (k.val : Int)).toNat IntKind.u8.bits)) = ((256 - 2 ^ (9 - k.val) : Nat) : Int) := by decide +kernel
    exact h3 ⟨room n, by omega⟩ hk.1
  rw [e2, UInt8.toNat_ofNat', UInt8.toNat_ofNat', Nat.mod_eq_of_lt hq256]
  have h5 : 2 ^ (8 - room n) ≤ 2 ^ (9 - room n) := Nat.pow_le_pow_right (by omega) (by omega)
  have h6 : 2 ^ (9 - room n) ≤ 256 := Nat.pow_le_pow_right (show 0 < 2 by omega) (show 9 - room n ≤ 8 by omega)
  have h7 : 0 < 2 ^ (9 - room n) := Nat.two_pow_pos _
  rw [u8_or_nat _ _ (by omega) hq256, nat_join (9 - room n) _ _ ?_ (by omega)]
  · omega
  · have h8 : 256 = 2 ^ (9 - room n) * 2 ^ (room n - 1) := by rw [← Nat.pow_add, show 9 - room n + (room n - 1) = 8 from by omega]
    have h9 : 256 - 2 ^ (9 - room n) = 2 ^ (9 - room n) * (2 ^ (room n - 1) - 1) := by rw [Nat.mul_sub, ← h8, Nat.mul_one]
    rw [h9]; exact Nat.mul_mod_right _ _

/-! What a reader does, on what is left and its error (ErrBad 4, ErrMore 5). -/
def lead (c : UInt8) : Nat := if c.toNat < 128 then 1 else if c.toNat < 192 then 2 else if c.toNat < 224 then 3 else if c.toNat < 240 then 4 else if c.toNat < 248 then 5 else if c.toNat < 252 then 6
  else if c.toNat < 254 then 7 else if c.toNat < 255 then 8 else 9
theorem lead_bd (c : UInt8) : 1 ≤ lead c ∧ lead c ≤ 9 := by
  unfold lead
  refine ⟨?_, ?_⟩ <;> (repeat' split) <;> omega
def beVal (n : Nat) (l : List UInt8) : Nat := l.foldl (fun a c => a * 256 + c.toNat) n
def leVal : List UInt8 → Nat
  | [] => 0
  | c :: r => c.toNat + 256 * leVal r
abbrev RS := List UInt8 × Nat
def rTake (n : Nat) (s : RS) : List UInt8 × RS := if s.2 ≠ 0 then ([], s) else if s.1.length < n then ([], (s.1, 5)) else (s.1.take n, (s.1.drop n, 0))
def rNumber (s : RS) : Nat × RS := if s.2 ≠ 0 then (0, s) else match s.1 with
  | [] => (0, ([], 5))
  | c :: t => if t.length + 1 < lead c then (0, (s.1, 5))
    else if room (beVal (c.toNat % 2 ^ (8 - lead c)) (t.take (lead c - 1))) = lead c then (beVal (c.toNat % 2 ^ (8 - lead c)) (t.take (lead c - 1)), (t.drop (lead c - 1), 0))
    else (0, (s.1, 4))
def rBlock (s : RS) : List UInt8 × RS :=
  if (rNumber s).2.2 ≠ 0 then ([], (s.1, (rNumber s).2.2)) else if (rNumber s).2.1.length < (rNumber s).1 then ([], (s.1, 5)) else ((rNumber s).2.1.take (rNumber s).1, ((rNumber s).2.1.drop (rNumber s).1, 0))
def rWord (size : Int) (s : RS) : Nat × RS := (leVal (rTake (clampN size) s).1, (rTake (clampN size) s).2)
def nulls (n : Nat) : List UInt8 := List.replicate n 0
def rDigest (s : RS) : List UInt8 × RS := (if (rTake 32 s).2.2 ≠ 0 then nulls 32 else (rTake 32 s).1, (rTake 32 s).2)
def rEnd (s : RS) : Nat := if s.2 ≠ 0 then s.2 else if s.1 ≠ [] then 4 else 0

theorem rNumber_err {s : List UInt8} {e : Nat} (h : e ≠ 0) : rNumber (s, e) = (0, (s, e)) := by simp [rNumber, h]
theorem rNumber_nil : rNumber ([], 0) = (0, ([], 5)) := by simp [rNumber]
theorem rNumber_more {c : UInt8} {t : List UInt8} (h : t.length + 1 < lead c) : rNumber (c :: t, 0) = (0, (c :: t, 5)) := by simp [rNumber, h]
theorem rNumber_bad {c : UInt8} {t : List UInt8} (h : ¬ t.length + 1 < lead c) (h2 : room (beVal (c.toNat % 2 ^ (8 - lead c)) (t.take (lead c - 1))) ≠ lead c) : rNumber (c :: t, 0) = (0, (c :: t, 4)) := by simp [rNumber, h, h2]
theorem rNumber_ok {c : UInt8} {t : List UInt8} (h : ¬ t.length + 1 < lead c) (h2 : room (beVal (c.toNat % 2 ^ (8 - lead c)) (t.take (lead c - 1))) = lead c) :
    rNumber (c :: t, 0) = (beVal (c.toNat % 2 ^ (8 - lead c)) (t.take (lead c - 1)), (t.drop (lead c - 1), 0)) := by simp [rNumber, h, h2]

theorem beVal_snoc (n : Nat) (l : List UInt8) (c : UInt8) : beVal n (l ++ [c]) = beVal n l * 256 + c.toNat := by simp [beVal]
theorem beVal_lt : ∀ (l : List UInt8) (n k : Nat), n < 2 ^ k → beVal n l < 2 ^ (k + 8 * l.length)
  | [], n, k, h => by simpa [beVal] using h
  | c :: l, n, k, h => by
    have h1 : n * 256 + c.toNat < 2 ^ (k + 8) := by
      have := c.toNat_lt
      rw [Nat.pow_add]
      omega
    have := beVal_lt l (n * 256 + c.toNat) (k + 8) h1
    have e : beVal n (c :: l) = beVal (n * 256 + c.toNat) l := rfl
    rw [e, List.length_cons, show k + 8 * (l.length + 1) = k + 8 + 8 * l.length from by omega]
    exact this
theorem beVal_u64 (c : UInt8) (l : List UInt8) (h : l.length ≤ lead c - 1) : beVal (c.toNat % 2 ^ (8 - lead c)) l < 18446744073709551616 := by
  have hk := lead_bd c
  have h1 := beVal_lt l (c.toNat % 2 ^ (8 - lead c)) (8 - lead c) (Nat.mod_lt _ (Nat.two_pow_pos _))
  exact Nat.lt_of_lt_of_le h1 (Nat.pow_le_pow_right (by omega) (show 8 - lead c + 8 * l.length ≤ 64 by omega))
/-- The bits behind the first ones. -/
theorem mask_byte (c : UInt8) : bits .and .u8 (c.toNat : Int) (255 / 2 ^ min ((lead c : Int)).toNat IntKind.u8.bits) = ((c.toNat % 2 ^ (8 - lead c) : Nat) : Int) := by
  have : ∀ c : Fin 256, bits .and .u8 (c.val : Int) (255 / 2 ^ min ((lead (UInt8.ofNat c.val) : Int)).toNat IntKind.u8.bits) = ((c.val % 2 ^ (8 - lead (UInt8.ofNat c.val)) : Nat) : Int) := by decide +kernel
  simpa using this ⟨c.toNat, c.toNat_lt⟩
/-- One more byte. -/
theorem join_byte (n : Nat) (c : UInt8) (h : n * 256 < 18446744073709551616) : bits .or .u64 (IntKind.u64.wrap ((n : Int) * 2 ^ min ((8 : Int)).toNat IntKind.u64.bits)) (c.toNat : Int) = ((n * 256 + c.toNat : Nat) : Int) := by
  have hc := c.toNat_lt
  have e : IntKind.u64.wrap ((n : Int) * 2 ^ min ((8 : Int)).toNat IntKind.u64.bits) = ((n * 256 : Nat) : Int) := by
    show ((n : Int) * 256) % 18446744073709551616 = _
    omega
  rw [e, u64_or_nat _ _ h (by omega), nat_join 8 _ _ (by simp) (by simpa using hc)]

theorem leVal_snoc : ∀ (l : List UInt8) (c : UInt8), leVal (l ++ [c]) = leVal l + c.toNat * 256 ^ l.length
  | [], c => by simp [leVal]
  | d :: l, c => by
    simp only [List.cons_append, leVal, leVal_snoc l c, List.length_cons, Nat.pow_succ]
    generalize 256 ^ l.length = q
    rw [Nat.mul_add, Nat.mul_left_comm, Nat.mul_comm 256 q]
    omega
theorem leVal_lt : ∀ l : List UInt8, leVal l < 256 ^ l.length
  | [] => by simp [leVal]
  | c :: l => by
    have h1 := leVal_lt l
    have h2 := c.toNat_lt
    simp only [leVal, List.length_cons, Nat.pow_succ]
    omega
/-- One more byte, the lowest first. -/
theorem or_byte (l : List UInt8) (c : UInt8) (h : l.length < 8) :
    bits .or .u64 (leVal l : Int) (IntKind.u64.wrap ((c.toNat : Int) * 2 ^ min (8 * (l.length : Int)).toNat IntKind.u64.bits)) = (leVal (l ++ [c]) : Int) := by
  have hc := c.toNat_lt
  have h1 := leVal_lt l
  have e1 : min (8 * (l.length : Int)).toNat IntKind.u64.bits = 8 * l.length := by
    show min (8 * (l.length : Int)).toNat 64 = 8 * l.length
    omega
  have hp : (256 : Nat) ^ l.length = 2 ^ (8 * l.length) := by rw [Nat.pow_mul]
  have hle : 2 ^ (8 * l.length) ≤ 2 ^ 56 := Nat.pow_le_pow_right (by omega) (by omega)
  have hq : c.toNat * 2 ^ (8 * l.length) < 18446744073709551616 := by
    have : c.toNat * 2 ^ (8 * l.length) ≤ 255 * 2 ^ 56 := Nat.mul_le_mul (by omega) hle
    omega
  rw [hp] at h1
  have e2 : IntKind.u64.wrap ((c.toNat : Int) * 2 ^ (8 * l.length)) = ((c.toNat * 2 ^ (8 * l.length) : Nat) : Int) := by
    have e3 : ((c.toNat : Int) * 2 ^ (8 * l.length)) = ((c.toNat * 2 ^ (8 * l.length) : Nat) : Int) := by simp
    rw [e3]
    show ((c.toNat * 2 ^ (8 * l.length) : Nat) : Int) % 18446744073709551616 = _
    omega
  rw [e1, e2, u64_or_nat _ _ (by omega) hq, Nat.or_comm, nat_join (8 * l.length) _ _ (Nat.mul_mod_left _ _) h1, leVal_snoc, hp, Nat.add_comm]
theorem leVal_u64 (l : List UInt8) (h : l.length ≤ 8) : leVal l < 18446744073709551616 :=
  Nat.lt_of_lt_of_le (leVal_lt l) (Nat.le_trans (Nat.pow_le_pow_right (by omega) h) (by decide))
end Go.Proofs.YtklijaahbahcoaaDoor
/-
  Walks of package octet: sizes, bytes of numbers.
-/
namespace Go.Proofs.YtklijaahbahcoaaDoor
set_option maxRecDepth 100000
open Go.RowKit

theorem C_clamp (n : Int) (w : World) : CallsR Tryd.prog 56 [.int .i64 n] w fun v w' => v = .int .i64 (max 1 (min n 8)) ∧ w = w' := by
  refine callsR Tryd.func56 rfl rfl (by kernel_rfl) rfl ?_
  refine rk_seq ?_
  refine rk_region ?_
  refine wl_p (fun _ => o_assign rfl) ?_
  refine wl_nil ?_
  refine rk_seq ?_
  refine rk_region ?_
  refine wl_p (fun _ => o_move rfl) ?_
  refine wl_p (fun _ => o_min rfl rfl) ?_
  refine wl_p (fun _ => o_max rfl rfl) ?_
  refine wl_p (fun _ => o_assign rfl) ?_
  refine wl_nil ?_
  refine ret1 rfl rfl ?_
  exact ⟨rfl, rfl⟩


theorem C_grown {A : Option Addr} {l : List UInt8} {k : Nat} (c : Nat) (hk : k = l.length) (n : Int) (w : World) (hr : Rd w A l) (hn : 0 ≤ n) (hl : l.length + n.toNat ≤ 140737488355328) :
    CallsR Tryd.prog 57 [.slice A k c, .int .i64 n] w fun v w' => ∃ A' c', v = .slice A' l.length c' ∧ Own w' w.heap.size A' c' l ∧ Below w.heap.size w w' := by
  subst hk
  refine callsR Tryd.func57 rfl rfl (by kernel_rfl) rfl ?_
  refine rk_seq ?_
  refine rk_region ?_
  refine wl_p (fun _ => o_assign rfl) ?_
  refine wl_nil ?_
  refine rk_seq ?_
  refine rk_region ?_
  refine wl_p (fun _ => o_move rfl) ?_
  refine wl_p (fun _ => o_len (t := 22) Tryd.underlying22 rfl) ?_
  refine wl_p (fun _ => o_move rfl) ?_
  refine wl_p (fun _ => o_add rfl rfl (by omega) (by omega)) ?_
  refine wl_make0 (n := l.length + n.toNat) Tryd.u8 rfl rfl (by omega) (by omega) ?_
  intro w9 hown9 hb9 hs9
  refine wl_p (fun _ => o_move rfl) ?_
  refine wl_app (s := []) Tryd.u8 rfl rfl hown9 rfl rfl (hr.below hb9) (by simp; omega) (by omega) ?_
  intro A11 c11 w11 hown11 hg11 hk11 hb11
  refine wl_p (fun _ => o_assign rfl) ?_
  refine wl_nil ?_
  refine ret1 rfl rfl ?_
  exact ⟨A11, c11, by simp, hown11, hb9.trans hb11⟩

/-- Numbers of 64 bits. -/
abbrev u64 : Nat := 18446744073709551616

theorem C_len64 (x : Int) (w : World) (h0 : 0 ≤ x) (h1 : x ≤ 18446744073709551615) : CallsR Tryd.prog 88 [.int .u64 x] w fun v w' => v = .int .i64 (Lib.bitLen x.toNat) ∧ w = w' :=
  ⟨⟨_, Tryd.func88, rfl, by kernel_rfl⟩, (Tryd.bits_Len64 x w h0 h1).mono fun _ _ h => ⟨_, h.1, rfl, h.2.symm⟩⟩

theorem Tryd.lit8 (c : Int) (w : World) : (Instr.buildSlice 22 1 ([0].zip [Value.int .u8 c]).toArray).run Tryd.prog w = .ok (.slice (some ⟨w.heap.size, 0, none⟩) 1 1) (w.alloc (.cells #[.int .u8 c] 5)) := by kernel_rfl

theorem C_Word {A : Option Addr} {l : List UInt8} (c : Nat) (n : Nat) (size : Int) (w : World) (hr : Rd w A l) (hn : n < u64) (hl : l.length ≤ 140737488355000) :
    CallsR Tryd.prog 45 [.slice A l.length c, .int .u64 n, .int .i64 size] w fun v w' => ∃ A' c', v = .slice A' (l ++ leB (clampN size) n).length c' ∧ Own w' w.heap.size A' c' (l ++ leB (clampN size) n) ∧ Below w.heap.size w w' := by
  obtain ⟨hk1, hk2, hk3⟩ := clampN_bd size
  refine callsR Tryd.func45 rfl rfl (by kernel_rfl) rfl ?_
  refine rk_seq ?_
  refine rk_region ?_
  refine wl_p (fun _ => o_assign rfl) ?_
  refine wl_nil ?_
  refine rk_seq ?_
  refine rk_region ?_
  refine wl_p (fun _ => o_move rfl) ?_
  refine wl_call rfl (C_clamp size w) ?_
  rintro _ w1 ⟨rfl, rfl⟩
  rw [hk3]
  refine wl_p (fun _ => o_assign rfl) ?_
  refine wl_nil ?_
  refine rk_seq ?_
  refine rk_region ?_
  refine wl_p (fun _ => o_move rfl) ?_
  refine wl_p (fun _ => o_move rfl) ?_
  refine wl_call rfl (C_grown c rfl _ w hr (by omega) (by omega)) ?_
  rintro _ w2 ⟨A2, c2, rfl, hown2, hb2⟩
  refine wl_p (fun _ => o_assign rfl) ?_
  refine wl_nil ?_
  refine rk_seq ?_
  refine rk_seq ?_
  refine rk_region ?_
  refine wl_p (fun _ => o_move rfl) ?_
  refine wl_p (fun _ => o_move rfl) ?_
  refine wl_nil ?_
  refine rk_block ?_
  refine rk_loop (fun m fr w' => ∃ j len A' c', fr = [(0, .slice A' len c'), (1, .int .u64 n), (13, .int .i64 (clampN size)), (14, .int .i64 (j : Nat))] ∧ len = (l ++ leB j n).length ∧ m + j = clampN size ∧ Own w' w.heap.size A' c' (l ++ leB j n) ∧ Below w.heap.size w w')
    (n := clampN size) (by repeat' constructor) ⟨0, _, A2, c2, rfl, by simp [leB], by omega, by simpa [leB] using hown2, hb2⟩ ?_
  rintro m fr w3 ⟨j, len, A', c', rfl, hln, hm, hown', hb'⟩
  have hlen : (l ++ leB j n).length = l.length + j := by simp [leB_length]
  refine rk_seq ?_
  refine rk_region ?_
  refine wl_p (fun _ => o_lt rfl rfl) ?_
  refine wl_nil ?_
  refine rk_seq ?_
  refine rk_if rfl (fun h => ?_) (fun h => ?_)
  · refine rk_skip ?_
    refine rk_seq ?_
    refine rk_block ?_
    refine rk_seq ?_
    refine rk_region ?_
    refine wl_p (fun _ => o_move rfl) ?_
    refine wl_p (fun _ => o_assign rfl) ?_
    refine wl_nil ?_
    refine rk_region ?_
    refine wl_p (fun _ => o_move rfl) ?_
    refine wl_p (fun _ => o_move rfl) ?_
    refine wl_p (fun _ => o_move rfl) ?_
    refine wl_p (fun _ => o_mul rfl rfl (by omega) (by omega)) ?_
    refine wl_p (fun _ => o_shr rfl rfl (by omega)) ?_
    refine wl_p (fun _ => o_asi (o_convi Tryd.underlying73 Tryd.underlying5 rfl) (byte_shift n j (by omega))) ?_
    refine wl_v (o_lit (is := [0]) (xs := [.tmp 22]) rfl (Tryd.lit8 _ _)) ?_
    have hs2 := hb'.size
    refine wl_app (m := [UInt8.ofNat (n / 256 ^ j)]) Tryd.u8 rfl hln (hown'.alloc _) rfl rfl (rd_lit _ _ _ rfl) (by rw [hlen]; simp; omega) (by simp; omega) ?_
    intro A5 c5 w5 hown5 hg5 hk5 hb5
    refine wl_p (fun _ => o_assign rfl) ?_
    refine wl_nil ?_
    refine rk_blk ?_
    refine rk_region ?_
    refine wl_p (fun _ => o_add rfl rfl (by omega) (by omega)) ?_
    refine wl_p (fun _ => o_move rfl) ?_
    refine wl_nil ?_
    exact rk_again (m := m - 1) (by repeat' constructor) ⟨j + 1, _, A5, c5, rfl, by simp [leB], by omega, by simpa [leB] using hown5, (hb'.alloc (by omega) _).trans hb5⟩ (by omega)
  · obtain rfl : j = clampN size := by omega
    refine rk_exit rfl ?_
    refine rk_seq ?_
    refine rk_region ?_
    refine wl_p (fun _ => o_move rfl) ?_
    refine wl_p (fun _ => o_assign rfl) ?_
    refine wl_nil ?_
    refine ret1 rfl rfl ?_
    exact ⟨A', c', by rw [hln], hown', hb'⟩
end Go.Proofs.YtklijaahbahcoaaDoor
/-
  Plain mathematics: numbers are ordered as their bytes are.
-/
namespace Go.Proofs.YtklijaahbahcoaaDoor
set_option maxRecDepth 100000

theorem less_cons (a b : UInt8) (x y : List UInt8) : Op.bytesLess (a :: x) (b :: y) = (decide (a.toNat < b.toNat) || (decide (a.toNat = b.toNat) && Op.bytesLess x y)) := by
  have h1 : decide (a < b) = decide (a.toNat < b.toNat) := by rw [decide_eq_decide, UInt8.lt_iff_toNat_lt]
  have h2 : (a == b) = decide (a.toNat = b.toNat) := by rw [Bool.eq_iff_iff]; simp [UInt8.toNat_inj]
  simp only [Op.bytesLess]
  rw [h1, h2]

theorem be_less : ∀ (j n m : Nat), Op.bytesLess (beB j n) (beB j m) = decide (n % 256 ^ j < m % 256 ^ j)
  | 0, n, m => by simp [beB, Op.bytesLess, Nat.mod_one]
  | j + 1, n, m => by
    rw [beB, beB, less_cons, be_less j n m, UInt8.toNat_ofNat', UInt8.toNat_ofNat']
    have hp : 0 < 256 ^ j := Nat.pos_of_ne_zero (by simp)
    rw [show (2 : Nat) ^ 8 = 256 from rfl, Nat.pow_succ, Nat.mod_mul, Nat.mod_mul]
    have h1 := Nat.mod_lt n hp
    have h2 := Nat.mod_lt m hp
    generalize n / 256 ^ j % 256 = a at *
    generalize m / 256 ^ j % 256 = b at *
    generalize n % 256 ^ j = x at *
    generalize m % 256 ^ j = y at *
    generalize 256 ^ j = q at *
    rw [Bool.eq_iff_iff]
    simp only [Bool.or_eq_true, decide_eq_true_eq, Bool.and_eq_true]
    rcases Nat.lt_trichotomy a b with h | h | h
    · have h3 : q * a + q ≤ q * b := by rw [← Nat.mul_succ]; exact Nat.mul_le_mul_left q h
      constructor
      · intro _; omega
      · intro _; exact .inl h
    · subst h
      constructor
      · rintro (h3 | ⟨_, h3⟩)
        · omega
        · omega
      · intro h3; exact .inr ⟨rfl, by omega⟩
    · have h3 : q * b + q ≤ q * a := by rw [← Nat.mul_succ]; exact Nat.mul_le_mul_left q h
      constructor
      · rintro (h4 | ⟨h4, _⟩) <;> omega
      · intro _; omega

theorem first_nat (n : Nat) (h : n < 18446744073709551616) : (first (room n) n).toNat = 256 - 2 ^ (9 - room n) + n / 256 ^ (room n - 1) := by
  have hk := room_pos n
  have hlt := room_lt n h
  have h5 : 2 ^ (8 - room n) ≤ 2 ^ (9 - room n) := Nat.pow_le_pow_right (by omega) (by omega)
  have h6 : 2 ^ (9 - room n) ≤ 256 := Nat.pow_le_pow_right (show 0 < 2 by omega) (show 9 - room n ≤ 8 by omega)
  unfold first
  rw [UInt8.toNat_ofNat', Nat.mod_eq_of_lt]
  rcases Nat.lt_or_ge (room n) 9 with h9 | h9
  · have : 2 ^ (9 - room n) = 2 ^ (8 - room n) * 2 := by rw [← Nat.pow_succ]; congr 1; omega
    have := Nat.two_pow_pos (8 - room n)
    omega
  · have e : room n = 9 := by omega
    rw [e] at hlt ⊢
    simp at hlt
    omega

def over (t n : Nat) : Nat := if n < t then 0 else 1
theorem over_mono (t : Nat) {n m : Nat} (h : n ≤ m) : over t n ≤ over t m := by unfold over; split <;> split <;> omega
theorem room_sum (n : Nat) : room n = 1 + over 128 n + over 16384 n + over 2097152 n + over 268435456 n + over 34359738368 n + over 4398046511104 n + over 562949953421312 n + over 72057594037927936 n := by
  unfold room
  split
  · simp only [over]; repeat rw [if_pos (by omega)]
  split
  · simp only [over]; rw [if_neg (by omega)]; repeat rw [if_pos (by omega)]
  split
  · simp only [over]; iterate 2 rw [if_neg (by omega)]
    repeat rw [if_pos (by omega)]
  split
  · simp only [over]; iterate 3 rw [if_neg (by omega)]
    repeat rw [if_pos (by omega)]
  split
  · simp only [over]; iterate 4 rw [if_neg (by omega)]
    repeat rw [if_pos (by omega)]
  split
  · simp only [over]; iterate 5 rw [if_neg (by omega)]
    repeat rw [if_pos (by omega)]
  split
  · simp only [over]; iterate 6 rw [if_neg (by omega)]
    repeat rw [if_pos (by omega)]
  split
  · simp only [over]; iterate 7 rw [if_neg (by omega)]
    repeat rw [if_pos (by omega)]
  · simp only [over]; iterate 8 rw [if_neg (by omega)]
theorem room_mono {n m : Nat} (h : n ≤ m) : room n ≤ room m := by
  rw [room_sum, room_sum]
  have := over_mono 128 h
  have := over_mono 16384 h
  have := over_mono 2097152 h
  have := over_mono 268435456 h
  have := over_mono 34359738368 h
  have := over_mono 4398046511104 h
  have := over_mono 562949953421312 h
  have := over_mono 72057594037927936 h
  omega

theorem first_lt {n m : Nat} (hn : n < 18446744073709551616) (hm : m < 18446744073709551616) (h : room n < room m) : (first (room n) n).toNat < (first (room m) m).toNat := by
  have hk := room_pos n
  have hk' := room_pos m
  rw [first_nat n hn, first_nat m hm]
  have hlt := room_lt n hn
  have e : 2 ^ (9 - room n) = 2 ^ (8 - room n) * 2 := by rw [← Nat.pow_succ]; congr 1; omega
  have h6 : 2 ^ (9 - room n) ≤ 256 := Nat.pow_le_pow_right (show 0 < 2 by omega) (show 9 - room n ≤ 8 by omega)
  have h7 : 2 ^ (9 - room m) ≤ 2 ^ (8 - room n) := Nat.pow_le_pow_right (by omega) (by omega)
  generalize n / 256 ^ (room n - 1) = a at *
  generalize m / 256 ^ (room m - 1) = b at *
  omega

theorem enc_less (n m : Nat) (hn : n < 18446744073709551616) (hm : m < 18446744073709551616) : Op.bytesLess (enc n) (enc m) = decide (n < m) := by
  unfold enc
  rw [less_cons]
  rcases Nat.lt_trichotomy (room n) (room m) with h | h | h
  · have h1 := first_lt hn hm h
    have h2 : n < m := by
      rcases Nat.lt_or_ge n m with h3 | h3
      · exact h3
      · have := room_mono h3; omega
    simp [h1, h2]
  · rw [first_nat n hn, first_nat m hm, ← h, be_less, Bool.eq_iff_iff]
    have hp : 0 < 256 ^ (room n - 1) := Nat.pos_of_ne_zero (by simp)
    have h1 := Nat.mod_lt n hp
    have h2 := Nat.mod_lt m hp
    have e1 := Nat.div_add_mod n (256 ^ (room n - 1))
    have e2 := Nat.div_add_mod m (256 ^ (room n - 1))
    generalize n / 256 ^ (room n - 1) = a at *
    generalize m / 256 ^ (room n - 1) = b at *
    generalize n % 256 ^ (room n - 1) = x at *
    generalize m % 256 ^ (room n - 1) = y at *
    generalize 256 ^ (room n - 1) = q at *
    simp only [Bool.or_eq_true, decide_eq_true_eq, Bool.and_eq_true]
    rcases Nat.lt_trichotomy a b with h | h | h
    · have h3 : q * a + q ≤ q * b := by rw [← Nat.mul_succ]; exact Nat.mul_le_mul_left q h
      constructor
      · intro _; omega
      · intro _; left; omega
    · subst h
      constructor
      · rintro (h3 | ⟨_, h3⟩) <;> omega
      · intro h3; exact .inr ⟨rfl, by omega⟩
    · have h3 : q * b + q ≤ q * a := by rw [← Nat.mul_succ]; exact Nat.mul_le_mul_left q h
      constructor
      · rintro (h4 | ⟨h4, _⟩) <;> omega
      · intro _; omega
  · have h1 := first_lt hm hn h
    have h2 : ¬ n < m := fun h3 => by have := room_mono (Nat.le_of_lt h3); omega
    have h3 : ¬ (first (room n) n).toNat < (first (room m) m).toNat := by omega
    have h4 : ¬ (first (room n) n).toNat = (first (room m) m).toNat := by omega
    simp [h2, h3, h4]

theorem less_irrefl : ∀ l : List UInt8, Op.bytesLess l l = false
  | [] => rfl
  | a :: l => by rw [less_cons, less_irrefl l]; simp
theorem enc_inj {n m : Nat} (hn : n < 18446744073709551616) (hm : m < 18446744073709551616) (h : enc n = enc m) : n = m := by
  have h1 := enc_less n m hn hm
  have h2 := enc_less m n hm hn
  rw [h, less_irrefl] at h1
  rw [h, less_irrefl] at h2
  have h3 := of_decide_eq_false h1.symm
  have h4 := of_decide_eq_false h2.symm
  omega

theorem room_hi (n : Nat) : room n = 9 ∨ n / 2 ^ (7 * room n) = 0 := by
  unfold room
  repeat' split
  all_goals first | (left; rfl) | (right; simp; omega)
theorem room_low (n : Nat) : room n = 1 ∨ n / 2 ^ (7 * (room n - 1)) ≠ 0 := by
  unfold room
  repeat' split
  all_goals first | (left; rfl) | (right; simp; omega)
end Go.Proofs.YtklijaahbahcoaaDoor
/-
  Walk of the document's Word.
-/
namespace Go.Proofs.YtklijaahbahcoaaDoor
set_option maxRecDepth 100000
open Go.RowKit
theorem C_refWord {A : Option Addr} {l : List UInt8} (c : Nat) (n : Nat) (size : Int) (w : World) (hr : Rd w A l) (hn : n < u64) (hl : l.length ≤ 140737488355000) :
    CallsR Tryd.prog 43 [.slice A l.length c, .int .u64 n, .int .i64 size] w fun v w' => ∃ A' c', v = .slice A' (l ++ leB (clampN size) n).length c' ∧ Own w' w.heap.size A' c' (l ++ leB (clampN size) n) ∧ Below w.heap.size w w' := by
  obtain ⟨hk1, hk2, hk3⟩ := clampN_bd size
  have hk4 : min (max size 1) 8 = (clampN size : Int) := by omega
  refine callsR Tryd.func43 rfl rfl (by kernel_rfl) rfl ?_
  refine rk_seq ?_
  refine rk_region ?_
  refine wl_p (fun _ => o_assign rfl) ?_
  refine wl_nil ?_
  refine rk_seq ?_
  refine rk_region ?_
  refine wl_lit8 (xs := []) [] Tryd.u8 Tryd.sizeOf5 Tryd.zeroValue5 rfl rfl ?_
  intro w1 hown1 hb1 hz1
  refine wl_p (fun _ => o_move rfl) ?_
  refine wl_app (s := []) Tryd.u8 rfl rfl hown1 rfl rfl (hr.below hb1) (by simp; omega) hb1.size ?_
  intro A10 c10 w10 hown10 hg10 hk10 hb10
  rw [List.nil_append] at hown10 ⊢
  have hb := hb1.trans hb10
  refine wl_p (fun _ => o_assign rfl) ?_
  refine wl_nil ?_
  refine rk_seq ?_
  refine rk_seq ?_
  refine rk_region ?_
  refine wl_p (fun _ => o_assign rfl) ?_
  refine wl_nil ?_
  refine rk_block ?_
  refine rk_loop (fun m fr w' => ∃ j len A' c', fr = [(1, .int .u64 n), (2, .int .i64 size), (7, .slice A' len c'), (8, .int .i64 (j : Nat))] ∧ len = (l ++ leB j n).length ∧ m + j = clampN size ∧ Own w' w.heap.size A' c' (l ++ leB j n) ∧ Below w.heap.size w w')
    (n := clampN size) (by repeat' constructor) ⟨0, _, A10, c10, rfl, by simp [leB], by omega, by simpa [leB] using hown10, hb⟩ ?_
  rintro m fr w3 ⟨j, len, A', c', rfl, hln, hm, hown', hb'⟩
  have hlen : (l ++ leB j n).length = l.length + j := by simp [leB_length]
  refine rk_seq ?_
  refine rk_seq ?_
  refine rk_region ?_
  refine wl_p (fun _ => o_move rfl) ?_
  refine wl_p (fun _ => o_move rfl) ?_
  refine wl_p (fun _ => o_max rfl rfl) ?_
  refine wl_p (fun _ => o_min rfl rfl) ?_
  refine wl_p (fun _ => o_lt rfl rfl) ?_
  refine wl_nil ?_
  refine rk_if rfl (fun h => ?_) (fun h => ?_)
  · rw [hk4] at h
    refine rk_skip ?_
    refine rk_seq ?_
    refine rk_block ?_
    refine rk_region ?_
    refine wl_p (fun _ => o_move rfl) ?_
    refine wl_p (fun _ => o_move rfl) ?_
    refine wl_p (fun _ => o_move rfl) ?_
    refine wl_p (fun _ => o_mul rfl rfl (by omega) (by omega)) ?_
    refine wl_p (fun _ => o_convu64 (src := 3) (dst := 81) Tryd.underlying3 Tryd.underlying81 rfl (by omega) (by omega)) ?_
    refine wl_p (fun _ => o_shr rfl rfl (by omega)) ?_
    refine wl_p (fun _ => o_asi (o_convi Tryd.underlying73 Tryd.underlying5 rfl) (byte_shift n j (by omega))) ?_
    refine wl_v (o_lit (is := [0]) (xs := [.tmp 25]) rfl (Tryd.lit8 _ _)) ?_
    have hs2 := hb'.size
    refine wl_app (m := [UInt8.ofNat (n / 256 ^ j)]) Tryd.u8 rfl hln (hown'.alloc _) rfl rfl (rd_lit _ _ _ rfl) (by rw [hlen]; simp; omega) (by simp; omega) ?_
    intro A5 c5 w5 hown5 hg5 hk5 hb5
    refine wl_p (fun _ => o_assign rfl) ?_
    refine wl_nil ?_
    refine rk_blk ?_
    refine rk_region ?_
    refine wl_p (fun _ => o_move rfl) ?_
    refine wl_p (fun _ => o_add rfl rfl (by omega) (by omega)) ?_
    refine wl_p (fun _ => o_assign rfl) ?_
    refine wl_nil ?_
    exact rk_again (m := m - 1) (by repeat' constructor) ⟨j + 1, _, A5, c5, rfl, by simp [leB], by omega, by simpa [leB] using hown5, (hb'.alloc (by omega) _).trans hb5⟩ (by omega)
  · rw [hk4] at h
    obtain rfl : j = clampN size := by omega
    refine rk_exit rfl ?_
    refine rk_seq ?_
    refine rk_region ?_
    refine wl_p (fun _ => o_move rfl) ?_
    refine wl_p (fun _ => o_assign rfl) ?_
    refine wl_nil ?_
    refine ret1 rfl rfl ?_
    exact ⟨A', c', by rw [hln], hown', hb'⟩
end Go.Proofs.YtklijaahbahcoaaDoor
/-
  A region that leaves the order of many operations open, each of which adds to the heap and changes nothing that was there: one step for each of them, from what it waits for; then what they all left. No function of the program is named here.
-/
namespace Go.Proofs.YtklijaahbahcoaaDoor
set_option maxRecDepth 100000
open Go.RowKit
/-- An operation that changes the world, and what is read or reckoned behind it. ds: the slots (the newest first); pre: the places of the items that it waits for; φ: what the slots hold, in which world, and between which blocks what is new lies. -/
structure Item where
  k : Nat
  ps : List (Tag × Nat)
  ds : List Nat
  pre : List Nat
  φ : List Value → World → Nat → Nat → Prop
def Item.idx (it : Item) : List Nat := it.k :: it.ps.map Prod.snd
def bitsOf : List Nat → Nat
  | [] => 0
  | k :: r => Nat.lor (2 ^ k) (bitsOf r)
def Item.mask (it : Item) : Nat := bitsOf it.idx
def nthI : List Item → Nat → Option Item
  | [], _ => none
  | it :: _, 0 => some it
  | _ :: l, k + 1 => nthI l k
theorem nthI_mem : ∀ {l : List Item} {i : Nat} {it : Item}, nthI l i = some it → it ∈ l
  | _ :: _, 0, _, h => by injection h with h; subst h; simp
  | _ :: l, i + 1, _, h => List.mem_cons_of_mem _ (nthI_mem (l := l) (i := i) h)
theorem nthI_of_mem : ∀ {l : List Item} {it : Item}, it ∈ l → ∃ i, i < l.length ∧ nthI l i = some it
  | x :: l, it, h => by
    rcases List.mem_cons.1 h with h | h
    · subst h; exact ⟨0, by simp, rfl⟩
    · obtain ⟨i, h1, h2⟩ := nthI_of_mem h
      exact ⟨i + 1, by simpa using h1, h2⟩
theorem nthI_lt : ∀ {l : List Item} {i : Nat} {it : Item}, nthI l i = some it → i < l.length
  | _ :: _, 0, _, _ => by simp
  | _ :: l, i + 1, _, h => by have := nthI_lt (l := l) (i := i) h; simpa using this
theorem nthI_some : ∀ {l : List Item} {i : Nat}, i < l.length → ∃ it, nthI l i = some it
  | x :: _, 0, _ => ⟨x, rfl⟩
  | _ :: l, i + 1, h => nthI_some (l := l) (i := i) (by simpa using h)
theorem bitsOf_bit {j : Nat} : ∀ {l : List Nat}, (bitsOf l).testBit j = true ↔ j ∈ l
  | [] => by simp [bitsOf]
  | k :: r => by
    show (2 ^ k ||| bitsOf r).testBit j = true ↔ _
    rw [Nat.testBit_or, Bool.or_eq_true, bitsOf_bit (l := r), Nat.testBit_two_pow, List.mem_cons]
    constructor
    · rintro (h | h)
      · exact .inl (of_decide_eq_true h).symm
      · exact .inr h
    · rintro (h | h)
      · exact .inl (by simp [h])
      · exact .inr h
def apartAll : List (Nat × Nat) → Nat → Nat → Prop
  | [], _, _ => True
  | p :: r, lo, hi => (p.2 ≤ lo ∨ hi ≤ p.1) ∧ apartAll r lo hi
/-- What the items at the places ps left. -/
def given (its : List Item) (w : World) (B : Nat) : List Nat → List (Nat × Nat) → Fr → (Fr → Prop) → Prop
  | [], _, fr, K => K fr
  | p :: r, seen, fr, K => match nthI its p with
    | none => False
    | some it => ∀ vs lo hi, it.φ vs w lo hi → B ≤ lo → lo ≤ hi → hi ≤ w.heap.size → apartAll seen lo hi → given its w B r ((lo, hi) :: seen) (it.ds.zip vs ++ fr) K
def stables : List Item → Prop
  | [] => True
  | it :: r => (∀ vs w w' lo hi, it.φ vs w lo hi → Below w.heap.size w w' → it.φ vs w' lo hi) ∧ stables r
theorem stables_spec : ∀ {l : List Item}, stables l → ∀ it ∈ l, ∀ vs w w' lo hi, it.φ vs w lo hi → Below w.heap.size w w' → it.φ vs w' lo hi
  | _ :: _, h, it, hi => by
    rcases List.mem_cons.1 hi with e | e
    · subst e; exact h.1
    · exact stables_spec h.2 it e

/-! What is checked. -/
def meetN (a b : Nat) : Bool := !Nat.beq (Nat.land a b) 0
theorem meetN_spec {a b : Nat} (h : meetN a b = true) : ∃ i, a.testBit i = true ∧ b.testBit i = true := by
  unfold meetN at h
  refine Classical.byContradiction fun hn => ?_
  have e : Nat.land a b = 0 := Nat.eq_of_testBit_eq fun i => by
    show (a &&& b).testBit i = _
    rw [Nat.testBit_and, Nat.zero_testBit]
    cases h1 : a.testBit i with
    | false => rfl
    | true => cases h2 : b.testBit i with
      | false => rfl
      | true => exact absurd ⟨i, h1, h2⟩ hn
  rw [e] at h
  simp at h
def subN (a b : Nat) : Bool := Nat.beq (Nat.land a b) a
def preMask (its : List Item) : List Nat → Nat
  | [] => 0
  | p :: r => Nat.lor (match nthI its p with | some it => it.mask | none => 0) (preMask its r)
theorem preMask_bit {its : List Item} {i : Nat} : ∀ {ps : List Nat}, (preMask its ps).testBit i = true → ∃ p ∈ ps, ∃ it, nthI its p = some it ∧ i ∈ it.idx
  | p :: r, h => by
    have h' : ((match nthI its p with | some it => it.mask | none => 0) ||| preMask its r).testBit i = true := h
    rw [Nat.testBit_or, Bool.or_eq_true] at h'
    rcases h' with h' | h'
    · cases hp : nthI its p with
      | none => rw [hp] at h'; simp at h'
      | some it =>
        rw [hp] at h'
        exact ⟨p, by simp, it, hp, bitsOf_bit.1 h'⟩
    · obtain ⟨q, h1, it, h2, h3⟩ := preMask_bit h'
      exact ⟨q, by simp [h1], it, h2, h3⟩
  | [], h => by simp [preMask] at h
/-- The operations behind an item's first one. -/
def chkP (ops : Array Oper) (l : List Oper) (D A : List Nat) (L C : Nat) : List (Tag × Nat) → Nat → Bool
  | [], _ => true
  | (.p, k) :: ts, m => (!Nat.testBit L k && (rdyK D m k && freeAt ops l D m k)) && chkP ops l D A L C ts (m ||| 2 ^ k)
  | (.r, k) :: ts, m => (!Nat.testBit L k && (rdyK D m k && (freeAt ops l D m k && crossK L k (A.getD k 0) A 0))) && chkP ops l D A L C ts (m ||| 2 ^ k)
  | (.s, k) :: ts, m => (!Nat.testBit L k && (rdyK D m k && (freeAt ops l D m k && crossK (L ^^^ (L &&& C)) k (A.getD k 0) A 0))) && chkP ops l D A L C ts (m ||| 2 ^ k)
  | _ :: _, _ => false
theorem freeK_mono {ops : Array Oper} {oi : Oper} {m m' k : Nat} (hm : ∀ i, m.testBit i = true → m'.testBit i = true) : ∀ (l : List Oper) (D : List Nat) (j : Nat), freeK ops oi m k l D j = true → freeK ops oi m' k l D j = true
  | [], _, _, _ => by simp [freeK]
  | _ :: _, [], _, _ => by simp [freeK]
  | o :: l, d :: D, j, h => by
    simp only [freeK, Bool.and_eq_true, Bool.or_eq_true] at h ⊢
    refine ⟨?_, freeK_mono hm l D (j + 1) h.2⟩
    rcases h.1 with h | h | h
    · exact .inl h
    · exact .inr (.inl (hm _ h))
    · exact .inr (.inr h)
theorem freeAt_mono {ops : Array Oper} {l : List Oper} {D : List Nat} {m m' k : Nat} (hm : ∀ i, m.testBit i = true → m'.testBit i = true) (h : freeAt ops l D m k = true) : freeAt ops l D m' k = true := by
  unfold freeAt at h ⊢
  split at h
  · exact freeK_mono hm _ _ _ h
  · cases h
theorem rdyK_mono {D : List Nat} {m m' k : Nat} (hm : ∀ i, m.testBit i = true → m'.testBit i = true) (hk : m'.testBit k = false) (h : rdyK D m k = true) : rdyK D m' k = true := by
  unfold rdyK at h ⊢
  split at h
  · simp only [Bool.and_eq_true, Bool.not_eq_true'] at h ⊢
    exact ⟨hk, land_eq.2 fun i hi => hm i (land_eq.1 h.2 i hi)⟩
  · cases h
theorem bit_lor {m k j : Nat} : (m ||| 2 ^ k).testBit j = true ↔ m.testBit j = true ∨ k = j := by
  rw [Nat.testBit_or, Bool.or_eq_true, Nat.testBit_two_pow]; simp
def maskAfter : List (Tag × Nat) → Nat → Nat
  | [], m => m
  | p :: ts, m => maskAfter ts (m ||| 2 ^ p.2)
theorem maskAfter_bit {j : Nat} : ∀ {ts : List (Tag × Nat)} {m : Nat}, (maskAfter ts m).testBit j = true ↔ m.testBit j = true ∨ j ∈ ts.map Prod.snd
  | [], m => by simp [maskAfter]
  | p :: ts, m => by
    rw [maskAfter, maskAfter_bit (ts := ts), bit_lor, List.map_cons, List.mem_cons]
    constructor
    · rintro ((h | h) | h)
      · exact .inl h
      · exact .inr (.inl h.symm)
      · exact .inr (.inr h)
    · rintro (h | h | h)
      · exact .inl (.inl h)
      · exact .inl (.inr h.symm)
      · exact .inr h
theorem chk_of_chkP {ops : Array Oper} {l : List Oper} {D A : List Nat} {L C n T : Nat} : ∀ (ts : List (Tag × Nat)) (m m' : Nat), chkP ops l D A L C ts m = true → (∀ i, m.testBit i = true → m'.testBit i = true) → (∀ i, m'.testBit i = true → T.testBit i = true ∨ m.testBit i = true) → (∀ p ∈ ts, T.testBit p.2 = false) →
    chk ops l D A L C (ts ++ [(.f (maskAfter ts m') L C, n)]) m' = true
  | [], m, m', _, _, _, _ => by simp [chk, maskAfter]
  | (t, k) :: ts, m, m', h, hm, hm2, hT => by
    have hk0 : rdyK D m k = true → m'.testBit k = false := fun hr => by
      have h0 : m.testBit k = false := by
        unfold rdyK at hr
        split at hr
        · simp only [Bool.and_eq_true, Bool.not_eq_true'] at hr; exact hr.1
        · cases hr
      cases hb : m'.testBit k with
      | false => rfl
      | true =>
        rcases hm2 k hb with h1 | h1
        · rw [hT (t, k) (by simp)] at h1; cases h1
        · rw [h0] at h1; cases h1
    have rest : chkP ops l D A L C ts (m ||| 2 ^ k) = true → chk ops l D A L C (ts ++ [(.f (maskAfter ts (m' ||| 2 ^ k)) L C, n)]) (m' ||| 2 ^ k) = true := fun h2 =>
      chk_of_chkP ts _ _ h2 (fun i hi => by rw [bit_lor] at hi ⊢; exact hi.imp (hm i) id) (fun i hi => by
        rw [bit_lor] at hi ⊢
        rcases hi with hi | hi
        · rcases hm2 i hi with h1 | h1
          · exact .inl h1
          · exact .inr (.inl h1)
        · exact .inr (.inr hi)) (fun p hp => hT p (by simp [hp]))
    cases t with
    | p =>
      simp only [chkP, Bool.and_eq_true] at h
      obtain ⟨⟨h1, h2, h3⟩, h4⟩ := h
      simp only [List.cons_append, chk, maskAfter, Bool.and_eq_true]
      exact ⟨⟨h1, rdyK_mono hm (hk0 h2) h2, freeAt_mono hm h3⟩, rest h4⟩
    | r =>
      simp only [chkP, Bool.and_eq_true] at h
      obtain ⟨⟨h1, h2, h3, h5⟩, h4⟩ := h
      simp only [List.cons_append, chk, maskAfter, Bool.and_eq_true]
      exact ⟨⟨h1, rdyK_mono hm (hk0 h2) h2, freeAt_mono hm h3, h5⟩, rest h4⟩
    | s =>
      simp only [chkP, Bool.and_eq_true] at h
      obtain ⟨⟨h1, h2, h3, h5⟩, h4⟩ := h
      simp only [List.cons_append, chk, maskAfter, Bool.and_eq_true]
      exact ⟨⟨h1, rdyK_mono hm (hk0 h2) h2, freeAt_mono hm h3, h5⟩, rest h4⟩
    | l => simp [chkP] at h
    | c => simp [chkP] at h
    | f => simp [chkP] at h
    | g => simp [chkP] at h
theorem opsOf_ps {ops : Array Oper} {l : List Oper} {D A : List Nat} {L C n T : Nat} : ∀ (ts : List (Tag × Nat)) (m : Nat), chkP ops l D A L C ts m = true → opsOf ops (ts ++ [(.f T L C, n)]) = ts.map (fun p => ops[p.2]?) ∧ extra (ts ++ [(.f T L C, n)]) = n
  | [], _, _ => ⟨rfl, rfl⟩
  | (t, k) :: ts, m, h => by
    have ih := fun m h => opsOf_ps (ops := ops) (l := l) (D := D) (A := A) (L := L) (C := C) (n := n) (T := T) ts m h
    cases t with
    | p => simp only [chkP, Bool.and_eq_true] at h; have := ih _ h.2; exact ⟨by simp [opsOf, this.1], by simp [extra, this.2]⟩
    | r => simp only [chkP, Bool.and_eq_true] at h; have := ih _ h.2; exact ⟨by simp [opsOf, this.1], by simp [extra, this.2]⟩
    | s => simp only [chkP, Bool.and_eq_true] at h; have := ih _ h.2; exact ⟨by simp [opsOf, this.1], by simp [extra, this.2]⟩
    | l => simp [chkP] at h
    | c => simp [chkP] at h
    | f => simp [chkP] at h
    | g => simp [chkP] at h
def incrN : List Nat → Bool
  | [] => true
  | a :: r => r.all (fun b => Nat.blt a b) && incrN r
theorem incrN_spec : ∀ {l : List Nat}, incrN l = true → l.Pairwise (· < ·)
  | [], _ => .nil
  | a :: r, h => by
    simp only [incrN, Bool.and_eq_true, List.all_eq_true] at h
    exact List.pairwise_cons.2 ⟨fun b hb => by have := h.1 b hb; simpa using this, incrN_spec h.2⟩
def chkI (ops : Array Oper) (l : List Oper) (its : List Item) (D A : List Nat) (L C m : Nat) : List Item → Nat → Bool
  | [], _ => true
  | it :: r, i => (Nat.testBit L it.k && (it.pre.all (fun p => Nat.blt p i && meetN (A.getD it.k 0) (preMask its [p])) && (incrN it.pre && (rdyK D (m ||| preMask its it.pre) it.k && (it.idx.all (fun j => Nat.blt j l.length) && chkP ops l D A L C it.ps (m ||| preMask its it.pre ||| 2 ^ it.k)))))) && chkI ops l its D A L C m r (i + 1)
def disjN : List Item → Nat → Bool
  | [], _ => true
  | it :: r, m => !meetN it.mask m && disjN r (Nat.lor m it.mask)
def disjD : List Item → List Nat → Bool
  | [], _ => true
  | it :: r, ds => it.ds.all (fun d => !inN d ds) && disjD r (it.ds ++ ds)
def chkJ (its : List Item) (D A : List Nat) (m : Nat) : List Nat → Nat → Bool
  | [], _ => true
  | d :: r, j => (Nat.testBit m j || (its.any (fun it => Nat.beq it.k j || (inN j (it.ps.map Prod.snd) && meetN d it.mask)) || its.all (fun it => meetN (A.getD j 0) it.mask && !Nat.testBit it.mask j))) && chkJ its D A m r (j + 1)
def fuelOf (T : Nat) : List Item → Nat
  | [] => 0
  | it :: r => (bif Nat.testBit T it.k then 0 else 1 + it.ps.length) + fuelOf T r
def allMask (m : Nat) : List Item → Nat
  | [] => m
  | it :: r => allMask (Nat.lor m it.mask) r
def chkC (ops : List Oper) (its : List Item) (all : List Nat) (D A : List Nat) (L C m n : Nat) (fr : Fr) (ordR : List Nat) (tsR : List (Tag × Nat)) : Bool :=
  chkI ops.toArray ops its D A L C m its 0 && (disjN its m && (disjD its (fr.map Prod.fst) && (chkJ its D A m D 0 && (incrN all && (all.all (fun p => Nat.blt p its.length) &&
    (Nat.beq n (((inOrder ops ordR).length + extra tsR) + fuelOf m its) && chk ops.toArray ops D A L C tsR (allMask m its)))))))

/-! Frames. -/
theorem Rep.append {N : Nat} {a : Act} {f1 f2 : Fr} (h1 : Rep N a f1) (h2 : Rep N a f2) : Rep N a (f1 ++ f2) := ⟨h1.size, h1.defers, fun t v h => by
  rw [Fr.get_append] at h
  cases hc : f1.get t with
  | some u => rw [hc] at h; exact h1.get t v (hc.trans h)
  | none => rw [hc] at h; exact h2.get t v h⟩
/-- All slots as they are. -/
theorem dump_ex {N : Nat} {a : Act} {fr : Fr} (h : Rep N a fr) : ∃ fo : Fr, Rep N a fo ∧ ∀ t v, a.tmps[t]? = some v → fo.get t = some v := by
  have key : ∀ (k : Nat), ∃ fo : Fr, (∀ t v, fo.get t = some v → a.tmps[t]? = some v) ∧ ∀ t v, t < k → a.tmps[t]? = some v → fo.get t = some v := by
    intro k
    induction k with
    | zero => exact ⟨[], (fun t v h => by cases h), fun t v h => absurd h (Nat.not_lt_zero _)⟩
    | succ k ih =>
      obtain ⟨fo, h1, h2⟩ := ih
      cases hk : a.tmps[k]? with
      | none =>
        refine ⟨fo, h1, fun t v ht hv => ?_⟩
        rcases Nat.lt_or_ge t k with h | h
        · exact h2 t v h hv
        · obtain rfl : t = k := by omega
          rw [hk] at hv; cases hv
      | some u =>
        refine ⟨(k, u) :: fo, fun t v hv => ?_, fun t v ht hv => ?_⟩
        · rw [Fr.get_cons] at hv
          by_cases e : k = t
          · subst e; rw [if_pos rfl] at hv; rw [hk]; exact hv
          · rw [if_neg e] at hv; exact h1 t v hv
        · rw [Fr.get_cons]
          by_cases e : k = t
          · subst e; rw [if_pos rfl, ← hk]; exact hv
          · rw [if_neg e]; exact h2 t v (by omega) hv
  obtain ⟨fo, h1, h2⟩ := key a.tmps.size
  exact ⟨fo, ⟨h.size, h.defers, h1⟩, fun t v hv => h2 t v (Array.getElem?_eq_some_iff.1 hv).1 hv⟩
theorem zip_get {t : Nat} {v : Value} : ∀ {ds : List Nat} {vs : List Value}, Fr.get (ds.zip vs) t = some v → t ∈ ds
  | [], _, h => by simp [Fr.get] at h
  | _ :: _, [], h => by simp [Fr.get] at h
  | d :: ds, u :: vs, h => by
    rw [List.zip_cons_cons, Fr.get_cons] at h
    by_cases e : d = t
    · subst e; simp
    · rw [if_neg e] at h; exact List.mem_cons_of_mem _ (zip_get h)
section
variable {its : List Item} {w : World} {B N : Nat} {a : Act} {lo hi : Nat → Nat} {vv : Nat → List Value}
theorem apartAll_of {l h : Nat} : ∀ {seen : List (Nat × Nat)}, (∀ q ∈ seen, q.2 ≤ l ∨ h ≤ q.1) → apartAll seen l h
  | [], _ => trivial
  | q :: r, hq => ⟨hq q (by simp), apartAll_of (fun q' h' => hq q' (by simp [h']))⟩
theorem given_elim : ∀ (ps : List Nat) (seen : List (Nat × Nat)) (fr : Fr) (K : Fr → Prop), Rep N a fr →
    (∀ p ∈ ps, ∃ it, nthI its p = some it ∧ Rep N a (it.ds.zip (vv p)) ∧ it.φ (vv p) w (lo p) (hi p) ∧ B ≤ lo p ∧ lo p ≤ hi p ∧ hi p ≤ w.heap.size) →
    ps.Pairwise (fun p q => hi p ≤ lo q ∨ hi q ≤ lo p) → (∀ q ∈ seen, ∀ p ∈ ps, q.2 ≤ lo p ∨ hi p ≤ q.1) → given its w B ps seen fr K → ∃ fr', Rep N a fr' ∧ (∀ t, fr'.get t = none → fr.get t = none) ∧ K fr'
  | [], _, fr, K, hr, _, _, _, h => ⟨fr, hr, fun _ h => h, h⟩
  | p :: r, seen, fr, K, hr, hp, hpw, hs, h => by
    obtain ⟨it, h1, h2, h3, h4, h5, h6⟩ := hp p (by simp)
    simp only [given, h1] at h
    have h7 := h (vv p) (lo p) (hi p) h3 h4 h5 h6 (apartAll_of (fun q hq => hs q hq p (by simp)))
    obtain ⟨hpw1, hpw2⟩ := List.pairwise_cons.1 hpw
    obtain ⟨fr', k1, k2, k3⟩ := given_elim r ((lo p, hi p) :: seen) _ K (h2.append hr) (fun q hq => hp q (by simp [hq])) hpw2 (fun q hq p' hp' => by
      rcases List.mem_cons.1 hq with e | e
      · subst e; exact hpw1 p' hp'
      · exact hs q e p' (by simp [hp'])) h7
    refine ⟨fr', k1, fun t ht => ?_, k3⟩
    have := k2 t ht
    rw [Fr.get_append] at this
    cases hc : Fr.get (it.ds.zip (vv p)) t with
    | some u => rw [hc] at this; cases this
    | none => rw [hc] at this; exact this
end
theorem allMask_bit {j : Nat} : ∀ {its : List Item} {m : Nat}, (allMask m its).testBit j = true ↔ m.testBit j = true ∨ ∃ it ∈ its, j ∈ it.idx
  | [], m => by simp [allMask]
  | it :: r, m => by
    rw [allMask, allMask_bit (its := r), show (Nat.lor m it.mask).testBit j = (m.testBit j || it.mask.testBit j) from Nat.testBit_or .., Bool.or_eq_true, show it.mask.testBit j = true ↔ j ∈ it.idx from bitsOf_bit]
    constructor
    · rintro ((h | h) | ⟨x, h1, h2⟩)
      · exact .inl h
      · exact .inr ⟨it, by simp, h⟩
      · exact .inr ⟨x, by simp [h1], h2⟩
    · rintro (h | ⟨x, h1, h2⟩)
      · exact .inl (.inl h)
      · rcases List.mem_cons.1 h1 with e | e
        · subst e; exact .inl (.inr h2)
        · exact .inr ⟨x, e, h2⟩
theorem disjN_spec : ∀ {its : List Item} {m : Nat}, disjN its m = true → (∀ it ∈ its, ∀ j ∈ it.idx, m.testBit j = false) ∧ ∀ i i' it it', nthI its i = some it → nthI its i' = some it' → i ≠ i' → ∀ j ∈ it.idx, j ∉ it'.idx
  | [], m, _ => ⟨fun _ h => absurd h (by simp), fun i _ _ _ h => by cases i <;> cases h⟩
  | x :: r, m, h => by
    simp only [disjN, Bool.and_eq_true, Bool.not_eq_true'] at h
    obtain ⟨h1, h2⟩ := h
    obtain ⟨k1, k2⟩ := disjN_spec h2
    have kx : ∀ j ∈ x.idx, m.testBit j = false := fun j hj => by
      cases hb : m.testBit j with
      | false => rfl
      | true =>
        have : meetN x.mask m = true := by
          unfold meetN
          simp only [Bool.not_eq_true']
          cases hz : Nat.beq (Nat.land x.mask m) 0 with
          | false => rfl
          | true =>
            have e := Nat.eq_of_beq_eq_true hz
            have : (x.mask &&& m).testBit j = true := by rw [Nat.testBit_and, hb, show x.mask.testBit j = true from bitsOf_bit.2 hj]; rfl
            rw [show x.mask &&& m = 0 from e] at this
            simp at this
        rw [h1] at this; cases this
    have kr : ∀ it ∈ r, ∀ j ∈ it.idx, m.testBit j = false ∧ j ∉ x.idx := fun it hit j hj => by
      have := k1 it hit j hj
      rw [show (Nat.lor m x.mask).testBit j = (m.testBit j || x.mask.testBit j) from Nat.testBit_or .., Bool.or_eq_false_iff] at this
      refine ⟨this.1, fun hx => ?_⟩
      have h3 : x.mask.testBit j = true := bitsOf_bit.2 hx
      rw [this.2] at h3; cases h3
    refine ⟨fun it hit j hj => ?_, fun i i' it it' hi hi' hne j hj hj' => ?_⟩
    · rcases List.mem_cons.1 hit with e | e
      · subst e; exact kx j hj
      · exact (kr it e j hj).1
    · cases i with
      | zero =>
        injection hi with hi; subst hi
        cases i' with
        | zero => exact hne rfl
        | succ i' => exact (kr it' (nthI_mem (l := r) (i := i') hi') j hj').2 hj
      | succ i =>
        cases i' with
        | zero => injection hi' with hi'; subst hi'; exact (kr it (nthI_mem (l := r) (i := i) hi) j hj).2 hj'
        | succ i' => exact k2 i i' it it' hi hi' (by omega) j hj hj'
theorem inN_iff {t : Nat} : ∀ {l : List Nat}, inN t l = true ↔ t ∈ l
  | [] => by simp [inN]
  | a :: l => by
    rw [List.mem_cons, ← inN_iff (l := l), inN]
    cases hb : Nat.beq a t with
    | true => simp [(Nat.eq_of_beq_eq_true hb).symm]
    | false => simp [show t ≠ a from fun e => by subst e; simp at hb]
theorem disjD_spec : ∀ {its : List Item} {ds : List Nat}, disjD its ds = true → (∀ it ∈ its, ∀ d ∈ it.ds, d ∉ ds) ∧ ∀ i i' it it', nthI its i = some it → nthI its i' = some it' → i ≠ i' → ∀ d ∈ it.ds, d ∉ it'.ds
  | [], _, _ => ⟨fun _ h => absurd h (by simp), fun i _ _ _ h => by cases i <;> cases h⟩
  | x :: r, ds, h => by
    simp only [disjD, Bool.and_eq_true, List.all_eq_true, Bool.not_eq_true'] at h
    obtain ⟨h1, h2⟩ := h
    obtain ⟨k1, k2⟩ := disjD_spec h2
    have kx : ∀ d ∈ x.ds, d ∉ ds := fun d hd hm => by have := h1 d hd; rw [inN_iff.2 hm] at this; cases this
    have kr : ∀ it ∈ r, ∀ d ∈ it.ds, d ∉ x.ds ∧ d ∉ ds := fun it hit d hd => by
      have := k1 it hit d hd
      rw [List.mem_append, not_or] at this
      exact this
    refine ⟨fun it hit d hd => ?_, fun i i' it it' hi hi' hne d hd hd' => ?_⟩
    · rcases List.mem_cons.1 hit with e | e
      · subst e; exact kx d hd
      · exact (kr it e d hd).2
    · cases i with
      | zero =>
        injection hi with hi; subst hi
        cases i' with
        | zero => exact hne rfl
        | succ i' => exact (kr it' (nthI_mem (l := r) (i := i') hi') d hd').1 hd
      | succ i =>
        cases i' with
        | zero => injection hi' with hi'; subst hi'; exact (kr it (nthI_mem (l := r) (i := i) hi) d hd).1 hd'
        | succ i' => exact k2 i i' it it' hi hi' (by omega) d hd hd'
theorem nthOp_eq : ∀ (l : List Oper) (k : Nat), nthOp l k = l[k]?
  | [], _ => rfl
  | _ :: _, 0 => rfl
  | _ :: l, k + 1 => by rw [nthOp, nthOp_eq l k]; simp
theorem inOrder_map {ops : List Oper} : ∀ {ks : List Nat}, (∀ j ∈ ks, j < ops.length) → (inOrder ops ks).map some = ks.map (fun k => ops.toArray[k]?)
  | [], _ => rfl
  | k :: ks, h => by
    have hk : k < ops.length := h k (by simp)
    rw [inOrder, nthOp_eq, List.getElem?_eq_getElem hk]
    simp only [List.map_cons]
    rw [inOrder_map (fun j hj => h j (by simp [hj]))]
    simp [hk]
theorem fuel_step {T T2 : Nat} : ∀ {its : List Item} {i : Nat} {it : Item}, nthI its i = some it → T.testBit it.k = false → T2.testBit it.k = true → (∀ i' it', nthI its i' = some it' → i' ≠ i → T2.testBit it'.k = T.testBit it'.k) → fuelOf T its = fuelOf T2 its + (1 + it.ps.length)
  | x :: r, 0, it, h, h1, h2, h3 => by
    injection h with h; subst h
    have hr : ∀ (r : List Item), (∀ y ∈ r, T2.testBit y.k = T.testBit y.k) → fuelOf T r = fuelOf T2 r := fun r hy => by
      induction r with
      | nil => rfl
      | cons y r ih => rw [fuelOf, fuelOf, hy y (by simp), ih (fun z hz => hy z (by simp [hz]))]
    rw [fuelOf, fuelOf, h1, h2, hr r (fun y hy => by obtain ⟨j, _, hj⟩ := nthI_of_mem hy; exact h3 (j + 1) y hj (by omega))]
    simp only [cond_true, cond_false]; omega
  | x :: r, i + 1, it, h, h1, h2, h3 => by
    have := fuel_step (its := r) (i := i) h h1 h2 (fun i' it' hi' hne => h3 (i' + 1) it' hi' (by omega))
    rw [fuelOf, fuelOf, this, h3 0 x rfl (by omega)]; omega
theorem fuel_zero {T : Nat} : ∀ {its : List Item}, (∀ it ∈ its, T.testBit it.k = true) → fuelOf T its = 0
  | [], _ => rfl
  | x :: r, h => by rw [fuelOf, h x (by simp), fuel_zero (fun y hy => h y (by simp [hy]))]; rfl
theorem fuel_same {T T2 : Nat} : ∀ {its : List Item}, (∀ it ∈ its, T2.testBit it.k = T.testBit it.k) → fuelOf T2 its = fuelOf T its
  | [], _ => rfl
  | x :: r, h => by rw [fuelOf, fuelOf, h x (by simp), fuel_same (fun y hy => h y (by simp [hy]))]

theorem chkI_spec {ops : Array Oper} {l : List Oper} {its : List Item} {D A : List Nat} {L C m : Nat} : ∀ {r : List Item} {i0 : Nat}, chkI ops l its D A L C m r i0 = true → ∀ i it, nthI r i = some it →
    L.testBit it.k = true ∧ (∀ p ∈ it.pre, p < i0 + i ∧ ∃ j, (A.getD it.k 0).testBit j = true ∧ ∃ x, nthI its p = some x ∧ j ∈ x.idx) ∧ it.pre.Pairwise (· < ·) ∧ rdyK D (m ||| preMask its it.pre) it.k = true ∧ (∀ j ∈ it.idx, j < l.length) ∧ chkP ops l D A L C it.ps (m ||| preMask its it.pre ||| 2 ^ it.k) = true
  | x :: r, i0, h, i, it, hi => by
    simp only [chkI, Bool.and_eq_true, List.all_eq_true] at h
    obtain ⟨⟨h1, h2, h3, h4, h5, h6⟩, h7⟩ := h
    cases i with
    | zero =>
      injection hi with hi; subst hi
      refine ⟨h1, fun p hp => ?_, incrN_spec h3, h4, fun j hj => by have := h5 j hj; simpa using this, h6⟩
      obtain ⟨h8, h9⟩ := h2 p hp
      obtain ⟨j, k1, k2⟩ := meetN_spec h9
      obtain ⟨q, hq, y, hy, hj⟩ := preMask_bit k2
      rw [List.mem_singleton] at hq; subst hq
      exact ⟨by simpa using h8, j, k1, y, hy, hj⟩
    | succ i =>
      have := chkI_spec h7 i it hi
      refine ⟨this.1, fun p hp => ?_, this.2.2⟩
      obtain ⟨k1, k2⟩ := this.2.1 p hp
      exact ⟨by omega, k2⟩
theorem chkJ_spec {its : List Item} {D A : List Nat} {m : Nat} : ∀ {r : List Nat} {j0 : Nat}, chkJ its D A m r j0 = true → ∀ j d, r[j]? = some d →
    m.testBit (j0 + j) = true ∨ (∃ it ∈ its, it.k = j0 + j ∨ (j0 + j ∈ it.ps.map Prod.snd ∧ ∃ b, d.testBit b = true ∧ b ∈ it.idx)) ∨ ∀ it ∈ its, (∃ b, (A.getD (j0 + j) 0).testBit b = true ∧ b ∈ it.idx) ∧ j0 + j ∉ it.idx
  | [], _, _, j, d, hd => by simp at hd
  | d0 :: r, j0, h, j, d, hd => by
    simp only [chkJ, Bool.and_eq_true, Bool.or_eq_true, List.any_eq_true, List.all_eq_true] at h
    cases j with
    | zero =>
      simp only [List.getElem?_cons_zero, Option.some.injEq] at hd
      subst hd
      rw [Nat.add_zero]
      rcases h.1 with h1 | ⟨it, h1, h2⟩ | h1
      · exact .inl h1
      · refine .inr (.inl ⟨it, h1, ?_⟩)
        rcases h2 with h2 | ⟨h2, h3⟩
        · exact .inl (Nat.eq_of_beq_eq_true h2)
        · obtain ⟨b, k1, k2⟩ := meetN_spec h3
          exact .inr ⟨inN_iff.1 h2, b, k1, bitsOf_bit.1 k2⟩
      · refine .inr (.inr fun it hit => ?_)
        have h2 := h1 it hit
        simp only [Bool.and_eq_true, Bool.not_eq_true'] at h2
        obtain ⟨b, k1, k2⟩ := meetN_spec h2.1
        refine ⟨⟨b, k1, bitsOf_bit.1 k2⟩, fun hm => ?_⟩
        rw [show it.mask.testBit j0 = true from bitsOf_bit.2 hm] at h2
        cases h2.2
    | succ j =>
      have := chkJ_spec h.2 j d (by simpa using hd)
      rw [show j0 + (j + 1) = j0 + 1 + j by omega]
      exact this
/-- Where the operations at its have come to (those whose bits are in T). -/
structure ConcSt (its : List Item) (N : Nat) (fr : Fr) (w0 : World) (m T : Nat) (a : Act) (w : World) (lo hi : Nat → Nat) (vv : Nat → List Value) : Prop where
  rep : Rep N a fr
  bel : Below w0.heap.size w0 w
  low : ∀ j, m.testBit j = true → T.testBit j = true
  up : ∀ j, T.testBit j = true → m.testBit j = true ∨ ∃ it ∈ its, j ∈ it.idx
  whole : ∀ it ∈ its, ∀ j ∈ it.idx, T.testBit j = T.testBit it.k
  f : ∀ i it, nthI its i = some it → T.testBit it.k = true → Rep N a (it.ds.zip (vv i)) ∧ it.φ (vv i) w (lo i) (hi i) ∧ w0.heap.size ≤ lo i ∧ lo i ≤ hi i ∧ hi i ≤ w.heap.size
  ap : ∀ i j it it', nthI its i = some it → nthI its j = some it' → T.testBit it.k = true → T.testBit it'.k = true → i ≠ j → hi i ≤ lo j ∨ hi j ≤ lo i
section
variable {P : Program} {fn : Func} {F : Ending → World → Prop} {N : Nat} {ks : List K} {ops : List Oper} {fr : Fr} {w : World} {row : Rw} {L C : Nat}
/-- The step of an item: what it waits for is there; others may have come in between. -/
def stepOf (P : Program) (fn : Func) (F : Ending → World → Prop) (N : Nat) (ks : List K) (ops : List Oper) (fr : Fr) (w : World) (row : Rw) (L C : Nat) (its : List Item) (it : Item) : Prop :=
  ∀ (w' : World), Below w.heap.size w w' → ∀ (fo : Fr) (T T2 n2 : Nat), given its w' w.heap.size it.pre [] (fr ++ fo) fun fr' =>
    (∀ (vs : List Value) (w'' : World), it.φ vs w'' w'.heap.size w''.heap.size → Below w'.heap.size w' w'' → WL P fn F N ks ops.toArray (some (row, [(.f T2 L C, n2)])) [] (it.ds.zip vs ++ fr') w'') →
    WL P fn F N ks ops.toArray (some (row, (.g T L C, it.k) :: (it.ps ++ [(.f T2 L C, n2)]))) (inOrder ops it.idx) fr' w'
def stepsOf (P : Program) (fn : Func) (F : Ending → World → Prop) (N : Nat) (ks : List K) (ops : List Oper) (fr : Fr) (w : World) (row : Rw) (L C : Nat) (its : List Item) : List Item → Prop
  | [] => True
  | it :: r => stepOf P fn F N ks ops fr w row L C its it ∧ stepsOf P fn F N ks ops fr w row L C its r
theorem stepsOf_spec {its : List Item} : ∀ {r : List Item}, stepsOf P fn F N ks ops fr w row L C its r → ∀ it ∈ r, stepOf P fn F N ks ops fr w row L C its it
  | _ :: _, h, it, hi => by
    rcases List.mem_cons.1 hi with e | e
    · subst e; exact h.1
    · exact stepsOf_spec h.2 it e
theorem wl_conc {m n : Nat} (its : List Item) (all D A ordR : List Nat) (tsR : List (Tag × Nat)) (hD : ops.map (dmask .any) = D) (hA : ancs .any ops [] = A) (hc : chkC ops its all D A L C m n fr ordR tsR = true)
    (hlR : (inOrder ops ordR).map some = opsOf ops.toArray tsR) (hst : stables its) (hstep : stepsOf P fn F N ks ops fr w row L C its its)
    (hend : ∀ w', Below w.heap.size w w' → given its w' w.heap.size all [] fr fun fr' => WL P fn F N ks ops.toArray (some (row, tsR)) (inOrder ops ordR) fr' w') :
    WL P fn F N ks ops.toArray (some (row, [(.f m L C, n)])) [] fr w := by
  simp only [chkC, Bool.and_eq_true, List.all_eq_true] at hc
  obtain ⟨c1, c2, c3, c4, c5, c6, c8, c9⟩ := hc
  have hI := fun i it hi => chkI_spec c1 i it hi
  have hJ := fun j d hd => chkJ_spec c4 j d hd
  obtain ⟨d1, d2⟩ := disjN_spec c2
  obtain ⟨e1, e2⟩ := disjD_spec c3
  have hstab := stables_spec hst
  have hsteps := stepsOf_spec hstep
  obtain ⟨base, hbase⟩ : ∃ b, (inOrder ops ordR).length + extra tsR = b := ⟨_, rfl⟩
  have hn := Nat.eq_of_beq_eq_true c8
  rw [hbase] at hn
  subst hn
  have hfr : ∀ it ∈ its, ∀ d ∈ it.ds, fr.get d = none := fun it hit d hd => by
    refine (Fr.get_none_iff fr d).2 ?_
    cases hb : inN d (fr.map Prod.fst) with
    | false => rfl
    | true => exact absurd (inN_iff.1 hb) (e1 it hit d hd)
  have main : ∀ (f T : Nat) (a : Act) (w' : World) (lo hi : Nat → Nat) (vv : Nat → List Value), f = fuelOf T its → ConcSt its N fr w m T a w' lo hi vv → Left P (kpost P fn F ks) ops.toArray (some (row, [(.f T L C, base + f)])) [] a w' := by
    intro f
    induction f using Nat.strongRecOn with
    | _ f ih =>
      intro T a w' lo hi vv hf hS
      intro D' A' L' C' listed m' hm _ hchk
      unfold chk at hchk
      simp only [Bool.and_eq_true] at hchk
      obtain ⟨hm1, hL1, hC1⟩ := hchk
      obtain rfl := Nat.eq_of_beq_eq_true hm1
      obtain rfl := Nat.eq_of_beq_eq_true hL1
      obtain rfl := Nat.eq_of_beq_eq_true hC1
      obtain rfl : D' = D := by rw [hm.D, ← hD]
      obtain rfl : A' = A := by rw [hm.A, ← hA]
      show wpMix P .any ops.toArray _ _ _ row (0 + (base + f)) listed a w'
      rw [Nat.zero_add]
      have hbefore : ∀ j i, (A'.getD j 0).testBit i = true → Before .any ops.toArray i j := by
        rw [hm.A]
        exact ancs_spec ops.toArray.toList [] (fun j => by simp) (fun j i hb => by simp at hb)
      -- what is ahead of a ready operation is through
      have hahead : ∀ j ∈ Region.ready .any ops.toArray listed, ∀ b, (A'.getD j 0).testBit b = true → b = j ∨ m'.testBit b = true := fun j hj b hb => by
        by_cases e : b = j
        · exact .inl e
        · refine .inr ?_
          have hlt : j < listed.size := by
            have h0 := (mem_ready.1 hj).1
            rcases Nat.lt_or_ge j listed.size with h | h
            · exact h
            · simp [Array.getElem?_eq_none h] at h0
          have h1 := hbefore j b hb _ (hm.closed.set hj) (by simp [hlt])
          rw [getD_set_ne false (Ne.symm e)] at h1
          rw [← hm.bits]; exact h1
      by_cases hall : ∀ it ∈ its, m'.testBit it.k = true
      · -- all through
        have hf0 : f = 0 := by rw [hf, fuel_zero hall]
        subst hf0
        have hT : m' = allMask m its := Nat.eq_of_testBit_eq fun j => by
          cases h1 : m'.testBit j with
          | true => exact (allMask_bit.2 (hS.up j h1)).symm
          | false =>
            cases h2 : (allMask m its).testBit j with
            | false => rfl
            | true =>
              rcases allMask_bit.1 h2 with h3 | ⟨it, h3, h4⟩
              · rw [hS.low j h3] at h1; cases h1
              · rw [hS.whole it h3 j h4, hall it h3] at h1; cases h1
        have hpos : ∀ p ∈ all, ∃ it, nthI its p = some it := fun p hp => by
          have hlt : p < its.length := by have := c6 p hp; simpa using this
          exact nthI_some hlt
        obtain ⟨fr', k1, _, k2⟩ := given_elim (its := its) (lo := lo) (hi := hi) (vv := vv) all [] fr _ hS.rep (fun p hp => by
          obtain ⟨it, hit⟩ := hpos p hp
          obtain ⟨h1, h2, h3, h4, h5⟩ := hS.f p it hit (hall it (nthI_mem hit))
          exact ⟨it, hit, h1, h2, h3, h4, h5⟩) (List.Pairwise.imp_of_mem (fun {p q} hp hq hpq => by
            obtain ⟨it, hit⟩ := hpos p hp
            obtain ⟨it', hit'⟩ := hpos q hq
            exact hS.ap p q it it' hit hit' (hall it (nthI_mem hit)) (hall it' (nthI_mem hit')) (by omega)) (incrN_spec c5)) (fun q hq => by cases hq) (hend w' hS.bel)
        have := left_elim (k2 a k1) hm hlR (by rw [hT]; exact c9)
        rw [hbase] at this
        simpa using this
      · -- the first item that is left is ready
        obtain ⟨i0, it0, hi0, hu0, hmin⟩ : ∃ i it, nthI its i = some it ∧ m'.testBit it.k = false ∧ ∀ j, j < i → ∀ x, nthI its j = some x → m'.testBit x.k = true := by
          refine Classical.byContradiction fun hno => hall fun it hit => ?_
          obtain ⟨i, _, hi'⟩ := nthI_of_mem hit
          have key : ∀ i it, nthI its i = some it → m'.testBit it.k = true := by
            intro i
            induction i using Nat.strongRecOn with
            | _ i ihi =>
              intro it hit
              cases hb : m'.testBit it.k with
              | true => rfl
              | false => exact absurd ⟨i, it, hit, hb, fun j hj x hx => ihi j hj x hx⟩ hno
          exact key i it hi'
        have hsub : ∀ it, it ∈ its → (∀ p ∈ it.pre, ∀ x, nthI its p = some x → m'.testBit x.k = true) → ∀ j, (m ||| preMask its it.pre).testBit j = true → m'.testBit j = true := fun it hit hp j hj => by
          rw [Nat.testBit_or, Bool.or_eq_true] at hj
          rcases hj with hj | hj
          · exact hS.low j hj
          · obtain ⟨p, h1, x, h2, h3⟩ := preMask_bit hj
            rw [hS.whole x (nthI_mem h2) j h3]
            exact hp p h1 x h2
        have hrdy0 : it0.k ∈ Region.ready .any ops.toArray listed := hm.ready (rdyK_mono (hsub it0 (nthI_mem hi0) fun p hp x hx => hmin p (by have := ((hI i0 it0 hi0).2.1 p hp).1; omega) x hx) hu0 (hI i0 it0 hi0).2.2.2.1)
        obtain ⟨f', hf'⟩ : ∃ f', f = f' + 1 := by
          have := fuel_step (T := m') (T2 := m' ||| it0.mask) hi0 hu0 (by rw [Nat.testBit_or, show it0.mask.testBit it0.k = true from bitsOf_bit.2 (by simp [Item.idx])]; simp) (fun i' it' hi' hne => by
            rw [Nat.testBit_or]
            cases hb : it0.mask.testBit it'.k with
            | false => simp
            | true => exact absurd (bitsOf_bit.1 hb) (d2 i' i0 it' it0 hi' hi0 hne it'.k (by simp [Item.idx])))
          exact ⟨fuelOf (m' ||| it0.mask) its + it0.ps.length, by omega⟩
        rw [hf', ← Nat.add_assoc]
        refine ⟨fun h => (by rw [h] at hrdy0; cases hrdy0), fun j hj => ?_⟩
        -- which one it is
        obtain ⟨hjun, oj, hoj, hjall⟩ := mem_ready.1 hj
        have hjlt : j < ops.toArray.size := (Array.getElem?_eq_some_iff.1 hoj).1
        have hju : m'.testBit j = false := by rw [← hm.getD hjlt]; exact hjun
        have hDj := hm.dAt hoj
        obtain ⟨i, it, hi', rfl⟩ : ∃ i it, nthI its i = some it ∧ it.k = j := by
          rcases hJ j _ hDj with h1 | ⟨it, h1, h2⟩ | h1
          · rw [Nat.zero_add] at h1; rw [hS.low j h1] at hju; cases hju
          · obtain ⟨i, _, hi'⟩ := nthI_of_mem h1
            rw [Nat.zero_add] at h2
            rcases h2 with h2 | ⟨h2, b, h3, h4⟩
            · exact ⟨i, it, hi', h2⟩
            · exfalso
              have h5 : m'.testBit b = true := by
                obtain ⟨e, he, hb, rfl⟩ := dmask_bit.1 h3
                rw [← hm.bits]; exact hjall e he hb
              have h6 := hS.whole it h1 b h4
              have h7 := hS.whole it h1 j (by simp [Item.idx, h2])
              rw [h5] at h6; rw [← h6, hju] at h7; cases h7
          · exfalso
            rw [Nat.zero_add] at h1
            obtain ⟨⟨b, h2, h3⟩, h5⟩ := h1 it0 (nthI_mem hi0)
            rcases hahead j hj b h2 with h4 | h4
            · subst h4; exact h5 h3
            · rw [hS.whole it0 (nthI_mem hi0) b h3, hu0] at h4; cases h4
        obtain ⟨q1, q2, q3, q4, q5, q6⟩ := hI i it hi'
        have hit := nthI_mem hi'
        rw [if_pos q1]
        have hpre : ∀ p ∈ it.pre, ∃ x, nthI its p = some x ∧ m'.testBit x.k = true := fun p hp => by
          obtain ⟨h1, b, h2, x, h3, h4⟩ := q2 p hp
          refine ⟨x, h3, ?_⟩
          rcases hahead it.k hj b h2 with h5 | h5
          · subst h5; exact absurd h4 (d2 i p it x hi' h3 (by omega) _ (by simp [Item.idx]))
          · rw [← hS.whole x (nthI_mem h3) b h4]; exact h5
        have hsb := hsub it hit (fun p hp x hx => by
          obtain ⟨y, h1, h2⟩ := hpre p hp
          rw [hx] at h1; injection h1 with h1; rw [h1]; exact h2)
        obtain ⟨fo, hfo, hfo2⟩ := dump_ex hS.rep
        obtain ⟨T2, hT2⟩ : ∃ T2, maskAfter it.ps (m' ||| 2 ^ it.k) = T2 := ⟨_, rfl⟩
        have hT2b : ∀ j, T2.testBit j = true ↔ m'.testBit j = true ∨ j ∈ it.idx := fun j => by
          rw [← hT2, maskAfter_bit, bit_lor, Item.idx, List.mem_cons]
          constructor
          · rintro ((h | h) | h)
            · exact .inl h
            · exact .inr (.inl h.symm)
            · exact .inr (.inr h)
          · rintro (h | h | h)
            · exact .inl (.inl h)
            · exact .inl (.inr h.symm)
            · exact .inr h
        have hT2k : T2.testBit it.k = true := (hT2b _).2 (.inr (by simp [Item.idx]))
        have hT2o : ∀ i' it', nthI its i' = some it' → i' ≠ i → ∀ j ∈ it'.idx, T2.testBit j = m'.testBit j := fun i' it' hi2 hne j hj => by
          cases hb : m'.testBit j with
          | true => exact (hT2b j).2 (.inl hb)
          | false =>
            cases hb2 : T2.testBit j with
            | false => rfl
            | true =>
              rcases (hT2b j).1 hb2 with h | h
              · rw [hb] at h; cases h
              · exact absurd h (d2 i' i it' it hi2 hi' hne j hj)
        have hfuel := fuel_step (T := m') (T2 := T2) hi' hju hT2k (fun i' it' hi2 hne => hT2o i' it' hi2 hne it'.k (by simp [Item.idx]))
        obtain ⟨fr', k1, k2, k3⟩ := given_elim (its := its) (lo := lo) (hi := hi) (vv := vv) it.pre [] (fr ++ fo) _ (hS.rep.append hfo) (fun p hp => by
          obtain ⟨x, hx, hb⟩ := hpre p hp
          obtain ⟨h1, h2, h3, h4, h5⟩ := hS.f p x hx hb
          exact ⟨x, hx, h1, h2, h3, h4, h5⟩) (List.Pairwise.imp_of_mem (fun {p q} hp hq hpq => by
            obtain ⟨x, hx, hb⟩ := hpre p hp
            obtain ⟨y, hy, hb'⟩ := hpre q hq
            exact hS.ap p q x y hx hy hb hb' (by omega)) q3) (fun q hq => by cases hq) (hsteps it hit w' hS.bel fo m' T2 (base + fuelOf T2 its))
        have hkeep : ∀ t v, a.tmps[t]? = some v → fr'.get t = some v := fun t v hv => by
          cases hg : fr'.get t with
          | some u => rw [← hv]; exact (k1.get t u hg).symm
          | none =>
            have h1 := k2 t hg
            rw [Fr.get_append, hfo2 t v hv] at h1
            cases h2 : fr.get t <;> rw [h2] at h1 <;> cases h1
        have hL := k3 (fun vs w'' hφ hb a' ha' => by
          have hkeep' : ∀ t v, a.tmps[t]? = some v → t ∉ it.ds → a'.tmps[t]? = some v := fun t v hv ht => by
            refine ha'.get t v ?_
            rw [Fr.get_append]
            cases hz : Fr.get (it.ds.zip vs) t with
            | some u => exact absurd (zip_get hz) ht
            | none => exact hkeep t v hv
          have hss := hb.size
          have hs0 := hS.bel.size
          refine ih (fuelOf T2 its) (by omega) T2 a' w'' (fun j => if j = i then w'.heap.size else lo j) (fun j => if j = i then w''.heap.size else hi j) (fun j => if j = i then vs else vv j) rfl
            ⟨⟨ha'.size, ha'.defers, fun t v hv => hkeep' t v (hS.rep.get t v hv) (fun hd => by rw [hfr it hit t hd] at hv; cases hv)⟩, hS.bel.trans (hb.mono hs0), fun j hj => (hT2b j).2 (.inl (hS.low j hj)), fun j hj => ?_, fun it' hit' j hj => ?_, fun i' it' hi2 hb2 => ?_, fun i1 i2 x y hx hy hbx hby hne => ?_⟩
          · rcases (hT2b j).1 hj with h | h
            · exact hS.up j h
            · exact .inr ⟨it, hit, h⟩
          · obtain ⟨i', _, hi2⟩ := nthI_of_mem hit'
            by_cases e : i' = i
            · subst e
              rw [hi'] at hi2; injection hi2 with hi2; subst hi2
              rw [hT2k, (hT2b j).2 (.inr hj)]
            · rw [hT2o i' it' hi2 e j hj, hT2o i' it' hi2 e it'.k (by simp [Item.idx])]
              exact hS.whole it' hit' j hj
          · by_cases e : i' = i
            · subst e
              rw [hi'] at hi2; injection hi2 with hi2; subst hi2
              simp only [if_true]
              refine ⟨⟨ha'.size, ha'.defers, fun t v hv => ha'.get t v ?_⟩, hφ, by omega, by omega, Nat.le_refl _⟩
              rw [Fr.get_append, hv]
            · simp only [if_neg e]
              rw [hT2o i' it' hi2 e it'.k (by simp [Item.idx])] at hb2
              obtain ⟨h1, h2, h3, h4, h5⟩ := hS.f i' it' hi2 hb2
              refine ⟨⟨ha'.size, ha'.defers, fun t v hv => hkeep' t v (h1.get t v hv) (fun hd => ?_)⟩, hstab it' (nthI_mem hi2) _ _ _ _ _ h2 hb, h3, h4, by omega⟩
              exact e2 i' i it' it hi2 hi' e t (zip_get hv) hd
          · by_cases ex : i1 = i
            · subst ex
              have ey : i2 ≠ i1 := Ne.symm hne
              simp only [if_true, if_neg ey]
              rw [hT2o i2 y hy ey y.k (by simp [Item.idx])] at hby
              have := (hS.f i2 y hy hby).2.2.2.2
              exact .inr this
            · by_cases ey : i2 = i
              · subst ey
                simp only [if_true, if_neg ex]
                rw [hT2o i1 x hx ex x.k (by simp [Item.idx])] at hbx
                have := (hS.f i1 x hx hbx).2.2.2.2
                exact .inl this
              · simp only [if_neg ex, if_neg ey]
                rw [hT2o i1 x hx ex x.k (by simp [Item.idx])] at hbx
                rw [hT2o i2 y hy ey y.k (by simp [Item.idx])] at hby
                exact hS.ap i1 i2 x y hx hy hbx hby hne) a k1
        have hmap := inOrder_map q5
        obtain ⟨o, l', hol⟩ : ∃ o l', inOrder ops it.idx = o :: l' := by
          cases h : inOrder ops it.idx with
          | nil => rw [h] at hmap; simp [Item.idx] at hmap
          | cons o l' => exact ⟨o, l', rfl⟩
        rw [hol] at hmap
        have hmap2 : some o = ops.toArray[it.k]? ∧ l'.map some = (it.ps.map Prod.snd).map (fun k => ops.toArray[k]?) := by
          rw [Item.idx, List.map_cons, List.map_cons] at hmap
          exact List.cons.inj hmap
        obtain ⟨o1, o2⟩ := opsOf_ps (ops := ops.toArray) (l := ops.toArray.toList) (n := base + fuelOf T2 its) (T := T2) it.ps _ q6
        have hl' : l'.length = it.ps.length := by have := congrArg List.length hmap2.2; simpa using this
        have fin := hL D' A' listed o l' hol hm hmap2.1.symm (by rw [hmap2.2, o1, List.map_map]; rfl) hj (by
          rw [← hT2]
          exact chk_of_chkP (T := m') it.ps _ _ q6 (fun i hi => by rw [bit_lor] at hi ⊢; exact hi.imp (hsb i) id) (fun i hi => by
            rw [bit_lor] at hi ⊢
            rcases hi with hi | hi
            · exact .inl hi
            · exact .inr (.inr hi)) (fun p hp => by rw [hS.whole it hit p.2 (by simp only [Item.idx, List.mem_cons, List.mem_map]; exact .inr ⟨p, hp, rfl⟩)]; exact hju))
        rw [o2, hl'] at fin
        rw [show base + f' = it.ps.length + (base + fuelOf T2 its) by omega]
        exact fin
  intro a ha
  have h0 : ∀ it ∈ its, m.testBit it.k = false := fun it hit => d1 it hit it.k (by simp [Item.idx])
  exact main _ m a w (fun _ => 0) (fun _ => 0) (fun _ => []) rfl ⟨ha, Below.refl _ _, fun _ h => h, fun _ h => .inl h, fun it hit j hj => by rw [d1 it hit j hj, h0 it hit],
    fun i it hi hb => absurd hb (by rw [h0 it (nthI_mem hi)]; simp), fun i j it it' hi _ hb _ _ => absurd hb (by rw [h0 it (nthI_mem hi)]; simp)⟩
end
end Go.Proofs.YtklijaahbahcoaaDoor
/-
  A page's bytes; arrays of 512 bytes in blocks of their own.
-/
namespace Go.Proofs.YtklijaahbahcoaaDoor
set_option maxRecDepth 100000
open Go.RowKit
/-- Bytes from a place on replaced. -/
def putB (c : By) (k : Nat) (m : By) : By := c.take k ++ m ++ c.drop (k + m.length)
theorem putB_len {c m : By} {k : Nat} (h : k + m.length ≤ c.length) : (putB c k m).length = c.length := by
  rw [putB, List.length_append, List.length_append, List.length_take, List.length_drop]; omega
theorem spl_B8 (c m : By) (k : Nat) : spl (B8 c) k (B8 m) = B8 (putB c k m) := by
  unfold spl putB
  rw [B8_length]
  simp [B8, List.map_append, List.map_take, List.map_drop]
section
variable {P : Program} {N : Nat} {fr : Fr} {w : World} {ty t t' : TypeId} {n g : Nat} {x y z : Operand} {h h2 : Int} {kh kl : IntKind}
--@ rule slice p o_slArrLo
theorem o_slArrLo (k : Nat) (hu : P.underlying t = some (.array n 5)) (hs : ∀ w, (sizeOf 5).run P w = .ok 1 w) (hx : fr.ev x = some (.pointer (some ⟨g, 0, none⟩))) (hy : fr.ev y = some (.int kl h)) (hh : h = (k : Int)) (hk : k < n) : OpV P N fr w (.slice t x (some y) none none) ty (.slice (some ⟨g, k, none⟩) (n - k) (n - k)) w := by
  subst hh
  intro a ha op hop _
  have h1 : ¬ n = k := by omega
  simp [execOp, hop, ha.ev hx, ha.ev hy, Instr.sliceAt, Instr.sureAddr, run_underlying hu, Instr.sliceBounds, Instr.sliceBound, asIntOf, hs, Nat.le_of_lt hk, Addr.add, h1]
  intro e
  rw [e]
--@ rule slice p o_slArrBoth
theorem o_slArrBoth (lo hi : Nat) (hu : P.underlying t = some (.array n 5)) (hs : ∀ w, (sizeOf 5).run P w = .ok 1 w) (hx : fr.ev x = some (.pointer (some ⟨g, 0, none⟩))) (hy : fr.ev y = some (.int kl h)) (hz : fr.ev z = some (.int kh h2)) (hh : h = (lo : Int)) (hh2 : h2 = (hi : Int)) (hk : lo < n) (hk2 : lo ≤ hi) (hk3 : hi ≤ n) : OpV P N fr w (.slice t x (some y) (some z) none) ty (.slice (some ⟨g, lo, none⟩) (hi - lo) (n - lo)) w := by
  subst hh; subst hh2
  intro a ha op hop _
  have h1 : ¬ n = lo := by omega
  simp [execOp, hop, ha.ev hx, ha.ev hy, ha.ev hz, Instr.sliceAt, Instr.sureAddr, run_underlying hu, Instr.sliceBounds, Instr.sliceBound, asIntOf, hs, hk2, hk3, Addr.add, h1]
  intro e
  rw [e]
end
theorem rd_lo {w : World} {g : Nat} {t : TypeId} {c : By} (hB : Blk w g t (B8 c)) (k : Nat) : Rd w (some ⟨g, k, none⟩) (c.drop k) := by
  refine ⟨by rw [B8_length, Nat.mul_one], fun _ => ⟨g, k, rfl, fun j u hj => ?_⟩⟩
  rw [hB.cell]
  unfold B8 at hj ⊢
  rw [List.getElem?_map] at hj ⊢
  rw [← hj, List.getElem?_drop]
section
variable {P : Program} {fn : Func} {F : Ending → World → Prop} {N : Nat} {ks : List K} {ops : Array Oper} {tg : Tags} {l : List Oper} {fr : Fr} {w : World} {ty t t' t2 : TypeId} {pos : String} {aft : Array Edge} {gd : Option (Nat × Bool)} {d n g o c m k : Nat} {x y : Operand} {A : Option Addr} {s cs : By}
--@ rule copy l wl_cpArr
/-- copy, into an array, of what has room there. -/
theorem wl_cpArr (T : U8 P t) (hx : fr.ev x = some (.slice (some ⟨g, o, none⟩) n c)) (hy : fr.ev y = some (.slice A m k)) (hB : Blk w g t' (B8 cs)) (hr : Rd w A s) (hm : m = s.length) (hi : o + n ≤ cs.length) (hs : s.length ≤ n)
    (h : ∀ w', Blk w' g t' (B8 (putB cs o s)) → Grew w w' t' (some g) → w'.heap.size = w.heap.size → WL P fn F N ks ops tg.tail l ((d, .int .i64 (m : Nat)) :: fr) w')
    (ht : tg.loud = true := by rfl) (hg : onG ops fr gd = true := by rfl) (hd : Nat.blt d N = true := by rfl) (hq : tg.calm = false ∨ some g = tg.row := by exact .inl rfl) :
    WL P fn F N ks ops tg (⟨some d, .call { callee := .builtin .copy, args := #[x, y], argTypes := #[t, t2] }, ty, pos, aft, gd⟩ :: l) fr w := by
  refine wl_copy T hx hy hm hr hB (by rw [B8_length]; exact hi) (fun w' h1 h2 h3 => ?_) ht hg hd hq
  rw [List.take_of_length_le hs, spl_B8] at h1
  rw [Nat.min_eq_left (by omega)]
  exact h w' h1 ⟨h2, fun k e => by injection e with e; subst e; exact hB.at_⟩ h3
--@ rule copy l wl_cpArrT
/-- copy, into an array, of more than what has room there. -/
theorem wl_cpArrT (T : U8 P t) (hx : fr.ev x = some (.slice (some ⟨g, o, none⟩) n c)) (hy : fr.ev y = some (.slice A m k)) (hB : Blk w g t' (B8 cs)) (hr : Rd w A s) (hm : m = s.length) (hi : o + n ≤ cs.length) (hs : n < s.length)
    (h : ∀ w', Blk w' g t' (B8 (putB cs o (s.take n))) → Grew w w' t' (some g) → w'.heap.size = w.heap.size → WL P fn F N ks ops tg.tail l ((d, .int .i64 (n : Nat)) :: fr) w')
    (ht : tg.loud = true := by rfl) (hg : onG ops fr gd = true := by rfl) (hd : Nat.blt d N = true := by rfl) (hq : tg.calm = false ∨ some g = tg.row := by exact .inl rfl) :
    WL P fn F N ks ops tg (⟨some d, .call { callee := .builtin .copy, args := #[x, y], argTypes := #[t, t2] }, ty, pos, aft, gd⟩ :: l) fr w := by
  refine wl_copy T hx hy hm hr hB (by rw [B8_length]; exact hi) (fun w' h1 h2 h3 => ?_) ht hg hd hq
  rw [spl_B8] at h1
  rw [Nat.min_eq_right (by omega)]
  exact h w' h1 ⟨h2, fun k e => by injection e with e; subst e; exact hB.at_⟩ h3
end
/-- Bytes of zero. -/
def zerB (n : Nat) : By := List.replicate n 0
theorem zerB_len (n : Nat) : (zerB n).length = n := List.length_replicate
theorem Tryd.zero512 (w : World) : (zeroValue 58).run Tryd.prog w = .ok (.agg (B8 (zerB 512)).toArray) w := by
  have h : (zeroValue 58).run Tryd.prog w = .ok (.agg (List.replicate 512 (.int .u8 0)).toArray) w := by kernel_rfl
  rw [h]
  show _ = Result.ok (Value.agg (B8 (List.replicate 512 0)).toArray) w
  rw [B8_rep]
section
variable {fn : Func} {F : Ending → World → Prop} {N : Nat} {ks : List K} {ops : Array Oper} {tg : Tags} {l : List Oper} {fr : Fr} {w : World} {ty t' : TypeId} {pos : String} {aft : Array Edge} {gd : Option (Nat × Bool)} {d g : Nat} {x y : Operand} {s q : By}
--@ rule alloc l wl_alloc512
theorem wl_alloc512 (hk : ∀ g w', Blk w' g 58 (B8 (zerB 512)) → Below w.heap.size w w' → w.heap.size ≤ g → g < w'.heap.size → WL Tryd.prog fn F N ks ops tg.tail l ((d, .pointer (some ⟨g, 0, none⟩)) :: fr) w')
    (ht : tg.loud = true := by rfl) (hg : onG ops fr gd = true := by rfl) (hd : Nat.blt d N = true := by rfl) : WL Tryd.prog fn F N ks ops tg (⟨some d, .alloc 58, ty, pos, aft, gd⟩ :: l) fr w :=
  wl_allocg _ Tryd.zero512 rfl hk ht hg hd
--@ rule store l wl_st512
theorem wl_st512 (hx : fr.ev x = some (.pointer (some ⟨g, 0, none⟩))) (hB : Blk w g t' (B8 q)) (hy : fr.ev y = some (.agg (B8 s).toArray)) (hq : q.length = 512) (hs : s.length = 512)
    (hk : ∀ w', Blk w' g t' (B8 s) → Grew w w' t' (some g) → w'.heap.size = w.heap.size → WL Tryd.prog fn F N ks ops tg.tail l fr w') (ht : tg.loud = true := by rfl) (hg : onG ops fr gd = true := by rfl) (hq : tg.calm = false ∨ tg.rw.may (some g) := by exact .inl rfl) :
    WL Tryd.prog fn F N ks ops tg (⟨none, .store 58 x y, ty, pos, aft, gd⟩ :: l) fr w :=
  wl_storega Tryd.sizeOf58 hx hy (by rw [B8_length, hs]) (B8_oneCell _) hB (by rw [B8_length]; omega) hk ht hg hq
--@ rule load r o_ld512
theorem o_ld512 {N : Nat} (hx : fr.ev x = some (.pointer (some ⟨g, 0, none⟩))) (hB : Blk w g t' (B8 s)) (hn : s.length = 512) : OpV Tryd.prog N fr w (.load 58 x) ty (.agg (B8 s).toArray) w :=
  o_load_all Tryd.isAgg58 Tryd.sizeOf58 hx hB (by rw [B8_length, hn])
theorem Tryd.eqg_512 : Tryd.prog.eqGuardType Tryd.prog.depth 58 = false := by kernel_rfl
--@ rule! binOp p o_ne512
theorem o_ne512 {N : Nat} {t' : TypeId} {p q : By} (hx : fr.ev x = some (.agg (B8 p).toArray)) (hy : fr.ev y = some (.agg (B8 q).toArray)) (hp : p.length = 512) (hq : q.length = 512) : OpV Tryd.prog N fr w (.binOp .neq 58 x y t') ty (.bool (decide (p ≠ q))) w :=
  o_ane Tryd.underlying58 Tryd.underlying5 Tryd.sizeOf5 Tryd.eqg_512 hx hy hp hq
end
/-- A body with zeros behind it; a page's bytes. -/
def bodyL (b : By) : By := b ++ List.replicate (500 - b.length) 0
def sumP (L : List By) : By := (bytesU (runU Ul (padU L.flatten))).take 32
theorem sumP_len (L : List By) : (sumP L).length = 32 := by rw [sumP, List.length_take, bytesU_len]; omega
def pageL (n : Nat) (b : By) : By := (sumP [leB 4 n, bodyL b]).take 12 ++ bodyL b
theorem bodyL_len {b : By} (h : b.length ≤ 500) : (bodyL b).length = 500 := by rw [bodyL, List.length_append, List.length_replicate]; omega
theorem pageL_len (n : Nat) {b : By} (h : b.length ≤ 500) : (pageL n b).length = 512 := by rw [pageL, List.length_append, List.length_take, sumP_len, bodyL_len h]; rfl
theorem pageL_drop (n : Nat) (b : By) : (pageL n b).drop 12 = bodyL b := by
  rw [pageL, List.drop_append_of_le_length (by rw [List.length_take, sumP_len]; decide), List.drop_of_length_le (by rw [List.length_take]; omega), List.nil_append]
theorem bodyL_full {b : By} (h : b.length = 500) : bodyL b = b := by rw [bodyL, h]; simp
theorem put_zer {b : By} (h : b.length ≤ 500) : putB (List.replicate 512 0) 12 b = zerB 12 ++ bodyL b := by
  unfold putB zerB bodyL
  rw [List.take_replicate, List.drop_replicate, List.append_assoc, show 512 - (12 + b.length) = 500 - b.length by omega]
  rfl
theorem C_Word4 {z k : Int} {n : Nat} {r : By} (w : World) (hz : z = n) (hk : k = 4) (hr : leB 4 n = r) (hn : n < 18446744073709551616) :
    CallsR Tryd.prog 45 [.slice none 0 0, .int .u64 z, .int .i64 k] w fun v w' => ∃ A' c', v = .slice A' r.length c' ∧ OwnH w' w.heap.size w'.heap.size A' c' r ∧ Below w.heap.size w w' := by
  subst hz; subst hk; subst hr
  refine (C_Word (A := none) (l := []) 0 n 4 w (Rd.nil _ _) (by unfold u64; omega) (by simp)).mono ?_
  rintro v w' ⟨A', c', rfl, h, hb⟩
  exact ⟨A', c', rfl, h.h_, hb⟩
theorem C_page {z : Int} {n : Nat} {A : Option Addr} {b r : By} {m c : Nat} (w : World) (hb : Rd w A b) (hz : z = n) (hr : pageL n b = r) (hn : n < 2147483648) (hm : m = b.length) (hl : b.length ≤ 500) :
    CallsR Tryd.prog 26 [.int .i64 z, .slice A m c] w fun v w' => v = .agg (B8 r).toArray ∧ Below w.heap.size w w' := by
  subst hz; subst hm
  have hrl : r.length = 512 := by rw [← hr]; exact pageL_len n hl
  obtain ⟨Z, hZ⟩ : ∃ Z : By, List.replicate 512 0 = Z := ⟨_, rfl⟩
  have hZl : Z.length = 512 := by rw [← hZ, List.length_replicate]
  obtain ⟨Q, hQ⟩ : ∃ Q, zerB 12 ++ bodyL b = Q := ⟨_, rfl⟩
  obtain ⟨bd, hbd⟩ : ∃ bd, bodyL b = bd := ⟨_, rfl⟩
  have hbdl : bd.length = 500 := by rw [← hbd]; exact bodyL_len hl
  have hQl : Q.length = 512 := by rw [← hQ, List.length_append, zerB_len, bodyL_len hl]
  have hQd : Q.drop 12 = bd := by rw [← hQ, ← hbd, List.drop_append_of_le_length (by rw [zerB_len]; omega), List.drop_of_length_le (by rw [zerB_len]; omega), List.nil_append]
  obtain ⟨W4, hW4⟩ : ∃ W, leB 4 n = W := ⟨_, rfl⟩
  have hW4l : W4.length = 4 := by rw [← hW4, leB_length]
  obtain ⟨q, hq⟩ : ∃ q, sumP [W4, bd] = q := ⟨_, rfl⟩
  have hql : q.length = 32 := by rw [← hq, sumP_len]
  unfold sumP at hq
  have hl2 : ∀ x ∈ [W4, bd], x.length ≤ 10000 := by
    intro x hx
    simp only [List.mem_cons, List.not_mem_nil, or_false] at hx
    rcases hx with rfl | rfl <;> omega
  refine callsR Tryd.func26 rfl rfl (by kernel_rfl) rfl ?_
  have hw := Below.refl w.heap.size w
  refine rk_seq ?_
  refine rk_region ?_
  refine wl_allocB Tryd.underlying58 Tryd.zeroValue58 (by rfl) ?_
  rintro g4 w4 f4 b4 i4 i4_1
  have s4 := b4.size
  replace hw := hw.trans (b4.mono hw.size)
  refine wl_nil ?_
  refine rk_seq ?_
  refine rk_region ?_
  refine wl_allocB Tryd.underlying58 Tryd.zeroValue58 (by rfl) ?_
  rintro g5 w5 f5 b5 i5 i5_1
  have s5 := b5.size
  replace hw := hw.trans (b5.mono hw.size)
  replace f4 := f4.u b5
  refine wl_nil ?_
  refine rk_seq ?_
  refine rk_region ?_
  refine wl_p (fun _ => (o_slArrLo (12) Tryd.underlying58 Tryd.sizeOf5 rfl rfl (by omega) (by omega))) ?_
  refine wl_p (fun _ => o_move rfl) ?_
  refine wl_cpArr Tryd.u8 rfl rfl f5 (hb.u hw) rfl (by simp) (by omega) ?_
  rintro w9 f9 g9 e9
  have s9 := g9.size
  replace hw := hw.trans (below_of_grownBy g9.g hw.size (by omega))
  replace f4 := f4.k g9.g (ap_some (by omega))
  clear f5
  refine wl_nil ?_
  refine rk_seq ?_
  refine rk_drawo (id := 3) (none) [0, 1, 2, 0, 12, 20, 0, 127] [0, 1, 3, 0, 15, 31, 0, 127] 244 0 [0, 1, 3] [(.p, 0), (.p, 1), (.p, 3), (.f 11 244 0, 5)] (by kernel_rfl) (by kernel_rfl) (by kernel_rfl) (by kernel_rfl) (by kernel_rfl) ?_
  dsimp only [inOrder, nthOp]
  replace hw := hw.drew
  replace f4 := f4.d
  replace f9 := f9.d
  refine wl_p (fun _ => o_move rfl) ?_
  refine wl_p (fun _ => o_convu64 (src := 3) (dst := 73) Tryd.underlying3 Tryd.underlying73 rfl (by omega) (by omega)) ?_
  refine wl_p (fun _ => (o_slArrLo (12) Tryd.underlying58 Tryd.sizeOf5 rfl rfl (by omega) (by omega))) ?_
  rw [hZ] at f4
  rw [put_zer hl, hQ] at f9
  have r9 := rd_lo f9 12
  rw [hQd] at r9
  refine wl_conc [⟨2, [], [12], [], fun vs w' lo hi => ∃ (A12 : Option Addr) (c12 : Nat), vs = [.slice A12 W4.length c12] ∧ OwnH w' lo hi A12 c12 W4⟩, ⟨4, [], [14], [0], fun vs w' lo hi => ∃ (A14 : Option Addr), vs = [.slice A14 2 2] ∧ RKy w' A14 [W4, bd]⟩, ⟨5, [], [15], [0, 1], fun vs w' lo hi => vs = [.agg (B8 q).toArray]⟩, ⟨6, [], [6], [], fun vs w' lo hi => ∃ (g6 : Nat), vs = [.pointer (some ⟨g6, 0, none⟩)] ∧ Blk w' g6 76 (B8 (List.replicate 32 0)) ∧ lo ≤ g6 ∧ g6 < hi⟩] [0, 1, 2, 3] [0, 1, 2, 0, 12, 20, 0, 127] [0, 1, 3, 0, 15, 31, 0, 127] [7] [(.l, 7)] (by kernel_rfl) (by kernel_rfl) (by kernel_rfl) (by kernel_rfl) ⟨fun _ _ _ _ _ h hb => by obtain ⟨A12, c12, e0, g0⟩ := h; exact ⟨A12, c12, e0, g0.u hb⟩, fun _ _ _ _ _ h hb => by obtain ⟨A14, e0, g0⟩ := h; exact ⟨A14, e0, g0.u hb⟩, fun _ _ _ _ _ h _ => h, fun _ _ _ _ _ h hb => by obtain ⟨g6, e0, g0, g1, g2⟩ := h; exact ⟨g6, e0, g0.u hb, g1, g2⟩, trivial⟩ ⟨?_, ?_, ?_, ?_, trivial⟩ ?_
  · intro wI hbI fo T T2 n2
    intro hk
    dsimp only [Item.idx, inOrder, nthOp, List.map, List.zip_cons_cons, List.zip_nil_right, List.cons_append, List.nil_append]
    have shbI := hbI.size
    simp only [drew_size] at shbI
    replace hw := hw.trans (hbI.mono hw.size)
    replace r9 := r9.u hbI
    replace f9 := f9.u hbI
    replace f4 := f4.u hbI
    have hw1 := Below.refl wI.heap.size wI
    refine wl_call rfl (C_Word4 _ rfl rfl hW4 (by omega)) ?_
    rintro v12 w12 ⟨A12, ⟨c12, ⟨rfl, ⟨f12, b12⟩⟩⟩⟩
    have qf12 := f12.cap
    have s12 := b12.size
    replace hw := hw.trans (b12.mono hw.size)
    replace hw1 := hw1.trans (b12.mono hw1.size)
    replace f4 := f4.u b12
    replace f9 := f9.u b12
    replace r9 := r9.u b12
    exact hk [_] _ ⟨_, _, rfl, f12⟩ hw1
  · intro wI hbI fo T T2 n2
    rintro _ lo0 hi0 ⟨A12, c12, rfl, f12⟩ ql0 qm0 qh0 -
    try dsimp only at ql0 qm0 qh0 
    try simp only [drew_size] at ql0 qm0 qh0 
    intro hk
    dsimp only [Item.idx, inOrder, nthOp, List.map, List.zip_cons_cons, List.zip_nil_right, List.cons_append, List.nil_append]
    have shbI := hbI.size
    simp only [drew_size] at shbI
    replace hw := hw.trans (hbI.mono hw.size)
    replace r9 := r9.u hbI
    replace f9 := f9.u hbI
    replace f4 := f4.u hbI
    have hw1 := Below.refl wI.heap.size wI
    refine wl_litKr2 (by rfl) rfl f12.to_Rd r9 rfl (by omega) f12.cap (by omega) (own_max' (by assumption)) (by omega) (by rfl) ?_
    rintro A14 w14 f14 b14
    have s14 := b14.size
    replace hw := hw.trans (b14.mono hw.size)
    replace hw1 := hw1.trans (b14.mono hw1.size)
    replace f4 := f4.u b14
    replace f9 := f9.u b14
    replace r9 := r9.u b14
    replace f12 := f12.u b14
    exact hk [_] _ ⟨_, rfl, f14⟩ hw1
  · intro wI hbI fo T T2 n2
    rintro _ lo0 hi0 ⟨A12, c12, rfl, f12⟩ ql0 qm0 qh0 -
    rintro _ lo1 hi1 ⟨A14, rfl, f14⟩ ql1 qm1 qh1 ⟨qa1_0, -⟩
    try dsimp only at ql0 qm0 qh0  ql1 qm1 qh1 qa1_0
    try simp only [drew_size] at ql0 qm0 qh0  ql1 qm1 qh1 qa1_0
    intro hk
    dsimp only [Item.idx, inOrder, nthOp, List.map, List.zip_cons_cons, List.zip_nil_right, List.cons_append, List.nil_append]
    have shbI := hbI.size
    simp only [drew_size] at shbI
    replace hw := hw.trans (hbI.mono hw.size)
    replace r9 := r9.u hbI
    replace f9 := f9.u hbI
    replace f4 := f4.u hbI
    have hw1 := Below.refl wI.heap.size wI
    refine wl_call rfl (C_Sum _ f14 hq (by rfl) (by simp) (by omega)) ?_
    rintro v15 w15 ⟨rfl, b15⟩
    have s15 := b15.size
    replace hw := hw.trans (b15.mono hw.size)
    replace hw1 := hw1.trans (b15.mono hw1.size)
    replace f4 := f4.u b15
    replace f9 := f9.u b15
    replace r9 := r9.u b15
    replace f14 := f14.u b15
    replace f12 := f12.u b15
    exact hk [_] _ rfl hw1
  · intro wI hbI fo T T2 n2
    intro hk
    dsimp only [Item.idx, inOrder, nthOp, List.map, List.zip_cons_cons, List.zip_nil_right, List.cons_append, List.nil_append]
    have shbI := hbI.size
    simp only [drew_size] at shbI
    replace hw := hw.trans (hbI.mono hw.size)
    replace r9 := r9.u hbI
    replace f9 := f9.u hbI
    replace f4 := f4.u hbI
    have hw1 := Below.refl wI.heap.size wI
    refine wl_allocB Tryd.underlying76 Tryd.zeroValue76 (by rfl) ?_
    rintro g6 w6 f6 b6 i6 i6_1
    have s6 := b6.size
    replace hw := hw.trans (b6.mono hw.size)
    replace hw1 := hw1.trans (b6.mono hw1.size)
    replace f4 := f4.u b6
    replace f9 := f9.u b6
    replace r9 := r9.u b6
    exact hk [_] _ ⟨_, rfl, f6, by omega, by omega⟩ hw1
  · intro wE hbE
    rintro _ lo0 hi0 ⟨A12, c12, rfl, f12⟩ ql0 qm0 qh0 -
    rintro _ lo1 hi1 ⟨A14, rfl, f14⟩ ql1 qm1 qh1 ⟨qa1_0, -⟩
    rintro _ lo2 hi2 ⟨rfl⟩ ql2 qm2 qh2 ⟨qa2_1, qa2_0, -⟩
    rintro _ lo3 hi3 ⟨g6, rfl, f6, f6_1, f6_2⟩ ql3 qm3 qh3 ⟨qa3_2, qa3_1, qa3_0, -⟩
    try dsimp only at ql0 qm0 qh0  ql1 qm1 qh1 qa1_0 ql2 qm2 qh2 qa2_0 qa2_1 ql3 qm3 qh3 qa3_0 qa3_1 qa3_2
    try simp only [drew_size] at ql0 qm0 qh0  ql1 qm1 qh1 qa1_0 ql2 qm2 qh2 qa2_0 qa2_1 ql3 qm3 qh3 qa3_0 qa3_1 qa3_2
    dsimp only [given, Item.idx, inOrder, nthOp, List.map, List.zip_cons_cons, List.zip_nil_right]
    have shbE := hbE.size
    simp only [drew_size] at shbE
    replace hw := hw.trans (hbE.mono hw.size)
    replace r9 := r9.u hbE
    replace f9 := f9.u hbE
    replace f4 := f4.u hbE
    refine wl_stBa Tryd.sizeOf76 rfl f6 rfl hql (by rfl) ?_
    rintro w_1 f g e
    have s := g.size
    replace hw := hw.trans (below_of_grownBy g.g hw.size (by omega))
    replace f4 := f4.k g.g (ap_some (by omega))
    replace f9 := f9.k g.g (ap_some (by omega))
    replace f12 := f12.k g.g (ap_some (by omega))
    clear r9
    clear f6
    clear f14
    refine wl_nild ?_
    refine rk_seq ?_
    refine rk_draw (id := 4) (none) [0, 0, 3] [0, 0, 3] 4 0 [(.p, 0), (.p, 1), (.l, 2)] (by kernel_rfl) (by kernel_rfl) (by kernel_rfl) (by kernel_rfl) (by kernel_rfl) ?_
    replace hw := hw.drew
    replace f12 := f12.d
    replace f9 := f9.d
    replace f4 := f4.d
    replace f := f.d
    refine wl_p (fun _ => (o_slArrHi (12) Tryd.underlying58 Tryd.sizeOf5 rfl rfl (by omega) (by omega))) ?_
    refine wl_p (fun _ => o_slice_arr (t := 76) Tryd.underlying76 Tryd.sizeOf5 rfl) ?_
    refine wl_cpArrT Tryd.u8 rfl rfl f9 f.to_Rd (by omega) (by omega) (by omega) ?_
    rintro w18 f18 g18 e18
    simp only [drew_size] at e18
    have s18 := g18.size
    simp only [drew_size] at s18
    replace hw := hw.trans (below_of_grownBy g18.g hw.size (by omega))
    replace f := f.k g18.g (ap_some (by omega))
    replace f4 := f4.k g18.g (ap_some (by omega))
    replace f12 := f12.k g18.g (ap_some (by omega))
    clear f9
    refine wl_nild ?_
    refine rk_seq ?_
    refine rk_region ?_
    have hql12 : (q.take 12).length = 12 := by rw [List.length_take]; omega
    have e18 : putB Q 0 (q.take 12) = r := by
      rw [putB, List.take_zero, List.nil_append, hql12, Nat.zero_add, hQd, ← hr, pageL, hbd, hW4, ← hq]
      rfl
    rw [e18] at f18
    refine wl_r (o_ldBa Tryd.isAgg58 Tryd.sizeOf58 rfl f18 hrl) ?_
    refine wl_stBa Tryd.sizeOf58 rfl f4 rfl hrl hZl ?_
    rintro w_2 f_1 g_1 e_1
    have s_1 := g_1.size
    replace hw := hw.trans (below_of_grownBy g_1.g hw.size (by omega))
    replace f12 := f12.k g_1.g (ap_some (by omega))
    replace f := f.k g_1.g (ap_some (by omega))
    replace f18 := f18.k g_1.g (ap_some (by omega))
    clear f4
    refine wl_nil ?_
    refine ret_cell rfl rfl Tryd.isAgg58 Tryd.sizeOf58 (show Blk _ g4 _ (B8 r) by assumption) (by rw [B8_length, hrl]) ?_
    exact ⟨rfl, hw⟩
theorem C_pBytesBad {z : Int} {A : Option Addr} {m c : Nat} (w : World) (h : z < 0 ∨ 2147483648 ≤ z ∨ 500 < m) :
    CallsR Tryd.prog 9 [.int .i64 z, .slice A m c] w fun v w' => v = .tuple #[.slice none 0 0, .int .i64 2] ∧ Below w.heap.size w w' := by
  by_cases h0 : z < 0
  · refine callsR Tryd.func9 rfl rfl (by kernel_rfl) rfl ?_
    have hw := Below.refl w.heap.size w
    refine rk_seq ?_
    refine rk_region ?_
    refine wl_p (fun _ => o_assign rfl) ?_
    refine wl_p (fun _ => o_assign rfl) ?_
    refine wl_nil ?_
    refine rk_seq ?_
    refine rk_seq ?_
    refine rk_region ?_
    refine wl_p (fun _ => o_move rfl) ?_
    refine wl_p (fun _ => o_lt rfl rfl) ?_
    refine wl_p (fun _ => o_move rfl) ?_
    refine wl_know 9 true rfl (decide_eq_true (by omega)) ?_
    refine wl_off ?_
    refine wl_off ?_
    refine wl_p (fun _ => o_pick_t rfl rfl) ?_
    refine wl_p (fun _ => o_move rfl) ?_
    refine wl_off ?_
    refine wl_off ?_
    refine wl_off ?_
    refine wl_p (fun _ => o_pick_t rfl rfl) ?_
    refine wl_nil ?_
    refine rk_true rfl ?_
    refine rk_seq ?_
    refine rk_region ?_
    refine wl_p (fun _ => o_assign rfl) ?_
    refine wl_p (fun _ => o_assign rfl) ?_
    refine wl_nil ?_
    refine ret2 rfl rfl rfl ?_
    exact ⟨rfl, hw⟩
  by_cases h1 : 2147483648 ≤ z
  · refine callsR Tryd.func9 rfl rfl (by kernel_rfl) rfl ?_
    have hw := Below.refl w.heap.size w
    refine rk_seq ?_
    refine rk_region ?_
    refine wl_p (fun _ => o_assign rfl) ?_
    refine wl_p (fun _ => o_assign rfl) ?_
    refine wl_nil ?_
    refine rk_seq ?_
    refine rk_seq ?_
    refine rk_region ?_
    refine wl_p (fun _ => o_move rfl) ?_
    refine wl_p (fun _ => o_lt rfl rfl) ?_
    refine wl_p (fun _ => o_move rfl) ?_
    refine wl_know 9 false rfl (decide_eq_false (by omega)) ?_
    refine wl_p (fun _ => o_move rfl) ?_
    refine wl_p (fun _ => o_ge rfl rfl) ?_
    refine wl_p (fun _ => o_pick_f rfl rfl) ?_
    refine wl_p (fun _ => o_move rfl) ?_
    refine wl_know 13 true rfl (decide_eq_true (by omega)) ?_
    refine wl_off ?_
    refine wl_off ?_
    refine wl_off ?_
    refine wl_p (fun _ => o_pick_t rfl rfl) ?_
    refine wl_nil ?_
    refine rk_true rfl ?_
    refine rk_seq ?_
    refine rk_region ?_
    refine wl_p (fun _ => o_assign rfl) ?_
    refine wl_p (fun _ => o_assign rfl) ?_
    refine wl_nil ?_
    refine ret2 rfl rfl rfl ?_
    exact ⟨rfl, hw⟩
  · refine callsR Tryd.func9 rfl rfl (by kernel_rfl) rfl ?_
    have hw := Below.refl w.heap.size w
    refine rk_seq ?_
    refine rk_region ?_
    refine wl_p (fun _ => o_assign rfl) ?_
    refine wl_p (fun _ => o_assign rfl) ?_
    refine wl_nil ?_
    refine rk_seq ?_
    refine rk_seq ?_
    refine rk_region ?_
    refine wl_p (fun _ => o_move rfl) ?_
    refine wl_p (fun _ => o_lt rfl rfl) ?_
    refine wl_p (fun _ => o_move rfl) ?_
    refine wl_know 9 false rfl (decide_eq_false (by omega)) ?_
    refine wl_p (fun _ => o_move rfl) ?_
    refine wl_p (fun _ => o_ge rfl rfl) ?_
    refine wl_p (fun _ => o_pick_f rfl rfl) ?_
    refine wl_p (fun _ => o_move rfl) ?_
    refine wl_know 13 false rfl (decide_eq_false (by omega)) ?_
    refine wl_p (fun _ => o_move rfl) ?_
    refine wl_p (fun _ => o_len (t := 22) Tryd.underlying22 rfl) ?_
    refine wl_p (fun _ => o_gt rfl rfl) ?_
    refine wl_p (fun _ => o_pick_f rfl rfl) ?_
    refine wl_nil ?_
    refine rk_if rfl (fun h17 => ?_) (fun h17 => h17.elim (by omega))
    refine rk_seq ?_
    refine rk_region ?_
    refine wl_p (fun _ => o_assign rfl) ?_
    refine wl_p (fun _ => o_assign rfl) ?_
    refine wl_nil ?_
    refine ret2 rfl rfl rfl ?_
    exact ⟨rfl, hw⟩
theorem C_pBytesOk {z : Int} {n : Nat} {A : Option Addr} {b r : By} {m c : Nat} (w : World) (hb : Rd w A b) (hz : z = n) (hr : pageL n b = r) (hn : n < 2147483648) (hm : m = b.length) (hl : b.length ≤ 500) :
    CallsR Tryd.prog 9 [.int .i64 z, .slice A m c] w fun v w' => ∃ A' c', v = .tuple #[.slice A' 512 c', .int .i64 0] ∧ RdB w' w.heap.size w'.heap.size A' r ∧ r.length = 512 ∧ 512 ≤ c' ∧ c' ≤ 9223372036854775807 ∧ Below w.heap.size w w' := by
  subst hz
  have hrl : r.length = 512 := by rw [← hr]; exact pageL_len n hl
  refine callsR Tryd.func9 rfl rfl (by kernel_rfl) rfl ?_
  have hw := Below.refl w.heap.size w
  refine rk_seq ?_
  refine rk_region ?_
  refine wl_p (fun _ => o_assign rfl) ?_
  refine wl_p (fun _ => o_assign rfl) ?_
  refine wl_nil ?_
  refine rk_seq ?_
  refine rk_seq ?_
  refine rk_region ?_
  refine wl_p (fun _ => o_move rfl) ?_
  refine wl_p (fun _ => o_lt rfl rfl) ?_
  refine wl_p (fun _ => o_move rfl) ?_
  refine wl_p (fun _ => o_move rfl) ?_
  refine wl_p (fun _ => o_ge rfl rfl) ?_
  refine wl_p (fun _ => o_pick_f rfl rfl) ?_
  refine wl_p (fun _ => o_move rfl) ?_
  refine wl_know 13 false rfl (decide_eq_false (by omega)) ?_
  refine wl_p (fun _ => o_move rfl) ?_
  refine wl_p (fun _ => o_len (t := 22) Tryd.underlying22 rfl) ?_
  refine wl_p (fun _ => o_gt rfl rfl) ?_
  refine wl_p (fun _ => o_pick_f rfl rfl) ?_
  refine wl_nil ?_
  refine rk_if rfl (fun h17 => absurd h17 (by omega)) (fun h17 => ?_)
  refine rk_skip ?_
  refine rk_seq ?_
  refine rk_region ?_
  refine wl_p (fun _ => o_move rfl) ?_
  refine wl_p (fun _ => o_move rfl) ?_
  refine wl_call rfl (C_page _ hb rfl hr (by omega) hm (by omega)) ?_
  rintro v20 w20 ⟨rfl, b20⟩
  have s20 := b20.size
  replace hw := hw.trans (b20.mono hw.size)
  refine wl_allocB Tryd.underlying58 Tryd.zeroValue58 (by rfl) ?_
  rintro g6 w6 f6 b6 i6 i6_1
  have s6 := b6.size
  replace hw := hw.trans (b6.mono hw.size)
  refine wl_stBa Tryd.sizeOf58 rfl f6 rfl hrl (by rfl) ?_
  rintro w_1 f g e
  have s := g.size
  replace hw := hw.trans (below_of_grownBy g.g hw.size (by omega))
  clear f6
  refine wl_nil ?_
  refine rk_seq ?_
  refine rk_region ?_
  refine wl_p (fun _ => o_slice_arr (t := 58) Tryd.underlying58 Tryd.sizeOf5 rfl) ?_
  refine wl_p (fun _ => o_assign rfl) ?_
  refine wl_p (fun _ => o_assign rfl) ?_
  refine wl_nil ?_
  refine ret2 rfl rfl rfl ?_
  exact ⟨_, _, rfl, f.rdB.base (by omega) (by omega), hrl, Nat.le_refl _, by decide, hw⟩
end Go.Proofs.YtklijaahbahcoaaDoor
/-
  A page file in memory; walks of its inner methods.
-/
namespace Go.Proofs.YtklijaahbahcoaaDoor
set_option maxRecDepth 100000
open Go.RowKit
theorem OwnK.rng {k : IntKind} {e : TypeId} {w : World} {lo hi c : Nat} {A : Option Addr} {l : List Nat} (h : OwnK k e w lo hi A c l) : ∀ j, blk A = some j → lo ≤ j ∧ j < hi := fun j hj => ⟨(RowH.lt h j hj).1, h.hi j hj⟩
theorem Grew.of_drew {w w' : World} {e : TypeId} {row : Option Nat} (h : Grew w.drew w' e row) : Grew w w' e row :=
  ⟨⟨h.g.os.trans (below_drew w).os, h.g.tape.trans (below_drew w).tape, h.g.output.trans (below_drew w).output, Nat.le_trans (below_drew w).size h.g.size, fun k hk hn => (h.g.block k (Nat.lt_of_lt_of_le hk (below_drew w).size) hn).trans ((below_drew w).block k hk)⟩, fun k e => h.ty k e⟩
/-- What is in a page file's block; its words lie in the blocks from ul to uh. -/
structure PgQ (w : World) (g : Nat) (sf dk : Value) (cn : Int) (ul uh : Nat) (U : List Bool) : Prop where
  ex : ∃ A c, Blk w g 64 [sf, dk, .int .i64 cn, .slice A (wds U).length c] ∧ OwnK .u64 73 w ul uh A c (wds U)
  hi : uh ≤ w.heap.size
section
variable {w w' : World} {g ul uh lo hi b : Nat} {sf dk : Value} {cn : Int} {U : List Bool} {e' : TypeId} {row : Option Nat}
theorem PgQ.u (h : PgQ w g sf dk cn ul uh U) (hb : Below w.heap.size w w') : PgQ w' g sf dk cn ul uh U := by
  obtain ⟨A, c, h1, h2⟩ := h.ex
  exact ⟨⟨A, c, h1.u hb, h2.u hb⟩, Nat.le_trans h.hi hb.size⟩
theorem PgQ.d (h : PgQ w g sf dk cn ul uh U) : PgQ w.drew g sf dk cn ul uh U := h.u (below_drew w)
theorem PgQ.c (h : PgQ w g sf dk cn ul uh U) (hc : Chg lo hi w w') (ha : (g < lo ∨ hi ≤ g) ∧ (uh ≤ lo ∨ hi ≤ ul)) : PgQ w' g sf dk cn ul uh U := by
  obtain ⟨A, c, h1, h2⟩ := h.ex
  exact ⟨⟨A, c, h1.c hc ha.1, RowH.c h2 hc ha.2⟩, Nat.le_trans h.hi hc.size⟩
theorem PgQ.y (h : PgQ w g sf dk cn ul uh U) (hg : Grew w w' e' row) (hne : e' ≠ 64 ∧ e' ≠ 73) : PgQ w' g sf dk cn ul uh U := by
  obtain ⟨A, c, h1, h2⟩ := h.ex
  exact ⟨⟨A, c, h1.y hg hne.1, h2.y hg hne.2⟩, Nat.le_trans h.hi hg.size⟩
theorem PgQ.m (h : PgQ w g sf dk cn ul uh U) (hg : GrewM w w' b) : PgQ w' g sf dk cn ul uh U := by
  obtain ⟨A, c, h1, h2⟩ := h.ex
  exact ⟨⟨A, c, h1.m hg, h2.m hg⟩, Nat.le_trans h.hi hg.size⟩
/-- A page file on the disk at block gd. -/
def PgAt (w : World) (g gd ul uh : Nat) (U : List Bool) : Prop := PgQ w g (.pointer (some ⟨g, 0, none⟩)) (.pointer (some ⟨gd, 0, none⟩)) U.length ul uh U ∧ U.length ≤ 8192
variable {gd : Nat}
theorem PgAt.u (h : PgAt w g gd ul uh U) (hb : Below w.heap.size w w') : PgAt w' g gd ul uh U := ⟨h.1.u hb, h.2⟩
theorem PgAt.d (h : PgAt w g gd ul uh U) : PgAt w.drew g gd ul uh U := ⟨h.1.d, h.2⟩
theorem PgAt.c (h : PgAt w g gd ul uh U) (hc : Chg lo hi w w') (ha : (g < lo ∨ hi ≤ g) ∧ (uh ≤ lo ∨ hi ≤ ul)) : PgAt w' g gd ul uh U := ⟨h.1.c hc ha, h.2⟩
theorem PgAt.y (h : PgAt w g gd ul uh U) (hg : Grew w w' e' row) (hne : e' ≠ 64 ∧ e' ≠ 73) : PgAt w' g gd ul uh U := ⟨h.1.y hg hne, h.2⟩
theorem PgAt.m (h : PgAt w g gd ul uh U) (hg : GrewM w w' b) : PgAt w' g gd ul uh U := ⟨h.1.m hg, h.2⟩
theorem PgAt.to_PgQ (h : PgAt w g gd ul uh U) : PgQ w g (.pointer (some ⟨g, 0, none⟩)) (.pointer (some ⟨gd, 0, none⟩)) U.length ul uh U := h.1
end
/-- Is the page z in use? -/
def usdAt (U : List Bool) (z : Int) : Bool := decide (0 ≤ z) && U.getD z.toNat false
theorem Tryd.rowU64 : RowT Tryd.prog 62 73 (.int .u64 0) 1 8 := ⟨Tryd.underlying62, by kernel_rfl, rfl, by omega⟩
--@ inst RowT Tryd.rowU64
theorem C_pvalid {g gd ul uh : Nat} {U : List Bool} (w : World) (hp : PgAt w g gd ul uh U) :
    CallsR Tryd.prog 34 [.pointer (some ⟨g, 0, none⟩)] w fun v w' => v = .bool true ∧ w' = w := by
  obtain ⟨A, c, f, fs⟩ := hp.1.ex
  refine callsR Tryd.func34 rfl rfl (by kernel_rfl) rfl ?_
  refine rk_seq ?_
  refine rk_region ?_
  refine wl_p (fun _ => o_assign rfl) ?_
  refine wl_nil ?_
  refine rk_seq ?_
  refine rk_region ?_
  refine wl_p (fun _ => o_move rfl) ?_
  refine wl_p (fun _ => o_pne_nil (t := 32) Tryd.underlying32 rfl rfl) ?_
  refine wl_p (fun _ => o_move rfl) ?_
  refine wl_p (fun _ => o_move rfl) ?_
  refine wl_p (fun _ => o_nil rfl) ?_
  refine wl_p (fun _ => o_faddr (s := 64) (i := 0) (off := 0) Tryd.underlying64 rfl Tryd.sizeOf32 rfl rfl rfl) ?_
  refine wl_r (o_loadbg Tryd.isAgg32 rfl f (by rfl)) ?_
  refine wl_p (fun _ => o_move rfl) ?_
  refine wl_p (fun _ => o_peq_same (t := 32) Tryd.underlying32 Tryd.sizeOf64 rfl rfl) ?_
  refine wl_p (fun _ => o_pick_t rfl rfl) ?_
  refine wl_p (fun _ => o_assign rfl) ?_
  refine wl_nil ?_
  refine ret1 rfl rfl ?_
  exact ⟨rfl, rfl⟩
theorem C_pvalidNil (w : World) :
    CallsR Tryd.prog 34 [.pointer none] w fun v w' => v = .bool false ∧ w' = w := by
  refine callsR Tryd.func34 rfl rfl (by kernel_rfl) rfl ?_
  refine rk_seq ?_
  refine rk_region ?_
  refine wl_p (fun _ => o_assign rfl) ?_
  refine wl_nil ?_
  refine rk_seq ?_
  refine rk_region ?_
  refine wl_p (fun _ => o_move rfl) ?_
  refine wl_p (fun _ => o_pne_nil (t := 32) Tryd.underlying32 rfl rfl) ?_
  refine wl_p (fun _ => o_move rfl) ?_
  refine wl_off ?_
  refine wl_off ?_
  refine wl_off ?_
  refine wl_off ?_
  refine wl_off ?_
  refine wl_off ?_
  refine wl_p (fun _ => o_pick_f rfl rfl) ?_
  refine wl_p (fun _ => o_assign rfl) ?_
  refine wl_nil ?_
  refine ret1 rfl rfl ?_
  exact ⟨rfl, rfl⟩
theorem C_total {A : Option Addr} {U : List Bool} {n c k : Nat} (w : World) (hr : RdK .u64 w A (wds U)) (hk : (usd U U.length).length = k) (hn : n = (wds U).length) (hl : U.length ≤ 100000) :
    CallsR Tryd.prog 37 [.slice A n c] w fun v w' => v = .int .i64 (k : Int) ∧ Below w.heap.size w w' := by
  subst hn
  have hwl := wds_len U
  refine callsR Tryd.func37 rfl rfl (by kernel_rfl) rfl ?_
  have hw := Below.refl w.heap.size w
  refine rk_seq ?_
  refine rk_region ?_
  refine wl_p (fun _ => o_assign rfl) ?_
  refine wl_nil ?_
  refine rk_seq ?_
  refine rk_region ?_
  refine wl_p (fun _ => o_assign rfl) ?_
  refine wl_nil ?_
  refine rk_seq ?_
  refine rk_seq ?_
  refine rk_region ?_
  refine wl_p (fun _ => o_move rfl) ?_
  refine wl_p (fun _ => o_len (t := 62) Tryd.underlying62 rfl) ?_
  refine wl_p (fun _ => o_move rfl) ?_
  refine wl_nil ?_
  refine rk_block ?_
  refine rk_joinf (fun fb fr V => fr = [(3, .int .i64 (k : Int))] ++ fb.drop 4 ∧ V = w) ?_ (fun ks hj => ?_)
  rotate_left
  · refine rk_loopf (fun fb m fr V => ∃ (i : Nat) (v u : Int), fr = [(8, .int .i64 v), (3, .int .i64 u), (7, .int .i64 ((wds U).length : Nat)), (6, .slice A (wds U).length c)] ++ fb.drop 4 ∧ v = i ∧ i ≤ (wds U).length ∧ m = (wds U).length - i ∧ u = ((usd U (64 * i)).length : Nat) ∧ V = w) (n := (wds U).length) (Fr.le_of (by kernel_rfl) (by kernel_rfl) (by repeat' constructor)) ⟨0, _, _, rfl, rfl, by omega, rfl, rfl, rfl⟩ ?_
    rintro m fr V ⟨i, v, u, rfl, rfl, hi, rfl, rfl, rfl⟩
    have hul := usd_le U (64 * i)
    first | refine rk_frame (by simp only [List.cons_append, List.nil_append, List.drop_succ_cons, List.drop_zero]; rfl) ?_ | refine wl_frame (by simp only [List.cons_append, List.nil_append, List.drop_succ_cons, List.drop_zero]; rfl) ?_
    refine rk_seq ?_
    refine rk_region ?_
    refine wl_p (fun _ => o_lt rfl rfl) ?_
    refine wl_nil ?_
    refine rk_seq ?_
    refine rk_if rfl (fun h9 => ?_) (fun h9 => ?_)
    · have hil : i < (wds U).length := by omega
      have hwd := wds_lt U hil
      have hpn := popN_le (wds U)[i]
      have hst := usd_word U hil
      refine rk_skip ?_
      refine rk_seq ?_
      refine rk_block ?_
      refine rk_seq ?_
      refine rk_region ?_
      refine wl_p (fun _ => (o_iaddrA1 (i) Tryd.underlying62 Tryd.sizeOf73 rfl rfl rfl (hr.some_ (by omega)) (by omega))) ?_
      refine wl_r (o_ldK Tryd.isAgg73 rfl hr (by omega)) ?_
      refine wl_p (fun _ => o_assign rfl) ?_
      refine wl_nil ?_
      refine rk_region ?_
      refine wl_p (fun _ => o_move rfl) ?_
      refine wl_p (fun _ => o_move rfl) ?_
      refine wl_call rfl (C_OnesCount64 _ (by omega)) ?_
      rintro v14 w14 ⟨rfl, rfl⟩
      refine wl_p (fun _ => o_add rfl rfl (by omega) (by omega)) ?_
      refine wl_p (fun _ => o_assign rfl) ?_
      refine wl_nil ?_
      refine rk_blk ?_
      refine rk_region ?_
      refine wl_p (fun _ => o_add rfl rfl (by omega) (by omega)) ?_
      refine wl_p (fun _ => o_move rfl) ?_
      refine wl_nil ?_
      exact rk_againf (Fr.le_of (by kernel_rfl) (by kernel_rfl) (by repeat' constructor)) ⟨i + 1, (i : Int) + 1, _, rfl, by omega, by omega, rfl, by rw [hst]; simp, rfl⟩ (by omega)
    · refine rk_exit rfl ?_
      have e : usd U (64 * i) = usd U U.length := usd_past U (by omega)
      rw [e, hk]
      exact rk_tof hj (Fr.le_of (by kernel_rfl) (by kernel_rfl) (by repeat' constructor)) ⟨rfl, rfl⟩
  rintro fr V ⟨rfl, rfl⟩
  first | refine rk_frame (by simp only [List.cons_append, List.nil_append, List.drop_succ_cons, List.drop_zero]; rfl) ?_ | refine wl_frame (by simp only [List.cons_append, List.nil_append, List.drop_succ_cons, List.drop_zero]; rfl) ?_
  refine rk_seq ?_
  refine rk_region ?_
  refine wl_p (fun _ => o_move rfl) ?_
  refine wl_p (fun _ => o_assign rfl) ?_
  refine wl_nil ?_
  refine ret1 rfl rfl ?_
  exact ⟨rfl, hw⟩
theorem C_mark {g ul uh n : Nat} {sf dk : Value} {cn z : Int} {U : List Bool} (w : World) (hp : PgQ w g sf dk cn ul uh U) (hz : z = (n : Int)) (hn : n < U.length) (hl : U.length ≤ 100000) :
    CallsR Tryd.prog 29 [.pointer (some ⟨g, 0, none⟩), .int .i64 z] w fun v w' => v = .tuple #[] ∧ PgQ w' g sf dk cn ul uh (U.set n true) ∧ Chg ul uh w w' ∧ ∃ row, Grew w w' 73 row := by
  subst hz
  obtain ⟨A, c, f, fs⟩ := hp.ex
  have hhi := hp.hi
  have hwl := wds_len U
  have hn64 : n / 64 < (wds U).length := by omega
  have hwd := wds_lt U hn64
  have hpw : 2 ^ (n % 64) < 18446744073709551616 := Nat.pow_lt_pow_right (a := 2) (by decide) (Nat.mod_lt n (by decide))
  have hmk := wds_mark U n hn hn64
  have hsl : (U.set n true).length = U.length := List.length_set
  refine callsR Tryd.func29 rfl rfl (by kernel_rfl) rfl ?_
  have hcg : Chg ul uh w w := Chg.refl
  refine rk_draw (id := 0) (none) [0, 1, 2, 4, 0, 16, 40, 64, 0, 256, 512, 1152, 4095, 8191] [0, 1, 3, 7, 0, 16, 63, 127, 0, 256, 768, 2047, 4095, 8191] 8192 0 [(.p, 0), (.p, 1), (.p, 2), (.r, 3), (.p, 4), (.p, 5), (.p, 6), (.r, 7), (.p, 8), (.p, 9), (.p, 10), (.p, 11), (.p, 12), (.l, 13)] (by kernel_rfl) (by kernel_rfl) (by kernel_rfl) (by kernel_rfl) (by kernel_rfl) ?_
  replace hcg := hcg.trans Chg.drew
  replace fs := fs.d
  replace f := f.d
  replace hp := hp.d
  refine wl_p (fun _ => o_move rfl) ?_
  refine wl_p (fun _ => o_nil rfl) ?_
  refine wl_p (fun _ => o_faddr (s := 64) (i := 3) (off := 3) Tryd.underlying64 rfl Tryd.sizeOf62 rfl rfl rfl) ?_
  refine wl_r (o_loadbg Tryd.isAgg62 rfl f (by rfl)) ?_
  refine wl_p (fun _ => o_move rfl) ?_
  refine wl_p (fun _ => o_quo rfl rfl (by omega) (by omega) (by omega)) ?_
  refine wl_p (fun _ => (o_iaddrA1 (n / 64) Tryd.underlying62 Tryd.sizeOf73 rfl rfl (by omega) (fs.some_ (by omega)) (by omega))) ?_
  refine wl_r (o_ldK Tryd.isAgg73 rfl fs.to_RdK (by omega)) ?_
  refine wl_p (fun _ => o_move rfl) ?_
  refine wl_p (fun _ => o_rem rfl rfl (by omega) (by omega)) ?_
  refine wl_p (fun _ => o_shl1N (n := n % 64) rfl rfl (by omega) (by omega)) ?_
  refine wl_p (fun _ => (o_orN ((wds U)[n / 64]) (2 ^ (n % 64)) rfl rfl rfl rfl (by omega) (by omega))) ?_
  refine wl_p (fun _ => (o_iaddrA1 (n / 64) Tryd.underlying62 Tryd.sizeOf73 rfl rfl (by omega) (fs.some_ (by omega)) (by omega))) ?_
  refine wl_stK Tryd.sizeOf73 rfl fs rfl (by omega) ?_
  rintro w_1 f_1 g_1 b e
  simp only [drew_size] at e
  have qf_1 := f_1.cap
  have s := g_1.size
  simp only [drew_size] at s
  replace hcg := hcg.trans ((Chg.of_g g_1.g f_1.rng).wide (by omega) (by omega))
  replace f := f.y g_1 (by decide)
  clear hp
  clear fs
  refine wl_nild ?_
  rw [hmk] at f_1
  refine end0 rfl ?_
  exact ⟨rfl, ⟨⟨A, c, by rw [wds_len, hsl, ← wds_len]; exact f, f_1⟩, by omega⟩, hcg, _, Grew.of_drew (by assumption)⟩
theorem C_has {g gd ul uh : Nat} {z : Int} {U : List Bool} {r : Bool} (w : World) (hp : PgAt w g gd ul uh U) (hr : usdAt U z = r) (wz : (Lit.int .i64 z).wf = true) :
    CallsR Tryd.prog 36 [.pointer (some ⟨g, 0, none⟩), .int .i64 z] w fun v w' => v = .bool r ∧ w' = w := by
  obtain ⟨A, c, f, fs⟩ := hp.1.ex
  have hl := hp.2
  have hwl := wds_len U
  subst hr
  by_cases h0 : 0 ≤ z
  · obtain ⟨n, rfl⟩ : ∃ n : Nat, z = (n : Int) := ⟨z.toNat, by omega⟩
    by_cases h1 : n < U.length
    · have hn64 : n / 64 < (wds U).length := by omega
      have hwd := wds_lt U hn64
      refine callsR Tryd.func36 rfl rfl (by kernel_rfl) rfl ?_
      refine rk_seq ?_
      refine rk_region ?_
      refine wl_p (fun _ => o_assign rfl) ?_
      refine wl_nil ?_
      refine rk_seq ?_
      refine rk_region ?_
      refine wl_p (fun _ => o_move rfl) ?_
      refine wl_p (fun _ => o_ge rfl rfl) ?_
      refine wl_p (fun _ => o_move rfl) ?_
      refine wl_p (fun _ => o_move rfl) ?_
      refine wl_p (fun _ => o_move rfl) ?_
      refine wl_p (fun _ => o_nil rfl) ?_
      refine wl_p (fun _ => o_faddr (s := 64) (i := 2) (off := 2) Tryd.underlying64 rfl Tryd.sizeOf3 rfl rfl rfl) ?_
      refine wl_r (o_loadbg Tryd.isAgg3 rfl f (by rfl)) ?_
      refine wl_p (fun _ => o_lt rfl rfl) ?_
      refine wl_p (fun _ => o_pick_t rfl rfl) ?_
      refine wl_p (fun _ => o_move rfl) ?_
      refine wl_know 15 true rfl (decide_eq_true (by omega)) ?_
      refine wl_p (fun _ => o_move rfl) ?_
      refine wl_p (fun _ => o_nil rfl) ?_
      refine wl_p (fun _ => o_faddr (s := 64) (i := 3) (off := 3) Tryd.underlying64 rfl Tryd.sizeOf62 rfl rfl rfl) ?_
      refine wl_r (o_loadbg Tryd.isAgg62 rfl f (by rfl)) ?_
      refine wl_p (fun _ => o_move rfl) ?_
      refine wl_p (fun _ => o_quo rfl rfl (by omega) (by omega) (by omega)) ?_
      refine wl_p (fun _ => (o_iaddrA1 (n / 64) Tryd.underlying62 Tryd.sizeOf73 rfl rfl (by omega) (fs.some_ (by omega)) (by omega))) ?_
      refine wl_r (o_ldK Tryd.isAgg73 rfl fs.to_RdK (by omega)) ?_
      refine wl_p (fun _ => o_move rfl) ?_
      refine wl_p (fun _ => o_rem rfl rfl (by omega) (by omega)) ?_
      refine wl_p (fun _ => o_shrN (n := n % 64) (m := 2 ^ (n % 64)) rfl rfl rfl (by omega) (by omega) rfl) ?_
      refine wl_p (fun _ => o_andN ((wds U)[n / 64] / 2 ^ (n % 64)) 1 rfl rfl rfl rfl (Nat.lt_of_le_of_lt (Nat.div_le_self _ _) (by omega)) (by decide)) ?_
      have hb := wds_bit U hn64 (j := n % 64) (by omega)
      rw [Nat.testBit_eq_decide_div_mod_eq, Nat.div_add_mod] at hb
      have e : usdAt U (n : Int) = decide (((((wds U)[n / 64] / 2 ^ (n % 64) &&& 1 : Nat)) : Int) = 1) := by
        rw [usdAt, Int.toNat_natCast, ← hb, Nat.and_one_is_mod, decide_eq_true (by omega), Bool.true_and]
        exact decide_eq_decide.2 ⟨fun h => by omega, fun h => by omega⟩
      rw [e]
      refine wl_p (fun _ => o_eq rfl rfl) ?_
      refine wl_p (fun _ => o_pick_t rfl rfl) ?_
      refine wl_p (fun _ => o_assign rfl) ?_
      refine wl_nil ?_
      refine ret1 rfl rfl ?_
      exact ⟨rfl, rfl⟩
    · have e : usdAt U (n : Int) = false := by rw [usdAt, Int.toNat_natCast, getD_past U (by omega), Bool.and_false]
      rw [e]
      refine callsR Tryd.func36 rfl rfl (by kernel_rfl) rfl ?_
      refine rk_seq ?_
      refine rk_region ?_
      refine wl_p (fun _ => o_assign rfl) ?_
      refine wl_nil ?_
      refine rk_seq ?_
      refine rk_region ?_
      refine wl_p (fun _ => o_move rfl) ?_
      refine wl_p (fun _ => o_ge rfl rfl) ?_
      refine wl_p (fun _ => o_move rfl) ?_
      refine wl_p (fun _ => o_move rfl) ?_
      refine wl_p (fun _ => o_move rfl) ?_
      refine wl_p (fun _ => o_nil rfl) ?_
      refine wl_p (fun _ => o_faddr (s := 64) (i := 2) (off := 2) Tryd.underlying64 rfl Tryd.sizeOf3 rfl rfl rfl) ?_
      refine wl_r (o_loadbg Tryd.isAgg3 rfl f (by rfl)) ?_
      refine wl_p (fun _ => o_lt rfl rfl) ?_
      refine wl_p (fun _ => o_pick_t rfl rfl) ?_
      refine wl_p (fun _ => o_move rfl) ?_
      refine wl_know 15 false rfl (decide_eq_false (by omega)) ?_
      refine wl_off ?_
      refine wl_off ?_
      refine wl_off ?_
      refine wl_off ?_
      refine wl_off ?_
      refine wl_off ?_
      refine wl_off ?_
      refine wl_off ?_
      refine wl_off ?_
      refine wl_off ?_
      refine wl_off ?_
      refine wl_off ?_
      refine wl_off ?_
      refine wl_p (fun _ => o_pick_f rfl rfl) ?_
      refine wl_p (fun _ => o_assign rfl) ?_
      refine wl_nil ?_
      refine ret1 rfl rfl ?_
      exact ⟨rfl, rfl⟩
  · have e : usdAt U z = false := by rw [usdAt, decide_eq_false h0, Bool.false_and]
    rw [e]
    refine callsR Tryd.func36 rfl rfl (by kernel_rfl) rfl ?_
    refine rk_seq ?_
    refine rk_region ?_
    refine wl_p (fun _ => o_assign rfl) ?_
    refine wl_nil ?_
    refine rk_seq ?_
    refine rk_region ?_
    refine wl_p (fun _ => o_move rfl) ?_
    refine wl_p (fun _ => o_ge rfl rfl) ?_
    refine wl_p (fun _ => o_move rfl) ?_
    refine wl_know 7 false rfl (decide_eq_false (by omega)) ?_
    refine wl_off ?_
    refine wl_off ?_
    refine wl_off ?_
    refine wl_off ?_
    refine wl_off ?_
    refine wl_off ?_
    refine wl_p (fun _ => o_pick_f rfl rfl) ?_
    refine wl_p (fun _ => o_move rfl) ?_
    refine wl_off ?_
    refine wl_off ?_
    refine wl_off ?_
    refine wl_off ?_
    refine wl_off ?_
    refine wl_off ?_
    refine wl_off ?_
    refine wl_off ?_
    refine wl_off ?_
    refine wl_off ?_
    refine wl_off ?_
    refine wl_off ?_
    refine wl_off ?_
    refine wl_p (fun _ => o_pick_f rfl rfl) ?_
    refine wl_p (fun _ => o_assign rfl) ?_
    refine wl_nil ?_
    refine ret1 rfl rfl ?_
    exact ⟨rfl, rfl⟩
theorem C_pcheckOk {g gd ul uh : Nat} {z : Int} {U : List Bool} (w : World) (hp : PgAt w g gd ul uh U) (hr : usdAt U z = true) (wz : (Lit.int .i64 z).wf = true) :
    CallsR Tryd.prog 31 [.pointer (some ⟨g, 0, none⟩), .int .i64 z] w fun v w' => v = .int .i64 0 ∧ w' = w := by
  refine callsR Tryd.func31 rfl rfl (by kernel_rfl) rfl ?_
  refine rk_seq ?_
  refine rk_region ?_
  refine wl_p (fun _ => o_assign rfl) ?_
  refine wl_nil ?_
  refine rk_seq ?_
  refine rk_seq ?_
  refine rk_region ?_
  refine wl_p (fun _ => o_move rfl) ?_
  refine wl_call rfl (C_pvalid _ hp) ?_
  rintro v6 w6 ⟨rfl, rfl⟩
  refine wl_p (fun _ => o_not rfl) ?_
  refine wl_nil ?_
  refine rk_false rfl ?_
  refine rk_skip ?_
  refine rk_seq ?_
  refine rk_seq ?_
  refine rk_region ?_
  refine wl_p (fun _ => o_move rfl) ?_
  refine wl_p (fun _ => o_move rfl) ?_
  refine wl_call rfl (C_has _ hp hr wz) ?_
  rintro v10 w10 ⟨rfl, rfl⟩
  refine wl_p (fun _ => o_not rfl) ?_
  refine wl_nil ?_
  refine rk_false rfl ?_
  refine rk_skip ?_
  refine rk_seq ?_
  refine rk_region ?_
  refine wl_p (fun _ => o_assign rfl) ?_
  refine wl_nil ?_
  refine ret1 rfl rfl ?_
  exact ⟨rfl, rfl⟩
theorem C_pcheckNo {g gd ul uh : Nat} {z : Int} {U : List Bool} (w : World) (hp : PgAt w g gd ul uh U) (hr : usdAt U z = false) (wz : (Lit.int .i64 z).wf = true) :
    CallsR Tryd.prog 31 [.pointer (some ⟨g, 0, none⟩), .int .i64 z] w fun v w' => v = .int .i64 6 ∧ w' = w := by
  refine callsR Tryd.func31 rfl rfl (by kernel_rfl) rfl ?_
  refine rk_seq ?_
  refine rk_region ?_
  refine wl_p (fun _ => o_assign rfl) ?_
  refine wl_nil ?_
  refine rk_seq ?_
  refine rk_seq ?_
  refine rk_region ?_
  refine wl_p (fun _ => o_move rfl) ?_
  refine wl_call rfl (C_pvalid _ hp) ?_
  rintro v6 w6 ⟨rfl, rfl⟩
  refine wl_p (fun _ => o_not rfl) ?_
  refine wl_nil ?_
  refine rk_false rfl ?_
  refine rk_skip ?_
  refine rk_seq ?_
  refine rk_seq ?_
  refine rk_region ?_
  refine wl_p (fun _ => o_move rfl) ?_
  refine wl_p (fun _ => o_move rfl) ?_
  refine wl_call rfl (C_has _ hp hr wz) ?_
  rintro v10 w10 ⟨rfl, rfl⟩
  refine wl_p (fun _ => o_not rfl) ?_
  refine wl_nil ?_
  refine rk_true rfl ?_
  refine rk_seq ?_
  refine rk_region ?_
  refine wl_p (fun _ => o_assign rfl) ?_
  refine wl_nil ?_
  refine ret1 rfl rfl ?_
  exact ⟨rfl, rfl⟩
theorem C_pcheckNil {z : Int} (w : World) :
    CallsR Tryd.prog 31 [.pointer none, .int .i64 z] w fun v w' => v = .int .i64 1 ∧ w' = w := by
  refine callsR Tryd.func31 rfl rfl (by kernel_rfl) rfl ?_
  refine rk_seq ?_
  refine rk_region ?_
  refine wl_p (fun _ => o_assign rfl) ?_
  refine wl_nil ?_
  refine rk_seq ?_
  refine rk_seq ?_
  refine rk_region ?_
  refine wl_p (fun _ => o_move rfl) ?_
  refine wl_call rfl (C_pvalidNil _) ?_
  rintro v6 w6 ⟨rfl, rfl⟩
  refine wl_p (fun _ => o_not rfl) ?_
  refine wl_nil ?_
  refine rk_true rfl ?_
  refine rk_seq ?_
  refine rk_region ?_
  refine wl_p (fun _ => o_assign rfl) ?_
  refine wl_nil ?_
  refine ret1 rfl rfl ?_
  exact ⟨rfl, rfl⟩
theorem C_lowest {g gd ul uh k : Nat} {U : List Bool} (w : World) (hT : TabAt0 w 0) (hp : PgAt w g gd ul uh U) (hk : least U = k) :
    CallsR Tryd.prog 35 [.pointer (some ⟨g, 0, none⟩)] w fun v w' => v = .int .i64 (k : Int) ∧ w' = w := by
  obtain ⟨A, c, f, fs⟩ := hp.1.ex
  have hl := hp.2
  have hwl := wds_len U
  refine callsR Tryd.func35 rfl rfl (by kernel_rfl) rfl ?_
  refine rk_seq ?_
  refine rk_region ?_
  refine wl_p (fun _ => o_assign rfl) ?_
  refine wl_nil ?_
  refine rk_seq ?_
  refine rk_seq ?_
  refine rk_region ?_
  refine wl_p (fun _ => o_move rfl) ?_
  refine wl_p (fun _ => o_nil rfl) ?_
  refine wl_p (fun _ => o_faddr (s := 64) (i := 3) (off := 3) Tryd.underlying64 rfl Tryd.sizeOf62 rfl rfl rfl) ?_
  refine wl_r (o_loadbg Tryd.isAgg62 rfl f (by rfl)) ?_
  refine wl_p (fun _ => o_len (t := 62) Tryd.underlying62 rfl) ?_
  refine wl_p (fun _ => o_move rfl) ?_
  refine wl_nil ?_
  refine rk_block ?_
  refine rk_joinf (fun fb fr V => fr = [] ++ fb.drop 3 ∧ (∀ j, j < U.length → U.getD j false = true) ∧ V = w) ?_ (fun ks hj => ?_)
  rotate_left
  · refine rk_loopf (fun fb m fr V => ∃ (i : Nat) (v : Int), fr = [(11, .int .i64 v)] ++ fb.drop 1 ∧ v = i ∧ i ≤ (wds U).length ∧ m = (wds U).length - i ∧ (∀ j, j < 64 * i → U.getD j false = true) ∧ V = w) (n := (wds U).length) (Fr.le_of (by kernel_rfl) (by kernel_rfl) (by repeat' constructor)) ⟨0, _, rfl, rfl, by omega, rfl, fun j h => by omega, rfl⟩ ?_
    rintro m fr V ⟨i, v, rfl, rfl, hi, rfl, hall, rfl⟩
    first | refine rk_frame (by simp only [List.cons_append, List.nil_append, List.drop_succ_cons, List.drop_zero]; rfl) ?_ | refine wl_frame (by simp only [List.cons_append, List.nil_append, List.drop_succ_cons, List.drop_zero]; rfl) ?_
    refine rk_seq ?_
    refine rk_region ?_
    refine wl_p (fun _ => o_lt rfl rfl) ?_
    refine wl_nil ?_
    refine rk_seq ?_
    refine rk_if rfl (fun h12 => ?_) (fun h12 => ?_)
    · have hil : i < (wds U).length := by omega
      have hwd := wds_lt U hil
      have hbit : ∀ j, j < 64 → (wds U)[i].testBit j = U.getD (64 * i + j) false := fun j hj => wds_bit U hil hj
      have hnb : ∀ j, j < 64 → (2 ^ 64 - 1 - (wds U)[i]).testBit j = !(wds U)[i].testBit j := fun j hj => not_bit hwd hj
      refine rk_skip ?_
      refine rk_seq ?_
      refine rk_block ?_
      refine rk_seq ?_
      refine rk_region ?_
      refine wl_p (fun _ => o_move rfl) ?_
      refine wl_p (fun _ => (o_iaddrA1 (i) Tryd.underlying62 Tryd.sizeOf73 rfl rfl rfl (fs.some_ (by omega)) (by omega))) ?_
      refine wl_r (o_ldK Tryd.isAgg73 rfl fs.to_RdK (by omega)) ?_
      refine wl_p (fun _ => o_assign rfl) ?_
      refine wl_p (fun _ => o_assign rfl) ?_
      refine wl_nil ?_
      refine rk_seq ?_
      refine rk_region ?_
      refine wl_p (fun _ => o_move rfl) ?_
      refine wl_p (fun _ => o_mul rfl rfl (by omega) (by omega)) ?_
      refine wl_p (fun _ => o_move rfl) ?_
      refine wl_p (fun _ => o_notN (wds U)[i] rfl rfl (by omega)) ?_
      obtain ⟨x, hx⟩ : ∃ x, 2 ^ 64 - 1 - (wds U)[i] = x := ⟨_, rfl⟩
      rw [hx] at hnb ⊢
      have hxl : x < 18446744073709551616 := by omega
      by_cases hx0 : x = 0
      · have e64 : Lib.ctz 64 x = 64 := by rw [hx0]; rfl
        refine wl_call rfl (C_tz64 _ hT (by omega)) ?_
        rintro v20 w20 ⟨rfl, rfl⟩
        refine wl_p (fun _ => o_add rfl rfl (by omega) (by omega)) ?_
        refine wl_p (fun _ => o_assign rfl) ?_
        refine wl_nil ?_
        refine rk_seq ?_
        refine rk_region ?_
        refine wl_p (fun _ => o_move rfl) ?_
        refine wl_p (fun _ => o_move rfl) ?_
        refine wl_p (fun _ => o_add rfl rfl (by omega) (by omega)) ?_
        refine wl_p (fun _ => o_mul rfl rfl (by omega) (by omega)) ?_
        refine wl_p (fun _ => o_lt rfl rfl) ?_
        refine wl_nil ?_
        refine rk_if rfl (fun h26 => absurd h26 (by omega)) (fun h26 => ?_)
        refine rk_skip ?_
        refine rk_blk ?_
        refine rk_region ?_
        refine wl_p (fun _ => o_add rfl rfl (by omega) (by omega)) ?_
        refine wl_p (fun _ => o_move rfl) ?_
        refine wl_nil ?_
        rw [e64]
        exact rk_againf (Fr.le_of (by kernel_rfl) (by kernel_rfl) (by repeat' constructor)) ⟨i + 1, (i : Int) + 1, rfl, by omega, by omega, rfl, fun j h => by
          rcases Nat.lt_or_ge j (64 * i) with h1 | h1
          · exact hall j h1
          · have h2 := hnb (j - 64 * i) (by omega)
            rw [hx0, Nat.zero_testBit, hbit _ (by omega), Nat.add_sub_cancel' h1] at h2
            simpa using h2.symm, rfl⟩ (by omega)
      · obtain ⟨b1, b2, b3, _⟩ := ctz_bit hx0 (by omega)
        obtain ⟨q, hq⟩ : ∃ q, Lib.ctz 64 x = q := ⟨_, rfl⟩
        rw [hq] at b1 b2 b3
        have hmin : min (64 * i + q) U.length = k := by
          rw [← hk]
          refine least_of U (fun j h => ?_) ?_
          · rcases Nat.lt_or_ge j (64 * i) with h1 | h1
            · exact hall j h1
            · have h2 := hnb (j - 64 * i) (by omega)
              rw [b2 _ (by omega), hbit _ (by omega), Nat.add_sub_cancel' h1] at h2
              simpa using h2.symm
          · have h2 := hnb q b3
            rw [b1, hbit _ b3] at h2
            simpa using h2.symm
        refine wl_call rfl (C_tz64 _ hT (by omega)) ?_
        rintro v20 w20 ⟨rfl, rfl⟩
        refine wl_p (fun _ => o_add rfl rfl (by omega) (by omega)) ?_
        refine wl_p (fun _ => o_assign rfl) ?_
        refine wl_nil ?_
        refine rk_seq ?_
        refine rk_region ?_
        refine wl_p (fun _ => o_move rfl) ?_
        refine wl_p (fun _ => o_move rfl) ?_
        refine wl_p (fun _ => o_add rfl rfl (by omega) (by omega)) ?_
        refine wl_p (fun _ => o_mul rfl rfl (by omega) (by omega)) ?_
        refine wl_p (fun _ => o_lt rfl rfl) ?_
        refine wl_nil ?_
        refine rk_if rfl (fun h26 => ?_) (fun h26 => h26.elim (by omega))
        refine rk_seq ?_
        refine rk_region ?_
        refine wl_p (fun _ => o_move rfl) ?_
        refine wl_p (fun _ => o_move rfl) ?_
        refine wl_p (fun _ => o_nil rfl) ?_
        refine wl_p (fun _ => o_faddr (s := 64) (i := 2) (off := 2) Tryd.underlying64 rfl Tryd.sizeOf3 rfl rfl rfl) ?_
        refine wl_r (o_loadbg Tryd.isAgg3 rfl f (by rfl)) ?_
        refine wl_p (fun _ => o_min rfl rfl) ?_
        refine wl_p (fun _ => o_assign rfl) ?_
        refine wl_nil ?_
        rw [hq]
        refine ret1 rfl rfl ?_
        exact ⟨congrArg (Value.int .i64) (by omega), rfl⟩
    · refine rk_exit rfl ?_
      exact rk_tof hj (Fr.le_of (by kernel_rfl) (by kernel_rfl) (by repeat' constructor)) ⟨rfl, fun j h => hall j (by omega), rfl⟩
  rintro fr V ⟨rfl, hall, rfl⟩
  have e : U.length = least U := least_all U hall
  first | refine rk_frame (by simp only [List.cons_append, List.nil_append, List.drop_succ_cons, List.drop_zero]; rfl) ?_ | refine wl_frame (by simp only [List.cons_append, List.nil_append, List.drop_succ_cons, List.drop_zero]; rfl) ?_
  refine rk_seq ?_
  refine rk_region ?_
  refine wl_p (fun _ => o_move rfl) ?_
  refine wl_p (fun _ => o_nil rfl) ?_
  refine wl_p (fun _ => o_faddr (s := 64) (i := 2) (off := 2) Tryd.underlying64 rfl Tryd.sizeOf3 rfl rfl rfl) ?_
  refine wl_r (o_loadbg Tryd.isAgg3 rfl f (by rfl)) ?_
  refine wl_p (fun _ => o_assign rfl) ?_
  refine wl_nil ?_
  refine ret1 rfl rfl ?_
  exact ⟨by rw [← hk, ← e], rfl⟩
theorem C_pSpare {g gd ul uh k : Nat} {U : List Bool} (w : World) (hp : PgAt w g gd ul uh U) (hk : (usd U U.length).length = k) :
    CallsR Tryd.prog 17 [.pointer (some ⟨g, 0, none⟩)] w fun v w' => v = .int .i64 ((U.length : Int) - k) ∧ Below w.heap.size w w' := by
  obtain ⟨A, c, f, fs⟩ := hp.1.ex
  have hl := hp.2
  have hkl := usd_le U U.length
  refine callsR Tryd.func17 rfl rfl (by kernel_rfl) rfl ?_
  have hw := Below.refl w.heap.size w
  refine rk_seq ?_
  refine rk_region ?_
  refine wl_p (fun _ => o_assign rfl) ?_
  refine wl_nil ?_
  refine rk_seq ?_
  refine rk_seq ?_
  refine rk_region ?_
  refine wl_p (fun _ => o_move rfl) ?_
  refine wl_call rfl (C_pvalid _ hp) ?_
  rintro v4 w4 ⟨rfl, rfl⟩
  refine wl_p (fun _ => o_not rfl) ?_
  refine wl_nil ?_
  refine rk_false rfl ?_
  refine rk_skip ?_
  refine rk_seq ?_
  refine rk_draw (id := 3) (none) [0, 1, 2, 4, 0, 16, 32, 64, 128, 264, 1023] [0, 1, 3, 7, 0, 16, 48, 112, 240, 511, 1023] 256 256 [(.p, 0), (.p, 1), (.p, 2), (.s, 3), (.p, 4), (.p, 5), (.p, 6), (.r, 7), (.c, 8), (.p, 9), (.p, 10)] (by kernel_rfl) (by kernel_rfl) (by kernel_rfl) (by kernel_rfl) (by kernel_rfl) ?_
  replace hw := hw.drew
  refine wl_p (fun _ => o_move rfl) ?_
  refine wl_p (fun _ => o_nil rfl) ?_
  refine wl_p (fun _ => o_faddr (s := 64) (i := 2) (off := 2) Tryd.underlying64 rfl Tryd.sizeOf3 rfl rfl rfl) ?_
  refine wl_s (fun _ hk => (o_loadbg Tryd.isAgg3 rfl ((f.u hw).u (below_of_grown_none hk)) (by rfl))) ?_
  refine wl_p (fun _ => o_move rfl) ?_
  refine wl_p (fun _ => o_nil rfl) ?_
  refine wl_p (fun _ => o_faddr (s := 64) (i := 3) (off := 3) Tryd.underlying64 rfl Tryd.sizeOf62 rfl rfl rfl) ?_
  refine wl_r (o_loadbg Tryd.isAgg62 rfl (f.u hw) (by rfl)) ?_
  refine wl_call rfl (C_total _ (fs.u hw).to_RdK hk rfl (by omega)) ?_ (hq := .inr fun _ _ h => grown_of_below h.2 _)
  rintro v14 w14 ⟨rfl, b14⟩
  simp only [drew_size] at b14
  have s14 := b14.size
  simp only [drew_size] at s14
  replace hw := hw.trans (b14.mono hw.size)
  refine wl_p (fun _ => o_sub rfl rfl (by omega) (by omega)) ?_
  refine wl_p (fun _ => o_assign rfl) ?_
  refine wl_nild ?_
  refine ret1 rfl rfl ?_
  exact ⟨rfl, hw⟩
theorem C_pSpareNil (w : World) :
    CallsR Tryd.prog 17 [.pointer none] w fun v w' => v = .int .i64 0 ∧ Below w.heap.size w w' := by
  refine callsR Tryd.func17 rfl rfl (by kernel_rfl) rfl ?_
  have hw := Below.refl w.heap.size w
  refine rk_seq ?_
  refine rk_region ?_
  refine wl_p (fun _ => o_assign rfl) ?_
  refine wl_nil ?_
  refine rk_seq ?_
  refine rk_seq ?_
  refine rk_region ?_
  refine wl_p (fun _ => o_move rfl) ?_
  refine wl_call rfl (C_pvalidNil _) ?_
  rintro v4 w4 ⟨rfl, rfl⟩
  refine wl_p (fun _ => o_not rfl) ?_
  refine wl_nil ?_
  refine rk_true rfl ?_
  refine rk_seq ?_
  refine rk_region ?_
  refine wl_p (fun _ => o_assign rfl) ?_
  refine wl_nil ?_
  refine ret1 rfl rfl ?_
  exact ⟨rfl, hw⟩
theorem C_pFreeOk {g gd ul uh n : Nat} {z : Int} {U : List Bool} (w : World) (hp : PgAt w g gd ul uh U) (hr : usdAt U z = true) (hz : z = (n : Int)) (wz : (Lit.int .i64 z).wf = true) :
    CallsR Tryd.prog 21 [.pointer (some ⟨g, 0, none⟩), .int .i64 z] w fun v w' => v = .int .i64 0 ∧ PgAt w' g gd ul uh (U.set n false) ∧ Chg ul uh w w' ∧ ∃ row, Grew w w' 73 row := by
  subst hz
  obtain ⟨A, c, f, fs⟩ := hp.1.ex
  have hhi := hp.1.hi
  have hl := hp.2
  have hwl := wds_len U
  have hn : n < U.length := by
    rcases Nat.lt_or_ge n U.length with h | h
    · exact h
    · rw [usdAt, Int.toNat_natCast, getD_past U h, Bool.and_false] at hr; cases hr
  have hn64 : n / 64 < (wds U).length := by omega
  have hwd := wds_lt U hn64
  have hpw : 2 ^ (n % 64) < 18446744073709551616 := Nat.pow_lt_pow_right (a := 2) (by decide) (Nat.mod_lt n (by decide))
  have hmk := wds_free U n (andNotN (wds U)[n / 64] (2 ^ (n % 64))) hn hn64 (andNotN_lt _ _) (fun j hj => by rw [andNotN_bit hj, Nat.testBit_two_pow])
  have hsl : (U.set n false).length = U.length := List.length_set
  refine callsR Tryd.func21 rfl rfl (by kernel_rfl) rfl ?_
  have hcg : Chg ul uh w w := Chg.refl
  refine rk_seq ?_
  refine rk_region ?_
  refine wl_p (fun _ => o_assign rfl) ?_
  refine wl_nil ?_
  refine rk_seq ?_
  refine rk_seq ?_
  refine rk_region ?_
  refine wl_p (fun _ => o_move rfl) ?_
  refine wl_p (fun _ => o_move rfl) ?_
  refine wl_call rfl (C_pcheckOk _ hp hr wz) ?_
  rintro v8 w8 ⟨rfl, rfl⟩
  refine wl_p (fun _ => o_assign rfl) ?_
  refine wl_nil ?_
  refine rk_seq ?_
  refine rk_region ?_
  refine wl_p (fun _ => o_move rfl) ?_
  refine wl_p (fun _ => o_ne rfl rfl) ?_
  refine wl_nil ?_
  refine rk_false rfl ?_
  refine rk_skip ?_
  refine rk_seq ?_
  refine rk_draw (id := 4) (none) [0, 1, 2, 4, 0, 16, 40, 64, 0, 256, 512, 1152, 4095, 8191] [0, 1, 3, 7, 0, 16, 63, 127, 0, 256, 768, 2047, 4095, 8191] 8192 0 [(.p, 0), (.p, 1), (.p, 2), (.r, 3), (.p, 4), (.p, 5), (.p, 6), (.r, 7), (.p, 8), (.p, 9), (.p, 10), (.p, 11), (.p, 12), (.l, 13)] (by kernel_rfl) (by kernel_rfl) (by kernel_rfl) (by kernel_rfl) (by kernel_rfl) ?_
  replace hcg := hcg.trans Chg.drew
  replace fs := fs.d
  replace f := f.d
  replace hp := hp.d
  refine wl_p (fun _ => o_move rfl) ?_
  refine wl_p (fun _ => o_nil rfl) ?_
  refine wl_p (fun _ => o_faddr (s := 64) (i := 3) (off := 3) Tryd.underlying64 rfl Tryd.sizeOf62 rfl rfl rfl) ?_
  refine wl_r (o_loadbg Tryd.isAgg62 rfl f (by rfl)) ?_
  refine wl_p (fun _ => o_move rfl) ?_
  refine wl_p (fun _ => o_quo rfl rfl (by omega) (by omega) (by omega)) ?_
  refine wl_p (fun _ => (o_iaddrA1 (n / 64) Tryd.underlying62 Tryd.sizeOf73 rfl rfl (by omega) (fs.some_ (by omega)) (by omega))) ?_
  refine wl_r (o_ldK Tryd.isAgg73 rfl fs.to_RdK (by omega)) ?_
  refine wl_p (fun _ => o_move rfl) ?_
  refine wl_p (fun _ => o_rem rfl rfl (by omega) (by omega)) ?_
  refine wl_p (fun _ => o_shl1N (n := n % 64) rfl rfl (by omega) (by omega)) ?_
  refine wl_p (fun _ => (o_andNotN ((wds U)[n / 64]) (2 ^ (n % 64)) rfl rfl rfl rfl)) ?_
  refine wl_p (fun _ => (o_iaddrA1 (n / 64) Tryd.underlying62 Tryd.sizeOf73 rfl rfl (by omega) (fs.some_ (by omega)) (by omega))) ?_
  refine wl_stK Tryd.sizeOf73 rfl fs rfl (by omega) ?_
  rintro w f_1 g_1 b e
  simp only [drew_size] at e
  have qf_1 := f_1.cap
  have s := g_1.size
  simp only [drew_size] at s
  replace hcg := hcg.trans ((Chg.of_g g_1.g f_1.rng).wide (by omega) (by omega))
  replace f := f.y g_1 (by decide)
  clear hp
  clear fs
  refine wl_nild ?_
  refine rk_seq ?_
  refine rk_region ?_
  refine wl_p (fun _ => o_assign rfl) ?_
  refine wl_nil ?_
  rw [hmk] at f_1
  refine ret1 rfl rfl ?_
  exact ⟨rfl, ⟨⟨⟨A, c, by rw [wds_len, hsl, ← wds_len]; exact f, f_1⟩, by omega⟩, by rw [hsl]; exact hl⟩, hcg, _, Grew.of_drew (by assumption)⟩
theorem C_pFreeNo {g gd ul uh : Nat} {z : Int} {U : List Bool} (w : World) (hp : PgAt w g gd ul uh U) (hr : usdAt U z = false) (wz : (Lit.int .i64 z).wf = true) :
    CallsR Tryd.prog 21 [.pointer (some ⟨g, 0, none⟩), .int .i64 z] w fun v w' => v = .int .i64 6 ∧ Below w.heap.size w w' := by
  refine callsR Tryd.func21 rfl rfl (by kernel_rfl) rfl ?_
  have hw := Below.refl w.heap.size w
  refine rk_seq ?_
  refine rk_region ?_
  refine wl_p (fun _ => o_assign rfl) ?_
  refine wl_nil ?_
  refine rk_seq ?_
  refine rk_seq ?_
  refine rk_region ?_
  refine wl_p (fun _ => o_move rfl) ?_
  refine wl_p (fun _ => o_move rfl) ?_
  refine wl_call rfl (C_pcheckNo _ hp hr wz) ?_
  rintro v8 w8 ⟨rfl, rfl⟩
  refine wl_p (fun _ => o_assign rfl) ?_
  refine wl_nil ?_
  refine rk_seq ?_
  refine rk_region ?_
  refine wl_p (fun _ => o_move rfl) ?_
  refine wl_p (fun _ => o_ne rfl rfl) ?_
  refine wl_nil ?_
  refine rk_true rfl ?_
  refine rk_seq ?_
  refine rk_region ?_
  refine wl_p (fun _ => o_move rfl) ?_
  refine wl_p (fun _ => o_assign rfl) ?_
  refine wl_nil ?_
  refine ret1 rfl rfl ?_
  exact ⟨rfl, hw⟩
theorem C_pFreeNil {z : Int} (w : World) :
    CallsR Tryd.prog 21 [.pointer none, .int .i64 z] w fun v w' => v = .int .i64 1 ∧ Below w.heap.size w w' := by
  refine callsR Tryd.func21 rfl rfl (by kernel_rfl) rfl ?_
  have hw := Below.refl w.heap.size w
  refine rk_seq ?_
  refine rk_region ?_
  refine wl_p (fun _ => o_assign rfl) ?_
  refine wl_nil ?_
  refine rk_seq ?_
  refine rk_seq ?_
  refine rk_region ?_
  refine wl_p (fun _ => o_move rfl) ?_
  refine wl_p (fun _ => o_move rfl) ?_
  refine wl_call rfl (C_pcheckNil _) ?_
  rintro v8 w8 ⟨rfl, rfl⟩
  refine wl_p (fun _ => o_assign rfl) ?_
  refine wl_nil ?_
  refine rk_seq ?_
  refine rk_region ?_
  refine wl_p (fun _ => o_move rfl) ?_
  refine wl_p (fun _ => o_ne rfl rfl) ?_
  refine wl_nil ?_
  refine rk_true rfl ?_
  refine rk_seq ?_
  refine rk_region ?_
  refine wl_p (fun _ => o_move rfl) ?_
  refine wl_p (fun _ => o_assign rfl) ?_
  refine wl_nil ?_
  refine ret1 rfl rfl ?_
  exact ⟨rfl, hw⟩
theorem C_pSync {g gd ul uh dl dh : Nat} {U : List Bool} {S S0 : List Sec} {C C0 : List (Option Sec)} (w : World) (hp : PgAt w g gd ul uh U) (hd : DkAt w dl dh gd S C) (hS0 : cur S C = S0) (hC0 : List.replicate S.length none = C0) :
    CallsR Tryd.prog 22 [.pointer (some ⟨g, 0, none⟩)] w fun v w' => v = .int .i64 0 ∧ DkAt w' dl dh gd S0 C0 ∧ Chg dl dh w w' := by
  obtain ⟨A, c, f, fs⟩ := hp.1.ex
  refine callsR Tryd.func22 rfl rfl (by kernel_rfl) rfl ?_
  have hcg : Chg dl dh w w := Chg.refl
  refine rk_seq ?_
  refine rk_region ?_
  refine wl_p (fun _ => o_assign rfl) ?_
  refine wl_nil ?_
  refine rk_seq ?_
  refine rk_seq ?_
  refine rk_region ?_
  refine wl_p (fun _ => o_move rfl) ?_
  refine wl_call rfl (C_pvalid _ hp) ?_
  rintro v4 w4 ⟨rfl, rfl⟩
  refine wl_p (fun _ => o_not rfl) ?_
  refine wl_nil ?_
  refine rk_false rfl ?_
  refine rk_skip ?_
  refine rk_seq ?_
  refine rk_region ?_
  refine wl_p (fun _ => o_move rfl) ?_
  refine wl_p (fun _ => o_nil rfl) ?_
  refine wl_p (fun _ => o_faddr (s := 64) (i := 1) (off := 1) Tryd.underlying64 rfl Tryd.sizeOf29 rfl rfl rfl) ?_
  refine wl_r (o_loadbg Tryd.isAgg29 rfl f (by rfl)) ?_
  refine wl_call rfl (C_dFlush _ hd hS0 hC0) ?_
  rintro v10 w10 ⟨rfl, ⟨f10, g10⟩⟩
  have s10 := g10.size
  replace hcg := hcg.trans (g10.wide (by omega) (by omega))
  clear fs
  clear f
  clear hd
  clear hp
  refine wl_p (fun _ => o_assign rfl) ?_
  refine wl_nil ?_
  refine ret1 rfl rfl ?_
  exact ⟨rfl, f10, hcg⟩
theorem C_pSyncNil (w : World) :
    CallsR Tryd.prog 22 [.pointer none] w fun v w' => v = .int .i64 1 ∧ Below w.heap.size w w' := by
  refine callsR Tryd.func22 rfl rfl (by kernel_rfl) rfl ?_
  have hw := Below.refl w.heap.size w
  refine rk_seq ?_
  refine rk_region ?_
  refine wl_p (fun _ => o_assign rfl) ?_
  refine wl_nil ?_
  refine rk_seq ?_
  refine rk_seq ?_
  refine rk_region ?_
  refine wl_p (fun _ => o_move rfl) ?_
  refine wl_call rfl (C_pvalidNil _) ?_
  rintro v4 w4 ⟨rfl, rfl⟩
  refine wl_p (fun _ => o_not rfl) ?_
  refine wl_nil ?_
  refine rk_true rfl ?_
  refine rk_seq ?_
  refine rk_region ?_
  refine wl_p (fun _ => o_assign rfl) ?_
  refine wl_nil ?_
  refine ret1 rfl rfl ?_
  exact ⟨rfl, hw⟩
end Go.Proofs.YtklijaahbahcoaaDoor
