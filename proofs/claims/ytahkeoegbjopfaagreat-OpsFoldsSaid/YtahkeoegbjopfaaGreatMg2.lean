/-
  Plain mathematics of the bytes of numbers: no program in sight.
-/
import Derived.Test.YtahkeoegbjopfaaGreatMg1
import Derived.Lib.BitFns
import Derived.Laws.BitsAllLaws
import GoSem.Op.String
import Derived.OpenShut
import Derived.Deep.Slices
namespace Go.Proofs.YtahkeoegbjopfaaGreat
set_option maxRecDepth 100000

def room (n : Nat) : Nat :=
 if n < 128 then 1 else if n < 16384 then 2 else if n < 2097152 then 3 else if n < 268435456 then 4 else if n < 34359738368 then 5
 else if n < 4398046511104 then 6 else if n < 562949953421312 then 7 else if n < 72057594037927936 then 8 else 9

theorem room_pos (n : Nat) : 1 ≤ room n ∧ room n ≤ 9 := by
 unfold room
 refine ⟨?_, ?_⟩ <;> (repeat' split) <;> omega

theorem or_one (n : Nat) : n ||| 1 = n / 2 * 2 + 1 := by
 rcases Nat.mod_two_eq_zero_or_one n with h | h
 ·rw [nat_join 1 n 1 (by simpa using h) (by omega)]; omega
 ·have e : n = (n - 1) ||| 1 := by rw [nat_join 1 (n - 1) 1 (by simp; omega) (by omega)]; omega
  have e2 : n ||| 1 = n := by
   have : n ||| 1 = (n - 1) ||| 1 ||| 1 := by rw [← e]
   rw [this, Nat.or_assoc, Nat.or_self, ← e]
  rw [e2]; omega

theorem bl_lo (k x : Nat) (h : 2 ^ k ≤ x) (hx : x < 2 ^ 64) : k + 1 ≤ Lib.bitLen x := by
 rw [Lib.bitLen_shift k x h hx]
 have h1 : 1 ≤ x / 2 ^ k := (Nat.one_le_div_iff (Nat.two_pow_pos k)).2 h
 have h2 : x / 2 ^ k < 2 ^ 64 := Nat.lt_of_le_of_lt (Nat.div_le_self _ _) hx
 rw [Lib.bitLen_half _ (by omega) h2]
 omega

theorem size_room (n : Nat) (h : n < 18446744073709551616) : min (((Lib.bitLen (n ||| 1) : Int) + 6) / 7) 9 = (room n : Int) := by
 have hy := or_one n
 generalize n ||| 1 = y at *
 have y1 : y ≤ n + 1 := by omega
 have y2 : n ≤ y := by omega
 have y3 : y < 2 ^ 64 := by simp; omega
 have hodd : y % 2 = 1 := by omega
 clear hy
 have lo := fun k hk => bl_lo k y hk y3
 have hi := fun k hk hx => Lib.bitLen_le y k hk hx
 unfold room
 split
 ·have := lo 0 (by simp; omega); have := hi 7 (by omega) (by simp; omega); omega
 split
 ·have := lo 7 (by simp; omega); have := hi 14 (by omega) (by simp; omega); omega
 split
 ·have := lo 14 (by simp; omega); have := hi 21 (by omega) (by simp; omega); omega
 split
 ·have := lo 21 (by simp; omega); have := hi 28 (by omega) (by simp; omega); omega
 split
 ·have := lo 28 (by simp; omega); have := hi 35 (by omega) (by simp; omega); omega
 split
 ·have := lo 35 (by simp; omega); have := hi 42 (by omega) (by simp; omega); omega
 split
 ·have := lo 42 (by simp; omega); have := hi 49 (by omega) (by simp; omega); omega
 split
 ·have := lo 49 (by simp; omega); have := hi 56 (by omega) (by simp; omega); omega
 ·have := lo 56 (by simp; omega); omega

def beB : Nat → Nat → List UInt8
 | 0, _ => []
 | j + 1, n => UInt8.ofNat (n / 256 ^ j) :: beB j n
theorem beB_length : ∀ j n, (beB j n).length = j
 | 0, _ => rfl
 | j + 1, n => by simp [beB, beB_length j n]

def first (k n : Nat) : UInt8 := UInt8.ofNat (256 - 2 ^ (9 - k) + n / 256 ^ (k - 1))
def enc (n : Nat) : List UInt8 := first (room n) n :: beB (room n - 1) n
theorem enc_length (n : Nat) : (enc n).length = room n := by
 have := room_pos n
 simp [enc, beB_length]; omega

def clampN (size : Int) : Nat := (max 1 (min size 8)).toNat
theorem clampN_bd (size : Int) : 1 ≤ clampN size ∧ clampN size ≤ 8 ∧ max 1 (min size 8) = (clampN size : Int) := by unfold clampN; omega

theorem byte_shift (n j : Nat) (hj : j ≤ 8) : IntKind.u8.wrap ((n : Int) / 2 ^ min (8 * (j : Int)).toNat IntKind.u64.bits) = ((UInt8.ofNat (n / 256 ^ j)).toNat : Int) := by
 have e : min (8 * (j : Int)).toNat IntKind.u64.bits = 8 * j := by
  show min (8 * (j : Int)).toNat 64 = 8 * j
  omega
 rw [e, UInt8.toNat_ofNat', IntKind.wrap_u8', show (256 : Nat) ^ j = 2 ^ (8 * j) from by rw [Nat.pow_mul]]
 rw [show ((2 : Int) ^ (8 * j)) = ((2 ^ (8 * j) : Nat) : Int) from by simp, ← Int.natCast_ediv]
 generalize n / 2 ^ (8 * j) = q
 omega

theorem room_lt (n : Nat) (h : n < 18446744073709551616) : n / 256 ^ (room n - 1) < 2 ^ (8 - room n) := by
 unfold room
 repeat' split
 all_goals (simp; omega)

/-! What a reader does, on what is left and its error (ErrBad 4, ErrMore 5). -/
def lead (c : UInt8) : Nat := if c.toNat < 128 then 1 else if c.toNat < 192 then 2 else if c.toNat < 224 then 3 else if c.toNat < 240 then 4 else if c.toNat < 248 then 5 else if c.toNat < 252 then 6
 else if c.toNat < 254 then 7 else if c.toNat < 255 then 8 else 9
theorem lead_bd (c : UInt8) : 1 ≤ lead c ∧ lead c ≤ 9 := by
 unfold lead
 refine ⟨?_, ?_⟩ <;> (repeat' split) <;> omega
def beVal (n : Nat) (l : List UInt8) : Nat := l.foldl (fun a c => a * 256 + c.toNat) n
def leVal : List UInt8 → Nat
 | [] => 0
 | c :: r => c.toNat + 256 * leVal r
abbrev RS := List UInt8 × Nat
def rTake (n : Nat) (s : RS) : List UInt8 × RS := if s.2 ≠ 0 then ([], s) else if s.1.length < n then ([], (s.1, 5)) else (s.1.take n, (s.1.drop n, 0))
def rNumber (s : RS) : Nat × RS := if s.2 ≠ 0 then (0, s) else match s.1 with
 | [] => (0, ([], 5))
 | c :: t => if t.length + 1 < lead c then (0, (s.1, 5))
  else if room (beVal (c.toNat % 2 ^ (8 - lead c)) (t.take (lead c - 1))) = lead c then (beVal (c.toNat % 2 ^ (8 - lead c)) (t.take (lead c - 1)), (t.drop (lead c - 1), 0))
  else (0, (s.1, 4))
def rBlock (s : RS) : List UInt8 × RS :=
 if (rNumber s).2.2 ≠ 0 then ([], (s.1, (rNumber s).2.2)) else if (rNumber s).2.1.length < (rNumber s).1 then ([], (s.1, 5)) else ((rNumber s).2.1.take (rNumber s).1, ((rNumber s).2.1.drop (rNumber s).1, 0))
def rWord (size : Int) (s : RS) : Nat × RS := (leVal (rTake (clampN size) s).1, (rTake (clampN size) s).2)
def nulls (n : Nat) : List UInt8 := List.replicate n 0
def rDigest (s : RS) : List UInt8 × RS := (if (rTake 32 s).2.2 ≠ 0 then nulls 32 else (rTake 32 s).1, (rTake 32 s).2)
def rEnd (s : RS) : Nat := if s.2 ≠ 0 then s.2 else if s.1 ≠ [] then 4 else 0

theorem rNumber_err {s : List UInt8} {e : Nat} (h : e ≠ 0) : rNumber (s, e) = (0, (s, e)) := by simp [rNumber, h]
theorem rNumber_nil : rNumber ([], 0) = (0, ([], 5)) := by simp [rNumber]
theorem rNumber_more {c : UInt8} {t : List UInt8} (h : t.length + 1 < lead c) : rNumber (c :: t, 0) = (0, (c :: t, 5)) := by simp [rNumber, h]
theorem rNumber_bad {c : UInt8} {t : List UInt8} (h : ¬ t.length + 1 < lead c) (h2 : room (beVal (c.toNat % 2 ^ (8 - lead c)) (t.take (lead c - 1))) ≠ lead c) : rNumber (c :: t, 0) = (0, (c :: t, 4)) := by simp [rNumber, h, h2]
theorem rNumber_ok {c : UInt8} {t : List UInt8} (h : ¬ t.length + 1 < lead c) (h2 : room (beVal (c.toNat % 2 ^ (8 - lead c)) (t.take (lead c - 1))) = lead c) :
  rNumber (c :: t, 0) = (beVal (c.toNat % 2 ^ (8 - lead c)) (t.take (lead c - 1)), (t.drop (lead c - 1), 0)) := by simp [rNumber, h, h2]

theorem beVal_snoc (n : Nat) (l : List UInt8) (c : UInt8) : beVal n (l ++ [c]) = beVal n l * 256 + c.toNat := by simp [beVal]
theorem beVal_lt : ∀ (l : List UInt8) (n k : Nat), n < 2 ^ k → beVal n l < 2 ^ (k + 8 * l.length)
 | [], n, k, h => by simpa [beVal] using h
 | c :: l, n, k, h => by
  have h1 : n * 256 + c.toNat < 2 ^ (k + 8) := by
   have := c.toNat_lt
   rw [Nat.pow_add]
   omega
  have := beVal_lt l (n * 256 + c.toNat) (k + 8) h1
  have e : beVal n (c :: l) = beVal (n * 256 + c.toNat) l := rfl
  rw [e, List.length_cons, show k + 8 * (l.length + 1) = k + 8 + 8 * l.length from by omega]
  exact this
theorem beVal_u64 (c : UInt8) (l : List UInt8) (h : l.length ≤ lead c - 1) : beVal (c.toNat % 2 ^ (8 - lead c)) l < 18446744073709551616 := by
 have hk := lead_bd c
 have h1 := beVal_lt l (c.toNat % 2 ^ (8 - lead c)) (8 - lead c) (Nat.mod_lt _ (Nat.two_pow_pos _))
 exact Nat.lt_of_lt_of_le h1 (Nat.pow_le_pow_right (by omega) (show 8 - lead c + 8 * l.length ≤ 64 by omega))
theorem mask_byte (c : UInt8) : bits .and .u8 (c.toNat : Int) (255 / 2 ^ min ((lead c : Int)).toNat IntKind.u8.bits) = ((c.toNat % 2 ^ (8 - lead c) : Nat) : Int) := by
 have : ∀ c : Fin 256, bits .and .u8 (c.val : Int) (255 / 2 ^ min ((lead (UInt8.ofNat c.val) : Int)).toNat IntKind.u8.bits) = ((c.val % 2 ^ (8 - lead (UInt8.ofNat c.val)) : Nat) : Int) := by decide +kernel
 simpa using this ⟨c.toNat, c.toNat_lt⟩
theorem join_byte (n : Nat) (c : UInt8) (h : n * 256 < 18446744073709551616) : bits .or .u64 (IntKind.u64.wrap ((n : Int) * 2 ^ min ((8 : Int)).toNat IntKind.u64.bits)) (c.toNat : Int) = ((n * 256 + c.toNat : Nat) : Int) := by
 have hc := c.toNat_lt
 have e : IntKind.u64.wrap ((n : Int) * 2 ^ min ((8 : Int)).toNat IntKind.u64.bits) = ((n * 256 : Nat) : Int) := by
  show ((n : Int) * 256) % 18446744073709551616 = _
  omega
 rw [e, u64_or_nat _ _ h (by omega), nat_join 8 _ _ (by simp) (by simpa using hc)]

theorem leVal_snoc : ∀ (l : List UInt8) (c : UInt8), leVal (l ++ [c]) = leVal l + c.toNat * 256 ^ l.length
 | [], c => by simp [leVal]
 | d :: l, c => by
  simp only [List.cons_append, leVal, leVal_snoc l c, List.length_cons, Nat.pow_succ]
  generalize 256 ^ l.length = q
  rw [Nat.mul_add, Nat.mul_left_comm, Nat.mul_comm 256 q]
  omega
theorem leVal_lt : ∀ l : List UInt8, leVal l < 256 ^ l.length
 | [] => by simp [leVal]
 | c :: l => by
  have h1 := leVal_lt l
  have h2 := c.toNat_lt
  simp only [leVal, List.length_cons, Nat.pow_succ]
  omega
theorem or_byte (l : List UInt8) (c : UInt8) (h : l.length < 8) :
  bits .or .u64 (leVal l : Int) (IntKind.u64.wrap ((c.toNat : Int) * 2 ^ min (8 * (l.length : Int)).toNat IntKind.u64.bits)) = (leVal (l ++ [c]) : Int) := by
 have hc := c.toNat_lt
 have h1 := leVal_lt l
 have e1 : min (8 * (l.length : Int)).toNat IntKind.u64.bits = 8 * l.length := by
  show min (8 * (l.length : Int)).toNat 64 = 8 * l.length
  omega
 have hp : (256 : Nat) ^ l.length = 2 ^ (8 * l.length) := by rw [Nat.pow_mul]
 have hle : 2 ^ (8 * l.length) ≤ 2 ^ 56 := Nat.pow_le_pow_right (by omega) (by omega)
 have hq : c.toNat * 2 ^ (8 * l.length) < 18446744073709551616 := by
  have : c.toNat * 2 ^ (8 * l.length) ≤ 255 * 2 ^ 56 := Nat.mul_le_mul (by omega) hle
  omega
 rw [hp] at h1
 have e2 : IntKind.u64.wrap ((c.toNat : Int) * 2 ^ (8 * l.length)) = ((c.toNat * 2 ^ (8 * l.length) : Nat) : Int) := by
  have e3 : ((c.toNat : Int) * 2 ^ (8 * l.length)) = ((c.toNat * 2 ^ (8 * l.length) : Nat) : Int) := by simp
  rw [e3]
  show ((c.toNat * 2 ^ (8 * l.length) : Nat) : Int) % 18446744073709551616 = _
  omega
 rw [e1, e2, u64_or_nat _ _ (by omega) hq, Nat.or_comm, nat_join (8 * l.length) _ _ (Nat.mul_mod_left _ _) h1, leVal_snoc, hp, Nat.add_comm]
theorem leVal_u64 (l : List UInt8) (h : l.length ≤ 8) : leVal l < 18446744073709551616 :=
 Nat.lt_of_lt_of_le (leVal_lt l) (Nat.le_trans (Nat.pow_le_pow_right (by omega) h) (by decide))
end Go.Proofs.YtahkeoegbjopfaaGreat
/-
  Walks of package octet: sizes, bytes of numbers.
-/
namespace Go.Proofs.YtahkeoegbjopfaaGreat
set_option maxRecDepth 100000
open Go.RowKit

theorem C_clamp (n : Int) (w : World) : CallsR Tryz.prog 68 [.int .i64 n] w fun v w' => v = .int .i64 (max 1 (min n 8)) ∧ w = w' := by
 refine callsR Tryz.func68 rfl rfl (by kernel_rfl) rfl ?_
 refine rk_seq ?_
 refine rk_region ?_
 refine wl_p (fun _ => o_assign rfl) ?_
 refine wl_nil ?_
 refine rk_seq ?_
 refine rk_region ?_
 refine wl_p (fun _ => o_move rfl) ?_
 refine wl_p (fun _ => o_min rfl rfl) ?_
 refine wl_p (fun _ => o_max rfl rfl) ?_
 refine wl_p (fun _ => o_assign rfl) ?_
 refine wl_nil ?_
 refine ret1 rfl rfl ?_
 exact ⟨rfl, rfl⟩


theorem C_grown {A : Option Addr} {l : List UInt8} {k : Nat} (c : Nat) (hk : k = l.length) (n : Int) (w : World) (hr : Rd w A l) (hn : 0 ≤ n) (hl : l.length + n.toNat ≤ 140737488355328) :
  CallsR Tryz.prog 66 [.slice A k c, .int .i64 n] w fun v w' => ∃ A' c', v = .slice A' l.length c' ∧ Own w' w.heap.size A' c' l ∧ Below w.heap.size w w' := by
 subst hk
 refine callsR Tryz.func66 rfl rfl (by kernel_rfl) rfl ?_
 refine rk_seq ?_
 refine rk_region ?_
 refine wl_p (fun _ => o_assign rfl) ?_
 refine wl_nil ?_
 refine rk_seq ?_
 refine rk_region ?_
 refine wl_p (fun _ => o_move rfl) ?_
 refine wl_p (fun _ => o_len (t := 39) Tryz.underlying39 rfl) ?_
 refine wl_p (fun _ => o_move rfl) ?_
 refine wl_p (fun _ => o_add rfl rfl (by omega) (by omega)) ?_
 refine wl_make0 (n := l.length + n.toNat) Tryz.u8 rfl rfl (by omega) (by omega) ?_
 intro w9 hown9 hb9 hs9
 refine wl_p (fun _ => o_move rfl) ?_
 refine wl_app (s := []) Tryz.u8 rfl rfl hown9 rfl rfl (hr.below hb9) (by simp; omega) (by omega) ?_
 intro A11 c11 w11 hown11 hg11 hk11 hb11
 refine wl_p (fun _ => o_assign rfl) ?_
 refine wl_nil ?_
 refine ret1 rfl rfl ?_
 exact ⟨A11, c11, by simp, hown11, hb9.trans hb11⟩

abbrev u64 : Nat := 18446744073709551616

theorem C_len64 (x : Int) (w : World) (h0 : 0 ≤ x) (h1 : x ≤ 18446744073709551615) : CallsR Tryz.prog 179 [.int .u64 x] w fun v w' => v = .int .i64 (Lib.bitLen x.toNat) ∧ w = w' :=
 ⟨⟨_, Tryz.func179, rfl, by kernel_rfl⟩, (Tryz.bits_Len64 x w h0 h1).mono fun _ _ h => ⟨_, h.1, rfl, h.2.symm⟩⟩

theorem C_size (n : Nat) (w : World) (hn : n < u64) : CallsR Tryz.prog 159 [.int .u64 n] w fun v w' => v = .int .i64 (room n) ∧ w = w' := by
 have ho : n ||| 1 < u64 := by have := or_one n; unfold u64 at *; omega
 refine callsR Tryz.func159 rfl rfl (by kernel_rfl) rfl ?_
 refine rk_seq ?_
 refine rk_region ?_
 refine wl_p (fun _ => o_assign rfl) ?_
 refine wl_nil ?_
 refine rk_seq ?_
 refine rk_region ?_
 refine wl_p (fun _ => o_move rfl) ?_
 refine wl_p (fun _ => o_asi (o_or rfl rfl) (u64_or_nat n 1 hn (by omega))) ?_
 refine wl_call rfl (C_len64 _ _ (by omega) (by unfold u64 at ho; omega)) ?_
 rintro _ w5 ⟨rfl, rfl⟩
 have hb := Lib.bitLen_le (n ||| 1) 64 (by omega) ho
 rw [show ((n ||| 1 : Nat) : Int).toNat = n ||| 1 from by omega]
 refine wl_p (fun _ => o_add rfl rfl (by omega) (by omega)) ?_
 refine wl_p (fun _ => o_quo rfl rfl (by omega) (by omega) (by omega)) ?_
 refine wl_p (fun _ => o_min rfl rfl) ?_
 refine wl_p (fun _ => o_assign rfl) ?_
 refine wl_nil ?_
 refine ret1 rfl rfl ?_
 exact ⟨by rw [← size_room n hn], rfl⟩

theorem Tryz.lit8 (c : Int) (w : World) : (Instr.buildSlice 39 1 ([0].zip [Value.int .u8 c]).toArray).run Tryz.prog w = .ok (.slice (some ⟨w.heap.size, 0, none⟩) 1 1) (w.alloc (.cells #[.int .u8 c] 5)) := by kernel_rfl

end Go.Proofs.YtahkeoegbjopfaaGreat
/-
  Plain mathematics: numbers are ordered as their bytes are.
-/
namespace Go.Proofs.YtahkeoegbjopfaaGreat
set_option maxRecDepth 100000

theorem first_nat (n : Nat) (h : n < 18446744073709551616) : (first (room n) n).toNat = 256 - 2 ^ (9 - room n) + n / 256 ^ (room n - 1) := by
 have hk := room_pos n
 have hlt := room_lt n h
 have h5 : 2 ^ (8 - room n) ≤ 2 ^ (9 - room n) := Nat.pow_le_pow_right (by omega) (by omega)
 have h6 : 2 ^ (9 - room n) ≤ 256 := Nat.pow_le_pow_right (show 0 < 2 by omega) (show 9 - room n ≤ 8 by omega)
 unfold first
 rw [UInt8.toNat_ofNat', Nat.mod_eq_of_lt]
 rcases Nat.lt_or_ge (room n) 9 with h9 | h9
 ·have : 2 ^ (9 - room n) = 2 ^ (8 - room n) * 2 := by rw [← Nat.pow_succ]; congr 1; omega
  have := Nat.two_pow_pos (8 - room n)
  omega
 ·have e : room n = 9 := by omega
  rw [e] at hlt ⊢
  simp at hlt
  omega

def over (t n : Nat) : Nat := if n < t then 0 else 1
theorem room_hi (n : Nat) : room n = 9 ∨ n / 2 ^ (7 * room n) = 0 := by
 unfold room
 repeat' split
 all_goals first | (left; rfl) | (right; simp; omega)
theorem room_low (n : Nat) : room n = 1 ∨ n / 2 ^ (7 * (room n - 1)) ≠ 0 := by
 unfold room
 repeat' split
 all_goals first | (left; rfl) | (right; simp; omega)
end Go.Proofs.YtahkeoegbjopfaaGreat
/-
  Where ways meet again: joins. No function of the program is named here.
-/
namespace Go.Proofs.YtahkeoegbjopfaaGreat
set_option maxRecDepth 100000
open Go.RowKit
section
variable {P : Program} {fn : Func} {F : Ending → World → Prop} {N : Nat} {ks : List K} {k : K} {ops : Array Oper} {l : List Oper} {fr : Fr} {w : World} {tg : Tags}

theorem rk_join (R : Fr → World → Prop) (h2 : ∀ fr w, R fr w → RK P fn F N ks fr w) (h1 : ∀ ks, (∀ fr w, R fr w → RK P fn F N ks fr w) → RK P fn F N (k :: ks) fr w) : RK P fn F N (k :: ks) fr w := h1 ks h2
theorem rk_joinb {id : Nat} (R : Fr → World → Prop) (h2 : ∀ fr w, R fr w → RK P fn F N ks fr w) (h1 : ∀ ks, (∀ fr w, R fr w → RK P fn F N ks fr w) → RK P fn F N (k :: .blk id :: ks) fr w) : RK P fn F N (k :: .blk id :: ks) fr w := h1 ks h2
theorem rk_to {R : Fr → World → Prop} (hj : ∀ fr w, R fr w → RK P fn F N ks fr w) {fr0 : Fr} (hs : Fr.sub fr0 fr) (h : R fr0 w) : RK P fn F N ks fr w := (hj fr0 w h).sub hs

section
variable {x y : Operand} {m n : Int} {t t' ty : TypeId} {ik : IntKind}
theorem o_remz (hx : fr.ev x = some (.int ik m)) (hy : fr.ev y = some (.int ik n)) (h : n ≠ 0) : OpV P N fr w (.binOp .rem t x y t') ty (.int ik (m.tmod n)) w := o_bin hx hy eqg_int (by
 rw [binOp_rem]
 simp [Op.intDiv, h])
theorem o_remu (hx : fr.ev x = some (.int ik m)) (hy : fr.ev y = some (.int ik n)) (h0 : 0 ≤ m) (h2 : 0 < n) : OpV P N fr w (.binOp .rem t x y t') ty (.int ik (m % n)) w := o_bin hx hy eqg_int (by
 rw [binOp_rem]
 have hne : n ≠ 0 := by omega
 have e : m.tmod n = m % n := Int.tmod_eq_emod_of_nonneg h0
 simp [Op.intDiv, hne, e])
end
end
end Go.Proofs.YtahkeoegbjopfaaGreat
/-
  Walk of the document's Word.
-/
namespace Go.Proofs.YtahkeoegbjopfaaGreat
set_option maxRecDepth 100000
open Go.RowKit
end Go.Proofs.YtahkeoegbjopfaaGreat
/-
  Walks of the document's answer for chapter 1: what it writes (numbers, blocks).
-/
namespace Go.Proofs.YtahkeoegbjopfaaGreat
set_option maxRecDepth 100000
open Go.RowKit
theorem div_pow_zero {n i j : Nat} (h : n / 2 ^ i = 0) (hij : i ≤ j) : n / 2 ^ j = 0 := by
 apply Nat.div_eq_of_lt
 have h2 : n < 2 ^ i := by
  rcases Nat.lt_or_ge n (2 ^ i) with h3 | h3
  ·exact h3
  ·have := (Nat.one_le_div_iff (Nat.two_pow_pos i)).2 h3
   omega
 exact Nat.lt_of_lt_of_le h2 (Nat.pow_le_pow_right (by decide) hij)
theorem room_char (n j : Nat) (h1 : 1 ≤ j) (h9 : j ≤ 9) (hlo : j = 1 ∨ n / 2 ^ (7 * (j - 1)) ≠ 0) (hhi : j = 9 ∨ n / 2 ^ (7 * j) = 0) : room n = j := by
 have hk := room_pos n
 rcases Nat.lt_trichotomy (room n) j with h | h | h
 ·rcases hlo with e | e
  ·omega
  ·rcases room_hi n with e2 | e2
   ·omega
   ·exact absurd (div_pow_zero e2 (by omega)) e
 ·exact h
 ·rcases hhi with e | e
  ·omega
  ·rcases room_low n with e2 | e2
   ·omega
   ·exact absurd (div_pow_zero e (by omega)) e2

theorem shift_nat (n : Nat) (k : Int) (j : Nat) (hk : k = j) (hj : j ≤ 64) : (n : Int) / 2 ^ min k.toNat IntKind.u64.bits = ((n / 2 ^ j : Nat) : Int) := by
 have e2 : min k.toNat IntKind.u64.bits = j := by show min _ 64 = _; omega
 rw [e2]; rfl

theorem C_refroom (n : Nat) (w : World) (hn : n < u64) :
  CallsR Tryz.prog 142 [.int .u64 n] w fun v w' => v = .int .i64 (room n) ∧ w = w' := by
 refine callsR Tryz.func142 rfl rfl (by kernel_rfl) rfl ?_
 refine rk_seq ?_
 refine rk_region ?_
 refine wl_p (fun _ => o_assign rfl) ?_
 refine wl_nil ?_
 refine rk_seq ?_
 refine rk_region ?_
 refine wl_p (fun _ => o_assign rfl) ?_
 refine wl_nil ?_
 refine rk_seq ?_
 refine rk_block ?_
 refine rk_loop (fun m fr w' => ∃ k : Nat, ∃ v : Int, fr = [(0, .int .u64 n), (3, .int .i64 v)] ∧ v = k ∧ 1 ≤ k ∧ k ≤ 9 ∧ m = 9 - k ∧ (k = 1 ∨ n / 2 ^ (7 * (k - 1)) ≠ 0) ∧ w = w') (n := 8) (by repeat' constructor) ⟨1, 1, rfl, rfl, by omega, by omega, rfl, .inl rfl, rfl⟩ ?_
 rintro m fr _ ⟨k, v, rfl, rfl, hk1, hk9, rfl, hk, rfl⟩
 refine rk_seq ?_
 refine rk_seq ?_
 refine rk_region ?_
 refine wl_p (fun _ => o_move rfl) ?_
 refine wl_p (fun _ => o_lt rfl rfl) ?_
 refine wl_p (fun _ => o_move rfl) ?_
 refine wl_bool 6 rfl (fun h6 => ?_) (fun h6 => ?_)
 ·have h9 : (k : Int) < 9 := of_decide_eq_true h6
  refine wl_p (fun _ => o_move rfl) ?_
  refine wl_p (fun _ => o_move rfl) ?_
  refine wl_p (fun _ => o_mul rfl rfl (by omega) (by omega)) ?_
  refine wl_p (fun _ => o_convu64 (src := 3) (dst := 102) Tryz.underlying3 Tryz.underlying102 rfl (by omega) (by omega)) ?_
  refine wl_p (fun _ => o_shr rfl rfl (by omega)) ?_
  refine wl_p (fun _ => o_ne rfl rfl) ?_
  refine wl_p (fun _ => o_pick_t rfl rfl) ?_
  refine wl_nil ?_
  refine rk_if rfl (fun h => ?_) (fun h => ?_)
  ·rw [shift_nat n _ (7 * k) (by omega) (by omega)] at h
   refine rk_skip ?_
   refine rk_block ?_
   refine rk_region ?_
   refine wl_p (fun _ => o_move rfl) ?_
   refine wl_p (fun _ => o_add rfl rfl (by omega) (by omega)) ?_
   refine wl_p (fun _ => o_assign rfl) ?_
   refine wl_nil ?_
   refine rk_blk ?_
   exact rk_again (by repeat' constructor) ⟨k + 1, _, rfl, rfl, by omega, by omega, rfl, .inr (by simp only [Nat.add_sub_cancel]; omega), rfl⟩ (by omega)
  ·rw [shift_nat n _ (7 * k) (by omega) (by omega)] at h
   refine rk_exit rfl ?_
   refine rk_seq ?_
   refine rk_region ?_
   refine wl_p (fun _ => o_move rfl) ?_
   refine wl_p (fun _ => o_assign rfl) ?_
   refine wl_nil ?_
   refine ret1 rfl rfl ?_
   exact ⟨by rw [room_char n k hk1 hk9 hk (.inr (by omega))], rfl⟩
 ·have h9 : ¬ (k : Int) < 9 := of_decide_eq_false h6
  refine wl_off ?_
  refine wl_off ?_
  refine wl_off ?_
  refine wl_off ?_
  refine wl_off ?_
  refine wl_off ?_
  refine wl_p (fun _ => o_pick_f rfl rfl) ?_
  refine wl_nil ?_
  refine rk_false rfl ?_
  refine rk_exit rfl ?_
  refine rk_seq ?_
  refine rk_region ?_
  refine wl_p (fun _ => o_move rfl) ?_
  refine wl_p (fun _ => o_assign rfl) ?_
  refine wl_nil ?_
  refine ret1 rfl rfl ?_
  exact ⟨by rw [room_char n k hk1 hk9 hk (.inl (by omega))], rfl⟩

theorem ref_byte (n : Nat) (h : n < 18446744073709551616) : IntKind.u8.wrap (IntKind.u8.wrap (IntKind.u64.wrap (256 - IntKind.u64.wrap (1 * 2 ^ min (9 - (room n : Int)).toNat IntKind.u64.bits))) + IntKind.u8.wrap ((n : Int) / 2 ^ min (8 * ((room n : Int) - 1)).toNat IntKind.u64.bits)) = ((first (room n) n).toNat : Int) := by
 have hk := room_pos n
 have hlt := room_lt n h
 have e1 : (8 * ((room n : Int) - 1)) = 8 * ((room n - 1 : Nat) : Int) := by omega
 rw [e1, byte_shift n (room n - 1) (by omega)]
 unfold first
 generalize hq : n / 256 ^ (room n - 1) = q at *
 have hq256 : q < 256 := Nat.lt_of_lt_of_le hlt (Nat.pow_le_pow_right (by omega) (show 8 - room n ≤ 8 by omega))
 have e2 : IntKind.u8.wrap (IntKind.u64.wrap (256 - IntKind.u64.wrap (1 * 2 ^ min (9 - (room n : Int)).toNat IntKind.u64.bits))) = (((256 - 2 ^ (9 - room n)) % 256 : Nat) : Int) := by
  have h3 : ∀ k : Fin 10, 1 ≤ k.val → IntKind.u8.wrap (IntKind.u64.wrap (256 - IntKind.u64.wrap (1 * 2 ^ min (9 - (k.val : Int)).toNat IntKind.u64.bits))) = (((256 - 2 ^ (9 - k.val)) % 256 : Nat) : Int) := by decide +kernel
  exact h3 ⟨room n, by omega⟩ hk.1
 rw [e2, UInt8.toNat_ofNat', UInt8.toNat_ofNat', IntKind.wrap_u8']
 generalize 256 - 2 ^ (9 - room n) = r
 omega

theorem C_refNumber {A : Option Addr} {l : List UInt8} (c : Nat) (n : Nat) (w : World) (hr : Rd w A l) (hn : n < u64) (hl : l.length ≤ 140737488355000) :
  CallsR Tryz.prog 108 [.slice A l.length c, .int .u64 n] w fun v w' => ∃ A' c', v = .slice A' (l ++ enc n).length c' ∧ Own w' w.heap.size A' c' (l ++ enc n) ∧ Below w.heap.size w w' := by
 have hk := room_pos n
 refine callsR Tryz.func108 rfl rfl (by kernel_rfl) rfl ?_
 refine rk_seq ?_
 refine rk_region ?_
 refine wl_p (fun _ => o_assign rfl) ?_
 refine wl_nil ?_
 refine rk_seq ?_
 refine rk_region ?_
 refine wl_lit8 (xs := []) [] Tryz.u8 Tryz.sizeOf5 Tryz.zeroValue5 rfl rfl ?_
 intro w1 hown1 hb1 hz1
 refine wl_p (fun _ => o_move rfl) ?_
 refine wl_app (s := []) Tryz.u8 rfl rfl hown1 rfl rfl (hr.below hb1) (by simp; omega) hb1.size ?_
 intro A10 c10 w10 hown10 hg10 hk10 hb10
 rw [List.nil_append] at hown10 ⊢
 have hb := hb1.trans hb10
 refine wl_p (fun _ => o_assign rfl) ?_
 refine wl_nil ?_
 refine rk_seq ?_
 refine rk_region ?_
 refine wl_p (fun _ => o_move rfl) ?_
 refine wl_call rfl (C_refroom n w10 hn) ?_
 rintro _ w12 ⟨rfl, rfl⟩
 refine wl_p (fun _ => o_assign rfl) ?_
 refine wl_nil ?_
 refine rk_seq ?_
 refine rk_seq ?_
 refine rk_region ?_
 refine wl_p (fun _ => o_move rfl) ?_
 refine wl_p (fun _ => o_eq rfl rfl) ?_
 refine wl_nil ?_
 refine rk_join (fun fr w' => ∃ A' c' len, fr = [(1, .int .u64 n), (5, .slice A' len c'), (6, .int .i64 (room n))] ∧ len = (l ++ [first (room n) n]).length ∧ Own w' w.heap.size A' c' (l ++ [first (room n) n]) ∧ Below w.heap.size w w') ?_ (fun ks hj => ?_)
 ·rintro fr w2 ⟨A', c', len, rfl, hln, hown', hb'⟩
  refine rk_seq ?_
  refine rk_seq ?_
  refine rk_region ?_
  refine wl_p (fun _ => o_move rfl) ?_
  refine wl_p (fun _ => o_sub rfl rfl (by omega) (by omega)) ?_
  refine wl_p (fun _ => o_assign rfl) ?_
  refine wl_nil ?_
  refine rk_block ?_
  refine rk_loop (fun j fr w' => ∃ A' c' len l' i, fr = [(1, .int .u64 n), (5, .slice A' len c'), (7, .int .i64 i)] ∧ len = l'.length ∧ i = (j : Int) - 1 ∧ j ≤ 8 ∧ l' ++ beB j n = l ++ enc n ∧ Own w' w.heap.size A' c' l' ∧ Below w.heap.size w w')
   (n := room n - 1) (by repeat' constructor) ⟨A', c', _, _, _, rfl, hln, by omega, by omega, by simp [enc], hown', hb'⟩ ?_
  rintro j fr w3 ⟨A', c', len, l', i, rfl, hln, hi, hj8, hl', hown', hb'⟩
  have hlen : l'.length + j = l.length + room n := by have := congrArg List.length hl'; simpa [beB_length, enc_length] using this
  refine rk_seq ?_
  refine rk_seq ?_
  refine rk_region ?_
  refine wl_p (fun _ => o_move rfl) ?_
  refine wl_p (fun _ => o_ge rfl rfl) ?_
  refine wl_nil ?_
  refine rk_if rfl (fun h => ?_) (fun h => ?_)
  ·obtain ⟨q, rfl⟩ := Int.eq_ofNat_of_zero_le h
   obtain rfl : j = q + 1 := by omega
   refine rk_skip ?_
   refine rk_seq ?_
   refine rk_block ?_
   refine rk_region ?_
   refine wl_p (fun _ => o_move rfl) ?_
   refine wl_p (fun _ => o_move rfl) ?_
   refine wl_p (fun _ => o_move rfl) ?_
   refine wl_p (fun _ => o_mul rfl rfl (by omega) (by omega)) ?_
   refine wl_p (fun _ => o_convu64 (src := 3) (dst := 102) Tryz.underlying3 Tryz.underlying102 rfl (by omega) (by omega)) ?_
   refine wl_p (fun _ => o_shr rfl rfl (by omega)) ?_
   refine wl_p (fun _ => o_asi (o_convi Tryz.underlying43 Tryz.underlying5 rfl) (byte_shift n q (by omega))) ?_
   refine wl_v (o_lit (is := [0]) (xs := [.tmp 47]) rfl (Tryz.lit8 _ _)) ?_
   have hs2 := hb'.size
   refine wl_app (m := [UInt8.ofNat (n / 256 ^ q)]) Tryz.u8 rfl hln (hown'.alloc _) rfl rfl (rd_lit _ _ _ rfl) (by simp; omega) (by simp; omega) ?_
   intro A35 c35 w35 hown35 hg35 hk35 hb35
   refine wl_p (fun _ => o_assign rfl) ?_
   refine wl_nil ?_
   refine rk_blk ?_
   refine rk_region ?_
   refine wl_p (fun _ => o_move rfl) ?_
   refine wl_p (fun _ => o_sub rfl rfl (by omega) (by omega)) ?_
   refine wl_p (fun _ => o_assign rfl) ?_
   refine wl_nil ?_
   exact rk_again (m := q) (by repeat' constructor) ⟨A35, c35, _, _, _, rfl, rfl, rfl, by omega, by simpa [beB] using hl', hown35, (hb'.alloc (by omega) _).trans hb35⟩ (by omega)
  ·obtain rfl : j = 0 := by omega
   refine rk_exit rfl ?_
   refine rk_seq ?_
   refine rk_region ?_
   refine wl_p (fun _ => o_move rfl) ?_
   refine wl_p (fun _ => o_assign rfl) ?_
   refine wl_nil ?_
   refine ret1 rfl rfl ?_
   simp only [beB, List.append_nil] at hl'
   subst hl'
   exact ⟨A', c', by rw [hln], hown', hb'⟩
 ·have hs10 := hb.size
  refine rk_if rfl (fun h => ?_) (fun h => ?_)
  ·refine rk_region ?_
   refine wl_p (fun _ => o_move rfl) ?_
   refine wl_v (o_lit (is := [0]) (xs := [.const (.int .u8 255)]) rfl (Tryz.lit8 _ _)) ?_
   have e9 : room n = 9 := by omega
   refine wl_app (m := [first (room n) n]) Tryz.u8 rfl rfl (hown10.alloc _) rfl rfl (rd_lit _ _ _ ?_) (by simp; omega) (by simp; omega) ?_
   ·have h9 : n / 256 ^ 8 = 0 := Nat.div_eq_of_lt (by simpa using hn)
    rw [e9]; unfold first; rw [h9]; rfl
   intro A35 c35 w35 hown35 hg35 hk35 hb35
   refine wl_p (fun _ => o_assign rfl) ?_
   refine wl_nil ?_
   exact rk_to hj (by repeat' constructor) ⟨A35, c35, _, rfl, rfl, hown35, (hb.alloc (by omega) _).trans hb35⟩
  ·refine rk_region ?_
   refine wl_p (fun _ => o_move rfl) ?_
   refine wl_p (fun _ => o_move rfl) ?_
   refine wl_p (fun _ => o_sub rfl rfl (by omega) (by omega)) ?_
   refine wl_p (fun _ => o_convu64 (src := 3) (dst := 102) Tryz.underlying3 Tryz.underlying102 rfl (by omega) (by omega)) ?_
   refine wl_p (fun _ => o_shl rfl rfl (by omega)) ?_
   refine wl_p (fun _ => o_subw rfl rfl) ?_
   refine wl_p (fun _ => o_convi (src := 43) (dst := 5) Tryz.underlying43 Tryz.underlying5 rfl) ?_
   refine wl_p (fun _ => o_move rfl) ?_
   refine wl_p (fun _ => o_move rfl) ?_
   refine wl_p (fun _ => o_sub rfl rfl (by omega) (by omega)) ?_
   refine wl_p (fun _ => o_mul rfl rfl (by omega) (by omega)) ?_
   refine wl_p (fun _ => o_convu64 (src := 3) (dst := 102) Tryz.underlying3 Tryz.underlying102 rfl (by omega) (by omega)) ?_
   refine wl_p (fun _ => o_shr rfl rfl (by omega)) ?_
   refine wl_p (fun _ => o_convi (src := 43) (dst := 5) Tryz.underlying43 Tryz.underlying5 rfl) ?_
   refine wl_p (fun _ => o_asi (o_addw rfl rfl) (ref_byte n hn)) ?_
   refine wl_v (o_lit (is := [0]) (xs := [.tmp 32]) rfl (Tryz.lit8 _ _)) ?_
   refine wl_app (m := [first (room n) n]) Tryz.u8 rfl rfl (hown10.alloc _) rfl rfl (rd_lit _ _ _ rfl) (by simp; omega) (by simp; omega) ?_
   intro A35 c35 w35 hown35 hg35 hk35 hb35
   refine wl_p (fun _ => o_assign rfl) ?_
   refine wl_nil ?_
   exact rk_to hj (by repeat' constructor) ⟨A35, c35, _, rfl, rfl, hown35, (hb.alloc (by omega) _).trans hb35⟩

theorem C_refBlock {A X : Option Addr} {l p : List UInt8} (c k : Nat) (w : World) (hr : Rd w A l) (hp : Rd w X p) (hl : l.length + p.length ≤ 140737488355000) :
  CallsR Tryz.prog 63 [.slice A l.length c, .slice X p.length k] w fun v w' => ∃ A' c', v = .slice A' (l ++ enc p.length ++ p).length c' ∧ Own w' w.heap.size A' c' (l ++ enc p.length ++ p) ∧ Below w.heap.size w w' := by
 have hk := room_pos p.length
 have hn : p.length < u64 := by unfold u64; omega
 refine callsR Tryz.func63 rfl rfl (by kernel_rfl) rfl ?_
 refine rk_seq ?_
 refine rk_region ?_
 refine wl_p (fun _ => o_assign rfl) ?_
 refine wl_nil ?_
 refine rk_seq ?_
 refine rk_region ?_
 refine wl_p (fun _ => o_move rfl) ?_
 refine wl_p (fun _ => o_move rfl) ?_
 refine wl_p (fun _ => o_len (t := 39) Tryz.underlying39 rfl) ?_
 refine wl_p (fun _ => o_convu64 (src := 3) (dst := 43) Tryz.underlying3 Tryz.underlying43 rfl (by omega) (by omega)) ?_
 refine wl_call rfl (C_refNumber c p.length w hr hn (by omega)) ?_
 rintro _ w3 ⟨A3, c3, rfl, hown3, hb3⟩
 refine wl_p (fun _ => o_move rfl) ?_
 refine wl_app Tryz.u8 rfl rfl hown3 rfl rfl (hp.below hb3) (by simp [enc_length]; omega) hb3.size ?_
 intro A4 c4 w4 hown4 hg4 hk4 hb4
 refine wl_p (fun _ => o_assign rfl) ?_
 refine wl_nil ?_
 refine ret1 rfl rfl ?_
 exact ⟨A4, c4, rfl, hown4, hb3.trans hb4⟩

end Go.Proofs.YtahkeoegbjopfaaGreat
/-
  Bytes.
-/
namespace Go.Proofs.YtahkeoegbjopfaaGreat
set_option maxRecDepth 100000
abbrev By := List UInt8
end Go.Proofs.YtahkeoegbjopfaaGreat
/-
  Walks of package octet: the reader.
-/
namespace Go.Proofs.YtahkeoegbjopfaaGreat
set_option maxRecDepth 100000
open Go.RowKit

def RdrI (w : World) (g : Nat) (l : List UInt8) (p e : Nat) : Prop :=
 ∃ A c, Blk w g 119 [.pointer (some ⟨g, 0, none⟩), .slice A l.length c, .int .i64 p, .int .i64 e] ∧ Own w 0 A c l ∧ l.length ≤ c ∧ p ≤ l.length ∧ l.length ≤ 140737488355328 ∧ e ≤ 100

theorem blk_cutA (A : Option Addr) (c sz k : Nat) : blk (cutA A c sz k) = blk A := by
 unfold cutA blk
 split
 ·rfl
 ·cases A <;> simp [block_of_add]
theorem Rd.cut {w : World} {A : Option Addr} {l : List UInt8} (h : Rd w A l) {c k : Nat} (hk : k ≤ l.length) (hc : l.length ≤ c) : Rd w (cutA A c 1 k) (l.drop k) := by
 unfold cutA
 rw [Nat.mul_one]
 exact Rd.drop h hk hc

theorem C_made {g : Nat} {vs : List Value} (w : World) (hB : Blk w g 119 (.pointer (some ⟨g, 0, none⟩) :: vs)) :
  CallsR Tryz.prog 84 [.pointer (some ⟨g, 0, none⟩)] w fun v w' => v = .bool true ∧ w = w' := by
 refine callsR Tryz.func84 rfl rfl (by kernel_rfl) rfl ?_
 refine rk_seq ?_
 refine rk_region ?_
 refine wl_p (fun _ => o_assign rfl) ?_
 refine wl_nil ?_
 refine rk_seq ?_
 refine rk_region ?_
 refine wl_p (fun _ => o_move rfl) ?_
 refine wl_p (fun _ => o_pne_nil (t := 81) Tryz.underlying81 rfl rfl) ?_
 refine wl_p (fun _ => o_move rfl) ?_
 refine wl_p (fun _ => o_move rfl) ?_
 refine wl_p (fun _ => o_nil rfl) ?_
 refine wl_p (fun _ => o_faddr (s := 119) (i := 0) (off := 0) Tryz.underlying119 rfl Tryz.sizeOf81 rfl rfl rfl) ?_
 refine wl_r (o_loadb (t := 81) Tryz.isAgg81 rfl hB (by rfl)) ?_
 refine wl_p (fun _ => o_move rfl) ?_
 refine wl_p (fun _ => o_peq_same (t := 81) Tryz.underlying81 Tryz.sizeOf119 rfl rfl) ?_
 refine wl_p (fun _ => o_pick_t rfl rfl) ?_
 refine wl_p (fun _ => o_assign rfl) ?_
 refine wl_nil ?_
 refine ret1 rfl rfl ?_
 exact ⟨rfl, rfl⟩
theorem C_take {g : Nat} {l : List UInt8} {p e : Nat} {m : Int} (n : Nat) (hm : m = n) (w : World) (hR : RdrI w g l p e) :
  CallsR Tryz.prog 67 [.pointer (some ⟨g, 0, none⟩), .int .u64 m] w fun v w' => w.grownBy w' (some g) ∧ w'.heap.size = w.heap.size ∧
   ((e = 0 ∧ n ≤ l.length - p ∧ RdrI w' g l (p + n) 0 ∧ ∃ A' c', v = .tuple #[.slice A' n c', .bool true] ∧ n ≤ c' ∧ Rd w' A' ((l.drop p).take n) ∧ blk A' ≠ some g) ∨
    (v = .tuple #[.slice none 0 0, .bool false] ∧ (e = 0 → l.length - p < n) ∧ RdrI w' g l p (if e = 0 then 5 else e))) := by
 subst hm
 have hR0 := hR
 obtain ⟨A, c, hB, ho, hc, hp, hl, he⟩ := hR
 have hr := ho.rd
 have hA := ho.ne hB (by decide)
 refine callsR Tryz.func67 rfl rfl (by kernel_rfl) rfl ?_
 refine rk_seq ?_
 refine rk_region ?_
 refine wl_p (fun _ => o_assign rfl) ?_
 refine wl_p (fun _ => o_assign rfl) ?_
 refine wl_nil ?_
 refine rk_seq ?_
 refine rk_seq ?_
 refine rk_region ?_
 refine wl_p (fun _ => o_move rfl) ?_
 refine wl_call rfl (C_made w hB) ?_
 rintro _ w8 ⟨rfl, rfl⟩
 refine wl_p (fun _ => o_not rfl) ?_
 refine wl_p (fun _ => o_move rfl) ?_
 refine wl_p (fun _ => o_move rfl) ?_
 refine wl_p (fun _ => o_nil rfl) ?_
 refine wl_p (fun _ => o_faddr (s := 119) (i := 3) (off := 3) Tryz.underlying119 rfl Tryz.sizeOf36 rfl rfl rfl) ?_
 refine wl_r (o_loadb (t := 36) Tryz.isAgg36 rfl hB (by rfl)) ?_
 refine wl_p (fun _ => o_ne rfl rfl) ?_
 refine wl_p (fun _ => o_pick_f rfl rfl) ?_
 refine wl_nil ?_
 refine rk_if rfl (fun h => ?_) (fun h => ?_)
 ·refine rk_seq ?_
  refine rk_region ?_
  refine wl_p (fun _ => o_assign rfl) ?_
  refine wl_p (fun _ => o_assign rfl) ?_
  refine wl_nil ?_
  refine ret2 rfl rfl rfl ?_
  have he0 : e ≠ 0 := by intro h0; subst h0; exact h rfl
  exact ⟨World.grownBy.refl _ _, rfl, .inr ⟨rfl, fun h0 => absurd h0 he0, by rw [if_neg he0]; exact hR0⟩⟩
 ·have he0 : e = 0 := by omega
  subst he0
  refine rk_skip ?_
  refine rk_seq ?_
  refine rk_seq ?_
  refine rk_draw (id := 3) (none) [0, 0, 2, 4, 8, 16, 0, 64, 128, 256, 544, 1024, 2049] [0, 0, 2, 6, 14, 30, 0, 64, 192, 448, 1022, 2046, 4095] 0 0 [(.p, 0), (.p, 1), (.p, 2), (.p, 3), (.r, 4), (.p, 5), (.p, 6), (.p, 7), (.p, 8), (.r, 9), (.p, 10), (.p, 11), (.p, 12)] (by kernel_rfl) (by kernel_rfl) (by kernel_rfl) (by kernel_rfl) (by kernel_rfl) ?_
  refine wl_p (fun _ => o_move rfl) ?_
  refine wl_p (fun _ => o_move rfl) ?_
  refine wl_p (fun _ => o_nil rfl) ?_
  refine wl_p (fun _ => o_faddr (s := 119) (i := 1) (off := 1) Tryz.underlying119 rfl Tryz.sizeOf39 rfl rfl rfl) ?_
  refine wl_r (o_loadb (t := 39) Tryz.isAgg39 rfl hB (by rfl)) ?_
  refine wl_p (fun _ => o_len (t := 39) Tryz.underlying39 rfl) ?_
  refine wl_p (fun _ => o_move rfl) ?_
  refine wl_p (fun _ => o_nil rfl) ?_
  refine wl_p (fun _ => o_faddr (s := 119) (i := 2) (off := 2) Tryz.underlying119 rfl Tryz.sizeOf3 rfl rfl rfl) ?_
  refine wl_r (o_loadb (t := 3) Tryz.isAgg3 rfl hB (by rfl)) ?_
  refine wl_p (fun _ => o_sub rfl rfl (by omega) (by omega)) ?_
  refine wl_p (fun _ => o_convu64 (src := 3) (dst := 43) Tryz.underlying3 Tryz.underlying43 rfl (by omega) (by omega)) ?_
  refine wl_p (fun _ => o_gt rfl rfl) ?_
  refine wl_nild ?_
  refine rk_if rfl (fun h => ?_) (fun h => ?_)
  ·refine rk_seq ?_
   refine rk_region ?_
   refine wl_p (fun _ => o_move rfl) ?_
   refine wl_p (fun _ => o_nil rfl) ?_
   refine wl_p (fun _ => o_faddr (s := 119) (i := 3) (off := 3) Tryz.underlying119 rfl Tryz.sizeOf36 rfl rfl rfl) ?_
   refine wl_store1 Tryz.sizeOf36 rfl rfl rfl hB (by simp) ?_
   intro w1 hB1 hg1 hz1
   refine wl_nil ?_
   refine rk_seq ?_
   refine rk_region ?_
   refine wl_p (fun _ => o_assign rfl) ?_
   refine wl_p (fun _ => o_assign rfl) ?_
   refine wl_nil ?_
   refine ret2 rfl rfl rfl ?_
   have hg := grownBy_trans (grownBy_drew w (some g)) hg1
   exact ⟨hg, hz1, .inr ⟨rfl, fun _ => by omega, A, c, hB1, ho.kept hg (.inr hA), hc, hp, hl, by simp⟩⟩
  ·refine rk_skip ?_
   refine rk_seq ?_
   refine rk_region ?_
   refine wl_p (fun _ => o_move rfl) ?_
   refine wl_p (fun _ => o_nil rfl) ?_
   refine wl_p (fun _ => o_faddr (s := 119) (i := 2) (off := 2) Tryz.underlying119 rfl Tryz.sizeOf3 rfl rfl rfl) ?_
   refine wl_r (o_loadb (t := 3) Tryz.isAgg3 rfl hB (by rfl)) ?_
   refine wl_p (fun _ => o_assign rfl) ?_
   refine wl_nil ?_
   refine rk_seq ?_
   refine rk_region ?_
   refine wl_p (fun _ => o_move rfl) ?_
   refine wl_p (fun _ => o_nil rfl) ?_
   refine wl_p (fun _ => o_faddr (s := 119) (i := 2) (off := 2) Tryz.underlying119 rfl Tryz.sizeOf3 rfl rfl rfl) ?_
   refine wl_r (o_loadb (t := 3) Tryz.isAgg3 rfl hB (by rfl)) ?_
   refine wl_p (fun _ => o_move rfl) ?_
   refine wl_p (fun _ => o_convi64 (src := 43) (dst := 3) Tryz.underlying43 Tryz.underlying3 rfl (by omega) (by omega)) ?_
   refine wl_p (fun _ => o_add rfl rfl (by omega) (by omega)) ?_
   refine wl_p (fun _ => o_nil rfl) ?_
   refine wl_p (fun _ => o_faddr (s := 119) (i := 2) (off := 2) Tryz.underlying119 rfl Tryz.sizeOf3 rfl rfl rfl) ?_
   refine wl_store1 Tryz.sizeOf3 rfl rfl rfl hB (by simp) ?_
   intro w1 hB1 hg1 hz1
   have hg := grownBy_trans (grownBy_drew w (some g)) hg1
   refine wl_nil ?_
   refine rk_seq ?_
   refine rk_draw (id := 8) (none) [0, 1, 2, 4, 0, 0, 32, 64, 128, 280, 1023, 2047] [0, 1, 3, 7, 0, 0, 32, 96, 224, 511, 1023, 2047] 0 0 [(.p, 0), (.p, 1), (.p, 2), (.r, 3), (.p, 4), (.p, 5), (.p, 6), (.p, 7), (.r, 8), (.p, 9), (.p, 10), (.p, 11)] (by kernel_rfl) (by kernel_rfl) (by kernel_rfl) (by kernel_rfl) (by kernel_rfl) ?_
   refine wl_p (fun _ => o_move rfl) ?_
   refine wl_p (fun _ => o_nil rfl) ?_
   refine wl_p (fun _ => o_faddr (s := 119) (i := 1) (off := 1) Tryz.underlying119 rfl Tryz.sizeOf39 rfl rfl rfl) ?_
   refine wl_r (o_loadb (t := 39) Tryz.isAgg39 rfl hB1 (by rfl)) ?_
   refine wl_p (fun _ => o_move rfl) ?_
   refine wl_p (fun _ => o_move rfl) ?_
   refine wl_p (fun _ => o_nil rfl) ?_
   refine wl_p (fun _ => o_faddr (s := 119) (i := 2) (off := 2) Tryz.underlying119 rfl Tryz.sizeOf3 rfl rfl rfl) ?_
   refine wl_r (o_loadb (t := 3) Tryz.isAgg3 rfl hB1 (by rfl)) ?_
   refine wl_p (fun _ => o_slice (lo := p) (hi := p + n) Tryz.underlying39 Tryz.sizeOf5 rfl rfl rfl rfl (by omega) (by omega) (by omega)) ?_
   refine wl_p (fun _ => o_assign rfl) ?_
   refine wl_p (fun _ => o_assign rfl) ?_
   refine wl_nild ?_
   refine ret2 rfl rfl rfl ?_
   have hr1 := ((hr.grown hg (.inr hA)).cut (c := c) hp hc).take (k := n) (by simp; omega)
   exact ⟨grownBy_trans hg (grownBy_drew _ _), hz1, .inl ⟨rfl, by omega, ⟨A, c, by simpa using hB1.drew, (ho.kept hg (.inr hA)).drew, hc, by omega, hl, by simp⟩,
    cutA A c 1 p, c - p, by rw [Nat.add_sub_cancel_left], by omega, hr1.drew, by rw [blk_cutA]; exact hA⟩⟩

theorem C_fail {g : Nat} {l : List UInt8} {p e : Nat} {qi ei : Int} (q e' : Nat) (hqi : qi = q) (hei : ei = e') (w : World) (hR : RdrI w g l p e) (hq : q ≤ l.length) (he' : e' ≤ 100) :
  CallsR Tryz.prog 161 [.pointer (some ⟨g, 0, none⟩), .int .i64 qi, .int .i64 ei] w fun v w' => v = .tuple #[] ∧ w.grownBy w' (some g) ∧ w'.heap.size = w.heap.size ∧ RdrI w' g l q e' := by
 subst hqi; subst hei
 obtain ⟨A, c, hB, ho, hc, hp, hl, he⟩ := hR
 have hr := ho.rd
 have hA := ho.ne hB (by decide)
 refine callsR Tryz.func161 rfl rfl (by kernel_rfl) rfl ?_
 refine rk_seq ?_
 refine rk_region ?_
 refine wl_p (fun _ => o_move rfl) ?_
 refine wl_p (fun _ => o_move rfl) ?_
 refine wl_p (fun _ => o_nil rfl) ?_
 refine wl_p (fun _ => o_faddr (s := 119) (i := 2) (off := 2) Tryz.underlying119 rfl Tryz.sizeOf3 rfl rfl rfl) ?_
 refine wl_store1 Tryz.sizeOf3 rfl rfl rfl hB (by simp) ?_
 intro w1 hB1 hg1 hz1
 refine wl_nil ?_
 refine rk_region ?_
 refine wl_p (fun _ => o_move rfl) ?_
 refine wl_p (fun _ => o_move rfl) ?_
 refine wl_p (fun _ => o_nil rfl) ?_
 refine wl_p (fun _ => o_faddr (s := 119) (i := 3) (off := 3) Tryz.underlying119 rfl Tryz.sizeOf36 rfl rfl rfl) ?_
 refine wl_store1 Tryz.sizeOf36 rfl rfl rfl hB1 (by simp) ?_
 intro w2 hB2 hg2 hz2
 have hg := grownBy_trans hg1 hg2
 refine wl_nil ?_
 refine end0 rfl ?_
 exact ⟨rfl, hg, by omega, A, c, by simpa using hB2, ho.kept hg (.inr hA), hc, hq, hl, he'⟩

theorem C_lz8 (c : UInt8) (w : World) : CallsR Tryz.prog 180 [.int .u8 (bits .xor .u8 255 c.toNat)] w fun v w' => v = .int .i64 (lead c - 1) ∧ w = w' :=
 ⟨⟨_, Tryz.func180, rfl, by kernel_rfl⟩, by
  have h1 : bits .xor .u8 255 (c.toNat : Int) = ((255 - c.toNat : Nat) : Int) := by
   have : ∀ c : Fin 256, bits .xor .u8 255 (c.val : Int) = ((255 - c.val : Nat) : Int) := by decide +kernel
   exact this ⟨c.toNat, c.toNat_lt⟩
  have h2 : 8 - (Lib.bitLen (255 - c.toNat) : Int) = lead c - 1 := by
   have : ∀ c : Fin 256, 8 - (Lib.bitLen (255 - c.val) : Int) = lead (UInt8.ofNat c.val) - 1 := by decide +kernel
   simpa using this ⟨c.toNat, c.toNat_lt⟩
  rw [h1]
  refine (Tryz.bits_LeadingZeros8 _ w (by omega) (by omega)).mono fun _ _ h => ⟨_, h.1, ?_, h.2.symm⟩
  rw [show (((255 - c.toNat : Nat) : Int)).toNat = 255 - c.toNat from by omega, h2]⟩

set_option maxHeartbeats 1000000 in
theorem C_RNumber {g : Nat} {l : List UInt8} {p e : Nat} (w : World) (hR : RdrI w g l p e) :
  CallsR Tryz.prog 160 [.pointer (some ⟨g, 0, none⟩)] w fun v w' => v = .int .u64 (rNumber (l.drop p, e)).1 ∧ w.grownBy w' (some g) ∧
   ∃ p', RdrI w' g l p' (rNumber (l.drop p, e)).2.2 ∧ (rNumber (l.drop p, e)).2.1 = l.drop p' := by
 refine callsR Tryz.func160 rfl rfl (by kernel_rfl) rfl ?_
 refine rk_seq ?_
 refine rk_region ?_
 refine wl_p (fun _ => o_assign rfl) ?_
 refine wl_nil ?_
 refine rk_seq ?_
 refine rk_region ?_
 refine wl_p (fun _ => o_move rfl) ?_
 refine wl_call rfl (C_take 1 rfl w hR) ?_
 rintro _ w13 ⟨hg13, hz13, h | h⟩
 ·obtain ⟨rfl, h1, hR13, A13, c13, rfl, hc13, hr13, hA13⟩ := h
  obtain ⟨c0, t, hdt⟩ : ∃ c0 t, l.drop p = c0 :: t := by
   cases hd : l.drop p with
   | nil => have := congrArg List.length hd; simp at this; omega
   | cons c0 t => exact ⟨c0, t, rfl⟩
  rw [hdt] at hr13 ⊢
  obtain ⟨A, c, hB, ho, hc, hp, hl, he⟩ := hR13
  have hlen : t.length + 1 = l.length - p := by have := congrArg List.length hdt; simpa using this.symm
  have hdt1 : l.drop (p + 1) = t := by rw [← List.drop_drop, hdt]; rfl
  obtain ⟨b, o, rfl, hb, hcell⟩ := hr13.at_ (by simp)
  have hc0 : w13.cell? ⟨b, o + 0, none⟩ = some (.int .u8 c0.toNat) := by simpa using hcell 0 (by simp)
  have hk := lead_bd c0
  refine wl_p (fun _ => o_move rfl) ?_
  refine wl_p (fun _ => o_ext20 rfl) ?_
  refine wl_p (fun _ => o_ext21 rfl) ?_
  refine wl_p (fun _ => o_assign rfl) ?_
  refine wl_p (fun _ => o_assign rfl) ?_
  refine wl_nil ?_
  refine rk_seq ?_
  refine rk_seq ?_
  refine rk_region ?_
  refine wl_p (fun _ => o_move rfl) ?_
  refine wl_p (fun _ => o_not rfl) ?_
  refine wl_nil ?_
  refine rk_false rfl ?_
  refine rk_skip ?_
  refine rk_seq ?_
  refine rk_region ?_
  refine wl_p (fun _ => o_move rfl) ?_
  refine wl_p (fun _ => o_nil rfl) ?_
  refine wl_p (fun _ => o_faddr (s := 119) (i := 2) (off := 2) Tryz.underlying119 rfl Tryz.sizeOf3 rfl rfl rfl) ?_
  refine wl_r (o_loadb (t := 3) Tryz.isAgg3 rfl hB (by rfl)) ?_
  refine wl_p (fun _ => o_sub rfl rfl (by omega) (by omega)) ?_
  refine wl_p (fun _ => o_assign rfl) ?_
  refine wl_nil ?_
  refine rk_seq ?_
  refine rk_region ?_
  refine wl_p (fun _ => o_move rfl) ?_
  refine wl_p (fun _ => o_iaddr1 (j := 0) Tryz.underlying39 Tryz.sizeOf5 rfl rfl rfl (by omega)) ?_
  refine wl_r (o_load Tryz.isAgg5 rfl hc0) ?_
  refine wl_p (fun _ => o_compl8 rfl) ?_
  refine wl_call rfl (C_lz8 c0 w13) ?_
  rintro _ w27 ⟨rfl, rfl⟩
  refine wl_p (fun _ => o_asi (b := (lead c0 : Int)) (o_add rfl rfl (by omega) (by omega)) (by omega)) ?_
  refine wl_p (fun _ => o_assign rfl) ?_
  refine wl_nil ?_
  refine rk_seq ?_
  refine rk_region ?_
  refine wl_p (fun _ => o_move rfl) ?_
  refine wl_p (fun _ => o_move rfl) ?_
  refine wl_p (fun _ => o_sub rfl rfl (by omega) (by omega)) ?_
  refine wl_p (fun _ => o_convu64 (src := 3) (dst := 43) Tryz.underlying3 Tryz.underlying43 rfl (by omega) (by omega)) ?_
  refine wl_call rfl (C_take (lead c0 - 1) (by omega) w13 ⟨A, c, hB, ho, hc, hp, hl, he⟩) ?_
  rintro _ w34 ⟨hg34, hz34, h | h⟩
  ·obtain ⟨-, h34, hR34, A34, c34, rfl, hc34, hr34, hA34⟩ := h
   rw [hdt1] at hr34
   have htk : (t.take (lead c0 - 1)).length = lead c0 - 1 := by simp; omega
   have hc34' : w34.cell? ⟨b, o + 0, none⟩ = some (.int .u8 c0.toNat) := by
    have := (hr13.grown hg34 (.inr hA13)).at_ (by simp)
    obtain ⟨b', o', e, _, h⟩ := this
    injection e with e; injection e with e1 e2; subst e1; subst e2
    simpa using h 0 (by simp)
   refine wl_p (fun _ => o_move rfl) ?_
   refine wl_p (fun _ => o_ext20 rfl) ?_
   refine wl_p (fun _ => o_ext21 rfl) ?_
   refine wl_p (fun _ => o_assign rfl) ?_
   refine wl_p (fun _ => o_assign rfl) ?_
   refine wl_nil ?_
   refine rk_seq ?_
   refine rk_seq ?_
   refine rk_region ?_
   refine wl_p (fun _ => o_move rfl) ?_
   refine wl_p (fun _ => o_not rfl) ?_
   refine wl_nil ?_
   refine rk_false rfl ?_
   refine rk_skip ?_
   refine rk_seq ?_
   refine rk_draw (id := 10) (none) [0, 1, 2, 0, 8, 20, 32, 127] [0, 1, 3, 0, 8, 31, 63, 127] 0 0 [(.p, 0), (.p, 1), (.r, 2), (.p, 3), (.p, 4), (.p, 5), (.p, 6), (.p, 7)] (by kernel_rfl) (by kernel_rfl) (by kernel_rfl) (by kernel_rfl) (by kernel_rfl) ?_
   refine wl_p (fun _ => o_move rfl) ?_
   refine wl_p (fun _ => o_iaddr1 (j := 0) Tryz.underlying39 Tryz.sizeOf5 rfl rfl rfl (by omega)) ?_
   refine wl_r (o_load Tryz.isAgg5 rfl hc34') ?_
   refine wl_p (fun _ => o_move rfl) ?_
   refine wl_p (fun _ => o_shr rfl rfl (by omega)) ?_
   refine wl_p (fun _ => o_asi (o_and rfl rfl) (mask_byte c0)) ?_
   have hmk : c0.toNat % 2 ^ (8 - lead c0) < 256 := Nat.lt_of_le_of_lt (Nat.mod_le _ _) c0.toNat_lt
   refine wl_p (fun _ => o_convu64 (src := 5) (dst := 43) Tryz.underlying5 Tryz.underlying43 rfl (by omega) (by omega)) ?_
   refine wl_p (fun _ => o_assign rfl) ?_
   refine wl_nild ?_
   refine rk_seq ?_
   refine rk_seq ?_
   refine rk_region ?_
   refine wl_p (fun _ => o_move rfl) ?_
   refine wl_p (fun _ => o_len (t := 39) Tryz.underlying39 rfl) ?_
   refine wl_p (fun _ => o_move rfl) ?_
   refine wl_nil ?_
   refine rk_block ?_
   refine rk_loop (fun m fr w' => ∃ j v q, fr = [(0, .pointer (some ⟨g, 0, none⟩)), (5, .int .i64 q), (6, .int .i64 (lead c0)), (8, .int .u64 v), (53, .slice A34 (lead c0 - 1) c34), (54, .int .i64 (lead c0 - 1 : Nat)), (55, .int .i64 (j : Nat))] ∧
    q = (p : Int) ∧ m + j = lead c0 - 1 ∧ v = (beVal (c0.toNat % 2 ^ (8 - lead c0)) (t.take j) : Int) ∧ w' = w34.drew) (n := lead c0 - 1) (by repeat' constructor) ⟨0, _, _, rfl, by omega, by omega, by simp [beVal], rfl⟩ ?_
   rintro m fr w' ⟨j, v, q, rfl, hq, hm, hv, rfl⟩
   refine rk_seq ?_
   refine rk_region ?_
   refine wl_p (fun _ => o_lt rfl rfl) ?_
   refine wl_nil ?_
   refine rk_seq ?_
   refine rk_if rfl (fun h => ?_) (fun h => ?_)
   ·have hjt : j < t.length := by omega
    obtain ⟨b2, o2, rfl, -, hcell2⟩ := hr34.at_ (by intro e; rw [e] at htk; simp at htk; omega)
    have hcj : w34.drew.cell? ⟨b2, o2 + j, none⟩ = some (.int .u8 t[j].toNat) := by
     have := hcell2 j (by omega)
     rw [List.getElem_take] at this
     exact this
    have hlt := beVal_u64 c0 (t.take (j + 1)) (by rw [List.length_take]; omega)
    rw [List.take_succ_eq_append_getElem hjt, beVal_snoc] at hlt
    have h256 := Nat.lt_of_le_of_lt (Nat.le_add_right _ _) hlt
    subst hv
    refine rk_skip ?_
    refine rk_seq ?_
    refine rk_block ?_
    refine rk_seq ?_
    refine rk_region ?_
    refine wl_p (fun _ => o_iaddr1 (j := j) Tryz.underlying39 Tryz.sizeOf5 rfl rfl rfl (by omega)) ?_
    refine wl_r (o_load Tryz.isAgg5 rfl hcj) ?_
    refine wl_p (fun _ => o_assign rfl) ?_
    refine wl_nil ?_
    refine rk_region ?_
    refine wl_p (fun _ => o_move rfl) ?_
    refine wl_p (fun _ => o_shl rfl rfl (by omega)) ?_
    refine wl_p (fun _ => o_move rfl) ?_
    refine wl_p (fun _ => o_convu64 (src := 5) (dst := 43) Tryz.underlying5 Tryz.underlying43 rfl (by omega) (by omega)) ?_
    refine wl_p (fun _ => o_asi (o_or rfl rfl) (join_byte _ t[j] h256)) ?_
    refine wl_p (fun _ => o_assign rfl) ?_
    refine wl_nil ?_
    refine rk_blk ?_
    refine rk_region ?_
    refine wl_p (fun _ => o_add rfl rfl (by omega) (by omega)) ?_
    refine wl_p (fun _ => o_move rfl) ?_
    refine wl_nil ?_
    exact rk_again (m := m - 1) (by repeat' constructor) ⟨j + 1, _, _, rfl, hq, by omega, by rw [List.take_succ_eq_append_getElem hjt, beVal_snoc], rfl⟩ (by omega)
   ·obtain rfl : j = lead c0 - 1 := by omega
    subst hv
    have hlt := beVal_u64 c0 (t.take (lead c0 - 1)) (by omega)
    have hnl : ¬ t.length + 1 < lead c0 := by omega
    have hg2 := grownBy_trans hg13 (grownBy_trans hg34 (grownBy_drew w34 _))
    refine rk_exit rfl ?_
    refine rk_seq ?_
    refine rk_seq ?_
    refine rk_region ?_
    refine wl_p (fun _ => o_move rfl) ?_
    refine wl_call rfl (C_size _ _ hlt) ?_
    rintro _ w66 ⟨rfl, rfl⟩
    refine wl_p (fun _ => o_move rfl) ?_
    refine wl_p (fun _ => o_ne rfl rfl) ?_
    refine wl_nil ?_
    refine rk_if rfl (fun h => ?_) (fun h => ?_)
    ·refine rk_seq ?_
     refine rk_region ?_
     refine wl_p (fun _ => o_move rfl) ?_
     refine wl_p (fun _ => o_move rfl) ?_
     refine wl_call rfl (C_fail p 4 hq rfl _ hR34 (by omega) (by omega)) ?_
     rintro _ w71 ⟨rfl, hg71, hz71, hR71⟩
     refine wl_nil ?_
     refine rk_seq ?_
     refine rk_region ?_
     refine wl_p (fun _ => o_assign rfl) ?_
     refine wl_nil ?_
     refine ret1 rfl rfl ?_
     rw [rNumber_bad hnl (fun e => h (by rw [e]))]
     exact ⟨rfl, grownBy_trans hg2 hg71, p, hR71, hdt.symm⟩
    ·refine rk_skip ?_
     refine rk_seq ?_
     refine rk_region ?_
     refine wl_p (fun _ => o_move rfl) ?_
     refine wl_p (fun _ => o_assign rfl) ?_
     refine wl_nil ?_
     refine ret1 rfl rfl ?_
     rw [rNumber_ok hnl (by omega)]
     exact ⟨rfl, hg2, _, hR34, by rw [← List.drop_drop, hdt1]⟩
  ·obtain ⟨rfl, h34, hR34⟩ := h
   rw [if_pos rfl] at hR34
   have hR34' := hR34
   obtain ⟨A, c, hB, -⟩ := hR34'
   refine wl_p (fun _ => o_move rfl) ?_
   refine wl_p (fun _ => o_ext20 rfl) ?_
   refine wl_p (fun _ => o_ext21 rfl) ?_
   refine wl_p (fun _ => o_assign rfl) ?_
   refine wl_p (fun _ => o_assign rfl) ?_
   refine wl_nil ?_
   refine rk_seq ?_
   refine rk_seq ?_
   refine rk_region ?_
   refine wl_p (fun _ => o_move rfl) ?_
   refine wl_p (fun _ => o_not rfl) ?_
   refine wl_nil ?_
   refine rk_true rfl ?_
   refine rk_seq ?_
   refine rk_region ?_
   refine wl_p (fun _ => o_move rfl) ?_
   refine wl_p (fun _ => o_move rfl) ?_
   refine wl_p (fun _ => o_move rfl) ?_
   refine wl_p (fun _ => o_nil rfl) ?_
   refine wl_p (fun _ => o_faddr (s := 119) (i := 3) (off := 3) Tryz.underlying119 rfl Tryz.sizeOf36 rfl rfl rfl) ?_
   refine wl_r (o_loadb (t := 36) Tryz.isAgg36 rfl hB (by rfl)) ?_
   refine wl_call rfl (C_fail p 5 (by omega) rfl w34 hR34 (by omega) (by omega)) ?_
   rintro _ w45 ⟨rfl, hg45, hz45, hR45⟩
   refine wl_nil ?_
   refine rk_seq ?_
   refine rk_region ?_
   refine wl_p (fun _ => o_assign rfl) ?_
   refine wl_nil ?_
   refine ret1 rfl rfl ?_
   have := h34 rfl
   rw [rNumber_more (by omega)]
   exact ⟨rfl, grownBy_trans hg13 (grownBy_trans hg34 hg45), p, hR45, hdt.symm⟩
 ·obtain ⟨rfl, h1, hR13⟩ := h
  refine wl_p (fun _ => o_move rfl) ?_
  refine wl_p (fun _ => o_ext20 rfl) ?_
  refine wl_p (fun _ => o_ext21 rfl) ?_
  refine wl_p (fun _ => o_assign rfl) ?_
  refine wl_p (fun _ => o_assign rfl) ?_
  refine wl_nil ?_
  refine rk_seq ?_
  refine rk_seq ?_
  refine rk_region ?_
  refine wl_p (fun _ => o_move rfl) ?_
  refine wl_p (fun _ => o_not rfl) ?_
  refine wl_nil ?_
  refine rk_true rfl ?_
  refine rk_seq ?_
  refine rk_region ?_
  refine wl_p (fun _ => o_assign rfl) ?_
  refine wl_nil ?_
  refine ret1 rfl rfl ?_
  by_cases he : e = 0
  ·subst he
   have hd : l.drop p = [] := List.drop_eq_nil_of_le (by have := h1 rfl; omega)
   exact ⟨by rw [hd, rNumber_nil]; rfl, hg13, p, by rw [hd, rNumber_nil]; exact hR13, by rw [hd, rNumber_nil]⟩
  ·rw [if_neg he] at hR13
   exact ⟨by rw [rNumber_err he]; rfl, hg13, p, by rw [rNumber_err he]; exact hR13, by rw [rNumber_err he]⟩

theorem RdrI.below {w w' : World} {g : Nat} {l : List UInt8} {p e : Nat} (h : RdrI w g l p e) (hb : Below w.heap.size w w') : RdrI w' g l p e := by
 obtain ⟨A, c, hB, ho, h⟩ := h
 exact ⟨A, c, hB.under hb, ho.below hb, h⟩
theorem RdrI.grown {w w' : World} {g k t : Nat} {cs : List Value} {l : List UInt8} {p e : Nat} (h : RdrI w g l p e) (hg : w.grownBy w' (some k)) (hB : Blk w k t cs) (ht : t ≠ 5) (hk : k ≠ g) : RdrI w' g l p e := by
 obtain ⟨A, c, hB', ho, h⟩ := h
 exact ⟨A, c, hB'.grown hg (by intro e; injection e with e; exact hk e.symm), ho.kept hg (.inr (ho.ne hB ht)), h⟩
theorem RdrI.blk' {w : World} {g : Nat} {l : List UInt8} {p e : Nat} (h : RdrI w g l p e) : ∃ A c, Blk w g 119 [.pointer (some ⟨g, 0, none⟩), .slice A l.length c, .int .i64 p, .int .i64 e] ∧ p ≤ l.length ∧ l.length ≤ 140737488355328 ∧ e ≤ 100 := by
 obtain ⟨A, c, hB, ho, hc, hp, hl, he⟩ := h
 exact ⟨A, c, hB, hp, hl, he⟩

theorem C_RBlock {g : Nat} {l : List UInt8} {p e : Nat} (w : World) (hR : RdrI w g l p e) :
  CallsR Tryz.prog 120 [.pointer (some ⟨g, 0, none⟩)] w fun v w' => w.grownBy w' (some g) ∧ (∃ A' c', v = .slice A' (rBlock (l.drop p, e)).1.length c' ∧ Own w' w.heap.size A' c' (rBlock (l.drop p, e)).1) ∧
   ∃ p', RdrI w' g l p' (rBlock (l.drop p, e)).2.2 ∧ (rBlock (l.drop p, e)).2.1 = l.drop p' := by
 obtain ⟨A, c, hB, hp, hl, he⟩ := hR.blk'
 refine callsR Tryz.func120 rfl rfl (by kernel_rfl) rfl ?_
 refine rk_seq ?_
 refine rk_region ?_
 refine wl_p (fun _ => o_assign rfl) ?_
 refine wl_nil ?_
 refine rk_seq ?_
 refine rk_seq ?_
 refine rk_region ?_
 refine wl_p (fun _ => o_move rfl) ?_
 refine wl_call rfl (C_made w hB) ?_
 rintro _ w1 ⟨rfl, rfl⟩
 refine wl_p (fun _ => o_not rfl) ?_
 refine wl_nil ?_
 refine rk_false rfl ?_
 refine rk_skip ?_
 refine rk_seq ?_
 refine rk_region ?_
 refine wl_p (fun _ => o_move rfl) ?_
 refine wl_p (fun _ => o_nil rfl) ?_
 refine wl_p (fun _ => o_faddr (s := 119) (i := 2) (off := 2) Tryz.underlying119 rfl Tryz.sizeOf3 rfl rfl rfl) ?_
 refine wl_r (o_loadb (t := 3) Tryz.isAgg3 rfl hB (by rfl)) ?_
 refine wl_p (fun _ => o_assign rfl) ?_
 refine wl_nil ?_
 refine rk_seq ?_
 refine rk_region ?_
 refine wl_p (fun _ => o_move rfl) ?_
 refine wl_call rfl (C_RNumber w hR) ?_
 rintro _ w2 ⟨rfl, hg2, p2, hR2, hs2⟩
 refine wl_p (fun _ => o_assign rfl) ?_
 refine wl_nil ?_
 refine rk_seq ?_
 refine rk_region ?_
 refine wl_p (fun _ => o_move rfl) ?_
 refine wl_p (fun _ => o_move rfl) ?_
 refine wl_call rfl (C_take _ rfl w2 hR2) ?_
 rintro _ w3 ⟨hg3, hz3, h | h⟩
 ·obtain ⟨h0, h3, hR3, A3, c3, rfl, hc3, hr3, hA3⟩ := h
  have hb1 : (rBlock (l.drop p, e)) = ((l.drop p2).take (rNumber (l.drop p, e)).1, ((l.drop p2).drop (rNumber (l.drop p, e)).1, 0)) := by
   unfold rBlock
   rw [if_neg (by simp [h0]), if_neg (by rw [hs2, List.length_drop]; omega), hs2]
  have hlen : (rNumber (l.drop p, e)).1 = ((l.drop p2).take (rNumber (l.drop p, e)).1).length := by simp; omega
  rw [hb1]
  generalize (rNumber (l.drop p, e)).1 = n at *
  refine wl_p (fun _ => o_move rfl) ?_
  refine wl_p (fun _ => o_ext20 rfl) ?_
  refine wl_p (fun _ => o_ext21 rfl) ?_
  refine wl_p (fun _ => o_assign rfl) ?_
  refine wl_p (fun _ => o_assign rfl) ?_
  refine wl_nil ?_
  refine rk_seq ?_
  refine rk_seq ?_
  refine rk_region ?_
  refine wl_p (fun _ => o_move rfl) ?_
  refine wl_p (fun _ => o_not rfl) ?_
  refine wl_nil ?_
  refine rk_false rfl ?_
  refine rk_skip ?_
  refine rk_seq ?_
  refine rk_region ?_
  refine wl_p (fun _ => o_move rfl) ?_
  refine wl_call rfl (C_grown c3 hlen 0 w3 hr3 (by omega) (by rw [← hlen]; omega)) ?_
  rintro _ w4 ⟨A4, c4, rfl, hown4, hb4⟩
  refine wl_p (fun _ => o_assign rfl) ?_
  refine wl_nil ?_
  refine ret1 rfl rfl ?_
  have hgA := grownBy_trans hg2 hg3
  exact ⟨grownBy_trans hgA (grownBy_of_below hb4 _), ⟨A4, c4, rfl, hown4.base (Nat.le_trans hg2.size hg3.size)⟩, p2 + n, hR3.below hb4, by rw [List.drop_drop]⟩
 ·obtain ⟨rfl, h3, hR3⟩ := h
  have hb1 : (rBlock (l.drop p, e)) = ([], (l.drop p, if (rNumber (l.drop p, e)).2.2 = 0 then 5 else (rNumber (l.drop p, e)).2.2)) := by
   unfold rBlock
   by_cases h0 : (rNumber (l.drop p, e)).2.2 = 0
   ·rw [if_neg (by simp [h0]), if_pos (by rw [hs2, List.length_drop]; exact h3 h0), if_pos h0]
   ·rw [if_pos h0, if_neg h0]
  rw [hb1]
  generalize (if (rNumber (l.drop p, e)).2.2 = 0 then 5 else (rNumber (l.drop p, e)).2.2) = e3 at *
  obtain ⟨A3, c3, hB3, hp3, hl3, he3⟩ := hR3.blk'
  refine wl_p (fun _ => o_move rfl) ?_
  refine wl_p (fun _ => o_ext20 rfl) ?_
  refine wl_p (fun _ => o_ext21 rfl) ?_
  refine wl_p (fun _ => o_assign rfl) ?_
  refine wl_p (fun _ => o_assign rfl) ?_
  refine wl_nil ?_
  refine rk_seq ?_
  refine rk_seq ?_
  refine rk_region ?_
  refine wl_p (fun _ => o_move rfl) ?_
  refine wl_p (fun _ => o_not rfl) ?_
  refine wl_nil ?_
  refine rk_true rfl ?_
  refine rk_seq ?_
  refine rk_region ?_
  refine wl_p (fun _ => o_move rfl) ?_
  refine wl_p (fun _ => o_move rfl) ?_
  refine wl_p (fun _ => o_move rfl) ?_
  refine wl_p (fun _ => o_nil rfl) ?_
  refine wl_p (fun _ => o_faddr (s := 119) (i := 3) (off := 3) Tryz.underlying119 rfl Tryz.sizeOf36 rfl rfl rfl) ?_
  refine wl_r (o_loadb (t := 36) Tryz.isAgg36 rfl hB3 (by rfl)) ?_
  refine wl_call rfl (C_fail p e3 rfl rfl w3 hR3 hp he3) ?_
  rintro _ w4 ⟨rfl, hg4, hz4, hR4⟩
  refine wl_nil ?_
  refine rk_seq ?_
  refine rk_region ?_
  refine wl_p (fun _ => o_assign rfl) ?_
  refine wl_nil ?_
  refine ret1 rfl rfl ?_
  exact ⟨grownBy_trans (grownBy_trans hg2 hg3) hg4, ⟨none, 0, rfl, Own.nil _ _⟩, p, hR4, rfl⟩

theorem C_RWord {g : Nat} {l : List UInt8} {p e : Nat} (size : Int) (w : World) (hR : RdrI w g l p e) :
  CallsR Tryz.prog 39 [.pointer (some ⟨g, 0, none⟩), .int .i64 size] w fun v w' => v = .int .u64 (rWord size (l.drop p, e)).1 ∧ w.grownBy w' (some g) ∧
   ∃ p', RdrI w' g l p' (rWord size (l.drop p, e)).2.2 ∧ (rWord size (l.drop p, e)).2.1 = l.drop p' := by
 obtain ⟨hk1, hk2, hk3⟩ := clampN_bd size
 refine callsR Tryz.func39 rfl rfl (by kernel_rfl) rfl ?_
 refine rk_seq ?_
 refine rk_region ?_
 refine wl_p (fun _ => o_assign rfl) ?_
 refine wl_nil ?_
 refine rk_seq ?_
 refine rk_region ?_
 refine wl_p (fun _ => o_move rfl) ?_
 refine wl_p (fun _ => o_move rfl) ?_
 refine wl_call rfl (C_clamp size w) ?_
 rintro _ w1 ⟨rfl, rfl⟩
 rw [hk3]
 refine wl_p (fun _ => o_convu64 (src := 3) (dst := 43) Tryz.underlying3 Tryz.underlying43 rfl (by omega) (by omega)) ?_
 refine wl_call rfl (C_take (clampN size) rfl w hR) ?_
 rintro _ w3 ⟨hg3, hz3, h | h⟩
 ·obtain ⟨rfl, h3, hR3, A3, c3, rfl, hc3, hr3, hA3⟩ := h
  have hb1 : rTake (clampN size) (l.drop p, 0) = ((l.drop p).take (clampN size), ((l.drop p).drop (clampN size), 0)) := by
   unfold rTake
   rw [if_neg (by simp), if_neg (by simp; omega)]
  unfold rWord
  rw [hb1]
  have hlen : ((l.drop p).take (clampN size)).length = clampN size := by simp; omega
  generalize (l.drop p).take (clampN size) = b at *
  refine wl_p (fun _ => o_move rfl) ?_
  refine wl_p (fun _ => o_ext20 rfl) ?_
  refine wl_p (fun _ => o_ext21 rfl) ?_
  refine wl_p (fun _ => o_assign rfl) ?_
  refine wl_p (fun _ => o_assign rfl) ?_
  refine wl_nil ?_
  refine rk_seq ?_
  refine rk_seq ?_
  refine rk_region ?_
  refine wl_p (fun _ => o_move rfl) ?_
  refine wl_p (fun _ => o_not rfl) ?_
  refine wl_nil ?_
  refine rk_false rfl ?_
  refine rk_skip ?_
  refine rk_seq ?_
  refine rk_region ?_
  refine wl_p (fun _ => o_assign rfl) ?_
  refine wl_nil ?_
  refine rk_seq ?_
  refine rk_seq ?_
  refine rk_region ?_
  refine wl_p (fun _ => o_move rfl) ?_
  refine wl_p (fun _ => o_len (t := 39) Tryz.underlying39 rfl) ?_
  refine wl_p (fun _ => o_move rfl) ?_
  refine wl_nil ?_
  refine rk_block ?_
  refine rk_loop (fun m fr w' => ∃ j v, fr = [(7, .int .u64 v), (20, .slice A3 (clampN size) c3), (21, .int .i64 (clampN size : Nat)), (22, .int .i64 (j : Nat))] ∧ m + j = clampN size ∧ v = leVal (b.take j) ∧ w' = w3) (n := clampN size) (by repeat' constructor)
   ⟨0, _, rfl, by omega, by simp [leVal], rfl⟩ ?_
  rintro m fr w' ⟨j, v, rfl, hm, rfl, rfl⟩
  refine rk_seq ?_
  refine rk_region ?_
  refine wl_p (fun _ => o_lt rfl rfl) ?_
  refine wl_nil ?_
  refine rk_seq ?_
  refine rk_if rfl (fun h => ?_) (fun h => ?_)
  ·have hjb : j < b.length := by omega
   obtain ⟨b2, o2, rfl, -, hcell2⟩ := hr3.at_ (by intro e; rw [e] at hlen; simp at hlen; omega)
   have hcj := hcell2 j hjb
   have htl : (b.take j).length = j := by simp; omega
   have hby := b[j].toNat_lt
   refine rk_skip ?_
   refine rk_seq ?_
   refine rk_block ?_
   refine rk_seq ?_
   refine rk_region ?_
   refine wl_p (fun _ => o_move rfl) ?_
   refine wl_p (fun _ => o_iaddr1 (j := j) Tryz.underlying39 Tryz.sizeOf5 rfl rfl rfl (by omega)) ?_
   refine wl_r (o_load Tryz.isAgg5 rfl hcj) ?_
   refine wl_p (fun _ => o_assign rfl) ?_
   refine wl_p (fun _ => o_assign rfl) ?_
   refine wl_nil ?_
   refine rk_region ?_
   refine wl_p (fun _ => o_move rfl) ?_
   refine wl_p (fun _ => o_move rfl) ?_
   refine wl_p (fun _ => o_convu64 (src := 5) (dst := 43) Tryz.underlying5 Tryz.underlying43 rfl (by omega) (by omega)) ?_
   refine wl_p (fun _ => o_move rfl) ?_
   refine wl_p (fun _ => o_mul rfl rfl (by omega) (by omega)) ?_
   refine wl_p (fun _ => o_shl rfl rfl (by omega)) ?_
   refine wl_p (fun _ => o_asi (b := (leVal (b.take (j + 1)) : Int)) (o_or rfl rfl) (by
    rw [List.take_succ_eq_append_getElem hjb, ← or_byte (b.take j) b[j] (by omega), htl])) ?_
   refine wl_p (fun _ => o_assign rfl) ?_
   refine wl_nil ?_
   refine rk_blk ?_
   refine rk_region ?_
   refine wl_p (fun _ => o_add rfl rfl (by omega) (by omega)) ?_
   refine wl_p (fun _ => o_move rfl) ?_
   refine wl_nil ?_
   exact rk_again (m := m - 1) (by repeat' constructor) ⟨j + 1, _, rfl, by omega, rfl, rfl⟩ (by omega)
  ·obtain rfl : j = clampN size := by omega
   rw [List.take_of_length_le (Nat.le_of_eq hlen)]
   refine rk_exit rfl ?_
   refine rk_seq ?_
   refine rk_region ?_
   refine wl_p (fun _ => o_move rfl) ?_
   refine wl_p (fun _ => o_assign rfl) ?_
   refine wl_nil ?_
   refine ret1 rfl rfl ?_
   exact ⟨rfl, hg3, _, hR3, by rw [List.drop_drop]⟩
 ·obtain ⟨rfl, h3, hR3⟩ := h
  have hb1 : rTake (clampN size) (l.drop p, e) = ([], (l.drop p, if e = 0 then 5 else e)) := by
   unfold rTake
   by_cases he : e = 0
   ·rw [if_neg (by simp [he]), if_pos (by simp; exact h3 he), if_pos he]
   ·rw [if_pos he, if_neg he]
  unfold rWord
  rw [hb1]
  refine wl_p (fun _ => o_move rfl) ?_
  refine wl_p (fun _ => o_ext20 rfl) ?_
  refine wl_p (fun _ => o_ext21 rfl) ?_
  refine wl_p (fun _ => o_assign rfl) ?_
  refine wl_p (fun _ => o_assign rfl) ?_
  refine wl_nil ?_
  refine rk_seq ?_
  refine rk_seq ?_
  refine rk_region ?_
  refine wl_p (fun _ => o_move rfl) ?_
  refine wl_p (fun _ => o_not rfl) ?_
  refine wl_nil ?_
  refine rk_true rfl ?_
  refine rk_seq ?_
  refine rk_region ?_
  refine wl_p (fun _ => o_assign rfl) ?_
  refine wl_nil ?_
  refine ret1 rfl rfl ?_
  exact ⟨rfl, hg3, p, hR3, rfl⟩

theorem C_RErr {g : Nat} {l : List UInt8} {p e : Nat} (w : World) (hR : RdrI w g l p e) :
  CallsR Tryz.prog 41 [.pointer (some ⟨g, 0, none⟩)] w fun v w' => v = .int .i64 e ∧ w = w' := by
 obtain ⟨A, c, hB, hp, hl, he⟩ := hR.blk'
 refine callsR Tryz.func41 rfl rfl (by kernel_rfl) rfl ?_
 refine rk_seq ?_
 refine rk_region ?_
 refine wl_p (fun _ => o_assign rfl) ?_
 refine wl_nil ?_
 refine rk_seq ?_
 refine rk_seq ?_
 refine rk_region ?_
 refine wl_p (fun _ => o_move rfl) ?_
 refine wl_call rfl (C_made w hB) ?_
 rintro _ w1 ⟨rfl, rfl⟩
 refine wl_p (fun _ => o_not rfl) ?_
 refine wl_nil ?_
 refine rk_false rfl ?_
 refine rk_skip ?_
 refine rk_seq ?_
 refine rk_region ?_
 refine wl_p (fun _ => o_move rfl) ?_
 refine wl_p (fun _ => o_nil rfl) ?_
 refine wl_p (fun _ => o_faddr (s := 119) (i := 3) (off := 3) Tryz.underlying119 rfl Tryz.sizeOf36 rfl rfl rfl) ?_
 refine wl_r (o_loadb (t := 36) Tryz.isAgg36 rfl hB (by rfl)) ?_
 refine wl_p (fun _ => o_assign rfl) ?_
 refine wl_nil ?_
 refine ret1 rfl rfl ?_
 exact ⟨rfl, rfl⟩

theorem C_RLeft {g : Nat} {l : List UInt8} {p e : Nat} (w : World) (hR : RdrI w g l p e) :
  CallsR Tryz.prog 85 [.pointer (some ⟨g, 0, none⟩)] w fun v w' => v = .int .i64 (l.drop p).length ∧ w.drew = w' := by
 obtain ⟨A, c, hB, hp, hl, he⟩ := hR.blk'
 refine callsR Tryz.func85 rfl rfl (by kernel_rfl) rfl ?_
 refine rk_seq ?_
 refine rk_region ?_
 refine wl_p (fun _ => o_assign rfl) ?_
 refine wl_nil ?_
 refine rk_seq ?_
 refine rk_seq ?_
 refine rk_region ?_
 refine wl_p (fun _ => o_move rfl) ?_
 refine wl_call rfl (C_made w hB) ?_
 rintro _ w1 ⟨rfl, rfl⟩
 refine wl_p (fun _ => o_not rfl) ?_
 refine wl_nil ?_
 refine rk_false rfl ?_
 refine rk_skip ?_
 refine rk_seq ?_
 refine rk_draw (id := 3) (none) [0, 1, 2, 4, 8, 0, 32, 64, 128, 272, 1023] [0, 1, 3, 7, 15, 0, 32, 96, 224, 511, 1023] 0 0 [(.p, 0), (.p, 1), (.p, 2), (.r, 3), (.p, 4), (.p, 5), (.p, 6), (.p, 7), (.r, 8), (.p, 9), (.p, 10)] (by kernel_rfl) (by kernel_rfl) (by kernel_rfl) (by kernel_rfl) (by kernel_rfl) ?_
 refine wl_p (fun _ => o_move rfl) ?_
 refine wl_p (fun _ => o_nil rfl) ?_
 refine wl_p (fun _ => o_faddr (s := 119) (i := 1) (off := 1) Tryz.underlying119 rfl Tryz.sizeOf39 rfl rfl rfl) ?_
 refine wl_r (o_loadb (t := 39) Tryz.isAgg39 rfl hB (by rfl)) ?_
 refine wl_p (fun _ => o_len (t := 39) Tryz.underlying39 rfl) ?_
 refine wl_p (fun _ => o_move rfl) ?_
 refine wl_p (fun _ => o_nil rfl) ?_
 refine wl_p (fun _ => o_faddr (s := 119) (i := 2) (off := 2) Tryz.underlying119 rfl Tryz.sizeOf3 rfl rfl rfl) ?_
 refine wl_r (o_loadb (t := 3) Tryz.isAgg3 rfl hB (by rfl)) ?_
 refine wl_p (fun _ => o_sub rfl rfl (by omega) (by omega)) ?_
 refine wl_p (fun _ => o_assign rfl) ?_
 refine wl_nild ?_
 refine ret1 rfl rfl ?_
 exact ⟨by rw [List.length_drop]; congr 1; omega, rfl⟩

theorem C_REnd {g : Nat} {l : List UInt8} {p e : Nat} (w : World) (hR : RdrI w g l p e) :
  CallsR Tryz.prog 42 [.pointer (some ⟨g, 0, none⟩)] w fun v w' => v = .int .i64 (rEnd (l.drop p, e)) ∧ Below w.heap.size w w' ∧ w'.heap.size = w.heap.size := by
 refine callsR Tryz.func42 rfl rfl (by kernel_rfl) rfl ?_
 refine rk_seq ?_
 refine rk_region ?_
 refine wl_p (fun _ => o_assign rfl) ?_
 refine wl_nil ?_
 refine rk_seq ?_
 refine rk_seq ?_
 refine rk_region ?_
 refine wl_p (fun _ => o_move rfl) ?_
 refine wl_call rfl (C_RErr w hR) ?_
 rintro _ w1 ⟨rfl, rfl⟩
 refine wl_p (fun _ => o_assign rfl) ?_
 refine wl_nil ?_
 refine rk_seq ?_
 refine rk_region ?_
 refine wl_p (fun _ => o_move rfl) ?_
 refine wl_p (fun _ => o_ne rfl rfl) ?_
 refine wl_nil ?_
 refine rk_if rfl (fun h => ?_) (fun h => ?_)
 ·refine rk_seq ?_
  refine rk_region ?_
  refine wl_p (fun _ => o_move rfl) ?_
  refine wl_p (fun _ => o_assign rfl) ?_
  refine wl_nil ?_
  refine ret1 rfl rfl ?_
  exact ⟨by unfold rEnd; rw [if_pos (by intro h0; apply h; simp at h0; omega)], Below.refl _ _, rfl⟩
 ·refine rk_skip ?_
  refine rk_seq ?_
  refine rk_seq ?_
  refine rk_region ?_
  refine wl_p (fun _ => o_move rfl) ?_
  refine wl_call rfl (C_RLeft w hR) ?_
  rintro _ w2 ⟨rfl, rfl⟩
  refine wl_p (fun _ => o_gt rfl rfl) ?_
  refine wl_nil ?_
  have h0 : e = 0 := by omega
  refine rk_if rfl (fun h => ?_) (fun h => ?_)
  ·refine rk_seq ?_
   refine rk_region ?_
   refine wl_p (fun _ => o_assign rfl) ?_
   refine wl_nil ?_
   refine ret1 rfl rfl ?_
   exact ⟨by unfold rEnd; rw [if_neg (by simp [h0]), if_pos (fun h1 : l.drop p = [] => by rw [h1] at h; exact absurd h (by simp))]; rfl, (Below.refl _ _).drew, rfl⟩
  ·refine rk_skip ?_
   refine rk_seq ?_
   refine rk_region ?_
   refine wl_p (fun _ => o_assign rfl) ?_
   refine wl_nil ?_
   refine ret1 rfl rfl ?_
   exact ⟨by unfold rEnd; rw [if_neg (by simp [h0]), if_neg (by simpa using List.eq_nil_of_length_eq_zero (show (l.drop p).length = 0 by omega))]; rfl, (Below.refl _ _).drew, rfl⟩

theorem Tryz.build_Reader (A : Option Addr) (n c : Nat) (w : World) : (Instr.build 119 ([1].zip [Value.slice A n c]).toArray).run Tryz.prog w = .ok (.agg #[.pointer none, .slice A n c, .int .i64 0, .int .i64 0]) w := by kernel_rfl

theorem C_Read {A : Option Addr} {l : List UInt8} {k : Nat} (c : Nat) (hk : k = l.length) (w : World) (hr : Rd w A l) (hl : l.length ≤ 140737488355328) :
  CallsR Tryz.prog 38 [.slice A k c] w fun v w' => ∃ g, v = .pointer (some ⟨g, 0, none⟩) ∧ w.heap.size ≤ g ∧ g < w'.heap.size ∧ RdrI w' g l 0 0 ∧ Below w.heap.size w w' := by
 refine callsR Tryz.func38 rfl rfl (by kernel_rfl) rfl ?_
 refine rk_seq ?_
 refine rk_region ?_
 refine wl_p (fun _ => o_assign rfl) ?_
 refine wl_nil ?_
 refine rk_seq ?_
 refine rk_region ?_
 refine wl_p (fun _ => o_move rfl) ?_
 refine wl_call rfl (C_grown c hk 0 w hr (by omega) (by omega)) ?_
 rintro _ w5 ⟨A5, c5, rfl, hown5, hb5⟩
 refine wl_p (fun _ => o_build (is := [1]) (xs := [.tmp 5]) rfl (fun _ => Tryz.build_Reader _ _ _ _)) ?_
 refine wl_box [.pointer none, .slice A5 l.length c5, .int .i64 0, .int .i64 0] rfl rfl ?_
 intro w1 hB1 hb1 hz1
 refine wl_p (fun _ => o_assign rfl) ?_
 refine wl_nil ?_
 refine rk_seq ?_
 refine rk_region ?_
 refine wl_p (fun _ => o_move rfl) ?_
 refine wl_p (fun _ => o_move rfl) ?_
 refine wl_p (fun _ => o_nil rfl) ?_
 refine wl_p (fun _ => o_faddr (s := 119) (i := 0) (off := 0) Tryz.underlying119 rfl Tryz.sizeOf81 rfl rfl rfl) ?_
 refine wl_store1 Tryz.sizeOf81 rfl rfl rfl hB1 (by simp) ?_
 intro w6 hB6 hg6 hz6
 refine wl_nil ?_
 refine rk_seq ?_
 refine rk_region ?_
 refine wl_p (fun _ => o_move rfl) ?_
 refine wl_p (fun _ => o_assign rfl) ?_
 refine wl_nil ?_
 refine ret1 rfl rfl ?_
 have hlt := hown5.lt
 have hs5 := hb5.size
 have hb6 : Below w5.heap.size w5 w6 := hb1.trans (below_of_grownBy hg6 (by omega) (Nat.le_refl _))
 have hsz : w6.heap.size = w5.heap.size + 1 := by rw [hz6, hz1]
 have hA5 : blk A5 ≠ some w5.heap.size := fun e => by have := hlt _ e; omega
 have hc5 : l.length ≤ c5 := by
  rcases hown5.2 with ⟨h1, h2⟩ | ⟨g', cap, cur, h1, h2, h3, h4, h5⟩
  ·omega
  ·injection h1 with _ _ h1; omega
 exact ⟨w5.heap.size, rfl, hs5, by omega, ⟨A5, c5, by simpa using hB6, (hown5.below hb6).base (by omega), hc5, by omega, hl, by omega⟩, hb5.trans (hb6.mono hs5)⟩

end Go.Proofs.YtahkeoegbjopfaaGreat
/-
  Rows of elements of any size: literals, append, parts; results of a cell and a slot; calls of function values.
-/
namespace Go.Proofs.YtahkeoegbjopfaaGreat
set_option maxRecDepth 100000
open Go.RowKit

theorem foldl_set (o : Nat) : ∀ (vs : List Value) (i : Nat) (L : List Value), o + i + vs.length ≤ L.length →
  (vs.zipIdx i).foldl (fun (cs : Array Value) (x : Value × Nat) => cs.setIfInBounds (o + x.2) x.1) L.toArray = (spl L (o + i) vs).toArray
 | [], i, L, _ => by simp [spl]
 | v :: vs, i, L, hl => by
  simp only [List.length_cons] at hl
  rw [List.zipIdx_cons, List.foldl_cons]
  have ih := foldl_set o vs (i + 1) (L.set (o + i) v) (by simp; omega)
  simp only [List.setIfInBounds_toArray]
  rw [ih]
  congr 1
  have hlt : o + i < L.length := by omega
  simp only [spl, List.length_cons]
  rw [show o + (i + 1) = (o + i) + 1 from by omega, List.take_succ_eq_append_getElem (by simpa using hlt), List.take_set_of_le (Nat.le_refl _), List.drop_set_of_lt (by omega)]
  simp [Nat.add_comm, Nat.add_left_comm, Nat.add_assoc]
theorem fill_rangen {sz : Nat} {place : Nat → Option (Nat × Nat)} (hp : ∀ i, place i = some (i * sz, sz)) : ∀ (vs : List Value) (k : Nat) (cells : List Value), (∀ v ∈ vs, v.cells.size = sz) → (k + vs.length) * sz = cells.length →
  Instr.fill place cells.toArray ((List.range' k vs.length).zip vs) = some (cells.take (k * sz) ++ vs.flatMap fun v => v.cells.toList).toArray
 | [], k, cells, _, hl => by
  simp only [List.length_nil, Nat.add_zero] at hl
  simp [Instr.fill, hl]
 | v :: vs, k, cells, h1, hl => by
  have hv := h1 v (by simp)
  have hlen : k * sz + sz ≤ cells.length := by
   rw [← hl, List.length_cons, Nat.add_mul, Nat.add_mul]; omega
  have hsp := spl_length (L := cells) (vs := v.cells.toList) (k := k * sz) (by simp [hv]; omega)
  have ih := fill_rangen hp vs (k + 1) (spl cells (k * sz) v.cells.toList) (fun u hu => h1 u (by simp [hu])) (by rw [hsp, ← hl, List.length_cons]; congr 1; omega)
  simp only [List.length_cons, List.range'_succ, List.zip_cons_cons, Instr.fill, hp]
  rw [if_neg (by simp [hv]; omega)]
  have hf := foldl_set (k * sz) v.cells.toList 0 cells (by simp [hv]; omega)
  have e : v.cells.zipIdx.foldl (fun cs (x : Value × Nat) => match x with | (c, j) => cs.setIfInBounds (k * sz + j) c) cells.toArray = (spl cells (k * sz) v.cells.toList).toArray := by
   rw [← Array.foldl_toList, Array.toList_zipIdx]
   exact hf
  rw [e, ih]
  congr 2
  rw [List.flatMap_cons, ← List.append_assoc]
  congr 1
  rw [Nat.add_mul, Nat.one_mul, spl, List.take_append_of_le_length (by simp; omega)]
  have h5 : (List.take (k * sz) cells ++ v.cells.toList).length = k * sz + sz := by rw [List.length_append, List.length_take, Nat.min_eq_left (by omega)]; simp [hv]
  rw [← h5, List.take_length]
theorem run_litn {P : Program} {w : World} {t e : TypeId} {z : Value} {sz : Nat} (hu : P.underlying t = some (.slice e)) (hs : ∀ w, (sizeOf e).run P w = .ok sz w) (hz : ∀ w, (zeroValue e).run P w = .ok z w) (vs : List Value) (h1 : ∀ v ∈ vs, v.cells.size = sz) (hn : vs.length * sz ≤ 16777216) :
  (Instr.buildSlice t vs.length ((List.range' 0 vs.length).zip vs).toArray).run P w = .ok (.slice (some ⟨w.heap.size, 0, none⟩) vs.length vs.length) (w.alloc (.cells (vs.flatMap fun v => v.cells.toList).toArray e)) := by
 have hf : ∀ (cells : Array Value), cells.size = vs.length * sz → Instr.fill (fun i => some (i * sz, sz)) cells ((List.range' 0 vs.length).zip vs) = some (vs.flatMap fun v => v.cells.toList).toArray := fun cells hc => by
  have := fill_rangen (place := fun i => some (i * sz, sz)) (fun _ => rfl) vs 0 cells.toList h1 (by simp [hc])
  simpa using this
 have hn' : ¬ (16777216 < vs.length * sz) := by omega
 by_cases hv : vs.length * sz = 0
 ·have h2 := hf #[] (by simp [hv])
  simp [Instr.buildSlice, run_underlying hu, hs, hv, newRow, newObj, Sem.run, show Array.range 0 = #[] from rfl, h2]
 ·have h2 := hf (Array.map (fun x => z.cells[x % z.cells.size]!) (Array.range (vs.length * sz))) (by simp)
  simp [Instr.buildSlice, run_underlying hu, hs, hz, hn', hv, newRow, newObj, Sem.run, h2]

structure RowT (P : Program) (t e : TypeId) (z : Value) (sz bytes : Nat) : Prop where
 ht : P.underlying t = some (.slice e)
 hi : (P.info? e).map (fun i => (i.zero, i.size, i.bytes)) = some (some z, sz, bytes)
 hz : z.cells.size = sz
 h0 : 0 < sz

section
variable {w w' : World} {sz n : Nat} {A : Option Addr} {xs : List Value}
theorem Reads.cutn (h : Reads w sz A n xs) {k m cap : Nat} (hk : k ≤ n) (hc : n ≤ cap) (hm : m = n - k) : Reads w sz (cutA A cap sz k) m (xs.drop (k * sz)) := by
 subst hm
 have hl := h.1
 refine ⟨by rw [List.length_drop, hl, Nat.sub_mul], fun hn => ?_⟩
 have hkn : k * sz < xs.length := by
  rcases Nat.lt_or_ge (k * sz) xs.length with h1 | h1
  ·exact h1
  ·exact absurd (List.drop_eq_nil_of_le h1) hn
 obtain ⟨b, o, rfl, hcell⟩ := h.2 (by intro e; rw [e] at hkn; simp at hkn)
 have hkn' : k < n := by
  rw [hl] at hkn
  exact Nat.lt_of_mul_lt_mul_right hkn
 unfold cutA
 rw [if_neg (by omega)]
 refine ⟨b, o + k * sz, by simp [add_plain], fun j u hu => ?_⟩
 rw [Nat.add_assoc]
 exact hcell _ u (by rw [← hu, List.getElem?_drop])
theorem Reads.taken (h : Reads w sz A n xs) {k : Nat} (hk : k ≤ n) : Reads w sz A k (xs.take (k * sz)) := by
 have hl := h.1
 refine ⟨by rw [List.length_take, hl]; exact Nat.min_eq_left (Nat.mul_le_mul_right _ hk), fun hn => ?_⟩
 obtain ⟨b, o, rfl, hcell⟩ := h.2 (by intro e; simp [e] at hn)
 refine ⟨b, o, rfl, fun j u hu => hcell _ u ?_⟩
 rw [List.getElem?_take] at hu
 split at hu
 ·exact hu
 ·cases hu
end

section
variable {P : Program} (w : World)
end

section
variable {P : Program} {fn : Func} {F : Ending → World → Prop} {N : Nat} {ks : List K} {ops : Array Oper} {tg : Tags} {l : List Oper} {fr : Fr} {w : World} {ty t t2 e : TypeId} {z : Value} {sz bytes : Nat} {pos : String} {aft : Array Edge} {gd : Option (Nat × Bool)} {d g : Nat} {x y k : Operand}
theorem wl_appn (T : RowT P t e z sz bytes) {B : Nat} {A X : Option Addr} {n c j q : Nat} {xs ms : List Value} (hx : fr.ev x = some (.slice A n c)) (hown : w.ownsRow B e sz (.slice A n c) n xs) (hy : fr.ev y = some (.slice X j q)) (hr : Reads w sz X j ms) (h1 : ∀ u ∈ ms, u.oneCell' = true)
  (h63 : n + j ≤ maxLen) (hlen : (n + j) * bytes ≤ 140737488355328) (hB : B ≤ w.heap.size)
  (h : ∀ A' c' w', w'.ownsRow B e sz (.slice A' (n + j) c') (n + j) (xs ++ ms) → w.grownBy w' (blk A) → (blk A' = blk A ∨ blk A' = some w.heap.size) → Below B w w' → WL P fn F N ks ops tg.tail l ((d, .slice A' (n + j) c') :: fr) w')
  (ht : tg.loud = true := by rfl) (hg : onG ops fr gd = true := by rfl) (hd : Nat.blt d N = true := by rfl) (hq : tg.calm = false ∨ blk A = none ∨ blk A = tg.row := by exact .inl rfl) :
  WL P fn F N ks ops tg (⟨some d, .call { callee := .builtin .append, args := #[x, y], argTypes := #[t, t] }, ty, pos, aft, gd⟩ :: l) fr w := by
 obtain ⟨i, hi, hz, hs, hb⟩ := info_parts T.hi
 obtain ⟨v', w', hrun, h2, h3, h4⟩ := run_append_any (P := P) w B t ty e i z sz bytes T.ht hi hz hs hb T.hz T.h0 (.slice A n c) n xs hown X j q ms hr h1 h63 hlen hB
 obtain ⟨A', c', rfl⟩ := ownsRow_shape h2
 rw [blk_own] at h3 h4
 rw [blk_own] at h4
 have hlt : ∀ b, blk A = some b → B ≤ b ∧ b < w.heap.size := fun b hb => World.ownsRow.lt hown b (by rw [blk_own]; exact hb)
 exact wl_v (o_builtin (xs := [x, y]) (vs := [.slice A n c, .slice X j q]) (by simp [Fr.evs, hx, hy]) (by simp [builtin, hrun]) (by simp)) (h A' c' w' h2 h3 h4 ((Below.refl B w).grown h3 hB (fun b hb => (hlt b hb).1))) ht hg hd
  (hq.imp id fun e => e.elim (fun e => grown_wide (e ▸ h3) _) (fun e => e ▸ h3))
theorem wl_litn {xs : List Operand} {vs : List Value} (T : RowT P t e z sz bytes) (hs : ∀ w, (sizeOf e).run P w = .ok sz w) (hz : ∀ w, (zeroValue e).run P w = .ok z w) (n : Nat) (hx : fr.evs xs = some vs) (hn : vs.length = n) (h1 : ∀ v ∈ vs, v.cells.size = sz) (hm : Nat.ble (n * sz) 1000000 = true)
  (hk : ∀ w', (∀ B, B ≤ w.heap.size → w'.ownsRow B e sz (.slice (some ⟨w.heap.size, 0, none⟩) n n) n (vs.flatMap fun v => v.cells.toList)) → Below w.heap.size w w' → w'.heap.size = w.heap.size + 1 → WL P fn F N ks ops tg.tail l ((d, .slice (some ⟨w.heap.size, 0, none⟩) n n) :: fr) w')
  (ht : tg.loud = true := by rfl) (hg : onG ops fr gd = true := by rfl) (hd : Nat.blt d N = true := by rfl) : WL P fn F N ks ops tg (⟨some d, .buildSlice t n ((List.range' 0 n).zip xs).toArray, ty, pos, aft, gd⟩ :: l) fr w := by
 subst hn
 have hm' : vs.length * sz ≤ 1000000 := by simpa using hm
 have hr := run_litn (P := P) (w := w) T.ht hs hz vs h1 (by omega)
 have hfl : (vs.flatMap fun v => v.cells.toList).length = vs.length * sz := by
  clear hr hm hm' hk hx
  induction vs with
  | nil => simp
  | cons v vs ih => simp only [List.flatMap_cons, List.length_append, List.length_cons, Array.length_toList, h1 v (by simp), ih (fun u hu => h1 u (by simp [hu])), Nat.add_mul]; omega
 have hlen : vs.length ≤ 1000000 := by
  have h0 := T.h0
  exact Nat.le_trans (Nat.le_mul_of_pos_right _ h0) hm'
 exact wl_v (o_lit hx hr) (hk _ (fun B hB => ⟨hfl, .inr ⟨w.heap.size, vs.length, _, rfl, hB, heap_alloc_new w _, Nat.le_refl _, by simp only [maxLen]; omega, by simpa using hfl, by rw [← hfl]; exact List.take_length⟩⟩) (below_alloc w _) (by simp)) ht hg hd (.inr (grown_of_below (below_alloc w _) _))
theorem run_callf {ρ : Operand → Value} {f : FuncId} (hB : Bodied P f) {q : Operand} {xs : Array Operand} {ts : Array TypeId} {vs cs : Array Value} (hv : xs.map ρ = vs) (hρ : ρ q = .func (.func f) #[] cs) (o : Oper)
  (ho : o.op = .call { callee := .value q, args := xs, argTypes := ts }) : (execOp ρ o).run P w = .ok (.enter f (vs ++ cs)) w := by
 obtain ⟨g, h1, h2, h3⟩ := hB
 simp [execOp, ho, resolve, invoke, hρ, hv, Deferred.ofValue, callFunc, h1]
 rw [if_neg (by simpa using h3), if_neg (by intro e; rw [e] at h2; cases h2)]
theorem wl_callf {f : FuncId} {q : Operand} {xs : List Operand} {ts : Array TypeId} {vs cs : List Value} {R : Value → World → Prop} (hq0 : fr.ev q = some (.func (.func f) #[] cs.toArray)) (hx : fr.evs xs = some vs) (hc : CallsR P f (vs ++ cs) w R) (hk : ∀ v w', R v w' → WL P fn F N ks ops tg.tail l ((d, v) :: fr) w')
  (ht : tg.loud = true := by rfl) (hg : onG ops fr gd = true := by rfl) (hd : Nat.blt d N = true := by rfl) (hq : tg.calm = false ∨ ∀ v w', R v w' → w.grownBy w' tg.row := by exact .inl rfl) :
  WL P fn F N ks ops tg (⟨some d, .call { callee := .value q, args := xs.toArray, argTypes := ts }, ty, pos, aft, gd⟩ :: l) fr w :=
 fun a ha => left_loud ht fun K hK => by
  rw [if_pos (wanted_on (o := ⟨some d, .call { callee := .value q, args := xs.toArray, argTypes := ts }, ty, pos, aft, gd⟩) ha hg)]
  have hargs : Array.map a.eval xs.toArray = vs.toArray := by rw [List.map_toArray, ha.evs hx]
  unfold Oper.wp
  rw [run_callf hc.1 hargs (ha.ev hq0) _ rfl]
  have hc2 := hc.2
  rw [← List.append_toArray] at hc2
  refine Calls.mono hc2 ?_
  rintro e w' ⟨v, rfl, hr⟩
  exact hK _ _ (hq.imp id fun h => Rw.of (h v w' hr)) (hk v w' hr _ (ha.put hd v))
end
end Go.Proofs.YtahkeoegbjopfaaGreat
/-
  Rules in the form that the recorder's search applies: new blocks have names, rows of the call's own have bounds. No function of the program is named here.
-/
namespace Go.Proofs.YtahkeoegbjopfaaGreat
set_option maxRecDepth 100000
open Go.RowKit

theorem drew_size (w : World) : w.drew.heap.size = w.heap.size := rfl

theorem oneCell_of {vs : List Value} (h : vs.all (fun v => v.oneCell') = true) : ∀ v ∈ vs, v.oneCell' = true := List.all_eq_true.1 h

/-! Frames that go on from a frame that was there. -/
def Fr.le (fr0 fr : Fr) : Prop := ∀ t v, fr0.get t = some v → fr.get t = some v
theorem Rep.le {N : Nat} {a : Act} {fr fr0 : Fr} (h : Rep N a fr) (hl : Fr.le fr0 fr) : Rep N a fr0 := ⟨h.size, h.defers, fun t v hv => h.get t v (hl t v hv)⟩
theorem Fr.get_of_sub {fr : Fr} : ∀ {c : Fr}, Fr.sub c fr → ∀ t v, c.get t = some v → fr.get t = some v
 | [], _, t, v, h => by cases h
 | (k, u) :: r, hs, t, v, h => by
  rw [Fr.get_cons] at h
  by_cases e : k = t
  ·subst e
   rw [if_pos rfl] at h
   injection h with h
   subst h
   exact hs.1
  ·rw [if_neg e] at h
   exact Fr.get_of_sub hs.2 t v h
def inN (t : Nat) : List Nat → Bool
 | [] => false
 | k :: l => bif Nat.beq k t then true else inN t l
theorem Fr.get_append (c fb : Fr) (t : Nat) : (c ++ fb).get t = match c.get t with
  | some v => some v
  | none => fb.get t := by
 induction c with
 | nil => rfl
 | cons p c ih =>
  obtain ⟨k, u⟩ := p
  rw [List.cons_append, Fr.get_cons, Fr.get_cons]
  by_cases e : k = t
  ·rw [if_pos e, if_pos e]
  ·rw [if_neg e, if_neg e, ih]
theorem Fr.get_none_iff (c : Fr) (t : Nat) : c.get t = none ↔ inN t (c.map Prod.fst) = false := by
 induction c with
 | nil => simp [Fr.get, inN]
 | cons p c ih =>
  obtain ⟨k, u⟩ := p
  show (bif Nat.beq k t then some u else Fr.get c t) = none ↔ (bif Nat.beq k t then true else inN t (c.map Prod.fst)) = false
  cases Nat.beq k t with
  | true => simp
  | false => simpa using ih
def okSlots (c fb : List Nat) : List Nat → Bool
 | [] => true
 | t :: l => (inN t c || !inN t fb) && okSlots c fb l
theorem okSlots_spec {c fb : List Nat} : ∀ {l : List Nat}, okSlots c fb l = true → ∀ t, inN t l = true → inN t c = true ∨ inN t fb = false
 | [], _, t, h => by cases h
 | k :: l, hk, t, h => by
  unfold okSlots at hk
  simp only [Bool.and_eq_true, Bool.or_eq_true, Bool.not_eq_true'] at hk
  have h' : (bif Nat.beq k t then true else inN t l) = true := h
  cases hb : Nat.beq k t with
  | true => rw [← Nat.eq_of_beq_eq_true hb]; exact hk.1
  | false => rw [hb] at h'; exact okSlots_spec hk.2 t h'
theorem Fr.le_of {c fb fr : Fr} (hb : fr.drop (fr.length - fb.length) = fb) (hs : okSlots (c.map Prod.fst) (fb.map Prod.fst) ((fr.take (fr.length - fb.length)).map Prod.fst) = true) (hc : Fr.sub c fr) : Fr.le (c ++ fb) fr := fun t v h => by
 rw [Fr.get_append] at h
 cases hct : c.get t with
 | some u =>
  rw [hct] at h
  have h' : some u = some v := h
  rw [← h']
  exact Fr.get_of_sub hc t u hct
 | none =>
  rw [hct] at h
  have h' : fb.get t = some v := h
  rw [← List.take_append_drop (fr.length - fb.length) fr, hb, Fr.get_append]
  cases hp : Fr.get (fr.take (fr.length - fb.length)) t with
  | none => exact h'
  | some u =>
   exfalso
   have h1 : inN t ((fr.take (fr.length - fb.length)).map Prod.fst) = true := by
    cases hi : inN t ((fr.take (fr.length - fb.length)).map Prod.fst) with
    | true => rfl
    | false => rw [(Fr.get_none_iff _ t).2 hi] at hp; cases hp
   rcases okSlots_spec hs t h1 with h2 | h2
   ·rw [(Fr.get_none_iff c t).1 hct] at h2; cases h2
   ·rw [(Fr.get_none_iff fb t).2 h2] at h'; cases h'
section
variable {P : Program} {fn : Func} {F : Ending → World → Prop} {N : Nat} {ks : List K} {k : K} {ops : Array Oper} {l : List Oper} {fr : Fr} {w : World} {tg : Tags}
theorem RK.le {fr' : Fr} (hs : Fr.le fr' fr) (h : RK P fn F N ks fr' w) : RK P fn F N ks fr w := fun a ha => h a (ha.le hs)
theorem rk_loopf {c : Code} (Inv : Fr → Nat → Fr → World → Prop) {n : Nat} {fr0 : Fr} (hs : Fr.le fr0 fr) (h0 : Inv fr n fr0 w)
  (round : ∀ n fr' w, Inv fr n fr' w → RK P fn F N (.code c :: .inv (fun a w' => ∃ m fr', m < n ∧ Rep N a fr' ∧ Inv fr m fr' w') :: ks) fr' w) : RK P fn F N (.code (.loop c) :: ks) fr w := by
 intro a ha b k cs
 have key : ∀ n fr' a w, Rep N a fr' → Inv fr n fr' w →
   ∃ e a' w', kpost P fn F ks e a' w' ∧ Arrives P (lone (b.at a (.code c :: .inLoop c :: k)) cs w) b k cs e a' w' := by
  intro n
  induction n using Nat.strongRecOn with
  | _ n ih =>
   intro fr' a w hr hI
   obtain ⟨e, a₁, w₁, hq, harr⟩ := round n fr' w hI a hr b (.inLoop c :: k) cs
   cases e with
   | normal =>
    obtain ⟨m, fr'', hlt, hr', hI₁⟩ := hq
    obtain ⟨e₂, a₂, w₂, hq₂, harr₂⟩ := ih m hlt fr'' a₁ w₁ hr' hI₁
    exact ⟨e₂, a₂, w₂, hq₂, .of_steps (Steps.trans harr (.one step_inLoop)) harr₂⟩
   | exit id => exact ⟨_, a₁, w₁, hq, .pass (x := .inLoop c) rfl (fun _ _ => .inl (by simp)) harr⟩
   | goto l => exact ⟨_, a₁, w₁, hq, .pass (x := .inLoop c) rfl (fun _ _ => .inl (by simp)) harr⟩
   | ret => exact ⟨_, a₁, w₁, hq, .pass (x := .inLoop c) rfl (fun _ _ => .inl (by simp)) harr⟩
   | panic ch => exact ⟨_, a₁, w₁, hq, .pass (x := .inLoop c) rfl (fun _ _ => .inl (by simp)) harr⟩
   | outgrown => exact ⟨_, a₁, w₁, hq, .pass (x := .inLoop c) rfl (fun _ _ => .inl (by simp)) harr⟩
 obtain ⟨e, a', w', hq, harr⟩ := key n fr0 a w (ha.le hs) h0
 exact ⟨e, a', w', hq, .of_steps (.one step_loop) harr⟩
theorem rk_againf {Inv : Nat → Fr → World → Prop} {n m : Nat} {fr0 : Fr} (hs : Fr.le fr0 fr) (h : Inv m fr0 w) (hlt : m < n) :
  RK P fn F N (.inv (fun a w' => ∃ m fr', m < n ∧ Rep N a fr' ∧ Inv m fr' w') :: ks) fr w := fun _ ha => ⟨m, fr0, hlt, ha.le hs, h⟩
theorem rk_joinf {id : Nat} (R : Fr → Fr → World → Prop) (h2 : ∀ fr' w, R fr fr' w → RK P fn F N ks fr' w) (h1 : ∀ ks, (∀ fr' w, R fr fr' w → RK P fn F N ks fr' w) → RK P fn F N (k :: .blk id :: ks) fr w) : RK P fn F N (k :: .blk id :: ks) fr w := h1 ks h2
theorem rk_tof {R : Fr → World → Prop} (hj : ∀ fr w, R fr w → RK P fn F N ks fr w) {fr0 : Fr} (hs : Fr.le fr0 fr) (h : R fr0 w) : RK P fn F N ks fr w := (hj fr0 w h).le hs
theorem wl_tof {R : Fr → World → Prop} (hj : ∀ fr w, R fr w → WL P fn F N ks ops tg l fr w) {fr0 : Fr} (hs : Fr.le fr0 fr) (h : R fr0 w) : WL P fn F N ks ops tg l fr w := fun a ha => hj fr0 w h a (ha.le hs)
theorem rk_frame {c fb fr' : Fr} (e : c ++ fb = fr') (h : RK P fn F N ks fr' w) : RK P fn F N ks (c ++ fb) w := e ▸ h
theorem wl_frame {c fb fr' : Fr} (e : c ++ fb = fr') (h : WL P fn F N ks ops tg l fr' w) : WL P fn F N ks ops tg l (c ++ fb) w := e ▸ h
theorem wl_forkf {row : Rw} {m L C n k1 k2 : Nat} {ops : List Oper} (R : Fr → Fr → World → Prop) (D A : List Nat) (ord1 ord2 ordR : List Nat) (ts1 ts2 tsR : List (Tag × Nat)) (hD : ops.map (dmask .any) = D) (hA : ancs .any ops [] = A)
  (hc : (Nat.testBit L k1 && (Nat.testBit L k2 && (rdyK D m k1 && (rdyK D m k2 && (Go.Proofs.YtahkeoegbjopfaaGreat.only2 m k1 k2 D 0 && (Nat.beq n ((inOrder ops ord1).length + extra ts1) && (Nat.beq n ((inOrder ops ord2).length + extra ts2) && (chk ops.toArray ops D A L C ts1 (m ||| 2 ^ k1) && chk ops.toArray ops D A L C ts2 (m ||| 2 ^ k2))))))))) = true)
  (hl1 : (inOrder ops ord1).map some = ops.toArray[k1]? :: opsOf ops.toArray ts1) (hl2 : (inOrder ops ord2).map some = ops.toArray[k2]? :: opsOf ops.toArray ts2)
  (h0 : ∀ fr' w, R fr fr' w → WL P fn F N ks ops.toArray (some (row, tsR)) (inOrder ops ordR) fr' w)
  (h1 : (∀ fr' w, R fr fr' w → WL P fn F N ks ops.toArray (some (row, tsR)) (inOrder ops ordR) fr' w) → WL P fn F N ks ops.toArray (some (row, (.g m L C, k1) :: ts1)) (inOrder ops ord1) fr w)
  (h2 : (∀ fr' w, R fr fr' w → WL P fn F N ks ops.toArray (some (row, tsR)) (inOrder ops ordR) fr' w) → WL P fn F N ks ops.toArray (some (row, (.g m L C, k2) :: ts2)) (inOrder ops ord2) fr w) : WL P fn F N ks ops.toArray (some (row, [(.f m L C, n)])) [] fr w :=
 wl_fork2j (R fr) D A ord1 ord2 ordR ts1 ts2 tsR hD hA hc hl1 hl2 h0 h1 h2
end

/-! Which blocks a change may touch. -/
def Ap (row : Option Nat) (lo hi : Nat) : Prop := ∀ k, row = some k → k < lo ∨ hi ≤ k
theorem ap_some {g lo hi : Nat} (h : g < lo ∨ hi ≤ g) : Ap (some g) lo hi := fun k e => by injection e with e; omega
def TyAt (w : World) (k : Nat) (e : TypeId) : Prop := ∃ cs f, w.heap[k]? = some (.cells cs e f)
structure Grew (w w' : World) (e : TypeId) (row : Option Nat) : Prop where
 g : w.grownBy w' row
 ty : ∀ k, row = some k → TyAt w k e
theorem Grew.size {w w' : World} {e : TypeId} {row : Option Nat} (h : Grew w w' e row) : w.heap.size ≤ w'.heap.size := h.g.size
theorem Grew.below {w w' : World} {e : TypeId} {row : Option Nat} (h : Grew w w' e row) {B : Nat} (hB : B ≤ w.heap.size) (ha : ∀ k, row = some k → B ≤ k) : Below B w w' :=
 ⟨h.g.os, h.g.tape, h.g.output, h.g.size, fun k hk => h.g.block k (by omega) (fun e => by have := ha k e.symm; omega)⟩

structure GrewM (w w' : World) (b : Nat) : Prop where
 g : w.grownBy w' (some b)
 m : ∃ es c, w.heap[b]? = some (.map es c)
section
variable {w w' : World} {g : Nat} {t e : TypeId} {cs : List Value} {row : Option Nat}
theorem Blk.u (h : Blk w g t cs) (hb : Below w.heap.size w w') : Blk w' g t cs := h.under hb
theorem Blk.d (h : Blk w g t cs) : Blk w.drew g t cs := h
theorem Blk.k (h : Blk w g t cs) (hg : w.grownBy w' row) (ha : Ap row g (g + 1)) : Blk w' g t cs := h.grown hg (fun e => by have := ha g e.symm; omega)
theorem Blk.y (h : Blk w g t cs) (hg : Grew w w' e row) (hne : e ≠ t) : Blk w' g t cs := h.grown hg.g (fun e' => by
 obtain ⟨cs', f, h'⟩ := hg.ty g e'.symm
 unfold Blk at h
 rw [h] at h'
 injection h' with h'
 injection h' with _ h'
 exact hne h'.symm)
theorem Blk.at_ (h : Blk w g t cs) : TyAt w g t := ⟨_, _, h⟩
end

section
variable {w w' : World} {sz n lo hi c : Nat} {e e' : TypeId} {A : Option Addr} {xs : List Value} {l : List UInt8} {row : Option Nat}
theorem Rd.u (h : Rd w A l) (hb : Below w.heap.size w w') : Rd w' A l := h.below hb
theorem Rd.d (h : Rd w A l) : Rd w.drew A l := h
theorem Rd.to_Reads (h : Rd w A l) : Reads w 1 A l.length (B8 l) := h
theorem Rd.nil_ : Rd w none [] := Rd.nil w none
structure RowH (w : World) (lo hi : Nat) (e : TypeId) (sz : Nat) (A : Option Addr) (n c : Nat) (xs : List Value) : Prop where
 o : w.ownsRow lo e sz (.slice A n c) n xs
 hi : ∀ k, blk A = some k → k < hi
theorem RowH.lt (h : RowH w lo hi e sz A n c xs) : ∀ k, blk A = some k → lo ≤ k ∧ k < w.heap.size := fun k hk => World.ownsRow.lt h.o k (by rw [blk_own]; exact hk)
theorem RowH.u (h : RowH w lo hi e sz A n c xs) (hb : Below w.heap.size w w') : RowH w' lo hi e sz A n c xs :=
 ⟨World.ownsRow.kept h.o (row := none) ⟨hb.os, hb.tape, hb.output, hb.size, fun k hk _ => hb.block k hk⟩ (by rw [blk_own]; cases blk A <;> simp), h.hi⟩
theorem RowH.d (h : RowH w lo hi e sz A n c xs) : RowH w.drew lo hi e sz A n c xs := ⟨World.ownsRow.drew h.o, h.hi⟩
theorem RowH.k (h : RowH w lo hi e sz A n c xs) (hg : w.grownBy w' row) (ha : Ap row lo hi) : RowH w' lo hi e sz A n c xs :=
 ⟨World.ownsRow.kept h.o hg (by
  rw [blk_own]
  cases hA : blk A with
  | none => exact .inl rfl
  | some k => exact .inr fun e => by have := h.hi k hA; have := h.lt k hA; have := ha k e.symm; omega), h.hi⟩
theorem RowH.ty (h : RowH w lo hi e sz A n c xs) : ∀ k, blk A = some k → TyAt w k e := fun k hk => by
 rcases h.o.2 with ⟨hv, _⟩ | ⟨g', cap, cur, hv, _, hh, _⟩
 ·injection hv with hv; subst hv; cases hk
 ·injection hv with hv; subst hv
  have : g' = k := by simpa [blk] using hk
  subst this
  exact ⟨_, _, hh⟩
theorem RowH.y (h : RowH w lo hi e sz A n c xs) (hg : Grew w w' e' row) (hne : e' ≠ e) : RowH w' lo hi e sz A n c xs :=
 ⟨World.ownsRow.kept h.o hg.g (by
  rw [blk_own]
  cases hA : blk A with
  | none => exact .inl rfl
  | some k =>
   refine .inr (fun ek => ?_)
   obtain ⟨_, _, h1⟩ := h.ty k hA
   obtain ⟨_, _, h2⟩ := hg.ty k ek.symm
   rw [h1] at h2
   injection h2 with h2
   injection h2 with _ h2
   exact hne h2.symm), h.hi⟩
theorem RowH.ap (h : RowH w lo hi e sz A n c xs) {lo' hi' : Nat} (hd : hi ≤ lo' ∨ hi' ≤ lo) : Ap (blk A) lo' hi' := fun k hk => by have := h.hi k hk; have := h.lt k hk; omega
theorem RowH.rd (h : RowH w lo hi e sz A n c xs) : Reads w sz A n xs := Reads.of_own h.o
theorem RowH.cap (h : RowH w lo hi e sz A n c xs) : n ≤ c := by
 rcases h.o.2 with ⟨h1, h2⟩ | ⟨g, cap, cur, h2, h3, h4, h5, _⟩
 ·injection h1 with _ _ h3; omega
 ·injection h2 with _ _ h6; omega
theorem RowH.base (h : RowH w lo hi e sz A n c xs) {lo' hi' : Nat} (h1 : lo' ≤ lo) (h2 : hi ≤ hi') : RowH w lo' hi' e sz A n c xs :=
 ⟨⟨h.o.1, by
  rcases h.o.2 with h3 | ⟨g, cap, cur, h3, h4, h5⟩
  ·exact .inl h3
  ·exact .inr ⟨g, cap, cur, h3, by omega, h5⟩⟩, fun k hk => by have := h.hi k hk; omega⟩
theorem RowH.nil (w : World) (lo hi : Nat) (e : TypeId) (sz : Nat) : RowH w lo hi e sz none 0 0 [] := ⟨World.ownsRow_nil _ _ _ _, fun k hk => by cases hk⟩

def OwnH (w : World) (lo hi : Nat) (A : Option Addr) (c : Nat) (l : List UInt8) : Prop := RowH w lo hi 5 1 A l.length c (B8 l)
theorem OwnH.u (h : OwnH w lo hi A c l) (hb : Below w.heap.size w w') : OwnH w' lo hi A c l := RowH.u h hb
theorem OwnH.d (h : OwnH w lo hi A c l) : OwnH w.drew lo hi A c l := RowH.d h
theorem OwnH.k (h : OwnH w lo hi A c l) (hg : w.grownBy w' row) (ha : Ap row lo hi) : OwnH w' lo hi A c l := RowH.k h hg ha
theorem OwnH.y (h : OwnH w lo hi A c l) (hg : Grew w w' e' row) (hne : e' ≠ 5) : OwnH w' lo hi A c l := RowH.y h hg hne
theorem OwnH.ap (h : OwnH w lo hi A c l) {lo' hi' : Nat} (hd : hi ≤ lo' ∨ hi' ≤ lo) : Ap (blk A) lo' hi' := RowH.ap h hd
theorem OwnH.cap (h : OwnH w lo hi A c l) : l.length ≤ c := RowH.cap h
theorem OwnH.to_Rd (h : OwnH w lo hi A c l) : Rd w A l := RowH.rd h
theorem OwnH.base (h : OwnH w lo hi A c l) {lo' hi' : Nat} (h1 : lo' ≤ lo) (h2 : hi ≤ hi') : OwnH w lo' hi' A c l := RowH.base h h1 h2
theorem OwnH.nil_ : OwnH w lo hi none 0 [] := RowH.nil _ _ _ _ _
theorem Own.h_ (h : Own w lo A c l) : OwnH w lo w.heap.size A c l := ⟨h, fun k hk => (Own.lt h k hk).2⟩
end

section
variable {P : Program} {fn : Func} {F : Ending → World → Prop} {N : Nat} {ks : List K} {ops : Array Oper} {tg : Tags} {l : List Oper} {fr : Fr} {w : World} {ty t t' t2 e : TypeId} {z v : Value} {sz bytes : Nat} {pos pos2 : String} {aft aft2 : Array Edge} {gd gd2 : Option (Nat × Bool)} {d g i n : Nat} {x y k : Operand} {cs : List Value} {ty2 : TypeId}

/-! New blocks. -/
theorem wl_allocg (zs : List Value) (hz : ∀ w, (zeroValue e).run P w = .ok z w) (hzs : z.cells = zs.toArray)
  (hk : ∀ g w', Blk w' g e zs → Below w.heap.size w w' → w.heap.size ≤ g → g < w'.heap.size → WL P fn F N ks ops tg.tail l ((d, .pointer (some ⟨g, 0, none⟩)) :: fr) w')
  (ht : tg.loud = true := by rfl) (hg : onG ops fr gd = true := by rfl) (hd : Nat.blt d N = true := by rfl) : WL P fn F N ks ops tg (⟨some d, .alloc e, ty, pos, aft, gd⟩ :: l) fr w :=
 wl_alloc zs hz hzs (fun w' h1 h2 h3 => hk _ w' h1 h2 (Nat.le_refl _) (by omega)) ht hg hd
theorem wl_boxg (vs : List Value) (hx : fr.ev x = some v) (hvs : v.cells = vs.toArray)
  (hk : ∀ g w', Blk w' g e vs → Below w.heap.size w w' → w.heap.size ≤ g → g < w'.heap.size → WL P fn F N ks ops tg.tail l ((d, .pointer (some ⟨g, 0, none⟩)) :: fr) w')
  (ht : tg.loud = true := by rfl) (hg : onG ops fr gd = true := by rfl) (hd : Nat.blt d N = true := by rfl) : WL P fn F N ks ops tg (⟨some d, .box e x, ty, pos, aft, gd⟩ :: l) fr w :=
 wl_box vs hx hvs (fun w' h1 h2 h3 => hk _ w' h1 h2 (Nat.le_refl _) (by omega)) ht hg hd
/-! Stores into blocks of the call's own. -/
theorem wl_storeg1 (hs : ∀ w, (sizeOf t).run P w = .ok 1 w) (hx : fr.ev x = some (.pointer (some ⟨g, i, none⟩))) (hy : fr.ev y = some v) (h1 : v.oneCell' = true) (hB : Blk w g t' cs) (hi : i < cs.length)
  (hk : ∀ w', Blk w' g t' (cs.set i v) → Grew w w' t' (some g) → w'.heap.size = w.heap.size → WL P fn F N ks ops tg.tail l fr w') (ht : tg.loud = true := by rfl) (hg : onG ops fr gd = true := by rfl) (hq : tg.calm = false ∨ tg.rw.may (some g) := by exact .inl rfl) :
  WL P fn F N ks ops tg (⟨none, .store t x y, ty, pos, aft, gd⟩ :: l) fr w :=
 wl_store1 hs hx hy h1 hB hi (fun w' h1 h2 h3 => hk w' h1 ⟨h2, fun k e => by injection e with e; subst e; exact hB.at_⟩ h3) ht hg hq
theorem wl_storega {vs : List Value} (hs : ∀ w, (sizeOf t).run P w = .ok n w) (hx : fr.ev x = some (.pointer (some ⟨g, 0, none⟩))) (hy : fr.ev y = some (.agg vs.toArray)) (hn : vs.length = n) (h1 : ∀ v ∈ vs, v.oneCell' = true) (hB : Blk w g t' cs) (hi : cs.length = n)
  (hk : ∀ w', Blk w' g t' vs → Grew w w' t' (some g) → w'.heap.size = w.heap.size → WL P fn F N ks ops tg.tail l fr w') (ht : tg.loud = true := by rfl) (hg : onG ops fr gd = true := by rfl) (hq : tg.calm = false ∨ tg.rw.may (some g) := by exact .inl rfl) :
  WL P fn F N ks ops tg (⟨none, .store t x y, ty, pos, aft, gd⟩ :: l) fr w :=
 wl_store_all hs hx hy hn h1 hB hi (fun w' h1 h2 h3 => hk w' h1 ⟨h2, fun k e => by injection e with e; subst e; exact hB.at_⟩ h3) ht hg hq
theorem wl_storegn {vs : List Value} (hs : ∀ w, (sizeOf t).run P w = .ok n w) (hx : fr.ev x = some (.pointer (some ⟨g, i, none⟩))) (hy : fr.ev y = some (.agg vs.toArray)) (hn : vs.length = n) (h1 : ∀ v ∈ vs, v.oneCell' = true) (hB : Blk w g t' cs) (hi : i + n ≤ cs.length)
  (hk : ∀ w', Blk w' g t' (spl cs i vs) → Grew w w' t' (some g) → w'.heap.size = w.heap.size → WL P fn F N ks ops tg.tail l fr w') (ht : tg.loud = true := by rfl) (hg : onG ops fr gd = true := by rfl) (hq : tg.calm = false ∨ tg.rw.may (some g) := by exact .inl rfl) :
  WL P fn F N ks ops tg (⟨none, .store t x y, ty, pos, aft, gd⟩ :: l) fr w :=
 wl_storen hs hx hy hn h1 hB hi (fun w' h1 h2 h3 => hk w' h1 ⟨h2, fun k e => by injection e with e; subst e; exact hB.at_⟩ h3) ht hg hq

/-! Loads out of blocks. -/
theorem o_loadbg (ha' : ∀ w, (isAgg t).run P w = .ok false w) (hx : fr.ev x = some (.pointer (some ⟨g, i, none⟩))) (hB : Blk w g t' cs) (hi : cs[i]? = some v) : OpV P N fr w (.load t x) ty v w := o_loadb ha' hx hB hi
theorem o_loadag (ha' : ∀ w, (isAgg t).run P w = .ok true w) (hs : ∀ w, (sizeOf t).run P w = .ok n w) (hx : fr.ev x = some (.pointer (some ⟨g, 0, none⟩))) (hB : Blk w g t' cs) (hn : cs.length = n) : OpV P N fr w (.load t x) ty (.agg cs.toArray) w := o_load_all ha' hs hx hB hn

/-! Elements of slices: addresses. -/
def adr (A : Option Addr) (k : Nat) : Addr := (A.getD ⟨0, 0, none⟩).add k
theorem adr_add (A : Option Addr) (i j : Nat) : (adr A i).add j = adr A (i + j) := add_of_add _ _ _
theorem Reads.adr_ {A : Option Addr} {xs : List Value} {n : Nat} (h : Reads w sz A n xs) (hne : xs ≠ []) : A = some (A.getD ⟨0, 0, none⟩) ∧ ∀ j u, xs[j]? = some u → w.cell? (adr A j) = some u := by
 obtain ⟨b, o, rfl, hc⟩ := h.2 hne
 exact ⟨rfl, fun j u hu => by simp only [adr, Option.getD_some, add_plain]; exact hc j u hu⟩
section
variable {A : Option Addr} {len cap : Nat} {ik : IntKind} {m : Int} {xs : List Value} {w0 : World}
theorem Reads.some_ (hr : Reads w0 sz A len xs) (h0 : 0 < sz) (hj : 0 < len) : A = some (A.getD ⟨0, 0, none⟩) := by
 refine (hr.adr_ (fun e => ?_)).1
 have := hr.1
 rw [e, List.length_nil] at this
 rcases Nat.mul_eq_zero.1 this.symm with h | h <;> omega
theorem o_iaddrA (j : Nat) (hu : P.underlying t = some (.slice e)) (hs : ∀ w, (sizeOf e).run P w = .ok sz w) (hx : fr.ev x = some (.slice A len cap)) (hy : fr.ev y = some (.int ik m)) (hm : m = (j : Int)) (hA : A = some (A.getD ⟨0, 0, none⟩)) (hj : j < len) :
  OpV P N fr w (.indexAddr t x y) ty (.pointer (some (adr A (j * sz)))) w := fun a ha op hop _ => by
 subst hm
 have h2 : ¬ len ≤ j := by omega
 have hx' : a.eval x = .slice (some (A.getD ⟨0, 0, none⟩)) len cap := by rw [ha.ev hx]; exact congrArg (fun A => Value.slice A len cap) hA
 simp [execOp, hop, hx', ha.ev hy, Instr.indexAt, run_underlying hu, asIntOf, hs, adr]
 intro h; exact absurd h h2
theorem o_iaddrA1 (j : Nat) (hu : P.underlying t = some (.slice e)) (hs : ∀ w, (sizeOf e).run P w = .ok 1 w) (hx : fr.ev x = some (.slice A len cap)) (hy : fr.ev y = some (.int ik m)) (hm : m = (j : Int)) (hA : A = some (A.getD ⟨0, 0, none⟩)) (hj : j < len) :
  OpV P N fr w (.indexAddr t x y) ty (.pointer (some (adr A j))) w := o_as (o_iaddrA j hu hs hx hy hm hA hj) (by rw [Nat.mul_one])
theorem o_faddrA {s : TypeId} {fs : Array Field} {f : Field} {i off fsz : Nat} {ad : Addr} (hu : P.underlying s = some (.struct fs)) (hf : fs[i]? = some f) (hs : ∀ w, (sizeOf f.type).run P w = .ok fsz w) (hz : Nat.blt 0 fsz = true) (ho : f.offset = off)
  (hx : fr.ev x = some (.pointer (some ad))) : OpV P N fr w (.fieldAddr s x i) ty (.pointer (some (ad.add off))) w := fun a ha op hop _ => by
 have hz' : fsz ≠ 0 := by
  have : 0 < fsz := by simpa using hz
  omega
 subst ho
 simp [execOp, hop, ha.ev hx, Instr.fieldAt, run_underlying hu, hf, Instr.sureAddr, fieldPlace, hs, hz']
theorem o_faddrR {s : TypeId} {fs : Array Field} {f : Field} {i off fsz k : Nat} {A : Option Addr} (hx : fr.ev x = some (.pointer (some (adr A k)))) (hu : P.underlying s = some (.struct fs)) (hf : fs[i]? = some f) (hs : ∀ w, (sizeOf f.type).run P w = .ok fsz w) (hz : Nat.blt 0 fsz = true) (ho : f.offset = off) :
  OpV P N fr w (.fieldAddr s x i) ty (.pointer (some (adr A (k + off)))) w := o_as (o_faddrA hu hf hs hz ho hx) (by rw [adr_add])
theorem o_loadA1 (ha' : ∀ w, (isAgg t).run P w = .ok false w) (hx : fr.ev x = some (.pointer (some (adr A i)))) (hr : Reads w sz A n xs) (hv : xs[i]? = some v) : OpV P N fr w (.load t x) ty v w :=
 o_load ha' hx ((hr.adr_ (fun e => by rw [e] at hv; cases hv)).2 _ _ hv)
theorem o_loadB {j : Nat} {bs : List UInt8} (ha' : ∀ w, (isAgg t).run P w = .ok false w) (hx : fr.ev x = some (.pointer (some (adr A j)))) (hr : Rd w A bs) (hj : j < bs.length) : OpV P N fr w (.load t x) ty (.int .u8 (bs[j].toNat : Int)) w :=
 o_loadA1 ha' hx hr (B8_get bs j hj)
end

/-! Literals of structs and arrays. -/
def lay (offs : Nat → Nat) : List Value → List (Nat × Value) → List Value
 | L, [] => L
 | L, (i, v) :: r => lay offs (spl L (offs i) v.cells.toList) r
theorem o_buildg {ps : Array (Nat × Operand)} {is : List Nat} {xs : List Operand} {vs : List Value} {fs : Array Field} (cs : List Value) (hu : P.underlying t = some (.struct fs)) (hz : ∀ w, (zeroValue t).run P w = .ok z w) (his : ps.toList.map Prod.fst = is) (hxs : ps.toList.map Prod.snd = xs) (hx : fr.evs xs = some vs)
  (hc : lay (fun i => ((fs[i]?).map (fun f => f.offset)).getD 0) z.cells.toList (is.zip vs) = cs) (hps : ps = (is.zip xs).toArray) (hr : ∀ w, (Instr.build t (is.zip vs).toArray).run P w = .ok (.agg cs.toArray) w) : OpV P N fr w (.build t ps) ty (.agg cs.toArray) w := by
 subst hps
 exact o_build hx hr
theorem o_buildga {ps : Array (Nat × Operand)} {is : List Nat} {xs : List Operand} {vs : List Value} (cs : List Value) (hu : P.underlying t = some (.array n e)) (hs : ∀ w, (sizeOf e).run P w = .ok sz w) (hz : ∀ w, (zeroValue t).run P w = .ok z w) (his : ps.toList.map Prod.fst = is) (hxs : ps.toList.map Prod.snd = xs) (hx : fr.evs xs = some vs)
  (hc : lay (fun i => i * sz) z.cells.toList (is.zip vs) = cs) (hps : ps = (is.zip xs).toArray) (hr : ∀ w, (Instr.build t (is.zip vs).toArray).run P w = .ok (.agg cs.toArray) w) : OpV P N fr w (.build t ps) ty (.agg cs.toArray) w := by
 subst hps
 exact o_build hx hr

/-! append, literals. -/
theorem run_append_cap0 {P : Program} (w : World) {t e ty : TypeId} {i : TypeInfo} (ht : P.underlying t = some (.slice e)) (hi : P.info? e = some i) (A : Option Addr) {X : Option Addr} {m q : Nat} (hm : 0 < m) (hb : Builtin.nextslicecap m 0 * i.bytes ≤ 281474976710656) :
  (Builtin.append_ #[t, t] ty #[.slice A 0 0, .slice X m q]).run P w = (Builtin.append_ #[t, t] ty #[.slice none 0 0, .slice X m q]).run P w := by
 have h0 : m ≠ 0 := by omega
 have h48' : ¬ (281474976710656 < Builtin.nextslicecap m 0 * i.bytes) := by omega
 have h1 : ∀ w, (Builtin.firstCells i.size 0 (.slice A 0 0)).run P w = .ok #[] w := fun w => by
  cases A <;> simp [Builtin.firstCells, loadCells, loadCellsFrom]
 have h2 : ∀ w, (Builtin.firstCells i.size 0 (.slice none 0 0)).run P w = .ok #[] w := fun w => by
  simp [Builtin.firstCells]
 simp [Builtin.append_, run_underlying ht, sizeOf, typeInfo, hi, Builtin.lenOf, h0, h48', h1, h2]
section
variable {A X : Option Addr} {c j q lo hi : Nat} {xs ms : List Value}
theorem wl_appR (T : RowT P t e z sz bytes) (hx : fr.ev x = some (.slice A n c)) (hown : RowH w lo hi e sz A n c xs) (hy : fr.ev y = some (.slice X j q)) (hr : Reads w sz X j ms) (h1 : ∀ u ∈ ms, u.oneCell' = true) (h63 : n + j ≤ maxLen) (hlen : (n + j) * bytes ≤ 140737488355328) (hB : lo ≤ w.heap.size)
  (h : ∀ A' c' w', RowH w' lo w'.heap.size e sz A' (n + j) c' (xs ++ ms) → Grew w w' e (blk A) → Below lo w w' → (blk A' = blk A ∨ blk A' = some w.heap.size) → WL P fn F N ks ops tg.tail l ((d, .slice A' (n + j) c') :: fr) w')
  (ht : tg.loud = true := by rfl) (hg : onG ops fr gd = true := by rfl) (hd : Nat.blt d N = true := by rfl) (hq : tg.calm = false ∨ blk A = none ∨ blk A = tg.row := by exact .inl rfl) :
  WL P fn F N ks ops tg (⟨some d, .call { callee := .builtin .append, args := #[x, y], argTypes := #[t, t] }, ty, pos, aft, gd⟩ :: l) fr w :=
 wl_appn T hx hown.o hy hr h1 h63 hlen hB (fun A' c' w' h1 h2 h3 h4 => h A' c' w' ⟨h1, fun k hk => (World.ownsRow.lt h1 k (by rw [blk_own]; exact hk)).2⟩ ⟨h2, hown.ty⟩ h4 h3) ht hg hd hq
theorem wl_appR0 (T : RowT P t e z sz bytes) (hx : fr.ev x = some (.slice A 0 0)) (hown : RowH w lo hi e sz A 0 0 []) (hy : fr.ev y = some (.slice X j q)) (hr : Reads w sz X j ms) (h1 : ∀ u ∈ ms, u.oneCell' = true) (h63 : j ≤ maxLen) (hlen : j * bytes ≤ 140737488355328) (hB : lo ≤ w.heap.size)
  (h : ∀ A' c' w', RowH w' lo w'.heap.size e sz A' j c' ms → Below w.heap.size w w' → WL P fn F N ks ops tg.tail l ((d, .slice A' j c') :: fr) w')
  (ht : tg.loud = true := by rfl) (hg : onG ops fr gd = true := by rfl) (hd : Nat.blt d N = true := by rfl) :
  WL P fn F N ks ops tg (⟨some d, .call { callee := .builtin .append, args := #[x, y], argTypes := #[t, t] }, ty, pos, aft, gd⟩ :: l) fr w := by
 obtain ⟨i, hi, hz, hs, hb⟩ := info_parts T.hi
 rcases Nat.eq_zero_or_pos j with h0 | h0
 ·subst h0
  have hm : ms = [] := List.eq_nil_of_length_eq_zero (by rw [hr.1]; simp)
  subst hm
  have hrun : (Builtin.append_ #[t, t] ty #[.slice A 0 0, .slice X 0 q]).run P w = .ok (.slice A 0 0) w := by
   have hst : ∀ a : Addr, (storeCells a [] 0).run P w = .ok () w := fun a => by simp [storeCells]
   have hf : (Builtin.firstCells i.size 0 (.slice X 0 q)).run P w = .ok #[] w := by cases X <;> simp [Builtin.firstCells, loadCells, loadCellsFrom]
   cases A <;> simp [Builtin.append_, run_underlying T.ht, sizeOf, typeInfo, hi, Builtin.lenOf, hf, storeCells]
  exact wl_v (o_builtin (xs := [x, y]) (vs := [.slice A 0 0, .slice X 0 q]) (by simp [Fr.evs, hx, hy]) (by simp [builtin, hrun]) (by simp)) (h A 0 w ⟨hown.o, fun k hk => (hown.lt k hk).2⟩ (Below.refl _ _)) ht hg hd (.inr (grown_of_below (Below.refl _ _) _))
 ·obtain ⟨v', w', hrun, h2, h3, h4⟩ := run_append_any (P := P) w w.heap.size t ty e i z sz bytes T.ht hi hz hs hb T.hz T.h0 (.slice none 0 0) 0 [] (World.ownsRow_nil _ _ _ _) X j q ms hr h1 (by omega) (by rw [Nat.zero_add]; exact hlen) (Nat.le_refl _)
  obtain ⟨A', c', rfl⟩ := ownsRow_shape h2
  rw [← run_append_cap0 (P := P) w T.ht hi A h0 (by rw [nextslicecap_zero h0, hb]; omega)] at hrun
  have hbl : Below w.heap.size w w' := below_of_grown_none h3
  simp only [Nat.zero_add, List.nil_append] at h2 hrun
  have hR : RowH w' w.heap.size w'.heap.size e sz A' j c' ms := ⟨h2, fun k hk => (World.ownsRow.lt h2 k (by rw [blk_own]; exact hk)).2⟩
  exact wl_v (o_builtin (xs := [x, y]) (vs := [.slice A 0 0, .slice X j q]) (by simp [Fr.evs, hx, hy]) (by simp [builtin, hrun]) (by simp)) (h A' c' w' (hR.base hB (Nat.le_refl _)) hbl) ht hg hd (.inr (grown_of_below hbl _))
theorem wl_appB (T : U8 P t) {s m : List UInt8} (hx : fr.ev x = some (.slice A n c)) (hown : OwnH w lo hi A c s) (hn : n = s.length) (hy : fr.ev y = some (.slice X j q)) (hr : Rd w X m) (hj : j = m.length) (hlen : s.length + m.length ≤ 4000000000) (hB : lo ≤ w.heap.size)
  (h : ∀ A' c' w', OwnH w' lo w'.heap.size A' c' (s ++ m) → Grew w w' 5 (blk A) → Below lo w w' → (blk A' = blk A ∨ blk A' = some w.heap.size) → WL P fn F N ks ops tg.tail l ((d, .slice A' (s ++ m).length c') :: fr) w')
  (ht : tg.loud = true := by rfl) (hg : onG ops fr gd = true := by rfl) (hd : Nat.blt d N = true := by rfl) (hq : tg.calm = false ∨ blk A = none ∨ blk A = tg.row := by exact .inl rfl) :
  WL P fn F N ks ops tg (⟨some d, .call { callee := .builtin .append, args := #[x, y], argTypes := #[t, t] }, ty, pos, aft, gd⟩ :: l) fr w :=
 wl_app T hx hn hown.o hy hj hr (by omega) hB (fun A' c' w' h1 h2 h3 h4 => h A' c' w' h1.h_ ⟨h2, RowH.ty hown⟩ h4 h3) ht hg hd hq
theorem wl_litR {ps : Array (Nat × Operand)} {xs : List Operand} {vs : List Value} (T : RowT P t e z sz bytes) (hs : ∀ w, (sizeOf e).run P w = .ok sz w) (hz : ∀ w, (zeroValue e).run P w = .ok z w) (hxs : ps.toList.map Prod.snd = xs) (hps : ps = ((List.range' 0 n).zip xs).toArray) (hx : fr.evs xs = some vs) (hn : vs.length = n) (h1 : ∀ v ∈ vs, v.cells.size = sz) (hm : Nat.ble (n * sz) 1000000 = true)
  (hk : ∀ A w', RowH w' w.heap.size w'.heap.size e sz A n n (vs.flatMap fun v => v.cells.toList) → Below w.heap.size w w' → WL P fn F N ks ops tg.tail l ((d, .slice A n n) :: fr) w')
  (ht : tg.loud = true := by rfl) (hg : onG ops fr gd = true := by rfl) (hd : Nat.blt d N = true := by rfl) : WL P fn F N ks ops tg (⟨some d, .buildSlice t n ps, ty, pos, aft, gd⟩ :: l) fr w := by
 subst hps
 refine wl_litn T hs hz n hx hn h1 hm (fun w' h1 h2 h3 => hk _ w' ⟨h1 _ (Nat.le_refl _), fun k hk => ?_⟩ h2) ht hg hd
 have : w.heap.size = k := by simpa [blk] using hk
 omega
theorem wl_litB {ps : Array (Nat × Operand)} {xs : List Operand} {vs : List Value} (bs : List UInt8) (T : U8 P t) (hs : ∀ w, (sizeOf 5).run P w = .ok 1 w) (hz : ∀ w, (zeroValue 5).run P w = .ok (.int .u8 0) w) (hxs : ps.toList.map Prod.snd = xs) (hx : fr.evs xs = some vs) (hv : vs = B8 bs) (hn : bs.length = n) (hps : ps = ((List.range' 0 n).zip xs).toArray) (hm : Nat.ble bs.length 1000000 = true)
  (hk : ∀ A w', OwnH w' w.heap.size w'.heap.size A n bs → Below w.heap.size w w' → WL P fn F N ks ops tg.tail l ((d, .slice A n n) :: fr) w')
  (ht : tg.loud = true := by rfl) (hg : onG ops fr gd = true := by rfl) (hd : Nat.blt d N = true := by rfl) : WL P fn F N ks ops tg (⟨some d, .buildSlice t n ps, ty, pos, aft, gd⟩ :: l) fr w := by
 subst hps; subst hv; subst hn
 exact wl_lit8 bs T hs hz hx hm (fun w' h1 h2 _ => hk _ w' h1.h_ h2) ht hg hd
end
end
end Go.Proofs.YtahkeoegbjopfaaGreat
/-
  Data as it lies in memory, by the shape of its Go type; arguments of a law opened. No function of the program is named here.
-/
namespace Go.Proofs.YtahkeoegbjopfaaGreat
set_option maxRecDepth 100000
open Go.ChangeShapes Go.WideShapes Go.ChangeAt Go.RowKit

structure GoT (α : Type) where
 sz : Nat
 tys : List TypeId
 R : World → List Value → α → Prop
 T : World → List Value → α → Prop
 len : ∀ {w cs a}, R w cs a → cs.length = sz
 u : ∀ {w w' cs a}, R w cs a → Below w.heap.size w w' → R w' cs a
 tr : ∀ {w cs a}, T w cs a → R w cs a
 tu : ∀ {w w' cs a}, T w cs a → Below w.heap.size w w' → T w' cs a
 ty : ∀ {w w' cs a e row}, T w cs a → Grew w w' e row → e ∉ tys → T w' cs a
 tm : ∀ {w w' cs a b}, T w cs a → GrewM w w' b → T w' cs a
theorem below_drew (w : World) : Below w.heap.size w w.drew := (Below.refl _ w).drew

def GoT.flat {α : Type} (f : α → Value) (p : α → Prop) : GoT α where
 sz := 1
 tys := []
 R _ cs a := cs = [f a] ∧ p a
 T _ cs a := cs = [f a] ∧ p a
 len h := by rw [h.1]; rfl
 u h _ := h
 tr h := h
 tu h _ := h
 ty h _ _ := h
 tm h _ := h
def gInt (k : IntKind) : GoT Int := GoT.flat (Value.int k) (fun n => (Lit.int k n).wf = true)
theorem grew_blk {w w' : World} {e e' : TypeId} {row : Option Nat} (hg : Grew w w' e' row) {A : Option Addr} (ht : ∀ k, blk A = some k → TyAt w k e) (hne : e' ≠ e) : blk A = none ∨ blk A ≠ row := by
 cases hA : blk A with
 | none => exact .inl rfl
 | some k =>
  refine .inr (fun ek => ?_)
  obtain ⟨_, _, h1⟩ := ht k hA
  obtain ⟨_, _, h2⟩ := hg.ty k ek.symm
  rw [h1] at h2
  injection h2 with h2
  injection h2 with _ h2
  exact hne h2.symm
theorem growm_blk {w w' : World} {e : TypeId} {b : Nat} (hg : GrewM w w' b) {A : Option Addr} (ht : ∀ k, blk A = some k → TyAt w k e) : blk A = none ∨ blk A ≠ some b := by
 cases hA : blk A with
 | none => exact .inl rfl
 | some k =>
  refine .inr (fun ek => ?_)
  obtain ⟨_, _, h1⟩ := ht k hA
  obtain ⟨_, _, h2⟩ := hg.m
  injection ek with ek
  subst ek
  rw [h1] at h2
  cases h2
theorem TyAt.lt {w : World} {k : Nat} {e : TypeId} (h : TyAt w k e) : k < w.heap.size := by
 obtain ⟨_, _, h⟩ := h
 rcases Nat.lt_or_ge k w.heap.size with h1 | h1
 ·exact h1
 ·rw [Array.getElem?_eq_none h1] at h; cases h
theorem TyAt.keep {w w' : World} {k : Nat} {e : TypeId} (h : TyAt w k e) (hb : w'.heap[k]? = w.heap[k]?) : TyAt w' k e := by
 obtain ⟨cs, f, h⟩ := h
 exact ⟨cs, f, hb.trans h⟩

def RdT (w : World) (A : Option Addr) (l : List UInt8) : Prop := Rd w A l ∧ ∀ k, blk A = some k → TyAt w k 5
section
variable {w w' : World} {A : Option Addr} {l : List UInt8} {e : TypeId} {row : Option Nat} {b lo hi c : Nat}
theorem RdT.u (h : RdT w A l) (hb : Below w.heap.size w w') : RdT w' A l := ⟨h.1.below hb, fun k hk => (h.2 k hk).keep (hb.block k (h.2 k hk).lt)⟩
theorem RdT.d (h : RdT w A l) : RdT w.drew A l := h
theorem RdT.to_Rd (h : RdT w A l) : Rd w A l := h.1
theorem RdT.nil_ : RdT w none [] := ⟨Rd.nil _ _, fun k hk => by cases hk⟩
theorem RdT.y (h : RdT w A l) (hg : Grew w w' e row) (hne : e ≠ 5) : RdT w' A l := by
 have hne' := grew_blk hg h.2 hne
 refine ⟨h.1.grown hg.g hne', fun k hk => (h.2 k hk).keep (hg.g.block k (h.2 k hk).lt (fun e => ?_))⟩
 rcases hne' with h1 | h1
 ·rw [h1] at hk; cases hk
 ·exact h1 (hk.trans e)
theorem RdT.m (h : RdT w A l) (hg : GrewM w w' b) : RdT w' A l := by
 have hne' := growm_blk hg h.2
 refine ⟨h.1.grown hg.g hne', fun k hk => (h.2 k hk).keep (hg.g.block k (h.2 k hk).lt (fun e => ?_))⟩
 rcases hne' with h1 | h1
 ·rw [h1] at hk; cases hk
 ·exact h1 (hk.trans e)
theorem OwnH.to_RdT (h : OwnH w lo hi A c l) : RdT w A l := ⟨h.to_Rd, RowH.ty h⟩
end
def gBytes : GoT (List UInt8) where
 sz := 1
 tys := [5]
 R w cs l := ∃ A c, cs = [.slice A l.length c] ∧ Rd w A l ∧ l.length ≤ c ∧ c ≤ maxLen
 T w cs l := ∃ A c, cs = [.slice A l.length c] ∧ RdT w A l ∧ l.length ≤ c ∧ c ≤ maxLen
 len h := by obtain ⟨A, c, rfl, _⟩ := h; rfl
 u h hb := by obtain ⟨A, c, e, h1, h2⟩ := h; exact ⟨A, c, e, h1.below hb, h2⟩
 tr h := by obtain ⟨A, c, e, h1, h2⟩ := h; exact ⟨A, c, e, h1.1, h2⟩
 tu h hb := by obtain ⟨A, c, e, h1, h2⟩ := h; exact ⟨A, c, e, h1.u hb, h2⟩
 ty h hg hne := by obtain ⟨A, c, e, h1, h2⟩ := h; exact ⟨A, c, e, h1.y hg (by simpa using hne), h2⟩
 tm h hg := by obtain ⟨A, c, e, h1, h2⟩ := h; exact ⟨A, c, e, h1.m hg, h2⟩

def gArr (n : Nat) : GoT { l : List UInt8 // l.length = n } where
 sz := n
 tys := []
 R _ cs a := cs = B8 a.1
 T _ cs a := cs = B8 a.1
 len := fun {w cs a} h => by rw [h, B8_length]; exact a.2
 u h _ := h
 tr h := h
 tu h _ := h
 ty h _ _ := h
 tm h _ := h

def GoT.pair {α β : Type} (X : GoT α) (Y : GoT β) : GoT (α × β) where
 sz := X.sz + Y.sz
 tys := X.tys ++ Y.tys
 R w cs a := ∃ c1 c2, cs = c1 ++ c2 ∧ X.R w c1 a.1 ∧ Y.R w c2 a.2
 T w cs a := ∃ c1 c2, cs = c1 ++ c2 ∧ X.T w c1 a.1 ∧ Y.T w c2 a.2
 len h := by obtain ⟨c1, c2, rfl, h1, h2⟩ := h; rw [List.length_append, X.len h1, Y.len h2]
 u h hb := by obtain ⟨c1, c2, e, h1, h2⟩ := h; exact ⟨c1, c2, e, X.u h1 hb, Y.u h2 hb⟩
 tr h := by obtain ⟨c1, c2, e, h1, h2⟩ := h; exact ⟨c1, c2, e, X.tr h1, Y.tr h2⟩
 tu h hb := by obtain ⟨c1, c2, e, h1, h2⟩ := h; exact ⟨c1, c2, e, X.tu h1 hb, Y.tu h2 hb⟩
 ty h hg hne := by
  obtain ⟨c1, c2, e, h1, h2⟩ := h
  rw [List.mem_append, not_or] at hne
  exact ⟨c1, c2, e, X.ty h1 hg hne.1, Y.ty h2 hg hne.2⟩
 tm h hg := by obtain ⟨c1, c2, e, h1, h2⟩ := h; exact ⟨c1, c2, e, X.tm h1 hg, Y.tm h2 hg⟩
def GoT.map {α β : Type} (f : α → β) (X : GoT α) : GoT β where
 sz := X.sz
 tys := X.tys
 R w cs b := ∃ a, f a = b ∧ X.R w cs a
 T w cs b := ∃ a, f a = b ∧ X.T w cs a
 len h := by obtain ⟨a, _, h⟩ := h; exact X.len h
 u h hb := by obtain ⟨a, e, h⟩ := h; exact ⟨a, e, X.u h hb⟩
 tr h := by obtain ⟨a, e, h⟩ := h; exact ⟨a, e, X.tr h⟩
 tu h hb := by obtain ⟨a, e, h⟩ := h; exact ⟨a, e, X.tu h hb⟩
 ty h hg hne := by obtain ⟨a, e, h⟩ := h; exact ⟨a, e, X.ty h hg hne⟩
 tm h hg := by obtain ⟨a, e, h⟩ := h; exact ⟨a, e, X.tm h hg⟩

def part (xs : List Value) (m i : Nat) : List Value := (xs.drop (i * m)).take m
theorem part_get {xs : List Value} {m i j : Nat} (hj : j < m) : (part xs m i)[j]? = xs[i * m + j]? := by
 unfold part
 rw [List.getElem?_take_of_lt hj, List.getElem?_drop]
def CellsAt (w : World) (A : Option Addr) (k : Nat) (cs : List Value) : Prop := ∀ j v, cs[j]? = some v → w.cell? (adr A (k + j)) = some v
section
variable {w w' : World} {A : Option Addr} {k n m : Nat} {cs xs : List Value}
theorem CellsAt.u (h : CellsAt w A k cs) (hb : Below w.heap.size w w') : CellsAt w' A k cs := fun j v hj => (hb.cell (block_lt_of_cell (h j v hj))).trans (h j v hj)
theorem Reads.cellsAt {i : Nat} (h : Reads w m A n xs) (hi : i < n) (h0 : 0 < m) : CellsAt w A (i * m) (part xs m i) := fun j v hj => by
 have hne : xs ≠ [] := fun e => by
  have := h.1
  rw [e, List.length_nil] at this
  rcases Nat.mul_eq_zero.1 this.symm with h | h <;> omega
 have hjm : j < m := by
  rcases Nat.lt_or_ge j m with h1 | h1
  ·exact h1
  ·rw [List.getElem?_eq_none (by unfold part; rw [List.length_take]; omega)] at hj; cases hj
 rw [part_get hjm] at hj
 exact (h.adr_ hne).2 _ _ hj
end
def GoT.slice {α : Type} (e : TypeId) (X : GoT α) : GoT (List α) where
 sz := 1
 tys := e :: X.tys
 R w cs l := ∃ A c xs, cs = [.slice A l.length c] ∧ l.length ≤ c ∧ c ≤ maxLen ∧ Reads w X.sz A l.length xs ∧ ∀ i (h : i < l.length), X.R w (part xs X.sz i) l[i]
 T w cs l := ∃ A c xs, cs = [.slice A l.length c] ∧ l.length ≤ c ∧ c ≤ maxLen ∧ Reads w X.sz A l.length xs ∧ (∀ k, blk A = some k → TyAt w k e) ∧ ∀ i (h : i < l.length), X.T w (part xs X.sz i) l[i]
 len h := by obtain ⟨A, c, xs, rfl, _⟩ := h; rfl
 u h hb := by obtain ⟨A, c, xs, e, h1, h2, h3, h4⟩ := h; exact ⟨A, c, xs, e, h1, h2, h3.below hb, fun i hi => X.u (h4 i hi) hb⟩
 tr h := by obtain ⟨A, c, xs, e, h1, h2, h3, _, h4⟩ := h; exact ⟨A, c, xs, e, h1, h2, h3, fun i hi => X.tr (h4 i hi)⟩
 tu h hb := by
  obtain ⟨A, c, xs, e, h1, h2, h3, h4, h5⟩ := h
  exact ⟨A, c, xs, e, h1, h2, h3.below hb, fun k hk => (h4 k hk).keep (hb.block k (h4 k hk).lt), fun i hi => X.tu (h5 i hi) hb⟩
 ty h hg hne := by
  obtain ⟨A, c, xs, e, h1, h2, h3, h4, h5⟩ := h
  rw [List.mem_cons, not_or] at hne
  have hb := grew_blk hg h4 hne.1
  refine ⟨A, c, xs, e, h1, h2, h3.grown hg.g hb, fun k hk => (h4 k hk).keep (hg.g.block k (h4 k hk).lt (fun e => ?_)), fun i hi => X.ty (h5 i hi) hg hne.2⟩
  rcases hb with h6 | h6
  ·rw [h6] at hk; cases hk
  ·exact h6 (hk.trans e)
 tm h hg := by
  obtain ⟨A, c, xs, e, h1, h2, h3, h4, h5⟩ := h
  have hb := growm_blk hg h4
  refine ⟨A, c, xs, e, h1, h2, h3.grown hg.g hb, fun k hk => (h4 k hk).keep (hg.g.block k (h4 k hk).lt (fun e => ?_)), fun i hi => X.tm (h5 i hi) hg⟩
  rcases hb with h6 | h6
  ·rw [h6] at hk; cases hk
  ·exact h6 (hk.trans e)

def RSl {α : Type} (X : GoT α) (w : World) (A : Option Addr) (L : List α) : Prop := ∃ xs, Reads w X.sz A L.length xs ∧ ∀ i (h : i < L.length), X.R w (part xs X.sz i) L[i]
section
variable {α : Type} {X : GoT α} {w w' : World} {A : Option Addr} {L : List α}
theorem RSl.u (h : RSl X w A L) (hb : Below w.heap.size w w') : RSl X w' A L := by obtain ⟨xs, h1, h2⟩ := h; exact ⟨xs, h1.below hb, fun i hi => X.u (h2 i hi) hb⟩
theorem RSl.some_ (h : RSl X w A L) (h0 : 0 < X.sz) (hl : 0 < L.length) : A = some (A.getD ⟨0, 0, none⟩) := by obtain ⟨xs, h1, h2⟩ := h; exact h1.some_ h0 hl
theorem RSl.elem (h : RSl X w A L) (h0 : 0 < X.sz) {i : Nat} (hi : i < L.length) : ∃ cs, CellsAt w A (i * X.sz) cs ∧ X.R w cs L[i] := by obtain ⟨xs, h1, h2⟩ := h; exact ⟨_, h1.cellsAt hi h0, h2 i hi⟩
theorem RSl.nil (X : GoT α) (w : World) (A : Option Addr) : RSl X w A [] := ⟨[], Reads.none_ _ _ _, fun i h => absurd h (Nat.not_lt_zero _)⟩
theorem slice_RSl {e : TypeId} {cs : List Value} (h : (GoT.slice e X).R w cs L) : ∃ A c, cs = [.slice A L.length c] ∧ RSl X w A L ∧ L.length ≤ c ∧ c ≤ maxLen := by
 obtain ⟨A, c, xs, rfl, h1, h2, h3, h4⟩ := h
 exact ⟨A, c, rfl, ⟨xs, h3, h4⟩, h1, h2⟩
end

/-! Arguments, opened. -/
structure Opens {α : Type} (P : Program) (t : TypeId) (X : GoT α) : Prop where
 cells : P.cellsOf t = X.sz
 o : ∀ (H : Type) (enc : TypeId × Value → H) (W : World) (fuel : Nat) (cs : List Value) (x : DataW H × List MemPlace), DataW.trod enc P W 0 (fun _ => true) true fuel t cs = some x → ∃ a, X.R W cs a
section
variable {α β γ δ : Type} {P : Program} {t e : TypeId}
theorem opens_int {k : IntKind} (hu : P.underlying t = some (.int k)) (hc : P.cellsOf t = 1) : Opens P t (gInt k) := ⟨hc, fun H enc W fuel cs x h => by
 obtain ⟨n, rfl, _, hw⟩ := DataW.trod_int hu h
 exact ⟨n, rfl, hw⟩⟩
theorem opens_bytes (hu : P.underlying t = some (.slice 5)) (he : P.underlying 5 = some (.int .u8)) (hc : P.cellsOf 5 = 1) (ht : P.cellsOf t = 1) : Opens P t gBytes := ⟨ht, fun H enc W fuel cs x h => by
 rcases open_ints hu he hc h with ⟨hcs, hx⟩ | ⟨a, len, cap, zs, hcs, _, hl, hm, hz, hx, hcell, hwz⟩
 ·exact ⟨[], none, 0, hcs, Rd.nil _ _, Nat.le_refl _, Nat.zero_le _⟩
 ·have hzl : zs.length = cap := by simpa using hz
  have hr : Reads W 1 (some a) (zs.take len).length ((zs.take len).map (Value.int .u8)) := by
   have := reads_of_cells (w := W) (a := a) (xs := (zs.take len).map (Value.int .u8)) (fun i v hv => by
    have hi : i < (zs.take len).length := by
     rcases Nat.lt_or_ge i (zs.take len).length with h | h
     ·exact h
     ·rw [List.getElem?_eq_none (by simpa using h)] at hv; cases hv
    rw [List.length_take] at hi
    rw [hcell i (by omega)]
    have hi2 : i < zs.length := by omega
    rw [List.getElem?_map, List.getElem?_take_of_lt (by omega), List.getElem?_eq_getElem hi2] at hv
    rw [← Option.some.inj hv]
    simp [hi2])
   simpa using this
  have hb : ∀ n ∈ zs.take len, n = (((UInt8.ofNat n.toNat).toNat : Nat) : Int) := fun n hn => by
   have h1 := bounds_u8 (hwz n (List.mem_of_mem_take hn))
   exact byte_of n h1.1 h1.2
  have e : (zs.take len).map (Value.int .u8) = B8 ((zs.take len).map fun n => UInt8.ofNat n.toNat) := by
   unfold B8
   rw [List.map_map]
   exact List.map_congr_left fun n hn => by simp only [Function.comp]; rw [← hb n hn]
  refine ⟨(zs.take len).map fun n => UInt8.ofNat n.toNat, some a, cap, ?_, ?_, by simp; omega, hm⟩
  ·rw [hcs]; simp; omega
  ·unfold Rd
   rw [← e, List.length_map]
   exact hr⟩
theorem part_append_lt {xs ys : List Value} {m i k : Nat} (hx : xs.length = k * m) (hi : i < k) : part (xs ++ ys) m i = part xs m i := by
 have h1 : (i + 1) * m ≤ k * m := Nat.mul_le_mul_right _ hi
 rw [Nat.add_mul, Nat.one_mul] at h1
 unfold part
 rw [List.drop_append_of_le_length (by omega), List.take_append_of_le_length (by rw [List.length_drop]; omega)]
theorem part_append_eq {xs ys : List Value} {m k : Nat} (hx : xs.length = k * m) (hy : ys.length = m) : part (xs ++ ys) m k = ys := by
 unfold part
 rw [← hx, List.drop_left, ← hy, List.take_length]
theorem build_rows {X : GoT α} {W : World} {a : Addr} : ∀ (k : Nat), (∀ i, i < k → ∃ cs' z, W.cells? 0 (a.add (i * X.sz)) X.sz = some cs' ∧ X.R W cs' z) →
  ∃ (l : List α) (xs : List Value), l.length = k ∧ xs.length = k * X.sz ∧ (∀ j v, xs[j]? = some v → W.cell? (a.add j) = some v) ∧ ∀ i (h : i < l.length), X.R W (part xs X.sz i) l[i]
 | 0, _ => ⟨[], [], rfl, by simp, fun j v h => by simp at h, fun i h => absurd h (Nat.not_lt_zero _)⟩
 | k + 1, h => by
  obtain ⟨l, xs, h1, h2, h3, h4⟩ := build_rows k (fun i hi => h i (by omega))
  obtain ⟨cs', z, h5, h6⟩ := h k (by omega)
  obtain ⟨_, h7, h8⟩ := World.cells?_some h5
  refine ⟨l ++ [z], xs ++ cs', by simp [h1], by rw [List.length_append, h2, h7, Nat.add_mul, Nat.one_mul], fun j v hj => ?_, fun i hi => ?_⟩
  ·rcases Nat.lt_or_ge j xs.length with hl | hl
   ·rw [List.getElem?_append_left hl] at hj
    exact h3 j v hj
   ·rw [List.getElem?_append_right hl] at hj
    have hjl : j - xs.length < X.sz := by
     rcases Nat.lt_or_ge (j - xs.length) X.sz with h9 | h9
     ·exact h9
     ·rw [List.getElem?_eq_none (by omega)] at hj; cases hj
    have := h8 _ hjl
    rw [hj, add_of_add] at this
    rw [← this]
    congr 2
    omega
  ·rcases Nat.lt_or_ge i l.length with hl | hl
   ·rw [part_append_lt h2 (by omega), List.getElem_append_left hl]
    exact h4 i hl
   ·have hik : i = k := by simp at hi; omega
    subst hik
    rw [part_append_eq h2 h7, List.getElem_append_right hl]
    simpa using h6
theorem opens_slice {X : GoT α} (hu : P.underlying t = some (.slice e)) (hc : P.cellsOf t = 1) (h0 : 0 < X.sz) (hX : Opens P e X) : Opens P t (GoT.slice e X) := ⟨hc, fun H enc W fuel cs x h => by
 rcases Go.Deep.open_slice hu h with ⟨rfl, _⟩ | ⟨a, len, cap, m, n, D, Pl, rfl, _, hl, hm, hmm, _, hx⟩
 ·exact ⟨[], none, 0, [], rfl, Nat.le_refl _, Nat.zero_le _, Reads.none_ _ _ _, fun i h => absurd h (Nat.not_lt_zero _)⟩
 ·rw [if_pos rfl] at hmm
  subst hmm
  obtain ⟨l, xs, h1, h2, h3, h4⟩ := build_rows (X := X) (W := W) (a := a) len (fun i hi => by
   obtain ⟨cs', h1, h2⟩ := hx i (by omega)
   obtain ⟨z, hz⟩ := hX.o _ _ _ _ _ _ h2
   rw [hX.cells] at h1
   exact ⟨cs', z, h1, hz⟩)
  refine ⟨l, some a, m, xs, by rw [h1], by omega, hm, ⟨by rw [h1]; exact h2, fun hn => ?_⟩, h4⟩
  have h00 : ∃ v, xs[0]? = some v := by
   cases xs with
   | nil => exact absurd rfl hn
   | cons x _ => exact ⟨x, rfl⟩
  obtain ⟨v0, hv0⟩ := h00
  have hc := h3 0 v0 hv0
  rw [show a.add 0 = a by simp [Addr.add]] at hc
  have hs := spot_of_cell hc
  exact ⟨a.block, a.off, by rw [← hs], fun j u hu => by rw [← add_plain, ← hs]; exact h3 j u hu⟩⟩
theorem opens_arr8 {n : Nat} (hu : P.underlying t = some (.array n 5)) (he : P.underlying 5 = some (.int .u8)) (hc : P.cellsOf 5 = 1) (ht : P.cellsOf t = n) : Opens P t (gArr n) := ⟨ht, fun H enc W fuel cs x h => by
 obtain ⟨xs, m, _, _, hl, _, hx⟩ := DataW.trod_array hu h
 rw [ht] at hl
 obtain ⟨l, rfl⟩ := bytes_of_vals cs (fun v hv => by
  obtain ⟨i, hi, rfl⟩ := List.mem_iff_getElem.1 hv
  have h1 := hx i (by omega)
  rw [hc, Nat.mul_one, List.drop_eq_getElem_cons hi, List.take_succ_cons, List.take_zero] at h1
  have hxi : i < xs.length := by omega
  rw [List.getElem?_eq_getElem hxi] at h1
  obtain ⟨z, e, _, hw⟩ := DataW.trod_int he h1
  injection e with e _
  exact ⟨z, e, bounds_u8 hw⟩)
 exact ⟨⟨l, by rw [← hl, B8_length]⟩, rfl⟩⟩
inductive OpensF (P : Program) : (α : Type) → List Field → Nat → GoT α → Prop where
 | one {α : Type} {f : Field} {off : Nat} {X : GoT α} (h : Opens P f.type X) (ho : f.offset = off) : OpensF P α [f] off X
 | more {α β : Type} {f : Field} {fs : List Field} {off : Nat} {X : GoT α} {Y : GoT β} (h : Opens P f.type X) (ho : f.offset = off) (hr : OpensF P β fs (off + X.sz) Y) : OpensF P (α × β) (f :: fs) off (X.pair Y)
theorem OpensF.open_ {α : Type} {fs : List Field} {off : Nat} {X : GoT α} (hF : OpensF P α fs off X) (H : Type) (enc : TypeId × Value → H) (W : World) (fuel : Nat) : ∀ (cs : List Value), cs.length = off + X.sz →
  (∀ (i : Nat) (f : Field), fs[i]? = some f → ∃ x, DataW.trod enc P W 0 (fun _ => true) true fuel f.type ((cs.drop f.offset).take (P.cellsOf f.type)) = some x) → ∃ a, X.R W (cs.drop off) a := by
 induction hF with
 | one h ho =>
  intro cs hl hx
  obtain ⟨x, h1⟩ := hx 0 _ rfl
  rw [ho, h.cells] at h1
  obtain ⟨a, ha⟩ := h.o _ _ _ _ _ _ h1
  rw [List.take_of_length_le (by rw [List.length_drop]; omega)] at ha
  exact ⟨a, ha⟩
 | @more α β f fs off X Y h ho hr ih =>
  intro cs hl hx
  have hl' : cs.length = off + (X.sz + Y.sz) := hl
  obtain ⟨x, h1⟩ := hx 0 f rfl
  rw [ho, h.cells] at h1
  obtain ⟨a, ha⟩ := h.o _ _ _ _ _ _ h1
  obtain ⟨b, hb⟩ := ih cs (by omega) (fun i f' hf => hx (i + 1) f' (by simpa using hf))
  refine ⟨(a, b), _, _, ?_, ha, hb⟩
  rw [← List.drop_drop, List.take_append_drop]
theorem opens_struct {α : Type} {fs : List Field} {X : GoT α} (hu : P.underlying t = some (.struct fs.toArray)) (hc : P.cellsOf t = X.sz) (hF : OpensF P α fs 0 X) : Opens P t X := ⟨hc, fun H enc W fuel cs x h => by
 obtain ⟨xs, n, rfl, _, hl, hn, hx⟩ := DataW.trod_struct hu h
 have := hF.open_ H enc W n cs (by rw [hl, hc]; omega) (fun i f hf => by
  have h1 := hx i f (by simpa using hf)
  have hi : i < xs.length := by
   rw [hn]
   rcases Nat.lt_or_ge i fs.toArray.size with h2 | h2
   ·exact h2
   ·rw [List.getElem?_eq_none (by simpa using h2)] at hf; cases hf
  rw [List.getElem?_eq_getElem hi] at h1
  exact ⟨_, h1⟩)
 simpa using this⟩
end
theorem open_agg {α : Type} {H : Type} {enc : TypeId × Value → H} {P : Program} {W : World} {base : Nat} {t : TypeId} {X : GoT α} (hX : Opens P t X) (hu : (∃ fs, P.underlying t = some (.struct fs)) ∨ ∃ n e, P.underlying t = some (.array n e)) {v : Value} {d : DataW H} {p : List MemPlace}
  (hok : Value.okWide P W .any base t v) (h : DataW.Trod enc P W 0 (fun _ => true) true t v d p) : ∃ (cs : List Value) (a : α), v = .agg cs.toArray ∧ X.R W cs a := by
 obtain ⟨fuel, hf⟩ := h
 obtain ⟨a, ha⟩ := hX.o _ _ _ _ _ _ hf
 have hv : ∃ cs, v = .agg cs := by
  rcases hu with ⟨fs, hu⟩ | ⟨n, e, hu⟩ <;> (simp only [Value.okWide, hu] at hok; obtain ⟨cs, rfl, _⟩ := hok; exact ⟨cs, rfl⟩)
 obtain ⟨cs, rfl⟩ := hv
 exact ⟨cs.toList, a, rfl, ha⟩
theorem open_slc {α : Type} {H : Type} {enc : TypeId × Value → H} {P : Program} {W : World} {base : Nat} {t e : TypeId} {X : GoT α} (hX : Opens P t X) (hu : P.underlying t = some (.slice e)) {v : Value} {d : DataW H} {p : List MemPlace}
  (hok : Value.okWide P W .any base t v) (h : DataW.Trod enc P W 0 (fun _ => true) true t v d p) : ∃ (a : α), X.R W [v] a := by
 obtain ⟨A, n, c, rfl⟩ := okWide_slice hu hok
 obtain ⟨fuel, hf⟩ := h
 exact hX.o _ _ _ _ _ _ hf
end Go.Proofs.YtahkeoegbjopfaaGreat
/-
  Strings: byte slices as strings, and the order of strings. No function of the program is named here.
-/
namespace Go.Proofs.YtahkeoegbjopfaaGreat
set_option maxRecDepth 100000
open Go.RowKit
def cmpL : List UInt8 → List UInt8 → Int
 | [], [] => 0
 | [], _ :: _ => -1
 | _ :: _, [] => 1
 | x :: a, y :: b => if x = y then cmpL a b else if x.toNat < y.toNat then -1 else 1
theorem cmpL_self : ∀ a : List UInt8, cmpL a a = 0
 | [] => rfl
 | x :: a => by simp [cmpL, cmpL_self a]
theorem cmpL_neg : ∀ a b : List UInt8, cmpL a b = -cmpL b a
 | [], [] => rfl
 | [], _ :: _ => rfl
 | _ :: _, [] => rfl
 | x :: a, y :: b => by
  by_cases h : x = y
  ·subst h; simp only [cmpL, if_true]; exact cmpL_neg a b
  ·have h2 : y ≠ x := fun e => h e.symm
   have h3 : x.toNat ≠ y.toNat := fun e => h (UInt8.toNat_inj.1 e)
   simp only [cmpL, if_neg h, if_neg h2]
   rcases Nat.lt_or_gt_of_ne h3 with h4 | h4
   ·rw [if_pos h4, if_neg (by omega)]
   ·rw [if_neg (by omega), if_pos h4]; rfl
theorem cmpL_zero : ∀ a b : List UInt8, cmpL a b = 0 ↔ a = b
 | [], [] => by simp [cmpL]
 | [], _ :: _ => by simp [cmpL]
 | _ :: _, [] => by simp [cmpL]
 | x :: a, y :: b => by
  by_cases h : x = y
  ·subst h; simp only [cmpL, if_true, cmpL_zero a b, List.cons.injEq, true_and]
  ·simp only [cmpL, if_neg h, List.cons.injEq, h, false_and, iff_false]
   by_cases h4 : x.toNat < y.toNat <;> simp [h4]
theorem cmpL_trans : ∀ a b c : List UInt8, cmpL a b < 0 → cmpL b c < 0 → cmpL a c < 0
 | [], _, [], h1, h2 => by
  rename_i b
  cases b with
  | nil => simp [cmpL] at h1
  | cons y b => simp [cmpL] at h2
 | [], _, _ :: _, _, _ => by simp [cmpL]
 | _ :: _, [], _, h1, _ => by simp [cmpL] at h1
 | _ :: _, _ :: _, [], _, h2 => by simp [cmpL] at h2
 | x :: a, y :: b, z :: c, h1, h2 => by
  simp only [cmpL] at h1 h2 ⊢
  by_cases h : x = y
  ·subst h
   rw [if_pos rfl] at h1
   by_cases h' : x = z
   ·subst h'; rw [if_pos rfl] at h2 ⊢; exact cmpL_trans a b c h1 h2
   ·rw [if_neg h'] at h2 ⊢; exact h2
  ·rw [if_neg h] at h1
   have h3 : x.toNat < y.toNat := by
    by_cases h3 : x.toNat < y.toNat
    ·exact h3
    ·rw [if_neg h3] at h1; exact absurd h1 (by decide)
   by_cases h' : y = z
   ·subst h'; rw [if_neg h, if_pos h3]; decide
   ·rw [if_neg h'] at h2
    have h4 : y.toNat < z.toNat := by
     by_cases h4 : y.toNat < z.toNat
     ·exact h4
     ·rw [if_neg h4] at h2; exact absurd h2 (by decide)
    have h5 : x ≠ z := fun e => by rw [e] at h3; omega
    rw [if_neg h5, if_pos (by omega)]; decide
section
variable {P : Program} {fn : Func} {F : Ending → World → Prop} {N : Nat} {ks : List K} {ops : Array Oper} {tg : Tags} {l : List Oper} {fr : Fr} {w w0 : World} {ty t t' xt : TypeId} {pos : String} {aft : Array Edge} {gd : Option (Nat × Bool)} {d : Nat} {x y : Operand} {s u : List UInt8}
theorem o_strU {A : Option Addr} {n c : Nat} {src e dst : TypeId} {l : List UInt8} (hs : P.underlying src = some (.slice e)) (he : P.underlying e = some (.int .u8)) (hd : P.underlying dst = some .string) (hx : fr.ev x = some (.slice A n c)) (hr : Rd w0 A l) (hb : Below w0.heap.size w0 w) (hn : n = l.length) :
  OpV P N fr w (.convert src dst x) ty (.string ⟨l.toArray⟩) w := o_str hs he hd hx hn (hr.below hb)
end
theorem u8w {n : Nat} (h : n < 256) : IntKind.u8.wrap (n : Int) = ((UInt8.ofNat n).toNat : Int) := by
 rw [UInt8.toNat_ofNat_of_lt' (by simpa using h)]
 exact u8_in (by omega) (by omega)
section
variable {fn : Func} {F : Ending → World → Prop} {N : Nat} {ks : List K} {ops : Array Oper} {tg : Tags} {l : List Oper} {fr : Fr} {w : World} {ty : TypeId} {pos : String} {aft : Array Edge} {gd : Option (Nat × Bool)} {d : Nat} {x y : Operand}
end
end Go.Proofs.YtahkeoegbjopfaaGreat
