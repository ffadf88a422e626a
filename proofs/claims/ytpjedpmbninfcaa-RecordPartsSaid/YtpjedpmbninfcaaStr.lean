/-
  Strings: byte slices as strings, and the order of strings. No function of the program is named here.
-/
import Derived.Test.YtpjedpmbninfcaaAuto
namespace Go.Proofs.Ytpjedpmbninfcaa
open Go.RowKit
/-- The order of byte strings. -/
def cmpL : List UInt8 → List UInt8 → Int
  | [], [] => 0
  | [], _ :: _ => -1
  | _ :: _, [] => 1
  | x :: a, y :: b => if x = y then cmpL a b else if x.toNat < y.toNat then -1 else 1
theorem cmpL_self : ∀ a : List UInt8, cmpL a a = 0
  | [] => rfl
  | x :: a => by simp [cmpL, cmpL_self a]
theorem cmpL_neg : ∀ a b : List UInt8, cmpL a b = -cmpL b a
  | [], [] => rfl
  | [], _ :: _ => rfl
  | _ :: _, [] => rfl
  | x :: a, y :: b => by
    by_cases h : x = y
    · subst h; simp only [cmpL, if_true]; exact cmpL_neg a b
    · have h2 : y ≠ x := fun e => h e.symm
      have h3 : x.toNat ≠ y.toNat := fun e => h (UInt8.toNat_inj.1 e)
      simp only [cmpL, if_neg h, if_neg h2]
      rcases Nat.lt_or_gt_of_ne h3 with h4 | h4
      · rw [if_pos h4, if_neg (by omega)]
      · rw [if_neg (by omega), if_pos h4]; rfl
theorem cmpL_zero : ∀ a b : List UInt8, cmpL a b = 0 ↔ a = b
  | [], [] => by simp [cmpL]
  | [], _ :: _ => by simp [cmpL]
  | _ :: _, [] => by simp [cmpL]
  | x :: a, y :: b => by
    by_cases h : x = y
    · subst h; simp only [cmpL, if_true, cmpL_zero a b, List.cons.injEq, true_and]
    · simp only [cmpL, if_neg h, List.cons.injEq, h, false_and, iff_false]
      by_cases h4 : x.toNat < y.toNat <;> simp [h4]
theorem cmpL_one : ∀ a b : List UInt8, cmpL a b = -1 ∨ cmpL a b = 0 ∨ cmpL a b = 1
  | [], [] => by simp [cmpL]
  | [], _ :: _ => by simp [cmpL]
  | _ :: _, [] => by simp [cmpL]
  | x :: a, y :: b => by
    by_cases h : x = y
    · subst h; simp only [cmpL, if_true]; exact cmpL_one a b
    · simp only [cmpL, if_neg h]; split <;> simp
theorem cmpL_trans : ∀ a b c : List UInt8, cmpL a b < 0 → cmpL b c < 0 → cmpL a c < 0
  | [], _, [], h1, h2 => by
    rename_i b
    cases b with
    | nil => simp [cmpL] at h1
    | cons y b => simp [cmpL] at h2
  | [], _, _ :: _, _, _ => by simp [cmpL]
  | _ :: _, [], _, h1, _ => by simp [cmpL] at h1
  | _ :: _, _ :: _, [], _, h2 => by simp [cmpL] at h2
  | x :: a, y :: b, z :: c, h1, h2 => by
    simp only [cmpL] at h1 h2 ⊢
    by_cases h : x = y
    · subst h
      rw [if_pos rfl] at h1
      by_cases h' : x = z
      · subst h'; rw [if_pos rfl] at h2 ⊢; exact cmpL_trans a b c h1 h2
      · rw [if_neg h'] at h2 ⊢; exact h2
    · rw [if_neg h] at h1
      have h3 : x.toNat < y.toNat := by
        by_cases h3 : x.toNat < y.toNat
        · exact h3
        · rw [if_neg h3] at h1; exact absurd h1 (by decide)
      by_cases h' : y = z
      · subst h'; rw [if_neg h, if_pos h3]; decide
      · rw [if_neg h'] at h2
        have h4 : y.toNat < z.toNat := by
          by_cases h4 : y.toNat < z.toNat
          · exact h4
          · rw [if_neg h4] at h2; exact absurd h2 (by decide)
        have h5 : x ≠ z := fun e => by rw [e] at h3; omega
        rw [if_neg h5, if_pos (by omega)]; decide
theorem bytesLess_iff : ∀ a b : List UInt8, (Op.bytesLess a b = true) = (cmpL a b < 0)
  | [], [] => by simp [cmpL, Op.bytesLess]
  | [], _ :: _ => by simp [cmpL, Op.bytesLess]
  | _ :: _, [] => by simp [cmpL, Op.bytesLess]
  | x :: a, y :: b => by
    have ih := bytesLess_iff a b
    simp only [cmpL, Op.bytesLess, Bool.or_eq_true, Bool.and_eq_true, beq_iff_eq, decide_eq_true_eq, ih]
    by_cases h : x = y
    · subst h; simp [UInt8.lt_irrefl]
    · simp only [h, false_and, or_false, if_false]
      rw [UInt8.lt_iff_toNat_lt]
      by_cases h3 : x.toNat < y.toNat <;> simp [h3]
theorem bytesLess_eq (a b : List UInt8) : Op.bytesLess a b = decide (cmpL a b < 0) := by
  rw [Bool.eq_iff_iff, bytesLess_iff]; simp
section
variable {P : Program} {fn : Func} {F : Ending → World → Prop} {N : Nat} {ks : List K} {ops : Array Oper} {tg : Tags} {l : List Oper} {fr : Fr} {w w0 : World} {ty t t' xt : TypeId} {pos : String} {aft : Array Edge} {gd : Option (Nat × Bool)} {d : Nat} {x y : Operand} {s u : List UInt8}
--@ rule convert r o_strU
theorem o_strU {A : Option Addr} {n c : Nat} {src e dst : TypeId} {l : List UInt8} (hs : P.underlying src = some (.slice e)) (he : P.underlying e = some (.int .u8)) (hd : P.underlying dst = some .string) (hx : fr.ev x = some (.slice A n c)) (hr : Rd w0 A l) (hb : Below w0.heap.size w0 w) (hn : n = l.length) :
    OpV P N fr w (.convert src dst x) ty (.string ⟨l.toArray⟩) w := o_str hs he hd hx hn (hr.below hb)
theorem o_neg64 {n : Int} (hx : fr.ev x = some (.int .i64 n)) (h1 : -9223372036854775807 ≤ n) (h2 : n ≤ 9223372036854775807) : OpV P N fr w (.unOp .neg t x) ty (.int .i64 (-n)) w := fun a ha o ho _ => by
  have e : IntKind.i64.wrap (-n) = -n := i64_in (by omega) (by omega)
  simp [execOp, ho, ha.ev hx, Op.unary, Op.intArith, e]
theorem o_slss (hx : fr.ev x = some (.string ⟨s.toArray⟩)) (hy : fr.ev y = some (.string ⟨u.toArray⟩)) : OpV P N fr w (.binOp .lss t x y t') ty (.bool (decide (cmpL s u < 0))) w :=
  o_bin hx hy (fun _ _ => by simp [go_sem]) (by rw [← bytesLess_eq]; simp [go_sem])
theorem o_sleq (hx : fr.ev x = some (.string ⟨s.toArray⟩)) (hy : fr.ev y = some (.string ⟨u.toArray⟩)) : OpV P N fr w (.binOp .leq t x y t') ty (.bool (decide (cmpL s u ≤ 0))) w :=
  o_bin hx hy (fun _ _ => by simp [go_sem]) (by
    have : (binOp .leq t (.string ⟨s.toArray⟩) (.string ⟨u.toArray⟩)).run P w = .ok (.bool (Op.bytesLess s u || s == u)) w := by simp [go_sem]
    rw [this]; congr 2; rw [Bool.eq_iff_iff]
    simp only [Bool.or_eq_true, bytesLess_iff, beq_iff_eq, decide_eq_true_eq, ← cmpL_zero]; omega)
theorem o_sgtr (hx : fr.ev x = some (.string ⟨s.toArray⟩)) (hy : fr.ev y = some (.string ⟨u.toArray⟩)) : OpV P N fr w (.binOp .gtr t x y t') ty (.bool (decide (0 < cmpL s u))) w :=
  o_bin hx hy (fun _ _ => by simp [go_sem]) (by
    have : (binOp .gtr t (.string ⟨s.toArray⟩) (.string ⟨u.toArray⟩)).run P w = .ok (.bool (!(Op.bytesLess s u || s == u))) w := by simp [go_sem]
    rw [this]; congr 2; rw [Bool.eq_iff_iff]
    rw [Bool.not_eq_true', ← Bool.not_eq_true, Bool.or_eq_true]
    simp only [bytesLess_iff, beq_iff_eq, decide_eq_true_eq, ← cmpL_zero]; omega)
theorem o_sgeq (hx : fr.ev x = some (.string ⟨s.toArray⟩)) (hy : fr.ev y = some (.string ⟨u.toArray⟩)) : OpV P N fr w (.binOp .geq t x y t') ty (.bool (decide (0 ≤ cmpL s u))) w :=
  o_bin hx hy (fun _ _ => by simp [go_sem]) (by
    have : (binOp .geq t (.string ⟨s.toArray⟩) (.string ⟨u.toArray⟩)).run P w = .ok (.bool (!(Op.bytesLess s u))) w := by simp [go_sem]
    rw [this]; congr 2; rw [Bool.eq_iff_iff]
    rw [Bool.not_eq_true', ← Bool.not_eq_true]
    simp only [bytesLess_iff, decide_eq_true_eq]; omega)
end
theorem Try.rowB : RowT Try.prog 26 5 (.int .u8 0) 1 1 := ⟨Try.underlying26, by kernel_rfl, rfl, by omega⟩
theorem u8w {n : Nat} (h : n < 256) : IntKind.u8.wrap (n : Int) = ((UInt8.ofNat n).toNat : Int) := by
  rw [UInt8.toNat_ofNat_of_lt' (by simpa using h)]
  exact u8_in (by omega) (by omega)
section
variable {fn : Func} {F : Ending → World → Prop} {N : Nat} {ks : List K} {ops : Array Oper} {tg : Tags} {l : List Oper} {fr : Fr} {w : World} {ty : TypeId} {pos : String} {aft : Array Edge} {gd : Option (Nat × Bool)} {d : Nat} {x y : Operand}
--@ rule append l wl_appB0
theorem wl_appB0 {X : Option Addr} {j q : Nat} {m : List UInt8} (hx : fr.ev x = some (.slice none 0 0)) (hy : fr.ev y = some (.slice X j q)) (hr : Rd w X m) (hj : j = m.length) (hlen : m.length ≤ 4000000000)
    (h : ∀ A' c' w', OwnH w' w.heap.size w'.heap.size A' c' m → Below w.heap.size w w' → WL Try.prog fn F N ks ops tg.tail l ((d, .slice A' m.length c') :: fr) w')
    (ht : tg.loud = true := by rfl) (hg : onG ops fr gd = true := by rfl) (hd : Nat.blt d N = true := by rfl) :
    WL Try.prog fn F N ks ops tg (⟨some d, .call { callee := .builtin .append, args := #[x, y], argTypes := #[26, 26] }, ty, pos, aft, gd⟩ :: l) fr w := by
  subst hj
  exact wl_appR0 (hi := 0) Try.rowB hx (RowH.nil _ _ _ _ _) hy hr (B8_oneCell m) (by simp only [maxLen]; omega) (by omega) (Nat.le_refl _) h ht hg hd
end
end Go.Proofs.Ytpjedpmbninfcaa
