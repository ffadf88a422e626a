/-
  Walks of package sha: roots.
-/
import Derived.Test.YtpjedpmbninfcaaShelf
import Derived.Test.YtpjedpmbninfcaaAarr
import Derived.Test.YtpjedpmbninfcaaAconv
import Derived.Test.YtpjedpmbninfcaaRs
import Derived.Test.YtpjedpmbninfcaaShP
import Derived.Test.YtpjedpmbninfcaaGo
import Derived.Laws.Externs
namespace Go.Proofs.Ytpjedpmbninfcaa
open Go.RowKit
section
variable {fn : Func} {N : Nat} {fr : Fr} {w : World} {ty : TypeId} {x y z : Operand} {ts : Array TypeId}
end
theorem C_Mul64 {x y : Nat} (w : World) (hx : x < 18446744073709551616) (hy : y < 18446744073709551616) : CallsR Try.prog 53 [.int .u64 (x : Int), .int .u64 (y : Int)] w fun v w' => v = .tuple #[.int .u64 ((x * y / 18446744073709551616 : Nat) : Int), .int .u64 ((x * y % 18446744073709551616 : Nat) : Int)] ∧ w' = w := by
  refine ⟨⟨_, Try.func53, rfl, by kernel_rfl⟩, ?_⟩
  refine (Try.bits_Mul64 x y hx hy w).mono ?_
  rintro e w' ⟨rfl, rfl⟩
  exact ⟨_, rfl, rfl, rfl⟩
def vN (l : List Nat) : List Value := l.map fun x : Nat => .int .u64 (x : Int)
section
variable {fn : Func} {F : Ending → World → Prop} {N : Nat} {ks : List K} {ops : Array Oper} {tg : Tags} {l : List Oper} {fr : Fr} {w : World} {ty t t' e e2 : TypeId} {z v : Value} {pos : String} {aft : Array Edge} {gd : Option (Nat × Bool)} {d n g i a : Nat} {x y : Operand} {P : Program}
theorem vN_length (l : List Nat) : (vN l).length = l.length := List.length_map ..
theorem vN_one (l : List Nat) : ∀ v ∈ vN l, v.oneCell' = true := fun v h => by
  obtain ⟨x, _, rfl⟩ := List.mem_map.1 h; rfl
--@ rule load r o_ldN
theorem o_ldN {c : List Nat} (ha' : ∀ w, (isAgg t).run P w = .ok false w) (hx : fr.ev x = some (.pointer (some ⟨g, i, none⟩))) (hB : Blk w g t' (vN c)) (hi : i < c.length) : OpV P N fr w (.load t x) ty (.int .u64 (c[i] : Int)) w :=
  o_loadb ha' hx hB (by unfold vN; rw [List.getElem?_map, List.getElem?_eq_getElem hi]; rfl)
--@ rule load r o_ldNa
theorem o_ldNa {c : List Nat} (ha' : ∀ w, (isAgg t).run P w = .ok true w) (hs : ∀ w, (sizeOf t).run P w = .ok n w) (hx : fr.ev x = some (.pointer (some ⟨g, 0, none⟩))) (hB : Blk w g t' (vN c)) (hn : c.length = n) : OpV P N fr w (.load t x) ty (.agg (vN c).toArray) w :=
  o_load_all ha' hs hx hB (by rw [vN_length, hn])
--@ rule store l wl_stN
theorem wl_stN {c : List Nat} (hs : ∀ w, (sizeOf t).run P w = .ok 1 w) (hx : fr.ev x = some (.pointer (some ⟨g, i, none⟩))) (hB : Blk w g t' (vN c)) (hy : fr.ev y = some (.int .u64 (a : Int))) (hi : i < c.length)
    (hk : ∀ w', Blk w' g t' (vN (c.set i a)) → Grew w w' t' (some g) → w'.heap.size = w.heap.size → WL P fn F N ks ops tg.tail l fr w') (ht : tg.loud = true := by rfl) (hg : onG ops fr gd = true := by rfl) (hq : tg.calm = false ∨ tg.rw.may (some g) := by exact .inl rfl) :
    WL P fn F N ks ops tg (⟨none, .store t x y, ty, pos, aft, gd⟩ :: l) fr w :=
  wl_storeg1 hs hx hy rfl hB (by rw [vN_length]; exact hi) (fun w' h1 h2 h3 => hk w' (by unfold vN at h1 ⊢; rw [List.map_set]; exact h1) h2 h3) ht hg hq
--@ rule store l wl_stNa
theorem wl_stNa {c q : List Nat} (hs : ∀ w, (sizeOf t).run P w = .ok n w) (hx : fr.ev x = some (.pointer (some ⟨g, 0, none⟩))) (hB : Blk w g t' (vN c)) (hy : fr.ev y = some (.agg (vN q).toArray)) (hq' : q.length = n) (hi : c.length = n)
    (hk : ∀ w', Blk w' g t' (vN q) → Grew w w' t' (some g) → w'.heap.size = w.heap.size → WL P fn F N ks ops tg.tail l fr w') (ht : tg.loud = true := by rfl) (hg : onG ops fr gd = true := by rfl) (hq : tg.calm = false ∨ tg.rw.may (some g) := by exact .inl rfl) :
    WL P fn F N ks ops tg (⟨none, .store t x y, ty, pos, aft, gd⟩ :: l) fr w :=
  wl_storega hs hx hy (by rw [vN_length, hq']) (vN_one q) hB (by rw [vN_length, hi]) hk ht hg hq
end
/-- Four words. -/
structure W4 (l : List Nat) : Prop where
  len : l.length = 4
  lt : ∀ x ∈ l, x < 18446744073709551616
theorem W4_times {l : List Nat} (hl : W4 l) (b s : Nat) (hs : s ≤ 1) : W4 (List.replicate s 0 ++ mulL (l.take (4 - s)) b 0) := by
  refine ⟨by simp only [List.length_append, List.length_replicate, mulL_length, List.length_take, hl.len]; omega, fun x hx => ?_⟩
  rcases List.mem_append.1 hx with h | h
  · rw [List.eq_of_mem_replicate h]; decide
  · exact mulL_lt _ _ _ x h
theorem W4_plus {l r : List Nat} (hl : W4 l) (hr : W4 r) : W4 (addL l r 0) := ⟨by rw [addL_length _ _ _ (by rw [hl.len, hr.len])]; exact hl.len, addL_lt _ _ _⟩
/-- One factor more. -/
def pstep (h low : Nat) (l : List Nat) : List Nat := addL (List.replicate 0 0 ++ mulL (l.take (4 - 0)) low 0) (List.replicate 1 0 ++ mulL (l.take (4 - 1)) h 0) 0
def pows (h low : Nat) : Nat → List Nat
  | 0 => [1, 0, 0, 0]
  | n + 1 => pstep h low (pows h low n)
theorem W4_pows (h low : Nat) : ∀ n, W4 (pows h low n)
  | 0 => ⟨rfl, fun x hx => by simp only [pows, List.mem_cons, List.not_mem_nil, or_false] at hx; omega⟩
  | n + 1 => W4_plus (W4_times (W4_pows h low n) _ _ (by decide)) (W4_times (W4_pows h low n) _ _ (by decide))
--@ side (W4_times (by assumption) _ _ (by omega))
theorem four {l : List Nat} (hl : W4 l) : ∃ a b c d, l = [a, b, c, d] ∧ a < 18446744073709551616 ∧ b < 18446744073709551616 ∧ c < 18446744073709551616 ∧ d < 18446744073709551616 := by
  obtain ⟨h1, h2⟩ := hl
  match l, h1 with
  | [a, b, c, d], _ => exact ⟨a, b, c, d, rfl, h2 a (by simp), h2 b (by simp), h2 c (by simp), h2 d (by simp)⟩
theorem atMost_high {l : List Nat} {n k : Nat} (hl : W4 l) (hn : n < 18446744073709551616) (h2 : 2 ≤ k) (h3 : k ≤ 3) {j : Nat} (hj : j < l.length) (hkj : k < j) (h0 : 0 < l[j]) : ¬ val l ≤ n * 18446744073709551616 ^ k := by
  obtain ⟨a, b, c, d, rfl, ha, hb, hc, hd⟩ := four hl
  simp at hj
  obtain ⟨rfl, rfl⟩ : j = 3 ∧ k = 2 := by omega
  simp only [List.getElem_cons_succ, List.getElem_cons_zero] at h0
  simp only [val]
  omega
theorem atMost_mid {l : List Nat} {n k : Nat} (hl : W4 l) (h2 : 2 ≤ k) (h3 : k ≤ 3) (hk : k < l.length) (hz : ∀ j (hj : j < l.length), k < j → l[j] = 0) (hne : l[k] ≠ n) : l[k] < n ↔ val l ≤ n * 18446744073709551616 ^ k := by
  obtain ⟨a, b, c, d, rfl, ha, hb, hc, hd⟩ := four hl
  have h3' := hz 3 (by simp)
  rcases (show k = 2 ∨ k = 3 by omega) with rfl | rfl
  · simp only [List.getElem_cons_succ, List.getElem_cons_zero] at h3' hne ⊢
    have := h3' (by omega)
    simp only [val]
    omega
  · simp only [List.getElem_cons_succ, List.getElem_cons_zero] at hne ⊢
    simp only [val]
    omega
theorem atMost_low {l : List Nat} {n k : Nat} (hl : W4 l) (h2 : 2 ≤ k) (h3 : k ≤ 3) {j : Nat} (hk : k < l.length) (hj : j < l.length) (hz : ∀ j (hj : j < l.length), k < j → l[j] = 0) (he : l[k] = n) (hjk : j < k) (h0 : 0 < l[j]) : ¬ val l ≤ n * 18446744073709551616 ^ k := by
  obtain ⟨a, b, c, d, rfl, ha, hb, hc, hd⟩ := four hl
  have h3' := hz 3 (by simp)
  rcases (show k = 2 ∨ k = 3 by omega) with rfl | rfl
  · rcases (show j = 0 ∨ j = 1 by omega) with rfl | rfl <;>
    · simp only [List.getElem_cons_succ, List.getElem_cons_zero] at h3' he h0
      simp only [val]
      omega
  · rcases (show j = 0 ∨ j = 1 ∨ j = 2 by omega) with rfl | rfl | rfl <;>
    · simp only [List.getElem_cons_succ, List.getElem_cons_zero] at he h0
      simp only [val]
      omega
theorem atMost_eq {l : List Nat} {n k : Nat} (hl : W4 l) (h2 : 2 ≤ k) (h3 : k ≤ 3) (hk : k < l.length) (hz : ∀ j (hj : j < l.length), k < j → l[j] = 0) (he : l[k] = n) (hlow : ∀ j (hj : j < l.length), j < k → l[j] = 0) : val l ≤ n * 18446744073709551616 ^ k := by
  obtain ⟨a, b, c, d, rfl, ha, hb, hc, hd⟩ := four hl
  have h3' := hz 3 (by simp)
  have h0 := hlow 0 (by simp)
  have h1 := hlow 1 (by simp)
  have h2' := hlow 2 (by simp)
  simp only [List.getElem_cons_succ, List.getElem_cons_zero] at h0 h1 h2' h3'
  rcases (show k = 2 ∨ k = 3 by omega) with rfl | rfl
  · simp only [List.getElem_cons_succ, List.getElem_cons_zero] at he
    simp only [val]
    omega
  · simp only [List.getElem_cons_succ, List.getElem_cons_zero] at he
    simp only [val]
    omega
/-! The powers, as numbers. -/
theorem val_pows {h low k : Nat} (hh : h < 65536) (hl : low < 18446744073709551616) (hk : k ≤ 3) : val (pows h low k) = (h * 18446744073709551616 + low) ^ k := by
  have hx : h * 18446744073709551616 + low < 2 ^ 80 := by omega
  suffices ∀ i, i ≤ k → val (pows h low i) = (h * 18446744073709551616 + low) ^ i from this k (Nat.le_refl _)
  intro i hi
  induction i with
  | zero => simp [pows, val]
  | succ i ih =>
    have ih := ih (by omega)
    obtain ⟨a, b, c, d, he, ha, hb, hc, hd⟩ := four (W4_pows h low i)
    have hle : (h * 18446744073709551616 + low) ^ i ≤ (2 ^ 80) ^ 2 := Nat.le_trans (Nat.pow_le_pow_left (by omega) i) (Nat.pow_le_pow_right (by decide) (by omega))
    have hd0 : d = 0 := by
      rw [he] at ih; simp only [val] at ih; omega
    have hv : val [a, b, c, d] = (h * 18446744073709551616 + low) ^ i := by rw [← he]; exact ih
    have hv3 : val [a, b, c] = (h * 18446744073709551616 + low) ^ i := by rw [← hv, hd0]; simp [val]
    have hb1 : val [a, b, c, d] * low ≤ (2 ^ 80) ^ 2 * 18446744073709551616 := by rw [hv]; exact Nat.mul_le_mul hle (by omega)
    have hb2 : val [a, b, c] * h ≤ (2 ^ 80) ^ 2 * 65536 := by rw [hv3]; exact Nat.mul_le_mul hle (by omega)
    have e1 : val (mulL [a, b, c, d] low 0) = val [a, b, c, d] * low := by
      rw [val_mulL' (by show _ < 18446744073709551616 ^ 4; omega)]; omega
    have e2 : val (mulL [a, b, c] h 0) = val [a, b, c] * h := by
      rw [val_mulL' (by show _ < 18446744073709551616 ^ 3; omega)]; omega
    show val (pstep h low (pows h low i)) = _
    unfold pstep
    rw [he]
    show val (addL ([] ++ mulL [a, b, c, d] low 0) ([0] ++ mulL [a, b, c] h 0) 0) = _
    have e3 : val ([0] ++ mulL [a, b, c] h 0) = 18446744073709551616 * (val [a, b, c] * h) := by
      rw [val_append, e2]; simp [val]
    have e4 : val ([] ++ mulL [a, b, c, d] low 0) = val [a, b, c, d] * low := e1
    rw [val_addL' (by simp [mulL_length]) (by rw [e3, e4]; show _ < 18446744073709551616 ^ 4; omega), e3, e4, hv, hv3, Nat.pow_succ, Nat.mul_add]
    rw [Nat.add_zero, Nat.add_comm, Nat.mul_comm h 18446744073709551616, Nat.mul_left_comm]
theorem low_bit {x b : Nat} (h : x % 2 ^ (b + 1) = 0) : x ||| 2 ^ b = x + 2 ^ b := by
  obtain ⟨q, rfl⟩ := Nat.dvd_of_mod_eq_zero h
  exact (Nat.two_pow_add_eq_or_of_lt (Nat.pow_lt_pow_right (by decide) (by omega)) q).symm
theorem or_bit {x b : Nat} (hx : x < 18446744073709551616) (hb : b < 64) (h : x % 2 ^ (b + 1) = 0) (z : Int) (hz : z = b) : bits .or .u64 (x : Int) (IntKind.u64.wrap (1 * 2 ^ min z.toNat IntKind.u64.bits)) = ((x + 2 ^ b : Nat) : Int) := by
  subst hz
  have h1 : 2 ^ b < 18446744073709551616 := Nat.lt_of_lt_of_le (Nat.pow_lt_pow_right (by decide) hb) (by decide : 2 ^ 64 ≤ 18446744073709551616)
  have h2 : IntKind.u64.wrap (1 * 2 ^ min (b : Int).toNat IntKind.u64.bits) = ((2 ^ b : Nat) : Int) := by
    rw [show min (b : Int).toNat IntKind.u64.bits = b by show min (b : Int).toNat 64 = b; omega, IntKind.wrap_u64]
    have : ((2 : Int) ^ b) = ((2 ^ b : Nat) : Int) := by simp
    rw [this]; omega
  rw [h2, bits_or_u64_nat _ _ hx h1, low_bit h]
theorem top_room {x b : Nat} (hx : x < 2 ^ 80) (hb : b ≤ 80) (h : x % 2 ^ b = 0) : x + 2 ^ b ≤ 2 ^ 80 := by
  obtain ⟨q, rfl⟩ := Nat.dvd_of_mod_eq_zero h
  have e : (2 : Nat) ^ 80 = 2 ^ b * 2 ^ (80 - b) := by rw [← Nat.pow_add]; congr 1; omega
  rw [e] at hx ⊢
  have : q < 2 ^ (80 - b) := Nat.lt_of_mul_lt_mul_left hx
  calc 2 ^ b * q + 2 ^ b = 2 ^ b * (q + 1) := by rw [Nat.mul_add, Nat.mul_one]
    _ ≤ 2 ^ b * 2 ^ (80 - b) := Nat.mul_le_mul_left _ this
theorem mod_add {x b : Nat} (h : x % 2 ^ (b + 1) = 0) : (x + 2 ^ b) % 2 ^ b = 0 ∧ x % 2 ^ b = 0 := by
  obtain ⟨q, rfl⟩ := Nat.dvd_of_mod_eq_zero h
  have e : 2 ^ (b + 1) * q = 2 ^ b * (2 * q) := by rw [Nat.pow_succ, Nat.mul_assoc]
  rw [e, Nat.mul_mod_right]
  exact ⟨by rw [Nat.add_mod, Nat.mul_mod_right, Nat.mod_self]; rfl, rfl⟩
theorem parts_hi {x b : Nat} (hb : 64 ≤ b) (h : x % 2 ^ (b + 1) = 0) : x % 18446744073709551616 = 0 ∧ (x / 18446744073709551616) % 2 ^ (b - 64 + 1) = 0 ∧ (x + 2 ^ b) / 18446744073709551616 = x / 18446744073709551616 + 2 ^ (b - 64) ∧ (x + 2 ^ b) % 18446744073709551616 = x % 18446744073709551616 := by
  obtain ⟨q, rfl⟩ := Nat.dvd_of_mod_eq_zero h
  have e : (2 : Nat) ^ (b + 1) = 18446744073709551616 * 2 ^ (b - 64 + 1) := by
    rw [show 18446744073709551616 = 2 ^ 64 from rfl, ← Nat.pow_add]; congr 1; omega
  have e2 : (2 : Nat) ^ b = 18446744073709551616 * 2 ^ (b - 64) := by
    rw [show 18446744073709551616 = 2 ^ 64 from rfl, ← Nat.pow_add]; congr 1; omega
  rw [e, e2, Nat.mul_assoc]
  refine ⟨Nat.mul_mod_right _ _, by rw [Nat.mul_div_cancel_left _ (by decide)]; exact Nat.mul_mod_right _ _, ?_, ?_⟩
  · rw [← Nat.mul_add, Nat.mul_div_cancel_left _ (by decide), Nat.mul_div_cancel_left _ (by decide)]
  · rw [← Nat.mul_add, Nat.mul_mod_right, Nat.mul_mod_right]
theorem parts_lo {x b : Nat} (hb : b < 64) (h : x % 2 ^ (b + 1) = 0) : (x % 18446744073709551616) % 2 ^ (b + 1) = 0 ∧ (x + 2 ^ b) / 18446744073709551616 = x / 18446744073709551616 ∧ (x + 2 ^ b) % 18446744073709551616 = x % 18446744073709551616 + 2 ^ b := by
  have e : 18446744073709551616 = 2 ^ (b + 1) * 2 ^ (63 - b) := by
    rw [show 18446744073709551616 = 2 ^ 64 from rfl, ← Nat.pow_add]; congr 1; omega
  have h1 : (x % 18446744073709551616) % 2 ^ (b + 1) = 0 := by rw [e, Nat.mod_mul_right_mod]; exact h
  have h2 : x % 18446744073709551616 + 2 ^ b < 18446744073709551616 := by
    obtain ⟨q, hq⟩ := Nat.dvd_of_mod_eq_zero h1
    have h3 : x % 18446744073709551616 < 18446744073709551616 := Nat.mod_lt _ (by decide)
    have h4 : 2 ^ (b + 1) * q < 2 ^ (b + 1) * 2 ^ (63 - b) := by rw [← hq, ← e]; exact h3
    have h5 : q < 2 ^ (63 - b) := Nat.lt_of_mul_lt_mul_left h4
    have h6 : 2 ^ (b + 1) * (q + 1) ≤ 2 ^ (b + 1) * 2 ^ (63 - b) := Nat.mul_le_mul_left _ h5
    rw [← e, Nat.mul_add, ← hq] at h6
    have h7 : 2 ^ b < 2 ^ (b + 1) := Nat.pow_lt_pow_right (by decide) (by omega)
    omega
  refine ⟨h1, ?_, ?_⟩ <;> omega
end Go.Proofs.Ytpjedpmbninfcaa
