/-
  Plans between orders, in plain terms: what From keeps, where it leads; no other plan does so.
-/
import Derived.Test.YtbncaabcddoicaaReoM
namespace Go.Proofs.Ytbncaabcddoicaa
open Go.RowKit

theorem common_take : ∀ a b : List Dg, a.take (common a b) = b.take (common a b)
  | [], b => by simp [common]
  | _ :: _, [] => by simp [common]
  | x :: a, y :: b => by
    simp only [common]
    split
    · rename_i h
      rw [List.take_succ_cons, List.take_succ_cons, h, common_take a b]
    · rfl
theorem common_heads : ∀ a b : List Dg, heads (a.drop (common a b)) (b.drop (common a b)) = false
  | [], b => by simp [common, heads]
  | _ :: _, [] => by simp [common, heads]
  | x :: a, y :: b => by
    simp only [common]
    split
    · rw [List.drop_succ_cons, List.drop_succ_cons]; exact common_heads a b
    · rename_i h
      simp [heads, h]
theorem common_comm : ∀ a b : List Dg, common a b = common b a
  | [], [] => rfl
  | [], _ :: _ => by simp [common]
  | _ :: _, [] => by simp [common]
  | x :: a, y :: b => by
    simp only [common]
    rw [common_comm a b]
    by_cases h : x = y
    · rw [if_pos h, if_pos h.symm]
    · rw [if_neg h, if_neg (fun e => h e.symm)]
theorem heads_lt : ∀ (k : Nat) (a b : List Dg), k < common a b → heads (a.drop k) (b.drop k) = true
  | _, [], b, h => by simp [common] at h
  | _, _ :: _, [], h => by simp [common] at h
  | 0, x :: a, y :: b, h => by
    simp only [common] at h
    split at h
    · rename_i e; simp [heads, e]
    · omega
  | k + 1, x :: a, y :: b, h => by
    simp only [common] at h
    split at h
    · rw [List.drop_succ_cons, List.drop_succ_cons]; exact heads_lt k a b (by omega)
    · omega
theorem common_of : ∀ (k : Nat) (a d : List Dg), k ≤ a.length → heads (a.drop k) d = false → common a (a.take k ++ d) = k
  | 0, a, d, _, h => by
    rw [List.take_zero, List.nil_append]
    cases a with
    | nil => simp [common]
    | cons x a => cases d with
      | nil => simp [common]
      | cons y d => simp only [List.drop_zero, heads, decide_eq_false_iff_not] at h; simp [common, h]
  | k + 1, [], d, hk, _ => by simp at hk
  | k + 1, x :: a, d, hk, h => by
    rw [List.take_succ_cons, List.cons_append]
    simp only [common, if_true]
    rw [common_of k a d (by simpa using hk) (by simpa using h)]

/-- The plan of From. -/
def fromP (a b : List Dg) : Pl := ⟨(common a b : Nat), a.drop (common a b), b.drop (common a b)⟩
theorem from_eq {a b : List Dg} (ha : uniq a = true) (hb : uniq b = true) : pFrom a b = (⟨(common a b : Nat), a.drop (common a b), b.drop (common a b)⟩, 0) := by
  unfold pFrom
  rw [if_pos (by simp [ha, hb])]
theorem uniq_drop {a : List Dg} (h : uniq a = true) (n : Nat) : uniq (a.drop n) = true := by
  rw [uniq_iff] at h ⊢
  exact h.sublist (List.drop_sublist n a)
theorem from_ok {a b : List Dg} (ha : uniq a = true) (hb : uniq b = true) : pBad ⟨(common a b : Nat), a.drop (common a b), b.drop (common a b)⟩ = false := by
  unfold pBad
  simp only [uniq_drop ha, uniq_drop hb, common_heads, Bool.not_true, Bool.or_false, decide_eq_false_iff_not]
  omega
theorem from_leads {a b : List Dg} (ha : uniq a = true) (hb : uniq b = true) : pApply ⟨(common a b : Nat), a.drop (common a b), b.drop (common a b)⟩ a = (b, 0) := by
  have hle := common_le a b
  rw [pApply_ok (from_ok ha hb) (pFits_iff.2 ⟨hle.1, rfl, fun q hq hin => ?_⟩)]
  · simp only [Int.toNat_natCast]
    rw [common_take, List.take_append_drop]
  · rw [common_take] at hin
    rw [uniq_iff, ← List.take_append_drop (common a b) b, List.nodup_append] at hb
    exact hb.2.2 q hin q hq rfl
theorem from_back {a b : List Dg} (ha : uniq a = true) (hb : uniq b = true) : pBack ⟨(common a b : Nat), a.drop (common a b), b.drop (common a b)⟩ = (⟨(common b a : Nat), b.drop (common b a), a.drop (common b a)⟩, 0) := by
  unfold pBack
  rw [if_neg (by rw [from_ok ha hb]; simp), common_comm b a]
theorem from_then {a b c : List Dg} (ha : uniq a = true) (hb : uniq b = true) (hc : uniq c = true) :
    pThen ⟨(common a b : Nat), a.drop (common a b), b.drop (common a b)⟩ ⟨(common b c : Nat), b.drop (common b c), c.drop (common b c)⟩ a = (⟨(common a c : Nat), a.drop (common a c), c.drop (common a c)⟩, 0) := by
  unfold pThen
  rw [from_leads ha hb, if_neg (by simp)]
  simp only
  rw [from_leads hb hc, if_neg (by simp)]
  exact from_eq ha hc
/-- A plan that leads from a to b is that of From. -/
theorem from_only {p : Pl} {a b : List Dg} (h : pApply p a = (b, 0)) : p = ⟨(common a b : Nat), a.drop (common a b), b.drop (common a b)⟩ := by
  cases hb : pBad p with
  | true => simp [pApply, hb] at h
  | false =>
    cases hf : pFits p a with
    | false => rw [pApply_no hb hf] at h; simp at h
    | true =>
      have hk := pBad_keep hb
      obtain ⟨k, L, M⟩ := p
      obtain ⟨n, rfl⟩ := Int.eq_ofNat_of_zero_le hk
      rw [pApply_ok hb hf] at h
      simp only [Int.toNat_natCast, Prod.mk.injEq, and_true] at h
      obtain ⟨h1, h2, h3⟩ := pFits_iff.1 hf
      have hh : heads L M = false := by
        unfold pBad at hb
        simp only [Bool.or_eq_false_iff] at hb
        exact hb.2
      have hc : common a b = n := by
        rw [← h]
        exact common_of n a M h1 (by rw [h2]; exact hh)
      rw [hc, h2, ← h]
      congr 1
      rw [List.drop_append_of_le_length (by rw [List.length_take]; omega), List.drop_of_length_le (by rw [List.length_take]; omega), List.nil_append]
/-- A plan that keeps less is not valid. -/
theorem from_less {k : Nat} {a b : List Dg} (h : k < common a b) : pCheck ⟨(k : Int), a.drop k, b.drop k⟩ = 2 := by
  unfold pCheck
  rw [if_pos]
  unfold pBad
  simp [heads_lt k a b h]
theorem C_names' {A : Option Addr} {zs : List Int} {L : List Dg} {k c : Nat} (w : World) (hr : RZ w A zs) (hL : zs.map nm = L) (hk : k = zs.length) (hl : zs.length ≤ 1000000) :
    CallsR Try.prog 10 [.slice A k c] w fun v w' => ∃ A' c', v = .slice A' L.length c' ∧ OwnD w' w.heap.size A' c' L ∧ Below w.heap.size w w' := by
  subst hL
  rw [List.length_map]
  exact C_names c hk w hr hl
end Go.Proofs.Ytbncaabcddoicaa
