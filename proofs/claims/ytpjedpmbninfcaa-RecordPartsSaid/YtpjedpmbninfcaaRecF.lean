/-
  Plain laws of chapter 8: what is written is read back with its own chain, and nothing else is read so.
-/
import Derived.Test.YtpjedpmbninfcaaRecC
import Derived.Test.YtpjedpmbninfcaaOctQ
namespace Go.Proofs.Ytpjedpmbninfcaa
open Go.RowKit
theorem rWord1_nil : rWord 1 ([], 0) = (0, ([], 5)) := by
  rfl
theorem rWord1_cons (c : UInt8) (t : By) : rWord 1 (c :: t, 0) = (c.toNat, (t, 0)) := by
  have h1 : clampN 1 = 1 := rfl
  have h2 : ¬ (c :: t).length < 1 := by simp
  simp [rWord, rTake, h1, leVal]
theorem startR_nil : startR [] = (0, 0, 0, 5) := by
  unfold startR
  rw [List.take_nil, rWord1_nil]
  simp [rNumber]
theorem startR_cons (c : UInt8) (t : By) : startR (c :: t) =
    if c = 0 then (0, 0, 0, 4) else if (rNumber (t.take 9, 0)).2.2 ≠ 0 then (0, 0, 0, (rNumber (t.take 9, 0)).2.2) else if 8192 < (rNumber (t.take 9, 0)).1 then (0, 0, 0, 4)
    else (c.toNat, 1 + (t.take 9).length - (rNumber (t.take 9, 0)).2.1.length, (rNumber (t.take 9, 0)).1, 0) := by
  unfold startR
  rw [List.take_succ_cons, rWord1_cons]
  have e : (c.toNat = 0) = (c = 0) := by rw [← UInt8.toNat_inj]; rfl
  simp only [true_and, e]
  split
  · rfl
  split
  · rfl
  split
  · rfl
  · rw [List.length_cons, Nat.add_comm]
theorem rNumber_e (b : By) : (rNumber (b, 0)).2.2 = 0 ∨ (rNumber (b, 0)).2.2 = 4 ∨ (rNumber (b, 0)).2.2 = 5 := by
  cases b with
  | nil => rw [rNumber_nil]; simp
  | cons c t =>
    by_cases h1 : t.length + 1 < lead c
    · rw [rNumber_more h1]; simp
    · by_cases h2 : room (beVal (c.toNat % 2 ^ (8 - lead c)) (t.take (lead c - 1))) = lead c
      · rw [rNumber_ok h1 h2]; simp
      · rw [rNumber_bad h1 h2]; simp
theorem take_enc (n : Nat) (q : By) : (enc n ++ q).take 9 = enc n ++ q.take (9 - (enc n).length) := by
  rw [List.take_append, List.take_of_length_le (enc_le9 n)]
theorem startR_of {k : UInt8} {n : Nat} {q : By} (hk : k ≠ 0) (hn : n ≤ 8192) : startR (k :: (enc n ++ q)) = (k.toNat, 1 + (enc n).length, n, 0) := by
  rw [startR_cons, if_neg hk, take_enc, rNumber_enc n (by omega)]
  simp only [ne_eq, not_true_eq_false, if_false]
  rw [if_neg (by omega), List.length_append]
  congr 2
  omega
theorem startR_back {b : By} {k f z : Nat} (h : startR b = (k, f, z, 0)) : ∃ (c : UInt8) (q : By), b = c :: (enc z ++ q) ∧ k = c.toNat ∧ c ≠ 0 ∧ z ≤ 8192 ∧ f = 1 + (enc z).length := by
  cases b with
  | nil => rw [startR_nil] at h; simp at h
  | cons c t =>
    rw [startR_cons] at h
    obtain ⟨⟨n, l, e⟩, hx⟩ : ∃ s, rNumber (t.take 9, 0) = s := ⟨_, rfl⟩
    rw [hx] at h
    dsimp only at h
    split at h
    · simp at h
    rename_i hc
    split at h
    · rename_i he; simp only [Prod.mk.injEq] at h; exact absurd h.2.2.2 he
    rename_i he
    obtain rfl : e = 0 := by omega
    split at h
    · simp at h
    rename_i hz
    simp only [Prod.mk.injEq, and_true] at h
    obtain ⟨rfl, rfl, rfl⟩ := h
    obtain ⟨h1, _⟩ := rNumber_back hx
    refine ⟨c, l ++ t.drop 9, ?_, rfl, hc, by omega, ?_⟩
    · rw [← List.append_assoc, ← h1, List.take_append_drop]
    · have := congrArg List.length h1
      rw [List.length_append] at this
      omega
theorem startR_e {b : By} {k f z e : Nat} (h : startR b = (k, f, z, e)) : e = 0 ∨ e = 4 ∨ e = 5 := by
  cases b with
  | nil => rw [startR_nil] at h; simp at h; omega
  | cons c t =>
    have hr := rNumber_e (t.take 9)
    rw [startR_cons] at h
    repeat' split at h
    all_goals (simp only [Prod.mk.injEq] at h; omega)
theorem readR_e (d b : By) : (readR d b).2.2.2 = 0 ∨ ((readR d b) = ((0, []), 0, nul32, (readR d b).2.2.2) ∧ ((readR d b).2.2.2 = 4 ∨ (readR d b).2.2.2 = 5)) := by
  unfold readR
  obtain ⟨⟨k, f, z, e⟩, hs⟩ : ∃ s, startR b = s := ⟨_, rfl⟩
  rw [hs]
  have he := startR_e hs
  dsimp only
  split
  · rename_i h; exact .inr ⟨rfl, by dsimp only; omega⟩
  split
  · exact .inr ⟨rfl, .inr rfl⟩
  split
  · exact .inl rfl
  · exact .inr ⟨rfl, .inl rfl⟩
theorem bytesR_len (d : By) (r : Rc) : (bytesR d r).length = (bodyB r).length + 8 := by
  unfold bytesR
  rw [List.length_append, List.length_take, nextB_len]; rfl
/-- What was written with the chain d, read with the chain c. -/
theorem readR_app (c d : By) {r : Rc} (h : OkR r) (q : By) : readR c (bytesR d r ++ q) = if (nextB c r).take 8 = (nextB d r).take 8 then (r, (bytesR d r).length, nextB c r, 0) else ((0, []), 0, nul32, 4) := by
  obtain ⟨k, p⟩ := r
  obtain ⟨hk, hp⟩ := h
  simp only at hk hp
  have e8 : ((nextB d (k, p)).take 8).length = 8 := by rw [List.length_take, nextB_len]; rfl
  obtain ⟨s, hs⟩ : ∃ s, (nextB d (k, p)).take 8 = s := ⟨_, rfl⟩
  have hb : bytesR d (k, p) ++ q = k :: (enc p.length ++ (p ++ (s ++ q))) := by
    simp [bytesR, bodyB, blkB, hs]
  rw [hs] at e8 ⊢
  have hlen : (bytesR d (k, p)).length = 1 + (enc p.length).length + p.length + 8 := by
    rw [bytesR_len]; simp [bodyB, blkB]; omega
  unfold readR
  rw [hb, startR_of hk hp]
  have d1 : (k :: (enc p.length ++ (p ++ (s ++ q)))).drop (1 + (enc p.length).length) = p ++ (s ++ q) := by
    rw [Nat.add_comm, List.drop_succ_cons, List.drop_left]
  have d2 : (k :: (enc p.length ++ (p ++ (s ++ q)))).drop (1 + (enc p.length).length + p.length) = s ++ q := by
    rw [← List.drop_drop, d1, List.drop_left]
  have d3 : (s ++ q).take 8 = s := by rw [← e8, List.take_left]
  dsimp only
  rw [if_neg (by simp), if_neg (by simp; omega), d1, d2, List.take_left, d3, UInt8.ofNat_toNat, hlen]
theorem readR_own (d : By) {r : Rc} (h : OkR r) (q : By) : readR d (bytesR d r ++ q) = (r, (bytesR d r).length, nextB d r, 0) := by
  rw [readR_app d d h, if_pos rfl]
/-- What is read was written so. -/
theorem readR_back {d b x : By} {r : Rc} {z : Nat} (h : readR d b = (r, z, x, 0)) : OkR r ∧ z = (bytesR d r).length ∧ x = nextB d r ∧ ∃ q, b = bytesR d r ++ q := by
  unfold readR at h
  obtain ⟨⟨k, f, n, e⟩, hs⟩ : ∃ s, startR b = s := ⟨_, rfl⟩
  rw [hs] at h
  dsimp only at h
  split at h
  · rename_i he; simp only [Prod.mk.injEq] at h; exact absurd h.2.2.2 he
  rename_i he
  obtain rfl : e = 0 := by omega
  obtain ⟨c, q, rfl, rfl, hc, hn, rfl⟩ := startR_back hs
  split at h
  · simp at h
  rename_i hl
  have d1 : (c :: (enc n ++ q)).drop (1 + (enc n).length) = q := by rw [Nat.add_comm, List.drop_succ_cons, List.drop_left]
  have hlq : n + 8 ≤ q.length := by
    have := congrArg List.length d1
    rw [List.length_drop] at this; omega
  have d2 : (c :: (enc n ++ q)).drop (1 + (enc n).length + n) = q.drop n := by rw [← List.drop_drop, d1]
  rw [d1, d2, UInt8.ofNat_toNat] at h
  split at h
  · rename_i ht
    simp only [Prod.mk.injEq, and_true] at h
    obtain ⟨rfl, rfl, rfl⟩ := h
    have hpl : (q.take n).length = n := by rw [List.length_take]; omega
    refine ⟨⟨hc, by simp only; omega⟩, ?_, rfl, q.drop (n + 8), ?_⟩
    · rw [bytesR_len]; simp [bodyB, blkB, hpl]; omega
    · unfold bytesR
      rw [ht]
      simp only [bodyB, blkB, hpl, List.append_assoc, List.cons_append, List.nil_append]
      congr 2
      rw [← List.drop_drop, List.take_append_drop, List.take_append_drop]
  · simp at h
theorem readR_nil (d : By) : readR d [] = ((0, []), 0, nul32, 5) := by
  unfold readR; rw [startR_nil]; simp
/-- What is not complete is not read. -/
theorem readR_short {d b q : By} {r : Rc} (h : OkR r) (hb : b ++ q = bytesR d r) (hq : q ≠ []) : (readR d b).2.2.2 ≠ 0 := fun h0 => by
  obtain ⟨⟨r', z, x, e⟩, hr⟩ : ∃ s, readR d b = s := ⟨_, rfl⟩
  rw [hr] at h0
  simp only at h0
  subst h0
  obtain ⟨h1, _, _, p, rfl⟩ := readR_back hr
  have e1 := readR_own d h []
  rw [List.append_nil, ← hb, List.append_assoc, readR_own d h1] at e1
  simp only [Prod.mk.injEq, and_true] at e1
  obtain ⟨rfl, _⟩ := e1
  have := congrArg List.length hb
  simp only [List.length_append] at this
  exact hq (List.length_eq_zero_iff.1 (by omega))
/-! Records one after the other. -/
def bytesAll : By → List Rc → By
  | _, [] => []
  | d, r :: l => bytesR d r ++ bytesAll (nextB d r) l
def chainAll : By → List Rc → By
  | d, [] => d
  | d, r :: l => chainAll (nextB d r) l
theorem chainAll_len {d : By} (hd : d.length = 32) : ∀ (l : List Rc), (chainAll d l).length = 32
  | [] => hd
  | r :: l => chainAll_len (nextB_len d r) l
theorem bytesAll_append : ∀ (d : By) (l m : List Rc), bytesAll d (l ++ m) = bytesAll d l ++ bytesAll (chainAll d l) m
  | d, [], m => rfl
  | d, r :: l, m => by simp [bytesAll, chainAll, bytesAll_append (nextB d r) l m]
theorem chainAll_append : ∀ (d : By) (l m : List Rc), chainAll d (l ++ m) = chainAll (chainAll d l) m
  | d, [], m => rfl
  | d, r :: l, m => by simp [chainAll, chainAll_append (nextB d r) l m]
/-- The records that can be read one after the other. -/
def AllP (d b : By) (l : List Rc) : Prop := ∃ q, b = bytesAll d l ++ q ∧ (∀ r ∈ l, OkR r) ∧ (readR (chainAll d l) q).2.2.2 ≠ 0
theorem AllP.uniq : ∀ {l m : List Rc} {d b : By}, AllP d b l → AllP d b m → l = m
  | [], [], _, _, _, _ => rfl
  | [], r :: m, d, b, ⟨q, hb, _, h⟩, ⟨q', hb', ho, _⟩ => by
    exfalso
    have hq : q = b := by rw [hb]; rfl
    rw [bytesAll, List.append_assoc] at hb'
    rw [chainAll, hq, hb', readR_own d (ho r (by simp))] at h
    exact h rfl
  | r :: m, [], d, b, ⟨q', hb', ho, _⟩, ⟨q, hb, _, h⟩ => by
    exfalso
    have hq : q = b := by rw [hb]; rfl
    rw [bytesAll, List.append_assoc] at hb'
    rw [chainAll, hq, hb', readR_own d (ho r (by simp))] at h
    exact h rfl
  | r :: l, s :: m, d, b, ⟨q, hb, ho, h⟩, ⟨q', hb', ho', h'⟩ => by
    have e1 : readR d b = (r, (bytesR d r).length, nextB d r, 0) := by rw [hb, bytesAll, List.append_assoc, readR_own d (ho r (by simp))]
    have e2 : readR d b = (s, (bytesR d s).length, nextB d s, 0) := by rw [hb', bytesAll, List.append_assoc, readR_own d (ho' s (by simp))]
    rw [e1] at e2
    simp only [Prod.mk.injEq, and_true] at e2
    obtain ⟨rfl, _⟩ := e2
    rw [hb, bytesAll, bytesAll, List.append_assoc, List.append_assoc] at hb'
    have hb2 := List.append_cancel_left hb'
    rw [AllP.uniq (l := l) (m := m) (d := nextB d r) (b := bytesAll (nextB d r) l ++ q) ⟨q, rfl, fun x hx => ho x (by simp [hx]), h⟩ ⟨q', hb2, fun x hx => ho' x (by simp [hx]), h'⟩]
end Go.Proofs.Ytpjedpmbninfcaa
