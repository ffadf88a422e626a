/-
  Plain laws of ops: valid states stay valid; what Get answers after an op.
-/
import Derived.Test.YtahkeoegbjopfaaGreatMg9
import Derived.Laws.IdiomStrings
import Derived.OpenShut
namespace Go.Proofs.YtahkeoegbjopfaaGreat
set_option maxRecDepth 100000
abbrev cmpR (a b : By) : Prop := cmpL a b < 0
theorem srt_pw {L : List By} : Srt L ↔ L.Pairwise cmpR := by
 constructor
 ·intro h
  rw [List.pairwise_iff_getElem]
  exact fun i j hi hj hij => cmpL_chain h j i hj hij
 ·intro h i hi h0
  rw [List.pairwise_iff_getElem] at h
  exact h (i - 1) i (by omega) hi (by omega)
theorem low_spec {L : List By} (hs : Srt L) (p : By) : (∀ j (h : j < L.length), j < low L p → cmpL L[j] p < 0) ∧ (∀ j (h : j < L.length), low L p ≤ j → 0 ≤ cmpL L[j] p) := by
 have h1 : ∀ j (h : j < L.length), j < L.findIdx (fun x => decide (0 ≤ cmpL x p)) → cmpL L[j] p < 0 := fun j hj hjk => by
  have := List.not_of_lt_findIdx hjk
  simp only [Bool.not_eq_true, decide_eq_false_iff_not] at this
  omega
 have h2 : ∀ j (h : j < L.length), L.findIdx (fun x => decide (0 ≤ cmpL x p)) ≤ j → 0 ≤ cmpL L[j] p := fun j hj hjk => by
  have hk : L.findIdx (fun x => decide (0 ≤ cmpL x p)) < L.length := by omega
  have := List.findIdx_getElem (w := hk)
  simp only [decide_eq_true_eq] at this
  exact above_all hs hk this j hj hjk
 have e := low_eq (List.findIdx_le_length) h1 h2
 rw [e]
 exact ⟨h1, h2⟩
def insL (L : List By) (p : By) : List By := L.take (low L p) ++ [p] ++ L.drop (low L p)
theorem mem_insL {L : List By} {p x : By} : x ∈ insL L p ↔ x = p ∨ x ∈ L := by
 unfold insL
 rw [List.mem_append, List.mem_append, List.mem_singleton]
 have e : x ∈ L ↔ x ∈ L.take (low L p) ∨ x ∈ L.drop (low L p) := by
  conv => lhs; rw [← List.take_append_drop (low L p) L]
  exact List.mem_append
 rw [e]
 constructor
 ·rintro ((h | h) | h)
  ·exact .inr (.inl h)
  ·exact .inl h
  ·exact .inr (.inr h)
 ·rintro (h | h | h)
  ·exact .inl (.inr h)
  ·exact .inl (.inl h)
  ·exact .inr h
theorem srt_insL {L : List By} {p : By} (hs : Srt L) (hp : p ∉ L) : Srt (insL L p) := by
 obtain ⟨h1, h2⟩ := low_spec hs p
 have hpw := srt_pw.1 hs
 have ht : ∀ a ∈ L.take (low L p), cmpL a p < 0 := fun a ha => by
  obtain ⟨j, hj, rfl⟩ := List.getElem_of_mem ha
  rw [List.length_take] at hj
  rw [List.getElem_take]
  exact h1 j (by omega) (by omega)
 have hd : ∀ b ∈ L.drop (low L p), cmpL p b < 0 := fun b hb => by
  have hbL : b ∈ L := List.mem_of_mem_drop hb
  obtain ⟨j, hj, rfl⟩ := List.getElem_of_mem hb
  rw [List.length_drop] at hj
  rw [List.getElem_drop] at hbL ⊢
  have h3 := h2 (low L p + j) (by omega) (by omega)
  have h4 := cmpL_neg L[low L p + j] p
  have h5 : cmpL L[low L p + j] p ≠ 0 := fun e => hp ((cmpL_zero _ _).1 e ▸ hbL)
  omega
 rw [srt_pw, insL, List.append_assoc, List.pairwise_append]
 refine ⟨hpw.sublist (List.take_sublist _ _), ?_, ?_⟩
 ·rw [List.singleton_append, List.pairwise_cons]
  exact ⟨hd, hpw.sublist (List.drop_sublist _ _)⟩
 ·intro a ha b hb
  rw [List.singleton_append, List.mem_cons] at hb
  rcases hb with rfl | hb
  ·exact ht a ha
  ·exact cmpL_trans _ _ _ (ht a ha) (hd b hb)
theorem cut_sub {α : Type} (L : List α) (k : Nat) : (cutI L k).Sublist L := by
 unfold cutI
 conv => rhs; rw [← List.take_append_drop k L]
 exact List.Sublist.append (List.Sublist.refl _) (by rw [← List.drop_drop]; exact List.drop_sublist _ _)
theorem srt_cut {L : List By} {k : Nat} (hs : Srt L) : Srt (cutI L k) := srt_pw.2 ((srt_pw.1 hs).sublist (cut_sub L k))
theorem mem_cut {L : List By} {p x : By} {k : Nat} (hs : Srt L) (hk : k < L.length) (hp : L[k] = p) : x ∈ cutI L k ↔ x ∈ L ∧ x ≠ p := by
 have hne : ∀ j (hj : j < L.length), j ≠ k → L[j] ≠ p := fun j hj hjk e => by
  have h0 := cmpL_self p
  rcases Nat.lt_or_gt_of_ne hjk with h | h
  ·have := cmpL_chain hs k j hk h; rw [e, hp] at this; omega
  ·have := cmpL_chain hs j k hj h; rw [e, hp] at this; omega
 constructor
 ·intro h
  refine ⟨(cut_sub L k).subset h, ?_⟩
  unfold cutI at h
  rcases List.mem_append.1 h with h | h
  ·obtain ⟨j, hj, rfl⟩ := List.getElem_of_mem h
   rw [List.length_take] at hj
   rw [List.getElem_take]
   exact hne j (by omega) (by omega)
  ·obtain ⟨j, hj, rfl⟩ := List.getElem_of_mem h
   rw [List.length_drop] at hj
   rw [List.getElem_drop]
   exact hne _ (by omega) (by omega)
 ·rintro ⟨h, hx⟩
  obtain ⟨j, hj, rfl⟩ := List.getElem_of_mem h
  have hjk : j ≠ k := fun e => hx (by subst e; exact hp)
  unfold cutI
  rw [List.mem_append]
  rcases Nat.lt_or_gt_of_ne hjk with h1 | h1
  ·exact .inl (List.mem_take_iff_getElem.2 ⟨j, by omega, rfl⟩)
  ·exact .inr (List.mem_drop_iff_getElem.2 ⟨j - (k + 1), by omega, by congr 1; omega⟩)
theorem map_cut {α β : Type} (f : α → β) (L : List α) (k : Nat) : (cutI L k).map f = cutI (L.map f) k := by
 unfold cutI
 rw [List.map_append, List.map_take, List.map_drop]
theorem cut_len {α : Type} {L : List α} {k : Nat} (hk : k < L.length) : (cutI L k).length + 1 = L.length := by
 unfold cutI
 rw [List.length_append, List.length_take, List.length_drop]; omega
theorem low_at {L : List By} {p : By} (hs : Srt L) (h : p ∈ L) : ∃ hk : low L p < L.length, L[low L p] = p := by
 obtain ⟨h1, h2⟩ := low_spec hs p
 obtain ⟨hk, e⟩ := (has_eq hs h1 h2).1 h
 exact ⟨hk, (cmpL_zero _ _).1 e⟩
theorem okI_iff {I : List (By × By)} : OkI I ↔ (∀ x ∈ I, (1 ≤ x.1.length ∧ x.1.length ≤ 16) ∧ x.2.length ≤ 32) ∧ Srt (I.map Prod.fst) := by
 constructor
 ·intro h
  refine ⟨fun x hx => ?_, h.srt⟩
  obtain ⟨i, hi, rfl⟩ := List.getElem_of_mem hx
  exact (h i hi).1
 ·rintro ⟨h1, h2⟩ i hi
  refine ⟨h1 _ (List.getElem_mem hi), fun h0 => ?_⟩
  have := h2 i (by rw [List.length_map]; exact hi) h0
  rwa [List.getElem_map, List.getElem_map] at this
theorem incK_iff {L : List Ky} : IncK L ↔ Srt (L.map Subtype.val) := by
 constructor
 ·exact IncK.srt
 ·intro h i hi h0
  have := h i (by rw [List.length_map]; exact hi) h0
  rwa [List.getElem_map, List.getElem_map] at this
/-! The lists after an op. -/
theorem map_insK (L : List Ky) (u : Ky) : (L.take (low (L.map Subtype.val) u.1) ++ [u] ++ L.drop (low (L.map Subtype.val) u.1)).map Subtype.val = insL (L.map Subtype.val) u.1 := by
 simp [insL, List.map_take, List.map_drop]
theorem map_insI (I : List (By × By)) (p q : By) : (I.take (low (I.map Prod.fst) p) ++ [(p, q)] ++ I.drop (low (I.map Prod.fst) p)).map Prod.fst = insL (I.map Prod.fst) p := by
 simp [insL, List.map_take, List.map_drop]
theorem ins_len {α : Type} (L : List α) (x : α) (k : Nat) (hk : k ≤ L.length) : (L.take k ++ [x] ++ L.drop k).length = L.length + 1 := by
 simp only [List.length_append, List.length_take, List.length_drop, List.length_singleton]; omega
theorem addS_spec {L : List Ky} {u : Ky} {m : Nat} (h : IncK L) : IncK (addS L u m).1 ∧ ((addS L u m).2 = false → (addS L u m).1 = L) ∧ ((addS L u m).2 = true → u ∉ L ∧ L.length < m ∧ (addS L u m).1.length = L.length + 1 ∧ ∀ x, x ∈ (addS L u m).1 ↔ x = u ∨ x ∈ L) := by
 unfold addS
 by_cases hc : u ∈ L ∨ m ≤ L.length
 ·rw [if_pos hc]
  exact ⟨h, fun _ => rfl, fun e => by cases e⟩
 ·rw [if_neg hc]
  have hu : u ∉ L := fun e => hc (.inl e)
  have hlow : low (L.map Subtype.val) u.1 ≤ L.length := by have := low_le (L.map Subtype.val) u.1; rwa [List.length_map] at this
  refine ⟨?_, fun e => (by cases e), fun _ => ⟨hu, by omega, ins_len L u _ hlow, fun x => ?_⟩⟩
  ·rw [incK_iff, map_insK]
   exact srt_insL h.srt (fun e => hu ((mem_val u L).1 e))
  ·rw [← mem_val, map_insK, mem_insL, mem_val]
   exact or_congr_left Subtype.ext_iff.symm
theorem dropS_spec {L : List Ky} {u : Ky} {m : Nat} (h : IncK L) : IncK (dropS L u m).1 ∧ ((dropS L u m).2 = false → (dropS L u m).1 = L) ∧ ((dropS L u m).2 = true → u ∈ L ∧ m < L.length ∧ (dropS L u m).1.length + 1 = L.length ∧ ∀ x, x ∈ (dropS L u m).1 ↔ x ∈ L ∧ x ≠ u) := by
 unfold dropS
 by_cases hc : u ∉ L ∨ L.length ≤ m
 ·rw [if_pos hc]
  exact ⟨h, fun _ => rfl, fun e => by cases e⟩
 ·rw [if_neg hc]
  have hu : u ∈ L := Decidable.not_not.1 (fun e => hc (.inl e))
  have hs := h.srt
  obtain ⟨hk, e1⟩ := low_at hs ((mem_val u L).2 hu)
  have hk2 : low (L.map Subtype.val) u.1 < L.length := by rwa [List.length_map] at hk
  refine ⟨?_, fun e => (by cases e), fun _ => ⟨hu, by omega, cut_len hk2, fun x => ?_⟩⟩
  ·rw [incK_iff, map_cut]
   exact srt_cut hs
  ·rw [← mem_val, map_cut, mem_cut hs hk e1, mem_val]
   exact and_congr_right fun _ => not_congr Subtype.ext_iff.symm
theorem set_same {α : Type} {L : List α} {k : Nat} {p : α} (hk : k < L.length) (e : L[k] = p) : L.set k p = L := by
 subst e
 exact List.set_getElem_self hk
theorem putS_spec {I : List (By × By)} {p q : By} (h : OkI I) (hp : 1 ≤ p.length ∧ p.length ≤ 16) (hq : q.length ≤ 32) : OkI (putS I p q).1 ∧ ((putS I p q).2 = false → (putS I p q).1 = I) ∧ (I.length ≤ 1024 → (putS I p q).1.length ≤ 1024) ∧ ((putS I p q).2 = true → (p, q) ∈ (putS I p q).1 ∧ ∀ x v, x ≠ p → ((x, v) ∈ (putS I p q).1 ↔ (x, v) ∈ I)) := by
 obtain ⟨h1, hs⟩ := okI_iff.1 h
 unfold putS
 by_cases hc : p ∈ I.map Prod.fst
 ·rw [if_pos hc]
  obtain ⟨hk, e1⟩ := mem_low hs hc
  have hmem : ∀ y, y ∈ I.set (low (I.map Prod.fst) p) (p, q) → y = (p, q) ∨ y ∈ I := fun y hy => (List.mem_or_eq_of_mem_set hy).symm
  refine ⟨okI_iff.2 ⟨fun x hx => ?_, ?_⟩, fun e => (by cases e), fun hl => by rw [List.length_set]; exact hl, fun _ => ⟨List.mem_set hk _, fun x v hx => ⟨fun hm => ?_, fun hm => ?_⟩⟩⟩
  ·rcases hmem x hx with rfl | hx
   ·exact ⟨hp, hq⟩
   ·exact h1 x hx
  ·rw [List.map_set]
   have e2 : (I.map Prod.fst)[low (I.map Prod.fst) p]'(by rw [List.length_map]; exact hk) = p := by rw [List.getElem_map]; exact e1
   have e3 := set_same (by rw [List.length_map]; exact hk) e2
   show Srt ((I.map Prod.fst).set (low (I.map Prod.fst) p) p)
   rw [e3]; exact hs
  ·rcases hmem _ hm with e | hm
   ·injection e with e; exact absurd e hx
   ·exact hm
  ·obtain ⟨j, hj, e⟩ := List.getElem_of_mem hm
   have hjk : low (I.map Prod.fst) p ≠ j := fun e2 => hx (by subst e2; rw [← e1, e])
   rw [List.mem_iff_getElem]
   exact ⟨j, by rw [List.length_set]; exact hj, by rw [List.getElem_set, if_neg hjk, e]⟩
 ·rw [if_neg hc]
  by_cases hf : 1024 ≤ I.length
  ·rw [if_pos hf]
   exact ⟨h, fun _ => rfl, fun hl => hl, fun e => by cases e⟩
  ·rw [if_neg hf]
   have hlow : low (I.map Prod.fst) p ≤ I.length := by have := low_le (I.map Prod.fst) p; rwa [List.length_map] at this
   have hmem : ∀ y, y ∈ I.take (low (I.map Prod.fst) p) ++ [(p, q)] ++ I.drop (low (I.map Prod.fst) p) ↔ y = (p, q) ∨ y ∈ I := fun y => by
    rw [List.mem_append, List.mem_append, List.mem_singleton]
    have e : y ∈ I ↔ y ∈ I.take (low (I.map Prod.fst) p) ∨ y ∈ I.drop (low (I.map Prod.fst) p) := by
     conv => lhs; rw [← List.take_append_drop (low (I.map Prod.fst) p) I]
     exact List.mem_append
    rw [e]
    constructor
    ·rintro ((h | h) | h)
     ·exact .inr (.inl h)
     ·exact .inl h
     ·exact .inr (.inr h)
    ·rintro (h | h | h)
     ·exact .inl (.inr h)
     ·exact .inl (.inl h)
     ·exact .inr h
   refine ⟨okI_iff.2 ⟨fun x hx => ?_, ?_⟩, fun e => (by cases e), fun hl => by rw [ins_len I _ _ hlow]; omega, fun _ => ⟨(hmem _).2 (.inl rfl), fun x v hx => ?_⟩⟩
   ·rcases (hmem x).1 hx with rfl | hx
    ·exact ⟨hp, hq⟩
    ·exact h1 x hx
   ·rw [map_insI]
    exact srt_insL hs hc
   ·rw [hmem]
    exact ⟨fun e => e.elim (fun e => by injection e with e; exact absurd e hx) id, .inr⟩
theorem delS_spec {I : List (By × By)} {p : By} (h : OkI I) : OkI (delS I p).1 ∧ ((delS I p).2 = false → (delS I p).1 = I) ∧ (delS I p).1.length ≤ I.length ∧ ((delS I p).2 = true → p ∉ (delS I p).1.map Prod.fst ∧ ∀ x v, x ≠ p → ((x, v) ∈ (delS I p).1 ↔ (x, v) ∈ I)) := by
 obtain ⟨h1, hs⟩ := okI_iff.1 h
 unfold delS
 by_cases hc : p ∈ I.map Prod.fst
 ·rw [if_pos hc]
  obtain ⟨hk, e1⟩ := mem_low hs hc
  obtain ⟨hk2, e2⟩ := low_at hs hc
  refine ⟨okI_iff.2 ⟨fun x hx => h1 x ((cut_sub _ _).subset hx), by rw [map_cut]; exact srt_cut hs⟩, fun e => (by cases e), by have := cut_len hk; show (cutI I _).length ≤ I.length; omega, fun _ => ⟨fun hm => ?_, fun x v hx => ⟨fun hm => (cut_sub _ _).subset hm, fun hm => ?_⟩⟩⟩
  ·rw [map_cut, mem_cut hs hk2 e2] at hm
   exact hm.2 rfl
  ·obtain ⟨j, hj, e⟩ := List.getElem_of_mem hm
   have hjk : j ≠ low (I.map Prod.fst) p := fun e3 => hx (by subst e3; rw [← e1, e])
   unfold cutI
   rw [List.mem_append]
   rcases Nat.lt_or_gt_of_ne hjk with h2 | h2
   ·exact .inl (List.mem_take_iff_getElem.2 ⟨j, by omega, e⟩)
   ·exact .inr (List.mem_drop_iff_getElem.2 ⟨j - (low (I.map Prod.fst) p + 1), by omega, by rw [← e]; congr 1; omega⟩)
 ·rw [if_neg hc]
  exact ⟨h, fun _ => rfl, Nat.le_refl _, fun e => by cases e⟩
end Go.Proofs.YtahkeoegbjopfaaGreat
namespace Go.Proofs.YtahkeoegbjopfaaGreat
set_option maxRecDepth 100000
open Go.RowKit
structure StepW (S : Stt) (o : Opn) (T : Stt) : Prop where
 get : ∀ p, p ≠ o.2.1 → ∀ v, (p, v) ∈ T.1 ↔ (p, v) ∈ S.1
 k1 : o.1 = 1 → (o.2.1, o.2.2.1) ∈ T.1
 k2 : o.1 = 2 → o.2.1 ∉ T.1.map Prod.fst ∧ o.2.1 ∈ S.1.map Prod.fst
 k36 : o.1 ≠ 1 → o.1 ≠ 2 → T.1 = S.1
 k3 : o.1 = 3 → o.2.2.2 ∈ T.2.1 ∧ o.2.2.2 ∉ S.2.1
 k4 : o.1 = 4 → o.2.2.2 ∉ T.2.1 ∧ o.2.2.2 ∈ S.2.1
 k5 : o.1 = 5 → o.2.2.2 ∈ T.2.2 ∧ o.2.2.2 ∉ S.2.2 ∧ T.2.2.length = S.2.2.length + 1
 k6 : o.1 ≠ 1 → o.1 ≠ 2 → o.1 ≠ 3 → o.1 ≠ 4 → o.1 ≠ 5 → o.2.2.2 ∉ T.2.2 ∧ o.2.2.2 ∈ S.2.2 ∧ T.2.2.length + 1 = S.2.2.length
theorem delS_mem {I : List (By × By)} {p : By} (h : (delS I p).2 = true) : p ∈ I.map Prod.fst := by
 unfold delS at h
 split at h
 ·assumption
 ·cases h
theorem stepS_spec {S : Stt} {wr : Ky} {o : Opn} (h : OkSt S.1 S.2.1 S.2.2) : OkSt (stepS S wr o).1.1 (stepS S wr o).1.2.1 (stepS S wr o).1.2.2 ∧ ((stepS S wr o).2 = false → (stepS S wr o).1 = S) ∧ ((stepS S wr o).2 = true → StepW S o (stepS S wr o).1) := by
 obtain ⟨I, X, Y⟩ := S
 obtain ⟨k, p, q, u⟩ := o
 obtain ⟨⟨h1, h2⟩, ⟨h3, h4⟩, h5, h6, h7⟩ := id h
 unfold stepS stS
 rw [if_pos h]
 dsimp only at h1 h2 h3 h4 h5 h6 h7 ⊢
 by_cases hm : mayS (I, X, Y) wr k p.length q.length u
 ·rw [if_pos hm]
  obtain ⟨m1, m2, m3⟩ := hm
  unfold okOp at m1
  simp only [Bool.and_eq_true, decide_eq_true_eq] at m1
  obtain ⟨⟨ma, mb⟩, mg⟩ := m1
  unfold doS
  dsimp only
  by_cases e1 : k = 1
  ·subst e1
   obtain ⟨g1, g2, g3, _⟩ := goodS_1 mg
   obtain ⟨p1, p2, p3, p4⟩ := putS_spec (p := p) (q := q) h5 ⟨g1, g2⟩ g3
   rw [if_pos rfl]
   refine ⟨⟨⟨p3 h1, h2⟩, ⟨h3, h4⟩, p1, h6, h7⟩, fun e => by rw [p2 e], fun e => ?_⟩
   obtain ⟨q1, q2⟩ := p4 e
   exact ⟨fun x hx v => q2 x v hx, fun _ => q1, fun e => (by simp at e), fun e => absurd rfl e, fun e => (by simp at e), fun e => (by simp at e), fun e => (by simp at e), fun e => absurd rfl e⟩
  rw [if_neg e1]
  by_cases e2 : k = 2
  ·subst e2
   obtain ⟨p1, p2, p3, p4⟩ := delS_spec (p := p) h5
   rw [if_pos rfl]
   refine ⟨⟨⟨by show (delS I p).1.length ≤ 1024; omega, h2⟩, ⟨h3, h4⟩, p1, h6, h7⟩, fun e => by rw [p2 e], fun e => ?_⟩
   obtain ⟨q1, q2⟩ := p4 e
   exact ⟨fun x hx v => q2 x v hx, fun e => (by simp at e), fun _ => ⟨q1, delS_mem e⟩, fun _ e => absurd rfl e, fun e => (by simp at e), fun e => (by simp at e), fun e => (by simp at e), fun _ e => absurd rfl e⟩
  rw [if_neg e2]
  by_cases e3 : k = 3
  ·subst e3
   obtain ⟨p1, p2, p3⟩ := addS_spec (u := u) (m := 16) h6
   rw [if_pos rfl]
   refine ⟨⟨⟨h1, ?_⟩, ⟨h3, h4⟩, h5, p1, h7⟩, fun e => by rw [p2 e], fun e => ?_⟩
   ·show (addS X u 16).1.length ≤ 16
    cases hb : (addS X u 16).2
    ·rw [p2 hb]; exact h2
    ·have := (p3 hb).2.1; have := (p3 hb).2.2.1; omega
   ·obtain ⟨q1, q2, q3, q4⟩ := p3 e
    exact ⟨fun x hx v => Iff.rfl, fun e => (by simp at e), fun e => (by simp at e), fun _ _ => rfl, fun _ => ⟨(q4 u).2 (.inl rfl), q1⟩, fun e => (by simp at e), fun e => (by simp at e), fun _ _ e => absurd rfl e⟩
  rw [if_neg e3]
  by_cases e4 : k = 4
  ·subst e4
   obtain ⟨p1, p2, p3⟩ := dropS_spec (u := u) (m := 0) h6
   rw [if_pos rfl]
   refine ⟨⟨⟨h1, ?_⟩, ⟨h3, h4⟩, h5, p1, h7⟩, fun e => by rw [p2 e], fun e => ?_⟩
   ·show (dropS X u 0).1.length ≤ 16
    cases hb : (dropS X u 0).2
    ·rw [p2 hb]; exact h2
    ·have := (p3 hb).2.2.1; omega
   ·obtain ⟨q1, q2, q3, q4⟩ := p3 e
    exact ⟨fun x hx v => Iff.rfl, fun e => (by simp at e), fun e => (by simp at e), fun _ _ => rfl, fun e => (by simp at e), fun _ => ⟨fun hu => ((q4 u).1 hu).2 rfl, q1⟩, fun e => (by simp at e), fun _ _ _ e => absurd rfl e⟩
  rw [if_neg e4]
  by_cases e5 : k = 5
  ·subst e5
   obtain ⟨p1, p2, p3⟩ := addS_spec (u := u) (m := 16) h7
   rw [if_pos rfl]
   refine ⟨⟨⟨h1, h2⟩, ?_, h5, h6, p1⟩, fun e => by rw [p2 e], fun e => ?_⟩
   ·show 1 ≤ (addS Y u 16).1.length ∧ (addS Y u 16).1.length ≤ 16
    cases hb : (addS Y u 16).2
    ·rw [p2 hb]; exact ⟨h3, h4⟩
    ·have := (p3 hb).2.1; have := (p3 hb).2.2.1; omega
   ·obtain ⟨q1, q2, q3, q4⟩ := p3 e
    exact ⟨fun x hx v => Iff.rfl, fun e => (by simp at e), fun e => (by simp at e), fun _ _ => rfl, fun e => (by simp at e), fun e => (by simp at e), fun _ => ⟨(q4 u).2 (.inl rfl), q1, q3⟩, fun _ _ _ _ e => absurd rfl e⟩
  rw [if_neg e5]
  obtain ⟨p1, p2, p3⟩ := dropS_spec (u := u) (m := 1) h7
  refine ⟨⟨⟨h1, h2⟩, ?_, h5, h6, p1⟩, fun e => by rw [p2 e], fun e => ?_⟩
  ·show 1 ≤ (dropS Y u 1).1.length ∧ (dropS Y u 1).1.length ≤ 16
   cases hb : (dropS Y u 1).2
   ·rw [p2 hb]; exact ⟨h3, h4⟩
   ·have := (p3 hb).2.1; have := (p3 hb).2.2.1; omega
  ·obtain ⟨q1, q2, q3, q4⟩ := p3 e
   exact ⟨fun x hx v => Iff.rfl, fun e => absurd e e1, fun e => absurd e e2, fun _ _ => rfl, fun e => absurd e e3, fun e => absurd e e4, fun e => absurd e e5, fun _ _ _ _ _ => ⟨fun hu => ((q4 u).1 hu).2 rfl, q1, q3⟩⟩
 ·rw [if_neg hm]
  exact ⟨h, fun _ => rfl, fun e => by cases e⟩
end Go.Proofs.YtahkeoegbjopfaaGreat
namespace Go.Proofs.YtahkeoegbjopfaaGreat
set_option maxRecDepth 100000
open Go.RowKit
section
variable {P : Program} {fn : Func} {F : Ending → World → Prop} {N : Nat} {ks : List K} {ops : Array Oper} {tg : Tags} {l : List Oper} {fr : Fr} {w : World} {ty src dst : TypeId} {pos : String} {aft : Array Edge} {gd : Option (Nat × Bool)} {d : Nat} {x : Operand} {p : By}
theorem wl_cvS (hs : P.underlying src = some .string) (hds : P.underlying dst = some (.slice 5)) (he : P.underlying 5 = some (.int .u8)) (hx : fr.ev x = some (.string ⟨p.toArray⟩)) (hl : p.length ≤ 1000000)
  (hk : ∀ A c w', RdT w' A p → p.length ≤ c → c ≤ maxLen → Below w.heap.size w w' → WL P fn F N ks ops tg.tail l ((d, .slice A p.length c) :: fr) w')
  (ht : tg.loud = true := by rfl) (hg : onG ops fr gd = true := by rfl) (hd : Nat.blt d N = true := by rfl) : WL P fn F N ks ops tg (⟨some d, .convert src dst x, ty, pos, aft, gd⟩ :: l) fr w := by
 have hsz : (⟨p.toArray⟩ : ByteArray).size = p.length := rfl
 have hrun := run_bytes_of_string (P := P) w src dst 5 ⟨p.toArray⟩ hs hds he
 rw [hsz] at hrun
 have hge := grownCap_ge w p.length 0 5
 have hcm : grownCap w p.length 0 5 ≤ maxLen := grownCap_le_maxLen w p.length 0 5 (by simp only [maxLen]; omega)
 generalize hq : grownCap w p.length 0 5 = cq at *
 generalize hf : ((bytesRow ⟨p.toArray⟩ cq).size, (bytesRow ⟨p.toArray⟩ cq).size + 1) = fq at *
 have hbl : Below w.heap.size w (w.drew.alloc (.cells (bytesRow ⟨p.toArray⟩ cq) 5 fq)) := ((Below.refl w.heap.size w).drew.alloc (Nat.le_refl _) _)
 refine wl_v (fun a ha o ho _ => by simp [execOp, ho, ha.ev hx, hrun]) (hk _ _ _ ⟨⟨by rw [B8_length, Nat.mul_one], fun _ => ⟨w.heap.size, 0, rfl, fun j v hj => ?_⟩⟩, fun k hk => ?_⟩ hge hcm hbl) ht hg hd (.inr (grown_of_below hbl _))
 ·have h0 : (w.drew.alloc (.cells (bytesRow ⟨p.toArray⟩ cq) 5 fq)).cell? ⟨w.heap.size, j, none⟩ = (bytesRow ⟨p.toArray⟩ cq)[j]? := World.cell?_alloc_mark w.drew _ 5 fq j
  rw [Nat.zero_add, h0]
  have hjl : j < p.length := by
   rcases Nat.lt_or_ge j p.length with h | h
   ·exact h
   ·rw [List.getElem?_eq_none (by rw [B8_length]; exact h)] at hj; cases hj
  rw [bytesRow_at _ _ _ (by simpa using hjl)]
  rw [B8_get p j hjl] at hj
  simpa using hj
 ·obtain rfl : w.heap.size = k := by simpa [blk] using hk
  exact ⟨bytesRow ⟨p.toArray⟩ cq, fq, by show (w.heap.push _)[w.heap.size]? = _; simp⟩
end
def kA : Ky := ⟨1 :: List.replicate 31 0, rfl⟩
def kB : Ky := ⟨2 :: List.replicate 31 0, rfl⟩
theorem C_a (w : World) : CallsR Tryz.prog 31 [] w fun v w' => v = .agg (B8 kA.1).toArray ∧ Below w.heap.size w w' := by
 refine callsR Tryz.func31 rfl rfl (by kernel_rfl) rfl ?_
 have hw := Below.refl w.heap.size w
 refine zs ?_
 refine wl_allocg [_, _, _, _, _, _, _, _, _, _, _, _, _, _, _, _, _, _, _, _, _, _, _, _, _, _, _, _, _, _, _, _] Tryz.zeroValue42 (by rfl) ?_
 rintro g0 w0 f0 b0 i0 i0_1
 have s0 := b0.size
 replace hw := hw.trans (b0.mono hw.size)
 refine wl_nil (zs ?_)
 refine zp (o_buildga [_, _, _, _, _, _, _, _, _, _, _, _, _, _, _, _, _, _, _, _, _, _, _, _, _, _, _, _, _, _, _, _] Tryz.underlying42 Tryz.sizeOf5 Tryz.zeroValue42 (by rfl) (by rfl) rfl (by rfl) (by rfl) (fun _ => by kernel_rfl)) ?_
 refine wl_storega Tryz.sizeOf42 rfl rfl (by rfl) (by decide) f0 (by rfl) ?_
 rintro w_1 f g e
 have s := g.size
 replace hw := hw.trans (below_of_grownBy g.g hw.size (by omega))
 clear f0
 refine wl_nil ?_
 refine ret_cell rfl rfl Tryz.isAgg42 Tryz.sizeOf42 (by assumption) rfl ?_
 exact ⟨rfl, hw⟩
theorem C_b (w : World) : CallsR Tryz.prog 33 [] w fun v w' => v = .agg (B8 kB.1).toArray ∧ Below w.heap.size w w' := by
 refine callsR Tryz.func33 rfl rfl (by kernel_rfl) rfl ?_
 have hw := Below.refl w.heap.size w
 refine zs ?_
 refine wl_allocg [_, _, _, _, _, _, _, _, _, _, _, _, _, _, _, _, _, _, _, _, _, _, _, _, _, _, _, _, _, _, _, _] Tryz.zeroValue42 (by rfl) ?_
 rintro g0 w0 f0 b0 i0 i0_1
 have s0 := b0.size
 replace hw := hw.trans (b0.mono hw.size)
 refine wl_nil (zs ?_)
 refine zp (o_buildga [_, _, _, _, _, _, _, _, _, _, _, _, _, _, _, _, _, _, _, _, _, _, _, _, _, _, _, _, _, _, _, _] Tryz.underlying42 Tryz.sizeOf5 Tryz.zeroValue42 (by rfl) (by rfl) rfl (by rfl) (by rfl) (fun _ => by kernel_rfl)) ?_
 refine wl_storega Tryz.sizeOf42 rfl rfl (by rfl) (by decide) f0 (by rfl) ?_
 rintro w_1 f g e
 have s := g.size
 replace hw := hw.trans (below_of_grownBy g.g hw.size (by omega))
 clear f0
 refine wl_nil ?_
 refine ret_cell rfl rfl Tryz.isAgg42 Tryz.sizeOf42 (by assumption) rfl ?_
 exact ⟨rfl, hw⟩
theorem C_alone (w : World) : CallsR Tryz.prog 11 [] w fun v w' => ∃ B C, v = .agg #[.slice none 0 0, .slice B 1 1, .slice C 1 1] ∧ RKT w' B [kA] ∧ RKT w' C [kA] ∧ Below w.heap.size w w' := by
 refine callsR Tryz.func11 rfl rfl (by kernel_rfl) rfl ?_
 have hw := Below.refl w.heap.size w
 refine zs ?_
 refine wl_allocg [_, _, _] Tryz.zeroValue31 (by rfl) ?_
 rintro g0 w0 f0 b0 i0 i0_1
 have s0 := b0.size
 replace hw := hw.trans (b0.mono hw.size)
 refine wl_nil (zs ?_)
 refine wl_call rfl (C_a _) ?_
 rintro v1 w1 ⟨rfl, b1⟩
 have s1 := b1.size
 replace hw := hw.trans (b1.mono hw.size)
 replace f0 := f0.u b1
 refine wl_litKs1 (by rfl) rfl (by rfl) ?_
 rintro A2 w2 f2 b2
 have qf2 := f2.cap
 have s2 := b2.size
 replace hw := hw.trans (b2.mono hw.size)
 replace f0 := f0.u b2
 refine wl_call rfl (C_a _) ?_
 rintro v3 w3 ⟨rfl, b3⟩
 have s3 := b3.size
 replace hw := hw.trans (b3.mono hw.size)
 replace f0 := f0.u b3
 replace f2 := f2.u b3
 refine wl_litKs1 (by rfl) rfl (by rfl) ?_
 rintro A4 w4 f4 b4
 have qf4 := f4.cap
 have s4 := b4.size
 replace hw := hw.trans (b4.mono hw.size)
 replace f2 := f2.u b4
 replace f0 := f0.u b4
 refine zp (o_buildg [_, _, _] Tryz.underlying31 Tryz.zeroValue31 (by rfl) (by rfl) rfl (by rfl) (by rfl) (fun _ => by kernel_rfl)) ?_
 refine wl_storega Tryz.sizeOf31 rfl rfl (by rfl) (oneCell_of (by rfl)) f0 (by rfl) ?_
 rintro w_1 f g e
 have s := g.size
 replace hw := hw.trans (below_of_grownBy g.g hw.size (by omega))
 replace f2 := f2.y g (by decide)
 replace f4 := f4.y g (by decide)
 clear f0
 refine wl_nil ?_
 refine ret_cell rfl rfl Tryz.isAgg31 Tryz.sizeOf31 (by assumption) rfl ?_
 exact ⟨A2, A4, rfl, f2.to_RKT, f4.to_RKT, hw⟩
theorem C_put {p q : By} (w : World) (hp : p.length ≤ 1000) (hq : q.length ≤ 1000) : CallsR Tryz.prog 32 [.string ⟨p.toArray⟩, .string ⟨q.toArray⟩] w fun v w' => ∃ K c V d, v = .agg (opC 1 K p.length c V q.length d z32).toArray ∧ RdT w' K p ∧ p.length ≤ c ∧ c ≤ maxLen ∧ RdT w' V q ∧ q.length ≤ d ∧ d ≤ maxLen ∧ Below w.heap.size w w' := by
 refine callsR Tryz.func32 rfl rfl (by kernel_rfl) rfl ?_
 have hw := Below.refl w.heap.size w
 refine zs ?_
 refine wl_allocOp ?_
 rintro g4 w4 f4 b4 i4 i4_1
 have s4 := b4.size
 replace hw := hw.trans (b4.mono hw.size)
 refine wl_nil (zs (zm rfl ?_))
 refine wl_cvS Tryz.underlying9 Tryz.underlying39 Tryz.underlying5 rfl (by omega) ?_
 rintro A6 c6 w6 f6 i6 i6_1 b6
 have s6 := b6.size
 replace hw := hw.trans (b6.mono hw.size)
 replace f4 := f4.u b6
 refine zm rfl ?_
 refine wl_cvS Tryz.underlying9 Tryz.underlying39 Tryz.underlying5 rfl (by omega) ?_
 rintro A8 c8 w8 f8 i8 i8_1 b8
 have s8 := b8.size
 replace hw := hw.trans (b8.mono hw.size)
 replace f4 := f4.u b8
 replace f6 := f6.u b8
 refine zp (o_bldOp012 rfl rfl rfl) ?_
 refine wl_stOpB rfl f4 rfl ?_
 rintro w_1 f g e
 have s := g.size
 replace hw := hw.trans (below_of_grownBy g.g hw.size (by omega))
 replace f6 := f6.y g (by decide)
 replace f8 := f8.y g (by decide)
 clear f4
 refine wl_nil ?_
 refine ret_cell rfl rfl Tryz.isAgg54 Tryz.sizeOf54 f (opC_length ..) ?_
 exact ⟨A6, c6, A8, c8, rfl, f6, by assumption, by assumption, f8, by assumption, by assumption, hw⟩
structure StepR (I : List (By × By)) (X Y : List Ky) (wr : Ky) (k : Int) (p q : By) (u : Ky) (I' : List (By × By)) (X' Y' : List Ky) (b : Bool) : Prop where
 h : stepS (I, X, Y) wr (k, p, q, u) = ((I', X', Y'), b)
structure GetR (I : List (By × By)) (X Y : List Ky) (p : By) (v : By) (b : Bool) : Prop where
 h : getS I X Y p = (v, b)
theorem C_opsStepN {A B C K V : Option Addr} {I I' : List (By × By)} {X Y X' Y' : List Ky} {bo : Bool} {p q : By} {n c n2 c2 n3 c3 mk md ck cv : Nat} {k : Int} {u wr : Ky} (w : World) (hr : StepR I X Y wr k p q u I' X' Y' bo) (hA : RI w A I) (hB : RKs w B X) (hC : RKs w C Y) (hK : Rd w K p) (hV : Rd w V q) (hn : n = I.length) (hn2 : n2 = X.length) (hn3 : n3 = Y.length) (hmk : mk = p.length) (hmd : md = q.length) (hl : I.length ≤ 400000) (hl2 : X.length ≤ 400000) (hl3 : Y.length ≤ 400000) (hL : LtI I) (hp : p.length ≤ 4000000) (hq : q.length ≤ 4000000) :
  CallsR Tryz.prog 15 [.agg #[.slice A n c, .slice B n2 c2, .slice C n3 c3], .agg (B8 wr.1).toArray, .agg (opC k K mk ck V md cv u).toArray] w fun v w' => ∃ A' c' B' d' C' e', v = .tuple #[.agg #[.slice A' I'.length c', .slice B' X'.length d', .slice C' Y'.length e'], .bool bo] ∧ OwnI w' w.heap.size w'.heap.size A' c' I' ∧ OwnKs w' w.heap.size w'.heap.size B' d' X' ∧ OwnKs w' w.heap.size w'.heap.size C' e' Y' ∧ Below w.heap.size w w' :=
 C_opsStep (S := (I, X, Y)) w hA hB hC hK hV hr.h hn hn2 hn3 hmk hmd hl hl2 hl3 hL hp hq
theorem C_getN {A B C P : Option Addr} {I : List (By × By)} {X Y : List Ky} {p v : By} {bo : Bool} {n c m d q e z f : Nat} (w : World) (hr : GetR I X Y p v bo) (hA : RI w A I) (hB : RKs w B X) (hC : RKs w C Y) (hP : Rd w P p) (hn : n = I.length) (hm : m = X.length) (hq : q = Y.length) (hz : z = p.length) (hl : I.length ≤ 400000) (hl2 : X.length ≤ 400000) (hl3 : Y.length ≤ 400000) (hL : LtI I) (hp : p.length ≤ 4000000) :
  CallsR Tryz.prog 19 [.agg #[.slice A n c, .slice B m d, .slice C q e], .slice P z f] w fun x w' => ∃ A' c', x = .tuple #[.slice A' v.length c', .bool bo] ∧ OwnH w' w.heap.size w'.heap.size A' c' v ∧ Below w.heap.size w w' :=
 C_get w hA hB hC hP hr.h hn hm hq hz hl hl2 hl3 hL hp
theorem C_lives22 (w : World) : CallsR Tryz.prog 6 [] w fun v w' => v = .bool true ∧ Below w.heap.size w w' := by
 have e1 : StepR [] [kA] [kA] kA 1 [107] [118] z32 [([107], [118])] [kA] [kA] true := ⟨by decide +kernel⟩
 have e2 : StepR [([107], [118])] [kA] [kA] kB 1 [107] [119] z32 [([107], [118])] [kA] [kA] false := ⟨by decide +kernel⟩
 have e3 : StepR [] [kA] [kA] kA 6 [] [] kA [] [kA] [kA] false := ⟨by decide +kernel⟩
 have e4 : GetR [([107], [118])] [kA] [kA] [107] [118] true := ⟨by decide +kernel⟩
 refine callsR Tryz.func6 rfl rfl (by kernel_rfl) rfl ?_
 have hw := Below.refl w.heap.size w
 refine zs (za rfl (wl_nil (zs ?_)))
 refine wl_call rfl (C_alone _) ?_
 rintro v10 w10 ⟨B10, ⟨C10, ⟨rfl, ⟨f10, ⟨f10_1, b10⟩⟩⟩⟩⟩
 have s10 := b10.size
 replace hw := hw.trans (b10.mono hw.size)
 refine wl_call rfl (C_a _) ?_
 rintro v11 w11 ⟨rfl, b11⟩
 have s11 := b11.size
 replace hw := hw.trans (b11.mono hw.size)
 replace f10_1 := f10_1.u b11
 replace f10 := f10.u b11
 refine wl_call rfl (C_put _ (by simp) (by simp)) ?_
 rintro v12 w12 ⟨K12, ⟨c12, ⟨V12, ⟨d12, ⟨rfl, ⟨f12, ⟨i12, ⟨i12_1, ⟨f12_1, ⟨i12_2, ⟨i12_3, b12⟩⟩⟩⟩⟩⟩⟩⟩⟩⟩⟩
 have s12 := b12.size
 replace hw := hw.trans (b12.mono hw.size)
 replace f10 := f10.u b12
 replace f10_1 := f10_1.u b12
 refine wl_call rfl (C_opsStepN _ e1 (RI.nil_) f10.to_RKs f10_1.to_RKs f12.to_Rd f12_1.to_Rd (by rfl) (by rfl) (by rfl) rfl rfl (by simp) (by simp) (by simp) (by simp [LtI]) (by simp) (by simp)) ?_
 rintro v13 w13 ⟨A13, ⟨c13, ⟨B13, ⟨d13, ⟨C13, ⟨e13, ⟨rfl, ⟨f13, ⟨f13_1, ⟨f13_2, b13⟩⟩⟩⟩⟩⟩⟩⟩⟩⟩
 have qf13 := f13.cap
 have qf13_1 := f13_1.cap
 have qf13_2 := f13_2.cap
 have s13 := b13.size
 replace hw := hw.trans (b13.mono hw.size)
 replace f10_1 := f10_1.u b13
 replace f10 := f10.u b13
 replace f12_1 := f12_1.u b13
 replace f12 := f12.u b13
 refine zm rfl ?_
 refine zp (o_ext20 rfl) ?_
 refine zp (o_ext21 rfl) ?_
 refine wl_allocg [_, _, _] Tryz.zeroValue31 (by rfl) ?_
 rintro g1 w1 f1 b1 i1 i1_1
 have s1 := b1.size
 replace hw := hw.trans (b1.mono hw.size)
 replace f12 := f12.u b1
 replace f12_1 := f12_1.u b1
 replace f10 := f10.u b1
 replace f10_1 := f10_1.u b1
 replace f13_2 := f13_2.u b1
 replace f13_1 := f13_1.u b1
 replace f13 := f13.u b1
 refine wl_storega Tryz.sizeOf31 rfl rfl (by rfl) (oneCell_of (by rfl)) f1 (by rfl) ?_
 rintro w_1 f g e
 have s := g.size
 replace hw := hw.trans (below_of_grownBy g.g hw.size (by omega))
 replace f13 := f13.y g (by decide)
 replace f13_1 := f13_1.y g (by decide)
 replace f13_2 := f13_2.y g (by decide)
 replace f10_1 := f10_1.y g (by decide)
 replace f10 := f10.y g (by decide)
 replace f12_1 := f12_1.y g (by decide)
 replace f12 := f12.y g (by decide)
 clear f1
 refine za rfl (wl_nil (rk_seq ?_))
 refine rk_drawo (id := 2) (none) [0, 0, 2, 7, 8, 16, 16, 0, 191, 511] [0, 0, 2, 7, 15, 31, 31, 0, 191, 511] 398 134 [0] [(.s, 0), (.f 1 398 134, 9)] (by kernel_rfl) (by kernel_rfl) (by kernel_rfl) (by kernel_rfl) (by kernel_rfl) ?_
 dsimp only [inOrder, nthOp]
 replace hw := hw.drew
 replace f12 := f12.d
 replace f12_1 := f12_1.d
 replace f10 := f10.d
 replace f10_1 := f10_1.d
 replace f13_2 := f13_2.d
 replace f13_1 := f13_1.d
 replace f13 := f13.d
 replace f := f.d
 refine wl_s (fun _ hk => (o_loadag Tryz.isAgg31 Tryz.sizeOf31 rfl (f.u (below_of_grown_none hk)) (by rfl))) ?_
 have hw1 := Below.refl w_1.drew.heap.size w_1.drew
 have hg1 := f.lt
 refine wl_forkf (m := 1) (L := 398) (C := 134) (n := 9) (k1 := 1) (k2 := 7) (fun fb fr w' => ∃ g3 A' c' B' d' C' e', fr = [(3, .pointer (some ⟨g3, 0, none⟩)), (21, .agg #[.slice A' [(([107] : By), ([118] : By))].length c', .slice B' [kA].length d', .slice C' [kA].length e']), (22, .bool false)] ++ fb ∧ Blk w' g3 31 [.slice none 0 0, .slice none 0 0, .slice none 0 0] ∧ g1 < g3 ∧ Below w_1.drew.heap.size w_1.drew w') [0, 0, 2, 7, 8, 16, 16, 0, 191, 511] [0, 0, 2, 7, 15, 31, 31, 0, 191, 511] [1] [7, 1, 2, 3, 4, 5, 6, 8, 9] [8, 9] [(.f 3 398 134, 8)] [(.c, 1), (.c, 2), (.l, 3), (.p, 4), (.p, 5), (.p, 6), (.l, 8), (.p, 9)] [(.l, 8), (.p, 9)] (by kernel_rfl) (by kernel_rfl) (by kernel_rfl) (by kernel_rfl) (by kernel_rfl) ?_ (fun hj => ?_) (fun hj => ?_) <;> dsimp only [inOrder, nthOp]
 ·clear hw1
  rintro fr w' ⟨g3, A', c', B', d', C', e', rfl, f3, h3, hw1⟩
  first | refine zf ?_ | refine zg ?_
  have shw1 := hw1.size
  simp only [drew_size] at shw1
  replace hw := hw.trans (hw1.mono hw.size)
  replace f := f.u hw1
  replace f13 := f13.u hw1
  replace f13_1 := f13_1.u hw1
  replace f13_2 := f13_2.u hw1
  replace f10_1 := f10_1.u hw1
  replace f10 := f10.u hw1
  replace f12_1 := f12_1.u hw1
  replace f12 := f12.u hw1
  refine wl_storega Tryz.sizeOf31 rfl rfl (by rfl) (oneCell_of (by rfl)) f3 (by rfl) ?_
  rintro w_2 f_1 g_1 e_1
  have s_1 := g_1.size
  replace hw := hw.trans (below_of_grownBy g_1.g hw.size (by omega))
  replace f12 := f12.y g_1 (by decide)
  replace f12_1 := f12_1.y g_1 (by decide)
  replace f10 := f10.y g_1 (by decide)
  replace f10_1 := f10_1.y g_1 (by decide)
  replace f13_2 := f13_2.y g_1 (by decide)
  replace f13_1 := f13_1.y g_1 (by decide)
  replace f13 := f13.y g_1 (by decide)
  replace f := f.k g_1.g (ap_some (by omega))
  clear f3
  refine za rfl ?_
  refine wl_nild ?_
  refine zs ?_
  refine wl_call rfl (C_alone _) ?_
  rintro v24 w24 ⟨B24, ⟨C24, ⟨rfl, ⟨f24, ⟨f24_1, b24⟩⟩⟩⟩⟩
  have s24 := b24.size
  replace hw := hw.trans (b24.mono hw.size)
  replace f := f.u b24
  replace f13 := f13.u b24
  replace f13_1 := f13_1.u b24
  replace f13_2 := f13_2.u b24
  replace f10_1 := f10_1.u b24
  replace f10 := f10.u b24
  replace f12_1 := f12_1.u b24
  replace f12 := f12.u b24
  replace f_1 := f_1.u b24
  refine wl_call rfl (C_a _) ?_
  rintro v25 w25 ⟨rfl, b25⟩
  have s25 := b25.size
  replace hw := hw.trans (b25.mono hw.size)
  replace f_1 := f_1.u b25
  replace f12 := f12.u b25
  replace f12_1 := f12_1.u b25
  replace f10 := f10.u b25
  replace f10_1 := f10_1.u b25
  replace f13_2 := f13_2.u b25
  replace f13_1 := f13_1.u b25
  replace f13 := f13.u b25
  replace f := f.u b25
  replace f24_1 := f24_1.u b25
  replace f24 := f24.u b25
  refine wl_call rfl (C_a _) ?_
  rintro v26 w26 ⟨rfl, b26⟩
  have s26 := b26.size
  replace hw := hw.trans (b26.mono hw.size)
  replace f24 := f24.u b26
  replace f24_1 := f24_1.u b26
  replace f := f.u b26
  replace f13 := f13.u b26
  replace f13_1 := f13_1.u b26
  replace f13_2 := f13_2.u b26
  replace f10_1 := f10_1.u b26
  replace f10 := f10.u b26
  replace f12_1 := f12_1.u b26
  replace f12 := f12.u b26
  replace f_1 := f_1.u b26
  refine zp (o_bldOp03 rfl rfl) ?_
  refine wl_call rfl (C_opsStepN _ e3 (RI.nil_) f24.to_RKs f24_1.to_RKs (Rd.nil_) (Rd.nil_) (by rfl) (by rfl) (by rfl) (by rfl) (by rfl) (by simp) (by simp) (by simp) (by simp [LtI]) (by simp) (by simp)) ?_
  rintro v28 w28 ⟨A28, ⟨c28, ⟨B28, ⟨d28, ⟨C28, ⟨e28, ⟨rfl, ⟨f28, ⟨f28_1, ⟨f28_2, b28⟩⟩⟩⟩⟩⟩⟩⟩⟩⟩
  have qf28 := f28.cap
  have qf28_1 := f28_1.cap
  have qf28_2 := f28_2.cap
  have s28 := b28.size
  replace hw := hw.trans (b28.mono hw.size)
  replace f_1 := f_1.u b28
  replace f12 := f12.u b28
  replace f12_1 := f12_1.u b28
  replace f10 := f10.u b28
  replace f10_1 := f10_1.u b28
  replace f13_2 := f13_2.u b28
  replace f13_1 := f13_1.u b28
  replace f13 := f13.u b28
  replace f := f.u b28
  replace f24_1 := f24_1.u b28
  replace f24 := f24.u b28
  refine zm rfl ?_
  refine zp (o_ext20 rfl) ?_
  refine zp (o_ext21 rfl) ?_
  refine wl_allocg [_, _, _] Tryz.zeroValue31 (by rfl) ?_
  rintro g5 w5 f5 b5 i5 i5_1
  have s5 := b5.size
  replace hw := hw.trans (b5.mono hw.size)
  replace f24 := f24.u b5
  replace f24_1 := f24_1.u b5
  replace f := f.u b5
  replace f13 := f13.u b5
  replace f13_1 := f13_1.u b5
  replace f13_2 := f13_2.u b5
  replace f10_1 := f10_1.u b5
  replace f10 := f10.u b5
  replace f12_1 := f12_1.u b5
  replace f12 := f12.u b5
  replace f_1 := f_1.u b5
  replace f28_2 := f28_2.u b5
  replace f28_1 := f28_1.u b5
  replace f28 := f28.u b5
  refine wl_storega Tryz.sizeOf31 rfl rfl (by rfl) (oneCell_of (by rfl)) f5 (by rfl) ?_
  rintro w_3 f_2 g_2 e_2
  have s_2 := g_2.size
  replace hw := hw.trans (below_of_grownBy g_2.g hw.size (by omega))
  replace f28 := f28.y g_2 (by decide)
  replace f28_1 := f28_1.y g_2 (by decide)
  replace f28_2 := f28_2.y g_2 (by decide)
  replace f12 := f12.y g_2 (by decide)
  replace f12_1 := f12_1.y g_2 (by decide)
  replace f10 := f10.y g_2 (by decide)
  replace f10_1 := f10_1.y g_2 (by decide)
  replace f13_2 := f13_2.y g_2 (by decide)
  replace f13_1 := f13_1.y g_2 (by decide)
  replace f13 := f13.y g_2 (by decide)
  replace f := f.k g_2.g (ap_some (by omega))
  replace f24_1 := f24_1.y g_2 (by decide)
  replace f24 := f24.y g_2 (by decide)
  clear f_1
  clear f5
  refine za rfl (wl_nil (zs ?_))
  refine wl_r (o_loadag Tryz.isAgg31 Tryz.sizeOf31 rfl f (by rfl)) ?_
  refine wl_litC [107] Tryz.u8 Tryz.sizeOf5 Tryz.zeroValue5 (by rfl) rfl rfl (by rfl) (by rfl) (by rfl) ?_
  rintro A33 w33 f33 b33
  have s33 := b33.size
  replace hw := hw.trans (b33.mono hw.size)
  replace f24 := f24.u b33
  replace f24_1 := f24_1.u b33
  replace f := f.u b33
  replace f13 := f13.u b33
  replace f13_1 := f13_1.u b33
  replace f13_2 := f13_2.u b33
  replace f10_1 := f10_1.u b33
  replace f10 := f10.u b33
  replace f12_1 := f12_1.u b33
  replace f12 := f12.u b33
  replace f28_2 := f28_2.u b33
  replace f28_1 := f28_1.u b33
  replace f28 := f28.u b33
  replace f_2 := f_2.u b33
  refine wl_call rfl (C_getN _ e4 f13.to_RI f13_1.to_RKs f13_2.to_RKs f33.to_Rd rfl rfl rfl (by rfl) (by simp) (by simp) (by simp) (by simp [LtI]) (by simp)) ?_
  rintro v35 w35 ⟨A35, ⟨c35, ⟨rfl, ⟨f35, b35⟩⟩⟩⟩
  have qf35 := f35.cap
  have s35 := b35.size
  replace hw := hw.trans (b35.mono hw.size)
  replace f_2 := f_2.u b35
  replace f28 := f28.u b35
  replace f28_1 := f28_1.u b35
  replace f28_2 := f28_2.u b35
  replace f12 := f12.u b35
  replace f12_1 := f12_1.u b35
  replace f10 := f10.u b35
  replace f10_1 := f10_1.u b35
  replace f13_2 := f13_2.u b35
  replace f13_1 := f13_1.u b35
  replace f13 := f13.u b35
  replace f := f.u b35
  replace f24_1 := f24_1.u b35
  replace f24 := f24.u b35
  replace f33 := f33.u b35
  refine zm rfl ?_
  refine zp (o_ext20 rfl) ?_
  refine zp (o_ext21 rfl) ?_
  refine za rfl (za rfl (wl_nil (zs (zm rfl (zm rfl (zm rfl ?_))))))
  refine zp (o_not rfl) ?_
  refine zp (o_pick_t rfl rfl) ?_
  refine zm rfl (zm rfl ?_)
  refine zp (o_not rfl) ?_
  refine zp (o_pick_t rfl rfl) ?_
  refine zm rfl (zm rfl ?_)
  refine zp (o_pick_t rfl rfl) ?_
  refine zm rfl (zm rfl ?_)
  refine wl_r (o_strU Tryz.underlying39 Tryz.underlying5 Tryz.underlying9 rfl f35.to_Rd (Below.refl _ _) rfl) ?_
  refine zp (o_seq rfl rfl) ?_
  refine zp (o_pick_t rfl rfl) ?_
  refine za rfl (wl_nil ?_)
  refine ret1 rfl rfl ?_
  exact ⟨rfl, hw⟩
 ·refine wl_call rfl (C_b _) ?_ (hq := .inr fun _ _ h => grown_of_below h.2 _)
  rintro v18 w18 ⟨rfl, b18⟩
  simp only [drew_size] at b18
  have s18 := b18.size
  simp only [drew_size] at s18
  replace hw := hw.trans (b18.mono hw.size)
  replace hw1 := hw1.trans (b18.mono hw1.size)
  replace f := f.u b18
  replace f13 := f13.u b18
  replace f13_1 := f13_1.u b18
  replace f13_2 := f13_2.u b18
  replace f10_1 := f10_1.u b18
  replace f10 := f10.u b18
  replace f12_1 := f12_1.u b18
  replace f12 := f12.u b18
  refine wl_fork2j (m := 3) (L := 398) (C := 134) (n := 8) (k1 := 2) (k2 := 7) _ [0, 0, 2, 7, 8, 16, 16, 0, 191, 511] [0, 0, 2, 7, 15, 31, 31, 0, 191, 511] [2] [7, 2, 3, 4, 5, 6, 8, 9] [8, 9] [(.f 7 398 134, 7)] [(.c, 2), (.l, 3), (.p, 4), (.p, 5), (.p, 6), (.l, 8), (.p, 9)] [(.l, 8), (.p, 9)] (by kernel_rfl) (by kernel_rfl) (by kernel_rfl) (by kernel_rfl) (by kernel_rfl) hj (fun hj => ?_) (fun hj => ?_) <;> dsimp only [inOrder, nthOp]
  ·refine wl_call rfl (C_put _ (by simp) (by simp)) ?_ (hq := .inr fun _ _ h => grown_of_below h.choose_spec.choose_spec.choose_spec.choose_spec.2.2.2.2.2.2.2 _)
   rintro v19 w19 ⟨K19, ⟨c19, ⟨V19, ⟨d19, ⟨rfl, ⟨f19, ⟨i19, ⟨i19_1, ⟨f19_1, ⟨i19_2, ⟨i19_3, b19⟩⟩⟩⟩⟩⟩⟩⟩⟩⟩⟩
   have s19 := b19.size
   replace hw := hw.trans (b19.mono hw.size)
   replace hw1 := hw1.trans (b19.mono hw1.size)
   replace f12 := f12.u b19
   replace f12_1 := f12_1.u b19
   replace f10 := f10.u b19
   replace f10_1 := f10_1.u b19
   replace f13_2 := f13_2.u b19
   replace f13_1 := f13_1.u b19
   replace f13 := f13.u b19
   replace f := f.u b19
   refine wl_fork2j (m := 7) (L := 398) (C := 134) (n := 7) (k1 := 3) (k2 := 7) _ [0, 0, 2, 7, 8, 16, 16, 0, 191, 511] [0, 0, 2, 7, 15, 31, 31, 0, 191, 511] [3, 4, 5, 6, 7, 8, 9] [7, 3, 4, 5, 6, 8, 9] [8, 9] [(.p, 4), (.p, 5), (.p, 6), (.c, 7), (.l, 8), (.p, 9)] [(.l, 3), (.p, 4), (.p, 5), (.p, 6), (.l, 8), (.p, 9)] [(.l, 8), (.p, 9)] (by kernel_rfl) (by kernel_rfl) (by kernel_rfl) (by kernel_rfl) (by kernel_rfl) hj (fun hj => ?_) (fun hj => ?_) <;> dsimp only [inOrder, nthOp]
   ·refine wl_call rfl (C_opsStepN _ e2 f13.to_RI f13_1.to_RKs f13_2.to_RKs f19.to_Rd f19_1.to_Rd rfl rfl rfl rfl rfl (by simp) (by simp) (by simp) (by simp [LtI]) (by simp) (by simp)) ?_
    rintro v20 w20 ⟨A20, ⟨c20, ⟨B20, ⟨d20, ⟨C20, ⟨e20, ⟨rfl, ⟨f20, ⟨f20_1, ⟨f20_2, b20⟩⟩⟩⟩⟩⟩⟩⟩⟩⟩
    have qf20 := f20.cap
    have qf20_1 := f20_1.cap
    have qf20_2 := f20_2.cap
    have s20 := b20.size
    replace hw := hw.trans (b20.mono hw.size)
    replace hw1 := hw1.trans (b20.mono hw1.size)
    replace f := f.u b20
    replace f13 := f13.u b20
    replace f13_1 := f13_1.u b20
    replace f13_2 := f13_2.u b20
    replace f10_1 := f10_1.u b20
    replace f10 := f10.u b20
    replace f12_1 := f12_1.u b20
    replace f12 := f12.u b20
    replace f19_1 := f19_1.u b20
    replace f19 := f19.u b20
    refine zm rfl ?_
    refine zp (o_ext20 rfl) ?_
    refine zp (o_ext21 rfl) ?_
    refine wl_allocg [_, _, _] Tryz.zeroValue31 (by rfl) ?_
    rintro g3 w3 f3 b3 i3 i3_1
    have s3 := b3.size
    replace hw := hw.trans (b3.mono hw.size)
    replace hw1 := hw1.trans (b3.mono hw1.size)
    replace f19 := f19.u b3
    replace f19_1 := f19_1.u b3
    replace f12 := f12.u b3
    replace f12_1 := f12_1.u b3
    replace f10 := f10.u b3
    replace f10_1 := f10_1.u b3
    replace f13_2 := f13_2.u b3
    replace f13_1 := f13_1.u b3
    replace f13 := f13.u b3
    replace f := f.u b3
    replace f20_2 := f20_2.u b3
    replace f20_1 := f20_1.u b3
    replace f20 := f20.u b3
    exact wl_tof hj (Fr.le_of (by kernel_rfl) (by kernel_rfl) (by repeat' constructor)) ⟨g3, _, _, _, _, _, _, rfl, f3, by omega, hw1⟩
   ·refine wl_allocg [_, _, _] Tryz.zeroValue31 (by rfl) ?_
    rintro g3 w3 f3 b3 i3 i3_1
    have s3 := b3.size
    replace hw := hw.trans (b3.mono hw.size)
    replace hw1 := hw1.trans (b3.mono hw1.size)
    replace f := f.u b3
    replace f13 := f13.u b3
    replace f13_1 := f13_1.u b3
    replace f13_2 := f13_2.u b3
    replace f10_1 := f10_1.u b3
    replace f10 := f10.u b3
    replace f12_1 := f12_1.u b3
    replace f12 := f12.u b3
    replace f19_1 := f19_1.u b3
    replace f19 := f19.u b3
    refine wl_call rfl (C_opsStepN _ e2 f13.to_RI f13_1.to_RKs f13_2.to_RKs f19.to_Rd f19_1.to_Rd rfl rfl rfl rfl rfl (by simp) (by simp) (by simp) (by simp [LtI]) (by simp) (by simp)) ?_
    rintro v20 w20 ⟨A20, ⟨c20, ⟨B20, ⟨d20, ⟨C20, ⟨e20, ⟨rfl, ⟨f20, ⟨f20_1, ⟨f20_2, b20⟩⟩⟩⟩⟩⟩⟩⟩⟩⟩
    have qf20 := f20.cap
    have qf20_1 := f20_1.cap
    have qf20_2 := f20_2.cap
    have s20 := b20.size
    replace hw := hw.trans (b20.mono hw.size)
    replace hw1 := hw1.trans (b20.mono hw1.size)
    replace f19 := f19.u b20
    replace f19_1 := f19_1.u b20
    replace f12 := f12.u b20
    replace f12_1 := f12_1.u b20
    replace f10 := f10.u b20
    replace f10_1 := f10_1.u b20
    replace f13_2 := f13_2.u b20
    replace f13_1 := f13_1.u b20
    replace f13 := f13.u b20
    replace f := f.u b20
    replace f3 := f3.u b20
    refine zm rfl ?_
    refine zp (o_ext20 rfl) ?_
    refine zp (o_ext21 rfl) ?_
    exact wl_tof hj (Fr.le_of (by kernel_rfl) (by kernel_rfl) (by repeat' constructor)) ⟨g3, _, _, _, _, _, _, rfl, f3, by omega, hw1⟩
  ·refine wl_allocg [_, _, _] Tryz.zeroValue31 (by rfl) ?_
   rintro g3 w3 f3 b3 i3 i3_1
   have s3 := b3.size
   replace hw := hw.trans (b3.mono hw.size)
   replace hw1 := hw1.trans (b3.mono hw1.size)
   replace f12 := f12.u b3
   replace f12_1 := f12_1.u b3
   replace f10 := f10.u b3
   replace f10_1 := f10_1.u b3
   replace f13_2 := f13_2.u b3
   replace f13_1 := f13_1.u b3
   replace f13 := f13.u b3
   replace f := f.u b3
   refine wl_call rfl (C_put _ (by simp) (by simp)) ?_ (hq := .inr fun _ _ h => grown_of_below h.choose_spec.choose_spec.choose_spec.choose_spec.2.2.2.2.2.2.2 _)
   rintro v19 w19 ⟨K19, ⟨c19, ⟨V19, ⟨d19, ⟨rfl, ⟨f19, ⟨i19, ⟨i19_1, ⟨f19_1, ⟨i19_2, ⟨i19_3, b19⟩⟩⟩⟩⟩⟩⟩⟩⟩⟩⟩
   have s19 := b19.size
   replace hw := hw.trans (b19.mono hw.size)
   replace hw1 := hw1.trans (b19.mono hw1.size)
   replace f := f.u b19
   replace f13 := f13.u b19
   replace f13_1 := f13_1.u b19
   replace f13_2 := f13_2.u b19
   replace f10_1 := f10_1.u b19
   replace f10 := f10.u b19
   replace f12_1 := f12_1.u b19
   replace f12 := f12.u b19
   replace f3 := f3.u b19
   refine wl_call rfl (C_opsStepN _ e2 f13.to_RI f13_1.to_RKs f13_2.to_RKs f19.to_Rd f19_1.to_Rd rfl rfl rfl rfl rfl (by simp) (by simp) (by simp) (by simp [LtI]) (by simp) (by simp)) ?_
   rintro v20 w20 ⟨A20, ⟨c20, ⟨B20, ⟨d20, ⟨C20, ⟨e20, ⟨rfl, ⟨f20, ⟨f20_1, ⟨f20_2, b20⟩⟩⟩⟩⟩⟩⟩⟩⟩⟩
   have qf20 := f20.cap
   have qf20_1 := f20_1.cap
   have qf20_2 := f20_2.cap
   have s20 := b20.size
   replace hw := hw.trans (b20.mono hw.size)
   replace hw1 := hw1.trans (b20.mono hw1.size)
   replace f3 := f3.u b20
   replace f12 := f12.u b20
   replace f12_1 := f12_1.u b20
   replace f10 := f10.u b20
   replace f10_1 := f10_1.u b20
   replace f13_2 := f13_2.u b20
   replace f13_1 := f13_1.u b20
   replace f13 := f13.u b20
   replace f := f.u b20
   replace f19_1 := f19_1.u b20
   replace f19 := f19.u b20
   refine zm rfl ?_
   refine zp (o_ext20 rfl) ?_
   refine zp (o_ext21 rfl) ?_
   exact wl_tof hj (Fr.le_of (by kernel_rfl) (by kernel_rfl) (by repeat' constructor)) ⟨g3, _, _, _, _, _, _, rfl, f3, by omega, hw1⟩
 ·refine wl_allocg [_, _, _] Tryz.zeroValue31 (by rfl) ?_
  rintro g3 w3 f3 b3 i3 i3_1
  simp only [drew_size] at b3
  simp only [drew_size] at i3
  have s3 := b3.size
  simp only [drew_size] at s3
  replace hw := hw.trans (b3.mono hw.size)
  replace hw1 := hw1.trans (b3.mono hw1.size)
  replace f := f.u b3
  replace f13 := f13.u b3
  replace f13_1 := f13_1.u b3
  replace f13_2 := f13_2.u b3
  replace f10_1 := f10_1.u b3
  replace f10 := f10.u b3
  replace f12_1 := f12_1.u b3
  replace f12 := f12.u b3
  refine wl_call rfl (C_b _) ?_ (hq := .inr fun _ _ h => grown_of_below h.2 _)
  rintro v18 w18 ⟨rfl, b18⟩
  have s18 := b18.size
  replace hw := hw.trans (b18.mono hw.size)
  replace hw1 := hw1.trans (b18.mono hw1.size)
  replace f12 := f12.u b18
  replace f12_1 := f12_1.u b18
  replace f10 := f10.u b18
  replace f10_1 := f10_1.u b18
  replace f13_2 := f13_2.u b18
  replace f13_1 := f13_1.u b18
  replace f13 := f13.u b18
  replace f := f.u b18
  replace f3 := f3.u b18
  refine wl_call rfl (C_put _ (by simp) (by simp)) ?_ (hq := .inr fun _ _ h => grown_of_below h.choose_spec.choose_spec.choose_spec.choose_spec.2.2.2.2.2.2.2 _)
  rintro v19 w19 ⟨K19, ⟨c19, ⟨V19, ⟨d19, ⟨rfl, ⟨f19, ⟨i19, ⟨i19_1, ⟨f19_1, ⟨i19_2, ⟨i19_3, b19⟩⟩⟩⟩⟩⟩⟩⟩⟩⟩⟩
  have s19 := b19.size
  replace hw := hw.trans (b19.mono hw.size)
  replace hw1 := hw1.trans (b19.mono hw1.size)
  replace f3 := f3.u b19
  replace f := f.u b19
  replace f13 := f13.u b19
  replace f13_1 := f13_1.u b19
  replace f13_2 := f13_2.u b19
  replace f10_1 := f10_1.u b19
  replace f10 := f10.u b19
  replace f12_1 := f12_1.u b19
  replace f12 := f12.u b19
  refine wl_call rfl (C_opsStepN _ e2 f13.to_RI f13_1.to_RKs f13_2.to_RKs f19.to_Rd f19_1.to_Rd rfl rfl rfl rfl rfl (by simp) (by simp) (by simp) (by simp [LtI]) (by simp) (by simp)) ?_
  rintro v20 w20 ⟨A20, ⟨c20, ⟨B20, ⟨d20, ⟨C20, ⟨e20, ⟨rfl, ⟨f20, ⟨f20_1, ⟨f20_2, b20⟩⟩⟩⟩⟩⟩⟩⟩⟩⟩
  have qf20 := f20.cap
  have qf20_1 := f20_1.cap
  have qf20_2 := f20_2.cap
  have s20 := b20.size
  replace hw := hw.trans (b20.mono hw.size)
  replace hw1 := hw1.trans (b20.mono hw1.size)
  replace f12 := f12.u b20
  replace f12_1 := f12_1.u b20
  replace f10 := f10.u b20
  replace f10_1 := f10_1.u b20
  replace f13_2 := f13_2.u b20
  replace f13_1 := f13_1.u b20
  replace f13 := f13.u b20
  replace f := f.u b20
  replace f3 := f3.u b20
  replace f19_1 := f19_1.u b20
  replace f19 := f19.u b20
  refine zm rfl ?_
  refine zp (o_ext20 rfl) ?_
  refine zp (o_ext21 rfl) ?_
  exact wl_tof hj (Fr.le_of (by kernel_rfl) (by kernel_rfl) (by repeat' constructor)) ⟨g3, _, _, _, _, _, _, rfl, f3, by omega, hw1⟩
end Go.Proofs.YtahkeoegbjopfaaGreat
namespace Go.Proofs.YtahkeoegbjopfaaGreat
set_option maxRecDepth 100000
open Go.RowKit
end Go.Proofs.YtahkeoegbjopfaaGreat
namespace Go.Proofs.YtahkeoegbjopfaaGreat
set_option maxRecDepth 100000
open Go.RowKit
end Go.Proofs.YtahkeoegbjopfaaGreat
namespace Go.Proofs.YtahkeoegbjopfaaGreat
set_option maxRecDepth 100000
open Go.RowKit
end Go.Proofs.YtahkeoegbjopfaaGreat
namespace Go.Proofs.YtahkeoegbjopfaaGreat
set_option maxRecDepth 100000
open Go.RowKit
end Go.Proofs.YtahkeoegbjopfaaGreat
namespace Go.Proofs.YtahkeoegbjopfaaGreat
set_option maxRecDepth 100000
open Go.RowKit
structure ReadR (b : By) (L : List Opn) (e : Nat) : Prop where
 h : readO b = (L, e)
theorem C_opsReadN {A : Option Addr} {b : By} {L : List Opn} {e n c : Nat} (w : World) (hr : ReadR b L e) (hA : Rd w A b) (hn : n = b.length) (hl : b.length ≤ 4000000) :
  CallsR Tryz.prog 13 [.slice A n c] w fun v w' => ∃ A' c', v = .tuple #[.slice A' L.length c', .int .i64 (e : Int)] ∧ OwnO w' w.heap.size w'.heap.size A' c' L ∧ Below w.heap.size w w' :=
 C_opsRead w hA hr.h hn hl
end Go.Proofs.YtahkeoegbjopfaaGreat
namespace Go.Proofs.YtahkeoegbjopfaaGreat
set_option maxRecDepth 100000
open Go.RowKit
def opsS (S : Stt) (u : Ky) (L : List Opn) : Stt := L.foldl (fun T o => (stS T u o).1) S
def blockS (S : Stt) (b : Bk) : Stt := opsS S b.1 (readO b.2).1
def foldS (S : Stt) (L : List Bk) : Stt := L.foldl blockS S
abbrev OkT (S : Stt) : Prop := OkSt S.1 S.2.1 S.2.2
theorem stS_step {S : Stt} (h : OkT S) (u : Ky) (o : Opn) : stS S u o = stepS S u o := by unfold stepS; rw [if_pos h]
theorem stS_ok {S : Stt} (h : OkT S) (u : Ky) (o : Opn) : OkT (stS S u o).1 := by rw [stS_step h]; exact (stepS_spec h).1
theorem opsS_ok {u : Ky} : ∀ (L : List Opn) {S : Stt}, OkT S → OkT (opsS S u L)
 | [], _, h => h
 | o :: L, S, h => opsS_ok L (stS_ok h u o)
theorem blockS_ok {S : Stt} (h : OkT S) (b : Bk) : OkT (blockS S b) := opsS_ok _ h
theorem foldS_ok : ∀ (L : List Bk) {S : Stt}, OkT S → OkT (foldS S L)
 | [], _, h => h
 | b :: L, S, h => foldS_ok L (blockS_ok h b)
theorem opsS_snoc (S : Stt) (u : Ky) (L : List Opn) (o : Opn) : opsS S u (L ++ [o]) = (stS (opsS S u L) u o).1 := by simp [opsS]
theorem foldS_snoc (S : Stt) (L : List Bk) (b : Bk) : foldS S (L ++ [b]) = blockS (foldS S L) b := by simp [foldS]
theorem readO_nil {b : By} {L : List Opn} {e : Nat} (h : readO b = (L, e)) (he : e ≠ 0) : L = [] := by
 unfold readO at h
 repeat' split at h
 all_goals first | (injection h with h1 h2; exact h1.symm) | (injection h with h1 h2; exact absurd h2.symm he)
theorem readO_ok (b : By) : ∀ o ∈ (readO b).1, o.2.1.length ≤ 4000000 ∧ o.2.2.1.length ≤ 4000000 := by
 obtain ⟨⟨L, e⟩, h⟩ : ∃ r, readO b = r := ⟨_, rfl⟩
 rw [h]
 by_cases he : e = 0
 ·subst he
  obtain ⟨_, h2, _⟩ := bytesO_ok (readO_back h)
  intro o ho
  have h4 := h2 o ho
  unfold okO okOp at h4
  simp only [Bool.and_eq_true] at h4
  obtain ⟨h5, h6⟩ := goodS_le h4.2
  omega
 ·rw [readO_nil h he]
  intro o ho
  cases ho
theorem readO_len (b : By) : (readO b).1.length ≤ 8 := by
 obtain ⟨⟨L, e⟩, h⟩ : ∃ r, readO b = r := ⟨_, rfl⟩
 rw [h]
 by_cases he : e = 0
 ·subst he
  exact (bytesO_ok (readO_back h)).1
 ·rw [readO_nil h he]
  exact Nat.zero_le _
theorem OwnO.some_ {w : World} {lo hi cp : Nat} {A : Option Addr} {L : List Opn} (h : OwnO w lo hi A cp L) (hl : 0 < L.length) : A = some (A.getD ⟨0, 0, none⟩) := RO.some_ h.to_RO hl
theorem gOp_T {w : World} {cs : List Value} {o : Opn} (h : gOp.T w cs o) : ∃ K c V d, cs = opC o.1 K o.2.1.length c V o.2.2.1.length d o.2.2.2 ∧ RdT w K o.2.1 ∧ RdT w V o.2.2.1 ∧ o.2.1.length ≤ c ∧ c ≤ maxLen ∧ o.2.2.1.length ≤ d ∧ d ≤ maxLen ∧ (Lit.int .i64 o.1).wf = true := by
 obtain ⟨_, _, rfl, ⟨rfl, hk⟩, _, _, rfl, ⟨K, c, rfl, h1, h2, h3⟩, _, _, rfl, ⟨V, d, rfl, h4, h5, h6⟩, h7⟩ := h
 obtain ⟨rfl⟩ : _ = B8 o.2.2.2.1 := h7
 exact ⟨K, c, V, d, rfl, h1, h4, h2, h3, h5, h6, hk⟩
section
variable {fn : Func} {F : Ending → World → Prop} {N : Nat} {ks : List K} {ops : Array Oper} {tg : Tags} {l : List Oper} {fr : Fr} {w : World} {ty : TypeId} {pos : String} {aft : Array Edge} {gd : Option (Nat × Bool)} {d0 j : Nat} {x : Operand} {A : Option Addr} {L : List Opn}
theorem wl_ldOpT (hx : fr.ev x = some (.pointer (some (adr A (j * 35))))) (hr : ROT w A L) (hj : j < L.length)
  (hk : ∀ K c V d, RdT w K L[j].2.1 → RdT w V L[j].2.2.1 → L[j].2.1.length ≤ c → c ≤ maxLen → L[j].2.2.1.length ≤ d → d ≤ maxLen → (Lit.int .i64 L[j].1).wf = true → WL Tryz.prog fn F N ks ops tg.tail l ((d0, .agg (opC L[j].1 K L[j].2.1.length c V L[j].2.2.1.length d L[j].2.2.2).toArray) :: fr) w)
  (ht : tg.reads = true := by rfl) (hg : onG ops fr gd = true := by rfl) (hd : Nat.blt d0 N = true := by rfl) : WL Tryz.prog fn F N ks ops tg (⟨some d0, .load 54 x, ty, pos, aft, gd⟩ :: l) fr w := by
 obtain ⟨xs, h1, _, h2⟩ := hr
 have hc : CellsAt w A (j * 35) (part xs 35 j) := h1.cellsAt hj (show 0 < 35 by decide)
 obtain ⟨K, c, V, d, e, h3, h4, h5, h6, h7, h8, h9⟩ := gOp_T (h2 j hj)
 have e' : part xs 35 j = _ := e
 rw [e'] at hc
 refine wl_r (o_loadn (cs := opC L[j].1 K L[j].2.1.length c V L[j].2.2.1.length d L[j].2.2.2) Tryz.isAgg54 (by rw [opC_length]; exact Tryz.sizeOf54) hx (fun i u hu => ?_)) (hk K c V d h3 h4 h5 h6 h7 h8 h9) ht hg hd
 rw [adr_add]
 exact hc i u hu
end
set_option maxHeartbeats 4000000 in
set_option maxRecDepth 100000 in
theorem K_fold {A B C D : Option Addr} {S : Stt} {L : List Bk} {n c m d q e r s : Nat} (w : World) (hA : RI w A S.1) (hB : RKs w B S.2.1) (hC : RKs w C S.2.2) (hD : RBk w D L) (hn : n = S.1.length) (hm : m = S.2.1.length) (hq : q = S.2.2.length) (hr : r = L.length) (hl : S.1.length ≤ 400000) (hl2 : S.2.1.length ≤ 400000) (hl3 : S.2.2.length ≤ 400000) (hL : LtI S.1) (hl4 : L.length ≤ 40000) (hLB : LtB L) (hok : OkT S) :
  CallsR Tryz.prog 10 [.agg #[.slice A n c, .slice B m d, .slice C q e], .slice D r s] w fun v w' => ∃ A' c' B' d' C' e', v = .agg #[.slice A' (foldS S L).1.length c', .slice B' (foldS S L).2.1.length d', .slice C' (foldS S L).2.2.length e'] ∧ OwnI w' w.heap.size w'.heap.size A' c' (foldS S L).1 ∧ OwnKs w' w.heap.size w'.heap.size B' d' (foldS S L).2.1 ∧ OwnKs w' w.heap.size w'.heap.size C' e' (foldS S L).2.2 ∧ Below w.heap.size w w' := by
 subst hn; subst hm; subst hq; subst hr
 refine callsR Tryz.func10 rfl rfl (by kernel_rfl) rfl ?_
 have hw := Below.refl w.heap.size w
 refine zs ?_
 refine wl_boxg [_, _, _] rfl (by rfl) ?_
 rintro g2 w2 f2 b2 i2 i2_1
 have s2 := b2.size
 replace hw := hw.trans (b2.mono hw.size)
 refine wl_allocg [_, _, _] Tryz.zeroValue31 (by rfl) ?_
 rintro g4 w4 f4 b4 i4 i4_1
 have s4 := b4.size
 replace hw := hw.trans (b4.mono hw.size)
 replace f2 := f2.u b4
 refine wl_nil (zs ?_)
 refine wl_r (o_loadag Tryz.isAgg31 Tryz.sizeOf31 rfl f2 (by rfl)) ?_
 refine wl_call rfl (C_clone _ (hA.u hw) (hB.u hw) (hC.u hw) rfl rfl rfl (by omega) (by omega) (by omega) (by omega)) ?_
 rintro v12 w12 ⟨A12, ⟨c12, ⟨B12, ⟨d12, ⟨C12, ⟨e12, ⟨m112, ⟨m212, ⟨rfl, ⟨f12, ⟨f12_1, ⟨f12_2, ⟨i12, ⟨i12_1, ⟨i12_2, b12⟩⟩⟩⟩⟩⟩⟩⟩⟩⟩⟩⟩⟩⟩⟩
 have qf12 := f12.cap
 have qf12_1 := f12_1.cap
 have qf12_2 := f12_2.cap
 have s12 := b12.size
 replace hw := hw.trans (b12.mono hw.size)
 replace f2 := f2.u b12
 replace f4 := f4.u b12
 refine wl_storega Tryz.sizeOf31 rfl rfl (by rfl) (oneCell_of (by rfl)) f2 (by rfl) ?_
 rintro w_1 f g e_1
 have s_1 := g.size
 replace hw := hw.trans (below_of_grownBy g.g hw.size (by omega))
 replace f4 := f4.k g.g (ap_some (by omega))
 replace f12_2 := f12_2.y g (by decide)
 replace f12_1 := f12_1.y g (by decide)
 replace f12 := f12.y g (by decide)
 clear f2
 refine wl_nil (rk_seq (zs ?_))
 refine wl_r (o_loadag Tryz.isAgg31 Tryz.sizeOf31 rfl f (by rfl)) ?_
 refine wl_call rfl (C_checkStateOk _ f12.to_RI f12_1.to_RKs f12_2.to_RKs rfl rfl rfl (by omega) (by omega) (by omega) (by omega) (by omega)) ?_
 rintro v14 w14 ⟨rfl, b14⟩
 have s14 := b14.size
 replace hw := hw.trans (b14.mono hw.size)
 replace f12 := f12.u b14
 replace f12_1 := f12_1.u b14
 replace f12_2 := f12_2.u b14
 replace f4 := f4.u b14
 replace f := f.u b14
 refine zp (o_ne rfl rfl) ?_
 refine wl_nil ?_
 refine rk_false rfl ?_
 refine rk_skip (rk_seq (zs (zm rfl ?_)))
 refine zp (o_len (t := 25) Tryz.underlying25 rfl) ?_
 refine zm rfl (wl_nil (rk_block ?_))
 have hS0 : StAt w14 w4.heap.size g2 S := ⟨A12, c12, B12, d12, C12, e12, f, f12.base (Nat.le_refl _) (by omega), f12_1.base (by omega) (by omega), f12_2.base (by omega) (by omega), fun k hk e => by
  have x1 := (f12_1.rng k hk).2
  have x2 := (f12_2.rng k e).1
  omega, by omega⟩
 have s40 : w.heap.size ≤ w4.heap.size := by omega
 have s41 : w.heap.size ≤ g2 := by omega
 have s42 : w.heap.size ≤ g4 := by omega
 have s43 : g2 < w4.heap.size := by omega
 have s44 : g4 < w4.heap.size := by omega
 have s45 : g2 < g4 := by omega
 refine rk_joinf (fun fb fr V => fr = [] ++ fb.drop 1 ∧ StAt V w4.heap.size g2 (foldS S L) ∧ Blk V g4 31 [.slice none 0 0, .slice none 0 0, .slice none 0 0] ∧ w14.heap.size ≤ V.heap.size ∧ Below w.heap.size w V) ?_ (fun ks hj => ?_)
 rotate_left
 ·refine rk_loopf (fun fb k fr V => ∃ (i : Nat) (v : Int) (T : Stt), fr = [(19, .int .i64 v)] ++ fb.drop 1 ∧ v = i ∧ i ≤ L.length ∧ k = L.length - i ∧ T = foldS S (L.take i) ∧ StAt V w4.heap.size g2 T ∧ Blk V g4 31 [.slice none 0 0, .slice none 0 0, .slice none 0 0] ∧ w14.heap.size ≤ V.heap.size ∧ Below w.heap.size w V) (n := L.length) (Fr.le_of (by kernel_rfl) (by kernel_rfl) (by repeat' constructor)) ⟨0, _, S, rfl, rfl, by omega, rfl, rfl, hS0, f4, Nat.le_refl _, hw⟩ ?_
  clear hw f12 f12_1 f12_2 f f4 hS0
  rintro k fr V ⟨i, v, T, rfl, rfl, hi, rfl, hT, hS, f4, hsz, hw⟩
  have shw := hw.size
  have hokT : OkT T := by rw [hT]; exact foldS_ok _ hok
  first | refine zf ?_ | refine zg ?_
  refine zs ?_
  refine zp (o_lt rfl rfl) ?_
  refine wl_nil (rk_seq ?_)
  refine rk_if rfl (fun h20 => ?_) (fun h20 => ?_)
  ·have hil : i < L.length := by omega
   have n1 := hLB _ (List.getElem_mem hil)
   obtain ⟨A, ca, A2, c2, A3, c3, f0, f1, f2, f3, q7, q8⟩ := hS.ex
   obtain ⟨⟨U, eU⟩, hU⟩ : ∃ r, readO L[i].2 = r := ⟨_, rfl⟩
   have e1 : ReadR L[i].2 U eU := ⟨hU⟩
   have hUl : U.length ≤ 8 := by have := readO_len L[i].2; rwa [hU] at this
   have hUo : ∀ o ∈ U, o.2.1.length ≤ 4000000 ∧ o.2.2.1.length ≤ 4000000 := by have := readO_ok L[i].2; rwa [hU] at this
   clear hS
   refine rk_skip (rk_seq (rk_block (zs ?_)))
   refine zp (o_iaddrA (i) Tryz.underlying25 Tryz.sizeOf49 rfl rfl rfl (hD.some_ (by omega)) (by omega)) ?_
   refine wl_ldBk rfl hD hw (by omega) ?_
   rintro M22 N22 nc22 D22 c22 G22 i22 f22 i22_1 i22_2
   refine wl_allocBk ?_
   rintro g6 w6 f6 b6 i6 i6_1
   have s6 := b6.size
   replace hw := hw.trans (b6.mono hw.size)
   replace f3 := f3.u b6
   replace f2 := f2.u b6
   replace f1 := f1.u b6
   replace f0 := f0.u b6
   replace f4 := f4.u b6
   refine wl_stBkB rfl f6 bkS0 rfl (by omega) ?_
   rintro w_2 f g_1 e_2
   have s_2 := g_1.size
   replace hw := hw.trans (below_of_grownBy g_1.g hw.size (by omega))
   replace f4 := f4.k g_1.g (ap_some (by omega))
   replace f0 := f0.k g_1.g (ap_some (by omega))
   replace f1 := f1.y g_1 (by decide)
   replace f2 := f2.y g_1 (by decide)
   replace f3 := f3.y g_1 (by decide)
   clear f6
   refine wl_nil (zs ?_)
   refine zp (o_faddr (s := 49) (i := 4) (off := 66) Tryz.underlying49 rfl Tryz.sizeOf39 rfl rfl rfl) ?_
   refine wl_r (o_ldBkDt rfl f (by omega)) ?_
   refine wl_call rfl (C_opsReadN _ e1 (f22.u hw) rfl (by omega)) ?_
   rintro v26 w26 ⟨A26, ⟨c26, ⟨rfl, ⟨f26, b26⟩⟩⟩⟩
   have qf26 := f26.cap
   have s26 := b26.size
   replace hw := hw.trans (b26.mono hw.size)
   replace f3 := f3.u b26
   replace f2 := f2.u b26
   replace f1 := f1.u b26
   replace f0 := f0.u b26
   replace f4 := f4.u b26
   replace f := f.u b26
   refine zm rfl ?_
   refine zp (o_ext20 rfl) ?_
   refine zp (o_ext21 rfl) ?_
   refine za rfl (za rfl (wl_nil (zs (zm rfl ?_))))
   refine zp (o_len (t := 35) Tryz.underlying35 rfl) ?_
   refine zm rfl (wl_nil (rk_block ?_))
   have s26 : w4.heap.size ≤ w26.heap.size := by omega
   have hg6 : w4.heap.size ≤ g6 := by omega
   have hS1 : StAt w26 w4.heap.size g2 T := ⟨A, ca, A2, c2, A3, c3, f0, f1.base (Nat.le_refl _) (by omega), f2.base (Nat.le_refl _) (by omega), f3.base (Nat.le_refl _) (by omega), q7, by omega⟩
   refine rk_joinf (fun fb fr W => fr = [] ++ fb.drop 1 ∧ StAt W w4.heap.size g2 (opsS T L[i].1 U) ∧ Blk W g4 31 [.slice none 0 0, .slice none 0 0, .slice none 0 0] ∧ w14.heap.size ≤ W.heap.size ∧ Below w.heap.size w W) ?_ (fun ks hj => ?_)
   rotate_left
   ·refine rk_loopf (fun fb k fr W => ∃ (j : Nat) (v : Int) (T' : Stt), fr = [(31, .int .i64 v)] ++ fb.drop 1 ∧ v = j ∧ j ≤ U.length ∧ k = U.length - j ∧ T' = opsS T L[i].1 (U.take j) ∧ StAt W w4.heap.size g2 T' ∧ OwnO W w_2.heap.size w26.heap.size A26 c26 U ∧ Blk W g6 49 (bkC L[i].1 M22 N22 nc22 D22 L[i].2.length c22 G22) ∧ Blk W g4 31 [.slice none 0 0, .slice none 0 0, .slice none 0 0] ∧ w26.heap.size ≤ W.heap.size ∧ Below w.heap.size w W) (n := U.length) (Fr.le_of (by kernel_rfl) (by kernel_rfl) (by repeat' constructor)) ⟨0, _, T, rfl, rfl, by omega, rfl, rfl, hS1, f26, f, f4, Nat.le_refl _, hw⟩ ?_
    clear hw f0 f1 f2 f3 f4 f f26 hS1
    rintro k fr W ⟨j, v, T', rfl, rfl, hjU, rfl, hT', hS, f26, f6, f4, hszW, hw⟩
    have shwW := hw.size
    have hokT' : OkT T' := by rw [hT']; exact opsS_ok _ hokT
    have hwj := Below.refl W.heap.size W
    first | refine zf ?_ | refine zg ?_
    refine zs ?_
    refine zp (o_lt rfl rfl) ?_
    refine wl_nil (rk_seq ?_)
    refine rk_if rfl (fun h32 => ?_) (fun h32 => ?_)
    ·have hjl : j < U.length := by omega
     obtain ⟨n2, n3⟩ := hUo _ (List.getElem_mem hjl)
     obtain ⟨A, ca, A2, c2, A3, c3, f0, f1, f2, f3, q7, q8⟩ := hS.ex
     clear hS
     refine rk_skip (rk_seq (rk_block (zs ?_)))
     refine zp (o_iaddrA (j) Tryz.underlying35 Tryz.sizeOf54 rfl rfl rfl (f26.some_ (by omega)) (by omega)) ?_
     refine wl_ldOpT rfl f26.to_ROT (by omega) ?_
     rintro K34 c34 V34 d34 f34 f34_1 i34 i34_1 i34_2 i34_3 e34
     refine wl_allocOp ?_
     rintro g10 w10 f10 b10 i10 i10_1
     have s10 := b10.size
     replace hw := hw.trans (b10.mono hw.size)
     replace hwj := hwj.trans (b10.mono hwj.size)
     replace f34_1 := f34_1.u b10
     replace f34 := f34.u b10
     replace f3 := f3.u b10
     replace f2 := f2.u b10
     replace f1 := f1.u b10
     replace f0 := f0.u b10
     replace f4 := f4.u b10
     replace f6 := f6.u b10
     replace f26 := f26.u b10
     refine wl_stOpB rfl f10 rfl ?_
     rintro w_3 f g_2 e_3
     have s_3 := g_2.size
     replace hw := hw.trans (below_of_grownBy g_2.g hw.size (by omega))
     replace hwj := hwj.trans (below_of_grownBy g_2.g hwj.size (by omega))
     replace f26 := f26.q g_2 (ap_some (by omega)) (by decide)
     replace f6 := f6.k g_2.g (ap_some (by omega))
     replace f4 := f4.k g_2.g (ap_some (by omega))
     replace f0 := f0.k g_2.g (ap_some (by omega))
     replace f1 := f1.y g_2 (by decide)
     replace f2 := f2.y g_2 (by decide)
     replace f3 := f3.y g_2 (by decide)
     replace f34 := f34.y g_2 (by decide)
     replace f34_1 := f34_1.y g_2 (by decide)
     clear f10
     refine wl_nil (rk_region ?_)
     refine zp (o_faddr (s := 49) (i := 0) (off := 0) Tryz.underlying49 rfl Tryz.sizeOf42 rfl rfl rfl) ?_
     refine wl_r (o_ldBkW rfl f6) ?_
     refine wl_r (o_loadag Tryz.isAgg54 Tryz.sizeOf54 rfl f (opC_length ..)) ?_
     have shj := hwj.size
     have hS2 : StAt w_3 w4.heap.size g2 T' := ⟨A, ca, A2, c2, A3, c3, f0, f1.base (Nat.le_refl _) (by omega), f2.base (Nat.le_refl _) (by omega), f3.base (Nat.le_refl _) (by omega), q7, by omega⟩
     refine wl_call rfl (K_step w_3 hS2 hokT'.ok f34.to_Rd f34_1.to_Rd rfl rfl n2 n3) ?_
     rintro _ w38 ⟨rfl, e2, e3⟩
     obtain ⟨x1, x2, r1, r2, y1, y2, y3, t1, t2⟩ := e3.ex
     have s1 := y1.size
     have s2 := y2.size
     have s3 := y3.size
     have f4b := ((f4.y y1 (by decide)).y y2 (by decide)).k y3.g (ap_some (lo := g4) (hi := g4 + 1) (by omega))
     have f6b := ((f6.y y1 (by decide)).y y2 (by decide)).y y3 (by decide)
     have f26b := ((f26.y y1 (by decide)).y y2 (by decide)).y y3 (by decide)
     have hws := hw.size
     have hw2 : Below w.heap.size w w38 := hw.trans (((y1.below hws (fun k hk => by have := t1 k hk; omega)).trans (y2.below (by omega) (fun k hk => by have := t2 k hk; omega))).trans (y3.below (by omega) (fun k hk => by injection hk with hk; omega)))
     clear hw f0 f1 f2 f3 f4 f6 f26 f hwj hS2 e3
     have hw := hw2
     clear hw2
     refine wl_nil ?_
     refine rk_blk ?_
     refine rk_region ?_
     refine zp (o_add rfl rfl (by omega) (by omega)) ?_
     refine zm rfl (wl_nil ?_)
     exact rk_againf (Fr.le_of (by kernel_rfl) (by kernel_rfl) (by repeat' constructor)) ⟨j + 1, (j : Int) + 1, _, rfl, by omega, by omega, rfl, by rw [List.take_succ_eq_append_getElem hjl, opsS_snoc, ← hT'], e2, f26b, f6b, f4b, by omega, hw⟩ (by omega)
    ·refine rk_exit rfl ?_
     obtain rfl : j = U.length := by omega
     rw [List.take_length] at hT'
     subst hT'
     exact rk_tof hj (Fr.le_of (by kernel_rfl) (by kernel_rfl) (by repeat' constructor)) ⟨rfl, hS, f4, by omega, hw⟩
   clear hw f0 f1 f2 f3 f4 f f26 hS1
   rintro fr W ⟨rfl, hS, f4, hszW, hw⟩
   have shwW := hw.size
   first | refine zf ?_ | refine zg ?_
   refine rk_blk ?_
   refine rk_region ?_
   refine zp (o_add rfl rfl (by omega) (by omega)) ?_
   refine zm rfl (wl_nil ?_)
   exact rk_againf (Fr.le_of (by kernel_rfl) (by kernel_rfl) (by repeat' constructor)) ⟨i + 1, (i : Int) + 1, opsS T L[i].1 U, rfl, by omega, by omega, rfl, by rw [List.take_succ_eq_append_getElem hil, foldS_snoc, ← hT, blockS, hU], hS, f4, by omega, hw⟩ (by omega)
  ·refine rk_exit rfl ?_
   obtain rfl : i = L.length := by omega
   rw [List.take_length] at hT
   subst hT
   exact rk_tof hj (Fr.le_of (by kernel_rfl) (by kernel_rfl) (by repeat' constructor)) ⟨rfl, hS, f4, hsz, hw⟩
 clear hw f12 f12_1 f12_2 f f4 hS0
 rintro fr V ⟨rfl, hS, f4, hsz, hw⟩
 have shw := hw.size
 obtain ⟨A1, a1, A2, a2, A3, a3, z0, z1, z2, z3, z4, z5⟩ := hS.ex
 first | refine zf ?_ | refine zg ?_
 refine zs ?_
 refine wl_r (o_loadag Tryz.isAgg31 Tryz.sizeOf31 rfl z0 (by rfl)) ?_
 refine wl_storega Tryz.sizeOf31 rfl rfl (by rfl) (oneCell_of (by rfl)) f4 (by rfl) ?_
 rintro w_2 f g_1 e_2
 have s_2 := g_1.size
 replace hw := hw.trans (below_of_grownBy g_1.g hw.size (by omega))
 replace z3 := z3.y g_1 (by decide)
 replace z2 := z2.y g_1 (by decide)
 replace z1 := z1.y g_1 (by decide)
 replace z0 := z0.k g_1.g (ap_some (by omega))
 clear f4
 refine wl_nil ?_
 refine ret_cell rfl rfl Tryz.isAgg31 Tryz.sizeOf31 (by assumption) rfl ?_
 exact ⟨A1, a1, A2, a2, A3, a3, rfl, z1.base (by omega) (by omega), z2.base (by omega) (by omega), z3.base (by omega) (by omega), hw⟩
end Go.Proofs.YtahkeoegbjopfaaGreat
namespace Go.Proofs.YtahkeoegbjopfaaGreat
set_option maxRecDepth 100000
open Go.RowKit
end Go.Proofs.YtahkeoegbjopfaaGreat
namespace Go.Proofs.YtahkeoegbjopfaaGreat
set_option maxRecDepth 100000
open Go.RowKit
theorem div_pow_zero {n i j : Nat} (h : n / 2 ^ i = 0) (hij : i ≤ j) : n / 2 ^ j = 0 := by
 apply Nat.div_eq_of_lt
 have h2 : n < 2 ^ i := by
  rcases Nat.lt_or_ge n (2 ^ i) with h3 | h3
  ·exact h3
  ·have := (Nat.one_le_div_iff (Nat.two_pow_pos i)).2 h3
   omega
 exact Nat.lt_of_lt_of_le h2 (Nat.pow_le_pow_right (by decide) hij)
theorem room_char (n j : Nat) (h1 : 1 ≤ j) (h9 : j ≤ 9) (hlo : j = 1 ∨ n / 2 ^ (7 * (j - 1)) ≠ 0) (hhi : j = 9 ∨ n / 2 ^ (7 * j) = 0) : room n = j := by
 have hk := room_pos n
 rcases Nat.lt_trichotomy (room n) j with h | h | h
 ·rcases hlo with e | e
  ·omega
  ·rcases room_hi n with e2 | e2
   ·omega
   ·exact absurd (div_pow_zero e2 (by omega)) e
 ·exact h
 ·rcases hhi with e | e
  ·omega
  ·rcases room_low n with e2 | e2
   ·omega
   ·exact absurd (div_pow_zero e (by omega)) e2

theorem shift_nat (n : Nat) (k : Int) (j : Nat) (hk : k = j) (hj : j ≤ 64) : (n : Int) / 2 ^ min k.toNat IntKind.u64.bits = ((n / 2 ^ j : Nat) : Int) := by
 have e2 : min k.toNat IntKind.u64.bits = j := by show min _ 64 = _; omega
 rw [e2]; rfl

theorem C_refroom (n : Nat) (w : World) (hn : n < u64) :
  CallsR Tryz.prog 142 [.int .u64 n] w fun v w' => v = .int .i64 (room n) ∧ w = w' := by
 refine callsR Tryz.func142 rfl rfl (by kernel_rfl) rfl ?_
 refine zs (za rfl (wl_nil (zs (za rfl (wl_nil (rk_seq (rk_block ?_)))))))
 refine rk_loop (fun m fr w' => ∃ k : Nat, ∃ v : Int, fr = [(0, .int .u64 n), (3, .int .i64 v)] ∧ v = k ∧ 1 ≤ k ∧ k ≤ 9 ∧ m = 9 - k ∧ (k = 1 ∨ n / 2 ^ (7 * (k - 1)) ≠ 0) ∧ w = w') (n := 8) (by repeat' constructor) ⟨1, 1, rfl, rfl, by omega, by omega, rfl, .inl rfl, rfl⟩ ?_
 rintro m fr _ ⟨k, v, rfl, rfl, hk1, hk9, rfl, hk, rfl⟩
 refine rk_seq (zs (zm rfl ?_))
 refine zp (o_lt rfl rfl) ?_
 refine zm rfl ?_
 refine wl_bool 6 rfl (fun h6 => ?_) (fun h6 => ?_)
 ·have h9 : (k : Int) < 9 := of_decide_eq_true h6
  refine zm rfl (zm rfl ?_)
  refine zp (o_mul rfl rfl (by omega) (by omega)) ?_
  refine zp (o_convu64 (src := 3) (dst := 102) Tryz.underlying3 Tryz.underlying102 rfl (by omega) (by omega)) ?_
  refine zp (o_shr rfl rfl (by omega)) ?_
  refine zp (o_ne rfl rfl) ?_
  refine zp (o_pick_t rfl rfl) ?_
  refine wl_nil ?_
  refine rk_if rfl (fun h => ?_) (fun h => ?_)
  ·rw [shift_nat n _ (7 * k) (by omega) (by omega)] at h
   refine rk_skip (rk_block (rk_region (zm rfl ?_)))
   refine zp (o_add rfl rfl (by omega) (by omega)) ?_
   refine za rfl (wl_nil ?_)
   refine rk_blk ?_
   exact rk_again (by repeat' constructor) ⟨k + 1, _, rfl, rfl, by omega, by omega, rfl, .inr (by simp only [Nat.add_sub_cancel]; omega), rfl⟩ (by omega)
  ·rw [shift_nat n _ (7 * k) (by omega) (by omega)] at h
   refine rk_exit rfl ?_
   refine zs (zm rfl (za rfl (wl_nil ?_)))
   refine ret1 rfl rfl ?_
   exact ⟨by rw [room_char n k hk1 hk9 hk (.inr (by omega))], rfl⟩
 ·have h9 : ¬ (k : Int) < 9 := of_decide_eq_false h6
  refine wl_off (wl_off (wl_off (wl_off (wl_off (wl_off ?_)))))
  refine zp (o_pick_f rfl rfl) ?_
  refine wl_nil ?_
  refine rk_false rfl ?_
  refine rk_exit rfl ?_
  refine zs (zm rfl (za rfl (wl_nil ?_)))
  refine ret1 rfl rfl ?_
  exact ⟨by rw [room_char n k hk1 hk9 hk (.inl (by omega))], rfl⟩

theorem ref_byte (n : Nat) (h : n < 18446744073709551616) : IntKind.u8.wrap (IntKind.u8.wrap (IntKind.u64.wrap (256 - IntKind.u64.wrap (1 * 2 ^ min (9 - (room n : Int)).toNat IntKind.u64.bits))) + IntKind.u8.wrap ((n : Int) / 2 ^ min (8 * ((room n : Int) - 1)).toNat IntKind.u64.bits)) = ((first (room n) n).toNat : Int) := by
 have hk := room_pos n
 have hlt := room_lt n h
 have e1 : (8 * ((room n : Int) - 1)) = 8 * ((room n - 1 : Nat) : Int) := by omega
 rw [e1, byte_shift n (room n - 1) (by omega)]
 unfold first
 generalize hq : n / 256 ^ (room n - 1) = q at *
 have hq256 : q < 256 := Nat.lt_of_lt_of_le hlt (Nat.pow_le_pow_right (by omega) (show 8 - room n ≤ 8 by omega))
 have e2 : IntKind.u8.wrap (IntKind.u64.wrap (256 - IntKind.u64.wrap (1 * 2 ^ min (9 - (room n : Int)).toNat IntKind.u64.bits))) = (((256 - 2 ^ (9 - room n)) % 256 : Nat) : Int) := by
  have h3 : ∀ k : Fin 10, 1 ≤ k.val → IntKind.u8.wrap (IntKind.u64.wrap (256 - IntKind.u64.wrap (1 * 2 ^ min (9 - (k.val : Int)).toNat IntKind.u64.bits))) = (((256 - 2 ^ (9 - k.val)) % 256 : Nat) : Int) := by decide +kernel
  exact h3 ⟨room n, by omega⟩ hk.1
 rw [e2, UInt8.toNat_ofNat', UInt8.toNat_ofNat', IntKind.wrap_u8']
 generalize 256 - 2 ^ (9 - room n) = r
 omega

theorem C_refNumber {A : Option Addr} {l : List UInt8} (c : Nat) (n : Nat) (w : World) (hr : Rd w A l) (hn : n < u64) (hl : l.length ≤ 140737488355000) :
  CallsR Tryz.prog 108 [.slice A l.length c, .int .u64 n] w fun v w' => ∃ A' c', v = .slice A' (l ++ enc n).length c' ∧ Own w' w.heap.size A' c' (l ++ enc n) ∧ Below w.heap.size w w' := by
 have hk := room_pos n
 refine callsR Tryz.func108 rfl rfl (by kernel_rfl) rfl ?_
 refine zs (za rfl (wl_nil (zs ?_)))
 refine wl_lit8 (xs := []) [] Tryz.u8 Tryz.sizeOf5 Tryz.zeroValue5 rfl rfl ?_
 intro w1 hown1 hb1 hz1
 refine zm rfl ?_
 refine wl_app (s := []) Tryz.u8 rfl rfl hown1 rfl rfl (hr.below hb1) (by simp; omega) hb1.size ?_
 intro A10 c10 w10 hown10 hg10 hk10 hb10
 rw [List.nil_append] at hown10 ⊢
 have hb := hb1.trans hb10
 refine za rfl (wl_nil (zs (zm rfl ?_)))
 refine wl_call rfl (C_refroom n w10 hn) ?_
 rintro _ w12 ⟨rfl, rfl⟩
 refine za rfl (wl_nil (rk_seq (zs (zm rfl ?_))))
 refine zp (o_eq rfl rfl) ?_
 refine wl_nil ?_
 refine rk_join (fun fr w' => ∃ A' c' len, fr = [(1, .int .u64 n), (5, .slice A' len c'), (6, .int .i64 (room n))] ∧ len = (l ++ [first (room n) n]).length ∧ Own w' w.heap.size A' c' (l ++ [first (room n) n]) ∧ Below w.heap.size w w') ?_ (fun ks hj => ?_)
 ·rintro fr w2 ⟨A', c', len, rfl, hln, hown', hb'⟩
  refine rk_seq (zs (zm rfl ?_))
  refine zp (o_sub rfl rfl (by omega) (by omega)) ?_
  refine za rfl (wl_nil (rk_block ?_))
  refine rk_loop (fun j fr w' => ∃ A' c' len l' i, fr = [(1, .int .u64 n), (5, .slice A' len c'), (7, .int .i64 i)] ∧ len = l'.length ∧ i = (j : Int) - 1 ∧ j ≤ 8 ∧ l' ++ beB j n = l ++ enc n ∧ Own w' w.heap.size A' c' l' ∧ Below w.heap.size w w')
   (n := room n - 1) (by repeat' constructor) ⟨A', c', _, _, _, rfl, hln, by omega, by omega, by simp [enc], hown', hb'⟩ ?_
  rintro j fr w3 ⟨A', c', len, l', i, rfl, hln, hi, hj8, hl', hown', hb'⟩
  have hlen : l'.length + j = l.length + room n := by have := congrArg List.length hl'; simpa [beB_length, enc_length] using this
  refine rk_seq (zs (zm rfl ?_))
  refine zp (o_ge rfl rfl) ?_
  refine wl_nil ?_
  refine rk_if rfl (fun h => ?_) (fun h => ?_)
  ·obtain ⟨q, rfl⟩ := Int.eq_ofNat_of_zero_le h
   obtain rfl : j = q + 1 := by omega
   refine rk_skip (rk_seq (rk_block (rk_region (zm rfl (zm rfl (zm rfl ?_))))))
   refine zp (o_mul rfl rfl (by omega) (by omega)) ?_
   refine zp (o_convu64 (src := 3) (dst := 102) Tryz.underlying3 Tryz.underlying102 rfl (by omega) (by omega)) ?_
   refine zp (o_shr rfl rfl (by omega)) ?_
   refine zp (o_asi (o_convi Tryz.underlying43 Tryz.underlying5 rfl) (byte_shift n q (by omega))) ?_
   refine wl_v (o_lit (is := [0]) (xs := [.tmp 47]) rfl (Tryz.lit8 _ _)) ?_
   have hs2 := hb'.size
   refine wl_app (m := [UInt8.ofNat (n / 256 ^ q)]) Tryz.u8 rfl hln (hown'.alloc _) rfl rfl (rd_lit _ _ _ rfl) (by simp; omega) (by simp; omega) ?_
   intro A35 c35 w35 hown35 hg35 hk35 hb35
   refine za rfl (wl_nil ?_)
   refine rk_blk ?_
   refine rk_region (zm rfl ?_)
   refine zp (o_sub rfl rfl (by omega) (by omega)) ?_
   refine za rfl (wl_nil ?_)
   exact rk_again (m := q) (by repeat' constructor) ⟨A35, c35, _, _, _, rfl, rfl, rfl, by omega, by simpa [beB] using hl', hown35, (hb'.alloc (by omega) _).trans hb35⟩ (by omega)
  ·obtain rfl : j = 0 := by omega
   refine rk_exit rfl ?_
   refine zs (zm rfl (za rfl (wl_nil ?_)))
   refine ret1 rfl rfl ?_
   simp only [beB, List.append_nil] at hl'
   subst hl'
   exact ⟨A', c', by rw [hln], hown', hb'⟩
 ·have hs10 := hb.size
  refine rk_if rfl (fun h => ?_) (fun h => ?_)
  ·refine rk_region ?_
   refine zm rfl ?_
   refine wl_v (o_lit (is := [0]) (xs := [.const (.int .u8 255)]) rfl (Tryz.lit8 _ _)) ?_
   have e9 : room n = 9 := by omega
   refine wl_app (m := [first (room n) n]) Tryz.u8 rfl rfl (hown10.alloc _) rfl rfl (rd_lit _ _ _ ?_) (by simp; omega) (by simp; omega) ?_
   ·have h9 : n / 256 ^ 8 = 0 := Nat.div_eq_of_lt (by simpa using hn)
    rw [e9]; unfold first; rw [h9]; rfl
   intro A35 c35 w35 hown35 hg35 hk35 hb35
   refine za rfl (wl_nil ?_)
   exact rk_to hj (by repeat' constructor) ⟨A35, c35, _, rfl, rfl, hown35, (hb.alloc (by omega) _).trans hb35⟩
  ·refine rk_region ?_
   refine zm rfl (zm rfl ?_)
   refine zp (o_sub rfl rfl (by omega) (by omega)) ?_
   refine zp (o_convu64 (src := 3) (dst := 102) Tryz.underlying3 Tryz.underlying102 rfl (by omega) (by omega)) ?_
   refine zp (o_shl rfl rfl (by omega)) ?_
   refine zp (o_subw rfl rfl) ?_
   refine zp (o_convi (src := 43) (dst := 5) Tryz.underlying43 Tryz.underlying5 rfl) ?_
   refine zm rfl (zm rfl ?_)
   refine zp (o_sub rfl rfl (by omega) (by omega)) ?_
   refine zp (o_mul rfl rfl (by omega) (by omega)) ?_
   refine zp (o_convu64 (src := 3) (dst := 102) Tryz.underlying3 Tryz.underlying102 rfl (by omega) (by omega)) ?_
   refine zp (o_shr rfl rfl (by omega)) ?_
   refine zp (o_convi (src := 43) (dst := 5) Tryz.underlying43 Tryz.underlying5 rfl) ?_
   refine zp (o_asi (o_addw rfl rfl) (ref_byte n hn)) ?_
   refine wl_v (o_lit (is := [0]) (xs := [.tmp 32]) rfl (Tryz.lit8 _ _)) ?_
   refine wl_app (m := [first (room n) n]) Tryz.u8 rfl rfl (hown10.alloc _) rfl rfl (rd_lit _ _ _ rfl) (by simp; omega) (by simp; omega) ?_
   intro A35 c35 w35 hown35 hg35 hk35 hb35
   refine za rfl (wl_nil ?_)
   exact rk_to hj (by repeat' constructor) ⟨A35, c35, _, rfl, rfl, hown35, (hb.alloc (by omega) _).trans hb35⟩

theorem C_refBlock {A X : Option Addr} {l p : List UInt8} (c k : Nat) (w : World) (hr : Rd w A l) (hp : Rd w X p) (hl : l.length + p.length ≤ 140737488355000) :
  CallsR Tryz.prog 63 [.slice A l.length c, .slice X p.length k] w fun v w' => ∃ A' c', v = .slice A' (l ++ enc p.length ++ p).length c' ∧ Own w' w.heap.size A' c' (l ++ enc p.length ++ p) ∧ Below w.heap.size w w' := by
 have hk := room_pos p.length
 have hn : p.length < u64 := by unfold u64; omega
 refine callsR Tryz.func63 rfl rfl (by kernel_rfl) rfl ?_
 refine zs (za rfl (wl_nil (zs (zm rfl (zm rfl ?_)))))
 refine zp (o_len (t := 39) Tryz.underlying39 rfl) ?_
 refine zp (o_convu64 (src := 3) (dst := 43) Tryz.underlying3 Tryz.underlying43 rfl (by omega) (by omega)) ?_
 refine wl_call rfl (C_refNumber c p.length w hr hn (by omega)) ?_
 rintro _ w3 ⟨A3, c3, rfl, hown3, hb3⟩
 refine zm rfl ?_
 refine wl_app Tryz.u8 rfl rfl hown3 rfl rfl (hp.below hb3) (by simp [enc_length]; omega) hb3.size ?_
 intro A4 c4 w4 hown4 hg4 hk4 hb4
 refine za rfl (wl_nil ?_)
 refine ret1 rfl rfl ?_
 exact ⟨A4, c4, rfl, hown4, hb3.trans hb4⟩

end Go.Proofs.YtahkeoegbjopfaaGreat
namespace Go.Proofs.YtahkeoegbjopfaaGreat
set_option maxRecDepth 100000
open Go.RowKit
theorem C_refBlockH {A X : Option Addr} {l p : By} {n m c k : Nat} (w : World) (hr : Rd w A l) (hp : Rd w X p) (hn : n = l.length) (hm : m = p.length) (hl : l.length ≤ 4000000) (hl2 : p.length ≤ 4000000) :
  CallsR Tryz.prog 63 [.slice A n c, .slice X m k] w fun v w' => ∃ A' c', v = .slice A' (l ++ blkB p).length c' ∧ OwnH w' w.heap.size w'.heap.size A' c' (l ++ blkB p) ∧ Below w.heap.size w w' := by
 subst hn; subst hm
 refine CallsR.mono (C_refBlock c k w hr hp (by omega)) ?_
 rintro v w' ⟨A', c', rfl, h1, h2⟩
 rw [List.append_assoc] at h1 ⊢
 exact ⟨A', c', rfl, h1.h_, h2⟩
end Go.Proofs.YtahkeoegbjopfaaGreat
namespace Go.Proofs.YtahkeoegbjopfaaGreat
set_option maxRecDepth 100000
open Go.RowKit
end Go.Proofs.YtahkeoegbjopfaaGreat
namespace Go.Proofs.YtahkeoegbjopfaaGreat
set_option maxRecDepth 100000
open Go.RowKit
def pick (n m : Int) : Int := if m < 1 then 0 else n % m
end Go.Proofs.YtahkeoegbjopfaaGreat
namespace Go.Proofs.YtahkeoegbjopfaaGreat
set_option maxRecDepth 100000
open Go.RowKit
theorem C_lightOpsN {A : Option Addr} {L : List Opn} {n c m : Nat} {mi : Int} (w : World) (hL : RO w A L) (hno : ¬LtO L m) (hn : n = L.length) (hm : mi = (m : Int)) (hl : L.length ≤ 9223372036854775807) (hmm : m ≤ 1000) :
  CallsR Tryz.prog 25 [.slice A n c, .int .i64 mi] w fun v w' => v = .bool false ∧ Below w.heap.size w w' := by
 refine CallsR.mono (C_lightOps (c := c) w hL hn hm hl hmm) ?_
 rintro v w' ⟨b, rfl, h1, h2⟩
 cases b
 ·exact ⟨rfl, h2⟩
 ·exact absurd (h1.1 rfl) hno
theorem C_lightOpsY {A : Option Addr} {L : List Opn} {n c m : Nat} {mi : Int} (w : World) (hL : RO w A L) (hyes : LtO L m) (hn : n = L.length) (hm : mi = (m : Int)) (hl : L.length ≤ 9223372036854775807) (hmm : m ≤ 1000) :
  CallsR Tryz.prog 25 [.slice A n c, .int .i64 mi] w fun v w' => v = .bool true ∧ Below w.heap.size w w' := by
 refine CallsR.mono (C_lightOps (c := c) w hL hn hm hl hmm) ?_
 rintro v w' ⟨b, rfl, h1, h2⟩
 rw [h1.2 hyes]
 exact ⟨rfl, h2⟩
theorem C_lightStateN {A B C : Option Addr} {I : List (By × By)} {X Y : List Ky} {n c p d q e m : Nat} {mi : Int} (w : World) (hno : ¬LtS I X Y m) (hA : RI w A I) (hn : n = I.length) (hp : p = X.length) (hq : q = Y.length) (hm : mi = (m : Int)) (hmm : m ≤ 1000) :
  CallsR Tryz.prog 20 [.agg #[.slice A n c, .slice B p d, .slice C q e], .int .i64 mi] w fun v w' => v = .bool false ∧ Below w.heap.size w w' := by
 refine CallsR.mono (C_lightState (B := B) (C := C) (c := c) (d := d) (e := e) w hA hn hp hq hm hmm) ?_
 rintro v w' ⟨b, rfl, h1, h2⟩
 cases b
 ·exact ⟨rfl, h2⟩
 ·exact absurd (h1.1 rfl) hno
theorem C_lightStateY {A B C : Option Addr} {I : List (By × By)} {X Y : List Ky} {n c p d q e m : Nat} {mi : Int} (w : World) (hyes : LtS I X Y m) (hA : RI w A I) (hn : n = I.length) (hp : p = X.length) (hq : q = Y.length) (hm : mi = (m : Int)) (hmm : m ≤ 1000) :
  CallsR Tryz.prog 20 [.agg #[.slice A n c, .slice B p d, .slice C q e], .int .i64 mi] w fun v w' => v = .bool true ∧ Below w.heap.size w w' := by
 refine CallsR.mono (C_lightState (B := B) (C := C) (c := c) (d := d) (e := e) w hA hn hp hq hm hmm) ?_
 rintro v w' ⟨b, rfl, h1, h2⟩
 rw [h1.2 hyes]
 exact ⟨rfl, h2⟩
end Go.Proofs.YtahkeoegbjopfaaGreat
namespace Go.Proofs.YtahkeoegbjopfaaGreat
set_option maxRecDepth 100000
open Go.RowKit
structure FoldR (I : List (By × By)) (X Y : List Ky) (L : List Bk) (I' : List (By × By)) (X' Y' : List Ky) : Prop where
 h : foldS (I, X, Y) L = (I', X', Y')
theorem C_foldN {A B C D : Option Addr} {I I' : List (By × By)} {X Y X' Y' : List Ky} {L : List Bk} {n c m d q e r s : Nat} (w : World) (hA : RI w A I) (hB : RKs w B X) (hC : RKs w C Y) (hD : RBk w D L) (hr0 : FoldR I X Y L I' X' Y') (hn : n = I.length) (hm : m = X.length) (hq : q = Y.length) (hr : r = L.length) (hl : I.length ≤ 400000) (hl2 : X.length ≤ 400000) (hl3 : Y.length ≤ 400000) (hL : LtI I) (hl4 : L.length ≤ 40000) (hLB : LtB L) (hok : OkSt I X Y) :
  CallsR Tryz.prog 10 [.agg #[.slice A n c, .slice B m d, .slice C q e], .slice D r s] w fun v w' => ∃ A' c' B' d' C' e', v = .agg #[.slice A' I'.length c', .slice B' X'.length d', .slice C' Y'.length e'] ∧ OwnI w' w.heap.size w'.heap.size A' c' I' ∧ OwnKs w' w.heap.size w'.heap.size B' d' X' ∧ OwnKs w' w.heap.size w'.heap.size C' e' Y' ∧ Below w.heap.size w w' := by
 have h := K_fold (S := (I, X, Y)) (n := n) (c := c) (m := m) (d := d) (q := q) (e := e) (r := r) (s := s) w hA hB hC hD hn hm hq hr hl hl2 hl3 hL hl4 hLB hok
 rwa [hr0.h] at h
section
variable {N : Nat} {fr : Fr} {w : World} {ty : TypeId} {x : Operand} {b : UInt8}
end
abbrev Ded := Int × List Opn
section
variable {w w' : World} {A : Option Addr} {L : List Ded}
end
section
variable {fn : Func} {F : Ending → World → Prop} {N : Nat} {ks : List K} {ops : Array Oper} {tg : Tags} {l : List Oper} {fr : Fr} {w w0 : World} {ty : TypeId} {pos : String} {aft : Array Edge} {gd : Option (Nat × Bool)} {d0 j o : Nat} {x : Operand} {A : Option Addr} {L : List Ded}
end
end Go.Proofs.YtahkeoegbjopfaaGreat
namespace Go.Proofs.YtahkeoegbjopfaaGreat
set_option maxRecDepth 100000
open Go.RowKit
end Go.Proofs.YtahkeoegbjopfaaGreat
namespace Go.Proofs.YtahkeoegbjopfaaGreat
set_option maxRecDepth 100000
def only3 (m k1 k2 k3 : Nat) : List Nat → Nat → Bool
 | [], _ => true
 | d :: D, j => (Nat.beq j k1 || (Nat.beq j k2 || (Nat.beq j k3 || (Nat.testBit m j || !Nat.beq (Nat.land d m) d)))) && only3 m k1 k2 k3 D (j + 1)
theorem only3_spec {m k1 k2 k3 : Nat} : ∀ (D : List Nat) (j : Nat), only3 m k1 k2 k3 D j = true → ∀ i d, D[i]? = some d → j + i = k1 ∨ j + i = k2 ∨ j + i = k3 ∨ m.testBit (j + i) = true ∨ Nat.beq (Nat.land d m) d = false
 | [], _, _, i, d, h => by simp at h
 | x :: D, j, hc, i, d, hd => by
  unfold only3 at hc
  simp only [Bool.and_eq_true, Bool.or_eq_true, Bool.not_eq_true'] at hc
  cases i with
  | zero =>
   obtain rfl : x = d := by simpa using hd
   rcases hc.1 with h | h | h | h | h
   ·exact .inl (Nat.eq_of_beq_eq_true h)
   ·exact .inr (.inl (Nat.eq_of_beq_eq_true h))
   ·exact .inr (.inr (.inl (Nat.eq_of_beq_eq_true h)))
   ·exact .inr (.inr (.inr (.inl h)))
   ·exact .inr (.inr (.inr (.inr h)))
  | succ i =>
   have := only3_spec D (j + 1) hc.2 i d (by simpa using hd)
   rwa [show j + 1 + i = j + (i + 1) by omega] at this
section
variable {P : Program} {fn : Func} {F : Ending → World → Prop} {N : Nat} {ks : List K} {ops : Array Oper} {fr : Fr} {w : World}
theorem Marks.only3 {D A : List Nat} {listed : Array Bool} {m : Nat} (h : Marks .any ops D A listed m) {k1 k2 k3 : Nat} (hk : only3 m k1 k2 k3 D 0 = true) : ∀ j ∈ Region.ready .any ops listed, j = k1 ∨ j = k2 ∨ j = k3 := by
 intro j hj
 obtain ⟨hun, o, ho, hall⟩ := mem_ready.1 hj
 have hlt : j < ops.size := (Array.getElem?_eq_some_iff.1 ho).1
 rw [h.getD hlt] at hun
 rcases only3_spec D 0 hk j _ (h.dAt ho) with h1 | h1 | h1 | h1 | h1
 ·exact .inl (by simpa using h1)
 ·exact .inr (.inl (by simpa using h1))
 ·exact .inr (.inr (by simpa using h1))
 ·rw [Nat.zero_add, hun] at h1; cases h1
 ·rw [h.subset.2 hall] at h1; cases h1
theorem wl_fork3 {row : Rw} {m L C n k1 k2 k3 : Nat} {l1 l2 l3 : List Oper} {ts1 ts2 ts3 : List (Tag × Nat)} (D A : List Nat) (hD : ops.toList.map (dmask .any) = D) (hA : ancs .any ops.toList [] = A)
  (hc : (Nat.testBit L k1 && (Nat.testBit L k2 && (Nat.testBit L k3 && (rdyK D m k1 && (rdyK D m k2 && (rdyK D m k3 && (Go.Proofs.YtahkeoegbjopfaaGreat.only3 m k1 k2 k3 D 0 && (Nat.beq n (l1.length + extra ts1) && (Nat.beq n (l2.length + extra ts2) && (Nat.beq n (l3.length + extra ts3) && (chk ops ops.toList D A L C ts1 (m ||| 2 ^ k1) && (chk ops ops.toList D A L C ts2 (m ||| 2 ^ k2) && chk ops ops.toList D A L C ts3 (m ||| 2 ^ k3))))))))))))) = true)
  (hl1 : l1.map some = ops[k1]? :: opsOf ops ts1) (hl2 : l2.map some = ops[k2]? :: opsOf ops ts2) (hl3 : l3.map some = ops[k3]? :: opsOf ops ts3)
  (h1 : WL P fn F N ks ops (some (row, (.g m L C, k1) :: ts1)) l1 fr w) (h2 : WL P fn F N ks ops (some (row, (.g m L C, k2) :: ts2)) l2 fr w) (h3 : WL P fn F N ks ops (some (row, (.g m L C, k3) :: ts3)) l3 fr w) : WL P fn F N ks ops (some (row, [(.f m L C, n)])) [] fr w := fun a ha => by
 intro D' A' L' C' listed m' hm _ hchk
 unfold chk at hchk
 simp only [Bool.and_eq_true] at hchk hc
 obtain ⟨hm1, hL1, hC1⟩ := hchk
 obtain rfl := Nat.eq_of_beq_eq_true hm1
 obtain rfl := Nat.eq_of_beq_eq_true hL1
 obtain rfl := Nat.eq_of_beq_eq_true hC1
 obtain rfl : D' = D := by rw [hm.D, hD]
 obtain rfl : A' = A := by rw [hm.A, hA]
 obtain ⟨c1, c2, c3, c4, c5, c6, c7, c8, c9, c10, c11, c12, c13⟩ := hc
 obtain ⟨o1, r1, rfl⟩ : ∃ o r, l1 = o :: r := by cases l1 with | nil => simp at hl1 | cons o r => exact ⟨o, r, rfl⟩
 obtain ⟨o2, r2, rfl⟩ : ∃ o r, l2 = o :: r := by cases l2 with | nil => simp at hl2 | cons o r => exact ⟨o, r, rfl⟩
 obtain ⟨o3, r3, rfl⟩ : ∃ o r, l3 = o :: r := by cases l3 with | nil => simp at hl3 | cons o r => exact ⟨o, r, rfl⟩
 obtain ⟨a1, b1⟩ := head_of hl1
 obtain ⟨a2, b2⟩ := head_of hl2
 obtain ⟨a3, b3⟩ := head_of hl3
 have e1 : n = (r1.length + extra ts1) + 1 := by have := Nat.eq_of_beq_eq_true c8; rw [this]; exact fuel_succ r1 _
 have e2 : n = (r2.length + extra ts2) + 1 := by have := Nat.eq_of_beq_eq_true c9; rw [this]; exact fuel_succ r2 _
 have e3 : n = (r3.length + extra ts3) + 1 := by have := Nat.eq_of_beq_eq_true c10; rw [this]; exact fuel_succ r3 _
 have w1 := h1 a ha D' A' listed o1 r1 rfl hm a1 b1 (hm.ready c4) c11
 have w2 := h2 a ha D' A' listed o2 r2 rfl hm a2 b2 (hm.ready c5) c12
 have w3 := h3 a ha D' A' listed o3 r3 rfl hm a3 b3 (hm.ready c6) c13
 have e0 : r1.length + extra ts1 = r2.length + extra ts2 := by omega
 have e0' : r1.length + extra ts1 = r3.length + extra ts3 := by omega
 show wpMix P .any ops _ _ _ row (0 + n) listed a w
 rw [Nat.zero_add, e1]
 refine ⟨fun h => (by have := hm.ready c4; rw [h] at this; cases this), fun j hj => ?_⟩
 rcases hm.only3 c7 j hj with rfl | rfl | rfl
 ·rw [if_pos c1]; exact w1
 ·rw [if_pos c2, e0]; exact w2
 ·rw [if_pos c3, e0']; exact w3
theorem wl_forkf3 {row : Rw} {m L C n k1 k2 k3 : Nat} {ops : List Oper} (R : Fr → Fr → World → Prop) (D A : List Nat) (ord1 ord2 ord3 ordR : List Nat) (ts1 ts2 ts3 tsR : List (Tag × Nat)) (hD : ops.map (dmask .any) = D) (hA : ancs .any ops [] = A)
  (hc : (Nat.testBit L k1 && (Nat.testBit L k2 && (Nat.testBit L k3 && (rdyK D m k1 && (rdyK D m k2 && (rdyK D m k3 && (Go.Proofs.YtahkeoegbjopfaaGreat.only3 m k1 k2 k3 D 0 && (Nat.beq n ((inOrder ops ord1).length + extra ts1) && (Nat.beq n ((inOrder ops ord2).length + extra ts2) && (Nat.beq n ((inOrder ops ord3).length + extra ts3) && (chk ops.toArray ops D A L C ts1 (m ||| 2 ^ k1) && (chk ops.toArray ops D A L C ts2 (m ||| 2 ^ k2) && chk ops.toArray ops D A L C ts3 (m ||| 2 ^ k3))))))))))))) = true)
  (hl1 : (inOrder ops ord1).map some = ops.toArray[k1]? :: opsOf ops.toArray ts1) (hl2 : (inOrder ops ord2).map some = ops.toArray[k2]? :: opsOf ops.toArray ts2) (hl3 : (inOrder ops ord3).map some = ops.toArray[k3]? :: opsOf ops.toArray ts3)
  (h0 : ∀ fr' w, R fr fr' w → WL P fn F N ks ops.toArray (some (row, tsR)) (inOrder ops ordR) fr' w)
  (h1 : (∀ fr' w, R fr fr' w → WL P fn F N ks ops.toArray (some (row, tsR)) (inOrder ops ordR) fr' w) → WL P fn F N ks ops.toArray (some (row, (.g m L C, k1) :: ts1)) (inOrder ops ord1) fr w)
  (h2 : (∀ fr' w, R fr fr' w → WL P fn F N ks ops.toArray (some (row, tsR)) (inOrder ops ordR) fr' w) → WL P fn F N ks ops.toArray (some (row, (.g m L C, k2) :: ts2)) (inOrder ops ord2) fr w)
  (h3 : (∀ fr' w, R fr fr' w → WL P fn F N ks ops.toArray (some (row, tsR)) (inOrder ops ordR) fr' w) → WL P fn F N ks ops.toArray (some (row, (.g m L C, k3) :: ts3)) (inOrder ops ord3) fr w) : WL P fn F N ks ops.toArray (some (row, [(.f m L C, n)])) [] fr w :=
 wl_fork3 D A hD hA hc hl1 hl2 hl3 (h1 h0) (h2 h0) (h3 h0)
theorem wl_fork3j {row : Rw} {m L C n k1 k2 k3 : Nat} {ops : List Oper} (R : Fr → World → Prop) (D A : List Nat) (ord1 ord2 ord3 ordR : List Nat) (ts1 ts2 ts3 tsR : List (Tag × Nat)) (hD : ops.map (dmask .any) = D) (hA : ancs .any ops [] = A)
  (hc : (Nat.testBit L k1 && (Nat.testBit L k2 && (Nat.testBit L k3 && (rdyK D m k1 && (rdyK D m k2 && (rdyK D m k3 && (Go.Proofs.YtahkeoegbjopfaaGreat.only3 m k1 k2 k3 D 0 && (Nat.beq n ((inOrder ops ord1).length + extra ts1) && (Nat.beq n ((inOrder ops ord2).length + extra ts2) && (Nat.beq n ((inOrder ops ord3).length + extra ts3) && (chk ops.toArray ops D A L C ts1 (m ||| 2 ^ k1) && (chk ops.toArray ops D A L C ts2 (m ||| 2 ^ k2) && chk ops.toArray ops D A L C ts3 (m ||| 2 ^ k3))))))))))))) = true)
  (hl1 : (inOrder ops ord1).map some = ops.toArray[k1]? :: opsOf ops.toArray ts1) (hl2 : (inOrder ops ord2).map some = ops.toArray[k2]? :: opsOf ops.toArray ts2) (hl3 : (inOrder ops ord3).map some = ops.toArray[k3]? :: opsOf ops.toArray ts3)
  (h0 : ∀ fr' w, R fr' w → WL P fn F N ks ops.toArray (some (row, tsR)) (inOrder ops ordR) fr' w)
  (h1 : (∀ fr' w, R fr' w → WL P fn F N ks ops.toArray (some (row, tsR)) (inOrder ops ordR) fr' w) → WL P fn F N ks ops.toArray (some (row, (.g m L C, k1) :: ts1)) (inOrder ops ord1) fr w)
  (h2 : (∀ fr' w, R fr' w → WL P fn F N ks ops.toArray (some (row, tsR)) (inOrder ops ordR) fr' w) → WL P fn F N ks ops.toArray (some (row, (.g m L C, k2) :: ts2)) (inOrder ops ord2) fr w)
  (h3 : (∀ fr' w, R fr' w → WL P fn F N ks ops.toArray (some (row, tsR)) (inOrder ops ordR) fr' w) → WL P fn F N ks ops.toArray (some (row, (.g m L C, k3) :: ts3)) (inOrder ops ord3) fr w) : WL P fn F N ks ops.toArray (some (row, [(.f m L C, n)])) [] fr w :=
 wl_fork3 D A hD hA hc hl1 hl2 hl3 (h1 h0) (h2 h0) (h3 h0)
end
end Go.Proofs.YtahkeoegbjopfaaGreat
namespace Go.Proofs.YtahkeoegbjopfaaGreat
set_option maxRecDepth 100000
open Go.RowKit
section
variable {fn : Func} {F : Ending → World → Prop} {N : Nat} {ks : List K} {ops : Array Oper} {tg : Tags} {l : List Oper} {fr : Fr} {w w0 : World} {ty : TypeId} {pos : String} {aft : Array Edge} {gd : Option (Nat × Bool)} {d j q lo hi : Nat} {x y : Operand} {A B : Option Addr} {M : List Ky}
theorem wl_appKs0 (hx : fr.ev x = some (.slice A 0 0)) (hown : OwnKs w lo hi A 0 []) (hy : fr.ev y = some (.slice B j q)) (hr : RKs w0 B M) (hb : Below w0.heap.size w0 w) (hj : j = M.length) (hlen : M.length ≤ 1000000) (hB : lo ≤ w.heap.size)
  (h : ∀ A' c' w', OwnKs w' lo w'.heap.size A' c' M → Below w.heap.size w w' → WL Tryz.prog fn F N ks ops tg.tail l ((d, .slice A' M.length c') :: fr) w')
  (ht : tg.loud = true := by rfl) (hg : onG ops fr gd = true := by rfl) (hd : Nat.blt d N = true := by rfl) :
  WL Tryz.prog fn F N ks ops tg (⟨some d, .call { callee := .builtin .append, args := #[x, y], argTypes := #[29, 29] }, ty, pos, aft, gd⟩ :: l) fr w := by
 subst hj
 obtain ⟨xs, g1, g2⟩ := hown
 obtain rfl : xs = [] := List.eq_nil_of_length_eq_zero (by have := g1.rd.1; simpa using this)
 obtain ⟨ms, r1, r3⟩ := RSl.u hr hb
 refine wl_appR0 Tryz.rowKs hx g1 hy r1 (fun u hu => ?_) (by simp only [maxLen]; omega) (by omega) hB (fun A' c' w' k1 k2 => h A' c' w' ⟨ms, k1, fun i hi => ?_⟩ k2) ht hg hd
 ·obtain ⟨i, hi, rfl⟩ := List.getElem_of_mem hu
  have hml : ms.length = M.length * 32 := r1.1
  have hq : i / 32 < M.length := by omega
  refine gKey_one w _ _ (r3 _ hq) _ (List.mem_of_getElem? (i := i % 32) ?_)
  show (part ms 32 (i / 32))[i % 32]? = some ms[i]
  rw [part_get (Nat.mod_lt _ (by omega)), Nat.div_add_mod' i 32]
  exact List.getElem?_eq_getElem hi
 ·exact r3 i hi
end
def ItV (w : World) (A : Option Addr) (j : Nat) (V : Option Addr) (m d : Nat) : Prop := ∃ v0, CellsAt w A (j * 2) [v0, .slice V m d]
theorem ItV.u {w w' : World} {A V : Option Addr} {j m d : Nat} (h : ItV w A j V m d) (hb : Below w.heap.size w w') : ItV w' A j V m d := by
 obtain ⟨v0, h1⟩ := h
 exact ⟨v0, h1.u hb⟩
theorem o_ldItV {N : Nat} {fr : Fr} {w w0 : World} {ty : TypeId} {x : Operand} {A V : Option Addr} {j o m d : Nat} (hx : fr.ev x = some (.pointer (some (adr A (j * 2 + o))))) (ho : o = 1) (h : ItV w0 A j V m d) (hb : Below w0.heap.size w0 w) : OpV Tryz.prog N fr w (.load 39 x) ty (.slice V m d) w := by
 subst ho
 obtain ⟨v0, h1⟩ := h.u hb
 exact o_load (t := 39) Tryz.isAgg39 hx (h1 1 _ rfl)
set_option maxRecDepth 100000 in
set_option maxHeartbeats 2000000 in
theorem C_kOwnState {A B C : Option Addr} {I : List (By × By)} {X Y : List Ky} {n c m d q e : Nat} (w : World) (hA : RI w A I) (hB : RKs w B X) (hC : RKs w C Y) (hn : n = I.length) (hm : m = X.length) (hq : q = Y.length) (hl : I.length ≤ 400000) (hl2 : X.length ≤ 400000) (hl3 : Y.length ≤ 400000) (hL : LtI I) :
  CallsR Tryz.prog 16 [.agg #[.slice A n c, .slice B m d, .slice C q e]] w fun v w' => ∃ A' c' B' d' C' e', v = .agg #[.slice A' I.length c', .slice B' X.length d', .slice C' Y.length e'] ∧ OwnI w' w.heap.size w'.heap.size A' c' I ∧ OwnKs w' w.heap.size w'.heap.size B' d' X ∧ OwnKs w' w.heap.size w'.heap.size C' e' Y ∧ Below w.heap.size w w' := by
 subst hn; subst hm; subst hq
 refine callsR Tryz.func16 rfl rfl (by kernel_rfl) rfl ?_
 have hw := Below.refl w.heap.size w
 refine zs ?_
 refine wl_boxg [_, _, _] rfl (by rfl) ?_
 rintro g1 w1 f1 b1 i1 i1_1
 have s1 := b1.size
 replace hw := hw.trans (b1.mono hw.size)
 refine wl_allocg [_, _, _] Tryz.zeroValue31 (by rfl) ?_
 rintro g2 w2 f2 b2 i2 i2_1
 have s2 := b2.size
 replace hw := hw.trans (b2.mono hw.size)
 replace f1 := f1.u b2
 refine wl_nil (rk_seq ?_)
 refine rk_drawoB (id := 1) (none) [0, 0, 2, 5, 0, 0, 32, 88, 136, 0, 1023] [0, 0, 2, 7, 0, 0, 32, 127, 255, 0, 1023] 1689 537 [1, 2, 5, 6] [(.p, 1), (.s, 2), (.p, 5), (.s, 6), (.f 102 1689 537, 7)] (by kernel_rfl) (by kernel_rfl) (by kernel_rfl) (by kernel_rfl) (by kernel_rfl) ?_
 dsimp only [inOrder, nthOp]
 replace hw := hw.drew
 replace f1 := f1.d
 replace f2 := f2.d
 refine zp (o_faddr (s := 31) (i := 1) (off := 1) Tryz.underlying31 rfl Tryz.sizeOf29 rfl rfl rfl) ?_
 refine wl_s (fun _ hk => (o_loadbg Tryz.isAgg29 rfl (f1.u (below_of_ok hk (Nat.le_refl _) (fun _ e => by cases e))) (by rfl))) ?_
 refine zp (o_faddr (s := 31) (i := 2) (off := 2) Tryz.underlying31 rfl Tryz.sizeOf29 rfl rfl rfl) ?_
 refine wl_s (fun _ hk => (o_loadbg Tryz.isAgg29 rfl (f1.u (below_of_ok hk (Nat.le_refl _) (fun _ e => by cases e))) (by rfl))) ?_
 have szw := hw.size
 have hdr : w2.drew.heap.size = w2.heap.size := rfl
 refine wl_forkf3 (m := 102) (L := 1689) (C := 537) (n := 7) (k1 := 0) (k2 := 4) (k3 := 9) (fun fb fr V => ∃ (A8 : Option Addr) (c8 : Nat) (A12 : Option Addr) (c12 g3 : Nat), fr = [(3, .pointer (some ⟨g3, 0, none⟩)), (13, .agg #[.slice none 0 0, .slice A8 X.length c8, .slice A12 Y.length c12])] ++ fb ∧ OwnKs V w2.heap.size V.heap.size A8 c8 X ∧ OwnKs V w2.heap.size V.heap.size A12 c12 Y ∧ Blk V g3 31 [.slice none 0 0, .slice none 0 0, .slice none 0 0] ∧ Blk V g1 31 [.slice A I.length c, .slice B X.length d, .slice C Y.length e] ∧ Blk V g2 31 [.slice none 0 0, .slice none 0 0, .slice none 0 0] ∧ w2.heap.size ≤ g3 ∧ Below w.heap.size w V) [0, 0, 2, 5, 0, 0, 32, 88, 136, 0, 1023] [0, 0, 2, 7, 0, 0, 32, 127, 255, 0, 1023] [0] [4] [9] [10] [(.f 103 1689 537, 6)] [(.f 118 1689 537, 6)] [(.f 614 1689 537, 6)] [(.l, 10)] (by kernel_rfl) (by kernel_rfl) (by kernel_rfl) (by kernel_rfl) (by kernel_rfl) (by kernel_rfl) ?_ (fun hj => ?_) (fun hj => ?_) (fun hj => ?_) <;> dsimp only [inOrder, nthOp]
 ·clear f1 f2 hw
  rintro fr V ⟨A8, c8, A12, c12, g3, rfl, f8, f12, f3, f1, f2, hg3, hw⟩
  have hgV : w2.heap.size ≤ V.heap.size := by have := f3.lt; omega
  first | refine zf ?_ | refine zg ?_
  refine wl_storega Tryz.sizeOf31 rfl rfl (by rfl) (oneCell_of (by rfl)) f3 (by rfl) ?_
  rintro w_1 f g e_1
  have s := g.size
  replace hw := hw.trans (below_of_grownBy g.g hw.size (by omega))
  replace f2 := f2.k g.g (ap_some (by omega))
  replace f1 := f1.k g.g (ap_some (by omega))
  replace f12 := f12.y g (by decide)
  replace f8 := f8.y g (by decide)
  clear f3
  refine wl_nild ?_
  refine rk_seq (zs (za rfl (wl_nil (rk_block ?_))))
  have hw9 := hw.size
  refine rk_joinf (fun fb fr V2 => ∃ A' c', fr = [] ++ fb.drop 1 ∧ OwnI V2 w2.heap.size V2.heap.size A' c' I ∧ OwnKs V2 w2.heap.size V.heap.size A8 c8 X ∧ OwnKs V2 w2.heap.size V.heap.size A12 c12 Y ∧ Blk V2 g3 31 [.slice A' I.length c', .slice A8 X.length c8, .slice A12 Y.length c12] ∧ Blk V2 g1 31 [.slice A I.length c, .slice B X.length d, .slice C Y.length e] ∧ Blk V2 g2 31 [.slice none 0 0, .slice none 0 0, .slice none 0 0] ∧ V.heap.size ≤ V2.heap.size ∧ Below w.heap.size w V2) ?_ (fun ks hj => ?_)
  rotate_left
  ·refine rk_loopf (fun fb k fr V2 => ∃ (i : Nat) (v : Int) (A' : Option Addr) (c' : Nat) (J : List (By × By)), fr = [(4, .int .i64 v)] ++ fb.drop 1 ∧ v = i ∧ i ≤ I.length ∧ k = I.length - i ∧ J = I.take i ∧ OwnI V2 w2.heap.size V2.heap.size A' c' J ∧ OwnKs V2 w2.heap.size V.heap.size A8 c8 X ∧ OwnKs V2 w2.heap.size V.heap.size A12 c12 Y ∧ Blk V2 g3 31 [.slice A' J.length c', .slice A8 X.length c8, .slice A12 Y.length c12] ∧ Blk V2 g1 31 [.slice A I.length c, .slice B X.length d, .slice C Y.length e] ∧ Blk V2 g2 31 [.slice none 0 0, .slice none 0 0, .slice none 0 0] ∧ V.heap.size ≤ V2.heap.size ∧ Below w.heap.size w V2) (n := I.length) (Fr.le_of (by kernel_rfl) (by kernel_rfl) (by repeat' constructor)) ⟨0, _, none, 0, [], rfl, rfl, by omega, rfl, rfl, OwnI.nil_, f8, f12, f, f1, f2, by omega, hw⟩ ?_
   clear hw f8 f12 f f1 f2
   rintro k fr V2 ⟨i, v, A', c', J, rfl, rfl, hi, rfl, hJ, fo, f8, f12, f, f1, f2, hsz, hw⟩
   have shw := hw.size
   have hJl : J.length = i := by rw [hJ, List.length_take]; omega
   first | refine zf ?_ | refine zg ?_
   refine rk_seq (zs (zm rfl ?_))
   refine zp (o_faddr (s := 31) (i := 0) (off := 0) Tryz.underlying31 rfl Tryz.sizeOf28 rfl rfl rfl) ?_
   refine wl_r (o_loadbg Tryz.isAgg28 rfl f1 (by rfl)) ?_
   refine zp (o_len (t := 28) Tryz.underlying28 rfl) ?_
   refine zp (o_lt rfl rfl) ?_
   refine wl_nil ?_
   refine rk_if rfl (fun h18 => ?_) (fun h18 => ?_)
   ·have hil : i < I.length := by omega
    obtain ⟨n1, n2⟩ := hL _ (List.getElem_mem hil)
    obtain ⟨Ai, ci, Vi, di, hcell, r1, r2, r3, r4⟩ := hA.elem hil
    have hiv : ItV w A i Vi I[i].2.length di := ⟨_, hcell⟩
    clear hcell
    refine rk_skip (rk_seq (rk_block ?_))
    refine rk_drawo (id := 5) (none) [0, 1, 0, 4, 0, 24, 32, 64, 128, 0, 512, 0, 3072, 4096, 8192, 16640, 33024, 65536, 163842, 524287, 1048575] [0, 1, 0, 4, 0, 28, 60, 124, 252, 0, 512, 0, 3584, 7680, 15872, 32764, 65532, 131068, 262143, 524287, 1048575] 1474816 164096 [0, 1, 2, 3, 4, 5, 6, 7, 9, 10, 11, 12, 13, 14, 8, 15, 16, 17, 18, 19, 20] [(.p, 0), (.s, 1), (.p, 2), (.r, 3), (.p, 4), (.p, 5), (.p, 6), (.r, 7), (.p, 9), (.s, 10), (.p, 11), (.p, 12), (.p, 13), (.s, 14), (.c, 8), (.c, 15), (.p, 16), (.c, 17), (.l, 18), (.p, 19), (.l, 20)] (by kernel_rfl) (by kernel_rfl) (by kernel_rfl) (by kernel_rfl) (by kernel_rfl) ?_
    dsimp only [inOrder, nthOp]
    replace hw := hw.drew
    replace f2 := f2.d
    replace f1 := f1.d
    replace f := f.d
    replace f12 := f12.d
    replace f8 := f8.d
    replace fo := fo.d
    refine zp (o_faddr (s := 31) (i := 0) (off := 0) Tryz.underlying31 rfl Tryz.sizeOf28 rfl rfl rfl) ?_
    refine wl_s (fun _ hk => (o_loadbg Tryz.isAgg28 rfl (f.u (below_of_grown_none hk)) (by rfl))) ?_
    refine zp (o_faddr (s := 31) (i := 0) (off := 0) Tryz.underlying31 rfl Tryz.sizeOf28 rfl rfl rfl) ?_
    refine wl_r (o_loadbg Tryz.isAgg28 rfl f1 (by rfl)) ?_
    refine zm rfl ?_
    refine zp (o_iaddrA (i) Tryz.underlying28 Tryz.sizeOf94 rfl rfl rfl (hA.some_ (by omega)) (by omega)) ?_
    refine zp (o_faddrR rfl Tryz.underlying94 (by rfl) Tryz.sizeOf39 (by rfl) (by rfl)) ?_
    refine wl_ldKey rfl hA hw (by omega) ?_
    rintro A128 c128 f28 i28
    refine zp (o_faddr (s := 31) (i := 0) (off := 0) Tryz.underlying31 rfl Tryz.sizeOf28 rfl rfl rfl) ?_
    refine wl_s (fun _ hk => (o_loadbg Tryz.isAgg28 rfl (f1.u (below_of_grown_none hk)) (by rfl))) ?_
    refine zm rfl ?_
    refine zp (o_iaddrA (i) Tryz.underlying28 Tryz.sizeOf94 rfl rfl rfl (hA.some_ (by omega)) (by omega)) ?_
    refine zp (o_faddrR rfl Tryz.underlying94 (by rfl) Tryz.sizeOf39 (by rfl) (by rfl)) ?_
    refine wl_s (fun _ hk => (o_ldItV rfl (by rfl) hiv (hw.trans ((below_of_grown_none hk).mono hw.size)))) ?_
    refine wl_call rfl (C_kOwn _ (f28.u hw) rfl (by omega)) ?_ (hq := .inr fun _ _ h => grown_of_below h.choose_spec.choose_spec.2.2 _)
    rintro v29 w29 ⟨A29, ⟨c29, ⟨rfl, ⟨f29, b29⟩⟩⟩⟩
    simp only [drew_size] at f29
    simp only [drew_size] at b29
    have qf29 := f29.cap
    have s29 := b29.size
    simp only [drew_size] at s29
    replace hw := hw.trans (b29.mono hw.size)
    replace fo := fo.u b29
    replace f8 := f8.u b29
    replace f12 := f12.u b29
    replace f := f.u b29
    replace f1 := f1.u b29
    replace f2 := f2.u b29
    refine wl_call rfl (C_kOwn _ (r2.u hw) rfl (by omega)) ?_ (hq := .inr fun _ _ h => grown_of_below h.choose_spec.choose_spec.2.2 _)
    rintro v36 w36 ⟨A36, ⟨c36, ⟨rfl, ⟨f36, b36⟩⟩⟩⟩
    have qf36 := f36.cap
    have s36 := b36.size
    replace hw := hw.trans (b36.mono hw.size)
    replace f2 := f2.u b36
    replace f1 := f1.u b36
    replace f := f.u b36
    replace f12 := f12.u b36
    replace f8 := f8.u b36
    replace fo := fo.u b36
    replace f29 := f29.u b36
    refine zp (o_buildg [_, _] Tryz.underlying94 Tryz.zeroValue94 (by rfl) (by rfl) rfl (by rfl) (by rfl) (fun _ => by kernel_rfl)) ?_
    have m1 := own_max f29
    have m2 := own_max f36
    refine wl_litItm (by rfl) rfl f29.to_RdT f36.to_RdT rfl rfl (by omega) (by omega) (by omega) (by omega) (by rfl) ?_
    rintro A38 w38 f38 b38
    have qf38 := f38.cap
    have s38 := b38.size
    replace hw := hw.trans (b38.mono hw.size)
    replace f29 := f29.u b38
    replace fo := fo.u b38
    replace f8 := f8.u b38
    replace f12 := f12.u b38
    replace f := f.u b38
    replace f1 := f1.u b38
    replace f2 := f2.u b38
    replace f36 := f36.u b38
    refine wl_appItm rfl fo rfl rfl f38.to_RIT (by rfl) (by omega) (by omega) ?_
    rintro A39 c39 w39 f39 g39 b39
    have qf39 := f39.cap
    have s39 := g39.size
    replace hw := hw.trans (b39.mono (by omega))
    replace f36 := f36.y g39 (by decide)
    replace f2 := f2.y g39 (by decide)
    replace f1 := f1.y g39 (by decide)
    replace f := f.y g39 (by decide)
    replace f12 := f12.y g39 (by decide)
    replace f8 := f8.y g39 (by decide)
    replace f29 := f29.y g39 (by decide)
    replace f38 := f38.q g39 (fo.ap (by omega)) (by decide)
    clear fo
    refine zp (o_faddr (s := 31) (i := 0) (off := 0) Tryz.underlying31 rfl Tryz.sizeOf28 rfl rfl rfl) ?_
    refine wl_storeg1 Tryz.sizeOf28 rfl rfl (by rfl) f (by simp) ?_
    rintro w_2 f_1 g_1 e_2
    have s_1 := g_1.size
    replace hw := hw.trans (below_of_grownBy g_1.g hw.size (by omega))
    replace f38 := f38.y g_1 (by decide)
    replace f29 := f29.y g_1 (by decide)
    replace f8 := f8.y g_1 (by decide)
    replace f12 := f12.y g_1 (by decide)
    replace f1 := f1.k g_1.g (ap_some (by omega))
    replace f2 := f2.k g_1.g (ap_some (by omega))
    replace f36 := f36.y g_1 (by decide)
    replace f39 := f39.y g_1 (by decide)
    clear f
    refine wl_nild ?_
    refine rk_blk ?_
    refine rk_region (zm rfl ?_)
    refine zp (o_add rfl rfl (by omega) (by omega)) ?_
    refine za rfl (wl_nil ?_)
    exact rk_againf (Fr.le_of (by kernel_rfl) (by kernel_rfl) (by repeat' constructor)) ⟨i + 1, (i : Int) + 1, A39, c39, J ++ [(I[i].1, I[i].2)], rfl, by omega, by omega, rfl, by rw [hJ, List.take_succ_eq_append_getElem hil], f39.base (by omega) (by omega), f8, f12, by assumption, f1, f2, by omega, hw⟩ (by omega)
   ·refine rk_exit rfl ?_
    obtain rfl : i = I.length := by omega
    rw [List.take_length] at hJ
    subst hJ
    exact rk_tof hj (Fr.le_of (by kernel_rfl) (by kernel_rfl) (by repeat' constructor)) ⟨A', c', rfl, fo, f8, f12, f, f1, f2, hsz, hw⟩
  clear hw f8 f12 f f1 f2
  rintro fr V2 ⟨A', c', rfl, fo, f8, f12, f, f1, f2, hsz, hw⟩
  have shw := hw.size
  first | refine zf ?_ | refine zg ?_
  refine zs ?_
  refine wl_r (o_loadag Tryz.isAgg31 Tryz.sizeOf31 rfl f (by rfl)) ?_
  refine wl_storega Tryz.sizeOf31 rfl rfl (by rfl) (oneCell_of (by rfl)) f2 (by rfl) ?_
  rintro w_2 f_1 g_1 e_2
  have s_1 := g_1.size
  replace hw := hw.trans (below_of_grownBy g_1.g hw.size (by omega))
  replace f1 := f1.k g_1.g (ap_some (by omega))
  replace f := f.k g_1.g (ap_some (by omega))
  replace f12 := f12.y g_1 (by decide)
  replace f8 := f8.y g_1 (by decide)
  replace fo := fo.y g_1 (by decide)
  clear f2
  refine wl_nil ?_
  refine ret_cell rfl rfl Tryz.isAgg31 Tryz.sizeOf31 (by assumption) rfl ?_
  exact ⟨_, _, _, _, _, _, rfl, fo.base (by omega) (by omega), f8.base (by omega) (by omega), f12.base (by omega) (by omega), hw⟩
 ·refine wl_litKs0 (by rfl) rfl (by rfl) ?_
  rintro A5 w5 f5 b5
  simp only [drew_size] at f5
  simp only [drew_size] at b5
  have qf5 := f5.cap
  have s5 := b5.size
  simp only [drew_size] at s5
  replace hw := hw.trans (b5.mono hw.size)
  replace f2 := f2.u b5
  replace f1 := f1.u b5
  refine wl_fork3j (m := 103) (L := 1689) (C := 537) (n := 6) (k1 := 3) (k2 := 4) (k3 := 9) _ [0, 0, 2, 5, 0, 0, 32, 88, 136, 0, 1023] [0, 0, 2, 7, 0, 0, 32, 127, 255, 0, 1023] [3] [4] [9] [10] [(.f 111 1689 537, 5)] [(.f 119 1689 537, 5)] [(.f 615 1689 537, 5)] [(.l, 10)] (by kernel_rfl) (by kernel_rfl) (by kernel_rfl) (by kernel_rfl) (by kernel_rfl) (by kernel_rfl) hj (fun hj => ?_) (fun hj => ?_) (fun hj => ?_) <;> dsimp only [inOrder, nthOp]
  ·refine wl_appKs0 rfl f5 rfl hB hw rfl (by omega) (by omega) ?_
   rintro A8 c8 w8 f8 b8
   have qf8 := f8.cap
   have s8 := b8.size
   replace hw := hw.trans (b8.mono hw.size)
   replace f1 := f1.u b8
   replace f2 := f2.u b8
   replace f5 := f5.u b8
   refine wl_fork2j (m := 111) (L := 1689) (C := 537) (n := 5) (k1 := 4) (k2 := 9) _ [0, 0, 2, 5, 0, 0, 32, 88, 136, 0, 1023] [0, 0, 2, 7, 0, 0, 32, 127, 255, 0, 1023] [4] [9, 4, 7, 8, 10] [10] [(.f 127 1689 537, 4)] [(.c, 4), (.l, 7), (.p, 8), (.l, 10)] [(.l, 10)] (by kernel_rfl) (by kernel_rfl) (by kernel_rfl) (by kernel_rfl) (by kernel_rfl) hj (fun hj => ?_) (fun hj => ?_) <;> dsimp only [inOrder, nthOp]
   ·refine wl_litKs0 (by rfl) rfl (by rfl) ?_
    rintro A9 w9 f9 b9
    have qf9 := f9.cap
    have s9 := b9.size
    replace hw := hw.trans (b9.mono hw.size)
    replace f5 := f5.u b9
    replace f2 := f2.u b9
    replace f1 := f1.u b9
    replace f8 := f8.u b9
    refine wl_fork2j (m := 127) (L := 1689) (C := 537) (n := 4) (k1 := 7) (k2 := 9) _ [0, 0, 2, 5, 0, 0, 32, 88, 136, 0, 1023] [0, 0, 2, 7, 0, 0, 32, 127, 255, 0, 1023] [7, 8, 9, 10] [9, 7, 8, 10] [10] [(.p, 8), (.c, 9), (.l, 10)] [(.l, 7), (.p, 8), (.l, 10)] [(.l, 10)] (by kernel_rfl) (by kernel_rfl) (by kernel_rfl) (by kernel_rfl) (by kernel_rfl) hj (fun hj => ?_) (fun hj => ?_) <;> dsimp only [inOrder, nthOp]
    ·refine wl_appKs0 rfl f9 rfl hC hw rfl (by omega) (by omega) ?_
     rintro A12 c12 w12 f12 b12
     have qf12 := f12.cap
     have s12 := b12.size
     replace hw := hw.trans (b12.mono hw.size)
     replace f8 := f8.u b12
     replace f1 := f1.u b12
     replace f2 := f2.u b12
     replace f5 := f5.u b12
     replace f9 := f9.u b12
     refine zp (o_buildg [_, _, _] Tryz.underlying31 Tryz.zeroValue31 (by rfl) (by rfl) rfl (by rfl) (by rfl) (fun _ => by kernel_rfl)) ?_
     refine wl_allocg [_, _, _] Tryz.zeroValue31 (by rfl) ?_
     rintro g3 w3 f3 b3 i3 i3_1
     have s3 := b3.size
     replace hw := hw.trans (b3.mono hw.size)
     replace f9 := f9.u b3
     replace f5 := f5.u b3
     replace f2 := f2.u b3
     replace f1 := f1.u b3
     replace f8 := f8.u b3
     replace f12 := f12.u b3
     exact wl_tof hj (Fr.le_of (by kernel_rfl) (by kernel_rfl) (by repeat' constructor)) ⟨_, _, _, _, _, rfl, f8.base (by omega) (by omega), f12.base (by omega) (by omega), f3, f1, f2, by omega, hw⟩
    ·refine wl_allocg [_, _, _] Tryz.zeroValue31 (by rfl) ?_
     rintro g3 w3 f3 b3 i3 i3_1
     have s3 := b3.size
     replace hw := hw.trans (b3.mono hw.size)
     replace f8 := f8.u b3
     replace f1 := f1.u b3
     replace f2 := f2.u b3
     replace f5 := f5.u b3
     replace f9 := f9.u b3
     refine wl_appKs0 rfl f9 rfl hC hw rfl (by omega) (by omega) ?_
     rintro A12 c12 w12 f12 b12
     have qf12 := f12.cap
     have s12 := b12.size
     replace hw := hw.trans (b12.mono hw.size)
     replace f9 := f9.u b12
     replace f5 := f5.u b12
     replace f2 := f2.u b12
     replace f1 := f1.u b12
     replace f8 := f8.u b12
     replace f3 := f3.u b12
     refine zp (o_buildg [_, _, _] Tryz.underlying31 Tryz.zeroValue31 (by rfl) (by rfl) rfl (by rfl) (by rfl) (fun _ => by kernel_rfl)) ?_
     exact wl_tof hj (Fr.le_of (by kernel_rfl) (by kernel_rfl) (by repeat' constructor)) ⟨_, _, _, _, _, rfl, f8.base (by omega) (by omega), f12.base (by omega) (by omega), f3, f1, f2, by omega, hw⟩
   ·refine wl_allocg [_, _, _] Tryz.zeroValue31 (by rfl) ?_
    rintro g3 w3 f3 b3 i3 i3_1
    have s3 := b3.size
    replace hw := hw.trans (b3.mono hw.size)
    replace f5 := f5.u b3
    replace f2 := f2.u b3
    replace f1 := f1.u b3
    replace f8 := f8.u b3
    refine wl_litKs0 (by rfl) rfl (by rfl) ?_
    rintro A9 w9 f9 b9
    have qf9 := f9.cap
    have s9 := b9.size
    replace hw := hw.trans (b9.mono hw.size)
    replace f8 := f8.u b9
    replace f1 := f1.u b9
    replace f2 := f2.u b9
    replace f5 := f5.u b9
    replace f3 := f3.u b9
    refine wl_appKs0 rfl f9 rfl hC hw rfl (by omega) (by omega) ?_
    rintro A12 c12 w12 f12 b12
    have qf12 := f12.cap
    have s12 := b12.size
    replace hw := hw.trans (b12.mono hw.size)
    replace f3 := f3.u b12
    replace f5 := f5.u b12
    replace f2 := f2.u b12
    replace f1 := f1.u b12
    replace f8 := f8.u b12
    replace f9 := f9.u b12
    refine zp (o_buildg [_, _, _] Tryz.underlying31 Tryz.zeroValue31 (by rfl) (by rfl) rfl (by rfl) (by rfl) (fun _ => by kernel_rfl)) ?_
    exact wl_tof hj (Fr.le_of (by kernel_rfl) (by kernel_rfl) (by repeat' constructor)) ⟨_, _, _, _, _, rfl, f8.base (by omega) (by omega), f12.base (by omega) (by omega), f3, f1, f2, by omega, hw⟩
  ·refine wl_litKs0 (by rfl) rfl (by rfl) ?_
   rintro A9 w9 f9 b9
   have qf9 := f9.cap
   have s9 := b9.size
   replace hw := hw.trans (b9.mono hw.size)
   replace f1 := f1.u b9
   replace f2 := f2.u b9
   replace f5 := f5.u b9
   refine wl_fork2j (m := 119) (L := 1689) (C := 537) (n := 5) (k1 := 3) (k2 := 9) _ [0, 0, 2, 5, 0, 0, 32, 88, 136, 0, 1023] [0, 0, 2, 7, 0, 0, 32, 127, 255, 0, 1023] [3] [9, 3, 7, 8, 10] [10] [(.f 127 1689 537, 4)] [(.c, 3), (.l, 7), (.p, 8), (.l, 10)] [(.l, 10)] (by kernel_rfl) (by kernel_rfl) (by kernel_rfl) (by kernel_rfl) (by kernel_rfl) hj (fun hj => ?_) (fun hj => ?_) <;> dsimp only [inOrder, nthOp]
   ·refine wl_appKs0 rfl f5 rfl hB hw rfl (by omega) (by omega) ?_
    rintro A8 c8 w8 f8 b8
    have qf8 := f8.cap
    have s8 := b8.size
    replace hw := hw.trans (b8.mono hw.size)
    replace f5 := f5.u b8
    replace f2 := f2.u b8
    replace f1 := f1.u b8
    replace f9 := f9.u b8
    refine wl_fork2j (m := 127) (L := 1689) (C := 537) (n := 4) (k1 := 7) (k2 := 9) _ [0, 0, 2, 5, 0, 0, 32, 88, 136, 0, 1023] [0, 0, 2, 7, 0, 0, 32, 127, 255, 0, 1023] [7, 8, 9, 10] [9, 7, 8, 10] [10] [(.p, 8), (.c, 9), (.l, 10)] [(.l, 7), (.p, 8), (.l, 10)] [(.l, 10)] (by kernel_rfl) (by kernel_rfl) (by kernel_rfl) (by kernel_rfl) (by kernel_rfl) hj (fun hj => ?_) (fun hj => ?_) <;> dsimp only [inOrder, nthOp]
    ·refine wl_appKs0 rfl f9 rfl hC hw rfl (by omega) (by omega) ?_
     rintro A12 c12 w12 f12 b12
     have qf12 := f12.cap
     have s12 := b12.size
     replace hw := hw.trans (b12.mono hw.size)
     replace f9 := f9.u b12
     replace f1 := f1.u b12
     replace f2 := f2.u b12
     replace f5 := f5.u b12
     replace f8 := f8.u b12
     refine zp (o_buildg [_, _, _] Tryz.underlying31 Tryz.zeroValue31 (by rfl) (by rfl) rfl (by rfl) (by rfl) (fun _ => by kernel_rfl)) ?_
     refine wl_allocg [_, _, _] Tryz.zeroValue31 (by rfl) ?_
     rintro g3 w3 f3 b3 i3 i3_1
     have s3 := b3.size
     replace hw := hw.trans (b3.mono hw.size)
     replace f8 := f8.u b3
     replace f5 := f5.u b3
     replace f2 := f2.u b3
     replace f1 := f1.u b3
     replace f9 := f9.u b3
     replace f12 := f12.u b3
     exact wl_tof hj (Fr.le_of (by kernel_rfl) (by kernel_rfl) (by repeat' constructor)) ⟨_, _, _, _, _, rfl, f8.base (by omega) (by omega), f12.base (by omega) (by omega), f3, f1, f2, by omega, hw⟩
    ·refine wl_allocg [_, _, _] Tryz.zeroValue31 (by rfl) ?_
     rintro g3 w3 f3 b3 i3 i3_1
     have s3 := b3.size
     replace hw := hw.trans (b3.mono hw.size)
     replace f9 := f9.u b3
     replace f1 := f1.u b3
     replace f2 := f2.u b3
     replace f5 := f5.u b3
     replace f8 := f8.u b3
     refine wl_appKs0 rfl f9 rfl hC hw rfl (by omega) (by omega) ?_
     rintro A12 c12 w12 f12 b12
     have qf12 := f12.cap
     have s12 := b12.size
     replace hw := hw.trans (b12.mono hw.size)
     replace f8 := f8.u b12
     replace f5 := f5.u b12
     replace f2 := f2.u b12
     replace f1 := f1.u b12
     replace f9 := f9.u b12
     replace f3 := f3.u b12
     refine zp (o_buildg [_, _, _] Tryz.underlying31 Tryz.zeroValue31 (by rfl) (by rfl) rfl (by rfl) (by rfl) (fun _ => by kernel_rfl)) ?_
     exact wl_tof hj (Fr.le_of (by kernel_rfl) (by kernel_rfl) (by repeat' constructor)) ⟨_, _, _, _, _, rfl, f8.base (by omega) (by omega), f12.base (by omega) (by omega), f3, f1, f2, by omega, hw⟩
   ·refine wl_allocg [_, _, _] Tryz.zeroValue31 (by rfl) ?_
    rintro g3 w3 f3 b3 i3 i3_1
    have s3 := b3.size
    replace hw := hw.trans (b3.mono hw.size)
    replace f5 := f5.u b3
    replace f2 := f2.u b3
    replace f1 := f1.u b3
    replace f9 := f9.u b3
    refine wl_appKs0 rfl f5 rfl hB hw rfl (by omega) (by omega) ?_
    rintro A8 c8 w8 f8 b8
    have qf8 := f8.cap
    have s8 := b8.size
    replace hw := hw.trans (b8.mono hw.size)
    replace f9 := f9.u b8
    replace f1 := f1.u b8
    replace f2 := f2.u b8
    replace f5 := f5.u b8
    replace f3 := f3.u b8
    refine wl_appKs0 rfl f9 rfl hC hw rfl (by omega) (by omega) ?_
    rintro A12 c12 w12 f12 b12
    have qf12 := f12.cap
    have s12 := b12.size
    replace hw := hw.trans (b12.mono hw.size)
    replace f3 := f3.u b12
    replace f5 := f5.u b12
    replace f2 := f2.u b12
    replace f1 := f1.u b12
    replace f9 := f9.u b12
    replace f8 := f8.u b12
    refine zp (o_buildg [_, _, _] Tryz.underlying31 Tryz.zeroValue31 (by rfl) (by rfl) rfl (by rfl) (by rfl) (fun _ => by kernel_rfl)) ?_
    exact wl_tof hj (Fr.le_of (by kernel_rfl) (by kernel_rfl) (by repeat' constructor)) ⟨_, _, _, _, _, rfl, f8.base (by omega) (by omega), f12.base (by omega) (by omega), f3, f1, f2, by omega, hw⟩
  ·refine wl_allocg [_, _, _] Tryz.zeroValue31 (by rfl) ?_
   rintro g3 w3 f3 b3 i3 i3_1
   have s3 := b3.size
   replace hw := hw.trans (b3.mono hw.size)
   replace f1 := f1.u b3
   replace f2 := f2.u b3
   replace f5 := f5.u b3
   have s3 := hw.size
   have hf5 := f5
   refine wl_forkf (m := 615) (L := 1689) (C := 537) (n := 5) (k1 := 3) (k2 := 4) (fun fb fr V => ∃ (A8 : Option Addr) (c8 : Nat) (A9 : Option Addr), fr = [(8, .slice A8 X.length c8), (9, .slice A9 0 0)] ++ fb ∧ OwnKs V w2.heap.size V.heap.size A8 c8 X ∧ OwnKs V w2.heap.size V.heap.size A9 0 [] ∧ Blk V g3 31 [.slice none 0 0, .slice none 0 0, .slice none 0 0] ∧ Blk V g1 31 [.slice A I.length c, .slice B X.length d, .slice C Y.length e] ∧ Blk V g2 31 [.slice none 0 0, .slice none 0 0, .slice none 0 0] ∧ w2.heap.size ≤ V.heap.size ∧ Below w.heap.size w V) [0, 0, 2, 5, 0, 0, 32, 88, 136, 0, 1023] [0, 0, 2, 7, 0, 0, 32, 127, 255, 0, 1023] [3, 4, 7, 8, 10] [4, 3, 7, 8, 10] [7, 8, 10] [(.c, 4), (.l, 7), (.p, 8), (.l, 10)] [(.c, 3), (.l, 7), (.p, 8), (.l, 10)] [(.l, 7), (.p, 8), (.l, 10)] (by kernel_rfl) (by kernel_rfl) (by kernel_rfl) (by kernel_rfl) (by kernel_rfl) ?_ (fun hj => ?_) (fun hj => ?_) <;> dsimp only [inOrder, nthOp]
   ·clear f1 f2 f3 hw
    rintro fr V ⟨A8, c8, A9, rfl, f8, f9, f3, f1, f2, hg9, hw⟩
    first | refine zf ?_ | refine zg ?_
    refine wl_appKs0 rfl f9 rfl hC hw rfl (by omega) (by omega) ?_
    rintro A12 c12 w12 f12 b12
    have qf12 := f12.cap
    have s12 := b12.size
    replace hw := hw.trans (b12.mono hw.size)
    replace f2 := f2.u b12
    replace f1 := f1.u b12
    replace f3 := f3.u b12
    replace f9 := f9.u b12
    replace f8 := f8.u b12
    refine zp (o_buildg [_, _, _] Tryz.underlying31 Tryz.zeroValue31 (by rfl) (by rfl) rfl (by rfl) (by rfl) (fun _ => by kernel_rfl)) ?_
    exact wl_tof hj (Fr.le_of (by kernel_rfl) (by kernel_rfl) (by repeat' constructor)) ⟨_, _, _, _, _, rfl, f8.base (by omega) (by omega), f12.base (by omega) (by omega), f3, f1, f2, by omega, hw⟩
   ·refine wl_appKs0 rfl hf5 rfl hB hw rfl (by omega) (by omega) ?_
    rintro A8 c8 w8 f8 b8
    have qf8 := f8.cap
    have s8 := b8.size
    replace hw := hw.trans (b8.mono hw.size)
    replace hf5 := hf5.u b8
    replace f5 := f5.u b8
    replace f2 := f2.u b8
    replace f1 := f1.u b8
    replace f3 := f3.u b8
    refine wl_litKs0 (by rfl) rfl (by rfl) ?_
    rintro A9 w9 f9 b9
    have qf9 := f9.cap
    have s9 := b9.size
    replace hw := hw.trans (b9.mono hw.size)
    replace f3 := f3.u b9
    replace f1 := f1.u b9
    replace f2 := f2.u b9
    replace f5 := f5.u b9
    replace hf5 := hf5.u b9
    replace f8 := f8.u b9
    exact wl_tof hj (Fr.le_of (by kernel_rfl) (by kernel_rfl) (by repeat' constructor)) ⟨_, _, _, rfl, f8.base (by omega) (by omega), f9.base (by omega) (by omega), f3, f1, f2, by omega, hw⟩
   ·refine wl_litKs0 (by rfl) rfl (by rfl) ?_
    rintro A9 w9 f9 b9
    have qf9 := f9.cap
    have s9 := b9.size
    replace hw := hw.trans (b9.mono hw.size)
    replace hf5 := hf5.u b9
    replace f5 := f5.u b9
    replace f2 := f2.u b9
    replace f1 := f1.u b9
    replace f3 := f3.u b9
    refine wl_appKs0 rfl f5 rfl hB hw rfl (by omega) (by omega) ?_
    rintro A8 c8 w8 f8 b8
    have qf8 := f8.cap
    have s8 := b8.size
    replace hw := hw.trans (b8.mono hw.size)
    replace f3 := f3.u b8
    replace f1 := f1.u b8
    replace f2 := f2.u b8
    replace f5 := f5.u b8
    replace hf5 := hf5.u b8
    replace f9 := f9.u b8
    exact wl_tof hj (Fr.le_of (by kernel_rfl) (by kernel_rfl) (by repeat' constructor)) ⟨_, _, _, rfl, f8.base (by omega) (by omega), f9.base (by omega) (by omega), f3, f1, f2, by omega, hw⟩
 ·refine wl_litKs0 (by rfl) rfl (by rfl) ?_
  rintro A9 w9 f9 b9
  simp only [drew_size] at f9
  simp only [drew_size] at b9
  have qf9 := f9.cap
  have s9 := b9.size
  simp only [drew_size] at s9
  replace hw := hw.trans (b9.mono hw.size)
  replace f2 := f2.u b9
  replace f1 := f1.u b9
  refine wl_fork2j (m := 118) (L := 1689) (C := 537) (n := 6) (k1 := 0) (k2 := 9) _ [0, 0, 2, 5, 0, 0, 32, 88, 136, 0, 1023] [0, 0, 2, 7, 0, 0, 32, 127, 255, 0, 1023] [0] [9, 0, 3, 7, 8, 10] [10] [(.f 119 1689 537, 5)] [(.c, 0), (.c, 3), (.l, 7), (.p, 8), (.l, 10)] [(.l, 10)] (by kernel_rfl) (by kernel_rfl) (by kernel_rfl) (by kernel_rfl) (by kernel_rfl) hj (fun hj => ?_) (fun hj => ?_) <;> dsimp only [inOrder, nthOp]
  ·refine wl_litKs0 (by rfl) rfl (by rfl) ?_
   rintro A5 w5 f5 b5
   have qf5 := f5.cap
   have s5 := b5.size
   replace hw := hw.trans (b5.mono hw.size)
   replace f1 := f1.u b5
   replace f2 := f2.u b5
   replace f9 := f9.u b5
   refine wl_fork2j (m := 119) (L := 1689) (C := 537) (n := 5) (k1 := 3) (k2 := 9) _ [0, 0, 2, 5, 0, 0, 32, 88, 136, 0, 1023] [0, 0, 2, 7, 0, 0, 32, 127, 255, 0, 1023] [3] [9, 3, 7, 8, 10] [10] [(.f 127 1689 537, 4)] [(.c, 3), (.l, 7), (.p, 8), (.l, 10)] [(.l, 10)] (by kernel_rfl) (by kernel_rfl) (by kernel_rfl) (by kernel_rfl) (by kernel_rfl) hj (fun hj => ?_) (fun hj => ?_) <;> dsimp only [inOrder, nthOp]
   ·refine wl_appKs0 rfl f5 rfl hB hw rfl (by omega) (by omega) ?_
    rintro A8 c8 w8 f8 b8
    have qf8 := f8.cap
    have s8 := b8.size
    replace hw := hw.trans (b8.mono hw.size)
    replace f9 := f9.u b8
    replace f2 := f2.u b8
    replace f1 := f1.u b8
    replace f5 := f5.u b8
    refine wl_fork2j (m := 127) (L := 1689) (C := 537) (n := 4) (k1 := 7) (k2 := 9) _ [0, 0, 2, 5, 0, 0, 32, 88, 136, 0, 1023] [0, 0, 2, 7, 0, 0, 32, 127, 255, 0, 1023] [7, 8, 9, 10] [9, 7, 8, 10] [10] [(.p, 8), (.c, 9), (.l, 10)] [(.l, 7), (.p, 8), (.l, 10)] [(.l, 10)] (by kernel_rfl) (by kernel_rfl) (by kernel_rfl) (by kernel_rfl) (by kernel_rfl) hj (fun hj => ?_) (fun hj => ?_) <;> dsimp only [inOrder, nthOp]
    ·refine wl_appKs0 rfl f9 rfl hC hw rfl (by omega) (by omega) ?_
     rintro A12 c12 w12 f12 b12
     have qf12 := f12.cap
     have s12 := b12.size
     replace hw := hw.trans (b12.mono hw.size)
     replace f5 := f5.u b12
     replace f1 := f1.u b12
     replace f2 := f2.u b12
     replace f9 := f9.u b12
     replace f8 := f8.u b12
     refine zp (o_buildg [_, _, _] Tryz.underlying31 Tryz.zeroValue31 (by rfl) (by rfl) rfl (by rfl) (by rfl) (fun _ => by kernel_rfl)) ?_
     refine wl_allocg [_, _, _] Tryz.zeroValue31 (by rfl) ?_
     rintro g3 w3 f3 b3 i3 i3_1
     have s3 := b3.size
     replace hw := hw.trans (b3.mono hw.size)
     replace f8 := f8.u b3
     replace f9 := f9.u b3
     replace f2 := f2.u b3
     replace f1 := f1.u b3
     replace f5 := f5.u b3
     replace f12 := f12.u b3
     exact wl_tof hj (Fr.le_of (by kernel_rfl) (by kernel_rfl) (by repeat' constructor)) ⟨_, _, _, _, _, rfl, f8.base (by omega) (by omega), f12.base (by omega) (by omega), f3, f1, f2, by omega, hw⟩
    ·refine wl_allocg [_, _, _] Tryz.zeroValue31 (by rfl) ?_
     rintro g3 w3 f3 b3 i3 i3_1
     have s3 := b3.size
     replace hw := hw.trans (b3.mono hw.size)
     replace f5 := f5.u b3
     replace f1 := f1.u b3
     replace f2 := f2.u b3
     replace f9 := f9.u b3
     replace f8 := f8.u b3
     refine wl_appKs0 rfl f9 rfl hC hw rfl (by omega) (by omega) ?_
     rintro A12 c12 w12 f12 b12
     have qf12 := f12.cap
     have s12 := b12.size
     replace hw := hw.trans (b12.mono hw.size)
     replace f8 := f8.u b12
     replace f9 := f9.u b12
     replace f2 := f2.u b12
     replace f1 := f1.u b12
     replace f5 := f5.u b12
     replace f3 := f3.u b12
     refine zp (o_buildg [_, _, _] Tryz.underlying31 Tryz.zeroValue31 (by rfl) (by rfl) rfl (by rfl) (by rfl) (fun _ => by kernel_rfl)) ?_
     exact wl_tof hj (Fr.le_of (by kernel_rfl) (by kernel_rfl) (by repeat' constructor)) ⟨_, _, _, _, _, rfl, f8.base (by omega) (by omega), f12.base (by omega) (by omega), f3, f1, f2, by omega, hw⟩
   ·refine wl_allocg [_, _, _] Tryz.zeroValue31 (by rfl) ?_
    rintro g3 w3 f3 b3 i3 i3_1
    have s3 := b3.size
    replace hw := hw.trans (b3.mono hw.size)
    replace f9 := f9.u b3
    replace f2 := f2.u b3
    replace f1 := f1.u b3
    replace f5 := f5.u b3
    refine wl_appKs0 rfl f5 rfl hB hw rfl (by omega) (by omega) ?_
    rintro A8 c8 w8 f8 b8
    have qf8 := f8.cap
    have s8 := b8.size
    replace hw := hw.trans (b8.mono hw.size)
    replace f5 := f5.u b8
    replace f1 := f1.u b8
    replace f2 := f2.u b8
    replace f9 := f9.u b8
    replace f3 := f3.u b8
    refine wl_appKs0 rfl f9 rfl hC hw rfl (by omega) (by omega) ?_
    rintro A12 c12 w12 f12 b12
    have qf12 := f12.cap
    have s12 := b12.size
    replace hw := hw.trans (b12.mono hw.size)
    replace f3 := f3.u b12
    replace f9 := f9.u b12
    replace f2 := f2.u b12
    replace f1 := f1.u b12
    replace f5 := f5.u b12
    replace f8 := f8.u b12
    refine zp (o_buildg [_, _, _] Tryz.underlying31 Tryz.zeroValue31 (by rfl) (by rfl) rfl (by rfl) (by rfl) (fun _ => by kernel_rfl)) ?_
    exact wl_tof hj (Fr.le_of (by kernel_rfl) (by kernel_rfl) (by repeat' constructor)) ⟨_, _, _, _, _, rfl, f8.base (by omega) (by omega), f12.base (by omega) (by omega), f3, f1, f2, by omega, hw⟩
  ·refine wl_allocg [_, _, _] Tryz.zeroValue31 (by rfl) ?_
   rintro g3 w3 f3 b3 i3 i3_1
   have s3 := b3.size
   replace hw := hw.trans (b3.mono hw.size)
   replace f1 := f1.u b3
   replace f2 := f2.u b3
   replace f9 := f9.u b3
   refine wl_litKs0 (by rfl) rfl (by rfl) ?_
   rintro A5 w5 f5 b5
   have qf5 := f5.cap
   have s5 := b5.size
   replace hw := hw.trans (b5.mono hw.size)
   replace f9 := f9.u b5
   replace f2 := f2.u b5
   replace f1 := f1.u b5
   replace f3 := f3.u b5
   refine wl_appKs0 rfl f5 rfl hB hw rfl (by omega) (by omega) ?_
   rintro A8 c8 w8 f8 b8
   have qf8 := f8.cap
   have s8 := b8.size
   replace hw := hw.trans (b8.mono hw.size)
   replace f3 := f3.u b8
   replace f1 := f1.u b8
   replace f2 := f2.u b8
   replace f9 := f9.u b8
   replace f5 := f5.u b8
   refine wl_appKs0 rfl f9 rfl hC hw rfl (by omega) (by omega) ?_
   rintro A12 c12 w12 f12 b12
   have qf12 := f12.cap
   have s12 := b12.size
   replace hw := hw.trans (b12.mono hw.size)
   replace f5 := f5.u b12
   replace f9 := f9.u b12
   replace f2 := f2.u b12
   replace f1 := f1.u b12
   replace f3 := f3.u b12
   replace f8 := f8.u b12
   refine zp (o_buildg [_, _, _] Tryz.underlying31 Tryz.zeroValue31 (by rfl) (by rfl) rfl (by rfl) (by rfl) (fun _ => by kernel_rfl)) ?_
   exact wl_tof hj (Fr.le_of (by kernel_rfl) (by kernel_rfl) (by repeat' constructor)) ⟨_, _, _, _, _, rfl, f8.base (by omega) (by omega), f12.base (by omega) (by omega), f3, f1, f2, by omega, hw⟩
 ·refine wl_allocg [_, _, _] Tryz.zeroValue31 (by rfl) ?_
  rintro g3 w3 f3 b3 i3 i3_1
  simp only [drew_size] at b3
  simp only [drew_size] at i3
  have s3 := b3.size
  simp only [drew_size] at s3
  replace hw := hw.trans (b3.mono hw.size)
  replace f2 := f2.u b3
  replace f1 := f1.u b3
  have s3 := hw.size
  refine wl_forkf (m := 614) (L := 1689) (C := 537) (n := 6) (k1 := 0) (k2 := 4) (fun fb fr V => ∃ (A8 : Option Addr) (c8 : Nat) (A9 : Option Addr), fr = [(8, .slice A8 X.length c8), (9, .slice A9 0 0)] ++ fb ∧ OwnKs V w2.heap.size V.heap.size A8 c8 X ∧ OwnKs V w2.heap.size V.heap.size A9 0 [] ∧ Blk V g3 31 [.slice none 0 0, .slice none 0 0, .slice none 0 0] ∧ Blk V g1 31 [.slice A I.length c, .slice B X.length d, .slice C Y.length e] ∧ Blk V g2 31 [.slice none 0 0, .slice none 0 0, .slice none 0 0] ∧ w2.heap.size ≤ V.heap.size ∧ Below w.heap.size w V) [0, 0, 2, 5, 0, 0, 32, 88, 136, 0, 1023] [0, 0, 2, 7, 0, 0, 32, 127, 255, 0, 1023] [0] [4, 0, 3, 7, 8, 10] [7, 8, 10] [(.f 615 1689 537, 5)] [(.c, 0), (.c, 3), (.l, 7), (.p, 8), (.l, 10)] [(.l, 7), (.p, 8), (.l, 10)] (by kernel_rfl) (by kernel_rfl) (by kernel_rfl) (by kernel_rfl) (by kernel_rfl) ?_ (fun hj => ?_) (fun hj => ?_) <;> dsimp only [inOrder, nthOp]
  ·clear f1 f2 f3 hw
   rintro fr V ⟨A8, c8, A9, rfl, f8, f9, f3, f1, f2, hg9, hw⟩
   first | refine zf ?_ | refine zg ?_
   refine wl_appKs0 rfl f9 rfl hC hw rfl (by omega) (by omega) ?_
   rintro A12 c12 w12 f12 b12
   have qf12 := f12.cap
   have s12 := b12.size
   replace hw := hw.trans (b12.mono hw.size)
   replace f2 := f2.u b12
   replace f1 := f1.u b12
   replace f3 := f3.u b12
   replace f9 := f9.u b12
   replace f8 := f8.u b12
   refine zp (o_buildg [_, _, _] Tryz.underlying31 Tryz.zeroValue31 (by rfl) (by rfl) rfl (by rfl) (by rfl) (fun _ => by kernel_rfl)) ?_
   exact wl_tof hj (Fr.le_of (by kernel_rfl) (by kernel_rfl) (by repeat' constructor)) ⟨_, _, _, _, _, rfl, f8.base (by omega) (by omega), f12.base (by omega) (by omega), f3, f1, f2, by omega, hw⟩
  ·refine wl_litKs0 (by rfl) rfl (by rfl) ?_
   rintro A5 w5 f5 b5
   have qf5 := f5.cap
   have s5 := b5.size
   replace hw := hw.trans (b5.mono hw.size)
   replace f1 := f1.u b5
   replace f2 := f2.u b5
   replace f3 := f3.u b5
   refine wl_fork2j (m := 615) (L := 1689) (C := 537) (n := 5) (k1 := 3) (k2 := 4) _ [0, 0, 2, 5, 0, 0, 32, 88, 136, 0, 1023] [0, 0, 2, 7, 0, 0, 32, 127, 255, 0, 1023] [3, 4, 7, 8, 10] [4, 3, 7, 8, 10] [7, 8, 10] [(.c, 4), (.l, 7), (.p, 8), (.l, 10)] [(.c, 3), (.l, 7), (.p, 8), (.l, 10)] [(.l, 7), (.p, 8), (.l, 10)] (by kernel_rfl) (by kernel_rfl) (by kernel_rfl) (by kernel_rfl) (by kernel_rfl) hj (fun hj => ?_) (fun hj => ?_) <;> dsimp only [inOrder, nthOp]
   ·refine wl_appKs0 rfl f5 rfl hB hw rfl (by omega) (by omega) ?_
    rintro A8 c8 w8 f8 b8
    have qf8 := f8.cap
    have s8 := b8.size
    replace hw := hw.trans (b8.mono hw.size)
    replace f3 := f3.u b8
    replace f2 := f2.u b8
    replace f1 := f1.u b8
    replace f5 := f5.u b8
    refine wl_litKs0 (by rfl) rfl (by rfl) ?_
    rintro A9 w9 f9 b9
    have qf9 := f9.cap
    have s9 := b9.size
    replace hw := hw.trans (b9.mono hw.size)
    replace f5 := f5.u b9
    replace f1 := f1.u b9
    replace f2 := f2.u b9
    replace f3 := f3.u b9
    replace f8 := f8.u b9
    exact wl_tof hj (Fr.le_of (by kernel_rfl) (by kernel_rfl) (by repeat' constructor)) ⟨_, _, _, rfl, f8.base (by omega) (by omega), f9.base (by omega) (by omega), f3, f1, f2, by omega, hw⟩
   ·refine wl_litKs0 (by rfl) rfl (by rfl) ?_
    rintro A9 w9 f9 b9
    have qf9 := f9.cap
    have s9 := b9.size
    replace hw := hw.trans (b9.mono hw.size)
    replace f3 := f3.u b9
    replace f2 := f2.u b9
    replace f1 := f1.u b9
    replace f5 := f5.u b9
    refine wl_appKs0 rfl f5 rfl hB hw rfl (by omega) (by omega) ?_
    rintro A8 c8 w8 f8 b8
    have qf8 := f8.cap
    have s8 := b8.size
    replace hw := hw.trans (b8.mono hw.size)
    replace f5 := f5.u b8
    replace f1 := f1.u b8
    replace f2 := f2.u b8
    replace f3 := f3.u b8
    replace f9 := f9.u b8
    exact wl_tof hj (Fr.le_of (by kernel_rfl) (by kernel_rfl) (by repeat' constructor)) ⟨_, _, _, rfl, f8.base (by omega) (by omega), f9.base (by omega) (by omega), f3, f1, f2, by omega, hw⟩
  ·refine wl_litKs0 (by rfl) rfl (by rfl) ?_
   rintro A9 w9 f9 b9
   have qf9 := f9.cap
   have s9 := b9.size
   replace hw := hw.trans (b9.mono hw.size)
   replace f1 := f1.u b9
   replace f2 := f2.u b9
   replace f3 := f3.u b9
   refine wl_litKs0 (by rfl) rfl (by rfl) ?_
   rintro A5 w5 f5 b5
   have qf5 := f5.cap
   have s5 := b5.size
   replace hw := hw.trans (b5.mono hw.size)
   replace f3 := f3.u b5
   replace f2 := f2.u b5
   replace f1 := f1.u b5
   replace f9 := f9.u b5
   refine wl_appKs0 rfl f5 rfl hB hw rfl (by omega) (by omega) ?_
   rintro A8 c8 w8 f8 b8
   have qf8 := f8.cap
   have s8 := b8.size
   replace hw := hw.trans (b8.mono hw.size)
   replace f9 := f9.u b8
   replace f1 := f1.u b8
   replace f2 := f2.u b8
   replace f3 := f3.u b8
   replace f5 := f5.u b8
   exact wl_tof hj (Fr.le_of (by kernel_rfl) (by kernel_rfl) (by repeat' constructor)) ⟨_, _, _, rfl, f8.base (by omega) (by omega), f9.base (by omega) (by omega), f3, f1, f2, by omega, hw⟩
end Go.Proofs.YtahkeoegbjopfaaGreat
namespace Go.Proofs.YtahkeoegbjopfaaGreat
set_option maxRecDepth 100000
open Go.RowKit
def OpAt (w : World) (A : Option Addr) (j : Nat) (k : Int) (K : Option Addr) (n c : Nat) (V : Option Addr) (m d : Nat) (u : Ky) : Prop := ∃ cs, cs = opC k K n c V m d u ∧ CellsAt w A (j * 35) cs
theorem o_ldOpAt {N : Nat} {fr : Fr} {w w0 : World} {ty : TypeId} {x : Operand} {A K V : Option Addr} {j n c m d : Nat} {k : Int} {u : Ky} (hx : fr.ev x = some (.pointer (some (adr A (j * 35))))) (h : OpAt w0 A j k K n c V m d u) (hb : Below w0.heap.size w0 w) : OpV Tryz.prog N fr w (.load 54 x) ty (.agg (opC k K n c V m d u).toArray) w := by
 obtain ⟨cs, rfl, h⟩ := h
 exact o_loadn (cs := opC k K n c V m d u) Tryz.isAgg54 (by rw [opC_length]; exact Tryz.sizeOf54) hx (fun i v hv => by rw [adr_add]; exact (h.u hb) i v hv)
section
variable {fn : Func} {F : Ending → World → Prop} {N : Nat} {ks : List K} {ops : Array Oper} {tg : Tags} {l : List Oper} {fr : Fr} {w w0 : World} {ty : TypeId} {pos : String} {aft : Array Edge} {gd : Option (Nat × Bool)} {d0 j o : Nat} {x : Operand} {A : Option Addr} {L : List Opn}
end
end Go.Proofs.YtahkeoegbjopfaaGreat
namespace Go.Proofs.YtahkeoegbjopfaaGreat
set_option maxRecDepth 100000
open Go.RowKit
def opsX (S : Stt) (u : Ky) (L : List Opn) : Stt := L.foldl (fun T o => (stepS T u o).1) S
def foldX (S : Stt) (L : List Bk) : Stt := L.foldl (fun T b => opsX T b.1 (readO b.2).1) S
theorem opsX_ok {u : Ky} : ∀ (L : List Opn) {S : Stt}, OkT S → opsX S u L = opsS S u L
 | [], _, _ => rfl
 | o :: L, S, h => by
  show opsX (stepS S u o).1 u L = opsS (stS S u o).1 u L
  rw [← stS_step h]
  exact opsX_ok L (stS_ok h u o)
theorem opsX_bad {u : Ky} : ∀ (L : List Opn) {S : Stt}, ¬OkT S → opsX S u L = S
 | [], _, _ => rfl
 | o :: L, S, h => by
  show opsX (stepS S u o).1 u L = S
  rw [show stepS S u o = (S, false) by unfold stepS; rw [if_neg h]]
  exact opsX_bad L h
theorem foldX_ok : ∀ (L : List Bk) {S : Stt}, OkT S → foldX S L = foldS S L
 | [], _, _ => rfl
 | b :: L, S, h => by
  show foldX (opsX S b.1 (readO b.2).1) L = foldS (blockS S b) L
  rw [opsX_ok _ h]
  exact foldX_ok L (blockS_ok h b)
theorem foldX_bad : ∀ (L : List Bk) {S : Stt}, ¬OkT S → foldX S L = S
 | [], _, _ => rfl
 | b :: L, S, h => by
  show foldX (opsX S b.1 (readO b.2).1) L = S
  rw [opsX_bad _ h]
  exact foldX_bad L h
structure SmS (S : Stt) : Prop where
 l1 : S.1.length ≤ 2000
 l2 : S.2.1.length ≤ 2000
 l3 : S.2.2.length ≤ 2000
 lt : LtI S.1
theorem OkT.sm {S : Stt} (h : OkT S) : SmS S := by
 obtain ⟨⟨h1, h2⟩, ⟨_, h3⟩, h4, _⟩ := h
 exact ⟨by omega, by omega, by omega, h4.lt⟩
structure ApplyR (I : List (By × By)) (X Y : List Ky) (u : Ky) (p : By) (I' : List (By × By)) (X' Y' : List Ky) : Prop where
 h : opsX (I, X, Y) u (readO p).1 = (I', X', Y')
set_option maxRecDepth 100000 in
theorem K_foldBad {A B C D : Option Addr} {I : List (By × By)} {X Y : List Ky} {n c m d q e r s : Nat} (w : World) (hok : ¬OkSt I X Y) (hA : RI w A I) (hB : RKs w B X) (hC : RKs w C Y) (hn : n = I.length) (hm : m = X.length) (hq : q = Y.length) (hl : I.length ≤ 400000) (hl2 : X.length ≤ 400000) (hl3 : Y.length ≤ 400000) (hL : LtI I) :
  CallsR Tryz.prog 10 [.agg #[.slice A n c, .slice B m d, .slice C q e], .slice D r s] w fun v w' => ∃ A' c' B' d' C' e', v = .agg #[.slice A' I.length c', .slice B' X.length d', .slice C' Y.length e'] ∧ OwnI w' w.heap.size w'.heap.size A' c' I ∧ OwnKs w' w.heap.size w'.heap.size B' d' X ∧ OwnKs w' w.heap.size w'.heap.size C' e' Y ∧ Below w.heap.size w w' := by
 subst hn; subst hm; subst hq
 refine callsR Tryz.func10 rfl rfl (by kernel_rfl) rfl ?_
 have hw := Below.refl w.heap.size w
 refine zs ?_
 refine wl_boxg [_, _, _] rfl (by rfl) ?_
 rintro g2 w2 f2 b2 i2 i2_1
 have s2 := b2.size
 replace hw := hw.trans (b2.mono hw.size)
 refine wl_allocg [_, _, _] Tryz.zeroValue31 (by rfl) ?_
 rintro g4 w4 f4 b4 i4 i4_1
 have s4 := b4.size
 replace hw := hw.trans (b4.mono hw.size)
 replace f2 := f2.u b4
 refine wl_nil (zs ?_)
 refine wl_r (o_loadag Tryz.isAgg31 Tryz.sizeOf31 rfl f2 (by rfl)) ?_
 refine wl_call rfl (C_clone _ (hA.u hw) (hB.u hw) (hC.u hw) rfl rfl rfl (by omega) (by omega) (by omega) (by omega)) ?_
 rintro v12 w12 ⟨A12, ⟨c12, ⟨B12, ⟨d12, ⟨C12, ⟨e12, ⟨m112, ⟨m212, ⟨rfl, ⟨f12, ⟨f12_1, ⟨f12_2, ⟨i12, ⟨i12_1, ⟨i12_2, b12⟩⟩⟩⟩⟩⟩⟩⟩⟩⟩⟩⟩⟩⟩⟩
 have qf12 := f12.cap
 have qf12_1 := f12_1.cap
 have qf12_2 := f12_2.cap
 have s12 := b12.size
 replace hw := hw.trans (b12.mono hw.size)
 replace f2 := f2.u b12
 replace f4 := f4.u b12
 refine wl_storega Tryz.sizeOf31 rfl rfl (by rfl) (oneCell_of (by rfl)) f2 (by rfl) ?_
 rintro w_1 f g e_1
 have s_1 := g.size
 replace hw := hw.trans (below_of_grownBy g.g hw.size (by omega))
 replace f4 := f4.k g.g (ap_some (by omega))
 replace f12_2 := f12_2.y g (by decide)
 replace f12_1 := f12_1.y g (by decide)
 replace f12 := f12.y g (by decide)
 clear f2
 refine wl_nil (rk_seq (zs ?_))
 refine wl_r (o_loadag Tryz.isAgg31 Tryz.sizeOf31 rfl f (by rfl)) ?_
 refine wl_call rfl (C_checkStateBad _ f12.to_RI f12_1.to_RKs f12_2.to_RKs rfl rfl rfl (by omega) (by omega) (by omega) (by omega) (by omega)) ?_
 rintro v14 w14 ⟨rfl, b14⟩
 have s14 := b14.size
 replace hw := hw.trans (b14.mono hw.size)
 replace f12 := f12.u b14
 replace f12_1 := f12_1.u b14
 replace f12_2 := f12_2.u b14
 replace f4 := f4.u b14
 replace f := f.u b14
 refine zp (o_ne rfl rfl) ?_
 refine wl_nil ?_
 refine rk_true rfl ?_
 refine zs ?_
 refine wl_r (o_loadag Tryz.isAgg31 Tryz.sizeOf31 rfl f (by rfl)) ?_
 refine wl_storega Tryz.sizeOf31 rfl rfl (by rfl) (oneCell_of (by rfl)) f4 (by rfl) ?_
 rintro w_2 f_1 g_1 e_2
 have s_2 := g_1.size
 replace hw := hw.trans (below_of_grownBy g_1.g hw.size (by omega))
 replace f := f.k g_1.g (ap_some (by omega))
 replace f12_2 := f12_2.y g_1 (by decide)
 replace f12_1 := f12_1.y g_1 (by decide)
 replace f12 := f12.y g_1 (by decide)
 clear f4
 refine wl_nil ?_
 refine ret_cell rfl rfl Tryz.isAgg31 Tryz.sizeOf31 (by assumption) rfl ?_
 exact ⟨_, _, _, _, _, _, rfl, f12.base (by omega) (by omega), f12_1.base (by omega) (by omega), f12_2.base (by omega) (by omega), hw⟩
structure FoldXR (I : List (By × By)) (X Y : List Ky) (L : List Bk) (I' : List (By × By)) (X' Y' : List Ky) : Prop where
 h : foldX (I, X, Y) L = (I', X', Y')
theorem C_foldXN {A B C D : Option Addr} {I I' : List (By × By)} {X Y X' Y' : List Ky} {L : List Bk} {n c m d q e r s : Nat} (w : World) (hr0 : FoldXR I X Y L I' X' Y') (hA : RI w A I) (hB : RKs w B X) (hC : RKs w C Y) (hD : RBk w D L) (hn : n = I.length) (hm : m = X.length) (hq : q = Y.length) (hr : r = L.length) (hsm : SmS (I, X, Y)) (hl4 : L.length ≤ 40000) (hLB : LtB L) :
  CallsR Tryz.prog 10 [.agg #[.slice A n c, .slice B m d, .slice C q e], .slice D r s] w fun v w' => ∃ A' c' B' d' C' e', v = .agg #[.slice A' I'.length c', .slice B' X'.length d', .slice C' Y'.length e'] ∧ OwnI w' w.heap.size w'.heap.size A' c' I' ∧ OwnKs w' w.heap.size w'.heap.size B' d' X' ∧ OwnKs w' w.heap.size w'.heap.size C' e' Y' ∧ Below w.heap.size w w' := by
 obtain ⟨h1, h2, h3, h4⟩ := hsm
 dsimp only at h1 h2 h3 h4
 by_cases hok : OkSt I X Y
 ·refine C_foldN w hA hB hC hD ⟨?_⟩ hn hm hq hr (by omega) (by omega) (by omega) h4 hl4 hLB hok
  rw [← foldX_ok _ hok]
  exact hr0.h
 ·have h := K_foldBad (D := D) (r := r) (s := s) (c := c) (d := d) (e := e) w hok hA hB hC hn hm hq (by omega) (by omega) (by omega) h4
  have e1 := hr0.h
  rw [foldX_bad _ hok] at e1
  injection e1 with e1 e2
  injection e2 with e2 e3
  subst e1; subst e2; subst e3
  exact h
set_option maxRecDepth 100000 in
theorem C_applyX {A B C D N0 : Option Addr} {I I' : List (By × By)} {X Y X' Y' : List Ky} {p : By} {M G : List Value} {n c n2 c2 n3 c3 nc m cd : Nat} {u : Ky} (w : World) (hS : BkS M G) (hr : ApplyR I X Y u p I' X' Y') (hA : RI w A I) (hB : RKs w B X) (hC : RKs w C Y) (hD : RdT w D p) (hm : m = p.length) (hcd : p.length ≤ cd) (hcm : cd ≤ maxLen) (hn : n = I.length) (hn2 : n2 = X.length) (hn3 : n3 = Y.length) (hsm : SmS (I, X, Y)) (hp : p.length ≤ 4000000) :
  CallsR Tryz.prog 22 [.agg #[.slice A n c, .slice B n2 c2, .slice C n3 c3], .agg (bkC u M N0 nc D m cd G).toArray] w fun v w' => ∃ A' c' B' d' C' e', v = .agg #[.slice A' I'.length c', .slice B' X'.length d', .slice C' Y'.length e'] ∧ OwnI w' w.heap.size w'.heap.size A' c' I' ∧ OwnKs w' w.heap.size w'.heap.size B' d' X' ∧ OwnKs w' w.heap.size w'.heap.size C' e' Y' ∧ Below w.heap.size w w' := by
 subst hn; subst hn2; subst hn3; subst hm
 have e0 : FoldXR I X Y [(u, p)] I' X' Y' := ⟨hr.h⟩
 have hLB : LtB [(u, p)] := fun b hb => by rw [List.mem_singleton] at hb; subst hb; exact hp
 refine callsR Tryz.func22 rfl rfl (by kernel_rfl) rfl ?_
 have hw := Below.refl w.heap.size w
 refine zs ?_
 refine wl_boxg [_, _, _] rfl (by rfl) ?_
 rintro g2 w2 f2 b2 i2 i2_1
 have s2 := b2.size
 replace hw := hw.trans (b2.mono hw.size)
 refine wl_boxg _ rfl (by rfl) ?_
 rintro g3 w3 f3 b3 i3 i3_1
 have s3 := b3.size
 replace hw := hw.trans (b3.mono hw.size)
 replace f2 := f2.u b3
 refine wl_allocg [_, _, _] Tryz.zeroValue31 (by rfl) ?_
 rintro g4 w4 f4 b4 i4 i4_1
 have s4 := b4.size
 replace hw := hw.trans (b4.mono hw.size)
 replace f2 := f2.u b4
 replace f3 := f3.u b4
 refine wl_nil (zs ?_)
 refine wl_r (o_loadag Tryz.isAgg31 Tryz.sizeOf31 rfl f2 (by rfl)) ?_
 refine wl_r (o_ldBkA rfl f3 (by omega)) ?_
 refine wl_litBk1 (by rfl) rfl (by omega) (hD.u hw) rfl (by omega) (by omega) (by rfl) ?_
 rintro A7 w7 f7 b7
 have qf7 := f7.cap
 have s7 := b7.size
 replace hw := hw.trans (b7.mono hw.size)
 replace f3 := f3.u b7
 replace f2 := f2.u b7
 replace f4 := f4.u b7
 refine wl_call rfl (C_foldXN _ e0 (hA.u hw) (hB.u hw) (hC.u hw) f7.to_RBk rfl rfl rfl (by rfl) (by omega) (by omega) (by omega)) ?_
 rintro v8 w8 ⟨A8, ⟨c8, ⟨B8, ⟨d8, ⟨C8, ⟨e8, ⟨rfl, ⟨f8, ⟨f8_1, ⟨f8_2, b8⟩⟩⟩⟩⟩⟩⟩⟩⟩⟩
 have qf8 := f8.cap
 have qf8_1 := f8_1.cap
 have qf8_2 := f8_2.cap
 have s8 := b8.size
 replace hw := hw.trans (b8.mono hw.size)
 replace f4 := f4.u b8
 replace f2 := f2.u b8
 replace f3 := f3.u b8
 replace f7 := f7.u b8
 refine wl_storega Tryz.sizeOf31 rfl rfl (by rfl) (oneCell_of (by rfl)) f4 (by rfl) ?_
 rintro w_1 f g e
 have s := g.size
 replace hw := hw.trans (below_of_grownBy g.g hw.size (by omega))
 replace f7 := f7.y g (by decide)
 replace f3 := f3.k g.g (ap_some (by omega))
 replace f2 := f2.k g.g (ap_some (by omega))
 replace f8_2 := f8_2.y g (by decide)
 replace f8_1 := f8_1.y g (by decide)
 replace f8 := f8.y g (by decide)
 clear f4
 refine wl_nil ?_
 refine ret_cell rfl rfl Tryz.isAgg31 Tryz.sizeOf31 (by assumption) rfl ?_
 exact ⟨_, _, _, _, _, _, rfl, f8.base (by omega) (by omega), f8_1.base (by omega) (by omega), f8_2.base (by omega) (by omega), hw⟩
end Go.Proofs.YtahkeoegbjopfaaGreat
