/-
  A region that draws its order, walked in one order: operations that hand back the same in every world ('p'), that read ('r'; 's': what others change meanwhile is not what is read), that change the world ('l'; 'c': no more than one row, and what is new). No function of the program is named here.
-/
import Derived.Test.YtpjedpmbninfcaaEng
import Derived.Still
namespace Go.Proofs.Ytpjedpmbninfcaa
open Go.RowKit

inductive Tag where
  | p | r | l | s | c
  /-- the ways part here: so many operations are left -/
  | f (m L C : Nat)
  /-- the first operation of a way -/
  | g (m L C : Nat)
  deriving DecidableEq

/-- What calm operations may change: a row; and, in a region that names a block, what lies at or above it. -/
abbrev Rw := Option Nat × Option Nat
theorem grownBy_self (w : World) (row : Option Nat) : w.grownBy w row := ⟨rfl, rfl, rfl, Nat.le_refl _, fun _ _ _ => rfl⟩
theorem grownBy_step {a b c : World} {row : Option Nat} (h : a.grownBy b row) (k : b.grownBy c row) : a.grownBy c row :=
  ⟨k.os.trans h.os, k.tape.trans h.tape, k.output.trans h.output, Nat.le_trans h.size k.size, fun i hi hne => (k.block i (Nat.lt_of_lt_of_le hi h.size) hne).trans (h.block i hi hne)⟩
structure SameUnder (w w' : World) (row : Option Nat) (B : Nat) : Prop where
  os : w'.os = w.os
  tape : w'.tape = w.tape
  output : w'.output = w.output
  size : w.heap.size ≤ w'.heap.size
  block : ∀ k, k < w.heap.size → some k ≠ row → k < B → w'.heap[k]? = w.heap[k]?
def Rw.ok : Rw → World → World → Prop
  | (row, none), w, w' => w.grownBy w' row
  | (row, some B), w, w' => SameUnder w w' row B
theorem Rw.self : ∀ (q : Rw) (w : World), q.ok w w
  | (_, none), w => grownBy_self w _
  | (_, some _), _ => ⟨rfl, rfl, rfl, Nat.le_refl _, fun _ _ _ _ => rfl⟩
theorem Rw.step : ∀ {q : Rw} {a b c : World}, q.ok a b → q.ok b c → q.ok a c
  | (_, none), _, _, _, h, k => grownBy_step h k
  | (_, some _), _, _, _, h, k => ⟨k.os.trans h.os, k.tape.trans h.tape, k.output.trans h.output, Nat.le_trans h.size k.size, fun i hi hne hB => (k.block i (Nat.lt_of_lt_of_le hi h.size) hne hB).trans (h.block i hi hne hB)⟩
theorem Rw.of : ∀ {q : Rw} {a b : World}, a.grownBy b q.1 → q.ok a b
  | (_, none), _, _, h => h
  | (_, some _), _, _, h => ⟨h.os, h.tape, h.output, h.size, fun i hi hne _ => h.block i hi hne⟩
/-- May a calm operation change this block? -/
def Rw.may : Rw → Option Nat → Prop
  | (row, none), g => g = row
  | (row, some B), g => g = row ∨ ∀ k, g = some k → B ≤ k
theorem Rw.of_may : ∀ {q : Rw} {a b : World} {g : Option Nat}, a.grownBy b g → q.may g → q.ok a b
  | (_, none), _, _, _, h, e => by
    have e' : _ = _ := e
    subst e'
    exact h
  | (_, some B), _, _, g, h, e => by
    have e' : _ ∨ _ := e
    refine ⟨h.os, h.tape, h.output, h.size, fun i hi hne hB => h.block i hi (fun he => ?_)⟩
    rcases e' with e' | e'
    · subst e'; exact hne he
    · have := e' i he.symm; omega
theorem below_of_ok {row : Option Nat} {B : Nat} {a b : World} (h : Rw.ok (row, some B) a b) (hB : B ≤ a.heap.size) (hr : ∀ k, row = some k → B ≤ k) : Below B a b :=
  have h' : SameUnder a b row B := h
  ⟨h'.os, h'.tape, h'.output, h'.size, fun k hk => h'.block k (by omega) (fun e => by have := hr k e.symm; omega) hk⟩
section
variable {P : Program} {md : Region.Mode} {ops : Array Oper} {Q : Exit → Act → World → Prop} {loud calm : Nat → Bool} {row : Rw}

def wpMix (P : Program) (md : Region.Mode) (ops : Array Oper) (Q : Exit → Act → World → Prop) (loud calm : Nat → Bool) (row : Rw) : Nat → Array Bool → Act → World → Prop
  | 0, listed, a, w => Region.ready md ops listed = [] ∧ Q .normal a w
  | f + 1, listed, a, w => (Region.ready md ops listed = [] → Q .normal a w) ∧
    ∀ i ∈ Region.ready md ops listed, if loud i = true then wpOp P ops Q i (fun a' w' => (calm i = true → row.ok w w') ∧ wpMix P md ops Q loud calm row f (listed.setIfInBounds i true) a' w') a w
      else stOp P ops w i (fun a' => wpMix P md ops Q loud calm row f (listed.setIfInBounds i true) a' w) a

theorem wpAny_of_mix : ∀ (f : Nat) (listed : Array Bool) (a : Act) (w : World), wpMix P md ops Q loud calm row f listed a w → wpAny P md ops Q f listed a w
  | 0, _, _, _, h => h
  | f + 1, listed, a, w, h => ⟨h.1, fun i hi => by
      have h2 := h.2 i hi
      split at h2
      · exact wpOp_mono (fun a' w' h' => wpAny_of_mix f _ a' w' h'.2) h2
      · exact wpOp_of_stOp (fun a' h' => wpAny_of_mix f _ a' w h') h2⟩

theorem yields_at {o : Oper} {v : Value} {a : Act} (h : Yields P ops o v a) (w : World) : YieldsAt P ops w o v a := by
  rcases h with ⟨h1, h2⟩ | h
  · exact .inl ⟨h1, .inl (h2 w)⟩
  · exact .inr h

theorem mix_self {i : Nat} {oi : Oper} {v : Value} {f : Nat} {listed : Array Bool} {a : Act} {w : World} (hi : ops[i]? = some oi) (hl : loud i = false) (hy : YieldsAt P ops w oi v a)
    (H : wpMix P md ops Q loud calm row f (listed.setIfInBounds i true) (a.put oi.dst v) w) :
    if loud i = true then wpOp P ops Q i (fun a' w' => (calm i = true → row.ok w w') ∧ wpMix P md ops Q loud calm row f (listed.setIfInBounds i true) a' w') a w else stOp P ops w i (fun a' => wpMix P md ops Q loud calm row f (listed.setIfInBounds i true) a' w) a := by
  rw [hl, if_neg (by simp)]
  exact hy.stOp hi (K := fun a' => wpMix P md ops Q loud calm row f (listed.setIfInBounds i true) a' w) H

theorem unlisted_of_ready {i : Nat} {listed : Array Bool} (hi : i ∈ Region.ready md ops listed) : listed.getD i false = false := by
  have h0 := (mem_ready.1 hi).1
  rcases Nat.lt_or_ge i listed.size with h | h
  · simp [h] at h0 ⊢; exact h0
  · simp [Array.getElem?_eq_none h] at h0

/-- A quiet operation j that is ready beside i: it can stand before i. -/
theorem mix_swap {j : Nat} {oi oj : Oper} {v : Value} {a : Act} {w : World} (hoj : ops[j]? = some oj) (hap : oi.apart ops oj = true)
    (hsj : ∀ cs b, oj.op ≠ .select cs b) {K K' : Act → Prop} (h : stOp P ops w j K (a.put oi.dst v)) (hk : ∀ u, K ((a.put oj.dst u).put oi.dst v) → K' (a.put oj.dst u)) : stOp P ops w j K' a := by
  obtain ⟨h1, h2, _⟩ := Oper.apart_spec hap
  obtain ⟨u, hy, hK⟩ := yieldsAt_of_stOp hoj h
  have hy' : YieldsAt P ops w oj u a := hy.of_same (execOp_put oj hsj a oi.dst v h1).symm (wanted_put oj a oi.dst v h1).symm
  refine hy'.stOp hoj (hk u ?_)
  rw [← Act.put_comm a v u h2]
  exact hK

theorem mix_first_p {i : Nat} {oi : Oper} {v : Value} (hi : ops[i]? = some oi) (hl : loud i = false) (hsel : ∀ (j : Nat) (o : Oper) cs b, ops[j]? = some o → o.op ≠ .select cs b)
    (hQ : ∀ c a w, Q (.panic c) (a.put oi.dst v) w → Q (.panic c) a w) :
    ∀ (fuel : Nat) (listed : Array Bool) (a : Act) (w : World),
      (∀ j oj, ops[j]? = some oj → j ≠ i → listed.getD j true = false → (∀ e ∈ oj.after, Region.binds md e = true → e.on ≠ i) → oi.apart ops oj = true) →
      i ∈ Region.ready md ops listed → Yields P ops oi v a →
      wpMix P md ops Q loud calm row fuel (listed.setIfInBounds i true) (a.put oi.dst v) w → wpMix P md ops Q loud calm row (fuel + 1) listed a w := by
  intro fuel
  induction fuel with
  | zero =>
    intro listed a w _ hr hy H
    refine ⟨fun h => (by rw [h] at hr; cases hr), fun j hj => ?_⟩
    by_cases hji : j = i
    · subst hji; exact mix_self hi hl (yields_at hy w) H
    · have := ready_mono hj hji
      rw [H.1] at this
      cases this
  | succ fuel ih =>
    intro listed a w hfree hr hy H
    refine ⟨fun h => (by rw [h] at hr; cases hr), fun j hj => ?_⟩
    by_cases hji : j = i
    · subst hji; exact mix_self hi hl (yields_at hy w) H
    · have h1 := H.2 j (ready_mono hj hji)
      obtain ⟨hjun, oj, hoj, hall⟩ := mem_ready.1 hj
      have hnot : ∀ e ∈ oj.after, Region.binds md e = true → e.on ≠ i := fun e he hb heq => by
        have h2 := hall e he hb
        rw [heq, unlisted_of_ready hr] at h2
        cases h2
      have hap := hfree j oj hoj hji hjun hnot
      obtain ⟨h1a, h2a, h3a⟩ := Oper.apart_spec hap
      have keep : ∀ (a : Act), Yields P ops oi v a → ∀ u, Yields P ops oi v (a.put oj.dst u) := fun a hy u =>
        hy.of_same (execOp_put oi (hsel i oi · · hi) a oj.dst u h3a) (wanted_put oi a oj.dst u h3a)
      have hfree' : ∀ k ok, ops[k]? = some ok → k ≠ i → (listed.setIfInBounds j true).getD k true = false →
          (∀ e ∈ ok.after, Region.binds md e = true → e.on ≠ i) → oi.apart ops ok = true := fun k ok hk hki hun hno => by
        refine hfree k ok hk hki ?_ hno
        by_cases hjk : j = k
        · subst hjk; exact hjun
        · rw [getD_set_ne true hjk] at hun; exact hun
      split at h1
      · rename_i hlj
        rw [if_pos hlj]
        have h2 := wpOp_put hoj hap (fun cs b => hsel i oi cs b hi) (fun cs b => hsel j oj cs b hoj) hQ hy h1
        refine wpOp_mono (fun a' w' h3 => ⟨h3.2.1, ih (listed.setIfInBounds j true) a' w' hfree' (ready_mono hr (Ne.symm hji)) h3.1 ?_⟩) h2
        rw [Array.setIfInBounds_comm _ _ hji]
        exact h3.2.2
      · rename_i hlj
        rw [if_neg hlj]
        refine mix_swap hoj hap (fun cs b => hsel j oj cs b hoj) h1 (fun u hK => ih (listed.setIfInBounds j true) _ w hfree' (ready_mono hr (Ne.symm hji)) (keep a hy u) ?_)
        rw [Array.setIfInBounds_comm _ _ hji]
        exact hK

/-! An operation that reads: whatever changes the world waits for it. -/
def Closed (md : Region.Mode) (ops : Array Oper) (listed : Array Bool) : Prop := ∀ j oj, ops[j]? = some oj → listed.getD j false = true → ∀ e ∈ oj.after, Region.binds md e = true → listed.getD e.on false = true
/-- Whenever j is through, i is. -/
def Before (md : Region.Mode) (ops : Array Oper) (i j : Nat) : Prop := ∀ listed, Closed md ops listed → listed.getD j false = true → listed.getD i false = true

theorem Closed.set {listed : Array Bool} {i : Nat} (h : Closed md ops listed) (hi : i ∈ Region.ready md ops listed) : Closed md ops (listed.setIfInBounds i true) := by
  obtain ⟨_, oi, hoi, hall⟩ := mem_ready.1 hi
  intro j oj hj hl e he hb
  by_cases hij : i = j
  · subst hij
    have : oj = oi := Option.some.inj (hj.symm.trans hoi)
    subst this
    exact getD_set_true (hall e he hb)
  · rw [getD_set_ne false hij] at hl
    exact getD_set_true (h j oj hj hl e he hb)

theorem before_ready {listed : Array Bool} {i j : Nat} (h : Closed md ops listed) (hun : listed.getD i false = false) (hne : j ≠ i) (hw : Before md ops i j) : j ∉ Region.ready md ops listed := by
  intro hj
  have hlt : j < listed.size := by
    have h0 := (mem_ready.1 hj).1
    rcases Nat.lt_or_ge j listed.size with h | h
    · exact h
    · simp [Array.getElem?_eq_none h] at h0
  have h1 := hw _ (h.set hj) (by simp [hlt])
  rw [getD_set_ne false hne, hun] at h1
  cases h1

theorem mix_first_r {i : Nat} {oi : Oper} {v : Value} {w : World} (hi : ops[i]? = some oi) (hl : loud i = false) (hsel : ∀ (j : Nat) (o : Oper) cs b, ops[j]? = some o → o.op ≠ .select cs b)
    (hwait : ∀ j, loud j = true → j < ops.size → Before md ops i j ∨ Before md ops j i) :
    ∀ (fuel : Nat) (listed : Array Bool) (a : Act), Closed md ops listed →
      (∀ j oj, ops[j]? = some oj → j ≠ i → listed.getD j true = false → (∀ e ∈ oj.after, Region.binds md e = true → e.on ≠ i) → oi.apart ops oj = true) →
      i ∈ Region.ready md ops listed → YieldsAt P ops w oi v a →
      wpMix P md ops Q loud calm row fuel (listed.setIfInBounds i true) (a.put oi.dst v) w → wpMix P md ops Q loud calm row (fuel + 1) listed a w := by
  intro fuel
  induction fuel with
  | zero =>
    intro listed a _ _ hr hy H
    refine ⟨fun h => (by rw [h] at hr; cases hr), fun j hj => ?_⟩
    by_cases hji : j = i
    · subst hji; exact mix_self hi hl hy H
    · have := ready_mono hj hji
      rw [H.1] at this
      cases this
  | succ fuel ih =>
    intro listed a hcl hfree hr hy H
    refine ⟨fun h => (by rw [h] at hr; cases hr), fun j hj => ?_⟩
    by_cases hji : j = i
    · subst hji; exact mix_self hi hl hy H
    · have h1 := H.2 j (ready_mono hj hji)
      obtain ⟨hjun, oj, hoj, hall⟩ := mem_ready.1 hj
      have hnot : ∀ e ∈ oj.after, Region.binds md e = true → e.on ≠ i := fun e he hb heq => by
        have h2 := hall e he hb
        rw [heq, unlisted_of_ready hr] at h2
        cases h2
      have hap := hfree j oj hoj hji hjun hnot
      obtain ⟨h1a, h2a, h3a⟩ := Oper.apart_spec hap
      have keep : ∀ (a : Act), YieldsAt P ops w oi v a → ∀ u, YieldsAt P ops w oi v (a.put oj.dst u) := fun a hy u =>
        hy.of_same (execOp_put oi (hsel i oi · · hi) a oj.dst u h3a) (wanted_put oi a oj.dst u h3a)
      have hfree' : ∀ k ok, ops[k]? = some ok → k ≠ i → (listed.setIfInBounds j true).getD k true = false →
          (∀ e ∈ ok.after, Region.binds md e = true → e.on ≠ i) → oi.apart ops ok = true := fun k ok hk hki hun hno => by
        refine hfree k ok hk hki ?_ hno
        by_cases hjk : j = k
        · subst hjk; exact hjun
        · rw [getD_set_ne true hjk] at hun; exact hun
      split at h1
      · rename_i hlj
        have hjlt : j < ops.size := (Array.getElem?_eq_some_iff.1 hoj).1
        rcases hwait j hlj hjlt with hwt | hwt
        · exact absurd hj (before_ready hcl (unlisted_of_ready hr) hji hwt)
        · exact absurd hr (before_ready hcl (unlisted_of_ready hj) (Ne.symm hji) hwt)
      · rename_i hlj
        rw [if_neg hlj]
        refine mix_swap hoj hap (fun cs b => hsel j oj cs b hoj) h1 (fun u hK => ih (listed.setIfInBounds j true) _ (hcl.set hj) hfree' (ready_mono hr (Ne.symm hji)) (keep a hy u) ?_)
        rw [Array.setIfInBounds_comm _ _ hji]
        exact hK

/-! An operation that reads what the calm ones leave alone. -/
/-- What stands in a slot that oj does not look at makes no difference to it; Y is what holds of the slots that oj does not write. -/
theorem wpOp_aside {j : Nat} {oi oj : Oper} {v : Value} (hj : ops[j]? = some oj) (hap : oi.apart ops oj = true) (hsj : ∀ cs b, oj.op ≠ .select cs b)
    (hQ : ∀ c a w, Q (.panic c) (a.put oi.dst v) w → Q (.panic c) a w) {Y : Act → Prop} (hY : ∀ a u, Y a → Y (a.put oj.dst u)) (hYd : ∀ (a : Act) d, Y a → Y { a with defers := d :: a.defers })
    {K : Act → World → Prop} {a : Act} {w : World} (hy : Y a) (h : wpOp P ops Q j K (a.put oi.dst v) w) : wpOp P ops Q j (fun a' w' => Y a' ∧ K (a'.put oi.dst v) w') a w := by
  obtain ⟨h1, h2, _⟩ := Oper.apart_spec hap
  have hx := execOp_put oj hsj a oi.dst v h1
  have on : ∀ (b : Act) u w', Y b → K ((b.put oi.dst v).put oj.dst u) w' → Y (b.put oj.dst u) ∧ K ((b.put oj.dst u).put oi.dst v) w' := fun b u w' hb hk =>
    ⟨hY b u hb, by rw [← Act.put_comm b v u h2]; exact hk⟩
  unfold wpOp at h ⊢
  rw [hj] at h ⊢
  simp only at h ⊢
  rw [wanted_put oj a oi.dst v h1] at h
  by_cases hw : Region.wanted oj (yielded ops a.tmps) = true
  · rw [if_pos hw] at h ⊢
    refine h.imp (fun h => ?_) (fun h => ⟨?_, h.2⟩)
    · unfold Oper.wp at h ⊢
      rw [hx] at h
      cases hr : (execOp a.eval oj).run P w with
      | ok n w' =>
        rw [hr] at h
        cases n with
        | value u => exact on a u w' hy h
        | skip => exact on a undef w' hy h
        | defer d => exact on _ undef w' (hYd a d hy) (by rw [← Act.put_defers]; exact h)
        | enter f args =>
          refine Calls.mono h ?_
          intro e w'' he
          cases e with
          | returned u => exact on a u w'' hy he
          | panicked c => exact hQ _ _ _ he
          | outgrown => exact he
        | row r args => exact Rows.mono h fun u w'' he => on a u w'' hy he
        | _ => exact h
      | halt x w' =>
        rw [hr] at h
        cases x with
        | panic u => exact hQ _ _ _ h
        | _ => exact h
    · have := h.1
      unfold Oper.asks at this ⊢
      rw [hx] at this
      exact this
  · rw [if_neg hw] at h ⊢
    exact on a undef w hy h

theorem mix_first_s {i : Nat} {oi : Oper} {v : Value} (hi : ops[i]? = some oi) (hl : loud i = false) (hsel : ∀ (j : Nat) (o : Oper) cs b, ops[j]? = some o → o.op ≠ .select cs b)
    (hQ : ∀ c a w, Q (.panic c) (a.put oi.dst v) w → Q (.panic c) a w)
    (hwait : ∀ j, loud j = true → j < ops.size → calm j = true ∨ Before md ops i j ∨ Before md ops j i) :
    ∀ (fuel : Nat) (listed : Array Bool) (a : Act) (w : World), Closed md ops listed →
      (∀ j oj, ops[j]? = some oj → j ≠ i → listed.getD j true = false → (∀ e ∈ oj.after, Region.binds md e = true → e.on ≠ i) → oi.apart ops oj = true) →
      i ∈ Region.ready md ops listed → (∀ w', row.ok w w' → YieldsAt P ops w' oi v a) →
      wpMix P md ops Q loud calm row fuel (listed.setIfInBounds i true) (a.put oi.dst v) w → wpMix P md ops Q loud calm row (fuel + 1) listed a w := by
  intro fuel
  induction fuel with
  | zero =>
    intro listed a w _ _ hr hy H
    refine ⟨fun h => (by rw [h] at hr; cases hr), fun j hj => ?_⟩
    by_cases hji : j = i
    · subst hji; exact mix_self hi hl (hy w (row.self w)) H
    · have := ready_mono hj hji
      rw [H.1] at this
      cases this
  | succ fuel ih =>
    intro listed a w hcl hfree hr hy H
    refine ⟨fun h => (by rw [h] at hr; cases hr), fun j hj => ?_⟩
    by_cases hji : j = i
    · subst hji; exact mix_self hi hl (hy w (row.self w)) H
    · have h1 := H.2 j (ready_mono hj hji)
      obtain ⟨hjun, oj, hoj, hall⟩ := mem_ready.1 hj
      have hnot : ∀ e ∈ oj.after, Region.binds md e = true → e.on ≠ i := fun e he hb heq => by
        have h2 := hall e he hb
        rw [heq, unlisted_of_ready hr] at h2
        cases h2
      have hap := hfree j oj hoj hji hjun hnot
      obtain ⟨h1a, h2a, h3a⟩ := Oper.apart_spec hap
      have keep : ∀ (a : Act) u, (∀ w', row.ok w w' → YieldsAt P ops w' oi v a) → ∀ w', row.ok w w' → YieldsAt P ops w' oi v (a.put oj.dst u) := fun a u hy w' hg =>
        (hy w' hg).of_same (execOp_put oi (hsel i oi · · hi) a oj.dst u h3a) (wanted_put oi a oj.dst u h3a)
      have keepD : ∀ (a : Act) d, (∀ w', row.ok w w' → YieldsAt P ops w' oi v a) → ∀ w', row.ok w w' → YieldsAt P ops w' oi v { a with defers := d :: a.defers } := fun a d hy w' hg =>
        (hy w' hg).of_same rfl rfl
      have hfree' : ∀ k ok, ops[k]? = some ok → k ≠ i → (listed.setIfInBounds j true).getD k true = false →
          (∀ e ∈ ok.after, Region.binds md e = true → e.on ≠ i) → oi.apart ops ok = true := fun k ok hk hki hun hno => by
        refine hfree k ok hk hki ?_ hno
        by_cases hjk : j = k
        · subst hjk; exact hjun
        · rw [getD_set_ne true hjk] at hun; exact hun
      split at h1
      · rename_i hlj
        rw [if_pos hlj]
        have hjlt : j < ops.size := (Array.getElem?_eq_some_iff.1 hoj).1
        rcases hwait j hlj hjlt with hwt | hwt | hwt
        · have h2 := wpOp_aside hoj hap (fun cs b => hsel j oj cs b hoj) hQ keep keepD hy h1
          refine wpOp_mono (fun a' w' h3 => ⟨h3.2.1, ih (listed.setIfInBounds j true) a' w' (hcl.set hj) hfree' (ready_mono hr (Ne.symm hji)) (fun w2 hg => h3.1 w2 (Rw.step (h3.2.1 hwt) hg)) ?_⟩) h2
          rw [Array.setIfInBounds_comm _ _ hji]
          exact h3.2.2
        · exact absurd hj (before_ready hcl (unlisted_of_ready hr) hji hwt)
        · exact absurd hr (before_ready hcl (unlisted_of_ready hj) (Ne.symm hji) hwt)
      · rename_i hlj
        rw [if_neg hlj]
        refine mix_swap hoj hap (fun cs b => hsel j oj cs b hoj) h1 (fun u hK => ih (listed.setIfInBounds j true) _ w (hcl.set hj) hfree' (ready_mono hr (Ne.symm hji)) (keep a u hy) ?_)
        rw [Array.setIfInBounds_comm _ _ hji]
        exact hK

/-- An operation that is the only one that is ready. -/
theorem mix_only {i : Nat} {f : Nat} {listed : Array Bool} {a : Act} {w : World} (hl : loud i = true) (hk : i ∈ Region.ready md ops listed) (hr : ∀ j ∈ Region.ready md ops listed, j = i)
    (h : wpOp P ops Q i (fun a' w' => (calm i = true → row.ok w w') ∧ wpMix P md ops Q loud calm row f (listed.setIfInBounds i true) a' w') a w) : wpMix P md ops Q loud calm row (f + 1) listed a w := by
  refine ⟨fun h0 => (by rw [h0] at hk; cases hk), fun j hj => ?_⟩
  have hji : j = i := hr j hj
  subst hji
  rw [if_pos hl]
  exact h

/-! The check, by computing: sets of places are numbers, a bit for each. -/
def emask (md : Region.Mode) (acc : List Nat) : List Edge → Nat
  | [] => 0
  | e :: es => if Region.binds md e then (2 ^ e.on ||| acc.getD e.on 0) ||| emask md acc es else emask md acc es
def dmask (md : Region.Mode) (o : Oper) : Nat := emask md [] o.after.toList
def ancs (md : Region.Mode) : List Oper → List Nat → List Nat
  | [], acc => acc
  | o :: l, acc => ancs md l (acc ++ [emask md acc o.after.toList])
theorem emask_bit {acc : List Nat} {i : Nat} : ∀ {es : List Edge}, (emask md acc es).testBit i = true ↔ ∃ e ∈ es, Region.binds md e = true ∧ (e.on = i ∨ (acc.getD e.on 0).testBit i = true)
  | [] => by simp [emask]
  | e :: es => by
    have ih := emask_bit (acc := acc) (i := i) (es := es)
    unfold emask
    by_cases hb : Region.binds md e = true
    · rw [if_pos hb]
      simp only [Nat.testBit_or, Nat.testBit_two_pow, Bool.or_eq_true, decide_eq_true_eq, ih, List.mem_cons, exists_eq_or_imp, hb, true_and]
    · rw [if_neg hb, ih]
      simp only [List.mem_cons, exists_eq_or_imp, hb, false_and, false_or, Bool.false_eq_true]
theorem dmask_bit {o : Oper} {i : Nat} : (dmask md o).testBit i = true ↔ ∃ e ∈ o.after, Region.binds md e = true ∧ e.on = i := by
  unfold dmask
  rw [emask_bit]
  simp
theorem ancs_spec : ∀ (l : List Oper) (acc : List Nat), (∀ j, l[j]? = ops[acc.length + j]?) → (∀ j i, (acc.getD j 0).testBit i = true → Before md ops i j) → ∀ j i, ((ancs md l acc).getD j 0).testBit i = true → Before md ops i j
  | [], _, _, h => h
  | o :: l, acc, hl, h => by
    refine ancs_spec l (acc ++ [emask md acc o.after.toList]) (fun j => ?_) (fun j i hb => ?_)
    · have := hl (j + 1)
      simpa [Nat.add_assoc, Nat.add_comm 1 j] using this
    · rcases Nat.lt_trichotomy j acc.length with hj | hj | hj
      · rw [List.getD_eq_getElem?_getD, List.getElem?_append_left hj, ← List.getD_eq_getElem?_getD] at hb
        exact h j i hb
      · subst hj
        rw [List.getD_eq_getElem?_getD, List.getElem?_append_right (Nat.le_refl _)] at hb
        simp only [Nat.sub_self, List.getElem?_cons_zero, Option.getD_some] at hb
        obtain ⟨e, he, hbd, h2⟩ := emask_bit.1 hb
        intro listed hcl hlj
        have h0 : ops[acc.length]? = some o := by simpa using (hl 0).symm
        have h3 := hcl _ o h0 hlj e (by simpa using he) hbd
        rcases h2 with h2 | h2
        · rw [← h2]; exact h3
        · exact h _ _ h2 listed hcl h3
      · rw [List.getD_eq_getElem?_getD, List.getElem?_eq_none (by simp; omega)] at hb
        simp at hb

def rdyK (D : List Nat) (m k : Nat) : Bool := match D[k]? with
  | some d => !Nat.testBit m k && Nat.beq (Nat.land d m) d
  | none => false
def onlyK (m k : Nat) : List Nat → Nat → Bool
  | [], _ => true
  | d :: D, j => (Nat.beq j k || (Nat.testBit m j || !Nat.beq (Nat.land d m) d)) && onlyK m k D (j + 1)
def freeK (ops : Array Oper) (oi : Oper) (m k : Nat) : List Oper → List Nat → Nat → Bool
  | o :: l, d :: D, j => (Nat.beq j k || (Nat.testBit m j || (Nat.testBit d k || oi.apart ops o))) && freeK ops oi m k l D (j + 1)
  | _, _, _ => true
def freeAt (ops : Array Oper) (l : List Oper) (D : List Nat) (m k : Nat) : Bool := match ops[k]? with
  | some oi => freeK ops oi m k l D 0
  | none => false
def crossK (L k ak : Nat) : List Nat → Nat → Bool
  | [], _ => true
  | a :: A, j => (!Nat.testBit L j || (Nat.testBit ak j || Nat.testBit a k)) && crossK L k ak A (j + 1)
def chk (ops : Array Oper) (l : List Oper) (D A : List Nat) (L C : Nat) : List (Tag × Nat) → Nat → Bool
  | [], m => onlyK m D.length D 0
  | (.l, k) :: ts, m => ((Nat.testBit L k && !Nat.testBit C k) && (rdyK D m k && onlyK m k D 0)) && chk ops l D A L C ts (m ||| 2 ^ k)
  | (.c, k) :: ts, m => (Nat.testBit L k && (rdyK D m k && onlyK m k D 0)) && chk ops l D A L C ts (m ||| 2 ^ k)
  | (.p, k) :: ts, m => (!Nat.testBit L k && (rdyK D m k && freeAt ops l D m k)) && chk ops l D A L C ts (m ||| 2 ^ k)
  | (.r, k) :: ts, m => (!Nat.testBit L k && (rdyK D m k && (freeAt ops l D m k && crossK L k (A.getD k 0) A 0))) && chk ops l D A L C ts (m ||| 2 ^ k)
  | (.s, k) :: ts, m => (!Nat.testBit L k && (rdyK D m k && (freeAt ops l D m k && crossK (L ^^^ (L &&& C)) k (A.getD k 0) A 0))) && chk ops l D A L C ts (m ||| 2 ^ k)
  | (.f m' L' C', _) :: _, m => Nat.beq m m' && (Nat.beq L L' && Nat.beq C C')
  | (.g _ _ _, _) :: _, _ => false
/-- The operations of a list of tags, up to where the ways part. -/
def opsOf (ops : Array Oper) : List (Tag × Nat) → List (Option Oper)
  | [] => []
  | (.f _ _ _, _) :: _ => []
  | (_, k) :: ts => ops[k]? :: opsOf ops ts
/-- How many operations are left behind that. -/
def extra : List (Tag × Nat) → Nat
  | [] => 0
  | (.f _ _ _, n) :: _ => n
  | _ :: ts => extra ts

/-- The places that are through, as a number. -/
structure Marks (md : Region.Mode) (ops : Array Oper) (D A : List Nat) (listed : Array Bool) (m : Nat) : Prop where
  size : listed.size = ops.size
  bits : ∀ j, listed.getD j false = Nat.testBit m j
  D : D = ops.toList.map (dmask md)
  A : A = ancs md ops.toList []
  select : Region.noSelect ops = true
  closed : Closed md ops listed

section
variable {D A : List Nat} {listed : Array Bool} {m : Nat}
theorem land_eq {d m : Nat} : Nat.beq (Nat.land d m) d = true ↔ ∀ i, d.testBit i = true → m.testBit i = true := by
  constructor
  · intro h i hi
    have h2 : (d &&& m).testBit i = true := by show (Nat.land d m).testBit i = true; rw [Nat.eq_of_beq_eq_true h]; exact hi
    rw [Nat.testBit_and, Bool.and_eq_true] at h2
    exact h2.2
  · intro h
    have e : Nat.land d m = d := ?_
    · rw [e]; exact Nat.beq_refl d
    refine Nat.eq_of_testBit_eq fun i => ?_
    show (d &&& m).testBit i = d.testBit i
    rw [Nat.testBit_and]
    cases hd : d.testBit i with
    | false => rfl
    | true => rw [h i hd]; rfl
theorem Marks.getD (h : Marks md ops D A listed m) {j : Nat} (hj : j < ops.size) : listed.getD j true = Nat.testBit m j := by
  rw [← h.bits j]
  have : j < listed.size := by rw [h.size]; exact hj
  simp [this]
theorem Marks.dAt (h : Marks md ops D A listed m) {j : Nat} {o : Oper} (hj : ops[j]? = some o) : D[j]? = some (dmask md o) := by
  rw [h.D, List.getElem?_map, Array.getElem?_toList, hj]; rfl
theorem Marks.subset (h : Marks md ops D A listed m) {o : Oper} : Nat.beq (Nat.land (dmask md o) m) (dmask md o) = true ↔ ∀ e ∈ o.after, Region.binds md e = true → listed.getD e.on false = true := by
  rw [land_eq]
  constructor
  · intro h2 e he hb
    rw [h.bits]
    exact h2 _ (dmask_bit.2 ⟨e, he, hb, rfl⟩)
  · intro h2 i hi
    obtain ⟨e, he, hb, rfl⟩ := dmask_bit.1 hi
    rw [← h.bits]
    exact h2 e he hb
theorem Marks.ready (h : Marks md ops D A listed m) {k : Nat} (hk : rdyK D m k = true) : k ∈ Region.ready md ops listed := by
  unfold rdyK at hk
  split at hk
  · rename_i d hd
    simp only [Bool.and_eq_true, Bool.not_eq_true'] at hk
    have hlt : k < ops.size := by
      have := (List.getElem?_eq_some_iff.1 hd).1
      rw [h.D] at this
      simpa using this
    obtain ⟨o, ho⟩ : ∃ o, ops[k]? = some o := ⟨_, Array.getElem?_eq_getElem hlt⟩
    rw [h.dAt ho] at hd
    injection hd with hd
    rw [← hd] at hk
    exact mem_ready.2 ⟨by rw [h.getD hlt]; exact hk.1, o, ho, h.subset.1 hk.2⟩
  · cases hk
theorem onlyK_spec {k : Nat} : ∀ (D : List Nat) (j : Nat), onlyK m k D j = true → ∀ i d, D[i]? = some d → j + i = k ∨ m.testBit (j + i) = true ∨ Nat.beq (Nat.land d m) d = false
  | [], _, _, i, d, hd => by simp at hd
  | d0 :: D, j, hc, i, d, hd => by
    unfold onlyK at hc
    simp only [Bool.and_eq_true, Bool.or_eq_true, Bool.not_eq_true'] at hc
    cases i with
    | zero =>
      simp only [List.getElem?_cons_zero, Option.some.injEq] at hd
      subst hd
      rcases hc.1 with h | h | h
      · exact .inl (by simpa using Nat.eq_of_beq_eq_true h)
      · exact .inr (.inl h)
      · exact .inr (.inr h)
    | succ i =>
      have := onlyK_spec D (j + 1) hc.2 i d (by simpa using hd)
      rw [show j + (i + 1) = j + 1 + i by omega]
      exact this
theorem Marks.only (h : Marks md ops D A listed m) {k : Nat} (hk : onlyK m k D 0 = true) : ∀ j ∈ Region.ready md ops listed, j = k := by
  intro j hj
  obtain ⟨hun, o, ho, hall⟩ := mem_ready.1 hj
  have hlt : j < ops.size := (Array.getElem?_eq_some_iff.1 ho).1
  rw [h.getD hlt] at hun
  rcases onlyK_spec D 0 hk j _ (h.dAt ho) with h1 | h1 | h1
  · simpa using h1
  · rw [Nat.zero_add, hun] at h1; cases h1
  · rw [h.subset.2 hall] at h1; cases h1
theorem freeK_spec {oi : Oper} {k : Nat} : ∀ (l : List Oper) (j : Nat), freeK ops oi m k l (l.map (dmask md)) j = true → ∀ i o, l[i]? = some o → j + i = k ∨ m.testBit (j + i) = true ∨ (dmask md o).testBit k = true ∨ oi.apart ops o = true
  | [], _, _, i, o, ho => by simp at ho
  | o0 :: l, j, hc, i, o, ho => by
    simp only [List.map_cons, freeK, Bool.and_eq_true, Bool.or_eq_true] at hc
    cases i with
    | zero =>
      simp only [List.getElem?_cons_zero, Option.some.injEq] at ho
      subst ho
      rcases hc.1 with h | h | h | h
      · exact .inl (by simpa using Nat.eq_of_beq_eq_true h)
      · exact .inr (.inl h)
      · exact .inr (.inr (.inl h))
      · exact .inr (.inr (.inr h))
    | succ i =>
      have := freeK_spec l (j + 1) hc.2 i o (by simpa using ho)
      rw [show j + (i + 1) = j + 1 + i by omega]
      exact this
theorem Marks.free (h : Marks md ops D A listed m) {k : Nat} {oi : Oper} (hi : ops[k]? = some oi) (hk : freeAt ops ops.toList D m k = true) :
    ∀ j oj, ops[j]? = some oj → j ≠ k → listed.getD j true = false → (∀ e ∈ oj.after, Region.binds md e = true → e.on ≠ k) → oi.apart ops oj = true := by
  intro j oj hj hne hun hno
  unfold freeAt at hk
  rw [hi] at hk
  simp only at hk
  rw [h.D] at hk
  have hlt : j < ops.size := (Array.getElem?_eq_some_iff.1 hj).1
  rw [h.getD hlt] at hun
  rcases freeK_spec ops.toList 0 hk j oj (by rw [Array.getElem?_toList]; exact hj) with h1 | h1 | h1 | h1
  · exact absurd (by simpa using h1) hne
  · rw [Nat.zero_add, hun] at h1; cases h1
  · obtain ⟨e, he, hb, h2⟩ := dmask_bit.1 h1
    exact absurd h2 (hno e he hb)
  · exact h1
theorem crossK_spec {L k ak : Nat} : ∀ (A : List Nat) (j : Nat), crossK L k ak A j = true → ∀ i, i < A.length → L.testBit (j + i) = true → ak.testBit (j + i) = true ∨ (A.getD i 0).testBit k = true
  | [], _, _, i, hi, _ => by simp at hi
  | a :: A, j, hc, i, hi, hl => by
    simp only [crossK, Bool.and_eq_true, Bool.or_eq_true, Bool.not_eq_true'] at hc
    cases i with
    | zero =>
      rcases hc.1 with h | h | h
      · rw [Nat.add_zero, h] at hl; cases hl
      · exact .inl h
      · exact .inr (by simpa using h)
    | succ i =>
      have := crossK_spec A (j + 1) hc.2 i (by simpa using hi) (by rw [show j + 1 + i = j + (i + 1) by omega]; exact hl)
      rw [show j + (i + 1) = j + 1 + i by omega]
      simpa using this
theorem ancs_length : ∀ (l : List Oper) (acc : List Nat), (ancs md l acc).length = acc.length + l.length
  | [], acc => by simp [ancs]
  | o :: l, acc => by rw [ancs, ancs_length]; simp; omega
theorem Marks.cross (h : Marks md ops D A listed m) {L k : Nat} (hk : crossK L k (A.getD k 0) A 0 = true) {j : Nat} (hj : j < ops.size) (hl : L.testBit j = true) : Before md ops k j ∨ Before md ops j k := by
  have hs : ∀ j i, (A.getD j 0).testBit i = true → Before md ops i j := by
    rw [h.A]
    exact ancs_spec ops.toList [] (fun j => by simp) (fun j i hb => by simp at hb)
  have hlen : A.length = ops.size := by rw [h.A, ancs_length]; simp
  rcases crossK_spec A 0 hk j (by omega) (by rw [Nat.zero_add]; exact hl) with h1 | h1
  · rw [Nat.zero_add] at h1; exact .inr (hs _ _ h1)
  · exact .inl (hs _ _ h1)
theorem Marks.set (h : Marks md ops D A listed m) {k : Nat} (hk : k ∈ Region.ready md ops listed) : Marks md ops D A (listed.setIfInBounds k true) (m ||| 2 ^ k) := by
  have hlt : k < listed.size := by
    rw [h.size]
    obtain ⟨_, o, ho, _⟩ := mem_ready.1 hk
    exact (Array.getElem?_eq_some_iff.1 ho).1
  refine ⟨by simp [h.size], fun j => ?_, h.D, h.A, h.select, h.closed.set hk⟩
  rw [Nat.testBit_or, Nat.testBit_two_pow]
  by_cases hj : k = j
  · subst hj; simp [hlt]
  · rw [getD_set_ne false hj, h.bits j]; simp [hj]
end
end

/-! The region's walk. 'tg': nothing where the order is given; else the row that calm operations may change, what is known of the edges and of what is loud, and the tags that are left with their places. -/
abbrev Tags := Option (Rw × List (Tag × Nat))
def Tags.tail : Tags → Tags
  | some (row, _ :: ts) => some (row, ts)
  | t => t
def Tags.loud : Tags → Bool
  | none => true
  | some (_, (.l, _) :: _) => true
  | some (_, (.c, _) :: _) => true
  | some (_, (.g _ _ _, _) :: _) => true
  | _ => false
def Tags.calm : Tags → Bool
  | some (_, (.c, _) :: _) => true
  | some (_, (.g _ _ C, k) :: _) => Nat.testBit C k
  | _ => false
def Tags.rw : Tags → Rw
  | some (row, _) => row
  | none => (none, none)
def Tags.row (tg : Tags) : Option Nat := tg.rw.1
def Tags.reads : Tags → Bool
  | none => true
  | some (_, (.l, _) :: _) => true
  | some (_, (.c, _) :: _) => true
  | some (_, (.r, _) :: _) => true
  | some (_, (.g _ _ _, _) :: _) => true
  | _ => false
def Tags.stays : Tags → Bool
  | some (_, (.s, _) :: _) => true
  | t => t.reads

def Left (P : Program) (Q : Exit → Act → World → Prop) (ops : Array Oper) : Tags → List Oper → Act → World → Prop
  | none, l, a, w => wpList P ops Q l a w
  | some (row, (.g m L C, k) :: ts), l, a, w => ∀ D A listed o l', l = o :: l' → Marks .any ops D A listed m → ops[k]? = some o → l'.map some = opsOf ops ts → k ∈ Region.ready .any ops listed → chk ops ops.toList D A L C ts (m ||| 2 ^ k) = true →
      wpOp P ops Q k (fun a' w' => (Nat.testBit C k = true → row.ok w w') ∧ wpMix P .any ops Q (Nat.testBit L) (Nat.testBit C) row (l'.length + extra ts) (listed.setIfInBounds k true) a' w') a w
  | some (row, ts), l, a, w => ∀ D A L C listed m, Marks .any ops D A listed m → l.map some = opsOf ops ts → chk ops ops.toList D A L C ts m = true →
      wpMix P .any ops Q (Nat.testBit L) (Nat.testBit C) row (l.length + extra ts) listed a w
theorem left_elim {P : Program} {Q : Exit → Act → World → Prop} {ops : Array Oper} {row : Rw} : ∀ {ts : List (Tag × Nat)} {l : List Oper} {a : Act} {w : World}, Left P Q ops (some (row, ts)) l a w → ∀ {D A : List Nat} {L C : Nat} {listed : Array Bool} {m : Nat}, Marks .any ops D A listed m → l.map some = opsOf ops ts → chk ops ops.toList D A L C ts m = true →
      wpMix P .any ops Q (Nat.testBit L) (Nat.testBit C) row (l.length + extra ts) listed a w
  | [], _, _, _, h, _, _, _, _, _, _, hm, hl, hc => h _ _ _ _ _ _ hm hl hc
  | (.p, _) :: _, _, _, _, h, _, _, _, _, _, _, hm, hl, hc => h _ _ _ _ _ _ hm hl hc
  | (.r, _) :: _, _, _, _, h, _, _, _, _, _, _, hm, hl, hc => h _ _ _ _ _ _ hm hl hc
  | (.l, _) :: _, _, _, _, h, _, _, _, _, _, _, hm, hl, hc => h _ _ _ _ _ _ hm hl hc
  | (.s, _) :: _, _, _, _, h, _, _, _, _, _, _, hm, hl, hc => h _ _ _ _ _ _ hm hl hc
  | (.c, _) :: _, _, _, _, h, _, _, _, _, _, _, hm, hl, hc => h _ _ _ _ _ _ hm hl hc
  | (.f _ _ _, _) :: _, _, _, _, h, _, _, _, _, _, _, hm, hl, hc => h _ _ _ _ _ _ hm hl hc
  | (.g _ _ _, _) :: _, _, _, _, _, _, _, _, _, _, _, _, _, hc => by simp [chk] at hc

/-- The same inside a region: l is what is left of its operations. -/
def WL (P : Program) (fn : Func) (F : Ending → World → Prop) (N : Nat) (ks : List K) (ops : Array Oper) (tg : Tags) (l : List Oper) (fr : Fr) (w : World) : Prop :=
  ∀ a, Rep N a fr → Left P (kpost P fn F ks) ops tg l a w

section
variable {P : Program} {fn : Func} {F : Ending → World → Prop} {N : Nat} {ks : List K} {ops : Array Oper} {l : List Oper} {fr : Fr} {w : World} {o : Oper} {a : Act} {tg : Tags}

theorem kpost_panic_put {c : List PanicEntry} {x : Option Nat} {v : Value} : ∀ {ks : List K} (a : Act) (w : World), kpost P fn F ks (.panic c) (a.put x v) w → kpost P fn F ks (.panic c) a w
  | [], a, w, h => ⟨by cases x <;> exact h.1, h.2⟩
  | .code _ :: ks, a, w, h => kpost_panic_put (ks := ks) a w h
  | .blk _ :: ks, a, w, h => kpost_panic_put (ks := ks) a w h
  | .inv _ :: ks, a, w, h => kpost_panic_put (ks := ks) a w h

theorem head_of {l : List Oper} {k : Nat} {ts : List (Tag × Nat)} (hl : (o :: l).map some = ops[k]? :: opsOf ops ts) : ops[k]? = some o ∧ l.map some = opsOf ops ts := by
  simp only [List.map_cons, List.cons.injEq] at hl
  exact ⟨hl.1.symm, hl.2⟩
theorem fuel_succ (l : List Oper) (n : Nat) : (o :: l).length + n = (l.length + n) + 1 := by simp; omega

/-- A step that may change the world. -/
theorem left_loud (ht : tg.loud = true) (h : ∀ K : Act → World → Prop, (∀ a' w', (tg.calm = false ∨ tg.rw.ok w w') → Left P (kpost P fn F ks) ops tg.tail l a' w' → K a' w') → if Region.wanted o (yielded ops a.tmps) then o.wp P a w K (kpost P fn F ks) else K (a.put o.dst undef) w) :
    Left P (kpost P fn F ks) ops tg (o :: l) a w := by
  have fin : ∀ {k : Nat} {K : Act → World → Prop}, ops[k]? = some o → (if Region.wanted o (yielded ops a.tmps) then o.wp P a w K (kpost P fn F ks) else K (a.put o.dst undef) w) → wpOp P ops (kpost P fn F ks) k K a w := by
    intro k K h0 h2
    unfold wpOp
    rw [h0]
    simp only
    split
    · rename_i hw; rw [if_pos hw] at h2; exact .inl h2
    · rename_i hw; rw [if_neg hw] at h2; exact h2
  match tg, ht with
  | none, _ =>
    have := h _ (fun _ _ _ h => h)
    show wpList P ops _ (o :: l) a w
    exact wpList_step fun K hK => h K (fun a' w' _ h' => hK a' w' h')
  | some (row, (.l, k) :: ts), _ =>
    intro D A L C listed m hm hl hchk
    obtain ⟨h0, h1⟩ := head_of hl
    rw [show (o :: l).length + extra ((Tag.l, k) :: ts) = (l.length + extra ts) + 1 from fuel_succ l _]
    unfold chk at hchk
    simp only [Bool.and_eq_true, Bool.not_eq_true'] at hchk
    obtain ⟨⟨⟨hlk, hck⟩, hr, ho⟩, hrest⟩ := hchk
    refine mix_only hlk (hm.ready hr) (hm.only ho) (fin h0 (h _ fun a' w' _ h' => ⟨fun e => absurd e (by rw [hck]; simp), ?_⟩))
    exact left_elim h' (hm.set (hm.ready hr)) h1 hrest
  | some (row, (.c, k) :: ts), _ =>
    intro D A L C listed m hm hl hchk
    obtain ⟨h0, h1⟩ := head_of hl
    rw [show (o :: l).length + extra ((Tag.c, k) :: ts) = (l.length + extra ts) + 1 from fuel_succ l _]
    unfold chk at hchk
    simp only [Bool.and_eq_true] at hchk
    obtain ⟨⟨hlk, hr, ho⟩, hrest⟩ := hchk
    refine mix_only hlk (hm.ready hr) (hm.only ho) (fin h0 (h _ fun a' w' hg h' => ⟨fun _ => ?_, ?_⟩))
    · rcases hg with hg | hg
      · cases hg
      · exact hg
    · exact left_elim h' (hm.set (hm.ready hr)) h1 hrest
  | some (row, (.g m L C, k) :: ts), _ =>
    intro D A listed o' l' e hm h0 h1 hk hrest
    injection e with e1 e2
    subst e1; subst e2
    refine fin h0 (h _ fun a' w' hg h' => ⟨fun hc => ?_, left_elim h' (hm.set hk) h1 hrest⟩)
    rcases hg with hg | hg
    · exact absurd hc (by show ¬ Nat.testBit C k = true; rw [show Nat.testBit C k = false from hg]; simp)
    · exact hg

/-- A step that reads. -/
theorem left_read {v : Value} (ht : tg.reads = true) (hy : YieldsAt P ops w o v a) (h : Left P (kpost P fn F ks) ops tg.tail l (a.put o.dst v) w) : Left P (kpost P fn F ks) ops tg (o :: l) a w := by
  have hstep : ∀ K : Act → World → Prop, K (a.put o.dst v) w → if Region.wanted o (yielded ops a.tmps) then o.wp P a w K (kpost P fn F ks) else K (a.put o.dst undef) w := by
    intro K hK
    rcases hy with ⟨hw, hv | ⟨hv, rfl⟩ | ⟨f, args, hv, hc⟩⟩ | ⟨hw, rfl⟩
    · rw [if_pos hw]; unfold Oper.wp; rw [hv]; exact hK
    · rw [if_pos hw]; unfold Oper.wp; rw [hv]; exact hK
    · rw [if_pos hw]; unfold Oper.wp; rw [hv]
      refine Calls.mono hc ?_
      rintro e w'' ⟨rfl, rfl⟩
      exact hK
    · rw [if_neg (by rw [hw]; simp)]; exact hK
  match tg, ht with
  | none, _ => exact left_loud rfl fun K hK => hstep K (hK _ _ (.inl rfl) h)
  | some (row, (.l, k) :: ts), _ => exact left_loud rfl fun K hK => hstep K (hK _ _ (.inl rfl) h)
  | some (row, (.c, k) :: ts), _ => exact left_loud rfl fun K hK => hstep K (hK _ _ (.inr (row.self w)) h)
  | some (row, (.g _ _ _, k) :: ts), _ => exact left_loud rfl fun K hK => hstep K (hK _ _ (.inr (row.self w)) h)
  | some (row, (.r, k) :: ts), _ =>
    intro D A L C listed m hm hl hchk
    obtain ⟨h0, h1⟩ := head_of hl
    rw [show (o :: l).length + extra ((Tag.r, k) :: ts) = (l.length + extra ts) + 1 from fuel_succ l _]
    unfold chk at hchk
    simp only [Bool.and_eq_true, Bool.not_eq_true'] at hchk
    obtain ⟨⟨hlk, hr, hf, hx⟩, hrest⟩ := hchk
    exact mix_first_r h0 hlk (Region.noSelect_spec hm.select) (fun j hj hlt => hm.cross hx hlt hj) (l.length + extra ts) listed a hm.closed (hm.free h0 hf) (hm.ready hr) hy (left_elim h (hm.set (hm.ready hr)) h1 hrest)

/-- A step that reads what calm ones leave alone. -/
theorem left_stays {v : Value} (ht : tg.stays = true) (hy : ∀ w', tg.rw.ok w w' → YieldsAt P ops w' o v a) (h : Left P (kpost P fn F ks) ops tg.tail l (a.put o.dst v) w) : Left P (kpost P fn F ks) ops tg (o :: l) a w := by
  match tg, ht with
  | none, _ => exact left_read rfl (hy w (Rw.self _ w)) h
  | some (row, (.l, k) :: ts), _ => exact left_read rfl (hy w (Rw.self _ w)) h
  | some (row, (.c, k) :: ts), _ => exact left_read rfl (hy w (Rw.self _ w)) h
  | some (row, (.r, k) :: ts), _ => exact left_read rfl (hy w (Rw.self _ w)) h
  | some (row, (.g _ _ _, k) :: ts), _ => exact left_read rfl (hy w (Rw.self _ w)) h
  | some (row, (.s, k) :: ts), _ =>
    intro D A L C listed m hm hl hchk
    obtain ⟨h0, h1⟩ := head_of hl
    rw [show (o :: l).length + extra ((Tag.s, k) :: ts) = (l.length + extra ts) + 1 from fuel_succ l _]
    unfold chk at hchk
    simp only [Bool.and_eq_true, Bool.not_eq_true'] at hchk
    obtain ⟨⟨hlk, hr, hf, hx⟩, hrest⟩ := hchk
    refine mix_first_s h0 hlk (Region.noSelect_spec hm.select) (fun c a w h => kpost_panic_put a w h) (fun j hj hlt => ?_) (l.length + extra ts) listed a w hm.closed (hm.free h0 hf) (hm.ready hr) hy (left_elim h (hm.set (hm.ready hr)) h1 hrest)
    cases hC : Nat.testBit C j with
    | true => exact .inl rfl
    | false => exact .inr (hm.cross hx hlt (by rw [Nat.testBit_xor, Nat.testBit_and, hj, hC]; rfl))

/-- A step that hands back the same in every world. -/
theorem left_pure {v : Value} (hy : Yields P ops o v a) (h : Left P (kpost P fn F ks) ops tg.tail l (a.put o.dst v) w) : Left P (kpost P fn F ks) ops tg (o :: l) a w := by
  match tg with
  | none => exact left_read rfl (yields_at hy w) h
  | some (row, (.l, k) :: ts) => exact left_read rfl (yields_at hy w) h
  | some (row, (.c, k) :: ts) => exact left_read rfl (yields_at hy w) h
  | some (row, (.r, k) :: ts) => exact left_read rfl (yields_at hy w) h
  | some (row, (.s, k) :: ts) => exact left_stays rfl (fun w' _ => yields_at hy w') h
  | some (row, []) => exact fun D A L C listed m hm hl hchk => by simp [opsOf] at hl
  | some (row, (.f _ _ _, k) :: ts) => exact fun D A L C listed m hm hl hchk => by simp [opsOf] at hl
  | some (row, (.g _ _ _, k) :: ts) => exact left_read rfl (yields_at hy w) h
  | some (row, (.p, k) :: ts) =>
    intro D A L C listed m hm hl hchk
    obtain ⟨h0, h1⟩ := head_of hl
    rw [show (o :: l).length + extra ((Tag.p, k) :: ts) = (l.length + extra ts) + 1 from fuel_succ l _]
    unfold chk at hchk
    simp only [Bool.and_eq_true, Bool.not_eq_true'] at hchk
    obtain ⟨⟨hlk, hr, hf⟩, hrest⟩ := hchk
    exact mix_first_p h0 hlk (Region.noSelect_spec hm.select) (fun c a w h => kpost_panic_put a w h) (l.length + extra ts) listed a w (hm.free h0 hf) (hm.ready hr) hy (left_elim h (hm.set (hm.ready hr)) h1 hrest)

theorem rk_region {id : Nat} {l : List Oper} (h : WL P fn F N ks l.toArray none l fr w) : RK P fn F N (.code (.region id l.toArray false) :: ks) fr w := fun a ha => wp_region_lit (h a ha)
theorem draw_at {id : Nat} {l l' : List Oper} (row : Rw) (D A : List Nat) (L C : Nat) (ts : List (Tag × Nat)) (hm : P.follows .mixedOrders = true) (hD : l.map (dmask .any) = D) (hA : ancs .any l [] = A)
    (hc : (Region.noSelect l.toArray && (Nat.beq (l'.length + extra ts) l.length && chk l.toArray l D A L C ts 0)) = true) (hl : l'.map some = opsOf l.toArray ts)
    (h : WL P fn F N ks l.toArray (some (row, ts)) l' fr w.drew) : RK P fn F N (.code (.region id l.toArray true) :: ks) fr w := fun a ha => by
  simp only [Bool.and_eq_true] at hc
  obtain ⟨h1, h2, h3⟩ := hc
  refine wp_region_any hm (wpAny_of_mix (loud := Nat.testBit L) (calm := Nat.testBit C) (row := row) _ _ _ _ ?_)
  have hno : ∀ j, (Array.replicate l.length false).getD j false = false := fun j => by
    rcases Nat.lt_or_ge j l.length with h' | h'
    · simp [h']
    · simp [h']
  have := left_elim (h a ha) (listed := Array.replicate l.length false) (m := 0) ⟨by simp, fun j => by rw [hno j]; simp, hD.symm, hA.symm, h1, fun j oj hj hl => by rw [hno j] at hl; cases hl⟩ hl h3
  rw [Nat.eq_of_beq_eq_true h2] at this
  simpa using this
/-- In the order of the text. -/
theorem rk_draw {id : Nat} {l : List Oper} (row : Option Nat) (D A : List Nat) (L C : Nat) (ts : List (Tag × Nat)) (hm : P.follows .mixedOrders = true) (hD : l.map (dmask .any) = D) (hA : ancs .any l [] = A)
    (hc : (Region.noSelect l.toArray && (Nat.beq (l.length + extra ts) l.length && chk l.toArray l D A L C ts 0)) = true) (hl : l.map some = opsOf l.toArray ts)
    (h : WL P fn F N ks l.toArray (some ((row, none), ts)) l fr w.drew) : RK P fn F N (.code (.region id l.toArray true) :: ks) fr w := draw_at (row, none) D A L C ts hm hD hA hc hl h
/-- The operations in another order. -/
def nthOp : List Oper → Nat → Option Oper
  | [], _ => none
  | o :: _, 0 => some o
  | _ :: l, k + 1 => nthOp l k
def inOrder (l : List Oper) : List Nat → List Oper
  | [] => []
  | k :: ks => match nthOp l k with
    | some o => o :: inOrder l ks
    | none => inOrder l ks
theorem rk_drawo {id : Nat} {l : List Oper} (row : Option Nat) (D A : List Nat) (L C : Nat) (ord : List Nat) (ts : List (Tag × Nat)) (hm : P.follows .mixedOrders = true) (hD : l.map (dmask .any) = D) (hA : ancs .any l [] = A)
    (hc : (Region.noSelect l.toArray && (Nat.beq ((inOrder l ord).length + extra ts) l.length && chk l.toArray l D A L C ts 0)) = true) (hl : (inOrder l ord).map some = opsOf l.toArray ts)
    (h : WL P fn F N ks l.toArray (some ((row, none), ts)) (inOrder l ord) fr w.drew) : RK P fn F N (.code (.region id l.toArray true) :: ks) fr w := draw_at (row, none) D A L C ts hm hD hA hc hl h
theorem rk_drawB {id : Nat} {l : List Oper} (row : Option Nat) (D A : List Nat) (L C : Nat) (ts : List (Tag × Nat)) (hm : P.follows .mixedOrders = true) (hD : l.map (dmask .any) = D) (hA : ancs .any l [] = A)
    (hc : (Region.noSelect l.toArray && (Nat.beq (l.length + extra ts) l.length && chk l.toArray l D A L C ts 0)) = true) (hl : l.map some = opsOf l.toArray ts)
    (h : WL P fn F N ks l.toArray (some ((row, some w.heap.size), ts)) l fr w.drew) : RK P fn F N (.code (.region id l.toArray true) :: ks) fr w := draw_at (row, some w.heap.size) D A L C ts hm hD hA hc hl h
theorem rk_drawoB {id : Nat} {l : List Oper} (row : Option Nat) (D A : List Nat) (L C : Nat) (ord : List Nat) (ts : List (Tag × Nat)) (hm : P.follows .mixedOrders = true) (hD : l.map (dmask .any) = D) (hA : ancs .any l [] = A)
    (hc : (Region.noSelect l.toArray && (Nat.beq ((inOrder l ord).length + extra ts) l.length && chk l.toArray l D A L C ts 0)) = true) (hl : (inOrder l ord).map some = opsOf l.toArray ts)
    (h : WL P fn F N ks l.toArray (some ((row, some w.heap.size), ts)) (inOrder l ord) fr w.drew) : RK P fn F N (.code (.region id l.toArray true) :: ks) fr w := draw_at (row, some w.heap.size) D A L C ts hm hD hA hc hl h
theorem wl_nil (h : RK P fn F N ks fr w) : WL P fn F N ks ops none [] fr w := fun a ha => (wpList_nil (h a ha) : wpList P ops (kpost P fn F ks) [] a w)
theorem wl_nild {row : Rw} (h : RK P fn F N ks fr w) : WL P fn F N ks ops (some (row, [])) [] fr w := fun a ha D A L C listed m hm _ hchk => by
  unfold chk at hchk
  refine ⟨?_, h a ha⟩
  refine List.eq_nil_iff_forall_not_mem.2 fun j hj => ?_
  have h1 := hm.only hchk j hj
  obtain ⟨_, o, ho, _⟩ := mem_ready.1 hj
  have hlt := (Array.getElem?_eq_some_iff.1 ho).1
  have hD : D = ops.toList.map (dmask .any) := hm.D
  have : D.length = ops.size := by rw [hD]; simp
  have h2 : j = D.length := h1
  omega

/-! Where two operations that change the world may come in either order. -/
def only2 (m k1 k2 : Nat) : List Nat → Nat → Bool
  | [], _ => true
  | d :: D, j => (Nat.beq j k1 || (Nat.beq j k2 || (Nat.testBit m j || !Nat.beq (Nat.land d m) d))) && only2 m k1 k2 D (j + 1)
theorem only2_spec {m k1 k2 : Nat} : ∀ (D : List Nat) (j : Nat), only2 m k1 k2 D j = true → ∀ i d, D[i]? = some d → j + i = k1 ∨ j + i = k2 ∨ m.testBit (j + i) = true ∨ Nat.beq (Nat.land d m) d = false
  | [], _, _, i, d, hd => by simp at hd
  | d0 :: D, j, hc, i, d, hd => by
    unfold only2 at hc
    simp only [Bool.and_eq_true, Bool.or_eq_true, Bool.not_eq_true'] at hc
    cases i with
    | zero =>
      simp only [List.getElem?_cons_zero, Option.some.injEq] at hd
      subst hd
      rcases hc.1 with h | h | h | h
      · exact .inl (by simpa using Nat.eq_of_beq_eq_true h)
      · exact .inr (.inl (by simpa using Nat.eq_of_beq_eq_true h))
      · exact .inr (.inr (.inl h))
      · exact .inr (.inr (.inr h))
    | succ i =>
      have := only2_spec D (j + 1) hc.2 i d (by simpa using hd)
      rw [show j + (i + 1) = j + 1 + i by omega]
      exact this
theorem Marks.only2 {D A : List Nat} {listed : Array Bool} {m : Nat} (h : Marks .any ops D A listed m) {k1 k2 : Nat} (hk : only2 m k1 k2 D 0 = true) : ∀ j ∈ Region.ready .any ops listed, j = k1 ∨ j = k2 := by
  intro j hj
  obtain ⟨hun, o, ho, hall⟩ := mem_ready.1 hj
  have hlt : j < ops.size := (Array.getElem?_eq_some_iff.1 ho).1
  rw [h.getD hlt] at hun
  rcases only2_spec D 0 hk j _ (h.dAt ho) with h1 | h1 | h1 | h1
  · exact .inl (by simpa using h1)
  · exact .inr (by simpa using h1)
  · rw [Nat.zero_add, hun] at h1; cases h1
  · rw [h.subset.2 hall] at h1; cases h1
theorem wl_fork2 {row : Rw} {m L C n k1 k2 : Nat} {l1 l2 : List Oper} {ts1 ts2 : List (Tag × Nat)} (D A : List Nat) (hD : ops.toList.map (dmask .any) = D) (hA : ancs .any ops.toList [] = A)
    (hc : (Nat.testBit L k1 && (Nat.testBit L k2 && (rdyK D m k1 && (rdyK D m k2 && (Go.Proofs.Ytpjedpmbninfcaa.only2 m k1 k2 D 0 && (Nat.beq n (l1.length + extra ts1) && (Nat.beq n (l2.length + extra ts2) && (chk ops ops.toList D A L C ts1 (m ||| 2 ^ k1) && chk ops ops.toList D A L C ts2 (m ||| 2 ^ k2))))))))) = true)
    (hl1 : l1.map some = ops[k1]? :: opsOf ops ts1) (hl2 : l2.map some = ops[k2]? :: opsOf ops ts2)
    (h1 : WL P fn F N ks ops (some (row, (.g m L C, k1) :: ts1)) l1 fr w) (h2 : WL P fn F N ks ops (some (row, (.g m L C, k2) :: ts2)) l2 fr w) : WL P fn F N ks ops (some (row, [(.f m L C, n)])) [] fr w := fun a ha => by
  intro D' A' L' C' listed m' hm _ hchk
  unfold chk at hchk
  simp only [Bool.and_eq_true] at hchk hc
  obtain ⟨hm1, hL1, hC1⟩ := hchk
  obtain rfl := Nat.eq_of_beq_eq_true hm1
  obtain rfl := Nat.eq_of_beq_eq_true hL1
  obtain rfl := Nat.eq_of_beq_eq_true hC1
  obtain rfl : D' = D := by rw [hm.D, hD]
  obtain rfl : A' = A := by rw [hm.A, hA]
  obtain ⟨c1, c2, c3, c4, c5, c6, c7, c8, c9⟩ := hc
  obtain ⟨o1, r1, rfl⟩ : ∃ o r, l1 = o :: r := by cases l1 with | nil => simp at hl1 | cons o r => exact ⟨o, r, rfl⟩
  obtain ⟨o2, r2, rfl⟩ : ∃ o r, l2 = o :: r := by cases l2 with | nil => simp at hl2 | cons o r => exact ⟨o, r, rfl⟩
  obtain ⟨a1, b1⟩ := head_of hl1
  obtain ⟨a2, b2⟩ := head_of hl2
  have e1 : n = (r1.length + extra ts1) + 1 := by have := Nat.eq_of_beq_eq_true c6; rw [this]; exact fuel_succ r1 _
  have e2 : n = (r2.length + extra ts2) + 1 := by have := Nat.eq_of_beq_eq_true c7; rw [this]; exact fuel_succ r2 _
  have w1 := h1 a ha D' A' listed o1 r1 rfl hm a1 b1 (hm.ready c3) c8
  have w2 := h2 a ha D' A' listed o2 r2 rfl hm a2 b2 (hm.ready c4) c9
  have e0 : r1.length + extra ts1 = r2.length + extra ts2 := by omega
  show wpMix P .any ops _ _ _ row (0 + n) listed a w
  rw [Nat.zero_add, e1]
  refine ⟨fun h => (by have := hm.ready c3; rw [h] at this; cases this), fun j hj => ?_⟩
  rcases hm.only2 c5 j hj with rfl | rfl
  · rw [if_pos c1]; exact w1
  · rw [if_pos c2, e0]; exact w2
theorem wl_fork2j {row : Rw} {m L C n k1 k2 : Nat} {ops : List Oper} (R : Fr → World → Prop) (D A : List Nat) (ord1 ord2 ordR : List Nat) (ts1 ts2 tsR : List (Tag × Nat)) (hD : ops.map (dmask .any) = D) (hA : ancs .any ops [] = A)
    (hc : (Nat.testBit L k1 && (Nat.testBit L k2 && (rdyK D m k1 && (rdyK D m k2 && (Go.Proofs.Ytpjedpmbninfcaa.only2 m k1 k2 D 0 && (Nat.beq n ((inOrder ops ord1).length + extra ts1) && (Nat.beq n ((inOrder ops ord2).length + extra ts2) && (chk ops.toArray ops D A L C ts1 (m ||| 2 ^ k1) && chk ops.toArray ops D A L C ts2 (m ||| 2 ^ k2))))))))) = true)
    (hl1 : (inOrder ops ord1).map some = ops.toArray[k1]? :: opsOf ops.toArray ts1) (hl2 : (inOrder ops ord2).map some = ops.toArray[k2]? :: opsOf ops.toArray ts2)
    (h0 : ∀ fr w, R fr w → WL P fn F N ks ops.toArray (some (row, tsR)) (inOrder ops ordR) fr w)
    (h1 : (∀ fr w, R fr w → WL P fn F N ks ops.toArray (some (row, tsR)) (inOrder ops ordR) fr w) → WL P fn F N ks ops.toArray (some (row, (.g m L C, k1) :: ts1)) (inOrder ops ord1) fr w)
    (h2 : (∀ fr w, R fr w → WL P fn F N ks ops.toArray (some (row, tsR)) (inOrder ops ordR) fr w) → WL P fn F N ks ops.toArray (some (row, (.g m L C, k2) :: ts2)) (inOrder ops ord2) fr w) : WL P fn F N ks ops.toArray (some (row, [(.f m L C, n)])) [] fr w :=
  wl_fork2 D A hD hA hc hl1 hl2 (h1 h0) (h2 h0)
end

end Go.Proofs.Ytpjedpmbninfcaa
