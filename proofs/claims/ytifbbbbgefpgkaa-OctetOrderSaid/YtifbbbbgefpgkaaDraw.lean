/-
  A region that draws its order, walked in the order of its text: operations that hand back the same in every world ('p'), that read ('r'), that change the world ('l'). No function of the program is named here.
-/
import Derived.Test.YtifbbbbgefpgkaaEng
import Derived.Still
namespace Go.Proofs.Ytifbbbbgefpgkaa
open Go.RowKit

inductive Tag where
  | p | r | l
  deriving DecidableEq
def loudAt (ts : List Tag) (j : Nat) : Bool := match ts[j]? with
  | some .l => true
  | _ => false

section
variable {P : Program} {md : Region.Mode} {ops : Array Oper} {Q : Exit → Act → World → Prop} {loud : Nat → Bool}

def wpMix (P : Program) (md : Region.Mode) (ops : Array Oper) (Q : Exit → Act → World → Prop) (loud : Nat → Bool) : Nat → Array Bool → Act → World → Prop
  | 0, listed, a, w => Region.ready md ops listed = [] ∧ Q .normal a w
  | f + 1, listed, a, w => (Region.ready md ops listed = [] → Q .normal a w) ∧
    ∀ i ∈ Region.ready md ops listed, if loud i = true then wpOp P ops Q i (wpMix P md ops Q loud f (listed.setIfInBounds i true)) a w
      else stOp P ops w i (fun a' => wpMix P md ops Q loud f (listed.setIfInBounds i true) a' w) a

theorem wpAny_of_mix : ∀ (f : Nat) (listed : Array Bool) (a : Act) (w : World), wpMix P md ops Q loud f listed a w → wpAny P md ops Q f listed a w
  | 0, _, _, _, h => h
  | f + 1, listed, a, w, h => ⟨h.1, fun i hi => by
      have h2 := h.2 i hi
      split at h2
      · exact wpOp_mono (fun a' w' h' => wpAny_of_mix f _ a' w' h') h2
      · exact wpOp_of_stOp (fun a' h' => wpAny_of_mix f _ a' w h') h2⟩

theorem yields_at {o : Oper} {v : Value} {a : Act} (h : Yields P ops o v a) (w : World) : YieldsAt P ops w o v a := by
  rcases h with ⟨h1, h2⟩ | h
  · exact .inl ⟨h1, .inl (h2 w)⟩
  · exact .inr h

theorem mix_self {i : Nat} {oi : Oper} {v : Value} {f : Nat} {listed : Array Bool} {a : Act} {w : World} (hi : ops[i]? = some oi) (hl : loud i = false) (hy : YieldsAt P ops w oi v a)
    (H : wpMix P md ops Q loud f (listed.setIfInBounds i true) (a.put oi.dst v) w) :
    if loud i = true then wpOp P ops Q i (wpMix P md ops Q loud f (listed.setIfInBounds i true)) a w else stOp P ops w i (fun a' => wpMix P md ops Q loud f (listed.setIfInBounds i true) a' w) a := by
  rw [hl, if_neg (by simp)]
  exact hy.stOp hi (K := fun a' => wpMix P md ops Q loud f (listed.setIfInBounds i true) a' w) H

theorem unlisted_of_ready {i : Nat} {listed : Array Bool} (hi : i ∈ Region.ready md ops listed) : listed.getD i false = false := by
  have h0 := (mem_ready.1 hi).1
  rcases Nat.lt_or_ge i listed.size with h | h
  · simp [h] at h0 ⊢; exact h0
  · simp [Array.getElem?_eq_none h] at h0

/-- A quiet operation j that is ready beside i: it can stand before i. -/
theorem mix_swap {j : Nat} {oi oj : Oper} {v : Value} {a : Act} {w : World} (hoj : ops[j]? = some oj) (hap : oi.apart ops oj = true)
    (hsj : ∀ cs b, oj.op ≠ .select cs b) {K K' : Act → Prop} (h : stOp P ops w j K (a.put oi.dst v)) (hk : ∀ u, K ((a.put oj.dst u).put oi.dst v) → K' (a.put oj.dst u)) : stOp P ops w j K' a := by
  obtain ⟨h1, h2, _⟩ := Oper.apart_spec hap
  obtain ⟨u, hy, hK⟩ := yieldsAt_of_stOp hoj h
  have hy' : YieldsAt P ops w oj u a := hy.of_same (execOp_put oj hsj a oi.dst v h1).symm (wanted_put oj a oi.dst v h1).symm
  refine hy'.stOp hoj (hk u ?_)
  rw [← Act.put_comm a v u h2]
  exact hK

theorem mix_first_p {i : Nat} {oi : Oper} {v : Value} (hi : ops[i]? = some oi) (hl : loud i = false) (hsel : ∀ (j : Nat) (o : Oper) cs b, ops[j]? = some o → o.op ≠ .select cs b)
    (hQ : ∀ c a w, Q (.panic c) (a.put oi.dst v) w → Q (.panic c) a w) :
    ∀ (fuel : Nat) (listed : Array Bool) (a : Act) (w : World),
      (∀ j oj, ops[j]? = some oj → j ≠ i → listed.getD j true = false → (∀ e ∈ oj.after, Region.binds md e = true → e.on ≠ i) → oi.apart ops oj = true) →
      i ∈ Region.ready md ops listed → Yields P ops oi v a →
      wpMix P md ops Q loud fuel (listed.setIfInBounds i true) (a.put oi.dst v) w → wpMix P md ops Q loud (fuel + 1) listed a w := by
  intro fuel
  induction fuel with
  | zero =>
    intro listed a w _ hr hy H
    refine ⟨fun h => (by rw [h] at hr; cases hr), fun j hj => ?_⟩
    by_cases hji : j = i
    · subst hji; exact mix_self hi hl (yields_at hy w) H
    · have := ready_mono hj hji
      rw [H.1] at this
      cases this
  | succ fuel ih =>
    intro listed a w hfree hr hy H
    refine ⟨fun h => (by rw [h] at hr; cases hr), fun j hj => ?_⟩
    by_cases hji : j = i
    · subst hji; exact mix_self hi hl (yields_at hy w) H
    · have h1 := H.2 j (ready_mono hj hji)
      obtain ⟨hjun, oj, hoj, hall⟩ := mem_ready.1 hj
      have hnot : ∀ e ∈ oj.after, Region.binds md e = true → e.on ≠ i := fun e he hb heq => by
        have h2 := hall e he hb
        rw [heq, unlisted_of_ready hr] at h2
        cases h2
      have hap := hfree j oj hoj hji hjun hnot
      obtain ⟨h1a, h2a, h3a⟩ := Oper.apart_spec hap
      have keep : ∀ (a : Act), Yields P ops oi v a → ∀ u, Yields P ops oi v (a.put oj.dst u) := fun a hy u =>
        hy.of_same (execOp_put oi (hsel i oi · · hi) a oj.dst u h3a) (wanted_put oi a oj.dst u h3a)
      have hfree' : ∀ k ok, ops[k]? = some ok → k ≠ i → (listed.setIfInBounds j true).getD k true = false →
          (∀ e ∈ ok.after, Region.binds md e = true → e.on ≠ i) → oi.apart ops ok = true := fun k ok hk hki hun hno => by
        refine hfree k ok hk hki ?_ hno
        by_cases hjk : j = k
        · subst hjk; exact hjun
        · rw [getD_set_ne true hjk] at hun; exact hun
      split at h1
      · rename_i hlj
        rw [if_pos hlj]
        have h2 := wpOp_put hoj hap (fun cs b => hsel i oi cs b hi) (fun cs b => hsel j oj cs b hoj) hQ hy h1
        refine wpOp_mono (fun a' w' h3 => ih (listed.setIfInBounds j true) a' w' hfree' (ready_mono hr (Ne.symm hji)) h3.1 ?_) h2
        rw [Array.setIfInBounds_comm _ _ hji]
        exact h3.2
      · rename_i hlj
        rw [if_neg hlj]
        refine mix_swap hoj hap (fun cs b => hsel j oj cs b hoj) h1 (fun u hK => ih (listed.setIfInBounds j true) _ w hfree' (ready_mono hr (Ne.symm hji)) (keep a hy u) ?_)
        rw [Array.setIfInBounds_comm _ _ hji]
        exact hK

/-! An operation that reads: whatever changes the world waits for it. -/
def Closed (md : Region.Mode) (ops : Array Oper) (listed : Array Bool) : Prop := ∀ j oj, ops[j]? = some oj → listed.getD j false = true → ∀ e ∈ oj.after, Region.binds md e = true → listed.getD e.on false = true
def waits (md : Region.Mode) (ops : Array Oper) (i : Nat) : Nat → Nat → Bool
  | 0, _ => false
  | f + 1, j => match ops[j]? with
    | some oj => oj.after.any fun e => Region.binds md e && (Nat.beq e.on i || waits md ops i f e.on)
    | none => false

theorem Closed.set {listed : Array Bool} {i : Nat} (h : Closed md ops listed) (hi : i ∈ Region.ready md ops listed) : Closed md ops (listed.setIfInBounds i true) := by
  obtain ⟨_, oi, hoi, hall⟩ := mem_ready.1 hi
  intro j oj hj hl e he hb
  by_cases hij : i = j
  · subst hij
    have : oj = oi := Option.some.inj (hj.symm.trans hoi)
    subst this
    exact getD_set_true (hall e he hb)
  · rw [getD_set_ne false hij] at hl
    exact getD_set_true (h j oj hj hl e he hb)

theorem waits_listed {listed : Array Bool} {i : Nat} (h : Closed md ops listed) : ∀ (f j : Nat), waits md ops i f j = true → listed.getD j false = true → listed.getD i false = true
  | 0, _, hw, _ => by cases hw
  | f + 1, j, hw, hl => by
    unfold waits at hw
    split at hw
    · rename_i oj hoj
      obtain ⟨e, he, hb⟩ := Array.any_eq_true'.1 hw
      simp only [Bool.and_eq_true, Bool.or_eq_true] at hb
      have h1 := h j oj hoj hl e he hb.1
      rcases hb.2 with h2 | h2
      · rw [← Nat.eq_of_beq_eq_true h2]; exact h1
      · exact waits_listed h f e.on h2 h1
    · cases hw

theorem waits_ready {listed : Array Bool} {i : Nat} (h : Closed md ops listed) (hun : listed.getD i false = false) {f j : Nat} (hw : waits md ops i f j = true) : j ∉ Region.ready md ops listed := by
  intro hj
  obtain ⟨_, oj, hoj, hall⟩ := mem_ready.1 hj
  cases f with
  | zero => cases hw
  | succ f =>
    unfold waits at hw
    rw [hoj] at hw
    obtain ⟨e, he, hb⟩ := Array.any_eq_true'.1 hw
    simp only [Bool.and_eq_true, Bool.or_eq_true] at hb
    have h1 := hall e he hb.1
    rcases hb.2 with h2 | h2
    · rw [Nat.eq_of_beq_eq_true h2, hun] at h1; cases h1
    · rw [waits_listed h f e.on h2 h1] at hun; cases hun

theorem mix_first_r {i : Nat} {oi : Oper} {v : Value} {w : World} (hi : ops[i]? = some oi) (hl : loud i = false) (hsel : ∀ (j : Nat) (o : Oper) cs b, ops[j]? = some o → o.op ≠ .select cs b)
    {wf : Nat} (hwait : ∀ j, loud j = true → j < ops.size → waits md ops i wf j = true ∨ waits md ops j wf i = true) :
    ∀ (fuel : Nat) (listed : Array Bool) (a : Act), Closed md ops listed →
      (∀ j oj, ops[j]? = some oj → j ≠ i → listed.getD j true = false → (∀ e ∈ oj.after, Region.binds md e = true → e.on ≠ i) → oi.apart ops oj = true) →
      i ∈ Region.ready md ops listed → YieldsAt P ops w oi v a →
      wpMix P md ops Q loud fuel (listed.setIfInBounds i true) (a.put oi.dst v) w → wpMix P md ops Q loud (fuel + 1) listed a w := by
  intro fuel
  induction fuel with
  | zero =>
    intro listed a _ _ hr hy H
    refine ⟨fun h => (by rw [h] at hr; cases hr), fun j hj => ?_⟩
    by_cases hji : j = i
    · subst hji; exact mix_self hi hl hy H
    · have := ready_mono hj hji
      rw [H.1] at this
      cases this
  | succ fuel ih =>
    intro listed a hcl hfree hr hy H
    refine ⟨fun h => (by rw [h] at hr; cases hr), fun j hj => ?_⟩
    by_cases hji : j = i
    · subst hji; exact mix_self hi hl hy H
    · have h1 := H.2 j (ready_mono hj hji)
      obtain ⟨hjun, oj, hoj, hall⟩ := mem_ready.1 hj
      have hnot : ∀ e ∈ oj.after, Region.binds md e = true → e.on ≠ i := fun e he hb heq => by
        have h2 := hall e he hb
        rw [heq, unlisted_of_ready hr] at h2
        cases h2
      have hap := hfree j oj hoj hji hjun hnot
      obtain ⟨h1a, h2a, h3a⟩ := Oper.apart_spec hap
      have keep : ∀ (a : Act), YieldsAt P ops w oi v a → ∀ u, YieldsAt P ops w oi v (a.put oj.dst u) := fun a hy u =>
        hy.of_same (execOp_put oi (hsel i oi · · hi) a oj.dst u h3a) (wanted_put oi a oj.dst u h3a)
      have hfree' : ∀ k ok, ops[k]? = some ok → k ≠ i → (listed.setIfInBounds j true).getD k true = false →
          (∀ e ∈ ok.after, Region.binds md e = true → e.on ≠ i) → oi.apart ops ok = true := fun k ok hk hki hun hno => by
        refine hfree k ok hk hki ?_ hno
        by_cases hjk : j = k
        · subst hjk; exact hjun
        · rw [getD_set_ne true hjk] at hun; exact hun
      split at h1
      · rename_i hlj
        have hjlt : j < ops.size := (Array.getElem?_eq_some_iff.1 hoj).1
        rcases hwait j hlj hjlt with hwt | hwt
        · exact absurd hj (waits_ready hcl (unlisted_of_ready hr) hwt)
        · exact absurd hr (waits_ready hcl (unlisted_of_ready hj) hwt)
      · rename_i hlj
        rw [if_neg hlj]
        refine mix_swap hoj hap (fun cs b => hsel j oj cs b hoj) h1 (fun u hK => ih (listed.setIfInBounds j true) _ (hcl.set hj) hfree' (ready_mono hr (Ne.symm hji)) (keep a hy u) ?_)
        rw [Array.setIfInBounds_comm _ _ hji]
        exact hK

/-- An operation that is the only one that is ready. -/
theorem mix_only {i : Nat} {f : Nat} {listed : Array Bool} {a : Act} {w : World} (hl : loud i = true) (hr : Region.ready md ops listed = [i])
    (h : wpOp P ops Q i (wpMix P md ops Q loud f (listed.setIfInBounds i true)) a w) : wpMix P md ops Q loud (f + 1) listed a w := by
  refine ⟨fun h0 => (by rw [hr] at h0; cases h0), fun j hj => ?_⟩
  rw [hr] at hj
  have hji : j = i := by simpa using hj
  subst hji
  rw [if_pos hl]
  exact h

/-! The check, by computing: all is known of the edges. -/
def chkFrom (md : Region.Mode) (ops : Array Oper) (all : List Tag) : List Tag → Nat → Array Bool → Bool
  | [], _, listed => (Region.ready md ops listed).isEmpty
  | .l :: ts, k, listed => (loudAt all k && decide (Region.ready md ops listed = [k])) && chkFrom md ops all ts (k + 1) (listed.setIfInBounds k true)
  | .p :: ts, k, listed => (!loudAt all k && (Region.ready md ops listed).contains k && Region.free md ops listed k) && chkFrom md ops all ts (k + 1) (listed.setIfInBounds k true)
  | .r :: ts, k, listed => (!loudAt all k && (Region.ready md ops listed).contains k && Region.free md ops listed k &&
      (List.range ops.size).all fun j => !loudAt all j || waits md ops k ops.size j || waits md ops j ops.size k) && chkFrom md ops all ts (k + 1) (listed.setIfInBounds k true)
end

/-! The region's walk. 'tg': nothing where the order is given; else all tags, and those that are left. -/
abbrev Tags := Option (List Tag × List Tag)
def Tags.tail : Tags → Tags
  | some (all, _ :: ts) => some (all, ts)
  | t => t
def Tags.loud : Tags → Bool
  | none => true
  | some (_, .l :: _) => true
  | _ => false
def Tags.reads : Tags → Bool
  | none => true
  | some (_, .l :: _) => true
  | some (_, .r :: _) => true
  | _ => false

def Left (P : Program) (Q : Exit → Act → World → Prop) (ops : Array Oper) : Tags → List Oper → Act → World → Prop
  | none, l, a, w => wpList P ops Q l a w
  | some (all, ts), l, a, w => ∀ k listed, (∀ j, l[j]? = ops[k + j]?) → Region.noSelect ops = true → Closed .any ops listed → ts.length = l.length → chkFrom .any ops all ts k listed = true →
      wpMix P .any ops Q (loudAt all) l.length listed a w

/-- The same inside a region: l is what is left of its operations. -/
def WL (P : Program) (fn : Func) (F : Ending → World → Prop) (N : Nat) (ks : List K) (ops : Array Oper) (tg : Tags) (l : List Oper) (fr : Fr) (w : World) : Prop :=
  ∀ a, Rep N a fr → Left P (kpost P fn F ks) ops tg l a w

section
variable {P : Program} {fn : Func} {F : Ending → World → Prop} {N : Nat} {ks : List K} {ops : Array Oper} {l : List Oper} {fr : Fr} {w : World} {o : Oper} {a : Act} {tg : Tags}

theorem kpost_panic_put {c : List PanicEntry} {x : Option Nat} {v : Value} : ∀ {ks : List K} (a : Act) (w : World), kpost P fn F ks (.panic c) (a.put x v) w → kpost P fn F ks (.panic c) a w
  | [], a, w, h => ⟨by cases x <;> exact h.1, h.2⟩
  | .code _ :: ks, a, w, h => kpost_panic_put (ks := ks) a w h
  | .blk _ :: ks, a, w, h => kpost_panic_put (ks := ks) a w h
  | .inv _ :: ks, a, w, h => kpost_panic_put (ks := ks) a w h

theorem head_of {l : List Oper} {k : Nat} (hl : ∀ j, (o :: l)[j]? = ops[k + j]?) : ops[k]? = some o ∧ ∀ j, l[j]? = ops[k + 1 + j]? :=
  ⟨by simpa using (hl 0).symm, fun j => by have := hl (j + 1); simpa [Nat.add_assoc, Nat.add_comm 1 j] using this⟩

/-- A step that may change the world. -/
theorem left_loud (ht : tg.loud = true) (h : ∀ K : Act → World → Prop, (∀ a' w', Left P (kpost P fn F ks) ops tg.tail l a' w' → K a' w') → if Region.wanted o (yielded ops a.tmps) then o.wp P a w K (kpost P fn F ks) else K (a.put o.dst undef) w) :
    Left P (kpost P fn F ks) ops tg (o :: l) a w := by
  match tg, ht with
  | none, _ =>
    have := h _ (fun _ _ h => h)
    show wpList P ops _ (o :: l) a w
    exact wpList_step fun K hK => by
      have h2 := h K hK
      exact h2
  | some (all, .l :: ts), _ =>
    intro k listed hl hsel hcl hlen hchk
    obtain ⟨h0, h1⟩ := head_of hl
    unfold chkFrom at hchk
    simp only [Bool.and_eq_true, decide_eq_true_eq] at hchk
    obtain ⟨⟨hlk, hr⟩, hrest⟩ := hchk
    have hlen' : ts.length = l.length := by simpa using hlen
    refine mix_only hlk hr ?_
    have hcl' : Closed .any ops (listed.setIfInBounds k true) := hcl.set (by rw [hr]; simp)
    have h2 := h (wpMix P .any ops (kpost P fn F ks) (loudAt all) l.length (listed.setIfInBounds k true)) (fun a' w' h' => h' (k + 1) _ h1 hsel hcl' hlen' hrest)
    unfold wpOp
    rw [h0]
    simp only
    split
    · rename_i hw; rw [if_pos hw] at h2; exact .inl h2
    · rename_i hw; rw [if_neg hw] at h2; exact h2

/-- A step that reads. -/
theorem left_read {v : Value} (ht : tg.reads = true) (hy : YieldsAt P ops w o v a) (h : Left P (kpost P fn F ks) ops tg.tail l (a.put o.dst v) w) : Left P (kpost P fn F ks) ops tg (o :: l) a w := by
  have hstep : ∀ K : Act → World → Prop, K (a.put o.dst v) w → if Region.wanted o (yielded ops a.tmps) then o.wp P a w K (kpost P fn F ks) else K (a.put o.dst undef) w := by
    intro K hK
    rcases hy with ⟨hw, hv | ⟨hv, rfl⟩ | ⟨f, args, hv, hc⟩⟩ | ⟨hw, rfl⟩
    · rw [if_pos hw]; unfold Oper.wp; rw [hv]; exact hK
    · rw [if_pos hw]; unfold Oper.wp; rw [hv]; exact hK
    · rw [if_pos hw]; unfold Oper.wp; rw [hv]
      refine Calls.mono hc ?_
      rintro e w'' ⟨rfl, rfl⟩
      exact hK
    · rw [if_neg (by rw [hw]; simp)]; exact hK
  match tg, ht with
  | none, _ => exact left_loud rfl fun K hK => hstep K (hK _ _ h)
  | some (all, .l :: ts), _ => exact left_loud rfl fun K hK => hstep K (hK _ _ h)
  | some (all, .r :: ts), _ =>
    intro k listed hl hsel hcl hlen hchk
    obtain ⟨h0, h1⟩ := head_of hl
    unfold chkFrom at hchk
    simp only [Bool.and_eq_true, Bool.not_eq_true', List.all_eq_true, List.mem_range, Bool.or_eq_true] at hchk
    obtain ⟨⟨⟨⟨hlk, hr⟩, hf⟩, hwt⟩, hrest⟩ := hchk
    have hlen' : ts.length = l.length := by simpa using hlen
    have hr' : k ∈ Region.ready .any ops listed := by simpa using hr
    refine mix_first_r h0 hlk (Region.noSelect_spec hsel) (wf := ops.size) (fun j hj hlt => ?_) l.length listed a hcl (Region.free_spec h0 hf) hr' hy ?_
    · rcases hwt j hlt with (h2 | h2) | h2
      · rw [hj] at h2; cases h2
      · exact .inl h2
      · exact .inr h2
    · exact h (k + 1) _ h1 hsel (hcl.set hr') hlen' hrest

/-- A step that hands back the same in every world. -/
theorem left_pure {v : Value} (hy : Yields P ops o v a) (h : Left P (kpost P fn F ks) ops tg.tail l (a.put o.dst v) w) : Left P (kpost P fn F ks) ops tg (o :: l) a w := by
  match tg with
  | none => exact left_read rfl (yields_at hy w) h
  | some (all, .l :: ts) => exact left_read rfl (yields_at hy w) h
  | some (all, .r :: ts) => exact left_read rfl (yields_at hy w) h
  | some (all, []) => exact fun k listed hl hsel hcl hlen hchk => by simp at hlen
  | some (all, .p :: ts) =>
    intro k listed hl hsel hcl hlen hchk
    obtain ⟨h0, h1⟩ := head_of hl
    unfold chkFrom at hchk
    simp only [Bool.and_eq_true, Bool.not_eq_true'] at hchk
    obtain ⟨⟨⟨hlk, hr⟩, hf⟩, hrest⟩ := hchk
    have hlen' : ts.length = l.length := by simpa using hlen
    have hr' : k ∈ Region.ready .any ops listed := by simpa using hr
    exact mix_first_p h0 hlk (Region.noSelect_spec hsel) (fun c a w h => kpost_panic_put a w h) l.length listed a w (Region.free_spec h0 hf) hr' hy (h (k + 1) _ h1 hsel (hcl.set hr') hlen' hrest)

theorem rk_region {id : Nat} {l : List Oper} (h : WL P fn F N ks l.toArray none l fr w) : RK P fn F N (.code (.region id l.toArray false) :: ks) fr w := fun a ha => wp_region_lit (h a ha)
theorem rk_draw {id : Nat} {l : List Oper} (ts : List Tag) (hm : P.follows .mixedOrders = true)
    (hc : (Region.noSelect l.toArray && (Nat.beq ts.length l.length && chkFrom .any l.toArray ts ts 0 (Array.replicate l.length false))) = true)
    (h : WL P fn F N ks l.toArray (some (ts, ts)) l fr w.drew) : RK P fn F N (.code (.region id l.toArray true) :: ks) fr w := fun a ha => by
  simp only [Bool.and_eq_true] at hc
  obtain ⟨h1, h2, h3⟩ := hc
  refine wp_region_any hm (wpAny_of_mix (loud := loudAt ts) _ _ _ _ ?_)
  have := h a ha 0 (Array.replicate l.length false) (by simp) h1 (fun j oj hj hl => ?_) (Nat.eq_of_beq_eq_true h2) h3
  · simpa using this
  · exfalso
    rcases Nat.lt_or_ge j l.length with h' | h'
    · simp [h'] at hl
    · simp [h'] at hl
theorem wl_nil (h : RK P fn F N ks fr w) : WL P fn F N ks ops none [] fr w := fun a ha => (wpList_nil (h a ha) : wpList P ops (kpost P fn F ks) [] a w)
theorem wl_nild {all : List Tag} (h : RK P fn F N ks fr w) : WL P fn F N ks ops (some (all, [])) [] fr w := fun a ha _ _ _ _ _ _ hchk => by
  unfold chkFrom at hchk
  exact ⟨by simpa using hchk, h a ha⟩
end

end Go.Proofs.Ytifbbbbgefpgkaa
