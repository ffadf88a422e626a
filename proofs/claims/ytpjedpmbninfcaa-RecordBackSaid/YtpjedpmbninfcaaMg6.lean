/-
  A region that leaves the order of many operations open, each of which adds to the heap and changes nothing that was there: one step for each of them, from what it waits for; then what they all left. No function of the program is named here.
-/
import Derived.Test.YtpjedpmbninfcaaMg5
import Derived.Shelf.Abstract
namespace Go.Proofs.Ytpjedpmbninfcaa
open Go.RowKit
/-- An operation that changes the world, and what is read or reckoned behind it. ds: the slots (the newest first); pre: the places of the items that it waits for; φ: what the slots hold, in which world, and between which blocks what is new lies. -/
structure Item where
  k : Nat
  ps : List (Tag × Nat)
  ds : List Nat
  pre : List Nat
  φ : List Value → World → Nat → Nat → Prop
def Item.idx (it : Item) : List Nat := it.k :: it.ps.map Prod.snd
def bitsOf : List Nat → Nat
  | [] => 0
  | k :: r => Nat.lor (2 ^ k) (bitsOf r)
def Item.mask (it : Item) : Nat := bitsOf it.idx
def nthI : List Item → Nat → Option Item
  | [], _ => none
  | it :: _, 0 => some it
  | _ :: l, k + 1 => nthI l k
theorem nthI_mem : ∀ {l : List Item} {i : Nat} {it : Item}, nthI l i = some it → it ∈ l
  | _ :: _, 0, _, h => by injection h with h; subst h; simp
  | _ :: l, i + 1, _, h => List.mem_cons_of_mem _ (nthI_mem (l := l) (i := i) h)
theorem nthI_of_mem : ∀ {l : List Item} {it : Item}, it ∈ l → ∃ i, i < l.length ∧ nthI l i = some it
  | x :: l, it, h => by
    rcases List.mem_cons.1 h with h | h
    · subst h; exact ⟨0, by simp, rfl⟩
    · obtain ⟨i, h1, h2⟩ := nthI_of_mem h
      exact ⟨i + 1, by simpa using h1, h2⟩
theorem nthI_lt : ∀ {l : List Item} {i : Nat} {it : Item}, nthI l i = some it → i < l.length
  | _ :: _, 0, _, _ => by simp
  | _ :: l, i + 1, _, h => by have := nthI_lt (l := l) (i := i) h; simpa using this
theorem nthI_some : ∀ {l : List Item} {i : Nat}, i < l.length → ∃ it, nthI l i = some it
  | x :: _, 0, _ => ⟨x, rfl⟩
  | _ :: l, i + 1, h => nthI_some (l := l) (i := i) (by simpa using h)
theorem bitsOf_bit {j : Nat} : ∀ {l : List Nat}, (bitsOf l).testBit j = true ↔ j ∈ l
  | [] => by simp [bitsOf]
  | k :: r => by
    show (2 ^ k ||| bitsOf r).testBit j = true ↔ _
    rw [Nat.testBit_or, Bool.or_eq_true, bitsOf_bit (l := r), Nat.testBit_two_pow, List.mem_cons]
    constructor
    · rintro (h | h)
      · exact .inl (of_decide_eq_true h).symm
      · exact .inr h
    · rintro (h | h)
      · exact .inl (by simp [h])
      · exact .inr h
def apartAll : List (Nat × Nat) → Nat → Nat → Prop
  | [], _, _ => True
  | p :: r, lo, hi => (p.2 ≤ lo ∨ hi ≤ p.1) ∧ apartAll r lo hi
/-- What the items at the places ps left. -/
def given (its : List Item) (w : World) (B : Nat) : List Nat → List (Nat × Nat) → Fr → (Fr → Prop) → Prop
  | [], _, fr, K => K fr
  | p :: r, seen, fr, K => match nthI its p with
    | none => False
    | some it => ∀ vs lo hi, it.φ vs w lo hi → B ≤ lo → lo ≤ hi → hi ≤ w.heap.size → apartAll seen lo hi → given its w B r ((lo, hi) :: seen) (it.ds.zip vs ++ fr) K
def stables : List Item → Prop
  | [] => True
  | it :: r => (∀ vs w w' lo hi, it.φ vs w lo hi → Below w.heap.size w w' → it.φ vs w' lo hi) ∧ stables r
theorem stables_spec : ∀ {l : List Item}, stables l → ∀ it ∈ l, ∀ vs w w' lo hi, it.φ vs w lo hi → Below w.heap.size w w' → it.φ vs w' lo hi
  | _ :: _, h, it, hi => by
    rcases List.mem_cons.1 hi with e | e
    · subst e; exact h.1
    · exact stables_spec h.2 it e

/-! What is checked. -/
def meetN (a b : Nat) : Bool := !Nat.beq (Nat.land a b) 0
theorem meetN_spec {a b : Nat} (h : meetN a b = true) : ∃ i, a.testBit i = true ∧ b.testBit i = true := by
  unfold meetN at h
  refine Classical.byContradiction fun hn => ?_
  have e : Nat.land a b = 0 := Nat.eq_of_testBit_eq fun i => by
    show (a &&& b).testBit i = _
    rw [Nat.testBit_and, Nat.zero_testBit]
    cases h1 : a.testBit i with
    | false => rfl
    | true => cases h2 : b.testBit i with
      | false => rfl
      | true => exact absurd ⟨i, h1, h2⟩ hn
  rw [e] at h
  simp at h
def subN (a b : Nat) : Bool := Nat.beq (Nat.land a b) a
def preMask (its : List Item) : List Nat → Nat
  | [] => 0
  | p :: r => Nat.lor (match nthI its p with | some it => it.mask | none => 0) (preMask its r)
theorem preMask_bit {its : List Item} {i : Nat} : ∀ {ps : List Nat}, (preMask its ps).testBit i = true → ∃ p ∈ ps, ∃ it, nthI its p = some it ∧ i ∈ it.idx
  | p :: r, h => by
    have h' : ((match nthI its p with | some it => it.mask | none => 0) ||| preMask its r).testBit i = true := h
    rw [Nat.testBit_or, Bool.or_eq_true] at h'
    rcases h' with h' | h'
    · cases hp : nthI its p with
      | none => rw [hp] at h'; simp at h'
      | some it =>
        rw [hp] at h'
        exact ⟨p, by simp, it, hp, bitsOf_bit.1 h'⟩
    · obtain ⟨q, h1, it, h2, h3⟩ := preMask_bit h'
      exact ⟨q, by simp [h1], it, h2, h3⟩
  | [], h => by simp [preMask] at h
/-- The operations behind an item's first one. -/
def chkP (ops : Array Oper) (l : List Oper) (D A : List Nat) (L C : Nat) : List (Tag × Nat) → Nat → Bool
  | [], _ => true
  | (.p, k) :: ts, m => (!Nat.testBit L k && (rdyK D m k && freeAt ops l D m k)) && chkP ops l D A L C ts (m ||| 2 ^ k)
  | (.r, k) :: ts, m => (!Nat.testBit L k && (rdyK D m k && (freeAt ops l D m k && crossK L k (A.getD k 0) A 0))) && chkP ops l D A L C ts (m ||| 2 ^ k)
  | (.s, k) :: ts, m => (!Nat.testBit L k && (rdyK D m k && (freeAt ops l D m k && crossK (L ^^^ (L &&& C)) k (A.getD k 0) A 0))) && chkP ops l D A L C ts (m ||| 2 ^ k)
  | _ :: _, _ => false
theorem freeK_mono {ops : Array Oper} {oi : Oper} {m m' k : Nat} (hm : ∀ i, m.testBit i = true → m'.testBit i = true) : ∀ (l : List Oper) (D : List Nat) (j : Nat), freeK ops oi m k l D j = true → freeK ops oi m' k l D j = true
  | [], _, _, _ => by simp [freeK]
  | _ :: _, [], _, _ => by simp [freeK]
  | o :: l, d :: D, j, h => by
    simp only [freeK, Bool.and_eq_true, Bool.or_eq_true] at h ⊢
    refine ⟨?_, freeK_mono hm l D (j + 1) h.2⟩
    rcases h.1 with h | h | h
    · exact .inl h
    · exact .inr (.inl (hm _ h))
    · exact .inr (.inr h)
theorem freeAt_mono {ops : Array Oper} {l : List Oper} {D : List Nat} {m m' k : Nat} (hm : ∀ i, m.testBit i = true → m'.testBit i = true) (h : freeAt ops l D m k = true) : freeAt ops l D m' k = true := by
  unfold freeAt at h ⊢
  split at h
  · exact freeK_mono hm _ _ _ h
  · cases h
theorem rdyK_mono {D : List Nat} {m m' k : Nat} (hm : ∀ i, m.testBit i = true → m'.testBit i = true) (hk : m'.testBit k = false) (h : rdyK D m k = true) : rdyK D m' k = true := by
  unfold rdyK at h ⊢
  split at h
  · simp only [Bool.and_eq_true, Bool.not_eq_true'] at h ⊢
    exact ⟨hk, land_eq.2 fun i hi => hm i (land_eq.1 h.2 i hi)⟩
  · cases h
theorem bit_lor {m k j : Nat} : (m ||| 2 ^ k).testBit j = true ↔ m.testBit j = true ∨ k = j := by
  rw [Nat.testBit_or, Bool.or_eq_true, Nat.testBit_two_pow]; simp
def maskAfter : List (Tag × Nat) → Nat → Nat
  | [], m => m
  | p :: ts, m => maskAfter ts (m ||| 2 ^ p.2)
theorem maskAfter_bit {j : Nat} : ∀ {ts : List (Tag × Nat)} {m : Nat}, (maskAfter ts m).testBit j = true ↔ m.testBit j = true ∨ j ∈ ts.map Prod.snd
  | [], m => by simp [maskAfter]
  | p :: ts, m => by
    rw [maskAfter, maskAfter_bit (ts := ts), bit_lor, List.map_cons, List.mem_cons]
    constructor
    · rintro ((h | h) | h)
      · exact .inl h
      · exact .inr (.inl h.symm)
      · exact .inr (.inr h)
    · rintro (h | h | h)
      · exact .inl (.inl h)
      · exact .inl (.inr h.symm)
      · exact .inr h
theorem chk_of_chkP {ops : Array Oper} {l : List Oper} {D A : List Nat} {L C n T : Nat} : ∀ (ts : List (Tag × Nat)) (m m' : Nat), chkP ops l D A L C ts m = true → (∀ i, m.testBit i = true → m'.testBit i = true) → (∀ i, m'.testBit i = true → T.testBit i = true ∨ m.testBit i = true) → (∀ p ∈ ts, T.testBit p.2 = false) →
    chk ops l D A L C (ts ++ [(.f (maskAfter ts m') L C, n)]) m' = true
  | [], m, m', _, _, _, _ => by simp [chk, maskAfter]
  | (t, k) :: ts, m, m', h, hm, hm2, hT => by
    have hk0 : rdyK D m k = true → m'.testBit k = false := fun hr => by
      have h0 : m.testBit k = false := by
        unfold rdyK at hr
        split at hr
        · simp only [Bool.and_eq_true, Bool.not_eq_true'] at hr; exact hr.1
        · cases hr
      cases hb : m'.testBit k with
      | false => rfl
      | true =>
        rcases hm2 k hb with h1 | h1
        · rw [hT (t, k) (by simp)] at h1; cases h1
        · rw [h0] at h1; cases h1
    have rest : chkP ops l D A L C ts (m ||| 2 ^ k) = true → chk ops l D A L C (ts ++ [(.f (maskAfter ts (m' ||| 2 ^ k)) L C, n)]) (m' ||| 2 ^ k) = true := fun h2 =>
      chk_of_chkP ts _ _ h2 (fun i hi => by rw [bit_lor] at hi ⊢; exact hi.imp (hm i) id) (fun i hi => by
        rw [bit_lor] at hi ⊢
        rcases hi with hi | hi
        · rcases hm2 i hi with h1 | h1
          · exact .inl h1
          · exact .inr (.inl h1)
        · exact .inr (.inr hi)) (fun p hp => hT p (by simp [hp]))
    cases t with
    | p =>
      simp only [chkP, Bool.and_eq_true] at h
      obtain ⟨⟨h1, h2, h3⟩, h4⟩ := h
      simp only [List.cons_append, chk, maskAfter, Bool.and_eq_true]
      exact ⟨⟨h1, rdyK_mono hm (hk0 h2) h2, freeAt_mono hm h3⟩, rest h4⟩
    | r =>
      simp only [chkP, Bool.and_eq_true] at h
      obtain ⟨⟨h1, h2, h3, h5⟩, h4⟩ := h
      simp only [List.cons_append, chk, maskAfter, Bool.and_eq_true]
      exact ⟨⟨h1, rdyK_mono hm (hk0 h2) h2, freeAt_mono hm h3, h5⟩, rest h4⟩
    | s =>
      simp only [chkP, Bool.and_eq_true] at h
      obtain ⟨⟨h1, h2, h3, h5⟩, h4⟩ := h
      simp only [List.cons_append, chk, maskAfter, Bool.and_eq_true]
      exact ⟨⟨h1, rdyK_mono hm (hk0 h2) h2, freeAt_mono hm h3, h5⟩, rest h4⟩
    | l => simp [chkP] at h
    | c => simp [chkP] at h
    | f => simp [chkP] at h
    | g => simp [chkP] at h
theorem opsOf_ps {ops : Array Oper} {l : List Oper} {D A : List Nat} {L C n T : Nat} : ∀ (ts : List (Tag × Nat)) (m : Nat), chkP ops l D A L C ts m = true → opsOf ops (ts ++ [(.f T L C, n)]) = ts.map (fun p => ops[p.2]?) ∧ extra (ts ++ [(.f T L C, n)]) = n
  | [], _, _ => ⟨rfl, rfl⟩
  | (t, k) :: ts, m, h => by
    have ih := fun m h => opsOf_ps (ops := ops) (l := l) (D := D) (A := A) (L := L) (C := C) (n := n) (T := T) ts m h
    cases t with
    | p => simp only [chkP, Bool.and_eq_true] at h; have := ih _ h.2; exact ⟨by simp [opsOf, this.1], by simp [extra, this.2]⟩
    | r => simp only [chkP, Bool.and_eq_true] at h; have := ih _ h.2; exact ⟨by simp [opsOf, this.1], by simp [extra, this.2]⟩
    | s => simp only [chkP, Bool.and_eq_true] at h; have := ih _ h.2; exact ⟨by simp [opsOf, this.1], by simp [extra, this.2]⟩
    | l => simp [chkP] at h
    | c => simp [chkP] at h
    | f => simp [chkP] at h
    | g => simp [chkP] at h
def incrN : List Nat → Bool
  | [] => true
  | a :: r => r.all (fun b => Nat.blt a b) && incrN r
theorem incrN_spec : ∀ {l : List Nat}, incrN l = true → l.Pairwise (· < ·)
  | [], _ => .nil
  | a :: r, h => by
    simp only [incrN, Bool.and_eq_true, List.all_eq_true] at h
    exact List.pairwise_cons.2 ⟨fun b hb => by have := h.1 b hb; simpa using this, incrN_spec h.2⟩
def chkI (ops : Array Oper) (l : List Oper) (its : List Item) (D A : List Nat) (L C m : Nat) : List Item → Nat → Bool
  | [], _ => true
  | it :: r, i => (Nat.testBit L it.k && (it.pre.all (fun p => Nat.blt p i && meetN (A.getD it.k 0) (preMask its [p])) && (incrN it.pre && (rdyK D (m ||| preMask its it.pre) it.k && (it.idx.all (fun j => Nat.blt j l.length) && chkP ops l D A L C it.ps (m ||| preMask its it.pre ||| 2 ^ it.k)))))) && chkI ops l its D A L C m r (i + 1)
def disjN : List Item → Nat → Bool
  | [], _ => true
  | it :: r, m => !meetN it.mask m && disjN r (Nat.lor m it.mask)
def disjD : List Item → List Nat → Bool
  | [], _ => true
  | it :: r, ds => it.ds.all (fun d => !inN d ds) && disjD r (it.ds ++ ds)
def chkJ (its : List Item) (D A : List Nat) (m : Nat) : List Nat → Nat → Bool
  | [], _ => true
  | d :: r, j => (Nat.testBit m j || (its.any (fun it => Nat.beq it.k j || (inN j (it.ps.map Prod.snd) && meetN d it.mask)) || its.all (fun it => meetN (A.getD j 0) it.mask && !Nat.testBit it.mask j))) && chkJ its D A m r (j + 1)
def fuelOf (T : Nat) : List Item → Nat
  | [] => 0
  | it :: r => (bif Nat.testBit T it.k then 0 else 1 + it.ps.length) + fuelOf T r
def allMask (m : Nat) : List Item → Nat
  | [] => m
  | it :: r => allMask (Nat.lor m it.mask) r
def chkC (ops : List Oper) (its : List Item) (all : List Nat) (D A : List Nat) (L C m n : Nat) (fr : Fr) (ordR : List Nat) (tsR : List (Tag × Nat)) : Bool :=
  chkI ops.toArray ops its D A L C m its 0 && (disjN its m && (disjD its (fr.map Prod.fst) && (chkJ its D A m D 0 && (incrN all && (all.all (fun p => Nat.blt p its.length) &&
    (Nat.beq n (((inOrder ops ordR).length + extra tsR) + fuelOf m its) && chk ops.toArray ops D A L C tsR (allMask m its)))))))

/-! Frames. -/
theorem Rep.append {N : Nat} {a : Act} {f1 f2 : Fr} (h1 : Rep N a f1) (h2 : Rep N a f2) : Rep N a (f1 ++ f2) := ⟨h1.size, h1.defers, fun t v h => by
  rw [Fr.get_append] at h
  cases hc : f1.get t with
  | some u => rw [hc] at h; exact h1.get t v (hc.trans h)
  | none => rw [hc] at h; exact h2.get t v h⟩
/-- All slots as they are. -/
theorem dump_ex {N : Nat} {a : Act} {fr : Fr} (h : Rep N a fr) : ∃ fo : Fr, Rep N a fo ∧ ∀ t v, a.tmps[t]? = some v → fo.get t = some v := by
  have key : ∀ (k : Nat), ∃ fo : Fr, (∀ t v, fo.get t = some v → a.tmps[t]? = some v) ∧ ∀ t v, t < k → a.tmps[t]? = some v → fo.get t = some v := by
    intro k
    induction k with
    | zero => exact ⟨[], (fun t v h => by cases h), fun t v h => absurd h (Nat.not_lt_zero _)⟩
    | succ k ih =>
      obtain ⟨fo, h1, h2⟩ := ih
      cases hk : a.tmps[k]? with
      | none =>
        refine ⟨fo, h1, fun t v ht hv => ?_⟩
        rcases Nat.lt_or_ge t k with h | h
        · exact h2 t v h hv
        · obtain rfl : t = k := by omega
          rw [hk] at hv; cases hv
      | some u =>
        refine ⟨(k, u) :: fo, fun t v hv => ?_, fun t v ht hv => ?_⟩
        · rw [Fr.get_cons] at hv
          by_cases e : k = t
          · subst e; rw [if_pos rfl] at hv; rw [hk]; exact hv
          · rw [if_neg e] at hv; exact h1 t v hv
        · rw [Fr.get_cons]
          by_cases e : k = t
          · subst e; rw [if_pos rfl, ← hk]; exact hv
          · rw [if_neg e]; exact h2 t v (by omega) hv
  obtain ⟨fo, h1, h2⟩ := key a.tmps.size
  exact ⟨fo, ⟨h.size, h.defers, h1⟩, fun t v hv => h2 t v (Array.getElem?_eq_some_iff.1 hv).1 hv⟩
theorem zip_get {t : Nat} {v : Value} : ∀ {ds : List Nat} {vs : List Value}, Fr.get (ds.zip vs) t = some v → t ∈ ds
  | [], _, h => by simp [Fr.get] at h
  | _ :: _, [], h => by simp [Fr.get] at h
  | d :: ds, u :: vs, h => by
    rw [List.zip_cons_cons, Fr.get_cons] at h
    by_cases e : d = t
    · subst e; simp
    · rw [if_neg e] at h; exact List.mem_cons_of_mem _ (zip_get h)
section
variable {its : List Item} {w : World} {B N : Nat} {a : Act} {lo hi : Nat → Nat} {vv : Nat → List Value}
theorem apartAll_of {l h : Nat} : ∀ {seen : List (Nat × Nat)}, (∀ q ∈ seen, q.2 ≤ l ∨ h ≤ q.1) → apartAll seen l h
  | [], _ => trivial
  | q :: r, hq => ⟨hq q (by simp), apartAll_of (fun q' h' => hq q' (by simp [h']))⟩
theorem given_elim : ∀ (ps : List Nat) (seen : List (Nat × Nat)) (fr : Fr) (K : Fr → Prop), Rep N a fr →
    (∀ p ∈ ps, ∃ it, nthI its p = some it ∧ Rep N a (it.ds.zip (vv p)) ∧ it.φ (vv p) w (lo p) (hi p) ∧ B ≤ lo p ∧ lo p ≤ hi p ∧ hi p ≤ w.heap.size) →
    ps.Pairwise (fun p q => hi p ≤ lo q ∨ hi q ≤ lo p) → (∀ q ∈ seen, ∀ p ∈ ps, q.2 ≤ lo p ∨ hi p ≤ q.1) → given its w B ps seen fr K → ∃ fr', Rep N a fr' ∧ (∀ t, fr'.get t = none → fr.get t = none) ∧ K fr'
  | [], _, fr, K, hr, _, _, _, h => ⟨fr, hr, fun _ h => h, h⟩
  | p :: r, seen, fr, K, hr, hp, hpw, hs, h => by
    obtain ⟨it, h1, h2, h3, h4, h5, h6⟩ := hp p (by simp)
    simp only [given, h1] at h
    have h7 := h (vv p) (lo p) (hi p) h3 h4 h5 h6 (apartAll_of (fun q hq => hs q hq p (by simp)))
    obtain ⟨hpw1, hpw2⟩ := List.pairwise_cons.1 hpw
    obtain ⟨fr', k1, k2, k3⟩ := given_elim r ((lo p, hi p) :: seen) _ K (h2.append hr) (fun q hq => hp q (by simp [hq])) hpw2 (fun q hq p' hp' => by
      rcases List.mem_cons.1 hq with e | e
      · subst e; exact hpw1 p' hp'
      · exact hs q e p' (by simp [hp'])) h7
    refine ⟨fr', k1, fun t ht => ?_, k3⟩
    have := k2 t ht
    rw [Fr.get_append] at this
    cases hc : Fr.get (it.ds.zip (vv p)) t with
    | some u => rw [hc] at this; cases this
    | none => rw [hc] at this; exact this
end
theorem allMask_bit {j : Nat} : ∀ {its : List Item} {m : Nat}, (allMask m its).testBit j = true ↔ m.testBit j = true ∨ ∃ it ∈ its, j ∈ it.idx
  | [], m => by simp [allMask]
  | it :: r, m => by
    rw [allMask, allMask_bit (its := r), show (Nat.lor m it.mask).testBit j = (m.testBit j || it.mask.testBit j) from Nat.testBit_or .., Bool.or_eq_true, show it.mask.testBit j = true ↔ j ∈ it.idx from bitsOf_bit]
    constructor
    · rintro ((h | h) | ⟨x, h1, h2⟩)
      · exact .inl h
      · exact .inr ⟨it, by simp, h⟩
      · exact .inr ⟨x, by simp [h1], h2⟩
    · rintro (h | ⟨x, h1, h2⟩)
      · exact .inl (.inl h)
      · rcases List.mem_cons.1 h1 with e | e
        · subst e; exact .inl (.inr h2)
        · exact .inr ⟨x, e, h2⟩
theorem disjN_spec : ∀ {its : List Item} {m : Nat}, disjN its m = true → (∀ it ∈ its, ∀ j ∈ it.idx, m.testBit j = false) ∧ ∀ i i' it it', nthI its i = some it → nthI its i' = some it' → i ≠ i' → ∀ j ∈ it.idx, j ∉ it'.idx
  | [], m, _ => ⟨fun _ h => absurd h (by simp), fun i _ _ _ h => by cases i <;> cases h⟩
  | x :: r, m, h => by
    simp only [disjN, Bool.and_eq_true, Bool.not_eq_true'] at h
    obtain ⟨h1, h2⟩ := h
    obtain ⟨k1, k2⟩ := disjN_spec h2
    have kx : ∀ j ∈ x.idx, m.testBit j = false := fun j hj => by
      cases hb : m.testBit j with
      | false => rfl
      | true =>
        have : meetN x.mask m = true := by
          unfold meetN
          simp only [Bool.not_eq_true']
          cases hz : Nat.beq (Nat.land x.mask m) 0 with
          | false => rfl
          | true =>
            have e := Nat.eq_of_beq_eq_true hz
            have : (x.mask &&& m).testBit j = true := by rw [Nat.testBit_and, hb, show x.mask.testBit j = true from bitsOf_bit.2 hj]; rfl
            rw [show x.mask &&& m = 0 from e] at this
            simp at this
        rw [h1] at this; cases this
    have kr : ∀ it ∈ r, ∀ j ∈ it.idx, m.testBit j = false ∧ j ∉ x.idx := fun it hit j hj => by
      have := k1 it hit j hj
      rw [show (Nat.lor m x.mask).testBit j = (m.testBit j || x.mask.testBit j) from Nat.testBit_or .., Bool.or_eq_false_iff] at this
      refine ⟨this.1, fun hx => ?_⟩
      have h3 : x.mask.testBit j = true := bitsOf_bit.2 hx
      rw [this.2] at h3; cases h3
    refine ⟨fun it hit j hj => ?_, fun i i' it it' hi hi' hne j hj hj' => ?_⟩
    · rcases List.mem_cons.1 hit with e | e
      · subst e; exact kx j hj
      · exact (kr it e j hj).1
    · cases i with
      | zero =>
        injection hi with hi; subst hi
        cases i' with
        | zero => exact hne rfl
        | succ i' => exact (kr it' (nthI_mem (l := r) (i := i') hi') j hj').2 hj
      | succ i =>
        cases i' with
        | zero => injection hi' with hi'; subst hi'; exact (kr it (nthI_mem (l := r) (i := i) hi) j hj).2 hj'
        | succ i' => exact k2 i i' it it' hi hi' (by omega) j hj hj'
theorem inN_iff {t : Nat} : ∀ {l : List Nat}, inN t l = true ↔ t ∈ l
  | [] => by simp [inN]
  | a :: l => by
    rw [List.mem_cons, ← inN_iff (l := l), inN]
    cases hb : Nat.beq a t with
    | true => simp [(Nat.eq_of_beq_eq_true hb).symm]
    | false => simp [show t ≠ a from fun e => by subst e; simp at hb]
theorem disjD_spec : ∀ {its : List Item} {ds : List Nat}, disjD its ds = true → (∀ it ∈ its, ∀ d ∈ it.ds, d ∉ ds) ∧ ∀ i i' it it', nthI its i = some it → nthI its i' = some it' → i ≠ i' → ∀ d ∈ it.ds, d ∉ it'.ds
  | [], _, _ => ⟨fun _ h => absurd h (by simp), fun i _ _ _ h => by cases i <;> cases h⟩
  | x :: r, ds, h => by
    simp only [disjD, Bool.and_eq_true, List.all_eq_true, Bool.not_eq_true'] at h
    obtain ⟨h1, h2⟩ := h
    obtain ⟨k1, k2⟩ := disjD_spec h2
    have kx : ∀ d ∈ x.ds, d ∉ ds := fun d hd hm => by have := h1 d hd; rw [inN_iff.2 hm] at this; cases this
    have kr : ∀ it ∈ r, ∀ d ∈ it.ds, d ∉ x.ds ∧ d ∉ ds := fun it hit d hd => by
      have := k1 it hit d hd
      rw [List.mem_append, not_or] at this
      exact this
    refine ⟨fun it hit d hd => ?_, fun i i' it it' hi hi' hne d hd hd' => ?_⟩
    · rcases List.mem_cons.1 hit with e | e
      · subst e; exact kx d hd
      · exact (kr it e d hd).2
    · cases i with
      | zero =>
        injection hi with hi; subst hi
        cases i' with
        | zero => exact hne rfl
        | succ i' => exact (kr it' (nthI_mem (l := r) (i := i') hi') d hd').1 hd
      | succ i =>
        cases i' with
        | zero => injection hi' with hi'; subst hi'; exact (kr it (nthI_mem (l := r) (i := i) hi) d hd).1 hd'
        | succ i' => exact k2 i i' it it' hi hi' (by omega) d hd hd'
theorem nthOp_eq : ∀ (l : List Oper) (k : Nat), nthOp l k = l[k]?
  | [], _ => rfl
  | _ :: _, 0 => rfl
  | _ :: l, k + 1 => by rw [nthOp, nthOp_eq l k]; simp
theorem inOrder_map {ops : List Oper} : ∀ {ks : List Nat}, (∀ j ∈ ks, j < ops.length) → (inOrder ops ks).map some = ks.map (fun k => ops.toArray[k]?)
  | [], _ => rfl
  | k :: ks, h => by
    have hk : k < ops.length := h k (by simp)
    rw [inOrder, nthOp_eq, List.getElem?_eq_getElem hk]
    simp only [List.map_cons]
    rw [inOrder_map (fun j hj => h j (by simp [hj]))]
    simp [hk]
theorem fuel_step {T T2 : Nat} : ∀ {its : List Item} {i : Nat} {it : Item}, nthI its i = some it → T.testBit it.k = false → T2.testBit it.k = true → (∀ i' it', nthI its i' = some it' → i' ≠ i → T2.testBit it'.k = T.testBit it'.k) → fuelOf T its = fuelOf T2 its + (1 + it.ps.length)
  | x :: r, 0, it, h, h1, h2, h3 => by
    injection h with h; subst h
    have hr : ∀ (r : List Item), (∀ y ∈ r, T2.testBit y.k = T.testBit y.k) → fuelOf T r = fuelOf T2 r := fun r hy => by
      induction r with
      | nil => rfl
      | cons y r ih => rw [fuelOf, fuelOf, hy y (by simp), ih (fun z hz => hy z (by simp [hz]))]
    rw [fuelOf, fuelOf, h1, h2, hr r (fun y hy => by obtain ⟨j, _, hj⟩ := nthI_of_mem hy; exact h3 (j + 1) y hj (by omega))]
    simp only [cond_true, cond_false]; omega
  | x :: r, i + 1, it, h, h1, h2, h3 => by
    have := fuel_step (its := r) (i := i) h h1 h2 (fun i' it' hi' hne => h3 (i' + 1) it' hi' (by omega))
    rw [fuelOf, fuelOf, this, h3 0 x rfl (by omega)]; omega
theorem fuel_zero {T : Nat} : ∀ {its : List Item}, (∀ it ∈ its, T.testBit it.k = true) → fuelOf T its = 0
  | [], _ => rfl
  | x :: r, h => by rw [fuelOf, h x (by simp), fuel_zero (fun y hy => h y (by simp [hy]))]; rfl
theorem fuel_same {T T2 : Nat} : ∀ {its : List Item}, (∀ it ∈ its, T2.testBit it.k = T.testBit it.k) → fuelOf T2 its = fuelOf T its
  | [], _ => rfl
  | x :: r, h => by rw [fuelOf, fuelOf, h x (by simp), fuel_same (fun y hy => h y (by simp [hy]))]

theorem chkI_spec {ops : Array Oper} {l : List Oper} {its : List Item} {D A : List Nat} {L C m : Nat} : ∀ {r : List Item} {i0 : Nat}, chkI ops l its D A L C m r i0 = true → ∀ i it, nthI r i = some it →
    L.testBit it.k = true ∧ (∀ p ∈ it.pre, p < i0 + i ∧ ∃ j, (A.getD it.k 0).testBit j = true ∧ ∃ x, nthI its p = some x ∧ j ∈ x.idx) ∧ it.pre.Pairwise (· < ·) ∧ rdyK D (m ||| preMask its it.pre) it.k = true ∧ (∀ j ∈ it.idx, j < l.length) ∧ chkP ops l D A L C it.ps (m ||| preMask its it.pre ||| 2 ^ it.k) = true
  | x :: r, i0, h, i, it, hi => by
    simp only [chkI, Bool.and_eq_true, List.all_eq_true] at h
    obtain ⟨⟨h1, h2, h3, h4, h5, h6⟩, h7⟩ := h
    cases i with
    | zero =>
      injection hi with hi; subst hi
      refine ⟨h1, fun p hp => ?_, incrN_spec h3, h4, fun j hj => by have := h5 j hj; simpa using this, h6⟩
      obtain ⟨h8, h9⟩ := h2 p hp
      obtain ⟨j, k1, k2⟩ := meetN_spec h9
      obtain ⟨q, hq, y, hy, hj⟩ := preMask_bit k2
      rw [List.mem_singleton] at hq; subst hq
      exact ⟨by simpa using h8, j, k1, y, hy, hj⟩
    | succ i =>
      have := chkI_spec h7 i it hi
      refine ⟨this.1, fun p hp => ?_, this.2.2⟩
      obtain ⟨k1, k2⟩ := this.2.1 p hp
      exact ⟨by omega, k2⟩
theorem chkJ_spec {its : List Item} {D A : List Nat} {m : Nat} : ∀ {r : List Nat} {j0 : Nat}, chkJ its D A m r j0 = true → ∀ j d, r[j]? = some d →
    m.testBit (j0 + j) = true ∨ (∃ it ∈ its, it.k = j0 + j ∨ (j0 + j ∈ it.ps.map Prod.snd ∧ ∃ b, d.testBit b = true ∧ b ∈ it.idx)) ∨ ∀ it ∈ its, (∃ b, (A.getD (j0 + j) 0).testBit b = true ∧ b ∈ it.idx) ∧ j0 + j ∉ it.idx
  | [], _, _, j, d, hd => by simp at hd
  | d0 :: r, j0, h, j, d, hd => by
    simp only [chkJ, Bool.and_eq_true, Bool.or_eq_true, List.any_eq_true, List.all_eq_true] at h
    cases j with
    | zero =>
      simp only [List.getElem?_cons_zero, Option.some.injEq] at hd
      subst hd
      rw [Nat.add_zero]
      rcases h.1 with h1 | ⟨it, h1, h2⟩ | h1
      · exact .inl h1
      · refine .inr (.inl ⟨it, h1, ?_⟩)
        rcases h2 with h2 | ⟨h2, h3⟩
        · exact .inl (Nat.eq_of_beq_eq_true h2)
        · obtain ⟨b, k1, k2⟩ := meetN_spec h3
          exact .inr ⟨inN_iff.1 h2, b, k1, bitsOf_bit.1 k2⟩
      · refine .inr (.inr fun it hit => ?_)
        have h2 := h1 it hit
        simp only [Bool.and_eq_true, Bool.not_eq_true'] at h2
        obtain ⟨b, k1, k2⟩ := meetN_spec h2.1
        refine ⟨⟨b, k1, bitsOf_bit.1 k2⟩, fun hm => ?_⟩
        rw [show it.mask.testBit j0 = true from bitsOf_bit.2 hm] at h2
        cases h2.2
    | succ j =>
      have := chkJ_spec h.2 j d (by simpa using hd)
      rw [show j0 + (j + 1) = j0 + 1 + j by omega]
      exact this
/-- Where the operations at its have come to (those whose bits are in T). -/
structure ConcSt (its : List Item) (N : Nat) (fr : Fr) (w0 : World) (m T : Nat) (a : Act) (w : World) (lo hi : Nat → Nat) (vv : Nat → List Value) : Prop where
  rep : Rep N a fr
  bel : Below w0.heap.size w0 w
  low : ∀ j, m.testBit j = true → T.testBit j = true
  up : ∀ j, T.testBit j = true → m.testBit j = true ∨ ∃ it ∈ its, j ∈ it.idx
  whole : ∀ it ∈ its, ∀ j ∈ it.idx, T.testBit j = T.testBit it.k
  f : ∀ i it, nthI its i = some it → T.testBit it.k = true → Rep N a (it.ds.zip (vv i)) ∧ it.φ (vv i) w (lo i) (hi i) ∧ w0.heap.size ≤ lo i ∧ lo i ≤ hi i ∧ hi i ≤ w.heap.size
  ap : ∀ i j it it', nthI its i = some it → nthI its j = some it' → T.testBit it.k = true → T.testBit it'.k = true → i ≠ j → hi i ≤ lo j ∨ hi j ≤ lo i
section
variable {P : Program} {fn : Func} {F : Ending → World → Prop} {N : Nat} {ks : List K} {ops : List Oper} {fr : Fr} {w : World} {row : Rw} {L C : Nat}
/-- The step of an item: what it waits for is there; others may have come in between. -/
def stepOf (P : Program) (fn : Func) (F : Ending → World → Prop) (N : Nat) (ks : List K) (ops : List Oper) (fr : Fr) (w : World) (row : Rw) (L C : Nat) (its : List Item) (it : Item) : Prop :=
  ∀ (w' : World), Below w.heap.size w w' → ∀ (fo : Fr) (T T2 n2 : Nat), given its w' w.heap.size it.pre [] (fr ++ fo) fun fr' =>
    (∀ (vs : List Value) (w'' : World), it.φ vs w'' w'.heap.size w''.heap.size → Below w'.heap.size w' w'' → WL P fn F N ks ops.toArray (some (row, [(.f T2 L C, n2)])) [] (it.ds.zip vs ++ fr') w'') →
    WL P fn F N ks ops.toArray (some (row, (.g T L C, it.k) :: (it.ps ++ [(.f T2 L C, n2)]))) (inOrder ops it.idx) fr' w'
def stepsOf (P : Program) (fn : Func) (F : Ending → World → Prop) (N : Nat) (ks : List K) (ops : List Oper) (fr : Fr) (w : World) (row : Rw) (L C : Nat) (its : List Item) : List Item → Prop
  | [] => True
  | it :: r => stepOf P fn F N ks ops fr w row L C its it ∧ stepsOf P fn F N ks ops fr w row L C its r
theorem stepsOf_spec {its : List Item} : ∀ {r : List Item}, stepsOf P fn F N ks ops fr w row L C its r → ∀ it ∈ r, stepOf P fn F N ks ops fr w row L C its it
  | _ :: _, h, it, hi => by
    rcases List.mem_cons.1 hi with e | e
    · subst e; exact h.1
    · exact stepsOf_spec h.2 it e
theorem wl_conc {m n : Nat} (its : List Item) (all D A ordR : List Nat) (tsR : List (Tag × Nat)) (hD : ops.map (dmask .any) = D) (hA : ancs .any ops [] = A) (hc : chkC ops its all D A L C m n fr ordR tsR = true)
    (hlR : (inOrder ops ordR).map some = opsOf ops.toArray tsR) (hst : stables its) (hstep : stepsOf P fn F N ks ops fr w row L C its its)
    (hend : ∀ w', Below w.heap.size w w' → given its w' w.heap.size all [] fr fun fr' => WL P fn F N ks ops.toArray (some (row, tsR)) (inOrder ops ordR) fr' w') :
    WL P fn F N ks ops.toArray (some (row, [(.f m L C, n)])) [] fr w := by
  simp only [chkC, Bool.and_eq_true, List.all_eq_true] at hc
  obtain ⟨c1, c2, c3, c4, c5, c6, c8, c9⟩ := hc
  have hI := fun i it hi => chkI_spec c1 i it hi
  have hJ := fun j d hd => chkJ_spec c4 j d hd
  obtain ⟨d1, d2⟩ := disjN_spec c2
  obtain ⟨e1, e2⟩ := disjD_spec c3
  have hstab := stables_spec hst
  have hsteps := stepsOf_spec hstep
  obtain ⟨base, hbase⟩ : ∃ b, (inOrder ops ordR).length + extra tsR = b := ⟨_, rfl⟩
  have hn := Nat.eq_of_beq_eq_true c8
  rw [hbase] at hn
  subst hn
  have hfr : ∀ it ∈ its, ∀ d ∈ it.ds, fr.get d = none := fun it hit d hd => by
    refine (Fr.get_none_iff fr d).2 ?_
    cases hb : inN d (fr.map Prod.fst) with
    | false => rfl
    | true => exact absurd (inN_iff.1 hb) (e1 it hit d hd)
  have main : ∀ (f T : Nat) (a : Act) (w' : World) (lo hi : Nat → Nat) (vv : Nat → List Value), f = fuelOf T its → ConcSt its N fr w m T a w' lo hi vv → Left P (kpost P fn F ks) ops.toArray (some (row, [(.f T L C, base + f)])) [] a w' := by
    intro f
    induction f using Nat.strongRecOn with
    | _ f ih =>
      intro T a w' lo hi vv hf hS
      intro D' A' L' C' listed m' hm _ hchk
      unfold chk at hchk
      simp only [Bool.and_eq_true] at hchk
      obtain ⟨hm1, hL1, hC1⟩ := hchk
      obtain rfl := Nat.eq_of_beq_eq_true hm1
      obtain rfl := Nat.eq_of_beq_eq_true hL1
      obtain rfl := Nat.eq_of_beq_eq_true hC1
      obtain rfl : D' = D := by rw [hm.D, ← hD]
      obtain rfl : A' = A := by rw [hm.A, ← hA]
      show wpMix P .any ops.toArray _ _ _ row (0 + (base + f)) listed a w'
      rw [Nat.zero_add]
      have hbefore : ∀ j i, (A'.getD j 0).testBit i = true → Before .any ops.toArray i j := by
        rw [hm.A]
        exact ancs_spec ops.toArray.toList [] (fun j => by simp) (fun j i hb => by simp at hb)
      -- what is ahead of a ready operation is through
      have hahead : ∀ j ∈ Region.ready .any ops.toArray listed, ∀ b, (A'.getD j 0).testBit b = true → b = j ∨ m'.testBit b = true := fun j hj b hb => by
        by_cases e : b = j
        · exact .inl e
        · refine .inr ?_
          have hlt : j < listed.size := by
            have h0 := (mem_ready.1 hj).1
            rcases Nat.lt_or_ge j listed.size with h | h
            · exact h
            · simp [Array.getElem?_eq_none h] at h0
          have h1 := hbefore j b hb _ (hm.closed.set hj) (by simp [hlt])
          rw [getD_set_ne false (Ne.symm e)] at h1
          rw [← hm.bits]; exact h1
      by_cases hall : ∀ it ∈ its, m'.testBit it.k = true
      · -- all through
        have hf0 : f = 0 := by rw [hf, fuel_zero hall]
        subst hf0
        have hT : m' = allMask m its := Nat.eq_of_testBit_eq fun j => by
          cases h1 : m'.testBit j with
          | true => exact (allMask_bit.2 (hS.up j h1)).symm
          | false =>
            cases h2 : (allMask m its).testBit j with
            | false => rfl
            | true =>
              rcases allMask_bit.1 h2 with h3 | ⟨it, h3, h4⟩
              · rw [hS.low j h3] at h1; cases h1
              · rw [hS.whole it h3 j h4, hall it h3] at h1; cases h1
        have hpos : ∀ p ∈ all, ∃ it, nthI its p = some it := fun p hp => by
          have hlt : p < its.length := by have := c6 p hp; simpa using this
          exact nthI_some hlt
        obtain ⟨fr', k1, _, k2⟩ := given_elim (its := its) (lo := lo) (hi := hi) (vv := vv) all [] fr _ hS.rep (fun p hp => by
          obtain ⟨it, hit⟩ := hpos p hp
          obtain ⟨h1, h2, h3, h4, h5⟩ := hS.f p it hit (hall it (nthI_mem hit))
          exact ⟨it, hit, h1, h2, h3, h4, h5⟩) (List.Pairwise.imp_of_mem (fun {p q} hp hq hpq => by
            obtain ⟨it, hit⟩ := hpos p hp
            obtain ⟨it', hit'⟩ := hpos q hq
            exact hS.ap p q it it' hit hit' (hall it (nthI_mem hit)) (hall it' (nthI_mem hit')) (by omega)) (incrN_spec c5)) (fun q hq => by cases hq) (hend w' hS.bel)
        have := left_elim (k2 a k1) hm hlR (by rw [hT]; exact c9)
        rw [hbase] at this
        simpa using this
      · -- the first item that is left is ready
        obtain ⟨i0, it0, hi0, hu0, hmin⟩ : ∃ i it, nthI its i = some it ∧ m'.testBit it.k = false ∧ ∀ j, j < i → ∀ x, nthI its j = some x → m'.testBit x.k = true := by
          refine Classical.byContradiction fun hno => hall fun it hit => ?_
          obtain ⟨i, _, hi'⟩ := nthI_of_mem hit
          have key : ∀ i it, nthI its i = some it → m'.testBit it.k = true := by
            intro i
            induction i using Nat.strongRecOn with
            | _ i ihi =>
              intro it hit
              cases hb : m'.testBit it.k with
              | true => rfl
              | false => exact absurd ⟨i, it, hit, hb, fun j hj x hx => ihi j hj x hx⟩ hno
          exact key i it hi'
        have hsub : ∀ it, it ∈ its → (∀ p ∈ it.pre, ∀ x, nthI its p = some x → m'.testBit x.k = true) → ∀ j, (m ||| preMask its it.pre).testBit j = true → m'.testBit j = true := fun it hit hp j hj => by
          rw [Nat.testBit_or, Bool.or_eq_true] at hj
          rcases hj with hj | hj
          · exact hS.low j hj
          · obtain ⟨p, h1, x, h2, h3⟩ := preMask_bit hj
            rw [hS.whole x (nthI_mem h2) j h3]
            exact hp p h1 x h2
        have hrdy0 : it0.k ∈ Region.ready .any ops.toArray listed := hm.ready (rdyK_mono (hsub it0 (nthI_mem hi0) fun p hp x hx => hmin p (by have := ((hI i0 it0 hi0).2.1 p hp).1; omega) x hx) hu0 (hI i0 it0 hi0).2.2.2.1)
        obtain ⟨f', hf'⟩ : ∃ f', f = f' + 1 := by
          have := fuel_step (T := m') (T2 := m' ||| it0.mask) hi0 hu0 (by rw [Nat.testBit_or, show it0.mask.testBit it0.k = true from bitsOf_bit.2 (by simp [Item.idx])]; simp) (fun i' it' hi' hne => by
            rw [Nat.testBit_or]
            cases hb : it0.mask.testBit it'.k with
            | false => simp
            | true => exact absurd (bitsOf_bit.1 hb) (d2 i' i0 it' it0 hi' hi0 hne it'.k (by simp [Item.idx])))
          exact ⟨fuelOf (m' ||| it0.mask) its + it0.ps.length, by omega⟩
        rw [hf', ← Nat.add_assoc]
        refine ⟨fun h => (by rw [h] at hrdy0; cases hrdy0), fun j hj => ?_⟩
        -- which one it is
        obtain ⟨hjun, oj, hoj, hjall⟩ := mem_ready.1 hj
        have hjlt : j < ops.toArray.size := (Array.getElem?_eq_some_iff.1 hoj).1
        have hju : m'.testBit j = false := by rw [← hm.getD hjlt]; exact hjun
        have hDj := hm.dAt hoj
        obtain ⟨i, it, hi', rfl⟩ : ∃ i it, nthI its i = some it ∧ it.k = j := by
          rcases hJ j _ hDj with h1 | ⟨it, h1, h2⟩ | h1
          · rw [Nat.zero_add] at h1; rw [hS.low j h1] at hju; cases hju
          · obtain ⟨i, _, hi'⟩ := nthI_of_mem h1
            rw [Nat.zero_add] at h2
            rcases h2 with h2 | ⟨h2, b, h3, h4⟩
            · exact ⟨i, it, hi', h2⟩
            · exfalso
              have h5 : m'.testBit b = true := by
                obtain ⟨e, he, hb, rfl⟩ := dmask_bit.1 h3
                rw [← hm.bits]; exact hjall e he hb
              have h6 := hS.whole it h1 b h4
              have h7 := hS.whole it h1 j (by simp [Item.idx, h2])
              rw [h5] at h6; rw [← h6, hju] at h7; cases h7
          · exfalso
            rw [Nat.zero_add] at h1
            obtain ⟨⟨b, h2, h3⟩, h5⟩ := h1 it0 (nthI_mem hi0)
            rcases hahead j hj b h2 with h4 | h4
            · subst h4; exact h5 h3
            · rw [hS.whole it0 (nthI_mem hi0) b h3, hu0] at h4; cases h4
        obtain ⟨q1, q2, q3, q4, q5, q6⟩ := hI i it hi'
        have hit := nthI_mem hi'
        rw [if_pos q1]
        have hpre : ∀ p ∈ it.pre, ∃ x, nthI its p = some x ∧ m'.testBit x.k = true := fun p hp => by
          obtain ⟨h1, b, h2, x, h3, h4⟩ := q2 p hp
          refine ⟨x, h3, ?_⟩
          rcases hahead it.k hj b h2 with h5 | h5
          · subst h5; exact absurd h4 (d2 i p it x hi' h3 (by omega) _ (by simp [Item.idx]))
          · rw [← hS.whole x (nthI_mem h3) b h4]; exact h5
        have hsb := hsub it hit (fun p hp x hx => by
          obtain ⟨y, h1, h2⟩ := hpre p hp
          rw [hx] at h1; injection h1 with h1; rw [h1]; exact h2)
        obtain ⟨fo, hfo, hfo2⟩ := dump_ex hS.rep
        obtain ⟨T2, hT2⟩ : ∃ T2, maskAfter it.ps (m' ||| 2 ^ it.k) = T2 := ⟨_, rfl⟩
        have hT2b : ∀ j, T2.testBit j = true ↔ m'.testBit j = true ∨ j ∈ it.idx := fun j => by
          rw [← hT2, maskAfter_bit, bit_lor, Item.idx, List.mem_cons]
          constructor
          · rintro ((h | h) | h)
            · exact .inl h
            · exact .inr (.inl h.symm)
            · exact .inr (.inr h)
          · rintro (h | h | h)
            · exact .inl (.inl h)
            · exact .inl (.inr h.symm)
            · exact .inr h
        have hT2k : T2.testBit it.k = true := (hT2b _).2 (.inr (by simp [Item.idx]))
        have hT2o : ∀ i' it', nthI its i' = some it' → i' ≠ i → ∀ j ∈ it'.idx, T2.testBit j = m'.testBit j := fun i' it' hi2 hne j hj => by
          cases hb : m'.testBit j with
          | true => exact (hT2b j).2 (.inl hb)
          | false =>
            cases hb2 : T2.testBit j with
            | false => rfl
            | true =>
              rcases (hT2b j).1 hb2 with h | h
              · rw [hb] at h; cases h
              · exact absurd h (d2 i' i it' it hi2 hi' hne j hj)
        have hfuel := fuel_step (T := m') (T2 := T2) hi' hju hT2k (fun i' it' hi2 hne => hT2o i' it' hi2 hne it'.k (by simp [Item.idx]))
        obtain ⟨fr', k1, k2, k3⟩ := given_elim (its := its) (lo := lo) (hi := hi) (vv := vv) it.pre [] (fr ++ fo) _ (hS.rep.append hfo) (fun p hp => by
          obtain ⟨x, hx, hb⟩ := hpre p hp
          obtain ⟨h1, h2, h3, h4, h5⟩ := hS.f p x hx hb
          exact ⟨x, hx, h1, h2, h3, h4, h5⟩) (List.Pairwise.imp_of_mem (fun {p q} hp hq hpq => by
            obtain ⟨x, hx, hb⟩ := hpre p hp
            obtain ⟨y, hy, hb'⟩ := hpre q hq
            exact hS.ap p q x y hx hy hb hb' (by omega)) q3) (fun q hq => by cases hq) (hsteps it hit w' hS.bel fo m' T2 (base + fuelOf T2 its))
        have hkeep : ∀ t v, a.tmps[t]? = some v → fr'.get t = some v := fun t v hv => by
          cases hg : fr'.get t with
          | some u => rw [← hv]; exact (k1.get t u hg).symm
          | none =>
            have h1 := k2 t hg
            rw [Fr.get_append, hfo2 t v hv] at h1
            cases h2 : fr.get t <;> rw [h2] at h1 <;> cases h1
        have hL := k3 (fun vs w'' hφ hb a' ha' => by
          have hkeep' : ∀ t v, a.tmps[t]? = some v → t ∉ it.ds → a'.tmps[t]? = some v := fun t v hv ht => by
            refine ha'.get t v ?_
            rw [Fr.get_append]
            cases hz : Fr.get (it.ds.zip vs) t with
            | some u => exact absurd (zip_get hz) ht
            | none => exact hkeep t v hv
          have hss := hb.size
          have hs0 := hS.bel.size
          refine ih (fuelOf T2 its) (by omega) T2 a' w'' (fun j => if j = i then w'.heap.size else lo j) (fun j => if j = i then w''.heap.size else hi j) (fun j => if j = i then vs else vv j) rfl
            ⟨⟨ha'.size, ha'.defers, fun t v hv => hkeep' t v (hS.rep.get t v hv) (fun hd => by rw [hfr it hit t hd] at hv; cases hv)⟩, hS.bel.trans (hb.mono hs0), fun j hj => (hT2b j).2 (.inl (hS.low j hj)), fun j hj => ?_, fun it' hit' j hj => ?_, fun i' it' hi2 hb2 => ?_, fun i1 i2 x y hx hy hbx hby hne => ?_⟩
          · rcases (hT2b j).1 hj with h | h
            · exact hS.up j h
            · exact .inr ⟨it, hit, h⟩
          · obtain ⟨i', _, hi2⟩ := nthI_of_mem hit'
            by_cases e : i' = i
            · subst e
              rw [hi'] at hi2; injection hi2 with hi2; subst hi2
              rw [hT2k, (hT2b j).2 (.inr hj)]
            · rw [hT2o i' it' hi2 e j hj, hT2o i' it' hi2 e it'.k (by simp [Item.idx])]
              exact hS.whole it' hit' j hj
          · by_cases e : i' = i
            · subst e
              rw [hi'] at hi2; injection hi2 with hi2; subst hi2
              simp only [if_true]
              refine ⟨⟨ha'.size, ha'.defers, fun t v hv => ha'.get t v ?_⟩, hφ, by omega, by omega, Nat.le_refl _⟩
              rw [Fr.get_append, hv]
            · simp only [if_neg e]
              rw [hT2o i' it' hi2 e it'.k (by simp [Item.idx])] at hb2
              obtain ⟨h1, h2, h3, h4, h5⟩ := hS.f i' it' hi2 hb2
              refine ⟨⟨ha'.size, ha'.defers, fun t v hv => hkeep' t v (h1.get t v hv) (fun hd => ?_)⟩, hstab it' (nthI_mem hi2) _ _ _ _ _ h2 hb, h3, h4, by omega⟩
              exact e2 i' i it' it hi2 hi' e t (zip_get hv) hd
          · by_cases ex : i1 = i
            · subst ex
              have ey : i2 ≠ i1 := Ne.symm hne
              simp only [if_true, if_neg ey]
              rw [hT2o i2 y hy ey y.k (by simp [Item.idx])] at hby
              have := (hS.f i2 y hy hby).2.2.2.2
              exact .inr this
            · by_cases ey : i2 = i
              · subst ey
                simp only [if_true, if_neg ex]
                rw [hT2o i1 x hx ex x.k (by simp [Item.idx])] at hbx
                have := (hS.f i1 x hx hbx).2.2.2.2
                exact .inl this
              · simp only [if_neg ex, if_neg ey]
                rw [hT2o i1 x hx ex x.k (by simp [Item.idx])] at hbx
                rw [hT2o i2 y hy ey y.k (by simp [Item.idx])] at hby
                exact hS.ap i1 i2 x y hx hy hbx hby hne) a k1
        have hmap := inOrder_map q5
        obtain ⟨o, l', hol⟩ : ∃ o l', inOrder ops it.idx = o :: l' := by
          cases h : inOrder ops it.idx with
          | nil => rw [h] at hmap; simp [Item.idx] at hmap
          | cons o l' => exact ⟨o, l', rfl⟩
        rw [hol] at hmap
        have hmap2 : some o = ops.toArray[it.k]? ∧ l'.map some = (it.ps.map Prod.snd).map (fun k => ops.toArray[k]?) := by
          rw [Item.idx, List.map_cons, List.map_cons] at hmap
          exact List.cons.inj hmap
        obtain ⟨o1, o2⟩ := opsOf_ps (ops := ops.toArray) (l := ops.toArray.toList) (n := base + fuelOf T2 its) (T := T2) it.ps _ q6
        have hl' : l'.length = it.ps.length := by have := congrArg List.length hmap2.2; simpa using this
        have fin := hL D' A' listed o l' hol hm hmap2.1.symm (by rw [hmap2.2, o1, List.map_map]; rfl) hj (by
          rw [← hT2]
          exact chk_of_chkP (T := m') it.ps _ _ q6 (fun i hi => by rw [bit_lor] at hi ⊢; exact hi.imp (hsb i) id) (fun i hi => by
            rw [bit_lor] at hi ⊢
            rcases hi with hi | hi
            · exact .inl hi
            · exact .inr (.inr hi)) (fun p hp => by rw [hS.whole it hit p.2 (by simp only [Item.idx, List.mem_cons, List.mem_map]; exact .inr ⟨p, hp, rfl⟩)]; exact hju))
        rw [o2, hl'] at fin
        rw [show base + f' = it.ps.length + (base + fuelOf T2 its) by omega]
        exact fin
  intro a ha
  have h0 : ∀ it ∈ its, m.testBit it.k = false := fun it hit => d1 it hit it.k (by simp [Item.idx])
  exact main _ m a w (fun _ => 0) (fun _ => 0) (fun _ => []) rfl ⟨ha, Below.refl _ _, fun _ h => h, fun _ h => .inl h, fun it hit j hj => by rw [d1 it hit j hj, h0 it hit],
    fun i it hi hb => absurd hb (by rw [h0 it (nthI_mem hi)]; simp), fun i j it it' hi _ hb _ _ => absurd hb (by rw [h0 it (nthI_mem hi)]; simp)⟩
end
end Go.Proofs.Ytpjedpmbninfcaa
/-
  The same where one operation (at place e) may also change what another one (at place p) made, which nobody else looks at from then on: an append in place. No function of the program is named here.
-/
namespace Go.Proofs.Ytpjedpmbninfcaa
open Go.RowKit
theorem OwnH.rng {w : World} {lo hi c : Nat} {A : Option Addr} {l : List UInt8} (h : OwnH w lo hi A c l) : ∀ k, blk A = some k → lo ≤ k ∧ k < hi := fun k hk => ⟨(RowH.lt h k hk).1, h.hi k hk⟩
theorem OwnH.ge_ {w : World} {lo hi c : Nat} {A : Option Addr} {l : List UInt8} (h : OwnH w lo hi A c l) {B : Nat} (hB : B ≤ lo) : ∀ k, blk A = some k → B ≤ k := fun k hk => Nat.le_trans hB (RowH.lt h k hk).1
section
variable {P : Program} {fn : Func} {F : Ending → World → Prop} {N : Nat} {ks : List K} {ops : Array Oper} {tg : Tags} {l : List Oper} {fr : Fr} {w : World} {ty t : TypeId} {pos : String} {aft : Array Edge} {gd : Option (Nat × Bool)} {d n j q c lo hi : Nat} {x y : Operand} {A X : Option Addr}
theorem wl_vR {op : Op} {v : Value} {w' : World} (h : OpV P N fr w op ty v w') (hk : WL P fn F N ks ops tg.tail l ((d, v) :: fr) w') (ht : tg.loud = true := by rfl) (hg : onG ops fr gd = true := by rfl) (hd : Nat.blt d N = true := by rfl) (hq : tg.calm = false ∨ tg.rw.ok w w' := by exact .inl rfl) :
    WL P fn F N ks ops tg (⟨some d, op, ty, pos, aft, gd⟩ :: l) fr w :=
  fun a ha => left_loud ht fun K hK => by
    rw [if_pos (wanted_on (o := ⟨some d, op, ty, pos, aft, gd⟩) ha hg)]
    unfold Oper.wp
    rw [h a ha _ rfl rfl]
    exact hK _ _ hq (hk _ (ha.put hd v))
--@ rule append l wl_appBm
theorem wl_appBm (T : U8 P t) {s m : List UInt8} (hx : fr.ev x = some (.slice A n c)) (hown : OwnH w lo hi A c s) (hn : n = s.length) (hy : fr.ev y = some (.slice X j q)) (hr : Rd w X m) (hj : j = m.length) (hlen : s.length + m.length ≤ 4000000000) (hB : lo ≤ w.heap.size)
    (h : ∀ A' c' w', OwnH w' lo w'.heap.size A' c' (s ++ m) → Grew w w' 5 (blk A) → Below lo w w' → WL P fn F N ks ops tg.tail l ((d, .slice A' (s ++ m).length c') :: fr) w')
    (ht : tg.loud = true := by rfl) (hg : onG ops fr gd = true := by rfl) (hd : Nat.blt d N = true := by rfl) (hq : tg.calm = false ∨ tg.rw.may (blk A) := by exact .inl rfl) :
    WL P fn F N ks ops tg (⟨some d, .call { callee := .builtin .append, args := #[x, y], argTypes := #[t, t] }, ty, pos, aft, gd⟩ :: l) fr w := by
  subst hn; subst hj
  obtain ⟨A', c', w', hrun, h1, h2, h3, h4⟩ := run_app (P := P) w T (ty := ty) hown.o (k := q) hr (by omega) hB
  exact wl_vR (o_builtin (xs := [x, y]) (vs := [.slice A s.length c, .slice X m.length q]) (by simp [Fr.evs, hx, hy]) (by simp [builtin, hrun]) (by simp)) (h A' c' w' h1.h_ ⟨h2, RowH.ty hown⟩ h4) ht hg hd (hq.imp id fun e => Rw.of_may h2 e)
end
/-- What a change to a block that is not the item's own leaves as it is. -/
def stablesE (B e p : Nat) : List Item → Nat → Prop
  | [], _ => True
  | it :: r, i => (bif Nat.beq i e || Nat.beq i p then True else ∀ vs w w' row lo hi, it.φ vs w lo hi → w.grownBy w' row → (∀ k, row = some k → B ≤ k ∧ (k < lo ∨ hi ≤ k)) → it.φ vs w' lo hi) ∧ stablesE B e p r (i + 1)
theorem stablesE_spec {B e p : Nat} : ∀ {l : List Item} {i0 : Nat}, stablesE B e p l i0 → ∀ i it, nthI l i = some it → i0 + i ≠ e → i0 + i ≠ p → ∀ vs w w' row lo hi, it.φ vs w lo hi → w.grownBy w' row → (∀ k, row = some k → B ≤ k ∧ (k < lo ∨ hi ≤ k)) → it.φ vs w' lo hi
  | x :: r, i0, h, i, it, hi, he, hp => by
    cases i with
    | zero =>
      injection hi with hi; subst hi
      have h1 := h.1
      rw [Nat.add_zero] at he hp
      have e1 : (Nat.beq i0 e || Nat.beq i0 p) = false := by
        rw [Bool.or_eq_false_iff]
        refine ⟨?_, ?_⟩
        · cases hb : Nat.beq i0 e with
          | false => rfl
          | true => exact absurd (Nat.eq_of_beq_eq_true hb) he
        · cases hb : Nat.beq i0 p with
          | false => rfl
          | true => exact absurd (Nat.eq_of_beq_eq_true hb) hp
      rw [e1] at h1
      exact h1
    | succ i => exact stablesE_spec h.2 i it hi (by omega) (by omega)
/-- What an item looks at. -/
def useE (its : List Item) (e p i : Nat) (it : Item) : List Nat := bif Nat.beq i e || inN i (match nthI its e with | some x => x.pre | none => []) then it.pre else it.pre.filter (fun q => !Nat.beq q p)
/-- Where the operations at its have come to (those whose bits are in T). -/
structure ConcStE (its : List Item) (N : Nat) (fr : Fr) (w0 : World) (m T p ke : Nat) (a : Act) (w : World) (lo hi : Nat → Nat) (vv : Nat → List Value) : Prop where
  rep : Rep N a fr
  bel : Below w0.heap.size w0 w
  low : ∀ j, m.testBit j = true → T.testBit j = true
  up : ∀ j, T.testBit j = true → m.testBit j = true ∨ ∃ it ∈ its, j ∈ it.idx
  whole : ∀ it ∈ its, ∀ j ∈ it.idx, T.testBit j = T.testBit it.k
  f : ∀ i it, nthI its i = some it → T.testBit it.k = true → (i = p → T.testBit ke = false) → Rep N a (it.ds.zip (vv i)) ∧ it.φ (vv i) w (lo i) (hi i) ∧ w0.heap.size ≤ lo i ∧ lo i ≤ hi i ∧ hi i ≤ w.heap.size
  ap : ∀ i j it it', nthI its i = some it → nthI its j = some it' → T.testBit it.k = true → T.testBit it'.k = true → (i = p → T.testBit ke = false) → (j = p → T.testBit ke = false) → i ≠ j → hi i ≤ lo j ∨ hi j ≤ lo i
section
variable {P : Program} {fn : Func} {F : Ending → World → Prop} {N : Nat} {ks : List K} {ops : List Oper} {fr : Fr} {w : World} {row : Rw} {L C : Nat}
def stepU (P : Program) (fn : Func) (F : Ending → World → Prop) (N : Nat) (ks : List K) (ops : List Oper) (fr : Fr) (w : World) (row : Rw) (L C : Nat) (its : List Item) (use : List Nat) (it : Item) : Prop :=
  ∀ (w' : World), Below w.heap.size w w' → ∀ (fo : Fr) (T T2 n2 : Nat), given its w' w.heap.size use [] (fr ++ fo) fun fr' =>
    (∀ (vs : List Value) (w'' : World), it.φ vs w'' w'.heap.size w''.heap.size → Below w'.heap.size w' w'' → WL P fn F N ks ops.toArray (some (row, [(.f T2 L C, n2)])) [] (it.ds.zip vs ++ fr') w'') →
    WL P fn F N ks ops.toArray (some (row, (.g T L C, it.k) :: (it.ps ++ [(.f T2 L C, n2)]))) (inOrder ops it.idx) fr' w'
/-- The step of the one that changes what the item y made. -/
def stepE (P : Program) (fn : Func) (F : Ending → World → Prop) (N : Nat) (ks : List K) (ops : List Oper) (fr : Fr) (w : World) (row : Rw) (L C : Nat) (its : List Item) (p : Nat) (y it : Item) : Prop :=
  ∀ (w' : World), Below w.heap.size w w' → ∀ (fo : Fr) (T T2 n2 : Nat) (vsp : List Value) (lop hip : Nat), y.φ vsp w' lop hip → w.heap.size ≤ lop → lop ≤ hip → hip ≤ w'.heap.size →
    given its w' w.heap.size (it.pre.filter (fun q => !Nat.beq q p)) [(lop, hip)] (y.ds.zip vsp ++ (fr ++ fo)) fun fr' =>
    (∀ (vs : List Value) (w'' : World) (g : Option Nat), it.φ vs w'' w''.heap.size w''.heap.size → w'.grownBy w'' g → (∀ k, g = some k → lop ≤ k ∧ k < hip) → WL P fn F N ks ops.toArray (some (row, [(.f T2 L C, n2)])) [] (it.ds.zip vs ++ fr') w'') →
    WL P fn F N ks ops.toArray (some (row, (.g T L C, it.k) :: (it.ps ++ [(.f T2 L C, n2)]))) (inOrder ops it.idx) fr' w'
def stepsE (P : Program) (fn : Func) (F : Ending → World → Prop) (N : Nat) (ks : List K) (ops : List Oper) (fr : Fr) (w : World) (row : Rw) (L C : Nat) (its : List Item) (e p : Nat) : List Item → Nat → Prop
  | [], _ => True
  | it :: r, i => (bif Nat.beq i e then (match nthI its p with | some y => stepE P fn F N ks ops fr w row L C its p y it | none => False) else stepU P fn F N ks ops fr w row L C its (useE its e p i it) it) ∧ stepsE P fn F N ks ops fr w row L C its e p r (i + 1)
theorem stepsE_u {its : List Item} {e p : Nat} : ∀ {r : List Item} {i0 : Nat}, stepsE P fn F N ks ops fr w row L C its e p r i0 → ∀ i it, nthI r i = some it → i0 + i ≠ e → stepU P fn F N ks ops fr w row L C its (useE its e p (i0 + i) it) it
  | x :: r, i0, h, i, it, hi, he => by
    cases i with
    | zero =>
      injection hi with hi; subst hi
      have h1 := h.1
      rw [Nat.add_zero] at he ⊢
      have e1 : Nat.beq i0 e = false := by
        cases hb : Nat.beq i0 e with
        | false => rfl
        | true => exact absurd (Nat.eq_of_beq_eq_true hb) he
      rw [e1] at h1
      exact h1
    | succ i =>
      have := stepsE_u h.2 i it hi (by omega)
      rwa [show i0 + 1 + i = i0 + (i + 1) by omega] at this
theorem stepsE_e {its : List Item} {e p : Nat} {y : Item} (hy : nthI its p = some y) : ∀ {r : List Item} {i0 : Nat}, stepsE P fn F N ks ops fr w row L C its e p r i0 → ∀ i it, nthI r i = some it → i0 + i = e → stepE P fn F N ks ops fr w row L C its p y it
  | x :: r, i0, h, i, it, hi, he => by
    cases i with
    | zero =>
      injection hi with hi; subst hi
      have h1 := h.1
      rw [Nat.add_zero] at he
      subst he
      rw [show Nat.beq i0 i0 = true by simp, hy] at h1
      exact h1
    | succ i => exact stepsE_e hy h.2 i it hi (by omega)
def chkE (its : List Item) (all : List Nat) (e p : Nat) : Bool :=
  (match nthI its e with | some x => inN p x.pre | none => false) && (!Nat.beq e p && all.all (fun q => !Nat.beq q p))
theorem wl_concE {m n : Nat} (e p : Nat) (its : List Item) (all D A ordR : List Nat) (tsR : List (Tag × Nat)) (hD : ops.map (dmask .any) = D) (hA : ancs .any ops [] = A) (hc : (chkE its all e p && chkC ops its all D A L C m n fr ordR tsR) = true)
    (hlR : (inOrder ops ordR).map some = opsOf ops.toArray tsR) (hst : stables its) (hstE : stablesE w.heap.size e p its 0) (hstep : stepsE P fn F N ks ops fr w row L C its e p its 0)
    (hend : ∀ w', Below w.heap.size w w' → given its w' w.heap.size all [] fr fun fr' => WL P fn F N ks ops.toArray (some (row, tsR)) (inOrder ops ordR) fr' w') :
    WL P fn F N ks ops.toArray (some (row, [(.f m L C, n)])) [] fr w := by
  simp only [chkC, chkE, Bool.and_eq_true, List.all_eq_true] at hc
  obtain ⟨⟨x1, x2, x3⟩, c1, c2, c3, c4, c5, c6, c8, c9⟩ := hc
  have hI := fun i it hi => chkI_spec c1 i it hi
  have hJ := fun j d hd => chkJ_spec c4 j d hd
  obtain ⟨d1, d2⟩ := disjN_spec c2
  obtain ⟨e1, e2⟩ := disjD_spec c3
  have hstab := stables_spec hst
  have hstabE := fun i it hi => stablesE_spec hstE i it hi
  obtain ⟨xe, hxe, hpe⟩ : ∃ xe, nthI its e = some xe ∧ p ∈ xe.pre := by
    cases hx : nthI its e with
    | none => rw [hx] at x1; cases x1
    | some xe => rw [hx] at x1; exact ⟨xe, rfl, inN_iff.1 x1⟩
  have hep : e ≠ p := fun h => by subst h; simp at x2
  have hallp : ∀ q ∈ all, q ≠ p := fun q hq h => by have := x3 q hq; subst h; simp at this
  obtain ⟨base, hbase⟩ : ∃ b, (inOrder ops ordR).length + extra tsR = b := ⟨_, rfl⟩
  have hn := Nat.eq_of_beq_eq_true c8
  rw [hbase] at hn
  subst hn
  have hfr : ∀ it ∈ its, ∀ d ∈ it.ds, fr.get d = none := fun it hit d hd => by
    refine (Fr.get_none_iff fr d).2 ?_
    cases hb : inN d (fr.map Prod.fst) with
    | false => rfl
    | true => exact absurd (inN_iff.1 hb) (e1 it hit d hd)
  have main : ∀ (f T : Nat) (a : Act) (w' : World) (lo hi : Nat → Nat) (vv : Nat → List Value), f = fuelOf T its → ConcStE its N fr w m T p xe.k a w' lo hi vv → Left P (kpost P fn F ks) ops.toArray (some (row, [(.f T L C, base + f)])) [] a w' := by
    intro f
    induction f using Nat.strongRecOn with
    | _ f ih =>
      intro T a w' lo hi vv hf hS
      intro D' A' L' C' listed m' hm _ hchk
      unfold chk at hchk
      simp only [Bool.and_eq_true] at hchk
      obtain ⟨hm1, hL1, hC1⟩ := hchk
      obtain rfl := Nat.eq_of_beq_eq_true hm1
      obtain rfl := Nat.eq_of_beq_eq_true hL1
      obtain rfl := Nat.eq_of_beq_eq_true hC1
      obtain rfl : D' = D := by rw [hm.D, ← hD]
      obtain rfl : A' = A := by rw [hm.A, ← hA]
      show wpMix P .any ops.toArray _ _ _ row (0 + (base + f)) listed a w'
      rw [Nat.zero_add]
      have hbefore : ∀ j i, (A'.getD j 0).testBit i = true → Before .any ops.toArray i j := by
        rw [hm.A]
        exact ancs_spec ops.toArray.toList [] (fun j => by simp) (fun j i hb => by simp at hb)
      -- what is ahead of a ready operation is through
      have hahead : ∀ j ∈ Region.ready .any ops.toArray listed, ∀ b, (A'.getD j 0).testBit b = true → b = j ∨ m'.testBit b = true := fun j hj b hb => by
        by_cases e : b = j
        · exact .inl e
        · refine .inr ?_
          have hlt : j < listed.size := by
            have h0 := (mem_ready.1 hj).1
            rcases Nat.lt_or_ge j listed.size with h | h
            · exact h
            · simp [Array.getElem?_eq_none h] at h0
          have h1 := hbefore j b hb _ (hm.closed.set hj) (by simp [hlt])
          rw [getD_set_ne false (Ne.symm e)] at h1
          rw [← hm.bits]; exact h1
      by_cases hall : ∀ it ∈ its, m'.testBit it.k = true
      · -- all through
        have hf0 : f = 0 := by rw [hf, fuel_zero hall]
        subst hf0
        have hT : m' = allMask m its := Nat.eq_of_testBit_eq fun j => by
          cases h1 : m'.testBit j with
          | true => exact (allMask_bit.2 (hS.up j h1)).symm
          | false =>
            cases h2 : (allMask m its).testBit j with
            | false => rfl
            | true =>
              rcases allMask_bit.1 h2 with h3 | ⟨it, h3, h4⟩
              · rw [hS.low j h3] at h1; cases h1
              · rw [hS.whole it h3 j h4, hall it h3] at h1; cases h1
        have hpos : ∀ p ∈ all, ∃ it, nthI its p = some it := fun p hp => by
          have hlt : p < its.length := by have := c6 p hp; simpa using this
          exact nthI_some hlt
        obtain ⟨fr', k1, _, k2⟩ := given_elim (its := its) (lo := lo) (hi := hi) (vv := vv) all [] fr _ hS.rep (fun p hp => by
          obtain ⟨it, hit⟩ := hpos p hp
          obtain ⟨h1, h2, h3, h4, h5⟩ := hS.f p it hit (hall it (nthI_mem hit)) (fun h => absurd h (hallp _ hp))
          exact ⟨it, hit, h1, h2, h3, h4, h5⟩) (List.Pairwise.imp_of_mem (fun {p q} hp hq hpq => by
            obtain ⟨it, hit⟩ := hpos p hp
            obtain ⟨it', hit'⟩ := hpos q hq
            exact hS.ap p q it it' hit hit' (hall it (nthI_mem hit)) (hall it' (nthI_mem hit')) (fun h => absurd h (hallp _ hp)) (fun h => absurd h (hallp _ hq)) (by omega)) (incrN_spec c5)) (fun q hq => by cases hq) (hend w' hS.bel)
        have := left_elim (k2 a k1) hm hlR (by rw [hT]; exact c9)
        rw [hbase] at this
        simpa using this
      · -- the first item that is left is ready
        obtain ⟨i0, it0, hi0, hu0, hmin⟩ : ∃ i it, nthI its i = some it ∧ m'.testBit it.k = false ∧ ∀ j, j < i → ∀ x, nthI its j = some x → m'.testBit x.k = true := by
          refine Classical.byContradiction fun hno => hall fun it hit => ?_
          obtain ⟨i, _, hi'⟩ := nthI_of_mem hit
          have key : ∀ i it, nthI its i = some it → m'.testBit it.k = true := by
            intro i
            induction i using Nat.strongRecOn with
            | _ i ihi =>
              intro it hit
              cases hb : m'.testBit it.k with
              | true => rfl
              | false => exact absurd ⟨i, it, hit, hb, fun j hj x hx => ihi j hj x hx⟩ hno
          exact key i it hi'
        have hsub : ∀ it, it ∈ its → (∀ p ∈ it.pre, ∀ x, nthI its p = some x → m'.testBit x.k = true) → ∀ j, (m ||| preMask its it.pre).testBit j = true → m'.testBit j = true := fun it hit hp j hj => by
          rw [Nat.testBit_or, Bool.or_eq_true] at hj
          rcases hj with hj | hj
          · exact hS.low j hj
          · obtain ⟨p, h1, x, h2, h3⟩ := preMask_bit hj
            rw [hS.whole x (nthI_mem h2) j h3]
            exact hp p h1 x h2
        have hrdy0 : it0.k ∈ Region.ready .any ops.toArray listed := hm.ready (rdyK_mono (hsub it0 (nthI_mem hi0) fun p hp x hx => hmin p (by have := ((hI i0 it0 hi0).2.1 p hp).1; omega) x hx) hu0 (hI i0 it0 hi0).2.2.2.1)
        obtain ⟨f', hf'⟩ : ∃ f', f = f' + 1 := by
          have := fuel_step (T := m') (T2 := m' ||| it0.mask) hi0 hu0 (by rw [Nat.testBit_or, show it0.mask.testBit it0.k = true from bitsOf_bit.2 (by simp [Item.idx])]; simp) (fun i' it' hi' hne => by
            rw [Nat.testBit_or]
            cases hb : it0.mask.testBit it'.k with
            | false => simp
            | true => exact absurd (bitsOf_bit.1 hb) (d2 i' i0 it' it0 hi' hi0 hne it'.k (by simp [Item.idx])))
          exact ⟨fuelOf (m' ||| it0.mask) its + it0.ps.length, by omega⟩
        rw [hf', ← Nat.add_assoc]
        refine ⟨fun h => (by rw [h] at hrdy0; cases hrdy0), fun j hj => ?_⟩
        -- which one it is
        obtain ⟨hjun, oj, hoj, hjall⟩ := mem_ready.1 hj
        have hjlt : j < ops.toArray.size := (Array.getElem?_eq_some_iff.1 hoj).1
        have hju : m'.testBit j = false := by rw [← hm.getD hjlt]; exact hjun
        have hDj := hm.dAt hoj
        obtain ⟨i, it, hi', rfl⟩ : ∃ i it, nthI its i = some it ∧ it.k = j := by
          rcases hJ j _ hDj with h1 | ⟨it, h1, h2⟩ | h1
          · rw [Nat.zero_add] at h1; rw [hS.low j h1] at hju; cases hju
          · obtain ⟨i, _, hi'⟩ := nthI_of_mem h1
            rw [Nat.zero_add] at h2
            rcases h2 with h2 | ⟨h2, b, h3, h4⟩
            · exact ⟨i, it, hi', h2⟩
            · exfalso
              have h5 : m'.testBit b = true := by
                obtain ⟨e, he, hb, rfl⟩ := dmask_bit.1 h3
                rw [← hm.bits]; exact hjall e he hb
              have h6 := hS.whole it h1 b h4
              have h7 := hS.whole it h1 j (by simp [Item.idx, h2])
              rw [h5] at h6; rw [← h6, hju] at h7; cases h7
          · exfalso
            rw [Nat.zero_add] at h1
            obtain ⟨⟨b, h2, h3⟩, h5⟩ := h1 it0 (nthI_mem hi0)
            rcases hahead j hj b h2 with h4 | h4
            · subst h4; exact h5 h3
            · rw [hS.whole it0 (nthI_mem hi0) b h3, hu0] at h4; cases h4
        obtain ⟨q1, q2, q3, q4, q5, q6⟩ := hI i it hi'
        have hit := nthI_mem hi'
        rw [if_pos q1]
        have hpre : ∀ p ∈ it.pre, ∃ x, nthI its p = some x ∧ m'.testBit x.k = true := fun p hp => by
          obtain ⟨h1, b, h2, x, h3, h4⟩ := q2 p hp
          refine ⟨x, h3, ?_⟩
          rcases hahead it.k hj b h2 with h5 | h5
          · subst h5; exact absurd h4 (d2 i p it x hi' h3 (by omega) _ (by simp [Item.idx]))
          · rw [← hS.whole x (nthI_mem h3) b h4]; exact h5
        have hsb := hsub it hit (fun p hp x hx => by
          obtain ⟨y, h1, h2⟩ := hpre p hp
          rw [hx] at h1; injection h1 with h1; rw [h1]; exact h2)
        obtain ⟨fo, hfo, hfo2⟩ := dump_ex hS.rep
        obtain ⟨T2, hT2⟩ : ∃ T2, maskAfter it.ps (m' ||| 2 ^ it.k) = T2 := ⟨_, rfl⟩
        have hT2b : ∀ j, T2.testBit j = true ↔ m'.testBit j = true ∨ j ∈ it.idx := fun j => by
          rw [← hT2, maskAfter_bit, bit_lor, Item.idx, List.mem_cons]
          constructor
          · rintro ((h | h) | h)
            · exact .inl h
            · exact .inr (.inl h.symm)
            · exact .inr (.inr h)
          · rintro (h | h | h)
            · exact .inl (.inl h)
            · exact .inl (.inr h.symm)
            · exact .inr h
        have hT2k : T2.testBit it.k = true := (hT2b _).2 (.inr (by simp [Item.idx]))
        have hT2o : ∀ i' it', nthI its i' = some it' → i' ≠ i → ∀ j ∈ it'.idx, T2.testBit j = m'.testBit j := fun i' it' hi2 hne j hj => by
          cases hb : m'.testBit j with
          | true => exact (hT2b j).2 (.inl hb)
          | false =>
            cases hb2 : T2.testBit j with
            | false => rfl
            | true =>
              rcases (hT2b j).1 hb2 with h | h
              · rw [hb] at h; cases h
              · exact absurd h (d2 i' i it' it hi2 hi' hne j hj)
        have hfuel := fuel_step (T := m') (T2 := T2) hi' hju hT2k (fun i' it' hi2 hne => hT2o i' it' hi2 hne it'.k (by simp [Item.idx]))
        -- where an item that is through was ahead of another one that is through
        have hdone : ∀ q y, nthI its q = some y → m'.testBit y.k = true → ∀ r ∈ y.pre, ∀ x, nthI its r = some x → m'.testBit x.k = true := fun q y hy hb r hr x hx => by
          obtain ⟨h1, b, h2, x', h3, h4⟩ := (hI q y hy).2.1 r hr
          rw [hx] at h3; injection h3 with h3; subst h3
          have hb2 : listed.getD y.k false = true := by rw [hm.bits]; exact hb
          have := hbefore y.k b h2 listed hm.closed hb2
          rw [hm.bits] at this
          rw [← hS.whole x (nthI_mem hx) b h4]; exact this
        have hkeepF : ∀ (fr' : Fr), Rep N a fr' → (∀ t, fr'.get t = none → (fr ++ fo).get t = none) → ∀ t v, a.tmps[t]? = some v → fr'.get t = some v := fun fr' k1 k2 t v hv => by
          cases hg : fr'.get t with
          | some u => rw [← hv]; exact (k1.get t u hg).symm
          | none =>
            have h1 := k2 t hg
            rw [Fr.get_append, hfo2 t v hv] at h1
            cases h2 : fr.get t <;> rw [h2] at h1 <;> cases h1
        -- the state behind the step
        have after : ∀ (fr' : Fr) (vs : List Value) (w'' : World) (g : Option Nat) (l2 h2 : Nat) (a' : Act), (∀ t v, a.tmps[t]? = some v → fr'.get t = some v) → Rep N a' (it.ds.zip vs ++ fr') → it.φ vs w'' l2 h2 → w'.grownBy w'' g →
            (w'.heap.size ≤ l2 ∧ l2 ≤ h2 ∧ h2 ≤ w''.heap.size) → (g = none ∨ (i = e ∧ (∀ k, g = some k → lo p ≤ k ∧ k < hi p) ∧ ∀ y, nthI its p = some y → m'.testBit y.k = true)) →
            ConcStE its N fr w m T2 p xe.k a' w'' (fun j => if j = i then l2 else lo j) (fun j => if j = i then h2 else hi j) (fun j => if j = i then vs else vv j) := by
          intro fr' vs w'' g l2 h2 a' hkeep ha' hφ hgr hl2 hgc
          have hkeep' : ∀ t v, a.tmps[t]? = some v → t ∉ it.ds → a'.tmps[t]? = some v := fun t v hv ht => by
            refine ha'.get t v ?_
            rw [Fr.get_append]
            cases hz : Fr.get (it.ds.zip vs) t with
            | some u => exact absurd (zip_get hz) ht
            | none => exact hkeep t v hv
          have hss := hgr.size
          have hs0 := hS.bel.size
          have hxu : i = e → m'.testBit xe.k = false := fun h => by
            subst h; rw [hi'] at hxe; injection hxe with hxe; rw [← hxe]; exact hju
          have hglow : ∀ k, g = some k → w.heap.size ≤ k := fun k hk => by
            rcases hgc with h | ⟨h1, h3, h4⟩
            · rw [h] at hk; cases hk
            · obtain ⟨y, hy, _⟩ := hpre p (by subst h1; rw [hi'] at hxe; injection hxe with hxe; rw [hxe]; exact hpe)
              have := (hS.f p y hy (h4 y hy) (fun _ => hxu h1)).2.2.1
              have := (h3 k hk).1
              omega
          have h2e : T2.testBit xe.k = false → m'.testBit xe.k = false := fun h => by
            cases hb : m'.testBit xe.k with
            | false => rfl
            | true => rw [(hT2b _).2 (.inl hb)] at h; cases h
          refine ⟨⟨ha'.size, ha'.defers, fun t v hv => hkeep' t v (hS.rep.get t v hv) (fun hd => by rw [hfr it hit t hd] at hv; cases hv)⟩, hS.bel.grown hgr hs0 hglow, fun j hj => (hT2b j).2 (.inl (hS.low j hj)), fun j hj => ?_, fun it' hit' j hj => ?_, fun i' it' hi2 hb2 hlive => ?_, fun i1 i2 x y hx hy hbx hby hlx hly hne => ?_⟩
          · rcases (hT2b j).1 hj with h | h
            · exact hS.up j h
            · exact .inr ⟨it, hit, h⟩
          · obtain ⟨i', _, hi2⟩ := nthI_of_mem hit'
            by_cases e : i' = i
            · subst e
              rw [hi'] at hi2; injection hi2 with hi2; subst hi2
              rw [hT2k, (hT2b j).2 (.inr hj)]
            · rw [hT2o i' it' hi2 e j hj, hT2o i' it' hi2 e it'.k (by simp [Item.idx])]
              exact hS.whole it' hit' j hj
          · by_cases e0 : i' = i
            · subst e0
              rw [hi'] at hi2; injection hi2 with hi2; subst hi2
              simp only [if_true]
              refine ⟨⟨ha'.size, ha'.defers, fun t v hv => ha'.get t v ?_⟩, hφ, by omega, by omega, by omega⟩
              rw [Fr.get_append, hv]
            · simp only [if_neg e0]
              rw [hT2o i' it' hi2 e0 it'.k (by simp [Item.idx])] at hb2
              obtain ⟨h1, h2, h3, h4, h5⟩ := hS.f i' it' hi2 hb2 (fun h => h2e (hlive h))
              refine ⟨⟨ha'.size, ha'.defers, fun t v hv => hkeep' t v (h1.get t v hv) (fun hd => ?_)⟩, ?_, h3, h4, by omega⟩
              · exact e2 i' i it' it hi2 hi' e0 t (zip_get hv) hd
              · rcases hgc with hg | ⟨hie, hgk, hpd⟩
                · rw [hg] at hgr
                  exact hstab it' (nthI_mem hi2) _ _ _ _ _ h2 (below_of_grown_none hgr)
                · have hip : i' ≠ p := fun h => by
                    have := hlive h
                    subst hie
                    rw [hi'] at hxe; injection hxe with hxe; rw [← hxe, hT2k] at this; cases this
                  have hie' : i' ≠ e := fun h => e0 (h.trans hie.symm)
                  refine hstabE i' it' hi2 (by omega) (by omega) _ _ _ _ _ _ h2 hgr (fun k hk => ⟨hglow k hk, ?_⟩)
                  obtain ⟨y, hy, _⟩ := hpre p (by subst hie; rw [hi'] at hxe; injection hxe with hxe; rw [hxe]; exact hpe)
                  have hb3 := hgk k hk
                  have := hS.ap i' p it' y hi2 hy hb2 (hpd y hy) (fun h => absurd h hip) (fun _ => hxu hie) hip
                  omega
          · by_cases ex : i1 = i
            · subst ex
              have ey : i2 ≠ i1 := Ne.symm hne
              simp only [if_true, if_neg ey]
              rw [hT2o i2 y hy ey y.k (by simp [Item.idx])] at hby
              have := (hS.f i2 y hy hby (fun h => h2e (hly h))).2.2.2.2
              exact .inr (by omega)
            · by_cases ey : i2 = i
              · subst ey
                simp only [if_true, if_neg ex]
                rw [hT2o i1 x hx ex x.k (by simp [Item.idx])] at hbx
                have := (hS.f i1 x hx hbx (fun h => h2e (hlx h))).2.2.2.2
                exact .inl (by omega)
              · simp only [if_neg ex, if_neg ey]
                rw [hT2o i1 x hx ex x.k (by simp [Item.idx])] at hbx
                rw [hT2o i2 y hy ey y.k (by simp [Item.idx])] at hby
                exact hS.ap i1 i2 x y hx hy hbx hby (fun h => h2e (hlx h)) (fun h => h2e (hly h)) hne
        have hL : Left P (kpost P fn F ks) ops.toArray (some (row, (.g m' L' C', it.k) :: (it.ps ++ [(.f T2 L' C', base + fuelOf T2 its)]))) (inOrder ops it.idx) a w' := by
          by_cases hie : i = e
          · have hite : it = xe := by subst hie; rw [hi'] at hxe; injection hxe
            obtain ⟨y, hy, hyb⟩ := hpre p (by rw [hite]; exact hpe)
            have hux : m'.testBit xe.k = false := by rw [← hite]; exact hju
            obtain ⟨g1, g2, g3, g4, g5⟩ := hS.f p y hy hyb (fun _ => hux)
            have hst2 := stepsE_e hy hstep i it hi' (by omega) w' hS.bel fo m' T2 (base + fuelOf T2 its) (vv p) (lo p) (hi p) g2 g3 g4 g5
            have hmem : ∀ q ∈ it.pre.filter (fun q => !Nat.beq q p), q ∈ it.pre ∧ q ≠ p := fun q hq => by
              obtain ⟨h1, h2⟩ := List.mem_filter.1 hq
              exact ⟨h1, fun h => by subst h; simp at h2⟩
            obtain ⟨fr', k1, k2, k3⟩ := given_elim (its := its) (lo := lo) (hi := hi) (vv := vv) (it.pre.filter (fun q => !Nat.beq q p)) [(lo p, hi p)] (y.ds.zip (vv p) ++ (fr ++ fo)) _ (g1.append (hS.rep.append hfo)) (fun q hq => by
              obtain ⟨x, hx, hb⟩ := hpre q (hmem q hq).1
              obtain ⟨h1, h2, h3, h4, h5⟩ := hS.f q x hx hb (fun _ => hux)
              exact ⟨x, hx, h1, h2, h3, h4, h5⟩) (List.Pairwise.imp_of_mem (fun {q r} hq hr hqr => by
                obtain ⟨x, hx, hb⟩ := hpre q (hmem q hq).1
                obtain ⟨z, hz, hb'⟩ := hpre r (hmem r hr).1
                exact hS.ap q r x z hx hz hb hb' (fun _ => hux) (fun _ => hux) (by omega)) (q3.filter _)) (fun r hr q hq => by
                  rw [List.mem_singleton] at hr; subst hr
                  obtain ⟨x, hx, hb⟩ := hpre q (hmem q hq).1
                  exact hS.ap p q y x hy hx hyb hb (fun _ => hux) (fun _ => hux) (Ne.symm (hmem q hq).2)) hst2
            refine k3 (fun vs w'' g hφ hgr hg a' ha' => ?_) a k1
            refine ih (fuelOf T2 its) (by omega) T2 a' w'' _ _ _ rfl (after fr' vs w'' g w''.heap.size w''.heap.size a' (hkeepF fr' k1 (fun t ht => ?_)) ha' hφ hgr ⟨hgr.size, Nat.le_refl _, Nat.le_refl _⟩ (.inr ⟨hie, hg, fun z hz => by rw [hy] at hz; injection hz with hz; rw [← hz]; exact hyb⟩))
            have := k2 t ht
            rw [Fr.get_append] at this
            cases hc : Fr.get (y.ds.zip (vv p)) t with
            | some u => rw [hc] at this; cases this
            | none => rw [hc] at this; exact this
          · have hmem : ∀ q ∈ useE its e p i it, q ∈ it.pre ∧ (q = p → m'.testBit xe.k = false) := fun q hq => by
              unfold useE at hq
              rw [hxe] at hq
              cases hc : (Nat.beq i e || inN i xe.pre) with
              | true =>
                rw [show (match some xe with | some x => x.pre | none => []) = xe.pre from rfl, hc] at hq
                refine ⟨hq, fun _ => ?_⟩
                rw [Bool.or_eq_true] at hc
                rcases hc with hc | hc
                · exact absurd (Nat.eq_of_beq_eq_true hc) hie
                · cases hb : m'.testBit xe.k with
                  | false => rfl
                  | true =>
                    have := hdone e xe hxe hb i (inN_iff.1 hc) it hi'
                    rw [hju] at this; cases this
              | false =>
                rw [show (match some xe with | some x => x.pre | none => []) = xe.pre from rfl, hc] at hq
                obtain ⟨h1, h2⟩ := List.mem_filter.1 hq
                exact ⟨h1, fun h => by subst h; simp at h2⟩
            have huse3 : (useE its e p i it).Pairwise (· < ·) := by
              unfold useE
              cases (Nat.beq i e || inN i (match nthI its e with | some x => x.pre | none => [])) with
              | true => exact q3
              | false => exact q3.filter _
            have hst2 := stepsE_u hstep i it hi' (by omega)
            rw [Nat.zero_add] at hst2
            obtain ⟨fr', k1, k2, k3⟩ := given_elim (its := its) (lo := lo) (hi := hi) (vv := vv) (useE its e p i it) [] (fr ++ fo) _ (hS.rep.append hfo) (fun q hq => by
              obtain ⟨x, hx, hb⟩ := hpre q (hmem q hq).1
              obtain ⟨h1, h2, h3, h4, h5⟩ := hS.f q x hx hb (hmem q hq).2
              exact ⟨x, hx, h1, h2, h3, h4, h5⟩) (List.Pairwise.imp_of_mem (fun {q r} hq hr hqr => by
                obtain ⟨x, hx, hb⟩ := hpre q (hmem q hq).1
                obtain ⟨z, hz, hb'⟩ := hpre r (hmem r hr).1
                exact hS.ap q r x z hx hz hb hb' (hmem q hq).2 (hmem r hr).2 (by omega)) huse3) (fun q hq => by cases hq) (hst2 w' hS.bel fo m' T2 (base + fuelOf T2 its))
            exact k3 (fun vs w'' hφ hb a' ha' => ih (fuelOf T2 its) (by omega) T2 a' w'' _ _ _ rfl (after fr' vs w'' none w'.heap.size w''.heap.size a' (hkeepF fr' k1 k2) ha' hφ (grown_of_below hb none) ⟨Nat.le_refl _, hb.size, Nat.le_refl _⟩ (.inl rfl))) a k1
        have hmap := inOrder_map q5
        obtain ⟨o, l', hol⟩ : ∃ o l', inOrder ops it.idx = o :: l' := by
          cases h : inOrder ops it.idx with
          | nil => rw [h] at hmap; simp [Item.idx] at hmap
          | cons o l' => exact ⟨o, l', rfl⟩
        rw [hol] at hmap
        have hmap2 : some o = ops.toArray[it.k]? ∧ l'.map some = (it.ps.map Prod.snd).map (fun k => ops.toArray[k]?) := by
          rw [Item.idx, List.map_cons, List.map_cons] at hmap
          exact List.cons.inj hmap
        obtain ⟨o1, o2⟩ := opsOf_ps (ops := ops.toArray) (l := ops.toArray.toList) (n := base + fuelOf T2 its) (T := T2) it.ps _ q6
        have hl' : l'.length = it.ps.length := by have := congrArg List.length hmap2.2; simpa using this
        have fin := hL D' A' listed o l' hol hm hmap2.1.symm (by rw [hmap2.2, o1, List.map_map]; rfl) hj (by
          rw [← hT2]
          exact chk_of_chkP (T := m') it.ps _ _ q6 (fun i hi => by rw [bit_lor] at hi ⊢; exact hi.imp (hsb i) id) (fun i hi => by
            rw [bit_lor] at hi ⊢
            rcases hi with hi | hi
            · exact .inl hi
            · exact .inr (.inr hi)) (fun p hp => by rw [hS.whole it hit p.2 (by simp only [Item.idx, List.mem_cons, List.mem_map]; exact .inr ⟨p, hp, rfl⟩)]; exact hju))
        rw [o2, hl'] at fin
        rw [show base + f' = it.ps.length + (base + fuelOf T2 its) by omega]
        exact fin
  intro a ha
  have h0 : ∀ it ∈ its, m.testBit it.k = false := fun it hit => d1 it hit it.k (by simp [Item.idx])
  exact main _ m a w (fun _ => 0) (fun _ => 0) (fun _ => []) rfl ⟨ha, Below.refl _ _, fun _ h => h, fun _ h => .inl h, fun it hit j hj => by rw [d1 it hit j hj, h0 it hit],
    fun i it hi hb => absurd hb (by rw [h0 it (nthI_mem hi)]; simp), fun i j it it' hi _ hb => absurd hb (by rw [h0 it (nthI_mem hi)]; simp)⟩
end
end Go.Proofs.Ytpjedpmbninfcaa
/-
  A range over a function whose iterator also writes variables of its own between the rounds, and hands on values that lie in memory; the assignments may lay blocks. No function of the program is named here.
-/
namespace Go.Proofs.Ytpjedpmbninfcaa
open Go.RowKit
/-- The iterator's word: Cl: what it changes between the rounds; Yd: what is known of what it hands on; Kp: what a round must keep. -/
def SeqC {α : Type} (F : Fence) (n : Nat) (P : Program) (g : Nat) (lb : Array Value) (encs : α → Array Value) (Kp Cl : World → World → Prop) (Yd : List α → α → World → Prop) (S : List α → Prop) (w : World) : Prop :=
  ∀ (l : Nat) (J : List α → World → Prop) (W : World), Below w.heap.size w W → (∀ s A B, J s A → Cl A B → J s B) →
    (∀ pre x W1, J pre W1 → Yd pre x W1 → YieldAt F (n - 1) P l (encs x) W1 fun e W' => e = .returned (.bool true) ∧ J (pre ++ [x]) W' ∧ Kp W1 W') →
    J [] W → CallsIn F n P g (#[.func (.yield l) #[] #[]] ++ lb) W fun e W' => (∃ v, e = .returned v) ∧ ∃ xs, S xs ∧ J xs W'
theorem keeps_put {w w' : World} {D : Nat} {o : Obj} {l : Nat} (h : KeepsOthers w w') (hD : w.heap[D]? = some o) (ho : o.isCells = false) : w'.heap[D]? = some o := h.same D o hD ho
/-- The statement: every round goes on to the next. -/
theorem wpIn_rangeC {P : Program} {α : Type} {n : Nat} {g : Operand} {ps : Array Tmp} {assign body : Code} {Q : Exit → Act → World → Prop} {a : Act} {w : World} (h1 : 1 ≤ n) {gf : Nat} {lb : Array Value} (hg : a.eval g = .func (.func gf) #[] lb)
    (eg : ∀ args w, (callFunc gf args).run P w = .ok (.enter gf args) w) {encs : α → Array Value} {Kp Cl : World → World → Prop} {Yd : List α → α → World → Prop} {S : List α → Prop} {w0 : World} (hseq : SeqC Fence.wide (n - 1) P gf lb encs Kp Cl Yd S w0) (hb0 : Below w0.heap.size w0 w)
    (hKt : ∀ {A B C : World}, Kp A B → Kp B C → Kp A C) (hKb : ∀ (W : World) (l : Nat) (o : Obj), w.heap.size ≤ l → Kp W (W.putObj l o)) (hCl : ∀ A B, Cl A B → KeepsOthers A B) (hps : ∀ x, (encs x).size = ps.size)
    (I : List α → World → Prop) (hI : OwnFrom w.heap.size I) (hIC : ∀ s A B, I s A → Cl A B → I s B) (hYd : ∀ pre, OwnFrom w.heap.size (Yd pre)) (h0 : I [] w) (Ax : List α → α → Act → World → Prop) (hAx : ∀ pre x a', OwnFrom w.heap.size (fun (_ : Unit) W => Ax pre x a' W))
    (hassign : ∀ (l : Nat) (pre : List α) (x : α) (W : World), w.heap.size ≤ l → I pre W → Yd pre x W → assign.wpIn (Fence.wide.inRound l) (n - 1 - 1) P (Exit.then (fun a' W' => KeepsOthers W W' ∧ Kp W W' ∧ Ax pre x a' W') (fun _ _ _ => False)) { tmps := (ps.zip (encs x)).foldl (fun t (p, v) => t.setIfInBounds p v) a.tmps, defers := [] } W)
    (hbody : ∀ (l : Nat) (pre : List α) (x : α) (a' : Act) (W : World), w.heap.size ≤ l → Ax pre x a' W → body.wpIn (Fence.wide.inRound l) (n - 1 - 1) P (fun e _ W' => e = .normal ∧ KeepsOthers W W' ∧ Kp W W' ∧ I (pre ++ [x]) W') a' W)
    (hdone : ∀ (D : Nat) (xs : List α) (W : World), w.heap.size ≤ D → S xs → I xs W → W.heap[D]? = some (.deferred (some [])) → Q .normal { a with defers := { target := .collected D, args := #[] } :: a.defers } W) :
    (Code.rangeFunc g ps assign body).wpIn Fence.wide n P Q a w := by
  refine wpIn_rangeFunc fun fn hfn => ?_
  obtain ⟨D, hD⟩ : ∃ D, w.heap.size = D := ⟨_, rfl⟩
  obtain ⟨rc, hrc⟩ : ∃ rc : LoopState → Loop, rc = fun st => { state := st, pending := none, fn, tmps := a.tmps, params := ps, assign, body, defers := D } := ⟨_, rfl⟩
  obtain ⟨W1, hW1⟩ : ∃ W1, (w.alloc (.deferred (some []))).alloc (.loop (rc .ready)) = W1 := ⟨_, rfl⟩
  have hsz : W1.heap.size = D + 2 := by rw [← hW1, ← hD]; simp
  have hl1 : W1.heap[D + 1]? = some (.loop (rc .ready)) := by
    have := World.alloc_heap_new (w.alloc (.deferred (some []))) (.loop (rc .ready))
    rw [World.size_alloc, hD, hW1] at this; exact this
  have hd1 : W1.heap[D]? = some (.deferred (some [])) := by
    rw [← hW1, ← hD]; exact (Below.heap_alloc _ _ _ (by simp)).trans (World.alloc_heap_new w _)
  have hI1 : I [] W1 := by rw [← hW1]; exact hI.alloc _ (hI.alloc _ h0)
  have hb1 : Below w0.heap.size w0 W1 := by
    rw [← hW1]; exact hb0.trans ((((Below.refl _ w).alloc (Nat.le_refl _) _).alloc (by simp) _).mono hb0.size)
  subst hD
  refine ⟨w.heap.size + 1, [{ target := .collected w.heap.size, args := #[] }], W1, { target := .fn (.func gf) lb, args := #[.func (.yield (w.heap.size + 1)) #[] #[]] }, W1, gf, #[.func (.yield (w.heap.size + 1)) #[] #[]] ++ lb, W1, ?_, ?_, ?_, ?_, fun _ => h1, ?_⟩
  · rw [← hW1, hrc]; exact run_enterLoop_outer _ _ _ _ _
  · simp only [resolve, hg]
    simp [go_sem]
  · intro f' hf'; simp [Target.leads] at hf'; subst hf'; exact trivial
  · simp [invoke, go_sem, eg]
  · refine (hseq (w.heap.size + 1) (fun pre W => I pre W ∧ W.heap[w.heap.size + 1]? = some (.loop (rc .ready)) ∧ W.heap[w.heap.size]? = some (.deferred (some []))) W1 hb1
      (fun s A B hs hc => ⟨hIC s A B hs.1 hc, (hCl A B hc).same _ _ hs.2.1 rfl, (hCl A B hc).same _ _ hs.2.2 rfl⟩) ?_ ⟨hI1, hl1, hd1⟩).mono ?_
    · rintro pre x W ⟨hi, hl, hd⟩ hy
      have hlt : w.heap.size + 1 < W.heap.size := (Array.getElem?_eq_some_iff.1 hl).1
      have hyl := run_yield (P := P) (args := encs x) hl (by rw [hrc]; exact hps x)
      rw [hrc] at hyl
      refine ⟨fn, _, assign, body, hyl, roundIn_of_wpIn hfn (wpIn_mono (hassign _ pre x W (by omega) hi hy) ?_)⟩
      rintro e a1 Wa he
      cases e with
      | normal =>
        obtain ⟨k1, k2, k3⟩ := he
        have hla := k1.same _ _ hl rfl
        have hda := k1.same _ _ hd rfl
        have hlta : w.heap.size + 1 < Wa.heap.size := (Array.getElem?_eq_some_iff.1 hla).1
        refine ⟨_, run_beginRound hla (by rw [hrc]), ?_⟩
        have hlb : (Wa.putObj (w.heap.size + 1) (.loop { rc .ready with state := .busy })).heap[w.heap.size + 1]? = some (.loop { rc .ready with state := .busy }) := World.putObj_heap_same hlta
        have hdb : (Wa.putObj (w.heap.size + 1) (.loop { rc .ready with state := .busy })).heap[w.heap.size]? = some (.deferred (some [])) := (World.putObj_heap_other (by omega)).trans hda
        refine wpIn_mono (hbody _ pre x a1 _ (by omega) ((hAx pre x a1).putObj (s := ()) _ k3 (by omega) hla rfl)) ?_
        rintro e a3 W3 ⟨rfl, j1, j2, j3⟩
        have hlc := j1.same _ _ hlb rfl
        have hdc := j1.same _ _ hdb rfl
        have hend := run_endRound (P := P) none hlc
        rw [hrc] at hend
        have e1 : ({ rc .ready with state := .busy } : Loop) = { (rc .ready) with state := .busy } := rfl
        refine ⟨_, _, hend, rfl, ⟨hI.putObj _ j3 (by omega) hlc rfl, ?_, (World.putObj_heap_other (by omega)).trans hdc⟩, hKt k2 (hKt (hKb _ _ _ (by omega)) (hKt j2 (hKb _ _ _ (by omega))))⟩
        rw [hrc]
        exact World.putObj_heap_same (Array.getElem?_eq_some_iff.1 hlc).1
      | ret => exact (he : False).elim
      | panic c => exact (he : False).elim
      | outgrown => exact (he : False).elim
      | exit id => exact (he : False).elim
      | goto t => exact (he : False).elim
    · rintro e W2 ⟨⟨v, rfl⟩, xs, hS, hi, hl, hd⟩
      refine ⟨none, W2.putObj (w.heap.size + 1) (.loop { rc .ready with state := .exhausted }), ?_, hdone _ xs _ (Nat.le_refl _) hS (hI.putObj _ hi (by omega) hl rfl) ((World.putObj_heap_other (by omega)).trans hd)⟩
      have := run_endLoop (P := P) hl (by rw [hrc]; simp)
      rw [hrc] at this
      rw [this, hrc]
section
variable {P : Program} {fn : Func} {F : Ending → World → Prop} {N n : Nat} {ks : List K} {fr : Fr} {w : World} {ops : Array Oper} {l : List Oper} {ty : TypeId} {pos : String} {aft : Array Edge} {d : Nat} {x : Operand} {gd : Option (Nat × Bool)}
theorem wli_yieldL {lp : Nat} {ts : Array TypeId} {xs : List Operand} {vs : List Value} {R : Ending → World → Prop} (hx : fr.ev x = some (.func (.yield lp) #[] #[])) (hy : fr.evs xs = some vs) (hY : YieldAt Fence.wide (n - 1) P lp vs.toArray w R)
    (hk : ∀ e w', R e w' → ∃ b, e = .returned (.bool b) ∧ WLI P fn F N n ks ops l ((d, .bool b) :: fr) w') (hg : onG ops fr gd = true := by rfl) (hd : Nat.blt d N = true := by rfl) :
    WLI P fn F N n ks ops (⟨some d, .call { callee := .value x, args := xs.toArray, argTypes := ts }, ty, pos, aft, gd⟩ :: l) fr w := fun a ha => by
  obtain ⟨f, tmps, assign, body, h1, h2⟩ := hY
  unfold wpListIn
  rw [if_pos (wanted_on (o := ⟨some d, .call { callee := .value x, args := xs.toArray, argTypes := ts }, ty, pos, aft, gd⟩) ha hg)]
  refine ⟨fun _ _ => trivial, ?_⟩
  have hsem : ∀ o : Oper, o.semAt Fence.wide.round a.eval = execOp a.eval o := fun _ => rfl
  have hargs : Array.map a.eval xs.toArray = vs.toArray := by rw [List.map_toArray, ha.evs hy]
  have hrun : (execOp a.eval ⟨some d, .call { callee := .value x, args := xs.toArray, argTypes := ts }, ty, pos, aft, gd⟩).run P w = .ok (.round lp f tmps assign body) w := by
    simp [execOp, resolve, invoke, Deferred.ofValue, ha.ev hx, hargs, h1]
  rw [hsem, hrun]
  refine ⟨fun e => (by cases e), h2.mono ?_⟩
  intro e w' he
  obtain ⟨b, rfl, hw⟩ := hk e w' he
  exact hw _ (ha.put hd _)
end
/-! Code before, in and behind such a statement. -/
theorem kp_normal {P : Program} {fn : Func} {I : Act → World → Prop} : ∀ {cs : List Code} {e : Exit} {a : Act} {w : World}, kpost P fn noEnd (cs.map K.code ++ [.inv I]) e a w → e = .normal
  | [], _, _, _, h => (kpost_inv h).1
  | c :: cs, e, a, w, h => by
    cases e with
    | normal => rfl
    | ret => exact kp_normal (cs := cs) (show kpost P fn noEnd (cs.map K.code ++ [.inv I]) .ret a w from h)
    | panic ch => exact kp_normal (cs := cs) (show kpost P fn noEnd (cs.map K.code ++ [.inv I]) (.panic ch) a w from h)
    | outgrown => exact kp_normal (cs := cs) (show kpost P fn noEnd (cs.map K.code ++ [.inv I]) .outgrown a w from h)
    | exit id => exact kp_normal (cs := cs) (show kpost P fn noEnd (cs.map K.code ++ [.inv I]) (.exit id) a w from h)
    | goto t => exact kp_normal (cs := cs) (show kpost P fn noEnd (cs.map K.code ++ [.inv I]) (.goto t) a w from h)
section
variable {P : Program} {fn : Func} {N n : Nat} {fr : Fr} {w : World} {I I1 : Act → World → Prop}
theorem seq5_of_rk {x y z v b u : Code} {Q : Exit → Act → World → Prop} {a : Act} (h : RK P fn noEnd N [.code x, .code y, .code z, .code v, .inv I] fr w) (ha : Rep N a fr) (hy : ∀ a w, I a w → b.wpIn Fence.wide n P (Exit.then (fun a w => u.wpIn Fence.wide n P Q a w) Q) a w) :
    (Code.seq x (.seq y (.seq z (.seq (.seq v b) u)))).wpIn Fence.wide n P Q a w := by
  refine wpIn_seq (wpIn_mono (wpIn_wide.2 (show x.wp P (kpost P fn noEnd [.code y, .code z, .code v, .inv I]) a w from h a ha)) (fun e a w he => ?_))
  obtain rfl := kp_normal (cs := [y, z, v]) he
  refine wpIn_seq (wpIn_mono (wpIn_wide.2 (show y.wp P (kpost P fn noEnd [.code z, .code v, .inv I]) a w from he)) (fun e a w he => ?_))
  obtain rfl := kp_normal (cs := [z, v]) he
  refine wpIn_seq (wpIn_mono (wpIn_wide.2 (show z.wp P (kpost P fn noEnd [.code v, .inv I]) a w from he)) (fun e a w he => ?_))
  obtain rfl := kp_normal (cs := [v]) he
  refine wpIn_seq (wpIn_seq (wpIn_mono (wpIn_wide.2 (show v.wp P (kpost P fn noEnd [.inv I]) a w from he)) (fun e a w he => ?_)))
  obtain ⟨rfl, hI⟩ := kpost_inv he
  exact hy a w hI
/-- In a round, one after the other. -/
theorem in_seq {r m : Nat} {x y : Code} (h : RIn P fn N I1 r m x fr w) (hy : ∀ a w, I1 a w → y.wpIn (Fence.wide.inRound r) m P (kpost P fn noEnd [.inv I]) a w) : RIn P fn N I r m (.seq x y) fr w := fun a ha =>
  wpIn_seq (wpIn_mono (h a ha) (fun e a w he => by
    obtain ⟨rfl, hI⟩ := kpost_inv he
    exact hy a w hI))
/-- The activation with one more call that was put off ahead of all others. -/
def dd (d : Deferred) (a : Act) : Act := { a with defers := a.defers ++ [d] }
theorem dd_eval (d : Deferred) (a : Act) : (dd d a).eval = a.eval := by funext x; cases x <;> rfl
theorem dd_put (d : Deferred) (a : Act) (x : Option Nat) (v : Value) : (dd d a).put x v = dd d (a.put x v) := by cases x <;> rfl
theorem dd_of {d : Deferred} {a : Act} (h : a.defers = []) : { a with defers := d :: a.defers } = dd d a := by unfold dd; rw [h]; rfl
theorem operD_of {m : Nat} {d : Deferred} {o : Oper} {a : Act} {w : World} {K K' : Act → World → Prop} {Q Q' : Exit → Act → World → Prop} (hK : ∀ a w, K a w → K' (dd d a) w) (hQ : ∀ c a w, ¬ Q (.panic c) a w) (hO : ¬ LetsOut Q) (h : o.wp P a w K Q) : o.wpIn Fence.wide m P (dd d a) w K' Q' := by
  refine ⟨fun _ _ => trivial, ?_⟩
  show o.uponIn Fence.wide m P (dd d a) K' Q' ((execOp (dd d a).eval o).run P w)
  rw [dd_eval]
  unfold Oper.wp at h
  generalize (execOp a.eval o).run P w = res at h ⊢
  match res, h with
  | .ok (.value v) w', h => show K' ((dd d a).put o.dst v) w'; rw [dd_put]; exact hK _ _ h
  | .ok .skip w', h => show K' ((dd d a).put o.dst undef) w'; rw [dd_put]; exact hK _ _ h
  | .ok (.defer q) w', h =>
    have h' : K ({ a with defers := q :: a.defers }.put o.dst undef) w' := h
    show K' ({ dd d a with defers := q :: (dd d a).defers }.put o.dst undef) w'
    have e : ({ dd d a with defers := q :: (dd d a).defers } : Act) = dd d { a with defers := q :: a.defers } := rfl
    rw [e, dd_put]; exact hK _ _ h'
  | .ok (.enter f args) w', h =>
    refine ⟨fun e => (by cases e), (callsIn_wide.2 (Calls.mono h ?_))⟩
    intro e w'' he
    cases e with
    | returned v => show K' ((dd d a).put o.dst v) w''; rw [dd_put]; exact hK _ _ he
    | panicked c => exact (hQ _ _ _ he).elim
    | outgrown => exact (hO he).elim
  | .ok (.row row args) w', h =>
    refine ⟨fun e => (by cases e), ?_⟩
    have h' : Rows P row args w' fun v w'' => K (a.put o.dst v) w'' := h
    exact fun c cs hr => by
      obtain ⟨v, w'', hR, hs⟩ := h' c cs
      exact ⟨v, w'', (by show K' ((dd d a).put o.dst v) w''; rw [dd_put]; exact hK _ _ hR), (stepsIn_wide (P := P)).2 hs⟩
  | .halt (.panic v) w', h => exact (hQ _ _ _ h).elim
theorem wpAnyD_of {m : Nat} {d : Deferred} {ops : Array Oper} {Q Q' : Exit → Act → World → Prop} (hN : ∀ a w, Q .normal a w → Q' .normal (dd d a) w) (hQ : ∀ c a w, ¬ Q (.panic c) a w) (hout : ¬ LetsOut Q) : ∀ (fuel : Nat) (listed : Array Bool) (a : Act) (w : World), wpAny P .any ops Q fuel listed a w → wpAnyIn Fence.wide m P .any ops Q' fuel listed (dd d a) w
  | 0, _, _, _, h => ⟨h.1, hN _ _ h.2⟩
  | fuel + 1, listed, a, w, h => ⟨fun hr => hN _ _ (h.1 hr), fun i hi => by
    have h2 := h.2 i hi
    unfold wpOp at h2
    unfold wpOpIn
    cases ho : ops[i]? with
    | none =>
      rw [ho] at h2
      exact wpAnyD_of hN hQ hout fuel _ a w h2
    | some o =>
      rw [ho] at h2
      dsimp only at h2 ⊢
      by_cases hw : Region.wanted o (yielded ops a.tmps) = true
      · rw [if_pos hw] at h2
        rw [if_pos (show Region.wanted o (yielded ops (dd d a).tmps) = true from hw)]
        rcases h2 with h2 | h2
        · exact operD_of (fun a w h => wpAnyD_of hN hQ hout fuel _ a w h) hQ hout h2
        · exact absurd h2.2 hout
      · rw [if_neg hw] at h2
        rw [if_neg (show ¬ Region.wanted o (yielded ops (dd d a).tmps) = true from hw), dd_put]
        exact ⟨fun _ _ => trivial, wpAnyD_of hN hQ hout fuel _ _ _ h2⟩⟩
theorem wpListD_of {m : Nat} {d : Deferred} {ops : Array Oper} {Q Q' : Exit → Act → World → Prop} (hN : ∀ a w, Q .normal a w → Q' .normal (dd d a) w) (hQ : ∀ c a w, ¬ Q (.panic c) a w) (hout : ¬ LetsOut Q) : ∀ (l : List Oper) (a : Act) (w : World), wpList P ops Q l a w → wpListIn Fence.wide m P ops Q' l (dd d a) w
  | [], _, _, h => hN _ _ h
  | o :: l, a, w, h => by
    unfold wpList at h
    unfold wpListIn
    by_cases hw : Region.wanted o (yielded ops a.tmps) = true
    · rw [if_pos hw] at h
      rw [if_pos (show Region.wanted o (yielded ops (dd d a).tmps) = true from hw)]
      rcases h with h | h
      · exact operD_of (fun a w h => wpListD_of hN hQ hout l a w h) hQ hout h
      · exact absurd h.2 hout
    · rw [if_neg hw] at h
      rw [if_neg (show ¬ Region.wanted o (yielded ops (dd d a).tmps) = true from hw), dd_put]
      exact ⟨fun _ _ => trivial, wpListD_of hN hQ hout l _ _ h⟩
/-- Code behind such a statement, that ends where I holds. -/
def RInD (P : Program) (fn : Func) (N : Nat) (I : Act → World → Prop) (d : Deferred) (m : Nat) (c : Code) (fr : Fr) (w : World) : Prop := ∀ a, Rep N a fr → c.wpIn Fence.wide m P (fun e a' w' => ∃ a2, e = .normal ∧ a' = dd d a2 ∧ I a2 w') (dd d a) w
theorem noPanic (c : List PanicEntry) (a : Act) (w : World) : ¬ kpost P fn noEnd [.inv I] (.panic c) a w := fun h => by have := (kpost_inv h).1; cases this
theorem ind_at {m id : Nat} {d : Deferred} {l l' : List Oper} (row : Rw) (D A : List Nat) (L C : Nat) (ts : List (Tag × Nat)) (hm : P.follows .mixedOrders = true) (hD : l.map (dmask .any) = D) (hA : ancs .any l [] = A)
    (hc : (Region.noSelect l.toArray && (Nat.beq (l'.length + extra ts) l.length && chk l.toArray l D A L C ts 0)) = true) (hl : l'.map some = opsOf l.toArray ts)
    (h : WL P fn noEnd N [.inv I] l.toArray (some (row, ts)) l' fr w.drew) : RInD P fn N I d m (.region id l.toArray true) fr w := fun a ha => by
  simp only [Bool.and_eq_true] at hc
  obtain ⟨h1, h2, h3⟩ := hc
  refine wpIn_region_any hm (wpAnyD_of (Q := kpost P fn noEnd [.inv I]) (fun a w h => ⟨a, rfl, rfl, (kpost_inv h).2⟩) noPanic noOut _ _ _ _ (wpAny_of_mix (loud := Nat.testBit L) (calm := Nat.testBit C) (row := row) _ _ _ _ ?_))
  have hno : ∀ j, (Array.replicate l.length false).getD j false = false := fun j => by
    rcases Nat.lt_or_ge j l.length with h' | h'
    · simp [h']
    · simp [h']
  have := left_elim (h a ha) (listed := Array.replicate l.length false) (m := 0) ⟨by simp, fun j => by rw [hno j]; simp, hD.symm, hA.symm, h1, fun j oj hj hl => by rw [hno j] at hl; cases hl⟩ hl h3
  rw [Nat.eq_of_beq_eq_true h2] at this
  simpa using this
theorem ind_draw {m id : Nat} {d : Deferred} {l : List Oper} (row : Option Nat) (D A : List Nat) (L C : Nat) (ts : List (Tag × Nat)) (hm : P.follows .mixedOrders = true) (hD : l.map (dmask .any) = D) (hA : ancs .any l [] = A)
    (hc : (Region.noSelect l.toArray && (Nat.beq (l.length + extra ts) l.length && chk l.toArray l D A L C ts 0)) = true) (hl : l.map some = opsOf l.toArray ts) (h : WL P fn noEnd N [.inv I] l.toArray (some ((row, none), ts)) l fr w.drew) :
    RInD P fn N I d m (.region id l.toArray true) fr w := ind_at (row, none) D A L C ts hm hD hA hc hl h
theorem ind_drawo {m id : Nat} {d : Deferred} {l : List Oper} (row : Option Nat) (D A : List Nat) (L C : Nat) (ord : List Nat) (ts : List (Tag × Nat)) (hm : P.follows .mixedOrders = true) (hD : l.map (dmask .any) = D) (hA : ancs .any l [] = A)
    (hc : (Region.noSelect l.toArray && (Nat.beq ((inOrder l ord).length + extra ts) l.length && chk l.toArray l D A L C ts 0)) = true) (hl : (inOrder l ord).map some = opsOf l.toArray ts) (h : WL P fn noEnd N [.inv I] l.toArray (some ((row, none), ts)) (inOrder l ord) fr w.drew) :
    RInD P fn N I d m (.region id l.toArray true) fr w := ind_at (row, none) D A L C ts hm hD hA hc hl h
theorem ind_plain {m id : Nat} {d : Deferred} {l : List Oper} (h : WL P fn noEnd N [.inv I] l.toArray none l fr w) : RInD P fn N I d m (.region id l.toArray false) fr w := fun a ha =>
  wpIn_region_lit (wpListD_of (Q := kpost P fn noEnd [.inv I]) (fun a w h => ⟨a, rfl, rfl, (kpost_inv h).2⟩) noPanic noOut l a w (h a ha))
end
end Go.Proofs.Ytpjedpmbninfcaa
/-
  Walks of package record: records that can be read one after the other.
-/
namespace Go.Proofs.Ytpjedpmbninfcaa
open Go.RowKit
theorem list32 {c : By} (h : c.length = 32) : ∃ a0 a1 a2 a3 a4 a5 a6 a7 a8 a9 b0 b1 b2 b3 b4 b5 b6 b7 b8 b9 c0 c1 c2 c3 c4 c5 c6 c7 c8 c9 d0 d1, c = [a0, a1, a2, a3, a4, a5, a6, a7, a8, a9, b0, b1, b2, b3, b4, b5, b6, b7, b8, b9, c0, c1, c2, c3, c4, c5, c6, c7, c8, c9, d0, d1] := by
  have step : ∀ {n : Nat} {l : By}, l.length = n + 1 → ∃ a r, l = a :: r ∧ r.length = n := fun {n l} h => by
    cases l with
    | nil => simp at h
    | cons a r => exact ⟨a, r, rfl, by simpa using h⟩
  obtain ⟨a0, r0, e0, h0⟩ := step h
  obtain ⟨a1, r1, e1, h1⟩ := step h0
  obtain ⟨a2, r2, e2, h2⟩ := step h1
  obtain ⟨a3, r3, e3, h3⟩ := step h2
  obtain ⟨a4, r4, e4, h4⟩ := step h3
  obtain ⟨a5, r5, e5, h5⟩ := step h4
  obtain ⟨a6, r6, e6, h6⟩ := step h5
  obtain ⟨a7, r7, e7, h7⟩ := step h6
  obtain ⟨a8, r8, e8, h8⟩ := step h7
  obtain ⟨a9, r9, e9, h9⟩ := step h8
  obtain ⟨b0, r10, e10, h10⟩ := step h9
  obtain ⟨b1, r11, e11, h11⟩ := step h10
  obtain ⟨b2, r12, e12, h12⟩ := step h11
  obtain ⟨b3, r13, e13, h13⟩ := step h12
  obtain ⟨b4, r14, e14, h14⟩ := step h13
  obtain ⟨b5, r15, e15, h15⟩ := step h14
  obtain ⟨b6, r16, e16, h16⟩ := step h15
  obtain ⟨b7, r17, e17, h17⟩ := step h16
  obtain ⟨b8, r18, e18, h18⟩ := step h17
  obtain ⟨b9, r19, e19, h19⟩ := step h18
  obtain ⟨c0, r20, e20, h20⟩ := step h19
  obtain ⟨c1, r21, e21, h21⟩ := step h20
  obtain ⟨c2, r22, e22, h22⟩ := step h21
  obtain ⟨c3, r23, e23, h23⟩ := step h22
  obtain ⟨c4, r24, e24, h24⟩ := step h23
  obtain ⟨c5, r25, e25, h25⟩ := step h24
  obtain ⟨c6, r26, e26, h26⟩ := step h25
  obtain ⟨c7, r27, e27, h27⟩ := step h26
  obtain ⟨c8, r28, e28, h28⟩ := step h27
  obtain ⟨c9, r29, e29, h29⟩ := step h28
  obtain ⟨d0, r30, e30, h30⟩ := step h29
  obtain ⟨d1, r31, e31, h31⟩ := step h30
  obtain rfl := List.length_eq_zero_iff.1 h31
  subst e31
  subst e30
  subst e29
  subst e28
  subst e27
  subst e26
  subst e25
  subst e24
  subst e23
  subst e22
  subst e21
  subst e20
  subst e19
  subst e18
  subst e17
  subst e16
  subst e15
  subst e14
  subst e13
  subst e12
  subst e11
  subst e10
  subst e9
  subst e8
  subst e7
  subst e6
  subst e5
  subst e4
  subst e3
  subst e2
  subst e1
  subst e0
  exact ⟨_, _, _, _, _, _, _, _, _, _, _, _, _, _, _, _, _, _, _, _, _, _, _, _, _, _, _, _, _, _, _, _, rfl⟩
/-- A mark's cells. -/
def cMark (n : Int) (c : By) : List Value := .int .i64 n :: B8 c
theorem cMark_len {n : Int} {c : By} (h : c.length = 32) : (cMark n c).length = 33 := by simp [cMark, B8_length, h]
theorem Try.build_mark {c : By} (h : c.length = 32) (n : Int) (w : World) : (Instr.build 59 ([0, 1].zip [Value.int .i64 n, Value.agg (B8 c).toArray]).toArray).run Try.prog w = .ok (.agg (cMark n c).toArray) w := by
  obtain ⟨a0, a1, a2, a3, a4, a5, a6, a7, a8, a9, b0, b1, b2, b3, b4, b5, b6, b7, b8, b9, c0, c1, c2, c3, c4, c5, c6, c7, c8, c9, d0, d1, rfl⟩ := list32 h
  kernel_rfl
section
variable {N : Nat} {fr : Fr} {w : World} {ty : TypeId} {x y : Operand} {n : Int} {c : By}
--@ rule! build p o_buildMark
theorem o_buildMark (hx : fr.ev x = some (.int .i64 n)) (hy : fr.ev y = some (.agg (B8 c).toArray)) (hc : c.length = 32) : OpV Try.prog N fr w (.build 59 #[(0, x), (1, y)]) ty (.agg (cMark n c).toArray) w :=
  o_build (is := [0, 1]) (xs := [x, y]) (vs := [.int .i64 n, .agg (B8 c).toArray]) (by simp [Fr.evs, hx, hy]) (Try.build_mark hc n)
end
/-- What each hands on: a record, where its Data lies, the mark. -/
abbrev Ev := Rc × (Option Addr × Nat) × (Nat × By)
def encE (x : Ev) : Array Value := #[.agg #[.int .u8 (x.1.1.toNat : Int), .slice x.2.1.1 x.1.2.length x.2.1.2], .agg (cMark x.2.2.1 x.2.2.2).toArray]
def ydE (pre : List Ev) (x : Ev) (w : World) : Prop := RdT w x.2.1.1 x.1.2 ∧ x.1.2.length ≤ x.2.1.2 ∧ x.2.1.2 ≤ maxLen ∧ x.2.2.2.length = 32 ∧ pre.length ≤ 400000
theorem bytesAll_ge : ∀ (d : By) (l : List Rc), l.length ≤ (bytesAll d l).length
  | _, [] => Nat.zero_le _
  | d, r :: l => by
    have := bytesAll_ge (nextB d r) l
    rw [bytesAll, List.length_append, bytesR_len, List.length_cons]; omega
/-- The last mark. -/
def lastE (c : By) (l : List Ev) : Nat × By := ((l.getLast?).map fun x => x.2.2).getD (0, c)
theorem lastE_snoc (c : By) (l : List Ev) (x : Ev) : lastE c (l ++ [x]) = x.2.2 := by simp [lastE]
/-- What lies below B is still there, but for the blocks X. -/
structure KeepX (B : Nat) (X : Nat → Prop) (w w' : World) : Prop where
  os : w'.os = w.os
  tape : w'.tape = w.tape
  output : w'.output = w.output
  size : w.heap.size ≤ w'.heap.size
  block : ∀ k, k < B → ¬ X k → w'.heap[k]? = w.heap[k]?
theorem KeepX.of {w w' : World} {B : Nat} {X : Nat → Prop} (h : Below B w w') : KeepX B X w w' := ⟨h.os, h.tape, h.output, h.size, fun k hk _ => h.block k hk⟩
theorem KeepX.trans {B : Nat} {X : Nat → Prop} {a b c : World} (h : KeepX B X a b) (k : KeepX B X b c) : KeepX B X a c := ⟨k.os.trans h.os, k.tape.trans h.tape, k.output.trans h.output, Nat.le_trans h.size k.size, fun i hi hn => (k.block i hi hn).trans (h.block i hi hn)⟩
theorem KeepX.grown {B : Nat} {X : Nat → Prop} {w w' : World} {row : Option Nat} (h : w.grownBy w' row) (hB : B ≤ w.heap.size) (hr : ∀ k, row = some k → X k) : KeepX B X w w' := ⟨h.os, h.tape, h.output, h.size, fun k hk hx => h.block k (by omega) (fun e => hx (hr k e.symm))⟩
theorem KeepX.blk {w w' : World} {X : Nat → Prop} {i : Nat} {t : TypeId} {cs : List Value} (h : KeepX w.heap.size X w w') (hB : Blk w i t cs) (hne : ¬ X i) : Blk w' i t cs := (h.block i hB.lt hne).trans hB
theorem KeepX.rd {w w' : World} {X : Nat → Prop} {A : Option Addr} {l : By} (h : KeepX w.heap.size X w w') (hR : Rd w A l) (hne : ∀ k, l ≠ [] → Go.Proofs.Ytpjedpmbninfcaa.blk A = some k → ¬ X k) : Rd w' A l := by
  by_cases hl : l = []
  · subst hl; exact ⟨hR.1, fun h => absurd rfl h⟩
  · obtain ⟨b, o, rfl, hc⟩ := hR.2 (fun e => hl (by cases l with | nil => rfl | cons x y => cases e))
    refine ⟨hR.1, fun _ => ⟨b, o, rfl, fun j u hj => ?_⟩⟩
    have h1 := hc j u hj
    have hlt : b < w.heap.size := block_lt_of_cell h1
    rw [← h1]
    show World.cell? w' _ = World.cell? w _
    unfold World.cell?
    rw [show w'.heap[b]? = w.heap[b]? from h.block b hlt (hne b hl rfl)]
theorem each_seq {A : Option Addr} {b c : By} {cap g h : Nat} (w : World) (hg : Blk w g 23 (B8 c)) (hh : Blk w h 26 [.slice A b.length cap]) (hb : Rd w A b) (hcap : b.length ≤ cap) (hc : c.length = 32) (hl : b.length ≤ 400000) (hgh : h ≠ g) {X : Nat → Prop} (hXg : ¬ X g) (hXh : ¬ X h) (hgb : ∀ k, b ≠ [] → blk A = some k → k ≠ g ∧ ¬ X k) :
    SeqC Fence.wide 2 Try.prog 42 #[.pointer (some ⟨g, 0, none⟩), .pointer (some ⟨h, 0, none⟩)] encE (KeepX w.heap.size X) (fun W W' => Grew W W' 23 (some g)) ydE
      (fun xs => AllP c b (xs.map Prod.fst) ∧ lastE c xs = ((bytesAll c (xs.map Prod.fst)).length, chainAll c (xs.map Prod.fst))) w := fun l J W hbW hJ hY h0 => by
  have main : CallsR Try.prog 42 [.func (.yield l) #[] #[], .pointer (some ⟨g, 0, none⟩), .pointer (some ⟨h, 0, none⟩)] W fun _ w' => ∃ xs, (AllP c b (xs.map Prod.fst) ∧ lastE c xs = ((bytesAll c (xs.map Prod.fst)).length, chainAll c (xs.map Prod.fst))) ∧ J xs w' := by
    have hglt := hg.lt
    have hhlt := hh.lt
    have hsW := hbW.size
    refine callsR Try.func42 rfl rfl (by kernel_rfl) rfl ?_
    have hw := hbW
    have fg := hg.under hbW
    have fh := hh.under hbW
    have fb := hb.below hbW
    refine rk_seq ?_
    refine rk_region ?_
    refine wl_p (fun _ => o_assign rfl) ?_
    refine wl_nil ?_
    refine rk_block ?_
    refine rk_loopf (fun fb m fr w2 => ∃ (xs : List Ev) (l1 : List Rc) (at0 : Nat) (v : Int) (ch : By), fr = [(4, .int .i64 v)] ++ fb.drop 1 ∧ v = at0 ∧ l1 = xs.map Prod.fst ∧ at0 = (bytesAll c l1).length ∧ ch = chainAll c l1 ∧ lastE c xs = (at0, ch) ∧ b = bytesAll c l1 ++ b.drop at0 ∧ (∀ r ∈ l1, OkR r) ∧ m = b.length - at0 ∧ J xs w2 ∧ Blk w2 g 23 (B8 ch) ∧ W.heap.size ≤ w2.heap.size ∧ KeepX w.heap.size (fun k => k = g ∨ X k) w w2) (n := b.length) (Fr.le_of (by kernel_rfl) (by kernel_rfl) (by repeat' constructor)) ⟨[], [], 0, _, c, rfl, rfl, rfl, rfl, rfl, rfl, rfl, by simp, by simp, h0, fg, Nat.le_refl _, KeepX.of hbW⟩ ?_
    clear hw fg fh fb h0
    rintro m fr w2 ⟨xs, l1, at0, v, ch, rfl, rfl, hl1, hat, hch, hlast, hbq, hok, rfl, hJx, fg, hsz, hkg⟩
    first | refine rk_frame (by simp only [List.cons_append, List.nil_append, List.drop_succ_cons, List.drop_zero]; rfl) ?_ | refine wl_frame (by simp only [List.cons_append, List.nil_append, List.drop_succ_cons, List.drop_zero]; rfl) ?_
    have fh := hkg.blk hh (fun e => e.elim hgh hXh)
    have fr0 := hkg.rd hb (fun k h1 h2 e => e.elim (hgb k h1 h2).1 (hgb k h1 h2).2)
    have hatb : at0 ≤ b.length := by rw [hbq, List.length_append]; omega
    have hchl : ch.length = 32 := by rw [hch]; exact chainAll_len hc l1
    obtain ⟨bq, hbq2⟩ : ∃ q, b.drop at0 = q := ⟨_, rfl⟩
    obtain ⟨⟨⟨k, p⟩, z, x, e⟩, hR⟩ : ∃ s, readR ch bq = s := ⟨_, rfl⟩
    have hw := Below.refl w2.heap.size w2
    refine rk_block ?_
    refine rk_seq ?_
    refine rk_drawo (id := 1) (none) [0, 0, 0, 6, 9, 16, 32, 32, 32, 32, 0, 0, 3199, 7423, 15871, 32767] [0, 0, 0, 6, 15, 31, 63, 63, 63, 63, 0, 0, 3199, 7423, 15871, 32767] 23568 3072 [0, 1, 2, 3] [(.s, 0), (.s, 1), (.p, 2), (.p, 3), (.f 15 23568 3072, 12)] (by kernel_rfl) (by kernel_rfl) (by kernel_rfl) (by kernel_rfl) (by kernel_rfl) ?_
    dsimp only [inOrder, nthOp]
    replace hw := hw.drew
    refine wl_s (fun _ hk => (o_ldBa Try.isAgg23 Try.sizeOf23 rfl ((fg.u hw).u (below_of_grown_none hk)) hchl)) ?_
    refine wl_s (fun _ hk => (o_loadbg Try.isAgg26 rfl ((fh.u hw).u (below_of_grown_none hk)) (by rfl))) ?_
    refine wl_p (fun _ => o_move rfl) ?_
    refine wl_slBl Try.u8 (at0) rfl rfl (fr0.u hw) rfl rfl (by omega) (by omega) ?_
    rintro A13 c13 f13 i13 i13_1
    rw [hbq2] at f13
    have hqb : bq.length + at0 = b.length := by rw [← hbq2, List.length_drop]; omega
    have hql : b.length - at0 = bq.length := by rw [← hbq2, List.length_drop]
    rw [hql] at *
    have hx32 : x.length = 32 := by
      rcases readR_e ch bq with h | ⟨h, _⟩
      · rw [hR] at h
        simp only at h
        subst h
        obtain ⟨_, _, h3, _⟩ := readR_back hR
        rw [h3]; exact nextB_len _ _
      · rw [hR] at h
        simp only [Prod.mk.injEq] at h
        rw [h.2.2.1]; rfl
    refine wl_conc [⟨4, [(.p, 5), (.p, 6), (.p, 7), (.p, 8), (.p, 9)], [18, 17, 16, 15, 9, 14], [], fun vs w' lo hi => ∃ (A14 : Option Addr) (c14 : Nat) (u9 u14 : Value), vs = [.int .i64 (e : Int), .agg (B8 x).toArray, .int .i64 (z : Int), .agg #[.int .u8 (k.toNat : Int), .slice A14 p.length c14], u9, u14] ∧ OwnH w' lo hi A14 c14 p⟩, ⟨10, [], [5], [], fun vs w' lo hi => ∃ (g5 : Nat), vs = [.pointer (some ⟨g5, 0, none⟩)] ∧ Blk w' g5 31 [.int .u8 0, .slice none 0 0] ∧ lo ≤ g5 ∧ g5 < hi⟩, ⟨11, [], [7], [], fun vs w' lo hi => ∃ (g7 : Nat), vs = [.pointer (some ⟨g7, 0, none⟩)] ∧ Blk w' g7 23 (B8 nul32) ∧ lo ≤ g7 ∧ g7 < hi⟩] [0, 1, 2] [0, 0, 0, 6, 9, 16, 32, 32, 32, 32, 0, 0, 3199, 7423, 15871, 32767] [0, 0, 0, 6, 15, 31, 63, 63, 63, 63, 0, 0, 3199, 7423, 15871, 32767] [12, 13, 14, 15] [(.l, 12), (.p, 13), (.l, 14), (.p, 15)] (by kernel_rfl) (by kernel_rfl) (by kernel_rfl) (by kernel_rfl) ⟨fun _ _ _ _ _ h hb => by obtain ⟨A14, c14, u9, u14, e0, g0⟩ := h; exact ⟨A14, c14, u9, u14, e0, g0.u hb⟩, fun _ _ _ _ _ h hb => by obtain ⟨g5, e0, g0, g1, g2⟩ := h; exact ⟨g5, e0, g0.u hb, g1, g2⟩, fun _ _ _ _ _ h hb => by obtain ⟨g7, e0, g0, g1, g2⟩ := h; exact ⟨g7, e0, g0.u hb, g1, g2⟩, trivial⟩ ⟨?_, ?_, ?_, trivial⟩ ?_
    · intro wI hbI fo T T2 n2
      intro hk
      dsimp only [Item.idx, inOrder, nthOp, List.map, List.zip_cons_cons, List.zip_nil_right, List.cons_append, List.nil_append]
      have shbI := hbI.size
      simp only [drew_size] at shbI
      replace hw := hw.trans (hbI.mono hw.size)
      replace f13 := f13.u hbI
      have hw1 := Below.refl wI.heap.size wI
      refine wl_call rfl (C_RecReadN _ hR f13 rfl (by omega) hchl (by omega)) ?_
      rintro v14 w14 ⟨A14, ⟨c14, ⟨rfl, ⟨f14, b14⟩⟩⟩⟩
      dsimp only at f14
      dsimp only
      have qf14 := f14.cap
      have s14 := b14.size
      replace hw := hw.trans (b14.mono hw.size)
      replace hw1 := hw1.trans (b14.mono hw1.size)
      replace f13 := f13.u b14
      refine wl_p (fun _ => o_move rfl) ?_
      refine wl_p (fun _ => o_ext40 rfl) ?_
      refine wl_p (fun _ => o_ext41 rfl) ?_
      refine wl_p (fun _ => o_ext42 rfl) ?_
      refine wl_p (fun _ => o_ext43 rfl) ?_
      exact hk [_, _, _, _, _, _] _ ⟨_, _, _, _, rfl, f14⟩ hw1
    · intro wI hbI fo T T2 n2
      intro hk
      dsimp only [Item.idx, inOrder, nthOp, List.map, List.zip_cons_cons, List.zip_nil_right, List.cons_append, List.nil_append]
      have shbI := hbI.size
      simp only [drew_size] at shbI
      replace hw := hw.trans (hbI.mono hw.size)
      replace f13 := f13.u hbI
      have hw1 := Below.refl wI.heap.size wI
      refine wl_allocg [_, _] Try.zeroValue31 (by rfl) ?_
      rintro g5 w5 f5 b5 i5 i5_1
      have s5 := b5.size
      replace hw := hw.trans (b5.mono hw.size)
      replace hw1 := hw1.trans (b5.mono hw1.size)
      replace f13 := f13.u b5
      exact hk [_] _ ⟨_, rfl, f5, by omega, by omega⟩ hw1
    · intro wI hbI fo T T2 n2
      intro hk
      dsimp only [Item.idx, inOrder, nthOp, List.map, List.zip_cons_cons, List.zip_nil_right, List.cons_append, List.nil_append]
      have shbI := hbI.size
      simp only [drew_size] at shbI
      replace hw := hw.trans (hbI.mono hw.size)
      replace f13 := f13.u hbI
      have hw1 := Below.refl wI.heap.size wI
      refine wl_allocB Try.underlying23 Try.zeroValue23 (by rfl) ?_
      rintro g7 w7 f7 b7 i7 i7_1
      have s7 := b7.size
      replace hw := hw.trans (b7.mono hw.size)
      replace hw1 := hw1.trans (b7.mono hw1.size)
      replace f13 := f13.u b7
      exact hk [_] _ ⟨_, rfl, f7, by omega, by omega⟩ hw1
    intro wE hbE
    rintro _ lo0 hi0 ⟨A14, c14, u9, u14, rfl, f14⟩ ql0 qm0 qh0 -
    rintro _ lo1 hi1 ⟨g5, rfl, f5, f5_1, f5_2⟩ ql1 qm1 qh1 ⟨qa1_0, -⟩
    rintro _ lo2 hi2 ⟨g7, rfl, f7, f7_1, f7_2⟩ ql2 qm2 qh2 ⟨qa2_1, qa2_0, -⟩
    try dsimp only at ql0 qm0 qh0  ql1 qm1 qh1 qa1_0 ql2 qm2 qh2 qa2_0 qa2_1
    try simp only [drew_size] at ql0 qm0 qh0  ql1 qm1 qh1 qa1_0 ql2 qm2 qh2 qa2_0 qa2_1
    dsimp only [given, Item.idx, inOrder, nthOp, List.map, List.zip_cons_cons, List.zip_nil_right]
    have shbE := hbE.size
    simp only [drew_size] at shbE
    replace hw := hw.trans (hbE.mono hw.size)
    replace f13 := f13.u hbE
    refine wl_storega Try.sizeOf31 rfl rfl (by rfl) (oneCell_of (by rfl)) f5 (by rfl) ?_
    rintro w_1 f g_1 e_1
    have s := g_1.size
    replace hw := hw.trans (below_of_grownBy g_1.g hw.size (by omega))
    replace f7 := f7.k g_1.g (ap_some (by omega))
    replace f14 := f14.k g_1.g (ap_some (by omega))
    clear f13
    clear f5
    refine wl_p (fun _ => o_assign rfl) ?_
    refine wl_stBa Try.sizeOf23 rfl f7 rfl hx32 (by rfl) ?_
    rintro w_2 f_1 g_2 e_2
    have s_1 := g_2.size
    replace hw := hw.trans (below_of_grownBy g_2.g hw.size (by omega))
    replace f14 := f14.k g_2.g (ap_some (by omega))
    replace f := f.k g_2.g (ap_some (by omega))
    clear f7
    refine wl_p (fun _ => o_assign rfl) ?_
    refine wl_nild ?_
    refine rk_seq ?_
    refine rk_seq ?_
    refine rk_region ?_
    refine wl_p (fun _ => o_move rfl) ?_
    refine wl_p (fun _ => o_ne rfl rfl) ?_
    refine wl_nil ?_
    have hglt2 := fg.lt
    have fgE := fg.u hw
    have hJE : J xs w_2 := hJ _ _ _ hJx ⟨grown_of_below hw _, fun k hk => by injection hk with hk; subst hk; exact fg.at_⟩
    refine rk_if rfl (fun h20 => ?_) (fun h20 => ?_)
    · skip
      refine ret0 rfl ?_
      exact ⟨xs, ⟨⟨bq, by rw [← hl1, ← hbq2]; exact hbq, by rw [← hl1]; exact hok, by rw [← hl1, ← hch, hR]; simp only; omega⟩, by rw [← hl1, hlast, hat, hch]⟩, hJE⟩
    · obtain rfl : e = 0 := by omega
      obtain ⟨hO, hz, hxn, q, hq⟩ := readR_back hR
      have hzq : z ≤ bq.length := by rw [hq, List.length_append]; omega
      have kw := hw
      refine rk_skip ?_
      refine rk_seq ?_
      refine rk_region ?_
      refine wl_p (fun _ => o_move rfl) ?_
      refine wl_p (fun _ => o_move rfl) ?_
      refine wl_p (fun _ => o_add rfl rfl (by omega) (by omega)) ?_
      refine wl_p (fun _ => o_assign rfl) ?_
      refine wl_nil ?_
      refine rk_seq ?_
      refine rk_region ?_
      refine wl_r (o_ldBa Try.isAgg23 Try.sizeOf23 rfl f_1 hx32) ?_
      refine wl_stBa Try.sizeOf23 rfl fgE rfl hx32 hchl ?_
      rintro w_3 f_2 g_3 e
      have s_2 := g_3.size
      replace f := f.k g_3.g (ap_some (by omega))
      replace f14 := f14.k g_3.g (ap_some (by omega))
      replace f_1 := f_1.k g_3.g (ap_some (by omega))
      clear fgE
      refine wl_nil ?_
      have hG : Grew w_2 w_3 23 (some g) := by assumption
      have hG2 : Grew w2 w_3 23 (some g) := ⟨grownBy_step (grown_of_below kw _) hG.g, fun k hk => by injection hk with hk; subst hk; exact fg.at_⟩
      have hJ3 : J xs w_3 := hJ _ _ _ hJx hG2
      have hsz3 := hG2.size
      have hcp := f14.cap
      have hyd : ydE xs ((k, p), (A14, c14), (at0 + z, x)) w_3 := ⟨f14.to_RdT, hcp, own_max f14, hx32, by
        have h1 := bytesAll_ge c l1
        rw [← hat, hl1, List.length_map] at h1; omega⟩
      refine rk_seq ?_
      refine rk_regionI 2 ?_
      refine wli_p (o_move rfl) ?_
      refine wli_p (o_loadag Try.isAgg31 Try.sizeOf31 rfl f rfl) ?_
      refine wli_p (o_move rfl) ?_
      refine wli_p (o_loadag Try.isAgg23 Try.sizeOf23 rfl f_2 (by rw [B8_length, hx32])) ?_
      refine wli_p (o_buildMark rfl rfl hx32) ?_
      refine wli_yieldL (xs := [.tmp 26, .tmp 29]) rfl rfl (hY xs ((k, p), (A14, c14), (at0 + z, x)) _ hJ3 hyd) (fun e w3 he => ?_)
      obtain ⟨rfl, hJ4, hkp⟩ := he
      refine ⟨true, rfl, ?_⟩
      refine wli_p (o_not rfl) ?_
      refine wli_nil ?_
      have hsk := hkp.size
      have fg3 : Blk w3 g 23 (B8 x) := (hkp.block g (by omega) hXg).trans f_2
      have hkg3 : KeepX w.heap.size (fun k => k = g ∨ X k) w w3 := hkg.trans ((KeepX.grown hG2.g hkg.size (fun k e => by injection e with e; exact .inl e.symm)).trans ⟨hkp.os, hkp.tape, hkp.output, hkp.size, fun k hk hx => hkp.block k hk (fun e => hx (.inr e))⟩)
      clear f f_1 f_2 f14 hw
      refine rk_false rfl ?_
      refine rk_skip ?_
      refine rk_blk ?_
      have e1 : bytesAll c (l1 ++ [(k, p)]) = bytesAll c l1 ++ bytesR ch (k, p) := by rw [bytesAll_append, ← hch]; simp [bytesAll]
      have e2 : chainAll c (l1 ++ [(k, p)]) = x := by rw [chainAll_append, ← hch, hxn]; rfl
      have e3 : b.drop (at0 + z) = q := by rw [← List.drop_drop, hbq2, hq, hz, List.drop_left]
      have hz0 : 0 < z := by rw [hz, bytesR_len]; omega
      exact rk_againf (Fr.le_of (by kernel_rfl) (by kernel_rfl) (by repeat' constructor)) ⟨xs ++ [((k, p), (A14, c14), (at0 + z, x))], l1 ++ [(k, p)], at0 + z, (at0 : Int) + (z : Int), x, rfl, by omega, by rw [hl1]; simp, by rw [e1, List.length_append, ← hat, ← hz], e2.symm, lastE_snoc _ _ _, by rw [e1, e3, List.append_assoc, ← hq, ← hbq2]; exact hbq, fun r hr => by
        rcases List.mem_append.1 hr with h | h
        · exact hok r h
        · rw [List.mem_singleton] at h; subst h; exact hO, rfl, hJ4, fg3, by omega, hkg3⟩ (by omega)
  refine callsIn_wide.2 (main.2.mono ?_)
  rintro e w' ⟨v, rfl, hv⟩
  exact ⟨⟨v, rfl⟩, hv⟩
end Go.Proofs.Ytpjedpmbninfcaa
/-
  Walks of package record: all records.
-/
namespace Go.Proofs.Ytpjedpmbninfcaa
open Go.RowKit
/-- Records that are read; records of the call's own. -/
def RRec (w : World) (A : Option Addr) (L : List Rc) : Prop := RSl gRec w A L
def RRecT (w : World) (A : Option Addr) (L : List Rc) : Prop := RSlT gRec 31 w A L
def OwnRec (w : World) (lo hi : Nat) (A : Option Addr) (c : Nat) (L : List Rc) : Prop := OwnS gRec 31 w lo hi A c L
theorem gRec_one (w : World) (cs : List Value) (r : Rc) (h : gRec.T w cs r) : ∀ u ∈ cs, u.oneCell' = true := by
  obtain ⟨A, c, rfl, _⟩ := gRec_R (gRec.tr h)
  intro u hu
  simp only [List.mem_cons, List.not_mem_nil, or_false] at hu
  rcases hu with rfl | rfl <;> rfl
theorem gRec_mk {w : World} {k : UInt8} {p : By} {A : Option Addr} {c : Nat} (h : RdT w A p) (h1 : p.length ≤ c) (h2 : c ≤ maxLen) : gRec.T w [.int .u8 (k.toNat : Int), .slice A p.length c] (k, p) := by
  have hk := k.toNat_lt
  refine ⟨((k.toNat : Int), p), by simp, [_], _, rfl, ⟨rfl, ?_⟩, A, c, rfl, h, h1, h2⟩
  simp only [Lit.wf, Bool.and_eq_true, decide_eq_true_eq]
  exact ⟨by show (0 : Int) ≤ _; omega, by show _ ≤ (255 : Int); omega⟩
section
variable {w w' : World} {lo hi c : Nat} {A : Option Addr} {L : List Rc}
theorem RRec.u (h : RRec w A L) (hb : Below w.heap.size w w') : RRec w' A L := RSl.u h hb
theorem RRec.d (h : RRec w A L) : RRec w.drew A L := RSl.u h (below_drew w)
theorem RRec.some_ (h : RRec w A L) (hl : 0 < L.length) : A = some (A.getD ⟨0, 0, none⟩) := RSl.some_ h (show 0 < 2 by decide) hl
theorem RRec.nil_ : RRec w none [] := RSl.nil _ _ _
theorem RRec.elem (h : RRec w A L) {i : Nat} (hi : i < L.length) : ∃ A1 c1, CellsAt w A (i * 2) [.int .u8 (L[i].1.toNat : Int), .slice A1 L[i].2.length c1] ∧ Rd w A1 L[i].2 ∧ L[i].2.length ≤ c1 ∧ c1 ≤ maxLen := by
  obtain ⟨cs, h1, h2⟩ := RSl.elem h (show 0 < 2 by decide) hi
  obtain ⟨A1, c1, rfl, h3, h4, h5⟩ := gRec_R h2
  exact ⟨A1, c1, h1, h3, h4, h5⟩
theorem RRecT.u (h : RRecT w A L) (hb : Below w.heap.size w w') : RRecT w' A L := RSlT.u h hb
theorem RRecT.d (h : RRecT w A L) : RRecT w.drew A L := RSlT.d h
theorem RRecT.nil_ : RRecT w none [] := RSlT.nil_
theorem RRecT.to_RRec (h : RRecT w A L) : RRec w A L := RSlT.to_RSl h
theorem OwnRec.u (h : OwnRec w lo hi A c L) (hb : Below w.heap.size w w') : OwnRec w' lo hi A c L := OwnS.u h hb
theorem OwnRec.d (h : OwnRec w lo hi A c L) : OwnRec w.drew lo hi A c L := OwnS.d h
theorem OwnRec.y {e' : TypeId} {row : Option Nat} (h : OwnRec w lo hi A c L) (hg : Grew w w' e' row) (hne : e' ∉ [31, 5]) : OwnRec w' lo hi A c L := OwnS.y h hg hne
theorem OwnRec.q {e' : TypeId} {row : Option Nat} (h : OwnRec w lo hi A c L) (hg : Grew w w' e' row) (ha : Ap row lo hi) (hne : e' ∉ [5]) : OwnRec w' lo hi A c L := OwnS.q h hg ha hne
theorem OwnRec.ap {lo' hi' : Nat} (h : OwnRec w lo hi A c L) (hd : hi ≤ lo' ∨ hi' ≤ lo) : Ap (blk A) lo' hi' := OwnS.ap h hd
theorem OwnRec.cap (h : OwnRec w lo hi A c L) : L.length ≤ c := OwnS.cap h
theorem OwnRec.nil_ : OwnRec w lo hi none 0 [] := OwnS.nil_
theorem OwnRec.base {lo' hi' : Nat} (h : OwnRec w lo hi A c L) (h1 : lo' ≤ lo) (h2 : hi ≤ hi') : OwnRec w lo' hi' A c L := OwnS.base h h1 h2
theorem OwnRec.to_RRecT (h : OwnRec w lo hi A c L) : RRecT w A L := OwnS.to_RSlT h
theorem OwnRec.to_RRec (h : OwnRec w lo hi A c L) : RRec w A L := OwnS.to_RSl h
theorem OwnRec.some_ (h : OwnRec w lo hi A c L) (hl : 0 < L.length) : A = some (A.getD ⟨0, 0, none⟩) := h.to_RRec.some_ hl
end
theorem Try.rowRec : RowT Try.prog 42 31 (.agg #[.int .u8 0, .slice none 0 0]) 2 32 := ⟨Try.underlying42, by kernel_rfl, rfl, by omega⟩
section
variable {fn : Func} {F : Ending → World → Prop} {N : Nat} {ks : List K} {ops : Array Oper} {tg : Tags} {l : List Oper} {fr : Fr} {w : World} {ty : TypeId} {pos : String} {aft : Array Edge} {gd : Option (Nat × Bool)} {d n j q c lo hi : Nat} {x y : Operand} {A B : Option Addr} {L M : List Rc}
--@ rule buildSlice l wl_litRec1
theorem wl_litRec1 {ps : Array (Nat × Operand)} {xs : List Operand} {A1 : Option Addr} {n1 c1 : Nat} {k1 : UInt8} {p1 : By} (hxs : ps.toList.map Prod.snd = xs) (hx : fr.evs xs = some [.agg #[.int .u8 (k1.toNat : Int), .slice A1 n1 c1]]) (h1 : RdT w A1 p1) (hn1 : n1 = p1.length) (hc1 : p1.length ≤ c1) (hm1 : c1 ≤ maxLen) (hps : ps = ((List.range' 0 1).zip xs).toArray)
    (hk : ∀ A w', OwnRec w' w.heap.size w'.heap.size A 1 [(k1, p1)] → Below w.heap.size w w' → WL Try.prog fn F N ks ops tg.tail l ((d, .slice A 1 1) :: fr) w')
    (ht : tg.loud = true := by rfl) (hg : onG ops fr gd = true := by rfl) (hd : Nat.blt d N = true := by rfl) : WL Try.prog fn F N ks ops tg (⟨some d, .buildSlice 42 1 ps, ty, pos, aft, gd⟩ :: l) fr w := by
  subst hn1
  refine wl_litS (X := gRec) (L := [(k1, p1)]) Try.rowRec Try.sizeOf31 Try.zeroValue31 hxs hps hx rfl rfl (fun i h => ?_) rfl hk ht hg hd
  obtain rfl : i = 0 := by simp at h; omega
  exact ⟨_, rfl, rfl, gRec_mk h1 hc1 hm1⟩
--@ rule append l wl_appRec
theorem wl_appRec (hx : fr.ev x = some (.slice A n c)) (hown : OwnRec w lo hi A c L) (hn : n = L.length) (hy : fr.ev y = some (.slice B j q)) (hr : RRecT w B M) (hj : j = M.length) (hlen : L.length + M.length ≤ 1000000) (hB : lo ≤ w.heap.size)
    (h : ∀ A' c' w', OwnRec w' lo w'.heap.size A' c' (L ++ M) → Grew w w' 31 (blk A) → Below lo w w' → WL Try.prog fn F N ks ops tg.tail l ((d, .slice A' (L ++ M).length c') :: fr) w')
    (ht : tg.loud = true := by rfl) (hg : onG ops fr gd = true := by rfl) (hd : Nat.blt d N = true := by rfl) (hq : tg.calm = false ∨ blk A = none ∨ blk A = tg.row := by exact .inl rfl) :
    WL Try.prog fn F N ks ops tg (⟨some d, .call { callee := .builtin .append, args := #[x, y], argTypes := #[42, 42] }, ty, pos, aft, gd⟩ :: l) fr w :=
  wl_appS (X := gRec) Try.rowRec hx hown hn hy hr hj (by simp [gRec, GoT.map, GoT.pair, gInt, GoT.flat, gBytes]) gRec_one (by have := Nat.mul_le_mul_right 32 hlen; omega) (by omega) hB (fun A' c' w' h1 h2 h3 _ => h A' c' w' h1 h2 h3) ht hg hd hq
end
theorem C_each {c : By} {A : Option Addr} {n cap : Nat} (w : World) (hc : c.length = 32) :
    CallsR Try.prog 28 [.agg (B8 c).toArray, .slice A n cap] w fun v w' => ∃ g h, v = .func (.func 42) #[] #[.pointer (some ⟨g, 0, none⟩), .pointer (some ⟨h, 0, none⟩)] ∧ Blk w' g 23 (B8 c) ∧ Blk w' h 26 [.slice A n cap] ∧ h ≠ g ∧ w.heap.size ≤ g ∧ g < w'.heap.size ∧ g < h ∧ h < w'.heap.size ∧ Below w.heap.size w w' := by
  refine callsR Try.func28 rfl rfl (by kernel_rfl) rfl ?_
  have hw := Below.refl w.heap.size w
  refine rk_seq ?_
  refine rk_region ?_
  refine wl_boxg _ rfl (by rfl) ?_
  rintro g2 w2 f2 b2 i2 i2_1
  have s2 := b2.size
  replace hw := hw.trans (b2.mono hw.size)
  refine wl_boxg [_] rfl (by rfl) ?_
  rintro g3 w3 f3 b3 i3 i3_1
  have s3 := b3.size
  replace hw := hw.trans (b3.mono hw.size)
  replace f2 := f2.u b3
  refine wl_p (fun _ => o_assign rfl) ?_
  refine wl_nil ?_
  refine rk_seq ?_
  refine rk_region ?_
  refine wl_p (fun _ => o_makeFunc (xs := [.tmp 2, .tmp 3]) rfl) ?_
  refine wl_p (fun _ => o_assign rfl) ?_
  refine wl_nil ?_
  refine ret1 rfl rfl ?_
  exact ⟨_, _, rfl, f2, f3, by omega, by omega, by omega, by omega, by omega, hw⟩
theorem res_any {P : Program} {fn : Func} {N : Nat} {a : Act} {fr : Fr} {w : World} {rs : List ResultVar} {vs : List Value} (h : fn.results = rs.toArray) (ha : Rep N a fr) (hr : Res P fr w rs vs) (hn : vs.length ≠ 1) : (results fn a.tmps).run P w = .ok (.tuple vs.toArray) w := by
  have hrun := hr.run ha
  have h2 : (rs.toArray.mapM (resOf a)).run P w = .ok vs.toArray w := by
    rw [List.mapM_toArray, Sem.run_map, hrun]; rfl
  have e : results fn a.tmps = (do
      let vs ← rs.toArray.mapM (resOf a)
      pure (if h : vs.size = 1 then vs[0] else .tuple vs)) := by rw [← h]; rfl
  rw [e]
  simp only [Sem.run_bind, h2, Result.andThen_ok, Sem.run_pure]
  simp [hn]
theorem cMark_one (n : Int) (c : By) : ∀ v ∈ cMark n c, v.oneCell' = true := fun v hv => by
  rcases List.mem_cons.1 hv with rfl | hv
  · rfl
  · exact B8_oneCell c v hv
--@ side (cMark_one _ _)
--@ side (cMark_len (by assumption))
/-- Where All stands between the rounds. -/
structure AllI (w w1 : World) (g6 g7 g8 : Nat) (c : By) (pre : List Ev) (A' : Option Addr) (c' hiR : Nat) (W : World) : Prop where
  own : OwnRec W w1.heap.size hiR A' c' (pre.map Prod.fst)
  f7 : Blk W g7 42 [.slice A' pre.length c']
  f8 : Blk W g8 59 (cMark (lastE c pre).1 (lastE c pre).2)
  f6 : Blk W g6 23 (B8 nul32)
  last : (lastE c pre).2.length = 32
  hi : hiR ≤ W.heap.size
  lo : w1.heap.size ≤ hiR
  bel : Below w.heap.size w W
theorem ownRec_noncell {B lo hi c : Nat} {W W' : World} {A : Option Addr} {l : List Rc} {row : Option Nat} (h : OwnRec W lo hi A c l) (hg : W.grownBy W' row) (hr : ∀ r, row = some r → B ≤ r ∧ ∃ o : Obj, W.heap[r]? = some o ∧ o.isCells = false) : OwnRec W' lo hi A c l := by
  obtain ⟨xs, h1, h2⟩ := h
  refine ⟨xs, ⟨World.ownsRow.kept h1.o hg ?_, h1.hi⟩, fun i hi => ?_⟩
  · rw [blk_own]
    cases hA : blk A with
    | none => exact .inl rfl
    | some k =>
      refine .inr (fun ek => ?_)
      obtain ⟨_, o, ho, hc⟩ := hr k ek.symm
      obtain ⟨cs, f, hcs⟩ := RowH.ty h1 k hA
      rw [hcs] at ho
      injection ho with ho
      subst ho; cases hc
  · obtain ⟨a, e, c1, c2, e2, h3, A1, n1, e3, h4, h5, h6⟩ := h2 i hi
    exact ⟨a, e, c1, c2, e2, h3, A1, n1, e3, rdT_noncell h4 hg hr, h5, h6⟩
theorem AllI.non {w w1 W W' : World} {g6 g7 g8 c' hiR B : Nat} {c : By} {pre : List Ev} {A' : Option Addr} {row : Option Nat} (h : AllI w w1 g6 g7 g8 c pre A' c' hiR W) (hB : w.heap.size ≤ B) (hg : W.grownBy W' row) (hr : ∀ r, row = some r → B ≤ r ∧ ∃ o : Obj, W.heap[r]? = some o ∧ o.isCells = false) : AllI w w1 g6 g7 g8 c pre A' c' hiR W' :=
  ⟨ownRec_noncell h.own hg hr, blk_noncell h.f7 hg hr, blk_noncell h.f8 hg hr, blk_noncell h.f6 hg hr, h.last, Nat.le_trans h.hi hg.size, h.lo, h.bel.grown hg h.bel.size (fun k e => by have := (hr k e).1; omega)⟩
set_option maxHeartbeats 1000000 in
theorem C_AllR {A : Option Addr} {b c : By} {n cap : Nat} (w : World) (hb : Rd w A b) (hn : n = b.length) (hcap : b.length ≤ cap) (hc : c.length = 32) (hl : b.length ≤ 400000) :
    CallsR Try.prog 19 [.agg (B8 c).toArray, .slice A n cap] w fun v w' => ∃ (L : List Rc) (A' : Option Addr) (c' : Nat), v = .tuple #[.slice A' L.length c', .int .i64 ((bytesAll c L).length : Int), .agg (B8 (chainAll c L)).toArray] ∧ AllP c b L ∧ OwnRec w' w.heap.size w'.heap.size A' c' L ∧ Below w.heap.size w w' := by
  subst hn
  refine ⟨⟨_, Try.func19, rfl, by kernel_rfl⟩, ?_⟩
  refine (callsIn_wide (n := 3)).1 (callsIn_of_wp_marks Try.func19 rfl trivial ?_)
  refine seq5_of_rk (fn := Try.f19) (I := fun a w' => ∃ g6 g7 g8 g h, Rep Try.f19.ntmps a [(15, .func (.func 42) #[] #[.pointer (some ⟨g, 0, none⟩), .pointer (some ⟨h, 0, none⟩)]), (8, .pointer (some ⟨g8, 0, none⟩)), (7, .pointer (some ⟨g7, 0, none⟩)), (6, .pointer (some ⟨g6, 0, none⟩))] ∧ Blk w' g 23 (B8 c) ∧ Blk w' h 26 [.slice A b.length cap] ∧ Blk w' g6 23 (B8 nul32) ∧ Blk w' g7 42 [.slice none 0 0] ∧ Blk w' g8 59 (cMark 0 c) ∧ h ≠ g ∧ w.heap.size ≤ g6 ∧ w.heap.size ≤ g7 ∧ w.heap.size ≤ g8 ∧ g6 < g ∧ g7 < g ∧ g8 < g ∧ g6 < g7 ∧ g7 < g8 ∧ h < w'.heap.size ∧ g < h ∧ Below w.heap.size w w') ?_ (entry_rep rfl) ?_
  · have hw := Below.refl w.heap.size w
    refine rk_region ?_
    refine wl_boxg _ rfl (by rfl) ?_
    rintro g2 w2 f2 b2 i2 i2_1
    have s2 := b2.size
    replace hw := hw.trans (b2.mono hw.size)
    refine wl_p (fun _ => o_assign rfl) ?_
    refine wl_p (fun _ => o_assign rfl) ?_
    refine wl_allocB Try.underlying23 Try.zeroValue23 (by rfl) ?_
    rintro g6 w6 f6 b6 i6 i6_1
    have s6 := b6.size
    replace hw := hw.trans (b6.mono hw.size)
    replace f2 := f2.u b6
    refine wl_nil ?_
    refine rk_region ?_
    refine wl_allocg [_] Try.zeroValue42 (by rfl) ?_
    rintro g7 w7 f7 b7 i7 i7_1
    have s7 := b7.size
    replace hw := hw.trans (b7.mono hw.size)
    replace f2 := f2.u b7
    replace f6 := f6.u b7
    refine wl_nil ?_
    refine rk_region ?_
    refine wl_r (o_ldBa Try.isAgg23 Try.sizeOf23 rfl f2 hc) ?_
    refine wl_p (fun _ => (o_buildMark rfl rfl hc)) ?_
    refine wl_allocg [_, _, _, _, _, _, _, _, _, _, _, _, _, _, _, _, _, _, _, _, _, _, _, _, _, _, _, _, _, _, _, _, _] Try.zeroValue59 (by rfl) ?_
    rintro g8 w8 f8 b8 i8 i8_1
    have s8 := b8.size
    replace hw := hw.trans (b8.mono hw.size)
    replace f6 := f6.u b8
    replace f2 := f2.u b8
    replace f7 := f7.u b8
    refine wl_storega Try.sizeOf59 rfl rfl (cMark_len (by assumption)) (cMark_one _ _) f8 (by rfl) ?_
    rintro w_1 f g e
    have s := g.size
    replace hw := hw.trans (below_of_grownBy g.g hw.size (by omega))
    replace f7 := f7.k g.g (ap_some (by omega))
    replace f2 := f2.k g.g (ap_some (by omega))
    replace f6 := f6.k g.g (ap_some (by omega))
    clear f8
    refine wl_nil ?_
    refine rk_region ?_
    refine wl_r (o_ldBa Try.isAgg23 Try.sizeOf23 rfl f2 hc) ?_
    refine wl_p (fun _ => o_move rfl) ?_
    refine wl_call rfl (C_each _ hc) ?_
    rintro v15 w15 ⟨g15, ⟨h15, ⟨rfl, ⟨f15, ⟨f15_1, ⟨i15, ⟨i15_1, ⟨i15_2, ⟨i15_3, ⟨i15_4, b15⟩⟩⟩⟩⟩⟩⟩⟩⟩⟩
    have s15 := b15.size
    replace hw := hw.trans (b15.mono hw.size)
    replace f6 := f6.u b15
    replace f2 := f2.u b15
    replace f7 := f7.u b15
    replace f := f.u b15
    refine wl_nil ?_
    refine rk_inv fun a ha => ?_
    exact ⟨g6, g7, g8, g15, h15, ha.le (Fr.le_of_sub (by repeat' constructor)), f15, f15_1, f6, f7, f, by assumption, by omega, by omega, by omega, by omega, by omega, by omega, by omega, by omega, by omega, by omega, hw⟩
  · rintro a1 w1 ⟨g6, g7, g8, g, h, ha, fg, fh, f6, f7, f8, hne, n6, n7, n8, m6, m7, m8, p67, p78, hhlt, hgh, hw⟩
    have hsw := hw.size
    have hglt := fg.lt
    have hAb : ∀ k, b ≠ [] → blk A = some k → k < w.heap.size := fun k hbne hk => by
      obtain ⟨b0, o, rfl, hcl⟩ := hb.2 (fun e => hbne (by cases b with | nil => rfl | cons x y => cases e))
      have hk' : b0 = k := by simpa [blk] using hk
      subst hk'
      cases b with
      | nil => exact absurd rfl hbne
      | cons x y => exact block_lt_of_cell (hcl 0 _ rfl)
    refine wpIn_block ?_
    refine wpIn_rangeC (α := Ev) (by decide) (gf := 42) (lb := #[.pointer (some ⟨g, 0, none⟩), .pointer (some ⟨h, 0, none⟩)]) (ha.ev rfl) (enters_of Try.func42 (by kernel_rfl) rfl)
      (each_seq w1 fg fh (hb.u hw) hcap hc hl hne (X := fun k => k = g7 ∨ k = g8) (by omega) (by intro e; rcases e with e | e <;> omega) (fun k h1 h2 => by have := hAb k h1 h2; omega)) (Below.refl _ _)
      (fun h k => h.trans k) (fun W l o hl => ⟨rfl, rfl, rfl, by simp, fun k hk _ => World.putObj_heap_other (by omega)⟩) (fun A B h => keeps_grew h) (fun _ => rfl)
      (fun pre W => ∃ A' c' hiR, AllI w w1 g6 g7 g8 c pre A' c' hiR W) ?cI ?cC ?cY ?c0 (fun pre x a' W => ∃ g9 g10 A' c' hiR, Rep Try.f19.ntmps a' [(10, .pointer (some ⟨g10, 0, none⟩)), (9, .pointer (some ⟨g9, 0, none⟩)), (8, .pointer (some ⟨g8, 0, none⟩)), (7, .pointer (some ⟨g7, 0, none⟩))] ∧ Blk W g9 31 [.int .u8 (x.1.1.toNat : Int), .slice x.2.1.1 x.1.2.length x.2.1.2] ∧ Blk W g10 59 (cMark x.2.2.1 x.2.2.2) ∧ AllI w w1 g6 g7 g8 c pre A' c' hiR W ∧ ydE pre x W ∧ hiR ≤ g9 ∧ hiR ≤ g10) ?cA ?assign ?body ?done
    case cI => exact fun pre W W' row ⟨A', c', hiR, h⟩ hg hr => ⟨A', c', hiR, h.non hsw hg hr⟩
    case cC =>
      rintro pre W W' ⟨A', c', hiR, h⟩ hG
      have h1 := h.lo
      have h2 := hG.size
      have h3 := h.hi
      exact ⟨A', c', hiR, ⟨h.own.q hG (ap_some (by omega)) (by decide), h.f7.y hG (by decide), h.f8.y hG (by decide), h.f6.k hG.g (ap_some (by omega)), h.last, by omega, h.lo, h.bel.grown hG.g h.bel.size (fun k e => by injection e with e; omega)⟩⟩
    case cY => exact fun pre x W W' row h hg hr => ⟨rdT_noncell h.1 hg hr, h.2⟩
    case c0 => exact ⟨none, 0, w1.heap.size, ⟨OwnRec.nil_, f7, f8, f6, hc, Nat.le_refl _, Nat.le_refl _, hw⟩⟩
    case cA =>
      rintro pre x a' s W W' row ⟨g9, g10, A', c', hiR, h1, h2, h3, h4, h5, h6, h7⟩ hg hr
      exact ⟨g9, g10, A', c', hiR, h1, blk_noncell h2 hg hr, blk_noncell h3 hg hr, h4.non hsw hg hr, ⟨rdT_noncell h5.1 hg hr, h5.2⟩, h6, h7⟩
    case assign =>
      rintro l pre x W hl ⟨A', c', hiR, hI⟩ hy
      have hi1 := hI.hi
      have hi2 := hI.lo
      have hmk : (cMark x.2.2.1 x.2.2.2).length = 33 := cMark_len hy.2.2.2.1
      have e : ({ tmps := (#[16, 17].zip (encE x)).foldl (fun t (p, v) => t.setIfInBounds p v) a1.tmps, defers := [] } : Act) = (a1.put (some 16) (.agg #[.int .u8 (x.1.1.toNat : Int), .slice x.2.1.1 x.1.2.length x.2.1.2])).put (some 17) (.agg (cMark x.2.2.1 x.2.2.2).toArray) := by
        simp [encE, Act.put, ha.defers]
      rw [e]
      have hrep : Rep Try.f19.ntmps ((a1.put (some 16) (.agg #[.int .u8 (x.1.1.toNat : Int), .slice x.2.1.1 x.1.2.length x.2.1.2])).put (some 17) (.agg (cMark x.2.2.1 x.2.2.2).toArray)) [(17, .agg (cMark x.2.2.1 x.2.2.2).toArray), (16, .agg #[.int .u8 (x.1.1.toNat : Int), .slice x.2.1.1 x.1.2.length x.2.1.2]), (8, .pointer (some ⟨g8, 0, none⟩)), (7, .pointer (some ⟨g7, 0, none⟩))] :=
        ((ha.put (d := 16) rfl _).put (d := 17) rfl _).le (Fr.le_of_sub (by repeat' constructor))
      refine wpIn_mono ((in_seq (I1 := fun a' W' => ∃ g9, Rep Try.f19.ntmps a' [(9, .pointer (some ⟨g9, 0, none⟩)), (17, .agg (cMark x.2.2.1 x.2.2.2).toArray), (8, .pointer (some ⟨g8, 0, none⟩)), (7, .pointer (some ⟨g7, 0, none⟩))] ∧ Blk W' g9 31 [.int .u8 (x.1.1.toNat : Int), .slice x.2.1.1 x.1.2.length x.2.1.2] ∧ W.heap.size ≤ g9 ∧ Below W.heap.size W W') (in_plain ?_) ?_ : RIn Try.prog Try.f19 Try.f19.ntmps (fun a' W' => ∃ g9 g10, Rep Try.f19.ntmps a' [(10, .pointer (some ⟨g10, 0, none⟩)), (9, .pointer (some ⟨g9, 0, none⟩)), (8, .pointer (some ⟨g8, 0, none⟩)), (7, .pointer (some ⟨g7, 0, none⟩))] ∧ Blk W' g9 31 [.int .u8 (x.1.1.toNat : Int), .slice x.2.1.1 x.1.2.length x.2.1.2] ∧ Blk W' g10 59 (cMark x.2.2.1 x.2.2.2) ∧ W.heap.size ≤ g9 ∧ W.heap.size ≤ g10 ∧ Below W.heap.size W W') l 1 _ _ W) _ hrep) (fun e a w he => ?_)
      · have hw := Below.refl W.heap.size W
        refine wl_allocg [_, _] Try.zeroValue31 (by rfl) ?_
        rintro g9 w9 f9 b9 i9 i9_1
        have s9 := b9.size
        replace hw := hw.trans (b9.mono hw.size)
        refine wl_storega Try.sizeOf31 rfl rfl (by rfl) (oneCell_of (by rfl)) f9 (by rfl) ?_
        rintro w_1 f g_1 e_1
        have s := g_1.size
        replace hw := hw.trans (below_of_grownBy g_1.g hw.size (by omega))
        clear f9
        refine wl_nil ?_
        refine rk_inv fun a ha => ?_
        exact ⟨g9, ha.le (Fr.le_of_sub (by repeat' constructor)), f, by omega, hw⟩
      · rintro a2 W2 ⟨g9, ha2, f9, hg9, hw⟩
        refine (in_plain ?_ : RIn _ _ _ _ _ _ _ _ _) a2 ha2
        have hws := hw.size
        refine wl_allocg [_, _, _, _, _, _, _, _, _, _, _, _, _, _, _, _, _, _, _, _, _, _, _, _, _, _, _, _, _, _, _, _, _] Try.zeroValue59 (by rfl) ?_
        rintro g10 w10 f10 b10 i10 i10_1
        have s10 := b10.size
        replace hw := hw.trans (b10.mono hw.size)
        replace f9 := f9.u b10
        refine wl_storega Try.sizeOf59 rfl rfl hmk (cMark_one _ _) f10 (by rfl) ?_
        rintro w_1 f g_1 e_1
        have s := g_1.size
        replace hw := hw.trans (below_of_grownBy g_1.g hw.size (by omega))
        replace f9 := f9.y g_1 (by decide)
        clear f10
        refine wl_nil ?_
        refine rk_inv fun a ha => ?_
        exact ⟨g9, g10, ha.le (Fr.le_of_sub (by repeat' constructor)), f9, f, by omega, by omega, hw⟩
      · obtain ⟨rfl, g9, g10, h1, h2, h3, h4, h5, hb2⟩ := kpost_inv he
        have hsb := hb2.size
        exact ⟨keeps_below hb2, KeepX.of (hb2.mono (by omega)), g9, g10, A', c', hiR, h1, h2, h3, ⟨hI.own.u hb2, hI.f7.u hb2, hI.f8.u hb2, hI.f6.u hb2, hI.last, by omega, hI.lo, hI.bel.trans (hb2.mono hI.bel.size)⟩, ⟨hy.1.u hb2, hy.2⟩, by omega, by omega⟩
    case body =>
      rintro l pre x a' W hl ⟨g9, g10, A', c', hiR, hrep, f9, f10, hI, hy, h9, h10⟩
      obtain ⟨⟨k, p⟩, ⟨Ax, cx⟩, nx, chx⟩ := x
      obtain ⟨hy1, hy2, hy3, hy4, hy5⟩ := hy
      simp only at f9 f10 hy1 hy2 hy3 hy4
      have hmk : (cMark nx chx).length = 33 := cMark_len hy4
      have hmk0 : (cMark (lastE c pre).1 (lastE c pre).2).length = 33 := cMark_len hI.last
      refine wpIn_block (wpIn_mono ((in_seq (I1 := fun a' W' => ∃ A2 c2, Rep Try.f19.ntmps a' [(10, .pointer (some ⟨g10, 0, none⟩)), (8, .pointer (some ⟨g8, 0, none⟩))] ∧ OwnRec W' w1.heap.size W'.heap.size A2 c2 ((pre.map Prod.fst) ++ [(k, p)]) ∧ Blk W' g7 42 [.slice A2 ((pre.map Prod.fst) ++ [(k, p)]).length c2] ∧ Blk W' g8 59 (cMark (lastE c pre).1 (lastE c pre).2) ∧ Blk W' g10 59 (cMark nx chx) ∧ Blk W' g6 23 (B8 nul32) ∧ Below w.heap.size w W' ∧ KeepsOthers W W' ∧ KeepX w1.heap.size (fun k => k = g7 ∨ k = g8) W W') (in_plain ?_) ?_ : RIn Try.prog Try.f19 Try.f19.ntmps (fun a' W' => ∃ A2 c2, OwnRec W' w1.heap.size W'.heap.size A2 c2 ((pre.map Prod.fst) ++ [(k, p)]) ∧ Blk W' g7 42 [.slice A2 ((pre.map Prod.fst) ++ [(k, p)]).length c2] ∧ Blk W' g8 59 (cMark nx chx) ∧ Blk W' g6 23 (B8 nul32) ∧ Below w.heap.size w W' ∧ KeepsOthers W W' ∧ KeepX w1.heap.size (fun k => k = g7 ∨ k = g8) W W') l 1 _ _ W) _ hrep) (fun e a w he => ?_))
      · have fo := hI.own
        have f7 := hI.f7
        have f8 := hI.f8
        have f6 := hI.f6
        have hi1 := hI.hi
        have hi2 := hI.lo
        have hw := hI.bel
        have hm1 : (pre.map Prod.fst).length = pre.length := List.length_map ..
        rw [← hm1] at f7 hy5
        have hlt : ∀ k, blk A' = some k → w1.heap.size ≤ k := fun k hk => by
          obtain ⟨xs, r1, _⟩ := fo
          exact (RowH.lt r1 k hk).1
        clear hI fg fh ha hb
        refine wl_r (o_loadbg Try.isAgg42 rfl f7 (by rfl)) ?_
        refine wl_r (o_loadag Try.isAgg31 Try.sizeOf31 rfl f9 (by rfl)) ?_
        refine wl_litRec1 (by rfl) rfl hy1 rfl (by omega) (by omega) (by rfl) ?_
        rintro A20 w20 f20 b20
        have qf20 := f20.cap
        have s20 := b20.size
        replace hw := hw.trans (b20.mono hw.size)
        replace f6 := f6.u b20
        replace f8 := f8.u b20
        replace f7 := f7.u b20
        replace fo := fo.u b20
        replace hy1 := hy1.u b20
        replace f10 := f10.u b20
        replace f9 := f9.u b20
        refine wl_appRec rfl fo rfl rfl f20.to_RRecT (by rfl) (by omega) (by omega) ?_
        rintro A21 c21 w21 f21 g21 b21
        have qf21 := f21.cap
        have s21 := g21.size
        replace hw := hw.trans (b21.mono (by omega))
        replace f9 := f9.k g21.g (fo.ap (by omega))
        replace f10 := f10.y g21 (by decide)
        replace hy1 := hy1.y g21 (by decide)
        replace f7 := f7.y g21 (by decide)
        replace f8 := f8.y g21 (by decide)
        replace f6 := f6.y g21 (by decide)
        replace f20 := f20.q g21 (fo.ap (by omega)) (by decide)
        clear fo
        refine wl_storeg1 Try.sizeOf42 rfl rfl (by rfl) f7 (by simp) ?_
        rintro w_1 f g_1 e
        have s := g_1.size
        replace hw := hw.trans (below_of_grownBy g_1.g hw.size (by omega))
        replace f20 := f20.y g_1 (by decide)
        replace f6 := f6.k g_1.g (ap_some (by omega))
        replace f8 := f8.k g_1.g (ap_some (by omega))
        replace hy1 := hy1.y g_1 (by decide)
        replace f10 := f10.k g_1.g (ap_some (by omega))
        replace f9 := f9.k g_1.g (ap_some (by omega))
        replace f21 := f21.y g_1 (by decide)
        clear f7
        refine wl_nil ?_
        have q1 : Below W.heap.size W w20 := by assumption
        have q2 : Grew w20 w21 31 (blk A') := by assumption
        have q3 : Grew w21 w_1 42 (some g7) := by assumption
        have s1 := q1.size
        have s2 := q2.size
        have s3 := q3.size
        refine rk_inv fun a ha => ?_
        exact ⟨A21, c21, ha.le (Fr.le_of_sub (by repeat' constructor)), f21.base (Nat.le_refl _) (by omega), f, f8, f10, f6, hw, (keeps_below q1).trans ((keeps_grew q2).trans (keeps_grew q3)),
          (KeepX.of (q1.mono (by omega))).trans ((KeepX.of (q2.below (by omega) hlt)).trans (KeepX.grown q3.g (by omega) (fun k e => by injection e with e; exact .inl e.symm)))⟩
      · rintro a2 W2 ⟨A2, c2, ha2, f21, f7, f8, f10, f6, hw, hko, hkx⟩
        refine (in_plain ?_ : RIn _ _ _ _ _ _ _ _ _) a2 ha2
        have hi2 := hI.lo
        have hi1 := hI.hi
        have hks := hko.size
        clear hI fg fh ha hb
        refine wl_r (o_loadag Try.isAgg59 Try.sizeOf59 rfl f10 hmk) ?_
        refine wl_storega Try.sizeOf59 rfl rfl hmk (cMark_one _ _) f8 hmk0 ?_
        rintro w_1 f g_1 e
        have s := g_1.size
        replace hw := hw.trans (below_of_grownBy g_1.g hw.size (by omega))
        replace f6 := f6.k g_1.g (ap_some (by omega))
        replace f10 := f10.k g_1.g (ap_some (by omega))
        replace f7 := f7.k g_1.g (ap_some (by omega))
        replace f21 := f21.y g_1 (by decide)
        clear f8
        refine wl_nil ?_
        have q3 : Grew W2 w_1 59 (some g8) := by assumption
        have s3 := q3.size
        refine rk_inv fun a ha => ?_
        exact ⟨A2, c2, f21.base (Nat.le_refl _) (by omega), f7, f, f6, hw, hko.trans (keeps_grew q3), hkx.trans (KeepX.grown q3.g (by omega) (fun k e => by injection e with e; exact .inr e.symm))⟩
      · obtain ⟨rfl, A2, c2, h1, h2, h3, h4, h5, h6, h7⟩ := kpost_inv he
        have hks := h6.size
        have hi2 := hI.lo
        have hi1 := hI.hi
        have e1 : (pre ++ [((k, p), (Ax, cx), (nx, chx))]).map Prod.fst = pre.map Prod.fst ++ [(k, p)] := by simp
        have e2 : (pre ++ [((k, p), (Ax, cx), (nx, chx))]).length = (pre.map Prod.fst ++ [(k, p)]).length := by simp
        exact ⟨rfl, h6, h7, A2, c2, _, ⟨by rw [e1]; exact h1, by rw [e2]; exact h2, by rw [lastE_snoc]; exact h3, h4, by rw [lastE_snoc]; exact hy4, by omega, by omega, h5⟩⟩
    case done =>
      rintro D xs W hD ⟨hAll, hlast⟩ ⟨A', c', hiR, hI⟩ hKD
      obtain ⟨L, hL⟩ : ∃ L, xs.map Prod.fst = L := ⟨_, rfl⟩
      have fo := hI.own
      clear f6 f7 f8
      have f7 := hI.f7
      have f8 := hI.f8
      have f6 := hI.f6
      have hi1 := hI.hi
      have hi2 := hI.lo
      have hw2 := hI.bel
      have hla := hI.last
      rw [hL] at fo hAll hlast
      rw [hlast] at f8 hla
      have hxl : xs.length = L.length := by rw [← hL, List.length_map]
      rw [hxl] at f7
      obtain ⟨nb, hnb⟩ : ∃ nb, (bytesAll c L).length = nb := ⟨_, rfl⟩
      obtain ⟨ch, hch⟩ : ∃ ch, chainAll c L = ch := ⟨_, rfl⟩
      simp only at f8 hla
      rw [hnb, hch] at f8
      rw [hch] at hla
      have hDs : D < W.heap.size := (Array.getElem?_eq_some_iff.1 hKD).1
      show Code.wpIn Fence.wide 3 Try.prog _ _ { a1 with defers := _ :: a1.defers } W
      rw [dd_of ha.defers]
      refine wpIn_seq (wpIn_mono ((?_ : RInD Try.prog Try.f19 Try.f19.ntmps (fun a2 W' => Rep Try.f19.ntmps a2 [(6, .pointer (some ⟨g6, 0, none⟩)), (5, .int .i64 (nb : Int)), (4, .slice A' L.length c')] ∧ Blk W' g6 23 (B8 ch) ∧ OwnRec W' w1.heap.size hiR A' c' L ∧ Below w.heap.size w W' ∧ KeepsOthers W W') _ 3 _ _ W) _ ha) (fun e a' w' he => ?_))
      · clear hI fg fh ha hb hw
        have hw := hw2
        have hmk : (cMark nb ch).length = 33 := cMark_len hla
        refine ind_draw (id := 8) (none) [0, 0, 2, 0, 8, 1, 39, 127] [0, 0, 2, 0, 8, 1, 39, 127] 128 0 [(.r, 0), (.p, 1), (.r, 2), (.p, 3), (.r, 4), (.p, 5), (.p, 6), (.l, 7)] (by kernel_rfl) (by kernel_rfl) (by kernel_rfl) (by kernel_rfl) (by kernel_rfl) ?_
        replace fo := fo.d
        replace f7 := f7.d
        replace f8 := f8.d
        replace f6 := f6.d
        replace hw := hw.drew
        have hcut : ((cMark nb ch).drop (0 + 1)).take 32 = B8 ch := by
          show (B8 ch).take 32 = B8 ch
          rw [List.take_of_length_le (by rw [B8_length, hla]; exact Nat.le_refl _)]
        have hB32 : (B8 ch).length = 32 := by rw [B8_length, hla]
        refine wl_r (o_loadbg Try.isAgg42 rfl f7 (by rfl)) ?_
        refine wl_p (fun _ => o_faddr (s := 59) (i := 0) (off := 0) Try.underlying59 rfl Try.sizeOf3 rfl rfl rfl) ?_
        refine wl_r (o_loadbg Try.isAgg3 rfl f8 (by rfl)) ?_
        refine wl_p (fun _ => o_faddr (s := 59) (i := 1) (off := 1) Try.underlying59 rfl Try.sizeOf23 rfl rfl rfl) ?_
        refine wl_r (o_loadCut Try.isAgg23 Try.sizeOf23 rfl f8 hcut hB32) ?_
        refine wl_p (fun _ => o_assign rfl) ?_
        refine wl_p (fun _ => o_assign rfl) ?_
        refine wl_stBa Try.sizeOf23 rfl f6 rfl hla (by rfl) ?_
        rintro w_1 f g_1 e
        simp only [drew_size] at e
        have s := g_1.size
        simp only [drew_size] at s
        replace hw := hw.trans (below_of_grownBy g_1.g hw.size (by omega))
        replace f8 := f8.k g_1.g (ap_some (by omega))
        replace f7 := f7.k g_1.g (ap_some (by omega))
        replace fo := fo.y g_1 (by decide)
        clear f6
        refine wl_nild ?_
        have q3 : Grew W.drew w_1 23 (some g6) := by assumption
        refine rk_inv fun a ha => ?_
        exact ⟨ha.le (Fr.le_of_sub (by repeat' constructor)), f, fo, hw, (KeepsOthers.drew W).trans (keeps_grew q3)⟩
      · obtain ⟨a2, rfl, rfl, ha2, hB, hO, hb2, hk2⟩ := he
        have hKD2 := hk2.same _ _ hKD rfl
        have hks := hk2.size
        refine wpIn_ret ?_
        show LeavesInM Fence.wide 3 Try.prog _ a2.tmps _ (a2.defers ++ [_]) .returning w'
        rw [ha2.defers]
        refine ⟨by simp, .inl ⟨D, _, rfl, run_takeDeferred hKD2, ?_⟩⟩
        have hg := grownBy_putObj' w' D (.deferred none)
        have hr : ∀ r, (some D : Option Nat) = some r → D ≤ r ∧ ∃ o : Obj, w'.heap[r]? = some o ∧ o.isCells = false := fun r e => by cases e; exact ⟨Nat.le_refl _, _, hKD2, rfl⟩
        have hB2 := blk_noncell hB hg hr
        have hO2 := ownRec_noncell hO hg hr
        have hsz := hg.size
        have hw3 := hb2.grown hg hb2.size (fun k e => by injection e with e; omega)
        have hres := res_any (P := Try.prog) (fn := Try.f19) (rs := [.tmp 4, .tmp 5, .cell 6 23]) rfl ha2 (.tmp rfl (.tmp rfl (.cell rfl Try.isAgg23 Try.sizeOf23 hB2 (by rw [B8_length, hla]) .nil))) (by simp)
        refine ⟨_, hres, _, rfl, L, A', c', ?_, hAll, hO2.base (by omega) (by omega), hw3⟩
        rw [hnb, hch]
end Go.Proofs.Ytpjedpmbninfcaa
