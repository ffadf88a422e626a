/-
  A region that leaves the order of many operations open, each of which adds to the heap and changes nothing that was there: one step for each of them, from what it waits for; then what they all left. No function of the program is named here.
-/
import Derived.Test.YtpjedpmbninfcaaAuto
namespace Go.Proofs.Ytpjedpmbninfcaa
open Go.RowKit
/-- An operation that changes the world, and what is read or reckoned behind it. ds: the slots (the newest first); pre: the places of the items that it waits for; φ: what the slots hold, in which world, and between which blocks what is new lies. -/
structure Item where
  k : Nat
  ps : List (Tag × Nat)
  ds : List Nat
  pre : List Nat
  φ : List Value → World → Nat → Nat → Prop
def Item.idx (it : Item) : List Nat := it.k :: it.ps.map Prod.snd
def bitsOf : List Nat → Nat
  | [] => 0
  | k :: r => Nat.lor (2 ^ k) (bitsOf r)
def Item.mask (it : Item) : Nat := bitsOf it.idx
def nthI : List Item → Nat → Option Item
  | [], _ => none
  | it :: _, 0 => some it
  | _ :: l, k + 1 => nthI l k
theorem nthI_mem : ∀ {l : List Item} {i : Nat} {it : Item}, nthI l i = some it → it ∈ l
  | _ :: _, 0, _, h => by injection h with h; subst h; simp
  | _ :: l, i + 1, _, h => List.mem_cons_of_mem _ (nthI_mem (l := l) (i := i) h)
theorem nthI_of_mem : ∀ {l : List Item} {it : Item}, it ∈ l → ∃ i, i < l.length ∧ nthI l i = some it
  | x :: l, it, h => by
    rcases List.mem_cons.1 h with h | h
    · subst h; exact ⟨0, by simp, rfl⟩
    · obtain ⟨i, h1, h2⟩ := nthI_of_mem h
      exact ⟨i + 1, by simpa using h1, h2⟩
theorem nthI_lt : ∀ {l : List Item} {i : Nat} {it : Item}, nthI l i = some it → i < l.length
  | _ :: _, 0, _, _ => by simp
  | _ :: l, i + 1, _, h => by have := nthI_lt (l := l) (i := i) h; simpa using this
theorem nthI_some : ∀ {l : List Item} {i : Nat}, i < l.length → ∃ it, nthI l i = some it
  | x :: _, 0, _ => ⟨x, rfl⟩
  | _ :: l, i + 1, h => nthI_some (l := l) (i := i) (by simpa using h)
theorem bitsOf_bit {j : Nat} : ∀ {l : List Nat}, (bitsOf l).testBit j = true ↔ j ∈ l
  | [] => by simp [bitsOf]
  | k :: r => by
    show (2 ^ k ||| bitsOf r).testBit j = true ↔ _
    rw [Nat.testBit_or, Bool.or_eq_true, bitsOf_bit (l := r), Nat.testBit_two_pow, List.mem_cons]
    constructor
    · rintro (h | h)
      · exact .inl (of_decide_eq_true h).symm
      · exact .inr h
    · rintro (h | h)
      · exact .inl (by simp [h])
      · exact .inr h
def apartAll : List (Nat × Nat) → Nat → Nat → Prop
  | [], _, _ => True
  | p :: r, lo, hi => (p.2 ≤ lo ∨ hi ≤ p.1) ∧ apartAll r lo hi
/-- What the items at the places ps left. -/
def given (its : List Item) (w : World) (B : Nat) : List Nat → List (Nat × Nat) → Fr → (Fr → Prop) → Prop
  | [], _, fr, K => K fr
  | p :: r, seen, fr, K => match nthI its p with
    | none => False
    | some it => ∀ vs lo hi, it.φ vs w lo hi → B ≤ lo → lo ≤ hi → hi ≤ w.heap.size → apartAll seen lo hi → given its w B r ((lo, hi) :: seen) (it.ds.zip vs ++ fr) K
def stables : List Item → Prop
  | [] => True
  | it :: r => (∀ vs w w' lo hi, it.φ vs w lo hi → Below w.heap.size w w' → it.φ vs w' lo hi) ∧ stables r
theorem stables_spec : ∀ {l : List Item}, stables l → ∀ it ∈ l, ∀ vs w w' lo hi, it.φ vs w lo hi → Below w.heap.size w w' → it.φ vs w' lo hi
  | _ :: _, h, it, hi => by
    rcases List.mem_cons.1 hi with e | e
    · subst e; exact h.1
    · exact stables_spec h.2 it e

/-! What is checked. -/
def meetN (a b : Nat) : Bool := !Nat.beq (Nat.land a b) 0
theorem meetN_spec {a b : Nat} (h : meetN a b = true) : ∃ i, a.testBit i = true ∧ b.testBit i = true := by
  unfold meetN at h
  refine Classical.byContradiction fun hn => ?_
  have e : Nat.land a b = 0 := Nat.eq_of_testBit_eq fun i => by
    show (a &&& b).testBit i = _
    rw [Nat.testBit_and, Nat.zero_testBit]
    cases h1 : a.testBit i with
    | false => rfl
    | true => cases h2 : b.testBit i with
      | false => rfl
      | true => exact absurd ⟨i, h1, h2⟩ hn
  rw [e] at h
  simp at h
def subN (a b : Nat) : Bool := Nat.beq (Nat.land a b) a
def preMask (its : List Item) : List Nat → Nat
  | [] => 0
  | p :: r => Nat.lor (match nthI its p with | some it => it.mask | none => 0) (preMask its r)
theorem preMask_bit {its : List Item} {i : Nat} : ∀ {ps : List Nat}, (preMask its ps).testBit i = true → ∃ p ∈ ps, ∃ it, nthI its p = some it ∧ i ∈ it.idx
  | p :: r, h => by
    have h' : ((match nthI its p with | some it => it.mask | none => 0) ||| preMask its r).testBit i = true := h
    rw [Nat.testBit_or, Bool.or_eq_true] at h'
    rcases h' with h' | h'
    · cases hp : nthI its p with
      | none => rw [hp] at h'; simp at h'
      | some it =>
        rw [hp] at h'
        exact ⟨p, by simp, it, hp, bitsOf_bit.1 h'⟩
    · obtain ⟨q, h1, it, h2, h3⟩ := preMask_bit h'
      exact ⟨q, by simp [h1], it, h2, h3⟩
  | [], h => by simp [preMask] at h
/-- The operations behind an item's first one. -/
def chkP (ops : Array Oper) (l : List Oper) (D A : List Nat) (L C : Nat) : List (Tag × Nat) → Nat → Bool
  | [], _ => true
  | (.p, k) :: ts, m => (!Nat.testBit L k && (rdyK D m k && freeAt ops l D m k)) && chkP ops l D A L C ts (m ||| 2 ^ k)
  | (.r, k) :: ts, m => (!Nat.testBit L k && (rdyK D m k && (freeAt ops l D m k && crossK L k (A.getD k 0) A 0))) && chkP ops l D A L C ts (m ||| 2 ^ k)
  | (.s, k) :: ts, m => (!Nat.testBit L k && (rdyK D m k && (freeAt ops l D m k && crossK (L ^^^ (L &&& C)) k (A.getD k 0) A 0))) && chkP ops l D A L C ts (m ||| 2 ^ k)
  | _ :: _, _ => false
theorem freeK_mono {ops : Array Oper} {oi : Oper} {m m' k : Nat} (hm : ∀ i, m.testBit i = true → m'.testBit i = true) : ∀ (l : List Oper) (D : List Nat) (j : Nat), freeK ops oi m k l D j = true → freeK ops oi m' k l D j = true
  | [], _, _, _ => by simp [freeK]
  | _ :: _, [], _, _ => by simp [freeK]
  | o :: l, d :: D, j, h => by
    simp only [freeK, Bool.and_eq_true, Bool.or_eq_true] at h ⊢
    refine ⟨?_, freeK_mono hm l D (j + 1) h.2⟩
    rcases h.1 with h | h | h
    · exact .inl h
    · exact .inr (.inl (hm _ h))
    · exact .inr (.inr h)
theorem freeAt_mono {ops : Array Oper} {l : List Oper} {D : List Nat} {m m' k : Nat} (hm : ∀ i, m.testBit i = true → m'.testBit i = true) (h : freeAt ops l D m k = true) : freeAt ops l D m' k = true := by
  unfold freeAt at h ⊢
  split at h
  · exact freeK_mono hm _ _ _ h
  · cases h
theorem rdyK_mono {D : List Nat} {m m' k : Nat} (hm : ∀ i, m.testBit i = true → m'.testBit i = true) (hk : m'.testBit k = false) (h : rdyK D m k = true) : rdyK D m' k = true := by
  unfold rdyK at h ⊢
  split at h
  · simp only [Bool.and_eq_true, Bool.not_eq_true'] at h ⊢
    exact ⟨hk, land_eq.2 fun i hi => hm i (land_eq.1 h.2 i hi)⟩
  · cases h
theorem bit_lor {m k j : Nat} : (m ||| 2 ^ k).testBit j = true ↔ m.testBit j = true ∨ k = j := by
  rw [Nat.testBit_or, Bool.or_eq_true, Nat.testBit_two_pow]; simp
def maskAfter : List (Tag × Nat) → Nat → Nat
  | [], m => m
  | p :: ts, m => maskAfter ts (m ||| 2 ^ p.2)
theorem maskAfter_bit {j : Nat} : ∀ {ts : List (Tag × Nat)} {m : Nat}, (maskAfter ts m).testBit j = true ↔ m.testBit j = true ∨ j ∈ ts.map Prod.snd
  | [], m => by simp [maskAfter]
  | p :: ts, m => by
    rw [maskAfter, maskAfter_bit (ts := ts), bit_lor, List.map_cons, List.mem_cons]
    constructor
    · rintro ((h | h) | h)
      · exact .inl h
      · exact .inr (.inl h.symm)
      · exact .inr (.inr h)
    · rintro (h | h | h)
      · exact .inl (.inl h)
      · exact .inl (.inr h.symm)
      · exact .inr h
theorem chk_of_chkP {ops : Array Oper} {l : List Oper} {D A : List Nat} {L C n T : Nat} : ∀ (ts : List (Tag × Nat)) (m m' : Nat), chkP ops l D A L C ts m = true → (∀ i, m.testBit i = true → m'.testBit i = true) → (∀ i, m'.testBit i = true → T.testBit i = true ∨ m.testBit i = true) → (∀ p ∈ ts, T.testBit p.2 = false) →
    chk ops l D A L C (ts ++ [(.f (maskAfter ts m') L C, n)]) m' = true
  | [], m, m', _, _, _, _ => by simp [chk, maskAfter]
  | (t, k) :: ts, m, m', h, hm, hm2, hT => by
    have hk0 : rdyK D m k = true → m'.testBit k = false := fun hr => by
      have h0 : m.testBit k = false := by
        unfold rdyK at hr
        split at hr
        · simp only [Bool.and_eq_true, Bool.not_eq_true'] at hr; exact hr.1
        · cases hr
      cases hb : m'.testBit k with
      | false => rfl
      | true =>
        rcases hm2 k hb with h1 | h1
        · rw [hT (t, k) (by simp)] at h1; cases h1
        · rw [h0] at h1; cases h1
    have rest : chkP ops l D A L C ts (m ||| 2 ^ k) = true → chk ops l D A L C (ts ++ [(.f (maskAfter ts (m' ||| 2 ^ k)) L C, n)]) (m' ||| 2 ^ k) = true := fun h2 =>
      chk_of_chkP ts _ _ h2 (fun i hi => by rw [bit_lor] at hi ⊢; exact hi.imp (hm i) id) (fun i hi => by
        rw [bit_lor] at hi ⊢
        rcases hi with hi | hi
        · rcases hm2 i hi with h1 | h1
          · exact .inl h1
          · exact .inr (.inl h1)
        · exact .inr (.inr hi)) (fun p hp => hT p (by simp [hp]))
    cases t with
    | p =>
      simp only [chkP, Bool.and_eq_true] at h
      obtain ⟨⟨h1, h2, h3⟩, h4⟩ := h
      simp only [List.cons_append, chk, maskAfter, Bool.and_eq_true]
      exact ⟨⟨h1, rdyK_mono hm (hk0 h2) h2, freeAt_mono hm h3⟩, rest h4⟩
    | r =>
      simp only [chkP, Bool.and_eq_true] at h
      obtain ⟨⟨h1, h2, h3, h5⟩, h4⟩ := h
      simp only [List.cons_append, chk, maskAfter, Bool.and_eq_true]
      exact ⟨⟨h1, rdyK_mono hm (hk0 h2) h2, freeAt_mono hm h3, h5⟩, rest h4⟩
    | s =>
      simp only [chkP, Bool.and_eq_true] at h
      obtain ⟨⟨h1, h2, h3, h5⟩, h4⟩ := h
      simp only [List.cons_append, chk, maskAfter, Bool.and_eq_true]
      exact ⟨⟨h1, rdyK_mono hm (hk0 h2) h2, freeAt_mono hm h3, h5⟩, rest h4⟩
    | l => simp [chkP] at h
    | c => simp [chkP] at h
    | f => simp [chkP] at h
    | g => simp [chkP] at h
theorem opsOf_ps {ops : Array Oper} {l : List Oper} {D A : List Nat} {L C n T : Nat} : ∀ (ts : List (Tag × Nat)) (m : Nat), chkP ops l D A L C ts m = true → opsOf ops (ts ++ [(.f T L C, n)]) = ts.map (fun p => ops[p.2]?) ∧ extra (ts ++ [(.f T L C, n)]) = n
  | [], _, _ => ⟨rfl, rfl⟩
  | (t, k) :: ts, m, h => by
    have ih := fun m h => opsOf_ps (ops := ops) (l := l) (D := D) (A := A) (L := L) (C := C) (n := n) (T := T) ts m h
    cases t with
    | p => simp only [chkP, Bool.and_eq_true] at h; have := ih _ h.2; exact ⟨by simp [opsOf, this.1], by simp [extra, this.2]⟩
    | r => simp only [chkP, Bool.and_eq_true] at h; have := ih _ h.2; exact ⟨by simp [opsOf, this.1], by simp [extra, this.2]⟩
    | s => simp only [chkP, Bool.and_eq_true] at h; have := ih _ h.2; exact ⟨by simp [opsOf, this.1], by simp [extra, this.2]⟩
    | l => simp [chkP] at h
    | c => simp [chkP] at h
    | f => simp [chkP] at h
    | g => simp [chkP] at h
def incrN : List Nat → Bool
  | [] => true
  | a :: r => r.all (fun b => Nat.blt a b) && incrN r
theorem incrN_spec : ∀ {l : List Nat}, incrN l = true → l.Pairwise (· < ·)
  | [], _ => .nil
  | a :: r, h => by
    simp only [incrN, Bool.and_eq_true, List.all_eq_true] at h
    exact List.pairwise_cons.2 ⟨fun b hb => by have := h.1 b hb; simpa using this, incrN_spec h.2⟩
def chkI (ops : Array Oper) (l : List Oper) (its : List Item) (D A : List Nat) (L C m : Nat) : List Item → Nat → Bool
  | [], _ => true
  | it :: r, i => (Nat.testBit L it.k && (it.pre.all (fun p => Nat.blt p i && meetN (A.getD it.k 0) (preMask its [p])) && (incrN it.pre && (rdyK D (m ||| preMask its it.pre) it.k && (it.idx.all (fun j => Nat.blt j l.length) && chkP ops l D A L C it.ps (m ||| preMask its it.pre ||| 2 ^ it.k)))))) && chkI ops l its D A L C m r (i + 1)
def disjN : List Item → Nat → Bool
  | [], _ => true
  | it :: r, m => !meetN it.mask m && disjN r (Nat.lor m it.mask)
def disjD : List Item → List Nat → Bool
  | [], _ => true
  | it :: r, ds => it.ds.all (fun d => !inN d ds) && disjD r (it.ds ++ ds)
def chkJ (its : List Item) (D A : List Nat) (m : Nat) : List Nat → Nat → Bool
  | [], _ => true
  | d :: r, j => (Nat.testBit m j || (its.any (fun it => Nat.beq it.k j || (inN j (it.ps.map Prod.snd) && meetN d it.mask)) || its.all (fun it => meetN (A.getD j 0) it.mask && !Nat.testBit it.mask j))) && chkJ its D A m r (j + 1)
def fuelOf (T : Nat) : List Item → Nat
  | [] => 0
  | it :: r => (bif Nat.testBit T it.k then 0 else 1 + it.ps.length) + fuelOf T r
def allMask (m : Nat) : List Item → Nat
  | [] => m
  | it :: r => allMask (Nat.lor m it.mask) r
def chkC (ops : List Oper) (its : List Item) (all : List Nat) (D A : List Nat) (L C m n : Nat) (fr : Fr) (ordR : List Nat) (tsR : List (Tag × Nat)) : Bool :=
  chkI ops.toArray ops its D A L C m its 0 && (disjN its m && (disjD its (fr.map Prod.fst) && (chkJ its D A m D 0 && (incrN all && (all.all (fun p => Nat.blt p its.length) &&
    (Nat.beq n (((inOrder ops ordR).length + extra tsR) + fuelOf m its) && chk ops.toArray ops D A L C tsR (allMask m its)))))))

/-! Frames. -/
theorem Rep.append {N : Nat} {a : Act} {f1 f2 : Fr} (h1 : Rep N a f1) (h2 : Rep N a f2) : Rep N a (f1 ++ f2) := ⟨h1.size, h1.defers, fun t v h => by
  rw [Fr.get_append] at h
  cases hc : f1.get t with
  | some u => rw [hc] at h; exact h1.get t v (hc.trans h)
  | none => rw [hc] at h; exact h2.get t v h⟩
/-- All slots as they are. -/
theorem dump_ex {N : Nat} {a : Act} {fr : Fr} (h : Rep N a fr) : ∃ fo : Fr, Rep N a fo ∧ ∀ t v, a.tmps[t]? = some v → fo.get t = some v := by
  have key : ∀ (k : Nat), ∃ fo : Fr, (∀ t v, fo.get t = some v → a.tmps[t]? = some v) ∧ ∀ t v, t < k → a.tmps[t]? = some v → fo.get t = some v := by
    intro k
    induction k with
    | zero => exact ⟨[], (fun t v h => by cases h), fun t v h => absurd h (Nat.not_lt_zero _)⟩
    | succ k ih =>
      obtain ⟨fo, h1, h2⟩ := ih
      cases hk : a.tmps[k]? with
      | none =>
        refine ⟨fo, h1, fun t v ht hv => ?_⟩
        rcases Nat.lt_or_ge t k with h | h
        · exact h2 t v h hv
        · obtain rfl : t = k := by omega
          rw [hk] at hv; cases hv
      | some u =>
        refine ⟨(k, u) :: fo, fun t v hv => ?_, fun t v ht hv => ?_⟩
        · rw [Fr.get_cons] at hv
          by_cases e : k = t
          · subst e; rw [if_pos rfl] at hv; rw [hk]; exact hv
          · rw [if_neg e] at hv; exact h1 t v hv
        · rw [Fr.get_cons]
          by_cases e : k = t
          · subst e; rw [if_pos rfl, ← hk]; exact hv
          · rw [if_neg e]; exact h2 t v (by omega) hv
  obtain ⟨fo, h1, h2⟩ := key a.tmps.size
  exact ⟨fo, ⟨h.size, h.defers, h1⟩, fun t v hv => h2 t v (Array.getElem?_eq_some_iff.1 hv).1 hv⟩
theorem zip_get {t : Nat} {v : Value} : ∀ {ds : List Nat} {vs : List Value}, Fr.get (ds.zip vs) t = some v → t ∈ ds
  | [], _, h => by simp [Fr.get] at h
  | _ :: _, [], h => by simp [Fr.get] at h
  | d :: ds, u :: vs, h => by
    rw [List.zip_cons_cons, Fr.get_cons] at h
    by_cases e : d = t
    · subst e; simp
    · rw [if_neg e] at h; exact List.mem_cons_of_mem _ (zip_get h)
section
variable {its : List Item} {w : World} {B N : Nat} {a : Act} {lo hi : Nat → Nat} {vv : Nat → List Value}
theorem apartAll_of {l h : Nat} : ∀ {seen : List (Nat × Nat)}, (∀ q ∈ seen, q.2 ≤ l ∨ h ≤ q.1) → apartAll seen l h
  | [], _ => trivial
  | q :: r, hq => ⟨hq q (by simp), apartAll_of (fun q' h' => hq q' (by simp [h']))⟩
theorem given_elim : ∀ (ps : List Nat) (seen : List (Nat × Nat)) (fr : Fr) (K : Fr → Prop), Rep N a fr →
    (∀ p ∈ ps, ∃ it, nthI its p = some it ∧ Rep N a (it.ds.zip (vv p)) ∧ it.φ (vv p) w (lo p) (hi p) ∧ B ≤ lo p ∧ lo p ≤ hi p ∧ hi p ≤ w.heap.size) →
    ps.Pairwise (fun p q => hi p ≤ lo q ∨ hi q ≤ lo p) → (∀ q ∈ seen, ∀ p ∈ ps, q.2 ≤ lo p ∨ hi p ≤ q.1) → given its w B ps seen fr K → ∃ fr', Rep N a fr' ∧ (∀ t, fr'.get t = none → fr.get t = none) ∧ K fr'
  | [], _, fr, K, hr, _, _, _, h => ⟨fr, hr, fun _ h => h, h⟩
  | p :: r, seen, fr, K, hr, hp, hpw, hs, h => by
    obtain ⟨it, h1, h2, h3, h4, h5, h6⟩ := hp p (by simp)
    simp only [given, h1] at h
    have h7 := h (vv p) (lo p) (hi p) h3 h4 h5 h6 (apartAll_of (fun q hq => hs q hq p (by simp)))
    obtain ⟨hpw1, hpw2⟩ := List.pairwise_cons.1 hpw
    obtain ⟨fr', k1, k2, k3⟩ := given_elim r ((lo p, hi p) :: seen) _ K (h2.append hr) (fun q hq => hp q (by simp [hq])) hpw2 (fun q hq p' hp' => by
      rcases List.mem_cons.1 hq with e | e
      · subst e; exact hpw1 p' hp'
      · exact hs q e p' (by simp [hp'])) h7
    refine ⟨fr', k1, fun t ht => ?_, k3⟩
    have := k2 t ht
    rw [Fr.get_append] at this
    cases hc : Fr.get (it.ds.zip (vv p)) t with
    | some u => rw [hc] at this; cases this
    | none => rw [hc] at this; exact this
end
theorem allMask_bit {j : Nat} : ∀ {its : List Item} {m : Nat}, (allMask m its).testBit j = true ↔ m.testBit j = true ∨ ∃ it ∈ its, j ∈ it.idx
  | [], m => by simp [allMask]
  | it :: r, m => by
    rw [allMask, allMask_bit (its := r), show (Nat.lor m it.mask).testBit j = (m.testBit j || it.mask.testBit j) from Nat.testBit_or .., Bool.or_eq_true, show it.mask.testBit j = true ↔ j ∈ it.idx from bitsOf_bit]
    constructor
    · rintro ((h | h) | ⟨x, h1, h2⟩)
      · exact .inl h
      · exact .inr ⟨it, by simp, h⟩
      · exact .inr ⟨x, by simp [h1], h2⟩
    · rintro (h | ⟨x, h1, h2⟩)
      · exact .inl (.inl h)
      · rcases List.mem_cons.1 h1 with e | e
        · subst e; exact .inl (.inr h2)
        · exact .inr ⟨x, e, h2⟩
theorem disjN_spec : ∀ {its : List Item} {m : Nat}, disjN its m = true → (∀ it ∈ its, ∀ j ∈ it.idx, m.testBit j = false) ∧ ∀ i i' it it', nthI its i = some it → nthI its i' = some it' → i ≠ i' → ∀ j ∈ it.idx, j ∉ it'.idx
  | [], m, _ => ⟨fun _ h => absurd h (by simp), fun i _ _ _ h => by cases i <;> cases h⟩
  | x :: r, m, h => by
    simp only [disjN, Bool.and_eq_true, Bool.not_eq_true'] at h
    obtain ⟨h1, h2⟩ := h
    obtain ⟨k1, k2⟩ := disjN_spec h2
    have kx : ∀ j ∈ x.idx, m.testBit j = false := fun j hj => by
      cases hb : m.testBit j with
      | false => rfl
      | true =>
        have : meetN x.mask m = true := by
          unfold meetN
          simp only [Bool.not_eq_true']
          cases hz : Nat.beq (Nat.land x.mask m) 0 with
          | false => rfl
          | true =>
            have e := Nat.eq_of_beq_eq_true hz
            have : (x.mask &&& m).testBit j = true := by rw [Nat.testBit_and, hb, show x.mask.testBit j = true from bitsOf_bit.2 hj]; rfl
            rw [show x.mask &&& m = 0 from e] at this
            simp at this
        rw [h1] at this; cases this
    have kr : ∀ it ∈ r, ∀ j ∈ it.idx, m.testBit j = false ∧ j ∉ x.idx := fun it hit j hj => by
      have := k1 it hit j hj
      rw [show (Nat.lor m x.mask).testBit j = (m.testBit j || x.mask.testBit j) from Nat.testBit_or .., Bool.or_eq_false_iff] at this
      refine ⟨this.1, fun hx => ?_⟩
      have h3 : x.mask.testBit j = true := bitsOf_bit.2 hx
      rw [this.2] at h3; cases h3
    refine ⟨fun it hit j hj => ?_, fun i i' it it' hi hi' hne j hj hj' => ?_⟩
    · rcases List.mem_cons.1 hit with e | e
      · subst e; exact kx j hj
      · exact (kr it e j hj).1
    · cases i with
      | zero =>
        injection hi with hi; subst hi
        cases i' with
        | zero => exact hne rfl
        | succ i' => exact (kr it' (nthI_mem (l := r) (i := i') hi') j hj').2 hj
      | succ i =>
        cases i' with
        | zero => injection hi' with hi'; subst hi'; exact (kr it (nthI_mem (l := r) (i := i) hi) j hj).2 hj'
        | succ i' => exact k2 i i' it it' hi hi' (by omega) j hj hj'
theorem inN_iff {t : Nat} : ∀ {l : List Nat}, inN t l = true ↔ t ∈ l
  | [] => by simp [inN]
  | a :: l => by
    rw [List.mem_cons, ← inN_iff (l := l), inN]
    cases hb : Nat.beq a t with
    | true => simp [(Nat.eq_of_beq_eq_true hb).symm]
    | false => simp [show t ≠ a from fun e => by subst e; simp at hb]
theorem disjD_spec : ∀ {its : List Item} {ds : List Nat}, disjD its ds = true → (∀ it ∈ its, ∀ d ∈ it.ds, d ∉ ds) ∧ ∀ i i' it it', nthI its i = some it → nthI its i' = some it' → i ≠ i' → ∀ d ∈ it.ds, d ∉ it'.ds
  | [], _, _ => ⟨fun _ h => absurd h (by simp), fun i _ _ _ h => by cases i <;> cases h⟩
  | x :: r, ds, h => by
    simp only [disjD, Bool.and_eq_true, List.all_eq_true, Bool.not_eq_true'] at h
    obtain ⟨h1, h2⟩ := h
    obtain ⟨k1, k2⟩ := disjD_spec h2
    have kx : ∀ d ∈ x.ds, d ∉ ds := fun d hd hm => by have := h1 d hd; rw [inN_iff.2 hm] at this; cases this
    have kr : ∀ it ∈ r, ∀ d ∈ it.ds, d ∉ x.ds ∧ d ∉ ds := fun it hit d hd => by
      have := k1 it hit d hd
      rw [List.mem_append, not_or] at this
      exact this
    refine ⟨fun it hit d hd => ?_, fun i i' it it' hi hi' hne d hd hd' => ?_⟩
    · rcases List.mem_cons.1 hit with e | e
      · subst e; exact kx d hd
      · exact (kr it e d hd).2
    · cases i with
      | zero =>
        injection hi with hi; subst hi
        cases i' with
        | zero => exact hne rfl
        | succ i' => exact (kr it' (nthI_mem (l := r) (i := i') hi') d hd').1 hd
      | succ i =>
        cases i' with
        | zero => injection hi' with hi'; subst hi'; exact (kr it (nthI_mem (l := r) (i := i) hi) d hd).1 hd'
        | succ i' => exact k2 i i' it it' hi hi' (by omega) d hd hd'
theorem nthOp_eq : ∀ (l : List Oper) (k : Nat), nthOp l k = l[k]?
  | [], _ => rfl
  | _ :: _, 0 => rfl
  | _ :: l, k + 1 => by rw [nthOp, nthOp_eq l k]; simp
theorem inOrder_map {ops : List Oper} : ∀ {ks : List Nat}, (∀ j ∈ ks, j < ops.length) → (inOrder ops ks).map some = ks.map (fun k => ops.toArray[k]?)
  | [], _ => rfl
  | k :: ks, h => by
    have hk : k < ops.length := h k (by simp)
    rw [inOrder, nthOp_eq, List.getElem?_eq_getElem hk]
    simp only [List.map_cons]
    rw [inOrder_map (fun j hj => h j (by simp [hj]))]
    simp [hk]
theorem fuel_step {T T2 : Nat} : ∀ {its : List Item} {i : Nat} {it : Item}, nthI its i = some it → T.testBit it.k = false → T2.testBit it.k = true → (∀ i' it', nthI its i' = some it' → i' ≠ i → T2.testBit it'.k = T.testBit it'.k) → fuelOf T its = fuelOf T2 its + (1 + it.ps.length)
  | x :: r, 0, it, h, h1, h2, h3 => by
    injection h with h; subst h
    have hr : ∀ (r : List Item), (∀ y ∈ r, T2.testBit y.k = T.testBit y.k) → fuelOf T r = fuelOf T2 r := fun r hy => by
      induction r with
      | nil => rfl
      | cons y r ih => rw [fuelOf, fuelOf, hy y (by simp), ih (fun z hz => hy z (by simp [hz]))]
    rw [fuelOf, fuelOf, h1, h2, hr r (fun y hy => by obtain ⟨j, _, hj⟩ := nthI_of_mem hy; exact h3 (j + 1) y hj (by omega))]
    simp only [cond_true, cond_false]; omega
  | x :: r, i + 1, it, h, h1, h2, h3 => by
    have := fuel_step (its := r) (i := i) h h1 h2 (fun i' it' hi' hne => h3 (i' + 1) it' hi' (by omega))
    rw [fuelOf, fuelOf, this, h3 0 x rfl (by omega)]; omega
theorem fuel_zero {T : Nat} : ∀ {its : List Item}, (∀ it ∈ its, T.testBit it.k = true) → fuelOf T its = 0
  | [], _ => rfl
  | x :: r, h => by rw [fuelOf, h x (by simp), fuel_zero (fun y hy => h y (by simp [hy]))]; rfl
theorem fuel_same {T T2 : Nat} : ∀ {its : List Item}, (∀ it ∈ its, T2.testBit it.k = T.testBit it.k) → fuelOf T2 its = fuelOf T its
  | [], _ => rfl
  | x :: r, h => by rw [fuelOf, fuelOf, h x (by simp), fuel_same (fun y hy => h y (by simp [hy]))]

theorem chkI_spec {ops : Array Oper} {l : List Oper} {its : List Item} {D A : List Nat} {L C m : Nat} : ∀ {r : List Item} {i0 : Nat}, chkI ops l its D A L C m r i0 = true → ∀ i it, nthI r i = some it →
    L.testBit it.k = true ∧ (∀ p ∈ it.pre, p < i0 + i ∧ ∃ j, (A.getD it.k 0).testBit j = true ∧ ∃ x, nthI its p = some x ∧ j ∈ x.idx) ∧ it.pre.Pairwise (· < ·) ∧ rdyK D (m ||| preMask its it.pre) it.k = true ∧ (∀ j ∈ it.idx, j < l.length) ∧ chkP ops l D A L C it.ps (m ||| preMask its it.pre ||| 2 ^ it.k) = true
  | x :: r, i0, h, i, it, hi => by
    simp only [chkI, Bool.and_eq_true, List.all_eq_true] at h
    obtain ⟨⟨h1, h2, h3, h4, h5, h6⟩, h7⟩ := h
    cases i with
    | zero =>
      injection hi with hi; subst hi
      refine ⟨h1, fun p hp => ?_, incrN_spec h3, h4, fun j hj => by have := h5 j hj; simpa using this, h6⟩
      obtain ⟨h8, h9⟩ := h2 p hp
      obtain ⟨j, k1, k2⟩ := meetN_spec h9
      obtain ⟨q, hq, y, hy, hj⟩ := preMask_bit k2
      rw [List.mem_singleton] at hq; subst hq
      exact ⟨by simpa using h8, j, k1, y, hy, hj⟩
    | succ i =>
      have := chkI_spec h7 i it hi
      refine ⟨this.1, fun p hp => ?_, this.2.2⟩
      obtain ⟨k1, k2⟩ := this.2.1 p hp
      exact ⟨by omega, k2⟩
theorem chkJ_spec {its : List Item} {D A : List Nat} {m : Nat} : ∀ {r : List Nat} {j0 : Nat}, chkJ its D A m r j0 = true → ∀ j d, r[j]? = some d →
    m.testBit (j0 + j) = true ∨ (∃ it ∈ its, it.k = j0 + j ∨ (j0 + j ∈ it.ps.map Prod.snd ∧ ∃ b, d.testBit b = true ∧ b ∈ it.idx)) ∨ ∀ it ∈ its, (∃ b, (A.getD (j0 + j) 0).testBit b = true ∧ b ∈ it.idx) ∧ j0 + j ∉ it.idx
  | [], _, _, j, d, hd => by simp at hd
  | d0 :: r, j0, h, j, d, hd => by
    simp only [chkJ, Bool.and_eq_true, Bool.or_eq_true, List.any_eq_true, List.all_eq_true] at h
    cases j with
    | zero =>
      simp only [List.getElem?_cons_zero, Option.some.injEq] at hd
      subst hd
      rw [Nat.add_zero]
      rcases h.1 with h1 | ⟨it, h1, h2⟩ | h1
      · exact .inl h1
      · refine .inr (.inl ⟨it, h1, ?_⟩)
        rcases h2 with h2 | ⟨h2, h3⟩
        · exact .inl (Nat.eq_of_beq_eq_true h2)
        · obtain ⟨b, k1, k2⟩ := meetN_spec h3
          exact .inr ⟨inN_iff.1 h2, b, k1, bitsOf_bit.1 k2⟩
      · refine .inr (.inr fun it hit => ?_)
        have h2 := h1 it hit
        simp only [Bool.and_eq_true, Bool.not_eq_true'] at h2
        obtain ⟨b, k1, k2⟩ := meetN_spec h2.1
        refine ⟨⟨b, k1, bitsOf_bit.1 k2⟩, fun hm => ?_⟩
        rw [show it.mask.testBit j0 = true from bitsOf_bit.2 hm] at h2
        cases h2.2
    | succ j =>
      have := chkJ_spec h.2 j d (by simpa using hd)
      rw [show j0 + (j + 1) = j0 + 1 + j by omega]
      exact this
/-- Where the operations at its have come to (those whose bits are in T). -/
structure ConcSt (its : List Item) (N : Nat) (fr : Fr) (w0 : World) (m T : Nat) (a : Act) (w : World) (lo hi : Nat → Nat) (vv : Nat → List Value) : Prop where
  rep : Rep N a fr
  bel : Below w0.heap.size w0 w
  low : ∀ j, m.testBit j = true → T.testBit j = true
  up : ∀ j, T.testBit j = true → m.testBit j = true ∨ ∃ it ∈ its, j ∈ it.idx
  whole : ∀ it ∈ its, ∀ j ∈ it.idx, T.testBit j = T.testBit it.k
  f : ∀ i it, nthI its i = some it → T.testBit it.k = true → Rep N a (it.ds.zip (vv i)) ∧ it.φ (vv i) w (lo i) (hi i) ∧ w0.heap.size ≤ lo i ∧ lo i ≤ hi i ∧ hi i ≤ w.heap.size
  ap : ∀ i j it it', nthI its i = some it → nthI its j = some it' → T.testBit it.k = true → T.testBit it'.k = true → i ≠ j → hi i ≤ lo j ∨ hi j ≤ lo i
section
variable {P : Program} {fn : Func} {F : Ending → World → Prop} {N : Nat} {ks : List K} {ops : List Oper} {fr : Fr} {w : World} {row : Rw} {L C : Nat}
/-- The step of an item: what it waits for is there; others may have come in between. -/
def stepOf (P : Program) (fn : Func) (F : Ending → World → Prop) (N : Nat) (ks : List K) (ops : List Oper) (fr : Fr) (w : World) (row : Rw) (L C : Nat) (its : List Item) (it : Item) : Prop :=
  ∀ (w' : World), Below w.heap.size w w' → ∀ (fo : Fr) (T T2 n2 : Nat), given its w' w.heap.size it.pre [] (fr ++ fo) fun fr' =>
    (∀ (vs : List Value) (w'' : World), it.φ vs w'' w'.heap.size w''.heap.size → Below w'.heap.size w' w'' → WL P fn F N ks ops.toArray (some (row, [(.f T2 L C, n2)])) [] (it.ds.zip vs ++ fr') w'') →
    WL P fn F N ks ops.toArray (some (row, (.g T L C, it.k) :: (it.ps ++ [(.f T2 L C, n2)]))) (inOrder ops it.idx) fr' w'
def stepsOf (P : Program) (fn : Func) (F : Ending → World → Prop) (N : Nat) (ks : List K) (ops : List Oper) (fr : Fr) (w : World) (row : Rw) (L C : Nat) (its : List Item) : List Item → Prop
  | [] => True
  | it :: r => stepOf P fn F N ks ops fr w row L C its it ∧ stepsOf P fn F N ks ops fr w row L C its r
theorem stepsOf_spec {its : List Item} : ∀ {r : List Item}, stepsOf P fn F N ks ops fr w row L C its r → ∀ it ∈ r, stepOf P fn F N ks ops fr w row L C its it
  | _ :: _, h, it, hi => by
    rcases List.mem_cons.1 hi with e | e
    · subst e; exact h.1
    · exact stepsOf_spec h.2 it e
theorem wl_conc {m n : Nat} (its : List Item) (all D A ordR : List Nat) (tsR : List (Tag × Nat)) (hD : ops.map (dmask .any) = D) (hA : ancs .any ops [] = A) (hc : chkC ops its all D A L C m n fr ordR tsR = true)
    (hlR : (inOrder ops ordR).map some = opsOf ops.toArray tsR) (hst : stables its) (hstep : stepsOf P fn F N ks ops fr w row L C its its)
    (hend : ∀ w', Below w.heap.size w w' → given its w' w.heap.size all [] fr fun fr' => WL P fn F N ks ops.toArray (some (row, tsR)) (inOrder ops ordR) fr' w') :
    WL P fn F N ks ops.toArray (some (row, [(.f m L C, n)])) [] fr w := by
  simp only [chkC, Bool.and_eq_true, List.all_eq_true] at hc
  obtain ⟨c1, c2, c3, c4, c5, c6, c8, c9⟩ := hc
  have hI := fun i it hi => chkI_spec c1 i it hi
  have hJ := fun j d hd => chkJ_spec c4 j d hd
  obtain ⟨d1, d2⟩ := disjN_spec c2
  obtain ⟨e1, e2⟩ := disjD_spec c3
  have hstab := stables_spec hst
  have hsteps := stepsOf_spec hstep
  obtain ⟨base, hbase⟩ : ∃ b, (inOrder ops ordR).length + extra tsR = b := ⟨_, rfl⟩
  have hn := Nat.eq_of_beq_eq_true c8
  rw [hbase] at hn
  subst hn
  have hfr : ∀ it ∈ its, ∀ d ∈ it.ds, fr.get d = none := fun it hit d hd => by
    refine (Fr.get_none_iff fr d).2 ?_
    cases hb : inN d (fr.map Prod.fst) with
    | false => rfl
    | true => exact absurd (inN_iff.1 hb) (e1 it hit d hd)
  have main : ∀ (f T : Nat) (a : Act) (w' : World) (lo hi : Nat → Nat) (vv : Nat → List Value), f = fuelOf T its → ConcSt its N fr w m T a w' lo hi vv → Left P (kpost P fn F ks) ops.toArray (some (row, [(.f T L C, base + f)])) [] a w' := by
    intro f
    induction f using Nat.strongRecOn with
    | _ f ih =>
      intro T a w' lo hi vv hf hS
      intro D' A' L' C' listed m' hm _ hchk
      unfold chk at hchk
      simp only [Bool.and_eq_true] at hchk
      obtain ⟨hm1, hL1, hC1⟩ := hchk
      obtain rfl := Nat.eq_of_beq_eq_true hm1
      obtain rfl := Nat.eq_of_beq_eq_true hL1
      obtain rfl := Nat.eq_of_beq_eq_true hC1
      obtain rfl : D' = D := by rw [hm.D, ← hD]
      obtain rfl : A' = A := by rw [hm.A, ← hA]
      show wpMix P .any ops.toArray _ _ _ row (0 + (base + f)) listed a w'
      rw [Nat.zero_add]
      have hbefore : ∀ j i, (A'.getD j 0).testBit i = true → Before .any ops.toArray i j := by
        rw [hm.A]
        exact ancs_spec ops.toArray.toList [] (fun j => by simp) (fun j i hb => by simp at hb)
      -- what is ahead of a ready operation is through
      have hahead : ∀ j ∈ Region.ready .any ops.toArray listed, ∀ b, (A'.getD j 0).testBit b = true → b = j ∨ m'.testBit b = true := fun j hj b hb => by
        by_cases e : b = j
        · exact .inl e
        · refine .inr ?_
          have hlt : j < listed.size := by
            have h0 := (mem_ready.1 hj).1
            rcases Nat.lt_or_ge j listed.size with h | h
            · exact h
            · simp [Array.getElem?_eq_none h] at h0
          have h1 := hbefore j b hb _ (hm.closed.set hj) (by simp [hlt])
          rw [getD_set_ne false (Ne.symm e)] at h1
          rw [← hm.bits]; exact h1
      by_cases hall : ∀ it ∈ its, m'.testBit it.k = true
      · -- all through
        have hf0 : f = 0 := by rw [hf, fuel_zero hall]
        subst hf0
        have hT : m' = allMask m its := Nat.eq_of_testBit_eq fun j => by
          cases h1 : m'.testBit j with
          | true => exact (allMask_bit.2 (hS.up j h1)).symm
          | false =>
            cases h2 : (allMask m its).testBit j with
            | false => rfl
            | true =>
              rcases allMask_bit.1 h2 with h3 | ⟨it, h3, h4⟩
              · rw [hS.low j h3] at h1; cases h1
              · rw [hS.whole it h3 j h4, hall it h3] at h1; cases h1
        have hpos : ∀ p ∈ all, ∃ it, nthI its p = some it := fun p hp => by
          have hlt : p < its.length := by have := c6 p hp; simpa using this
          exact nthI_some hlt
        obtain ⟨fr', k1, _, k2⟩ := given_elim (its := its) (lo := lo) (hi := hi) (vv := vv) all [] fr _ hS.rep (fun p hp => by
          obtain ⟨it, hit⟩ := hpos p hp
          obtain ⟨h1, h2, h3, h4, h5⟩ := hS.f p it hit (hall it (nthI_mem hit))
          exact ⟨it, hit, h1, h2, h3, h4, h5⟩) (List.Pairwise.imp_of_mem (fun {p q} hp hq hpq => by
            obtain ⟨it, hit⟩ := hpos p hp
            obtain ⟨it', hit'⟩ := hpos q hq
            exact hS.ap p q it it' hit hit' (hall it (nthI_mem hit)) (hall it' (nthI_mem hit')) (by omega)) (incrN_spec c5)) (fun q hq => by cases hq) (hend w' hS.bel)
        have := left_elim (k2 a k1) hm hlR (by rw [hT]; exact c9)
        rw [hbase] at this
        simpa using this
      · -- the first item that is left is ready
        obtain ⟨i0, it0, hi0, hu0, hmin⟩ : ∃ i it, nthI its i = some it ∧ m'.testBit it.k = false ∧ ∀ j, j < i → ∀ x, nthI its j = some x → m'.testBit x.k = true := by
          refine Classical.byContradiction fun hno => hall fun it hit => ?_
          obtain ⟨i, _, hi'⟩ := nthI_of_mem hit
          have key : ∀ i it, nthI its i = some it → m'.testBit it.k = true := by
            intro i
            induction i using Nat.strongRecOn with
            | _ i ihi =>
              intro it hit
              cases hb : m'.testBit it.k with
              | true => rfl
              | false => exact absurd ⟨i, it, hit, hb, fun j hj x hx => ihi j hj x hx⟩ hno
          exact key i it hi'
        have hsub : ∀ it, it ∈ its → (∀ p ∈ it.pre, ∀ x, nthI its p = some x → m'.testBit x.k = true) → ∀ j, (m ||| preMask its it.pre).testBit j = true → m'.testBit j = true := fun it hit hp j hj => by
          rw [Nat.testBit_or, Bool.or_eq_true] at hj
          rcases hj with hj | hj
          · exact hS.low j hj
          · obtain ⟨p, h1, x, h2, h3⟩ := preMask_bit hj
            rw [hS.whole x (nthI_mem h2) j h3]
            exact hp p h1 x h2
        have hrdy0 : it0.k ∈ Region.ready .any ops.toArray listed := hm.ready (rdyK_mono (hsub it0 (nthI_mem hi0) fun p hp x hx => hmin p (by have := ((hI i0 it0 hi0).2.1 p hp).1; omega) x hx) hu0 (hI i0 it0 hi0).2.2.2.1)
        obtain ⟨f', hf'⟩ : ∃ f', f = f' + 1 := by
          have := fuel_step (T := m') (T2 := m' ||| it0.mask) hi0 hu0 (by rw [Nat.testBit_or, show it0.mask.testBit it0.k = true from bitsOf_bit.2 (by simp [Item.idx])]; simp) (fun i' it' hi' hne => by
            rw [Nat.testBit_or]
            cases hb : it0.mask.testBit it'.k with
            | false => simp
            | true => exact absurd (bitsOf_bit.1 hb) (d2 i' i0 it' it0 hi' hi0 hne it'.k (by simp [Item.idx])))
          exact ⟨fuelOf (m' ||| it0.mask) its + it0.ps.length, by omega⟩
        rw [hf', ← Nat.add_assoc]
        refine ⟨fun h => (by rw [h] at hrdy0; cases hrdy0), fun j hj => ?_⟩
        -- which one it is
        obtain ⟨hjun, oj, hoj, hjall⟩ := mem_ready.1 hj
        have hjlt : j < ops.toArray.size := (Array.getElem?_eq_some_iff.1 hoj).1
        have hju : m'.testBit j = false := by rw [← hm.getD hjlt]; exact hjun
        have hDj := hm.dAt hoj
        obtain ⟨i, it, hi', rfl⟩ : ∃ i it, nthI its i = some it ∧ it.k = j := by
          rcases hJ j _ hDj with h1 | ⟨it, h1, h2⟩ | h1
          · rw [Nat.zero_add] at h1; rw [hS.low j h1] at hju; cases hju
          · obtain ⟨i, _, hi'⟩ := nthI_of_mem h1
            rw [Nat.zero_add] at h2
            rcases h2 with h2 | ⟨h2, b, h3, h4⟩
            · exact ⟨i, it, hi', h2⟩
            · exfalso
              have h5 : m'.testBit b = true := by
                obtain ⟨e, he, hb, rfl⟩ := dmask_bit.1 h3
                rw [← hm.bits]; exact hjall e he hb
              have h6 := hS.whole it h1 b h4
              have h7 := hS.whole it h1 j (by simp [Item.idx, h2])
              rw [h5] at h6; rw [← h6, hju] at h7; cases h7
          · exfalso
            rw [Nat.zero_add] at h1
            obtain ⟨⟨b, h2, h3⟩, h5⟩ := h1 it0 (nthI_mem hi0)
            rcases hahead j hj b h2 with h4 | h4
            · subst h4; exact h5 h3
            · rw [hS.whole it0 (nthI_mem hi0) b h3, hu0] at h4; cases h4
        obtain ⟨q1, q2, q3, q4, q5, q6⟩ := hI i it hi'
        have hit := nthI_mem hi'
        rw [if_pos q1]
        have hpre : ∀ p ∈ it.pre, ∃ x, nthI its p = some x ∧ m'.testBit x.k = true := fun p hp => by
          obtain ⟨h1, b, h2, x, h3, h4⟩ := q2 p hp
          refine ⟨x, h3, ?_⟩
          rcases hahead it.k hj b h2 with h5 | h5
          · subst h5; exact absurd h4 (d2 i p it x hi' h3 (by omega) _ (by simp [Item.idx]))
          · rw [← hS.whole x (nthI_mem h3) b h4]; exact h5
        have hsb := hsub it hit (fun p hp x hx => by
          obtain ⟨y, h1, h2⟩ := hpre p hp
          rw [hx] at h1; injection h1 with h1; rw [h1]; exact h2)
        obtain ⟨fo, hfo, hfo2⟩ := dump_ex hS.rep
        obtain ⟨T2, hT2⟩ : ∃ T2, maskAfter it.ps (m' ||| 2 ^ it.k) = T2 := ⟨_, rfl⟩
        have hT2b : ∀ j, T2.testBit j = true ↔ m'.testBit j = true ∨ j ∈ it.idx := fun j => by
          rw [← hT2, maskAfter_bit, bit_lor, Item.idx, List.mem_cons]
          constructor
          · rintro ((h | h) | h)
            · exact .inl h
            · exact .inr (.inl h.symm)
            · exact .inr (.inr h)
          · rintro (h | h | h)
            · exact .inl (.inl h)
            · exact .inl (.inr h.symm)
            · exact .inr h
        have hT2k : T2.testBit it.k = true := (hT2b _).2 (.inr (by simp [Item.idx]))
        have hT2o : ∀ i' it', nthI its i' = some it' → i' ≠ i → ∀ j ∈ it'.idx, T2.testBit j = m'.testBit j := fun i' it' hi2 hne j hj => by
          cases hb : m'.testBit j with
          | true => exact (hT2b j).2 (.inl hb)
          | false =>
            cases hb2 : T2.testBit j with
            | false => rfl
            | true =>
              rcases (hT2b j).1 hb2 with h | h
              · rw [hb] at h; cases h
              · exact absurd h (d2 i' i it' it hi2 hi' hne j hj)
        have hfuel := fuel_step (T := m') (T2 := T2) hi' hju hT2k (fun i' it' hi2 hne => hT2o i' it' hi2 hne it'.k (by simp [Item.idx]))
        obtain ⟨fr', k1, k2, k3⟩ := given_elim (its := its) (lo := lo) (hi := hi) (vv := vv) it.pre [] (fr ++ fo) _ (hS.rep.append hfo) (fun p hp => by
          obtain ⟨x, hx, hb⟩ := hpre p hp
          obtain ⟨h1, h2, h3, h4, h5⟩ := hS.f p x hx hb
          exact ⟨x, hx, h1, h2, h3, h4, h5⟩) (List.Pairwise.imp_of_mem (fun {p q} hp hq hpq => by
            obtain ⟨x, hx, hb⟩ := hpre p hp
            obtain ⟨y, hy, hb'⟩ := hpre q hq
            exact hS.ap p q x y hx hy hb hb' (by omega)) q3) (fun q hq => by cases hq) (hsteps it hit w' hS.bel fo m' T2 (base + fuelOf T2 its))
        have hkeep : ∀ t v, a.tmps[t]? = some v → fr'.get t = some v := fun t v hv => by
          cases hg : fr'.get t with
          | some u => rw [← hv]; exact (k1.get t u hg).symm
          | none =>
            have h1 := k2 t hg
            rw [Fr.get_append, hfo2 t v hv] at h1
            cases h2 : fr.get t <;> rw [h2] at h1 <;> cases h1
        have hL := k3 (fun vs w'' hφ hb a' ha' => by
          have hkeep' : ∀ t v, a.tmps[t]? = some v → t ∉ it.ds → a'.tmps[t]? = some v := fun t v hv ht => by
            refine ha'.get t v ?_
            rw [Fr.get_append]
            cases hz : Fr.get (it.ds.zip vs) t with
            | some u => exact absurd (zip_get hz) ht
            | none => exact hkeep t v hv
          have hss := hb.size
          have hs0 := hS.bel.size
          refine ih (fuelOf T2 its) (by omega) T2 a' w'' (fun j => if j = i then w'.heap.size else lo j) (fun j => if j = i then w''.heap.size else hi j) (fun j => if j = i then vs else vv j) rfl
            ⟨⟨ha'.size, ha'.defers, fun t v hv => hkeep' t v (hS.rep.get t v hv) (fun hd => by rw [hfr it hit t hd] at hv; cases hv)⟩, hS.bel.trans (hb.mono hs0), fun j hj => (hT2b j).2 (.inl (hS.low j hj)), fun j hj => ?_, fun it' hit' j hj => ?_, fun i' it' hi2 hb2 => ?_, fun i1 i2 x y hx hy hbx hby hne => ?_⟩
          · rcases (hT2b j).1 hj with h | h
            · exact hS.up j h
            · exact .inr ⟨it, hit, h⟩
          · obtain ⟨i', _, hi2⟩ := nthI_of_mem hit'
            by_cases e : i' = i
            · subst e
              rw [hi'] at hi2; injection hi2 with hi2; subst hi2
              rw [hT2k, (hT2b j).2 (.inr hj)]
            · rw [hT2o i' it' hi2 e j hj, hT2o i' it' hi2 e it'.k (by simp [Item.idx])]
              exact hS.whole it' hit' j hj
          · by_cases e : i' = i
            · subst e
              rw [hi'] at hi2; injection hi2 with hi2; subst hi2
              simp only [if_true]
              refine ⟨⟨ha'.size, ha'.defers, fun t v hv => ha'.get t v ?_⟩, hφ, by omega, by omega, Nat.le_refl _⟩
              rw [Fr.get_append, hv]
            · simp only [if_neg e]
              rw [hT2o i' it' hi2 e it'.k (by simp [Item.idx])] at hb2
              obtain ⟨h1, h2, h3, h4, h5⟩ := hS.f i' it' hi2 hb2
              refine ⟨⟨ha'.size, ha'.defers, fun t v hv => hkeep' t v (h1.get t v hv) (fun hd => ?_)⟩, hstab it' (nthI_mem hi2) _ _ _ _ _ h2 hb, h3, h4, by omega⟩
              exact e2 i' i it' it hi2 hi' e t (zip_get hv) hd
          · by_cases ex : i1 = i
            · subst ex
              have ey : i2 ≠ i1 := Ne.symm hne
              simp only [if_true, if_neg ey]
              rw [hT2o i2 y hy ey y.k (by simp [Item.idx])] at hby
              have := (hS.f i2 y hy hby).2.2.2.2
              exact .inr this
            · by_cases ey : i2 = i
              · subst ey
                simp only [if_true, if_neg ex]
                rw [hT2o i1 x hx ex x.k (by simp [Item.idx])] at hbx
                have := (hS.f i1 x hx hbx).2.2.2.2
                exact .inl this
              · simp only [if_neg ex, if_neg ey]
                rw [hT2o i1 x hx ex x.k (by simp [Item.idx])] at hbx
                rw [hT2o i2 y hy ey y.k (by simp [Item.idx])] at hby
                exact hS.ap i1 i2 x y hx hy hbx hby hne) a k1
        have hmap := inOrder_map q5
        obtain ⟨o, l', hol⟩ : ∃ o l', inOrder ops it.idx = o :: l' := by
          cases h : inOrder ops it.idx with
          | nil => rw [h] at hmap; simp [Item.idx] at hmap
          | cons o l' => exact ⟨o, l', rfl⟩
        rw [hol] at hmap
        have hmap2 : some o = ops.toArray[it.k]? ∧ l'.map some = (it.ps.map Prod.snd).map (fun k => ops.toArray[k]?) := by
          rw [Item.idx, List.map_cons, List.map_cons] at hmap
          exact List.cons.inj hmap
        obtain ⟨o1, o2⟩ := opsOf_ps (ops := ops.toArray) (l := ops.toArray.toList) (n := base + fuelOf T2 its) (T := T2) it.ps _ q6
        have hl' : l'.length = it.ps.length := by have := congrArg List.length hmap2.2; simpa using this
        have fin := hL D' A' listed o l' hol hm hmap2.1.symm (by rw [hmap2.2, o1, List.map_map]; rfl) hj (by
          rw [← hT2]
          exact chk_of_chkP (T := m') it.ps _ _ q6 (fun i hi => by rw [bit_lor] at hi ⊢; exact hi.imp (hsb i) id) (fun i hi => by
            rw [bit_lor] at hi ⊢
            rcases hi with hi | hi
            · exact .inl hi
            · exact .inr (.inr hi)) (fun p hp => by rw [hS.whole it hit p.2 (by simp only [Item.idx, List.mem_cons, List.mem_map]; exact .inr ⟨p, hp, rfl⟩)]; exact hju))
        rw [o2, hl'] at fin
        rw [show base + f' = it.ps.length + (base + fuelOf T2 its) by omega]
        exact fin
  intro a ha
  have h0 : ∀ it ∈ its, m.testBit it.k = false := fun it hit => d1 it hit it.k (by simp [Item.idx])
  exact main _ m a w (fun _ => 0) (fun _ => 0) (fun _ => []) rfl ⟨ha, Below.refl _ _, fun _ h => h, fun _ h => .inl h, fun it hit j hj => by rw [d1 it hit j hj, h0 it hit],
    fun i it hi hb => absurd hb (by rw [h0 it (nthI_mem hi)]; simp), fun i j it it' hi _ hb _ _ => absurd hb (by rw [h0 it (nthI_mem hi)]; simp)⟩
end
end Go.Proofs.Ytpjedpmbninfcaa
