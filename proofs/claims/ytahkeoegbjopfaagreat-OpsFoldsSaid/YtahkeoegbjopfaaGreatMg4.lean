/-
  A region that leaves the order of many operations open, each of which adds to the heap and changes nothing that was there: one step for each of them, from what it waits for; then what they all left. No function of the program is named here.
-/
import Derived.Test.YtahkeoegbjopfaaGreatMg3
namespace Go.Proofs.YtahkeoegbjopfaaGreat
set_option maxRecDepth 100000
open Go.RowKit
structure Item where
 k : Nat
 ps : List (Tag × Nat)
 ds : List Nat
 pre : List Nat
 φ : List Value → World → Nat → Nat → Prop
def Item.idx (it : Item) : List Nat := it.k :: it.ps.map Prod.snd
def bitsOf : List Nat → Nat
 | [] => 0
 | k :: r => Nat.lor (2 ^ k) (bitsOf r)
def Item.mask (it : Item) : Nat := bitsOf it.idx
def nthI : List Item → Nat → Option Item
 | [], _ => none
 | it :: _, 0 => some it
 | _ :: l, k + 1 => nthI l k
theorem nthI_mem : ∀ {l : List Item} {i : Nat} {it : Item}, nthI l i = some it → it ∈ l
 | _ :: _, 0, _, h => by injection h with h; subst h; simp
 | _ :: l, i + 1, _, h => List.mem_cons_of_mem _ (nthI_mem (l := l) (i := i) h)
theorem nthI_of_mem : ∀ {l : List Item} {it : Item}, it ∈ l → ∃ i, i < l.length ∧ nthI l i = some it
 | x :: l, it, h => by
  rcases List.mem_cons.1 h with h | h
  ·subst h; exact ⟨0, by simp, rfl⟩
  ·obtain ⟨i, h1, h2⟩ := nthI_of_mem h
   exact ⟨i + 1, by simpa using h1, h2⟩
theorem nthI_some : ∀ {l : List Item} {i : Nat}, i < l.length → ∃ it, nthI l i = some it
 | x :: _, 0, _ => ⟨x, rfl⟩
 | _ :: l, i + 1, h => nthI_some (l := l) (i := i) (by simpa using h)
theorem bitsOf_bit {j : Nat} : ∀ {l : List Nat}, (bitsOf l).testBit j = true ↔ j ∈ l
 | [] => by simp [bitsOf]
 | k :: r => by
  show (2 ^ k ||| bitsOf r).testBit j = true ↔ _
  rw [Nat.testBit_or, Bool.or_eq_true, bitsOf_bit (l := r), Nat.testBit_two_pow, List.mem_cons]
  constructor
  ·rintro (h | h)
   ·exact .inl (of_decide_eq_true h).symm
   ·exact .inr h
  ·rintro (h | h)
   ·exact .inl (by simp [h])
   ·exact .inr h
def apartAll : List (Nat × Nat) → Nat → Nat → Prop
 | [], _, _ => True
 | p :: r, lo, hi => (p.2 ≤ lo ∨ hi ≤ p.1) ∧ apartAll r lo hi
def given (its : List Item) (w : World) (B : Nat) : List Nat → List (Nat × Nat) → Fr → (Fr → Prop) → Prop
 | [], _, fr, K => K fr
 | p :: r, seen, fr, K => match nthI its p with
  | none => False
  | some it => ∀ vs lo hi, it.φ vs w lo hi → B ≤ lo → lo ≤ hi → hi ≤ w.heap.size → apartAll seen lo hi → given its w B r ((lo, hi) :: seen) (it.ds.zip vs ++ fr) K
def stables : List Item → Prop
 | [] => True
 | it :: r => (∀ vs w w' lo hi, it.φ vs w lo hi → Below w.heap.size w w' → it.φ vs w' lo hi) ∧ stables r
theorem stables_spec : ∀ {l : List Item}, stables l → ∀ it ∈ l, ∀ vs w w' lo hi, it.φ vs w lo hi → Below w.heap.size w w' → it.φ vs w' lo hi
 | _ :: _, h, it, hi => by
  rcases List.mem_cons.1 hi with e | e
  ·subst e; exact h.1
  ·exact stables_spec h.2 it e

/-! What is checked. -/
def meetN (a b : Nat) : Bool := !Nat.beq (Nat.land a b) 0
theorem meetN_spec {a b : Nat} (h : meetN a b = true) : ∃ i, a.testBit i = true ∧ b.testBit i = true := by
 unfold meetN at h
 refine Classical.byContradiction fun hn => ?_
 have e : Nat.land a b = 0 := Nat.eq_of_testBit_eq fun i => by
  show (a &&& b).testBit i = _
  rw [Nat.testBit_and, Nat.zero_testBit]
  cases h1 : a.testBit i with
  | false => rfl
  | true => cases h2 : b.testBit i with
   | false => rfl
   | true => exact absurd ⟨i, h1, h2⟩ hn
 rw [e] at h
 simp at h
def preMask (its : List Item) : List Nat → Nat
 | [] => 0
 | p :: r => Nat.lor (match nthI its p with | some it => it.mask | none => 0) (preMask its r)
theorem preMask_bit {its : List Item} {i : Nat} : ∀ {ps : List Nat}, (preMask its ps).testBit i = true → ∃ p ∈ ps, ∃ it, nthI its p = some it ∧ i ∈ it.idx
 | p :: r, h => by
  have h' : ((match nthI its p with | some it => it.mask | none => 0) ||| preMask its r).testBit i = true := h
  rw [Nat.testBit_or, Bool.or_eq_true] at h'
  rcases h' with h' | h'
  ·cases hp : nthI its p with
   | none => rw [hp] at h'; simp at h'
   | some it =>
    rw [hp] at h'
    exact ⟨p, by simp, it, hp, bitsOf_bit.1 h'⟩
  ·obtain ⟨q, h1, it, h2, h3⟩ := preMask_bit h'
   exact ⟨q, by simp [h1], it, h2, h3⟩
 | [], h => by simp [preMask] at h
def chkP (ops : Array Oper) (l : List Oper) (D A : List Nat) (L C : Nat) : List (Tag × Nat) → Nat → Bool
 | [], _ => true
 | (.p, k) :: ts, m => (!Nat.testBit L k && (rdyK D m k && freeAt ops l D m k)) && chkP ops l D A L C ts (m ||| 2 ^ k)
 | (.r, k) :: ts, m => (!Nat.testBit L k && (rdyK D m k && (freeAt ops l D m k && crossK L k (A.getD k 0) A 0))) && chkP ops l D A L C ts (m ||| 2 ^ k)
 | (.s, k) :: ts, m => (!Nat.testBit L k && (rdyK D m k && (freeAt ops l D m k && crossK (L ^^^ (L &&& C)) k (A.getD k 0) A 0))) && chkP ops l D A L C ts (m ||| 2 ^ k)
 | _ :: _, _ => false
theorem freeK_mono {ops : Array Oper} {oi : Oper} {m m' k : Nat} (hm : ∀ i, m.testBit i = true → m'.testBit i = true) : ∀ (l : List Oper) (D : List Nat) (j : Nat), freeK ops oi m k l D j = true → freeK ops oi m' k l D j = true
 | [], _, _, _ => by simp [freeK]
 | _ :: _, [], _, _ => by simp [freeK]
 | o :: l, d :: D, j, h => by
  simp only [freeK, Bool.and_eq_true, Bool.or_eq_true] at h ⊢
  refine ⟨?_, freeK_mono hm l D (j + 1) h.2⟩
  rcases h.1 with h | h | h
  ·exact .inl h
  ·exact .inr (.inl (hm _ h))
  ·exact .inr (.inr h)
theorem freeAt_mono {ops : Array Oper} {l : List Oper} {D : List Nat} {m m' k : Nat} (hm : ∀ i, m.testBit i = true → m'.testBit i = true) (h : freeAt ops l D m k = true) : freeAt ops l D m' k = true := by
 unfold freeAt at h ⊢
 split at h
 ·exact freeK_mono hm _ _ _ h
 ·cases h
theorem rdyK_mono {D : List Nat} {m m' k : Nat} (hm : ∀ i, m.testBit i = true → m'.testBit i = true) (hk : m'.testBit k = false) (h : rdyK D m k = true) : rdyK D m' k = true := by
 unfold rdyK at h ⊢
 split at h
 ·simp only [Bool.and_eq_true, Bool.not_eq_true'] at h ⊢
  exact ⟨hk, land_eq.2 fun i hi => hm i (land_eq.1 h.2 i hi)⟩
 ·cases h
theorem bit_lor {m k j : Nat} : (m ||| 2 ^ k).testBit j = true ↔ m.testBit j = true ∨ k = j := by
 rw [Nat.testBit_or, Bool.or_eq_true, Nat.testBit_two_pow]; simp
def maskAfter : List (Tag × Nat) → Nat → Nat
 | [], m => m
 | p :: ts, m => maskAfter ts (m ||| 2 ^ p.2)
theorem maskAfter_bit {j : Nat} : ∀ {ts : List (Tag × Nat)} {m : Nat}, (maskAfter ts m).testBit j = true ↔ m.testBit j = true ∨ j ∈ ts.map Prod.snd
 | [], m => by simp [maskAfter]
 | p :: ts, m => by
  rw [maskAfter, maskAfter_bit (ts := ts), bit_lor, List.map_cons, List.mem_cons]
  constructor
  ·rintro ((h | h) | h)
   ·exact .inl h
   ·exact .inr (.inl h.symm)
   ·exact .inr (.inr h)
  ·rintro (h | h | h)
   ·exact .inl (.inl h)
   ·exact .inl (.inr h.symm)
   ·exact .inr h
theorem chk_of_chkP {ops : Array Oper} {l : List Oper} {D A : List Nat} {L C n T : Nat} : ∀ (ts : List (Tag × Nat)) (m m' : Nat), chkP ops l D A L C ts m = true → (∀ i, m.testBit i = true → m'.testBit i = true) → (∀ i, m'.testBit i = true → T.testBit i = true ∨ m.testBit i = true) → (∀ p ∈ ts, T.testBit p.2 = false) →
  chk ops l D A L C (ts ++ [(.f (maskAfter ts m') L C, n)]) m' = true
 | [], m, m', _, _, _, _ => by simp [chk, maskAfter]
 | (t, k) :: ts, m, m', h, hm, hm2, hT => by
  have hk0 : rdyK D m k = true → m'.testBit k = false := fun hr => by
   have h0 : m.testBit k = false := by
    unfold rdyK at hr
    split at hr
    ·simp only [Bool.and_eq_true, Bool.not_eq_true'] at hr; exact hr.1
    ·cases hr
   cases hb : m'.testBit k with
   | false => rfl
   | true =>
    rcases hm2 k hb with h1 | h1
    ·rw [hT (t, k) (by simp)] at h1; cases h1
    ·rw [h0] at h1; cases h1
  have rest : chkP ops l D A L C ts (m ||| 2 ^ k) = true → chk ops l D A L C (ts ++ [(.f (maskAfter ts (m' ||| 2 ^ k)) L C, n)]) (m' ||| 2 ^ k) = true := fun h2 =>
   chk_of_chkP ts _ _ h2 (fun i hi => by rw [bit_lor] at hi ⊢; exact hi.imp (hm i) id) (fun i hi => by
    rw [bit_lor] at hi ⊢
    rcases hi with hi | hi
    ·rcases hm2 i hi with h1 | h1
     ·exact .inl h1
     ·exact .inr (.inl h1)
    ·exact .inr (.inr hi)) (fun p hp => hT p (by simp [hp]))
  cases t with
  | p =>
   simp only [chkP, Bool.and_eq_true] at h
   obtain ⟨⟨h1, h2, h3⟩, h4⟩ := h
   simp only [List.cons_append, chk, maskAfter, Bool.and_eq_true]
   exact ⟨⟨h1, rdyK_mono hm (hk0 h2) h2, freeAt_mono hm h3⟩, rest h4⟩
  | r =>
   simp only [chkP, Bool.and_eq_true] at h
   obtain ⟨⟨h1, h2, h3, h5⟩, h4⟩ := h
   simp only [List.cons_append, chk, maskAfter, Bool.and_eq_true]
   exact ⟨⟨h1, rdyK_mono hm (hk0 h2) h2, freeAt_mono hm h3, h5⟩, rest h4⟩
  | s =>
   simp only [chkP, Bool.and_eq_true] at h
   obtain ⟨⟨h1, h2, h3, h5⟩, h4⟩ := h
   simp only [List.cons_append, chk, maskAfter, Bool.and_eq_true]
   exact ⟨⟨h1, rdyK_mono hm (hk0 h2) h2, freeAt_mono hm h3, h5⟩, rest h4⟩
  | l => simp [chkP] at h
  | c => simp [chkP] at h
  | f => simp [chkP] at h
  | g => simp [chkP] at h
theorem opsOf_ps {ops : Array Oper} {l : List Oper} {D A : List Nat} {L C n T : Nat} : ∀ (ts : List (Tag × Nat)) (m : Nat), chkP ops l D A L C ts m = true → opsOf ops (ts ++ [(.f T L C, n)]) = ts.map (fun p => ops[p.2]?) ∧ extra (ts ++ [(.f T L C, n)]) = n
 | [], _, _ => ⟨rfl, rfl⟩
 | (t, k) :: ts, m, h => by
  have ih := fun m h => opsOf_ps (ops := ops) (l := l) (D := D) (A := A) (L := L) (C := C) (n := n) (T := T) ts m h
  cases t with
  | p => simp only [chkP, Bool.and_eq_true] at h; have := ih _ h.2; exact ⟨by simp [opsOf, this.1], by simp [extra, this.2]⟩
  | r => simp only [chkP, Bool.and_eq_true] at h; have := ih _ h.2; exact ⟨by simp [opsOf, this.1], by simp [extra, this.2]⟩
  | s => simp only [chkP, Bool.and_eq_true] at h; have := ih _ h.2; exact ⟨by simp [opsOf, this.1], by simp [extra, this.2]⟩
  | l => simp [chkP] at h
  | c => simp [chkP] at h
  | f => simp [chkP] at h
  | g => simp [chkP] at h
def incrN : List Nat → Bool
 | [] => true
 | a :: r => r.all (fun b => Nat.blt a b) && incrN r
theorem incrN_spec : ∀ {l : List Nat}, incrN l = true → l.Pairwise (· < ·)
 | [], _ => .nil
 | a :: r, h => by
  simp only [incrN, Bool.and_eq_true, List.all_eq_true] at h
  exact List.pairwise_cons.2 ⟨fun b hb => by have := h.1 b hb; simpa using this, incrN_spec h.2⟩
def chkI (ops : Array Oper) (l : List Oper) (its : List Item) (D A : List Nat) (L C m : Nat) : List Item → Nat → Bool
 | [], _ => true
 | it :: r, i => (Nat.testBit L it.k && (it.pre.all (fun p => Nat.blt p i && meetN (A.getD it.k 0) (preMask its [p])) && (incrN it.pre && (rdyK D (m ||| preMask its it.pre) it.k && (it.idx.all (fun j => Nat.blt j l.length) && chkP ops l D A L C it.ps (m ||| preMask its it.pre ||| 2 ^ it.k)))))) && chkI ops l its D A L C m r (i + 1)
def disjN : List Item → Nat → Bool
 | [], _ => true
 | it :: r, m => !meetN it.mask m && disjN r (Nat.lor m it.mask)
def disjD : List Item → List Nat → Bool
 | [], _ => true
 | it :: r, ds => it.ds.all (fun d => !inN d ds) && disjD r (it.ds ++ ds)
def chkJ (its : List Item) (D A : List Nat) (m : Nat) : List Nat → Nat → Bool
 | [], _ => true
 | d :: r, j => (Nat.testBit m j || (its.any (fun it => Nat.beq it.k j || (inN j (it.ps.map Prod.snd) && meetN d it.mask)) || its.all (fun it => meetN (A.getD j 0) it.mask && !Nat.testBit it.mask j))) && chkJ its D A m r (j + 1)
def fuelOf (T : Nat) : List Item → Nat
 | [] => 0
 | it :: r => (bif Nat.testBit T it.k then 0 else 1 + it.ps.length) + fuelOf T r
def allMask (m : Nat) : List Item → Nat
 | [] => m
 | it :: r => allMask (Nat.lor m it.mask) r
def chkC (ops : List Oper) (its : List Item) (all : List Nat) (D A : List Nat) (L C m n : Nat) (fr : Fr) (ordR : List Nat) (tsR : List (Tag × Nat)) : Bool :=
 chkI ops.toArray ops its D A L C m its 0 && (disjN its m && (disjD its (fr.map Prod.fst) && (chkJ its D A m D 0 && (incrN all && (all.all (fun p => Nat.blt p its.length) &&
  (Nat.beq n (((inOrder ops ordR).length + extra tsR) + fuelOf m its) && chk ops.toArray ops D A L C tsR (allMask m its)))))))

/-! Frames. -/
theorem Rep.append {N : Nat} {a : Act} {f1 f2 : Fr} (h1 : Rep N a f1) (h2 : Rep N a f2) : Rep N a (f1 ++ f2) := ⟨h1.size, h1.defers, fun t v h => by
 rw [Fr.get_append] at h
 cases hc : f1.get t with
 | some u => rw [hc] at h; exact h1.get t v (hc.trans h)
 | none => rw [hc] at h; exact h2.get t v h⟩
theorem dump_ex {N : Nat} {a : Act} {fr : Fr} (h : Rep N a fr) : ∃ fo : Fr, Rep N a fo ∧ ∀ t v, a.tmps[t]? = some v → fo.get t = some v := by
 have key : ∀ (k : Nat), ∃ fo : Fr, (∀ t v, fo.get t = some v → a.tmps[t]? = some v) ∧ ∀ t v, t < k → a.tmps[t]? = some v → fo.get t = some v := by
  intro k
  induction k with
  | zero => exact ⟨[], (fun t v h => by cases h), fun t v h => absurd h (Nat.not_lt_zero _)⟩
  | succ k ih =>
   obtain ⟨fo, h1, h2⟩ := ih
   cases hk : a.tmps[k]? with
   | none =>
    refine ⟨fo, h1, fun t v ht hv => ?_⟩
    rcases Nat.lt_or_ge t k with h | h
    ·exact h2 t v h hv
    ·obtain rfl : t = k := by omega
     rw [hk] at hv; cases hv
   | some u =>
    refine ⟨(k, u) :: fo, fun t v hv => ?_, fun t v ht hv => ?_⟩
    ·rw [Fr.get_cons] at hv
     by_cases e : k = t
     ·subst e; rw [if_pos rfl] at hv; rw [hk]; exact hv
     ·rw [if_neg e] at hv; exact h1 t v hv
    ·rw [Fr.get_cons]
     by_cases e : k = t
     ·subst e; rw [if_pos rfl, ← hk]; exact hv
     ·rw [if_neg e]; exact h2 t v (by omega) hv
 obtain ⟨fo, h1, h2⟩ := key a.tmps.size
 exact ⟨fo, ⟨h.size, h.defers, h1⟩, fun t v hv => h2 t v (Array.getElem?_eq_some_iff.1 hv).1 hv⟩
theorem zip_get {t : Nat} {v : Value} : ∀ {ds : List Nat} {vs : List Value}, Fr.get (ds.zip vs) t = some v → t ∈ ds
 | [], _, h => by simp [Fr.get] at h
 | _ :: _, [], h => by simp [Fr.get] at h
 | d :: ds, u :: vs, h => by
  rw [List.zip_cons_cons, Fr.get_cons] at h
  by_cases e : d = t
  ·subst e; simp
  ·rw [if_neg e] at h; exact List.mem_cons_of_mem _ (zip_get h)
section
variable {its : List Item} {w : World} {B N : Nat} {a : Act} {lo hi : Nat → Nat} {vv : Nat → List Value}
theorem apartAll_of {l h : Nat} : ∀ {seen : List (Nat × Nat)}, (∀ q ∈ seen, q.2 ≤ l ∨ h ≤ q.1) → apartAll seen l h
 | [], _ => trivial
 | q :: r, hq => ⟨hq q (by simp), apartAll_of (fun q' h' => hq q' (by simp [h']))⟩
theorem given_elim : ∀ (ps : List Nat) (seen : List (Nat × Nat)) (fr : Fr) (K : Fr → Prop), Rep N a fr →
  (∀ p ∈ ps, ∃ it, nthI its p = some it ∧ Rep N a (it.ds.zip (vv p)) ∧ it.φ (vv p) w (lo p) (hi p) ∧ B ≤ lo p ∧ lo p ≤ hi p ∧ hi p ≤ w.heap.size) →
  ps.Pairwise (fun p q => hi p ≤ lo q ∨ hi q ≤ lo p) → (∀ q ∈ seen, ∀ p ∈ ps, q.2 ≤ lo p ∨ hi p ≤ q.1) → given its w B ps seen fr K → ∃ fr', Rep N a fr' ∧ (∀ t, fr'.get t = none → fr.get t = none) ∧ K fr'
 | [], _, fr, K, hr, _, _, _, h => ⟨fr, hr, fun _ h => h, h⟩
 | p :: r, seen, fr, K, hr, hp, hpw, hs, h => by
  obtain ⟨it, h1, h2, h3, h4, h5, h6⟩ := hp p (by simp)
  simp only [given, h1] at h
  have h7 := h (vv p) (lo p) (hi p) h3 h4 h5 h6 (apartAll_of (fun q hq => hs q hq p (by simp)))
  obtain ⟨hpw1, hpw2⟩ := List.pairwise_cons.1 hpw
  obtain ⟨fr', k1, k2, k3⟩ := given_elim r ((lo p, hi p) :: seen) _ K (h2.append hr) (fun q hq => hp q (by simp [hq])) hpw2 (fun q hq p' hp' => by
   rcases List.mem_cons.1 hq with e | e
   ·subst e; exact hpw1 p' hp'
   ·exact hs q e p' (by simp [hp'])) h7
  refine ⟨fr', k1, fun t ht => ?_, k3⟩
  have := k2 t ht
  rw [Fr.get_append] at this
  cases hc : Fr.get (it.ds.zip (vv p)) t with
  | some u => rw [hc] at this; cases this
  | none => rw [hc] at this; exact this
end
theorem allMask_bit {j : Nat} : ∀ {its : List Item} {m : Nat}, (allMask m its).testBit j = true ↔ m.testBit j = true ∨ ∃ it ∈ its, j ∈ it.idx
 | [], m => by simp [allMask]
 | it :: r, m => by
  rw [allMask, allMask_bit (its := r), show (Nat.lor m it.mask).testBit j = (m.testBit j || it.mask.testBit j) from Nat.testBit_or .., Bool.or_eq_true, show it.mask.testBit j = true ↔ j ∈ it.idx from bitsOf_bit]
  constructor
  ·rintro ((h | h) | ⟨x, h1, h2⟩)
   ·exact .inl h
   ·exact .inr ⟨it, by simp, h⟩
   ·exact .inr ⟨x, by simp [h1], h2⟩
  ·rintro (h | ⟨x, h1, h2⟩)
   ·exact .inl (.inl h)
   ·rcases List.mem_cons.1 h1 with e | e
    ·subst e; exact .inl (.inr h2)
    ·exact .inr ⟨x, e, h2⟩
theorem disjN_spec : ∀ {its : List Item} {m : Nat}, disjN its m = true → (∀ it ∈ its, ∀ j ∈ it.idx, m.testBit j = false) ∧ ∀ i i' it it', nthI its i = some it → nthI its i' = some it' → i ≠ i' → ∀ j ∈ it.idx, j ∉ it'.idx
 | [], m, _ => ⟨fun _ h => absurd h (by simp), fun i _ _ _ h => by cases i <;> cases h⟩
 | x :: r, m, h => by
  simp only [disjN, Bool.and_eq_true, Bool.not_eq_true'] at h
  obtain ⟨h1, h2⟩ := h
  obtain ⟨k1, k2⟩ := disjN_spec h2
  have kx : ∀ j ∈ x.idx, m.testBit j = false := fun j hj => by
   cases hb : m.testBit j with
   | false => rfl
   | true =>
    have : meetN x.mask m = true := by
     unfold meetN
     simp only [Bool.not_eq_true']
     cases hz : Nat.beq (Nat.land x.mask m) 0 with
     | false => rfl
     | true =>
      have e := Nat.eq_of_beq_eq_true hz
      have : (x.mask &&& m).testBit j = true := by rw [Nat.testBit_and, hb, show x.mask.testBit j = true from bitsOf_bit.2 hj]; rfl
      rw [show x.mask &&& m = 0 from e] at this
      simp at this
    rw [h1] at this; cases this
  have kr : ∀ it ∈ r, ∀ j ∈ it.idx, m.testBit j = false ∧ j ∉ x.idx := fun it hit j hj => by
   have := k1 it hit j hj
   rw [show (Nat.lor m x.mask).testBit j = (m.testBit j || x.mask.testBit j) from Nat.testBit_or .., Bool.or_eq_false_iff] at this
   refine ⟨this.1, fun hx => ?_⟩
   have h3 : x.mask.testBit j = true := bitsOf_bit.2 hx
   rw [this.2] at h3; cases h3
  refine ⟨fun it hit j hj => ?_, fun i i' it it' hi hi' hne j hj hj' => ?_⟩
  ·rcases List.mem_cons.1 hit with e | e
   ·subst e; exact kx j hj
   ·exact (kr it e j hj).1
  ·cases i with
   | zero =>
    injection hi with hi; subst hi
    cases i' with
    | zero => exact hne rfl
    | succ i' => exact (kr it' (nthI_mem (l := r) (i := i') hi') j hj').2 hj
   | succ i =>
    cases i' with
    | zero => injection hi' with hi'; subst hi'; exact (kr it (nthI_mem (l := r) (i := i) hi) j hj).2 hj'
    | succ i' => exact k2 i i' it it' hi hi' (by omega) j hj hj'
theorem inN_iff {t : Nat} : ∀ {l : List Nat}, inN t l = true ↔ t ∈ l
 | [] => by simp [inN]
 | a :: l => by
  rw [List.mem_cons, ← inN_iff (l := l), inN]
  cases hb : Nat.beq a t with
  | true => simp [(Nat.eq_of_beq_eq_true hb).symm]
  | false => simp [show t ≠ a from fun e => by subst e; simp at hb]
theorem disjD_spec : ∀ {its : List Item} {ds : List Nat}, disjD its ds = true → (∀ it ∈ its, ∀ d ∈ it.ds, d ∉ ds) ∧ ∀ i i' it it', nthI its i = some it → nthI its i' = some it' → i ≠ i' → ∀ d ∈ it.ds, d ∉ it'.ds
 | [], _, _ => ⟨fun _ h => absurd h (by simp), fun i _ _ _ h => by cases i <;> cases h⟩
 | x :: r, ds, h => by
  simp only [disjD, Bool.and_eq_true, List.all_eq_true, Bool.not_eq_true'] at h
  obtain ⟨h1, h2⟩ := h
  obtain ⟨k1, k2⟩ := disjD_spec h2
  have kx : ∀ d ∈ x.ds, d ∉ ds := fun d hd hm => by have := h1 d hd; rw [inN_iff.2 hm] at this; cases this
  have kr : ∀ it ∈ r, ∀ d ∈ it.ds, d ∉ x.ds ∧ d ∉ ds := fun it hit d hd => by
   have := k1 it hit d hd
   rw [List.mem_append, not_or] at this
   exact this
  refine ⟨fun it hit d hd => ?_, fun i i' it it' hi hi' hne d hd hd' => ?_⟩
  ·rcases List.mem_cons.1 hit with e | e
   ·subst e; exact kx d hd
   ·exact (kr it e d hd).2
  ·cases i with
   | zero =>
    injection hi with hi; subst hi
    cases i' with
    | zero => exact hne rfl
    | succ i' => exact (kr it' (nthI_mem (l := r) (i := i') hi') d hd').1 hd
   | succ i =>
    cases i' with
    | zero => injection hi' with hi'; subst hi'; exact (kr it (nthI_mem (l := r) (i := i) hi) d hd).1 hd'
    | succ i' => exact k2 i i' it it' hi hi' (by omega) d hd hd'
theorem nthOp_eq : ∀ (l : List Oper) (k : Nat), nthOp l k = l[k]?
 | [], _ => rfl
 | _ :: _, 0 => rfl
 | _ :: l, k + 1 => by rw [nthOp, nthOp_eq l k]; simp
theorem inOrder_map {ops : List Oper} : ∀ {ks : List Nat}, (∀ j ∈ ks, j < ops.length) → (inOrder ops ks).map some = ks.map (fun k => ops.toArray[k]?)
 | [], _ => rfl
 | k :: ks, h => by
  have hk : k < ops.length := h k (by simp)
  rw [inOrder, nthOp_eq, List.getElem?_eq_getElem hk]
  simp only [List.map_cons]
  rw [inOrder_map (fun j hj => h j (by simp [hj]))]
  simp [hk]
theorem fuel_step {T T2 : Nat} : ∀ {its : List Item} {i : Nat} {it : Item}, nthI its i = some it → T.testBit it.k = false → T2.testBit it.k = true → (∀ i' it', nthI its i' = some it' → i' ≠ i → T2.testBit it'.k = T.testBit it'.k) → fuelOf T its = fuelOf T2 its + (1 + it.ps.length)
 | x :: r, 0, it, h, h1, h2, h3 => by
  injection h with h; subst h
  have hr : ∀ (r : List Item), (∀ y ∈ r, T2.testBit y.k = T.testBit y.k) → fuelOf T r = fuelOf T2 r := fun r hy => by
   induction r with
   | nil => rfl
   | cons y r ih => rw [fuelOf, fuelOf, hy y (by simp), ih (fun z hz => hy z (by simp [hz]))]
  rw [fuelOf, fuelOf, h1, h2, hr r (fun y hy => by obtain ⟨j, _, hj⟩ := nthI_of_mem hy; exact h3 (j + 1) y hj (by omega))]
  simp only [cond_true, cond_false]; omega
 | x :: r, i + 1, it, h, h1, h2, h3 => by
  have := fuel_step (its := r) (i := i) h h1 h2 (fun i' it' hi' hne => h3 (i' + 1) it' hi' (by omega))
  rw [fuelOf, fuelOf, this, h3 0 x rfl (by omega)]; omega
theorem fuel_zero {T : Nat} : ∀ {its : List Item}, (∀ it ∈ its, T.testBit it.k = true) → fuelOf T its = 0
 | [], _ => rfl
 | x :: r, h => by rw [fuelOf, h x (by simp), fuel_zero (fun y hy => h y (by simp [hy]))]; rfl
theorem chkI_spec {ops : Array Oper} {l : List Oper} {its : List Item} {D A : List Nat} {L C m : Nat} : ∀ {r : List Item} {i0 : Nat}, chkI ops l its D A L C m r i0 = true → ∀ i it, nthI r i = some it →
  L.testBit it.k = true ∧ (∀ p ∈ it.pre, p < i0 + i ∧ ∃ j, (A.getD it.k 0).testBit j = true ∧ ∃ x, nthI its p = some x ∧ j ∈ x.idx) ∧ it.pre.Pairwise (· < ·) ∧ rdyK D (m ||| preMask its it.pre) it.k = true ∧ (∀ j ∈ it.idx, j < l.length) ∧ chkP ops l D A L C it.ps (m ||| preMask its it.pre ||| 2 ^ it.k) = true
 | x :: r, i0, h, i, it, hi => by
  simp only [chkI, Bool.and_eq_true, List.all_eq_true] at h
  obtain ⟨⟨h1, h2, h3, h4, h5, h6⟩, h7⟩ := h
  cases i with
  | zero =>
   injection hi with hi; subst hi
   refine ⟨h1, fun p hp => ?_, incrN_spec h3, h4, fun j hj => by have := h5 j hj; simpa using this, h6⟩
   obtain ⟨h8, h9⟩ := h2 p hp
   obtain ⟨j, k1, k2⟩ := meetN_spec h9
   obtain ⟨q, hq, y, hy, hj⟩ := preMask_bit k2
   rw [List.mem_singleton] at hq; subst hq
   exact ⟨by simpa using h8, j, k1, y, hy, hj⟩
  | succ i =>
   have := chkI_spec h7 i it hi
   refine ⟨this.1, fun p hp => ?_, this.2.2⟩
   obtain ⟨k1, k2⟩ := this.2.1 p hp
   exact ⟨by omega, k2⟩
theorem chkJ_spec {its : List Item} {D A : List Nat} {m : Nat} : ∀ {r : List Nat} {j0 : Nat}, chkJ its D A m r j0 = true → ∀ j d, r[j]? = some d →
  m.testBit (j0 + j) = true ∨ (∃ it ∈ its, it.k = j0 + j ∨ (j0 + j ∈ it.ps.map Prod.snd ∧ ∃ b, d.testBit b = true ∧ b ∈ it.idx)) ∨ ∀ it ∈ its, (∃ b, (A.getD (j0 + j) 0).testBit b = true ∧ b ∈ it.idx) ∧ j0 + j ∉ it.idx
 | [], _, _, j, d, hd => by simp at hd
 | d0 :: r, j0, h, j, d, hd => by
  simp only [chkJ, Bool.and_eq_true, Bool.or_eq_true, List.any_eq_true, List.all_eq_true] at h
  cases j with
  | zero =>
   simp only [List.getElem?_cons_zero, Option.some.injEq] at hd
   subst hd
   rw [Nat.add_zero]
   rcases h.1 with h1 | ⟨it, h1, h2⟩ | h1
   ·exact .inl h1
   ·refine .inr (.inl ⟨it, h1, ?_⟩)
    rcases h2 with h2 | ⟨h2, h3⟩
    ·exact .inl (Nat.eq_of_beq_eq_true h2)
    ·obtain ⟨b, k1, k2⟩ := meetN_spec h3
     exact .inr ⟨inN_iff.1 h2, b, k1, bitsOf_bit.1 k2⟩
   ·refine .inr (.inr fun it hit => ?_)
    have h2 := h1 it hit
    simp only [Bool.and_eq_true, Bool.not_eq_true'] at h2
    obtain ⟨b, k1, k2⟩ := meetN_spec h2.1
    refine ⟨⟨b, k1, bitsOf_bit.1 k2⟩, fun hm => ?_⟩
    rw [show it.mask.testBit j0 = true from bitsOf_bit.2 hm] at h2
    cases h2.2
  | succ j =>
   have := chkJ_spec h.2 j d (by simpa using hd)
   rw [show j0 + (j + 1) = j0 + 1 + j by omega]
   exact this
structure ConcSt (its : List Item) (N : Nat) (fr : Fr) (w0 : World) (m T : Nat) (a : Act) (w : World) (lo hi : Nat → Nat) (vv : Nat → List Value) : Prop where
 rep : Rep N a fr
 bel : Below w0.heap.size w0 w
 low : ∀ j, m.testBit j = true → T.testBit j = true
 up : ∀ j, T.testBit j = true → m.testBit j = true ∨ ∃ it ∈ its, j ∈ it.idx
 whole : ∀ it ∈ its, ∀ j ∈ it.idx, T.testBit j = T.testBit it.k
 f : ∀ i it, nthI its i = some it → T.testBit it.k = true → Rep N a (it.ds.zip (vv i)) ∧ it.φ (vv i) w (lo i) (hi i) ∧ w0.heap.size ≤ lo i ∧ lo i ≤ hi i ∧ hi i ≤ w.heap.size
 ap : ∀ i j it it', nthI its i = some it → nthI its j = some it' → T.testBit it.k = true → T.testBit it'.k = true → i ≠ j → hi i ≤ lo j ∨ hi j ≤ lo i
section
variable {P : Program} {fn : Func} {F : Ending → World → Prop} {N : Nat} {ks : List K} {ops : List Oper} {fr : Fr} {w : World} {row : Rw} {L C : Nat}
def stepOf (P : Program) (fn : Func) (F : Ending → World → Prop) (N : Nat) (ks : List K) (ops : List Oper) (fr : Fr) (w : World) (row : Rw) (L C : Nat) (its : List Item) (it : Item) : Prop :=
 ∀ (w' : World), Below w.heap.size w w' → ∀ (fo : Fr) (T T2 n2 : Nat), given its w' w.heap.size it.pre [] (fr ++ fo) fun fr' =>
  (∀ (vs : List Value) (w'' : World), it.φ vs w'' w'.heap.size w''.heap.size → Below w'.heap.size w' w'' → WL P fn F N ks ops.toArray (some (row, [(.f T2 L C, n2)])) [] (it.ds.zip vs ++ fr') w'') →
  WL P fn F N ks ops.toArray (some (row, (.g T L C, it.k) :: (it.ps ++ [(.f T2 L C, n2)]))) (inOrder ops it.idx) fr' w'
def stepsOf (P : Program) (fn : Func) (F : Ending → World → Prop) (N : Nat) (ks : List K) (ops : List Oper) (fr : Fr) (w : World) (row : Rw) (L C : Nat) (its : List Item) : List Item → Prop
 | [] => True
 | it :: r => stepOf P fn F N ks ops fr w row L C its it ∧ stepsOf P fn F N ks ops fr w row L C its r
theorem stepsOf_spec {its : List Item} : ∀ {r : List Item}, stepsOf P fn F N ks ops fr w row L C its r → ∀ it ∈ r, stepOf P fn F N ks ops fr w row L C its it
 | _ :: _, h, it, hi => by
  rcases List.mem_cons.1 hi with e | e
  ·subst e; exact h.1
  ·exact stepsOf_spec h.2 it e
theorem wl_conc {m n : Nat} (its : List Item) (all D A ordR : List Nat) (tsR : List (Tag × Nat)) (hD : ops.map (dmask .any) = D) (hA : ancs .any ops [] = A) (hc : chkC ops its all D A L C m n fr ordR tsR = true)
  (hlR : (inOrder ops ordR).map some = opsOf ops.toArray tsR) (hst : stables its) (hstep : stepsOf P fn F N ks ops fr w row L C its its)
  (hend : ∀ w', Below w.heap.size w w' → given its w' w.heap.size all [] fr fun fr' => WL P fn F N ks ops.toArray (some (row, tsR)) (inOrder ops ordR) fr' w') :
  WL P fn F N ks ops.toArray (some (row, [(.f m L C, n)])) [] fr w := by
 simp only [chkC, Bool.and_eq_true, List.all_eq_true] at hc
 obtain ⟨c1, c2, c3, c4, c5, c6, c8, c9⟩ := hc
 have hI := fun i it hi => chkI_spec c1 i it hi
 have hJ := fun j d hd => chkJ_spec c4 j d hd
 obtain ⟨d1, d2⟩ := disjN_spec c2
 obtain ⟨e1, e2⟩ := disjD_spec c3
 have hstab := stables_spec hst
 have hsteps := stepsOf_spec hstep
 obtain ⟨base, hbase⟩ : ∃ b, (inOrder ops ordR).length + extra tsR = b := ⟨_, rfl⟩
 have hn := Nat.eq_of_beq_eq_true c8
 rw [hbase] at hn
 subst hn
 have hfr : ∀ it ∈ its, ∀ d ∈ it.ds, fr.get d = none := fun it hit d hd => by
  refine (Fr.get_none_iff fr d).2 ?_
  cases hb : inN d (fr.map Prod.fst) with
  | false => rfl
  | true => exact absurd (inN_iff.1 hb) (e1 it hit d hd)
 have main : ∀ (f T : Nat) (a : Act) (w' : World) (lo hi : Nat → Nat) (vv : Nat → List Value), f = fuelOf T its → ConcSt its N fr w m T a w' lo hi vv → Left P (kpost P fn F ks) ops.toArray (some (row, [(.f T L C, base + f)])) [] a w' := by
  intro f
  induction f using Nat.strongRecOn with
  | _ f ih =>
   intro T a w' lo hi vv hf hS
   intro D' A' L' C' listed m' hm _ hchk
   unfold chk at hchk
   simp only [Bool.and_eq_true] at hchk
   obtain ⟨hm1, hL1, hC1⟩ := hchk
   obtain rfl := Nat.eq_of_beq_eq_true hm1
   obtain rfl := Nat.eq_of_beq_eq_true hL1
   obtain rfl := Nat.eq_of_beq_eq_true hC1
   obtain rfl : D' = D := by rw [hm.D, ← hD]
   obtain rfl : A' = A := by rw [hm.A, ← hA]
   show wpMix P .any ops.toArray _ _ _ row (0 + (base + f)) listed a w'
   rw [Nat.zero_add]
   have hbefore : ∀ j i, (A'.getD j 0).testBit i = true → Before .any ops.toArray i j := by
    rw [hm.A]
    exact ancs_spec ops.toArray.toList [] (fun j => by simp) (fun j i hb => by simp at hb)
   -- what is ahead of a ready operation is through
   have hahead : ∀ j ∈ Region.ready .any ops.toArray listed, ∀ b, (A'.getD j 0).testBit b = true → b = j ∨ m'.testBit b = true := fun j hj b hb => by
    by_cases e : b = j
    ·exact .inl e
    ·refine .inr ?_
     have hlt : j < listed.size := by
      have h0 := (mem_ready.1 hj).1
      rcases Nat.lt_or_ge j listed.size with h | h
      ·exact h
      ·simp [Array.getElem?_eq_none h] at h0
     have h1 := hbefore j b hb _ (hm.closed.set hj) (by simp [hlt])
     rw [getD_set_ne false (Ne.symm e)] at h1
     rw [← hm.bits]; exact h1
   by_cases hall : ∀ it ∈ its, m'.testBit it.k = true
   ·-- all through
    have hf0 : f = 0 := by rw [hf, fuel_zero hall]
    subst hf0
    have hT : m' = allMask m its := Nat.eq_of_testBit_eq fun j => by
     cases h1 : m'.testBit j with
     | true => exact (allMask_bit.2 (hS.up j h1)).symm
     | false =>
      cases h2 : (allMask m its).testBit j with
      | false => rfl
      | true =>
       rcases allMask_bit.1 h2 with h3 | ⟨it, h3, h4⟩
       ·rw [hS.low j h3] at h1; cases h1
       ·rw [hS.whole it h3 j h4, hall it h3] at h1; cases h1
    have hpos : ∀ p ∈ all, ∃ it, nthI its p = some it := fun p hp => by
     have hlt : p < its.length := by have := c6 p hp; simpa using this
     exact nthI_some hlt
    obtain ⟨fr', k1, _, k2⟩ := given_elim (its := its) (lo := lo) (hi := hi) (vv := vv) all [] fr _ hS.rep (fun p hp => by
     obtain ⟨it, hit⟩ := hpos p hp
     obtain ⟨h1, h2, h3, h4, h5⟩ := hS.f p it hit (hall it (nthI_mem hit))
     exact ⟨it, hit, h1, h2, h3, h4, h5⟩) (List.Pairwise.imp_of_mem (fun {p q} hp hq hpq => by
      obtain ⟨it, hit⟩ := hpos p hp
      obtain ⟨it', hit'⟩ := hpos q hq
      exact hS.ap p q it it' hit hit' (hall it (nthI_mem hit)) (hall it' (nthI_mem hit')) (by omega)) (incrN_spec c5)) (fun q hq => by cases hq) (hend w' hS.bel)
    have := left_elim (k2 a k1) hm hlR (by rw [hT]; exact c9)
    rw [hbase] at this
    simpa using this
   ·-- the first item that is left is ready
    obtain ⟨i0, it0, hi0, hu0, hmin⟩ : ∃ i it, nthI its i = some it ∧ m'.testBit it.k = false ∧ ∀ j, j < i → ∀ x, nthI its j = some x → m'.testBit x.k = true := by
     refine Classical.byContradiction fun hno => hall fun it hit => ?_
     obtain ⟨i, _, hi'⟩ := nthI_of_mem hit
     have key : ∀ i it, nthI its i = some it → m'.testBit it.k = true := by
      intro i
      induction i using Nat.strongRecOn with
      | _ i ihi =>
       intro it hit
       cases hb : m'.testBit it.k with
       | true => rfl
       | false => exact absurd ⟨i, it, hit, hb, fun j hj x hx => ihi j hj x hx⟩ hno
     exact key i it hi'
    have hsub : ∀ it, it ∈ its → (∀ p ∈ it.pre, ∀ x, nthI its p = some x → m'.testBit x.k = true) → ∀ j, (m ||| preMask its it.pre).testBit j = true → m'.testBit j = true := fun it hit hp j hj => by
     rw [Nat.testBit_or, Bool.or_eq_true] at hj
     rcases hj with hj | hj
     ·exact hS.low j hj
     ·obtain ⟨p, h1, x, h2, h3⟩ := preMask_bit hj
      rw [hS.whole x (nthI_mem h2) j h3]
      exact hp p h1 x h2
    have hrdy0 : it0.k ∈ Region.ready .any ops.toArray listed := hm.ready (rdyK_mono (hsub it0 (nthI_mem hi0) fun p hp x hx => hmin p (by have := ((hI i0 it0 hi0).2.1 p hp).1; omega) x hx) hu0 (hI i0 it0 hi0).2.2.2.1)
    obtain ⟨f', hf'⟩ : ∃ f', f = f' + 1 := by
     have := fuel_step (T := m') (T2 := m' ||| it0.mask) hi0 hu0 (by rw [Nat.testBit_or, show it0.mask.testBit it0.k = true from bitsOf_bit.2 (by simp [Item.idx])]; simp) (fun i' it' hi' hne => by
      rw [Nat.testBit_or]
      cases hb : it0.mask.testBit it'.k with
      | false => simp
      | true => exact absurd (bitsOf_bit.1 hb) (d2 i' i0 it' it0 hi' hi0 hne it'.k (by simp [Item.idx])))
     exact ⟨fuelOf (m' ||| it0.mask) its + it0.ps.length, by omega⟩
    rw [hf', ← Nat.add_assoc]
    refine ⟨fun h => (by rw [h] at hrdy0; cases hrdy0), fun j hj => ?_⟩
    -- which one it is
    obtain ⟨hjun, oj, hoj, hjall⟩ := mem_ready.1 hj
    have hjlt : j < ops.toArray.size := (Array.getElem?_eq_some_iff.1 hoj).1
    have hju : m'.testBit j = false := by rw [← hm.getD hjlt]; exact hjun
    have hDj := hm.dAt hoj
    obtain ⟨i, it, hi', rfl⟩ : ∃ i it, nthI its i = some it ∧ it.k = j := by
     rcases hJ j _ hDj with h1 | ⟨it, h1, h2⟩ | h1
     ·rw [Nat.zero_add] at h1; rw [hS.low j h1] at hju; cases hju
     ·obtain ⟨i, _, hi'⟩ := nthI_of_mem h1
      rw [Nat.zero_add] at h2
      rcases h2 with h2 | ⟨h2, b, h3, h4⟩
      ·exact ⟨i, it, hi', h2⟩
      ·exfalso
       have h5 : m'.testBit b = true := by
        obtain ⟨e, he, hb, rfl⟩ := dmask_bit.1 h3
        rw [← hm.bits]; exact hjall e he hb
       have h6 := hS.whole it h1 b h4
       have h7 := hS.whole it h1 j (by simp [Item.idx, h2])
       rw [h5] at h6; rw [← h6, hju] at h7; cases h7
     ·exfalso
      rw [Nat.zero_add] at h1
      obtain ⟨⟨b, h2, h3⟩, h5⟩ := h1 it0 (nthI_mem hi0)
      rcases hahead j hj b h2 with h4 | h4
      ·subst h4; exact h5 h3
      ·rw [hS.whole it0 (nthI_mem hi0) b h3, hu0] at h4; cases h4
    obtain ⟨q1, q2, q3, q4, q5, q6⟩ := hI i it hi'
    have hit := nthI_mem hi'
    rw [if_pos q1]
    have hpre : ∀ p ∈ it.pre, ∃ x, nthI its p = some x ∧ m'.testBit x.k = true := fun p hp => by
     obtain ⟨h1, b, h2, x, h3, h4⟩ := q2 p hp
     refine ⟨x, h3, ?_⟩
     rcases hahead it.k hj b h2 with h5 | h5
     ·subst h5; exact absurd h4 (d2 i p it x hi' h3 (by omega) _ (by simp [Item.idx]))
     ·rw [← hS.whole x (nthI_mem h3) b h4]; exact h5
    have hsb := hsub it hit (fun p hp x hx => by
     obtain ⟨y, h1, h2⟩ := hpre p hp
     rw [hx] at h1; injection h1 with h1; rw [h1]; exact h2)
    obtain ⟨fo, hfo, hfo2⟩ := dump_ex hS.rep
    obtain ⟨T2, hT2⟩ : ∃ T2, maskAfter it.ps (m' ||| 2 ^ it.k) = T2 := ⟨_, rfl⟩
    have hT2b : ∀ j, T2.testBit j = true ↔ m'.testBit j = true ∨ j ∈ it.idx := fun j => by
     rw [← hT2, maskAfter_bit, bit_lor, Item.idx, List.mem_cons]
     constructor
     ·rintro ((h | h) | h)
      ·exact .inl h
      ·exact .inr (.inl h.symm)
      ·exact .inr (.inr h)
     ·rintro (h | h | h)
      ·exact .inl (.inl h)
      ·exact .inl (.inr h.symm)
      ·exact .inr h
    have hT2k : T2.testBit it.k = true := (hT2b _).2 (.inr (by simp [Item.idx]))
    have hT2o : ∀ i' it', nthI its i' = some it' → i' ≠ i → ∀ j ∈ it'.idx, T2.testBit j = m'.testBit j := fun i' it' hi2 hne j hj => by
     cases hb : m'.testBit j with
     | true => exact (hT2b j).2 (.inl hb)
     | false =>
      cases hb2 : T2.testBit j with
      | false => rfl
      | true =>
       rcases (hT2b j).1 hb2 with h | h
       ·rw [hb] at h; cases h
       ·exact absurd h (d2 i' i it' it hi2 hi' hne j hj)
    have hfuel := fuel_step (T := m') (T2 := T2) hi' hju hT2k (fun i' it' hi2 hne => hT2o i' it' hi2 hne it'.k (by simp [Item.idx]))
    obtain ⟨fr', k1, k2, k3⟩ := given_elim (its := its) (lo := lo) (hi := hi) (vv := vv) it.pre [] (fr ++ fo) _ (hS.rep.append hfo) (fun p hp => by
     obtain ⟨x, hx, hb⟩ := hpre p hp
     obtain ⟨h1, h2, h3, h4, h5⟩ := hS.f p x hx hb
     exact ⟨x, hx, h1, h2, h3, h4, h5⟩) (List.Pairwise.imp_of_mem (fun {p q} hp hq hpq => by
      obtain ⟨x, hx, hb⟩ := hpre p hp
      obtain ⟨y, hy, hb'⟩ := hpre q hq
      exact hS.ap p q x y hx hy hb hb' (by omega)) q3) (fun q hq => by cases hq) (hsteps it hit w' hS.bel fo m' T2 (base + fuelOf T2 its))
    have hkeep : ∀ t v, a.tmps[t]? = some v → fr'.get t = some v := fun t v hv => by
     cases hg : fr'.get t with
     | some u => rw [← hv]; exact (k1.get t u hg).symm
     | none =>
      have h1 := k2 t hg
      rw [Fr.get_append, hfo2 t v hv] at h1
      cases h2 : fr.get t <;> rw [h2] at h1 <;> cases h1
    have hL := k3 (fun vs w'' hφ hb a' ha' => by
     have hkeep' : ∀ t v, a.tmps[t]? = some v → t ∉ it.ds → a'.tmps[t]? = some v := fun t v hv ht => by
      refine ha'.get t v ?_
      rw [Fr.get_append]
      cases hz : Fr.get (it.ds.zip vs) t with
      | some u => exact absurd (zip_get hz) ht
      | none => exact hkeep t v hv
     have hss := hb.size
     have hs0 := hS.bel.size
     refine ih (fuelOf T2 its) (by omega) T2 a' w'' (fun j => if j = i then w'.heap.size else lo j) (fun j => if j = i then w''.heap.size else hi j) (fun j => if j = i then vs else vv j) rfl
      ⟨⟨ha'.size, ha'.defers, fun t v hv => hkeep' t v (hS.rep.get t v hv) (fun hd => by rw [hfr it hit t hd] at hv; cases hv)⟩, hS.bel.trans (hb.mono hs0), fun j hj => (hT2b j).2 (.inl (hS.low j hj)), fun j hj => ?_, fun it' hit' j hj => ?_, fun i' it' hi2 hb2 => ?_, fun i1 i2 x y hx hy hbx hby hne => ?_⟩
     ·rcases (hT2b j).1 hj with h | h
      ·exact hS.up j h
      ·exact .inr ⟨it, hit, h⟩
     ·obtain ⟨i', _, hi2⟩ := nthI_of_mem hit'
      by_cases e : i' = i
      ·subst e
       rw [hi'] at hi2; injection hi2 with hi2; subst hi2
       rw [hT2k, (hT2b j).2 (.inr hj)]
      ·rw [hT2o i' it' hi2 e j hj, hT2o i' it' hi2 e it'.k (by simp [Item.idx])]
       exact hS.whole it' hit' j hj
     ·by_cases e : i' = i
      ·subst e
       rw [hi'] at hi2; injection hi2 with hi2; subst hi2
       simp only [if_true]
       refine ⟨⟨ha'.size, ha'.defers, fun t v hv => ha'.get t v ?_⟩, hφ, by omega, by omega, Nat.le_refl _⟩
       rw [Fr.get_append, hv]
      ·simp only [if_neg e]
       rw [hT2o i' it' hi2 e it'.k (by simp [Item.idx])] at hb2
       obtain ⟨h1, h2, h3, h4, h5⟩ := hS.f i' it' hi2 hb2
       refine ⟨⟨ha'.size, ha'.defers, fun t v hv => hkeep' t v (h1.get t v hv) (fun hd => ?_)⟩, hstab it' (nthI_mem hi2) _ _ _ _ _ h2 hb, h3, h4, by omega⟩
       exact e2 i' i it' it hi2 hi' e t (zip_get hv) hd
     ·by_cases ex : i1 = i
      ·subst ex
       have ey : i2 ≠ i1 := Ne.symm hne
       simp only [if_true, if_neg ey]
       rw [hT2o i2 y hy ey y.k (by simp [Item.idx])] at hby
       have := (hS.f i2 y hy hby).2.2.2.2
       exact .inr this
      ·by_cases ey : i2 = i
       ·subst ey
        simp only [if_true, if_neg ex]
        rw [hT2o i1 x hx ex x.k (by simp [Item.idx])] at hbx
        have := (hS.f i1 x hx hbx).2.2.2.2
        exact .inl this
       ·simp only [if_neg ex, if_neg ey]
        rw [hT2o i1 x hx ex x.k (by simp [Item.idx])] at hbx
        rw [hT2o i2 y hy ey y.k (by simp [Item.idx])] at hby
        exact hS.ap i1 i2 x y hx hy hbx hby hne) a k1
    have hmap := inOrder_map q5
    obtain ⟨o, l', hol⟩ : ∃ o l', inOrder ops it.idx = o :: l' := by
     cases h : inOrder ops it.idx with
     | nil => rw [h] at hmap; simp [Item.idx] at hmap
     | cons o l' => exact ⟨o, l', rfl⟩
    rw [hol] at hmap
    have hmap2 : some o = ops.toArray[it.k]? ∧ l'.map some = (it.ps.map Prod.snd).map (fun k => ops.toArray[k]?) := by
     rw [Item.idx, List.map_cons, List.map_cons] at hmap
     exact List.cons.inj hmap
    obtain ⟨o1, o2⟩ := opsOf_ps (ops := ops.toArray) (l := ops.toArray.toList) (n := base + fuelOf T2 its) (T := T2) it.ps _ q6
    have hl' : l'.length = it.ps.length := by have := congrArg List.length hmap2.2; simpa using this
    have fin := hL D' A' listed o l' hol hm hmap2.1.symm (by rw [hmap2.2, o1, List.map_map]; rfl) hj (by
     rw [← hT2]
     exact chk_of_chkP (T := m') it.ps _ _ q6 (fun i hi => by rw [bit_lor] at hi ⊢; exact hi.imp (hsb i) id) (fun i hi => by
      rw [bit_lor] at hi ⊢
      rcases hi with hi | hi
      ·exact .inl hi
      ·exact .inr (.inr hi)) (fun p hp => by rw [hS.whole it hit p.2 (by simp only [Item.idx, List.mem_cons, List.mem_map]; exact .inr ⟨p, hp, rfl⟩)]; exact hju))
    rw [o2, hl'] at fin
    rw [show base + f' = it.ps.length + (base + fuelOf T2 its) by omega]
    exact fin
 intro a ha
 have h0 : ∀ it ∈ its, m.testBit it.k = false := fun it hit => d1 it hit it.k (by simp [Item.idx])
 exact main _ m a w (fun _ => 0) (fun _ => 0) (fun _ => []) rfl ⟨ha, Below.refl _ _, fun _ h => h, fun _ h => .inl h, fun it hit j hj => by rw [d1 it hit j hj, h0 it hit],
  fun i it hi hb => absurd hb (by rw [h0 it (nthI_mem hi)]; simp), fun i j it it' hi _ hb _ _ => absurd hb (by rw [h0 it (nthI_mem hi)]; simp)⟩
end
end Go.Proofs.YtahkeoegbjopfaaGreat
/-
  The same where one operation (at place e) may also change what another one (at place p) made, which nobody else looks at from then on: an append in place. No function of the program is named here.
-/
namespace Go.Proofs.YtahkeoegbjopfaaGreat
set_option maxRecDepth 100000
open Go.RowKit
section
variable {P : Program} {fn : Func} {F : Ending → World → Prop} {N : Nat} {ks : List K} {ops : Array Oper} {tg : Tags} {l : List Oper} {fr : Fr} {w : World} {ty t : TypeId} {pos : String} {aft : Array Edge} {gd : Option (Nat × Bool)} {d n j q c lo hi : Nat} {x y : Operand} {A X : Option Addr}
theorem wl_vR {op : Op} {v : Value} {w' : World} (h : OpV P N fr w op ty v w') (hk : WL P fn F N ks ops tg.tail l ((d, v) :: fr) w') (ht : tg.loud = true := by rfl) (hg : onG ops fr gd = true := by rfl) (hd : Nat.blt d N = true := by rfl) (hq : tg.calm = false ∨ tg.rw.ok w w' := by exact .inl rfl) :
  WL P fn F N ks ops tg (⟨some d, op, ty, pos, aft, gd⟩ :: l) fr w :=
 fun a ha => left_loud ht fun K hK => by
  rw [if_pos (wanted_on (o := ⟨some d, op, ty, pos, aft, gd⟩) ha hg)]
  unfold Oper.wp
  rw [h a ha _ rfl rfl]
  exact hK _ _ hq (hk _ (ha.put hd v))
theorem wl_appBm (T : U8 P t) {s m : List UInt8} (hx : fr.ev x = some (.slice A n c)) (hown : OwnH w lo hi A c s) (hn : n = s.length) (hy : fr.ev y = some (.slice X j q)) (hr : Rd w X m) (hj : j = m.length) (hlen : s.length + m.length ≤ 4000000000) (hB : lo ≤ w.heap.size)
  (h : ∀ A' c' w', OwnH w' lo w'.heap.size A' c' (s ++ m) → Grew w w' 5 (blk A) → Below lo w w' → WL P fn F N ks ops tg.tail l ((d, .slice A' (s ++ m).length c') :: fr) w')
  (ht : tg.loud = true := by rfl) (hg : onG ops fr gd = true := by rfl) (hd : Nat.blt d N = true := by rfl) (hq : tg.calm = false ∨ tg.rw.may (blk A) := by exact .inl rfl) :
  WL P fn F N ks ops tg (⟨some d, .call { callee := .builtin .append, args := #[x, y], argTypes := #[t, t] }, ty, pos, aft, gd⟩ :: l) fr w := by
 subst hn; subst hj
 obtain ⟨A', c', w', hrun, h1, h2, h3, h4⟩ := run_app (P := P) w T (ty := ty) hown.o (k := q) hr (by omega) hB
 exact wl_vR (o_builtin (xs := [x, y]) (vs := [.slice A s.length c, .slice X m.length q]) (by simp [Fr.evs, hx, hy]) (by simp [builtin, hrun]) (by simp)) (h A' c' w' h1.h_ ⟨h2, RowH.ty hown⟩ h4) ht hg hd (hq.imp id fun e => Rw.of_may h2 e)
end
section
variable {P : Program} {fn : Func} {F : Ending → World → Prop} {N : Nat} {ks : List K} {ops : List Oper} {fr : Fr} {w : World} {row : Rw} {L C : Nat}
end
end Go.Proofs.YtahkeoegbjopfaaGreat
/-
  Walks of package ops: the bytes of one op.
-/
namespace Go.Proofs.YtahkeoegbjopfaaGreat
set_option maxRecDepth 100000
open Go.RowKit
def blkB (p : By) : By := enc p.length ++ p
theorem blkB_le {p : By} {n : Nat} (h : p.length ≤ n) (hn : n ≤ 4000000000) : (blkB p).length ≤ n + 9 := by
 have h1 : (enc p.length).length ≤ 9 := by
  rw [enc_length]; unfold room; (repeat' split) <;> omega
 simp only [blkB, List.length_append]; omega
def tailS (k : Int) (p q : By) (u : Ky) : By := if k = 1 then blkB p ++ blkB q else if k = 2 then blkB p else u.1
theorem who_rd {w : World} {g : Nat} {t : TypeId} {k : Int} {K V : Option Addr} {n c m d : Nat} {u : Ky} (hB : Blk w g t (opC k K n c V m d u)) : Rd w (some ⟨g, 0 + 3, none⟩) u.1 := by
 refine ⟨by rw [B8_length, Nat.mul_one], fun _ => ⟨g, 0 + 3, rfl, fun j v hj => ?_⟩⟩
 rw [hB.cell, show 0 + 3 + j = j + 3 by omega]
 exact hj
end Go.Proofs.YtahkeoegbjopfaaGreat
/-
  Rows of ops, as they lie in memory; the bytes of ops.
-/
namespace Go.Proofs.YtahkeoegbjopfaaGreat
set_option maxRecDepth 100000
open Go.RowKit
abbrev Opn := Int × By × By × Ky
def gOp : GoT Opn := (gInt .i64).pair (gBytes.pair (gBytes.pair (gArr 32)))
theorem gOp_tys : gOp.tys = [5, 5] := rfl
def RO (w : World) (A : Option Addr) (L : List Opn) : Prop := RSl gOp w A L
def ROT (w : World) (A : Option Addr) (L : List Opn) : Prop := RSlT gOp 54 w A L
def OwnO (w : World) (lo hi : Nat) (A : Option Addr) (c : Nat) (L : List Opn) : Prop := OwnS gOp 54 w lo hi A c L
theorem gOp_R {w : World} {cs : List Value} {o : Opn} (h : gOp.R w cs o) : ∃ K c V d, cs = opC o.1 K o.2.1.length c V o.2.2.1.length d o.2.2.2 ∧ Rd w K o.2.1 ∧ Rd w V o.2.2.1 ∧ o.2.1.length ≤ c ∧ c ≤ maxLen ∧ o.2.2.1.length ≤ d ∧ d ≤ maxLen ∧ (Lit.int .i64 o.1).wf = true := by
 obtain ⟨_, _, rfl, ⟨rfl, hk⟩, _, _, rfl, ⟨K, c, rfl, h1, h2, h3⟩, _, _, rfl, ⟨V, d, rfl, h4, h5, h6⟩, h7⟩ := h
 obtain ⟨rfl⟩ : _ = B8 o.2.2.2.1 := h7
 exact ⟨K, c, V, d, rfl, h1, h4, h2, h3, h5, h6, hk⟩
theorem gOp_mk {w : World} {k : Int} {K V : Option Addr} {p q : By} {c d : Nat} {u : Ky} (hk : (Lit.int .i64 k).wf = true) (h1 : RdT w K p) (h2 : p.length ≤ c) (h3 : c ≤ maxLen) (h4 : RdT w V q) (h5 : q.length ≤ d) (h6 : d ≤ maxLen) : gOp.T w (opC k K p.length c V q.length d u) (k, p, q, u) :=
 ⟨[.int .i64 k], [.slice K p.length c] ++ ([.slice V q.length d] ++ B8 u.1), rfl, ⟨rfl, hk⟩, [.slice K p.length c], [.slice V q.length d] ++ B8 u.1, rfl, ⟨K, c, rfl, h1, h2, h3⟩, [.slice V q.length d], B8 u.1, rfl, ⟨V, d, rfl, h4, h5, h6⟩, rfl⟩
theorem gOp_one (w : World) (cs : List Value) (o : Opn) (h : gOp.T w cs o) : ∀ u ∈ cs, u.oneCell' = true := by
 obtain ⟨K, c, V, d, rfl, _⟩ := gOp_R (gOp.tr h)
 intro v hv
 simp only [opC, List.mem_append, List.mem_cons, List.not_mem_nil, or_false] at hv
 rcases hv with (rfl | rfl | rfl) | hv
 ·rfl
 ·rfl
 ·rfl
 ·exact B8_oneCell _ _ hv
section
variable {w w' : World} {lo hi lo' hi' cp b : Nat} {A : Option Addr} {L : List Opn} {e' : TypeId} {row : Option Nat}
theorem RO.u (h : RO w A L) (hb : Below w.heap.size w w') : RO w' A L := RSl.u h hb
theorem RO.some_ (h : RO w A L) (hl : 0 < L.length) : A = some (A.getD ⟨0, 0, none⟩) := RSl.some_ h (show 0 < 35 by decide) hl
theorem RO.elem (h : RO w A L) {i : Nat} (hi : i < L.length) : ∃ K c V d, CellsAt w A (i * 35) (opC L[i].1 K L[i].2.1.length c V L[i].2.2.1.length d L[i].2.2.2) ∧ Rd w K L[i].2.1 ∧ Rd w V L[i].2.2.1 ∧ L[i].2.1.length ≤ c ∧ c ≤ maxLen ∧ L[i].2.2.1.length ≤ d ∧ d ≤ maxLen ∧ (Lit.int .i64 L[i].1).wf = true := by
 obtain ⟨cs, h1, h2⟩ := RSl.elem h (show 0 < 35 by decide) hi
 obtain ⟨K, c, V, d, rfl, h3⟩ := gOp_R h2
 exact ⟨K, c, V, d, h1, h3⟩
theorem OwnO.u (h : OwnO w lo hi A cp L) (hb : Below w.heap.size w w') : OwnO w' lo hi A cp L := OwnS.u h hb
theorem OwnO.d (h : OwnO w lo hi A cp L) : OwnO w.drew lo hi A cp L := OwnS.d h
theorem OwnO.y (h : OwnO w lo hi A cp L) (hg : Grew w w' e' row) (hne : e' ∉ 54 :: gOp.tys) : OwnO w' lo hi A cp L := OwnS.y h hg hne
theorem OwnO.q (h : OwnO w lo hi A cp L) (hg : Grew w w' e' row) (ha : Ap row lo hi) (hne : e' ∉ gOp.tys) : OwnO w' lo hi A cp L := OwnS.q h hg ha hne
theorem OwnO.ap (h : OwnO w lo hi A cp L) (hd : hi ≤ lo' ∨ hi' ≤ lo) : Ap (blk A) lo' hi' := OwnS.ap h hd
theorem OwnO.cap (h : OwnO w lo hi A cp L) : L.length ≤ cp := OwnS.cap h
theorem OwnO.nil_ : OwnO w lo hi none 0 [] := OwnS.nil_
theorem OwnO.base (h : OwnO w lo hi A cp L) (h1 : lo' ≤ lo) (h2 : hi ≤ hi') : OwnO w lo' hi' A cp L := OwnS.base h h1 h2
theorem OwnO.to_ROT (h : OwnO w lo hi A cp L) : ROT w A L := OwnS.to_RSlT h
theorem OwnO.to_RO (h : OwnO w lo hi A cp L) : RO w A L := OwnS.to_RSl h
end
theorem Tryz.rowO : RowT Tryz.prog 35 54 (.agg (opC 0 none 0 0 none 0 0 z32).toArray) 35 88 := ⟨Tryz.underlying35, by kernel_rfl, rfl, by omega⟩
section
variable {fn : Func} {F : Ending → World → Prop} {N : Nat} {ks : List K} {ops : Array Oper} {tg : Tags} {l : List Oper} {fr : Fr} {w w0 : World} {ty t' : TypeId} {pos : String} {aft : Array Edge} {gd : Option (Nat × Bool)} {d0 n j q c lo hi : Nat} {x y : Operand} {A B : Option Addr} {L M : List Opn}
theorem wl_ldOp (hx : fr.ev x = some (.pointer (some (adr A (j * 35))))) (hr : RO w0 A L) (hb : Below w0.heap.size w0 w) (hj : j < L.length)
  (hk : ∀ K c V d, Rd w0 K L[j].2.1 → Rd w0 V L[j].2.2.1 → L[j].2.1.length ≤ c → c ≤ maxLen → L[j].2.2.1.length ≤ d → d ≤ maxLen → (Lit.int .i64 L[j].1).wf = true → WL Tryz.prog fn F N ks ops tg.tail l ((d0, .agg (opC L[j].1 K L[j].2.1.length c V L[j].2.2.1.length d L[j].2.2.2).toArray) :: fr) w)
  (ht : tg.reads = true := by rfl) (hg : onG ops fr gd = true := by rfl) (hd : Nat.blt d0 N = true := by rfl) : WL Tryz.prog fn F N ks ops tg (⟨some d0, .load 54 x, ty, pos, aft, gd⟩ :: l) fr w := by
 obtain ⟨K, c, V, d, h1, h2, h3, h4, h5, h6, h7, h8⟩ := hr.elem hj
 refine wl_r (o_loadn (cs := opC L[j].1 K L[j].2.1.length c V L[j].2.2.1.length d L[j].2.2.2) Tryz.isAgg54 (by rw [opC_length]; exact Tryz.sizeOf54) hx (fun i u hu => ?_)) (hk K c V d h2 h3 h4 h5 h6 h7 h8) ht hg hd
 rw [adr_add]
 exact h1.u hb i u hu
theorem wl_litO1 {ps : Array (Nat × Operand)} {xs : List Operand} {k : Int} {K V : Option Addr} {p r : By} {m1 m2 c1 d1 : Nat} {u : Ky} (hxs : ps.toList.map Prod.snd = xs) (hx : fr.evs xs = some [.agg (opC k K m1 c1 V m2 d1 u).toArray]) (h1 : RdT w K p) (h4 : RdT w V r) (hm1 : m1 = p.length) (hm2 : m2 = r.length) (h2 : p.length ≤ c1) (h3 : c1 ≤ maxLen) (h5 : r.length ≤ d1) (h6 : d1 ≤ maxLen) (hk0 : (Lit.int .i64 k).wf = true) (hps : ps = ((List.range' 0 1).zip xs).toArray)
  (hk : ∀ A w', OwnO w' w.heap.size w'.heap.size A 1 [(k, p, r, u)] → Below w.heap.size w w' → WL Tryz.prog fn F N ks ops tg.tail l ((d0, .slice A 1 1) :: fr) w')
  (ht : tg.loud = true := by rfl) (hg : onG ops fr gd = true := by rfl) (hd : Nat.blt d0 N = true := by rfl) : WL Tryz.prog fn F N ks ops tg (⟨some d0, .buildSlice 35 1 ps, ty, pos, aft, gd⟩ :: l) fr w := by
 subst hm1; subst hm2
 refine wl_litS (X := gOp) (L := [(k, p, r, u)]) Tryz.rowO Tryz.sizeOf54 Tryz.zeroValue54 hxs hps hx rfl rfl (fun i h => ?_) rfl hk ht hg hd
 obtain rfl : i = 0 := by simp at h; omega
 exact ⟨_, rfl, by show (opC k K p.length c1 V r.length d1 u).toArray.size = 35; rw [List.size_toArray, opC_length], gOp_mk hk0 h1 h2 h3 h4 h5 h6⟩
theorem wl_appO (hx : fr.ev x = some (.slice A n c)) (hown : OwnO w lo hi A c L) (hn : n = L.length) (hy : fr.ev y = some (.slice B j q)) (hr : ROT w B M) (hj : j = M.length) (hlen : L.length + M.length ≤ 1000000) (hB : lo ≤ w.heap.size)
  (h : ∀ A' c' w', OwnO w' lo w'.heap.size A' c' (L ++ M) → Grew w w' 54 (blk A) → Below lo w w' → WL Tryz.prog fn F N ks ops tg.tail l ((d0, .slice A' (L ++ M).length c') :: fr) w')
  (ht : tg.loud = true := by rfl) (hg : onG ops fr gd = true := by rfl) (hd : Nat.blt d0 N = true := by rfl) (hq : tg.calm = false ∨ blk A = none ∨ blk A = tg.row := by exact .inl rfl) :
  WL Tryz.prog fn F N ks ops tg (⟨some d0, .call { callee := .builtin .append, args := #[x, y], argTypes := #[35, 35] }, ty, pos, aft, gd⟩ :: l) fr w :=
 wl_appS (X := gOp) Tryz.rowO hx hown hn hy hr hj (by simp [gOp_tys]) gOp_one (by have := Nat.mul_le_mul_right 88 hlen; omega) (by omega) hB (fun A' c' w' h1 h2 h3 _ => h A' c' w' h1 h2 h3) ht hg hd hq
end
theorem opC_one (k : Int) (K : Option Addr) (n c : Nat) (V : Option Addr) (m d : Nat) (u : Ky) : ∀ v ∈ opC k K n c V m d u, v.oneCell' = true := by
 intro v hv
 simp only [opC, List.mem_append, List.mem_cons, List.not_mem_nil, or_false] at hv
 rcases hv with (rfl | rfl | rfl) | hv
 ·rfl
 ·rfl
 ·rfl
 ·exact B8_oneCell _ _ hv
section
variable {fn : Func} {F : Ending → World → Prop} {N : Nat} {ks : List K} {ops : Array Oper} {tg : Tags} {l : List Oper} {fr : Fr} {w : World} {ty t' : TypeId} {pos : String} {aft : Array Edge} {gd : Option (Nat × Bool)} {d0 g : Nat} {x y : Operand} {k k' : Int} {K V K' V' : Option Addr} {n c m d n' c' m' d' : Nat} {u u' : Ky}
theorem wl_allocOp (hk : ∀ g w', Blk w' g 54 (opC 0 none 0 0 none 0 0 z32) → Below w.heap.size w w' → w.heap.size ≤ g → g < w'.heap.size → WL Tryz.prog fn F N ks ops tg.tail l ((d0, .pointer (some ⟨g, 0, none⟩)) :: fr) w')
  (ht : tg.loud = true := by rfl) (hg : onG ops fr gd = true := by rfl) (hd : Nat.blt d0 N = true := by rfl) : WL Tryz.prog fn F N ks ops tg (⟨some d0, .alloc 54, ty, pos, aft, gd⟩ :: l) fr w :=
 wl_allocg _ Tryz.zeroValue54 rfl hk ht hg hd
theorem wl_stOpB (hx : fr.ev x = some (.pointer (some ⟨g, 0, none⟩))) (hB : Blk w g t' (opC k' K' n' c' V' m' d' u')) (hy : fr.ev y = some (.agg (opC k K n c V m d u).toArray))
  (hk : ∀ w', Blk w' g t' (opC k K n c V m d u) → Grew w w' t' (some g) → w'.heap.size = w.heap.size → WL Tryz.prog fn F N ks ops tg.tail l fr w') (ht : tg.loud = true := by rfl) (hg : onG ops fr gd = true := by rfl) (hq : tg.calm = false ∨ tg.rw.may (some g) := by exact .inl rfl) :
  WL Tryz.prog fn F N ks ops tg (⟨none, .store 54 x y, ty, pos, aft, gd⟩ :: l) fr w :=
 wl_storega Tryz.sizeOf54 hx hy (opC_length ..) (opC_one k K n c V m d u) hB (opC_length ..) hk ht hg hq
end
def okO (o : Opn) : Bool := okOp o.1 o.2.1.length o.2.2.1.length o.2.2.2
def opB (o : Opn) : By := UInt8.ofNat o.1.toNat :: tailS o.1 o.2.1 o.2.2.1 o.2.2.2
def bytesO (L : List Opn) : By × Nat := if 8 < L.length then ([], 2) else if L.all okO = true then (UInt8.ofNat L.length :: L.flatMap opB, 0) else ([], 2)
theorem goodS_le {k : Int} {n m : Nat} {u : Ky} (h : goodS k n m u = true) : n ≤ 16 ∧ m ≤ 32 := by
 unfold goodS at h
 repeat' split at h
 all_goals simp only [Bool.and_eq_true, decide_eq_true_eq] at h; omega
theorem tailS_le {k : Int} {p q : By} {u : Ky} (hp : p.length ≤ 16) (hq : q.length ≤ 32) : (tailS k p q u).length ≤ 70 := by
 have h1 := blkB_le hp (by omega)
 have h2 := blkB_le hq (by omega)
 have h3 := u.2
 unfold tailS
 repeat' split
 all_goals first | omega | (simp only [List.length_append]; omega)
end Go.Proofs.YtahkeoegbjopfaaGreat
/-
  Walks of package ops: Check.
-/
namespace Go.Proofs.YtahkeoegbjopfaaGreat
set_option maxRecDepth 100000
open Go.RowKit
end Go.Proofs.YtahkeoegbjopfaaGreat
/-
  Walks of package ops: the bytes of ops.
-/
namespace Go.Proofs.YtahkeoegbjopfaaGreat
set_option maxRecDepth 100000
open Go.RowKit
end Go.Proofs.YtahkeoegbjopfaaGreat
/-
  Walks of the document's answer for chapter 22: an op's check, the bytes of ops.
-/
namespace Go.Proofs.YtahkeoegbjopfaaGreat
set_option maxRecDepth 100000
open Go.RowKit
theorem C_refBlockH {A X : Option Addr} {l p : By} {n m c k : Nat} (w : World) (hr : Rd w A l) (hp : Rd w X p) (hn : n = l.length) (hm : m = p.length) (hl : l.length ≤ 4000000) (hl2 : p.length ≤ 4000000) :
  CallsR Tryz.prog 63 [.slice A n c, .slice X m k] w fun v w' => ∃ A' c', v = .slice A' (l ++ blkB p).length c' ∧ OwnH w' w.heap.size w'.heap.size A' c' (l ++ blkB p) ∧ Below w.heap.size w w' := by
 subst hn; subst hm
 refine CallsR.mono (C_refBlock c k w hr hp (by omega)) ?_
 rintro v w' ⟨A', c', rfl, h1, h2⟩
 rw [List.append_assoc] at h1 ⊢
 exact ⟨A', c', rfl, h1.h_, h2⟩
theorem C_r11Key {A : Option Addr} {n c : Nat} (w : World) (hn : n ≤ 4000000000) :
  CallsR Tryz.prog 117 [.slice A n c] w fun v w' => v = .bool (decide (1 ≤ n ∧ n ≤ 16)) ∧ Below w.heap.size w w' := by
 refine callsR Tryz.func117 rfl rfl (by kernel_rfl) rfl ?_
 have hw := Below.refl w.heap.size w
 by_cases h1 : 1 ≤ n
 ·refine rk_seq ?_
  refine rk_region ?_
  refine wl_p (fun _ => o_assign rfl) ?_
  refine wl_nil ?_
  refine rk_seq ?_
  refine rk_region ?_
  refine wl_p (fun _ => o_move rfl) ?_
  refine wl_p (fun _ => o_len (t := 39) Tryz.underlying39 rfl) ?_
  refine wl_p (fun _ => o_ge rfl rfl) ?_
  refine wl_p (fun _ => o_move rfl) ?_
  refine wl_know 6 true rfl (decide_eq_true (by omega)) ?_
  refine wl_p (fun _ => o_move rfl) ?_
  refine wl_p (fun _ => o_len (t := 39) Tryz.underlying39 rfl) ?_
  refine wl_p (fun _ => o_le rfl rfl) ?_
  refine wl_p (fun _ => o_pick_t rfl rfl) ?_
  refine wl_p (fun _ => o_assign rfl) ?_
  refine wl_nil ?_
  refine ret1 rfl rfl ?_
  exact ⟨congrArg Value.bool (decide_eq_decide.2 (by omega)), hw⟩
 ·refine rk_seq ?_
  refine rk_region ?_
  refine wl_p (fun _ => o_assign rfl) ?_
  refine wl_nil ?_
  refine rk_seq ?_
  refine rk_region ?_
  refine wl_p (fun _ => o_move rfl) ?_
  refine wl_p (fun _ => o_len (t := 39) Tryz.underlying39 rfl) ?_
  refine wl_p (fun _ => o_ge rfl rfl) ?_
  refine wl_p (fun _ => o_move rfl) ?_
  refine wl_know 6 false rfl (decide_eq_false (by omega)) ?_
  refine wl_off ?_
  refine wl_off ?_
  refine wl_off ?_
  refine wl_p (fun _ => o_pick_f rfl rfl) ?_
  refine wl_p (fun _ => o_assign rfl) ?_
  refine wl_nil ?_
  refine ret1 rfl rfl ?_
  exact ⟨by simp [h1], hw⟩
theorem C_r11Value {A : Option Addr} {n c : Nat} (w : World) (hn : n ≤ 4000000000) :
  CallsR Tryz.prog 118 [.slice A n c] w fun v w' => v = .bool (decide (n ≤ 32)) ∧ Below w.heap.size w w' := by
 refine callsR Tryz.func118 rfl rfl (by kernel_rfl) rfl ?_
 have hw := Below.refl w.heap.size w
 refine rk_seq ?_
 refine rk_region ?_
 refine wl_p (fun _ => o_assign rfl) ?_
 refine wl_nil ?_
 refine rk_seq ?_
 refine rk_region ?_
 refine wl_p (fun _ => o_move rfl) ?_
 refine wl_p (fun _ => o_len (t := 39) Tryz.underlying39 rfl) ?_
 refine wl_p (fun _ => o_le rfl rfl) ?_
 refine wl_p (fun _ => o_assign rfl) ?_
 refine wl_nil ?_
 refine ret1 rfl rfl ?_
 exact ⟨congrArg Value.bool (decide_eq_decide.2 (by omega)), hw⟩
theorem C_r11KeyY {A : Option Addr} {n c : Nat} (w : World) (h : 1 ≤ n ∧ n ≤ 16) :
  CallsR Tryz.prog 117 [.slice A n c] w fun v w' => v = .bool true ∧ Below w.heap.size w w' := by
 have := C_r11Key (A := A) (c := c) w (n := n) (by omega)
 rwa [decide_eq_true h] at this
theorem C_r11KeyN {A : Option Addr} {n c : Nat} (w : World) (hn : n ≤ 4000000000) (h : ¬(1 ≤ n ∧ n ≤ 16)) :
  CallsR Tryz.prog 117 [.slice A n c] w fun v w' => v = .bool false ∧ Below w.heap.size w w' := by
 have := C_r11Key (A := A) (c := c) w (n := n) hn
 rwa [decide_eq_false h] at this
theorem C_r11ValueY {A : Option Addr} {n c : Nat} (w : World) (h : n ≤ 32) :
  CallsR Tryz.prog 118 [.slice A n c] w fun v w' => v = .bool true ∧ Below w.heap.size w w' := by
 have := C_r11Value (A := A) (c := c) w (n := n) (by omega)
 rwa [decide_eq_true h] at this
theorem C_r11ValueN {A : Option Addr} {n c : Nat} (w : World) (hn : n ≤ 4000000000) (h : ¬(n ≤ 32)) :
  CallsR Tryz.prog 118 [.slice A n c] w fun v w' => v = .bool false ∧ Below w.heap.size w w' := by
 have := C_r11Value (A := A) (c := c) w (n := n) hn
 rwa [decide_eq_false h] at this
theorem C_r22Check {K V : Option Addr} {n c m d : Nat} {k : Int} {u : Ky} (w : World) (hn : n ≤ 4000000000) (hm : m ≤ 4000000000) :
  CallsR Tryz.prog 62 [.agg (opC k K n c V m d u).toArray] w fun v w' => v = .int .i64 (if okOp k n m u = true then 0 else 2) ∧ Below w.heap.size w w' := by
 refine callsR Tryz.func62 rfl rfl (by kernel_rfl) rfl ?_
 have hw := Below.refl w.heap.size w
 by_cases hk : k = 1 ∨ k = 2 ∨ k = 3 ∨ k = 4 ∨ k = 5 ∨ k = 6
 rotate_left
 ·have x1 : k ≠ 1 := by omega
  have x2 : k ≠ 2 := by omega
  have x3 : k ≠ 3 := by omega
  have x4 : k ≠ 4 := by omega
  have x5 : k ≠ 5 := by omega
  have x6 : k ≠ 6 := by omega
  have x7 : okOp k n m u = false := by
   unfold okOp
   rw [show (decide (1 ≤ k) && decide (k ≤ 6)) = false by simp only [Bool.and_eq_false_imp, decide_eq_true_eq, decide_eq_false_iff_not]; omega]
   rfl
  refine rk_seq ?_
  refine rk_region ?_
  refine wl_boxg _ rfl (by rfl) ?_
  rintro g1 w1 f1 b1 i1 i1_1
  have s1 := b1.size
  replace hw := hw.trans (b1.mono hw.size)
  refine wl_p (fun _ => o_assign rfl) ?_
  refine wl_nil ?_
  refine rk_seq ?_
  refine rk_region ?_
  refine wl_p (fun _ => o_faddr (s := 54) (i := 3) (off := 3) Tryz.underlying54 rfl Tryz.sizeOf42 rfl rfl rfl) ?_
  refine wl_r (o_ldWho rfl f1) ?_
  refine wl_p (fun _ => (o_zKey)) ?_
  refine wl_p (fun _ => (o_eqKy rfl rfl)) ?_
  refine wl_p (fun _ => o_assign rfl) ?_
  refine wl_nil ?_
  refine rk_seq ?_
  refine rk_region ?_
  refine wl_p (fun _ => o_assign rfl) ?_
  refine wl_nil ?_
  refine rk_seq ?_
  refine rk_seq ?_
  refine rk_region ?_
  refine wl_p (fun _ => o_faddr (s := 54) (i := 0) (off := 0) Tryz.underlying54 rfl Tryz.sizeOf3 rfl rfl rfl) ?_
  refine wl_r (o_loadbg Tryz.isAgg3 rfl f1 (by rfl)) ?_
  refine wl_nil ?_
  refine rk_block ?_
  refine rk_seq ?_
  refine rk_region ?_
  refine wl_p (fun _ => o_eq rfl rfl) ?_
  refine wl_p (fun _ => o_assign rfl) ?_
  refine wl_nil ?_
  refine rk_if rfl (fun h11 => absurd h11 (by omega)) (fun h11 => ?_)
  refine rk_seq ?_
  refine rk_region ?_
  refine wl_p (fun _ => o_eq rfl rfl) ?_
  refine wl_p (fun _ => o_assign rfl) ?_
  refine wl_nil ?_
  refine rk_if rfl (fun h24 => absurd h24 (by omega)) (fun h24 => ?_)
  refine rk_seq ?_
  refine rk_seq ?_
  refine rk_region ?_
  refine wl_p (fun _ => o_eq rfl rfl) ?_
  refine wl_p (fun _ => o_assign rfl) ?_
  refine wl_nil ?_
  refine rk_if rfl (fun h38 => absurd h38 (by omega)) (fun h38 => ?_)
  refine rk_seq ?_
  refine rk_region ?_
  refine wl_p (fun _ => o_eq rfl rfl) ?_
  refine wl_p (fun _ => o_assign rfl) ?_
  refine wl_nil ?_
  refine rk_if rfl (fun h38 => absurd h38 (by omega)) (fun h38 => ?_)
  refine rk_seq ?_
  refine rk_region ?_
  refine wl_p (fun _ => o_eq rfl rfl) ?_
  refine wl_p (fun _ => o_assign rfl) ?_
  refine wl_nil ?_
  refine rk_if rfl (fun h38 => absurd h38 (by omega)) (fun h38 => ?_)
  refine rk_region ?_
  refine wl_p (fun _ => o_eq rfl rfl) ?_
  refine wl_p (fun _ => o_assign rfl) ?_
  refine wl_nil ?_
  refine rk_if rfl (fun h38 => absurd h38 (by omega)) (fun h38 => ?_)
  refine rk_skip ?_
  refine rk_blk ?_
  refine rk_seq ?_
  refine rk_seq ?_
  refine rk_region ?_
  refine wl_p (fun _ => o_move rfl) ?_
  refine wl_p (fun _ => o_not rfl) ?_
  refine wl_nil ?_
  refine rk_true rfl ?_
  refine rk_seq ?_
  refine rk_region ?_
  refine wl_p (fun _ => o_assign rfl) ?_
  refine wl_nil ?_
  refine ret1 rfl rfl ?_
  exact ⟨by simp [x7], hw⟩
 rcases hk with rfl | rfl | rfl | rfl | rfl | rfl
 ·by_cases h1 : 1 ≤ n ∧ n ≤ 16
  ·by_cases h2 : m ≤ 32
   ·by_cases hu : u = z32
    ·refine rk_seq ?_
     refine rk_region ?_
     refine wl_boxg _ rfl (by rfl) ?_
     rintro g1 w1 f1 b1 i1 i1_1
     have s1 := b1.size
     replace hw := hw.trans (b1.mono hw.size)
     refine wl_p (fun _ => o_assign rfl) ?_
     refine wl_nil ?_
     refine rk_seq ?_
     refine rk_region ?_
     refine wl_p (fun _ => o_faddr (s := 54) (i := 3) (off := 3) Tryz.underlying54 rfl Tryz.sizeOf42 rfl rfl rfl) ?_
     refine wl_r (o_ldWho rfl f1) ?_
     refine wl_p (fun _ => (o_zKey)) ?_
     refine wl_p (fun _ => (o_eqKy rfl rfl)) ?_
     refine wl_p (fun _ => o_assign rfl) ?_
     refine wl_nil ?_
     refine rk_seq ?_
     refine rk_region ?_
     refine wl_p (fun _ => o_assign rfl) ?_
     refine wl_nil ?_
     refine rk_seq ?_
     refine rk_seq ?_
     refine rk_region ?_
     refine wl_p (fun _ => o_faddr (s := 54) (i := 0) (off := 0) Tryz.underlying54 rfl Tryz.sizeOf3 rfl rfl rfl) ?_
     refine wl_r (o_loadbg Tryz.isAgg3 rfl f1 (by rfl)) ?_
     refine wl_nil ?_
     refine rk_block ?_
     refine rk_seq ?_
     refine rk_region ?_
     refine wl_p (fun _ => o_eq rfl rfl) ?_
     refine wl_p (fun _ => o_assign rfl) ?_
     refine wl_nil ?_
     refine rk_true rfl ?_
     refine rk_region ?_
     refine wl_p (fun _ => o_faddr (s := 54) (i := 1) (off := 1) Tryz.underlying54 rfl Tryz.sizeOf39 rfl rfl rfl) ?_
     refine wl_r (o_loadbg Tryz.isAgg39 rfl f1 (by rfl)) ?_
     refine wl_call rfl (C_r11KeyY _ (by omega)) ?_
     rintro v15 w15 ⟨rfl, b15⟩
     have s15 := b15.size
     replace hw := hw.trans (b15.mono hw.size)
     replace f1 := f1.u b15
     refine wl_p (fun _ => o_move rfl) ?_
     refine wl_p (fun _ => o_faddr (s := 54) (i := 2) (off := 2) Tryz.underlying54 rfl Tryz.sizeOf39 rfl rfl rfl) ?_
     refine wl_r (o_loadbg Tryz.isAgg39 rfl f1 (by rfl)) ?_
     refine wl_call rfl (C_r11ValueY _ (by omega)) ?_
     rintro v19 w19 ⟨rfl, b19⟩
     have s19 := b19.size
     replace hw := hw.trans (b19.mono hw.size)
     replace f1 := f1.u b19
     refine wl_p (fun _ => o_pick_t rfl rfl) ?_
     refine wl_p (fun _ => o_move rfl) ?_
     refine wl_p (fun _ => o_move rfl) ?_
     refine wl_p (fun _ => o_pick_t rfl rfl) ?_
     refine wl_p (fun _ => o_assign rfl) ?_
     refine wl_nil ?_
     refine rk_blk ?_
     refine rk_seq ?_
     refine rk_seq ?_
     refine rk_region ?_
     refine wl_p (fun _ => o_move rfl) ?_
     refine wl_p (fun _ => o_not rfl) ?_
     refine wl_nil ?_
     rw [decide_eq_true hu]
     refine rk_false rfl ?_
     refine rk_skip ?_
     refine rk_seq ?_
     refine rk_region ?_
     refine wl_p (fun _ => o_assign rfl) ?_
     refine wl_nil ?_
     refine ret1 rfl rfl ?_
     exact ⟨by simp [okOp, goodS, h1, h2, hu], hw⟩
    ·refine rk_seq ?_
     refine rk_region ?_
     refine wl_boxg _ rfl (by rfl) ?_
     rintro g1 w1 f1 b1 i1 i1_1
     have s1 := b1.size
     replace hw := hw.trans (b1.mono hw.size)
     refine wl_p (fun _ => o_assign rfl) ?_
     refine wl_nil ?_
     refine rk_seq ?_
     refine rk_region ?_
     refine wl_p (fun _ => o_faddr (s := 54) (i := 3) (off := 3) Tryz.underlying54 rfl Tryz.sizeOf42 rfl rfl rfl) ?_
     refine wl_r (o_ldWho rfl f1) ?_
     refine wl_p (fun _ => (o_zKey)) ?_
     refine wl_p (fun _ => (o_eqKy rfl rfl)) ?_
     refine wl_p (fun _ => o_assign rfl) ?_
     refine wl_nil ?_
     refine rk_seq ?_
     refine rk_region ?_
     refine wl_p (fun _ => o_assign rfl) ?_
     refine wl_nil ?_
     refine rk_seq ?_
     refine rk_seq ?_
     refine rk_region ?_
     refine wl_p (fun _ => o_faddr (s := 54) (i := 0) (off := 0) Tryz.underlying54 rfl Tryz.sizeOf3 rfl rfl rfl) ?_
     refine wl_r (o_loadbg Tryz.isAgg3 rfl f1 (by rfl)) ?_
     refine wl_nil ?_
     refine rk_block ?_
     refine rk_seq ?_
     refine rk_region ?_
     refine wl_p (fun _ => o_eq rfl rfl) ?_
     refine wl_p (fun _ => o_assign rfl) ?_
     refine wl_nil ?_
     refine rk_true rfl ?_
     refine rk_region ?_
     refine wl_p (fun _ => o_faddr (s := 54) (i := 1) (off := 1) Tryz.underlying54 rfl Tryz.sizeOf39 rfl rfl rfl) ?_
     refine wl_r (o_loadbg Tryz.isAgg39 rfl f1 (by rfl)) ?_
     refine wl_call rfl (C_r11KeyY _ (by omega)) ?_
     rintro v15 w15 ⟨rfl, b15⟩
     have s15 := b15.size
     replace hw := hw.trans (b15.mono hw.size)
     replace f1 := f1.u b15
     refine wl_p (fun _ => o_move rfl) ?_
     refine wl_p (fun _ => o_faddr (s := 54) (i := 2) (off := 2) Tryz.underlying54 rfl Tryz.sizeOf39 rfl rfl rfl) ?_
     refine wl_r (o_loadbg Tryz.isAgg39 rfl f1 (by rfl)) ?_
     refine wl_call rfl (C_r11ValueY _ (by omega)) ?_
     rintro v19 w19 ⟨rfl, b19⟩
     have s19 := b19.size
     replace hw := hw.trans (b19.mono hw.size)
     replace f1 := f1.u b19
     refine wl_p (fun _ => o_pick_t rfl rfl) ?_
     refine wl_p (fun _ => o_move rfl) ?_
     refine wl_p (fun _ => o_move rfl) ?_
     refine wl_p (fun _ => o_pick_t rfl rfl) ?_
     refine wl_p (fun _ => o_assign rfl) ?_
     refine wl_nil ?_
     refine rk_blk ?_
     refine rk_seq ?_
     refine rk_seq ?_
     refine rk_region ?_
     refine wl_p (fun _ => o_move rfl) ?_
     refine wl_p (fun _ => o_not rfl) ?_
     refine wl_nil ?_
     rw [decide_eq_false hu]
     refine rk_true rfl ?_
     refine rk_seq ?_
     refine rk_region ?_
     refine wl_p (fun _ => o_assign rfl) ?_
     refine wl_nil ?_
     refine ret1 rfl rfl ?_
     exact ⟨by simp [okOp, goodS, hu], hw⟩
   ·refine rk_seq ?_
    refine rk_region ?_
    refine wl_boxg _ rfl (by rfl) ?_
    rintro g1 w1 f1 b1 i1 i1_1
    have s1 := b1.size
    replace hw := hw.trans (b1.mono hw.size)
    refine wl_p (fun _ => o_assign rfl) ?_
    refine wl_nil ?_
    refine rk_seq ?_
    refine rk_region ?_
    refine wl_p (fun _ => o_faddr (s := 54) (i := 3) (off := 3) Tryz.underlying54 rfl Tryz.sizeOf42 rfl rfl rfl) ?_
    refine wl_r (o_ldWho rfl f1) ?_
    refine wl_p (fun _ => (o_zKey)) ?_
    refine wl_p (fun _ => (o_eqKy rfl rfl)) ?_
    refine wl_p (fun _ => o_assign rfl) ?_
    refine wl_nil ?_
    refine rk_seq ?_
    refine rk_region ?_
    refine wl_p (fun _ => o_assign rfl) ?_
    refine wl_nil ?_
    refine rk_seq ?_
    refine rk_seq ?_
    refine rk_region ?_
    refine wl_p (fun _ => o_faddr (s := 54) (i := 0) (off := 0) Tryz.underlying54 rfl Tryz.sizeOf3 rfl rfl rfl) ?_
    refine wl_r (o_loadbg Tryz.isAgg3 rfl f1 (by rfl)) ?_
    refine wl_nil ?_
    refine rk_block ?_
    refine rk_seq ?_
    refine rk_region ?_
    refine wl_p (fun _ => o_eq rfl rfl) ?_
    refine wl_p (fun _ => o_assign rfl) ?_
    refine wl_nil ?_
    refine rk_true rfl ?_
    refine rk_region ?_
    refine wl_p (fun _ => o_faddr (s := 54) (i := 1) (off := 1) Tryz.underlying54 rfl Tryz.sizeOf39 rfl rfl rfl) ?_
    refine wl_r (o_loadbg Tryz.isAgg39 rfl f1 (by rfl)) ?_
    refine wl_call rfl (C_r11KeyY _ (by omega)) ?_
    rintro v15 w15 ⟨rfl, b15⟩
    have s15 := b15.size
    replace hw := hw.trans (b15.mono hw.size)
    replace f1 := f1.u b15
    refine wl_p (fun _ => o_move rfl) ?_
    refine wl_p (fun _ => o_faddr (s := 54) (i := 2) (off := 2) Tryz.underlying54 rfl Tryz.sizeOf39 rfl rfl rfl) ?_
    refine wl_r (o_loadbg Tryz.isAgg39 rfl f1 (by rfl)) ?_
    refine wl_call rfl (C_r11ValueN _ (by omega) (by omega)) ?_
    rintro v19 w19 ⟨rfl, b19⟩
    have s19 := b19.size
    replace hw := hw.trans (b19.mono hw.size)
    replace f1 := f1.u b19
    refine wl_p (fun _ => o_pick_t rfl rfl) ?_
    refine wl_p (fun _ => o_move rfl) ?_
    refine wl_off ?_
    refine wl_p (fun _ => o_pick_f rfl rfl) ?_
    refine wl_p (fun _ => o_assign rfl) ?_
    refine wl_nil ?_
    refine rk_blk ?_
    refine rk_seq ?_
    refine rk_seq ?_
    refine rk_region ?_
    refine wl_p (fun _ => o_move rfl) ?_
    refine wl_p (fun _ => o_not rfl) ?_
    refine wl_nil ?_
    refine rk_true rfl ?_
    refine rk_seq ?_
    refine rk_region ?_
    refine wl_p (fun _ => o_assign rfl) ?_
    refine wl_nil ?_
    refine ret1 rfl rfl ?_
    exact ⟨by simp [okOp, goodS, h2], hw⟩
  ·refine rk_seq ?_
   refine rk_region ?_
   refine wl_boxg _ rfl (by rfl) ?_
   rintro g1 w1 f1 b1 i1 i1_1
   have s1 := b1.size
   replace hw := hw.trans (b1.mono hw.size)
   refine wl_p (fun _ => o_assign rfl) ?_
   refine wl_nil ?_
   refine rk_seq ?_
   refine rk_region ?_
   refine wl_p (fun _ => o_faddr (s := 54) (i := 3) (off := 3) Tryz.underlying54 rfl Tryz.sizeOf42 rfl rfl rfl) ?_
   refine wl_r (o_ldWho rfl f1) ?_
   refine wl_p (fun _ => (o_zKey)) ?_
   refine wl_p (fun _ => (o_eqKy rfl rfl)) ?_
   refine wl_p (fun _ => o_assign rfl) ?_
   refine wl_nil ?_
   refine rk_seq ?_
   refine rk_region ?_
   refine wl_p (fun _ => o_assign rfl) ?_
   refine wl_nil ?_
   refine rk_seq ?_
   refine rk_seq ?_
   refine rk_region ?_
   refine wl_p (fun _ => o_faddr (s := 54) (i := 0) (off := 0) Tryz.underlying54 rfl Tryz.sizeOf3 rfl rfl rfl) ?_
   refine wl_r (o_loadbg Tryz.isAgg3 rfl f1 (by rfl)) ?_
   refine wl_nil ?_
   refine rk_block ?_
   refine rk_seq ?_
   refine rk_region ?_
   refine wl_p (fun _ => o_eq rfl rfl) ?_
   refine wl_p (fun _ => o_assign rfl) ?_
   refine wl_nil ?_
   refine rk_true rfl ?_
   refine rk_region ?_
   refine wl_p (fun _ => o_faddr (s := 54) (i := 1) (off := 1) Tryz.underlying54 rfl Tryz.sizeOf39 rfl rfl rfl) ?_
   refine wl_r (o_loadbg Tryz.isAgg39 rfl f1 (by rfl)) ?_
   refine wl_call rfl (C_r11KeyN _ (by omega) (by omega)) ?_
   rintro v15 w15 ⟨rfl, b15⟩
   have s15 := b15.size
   replace hw := hw.trans (b15.mono hw.size)
   replace f1 := f1.u b15
   refine wl_p (fun _ => o_move rfl) ?_
   refine wl_off ?_
   refine wl_off ?_
   refine wl_off ?_
   refine wl_p (fun _ => o_pick_f rfl rfl) ?_
   refine wl_p (fun _ => o_move rfl) ?_
   refine wl_off ?_
   refine wl_p (fun _ => o_pick_f rfl rfl) ?_
   refine wl_p (fun _ => o_assign rfl) ?_
   refine wl_nil ?_
   refine rk_blk ?_
   refine rk_seq ?_
   refine rk_seq ?_
   refine rk_region ?_
   refine wl_p (fun _ => o_move rfl) ?_
   refine wl_p (fun _ => o_not rfl) ?_
   refine wl_nil ?_
   refine rk_true rfl ?_
   refine rk_seq ?_
   refine rk_region ?_
   refine wl_p (fun _ => o_assign rfl) ?_
   refine wl_nil ?_
   refine ret1 rfl rfl ?_
   exact ⟨by simp [okOp, goodS, h1], hw⟩
 ·by_cases h1 : 1 ≤ n ∧ n ≤ 16
  ·by_cases h2 : m = 0
   ·by_cases hu : u = z32
    ·refine rk_seq ?_
     refine rk_region ?_
     refine wl_boxg _ rfl (by rfl) ?_
     rintro g1 w1 f1 b1 i1 i1_1
     have s1 := b1.size
     replace hw := hw.trans (b1.mono hw.size)
     refine wl_p (fun _ => o_assign rfl) ?_
     refine wl_nil ?_
     refine rk_seq ?_
     refine rk_region ?_
     refine wl_p (fun _ => o_faddr (s := 54) (i := 3) (off := 3) Tryz.underlying54 rfl Tryz.sizeOf42 rfl rfl rfl) ?_
     refine wl_r (o_ldWho rfl f1) ?_
     refine wl_p (fun _ => (o_zKey)) ?_
     refine wl_p (fun _ => (o_eqKy rfl rfl)) ?_
     refine wl_p (fun _ => o_assign rfl) ?_
     refine wl_nil ?_
     refine rk_seq ?_
     refine rk_region ?_
     refine wl_p (fun _ => o_assign rfl) ?_
     refine wl_nil ?_
     refine rk_seq ?_
     refine rk_seq ?_
     refine rk_region ?_
     refine wl_p (fun _ => o_faddr (s := 54) (i := 0) (off := 0) Tryz.underlying54 rfl Tryz.sizeOf3 rfl rfl rfl) ?_
     refine wl_r (o_loadbg Tryz.isAgg3 rfl f1 (by rfl)) ?_
     refine wl_nil ?_
     refine rk_block ?_
     refine rk_seq ?_
     refine rk_region ?_
     refine wl_p (fun _ => o_eq rfl rfl) ?_
     refine wl_p (fun _ => o_assign rfl) ?_
     refine wl_nil ?_
     refine rk_false rfl ?_
     refine rk_seq ?_
     refine rk_region ?_
     refine wl_p (fun _ => o_eq rfl rfl) ?_
     refine wl_p (fun _ => o_assign rfl) ?_
     refine wl_nil ?_
     refine rk_true rfl ?_
     refine rk_region ?_
     refine wl_p (fun _ => o_faddr (s := 54) (i := 1) (off := 1) Tryz.underlying54 rfl Tryz.sizeOf39 rfl rfl rfl) ?_
     refine wl_r (o_loadbg Tryz.isAgg39 rfl f1 (by rfl)) ?_
     refine wl_call rfl (C_r11KeyY _ (by omega)) ?_
     rintro v28 w28 ⟨rfl, b28⟩
     have s28 := b28.size
     replace hw := hw.trans (b28.mono hw.size)
     replace f1 := f1.u b28
     refine wl_p (fun _ => o_move rfl) ?_
     refine wl_p (fun _ => o_faddr (s := 54) (i := 2) (off := 2) Tryz.underlying54 rfl Tryz.sizeOf39 rfl rfl rfl) ?_
     refine wl_r (o_loadbg Tryz.isAgg39 rfl f1 (by rfl)) ?_
     refine wl_p (fun _ => o_len (t := 39) Tryz.underlying39 rfl) ?_
     refine wl_p (fun _ => o_eq rfl rfl) ?_
     refine wl_p (fun _ => o_pick_t rfl rfl) ?_
     refine wl_p (fun _ => o_move rfl) ?_
     refine wl_know 35 true rfl (decide_eq_true (by omega)) ?_
     refine wl_p (fun _ => o_move rfl) ?_
     refine wl_p (fun _ => o_pick_t rfl rfl) ?_
     refine wl_p (fun _ => o_assign rfl) ?_
     refine wl_nil ?_
     refine rk_blk ?_
     refine rk_seq ?_
     refine rk_seq ?_
     refine rk_region ?_
     refine wl_p (fun _ => o_move rfl) ?_
     refine wl_p (fun _ => o_not rfl) ?_
     refine wl_nil ?_
     rw [decide_eq_true hu]
     refine rk_false rfl ?_
     refine rk_skip ?_
     refine rk_seq ?_
     refine rk_region ?_
     refine wl_p (fun _ => o_assign rfl) ?_
     refine wl_nil ?_
     refine ret1 rfl rfl ?_
     exact ⟨by simp [okOp, goodS, h1, h2, hu], hw⟩
    ·refine rk_seq ?_
     refine rk_region ?_
     refine wl_boxg _ rfl (by rfl) ?_
     rintro g1 w1 f1 b1 i1 i1_1
     have s1 := b1.size
     replace hw := hw.trans (b1.mono hw.size)
     refine wl_p (fun _ => o_assign rfl) ?_
     refine wl_nil ?_
     refine rk_seq ?_
     refine rk_region ?_
     refine wl_p (fun _ => o_faddr (s := 54) (i := 3) (off := 3) Tryz.underlying54 rfl Tryz.sizeOf42 rfl rfl rfl) ?_
     refine wl_r (o_ldWho rfl f1) ?_
     refine wl_p (fun _ => (o_zKey)) ?_
     refine wl_p (fun _ => (o_eqKy rfl rfl)) ?_
     refine wl_p (fun _ => o_assign rfl) ?_
     refine wl_nil ?_
     refine rk_seq ?_
     refine rk_region ?_
     refine wl_p (fun _ => o_assign rfl) ?_
     refine wl_nil ?_
     refine rk_seq ?_
     refine rk_seq ?_
     refine rk_region ?_
     refine wl_p (fun _ => o_faddr (s := 54) (i := 0) (off := 0) Tryz.underlying54 rfl Tryz.sizeOf3 rfl rfl rfl) ?_
     refine wl_r (o_loadbg Tryz.isAgg3 rfl f1 (by rfl)) ?_
     refine wl_nil ?_
     refine rk_block ?_
     refine rk_seq ?_
     refine rk_region ?_
     refine wl_p (fun _ => o_eq rfl rfl) ?_
     refine wl_p (fun _ => o_assign rfl) ?_
     refine wl_nil ?_
     refine rk_false rfl ?_
     refine rk_seq ?_
     refine rk_region ?_
     refine wl_p (fun _ => o_eq rfl rfl) ?_
     refine wl_p (fun _ => o_assign rfl) ?_
     refine wl_nil ?_
     refine rk_true rfl ?_
     refine rk_region ?_
     refine wl_p (fun _ => o_faddr (s := 54) (i := 1) (off := 1) Tryz.underlying54 rfl Tryz.sizeOf39 rfl rfl rfl) ?_
     refine wl_r (o_loadbg Tryz.isAgg39 rfl f1 (by rfl)) ?_
     refine wl_call rfl (C_r11KeyY _ (by omega)) ?_
     rintro v28 w28 ⟨rfl, b28⟩
     have s28 := b28.size
     replace hw := hw.trans (b28.mono hw.size)
     replace f1 := f1.u b28
     refine wl_p (fun _ => o_move rfl) ?_
     refine wl_p (fun _ => o_faddr (s := 54) (i := 2) (off := 2) Tryz.underlying54 rfl Tryz.sizeOf39 rfl rfl rfl) ?_
     refine wl_r (o_loadbg Tryz.isAgg39 rfl f1 (by rfl)) ?_
     refine wl_p (fun _ => o_len (t := 39) Tryz.underlying39 rfl) ?_
     refine wl_p (fun _ => o_eq rfl rfl) ?_
     refine wl_p (fun _ => o_pick_t rfl rfl) ?_
     refine wl_p (fun _ => o_move rfl) ?_
     refine wl_know 35 true rfl (decide_eq_true (by omega)) ?_
     refine wl_p (fun _ => o_move rfl) ?_
     refine wl_p (fun _ => o_pick_t rfl rfl) ?_
     refine wl_p (fun _ => o_assign rfl) ?_
     refine wl_nil ?_
     refine rk_blk ?_
     refine rk_seq ?_
     refine rk_seq ?_
     refine rk_region ?_
     refine wl_p (fun _ => o_move rfl) ?_
     refine wl_p (fun _ => o_not rfl) ?_
     refine wl_nil ?_
     rw [decide_eq_false hu]
     refine rk_true rfl ?_
     refine rk_seq ?_
     refine rk_region ?_
     refine wl_p (fun _ => o_assign rfl) ?_
     refine wl_nil ?_
     refine ret1 rfl rfl ?_
     exact ⟨by simp [okOp, goodS, hu], hw⟩
   ·refine rk_seq ?_
    refine rk_region ?_
    refine wl_boxg _ rfl (by rfl) ?_
    rintro g1 w1 f1 b1 i1 i1_1
    have s1 := b1.size
    replace hw := hw.trans (b1.mono hw.size)
    refine wl_p (fun _ => o_assign rfl) ?_
    refine wl_nil ?_
    refine rk_seq ?_
    refine rk_region ?_
    refine wl_p (fun _ => o_faddr (s := 54) (i := 3) (off := 3) Tryz.underlying54 rfl Tryz.sizeOf42 rfl rfl rfl) ?_
    refine wl_r (o_ldWho rfl f1) ?_
    refine wl_p (fun _ => (o_zKey)) ?_
    refine wl_p (fun _ => (o_eqKy rfl rfl)) ?_
    refine wl_p (fun _ => o_assign rfl) ?_
    refine wl_nil ?_
    refine rk_seq ?_
    refine rk_region ?_
    refine wl_p (fun _ => o_assign rfl) ?_
    refine wl_nil ?_
    refine rk_seq ?_
    refine rk_seq ?_
    refine rk_region ?_
    refine wl_p (fun _ => o_faddr (s := 54) (i := 0) (off := 0) Tryz.underlying54 rfl Tryz.sizeOf3 rfl rfl rfl) ?_
    refine wl_r (o_loadbg Tryz.isAgg3 rfl f1 (by rfl)) ?_
    refine wl_nil ?_
    refine rk_block ?_
    refine rk_seq ?_
    refine rk_region ?_
    refine wl_p (fun _ => o_eq rfl rfl) ?_
    refine wl_p (fun _ => o_assign rfl) ?_
    refine wl_nil ?_
    refine rk_false rfl ?_
    refine rk_seq ?_
    refine rk_region ?_
    refine wl_p (fun _ => o_eq rfl rfl) ?_
    refine wl_p (fun _ => o_assign rfl) ?_
    refine wl_nil ?_
    refine rk_true rfl ?_
    refine rk_region ?_
    refine wl_p (fun _ => o_faddr (s := 54) (i := 1) (off := 1) Tryz.underlying54 rfl Tryz.sizeOf39 rfl rfl rfl) ?_
    refine wl_r (o_loadbg Tryz.isAgg39 rfl f1 (by rfl)) ?_
    refine wl_call rfl (C_r11KeyY _ (by omega)) ?_
    rintro v28 w28 ⟨rfl, b28⟩
    have s28 := b28.size
    replace hw := hw.trans (b28.mono hw.size)
    replace f1 := f1.u b28
    refine wl_p (fun _ => o_move rfl) ?_
    refine wl_p (fun _ => o_faddr (s := 54) (i := 2) (off := 2) Tryz.underlying54 rfl Tryz.sizeOf39 rfl rfl rfl) ?_
    refine wl_r (o_loadbg Tryz.isAgg39 rfl f1 (by rfl)) ?_
    refine wl_p (fun _ => o_len (t := 39) Tryz.underlying39 rfl) ?_
    refine wl_p (fun _ => o_eq rfl rfl) ?_
    refine wl_p (fun _ => o_pick_t rfl rfl) ?_
    refine wl_p (fun _ => o_move rfl) ?_
    refine wl_know 35 false rfl (decide_eq_false (by omega)) ?_
    refine wl_off ?_
    refine wl_p (fun _ => o_pick_f rfl rfl) ?_
    refine wl_p (fun _ => o_assign rfl) ?_
    refine wl_nil ?_
    refine rk_blk ?_
    refine rk_seq ?_
    refine rk_seq ?_
    refine rk_region ?_
    refine wl_p (fun _ => o_move rfl) ?_
    refine wl_p (fun _ => o_not rfl) ?_
    refine wl_nil ?_
    refine rk_true rfl ?_
    refine rk_seq ?_
    refine rk_region ?_
    refine wl_p (fun _ => o_assign rfl) ?_
    refine wl_nil ?_
    refine ret1 rfl rfl ?_
    exact ⟨by simp [okOp, goodS, h2], hw⟩
  ·refine rk_seq ?_
   refine rk_region ?_
   refine wl_boxg _ rfl (by rfl) ?_
   rintro g1 w1 f1 b1 i1 i1_1
   have s1 := b1.size
   replace hw := hw.trans (b1.mono hw.size)
   refine wl_p (fun _ => o_assign rfl) ?_
   refine wl_nil ?_
   refine rk_seq ?_
   refine rk_region ?_
   refine wl_p (fun _ => o_faddr (s := 54) (i := 3) (off := 3) Tryz.underlying54 rfl Tryz.sizeOf42 rfl rfl rfl) ?_
   refine wl_r (o_ldWho rfl f1) ?_
   refine wl_p (fun _ => (o_zKey)) ?_
   refine wl_p (fun _ => (o_eqKy rfl rfl)) ?_
   refine wl_p (fun _ => o_assign rfl) ?_
   refine wl_nil ?_
   refine rk_seq ?_
   refine rk_region ?_
   refine wl_p (fun _ => o_assign rfl) ?_
   refine wl_nil ?_
   refine rk_seq ?_
   refine rk_seq ?_
   refine rk_region ?_
   refine wl_p (fun _ => o_faddr (s := 54) (i := 0) (off := 0) Tryz.underlying54 rfl Tryz.sizeOf3 rfl rfl rfl) ?_
   refine wl_r (o_loadbg Tryz.isAgg3 rfl f1 (by rfl)) ?_
   refine wl_nil ?_
   refine rk_block ?_
   refine rk_seq ?_
   refine rk_region ?_
   refine wl_p (fun _ => o_eq rfl rfl) ?_
   refine wl_p (fun _ => o_assign rfl) ?_
   refine wl_nil ?_
   refine rk_false rfl ?_
   refine rk_seq ?_
   refine rk_region ?_
   refine wl_p (fun _ => o_eq rfl rfl) ?_
   refine wl_p (fun _ => o_assign rfl) ?_
   refine wl_nil ?_
   refine rk_true rfl ?_
   refine rk_region ?_
   refine wl_p (fun _ => o_faddr (s := 54) (i := 1) (off := 1) Tryz.underlying54 rfl Tryz.sizeOf39 rfl rfl rfl) ?_
   refine wl_r (o_loadbg Tryz.isAgg39 rfl f1 (by rfl)) ?_
   refine wl_call rfl (C_r11KeyN _ (by omega) (by omega)) ?_
   rintro v28 w28 ⟨rfl, b28⟩
   have s28 := b28.size
   replace hw := hw.trans (b28.mono hw.size)
   replace f1 := f1.u b28
   refine wl_p (fun _ => o_move rfl) ?_
   refine wl_off ?_
   refine wl_off ?_
   refine wl_off ?_
   refine wl_off ?_
   refine wl_p (fun _ => o_pick_f rfl rfl) ?_
   refine wl_p (fun _ => o_move rfl) ?_
   refine wl_off ?_
   refine wl_p (fun _ => o_pick_f rfl rfl) ?_
   refine wl_p (fun _ => o_assign rfl) ?_
   refine wl_nil ?_
   refine rk_blk ?_
   refine rk_seq ?_
   refine rk_seq ?_
   refine rk_region ?_
   refine wl_p (fun _ => o_move rfl) ?_
   refine wl_p (fun _ => o_not rfl) ?_
   refine wl_nil ?_
   refine rk_true rfl ?_
   refine rk_seq ?_
   refine rk_region ?_
   refine wl_p (fun _ => o_assign rfl) ?_
   refine wl_nil ?_
   refine ret1 rfl rfl ?_
   exact ⟨by simp [okOp, goodS, h1], hw⟩
 ·by_cases h1 : n = 0
  ·by_cases h2 : m = 0
   ·refine rk_seq ?_
    refine rk_region ?_
    refine wl_boxg _ rfl (by rfl) ?_
    rintro g1 w1 f1 b1 i1 i1_1
    have s1 := b1.size
    replace hw := hw.trans (b1.mono hw.size)
    refine wl_p (fun _ => o_assign rfl) ?_
    refine wl_nil ?_
    refine rk_seq ?_
    refine rk_region ?_
    refine wl_p (fun _ => o_faddr (s := 54) (i := 3) (off := 3) Tryz.underlying54 rfl Tryz.sizeOf42 rfl rfl rfl) ?_
    refine wl_r (o_ldWho rfl f1) ?_
    refine wl_p (fun _ => (o_zKey)) ?_
    refine wl_p (fun _ => (o_eqKy rfl rfl)) ?_
    refine wl_p (fun _ => o_assign rfl) ?_
    refine wl_nil ?_
    refine rk_seq ?_
    refine rk_region ?_
    refine wl_p (fun _ => o_assign rfl) ?_
    refine wl_nil ?_
    refine rk_seq ?_
    refine rk_seq ?_
    refine rk_region ?_
    refine wl_p (fun _ => o_faddr (s := 54) (i := 0) (off := 0) Tryz.underlying54 rfl Tryz.sizeOf3 rfl rfl rfl) ?_
    refine wl_r (o_loadbg Tryz.isAgg3 rfl f1 (by rfl)) ?_
    refine wl_nil ?_
    refine rk_block ?_
    refine rk_seq ?_
    refine rk_region ?_
    refine wl_p (fun _ => o_eq rfl rfl) ?_
    refine wl_p (fun _ => o_assign rfl) ?_
    refine wl_nil ?_
    refine rk_false rfl ?_
    refine rk_seq ?_
    refine rk_region ?_
    refine wl_p (fun _ => o_eq rfl rfl) ?_
    refine wl_p (fun _ => o_assign rfl) ?_
    refine wl_nil ?_
    refine rk_false rfl ?_
    refine rk_seq ?_
    refine rk_seq ?_
    refine rk_region ?_
    refine wl_p (fun _ => o_eq rfl rfl) ?_
    refine wl_p (fun _ => o_assign rfl) ?_
    refine wl_nil ?_
    refine rk_true rfl ?_
    refine rk_skip ?_
    refine rk_true rfl ?_
    refine rk_region ?_
    refine wl_p (fun _ => o_faddr (s := 54) (i := 1) (off := 1) Tryz.underlying54 rfl Tryz.sizeOf39 rfl rfl rfl) ?_
    refine wl_r (o_loadbg Tryz.isAgg39 rfl f1 (by rfl)) ?_
    refine wl_p (fun _ => o_len (t := 39) Tryz.underlying39 rfl) ?_
    refine wl_p (fun _ => o_eq rfl rfl) ?_
    refine wl_p (fun _ => o_move rfl) ?_
    refine wl_know 47 true rfl (decide_eq_true (by omega)) ?_
    refine wl_p (fun _ => o_faddr (s := 54) (i := 2) (off := 2) Tryz.underlying54 rfl Tryz.sizeOf39 rfl rfl rfl) ?_
    refine wl_r (o_loadbg Tryz.isAgg39 rfl f1 (by rfl)) ?_
    refine wl_p (fun _ => o_len (t := 39) Tryz.underlying39 rfl) ?_
    refine wl_p (fun _ => o_eq rfl rfl) ?_
    refine wl_p (fun _ => o_pick_t rfl rfl) ?_
    refine wl_p (fun _ => o_assign rfl) ?_
    refine wl_nil ?_
    refine rk_blk ?_
    refine rk_seq ?_
    refine rk_seq ?_
    refine rk_region ?_
    refine wl_p (fun _ => o_move rfl) ?_
    refine wl_p (fun _ => o_not rfl) ?_
    refine wl_nil ?_
    rw [show decide ((m : Int) = 0) = true from decide_eq_true (by omega)]
    refine rk_false rfl ?_
    refine rk_skip ?_
    refine rk_seq ?_
    refine rk_region ?_
    refine wl_p (fun _ => o_assign rfl) ?_
    refine wl_nil ?_
    refine ret1 rfl rfl ?_
    exact ⟨by simp [okOp, goodS, h1, h2], hw⟩
   ·refine rk_seq ?_
    refine rk_region ?_
    refine wl_boxg _ rfl (by rfl) ?_
    rintro g1 w1 f1 b1 i1 i1_1
    have s1 := b1.size
    replace hw := hw.trans (b1.mono hw.size)
    refine wl_p (fun _ => o_assign rfl) ?_
    refine wl_nil ?_
    refine rk_seq ?_
    refine rk_region ?_
    refine wl_p (fun _ => o_faddr (s := 54) (i := 3) (off := 3) Tryz.underlying54 rfl Tryz.sizeOf42 rfl rfl rfl) ?_
    refine wl_r (o_ldWho rfl f1) ?_
    refine wl_p (fun _ => (o_zKey)) ?_
    refine wl_p (fun _ => (o_eqKy rfl rfl)) ?_
    refine wl_p (fun _ => o_assign rfl) ?_
    refine wl_nil ?_
    refine rk_seq ?_
    refine rk_region ?_
    refine wl_p (fun _ => o_assign rfl) ?_
    refine wl_nil ?_
    refine rk_seq ?_
    refine rk_seq ?_
    refine rk_region ?_
    refine wl_p (fun _ => o_faddr (s := 54) (i := 0) (off := 0) Tryz.underlying54 rfl Tryz.sizeOf3 rfl rfl rfl) ?_
    refine wl_r (o_loadbg Tryz.isAgg3 rfl f1 (by rfl)) ?_
    refine wl_nil ?_
    refine rk_block ?_
    refine rk_seq ?_
    refine rk_region ?_
    refine wl_p (fun _ => o_eq rfl rfl) ?_
    refine wl_p (fun _ => o_assign rfl) ?_
    refine wl_nil ?_
    refine rk_false rfl ?_
    refine rk_seq ?_
    refine rk_region ?_
    refine wl_p (fun _ => o_eq rfl rfl) ?_
    refine wl_p (fun _ => o_assign rfl) ?_
    refine wl_nil ?_
    refine rk_false rfl ?_
    refine rk_seq ?_
    refine rk_seq ?_
    refine rk_region ?_
    refine wl_p (fun _ => o_eq rfl rfl) ?_
    refine wl_p (fun _ => o_assign rfl) ?_
    refine wl_nil ?_
    refine rk_true rfl ?_
    refine rk_skip ?_
    refine rk_true rfl ?_
    refine rk_region ?_
    refine wl_p (fun _ => o_faddr (s := 54) (i := 1) (off := 1) Tryz.underlying54 rfl Tryz.sizeOf39 rfl rfl rfl) ?_
    refine wl_r (o_loadbg Tryz.isAgg39 rfl f1 (by rfl)) ?_
    refine wl_p (fun _ => o_len (t := 39) Tryz.underlying39 rfl) ?_
    refine wl_p (fun _ => o_eq rfl rfl) ?_
    refine wl_p (fun _ => o_move rfl) ?_
    refine wl_know 47 true rfl (decide_eq_true (by omega)) ?_
    refine wl_p (fun _ => o_faddr (s := 54) (i := 2) (off := 2) Tryz.underlying54 rfl Tryz.sizeOf39 rfl rfl rfl) ?_
    refine wl_r (o_loadbg Tryz.isAgg39 rfl f1 (by rfl)) ?_
    refine wl_p (fun _ => o_len (t := 39) Tryz.underlying39 rfl) ?_
    refine wl_p (fun _ => o_eq rfl rfl) ?_
    refine wl_p (fun _ => o_pick_t rfl rfl) ?_
    refine wl_p (fun _ => o_assign rfl) ?_
    refine wl_nil ?_
    refine rk_blk ?_
    refine rk_seq ?_
    refine rk_seq ?_
    refine rk_region ?_
    refine wl_p (fun _ => o_move rfl) ?_
    refine wl_p (fun _ => o_not rfl) ?_
    refine wl_nil ?_
    rw [show decide ((m : Int) = 0) = false from decide_eq_false (by omega)]
    refine rk_true rfl ?_
    refine rk_seq ?_
    refine rk_region ?_
    refine wl_p (fun _ => o_assign rfl) ?_
    refine wl_nil ?_
    refine ret1 rfl rfl ?_
    exact ⟨by simp [okOp, goodS, h2], hw⟩
  ·refine rk_seq ?_
   refine rk_region ?_
   refine wl_boxg _ rfl (by rfl) ?_
   rintro g1 w1 f1 b1 i1 i1_1
   have s1 := b1.size
   replace hw := hw.trans (b1.mono hw.size)
   refine wl_p (fun _ => o_assign rfl) ?_
   refine wl_nil ?_
   refine rk_seq ?_
   refine rk_region ?_
   refine wl_p (fun _ => o_faddr (s := 54) (i := 3) (off := 3) Tryz.underlying54 rfl Tryz.sizeOf42 rfl rfl rfl) ?_
   refine wl_r (o_ldWho rfl f1) ?_
   refine wl_p (fun _ => (o_zKey)) ?_
   refine wl_p (fun _ => (o_eqKy rfl rfl)) ?_
   refine wl_p (fun _ => o_assign rfl) ?_
   refine wl_nil ?_
   refine rk_seq ?_
   refine rk_region ?_
   refine wl_p (fun _ => o_assign rfl) ?_
   refine wl_nil ?_
   refine rk_seq ?_
   refine rk_seq ?_
   refine rk_region ?_
   refine wl_p (fun _ => o_faddr (s := 54) (i := 0) (off := 0) Tryz.underlying54 rfl Tryz.sizeOf3 rfl rfl rfl) ?_
   refine wl_r (o_loadbg Tryz.isAgg3 rfl f1 (by rfl)) ?_
   refine wl_nil ?_
   refine rk_block ?_
   refine rk_seq ?_
   refine rk_region ?_
   refine wl_p (fun _ => o_eq rfl rfl) ?_
   refine wl_p (fun _ => o_assign rfl) ?_
   refine wl_nil ?_
   refine rk_false rfl ?_
   refine rk_seq ?_
   refine rk_region ?_
   refine wl_p (fun _ => o_eq rfl rfl) ?_
   refine wl_p (fun _ => o_assign rfl) ?_
   refine wl_nil ?_
   refine rk_false rfl ?_
   refine rk_seq ?_
   refine rk_seq ?_
   refine rk_region ?_
   refine wl_p (fun _ => o_eq rfl rfl) ?_
   refine wl_p (fun _ => o_assign rfl) ?_
   refine wl_nil ?_
   refine rk_true rfl ?_
   refine rk_skip ?_
   refine rk_true rfl ?_
   refine rk_region ?_
   refine wl_p (fun _ => o_faddr (s := 54) (i := 1) (off := 1) Tryz.underlying54 rfl Tryz.sizeOf39 rfl rfl rfl) ?_
   refine wl_r (o_loadbg Tryz.isAgg39 rfl f1 (by rfl)) ?_
   refine wl_p (fun _ => o_len (t := 39) Tryz.underlying39 rfl) ?_
   refine wl_p (fun _ => o_eq rfl rfl) ?_
   refine wl_p (fun _ => o_move rfl) ?_
   refine wl_know 47 false rfl (decide_eq_false (by omega)) ?_
   refine wl_off ?_
   refine wl_off ?_
   refine wl_off ?_
   refine wl_off ?_
   refine wl_p (fun _ => o_pick_f rfl rfl) ?_
   refine wl_p (fun _ => o_assign rfl) ?_
   refine wl_nil ?_
   refine rk_blk ?_
   refine rk_seq ?_
   refine rk_seq ?_
   refine rk_region ?_
   refine wl_p (fun _ => o_move rfl) ?_
   refine wl_p (fun _ => o_not rfl) ?_
   refine wl_nil ?_
   refine rk_true rfl ?_
   refine rk_seq ?_
   refine rk_region ?_
   refine wl_p (fun _ => o_assign rfl) ?_
   refine wl_nil ?_
   refine ret1 rfl rfl ?_
   exact ⟨by simp [okOp, goodS, h1], hw⟩
 ·by_cases h1 : n = 0
  ·by_cases h2 : m = 0
   ·refine rk_seq ?_
    refine rk_region ?_
    refine wl_boxg _ rfl (by rfl) ?_
    rintro g1 w1 f1 b1 i1 i1_1
    have s1 := b1.size
    replace hw := hw.trans (b1.mono hw.size)
    refine wl_p (fun _ => o_assign rfl) ?_
    refine wl_nil ?_
    refine rk_seq ?_
    refine rk_region ?_
    refine wl_p (fun _ => o_faddr (s := 54) (i := 3) (off := 3) Tryz.underlying54 rfl Tryz.sizeOf42 rfl rfl rfl) ?_
    refine wl_r (o_ldWho rfl f1) ?_
    refine wl_p (fun _ => (o_zKey)) ?_
    refine wl_p (fun _ => (o_eqKy rfl rfl)) ?_
    refine wl_p (fun _ => o_assign rfl) ?_
    refine wl_nil ?_
    refine rk_seq ?_
    refine rk_region ?_
    refine wl_p (fun _ => o_assign rfl) ?_
    refine wl_nil ?_
    refine rk_seq ?_
    refine rk_seq ?_
    refine rk_region ?_
    refine wl_p (fun _ => o_faddr (s := 54) (i := 0) (off := 0) Tryz.underlying54 rfl Tryz.sizeOf3 rfl rfl rfl) ?_
    refine wl_r (o_loadbg Tryz.isAgg3 rfl f1 (by rfl)) ?_
    refine wl_nil ?_
    refine rk_block ?_
    refine rk_seq ?_
    refine rk_region ?_
    refine wl_p (fun _ => o_eq rfl rfl) ?_
    refine wl_p (fun _ => o_assign rfl) ?_
    refine wl_nil ?_
    refine rk_false rfl ?_
    refine rk_seq ?_
    refine rk_region ?_
    refine wl_p (fun _ => o_eq rfl rfl) ?_
    refine wl_p (fun _ => o_assign rfl) ?_
    refine wl_nil ?_
    refine rk_false rfl ?_
    refine rk_seq ?_
    refine rk_seq ?_
    refine rk_region ?_
    refine wl_p (fun _ => o_eq rfl rfl) ?_
    refine wl_p (fun _ => o_assign rfl) ?_
    refine wl_nil ?_
    refine rk_false rfl ?_
    refine rk_seq ?_
    refine rk_region ?_
    refine wl_p (fun _ => o_eq rfl rfl) ?_
    refine wl_p (fun _ => o_assign rfl) ?_
    refine wl_nil ?_
    refine rk_true rfl ?_
    refine rk_skip ?_
    refine rk_true rfl ?_
    refine rk_region ?_
    refine wl_p (fun _ => o_faddr (s := 54) (i := 1) (off := 1) Tryz.underlying54 rfl Tryz.sizeOf39 rfl rfl rfl) ?_
    refine wl_r (o_loadbg Tryz.isAgg39 rfl f1 (by rfl)) ?_
    refine wl_p (fun _ => o_len (t := 39) Tryz.underlying39 rfl) ?_
    refine wl_p (fun _ => o_eq rfl rfl) ?_
    refine wl_p (fun _ => o_move rfl) ?_
    refine wl_know 47 true rfl (decide_eq_true (by omega)) ?_
    refine wl_p (fun _ => o_faddr (s := 54) (i := 2) (off := 2) Tryz.underlying54 rfl Tryz.sizeOf39 rfl rfl rfl) ?_
    refine wl_r (o_loadbg Tryz.isAgg39 rfl f1 (by rfl)) ?_
    refine wl_p (fun _ => o_len (t := 39) Tryz.underlying39 rfl) ?_
    refine wl_p (fun _ => o_eq rfl rfl) ?_
    refine wl_p (fun _ => o_pick_t rfl rfl) ?_
    refine wl_p (fun _ => o_assign rfl) ?_
    refine wl_nil ?_
    refine rk_blk ?_
    refine rk_seq ?_
    refine rk_seq ?_
    refine rk_region ?_
    refine wl_p (fun _ => o_move rfl) ?_
    refine wl_p (fun _ => o_not rfl) ?_
    refine wl_nil ?_
    rw [show decide ((m : Int) = 0) = true from decide_eq_true (by omega)]
    refine rk_false rfl ?_
    refine rk_skip ?_
    refine rk_seq ?_
    refine rk_region ?_
    refine wl_p (fun _ => o_assign rfl) ?_
    refine wl_nil ?_
    refine ret1 rfl rfl ?_
    exact ⟨by simp [okOp, goodS, h1, h2], hw⟩
   ·refine rk_seq ?_
    refine rk_region ?_
    refine wl_boxg _ rfl (by rfl) ?_
    rintro g1 w1 f1 b1 i1 i1_1
    have s1 := b1.size
    replace hw := hw.trans (b1.mono hw.size)
    refine wl_p (fun _ => o_assign rfl) ?_
    refine wl_nil ?_
    refine rk_seq ?_
    refine rk_region ?_
    refine wl_p (fun _ => o_faddr (s := 54) (i := 3) (off := 3) Tryz.underlying54 rfl Tryz.sizeOf42 rfl rfl rfl) ?_
    refine wl_r (o_ldWho rfl f1) ?_
    refine wl_p (fun _ => (o_zKey)) ?_
    refine wl_p (fun _ => (o_eqKy rfl rfl)) ?_
    refine wl_p (fun _ => o_assign rfl) ?_
    refine wl_nil ?_
    refine rk_seq ?_
    refine rk_region ?_
    refine wl_p (fun _ => o_assign rfl) ?_
    refine wl_nil ?_
    refine rk_seq ?_
    refine rk_seq ?_
    refine rk_region ?_
    refine wl_p (fun _ => o_faddr (s := 54) (i := 0) (off := 0) Tryz.underlying54 rfl Tryz.sizeOf3 rfl rfl rfl) ?_
    refine wl_r (o_loadbg Tryz.isAgg3 rfl f1 (by rfl)) ?_
    refine wl_nil ?_
    refine rk_block ?_
    refine rk_seq ?_
    refine rk_region ?_
    refine wl_p (fun _ => o_eq rfl rfl) ?_
    refine wl_p (fun _ => o_assign rfl) ?_
    refine wl_nil ?_
    refine rk_false rfl ?_
    refine rk_seq ?_
    refine rk_region ?_
    refine wl_p (fun _ => o_eq rfl rfl) ?_
    refine wl_p (fun _ => o_assign rfl) ?_
    refine wl_nil ?_
    refine rk_false rfl ?_
    refine rk_seq ?_
    refine rk_seq ?_
    refine rk_region ?_
    refine wl_p (fun _ => o_eq rfl rfl) ?_
    refine wl_p (fun _ => o_assign rfl) ?_
    refine wl_nil ?_
    refine rk_false rfl ?_
    refine rk_seq ?_
    refine rk_region ?_
    refine wl_p (fun _ => o_eq rfl rfl) ?_
    refine wl_p (fun _ => o_assign rfl) ?_
    refine wl_nil ?_
    refine rk_true rfl ?_
    refine rk_skip ?_
    refine rk_true rfl ?_
    refine rk_region ?_
    refine wl_p (fun _ => o_faddr (s := 54) (i := 1) (off := 1) Tryz.underlying54 rfl Tryz.sizeOf39 rfl rfl rfl) ?_
    refine wl_r (o_loadbg Tryz.isAgg39 rfl f1 (by rfl)) ?_
    refine wl_p (fun _ => o_len (t := 39) Tryz.underlying39 rfl) ?_
    refine wl_p (fun _ => o_eq rfl rfl) ?_
    refine wl_p (fun _ => o_move rfl) ?_
    refine wl_know 47 true rfl (decide_eq_true (by omega)) ?_
    refine wl_p (fun _ => o_faddr (s := 54) (i := 2) (off := 2) Tryz.underlying54 rfl Tryz.sizeOf39 rfl rfl rfl) ?_
    refine wl_r (o_loadbg Tryz.isAgg39 rfl f1 (by rfl)) ?_
    refine wl_p (fun _ => o_len (t := 39) Tryz.underlying39 rfl) ?_
    refine wl_p (fun _ => o_eq rfl rfl) ?_
    refine wl_p (fun _ => o_pick_t rfl rfl) ?_
    refine wl_p (fun _ => o_assign rfl) ?_
    refine wl_nil ?_
    refine rk_blk ?_
    refine rk_seq ?_
    refine rk_seq ?_
    refine rk_region ?_
    refine wl_p (fun _ => o_move rfl) ?_
    refine wl_p (fun _ => o_not rfl) ?_
    refine wl_nil ?_
    rw [show decide ((m : Int) = 0) = false from decide_eq_false (by omega)]
    refine rk_true rfl ?_
    refine rk_seq ?_
    refine rk_region ?_
    refine wl_p (fun _ => o_assign rfl) ?_
    refine wl_nil ?_
    refine ret1 rfl rfl ?_
    exact ⟨by simp [okOp, goodS, h2], hw⟩
  ·refine rk_seq ?_
   refine rk_region ?_
   refine wl_boxg _ rfl (by rfl) ?_
   rintro g1 w1 f1 b1 i1 i1_1
   have s1 := b1.size
   replace hw := hw.trans (b1.mono hw.size)
   refine wl_p (fun _ => o_assign rfl) ?_
   refine wl_nil ?_
   refine rk_seq ?_
   refine rk_region ?_
   refine wl_p (fun _ => o_faddr (s := 54) (i := 3) (off := 3) Tryz.underlying54 rfl Tryz.sizeOf42 rfl rfl rfl) ?_
   refine wl_r (o_ldWho rfl f1) ?_
   refine wl_p (fun _ => (o_zKey)) ?_
   refine wl_p (fun _ => (o_eqKy rfl rfl)) ?_
   refine wl_p (fun _ => o_assign rfl) ?_
   refine wl_nil ?_
   refine rk_seq ?_
   refine rk_region ?_
   refine wl_p (fun _ => o_assign rfl) ?_
   refine wl_nil ?_
   refine rk_seq ?_
   refine rk_seq ?_
   refine rk_region ?_
   refine wl_p (fun _ => o_faddr (s := 54) (i := 0) (off := 0) Tryz.underlying54 rfl Tryz.sizeOf3 rfl rfl rfl) ?_
   refine wl_r (o_loadbg Tryz.isAgg3 rfl f1 (by rfl)) ?_
   refine wl_nil ?_
   refine rk_block ?_
   refine rk_seq ?_
   refine rk_region ?_
   refine wl_p (fun _ => o_eq rfl rfl) ?_
   refine wl_p (fun _ => o_assign rfl) ?_
   refine wl_nil ?_
   refine rk_false rfl ?_
   refine rk_seq ?_
   refine rk_region ?_
   refine wl_p (fun _ => o_eq rfl rfl) ?_
   refine wl_p (fun _ => o_assign rfl) ?_
   refine wl_nil ?_
   refine rk_false rfl ?_
   refine rk_seq ?_
   refine rk_seq ?_
   refine rk_region ?_
   refine wl_p (fun _ => o_eq rfl rfl) ?_
   refine wl_p (fun _ => o_assign rfl) ?_
   refine wl_nil ?_
   refine rk_false rfl ?_
   refine rk_seq ?_
   refine rk_region ?_
   refine wl_p (fun _ => o_eq rfl rfl) ?_
   refine wl_p (fun _ => o_assign rfl) ?_
   refine wl_nil ?_
   refine rk_true rfl ?_
   refine rk_skip ?_
   refine rk_true rfl ?_
   refine rk_region ?_
   refine wl_p (fun _ => o_faddr (s := 54) (i := 1) (off := 1) Tryz.underlying54 rfl Tryz.sizeOf39 rfl rfl rfl) ?_
   refine wl_r (o_loadbg Tryz.isAgg39 rfl f1 (by rfl)) ?_
   refine wl_p (fun _ => o_len (t := 39) Tryz.underlying39 rfl) ?_
   refine wl_p (fun _ => o_eq rfl rfl) ?_
   refine wl_p (fun _ => o_move rfl) ?_
   refine wl_know 47 false rfl (decide_eq_false (by omega)) ?_
   refine wl_off ?_
   refine wl_off ?_
   refine wl_off ?_
   refine wl_off ?_
   refine wl_p (fun _ => o_pick_f rfl rfl) ?_
   refine wl_p (fun _ => o_assign rfl) ?_
   refine wl_nil ?_
   refine rk_blk ?_
   refine rk_seq ?_
   refine rk_seq ?_
   refine rk_region ?_
   refine wl_p (fun _ => o_move rfl) ?_
   refine wl_p (fun _ => o_not rfl) ?_
   refine wl_nil ?_
   refine rk_true rfl ?_
   refine rk_seq ?_
   refine rk_region ?_
   refine wl_p (fun _ => o_assign rfl) ?_
   refine wl_nil ?_
   refine ret1 rfl rfl ?_
   exact ⟨by simp [okOp, goodS, h1], hw⟩
 ·by_cases h1 : n = 0
  ·by_cases h2 : m = 0
   ·refine rk_seq ?_
    refine rk_region ?_
    refine wl_boxg _ rfl (by rfl) ?_
    rintro g1 w1 f1 b1 i1 i1_1
    have s1 := b1.size
    replace hw := hw.trans (b1.mono hw.size)
    refine wl_p (fun _ => o_assign rfl) ?_
    refine wl_nil ?_
    refine rk_seq ?_
    refine rk_region ?_
    refine wl_p (fun _ => o_faddr (s := 54) (i := 3) (off := 3) Tryz.underlying54 rfl Tryz.sizeOf42 rfl rfl rfl) ?_
    refine wl_r (o_ldWho rfl f1) ?_
    refine wl_p (fun _ => (o_zKey)) ?_
    refine wl_p (fun _ => (o_eqKy rfl rfl)) ?_
    refine wl_p (fun _ => o_assign rfl) ?_
    refine wl_nil ?_
    refine rk_seq ?_
    refine rk_region ?_
    refine wl_p (fun _ => o_assign rfl) ?_
    refine wl_nil ?_
    refine rk_seq ?_
    refine rk_seq ?_
    refine rk_region ?_
    refine wl_p (fun _ => o_faddr (s := 54) (i := 0) (off := 0) Tryz.underlying54 rfl Tryz.sizeOf3 rfl rfl rfl) ?_
    refine wl_r (o_loadbg Tryz.isAgg3 rfl f1 (by rfl)) ?_
    refine wl_nil ?_
    refine rk_block ?_
    refine rk_seq ?_
    refine rk_region ?_
    refine wl_p (fun _ => o_eq rfl rfl) ?_
    refine wl_p (fun _ => o_assign rfl) ?_
    refine wl_nil ?_
    refine rk_false rfl ?_
    refine rk_seq ?_
    refine rk_region ?_
    refine wl_p (fun _ => o_eq rfl rfl) ?_
    refine wl_p (fun _ => o_assign rfl) ?_
    refine wl_nil ?_
    refine rk_false rfl ?_
    refine rk_seq ?_
    refine rk_seq ?_
    refine rk_region ?_
    refine wl_p (fun _ => o_eq rfl rfl) ?_
    refine wl_p (fun _ => o_assign rfl) ?_
    refine wl_nil ?_
    refine rk_false rfl ?_
    refine rk_seq ?_
    refine rk_region ?_
    refine wl_p (fun _ => o_eq rfl rfl) ?_
    refine wl_p (fun _ => o_assign rfl) ?_
    refine wl_nil ?_
    refine rk_false rfl ?_
    refine rk_seq ?_
    refine rk_region ?_
    refine wl_p (fun _ => o_eq rfl rfl) ?_
    refine wl_p (fun _ => o_assign rfl) ?_
    refine wl_nil ?_
    refine rk_true rfl ?_
    refine rk_skip ?_
    refine rk_true rfl ?_
    refine rk_region ?_
    refine wl_p (fun _ => o_faddr (s := 54) (i := 1) (off := 1) Tryz.underlying54 rfl Tryz.sizeOf39 rfl rfl rfl) ?_
    refine wl_r (o_loadbg Tryz.isAgg39 rfl f1 (by rfl)) ?_
    refine wl_p (fun _ => o_len (t := 39) Tryz.underlying39 rfl) ?_
    refine wl_p (fun _ => o_eq rfl rfl) ?_
    refine wl_p (fun _ => o_move rfl) ?_
    refine wl_know 47 true rfl (decide_eq_true (by omega)) ?_
    refine wl_p (fun _ => o_faddr (s := 54) (i := 2) (off := 2) Tryz.underlying54 rfl Tryz.sizeOf39 rfl rfl rfl) ?_
    refine wl_r (o_loadbg Tryz.isAgg39 rfl f1 (by rfl)) ?_
    refine wl_p (fun _ => o_len (t := 39) Tryz.underlying39 rfl) ?_
    refine wl_p (fun _ => o_eq rfl rfl) ?_
    refine wl_p (fun _ => o_pick_t rfl rfl) ?_
    refine wl_p (fun _ => o_assign rfl) ?_
    refine wl_nil ?_
    refine rk_blk ?_
    refine rk_seq ?_
    refine rk_seq ?_
    refine rk_region ?_
    refine wl_p (fun _ => o_move rfl) ?_
    refine wl_p (fun _ => o_not rfl) ?_
    refine wl_nil ?_
    rw [show decide ((m : Int) = 0) = true from decide_eq_true (by omega)]
    refine rk_false rfl ?_
    refine rk_skip ?_
    refine rk_seq ?_
    refine rk_region ?_
    refine wl_p (fun _ => o_assign rfl) ?_
    refine wl_nil ?_
    refine ret1 rfl rfl ?_
    exact ⟨by simp [okOp, goodS, h1, h2], hw⟩
   ·refine rk_seq ?_
    refine rk_region ?_
    refine wl_boxg _ rfl (by rfl) ?_
    rintro g1 w1 f1 b1 i1 i1_1
    have s1 := b1.size
    replace hw := hw.trans (b1.mono hw.size)
    refine wl_p (fun _ => o_assign rfl) ?_
    refine wl_nil ?_
    refine rk_seq ?_
    refine rk_region ?_
    refine wl_p (fun _ => o_faddr (s := 54) (i := 3) (off := 3) Tryz.underlying54 rfl Tryz.sizeOf42 rfl rfl rfl) ?_
    refine wl_r (o_ldWho rfl f1) ?_
    refine wl_p (fun _ => (o_zKey)) ?_
    refine wl_p (fun _ => (o_eqKy rfl rfl)) ?_
    refine wl_p (fun _ => o_assign rfl) ?_
    refine wl_nil ?_
    refine rk_seq ?_
    refine rk_region ?_
    refine wl_p (fun _ => o_assign rfl) ?_
    refine wl_nil ?_
    refine rk_seq ?_
    refine rk_seq ?_
    refine rk_region ?_
    refine wl_p (fun _ => o_faddr (s := 54) (i := 0) (off := 0) Tryz.underlying54 rfl Tryz.sizeOf3 rfl rfl rfl) ?_
    refine wl_r (o_loadbg Tryz.isAgg3 rfl f1 (by rfl)) ?_
    refine wl_nil ?_
    refine rk_block ?_
    refine rk_seq ?_
    refine rk_region ?_
    refine wl_p (fun _ => o_eq rfl rfl) ?_
    refine wl_p (fun _ => o_assign rfl) ?_
    refine wl_nil ?_
    refine rk_false rfl ?_
    refine rk_seq ?_
    refine rk_region ?_
    refine wl_p (fun _ => o_eq rfl rfl) ?_
    refine wl_p (fun _ => o_assign rfl) ?_
    refine wl_nil ?_
    refine rk_false rfl ?_
    refine rk_seq ?_
    refine rk_seq ?_
    refine rk_region ?_
    refine wl_p (fun _ => o_eq rfl rfl) ?_
    refine wl_p (fun _ => o_assign rfl) ?_
    refine wl_nil ?_
    refine rk_false rfl ?_
    refine rk_seq ?_
    refine rk_region ?_
    refine wl_p (fun _ => o_eq rfl rfl) ?_
    refine wl_p (fun _ => o_assign rfl) ?_
    refine wl_nil ?_
    refine rk_false rfl ?_
    refine rk_seq ?_
    refine rk_region ?_
    refine wl_p (fun _ => o_eq rfl rfl) ?_
    refine wl_p (fun _ => o_assign rfl) ?_
    refine wl_nil ?_
    refine rk_true rfl ?_
    refine rk_skip ?_
    refine rk_true rfl ?_
    refine rk_region ?_
    refine wl_p (fun _ => o_faddr (s := 54) (i := 1) (off := 1) Tryz.underlying54 rfl Tryz.sizeOf39 rfl rfl rfl) ?_
    refine wl_r (o_loadbg Tryz.isAgg39 rfl f1 (by rfl)) ?_
    refine wl_p (fun _ => o_len (t := 39) Tryz.underlying39 rfl) ?_
    refine wl_p (fun _ => o_eq rfl rfl) ?_
    refine wl_p (fun _ => o_move rfl) ?_
    refine wl_know 47 true rfl (decide_eq_true (by omega)) ?_
    refine wl_p (fun _ => o_faddr (s := 54) (i := 2) (off := 2) Tryz.underlying54 rfl Tryz.sizeOf39 rfl rfl rfl) ?_
    refine wl_r (o_loadbg Tryz.isAgg39 rfl f1 (by rfl)) ?_
    refine wl_p (fun _ => o_len (t := 39) Tryz.underlying39 rfl) ?_
    refine wl_p (fun _ => o_eq rfl rfl) ?_
    refine wl_p (fun _ => o_pick_t rfl rfl) ?_
    refine wl_p (fun _ => o_assign rfl) ?_
    refine wl_nil ?_
    refine rk_blk ?_
    refine rk_seq ?_
    refine rk_seq ?_
    refine rk_region ?_
    refine wl_p (fun _ => o_move rfl) ?_
    refine wl_p (fun _ => o_not rfl) ?_
    refine wl_nil ?_
    rw [show decide ((m : Int) = 0) = false from decide_eq_false (by omega)]
    refine rk_true rfl ?_
    refine rk_seq ?_
    refine rk_region ?_
    refine wl_p (fun _ => o_assign rfl) ?_
    refine wl_nil ?_
    refine ret1 rfl rfl ?_
    exact ⟨by simp [okOp, goodS, h2], hw⟩
  ·refine rk_seq ?_
   refine rk_region ?_
   refine wl_boxg _ rfl (by rfl) ?_
   rintro g1 w1 f1 b1 i1 i1_1
   have s1 := b1.size
   replace hw := hw.trans (b1.mono hw.size)
   refine wl_p (fun _ => o_assign rfl) ?_
   refine wl_nil ?_
   refine rk_seq ?_
   refine rk_region ?_
   refine wl_p (fun _ => o_faddr (s := 54) (i := 3) (off := 3) Tryz.underlying54 rfl Tryz.sizeOf42 rfl rfl rfl) ?_
   refine wl_r (o_ldWho rfl f1) ?_
   refine wl_p (fun _ => (o_zKey)) ?_
   refine wl_p (fun _ => (o_eqKy rfl rfl)) ?_
   refine wl_p (fun _ => o_assign rfl) ?_
   refine wl_nil ?_
   refine rk_seq ?_
   refine rk_region ?_
   refine wl_p (fun _ => o_assign rfl) ?_
   refine wl_nil ?_
   refine rk_seq ?_
   refine rk_seq ?_
   refine rk_region ?_
   refine wl_p (fun _ => o_faddr (s := 54) (i := 0) (off := 0) Tryz.underlying54 rfl Tryz.sizeOf3 rfl rfl rfl) ?_
   refine wl_r (o_loadbg Tryz.isAgg3 rfl f1 (by rfl)) ?_
   refine wl_nil ?_
   refine rk_block ?_
   refine rk_seq ?_
   refine rk_region ?_
   refine wl_p (fun _ => o_eq rfl rfl) ?_
   refine wl_p (fun _ => o_assign rfl) ?_
   refine wl_nil ?_
   refine rk_false rfl ?_
   refine rk_seq ?_
   refine rk_region ?_
   refine wl_p (fun _ => o_eq rfl rfl) ?_
   refine wl_p (fun _ => o_assign rfl) ?_
   refine wl_nil ?_
   refine rk_false rfl ?_
   refine rk_seq ?_
   refine rk_seq ?_
   refine rk_region ?_
   refine wl_p (fun _ => o_eq rfl rfl) ?_
   refine wl_p (fun _ => o_assign rfl) ?_
   refine wl_nil ?_
   refine rk_false rfl ?_
   refine rk_seq ?_
   refine rk_region ?_
   refine wl_p (fun _ => o_eq rfl rfl) ?_
   refine wl_p (fun _ => o_assign rfl) ?_
   refine wl_nil ?_
   refine rk_false rfl ?_
   refine rk_seq ?_
   refine rk_region ?_
   refine wl_p (fun _ => o_eq rfl rfl) ?_
   refine wl_p (fun _ => o_assign rfl) ?_
   refine wl_nil ?_
   refine rk_true rfl ?_
   refine rk_skip ?_
   refine rk_true rfl ?_
   refine rk_region ?_
   refine wl_p (fun _ => o_faddr (s := 54) (i := 1) (off := 1) Tryz.underlying54 rfl Tryz.sizeOf39 rfl rfl rfl) ?_
   refine wl_r (o_loadbg Tryz.isAgg39 rfl f1 (by rfl)) ?_
   refine wl_p (fun _ => o_len (t := 39) Tryz.underlying39 rfl) ?_
   refine wl_p (fun _ => o_eq rfl rfl) ?_
   refine wl_p (fun _ => o_move rfl) ?_
   refine wl_know 47 false rfl (decide_eq_false (by omega)) ?_
   refine wl_off ?_
   refine wl_off ?_
   refine wl_off ?_
   refine wl_off ?_
   refine wl_p (fun _ => o_pick_f rfl rfl) ?_
   refine wl_p (fun _ => o_assign rfl) ?_
   refine wl_nil ?_
   refine rk_blk ?_
   refine rk_seq ?_
   refine rk_seq ?_
   refine rk_region ?_
   refine wl_p (fun _ => o_move rfl) ?_
   refine wl_p (fun _ => o_not rfl) ?_
   refine wl_nil ?_
   refine rk_true rfl ?_
   refine rk_seq ?_
   refine rk_region ?_
   refine wl_p (fun _ => o_assign rfl) ?_
   refine wl_nil ?_
   refine ret1 rfl rfl ?_
   exact ⟨by simp [okOp, goodS, h1], hw⟩
 ·by_cases h1 : n = 0
  ·by_cases h2 : m = 0
   ·refine rk_seq ?_
    refine rk_region ?_
    refine wl_boxg _ rfl (by rfl) ?_
    rintro g1 w1 f1 b1 i1 i1_1
    have s1 := b1.size
    replace hw := hw.trans (b1.mono hw.size)
    refine wl_p (fun _ => o_assign rfl) ?_
    refine wl_nil ?_
    refine rk_seq ?_
    refine rk_region ?_
    refine wl_p (fun _ => o_faddr (s := 54) (i := 3) (off := 3) Tryz.underlying54 rfl Tryz.sizeOf42 rfl rfl rfl) ?_
    refine wl_r (o_ldWho rfl f1) ?_
    refine wl_p (fun _ => (o_zKey)) ?_
    refine wl_p (fun _ => (o_eqKy rfl rfl)) ?_
    refine wl_p (fun _ => o_assign rfl) ?_
    refine wl_nil ?_
    refine rk_seq ?_
    refine rk_region ?_
    refine wl_p (fun _ => o_assign rfl) ?_
    refine wl_nil ?_
    refine rk_seq ?_
    refine rk_seq ?_
    refine rk_region ?_
    refine wl_p (fun _ => o_faddr (s := 54) (i := 0) (off := 0) Tryz.underlying54 rfl Tryz.sizeOf3 rfl rfl rfl) ?_
    refine wl_r (o_loadbg Tryz.isAgg3 rfl f1 (by rfl)) ?_
    refine wl_nil ?_
    refine rk_block ?_
    refine rk_seq ?_
    refine rk_region ?_
    refine wl_p (fun _ => o_eq rfl rfl) ?_
    refine wl_p (fun _ => o_assign rfl) ?_
    refine wl_nil ?_
    refine rk_false rfl ?_
    refine rk_seq ?_
    refine rk_region ?_
    refine wl_p (fun _ => o_eq rfl rfl) ?_
    refine wl_p (fun _ => o_assign rfl) ?_
    refine wl_nil ?_
    refine rk_false rfl ?_
    refine rk_seq ?_
    refine rk_seq ?_
    refine rk_region ?_
    refine wl_p (fun _ => o_eq rfl rfl) ?_
    refine wl_p (fun _ => o_assign rfl) ?_
    refine wl_nil ?_
    refine rk_false rfl ?_
    refine rk_seq ?_
    refine rk_region ?_
    refine wl_p (fun _ => o_eq rfl rfl) ?_
    refine wl_p (fun _ => o_assign rfl) ?_
    refine wl_nil ?_
    refine rk_false rfl ?_
    refine rk_seq ?_
    refine rk_region ?_
    refine wl_p (fun _ => o_eq rfl rfl) ?_
    refine wl_p (fun _ => o_assign rfl) ?_
    refine wl_nil ?_
    refine rk_false rfl ?_
    refine rk_region ?_
    refine wl_p (fun _ => o_eq rfl rfl) ?_
    refine wl_p (fun _ => o_assign rfl) ?_
    refine wl_nil ?_
    refine rk_true rfl ?_
    refine rk_region ?_
    refine wl_p (fun _ => o_faddr (s := 54) (i := 1) (off := 1) Tryz.underlying54 rfl Tryz.sizeOf39 rfl rfl rfl) ?_
    refine wl_r (o_loadbg Tryz.isAgg39 rfl f1 (by rfl)) ?_
    refine wl_p (fun _ => o_len (t := 39) Tryz.underlying39 rfl) ?_
    refine wl_p (fun _ => o_eq rfl rfl) ?_
    refine wl_p (fun _ => o_move rfl) ?_
    refine wl_know 47 true rfl (decide_eq_true (by omega)) ?_
    refine wl_p (fun _ => o_faddr (s := 54) (i := 2) (off := 2) Tryz.underlying54 rfl Tryz.sizeOf39 rfl rfl rfl) ?_
    refine wl_r (o_loadbg Tryz.isAgg39 rfl f1 (by rfl)) ?_
    refine wl_p (fun _ => o_len (t := 39) Tryz.underlying39 rfl) ?_
    refine wl_p (fun _ => o_eq rfl rfl) ?_
    refine wl_p (fun _ => o_pick_t rfl rfl) ?_
    refine wl_p (fun _ => o_assign rfl) ?_
    refine wl_nil ?_
    refine rk_blk ?_
    refine rk_seq ?_
    refine rk_seq ?_
    refine rk_region ?_
    refine wl_p (fun _ => o_move rfl) ?_
    refine wl_p (fun _ => o_not rfl) ?_
    refine wl_nil ?_
    rw [show decide ((m : Int) = 0) = true from decide_eq_true (by omega)]
    refine rk_false rfl ?_
    refine rk_skip ?_
    refine rk_seq ?_
    refine rk_region ?_
    refine wl_p (fun _ => o_assign rfl) ?_
    refine wl_nil ?_
    refine ret1 rfl rfl ?_
    exact ⟨by simp [okOp, goodS, h1, h2], hw⟩
   ·refine rk_seq ?_
    refine rk_region ?_
    refine wl_boxg _ rfl (by rfl) ?_
    rintro g1 w1 f1 b1 i1 i1_1
    have s1 := b1.size
    replace hw := hw.trans (b1.mono hw.size)
    refine wl_p (fun _ => o_assign rfl) ?_
    refine wl_nil ?_
    refine rk_seq ?_
    refine rk_region ?_
    refine wl_p (fun _ => o_faddr (s := 54) (i := 3) (off := 3) Tryz.underlying54 rfl Tryz.sizeOf42 rfl rfl rfl) ?_
    refine wl_r (o_ldWho rfl f1) ?_
    refine wl_p (fun _ => (o_zKey)) ?_
    refine wl_p (fun _ => (o_eqKy rfl rfl)) ?_
    refine wl_p (fun _ => o_assign rfl) ?_
    refine wl_nil ?_
    refine rk_seq ?_
    refine rk_region ?_
    refine wl_p (fun _ => o_assign rfl) ?_
    refine wl_nil ?_
    refine rk_seq ?_
    refine rk_seq ?_
    refine rk_region ?_
    refine wl_p (fun _ => o_faddr (s := 54) (i := 0) (off := 0) Tryz.underlying54 rfl Tryz.sizeOf3 rfl rfl rfl) ?_
    refine wl_r (o_loadbg Tryz.isAgg3 rfl f1 (by rfl)) ?_
    refine wl_nil ?_
    refine rk_block ?_
    refine rk_seq ?_
    refine rk_region ?_
    refine wl_p (fun _ => o_eq rfl rfl) ?_
    refine wl_p (fun _ => o_assign rfl) ?_
    refine wl_nil ?_
    refine rk_false rfl ?_
    refine rk_seq ?_
    refine rk_region ?_
    refine wl_p (fun _ => o_eq rfl rfl) ?_
    refine wl_p (fun _ => o_assign rfl) ?_
    refine wl_nil ?_
    refine rk_false rfl ?_
    refine rk_seq ?_
    refine rk_seq ?_
    refine rk_region ?_
    refine wl_p (fun _ => o_eq rfl rfl) ?_
    refine wl_p (fun _ => o_assign rfl) ?_
    refine wl_nil ?_
    refine rk_false rfl ?_
    refine rk_seq ?_
    refine rk_region ?_
    refine wl_p (fun _ => o_eq rfl rfl) ?_
    refine wl_p (fun _ => o_assign rfl) ?_
    refine wl_nil ?_
    refine rk_false rfl ?_
    refine rk_seq ?_
    refine rk_region ?_
    refine wl_p (fun _ => o_eq rfl rfl) ?_
    refine wl_p (fun _ => o_assign rfl) ?_
    refine wl_nil ?_
    refine rk_false rfl ?_
    refine rk_region ?_
    refine wl_p (fun _ => o_eq rfl rfl) ?_
    refine wl_p (fun _ => o_assign rfl) ?_
    refine wl_nil ?_
    refine rk_true rfl ?_
    refine rk_region ?_
    refine wl_p (fun _ => o_faddr (s := 54) (i := 1) (off := 1) Tryz.underlying54 rfl Tryz.sizeOf39 rfl rfl rfl) ?_
    refine wl_r (o_loadbg Tryz.isAgg39 rfl f1 (by rfl)) ?_
    refine wl_p (fun _ => o_len (t := 39) Tryz.underlying39 rfl) ?_
    refine wl_p (fun _ => o_eq rfl rfl) ?_
    refine wl_p (fun _ => o_move rfl) ?_
    refine wl_know 47 true rfl (decide_eq_true (by omega)) ?_
    refine wl_p (fun _ => o_faddr (s := 54) (i := 2) (off := 2) Tryz.underlying54 rfl Tryz.sizeOf39 rfl rfl rfl) ?_
    refine wl_r (o_loadbg Tryz.isAgg39 rfl f1 (by rfl)) ?_
    refine wl_p (fun _ => o_len (t := 39) Tryz.underlying39 rfl) ?_
    refine wl_p (fun _ => o_eq rfl rfl) ?_
    refine wl_p (fun _ => o_pick_t rfl rfl) ?_
    refine wl_p (fun _ => o_assign rfl) ?_
    refine wl_nil ?_
    refine rk_blk ?_
    refine rk_seq ?_
    refine rk_seq ?_
    refine rk_region ?_
    refine wl_p (fun _ => o_move rfl) ?_
    refine wl_p (fun _ => o_not rfl) ?_
    refine wl_nil ?_
    rw [show decide ((m : Int) = 0) = false from decide_eq_false (by omega)]
    refine rk_true rfl ?_
    refine rk_seq ?_
    refine rk_region ?_
    refine wl_p (fun _ => o_assign rfl) ?_
    refine wl_nil ?_
    refine ret1 rfl rfl ?_
    exact ⟨by simp [okOp, goodS, h2], hw⟩
  ·refine rk_seq ?_
   refine rk_region ?_
   refine wl_boxg _ rfl (by rfl) ?_
   rintro g1 w1 f1 b1 i1 i1_1
   have s1 := b1.size
   replace hw := hw.trans (b1.mono hw.size)
   refine wl_p (fun _ => o_assign rfl) ?_
   refine wl_nil ?_
   refine rk_seq ?_
   refine rk_region ?_
   refine wl_p (fun _ => o_faddr (s := 54) (i := 3) (off := 3) Tryz.underlying54 rfl Tryz.sizeOf42 rfl rfl rfl) ?_
   refine wl_r (o_ldWho rfl f1) ?_
   refine wl_p (fun _ => (o_zKey)) ?_
   refine wl_p (fun _ => (o_eqKy rfl rfl)) ?_
   refine wl_p (fun _ => o_assign rfl) ?_
   refine wl_nil ?_
   refine rk_seq ?_
   refine rk_region ?_
   refine wl_p (fun _ => o_assign rfl) ?_
   refine wl_nil ?_
   refine rk_seq ?_
   refine rk_seq ?_
   refine rk_region ?_
   refine wl_p (fun _ => o_faddr (s := 54) (i := 0) (off := 0) Tryz.underlying54 rfl Tryz.sizeOf3 rfl rfl rfl) ?_
   refine wl_r (o_loadbg Tryz.isAgg3 rfl f1 (by rfl)) ?_
   refine wl_nil ?_
   refine rk_block ?_
   refine rk_seq ?_
   refine rk_region ?_
   refine wl_p (fun _ => o_eq rfl rfl) ?_
   refine wl_p (fun _ => o_assign rfl) ?_
   refine wl_nil ?_
   refine rk_false rfl ?_
   refine rk_seq ?_
   refine rk_region ?_
   refine wl_p (fun _ => o_eq rfl rfl) ?_
   refine wl_p (fun _ => o_assign rfl) ?_
   refine wl_nil ?_
   refine rk_false rfl ?_
   refine rk_seq ?_
   refine rk_seq ?_
   refine rk_region ?_
   refine wl_p (fun _ => o_eq rfl rfl) ?_
   refine wl_p (fun _ => o_assign rfl) ?_
   refine wl_nil ?_
   refine rk_false rfl ?_
   refine rk_seq ?_
   refine rk_region ?_
   refine wl_p (fun _ => o_eq rfl rfl) ?_
   refine wl_p (fun _ => o_assign rfl) ?_
   refine wl_nil ?_
   refine rk_false rfl ?_
   refine rk_seq ?_
   refine rk_region ?_
   refine wl_p (fun _ => o_eq rfl rfl) ?_
   refine wl_p (fun _ => o_assign rfl) ?_
   refine wl_nil ?_
   refine rk_false rfl ?_
   refine rk_region ?_
   refine wl_p (fun _ => o_eq rfl rfl) ?_
   refine wl_p (fun _ => o_assign rfl) ?_
   refine wl_nil ?_
   refine rk_true rfl ?_
   refine rk_region ?_
   refine wl_p (fun _ => o_faddr (s := 54) (i := 1) (off := 1) Tryz.underlying54 rfl Tryz.sizeOf39 rfl rfl rfl) ?_
   refine wl_r (o_loadbg Tryz.isAgg39 rfl f1 (by rfl)) ?_
   refine wl_p (fun _ => o_len (t := 39) Tryz.underlying39 rfl) ?_
   refine wl_p (fun _ => o_eq rfl rfl) ?_
   refine wl_p (fun _ => o_move rfl) ?_
   refine wl_know 47 false rfl (decide_eq_false (by omega)) ?_
   refine wl_off ?_
   refine wl_off ?_
   refine wl_off ?_
   refine wl_off ?_
   refine wl_p (fun _ => o_pick_f rfl rfl) ?_
   refine wl_p (fun _ => o_assign rfl) ?_
   refine wl_nil ?_
   refine rk_blk ?_
   refine rk_seq ?_
   refine rk_seq ?_
   refine rk_region ?_
   refine wl_p (fun _ => o_move rfl) ?_
   refine wl_p (fun _ => o_not rfl) ?_
   refine wl_nil ?_
   refine rk_true rfl ?_
   refine rk_seq ?_
   refine rk_region ?_
   refine wl_p (fun _ => o_assign rfl) ?_
   refine wl_nil ?_
   refine ret1 rfl rfl ?_
   exact ⟨by simp [okOp, goodS, h1], hw⟩
theorem C_r22CheckY {K V : Option Addr} {n c m d : Nat} {k : Int} {u : Ky} (w : World) (hn : n ≤ 4000000000) (hm : m ≤ 4000000000) (h : okOp k n m u = true) :
  CallsR Tryz.prog 62 [.agg (opC k K n c V m d u).toArray] w fun v w' => v = .int .i64 0 ∧ Below w.heap.size w w' := by
 have := C_r22Check (K := K) (V := V) (c := c) (d := d) (k := k) (u := u) w hn hm
 rwa [if_pos h] at this
theorem C_r22CheckN {K V : Option Addr} {n c m d : Nat} {k : Int} {u : Ky} (w : World) (hn : n ≤ 4000000000) (hm : m ≤ 4000000000) (h : okOp k n m u = false) :
  CallsR Tryz.prog 62 [.agg (opC k K n c V m d u).toArray] w fun v w' => v = .int .i64 2 ∧ Below w.heap.size w w' := by
 have := C_r22Check (K := K) (V := V) (c := c) (d := d) (k := k) (u := u) w hn hm
 rwa [if_neg (by rw [h]; decide)] at this
end Go.Proofs.YtahkeoegbjopfaaGreat
/-
  Walks of the document's answer for chapter 22: the bytes of ops.
-/
namespace Go.Proofs.YtahkeoegbjopfaaGreat
set_option maxRecDepth 100000
open Go.RowKit
set_option maxHeartbeats 4000000 in
set_option maxRecDepth 100000 in
theorem K_r22Bytes {A : Option Addr} {L : List Opn} {b : By} {e n c : Nat} (w : World) (hr : bytesO L = (b, e)) (hL : RO w A L) (hn : n = L.length) (hln : L.length ≤ 4000000) (hl : ∀ o ∈ L, o.2.1.length ≤ 4000000 ∧ o.2.2.1.length ≤ 4000000) :
  CallsR Tryz.prog 34 [.slice A n c] w fun v w' => ∃ A' c', v = .tuple #[.slice A' b.length c', .int .i64 (e : Int)] ∧ OwnH w' w.heap.size w'.heap.size A' c' b ∧ Below w.heap.size w w' := by
 subst hn
 unfold bytesO at hr
 refine callsR Tryz.func34 rfl rfl (by kernel_rfl) rfl ?_
 have hw := Below.refl w.heap.size w
 refine rk_seq ?_
 refine rk_region ?_
 refine wl_p (fun _ => o_assign rfl) ?_
 refine wl_p (fun _ => o_assign rfl) ?_
 refine wl_nil ?_
 refine rk_seq ?_
 refine rk_seq ?_
 refine rk_region ?_
 refine wl_p (fun _ => o_move rfl) ?_
 refine wl_p (fun _ => o_len (t := 35) Tryz.underlying35 rfl) ?_
 refine wl_p (fun _ => o_gt rfl rfl) ?_
 refine wl_nil ?_
 refine rk_if rfl (fun h9 => ?_) (fun h9 => ?_)
 ·rw [if_pos (by omega)] at hr
  injection hr with h1 h2
  subst h1; subst h2
  refine rk_seq ?_
  refine rk_region ?_
  refine wl_p (fun _ => o_assign rfl) ?_
  refine wl_p (fun _ => o_assign rfl) ?_
  refine wl_nil ?_
  refine ret2 rfl rfl rfl ?_
  exact ⟨_, _, rfl, OwnH.nil_, hw⟩
 rw [if_neg (by omega)] at hr
 refine rk_skip ?_
 refine rk_seq ?_
 refine rk_region ?_
 refine wl_p (fun _ => o_move rfl) ?_
 refine wl_p (fun _ => o_len (t := 35) Tryz.underlying35 rfl) ?_
 refine wl_p (fun _ => o_convi (src := 3) (dst := 5) Tryz.underlying3 Tryz.underlying5 rfl) ?_
 rw [u8w (n := L.length) (by omega)]
 refine wl_litB [UInt8.ofNat L.length] Tryz.u8 Tryz.sizeOf5 Tryz.zeroValue5 (by rfl) rfl rfl (by rfl) (by rfl) (by rfl) ?_
 rintro A13 w13 f13 b13
 have qf13 := f13.cap
 have s13 := b13.size
 replace hw := hw.trans (b13.mono hw.size)
 refine wl_p (fun _ => o_assign rfl) ?_
 refine wl_nil ?_
 refine rk_seq ?_
 refine rk_seq ?_
 refine rk_region ?_
 refine wl_p (fun _ => o_assign rfl) ?_
 refine wl_nil ?_
 refine rk_block ?_
 refine rk_joinf (fun fb fr w3 => ∃ A' c', fr = [(4, .slice A' (UInt8.ofNat L.length :: L.flatMap opB).length c')] ++ fb.drop 2 ∧ L.all okO = true ∧ OwnH w3 w.heap.size w3.heap.size A' c' (UInt8.ofNat L.length :: L.flatMap opB) ∧ Below w.heap.size w w3) ?_ (fun ks hj => ?_)
 rotate_left
 ·refine rk_loopf (fun fb m fr w3 => ∃ (i : Nat) (v : Int) (A' : Option Addr) (bs : By) (c' : Nat), fr = [(5, .int .i64 v), (4, .slice A' bs.length c')] ++ fb.drop 2 ∧ v = i ∧ i ≤ L.length ∧ m = L.length - i ∧ bs = UInt8.ofNat L.length :: (L.take i).flatMap opB ∧ (L.take i).all okO = true ∧ bs.length ≤ 1 + 71 * i ∧ OwnH w3 w.heap.size w3.heap.size A' c' bs ∧ Below w.heap.size w w3) (n := L.length) (Fr.le_of (by kernel_rfl) (by kernel_rfl) (by repeat' constructor)) ⟨0, _, A13, _, _, rfl, rfl, by omega, rfl, by simp, by simp, by simp, f13, hw⟩ ?_
  clear hw f13
  rintro m fr w3 ⟨i, v, A', bs, c', rfl, rfl, hi, rfl, hbs, hok, hbl, fo, hw⟩
  have shw := hw.size
  first | refine rk_frame (by simp only [List.cons_append, List.nil_append, List.drop_succ_cons, List.drop_zero]; rfl) ?_ | refine wl_frame (by simp only [List.cons_append, List.nil_append, List.drop_succ_cons, List.drop_zero]; rfl) ?_
  refine rk_seq ?_
  refine rk_seq ?_
  refine rk_region ?_
  refine wl_p (fun _ => o_move rfl) ?_
  refine wl_p (fun _ => o_move rfl) ?_
  refine wl_p (fun _ => o_len (t := 35) Tryz.underlying35 rfl) ?_
  refine wl_p (fun _ => o_lt rfl rfl) ?_
  refine wl_nil ?_
  refine rk_if rfl (fun h17 => ?_) (fun h17 => ?_)
  ·have hil : i < L.length := by omega
   obtain ⟨n1, n2⟩ := hl _ (List.getElem_mem hil)
   cases hgk : okOp L[i].1 L[i].2.1.length L[i].2.2.1.length L[i].2.2.2
   ·rw [if_neg (fun h => by have := List.all_eq_true.1 h _ (List.getElem_mem hil); unfold okO at this; rw [hgk] at this; cases this)] at hr
    injection hr with h1 h2
    subst h1; subst h2
    refine rk_skip ?_
    refine rk_seq ?_
    refine rk_block ?_
    refine rk_seq ?_
    refine rk_region ?_
    refine wl_p (fun _ => o_move rfl) ?_
    refine wl_p (fun _ => o_move rfl) ?_
    refine wl_p (fun _ => (o_iaddrA (i) Tryz.underlying35 Tryz.sizeOf54 rfl rfl rfl (hL.some_ (by omega)) (by omega))) ?_
    refine wl_ldOp rfl hL hw (by omega) ?_
    rintro K23 c23 V23 d23 f23 f23_1 i23 i23_1 i23_2 i23_3 e23
    refine wl_allocOp ?_
    rintro g6 w6 f6 b6 i6 i6_1
    have s6 := b6.size
    replace hw := hw.trans (b6.mono hw.size)
    replace fo := fo.u b6
    refine wl_stOpB rfl f6 rfl ?_
    rintro w_1 f g e
    have s := g.size
    replace hw := hw.trans (below_of_grownBy g.g hw.size (by omega))
    replace fo := fo.k g.g (ap_some (by omega))
    clear f6
    refine wl_nil ?_
    refine rk_seq ?_
    refine rk_seq ?_
    refine rk_region ?_
    refine wl_r (o_loadag Tryz.isAgg54 Tryz.sizeOf54 rfl f (opC_length ..)) ?_
    refine wl_call rfl (C_r22CheckN _ (by omega) (by omega) hgk) ?_
    rintro v25 w25 ⟨rfl, b25⟩
    have s25 := b25.size
    replace hw := hw.trans (b25.mono hw.size)
    replace fo := fo.u b25
    replace f := f.u b25
    refine wl_p (fun _ => o_ne rfl rfl) ?_
    refine wl_nil ?_
    refine rk_true rfl ?_
    refine rk_seq ?_
    refine rk_region ?_
    refine wl_p (fun _ => o_assign rfl) ?_
    refine wl_p (fun _ => o_assign rfl) ?_
    refine wl_nil ?_
    refine ret2 rfl rfl rfl ?_
    exact ⟨_, _, rfl, OwnH.nil_, hw⟩
   ·obtain ⟨q1, q2, q3⟩ := okOp_of hgk
    refine rk_skip ?_
    refine rk_seq ?_
    refine rk_block ?_
    refine rk_seq ?_
    refine rk_region ?_
    refine wl_p (fun _ => o_move rfl) ?_
    refine wl_p (fun _ => o_move rfl) ?_
    refine wl_p (fun _ => (o_iaddrA (i) Tryz.underlying35 Tryz.sizeOf54 rfl rfl rfl (hL.some_ (by omega)) (by omega))) ?_
    refine wl_ldOp rfl hL hw (by omega) ?_
    rintro K23 c23 V23 d23 f23 f23_1 i23 i23_1 i23_2 i23_3 e23
    refine wl_allocOp ?_
    rintro g6 w6 f6 b6 i6 i6_1
    have s6 := b6.size
    replace hw := hw.trans (b6.mono hw.size)
    replace fo := fo.u b6
    refine wl_stOpB rfl f6 rfl ?_
    rintro w_1 f g e_1
    have s := g.size
    replace hw := hw.trans (below_of_grownBy g.g hw.size (by omega))
    replace fo := fo.k g.g (ap_some (by omega))
    clear f6
    refine wl_nil ?_
    refine rk_seq ?_
    refine rk_seq ?_
    refine rk_region ?_
    refine wl_r (o_loadag Tryz.isAgg54 Tryz.sizeOf54 rfl f (opC_length ..)) ?_
    refine wl_call rfl (C_r22CheckY _ (by omega) (by omega) hgk) ?_
    rintro v25 w25 ⟨rfl, b25⟩
    have s25 := b25.size
    replace hw := hw.trans (b25.mono hw.size)
    replace fo := fo.u b25
    replace f := f.u b25
    refine wl_p (fun _ => o_ne rfl rfl) ?_
    refine wl_nil ?_
    refine rk_false rfl ?_
    refine rk_skip ?_
    refine rk_seq ?_
    refine rk_region ?_
    refine wl_p (fun _ => o_move rfl) ?_
    refine wl_p (fun _ => o_faddr (s := 54) (i := 0) (off := 0) Tryz.underlying54 rfl Tryz.sizeOf3 rfl rfl rfl) ?_
    refine wl_r (o_loadbg Tryz.isAgg3 rfl f (by rfl)) ?_
    refine wl_p (fun _ => o_convi (src := 3) (dst := 5) Tryz.underlying3 Tryz.underlying5 rfl) ?_
    have hkw : IntKind.u8.wrap L[i].1 = ((UInt8.ofNat L[i].1.toNat).toNat : Int) := by
     rw [← u8w (n := L[i].1.toNat) (by omega), Int.toNat_of_nonneg (by omega)]
    rw [hkw]
    obtain ⟨r1, r2⟩ := goodS_le q3
    have x1 := blkB_le (Nat.le_refl L[i].2.1.length) (by omega)
    have x2 := blkB_le (Nat.le_refl L[i].2.2.1.length) (by omega)
    have r3 := tailS_le (k := L[i].1) (u := L[i].2.2.2) r1 r2
    have hnx : ∀ z, z = tailS L[i].1 L[i].2.1 L[i].2.2.1 L[i].2.2.2 → bs ++ [UInt8.ofNat L[i].1.toNat] ++ z = UInt8.ofNat L.length :: (L.take (i + 1)).flatMap opB := fun z hz => by
     rw [List.take_succ_eq_append_getElem hil, List.flatMap_append, List.flatMap_singleton, hbs, opB, hz]
     simp
    have hok2 : (L.take (i + 1)).all okO = true := by
     rw [List.take_succ_eq_append_getElem hil, List.all_append, hok]
     simp [okO, hgk]
    by_cases k1 : L[i].1 = 1
    ·have ht : tailS L[i].1 L[i].2.1 L[i].2.2.1 L[i].2.2.2 = blkB L[i].2.1 ++ blkB L[i].2.2.1 := by unfold tailS; rw [if_pos k1]
     refine wl_litB [UInt8.ofNat L[i].fst.toNat] Tryz.u8 Tryz.sizeOf5 Tryz.zeroValue5 (by rfl) rfl rfl (by rfl) (by rfl) (by rfl) ?_
     rintro A31 w31 f31 b31
     have qf31 := f31.cap
     have s31 := b31.size
     replace hw := hw.trans (b31.mono hw.size)
     replace f := f.u b31
     replace fo := fo.u b31
     refine wl_appB Tryz.u8 rfl fo rfl rfl f31.to_Rd (by rfl) (by omega) hw.size ?_
     rintro A32 c32 w32 f32 g32 b32 i32
     have qf32 := f32.cap
     have s32 := g32.size
     replace hw := hw.trans (b32.mono (by omega))
     replace f := f.y g32 (by decide)
     replace f31 := f31.k g32.g (fo.ap (by omega))
     clear fo
     refine wl_p (fun _ => o_assign rfl) ?_
     refine wl_nil ?_
     refine rk_seq ?_
     refine rk_region ?_
     refine wl_p (fun _ => o_faddr (s := 54) (i := 0) (off := 0) Tryz.underlying54 rfl Tryz.sizeOf3 rfl rfl rfl) ?_
     refine wl_r (o_loadbg Tryz.isAgg3 rfl f (by rfl)) ?_
     refine wl_nil ?_
     refine rk_block ?_
     refine rk_seq ?_
     refine rk_region ?_
     refine wl_p (fun _ => o_eq rfl rfl) ?_
     refine wl_p (fun _ => o_assign rfl) ?_
     refine wl_nil ?_
     refine rk_if rfl (fun h39 => ?_) (fun h39 => h39.elim (by omega))
     refine rk_drawo (id := 14) (none) [0, 0, 2, 5, 0, 16, 40, 127] [0, 0, 2, 7, 0, 16, 63, 127] 72 8 [0, 1, 2, 4, 5, 3, 6, 7] [(.p, 0), (.p, 1), (.r, 2), (.p, 4), (.s, 5), (.c, 3), (.l, 6), (.p, 7)] (by kernel_rfl) (by kernel_rfl) (by kernel_rfl) (by kernel_rfl) (by kernel_rfl) ?_
     dsimp only [inOrder, nthOp]
     replace hw := hw.drew
     replace f31 := f31.d
     replace f := f.d
     replace f32 := f32.d
     refine wl_p (fun _ => o_move rfl) ?_
     refine wl_p (fun _ => o_faddr (s := 54) (i := 1) (off := 1) Tryz.underlying54 rfl Tryz.sizeOf39 rfl rfl rfl) ?_
     refine wl_r (o_loadbg Tryz.isAgg39 rfl f (by rfl)) ?_
     refine wl_p (fun _ => o_faddr (s := 54) (i := 2) (off := 2) Tryz.underlying54 rfl Tryz.sizeOf39 rfl rfl rfl) ?_
     refine wl_s (fun _ hk => (o_loadbg Tryz.isAgg39 rfl (f.u (below_of_grown_none hk)) (by rfl))) ?_
     refine wl_call rfl (C_refBlockH _ f32.to_Rd (f23.u hw) rfl rfl (by simp; omega) (by omega)) ?_ (hq := .inr fun _ _ h => grown_of_below h.choose_spec.choose_spec.2.2 _)
     rintro v44 w44 ⟨A44, ⟨c44, ⟨rfl, ⟨f44, b44⟩⟩⟩⟩
     simp only [drew_size] at f44
     simp only [drew_size] at b44
     have qf44 := f44.cap
     have s44 := b44.size
     simp only [drew_size] at s44
     replace hw := hw.trans (b44.mono hw.size)
     replace f32 := f32.u b44
     replace f := f.u b44
     replace f31 := f31.u b44
     refine wl_call rfl (C_refBlockH _ f44.to_Rd (f23_1.u hw) rfl rfl (by simp; omega) (by omega)) ?_
     rintro v47 w47 ⟨A47, ⟨c47, ⟨rfl, ⟨f47, b47⟩⟩⟩⟩
     have qf47 := f47.cap
     have s47 := b47.size
     replace hw := hw.trans (b47.mono hw.size)
     replace f31 := f31.u b47
     replace f := f.u b47
     replace f32 := f32.u b47
     replace f44 := f44.u b47
     refine wl_p (fun _ => o_assign rfl) ?_
     refine wl_nild ?_
     refine rk_blk ?_
     refine rk_blk ?_
     refine rk_region ?_
     refine wl_p (fun _ => o_move rfl) ?_
     refine wl_p (fun _ => o_add rfl rfl (by omega) (by omega)) ?_
     refine wl_p (fun _ => o_assign rfl) ?_
     refine wl_nil ?_
     exact rk_againf (Fr.le_of (by kernel_rfl) (by kernel_rfl) (by repeat' constructor)) ⟨i + 1, (i : Int) + 1, A47, _, c47, rfl, by omega, by omega, rfl, by rw [List.append_assoc (bs ++ _)]; exact hnx _ ht.symm, hok2, by simp only [List.length_append, List.length_singleton]; omega, f47.base (by omega) (by omega), hw⟩ (by omega)
    ·by_cases k2 : L[i].1 = 2
     ·have ht : tailS L[i].1 L[i].2.1 L[i].2.2.1 L[i].2.2.2 = blkB L[i].2.1 := by unfold tailS; rw [if_neg k1, if_pos k2]
      refine wl_litB [UInt8.ofNat L[i].fst.toNat] Tryz.u8 Tryz.sizeOf5 Tryz.zeroValue5 (by rfl) rfl rfl (by rfl) (by rfl) (by rfl) ?_
      rintro A31 w31 f31 b31
      have qf31 := f31.cap
      have s31 := b31.size
      replace hw := hw.trans (b31.mono hw.size)
      replace f := f.u b31
      replace fo := fo.u b31
      refine wl_appB Tryz.u8 rfl fo rfl rfl f31.to_Rd (by rfl) (by omega) hw.size ?_
      rintro A32 c32 w32 f32 g32 b32 i32
      have qf32 := f32.cap
      have s32 := g32.size
      replace hw := hw.trans (b32.mono (by omega))
      replace f := f.y g32 (by decide)
      replace f31 := f31.k g32.g (fo.ap (by omega))
      clear fo
      refine wl_p (fun _ => o_assign rfl) ?_
      refine wl_nil ?_
      refine rk_seq ?_
      refine rk_region ?_
      refine wl_p (fun _ => o_faddr (s := 54) (i := 0) (off := 0) Tryz.underlying54 rfl Tryz.sizeOf3 rfl rfl rfl) ?_
      refine wl_r (o_loadbg Tryz.isAgg3 rfl f (by rfl)) ?_
      refine wl_nil ?_
      refine rk_block ?_
      refine rk_seq ?_
      refine rk_region ?_
      refine wl_p (fun _ => o_eq rfl rfl) ?_
      refine wl_p (fun _ => o_assign rfl) ?_
      refine wl_nil ?_
      refine rk_if rfl (fun h39 => absurd h39 (by omega)) (fun h39 => ?_)
      refine rk_seq ?_
      refine rk_region ?_
      refine wl_p (fun _ => o_eq rfl rfl) ?_
      refine wl_p (fun _ => o_assign rfl) ?_
      refine wl_nil ?_
      refine rk_if rfl (fun h48 => ?_) (fun h48 => h48.elim (by omega))
      refine rk_region ?_
      refine wl_p (fun _ => o_move rfl) ?_
      refine wl_p (fun _ => o_faddr (s := 54) (i := 1) (off := 1) Tryz.underlying54 rfl Tryz.sizeOf39 rfl rfl rfl) ?_
      refine wl_r (o_loadbg Tryz.isAgg39 rfl f (by rfl)) ?_
      refine wl_call rfl (C_refBlockH _ f32.to_Rd (f23.u hw) rfl rfl (by simp; omega) (by omega)) ?_
      rintro v53 w53 ⟨A53, ⟨c53, ⟨rfl, ⟨f53, b53⟩⟩⟩⟩
      have qf53 := f53.cap
      have s53 := b53.size
      replace hw := hw.trans (b53.mono hw.size)
      replace f31 := f31.u b53
      replace f := f.u b53
      replace f32 := f32.u b53
      refine wl_p (fun _ => o_assign rfl) ?_
      refine wl_nil ?_
      refine rk_blk ?_
      refine rk_blk ?_
      refine rk_region ?_
      refine wl_p (fun _ => o_move rfl) ?_
      refine wl_p (fun _ => o_add rfl rfl (by omega) (by omega)) ?_
      refine wl_p (fun _ => o_assign rfl) ?_
      refine wl_nil ?_
      exact rk_againf (Fr.le_of (by kernel_rfl) (by kernel_rfl) (by repeat' constructor)) ⟨i + 1, (i : Int) + 1, A53, _, c53, rfl, by omega, by omega, rfl, hnx _ ht.symm, hok2, by simp only [List.length_append, List.length_singleton]; omega, f53.base (by omega) (by omega), hw⟩ (by omega)
     ·have ht : tailS L[i].1 L[i].2.1 L[i].2.2.1 L[i].2.2.2 = L[i].2.2.2.1 := by unfold tailS; rw [if_neg k1, if_neg k2]
      refine wl_litB [UInt8.ofNat L[i].fst.toNat] Tryz.u8 Tryz.sizeOf5 Tryz.zeroValue5 (by rfl) rfl rfl (by rfl) (by rfl) (by rfl) ?_
      rintro A31 w31 f31 b31
      have qf31 := f31.cap
      have s31 := b31.size
      replace hw := hw.trans (b31.mono hw.size)
      replace f := f.u b31
      replace fo := fo.u b31
      refine wl_appB Tryz.u8 rfl fo rfl rfl f31.to_Rd (by rfl) (by omega) hw.size ?_
      rintro A32 c32 w32 f32 g32 b32 i32
      have qf32 := f32.cap
      have s32 := g32.size
      replace hw := hw.trans (b32.mono (by omega))
      replace f := f.y g32 (by decide)
      replace f31 := f31.k g32.g (fo.ap (by omega))
      clear fo
      refine wl_p (fun _ => o_assign rfl) ?_
      refine wl_nil ?_
      refine rk_seq ?_
      refine rk_region ?_
      refine wl_p (fun _ => o_faddr (s := 54) (i := 0) (off := 0) Tryz.underlying54 rfl Tryz.sizeOf3 rfl rfl rfl) ?_
      refine wl_r (o_loadbg Tryz.isAgg3 rfl f (by rfl)) ?_
      refine wl_nil ?_
      refine rk_block ?_
      refine rk_seq ?_
      refine rk_region ?_
      refine wl_p (fun _ => o_eq rfl rfl) ?_
      refine wl_p (fun _ => o_assign rfl) ?_
      refine wl_nil ?_
      refine rk_if rfl (fun h39 => absurd h39 (by omega)) (fun h39 => ?_)
      refine rk_seq ?_
      refine rk_region ?_
      refine wl_p (fun _ => o_eq rfl rfl) ?_
      refine wl_p (fun _ => o_assign rfl) ?_
      refine wl_nil ?_
      refine rk_if rfl (fun h48 => absurd h48 (by omega)) (fun h48 => ?_)
      refine rk_region ?_
      refine wl_p (fun _ => o_move rfl) ?_
      refine wl_p (fun _ => o_faddr (s := 54) (i := 3) (off := 3) Tryz.underlying54 rfl Tryz.sizeOf42 rfl rfl rfl) ?_
      refine wl_p (fun _ => o_slice_arr (t := 42) Tryz.underlying42 Tryz.sizeOf5 rfl) ?_
      have hU := who_rd f
      have hul := L[i].2.2.2.2
      refine wl_appBm Tryz.u8 rfl f32 rfl rfl hU hul.symm (by simp; omega) (by omega) ?_
      intro A38 c38 w38 f38 g38 b38
      replace hw := hw.trans b38
      clear f32 f f31
      refine wl_p (fun _ => o_assign rfl) ?_
      refine wl_nil ?_
      refine rk_blk ?_
      refine rk_blk ?_
      refine rk_region ?_
      refine wl_p (fun _ => o_move rfl) ?_
      refine wl_p (fun _ => o_add rfl rfl (by omega) (by omega)) ?_
      refine wl_p (fun _ => o_assign rfl) ?_
      refine wl_nil ?_
      exact rk_againf (Fr.le_of (by kernel_rfl) (by kernel_rfl) (by repeat' constructor)) ⟨i + 1, (i : Int) + 1, A38, _, c38, rfl, by omega, by omega, rfl, hnx _ ht.symm, hok2, by simp only [List.length_append, List.length_singleton]; omega, f38.base (by omega) (by omega), hw⟩ (by omega)
  ·refine rk_exit rfl ?_
   have e : i = L.length := by omega
   subst e
   rw [List.take_length] at hok hbs
   subst hbs
   exact rk_tof hj (Fr.le_of (by kernel_rfl) (by kernel_rfl) (by repeat' constructor)) ⟨A', c', rfl, hok, fo, hw⟩
 clear hw f13
 rintro fr w3 ⟨A', c', rfl, hok, fo, hw⟩
 have shw := hw.size
 rw [if_pos hok] at hr
 injection hr with h1 h2
 subst h1; subst h2
 first | refine rk_frame (by simp only [List.cons_append, List.nil_append, List.drop_succ_cons, List.drop_zero]; rfl) ?_ | refine wl_frame (by simp only [List.cons_append, List.nil_append, List.drop_succ_cons, List.drop_zero]; rfl) ?_
 refine rk_seq ?_
 refine rk_region ?_
 refine wl_p (fun _ => o_move rfl) ?_
 refine wl_p (fun _ => o_assign rfl) ?_
 refine wl_p (fun _ => o_assign rfl) ?_
 refine wl_nil ?_
 refine ret2 rfl rfl rfl ?_
 exact ⟨A', c', rfl, fo, hw⟩
end Go.Proofs.YtahkeoegbjopfaaGreat
/-
  Walks of package ops: ops built.
-/
namespace Go.Proofs.YtahkeoegbjopfaaGreat
set_option maxRecDepth 100000
open Go.RowKit
theorem ky_cases (u : Ky) (p : Ky → Prop) (h : ∀ b0 b1 b2 b3 b4 b5 b6 b7 b8 b9 b10 b11 b12 b13 b14 b15 b16 b17 b18 b19 b20 b21 b22 b23 b24 b25 b26 b27 b28 b29 b30 b31 : UInt8, p ⟨[b0, b1, b2, b3, b4, b5, b6, b7, b8, b9, b10, b11, b12, b13, b14, b15, b16, b17, b18, b19, b20, b21, b22, b23, b24, b25, b26, b27, b28, b29, b30, b31], rfl⟩) : p u := by
 obtain ⟨l, hl⟩ := u
 match l, hl with
 | [b0, b1, b2, b3, b4, b5, b6, b7, b8, b9, b10, b11, b12, b13, b14, b15, b16, b17, b18, b19, b20, b21, b22, b23, b24, b25, b26, b27, b28, b29, b30, b31], _ => exact h ..
section
variable {N : Nat} {fr : Fr} {w : World} {ty : TypeId} {x y z : Operand} {k : Int} {K V : Option Addr} {n c m d : Nat} {u : Ky}
theorem o_bldOp1 (hx : fr.ev x = some (.slice K n c)) : OpV Tryz.prog N fr w (.build 54 #[(1, x)]) ty (.agg (opC 0 K n c none 0 0 z32).toArray) w :=
 o_build (is := [1]) (xs := [x]) (vs := [.slice K n c]) (by simp [Fr.evs, hx]) (fun _ => by kernel_rfl)
theorem o_bldOp12 (hx : fr.ev x = some (.slice K n c)) (hy : fr.ev y = some (.slice V m d)) : OpV Tryz.prog N fr w (.build 54 #[(1, x), (2, y)]) ty (.agg (opC 0 K n c V m d z32).toArray) w :=
 o_build (is := [1, 2]) (xs := [x, y]) (vs := [.slice K n c, .slice V m d]) (by simp [Fr.evs, hx, hy]) (fun _ => by kernel_rfl)
theorem o_bldOp012 (hx : fr.ev x = some (.int .i64 k)) (hy : fr.ev y = some (.slice K n c)) (hz : fr.ev z = some (.slice V m d)) : OpV Tryz.prog N fr w (.build 54 #[(0, x), (1, y), (2, z)]) ty (.agg (opC k K n c V m d z32).toArray) w :=
 o_build (is := [0, 1, 2]) (xs := [x, y, z]) (vs := [.int .i64 k, .slice K n c, .slice V m d]) (by simp [Fr.evs, hx, hy, hz]) (fun _ => by kernel_rfl)
theorem o_bldOp3 (hx : fr.ev x = some (.agg (B8 u.1).toArray)) : OpV Tryz.prog N fr w (.build 54 #[(3, x)]) ty (.agg (opC 0 none 0 0 none 0 0 u).toArray) w :=
 o_build (is := [3]) (xs := [x]) (vs := [.agg (B8 u.1).toArray]) (by simp [Fr.evs, hx]) (fun w => ky_cases u (fun u => (Instr.build 54 ([3].zip [.agg (B8 u.1).toArray]).toArray).run Tryz.prog w = .ok (.agg (opC 0 none 0 0 none 0 0 u).toArray) w) (by intros; kernel_rfl))
theorem o_bldOp03 (hx : fr.ev x = some (.int .i64 k)) (hy : fr.ev y = some (.agg (B8 u.1).toArray)) : OpV Tryz.prog N fr w (.build 54 #[(0, x), (3, y)]) ty (.agg (opC k none 0 0 none 0 0 u).toArray) w :=
 o_build (is := [0, 3]) (xs := [x, y]) (vs := [.int .i64 k, .agg (B8 u.1).toArray]) (by simp [Fr.evs, hx, hy]) (fun w => ky_cases u (fun u => (Instr.build 54 ([0, 3].zip [.int .i64 k, .agg (B8 u.1).toArray]).toArray).run Tryz.prog w = .ok (.agg (opC k none 0 0 none 0 0 u).toArray) w) (by intros; kernel_rfl))
end
end Go.Proofs.YtahkeoegbjopfaaGreat
/-
  The reader of package octet, in the form that the search applies: what is left, and the error.
-/
namespace Go.Proofs.YtahkeoegbjopfaaGreat
set_option maxRecDepth 100000
open Go.RowKit

def Rdr (w : World) (g : Nat) (s : RS) : Prop := ∃ l p, RdrI w g l p s.2 ∧ s.1 = l.drop p
section
variable {w w' : World} {g p : Nat} {l : List UInt8} {s : RS}
theorem RdrI.rdr (h : RdrI w g l p s.2) (hs : s.1 = l.drop p) : Rdr w g s := ⟨l, p, h, hs⟩
theorem Rdr.u (h : Rdr w g s) (hb : Below w.heap.size w w') : Rdr w' g s := by
 obtain ⟨l, p, h, hs⟩ := h
 exact ⟨l, p, h.below hb, hs⟩
theorem Rdr.at_ (h : Rdr w g s) : TyAt w g 119 := by
 obtain ⟨l, p, h, hs⟩ := h
 obtain ⟨A, c, hB, -⟩ := h.blk'
 exact hB.at_
theorem Rdr.lt (h : Rdr w g s) : g < w.heap.size := h.at_.lt
theorem Rdr.y {e' : TypeId} {row : Option Nat} (h : Rdr w g s) (hg : Grew w w' e' row) (hne : e' ∉ [119, 5]) : Rdr w' g s := by
 simp only [List.mem_cons, List.not_mem_nil, or_false, not_or] at hne
 obtain ⟨l, p, ⟨A, c, hB, ho, h⟩, hs⟩ := h
 exact ⟨l, p, ⟨A, c, hB.y hg hne.1, (OwnH.y ho.h_ hg hne.2).o, h⟩, hs⟩
end
theorem grew_rdr {w w' : World} {g : Nat} {s : RS} (h : Rdr w g s) (hg : w.grownBy w' (some g)) : Grew w w' 119 (some g) := ⟨hg, fun k hk => by injection hk with hk; subst hk; exact h.at_⟩

structure WordR (size : Int) (l : List UInt8) (e v : Nat) (l' : List UInt8) (e' : Nat) : Prop where
 h : rWord size (l, e) = (v, (l', e'))
structure BlockR (l : List UInt8) (e : Nat) (p l' : List UInt8) (e' : Nat) : Prop where
 h : rBlock (l, e) = (p, (l', e'))
theorem C_rRead {A : Option Addr} {l : List UInt8} {k c : Nat} (w : World) (hr : Rd w A l) (hk : k = l.length) (hl : l.length ≤ 4000000000) :
  CallsR Tryz.prog 38 [.slice A k c] w fun v w' => ∃ g, v = .pointer (some ⟨g, 0, none⟩) ∧ w.heap.size ≤ g ∧ g < w'.heap.size ∧ Rdr w' g (l, 0) ∧ Below w.heap.size w w' :=
 (C_Read c hk w hr (by omega)).mono fun _ _ ⟨g, hv, hg, hlt, hR, hb⟩ => ⟨g, hv, hg, hlt, hR.rdr (s := (l, 0)) rfl, hb⟩
theorem C_rBlock {g e e' : Nat} {l l' p : List UInt8} (w : World) (hR : Rdr w g (l, e)) (hr : BlockR l e p l' e') :
  CallsR Tryz.prog 120 [.pointer (some ⟨g, 0, none⟩)] w fun v w' => ∃ A' c', v = .slice A' p.length c' ∧ OwnH w' w.heap.size w'.heap.size A' c' p ∧ Rdr w' g (l', e') ∧ Grew w w' 119 (some g) ∧ Chg g (g + 1) w w' := by
 have hR0 := hR
 obtain ⟨m, q, h, hs⟩ := hR
 obtain rfl : l = m.drop q := hs
 refine (C_RBlock w h).mono ?_
 rintro v w' ⟨hg, ⟨A', c', rfl, ho⟩, p', hR, hs⟩
 dsimp only at ho hR hs ⊢
 rw [hr.h] at ho hR hs ⊢
 exact ⟨A', c', rfl, ho.h_, hR.rdr (s := (l', e')) hs, grew_rdr hR0 hg, Chg.of_g1 hg (Nat.le_refl _) (by omega)⟩
theorem C_rWord {g e e' v : Nat} {l l' : List UInt8} {size : Int} (w : World) (hR : Rdr w g (l, e)) (hr : WordR size l e v l' e') :
  CallsR Tryz.prog 39 [.pointer (some ⟨g, 0, none⟩), .int .i64 size] w fun x w' => x = .int .u64 (v : Int) ∧ Rdr w' g (l', e') ∧ Grew w w' 119 (some g) ∧ Chg g (g + 1) w w' := by
 have hR0 := hR
 obtain ⟨m, q, h, hs⟩ := hR
 obtain rfl : l = m.drop q := hs
 refine (C_RWord size w h).mono ?_
 rintro v w' ⟨rfl, hg, p', hR, hs⟩
 dsimp only at hR hs ⊢
 rw [hr.h] at hR hs ⊢
 exact ⟨rfl, hR.rdr (s := (l', e')) hs, grew_rdr hR0 hg, Chg.of_g1 hg (Nat.le_refl _) (by omega)⟩
theorem C_rErr {g e : Nat} {l : List UInt8} (w : World) (hR : Rdr w g (l, e)) :
  CallsR Tryz.prog 41 [.pointer (some ⟨g, 0, none⟩)] w fun v w' => v = .int .i64 (e : Int) ∧ w' = w := by
 obtain ⟨m, q, h, hs⟩ := hR
 exact (C_RErr w h).mono fun _ _ ⟨hv, hw⟩ => ⟨hv, hw.symm⟩
end Go.Proofs.YtahkeoegbjopfaaGreat
