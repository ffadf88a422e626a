/-
  The same where one operation (at place e) may also change what another one (at place p) made, which nobody else looks at from then on: an append in place. No function of the program is named here.
-/
import Derived.Test.YtpjedpmbninfcaaConc
namespace Go.Proofs.Ytpjedpmbninfcaa
open Go.RowKit
theorem OwnH.rng {w : World} {lo hi c : Nat} {A : Option Addr} {l : List UInt8} (h : OwnH w lo hi A c l) : ∀ k, blk A = some k → lo ≤ k ∧ k < hi := fun k hk => ⟨(RowH.lt h k hk).1, h.hi k hk⟩
theorem OwnH.ge_ {w : World} {lo hi c : Nat} {A : Option Addr} {l : List UInt8} (h : OwnH w lo hi A c l) {B : Nat} (hB : B ≤ lo) : ∀ k, blk A = some k → B ≤ k := fun k hk => Nat.le_trans hB (RowH.lt h k hk).1
section
variable {P : Program} {fn : Func} {F : Ending → World → Prop} {N : Nat} {ks : List K} {ops : Array Oper} {tg : Tags} {l : List Oper} {fr : Fr} {w : World} {ty t : TypeId} {pos : String} {aft : Array Edge} {gd : Option (Nat × Bool)} {d n j q c lo hi : Nat} {x y : Operand} {A X : Option Addr}
theorem wl_vR {op : Op} {v : Value} {w' : World} (h : OpV P N fr w op ty v w') (hk : WL P fn F N ks ops tg.tail l ((d, v) :: fr) w') (ht : tg.loud = true := by rfl) (hg : onG ops fr gd = true := by rfl) (hd : Nat.blt d N = true := by rfl) (hq : tg.calm = false ∨ tg.rw.ok w w' := by exact .inl rfl) :
    WL P fn F N ks ops tg (⟨some d, op, ty, pos, aft, gd⟩ :: l) fr w :=
  fun a ha => left_loud ht fun K hK => by
    rw [if_pos (wanted_on (o := ⟨some d, op, ty, pos, aft, gd⟩) ha hg)]
    unfold Oper.wp
    rw [h a ha _ rfl rfl]
    exact hK _ _ hq (hk _ (ha.put hd v))
--@ rule append l wl_appBm
theorem wl_appBm (T : U8 P t) {s m : List UInt8} (hx : fr.ev x = some (.slice A n c)) (hown : OwnH w lo hi A c s) (hn : n = s.length) (hy : fr.ev y = some (.slice X j q)) (hr : Rd w X m) (hj : j = m.length) (hlen : s.length + m.length ≤ 4000000000) (hB : lo ≤ w.heap.size)
    (h : ∀ A' c' w', OwnH w' lo w'.heap.size A' c' (s ++ m) → Grew w w' 5 (blk A) → Below lo w w' → WL P fn F N ks ops tg.tail l ((d, .slice A' (s ++ m).length c') :: fr) w')
    (ht : tg.loud = true := by rfl) (hg : onG ops fr gd = true := by rfl) (hd : Nat.blt d N = true := by rfl) (hq : tg.calm = false ∨ tg.rw.may (blk A) := by exact .inl rfl) :
    WL P fn F N ks ops tg (⟨some d, .call { callee := .builtin .append, args := #[x, y], argTypes := #[t, t] }, ty, pos, aft, gd⟩ :: l) fr w := by
  subst hn; subst hj
  obtain ⟨A', c', w', hrun, h1, h2, h3, h4⟩ := run_app (P := P) w T (ty := ty) hown.o (k := q) hr (by omega) hB
  exact wl_vR (o_builtin (xs := [x, y]) (vs := [.slice A s.length c, .slice X m.length q]) (by simp [Fr.evs, hx, hy]) (by simp [builtin, hrun]) (by simp)) (h A' c' w' h1.h_ ⟨h2, RowH.ty hown⟩ h4) ht hg hd (hq.imp id fun e => Rw.of_may h2 e)
end
/-- What a change to a block that is not the item's own leaves as it is. -/
def stablesE (B e p : Nat) : List Item → Nat → Prop
  | [], _ => True
  | it :: r, i => (bif Nat.beq i e || Nat.beq i p then True else ∀ vs w w' row lo hi, it.φ vs w lo hi → w.grownBy w' row → (∀ k, row = some k → B ≤ k ∧ (k < lo ∨ hi ≤ k)) → it.φ vs w' lo hi) ∧ stablesE B e p r (i + 1)
theorem stablesE_spec {B e p : Nat} : ∀ {l : List Item} {i0 : Nat}, stablesE B e p l i0 → ∀ i it, nthI l i = some it → i0 + i ≠ e → i0 + i ≠ p → ∀ vs w w' row lo hi, it.φ vs w lo hi → w.grownBy w' row → (∀ k, row = some k → B ≤ k ∧ (k < lo ∨ hi ≤ k)) → it.φ vs w' lo hi
  | x :: r, i0, h, i, it, hi, he, hp => by
    cases i with
    | zero =>
      injection hi with hi; subst hi
      have h1 := h.1
      rw [Nat.add_zero] at he hp
      have e1 : (Nat.beq i0 e || Nat.beq i0 p) = false := by
        rw [Bool.or_eq_false_iff]
        refine ⟨?_, ?_⟩
        · cases hb : Nat.beq i0 e with
          | false => rfl
          | true => exact absurd (Nat.eq_of_beq_eq_true hb) he
        · cases hb : Nat.beq i0 p with
          | false => rfl
          | true => exact absurd (Nat.eq_of_beq_eq_true hb) hp
      rw [e1] at h1
      exact h1
    | succ i => exact stablesE_spec h.2 i it hi (by omega) (by omega)
/-- What an item looks at. -/
def useE (its : List Item) (e p i : Nat) (it : Item) : List Nat := bif Nat.beq i e || inN i (match nthI its e with | some x => x.pre | none => []) then it.pre else it.pre.filter (fun q => !Nat.beq q p)
/-- Where the operations at its have come to (those whose bits are in T). -/
structure ConcStE (its : List Item) (N : Nat) (fr : Fr) (w0 : World) (m T p ke : Nat) (a : Act) (w : World) (lo hi : Nat → Nat) (vv : Nat → List Value) : Prop where
  rep : Rep N a fr
  bel : Below w0.heap.size w0 w
  low : ∀ j, m.testBit j = true → T.testBit j = true
  up : ∀ j, T.testBit j = true → m.testBit j = true ∨ ∃ it ∈ its, j ∈ it.idx
  whole : ∀ it ∈ its, ∀ j ∈ it.idx, T.testBit j = T.testBit it.k
  f : ∀ i it, nthI its i = some it → T.testBit it.k = true → (i = p → T.testBit ke = false) → Rep N a (it.ds.zip (vv i)) ∧ it.φ (vv i) w (lo i) (hi i) ∧ w0.heap.size ≤ lo i ∧ lo i ≤ hi i ∧ hi i ≤ w.heap.size
  ap : ∀ i j it it', nthI its i = some it → nthI its j = some it' → T.testBit it.k = true → T.testBit it'.k = true → (i = p → T.testBit ke = false) → (j = p → T.testBit ke = false) → i ≠ j → hi i ≤ lo j ∨ hi j ≤ lo i
section
variable {P : Program} {fn : Func} {F : Ending → World → Prop} {N : Nat} {ks : List K} {ops : List Oper} {fr : Fr} {w : World} {row : Rw} {L C : Nat}
def stepU (P : Program) (fn : Func) (F : Ending → World → Prop) (N : Nat) (ks : List K) (ops : List Oper) (fr : Fr) (w : World) (row : Rw) (L C : Nat) (its : List Item) (use : List Nat) (it : Item) : Prop :=
  ∀ (w' : World), Below w.heap.size w w' → ∀ (fo : Fr) (T T2 n2 : Nat), given its w' w.heap.size use [] (fr ++ fo) fun fr' =>
    (∀ (vs : List Value) (w'' : World), it.φ vs w'' w'.heap.size w''.heap.size → Below w'.heap.size w' w'' → WL P fn F N ks ops.toArray (some (row, [(.f T2 L C, n2)])) [] (it.ds.zip vs ++ fr') w'') →
    WL P fn F N ks ops.toArray (some (row, (.g T L C, it.k) :: (it.ps ++ [(.f T2 L C, n2)]))) (inOrder ops it.idx) fr' w'
/-- The step of the one that changes what the item y made. -/
def stepE (P : Program) (fn : Func) (F : Ending → World → Prop) (N : Nat) (ks : List K) (ops : List Oper) (fr : Fr) (w : World) (row : Rw) (L C : Nat) (its : List Item) (p : Nat) (y it : Item) : Prop :=
  ∀ (w' : World), Below w.heap.size w w' → ∀ (fo : Fr) (T T2 n2 : Nat) (vsp : List Value) (lop hip : Nat), y.φ vsp w' lop hip → w.heap.size ≤ lop → lop ≤ hip → hip ≤ w'.heap.size →
    given its w' w.heap.size (it.pre.filter (fun q => !Nat.beq q p)) [(lop, hip)] (y.ds.zip vsp ++ (fr ++ fo)) fun fr' =>
    (∀ (vs : List Value) (w'' : World) (g : Option Nat), it.φ vs w'' w''.heap.size w''.heap.size → w'.grownBy w'' g → (∀ k, g = some k → lop ≤ k ∧ k < hip) → WL P fn F N ks ops.toArray (some (row, [(.f T2 L C, n2)])) [] (it.ds.zip vs ++ fr') w'') →
    WL P fn F N ks ops.toArray (some (row, (.g T L C, it.k) :: (it.ps ++ [(.f T2 L C, n2)]))) (inOrder ops it.idx) fr' w'
def stepsE (P : Program) (fn : Func) (F : Ending → World → Prop) (N : Nat) (ks : List K) (ops : List Oper) (fr : Fr) (w : World) (row : Rw) (L C : Nat) (its : List Item) (e p : Nat) : List Item → Nat → Prop
  | [], _ => True
  | it :: r, i => (bif Nat.beq i e then (match nthI its p with | some y => stepE P fn F N ks ops fr w row L C its p y it | none => False) else stepU P fn F N ks ops fr w row L C its (useE its e p i it) it) ∧ stepsE P fn F N ks ops fr w row L C its e p r (i + 1)
theorem stepsE_u {its : List Item} {e p : Nat} : ∀ {r : List Item} {i0 : Nat}, stepsE P fn F N ks ops fr w row L C its e p r i0 → ∀ i it, nthI r i = some it → i0 + i ≠ e → stepU P fn F N ks ops fr w row L C its (useE its e p (i0 + i) it) it
  | x :: r, i0, h, i, it, hi, he => by
    cases i with
    | zero =>
      injection hi with hi; subst hi
      have h1 := h.1
      rw [Nat.add_zero] at he ⊢
      have e1 : Nat.beq i0 e = false := by
        cases hb : Nat.beq i0 e with
        | false => rfl
        | true => exact absurd (Nat.eq_of_beq_eq_true hb) he
      rw [e1] at h1
      exact h1
    | succ i =>
      have := stepsE_u h.2 i it hi (by omega)
      rwa [show i0 + 1 + i = i0 + (i + 1) by omega] at this
theorem stepsE_e {its : List Item} {e p : Nat} {y : Item} (hy : nthI its p = some y) : ∀ {r : List Item} {i0 : Nat}, stepsE P fn F N ks ops fr w row L C its e p r i0 → ∀ i it, nthI r i = some it → i0 + i = e → stepE P fn F N ks ops fr w row L C its p y it
  | x :: r, i0, h, i, it, hi, he => by
    cases i with
    | zero =>
      injection hi with hi; subst hi
      have h1 := h.1
      rw [Nat.add_zero] at he
      subst he
      rw [show Nat.beq i0 i0 = true by simp, hy] at h1
      exact h1
    | succ i => exact stepsE_e hy h.2 i it hi (by omega)
def chkE (its : List Item) (all : List Nat) (e p : Nat) : Bool :=
  (match nthI its e with | some x => inN p x.pre | none => false) && (!Nat.beq e p && all.all (fun q => !Nat.beq q p))
theorem wl_concE {m n : Nat} (e p : Nat) (its : List Item) (all D A ordR : List Nat) (tsR : List (Tag × Nat)) (hD : ops.map (dmask .any) = D) (hA : ancs .any ops [] = A) (hc : (chkE its all e p && chkC ops its all D A L C m n fr ordR tsR) = true)
    (hlR : (inOrder ops ordR).map some = opsOf ops.toArray tsR) (hst : stables its) (hstE : stablesE w.heap.size e p its 0) (hstep : stepsE P fn F N ks ops fr w row L C its e p its 0)
    (hend : ∀ w', Below w.heap.size w w' → given its w' w.heap.size all [] fr fun fr' => WL P fn F N ks ops.toArray (some (row, tsR)) (inOrder ops ordR) fr' w') :
    WL P fn F N ks ops.toArray (some (row, [(.f m L C, n)])) [] fr w := by
  simp only [chkC, chkE, Bool.and_eq_true, List.all_eq_true] at hc
  obtain ⟨⟨x1, x2, x3⟩, c1, c2, c3, c4, c5, c6, c8, c9⟩ := hc
  have hI := fun i it hi => chkI_spec c1 i it hi
  have hJ := fun j d hd => chkJ_spec c4 j d hd
  obtain ⟨d1, d2⟩ := disjN_spec c2
  obtain ⟨e1, e2⟩ := disjD_spec c3
  have hstab := stables_spec hst
  have hstabE := fun i it hi => stablesE_spec hstE i it hi
  obtain ⟨xe, hxe, hpe⟩ : ∃ xe, nthI its e = some xe ∧ p ∈ xe.pre := by
    cases hx : nthI its e with
    | none => rw [hx] at x1; cases x1
    | some xe => rw [hx] at x1; exact ⟨xe, rfl, inN_iff.1 x1⟩
  have hep : e ≠ p := fun h => by subst h; simp at x2
  have hallp : ∀ q ∈ all, q ≠ p := fun q hq h => by have := x3 q hq; subst h; simp at this
  obtain ⟨base, hbase⟩ : ∃ b, (inOrder ops ordR).length + extra tsR = b := ⟨_, rfl⟩
  have hn := Nat.eq_of_beq_eq_true c8
  rw [hbase] at hn
  subst hn
  have hfr : ∀ it ∈ its, ∀ d ∈ it.ds, fr.get d = none := fun it hit d hd => by
    refine (Fr.get_none_iff fr d).2 ?_
    cases hb : inN d (fr.map Prod.fst) with
    | false => rfl
    | true => exact absurd (inN_iff.1 hb) (e1 it hit d hd)
  have main : ∀ (f T : Nat) (a : Act) (w' : World) (lo hi : Nat → Nat) (vv : Nat → List Value), f = fuelOf T its → ConcStE its N fr w m T p xe.k a w' lo hi vv → Left P (kpost P fn F ks) ops.toArray (some (row, [(.f T L C, base + f)])) [] a w' := by
    intro f
    induction f using Nat.strongRecOn with
    | _ f ih =>
      intro T a w' lo hi vv hf hS
      intro D' A' L' C' listed m' hm _ hchk
      unfold chk at hchk
      simp only [Bool.and_eq_true] at hchk
      obtain ⟨hm1, hL1, hC1⟩ := hchk
      obtain rfl := Nat.eq_of_beq_eq_true hm1
      obtain rfl := Nat.eq_of_beq_eq_true hL1
      obtain rfl := Nat.eq_of_beq_eq_true hC1
      obtain rfl : D' = D := by rw [hm.D, ← hD]
      obtain rfl : A' = A := by rw [hm.A, ← hA]
      show wpMix P .any ops.toArray _ _ _ row (0 + (base + f)) listed a w'
      rw [Nat.zero_add]
      have hbefore : ∀ j i, (A'.getD j 0).testBit i = true → Before .any ops.toArray i j := by
        rw [hm.A]
        exact ancs_spec ops.toArray.toList [] (fun j => by simp) (fun j i hb => by simp at hb)
      -- what is ahead of a ready operation is through
      have hahead : ∀ j ∈ Region.ready .any ops.toArray listed, ∀ b, (A'.getD j 0).testBit b = true → b = j ∨ m'.testBit b = true := fun j hj b hb => by
        by_cases e : b = j
        · exact .inl e
        · refine .inr ?_
          have hlt : j < listed.size := by
            have h0 := (mem_ready.1 hj).1
            rcases Nat.lt_or_ge j listed.size with h | h
            · exact h
            · simp [Array.getElem?_eq_none h] at h0
          have h1 := hbefore j b hb _ (hm.closed.set hj) (by simp [hlt])
          rw [getD_set_ne false (Ne.symm e)] at h1
          rw [← hm.bits]; exact h1
      by_cases hall : ∀ it ∈ its, m'.testBit it.k = true
      · -- all through
        have hf0 : f = 0 := by rw [hf, fuel_zero hall]
        subst hf0
        have hT : m' = allMask m its := Nat.eq_of_testBit_eq fun j => by
          cases h1 : m'.testBit j with
          | true => exact (allMask_bit.2 (hS.up j h1)).symm
          | false =>
            cases h2 : (allMask m its).testBit j with
            | false => rfl
            | true =>
              rcases allMask_bit.1 h2 with h3 | ⟨it, h3, h4⟩
              · rw [hS.low j h3] at h1; cases h1
              · rw [hS.whole it h3 j h4, hall it h3] at h1; cases h1
        have hpos : ∀ p ∈ all, ∃ it, nthI its p = some it := fun p hp => by
          have hlt : p < its.length := by have := c6 p hp; simpa using this
          exact nthI_some hlt
        obtain ⟨fr', k1, _, k2⟩ := given_elim (its := its) (lo := lo) (hi := hi) (vv := vv) all [] fr _ hS.rep (fun p hp => by
          obtain ⟨it, hit⟩ := hpos p hp
          obtain ⟨h1, h2, h3, h4, h5⟩ := hS.f p it hit (hall it (nthI_mem hit)) (fun h => absurd h (hallp _ hp))
          exact ⟨it, hit, h1, h2, h3, h4, h5⟩) (List.Pairwise.imp_of_mem (fun {p q} hp hq hpq => by
            obtain ⟨it, hit⟩ := hpos p hp
            obtain ⟨it', hit'⟩ := hpos q hq
            exact hS.ap p q it it' hit hit' (hall it (nthI_mem hit)) (hall it' (nthI_mem hit')) (fun h => absurd h (hallp _ hp)) (fun h => absurd h (hallp _ hq)) (by omega)) (incrN_spec c5)) (fun q hq => by cases hq) (hend w' hS.bel)
        have := left_elim (k2 a k1) hm hlR (by rw [hT]; exact c9)
        rw [hbase] at this
        simpa using this
      · -- the first item that is left is ready
        obtain ⟨i0, it0, hi0, hu0, hmin⟩ : ∃ i it, nthI its i = some it ∧ m'.testBit it.k = false ∧ ∀ j, j < i → ∀ x, nthI its j = some x → m'.testBit x.k = true := by
          refine Classical.byContradiction fun hno => hall fun it hit => ?_
          obtain ⟨i, _, hi'⟩ := nthI_of_mem hit
          have key : ∀ i it, nthI its i = some it → m'.testBit it.k = true := by
            intro i
            induction i using Nat.strongRecOn with
            | _ i ihi =>
              intro it hit
              cases hb : m'.testBit it.k with
              | true => rfl
              | false => exact absurd ⟨i, it, hit, hb, fun j hj x hx => ihi j hj x hx⟩ hno
          exact key i it hi'
        have hsub : ∀ it, it ∈ its → (∀ p ∈ it.pre, ∀ x, nthI its p = some x → m'.testBit x.k = true) → ∀ j, (m ||| preMask its it.pre).testBit j = true → m'.testBit j = true := fun it hit hp j hj => by
          rw [Nat.testBit_or, Bool.or_eq_true] at hj
          rcases hj with hj | hj
          · exact hS.low j hj
          · obtain ⟨p, h1, x, h2, h3⟩ := preMask_bit hj
            rw [hS.whole x (nthI_mem h2) j h3]
            exact hp p h1 x h2
        have hrdy0 : it0.k ∈ Region.ready .any ops.toArray listed := hm.ready (rdyK_mono (hsub it0 (nthI_mem hi0) fun p hp x hx => hmin p (by have := ((hI i0 it0 hi0).2.1 p hp).1; omega) x hx) hu0 (hI i0 it0 hi0).2.2.2.1)
        obtain ⟨f', hf'⟩ : ∃ f', f = f' + 1 := by
          have := fuel_step (T := m') (T2 := m' ||| it0.mask) hi0 hu0 (by rw [Nat.testBit_or, show it0.mask.testBit it0.k = true from bitsOf_bit.2 (by simp [Item.idx])]; simp) (fun i' it' hi' hne => by
            rw [Nat.testBit_or]
            cases hb : it0.mask.testBit it'.k with
            | false => simp
            | true => exact absurd (bitsOf_bit.1 hb) (d2 i' i0 it' it0 hi' hi0 hne it'.k (by simp [Item.idx])))
          exact ⟨fuelOf (m' ||| it0.mask) its + it0.ps.length, by omega⟩
        rw [hf', ← Nat.add_assoc]
        refine ⟨fun h => (by rw [h] at hrdy0; cases hrdy0), fun j hj => ?_⟩
        -- which one it is
        obtain ⟨hjun, oj, hoj, hjall⟩ := mem_ready.1 hj
        have hjlt : j < ops.toArray.size := (Array.getElem?_eq_some_iff.1 hoj).1
        have hju : m'.testBit j = false := by rw [← hm.getD hjlt]; exact hjun
        have hDj := hm.dAt hoj
        obtain ⟨i, it, hi', rfl⟩ : ∃ i it, nthI its i = some it ∧ it.k = j := by
          rcases hJ j _ hDj with h1 | ⟨it, h1, h2⟩ | h1
          · rw [Nat.zero_add] at h1; rw [hS.low j h1] at hju; cases hju
          · obtain ⟨i, _, hi'⟩ := nthI_of_mem h1
            rw [Nat.zero_add] at h2
            rcases h2 with h2 | ⟨h2, b, h3, h4⟩
            · exact ⟨i, it, hi', h2⟩
            · exfalso
              have h5 : m'.testBit b = true := by
                obtain ⟨e, he, hb, rfl⟩ := dmask_bit.1 h3
                rw [← hm.bits]; exact hjall e he hb
              have h6 := hS.whole it h1 b h4
              have h7 := hS.whole it h1 j (by simp [Item.idx, h2])
              rw [h5] at h6; rw [← h6, hju] at h7; cases h7
          · exfalso
            rw [Nat.zero_add] at h1
            obtain ⟨⟨b, h2, h3⟩, h5⟩ := h1 it0 (nthI_mem hi0)
            rcases hahead j hj b h2 with h4 | h4
            · subst h4; exact h5 h3
            · rw [hS.whole it0 (nthI_mem hi0) b h3, hu0] at h4; cases h4
        obtain ⟨q1, q2, q3, q4, q5, q6⟩ := hI i it hi'
        have hit := nthI_mem hi'
        rw [if_pos q1]
        have hpre : ∀ p ∈ it.pre, ∃ x, nthI its p = some x ∧ m'.testBit x.k = true := fun p hp => by
          obtain ⟨h1, b, h2, x, h3, h4⟩ := q2 p hp
          refine ⟨x, h3, ?_⟩
          rcases hahead it.k hj b h2 with h5 | h5
          · subst h5; exact absurd h4 (d2 i p it x hi' h3 (by omega) _ (by simp [Item.idx]))
          · rw [← hS.whole x (nthI_mem h3) b h4]; exact h5
        have hsb := hsub it hit (fun p hp x hx => by
          obtain ⟨y, h1, h2⟩ := hpre p hp
          rw [hx] at h1; injection h1 with h1; rw [h1]; exact h2)
        obtain ⟨fo, hfo, hfo2⟩ := dump_ex hS.rep
        obtain ⟨T2, hT2⟩ : ∃ T2, maskAfter it.ps (m' ||| 2 ^ it.k) = T2 := ⟨_, rfl⟩
        have hT2b : ∀ j, T2.testBit j = true ↔ m'.testBit j = true ∨ j ∈ it.idx := fun j => by
          rw [← hT2, maskAfter_bit, bit_lor, Item.idx, List.mem_cons]
          constructor
          · rintro ((h | h) | h)
            · exact .inl h
            · exact .inr (.inl h.symm)
            · exact .inr (.inr h)
          · rintro (h | h | h)
            · exact .inl (.inl h)
            · exact .inl (.inr h.symm)
            · exact .inr h
        have hT2k : T2.testBit it.k = true := (hT2b _).2 (.inr (by simp [Item.idx]))
        have hT2o : ∀ i' it', nthI its i' = some it' → i' ≠ i → ∀ j ∈ it'.idx, T2.testBit j = m'.testBit j := fun i' it' hi2 hne j hj => by
          cases hb : m'.testBit j with
          | true => exact (hT2b j).2 (.inl hb)
          | false =>
            cases hb2 : T2.testBit j with
            | false => rfl
            | true =>
              rcases (hT2b j).1 hb2 with h | h
              · rw [hb] at h; cases h
              · exact absurd h (d2 i' i it' it hi2 hi' hne j hj)
        have hfuel := fuel_step (T := m') (T2 := T2) hi' hju hT2k (fun i' it' hi2 hne => hT2o i' it' hi2 hne it'.k (by simp [Item.idx]))
        -- where an item that is through was ahead of another one that is through
        have hdone : ∀ q y, nthI its q = some y → m'.testBit y.k = true → ∀ r ∈ y.pre, ∀ x, nthI its r = some x → m'.testBit x.k = true := fun q y hy hb r hr x hx => by
          obtain ⟨h1, b, h2, x', h3, h4⟩ := (hI q y hy).2.1 r hr
          rw [hx] at h3; injection h3 with h3; subst h3
          have hb2 : listed.getD y.k false = true := by rw [hm.bits]; exact hb
          have := hbefore y.k b h2 listed hm.closed hb2
          rw [hm.bits] at this
          rw [← hS.whole x (nthI_mem hx) b h4]; exact this
        have hkeepF : ∀ (fr' : Fr), Rep N a fr' → (∀ t, fr'.get t = none → (fr ++ fo).get t = none) → ∀ t v, a.tmps[t]? = some v → fr'.get t = some v := fun fr' k1 k2 t v hv => by
          cases hg : fr'.get t with
          | some u => rw [← hv]; exact (k1.get t u hg).symm
          | none =>
            have h1 := k2 t hg
            rw [Fr.get_append, hfo2 t v hv] at h1
            cases h2 : fr.get t <;> rw [h2] at h1 <;> cases h1
        -- the state behind the step
        have after : ∀ (fr' : Fr) (vs : List Value) (w'' : World) (g : Option Nat) (l2 h2 : Nat) (a' : Act), (∀ t v, a.tmps[t]? = some v → fr'.get t = some v) → Rep N a' (it.ds.zip vs ++ fr') → it.φ vs w'' l2 h2 → w'.grownBy w'' g →
            (w'.heap.size ≤ l2 ∧ l2 ≤ h2 ∧ h2 ≤ w''.heap.size) → (g = none ∨ (i = e ∧ (∀ k, g = some k → lo p ≤ k ∧ k < hi p) ∧ ∀ y, nthI its p = some y → m'.testBit y.k = true)) →
            ConcStE its N fr w m T2 p xe.k a' w'' (fun j => if j = i then l2 else lo j) (fun j => if j = i then h2 else hi j) (fun j => if j = i then vs else vv j) := by
          intro fr' vs w'' g l2 h2 a' hkeep ha' hφ hgr hl2 hgc
          have hkeep' : ∀ t v, a.tmps[t]? = some v → t ∉ it.ds → a'.tmps[t]? = some v := fun t v hv ht => by
            refine ha'.get t v ?_
            rw [Fr.get_append]
            cases hz : Fr.get (it.ds.zip vs) t with
            | some u => exact absurd (zip_get hz) ht
            | none => exact hkeep t v hv
          have hss := hgr.size
          have hs0 := hS.bel.size
          have hxu : i = e → m'.testBit xe.k = false := fun h => by
            subst h; rw [hi'] at hxe; injection hxe with hxe; rw [← hxe]; exact hju
          have hglow : ∀ k, g = some k → w.heap.size ≤ k := fun k hk => by
            rcases hgc with h | ⟨h1, h3, h4⟩
            · rw [h] at hk; cases hk
            · obtain ⟨y, hy, _⟩ := hpre p (by subst h1; rw [hi'] at hxe; injection hxe with hxe; rw [hxe]; exact hpe)
              have := (hS.f p y hy (h4 y hy) (fun _ => hxu h1)).2.2.1
              have := (h3 k hk).1
              omega
          have h2e : T2.testBit xe.k = false → m'.testBit xe.k = false := fun h => by
            cases hb : m'.testBit xe.k with
            | false => rfl
            | true => rw [(hT2b _).2 (.inl hb)] at h; cases h
          refine ⟨⟨ha'.size, ha'.defers, fun t v hv => hkeep' t v (hS.rep.get t v hv) (fun hd => by rw [hfr it hit t hd] at hv; cases hv)⟩, hS.bel.grown hgr hs0 hglow, fun j hj => (hT2b j).2 (.inl (hS.low j hj)), fun j hj => ?_, fun it' hit' j hj => ?_, fun i' it' hi2 hb2 hlive => ?_, fun i1 i2 x y hx hy hbx hby hlx hly hne => ?_⟩
          · rcases (hT2b j).1 hj with h | h
            · exact hS.up j h
            · exact .inr ⟨it, hit, h⟩
          · obtain ⟨i', _, hi2⟩ := nthI_of_mem hit'
            by_cases e : i' = i
            · subst e
              rw [hi'] at hi2; injection hi2 with hi2; subst hi2
              rw [hT2k, (hT2b j).2 (.inr hj)]
            · rw [hT2o i' it' hi2 e j hj, hT2o i' it' hi2 e it'.k (by simp [Item.idx])]
              exact hS.whole it' hit' j hj
          · by_cases e0 : i' = i
            · subst e0
              rw [hi'] at hi2; injection hi2 with hi2; subst hi2
              simp only [if_true]
              refine ⟨⟨ha'.size, ha'.defers, fun t v hv => ha'.get t v ?_⟩, hφ, by omega, by omega, by omega⟩
              rw [Fr.get_append, hv]
            · simp only [if_neg e0]
              rw [hT2o i' it' hi2 e0 it'.k (by simp [Item.idx])] at hb2
              obtain ⟨h1, h2, h3, h4, h5⟩ := hS.f i' it' hi2 hb2 (fun h => h2e (hlive h))
              refine ⟨⟨ha'.size, ha'.defers, fun t v hv => hkeep' t v (h1.get t v hv) (fun hd => ?_)⟩, ?_, h3, h4, by omega⟩
              · exact e2 i' i it' it hi2 hi' e0 t (zip_get hv) hd
              · rcases hgc with hg | ⟨hie, hgk, hpd⟩
                · rw [hg] at hgr
                  exact hstab it' (nthI_mem hi2) _ _ _ _ _ h2 (below_of_grown_none hgr)
                · have hip : i' ≠ p := fun h => by
                    have := hlive h
                    subst hie
                    rw [hi'] at hxe; injection hxe with hxe; rw [← hxe, hT2k] at this; cases this
                  have hie' : i' ≠ e := fun h => e0 (h.trans hie.symm)
                  refine hstabE i' it' hi2 (by omega) (by omega) _ _ _ _ _ _ h2 hgr (fun k hk => ⟨hglow k hk, ?_⟩)
                  obtain ⟨y, hy, _⟩ := hpre p (by subst hie; rw [hi'] at hxe; injection hxe with hxe; rw [hxe]; exact hpe)
                  have hb3 := hgk k hk
                  have := hS.ap i' p it' y hi2 hy hb2 (hpd y hy) (fun h => absurd h hip) (fun _ => hxu hie) hip
                  omega
          · by_cases ex : i1 = i
            · subst ex
              have ey : i2 ≠ i1 := Ne.symm hne
              simp only [if_true, if_neg ey]
              rw [hT2o i2 y hy ey y.k (by simp [Item.idx])] at hby
              have := (hS.f i2 y hy hby (fun h => h2e (hly h))).2.2.2.2
              exact .inr (by omega)
            · by_cases ey : i2 = i
              · subst ey
                simp only [if_true, if_neg ex]
                rw [hT2o i1 x hx ex x.k (by simp [Item.idx])] at hbx
                have := (hS.f i1 x hx hbx (fun h => h2e (hlx h))).2.2.2.2
                exact .inl (by omega)
              · simp only [if_neg ex, if_neg ey]
                rw [hT2o i1 x hx ex x.k (by simp [Item.idx])] at hbx
                rw [hT2o i2 y hy ey y.k (by simp [Item.idx])] at hby
                exact hS.ap i1 i2 x y hx hy hbx hby (fun h => h2e (hlx h)) (fun h => h2e (hly h)) hne
        have hL : Left P (kpost P fn F ks) ops.toArray (some (row, (.g m' L' C', it.k) :: (it.ps ++ [(.f T2 L' C', base + fuelOf T2 its)]))) (inOrder ops it.idx) a w' := by
          by_cases hie : i = e
          · have hite : it = xe := by subst hie; rw [hi'] at hxe; injection hxe
            obtain ⟨y, hy, hyb⟩ := hpre p (by rw [hite]; exact hpe)
            have hux : m'.testBit xe.k = false := by rw [← hite]; exact hju
            obtain ⟨g1, g2, g3, g4, g5⟩ := hS.f p y hy hyb (fun _ => hux)
            have hst2 := stepsE_e hy hstep i it hi' (by omega) w' hS.bel fo m' T2 (base + fuelOf T2 its) (vv p) (lo p) (hi p) g2 g3 g4 g5
            have hmem : ∀ q ∈ it.pre.filter (fun q => !Nat.beq q p), q ∈ it.pre ∧ q ≠ p := fun q hq => by
              obtain ⟨h1, h2⟩ := List.mem_filter.1 hq
              exact ⟨h1, fun h => by subst h; simp at h2⟩
            obtain ⟨fr', k1, k2, k3⟩ := given_elim (its := its) (lo := lo) (hi := hi) (vv := vv) (it.pre.filter (fun q => !Nat.beq q p)) [(lo p, hi p)] (y.ds.zip (vv p) ++ (fr ++ fo)) _ (g1.append (hS.rep.append hfo)) (fun q hq => by
              obtain ⟨x, hx, hb⟩ := hpre q (hmem q hq).1
              obtain ⟨h1, h2, h3, h4, h5⟩ := hS.f q x hx hb (fun _ => hux)
              exact ⟨x, hx, h1, h2, h3, h4, h5⟩) (List.Pairwise.imp_of_mem (fun {q r} hq hr hqr => by
                obtain ⟨x, hx, hb⟩ := hpre q (hmem q hq).1
                obtain ⟨z, hz, hb'⟩ := hpre r (hmem r hr).1
                exact hS.ap q r x z hx hz hb hb' (fun _ => hux) (fun _ => hux) (by omega)) (q3.filter _)) (fun r hr q hq => by
                  rw [List.mem_singleton] at hr; subst hr
                  obtain ⟨x, hx, hb⟩ := hpre q (hmem q hq).1
                  exact hS.ap p q y x hy hx hyb hb (fun _ => hux) (fun _ => hux) (Ne.symm (hmem q hq).2)) hst2
            refine k3 (fun vs w'' g hφ hgr hg a' ha' => ?_) a k1
            refine ih (fuelOf T2 its) (by omega) T2 a' w'' _ _ _ rfl (after fr' vs w'' g w''.heap.size w''.heap.size a' (hkeepF fr' k1 (fun t ht => ?_)) ha' hφ hgr ⟨hgr.size, Nat.le_refl _, Nat.le_refl _⟩ (.inr ⟨hie, hg, fun z hz => by rw [hy] at hz; injection hz with hz; rw [← hz]; exact hyb⟩))
            have := k2 t ht
            rw [Fr.get_append] at this
            cases hc : Fr.get (y.ds.zip (vv p)) t with
            | some u => rw [hc] at this; cases this
            | none => rw [hc] at this; exact this
          · have hmem : ∀ q ∈ useE its e p i it, q ∈ it.pre ∧ (q = p → m'.testBit xe.k = false) := fun q hq => by
              unfold useE at hq
              rw [hxe] at hq
              cases hc : (Nat.beq i e || inN i xe.pre) with
              | true =>
                rw [show (match some xe with | some x => x.pre | none => []) = xe.pre from rfl, hc] at hq
                refine ⟨hq, fun _ => ?_⟩
                rw [Bool.or_eq_true] at hc
                rcases hc with hc | hc
                · exact absurd (Nat.eq_of_beq_eq_true hc) hie
                · cases hb : m'.testBit xe.k with
                  | false => rfl
                  | true =>
                    have := hdone e xe hxe hb i (inN_iff.1 hc) it hi'
                    rw [hju] at this; cases this
              | false =>
                rw [show (match some xe with | some x => x.pre | none => []) = xe.pre from rfl, hc] at hq
                obtain ⟨h1, h2⟩ := List.mem_filter.1 hq
                exact ⟨h1, fun h => by subst h; simp at h2⟩
            have huse3 : (useE its e p i it).Pairwise (· < ·) := by
              unfold useE
              cases (Nat.beq i e || inN i (match nthI its e with | some x => x.pre | none => [])) with
              | true => exact q3
              | false => exact q3.filter _
            have hst2 := stepsE_u hstep i it hi' (by omega)
            rw [Nat.zero_add] at hst2
            obtain ⟨fr', k1, k2, k3⟩ := given_elim (its := its) (lo := lo) (hi := hi) (vv := vv) (useE its e p i it) [] (fr ++ fo) _ (hS.rep.append hfo) (fun q hq => by
              obtain ⟨x, hx, hb⟩ := hpre q (hmem q hq).1
              obtain ⟨h1, h2, h3, h4, h5⟩ := hS.f q x hx hb (hmem q hq).2
              exact ⟨x, hx, h1, h2, h3, h4, h5⟩) (List.Pairwise.imp_of_mem (fun {q r} hq hr hqr => by
                obtain ⟨x, hx, hb⟩ := hpre q (hmem q hq).1
                obtain ⟨z, hz, hb'⟩ := hpre r (hmem r hr).1
                exact hS.ap q r x z hx hz hb hb' (hmem q hq).2 (hmem r hr).2 (by omega)) huse3) (fun q hq => by cases hq) (hst2 w' hS.bel fo m' T2 (base + fuelOf T2 its))
            exact k3 (fun vs w'' hφ hb a' ha' => ih (fuelOf T2 its) (by omega) T2 a' w'' _ _ _ rfl (after fr' vs w'' none w'.heap.size w''.heap.size a' (hkeepF fr' k1 k2) ha' hφ (grown_of_below hb none) ⟨Nat.le_refl _, hb.size, Nat.le_refl _⟩ (.inl rfl))) a k1
        have hmap := inOrder_map q5
        obtain ⟨o, l', hol⟩ : ∃ o l', inOrder ops it.idx = o :: l' := by
          cases h : inOrder ops it.idx with
          | nil => rw [h] at hmap; simp [Item.idx] at hmap
          | cons o l' => exact ⟨o, l', rfl⟩
        rw [hol] at hmap
        have hmap2 : some o = ops.toArray[it.k]? ∧ l'.map some = (it.ps.map Prod.snd).map (fun k => ops.toArray[k]?) := by
          rw [Item.idx, List.map_cons, List.map_cons] at hmap
          exact List.cons.inj hmap
        obtain ⟨o1, o2⟩ := opsOf_ps (ops := ops.toArray) (l := ops.toArray.toList) (n := base + fuelOf T2 its) (T := T2) it.ps _ q6
        have hl' : l'.length = it.ps.length := by have := congrArg List.length hmap2.2; simpa using this
        have fin := hL D' A' listed o l' hol hm hmap2.1.symm (by rw [hmap2.2, o1, List.map_map]; rfl) hj (by
          rw [← hT2]
          exact chk_of_chkP (T := m') it.ps _ _ q6 (fun i hi => by rw [bit_lor] at hi ⊢; exact hi.imp (hsb i) id) (fun i hi => by
            rw [bit_lor] at hi ⊢
            rcases hi with hi | hi
            · exact .inl hi
            · exact .inr (.inr hi)) (fun p hp => by rw [hS.whole it hit p.2 (by simp only [Item.idx, List.mem_cons, List.mem_map]; exact .inr ⟨p, hp, rfl⟩)]; exact hju))
        rw [o2, hl'] at fin
        rw [show base + f' = it.ps.length + (base + fuelOf T2 its) by omega]
        exact fin
  intro a ha
  have h0 : ∀ it ∈ its, m.testBit it.k = false := fun it hit => d1 it hit it.k (by simp [Item.idx])
  exact main _ m a w (fun _ => 0) (fun _ => 0) (fun _ => []) rfl ⟨ha, Below.refl _ _, fun _ h => h, fun _ h => .inl h, fun it hit j hj => by rw [d1 it hit j hj, h0 it hit],
    fun i it hi hb => absurd hb (by rw [h0 it (nthI_mem hi)]; simp), fun i j it it' hi _ hb => absurd hb (by rw [h0 it (nthI_mem hi)]; simp)⟩
end
end Go.Proofs.Ytpjedpmbninfcaa
