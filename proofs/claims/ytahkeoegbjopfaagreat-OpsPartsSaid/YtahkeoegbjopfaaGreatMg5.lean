/-
  The same where one operation (at place e) may also change what another one (at place p) made, which nobody else looks at from then on: an append in place. No function of the program is named here.
-/
import Derived.Test.YtahkeoegbjopfaaGreatMg4
namespace Go.Proofs.YtahkeoegbjopfaaGreat
set_option maxRecDepth 100000
open Go.RowKit
theorem OwnH.rng {w : World} {lo hi c : Nat} {A : Option Addr} {l : List UInt8} (h : OwnH w lo hi A c l) : ∀ k, blk A = some k → lo ≤ k ∧ k < hi := fun k hk => ⟨(RowH.lt h k hk).1, h.hi k hk⟩
theorem OwnH.ge_ {w : World} {lo hi c : Nat} {A : Option Addr} {l : List UInt8} (h : OwnH w lo hi A c l) {B : Nat} (hB : B ≤ lo) : ∀ k, blk A = some k → B ≤ k := fun k hk => Nat.le_trans hB (RowH.lt h k hk).1
section
variable {P : Program} {fn : Func} {F : Ending → World → Prop} {N : Nat} {ks : List K} {ops : Array Oper} {tg : Tags} {l : List Oper} {fr : Fr} {w : World} {ty t : TypeId} {pos : String} {aft : Array Edge} {gd : Option (Nat × Bool)} {d n j q c lo hi : Nat} {x y : Operand} {A X : Option Addr}
theorem wl_vR {op : Op} {v : Value} {w' : World} (h : OpV P N fr w op ty v w') (hk : WL P fn F N ks ops tg.tail l ((d, v) :: fr) w') (ht : tg.loud = true := by rfl) (hg : onG ops fr gd = true := by rfl) (hd : Nat.blt d N = true := by rfl) (hq : tg.calm = false ∨ tg.rw.ok w w' := by exact .inl rfl) :
    WL P fn F N ks ops tg (⟨some d, op, ty, pos, aft, gd⟩ :: l) fr w :=
  fun a ha => left_loud ht fun K hK => by
    rw [if_pos (wanted_on (o := ⟨some d, op, ty, pos, aft, gd⟩) ha hg)]
    unfold Oper.wp
    rw [h a ha _ rfl rfl]
    exact hK _ _ hq (hk _ (ha.put hd v))
--@ rule append l wl_appBm
theorem wl_appBm (T : U8 P t) {s m : List UInt8} (hx : fr.ev x = some (.slice A n c)) (hown : OwnH w lo hi A c s) (hn : n = s.length) (hy : fr.ev y = some (.slice X j q)) (hr : Rd w X m) (hj : j = m.length) (hlen : s.length + m.length ≤ 4000000000) (hB : lo ≤ w.heap.size)
    (h : ∀ A' c' w', OwnH w' lo w'.heap.size A' c' (s ++ m) → Grew w w' 5 (blk A) → Below lo w w' → WL P fn F N ks ops tg.tail l ((d, .slice A' (s ++ m).length c') :: fr) w')
    (ht : tg.loud = true := by rfl) (hg : onG ops fr gd = true := by rfl) (hd : Nat.blt d N = true := by rfl) (hq : tg.calm = false ∨ tg.rw.may (blk A) := by exact .inl rfl) :
    WL P fn F N ks ops tg (⟨some d, .call { callee := .builtin .append, args := #[x, y], argTypes := #[t, t] }, ty, pos, aft, gd⟩ :: l) fr w := by
  subst hn; subst hj
  obtain ⟨A', c', w', hrun, h1, h2, h3, h4⟩ := run_app (P := P) w T (ty := ty) hown.o (k := q) hr (by omega) hB
  exact wl_vR (o_builtin (xs := [x, y]) (vs := [.slice A s.length c, .slice X m.length q]) (by simp [Fr.evs, hx, hy]) (by simp [builtin, hrun]) (by simp)) (h A' c' w' h1.h_ ⟨h2, RowH.ty hown⟩ h4) ht hg hd (hq.imp id fun e => Rw.of_may h2 e)
end
/-- What a change to a block that is not the item's own leaves as it is. -/
def stablesE (B e p : Nat) : List Item → Nat → Prop
  | [], _ => True
  | it :: r, i => (bif Nat.beq i e || Nat.beq i p then True else ∀ vs w w' row lo hi, it.φ vs w lo hi → w.grownBy w' row → (∀ k, row = some k → B ≤ k ∧ (k < lo ∨ hi ≤ k)) → it.φ vs w' lo hi) ∧ stablesE B e p r (i + 1)
theorem stablesE_spec {B e p : Nat} : ∀ {l : List Item} {i0 : Nat}, stablesE B e p l i0 → ∀ i it, nthI l i = some it → i0 + i ≠ e → i0 + i ≠ p → ∀ vs w w' row lo hi, it.φ vs w lo hi → w.grownBy w' row → (∀ k, row = some k → B ≤ k ∧ (k < lo ∨ hi ≤ k)) → it.φ vs w' lo hi
  | x :: r, i0, h, i, it, hi, he, hp => by
    cases i with
    | zero =>
      injection hi with hi; subst hi
      have h1 := h.1
      rw [Nat.add_zero] at he hp
      have e1 : (Nat.beq i0 e || Nat.beq i0 p) = false := by
        rw [Bool.or_eq_false_iff]
        refine ⟨?_, ?_⟩
        · cases hb : Nat.beq i0 e with
          | false => rfl
          | true => exact absurd (Nat.eq_of_beq_eq_true hb) he
        · cases hb : Nat.beq i0 p with
          | false => rfl
          | true => exact absurd (Nat.eq_of_beq_eq_true hb) hp
      rw [e1] at h1
      exact h1
    | succ i => exact stablesE_spec h.2 i it hi (by omega) (by omega)
/-- What an item looks at. -/
def useE (its : List Item) (e p i : Nat) (it : Item) : List Nat := bif Nat.beq i e || inN i (match nthI its e with | some x => x.pre | none => []) then it.pre else it.pre.filter (fun q => !Nat.beq q p)
/-- Where the operations at its have come to (those whose bits are in T). -/
structure ConcStE (its : List Item) (N : Nat) (fr : Fr) (w0 : World) (m T p ke : Nat) (a : Act) (w : World) (lo hi : Nat → Nat) (vv : Nat → List Value) : Prop where
  rep : Rep N a fr
  bel : Below w0.heap.size w0 w
  low : ∀ j, m.testBit j = true → T.testBit j = true
  up : ∀ j, T.testBit j = true → m.testBit j = true ∨ ∃ it ∈ its, j ∈ it.idx
  whole : ∀ it ∈ its, ∀ j ∈ it.idx, T.testBit j = T.testBit it.k
  f : ∀ i it, nthI its i = some it → T.testBit it.k = true → (i = p → T.testBit ke = false) → Rep N a (it.ds.zip (vv i)) ∧ it.φ (vv i) w (lo i) (hi i) ∧ w0.heap.size ≤ lo i ∧ lo i ≤ hi i ∧ hi i ≤ w.heap.size
  ap : ∀ i j it it', nthI its i = some it → nthI its j = some it' → T.testBit it.k = true → T.testBit it'.k = true → (i = p → T.testBit ke = false) → (j = p → T.testBit ke = false) → i ≠ j → hi i ≤ lo j ∨ hi j ≤ lo i
section
variable {P : Program} {fn : Func} {F : Ending → World → Prop} {N : Nat} {ks : List K} {ops : List Oper} {fr : Fr} {w : World} {row : Rw} {L C : Nat}
def stepU (P : Program) (fn : Func) (F : Ending → World → Prop) (N : Nat) (ks : List K) (ops : List Oper) (fr : Fr) (w : World) (row : Rw) (L C : Nat) (its : List Item) (use : List Nat) (it : Item) : Prop :=
  ∀ (w' : World), Below w.heap.size w w' → ∀ (fo : Fr) (T T2 n2 : Nat), given its w' w.heap.size use [] (fr ++ fo) fun fr' =>
    (∀ (vs : List Value) (w'' : World), it.φ vs w'' w'.heap.size w''.heap.size → Below w'.heap.size w' w'' → WL P fn F N ks ops.toArray (some (row, [(.f T2 L C, n2)])) [] (it.ds.zip vs ++ fr') w'') →
    WL P fn F N ks ops.toArray (some (row, (.g T L C, it.k) :: (it.ps ++ [(.f T2 L C, n2)]))) (inOrder ops it.idx) fr' w'
/-- The step of the one that changes what the item y made. -/
def stepE (P : Program) (fn : Func) (F : Ending → World → Prop) (N : Nat) (ks : List K) (ops : List Oper) (fr : Fr) (w : World) (row : Rw) (L C : Nat) (its : List Item) (p : Nat) (y it : Item) : Prop :=
  ∀ (w' : World), Below w.heap.size w w' → ∀ (fo : Fr) (T T2 n2 : Nat) (vsp : List Value) (lop hip : Nat), y.φ vsp w' lop hip → w.heap.size ≤ lop → lop ≤ hip → hip ≤ w'.heap.size →
    given its w' w.heap.size (it.pre.filter (fun q => !Nat.beq q p)) [(lop, hip)] (y.ds.zip vsp ++ (fr ++ fo)) fun fr' =>
    (∀ (vs : List Value) (w'' : World) (g : Option Nat), it.φ vs w'' w''.heap.size w''.heap.size → w'.grownBy w'' g → (∀ k, g = some k → lop ≤ k ∧ k < hip) → WL P fn F N ks ops.toArray (some (row, [(.f T2 L C, n2)])) [] (it.ds.zip vs ++ fr') w'') →
    WL P fn F N ks ops.toArray (some (row, (.g T L C, it.k) :: (it.ps ++ [(.f T2 L C, n2)]))) (inOrder ops it.idx) fr' w'
def stepsE (P : Program) (fn : Func) (F : Ending → World → Prop) (N : Nat) (ks : List K) (ops : List Oper) (fr : Fr) (w : World) (row : Rw) (L C : Nat) (its : List Item) (e p : Nat) : List Item → Nat → Prop
  | [], _ => True
  | it :: r, i => (bif Nat.beq i e then (match nthI its p with | some y => stepE P fn F N ks ops fr w row L C its p y it | none => False) else stepU P fn F N ks ops fr w row L C its (useE its e p i it) it) ∧ stepsE P fn F N ks ops fr w row L C its e p r (i + 1)
theorem stepsE_u {its : List Item} {e p : Nat} : ∀ {r : List Item} {i0 : Nat}, stepsE P fn F N ks ops fr w row L C its e p r i0 → ∀ i it, nthI r i = some it → i0 + i ≠ e → stepU P fn F N ks ops fr w row L C its (useE its e p (i0 + i) it) it
  | x :: r, i0, h, i, it, hi, he => by
    cases i with
    | zero =>
      injection hi with hi; subst hi
      have h1 := h.1
      rw [Nat.add_zero] at he ⊢
      have e1 : Nat.beq i0 e = false := by
        cases hb : Nat.beq i0 e with
        | false => rfl
        | true => exact absurd (Nat.eq_of_beq_eq_true hb) he
      rw [e1] at h1
      exact h1
    | succ i =>
      have := stepsE_u h.2 i it hi (by omega)
      rwa [show i0 + 1 + i = i0 + (i + 1) by omega] at this
theorem stepsE_e {its : List Item} {e p : Nat} {y : Item} (hy : nthI its p = some y) : ∀ {r : List Item} {i0 : Nat}, stepsE P fn F N ks ops fr w row L C its e p r i0 → ∀ i it, nthI r i = some it → i0 + i = e → stepE P fn F N ks ops fr w row L C its p y it
  | x :: r, i0, h, i, it, hi, he => by
    cases i with
    | zero =>
      injection hi with hi; subst hi
      have h1 := h.1
      rw [Nat.add_zero] at he
      subst he
      rw [show Nat.beq i0 i0 = true by simp, hy] at h1
      exact h1
    | succ i => exact stepsE_e hy h.2 i it hi (by omega)
def chkE (its : List Item) (all : List Nat) (e p : Nat) : Bool :=
  (match nthI its e with | some x => inN p x.pre | none => false) && (!Nat.beq e p && all.all (fun q => !Nat.beq q p))
theorem wl_concE {m n : Nat} (e p : Nat) (its : List Item) (all D A ordR : List Nat) (tsR : List (Tag × Nat)) (hD : ops.map (dmask .any) = D) (hA : ancs .any ops [] = A) (hc : (chkE its all e p && chkC ops its all D A L C m n fr ordR tsR) = true)
    (hlR : (inOrder ops ordR).map some = opsOf ops.toArray tsR) (hst : stables its) (hstE : stablesE w.heap.size e p its 0) (hstep : stepsE P fn F N ks ops fr w row L C its e p its 0)
    (hend : ∀ w', Below w.heap.size w w' → given its w' w.heap.size all [] fr fun fr' => WL P fn F N ks ops.toArray (some (row, tsR)) (inOrder ops ordR) fr' w') :
    WL P fn F N ks ops.toArray (some (row, [(.f m L C, n)])) [] fr w := by
  simp only [chkC, chkE, Bool.and_eq_true, List.all_eq_true] at hc
  obtain ⟨⟨x1, x2, x3⟩, c1, c2, c3, c4, c5, c6, c8, c9⟩ := hc
  have hI := fun i it hi => chkI_spec c1 i it hi
  have hJ := fun j d hd => chkJ_spec c4 j d hd
  obtain ⟨d1, d2⟩ := disjN_spec c2
  obtain ⟨e1, e2⟩ := disjD_spec c3
  have hstab := stables_spec hst
  have hstabE := fun i it hi => stablesE_spec hstE i it hi
  obtain ⟨xe, hxe, hpe⟩ : ∃ xe, nthI its e = some xe ∧ p ∈ xe.pre := by
    cases hx : nthI its e with
    | none => rw [hx] at x1; cases x1
    | some xe => rw [hx] at x1; exact ⟨xe, rfl, inN_iff.1 x1⟩
  have hep : e ≠ p := fun h => by subst h; simp at x2
  have hallp : ∀ q ∈ all, q ≠ p := fun q hq h => by have := x3 q hq; subst h; simp at this
  obtain ⟨base, hbase⟩ : ∃ b, (inOrder ops ordR).length + extra tsR = b := ⟨_, rfl⟩
  have hn := Nat.eq_of_beq_eq_true c8
  rw [hbase] at hn
  subst hn
  have hfr : ∀ it ∈ its, ∀ d ∈ it.ds, fr.get d = none := fun it hit d hd => by
    refine (Fr.get_none_iff fr d).2 ?_
    cases hb : inN d (fr.map Prod.fst) with
    | false => rfl
    | true => exact absurd (inN_iff.1 hb) (e1 it hit d hd)
  have main : ∀ (f T : Nat) (a : Act) (w' : World) (lo hi : Nat → Nat) (vv : Nat → List Value), f = fuelOf T its → ConcStE its N fr w m T p xe.k a w' lo hi vv → Left P (kpost P fn F ks) ops.toArray (some (row, [(.f T L C, base + f)])) [] a w' := by
    intro f
    induction f using Nat.strongRecOn with
    | _ f ih =>
      intro T a w' lo hi vv hf hS
      intro D' A' L' C' listed m' hm _ hchk
      unfold chk at hchk
      simp only [Bool.and_eq_true] at hchk
      obtain ⟨hm1, hL1, hC1⟩ := hchk
      obtain rfl := Nat.eq_of_beq_eq_true hm1
      obtain rfl := Nat.eq_of_beq_eq_true hL1
      obtain rfl := Nat.eq_of_beq_eq_true hC1
      obtain rfl : D' = D := by rw [hm.D, ← hD]
      obtain rfl : A' = A := by rw [hm.A, ← hA]
      show wpMix P .any ops.toArray _ _ _ row (0 + (base + f)) listed a w'
      rw [Nat.zero_add]
      have hbefore : ∀ j i, (A'.getD j 0).testBit i = true → Before .any ops.toArray i j := by
        rw [hm.A]
        exact ancs_spec ops.toArray.toList [] (fun j => by simp) (fun j i hb => by simp at hb)
      -- what is ahead of a ready operation is through
      have hahead : ∀ j ∈ Region.ready .any ops.toArray listed, ∀ b, (A'.getD j 0).testBit b = true → b = j ∨ m'.testBit b = true := fun j hj b hb => by
        by_cases e : b = j
        · exact .inl e
        · refine .inr ?_
          have hlt : j < listed.size := by
            have h0 := (mem_ready.1 hj).1
            rcases Nat.lt_or_ge j listed.size with h | h
            · exact h
            · simp [Array.getElem?_eq_none h] at h0
          have h1 := hbefore j b hb _ (hm.closed.set hj) (by simp [hlt])
          rw [getD_set_ne false (Ne.symm e)] at h1
          rw [← hm.bits]; exact h1
      by_cases hall : ∀ it ∈ its, m'.testBit it.k = true
      · -- all through
        have hf0 : f = 0 := by rw [hf, fuel_zero hall]
        subst hf0
        have hT : m' = allMask m its := Nat.eq_of_testBit_eq fun j => by
          cases h1 : m'.testBit j with
          | true => exact (allMask_bit.2 (hS.up j h1)).symm
          | false =>
            cases h2 : (allMask m its).testBit j with
            | false => rfl
            | true =>
              rcases allMask_bit.1 h2 with h3 | ⟨it, h3, h4⟩
              · rw [hS.low j h3] at h1; cases h1
              · rw [hS.whole it h3 j h4, hall it h3] at h1; cases h1
        have hpos : ∀ p ∈ all, ∃ it, nthI its p = some it := fun p hp => by
          have hlt : p < its.length := by have := c6 p hp; simpa using this
          exact nthI_some hlt
        obtain ⟨fr', k1, _, k2⟩ := given_elim (its := its) (lo := lo) (hi := hi) (vv := vv) all [] fr _ hS.rep (fun p hp => by
          obtain ⟨it, hit⟩ := hpos p hp
          obtain ⟨h1, h2, h3, h4, h5⟩ := hS.f p it hit (hall it (nthI_mem hit)) (fun h => absurd h (hallp _ hp))
          exact ⟨it, hit, h1, h2, h3, h4, h5⟩) (List.Pairwise.imp_of_mem (fun {p q} hp hq hpq => by
            obtain ⟨it, hit⟩ := hpos p hp
            obtain ⟨it', hit'⟩ := hpos q hq
            exact hS.ap p q it it' hit hit' (hall it (nthI_mem hit)) (hall it' (nthI_mem hit')) (fun h => absurd h (hallp _ hp)) (fun h => absurd h (hallp _ hq)) (by omega)) (incrN_spec c5)) (fun q hq => by cases hq) (hend w' hS.bel)
        have := left_elim (k2 a k1) hm hlR (by rw [hT]; exact c9)
        rw [hbase] at this
        simpa using this
      · -- the first item that is left is ready
        obtain ⟨i0, it0, hi0, hu0, hmin⟩ : ∃ i it, nthI its i = some it ∧ m'.testBit it.k = false ∧ ∀ j, j < i → ∀ x, nthI its j = some x → m'.testBit x.k = true := by
          refine Classical.byContradiction fun hno => hall fun it hit => ?_
          obtain ⟨i, _, hi'⟩ := nthI_of_mem hit
          have key : ∀ i it, nthI its i = some it → m'.testBit it.k = true := by
            intro i
            induction i using Nat.strongRecOn with
            | _ i ihi =>
              intro it hit
              cases hb : m'.testBit it.k with
              | true => rfl
              | false => exact absurd ⟨i, it, hit, hb, fun j hj x hx => ihi j hj x hx⟩ hno
          exact key i it hi'
        have hsub : ∀ it, it ∈ its → (∀ p ∈ it.pre, ∀ x, nthI its p = some x → m'.testBit x.k = true) → ∀ j, (m ||| preMask its it.pre).testBit j = true → m'.testBit j = true := fun it hit hp j hj => by
          rw [Nat.testBit_or, Bool.or_eq_true] at hj
          rcases hj with hj | hj
          · exact hS.low j hj
          · obtain ⟨p, h1, x, h2, h3⟩ := preMask_bit hj
            rw [hS.whole x (nthI_mem h2) j h3]
            exact hp p h1 x h2
        have hrdy0 : it0.k ∈ Region.ready .any ops.toArray listed := hm.ready (rdyK_mono (hsub it0 (nthI_mem hi0) fun p hp x hx => hmin p (by have := ((hI i0 it0 hi0).2.1 p hp).1; omega) x hx) hu0 (hI i0 it0 hi0).2.2.2.1)
        obtain ⟨f', hf'⟩ : ∃ f', f = f' + 1 := by
          have := fuel_step (T := m') (T2 := m' ||| it0.mask) hi0 hu0 (by rw [Nat.testBit_or, show it0.mask.testBit it0.k = true from bitsOf_bit.2 (by simp [Item.idx])]; simp) (fun i' it' hi' hne => by
            rw [Nat.testBit_or]
            cases hb : it0.mask.testBit it'.k with
            | false => simp
            | true => exact absurd (bitsOf_bit.1 hb) (d2 i' i0 it' it0 hi' hi0 hne it'.k (by simp [Item.idx])))
          exact ⟨fuelOf (m' ||| it0.mask) its + it0.ps.length, by omega⟩
        rw [hf', ← Nat.add_assoc]
        refine ⟨fun h => (by rw [h] at hrdy0; cases hrdy0), fun j hj => ?_⟩
        -- which one it is
        obtain ⟨hjun, oj, hoj, hjall⟩ := mem_ready.1 hj
        have hjlt : j < ops.toArray.size := (Array.getElem?_eq_some_iff.1 hoj).1
        have hju : m'.testBit j = false := by rw [← hm.getD hjlt]; exact hjun
        have hDj := hm.dAt hoj
        obtain ⟨i, it, hi', rfl⟩ : ∃ i it, nthI its i = some it ∧ it.k = j := by
          rcases hJ j _ hDj with h1 | ⟨it, h1, h2⟩ | h1
          · rw [Nat.zero_add] at h1; rw [hS.low j h1] at hju; cases hju
          · obtain ⟨i, _, hi'⟩ := nthI_of_mem h1
            rw [Nat.zero_add] at h2
            rcases h2 with h2 | ⟨h2, b, h3, h4⟩
            · exact ⟨i, it, hi', h2⟩
            · exfalso
              have h5 : m'.testBit b = true := by
                obtain ⟨e, he, hb, rfl⟩ := dmask_bit.1 h3
                rw [← hm.bits]; exact hjall e he hb
              have h6 := hS.whole it h1 b h4
              have h7 := hS.whole it h1 j (by simp [Item.idx, h2])
              rw [h5] at h6; rw [← h6, hju] at h7; cases h7
          · exfalso
            rw [Nat.zero_add] at h1
            obtain ⟨⟨b, h2, h3⟩, h5⟩ := h1 it0 (nthI_mem hi0)
            rcases hahead j hj b h2 with h4 | h4
            · subst h4; exact h5 h3
            · rw [hS.whole it0 (nthI_mem hi0) b h3, hu0] at h4; cases h4
        obtain ⟨q1, q2, q3, q4, q5, q6⟩ := hI i it hi'
        have hit := nthI_mem hi'
        rw [if_pos q1]
        have hpre : ∀ p ∈ it.pre, ∃ x, nthI its p = some x ∧ m'.testBit x.k = true := fun p hp => by
          obtain ⟨h1, b, h2, x, h3, h4⟩ := q2 p hp
          refine ⟨x, h3, ?_⟩
          rcases hahead it.k hj b h2 with h5 | h5
          · subst h5; exact absurd h4 (d2 i p it x hi' h3 (by omega) _ (by simp [Item.idx]))
          · rw [← hS.whole x (nthI_mem h3) b h4]; exact h5
        have hsb := hsub it hit (fun p hp x hx => by
          obtain ⟨y, h1, h2⟩ := hpre p hp
          rw [hx] at h1; injection h1 with h1; rw [h1]; exact h2)
        obtain ⟨fo, hfo, hfo2⟩ := dump_ex hS.rep
        obtain ⟨T2, hT2⟩ : ∃ T2, maskAfter it.ps (m' ||| 2 ^ it.k) = T2 := ⟨_, rfl⟩
        have hT2b : ∀ j, T2.testBit j = true ↔ m'.testBit j = true ∨ j ∈ it.idx := fun j => by
          rw [← hT2, maskAfter_bit, bit_lor, Item.idx, List.mem_cons]
          constructor
          · rintro ((h | h) | h)
            · exact .inl h
            · exact .inr (.inl h.symm)
            · exact .inr (.inr h)
          · rintro (h | h | h)
            · exact .inl (.inl h)
            · exact .inl (.inr h.symm)
            · exact .inr h
        have hT2k : T2.testBit it.k = true := (hT2b _).2 (.inr (by simp [Item.idx]))
        have hT2o : ∀ i' it', nthI its i' = some it' → i' ≠ i → ∀ j ∈ it'.idx, T2.testBit j = m'.testBit j := fun i' it' hi2 hne j hj => by
          cases hb : m'.testBit j with
          | true => exact (hT2b j).2 (.inl hb)
          | false =>
            cases hb2 : T2.testBit j with
            | false => rfl
            | true =>
              rcases (hT2b j).1 hb2 with h | h
              · rw [hb] at h; cases h
              · exact absurd h (d2 i' i it' it hi2 hi' hne j hj)
        have hfuel := fuel_step (T := m') (T2 := T2) hi' hju hT2k (fun i' it' hi2 hne => hT2o i' it' hi2 hne it'.k (by simp [Item.idx]))
        -- where an item that is through was ahead of another one that is through
        have hdone : ∀ q y, nthI its q = some y → m'.testBit y.k = true → ∀ r ∈ y.pre, ∀ x, nthI its r = some x → m'.testBit x.k = true := fun q y hy hb r hr x hx => by
          obtain ⟨h1, b, h2, x', h3, h4⟩ := (hI q y hy).2.1 r hr
          rw [hx] at h3; injection h3 with h3; subst h3
          have hb2 : listed.getD y.k false = true := by rw [hm.bits]; exact hb
          have := hbefore y.k b h2 listed hm.closed hb2
          rw [hm.bits] at this
          rw [← hS.whole x (nthI_mem hx) b h4]; exact this
        have hkeepF : ∀ (fr' : Fr), Rep N a fr' → (∀ t, fr'.get t = none → (fr ++ fo).get t = none) → ∀ t v, a.tmps[t]? = some v → fr'.get t = some v := fun fr' k1 k2 t v hv => by
          cases hg : fr'.get t with
          | some u => rw [← hv]; exact (k1.get t u hg).symm
          | none =>
            have h1 := k2 t hg
            rw [Fr.get_append, hfo2 t v hv] at h1
            cases h2 : fr.get t <;> rw [h2] at h1 <;> cases h1
        -- the state behind the step
        have after : ∀ (fr' : Fr) (vs : List Value) (w'' : World) (g : Option Nat) (l2 h2 : Nat) (a' : Act), (∀ t v, a.tmps[t]? = some v → fr'.get t = some v) → Rep N a' (it.ds.zip vs ++ fr') → it.φ vs w'' l2 h2 → w'.grownBy w'' g →
            (w'.heap.size ≤ l2 ∧ l2 ≤ h2 ∧ h2 ≤ w''.heap.size) → (g = none ∨ (i = e ∧ (∀ k, g = some k → lo p ≤ k ∧ k < hi p) ∧ ∀ y, nthI its p = some y → m'.testBit y.k = true)) →
            ConcStE its N fr w m T2 p xe.k a' w'' (fun j => if j = i then l2 else lo j) (fun j => if j = i then h2 else hi j) (fun j => if j = i then vs else vv j) := by
          intro fr' vs w'' g l2 h2 a' hkeep ha' hφ hgr hl2 hgc
          have hkeep' : ∀ t v, a.tmps[t]? = some v → t ∉ it.ds → a'.tmps[t]? = some v := fun t v hv ht => by
            refine ha'.get t v ?_
            rw [Fr.get_append]
            cases hz : Fr.get (it.ds.zip vs) t with
            | some u => exact absurd (zip_get hz) ht
            | none => exact hkeep t v hv
          have hss := hgr.size
          have hs0 := hS.bel.size
          have hxu : i = e → m'.testBit xe.k = false := fun h => by
            subst h; rw [hi'] at hxe; injection hxe with hxe; rw [← hxe]; exact hju
          have hglow : ∀ k, g = some k → w.heap.size ≤ k := fun k hk => by
            rcases hgc with h | ⟨h1, h3, h4⟩
            · rw [h] at hk; cases hk
            · obtain ⟨y, hy, _⟩ := hpre p (by subst h1; rw [hi'] at hxe; injection hxe with hxe; rw [hxe]; exact hpe)
              have := (hS.f p y hy (h4 y hy) (fun _ => hxu h1)).2.2.1
              have := (h3 k hk).1
              omega
          have h2e : T2.testBit xe.k = false → m'.testBit xe.k = false := fun h => by
            cases hb : m'.testBit xe.k with
            | false => rfl
            | true => rw [(hT2b _).2 (.inl hb)] at h; cases h
          refine ⟨⟨ha'.size, ha'.defers, fun t v hv => hkeep' t v (hS.rep.get t v hv) (fun hd => by rw [hfr it hit t hd] at hv; cases hv)⟩, hS.bel.grown hgr hs0 hglow, fun j hj => (hT2b j).2 (.inl (hS.low j hj)), fun j hj => ?_, fun it' hit' j hj => ?_, fun i' it' hi2 hb2 hlive => ?_, fun i1 i2 x y hx hy hbx hby hlx hly hne => ?_⟩
          · rcases (hT2b j).1 hj with h | h
            · exact hS.up j h
            · exact .inr ⟨it, hit, h⟩
          · obtain ⟨i', _, hi2⟩ := nthI_of_mem hit'
            by_cases e : i' = i
            · subst e
              rw [hi'] at hi2; injection hi2 with hi2; subst hi2
              rw [hT2k, (hT2b j).2 (.inr hj)]
            · rw [hT2o i' it' hi2 e j hj, hT2o i' it' hi2 e it'.k (by simp [Item.idx])]
              exact hS.whole it' hit' j hj
          · by_cases e0 : i' = i
            · subst e0
              rw [hi'] at hi2; injection hi2 with hi2; subst hi2
              simp only [if_true]
              refine ⟨⟨ha'.size, ha'.defers, fun t v hv => ha'.get t v ?_⟩, hφ, by omega, by omega, by omega⟩
              rw [Fr.get_append, hv]
            · simp only [if_neg e0]
              rw [hT2o i' it' hi2 e0 it'.k (by simp [Item.idx])] at hb2
              obtain ⟨h1, h2, h3, h4, h5⟩ := hS.f i' it' hi2 hb2 (fun h => h2e (hlive h))
              refine ⟨⟨ha'.size, ha'.defers, fun t v hv => hkeep' t v (h1.get t v hv) (fun hd => ?_)⟩, ?_, h3, h4, by omega⟩
              · exact e2 i' i it' it hi2 hi' e0 t (zip_get hv) hd
              · rcases hgc with hg | ⟨hie, hgk, hpd⟩
                · rw [hg] at hgr
                  exact hstab it' (nthI_mem hi2) _ _ _ _ _ h2 (below_of_grown_none hgr)
                · have hip : i' ≠ p := fun h => by
                    have := hlive h
                    subst hie
                    rw [hi'] at hxe; injection hxe with hxe; rw [← hxe, hT2k] at this; cases this
                  have hie' : i' ≠ e := fun h => e0 (h.trans hie.symm)
                  refine hstabE i' it' hi2 (by omega) (by omega) _ _ _ _ _ _ h2 hgr (fun k hk => ⟨hglow k hk, ?_⟩)
                  obtain ⟨y, hy, _⟩ := hpre p (by subst hie; rw [hi'] at hxe; injection hxe with hxe; rw [hxe]; exact hpe)
                  have hb3 := hgk k hk
                  have := hS.ap i' p it' y hi2 hy hb2 (hpd y hy) (fun h => absurd h hip) (fun _ => hxu hie) hip
                  omega
          · by_cases ex : i1 = i
            · subst ex
              have ey : i2 ≠ i1 := Ne.symm hne
              simp only [if_true, if_neg ey]
              rw [hT2o i2 y hy ey y.k (by simp [Item.idx])] at hby
              have := (hS.f i2 y hy hby (fun h => h2e (hly h))).2.2.2.2
              exact .inr (by omega)
            · by_cases ey : i2 = i
              · subst ey
                simp only [if_true, if_neg ex]
                rw [hT2o i1 x hx ex x.k (by simp [Item.idx])] at hbx
                have := (hS.f i1 x hx hbx (fun h => h2e (hlx h))).2.2.2.2
                exact .inl (by omega)
              · simp only [if_neg ex, if_neg ey]
                rw [hT2o i1 x hx ex x.k (by simp [Item.idx])] at hbx
                rw [hT2o i2 y hy ey y.k (by simp [Item.idx])] at hby
                exact hS.ap i1 i2 x y hx hy hbx hby (fun h => h2e (hlx h)) (fun h => h2e (hly h)) hne
        have hL : Left P (kpost P fn F ks) ops.toArray (some (row, (.g m' L' C', it.k) :: (it.ps ++ [(.f T2 L' C', base + fuelOf T2 its)]))) (inOrder ops it.idx) a w' := by
          by_cases hie : i = e
          · have hite : it = xe := by subst hie; rw [hi'] at hxe; injection hxe
            obtain ⟨y, hy, hyb⟩ := hpre p (by rw [hite]; exact hpe)
            have hux : m'.testBit xe.k = false := by rw [← hite]; exact hju
            obtain ⟨g1, g2, g3, g4, g5⟩ := hS.f p y hy hyb (fun _ => hux)
            have hst2 := stepsE_e hy hstep i it hi' (by omega) w' hS.bel fo m' T2 (base + fuelOf T2 its) (vv p) (lo p) (hi p) g2 g3 g4 g5
            have hmem : ∀ q ∈ it.pre.filter (fun q => !Nat.beq q p), q ∈ it.pre ∧ q ≠ p := fun q hq => by
              obtain ⟨h1, h2⟩ := List.mem_filter.1 hq
              exact ⟨h1, fun h => by subst h; simp at h2⟩
            obtain ⟨fr', k1, k2, k3⟩ := given_elim (its := its) (lo := lo) (hi := hi) (vv := vv) (it.pre.filter (fun q => !Nat.beq q p)) [(lo p, hi p)] (y.ds.zip (vv p) ++ (fr ++ fo)) _ (g1.append (hS.rep.append hfo)) (fun q hq => by
              obtain ⟨x, hx, hb⟩ := hpre q (hmem q hq).1
              obtain ⟨h1, h2, h3, h4, h5⟩ := hS.f q x hx hb (fun _ => hux)
              exact ⟨x, hx, h1, h2, h3, h4, h5⟩) (List.Pairwise.imp_of_mem (fun {q r} hq hr hqr => by
                obtain ⟨x, hx, hb⟩ := hpre q (hmem q hq).1
                obtain ⟨z, hz, hb'⟩ := hpre r (hmem r hr).1
                exact hS.ap q r x z hx hz hb hb' (fun _ => hux) (fun _ => hux) (by omega)) (q3.filter _)) (fun r hr q hq => by
                  rw [List.mem_singleton] at hr; subst hr
                  obtain ⟨x, hx, hb⟩ := hpre q (hmem q hq).1
                  exact hS.ap p q y x hy hx hyb hb (fun _ => hux) (fun _ => hux) (Ne.symm (hmem q hq).2)) hst2
            refine k3 (fun vs w'' g hφ hgr hg a' ha' => ?_) a k1
            refine ih (fuelOf T2 its) (by omega) T2 a' w'' _ _ _ rfl (after fr' vs w'' g w''.heap.size w''.heap.size a' (hkeepF fr' k1 (fun t ht => ?_)) ha' hφ hgr ⟨hgr.size, Nat.le_refl _, Nat.le_refl _⟩ (.inr ⟨hie, hg, fun z hz => by rw [hy] at hz; injection hz with hz; rw [← hz]; exact hyb⟩))
            have := k2 t ht
            rw [Fr.get_append] at this
            cases hc : Fr.get (y.ds.zip (vv p)) t with
            | some u => rw [hc] at this; cases this
            | none => rw [hc] at this; exact this
          · have hmem : ∀ q ∈ useE its e p i it, q ∈ it.pre ∧ (q = p → m'.testBit xe.k = false) := fun q hq => by
              unfold useE at hq
              rw [hxe] at hq
              cases hc : (Nat.beq i e || inN i xe.pre) with
              | true =>
                rw [show (match some xe with | some x => x.pre | none => []) = xe.pre from rfl, hc] at hq
                refine ⟨hq, fun _ => ?_⟩
                rw [Bool.or_eq_true] at hc
                rcases hc with hc | hc
                · exact absurd (Nat.eq_of_beq_eq_true hc) hie
                · cases hb : m'.testBit xe.k with
                  | false => rfl
                  | true =>
                    have := hdone e xe hxe hb i (inN_iff.1 hc) it hi'
                    rw [hju] at this; cases this
              | false =>
                rw [show (match some xe with | some x => x.pre | none => []) = xe.pre from rfl, hc] at hq
                obtain ⟨h1, h2⟩ := List.mem_filter.1 hq
                exact ⟨h1, fun h => by subst h; simp at h2⟩
            have huse3 : (useE its e p i it).Pairwise (· < ·) := by
              unfold useE
              cases (Nat.beq i e || inN i (match nthI its e with | some x => x.pre | none => [])) with
              | true => exact q3
              | false => exact q3.filter _
            have hst2 := stepsE_u hstep i it hi' (by omega)
            rw [Nat.zero_add] at hst2
            obtain ⟨fr', k1, k2, k3⟩ := given_elim (its := its) (lo := lo) (hi := hi) (vv := vv) (useE its e p i it) [] (fr ++ fo) _ (hS.rep.append hfo) (fun q hq => by
              obtain ⟨x, hx, hb⟩ := hpre q (hmem q hq).1
              obtain ⟨h1, h2, h3, h4, h5⟩ := hS.f q x hx hb (hmem q hq).2
              exact ⟨x, hx, h1, h2, h3, h4, h5⟩) (List.Pairwise.imp_of_mem (fun {q r} hq hr hqr => by
                obtain ⟨x, hx, hb⟩ := hpre q (hmem q hq).1
                obtain ⟨z, hz, hb'⟩ := hpre r (hmem r hr).1
                exact hS.ap q r x z hx hz hb hb' (hmem q hq).2 (hmem r hr).2 (by omega)) huse3) (fun q hq => by cases hq) (hst2 w' hS.bel fo m' T2 (base + fuelOf T2 its))
            exact k3 (fun vs w'' hφ hb a' ha' => ih (fuelOf T2 its) (by omega) T2 a' w'' _ _ _ rfl (after fr' vs w'' none w'.heap.size w''.heap.size a' (hkeepF fr' k1 k2) ha' hφ (grown_of_below hb none) ⟨Nat.le_refl _, hb.size, Nat.le_refl _⟩ (.inl rfl))) a k1
        have hmap := inOrder_map q5
        obtain ⟨o, l', hol⟩ : ∃ o l', inOrder ops it.idx = o :: l' := by
          cases h : inOrder ops it.idx with
          | nil => rw [h] at hmap; simp [Item.idx] at hmap
          | cons o l' => exact ⟨o, l', rfl⟩
        rw [hol] at hmap
        have hmap2 : some o = ops.toArray[it.k]? ∧ l'.map some = (it.ps.map Prod.snd).map (fun k => ops.toArray[k]?) := by
          rw [Item.idx, List.map_cons, List.map_cons] at hmap
          exact List.cons.inj hmap
        obtain ⟨o1, o2⟩ := opsOf_ps (ops := ops.toArray) (l := ops.toArray.toList) (n := base + fuelOf T2 its) (T := T2) it.ps _ q6
        have hl' : l'.length = it.ps.length := by have := congrArg List.length hmap2.2; simpa using this
        have fin := hL D' A' listed o l' hol hm hmap2.1.symm (by rw [hmap2.2, o1, List.map_map]; rfl) hj (by
          rw [← hT2]
          exact chk_of_chkP (T := m') it.ps _ _ q6 (fun i hi => by rw [bit_lor] at hi ⊢; exact hi.imp (hsb i) id) (fun i hi => by
            rw [bit_lor] at hi ⊢
            rcases hi with hi | hi
            · exact .inl hi
            · exact .inr (.inr hi)) (fun p hp => by rw [hS.whole it hit p.2 (by simp only [Item.idx, List.mem_cons, List.mem_map]; exact .inr ⟨p, hp, rfl⟩)]; exact hju))
        rw [o2, hl'] at fin
        rw [show base + f' = it.ps.length + (base + fuelOf T2 its) by omega]
        exact fin
  intro a ha
  have h0 : ∀ it ∈ its, m.testBit it.k = false := fun it hit => d1 it hit it.k (by simp [Item.idx])
  exact main _ m a w (fun _ => 0) (fun _ => 0) (fun _ => []) rfl ⟨ha, Below.refl _ _, fun _ h => h, fun _ h => .inl h, fun it hit j hj => by rw [d1 it hit j hj, h0 it hit],
    fun i it hi hb => absurd hb (by rw [h0 it (nthI_mem hi)]; simp), fun i j it it' hi _ hb => absurd hb (by rw [h0 it (nthI_mem hi)]; simp)⟩
end
end Go.Proofs.YtahkeoegbjopfaaGreat
/-
  Walks of package ops: the bytes of one op.
-/
namespace Go.Proofs.YtahkeoegbjopfaaGreat
set_option maxRecDepth 100000
open Go.RowKit
--@ side Tryz.u8
/-- A block. -/
def blkB (p : By) : By := enc p.length ++ p
theorem blkB_le {p : By} {n : Nat} (h : p.length ≤ n) (hn : n ≤ 4000000000) : (blkB p).length ≤ n + 9 := by
  have h1 : (enc p.length).length ≤ 9 := by
    rw [enc_length]; unfold room; (repeat' split) <;> omega
  simp only [blkB, List.length_append]; omega
/-- What an op's bytes are behind its kind. -/
def tailS (k : Int) (p q : By) (u : Ky) : By := if k = 1 then blkB p ++ blkB q else if k = 2 then blkB p else u.1
theorem C_BlockH {A X : Option Addr} {l p : By} {n c k d : Nat} (w : World) (hr : Rd w A l) (hp : Rd w X p) (hn : n = l.length) (hk : k = p.length) (hl : l.length ≤ 4000000000) (hl2 : p.length ≤ 4000000000) :
    CallsR Tryz.prog 119 [.slice A n c, .slice X k d] w fun v w' => ∃ A' c', v = .slice A' (l ++ blkB p).length c' ∧ OwnH w' w.heap.size w'.heap.size A' c' (l ++ blkB p) ∧ Below w.heap.size w w' := by
  subst hn; subst hk
  refine (C_Block (A := A) (l := l) c d w hr hp (by omega)).mono ?_
  rintro v w' ⟨A', c', rfl, h, hb⟩
  rw [List.append_assoc] at h ⊢
  exact ⟨A', c', rfl, h.h_, hb⟩
theorem C_putDelete {A K V : Option Addr} {b p : By} {n c d m q lo hi : Nat} {r : Nat} {k : Int} {u : Ky} (w : World) (hA : OwnH w lo hi A r b) (hK : Rd w K p) (hn : n = p.length) (hb : b.length ≤ 4000000) (hp : p.length ≤ 4000000) (hB : lo ≤ w.heap.size) :
    CallsR Tryz.prog 74 [.slice A b.length r, .agg (opC k K n c V m d u).toArray] w fun v w' => ∃ A' c', v = .slice A' (b ++ blkB p).length c' ∧ OwnH w' w.heap.size w'.heap.size A' c' (b ++ blkB p) ∧ Below w.heap.size w w' := by
  subst hn
  refine callsR Tryz.func74 rfl rfl (by kernel_rfl) rfl ?_
  have hw := Below.refl w.heap.size w
  refine rk_seq ?_
  refine rk_region ?_
  refine wl_boxg _ rfl (by rfl) ?_
  rintro g3 w3 f3 b3 i3 i3_1
  have s3 := b3.size
  replace hw := hw.trans (b3.mono hw.size)
  refine wl_p (fun _ => o_assign rfl) ?_
  refine wl_nil ?_
  refine rk_seq ?_
  refine rk_region ?_
  refine wl_p (fun _ => o_move rfl) ?_
  refine wl_p (fun _ => o_faddr (s := 54) (i := 1) (off := 1) Tryz.underlying54 rfl Tryz.sizeOf39 rfl rfl rfl) ?_
  refine wl_r (o_loadbg Tryz.isAgg39 rfl f3 (by rfl)) ?_
  refine wl_call rfl (C_BlockH _ (hA.u hw).to_Rd (hK.u hw) rfl rfl (by omega) (by omega)) ?_
  rintro v8 w8 ⟨A8, ⟨c8, ⟨rfl, ⟨f8, b8⟩⟩⟩⟩
  have qf8 := f8.cap
  have s8 := b8.size
  replace hw := hw.trans (b8.mono hw.size)
  replace f3 := f3.u b8
  refine wl_p (fun _ => o_assign rfl) ?_
  refine wl_nil ?_
  refine ret1 rfl rfl ?_
  exact ⟨_, _, rfl, f8.base (by omega) (Nat.le_refl _), hw⟩
theorem C_putPut {A K V : Option Addr} {b p q : By} {n c d m lo hi : Nat} {r : Nat} {k : Int} {u : Ky} (w : World) (hA : OwnH w lo hi A r b) (hK : Rd w K p) (hV : Rd w V q) (hn : n = p.length) (hm : m = q.length) (hb : b.length ≤ 4000000) (hp : p.length ≤ 4000000) (hq : q.length ≤ 4000000) (hB : lo ≤ w.heap.size) :
    CallsR Tryz.prog 70 [.slice A b.length r, .agg (opC k K n c V m d u).toArray] w fun v w' => ∃ A' c', v = .slice A' (b ++ blkB p ++ blkB q).length c' ∧ OwnH w' w.heap.size w'.heap.size A' c' (b ++ blkB p ++ blkB q) ∧ Below w.heap.size w w' := by
  subst hn; subst hm
  have n1 := blkB_le (Nat.le_refl p.length) (by omega)
  refine callsR Tryz.func70 rfl rfl (by kernel_rfl) rfl ?_
  have hw := Below.refl w.heap.size w
  refine rk_seq ?_
  refine rk_region ?_
  refine wl_boxg _ rfl (by rfl) ?_
  rintro g3 w3 f3 b3 i3 i3_1
  have s3 := b3.size
  replace hw := hw.trans (b3.mono hw.size)
  refine wl_p (fun _ => o_assign rfl) ?_
  refine wl_nil ?_
  refine rk_seq ?_
  refine rk_drawo (id := 1) (none) [0, 0, 2, 5, 0, 16, 40, 127] [0, 0, 2, 7, 0, 16, 63, 127] 72 8 [0, 1, 2, 4, 5, 3, 6, 7] [(.p, 0), (.p, 1), (.r, 2), (.p, 4), (.s, 5), (.c, 3), (.l, 6), (.p, 7)] (by kernel_rfl) (by kernel_rfl) (by kernel_rfl) (by kernel_rfl) (by kernel_rfl) ?_
  dsimp only [inOrder, nthOp]
  replace hw := hw.drew
  replace f3 := f3.d
  refine wl_p (fun _ => o_move rfl) ?_
  refine wl_p (fun _ => o_faddr (s := 54) (i := 1) (off := 1) Tryz.underlying54 rfl Tryz.sizeOf39 rfl rfl rfl) ?_
  refine wl_r (o_loadbg Tryz.isAgg39 rfl f3 (by rfl)) ?_
  refine wl_p (fun _ => o_faddr (s := 54) (i := 2) (off := 2) Tryz.underlying54 rfl Tryz.sizeOf39 rfl rfl rfl) ?_
  refine wl_s (fun _ hk => (o_loadbg Tryz.isAgg39 rfl (f3.u (below_of_grown_none hk)) (by rfl))) ?_
  refine wl_call rfl (C_BlockH _ (hA.u hw).to_Rd (hK.u hw) rfl rfl (by omega) (by omega)) ?_ (hq := .inr fun _ _ h => grown_of_below h.choose_spec.choose_spec.2.2 _)
  rintro v8 w8 ⟨A8, ⟨c8, ⟨rfl, ⟨f8, b8⟩⟩⟩⟩
  simp only [drew_size] at f8
  simp only [drew_size] at b8
  have qf8 := f8.cap
  have s8 := b8.size
  simp only [drew_size] at s8
  replace hw := hw.trans (b8.mono hw.size)
  replace f3 := f3.u b8
  refine wl_call rfl (C_BlockH _ f8.to_Rd (hV.u hw) rfl rfl (by simp; omega) (by omega)) ?_
  rintro v11 w11 ⟨A11, ⟨c11, ⟨rfl, ⟨f11, b11⟩⟩⟩⟩
  have qf11 := f11.cap
  have s11 := b11.size
  replace hw := hw.trans (b11.mono hw.size)
  replace f3 := f3.u b11
  replace f8 := f8.u b11
  refine wl_p (fun _ => o_assign rfl) ?_
  refine wl_nild ?_
  refine ret1 rfl rfl ?_
  exact ⟨_, _, rfl, f11.base (by omega) (Nat.le_refl _), hw⟩
theorem who_rd {w : World} {g : Nat} {t : TypeId} {k : Int} {K V : Option Addr} {n c m d : Nat} {u : Ky} (hB : Blk w g t (opC k K n c V m d u)) : Rd w (some ⟨g, 0 + 3, none⟩) u.1 := by
  refine ⟨by rw [B8_length, Nat.mul_one], fun _ => ⟨g, 0 + 3, rfl, fun j v hj => ?_⟩⟩
  rw [hB.cell, show 0 + 3 + j = j + 3 by omega]
  exact hj
theorem C_putWho {A K V : Option Addr} {b : By} {n c d m lo hi : Nat} {r : Nat} {k : Int} {u : Ky} (w : World) (hA : OwnH w lo hi A r b) (hb : b.length ≤ 4000000) (hB : lo ≤ w.heap.size) :
    CallsR Tryz.prog 78 [.slice A b.length r, .agg (opC k K n c V m d u).toArray] w fun v w' => ∃ A' c', v = .slice A' (b ++ u.1).length c' ∧ OwnH w' lo w'.heap.size A' c' (b ++ u.1) ∧ Grew w w' 5 (blk A) ∧ Below lo w w' := by
  refine callsR Tryz.func78 rfl rfl (by kernel_rfl) rfl ?_
  have hw := Below.refl w.heap.size w
  refine rk_seq ?_
  refine rk_region ?_
  refine wl_boxg _ rfl (by rfl) ?_
  rintro g3 w3 f3 b3 i3 i3_1
  have s3 := b3.size
  replace hw := hw.trans (b3.mono hw.size)
  refine wl_p (fun _ => o_assign rfl) ?_
  refine wl_nil ?_
  refine rk_seq ?_
  refine rk_region ?_
  refine wl_p (fun _ => o_move rfl) ?_
  refine wl_p (fun _ => o_faddr (s := 54) (i := 3) (off := 3) Tryz.underlying54 rfl Tryz.sizeOf42 rfl rfl rfl) ?_
  refine wl_p (fun _ => o_slice_arr (t := 42) Tryz.underlying42 Tryz.sizeOf5 rfl) ?_
  have fA := hA.u hw
  have hU := who_rd f3
  refine wl_appBm Tryz.u8 rfl fA rfl rfl hU u.2.symm (by have := u.2; omega) (by omega) ?_
  intro A8 c8 w8 f8 g8 b8
  refine wl_p (fun _ => o_assign rfl) ?_
  refine wl_nil ?_
  refine ret1 rfl rfl ?_
  exact ⟨_, _, rfl, f8, ⟨grownBy_trans (grown_of_below hw _) g8.g, RowH.ty hA⟩, (hw.mono hB).trans b8⟩
/-- Any of them. -/
theorem sh4_put {k kk : Int} {gf pf rf df : Nat} (h : Sh4 k gf pf rf df) {A K V : Option Addr} {b p q : By} {n c d m lo hi r : Nat} {u : Ky} (w : World) (hA : OwnH w lo hi A r b) (hK : Rd w K p) (hV : Rd w V q) (hn : n = p.length) (hm : m = q.length) (hb : b.length ≤ 4000000) (hp : p.length ≤ 4000000) (hq : q.length ≤ 4000000) (hB : lo ≤ w.heap.size) :
    CallsR Tryz.prog pf [.slice A b.length r, .agg (opC kk K n c V m d u).toArray] w fun v w' => ∃ A' c', v = .slice A' (b ++ tailS k p q u).length c' ∧ OwnH w' lo w'.heap.size A' c' (b ++ tailS k p q u) ∧ Grew w w' 5 (blk A) ∧ Below lo w w' := by
  have whos : ∀ k' : Int, k' ≠ 1 → k' ≠ 2 → tailS k' p q u = u.1 := fun k' h1 h2 => by simp [tailS, h1, h2]
  rcases h with ⟨rfl, _, rfl, _⟩ | ⟨rfl, _, rfl, _⟩ | ⟨rfl, _, rfl, _⟩ | ⟨rfl, _, rfl, _⟩ | ⟨rfl, _, rfl, _⟩ | ⟨rfl, _, rfl, _⟩
  · refine (C_putPut w hA hK hV hn hm hb hp hq hB).mono ?_
    rintro v w' ⟨A', c', rfl, h1, h2⟩
    have e : b ++ blkB p ++ blkB q = b ++ tailS 1 p q u := by simp [tailS]
    rw [e] at h1 ⊢
    exact ⟨A', c', rfl, h1.base hB (Nat.le_refl _), ⟨grown_of_below h2 _, RowH.ty hA⟩, h2.mono hB⟩
  · refine (C_putDelete (q := 0) w hA hK hn hb hp hB).mono ?_
    rintro v w' ⟨A', c', rfl, h1, h2⟩
    have e : b ++ blkB p = b ++ tailS 2 p q u := by simp [tailS]
    rw [e] at h1 ⊢
    exact ⟨A', c', rfl, h1.base hB (Nat.le_refl _), ⟨grown_of_below h2 _, RowH.ty hA⟩, h2.mono hB⟩
  all_goals
    rw [whos _ (by decide) (by decide)]
    exact C_putWho w hA hb hB
end Go.Proofs.YtahkeoegbjopfaaGreat
/-
  Rows of ops, as they lie in memory; the bytes of ops.
-/
namespace Go.Proofs.YtahkeoegbjopfaaGreat
set_option maxRecDepth 100000
open Go.RowKit
abbrev Opn := Int × By × By × Ky
def gOp : GoT Opn := (gInt .i64).pair (gBytes.pair (gBytes.pair (gArr 32)))
theorem gOp_tys : gOp.tys = [5, 5] := rfl
theorem gOp_sz : gOp.sz = 35 := rfl
def RO (w : World) (A : Option Addr) (L : List Opn) : Prop := RSl gOp w A L
def ROT (w : World) (A : Option Addr) (L : List Opn) : Prop := RSlT gOp 54 w A L
def OwnO (w : World) (lo hi : Nat) (A : Option Addr) (c : Nat) (L : List Opn) : Prop := OwnS gOp 54 w lo hi A c L
theorem gOp_R {w : World} {cs : List Value} {o : Opn} (h : gOp.R w cs o) : ∃ K c V d, cs = opC o.1 K o.2.1.length c V o.2.2.1.length d o.2.2.2 ∧ Rd w K o.2.1 ∧ Rd w V o.2.2.1 ∧ o.2.1.length ≤ c ∧ c ≤ maxLen ∧ o.2.2.1.length ≤ d ∧ d ≤ maxLen ∧ (Lit.int .i64 o.1).wf = true := by
  obtain ⟨_, _, rfl, ⟨rfl, hk⟩, _, _, rfl, ⟨K, c, rfl, h1, h2, h3⟩, _, _, rfl, ⟨V, d, rfl, h4, h5, h6⟩, h7⟩ := h
  obtain ⟨rfl⟩ : _ = B8 o.2.2.2.1 := h7
  exact ⟨K, c, V, d, rfl, h1, h4, h2, h3, h5, h6, hk⟩
theorem gOp_mk {w : World} {k : Int} {K V : Option Addr} {p q : By} {c d : Nat} {u : Ky} (hk : (Lit.int .i64 k).wf = true) (h1 : RdT w K p) (h2 : p.length ≤ c) (h3 : c ≤ maxLen) (h4 : RdT w V q) (h5 : q.length ≤ d) (h6 : d ≤ maxLen) : gOp.T w (opC k K p.length c V q.length d u) (k, p, q, u) :=
  ⟨[.int .i64 k], [.slice K p.length c] ++ ([.slice V q.length d] ++ B8 u.1), rfl, ⟨rfl, hk⟩, [.slice K p.length c], [.slice V q.length d] ++ B8 u.1, rfl, ⟨K, c, rfl, h1, h2, h3⟩, [.slice V q.length d], B8 u.1, rfl, ⟨V, d, rfl, h4, h5, h6⟩, rfl⟩
theorem gOp_one (w : World) (cs : List Value) (o : Opn) (h : gOp.T w cs o) : ∀ u ∈ cs, u.oneCell' = true := by
  obtain ⟨K, c, V, d, rfl, _⟩ := gOp_R (gOp.tr h)
  intro v hv
  simp only [opC, List.mem_append, List.mem_cons, List.not_mem_nil, or_false] at hv
  rcases hv with (rfl | rfl | rfl) | hv
  · rfl
  · rfl
  · rfl
  · exact B8_oneCell _ _ hv
section
variable {w w' : World} {lo hi lo' hi' cp b : Nat} {A : Option Addr} {L : List Opn} {e' : TypeId} {row : Option Nat}
theorem RO.u (h : RO w A L) (hb : Below w.heap.size w w') : RO w' A L := RSl.u h hb
theorem RO.d (h : RO w A L) : RO w.drew A L := RSl.u h (below_drew w)
theorem RO.nil_ : RO w none [] := RSl.nil _ _ _
theorem RO.some_ (h : RO w A L) (hl : 0 < L.length) : A = some (A.getD ⟨0, 0, none⟩) := RSl.some_ h (show 0 < 35 by decide) hl
theorem RO.elem (h : RO w A L) {i : Nat} (hi : i < L.length) : ∃ K c V d, CellsAt w A (i * 35) (opC L[i].1 K L[i].2.1.length c V L[i].2.2.1.length d L[i].2.2.2) ∧ Rd w K L[i].2.1 ∧ Rd w V L[i].2.2.1 ∧ L[i].2.1.length ≤ c ∧ c ≤ maxLen ∧ L[i].2.2.1.length ≤ d ∧ d ≤ maxLen ∧ (Lit.int .i64 L[i].1).wf = true := by
  obtain ⟨cs, h1, h2⟩ := RSl.elem h (show 0 < 35 by decide) hi
  obtain ⟨K, c, V, d, rfl, h3⟩ := gOp_R h2
  exact ⟨K, c, V, d, h1, h3⟩
theorem ROT.u (h : ROT w A L) (hb : Below w.heap.size w w') : ROT w' A L := RSlT.u h hb
theorem ROT.d (h : ROT w A L) : ROT w.drew A L := RSlT.d h
theorem ROT.y (h : ROT w A L) (hg : Grew w w' e' row) (hne : e' ∉ 54 :: gOp.tys) : ROT w' A L := RSlT.y h hg hne
theorem ROT.nil_ : ROT w none [] := RSlT.nil_
theorem ROT.to_RO (h : ROT w A L) : RO w A L := RSlT.to_RSl h
theorem OwnO.u (h : OwnO w lo hi A cp L) (hb : Below w.heap.size w w') : OwnO w' lo hi A cp L := OwnS.u h hb
theorem OwnO.d (h : OwnO w lo hi A cp L) : OwnO w.drew lo hi A cp L := OwnS.d h
theorem OwnO.y (h : OwnO w lo hi A cp L) (hg : Grew w w' e' row) (hne : e' ∉ 54 :: gOp.tys) : OwnO w' lo hi A cp L := OwnS.y h hg hne
theorem OwnO.q (h : OwnO w lo hi A cp L) (hg : Grew w w' e' row) (ha : Ap row lo hi) (hne : e' ∉ gOp.tys) : OwnO w' lo hi A cp L := OwnS.q h hg ha hne
theorem OwnO.ap (h : OwnO w lo hi A cp L) (hd : hi ≤ lo' ∨ hi' ≤ lo) : Ap (blk A) lo' hi' := OwnS.ap h hd
theorem OwnO.cap (h : OwnO w lo hi A cp L) : L.length ≤ cp := OwnS.cap h
theorem OwnO.nil_ : OwnO w lo hi none 0 [] := OwnS.nil_
theorem OwnO.base (h : OwnO w lo hi A cp L) (h1 : lo' ≤ lo) (h2 : hi ≤ hi') : OwnO w lo' hi' A cp L := OwnS.base h h1 h2
theorem OwnO.to_ROT (h : OwnO w lo hi A cp L) : ROT w A L := OwnS.to_RSlT h
theorem OwnO.to_RO (h : OwnO w lo hi A cp L) : RO w A L := OwnS.to_RSl h
end
theorem Tryz.rowO : RowT Tryz.prog 35 54 (.agg (opC 0 none 0 0 none 0 0 z32).toArray) 35 88 := ⟨Tryz.underlying35, by kernel_rfl, rfl, by omega⟩
section
variable {fn : Func} {F : Ending → World → Prop} {N : Nat} {ks : List K} {ops : Array Oper} {tg : Tags} {l : List Oper} {fr : Fr} {w w0 : World} {ty t' : TypeId} {pos : String} {aft : Array Edge} {gd : Option (Nat × Bool)} {d0 n j q c lo hi : Nat} {x y : Operand} {A B : Option Addr} {L M : List Opn}
--@ rule load l wl_ldOp
theorem wl_ldOp (hx : fr.ev x = some (.pointer (some (adr A (j * 35))))) (hr : RO w0 A L) (hb : Below w0.heap.size w0 w) (hj : j < L.length)
    (hk : ∀ K c V d, Rd w0 K L[j].2.1 → Rd w0 V L[j].2.2.1 → L[j].2.1.length ≤ c → c ≤ maxLen → L[j].2.2.1.length ≤ d → d ≤ maxLen → (Lit.int .i64 L[j].1).wf = true → WL Tryz.prog fn F N ks ops tg.tail l ((d0, .agg (opC L[j].1 K L[j].2.1.length c V L[j].2.2.1.length d L[j].2.2.2).toArray) :: fr) w)
    (ht : tg.reads = true := by rfl) (hg : onG ops fr gd = true := by rfl) (hd : Nat.blt d0 N = true := by rfl) : WL Tryz.prog fn F N ks ops tg (⟨some d0, .load 54 x, ty, pos, aft, gd⟩ :: l) fr w := by
  obtain ⟨K, c, V, d, h1, h2, h3, h4, h5, h6, h7, h8⟩ := hr.elem hj
  refine wl_r (o_loadn (cs := opC L[j].1 K L[j].2.1.length c V L[j].2.2.1.length d L[j].2.2.2) Tryz.isAgg54 (by rw [opC_length]; exact Tryz.sizeOf54) hx (fun i u hu => ?_)) (hk K c V d h2 h3 h4 h5 h6 h7 h8) ht hg hd
  rw [adr_add]
  exact h1.u hb i u hu
--@ rule buildSlice l wl_litO1
theorem wl_litO1 {ps : Array (Nat × Operand)} {xs : List Operand} {k : Int} {K V : Option Addr} {p r : By} {m1 m2 c1 d1 : Nat} {u : Ky} (hxs : ps.toList.map Prod.snd = xs) (hx : fr.evs xs = some [.agg (opC k K m1 c1 V m2 d1 u).toArray]) (h1 : RdT w K p) (h4 : RdT w V r) (hm1 : m1 = p.length) (hm2 : m2 = r.length) (h2 : p.length ≤ c1) (h3 : c1 ≤ maxLen) (h5 : r.length ≤ d1) (h6 : d1 ≤ maxLen) (hk0 : (Lit.int .i64 k).wf = true) (hps : ps = ((List.range' 0 1).zip xs).toArray)
    (hk : ∀ A w', OwnO w' w.heap.size w'.heap.size A 1 [(k, p, r, u)] → Below w.heap.size w w' → WL Tryz.prog fn F N ks ops tg.tail l ((d0, .slice A 1 1) :: fr) w')
    (ht : tg.loud = true := by rfl) (hg : onG ops fr gd = true := by rfl) (hd : Nat.blt d0 N = true := by rfl) : WL Tryz.prog fn F N ks ops tg (⟨some d0, .buildSlice 35 1 ps, ty, pos, aft, gd⟩ :: l) fr w := by
  subst hm1; subst hm2
  refine wl_litS (X := gOp) (L := [(k, p, r, u)]) Tryz.rowO Tryz.sizeOf54 Tryz.zeroValue54 hxs hps hx rfl rfl (fun i h => ?_) rfl hk ht hg hd
  obtain rfl : i = 0 := by simp at h; omega
  exact ⟨_, rfl, by show (opC k K p.length c1 V r.length d1 u).toArray.size = 35; rw [List.size_toArray, opC_length], gOp_mk hk0 h1 h2 h3 h4 h5 h6⟩
--@ rule append l wl_appO
theorem wl_appO (hx : fr.ev x = some (.slice A n c)) (hown : OwnO w lo hi A c L) (hn : n = L.length) (hy : fr.ev y = some (.slice B j q)) (hr : ROT w B M) (hj : j = M.length) (hlen : L.length + M.length ≤ 1000000) (hB : lo ≤ w.heap.size)
    (h : ∀ A' c' w', OwnO w' lo w'.heap.size A' c' (L ++ M) → Grew w w' 54 (blk A) → Below lo w w' → WL Tryz.prog fn F N ks ops tg.tail l ((d0, .slice A' (L ++ M).length c') :: fr) w')
    (ht : tg.loud = true := by rfl) (hg : onG ops fr gd = true := by rfl) (hd : Nat.blt d0 N = true := by rfl) (hq : tg.calm = false ∨ blk A = none ∨ blk A = tg.row := by exact .inl rfl) :
    WL Tryz.prog fn F N ks ops tg (⟨some d0, .call { callee := .builtin .append, args := #[x, y], argTypes := #[35, 35] }, ty, pos, aft, gd⟩ :: l) fr w :=
  wl_appS (X := gOp) Tryz.rowO hx hown hn hy hr hj (by simp [gOp_tys]) gOp_one (by have := Nat.mul_le_mul_right 88 hlen; omega) (by omega) hB (fun A' c' w' h1 h2 h3 _ => h A' c' w' h1 h2 h3) ht hg hd hq
end
theorem opC_one (k : Int) (K : Option Addr) (n c : Nat) (V : Option Addr) (m d : Nat) (u : Ky) : ∀ v ∈ opC k K n c V m d u, v.oneCell' = true := by
  intro v hv
  simp only [opC, List.mem_append, List.mem_cons, List.not_mem_nil, or_false] at hv
  rcases hv with (rfl | rfl | rfl) | hv
  · rfl
  · rfl
  · rfl
  · exact B8_oneCell _ _ hv
section
variable {fn : Func} {F : Ending → World → Prop} {N : Nat} {ks : List K} {ops : Array Oper} {tg : Tags} {l : List Oper} {fr : Fr} {w : World} {ty t' : TypeId} {pos : String} {aft : Array Edge} {gd : Option (Nat × Bool)} {d0 g : Nat} {x y : Operand} {k k' : Int} {K V K' V' : Option Addr} {n c m d n' c' m' d' : Nat} {u u' : Ky}
--@ rule! alloc l wl_allocOp
theorem wl_allocOp (hk : ∀ g w', Blk w' g 54 (opC 0 none 0 0 none 0 0 z32) → Below w.heap.size w w' → w.heap.size ≤ g → g < w'.heap.size → WL Tryz.prog fn F N ks ops tg.tail l ((d0, .pointer (some ⟨g, 0, none⟩)) :: fr) w')
    (ht : tg.loud = true := by rfl) (hg : onG ops fr gd = true := by rfl) (hd : Nat.blt d0 N = true := by rfl) : WL Tryz.prog fn F N ks ops tg (⟨some d0, .alloc 54, ty, pos, aft, gd⟩ :: l) fr w :=
  wl_allocg _ Tryz.zeroValue54 rfl hk ht hg hd
--@ rule! store l wl_stOpB
theorem wl_stOpB (hx : fr.ev x = some (.pointer (some ⟨g, 0, none⟩))) (hB : Blk w g t' (opC k' K' n' c' V' m' d' u')) (hy : fr.ev y = some (.agg (opC k K n c V m d u).toArray))
    (hk : ∀ w', Blk w' g t' (opC k K n c V m d u) → Grew w w' t' (some g) → w'.heap.size = w.heap.size → WL Tryz.prog fn F N ks ops tg.tail l fr w') (ht : tg.loud = true := by rfl) (hg : onG ops fr gd = true := by rfl) (hq : tg.calm = false ∨ tg.rw.may (some g) := by exact .inl rfl) :
    WL Tryz.prog fn F N ks ops tg (⟨none, .store 54 x y, ty, pos, aft, gd⟩ :: l) fr w :=
  wl_storega Tryz.sizeOf54 hx hy (opC_length ..) (opC_one k K n c V m d u) hB (opC_length ..) hk ht hg hq
end
def okO (o : Opn) : Bool := okOp o.1 o.2.1.length o.2.2.1.length o.2.2.2
/-- An op's bytes. -/
def opB (o : Opn) : By := UInt8.ofNat o.1.toNat :: tailS o.1 o.2.1 o.2.2.1 o.2.2.2
/-- The bytes of ops, and the error. -/
def bytesO (L : List Opn) : By × Nat := if 8 < L.length then ([], 2) else if L.all okO = true then (UInt8.ofNat L.length :: L.flatMap opB, 0) else ([], 2)
theorem goodS_le {k : Int} {n m : Nat} {u : Ky} (h : goodS k n m u = true) : n ≤ 16 ∧ m ≤ 32 := by
  unfold goodS at h
  repeat' split at h
  all_goals simp only [Bool.and_eq_true, decide_eq_true_eq] at h; omega
theorem tailS_le {k : Int} {p q : By} {u : Ky} (hp : p.length ≤ 16) (hq : q.length ≤ 32) : (tailS k p q u).length ≤ 70 := by
  have h1 := blkB_le hp (by omega)
  have h2 := blkB_le hq (by omega)
  have h3 := u.2
  unfold tailS
  repeat' split
  all_goals first | omega | (simp only [List.length_append]; omega)
end Go.Proofs.YtahkeoegbjopfaaGreat
/-
  Walks of package ops: ops built.
-/
namespace Go.Proofs.YtahkeoegbjopfaaGreat
set_option maxRecDepth 100000
open Go.RowKit
theorem ky_cases (u : Ky) (p : Ky → Prop) (h : ∀ b0 b1 b2 b3 b4 b5 b6 b7 b8 b9 b10 b11 b12 b13 b14 b15 b16 b17 b18 b19 b20 b21 b22 b23 b24 b25 b26 b27 b28 b29 b30 b31 : UInt8, p ⟨[b0, b1, b2, b3, b4, b5, b6, b7, b8, b9, b10, b11, b12, b13, b14, b15, b16, b17, b18, b19, b20, b21, b22, b23, b24, b25, b26, b27, b28, b29, b30, b31], rfl⟩) : p u := by
  obtain ⟨l, hl⟩ := u
  match l, hl with
  | [b0, b1, b2, b3, b4, b5, b6, b7, b8, b9, b10, b11, b12, b13, b14, b15, b16, b17, b18, b19, b20, b21, b22, b23, b24, b25, b26, b27, b28, b29, b30, b31], _ => exact h ..
section
variable {N : Nat} {fr : Fr} {w : World} {ty : TypeId} {x y z : Operand} {k : Int} {K V : Option Addr} {n c m d : Nat} {u : Ky}
--@ rule! build p o_bldOpz
theorem o_bldOpz : OpV Tryz.prog N fr w (.build 54 #[]) ty (.agg (opC 0 none 0 0 none 0 0 z32).toArray) w :=
  o_build (is := []) (xs := []) (vs := []) (rfl) (fun _ => by kernel_rfl)
--@ rule! build p o_bldOp1
theorem o_bldOp1 (hx : fr.ev x = some (.slice K n c)) : OpV Tryz.prog N fr w (.build 54 #[(1, x)]) ty (.agg (opC 0 K n c none 0 0 z32).toArray) w :=
  o_build (is := [1]) (xs := [x]) (vs := [.slice K n c]) (by simp [Fr.evs, hx]) (fun _ => by kernel_rfl)
--@ rule! build p o_bldOp12
theorem o_bldOp12 (hx : fr.ev x = some (.slice K n c)) (hy : fr.ev y = some (.slice V m d)) : OpV Tryz.prog N fr w (.build 54 #[(1, x), (2, y)]) ty (.agg (opC 0 K n c V m d z32).toArray) w :=
  o_build (is := [1, 2]) (xs := [x, y]) (vs := [.slice K n c, .slice V m d]) (by simp [Fr.evs, hx, hy]) (fun _ => by kernel_rfl)
--@ rule! build p o_bldOp01
theorem o_bldOp01 (hx : fr.ev x = some (.int .i64 k)) (hy : fr.ev y = some (.slice K n c)) : OpV Tryz.prog N fr w (.build 54 #[(0, x), (1, y)]) ty (.agg (opC k K n c none 0 0 z32).toArray) w :=
  o_build (is := [0, 1]) (xs := [x, y]) (vs := [.int .i64 k, .slice K n c]) (by simp [Fr.evs, hx, hy]) (fun _ => by kernel_rfl)
--@ rule! build p o_bldOp012
theorem o_bldOp012 (hx : fr.ev x = some (.int .i64 k)) (hy : fr.ev y = some (.slice K n c)) (hz : fr.ev z = some (.slice V m d)) : OpV Tryz.prog N fr w (.build 54 #[(0, x), (1, y), (2, z)]) ty (.agg (opC k K n c V m d z32).toArray) w :=
  o_build (is := [0, 1, 2]) (xs := [x, y, z]) (vs := [.int .i64 k, .slice K n c, .slice V m d]) (by simp [Fr.evs, hx, hy, hz]) (fun _ => by kernel_rfl)
--@ rule! build p o_bldOp3
theorem o_bldOp3 (hx : fr.ev x = some (.agg (B8 u.1).toArray)) : OpV Tryz.prog N fr w (.build 54 #[(3, x)]) ty (.agg (opC 0 none 0 0 none 0 0 u).toArray) w :=
  o_build (is := [3]) (xs := [x]) (vs := [.agg (B8 u.1).toArray]) (by simp [Fr.evs, hx]) (fun w => ky_cases u (fun u => (Instr.build 54 ([3].zip [.agg (B8 u.1).toArray]).toArray).run Tryz.prog w = .ok (.agg (opC 0 none 0 0 none 0 0 u).toArray) w) (by intros; kernel_rfl))
--@ rule! build p o_bldOp03
theorem o_bldOp03 (hx : fr.ev x = some (.int .i64 k)) (hy : fr.ev y = some (.agg (B8 u.1).toArray)) : OpV Tryz.prog N fr w (.build 54 #[(0, x), (3, y)]) ty (.agg (opC k none 0 0 none 0 0 u).toArray) w :=
  o_build (is := [0, 3]) (xs := [x, y]) (vs := [.int .i64 k, .agg (B8 u.1).toArray]) (by simp [Fr.evs, hx, hy]) (fun w => ky_cases u (fun u => (Instr.build 54 ([0, 3].zip [.int .i64 k, .agg (B8 u.1).toArray]).toArray).run Tryz.prog w = .ok (.agg (opC k none 0 0 none 0 0 u).toArray) w) (by intros; kernel_rfl))
end
end Go.Proofs.YtahkeoegbjopfaaGreat
/-
  The reader of package octet, in the form that the search applies: what is left, and the error.
-/
namespace Go.Proofs.YtahkeoegbjopfaaGreat
set_option maxRecDepth 100000
open Go.RowKit

/-- The reader at block g: what is left, and its error. -/
def Rdr (w : World) (g : Nat) (s : RS) : Prop := ∃ l p, RdrI w g l p s.2 ∧ s.1 = l.drop p
section
variable {w w' : World} {g p : Nat} {l : List UInt8} {s : RS}
theorem RdrI.rdr (h : RdrI w g l p s.2) (hs : s.1 = l.drop p) : Rdr w g s := ⟨l, p, h, hs⟩
theorem Rdr.u (h : Rdr w g s) (hb : Below w.heap.size w w') : Rdr w' g s := by
  obtain ⟨l, p, h, hs⟩ := h
  exact ⟨l, p, h.below hb, hs⟩
theorem Rdr.d (h : Rdr w g s) : Rdr w.drew g s := h
theorem Rdr.at_ (h : Rdr w g s) : TyAt w g 119 := by
  obtain ⟨l, p, h, hs⟩ := h
  obtain ⟨A, c, hB, -⟩ := h.blk'
  exact hB.at_
theorem Rdr.lt (h : Rdr w g s) : g < w.heap.size := h.at_.lt
theorem Rdr.y {e' : TypeId} {row : Option Nat} (h : Rdr w g s) (hg : Grew w w' e' row) (hne : e' ∉ [119, 5]) : Rdr w' g s := by
  simp only [List.mem_cons, List.not_mem_nil, or_false, not_or] at hne
  obtain ⟨l, p, ⟨A, c, hB, ho, h⟩, hs⟩ := h
  exact ⟨l, p, ⟨A, c, hB.y hg hne.1, (OwnH.y ho.h_ hg hne.2).o, h⟩, hs⟩
end
theorem grew_rdr {w w' : World} {g : Nat} {s : RS} (h : Rdr w g s) (hg : w.grownBy w' (some g)) : Grew w w' 119 (some g) := ⟨hg, fun k hk => by injection hk with hk; subst hk; exact h.at_⟩

/-- What the reader's methods give (named, so that it is taken from what is known). -/
structure WordR (size : Int) (l : List UInt8) (e v : Nat) (l' : List UInt8) (e' : Nat) : Prop where
  h : rWord size (l, e) = (v, (l', e'))
structure BlockR (l : List UInt8) (e : Nat) (p l' : List UInt8) (e' : Nat) : Prop where
  h : rBlock (l, e) = (p, (l', e'))
structure TakeR (n : Int) (l : List UInt8) (e : Nat) (p l' : List UInt8) (e' : Nat) : Prop where
  h : rTake n.toNat (l, e) = (p, (l', e'))
theorem C_rRead {A : Option Addr} {l : List UInt8} {k c : Nat} (w : World) (hr : Rd w A l) (hk : k = l.length) (hl : l.length ≤ 4000000000) :
    CallsR Tryz.prog 38 [.slice A k c] w fun v w' => ∃ g, v = .pointer (some ⟨g, 0, none⟩) ∧ w.heap.size ≤ g ∧ g < w'.heap.size ∧ Rdr w' g (l, 0) ∧ Below w.heap.size w w' :=
  (C_Read c hk w hr (by omega)).mono fun _ _ ⟨g, hv, hg, hlt, hR, hb⟩ => ⟨g, hv, hg, hlt, hR.rdr (s := (l, 0)) rfl, hb⟩
theorem C_rBlock {g e e' : Nat} {l l' p : List UInt8} (w : World) (hR : Rdr w g (l, e)) (hr : BlockR l e p l' e') :
    CallsR Tryz.prog 120 [.pointer (some ⟨g, 0, none⟩)] w fun v w' => ∃ A' c', v = .slice A' p.length c' ∧ OwnH w' w.heap.size w'.heap.size A' c' p ∧ Rdr w' g (l', e') ∧ Grew w w' 119 (some g) ∧ Chg g (g + 1) w w' := by
  have hR0 := hR
  obtain ⟨m, q, h, hs⟩ := hR
  obtain rfl : l = m.drop q := hs
  refine (C_RBlock w h).mono ?_
  rintro v w' ⟨hg, ⟨A', c', rfl, ho⟩, p', hR, hs⟩
  dsimp only at ho hR hs ⊢
  rw [hr.h] at ho hR hs ⊢
  exact ⟨A', c', rfl, ho.h_, hR.rdr (s := (l', e')) hs, grew_rdr hR0 hg, Chg.of_g1 hg (Nat.le_refl _) (by omega)⟩
theorem C_rWord {g e e' v : Nat} {l l' : List UInt8} {size : Int} (w : World) (hR : Rdr w g (l, e)) (hr : WordR size l e v l' e') :
    CallsR Tryz.prog 39 [.pointer (some ⟨g, 0, none⟩), .int .i64 size] w fun x w' => x = .int .u64 (v : Int) ∧ Rdr w' g (l', e') ∧ Grew w w' 119 (some g) ∧ Chg g (g + 1) w w' := by
  have hR0 := hR
  obtain ⟨m, q, h, hs⟩ := hR
  obtain rfl : l = m.drop q := hs
  refine (C_RWord size w h).mono ?_
  rintro v w' ⟨rfl, hg, p', hR, hs⟩
  dsimp only at hR hs ⊢
  rw [hr.h] at hR hs ⊢
  exact ⟨rfl, hR.rdr (s := (l', e')) hs, grew_rdr hR0 hg, Chg.of_g1 hg (Nat.le_refl _) (by omega)⟩
theorem C_rErr {g e : Nat} {l : List UInt8} (w : World) (hR : Rdr w g (l, e)) :
    CallsR Tryz.prog 41 [.pointer (some ⟨g, 0, none⟩)] w fun v w' => v = .int .i64 (e : Int) ∧ w' = w := by
  obtain ⟨m, q, h, hs⟩ := hR
  exact (C_RErr w h).mono fun _ _ ⟨hv, hw⟩ => ⟨hv, hw.symm⟩
end Go.Proofs.YtahkeoegbjopfaaGreat
/-
  Walks of package octet: the reader's Digest.
-/
namespace Go.Proofs.YtahkeoegbjopfaaGreat
set_option maxRecDepth 100000
open Go.RowKit

theorem Tryz.build_Digest0 (w : World) : (Instr.build 44 (([] : List Nat).zip ([] : List Value)).toArray).run Tryz.prog w = .ok (.agg (B8 (nulls 32)).toArray) w := by kernel_rfl

theorem C_RDigest {g : Nat} {l : List UInt8} {p e : Nat} (w : World) (hR : RdrI w g l p e) :
    CallsR Tryz.prog 123 [.pointer (some ⟨g, 0, none⟩)] w fun v w' => v = .agg (B8 (rDigest (l.drop p, e)).1).toArray ∧ w.grownBy w' (some g) ∧
      ∃ p', RdrI w' g l p' (rDigest (l.drop p, e)).2.2 ∧ (rDigest (l.drop p, e)).2.1 = l.drop p' := by
  refine callsR Tryz.func123 rfl rfl (by kernel_rfl) rfl ?_
  refine rk_seq ?_
  refine rk_region ?_
  refine wl_alloc (B8 (nulls 32)) Tryz.zeroValue44 rfl ?_
  intro w1 hB1 hb1 hz1
  refine wl_nil ?_
  refine rk_seq ?_
  refine rk_region ?_
  refine wl_p (fun _ => o_move rfl) ?_
  refine wl_call rfl (C_take 32 rfl w1 (hR.below hb1)) ?_
  rintro _ w3 ⟨hg3, hz3, h⟩
  obtain ⟨_, _, hBR, -⟩ := hR.blk'
  have hgl := hBR.lt
  have hB3 := hB1.grown hg3 (by intro e; injection e with e; omega)
  have hg13 := grownBy_trans (grownBy_of_below hb1 (some g)) hg3
  rcases h with h | h
  · obtain ⟨rfl, h3, hR3, A3, c3, rfl, hc3, hr3, hA3⟩ := h
    have hb1 : rDigest (l.drop p, 0) = ((l.drop p).take 32, ((l.drop p).drop 32, 0)) := by
      unfold rDigest rTake
      rw [if_neg (show ¬ (l.drop p, 0).2 ≠ 0 by simp), if_neg (show ¬ (l.drop p).length < 32 by simp; omega)]; rfl
    rw [hb1]
    have hlen : ((l.drop p).take 32).length = 32 := by simp; omega
    obtain ⟨b, o, rfl, hbl, hcell⟩ := hr3.at_ (by intro e; rw [e] at hlen; simp at hlen)
    refine wl_p (fun _ => o_move rfl) ?_
    refine wl_p (fun _ => o_ext20 rfl) ?_
    refine wl_p (fun _ => o_ext21 rfl) ?_
    refine wl_p (fun _ => o_assign rfl) ?_
    refine wl_p (fun _ => o_assign rfl) ?_
    refine wl_nil ?_
    refine rk_seq ?_
    refine rk_seq ?_
    refine rk_region ?_
    refine wl_p (fun _ => o_move rfl) ?_
    refine wl_p (fun _ => o_not rfl) ?_
    refine wl_nil ?_
    refine rk_false rfl ?_
    refine rk_skip ?_
    refine rk_seq ?_
    refine rk_region ?_
    refine wl_p (fun _ => o_move rfl) ?_
    refine wl_p (fun _ => o_arrptr Tryz.underlying44 rfl (by omega)) ?_
    refine wl_r (o_loadn (cs := B8 ((l.drop p).take 32)) Tryz.isAgg44 (by rw [B8_length, hlen]; exact Tryz.sizeOf44) rfl ?_) ?_
    · intro j u hu
      have hj : j < ((l.drop p).take 32).length := by
        rcases Nat.lt_or_ge j ((l.drop p).take 32).length with h | h
        · exact h
        · rw [List.getElem?_eq_none (by rw [B8_length]; exact h)] at hu; cases hu
      rw [B8_get _ _ hj] at hu
      rw [add_plain, hcell j hj, hu]
    refine wl_store_all Tryz.sizeOf44 rfl rfl (by rw [B8_length, hlen]) (B8_oneCell' _) hB3 (by simp [B8, nulls]) ?_
    intro w4 hB4 hg4 hz4
    refine wl_nil ?_
    refine ret_cell rfl rfl Tryz.isAgg44 Tryz.sizeOf44 hB4 (by rw [B8_length, hlen]) ?_
    exact ⟨rfl, grownBy_new hg13 hg4 (Nat.le_refl _), p + 32, hR3.grown hg4 hB3 (by decide) (by omega), by rw [List.drop_drop]⟩
  · obtain ⟨rfl, h3, hR3⟩ := h
    have hb1 : rDigest (l.drop p, e) = (nulls 32, (l.drop p, if e = 0 then 5 else e)) := by
      unfold rDigest rTake
      by_cases he : e = 0
      · rw [if_neg (show ¬ (l.drop p, e).2 ≠ 0 by simp [he]), if_pos (show (l.drop p).length < 32 by rw [List.length_drop]; exact h3 he), if_pos he]; rfl
      · rw [if_pos (show (l.drop p, e).2 ≠ 0 from he), if_neg he, if_pos he]
    rw [hb1]
    refine wl_p (fun _ => o_move rfl) ?_
    refine wl_p (fun _ => o_ext20 rfl) ?_
    refine wl_p (fun _ => o_ext21 rfl) ?_
    refine wl_p (fun _ => o_assign rfl) ?_
    refine wl_p (fun _ => o_assign rfl) ?_
    refine wl_nil ?_
    refine rk_seq ?_
    refine rk_seq ?_
    refine rk_region ?_
    refine wl_p (fun _ => o_move rfl) ?_
    refine wl_p (fun _ => o_not rfl) ?_
    refine wl_nil ?_
    refine rk_true rfl ?_
    refine rk_seq ?_
    refine rk_region ?_
    refine wl_p (fun _ => o_build (is := []) (xs := []) (vs := []) rfl (fun w => Tryz.build_Digest0 w)) ?_
    refine wl_store_all Tryz.sizeOf44 rfl rfl (by simp [B8, nulls]) (B8_oneCell' _) hB3 (by simp [B8, nulls]) ?_
    intro w4 hB4 hg4 hz4
    refine wl_nil ?_
    refine ret_cell rfl rfl Tryz.isAgg44 Tryz.sizeOf44 hB4 (by simp [B8, nulls]) ?_
    exact ⟨rfl, grownBy_new hg13 hg4 (Nat.le_refl _), p, hR3.grown hg4 hB3 (by decide) (by omega), rfl⟩

theorem C_RDigest_nil (w : World) : CallsR Tryz.prog 123 [.pointer none] w fun v w' => v = .agg (B8 (nulls 32)).toArray ∧ Below w.heap.size w w' := by
  refine callsR Tryz.func123 rfl rfl (by kernel_rfl) rfl ?_
  refine rk_seq ?_
  refine rk_region ?_
  refine wl_alloc (B8 (nulls 32)) Tryz.zeroValue44 rfl ?_
  intro w1 hB1 hb1 hz1
  refine wl_nil ?_
  refine rk_seq ?_
  refine rk_region ?_
  refine wl_p (fun _ => o_move rfl) ?_
  refine wl_call rfl (C_take_nil 32 w1) ?_
  rintro _ w3 ⟨rfl, rfl⟩
  refine wl_p (fun _ => o_move rfl) ?_
  refine wl_p (fun _ => o_ext20 rfl) ?_
  refine wl_p (fun _ => o_ext21 rfl) ?_
  refine wl_p (fun _ => o_assign rfl) ?_
  refine wl_p (fun _ => o_assign rfl) ?_
  refine wl_nil ?_
  refine rk_seq ?_
  refine rk_seq ?_
  refine rk_region ?_
  refine wl_p (fun _ => o_move rfl) ?_
  refine wl_p (fun _ => o_not rfl) ?_
  refine wl_nil ?_
  refine rk_true rfl ?_
  refine rk_seq ?_
  refine rk_region ?_
  refine wl_p (fun _ => o_build (is := []) (xs := []) (vs := []) rfl (fun w => Tryz.build_Digest0 w)) ?_
  refine wl_store_all Tryz.sizeOf44 rfl rfl (by simp [B8, nulls]) (B8_oneCell' _) hB1 (by simp [B8, nulls]) ?_
  intro w4 hB4 hg4 hz4
  refine wl_nil ?_
  refine ret_cell rfl rfl Tryz.isAgg44 Tryz.sizeOf44 hB4 (by simp [B8, nulls]) ?_
  exact ⟨rfl, hb1.trans (below_of_grownBy hg4 (by omega) (Nat.le_refl _))⟩
end Go.Proofs.YtahkeoegbjopfaaGreat
/-
  The reader of package octet: Digest and End, in the form that the search applies.
-/
namespace Go.Proofs.YtahkeoegbjopfaaGreat
set_option maxRecDepth 100000
open Go.RowKit
structure DigR (l : List UInt8) (e : Nat) (p l' : List UInt8) (e' : Nat) : Prop where
  h : rDigest (l, e) = (p, (l', e'))
theorem rDigest_len (s : RS) : (rDigest s).1.length = 32 := by
  unfold rDigest rTake nulls
  by_cases h : s.2 ≠ 0
  · simp [h]
  · by_cases h2 : s.1.length < 32
    · simp [h, h2]
    · simp [h, h2]; omega
theorem C_rDigest {g e e' : Nat} {l l' p : List UInt8} (w : World) (hR : Rdr w g (l, e)) (hr : DigR l e p l' e') :
    CallsR Tryz.prog 123 [.pointer (some ⟨g, 0, none⟩)] w fun v w' => v = .agg (B8 p).toArray ∧ Rdr w' g (l', e') ∧ Grew w w' 119 (some g) ∧ Chg g (g + 1) w w' := by
  have hR0 := hR
  obtain ⟨m, q, h, hs⟩ := hR
  obtain rfl : l = m.drop q := hs
  refine (C_RDigest w h).mono ?_
  rintro v w' ⟨rfl, hg, p', hR, hs⟩
  dsimp only at hR hs ⊢
  rw [hr.h] at hR hs ⊢
  exact ⟨rfl, hR.rdr (s := (l', e')) hs, grew_rdr hR0 hg, Chg.of_g1 hg (Nat.le_refl _) (by omega)⟩
theorem C_rEnd {g e : Nat} {l : List UInt8} (w : World) (hR : Rdr w g (l, e)) :
    CallsR Tryz.prog 42 [.pointer (some ⟨g, 0, none⟩)] w fun v w' => v = .int .i64 ((rEnd (l, e) : Nat) : Int) ∧ Below w.heap.size w w' := by
  obtain ⟨m, q, h, hs⟩ := hR
  obtain rfl : l = m.drop q := hs
  exact (C_REnd w h).mono fun _ _ ⟨hv, hb, _⟩ => ⟨hv, hb⟩
theorem Grew.of_chg1 {w w' : World} {g : Nat} {t : TypeId} (h : Chg g (g + 1) w w') (ht : TyAt w g t) : Grew w w' t (some g) :=
  ⟨⟨h.os, h.tape, h.output, h.size, fun k hk he => h.block k hk (by
    have : k ≠ g := fun e => he (by rw [e])
    omega)⟩, fun k hk => by injection hk with hk; subst hk; exact ht⟩
end Go.Proofs.YtahkeoegbjopfaaGreat
/-
  Walks of package ops: one op read.
-/
namespace Go.Proofs.YtahkeoegbjopfaaGreat
set_option maxRecDepth 100000
open Go.RowKit
def digK (s : RS) : Ky := ⟨(rDigest s).1, rDigest_len s⟩
/-- An op's parts, read. -/
def readS (k : Int) (s : RS) : By × By × Ky × RS :=
  if k = 1 then ((rBlock s).1, (rBlock (rBlock s).2).1, z32, (rBlock (rBlock s).2).2)
  else if k = 2 then ((rBlock s).1, [], z32, (rBlock s).2)
  else ([], [], digK s, (rDigest s).2)
theorem C_readDelete {g e e1 : Nat} {l l1 p : By} (w : World) (hR : Rdr w g (l, e)) (h1 : BlockR l e p l1 e1) :
    CallsR Tryz.prog 75 [.pointer (some ⟨g, 0, none⟩)] w fun v w' => ∃ K c, v = .agg (opC 0 K p.length c none 0 0 z32).toArray ∧ RdT w' K p ∧ p.length ≤ c ∧ c ≤ maxLen ∧ Rdr w' g (l1, e1) ∧ Chg g (g + 1) w w' := by
  have hgl := hR.lt
  refine callsR Tryz.func75 rfl rfl (by kernel_rfl) rfl ?_
  have hcg : Chg g (g + 1) w w := Chg.refl
  refine rk_seq ?_
  refine rk_region ?_
  refine wl_allocOp ?_
  rintro g2 w2 f2 b2 i2 i2_1
  have s2 := b2.size
  replace hcg := hcg.thenB b2
  replace hR := hR.u b2
  refine wl_nil ?_
  refine rk_seq ?_
  refine rk_region ?_
  refine wl_p (fun _ => o_move rfl) ?_
  refine wl_call rfl (C_rBlock _ hR h1) ?_
  rintro v4 w4 ⟨A4, ⟨c4, ⟨rfl, ⟨f4, ⟨f4_1, ⟨g4, g4_1⟩⟩⟩⟩⟩⟩
  have qf4 := f4.cap
  have s4 := g4.size
  replace hcg := hcg.trans (Chg.of_g1 g4.g (by omega) (by omega))
  replace f2 := f2.k g4.g (ap_some (by omega))
  clear hR
  refine wl_p (fun _ => (o_bldOp1 rfl)) ?_
  refine wl_stOpB rfl f2 rfl ?_
  rintro w_1 f g_1 e_1
  have s := g_1.size
  replace hcg := hcg.andNew g_1.g (fun _ e => by injection e with e; have := hcg.size; omega)
  replace f4_1 := f4_1.y g_1 (by decide)
  replace f4 := f4.k g_1.g (ap_some (by omega))
  clear f2
  refine wl_nil ?_
  refine ret_cell rfl rfl Tryz.isAgg54 Tryz.sizeOf54 (by assumption) rfl ?_
  exact ⟨A4, c4, rfl, f4.to_RdT, f4.cap, own_max f4, f4_1, hcg⟩
theorem C_readPut {g e e1 e2 : Nat} {l l1 l2 p q : By} (w : World) (hR : Rdr w g (l, e)) (h1 : BlockR l e p l1 e1) (h2 : BlockR l1 e1 q l2 e2) :
    CallsR Tryz.prog 71 [.pointer (some ⟨g, 0, none⟩)] w fun v w' => ∃ K c V d, v = .agg (opC 0 K p.length c V q.length d z32).toArray ∧ RdT w' K p ∧ p.length ≤ c ∧ c ≤ maxLen ∧ RdT w' V q ∧ q.length ≤ d ∧ d ≤ maxLen ∧ Rdr w' g (l2, e2) ∧ Chg g (g + 1) w w' := by
  have hgl := hR.lt
  refine callsR Tryz.func71 rfl rfl (by kernel_rfl) rfl ?_
  have hcg : Chg g (g + 1) w w := Chg.refl
  refine rk_seq ?_
  refine rk_region ?_
  refine wl_allocOp ?_
  rintro g2 w2 f2 b2 i2 i2_1
  have s2 := b2.size
  replace hcg := hcg.thenB b2
  replace hR := hR.u b2
  refine wl_nil ?_
  refine rk_seq ?_
  refine rk_region ?_
  refine wl_p (fun _ => o_move rfl) ?_
  refine wl_call rfl (C_rBlock _ hR h1) ?_
  rintro v5 w5 ⟨A5, ⟨c5, ⟨rfl, ⟨f5, ⟨f5_1, ⟨g5, g5_1⟩⟩⟩⟩⟩⟩
  have qf5 := f5.cap
  have s5 := g5.size
  replace hcg := hcg.trans (Chg.of_g1 g5.g (by omega) (by omega))
  replace f2 := f2.k g5.g (ap_some (by omega))
  clear hR
  refine wl_p (fun _ => o_assign rfl) ?_
  refine wl_nil ?_
  refine rk_seq ?_
  refine rk_region ?_
  refine wl_p (fun _ => o_move rfl) ?_
  refine wl_p (fun _ => o_move rfl) ?_
  refine wl_call rfl (C_rBlock _ f5_1 h2) ?_
  rintro v8 w8 ⟨A8, ⟨c8, ⟨rfl, ⟨f8, ⟨f8_1, ⟨g8, g8_1⟩⟩⟩⟩⟩⟩
  have qf8 := f8.cap
  have s8 := g8.size
  replace hcg := hcg.trans (Chg.of_g1 g8.g (by omega) (by omega))
  replace f2 := f2.k g8.g (ap_some (by omega))
  replace f5 := f5.k g8.g (ap_some (by omega))
  clear f5_1
  refine wl_p (fun _ => (o_bldOp12 rfl rfl)) ?_
  refine wl_stOpB rfl f2 rfl ?_
  rintro w_1 f g_1 e_1
  have s := g_1.size
  replace hcg := hcg.andNew g_1.g (fun _ e => by injection e with e; have := hcg.size; omega)
  replace f5 := f5.k g_1.g (ap_some (by omega))
  replace f8_1 := f8_1.y g_1 (by decide)
  replace f8 := f8.k g_1.g (ap_some (by omega))
  clear f2
  refine wl_nil ?_
  refine ret_cell rfl rfl Tryz.isAgg54 Tryz.sizeOf54 (by assumption) rfl ?_
  exact ⟨A5, c5, A8, c8, rfl, f5.to_RdT, f5.cap, own_max f5, f8.to_RdT, f8.cap, own_max f8, f8_1, hcg⟩
theorem C_readWho {g e e1 : Nat} {l l1 : By} {u : Ky} (w : World) (hR : Rdr w g (l, e)) (h1 : DigR l e u.1 l1 e1) :
    CallsR Tryz.prog 79 [.pointer (some ⟨g, 0, none⟩)] w fun v w' => v = .agg (opC 0 none 0 0 none 0 0 u).toArray ∧ Rdr w' g (l1, e1) ∧ Chg g (g + 1) w w' := by
  have hgl := hR.lt
  refine callsR Tryz.func79 rfl rfl (by kernel_rfl) rfl ?_
  have hcg : Chg g (g + 1) w w := Chg.refl
  refine rk_seq ?_
  refine rk_region ?_
  refine wl_allocOp ?_
  rintro g2 w2 f2 b2 i2 i2_1
  have s2 := b2.size
  replace hcg := hcg.thenB b2
  replace hR := hR.u b2
  refine wl_nil ?_
  refine rk_seq ?_
  refine rk_region ?_
  refine wl_p (fun _ => o_move rfl) ?_
  refine wl_call rfl (C_rDigest _ hR h1) ?_
  rintro v4 w4 ⟨rfl, ⟨f4, ⟨g4, g4_1⟩⟩⟩
  have s4 := g4.size
  replace hcg := hcg.trans (Chg.of_g1 g4.g (by omega) (by omega))
  replace f2 := f2.k g4.g (ap_some (by omega))
  clear hR
  refine wl_p (fun _ => (o_bldOp3 rfl)) ?_
  refine wl_stOpB rfl f2 rfl ?_
  rintro w_1 f g_1 e_1
  have s := g_1.size
  replace hcg := hcg.andNew g_1.g (fun _ e => by injection e with e; have := hcg.size; omega)
  replace f4 := f4.y g_1 (by decide)
  clear f2
  refine wl_nil ?_
  refine ret_cell rfl rfl Tryz.isAgg54 Tryz.sizeOf54 f (opC_length ..) ?_
  exact ⟨rfl, f4, hcg⟩
/-- Any of them. -/
theorem sh4_read {k : Int} {gf pf rf df : Nat} (h : Sh4 k gf pf rf df) {g : Nat} {s : RS} {r : By × By × Ky × RS} (w : World) (hR : Rdr w g s) (hr : readS k s = r) :
    CallsR Tryz.prog rf [.pointer (some ⟨g, 0, none⟩)] w fun v w' => ∃ K c V d, v = .agg (opC 0 K r.1.length c V r.2.1.length d r.2.2.1).toArray ∧ RdT w' K r.1 ∧ r.1.length ≤ c ∧ c ≤ maxLen ∧ RdT w' V r.2.1 ∧ r.2.1.length ≤ d ∧ d ≤ maxLen ∧ Rdr w' g r.2.2.2 ∧ Grew w w' 119 (some g) := by
  subst hr
  obtain ⟨l, e⟩ := s
  have hat := hR.at_
  have who : ∀ k' : Int, k' ≠ 1 → k' ≠ 2 → readS k' (l, e) = ([], [], digK (l, e), (rDigest (l, e)).2) := fun k' h1 h2 => by simp [readS, h1, h2]
  rcases h with ⟨rfl, _, _, rfl, _⟩ | ⟨rfl, _, _, rfl, _⟩ | ⟨rfl, _, _, rfl, _⟩ | ⟨rfl, _, _, rfl, _⟩ | ⟨rfl, _, _, rfl, _⟩ | ⟨rfl, _, _, rfl, _⟩
  · refine (C_readPut w hR (p := (rBlock (l, e)).1) (l1 := (rBlock (l, e)).2.1) (e1 := (rBlock (l, e)).2.2) (q := (rBlock (rBlock (l, e)).2).1) (l2 := (rBlock (rBlock (l, e)).2).2.1) (e2 := (rBlock (rBlock (l, e)).2).2.2) ⟨rfl⟩ ⟨rfl⟩).mono ?_
    rintro v w' ⟨K, c, V, d, rfl, h1, h2, h3, h4, h5, h6, h7, h8⟩
    rw [show readS 1 (l, e) = ((rBlock (l, e)).1, (rBlock (rBlock (l, e)).2).1, z32, (rBlock (rBlock (l, e)).2).2) from by simp [readS]]
    exact ⟨K, c, V, d, rfl, h1, h2, h3, h4, h5, h6, h7, Grew.of_chg1 h8 hat⟩
  · refine (C_readDelete w hR (p := (rBlock (l, e)).1) (l1 := (rBlock (l, e)).2.1) (e1 := (rBlock (l, e)).2.2) ⟨rfl⟩).mono ?_
    rintro v w' ⟨K, c, rfl, h1, h2, h3, h7, h8⟩
    rw [show readS 2 (l, e) = ((rBlock (l, e)).1, [], z32, (rBlock (l, e)).2) from by simp [readS]]
    exact ⟨K, c, none, 0, rfl, h1, h2, h3, RdT.nil_, Nat.le_refl _, Nat.zero_le _, h7, Grew.of_chg1 h8 hat⟩
  all_goals
    refine (C_readWho w hR (u := digK (l, e)) (l1 := (rDigest (l, e)).2.1) (e1 := (rDigest (l, e)).2.2) ⟨rfl⟩).mono ?_
    rintro v w' ⟨rfl, h7, h8⟩
    rw [who _ (by decide) (by decide)]
    exact ⟨none, 0, none, 0, rfl, RdT.nil_, Nat.le_refl _, Nat.zero_le _, RdT.nil_, Nat.le_refl _, Nat.zero_le _, h7, Grew.of_chg1 h8 hat⟩
end Go.Proofs.YtahkeoegbjopfaaGreat
/-
  Walks of package ops: ops read from bytes.
-/
namespace Go.Proofs.YtahkeoegbjopfaaGreat
set_option maxRecDepth 100000
open Go.RowKit
/-- So many ops, read. -/
def readL : Nat → RS → Option (List Opn × RS)
  | 0, s => some ([], s)
  | n + 1, s =>
    if 1 ≤ (rWord 1 s).1 ∧ (rWord 1 s).1 ≤ 6 then
      match readS ((rWord 1 s).1 : Nat) (rWord 1 s).2 with
      | (p, q, u, s') =>
        if s'.2 = 0 ∧ goodS ((rWord 1 s).1 : Nat) p.length q.length u = true then (readL n s').map fun r => (((((rWord 1 s).1 : Nat) : Int), p, q, u) :: r.1, r.2) else none
    else none
/-- Ops of bytes, and the error. -/
def readO (b : By) : List Opn × Nat :=
  if 8 < (rWord 1 (b, 0)).1 then ([], 4)
  else match readL (rWord 1 (b, 0)).1 (rWord 1 (b, 0)).2 with
    | none => ([], 4)
    | some (L, s) => if rEnd s = 0 then (L, 0) else ([], 4)
theorem rWord_255 (s : RS) : (rWord 1 s).1 ≤ 255 := by
  have h1 := leVal_lt (rTake (clampN 1) s).1
  have h2 : (rTake (clampN 1) s).1.length ≤ 1 := by
    unfold rTake; (repeat' split) <;> simp [clampN, List.length_take] <;> omega
  have h3 := Nat.pow_le_pow_right (show 0 < 256 by omega) h2
  show leVal _ ≤ 255
  omega
theorem rTake_le (n : Nat) (s : RS) : (rTake n s).1.length ≤ s.1.length ∧ (rTake n s).2.1.length ≤ s.1.length := by
  unfold rTake
  (repeat' split) <;> simp [List.length_take, List.length_drop] <;> omega
theorem rNumber_rest (s : RS) : (rNumber s).2.1.length ≤ s.1.length := by
  obtain ⟨l, e⟩ := s
  by_cases he : e = 0
  · subst he
    rcases l with _ | ⟨c, t⟩
    · rw [rNumber_nil]; exact Nat.le_refl _
    · by_cases h1 : t.length + 1 < lead c
      · rw [rNumber_more h1]; exact Nat.le_refl _
      · by_cases h2 : room (beVal (c.toNat % 2 ^ (8 - lead c)) (t.take (lead c - 1))) = lead c
        · rw [rNumber_ok h1 h2]
          simp only [List.length_drop, List.length_cons]
          omega
        · rw [rNumber_bad h1 h2]; exact Nat.le_refl _
  · rw [rNumber_err he]; exact Nat.le_refl _
theorem rBlock_le (s : RS) : (rBlock s).1.length ≤ s.1.length ∧ (rBlock s).2.1.length ≤ s.1.length := by
  have h := rNumber_rest s
  unfold rBlock
  (repeat' split) <;> simp [List.length_take, List.length_drop] <;> omega
theorem rWord_rest (z : Int) (s : RS) : (rWord z s).2.1.length ≤ s.1.length := (rTake_le _ s).2
theorem readS_le (k : Int) (s : RS) : (readS k s).1.length ≤ s.1.length ∧ (readS k s).2.1.length ≤ s.1.length ∧ (readS k s).2.2.2.1.length ≤ s.1.length := by
  have h1 := rBlock_le s
  have h2 := rBlock_le (rBlock s).2
  have h3 := rTake_le 32 s
  unfold readS
  (repeat' split)
  · exact ⟨h1.1, by dsimp only; omega, by dsimp only; omega⟩
  · exact ⟨h1.1, by simp, h1.2⟩
  · exact ⟨by simp, by simp, h3.2⟩
section
variable {fn : Func} {F : Ending → World → Prop} {N : Nat} {ks : List K} {ops : Array Oper} {tg : Tags} {l : List Oper} {fr : Fr} {w : World} {ty t' : TypeId} {pos : String} {aft : Array Edge} {gd : Option (Nat × Bool)} {d0 g : Nat} {x y : Operand} {k k' : Int} {K V : Option Addr} {n c m d : Nat} {u : Ky}
--@ rule makeSlice l wl_mkO
theorem wl_mkO {k1 k2 : IntKind} {C : Int} (n : Nat) (hx : fr.ev x = some (.int k1 0)) (hy : fr.ev y = some (.int k2 C)) (hC : C = (n : Int)) (hn : n ≤ 1000000)
    (hk : ∀ A w', OwnO w' w.heap.size w'.heap.size A n [] → Below w.heap.size w w' → WL Tryz.prog fn F N ks ops tg.tail l ((d0, .slice A 0 n) :: fr) w')
    (ht : tg.loud = true := by rfl) (hg : onG ops fr gd = true := by rfl) (hd : Nat.blt d0 N = true := by rfl) : WL Tryz.prog fn F N ks ops tg (⟨some d0, .makeSlice 35 x y, ty, pos, aft, gd⟩ :: l) fr w := by
  subst hC
  obtain ⟨i, hi, hz, hs, hb⟩ := info_parts Tryz.rowO.hi
  obtain ⟨w', hrun, r1, r2⟩ := run_make_own (P := Tryz.prog) w w.heap.size 35 54 i _ 35 Tryz.rowO.ht hi hz hs k1 k2 n (by rw [hb]; omega) (by simp only [maxLen]; omega) (Nat.le_refl _)
  have hbl : Below w.heap.size w w' := (Below.refl _ _).grown r2 (Nat.le_refl _) (by simp)
  have ho : OwnO w' w.heap.size w'.heap.size (some ⟨w.heap.size, 0, none⟩) n [] := ⟨[], ⟨r1, fun b hb => (World.ownsRow.lt r1 b (by rw [blk_own]; exact hb)).2⟩, fun i h => absurd h (Nat.not_lt_zero _)⟩
  exact wl_v (fun a ha o ho _ => by simp [execOp, ho, ha.ev hx, ha.ev hy, hrun]) (hk _ w' ho hbl) ht hg hd (.inr (grown_of_below hbl _))
--@ rule! store l wl_stKind
theorem wl_stKind (hx : fr.ev x = some (.pointer (some ⟨g, 0 + 0, none⟩))) (hB : Blk w g t' (opC k' K n c V m d u)) (hy : fr.ev y = some (.int .i64 k))
    (hk : ∀ w', Blk w' g t' (opC k K n c V m d u) → Grew w w' t' (some g) → w'.heap.size = w.heap.size → WL Tryz.prog fn F N ks ops tg.tail l fr w') (ht : tg.loud = true := by rfl) (hg : onG ops fr gd = true := by rfl) (hq : tg.calm = false ∨ tg.rw.may (some g) := by exact .inl rfl) :
    WL Tryz.prog fn F N ks ops tg (⟨none, .store 3 x y, ty, pos, aft, gd⟩ :: l) fr w :=
  wl_storeg1 Tryz.sizeOf3 hx hy rfl hB (by rw [opC_length]; omega) hk ht hg hq
end
theorem C_opsRead {A : Option Addr} {b : By} {r : List Opn × Nat} {n c : Nat} (w : World) (hA : Rd w A b) (hr : readO b = r) (hn : n = b.length) (hl : b.length ≤ 4000000) :
    CallsR Tryz.prog 13 [.slice A n c] w fun v w' => ∃ A' c', v = .tuple #[.slice A' r.1.length c', .int .i64 (r.2 : Int)] ∧ OwnO w' w.heap.size w'.heap.size A' c' r.1 ∧ Below w.heap.size w w' := by
  subst hn
  obtain ⟨⟨n0, l0, e0⟩, hw0⟩ : ∃ s, rWord 1 (b, 0) = s := ⟨_, rfl⟩
  have hle := rWord_255 (b, 0)
  unfold readO at hr
  rw [hw0] at hr hle
  dsimp only at hr hle
  have e1 : WordR 1 b 0 n0 l0 e0 := ⟨hw0⟩
  have hl0 : l0.length ≤ 4000000 := by
    have := rWord_rest 1 (b, 0)
    rw [hw0] at this
    exact Nat.le_trans this hl
  refine callsR Tryz.func13 rfl rfl (by kernel_rfl) rfl ?_
  have hw := Below.refl w.heap.size w
  refine rk_seq ?_
  refine rk_region ?_
  refine wl_p (fun _ => o_assign rfl) ?_
  refine wl_p (fun _ => o_assign rfl) ?_
  refine wl_nil ?_
  refine rk_seq ?_
  refine rk_region ?_
  refine wl_p (fun _ => o_move rfl) ?_
  refine wl_call rfl (C_rRead _ hA rfl (by omega)) ?_
  rintro v12 w12 ⟨g12, ⟨rfl, ⟨i12, ⟨i12_1, ⟨f12, b12⟩⟩⟩⟩⟩
  have s12 := b12.size
  replace hw := hw.trans (b12.mono hw.size)
  refine wl_p (fun _ => o_assign rfl) ?_
  refine wl_nil ?_
  refine rk_seq ?_
  refine rk_region ?_
  refine wl_p (fun _ => o_move rfl) ?_
  refine wl_call rfl (C_rWord _ f12 e1) ?_
  rintro v14 w14 ⟨rfl, ⟨f14, ⟨g14, g14_1⟩⟩⟩
  have s14 := g14.size
  replace hw := hw.trans (below_of_grownBy g14.g hw.size (by omega))
  clear f12
  refine wl_p (fun _ => o_convi64 (src := 43) (dst := 3) Tryz.underlying43 Tryz.underlying3 rfl (by omega) (by omega)) ?_
  refine wl_p (fun _ => o_assign rfl) ?_
  refine wl_nil ?_
  refine rk_seq ?_
  refine rk_seq ?_
  refine rk_region ?_
  refine wl_p (fun _ => o_move rfl) ?_
  refine wl_p (fun _ => o_gt rfl rfl) ?_
  refine wl_nil ?_
  refine rk_if rfl (fun h17 => ?_) (fun h17 => ?_)
  · rw [if_pos (by omega)] at hr
    subst hr
    refine rk_seq ?_
    refine rk_region ?_
    refine wl_p (fun _ => o_assign rfl) ?_
    refine wl_p (fun _ => o_assign rfl) ?_
    refine wl_nil ?_
    refine ret2 rfl rfl rfl ?_
    exact ⟨_, _, rfl, OwnO.nil_, hw⟩
  rw [if_neg (by omega)] at hr
  refine rk_skip ?_
  refine rk_seq ?_
  refine rk_region ?_
  refine wl_p (fun _ => o_move rfl) ?_
  refine wl_mkO (n0) rfl rfl rfl (by omega) ?_
  rintro A19 w19 f19 b19
  have qf19 := f19.cap
  have s19 := b19.size
  replace hw := hw.trans (b19.mono hw.size)
  replace f14 := f14.u b19
  refine wl_p (fun _ => o_assign rfl) ?_
  refine wl_nil ?_
  refine rk_seq ?_
  refine rk_seq ?_
  refine rk_region ?_
  refine wl_p (fun _ => o_move rfl) ?_
  refine wl_p (fun _ => o_move rfl) ?_
  refine wl_nil ?_
  refine rk_block ?_
  refine rk_joinf (fun fb fr w3 => ∃ A' c' L l e, fr = [(6, .slice A' L.length c')] ++ fb.drop 3 ∧ readL n0 (l0, e0) = some (L, (l, e)) ∧ OwnO w3 w.heap.size w3.heap.size A' c' L ∧ Rdr w3 g12 (l, e) ∧ w19.heap.size ≤ w3.heap.size ∧ Below w.heap.size w w3) ?_ (fun ks hj => ?_)
  rotate_left
  · refine rk_loopf (fun fb m fr w3 => ∃ (i : Nat) (v : Int) (A' : Option Addr) (c' : Nat) (L : List Opn) (l : By) (e : Nat), fr = [(21, .int .i64 v), (20, .int .i64 (n0 : Int)), (6, .slice A' L.length c')] ++ fb.drop 3 ∧ v = i ∧ i ≤ n0 ∧ m = n0 - i ∧ L.length = i ∧ readL n0 (l0, e0) = (readL (n0 - i) (l, e)).map (fun r => (L ++ r.1, r.2)) ∧ l.length ≤ 4000000 ∧ OwnO w3 w.heap.size w3.heap.size A' c' L ∧ Rdr w3 g12 (l, e) ∧ w19.heap.size ≤ w3.heap.size ∧ Below w.heap.size w w3) (n := n0) (Fr.le_of (by kernel_rfl) (by kernel_rfl) (by repeat' constructor)) ⟨0, _, A19, _, [], l0, e0, rfl, rfl, by omega, rfl, rfl, by simp, hl0, OwnS.base f19 (by omega) (Nat.le_refl _), f14, Nat.le_refl _, hw⟩ ?_
    clear hw f19 f14
    rintro m fr w3 ⟨i, v, A', c', L, l, e, rfl, rfl, hi, rfl, hLl, hrd, hll, fo, f14, hsz, hw⟩
    have shw := hw.size
    first | refine rk_frame (by simp only [List.cons_append, List.nil_append, List.drop_succ_cons, List.drop_zero]; rfl) ?_ | refine wl_frame (by simp only [List.cons_append, List.nil_append, List.drop_succ_cons, List.drop_zero]; rfl) ?_
    refine rk_seq ?_
    refine rk_region ?_
    refine wl_p (fun _ => o_lt rfl rfl) ?_
    refine wl_nil ?_
    refine rk_seq ?_
    refine rk_if rfl (fun h22 => ?_) (fun h22 => ?_)
    · have hin : i < n0 := by omega
      obtain ⟨⟨k1, l1, e1⟩, hk1⟩ : ∃ s, rWord 1 (l, e) = s := ⟨_, rfl⟩
      have e2 : WordR 1 l e k1 l1 e1 := ⟨hk1⟩
      have hk1le := rWord_255 (l, e)
      rw [hk1] at hk1le
      dsimp only at hk1le
      rw [show n0 - i = (n0 - i - 1) + 1 by omega, readL, hk1] at hrd
      dsimp only at hrd
      by_cases hk : 1 ≤ k1 ∧ k1 ≤ 6
      · obtain ⟨hka, hkb⟩ := hk
        rw [if_pos ⟨hka, hkb⟩] at hrd
        obtain ⟨⟨p, q, u, l2, e3⟩, hrs⟩ : ∃ s, readS (k1 : Nat) (l1, e1) = s := ⟨_, rfl⟩
        rw [hrs] at hrd
        dsimp only at hrd
        have hl1 : l1.length ≤ 4000000 := by
          have := rWord_rest 1 (l, e)
          rw [hk1] at this
          exact Nat.le_trans this hll
        obtain ⟨n1, n2, n3⟩ := readS_le (k1 : Nat) (l1, e1)
        rw [hrs] at n1 n2 n3
        dsimp only at n1 n2 n3
        refine rk_skip ?_
        refine rk_seq ?_
        refine rk_block ?_
        refine rk_seq ?_
        refine rk_region ?_
        refine wl_p (fun _ => o_move rfl) ?_
        refine wl_call rfl (C_rWord _ f14 e2) ?_
        rintro v24 w24 ⟨rfl, ⟨f24, ⟨g24, g24_1⟩⟩⟩
        have s24 := g24.size
        replace hw := hw.trans (below_of_grownBy g24.g hw.size (by omega))
        replace fo := fo.y g24 (by decide)
        clear f14
        refine wl_p (fun _ => o_convi64 (src := 43) (dst := 3) Tryz.underlying43 Tryz.underlying3 rfl (by omega) (by omega)) ?_
        refine wl_p (fun _ => o_assign rfl) ?_
        refine wl_nil ?_
        refine rk_seq ?_
        refine rk_region ?_
        refine wl_p (fun _ => o_move rfl) ?_
        refine wl_call rfl (C_formOk _ (by omega) (by omega)) ?_
        rintro v28 w28 ⟨gf28, ⟨pf28, ⟨rf28, ⟨df28, ⟨rfl, ⟨i28, b28⟩⟩⟩⟩⟩⟩
        have s28 := b28.size
        replace hw := hw.trans (b28.mono hw.size)
        replace fo := fo.u b28
        replace f24 := f24.u b28
        refine wl_p (fun _ => o_move rfl) ?_
        refine wl_p (fun _ => o_ext20 rfl) ?_
        refine wl_p (fun _ => o_ext21 rfl) ?_
        refine wl_allocg [_, _, _, _] Tryz.zeroValue89 (by rfl) ?_
        rintro g8 w8 f8 b8 i8 i8_1
        have s8 := b8.size
        replace hw := hw.trans (b8.mono hw.size)
        replace f24 := f24.u b8
        replace fo := fo.u b8
        refine wl_storega Tryz.sizeOf89 rfl rfl (by rfl) (oneCell_of (by rfl)) f8 (by rfl) ?_
        rintro w_1 f g e_1
        have s := g.size
        replace hw := hw.trans (below_of_grownBy g.g hw.size (by omega))
        replace fo := fo.y g (by decide)
        replace f24 := f24.y g (by decide)
        clear f8
        refine wl_p (fun _ => o_assign rfl) ?_
        refine wl_nil ?_
        refine rk_seq ?_
        refine rk_seq ?_
        refine rk_region ?_
        refine wl_p (fun _ => o_move rfl) ?_
        refine wl_p (fun _ => o_not rfl) ?_
        refine wl_nil ?_
        refine rk_false rfl ?_
        refine rk_skip ?_
        refine rk_seq ?_
        refine rk_region ?_
        refine wl_p (fun _ => o_faddr (s := 89) (i := 2) (off := 2) Tryz.underlying89 rfl Tryz.sizeOf86 rfl rfl rfl) ?_
        refine wl_r (o_loadbg Tryz.isAgg86 rfl f (by rfl)) ?_
        refine wl_p (fun _ => o_move rfl) ?_
        refine wl_callf (xs := [_]) (cs := []) rfl rfl (sh4_read i28 w_1 f24 hrs) ?_
        rintro _ w36 ⟨K36, c36, V36, d36, rfl, p1, p2, p3, p4, p5, p6, f24, g36⟩
        replace f := f.y g36 (by decide)
        replace fo := fo.y g36 (by decide)
        replace hw := hw.trans (g36.below hw.size (fun k hk => by injection hk with hk; omega))
        dsimp only at p1 p2 p4 p5 f24 ⊢
        have shw2 := hw.size
        have s36 := g36.size
        by_cases he : e3 = 0
        · subst he
          refine wl_allocOp ?_
          rintro g10 w10 f10 b10 i10 i10_1
          have s10 := b10.size
          replace hw := hw.trans (b10.mono hw.size)
          replace f24 := f24.u b10
          replace fo := fo.u b10
          replace f := f.u b10
          replace p4 := p4.u b10
          replace p1 := p1.u b10
          refine wl_stOpB rfl f10 rfl ?_
          rintro w_2 f_1 g_1 e_2
          have s_1 := g_1.size
          replace hw := hw.trans (below_of_grownBy g_1.g hw.size (by omega))
          replace p1 := p1.y g_1 (by decide)
          replace p4 := p4.y g_1 (by decide)
          replace f := f.k g_1.g (ap_some (by omega))
          replace fo := fo.q g_1 (ap_some (by omega)) (by decide)
          replace f24 := f24.y g_1 (by decide)
          clear f10
          refine wl_nil ?_
          refine rk_seq ?_
          refine rk_region ?_
          refine wl_p (fun _ => o_move rfl) ?_
          refine wl_p (fun _ => o_faddr (s := 54) (i := 0) (off := 0) Tryz.underlying54 rfl Tryz.sizeOf3 rfl rfl rfl) ?_
          refine wl_stKind rfl f_1 rfl ?_
          rintro w_3 f_2 g_2 e_3
          have s_2 := g_2.size
          replace hw := hw.trans (below_of_grownBy g_2.g hw.size (by omega))
          replace f24 := f24.y g_2 (by decide)
          replace fo := fo.q g_2 (ap_some (by omega)) (by decide)
          replace f := f.k g_2.g (ap_some (by omega))
          replace p4 := p4.y g_2 (by decide)
          replace p1 := p1.y g_2 (by decide)
          clear f_1
          refine wl_nil ?_
          refine rk_seq ?_
          refine rk_seq ?_
          refine rk_region ?_
          refine wl_p (fun _ => o_move rfl) ?_
          refine wl_call rfl (C_rErr _ f24) ?_
          rintro v40 w40 ⟨rfl, rfl⟩
          refine wl_p (fun _ => o_ne rfl rfl) ?_
          refine wl_p (fun _ => o_move rfl) ?_
          refine wl_p (fun _ => o_faddr (s := 89) (i := 0) (off := 0) Tryz.underlying89 rfl Tryz.sizeOf84 rfl rfl rfl) ?_
          refine wl_r (o_loadbg Tryz.isAgg84 rfl f (by rfl)) ?_
          refine wl_r (o_loadag Tryz.isAgg54 Tryz.sizeOf54 rfl f_2 (opC_length ..)) ?_
          refine wl_know 42 false rfl (decide_eq_false (by omega)) ?_
          refine wl_callf (xs := [_]) (cs := []) rfl rfl (sh4_good i28 w40 (by omega) (by omega)) ?_
          rintro _ w46 ⟨rfl, b46⟩
          have sb46 := b46.size
          replace hw := hw.trans (b46.mono hw.size)
          replace p1 := p1.u b46
          replace p4 := p4.u b46
          replace f := f.u b46
          replace fo := fo.u b46
          replace f24 := f24.u b46
          replace f_2 := f_2.u b46
          cases hgd : goodS k1 p.length q.length u
          · rw [if_neg (fun h => by rw [hgd] at h; cases h.2)] at hrd
            rw [hrd] at hr
            subst hr
            refine wl_p (fun _ => o_not rfl) ?_
            refine wl_p (fun _ => o_pick_f rfl rfl) ?_
            refine wl_nil ?_
            refine rk_true rfl ?_
            refine rk_seq ?_
            refine rk_region ?_
            refine wl_p (fun _ => o_assign rfl) ?_
            refine wl_p (fun _ => o_assign rfl) ?_
            refine wl_nil ?_
            refine ret2 rfl rfl rfl ?_
            exact ⟨_, _, rfl, OwnO.nil_, hw⟩
          · rw [if_pos ⟨rfl, hgd⟩, Option.map_map] at hrd
            have hkw : (Lit.int .i64 (k1 : Int)).wf = true := by
              obtain ⟨x1, x2⟩ := goodS_le hgd
              rcases (show k1 = 1 ∨ k1 = 2 ∨ k1 = 3 ∨ k1 = 4 ∨ k1 = 5 ∨ k1 = 6 by omega) with rfl | rfl | rfl | rfl | rfl | rfl <;> rfl
            refine wl_p (fun _ => o_not rfl) ?_
            refine wl_p (fun _ => o_pick_f rfl rfl) ?_
            refine wl_nil ?_
            refine rk_false rfl ?_
            refine rk_skip ?_
            refine rk_region ?_
            refine wl_p (fun _ => o_move rfl) ?_
            refine wl_r (o_loadag Tryz.isAgg54 Tryz.sizeOf54 rfl f_2 (opC_length ..)) ?_
            refine wl_litO1 (by rfl) rfl p1 p4 rfl rfl (by omega) (by omega) (by omega) (by omega) hkw (by rfl) ?_
            rintro A51 w51 f51 b51
            have qf51 := f51.cap
            have s51 := b51.size
            replace hw := hw.trans (b51.mono hw.size)
            replace f_2 := f_2.u b51
            replace f24 := f24.u b51
            replace fo := fo.u b51
            replace f := f.u b51
            replace p4 := p4.u b51
            replace p1 := p1.u b51
            refine wl_appO rfl fo rfl rfl f51.to_ROT (by rfl) (by omega) hw.size ?_
            rintro A52 c52 w52 f52 g52 b52
            have qf52 := f52.cap
            have s52 := g52.size
            replace hw := hw.trans (b52.mono (by omega))
            replace p1 := p1.y g52 (by decide)
            replace p4 := p4.y g52 (by decide)
            replace f := f.y g52 (by decide)
            replace f24 := f24.y g52 (by decide)
            replace f_2 := f_2.k g52.g (fo.ap (by omega))
            replace f51 := f51.q g52 (fo.ap (by omega)) (by decide)
            clear fo
            refine wl_p (fun _ => o_assign rfl) ?_
            refine wl_nil ?_
            refine rk_blk ?_
            refine rk_region ?_
            refine wl_p (fun _ => o_add rfl rfl (by omega) (by omega)) ?_
            refine wl_p (fun _ => o_move rfl) ?_
            refine wl_nil ?_
            exact rk_againf (Fr.le_of (by kernel_rfl) (by kernel_rfl) (by repeat' constructor)) ⟨i + 1, (i : Int) + 1, A52, c52, L ++ [((k1 : Int), p, q, u)], l2, 0, rfl, by omega, by omega, rfl, by simp [hLl], by
              rw [hrd, show n0 - (i + 1) = n0 - i - 1 by omega]
              congr 1
              funext r
              simp, by omega, f52, f24, by omega, hw⟩ (by omega)
        · rw [if_neg (fun h => he h.1)] at hrd
          rw [hrd] at hr
          subst hr
          refine wl_allocOp ?_
          rintro g10 w10 f10 b10 i10 i10_1
          have s10 := b10.size
          replace hw := hw.trans (b10.mono hw.size)
          replace fo := fo.u b10
          replace f := f.u b10
          replace f24 := f24.u b10
          replace p4 := p4.u b10
          replace p1 := p1.u b10
          refine wl_stOpB rfl f10 rfl ?_
          rintro w_2 f_1 g_1 e_2
          have s_1 := g_1.size
          replace hw := hw.trans (below_of_grownBy g_1.g hw.size (by omega))
          replace p1 := p1.y g_1 (by decide)
          replace p4 := p4.y g_1 (by decide)
          replace f24 := f24.y g_1 (by decide)
          replace f := f.k g_1.g (ap_some (by omega))
          replace fo := fo.q g_1 (ap_some (by omega)) (by decide)
          clear f10
          refine wl_nil ?_
          refine rk_seq ?_
          refine rk_region ?_
          refine wl_p (fun _ => o_move rfl) ?_
          refine wl_p (fun _ => o_faddr (s := 54) (i := 0) (off := 0) Tryz.underlying54 rfl Tryz.sizeOf3 rfl rfl rfl) ?_
          refine wl_stKind rfl f_1 rfl ?_
          rintro w_3 f_2 g_2 e_3
          have s_2 := g_2.size
          replace hw := hw.trans (below_of_grownBy g_2.g hw.size (by omega))
          replace fo := fo.q g_2 (ap_some (by omega)) (by decide)
          replace f := f.k g_2.g (ap_some (by omega))
          replace f24 := f24.y g_2 (by decide)
          replace p4 := p4.y g_2 (by decide)
          replace p1 := p1.y g_2 (by decide)
          clear f_1
          refine wl_nil ?_
          refine rk_seq ?_
          refine rk_seq ?_
          refine rk_region ?_
          refine wl_p (fun _ => o_move rfl) ?_
          refine wl_call rfl (C_rErr _ f24) ?_
          rintro v40 w40 ⟨rfl, rfl⟩
          refine wl_p (fun _ => o_ne rfl rfl) ?_
          refine wl_p (fun _ => o_move rfl) ?_
          refine wl_know 42 true rfl (decide_eq_true (by omega)) ?_
          refine wl_off ?_
          refine wl_off ?_
          refine wl_off ?_
          refine wl_off ?_
          refine wl_off ?_
          refine wl_p (fun _ => o_pick_t rfl rfl) ?_
          refine wl_nil ?_
          refine rk_true rfl ?_
          refine rk_seq ?_
          refine rk_region ?_
          refine wl_p (fun _ => o_assign rfl) ?_
          refine wl_p (fun _ => o_assign rfl) ?_
          refine wl_nil ?_
          refine ret2 rfl rfl rfl ?_
          exact ⟨_, _, rfl, OwnO.nil_, hw⟩
      · rw [if_neg hk] at hrd
        rw [hrd] at hr
        subst hr
        have hk2 : (k1 : Int) < 1 ∨ 6 < (k1 : Int) := by omega
        refine rk_skip ?_
        refine rk_seq ?_
        refine rk_block ?_
        refine rk_seq ?_
        refine rk_region ?_
        refine wl_p (fun _ => o_move rfl) ?_
        refine wl_call rfl (C_rWord _ f14 e2) ?_
        rintro v24 w24 ⟨rfl, ⟨f24, ⟨g24, g24_1⟩⟩⟩
        have s24 := g24.size
        replace hw := hw.trans (below_of_grownBy g24.g hw.size (by omega))
        replace fo := fo.y g24 (by decide)
        clear f14
        refine wl_p (fun _ => o_convi64 (src := 43) (dst := 3) Tryz.underlying43 Tryz.underlying3 rfl (by omega) (by omega)) ?_
        refine wl_p (fun _ => o_assign rfl) ?_
        refine wl_nil ?_
        refine rk_seq ?_
        refine rk_region ?_
        refine wl_p (fun _ => o_move rfl) ?_
        refine wl_call rfl (C_formBad _ (by omega)) ?_
        rintro v28 w28 ⟨rfl, b28⟩
        have s28 := b28.size
        replace hw := hw.trans (b28.mono hw.size)
        replace fo := fo.u b28
        replace f24 := f24.u b28
        refine wl_p (fun _ => o_move rfl) ?_
        refine wl_p (fun _ => o_ext20 rfl) ?_
        refine wl_p (fun _ => o_ext21 rfl) ?_
        refine wl_allocg [_, _, _, _] Tryz.zeroValue89 (by rfl) ?_
        rintro g8 w8 f8 b8 i8 i8_1
        have s8 := b8.size
        replace hw := hw.trans (b8.mono hw.size)
        replace f24 := f24.u b8
        replace fo := fo.u b8
        refine wl_storega Tryz.sizeOf89 rfl rfl (by rfl) (by decide) f8 (by rfl) ?_
        rintro w_1 f g e_1
        have s := g.size
        replace hw := hw.trans (below_of_grownBy g.g hw.size (by omega))
        replace fo := fo.y g (by decide)
        replace f24 := f24.y g (by decide)
        clear f8
        refine wl_p (fun _ => o_assign rfl) ?_
        refine wl_nil ?_
        refine rk_seq ?_
        refine rk_seq ?_
        refine rk_region ?_
        refine wl_p (fun _ => o_move rfl) ?_
        refine wl_p (fun _ => o_not rfl) ?_
        refine wl_nil ?_
        refine rk_true rfl ?_
        refine rk_seq ?_
        refine rk_region ?_
        refine wl_p (fun _ => o_assign rfl) ?_
        refine wl_p (fun _ => o_assign rfl) ?_
        refine wl_nil ?_
        refine ret2 rfl rfl rfl ?_
        exact ⟨_, _, rfl, OwnO.nil_, hw⟩
    · refine rk_exit rfl ?_
      have e : i = n0 := by omega
      subst e
      rw [Nat.sub_self, readL] at hrd
      exact rk_tof hj (Fr.le_of (by kernel_rfl) (by kernel_rfl) (by repeat' constructor)) ⟨A', c', L, l, e, rfl, by simpa using hrd, fo, f14, hsz, hw⟩
  clear hw f19 f14
  rintro fr w3 ⟨A', c', L, l, e, rfl, hrd, fo, f14, hsz, hw⟩
  have shw := hw.size
  rw [hrd] at hr
  dsimp only at hr
  first | refine rk_frame (by simp only [List.cons_append, List.nil_append, List.drop_succ_cons, List.drop_zero]; rfl) ?_ | refine wl_frame (by simp only [List.cons_append, List.nil_append, List.drop_succ_cons, List.drop_zero]; rfl) ?_
  by_cases hE : rEnd (l, e) = 0
  · rw [if_pos hE] at hr
    subst hr
    refine rk_seq ?_
    refine rk_seq ?_
    refine rk_region ?_
    refine wl_p (fun _ => o_move rfl) ?_
    refine wl_call rfl (C_rEnd _ f14) ?_
    rintro v55 w55 ⟨rfl, b55⟩
    have s55 := b55.size
    replace hw := hw.trans (b55.mono hw.size)
    replace f14 := f14.u b55
    replace fo := fo.u b55
    refine wl_p (fun _ => o_ne rfl rfl) ?_
    refine wl_nil ?_
    refine rk_if rfl (fun h56 => absurd h56 (by omega)) (fun h56 => ?_)
    refine rk_skip ?_
    refine rk_seq ?_
    refine rk_region ?_
    refine wl_p (fun _ => o_move rfl) ?_
    refine wl_p (fun _ => o_assign rfl) ?_
    refine wl_p (fun _ => o_assign rfl) ?_
    refine wl_nil ?_
    refine ret2 rfl rfl rfl ?_
    exact ⟨A', c', rfl, fo.base (Nat.le_refl _) (by omega), hw⟩
  · rw [if_neg hE] at hr
    subst hr
    refine rk_seq ?_
    refine rk_seq ?_
    refine rk_region ?_
    refine wl_p (fun _ => o_move rfl) ?_
    refine wl_call rfl (C_rEnd _ f14) ?_
    rintro v55 w55 ⟨rfl, b55⟩
    have s55 := b55.size
    replace hw := hw.trans (b55.mono hw.size)
    replace f14 := f14.u b55
    replace fo := fo.u b55
    refine wl_p (fun _ => o_ne rfl rfl) ?_
    refine wl_nil ?_
    refine rk_if rfl (fun h56 => ?_) (fun h56 => h56.elim (by omega))
    refine rk_seq ?_
    refine rk_region ?_
    refine wl_p (fun _ => o_assign rfl) ?_
    refine wl_p (fun _ => o_assign rfl) ?_
    refine wl_nil ?_
    refine ret2 rfl rfl rfl ?_
    exact ⟨_, _, rfl, OwnO.nil_, hw⟩
end Go.Proofs.YtahkeoegbjopfaaGreat
/-
  Walks of package ops: keys compared; whether ops and states are the same.
-/
namespace Go.Proofs.YtahkeoegbjopfaaGreat
set_option maxRecDepth 100000
open Go.RowKit
section
variable {N : Nat} {fr : Fr} {w : World} {ty t' : TypeId} {x : Operand} {g : Nat} {u : Ky}
--@ rule load r o_ldKyB
theorem o_ldKyB (hx : fr.ev x = some (.pointer (some ⟨g, 0, none⟩))) (hB : Blk w g t' (B8 u.1)) : OpV Tryz.prog N fr w (.load 42 x) ty (.agg (B8 u.1).toArray) w :=
  o_loadCut Tryz.isAgg42 Tryz.sizeOf42 hx hB (by rw [List.drop_zero, List.take_of_length_le (by rw [B8_length, u.2]; omega)]) (by rw [B8_length, u.2])
end
theorem C_opsCompare {u v : Ky} (w : World) : CallsR Tryz.prog 88 [.agg (B8 u.1).toArray, .agg (B8 v.1).toArray] w fun x w' => x = .int .i64 (cmpL u.1 v.1) ∧ Below w.heap.size w w' := by
  refine callsR Tryz.func88 rfl rfl (by kernel_rfl) rfl ?_
  have hw := Below.refl w.heap.size w
  refine rk_seq ?_
  refine rk_region ?_
  refine wl_boxg _ rfl (by rfl) ?_
  rintro g2 w2 f2 b2 i2 i2_1
  have s2 := b2.size
  replace hw := hw.trans (b2.mono hw.size)
  refine wl_boxg _ rfl (by rfl) ?_
  rintro g3 w3 f3 b3 i3 i3_1
  have s3 := b3.size
  replace hw := hw.trans (b3.mono hw.size)
  replace f2 := f2.u b3
  refine wl_p (fun _ => o_assign rfl) ?_
  refine wl_nil ?_
  refine rk_seq ?_
  refine rk_draw (id := 1) (none) [0, 0, 3, 7] [0, 0, 3, 7] 4 0 [(.p, 0), (.p, 1), (.l, 2), (.p, 3)] (by kernel_rfl) (by kernel_rfl) (by kernel_rfl) (by kernel_rfl) (by kernel_rfl) ?_
  replace hw := hw.drew
  replace f2 := f2.d
  replace f3 := f3.d
  refine wl_p (fun _ => o_slice_arr (t := 42) Tryz.underlying42 Tryz.sizeOf5 rfl) ?_
  refine wl_p (fun _ => o_slice_arr (t := 42) Tryz.underlying42 Tryz.sizeOf5 rfl) ?_
  refine wl_call rfl (C_bCompare _ f2.rdB.r f3.rdB.r u.2.symm v.2.symm) ?_
  rintro _ _ ⟨rfl, rfl⟩
  refine wl_p (fun _ => o_assign rfl) ?_
  refine wl_nild ?_
  refine ret1 rfl rfl ?_
  exact ⟨rfl, hw⟩
/-- Keys in rising order. -/
def IncK (L : List Ky) : Prop := ∀ i (h : i < L.length), 0 < i → cmpL L[i - 1].1 L[i].1 < 0
instance (L : List Ky) : Decidable (IncK L) := by unfold IncK; infer_instance
theorem C_increasing {A : Option Addr} {L : List Ky} {n c : Nat} (w : World) (hA : RKs w A L) (hn : n = L.length) (hl : L.length ≤ 4000000) :
    CallsR Tryz.prog 46 [.slice A n c] w fun v w' => v = .bool (decide (IncK L)) ∧ Below w.heap.size w w' := by
  subst hn
  refine callsR Tryz.func46 rfl rfl (by kernel_rfl) rfl ?_
  have hw := Below.refl w.heap.size w
  refine rk_seq ?_
  refine rk_region ?_
  refine wl_p (fun _ => o_assign rfl) ?_
  refine wl_nil ?_
  refine rk_seq ?_
  refine rk_seq ?_
  refine rk_region ?_
  refine wl_p (fun _ => o_assign rfl) ?_
  refine wl_nil ?_
  refine rk_block ?_
  refine rk_joinf (fun fb fr w2 => fr = [] ++ fb.drop 1 ∧ IncK L ∧ Below w.heap.size w w2) ?_ (fun ks hj => ?_)
  rotate_left
  · refine rk_loopf (fun fb m fr w2 => ∃ (i : Nat) (v : Int), fr = [(3, .int .i64 v)] ++ fb.drop 1 ∧ v = (i : Int) + 1 ∧ i ≤ L.length ∧ m = L.length - i ∧ (∀ j (h : j < L.length), j ≤ i → 0 < j → cmpL L[j - 1].1 L[j].1 < 0) ∧ Below w.heap.size w w2) (n := L.length) (Fr.le_of (by kernel_rfl) (by kernel_rfl) (by repeat' constructor)) ⟨0, _, rfl, rfl, by omega, rfl, fun j h h1 h2 => absurd h2 (by omega), hw⟩ ?_
    clear hw
    rintro m fr w2 ⟨i, v, rfl, rfl, hi, rfl, hok, hw⟩
    have shw := hw.size
    first | refine rk_frame (by simp only [List.cons_append, List.nil_append, List.drop_succ_cons, List.drop_zero]; rfl) ?_ | refine wl_frame (by simp only [List.cons_append, List.nil_append, List.drop_succ_cons, List.drop_zero]; rfl) ?_
    refine rk_seq ?_
    refine rk_seq ?_
    refine rk_region ?_
    refine wl_p (fun _ => o_move rfl) ?_
    refine wl_p (fun _ => o_move rfl) ?_
    refine wl_p (fun _ => o_len (t := 29) Tryz.underlying29 rfl) ?_
    refine wl_p (fun _ => o_lt rfl rfl) ?_
    refine wl_nil ?_
    refine rk_if rfl (fun h7 => ?_) (fun h7 => ?_)
    · have hil : i + 1 < L.length := by omega
      refine rk_skip ?_
      refine rk_seq ?_
      refine rk_block ?_
      refine rk_seq ?_
      refine rk_draw (id := 4) (none) [0, 0, 2, 5, 8, 0, 0, 96, 128, 272, 512] [0, 0, 2, 7, 15, 0, 0, 96, 224, 511, 1023] 512 0 [(.p, 0), (.p, 1), (.p, 2), (.p, 3), (.r, 4), (.p, 5), (.p, 6), (.p, 7), (.r, 8), (.l, 9), (.p, 10)] (by kernel_rfl) (by kernel_rfl) (by kernel_rfl) (by kernel_rfl) (by kernel_rfl) ?_
      replace hw := hw.drew
      refine wl_p (fun _ => o_move rfl) ?_
      refine wl_p (fun _ => o_move rfl) ?_
      refine wl_p (fun _ => o_sub rfl rfl (by omega) (by omega)) ?_
      refine wl_p (fun _ => (o_iaddrA (i + 1 - 1) Tryz.underlying29 Tryz.sizeOf42 rfl rfl (by omega) (hA.some_ (by omega)) (by omega))) ?_
      refine wl_r (o_ldKs rfl hA hw (by omega)) ?_
      refine wl_p (fun _ => o_move rfl) ?_
      refine wl_p (fun _ => o_move rfl) ?_
      refine wl_p (fun _ => (o_iaddrA (i + 1) Tryz.underlying29 Tryz.sizeOf42 rfl rfl (by omega) (hA.some_ (by omega)) (by omega))) ?_
      refine wl_r (o_ldKs rfl hA hw (by omega)) ?_
      refine wl_call rfl (C_opsCompare _) ?_
      rintro v19 w19 ⟨rfl, b19⟩
      simp only [drew_size] at b19
      have s19 := b19.size
      simp only [drew_size] at s19
      replace hw := hw.trans (b19.mono hw.size)
      refine wl_p (fun _ => o_ge rfl rfl) ?_
      refine wl_nild ?_
      refine rk_if rfl (fun h20 => ?_) (fun h20 => ?_)
      · refine rk_seq ?_
        refine rk_region ?_
        refine wl_p (fun _ => o_assign rfl) ?_
        refine wl_nil ?_
        refine ret1 rfl rfl ?_
        exact ⟨by rw [decide_eq_false (fun h => absurd (h (i + 1) hil (by omega)) (by omega))], hw⟩
      · refine rk_skip ?_
        refine rk_blk ?_
        refine rk_region ?_
        refine wl_p (fun _ => o_move rfl) ?_
        refine wl_p (fun _ => o_add rfl rfl (by omega) (by omega)) ?_
        refine wl_p (fun _ => o_assign rfl) ?_
        refine wl_nil ?_
        exact rk_againf (Fr.le_of (by kernel_rfl) (by kernel_rfl) (by repeat' constructor)) ⟨i + 1, (i : Int) + 1 + 1, rfl, by omega, by omega, rfl, fun j h h1 h2 => by
          rcases Nat.lt_or_ge i j with h3 | h3
          · obtain rfl : j = i + 1 := by omega
            omega
          · exact hok j h h3 h2, hw⟩ (by omega)
    · refine rk_exit rfl ?_
      exact rk_tof hj (Fr.le_of (by kernel_rfl) (by kernel_rfl) (by repeat' constructor)) ⟨rfl, fun j h h0 => hok j h (by omega) h0, hw⟩
  clear hw
  rintro fr w2 ⟨rfl, hI, hw⟩
  first | refine rk_frame (by simp only [List.cons_append, List.nil_append, List.drop_succ_cons, List.drop_zero]; rfl) ?_ | refine wl_frame (by simp only [List.cons_append, List.nil_append, List.drop_succ_cons, List.drop_zero]; rfl) ?_
  refine rk_seq ?_
  refine rk_region ?_
  refine wl_p (fun _ => o_assign rfl) ?_
  refine wl_nil ?_
  refine ret1 rfl rfl ?_
  exact ⟨by rw [decide_eq_true hI], hw⟩
theorem C_indexK {A : Option Addr} {L : List Ky} {u : Ky} {n c : Nat} (w : World) (hA : RKs w A L) (hn : n = L.length) (hl : L.length ≤ 4000000) :
    CallsR Tryz.prog 101 [.slice A n c, .agg (B8 u.1).toArray] w fun v w' => ∃ z : Int, v = .int .i64 z ∧ (0 ≤ z ↔ u ∈ L) ∧ Below w.heap.size w w' := by
  subst hn
  refine callsR Tryz.func101 rfl rfl (by kernel_rfl) rfl ?_
  have hw := Below.refl w.heap.size w
  refine rk_seq ?_
  refine rk_region ?_
  refine wl_boxg _ rfl (by rfl) ?_
  rintro g3 w3 f3 b3 i3 i3_1
  have s3 := b3.size
  replace hw := hw.trans (b3.mono hw.size)
  refine wl_p (fun _ => o_assign rfl) ?_
  refine wl_nil ?_
  refine rk_seq ?_
  refine rk_seq ?_
  refine rk_region ?_
  refine wl_p (fun _ => o_move rfl) ?_
  refine wl_p (fun _ => o_len (t := 29) Tryz.underlying29 rfl) ?_
  refine wl_p (fun _ => o_move rfl) ?_
  refine wl_nil ?_
  refine rk_block ?_
  refine rk_joinf (fun fb fr w4 => fr = [] ++ fb.drop 1 ∧ u ∉ L ∧ Below w.heap.size w w4) ?_ (fun ks hj => ?_)
  rotate_left
  · refine rk_loopf (fun fb m fr w4 => ∃ (i : Nat) (v : Int), fr = [(8, .int .i64 v)] ++ fb.drop 1 ∧ v = i ∧ i ≤ L.length ∧ m = L.length - i ∧ u ∉ L.take i ∧ Blk w4 g3 42 (B8 u.1) ∧ w3.heap.size ≤ w4.heap.size ∧ Below w.heap.size w w4) (n := L.length) (Fr.le_of (by kernel_rfl) (by kernel_rfl) (by repeat' constructor)) ⟨0, _, rfl, rfl, by omega, rfl, by simp, f3, Nat.le_refl _, hw⟩ ?_
    clear hw f3
    rintro m fr w4 ⟨i, v, rfl, rfl, hi, rfl, hno, f3, hsz, hw⟩
    have shw := hw.size
    first | refine rk_frame (by simp only [List.cons_append, List.nil_append, List.drop_succ_cons, List.drop_zero]; rfl) ?_ | refine wl_frame (by simp only [List.cons_append, List.nil_append, List.drop_succ_cons, List.drop_zero]; rfl) ?_
    refine rk_seq ?_
    refine rk_region ?_
    refine wl_p (fun _ => o_lt rfl rfl) ?_
    refine wl_nil ?_
    refine rk_seq ?_
    refine rk_if rfl (fun h9 => ?_) (fun h9 => ?_)
    · have hil : i < L.length := by omega
      refine rk_skip ?_
      refine rk_seq ?_
      refine rk_block ?_
      refine rk_seq ?_
      refine rk_region ?_
      refine wl_p (fun _ => o_move rfl) ?_
      refine wl_p (fun _ => o_assign rfl) ?_
      refine wl_nil ?_
      refine rk_seq ?_
      refine rk_draw (id := 4) (none) [0, 0, 0, 6, 8, 17] [0, 0, 0, 6, 14, 31] 0 0 [(.r, 0), (.p, 1), (.p, 2), (.p, 3), (.r, 4), (.p, 5)] (by kernel_rfl) (by kernel_rfl) (by kernel_rfl) (by kernel_rfl) (by kernel_rfl) ?_
      replace hw := hw.drew
      replace f3 := f3.d
      refine wl_r (o_ldKyB rfl f3) ?_
      refine wl_p (fun _ => o_move rfl) ?_
      refine wl_p (fun _ => o_move rfl) ?_
      refine wl_p (fun _ => (o_iaddrA (i) Tryz.underlying29 Tryz.sizeOf42 rfl rfl rfl (hA.some_ (by omega)) (by omega))) ?_
      refine wl_r (o_ldKs rfl hA hw (by omega)) ?_
      refine wl_p (fun _ => (o_eqKy rfl rfl)) ?_
      refine wl_nild ?_
      refine rk_if rfl (fun h16 => ?_) (fun h16 => ?_)
      · refine rk_seq ?_
        refine rk_region ?_
        refine wl_p (fun _ => o_move rfl) ?_
        refine wl_p (fun _ => o_assign rfl) ?_
        refine wl_nil ?_
        refine ret1 rfl rfl ?_
        exact ⟨_, rfl, ⟨fun _ => h16 ▸ List.getElem_mem hil, fun _ => by omega⟩, hw⟩
      · refine rk_skip ?_
        refine rk_blk ?_
        refine rk_region ?_
        refine wl_p (fun _ => o_add rfl rfl (by omega) (by omega)) ?_
        refine wl_p (fun _ => o_move rfl) ?_
        refine wl_nil ?_
        exact rk_againf (Fr.le_of (by kernel_rfl) (by kernel_rfl) (by repeat' constructor)) ⟨i + 1, (i : Int) + 1, rfl, by omega, by omega, rfl, by
          rw [List.take_succ_eq_append_getElem hil, List.mem_append, List.mem_singleton]
          exact fun h => h.elim hno h16, f3, hsz, hw⟩ (by omega)
    · refine rk_exit rfl ?_
      exact rk_tof hj (Fr.le_of (by kernel_rfl) (by kernel_rfl) (by repeat' constructor)) ⟨rfl, by rwa [List.take_of_length_le (by omega)] at hno, hw⟩
  clear hw f3
  rintro fr w4 ⟨rfl, hno, hw⟩
  first | refine rk_frame (by simp only [List.cons_append, List.nil_append, List.drop_succ_cons, List.drop_zero]; rfl) ?_ | refine wl_frame (by simp only [List.cons_append, List.nil_append, List.drop_succ_cons, List.drop_zero]; rfl) ?_
  refine rk_seq ?_
  refine rk_region ?_
  refine wl_p (fun _ => o_assign rfl) ?_
  refine wl_nil ?_
  refine ret1 rfl rfl ?_
  exact ⟨_, rfl, ⟨fun h => by omega, fun h => absurd h hno⟩, hw⟩
theorem C_containsK {A : Option Addr} {L : List Ky} {u : Ky} {n c : Nat} (w : World) (hA : RKs w A L) (hn : n = L.length) (hl : L.length ≤ 4000000) :
    CallsR Tryz.prog 53 [.slice A n c, .agg (B8 u.1).toArray] w fun v w' => v = .bool (decide (u ∈ L)) ∧ Below w.heap.size w w' := by
  subst hn
  refine callsR Tryz.func53 rfl rfl (by kernel_rfl) rfl ?_
  have hw := Below.refl w.heap.size w
  refine rk_seq ?_
  refine rk_region ?_
  refine wl_boxg _ rfl (by rfl) ?_
  rintro g3 w3 f3 b3 i3 i3_1
  have s3 := b3.size
  replace hw := hw.trans (b3.mono hw.size)
  refine wl_p (fun _ => o_assign rfl) ?_
  refine wl_nil ?_
  refine rk_seq ?_
  refine rk_region ?_
  refine wl_p (fun _ => o_move rfl) ?_
  refine wl_r (o_ldKyB rfl f3) ?_
  refine wl_call rfl (C_indexK _ (hA.u hw) rfl (by omega)) ?_
  rintro v7 w7 ⟨z7, ⟨rfl, ⟨i7, b7⟩⟩⟩
  have s7 := b7.size
  replace hw := hw.trans (b7.mono hw.size)
  replace f3 := f3.u b7
  refine wl_p (fun _ => o_ge rfl rfl) ?_
  refine wl_p (fun _ => o_assign rfl) ?_
  refine wl_nil ?_
  refine ret1 rfl rfl ?_
  exact ⟨by rw [decide_eq_decide.2 i7], hw⟩
theorem C_member {A : Option Addr} {L : List Ky} {u : Ky} {n c : Nat} (w : World) (hA : RKs w A L) (hn : n = L.length) (hl : L.length ≤ 4000000) :
    CallsR Tryz.prog 26 [.slice A n c, .agg (B8 u.1).toArray] w fun v w' => v = .bool (decide (u ∈ L)) ∧ Below w.heap.size w w' := by
  subst hn
  refine callsR Tryz.func26 rfl rfl (by kernel_rfl) rfl ?_
  have hw := Below.refl w.heap.size w
  refine rk_seq ?_
  refine rk_region ?_
  refine wl_boxg _ rfl (by rfl) ?_
  rintro g3 w3 f3 b3 i3 i3_1
  have s3 := b3.size
  replace hw := hw.trans (b3.mono hw.size)
  refine wl_p (fun _ => o_assign rfl) ?_
  refine wl_nil ?_
  refine rk_seq ?_
  refine rk_region ?_
  refine wl_p (fun _ => o_move rfl) ?_
  refine wl_r (o_ldKyB rfl f3) ?_
  refine wl_call rfl (C_containsK _ (hA.u hw) rfl (by omega)) ?_
  rintro v7 w7 ⟨rfl, b7⟩
  have s7 := b7.size
  replace hw := hw.trans (b7.mono hw.size)
  replace f3 := f3.u b7
  refine wl_p (fun _ => o_assign rfl) ?_
  refine wl_nil ?_
  refine ret1 rfl rfl ?_
  exact ⟨rfl, hw⟩
end Go.Proofs.YtahkeoegbjopfaaGreat
/-
  Walks of package ops: whether a state is valid; where a key is among rising ones.
-/
namespace Go.Proofs.YtahkeoegbjopfaaGreat
set_option maxRecDepth 100000
open Go.RowKit
abbrev Stt := List (By × By) × List Ky × List Ky
/-- The items of a valid state. -/
def OkI (I : List (By × By)) : Prop := ∀ i (h : i < I.length), ((1 ≤ I[i].1.length ∧ I[i].1.length ≤ 16) ∧ I[i].2.length ≤ 32) ∧ (0 < i → cmpL I[i - 1].1 I[i].1 < 0)
instance (I : List (By × By)) : Decidable (OkI I) := by unfold OkI; infer_instance
/-- A state is valid. -/
def OkSt (I : List (By × By)) (X Y : List Ky) : Prop := (I.length ≤ 1024 ∧ X.length ≤ 16) ∧ (1 ≤ Y.length ∧ Y.length ≤ 16) ∧ OkI I ∧ IncK X ∧ IncK Y
instance (I : List (By × By)) (X Y : List Ky) : Decidable (OkSt I X Y) := by unfold OkSt; infer_instance
/-- The items' bytes are not too many. -/
def LtI (I : List (By × By)) : Prop := ∀ x ∈ I, x.1.length ≤ 4000000 ∧ x.2.length ≤ 4000000
set_option maxRecDepth 20000 in
theorem K_checkState {A B C : Option Addr} {I : List (By × By)} {X Y : List Ky} {n c m d q e : Nat} (w : World) (hA : RI w A I) (hB : RKs w B X) (hC : RKs w C Y) (hn : n = I.length) (hm : m = X.length) (hq : q = Y.length) (hl : I.length ≤ 4000000) (hl2 : X.length ≤ 4000000) (hl3 : Y.length ≤ 4000000) (hL : LtI I) :
    CallsR Tryz.prog 17 [.agg #[.slice A n c, .slice B m d, .slice C q e]] w fun v w' => v = .int .i64 (if OkSt I X Y then 0 else 2) ∧ Below w.heap.size w w' := by
  subst hn; subst hm; subst hq
  refine callsR Tryz.func17 rfl rfl (by kernel_rfl) rfl ?_
  have hw := Below.refl w.heap.size w
  by_cases h1 : 1024 < I.length
  · rw [if_neg (fun h => by have := h.1.1; omega)]
    refine rk_seq ?_
    refine rk_region ?_
    refine wl_boxg [_, _, _] rfl (by rfl) ?_
    rintro g1 w1 f1 b1 i1 i1_1
    have s1 := b1.size
    replace hw := hw.trans (b1.mono hw.size)
    refine wl_p (fun _ => o_assign rfl) ?_
    refine wl_nil ?_
    refine rk_seq ?_
    refine rk_seq ?_
    refine rk_region ?_
    refine wl_p (fun _ => o_faddr (s := 31) (i := 0) (off := 0) Tryz.underlying31 rfl Tryz.sizeOf28 rfl rfl rfl) ?_
    refine wl_r (o_loadbg Tryz.isAgg28 rfl f1 (by rfl)) ?_
    refine wl_p (fun _ => o_len (t := 28) Tryz.underlying28 rfl) ?_
    refine wl_p (fun _ => o_gt rfl rfl) ?_
    refine wl_p (fun _ => o_move rfl) ?_
    refine wl_know 9 true rfl (decide_eq_true (by omega)) ?_
    refine wl_off ?_
    refine wl_off ?_
    refine wl_off ?_
    refine wl_off ?_
    refine wl_p (fun _ => o_pick_t rfl rfl) ?_
    refine wl_nil ?_
    refine rk_true rfl ?_
    refine rk_seq ?_
    refine rk_region ?_
    refine wl_p (fun _ => o_assign rfl) ?_
    refine wl_nil ?_
    refine ret1 rfl rfl ?_
    exact ⟨rfl, hw⟩
  by_cases h2 : 16 < X.length
  · rw [if_neg (fun h => by have := h.1.2; omega)]
    refine rk_seq ?_
    refine rk_region ?_
    refine wl_boxg [_, _, _] rfl (by rfl) ?_
    rintro g1 w1 f1 b1 i1 i1_1
    have s1 := b1.size
    replace hw := hw.trans (b1.mono hw.size)
    refine wl_p (fun _ => o_assign rfl) ?_
    refine wl_nil ?_
    refine rk_seq ?_
    refine rk_seq ?_
    refine rk_region ?_
    refine wl_p (fun _ => o_faddr (s := 31) (i := 0) (off := 0) Tryz.underlying31 rfl Tryz.sizeOf28 rfl rfl rfl) ?_
    refine wl_r (o_loadbg Tryz.isAgg28 rfl f1 (by rfl)) ?_
    refine wl_p (fun _ => o_len (t := 28) Tryz.underlying28 rfl) ?_
    refine wl_p (fun _ => o_gt rfl rfl) ?_
    refine wl_p (fun _ => o_move rfl) ?_
    refine wl_know 9 false rfl (decide_eq_false (by omega)) ?_
    refine wl_p (fun _ => o_faddr (s := 31) (i := 1) (off := 1) Tryz.underlying31 rfl Tryz.sizeOf29 rfl rfl rfl) ?_
    refine wl_r (o_loadbg Tryz.isAgg29 rfl f1 (by rfl)) ?_
    refine wl_p (fun _ => o_len (t := 29) Tryz.underlying29 rfl) ?_
    refine wl_p (fun _ => o_gt rfl rfl) ?_
    refine wl_p (fun _ => o_pick_f rfl rfl) ?_
    refine wl_nil ?_
    refine rk_if rfl (fun h14 => ?_) (fun h14 => h14.elim (by omega))
    refine rk_seq ?_
    refine rk_region ?_
    refine wl_p (fun _ => o_assign rfl) ?_
    refine wl_nil ?_
    refine ret1 rfl rfl ?_
    exact ⟨rfl, hw⟩
  by_cases h3 : Y.length < 1
  · rw [if_neg (fun h => by have := h.2.1.1; omega)]
    refine rk_seq ?_
    refine rk_region ?_
    refine wl_boxg [_, _, _] rfl (by rfl) ?_
    rintro g1 w1 f1 b1 i1 i1_1
    have s1 := b1.size
    replace hw := hw.trans (b1.mono hw.size)
    refine wl_p (fun _ => o_assign rfl) ?_
    refine wl_nil ?_
    refine rk_seq ?_
    refine rk_seq ?_
    refine rk_region ?_
    refine wl_p (fun _ => o_faddr (s := 31) (i := 0) (off := 0) Tryz.underlying31 rfl Tryz.sizeOf28 rfl rfl rfl) ?_
    refine wl_r (o_loadbg Tryz.isAgg28 rfl f1 (by rfl)) ?_
    refine wl_p (fun _ => o_len (t := 28) Tryz.underlying28 rfl) ?_
    refine wl_p (fun _ => o_gt rfl rfl) ?_
    refine wl_p (fun _ => o_move rfl) ?_
    refine wl_know 9 false rfl (decide_eq_false (by omega)) ?_
    refine wl_p (fun _ => o_faddr (s := 31) (i := 1) (off := 1) Tryz.underlying31 rfl Tryz.sizeOf29 rfl rfl rfl) ?_
    refine wl_r (o_loadbg Tryz.isAgg29 rfl f1 (by rfl)) ?_
    refine wl_p (fun _ => o_len (t := 29) Tryz.underlying29 rfl) ?_
    refine wl_p (fun _ => o_gt rfl rfl) ?_
    refine wl_p (fun _ => o_pick_f rfl rfl) ?_
    refine wl_nil ?_
    refine rk_if rfl (fun h14 => absurd h14 (by omega)) (fun h14 => ?_)
    refine rk_skip ?_
    refine rk_seq ?_
    refine rk_seq ?_
    refine rk_region ?_
    refine wl_p (fun _ => o_faddr (s := 31) (i := 2) (off := 2) Tryz.underlying31 rfl Tryz.sizeOf29 rfl rfl rfl) ?_
    refine wl_r (o_loadbg Tryz.isAgg29 rfl f1 (by rfl)) ?_
    refine wl_p (fun _ => o_len (t := 29) Tryz.underlying29 rfl) ?_
    refine wl_p (fun _ => o_lt rfl rfl) ?_
    refine wl_p (fun _ => o_move rfl) ?_
    refine wl_know 19 true rfl (decide_eq_true (by omega)) ?_
    refine wl_off ?_
    refine wl_off ?_
    refine wl_off ?_
    refine wl_off ?_
    refine wl_p (fun _ => o_pick_t rfl rfl) ?_
    refine wl_nil ?_
    refine rk_true rfl ?_
    refine rk_seq ?_
    refine rk_region ?_
    refine wl_p (fun _ => o_assign rfl) ?_
    refine wl_nil ?_
    refine ret1 rfl rfl ?_
    exact ⟨rfl, hw⟩
  by_cases h4 : 16 < Y.length
  · rw [if_neg (fun h => by have := h.2.1.2; omega)]
    refine rk_seq ?_
    refine rk_region ?_
    refine wl_boxg [_, _, _] rfl (by rfl) ?_
    rintro g1 w1 f1 b1 i1 i1_1
    have s1 := b1.size
    replace hw := hw.trans (b1.mono hw.size)
    refine wl_p (fun _ => o_assign rfl) ?_
    refine wl_nil ?_
    refine rk_seq ?_
    refine rk_seq ?_
    refine rk_region ?_
    refine wl_p (fun _ => o_faddr (s := 31) (i := 0) (off := 0) Tryz.underlying31 rfl Tryz.sizeOf28 rfl rfl rfl) ?_
    refine wl_r (o_loadbg Tryz.isAgg28 rfl f1 (by rfl)) ?_
    refine wl_p (fun _ => o_len (t := 28) Tryz.underlying28 rfl) ?_
    refine wl_p (fun _ => o_gt rfl rfl) ?_
    refine wl_p (fun _ => o_move rfl) ?_
    refine wl_know 9 false rfl (decide_eq_false (by omega)) ?_
    refine wl_p (fun _ => o_faddr (s := 31) (i := 1) (off := 1) Tryz.underlying31 rfl Tryz.sizeOf29 rfl rfl rfl) ?_
    refine wl_r (o_loadbg Tryz.isAgg29 rfl f1 (by rfl)) ?_
    refine wl_p (fun _ => o_len (t := 29) Tryz.underlying29 rfl) ?_
    refine wl_p (fun _ => o_gt rfl rfl) ?_
    refine wl_p (fun _ => o_pick_f rfl rfl) ?_
    refine wl_nil ?_
    refine rk_if rfl (fun h14 => absurd h14 (by omega)) (fun h14 => ?_)
    refine rk_skip ?_
    refine rk_seq ?_
    refine rk_seq ?_
    refine rk_region ?_
    refine wl_p (fun _ => o_faddr (s := 31) (i := 2) (off := 2) Tryz.underlying31 rfl Tryz.sizeOf29 rfl rfl rfl) ?_
    refine wl_r (o_loadbg Tryz.isAgg29 rfl f1 (by rfl)) ?_
    refine wl_p (fun _ => o_len (t := 29) Tryz.underlying29 rfl) ?_
    refine wl_p (fun _ => o_lt rfl rfl) ?_
    refine wl_p (fun _ => o_move rfl) ?_
    refine wl_know 19 false rfl (decide_eq_false (by omega)) ?_
    refine wl_p (fun _ => o_faddr (s := 31) (i := 2) (off := 2) Tryz.underlying31 rfl Tryz.sizeOf29 rfl rfl rfl) ?_
    refine wl_r (o_loadbg Tryz.isAgg29 rfl f1 (by rfl)) ?_
    refine wl_p (fun _ => o_len (t := 29) Tryz.underlying29 rfl) ?_
    refine wl_p (fun _ => o_gt rfl rfl) ?_
    refine wl_p (fun _ => o_pick_f rfl rfl) ?_
    refine wl_nil ?_
    refine rk_if rfl (fun h24 => ?_) (fun h24 => h24.elim (by omega))
    refine rk_seq ?_
    refine rk_region ?_
    refine wl_p (fun _ => o_assign rfl) ?_
    refine wl_nil ?_
    refine ret1 rfl rfl ?_
    exact ⟨rfl, hw⟩
  refine rk_seq ?_
  refine rk_region ?_
  refine wl_boxg [_, _, _] rfl (by rfl) ?_
  rintro g1 w1 f1 b1 i1 i1_1
  have s1 := b1.size
  replace hw := hw.trans (b1.mono hw.size)
  refine wl_p (fun _ => o_assign rfl) ?_
  refine wl_nil ?_
  refine rk_seq ?_
  refine rk_seq ?_
  refine rk_region ?_
  refine wl_p (fun _ => o_faddr (s := 31) (i := 0) (off := 0) Tryz.underlying31 rfl Tryz.sizeOf28 rfl rfl rfl) ?_
  refine wl_r (o_loadbg Tryz.isAgg28 rfl f1 (by rfl)) ?_
  refine wl_p (fun _ => o_len (t := 28) Tryz.underlying28 rfl) ?_
  refine wl_p (fun _ => o_gt rfl rfl) ?_
  refine wl_p (fun _ => o_move rfl) ?_
  refine wl_know 9 false rfl (decide_eq_false (by omega)) ?_
  refine wl_p (fun _ => o_faddr (s := 31) (i := 1) (off := 1) Tryz.underlying31 rfl Tryz.sizeOf29 rfl rfl rfl) ?_
  refine wl_r (o_loadbg Tryz.isAgg29 rfl f1 (by rfl)) ?_
  refine wl_p (fun _ => o_len (t := 29) Tryz.underlying29 rfl) ?_
  refine wl_p (fun _ => o_gt rfl rfl) ?_
  refine wl_p (fun _ => o_pick_f rfl rfl) ?_
  refine wl_nil ?_
  refine rk_if rfl (fun h14 => absurd h14 (by omega)) (fun h14 => ?_)
  refine rk_skip ?_
  refine rk_seq ?_
  refine rk_seq ?_
  refine rk_region ?_
  refine wl_p (fun _ => o_faddr (s := 31) (i := 2) (off := 2) Tryz.underlying31 rfl Tryz.sizeOf29 rfl rfl rfl) ?_
  refine wl_r (o_loadbg Tryz.isAgg29 rfl f1 (by rfl)) ?_
  refine wl_p (fun _ => o_len (t := 29) Tryz.underlying29 rfl) ?_
  refine wl_p (fun _ => o_lt rfl rfl) ?_
  refine wl_p (fun _ => o_move rfl) ?_
  refine wl_know 19 false rfl (decide_eq_false (by omega)) ?_
  refine wl_p (fun _ => o_faddr (s := 31) (i := 2) (off := 2) Tryz.underlying31 rfl Tryz.sizeOf29 rfl rfl rfl) ?_
  refine wl_r (o_loadbg Tryz.isAgg29 rfl f1 (by rfl)) ?_
  refine wl_p (fun _ => o_len (t := 29) Tryz.underlying29 rfl) ?_
  refine wl_p (fun _ => o_gt rfl rfl) ?_
  refine wl_p (fun _ => o_pick_f rfl rfl) ?_
  refine wl_nil ?_
  refine rk_if rfl (fun h24 => absurd h24 (by omega)) (fun h24 => ?_)
  refine rk_skip ?_
  refine rk_seq ?_
  refine rk_seq ?_
  refine rk_region ?_
  refine wl_p (fun _ => o_faddr (s := 31) (i := 0) (off := 0) Tryz.underlying31 rfl Tryz.sizeOf28 rfl rfl rfl) ?_
  refine wl_r (o_loadbg Tryz.isAgg28 rfl f1 (by rfl)) ?_
  refine wl_p (fun _ => o_len (t := 28) Tryz.underlying28 rfl) ?_
  refine wl_p (fun _ => o_move rfl) ?_
  refine wl_nil ?_
  refine rk_block ?_
  refine rk_joinf (fun fb fr w2 => fr = [] ++ fb.drop 1 ∧ OkI I ∧ Blk w2 g1 31 [.slice A I.length c, .slice B X.length d, .slice C Y.length e] ∧ Below w.heap.size w w2) ?_ (fun ks hj => ?_)
  rotate_left
  · refine rk_loopf (fun fb k fr w2 => ∃ (i : Nat) (v : Int), fr = [(28, .int .i64 v)] ++ fb.drop 1 ∧ v = i ∧ i ≤ I.length ∧ k = I.length - i ∧ (∀ j (h : j < I.length), j < i → ((1 ≤ I[j].1.length ∧ I[j].1.length ≤ 16) ∧ I[j].2.length ≤ 32) ∧ (0 < j → cmpL I[j - 1].1 I[j].1 < 0)) ∧ Blk w2 g1 31 [.slice A I.length c, .slice B X.length d, .slice C Y.length e] ∧ w1.heap.size ≤ w2.heap.size ∧ Below w.heap.size w w2) (n := I.length) (Fr.le_of (by kernel_rfl) (by kernel_rfl) (by repeat' constructor)) ⟨0, _, rfl, rfl, by omega, rfl, fun j _ h => absurd h (Nat.not_lt_zero _), f1, Nat.le_refl _, hw⟩ ?_
    clear hw f1
    rintro k fr w2 ⟨i, v, rfl, rfl, hi, rfl, hok, f1, hsz, hw⟩
    have shw := hw.size
    first | refine rk_frame (by simp only [List.cons_append, List.nil_append, List.drop_succ_cons, List.drop_zero]; rfl) ?_ | refine wl_frame (by simp only [List.cons_append, List.nil_append, List.drop_succ_cons, List.drop_zero]; rfl) ?_
    refine rk_seq ?_
    refine rk_region ?_
    refine wl_p (fun _ => o_lt rfl rfl) ?_
    refine wl_nil ?_
    refine rk_seq ?_
    refine rk_if rfl (fun h29 => ?_) (fun h29 => ?_)
    · have hil : i < I.length := by omega
      obtain ⟨n1, n2⟩ := hL _ (List.getElem_mem hil)
      by_cases k1 : 1 ≤ I[i].1.length ∧ I[i].1.length ≤ 16
      · by_cases k2 : I[i].2.length ≤ 32
        · by_cases k3 : 0 < i
          · have hi1 : i - 1 < I.length := by omega
            obtain ⟨n3, n4⟩ := hL _ (List.getElem_mem hi1)
            refine rk_skip ?_
            refine rk_seq ?_
            refine rk_block ?_
            refine rk_seq ?_
            refine rk_region ?_
            refine wl_p (fun _ => o_move rfl) ?_
            refine wl_p (fun _ => (o_iaddrA (i) Tryz.underlying28 Tryz.sizeOf94 rfl rfl rfl (hA.some_ (by omega)) (by omega))) ?_
            refine wl_ldItem rfl hA hw (by omega) ?_
            rintro A132 c132 A232 c232 f32 f32_1 i32 i32_1
            refine wl_allocg [_, _] Tryz.zeroValue94 (by rfl) ?_
            rintro g4 w4 f4 b4 i4 i4_1
            have s4 := b4.size
            replace hw := hw.trans (b4.mono hw.size)
            replace f1 := f1.u b4
            refine wl_p (fun _ => o_assign rfl) ?_
            refine wl_storega Tryz.sizeOf94 rfl rfl (by rfl) (oneCell_of (by rfl)) f4 (by rfl) ?_
            rintro w_1 f g e_1
            have s := g.size
            replace hw := hw.trans (below_of_grownBy g.g hw.size (by omega))
            replace f1 := f1.k g.g (ap_some (by omega))
            clear f4
            refine wl_nil ?_
            refine rk_seq ?_
            refine rk_seq ?_
            refine rk_region ?_
            refine wl_p (fun _ => o_faddr (s := 94) (i := 0) (off := 0) Tryz.underlying94 rfl Tryz.sizeOf39 rfl rfl rfl) ?_
            refine wl_r (o_loadbg Tryz.isAgg39 rfl f (by rfl)) ?_
            refine wl_call rfl (C_leafKey _ (by omega)) ?_
            rintro v35 w35 ⟨rfl, rfl⟩
            refine wl_p (fun _ => o_not rfl) ?_
            refine wl_p (fun _ => o_move rfl) ?_
            refine wl_know 37 false rfl (by simp; omega) ?_
            refine wl_p (fun _ => o_faddr (s := 94) (i := 1) (off := 1) Tryz.underlying94 rfl Tryz.sizeOf39 rfl rfl rfl) ?_
            refine wl_r (o_loadbg Tryz.isAgg39 rfl f (by rfl)) ?_
            refine wl_call rfl (C_leafValue _ (by omega)) ?_
            rintro v40 w40 ⟨rfl, rfl⟩
            refine wl_p (fun _ => o_not rfl) ?_
            refine wl_p (fun _ => o_pick_f rfl rfl) ?_
            refine wl_nil ?_
            rw [decide_eq_true k2]
            refine rk_false rfl ?_
            refine rk_skip ?_
            refine rk_seq ?_
            refine rk_draw (id := 10) (none) [0, 1, 2, 4, 12, 4, 36, 84, 132, 260, 4, 1028, 2564, 4100, 8196] [0, 1, 3, 7, 15, 7, 39, 127, 255, 511, 7, 1031, 4095, 8191, 16383] 4096 0 [(.p, 0), (.p, 1), (.p, 2), (.p, 3), (.r, 4), (.p, 5), (.p, 6), (.p, 7), (.p, 8), (.r, 9), (.p, 10), (.r, 11), (.l, 12), (.p, 13), (.p, 14)] (by kernel_rfl) (by kernel_rfl) (by kernel_rfl) (by kernel_rfl) (by kernel_rfl) ?_
            replace hw := hw.drew
            replace f1 := f1.d
            replace f := f.d
            refine wl_p (fun _ => o_move rfl) ?_
            refine wl_p (fun _ => o_gt rfl rfl) ?_
            refine wl_p (fun _ => o_move rfl) ?_
            refine wl_know 45 true rfl (decide_eq_true (by omega)) ?_
            refine wl_p (fun _ => o_faddr (s := 31) (i := 0) (off := 0) Tryz.underlying31 rfl Tryz.sizeOf28 rfl rfl rfl) ?_
            refine wl_r (o_loadbg Tryz.isAgg28 rfl f1 (by rfl)) ?_
            refine wl_p (fun _ => o_move rfl) ?_
            refine wl_p (fun _ => o_sub rfl rfl (by omega) (by omega)) ?_
            refine wl_p (fun _ => (o_iaddrA (i - 1) Tryz.underlying28 Tryz.sizeOf94 rfl rfl (by omega) (hA.some_ (by omega)) (by omega))) ?_
            refine wl_p (fun _ => (o_faddrR rfl Tryz.underlying94 (by rfl) Tryz.sizeOf39 (by rfl) (by rfl))) ?_
            refine wl_ldKey rfl hA hw (by omega) ?_
            rintro A152 c152 f52 i52
            refine wl_p (fun _ => o_faddr (s := 94) (i := 0) (off := 0) Tryz.underlying94 rfl Tryz.sizeOf39 rfl rfl rfl) ?_
            refine wl_r (o_loadbg Tryz.isAgg39 rfl f (by rfl)) ?_
            refine wl_call rfl (C_leafCompare _ (f52.u hw) (f32.u hw) rfl rfl (by omega) (by omega)) ?_
            rintro v55 w55 ⟨rfl, b55⟩
            simp only [drew_size] at b55
            have s55 := b55.size
            simp only [drew_size] at s55
            replace hw := hw.trans (b55.mono hw.size)
            replace f := f.u b55
            replace f1 := f1.u b55
            refine wl_p (fun _ => o_ge rfl rfl) ?_
            refine wl_p (fun _ => o_pick_t rfl rfl) ?_
            refine wl_nild ?_
            refine rk_if rfl (fun h57 => ?_) (fun h57 => ?_)
            · rw [if_neg (fun h => absurd ((h.2.2.1 i hil).2 k3) (by omega))]
              refine rk_seq ?_
              refine rk_region ?_
              refine wl_p (fun _ => o_assign rfl) ?_
              refine wl_nil ?_
              refine ret1 rfl rfl ?_
              exact ⟨rfl, hw⟩
            · refine rk_skip ?_
              refine rk_blk ?_
              refine rk_region ?_
              refine wl_p (fun _ => o_add rfl rfl (by omega) (by omega)) ?_
              refine wl_p (fun _ => o_move rfl) ?_
              refine wl_nil ?_
              exact rk_againf (Fr.le_of (by kernel_rfl) (by kernel_rfl) (by repeat' constructor)) ⟨i + 1, (i : Int) + 1, rfl, by omega, by omega, rfl, fun j hj hji => by
                rcases Nat.lt_or_ge j i with h | h
                · exact hok j hj h
                · obtain rfl : j = i := by omega
                  exact ⟨⟨k1, k2⟩, fun _ => by omega⟩, f1, by omega, hw⟩ (by omega)
          · refine rk_skip ?_
            refine rk_seq ?_
            refine rk_block ?_
            refine rk_seq ?_
            refine rk_region ?_
            refine wl_p (fun _ => o_move rfl) ?_
            refine wl_p (fun _ => (o_iaddrA (i) Tryz.underlying28 Tryz.sizeOf94 rfl rfl rfl (hA.some_ (by omega)) (by omega))) ?_
            refine wl_ldItem rfl hA hw (by omega) ?_
            rintro A132 c132 A232 c232 f32 f32_1 i32 i32_1
            refine wl_allocg [_, _] Tryz.zeroValue94 (by rfl) ?_
            rintro g4 w4 f4 b4 i4 i4_1
            have s4 := b4.size
            replace hw := hw.trans (b4.mono hw.size)
            replace f1 := f1.u b4
            refine wl_p (fun _ => o_assign rfl) ?_
            refine wl_storega Tryz.sizeOf94 rfl rfl (by rfl) (oneCell_of (by rfl)) f4 (by rfl) ?_
            rintro w_1 f g e_1
            have s := g.size
            replace hw := hw.trans (below_of_grownBy g.g hw.size (by omega))
            replace f1 := f1.k g.g (ap_some (by omega))
            clear f4
            refine wl_nil ?_
            refine rk_seq ?_
            refine rk_seq ?_
            refine rk_region ?_
            refine wl_p (fun _ => o_faddr (s := 94) (i := 0) (off := 0) Tryz.underlying94 rfl Tryz.sizeOf39 rfl rfl rfl) ?_
            refine wl_r (o_loadbg Tryz.isAgg39 rfl f (by rfl)) ?_
            refine wl_call rfl (C_leafKey _ (by omega)) ?_
            rintro v35 w35 ⟨rfl, rfl⟩
            refine wl_p (fun _ => o_not rfl) ?_
            refine wl_p (fun _ => o_move rfl) ?_
            refine wl_know 37 false rfl (by simp; omega) ?_
            refine wl_p (fun _ => o_faddr (s := 94) (i := 1) (off := 1) Tryz.underlying94 rfl Tryz.sizeOf39 rfl rfl rfl) ?_
            refine wl_r (o_loadbg Tryz.isAgg39 rfl f (by rfl)) ?_
            refine wl_call rfl (C_leafValue _ (by omega)) ?_
            rintro v40 w40 ⟨rfl, rfl⟩
            refine wl_p (fun _ => o_not rfl) ?_
            refine wl_p (fun _ => o_pick_f rfl rfl) ?_
            refine wl_nil ?_
            rw [decide_eq_true k2]
            refine rk_false rfl ?_
            refine rk_skip ?_
            refine rk_seq ?_
            refine rk_draw (id := 10) (none) [0, 1, 2, 4, 12, 4, 36, 84, 132, 260, 4, 1028, 2564, 4100, 8196] [0, 1, 3, 7, 15, 7, 39, 127, 255, 511, 7, 1031, 4095, 8191, 16383] 4096 0 [(.p, 0), (.p, 1), (.p, 2), (.p, 3), (.r, 4), (.p, 5), (.p, 6), (.p, 7), (.p, 8), (.r, 9), (.p, 10), (.r, 11), (.l, 12), (.p, 13), (.p, 14)] (by kernel_rfl) (by kernel_rfl) (by kernel_rfl) (by kernel_rfl) (by kernel_rfl) ?_
            replace hw := hw.drew
            replace f1 := f1.d
            replace f := f.d
            refine wl_p (fun _ => o_move rfl) ?_
            refine wl_p (fun _ => o_gt rfl rfl) ?_
            refine wl_p (fun _ => o_move rfl) ?_
            refine wl_know 45 false rfl (decide_eq_false (by omega)) ?_
            refine wl_off ?_
            refine wl_off ?_
            refine wl_off ?_
            refine wl_off ?_
            refine wl_off ?_
            refine wl_off ?_
            refine wl_off ?_
            refine wl_off ?_
            refine wl_off ?_
            refine wl_off ?_
            refine wl_off ?_
            refine wl_p (fun _ => o_pick_f rfl rfl) ?_
            refine wl_nild ?_
            refine rk_false rfl ?_
            refine rk_skip ?_
            refine rk_blk ?_
            refine rk_region ?_
            refine wl_p (fun _ => o_add rfl rfl (by omega) (by omega)) ?_
            refine wl_p (fun _ => o_move rfl) ?_
            refine wl_nil ?_
            exact rk_againf (Fr.le_of (by kernel_rfl) (by kernel_rfl) (by repeat' constructor)) ⟨i + 1, (i : Int) + 1, rfl, by omega, by omega, rfl, fun j hj hji => by
              rcases Nat.lt_or_ge j i with h | h
              · exact hok j hj h
              · obtain rfl : j = i := by omega
                exact ⟨⟨k1, k2⟩, fun h => absurd h k3⟩, f1, by first | omega | (simp only [drew_size]; omega), hw⟩ (by omega)
        · rw [if_neg (fun h => k2 (h.2.2.1 i hil).1.2)]
          refine rk_skip ?_
          refine rk_seq ?_
          refine rk_block ?_
          refine rk_seq ?_
          refine rk_region ?_
          refine wl_p (fun _ => o_move rfl) ?_
          refine wl_p (fun _ => (o_iaddrA (i) Tryz.underlying28 Tryz.sizeOf94 rfl rfl rfl (hA.some_ (by omega)) (by omega))) ?_
          refine wl_ldItem rfl hA hw (by omega) ?_
          rintro A132 c132 A232 c232 f32 f32_1 i32 i32_1
          refine wl_allocg [_, _] Tryz.zeroValue94 (by rfl) ?_
          rintro g4 w4 f4 b4 i4 i4_1
          have s4 := b4.size
          replace hw := hw.trans (b4.mono hw.size)
          replace f1 := f1.u b4
          refine wl_p (fun _ => o_assign rfl) ?_
          refine wl_storega Tryz.sizeOf94 rfl rfl (by rfl) (oneCell_of (by rfl)) f4 (by rfl) ?_
          rintro w_1 f g e_1
          have s := g.size
          replace hw := hw.trans (below_of_grownBy g.g hw.size (by omega))
          replace f1 := f1.k g.g (ap_some (by omega))
          clear f4
          refine wl_nil ?_
          refine rk_seq ?_
          refine rk_seq ?_
          refine rk_region ?_
          refine wl_p (fun _ => o_faddr (s := 94) (i := 0) (off := 0) Tryz.underlying94 rfl Tryz.sizeOf39 rfl rfl rfl) ?_
          refine wl_r (o_loadbg Tryz.isAgg39 rfl f (by rfl)) ?_
          refine wl_call rfl (C_leafKey _ (by omega)) ?_
          rintro v35 w35 ⟨rfl, rfl⟩
          refine wl_p (fun _ => o_not rfl) ?_
          refine wl_p (fun _ => o_move rfl) ?_
          refine wl_know 37 false rfl (by simp; omega) ?_
          refine wl_p (fun _ => o_faddr (s := 94) (i := 1) (off := 1) Tryz.underlying94 rfl Tryz.sizeOf39 rfl rfl rfl) ?_
          refine wl_r (o_loadbg Tryz.isAgg39 rfl f (by rfl)) ?_
          refine wl_call rfl (C_leafValue _ (by omega)) ?_
          rintro v40 w40 ⟨rfl, rfl⟩
          refine wl_p (fun _ => o_not rfl) ?_
          refine wl_p (fun _ => o_pick_f rfl rfl) ?_
          refine wl_nil ?_
          rw [decide_eq_false k2]
          refine rk_true rfl ?_
          refine rk_seq ?_
          refine rk_region ?_
          refine wl_p (fun _ => o_assign rfl) ?_
          refine wl_nil ?_
          refine ret1 rfl rfl ?_
          exact ⟨rfl, hw⟩
      · rw [if_neg (fun h => k1 (h.2.2.1 i hil).1.1)]
        refine rk_skip ?_
        refine rk_seq ?_
        refine rk_block ?_
        refine rk_seq ?_
        refine rk_region ?_
        refine wl_p (fun _ => o_move rfl) ?_
        refine wl_p (fun _ => (o_iaddrA (i) Tryz.underlying28 Tryz.sizeOf94 rfl rfl rfl (hA.some_ (by omega)) (by omega))) ?_
        refine wl_ldItem rfl hA hw (by omega) ?_
        rintro A132 c132 A232 c232 f32 f32_1 i32 i32_1
        refine wl_allocg [_, _] Tryz.zeroValue94 (by rfl) ?_
        rintro g4 w4 f4 b4 i4 i4_1
        have s4 := b4.size
        replace hw := hw.trans (b4.mono hw.size)
        replace f1 := f1.u b4
        refine wl_p (fun _ => o_assign rfl) ?_
        refine wl_storega Tryz.sizeOf94 rfl rfl (by rfl) (oneCell_of (by rfl)) f4 (by rfl) ?_
        rintro w_1 f g e_1
        have s := g.size
        replace hw := hw.trans (below_of_grownBy g.g hw.size (by omega))
        replace f1 := f1.k g.g (ap_some (by omega))
        clear f4
        refine wl_nil ?_
        refine rk_seq ?_
        refine rk_seq ?_
        refine rk_region ?_
        refine wl_p (fun _ => o_faddr (s := 94) (i := 0) (off := 0) Tryz.underlying94 rfl Tryz.sizeOf39 rfl rfl rfl) ?_
        refine wl_r (o_loadbg Tryz.isAgg39 rfl f (by rfl)) ?_
        refine wl_call rfl (C_leafKey _ (by omega)) ?_
        rintro v35 w35 ⟨rfl, rfl⟩
        refine wl_p (fun _ => o_not rfl) ?_
        refine wl_p (fun _ => o_move rfl) ?_
        rw [decide_eq_false k1]
        refine wl_off ?_
        refine wl_off ?_
        refine wl_off ?_
        refine wl_off ?_
        refine wl_p (fun _ => o_pick_t rfl rfl) ?_
        refine wl_nil ?_
        refine rk_true rfl ?_
        refine rk_seq ?_
        refine rk_region ?_
        refine wl_p (fun _ => o_assign rfl) ?_
        refine wl_nil ?_
        refine ret1 rfl rfl ?_
        exact ⟨rfl, hw⟩
    · refine rk_exit rfl ?_
      exact rk_tof hj (Fr.le_of (by kernel_rfl) (by kernel_rfl) (by repeat' constructor)) ⟨rfl, fun j h => hok j h (by omega), f1, hw⟩
  clear hw f1
  rintro fr w2 ⟨rfl, hI, f1, hw⟩
  have shw := hw.size
  first | refine rk_frame (by simp only [List.cons_append, List.nil_append, List.drop_succ_cons, List.drop_zero]; rfl) ?_ | refine wl_frame (by simp only [List.cons_append, List.nil_append, List.drop_succ_cons, List.drop_zero]; rfl) ?_
  by_cases h5 : IncK X
  · by_cases h6 : IncK Y
    · rw [if_pos ⟨⟨by omega, by omega⟩, ⟨by omega, by omega⟩, hI, h5, h6⟩]
      refine rk_seq ?_
      refine rk_seq ?_
      refine rk_region ?_
      refine wl_p (fun _ => o_faddr (s := 31) (i := 1) (off := 1) Tryz.underlying31 rfl Tryz.sizeOf29 rfl rfl rfl) ?_
      refine wl_r (o_loadbg Tryz.isAgg29 rfl f1 (by rfl)) ?_
      refine wl_call rfl (C_increasing _ (hB.u hw) rfl (by omega)) ?_
      rintro v61 w61 ⟨rfl, b61⟩
      have s61 := b61.size
      replace hw := hw.trans (b61.mono hw.size)
      replace f1 := f1.u b61
      refine wl_p (fun _ => o_not rfl) ?_
      refine wl_p (fun _ => o_move rfl) ?_
      refine wl_know 63 false rfl (by simp; omega) ?_
      refine wl_p (fun _ => o_faddr (s := 31) (i := 2) (off := 2) Tryz.underlying31 rfl Tryz.sizeOf29 rfl rfl rfl) ?_
      refine wl_r (o_loadbg Tryz.isAgg29 rfl f1 (by rfl)) ?_
      refine wl_call rfl (C_increasing _ (hC.u hw) rfl (by omega)) ?_
      rintro v66 w66 ⟨rfl, b66⟩
      have s66 := b66.size
      replace hw := hw.trans (b66.mono hw.size)
      replace f1 := f1.u b66
      refine wl_p (fun _ => o_not rfl) ?_
      refine wl_p (fun _ => o_pick_f rfl rfl) ?_
      refine wl_nil ?_
      rw [decide_eq_true h6]
      refine rk_false rfl ?_
      refine rk_skip ?_
      refine rk_seq ?_
      refine rk_region ?_
      refine wl_p (fun _ => o_assign rfl) ?_
      refine wl_nil ?_
      refine ret1 rfl rfl ?_
      exact ⟨rfl, hw⟩
    · rw [if_neg (fun h => h6 h.2.2.2.2)]
      refine rk_seq ?_
      refine rk_seq ?_
      refine rk_region ?_
      refine wl_p (fun _ => o_faddr (s := 31) (i := 1) (off := 1) Tryz.underlying31 rfl Tryz.sizeOf29 rfl rfl rfl) ?_
      refine wl_r (o_loadbg Tryz.isAgg29 rfl f1 (by rfl)) ?_
      refine wl_call rfl (C_increasing _ (hB.u hw) rfl (by omega)) ?_
      rintro v61 w61 ⟨rfl, b61⟩
      have s61 := b61.size
      replace hw := hw.trans (b61.mono hw.size)
      replace f1 := f1.u b61
      refine wl_p (fun _ => o_not rfl) ?_
      refine wl_p (fun _ => o_move rfl) ?_
      refine wl_know 63 false rfl (by simp; omega) ?_
      refine wl_p (fun _ => o_faddr (s := 31) (i := 2) (off := 2) Tryz.underlying31 rfl Tryz.sizeOf29 rfl rfl rfl) ?_
      refine wl_r (o_loadbg Tryz.isAgg29 rfl f1 (by rfl)) ?_
      refine wl_call rfl (C_increasing _ (hC.u hw) rfl (by omega)) ?_
      rintro v66 w66 ⟨rfl, b66⟩
      have s66 := b66.size
      replace hw := hw.trans (b66.mono hw.size)
      replace f1 := f1.u b66
      refine wl_p (fun _ => o_not rfl) ?_
      refine wl_p (fun _ => o_pick_f rfl rfl) ?_
      refine wl_nil ?_
      rw [decide_eq_false h6]
      refine rk_true rfl ?_
      refine rk_seq ?_
      refine rk_region ?_
      refine wl_p (fun _ => o_assign rfl) ?_
      refine wl_nil ?_
      refine ret1 rfl rfl ?_
      exact ⟨rfl, hw⟩
  · rw [if_neg (fun h => h5 h.2.2.2.1)]
    refine rk_seq ?_
    refine rk_seq ?_
    refine rk_region ?_
    refine wl_p (fun _ => o_faddr (s := 31) (i := 1) (off := 1) Tryz.underlying31 rfl Tryz.sizeOf29 rfl rfl rfl) ?_
    refine wl_r (o_loadbg Tryz.isAgg29 rfl f1 (by rfl)) ?_
    refine wl_call rfl (C_increasing _ (hB.u hw) rfl (by omega)) ?_
    rintro v61 w61 ⟨rfl, b61⟩
    have s61 := b61.size
    replace hw := hw.trans (b61.mono hw.size)
    replace f1 := f1.u b61
    refine wl_p (fun _ => o_not rfl) ?_
    refine wl_p (fun _ => o_move rfl) ?_
    refine wl_know 63 true rfl (by simp; omega) ?_
    refine wl_off ?_
    refine wl_off ?_
    refine wl_off ?_
    refine wl_off ?_
    refine wl_p (fun _ => o_pick_t rfl rfl) ?_
    refine wl_nil ?_
    refine rk_true rfl ?_
    refine rk_seq ?_
    refine rk_region ?_
    refine wl_p (fun _ => o_assign rfl) ?_
    refine wl_nil ?_
    rw [decide_eq_false h5]
    refine ret1 rfl rfl ?_
    exact ⟨rfl, hw⟩
end Go.Proofs.YtahkeoegbjopfaaGreat
