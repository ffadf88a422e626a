/-
  Rules in the form that the recorder's search applies: new blocks have names, rows of the call's own have bounds. No function of the program is named here.
-/
import Derived.Test.YtahkeoegbjopfaaGreatMg2
import Derived.Deep.Slices
import Derived.Laws.OwnMore
namespace Go.Proofs.YtahkeoegbjopfaaGreat
set_option maxRecDepth 100000
open Go.RowKit

theorem drew_size (w : World) : w.drew.heap.size = w.heap.size := rfl

theorem oneCell_of {vs : List Value} (h : vs.all (fun v => v.oneCell') = true) : ∀ v ∈ vs, v.oneCell' = true := List.all_eq_true.1 h

/-! Frames that go on from a frame that was there. -/
def Fr.le (fr0 fr : Fr) : Prop := ∀ t v, fr0.get t = some v → fr.get t = some v
theorem Rep.le {N : Nat} {a : Act} {fr fr0 : Fr} (h : Rep N a fr) (hl : Fr.le fr0 fr) : Rep N a fr0 := ⟨h.size, h.defers, fun t v hv => h.get t v (hl t v hv)⟩
theorem Fr.get_of_sub {fr : Fr} : ∀ {c : Fr}, Fr.sub c fr → ∀ t v, c.get t = some v → fr.get t = some v
  | [], _, t, v, h => by cases h
  | (k, u) :: r, hs, t, v, h => by
    rw [Fr.get_cons] at h
    by_cases e : k = t
    · subst e
      rw [if_pos rfl] at h
      injection h with h
      subst h
      exact hs.1
    · rw [if_neg e] at h
      exact Fr.get_of_sub hs.2 t v h
theorem Fr.le_of_sub {c fr : Fr} (h : Fr.sub c fr) : Fr.le c fr := Fr.get_of_sub h
def inN (t : Nat) : List Nat → Bool
  | [] => false
  | k :: l => bif Nat.beq k t then true else inN t l
theorem Fr.get_append (c fb : Fr) (t : Nat) : (c ++ fb).get t = match c.get t with
    | some v => some v
    | none => fb.get t := by
  induction c with
  | nil => rfl
  | cons p c ih =>
    obtain ⟨k, u⟩ := p
    rw [List.cons_append, Fr.get_cons, Fr.get_cons]
    by_cases e : k = t
    · rw [if_pos e, if_pos e]
    · rw [if_neg e, if_neg e, ih]
theorem Fr.get_none_iff (c : Fr) (t : Nat) : c.get t = none ↔ inN t (c.map Prod.fst) = false := by
  induction c with
  | nil => simp [Fr.get, inN]
  | cons p c ih =>
    obtain ⟨k, u⟩ := p
    show (bif Nat.beq k t then some u else Fr.get c t) = none ↔ (bif Nat.beq k t then true else inN t (c.map Prod.fst)) = false
    cases Nat.beq k t with
    | true => simp
    | false => simpa using ih
def okSlots (c fb : List Nat) : List Nat → Bool
  | [] => true
  | t :: l => (inN t c || !inN t fb) && okSlots c fb l
theorem okSlots_spec {c fb : List Nat} : ∀ {l : List Nat}, okSlots c fb l = true → ∀ t, inN t l = true → inN t c = true ∨ inN t fb = false
  | [], _, t, h => by cases h
  | k :: l, hk, t, h => by
    unfold okSlots at hk
    simp only [Bool.and_eq_true, Bool.or_eq_true, Bool.not_eq_true'] at hk
    have h' : (bif Nat.beq k t then true else inN t l) = true := h
    cases hb : Nat.beq k t with
    | true => rw [← Nat.eq_of_beq_eq_true hb]; exact hk.1
    | false => rw [hb] at h'; exact okSlots_spec hk.2 t h'
theorem Fr.le_of {c fb fr : Fr} (hb : fr.drop (fr.length - fb.length) = fb) (hs : okSlots (c.map Prod.fst) (fb.map Prod.fst) ((fr.take (fr.length - fb.length)).map Prod.fst) = true) (hc : Fr.sub c fr) : Fr.le (c ++ fb) fr := fun t v h => by
  rw [Fr.get_append] at h
  cases hct : c.get t with
  | some u =>
    rw [hct] at h
    have h' : some u = some v := h
    rw [← h']
    exact Fr.get_of_sub hc t u hct
  | none =>
    rw [hct] at h
    have h' : fb.get t = some v := h
    rw [← List.take_append_drop (fr.length - fb.length) fr, hb, Fr.get_append]
    cases hp : Fr.get (fr.take (fr.length - fb.length)) t with
    | none => exact h'
    | some u =>
      exfalso
      have h1 : inN t ((fr.take (fr.length - fb.length)).map Prod.fst) = true := by
        cases hi : inN t ((fr.take (fr.length - fb.length)).map Prod.fst) with
        | true => rfl
        | false => rw [(Fr.get_none_iff _ t).2 hi] at hp; cases hp
      rcases okSlots_spec hs t h1 with h2 | h2
      · rw [(Fr.get_none_iff c t).1 hct] at h2; cases h2
      · rw [(Fr.get_none_iff fb t).2 h2] at h'; cases h'
section
variable {P : Program} {fn : Func} {F : Ending → World → Prop} {N : Nat} {ks : List K} {k : K} {ops : Array Oper} {l : List Oper} {fr : Fr} {w : World} {tg : Tags}
theorem RK.le {fr' : Fr} (hs : Fr.le fr' fr) (h : RK P fn F N ks fr' w) : RK P fn F N ks fr w := fun a ha => h a (ha.le hs)
/-- A loop: Inv says what holds at its head (its first word is the frame ahead of it); its number goes down. -/
theorem rk_loopf {c : Code} (Inv : Fr → Nat → Fr → World → Prop) {n : Nat} {fr0 : Fr} (hs : Fr.le fr0 fr) (h0 : Inv fr n fr0 w)
    (round : ∀ n fr' w, Inv fr n fr' w → RK P fn F N (.code c :: .inv (fun a w' => ∃ m fr', m < n ∧ Rep N a fr' ∧ Inv fr m fr' w') :: ks) fr' w) : RK P fn F N (.code (.loop c) :: ks) fr w := by
  intro a ha b k cs
  have key : ∀ n fr' a w, Rep N a fr' → Inv fr n fr' w →
      ∃ e a' w', kpost P fn F ks e a' w' ∧ Arrives P (lone (b.at a (.code c :: .inLoop c :: k)) cs w) b k cs e a' w' := by
    intro n
    induction n using Nat.strongRecOn with
    | _ n ih =>
      intro fr' a w hr hI
      obtain ⟨e, a₁, w₁, hq, harr⟩ := round n fr' w hI a hr b (.inLoop c :: k) cs
      cases e with
      | normal =>
        obtain ⟨m, fr'', hlt, hr', hI₁⟩ := hq
        obtain ⟨e₂, a₂, w₂, hq₂, harr₂⟩ := ih m hlt fr'' a₁ w₁ hr' hI₁
        exact ⟨e₂, a₂, w₂, hq₂, .of_steps (Steps.trans harr (.one step_inLoop)) harr₂⟩
      | exit id => exact ⟨_, a₁, w₁, hq, .pass (x := .inLoop c) rfl (fun _ _ => .inl (by simp)) harr⟩
      | goto l => exact ⟨_, a₁, w₁, hq, .pass (x := .inLoop c) rfl (fun _ _ => .inl (by simp)) harr⟩
      | ret => exact ⟨_, a₁, w₁, hq, .pass (x := .inLoop c) rfl (fun _ _ => .inl (by simp)) harr⟩
      | panic ch => exact ⟨_, a₁, w₁, hq, .pass (x := .inLoop c) rfl (fun _ _ => .inl (by simp)) harr⟩
      | outgrown => exact ⟨_, a₁, w₁, hq, .pass (x := .inLoop c) rfl (fun _ _ => .inl (by simp)) harr⟩
  obtain ⟨e, a', w', hq, harr⟩ := key n fr0 a w (ha.le hs) h0
  exact ⟨e, a', w', hq, .of_steps (.one step_loop) harr⟩
theorem rk_againf {Inv : Nat → Fr → World → Prop} {n m : Nat} {fr0 : Fr} (hs : Fr.le fr0 fr) (h : Inv m fr0 w) (hlt : m < n) :
    RK P fn F N (.inv (fun a w' => ∃ m fr', m < n ∧ Rep N a fr' ∧ Inv m fr' w') :: ks) fr w := fun _ ha => ⟨m, fr0, hlt, ha.le hs, h⟩
theorem rk_joinf {id : Nat} (R : Fr → Fr → World → Prop) (h2 : ∀ fr' w, R fr fr' w → RK P fn F N ks fr' w) (h1 : ∀ ks, (∀ fr' w, R fr fr' w → RK P fn F N ks fr' w) → RK P fn F N (k :: .blk id :: ks) fr w) : RK P fn F N (k :: .blk id :: ks) fr w := h1 ks h2
/-- The same where a way may leave by what lies beneath. -/
theorem rk_joincf (R : Fr → Fr → World → Prop) (h2 : ∀ fr' w, R fr fr' w → RK P fn F N ks fr' w) (h1 : (∀ fr' w, R fr fr' w → RK P fn F N ks fr' w) → RK P fn F N (k :: ks) fr w) : RK P fn F N (k :: ks) fr w := h1 h2
theorem rk_tof {R : Fr → World → Prop} (hj : ∀ fr w, R fr w → RK P fn F N ks fr w) {fr0 : Fr} (hs : Fr.le fr0 fr) (h : R fr0 w) : RK P fn F N ks fr w := (hj fr0 w h).le hs
theorem wl_tof {R : Fr → World → Prop} (hj : ∀ fr w, R fr w → WL P fn F N ks ops tg l fr w) {fr0 : Fr} (hs : Fr.le fr0 fr) (h : R fr0 w) : WL P fn F N ks ops tg l fr w := fun a ha => hj fr0 w h a (ha.le hs)
theorem rk_frame {c fb fr' : Fr} (e : c ++ fb = fr') (h : RK P fn F N ks fr' w) : RK P fn F N ks (c ++ fb) w := e ▸ h
theorem wl_frame {c fb fr' : Fr} (e : c ++ fb = fr') (h : WL P fn F N ks ops tg l fr' w) : WL P fn F N ks ops tg l (c ++ fb) w := e ▸ h
/-- Within a region: all ways through the next n operations come to a state of R. -/
theorem wl_joinf (n : Nat) (R : Fr → Fr → World → Prop) (h2 : ∀ fr' w, R fr fr' w → WL P fn F N ks ops (Tags.tails n tg) (l.drop n) fr' w) (h1 : (∀ fr' w, R fr fr' w → WL P fn F N ks ops (Tags.tails n tg) (l.drop n) fr' w) → WL P fn F N ks ops tg l fr w) : WL P fn F N ks ops tg l fr w := h1 h2
theorem wl_forkf {row : Rw} {m L C n k1 k2 : Nat} {ops : List Oper} (R : Fr → Fr → World → Prop) (D A : List Nat) (ord1 ord2 ordR : List Nat) (ts1 ts2 tsR : List (Tag × Nat)) (hD : ops.map (dmask .any) = D) (hA : ancs .any ops [] = A)
    (hc : (Nat.testBit L k1 && (Nat.testBit L k2 && (rdyK D m k1 && (rdyK D m k2 && (Go.Proofs.YtahkeoegbjopfaaGreat.only2 m k1 k2 D 0 && (Nat.beq n ((inOrder ops ord1).length + extra ts1) && (Nat.beq n ((inOrder ops ord2).length + extra ts2) && (chk ops.toArray ops D A L C ts1 (m ||| 2 ^ k1) && chk ops.toArray ops D A L C ts2 (m ||| 2 ^ k2))))))))) = true)
    (hl1 : (inOrder ops ord1).map some = ops.toArray[k1]? :: opsOf ops.toArray ts1) (hl2 : (inOrder ops ord2).map some = ops.toArray[k2]? :: opsOf ops.toArray ts2)
    (h0 : ∀ fr' w, R fr fr' w → WL P fn F N ks ops.toArray (some (row, tsR)) (inOrder ops ordR) fr' w)
    (h1 : (∀ fr' w, R fr fr' w → WL P fn F N ks ops.toArray (some (row, tsR)) (inOrder ops ordR) fr' w) → WL P fn F N ks ops.toArray (some (row, (.g m L C, k1) :: ts1)) (inOrder ops ord1) fr w)
    (h2 : (∀ fr' w, R fr fr' w → WL P fn F N ks ops.toArray (some (row, tsR)) (inOrder ops ordR) fr' w) → WL P fn F N ks ops.toArray (some (row, (.g m L C, k2) :: ts2)) (inOrder ops ord2) fr w) : WL P fn F N ks ops.toArray (some (row, [(.f m L C, n)])) [] fr w :=
  wl_fork2j (R fr) D A ord1 ord2 ordR ts1 ts2 tsR hD hA hc hl1 hl2 h0 h1 h2
end

/-! Which blocks a change may touch. -/
def Ap (row : Option Nat) (lo hi : Nat) : Prop := ∀ k, row = some k → k < lo ∨ hi ≤ k
theorem ap_some {g lo hi : Nat} (h : g < lo ∨ hi ≤ g) : Ap (some g) lo hi := fun k e => by injection e with e; omega
theorem ap_none {lo hi : Nat} : Ap none lo hi := fun k e => by cases e
/-- The block k is a row of elements of type e. -/
def TyAt (w : World) (k : Nat) (e : TypeId) : Prop := ∃ cs f, w.heap[k]? = some (.cells cs e f)
/-- No more than one row has changed, of elements of type e. -/
structure Grew (w w' : World) (e : TypeId) (row : Option Nat) : Prop where
  g : w.grownBy w' row
  ty : ∀ k, row = some k → TyAt w k e
theorem Grew.size {w w' : World} {e : TypeId} {row : Option Nat} (h : Grew w w' e row) : w.heap.size ≤ w'.heap.size := h.g.size
theorem Grew.below {w w' : World} {e : TypeId} {row : Option Nat} (h : Grew w w' e row) {B : Nat} (hB : B ≤ w.heap.size) (ha : ∀ k, row = some k → B ≤ k) : Below B w w' :=
  ⟨h.g.os, h.g.tape, h.g.output, h.g.size, fun k hk => h.g.block k (by omega) (fun e => by have := ha k e.symm; omega)⟩

/-- No more than the map b has changed. -/
structure GrewM (w w' : World) (b : Nat) : Prop where
  g : w.grownBy w' (some b)
  m : ∃ es c, w.heap[b]? = some (.map es c)
theorem GrewM.size {w w' : World} {b : Nat} (h : GrewM w w' b) : w.heap.size ≤ w'.heap.size := h.g.size

section
variable {w w' : World} {g : Nat} {t e : TypeId} {cs : List Value} {row : Option Nat}
theorem Blk.m {b : Nat} (h : Blk w g t cs) (hg : GrewM w w' b) : Blk w' g t cs := h.grown hg.g (fun e => by
  injection e with e
  subst e
  obtain ⟨_, _, h'⟩ := hg.m
  unfold Blk at h
  rw [h] at h'
  cases h')
theorem Blk.u (h : Blk w g t cs) (hb : Below w.heap.size w w') : Blk w' g t cs := h.under hb
theorem Blk.d (h : Blk w g t cs) : Blk w.drew g t cs := h
theorem Blk.k (h : Blk w g t cs) (hg : w.grownBy w' row) (ha : Ap row g (g + 1)) : Blk w' g t cs := h.grown hg (fun e => by have := ha g e.symm; omega)
theorem Blk.y (h : Blk w g t cs) (hg : Grew w w' e row) (hne : e ≠ t) : Blk w' g t cs := h.grown hg.g (fun e' => by
  obtain ⟨cs', f, h'⟩ := hg.ty g e'.symm
  unfold Blk at h
  rw [h] at h'
  injection h' with h'
  injection h' with _ h'
  exact hne h'.symm)
theorem Blk.at_ (h : Blk w g t cs) : TyAt w g t := ⟨_, _, h⟩
theorem Blk.grew_set (h : Blk w g t cs) (i : Nat) (u : Value) : Grew w (w.setCell ⟨g, i, none⟩ u) t (some g) := ⟨grownBy_setCell w g i u, fun k e => by injection e with e; subst e; exact h.at_⟩
end

section
variable {w w' : World} {sz n lo hi c : Nat} {e e' : TypeId} {A : Option Addr} {xs : List Value} {l : List UInt8} {row : Option Nat}
theorem Reads.u (h : Reads w sz A n xs) (hb : Below w.heap.size w w') : Reads w' sz A n xs := h.below hb
theorem Reads.d (h : Reads w sz A n xs) : Reads w.drew sz A n xs := h
theorem Rd.u (h : Rd w A l) (hb : Below w.heap.size w w') : Rd w' A l := h.below hb
theorem Rd.d (h : Rd w A l) : Rd w.drew A l := h
theorem Rd.to_Reads (h : Rd w A l) : Reads w 1 A l.length (B8 l) := h
theorem Rd.nil_ : Rd w none [] := Rd.nil w none
/-- A row of the call's own, in the blocks from lo to hi. -/
structure RowH (w : World) (lo hi : Nat) (e : TypeId) (sz : Nat) (A : Option Addr) (n c : Nat) (xs : List Value) : Prop where
  o : w.ownsRow lo e sz (.slice A n c) n xs
  hi : ∀ k, blk A = some k → k < hi
theorem RowH.lt (h : RowH w lo hi e sz A n c xs) : ∀ k, blk A = some k → lo ≤ k ∧ k < w.heap.size := fun k hk => World.ownsRow.lt h.o k (by rw [blk_own]; exact hk)
theorem RowH.u (h : RowH w lo hi e sz A n c xs) (hb : Below w.heap.size w w') : RowH w' lo hi e sz A n c xs :=
  ⟨World.ownsRow.kept h.o (row := none) ⟨hb.os, hb.tape, hb.output, hb.size, fun k hk _ => hb.block k hk⟩ (by rw [blk_own]; cases blk A <;> simp), h.hi⟩
theorem RowH.d (h : RowH w lo hi e sz A n c xs) : RowH w.drew lo hi e sz A n c xs := ⟨World.ownsRow.drew h.o, h.hi⟩
theorem RowH.k (h : RowH w lo hi e sz A n c xs) (hg : w.grownBy w' row) (ha : Ap row lo hi) : RowH w' lo hi e sz A n c xs :=
  ⟨World.ownsRow.kept h.o hg (by
    rw [blk_own]
    cases hA : blk A with
    | none => exact .inl rfl
    | some k => exact .inr fun e => by have := h.hi k hA; have := h.lt k hA; have := ha k e.symm; omega), h.hi⟩
theorem RowH.ty (h : RowH w lo hi e sz A n c xs) : ∀ k, blk A = some k → TyAt w k e := fun k hk => by
  rcases h.o.2 with ⟨hv, _⟩ | ⟨g', cap, cur, hv, _, hh, _⟩
  · injection hv with hv; subst hv; cases hk
  · injection hv with hv; subst hv
    have : g' = k := by simpa [blk] using hk
    subst this
    exact ⟨_, _, hh⟩
theorem RowH.y (h : RowH w lo hi e sz A n c xs) (hg : Grew w w' e' row) (hne : e' ≠ e) : RowH w' lo hi e sz A n c xs :=
  ⟨World.ownsRow.kept h.o hg.g (by
    rw [blk_own]
    cases hA : blk A with
    | none => exact .inl rfl
    | some k =>
      refine .inr (fun ek => ?_)
      obtain ⟨_, _, h1⟩ := h.ty k hA
      obtain ⟨_, _, h2⟩ := hg.ty k ek.symm
      rw [h1] at h2
      injection h2 with h2
      injection h2 with _ h2
      exact hne h2.symm), h.hi⟩
theorem RowH.m {b : Nat} (h : RowH w lo hi e sz A n c xs) (hg : GrewM w w' b) : RowH w' lo hi e sz A n c xs :=
  ⟨World.ownsRow.kept h.o hg.g (by
    rw [blk_own]
    cases hA : blk A with
    | none => exact .inl rfl
    | some k =>
      refine .inr (fun ek => ?_)
      obtain ⟨_, _, h1⟩ := h.ty k hA
      obtain ⟨_, _, h2⟩ := hg.m
      injection ek with ek
      subst ek
      rw [h1] at h2
      cases h2), h.hi⟩
theorem RowH.ap (h : RowH w lo hi e sz A n c xs) {lo' hi' : Nat} (hd : hi ≤ lo' ∨ hi' ≤ lo) : Ap (blk A) lo' hi' := fun k hk => by have := h.hi k hk; have := h.lt k hk; omega
theorem RowH.rd (h : RowH w lo hi e sz A n c xs) : Reads w sz A n xs := Reads.of_own h.o
theorem RowH.cap (h : RowH w lo hi e sz A n c xs) : n ≤ c := by
  rcases h.o.2 with ⟨h1, h2⟩ | ⟨g, cap, cur, h2, h3, h4, h5, _⟩
  · injection h1 with _ _ h3; omega
  · injection h2 with _ _ h6; omega
theorem RowH.base (h : RowH w lo hi e sz A n c xs) {lo' hi' : Nat} (h1 : lo' ≤ lo) (h2 : hi ≤ hi') : RowH w lo' hi' e sz A n c xs :=
  ⟨⟨h.o.1, by
    rcases h.o.2 with h3 | ⟨g, cap, cur, h3, h4, h5⟩
    · exact .inl h3
    · exact .inr ⟨g, cap, cur, h3, by omega, h5⟩⟩, fun k hk => by have := h.hi k hk; omega⟩
theorem RowH.nil (w : World) (lo hi : Nat) (e : TypeId) (sz : Nat) : RowH w lo hi e sz none 0 0 [] := ⟨World.ownsRow_nil _ _ _ _, fun k hk => by cases hk⟩

/-- Bytes of the call's own, in the blocks from lo to hi. -/
def OwnH (w : World) (lo hi : Nat) (A : Option Addr) (c : Nat) (l : List UInt8) : Prop := RowH w lo hi 5 1 A l.length c (B8 l)
theorem OwnH.u (h : OwnH w lo hi A c l) (hb : Below w.heap.size w w') : OwnH w' lo hi A c l := RowH.u h hb
theorem OwnH.d (h : OwnH w lo hi A c l) : OwnH w.drew lo hi A c l := RowH.d h
theorem OwnH.k (h : OwnH w lo hi A c l) (hg : w.grownBy w' row) (ha : Ap row lo hi) : OwnH w' lo hi A c l := RowH.k h hg ha
theorem OwnH.y (h : OwnH w lo hi A c l) (hg : Grew w w' e' row) (hne : e' ≠ 5) : OwnH w' lo hi A c l := RowH.y h hg hne
theorem OwnH.m {b : Nat} (h : OwnH w lo hi A c l) (hg : GrewM w w' b) : OwnH w' lo hi A c l := RowH.m h hg
theorem OwnH.ap (h : OwnH w lo hi A c l) {lo' hi' : Nat} (hd : hi ≤ lo' ∨ hi' ≤ lo) : Ap (blk A) lo' hi' := RowH.ap h hd
theorem OwnH.cap (h : OwnH w lo hi A c l) : l.length ≤ c := RowH.cap h
theorem OwnH.to_Rd (h : OwnH w lo hi A c l) : Rd w A l := RowH.rd h
theorem OwnH.to_Reads (h : OwnH w lo hi A c l) : Reads w 1 A l.length (B8 l) := RowH.rd h
theorem OwnH.to_Own (h : OwnH w lo hi A c l) : Own w lo A c l := h.o
theorem OwnH.base (h : OwnH w lo hi A c l) {lo' hi' : Nat} (h1 : lo' ≤ lo) (h2 : hi ≤ hi') : OwnH w lo' hi' A c l := RowH.base h h1 h2
theorem OwnH.nil_ : OwnH w lo hi none 0 [] := RowH.nil _ _ _ _ _
theorem Own.h_ (h : Own w lo A c l) : OwnH w lo w.heap.size A c l := ⟨h, fun k hk => (Own.lt h k hk).2⟩
end

section
variable {P : Program} {fn : Func} {F : Ending → World → Prop} {N : Nat} {ks : List K} {ops : Array Oper} {tg : Tags} {l : List Oper} {fr : Fr} {w : World} {ty t t' t2 e : TypeId} {z v : Value} {sz bytes : Nat} {pos pos2 : String} {aft aft2 : Array Edge} {gd gd2 : Option (Nat × Bool)} {d g i n : Nat} {x y k : Operand} {cs : List Value} {ty2 : TypeId}

/-! New blocks. -/
--@ rule alloc l wl_allocst1
--@ rule alloc l wl_allocstn
--@ rule alloc l wl_allocg
--@ rule box l wl_boxg
theorem wl_allocg (zs : List Value) (hz : ∀ w, (zeroValue e).run P w = .ok z w) (hzs : z.cells = zs.toArray)
    (hk : ∀ g w', Blk w' g e zs → Below w.heap.size w w' → w.heap.size ≤ g → g < w'.heap.size → WL P fn F N ks ops tg.tail l ((d, .pointer (some ⟨g, 0, none⟩)) :: fr) w')
    (ht : tg.loud = true := by rfl) (hg : onG ops fr gd = true := by rfl) (hd : Nat.blt d N = true := by rfl) : WL P fn F N ks ops tg (⟨some d, .alloc e, ty, pos, aft, gd⟩ :: l) fr w :=
  wl_alloc zs hz hzs (fun w' h1 h2 h3 => hk _ w' h1 h2 (Nat.le_refl _) (by omega)) ht hg hd
theorem wl_boxg (vs : List Value) (hx : fr.ev x = some v) (hvs : v.cells = vs.toArray)
    (hk : ∀ g w', Blk w' g e vs → Below w.heap.size w w' → w.heap.size ≤ g → g < w'.heap.size → WL P fn F N ks ops tg.tail l ((d, .pointer (some ⟨g, 0, none⟩)) :: fr) w')
    (ht : tg.loud = true := by rfl) (hg : onG ops fr gd = true := by rfl) (hd : Nat.blt d N = true := by rfl) : WL P fn F N ks ops tg (⟨some d, .box e x, ty, pos, aft, gd⟩ :: l) fr w :=
  wl_box vs hx hvs (fun w' h1 h2 h3 => hk _ w' h1 h2 (Nat.le_refl _) (by omega)) ht hg hd
/-- A new variable, and its first value at once. -/
theorem wl_allocst1 (hz : ∀ w, (zeroValue e).run P w = .ok z w) (zs : List Value) (hzs : z.cells = zs.toArray) (hzl : zs.length = 1) (hs : ∀ w, (sizeOf t).run P w = .ok 1 w) (hy : ∀ u, Fr.ev ((d, u) :: fr) y = some v) (h1 : v.oneCell' = true)
    (hk : ∀ g w', Blk w' g e [v] → Below w.heap.size w w' → w.heap.size ≤ g → g < w'.heap.size → WL P fn F N ks ops tg.tail.tail l ((d, .pointer (some ⟨g, 0, none⟩)) :: fr) w')
    (ht : tg.loud = true := by rfl) (ht2 : tg.tail.loud = true := by rfl) (hg : onG ops fr gd = true := by rfl) (hg2 : ∀ u, onG ops ((d, u) :: fr) gd2 = true := by intro _; rfl) (hd : Nat.blt d N = true := by rfl) (hq : tg.tail.calm = false := by rfl) :
    WL P fn F N ks ops tg (⟨some d, .alloc e, ty, pos, aft, gd⟩ :: ⟨none, .store t (.tmp d) y, ty2, pos2, aft2, gd2⟩ :: l) fr w :=
  wl_alloc zs hz hzs (fun w1 hB hb hz1 => wl_store1 (i := 0) hs (show Fr.ev ((d, .pointer (some ⟨w.heap.size, 0, none⟩)) :: fr) (.tmp d) = _ by simp [Fr.ev, Fr.get]) (hy _) h1 hB (by omega) (fun w2 hB2 hg2' hz2 => hk w.heap.size w2
    (by rcases zs with _ | ⟨a, _ | ⟨b, r⟩⟩ <;> first | (simp at hzl; done) | exact hB2) (hb.trans (below_of_grownBy hg2' (by omega) (Nat.le_refl _))) (Nat.le_refl _) (by omega)) ht2 (hg2 _) (.inl hq)) ht hg hd
theorem wl_allocstn (hz : ∀ w, (zeroValue e).run P w = .ok z w) (zs vs : List Value) (hzs : z.cells = zs.toArray) (hs : ∀ w, (sizeOf t).run P w = .ok n w) (hy : ∀ u, Fr.ev ((d, u) :: fr) y = some (.agg vs.toArray)) (hzl : zs.length = n) (hn : vs.length = n) (h1 : ∀ v ∈ vs, v.oneCell' = true)
    (hk : ∀ g w', Blk w' g e vs → Below w.heap.size w w' → w.heap.size ≤ g → g < w'.heap.size → WL P fn F N ks ops tg.tail.tail l ((d, .pointer (some ⟨g, 0, none⟩)) :: fr) w')
    (ht : tg.loud = true := by rfl) (ht2 : tg.tail.loud = true := by rfl) (hg : onG ops fr gd = true := by rfl) (hg2 : ∀ u, onG ops ((d, u) :: fr) gd2 = true := by intro _; rfl) (hd : Nat.blt d N = true := by rfl) (hq : tg.tail.calm = false := by rfl) :
    WL P fn F N ks ops tg (⟨some d, .alloc e, ty, pos, aft, gd⟩ :: ⟨none, .store t (.tmp d) y, ty2, pos2, aft2, gd2⟩ :: l) fr w :=
  wl_alloc zs hz hzs (fun w1 hB hb hz1 => wl_store_all hs (show Fr.ev ((d, .pointer (some ⟨w.heap.size, 0, none⟩)) :: fr) (.tmp d) = _ by simp [Fr.ev, Fr.get]) (hy _) hn h1 hB hzl (fun w2 hB2 hg2' hz2 => hk w.heap.size w2
    hB2 (hb.trans (below_of_grownBy hg2' (by omega) (Nat.le_refl _))) (Nat.le_refl _) (by omega)) ht2 (hg2 _) (.inl hq)) ht hg hd

/-! Stores into blocks of the call's own. -/
--@ rule store l wl_storeg1
--@ rule store l wl_storega
--@ rule store l wl_storegn
theorem wl_storeg1 (hs : ∀ w, (sizeOf t).run P w = .ok 1 w) (hx : fr.ev x = some (.pointer (some ⟨g, i, none⟩))) (hy : fr.ev y = some v) (h1 : v.oneCell' = true) (hB : Blk w g t' cs) (hi : i < cs.length)
    (hk : ∀ w', Blk w' g t' (cs.set i v) → Grew w w' t' (some g) → w'.heap.size = w.heap.size → WL P fn F N ks ops tg.tail l fr w') (ht : tg.loud = true := by rfl) (hg : onG ops fr gd = true := by rfl) (hq : tg.calm = false ∨ tg.rw.may (some g) := by exact .inl rfl) :
    WL P fn F N ks ops tg (⟨none, .store t x y, ty, pos, aft, gd⟩ :: l) fr w :=
  wl_store1 hs hx hy h1 hB hi (fun w' h1 h2 h3 => hk w' h1 ⟨h2, fun k e => by injection e with e; subst e; exact hB.at_⟩ h3) ht hg hq
theorem wl_storega {vs : List Value} (hs : ∀ w, (sizeOf t).run P w = .ok n w) (hx : fr.ev x = some (.pointer (some ⟨g, 0, none⟩))) (hy : fr.ev y = some (.agg vs.toArray)) (hn : vs.length = n) (h1 : ∀ v ∈ vs, v.oneCell' = true) (hB : Blk w g t' cs) (hi : cs.length = n)
    (hk : ∀ w', Blk w' g t' vs → Grew w w' t' (some g) → w'.heap.size = w.heap.size → WL P fn F N ks ops tg.tail l fr w') (ht : tg.loud = true := by rfl) (hg : onG ops fr gd = true := by rfl) (hq : tg.calm = false ∨ tg.rw.may (some g) := by exact .inl rfl) :
    WL P fn F N ks ops tg (⟨none, .store t x y, ty, pos, aft, gd⟩ :: l) fr w :=
  wl_store_all hs hx hy hn h1 hB hi (fun w' h1 h2 h3 => hk w' h1 ⟨h2, fun k e => by injection e with e; subst e; exact hB.at_⟩ h3) ht hg hq
theorem wl_storegn {vs : List Value} (hs : ∀ w, (sizeOf t).run P w = .ok n w) (hx : fr.ev x = some (.pointer (some ⟨g, i, none⟩))) (hy : fr.ev y = some (.agg vs.toArray)) (hn : vs.length = n) (h1 : ∀ v ∈ vs, v.oneCell' = true) (hB : Blk w g t' cs) (hi : i + n ≤ cs.length)
    (hk : ∀ w', Blk w' g t' (spl cs i vs) → Grew w w' t' (some g) → w'.heap.size = w.heap.size → WL P fn F N ks ops tg.tail l fr w') (ht : tg.loud = true := by rfl) (hg : onG ops fr gd = true := by rfl) (hq : tg.calm = false ∨ tg.rw.may (some g) := by exact .inl rfl) :
    WL P fn F N ks ops tg (⟨none, .store t x y, ty, pos, aft, gd⟩ :: l) fr w :=
  wl_storen hs hx hy hn h1 hB hi (fun w' h1 h2 h3 => hk w' h1 ⟨h2, fun k e => by injection e with e; subst e; exact hB.at_⟩ h3) ht hg hq

/-! Loads out of blocks. -/
--@ rule load r o_loadbg
--@ rule load r o_loadag
theorem o_loadbg (ha' : ∀ w, (isAgg t).run P w = .ok false w) (hx : fr.ev x = some (.pointer (some ⟨g, i, none⟩))) (hB : Blk w g t' cs) (hi : cs[i]? = some v) : OpV P N fr w (.load t x) ty v w := o_loadb ha' hx hB hi
theorem o_loadag (ha' : ∀ w, (isAgg t).run P w = .ok true w) (hs : ∀ w, (sizeOf t).run P w = .ok n w) (hx : fr.ev x = some (.pointer (some ⟨g, 0, none⟩))) (hB : Blk w g t' cs) (hn : cs.length = n) : OpV P N fr w (.load t x) ty (.agg cs.toArray) w := o_load_all ha' hs hx hB hn

/-! Elements of slices: addresses. -/
def adr (A : Option Addr) (k : Nat) : Addr := (A.getD ⟨0, 0, none⟩).add k
theorem adr_add (A : Option Addr) (i j : Nat) : (adr A i).add j = adr A (i + j) := add_of_add _ _ _
theorem Reads.adr_ {A : Option Addr} {xs : List Value} {n : Nat} (h : Reads w sz A n xs) (hne : xs ≠ []) : A = some (A.getD ⟨0, 0, none⟩) ∧ ∀ j u, xs[j]? = some u → w.cell? (adr A j) = some u := by
  obtain ⟨b, o, rfl, hc⟩ := h.2 hne
  exact ⟨rfl, fun j u hu => by simp only [adr, Option.getD_some, add_plain]; exact hc j u hu⟩
section
variable {A : Option Addr} {len cap : Nat} {ik : IntKind} {m : Int} {xs : List Value} {w0 : World}
theorem Reads.some_ (hr : Reads w0 sz A len xs) (h0 : 0 < sz) (hj : 0 < len) : A = some (A.getD ⟨0, 0, none⟩) := by
  refine (hr.adr_ (fun e => ?_)).1
  have := hr.1
  rw [e, List.length_nil] at this
  rcases Nat.mul_eq_zero.1 this.symm with h | h <;> omega
theorem o_iaddrA (j : Nat) (hu : P.underlying t = some (.slice e)) (hs : ∀ w, (sizeOf e).run P w = .ok sz w) (hx : fr.ev x = some (.slice A len cap)) (hy : fr.ev y = some (.int ik m)) (hm : m = (j : Int)) (hA : A = some (A.getD ⟨0, 0, none⟩)) (hj : j < len) :
    OpV P N fr w (.indexAddr t x y) ty (.pointer (some (adr A (j * sz)))) w := fun a ha op hop _ => by
  subst hm
  have h2 : ¬ len ≤ j := by omega
  have hx' : a.eval x = .slice (some (A.getD ⟨0, 0, none⟩)) len cap := by rw [ha.ev hx]; exact congrArg (fun A => Value.slice A len cap) hA
  simp [execOp, hop, hx', ha.ev hy, Instr.indexAt, run_underlying hu, asIntOf, hs, adr]
  intro h; exact absurd h h2
--@ rule indexAddr p o_iaddrA1
--@ rule indexAddr p o_iaddrA
theorem o_iaddrA1 (j : Nat) (hu : P.underlying t = some (.slice e)) (hs : ∀ w, (sizeOf e).run P w = .ok 1 w) (hx : fr.ev x = some (.slice A len cap)) (hy : fr.ev y = some (.int ik m)) (hm : m = (j : Int)) (hA : A = some (A.getD ⟨0, 0, none⟩)) (hj : j < len) :
    OpV P N fr w (.indexAddr t x y) ty (.pointer (some (adr A j))) w := o_as (o_iaddrA j hu hs hx hy hm hA hj) (by rw [Nat.mul_one])
theorem o_faddrA {s : TypeId} {fs : Array Field} {f : Field} {i off fsz : Nat} {ad : Addr} (hu : P.underlying s = some (.struct fs)) (hf : fs[i]? = some f) (hs : ∀ w, (sizeOf f.type).run P w = .ok fsz w) (hz : Nat.blt 0 fsz = true) (ho : f.offset = off)
    (hx : fr.ev x = some (.pointer (some ad))) : OpV P N fr w (.fieldAddr s x i) ty (.pointer (some (ad.add off))) w := fun a ha op hop _ => by
  have hz' : fsz ≠ 0 := by
    have : 0 < fsz := by simpa using hz
    omega
  subst ho
  simp [execOp, hop, ha.ev hx, Instr.fieldAt, run_underlying hu, hf, Instr.sureAddr, fieldPlace, hs, hz']
--@ rule fieldAddr p o_faddrR
theorem o_faddrR {s : TypeId} {fs : Array Field} {f : Field} {i off fsz k : Nat} {A : Option Addr} (hx : fr.ev x = some (.pointer (some (adr A k)))) (hu : P.underlying s = some (.struct fs)) (hf : fs[i]? = some f) (hs : ∀ w, (sizeOf f.type).run P w = .ok fsz w) (hz : Nat.blt 0 fsz = true) (ho : f.offset = off) :
    OpV P N fr w (.fieldAddr s x i) ty (.pointer (some (adr A (k + off)))) w := o_as (o_faddrA hu hf hs hz ho hx) (by rw [adr_add])
theorem o_loadA1 (ha' : ∀ w, (isAgg t).run P w = .ok false w) (hx : fr.ev x = some (.pointer (some (adr A i)))) (hr : Reads w sz A n xs) (hv : xs[i]? = some v) : OpV P N fr w (.load t x) ty v w :=
  o_load ha' hx ((hr.adr_ (fun e => by rw [e] at hv; cases hv)).2 _ _ hv)
--@ rule load r o_loadB
--@ rule load r o_loadZ
theorem o_loadB {j : Nat} {bs : List UInt8} (ha' : ∀ w, (isAgg t).run P w = .ok false w) (hx : fr.ev x = some (.pointer (some (adr A j)))) (hr : Rd w A bs) (hj : j < bs.length) : OpV P N fr w (.load t x) ty (.int .u8 (bs[j].toNat : Int)) w :=
  o_loadA1 ha' hx hr (B8_get bs j hj)
theorem o_loadZ {j : Nat} {zs : List Int} (ha' : ∀ w, (isAgg t).run P w = .ok false w) (hx : fr.ev x = some (.pointer (some (adr A j)))) (hr : Reads w 1 A n (zs.map (Value.int ik))) (hj : j < zs.length) : OpV P N fr w (.load t x) ty (.int ik zs[j]) w :=
  o_loadA1 ha' hx hr (by rw [List.getElem?_map, List.getElem?_eq_getElem hj]; rfl)
end

/-! Literals of structs and arrays. -/
def lay (offs : Nat → Nat) : List Value → List (Nat × Value) → List Value
  | L, [] => L
  | L, (i, v) :: r => lay offs (spl L (offs i) v.cells.toList) r
--@ rule build p o_buildg
--@ rule build p o_buildga
theorem o_buildg {ps : Array (Nat × Operand)} {is : List Nat} {xs : List Operand} {vs : List Value} {fs : Array Field} (cs : List Value) (hu : P.underlying t = some (.struct fs)) (hz : ∀ w, (zeroValue t).run P w = .ok z w) (his : ps.toList.map Prod.fst = is) (hxs : ps.toList.map Prod.snd = xs) (hx : fr.evs xs = some vs)
    (hc : lay (fun i => ((fs[i]?).map (fun f => f.offset)).getD 0) z.cells.toList (is.zip vs) = cs) (hps : ps = (is.zip xs).toArray) (hr : ∀ w, (Instr.build t (is.zip vs).toArray).run P w = .ok (.agg cs.toArray) w) : OpV P N fr w (.build t ps) ty (.agg cs.toArray) w := by
  subst hps
  exact o_build hx hr
theorem o_buildga {ps : Array (Nat × Operand)} {is : List Nat} {xs : List Operand} {vs : List Value} (cs : List Value) (hu : P.underlying t = some (.array n e)) (hs : ∀ w, (sizeOf e).run P w = .ok sz w) (hz : ∀ w, (zeroValue t).run P w = .ok z w) (his : ps.toList.map Prod.fst = is) (hxs : ps.toList.map Prod.snd = xs) (hx : fr.evs xs = some vs)
    (hc : lay (fun i => i * sz) z.cells.toList (is.zip vs) = cs) (hps : ps = (is.zip xs).toArray) (hr : ∀ w, (Instr.build t (is.zip vs).toArray).run P w = .ok (.agg cs.toArray) w) : OpV P N fr w (.build t ps) ty (.agg cs.toArray) w := by
  subst hps
  exact o_build hx hr

/-! append, literals. -/
theorem run_append_cap0 {P : Program} (w : World) {t e ty : TypeId} {i : TypeInfo} (ht : P.underlying t = some (.slice e)) (hi : P.info? e = some i) (A : Option Addr) {X : Option Addr} {m q : Nat} (hm : 0 < m) (hb : Builtin.nextslicecap m 0 * i.bytes ≤ 281474976710656) :
    (Builtin.append_ #[t, t] ty #[.slice A 0 0, .slice X m q]).run P w = (Builtin.append_ #[t, t] ty #[.slice none 0 0, .slice X m q]).run P w := by
  have h0 : m ≠ 0 := by omega
  have h48' : ¬ (281474976710656 < Builtin.nextslicecap m 0 * i.bytes) := by omega
  have h1 : ∀ w, (Builtin.firstCells i.size 0 (.slice A 0 0)).run P w = .ok #[] w := fun w => by
    cases A <;> simp [Builtin.firstCells, loadCells, loadCellsFrom]
  have h2 : ∀ w, (Builtin.firstCells i.size 0 (.slice none 0 0)).run P w = .ok #[] w := fun w => by
    simp [Builtin.firstCells]
  simp [Builtin.append_, run_underlying ht, sizeOf, typeInfo, hi, Builtin.lenOf, h0, h48', h1, h2]
section
variable {A X : Option Addr} {c j q lo hi : Nat} {xs ms : List Value}
theorem wl_appR (T : RowT P t e z sz bytes) (hx : fr.ev x = some (.slice A n c)) (hown : RowH w lo hi e sz A n c xs) (hy : fr.ev y = some (.slice X j q)) (hr : Reads w sz X j ms) (h1 : ∀ u ∈ ms, u.oneCell' = true) (h63 : n + j ≤ maxLen) (hlen : (n + j) * bytes ≤ 140737488355328) (hB : lo ≤ w.heap.size)
    (h : ∀ A' c' w', RowH w' lo w'.heap.size e sz A' (n + j) c' (xs ++ ms) → Grew w w' e (blk A) → Below lo w w' → (blk A' = blk A ∨ blk A' = some w.heap.size) → WL P fn F N ks ops tg.tail l ((d, .slice A' (n + j) c') :: fr) w')
    (ht : tg.loud = true := by rfl) (hg : onG ops fr gd = true := by rfl) (hd : Nat.blt d N = true := by rfl) (hq : tg.calm = false ∨ blk A = none ∨ blk A = tg.row := by exact .inl rfl) :
    WL P fn F N ks ops tg (⟨some d, .call { callee := .builtin .append, args := #[x, y], argTypes := #[t, t] }, ty, pos, aft, gd⟩ :: l) fr w :=
  wl_appn T hx hown.o hy hr h1 h63 hlen hB (fun A' c' w' h1 h2 h3 h4 => h A' c' w' ⟨h1, fun k hk => (World.ownsRow.lt h1 k (by rw [blk_own]; exact hk)).2⟩ ⟨h2, hown.ty⟩ h4 h3) ht hg hd hq
/-- append to an empty slice without room: nothing that was there changes. -/
theorem wl_appR0 (T : RowT P t e z sz bytes) (hx : fr.ev x = some (.slice A 0 0)) (hown : RowH w lo hi e sz A 0 0 []) (hy : fr.ev y = some (.slice X j q)) (hr : Reads w sz X j ms) (h1 : ∀ u ∈ ms, u.oneCell' = true) (h63 : j ≤ maxLen) (hlen : j * bytes ≤ 140737488355328) (hB : lo ≤ w.heap.size)
    (h : ∀ A' c' w', RowH w' lo w'.heap.size e sz A' j c' ms → Below w.heap.size w w' → WL P fn F N ks ops tg.tail l ((d, .slice A' j c') :: fr) w')
    (ht : tg.loud = true := by rfl) (hg : onG ops fr gd = true := by rfl) (hd : Nat.blt d N = true := by rfl) :
    WL P fn F N ks ops tg (⟨some d, .call { callee := .builtin .append, args := #[x, y], argTypes := #[t, t] }, ty, pos, aft, gd⟩ :: l) fr w := by
  obtain ⟨i, hi, hz, hs, hb⟩ := info_parts T.hi
  rcases Nat.eq_zero_or_pos j with h0 | h0
  · subst h0
    have hm : ms = [] := List.eq_nil_of_length_eq_zero (by rw [hr.1]; simp)
    subst hm
    have hrun : (Builtin.append_ #[t, t] ty #[.slice A 0 0, .slice X 0 q]).run P w = .ok (.slice A 0 0) w := by
      have hst : ∀ a : Addr, (storeCells a [] 0).run P w = .ok () w := fun a => by simp [storeCells]
      have hf : (Builtin.firstCells i.size 0 (.slice X 0 q)).run P w = .ok #[] w := by cases X <;> simp [Builtin.firstCells, loadCells, loadCellsFrom]
      cases A <;> simp [Builtin.append_, run_underlying T.ht, sizeOf, typeInfo, hi, Builtin.lenOf, hf, storeCells]
    exact wl_v (o_builtin (xs := [x, y]) (vs := [.slice A 0 0, .slice X 0 q]) (by simp [Fr.evs, hx, hy]) (by simp [builtin, hrun]) (by simp)) (h A 0 w ⟨hown.o, fun k hk => (hown.lt k hk).2⟩ (Below.refl _ _)) ht hg hd (.inr (grown_of_below (Below.refl _ _) _))
  · obtain ⟨v', w', hrun, h2, h3, h4⟩ := run_append_any (P := P) w w.heap.size t ty e i z sz bytes T.ht hi hz hs hb T.hz T.h0 (.slice none 0 0) 0 [] (World.ownsRow_nil _ _ _ _) X j q ms hr h1 (by omega) (by rw [Nat.zero_add]; exact hlen) (Nat.le_refl _)
    obtain ⟨A', c', rfl⟩ := ownsRow_shape h2
    rw [← run_append_cap0 (P := P) w T.ht hi A h0 (by rw [nextslicecap_zero h0, hb]; omega)] at hrun
    have hbl : Below w.heap.size w w' := below_of_grown_none h3
    simp only [Nat.zero_add, List.nil_append] at h2 hrun
    have hR : RowH w' w.heap.size w'.heap.size e sz A' j c' ms := ⟨h2, fun k hk => (World.ownsRow.lt h2 k (by rw [blk_own]; exact hk)).2⟩
    exact wl_v (o_builtin (xs := [x, y]) (vs := [.slice A 0 0, .slice X j q]) (by simp [Fr.evs, hx, hy]) (by simp [builtin, hrun]) (by simp)) (h A' c' w' (hR.base hB (Nat.le_refl _)) hbl) ht hg hd (.inr (grown_of_below hbl _))
--@ rule append l wl_appB
theorem wl_appB (T : U8 P t) {s m : List UInt8} (hx : fr.ev x = some (.slice A n c)) (hown : OwnH w lo hi A c s) (hn : n = s.length) (hy : fr.ev y = some (.slice X j q)) (hr : Rd w X m) (hj : j = m.length) (hlen : s.length + m.length ≤ 4000000000) (hB : lo ≤ w.heap.size)
    (h : ∀ A' c' w', OwnH w' lo w'.heap.size A' c' (s ++ m) → Grew w w' 5 (blk A) → Below lo w w' → (blk A' = blk A ∨ blk A' = some w.heap.size) → WL P fn F N ks ops tg.tail l ((d, .slice A' (s ++ m).length c') :: fr) w')
    (ht : tg.loud = true := by rfl) (hg : onG ops fr gd = true := by rfl) (hd : Nat.blt d N = true := by rfl) (hq : tg.calm = false ∨ blk A = none ∨ blk A = tg.row := by exact .inl rfl) :
    WL P fn F N ks ops tg (⟨some d, .call { callee := .builtin .append, args := #[x, y], argTypes := #[t, t] }, ty, pos, aft, gd⟩ :: l) fr w :=
  wl_app T hx hn hown.o hy hj hr (by omega) hB (fun A' c' w' h1 h2 h3 h4 => h A' c' w' h1.h_ ⟨h2, RowH.ty hown⟩ h4 h3) ht hg hd hq
/-- A slice literal. -/
theorem wl_litR {ps : Array (Nat × Operand)} {xs : List Operand} {vs : List Value} (T : RowT P t e z sz bytes) (hs : ∀ w, (sizeOf e).run P w = .ok sz w) (hz : ∀ w, (zeroValue e).run P w = .ok z w) (hxs : ps.toList.map Prod.snd = xs) (hps : ps = ((List.range' 0 n).zip xs).toArray) (hx : fr.evs xs = some vs) (hn : vs.length = n) (h1 : ∀ v ∈ vs, v.cells.size = sz) (hm : Nat.ble (n * sz) 1000000 = true)
    (hk : ∀ A w', RowH w' w.heap.size w'.heap.size e sz A n n (vs.flatMap fun v => v.cells.toList) → Below w.heap.size w w' → WL P fn F N ks ops tg.tail l ((d, .slice A n n) :: fr) w')
    (ht : tg.loud = true := by rfl) (hg : onG ops fr gd = true := by rfl) (hd : Nat.blt d N = true := by rfl) : WL P fn F N ks ops tg (⟨some d, .buildSlice t n ps, ty, pos, aft, gd⟩ :: l) fr w := by
  subst hps
  refine wl_litn T hs hz n hx hn h1 hm (fun w' h1 h2 h3 => hk _ w' ⟨h1 _ (Nat.le_refl _), fun k hk => ?_⟩ h2) ht hg hd
  have : w.heap.size = k := by simpa [blk] using hk
  omega
--@ rule buildSlice l wl_litB
theorem wl_litB {ps : Array (Nat × Operand)} {xs : List Operand} {vs : List Value} (bs : List UInt8) (T : U8 P t) (hs : ∀ w, (sizeOf 5).run P w = .ok 1 w) (hz : ∀ w, (zeroValue 5).run P w = .ok (.int .u8 0) w) (hxs : ps.toList.map Prod.snd = xs) (hx : fr.evs xs = some vs) (hv : vs = B8 bs) (hn : bs.length = n) (hps : ps = ((List.range' 0 n).zip xs).toArray) (hm : Nat.ble bs.length 1000000 = true)
    (hk : ∀ A w', OwnH w' w.heap.size w'.heap.size A n bs → Below w.heap.size w w' → WL P fn F N ks ops tg.tail l ((d, .slice A n n) :: fr) w')
    (ht : tg.loud = true := by rfl) (hg : onG ops fr gd = true := by rfl) (hd : Nat.blt d N = true := by rfl) : WL P fn F N ks ops tg (⟨some d, .buildSlice t n ps, ty, pos, aft, gd⟩ :: l) fr w := by
  subst hps; subst hv; subst hn
  exact wl_lit8 bs T hs hz hx hm (fun w' h1 h2 _ => hk _ w' h1.h_ h2) ht hg hd
end
end
end Go.Proofs.YtahkeoegbjopfaaGreat
/-
  Data as it lies in memory, by the shape of its Go type; arguments of a law opened. No function of the program is named here.
-/
namespace Go.Proofs.YtahkeoegbjopfaaGreat
set_option maxRecDepth 100000
open Go.ChangeShapes Go.WideShapes Go.ChangeAt Go.RowKit

/-- How values of a Go type lie in memory: sz cells; R: as they read; T: with the types of the blocks that they reach. -/
structure GoT (α : Type) where
  sz : Nat
  tys : List TypeId
  R : World → List Value → α → Prop
  T : World → List Value → α → Prop
  len : ∀ {w cs a}, R w cs a → cs.length = sz
  u : ∀ {w w' cs a}, R w cs a → Below w.heap.size w w' → R w' cs a
  tr : ∀ {w cs a}, T w cs a → R w cs a
  tu : ∀ {w w' cs a}, T w cs a → Below w.heap.size w w' → T w' cs a
  ty : ∀ {w w' cs a e row}, T w cs a → Grew w w' e row → e ∉ tys → T w' cs a
  tm : ∀ {w w' cs a b}, T w cs a → GrewM w w' b → T w' cs a
theorem below_drew (w : World) : Below w.heap.size w w.drew := (Below.refl _ w).drew

/-- A value that one cell holds, and nothing in memory. -/
def GoT.flat {α : Type} (f : α → Value) (p : α → Prop) : GoT α where
  sz := 1
  tys := []
  R _ cs a := cs = [f a] ∧ p a
  T _ cs a := cs = [f a] ∧ p a
  len h := by rw [h.1]; rfl
  u h _ := h
  tr h := h
  tu h _ := h
  ty h _ _ := h
  tm h _ := h
def gInt (k : IntKind) : GoT Int := GoT.flat (Value.int k) (fun n => (Lit.int k n).wf = true)
def gBool : GoT Bool := GoT.flat Value.bool (fun _ => True)
def gStr : GoT (List UInt8) := GoT.flat (fun s => Value.string ⟨s.toArray⟩) (fun s => s.length ≤ maxLen)

theorem grew_blk {w w' : World} {e e' : TypeId} {row : Option Nat} (hg : Grew w w' e' row) {A : Option Addr} (ht : ∀ k, blk A = some k → TyAt w k e) (hne : e' ≠ e) : blk A = none ∨ blk A ≠ row := by
  cases hA : blk A with
  | none => exact .inl rfl
  | some k =>
    refine .inr (fun ek => ?_)
    obtain ⟨_, _, h1⟩ := ht k hA
    obtain ⟨_, _, h2⟩ := hg.ty k ek.symm
    rw [h1] at h2
    injection h2 with h2
    injection h2 with _ h2
    exact hne h2.symm
theorem growm_blk {w w' : World} {e : TypeId} {b : Nat} (hg : GrewM w w' b) {A : Option Addr} (ht : ∀ k, blk A = some k → TyAt w k e) : blk A = none ∨ blk A ≠ some b := by
  cases hA : blk A with
  | none => exact .inl rfl
  | some k =>
    refine .inr (fun ek => ?_)
    obtain ⟨_, _, h1⟩ := ht k hA
    obtain ⟨_, _, h2⟩ := hg.m
    injection ek with ek
    subst ek
    rw [h1] at h2
    cases h2
theorem TyAt.lt {w : World} {k : Nat} {e : TypeId} (h : TyAt w k e) : k < w.heap.size := by
  obtain ⟨_, _, h⟩ := h
  rcases Nat.lt_or_ge k w.heap.size with h1 | h1
  · exact h1
  · rw [Array.getElem?_eq_none h1] at h; cases h
theorem TyAt.keep {w w' : World} {k : Nat} {e : TypeId} (h : TyAt w k e) (hb : w'.heap[k]? = w.heap[k]?) : TyAt w' k e := by
  obtain ⟨cs, f, h⟩ := h
  exact ⟨cs, f, hb.trans h⟩

/-- Bytes that lie in rows of bytes. -/
def RdT (w : World) (A : Option Addr) (l : List UInt8) : Prop := Rd w A l ∧ ∀ k, blk A = some k → TyAt w k 5
section
variable {w w' : World} {A : Option Addr} {l : List UInt8} {e : TypeId} {row : Option Nat} {b lo hi c : Nat}
theorem RdT.u (h : RdT w A l) (hb : Below w.heap.size w w') : RdT w' A l := ⟨h.1.below hb, fun k hk => (h.2 k hk).keep (hb.block k (h.2 k hk).lt)⟩
theorem RdT.d (h : RdT w A l) : RdT w.drew A l := h
theorem RdT.to_Rd (h : RdT w A l) : Rd w A l := h.1
theorem RdT.to_Reads (h : RdT w A l) : Reads w 1 A l.length (B8 l) := h.1
theorem RdT.nil_ : RdT w none [] := ⟨Rd.nil _ _, fun k hk => by cases hk⟩
theorem RdT.y (h : RdT w A l) (hg : Grew w w' e row) (hne : e ≠ 5) : RdT w' A l := by
  have hne' := grew_blk hg h.2 hne
  refine ⟨h.1.grown hg.g hne', fun k hk => (h.2 k hk).keep (hg.g.block k (h.2 k hk).lt (fun e => ?_))⟩
  rcases hne' with h1 | h1
  · rw [h1] at hk; cases hk
  · exact h1 (hk.trans e)
theorem RdT.m (h : RdT w A l) (hg : GrewM w w' b) : RdT w' A l := by
  have hne' := growm_blk hg h.2
  refine ⟨h.1.grown hg.g hne', fun k hk => (h.2 k hk).keep (hg.g.block k (h.2 k hk).lt (fun e => ?_))⟩
  rcases hne' with h1 | h1
  · rw [h1] at hk; cases hk
  · exact h1 (hk.trans e)
theorem OwnH.to_RdT (h : OwnH w lo hi A c l) : RdT w A l := ⟨h.to_Rd, RowH.ty h⟩
end
def gBytes : GoT (List UInt8) where
  sz := 1
  tys := [5]
  R w cs l := ∃ A c, cs = [.slice A l.length c] ∧ Rd w A l ∧ l.length ≤ c ∧ c ≤ maxLen
  T w cs l := ∃ A c, cs = [.slice A l.length c] ∧ RdT w A l ∧ l.length ≤ c ∧ c ≤ maxLen
  len h := by obtain ⟨A, c, rfl, _⟩ := h; rfl
  u h hb := by obtain ⟨A, c, e, h1, h2⟩ := h; exact ⟨A, c, e, h1.below hb, h2⟩
  tr h := by obtain ⟨A, c, e, h1, h2⟩ := h; exact ⟨A, c, e, h1.1, h2⟩
  tu h hb := by obtain ⟨A, c, e, h1, h2⟩ := h; exact ⟨A, c, e, h1.u hb, h2⟩
  ty h hg hne := by obtain ⟨A, c, e, h1, h2⟩ := h; exact ⟨A, c, e, h1.y hg (by simpa using hne), h2⟩
  tm h hg := by obtain ⟨A, c, e, h1, h2⟩ := h; exact ⟨A, c, e, h1.m hg, h2⟩

/-- An array of n bytes. -/
def gArr (n : Nat) : GoT { l : List UInt8 // l.length = n } where
  sz := n
  tys := []
  R _ cs a := cs = B8 a.1
  T _ cs a := cs = B8 a.1
  len := fun {w cs a} h => by rw [h, B8_length]; exact a.2
  u h _ := h
  tr h := h
  tu h _ := h
  ty h _ _ := h
  tm h _ := h

/-- One after the other. -/
def GoT.pair {α β : Type} (X : GoT α) (Y : GoT β) : GoT (α × β) where
  sz := X.sz + Y.sz
  tys := X.tys ++ Y.tys
  R w cs a := ∃ c1 c2, cs = c1 ++ c2 ∧ X.R w c1 a.1 ∧ Y.R w c2 a.2
  T w cs a := ∃ c1 c2, cs = c1 ++ c2 ∧ X.T w c1 a.1 ∧ Y.T w c2 a.2
  len h := by obtain ⟨c1, c2, rfl, h1, h2⟩ := h; rw [List.length_append, X.len h1, Y.len h2]
  u h hb := by obtain ⟨c1, c2, e, h1, h2⟩ := h; exact ⟨c1, c2, e, X.u h1 hb, Y.u h2 hb⟩
  tr h := by obtain ⟨c1, c2, e, h1, h2⟩ := h; exact ⟨c1, c2, e, X.tr h1, Y.tr h2⟩
  tu h hb := by obtain ⟨c1, c2, e, h1, h2⟩ := h; exact ⟨c1, c2, e, X.tu h1 hb, Y.tu h2 hb⟩
  ty h hg hne := by
    obtain ⟨c1, c2, e, h1, h2⟩ := h
    rw [List.mem_append, not_or] at hne
    exact ⟨c1, c2, e, X.ty h1 hg hne.1, Y.ty h2 hg hne.2⟩
  tm h hg := by obtain ⟨c1, c2, e, h1, h2⟩ := h; exact ⟨c1, c2, e, X.tm h1 hg, Y.tm h2 hg⟩
/-- In other words. -/
def GoT.map {α β : Type} (f : α → β) (X : GoT α) : GoT β where
  sz := X.sz
  tys := X.tys
  R w cs b := ∃ a, f a = b ∧ X.R w cs a
  T w cs b := ∃ a, f a = b ∧ X.T w cs a
  len h := by obtain ⟨a, _, h⟩ := h; exact X.len h
  u h hb := by obtain ⟨a, e, h⟩ := h; exact ⟨a, e, X.u h hb⟩
  tr h := by obtain ⟨a, e, h⟩ := h; exact ⟨a, e, X.tr h⟩
  tu h hb := by obtain ⟨a, e, h⟩ := h; exact ⟨a, e, X.tu h hb⟩
  ty h hg hne := by obtain ⟨a, e, h⟩ := h; exact ⟨a, e, X.ty h hg hne⟩
  tm h hg := by obtain ⟨a, e, h⟩ := h; exact ⟨a, e, X.tm h hg⟩

/-- Part i of the cells xs, parts of m cells. -/
def part (xs : List Value) (m i : Nat) : List Value := (xs.drop (i * m)).take m
theorem part_get {xs : List Value} {m i j : Nat} (hj : j < m) : (part xs m i)[j]? = xs[i * m + j]? := by
  unfold part
  rw [List.getElem?_take_of_lt hj, List.getElem?_drop]
/-- The cells at A, from the k-th on. -/
def CellsAt (w : World) (A : Option Addr) (k : Nat) (cs : List Value) : Prop := ∀ j v, cs[j]? = some v → w.cell? (adr A (k + j)) = some v
section
variable {w w' : World} {A : Option Addr} {k n m : Nat} {cs xs : List Value}
theorem CellsAt.u (h : CellsAt w A k cs) (hb : Below w.heap.size w w') : CellsAt w' A k cs := fun j v hj => (hb.cell (block_lt_of_cell (h j v hj))).trans (h j v hj)
theorem CellsAt.d (h : CellsAt w A k cs) : CellsAt w.drew A k cs := h
theorem Reads.cellsAt {i : Nat} (h : Reads w m A n xs) (hi : i < n) (h0 : 0 < m) : CellsAt w A (i * m) (part xs m i) := fun j v hj => by
  have hne : xs ≠ [] := fun e => by
    have := h.1
    rw [e, List.length_nil] at this
    rcases Nat.mul_eq_zero.1 this.symm with h | h <;> omega
  have hjm : j < m := by
    rcases Nat.lt_or_ge j m with h1 | h1
    · exact h1
    · rw [List.getElem?_eq_none (by unfold part; rw [List.length_take]; omega)] at hj; cases hj
  rw [part_get hjm] at hj
  exact (h.adr_ hne).2 _ _ hj
end
/-- A slice. -/
def GoT.slice {α : Type} (e : TypeId) (X : GoT α) : GoT (List α) where
  sz := 1
  tys := e :: X.tys
  R w cs l := ∃ A c xs, cs = [.slice A l.length c] ∧ l.length ≤ c ∧ c ≤ maxLen ∧ Reads w X.sz A l.length xs ∧ ∀ i (h : i < l.length), X.R w (part xs X.sz i) l[i]
  T w cs l := ∃ A c xs, cs = [.slice A l.length c] ∧ l.length ≤ c ∧ c ≤ maxLen ∧ Reads w X.sz A l.length xs ∧ (∀ k, blk A = some k → TyAt w k e) ∧ ∀ i (h : i < l.length), X.T w (part xs X.sz i) l[i]
  len h := by obtain ⟨A, c, xs, rfl, _⟩ := h; rfl
  u h hb := by obtain ⟨A, c, xs, e, h1, h2, h3, h4⟩ := h; exact ⟨A, c, xs, e, h1, h2, h3.below hb, fun i hi => X.u (h4 i hi) hb⟩
  tr h := by obtain ⟨A, c, xs, e, h1, h2, h3, _, h4⟩ := h; exact ⟨A, c, xs, e, h1, h2, h3, fun i hi => X.tr (h4 i hi)⟩
  tu h hb := by
    obtain ⟨A, c, xs, e, h1, h2, h3, h4, h5⟩ := h
    exact ⟨A, c, xs, e, h1, h2, h3.below hb, fun k hk => (h4 k hk).keep (hb.block k (h4 k hk).lt), fun i hi => X.tu (h5 i hi) hb⟩
  ty h hg hne := by
    obtain ⟨A, c, xs, e, h1, h2, h3, h4, h5⟩ := h
    rw [List.mem_cons, not_or] at hne
    have hb := grew_blk hg h4 hne.1
    refine ⟨A, c, xs, e, h1, h2, h3.grown hg.g hb, fun k hk => (h4 k hk).keep (hg.g.block k (h4 k hk).lt (fun e => ?_)), fun i hi => X.ty (h5 i hi) hg hne.2⟩
    rcases hb with h6 | h6
    · rw [h6] at hk; cases hk
    · exact h6 (hk.trans e)
  tm h hg := by
    obtain ⟨A, c, xs, e, h1, h2, h3, h4, h5⟩ := h
    have hb := growm_blk hg h4
    refine ⟨A, c, xs, e, h1, h2, h3.grown hg.g hb, fun k hk => (h4 k hk).keep (hg.g.block k (h4 k hk).lt (fun e => ?_)), fun i hi => X.tm (h5 i hi) hg⟩
    rcases hb with h6 | h6
    · rw [h6] at hk; cases hk
    · exact h6 (hk.trans e)

/-- The elements of a slice. -/
def RSl {α : Type} (X : GoT α) (w : World) (A : Option Addr) (L : List α) : Prop := ∃ xs, Reads w X.sz A L.length xs ∧ ∀ i (h : i < L.length), X.R w (part xs X.sz i) L[i]
section
variable {α : Type} {X : GoT α} {w w' : World} {A : Option Addr} {L : List α}
theorem RSl.u (h : RSl X w A L) (hb : Below w.heap.size w w') : RSl X w' A L := by obtain ⟨xs, h1, h2⟩ := h; exact ⟨xs, h1.below hb, fun i hi => X.u (h2 i hi) hb⟩
theorem RSl.some_ (h : RSl X w A L) (h0 : 0 < X.sz) (hl : 0 < L.length) : A = some (A.getD ⟨0, 0, none⟩) := by obtain ⟨xs, h1, h2⟩ := h; exact h1.some_ h0 hl
theorem RSl.elem (h : RSl X w A L) (h0 : 0 < X.sz) {i : Nat} (hi : i < L.length) : ∃ cs, CellsAt w A (i * X.sz) cs ∧ X.R w cs L[i] := by obtain ⟨xs, h1, h2⟩ := h; exact ⟨_, h1.cellsAt hi h0, h2 i hi⟩
theorem RSl.nil (X : GoT α) (w : World) (A : Option Addr) : RSl X w A [] := ⟨[], Reads.none_ _ _ _, fun i h => absurd h (Nat.not_lt_zero _)⟩
theorem slice_RSl {e : TypeId} {cs : List Value} (h : (GoT.slice e X).R w cs L) : ∃ A c, cs = [.slice A L.length c] ∧ RSl X w A L ∧ L.length ≤ c ∧ c ≤ maxLen := by
  obtain ⟨A, c, xs, rfl, h1, h2, h3, h4⟩ := h
  exact ⟨A, c, rfl, ⟨xs, h3, h4⟩, h1, h2⟩
end

/-! Arguments, opened. -/
/-- Whatever is read of type t is a value of X. -/
structure Opens {α : Type} (P : Program) (t : TypeId) (X : GoT α) : Prop where
  cells : P.cellsOf t = X.sz
  o : ∀ (H : Type) (enc : TypeId × Value → H) (W : World) (fuel : Nat) (cs : List Value) (x : DataW H × List MemPlace), DataW.trod enc P W 0 (fun _ => true) true fuel t cs = some x → ∃ a, X.R W cs a
section
variable {α β γ δ : Type} {P : Program} {t e : TypeId}
theorem opens_int {k : IntKind} (hu : P.underlying t = some (.int k)) (hc : P.cellsOf t = 1) : Opens P t (gInt k) := ⟨hc, fun H enc W fuel cs x h => by
  obtain ⟨n, rfl, _, hw⟩ := DataW.trod_int hu h
  exact ⟨n, rfl, hw⟩⟩
theorem opens_bool (hu : P.underlying t = some .bool) (hc : P.cellsOf t = 1) : Opens P t gBool := ⟨hc, fun H enc W fuel cs x h => by
  obtain ⟨n, rfl, _⟩ := DataW.trod_bool hu h
  exact ⟨n, rfl, trivial⟩⟩
theorem opens_bytes (hu : P.underlying t = some (.slice 5)) (he : P.underlying 5 = some (.int .u8)) (hc : P.cellsOf 5 = 1) (ht : P.cellsOf t = 1) : Opens P t gBytes := ⟨ht, fun H enc W fuel cs x h => by
  rcases open_ints hu he hc h with ⟨hcs, hx⟩ | ⟨a, len, cap, zs, hcs, _, hl, hm, hz, hx, hcell, hwz⟩
  · exact ⟨[], none, 0, hcs, Rd.nil _ _, Nat.le_refl _, Nat.zero_le _⟩
  · have hzl : zs.length = cap := by simpa using hz
    have hr : Reads W 1 (some a) (zs.take len).length ((zs.take len).map (Value.int .u8)) := by
      have := reads_of_cells (w := W) (a := a) (xs := (zs.take len).map (Value.int .u8)) (fun i v hv => by
        have hi : i < (zs.take len).length := by
          rcases Nat.lt_or_ge i (zs.take len).length with h | h
          · exact h
          · rw [List.getElem?_eq_none (by simpa using h)] at hv; cases hv
        rw [List.length_take] at hi
        rw [hcell i (by omega)]
        have hi2 : i < zs.length := by omega
        rw [List.getElem?_map, List.getElem?_take_of_lt (by omega), List.getElem?_eq_getElem hi2] at hv
        rw [← Option.some.inj hv]
        simp [hi2])
      simpa using this
    have hb : ∀ n ∈ zs.take len, n = (((UInt8.ofNat n.toNat).toNat : Nat) : Int) := fun n hn => by
      have h1 := bounds_u8 (hwz n (List.mem_of_mem_take hn))
      exact byte_of n h1.1 h1.2
    have e : (zs.take len).map (Value.int .u8) = B8 ((zs.take len).map fun n => UInt8.ofNat n.toNat) := by
      unfold B8
      rw [List.map_map]
      exact List.map_congr_left fun n hn => by simp only [Function.comp]; rw [← hb n hn]
    refine ⟨(zs.take len).map fun n => UInt8.ofNat n.toNat, some a, cap, ?_, ?_, by simp; omega, hm⟩
    · rw [hcs]; simp; omega
    · unfold Rd
      rw [← e, List.length_map]
      exact hr⟩
theorem part_append_lt {xs ys : List Value} {m i k : Nat} (hx : xs.length = k * m) (hi : i < k) : part (xs ++ ys) m i = part xs m i := by
  have h1 : (i + 1) * m ≤ k * m := Nat.mul_le_mul_right _ hi
  rw [Nat.add_mul, Nat.one_mul] at h1
  unfold part
  rw [List.drop_append_of_le_length (by omega), List.take_append_of_le_length (by rw [List.length_drop]; omega)]
theorem part_append_eq {xs ys : List Value} {m k : Nat} (hx : xs.length = k * m) (hy : ys.length = m) : part (xs ++ ys) m k = ys := by
  unfold part
  rw [← hx, List.drop_left, ← hy, List.take_length]
theorem build_rows {X : GoT α} {W : World} {a : Addr} : ∀ (k : Nat), (∀ i, i < k → ∃ cs' z, W.cells? 0 (a.add (i * X.sz)) X.sz = some cs' ∧ X.R W cs' z) →
    ∃ (l : List α) (xs : List Value), l.length = k ∧ xs.length = k * X.sz ∧ (∀ j v, xs[j]? = some v → W.cell? (a.add j) = some v) ∧ ∀ i (h : i < l.length), X.R W (part xs X.sz i) l[i]
  | 0, _ => ⟨[], [], rfl, by simp, fun j v h => by simp at h, fun i h => absurd h (Nat.not_lt_zero _)⟩
  | k + 1, h => by
    obtain ⟨l, xs, h1, h2, h3, h4⟩ := build_rows k (fun i hi => h i (by omega))
    obtain ⟨cs', z, h5, h6⟩ := h k (by omega)
    obtain ⟨_, h7, h8⟩ := World.cells?_some h5
    refine ⟨l ++ [z], xs ++ cs', by simp [h1], by rw [List.length_append, h2, h7, Nat.add_mul, Nat.one_mul], fun j v hj => ?_, fun i hi => ?_⟩
    · rcases Nat.lt_or_ge j xs.length with hl | hl
      · rw [List.getElem?_append_left hl] at hj
        exact h3 j v hj
      · rw [List.getElem?_append_right hl] at hj
        have hjl : j - xs.length < X.sz := by
          rcases Nat.lt_or_ge (j - xs.length) X.sz with h9 | h9
          · exact h9
          · rw [List.getElem?_eq_none (by omega)] at hj; cases hj
        have := h8 _ hjl
        rw [hj, add_of_add] at this
        rw [← this]
        congr 2
        omega
    · rcases Nat.lt_or_ge i l.length with hl | hl
      · rw [part_append_lt h2 (by omega), List.getElem_append_left hl]
        exact h4 i hl
      · have hik : i = k := by simp at hi; omega
        subst hik
        rw [part_append_eq h2 h7, List.getElem_append_right hl]
        simpa using h6
theorem opens_slice {X : GoT α} (hu : P.underlying t = some (.slice e)) (hc : P.cellsOf t = 1) (h0 : 0 < X.sz) (hX : Opens P e X) : Opens P t (GoT.slice e X) := ⟨hc, fun H enc W fuel cs x h => by
  rcases Go.Deep.open_slice hu h with ⟨rfl, _⟩ | ⟨a, len, cap, m, n, D, Pl, rfl, _, hl, hm, hmm, _, hx⟩
  · exact ⟨[], none, 0, [], rfl, Nat.le_refl _, Nat.zero_le _, Reads.none_ _ _ _, fun i h => absurd h (Nat.not_lt_zero _)⟩
  · rw [if_pos rfl] at hmm
    subst hmm
    obtain ⟨l, xs, h1, h2, h3, h4⟩ := build_rows (X := X) (W := W) (a := a) len (fun i hi => by
      obtain ⟨cs', h1, h2⟩ := hx i (by omega)
      obtain ⟨z, hz⟩ := hX.o _ _ _ _ _ _ h2
      rw [hX.cells] at h1
      exact ⟨cs', z, h1, hz⟩)
    refine ⟨l, some a, m, xs, by rw [h1], by omega, hm, ⟨by rw [h1]; exact h2, fun hn => ?_⟩, h4⟩
    have h00 : ∃ v, xs[0]? = some v := by
      cases xs with
      | nil => exact absurd rfl hn
      | cons x _ => exact ⟨x, rfl⟩
    obtain ⟨v0, hv0⟩ := h00
    have hc := h3 0 v0 hv0
    rw [show a.add 0 = a by simp [Addr.add]] at hc
    have hs := spot_of_cell hc
    exact ⟨a.block, a.off, by rw [← hs], fun j u hu => by rw [← add_plain, ← hs]; exact h3 j u hu⟩⟩
theorem opens_arr8 {n : Nat} (hu : P.underlying t = some (.array n 5)) (he : P.underlying 5 = some (.int .u8)) (hc : P.cellsOf 5 = 1) (ht : P.cellsOf t = n) : Opens P t (gArr n) := ⟨ht, fun H enc W fuel cs x h => by
  obtain ⟨xs, m, _, _, hl, _, hx⟩ := DataW.trod_array hu h
  rw [ht] at hl
  obtain ⟨l, rfl⟩ := bytes_of_vals cs (fun v hv => by
    obtain ⟨i, hi, rfl⟩ := List.mem_iff_getElem.1 hv
    have h1 := hx i (by omega)
    rw [hc, Nat.mul_one, List.drop_eq_getElem_cons hi, List.take_succ_cons, List.take_zero] at h1
    have hxi : i < xs.length := by omega
    rw [List.getElem?_eq_getElem hxi] at h1
    obtain ⟨z, e, _, hw⟩ := DataW.trod_int he h1
    injection e with e _
    exact ⟨z, e, bounds_u8 hw⟩)
  exact ⟨⟨l, by rw [← hl, B8_length]⟩, rfl⟩⟩
/-- Fields, one after the other. -/
inductive OpensF (P : Program) : (α : Type) → List Field → Nat → GoT α → Prop where
  | one {α : Type} {f : Field} {off : Nat} {X : GoT α} (h : Opens P f.type X) (ho : f.offset = off) : OpensF P α [f] off X
  | more {α β : Type} {f : Field} {fs : List Field} {off : Nat} {X : GoT α} {Y : GoT β} (h : Opens P f.type X) (ho : f.offset = off) (hr : OpensF P β fs (off + X.sz) Y) : OpensF P (α × β) (f :: fs) off (X.pair Y)
theorem OpensF.open_ {α : Type} {fs : List Field} {off : Nat} {X : GoT α} (hF : OpensF P α fs off X) (H : Type) (enc : TypeId × Value → H) (W : World) (fuel : Nat) : ∀ (cs : List Value), cs.length = off + X.sz →
    (∀ (i : Nat) (f : Field), fs[i]? = some f → ∃ x, DataW.trod enc P W 0 (fun _ => true) true fuel f.type ((cs.drop f.offset).take (P.cellsOf f.type)) = some x) → ∃ a, X.R W (cs.drop off) a := by
  induction hF with
  | one h ho =>
    intro cs hl hx
    obtain ⟨x, h1⟩ := hx 0 _ rfl
    rw [ho, h.cells] at h1
    obtain ⟨a, ha⟩ := h.o _ _ _ _ _ _ h1
    rw [List.take_of_length_le (by rw [List.length_drop]; omega)] at ha
    exact ⟨a, ha⟩
  | @more α β f fs off X Y h ho hr ih =>
    intro cs hl hx
    have hl' : cs.length = off + (X.sz + Y.sz) := hl
    obtain ⟨x, h1⟩ := hx 0 f rfl
    rw [ho, h.cells] at h1
    obtain ⟨a, ha⟩ := h.o _ _ _ _ _ _ h1
    obtain ⟨b, hb⟩ := ih cs (by omega) (fun i f' hf => hx (i + 1) f' (by simpa using hf))
    refine ⟨(a, b), _, _, ?_, ha, hb⟩
    rw [← List.drop_drop, List.take_append_drop]
theorem opens_struct {α : Type} {fs : List Field} {X : GoT α} (hu : P.underlying t = some (.struct fs.toArray)) (hc : P.cellsOf t = X.sz) (hF : OpensF P α fs 0 X) : Opens P t X := ⟨hc, fun H enc W fuel cs x h => by
  obtain ⟨xs, n, rfl, _, hl, hn, hx⟩ := DataW.trod_struct hu h
  have := hF.open_ H enc W n cs (by rw [hl, hc]; omega) (fun i f hf => by
    have h1 := hx i f (by simpa using hf)
    have hi : i < xs.length := by
      rw [hn]
      rcases Nat.lt_or_ge i fs.toArray.size with h2 | h2
      · exact h2
      · rw [List.getElem?_eq_none (by simpa using h2)] at hf; cases hf
    rw [List.getElem?_eq_getElem hi] at h1
    exact ⟨_, h1⟩)
  simpa using this⟩
theorem opens_map {α β : Type} {f : α → β} {X : GoT α} (h : Opens P t X) : Opens P t (X.map f) := ⟨h.cells, fun H enc W fuel cs x hx => by
  obtain ⟨a, ha⟩ := h.o _ _ _ _ _ _ hx
  exact ⟨f a, a, rfl, ha⟩⟩
end
/-- A law's argument, of a struct's or an array's type. -/
theorem open_agg {α : Type} {H : Type} {enc : TypeId × Value → H} {P : Program} {W : World} {base : Nat} {t : TypeId} {X : GoT α} (hX : Opens P t X) (hu : (∃ fs, P.underlying t = some (.struct fs)) ∨ ∃ n e, P.underlying t = some (.array n e)) {v : Value} {d : DataW H} {p : List MemPlace}
    (hok : Value.okWide P W .any base t v) (h : DataW.Trod enc P W 0 (fun _ => true) true t v d p) : ∃ (cs : List Value) (a : α), v = .agg cs.toArray ∧ X.R W cs a := by
  obtain ⟨fuel, hf⟩ := h
  obtain ⟨a, ha⟩ := hX.o _ _ _ _ _ _ hf
  have hv : ∃ cs, v = .agg cs := by
    rcases hu with ⟨fs, hu⟩ | ⟨n, e, hu⟩ <;> (simp only [Value.okWide, hu] at hok; obtain ⟨cs, rfl, _⟩ := hok; exact ⟨cs, rfl⟩)
  obtain ⟨cs, rfl⟩ := hv
  exact ⟨cs.toList, a, rfl, ha⟩
theorem open_slc {α : Type} {H : Type} {enc : TypeId × Value → H} {P : Program} {W : World} {base : Nat} {t e : TypeId} {X : GoT α} (hX : Opens P t X) (hu : P.underlying t = some (.slice e)) {v : Value} {d : DataW H} {p : List MemPlace}
    (hok : Value.okWide P W .any base t v) (h : DataW.Trod enc P W 0 (fun _ => true) true t v d p) : ∃ (a : α), X.R W [v] a := by
  obtain ⟨A, n, c, rfl⟩ := okWide_slice hu hok
  obtain ⟨fuel, hf⟩ := h
  exact hX.o _ _ _ _ _ _ hf
end Go.Proofs.YtahkeoegbjopfaaGreat
/-
  Strings: byte slices as strings, and the order of strings. No function of the program is named here.
-/
namespace Go.Proofs.YtahkeoegbjopfaaGreat
set_option maxRecDepth 100000
open Go.RowKit
/-- The order of byte strings. -/
def cmpL : List UInt8 → List UInt8 → Int
  | [], [] => 0
  | [], _ :: _ => -1
  | _ :: _, [] => 1
  | x :: a, y :: b => if x = y then cmpL a b else if x.toNat < y.toNat then -1 else 1
theorem cmpL_self : ∀ a : List UInt8, cmpL a a = 0
  | [] => rfl
  | x :: a => by simp [cmpL, cmpL_self a]
theorem cmpL_neg : ∀ a b : List UInt8, cmpL a b = -cmpL b a
  | [], [] => rfl
  | [], _ :: _ => rfl
  | _ :: _, [] => rfl
  | x :: a, y :: b => by
    by_cases h : x = y
    · subst h; simp only [cmpL, if_true]; exact cmpL_neg a b
    · have h2 : y ≠ x := fun e => h e.symm
      have h3 : x.toNat ≠ y.toNat := fun e => h (UInt8.toNat_inj.1 e)
      simp only [cmpL, if_neg h, if_neg h2]
      rcases Nat.lt_or_gt_of_ne h3 with h4 | h4
      · rw [if_pos h4, if_neg (by omega)]
      · rw [if_neg (by omega), if_pos h4]; rfl
theorem cmpL_zero : ∀ a b : List UInt8, cmpL a b = 0 ↔ a = b
  | [], [] => by simp [cmpL]
  | [], _ :: _ => by simp [cmpL]
  | _ :: _, [] => by simp [cmpL]
  | x :: a, y :: b => by
    by_cases h : x = y
    · subst h; simp only [cmpL, if_true, cmpL_zero a b, List.cons.injEq, true_and]
    · simp only [cmpL, if_neg h, List.cons.injEq, h, false_and, iff_false]
      by_cases h4 : x.toNat < y.toNat <;> simp [h4]
theorem cmpL_one : ∀ a b : List UInt8, cmpL a b = -1 ∨ cmpL a b = 0 ∨ cmpL a b = 1
  | [], [] => by simp [cmpL]
  | [], _ :: _ => by simp [cmpL]
  | _ :: _, [] => by simp [cmpL]
  | x :: a, y :: b => by
    by_cases h : x = y
    · subst h; simp only [cmpL, if_true]; exact cmpL_one a b
    · simp only [cmpL, if_neg h]; split <;> simp
theorem cmpL_trans : ∀ a b c : List UInt8, cmpL a b < 0 → cmpL b c < 0 → cmpL a c < 0
  | [], _, [], h1, h2 => by
    rename_i b
    cases b with
    | nil => simp [cmpL] at h1
    | cons y b => simp [cmpL] at h2
  | [], _, _ :: _, _, _ => by simp [cmpL]
  | _ :: _, [], _, h1, _ => by simp [cmpL] at h1
  | _ :: _, _ :: _, [], _, h2 => by simp [cmpL] at h2
  | x :: a, y :: b, z :: c, h1, h2 => by
    simp only [cmpL] at h1 h2 ⊢
    by_cases h : x = y
    · subst h
      rw [if_pos rfl] at h1
      by_cases h' : x = z
      · subst h'; rw [if_pos rfl] at h2 ⊢; exact cmpL_trans a b c h1 h2
      · rw [if_neg h'] at h2 ⊢; exact h2
    · rw [if_neg h] at h1
      have h3 : x.toNat < y.toNat := by
        by_cases h3 : x.toNat < y.toNat
        · exact h3
        · rw [if_neg h3] at h1; exact absurd h1 (by decide)
      by_cases h' : y = z
      · subst h'; rw [if_neg h, if_pos h3]; decide
      · rw [if_neg h'] at h2
        have h4 : y.toNat < z.toNat := by
          by_cases h4 : y.toNat < z.toNat
          · exact h4
          · rw [if_neg h4] at h2; exact absurd h2 (by decide)
        have h5 : x ≠ z := fun e => by rw [e] at h3; omega
        rw [if_neg h5, if_pos (by omega)]; decide
theorem bytesLess_iff : ∀ a b : List UInt8, (Op.bytesLess a b = true) = (cmpL a b < 0)
  | [], [] => by simp [cmpL, Op.bytesLess]
  | [], _ :: _ => by simp [cmpL, Op.bytesLess]
  | _ :: _, [] => by simp [cmpL, Op.bytesLess]
  | x :: a, y :: b => by
    have ih := bytesLess_iff a b
    simp only [cmpL, Op.bytesLess, Bool.or_eq_true, Bool.and_eq_true, beq_iff_eq, decide_eq_true_eq, ih]
    by_cases h : x = y
    · subst h; simp [UInt8.lt_irrefl]
    · simp only [h, false_and, or_false, if_false]
      rw [UInt8.lt_iff_toNat_lt]
      by_cases h3 : x.toNat < y.toNat <;> simp [h3]
theorem bytesLess_eq (a b : List UInt8) : Op.bytesLess a b = decide (cmpL a b < 0) := by
  rw [Bool.eq_iff_iff, bytesLess_iff]; simp
section
variable {P : Program} {fn : Func} {F : Ending → World → Prop} {N : Nat} {ks : List K} {ops : Array Oper} {tg : Tags} {l : List Oper} {fr : Fr} {w w0 : World} {ty t t' xt : TypeId} {pos : String} {aft : Array Edge} {gd : Option (Nat × Bool)} {d : Nat} {x y : Operand} {s u : List UInt8}
--@ rule convert r o_strU
theorem o_strU {A : Option Addr} {n c : Nat} {src e dst : TypeId} {l : List UInt8} (hs : P.underlying src = some (.slice e)) (he : P.underlying e = some (.int .u8)) (hd : P.underlying dst = some .string) (hx : fr.ev x = some (.slice A n c)) (hr : Rd w0 A l) (hb : Below w0.heap.size w0 w) (hn : n = l.length) :
    OpV P N fr w (.convert src dst x) ty (.string ⟨l.toArray⟩) w := o_str hs he hd hx hn (hr.below hb)
theorem o_neg64 {n : Int} (hx : fr.ev x = some (.int .i64 n)) (h1 : -9223372036854775807 ≤ n) (h2 : n ≤ 9223372036854775807) : OpV P N fr w (.unOp .neg t x) ty (.int .i64 (-n)) w := fun a ha o ho _ => by
  have e : IntKind.i64.wrap (-n) = -n := i64_in (by omega) (by omega)
  simp [execOp, ho, ha.ev hx, Op.unary, Op.intArith, e]
theorem o_slss (hx : fr.ev x = some (.string ⟨s.toArray⟩)) (hy : fr.ev y = some (.string ⟨u.toArray⟩)) : OpV P N fr w (.binOp .lss t x y t') ty (.bool (decide (cmpL s u < 0))) w :=
  o_bin hx hy (fun _ _ => by simp [go_sem]) (by rw [← bytesLess_eq]; simp [go_sem])
theorem o_sleq (hx : fr.ev x = some (.string ⟨s.toArray⟩)) (hy : fr.ev y = some (.string ⟨u.toArray⟩)) : OpV P N fr w (.binOp .leq t x y t') ty (.bool (decide (cmpL s u ≤ 0))) w :=
  o_bin hx hy (fun _ _ => by simp [go_sem]) (by
    have : (binOp .leq t (.string ⟨s.toArray⟩) (.string ⟨u.toArray⟩)).run P w = .ok (.bool (Op.bytesLess s u || s == u)) w := by simp [go_sem]
    rw [this]; congr 2; rw [Bool.eq_iff_iff]
    simp only [Bool.or_eq_true, bytesLess_iff, beq_iff_eq, decide_eq_true_eq, ← cmpL_zero]; omega)
theorem o_sgtr (hx : fr.ev x = some (.string ⟨s.toArray⟩)) (hy : fr.ev y = some (.string ⟨u.toArray⟩)) : OpV P N fr w (.binOp .gtr t x y t') ty (.bool (decide (0 < cmpL s u))) w :=
  o_bin hx hy (fun _ _ => by simp [go_sem]) (by
    have : (binOp .gtr t (.string ⟨s.toArray⟩) (.string ⟨u.toArray⟩)).run P w = .ok (.bool (!(Op.bytesLess s u || s == u))) w := by simp [go_sem]
    rw [this]; congr 2; rw [Bool.eq_iff_iff]
    rw [Bool.not_eq_true', ← Bool.not_eq_true, Bool.or_eq_true]
    simp only [bytesLess_iff, beq_iff_eq, decide_eq_true_eq, ← cmpL_zero]; omega)
theorem o_sgeq (hx : fr.ev x = some (.string ⟨s.toArray⟩)) (hy : fr.ev y = some (.string ⟨u.toArray⟩)) : OpV P N fr w (.binOp .geq t x y t') ty (.bool (decide (0 ≤ cmpL s u))) w :=
  o_bin hx hy (fun _ _ => by simp [go_sem]) (by
    have : (binOp .geq t (.string ⟨s.toArray⟩) (.string ⟨u.toArray⟩)).run P w = .ok (.bool (!(Op.bytesLess s u))) w := by simp [go_sem]
    rw [this]; congr 2; rw [Bool.eq_iff_iff]
    rw [Bool.not_eq_true', ← Bool.not_eq_true]
    simp only [bytesLess_iff, decide_eq_true_eq]; omega)
end
theorem Tryz.rowB : RowT Tryz.prog 39 5 (.int .u8 0) 1 1 := ⟨Tryz.underlying39, by kernel_rfl, rfl, by omega⟩
theorem u8w {n : Nat} (h : n < 256) : IntKind.u8.wrap (n : Int) = ((UInt8.ofNat n).toNat : Int) := by
  rw [UInt8.toNat_ofNat_of_lt' (by simpa using h)]
  exact u8_in (by omega) (by omega)
section
variable {fn : Func} {F : Ending → World → Prop} {N : Nat} {ks : List K} {ops : Array Oper} {tg : Tags} {l : List Oper} {fr : Fr} {w : World} {ty : TypeId} {pos : String} {aft : Array Edge} {gd : Option (Nat × Bool)} {d : Nat} {x y : Operand}
--@ rule append l wl_appB0
theorem wl_appB0 {X : Option Addr} {j q : Nat} {m : List UInt8} (hx : fr.ev x = some (.slice none 0 0)) (hy : fr.ev y = some (.slice X j q)) (hr : Rd w X m) (hj : j = m.length) (hlen : m.length ≤ 4000000000)
    (h : ∀ A' c' w', OwnH w' w.heap.size w'.heap.size A' c' m → Below w.heap.size w w' → WL Tryz.prog fn F N ks ops tg.tail l ((d, .slice A' m.length c') :: fr) w')
    (ht : tg.loud = true := by rfl) (hg : onG ops fr gd = true := by rfl) (hd : Nat.blt d N = true := by rfl) :
    WL Tryz.prog fn F N ks ops tg (⟨some d, .call { callee := .builtin .append, args := #[x, y], argTypes := #[39, 39] }, ty, pos, aft, gd⟩ :: l) fr w := by
  subst hj
  exact wl_appR0 (hi := 0) Tryz.rowB hx (RowH.nil _ _ _ _ _) hy hr (B8_oneCell m) (by simp only [maxLen]; omega) (by omega) (Nat.le_refl _) h ht hg hd
end
end Go.Proofs.YtahkeoegbjopfaaGreat
/-
  Walks of package leaf: keys, their order.
-/
namespace Go.Proofs.YtahkeoegbjopfaaGreat
set_option maxRecDepth 100000
open Go.RowKit

theorem C_isNaNb (n : Int) (w : World) : CallsR Tryz.prog 126 [.int .u8 n] w fun v w' => v = .bool false ∧ w' = w := by
  refine callsR Tryz.func126 rfl rfl (by kernel_rfl) rfl ?_
  refine rk_seq ?_
  refine rk_region ?_
  refine wl_p (fun _ => o_assign rfl) ?_
  refine wl_nil ?_
  refine rk_seq ?_
  refine rk_region ?_
  refine wl_p (fun _ => o_move rfl) ?_
  refine wl_p (fun _ => o_move rfl) ?_
  refine wl_p (fun _ => o_ne rfl rfl) ?_
  refine wl_p (fun _ => o_assign rfl) ?_
  refine wl_nil ?_
  refine ret1 rfl rfl ?_
  exact ⟨by simp, rfl⟩
theorem C_isNaNi (n : Int) (w : World) : CallsR Tryz.prog 127 [.int .i64 n] w fun v w' => v = .bool false ∧ w' = w := by
  refine callsR Tryz.func127 rfl rfl (by kernel_rfl) rfl ?_
  refine rk_seq ?_
  refine rk_region ?_
  refine wl_p (fun _ => o_assign rfl) ?_
  refine wl_nil ?_
  refine rk_seq ?_
  refine rk_region ?_
  refine wl_p (fun _ => o_move rfl) ?_
  refine wl_p (fun _ => o_move rfl) ?_
  refine wl_p (fun _ => o_ne rfl rfl) ?_
  refine wl_p (fun _ => o_assign rfl) ?_
  refine wl_nil ?_
  refine ret1 rfl rfl ?_
  exact ⟨by simp, rfl⟩
def cmpZ (m n : Int) : Int := if m < n then -1 else if n < m then 1 else 0
theorem C_cmpb (m n : Int) (w : World) : CallsR Tryz.prog 86 [.int .u8 m, .int .u8 n] w fun v w' => v = .int .i64 (cmpZ m n) ∧ w' = w := by
  refine callsR Tryz.func86 rfl rfl (by kernel_rfl) rfl ?_
  refine rk_seq ?_
  refine rk_region ?_
  refine wl_p (fun _ => o_assign rfl) ?_
  refine wl_nil ?_
  refine rk_seq ?_
  refine rk_region ?_
  refine wl_p (fun _ => o_move rfl) ?_
  refine wl_call rfl (C_isNaNb _ _) ?_
  rintro v8 w8 ⟨rfl, rfl⟩
  refine wl_p (fun _ => o_assign rfl) ?_
  refine wl_nil ?_
  refine rk_seq ?_
  refine rk_region ?_
  refine wl_p (fun _ => o_move rfl) ?_
  refine wl_call rfl (C_isNaNb _ _) ?_
  rintro v10 w10 ⟨rfl, rfl⟩
  refine wl_p (fun _ => o_assign rfl) ?_
  refine wl_nil ?_
  refine rk_seq ?_
  refine rk_seq ?_
  refine rk_region ?_
  refine wl_p (fun _ => o_move rfl) ?_
  refine wl_nil ?_
  refine rk_false rfl ?_
  refine rk_skip ?_
  refine rk_seq ?_
  refine rk_seq ?_
  refine rk_region ?_
  refine wl_p (fun _ => o_move rfl) ?_
  refine wl_nil ?_
  refine rk_false rfl ?_
  refine rk_skip ?_
  refine rk_seq ?_
  refine rk_seq ?_
  refine rk_region ?_
  refine wl_p (fun _ => o_move rfl) ?_
  refine wl_p (fun _ => o_move rfl) ?_
  refine wl_p (fun _ => o_lt rfl rfl) ?_
  refine wl_nil ?_
  refine rk_if rfl (fun h16 => ?_) (fun h16 => ?_)
  · refine rk_seq ?_
    refine rk_region ?_
    refine wl_p (fun _ => o_assign rfl) ?_
    refine wl_nil ?_
    refine ret1 rfl rfl ?_
    exact ⟨by simp [cmpZ, h16], rfl⟩
  · refine rk_skip ?_
    refine rk_seq ?_
    refine rk_seq ?_
    refine rk_region ?_
    refine wl_p (fun _ => o_move rfl) ?_
    refine wl_p (fun _ => o_move rfl) ?_
    refine wl_p (fun _ => o_gt rfl rfl) ?_
    refine wl_nil ?_
    refine rk_if rfl (fun h19 => ?_) (fun h19 => ?_)
    · refine rk_seq ?_
      refine rk_region ?_
      refine wl_p (fun _ => o_assign rfl) ?_
      refine wl_nil ?_
      refine ret1 rfl rfl ?_
      exact ⟨by simp [cmpZ, h16, h19], rfl⟩
    · refine rk_skip ?_
      refine rk_seq ?_
      refine rk_region ?_
      refine wl_p (fun _ => o_assign rfl) ?_
      refine wl_nil ?_
      refine ret1 rfl rfl ?_
      exact ⟨by simp [cmpZ, h16, h19], rfl⟩
theorem C_cmpi (m n : Int) (w : World) : CallsR Tryz.prog 87 [.int .i64 m, .int .i64 n] w fun v w' => v = .int .i64 (cmpZ m n) ∧ w' = w := by
  refine callsR Tryz.func87 rfl rfl (by kernel_rfl) rfl ?_
  refine rk_seq ?_
  refine rk_region ?_
  refine wl_p (fun _ => o_assign rfl) ?_
  refine wl_nil ?_
  refine rk_seq ?_
  refine rk_region ?_
  refine wl_p (fun _ => o_move rfl) ?_
  refine wl_call rfl (C_isNaNi _ _) ?_
  rintro v8 w8 ⟨rfl, rfl⟩
  refine wl_p (fun _ => o_assign rfl) ?_
  refine wl_nil ?_
  refine rk_seq ?_
  refine rk_region ?_
  refine wl_p (fun _ => o_move rfl) ?_
  refine wl_call rfl (C_isNaNi _ _) ?_
  rintro v10 w10 ⟨rfl, rfl⟩
  refine wl_p (fun _ => o_assign rfl) ?_
  refine wl_nil ?_
  refine rk_seq ?_
  refine rk_seq ?_
  refine rk_region ?_
  refine wl_p (fun _ => o_move rfl) ?_
  refine wl_nil ?_
  refine rk_false rfl ?_
  refine rk_skip ?_
  refine rk_seq ?_
  refine rk_seq ?_
  refine rk_region ?_
  refine wl_p (fun _ => o_move rfl) ?_
  refine wl_nil ?_
  refine rk_false rfl ?_
  refine rk_skip ?_
  refine rk_seq ?_
  refine rk_seq ?_
  refine rk_region ?_
  refine wl_p (fun _ => o_move rfl) ?_
  refine wl_p (fun _ => o_move rfl) ?_
  refine wl_p (fun _ => o_lt rfl rfl) ?_
  refine wl_nil ?_
  refine rk_if rfl (fun h16 => ?_) (fun h16 => ?_)
  · refine rk_seq ?_
    refine rk_region ?_
    refine wl_p (fun _ => o_assign rfl) ?_
    refine wl_nil ?_
    refine ret1 rfl rfl ?_
    exact ⟨by simp [cmpZ, h16], rfl⟩
  · refine rk_skip ?_
    refine rk_seq ?_
    refine rk_seq ?_
    refine rk_region ?_
    refine wl_p (fun _ => o_move rfl) ?_
    refine wl_p (fun _ => o_move rfl) ?_
    refine wl_p (fun _ => o_gt rfl rfl) ?_
    refine wl_nil ?_
    refine rk_if rfl (fun h19 => ?_) (fun h19 => ?_)
    · refine rk_seq ?_
      refine rk_region ?_
      refine wl_p (fun _ => o_assign rfl) ?_
      refine wl_nil ?_
      refine ret1 rfl rfl ?_
      exact ⟨by simp [cmpZ, h16, h19], rfl⟩
    · refine rk_skip ?_
      refine rk_seq ?_
      refine rk_region ?_
      refine wl_p (fun _ => o_assign rfl) ?_
      refine wl_nil ?_
      refine ret1 rfl rfl ?_
      exact ⟨by simp [cmpZ, h16, h19], rfl⟩

theorem cmpL_at : ∀ (i : Nat) (a b : List UInt8) (hi : i < a.length) (hj : i < b.length), a.take i = b.take i → a[i] ≠ b[i] → cmpL a b = cmpZ a[i].toNat b[i].toNat
  | 0, x :: a, y :: b, _, _, _, h => by
    simp only [List.getElem_cons_zero] at h ⊢
    have h3 : x.toNat ≠ y.toNat := fun e => h (UInt8.toNat_inj.1 e)
    simp only [cmpL, if_neg h, cmpZ]
    rcases Nat.lt_or_gt_of_ne h3 with h4 | h4
    · rw [if_pos h4, if_pos (by omega)]
    · rw [if_neg (by omega), if_neg (by omega), if_pos (by omega)]
  | i + 1, x :: a, y :: b, hi, hj, ht, h => by
    simp only [List.take_succ_cons, List.cons.injEq] at ht
    simp only [List.getElem_cons_succ] at h ⊢
    simp only [List.length_cons, Nat.add_lt_add_iff_right] at hi hj
    rw [← cmpL_at i a b hi hj ht.2 h]
    simp [cmpL, ht.1]
  | _, [], _, hi, _, _, _ => by simp at hi
  | _, _ :: _, [], _, hj, _, _ => by simp at hj
theorem cmpL_end : ∀ (a b : List UInt8), a.take (min a.length b.length) = b.take (min a.length b.length) → cmpL a b = cmpZ a.length b.length
  | [], [], _ => by simp [cmpL, cmpZ]
  | [], _ :: _, _ => by simp only [cmpL, cmpZ, List.length_nil, List.length_cons]; rw [if_pos (by omega)]
  | _ :: _, [], _ => by simp only [cmpL, cmpZ, List.length_nil, List.length_cons]; rw [if_neg (by omega), if_pos (by omega)]
  | x :: a, y :: b, h => by
    simp only [List.length_cons] at h
    rw [show min (a.length + 1) (b.length + 1) = min a.length b.length + 1 by omega, List.take_succ_cons, List.take_succ_cons, List.cons.injEq] at h
    simp only [cmpL, h.1, if_true, cmpL_end a b h.2, cmpZ, List.length_cons]
    congr 1
    · simp
    · congr 1; simp
theorem C_leafKey {A : Option Addr} {n c : Nat} (w : World) (hn : n ≤ 4000000000) : CallsR Tryz.prog 43 [.slice A n c] w fun v w' => v = .bool (decide (1 ≤ n ∧ n ≤ 16)) ∧ w' = w := by
  refine callsR Tryz.func43 rfl rfl (by kernel_rfl) rfl ?_
  refine rk_seq ?_
  refine rk_region ?_
  refine wl_p (fun _ => o_assign rfl) ?_
  refine wl_nil ?_
  refine rk_seq ?_
  refine rk_region ?_
  refine wl_p (fun _ => o_move rfl) ?_
  refine wl_p (fun _ => o_len (t := 39) Tryz.underlying39 rfl) ?_
  refine wl_p (fun _ => o_ge rfl rfl) ?_
  refine wl_p (fun _ => o_move rfl) ?_
  refine wl_bool 6 rfl (fun h6 => ?_) (fun h6 => ?_) <;> try simp only [decide_eq_true_eq, decide_eq_false_iff_not, Bool.not_eq_true', Bool.not_eq_false', Bool.and_eq_true, Bool.and_eq_false_iff, Bool.or_eq_true, Bool.or_eq_false_iff] at h6
  · refine wl_p (fun _ => o_move rfl) ?_
    refine wl_p (fun _ => o_len (t := 39) Tryz.underlying39 rfl) ?_
    refine wl_p (fun _ => o_le rfl rfl) ?_
    refine wl_p (fun _ => o_pick_t rfl rfl) ?_
    refine wl_p (fun _ => o_assign rfl) ?_
    refine wl_nil ?_
    refine ret1 rfl rfl ?_
    refine ⟨congrArg Value.bool ?_, rfl⟩
    refine Bool.eq_iff_iff.2 ?_
    simp only [if_true, decide_eq_true_eq]
    omega
  · refine wl_off ?_
    refine wl_off ?_
    refine wl_off ?_
    refine wl_p (fun _ => o_pick_f rfl rfl) ?_
    refine wl_p (fun _ => o_assign rfl) ?_
    refine wl_nil ?_
    refine ret1 rfl rfl ?_
    refine ⟨congrArg Value.bool ?_, rfl⟩
    symm
    refine decide_eq_false ?_
    omega
theorem C_leafValue {A : Option Addr} {n c : Nat} (w : World) (hn : n ≤ 4000000000) : CallsR Tryz.prog 44 [.slice A n c] w fun v w' => v = .bool (decide (n ≤ 32)) ∧ w' = w := by
  refine callsR Tryz.func44 rfl rfl (by kernel_rfl) rfl ?_
  refine rk_seq ?_
  refine rk_region ?_
  refine wl_p (fun _ => o_assign rfl) ?_
  refine wl_nil ?_
  refine rk_seq ?_
  refine rk_region ?_
  refine wl_p (fun _ => o_move rfl) ?_
  refine wl_p (fun _ => o_len (t := 39) Tryz.underlying39 rfl) ?_
  refine wl_p (fun _ => o_le rfl rfl) ?_
  refine wl_p (fun _ => o_assign rfl) ?_
  refine wl_nil ?_
  refine ret1 rfl rfl ?_
  refine ⟨congrArg Value.bool ?_, rfl⟩
  refine decide_eq_decide.2 ?_
  omega
theorem C_leafCompare {A B : Option Addr} {a b : List UInt8} {n m c d : Nat} (w : World) (hra : Rd w A a) (hrb : Rd w B b) (hn : n = a.length) (hm : m = b.length) (hla : a.length ≤ 4000000000) (hlb : b.length ≤ 4000000000) :
    CallsR Tryz.prog 45 [.slice A n c, .slice B m d] w fun v w' => v = .int .i64 (cmpL a b) ∧ Below w.heap.size w w' := by
  subst hn; subst hm
  refine callsR Tryz.func45 rfl rfl (by kernel_rfl) rfl ?_
  have hw := Below.refl w.heap.size w
  refine rk_seq ?_
  refine rk_region ?_
  refine wl_p (fun _ => o_assign rfl) ?_
  refine wl_nil ?_
  refine rk_seq ?_
  refine rk_seq ?_
  refine rk_region ?_
  refine wl_p (fun _ => o_move rfl) ?_
  refine wl_p (fun _ => o_len (t := 39) Tryz.underlying39 rfl) ?_
  refine wl_p (fun _ => o_move rfl) ?_
  refine wl_p (fun _ => o_len (t := 39) Tryz.underlying39 rfl) ?_
  refine wl_p (fun _ => o_min rfl rfl) ?_
  refine wl_p (fun _ => o_move rfl) ?_
  refine wl_nil ?_
  refine rk_block ?_
  refine rk_joinf (fun fb fr w2 => fr = [] ++ fb.drop 1 ∧ a.take (min a.length b.length) = b.take (min a.length b.length) ∧ Below w.heap.size w w2) ?_ (fun ks hj => ?_)
  rotate_left
  · refine rk_loopf (fun fb m fr w2 => ∃ (i : Nat) (v : Int), fr = [(12, .int .i64 v)] ++ fb ∧ v = i ∧ i ≤ min a.length b.length ∧ m = min a.length b.length - i ∧ a.take i = b.take i ∧ Below w.heap.size w w2) (n := min a.length b.length) (Fr.le_of (by kernel_rfl) (by kernel_rfl) (by repeat' constructor)) ⟨0, _, rfl, rfl, by omega, rfl, rfl, hw⟩ ?_
    clear hw
    rintro m fr w2 ⟨i, v, rfl, rfl, hi, rfl, ht, hw⟩
    first | refine rk_frame (by simp only [List.cons_append, List.nil_append, List.drop_succ_cons, List.drop_zero]; rfl) ?_ | refine wl_frame (by simp only [List.cons_append, List.nil_append, List.drop_succ_cons, List.drop_zero]; rfl) ?_
    refine rk_seq ?_
    refine rk_region ?_
    refine wl_p (fun _ => o_lt rfl rfl) ?_
    refine wl_nil ?_
    refine rk_seq ?_
    refine rk_if rfl (fun h13 => ?_) (fun h13 => ?_)
    · have hia : i < a.length := by omega
      have hib : i < b.length := by omega
      refine rk_skip ?_
      refine rk_seq ?_
      refine rk_block ?_
      refine rk_seq ?_
      refine rk_region ?_
      refine wl_p (fun _ => o_move rfl) ?_
      refine wl_p (fun _ => o_assign rfl) ?_
      refine wl_nil ?_
      refine rk_seq ?_
      refine rk_draw (id := 4) (none) [0, 0, 3, 4, 0, 0, 48, 64, 136, 511] [0, 0, 3, 7, 0, 0, 48, 112, 255, 511] 256 0 [(.p, 0), (.p, 1), (.p, 2), (.r, 3), (.p, 4), (.p, 5), (.p, 6), (.r, 7), (.l, 8), (.p, 9)] (by kernel_rfl) (by kernel_rfl) (by kernel_rfl) (by kernel_rfl) (by kernel_rfl) ?_
      replace hw := hw.drew
      refine wl_p (fun _ => o_move rfl) ?_
      refine wl_p (fun _ => o_move rfl) ?_
      refine wl_p (fun _ => (o_iaddrA1 (i) Tryz.underlying39 Tryz.sizeOf5 rfl rfl rfl (Reads.some_ hra.to_Reads (by decide) (by omega)) (by omega))) ?_
      refine wl_r (o_loadB Tryz.isAgg5 rfl (hra.u hw) (by omega)) ?_
      refine wl_p (fun _ => o_move rfl) ?_
      refine wl_p (fun _ => o_move rfl) ?_
      refine wl_p (fun _ => (o_iaddrA1 (i) Tryz.underlying39 Tryz.sizeOf5 rfl rfl rfl (Reads.some_ hrb.to_Reads (by decide) (by omega)) (by omega))) ?_
      refine wl_r (o_loadB Tryz.isAgg5 rfl (hrb.u hw) (by omega)) ?_
      refine wl_call rfl (C_cmpb _ _ _) ?_
      rintro v23 w23 ⟨rfl, rfl⟩
      refine wl_p (fun _ => o_assign rfl) ?_
      refine wl_nild ?_
      refine rk_seq ?_
      refine rk_region ?_
      refine wl_p (fun _ => o_move rfl) ?_
      refine wl_p (fun _ => o_ne rfl rfl) ?_
      refine wl_nil ?_
      refine rk_if rfl (fun h25 => ?_) (fun h25 => ?_)
      · have hne : a[i] ≠ b[i] := fun e => by rw [e] at h25; simp [cmpZ] at h25
        refine rk_seq ?_
        refine rk_region ?_
        refine wl_p (fun _ => o_move rfl) ?_
        refine wl_p (fun _ => o_assign rfl) ?_
        refine wl_nil ?_
        refine ret1 rfl rfl ?_
        exact ⟨by rw [cmpL_at i a b hia hib ht hne], hw⟩
      · have he : a[i] = b[i] := by
          have h3 : (a[i].toNat : Int) = b[i].toNat := by unfold cmpZ at h25; split at h25 <;> (try split at h25) <;> omega
          exact UInt8.toNat_inj.1 (by omega)
        refine rk_skip ?_
        refine rk_blk ?_
        refine rk_region ?_
        refine wl_p (fun _ => o_add rfl rfl (by omega) (by omega)) ?_
        refine wl_p (fun _ => o_move rfl) ?_
        refine wl_nil ?_
        exact rk_againf (Fr.le_of (by kernel_rfl) (by kernel_rfl) (by repeat' constructor)) ⟨i + 1, (i : Int) + 1, rfl, by omega, by omega, rfl, by rw [List.take_succ_eq_append_getElem hia, List.take_succ_eq_append_getElem hib, ht, he], hw⟩ (by omega)
    · have e : i = min a.length b.length := by omega
      rw [e] at ht
      refine rk_exit rfl ?_
      exact rk_tof hj (Fr.le_of (by kernel_rfl) (by kernel_rfl) (by repeat' constructor)) ⟨rfl, ht, hw⟩
  clear hw
  rintro fr w2 ⟨rfl, ht, hw⟩
  first | refine rk_frame (by simp only [List.cons_append, List.nil_append, List.drop_succ_cons, List.drop_zero]; rfl) ?_ | refine wl_frame (by simp only [List.cons_append, List.nil_append, List.drop_succ_cons, List.drop_zero]; rfl) ?_
  refine rk_seq ?_
  refine rk_region ?_
  refine wl_p (fun _ => o_move rfl) ?_
  refine wl_p (fun _ => o_len (t := 39) Tryz.underlying39 rfl) ?_
  refine wl_p (fun _ => o_move rfl) ?_
  refine wl_p (fun _ => o_len (t := 39) Tryz.underlying39 rfl) ?_
  refine wl_call rfl (C_cmpi _ _ _) ?_
  rintro v32 w32 ⟨rfl, rfl⟩
  refine wl_p (fun _ => o_assign rfl) ?_
  refine wl_nil ?_
  refine ret1 rfl rfl ?_
  exact ⟨by rw [cmpL_end a b ht], hw⟩
end Go.Proofs.YtahkeoegbjopfaaGreat
/-
  Values of interface types: made, asked for their type, called. No function of the program is named here.
-/
namespace Go.Proofs.YtahkeoegbjopfaaGreat
set_option maxRecDepth 100000
open Go.RowKit
section
variable {P : Program} {fn : Func} {F : Ending → World → Prop} {N : Nat} {ks : List K} {ops : Array Oper} {tg : Tags} {l : List Oper} {fr : Fr} {w : World} {ty t t' xt : TypeId} {v v' : Value} {pos : String} {aft : Array Edge} {gd : Option (Nat × Bool)} {d : Nat} {x y : Operand} {nm : String}
--@ rule makeInterface p o_mkIface
theorem o_mkIface {fs : Array Field} (hu : P.underlying t = some (.struct fs)) (hx : fr.ev x = some v) : OpV P N fr w (.makeInterface t x) ty (.iface t v) w := fun a ha o ho _ => by
  simp [execOp, ho, ha.ev hx, Instr.makeInterface, run_underlying hu]
--@ rule typeAssert p o_assertYes
--@ rule typeAssert p o_assertNo
theorem o_assertYes {fs : Array Field} (hu : P.underlying t = some (.struct fs)) (hx : fr.ev x = some (.iface t v)) : OpV P N fr w (.typeAssert x xt t true) ty (.tuple #[v, .bool true]) w := fun a ha o ho _ => by
  simp [execOp, ho, ha.ev hx, Instr.typeAssert, run_underlying hu]
theorem o_assertNo {fs : Array Field} (hu : P.underlying t = some (.struct fs)) (hx : fr.ev x = some (.iface t' v)) (hne : t' ≠ t) (hz : ∀ w, (zeroValue t).run P w = .ok v' w) : OpV P N fr w (.typeAssert x xt t true) ty (.tuple #[v', .bool false]) w := fun a ha o ho _ => by
  simp [execOp, ho, ha.ev hx, Instr.typeAssert, run_underlying hu, hne, hz]
theorem run_invoke {ρ : Operand → Value} {f : FuncId} (hB : Bodied P f) {x : Operand} {xs : Array Operand} {ts : Array TypeId} {vs : Array Value} (hr : ρ x = .iface t v) (hv : xs.map ρ = vs) (hm : ∀ w, (Go.method (P.types.size + Made.depth) t v nm).run P w = .ok (f, v) w) (o : Oper)
    (ho : o.op = .call { callee := .invoke x nm, args := xs, argTypes := ts }) : (execOp ρ o).run P w = .ok (.enter f (#[v] ++ vs)) w := by
  obtain ⟨g, h1, h2, h3⟩ := hB
  have h0 : (#[Value.iface t v] ++ vs)[0]? = some (.iface t v) := by rw [Array.getElem?_append_left (by simp)]; rfl
  have h4 : (#[Value.iface t v] ++ vs).extract 1 (#[Value.iface t v] ++ vs).size = vs := by
    apply Array.ext'
    simp
  simp only [execOp, ho, resolve, hv, hr, invoke, Sem.run_bind, Sem.run_pure, Result.andThen_ok, h0, h4, callMethod, hm, run_program, callFunc, h1]
  rw [if_neg (by simpa using h3), if_neg (by intro e; rw [e] at h2; cases h2)]
  rfl
--@ rule invoke l wl_invoke
theorem wl_invoke {f : FuncId} {xs : List Operand} {ts : Array TypeId} {vs : List Value} {R : Value → World → Prop} (hr : fr.ev x = some (.iface t v)) (hx : fr.evs xs = some vs) (hm : ∀ w, (Go.method (P.types.size + Made.depth) t v nm).run P w = .ok (f, v) w) (hc : CallsR P f (v :: vs) w R)
    (hk : ∀ v w', R v w' → WL P fn F N ks ops tg.tail l ((d, v) :: fr) w') (ht : tg.loud = true := by rfl) (hg : onG ops fr gd = true := by rfl) (hd : Nat.blt d N = true := by rfl) (hq : tg.calm = false ∨ ∀ v w', R v w' → w.grownBy w' tg.row := by exact .inl rfl) :
    WL P fn F N ks ops tg (⟨some d, .call { callee := .invoke x nm, args := xs.toArray, argTypes := ts }, ty, pos, aft, gd⟩ :: l) fr w :=
  fun a ha => left_loud ht fun K hK => by
    rw [if_pos (wanted_on (o := ⟨some d, .call { callee := .invoke x nm, args := xs.toArray, argTypes := ts }, ty, pos, aft, gd⟩) ha hg)]
    have hargs : Array.map a.eval xs.toArray = vs.toArray := by rw [List.map_toArray, ha.evs hx]
    unfold Oper.wp
    rw [run_invoke hc.1 (ha.ev hr) hargs hm _ rfl]
    have hc2 := hc.2
    have e : (#[v] ++ vs.toArray : Array Value) = (v :: vs).toArray := by simp
    rw [e]
    refine Calls.mono hc2 ?_
    rintro e w' ⟨v, rfl, hr⟩
    exact hK _ _ (hq.imp id fun h => Rw.of (h v w' hr)) (hk v w' hr _ (ha.put hd v))
end
end Go.Proofs.YtahkeoegbjopfaaGreat
/-
  Nodes of a tree as they lie in memory.
-/
namespace Go.Proofs.YtahkeoegbjopfaaGreat
set_option maxRecDepth 100000
open Go.RowKit
def gItem : GoT (By × By) := gBytes.pair gBytes
/-- A slice of items. -/
def RI (w : World) (A : Option Addr) (L : List (By × By)) : Prop := RSl gItem w A L
/-- A slice of keys. -/
def RKy (w : World) (A : Option Addr) (L : List By) : Prop := RSl gBytes w A L
section
variable {w w' : World} {A : Option Addr} {L : List (By × By)} {K : List By}
theorem RI.u (h : RI w A L) (hb : Below w.heap.size w w') : RI w' A L := RSl.u h hb
theorem RI.d (h : RI w A L) : RI w.drew A L := RSl.u h (below_drew w)
theorem RI.some_ (h : RI w A L) (hl : 0 < L.length) : A = some (A.getD ⟨0, 0, none⟩) := RSl.some_ h (by decide) hl
theorem RI.nil_ : RI w none [] := RSl.nil _ _ _
theorem RKy.u (h : RKy w A K) (hb : Below w.heap.size w w') : RKy w' A K := RSl.u h hb
theorem RKy.d (h : RKy w A K) : RKy w.drew A K := RSl.u h (below_drew w)
theorem RKy.some_ (h : RKy w A K) (hl : 0 < K.length) : A = some (A.getD ⟨0, 0, none⟩) := RSl.some_ h (by decide) hl
theorem RKy.nil_ : RKy w none [] := RSl.nil _ _ _
theorem RI.elem (h : RI w A L) {i : Nat} (hi : i < L.length) : ∃ A1 c1 A2 c2, CellsAt w A (i * 2) [.slice A1 L[i].1.length c1, .slice A2 L[i].2.length c2] ∧ Rd w A1 L[i].1 ∧ Rd w A2 L[i].2 ∧ L[i].1.length ≤ c1 ∧ L[i].2.length ≤ c2 := by
  obtain ⟨cs, h1, x, y, rfl, ⟨A1, c1, rfl, h2, h3, _⟩, A2, c2, rfl, h4, h5, _⟩ := RSl.elem h (by decide) hi
  exact ⟨A1, c1, A2, c2, h1, h2, h4, h3, h5⟩
theorem RKy.elem (h : RKy w A K) {i : Nat} (hi : i < K.length) : ∃ A1 c1, CellsAt w A (i * 1) [.slice A1 K[i].length c1] ∧ Rd w A1 K[i] ∧ K[i].length ≤ c1 := by
  obtain ⟨cs, h1, A1, c1, rfl, h2, h3, _⟩ := RSl.elem h (by decide) hi
  exact ⟨A1, c1, h1, h2, h3⟩
end
section
variable {fn : Func} {F : Ending → World → Prop} {N : Nat} {ks : List K} {ops : Array Oper} {tg : Tags} {l : List Oper} {fr : Fr} {w : World} {ty t t' : TypeId} {pos : String} {aft : Array Edge} {gd : Option (Nat × Bool)} {d j : Nat} {x y : Operand} {A : Option Addr} {L : List (By × By)} {Ky : List By} {w0 : World}
--@ rule load l wl_ldItem
theorem wl_ldItem (hx : fr.ev x = some (.pointer (some (adr A (j * 2))))) (hr : RI w0 A L) (hb : Below w0.heap.size w0 w) (hj : j < L.length)
    (hk : ∀ A1 c1 A2 c2, Rd w0 A1 L[j].1 → Rd w0 A2 L[j].2 → L[j].1.length ≤ c1 → L[j].2.length ≤ c2 → WL Tryz.prog fn F N ks ops tg.tail l ((d, .agg #[.slice A1 L[j].1.length c1, .slice A2 L[j].2.length c2]) :: fr) w)
    (ht : tg.reads = true := by rfl) (hg : onG ops fr gd = true := by rfl) (hd : Nat.blt d N = true := by rfl) : WL Tryz.prog fn F N ks ops tg (⟨some d, .load 94 x, ty, pos, aft, gd⟩ :: l) fr w := by
  obtain ⟨A1, c1, A2, c2, h1, h2, h3, h4, h5⟩ := hr.elem hj
  refine wl_r (o_loadn (cs := [.slice A1 L[j].1.length c1, .slice A2 L[j].2.length c2]) Tryz.isAgg94 Tryz.sizeOf94 hx (fun i u hu => ?_)) (hk A1 c1 A2 c2 h2 h3 h4 h5) ht hg hd
  rw [adr_add]
  exact h1.u hb i u hu
--@ rule load l wl_ldKey
theorem wl_ldKey (hx : fr.ev x = some (.pointer (some (adr A (j * 2 + 0))))) (hr : RI w0 A L) (hb : Below w0.heap.size w0 w) (hj : j < L.length)
    (hk : ∀ A1 c1, Rd w0 A1 L[j].1 → L[j].1.length ≤ c1 → WL Tryz.prog fn F N ks ops tg.tail l ((d, .slice A1 L[j].1.length c1) :: fr) w)
    (ht : tg.reads = true := by rfl) (hg : onG ops fr gd = true := by rfl) (hd : Nat.blt d N = true := by rfl) : WL Tryz.prog fn F N ks ops tg (⟨some d, .load 39 x, ty, pos, aft, gd⟩ :: l) fr w := by
  obtain ⟨A1, c1, A2, c2, h1, h2, h3, h4, h5⟩ := hr.elem hj
  exact wl_r (o_load (t := 39) Tryz.isAgg39 hx (h1.u hb 0 _ rfl)) (hk A1 c1 h2 h4) ht hg hd
--@ rule load l wl_ldVal
theorem wl_ldVal (hx : fr.ev x = some (.pointer (some (adr A (j * 2 + 1))))) (hr : RI w0 A L) (hb : Below w0.heap.size w0 w) (hj : j < L.length)
    (hk : ∀ A1 c1, Rd w0 A1 L[j].2 → L[j].2.length ≤ c1 → WL Tryz.prog fn F N ks ops tg.tail l ((d, .slice A1 L[j].2.length c1) :: fr) w)
    (ht : tg.reads = true := by rfl) (hg : onG ops fr gd = true := by rfl) (hd : Nat.blt d N = true := by rfl) : WL Tryz.prog fn F N ks ops tg (⟨some d, .load 39 x, ty, pos, aft, gd⟩ :: l) fr w := by
  obtain ⟨A1, c1, A2, c2, h1, h2, h3, h4, h5⟩ := hr.elem hj
  exact wl_r (o_load (t := 39) Tryz.isAgg39 hx (h1.u hb 1 _ rfl)) (hk A2 c2 h3 h5) ht hg hd
--@ rule load l wl_ldKy
theorem wl_ldKy (hx : fr.ev x = some (.pointer (some (adr A j)))) (hr : RKy w0 A Ky) (hb : Below w0.heap.size w0 w) (hj : j < Ky.length)
    (hk : ∀ A1 c1, Rd w0 A1 Ky[j] → Ky[j].length ≤ c1 → WL Tryz.prog fn F N ks ops tg.tail l ((d, .slice A1 Ky[j].length c1) :: fr) w)
    (ht : tg.reads = true := by rfl) (hg : onG ops fr gd = true := by rfl) (hd : Nat.blt d N = true := by rfl) : WL Tryz.prog fn F N ks ops tg (⟨some d, .load 39 x, ty, pos, aft, gd⟩ :: l) fr w := by
  obtain ⟨A1, c1, h1, h2, h3⟩ := hr.elem hj
  refine wl_r (o_load (t := 39) Tryz.isAgg39 hx ?_) (hk A1 c1 h2 h3) ht hg hd
  have := h1.u hb 0 _ rfl
  rwa [Nat.mul_one] at this
end
end Go.Proofs.YtahkeoegbjopfaaGreat
/-
  Rows of values of any Go type: slices of the call's own, literals, appends. No function of the program is named here.
-/
namespace Go.Proofs.YtahkeoegbjopfaaGreat
set_option maxRecDepth 100000
open Go.RowKit
theorem part_flatMap {f : Value → List Value} {m : Nat} : ∀ (vs : List Value) (_ : ∀ v ∈ vs, (f v).length = m) (i : Nat) (hi : i < vs.length), part (vs.flatMap f) m i = f vs[i]
  | v :: vs, h, 0, _ => by
    simp only [part, Nat.zero_mul, List.drop_zero, List.flatMap_cons, List.getElem_cons_zero]
    rw [← h v (by simp)]
    exact List.take_left
  | v :: vs, h, i + 1, hi => by
    have ih := part_flatMap vs (fun u hu => h u (by simp [hu])) i (by simpa using hi)
    simp only [part, List.flatMap_cons, List.getElem_cons_succ] at ih ⊢
    rw [← ih, show (i + 1) * m = (f v).length + i * m by rw [h v (by simp), Nat.add_mul]; omega, ← List.drop_drop, List.drop_left]
section
variable {α : Type} {X : GoT α} {e e' : TypeId} {w w' : World} {lo hi lo' hi' c b : Nat} {A : Option Addr} {L M : List α} {row : Option Nat}
/-- Elements that are read, with the types of what they reach. -/
def RSlT (X : GoT α) (e : TypeId) (w : World) (A : Option Addr) (L : List α) : Prop := ∃ xs, Reads w X.sz A L.length xs ∧ (∀ k, blk A = some k → TyAt w k e) ∧ ∀ i (h : i < L.length), X.T w (part xs X.sz i) L[i]
theorem RSlT.u (h : RSlT X e w A L) (hb : Below w.heap.size w w') : RSlT X e w' A L := by
  obtain ⟨xs, h1, h2, h3⟩ := h
  exact ⟨xs, h1.below hb, fun k hk => (h2 k hk).keep (hb.block k (h2 k hk).lt), fun i hi => X.tu (h3 i hi) hb⟩
theorem RSlT.d (h : RSlT X e w A L) : RSlT X e w.drew A L := h.u (below_drew w)
theorem RSlT.y (h : RSlT X e w A L) (hg : Grew w w' e' row) (hne : e' ∉ e :: X.tys) : RSlT X e w' A L := by
  obtain ⟨xs, h3, h4, h5⟩ := h
  rw [List.mem_cons, not_or] at hne
  have hb := grew_blk hg h4 hne.1
  refine ⟨xs, h3.grown hg.g hb, fun k hk => (h4 k hk).keep (hg.g.block k (h4 k hk).lt (fun e => ?_)), fun i hi => X.ty (h5 i hi) hg hne.2⟩
  rcases hb with h6 | h6
  · rw [h6] at hk; cases hk
  · exact h6 (hk.trans e)
theorem RSlT.m (h : RSlT X e w A L) (hg : GrewM w w' b) : RSlT X e w' A L := by
  obtain ⟨xs, h3, h4, h5⟩ := h
  have hb := growm_blk hg h4
  refine ⟨xs, h3.grown hg.g hb, fun k hk => (h4 k hk).keep (hg.g.block k (h4 k hk).lt (fun e => ?_)), fun i hi => X.tm (h5 i hi) hg⟩
  rcases hb with h6 | h6
  · rw [h6] at hk; cases hk
  · exact h6 (hk.trans e)
theorem RSlT.nil_ : RSlT X e w none [] := ⟨[], Reads.none_ _ _ _, fun k hk => (by cases hk), fun i h => absurd h (Nat.not_lt_zero _)⟩
theorem RSlT.to_RSl (h : RSlT X e w A L) : RSl X w A L := by obtain ⟨xs, h1, h2, h3⟩ := h; exact ⟨xs, h1, fun i hi => X.tr (h3 i hi)⟩
/-- Elements of a row of the call's own. -/
def OwnS (X : GoT α) (e : TypeId) (w : World) (lo hi : Nat) (A : Option Addr) (c : Nat) (L : List α) : Prop := ∃ xs, RowH w lo hi e X.sz A L.length c xs ∧ ∀ i (h : i < L.length), X.T w (part xs X.sz i) L[i]
theorem OwnS.u (h : OwnS X e w lo hi A c L) (hb : Below w.heap.size w w') : OwnS X e w' lo hi A c L := by
  obtain ⟨xs, h1, h2⟩ := h
  exact ⟨xs, h1.u hb, fun i hi => X.tu (h2 i hi) hb⟩
theorem OwnS.d (h : OwnS X e w lo hi A c L) : OwnS X e w.drew lo hi A c L := h.u (below_drew w)
theorem OwnS.y (h : OwnS X e w lo hi A c L) (hg : Grew w w' e' row) (hne : e' ∉ e :: X.tys) : OwnS X e w' lo hi A c L := by
  obtain ⟨xs, h1, h2⟩ := h
  rw [List.mem_cons, not_or] at hne
  exact ⟨xs, h1.y hg hne.1, fun i hi => X.ty (h2 i hi) hg hne.2⟩
theorem OwnS.q (h : OwnS X e w lo hi A c L) (hg : Grew w w' e' row) (ha : Ap row lo hi) (hne : e' ∉ X.tys) : OwnS X e w' lo hi A c L := by
  obtain ⟨xs, h1, h2⟩ := h
  exact ⟨xs, h1.k hg.g ha, fun i hi => X.ty (h2 i hi) hg hne⟩
theorem OwnS.m (h : OwnS X e w lo hi A c L) (hg : GrewM w w' b) : OwnS X e w' lo hi A c L := by
  obtain ⟨xs, h1, h2⟩ := h
  exact ⟨xs, h1.m hg, fun i hi => X.tm (h2 i hi) hg⟩
theorem OwnS.ap (h : OwnS X e w lo hi A c L) (hd : hi ≤ lo' ∨ hi' ≤ lo) : Ap (blk A) lo' hi' := by obtain ⟨xs, h1, _⟩ := h; exact h1.ap hd
theorem OwnS.cap (h : OwnS X e w lo hi A c L) : L.length ≤ c := by obtain ⟨xs, h1, _⟩ := h; exact h1.cap
theorem OwnS.nil_ : OwnS X e w lo hi none 0 [] := ⟨[], RowH.nil _ _ _ _ _, fun i h => absurd h (Nat.not_lt_zero _)⟩
theorem OwnS.base (h : OwnS X e w lo hi A c L) (h1 : lo' ≤ lo) (h2 : hi ≤ hi') : OwnS X e w lo' hi' A c L := by obtain ⟨xs, h3, h4⟩ := h; exact ⟨xs, h3.base h1 h2, h4⟩
theorem OwnS.to_RSlT (h : OwnS X e w lo hi A c L) : RSlT X e w A L := by obtain ⟨xs, h1, h2⟩ := h; exact ⟨xs, h1.rd, h1.ty, h2⟩
theorem OwnS.to_RSl (h : OwnS X e w lo hi A c L) : RSl X w A L := h.to_RSlT.to_RSl
theorem litS_part {vs : List Value} {L : List α} (hn : vs.length = L.length) (hX : ∀ i (h : i < L.length), ∃ v, vs[i]? = some v ∧ v.cells.size = X.sz ∧ X.T w v.cells.toList L[i]) :
    ∀ i (h : i < L.length), X.T w (part (vs.flatMap fun v => v.cells.toList) X.sz i) L[i] := fun i h => by
  have hall : ∀ v ∈ vs, v.cells.toList.length = X.sz := fun v hv => by
    obtain ⟨j, hj, rfl⟩ := List.getElem_of_mem hv
    obtain ⟨u, h1, h2, _⟩ := hX j (by omega)
    rw [List.getElem?_eq_getElem hj] at h1
    injection h1 with h1
    rw [h1, Array.length_toList]; exact h2
  rw [part_flatMap vs hall i (by omega)]
  obtain ⟨v, h1, _, h3⟩ := hX i h
  rw [List.getElem?_eq_getElem (by omega)] at h1
  injection h1 with h1
  rw [h1]; exact h3
end
section
variable {α : Type} {X : GoT α} {P : Program} {fn : Func} {F : Ending → World → Prop} {N : Nat} {ks : List K} {ops : Array Oper} {tg : Tags} {l : List Oper} {fr : Fr} {w : World} {ty t e : TypeId} {z : Value} {pos : String} {aft : Array Edge} {gd : Option (Nat × Bool)} {d n sz bytes c j q lo hi : Nat} {x y : Operand} {A B : Option Addr} {L M : List α}
theorem wl_litS {ps : Array (Nat × Operand)} {xs : List Operand} {vs : List Value} (T : RowT P t e z X.sz bytes) (hs : ∀ w, (sizeOf e).run P w = .ok X.sz w) (hz : ∀ w, (zeroValue e).run P w = .ok z w) (hxs : ps.toList.map Prod.snd = xs) (hps : ps = ((List.range' 0 n).zip xs).toArray) (hx : fr.evs xs = some vs) (hn : vs.length = n) (hL : L.length = n)
    (hX : ∀ i (h : i < L.length), ∃ v, vs[i]? = some v ∧ v.cells.size = X.sz ∧ X.T w v.cells.toList L[i]) (hm : Nat.ble (n * X.sz) 1000000 = true)
    (hk : ∀ A w', OwnS X e w' w.heap.size w'.heap.size A n L → Below w.heap.size w w' → WL P fn F N ks ops tg.tail l ((d, .slice A n n) :: fr) w')
    (ht : tg.loud = true := by rfl) (hg : onG ops fr gd = true := by rfl) (hd : Nat.blt d N = true := by rfl) : WL P fn F N ks ops tg (⟨some d, .buildSlice t n ps, ty, pos, aft, gd⟩ :: l) fr w := by
  refine wl_litR T hs hz hxs hps hx hn (fun v hv => ?_) hm (fun A w' h1 h2 => hk A w' ⟨_, ?_, fun i h => X.tu (litS_part (w := w) (by omega) hX i h) h2⟩ h2) ht hg hd
  · obtain ⟨j, hj, rfl⟩ := List.getElem_of_mem hv
    obtain ⟨u, h1, h2, _⟩ := hX j (by omega)
    rw [List.getElem?_eq_getElem hj] at h1
    injection h1 with h1
    rw [h1]; exact h2
  · rw [hL]; exact h1
theorem litR_part {vs : List Value} (hn : vs.length = L.length) (hX : ∀ i (h : i < L.length), ∃ v, vs[i]? = some v ∧ v.cells.size = X.sz ∧ X.R w v.cells.toList L[i]) :
    ∀ i (h : i < L.length), X.R w (part (vs.flatMap fun v => v.cells.toList) X.sz i) L[i] := fun i h => by
  have hall : ∀ v ∈ vs, v.cells.toList.length = X.sz := fun v hv => by
    obtain ⟨j, hj, rfl⟩ := List.getElem_of_mem hv
    obtain ⟨u, h1, h2, _⟩ := hX j (by omega)
    rw [List.getElem?_eq_getElem hj] at h1
    injection h1 with h1
    rw [h1, Array.length_toList]; exact h2
  rw [part_flatMap vs hall i (by omega)]
  obtain ⟨v, h1, _, h3⟩ := hX i h
  rw [List.getElem?_eq_getElem (by omega)] at h1
  injection h1 with h1
  rw [h1]; exact h3
/-- A literal of what is only read. -/
theorem wl_litRS {ps : Array (Nat × Operand)} {xs : List Operand} {vs : List Value} (T : RowT P t e z X.sz bytes) (hs : ∀ w, (sizeOf e).run P w = .ok X.sz w) (hz : ∀ w, (zeroValue e).run P w = .ok z w) (hxs : ps.toList.map Prod.snd = xs) (hps : ps = ((List.range' 0 n).zip xs).toArray) (hx : fr.evs xs = some vs) (hn : vs.length = n) (hL : L.length = n)
    (hX : ∀ i (h : i < L.length), ∃ v, vs[i]? = some v ∧ v.cells.size = X.sz ∧ X.R w v.cells.toList L[i]) (hm : Nat.ble (n * X.sz) 1000000 = true)
    (hk : ∀ A w', RSl X w' A L → Below w.heap.size w w' → WL P fn F N ks ops tg.tail l ((d, .slice A n n) :: fr) w')
    (ht : tg.loud = true := by rfl) (hg : onG ops fr gd = true := by rfl) (hd : Nat.blt d N = true := by rfl) : WL P fn F N ks ops tg (⟨some d, .buildSlice t n ps, ty, pos, aft, gd⟩ :: l) fr w := by
  refine wl_litR T hs hz hxs hps hx hn (fun v hv => ?_) hm (fun A w' h1 h2 => hk A w' ⟨_, ?_, fun i h => X.u (litR_part (w := w) (by omega) hX i h) h2⟩ h2) ht hg hd
  · obtain ⟨j, hj, rfl⟩ := List.getElem_of_mem hv
    obtain ⟨u, h1, h2, _⟩ := hX j (by omega)
    rw [List.getElem?_eq_getElem hj] at h1
    injection h1 with h1
    rw [h1]; exact h2
  · rw [hL]; exact h1.rd
theorem wl_appS (T : RowT P t e z X.sz bytes) (hx : fr.ev x = some (.slice A n c)) (hown : OwnS X e w lo hi A c L) (hn : n = L.length) (hy : fr.ev y = some (.slice B j q)) (hr : RSlT X e w B M) (hj : j = M.length) (hne : e ∉ X.tys) (h1 : ∀ w cs a, X.T w cs a → ∀ u ∈ cs, u.oneCell' = true) (hlen : (L.length + M.length) * bytes ≤ 140737488355328) (hmx : L.length + M.length ≤ 1000000000) (hB : lo ≤ w.heap.size)
    (h : ∀ A' c' w', OwnS X e w' lo w'.heap.size A' c' (L ++ M) → Grew w w' e (blk A) → Below lo w w' → (blk A' = blk A ∨ blk A' = some w.heap.size) → WL P fn F N ks ops tg.tail l ((d, .slice A' (L ++ M).length c') :: fr) w')
    (ht : tg.loud = true := by rfl) (hg : onG ops fr gd = true := by rfl) (hd : Nat.blt d N = true := by rfl) (hq : tg.calm = false ∨ blk A = none ∨ blk A = tg.row := by exact .inl rfl) :
    WL P fn F N ks ops tg (⟨some d, .call { callee := .builtin .append, args := #[x, y], argTypes := #[t, t] }, ty, pos, aft, gd⟩ :: l) fr w := by
  subst hn; subst hj
  obtain ⟨xs, g1, g2⟩ := hown
  obtain ⟨ms, r1, r2, r3⟩ := hr
  have hxl : xs.length = L.length * X.sz := g1.rd.1
  have hml : ms.length = M.length * X.sz := r1.1
  refine wl_appR T hx g1 hy r1 (fun u hu => ?_) (by simp only [maxLen]; omega) hlen hB (fun A' c' w' k1 k2 k3 k4 => ?_) ht hg hd hq
  · obtain ⟨i, hi, rfl⟩ := List.getElem_of_mem hu
    have h0 := T.h0
    have hq : i / X.sz < M.length := (Nat.div_lt_iff_lt_mul h0).2 (by omega)
    refine h1 _ _ _ (r3 _ hq) _ (List.mem_of_getElem? (i := i % X.sz) ?_)
    rw [part_get (Nat.mod_lt _ h0), Nat.div_add_mod' i X.sz]
    exact List.getElem?_eq_getElem hi
  · have e2 : (L ++ M).length = L.length + M.length := List.length_append
    rw [← e2] at k1 ⊢
    refine h A' c' w' ⟨_, k1, fun i hi => ?_⟩ k2 k3 k4
    rcases Nat.lt_or_ge i L.length with hl | hl
    · rw [part_append_lt hxl hl, List.getElem_append_left hl]
      exact X.ty (g2 i hl) k2 hne
    · rw [List.getElem_append_right hl]
      have hi2 : i - L.length < M.length := by rw [e2] at hi; omega
      have := X.ty (r3 _ hi2) k2 hne
      have e3 : part (xs ++ ms) X.sz i = part ms X.sz (i - L.length) := by
        unfold part
        rw [show i * X.sz = xs.length + (i - L.length) * X.sz by rw [hxl, ← Nat.add_mul]; congr 1; omega, ← List.drop_drop, List.drop_left]
      rw [e3]; exact this
end
end Go.Proofs.YtahkeoegbjopfaaGreat
/-
  A change of nothing but what lies in the blocks from lo to hi. No function of the program is named here.
-/
namespace Go.Proofs.YtahkeoegbjopfaaGreat
set_option maxRecDepth 100000
open Go.RowKit
/-- What was there is there still, but for the blocks from lo to hi. -/
structure Chg (lo hi : Nat) (w w' : World) : Prop where
  os : w'.os = w.os
  tape : w'.tape = w.tape
  output : w'.output = w.output
  size : w.heap.size ≤ w'.heap.size
  block : ∀ k, k < w.heap.size → (k < lo ∨ hi ≤ k) → w'.heap[k]? = w.heap[k]?
section
variable {w w' w'' : World} {lo hi lo' hi' B g sz n cp : Nat} {e : TypeId} {A : Option Addr} {xs : List Value} {l : List UInt8} {row : Option Nat}
theorem Chg.below (h : Chg lo hi w w') (hB : B ≤ w.heap.size) (hl : B ≤ lo) : Below B w w' := ⟨h.os, h.tape, h.output, h.size, fun k hk => h.block k (by omega) (.inl (by omega))⟩
theorem Chg.of_below (h : Below w.heap.size w w') : Chg lo hi w w' := ⟨h.os, h.tape, h.output, h.size, fun k hk _ => h.block k hk⟩
theorem Chg.of_lo (h : Below lo w w') (hh : w.heap.size ≤ hi) : Chg lo hi w w' := ⟨h.os, h.tape, h.output, h.size, fun k hk a => h.block k (by omega)⟩
theorem Chg.refl : Chg lo hi w w := Chg.of_below (Below.refl _ _)
theorem Chg.drew : Chg lo hi w w.drew := Chg.of_below (below_drew w)
theorem Chg.of_g (h : w.grownBy w' row) (hr : ∀ k, row = some k → lo ≤ k ∧ k < hi) : Chg lo hi w w' := ⟨h.os, h.tape, h.output, h.size, fun k hk a => h.block k hk (fun e => by have := hr k e.symm; omega)⟩
theorem Chg.of_g1 (h : w.grownBy w' (some g)) (h1 : lo ≤ g) (h2 : g < hi) : Chg lo hi w w' := Chg.of_g h (fun k e => by injection e with e; omega)
theorem Chg.trans (h : Chg lo hi w w') (k : Chg lo hi w' w'') : Chg lo hi w w'' :=
  ⟨k.os.trans h.os, k.tape.trans h.tape, k.output.trans h.output, Nat.le_trans h.size k.size, fun i hi ha => (k.block i (Nat.lt_of_lt_of_le hi h.size) ha).trans (h.block i hi ha)⟩
theorem Chg.thenB (h : Chg lo hi w w') (k : Below w'.heap.size w' w'') : Chg lo hi w w'' := h.trans (Chg.of_below k)
theorem Chg.andNew (h : Chg lo hi w w') (k : w'.grownBy w'' row) (hr : ∀ j, row = some j → w.heap.size ≤ j) : Chg lo hi w w'' :=
  ⟨k.os.trans h.os, k.tape.trans h.tape, k.output.trans h.output, Nat.le_trans h.size k.size, fun i hi ha => (k.block i (Nat.lt_of_lt_of_le hi h.size) (fun e => by have := hr i e.symm; omega)).trans (h.block i hi ha)⟩
theorem Chg.wide (h : Chg lo hi w w') (h1 : lo' ≤ lo) (h2 : hi ≤ hi') : Chg lo' hi' w w' := ⟨h.os, h.tape, h.output, h.size, fun k hk a => h.block k hk (by omega)⟩
theorem Chg.own (h : Chg lo hi w w') (hl : w.heap.size ≤ lo) : Below w.heap.size w w' := h.below (Nat.le_refl _) hl
theorem chg_of_ok (h : Rw.ok (none, some (.inr (lo, hi))) w w') : Chg lo hi w w' :=
  have h' : SameOut w w' none lo hi := h
  ⟨h'.os, h'.tape, h'.output, h'.size, fun k hk a => h'.block k hk (fun e => by cases e) a⟩
theorem ok_of_chg (h : Chg lo hi w w') : Rw.ok (row, some (.inr (lo, hi))) w w' :=
  show SameOut w w' row lo hi from ⟨h.os, h.tape, h.output, h.size, fun k hk _ a => h.block k hk a⟩
theorem Blk.c {t : TypeId} {cs : List Value} (h : Blk w g t cs) (hc : Chg lo hi w w') (ha : g < lo ∨ hi ≤ g) : Blk w' g t cs := (hc.block g h.lt ha).trans h
theorem TyAt.c (h : TyAt w g e) (hc : Chg lo hi w w') (ha : g < lo ∨ hi ≤ g) : TyAt w' g e := h.keep (hc.block g h.lt ha)
theorem RowH.c (h : RowH w lo hi e sz A n cp xs) (hc : Chg lo' hi' w w') (ha : hi ≤ lo' ∨ hi' ≤ lo) : RowH w' lo hi e sz A n cp xs :=
  ⟨⟨h.o.1, by
    rcases h.o.2 with h3 | ⟨g, cap, cur, h3, h4, h5, h6⟩
    · exact .inl h3
    · have hA : A = some ⟨g, 0, none⟩ := by injection h3
      have hg := h.hi g (by rw [hA]; rfl)
      have hl := h.lt g (by rw [hA]; rfl)
      exact .inr ⟨g, cap, cur, h3, h4, (hc.block g hl.2 (by omega)).trans h5, h6⟩⟩, h.hi⟩
theorem OwnH.c (h : OwnH w lo hi A n l) (hc : Chg lo' hi' w w') (ha : hi ≤ lo' ∨ hi' ≤ lo) : OwnH w' lo hi A n l := RowH.c h hc ha
theorem Rd.c (h : Rd w A l) (hc : Chg lo hi w w') (ha : ∀ k, blk A = some k → k < lo ∨ hi ≤ k) : Rd w' A l := by
  by_cases hl : l = []
  · subst hl; exact ⟨h.1, fun h => absurd rfl h⟩
  · obtain ⟨b, o, rfl, hcl⟩ := h.2 (fun e => hl (by cases l with | nil => rfl | cons x y => cases e))
    refine ⟨h.1, fun _ => ⟨b, o, rfl, fun j u hj => ?_⟩⟩
    have h1 := hcl j u hj
    have hlt : b < w.heap.size := block_lt_of_cell h1
    rw [← h1]
    show World.cell? w' _ = World.cell? w _
    unfold World.cell?
    rw [show w'.heap[b]? = w.heap[b]? from hc.block b hlt (ha b rfl)]
/-- Bytes that are read, in the blocks from lo to hi. -/
structure RdB (w : World) (lo hi : Nat) (A : Option Addr) (l : List UInt8) : Prop where
  r : Rd w A l
  b : ∀ k, blk A = some k → lo ≤ k ∧ k < hi
theorem RdB.u (h : RdB w lo hi A l) (hb : Below w.heap.size w w') : RdB w' lo hi A l := ⟨h.r.u hb, h.b⟩
theorem RdB.d (h : RdB w lo hi A l) : RdB w.drew lo hi A l := ⟨h.r.d, h.b⟩
theorem RdB.c (h : RdB w lo hi A l) (hc : Chg lo' hi' w w') (ha : hi ≤ lo' ∨ hi' ≤ lo) : RdB w' lo hi A l := ⟨Rd.c h.r hc (fun k e => by have := h.b k e; omega), h.b⟩
theorem RdB.k (h : RdB w lo hi A l) (hg : w.grownBy w' row) (ha : Ap row lo hi) : RdB w' lo hi A l := by
  refine ⟨h.r.grown hg ?_, h.b⟩
  cases hA : blk A with
  | none => exact .inl rfl
  | some k => exact .inr fun e => by have := h.b k hA; have := ha k e.symm; omega
theorem RdB.to_Rd (h : RdB w lo hi A l) : Rd w A l := h.r
theorem RdB.to_Reads (h : RdB w lo hi A l) : Reads w 1 A l.length (B8 l) := h.r
theorem RdB.base (h : RdB w lo hi A l) (h1 : lo' ≤ lo) (h2 : hi ≤ hi') : RdB w lo' hi' A l := ⟨h.r, fun k e => by have := h.b k e; omega⟩
theorem RdB.nil_ : RdB w lo hi none [] := ⟨Rd.nil w none, fun k e => by cases e⟩
theorem OwnH.rdB (h : OwnH w lo hi A n l) : RdB w lo hi A l := ⟨h.to_Rd, fun k hk => ⟨(RowH.lt h k hk).1, h.hi k hk⟩⟩
theorem Blk.rdB {t : TypeId} (h : Blk w g t (B8 l)) : RdB w g (g + 1) (some ⟨g, 0, none⟩) l :=
  ⟨⟨by rw [B8_length, Nat.mul_one], fun _ => ⟨g, 0, rfl, fun j u hj => by rw [h.cell, Nat.zero_add]; exact hj⟩⟩, fun k e => by simp [blk] at e; omega⟩
/-- Elements that look at no memory: kept with their row. -/
theorem OwnS.c0 {α : Type} {X : GoT α} {L : List α} (h : OwnS X e w lo hi A cp L) (hX : ∀ {cs a}, X.T w cs a → X.T w' cs a) (hc : Chg lo' hi' w w') (ha : hi ≤ lo' ∨ hi' ≤ lo) : OwnS X e w' lo hi A cp L := by
  obtain ⟨xs, h1, h2⟩ := h
  exact ⟨xs, h1.c hc ha, fun i hi => hX (h2 i hi)⟩
end
end Go.Proofs.YtahkeoegbjopfaaGreat
/-
  Rows of elements of any size: made, and written element by element; elements that are arrays. No function of the program is named here.
-/
namespace Go.Proofs.YtahkeoegbjopfaaGreat
set_option maxRecDepth 100000
open Go.RowKit
theorem getElem_spl {L vs : List Value} {k i : Nat} (h : k + vs.length ≤ L.length) : (spl L k vs)[i]? = if k ≤ i ∧ i < k + vs.length then vs[i - k]? else L[i]? := by
  unfold spl
  have hl : (L.take k).length = k := by rw [List.length_take]; omega
  rw [List.append_assoc]
  rcases Nat.lt_or_ge i k with h1 | h1
  · rw [if_neg (by omega), List.getElem?_append_left (by omega), List.getElem?_take_of_lt h1]
  · rw [List.getElem?_append_right (by omega), hl]
    rcases Nat.lt_or_ge i (k + vs.length) with h2 | h2
    · rw [if_pos ⟨h1, h2⟩, List.getElem?_append_left (by omega)]
    · rw [if_neg (by omega), List.getElem?_append_right (by omega), List.getElem?_drop]
      congr 1; omega
theorem part_spl {xs vs : List Value} {sz n i j : Nat} (hx : xs.length = n * sz) (hv : vs.length = sz) (hj : j < n) (hi : i < n) : part (spl xs (j * sz) vs) sz i = if i = j then vs else part xs sz i := by
  have hj2 : (j + 1) * sz ≤ n * sz := Nat.mul_le_mul_right _ hj
  have hi2 : (i + 1) * sz ≤ n * sz := Nat.mul_le_mul_right _ hi
  rw [Nat.add_mul, Nat.one_mul] at hj2 hi2
  have hle : j * sz + vs.length ≤ xs.length := by rw [hv, hx]; exact hj2
  apply List.ext_getElem?
  intro q
  unfold part
  rw [List.getElem?_take, List.getElem?_drop, getElem_spl hle]
  by_cases hq : q < sz
  · rw [if_pos hq]
    by_cases e : i = j
    · subst e
      rw [if_pos ⟨by omega, by omega⟩, if_pos rfl]
      congr 1; omega
    · rw [if_neg e, List.getElem?_take_of_lt hq, List.getElem?_drop, if_neg]
      rintro ⟨h1, h2⟩
      rcases Nat.lt_or_ge i j with h3 | h3
      · have : (i + 1) * sz ≤ j * sz := Nat.mul_le_mul_right _ h3
        rw [Nat.add_mul, Nat.one_mul] at this; omega
      · have : (j + 1) * sz ≤ i * sz := Nat.mul_le_mul_right _ (by omega)
        rw [Nat.add_mul, Nat.one_mul] at this; omega
  · rw [if_neg hq]
    split
    · rw [List.getElem?_eq_none (by omega)]
    · rw [List.getElem?_eq_none (by rw [List.length_take]; omega)]
section
variable {P : Program} {w : World} {lo hi e sz n c j : Nat} {A : Option Addr} {xs vs : List Value}
theorem RowH.blk_ (h : RowH w lo hi e sz A n c xs) (hn : 0 < n) : ∃ g cur, A = some ⟨g, 0, none⟩ ∧ lo ≤ g ∧ g < hi ∧ Blk w g e cur ∧ n ≤ c ∧ cur.length = c * sz ∧ cur.take (n * sz) = xs := by
  rcases h.o.2 with ⟨_, h0⟩ | ⟨g, cap, cur, hv, h1, h2, h3, h4, h5, h6⟩
  · omega
  · injection hv with e1 _ e3
    subst e1; subst e3
    exact ⟨g, cur.toList, rfl, h1, h.hi g rfl, by unfold Blk; rw [Array.toArray_toList]; exact h2, h3, by rw [Array.length_toList, h5], h6⟩
theorem RowH.put (h : RowH w lo hi e sz A n c xs) (hj : j < n) (hv : vs.length = sz) (h1 : ∀ u ∈ vs, u.oneCell' = true) (h0 : 0 < sz) :
    ∃ g w', A = some ⟨g, 0, none⟩ ∧ (storeCells ⟨g, j * sz, none⟩ vs 0).run P w = .ok () w' ∧ RowH w' lo hi e sz A n c (spl xs (j * sz) vs) ∧ Grew w w' e (blk A) ∧ w'.heap.size = w.heap.size := by
  have hT := h.ty
  have hrd := h.rd.1
  have hcap := h.cap
  have ho := h.o
  obtain ⟨g, cur, rfl, g1, g2, hB, g3, g4, g5⟩ := h.blk_ (by omega)
  have hj2 : (j + 1) * sz ≤ n * sz := Nat.mul_le_mul_right _ hj
  have hn2 : n * sz ≤ c * sz := Nat.mul_le_mul_right _ g3
  rw [Nat.add_mul, Nat.one_mul] at hj2
  obtain ⟨w', hr, hB', hgr, hz⟩ := run_storeCells_blk (P := P) (o := j * sz) vs 0 cur w hB h1 (by omega)
  rw [Nat.add_zero] at hB'
  refine ⟨g, w', rfl, hr, ⟨⟨?_, .inr ⟨g, c, (spl cur (j * sz) vs).toArray, rfl, g1, hB', g3, ?_, ?_, ?_⟩⟩, h.hi⟩, ⟨hgr, hT⟩, hz⟩
  · rw [spl_length (by omega), hrd]
  · rcases ho.2 with ⟨hv', h0'⟩ | ⟨_, cap, _, hv', _, _, _, h4, _⟩
    · omega
    · injection hv' with _ _ e3; rw [e3]; exact h4
  · rw [List.size_toArray, spl_length (by omega), g4]
  · show (spl cur (j * sz) vs).take (n * sz) = _
    apply List.ext_getElem?
    intro q
    rw [List.getElem?_take, getElem_spl (by omega), getElem_spl (by rw [hrd]; omega), ← g5, List.getElem?_take]
    by_cases hq : q < n * sz
    · rw [if_pos hq, if_pos hq]
    · rw [if_neg hq, if_neg hq, if_neg (by omega)]
end
section
variable {α : Type} {X : GoT α} {e e' : TypeId} {w : World} {lo hi c j : Nat} {A : Option Addr} {L : List α} {vs : List Value} {P : Program} {a : α}
theorem OwnS.put (h : OwnS X e w lo hi A c L) (hj : j < L.length) (hX : X.T w vs a) (h1 : ∀ u ∈ vs, u.oneCell' = true) (h0 : 0 < X.sz) (hne : e ∉ X.tys) :
    ∃ g w', A = some ⟨g, 0, none⟩ ∧ (storeCells ⟨g, j * X.sz, none⟩ vs 0).run P w = .ok () w' ∧ OwnS X e w' lo hi A c (L.set j a) ∧ Grew w w' e (blk A) ∧ w'.heap.size = w.heap.size := by
  obtain ⟨xs, h2, h3⟩ := h
  have hv := X.len (X.tr hX)
  obtain ⟨g, w', e1, e2, e3, e4, e5⟩ := h2.put (P := P) hj hv h1 h0
  refine ⟨g, w', e1, e2, ⟨_, by rw [List.length_set]; exact e3, fun i hi => ?_⟩, e4, e5⟩
  rw [List.length_set] at hi
  rw [part_spl h2.rd.1 hv hj hi, List.getElem_set]
  split
  · rw [if_pos (by omega)]; exact X.ty hX e4 hne
  · rw [if_neg (by omega)]; exact X.ty (h3 i hi) e4 hne
end
section
variable {α : Type} {X : GoT α} {P : Program} {fn : Func} {F : Ending → World → Prop} {N : Nat} {ks : List K} {ops : Array Oper} {tg : Tags} {l : List Oper} {fr : Fr} {w : World} {ty t e : TypeId} {z : Value} {pos : String} {aft : Array Edge} {gd : Option (Nat × Bool)} {k1 k2 : IntKind} {d n m bytes c j lo hi : Nat} {x y : Operand} {A : Option Addr} {L : List α} {a : α} {vs : List Value}
/-- An element of several cells is written. -/
theorem wl_stS (hs : ∀ w, (sizeOf t).run P w = .ok m w) (hx : fr.ev x = some (.pointer (some (adr A (j * m))))) (hy : fr.ev y = some (.agg vs.toArray)) (hm : m = X.sz) (hown : OwnS X e w lo hi A c L) (hj : j < L.length) (hX : X.T w vs a) (h1 : ∀ u ∈ vs, u.oneCell' = true) (h0 : 0 < X.sz) (hne : e ∉ X.tys)
    (hk : ∀ w', OwnS X e w' lo hi A c (L.set j a) → Grew w w' e (blk A) → Below lo w w' → w'.heap.size = w.heap.size → WL P fn F N ks ops tg.tail l fr w') (ht : tg.loud = true := by rfl) (hg : onG ops fr gd = true := by rfl) (hq : tg.calm = false ∨ tg.rw.may (blk A) := by exact .inl rfl) :
    WL P fn F N ks ops tg (⟨none, .store t x y, ty, pos, aft, gd⟩ :: l) fr w := by
  subst hm
  have hv := X.len (X.tr hX)
  have hown0 := hown
  obtain ⟨g, w', rfl, hr, e3, e4, e5⟩ := hown.put (P := P) hj hX h1 h0 hne
  have hbl : Below lo w w' := by
    obtain ⟨xs, g1, _⟩ := hown0
    have hlt := RowH.lt g1 g rfl
    exact e4.below (by omega) (fun k hk => by have hk' : g = k := by simpa [blk] using hk
                                              omega)
  have ead : adr (some (⟨g, 0, none⟩ : Addr)) (j * X.sz) = ⟨g, j * X.sz, none⟩ := by simp [adr, add_plain]
  rw [ead] at hx
  refine wl_u (w' := w') (fun a ha op hop => ?_) (hk w' e3 e4 hbl e5) ht hg (hq.imp id (Rw.of_may e4.g))
  have hcs : (Value.agg vs.toArray).cells = vs.toArray := rfl
  simp [execOp, hop, ha.ev hx, ha.ev hy, Instr.storeAt, Instr.sureAddr, storeVar, hcs, hs, hv, hr]
theorem madeCells_part (z : Value) (n : Nat) (h0 : 0 < z.cells.size) {i : Nat} (hi : i < n) : part (madeCells z.cells (n * z.cells.size)).toList z.cells.size i = z.cells.toList := by
  have hi2 : (i + 1) * z.cells.size ≤ n * z.cells.size := Nat.mul_le_mul_right _ hi
  rw [Nat.add_mul, Nat.one_mul] at hi2
  apply List.ext_getElem?
  intro q
  unfold part
  rw [List.getElem?_take]
  by_cases hq : q < z.cells.size
  · rw [if_pos hq, List.getElem?_drop, Array.getElem?_toList, Array.getElem?_toList]
    have hlt : i * z.cells.size + q < (madeCells z.cells (n * z.cells.size)).size := by rw [size_madeCells]; omega
    rw [Array.getElem?_eq_getElem hlt, Array.getElem?_eq_getElem hq]
    simp only [madeCells, Array.getElem_map, Array.getElem_range]
    rw [Nat.mul_comm i, Nat.mul_add_mod, Nat.mod_eq_of_lt hq, getElem!_pos z.cells q hq]
  · rw [if_neg hq, List.getElem?_eq_none (by rw [Array.length_toList]; omega)]
/-- make. -/
theorem wl_mkS {E C : Int} (T : RowT P t e z X.sz bytes) (hx : fr.ev x = some (.int k1 E)) (hy : fr.ev y = some (.int k2 C)) (hE : E = (n : Int)) (hC : C = (n : Int)) (hn : n ≤ 1000000000) (hb : n * bytes ≤ 140737488355328) (hX : ∀ w, X.T w z.cells.toList a)
    (hk : ∀ A w', OwnS X e w' w.heap.size w'.heap.size A n (List.replicate n a) → Below w.heap.size w w' → WL P fn F N ks ops tg.tail l ((d, .slice A n n) :: fr) w')
    (ht : tg.loud = true := by rfl) (hg : onG ops fr gd = true := by rfl) (hd : Nat.blt d N = true := by rfl) : WL P fn F N ks ops tg (⟨some d, .makeSlice t x y, ty, pos, aft, gd⟩ :: l) fr w := by
  subst hC; subst hE
  obtain ⟨i, hi, hz, hs, hb'⟩ := info_parts T.hi
  obtain ⟨w', hrun, r1, r2⟩ := run_make_full (P := P) w w.heap.size t e i _ X.sz T.ht hi hz hs k1 k2 n (by rw [hb', Nat.mul_comm]; omega) (by simp only [maxLen]; omega) (Nat.le_refl _)
  have hbl : Below w.heap.size w w' := (Below.refl _ _).grown r2 (Nat.le_refl _) (by simp)
  refine wl_v (fun a ha o ho _ => by simp [execOp, ho, ha.ev hx, ha.ev hy, hrun]) (hk (some ⟨w.heap.size, 0, none⟩) w' ⟨(madeCells z.cells (n * X.sz)).toList, ⟨?_, fun k hk => ?_⟩, fun i hi => ?_⟩ hbl) ht hg hd (.inr (grown_of_below hbl _))
  · rw [List.length_replicate]; exact r1
  · exact (World.ownsRow.lt r1 k (by rw [blk_own]; exact hk)).2
  · rw [List.length_replicate] at hi
    have := madeCells_part z n (by rw [T.hz]; exact T.h0) hi
    rw [T.hz] at this
    rw [this, List.getElem_replicate]
    exact hX w'
end
end Go.Proofs.YtahkeoegbjopfaaGreat
/-
  Parts of a row of the call's own put together in place, and cells set to zero; results in cells and slots. No function of the program is named here.
-/
namespace Go.Proofs.YtahkeoegbjopfaaGreat
set_option maxRecDepth 100000
open Go.RowKit
section
variable {P : Program} {w : World} {lo hi sz n c bytes : Nat} {t ty e : TypeId} {z : Value} {A : Option Addr} {xs : List Value}
theorem zeroCells_mem {zs : Array Value} (h1 : zs.all (fun v => v.oneCell') = true) (h0 : 0 < zs.size) (m : Nat) : ∀ v ∈ (Builtin.zeroCells zs m).toList, v.oneCell' = true := by
  intro v hv
  simp only [Builtin.zeroCells, Array.toList_map, List.mem_map] at hv
  obtain ⟨i, _, rfl⟩ := hv
  have hlt : i % zs.size < zs.size := Nat.mod_lt _ h0
  rw [getElem!_pos zs _ hlt]
  exact Array.all_eq_true.1 h1 _ hlt
/-- 'clear' on what lies behind the row's elements. -/
theorem run_clearR (T : RowT P t e z sz bytes) (hz : ∀ w, (zeroValue e).run P w = .ok z w) (h1 : z.cells.all (fun v => v.oneCell') = true) (hown : RowH w lo hi e sz A n c xs) {k m c' : Nat} (hk : n ≤ k) (hm : k + m ≤ c) :
    ∃ w', (Builtin.clear_ #[t] ty #[.slice (cutA A c sz k) m c']).run P w = .ok (.tuple #[]) w' ∧ RowH w' lo hi e sz A n c xs ∧ Grew w w' e (blk A) := by
  have hT := hown.ty
  rcases Nat.eq_zero_or_pos m with h0 | h0
  · subst h0
    refine ⟨w, ?_, hown, ⟨World.grownBy.refl w _, hT⟩⟩
    cases cutA A c sz k <;> simp [Builtin.clear_, run_underlying T.ht]
  · have ho := hown.o
    rcases ho.2 with ⟨hv, hn0⟩ | ⟨g, cap, cur, hv, hbg, hg, hnc, hcm, hcs, htake⟩
    · injection hv with _ _ e3
      omega
    · injection hv with e1 _ e3
      subst e1; subst e3
      have hB : Blk w g e cur.toList := by unfold Blk; rw [Array.toArray_toList]; exact hg
      have hzl : (Builtin.zeroCells z.cells m).toList.length = m * sz := by simp [Builtin.zeroCells, T.hz]
      have hcl : cur.toList.length = c * sz := by rw [Array.length_toList, hcs]
      have hroom : (k + m) * sz ≤ c * sz := Nat.mul_le_mul_right _ hm
      rw [Nat.add_mul] at hroom
      obtain ⟨w', hr, hB', hgr, _⟩ := run_storeCells_blk (P := P) (o := k * sz) (Builtin.zeroCells z.cells m).toList 0 cur.toList w hB (zeroCells_mem h1 (by rw [T.hz]; exact T.h0) m) (by rw [hzl, hcl]; omega)
      have hcut : cutA (some ⟨g, 0, none⟩) c sz k = some ⟨g, k * sz, none⟩ := by
        unfold cutA; rw [if_neg (by omega)]; simp [add_plain]
      obtain ⟨m', rfl⟩ : ∃ m', m = m' + 1 := ⟨m - 1, by omega⟩
      have hnk : n * sz ≤ k * sz := Nat.mul_le_mul_right _ hk
      refine ⟨w', ?_, ⟨⟨ho.1, .inr ⟨g, c, _, rfl, hbg, hB', hnc, hcm, ?_, ?_⟩⟩, hown.hi⟩, ⟨hgr, hT⟩⟩
      · rw [hcut]
        simp [Builtin.clear_, run_underlying T.ht, hz, hr]
      · rw [List.size_toArray, spl_length (by rw [hzl, hcl]; omega), hcl]
      · rw [← htake, Nat.add_zero]
        simp only [spl]
        rw [List.append_assoc, List.take_append_of_le_length (by rw [List.length_take, hcl]; omega), List.take_take, Nat.min_eq_left hnk]
/-- append where there is room. -/
theorem run_appFit (T : RowT P t e z sz bytes) (hown : RowH w lo hi e sz A n c xs) {X : Option Addr} {m q : Nat} {ms : List Value} (hr : Reads w sz X m ms) (h1 : ∀ u ∈ ms, u.oneCell' = true) (hroom : n + m ≤ c) :
    ∃ w', (Builtin.append_ #[t, t] ty #[.slice A n c, .slice X m q]).run P w = .ok (.slice A (n + m) c) w' ∧ RowH w' lo hi e sz A (n + m) c (xs ++ ms) ∧ Grew w w' e (blk A) := by
  have hT := hown.ty
  obtain ⟨i, hi', hz, hs, hb⟩ := info_parts T.hi
  have ho := hown.o
  by_cases hm : ms = []
  · subst hm
    have hm0 : m = 0 := by
      have := hr.1
      rw [List.length_nil] at this
      rcases Nat.mul_eq_zero.1 this.symm with h2 | h2
      · exact h2
      · have := T.h0; omega
    subst hm0
    refine ⟨w, ?_, by simpa using hown, ⟨World.grownBy.refl w _, hT⟩⟩
    have hst : ∀ a : Addr, (storeCells a [] 0).run P w = .ok () w := fun a => by simp [storeCells]
    have hf : (Builtin.firstCells i.size 0 (.slice X 0 q)).run P w = .ok #[] w := by cases X <;> simp [Builtin.firstCells, loadCells, loadCellsFrom]
    have hnc : n ≤ c := hown.cap
    cases A <;> simp [Builtin.append_, run_underlying T.ht, sizeOf, typeInfo, hi', Builtin.lenOf, hf, storeCells, hnc]
  · obtain ⟨ad, rfl, hcell⟩ := hr.add hm
    have hm0 : 0 < m := by
      rcases Nat.eq_zero_or_pos m with h2 | h2
      · subst h2; exact absurd (List.eq_nil_of_length_eq_zero (by rw [hr.1]; simp)) hm
      · exact h2
    rcases ho.2 with ⟨hv, hn0⟩ | ⟨g, cap, cur, hv, hbg, hg, hnc, hcm, hcs, htake⟩
    · injection hv with _ _ e3
      omega
    · injection hv with e1 _ e3
      subst e1; subst e3
      obtain ⟨w', hrun, r1, r2⟩ := run_append_fits (P := P) (w := w) lo t ty e i sz T.ht hi' hs g n c xs ho ad m q ms hr.1 hcell h1 hroom
      exact ⟨w', hrun, ⟨r1, hown.hi⟩, ⟨r2, hT⟩⟩
end
section
variable {α : Type} {X : GoT α} {e : TypeId} {w : World} {lo hi c : Nat} {A : Option Addr} {L : List α}
theorem part_take {xs : List Value} {m i k : Nat} (hi : i < k) : part (xs.take (k * m)) m i = part xs m i := by
  unfold part
  have h1 : (i + 1) * m ≤ k * m := Nat.mul_le_mul_right _ hi
  rw [Nat.add_mul, Nat.one_mul] at h1
  rw [List.drop_take, List.take_take, Nat.min_eq_left (by omega)]
theorem part_drop {xs : List Value} {m i k : Nat} : part (xs.drop (k * m)) m i = part xs m (k + i) := by
  unfold part
  rw [List.drop_drop, Nat.add_mul]
theorem OwnS.take (h : OwnS X e w lo hi A c L) (k : Nat) (hk : k ≤ L.length) : OwnS X e w lo hi A c (L.take k) := by
  obtain ⟨xs, h1, h2⟩ := h
  have hl : (L.take k).length = k := by rw [List.length_take]; omega
  have hxl : xs.length = L.length * X.sz := h1.rd.1
  have hkx : k * X.sz ≤ L.length * X.sz := Nat.mul_le_mul_right _ hk
  refine ⟨xs.take (k * X.sz), ⟨?_, h1.hi⟩, fun i hi => ?_⟩
  · rw [hl]
    refine ⟨by rw [List.length_take, hxl, Nat.min_eq_left hkx], ?_⟩
    rcases h1.o.2 with ⟨hv, hn0⟩ | ⟨g, cap, cur, hv, h3, h4, h5, h6, h7, h8⟩
    · have h0 : k = 0 := by omega
      subst h0
      injection hv with e1 _ e3
      subst e1; subst e3
      exact .inl ⟨rfl, rfl⟩
    · injection hv with e1 _ e3
      subst e1; subst e3
      refine .inr ⟨g, c, cur, rfl, h3, h4, by omega, h6, h7, ?_⟩
      rw [← h8, List.take_take, Nat.min_eq_left hkx]
  · rw [hl] at hi
    rw [part_take hi, List.getElem_take]
    exact h2 i (by omega)
theorem OwnS.drop (h : OwnS X e w lo hi A c L) (k : Nat) (hk : k ≤ L.length) : RSlT X e w (cutA A c X.sz k) (L.drop k) := by
  have hc := h.cap
  obtain ⟨xs, h1, h2⟩ := h
  have hT := h1.ty
  refine ⟨xs.drop (k * X.sz), h1.rd.cutn hk hc (by rw [List.length_drop]), fun b hb => hT b ?_, fun i hi => ?_⟩
  · unfold cutA at hb
    split at hb
    · exact hb
    · rw [← hb]
      cases A with
      | none => rfl
      | some a => simp [blk, block_of_add]
  · rw [part_drop, List.getElem_drop]
    rw [List.length_drop] at hi
    exact h2 _ (by omega)
end
section
variable {α : Type} {X : GoT α} {P : Program} {fn : Func} {F : Ending → World → Prop} {N : Nat} {ks : List K} {ops : Array Oper} {tg : Tags} {l : List Oper} {fr : Fr} {w : World} {ty t e : TypeId} {z : Value} {pos : String} {aft : Array Edge} {gd : Option (Nat × Bool)} {d n bytes c j q lo hi k m c' : Nat} {x y : Operand} {A B : Option Addr} {L M : List α}
theorem wl_appFit (T : RowT P t e z X.sz bytes) (hx : fr.ev x = some (.slice A n c)) (hown : OwnS X e w lo hi A c L) (hn : n = L.length) (hy : fr.ev y = some (.slice B j q)) (hr : RSlT X e w B M) (hj : j = M.length) (hne : e ∉ X.tys) (h1 : ∀ w cs a, X.T w cs a → ∀ u ∈ cs, u.oneCell' = true) (hroom : L.length + M.length ≤ c)
    (h : ∀ w', OwnS X e w' lo hi A c (L ++ M) → Grew w w' e (blk A) → WL P fn F N ks ops tg.tail l ((d, .slice A (L ++ M).length c) :: fr) w')
    (ht : tg.loud = true := by rfl) (hg : onG ops fr gd = true := by rfl) (hd : Nat.blt d N = true := by rfl) (hq : tg.calm = false ∨ blk A = none ∨ blk A = tg.row := by exact .inl rfl) :
    WL P fn F N ks ops tg (⟨some d, .call { callee := .builtin .append, args := #[x, y], argTypes := #[t, t] }, ty, pos, aft, gd⟩ :: l) fr w := by
  subst hn; subst hj
  obtain ⟨xs, g1, g2⟩ := hown
  obtain ⟨ms, r1, r2, r3⟩ := hr
  have hxl : xs.length = L.length * X.sz := g1.rd.1
  have hml : ms.length = M.length * X.sz := r1.1
  obtain ⟨w', hrun, k1, k2⟩ := run_appFit (ty := ty) (q := q) T g1 r1 (fun u hu => by
    obtain ⟨i, hi, rfl⟩ := List.getElem_of_mem hu
    have h0 := T.h0
    have hq : i / X.sz < M.length := (Nat.div_lt_iff_lt_mul h0).2 (by omega)
    refine h1 _ _ _ (r3 _ hq) _ (List.mem_of_getElem? (i := i % X.sz) ?_)
    rw [part_get (Nat.mod_lt _ h0), Nat.div_add_mod' i X.sz]
    exact List.getElem?_eq_getElem hi) hroom
  have e2 : (L ++ M).length = L.length + M.length := List.length_append
  rw [← e2] at k1 hrun
  refine wl_v (o_builtin (xs := [x, y]) (vs := [.slice A L.length c, .slice B M.length q]) (by simp [Fr.evs, hx, hy]) (by simp [builtin, hrun]) (by simp)) (h w' ⟨_, k1, fun i hi => ?_⟩ k2) ht hg hd
    (hq.imp id fun e => e.elim (fun e => grown_wide (e ▸ k2.g) _) (fun e => e ▸ k2.g))
  rcases Nat.lt_or_ge i L.length with hl | hl
  · rw [part_append_lt hxl hl, List.getElem_append_left hl]
    exact X.ty (g2 i hl) k2 hne
  · rw [List.getElem_append_right hl]
    have hi2 : i - L.length < M.length := by rw [e2] at hi; omega
    have := X.ty (r3 _ hi2) k2 hne
    have e3 : part (xs ++ ms) X.sz i = part ms X.sz (i - L.length) := by
      unfold part
      rw [show i * X.sz = xs.length + (i - L.length) * X.sz by rw [hxl, ← Nat.add_mul]; congr 1; omega, ← List.drop_drop, List.drop_left]
    rw [e3]; exact this
theorem wl_clearS (T : RowT P t e z X.sz bytes) (hz : ∀ w, (zeroValue e).run P w = .ok z w) (h1 : z.cells.all (fun v => v.oneCell') = true) (hx : fr.ev x = some (.slice (cutA A c X.sz k) m c')) (hown : OwnS X e w lo hi A c L) (hk : L.length ≤ k) (hm : k + m ≤ c) (hne : e ∉ X.tys)
    (h : ∀ w', OwnS X e w' lo hi A c L → Grew w w' e (blk A) → WL P fn F N ks ops tg.tail l fr w')
    (ht : tg.loud = true := by rfl) (hg : onG ops fr gd = true := by rfl) (hq : tg.calm = false ∨ blk A = none ∨ blk A = tg.row := by exact .inl rfl) :
    WL P fn F N ks ops tg (⟨none, .call { callee := .builtin .clear, args := #[x], argTypes := #[t] }, ty, pos, aft, gd⟩ :: l) fr w := by
  obtain ⟨xs, g1, g2⟩ := hown
  obtain ⟨w', hrun, k1, k2⟩ := run_clearR (ty := ty) (c' := c') T hz h1 g1 hk hm
  exact wl_v0 (o_builtin (v := .tuple #[]) (xs := [x]) (vs := [.slice (cutA A c X.sz k) m c']) (by simp [Fr.evs, hx]) (by simp [builtin, hrun]) (by simp)) (h w' ⟨_, k1, fun i hi => X.ty (g2 i hi) k2 hne⟩ k2) ht hg
    (hq.imp id fun e => e.elim (fun e => grown_wide (e ▸ k2.g) _) (fun e => e ▸ k2.g))
theorem o_slice3S {N : Nat} {len cap sz : Nat} {kl kh km : IntKind} {L H M : Int} {y z u : Operand} (lo hi mx : Nat) (hu : P.underlying t = some (.slice e)) (hs : ∀ w, (sizeOf e).run P w = .ok sz w) (hx : fr.ev x = some (.slice A len cap)) (hy : fr.ev y = some (.int kl L)) (hz : fr.ev z = some (.int kh H)) (hq : fr.ev u = some (.int km M))
    (hl : L = (lo : Int)) (hh : H = (hi : Int)) (hm : M = (mx : Int)) (h1 : lo ≤ hi) (h2 : hi ≤ mx) (h3 : mx ≤ cap) : OpV P N fr w (.slice t x (some y) (some z) (some u)) ty (.slice (cutA A mx sz lo) (hi - lo) (mx - lo)) w := fun a ha op hop _ => by
  subst hl; subst hh; subst hm
  simp [execOp, hop, ha.ev hx, ha.ev hy, ha.ev hz, ha.ev hq, Instr.sliceAt, Instr.slice, Instr.sliceBounds, Instr.sliceBound, run_underlying hu, asIntOf, hs, h1, h2, h3, cutA]
end
/-- What the results are: in slots, in cells. -/
inductive Res (P : Program) (fr : Fr) (w : World) : List ResultVar → List Value → Prop where
  | nil : Res P fr w [] []
  | tmp {q : Nat} {v : Value} {rs : List ResultVar} {vs : List Value} (h : fr.get q = some v) (r : Res P fr w rs vs) : Res P fr w (.tmp q :: rs) (v :: vs)
  | cell {p n g : Nat} {t t' : TypeId} {cs : List Value} {rs : List ResultVar} {vs : List Value} (hp : fr.get p = some (.pointer (some ⟨g, 0, none⟩))) (ha' : ∀ w, (isAgg t).run P w = .ok true w) (hs : ∀ w, (sizeOf t).run P w = .ok n w) (hB : Blk w g t' cs) (hn : cs.length = n) (r : Res P fr w rs vs) : Res P fr w (.cell p t :: rs) (.agg cs.toArray :: vs)
  | flat {p g : Nat} {t t' : TypeId} {v : Value} {rs : List ResultVar} {vs : List Value} (hp : fr.get p = some (.pointer (some ⟨g, 0, none⟩))) (ha' : ∀ w, (isAgg t).run P w = .ok false w) (hB : Blk w g t' [v]) (r : Res P fr w rs vs) : Res P fr w (.cell p t :: rs) (v :: vs)
def resOf (a : Act) (x : ResultVar) : Sem Value := match x with
  | .tmp t => pure (a.tmps.getD t undef)
  | .cell b t => do loadVar t (← asAddr (a.tmps.getD b undef))
theorem resOf_cell {P : Program} {a : Act} {w : World} {p g : Nat} {t : TypeId} {v : Value} (hp : a.tmps.getD p undef = .pointer (some ⟨g, 0, none⟩)) (hl : (loadVar t ⟨g, 0, none⟩).run P w = .ok v w) : (resOf a (.cell p t)).run P w = .ok v w := by
  simp only [resOf, hp, asAddr, Sem.run_bind, Sem.run_pure, Result.andThen_ok, hl]
theorem Res.run {P : Program} {N : Nat} {a : Act} {fr : Fr} {w : World} (ha : Rep N a fr) {rs : List ResultVar} {vs : List Value} (h : Res P fr w rs vs) : (rs.mapM (resOf a)).run P w = .ok vs w := by
  have cons : ∀ {x : ResultVar} {v : Value} {rs : List ResultVar} {vs : List Value}, (resOf a x).run P w = .ok v w → (rs.mapM (resOf a)).run P w = .ok vs w → ((x :: rs).mapM (resOf a)).run P w = .ok (v :: vs) w := by
    intro x v rs vs h1 h2
    rw [List.mapM_cons]
    simp only [Sem.run_bind, Sem.run_pure, Result.andThen_ok, h1, h2]
  induction h with
  | nil => simp
  | @tmp q v rs vs h r ih =>
    have hv : a.tmps.getD q undef = v := ha.ev (x := .tmp q) h
    exact cons (by simp only [resOf, hv, Sem.run_pure]) ih
  | @cell p n g t t' cs rs vs hp ha' hs hB hn r ih =>
    have hp' : a.tmps.getD p undef = .pointer (some ⟨g, 0, none⟩) := ha.ev (x := .tmp p) hp
    subst hn
    have hl : (loadCells ⟨g, 0, none⟩ cs.length).run P w = .ok cs.toArray w := run_loadCells_list (P := P) w ⟨g, 0, none⟩ cs (fun j u hu => by rw [add_plain, hB.cell, Nat.zero_add]; exact hu)
    exact cons (resOf_cell hp' (by simp [loadVar, ha', hs, hl])) ih
  | @flat p g t t' v rs vs hp ha' hB r ih =>
    have hp' : a.tmps.getD p undef = .pointer (some ⟨g, 0, none⟩) := ha.ev (x := .tmp p) hp
    have hc : w.cell? ⟨g, 0, none⟩ = some v := by rw [hB.cell]; rfl
    exact cons (resOf_cell hp' (by simp [loadVar, ha', hc])) ih
theorem ret_any {P : Program} {fn : Func} {N : Nat} {ks : List K} {fr : Fr} {w : World} {rs : List ResultVar} {vs : List Value} {R : Value → World → Prop} (h : fn.results = rs.toArray) (hr : Res P fr w rs vs) (hn : vs.length ≠ 1) (hR : R (.tuple vs.toArray) w) : RK P fn (fun e w' => ∃ v, e = .returned v ∧ R v w') N (.code .ret :: ks) fr w :=
  rk_ret (F := fun e w' => ∃ v, e = .returned v ∧ R v w') (fun a ha => ⟨.tuple vs.toArray, by
    have hrun := hr.run ha
    have h2 : (rs.toArray.mapM (resOf a)).run P w = .ok vs.toArray w := by
      rw [List.mapM_toArray, Sem.run_map, hrun]; rfl
    have e : results fn a.tmps = (do
        let vs ← rs.toArray.mapM (resOf a)
        pure (if h : vs.size = 1 then vs[0] else .tuple vs)) := by rw [← h]; rfl
    rw [e]
    simp only [Sem.run_bind, h2, Result.andThen_ok, Sem.run_pure]
    simp [hn], ⟨_, rfl, hR⟩⟩)
end Go.Proofs.YtahkeoegbjopfaaGreat
/-
  Bytes made. No function of the program is named here.
-/
namespace Go.Proofs.YtahkeoegbjopfaaGreat
set_option maxRecDepth 100000
open Go.RowKit
theorem own_max {w : World} {lo hi c : Nat} {A : Option Addr} {l : List UInt8} (h : OwnH w lo hi A c l) : c ≤ maxLen := by
  have h1 : w.ownsRow lo 5 1 (.slice A l.length c) l.length (B8 l) := h.o
  rcases h1.2 with ⟨hv, _⟩ | ⟨g, cap, cur, hv, _, _, _, hm, _⟩
  · injection hv with _ _ e; subst e; simp only [maxLen]; omega
  · injection hv with _ _ e
    subst e; exact hm
section
variable {fn : Func} {F : Ending → World → Prop} {N : Nat} {ks : List K} {ops : Array Oper} {tg : Tags} {l : List Oper} {fr : Fr} {w : World} {ty : TypeId} {pos : String} {aft : Array Edge} {gd : Option (Nat × Bool)} {d : Nat} {x y : Operand}
--@ rule makeSlice l wl_mkBz
theorem wl_mkBz {k1 k2 : IntKind} {C E : Int} {Z : List UInt8} (n : Nat) (hx : fr.ev x = some (.int k1 E)) (hy : fr.ev y = some (.int k2 C)) (hE : E = (n : Int)) (hC : C = (n : Int)) (hn : n ≤ 4000000000) (hZ : List.replicate n 0 = Z)
    (hk : ∀ A w', OwnH w' w.heap.size w'.heap.size A n Z → Below w.heap.size w w' → WL Tryz.prog fn F N ks ops tg.tail l ((d, .slice A n n) :: fr) w')
    (ht : tg.loud = true := by rfl) (hg : onG ops fr gd = true := by rfl) (hd : Nat.blt d N = true := by rfl) : WL Tryz.prog fn F N ks ops tg (⟨some d, .makeSlice 39 x y, ty, pos, aft, gd⟩ :: l) fr w := by
  subst hC; subst hE; subst hZ
  obtain ⟨i, hi, hz, hs, hb⟩ := info_parts Tryz.u8.hi
  obtain ⟨w', hrun, r1, r2⟩ := run_make_full (P := Tryz.prog) w w.heap.size 39 5 i _ 1 Tryz.u8.ht hi hz hs k1 k2 n (by rw [hb]; omega) (by simp only [maxLen]; omega) (Nat.le_refl _)
  have hbl : Below w.heap.size w w' := (Below.refl _ _).grown r2 (Nat.le_refl _) (by simp)
  have e : (madeCells (Value.int .u8 0).cells (n * 1)).toList = B8 (List.replicate n 0) := by
    rw [Nat.mul_one]; exact (toList_madeCells_one _ _).trans (by simp [B8])
  rw [e] at r1
  have ho : Own w' w.heap.size (some ⟨w.heap.size, 0, none⟩) n (List.replicate n 0) := by
    unfold Own; rw [List.length_replicate]; exact r1
  exact wl_v (fun a ha o ho _ => by simp [execOp, ho, ha.ev hx, ha.ev hy, hrun]) (hk _ w' ho.h_ hbl) ht hg hd (.inr (grown_of_below hbl _))
--@ rule makeSlice l wl_mkB
theorem wl_mkB {k1 k2 : IntKind} {C : Int} (n : Nat) (hx : fr.ev x = some (.int k1 0)) (hy : fr.ev y = some (.int k2 C)) (hC : C = (n : Int)) (hn : n ≤ 281474976710656)
    (hk : ∀ A w', OwnH w' w.heap.size w'.heap.size A n [] → Below w.heap.size w w' → WL Tryz.prog fn F N ks ops tg.tail l ((d, .slice A 0 n) :: fr) w')
    (ht : tg.loud = true := by rfl) (hg : onG ops fr gd = true := by rfl) (hd : Nat.blt d N = true := by rfl) : WL Tryz.prog fn F N ks ops tg (⟨some d, .makeSlice 39 x y, ty, pos, aft, gd⟩ :: l) fr w :=
  wl_make0 Tryz.u8 hx hy hC hn (fun w' h1 h2 _ => hk _ w' h1.h_ h2) ht hg hd
end
end Go.Proofs.YtahkeoegbjopfaaGreat
