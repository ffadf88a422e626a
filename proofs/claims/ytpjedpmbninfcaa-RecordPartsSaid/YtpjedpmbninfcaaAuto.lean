/-
  Rules in the form that the recorder's search applies: new blocks have names, rows of the call's own have bounds. No function of the program is named here.
-/
import Derived.Test.YtpjedpmbninfcaaRow
namespace Go.Proofs.Ytpjedpmbninfcaa
open Go.RowKit

theorem drew_size (w : World) : w.drew.heap.size = w.heap.size := rfl

theorem oneCell_of {vs : List Value} (h : vs.all (fun v => v.oneCell') = true) : ∀ v ∈ vs, v.oneCell' = true := List.all_eq_true.1 h

/-! Frames that go on from a frame that was there. -/
def Fr.le (fr0 fr : Fr) : Prop := ∀ t v, fr0.get t = some v → fr.get t = some v
theorem Rep.le {N : Nat} {a : Act} {fr fr0 : Fr} (h : Rep N a fr) (hl : Fr.le fr0 fr) : Rep N a fr0 := ⟨h.size, h.defers, fun t v hv => h.get t v (hl t v hv)⟩
theorem Fr.get_of_sub {fr : Fr} : ∀ {c : Fr}, Fr.sub c fr → ∀ t v, c.get t = some v → fr.get t = some v
  | [], _, t, v, h => by cases h
  | (k, u) :: r, hs, t, v, h => by
    rw [Fr.get_cons] at h
    by_cases e : k = t
    · subst e
      rw [if_pos rfl] at h
      injection h with h
      subst h
      exact hs.1
    · rw [if_neg e] at h
      exact Fr.get_of_sub hs.2 t v h
theorem Fr.le_of_sub {c fr : Fr} (h : Fr.sub c fr) : Fr.le c fr := Fr.get_of_sub h
def inN (t : Nat) : List Nat → Bool
  | [] => false
  | k :: l => bif Nat.beq k t then true else inN t l
theorem Fr.get_append (c fb : Fr) (t : Nat) : (c ++ fb).get t = match c.get t with
    | some v => some v
    | none => fb.get t := by
  induction c with
  | nil => rfl
  | cons p c ih =>
    obtain ⟨k, u⟩ := p
    rw [List.cons_append, Fr.get_cons, Fr.get_cons]
    by_cases e : k = t
    · rw [if_pos e, if_pos e]
    · rw [if_neg e, if_neg e, ih]
theorem Fr.get_none_iff (c : Fr) (t : Nat) : c.get t = none ↔ inN t (c.map Prod.fst) = false := by
  induction c with
  | nil => simp [Fr.get, inN]
  | cons p c ih =>
    obtain ⟨k, u⟩ := p
    show (bif Nat.beq k t then some u else Fr.get c t) = none ↔ (bif Nat.beq k t then true else inN t (c.map Prod.fst)) = false
    cases Nat.beq k t with
    | true => simp
    | false => simpa using ih
def okSlots (c fb : List Nat) : List Nat → Bool
  | [] => true
  | t :: l => (inN t c || !inN t fb) && okSlots c fb l
theorem okSlots_spec {c fb : List Nat} : ∀ {l : List Nat}, okSlots c fb l = true → ∀ t, inN t l = true → inN t c = true ∨ inN t fb = false
  | [], _, t, h => by cases h
  | k :: l, hk, t, h => by
    unfold okSlots at hk
    simp only [Bool.and_eq_true, Bool.or_eq_true, Bool.not_eq_true'] at hk
    have h' : (bif Nat.beq k t then true else inN t l) = true := h
    cases hb : Nat.beq k t with
    | true => rw [← Nat.eq_of_beq_eq_true hb]; exact hk.1
    | false => rw [hb] at h'; exact okSlots_spec hk.2 t h'
theorem Fr.le_of {c fb fr : Fr} (hb : fr.drop (fr.length - fb.length) = fb) (hs : okSlots (c.map Prod.fst) (fb.map Prod.fst) ((fr.take (fr.length - fb.length)).map Prod.fst) = true) (hc : Fr.sub c fr) : Fr.le (c ++ fb) fr := fun t v h => by
  rw [Fr.get_append] at h
  cases hct : c.get t with
  | some u =>
    rw [hct] at h
    have h' : some u = some v := h
    rw [← h']
    exact Fr.get_of_sub hc t u hct
  | none =>
    rw [hct] at h
    have h' : fb.get t = some v := h
    rw [← List.take_append_drop (fr.length - fb.length) fr, hb, Fr.get_append]
    cases hp : Fr.get (fr.take (fr.length - fb.length)) t with
    | none => exact h'
    | some u =>
      exfalso
      have h1 : inN t ((fr.take (fr.length - fb.length)).map Prod.fst) = true := by
        cases hi : inN t ((fr.take (fr.length - fb.length)).map Prod.fst) with
        | true => rfl
        | false => rw [(Fr.get_none_iff _ t).2 hi] at hp; cases hp
      rcases okSlots_spec hs t h1 with h2 | h2
      · rw [(Fr.get_none_iff c t).1 hct] at h2; cases h2
      · rw [(Fr.get_none_iff fb t).2 h2] at h'; cases h'
section
variable {P : Program} {fn : Func} {F : Ending → World → Prop} {N : Nat} {ks : List K} {k : K} {ops : Array Oper} {l : List Oper} {fr : Fr} {w : World} {tg : Tags}
theorem RK.le {fr' : Fr} (hs : Fr.le fr' fr) (h : RK P fn F N ks fr' w) : RK P fn F N ks fr w := fun a ha => h a (ha.le hs)
/-- A loop: Inv says what holds at its head (its first word is the frame ahead of it); its number goes down. -/
theorem rk_loopf {c : Code} (Inv : Fr → Nat → Fr → World → Prop) {n : Nat} {fr0 : Fr} (hs : Fr.le fr0 fr) (h0 : Inv fr n fr0 w)
    (round : ∀ n fr' w, Inv fr n fr' w → RK P fn F N (.code c :: .inv (fun a w' => ∃ m fr', m < n ∧ Rep N a fr' ∧ Inv fr m fr' w') :: ks) fr' w) : RK P fn F N (.code (.loop c) :: ks) fr w := by
  intro a ha b k cs
  have key : ∀ n fr' a w, Rep N a fr' → Inv fr n fr' w →
      ∃ e a' w', kpost P fn F ks e a' w' ∧ Arrives P (lone (b.at a (.code c :: .inLoop c :: k)) cs w) b k cs e a' w' := by
    intro n
    induction n using Nat.strongRecOn with
    | _ n ih =>
      intro fr' a w hr hI
      obtain ⟨e, a₁, w₁, hq, harr⟩ := round n fr' w hI a hr b (.inLoop c :: k) cs
      cases e with
      | normal =>
        obtain ⟨m, fr'', hlt, hr', hI₁⟩ := hq
        obtain ⟨e₂, a₂, w₂, hq₂, harr₂⟩ := ih m hlt fr'' a₁ w₁ hr' hI₁
        exact ⟨e₂, a₂, w₂, hq₂, .of_steps (Steps.trans harr (.one step_inLoop)) harr₂⟩
      | exit id => exact ⟨_, a₁, w₁, hq, .pass (x := .inLoop c) rfl (fun _ _ => .inl (by simp)) harr⟩
      | goto l => exact ⟨_, a₁, w₁, hq, .pass (x := .inLoop c) rfl (fun _ _ => .inl (by simp)) harr⟩
      | ret => exact ⟨_, a₁, w₁, hq, .pass (x := .inLoop c) rfl (fun _ _ => .inl (by simp)) harr⟩
      | panic ch => exact ⟨_, a₁, w₁, hq, .pass (x := .inLoop c) rfl (fun _ _ => .inl (by simp)) harr⟩
      | outgrown => exact ⟨_, a₁, w₁, hq, .pass (x := .inLoop c) rfl (fun _ _ => .inl (by simp)) harr⟩
  obtain ⟨e, a', w', hq, harr⟩ := key n fr0 a w (ha.le hs) h0
  exact ⟨e, a', w', hq, .of_steps (.one step_loop) harr⟩
theorem rk_againf {Inv : Nat → Fr → World → Prop} {n m : Nat} {fr0 : Fr} (hs : Fr.le fr0 fr) (h : Inv m fr0 w) (hlt : m < n) :
    RK P fn F N (.inv (fun a w' => ∃ m fr', m < n ∧ Rep N a fr' ∧ Inv m fr' w') :: ks) fr w := fun _ ha => ⟨m, fr0, hlt, ha.le hs, h⟩
theorem rk_joinf {id : Nat} (R : Fr → Fr → World → Prop) (h2 : ∀ fr' w, R fr fr' w → RK P fn F N ks fr' w) (h1 : ∀ ks, (∀ fr' w, R fr fr' w → RK P fn F N ks fr' w) → RK P fn F N (k :: .blk id :: ks) fr w) : RK P fn F N (k :: .blk id :: ks) fr w := h1 ks h2
/-- The same where a way may leave by what lies beneath. -/
theorem rk_joincf (R : Fr → Fr → World → Prop) (h2 : ∀ fr' w, R fr fr' w → RK P fn F N ks fr' w) (h1 : (∀ fr' w, R fr fr' w → RK P fn F N ks fr' w) → RK P fn F N (k :: ks) fr w) : RK P fn F N (k :: ks) fr w := h1 h2
theorem rk_tof {R : Fr → World → Prop} (hj : ∀ fr w, R fr w → RK P fn F N ks fr w) {fr0 : Fr} (hs : Fr.le fr0 fr) (h : R fr0 w) : RK P fn F N ks fr w := (hj fr0 w h).le hs
theorem wl_tof {R : Fr → World → Prop} (hj : ∀ fr w, R fr w → WL P fn F N ks ops tg l fr w) {fr0 : Fr} (hs : Fr.le fr0 fr) (h : R fr0 w) : WL P fn F N ks ops tg l fr w := fun a ha => hj fr0 w h a (ha.le hs)
theorem rk_frame {c fb fr' : Fr} (e : c ++ fb = fr') (h : RK P fn F N ks fr' w) : RK P fn F N ks (c ++ fb) w := e ▸ h
theorem wl_frame {c fb fr' : Fr} (e : c ++ fb = fr') (h : WL P fn F N ks ops tg l fr' w) : WL P fn F N ks ops tg l (c ++ fb) w := e ▸ h
/-- Within a region: all ways through the next n operations come to a state of R. -/
theorem wl_joinf (n : Nat) (R : Fr → Fr → World → Prop) (h2 : ∀ fr' w, R fr fr' w → WL P fn F N ks ops (Tags.tails n tg) (l.drop n) fr' w) (h1 : (∀ fr' w, R fr fr' w → WL P fn F N ks ops (Tags.tails n tg) (l.drop n) fr' w) → WL P fn F N ks ops tg l fr w) : WL P fn F N ks ops tg l fr w := h1 h2
theorem wl_forkf {row : Rw} {m L C n k1 k2 : Nat} {ops : List Oper} (R : Fr → Fr → World → Prop) (D A : List Nat) (ord1 ord2 ordR : List Nat) (ts1 ts2 tsR : List (Tag × Nat)) (hD : ops.map (dmask .any) = D) (hA : ancs .any ops [] = A)
    (hc : (Nat.testBit L k1 && (Nat.testBit L k2 && (rdyK D m k1 && (rdyK D m k2 && (Go.Proofs.Ytpjedpmbninfcaa.only2 m k1 k2 D 0 && (Nat.beq n ((inOrder ops ord1).length + extra ts1) && (Nat.beq n ((inOrder ops ord2).length + extra ts2) && (chk ops.toArray ops D A L C ts1 (m ||| 2 ^ k1) && chk ops.toArray ops D A L C ts2 (m ||| 2 ^ k2))))))))) = true)
    (hl1 : (inOrder ops ord1).map some = ops.toArray[k1]? :: opsOf ops.toArray ts1) (hl2 : (inOrder ops ord2).map some = ops.toArray[k2]? :: opsOf ops.toArray ts2)
    (h0 : ∀ fr' w, R fr fr' w → WL P fn F N ks ops.toArray (some (row, tsR)) (inOrder ops ordR) fr' w)
    (h1 : (∀ fr' w, R fr fr' w → WL P fn F N ks ops.toArray (some (row, tsR)) (inOrder ops ordR) fr' w) → WL P fn F N ks ops.toArray (some (row, (.g m L C, k1) :: ts1)) (inOrder ops ord1) fr w)
    (h2 : (∀ fr' w, R fr fr' w → WL P fn F N ks ops.toArray (some (row, tsR)) (inOrder ops ordR) fr' w) → WL P fn F N ks ops.toArray (some (row, (.g m L C, k2) :: ts2)) (inOrder ops ord2) fr w) : WL P fn F N ks ops.toArray (some (row, [(.f m L C, n)])) [] fr w :=
  wl_fork2j (R fr) D A ord1 ord2 ordR ts1 ts2 tsR hD hA hc hl1 hl2 h0 h1 h2
end

/-! Which blocks a change may touch. -/
def Ap (row : Option Nat) (lo hi : Nat) : Prop := ∀ k, row = some k → k < lo ∨ hi ≤ k
theorem ap_some {g lo hi : Nat} (h : g < lo ∨ hi ≤ g) : Ap (some g) lo hi := fun k e => by injection e with e; omega
theorem ap_none {lo hi : Nat} : Ap none lo hi := fun k e => by cases e
/-- The block k is a row of elements of type e. -/
def TyAt (w : World) (k : Nat) (e : TypeId) : Prop := ∃ cs f, w.heap[k]? = some (.cells cs e f)
/-- No more than one row has changed, of elements of type e. -/
structure Grew (w w' : World) (e : TypeId) (row : Option Nat) : Prop where
  g : w.grownBy w' row
  ty : ∀ k, row = some k → TyAt w k e
theorem Grew.size {w w' : World} {e : TypeId} {row : Option Nat} (h : Grew w w' e row) : w.heap.size ≤ w'.heap.size := h.g.size
theorem Grew.below {w w' : World} {e : TypeId} {row : Option Nat} (h : Grew w w' e row) {B : Nat} (hB : B ≤ w.heap.size) (ha : ∀ k, row = some k → B ≤ k) : Below B w w' :=
  ⟨h.g.os, h.g.tape, h.g.output, h.g.size, fun k hk => h.g.block k (by omega) (fun e => by have := ha k e.symm; omega)⟩

/-- No more than the map b has changed. -/
structure GrewM (w w' : World) (b : Nat) : Prop where
  g : w.grownBy w' (some b)
  m : ∃ es c, w.heap[b]? = some (.map es c)
theorem GrewM.size {w w' : World} {b : Nat} (h : GrewM w w' b) : w.heap.size ≤ w'.heap.size := h.g.size

section
variable {w w' : World} {g : Nat} {t e : TypeId} {cs : List Value} {row : Option Nat}
theorem Blk.m {b : Nat} (h : Blk w g t cs) (hg : GrewM w w' b) : Blk w' g t cs := h.grown hg.g (fun e => by
  injection e with e
  subst e
  obtain ⟨_, _, h'⟩ := hg.m
  unfold Blk at h
  rw [h] at h'
  cases h')
theorem Blk.u (h : Blk w g t cs) (hb : Below w.heap.size w w') : Blk w' g t cs := h.under hb
theorem Blk.d (h : Blk w g t cs) : Blk w.drew g t cs := h
theorem Blk.k (h : Blk w g t cs) (hg : w.grownBy w' row) (ha : Ap row g (g + 1)) : Blk w' g t cs := h.grown hg (fun e => by have := ha g e.symm; omega)
theorem Blk.y (h : Blk w g t cs) (hg : Grew w w' e row) (hne : e ≠ t) : Blk w' g t cs := h.grown hg.g (fun e' => by
  obtain ⟨cs', f, h'⟩ := hg.ty g e'.symm
  unfold Blk at h
  rw [h] at h'
  injection h' with h'
  injection h' with _ h'
  exact hne h'.symm)
theorem Blk.at_ (h : Blk w g t cs) : TyAt w g t := ⟨_, _, h⟩
theorem Blk.grew_set (h : Blk w g t cs) (i : Nat) (u : Value) : Grew w (w.setCell ⟨g, i, none⟩ u) t (some g) := ⟨grownBy_setCell w g i u, fun k e => by injection e with e; subst e; exact h.at_⟩
end

section
variable {w w' : World} {sz n lo hi c : Nat} {e e' : TypeId} {A : Option Addr} {xs : List Value} {l : List UInt8} {row : Option Nat}
theorem Reads.u (h : Reads w sz A n xs) (hb : Below w.heap.size w w') : Reads w' sz A n xs := h.below hb
theorem Reads.d (h : Reads w sz A n xs) : Reads w.drew sz A n xs := h
theorem Rd.u (h : Rd w A l) (hb : Below w.heap.size w w') : Rd w' A l := h.below hb
theorem Rd.d (h : Rd w A l) : Rd w.drew A l := h
theorem Rd.to_Reads (h : Rd w A l) : Reads w 1 A l.length (B8 l) := h
theorem Rd.nil_ : Rd w none [] := Rd.nil w none
/-- A row of the call's own, in the blocks from lo to hi. -/
structure RowH (w : World) (lo hi : Nat) (e : TypeId) (sz : Nat) (A : Option Addr) (n c : Nat) (xs : List Value) : Prop where
  o : w.ownsRow lo e sz (.slice A n c) n xs
  hi : ∀ k, blk A = some k → k < hi
theorem RowH.lt (h : RowH w lo hi e sz A n c xs) : ∀ k, blk A = some k → lo ≤ k ∧ k < w.heap.size := fun k hk => World.ownsRow.lt h.o k (by rw [blk_own]; exact hk)
theorem RowH.u (h : RowH w lo hi e sz A n c xs) (hb : Below w.heap.size w w') : RowH w' lo hi e sz A n c xs :=
  ⟨World.ownsRow.kept h.o (row := none) ⟨hb.os, hb.tape, hb.output, hb.size, fun k hk _ => hb.block k hk⟩ (by rw [blk_own]; cases blk A <;> simp), h.hi⟩
theorem RowH.d (h : RowH w lo hi e sz A n c xs) : RowH w.drew lo hi e sz A n c xs := ⟨World.ownsRow.drew h.o, h.hi⟩
theorem RowH.k (h : RowH w lo hi e sz A n c xs) (hg : w.grownBy w' row) (ha : Ap row lo hi) : RowH w' lo hi e sz A n c xs :=
  ⟨World.ownsRow.kept h.o hg (by
    rw [blk_own]
    cases hA : blk A with
    | none => exact .inl rfl
    | some k => exact .inr fun e => by have := h.hi k hA; have := h.lt k hA; have := ha k e.symm; omega), h.hi⟩
theorem RowH.ty (h : RowH w lo hi e sz A n c xs) : ∀ k, blk A = some k → TyAt w k e := fun k hk => by
  rcases h.o.2 with ⟨hv, _⟩ | ⟨g', cap, cur, hv, _, hh, _⟩
  · injection hv with hv; subst hv; cases hk
  · injection hv with hv; subst hv
    have : g' = k := by simpa [blk] using hk
    subst this
    exact ⟨_, _, hh⟩
theorem RowH.y (h : RowH w lo hi e sz A n c xs) (hg : Grew w w' e' row) (hne : e' ≠ e) : RowH w' lo hi e sz A n c xs :=
  ⟨World.ownsRow.kept h.o hg.g (by
    rw [blk_own]
    cases hA : blk A with
    | none => exact .inl rfl
    | some k =>
      refine .inr (fun ek => ?_)
      obtain ⟨_, _, h1⟩ := h.ty k hA
      obtain ⟨_, _, h2⟩ := hg.ty k ek.symm
      rw [h1] at h2
      injection h2 with h2
      injection h2 with _ h2
      exact hne h2.symm), h.hi⟩
theorem RowH.m {b : Nat} (h : RowH w lo hi e sz A n c xs) (hg : GrewM w w' b) : RowH w' lo hi e sz A n c xs :=
  ⟨World.ownsRow.kept h.o hg.g (by
    rw [blk_own]
    cases hA : blk A with
    | none => exact .inl rfl
    | some k =>
      refine .inr (fun ek => ?_)
      obtain ⟨_, _, h1⟩ := h.ty k hA
      obtain ⟨_, _, h2⟩ := hg.m
      injection ek with ek
      subst ek
      rw [h1] at h2
      cases h2), h.hi⟩
theorem RowH.ap (h : RowH w lo hi e sz A n c xs) {lo' hi' : Nat} (hd : hi ≤ lo' ∨ hi' ≤ lo) : Ap (blk A) lo' hi' := fun k hk => by have := h.hi k hk; have := h.lt k hk; omega
theorem RowH.rd (h : RowH w lo hi e sz A n c xs) : Reads w sz A n xs := Reads.of_own h.o
theorem RowH.cap (h : RowH w lo hi e sz A n c xs) : n ≤ c := by
  rcases h.o.2 with ⟨h1, h2⟩ | ⟨g, cap, cur, h2, h3, h4, h5, _⟩
  · injection h1 with _ _ h3; omega
  · injection h2 with _ _ h6; omega
theorem RowH.base (h : RowH w lo hi e sz A n c xs) {lo' hi' : Nat} (h1 : lo' ≤ lo) (h2 : hi ≤ hi') : RowH w lo' hi' e sz A n c xs :=
  ⟨⟨h.o.1, by
    rcases h.o.2 with h3 | ⟨g, cap, cur, h3, h4, h5⟩
    · exact .inl h3
    · exact .inr ⟨g, cap, cur, h3, by omega, h5⟩⟩, fun k hk => by have := h.hi k hk; omega⟩
theorem RowH.nil (w : World) (lo hi : Nat) (e : TypeId) (sz : Nat) : RowH w lo hi e sz none 0 0 [] := ⟨World.ownsRow_nil _ _ _ _, fun k hk => by cases hk⟩

/-- Bytes of the call's own, in the blocks from lo to hi. -/
def OwnH (w : World) (lo hi : Nat) (A : Option Addr) (c : Nat) (l : List UInt8) : Prop := RowH w lo hi 5 1 A l.length c (B8 l)
theorem OwnH.u (h : OwnH w lo hi A c l) (hb : Below w.heap.size w w') : OwnH w' lo hi A c l := RowH.u h hb
theorem OwnH.d (h : OwnH w lo hi A c l) : OwnH w.drew lo hi A c l := RowH.d h
theorem OwnH.k (h : OwnH w lo hi A c l) (hg : w.grownBy w' row) (ha : Ap row lo hi) : OwnH w' lo hi A c l := RowH.k h hg ha
theorem OwnH.y (h : OwnH w lo hi A c l) (hg : Grew w w' e' row) (hne : e' ≠ 5) : OwnH w' lo hi A c l := RowH.y h hg hne
theorem OwnH.m {b : Nat} (h : OwnH w lo hi A c l) (hg : GrewM w w' b) : OwnH w' lo hi A c l := RowH.m h hg
theorem OwnH.ap (h : OwnH w lo hi A c l) {lo' hi' : Nat} (hd : hi ≤ lo' ∨ hi' ≤ lo) : Ap (blk A) lo' hi' := RowH.ap h hd
theorem OwnH.cap (h : OwnH w lo hi A c l) : l.length ≤ c := RowH.cap h
theorem OwnH.to_Rd (h : OwnH w lo hi A c l) : Rd w A l := RowH.rd h
theorem OwnH.to_Reads (h : OwnH w lo hi A c l) : Reads w 1 A l.length (B8 l) := RowH.rd h
theorem OwnH.to_Own (h : OwnH w lo hi A c l) : Own w lo A c l := h.o
theorem OwnH.base (h : OwnH w lo hi A c l) {lo' hi' : Nat} (h1 : lo' ≤ lo) (h2 : hi ≤ hi') : OwnH w lo' hi' A c l := RowH.base h h1 h2
theorem OwnH.nil_ : OwnH w lo hi none 0 [] := RowH.nil _ _ _ _ _
theorem Own.h_ (h : Own w lo A c l) : OwnH w lo w.heap.size A c l := ⟨h, fun k hk => (Own.lt h k hk).2⟩
end

section
variable {P : Program} {fn : Func} {F : Ending → World → Prop} {N : Nat} {ks : List K} {ops : Array Oper} {tg : Tags} {l : List Oper} {fr : Fr} {w : World} {ty t t' t2 e : TypeId} {z v : Value} {sz bytes : Nat} {pos pos2 : String} {aft aft2 : Array Edge} {gd gd2 : Option (Nat × Bool)} {d g i n : Nat} {x y k : Operand} {cs : List Value} {ty2 : TypeId}

/-! New blocks. -/
--@ rule alloc l wl_allocst1
--@ rule alloc l wl_allocstn
--@ rule alloc l wl_allocg
--@ rule box l wl_boxg
theorem wl_allocg (zs : List Value) (hz : ∀ w, (zeroValue e).run P w = .ok z w) (hzs : z.cells = zs.toArray)
    (hk : ∀ g w', Blk w' g e zs → Below w.heap.size w w' → w.heap.size ≤ g → g < w'.heap.size → WL P fn F N ks ops tg.tail l ((d, .pointer (some ⟨g, 0, none⟩)) :: fr) w')
    (ht : tg.loud = true := by rfl) (hg : onG ops fr gd = true := by rfl) (hd : Nat.blt d N = true := by rfl) : WL P fn F N ks ops tg (⟨some d, .alloc e, ty, pos, aft, gd⟩ :: l) fr w :=
  wl_alloc zs hz hzs (fun w' h1 h2 h3 => hk _ w' h1 h2 (Nat.le_refl _) (by omega)) ht hg hd
theorem wl_boxg (vs : List Value) (hx : fr.ev x = some v) (hvs : v.cells = vs.toArray)
    (hk : ∀ g w', Blk w' g e vs → Below w.heap.size w w' → w.heap.size ≤ g → g < w'.heap.size → WL P fn F N ks ops tg.tail l ((d, .pointer (some ⟨g, 0, none⟩)) :: fr) w')
    (ht : tg.loud = true := by rfl) (hg : onG ops fr gd = true := by rfl) (hd : Nat.blt d N = true := by rfl) : WL P fn F N ks ops tg (⟨some d, .box e x, ty, pos, aft, gd⟩ :: l) fr w :=
  wl_box vs hx hvs (fun w' h1 h2 h3 => hk _ w' h1 h2 (Nat.le_refl _) (by omega)) ht hg hd
/-- A new variable, and its first value at once. -/
theorem wl_allocst1 (hz : ∀ w, (zeroValue e).run P w = .ok z w) (zs : List Value) (hzs : z.cells = zs.toArray) (hzl : zs.length = 1) (hs : ∀ w, (sizeOf t).run P w = .ok 1 w) (hy : ∀ u, Fr.ev ((d, u) :: fr) y = some v) (h1 : v.oneCell' = true)
    (hk : ∀ g w', Blk w' g e [v] → Below w.heap.size w w' → w.heap.size ≤ g → g < w'.heap.size → WL P fn F N ks ops tg.tail.tail l ((d, .pointer (some ⟨g, 0, none⟩)) :: fr) w')
    (ht : tg.loud = true := by rfl) (ht2 : tg.tail.loud = true := by rfl) (hg : onG ops fr gd = true := by rfl) (hg2 : ∀ u, onG ops ((d, u) :: fr) gd2 = true := by intro _; rfl) (hd : Nat.blt d N = true := by rfl) (hq : tg.tail.calm = false := by rfl) :
    WL P fn F N ks ops tg (⟨some d, .alloc e, ty, pos, aft, gd⟩ :: ⟨none, .store t (.tmp d) y, ty2, pos2, aft2, gd2⟩ :: l) fr w :=
  wl_alloc zs hz hzs (fun w1 hB hb hz1 => wl_store1 (i := 0) hs (show Fr.ev ((d, .pointer (some ⟨w.heap.size, 0, none⟩)) :: fr) (.tmp d) = _ by simp [Fr.ev, Fr.get]) (hy _) h1 hB (by omega) (fun w2 hB2 hg2' hz2 => hk w.heap.size w2
    (by rcases zs with _ | ⟨a, _ | ⟨b, r⟩⟩ <;> first | (simp at hzl; done) | exact hB2) (hb.trans (below_of_grownBy hg2' (by omega) (Nat.le_refl _))) (Nat.le_refl _) (by omega)) ht2 (hg2 _) (.inl hq)) ht hg hd
theorem wl_allocstn (hz : ∀ w, (zeroValue e).run P w = .ok z w) (zs vs : List Value) (hzs : z.cells = zs.toArray) (hs : ∀ w, (sizeOf t).run P w = .ok n w) (hy : ∀ u, Fr.ev ((d, u) :: fr) y = some (.agg vs.toArray)) (hzl : zs.length = n) (hn : vs.length = n) (h1 : ∀ v ∈ vs, v.oneCell' = true)
    (hk : ∀ g w', Blk w' g e vs → Below w.heap.size w w' → w.heap.size ≤ g → g < w'.heap.size → WL P fn F N ks ops tg.tail.tail l ((d, .pointer (some ⟨g, 0, none⟩)) :: fr) w')
    (ht : tg.loud = true := by rfl) (ht2 : tg.tail.loud = true := by rfl) (hg : onG ops fr gd = true := by rfl) (hg2 : ∀ u, onG ops ((d, u) :: fr) gd2 = true := by intro _; rfl) (hd : Nat.blt d N = true := by rfl) (hq : tg.tail.calm = false := by rfl) :
    WL P fn F N ks ops tg (⟨some d, .alloc e, ty, pos, aft, gd⟩ :: ⟨none, .store t (.tmp d) y, ty2, pos2, aft2, gd2⟩ :: l) fr w :=
  wl_alloc zs hz hzs (fun w1 hB hb hz1 => wl_store_all hs (show Fr.ev ((d, .pointer (some ⟨w.heap.size, 0, none⟩)) :: fr) (.tmp d) = _ by simp [Fr.ev, Fr.get]) (hy _) hn h1 hB hzl (fun w2 hB2 hg2' hz2 => hk w.heap.size w2
    hB2 (hb.trans (below_of_grownBy hg2' (by omega) (Nat.le_refl _))) (Nat.le_refl _) (by omega)) ht2 (hg2 _) (.inl hq)) ht hg hd

/-! Stores into blocks of the call's own. -/
--@ rule store l wl_storeg1
--@ rule store l wl_storega
--@ rule store l wl_storegn
theorem wl_storeg1 (hs : ∀ w, (sizeOf t).run P w = .ok 1 w) (hx : fr.ev x = some (.pointer (some ⟨g, i, none⟩))) (hy : fr.ev y = some v) (h1 : v.oneCell' = true) (hB : Blk w g t' cs) (hi : i < cs.length)
    (hk : ∀ w', Blk w' g t' (cs.set i v) → Grew w w' t' (some g) → w'.heap.size = w.heap.size → WL P fn F N ks ops tg.tail l fr w') (ht : tg.loud = true := by rfl) (hg : onG ops fr gd = true := by rfl) (hq : tg.calm = false ∨ tg.rw.may (some g) := by exact .inl rfl) :
    WL P fn F N ks ops tg (⟨none, .store t x y, ty, pos, aft, gd⟩ :: l) fr w :=
  wl_store1 hs hx hy h1 hB hi (fun w' h1 h2 h3 => hk w' h1 ⟨h2, fun k e => by injection e with e; subst e; exact hB.at_⟩ h3) ht hg hq
theorem wl_storega {vs : List Value} (hs : ∀ w, (sizeOf t).run P w = .ok n w) (hx : fr.ev x = some (.pointer (some ⟨g, 0, none⟩))) (hy : fr.ev y = some (.agg vs.toArray)) (hn : vs.length = n) (h1 : ∀ v ∈ vs, v.oneCell' = true) (hB : Blk w g t' cs) (hi : cs.length = n)
    (hk : ∀ w', Blk w' g t' vs → Grew w w' t' (some g) → w'.heap.size = w.heap.size → WL P fn F N ks ops tg.tail l fr w') (ht : tg.loud = true := by rfl) (hg : onG ops fr gd = true := by rfl) (hq : tg.calm = false ∨ tg.rw.may (some g) := by exact .inl rfl) :
    WL P fn F N ks ops tg (⟨none, .store t x y, ty, pos, aft, gd⟩ :: l) fr w :=
  wl_store_all hs hx hy hn h1 hB hi (fun w' h1 h2 h3 => hk w' h1 ⟨h2, fun k e => by injection e with e; subst e; exact hB.at_⟩ h3) ht hg hq
theorem wl_storegn {vs : List Value} (hs : ∀ w, (sizeOf t).run P w = .ok n w) (hx : fr.ev x = some (.pointer (some ⟨g, i, none⟩))) (hy : fr.ev y = some (.agg vs.toArray)) (hn : vs.length = n) (h1 : ∀ v ∈ vs, v.oneCell' = true) (hB : Blk w g t' cs) (hi : i + n ≤ cs.length)
    (hk : ∀ w', Blk w' g t' (spl cs i vs) → Grew w w' t' (some g) → w'.heap.size = w.heap.size → WL P fn F N ks ops tg.tail l fr w') (ht : tg.loud = true := by rfl) (hg : onG ops fr gd = true := by rfl) (hq : tg.calm = false ∨ tg.rw.may (some g) := by exact .inl rfl) :
    WL P fn F N ks ops tg (⟨none, .store t x y, ty, pos, aft, gd⟩ :: l) fr w :=
  wl_storen hs hx hy hn h1 hB hi (fun w' h1 h2 h3 => hk w' h1 ⟨h2, fun k e => by injection e with e; subst e; exact hB.at_⟩ h3) ht hg hq

/-! Loads out of blocks. -/
--@ rule load r o_loadbg
--@ rule load r o_loadag
theorem o_loadbg (ha' : ∀ w, (isAgg t).run P w = .ok false w) (hx : fr.ev x = some (.pointer (some ⟨g, i, none⟩))) (hB : Blk w g t' cs) (hi : cs[i]? = some v) : OpV P N fr w (.load t x) ty v w := o_loadb ha' hx hB hi
theorem o_loadag (ha' : ∀ w, (isAgg t).run P w = .ok true w) (hs : ∀ w, (sizeOf t).run P w = .ok n w) (hx : fr.ev x = some (.pointer (some ⟨g, 0, none⟩))) (hB : Blk w g t' cs) (hn : cs.length = n) : OpV P N fr w (.load t x) ty (.agg cs.toArray) w := o_load_all ha' hs hx hB hn

/-! Elements of slices: addresses. -/
def adr (A : Option Addr) (k : Nat) : Addr := (A.getD ⟨0, 0, none⟩).add k
theorem adr_add (A : Option Addr) (i j : Nat) : (adr A i).add j = adr A (i + j) := add_of_add _ _ _
theorem Reads.adr_ {A : Option Addr} {xs : List Value} {n : Nat} (h : Reads w sz A n xs) (hne : xs ≠ []) : A = some (A.getD ⟨0, 0, none⟩) ∧ ∀ j u, xs[j]? = some u → w.cell? (adr A j) = some u := by
  obtain ⟨b, o, rfl, hc⟩ := h.2 hne
  exact ⟨rfl, fun j u hu => by simp only [adr, Option.getD_some, add_plain]; exact hc j u hu⟩
section
variable {A : Option Addr} {len cap : Nat} {ik : IntKind} {m : Int} {xs : List Value} {w0 : World}
theorem Reads.some_ (hr : Reads w0 sz A len xs) (h0 : 0 < sz) (hj : 0 < len) : A = some (A.getD ⟨0, 0, none⟩) := by
  refine (hr.adr_ (fun e => ?_)).1
  have := hr.1
  rw [e, List.length_nil] at this
  rcases Nat.mul_eq_zero.1 this.symm with h | h <;> omega
theorem o_iaddrA (j : Nat) (hu : P.underlying t = some (.slice e)) (hs : ∀ w, (sizeOf e).run P w = .ok sz w) (hx : fr.ev x = some (.slice A len cap)) (hy : fr.ev y = some (.int ik m)) (hm : m = (j : Int)) (hA : A = some (A.getD ⟨0, 0, none⟩)) (hj : j < len) :
    OpV P N fr w (.indexAddr t x y) ty (.pointer (some (adr A (j * sz)))) w := fun a ha op hop _ => by
  subst hm
  have h2 : ¬ len ≤ j := by omega
  have hx' : a.eval x = .slice (some (A.getD ⟨0, 0, none⟩)) len cap := by rw [ha.ev hx]; exact congrArg (fun A => Value.slice A len cap) hA
  simp [execOp, hop, hx', ha.ev hy, Instr.indexAt, run_underlying hu, asIntOf, hs, adr]
  intro h; exact absurd h h2
--@ rule indexAddr p o_iaddrA1
--@ rule indexAddr p o_iaddrA
theorem o_iaddrA1 (j : Nat) (hu : P.underlying t = some (.slice e)) (hs : ∀ w, (sizeOf e).run P w = .ok 1 w) (hx : fr.ev x = some (.slice A len cap)) (hy : fr.ev y = some (.int ik m)) (hm : m = (j : Int)) (hA : A = some (A.getD ⟨0, 0, none⟩)) (hj : j < len) :
    OpV P N fr w (.indexAddr t x y) ty (.pointer (some (adr A j))) w := o_as (o_iaddrA j hu hs hx hy hm hA hj) (by rw [Nat.mul_one])
theorem o_faddrA {s : TypeId} {fs : Array Field} {f : Field} {i off fsz : Nat} {ad : Addr} (hu : P.underlying s = some (.struct fs)) (hf : fs[i]? = some f) (hs : ∀ w, (sizeOf f.type).run P w = .ok fsz w) (hz : Nat.blt 0 fsz = true) (ho : f.offset = off)
    (hx : fr.ev x = some (.pointer (some ad))) : OpV P N fr w (.fieldAddr s x i) ty (.pointer (some (ad.add off))) w := fun a ha op hop _ => by
  have hz' : fsz ≠ 0 := by
    have : 0 < fsz := by simpa using hz
    omega
  subst ho
  simp [execOp, hop, ha.ev hx, Instr.fieldAt, run_underlying hu, hf, Instr.sureAddr, fieldPlace, hs, hz']
--@ rule fieldAddr p o_faddrR
theorem o_faddrR {s : TypeId} {fs : Array Field} {f : Field} {i off fsz k : Nat} {A : Option Addr} (hx : fr.ev x = some (.pointer (some (adr A k)))) (hu : P.underlying s = some (.struct fs)) (hf : fs[i]? = some f) (hs : ∀ w, (sizeOf f.type).run P w = .ok fsz w) (hz : Nat.blt 0 fsz = true) (ho : f.offset = off) :
    OpV P N fr w (.fieldAddr s x i) ty (.pointer (some (adr A (k + off)))) w := o_as (o_faddrA hu hf hs hz ho hx) (by rw [adr_add])
theorem o_loadA1 (ha' : ∀ w, (isAgg t).run P w = .ok false w) (hx : fr.ev x = some (.pointer (some (adr A i)))) (hr : Reads w sz A n xs) (hv : xs[i]? = some v) : OpV P N fr w (.load t x) ty v w :=
  o_load ha' hx ((hr.adr_ (fun e => by rw [e] at hv; cases hv)).2 _ _ hv)
--@ rule load r o_loadB
--@ rule load r o_loadZ
theorem o_loadB {j : Nat} {bs : List UInt8} (ha' : ∀ w, (isAgg t).run P w = .ok false w) (hx : fr.ev x = some (.pointer (some (adr A j)))) (hr : Rd w A bs) (hj : j < bs.length) : OpV P N fr w (.load t x) ty (.int .u8 (bs[j].toNat : Int)) w :=
  o_loadA1 ha' hx hr (B8_get bs j hj)
theorem o_loadZ {j : Nat} {zs : List Int} (ha' : ∀ w, (isAgg t).run P w = .ok false w) (hx : fr.ev x = some (.pointer (some (adr A j)))) (hr : Reads w 1 A n (zs.map (Value.int ik))) (hj : j < zs.length) : OpV P N fr w (.load t x) ty (.int ik zs[j]) w :=
  o_loadA1 ha' hx hr (by rw [List.getElem?_map, List.getElem?_eq_getElem hj]; rfl)
end

/-! Literals of structs and arrays. -/
def lay (offs : Nat → Nat) : List Value → List (Nat × Value) → List Value
  | L, [] => L
  | L, (i, v) :: r => lay offs (spl L (offs i) v.cells.toList) r
--@ rule build p o_buildg
--@ rule build p o_buildga
theorem o_buildg {ps : Array (Nat × Operand)} {is : List Nat} {xs : List Operand} {vs : List Value} {fs : Array Field} (cs : List Value) (hu : P.underlying t = some (.struct fs)) (hz : ∀ w, (zeroValue t).run P w = .ok z w) (his : ps.toList.map Prod.fst = is) (hxs : ps.toList.map Prod.snd = xs) (hx : fr.evs xs = some vs)
    (hc : lay (fun i => ((fs[i]?).map (fun f => f.offset)).getD 0) z.cells.toList (is.zip vs) = cs) (hps : ps = (is.zip xs).toArray) (hr : ∀ w, (Instr.build t (is.zip vs).toArray).run P w = .ok (.agg cs.toArray) w) : OpV P N fr w (.build t ps) ty (.agg cs.toArray) w := by
  subst hps
  exact o_build hx hr
theorem o_buildga {ps : Array (Nat × Operand)} {is : List Nat} {xs : List Operand} {vs : List Value} (cs : List Value) (hu : P.underlying t = some (.array n e)) (hs : ∀ w, (sizeOf e).run P w = .ok sz w) (hz : ∀ w, (zeroValue t).run P w = .ok z w) (his : ps.toList.map Prod.fst = is) (hxs : ps.toList.map Prod.snd = xs) (hx : fr.evs xs = some vs)
    (hc : lay (fun i => i * sz) z.cells.toList (is.zip vs) = cs) (hps : ps = (is.zip xs).toArray) (hr : ∀ w, (Instr.build t (is.zip vs).toArray).run P w = .ok (.agg cs.toArray) w) : OpV P N fr w (.build t ps) ty (.agg cs.toArray) w := by
  subst hps
  exact o_build hx hr

/-! append, literals. -/
theorem run_append_cap0 {P : Program} (w : World) {t e ty : TypeId} {i : TypeInfo} (ht : P.underlying t = some (.slice e)) (hi : P.info? e = some i) (A : Option Addr) {X : Option Addr} {m q : Nat} (hm : 0 < m) (hb : Builtin.nextslicecap m 0 * i.bytes ≤ 281474976710656) :
    (Builtin.append_ #[t, t] ty #[.slice A 0 0, .slice X m q]).run P w = (Builtin.append_ #[t, t] ty #[.slice none 0 0, .slice X m q]).run P w := by
  have h0 : m ≠ 0 := by omega
  have h48' : ¬ (281474976710656 < Builtin.nextslicecap m 0 * i.bytes) := by omega
  have h1 : ∀ w, (Builtin.firstCells i.size 0 (.slice A 0 0)).run P w = .ok #[] w := fun w => by
    cases A <;> simp [Builtin.firstCells, loadCells, loadCellsFrom]
  have h2 : ∀ w, (Builtin.firstCells i.size 0 (.slice none 0 0)).run P w = .ok #[] w := fun w => by
    simp [Builtin.firstCells]
  simp [Builtin.append_, run_underlying ht, sizeOf, typeInfo, hi, Builtin.lenOf, h0, h48', h1, h2]
section
variable {A X : Option Addr} {c j q lo hi : Nat} {xs ms : List Value}
theorem wl_appR (T : RowT P t e z sz bytes) (hx : fr.ev x = some (.slice A n c)) (hown : RowH w lo hi e sz A n c xs) (hy : fr.ev y = some (.slice X j q)) (hr : Reads w sz X j ms) (h1 : ∀ u ∈ ms, u.oneCell' = true) (h63 : n + j ≤ maxLen) (hlen : (n + j) * bytes ≤ 140737488355328) (hB : lo ≤ w.heap.size)
    (h : ∀ A' c' w', RowH w' lo w'.heap.size e sz A' (n + j) c' (xs ++ ms) → Grew w w' e (blk A) → Below lo w w' → (blk A' = blk A ∨ blk A' = some w.heap.size) → WL P fn F N ks ops tg.tail l ((d, .slice A' (n + j) c') :: fr) w')
    (ht : tg.loud = true := by rfl) (hg : onG ops fr gd = true := by rfl) (hd : Nat.blt d N = true := by rfl) (hq : tg.calm = false ∨ blk A = none ∨ blk A = tg.row := by exact .inl rfl) :
    WL P fn F N ks ops tg (⟨some d, .call { callee := .builtin .append, args := #[x, y], argTypes := #[t, t] }, ty, pos, aft, gd⟩ :: l) fr w :=
  wl_appn T hx hown.o hy hr h1 h63 hlen hB (fun A' c' w' h1 h2 h3 h4 => h A' c' w' ⟨h1, fun k hk => (World.ownsRow.lt h1 k (by rw [blk_own]; exact hk)).2⟩ ⟨h2, hown.ty⟩ h4 h3) ht hg hd hq
/-- append to an empty slice without room: nothing that was there changes. -/
theorem wl_appR0 (T : RowT P t e z sz bytes) (hx : fr.ev x = some (.slice A 0 0)) (hown : RowH w lo hi e sz A 0 0 []) (hy : fr.ev y = some (.slice X j q)) (hr : Reads w sz X j ms) (h1 : ∀ u ∈ ms, u.oneCell' = true) (h63 : j ≤ maxLen) (hlen : j * bytes ≤ 140737488355328) (hB : lo ≤ w.heap.size)
    (h : ∀ A' c' w', RowH w' lo w'.heap.size e sz A' j c' ms → Below w.heap.size w w' → WL P fn F N ks ops tg.tail l ((d, .slice A' j c') :: fr) w')
    (ht : tg.loud = true := by rfl) (hg : onG ops fr gd = true := by rfl) (hd : Nat.blt d N = true := by rfl) :
    WL P fn F N ks ops tg (⟨some d, .call { callee := .builtin .append, args := #[x, y], argTypes := #[t, t] }, ty, pos, aft, gd⟩ :: l) fr w := by
  obtain ⟨i, hi, hz, hs, hb⟩ := info_parts T.hi
  rcases Nat.eq_zero_or_pos j with h0 | h0
  · subst h0
    have hm : ms = [] := List.eq_nil_of_length_eq_zero (by rw [hr.1]; simp)
    subst hm
    have hrun : (Builtin.append_ #[t, t] ty #[.slice A 0 0, .slice X 0 q]).run P w = .ok (.slice A 0 0) w := by
      have hst : ∀ a : Addr, (storeCells a [] 0).run P w = .ok () w := fun a => by simp [storeCells]
      have hf : (Builtin.firstCells i.size 0 (.slice X 0 q)).run P w = .ok #[] w := by cases X <;> simp [Builtin.firstCells, loadCells, loadCellsFrom]
      cases A <;> simp [Builtin.append_, run_underlying T.ht, sizeOf, typeInfo, hi, Builtin.lenOf, hf, storeCells]
    exact wl_v (o_builtin (xs := [x, y]) (vs := [.slice A 0 0, .slice X 0 q]) (by simp [Fr.evs, hx, hy]) (by simp [builtin, hrun]) (by simp)) (h A 0 w ⟨hown.o, fun k hk => (hown.lt k hk).2⟩ (Below.refl _ _)) ht hg hd (.inr (grown_of_below (Below.refl _ _) _))
  · obtain ⟨v', w', hrun, h2, h3, h4⟩ := run_append_any (P := P) w w.heap.size t ty e i z sz bytes T.ht hi hz hs hb T.hz T.h0 (.slice none 0 0) 0 [] (World.ownsRow_nil _ _ _ _) X j q ms hr h1 (by omega) (by rw [Nat.zero_add]; exact hlen) (Nat.le_refl _)
    obtain ⟨A', c', rfl⟩ := ownsRow_shape h2
    rw [← run_append_cap0 (P := P) w T.ht hi A h0 (by rw [nextslicecap_zero h0, hb]; omega)] at hrun
    have hbl : Below w.heap.size w w' := below_of_grown_none h3
    simp only [Nat.zero_add, List.nil_append] at h2 hrun
    have hR : RowH w' w.heap.size w'.heap.size e sz A' j c' ms := ⟨h2, fun k hk => (World.ownsRow.lt h2 k (by rw [blk_own]; exact hk)).2⟩
    exact wl_v (o_builtin (xs := [x, y]) (vs := [.slice A 0 0, .slice X j q]) (by simp [Fr.evs, hx, hy]) (by simp [builtin, hrun]) (by simp)) (h A' c' w' (hR.base hB (Nat.le_refl _)) hbl) ht hg hd (.inr (grown_of_below hbl _))
--@ rule append l wl_appB
theorem wl_appB (T : U8 P t) {s m : List UInt8} (hx : fr.ev x = some (.slice A n c)) (hown : OwnH w lo hi A c s) (hn : n = s.length) (hy : fr.ev y = some (.slice X j q)) (hr : Rd w X m) (hj : j = m.length) (hlen : s.length + m.length ≤ 4000000000) (hB : lo ≤ w.heap.size)
    (h : ∀ A' c' w', OwnH w' lo w'.heap.size A' c' (s ++ m) → Grew w w' 5 (blk A) → Below lo w w' → (blk A' = blk A ∨ blk A' = some w.heap.size) → WL P fn F N ks ops tg.tail l ((d, .slice A' (s ++ m).length c') :: fr) w')
    (ht : tg.loud = true := by rfl) (hg : onG ops fr gd = true := by rfl) (hd : Nat.blt d N = true := by rfl) (hq : tg.calm = false ∨ blk A = none ∨ blk A = tg.row := by exact .inl rfl) :
    WL P fn F N ks ops tg (⟨some d, .call { callee := .builtin .append, args := #[x, y], argTypes := #[t, t] }, ty, pos, aft, gd⟩ :: l) fr w :=
  wl_app T hx hn hown.o hy hj hr (by omega) hB (fun A' c' w' h1 h2 h3 h4 => h A' c' w' h1.h_ ⟨h2, RowH.ty hown⟩ h4 h3) ht hg hd hq
/-- A slice literal. -/
theorem wl_litR {ps : Array (Nat × Operand)} {xs : List Operand} {vs : List Value} (T : RowT P t e z sz bytes) (hs : ∀ w, (sizeOf e).run P w = .ok sz w) (hz : ∀ w, (zeroValue e).run P w = .ok z w) (hxs : ps.toList.map Prod.snd = xs) (hps : ps = ((List.range' 0 n).zip xs).toArray) (hx : fr.evs xs = some vs) (hn : vs.length = n) (h1 : ∀ v ∈ vs, v.cells.size = sz) (hm : Nat.ble (n * sz) 1000000 = true)
    (hk : ∀ A w', RowH w' w.heap.size w'.heap.size e sz A n n (vs.flatMap fun v => v.cells.toList) → Below w.heap.size w w' → WL P fn F N ks ops tg.tail l ((d, .slice A n n) :: fr) w')
    (ht : tg.loud = true := by rfl) (hg : onG ops fr gd = true := by rfl) (hd : Nat.blt d N = true := by rfl) : WL P fn F N ks ops tg (⟨some d, .buildSlice t n ps, ty, pos, aft, gd⟩ :: l) fr w := by
  subst hps
  refine wl_litn T hs hz n hx hn h1 hm (fun w' h1 h2 h3 => hk _ w' ⟨h1 _ (Nat.le_refl _), fun k hk => ?_⟩ h2) ht hg hd
  have : w.heap.size = k := by simpa [blk] using hk
  omega
--@ rule buildSlice l wl_litB
theorem wl_litB {ps : Array (Nat × Operand)} {xs : List Operand} {vs : List Value} (bs : List UInt8) (T : U8 P t) (hs : ∀ w, (sizeOf 5).run P w = .ok 1 w) (hz : ∀ w, (zeroValue 5).run P w = .ok (.int .u8 0) w) (hxs : ps.toList.map Prod.snd = xs) (hx : fr.evs xs = some vs) (hv : vs = B8 bs) (hn : bs.length = n) (hps : ps = ((List.range' 0 n).zip xs).toArray) (hm : Nat.ble bs.length 1000000 = true)
    (hk : ∀ A w', OwnH w' w.heap.size w'.heap.size A n bs → Below w.heap.size w w' → WL P fn F N ks ops tg.tail l ((d, .slice A n n) :: fr) w')
    (ht : tg.loud = true := by rfl) (hg : onG ops fr gd = true := by rfl) (hd : Nat.blt d N = true := by rfl) : WL P fn F N ks ops tg (⟨some d, .buildSlice t n ps, ty, pos, aft, gd⟩ :: l) fr w := by
  subst hps; subst hv; subst hn
  exact wl_lit8 bs T hs hz hx hm (fun w' h1 h2 _ => hk _ w' h1.h_ h2) ht hg hd
end
end
end Go.Proofs.Ytpjedpmbninfcaa
