/-
  Rules in the form that the recorder's search applies: new blocks have names, rows of the call's own have bounds. No function of the program is named here.
-/
import Derived.Test.YtnnhenafhalobaaGreatMg1
import Derived.Deep.Slices
import Derived.OpenShut
import Derived.Maps.OwnSet
import Derived.Carry
import Derived.Laws.Bits64b
import Derived.Shelf.SlIterI.Nil
import Derived.Shelf.SortM.Plain
import Derived.Shelf.SortM.SortNone
import Derived.Ground.GgzProg
import Derived.Ground.SlgmProg
import Derived.Shelf.Small.Bits
import Derived.Shelf.Strconv.Itoa0
import Derived.Shelf.Bits.Mul64
import Derived.Shelf.SlGeneric
import Derived.Ground.NamesProg
import Derived.Test.YtnnhenafhalobaaGreatProg
namespace Go.Proofs.YtnnhenafhalobaaGreat
set_option maxRecDepth 100000
open Go.RowKit

theorem drew_size (w : World) : w.drew.heap.size = w.heap.size := rfl

theorem oneCell_of {vs : List Value} (h : vs.all (fun v => v.oneCell') = true) : ∀ v ∈ vs, v.oneCell' = true := List.all_eq_true.1 h

/-! Frames that go on from a frame that was there. -/
def Fr.le (fr0 fr : Fr) : Prop := ∀ t v, fr0.get t = some v → fr.get t = some v
theorem Rep.le {N : Nat} {a : Act} {fr fr0 : Fr} (h : Rep N a fr) (hl : Fr.le fr0 fr) : Rep N a fr0 := ⟨h.size, h.defers, fun t v hv => h.get t v (hl t v hv)⟩
theorem Fr.get_of_sub {fr : Fr} : ∀ {c : Fr}, Fr.sub c fr → ∀ t v, c.get t = some v → fr.get t = some v
  | [], _, t, v, h => by cases h
  | (k, u) :: r, hs, t, v, h => by
    rw [Fr.get_cons] at h
    by_cases e : k = t
    · subst e
      rw [if_pos rfl] at h
      injection h with h
      subst h
      exact hs.1
    · rw [if_neg e] at h
      exact Fr.get_of_sub hs.2 t v h
theorem Fr.le_of_sub {c fr : Fr} (h : Fr.sub c fr) : Fr.le c fr := Fr.get_of_sub h
def inN (t : Nat) : List Nat → Bool
  | [] => false
  | k :: l => bif Nat.beq k t then true else inN t l
theorem Fr.get_append (c fb : Fr) (t : Nat) : (c ++ fb).get t = match c.get t with
    | some v => some v
    | none => fb.get t := by
  induction c with
  | nil => rfl
  | cons p c ih =>
    obtain ⟨k, u⟩ := p
    rw [List.cons_append, Fr.get_cons, Fr.get_cons]
    by_cases e : k = t
    · rw [if_pos e, if_pos e]
    · rw [if_neg e, if_neg e, ih]
theorem Fr.get_none_iff (c : Fr) (t : Nat) : c.get t = none ↔ inN t (c.map Prod.fst) = false := by
  induction c with
  | nil => simp [Fr.get, inN]
  | cons p c ih =>
    obtain ⟨k, u⟩ := p
    show (bif Nat.beq k t then some u else Fr.get c t) = none ↔ (bif Nat.beq k t then true else inN t (c.map Prod.fst)) = false
    cases Nat.beq k t with
    | true => simp
    | false => simpa using ih
def okSlots (c fb : List Nat) : List Nat → Bool
  | [] => true
  | t :: l => (inN t c || !inN t fb) && okSlots c fb l
theorem okSlots_spec {c fb : List Nat} : ∀ {l : List Nat}, okSlots c fb l = true → ∀ t, inN t l = true → inN t c = true ∨ inN t fb = false
  | [], _, t, h => by cases h
  | k :: l, hk, t, h => by
    unfold okSlots at hk
    simp only [Bool.and_eq_true, Bool.or_eq_true, Bool.not_eq_true'] at hk
    have h' : (bif Nat.beq k t then true else inN t l) = true := h
    cases hb : Nat.beq k t with
    | true => rw [← Nat.eq_of_beq_eq_true hb]; exact hk.1
    | false => rw [hb] at h'; exact okSlots_spec hk.2 t h'
theorem Fr.le_of {c fb fr : Fr} (hb : fr.drop (fr.length - fb.length) = fb) (hs : okSlots (c.map Prod.fst) (fb.map Prod.fst) ((fr.take (fr.length - fb.length)).map Prod.fst) = true) (hc : Fr.sub c fr) : Fr.le (c ++ fb) fr := fun t v h => by
  rw [Fr.get_append] at h
  cases hct : c.get t with
  | some u =>
    rw [hct] at h
    have h' : some u = some v := h
    rw [← h']
    exact Fr.get_of_sub hc t u hct
  | none =>
    rw [hct] at h
    have h' : fb.get t = some v := h
    rw [← List.take_append_drop (fr.length - fb.length) fr, hb, Fr.get_append]
    cases hp : Fr.get (fr.take (fr.length - fb.length)) t with
    | none => exact h'
    | some u =>
      exfalso
      have h1 : inN t ((fr.take (fr.length - fb.length)).map Prod.fst) = true := by
        cases hi : inN t ((fr.take (fr.length - fb.length)).map Prod.fst) with
        | true => rfl
        | false => rw [(Fr.get_none_iff _ t).2 hi] at hp; cases hp
      rcases okSlots_spec hs t h1 with h2 | h2
      · rw [(Fr.get_none_iff c t).1 hct] at h2; cases h2
      · rw [(Fr.get_none_iff fb t).2 h2] at h'; cases h'
section
variable {P : Program} {fn : Func} {F : Ending → World → Prop} {N : Nat} {ks : List K} {k : K} {ops : Array Oper} {l : List Oper} {fr : Fr} {w : World} {tg : Tags}
theorem RK.le {fr' : Fr} (hs : Fr.le fr' fr) (h : RK P fn F N ks fr' w) : RK P fn F N ks fr w := fun a ha => h a (ha.le hs)
/-- A loop: Inv says what holds at its head (its first word is the frame ahead of it); its number goes down. -/
theorem rk_loopf {c : Code} (Inv : Fr → Nat → Fr → World → Prop) {n : Nat} {fr0 : Fr} (hs : Fr.le fr0 fr) (h0 : Inv fr n fr0 w)
    (round : ∀ n fr' w, Inv fr n fr' w → RK P fn F N (.code c :: .inv (fun a w' => ∃ m fr', m < n ∧ Rep N a fr' ∧ Inv fr m fr' w') :: ks) fr' w) : RK P fn F N (.code (.loop c) :: ks) fr w := by
  intro a ha b k cs
  have key : ∀ n fr' a w, Rep N a fr' → Inv fr n fr' w →
      ∃ e a' w', kpost P fn F ks e a' w' ∧ Arrives P (lone (b.at a (.code c :: .inLoop c :: k)) cs w) b k cs e a' w' := by
    intro n
    induction n using Nat.strongRecOn with
    | _ n ih =>
      intro fr' a w hr hI
      obtain ⟨e, a₁, w₁, hq, harr⟩ := round n fr' w hI a hr b (.inLoop c :: k) cs
      cases e with
      | normal =>
        obtain ⟨m, fr'', hlt, hr', hI₁⟩ := hq
        obtain ⟨e₂, a₂, w₂, hq₂, harr₂⟩ := ih m hlt fr'' a₁ w₁ hr' hI₁
        exact ⟨e₂, a₂, w₂, hq₂, .of_steps (Steps.trans harr (.one step_inLoop)) harr₂⟩
      | exit id => exact ⟨_, a₁, w₁, hq, .pass (x := .inLoop c) rfl (fun _ _ => .inl (by simp)) harr⟩
      | goto l => exact ⟨_, a₁, w₁, hq, .pass (x := .inLoop c) rfl (fun _ _ => .inl (by simp)) harr⟩
      | ret => exact ⟨_, a₁, w₁, hq, .pass (x := .inLoop c) rfl (fun _ _ => .inl (by simp)) harr⟩
      | panic ch => exact ⟨_, a₁, w₁, hq, .pass (x := .inLoop c) rfl (fun _ _ => .inl (by simp)) harr⟩
      | outgrown => exact ⟨_, a₁, w₁, hq, .pass (x := .inLoop c) rfl (fun _ _ => .inl (by simp)) harr⟩
  obtain ⟨e, a', w', hq, harr⟩ := key n fr0 a w (ha.le hs) h0
  exact ⟨e, a', w', hq, .of_steps (.one step_loop) harr⟩
theorem rk_againf {Inv : Nat → Fr → World → Prop} {n m : Nat} {fr0 : Fr} (hs : Fr.le fr0 fr) (h : Inv m fr0 w) (hlt : m < n) :
    RK P fn F N (.inv (fun a w' => ∃ m fr', m < n ∧ Rep N a fr' ∧ Inv m fr' w') :: ks) fr w := fun _ ha => ⟨m, fr0, hlt, ha.le hs, h⟩
theorem rk_joinf {id : Nat} (R : Fr → Fr → World → Prop) (h2 : ∀ fr' w, R fr fr' w → RK P fn F N ks fr' w) (h1 : ∀ ks, (∀ fr' w, R fr fr' w → RK P fn F N ks fr' w) → RK P fn F N (k :: .blk id :: ks) fr w) : RK P fn F N (k :: .blk id :: ks) fr w := h1 ks h2
theorem rk_tof {R : Fr → World → Prop} (hj : ∀ fr w, R fr w → RK P fn F N ks fr w) {fr0 : Fr} (hs : Fr.le fr0 fr) (h : R fr0 w) : RK P fn F N ks fr w := (hj fr0 w h).le hs
theorem rk_frame {c fb fr' : Fr} (e : c ++ fb = fr') (h : RK P fn F N ks fr' w) : RK P fn F N ks (c ++ fb) w := e ▸ h
end

/-! Which blocks a change may touch. -/
def Ap (row : Option Nat) (lo hi : Nat) : Prop := ∀ k, row = some k → k < lo ∨ hi ≤ k
theorem ap_some {g lo hi : Nat} (h : g < lo ∨ hi ≤ g) : Ap (some g) lo hi := fun k e => by injection e with e; omega
/-- The block k is a row of elements of type e. -/
def TyAt (w : World) (k : Nat) (e : TypeId) : Prop := ∃ cs f, w.heap[k]? = some (.cells cs e f)
/-- No more than one row has changed, of elements of type e. -/
structure Grew (w w' : World) (e : TypeId) (row : Option Nat) : Prop where
  g : w.grownBy w' row
  ty : ∀ k, row = some k → TyAt w k e
theorem Grew.size {w w' : World} {e : TypeId} {row : Option Nat} (h : Grew w w' e row) : w.heap.size ≤ w'.heap.size := h.g.size
theorem Grew.below {w w' : World} {e : TypeId} {row : Option Nat} (h : Grew w w' e row) {B : Nat} (hB : B ≤ w.heap.size) (ha : ∀ k, row = some k → B ≤ k) : Below B w w' :=
  ⟨h.g.os, h.g.tape, h.g.output, h.g.size, fun k hk => h.g.block k (by omega) (fun e => by have := ha k e.symm; omega)⟩

/-- No more than the map b has changed. -/
structure GrewM (w w' : World) (b : Nat) : Prop where
  g : w.grownBy w' (some b)
  m : ∃ es c, w.heap[b]? = some (.map es c)
theorem GrewM.size {w w' : World} {b : Nat} (h : GrewM w w' b) : w.heap.size ≤ w'.heap.size := h.g.size

section
variable {w w' : World} {g : Nat} {t e : TypeId} {cs : List Value} {row : Option Nat}
theorem Blk.u (h : Blk w g t cs) (hb : Below w.heap.size w w') : Blk w' g t cs := h.under hb
theorem Blk.d (h : Blk w g t cs) : Blk w.drew g t cs := h
theorem Blk.k (h : Blk w g t cs) (hg : w.grownBy w' row) (ha : Ap row g (g + 1)) : Blk w' g t cs := h.grown hg (fun e => by have := ha g e.symm; omega)
theorem Blk.y (h : Blk w g t cs) (hg : Grew w w' e row) (hne : e ≠ t) : Blk w' g t cs := h.grown hg.g (fun e' => by
  obtain ⟨cs', f, h'⟩ := hg.ty g e'.symm
  unfold Blk at h
  rw [h] at h'
  injection h' with h'
  injection h' with _ h'
  exact hne h'.symm)
theorem Blk.at_ (h : Blk w g t cs) : TyAt w g t := ⟨_, _, h⟩
end

section
variable {w w' : World} {sz n lo hi c : Nat} {e e' : TypeId} {A : Option Addr} {xs : List Value} {l : List UInt8} {row : Option Nat}
theorem Rd.u (h : Rd w A l) (hb : Below w.heap.size w w') : Rd w' A l := h.below hb
theorem Rd.d (h : Rd w A l) : Rd w.drew A l := h
theorem Rd.nil_ : Rd w none [] := Rd.nil w none
/-- A row of the call's own, in the blocks from lo to hi. -/
structure RowH (w : World) (lo hi : Nat) (e : TypeId) (sz : Nat) (A : Option Addr) (n c : Nat) (xs : List Value) : Prop where
  o : w.ownsRow lo e sz (.slice A n c) n xs
  hi : ∀ k, blk A = some k → k < hi
theorem RowH.lt (h : RowH w lo hi e sz A n c xs) : ∀ k, blk A = some k → lo ≤ k ∧ k < w.heap.size := fun k hk => World.ownsRow.lt h.o k (by rw [blk_own]; exact hk)
theorem RowH.u (h : RowH w lo hi e sz A n c xs) (hb : Below w.heap.size w w') : RowH w' lo hi e sz A n c xs :=
  ⟨World.ownsRow.kept h.o (row := none) ⟨hb.os, hb.tape, hb.output, hb.size, fun k hk _ => hb.block k hk⟩ (by rw [blk_own]; cases blk A <;> simp), h.hi⟩
theorem RowH.d (h : RowH w lo hi e sz A n c xs) : RowH w.drew lo hi e sz A n c xs := ⟨World.ownsRow.drew h.o, h.hi⟩
theorem RowH.k (h : RowH w lo hi e sz A n c xs) (hg : w.grownBy w' row) (ha : Ap row lo hi) : RowH w' lo hi e sz A n c xs :=
  ⟨World.ownsRow.kept h.o hg (by
    rw [blk_own]
    cases hA : blk A with
    | none => exact .inl rfl
    | some k => exact .inr fun e => by have := h.hi k hA; have := h.lt k hA; have := ha k e.symm; omega), h.hi⟩
theorem RowH.ty (h : RowH w lo hi e sz A n c xs) : ∀ k, blk A = some k → TyAt w k e := fun k hk => by
  rcases h.o.2 with ⟨hv, _⟩ | ⟨g', cap, cur, hv, _, hh, _⟩
  · injection hv with hv; subst hv; cases hk
  · injection hv with hv; subst hv
    have : g' = k := by simpa [blk] using hk
    subst this
    exact ⟨_, _, hh⟩
theorem RowH.y (h : RowH w lo hi e sz A n c xs) (hg : Grew w w' e' row) (hne : e' ≠ e) : RowH w' lo hi e sz A n c xs :=
  ⟨World.ownsRow.kept h.o hg.g (by
    rw [blk_own]
    cases hA : blk A with
    | none => exact .inl rfl
    | some k =>
      refine .inr (fun ek => ?_)
      obtain ⟨_, _, h1⟩ := h.ty k hA
      obtain ⟨_, _, h2⟩ := hg.ty k ek.symm
      rw [h1] at h2
      injection h2 with h2
      injection h2 with _ h2
      exact hne h2.symm), h.hi⟩
theorem RowH.m {b : Nat} (h : RowH w lo hi e sz A n c xs) (hg : GrewM w w' b) : RowH w' lo hi e sz A n c xs :=
  ⟨World.ownsRow.kept h.o hg.g (by
    rw [blk_own]
    cases hA : blk A with
    | none => exact .inl rfl
    | some k =>
      refine .inr (fun ek => ?_)
      obtain ⟨_, _, h1⟩ := h.ty k hA
      obtain ⟨_, _, h2⟩ := hg.m
      injection ek with ek
      subst ek
      rw [h1] at h2
      cases h2), h.hi⟩
theorem RowH.ap (h : RowH w lo hi e sz A n c xs) {lo' hi' : Nat} (hd : hi ≤ lo' ∨ hi' ≤ lo) : Ap (blk A) lo' hi' := fun k hk => by have := h.hi k hk; have := h.lt k hk; omega
theorem RowH.rd (h : RowH w lo hi e sz A n c xs) : Reads w sz A n xs := Reads.of_own h.o
theorem RowH.cap (h : RowH w lo hi e sz A n c xs) : n ≤ c := by
  rcases h.o.2 with ⟨h1, h2⟩ | ⟨g, cap, cur, h2, h3, h4, h5, _⟩
  · injection h1 with _ _ h3; omega
  · injection h2 with _ _ h6; omega
theorem RowH.base (h : RowH w lo hi e sz A n c xs) {lo' hi' : Nat} (h1 : lo' ≤ lo) (h2 : hi ≤ hi') : RowH w lo' hi' e sz A n c xs :=
  ⟨⟨h.o.1, by
    rcases h.o.2 with h3 | ⟨g, cap, cur, h3, h4, h5⟩
    · exact .inl h3
    · exact .inr ⟨g, cap, cur, h3, by omega, h5⟩⟩, fun k hk => by have := h.hi k hk; omega⟩
theorem RowH.nil (w : World) (lo hi : Nat) (e : TypeId) (sz : Nat) : RowH w lo hi e sz none 0 0 [] := ⟨World.ownsRow_nil _ _ _ _, fun k hk => by cases hk⟩

/-- Bytes of the call's own, in the blocks from lo to hi. -/
def OwnH (w : World) (lo hi : Nat) (A : Option Addr) (c : Nat) (l : List UInt8) : Prop := RowH w lo hi 5 1 A l.length c (B8 l)
theorem OwnH.u (h : OwnH w lo hi A c l) (hb : Below w.heap.size w w') : OwnH w' lo hi A c l := RowH.u h hb
theorem OwnH.d (h : OwnH w lo hi A c l) : OwnH w.drew lo hi A c l := RowH.d h
theorem OwnH.k (h : OwnH w lo hi A c l) (hg : w.grownBy w' row) (ha : Ap row lo hi) : OwnH w' lo hi A c l := RowH.k h hg ha
theorem OwnH.y (h : OwnH w lo hi A c l) (hg : Grew w w' e' row) (hne : e' ≠ 5) : OwnH w' lo hi A c l := RowH.y h hg hne
theorem OwnH.ap (h : OwnH w lo hi A c l) {lo' hi' : Nat} (hd : hi ≤ lo' ∨ hi' ≤ lo) : Ap (blk A) lo' hi' := RowH.ap h hd
theorem OwnH.cap (h : OwnH w lo hi A c l) : l.length ≤ c := RowH.cap h
theorem OwnH.to_Rd (h : OwnH w lo hi A c l) : Rd w A l := RowH.rd h
theorem OwnH.base (h : OwnH w lo hi A c l) {lo' hi' : Nat} (h1 : lo' ≤ lo) (h2 : hi ≤ hi') : OwnH w lo' hi' A c l := RowH.base h h1 h2
theorem OwnH.nil_ : OwnH w lo hi none 0 [] := RowH.nil _ _ _ _ _
theorem Own.h_ (h : Own w lo A c l) : OwnH w lo w.heap.size A c l := ⟨h, fun k hk => (Own.lt h k hk).2⟩
end

section
variable {P : Program} {fn : Func} {F : Ending → World → Prop} {N : Nat} {ks : List K} {ops : Array Oper} {tg : Tags} {l : List Oper} {fr : Fr} {w : World} {ty t t' t2 e : TypeId} {z v : Value} {sz bytes : Nat} {pos pos2 : String} {aft aft2 : Array Edge} {gd gd2 : Option (Nat × Bool)} {d g i n : Nat} {x y k : Operand} {cs : List Value} {ty2 : TypeId}

/-! New blocks. -/
--@ rule alloc l wl_allocst1
--@ rule alloc l wl_allocstn
--@ rule alloc l wl_allocg
--@ rule box l wl_boxg
theorem wl_allocg (zs : List Value) (hz : ∀ w, (zeroValue e).run P w = .ok z w) (hzs : z.cells = zs.toArray)
    (hk : ∀ g w', Blk w' g e zs → Below w.heap.size w w' → w.heap.size ≤ g → g < w'.heap.size → WL P fn F N ks ops tg.tail l ((d, .pointer (some ⟨g, 0, none⟩)) :: fr) w')
    (ht : tg.loud = true := by rfl) (hg : onG ops fr gd = true := by rfl) (hd : Nat.blt d N = true := by rfl) : WL P fn F N ks ops tg (⟨some d, .alloc e, ty, pos, aft, gd⟩ :: l) fr w :=
  wl_alloc zs hz hzs (fun w' h1 h2 h3 => hk _ w' h1 h2 (Nat.le_refl _) (by omega)) ht hg hd
theorem wl_boxg (vs : List Value) (hx : fr.ev x = some v) (hvs : v.cells = vs.toArray)
    (hk : ∀ g w', Blk w' g e vs → Below w.heap.size w w' → w.heap.size ≤ g → g < w'.heap.size → WL P fn F N ks ops tg.tail l ((d, .pointer (some ⟨g, 0, none⟩)) :: fr) w')
    (ht : tg.loud = true := by rfl) (hg : onG ops fr gd = true := by rfl) (hd : Nat.blt d N = true := by rfl) : WL P fn F N ks ops tg (⟨some d, .box e x, ty, pos, aft, gd⟩ :: l) fr w :=
  wl_box vs hx hvs (fun w' h1 h2 h3 => hk _ w' h1 h2 (Nat.le_refl _) (by omega)) ht hg hd
/-! Stores into blocks of the call's own. -/
--@ rule store l wl_storeg1
--@ rule store l wl_storega
--@ rule store l wl_storegn
theorem wl_storeg1 (hs : ∀ w, (sizeOf t).run P w = .ok 1 w) (hx : fr.ev x = some (.pointer (some ⟨g, i, none⟩))) (hy : fr.ev y = some v) (h1 : v.oneCell' = true) (hB : Blk w g t' cs) (hi : i < cs.length)
    (hk : ∀ w', Blk w' g t' (cs.set i v) → Grew w w' t' (some g) → w'.heap.size = w.heap.size → WL P fn F N ks ops tg.tail l fr w') (ht : tg.loud = true := by rfl) (hg : onG ops fr gd = true := by rfl) (hq : tg.calm = false ∨ tg.rw.may (some g) := by exact .inl rfl) :
    WL P fn F N ks ops tg (⟨none, .store t x y, ty, pos, aft, gd⟩ :: l) fr w :=
  wl_store1 hs hx hy h1 hB hi (fun w' h1 h2 h3 => hk w' h1 ⟨h2, fun k e => by injection e with e; subst e; exact hB.at_⟩ h3) ht hg hq
theorem wl_storega {vs : List Value} (hs : ∀ w, (sizeOf t).run P w = .ok n w) (hx : fr.ev x = some (.pointer (some ⟨g, 0, none⟩))) (hy : fr.ev y = some (.agg vs.toArray)) (hn : vs.length = n) (h1 : ∀ v ∈ vs, v.oneCell' = true) (hB : Blk w g t' cs) (hi : cs.length = n)
    (hk : ∀ w', Blk w' g t' vs → Grew w w' t' (some g) → w'.heap.size = w.heap.size → WL P fn F N ks ops tg.tail l fr w') (ht : tg.loud = true := by rfl) (hg : onG ops fr gd = true := by rfl) (hq : tg.calm = false ∨ tg.rw.may (some g) := by exact .inl rfl) :
    WL P fn F N ks ops tg (⟨none, .store t x y, ty, pos, aft, gd⟩ :: l) fr w :=
  wl_store_all hs hx hy hn h1 hB hi (fun w' h1 h2 h3 => hk w' h1 ⟨h2, fun k e => by injection e with e; subst e; exact hB.at_⟩ h3) ht hg hq
theorem wl_storegn {vs : List Value} (hs : ∀ w, (sizeOf t).run P w = .ok n w) (hx : fr.ev x = some (.pointer (some ⟨g, i, none⟩))) (hy : fr.ev y = some (.agg vs.toArray)) (hn : vs.length = n) (h1 : ∀ v ∈ vs, v.oneCell' = true) (hB : Blk w g t' cs) (hi : i + n ≤ cs.length)
    (hk : ∀ w', Blk w' g t' (spl cs i vs) → Grew w w' t' (some g) → w'.heap.size = w.heap.size → WL P fn F N ks ops tg.tail l fr w') (ht : tg.loud = true := by rfl) (hg : onG ops fr gd = true := by rfl) (hq : tg.calm = false ∨ tg.rw.may (some g) := by exact .inl rfl) :
    WL P fn F N ks ops tg (⟨none, .store t x y, ty, pos, aft, gd⟩ :: l) fr w :=
  wl_storen hs hx hy hn h1 hB hi (fun w' h1 h2 h3 => hk w' h1 ⟨h2, fun k e => by injection e with e; subst e; exact hB.at_⟩ h3) ht hg hq

/-! Loads out of blocks. -/
--@ rule load r o_loadbg
--@ rule load r o_loadag
theorem o_loadbg (ha' : ∀ w, (isAgg t).run P w = .ok false w) (hx : fr.ev x = some (.pointer (some ⟨g, i, none⟩))) (hB : Blk w g t' cs) (hi : cs[i]? = some v) : OpV P N fr w (.load t x) ty v w := o_loadb ha' hx hB hi
theorem o_loadag (ha' : ∀ w, (isAgg t).run P w = .ok true w) (hs : ∀ w, (sizeOf t).run P w = .ok n w) (hx : fr.ev x = some (.pointer (some ⟨g, 0, none⟩))) (hB : Blk w g t' cs) (hn : cs.length = n) : OpV P N fr w (.load t x) ty (.agg cs.toArray) w := o_load_all ha' hs hx hB hn

/-! Elements of slices: addresses. -/
def adr (A : Option Addr) (k : Nat) : Addr := (A.getD ⟨0, 0, none⟩).add k
theorem adr_add (A : Option Addr) (i j : Nat) : (adr A i).add j = adr A (i + j) := add_of_add _ _ _
theorem Reads.adr_ {A : Option Addr} {xs : List Value} {n : Nat} (h : Reads w sz A n xs) (hne : xs ≠ []) : A = some (A.getD ⟨0, 0, none⟩) ∧ ∀ j u, xs[j]? = some u → w.cell? (adr A j) = some u := by
  obtain ⟨b, o, rfl, hc⟩ := h.2 hne
  exact ⟨rfl, fun j u hu => by simp only [adr, Option.getD_some, add_plain]; exact hc j u hu⟩
section
variable {A : Option Addr} {len cap : Nat} {ik : IntKind} {m : Int} {xs : List Value} {w0 : World}
theorem Reads.some_ (hr : Reads w0 sz A len xs) (h0 : 0 < sz) (hj : 0 < len) : A = some (A.getD ⟨0, 0, none⟩) := by
  refine (hr.adr_ (fun e => ?_)).1
  have := hr.1
  rw [e, List.length_nil] at this
  rcases Nat.mul_eq_zero.1 this.symm with h | h <;> omega
theorem o_iaddrA (j : Nat) (hu : P.underlying t = some (.slice e)) (hs : ∀ w, (sizeOf e).run P w = .ok sz w) (hx : fr.ev x = some (.slice A len cap)) (hy : fr.ev y = some (.int ik m)) (hm : m = (j : Int)) (hA : A = some (A.getD ⟨0, 0, none⟩)) (hj : j < len) :
    OpV P N fr w (.indexAddr t x y) ty (.pointer (some (adr A (j * sz)))) w := fun a ha op hop _ => by
  subst hm
  have h2 : ¬ len ≤ j := by omega
  have hx' : a.eval x = .slice (some (A.getD ⟨0, 0, none⟩)) len cap := by rw [ha.ev hx]; exact congrArg (fun A => Value.slice A len cap) hA
  simp [execOp, hop, hx', ha.ev hy, Instr.indexAt, run_underlying hu, asIntOf, hs, adr]
  intro h; exact absurd h h2
--@ rule indexAddr p o_iaddrA1
--@ rule indexAddr p o_iaddrA
theorem o_iaddrA1 (j : Nat) (hu : P.underlying t = some (.slice e)) (hs : ∀ w, (sizeOf e).run P w = .ok 1 w) (hx : fr.ev x = some (.slice A len cap)) (hy : fr.ev y = some (.int ik m)) (hm : m = (j : Int)) (hA : A = some (A.getD ⟨0, 0, none⟩)) (hj : j < len) :
    OpV P N fr w (.indexAddr t x y) ty (.pointer (some (adr A j))) w := o_as (o_iaddrA j hu hs hx hy hm hA hj) (by rw [Nat.mul_one])
theorem o_faddrA {s : TypeId} {fs : Array Field} {f : Field} {i off fsz : Nat} {ad : Addr} (hu : P.underlying s = some (.struct fs)) (hf : fs[i]? = some f) (hs : ∀ w, (sizeOf f.type).run P w = .ok fsz w) (hz : Nat.blt 0 fsz = true) (ho : f.offset = off)
    (hx : fr.ev x = some (.pointer (some ad))) : OpV P N fr w (.fieldAddr s x i) ty (.pointer (some (ad.add off))) w := fun a ha op hop _ => by
  have hz' : fsz ≠ 0 := by
    have : 0 < fsz := by simpa using hz
    omega
  subst ho
  simp [execOp, hop, ha.ev hx, Instr.fieldAt, run_underlying hu, hf, Instr.sureAddr, fieldPlace, hs, hz']
--@ rule fieldAddr p o_faddrR
theorem o_faddrR {s : TypeId} {fs : Array Field} {f : Field} {i off fsz k : Nat} {A : Option Addr} (hx : fr.ev x = some (.pointer (some (adr A k)))) (hu : P.underlying s = some (.struct fs)) (hf : fs[i]? = some f) (hs : ∀ w, (sizeOf f.type).run P w = .ok fsz w) (hz : Nat.blt 0 fsz = true) (ho : f.offset = off) :
    OpV P N fr w (.fieldAddr s x i) ty (.pointer (some (adr A (k + off)))) w := o_as (o_faddrA hu hf hs hz ho hx) (by rw [adr_add])
theorem o_loadA1 (ha' : ∀ w, (isAgg t).run P w = .ok false w) (hx : fr.ev x = some (.pointer (some (adr A i)))) (hr : Reads w sz A n xs) (hv : xs[i]? = some v) : OpV P N fr w (.load t x) ty v w :=
  o_load ha' hx ((hr.adr_ (fun e => by rw [e] at hv; cases hv)).2 _ _ hv)
theorem o_loadZ {j : Nat} {zs : List Int} (ha' : ∀ w, (isAgg t).run P w = .ok false w) (hx : fr.ev x = some (.pointer (some (adr A j)))) (hr : Reads w 1 A n (zs.map (Value.int ik))) (hj : j < zs.length) : OpV P N fr w (.load t x) ty (.int ik zs[j]) w :=
  o_loadA1 ha' hx hr (by rw [List.getElem?_map, List.getElem?_eq_getElem hj]; rfl)
end

/-! Literals of structs and arrays. -/
def lay (offs : Nat → Nat) : List Value → List (Nat × Value) → List Value
  | L, [] => L
  | L, (i, v) :: r => lay offs (spl L (offs i) v.cells.toList) r
--@ rule build p o_buildg
--@ rule build p o_buildga
theorem o_buildg {ps : Array (Nat × Operand)} {is : List Nat} {xs : List Operand} {vs : List Value} {fs : Array Field} (cs : List Value) (hu : P.underlying t = some (.struct fs)) (hz : ∀ w, (zeroValue t).run P w = .ok z w) (his : ps.toList.map Prod.fst = is) (hxs : ps.toList.map Prod.snd = xs) (hx : fr.evs xs = some vs)
    (hc : lay (fun i => ((fs[i]?).map (fun f => f.offset)).getD 0) z.cells.toList (is.zip vs) = cs) (hps : ps = (is.zip xs).toArray) (hr : ∀ w, (Instr.build t (is.zip vs).toArray).run P w = .ok (.agg cs.toArray) w) : OpV P N fr w (.build t ps) ty (.agg cs.toArray) w := by
  subst hps
  exact o_build hx hr
theorem o_buildga {ps : Array (Nat × Operand)} {is : List Nat} {xs : List Operand} {vs : List Value} (cs : List Value) (hu : P.underlying t = some (.array n e)) (hs : ∀ w, (sizeOf e).run P w = .ok sz w) (hz : ∀ w, (zeroValue t).run P w = .ok z w) (his : ps.toList.map Prod.fst = is) (hxs : ps.toList.map Prod.snd = xs) (hx : fr.evs xs = some vs)
    (hc : lay (fun i => i * sz) z.cells.toList (is.zip vs) = cs) (hps : ps = (is.zip xs).toArray) (hr : ∀ w, (Instr.build t (is.zip vs).toArray).run P w = .ok (.agg cs.toArray) w) : OpV P N fr w (.build t ps) ty (.agg cs.toArray) w := by
  subst hps
  exact o_build hx hr

section
variable {A X : Option Addr} {c j q lo hi : Nat} {xs ms : List Value}
theorem wl_appR (T : RowT P t e z sz bytes) (hx : fr.ev x = some (.slice A n c)) (hown : RowH w lo hi e sz A n c xs) (hy : fr.ev y = some (.slice X j q)) (hr : Reads w sz X j ms) (h1 : ∀ u ∈ ms, u.oneCell' = true) (h63 : n + j ≤ maxLen) (hlen : (n + j) * bytes ≤ 140737488355328) (hB : lo ≤ w.heap.size)
    (h : ∀ A' c' w', RowH w' lo w'.heap.size e sz A' (n + j) c' (xs ++ ms) → Grew w w' e (blk A) → Below lo w w' → (blk A' = blk A ∨ blk A' = some w.heap.size) → WL P fn F N ks ops tg.tail l ((d, .slice A' (n + j) c') :: fr) w')
    (ht : tg.loud = true := by rfl) (hg : onG ops fr gd = true := by rfl) (hd : Nat.blt d N = true := by rfl) (hq : tg.calm = false ∨ blk A = none ∨ blk A = tg.row := by exact .inl rfl) :
    WL P fn F N ks ops tg (⟨some d, .call { callee := .builtin .append, args := #[x, y], argTypes := #[t, t] }, ty, pos, aft, gd⟩ :: l) fr w :=
  wl_appn T hx hown.o hy hr h1 h63 hlen hB (fun A' c' w' h1 h2 h3 h4 => h A' c' w' ⟨h1, fun k hk => (World.ownsRow.lt h1 k (by rw [blk_own]; exact hk)).2⟩ ⟨h2, hown.ty⟩ h4 h3) ht hg hd hq
--@ rule append l wl_appB
theorem wl_appB (T : U8 P t) {s m : List UInt8} (hx : fr.ev x = some (.slice A n c)) (hown : OwnH w lo hi A c s) (hn : n = s.length) (hy : fr.ev y = some (.slice X j q)) (hr : Rd w X m) (hj : j = m.length) (hlen : s.length + m.length ≤ 4000000000) (hB : lo ≤ w.heap.size)
    (h : ∀ A' c' w', OwnH w' lo w'.heap.size A' c' (s ++ m) → Grew w w' 5 (blk A) → Below lo w w' → (blk A' = blk A ∨ blk A' = some w.heap.size) → WL P fn F N ks ops tg.tail l ((d, .slice A' (s ++ m).length c') :: fr) w')
    (ht : tg.loud = true := by rfl) (hg : onG ops fr gd = true := by rfl) (hd : Nat.blt d N = true := by rfl) (hq : tg.calm = false ∨ blk A = none ∨ blk A = tg.row := by exact .inl rfl) :
    WL P fn F N ks ops tg (⟨some d, .call { callee := .builtin .append, args := #[x, y], argTypes := #[t, t] }, ty, pos, aft, gd⟩ :: l) fr w :=
  wl_app T hx hn hown.o hy hj hr (by omega) hB (fun A' c' w' h1 h2 h3 h4 => h A' c' w' h1.h_ ⟨h2, RowH.ty hown⟩ h4 h3) ht hg hd hq
/-- A slice literal. -/
theorem wl_litR {ps : Array (Nat × Operand)} {xs : List Operand} {vs : List Value} (T : RowT P t e z sz bytes) (hs : ∀ w, (sizeOf e).run P w = .ok sz w) (hz : ∀ w, (zeroValue e).run P w = .ok z w) (hxs : ps.toList.map Prod.snd = xs) (hps : ps = ((List.range' 0 n).zip xs).toArray) (hx : fr.evs xs = some vs) (hn : vs.length = n) (h1 : ∀ v ∈ vs, v.cells.size = sz) (hm : Nat.ble (n * sz) 1000000 = true)
    (hk : ∀ A w', RowH w' w.heap.size w'.heap.size e sz A n n (vs.flatMap fun v => v.cells.toList) → Below w.heap.size w w' → WL P fn F N ks ops tg.tail l ((d, .slice A n n) :: fr) w')
    (ht : tg.loud = true := by rfl) (hg : onG ops fr gd = true := by rfl) (hd : Nat.blt d N = true := by rfl) : WL P fn F N ks ops tg (⟨some d, .buildSlice t n ps, ty, pos, aft, gd⟩ :: l) fr w := by
  subst hps
  refine wl_litn T hs hz n hx hn h1 hm (fun w' h1 h2 h3 => hk _ w' ⟨h1 _ (Nat.le_refl _), fun k hk => ?_⟩ h2) ht hg hd
  have : w.heap.size = k := by simpa [blk] using hk
  omega
--@ rule buildSlice l wl_litB
theorem wl_litB {ps : Array (Nat × Operand)} {xs : List Operand} {vs : List Value} (bs : List UInt8) (T : U8 P t) (hs : ∀ w, (sizeOf 5).run P w = .ok 1 w) (hz : ∀ w, (zeroValue 5).run P w = .ok (.int .u8 0) w) (hxs : ps.toList.map Prod.snd = xs) (hx : fr.evs xs = some vs) (hv : vs = B8 bs) (hn : bs.length = n) (hps : ps = ((List.range' 0 n).zip xs).toArray) (hm : Nat.ble bs.length 1000000 = true)
    (hk : ∀ A w', OwnH w' w.heap.size w'.heap.size A n bs → Below w.heap.size w w' → WL P fn F N ks ops tg.tail l ((d, .slice A n n) :: fr) w')
    (ht : tg.loud = true := by rfl) (hg : onG ops fr gd = true := by rfl) (hd : Nat.blt d N = true := by rfl) : WL P fn F N ks ops tg (⟨some d, .buildSlice t n ps, ty, pos, aft, gd⟩ :: l) fr w := by
  subst hps; subst hv; subst hn
  exact wl_lit8 bs T hs hz hx hm (fun w' h1 h2 _ => hk _ w' h1.h_ h2) ht hg hd
end
end
end Go.Proofs.YtnnhenafhalobaaGreat
/-
  Data as it lies in memory, by the shape of its Go type; arguments of a law opened. No function of the program is named here.
-/
namespace Go.Proofs.YtnnhenafhalobaaGreat
set_option maxRecDepth 100000
open Go.ChangeShapes Go.WideShapes Go.ChangeAt Go.RowKit

/-- How values of a Go type lie in memory: sz cells; R: as they read; T: with the types of the blocks that they reach. -/
structure GoT (α : Type) where
  sz : Nat
  tys : List TypeId
  R : World → List Value → α → Prop
  T : World → List Value → α → Prop
  len : ∀ {w cs a}, R w cs a → cs.length = sz
  u : ∀ {w w' cs a}, R w cs a → Below w.heap.size w w' → R w' cs a
  tr : ∀ {w cs a}, T w cs a → R w cs a
  tu : ∀ {w w' cs a}, T w cs a → Below w.heap.size w w' → T w' cs a
  ty : ∀ {w w' cs a e row}, T w cs a → Grew w w' e row → e ∉ tys → T w' cs a
  tm : ∀ {w w' cs a b}, T w cs a → GrewM w w' b → T w' cs a
theorem below_drew (w : World) : Below w.heap.size w w.drew := (Below.refl _ w).drew

/-- A value that one cell holds, and nothing in memory. -/
def GoT.flat {α : Type} (f : α → Value) (p : α → Prop) : GoT α where
  sz := 1
  tys := []
  R _ cs a := cs = [f a] ∧ p a
  T _ cs a := cs = [f a] ∧ p a
  len h := by rw [h.1]; rfl
  u h _ := h
  tr h := h
  tu h _ := h
  ty h _ _ := h
  tm h _ := h
def gInt (k : IntKind) : GoT Int := GoT.flat (Value.int k) (fun n => (Lit.int k n).wf = true)
theorem grew_blk {w w' : World} {e e' : TypeId} {row : Option Nat} (hg : Grew w w' e' row) {A : Option Addr} (ht : ∀ k, blk A = some k → TyAt w k e) (hne : e' ≠ e) : blk A = none ∨ blk A ≠ row := by
  cases hA : blk A with
  | none => exact .inl rfl
  | some k =>
    refine .inr (fun ek => ?_)
    obtain ⟨_, _, h1⟩ := ht k hA
    obtain ⟨_, _, h2⟩ := hg.ty k ek.symm
    rw [h1] at h2
    injection h2 with h2
    injection h2 with _ h2
    exact hne h2.symm
theorem growm_blk {w w' : World} {e : TypeId} {b : Nat} (hg : GrewM w w' b) {A : Option Addr} (ht : ∀ k, blk A = some k → TyAt w k e) : blk A = none ∨ blk A ≠ some b := by
  cases hA : blk A with
  | none => exact .inl rfl
  | some k =>
    refine .inr (fun ek => ?_)
    obtain ⟨_, _, h1⟩ := ht k hA
    obtain ⟨_, _, h2⟩ := hg.m
    injection ek with ek
    subst ek
    rw [h1] at h2
    cases h2
theorem TyAt.lt {w : World} {k : Nat} {e : TypeId} (h : TyAt w k e) : k < w.heap.size := by
  obtain ⟨_, _, h⟩ := h
  rcases Nat.lt_or_ge k w.heap.size with h1 | h1
  · exact h1
  · rw [Array.getElem?_eq_none h1] at h; cases h
theorem TyAt.keep {w w' : World} {k : Nat} {e : TypeId} (h : TyAt w k e) (hb : w'.heap[k]? = w.heap[k]?) : TyAt w' k e := by
  obtain ⟨cs, f, h⟩ := h
  exact ⟨cs, f, hb.trans h⟩

/-- Bytes that lie in rows of bytes. -/
def RdT (w : World) (A : Option Addr) (l : List UInt8) : Prop := Rd w A l ∧ ∀ k, blk A = some k → TyAt w k 5
section
variable {w w' : World} {A : Option Addr} {l : List UInt8} {e : TypeId} {row : Option Nat} {b lo hi c : Nat}
theorem RdT.u (h : RdT w A l) (hb : Below w.heap.size w w') : RdT w' A l := ⟨h.1.below hb, fun k hk => (h.2 k hk).keep (hb.block k (h.2 k hk).lt)⟩
theorem RdT.d (h : RdT w A l) : RdT w.drew A l := h
theorem RdT.to_Rd (h : RdT w A l) : Rd w A l := h.1
theorem RdT.y (h : RdT w A l) (hg : Grew w w' e row) (hne : e ≠ 5) : RdT w' A l := by
  have hne' := grew_blk hg h.2 hne
  refine ⟨h.1.grown hg.g hne', fun k hk => (h.2 k hk).keep (hg.g.block k (h.2 k hk).lt (fun e => ?_))⟩
  rcases hne' with h1 | h1
  · rw [h1] at hk; cases hk
  · exact h1 (hk.trans e)
theorem RdT.m (h : RdT w A l) (hg : GrewM w w' b) : RdT w' A l := by
  have hne' := growm_blk hg h.2
  refine ⟨h.1.grown hg.g hne', fun k hk => (h.2 k hk).keep (hg.g.block k (h.2 k hk).lt (fun e => ?_))⟩
  rcases hne' with h1 | h1
  · rw [h1] at hk; cases hk
  · exact h1 (hk.trans e)
theorem OwnH.to_RdT (h : OwnH w lo hi A c l) : RdT w A l := ⟨h.to_Rd, RowH.ty h⟩
end
def gBytes : GoT (List UInt8) where
  sz := 1
  tys := [5]
  R w cs l := ∃ A c, cs = [.slice A l.length c] ∧ Rd w A l ∧ l.length ≤ c ∧ c ≤ maxLen
  T w cs l := ∃ A c, cs = [.slice A l.length c] ∧ RdT w A l ∧ l.length ≤ c ∧ c ≤ maxLen
  len h := by obtain ⟨A, c, rfl, _⟩ := h; rfl
  u h hb := by obtain ⟨A, c, e, h1, h2⟩ := h; exact ⟨A, c, e, h1.below hb, h2⟩
  tr h := by obtain ⟨A, c, e, h1, h2⟩ := h; exact ⟨A, c, e, h1.1, h2⟩
  tu h hb := by obtain ⟨A, c, e, h1, h2⟩ := h; exact ⟨A, c, e, h1.u hb, h2⟩
  ty h hg hne := by obtain ⟨A, c, e, h1, h2⟩ := h; exact ⟨A, c, e, h1.y hg (by simpa using hne), h2⟩
  tm h hg := by obtain ⟨A, c, e, h1, h2⟩ := h; exact ⟨A, c, e, h1.m hg, h2⟩

/-- An array of n bytes. -/
def gArr (n : Nat) : GoT { l : List UInt8 // l.length = n } where
  sz := n
  tys := []
  R _ cs a := cs = B8 a.1
  T _ cs a := cs = B8 a.1
  len := fun {w cs a} h => by rw [h, B8_length]; exact a.2
  u h _ := h
  tr h := h
  tu h _ := h
  ty h _ _ := h
  tm h _ := h

/-- One after the other. -/
def GoT.pair {α β : Type} (X : GoT α) (Y : GoT β) : GoT (α × β) where
  sz := X.sz + Y.sz
  tys := X.tys ++ Y.tys
  R w cs a := ∃ c1 c2, cs = c1 ++ c2 ∧ X.R w c1 a.1 ∧ Y.R w c2 a.2
  T w cs a := ∃ c1 c2, cs = c1 ++ c2 ∧ X.T w c1 a.1 ∧ Y.T w c2 a.2
  len h := by obtain ⟨c1, c2, rfl, h1, h2⟩ := h; rw [List.length_append, X.len h1, Y.len h2]
  u h hb := by obtain ⟨c1, c2, e, h1, h2⟩ := h; exact ⟨c1, c2, e, X.u h1 hb, Y.u h2 hb⟩
  tr h := by obtain ⟨c1, c2, e, h1, h2⟩ := h; exact ⟨c1, c2, e, X.tr h1, Y.tr h2⟩
  tu h hb := by obtain ⟨c1, c2, e, h1, h2⟩ := h; exact ⟨c1, c2, e, X.tu h1 hb, Y.tu h2 hb⟩
  ty h hg hne := by
    obtain ⟨c1, c2, e, h1, h2⟩ := h
    rw [List.mem_append, not_or] at hne
    exact ⟨c1, c2, e, X.ty h1 hg hne.1, Y.ty h2 hg hne.2⟩
  tm h hg := by obtain ⟨c1, c2, e, h1, h2⟩ := h; exact ⟨c1, c2, e, X.tm h1 hg, Y.tm h2 hg⟩
/-- In other words. -/
def GoT.map {α β : Type} (f : α → β) (X : GoT α) : GoT β where
  sz := X.sz
  tys := X.tys
  R w cs b := ∃ a, f a = b ∧ X.R w cs a
  T w cs b := ∃ a, f a = b ∧ X.T w cs a
  len h := by obtain ⟨a, _, h⟩ := h; exact X.len h
  u h hb := by obtain ⟨a, e, h⟩ := h; exact ⟨a, e, X.u h hb⟩
  tr h := by obtain ⟨a, e, h⟩ := h; exact ⟨a, e, X.tr h⟩
  tu h hb := by obtain ⟨a, e, h⟩ := h; exact ⟨a, e, X.tu h hb⟩
  ty h hg hne := by obtain ⟨a, e, h⟩ := h; exact ⟨a, e, X.ty h hg hne⟩
  tm h hg := by obtain ⟨a, e, h⟩ := h; exact ⟨a, e, X.tm h hg⟩

/-- Part i of the cells xs, parts of m cells. -/
def part (xs : List Value) (m i : Nat) : List Value := (xs.drop (i * m)).take m
theorem part_get {xs : List Value} {m i j : Nat} (hj : j < m) : (part xs m i)[j]? = xs[i * m + j]? := by
  unfold part
  rw [List.getElem?_take_of_lt hj, List.getElem?_drop]
/-- The cells at A, from the k-th on. -/
def CellsAt (w : World) (A : Option Addr) (k : Nat) (cs : List Value) : Prop := ∀ j v, cs[j]? = some v → w.cell? (adr A (k + j)) = some v
section
variable {w w' : World} {A : Option Addr} {k n m : Nat} {cs xs : List Value}
theorem CellsAt.u (h : CellsAt w A k cs) (hb : Below w.heap.size w w') : CellsAt w' A k cs := fun j v hj => (hb.cell (block_lt_of_cell (h j v hj))).trans (h j v hj)
theorem Reads.cellsAt {i : Nat} (h : Reads w m A n xs) (hi : i < n) (h0 : 0 < m) : CellsAt w A (i * m) (part xs m i) := fun j v hj => by
  have hne : xs ≠ [] := fun e => by
    have := h.1
    rw [e, List.length_nil] at this
    rcases Nat.mul_eq_zero.1 this.symm with h | h <;> omega
  have hjm : j < m := by
    rcases Nat.lt_or_ge j m with h1 | h1
    · exact h1
    · rw [List.getElem?_eq_none (by unfold part; rw [List.length_take]; omega)] at hj; cases hj
  rw [part_get hjm] at hj
  exact (h.adr_ hne).2 _ _ hj
end
/-- A slice. -/
def GoT.slice {α : Type} (e : TypeId) (X : GoT α) : GoT (List α) where
  sz := 1
  tys := e :: X.tys
  R w cs l := ∃ A c xs, cs = [.slice A l.length c] ∧ l.length ≤ c ∧ c ≤ maxLen ∧ Reads w X.sz A l.length xs ∧ ∀ i (h : i < l.length), X.R w (part xs X.sz i) l[i]
  T w cs l := ∃ A c xs, cs = [.slice A l.length c] ∧ l.length ≤ c ∧ c ≤ maxLen ∧ Reads w X.sz A l.length xs ∧ (∀ k, blk A = some k → TyAt w k e) ∧ ∀ i (h : i < l.length), X.T w (part xs X.sz i) l[i]
  len h := by obtain ⟨A, c, xs, rfl, _⟩ := h; rfl
  u h hb := by obtain ⟨A, c, xs, e, h1, h2, h3, h4⟩ := h; exact ⟨A, c, xs, e, h1, h2, h3.below hb, fun i hi => X.u (h4 i hi) hb⟩
  tr h := by obtain ⟨A, c, xs, e, h1, h2, h3, _, h4⟩ := h; exact ⟨A, c, xs, e, h1, h2, h3, fun i hi => X.tr (h4 i hi)⟩
  tu h hb := by
    obtain ⟨A, c, xs, e, h1, h2, h3, h4, h5⟩ := h
    exact ⟨A, c, xs, e, h1, h2, h3.below hb, fun k hk => (h4 k hk).keep (hb.block k (h4 k hk).lt), fun i hi => X.tu (h5 i hi) hb⟩
  ty h hg hne := by
    obtain ⟨A, c, xs, e, h1, h2, h3, h4, h5⟩ := h
    rw [List.mem_cons, not_or] at hne
    have hb := grew_blk hg h4 hne.1
    refine ⟨A, c, xs, e, h1, h2, h3.grown hg.g hb, fun k hk => (h4 k hk).keep (hg.g.block k (h4 k hk).lt (fun e => ?_)), fun i hi => X.ty (h5 i hi) hg hne.2⟩
    rcases hb with h6 | h6
    · rw [h6] at hk; cases hk
    · exact h6 (hk.trans e)
  tm h hg := by
    obtain ⟨A, c, xs, e, h1, h2, h3, h4, h5⟩ := h
    have hb := growm_blk hg h4
    refine ⟨A, c, xs, e, h1, h2, h3.grown hg.g hb, fun k hk => (h4 k hk).keep (hg.g.block k (h4 k hk).lt (fun e => ?_)), fun i hi => X.tm (h5 i hi) hg⟩
    rcases hb with h6 | h6
    · rw [h6] at hk; cases hk
    · exact h6 (hk.trans e)

/-- The elements of a slice. -/
def RSl {α : Type} (X : GoT α) (w : World) (A : Option Addr) (L : List α) : Prop := ∃ xs, Reads w X.sz A L.length xs ∧ ∀ i (h : i < L.length), X.R w (part xs X.sz i) L[i]
section
variable {α : Type} {X : GoT α} {w w' : World} {A : Option Addr} {L : List α}
theorem RSl.u (h : RSl X w A L) (hb : Below w.heap.size w w') : RSl X w' A L := by obtain ⟨xs, h1, h2⟩ := h; exact ⟨xs, h1.below hb, fun i hi => X.u (h2 i hi) hb⟩
theorem RSl.some_ (h : RSl X w A L) (h0 : 0 < X.sz) (hl : 0 < L.length) : A = some (A.getD ⟨0, 0, none⟩) := by obtain ⟨xs, h1, h2⟩ := h; exact h1.some_ h0 hl
theorem RSl.elem (h : RSl X w A L) (h0 : 0 < X.sz) {i : Nat} (hi : i < L.length) : ∃ cs, CellsAt w A (i * X.sz) cs ∧ X.R w cs L[i] := by obtain ⟨xs, h1, h2⟩ := h; exact ⟨_, h1.cellsAt hi h0, h2 i hi⟩
end

section
variable {α β γ δ : Type} {P : Program} {t e : TypeId}
theorem part_append_lt {xs ys : List Value} {m i k : Nat} (hx : xs.length = k * m) (hi : i < k) : part (xs ++ ys) m i = part xs m i := by
  have h1 : (i + 1) * m ≤ k * m := Nat.mul_le_mul_right _ hi
  rw [Nat.add_mul, Nat.one_mul] at h1
  unfold part
  rw [List.drop_append_of_le_length (by omega), List.take_append_of_le_length (by rw [List.length_drop]; omega)]
end
end Go.Proofs.YtnnhenafhalobaaGreat
/-
  Rows of values of any Go type: slices of the call's own, literals, appends. No function of the program is named here.
-/
namespace Go.Proofs.YtnnhenafhalobaaGreat
set_option maxRecDepth 100000
open Go.RowKit
theorem part_flatMap {f : Value → List Value} {m : Nat} : ∀ (vs : List Value) (_ : ∀ v ∈ vs, (f v).length = m) (i : Nat) (hi : i < vs.length), part (vs.flatMap f) m i = f vs[i]
  | v :: vs, h, 0, _ => by
    simp only [part, Nat.zero_mul, List.drop_zero, List.flatMap_cons, List.getElem_cons_zero]
    rw [← h v (by simp)]
    exact List.take_left
  | v :: vs, h, i + 1, hi => by
    have ih := part_flatMap vs (fun u hu => h u (by simp [hu])) i (by simpa using hi)
    simp only [part, List.flatMap_cons, List.getElem_cons_succ] at ih ⊢
    rw [← ih, show (i + 1) * m = (f v).length + i * m by rw [h v (by simp), Nat.add_mul]; omega, ← List.drop_drop, List.drop_left]
section
variable {α : Type} {X : GoT α} {e e' : TypeId} {w w' : World} {lo hi lo' hi' c b : Nat} {A : Option Addr} {L M : List α} {row : Option Nat}
/-- Elements that are read, with the types of what they reach. -/
def RSlT (X : GoT α) (e : TypeId) (w : World) (A : Option Addr) (L : List α) : Prop := ∃ xs, Reads w X.sz A L.length xs ∧ (∀ k, blk A = some k → TyAt w k e) ∧ ∀ i (h : i < L.length), X.T w (part xs X.sz i) L[i]
theorem RSlT.to_RSl (h : RSlT X e w A L) : RSl X w A L := by obtain ⟨xs, h1, h2, h3⟩ := h; exact ⟨xs, h1, fun i hi => X.tr (h3 i hi)⟩
/-- Elements of a row of the call's own. -/
def OwnS (X : GoT α) (e : TypeId) (w : World) (lo hi : Nat) (A : Option Addr) (c : Nat) (L : List α) : Prop := ∃ xs, RowH w lo hi e X.sz A L.length c xs ∧ ∀ i (h : i < L.length), X.T w (part xs X.sz i) L[i]
theorem OwnS.u (h : OwnS X e w lo hi A c L) (hb : Below w.heap.size w w') : OwnS X e w' lo hi A c L := by
  obtain ⟨xs, h1, h2⟩ := h
  exact ⟨xs, h1.u hb, fun i hi => X.tu (h2 i hi) hb⟩
theorem OwnS.d (h : OwnS X e w lo hi A c L) : OwnS X e w.drew lo hi A c L := h.u (below_drew w)
theorem OwnS.y (h : OwnS X e w lo hi A c L) (hg : Grew w w' e' row) (hne : e' ∉ e :: X.tys) : OwnS X e w' lo hi A c L := by
  obtain ⟨xs, h1, h2⟩ := h
  rw [List.mem_cons, not_or] at hne
  exact ⟨xs, h1.y hg hne.1, fun i hi => X.ty (h2 i hi) hg hne.2⟩
theorem OwnS.q (h : OwnS X e w lo hi A c L) (hg : Grew w w' e' row) (ha : Ap row lo hi) (hne : e' ∉ X.tys) : OwnS X e w' lo hi A c L := by
  obtain ⟨xs, h1, h2⟩ := h
  exact ⟨xs, h1.k hg.g ha, fun i hi => X.ty (h2 i hi) hg hne⟩
theorem OwnS.m (h : OwnS X e w lo hi A c L) (hg : GrewM w w' b) : OwnS X e w' lo hi A c L := by
  obtain ⟨xs, h1, h2⟩ := h
  exact ⟨xs, h1.m hg, fun i hi => X.tm (h2 i hi) hg⟩
theorem OwnS.ap (h : OwnS X e w lo hi A c L) (hd : hi ≤ lo' ∨ hi' ≤ lo) : Ap (blk A) lo' hi' := by obtain ⟨xs, h1, _⟩ := h; exact h1.ap hd
theorem OwnS.cap (h : OwnS X e w lo hi A c L) : L.length ≤ c := by obtain ⟨xs, h1, _⟩ := h; exact h1.cap
theorem OwnS.nil_ : OwnS X e w lo hi none 0 [] := ⟨[], RowH.nil _ _ _ _ _, fun i h => absurd h (Nat.not_lt_zero _)⟩
theorem OwnS.base (h : OwnS X e w lo hi A c L) (h1 : lo' ≤ lo) (h2 : hi ≤ hi') : OwnS X e w lo' hi' A c L := by obtain ⟨xs, h3, h4⟩ := h; exact ⟨xs, h3.base h1 h2, h4⟩
theorem OwnS.to_RSlT (h : OwnS X e w lo hi A c L) : RSlT X e w A L := by obtain ⟨xs, h1, h2⟩ := h; exact ⟨xs, h1.rd, h1.ty, h2⟩
theorem OwnS.to_RSl (h : OwnS X e w lo hi A c L) : RSl X w A L := h.to_RSlT.to_RSl
theorem litS_part {vs : List Value} {L : List α} (hn : vs.length = L.length) (hX : ∀ i (h : i < L.length), ∃ v, vs[i]? = some v ∧ v.cells.size = X.sz ∧ X.T w v.cells.toList L[i]) :
    ∀ i (h : i < L.length), X.T w (part (vs.flatMap fun v => v.cells.toList) X.sz i) L[i] := fun i h => by
  have hall : ∀ v ∈ vs, v.cells.toList.length = X.sz := fun v hv => by
    obtain ⟨j, hj, rfl⟩ := List.getElem_of_mem hv
    obtain ⟨u, h1, h2, _⟩ := hX j (by omega)
    rw [List.getElem?_eq_getElem hj] at h1
    injection h1 with h1
    rw [h1, Array.length_toList]; exact h2
  rw [part_flatMap vs hall i (by omega)]
  obtain ⟨v, h1, _, h3⟩ := hX i h
  rw [List.getElem?_eq_getElem (by omega)] at h1
  injection h1 with h1
  rw [h1]; exact h3
end
section
variable {α : Type} {X : GoT α} {P : Program} {fn : Func} {F : Ending → World → Prop} {N : Nat} {ks : List K} {ops : Array Oper} {tg : Tags} {l : List Oper} {fr : Fr} {w : World} {ty t e : TypeId} {z : Value} {pos : String} {aft : Array Edge} {gd : Option (Nat × Bool)} {d n sz bytes c j q lo hi : Nat} {x y : Operand} {A B : Option Addr} {L M : List α}
theorem wl_litS {ps : Array (Nat × Operand)} {xs : List Operand} {vs : List Value} (T : RowT P t e z X.sz bytes) (hs : ∀ w, (sizeOf e).run P w = .ok X.sz w) (hz : ∀ w, (zeroValue e).run P w = .ok z w) (hxs : ps.toList.map Prod.snd = xs) (hps : ps = ((List.range' 0 n).zip xs).toArray) (hx : fr.evs xs = some vs) (hn : vs.length = n) (hL : L.length = n)
    (hX : ∀ i (h : i < L.length), ∃ v, vs[i]? = some v ∧ v.cells.size = X.sz ∧ X.T w v.cells.toList L[i]) (hm : Nat.ble (n * X.sz) 1000000 = true)
    (hk : ∀ A w', OwnS X e w' w.heap.size w'.heap.size A n L → Below w.heap.size w w' → WL P fn F N ks ops tg.tail l ((d, .slice A n n) :: fr) w')
    (ht : tg.loud = true := by rfl) (hg : onG ops fr gd = true := by rfl) (hd : Nat.blt d N = true := by rfl) : WL P fn F N ks ops tg (⟨some d, .buildSlice t n ps, ty, pos, aft, gd⟩ :: l) fr w := by
  refine wl_litR T hs hz hxs hps hx hn (fun v hv => ?_) hm (fun A w' h1 h2 => hk A w' ⟨_, ?_, fun i h => X.tu (litS_part (w := w) (by omega) hX i h) h2⟩ h2) ht hg hd
  · obtain ⟨j, hj, rfl⟩ := List.getElem_of_mem hv
    obtain ⟨u, h1, h2, _⟩ := hX j (by omega)
    rw [List.getElem?_eq_getElem hj] at h1
    injection h1 with h1
    rw [h1]; exact h2
  · rw [hL]; exact h1
theorem litR_part {vs : List Value} (hn : vs.length = L.length) (hX : ∀ i (h : i < L.length), ∃ v, vs[i]? = some v ∧ v.cells.size = X.sz ∧ X.R w v.cells.toList L[i]) :
    ∀ i (h : i < L.length), X.R w (part (vs.flatMap fun v => v.cells.toList) X.sz i) L[i] := fun i h => by
  have hall : ∀ v ∈ vs, v.cells.toList.length = X.sz := fun v hv => by
    obtain ⟨j, hj, rfl⟩ := List.getElem_of_mem hv
    obtain ⟨u, h1, h2, _⟩ := hX j (by omega)
    rw [List.getElem?_eq_getElem hj] at h1
    injection h1 with h1
    rw [h1, Array.length_toList]; exact h2
  rw [part_flatMap vs hall i (by omega)]
  obtain ⟨v, h1, _, h3⟩ := hX i h
  rw [List.getElem?_eq_getElem (by omega)] at h1
  injection h1 with h1
  rw [h1]; exact h3
/-- A literal of what is only read. -/
theorem wl_litRS {ps : Array (Nat × Operand)} {xs : List Operand} {vs : List Value} (T : RowT P t e z X.sz bytes) (hs : ∀ w, (sizeOf e).run P w = .ok X.sz w) (hz : ∀ w, (zeroValue e).run P w = .ok z w) (hxs : ps.toList.map Prod.snd = xs) (hps : ps = ((List.range' 0 n).zip xs).toArray) (hx : fr.evs xs = some vs) (hn : vs.length = n) (hL : L.length = n)
    (hX : ∀ i (h : i < L.length), ∃ v, vs[i]? = some v ∧ v.cells.size = X.sz ∧ X.R w v.cells.toList L[i]) (hm : Nat.ble (n * X.sz) 1000000 = true)
    (hk : ∀ A w', RSl X w' A L → Below w.heap.size w w' → WL P fn F N ks ops tg.tail l ((d, .slice A n n) :: fr) w')
    (ht : tg.loud = true := by rfl) (hg : onG ops fr gd = true := by rfl) (hd : Nat.blt d N = true := by rfl) : WL P fn F N ks ops tg (⟨some d, .buildSlice t n ps, ty, pos, aft, gd⟩ :: l) fr w := by
  refine wl_litR T hs hz hxs hps hx hn (fun v hv => ?_) hm (fun A w' h1 h2 => hk A w' ⟨_, ?_, fun i h => X.u (litR_part (w := w) (by omega) hX i h) h2⟩ h2) ht hg hd
  · obtain ⟨j, hj, rfl⟩ := List.getElem_of_mem hv
    obtain ⟨u, h1, h2, _⟩ := hX j (by omega)
    rw [List.getElem?_eq_getElem hj] at h1
    injection h1 with h1
    rw [h1]; exact h2
  · rw [hL]; exact h1.rd
theorem wl_appS (T : RowT P t e z X.sz bytes) (hx : fr.ev x = some (.slice A n c)) (hown : OwnS X e w lo hi A c L) (hn : n = L.length) (hy : fr.ev y = some (.slice B j q)) (hr : RSlT X e w B M) (hj : j = M.length) (hne : e ∉ X.tys) (h1 : ∀ w cs a, X.T w cs a → ∀ u ∈ cs, u.oneCell' = true) (hlen : (L.length + M.length) * bytes ≤ 140737488355328) (hmx : L.length + M.length ≤ 1000000000) (hB : lo ≤ w.heap.size)
    (h : ∀ A' c' w', OwnS X e w' lo w'.heap.size A' c' (L ++ M) → Grew w w' e (blk A) → Below lo w w' → (blk A' = blk A ∨ blk A' = some w.heap.size) → WL P fn F N ks ops tg.tail l ((d, .slice A' (L ++ M).length c') :: fr) w')
    (ht : tg.loud = true := by rfl) (hg : onG ops fr gd = true := by rfl) (hd : Nat.blt d N = true := by rfl) (hq : tg.calm = false ∨ blk A = none ∨ blk A = tg.row := by exact .inl rfl) :
    WL P fn F N ks ops tg (⟨some d, .call { callee := .builtin .append, args := #[x, y], argTypes := #[t, t] }, ty, pos, aft, gd⟩ :: l) fr w := by
  subst hn; subst hj
  obtain ⟨xs, g1, g2⟩ := hown
  obtain ⟨ms, r1, r2, r3⟩ := hr
  have hxl : xs.length = L.length * X.sz := g1.rd.1
  have hml : ms.length = M.length * X.sz := r1.1
  refine wl_appR T hx g1 hy r1 (fun u hu => ?_) (by simp only [maxLen]; omega) hlen hB (fun A' c' w' k1 k2 k3 k4 => ?_) ht hg hd hq
  · obtain ⟨i, hi, rfl⟩ := List.getElem_of_mem hu
    have h0 := T.h0
    have hq : i / X.sz < M.length := (Nat.div_lt_iff_lt_mul h0).2 (by omega)
    refine h1 _ _ _ (r3 _ hq) _ (List.mem_of_getElem? (i := i % X.sz) ?_)
    rw [part_get (Nat.mod_lt _ h0), Nat.div_add_mod' i X.sz]
    exact List.getElem?_eq_getElem hi
  · have e2 : (L ++ M).length = L.length + M.length := List.length_append
    rw [← e2] at k1 ⊢
    refine h A' c' w' ⟨_, k1, fun i hi => ?_⟩ k2 k3 k4
    rcases Nat.lt_or_ge i L.length with hl | hl
    · rw [part_append_lt hxl hl, List.getElem_append_left hl]
      exact X.ty (g2 i hl) k2 hne
    · rw [List.getElem_append_right hl]
      have hi2 : i - L.length < M.length := by rw [e2] at hi; omega
      have := X.ty (r3 _ hi2) k2 hne
      have e3 : part (xs ++ ms) X.sz i = part ms X.sz (i - L.length) := by
        unfold part
        rw [show i * X.sz = xs.length + (i - L.length) * X.sz by rw [hxl, ← Nat.add_mul]; congr 1; omega, ← List.drop_drop, List.drop_left]
      rw [e3]; exact this
end
end Go.Proofs.YtnnhenafhalobaaGreat
/-
  A change of nothing but what lies in the blocks from lo to hi. No function of the program is named here.
-/
namespace Go.Proofs.YtnnhenafhalobaaGreat
set_option maxRecDepth 100000
open Go.RowKit
/-- What was there is there still, but for the blocks from lo to hi. -/
structure Chg (lo hi : Nat) (w w' : World) : Prop where
  os : w'.os = w.os
  tape : w'.tape = w.tape
  output : w'.output = w.output
  size : w.heap.size ≤ w'.heap.size
  block : ∀ k, k < w.heap.size → (k < lo ∨ hi ≤ k) → w'.heap[k]? = w.heap[k]?
section
variable {w w' w'' : World} {lo hi lo' hi' B g sz n cp : Nat} {e : TypeId} {A : Option Addr} {xs : List Value} {l : List UInt8} {row : Option Nat}
theorem Chg.below (h : Chg lo hi w w') (hB : B ≤ w.heap.size) (hl : B ≤ lo) : Below B w w' := ⟨h.os, h.tape, h.output, h.size, fun k hk => h.block k (by omega) (.inl (by omega))⟩
theorem Chg.of_below (h : Below w.heap.size w w') : Chg lo hi w w' := ⟨h.os, h.tape, h.output, h.size, fun k hk _ => h.block k hk⟩
theorem Chg.of_lo (h : Below lo w w') (hh : w.heap.size ≤ hi) : Chg lo hi w w' := ⟨h.os, h.tape, h.output, h.size, fun k hk a => h.block k (by omega)⟩
theorem Chg.refl : Chg lo hi w w := Chg.of_below (Below.refl _ _)
theorem Chg.drew : Chg lo hi w w.drew := Chg.of_below (below_drew w)
theorem Chg.of_g (h : w.grownBy w' row) (hr : ∀ k, row = some k → lo ≤ k ∧ k < hi) : Chg lo hi w w' := ⟨h.os, h.tape, h.output, h.size, fun k hk a => h.block k hk (fun e => by have := hr k e.symm; omega)⟩
theorem Chg.of_g1 (h : w.grownBy w' (some g)) (h1 : lo ≤ g) (h2 : g < hi) : Chg lo hi w w' := Chg.of_g h (fun k e => by injection e with e; omega)
theorem Chg.trans (h : Chg lo hi w w') (k : Chg lo hi w' w'') : Chg lo hi w w'' :=
  ⟨k.os.trans h.os, k.tape.trans h.tape, k.output.trans h.output, Nat.le_trans h.size k.size, fun i hi ha => (k.block i (Nat.lt_of_lt_of_le hi h.size) ha).trans (h.block i hi ha)⟩
theorem Chg.thenB (h : Chg lo hi w w') (k : Below w'.heap.size w' w'') : Chg lo hi w w'' := h.trans (Chg.of_below k)
theorem Chg.andNew (h : Chg lo hi w w') (k : w'.grownBy w'' row) (hr : ∀ j, row = some j → w.heap.size ≤ j) : Chg lo hi w w'' :=
  ⟨k.os.trans h.os, k.tape.trans h.tape, k.output.trans h.output, Nat.le_trans h.size k.size, fun i hi ha => (k.block i (Nat.lt_of_lt_of_le hi h.size) (fun e => by have := hr i e.symm; omega)).trans (h.block i hi ha)⟩
theorem Chg.wide (h : Chg lo hi w w') (h1 : lo' ≤ lo) (h2 : hi ≤ hi') : Chg lo' hi' w w' := ⟨h.os, h.tape, h.output, h.size, fun k hk a => h.block k hk (by omega)⟩
theorem Blk.c {t : TypeId} {cs : List Value} (h : Blk w g t cs) (hc : Chg lo hi w w') (ha : g < lo ∨ hi ≤ g) : Blk w' g t cs := (hc.block g h.lt ha).trans h
theorem RowH.c (h : RowH w lo hi e sz A n cp xs) (hc : Chg lo' hi' w w') (ha : hi ≤ lo' ∨ hi' ≤ lo) : RowH w' lo hi e sz A n cp xs :=
  ⟨⟨h.o.1, by
    rcases h.o.2 with h3 | ⟨g, cap, cur, h3, h4, h5, h6⟩
    · exact .inl h3
    · have hA : A = some ⟨g, 0, none⟩ := by injection h3
      have hg := h.hi g (by rw [hA]; rfl)
      have hl := h.lt g (by rw [hA]; rfl)
      exact .inr ⟨g, cap, cur, h3, h4, (hc.block g hl.2 (by omega)).trans h5, h6⟩⟩, h.hi⟩
theorem OwnH.c (h : OwnH w lo hi A n l) (hc : Chg lo' hi' w w') (ha : hi ≤ lo' ∨ hi' ≤ lo) : OwnH w' lo hi A n l := RowH.c h hc ha
theorem Rd.c (h : Rd w A l) (hc : Chg lo hi w w') (ha : ∀ k, blk A = some k → k < lo ∨ hi ≤ k) : Rd w' A l := by
  by_cases hl : l = []
  · subst hl; exact ⟨h.1, fun h => absurd rfl h⟩
  · obtain ⟨b, o, rfl, hcl⟩ := h.2 (fun e => hl (by cases l with | nil => rfl | cons x y => cases e))
    refine ⟨h.1, fun _ => ⟨b, o, rfl, fun j u hj => ?_⟩⟩
    have h1 := hcl j u hj
    have hlt : b < w.heap.size := block_lt_of_cell h1
    rw [← h1]
    show World.cell? w' _ = World.cell? w _
    unfold World.cell?
    rw [show w'.heap[b]? = w.heap[b]? from hc.block b hlt (ha b rfl)]
/-- Bytes that are read, in the blocks from lo to hi. -/
structure RdB (w : World) (lo hi : Nat) (A : Option Addr) (l : List UInt8) : Prop where
  r : Rd w A l
  b : ∀ k, blk A = some k → lo ≤ k ∧ k < hi
theorem RdB.u (h : RdB w lo hi A l) (hb : Below w.heap.size w w') : RdB w' lo hi A l := ⟨h.r.u hb, h.b⟩
theorem RdB.c (h : RdB w lo hi A l) (hc : Chg lo' hi' w w') (ha : hi ≤ lo' ∨ hi' ≤ lo) : RdB w' lo hi A l := ⟨Rd.c h.r hc (fun k e => by have := h.b k e; omega), h.b⟩
theorem RdB.k (h : RdB w lo hi A l) (hg : w.grownBy w' row) (ha : Ap row lo hi) : RdB w' lo hi A l := by
  refine ⟨h.r.grown hg ?_, h.b⟩
  cases hA : blk A with
  | none => exact .inl rfl
  | some k => exact .inr fun e => by have := h.b k hA; have := ha k e.symm; omega
theorem RdB.to_Rd (h : RdB w lo hi A l) : Rd w A l := h.r
theorem RdB.base (h : RdB w lo hi A l) (h1 : lo' ≤ lo) (h2 : hi ≤ hi') : RdB w lo' hi' A l := ⟨h.r, fun k e => by have := h.b k e; omega⟩
theorem RdB.nil_ : RdB w lo hi none [] := ⟨Rd.nil w none, fun k e => by cases e⟩
theorem OwnH.rdB (h : OwnH w lo hi A n l) : RdB w lo hi A l := ⟨h.to_Rd, fun k hk => ⟨(RowH.lt h k hk).1, h.hi k hk⟩⟩
theorem Blk.rdB {t : TypeId} (h : Blk w g t (B8 l)) : RdB w g (g + 1) (some ⟨g, 0, none⟩) l :=
  ⟨⟨by rw [B8_length, Nat.mul_one], fun _ => ⟨g, 0, rfl, fun j u hj => by rw [h.cell, Nat.zero_add]; exact hj⟩⟩, fun k e => by simp [blk] at e; omega⟩
/-- Elements that look at no memory: kept with their row. -/
theorem OwnS.c0 {α : Type} {X : GoT α} {L : List α} (h : OwnS X e w lo hi A cp L) (hX : ∀ {cs a}, X.T w cs a → X.T w' cs a) (hc : Chg lo' hi' w w') (ha : hi ≤ lo' ∨ hi' ≤ lo) : OwnS X e w' lo hi A cp L := by
  obtain ⟨xs, h1, h2⟩ := h
  exact ⟨xs, h1.c hc ha, fun i hi => hX (h2 i hi)⟩
end
end Go.Proofs.YtnnhenafhalobaaGreat
/-
  Strings: byte slices as strings, and the order of strings. No function of the program is named here.
-/
namespace Go.Proofs.YtnnhenafhalobaaGreat
set_option maxRecDepth 100000
open Go.RowKit
section
variable {P : Program} {fn : Func} {F : Ending → World → Prop} {N : Nat} {ks : List K} {ops : Array Oper} {tg : Tags} {l : List Oper} {fr : Fr} {w w0 : World} {ty t t' xt : TypeId} {pos : String} {aft : Array Edge} {gd : Option (Nat × Bool)} {d : Nat} {x y : Operand} {s u : List UInt8}
--@ rule convert r o_strU
theorem o_strU {A : Option Addr} {n c : Nat} {src e dst : TypeId} {l : List UInt8} (hs : P.underlying src = some (.slice e)) (he : P.underlying e = some (.int .u8)) (hd : P.underlying dst = some .string) (hx : fr.ev x = some (.slice A n c)) (hr : Rd w0 A l) (hb : Below w0.heap.size w0 w) (hn : n = l.length) :
    OpV P N fr w (.convert src dst x) ty (.string ⟨l.toArray⟩) w := o_str hs he hd hx hn (hr.below hb)
end
section
variable {fn : Func} {F : Ending → World → Prop} {N : Nat} {ks : List K} {ops : Array Oper} {tg : Tags} {l : List Oper} {fr : Fr} {w : World} {ty : TypeId} {pos : String} {aft : Array Edge} {gd : Option (Nat × Bool)} {d : Nat} {x y : Operand}
end
end Go.Proofs.YtnnhenafhalobaaGreat
/-
  Maps from numbers to sectors (256 bytes).
-/
namespace Go.Proofs.YtnnhenafhalobaaGreat
set_option maxRecDepth 100000
open Go.RowKit
/-- A sector. -/
abbrev Sec := { l : List UInt8 // l.length = 256 }
abbrev vS (s : Sec) : Value := .agg (B8 s.1).toArray
theorem B8_in : ∀ {l m : List UInt8}, B8 l = B8 m → l = m
  | [], [], _ => rfl
  | [], _ :: _, h => by cases h
  | _ :: _, [], h => by cases h
  | a :: l, b :: m, h => by
    simp only [B8, List.map_cons, List.cons.injEq, Value.int.injEq, true_and] at h
    rw [UInt8.toNat_inj.1 (Int.ofNat.inj h.1), B8_in (l := l) (m := m) h.2]
theorem vS_inj {d e : Sec} (h : vS d = vS e) : d = e := by
  unfold vS at h
  injection h with h
  exact Subtype.ext (B8_in (List.toArray_inj h))
/-- How a sector in a map reads. -/
noncomputable def secElem (v : Value) : Option (DataW Unit × List MemPlace) := by
  classical
  exact if h : ∃ s : Sec, v = vS s then some (.lit (.string h.choose.1), []) else none
theorem secElem_mk (s : Sec) : secElem (vS s) = some (.lit (.string s.1), []) := by
  have h : ∃ s' : Sec, vS s = vS s' := ⟨s, rfl⟩
  unfold secElem
  rw [dif_pos h, ← vS_inj h.choose_spec]
theorem secElem_inv {v : Value} {z : DataW Unit × List MemPlace} (h : secElem v = some z) : ∃ s : Sec, v = vS s ∧ z = (.lit (.string s.1), []) := by
  unfold secElem at h
  split at h
  · rename_i h1
    injection h with h
    exact ⟨h1.choose, h1.choose_spec, h.symm⟩
  · cases h
theorem secElem_lit {v : Value} {s : Sec} {ps : List MemPlace} (h : secElem v = some (.lit (.string s.1), ps)) : v = vS s := by
  obtain ⟨s', rfl, e⟩ := secElem_inv h
  injection e with e _
  injection e with e
  injection e with e
  rw [Subtype.ext e]
/-- What is cached of the sector z. -/
def cAt (C : List (Option Sec)) (z : Int) : Option Sec := if 0 ≤ z then (C[z.toNat]?).getD none else none
def cnt (C : List (Option Sec)) : Nat := C.countP Option.isSome
theorem cnt_le (C : List (Option Sec)) : cnt C ≤ C.length := List.countP_le_length
theorem cAt_nat (C : List (Option Sec)) {i : Nat} (h : i < C.length) : cAt C (i : Int) = C[i] := by
  rw [cAt, if_pos (by omega)]
  simp [h]
theorem cAt_set (C : List (Option Sec)) {i : Nat} (h : i < C.length) (s : Option Sec) (z : Int) : cAt (C.set i s) z = if z = i then s else cAt C z := by
  unfold cAt
  by_cases hz : 0 ≤ z
  · rw [if_pos hz, if_pos hz, List.getElem?_set]
    by_cases e : z = i
    · rw [if_pos e, if_pos (by omega), if_pos h]; rfl
    · rw [if_neg e, if_neg (by omega)]
  · rw [if_neg hz, if_neg hz, if_neg (by omega)]
theorem cAt_none (n : Nat) (z : Int) : cAt (List.replicate n none) z = none := by
  unfold cAt
  split
  · rw [List.getElem?_replicate]
    split <;> rfl
  · rfl
theorem cnt_set : ∀ (C : List (Option Sec)) {i : Nat} (h : i < C.length) (s : Sec), cnt (C.set i (some s)) = if (C[i]).isSome then cnt C else cnt C + 1
  | [], _, h, _ => absurd h (Nat.not_lt_zero _)
  | x :: C, 0, _, s => by cases x <;> simp [cnt, List.countP_cons]
  | x :: C, i + 1, h, s => by
    have ih := cnt_set C (i := i) (by simpa using h) s
    unfold cnt at ih ⊢
    rw [List.set_cons_succ, List.countP_cons, ih, List.countP_cons, List.getElem_cons_succ]
    split <;> omega
/-- Block b is a map of sectors that holds what C has. -/
def MapS (w : World) (b : Nat) (C : List (Option Sec)) : Prop :=
  ∃ D, w.ownsMap (H := Unit) Tryz.prog 3 secElem b (cnt C) D ∧ Maps.size D = cnt C ∧ ∀ z, (Lit.int .i64 z).wf = true → Maps.has D (.int .i64 z) = (cAt C z).isSome ∧ ∀ s, cAt C z = some s → ∀ d, D.atKey (.int .i64 z) d = .lit (.string s.1)
theorem Tryz.keyI : Go.Maps.Keyed Tryz.prog 3 := Go.Maps.int_keyed Tryz.underlying3
section
variable {w w' : World} {b lo hi : Nat} {C : List (Option Sec)} {row : Option Nat}
theorem MapS.lt (h : MapS w b C) : b < w.heap.size := by obtain ⟨D, h, -⟩ := h; exact h.lt
theorem MapS.keep (h : MapS w b C) (hb : w'.heap[b]? = w.heap[b]?) : MapS w' b C := by
  obtain ⟨D, ⟨es, clock, h1, h2⟩, h3⟩ := h
  exact ⟨D, ⟨es, clock, hb.trans h1, h2⟩, h3⟩
theorem MapS.u (h : MapS w b C) (hb : Below w.heap.size w w') : MapS w' b C := h.keep (hb.block b h.lt)
theorem MapS.d (h : MapS w b C) : MapS w.drew b C := h
theorem MapS.k (h : MapS w b C) (hg : w.grownBy w' row) (ha : Ap row b (b + 1)) : MapS w' b C := h.keep (hg.block b h.lt (fun e => by have := ha b e.symm; omega))
theorem MapS.y {e : TypeId} (h : MapS w b C) (hg : Grew w w' e row) (_ : 0 = 0) : MapS w' b C := by
  refine h.keep (hg.g.block b h.lt (fun e' => ?_))
  obtain ⟨cs, f, h3⟩ := hg.ty b e'.symm
  obtain ⟨_, ⟨_, _, h4, _⟩, _⟩ := h
  rw [h4] at h3
  cases h3
theorem MapS.c (h : MapS w b C) (hc : Chg lo hi w w') (ha : b < lo ∨ hi ≤ b) : MapS w' b C := h.keep (hc.block b h.lt ha)
end
/-- A sector of zeros. -/
def z256 : Sec := ⟨List.replicate 256 0, List.length_replicate⟩
theorem B8_rep (n : Nat) : B8 (List.replicate n 0) = List.replicate n (.int .u8 0) := by
  unfold B8; rw [List.map_replicate]; rfl
theorem Tryz.zeroSec (w : World) : (zeroValue 95).run Tryz.prog w = .ok (vS z256) w := by
  have h : (zeroValue 95).run Tryz.prog w = .ok (.agg (List.replicate 256 (.int .u8 0)).toArray) w := by kernel_rfl
  rw [h]
  show _ = Result.ok (Value.agg (B8 (List.replicate 256 0)).toArray) w
  rw [B8_rep]
section
variable {P : Program} {fn : Func} {F : Ending → World → Prop} {N : Nat} {ks : List K} {ops : Array Oper} {tg : Tags} {l : List Oper} {fr : Fr} {w : World} {ty t t' e : TypeId} {pos : String} {aft : Array Edge} {gd : Option (Nat × Bool)} {d b n : Nat} {x y z : Operand} {C : List (Option Sec)} {q : Int} {s : Sec}
--@ rule lookup r o_lookS2
/-- v, ok := m[x] -/
theorem o_lookS2 {r : Option Sec} (hu : Tryz.prog.underlying t = some (.map 3 95)) (hx : fr.ev x = some (.map (some b))) (hy : fr.ev y = some (.int .i64 q)) (hS : MapS w b C) (hr : cAt C q = r) (hq : (Lit.int .i64 q).wf = true) :
    OpV Tryz.prog N fr w (.lookup t x y true) ty (.tuple #[vS (r.getD z256), .bool r.isSome]) w := fun a ha o ho' _ => by
  subst hr
  obtain ⟨D, ho, hs, hh⟩ := hS
  obtain ⟨h1, h2⟩ := hh q hq
  obtain ⟨v, ps, hrun, hv⟩ := ho.look_ok Tryz.keyI hu (Tryz.zeroSec w) (secElem_mk z256) (Go.Maps.keyOf_int_mk Tryz.underlying3 hq)
  have hv2 : v = vS ((cAt C q).getD z256) := by
    cases hc : cAt C q with
    | none =>
      rw [hc] at h1
      rw [Maps.atKey_of_not_has h1] at hv
      exact secElem_lit hv
    | some s =>
      rw [h2 s hc] at hv
      exact secElem_lit hv
  rw [h1] at hrun
  simp [execOp, ho', ha.ev hx, ha.ev hy, hrun, hv2]
--@ rule lookup r o_lookS1
/-- m[x] -/
theorem o_lookS1 {r : Option Sec} (hu : Tryz.prog.underlying t = some (.map 3 95)) (hx : fr.ev x = some (.map (some b))) (hy : fr.ev y = some (.int .i64 q)) (hS : MapS w b C) (hr : cAt C q = r) (hq : (Lit.int .i64 q).wf = true) :
    OpV Tryz.prog N fr w (.lookup t x y false) ty (vS (r.getD z256)) w := fun a ha o ho' _ => by
  subst hr
  obtain ⟨D, ho, hs, hh⟩ := hS
  obtain ⟨h1, h2⟩ := hh q hq
  obtain ⟨v, ps, hrun, hv⟩ := ho.lookup Tryz.keyI hu (Tryz.zeroSec w) (secElem_mk z256) (Go.Maps.keyOf_int_mk Tryz.underlying3 hq)
  have hv2 : v = vS ((cAt C q).getD z256) := by
    cases hc : cAt C q with
    | none =>
      rw [hc] at h1
      rw [Maps.atKey_of_not_has h1] at hv
      exact secElem_lit hv
    | some s =>
      rw [h2 s hc] at hv
      exact secElem_lit hv
  simp [execOp, ho', ha.ev hx, ha.ev hy, hrun, hv2]
--@ rule mapUpdate l wl_putS
/-- m[x] = s -/
theorem wl_putS {i : Nat} (hu : Tryz.prog.underlying t = some (.map 3 95)) (hx : fr.ev x = some (.map (some b))) (hy : fr.ev y = some (.int .i64 q)) (hS : MapS w b C) (hz : fr.ev z = some (vS s)) (hq : q = (i : Int)) (hi : i < C.length) (hL : C.length ≤ 1000000)
    (hk : ∀ w', MapS w' b (C.set i (some s)) → GrewM w w' b → w'.heap.size = w.heap.size → WL Tryz.prog fn F N ks ops tg.tail l fr w')
    (ht : tg.loud = true := by rfl) (hg : onG ops fr gd = true := by rfl) (hq : tg.calm = false ∨ tg.rw.may (some b) := by exact .inl rfl) : WL Tryz.prog fn F N ks ops tg (⟨none, .mapUpdate t x y z, ty, pos, aft, gd⟩ :: l) fr w := by
  rename_i hq0
  subst hq0
  have hwf : (Lit.int .i64 (i : Int)).wf = true := by
    simp only [Lit.wf, Bool.and_eq_true, decide_eq_true_eq]
    exact ⟨by show (-9223372036854775808 : Int) ≤ _; omega, by show _ ≤ (9223372036854775807 : Int); omega⟩
  have hcl := cnt_le C
  obtain ⟨D, ho, hs, hh⟩ := hS
  have hkl := Go.Maps.keyOf_int_mk Tryz.underlying3 hwf
  obtain ⟨w', hrun, ho', hT⟩ := ho.store Tryz.keyI hu (by simp only [maxLen]; omega) hkl (secElem_mk s)
  have hgr := hT.grown
  have hz' : w'.heap.size = w.heap.size := by obtain ⟨_, _, _, _, _, rfl⟩ := hT; simp [Go.ChangeMaps.setBlock]
  have hsz : Maps.size (D.put (.int .i64 (i : Int)) (.lit (.string s.1))) = cnt (C.set i (some s)) := by
    rw [Maps.size_put (ho.tidy Tryz.keyI), (hh _ hwf).1, cAt_nat C hi, cnt_set C hi, hs]
  refine wl_u (w' := w') (fun a ha o hop => ?_) (hk w' ⟨_, ?_, hsz, fun u hu' => ?_⟩ ⟨hgr, by obtain ⟨_, _, h4, _⟩ := ho; exact ⟨_, _, h4⟩⟩ hz') ht hg (hq.imp id (Rw.of_may hgr))
  · simp [execOp, hop, ha.ev hx, ha.ev hy, ha.ev hz, hrun]
  · rw [← hsz]
    obtain ⟨es, clock, g1, g2, g3, g4⟩ := ho'
    exact ⟨es, clock, g1, g2, by rw [g4]; simp [Maps.size, length_sorted], g4⟩
  · rw [cAt_set C hi]
    by_cases hd' : u = i
    · subst hd'
      rw [if_pos rfl]
      refine ⟨Maps.has_put_same ho.isMap (Tryz.keyI.key hkl) _, fun s' e d => ?_⟩
      injection e with e
      rw [← e]
      exact Maps.atKey_put_same ho.isMap (Tryz.keyI.key hkl) _ _
    · rw [if_neg hd']
      have hne : Lit.int .i64 u ≠ .int .i64 (i : Int) := fun h => hd' (by injection h)
      refine ⟨by rw [Maps.has_put_other hne]; exact (hh u hu').1, fun s' e d => ?_⟩
      rw [Maps.atKey_put_other hne]
      exact (hh u hu').2 s' e d
theorem MapS.made (w : World) (n : Nat) : MapS (w.alloc (.map #[] 0)) w.heap.size (List.replicate n none) := by
  have h0 : cnt (List.replicate n none) = 0 := by simp [cnt, List.countP_eq_zero]
  refine ⟨.map [], ?_, by rw [h0]; rfl, fun z _ => ?_⟩
  · rw [h0]; exact World.ownsMap_made w _ _ _
  · rw [cAt_none]; exact ⟨rfl, fun s e => by cases e⟩
--@ rule makeMap l wl_makeS
theorem wl_makeS (n : Nat) (hu : Tryz.prog.underlying t = some (.map 3 95)) (hk : ∀ b w', MapS w' b (List.replicate n none) → Below w.heap.size w w' → w.heap.size ≤ b → b < w'.heap.size → WL Tryz.prog fn F N ks ops tg.tail l ((d, .map (some b)) :: fr) w')
    (ht : tg.loud = true := by rfl) (hg : onG ops fr gd = true := by rfl) (hd : Nat.blt d N = true := by rfl) : WL Tryz.prog fn F N ks ops tg (⟨some d, .makeMap t none, ty, pos, aft, gd⟩ :: l) fr w :=
  wl_v (w' := w.alloc (.map #[] 0)) (fun a _ o ho _ => by simp [execOp, ho, run_makeMap]) (hk _ _ (MapS.made w n) (below_alloc w _) (Nat.le_refl _) (by simp)) ht hg hd (.inr (grown_of_below (below_alloc w _) _))
--@ rule clear l wl_clearM
/-- clear(m) -/
theorem wl_clearM (hu : Tryz.prog.underlying t = some (.map 3 95)) (hx : fr.ev x = some (.map (some b))) (hS : MapS w b C) 
    (hk : ∀ w', MapS w' b (List.replicate C.length none) → GrewM w w' b → w'.heap.size = w.heap.size → WL Tryz.prog fn F N ks ops tg.tail l fr w')
    (ht : tg.loud = true := by rfl) (hg : onG ops fr gd = true := by rfl) (hq : tg.calm = false ∨ some b = tg.row := by exact .inl rfl) : WL Tryz.prog fn F N ks ops tg (⟨none, .call { callee := .builtin .clear, args := #[x], argTypes := #[t] }, ty, pos, aft, gd⟩ :: l) fr w := by
  obtain ⟨D, ⟨es, clock, hb, Ft, _, _⟩, _⟩ := hS
  obtain ⟨w', hw'⟩ : ∃ w', Go.ChangeMaps.setBlock w b (.map #[] clock) = w' := ⟨_, rfl⟩
  have hT : w.mapTurned w' b := ⟨es, clock, #[], clock, hb, hw'.symm⟩
  have hgr := hT.grown
  have hz' : w'.heap.size = w.heap.size := by rw [← hw']; simp [Go.ChangeMaps.setBlock]
  have h0 : cnt (List.replicate C.length none) = 0 := by simp [cnt, List.countP_eq_zero]
  have hb' : w'.heap[b]? = some (.map #[] clock) := by rw [← hw']; exact Go.ChangeMaps.heap_setBlock_same hb _
  have hrun : (Builtin.clear_ #[t] ty #[.map (some b)]).run Tryz.prog w = .ok (.tuple #[]) w' := by
    rw [← hw']
    simp [Builtin.clear_, run_underlying hu, MapKept.run_getObj_map hb, MapKept.run_setObj_map _ hb, Result.andThen, Go.ChangeMaps.setBlock]
  refine wl_v0 (o_builtin (v := .tuple #[]) (xs := [x]) (vs := [.map (some b)]) (by simp [Fr.evs, hx]) (by simp [builtin, hrun]) (by simp)) (hk w' ⟨.map [], ?_, by rw [h0]; rfl, fun z _ => ?_⟩ ⟨hgr, ⟨_, _, hb⟩⟩ hz') ht hg (hq.imp id fun (e : some b = tg.row) => e ▸ hgr)
  · rw [h0]; exact ⟨#[], clock, hb', ⟨by simp, MapKept.stamped_empty clock, by simp⟩, Nat.le_refl _, rfl⟩
  · rw [cAt_none]; exact ⟨rfl, fun s e => by cases e⟩
end
end Go.Proofs.YtnnhenafhalobaaGreat
/-
  Plain laws of disks: what is there, what is cached, what a crash leaves. No program in sight.
-/
namespace Go.Proofs.YtnnhenafhalobaaGreat
set_option maxRecDepth 100000
open Go.RowKit
/-- What is read. -/
def cur : List Sec → List (Option Sec) → List Sec
  | s :: S, c :: C => c.getD s :: cur S C
  | S, _ => S
theorem cur_len : ∀ (S : List Sec) (C : List (Option Sec)), (cur S C).length = S.length
  | [], _ => by simp [cur]
  | s :: S, [] => by simp [cur]
  | s :: S, c :: C => by simp [cur, cur_len S C]
theorem cur_get : ∀ (S : List Sec) (C : List (Option Sec)) (i : Nat) (h : i < S.length) (h2 : i < C.length), (cur S C)[i]'(by rw [cur_len]; exact h) = (C[i]).getD S[i]
  | s :: S, c :: C, 0, _, _ => rfl
  | s :: S, c :: C, i + 1, h, h2 => by
    have := cur_get S C i (by simpa using h) (by simpa using h2)
    simpa [cur] using this
theorem cur_none : ∀ (S : List Sec) (n : Nat), cur S (List.replicate n none) = S
  | [], _ => by simp [cur]
  | s :: S, 0 => by simp [cur]
  | s :: S, n + 1 => by rw [List.replicate_succ, cur, cur_none S n]; rfl
theorem cur_set : ∀ (S : List Sec) (C : List (Option Sec)) (i : Nat) (s : Sec), C.length = S.length → cur S (C.set i (some s)) = (cur S C).set i s
  | [], C, i, s, h => by
    obtain rfl : C = [] := List.length_eq_zero_iff.1 h
    simp [cur]
  | x :: S, [], i, s, h => by cases h
  | x :: S, c :: C, 0, s, h => by simp [cur]
  | x :: S, c :: C, i + 1, s, h => by simp [cur, cur_set S C i s (by simpa using h)]
/-- The cached sectors' numbers. -/
def ixs : Nat → List (Option Sec) → List Nat
  | _, [] => []
  | k, none :: C => ixs (k + 1) C
  | k, some _ :: C => k :: ixs (k + 1) C
def cix (C : List (Option Sec)) : List Nat := ixs 0 C
theorem ixs_len : ∀ (k : Nat) (C : List (Option Sec)), (ixs k C).length = cnt C
  | _, [] => rfl
  | k, none :: C => by rw [ixs, ixs_len (k + 1) C]; simp [cnt]
  | k, some _ :: C => by rw [ixs, List.length_cons, ixs_len (k + 1) C]; simp [cnt]
theorem cix_len (C : List (Option Sec)) : (cix C).length = cnt C := ixs_len 0 C
theorem ixs_mem : ∀ (k : Nat) (C : List (Option Sec)) (j : Nat), j ∈ ixs k C ↔ k ≤ j ∧ ∃ h : j - k < C.length, (C[j - k]).isSome
  | k, [], j => by simp [ixs]
  | k, c :: C, j => by
    have ih := ixs_mem (k + 1) C j
    have key : (k + 1 ≤ j ∧ ∃ h : j - (k + 1) < C.length, (C[j - (k + 1)]).isSome) ↔ (k + 1 ≤ j ∧ ∃ h : j - k < (c :: C).length, ((c :: C)[j - k]).isSome) := by
      constructor
      · rintro ⟨h1, h2, h3⟩
        refine ⟨h1, by simp; omega, ?_⟩
        rw [List.getElem_cons, dif_neg (by omega)]
        simpa [show j - k - 1 = j - (k + 1) by omega] using h3
      · rintro ⟨h1, h2, h3⟩
        refine ⟨h1, by simp at h2; omega, ?_⟩
        rw [List.getElem_cons, dif_neg (by omega)] at h3
        simpa [show j - k - 1 = j - (k + 1) by omega] using h3
    cases c with
    | none =>
      rw [ixs, ih, key]
      constructor
      · rintro ⟨h1, h2⟩; exact ⟨by omega, h2⟩
      · rintro ⟨h1, h2, h3⟩
        refine ⟨?_, h2, h3⟩
        rcases Nat.lt_or_ge k j with h | h
        · omega
        · obtain rfl : j = k := by omega
          simp at h3
    | some s =>
      rw [ixs, List.mem_cons, ih, key]
      constructor
      · rintro (rfl | ⟨h1, h2⟩)
        · exact ⟨Nat.le_refl _, by simp, by simp⟩
        · exact ⟨by omega, h2⟩
      · rintro ⟨h1, h2⟩
        rcases Nat.lt_or_ge k j with h | h
        · exact .inr ⟨by omega, h2⟩
        · exact .inl (by omega)
theorem cix_mem (C : List (Option Sec)) (j : Nat) : j ∈ cix C ↔ ∃ h : j < C.length, (C[j]).isSome := by
  rw [cix, ixs_mem]; simp
theorem ixs_sorted : ∀ (k : Nat) (C : List (Option Sec)), (ixs k C).Pairwise (· < ·)
  | _, [] => List.Pairwise.nil
  | k, none :: C => ixs_sorted (k + 1) C
  | k, some _ :: C => List.pairwise_cons.2 ⟨fun j hj => by have := ((ixs_mem _ _ _).1 hj).1; omega, ixs_sorted (k + 1) C⟩
theorem cix_lt (C : List (Option Sec)) {j : Nat} (h : j < (cix C).length) : (cix C)[j] < C.length := by
  obtain ⟨h1, _⟩ := (cix_mem C _).1 (List.getElem_mem h); exact h1
/-- What a crash leaves: those of the cached sectors for which kp has true are there. -/
def crash : List Sec → List (Option Sec) → List Bool → List Sec
  | s :: S, none :: C, kp => s :: crash S C kp
  | s :: S, some c :: C, kp => (if kp.headD false then c else s) :: crash S C kp.tail
  | S, _, _ => S
theorem crash_len : ∀ (S : List Sec) (C : List (Option Sec)) (kp : List Bool), (crash S C kp).length = S.length
  | [], _, _ => by simp [crash]
  | s :: S, [], _ => by simp [crash]
  | s :: S, none :: C, kp => by simp [crash, crash_len S C kp]
  | s :: S, some c :: C, kp => by simp [crash, crash_len S C kp.tail]
theorem crash_nil : ∀ (S : List Sec) (C : List (Option Sec)), crash S C [] = S
  | [], _ => by simp [crash]
  | s :: S, [] => by simp [crash]
  | s :: S, none :: C => by simp [crash, crash_nil S C]
  | s :: S, some c :: C => by simp [crash, crash_nil S C]
theorem crash_all : ∀ (S : List Sec) (C : List (Option Sec)) (n : Nat), cnt C ≤ n → crash S C (List.replicate n true) = cur S C
  | [], C, _, _ => by cases C <;> simp [crash, cur]
  | s :: S, [], _, _ => by simp [crash, cur]
  | s :: S, none :: C, n, h => by
    rw [crash, cur, crash_all S C n (by simpa [cnt] using h)]; rfl
  | s :: S, some c :: C, n, h => by
    have h1 : cnt (some c :: C) = cnt C + 1 := by simp [cnt]
    obtain ⟨m, rfl⟩ : ∃ m, n = m + 1 := ⟨n - 1, by omega⟩
    rw [crash, cur, List.replicate_succ, List.tail_cons, crash_all S C m (by omega)]; rfl
/-- One more of the cached sectors. -/
theorem crash_more : ∀ (k : Nat) (S : List Sec) (C : List (Option Sec)) (kp : List Bool) (b : Bool), C.length = S.length → (h : kp.length < (ixs k C).length) →
    crash S C (kp ++ [b]) = if b then (crash S C kp).set ((ixs k C)[kp.length] - k) ((cAt C ((((ixs k C)[kp.length] - k : Nat)) : Int)).getD z256) else crash S C kp
  | k, [], C, kp, b, hl, h => by
    obtain rfl : C = [] := List.length_eq_zero_iff.1 hl
    simp [ixs] at h
  | k, s :: S, [], kp, b, hl, h => by cases hl
  | k, s :: S, none :: C, kp, b, hl, h => by
    have ih := crash_more (k + 1) S C kp b (by simpa using hl) (by simpa [ixs] using h)
    have hge : k + 1 ≤ (ixs (k + 1) C)[kp.length]'(by simpa [ixs] using h) := ((ixs_mem _ _ _).1 (List.getElem_mem _)).1
    obtain ⟨j, hj⟩ : ∃ j, (ixs (k + 1) C)[kp.length]'(by simpa [ixs] using h) = k + 1 + j := ⟨_, (Nat.add_sub_of_le hge).symm⟩
    have hj2 : (ixs k (none :: C))[kp.length] = k + 1 + j := hj
    rw [hj] at ih
    rw [hj2]
    simp only [crash, ih]
    have e1 : k + 1 + j - (k + 1) = j := by omega
    have e2 : k + 1 + j - k = j + 1 := by omega
    have e3 : cAt (none :: C) ((j + 1 : Nat) : Int) = cAt C (j : Int) := by
      rw [cAt, if_pos (by omega), cAt, if_pos (by omega)]
      have : ((j + 1 : Nat) : Int).toNat = (j : Int).toNat + 1 := by omega
      rw [this, List.getElem?_cons_succ]
    rw [e1, e2, e3]
    cases b <;> simp
  | k, s :: S, some c :: C, kp, b, hl, h => by
    cases kp with
    | nil =>
      have e1 : (ixs k (some c :: C))[([] : List Bool).length] - k = 0 := by simp [ixs]
      rw [e1]
      have e2 : cAt (some c :: C) ((0 : Nat) : Int) = some c := by simp [cAt]
      rw [e2]
      simp only [List.nil_append, crash, List.headD_cons, List.tail_cons, List.headD_nil, List.tail_nil]
      cases b <;> simp [crash_nil]
    | cons x kp =>
      have ih := crash_more (k + 1) S C kp b (by simpa using hl) (by simpa [ixs] using h)
      have hk : kp.length < (ixs (k + 1) C).length := by simpa [ixs] using h
      have hge : k + 1 ≤ (ixs (k + 1) C)[kp.length] := ((ixs_mem _ _ _).1 (List.getElem_mem _)).1
      obtain ⟨j, hj⟩ : ∃ j, (ixs (k + 1) C)[kp.length] = k + 1 + j := ⟨_, (Nat.add_sub_of_le hge).symm⟩
      have hj2 : (ixs k (some c :: C))[(x :: kp).length] = k + 1 + j := hj
      rw [hj] at ih
      rw [hj2]
      have e1 : k + 1 + j - (k + 1) = j := by omega
      have e2 : k + 1 + j - k = j + 1 := by omega
      have e3 : cAt (some c :: C) ((j + 1 : Nat) : Int) = cAt C (j : Int) := by
        rw [cAt, if_pos (by omega), cAt, if_pos (by omega)]
        have : ((j + 1 : Nat) : Int).toNat = (j : Int).toNat + 1 := by omega
        rw [this, List.getElem?_cons_succ]
      simp only [List.cons_append, crash, List.headD_cons, List.tail_cons, ih]
      rw [e1, e2, e3]
      cases b <;> simp <;> rfl
theorem crash_step {S : List Sec} {C : List (Option Sec)} {kp : List Bool} (b : Bool) (hl : C.length = S.length) (h : kp.length < (cix C).length) :
    crash S C (kp ++ [b]) = if b then (crash S C kp).set (cix C)[kp.length] ((cAt C (((cix C)[kp.length] : Nat) : Int)).getD z256) else crash S C kp := by
  exact crash_more 0 S C kp b hl h
theorem crash_at {S : List Sec} {C : List (Option Sec)} {kp : List Bool} {j : Nat} (b : Bool) (hl : C.length = S.length) (hk : kp.length = j) (h : j < (cix C).length) :
    crash S C (kp ++ [b]) = if b then (crash S C kp).set (cix C)[j] ((cAt C (((cix C)[j] : Nat) : Int)).getD z256) else crash S C kp := by
  subst hk
  exact crash_step b hl h
theorem crash_true {S : List Sec} {C : List (Option Sec)} {j : Nat} (hl : C.length = S.length) (h : j < (cix C).length) :
    crash S C (List.replicate (j + 1) true) = (crash S C (List.replicate j true)).set (cix C)[j] ((cAt C (((cix C)[j] : Nat) : Int)).getD z256) := by
  rw [List.replicate_succ']
  have := crash_at (kp := List.replicate j true) true hl List.length_replicate h
  rwa [if_pos rfl] at this
theorem crash_keep {S : List Sec} {C : List (Option Sec)} {kp : List Bool} {j : Nat} (hl : C.length = S.length) (h : j < (cix C).length) (hk : j < kp.length) :
    crash S C (kp.take (j + 1)) = if kp[j] then (crash S C (kp.take j)).set (cix C)[j] ((cAt C (((cix C)[j] : Nat) : Int)).getD z256) else crash S C (kp.take j) := by
  rw [List.take_succ_eq_append_getElem hk]
  exact crash_at _ hl (by rw [List.length_take]; omega) h
/-- What lies behind the cached sectors does not matter. -/
theorem crash_take : ∀ (S : List Sec) (C : List (Option Sec)) (kp : List Bool) (n : Nat), cnt C ≤ n → crash S C (kp.take n) = crash S C kp
  | [], _, _, _, _ => by simp [crash]
  | s :: S, [], _, _, _ => by simp [crash]
  | s :: S, none :: C, kp, n, h => by simp [crash, crash_take S C kp n (by simpa [cnt] using h)]
  | s :: S, some c :: C, kp, n, h => by
    have h1 : cnt (some c :: C) = cnt C + 1 := by simp [cnt]
    obtain ⟨m, rfl⟩ : ∃ m, n = m + 1 := ⟨n - 1, by omega⟩
    cases kp with
    | nil => simp [crash]
    | cons x kp => simp [crash, crash_take S C kp m (by omega)]
end Go.Proofs.YtnnhenafhalobaaGreat
/-
  Rows of elements of any size: made, and written element by element; elements that are arrays. No function of the program is named here.
-/
namespace Go.Proofs.YtnnhenafhalobaaGreat
set_option maxRecDepth 100000
open Go.RowKit
theorem getElem_spl {L vs : List Value} {k i : Nat} (h : k + vs.length ≤ L.length) : (spl L k vs)[i]? = if k ≤ i ∧ i < k + vs.length then vs[i - k]? else L[i]? := by
  unfold spl
  have hl : (L.take k).length = k := by rw [List.length_take]; omega
  rw [List.append_assoc]
  rcases Nat.lt_or_ge i k with h1 | h1
  · rw [if_neg (by omega), List.getElem?_append_left (by omega), List.getElem?_take_of_lt h1]
  · rw [List.getElem?_append_right (by omega), hl]
    rcases Nat.lt_or_ge i (k + vs.length) with h2 | h2
    · rw [if_pos ⟨h1, h2⟩, List.getElem?_append_left (by omega)]
    · rw [if_neg (by omega), List.getElem?_append_right (by omega), List.getElem?_drop]
      congr 1; omega
theorem part_spl {xs vs : List Value} {sz n i j : Nat} (hx : xs.length = n * sz) (hv : vs.length = sz) (hj : j < n) (hi : i < n) : part (spl xs (j * sz) vs) sz i = if i = j then vs else part xs sz i := by
  have hj2 : (j + 1) * sz ≤ n * sz := Nat.mul_le_mul_right _ hj
  have hi2 : (i + 1) * sz ≤ n * sz := Nat.mul_le_mul_right _ hi
  rw [Nat.add_mul, Nat.one_mul] at hj2 hi2
  have hle : j * sz + vs.length ≤ xs.length := by rw [hv, hx]; exact hj2
  apply List.ext_getElem?
  intro q
  unfold part
  rw [List.getElem?_take, List.getElem?_drop, getElem_spl hle]
  by_cases hq : q < sz
  · rw [if_pos hq]
    by_cases e : i = j
    · subst e
      rw [if_pos ⟨by omega, by omega⟩, if_pos rfl]
      congr 1; omega
    · rw [if_neg e, List.getElem?_take_of_lt hq, List.getElem?_drop, if_neg]
      rintro ⟨h1, h2⟩
      rcases Nat.lt_or_ge i j with h3 | h3
      · have : (i + 1) * sz ≤ j * sz := Nat.mul_le_mul_right _ h3
        rw [Nat.add_mul, Nat.one_mul] at this; omega
      · have : (j + 1) * sz ≤ i * sz := Nat.mul_le_mul_right _ (by omega)
        rw [Nat.add_mul, Nat.one_mul] at this; omega
  · rw [if_neg hq]
    split
    · rw [List.getElem?_eq_none (by omega)]
    · rw [List.getElem?_eq_none (by rw [List.length_take]; omega)]
section
variable {P : Program} {w : World} {lo hi e sz n c j : Nat} {A : Option Addr} {xs vs : List Value}
theorem RowH.blk_ (h : RowH w lo hi e sz A n c xs) (hn : 0 < n) : ∃ g cur, A = some ⟨g, 0, none⟩ ∧ lo ≤ g ∧ g < hi ∧ Blk w g e cur ∧ n ≤ c ∧ cur.length = c * sz ∧ cur.take (n * sz) = xs := by
  rcases h.o.2 with ⟨_, h0⟩ | ⟨g, cap, cur, hv, h1, h2, h3, h4, h5, h6⟩
  · omega
  · injection hv with e1 _ e3
    subst e1; subst e3
    exact ⟨g, cur.toList, rfl, h1, h.hi g rfl, by unfold Blk; rw [Array.toArray_toList]; exact h2, h3, by rw [Array.length_toList, h5], h6⟩
theorem RowH.put (h : RowH w lo hi e sz A n c xs) (hj : j < n) (hv : vs.length = sz) (h1 : ∀ u ∈ vs, u.oneCell' = true) (h0 : 0 < sz) :
    ∃ g w', A = some ⟨g, 0, none⟩ ∧ (storeCells ⟨g, j * sz, none⟩ vs 0).run P w = .ok () w' ∧ RowH w' lo hi e sz A n c (spl xs (j * sz) vs) ∧ Grew w w' e (blk A) ∧ w'.heap.size = w.heap.size := by
  have hT := h.ty
  have hrd := h.rd.1
  have hcap := h.cap
  have ho := h.o
  obtain ⟨g, cur, rfl, g1, g2, hB, g3, g4, g5⟩ := h.blk_ (by omega)
  have hj2 : (j + 1) * sz ≤ n * sz := Nat.mul_le_mul_right _ hj
  have hn2 : n * sz ≤ c * sz := Nat.mul_le_mul_right _ g3
  rw [Nat.add_mul, Nat.one_mul] at hj2
  obtain ⟨w', hr, hB', hgr, hz⟩ := run_storeCells_blk (P := P) (o := j * sz) vs 0 cur w hB h1 (by omega)
  rw [Nat.add_zero] at hB'
  refine ⟨g, w', rfl, hr, ⟨⟨?_, .inr ⟨g, c, (spl cur (j * sz) vs).toArray, rfl, g1, hB', g3, ?_, ?_, ?_⟩⟩, h.hi⟩, ⟨hgr, hT⟩, hz⟩
  · rw [spl_length (by omega), hrd]
  · rcases ho.2 with ⟨hv', h0'⟩ | ⟨_, cap, _, hv', _, _, _, h4, _⟩
    · omega
    · injection hv' with _ _ e3; rw [e3]; exact h4
  · rw [List.size_toArray, spl_length (by omega), g4]
  · show (spl cur (j * sz) vs).take (n * sz) = _
    apply List.ext_getElem?
    intro q
    rw [List.getElem?_take, getElem_spl (by omega), getElem_spl (by rw [hrd]; omega), ← g5, List.getElem?_take]
    by_cases hq : q < n * sz
    · rw [if_pos hq, if_pos hq]
    · rw [if_neg hq, if_neg hq, if_neg (by omega)]
end
section
variable {α : Type} {X : GoT α} {e e' : TypeId} {w : World} {lo hi c j : Nat} {A : Option Addr} {L : List α} {vs : List Value} {P : Program} {a : α}
theorem OwnS.put (h : OwnS X e w lo hi A c L) (hj : j < L.length) (hX : X.T w vs a) (h1 : ∀ u ∈ vs, u.oneCell' = true) (h0 : 0 < X.sz) (hne : e ∉ X.tys) :
    ∃ g w', A = some ⟨g, 0, none⟩ ∧ (storeCells ⟨g, j * X.sz, none⟩ vs 0).run P w = .ok () w' ∧ OwnS X e w' lo hi A c (L.set j a) ∧ Grew w w' e (blk A) ∧ w'.heap.size = w.heap.size := by
  obtain ⟨xs, h2, h3⟩ := h
  have hv := X.len (X.tr hX)
  obtain ⟨g, w', e1, e2, e3, e4, e5⟩ := h2.put (P := P) hj hv h1 h0
  refine ⟨g, w', e1, e2, ⟨_, by rw [List.length_set]; exact e3, fun i hi => ?_⟩, e4, e5⟩
  rw [List.length_set] at hi
  rw [part_spl h2.rd.1 hv hj hi, List.getElem_set]
  split
  · rw [if_pos (by omega)]; exact X.ty hX e4 hne
  · rw [if_neg (by omega)]; exact X.ty (h3 i hi) e4 hne
end
section
variable {α : Type} {X : GoT α} {P : Program} {fn : Func} {F : Ending → World → Prop} {N : Nat} {ks : List K} {ops : Array Oper} {tg : Tags} {l : List Oper} {fr : Fr} {w : World} {ty t e : TypeId} {z : Value} {pos : String} {aft : Array Edge} {gd : Option (Nat × Bool)} {k1 k2 : IntKind} {d n m bytes c j lo hi : Nat} {x y : Operand} {A : Option Addr} {L : List α} {a : α} {vs : List Value}
/-- An element of several cells is written. -/
theorem wl_stS (hs : ∀ w, (sizeOf t).run P w = .ok m w) (hx : fr.ev x = some (.pointer (some (adr A (j * m))))) (hy : fr.ev y = some (.agg vs.toArray)) (hm : m = X.sz) (hown : OwnS X e w lo hi A c L) (hj : j < L.length) (hX : X.T w vs a) (h1 : ∀ u ∈ vs, u.oneCell' = true) (h0 : 0 < X.sz) (hne : e ∉ X.tys)
    (hk : ∀ w', OwnS X e w' lo hi A c (L.set j a) → Grew w w' e (blk A) → Below lo w w' → w'.heap.size = w.heap.size → WL P fn F N ks ops tg.tail l fr w') (ht : tg.loud = true := by rfl) (hg : onG ops fr gd = true := by rfl) (hq : tg.calm = false ∨ tg.rw.may (blk A) := by exact .inl rfl) :
    WL P fn F N ks ops tg (⟨none, .store t x y, ty, pos, aft, gd⟩ :: l) fr w := by
  subst hm
  have hv := X.len (X.tr hX)
  have hown0 := hown
  obtain ⟨g, w', rfl, hr, e3, e4, e5⟩ := hown.put (P := P) hj hX h1 h0 hne
  have hbl : Below lo w w' := by
    obtain ⟨xs, g1, _⟩ := hown0
    have hlt := RowH.lt g1 g rfl
    exact e4.below (by omega) (fun k hk => by have hk' : g = k := by simpa [blk] using hk
                                              omega)
  have ead : adr (some (⟨g, 0, none⟩ : Addr)) (j * X.sz) = ⟨g, j * X.sz, none⟩ := by simp [adr, add_plain]
  rw [ead] at hx
  refine wl_u (w' := w') (fun a ha op hop => ?_) (hk w' e3 e4 hbl e5) ht hg (hq.imp id (Rw.of_may e4.g))
  have hcs : (Value.agg vs.toArray).cells = vs.toArray := rfl
  simp [execOp, hop, ha.ev hx, ha.ev hy, Instr.storeAt, Instr.sureAddr, storeVar, hcs, hs, hv, hr]
theorem madeCells_part (z : Value) (n : Nat) (h0 : 0 < z.cells.size) {i : Nat} (hi : i < n) : part (madeCells z.cells (n * z.cells.size)).toList z.cells.size i = z.cells.toList := by
  have hi2 : (i + 1) * z.cells.size ≤ n * z.cells.size := Nat.mul_le_mul_right _ hi
  rw [Nat.add_mul, Nat.one_mul] at hi2
  apply List.ext_getElem?
  intro q
  unfold part
  rw [List.getElem?_take]
  by_cases hq : q < z.cells.size
  · rw [if_pos hq, List.getElem?_drop, Array.getElem?_toList, Array.getElem?_toList]
    have hlt : i * z.cells.size + q < (madeCells z.cells (n * z.cells.size)).size := by rw [size_madeCells]; omega
    rw [Array.getElem?_eq_getElem hlt, Array.getElem?_eq_getElem hq]
    simp only [madeCells, Array.getElem_map, Array.getElem_range]
    rw [Nat.mul_comm i, Nat.mul_add_mod, Nat.mod_eq_of_lt hq, getElem!_pos z.cells q hq]
  · rw [if_neg hq, List.getElem?_eq_none (by rw [Array.length_toList]; omega)]
/-- make. -/
theorem wl_mkS {E C : Int} (T : RowT P t e z X.sz bytes) (hx : fr.ev x = some (.int k1 E)) (hy : fr.ev y = some (.int k2 C)) (hE : E = (n : Int)) (hC : C = (n : Int)) (hn : n ≤ 1000000000) (hb : n * bytes ≤ 140737488355328) (hX : ∀ w, X.T w z.cells.toList a)
    (hk : ∀ A w', OwnS X e w' w.heap.size w'.heap.size A n (List.replicate n a) → Below w.heap.size w w' → WL P fn F N ks ops tg.tail l ((d, .slice A n n) :: fr) w')
    (ht : tg.loud = true := by rfl) (hg : onG ops fr gd = true := by rfl) (hd : Nat.blt d N = true := by rfl) : WL P fn F N ks ops tg (⟨some d, .makeSlice t x y, ty, pos, aft, gd⟩ :: l) fr w := by
  subst hC; subst hE
  obtain ⟨i, hi, hz, hs, hb'⟩ := info_parts T.hi
  obtain ⟨w', hrun, r1, r2⟩ := run_make_full (P := P) w w.heap.size t e i _ X.sz T.ht hi hz hs k1 k2 n (by rw [hb', Nat.mul_comm]; omega) (by simp only [maxLen]; omega) (Nat.le_refl _)
  have hbl : Below w.heap.size w w' := (Below.refl _ _).grown r2 (Nat.le_refl _) (by simp)
  refine wl_v (fun a ha o ho _ => by simp [execOp, ho, ha.ev hx, ha.ev hy, hrun]) (hk (some ⟨w.heap.size, 0, none⟩) w' ⟨(madeCells z.cells (n * X.sz)).toList, ⟨?_, fun k hk => ?_⟩, fun i hi => ?_⟩ hbl) ht hg hd (.inr (grown_of_below hbl _))
  · rw [List.length_replicate]; exact r1
  · exact (World.ownsRow.lt r1 k (by rw [blk_own]; exact hk)).2
  · rw [List.length_replicate] at hi
    have := madeCells_part z n (by rw [T.hz]; exact T.h0) hi
    rw [T.hz] at this
    rw [this, List.getElem_replicate]
    exact hX w'
end
end Go.Proofs.YtnnhenafhalobaaGreat
/-
  Rows of numbers (int) in the form that the recorder's search applies. No function of the program is named here.
-/
namespace Go.Proofs.YtnnhenafhalobaaGreat
set_option maxRecDepth 100000
open Go.RowKit
/-! Rows of numbers. -/
def OwnZ (w : World) (lo hi : Nat) (A : Option Addr) (c : Nat) (zs : List Int) : Prop := RowH w lo hi 3 1 A zs.length c (zs.map (Value.int .i64))
section
variable {w w' : World} {lo hi c n : Nat} {e' : TypeId} {A : Option Addr} {L : List Int} {row : Option Nat}
theorem OwnZ.d (h : OwnZ w lo hi A c L) : OwnZ w.drew lo hi A c L := RowH.d h
theorem OwnZ.y (h : OwnZ w lo hi A c L) (hg : Grew w w' e' row) (hne : e' ≠ 3) : OwnZ w' lo hi A c L := RowH.y h hg hne
theorem OwnZ.cap (h : OwnZ w lo hi A c L) : L.length ≤ c := RowH.cap h
theorem OwnZ.to_Reads (h : OwnZ w lo hi A c L) : Reads w 1 A L.length (L.map (Value.int .i64)) := RowH.rd h
theorem OwnZ.base {lo' hi' : Nat} (h : OwnZ w lo hi A c L) (h1 : lo' ≤ lo) (h2 : hi ≤ hi') : OwnZ w lo' hi' A c L := RowH.base h h1 h2
end
section
variable {fn : Func} {F : Ending → World → Prop} {N : Nat} {ks : List K} {ops : Array Oper} {tg : Tags} {l : List Oper} {fr : Fr} {w : World} {ty t t' : TypeId} {pos : String} {aft : Array Edge} {gd : Option (Nat × Bool)} {d g n c j q lo hi : Nat} {x y k : Operand} {A X : Option Addr}
end

section
variable {fn : Func} {F : Ending → World → Prop} {N : Nat} {ks : List K} {ops : Array Oper} {tg : Tags} {l : List Oper} {fr : Fr} {w : World} {ty : TypeId} {pos : String} {aft : Array Edge} {gd : Option (Nat × Bool)} {d : Nat} {x y : Operand} {A : Option Addr}
end
end Go.Proofs.YtnnhenafhalobaaGreat
/-
  Numbers of 64 bits, and arrays in blocks of their own. No function of the program is named here.
-/
namespace Go.Proofs.YtnnhenafhalobaaGreat
set_option maxRecDepth 100000
open Go.RowKit
section
variable {P : Program} {fn : Func} {F : Ending → World → Prop} {N : Nat} {ks : List K} {ops : Array Oper} {tg : Tags} {l : List Oper} {fr : Fr} {w : World} {ty ty2 t t' t2 e e2 : TypeId} {z v : Value} {pos pos2 : String} {aft aft2 : Array Edge} {gd gd2 : Option (Nat × Bool)} {d n g i j sz : Nat} {x y : Operand} {a b : UInt64} {k k' : IntKind} {m : Int}
/-! Numbers. -/
theorem u64_lt (a : UInt64) : a.toNat < 18446744073709551616 := a.toNat_lt
theorem o_addU (hx : fr.ev x = some (.int .u64 (a.toNat : Int))) (hy : fr.ev y = some (.int .u64 (b.toNat : Int))) : OpV P N fr w (.binOp .add t x y t') ty (.int .u64 ((a + b).toNat : Int)) w :=
  o_asi (o_addw hx hy) (by rw [IntKind.wrap_u64, UInt64.toNat_add]; omega)
theorem o_subq {n' : Int} (hx : fr.ev x = some (.int .u64 m)) (hy : fr.ev y = some (.int .u64 n')) (h0 : 0 ≤ m - n') (h1 : m - n' ≤ 18446744073709551615) : OpV P N fr w (.binOp .sub t x y t') ty (.int .u64 (m - n')) w :=
  o_asi (o_subw hx hy) (u64_in h0 h1)
theorem o_xorU (hx : fr.ev x = some (.int .u64 (a.toNat : Int))) (hy : fr.ev y = some (.int .u64 (b.toNat : Int))) : OpV P N fr w (.binOp .xor t x y t') ty (.int .u64 ((a ^^^ b).toNat : Int)) w :=
  o_asi (o_xor hx hy) (by rw [bits_xor_u64_nat _ _ (u64_lt a) (u64_lt b), UInt64.toNat_xor])
theorem o_andU (hx : fr.ev x = some (.int .u64 (a.toNat : Int))) (hy : fr.ev y = some (.int .u64 (b.toNat : Int))) : OpV P N fr w (.binOp .and t x y t') ty (.int .u64 ((a &&& b).toNat : Int)) w :=
  o_asi (o_and hx hy) (by rw [bits_and_u64_nat _ _ (u64_lt a) (u64_lt b), UInt64.toNat_and])
theorem o_orU (hx : fr.ev x = some (.int .u64 (a.toNat : Int))) (hy : fr.ev y = some (.int .u64 (b.toNat : Int))) : OpV P N fr w (.binOp .or t x y t') ty (.int .u64 ((a ||| b).toNat : Int)) w :=
  o_asi (o_or hx hy) (by rw [bits_or_u64_nat _ _ (u64_lt a) (u64_lt b), UInt64.toNat_or])
theorem o_notU (hx : fr.ev x = some (.int .u64 (a.toNat : Int))) : OpV P N fr w (.unOp .xor t x) ty (.int .u64 ((~~~a).toNat : Int)) w := fun c ha o ho _ => by
  have h := u64_lt a
  have e : bits .xor .u64 18446744073709551615 (a.toNat : Int) = ((~~~a).toNat : Int) := by
    have h1 : (BitVec.ofInt 64 (a.toNat : Int)) = a.toBitVec := by
      rw [BitVec.ofInt_natCast]; apply BitVec.eq_of_toNat_eq; rw [BitVec.toNat_ofNat, Nat.mod_eq_of_lt (by omega)]; rfl
    show IntKind.u64.wrap ((BitVec.ofInt 64 18446744073709551615 ^^^ BitVec.ofInt 64 (a.toNat : Int)).toNat : Int) = _
    rw [h1, show BitVec.ofInt 64 18446744073709551615 = BitVec.allOnes 64 from rfl, BitVec.allOnes_xor, ← UInt64.toBitVec_not]
    show IntKind.u64.wrap (((~~~a).toNat : Nat) : Int) = _
    have := u64_lt (~~~a)
    rw [IntKind.wrap_u64]; omega
  have e2 : (execOp c.eval o).run P w = .ok (.value (.int .u64 (bits .xor .u64 18446744073709551615 (a.toNat : Int)))) w := by
    simp [execOp, ho, ha.ev hx, Op.unary]
    rfl
  rw [e2, e]
def shrU (a : UInt64) (n : Nat) : UInt64 := a >>> UInt64.ofNat n
def shlU (a : UInt64) (n : Nat) : UInt64 := a <<< UInt64.ofNat n
theorem shrU_toNat (a : UInt64) {n : Nat} (h : n < 64) : (shrU a n).toNat = a.toNat / 2 ^ n := by
  unfold shrU
  rw [UInt64.toNat_shiftRight, UInt64.toNat_ofNat_of_lt' (by show n < 18446744073709551616; omega), Nat.mod_eq_of_lt h, Nat.shiftRight_eq_div_pow]
theorem shlU_toNat (a : UInt64) {n : Nat} (h : n < 64) : (shlU a n).toNat = a.toNat * 2 ^ n % 18446744073709551616 := by
  unfold shlU
  rw [UInt64.toNat_shiftLeft, UInt64.toNat_ofNat_of_lt' (by show n < 18446744073709551616; omega), Nat.mod_eq_of_lt h, Nat.shiftLeft_eq]
theorem o_shrU (hx : fr.ev x = some (.int .u64 (a.toNat : Int))) (hy : fr.ev y = some (.int k' m)) (h0 : 0 ≤ m) (h1 : m < 64) : OpV P N fr w (.binOp .shr t x y t') ty (.int .u64 ((shrU a m.toNat).toNat : Int)) w :=
  o_asi (o_shr hx hy h0) (by
    rw [shrU_toNat a (by omega), show min m.toNat IntKind.u64.bits = m.toNat by show min m.toNat 64 = _; omega]
    simp)
theorem o_shlU (hx : fr.ev x = some (.int .u64 (a.toNat : Int))) (hy : fr.ev y = some (.int k' m)) (h0 : 0 ≤ m) (h1 : m < 64) : OpV P N fr w (.binOp .shl t x y t') ty (.int .u64 ((shlU a m.toNat).toNat : Int)) w :=
  o_asi (o_shl hx hy h0) (by
    rw [shlU_toNat a (by omega), show min m.toNat IntKind.u64.bits = m.toNat by show min m.toNat 64 = _; omega, IntKind.wrap_u64]
    simp)
theorem o_conv8U {c : UInt8} {dd : TypeDesc} {src dst : TypeId} (hs : P.underlying src = some dd) (hd : P.underlying dst = some (.int .u64)) (hx : fr.ev x = some (.int .u8 (c.toNat : Int))) : OpV P N fr w (.convert src dst x) ty (.int .u64 (c.toUInt64.toNat : Int)) w :=
  o_asi (o_convi hs hd hx) (by have := c.toNat_lt; rw [IntKind.wrap_u64, UInt8.toNat_toUInt64]; omega)
theorem o_convU8 {dd : TypeDesc} {src dst : TypeId} (hs : P.underlying src = some dd) (hd : P.underlying dst = some (.int .u8)) (hx : fr.ev x = some (.int .u64 (a.toNat : Int))) : OpV P N fr w (.convert src dst x) ty (.int .u8 (a.toUInt8.toNat : Int)) w :=
  o_asi (o_convi hs hd hx) (by rw [UInt64.toNat_toUInt8]; show (a.toNat : Int) % 256 = _; omega)

/-! Arrays. -/
def vU (l : List UInt64) : List Value := l.map fun x => .int .u64 (x.toNat : Int)
theorem vU_length (l : List UInt64) : (vU l).length = l.length := List.length_map ..
theorem vU_one (l : List UInt64) : ∀ v ∈ vU l, v.oneCell' = true := fun v h => by
  obtain ⟨x, _, rfl⟩ := List.mem_map.1 h; rfl
theorem vU_set (l : List UInt64) (i : Nat) (a : UInt64) : (vU l).set i (.int .u64 (a.toNat : Int)) = vU (l.set i a) := by
  unfold vU; rw [List.map_set]
--@ rule indexAddr p o_iaddrP
theorem o_iaddrP (j : Nat) (hu : P.underlying t = some (.array n e)) (hs : ∀ w, (sizeOf e).run P w = .ok 1 w) (hx : fr.ev x = some (.pointer (some ⟨g, 0, none⟩))) (hy : fr.ev y = some (.int k m)) (hm : m = (j : Int)) (hj : j < n) :
    OpV P N fr w (.indexAddr t x y) ty (.pointer (some ⟨g, j, none⟩)) w := fun a ha op hop _ => by
  subst hm
  have h2 : ¬ n ≤ j := by omega
  simp [execOp, hop, ha.ev hx, ha.ev hy, Instr.indexAt, run_underlying hu, asIntOf, hs, add_plain, Instr.sureAddr, h2]
--@ rule load r o_ldU
theorem o_ldU {l : List UInt64} (ha' : ∀ w, (isAgg t).run P w = .ok false w) (hx : fr.ev x = some (.pointer (some ⟨g, i, none⟩))) (hB : Blk w g t' (vU l)) (hi : i < l.length) : OpV P N fr w (.load t x) ty (.int .u64 (l[i].toNat : Int)) w :=
  o_loadb ha' hx hB (by unfold vU; rw [List.getElem?_map, List.getElem?_eq_getElem hi]; rfl)
--@ rule load r o_ldUa
theorem o_ldUa {l : List UInt64} (ha' : ∀ w, (isAgg t).run P w = .ok true w) (hs : ∀ w, (sizeOf t).run P w = .ok n w) (hx : fr.ev x = some (.pointer (some ⟨g, 0, none⟩))) (hB : Blk w g t' (vU l)) (hn : l.length = n) : OpV P N fr w (.load t x) ty (.agg (vU l).toArray) w :=
  o_load_all ha' hs hx hB (by rw [vU_length, hn])
--@ rule load r o_ldBa
theorem o_ldBa {l : List UInt8} (ha' : ∀ w, (isAgg t).run P w = .ok true w) (hs : ∀ w, (sizeOf t).run P w = .ok n w) (hx : fr.ev x = some (.pointer (some ⟨g, 0, none⟩))) (hB : Blk w g t' (B8 l)) (hn : l.length = n) : OpV P N fr w (.load t x) ty (.agg (B8 l).toArray) w :=
  o_load_all ha' hs hx hB (by rw [B8_length, hn])
--@ rule store l wl_stU
theorem wl_stU {c : List UInt64} (hs : ∀ w, (sizeOf t).run P w = .ok 1 w) (hx : fr.ev x = some (.pointer (some ⟨g, i, none⟩))) (hB : Blk w g t' (vU c)) (hy : fr.ev y = some (.int .u64 (a.toNat : Int))) (hi : i < c.length)
    (hk : ∀ w', Blk w' g t' (vU (c.set i a)) → Grew w w' t' (some g) → w'.heap.size = w.heap.size → WL P fn F N ks ops tg.tail l fr w') (ht : tg.loud = true := by rfl) (hg : onG ops fr gd = true := by rfl) (hq : tg.calm = false ∨ tg.rw.may (some g) := by exact .inl rfl) :
    WL P fn F N ks ops tg (⟨none, .store t x y, ty, pos, aft, gd⟩ :: l) fr w :=
  wl_storeg1 hs hx hy rfl hB (by rw [vU_length]; exact hi) (fun w' h1 h2 h3 => hk w' (by rw [vU_set] at h1; exact h1) h2 h3) ht hg hq
--@ rule store l wl_stUa
theorem wl_stUa {c q : List UInt64} (hs : ∀ w, (sizeOf t).run P w = .ok n w) (hx : fr.ev x = some (.pointer (some ⟨g, 0, none⟩))) (hB : Blk w g t' (vU c)) (hy : fr.ev y = some (.agg (vU q).toArray)) (hq' : q.length = n) (hi : c.length = n)
    (hk : ∀ w', Blk w' g t' (vU q) → Grew w w' t' (some g) → w'.heap.size = w.heap.size → WL P fn F N ks ops tg.tail l fr w') (ht : tg.loud = true := by rfl) (hg : onG ops fr gd = true := by rfl) (hq : tg.calm = false ∨ tg.rw.may (some g) := by exact .inl rfl) :
    WL P fn F N ks ops tg (⟨none, .store t x y, ty, pos, aft, gd⟩ :: l) fr w :=
  wl_storega hs hx hy (by rw [vU_length, hq']) (vU_one q) hB (by rw [vU_length, hi]) hk ht hg hq
--@ rule store l wl_stB
theorem wl_stB {c : List UInt8} {u : UInt8} (hs : ∀ w, (sizeOf t).run P w = .ok 1 w) (hx : fr.ev x = some (.pointer (some ⟨g, i, none⟩))) (hB : Blk w g t' (B8 c)) (hy : fr.ev y = some (.int .u8 (u.toNat : Int))) (hi : i < c.length)
    (hk : ∀ w', Blk w' g t' (B8 (c.set i u)) → Grew w w' t' (some g) → w'.heap.size = w.heap.size → WL P fn F N ks ops tg.tail l fr w') (ht : tg.loud = true := by rfl) (hg : onG ops fr gd = true := by rfl) (hq : tg.calm = false ∨ tg.rw.may (some g) := by exact .inl rfl) :
    WL P fn F N ks ops tg (⟨none, .store t x y, ty, pos, aft, gd⟩ :: l) fr w :=
  wl_storeg1 hs hx hy rfl hB (by rw [B8_length]; exact hi) (fun w' h1 h2 h3 => hk w' (by unfold B8 at h1 ⊢; rw [List.map_set]; exact h1) h2 h3) ht hg hq
--@ rule store l wl_stBa
theorem wl_stBa {c q : List UInt8} (hs : ∀ w, (sizeOf t).run P w = .ok n w) (hx : fr.ev x = some (.pointer (some ⟨g, 0, none⟩))) (hB : Blk w g t' (B8 c)) (hy : fr.ev y = some (.agg (B8 q).toArray)) (hq' : q.length = n) (hi : c.length = n)
    (hk : ∀ w', Blk w' g t' (B8 q) → Grew w w' t' (some g) → w'.heap.size = w.heap.size → WL P fn F N ks ops tg.tail l fr w') (ht : tg.loud = true := by rfl) (hg : onG ops fr gd = true := by rfl) (hq : tg.calm = false ∨ tg.rw.may (some g) := by exact .inl rfl) :
    WL P fn F N ks ops tg (⟨none, .store t x y, ty, pos, aft, gd⟩ :: l) fr w :=
  wl_storega hs hx hy (by rw [B8_length, hq']) (B8_oneCell' q) hB (by rw [B8_length, hi]) hk ht hg hq
--@ rule alloc l wl_allocU
theorem wl_allocU (hu : P.underlying e = some (.array n e2)) (hz : ∀ w, (zeroValue e).run P w = .ok z w) (hzs : z.cells = (vU (List.replicate n 0)).toArray)
    (hk : ∀ g w', Blk w' g e (vU (List.replicate n 0)) → Below w.heap.size w w' → w.heap.size ≤ g → g < w'.heap.size → WL P fn F N ks ops tg.tail l ((d, .pointer (some ⟨g, 0, none⟩)) :: fr) w')
    (ht : tg.loud = true := by rfl) (hg : onG ops fr gd = true := by rfl) (hd : Nat.blt d N = true := by rfl) : WL P fn F N ks ops tg (⟨some d, .alloc e, ty, pos, aft, gd⟩ :: l) fr w :=
  wl_allocg _ hz hzs hk ht hg hd
--@ rule alloc l wl_allocB
theorem wl_allocB (hu : P.underlying e = some (.array n e2)) (hz : ∀ w, (zeroValue e).run P w = .ok z w) (hzs : z.cells = (B8 (List.replicate n 0)).toArray)
    (hk : ∀ g w', Blk w' g e (B8 (List.replicate n 0)) → Below w.heap.size w w' → w.heap.size ≤ g → g < w'.heap.size → WL P fn F N ks ops tg.tail l ((d, .pointer (some ⟨g, 0, none⟩)) :: fr) w')
    (ht : tg.loud = true := by rfl) (hg : onG ops fr gd = true := by rfl) (hd : Nat.blt d N = true := by rfl) : WL P fn F N ks ops tg (⟨some d, .alloc e, ty, pos, aft, gd⟩ :: l) fr w :=
  wl_allocg _ hz hzs hk ht hg hd
--@ rule index p o_indexU
theorem o_indexU {c : List UInt64} (j : Nat) (hu : P.underlying t = some (.array n e)) (hs : ∀ w, (sizeOf e).run P w = .ok 1 w) (ha' : ∀ w, (isAgg e).run P w = .ok false w) (hx : fr.ev x = some (.agg (vU c).toArray)) (hy : fr.ev y = some (.int k m)) (hm : m = (j : Int)) (hj : j < c.length) (hn : c.length = n) :
    OpV P N fr w (.index t x y) ty (.int .u64 (c[j].toNat : Int)) w := fun a ha op hop _ => by
  subst hm
  have h2 : ¬ n ≤ j := by omega
  simp [execOp, hop, ha.ev hx, ha.ev hy, Instr.index, run_underlying hu, asIntOf, hs, _root_.Go.part, ha', h2, vU, hj]
--@ rule index p o_indexB
theorem o_indexB {c : List UInt8} (j : Nat) (hu : P.underlying t = some (.array n e)) (hs : ∀ w, (sizeOf e).run P w = .ok 1 w) (ha' : ∀ w, (isAgg e).run P w = .ok false w) (hx : fr.ev x = some (.agg (B8 c).toArray)) (hy : fr.ev y = some (.int k m)) (hm : m = (j : Int)) (hj : j < c.length) (hn : c.length = n) :
    OpV P N fr w (.index t x y) ty (.int .u8 (c[j].toNat : Int)) w := fun a ha op hop _ => by
  subst hm
  have h2 : ¬ n ≤ j := by omega
  simp [execOp, hop, ha.ev hx, ha.ev hy, Instr.index, run_underlying hu, asIntOf, hs, _root_.Go.part, ha', h2, B8, hj]
--@ rule build p o_buildU
theorem o_buildU {ps : Array (Nat × Operand)} {is : List Nat} {xs : List Operand} {vs : List Value} (c : List UInt64) (hu : P.underlying t = some (.array n e)) (his : ps.toList.map Prod.fst = is) (hxs : ps.toList.map Prod.snd = xs) (hx : fr.evs xs = some vs) (hv : vs = c.map fun x => Value.int .u64 (x.toNat : Int)) (hn : c.length = n)
    (hps : ps = (is.zip xs).toArray) (hr : ∀ w, (Instr.build t (is.zip vs).toArray).run P w = .ok (.agg (vU c).toArray) w) : OpV P N fr w (.build t ps) ty (.agg (vU c).toArray) w := by
  subst hps
  exact o_build hx hr
end
end Go.Proofs.YtnnhenafhalobaaGreat
/-
  Arrays of bytes: sliced as a whole, made of slices. No function of the program is named here.
-/
namespace Go.Proofs.YtnnhenafhalobaaGreat
set_option maxRecDepth 100000
open Go.RowKit
section
variable {P : Program} {fn : Func} {F : Ending → World → Prop} {N : Nat} {ks : List K} {ops : Array Oper} {tg : Tags} {l : List Oper} {fr : Fr} {w : World} {ty t t' : TypeId} {pos : String} {aft : Array Edge} {gd : Option (Nat × Bool)} {d n m g c j lo hi : Nat} {x y : Operand} {A : Option Addr} {b : List UInt8} {ad : Addr}
/-- [n]byte(s) -/
theorem o_ldSlArr (ha' : ∀ w, (isAgg t).run P w = .ok true w) (hs : ∀ w, (sizeOf t).run P w = .ok n w) (hx : fr.ev x = some (.pointer A)) (hr : Rd w A b) (hl : b.length = n) (h0 : 0 < n) : OpV P N fr w (.load t x) ty (.agg (B8 b).toArray) w := by
  obtain ⟨k, o, rfl, hc⟩ := hr.2 (fun e => by have := congrArg List.length e; rw [B8_length, hl, List.length_nil] at this; omega)
  exact o_loadn (cs := B8 b) ha' (by rw [B8_length, hl]; exact hs) hx (fun i u hu => by rw [add_plain]; exact hc i u hu)
end
end Go.Proofs.YtnnhenafhalobaaGreat
/-
  A disk in memory; walks of its methods.
-/
namespace Go.Proofs.YtnnhenafhalobaaGreat
set_option maxRecDepth 100000
open Go.RowKit
/-- Sectors of the call's own. -/
def OwnSec (w : World) (lo hi : Nat) (A : Option Addr) (c : Nat) (S : List Sec) : Prop := OwnS (gArr 256) 95 w lo hi A c S
section
variable {w w' : World} {lo hi lo' hi' cp b : Nat} {A : Option Addr} {S : List Sec} {e' : TypeId} {row : Option Nat}
theorem gArr_tys (n : Nat) : (gArr n).tys = [] := rfl
theorem OwnSec.u (h : OwnSec w lo hi A cp S) (hb : Below w.heap.size w w') : OwnSec w' lo hi A cp S := OwnS.u h hb
theorem OwnSec.d (h : OwnSec w lo hi A cp S) : OwnSec w.drew lo hi A cp S := OwnS.d h
theorem OwnSec.m (h : OwnSec w lo hi A cp S) (hg : GrewM w w' b) : OwnSec w' lo hi A cp S := OwnS.m h hg
theorem OwnSec.ap (h : OwnSec w lo hi A cp S) (hd : hi ≤ lo' ∨ hi' ≤ lo) : Ap (blk A) lo' hi' := OwnS.ap h hd
theorem OwnSec.cap (h : OwnSec w lo hi A cp S) : S.length ≤ cp := OwnS.cap h
theorem OwnSec.base (h : OwnSec w lo hi A cp S) (h1 : lo' ≤ lo) (h2 : hi ≤ hi') : OwnSec w lo' hi' A cp S := OwnS.base h h1 h2
theorem OwnSec.c (h : OwnSec w lo hi A cp S) (hc : Chg lo' hi' w w') (ha : hi ≤ lo' ∨ hi' ≤ lo) : OwnSec w' lo hi A cp S := OwnS.c0 h (fun h => h) hc ha
theorem OwnSec.cells (h : OwnSec w lo hi A cp S) {j : Nat} (hj : j < S.length) : CellsAt w A (j * 256) (B8 S[j].1) := by
  obtain ⟨cs, h1, h2⟩ := RSl.elem (OwnS.to_RSl h) (show 0 < 256 by decide) hj
  obtain ⟨rfl⟩ : cs = B8 S[j].1 := h2
  exact h1
theorem OwnSec.rng (h : OwnSec w lo hi A cp S) : ∀ k, blk A = some k → lo ≤ k ∧ k < hi := by obtain ⟨xs, h1, _⟩ := h; exact fun k hk => ⟨(RowH.lt h1 k hk).1, h1.hi k hk⟩
theorem OwnSec.some_ (h : OwnSec w lo hi A cp S) (hl : 0 < S.length) : A = some (A.getD ⟨0, 0, none⟩) := RSl.some_ (OwnS.to_RSl h) (show 0 < 256 by decide) hl
end
theorem Tryz.rowSec : RowT Tryz.prog 77 95 (vS z256) 256 256 := ⟨Tryz.underlying77, by
  have h : (Tryz.prog.info? 95).map (fun i => (i.zero, i.size, i.bytes)) = some (some (.agg (List.replicate 256 (.int .u8 0)).toArray), 256, 256) := by kernel_rfl
  rw [h]
  show _ = some (some (Value.agg (B8 (List.replicate 256 0)).toArray), 256, 256)
  rw [B8_rep], by rw [show (vS z256).cells.size = (B8 z256.1).length from rfl, B8_length, z256.2], by omega⟩
section
variable {fn : Func} {F : Ending → World → Prop} {N : Nat} {ks : List K} {ops : Array Oper} {tg : Tags} {l : List Oper} {fr : Fr} {w : World} {ty : TypeId} {pos : String} {aft : Array Edge} {gd : Option (Nat × Bool)} {k1 k2 : IntKind} {d n j c lo hi : Nat} {x y : Operand} {A : Option Addr} {S : List Sec} {s : Sec}
--@ rule load r o_ldSec
theorem o_ldSec (hx : fr.ev x = some (.pointer (some (adr A (j * 256))))) (hr : OwnSec w lo hi A c S) (hj : j < S.length) : OpV Tryz.prog N fr w (.load 95 x) ty (vS S[j]) w :=
  o_loadn (cs := B8 S[j].1) Tryz.isAgg95 (by rw [B8_length, S[j].2]; exact Tryz.sizeOf95) hx (fun i u hu => by rw [adr_add]; exact hr.cells hj i u hu)
--@ rule store l wl_stSec
theorem wl_stSec (hx : fr.ev x = some (.pointer (some (adr A (j * 256))))) (hown : OwnSec w lo hi A c S) (hy : fr.ev y = some (vS s)) (hj : j < S.length)
    (hk : ∀ w', OwnSec w' lo hi A c (S.set j s) → Grew w w' 95 (blk A) → Below lo w w' → w'.heap.size = w.heap.size → WL Tryz.prog fn F N ks ops tg.tail l fr w') (ht : tg.loud = true := by rfl) (hg : onG ops fr gd = true := by rfl) (hq : tg.calm = false ∨ tg.rw.may (blk A) := by exact .inl rfl) :
    WL Tryz.prog fn F N ks ops tg (⟨none, .store 95 x y, ty, pos, aft, gd⟩ :: l) fr w :=
  wl_stS (X := gArr 256) Tryz.sizeOf95 hx hy rfl hown hj rfl (B8_oneCell _) (by decide) (by simp [gArr_tys]) hk ht hg hq
--@ rule makeSlice l wl_mkSec
theorem wl_mkSec {E C : Int} (n : Nat) (hx : fr.ev x = some (.int k1 E)) (hy : fr.ev y = some (.int k2 C)) (hE : E = (n : Int)) (hC : C = (n : Int)) (hn : n ≤ 1000000)
    (hk : ∀ A w', OwnSec w' w.heap.size w'.heap.size A n (List.replicate n z256) → Below w.heap.size w w' → WL Tryz.prog fn F N ks ops tg.tail l ((d, .slice A n n) :: fr) w')
    (ht : tg.loud = true := by rfl) (hg : onG ops fr gd = true := by rfl) (hd : Nat.blt d N = true := by rfl) : WL Tryz.prog fn F N ks ops tg (⟨some d, .makeSlice 77 x y, ty, pos, aft, gd⟩ :: l) fr w :=
  wl_mkS (X := gArr 256) Tryz.rowSec hx hy hE hC (by omega) (by omega) (fun _ => rfl) hk ht hg hd
end
section
variable {fn : Func} {F : Ending → World → Prop} {N : Nat} {ks : List K} {ops : Array Oper} {tg : Tags} {l : List Oper} {fr : Fr} {w : World} {ty t' : TypeId} {pos : String} {aft : Array Edge} {gd : Option (Nat × Bool)} {d g : Nat} {x y : Operand} {s q : Sec}
--@ rule load r o_ldSecSl
theorem o_ldSecSl {N : Nat} {b : By} {A : Option Addr} (hx : fr.ev x = some (.pointer A)) (hr : Rd w A b) (hl : b.length = 256) : OpV Tryz.prog N fr w (.load 95 x) ty (vS ⟨b, hl⟩) w := o_ldSlArr Tryz.isAgg95 Tryz.sizeOf95 hx hr hl (by omega)
end
/-- A disk in the blocks from lo to hi: what is on it, what is cached. -/
structure DkAt (w : World) (lo hi g : Nat) (S : List Sec) (C : List (Option Sec)) : Prop where
  ex : ∃ (A : Option Addr) (c b : Nat), Blk w g 98 [.pointer (some ⟨g, 0, none⟩), .slice A S.length c, .map (some b)] ∧ OwnSec w lo hi A c S ∧ MapS w b C ∧ lo ≤ b ∧ b < hi ∧ b ≠ g
  g1 : lo ≤ g
  g2 : g < hi
  hi : hi ≤ w.heap.size
  len : C.length = S.length
  n1 : 1 ≤ S.length
  n2 : S.length ≤ 16384
section
variable {w w' : World} {lo hi lo' hi' g : Nat} {S : List Sec} {C : List (Option Sec)}
theorem DkAt.u (h : DkAt w lo hi g S C) (hb : Below w.heap.size w w') : DkAt w' lo hi g S C := by
  obtain ⟨A, c, b, h1, h2, h3, h4⟩ := h.ex
  exact ⟨⟨A, c, b, h1.u hb, h2.u hb, h3.u hb, h4⟩, h.g1, h.g2, by have := h.hi; have := hb.size; omega, h.len, h.n1, h.n2⟩
theorem DkAt.d (h : DkAt w lo hi g S C) : DkAt w.drew lo hi g S C := h.u (below_drew w)
theorem DkAt.c (h : DkAt w lo hi g S C) (hc : Chg lo' hi' w w') (ha : hi ≤ lo' ∨ hi' ≤ lo) : DkAt w' lo hi g S C := by
  obtain ⟨A, c, b, h1, h2, h3, h4, h5, h6⟩ := h.ex
  have := h.g1
  have := h.g2
  exact ⟨⟨A, c, b, h1.c hc (by omega), h2.c hc ha, h3.c hc (by omega), h4, h5, h6⟩, h.g1, h.g2, by have := h.hi; have := hc.size; omega, h.len, h.n1, h.n2⟩
theorem DkAt.k {row : Option Nat} (h : DkAt w lo hi g S C) (hg : w.grownBy w' row) (ha : Ap row lo hi) : DkAt w' lo hi g S C := by
  obtain ⟨A, c, b, h1, h2, h3, h4, h5, h6⟩ := h.ex
  have := h.g1
  have := h.g2
  refine ⟨⟨A, c, b, h1.k hg (fun k e => by have := ha k e; omega), ?_, h3.k hg (fun k e => by have := ha k e; omega), h4, h5, h6⟩, h.g1, h.g2, by have := h.hi; have := hg.size; omega, h.len, h.n1, h.n2⟩
  obtain ⟨xs, r1, r2⟩ := h2
  exact ⟨xs, r1.k hg ha, r2⟩
end
theorem C_valid {lo hi g : Nat} {S : List Sec} {C : List (Option Sec)} (w : World) (hd : DkAt w lo hi g S C) :
    CallsR Tryz.prog 59 [.pointer (some ⟨g, 0, none⟩)] w fun v w' => v = .bool true ∧ w' = w := by
  obtain ⟨A, c, b, f, fs, fm, h4, h5, h6⟩ := hd.ex
  refine callsR Tryz.func59 rfl rfl (by kernel_rfl) rfl ?_
  refine rk_seq ?_
  refine rk_region ?_
  refine wl_p (fun _ => o_assign rfl) ?_
  refine wl_nil ?_
  refine rk_seq ?_
  refine rk_region ?_
  refine wl_p (fun _ => o_move rfl) ?_
  refine wl_p (fun _ => o_pne_nil (t := 26) Tryz.underlying26 rfl rfl) ?_
  refine wl_p (fun _ => o_move rfl) ?_
  refine wl_p (fun _ => o_move rfl) ?_
  refine wl_p (fun _ => o_nil rfl) ?_
  refine wl_p (fun _ => o_faddr (s := 98) (i := 0) (off := 0) Tryz.underlying98 rfl Tryz.sizeOf26 rfl rfl rfl) ?_
  refine wl_r (o_loadbg Tryz.isAgg26 rfl f (by rfl)) ?_
  refine wl_p (fun _ => o_move rfl) ?_
  refine wl_p (fun _ => o_peq_same (t := 26) Tryz.underlying26 Tryz.sizeOf98 rfl rfl) ?_
  refine wl_p (fun _ => o_pick_t rfl rfl) ?_
  refine wl_p (fun _ => o_assign rfl) ?_
  refine wl_nil ?_
  refine ret1 rfl rfl ?_
  exact ⟨rfl, rfl⟩
theorem C_validNil (w : World) :
    CallsR Tryz.prog 59 [.pointer none] w fun v w' => v = .bool false ∧ w' = w := by
  refine callsR Tryz.func59 rfl rfl (by kernel_rfl) rfl ?_
  refine rk_seq ?_
  refine rk_region ?_
  refine wl_p (fun _ => o_assign rfl) ?_
  refine wl_nil ?_
  refine rk_seq ?_
  refine rk_region ?_
  refine wl_p (fun _ => o_move rfl) ?_
  refine wl_p (fun _ => o_pne_nil (t := 26) Tryz.underlying26 rfl rfl) ?_
  refine wl_p (fun _ => o_move rfl) ?_
  refine wl_off ?_
  refine wl_off ?_
  refine wl_off ?_
  refine wl_off ?_
  refine wl_off ?_
  refine wl_off ?_
  refine wl_p (fun _ => o_pick_f rfl rfl) ?_
  refine wl_p (fun _ => o_assign rfl) ?_
  refine wl_nil ?_
  refine ret1 rfl rfl ?_
  exact ⟨rfl, rfl⟩
theorem C_dkMade {lo cp n : Nat} {A : Option Addr} {S : List Sec} (w : World) (hs : OwnSec w lo w.heap.size A cp S) (hn : n = S.length) (hlo : lo ≤ w.heap.size) (h1 : 1 ≤ S.length) (h2 : S.length ≤ 16384) :
    CallsR Tryz.prog 40 [.slice A n cp] w fun v w' => ∃ g, v = .pointer (some ⟨g, 0, none⟩) ∧ DkAt w' lo w'.heap.size g S (List.replicate S.length none) ∧ w.heap.size ≤ g ∧ Below w.heap.size w w' := by
  subst hn
  refine callsR Tryz.func40 rfl rfl (by kernel_rfl) rfl ?_
  have hw := Below.refl w.heap.size w
  refine rk_seq ?_
  refine rk_region ?_
  refine wl_p (fun _ => o_assign rfl) ?_
  refine wl_nil ?_
  refine rk_seq ?_
  refine rk_region ?_
  refine wl_p (fun _ => o_move rfl) ?_
  refine wl_makeS S.length Tryz.underlying96 ?_
  rintro b w5 fm b5 i5 i5_1
  have sb5 := b5.size
  replace hw := hw.trans (b5.mono hw.size)
  refine wl_p (fun _ => (o_buildg [_, _, _] Tryz.underlying98 Tryz.zeroValue98 (by rfl) (by rfl) rfl (by rfl) (by rfl) (fun _ => by kernel_rfl))) ?_
  refine wl_boxg [_, _, _] rfl (by rfl) ?_
  rintro g7 w7 f7 b7 i7 i7_1
  have s7 := b7.size
  replace hw := hw.trans (b7.mono hw.size)
  replace fm := fm.u b7
  refine wl_p (fun _ => o_assign rfl) ?_
  refine wl_nil ?_
  refine rk_seq ?_
  refine rk_region ?_
  refine wl_p (fun _ => o_move rfl) ?_
  refine wl_p (fun _ => o_move rfl) ?_
  refine wl_p (fun _ => o_nil rfl) ?_
  refine wl_p (fun _ => o_faddr (s := 98) (i := 0) (off := 0) Tryz.underlying98 rfl Tryz.sizeOf26 rfl rfl rfl) ?_
  refine wl_storeg1 Tryz.sizeOf26 rfl rfl (by rfl) f7 (by simp) ?_
  rintro w_1 f g e
  have s := g.size
  replace hw := hw.trans (below_of_grownBy g.g hw.size (by omega))
  replace fm := fm.k g.g (ap_some (by omega))
  clear f7
  refine wl_nil ?_
  refine rk_seq ?_
  refine rk_region ?_
  refine wl_p (fun _ => o_move rfl) ?_
  refine wl_p (fun _ => o_assign rfl) ?_
  refine wl_nil ?_
  refine ret1 rfl rfl ?_
  have hsz := hw.size
  exact ⟨g7, rfl, ⟨⟨A, cp, b, f, (hs.u hw).base (Nat.le_refl _) (by omega), fm, by omega, by omega, by omega⟩, by omega, by omega, Nat.le_refl _, List.length_replicate, h1, h2⟩, by omega, hw⟩
theorem K_dNew {n : Int} (w : World) :
    CallsR Tryz.prog 10 [.int .i64 n] w fun v w' => ((n < 1 ∨ 16384 < n) ∧ v = .tuple #[.pointer none, .int .i64 2] ∨ 1 ≤ n ∧ n ≤ 16384 ∧ ∃ g, v = .tuple #[.pointer (some ⟨g, 0, none⟩), .int .i64 0] ∧ DkAt w' w.heap.size w'.heap.size g (List.replicate n.toNat z256) (List.replicate n.toNat none)) ∧ Below w.heap.size w w' := by
  refine callsR Tryz.func10 rfl rfl (by kernel_rfl) rfl ?_
  have hw := Below.refl w.heap.size w
  refine rk_seq ?_
  refine rk_region ?_
  refine wl_p (fun _ => o_assign rfl) ?_
  refine wl_p (fun _ => o_assign rfl) ?_
  refine wl_nil ?_
  refine rk_seq ?_
  refine rk_seq ?_
  refine rk_region ?_
  refine wl_p (fun _ => o_move rfl) ?_
  refine wl_p (fun _ => o_lt rfl rfl) ?_
  refine wl_p (fun _ => o_move rfl) ?_
  refine wl_bool 6 rfl (fun h6 => ?_) (fun h6 => ?_) <;> try simp only [decide_eq_true_eq, decide_eq_false_iff_not, Bool.not_eq_true', Bool.not_eq_false', Bool.and_eq_true, Bool.and_eq_false_iff, Bool.or_eq_true, Bool.or_eq_false_iff] at h6
  · refine wl_off ?_
    refine wl_off ?_
    refine wl_p (fun _ => o_pick_t rfl rfl) ?_
    refine wl_nil ?_
    refine rk_true rfl ?_
    refine rk_seq ?_
    refine rk_region ?_
    refine wl_p (fun _ => o_assign rfl) ?_
    refine wl_p (fun _ => o_assign rfl) ?_
    refine wl_nil ?_
    refine ret2 rfl rfl rfl ?_
    exact ⟨.inl ⟨by omega, rfl⟩, hw⟩
  · refine wl_p (fun _ => o_move rfl) ?_
    refine wl_p (fun _ => o_gt rfl rfl) ?_
    refine wl_p (fun _ => o_pick_f rfl rfl) ?_
    refine wl_nil ?_
    refine rk_if rfl (fun h9 => ?_) (fun h9 => ?_)
    · refine rk_seq ?_
      refine rk_region ?_
      refine wl_p (fun _ => o_assign rfl) ?_
      refine wl_p (fun _ => o_assign rfl) ?_
      refine wl_nil ?_
      refine ret2 rfl rfl rfl ?_
      exact ⟨.inl ⟨by omega, rfl⟩, hw⟩
    · obtain ⟨m, rfl⟩ : ∃ m : Nat, n = (m : Int) := ⟨n.toNat, by omega⟩
      have hml : m = (List.replicate m z256).length := by rw [List.length_replicate]
      refine rk_skip ?_
      refine rk_seq ?_
      refine rk_region ?_
      refine wl_p (fun _ => o_move rfl) ?_
      refine wl_mkSec (m) rfl rfl rfl rfl (by omega) ?_
      rintro A11 w11 f11 b11
      have qf11 := f11.cap
      have s11 := b11.size
      replace hw := hw.trans (b11.mono hw.size)
      refine wl_call rfl (C_dkMade _ f11 hml hw.size (by omega) (by omega)) ?_
      rintro v12 w12 ⟨g12, ⟨rfl, ⟨f12, ⟨i12, b12⟩⟩⟩⟩
      have s12 := b12.size
      replace hw := hw.trans (b12.mono hw.size)
      replace f11 := f11.u b12
      refine wl_p (fun _ => o_assign rfl) ?_
      refine wl_p (fun _ => o_assign rfl) ?_
      refine wl_nil ?_
      refine ret2 rfl rfl rfl ?_
      refine ⟨.inr ⟨by omega, by omega, g12, rfl, ?_⟩, hw⟩
      rw [List.length_replicate] at f12
      exact f12
theorem C_check {lo hi g : Nat} {S : List Sec} {C : List (Option Sec)} {a : Int} (w : World) (hd : DkAt w lo hi g S C) :
    CallsR Tryz.prog 98 [.pointer (some ⟨g, 0, none⟩), .int .i64 a] w fun v w' => v = .int .i64 (if 0 ≤ a ∧ a < S.length then 0 else 2) ∧ w' = w := by
  have hd0 := hd
  obtain ⟨A, c, b, f, fs, fm, h4, h5, h6⟩ := hd0.ex
  refine callsR Tryz.func98 rfl rfl (by kernel_rfl) rfl ?_
  by_cases h0 : a < 0
  · refine rk_seq ?_
    refine rk_region ?_
    refine wl_p (fun _ => o_assign rfl) ?_
    refine wl_nil ?_
    refine rk_seq ?_
    refine rk_seq ?_
    refine rk_region ?_
    refine wl_p (fun _ => o_move rfl) ?_
    refine wl_call rfl (C_valid _ hd0) ?_
    rintro v6 w6 ⟨rfl, rfl⟩
    refine wl_p (fun _ => o_not rfl) ?_
    refine wl_nil ?_
    refine rk_false rfl ?_
    refine rk_skip ?_
    refine rk_seq ?_
    refine rk_seq ?_
    refine rk_region ?_
    refine wl_p (fun _ => o_move rfl) ?_
    refine wl_p (fun _ => o_lt rfl rfl) ?_
    refine wl_p (fun _ => o_move rfl) ?_
    refine wl_know 10 true rfl (decide_eq_true (by omega)) ?_
    refine wl_off ?_
    refine wl_off ?_
    refine wl_off ?_
    refine wl_off ?_
    refine wl_off ?_
    refine wl_off ?_
    refine wl_off ?_
    refine wl_p (fun _ => o_pick_t rfl rfl) ?_
    refine wl_nil ?_
    refine rk_true rfl ?_
    refine rk_seq ?_
    refine rk_region ?_
    refine wl_p (fun _ => o_assign rfl) ?_
    refine wl_nil ?_
    refine ret1 rfl rfl ?_
    rw [if_neg (by omega)]
    exact ⟨rfl, rfl⟩
  · refine rk_seq ?_
    refine rk_region ?_
    refine wl_p (fun _ => o_assign rfl) ?_
    refine wl_nil ?_
    refine rk_seq ?_
    refine rk_seq ?_
    refine rk_region ?_
    refine wl_p (fun _ => o_move rfl) ?_
    refine wl_call rfl (C_valid _ hd0) ?_
    rintro v6 w6 ⟨rfl, rfl⟩
    refine wl_p (fun _ => o_not rfl) ?_
    refine wl_nil ?_
    refine rk_false rfl ?_
    refine rk_skip ?_
    refine rk_seq ?_
    refine rk_seq ?_
    refine rk_region ?_
    refine wl_p (fun _ => o_move rfl) ?_
    refine wl_p (fun _ => o_lt rfl rfl) ?_
    refine wl_p (fun _ => o_move rfl) ?_
    refine wl_know 10 false rfl (decide_eq_false (by omega)) ?_
    refine wl_p (fun _ => o_move rfl) ?_
    refine wl_p (fun _ => o_move rfl) ?_
    refine wl_p (fun _ => o_nil rfl) ?_
    refine wl_p (fun _ => o_faddr (s := 98) (i := 1) (off := 1) Tryz.underlying98 rfl Tryz.sizeOf77 rfl rfl rfl) ?_
    refine wl_r (o_loadbg Tryz.isAgg77 rfl f (by rfl)) ?_
    refine wl_p (fun _ => o_len (t := 77) Tryz.underlying77 rfl) ?_
    refine wl_p (fun _ => o_ge rfl rfl) ?_
    refine wl_p (fun _ => o_pick_f rfl rfl) ?_
    refine wl_nil ?_
    refine rk_if rfl (fun h18 => ?_) (fun h18 => ?_)
    · refine rk_seq ?_
      refine rk_region ?_
      refine wl_p (fun _ => o_assign rfl) ?_
      refine wl_nil ?_
      refine ret1 rfl rfl ?_
      rw [if_neg (by omega)]
      exact ⟨rfl, rfl⟩
    · refine rk_skip ?_
      refine rk_seq ?_
      refine rk_region ?_
      refine wl_p (fun _ => o_assign rfl) ?_
      refine wl_nil ?_
      refine ret1 rfl rfl ?_
      rw [if_pos (by omega)]
      exact ⟨rfl, rfl⟩
/-- What Read returns. -/
def rdD (S : List Sec) (C : List (Option Sec)) (a : Int) : By × Nat := if h : 0 ≤ a ∧ a < S.length then (((cAt C a).getD (S[a.toNat]'(by omega))).1, 0) else ([], 2)
theorem K_dRead {lo hi g : Nat} {S : List Sec} {C : List (Option Sec)} {a : Int} (w : World) (hd : DkAt w lo hi g S C) (wa : (Lit.int .i64 a).wf = true) :
    CallsR Tryz.prog 83 [.pointer (some ⟨g, 0, none⟩), .int .i64 a] w fun v w' => ∃ (A : Option Addr) (c : Nat) (r : By) (e : Nat), v = .tuple #[.slice A r.length c, .int .i64 (e : Int)] ∧ rdD S C a = (r, e) ∧ RdB w' w.heap.size w'.heap.size A r ∧ r.length ≤ c ∧ Below w.heap.size w w' := by
  refine callsR Tryz.func83 rfl rfl (by kernel_rfl) rfl ?_
  have hw := Below.refl w.heap.size w
  refine rk_seq ?_
  refine rk_region ?_
  refine wl_p (fun _ => o_assign rfl) ?_
  refine wl_p (fun _ => o_assign rfl) ?_
  refine wl_nil ?_
  refine rk_seq ?_
  refine rk_seq ?_
  refine rk_region ?_
  refine wl_p (fun _ => o_move rfl) ?_
  refine wl_p (fun _ => o_move rfl) ?_
  refine wl_call rfl (C_check _ hd) ?_
  rintro v11 w11 ⟨rfl, rfl⟩
  refine wl_p (fun _ => o_assign rfl) ?_
  refine wl_nil ?_
  refine rk_seq ?_
  refine rk_region ?_
  refine wl_p (fun _ => o_move rfl) ?_
  refine wl_p (fun _ => o_ne rfl rfl) ?_
  refine wl_nil ?_
  by_cases h0 : 0 ≤ a ∧ a < S.length
  · rw [if_pos h0]
    obtain ⟨A, c, b, f, fs, fm, h4, h5, h6⟩ := hd.ex
    obtain ⟨i, rfl⟩ : ∃ i : Nat, a = (i : Int) := ⟨a.toNat, by omega⟩
    have hal : ((cAt C (i : Int)).getD S[i]).1.length = 256 := ((cAt C (i : Int)).getD S[i]).2
    cases hci : cAt C (i : Int) with
    | some s =>
      rw [hci] at hal
      refine rk_false rfl ?_
      refine rk_skip ?_
      refine rk_seq ?_
      refine rk_region ?_
      refine wl_p (fun _ => o_move rfl) ?_
      refine wl_p (fun _ => o_nil rfl) ?_
      refine wl_p (fun _ => o_faddr (s := 98) (i := 2) (off := 2) Tryz.underlying98 rfl Tryz.sizeOf96 rfl rfl rfl) ?_
      refine wl_r (o_loadbg Tryz.isAgg96 rfl f (by rfl)) ?_
      refine wl_p (fun _ => o_move rfl) ?_
      refine wl_r (o_lookS2 Tryz.underlying96 rfl rfl fm hci wa) ?_
      refine wl_p (fun _ => o_move rfl) ?_
      refine wl_p (fun _ => o_ext20 rfl) ?_
      refine wl_p (fun _ => o_ext21 rfl) ?_
      refine wl_allocB Tryz.underlying95 Tryz.zeroValue95 (by rfl) ?_
      rintro g7 w7 f7 b7 i7 i7_1
      have s7 := b7.size
      replace hw := hw.trans (b7.mono hw.size)
      refine wl_stBa Tryz.sizeOf95 rfl f7 rfl (by simp; omega) (by rfl) ?_
      rintro w f_1 g_1 e
      have s_1 := g_1.size
      replace hw := hw.trans (below_of_grownBy g_1.g hw.size (by omega))
      clear f7
      refine wl_p (fun _ => o_assign rfl) ?_
      refine wl_nil ?_
      refine rk_seq ?_
      refine rk_seq ?_
      refine rk_region ?_
      refine wl_p (fun _ => o_move rfl) ?_
      refine wl_p (fun _ => o_not rfl) ?_
      refine wl_nil ?_
      refine rk_false rfl ?_
      refine rk_skip ?_
      refine rk_seq ?_
      refine rk_region ?_
      refine wl_p (fun _ => o_slice_arr (t := 95) Tryz.underlying95 Tryz.sizeOf5 rfl) ?_
      refine wl_p (fun _ => o_assign rfl) ?_
      refine wl_p (fun _ => o_assign rfl) ?_
      refine wl_nil ?_
      refine ret2 rfl rfl rfl ?_
      exact ⟨_, 256, s.1, 0, by rw [s.2]; rfl, by rw [rdD, dif_pos h0, hci]; rfl, f_1.rdB.base (by omega) (by omega), by rw [s.2]; omega, hw⟩
    | none =>
      rw [hci] at hal
      refine rk_false rfl ?_
      refine rk_skip ?_
      refine rk_seq ?_
      refine rk_region ?_
      refine wl_p (fun _ => o_move rfl) ?_
      refine wl_p (fun _ => o_nil rfl) ?_
      refine wl_p (fun _ => o_faddr (s := 98) (i := 2) (off := 2) Tryz.underlying98 rfl Tryz.sizeOf96 rfl rfl rfl) ?_
      refine wl_r (o_loadbg Tryz.isAgg96 rfl f (by rfl)) ?_
      refine wl_p (fun _ => o_move rfl) ?_
      refine wl_r (o_lookS2 Tryz.underlying96 rfl rfl fm hci wa) ?_
      refine wl_p (fun _ => o_move rfl) ?_
      refine wl_p (fun _ => o_ext20 rfl) ?_
      refine wl_p (fun _ => o_ext21 rfl) ?_
      refine wl_allocB Tryz.underlying95 Tryz.zeroValue95 (by rfl) ?_
      rintro g7 w7 f7 b7 i7 i7_1
      have s7 := b7.size
      replace hw := hw.trans (b7.mono hw.size)
      refine wl_stBa Tryz.sizeOf95 rfl f7 rfl (by rfl) (by rfl) ?_
      rintro w f_1 g_1 e
      have s := g_1.size
      replace hw := hw.trans (below_of_grownBy g_1.g hw.size (by omega))
      clear f7
      refine wl_p (fun _ => o_assign rfl) ?_
      refine wl_nil ?_
      refine rk_seq ?_
      refine rk_seq ?_
      refine rk_region ?_
      refine wl_p (fun _ => o_move rfl) ?_
      refine wl_p (fun _ => o_not rfl) ?_
      refine wl_nil ?_
      refine rk_true rfl ?_
      refine rk_region ?_
      refine wl_p (fun _ => o_move rfl) ?_
      refine wl_p (fun _ => o_nil rfl) ?_
      refine wl_p (fun _ => o_faddr (s := 98) (i := 1) (off := 1) Tryz.underlying98 rfl Tryz.sizeOf77 rfl rfl rfl) ?_
      refine wl_r (o_loadbg Tryz.isAgg77 rfl (f.u hw) (by rfl)) ?_
      refine wl_p (fun _ => o_move rfl) ?_
      refine wl_p (fun _ => (o_iaddrA (i) Tryz.underlying77 Tryz.sizeOf95 rfl rfl rfl (fs.some_ (by omega)) (by omega))) ?_
      refine wl_r (o_ldSec rfl (fs.u hw) (by omega)) ?_
      refine wl_stBa Tryz.sizeOf95 rfl f_1 rfl (by assumption) (by rfl) ?_
      rintro w_1 f_2 g_2 e_1
      have s_1 := g_2.size
      replace hw := hw.trans (below_of_grownBy g_2.g hw.size (by omega))
      clear f_1
      refine wl_nil ?_
      refine rk_seq ?_
      refine rk_region ?_
      refine wl_p (fun _ => o_slice_arr (t := 95) Tryz.underlying95 Tryz.sizeOf5 rfl) ?_
      refine wl_p (fun _ => o_assign rfl) ?_
      refine wl_p (fun _ => o_assign rfl) ?_
      refine wl_nil ?_
      refine ret2 rfl rfl rfl ?_
      exact ⟨_, 256, S[i].1, 0, by rw [S[i].2]; rfl, by rw [rdD, dif_pos h0, hci]; rfl, f_2.rdB.base (by omega) (by omega), by rw [S[i].2]; omega, hw⟩
  · rw [if_neg h0]
    refine rk_true rfl ?_
    refine rk_seq ?_
    refine rk_region ?_
    refine wl_p (fun _ => o_move rfl) ?_
    refine wl_p (fun _ => o_assign rfl) ?_
    refine wl_p (fun _ => o_assign rfl) ?_
    refine wl_nil ?_
    refine ret2 rfl rfl rfl ?_
    exact ⟨none, 0, [], 2, rfl, by rw [rdD, dif_neg h0], RdB.nil_, by simp, hw⟩
/-- What Write leaves, and returns. -/
def wrC (S : List Sec) (C : List (Option Sec)) (a : Int) (b : By) : List (Option Sec) × Nat := if h : (0 ≤ a ∧ a < S.length) ∧ b.length = 256 then (C.set a.toNat (some ⟨b, h.2⟩), 0) else (C, 2)
theorem K_dWrite {lo hi g n cp : Nat} {S : List Sec} {C : List (Option Sec)} {a : Int} {B : Option Addr} {b : By} (w : World) (hd : DkAt w lo hi g S C) (hb : Rd w B b) (wa : (Lit.int .i64 a).wf = true) (hn : n = b.length) (hc : n ≤ cp) :
    CallsR Tryz.prog 76 [.pointer (some ⟨g, 0, none⟩), .int .i64 a, .slice B n cp] w fun v w' => ∃ (C' : List (Option Sec)) (e : Nat), v = .int .i64 (e : Int) ∧ wrC S C a b = (C', e) ∧ DkAt w' lo hi g S C' ∧ Chg lo hi w w' := by
  subst hn
  refine callsR Tryz.func76 rfl rfl (by kernel_rfl) rfl ?_
  have hcg : Chg lo hi w w := Chg.refl
  refine rk_seq ?_
  refine rk_region ?_
  refine wl_p (fun _ => o_assign rfl) ?_
  refine wl_nil ?_
  refine rk_seq ?_
  refine rk_seq ?_
  refine rk_region ?_
  refine wl_p (fun _ => o_move rfl) ?_
  refine wl_p (fun _ => o_move rfl) ?_
  refine wl_call rfl (C_check _ hd) ?_
  rintro v10 w10 ⟨rfl, rfl⟩
  refine wl_p (fun _ => o_assign rfl) ?_
  refine wl_nil ?_
  refine rk_seq ?_
  refine rk_region ?_
  refine wl_p (fun _ => o_move rfl) ?_
  refine wl_p (fun _ => o_ne rfl rfl) ?_
  refine wl_nil ?_
  by_cases h0 : 0 ≤ a ∧ a < S.length
  · rw [if_pos h0]
    refine rk_false rfl ?_
    refine rk_skip ?_
    refine rk_seq ?_
    refine rk_seq ?_
    refine rk_region ?_
    refine wl_p (fun _ => o_move rfl) ?_
    refine wl_p (fun _ => o_len (t := 35) Tryz.underlying35 rfl) ?_
    refine wl_p (fun _ => o_ne rfl rfl) ?_
    refine wl_nil ?_
    by_cases hbl : b.length = 256
    · obtain ⟨A, c, b', f, fs, fm, h4, h5, h6⟩ := hd.ex
      obtain ⟨i, rfl⟩ : ∃ i : Nat, a = (i : Int) := ⟨a.toNat, by omega⟩
      have hhi := hd.hi
      have hg1 := hd.g1
      have hg2 := hd.g2
      have hle := hd.len
      have hn1 := hd.n1
      have hn2 := hd.n2
      refine rk_if rfl (fun h16 => absurd h16 (by omega)) (fun h16 => ?_)
      refine rk_skip ?_
      refine rk_seq ?_
      refine rk_draw (id := 6) (none) [0, 1, 2, 4, 0, 0, 32, 64, 255] [0, 1, 3, 7, 0, 0, 32, 96, 255] 256 0 [(.p, 0), (.p, 1), (.p, 2), (.r, 3), (.p, 4), (.p, 5), (.p, 6), (.r, 7), (.l, 8)] (by kernel_rfl) (by kernel_rfl) (by kernel_rfl) (by kernel_rfl) (by kernel_rfl) ?_
      replace hcg := hcg.trans Chg.drew
      replace fm := fm.d
      replace fs := fs.d
      replace f := f.d
      replace hb := hb.d
      replace hd := hd.d
      refine wl_p (fun _ => o_move rfl) ?_
      refine wl_p (fun _ => o_nil rfl) ?_
      refine wl_p (fun _ => o_faddr (s := 98) (i := 2) (off := 2) Tryz.underlying98 rfl Tryz.sizeOf96 rfl rfl rfl) ?_
      refine wl_r (o_loadbg Tryz.isAgg96 rfl f (by rfl)) ?_
      refine wl_p (fun _ => o_move rfl) ?_
      refine wl_p (fun _ => o_move rfl) ?_
      refine wl_p (fun _ => (o_arrptr Tryz.underlying95 rfl (by omega))) ?_
      refine wl_r (o_ldSecSl rfl hb hbl) ?_
      refine wl_putS Tryz.underlying96 rfl rfl fm rfl rfl (by omega) (by omega) ?_
      rintro w f_1 g_1 e
      simp only [drew_size] at e
      have s := g_1.size
      simp only [drew_size] at s
      replace hcg := hcg.trans (Chg.of_g1 g_1.g (by omega) (by omega))
      replace f := f.k g_1.g (ap_some (by omega))
      replace fs := fs.m g_1
      clear hd
      clear hb
      clear fm
      refine wl_nild ?_
      refine rk_seq ?_
      refine rk_region ?_
      refine wl_p (fun _ => o_assign rfl) ?_
      refine wl_nil ?_
      refine ret1 rfl rfl ?_
      exact ⟨C.set i (some ⟨b, hbl⟩), 0, rfl, by rw [wrC, dif_pos ⟨h0, hbl⟩]; rfl, ⟨⟨A, c, b', f, fs, f_1, h4, h5, h6⟩, hg1, hg2, by have := hcg.size; omega, by rw [List.length_set]; exact hle, hn1, hn2⟩, hcg⟩
    · refine rk_if rfl (fun h16 => ?_) (fun h16 => h16.elim (by omega))
      refine rk_seq ?_
      refine rk_region ?_
      refine wl_p (fun _ => o_assign rfl) ?_
      refine wl_nil ?_
      refine ret1 rfl rfl ?_
      exact ⟨C, 2, rfl, by rw [wrC, dif_neg (fun h => hbl h.2)], hd, hcg⟩
  · rw [if_neg h0]
    refine rk_true rfl ?_
    refine rk_seq ?_
    refine rk_region ?_
    refine wl_p (fun _ => o_move rfl) ?_
    refine wl_p (fun _ => o_assign rfl) ?_
    refine wl_nil ?_
    refine ret1 rfl rfl ?_
    exact ⟨C, 2, rfl, by rw [wrC, dif_neg (fun h => h0 h.1)], hd, hcg⟩
end Go.Proofs.YtnnhenafhalobaaGreat
/-
  DERIVED: THE SHELF's CONTRACTS AT THIS DUMP, IN PLAIN WORDS (tools/lay-plain.mjs out of 'TryShelf.lean', which tools/lay-shelf.mjs wrote): THE SAME DECLARATIONS UNDER THE SAME NAMES: 'import', 'namespace', 'open', 'def', 'theorem' AND NOTHING ELSE: no command of the shelf's: FOR A HAND-IN. Each laying: the table of numbers ('.._ren') and one theorem, a field a fact of the dump's own or the kernel's comparison; each contract: ONE APPLICATION.
-/
namespace Go.Proofs
open Go.Shelf
def Tryz.keysA_ren : Go.Shelf.Ren := ⟨fun | 7 => 74 | 10 => 96 | n => n, fun | 23 => 96 | 26 => 3 | 3 => 95 | 28 => 110 | 0 => 0 | 27 => 109 | 33 => 135 | 4 => 4 | n => n, fun | n => n⟩
theorem Tryz.keysA : Go.Proofs.SlLaysZI.n7 Tryz.prog Tryz.keysA_ren := {
  mixed := by kernel_rfl
  f7 := ⟨Tryz.f74.name, by decide, Tryz.func74.trans (congrArg some (by kernel_rfl))⟩
  f10 := ⟨Tryz.f96.name, by decide, Tryz.func96.trans (congrArg some (by kernel_rfl))⟩
  t0 := Tryz.underlying0
  a0 := Tryz.isAgg0
  z0 := Tryz.sizeOf0
  v0 := Tryz.zeroValue0
  t4 := Tryz.underlying4
  a4 := Tryz.isAgg4
  z4 := Tryz.sizeOf4
  v4 := Tryz.zeroValue4
  t23 := Tryz.underlying96
  a23 := Tryz.isAgg96
  z23 := Tryz.sizeOf96
  v23 := Tryz.zeroValue96
  t26 := Tryz.underlying3
  a26 := Tryz.isAgg3
  z26 := Tryz.sizeOf3
  v26 := Tryz.zeroValue3
  t27 := Tryz.underlying109
  a27 := Tryz.isAgg109
  z27 := Tryz.sizeOf109
  v27 := Tryz.zeroValue109
  t28 := Tryz.underlying110
  a28 := Tryz.isAgg110
  z28 := Tryz.sizeOf110
  v28 := Tryz.zeroValue110
  t33 := Tryz.underlying135
  a33 := Tryz.isAgg135
  z33 := Tryz.sizeOf135
  v33 := Tryz.zeroValue135 }
def Tryz.sortedA_ren : Go.Shelf.Ren := ⟨fun | 6 => 73 | 8 => 94 | 9 => 95 | 11 => 117 | 13 => 119 | 12 => 118 | 23 => 141 | 24 => 127 | 14 => 132 | 15 => 133 | 16 => 134 | 17 => 135 | 18 => 136 | 19 => 137 | 20 => 138 | 21 => 139 | 22 => 140 | 25 => 151 | 26 => 152 | 27 => 153 | 28 => 154 | 29 => 155 | 30 => 156 | 31 => 159 | n => n, fun | 26 => 3 | 28 => 110 | 24 => 69 | 0 => 0 | 3 => 3 | 37 => 151 | 48 => 174 | 50 => 52 | 4 => 4 | 40 => 166 | 39 => 165 | 45 => 171 | 5 => 5 | 9 => 9 | 51 => 182 | 55 => 185 | 57 => 189 | 58 => 190 | 33 => 135 | n => n, fun | n => n⟩
theorem Tryz.sortedA : Go.Proofs.SlLaysZI.n6 Tryz.prog Tryz.sortedA_ren := {
  mixed := by kernel_rfl
  f6 := ⟨Tryz.f73.name, by decide, Tryz.func73.trans (congrArg some (by kernel_rfl))⟩
  f8 := ⟨Tryz.f94.name, by decide, Tryz.func94.trans (congrArg some (by kernel_rfl))⟩
  f11 := ⟨Tryz.f117.name, by decide, Tryz.func117.trans (congrArg some (by kernel_rfl))⟩
  t0 := Tryz.underlying0
  a0 := Tryz.isAgg0
  z0 := Tryz.sizeOf0
  v0 := Tryz.zeroValue0
  t24 := Tryz.underlying69
  a24 := Tryz.isAgg69
  z24 := Tryz.sizeOf69
  v24 := Tryz.zeroValue69
  t26 := Tryz.underlying3
  a26 := Tryz.isAgg3
  z26 := Tryz.sizeOf3
  v26 := Tryz.zeroValue3
  t28 := Tryz.underlying110
  a28 := Tryz.isAgg110
  z28 := Tryz.sizeOf110
  v28 := Tryz.zeroValue110
  i26 := by kernel_rfl }
def Tryz.sortA_ren : Go.Shelf.Ren := ⟨fun | 5 => 95 | 8 => 119 | 7 => 118 | 19 => 141 | 20 => 127 | 10 => 132 | 11 => 133 | 12 => 134 | 13 => 135 | 14 => 136 | 15 => 137 | 16 => 138 | 17 => 139 | 18 => 140 | 30 => 151 | 31 => 152 | 32 => 153 | 33 => 154 | 34 => 155 | 35 => 156 | 40 => 159 | n => n, fun | 23 => 69 | 25 => 3 | 3 => 3 | 32 => 151 | 22 => 69 | 0 => 0 | 44 => 174 | 46 => 52 | 4 => 4 | 36 => 166 | 35 => 165 | 41 => 171 | 5 => 5 | 9 => 9 | 53 => 182 | 57 => 185 | 63 => 189 | 64 => 190 | n => n, fun | n => n⟩
theorem Tryz.sortA : Go.Proofs.SlLaysM.n5 Tryz.prog Tryz.sortA_ren := {
  mixed := by kernel_rfl
  f5 := ⟨Tryz.f95.name, by decide, Tryz.func95.trans (congrArg some (by kernel_rfl))⟩
  f7 := ⟨Tryz.f118.name, by decide, Tryz.func118.trans (congrArg some (by kernel_rfl))⟩
  f8 := Tryz.func119.trans (congrArg some (by kernel_rfl))
  f10 := ⟨Tryz.f132.name, by decide, Tryz.func132.trans (congrArg some (by kernel_rfl))⟩
  f11 := ⟨Tryz.f133.name, by decide, Tryz.func133.trans (congrArg some (by kernel_rfl))⟩
  f12 := ⟨Tryz.f134.name, by decide, Tryz.func134.trans (congrArg some (by kernel_rfl))⟩
  f13 := ⟨Tryz.f135.name, by decide, Tryz.func135.trans (congrArg some (by kernel_rfl))⟩
  f14 := ⟨Tryz.f136.name, by decide, Tryz.func136.trans (congrArg some (by kernel_rfl))⟩
  f15 := ⟨Tryz.f137.name, by decide, Tryz.func137.trans (congrArg some (by kernel_rfl))⟩
  f16 := ⟨Tryz.f138.name, by decide, Tryz.func138.trans (congrArg some (by kernel_rfl))⟩
  f17 := ⟨Tryz.f139.name, by decide, Tryz.func139.trans (congrArg some (by kernel_rfl))⟩
  f18 := ⟨Tryz.f140.name, by decide, Tryz.func140.trans (congrArg some (by kernel_rfl))⟩
  f19 := Tryz.func141.trans (congrArg some (by kernel_rfl))
  f20 := Tryz.func127.trans (congrArg some (by kernel_rfl))
  f30 := ⟨Tryz.f151.name, by decide, Tryz.func151.trans (congrArg some (by kernel_rfl))⟩
  f31 := Tryz.func152.trans (congrArg some (by kernel_rfl))
  f32 := Tryz.func153.trans (congrArg some (by kernel_rfl))
  f33 := ⟨Tryz.f154.name, by decide, Tryz.func154.trans (congrArg some (by kernel_rfl))⟩
  f34 := ⟨Tryz.f155.name, by decide, Tryz.func155.trans (congrArg some (by kernel_rfl))⟩
  f35 := ⟨Tryz.f156.name, by decide, Tryz.func156.trans (congrArg some (by kernel_rfl))⟩
  f40 := ⟨Tryz.f159.name, by decide, Tryz.func159.trans (congrArg some (by kernel_rfl))⟩
  t0 := Tryz.underlying0
  a0 := Tryz.isAgg0
  z0 := Tryz.sizeOf0
  v0 := Tryz.zeroValue0
  t3 := Tryz.underlying3
  a3 := Tryz.isAgg3
  z3 := Tryz.sizeOf3
  v3 := Tryz.zeroValue3
  t4 := Tryz.underlying4
  a4 := Tryz.isAgg4
  z4 := Tryz.sizeOf4
  v4 := Tryz.zeroValue4
  t5 := Tryz.underlying5
  a5 := Tryz.isAgg5
  z5 := Tryz.sizeOf5
  v5 := Tryz.zeroValue5
  t9 := Tryz.underlying9
  a9 := Tryz.isAgg9
  z9 := Tryz.sizeOf9
  v9 := Tryz.zeroValue9
  t22 := Tryz.underlying69
  a22 := Tryz.isAgg69
  z22 := Tryz.sizeOf69
  v22 := Tryz.zeroValue69
  t23 := Tryz.underlying69
  a23 := Tryz.isAgg69
  z23 := Tryz.sizeOf69
  v23 := Tryz.zeroValue69
  t25 := Tryz.underlying3
  a25 := Tryz.isAgg3
  z25 := Tryz.sizeOf3
  v25 := Tryz.zeroValue3
  t32 := Tryz.underlying151
  a32 := Tryz.isAgg151
  z32 := Tryz.sizeOf151
  v32 := Tryz.zeroValue151
  t35 := Tryz.underlying165
  a35 := Tryz.isAgg165
  z35 := Tryz.sizeOf165
  v35 := Tryz.zeroValue165
  t36 := Tryz.underlying166
  a36 := Tryz.isAgg166
  z36 := Tryz.sizeOf166
  v36 := Tryz.zeroValue166
  t41 := Tryz.underlying171
  a41 := Tryz.isAgg171
  z41 := Tryz.sizeOf171
  v41 := Tryz.zeroValue171
  t44 := Tryz.underlying174
  a44 := Tryz.isAgg174
  z44 := Tryz.sizeOf174
  v44 := Tryz.zeroValue174
  t46 := Tryz.underlying52
  a46 := Tryz.isAgg52
  z46 := Tryz.sizeOf52
  v46 := Tryz.zeroValue52
  t53 := Tryz.underlying182
  a53 := Tryz.isAgg182
  z53 := Tryz.sizeOf182
  v53 := Tryz.zeroValue182
  t57 := Tryz.underlying185
  a57 := Tryz.isAgg185
  z57 := Tryz.sizeOf185
  v57 := Tryz.zeroValue185
  t63 := Tryz.underlying189
  a63 := Tryz.isAgg189
  z63 := Tryz.sizeOf189
  v63 := Tryz.zeroValue189
  t64 := Tryz.underlying190
  a64 := Tryz.isAgg190
  z64 := Tryz.sizeOf190
  v64 := Tryz.zeroValue190 }
def Tryz.lays131_ren : Go.Shelf.Ren := ⟨fun | 131 => 157 | 126 => 160 | n => n, fun | 5 => 5 | 3 => 3 | 9 => 9 | n => n, fun | n => n⟩
theorem Tryz.lays131 : Go.Proofs.Lays.n131 Tryz.prog Tryz.lays131_ren := {
  mixed := by kernel_rfl
  f126 := Tryz.func160.trans (congrArg some (by kernel_rfl))
  f131 := Tryz.func157.trans (congrArg some (by kernel_rfl))
  t3 := Tryz.underlying3
  a3 := Tryz.isAgg3
  z3 := Tryz.sizeOf3
  v3 := Tryz.zeroValue3
  t5 := Tryz.underlying5
  a5 := Tryz.isAgg5
  z5 := Tryz.sizeOf5
  v5 := Tryz.zeroValue5
  t9 := Tryz.underlying9
  a9 := Tryz.isAgg9
  z9 := Tryz.sizeOf9
  v9 := Tryz.zeroValue9 }
theorem Tryz.bits_LeadingZeros8 (x : Int) (w : World) (h0 : 0 ≤ x) (h1 : x ≤ 255) :
    Calls Tryz.prog 157 #[.int .u8 x] w fun e w' => e = .returned (.int .i64 (8 - (Lib.bitLen x.toNat : Int))) ∧ w' = w := Any.bits_LeadingZeros8 Tryz.lays131 x w h0 h1
def Tryz.lays129_ren : Go.Shelf.Ren := ⟨fun | 129 => 127 | n => n, fun | 53 => 52 | 3 => 3 | 4 => 4 | 46 => 151 | 5 => 5 | 9 => 9 | n => n, fun | n => n⟩
theorem Tryz.lays129 : Go.Proofs.Lays.n129 Tryz.prog Tryz.lays129_ren := {
  mixed := by kernel_rfl
  f129 := Tryz.func127.trans (congrArg some (by kernel_rfl))
  t3 := Tryz.underlying3
  a3 := Tryz.isAgg3
  z3 := Tryz.sizeOf3
  v3 := Tryz.zeroValue3
  t4 := Tryz.underlying4
  a4 := Tryz.isAgg4
  z4 := Tryz.sizeOf4
  v4 := Tryz.zeroValue4
  t5 := Tryz.underlying5
  a5 := Tryz.isAgg5
  z5 := Tryz.sizeOf5
  v5 := Tryz.zeroValue5
  t9 := Tryz.underlying9
  a9 := Tryz.isAgg9
  z9 := Tryz.sizeOf9
  v9 := Tryz.zeroValue9
  t46 := Tryz.underlying151
  a46 := Tryz.isAgg151
  z46 := Tryz.sizeOf151
  v46 := Tryz.zeroValue151
  t53 := Tryz.underlying52
  a53 := Tryz.isAgg52
  z53 := Tryz.sizeOf52
  v53 := Tryz.zeroValue52 }
theorem Tryz.bits_Len64 (x : Int) (w : World) (h0 : 0 ≤ x) (h1 : x ≤ 18446744073709551615) :
    Calls Tryz.prog 127 #[.int .u64 x] w fun e w' => e = .returned (.int .i64 (Lib.bitLen x.toNat)) ∧ w' = w := Any.bits_Len64 Tryz.lays129 x w h0 h1
def Tryz.lays264_ren : Go.Shelf.Ren := ⟨fun | 264 => 142 | n => n, fun | 53 => 52 | 46 => 151 | n => n, fun | n => n⟩
theorem Tryz.lays264 : Go.Proofs.Lays.n264 Tryz.prog Tryz.lays264_ren := {
  mixed := by kernel_rfl
  f264 := Tryz.func142.trans (congrArg some (by kernel_rfl))
  t46 := Tryz.underlying151
  a46 := Tryz.isAgg151
  z46 := Tryz.sizeOf151
  v46 := Tryz.zeroValue151
  t53 := Tryz.underlying52
  a53 := Tryz.isAgg52
  z53 := Tryz.sizeOf52
  v53 := Tryz.zeroValue52 }
theorem Tryz.bits_Mul64 (x y : Nat) (hx : x < 18446744073709551616) (hy : y < 18446744073709551616) (w : World) :
    Calls Tryz.prog 142 #[.int .u64 x, .int .u64 y] w fun e w' => e = .returned (.tuple #[.int .u64 ((x * y / 18446744073709551616 : Nat) : Int), .int .u64 ((x * y % 18446744073709551616 : Nat) : Int)]) ∧ w' = w := Any.bits_Mul64 Tryz.lays264 x y hx hy w
end Go.Proofs
/-
  Rows of truth values. No function of the program is named here.
-/
namespace Go.Proofs.YtnnhenafhalobaaGreat
set_option maxRecDepth 100000
open Go.RowKit
/-- Truth values that are read, in the blocks from lo to hi. -/
structure RdBo (w : World) (lo hi : Nat) (A : Option Addr) (l : List Bool) : Prop where
  r : Reads w 1 A l.length (l.map Value.bool)
  b : l ≠ [] → ∀ k, blk A = some k → lo ≤ k ∧ k < hi
section
variable {w w' : World} {lo hi lo' hi' : Nat} {A : Option Addr} {l : List Bool} {row : Option Nat}
theorem RdBo.keep (h : RdBo w lo hi A l) (hk : ∀ k, lo ≤ k → k < hi → k < w.heap.size → w'.heap[k]? = w.heap[k]?) : RdBo w' lo hi A l := by
  refine ⟨⟨h.r.1, fun hn => ?_⟩, h.b⟩
  obtain ⟨b, o, rfl, hcl⟩ := h.r.2 hn
  have hb := h.b (fun e => hn (by rw [e]; rfl)) b rfl
  refine ⟨b, o, rfl, fun j u hj => ?_⟩
  have h1 := hcl j u hj
  have hlt : b < w.heap.size := block_lt_of_cell h1
  rw [← h1]
  show World.cell? w' _ = World.cell? w _
  unfold World.cell?
  rw [show w'.heap[b]? = w.heap[b]? from hk b hb.1 hb.2 hlt]
theorem RdBo.u (h : RdBo w lo hi A l) (hb : Below w.heap.size w w') : RdBo w' lo hi A l := ⟨h.r.below hb, h.b⟩
theorem RdBo.d (h : RdBo w lo hi A l) : RdBo w.drew lo hi A l := ⟨h.r, h.b⟩
theorem RdBo.k (h : RdBo w lo hi A l) (hg : w.grownBy w' row) (ha : Ap row lo hi) : RdBo w' lo hi A l := h.keep (fun k h1 h2 h3 => hg.block k h3 (fun e => by have := ha k e.symm; omega))
theorem RdBo.nil_ : RdBo w lo hi none [] := ⟨Reads.none_ _ _ _, fun h => absurd rfl h⟩
theorem RdBo.some_ (h : RdBo w lo hi A l) (hl : 0 < l.length) : A = some (A.getD ⟨0, 0, none⟩) := Reads.some_ h.r (by decide) hl
end
section
variable {w w' : World} {lo hi lo' hi' cp b : Nat} {A : Option Addr} {l : List Bool} {row : Option Nat} {e' : TypeId}
end
section
variable {fn : Func} {F : Ending → World → Prop} {N : Nat} {ks : List K} {ops : Array Oper} {tg : Tags} {l : List Oper} {fr : Fr} {w w0 : World} {ty t : TypeId} {pos : String} {aft : Array Edge} {gd : Option (Nat × Bool)} {k1 k2 : IntKind} {d j n q cp lo hi lo2 hi2 : Nat} {x y : Operand} {A X : Option Addr} {zs ms : List Bool}
--@ rule load r o_ldBo
theorem o_ldBo (ha' : ∀ w, (isAgg t).run Tryz.prog w = .ok false w) (hx : fr.ev x = some (.pointer (some (adr A j)))) (hr : RdBo w lo hi A zs) (hj : j < zs.length) : OpV Tryz.prog N fr w (.load t x) ty (.bool zs[j]) w :=
  o_loadA1 ha' hx hr.r (by simp [hj])
end
end Go.Proofs.YtnnhenafhalobaaGreat
