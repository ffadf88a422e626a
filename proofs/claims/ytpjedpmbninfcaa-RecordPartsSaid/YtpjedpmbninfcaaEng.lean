/-
  A walk by small rules: the frame as a list of known slots, the code that is left as a list. Every rule is proved from the guide's own calculus; no function of the program is named here.
-/
import Derived.Test.YtpjedpmbninfcaaBase
namespace Go.Proofs.Ytpjedpmbninfcaa
open Go.RowKit

/-! The frame: what is known of its slots, the newest first. -/
abbrev Fr := List (Nat × Value)
def Fr.get : Fr → Nat → Option Value
  | [], _ => none
  | (k, v) :: r, t => bif Nat.beq k t then some v else Fr.get r t
def Fr.ev (fr : Fr) : Operand → Option Value
  | .tmp t => fr.get t
  | .const v => some v
  | .global g => some (.pointer (some ⟨g, 0, none⟩))
  | .func f => some (.func (.func f) #[] #[])
def Fr.evs (fr : Fr) : List Operand → Option (List Value)
  | [] => some []
  | x :: r => match fr.ev x, fr.evs r with
    | some v, some vs => some (v :: vs)
    | _, _ => none
def Fr.sub : Fr → Fr → Prop
  | [], _ => True
  | (t, v) :: r, fr => fr.get t = some v ∧ Fr.sub r fr

structure Rep (N : Nat) (a : Act) (fr : Fr) : Prop where
  size : a.tmps.size = N
  defers : a.defers = []
  get : ∀ t v, fr.get t = some v → a.tmps[t]? = some v

theorem Fr.get_cons (k : Nat) (v : Value) (r : Fr) (t : Nat) : Fr.get ((k, v) :: r) t = if k = t then some v else Fr.get r t := by
  show (bif Nat.beq k t then some v else Fr.get r t) = _
  by_cases h : k = t
  · subst h; simp
  · have : Nat.beq k t = false := by
      cases hb : Nat.beq k t with
      | false => rfl
      | true => exact absurd (Nat.eq_of_beq_eq_true hb) h
    rw [this, if_neg h]; rfl

theorem Rep.put {N : Nat} {a : Act} {fr : Fr} (h : Rep N a fr) {d : Nat} (hd : Nat.blt d N = true) (v : Value) : Rep N (a.put (some d) v) ((d, v) :: fr) := by
  have hd' : d < N := by simpa using hd
  refine ⟨by simp [Act.put, h.size], by simp [Act.put, h.defers], fun t u hu => ?_⟩
  rw [Fr.get_cons] at hu
  by_cases e : d = t
  · subst e
    rw [if_pos rfl] at hu
    injection hu with hu
    subst hu
    simp [Act.put, h.size, hd']
  · rw [if_neg e] at hu
    have := h.get t u hu
    simp only [Act.put]
    rw [Array.getElem?_setIfInBounds_ne e]
    exact this

theorem Rep.ev {N : Nat} {a : Act} {fr : Fr} (h : Rep N a fr) {x : Operand} {v : Value} (hx : fr.ev x = some v) : a.eval x = v := by
  cases x with
  | tmp t =>
    have := h.get t v hx
    simp [Act.eval, this]
  | const u => exact Option.some.inj hx
  | global g => exact Option.some.inj hx
  | func f => exact Option.some.inj hx

theorem Rep.evs {N : Nat} {a : Act} {fr : Fr} (h : Rep N a fr) : ∀ {xs : List Operand} {vs : List Value}, fr.evs xs = some vs → xs.map a.eval = vs
  | [], _, hx => by rw [← Option.some.inj hx]; rfl
  | x :: r, vs, hx => by
    unfold Fr.evs at hx
    split at hx
    · rename_i v us h1 h2
      injection hx with hx
      rw [← hx, List.map_cons, h.ev h1, h.evs h2]
    · cases hx

theorem Rep.sub {N : Nat} {a : Act} {fr : Fr} (h : Rep N a fr) : ∀ {fr' : Fr}, Fr.sub fr' fr → Rep N a fr'
  | [], _ => ⟨h.size, h.defers, fun t v hv => by cases hv⟩
  | (k, u) :: r, hs => by
    have ih := h.sub hs.2
    refine ⟨h.size, h.defers, fun t v hv => ?_⟩
    rw [Fr.get_cons] at hv
    by_cases e : k = t
    · subst e
      rw [if_pos rfl] at hv
      injection hv with hv
      subst hv
      exact h.get k u hs.1
    · rw [if_neg e] at hv
      exact ih.get t v hv

/-! What is left to be done: code, ends of blocks, the head of a loop. -/
inductive K where
  | code (c : Code)
  | blk (id : Nat)
  | inv (I : Act → World → Prop)

def kpost (P : Program) (fn : Func) (F : Ending → World → Prop) : List K → Exit → Act → World → Prop
  | [] => bodyPost P fn F
  | .code c :: ks => Exit.then (fun a w => c.wp P (kpost P fn F ks) a w) (kpost P fn F ks)
  | .blk id :: ks => Exit.inBlock id (kpost P fn F ks)
  | .inv I :: ks => Exit.then I (kpost P fn F ks)

/-- From here on, with what is known of the frame, the body ends as F says. -/
def RK (P : Program) (fn : Func) (F : Ending → World → Prop) (N : Nat) (ks : List K) (fr : Fr) (w : World) : Prop := ∀ a, Rep N a fr → kpost P fn F ks .normal a w
section
variable {P : Program} {fn : Func} {F : Ending → World → Prop} {N : Nat} {ks : List K} {fr : Fr} {w : World}

theorem RK.sub {fr' : Fr} (hs : Fr.sub fr' fr) (h : RK P fn F N ks fr' w) : RK P fn F N ks fr w := fun a ha => h a (ha.sub hs)

theorem kpost_ret {a : Act} : ∀ {ks : List K}, bodyPost P fn F .ret a w → kpost P fn F ks .ret a w
  | [], h => h
  | .code _ :: ks, h => kpost_ret (ks := ks) h
  | .blk _ :: ks, h => kpost_ret (ks := ks) h
  | .inv _ :: ks, h => kpost_ret (ks := ks) h
theorem kpost_panic {a : Act} {chain : List PanicEntry} : ∀ {ks : List K}, bodyPost P fn F (.panic chain) a w → kpost P fn F ks (.panic chain) a w
  | [], h => h
  | .code _ :: ks, h => kpost_panic (ks := ks) h
  | .blk _ :: ks, h => kpost_panic (ks := ks) h
  | .inv _ :: ks, h => kpost_panic (ks := ks) h

def popTo (id : Nat) : List K → Option (List K)
  | [] => none
  | .blk i :: ks => bif Nat.beq i id then some ks else popTo id ks
  | _ :: ks => popTo id ks

theorem kpost_exit {a : Act} {id : Nat} : ∀ {ks ks' : List K}, popTo id ks = some ks' → kpost P fn F ks' .normal a w → kpost P fn F ks (.exit id) a w
  | [], _, h, _ => by cases h
  | .code _ :: ks, ks', h, hk => kpost_exit (ks := ks) h hk
  | .inv _ :: ks, ks', h, hk => kpost_exit (ks := ks) h hk
  | .blk i :: ks, ks', h, hk => by
    have h' : (bif Nat.beq i id then some ks else popTo id ks) = some ks' := h
    show (if id = i then kpost P fn F ks .normal a w else kpost P fn F ks (.exit id) a w)
    by_cases e : i = id
    · subst e
      rw [if_pos rfl]
      rw [show Nat.beq i i = true from by simp] at h'
      injection h' with h'
      subst h'
      exact hk
    · rw [if_neg (fun h => e h.symm)]
      have hb : Nat.beq i id = false := by
        cases hb : Nat.beq i id with
        | false => rfl
        | true => exact absurd (Nat.eq_of_beq_eq_true hb) e
      rw [hb] at h'
      exact kpost_exit (ks := ks) h' hk

theorem rk_seq {x y : Code} (h : RK P fn F N (.code x :: .code y :: ks) fr w) : RK P fn F N (.code (.seq x y) :: ks) fr w := fun a ha => wp_seq (h a ha)
theorem rk_skip (h : RK P fn F N ks fr w) : RK P fn F N (.code .skip :: ks) fr w := fun a ha => wp_skip (h a ha)
theorem rk_label {l : Nat} (h : RK P fn F N ks fr w) : RK P fn F N (.code (.label l) :: ks) fr w := fun a ha => wp_label (h a ha)
theorem rk_block {id : Nat} {c : Code} (h : RK P fn F N (.code c :: .blk id :: ks) fr w) : RK P fn F N (.code (.block id c) :: ks) fr w := fun a ha => wp_block (h a ha)
theorem rk_blk {id : Nat} (h : RK P fn F N ks fr w) : RK P fn F N (.blk id :: ks) fr w := fun a ha => h a ha
theorem rk_exit {id : Nat} {ks' : List K} (hp : popTo id ks = some ks') (h : RK P fn F N ks' fr w) : RK P fn F N (.code (.exit id) :: ks) fr w := fun a ha => wp_exit (kpost_exit hp (h a ha))
theorem rk_cond {c : Operand} {x y : Code} {b : Bool} (hc : fr.ev c = some (.bool b)) (ht : b = true → RK P fn F N (.code x :: ks) fr w) (hf : b = false → RK P fn F N (.code y :: ks) fr w) :
    RK P fn F N (.code (.cond c x y) :: ks) fr w := fun a ha => wp_cond_split (ha.ev hc) (fun h => ht h a ha) (fun h => hf h a ha)
theorem rk_if {c : Operand} {x y : Code} {p : Prop} {dp : Decidable p} (hc : fr.ev c = some (.bool (@decide p dp))) (ht : p → RK P fn F N (.code x :: ks) fr w) (hf : ¬ p → RK P fn F N (.code y :: ks) fr w) :
    RK P fn F N (.code (.cond c x y) :: ks) fr w := rk_cond hc (fun h => ht (of_decide_eq_true h)) (fun h => hf (of_decide_eq_false h))
theorem rk_true {c : Operand} {x y : Code} (hc : fr.ev c = some (.bool true)) (h : RK P fn F N (.code x :: ks) fr w) : RK P fn F N (.code (.cond c x y) :: ks) fr w := rk_cond hc (fun _ => h) (fun h => by cases h)
theorem rk_false {c : Operand} {x y : Code} (hc : fr.ev c = some (.bool false)) (h : RK P fn F N (.code y :: ks) fr w) : RK P fn F N (.code (.cond c x y) :: ks) fr w := rk_cond hc (fun h => by cases h) (fun _ => h)
/-- A loop: Inv says what holds at its head; its number goes down. -/
theorem rk_loop {c : Code} (Inv : Nat → Fr → World → Prop) {n : Nat} {fr0 : Fr} (hs : Fr.sub fr0 fr) (h0 : Inv n fr0 w)
    (round : ∀ n fr w, Inv n fr w → RK P fn F N (.code c :: .inv (fun a w' => ∃ m fr', m < n ∧ Rep N a fr' ∧ Inv m fr' w') :: ks) fr w) : RK P fn F N (.code (.loop c) :: ks) fr w := by
  intro a ha b k cs
  have key : ∀ n fr a w, Rep N a fr → Inv n fr w →
      ∃ e a' w', kpost P fn F ks e a' w' ∧ Arrives P (lone (b.at a (.code c :: .inLoop c :: k)) cs w) b k cs e a' w' := by
    intro n
    induction n using Nat.strongRecOn with
    | _ n ih =>
      intro fr a w hr hI
      obtain ⟨e, a₁, w₁, hq, harr⟩ := round n fr w hI a hr b (.inLoop c :: k) cs
      cases e with
      | normal =>
        obtain ⟨m, fr', hlt, hr', hI₁⟩ := hq
        obtain ⟨e₂, a₂, w₂, hq₂, harr₂⟩ := ih m hlt fr' a₁ w₁ hr' hI₁
        exact ⟨e₂, a₂, w₂, hq₂, .of_steps (Steps.trans harr (.one step_inLoop)) harr₂⟩
      | exit id => exact ⟨_, a₁, w₁, hq, .pass (x := .inLoop c) rfl (fun _ _ => .inl (by simp)) harr⟩
      | goto l => exact ⟨_, a₁, w₁, hq, .pass (x := .inLoop c) rfl (fun _ _ => .inl (by simp)) harr⟩
      | ret => exact ⟨_, a₁, w₁, hq, .pass (x := .inLoop c) rfl (fun _ _ => .inl (by simp)) harr⟩
      | panic ch => exact ⟨_, a₁, w₁, hq, .pass (x := .inLoop c) rfl (fun _ _ => .inl (by simp)) harr⟩
      | outgrown => exact ⟨_, a₁, w₁, hq, .pass (x := .inLoop c) rfl (fun _ _ => .inl (by simp)) harr⟩
  obtain ⟨e, a', w', hq, harr⟩ := key n fr0 a w (ha.sub hs) h0
  exact ⟨e, a', w', hq, .of_steps (.one step_loop) harr⟩

theorem rk_again {Inv : Nat → Fr → World → Prop} {n m : Nat} {fr0 : Fr} (hs : Fr.sub fr0 fr) (h : Inv m fr0 w) (hlt : m < n) :
    RK P fn F N (.inv (fun a w' => ∃ m fr', m < n ∧ Rep N a fr' ∧ Inv m fr' w') :: ks) fr w := fun _ ha => ⟨m, fr0, hlt, ha.sub hs, h⟩

theorem rk_end (hr : ∀ a, Rep N a fr → ∃ v, (results fn a.tmps).run P w = .ok v w ∧ F (.returned v) w) : RK P fn F N [] fr w :=
  fun a ha => ⟨ha.defers, hr a ha⟩
theorem rk_ret (hr : ∀ a, Rep N a fr → ∃ v, (results fn a.tmps).run P w = .ok v w ∧ F (.returned v) w) : RK P fn F N (.code .ret :: ks) fr w :=
  fun a ha => wp_ret (kpost_ret ⟨ha.defers, hr a ha⟩)
theorem res0 (h : fn.results = #[]) (hF : F (.returned (.tuple #[])) w) : ∀ a, Rep N a fr → ∃ v, (results fn a.tmps).run P w = .ok v w ∧ F (.returned v) w :=
  fun _ _ => ⟨_, results_none h _ P w, hF⟩
theorem res1 {t : Nat} {v : Value} (h : fn.results = #[.tmp t]) (hv : fr.get t = some v) (hF : F (.returned v) w) : ∀ a, Rep N a fr → ∃ v, (results fn a.tmps).run P w = .ok v w ∧ F (.returned v) w :=
  fun a ha => ⟨v, by rw [results_tmp h]; rw [show a.tmps.getD t undef = v from ha.ev (x := .tmp t) hv], hF⟩
theorem res2 {t u : Nat} {v x : Value} (h : fn.results = #[.tmp t, .tmp u]) (hv : fr.get t = some v) (hx : fr.get u = some x) (hF : F (.returned (.tuple #[v, x])) w) :
    ∀ a, Rep N a fr → ∃ v, (results fn a.tmps).run P w = .ok v w ∧ F (.returned v) w :=
  fun a ha => ⟨.tuple #[v, x], by rw [results_tmp2 h]; rw [show a.tmps.getD t undef = v from ha.ev (x := .tmp t) hv, show a.tmps.getD u undef = x from ha.ev (x := .tmp u) hx], hF⟩

/-! The door: a call is its body. -/
def entry : List Value → Nat → Fr
  | [], _ => []
  | v :: r, k => (k, v) :: entry r (k + 1)
theorem entry_get : ∀ (args : List Value) (k t : Nat) (v : Value), (entry args k).get t = some v → k ≤ t ∧ args[t - k]? = some v
  | [], k, t, v, h => by cases h
  | u :: r, k, t, v, h => by
    unfold entry at h
    rw [Fr.get_cons] at h
    by_cases e : k = t
    · subst e
      rw [if_pos rfl] at h
      exact ⟨Nat.le_refl _, by simpa using h⟩
    · rw [if_neg e] at h
      obtain ⟨h1, h2⟩ := entry_get r (k + 1) t v h
      refine ⟨by omega, ?_⟩
      rw [show t - k = (t - (k + 1)) + 1 from by omega]
      simpa using h2
end

theorem calls_rk {P : Program} {f : FuncId} {fn : Func} {c : Code} {args : List Value} {w : World} {F : Ending → World → Prop} {N : Nat} (hf : P.funcs[f]? = some fn) (hb : fn.body = some c) (hN : fn.ntmps = N)
    (hl : Nat.ble args.length N = true) (h : RK P fn F N [.code c] (entry args 0) w) : Calls P f args.toArray w F := by
  subst hN
  have hl' : args.length ≤ fn.ntmps := by simpa using hl
  refine calls_of_wp hf hb (wp_mono (h _ ⟨?_, rfl, ?_⟩) ?_)
  · simp; omega
  · intro t v hv
    obtain ⟨_, h2⟩ := entry_get args 0 t v hv
    simp only [Nat.sub_zero] at h2
    have hlt : t < args.length := by
      rcases Nat.lt_or_ge t args.length with h | h
      · exact h
      · rw [List.getElem?_eq_none h] at h2; cases h2
    rw [Array.getElem?_append_left (by simpa using hlt)]
    simpa using h2
  · intro e a w hq
    cases e <;> exact hq

end Go.Proofs.Ytpjedpmbninfcaa
