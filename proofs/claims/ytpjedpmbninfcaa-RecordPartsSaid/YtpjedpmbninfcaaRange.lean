/-
  A range over a function whose iterator also writes variables of its own between the rounds, and hands on values that lie in memory; the assignments may lay blocks. No function of the program is named here.
-/
import Derived.Test.YtpjedpmbninfcaaRound
namespace Go.Proofs.Ytpjedpmbninfcaa
open Go.RowKit
/-- The iterator's word: Cl: what it changes between the rounds; Yd: what is known of what it hands on; Kp: what a round must keep. -/
def SeqC {α : Type} (F : Fence) (n : Nat) (P : Program) (g : Nat) (lb : Array Value) (encs : α → Array Value) (Kp Cl : World → World → Prop) (Yd : List α → α → World → Prop) (S : List α → Prop) (w : World) : Prop :=
  ∀ (l : Nat) (J : List α → World → Prop) (W : World), Below w.heap.size w W → (∀ s A B, J s A → Cl A B → J s B) →
    (∀ pre x W1, J pre W1 → Yd pre x W1 → YieldAt F (n - 1) P l (encs x) W1 fun e W' => e = .returned (.bool true) ∧ J (pre ++ [x]) W' ∧ Kp W1 W') →
    J [] W → CallsIn F n P g (#[.func (.yield l) #[] #[]] ++ lb) W fun e W' => (∃ v, e = .returned v) ∧ ∃ xs, S xs ∧ J xs W'
theorem keeps_put {w w' : World} {D : Nat} {o : Obj} {l : Nat} (h : KeepsOthers w w') (hD : w.heap[D]? = some o) (ho : o.isCells = false) : w'.heap[D]? = some o := h.same D o hD ho
/-- The statement: every round goes on to the next. -/
theorem wpIn_rangeC {P : Program} {α : Type} {n : Nat} {g : Operand} {ps : Array Tmp} {assign body : Code} {Q : Exit → Act → World → Prop} {a : Act} {w : World} (h1 : 1 ≤ n) {gf : Nat} {lb : Array Value} (hg : a.eval g = .func (.func gf) #[] lb)
    (eg : ∀ args w, (callFunc gf args).run P w = .ok (.enter gf args) w) {encs : α → Array Value} {Kp Cl : World → World → Prop} {Yd : List α → α → World → Prop} {S : List α → Prop} {w0 : World} (hseq : SeqC Fence.wide (n - 1) P gf lb encs Kp Cl Yd S w0) (hb0 : Below w0.heap.size w0 w)
    (hKt : ∀ {A B C : World}, Kp A B → Kp B C → Kp A C) (hKb : ∀ (W : World) (l : Nat) (o : Obj), w.heap.size ≤ l → Kp W (W.putObj l o)) (hCl : ∀ A B, Cl A B → KeepsOthers A B) (hps : ∀ x, (encs x).size = ps.size)
    (I : List α → World → Prop) (hI : OwnFrom w.heap.size I) (hIC : ∀ s A B, I s A → Cl A B → I s B) (hYd : ∀ pre, OwnFrom w.heap.size (Yd pre)) (h0 : I [] w) (Ax : List α → α → Act → World → Prop) (hAx : ∀ pre x a', OwnFrom w.heap.size (fun (_ : Unit) W => Ax pre x a' W))
    (hassign : ∀ (l : Nat) (pre : List α) (x : α) (W : World), w.heap.size ≤ l → I pre W → Yd pre x W → assign.wpIn (Fence.wide.inRound l) (n - 1 - 1) P (Exit.then (fun a' W' => KeepsOthers W W' ∧ Kp W W' ∧ Ax pre x a' W') (fun _ _ _ => False)) { tmps := (ps.zip (encs x)).foldl (fun t (p, v) => t.setIfInBounds p v) a.tmps, defers := [] } W)
    (hbody : ∀ (l : Nat) (pre : List α) (x : α) (a' : Act) (W : World), w.heap.size ≤ l → Ax pre x a' W → body.wpIn (Fence.wide.inRound l) (n - 1 - 1) P (fun e _ W' => e = .normal ∧ KeepsOthers W W' ∧ Kp W W' ∧ I (pre ++ [x]) W') a' W)
    (hdone : ∀ (D : Nat) (xs : List α) (W : World), w.heap.size ≤ D → S xs → I xs W → W.heap[D]? = some (.deferred (some [])) → Q .normal { a with defers := { target := .collected D, args := #[] } :: a.defers } W) :
    (Code.rangeFunc g ps assign body).wpIn Fence.wide n P Q a w := by
  refine wpIn_rangeFunc fun fn hfn => ?_
  obtain ⟨D, hD⟩ : ∃ D, w.heap.size = D := ⟨_, rfl⟩
  obtain ⟨rc, hrc⟩ : ∃ rc : LoopState → Loop, rc = fun st => { state := st, pending := none, fn, tmps := a.tmps, params := ps, assign, body, defers := D } := ⟨_, rfl⟩
  obtain ⟨W1, hW1⟩ : ∃ W1, (w.alloc (.deferred (some []))).alloc (.loop (rc .ready)) = W1 := ⟨_, rfl⟩
  have hsz : W1.heap.size = D + 2 := by rw [← hW1, ← hD]; simp
  have hl1 : W1.heap[D + 1]? = some (.loop (rc .ready)) := by
    have := World.alloc_heap_new (w.alloc (.deferred (some []))) (.loop (rc .ready))
    rw [World.size_alloc, hD, hW1] at this; exact this
  have hd1 : W1.heap[D]? = some (.deferred (some [])) := by
    rw [← hW1, ← hD]; exact (Below.heap_alloc _ _ _ (by simp)).trans (World.alloc_heap_new w _)
  have hI1 : I [] W1 := by rw [← hW1]; exact hI.alloc _ (hI.alloc _ h0)
  have hb1 : Below w0.heap.size w0 W1 := by
    rw [← hW1]; exact hb0.trans ((((Below.refl _ w).alloc (Nat.le_refl _) _).alloc (by simp) _).mono hb0.size)
  subst hD
  refine ⟨w.heap.size + 1, [{ target := .collected w.heap.size, args := #[] }], W1, { target := .fn (.func gf) lb, args := #[.func (.yield (w.heap.size + 1)) #[] #[]] }, W1, gf, #[.func (.yield (w.heap.size + 1)) #[] #[]] ++ lb, W1, ?_, ?_, ?_, ?_, fun _ => h1, ?_⟩
  · rw [← hW1, hrc]; exact run_enterLoop_outer _ _ _ _ _
  · simp only [resolve, hg]
    simp [go_sem]
  · intro f' hf'; simp [Target.leads] at hf'; subst hf'; exact trivial
  · simp [invoke, go_sem, eg]
  · refine (hseq (w.heap.size + 1) (fun pre W => I pre W ∧ W.heap[w.heap.size + 1]? = some (.loop (rc .ready)) ∧ W.heap[w.heap.size]? = some (.deferred (some []))) W1 hb1
      (fun s A B hs hc => ⟨hIC s A B hs.1 hc, (hCl A B hc).same _ _ hs.2.1 rfl, (hCl A B hc).same _ _ hs.2.2 rfl⟩) ?_ ⟨hI1, hl1, hd1⟩).mono ?_
    · rintro pre x W ⟨hi, hl, hd⟩ hy
      have hlt : w.heap.size + 1 < W.heap.size := (Array.getElem?_eq_some_iff.1 hl).1
      have hyl := run_yield (P := P) (args := encs x) hl (by rw [hrc]; exact hps x)
      rw [hrc] at hyl
      refine ⟨fn, _, assign, body, hyl, roundIn_of_wpIn hfn (wpIn_mono (hassign _ pre x W (by omega) hi hy) ?_)⟩
      rintro e a1 Wa he
      cases e with
      | normal =>
        obtain ⟨k1, k2, k3⟩ := he
        have hla := k1.same _ _ hl rfl
        have hda := k1.same _ _ hd rfl
        have hlta : w.heap.size + 1 < Wa.heap.size := (Array.getElem?_eq_some_iff.1 hla).1
        refine ⟨_, run_beginRound hla (by rw [hrc]), ?_⟩
        have hlb : (Wa.putObj (w.heap.size + 1) (.loop { rc .ready with state := .busy })).heap[w.heap.size + 1]? = some (.loop { rc .ready with state := .busy }) := World.putObj_heap_same hlta
        have hdb : (Wa.putObj (w.heap.size + 1) (.loop { rc .ready with state := .busy })).heap[w.heap.size]? = some (.deferred (some [])) := (World.putObj_heap_other (by omega)).trans hda
        refine wpIn_mono (hbody _ pre x a1 _ (by omega) ((hAx pre x a1).putObj (s := ()) _ k3 (by omega) hla rfl)) ?_
        rintro e a3 W3 ⟨rfl, j1, j2, j3⟩
        have hlc := j1.same _ _ hlb rfl
        have hdc := j1.same _ _ hdb rfl
        have hend := run_endRound (P := P) none hlc
        rw [hrc] at hend
        have e1 : ({ rc .ready with state := .busy } : Loop) = { (rc .ready) with state := .busy } := rfl
        refine ⟨_, _, hend, rfl, ⟨hI.putObj _ j3 (by omega) hlc rfl, ?_, (World.putObj_heap_other (by omega)).trans hdc⟩, hKt k2 (hKt (hKb _ _ _ (by omega)) (hKt j2 (hKb _ _ _ (by omega))))⟩
        rw [hrc]
        exact World.putObj_heap_same (Array.getElem?_eq_some_iff.1 hlc).1
      | ret => exact (he : False).elim
      | panic c => exact (he : False).elim
      | outgrown => exact (he : False).elim
      | exit id => exact (he : False).elim
      | goto t => exact (he : False).elim
    · rintro e W2 ⟨⟨v, rfl⟩, xs, hS, hi, hl, hd⟩
      refine ⟨none, W2.putObj (w.heap.size + 1) (.loop { rc .ready with state := .exhausted }), ?_, hdone _ xs _ (Nat.le_refl _) hS (hI.putObj _ hi (by omega) hl rfl) ((World.putObj_heap_other (by omega)).trans hd)⟩
      have := run_endLoop (P := P) hl (by rw [hrc]; simp)
      rw [hrc] at this
      rw [this, hrc]
section
variable {P : Program} {fn : Func} {F : Ending → World → Prop} {N n : Nat} {ks : List K} {fr : Fr} {w : World} {ops : Array Oper} {l : List Oper} {ty : TypeId} {pos : String} {aft : Array Edge} {d : Nat} {x : Operand} {gd : Option (Nat × Bool)}
theorem wli_yieldL {lp : Nat} {ts : Array TypeId} {xs : List Operand} {vs : List Value} {R : Ending → World → Prop} (hx : fr.ev x = some (.func (.yield lp) #[] #[])) (hy : fr.evs xs = some vs) (hY : YieldAt Fence.wide (n - 1) P lp vs.toArray w R)
    (hk : ∀ e w', R e w' → ∃ b, e = .returned (.bool b) ∧ WLI P fn F N n ks ops l ((d, .bool b) :: fr) w') (hg : onG ops fr gd = true := by rfl) (hd : Nat.blt d N = true := by rfl) :
    WLI P fn F N n ks ops (⟨some d, .call { callee := .value x, args := xs.toArray, argTypes := ts }, ty, pos, aft, gd⟩ :: l) fr w := fun a ha => by
  obtain ⟨f, tmps, assign, body, h1, h2⟩ := hY
  unfold wpListIn
  rw [if_pos (wanted_on (o := ⟨some d, .call { callee := .value x, args := xs.toArray, argTypes := ts }, ty, pos, aft, gd⟩) ha hg)]
  refine ⟨fun _ _ => trivial, ?_⟩
  have hsem : ∀ o : Oper, o.semAt Fence.wide.round a.eval = execOp a.eval o := fun _ => rfl
  have hargs : Array.map a.eval xs.toArray = vs.toArray := by rw [List.map_toArray, ha.evs hy]
  have hrun : (execOp a.eval ⟨some d, .call { callee := .value x, args := xs.toArray, argTypes := ts }, ty, pos, aft, gd⟩).run P w = .ok (.round lp f tmps assign body) w := by
    simp [execOp, resolve, invoke, Deferred.ofValue, ha.ev hx, hargs, h1]
  rw [hsem, hrun]
  refine ⟨fun e => (by cases e), h2.mono ?_⟩
  intro e w' he
  obtain ⟨b, rfl, hw⟩ := hk e w' he
  exact hw _ (ha.put hd _)
end
/-! Code before, in and behind such a statement. -/
theorem kp_normal {P : Program} {fn : Func} {I : Act → World → Prop} : ∀ {cs : List Code} {e : Exit} {a : Act} {w : World}, kpost P fn noEnd (cs.map K.code ++ [.inv I]) e a w → e = .normal
  | [], _, _, _, h => (kpost_inv h).1
  | c :: cs, e, a, w, h => by
    cases e with
    | normal => rfl
    | ret => exact kp_normal (cs := cs) (show kpost P fn noEnd (cs.map K.code ++ [.inv I]) .ret a w from h)
    | panic ch => exact kp_normal (cs := cs) (show kpost P fn noEnd (cs.map K.code ++ [.inv I]) (.panic ch) a w from h)
    | outgrown => exact kp_normal (cs := cs) (show kpost P fn noEnd (cs.map K.code ++ [.inv I]) .outgrown a w from h)
    | exit id => exact kp_normal (cs := cs) (show kpost P fn noEnd (cs.map K.code ++ [.inv I]) (.exit id) a w from h)
    | goto t => exact kp_normal (cs := cs) (show kpost P fn noEnd (cs.map K.code ++ [.inv I]) (.goto t) a w from h)
section
variable {P : Program} {fn : Func} {N n : Nat} {fr : Fr} {w : World} {I I1 : Act → World → Prop}
theorem seq5_of_rk {x y z v b u : Code} {Q : Exit → Act → World → Prop} {a : Act} (h : RK P fn noEnd N [.code x, .code y, .code z, .code v, .inv I] fr w) (ha : Rep N a fr) (hy : ∀ a w, I a w → b.wpIn Fence.wide n P (Exit.then (fun a w => u.wpIn Fence.wide n P Q a w) Q) a w) :
    (Code.seq x (.seq y (.seq z (.seq (.seq v b) u)))).wpIn Fence.wide n P Q a w := by
  refine wpIn_seq (wpIn_mono (wpIn_wide.2 (show x.wp P (kpost P fn noEnd [.code y, .code z, .code v, .inv I]) a w from h a ha)) (fun e a w he => ?_))
  obtain rfl := kp_normal (cs := [y, z, v]) he
  refine wpIn_seq (wpIn_mono (wpIn_wide.2 (show y.wp P (kpost P fn noEnd [.code z, .code v, .inv I]) a w from he)) (fun e a w he => ?_))
  obtain rfl := kp_normal (cs := [z, v]) he
  refine wpIn_seq (wpIn_mono (wpIn_wide.2 (show z.wp P (kpost P fn noEnd [.code v, .inv I]) a w from he)) (fun e a w he => ?_))
  obtain rfl := kp_normal (cs := [v]) he
  refine wpIn_seq (wpIn_seq (wpIn_mono (wpIn_wide.2 (show v.wp P (kpost P fn noEnd [.inv I]) a w from he)) (fun e a w he => ?_)))
  obtain ⟨rfl, hI⟩ := kpost_inv he
  exact hy a w hI
/-- In a round, one after the other. -/
theorem in_seq {r m : Nat} {x y : Code} (h : RIn P fn N I1 r m x fr w) (hy : ∀ a w, I1 a w → y.wpIn (Fence.wide.inRound r) m P (kpost P fn noEnd [.inv I]) a w) : RIn P fn N I r m (.seq x y) fr w := fun a ha =>
  wpIn_seq (wpIn_mono (h a ha) (fun e a w he => by
    obtain ⟨rfl, hI⟩ := kpost_inv he
    exact hy a w hI))
/-- The activation with one more call that was put off ahead of all others. -/
def dd (d : Deferred) (a : Act) : Act := { a with defers := a.defers ++ [d] }
theorem dd_eval (d : Deferred) (a : Act) : (dd d a).eval = a.eval := by funext x; cases x <;> rfl
theorem dd_put (d : Deferred) (a : Act) (x : Option Nat) (v : Value) : (dd d a).put x v = dd d (a.put x v) := by cases x <;> rfl
theorem dd_of {d : Deferred} {a : Act} (h : a.defers = []) : { a with defers := d :: a.defers } = dd d a := by unfold dd; rw [h]; rfl
theorem operD_of {m : Nat} {d : Deferred} {o : Oper} {a : Act} {w : World} {K K' : Act → World → Prop} {Q Q' : Exit → Act → World → Prop} (hK : ∀ a w, K a w → K' (dd d a) w) (hQ : ∀ c a w, ¬ Q (.panic c) a w) (hO : ¬ LetsOut Q) (h : o.wp P a w K Q) : o.wpIn Fence.wide m P (dd d a) w K' Q' := by
  refine ⟨fun _ _ => trivial, ?_⟩
  show o.uponIn Fence.wide m P (dd d a) K' Q' ((execOp (dd d a).eval o).run P w)
  rw [dd_eval]
  unfold Oper.wp at h
  generalize (execOp a.eval o).run P w = res at h ⊢
  match res, h with
  | .ok (.value v) w', h => show K' ((dd d a).put o.dst v) w'; rw [dd_put]; exact hK _ _ h
  | .ok .skip w', h => show K' ((dd d a).put o.dst undef) w'; rw [dd_put]; exact hK _ _ h
  | .ok (.defer q) w', h =>
    have h' : K ({ a with defers := q :: a.defers }.put o.dst undef) w' := h
    show K' ({ dd d a with defers := q :: (dd d a).defers }.put o.dst undef) w'
    have e : ({ dd d a with defers := q :: (dd d a).defers } : Act) = dd d { a with defers := q :: a.defers } := rfl
    rw [e, dd_put]; exact hK _ _ h'
  | .ok (.enter f args) w', h =>
    refine ⟨fun e => (by cases e), (callsIn_wide.2 (Calls.mono h ?_))⟩
    intro e w'' he
    cases e with
    | returned v => show K' ((dd d a).put o.dst v) w''; rw [dd_put]; exact hK _ _ he
    | panicked c => exact (hQ _ _ _ he).elim
    | outgrown => exact (hO he).elim
  | .ok (.row row args) w', h =>
    refine ⟨fun e => (by cases e), ?_⟩
    have h' : Rows P row args w' fun v w'' => K (a.put o.dst v) w'' := h
    exact fun c cs hr => by
      obtain ⟨v, w'', hR, hs⟩ := h' c cs
      exact ⟨v, w'', (by show K' ((dd d a).put o.dst v) w''; rw [dd_put]; exact hK _ _ hR), (stepsIn_wide (P := P)).2 hs⟩
  | .halt (.panic v) w', h => exact (hQ _ _ _ h).elim
theorem wpAnyD_of {m : Nat} {d : Deferred} {ops : Array Oper} {Q Q' : Exit → Act → World → Prop} (hN : ∀ a w, Q .normal a w → Q' .normal (dd d a) w) (hQ : ∀ c a w, ¬ Q (.panic c) a w) (hout : ¬ LetsOut Q) : ∀ (fuel : Nat) (listed : Array Bool) (a : Act) (w : World), wpAny P .any ops Q fuel listed a w → wpAnyIn Fence.wide m P .any ops Q' fuel listed (dd d a) w
  | 0, _, _, _, h => ⟨h.1, hN _ _ h.2⟩
  | fuel + 1, listed, a, w, h => ⟨fun hr => hN _ _ (h.1 hr), fun i hi => by
    have h2 := h.2 i hi
    unfold wpOp at h2
    unfold wpOpIn
    cases ho : ops[i]? with
    | none =>
      rw [ho] at h2
      exact wpAnyD_of hN hQ hout fuel _ a w h2
    | some o =>
      rw [ho] at h2
      dsimp only at h2 ⊢
      by_cases hw : Region.wanted o (yielded ops a.tmps) = true
      · rw [if_pos hw] at h2
        rw [if_pos (show Region.wanted o (yielded ops (dd d a).tmps) = true from hw)]
        rcases h2 with h2 | h2
        · exact operD_of (fun a w h => wpAnyD_of hN hQ hout fuel _ a w h) hQ hout h2
        · exact absurd h2.2 hout
      · rw [if_neg hw] at h2
        rw [if_neg (show ¬ Region.wanted o (yielded ops (dd d a).tmps) = true from hw), dd_put]
        exact ⟨fun _ _ => trivial, wpAnyD_of hN hQ hout fuel _ _ _ h2⟩⟩
theorem wpListD_of {m : Nat} {d : Deferred} {ops : Array Oper} {Q Q' : Exit → Act → World → Prop} (hN : ∀ a w, Q .normal a w → Q' .normal (dd d a) w) (hQ : ∀ c a w, ¬ Q (.panic c) a w) (hout : ¬ LetsOut Q) : ∀ (l : List Oper) (a : Act) (w : World), wpList P ops Q l a w → wpListIn Fence.wide m P ops Q' l (dd d a) w
  | [], _, _, h => hN _ _ h
  | o :: l, a, w, h => by
    unfold wpList at h
    unfold wpListIn
    by_cases hw : Region.wanted o (yielded ops a.tmps) = true
    · rw [if_pos hw] at h
      rw [if_pos (show Region.wanted o (yielded ops (dd d a).tmps) = true from hw)]
      rcases h with h | h
      · exact operD_of (fun a w h => wpListD_of hN hQ hout l a w h) hQ hout h
      · exact absurd h.2 hout
    · rw [if_neg hw] at h
      rw [if_neg (show ¬ Region.wanted o (yielded ops (dd d a).tmps) = true from hw), dd_put]
      exact ⟨fun _ _ => trivial, wpListD_of hN hQ hout l _ _ h⟩
/-- Code behind such a statement, that ends where I holds. -/
def RInD (P : Program) (fn : Func) (N : Nat) (I : Act → World → Prop) (d : Deferred) (m : Nat) (c : Code) (fr : Fr) (w : World) : Prop := ∀ a, Rep N a fr → c.wpIn Fence.wide m P (fun e a' w' => ∃ a2, e = .normal ∧ a' = dd d a2 ∧ I a2 w') (dd d a) w
theorem noPanic (c : List PanicEntry) (a : Act) (w : World) : ¬ kpost P fn noEnd [.inv I] (.panic c) a w := fun h => by have := (kpost_inv h).1; cases this
theorem ind_at {m id : Nat} {d : Deferred} {l l' : List Oper} (row : Rw) (D A : List Nat) (L C : Nat) (ts : List (Tag × Nat)) (hm : P.follows .mixedOrders = true) (hD : l.map (dmask .any) = D) (hA : ancs .any l [] = A)
    (hc : (Region.noSelect l.toArray && (Nat.beq (l'.length + extra ts) l.length && chk l.toArray l D A L C ts 0)) = true) (hl : l'.map some = opsOf l.toArray ts)
    (h : WL P fn noEnd N [.inv I] l.toArray (some (row, ts)) l' fr w.drew) : RInD P fn N I d m (.region id l.toArray true) fr w := fun a ha => by
  simp only [Bool.and_eq_true] at hc
  obtain ⟨h1, h2, h3⟩ := hc
  refine wpIn_region_any hm (wpAnyD_of (Q := kpost P fn noEnd [.inv I]) (fun a w h => ⟨a, rfl, rfl, (kpost_inv h).2⟩) noPanic noOut _ _ _ _ (wpAny_of_mix (loud := Nat.testBit L) (calm := Nat.testBit C) (row := row) _ _ _ _ ?_))
  have hno : ∀ j, (Array.replicate l.length false).getD j false = false := fun j => by
    rcases Nat.lt_or_ge j l.length with h' | h'
    · simp [h']
    · simp [h']
  have := left_elim (h a ha) (listed := Array.replicate l.length false) (m := 0) ⟨by simp, fun j => by rw [hno j]; simp, hD.symm, hA.symm, h1, fun j oj hj hl => by rw [hno j] at hl; cases hl⟩ hl h3
  rw [Nat.eq_of_beq_eq_true h2] at this
  simpa using this
theorem ind_draw {m id : Nat} {d : Deferred} {l : List Oper} (row : Option Nat) (D A : List Nat) (L C : Nat) (ts : List (Tag × Nat)) (hm : P.follows .mixedOrders = true) (hD : l.map (dmask .any) = D) (hA : ancs .any l [] = A)
    (hc : (Region.noSelect l.toArray && (Nat.beq (l.length + extra ts) l.length && chk l.toArray l D A L C ts 0)) = true) (hl : l.map some = opsOf l.toArray ts) (h : WL P fn noEnd N [.inv I] l.toArray (some ((row, none), ts)) l fr w.drew) :
    RInD P fn N I d m (.region id l.toArray true) fr w := ind_at (row, none) D A L C ts hm hD hA hc hl h
theorem ind_drawo {m id : Nat} {d : Deferred} {l : List Oper} (row : Option Nat) (D A : List Nat) (L C : Nat) (ord : List Nat) (ts : List (Tag × Nat)) (hm : P.follows .mixedOrders = true) (hD : l.map (dmask .any) = D) (hA : ancs .any l [] = A)
    (hc : (Region.noSelect l.toArray && (Nat.beq ((inOrder l ord).length + extra ts) l.length && chk l.toArray l D A L C ts 0)) = true) (hl : (inOrder l ord).map some = opsOf l.toArray ts) (h : WL P fn noEnd N [.inv I] l.toArray (some ((row, none), ts)) (inOrder l ord) fr w.drew) :
    RInD P fn N I d m (.region id l.toArray true) fr w := ind_at (row, none) D A L C ts hm hD hA hc hl h
theorem ind_plain {m id : Nat} {d : Deferred} {l : List Oper} (h : WL P fn noEnd N [.inv I] l.toArray none l fr w) : RInD P fn N I d m (.region id l.toArray false) fr w := fun a ha =>
  wpIn_region_lit (wpListD_of (Q := kpost P fn noEnd [.inv I]) (fun a w h => ⟨a, rfl, rfl, (kpost_inv h).2⟩) noPanic noOut l a w (h a ha))
end
end Go.Proofs.Ytpjedpmbninfcaa
