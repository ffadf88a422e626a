/-
  A range over a function whose iterator also writes variables of its own between the rounds, and hands on values that lie in memory; the assignments may lay blocks. No function of the program is named here.
-/
import Derived.Test.YtnnhenafhalobaaGreatMg5
import Derived.Shelf.Abstract
namespace Go.Proofs.YtnnhenafhalobaaGreat
set_option maxRecDepth 100000
open Go.RowKit
/-- The iterator's word: Cl: what it changes between the rounds; Yd: what is known of what it hands on; Kp: what a round must keep. -/
def SeqC {α : Type} (F : Fence) (n : Nat) (P : Program) (g : Nat) (lb : Array Value) (encs : α → Array Value) (Kp Cl : World → World → Prop) (Yd : List α → α → World → Prop) (S : List α → Prop) (w : World) : Prop :=
  ∀ (l : Nat) (J : List α → World → Prop) (W : World), Below w.heap.size w W → (∀ s A B, J s A → Cl A B → J s B) →
    (∀ pre x W1, J pre W1 → Yd pre x W1 → YieldAt F (n - 1) P l (encs x) W1 fun e W' => e = .returned (.bool true) ∧ J (pre ++ [x]) W' ∧ Kp W1 W') →
    J [] W → CallsIn F n P g (#[.func (.yield l) #[] #[]] ++ lb) W fun e W' => (∃ v, e = .returned v) ∧ ∃ xs, S xs ∧ J xs W'
/-- The statement: every round goes on to the next. -/
theorem wpIn_rangeC {P : Program} {α : Type} {n : Nat} {g : Operand} {ps : Array Tmp} {assign body : Code} {Q : Exit → Act → World → Prop} {a : Act} {w : World} (h1 : 1 ≤ n) {gf : Nat} {lb : Array Value} (hg : a.eval g = .func (.func gf) #[] lb)
    (eg : ∀ args w, (callFunc gf args).run P w = .ok (.enter gf args) w) {encs : α → Array Value} {Kp Cl : World → World → Prop} {Yd : List α → α → World → Prop} {S : List α → Prop} {w0 : World} (hseq : SeqC Fence.wide (n - 1) P gf lb encs Kp Cl Yd S w0) (hb0 : Below w0.heap.size w0 w)
    (hKt : ∀ {A B C : World}, Kp A B → Kp B C → Kp A C) (hKb : ∀ (W : World) (l : Nat) (o : Obj), w.heap.size ≤ l → Kp W (W.putObj l o)) (hCl : ∀ A B, Cl A B → KeepsOthers A B) (hps : ∀ x, (encs x).size = ps.size)
    (I : List α → World → Prop) (hI : OwnFrom w.heap.size I) (hIC : ∀ s A B, I s A → Cl A B → I s B) (hYd : ∀ pre, OwnFrom w.heap.size (Yd pre)) (h0 : I [] w) (Ax : List α → α → Act → World → Prop) (hAx : ∀ pre x a', OwnFrom w.heap.size (fun (_ : Unit) W => Ax pre x a' W))
    (hassign : ∀ (l : Nat) (pre : List α) (x : α) (W : World), w.heap.size ≤ l → I pre W → Yd pre x W → assign.wpIn (Fence.wide.inRound l) (n - 1 - 1) P (Exit.then (fun a' W' => KeepsOthers W W' ∧ Kp W W' ∧ Ax pre x a' W') (fun _ _ _ => False)) { tmps := (ps.zip (encs x)).foldl (fun t (p, v) => t.setIfInBounds p v) a.tmps, defers := [] } W)
    (hbody : ∀ (l : Nat) (pre : List α) (x : α) (a' : Act) (W : World), w.heap.size ≤ l → Ax pre x a' W → body.wpIn (Fence.wide.inRound l) (n - 1 - 1) P (fun e _ W' => e = .normal ∧ KeepsOthers W W' ∧ Kp W W' ∧ I (pre ++ [x]) W') a' W)
    (hdone : ∀ (D : Nat) (xs : List α) (W : World), w.heap.size ≤ D → S xs → I xs W → W.heap[D]? = some (.deferred (some [])) → Q .normal { a with defers := { target := .collected D, args := #[] } :: a.defers } W) :
    (Code.rangeFunc g ps assign body).wpIn Fence.wide n P Q a w := by
  refine wpIn_rangeFunc fun fn hfn => ?_
  obtain ⟨D, hD⟩ : ∃ D, w.heap.size = D := ⟨_, rfl⟩
  obtain ⟨rc, hrc⟩ : ∃ rc : LoopState → Loop, rc = fun st => { state := st, pending := none, fn, tmps := a.tmps, params := ps, assign, body, defers := D } := ⟨_, rfl⟩
  obtain ⟨W1, hW1⟩ : ∃ W1, (w.alloc (.deferred (some []))).alloc (.loop (rc .ready)) = W1 := ⟨_, rfl⟩
  have hsz : W1.heap.size = D + 2 := by rw [← hW1, ← hD]; simp
  have hl1 : W1.heap[D + 1]? = some (.loop (rc .ready)) := by
    have := World.alloc_heap_new (w.alloc (.deferred (some []))) (.loop (rc .ready))
    rw [World.size_alloc, hD, hW1] at this; exact this
  have hd1 : W1.heap[D]? = some (.deferred (some [])) := by
    rw [← hW1, ← hD]; exact (Below.heap_alloc _ _ _ (by simp)).trans (World.alloc_heap_new w _)
  have hI1 : I [] W1 := by rw [← hW1]; exact hI.alloc _ (hI.alloc _ h0)
  have hb1 : Below w0.heap.size w0 W1 := by
    rw [← hW1]; exact hb0.trans ((((Below.refl _ w).alloc (Nat.le_refl _) _).alloc (by simp) _).mono hb0.size)
  subst hD
  refine ⟨w.heap.size + 1, [{ target := .collected w.heap.size, args := #[] }], W1, { target := .fn (.func gf) lb, args := #[.func (.yield (w.heap.size + 1)) #[] #[]] }, W1, gf, #[.func (.yield (w.heap.size + 1)) #[] #[]] ++ lb, W1, ?_, ?_, ?_, ?_, fun _ => h1, ?_⟩
  · rw [← hW1, hrc]; exact run_enterLoop_outer _ _ _ _ _
  · simp only [resolve, hg]
    simp [go_sem]
  · intro f' hf'; simp [Target.leads] at hf'; subst hf'; exact trivial
  · simp [invoke, go_sem, eg]
  · refine (hseq (w.heap.size + 1) (fun pre W => I pre W ∧ W.heap[w.heap.size + 1]? = some (.loop (rc .ready)) ∧ W.heap[w.heap.size]? = some (.deferred (some []))) W1 hb1
      (fun s A B hs hc => ⟨hIC s A B hs.1 hc, (hCl A B hc).same _ _ hs.2.1 rfl, (hCl A B hc).same _ _ hs.2.2 rfl⟩) ?_ ⟨hI1, hl1, hd1⟩).mono ?_
    · rintro pre x W ⟨hi, hl, hd⟩ hy
      have hlt : w.heap.size + 1 < W.heap.size := (Array.getElem?_eq_some_iff.1 hl).1
      have hyl := run_yield (P := P) (args := encs x) hl (by rw [hrc]; exact hps x)
      rw [hrc] at hyl
      refine ⟨fn, _, assign, body, hyl, roundIn_of_wpIn hfn (wpIn_mono (hassign _ pre x W (by omega) hi hy) ?_)⟩
      rintro e a1 Wa he
      cases e with
      | normal =>
        obtain ⟨k1, k2, k3⟩ := he
        have hla := k1.same _ _ hl rfl
        have hda := k1.same _ _ hd rfl
        have hlta : w.heap.size + 1 < Wa.heap.size := (Array.getElem?_eq_some_iff.1 hla).1
        refine ⟨_, run_beginRound hla (by rw [hrc]), ?_⟩
        have hlb : (Wa.putObj (w.heap.size + 1) (.loop { rc .ready with state := .busy })).heap[w.heap.size + 1]? = some (.loop { rc .ready with state := .busy }) := World.putObj_heap_same hlta
        have hdb : (Wa.putObj (w.heap.size + 1) (.loop { rc .ready with state := .busy })).heap[w.heap.size]? = some (.deferred (some [])) := (World.putObj_heap_other (by omega)).trans hda
        refine wpIn_mono (hbody _ pre x a1 _ (by omega) ((hAx pre x a1).putObj (s := ()) _ k3 (by omega) hla rfl)) ?_
        rintro e a3 W3 ⟨rfl, j1, j2, j3⟩
        have hlc := j1.same _ _ hlb rfl
        have hdc := j1.same _ _ hdb rfl
        have hend := run_endRound (P := P) none hlc
        rw [hrc] at hend
        have e1 : ({ rc .ready with state := .busy } : Loop) = { (rc .ready) with state := .busy } := rfl
        refine ⟨_, _, hend, rfl, ⟨hI.putObj _ j3 (by omega) hlc rfl, ?_, (World.putObj_heap_other (by omega)).trans hdc⟩, hKt k2 (hKt (hKb _ _ _ (by omega)) (hKt j2 (hKb _ _ _ (by omega))))⟩
        rw [hrc]
        exact World.putObj_heap_same (Array.getElem?_eq_some_iff.1 hlc).1
      | ret => exact (he : False).elim
      | panic c => exact (he : False).elim
      | outgrown => exact (he : False).elim
      | exit id => exact (he : False).elim
      | goto t => exact (he : False).elim
    · rintro e W2 ⟨⟨v, rfl⟩, xs, hS, hi, hl, hd⟩
      refine ⟨none, W2.putObj (w.heap.size + 1) (.loop { rc .ready with state := .exhausted }), ?_, hdone _ xs _ (Nat.le_refl _) hS (hI.putObj _ hi (by omega) hl rfl) ((World.putObj_heap_other (by omega)).trans hd)⟩
      have := run_endLoop (P := P) hl (by rw [hrc]; simp)
      rw [hrc] at this
      rw [this, hrc]
section
variable {P : Program} {fn : Func} {F : Ending → World → Prop} {N n : Nat} {ks : List K} {fr : Fr} {w : World} {ops : Array Oper} {l : List Oper} {ty : TypeId} {pos : String} {aft : Array Edge} {d : Nat} {x : Operand} {gd : Option (Nat × Bool)}
theorem wli_yieldL {lp : Nat} {ts : Array TypeId} {xs : List Operand} {vs : List Value} {R : Ending → World → Prop} (hx : fr.ev x = some (.func (.yield lp) #[] #[])) (hy : fr.evs xs = some vs) (hY : YieldAt Fence.wide (n - 1) P lp vs.toArray w R)
    (hk : ∀ e w', R e w' → ∃ b, e = .returned (.bool b) ∧ WLI P fn F N n ks ops l ((d, .bool b) :: fr) w') (hg : onG ops fr gd = true := by rfl) (hd : Nat.blt d N = true := by rfl) :
    WLI P fn F N n ks ops (⟨some d, .call { callee := .value x, args := xs.toArray, argTypes := ts }, ty, pos, aft, gd⟩ :: l) fr w := fun a ha => by
  obtain ⟨f, tmps, assign, body, h1, h2⟩ := hY
  unfold wpListIn
  rw [if_pos (wanted_on (o := ⟨some d, .call { callee := .value x, args := xs.toArray, argTypes := ts }, ty, pos, aft, gd⟩) ha hg)]
  refine ⟨fun _ _ => trivial, ?_⟩
  have hsem : ∀ o : Oper, o.semAt Fence.wide.round a.eval = execOp a.eval o := fun _ => rfl
  have hargs : Array.map a.eval xs.toArray = vs.toArray := by rw [List.map_toArray, ha.evs hy]
  have hrun : (execOp a.eval ⟨some d, .call { callee := .value x, args := xs.toArray, argTypes := ts }, ty, pos, aft, gd⟩).run P w = .ok (.round lp f tmps assign body) w := by
    simp [execOp, resolve, invoke, Deferred.ofValue, ha.ev hx, hargs, h1]
  rw [hsem, hrun]
  refine ⟨fun e => (by cases e), h2.mono ?_⟩
  intro e w' he
  obtain ⟨b, rfl, hw⟩ := hk e w' he
  exact hw _ (ha.put hd _)
end
/-! Code before, in and behind such a statement. -/
theorem kp_normal {P : Program} {fn : Func} {I : Act → World → Prop} : ∀ {cs : List Code} {e : Exit} {a : Act} {w : World}, kpost P fn noEnd (cs.map K.code ++ [.inv I]) e a w → e = .normal
  | [], _, _, _, h => (kpost_inv h).1
  | c :: cs, e, a, w, h => by
    cases e with
    | normal => rfl
    | ret => exact kp_normal (cs := cs) (show kpost P fn noEnd (cs.map K.code ++ [.inv I]) .ret a w from h)
    | panic ch => exact kp_normal (cs := cs) (show kpost P fn noEnd (cs.map K.code ++ [.inv I]) (.panic ch) a w from h)
    | outgrown => exact kp_normal (cs := cs) (show kpost P fn noEnd (cs.map K.code ++ [.inv I]) .outgrown a w from h)
    | exit id => exact kp_normal (cs := cs) (show kpost P fn noEnd (cs.map K.code ++ [.inv I]) (.exit id) a w from h)
    | goto t => exact kp_normal (cs := cs) (show kpost P fn noEnd (cs.map K.code ++ [.inv I]) (.goto t) a w from h)
section
variable {P : Program} {fn : Func} {N n : Nat} {fr : Fr} {w : World} {I I1 : Act → World → Prop}
theorem seq5_of_rk {x y z v b u : Code} {Q : Exit → Act → World → Prop} {a : Act} (h : RK P fn noEnd N [.code x, .code y, .code z, .code v, .inv I] fr w) (ha : Rep N a fr) (hy : ∀ a w, I a w → b.wpIn Fence.wide n P (Exit.then (fun a w => u.wpIn Fence.wide n P Q a w) Q) a w) :
    (Code.seq x (.seq y (.seq z (.seq (.seq v b) u)))).wpIn Fence.wide n P Q a w := by
  refine wpIn_seq (wpIn_mono (wpIn_wide.2 (show x.wp P (kpost P fn noEnd [.code y, .code z, .code v, .inv I]) a w from h a ha)) (fun e a w he => ?_))
  obtain rfl := kp_normal (cs := [y, z, v]) he
  refine wpIn_seq (wpIn_mono (wpIn_wide.2 (show y.wp P (kpost P fn noEnd [.code z, .code v, .inv I]) a w from he)) (fun e a w he => ?_))
  obtain rfl := kp_normal (cs := [z, v]) he
  refine wpIn_seq (wpIn_mono (wpIn_wide.2 (show z.wp P (kpost P fn noEnd [.code v, .inv I]) a w from he)) (fun e a w he => ?_))
  obtain rfl := kp_normal (cs := [v]) he
  refine wpIn_seq (wpIn_seq (wpIn_mono (wpIn_wide.2 (show v.wp P (kpost P fn noEnd [.inv I]) a w from he)) (fun e a w he => ?_)))
  obtain ⟨rfl, hI⟩ := kpost_inv he
  exact hy a w hI
/-- In a round, one after the other. -/
theorem in_seq {r m : Nat} {x y : Code} (h : RIn P fn N I1 r m x fr w) (hy : ∀ a w, I1 a w → y.wpIn (Fence.wide.inRound r) m P (kpost P fn noEnd [.inv I]) a w) : RIn P fn N I r m (.seq x y) fr w := fun a ha =>
  wpIn_seq (wpIn_mono (h a ha) (fun e a w he => by
    obtain ⟨rfl, hI⟩ := kpost_inv he
    exact hy a w hI))
/-- The activation with one more call that was put off ahead of all others. -/
def dd (d : Deferred) (a : Act) : Act := { a with defers := a.defers ++ [d] }
theorem dd_eval (d : Deferred) (a : Act) : (dd d a).eval = a.eval := by funext x; cases x <;> rfl
theorem dd_put (d : Deferred) (a : Act) (x : Option Nat) (v : Value) : (dd d a).put x v = dd d (a.put x v) := by cases x <;> rfl
theorem dd_of {d : Deferred} {a : Act} (h : a.defers = []) : { a with defers := d :: a.defers } = dd d a := by unfold dd; rw [h]; rfl
theorem operD_of {m : Nat} {d : Deferred} {o : Oper} {a : Act} {w : World} {K K' : Act → World → Prop} {Q Q' : Exit → Act → World → Prop} (hK : ∀ a w, K a w → K' (dd d a) w) (hQ : ∀ c a w, ¬ Q (.panic c) a w) (hO : ¬ LetsOut Q) (h : o.wp P a w K Q) : o.wpIn Fence.wide m P (dd d a) w K' Q' := by
  refine ⟨fun _ _ => trivial, ?_⟩
  show o.uponIn Fence.wide m P (dd d a) K' Q' ((execOp (dd d a).eval o).run P w)
  rw [dd_eval]
  unfold Oper.wp at h
  generalize (execOp a.eval o).run P w = res at h ⊢
  match res, h with
  | .ok (.value v) w', h => show K' ((dd d a).put o.dst v) w'; rw [dd_put]; exact hK _ _ h
  | .ok .skip w', h => show K' ((dd d a).put o.dst undef) w'; rw [dd_put]; exact hK _ _ h
  | .ok (.defer q) w', h =>
    have h' : K ({ a with defers := q :: a.defers }.put o.dst undef) w' := h
    show K' ({ dd d a with defers := q :: (dd d a).defers }.put o.dst undef) w'
    have e : ({ dd d a with defers := q :: (dd d a).defers } : Act) = dd d { a with defers := q :: a.defers } := rfl
    rw [e, dd_put]; exact hK _ _ h'
  | .ok (.enter f args) w', h =>
    refine ⟨fun e => (by cases e), (callsIn_wide.2 (Calls.mono h ?_))⟩
    intro e w'' he
    cases e with
    | returned v => show K' ((dd d a).put o.dst v) w''; rw [dd_put]; exact hK _ _ he
    | panicked c => exact (hQ _ _ _ he).elim
    | outgrown => exact (hO he).elim
  | .ok (.row row args) w', h =>
    refine ⟨fun e => (by cases e), ?_⟩
    have h' : Rows P row args w' fun v w'' => K (a.put o.dst v) w'' := h
    exact fun c cs hr => by
      obtain ⟨v, w'', hR, hs⟩ := h' c cs
      exact ⟨v, w'', (by show K' ((dd d a).put o.dst v) w''; rw [dd_put]; exact hK _ _ hR), (stepsIn_wide (P := P)).2 hs⟩
  | .halt (.panic v) w', h => exact (hQ _ _ _ h).elim
theorem wpAnyD_of {m : Nat} {d : Deferred} {ops : Array Oper} {Q Q' : Exit → Act → World → Prop} (hN : ∀ a w, Q .normal a w → Q' .normal (dd d a) w) (hQ : ∀ c a w, ¬ Q (.panic c) a w) (hout : ¬ LetsOut Q) : ∀ (fuel : Nat) (listed : Array Bool) (a : Act) (w : World), wpAny P .any ops Q fuel listed a w → wpAnyIn Fence.wide m P .any ops Q' fuel listed (dd d a) w
  | 0, _, _, _, h => ⟨h.1, hN _ _ h.2⟩
  | fuel + 1, listed, a, w, h => ⟨fun hr => hN _ _ (h.1 hr), fun i hi => by
    have h2 := h.2 i hi
    unfold wpOp at h2
    unfold wpOpIn
    cases ho : ops[i]? with
    | none =>
      rw [ho] at h2
      exact wpAnyD_of hN hQ hout fuel _ a w h2
    | some o =>
      rw [ho] at h2
      dsimp only at h2 ⊢
      by_cases hw : Region.wanted o (yielded ops a.tmps) = true
      · rw [if_pos hw] at h2
        rw [if_pos (show Region.wanted o (yielded ops (dd d a).tmps) = true from hw)]
        rcases h2 with h2 | h2
        · exact operD_of (fun a w h => wpAnyD_of hN hQ hout fuel _ a w h) hQ hout h2
        · exact absurd h2.2 hout
      · rw [if_neg hw] at h2
        rw [if_neg (show ¬ Region.wanted o (yielded ops (dd d a).tmps) = true from hw), dd_put]
        exact ⟨fun _ _ => trivial, wpAnyD_of hN hQ hout fuel _ _ _ h2⟩⟩
/-- Code behind such a statement, that ends where I holds. -/
def RInD (P : Program) (fn : Func) (N : Nat) (I : Act → World → Prop) (d : Deferred) (m : Nat) (c : Code) (fr : Fr) (w : World) : Prop := ∀ a, Rep N a fr → c.wpIn Fence.wide m P (fun e a' w' => ∃ a2, e = .normal ∧ a' = dd d a2 ∧ I a2 w') (dd d a) w
theorem noPanic (c : List PanicEntry) (a : Act) (w : World) : ¬ kpost P fn noEnd [.inv I] (.panic c) a w := fun h => by have := (kpost_inv h).1; cases this
theorem ind_at {m id : Nat} {d : Deferred} {l l' : List Oper} (row : Rw) (D A : List Nat) (L C : Nat) (ts : List (Tag × Nat)) (hm : P.follows .mixedOrders = true) (hD : l.map (dmask .any) = D) (hA : ancs .any l [] = A)
    (hc : (Region.noSelect l.toArray && (Nat.beq (l'.length + extra ts) l.length && chk l.toArray l D A L C ts 0)) = true) (hl : l'.map some = opsOf l.toArray ts)
    (h : WL P fn noEnd N [.inv I] l.toArray (some (row, ts)) l' fr w.drew) : RInD P fn N I d m (.region id l.toArray true) fr w := fun a ha => by
  simp only [Bool.and_eq_true] at hc
  obtain ⟨h1, h2, h3⟩ := hc
  refine wpIn_region_any hm (wpAnyD_of (Q := kpost P fn noEnd [.inv I]) (fun a w h => ⟨a, rfl, rfl, (kpost_inv h).2⟩) noPanic noOut _ _ _ _ (wpAny_of_mix (loud := Nat.testBit L) (calm := Nat.testBit C) (row := row) _ _ _ _ ?_))
  have hno : ∀ j, (Array.replicate l.length false).getD j false = false := fun j => by
    rcases Nat.lt_or_ge j l.length with h' | h'
    · simp [h']
    · simp [h']
  have := left_elim (h a ha) (listed := Array.replicate l.length false) (m := 0) ⟨by simp, fun j => by rw [hno j]; simp, hD.symm, hA.symm, h1, fun j oj hj hl => by rw [hno j] at hl; cases hl⟩ hl h3
  rw [Nat.eq_of_beq_eq_true h2] at this
  simpa using this
theorem ind_draw {m id : Nat} {d : Deferred} {l : List Oper} (row : Option Nat) (D A : List Nat) (L C : Nat) (ts : List (Tag × Nat)) (hm : P.follows .mixedOrders = true) (hD : l.map (dmask .any) = D) (hA : ancs .any l [] = A)
    (hc : (Region.noSelect l.toArray && (Nat.beq (l.length + extra ts) l.length && chk l.toArray l D A L C ts 0)) = true) (hl : l.map some = opsOf l.toArray ts) (h : WL P fn noEnd N [.inv I] l.toArray (some ((row, none), ts)) l fr w.drew) :
    RInD P fn N I d m (.region id l.toArray true) fr w := ind_at (row, none) D A L C ts hm hD hA hc hl h
end
end Go.Proofs.YtnnhenafhalobaaGreat
/-
  Walks of package record: records that can be read one after the other.
-/
namespace Go.Proofs.YtnnhenafhalobaaGreat
set_option maxRecDepth 100000
open Go.RowKit
theorem list32 {c : By} (h : c.length = 32) : ∃ a0 a1 a2 a3 a4 a5 a6 a7 a8 a9 b0 b1 b2 b3 b4 b5 b6 b7 b8 b9 c0 c1 c2 c3 c4 c5 c6 c7 c8 c9 d0 d1, c = [a0, a1, a2, a3, a4, a5, a6, a7, a8, a9, b0, b1, b2, b3, b4, b5, b6, b7, b8, b9, c0, c1, c2, c3, c4, c5, c6, c7, c8, c9, d0, d1] := by
  have step : ∀ {n : Nat} {l : By}, l.length = n + 1 → ∃ a r, l = a :: r ∧ r.length = n := fun {n l} h => by
    cases l with
    | nil => simp at h
    | cons a r => exact ⟨a, r, rfl, by simpa using h⟩
  obtain ⟨a0, r0, e0, h0⟩ := step h
  obtain ⟨a1, r1, e1, h1⟩ := step h0
  obtain ⟨a2, r2, e2, h2⟩ := step h1
  obtain ⟨a3, r3, e3, h3⟩ := step h2
  obtain ⟨a4, r4, e4, h4⟩ := step h3
  obtain ⟨a5, r5, e5, h5⟩ := step h4
  obtain ⟨a6, r6, e6, h6⟩ := step h5
  obtain ⟨a7, r7, e7, h7⟩ := step h6
  obtain ⟨a8, r8, e8, h8⟩ := step h7
  obtain ⟨a9, r9, e9, h9⟩ := step h8
  obtain ⟨b0, r10, e10, h10⟩ := step h9
  obtain ⟨b1, r11, e11, h11⟩ := step h10
  obtain ⟨b2, r12, e12, h12⟩ := step h11
  obtain ⟨b3, r13, e13, h13⟩ := step h12
  obtain ⟨b4, r14, e14, h14⟩ := step h13
  obtain ⟨b5, r15, e15, h15⟩ := step h14
  obtain ⟨b6, r16, e16, h16⟩ := step h15
  obtain ⟨b7, r17, e17, h17⟩ := step h16
  obtain ⟨b8, r18, e18, h18⟩ := step h17
  obtain ⟨b9, r19, e19, h19⟩ := step h18
  obtain ⟨c0, r20, e20, h20⟩ := step h19
  obtain ⟨c1, r21, e21, h21⟩ := step h20
  obtain ⟨c2, r22, e22, h22⟩ := step h21
  obtain ⟨c3, r23, e23, h23⟩ := step h22
  obtain ⟨c4, r24, e24, h24⟩ := step h23
  obtain ⟨c5, r25, e25, h25⟩ := step h24
  obtain ⟨c6, r26, e26, h26⟩ := step h25
  obtain ⟨c7, r27, e27, h27⟩ := step h26
  obtain ⟨c8, r28, e28, h28⟩ := step h27
  obtain ⟨c9, r29, e29, h29⟩ := step h28
  obtain ⟨d0, r30, e30, h30⟩ := step h29
  obtain ⟨d1, r31, e31, h31⟩ := step h30
  obtain rfl := List.length_eq_zero_iff.1 h31
  subst e31
  subst e30
  subst e29
  subst e28
  subst e27
  subst e26
  subst e25
  subst e24
  subst e23
  subst e22
  subst e21
  subst e20
  subst e19
  subst e18
  subst e17
  subst e16
  subst e15
  subst e14
  subst e13
  subst e12
  subst e11
  subst e10
  subst e9
  subst e8
  subst e7
  subst e6
  subst e5
  subst e4
  subst e3
  subst e2
  subst e1
  subst e0
  exact ⟨_, _, _, _, _, _, _, _, _, _, _, _, _, _, _, _, _, _, _, _, _, _, _, _, _, _, _, _, _, _, _, _, rfl⟩
/-- A mark's cells. -/
def cMark (n : Int) (c : By) : List Value := .int .i64 n :: B8 c
theorem cMark_len {n : Int} {c : By} (h : c.length = 32) : (cMark n c).length = 33 := by simp [cMark, B8_length, h]
theorem Tryz.build_mark {c : By} (h : c.length = 32) (n : Int) (w : World) : (Instr.build 121 ([0, 1].zip [Value.int .i64 n, Value.agg (B8 c).toArray]).toArray).run Tryz.prog w = .ok (.agg (cMark n c).toArray) w := by
  obtain ⟨a0, a1, a2, a3, a4, a5, a6, a7, a8, a9, b0, b1, b2, b3, b4, b5, b6, b7, b8, b9, c0, c1, c2, c3, c4, c5, c6, c7, c8, c9, d0, d1, rfl⟩ := list32 h
  kernel_rfl
section
variable {N : Nat} {fr : Fr} {w : World} {ty : TypeId} {x y : Operand} {n : Int} {c : By}
--@ rule! build p o_buildMark
theorem o_buildMark (hx : fr.ev x = some (.int .i64 n)) (hy : fr.ev y = some (.agg (B8 c).toArray)) (hc : c.length = 32) : OpV Tryz.prog N fr w (.build 121 #[(0, x), (1, y)]) ty (.agg (cMark n c).toArray) w :=
  o_build (is := [0, 1]) (xs := [x, y]) (vs := [.int .i64 n, .agg (B8 c).toArray]) (by simp [Fr.evs, hx, hy]) (Tryz.build_mark hc n)
end
/-- What each hands on: a record, where its Data lies, the mark. -/
abbrev Ev := Rc × (Option Addr × Nat) × (Nat × By)
def encE (x : Ev) : Array Value := #[.agg #[.int .u8 (x.1.1.toNat : Int), .slice x.2.1.1 x.1.2.length x.2.1.2], .agg (cMark x.2.2.1 x.2.2.2).toArray]
def ydE (B : Nat) (pre : List Ev) (x : Ev) (w : World) : Prop := RdT w x.2.1.1 x.1.2 ∧ x.1.2.length ≤ x.2.1.2 ∧ x.2.1.2 ≤ maxLen ∧ x.2.2.2.length = 32 ∧ pre.length ≤ 400000 ∧ ∀ k, blk x.2.1.1 = some k → B ≤ k
theorem bytesAll_ge : ∀ (d : By) (l : List Rc), l.length ≤ (bytesAll d l).length
  | _, [] => Nat.zero_le _
  | d, r :: l => by
    have := bytesAll_ge (nextB d r) l
    rw [bytesAll, List.length_append, bytesR_len, List.length_cons]; omega
/-- The last mark. -/
def lastE (c : By) (l : List Ev) : Nat × By := ((l.getLast?).map fun x => x.2.2).getD (0, c)
theorem lastE_snoc (c : By) (l : List Ev) (x : Ev) : lastE c (l ++ [x]) = x.2.2 := by simp [lastE]
/-- What lies below B is still there, but for the blocks X. -/
structure KeepX (B : Nat) (X : Nat → Prop) (w w' : World) : Prop where
  os : w'.os = w.os
  tape : w'.tape = w.tape
  output : w'.output = w.output
  size : w.heap.size ≤ w'.heap.size
  block : ∀ k, k < B → ¬ X k → w'.heap[k]? = w.heap[k]?
theorem KeepX.of {w w' : World} {B : Nat} {X : Nat → Prop} (h : Below B w w') : KeepX B X w w' := ⟨h.os, h.tape, h.output, h.size, fun k hk _ => h.block k hk⟩
theorem KeepX.trans {B : Nat} {X : Nat → Prop} {a b c : World} (h : KeepX B X a b) (k : KeepX B X b c) : KeepX B X a c := ⟨k.os.trans h.os, k.tape.trans h.tape, k.output.trans h.output, Nat.le_trans h.size k.size, fun i hi hn => (k.block i hi hn).trans (h.block i hi hn)⟩
theorem KeepX.grown {B : Nat} {X : Nat → Prop} {w w' : World} {row : Option Nat} (h : w.grownBy w' row) (hB : B ≤ w.heap.size) (hr : ∀ k, row = some k → X k) : KeepX B X w w' := ⟨h.os, h.tape, h.output, h.size, fun k hk hx => h.block k (by omega) (fun e => hx (hr k e.symm))⟩
theorem KeepX.blk {w w' : World} {X : Nat → Prop} {i : Nat} {t : TypeId} {cs : List Value} (h : KeepX w.heap.size X w w') (hB : Blk w i t cs) (hne : ¬ X i) : Blk w' i t cs := (h.block i hB.lt hne).trans hB
theorem KeepX.rd {w w' : World} {X : Nat → Prop} {A : Option Addr} {l : By} (h : KeepX w.heap.size X w w') (hR : Rd w A l) (hne : ∀ k, l ≠ [] → Go.Proofs.YtnnhenafhalobaaGreat.blk A = some k → ¬ X k) : Rd w' A l := by
  by_cases hl : l = []
  · subst hl; exact ⟨hR.1, fun h => absurd rfl h⟩
  · obtain ⟨b, o, rfl, hc⟩ := hR.2 (fun e => hl (by cases l with | nil => rfl | cons x y => cases e))
    refine ⟨hR.1, fun _ => ⟨b, o, rfl, fun j u hj => ?_⟩⟩
    have h1 := hc j u hj
    have hlt : b < w.heap.size := block_lt_of_cell h1
    rw [← h1]
    show World.cell? w' _ = World.cell? w _
    unfold World.cell?
    rw [show w'.heap[b]? = w.heap[b]? from h.block b hlt (hne b hl rfl)]
theorem each_seq {A : Option Addr} {b c : By} {cap g h : Nat} (w : World) (hg : Blk w g 64 (B8 c)) (hh : Blk w h 35 [.slice A b.length cap]) (hb : Rd w A b) (hcap : b.length ≤ cap) (hc : c.length = 32) (hl : b.length ≤ 400000) (hgh : h ≠ g) {X : Nat → Prop} (hXg : ¬ X g) (hXh : ¬ X h) (hgb : ∀ k, b ≠ [] → blk A = some k → k ≠ g ∧ ¬ X k) :
    SeqC Fence.wide 2 Tryz.prog 106 #[.pointer (some ⟨g, 0, none⟩), .pointer (some ⟨h, 0, none⟩)] encE (KeepX w.heap.size X) (fun W W' => Grew W W' 64 (some g)) (ydE w.heap.size)
      (fun xs => AllP c b (xs.map Prod.fst) ∧ lastE c xs = ((bytesAll c (xs.map Prod.fst)).length, chainAll c (xs.map Prod.fst))) w := fun l J W hbW hJ hY h0 => by
  have main : CallsR Tryz.prog 106 [.func (.yield l) #[] #[], .pointer (some ⟨g, 0, none⟩), .pointer (some ⟨h, 0, none⟩)] W fun _ w' => ∃ xs, (AllP c b (xs.map Prod.fst) ∧ lastE c xs = ((bytesAll c (xs.map Prod.fst)).length, chainAll c (xs.map Prod.fst))) ∧ J xs w' := by
    have hglt := hg.lt
    have hhlt := hh.lt
    have hsW := hbW.size
    refine callsR Tryz.func106 rfl rfl (by kernel_rfl) rfl ?_
    have hw := hbW
    have fg := hg.under hbW
    have fh := hh.under hbW
    have fb := hb.below hbW
    refine rk_seq ?_
    refine rk_region ?_
    refine wl_p (fun _ => o_assign rfl) ?_
    refine wl_nil ?_
    refine rk_block ?_
    refine rk_loopf (fun fb m fr w2 => ∃ (xs : List Ev) (l1 : List Rc) (at0 : Nat) (v : Int) (ch : By), fr = [(4, .int .i64 v)] ++ fb.drop 1 ∧ v = at0 ∧ l1 = xs.map Prod.fst ∧ at0 = (bytesAll c l1).length ∧ ch = chainAll c l1 ∧ lastE c xs = (at0, ch) ∧ b = bytesAll c l1 ++ b.drop at0 ∧ (∀ r ∈ l1, OkR r) ∧ m = b.length - at0 ∧ J xs w2 ∧ Blk w2 g 64 (B8 ch) ∧ W.heap.size ≤ w2.heap.size ∧ KeepX w.heap.size (fun k => k = g ∨ X k) w w2) (n := b.length) (Fr.le_of (by kernel_rfl) (by kernel_rfl) (by repeat' constructor)) ⟨[], [], 0, _, c, rfl, rfl, rfl, rfl, rfl, rfl, rfl, by simp, by simp, h0, fg, Nat.le_refl _, KeepX.of hbW⟩ ?_
    clear hw fg fh fb h0
    rintro m fr w2 ⟨xs, l1, at0, v, ch, rfl, rfl, hl1, hat, hch, hlast, hbq, hok, rfl, hJx, fg, hsz, hkg⟩
    first | refine rk_frame (by simp only [List.cons_append, List.nil_append, List.drop_succ_cons, List.drop_zero]; rfl) ?_ | refine wl_frame (by simp only [List.cons_append, List.nil_append, List.drop_succ_cons, List.drop_zero]; rfl) ?_
    have fh := hkg.blk hh (fun e => e.elim hgh hXh)
    have fr0 := hkg.rd hb (fun k h1 h2 e => e.elim (hgb k h1 h2).1 (hgb k h1 h2).2)
    have hatb : at0 ≤ b.length := by rw [hbq, List.length_append]; omega
    have hchl : ch.length = 32 := by rw [hch]; exact chainAll_len hc l1
    obtain ⟨bq, hbq2⟩ : ∃ q, b.drop at0 = q := ⟨_, rfl⟩
    obtain ⟨⟨⟨k, p⟩, z, x, e⟩, hR⟩ : ∃ s, readR ch bq = s := ⟨_, rfl⟩
    have hw := Below.refl w2.heap.size w2
    refine rk_block ?_
    refine rk_seq ?_
    refine rk_drawo (id := 1) (none) [0, 0, 0, 6, 9, 16, 32, 32, 32, 32, 0, 0, 3199, 7423, 15871, 32767] [0, 0, 0, 6, 15, 31, 63, 63, 63, 63, 0, 0, 3199, 7423, 15871, 32767] 23568 3072 [0, 1, 2, 3] [(.s, 0), (.s, 1), (.p, 2), (.p, 3), (.f 15 23568 3072, 12)] (by kernel_rfl) (by kernel_rfl) (by kernel_rfl) (by kernel_rfl) (by kernel_rfl) ?_
    dsimp only [inOrder, nthOp]
    replace hw := hw.drew
    refine wl_s (fun _ hk => (o_ldBa Tryz.isAgg64 Tryz.sizeOf64 rfl ((fg.u hw).u (below_of_grown_none hk)) hchl)) ?_
    refine wl_s (fun _ hk => (o_loadbg Tryz.isAgg35 rfl ((fh.u hw).u (below_of_grown_none hk)) (by rfl))) ?_
    refine wl_p (fun _ => o_move rfl) ?_
    refine wl_slBl Tryz.u8 (at0) rfl rfl (fr0.u hw) rfl rfl (by omega) (by omega) ?_
    rintro A13 c13 f13 i13 i13_1
    rw [hbq2] at f13
    have hqb : bq.length + at0 = b.length := by rw [← hbq2, List.length_drop]; omega
    have hql : b.length - at0 = bq.length := by rw [← hbq2, List.length_drop]
    rw [hql] at *
    have hx32 : x.length = 32 := by
      rcases readR_e ch bq with h | ⟨h, _⟩
      · rw [hR] at h
        simp only at h
        subst h
        obtain ⟨_, _, h3, _⟩ := readR_back hR
        rw [h3]; exact nextB_len _ _
      · rw [hR] at h
        simp only [Prod.mk.injEq] at h
        rw [h.2.2.1]; rfl
    refine wl_conc [⟨4, [(.p, 5), (.p, 6), (.p, 7), (.p, 8), (.p, 9)], [18, 17, 16, 15, 9, 14], [], fun vs w' lo hi => ∃ (A14 : Option Addr) (c14 : Nat) (u9 u14 : Value), vs = [.int .i64 (e : Int), .agg (B8 x).toArray, .int .i64 (z : Int), .agg #[.int .u8 (k.toNat : Int), .slice A14 p.length c14], u9, u14] ∧ OwnH w' lo hi A14 c14 p⟩, ⟨10, [], [5], [], fun vs w' lo hi => ∃ (g5 : Nat), vs = [.pointer (some ⟨g5, 0, none⟩)] ∧ Blk w' g5 37 [.int .u8 0, .slice none 0 0] ∧ lo ≤ g5 ∧ g5 < hi⟩, ⟨11, [], [7], [], fun vs w' lo hi => ∃ (g7 : Nat), vs = [.pointer (some ⟨g7, 0, none⟩)] ∧ Blk w' g7 64 (B8 nul32) ∧ lo ≤ g7 ∧ g7 < hi⟩] [0, 1, 2] [0, 0, 0, 6, 9, 16, 32, 32, 32, 32, 0, 0, 3199, 7423, 15871, 32767] [0, 0, 0, 6, 15, 31, 63, 63, 63, 63, 0, 0, 3199, 7423, 15871, 32767] [12, 13, 14, 15] [(.l, 12), (.p, 13), (.l, 14), (.p, 15)] (by kernel_rfl) (by kernel_rfl) (by kernel_rfl) (by kernel_rfl) ⟨fun _ _ _ _ _ h hb => by obtain ⟨A14, c14, u9, u14, e0, g0⟩ := h; exact ⟨A14, c14, u9, u14, e0, g0.u hb⟩, fun _ _ _ _ _ h hb => by obtain ⟨g5, e0, g0, g1, g2⟩ := h; exact ⟨g5, e0, g0.u hb, g1, g2⟩, fun _ _ _ _ _ h hb => by obtain ⟨g7, e0, g0, g1, g2⟩ := h; exact ⟨g7, e0, g0.u hb, g1, g2⟩, trivial⟩ ⟨?_, ?_, ?_, trivial⟩ ?_
    · intro wI hbI fo T T2 n2
      intro hk
      dsimp only [Item.idx, inOrder, nthOp, List.map, List.zip_cons_cons, List.zip_nil_right, List.cons_append, List.nil_append]
      have shbI := hbI.size
      simp only [drew_size] at shbI
      replace hw := hw.trans (hbI.mono hw.size)
      replace f13 := f13.u hbI
      have hw1 := Below.refl wI.heap.size wI
      refine wl_call rfl (C_RecReadN _ hR f13 rfl (by omega) hchl (by omega)) ?_
      rintro v14 w14 ⟨A14, ⟨c14, ⟨rfl, ⟨f14, b14⟩⟩⟩⟩
      dsimp only at f14
      dsimp only
      have qf14 := f14.cap
      have s14 := b14.size
      replace hw := hw.trans (b14.mono hw.size)
      replace hw1 := hw1.trans (b14.mono hw1.size)
      replace f13 := f13.u b14
      refine wl_p (fun _ => o_move rfl) ?_
      refine wl_p (fun _ => o_ext40 rfl) ?_
      refine wl_p (fun _ => o_ext41 rfl) ?_
      refine wl_p (fun _ => o_ext42 rfl) ?_
      refine wl_p (fun _ => o_ext43 rfl) ?_
      exact hk [_, _, _, _, _, _] _ ⟨_, _, _, _, rfl, f14⟩ hw1
    · intro wI hbI fo T T2 n2
      intro hk
      dsimp only [Item.idx, inOrder, nthOp, List.map, List.zip_cons_cons, List.zip_nil_right, List.cons_append, List.nil_append]
      have shbI := hbI.size
      simp only [drew_size] at shbI
      replace hw := hw.trans (hbI.mono hw.size)
      replace f13 := f13.u hbI
      have hw1 := Below.refl wI.heap.size wI
      refine wl_allocg [_, _] Tryz.zeroValue37 (by rfl) ?_
      rintro g5 w5 f5 b5 i5 i5_1
      have s5 := b5.size
      replace hw := hw.trans (b5.mono hw.size)
      replace hw1 := hw1.trans (b5.mono hw1.size)
      replace f13 := f13.u b5
      exact hk [_] _ ⟨_, rfl, f5, by omega, by omega⟩ hw1
    · intro wI hbI fo T T2 n2
      intro hk
      dsimp only [Item.idx, inOrder, nthOp, List.map, List.zip_cons_cons, List.zip_nil_right, List.cons_append, List.nil_append]
      have shbI := hbI.size
      simp only [drew_size] at shbI
      replace hw := hw.trans (hbI.mono hw.size)
      replace f13 := f13.u hbI
      have hw1 := Below.refl wI.heap.size wI
      refine wl_allocB Tryz.underlying64 Tryz.zeroValue64 (by rfl) ?_
      rintro g7 w7 f7 b7 i7 i7_1
      have s7 := b7.size
      replace hw := hw.trans (b7.mono hw.size)
      replace hw1 := hw1.trans (b7.mono hw1.size)
      replace f13 := f13.u b7
      exact hk [_] _ ⟨_, rfl, f7, by omega, by omega⟩ hw1
    intro wE hbE
    rintro _ lo0 hi0 ⟨A14, c14, u9, u14, rfl, f14⟩ ql0 qm0 qh0 -
    rintro _ lo1 hi1 ⟨g5, rfl, f5, f5_1, f5_2⟩ ql1 qm1 qh1 ⟨qa1_0, -⟩
    rintro _ lo2 hi2 ⟨g7, rfl, f7, f7_1, f7_2⟩ ql2 qm2 qh2 ⟨qa2_1, qa2_0, -⟩
    try dsimp only at ql0 qm0 qh0  ql1 qm1 qh1 qa1_0 ql2 qm2 qh2 qa2_0 qa2_1
    try simp only [drew_size] at ql0 qm0 qh0  ql1 qm1 qh1 qa1_0 ql2 qm2 qh2 qa2_0 qa2_1
    dsimp only [given, Item.idx, inOrder, nthOp, List.map, List.zip_cons_cons, List.zip_nil_right]
    have shbE := hbE.size
    simp only [drew_size] at shbE
    replace hw := hw.trans (hbE.mono hw.size)
    replace f13 := f13.u hbE
    refine wl_storega Tryz.sizeOf37 rfl rfl (by rfl) (oneCell_of (by rfl)) f5 (by rfl) ?_
    rintro w_1 f g_1 e_1
    have s := g_1.size
    replace hw := hw.trans (below_of_grownBy g_1.g hw.size (by omega))
    replace f7 := f7.k g_1.g (ap_some (by omega))
    replace f14 := f14.k g_1.g (ap_some (by omega))
    clear f13
    clear f5
    refine wl_p (fun _ => o_assign rfl) ?_
    refine wl_stBa Tryz.sizeOf64 rfl f7 rfl hx32 (by rfl) ?_
    rintro w_2 f_1 g_2 e_2
    have s_1 := g_2.size
    replace hw := hw.trans (below_of_grownBy g_2.g hw.size (by omega))
    replace f14 := f14.k g_2.g (ap_some (by omega))
    replace f := f.k g_2.g (ap_some (by omega))
    clear f7
    refine wl_p (fun _ => o_assign rfl) ?_
    refine wl_nild ?_
    refine rk_seq ?_
    refine rk_seq ?_
    refine rk_region ?_
    refine wl_p (fun _ => o_move rfl) ?_
    refine wl_p (fun _ => o_ne rfl rfl) ?_
    refine wl_nil ?_
    have hglt2 := fg.lt
    have fgE := fg.u hw
    have hJE : J xs w_2 := hJ _ _ _ hJx ⟨grown_of_below hw _, fun k hk => by injection hk with hk; subst hk; exact fg.at_⟩
    refine rk_if rfl (fun h20 => ?_) (fun h20 => ?_)
    · skip
      refine ret0 rfl ?_
      exact ⟨xs, ⟨⟨bq, by rw [← hl1, ← hbq2]; exact hbq, by rw [← hl1]; exact hok, by rw [← hl1, ← hch, hR]; simp only; omega⟩, by rw [← hl1, hlast, hat, hch]⟩, hJE⟩
    · obtain rfl : e = 0 := by omega
      obtain ⟨hO, hz, hxn, q, hq⟩ := readR_back hR
      have hzq : z ≤ bq.length := by rw [hq, List.length_append]; omega
      have kw := hw
      refine rk_skip ?_
      refine rk_seq ?_
      refine rk_region ?_
      refine wl_p (fun _ => o_move rfl) ?_
      refine wl_p (fun _ => o_move rfl) ?_
      refine wl_p (fun _ => o_add rfl rfl (by omega) (by omega)) ?_
      refine wl_p (fun _ => o_assign rfl) ?_
      refine wl_nil ?_
      refine rk_seq ?_
      refine rk_region ?_
      refine wl_r (o_ldBa Tryz.isAgg64 Tryz.sizeOf64 rfl f_1 hx32) ?_
      refine wl_stBa Tryz.sizeOf64 rfl fgE rfl hx32 hchl ?_
      rintro w_3 f_2 g_3 e
      have s_2 := g_3.size
      replace f := f.k g_3.g (ap_some (by omega))
      replace f14 := f14.k g_3.g (ap_some (by omega))
      replace f_1 := f_1.k g_3.g (ap_some (by omega))
      clear fgE
      refine wl_nil ?_
      have hG : Grew w_2 w_3 64 (some g) := by assumption
      have hG2 : Grew w2 w_3 64 (some g) := ⟨grownBy_step (grown_of_below kw _) hG.g, fun k hk => by injection hk with hk; subst hk; exact fg.at_⟩
      have hJ3 : J xs w_3 := hJ _ _ _ hJx hG2
      have hsz3 := hG2.size
      have hcp := f14.cap
      have hyd : ydE w.heap.size xs ((k, p), (A14, c14), (at0 + z, x)) w_3 := ⟨f14.to_RdT, hcp, own_max f14, hx32, by
        have h1 := bytesAll_ge c l1
        rw [← hat, hl1, List.length_map] at h1; omega, fun k hk => by have := (RowH.lt f14 k hk).1; omega⟩
      refine rk_seq ?_
      refine rk_regionI 2 ?_
      refine wli_p (o_move rfl) ?_
      refine wli_p (o_loadag Tryz.isAgg37 Tryz.sizeOf37 rfl f rfl) ?_
      refine wli_p (o_move rfl) ?_
      refine wli_p (o_loadag Tryz.isAgg64 Tryz.sizeOf64 rfl f_2 (by rw [B8_length, hx32])) ?_
      refine wli_p (o_buildMark rfl rfl hx32) ?_
      refine wli_yieldL (xs := [.tmp 26, .tmp 29]) rfl rfl (hY xs ((k, p), (A14, c14), (at0 + z, x)) _ hJ3 hyd) (fun e w3 he => ?_)
      obtain ⟨rfl, hJ4, hkp⟩ := he
      refine ⟨true, rfl, ?_⟩
      refine wli_p (o_not rfl) ?_
      refine wli_nil ?_
      have hsk := hkp.size
      have fg3 : Blk w3 g 64 (B8 x) := (hkp.block g (by omega) hXg).trans f_2
      have hkg3 : KeepX w.heap.size (fun k => k = g ∨ X k) w w3 := hkg.trans ((KeepX.grown hG2.g hkg.size (fun k e => by injection e with e; exact .inl e.symm)).trans ⟨hkp.os, hkp.tape, hkp.output, hkp.size, fun k hk hx => hkp.block k hk (fun e => hx (.inr e))⟩)
      clear f f_1 f_2 f14 hw
      refine rk_false rfl ?_
      refine rk_skip ?_
      refine rk_blk ?_
      have e1 : bytesAll c (l1 ++ [(k, p)]) = bytesAll c l1 ++ bytesR ch (k, p) := by rw [bytesAll_append, ← hch]; simp [bytesAll]
      have e2 : chainAll c (l1 ++ [(k, p)]) = x := by rw [chainAll_append, ← hch, hxn]; rfl
      have e3 : b.drop (at0 + z) = q := by rw [← List.drop_drop, hbq2, hq, hz, List.drop_left]
      have hz0 : 0 < z := by rw [hz, bytesR_len]; omega
      exact rk_againf (Fr.le_of (by kernel_rfl) (by kernel_rfl) (by repeat' constructor)) ⟨xs ++ [((k, p), (A14, c14), (at0 + z, x))], l1 ++ [(k, p)], at0 + z, (at0 : Int) + (z : Int), x, rfl, by omega, by rw [hl1]; simp, by rw [e1, List.length_append, ← hat, ← hz], e2.symm, lastE_snoc _ _ _, by rw [e1, e3, List.append_assoc, ← hq, ← hbq2]; exact hbq, fun r hr => by
        rcases List.mem_append.1 hr with h | h
        · exact hok r h
        · rw [List.mem_singleton] at h; subst h; exact hO, rfl, hJ4, fg3, by omega, hkg3⟩ (by omega)
  refine callsIn_wide.2 (main.2.mono ?_)
  rintro e w' ⟨v, rfl, hv⟩
  exact ⟨⟨v, rfl⟩, hv⟩
end Go.Proofs.YtnnhenafhalobaaGreat
/-
  Walks of package record: all records.
-/
namespace Go.Proofs.YtnnhenafhalobaaGreat
set_option maxRecDepth 100000
open Go.RowKit
/-- Records that are read; records of the call's own. -/
def RRec (w : World) (A : Option Addr) (L : List Rc) : Prop := RSl gRec w A L
def RRecT (w : World) (A : Option Addr) (L : List Rc) : Prop := RSlT gRec 37 w A L
def OwnRec (w : World) (lo hi : Nat) (A : Option Addr) (c : Nat) (L : List Rc) : Prop := OwnS gRec 37 w lo hi A c L
theorem gRec_one (w : World) (cs : List Value) (r : Rc) (h : gRec.T w cs r) : ∀ u ∈ cs, u.oneCell' = true := by
  obtain ⟨A, c, rfl, _⟩ := gRec_R (gRec.tr h)
  intro u hu
  simp only [List.mem_cons, List.not_mem_nil, or_false] at hu
  rcases hu with rfl | rfl <;> rfl
theorem gRec_mk {w : World} {k : UInt8} {p : By} {A : Option Addr} {c : Nat} (h : RdT w A p) (h1 : p.length ≤ c) (h2 : c ≤ maxLen) : gRec.T w [.int .u8 (k.toNat : Int), .slice A p.length c] (k, p) := by
  have hk := k.toNat_lt
  refine ⟨((k.toNat : Int), p), by simp, [_], _, rfl, ⟨rfl, ?_⟩, A, c, rfl, h, h1, h2⟩
  simp only [Lit.wf, Bool.and_eq_true, decide_eq_true_eq]
  exact ⟨by show (0 : Int) ≤ _; omega, by show _ ≤ (255 : Int); omega⟩
section
variable {w w' : World} {lo hi c : Nat} {A : Option Addr} {L : List Rc}
theorem RRec.u (h : RRec w A L) (hb : Below w.heap.size w w') : RRec w' A L := RSl.u h hb
theorem RRec.some_ (h : RRec w A L) (hl : 0 < L.length) : A = some (A.getD ⟨0, 0, none⟩) := RSl.some_ h (show 0 < 2 by decide) hl
theorem RRec.elem (h : RRec w A L) {i : Nat} (hi : i < L.length) : ∃ A1 c1, CellsAt w A (i * 2) [.int .u8 (L[i].1.toNat : Int), .slice A1 L[i].2.length c1] ∧ Rd w A1 L[i].2 ∧ L[i].2.length ≤ c1 ∧ c1 ≤ maxLen := by
  obtain ⟨cs, h1, h2⟩ := RSl.elem h (show 0 < 2 by decide) hi
  obtain ⟨A1, c1, rfl, h3, h4, h5⟩ := gRec_R h2
  exact ⟨A1, c1, h1, h3, h4, h5⟩
theorem OwnRec.u (h : OwnRec w lo hi A c L) (hb : Below w.heap.size w w') : OwnRec w' lo hi A c L := OwnS.u h hb
theorem OwnRec.d (h : OwnRec w lo hi A c L) : OwnRec w.drew lo hi A c L := OwnS.d h
theorem OwnRec.y {e' : TypeId} {row : Option Nat} (h : OwnRec w lo hi A c L) (hg : Grew w w' e' row) (hne : e' ∉ [37, 5]) : OwnRec w' lo hi A c L := OwnS.y h hg hne
theorem OwnRec.q {e' : TypeId} {row : Option Nat} (h : OwnRec w lo hi A c L) (hg : Grew w w' e' row) (ha : Ap row lo hi) (hne : e' ∉ [5]) : OwnRec w' lo hi A c L := OwnS.q h hg ha hne
theorem OwnRec.ap {lo' hi' : Nat} (h : OwnRec w lo hi A c L) (hd : hi ≤ lo' ∨ hi' ≤ lo) : Ap (blk A) lo' hi' := OwnS.ap h hd
theorem OwnRec.cap (h : OwnRec w lo hi A c L) : L.length ≤ c := OwnS.cap h
theorem OwnRec.nil_ : OwnRec w lo hi none 0 [] := OwnS.nil_
theorem OwnRec.base {lo' hi' : Nat} (h : OwnRec w lo hi A c L) (h1 : lo' ≤ lo) (h2 : hi ≤ hi') : OwnRec w lo' hi' A c L := OwnS.base h h1 h2
theorem OwnRec.to_RRecT (h : OwnRec w lo hi A c L) : RRecT w A L := OwnS.to_RSlT h
theorem OwnRec.to_RRec (h : OwnRec w lo hi A c L) : RRec w A L := OwnS.to_RSl h
end
/-- Where the bytes of records lie. -/
def XC (X : Nat → Prop) (cs : List Value) : Prop := ∀ A n c, Value.slice A n c ∈ cs → ∀ k, blk A = some k → X k
def gRecX (X : Nat → Prop) : GoT Rc where
  sz := gRec.sz
  tys := gRec.tys
  R w cs r := gRec.R w cs r ∧ XC X cs
  T w cs r := gRec.T w cs r ∧ XC X cs
  len h := gRec.len h.1
  u h hb := ⟨gRec.u h.1 hb, h.2⟩
  tr h := ⟨gRec.tr h.1, h.2⟩
  tu h hb := ⟨gRec.tu h.1 hb, h.2⟩
  ty h hg hne := ⟨gRec.ty h.1 hg hne, h.2⟩
  tm h hg := ⟨gRec.tm h.1 hg, h.2⟩
def RRecX (X : Nat → Prop) (w : World) (A : Option Addr) (L : List Rc) : Prop := RSl (gRecX X) w A L
def RRecXT (X : Nat → Prop) (w : World) (A : Option Addr) (L : List Rc) : Prop := RSlT (gRecX X) 37 w A L
def OwnRecX (X : Nat → Prop) (w : World) (lo hi : Nat) (A : Option Addr) (c : Nat) (L : List Rc) : Prop := OwnS (gRecX X) 37 w lo hi A c L
section
variable {X : Nat → Prop} {w w' : World} {lo hi c : Nat} {A : Option Addr} {L : List Rc}
theorem RRecX.u (h : RRecX X w A L) (hb : Below w.heap.size w w') : RRecX X w' A L := RSl.u h hb
theorem RRecX.to_RRec (h : RRecX X w A L) : RRec w A L := by
  obtain ⟨xs, h1, h2⟩ := h
  exact ⟨xs, h1, fun i hi => (h2 i hi).1⟩
theorem RRecX.some_ (h : RRecX X w A L) (hl : 0 < L.length) : A = some (A.getD ⟨0, 0, none⟩) := h.to_RRec.some_ hl
theorem OwnRecX.u (h : OwnRecX X w lo hi A c L) (hb : Below w.heap.size w w') : OwnRecX X w' lo hi A c L := OwnS.u h hb
theorem OwnRecX.d (h : OwnRecX X w lo hi A c L) : OwnRecX X w.drew lo hi A c L := OwnS.d h
theorem OwnRecX.y {e' : TypeId} {row : Option Nat} (h : OwnRecX X w lo hi A c L) (hg : Grew w w' e' row) (hne : e' ∉ [37, 5]) : OwnRecX X w' lo hi A c L := OwnS.y h hg hne
theorem OwnRecX.q {e' : TypeId} {row : Option Nat} (h : OwnRecX X w lo hi A c L) (hg : Grew w w' e' row) (ha : Ap row lo hi) (hne : e' ∉ [5]) : OwnRecX X w' lo hi A c L := OwnS.q h hg ha hne
theorem OwnRecX.ap {lo' hi' : Nat} (h : OwnRecX X w lo hi A c L) (hd : hi ≤ lo' ∨ hi' ≤ lo) : Ap (blk A) lo' hi' := OwnS.ap h hd
theorem OwnRecX.cap (h : OwnRecX X w lo hi A c L) : L.length ≤ c := OwnS.cap h
theorem OwnRecX.nil_ : OwnRecX X w lo hi none 0 [] := OwnS.nil_
theorem OwnRecX.base {lo' hi' : Nat} (h : OwnRecX X w lo hi A c L) (h1 : lo' ≤ lo) (h2 : hi ≤ hi') : OwnRecX X w lo' hi' A c L := OwnS.base h h1 h2
theorem OwnRecX.to_RRecXT (h : OwnRecX X w lo hi A c L) : RRecXT X w A L := OwnS.to_RSlT h
theorem OwnRecX.to_RRecX (h : OwnRecX X w lo hi A c L) : RRecX X w A L := OwnS.to_RSl h
theorem OwnRecX.to_OwnRec (h : OwnRecX X w lo hi A c L) : OwnRec w lo hi A c L := by
  obtain ⟨xs, h1, h2⟩ := h
  exact ⟨xs, h1, fun i hi => (h2 i hi).1⟩
theorem OwnRecX.re {X' : Nat → Prop} (h : OwnRecX X w lo hi A c L) (hX : ∀ k, X k → X' k) : OwnRecX X' w lo hi A c L := by
  obtain ⟨xs, h1, h2⟩ := h
  exact ⟨xs, h1, fun i hi => ⟨(h2 i hi).1, fun A n c hm k hk => hX k ((h2 i hi).2 A n c hm k hk)⟩⟩
theorem OwnRecX.to_RRec (h : OwnRecX X w lo hi A c L) : RRec w A L := h.to_RRecX.to_RRec
theorem OwnRecX.row (h : OwnRecX X w lo hi A c L) : ∀ k, blk A = some k → lo ≤ k ∧ k < w.heap.size := by obtain ⟨xs, h1, _⟩ := h; exact RowH.lt h1
theorem gRecX_mk {k : UInt8} {p : By} (hX : ∀ k, blk A = some k → X k) (h : RdT w A p) (h1 : p.length ≤ c) (h2 : c ≤ maxLen) : (gRecX X).T w [.int .u8 (k.toNat : Int), .slice A p.length c] (k, p) :=
  ⟨gRec_mk h h1 h2, fun A' n' c' hm => by
    simp only [List.mem_cons, List.not_mem_nil, or_false, reduceCtorEq, false_or, Value.slice.injEq] at hm
    rw [hm.1]; exact hX⟩
theorem gRecX_one (w : World) (cs : List Value) (r : Rc) (h : (gRecX X).T w cs r) : ∀ u ∈ cs, u.oneCell' = true := gRec_one w cs r h.1
end
theorem Tryz.rowRec : RowT Tryz.prog 44 37 (.agg #[.int .u8 0, .slice none 0 0]) 2 32 := ⟨Tryz.underlying44, by kernel_rfl, rfl, by omega⟩
section
variable {fn : Func} {F : Ending → World → Prop} {N : Nat} {ks : List K} {ops : Array Oper} {tg : Tags} {l : List Oper} {fr : Fr} {w : World} {ty : TypeId} {pos : String} {aft : Array Edge} {gd : Option (Nat × Bool)} {d n j q c lo hi : Nat} {x y : Operand} {A B : Option Addr} {L M : List Rc}
--@ rule buildSlice l wl_litRec1
theorem wl_litRec1 {ps : Array (Nat × Operand)} {xs : List Operand} {A1 : Option Addr} {n1 c1 : Nat} {k1 : UInt8} {p1 : By} (hxs : ps.toList.map Prod.snd = xs) (hx : fr.evs xs = some [.agg #[.int .u8 (k1.toNat : Int), .slice A1 n1 c1]]) (h1 : RdT w A1 p1) (hn1 : n1 = p1.length) (hc1 : p1.length ≤ c1) (hm1 : c1 ≤ maxLen) (hps : ps = ((List.range' 0 1).zip xs).toArray)
    (hk : ∀ A w', OwnRec w' w.heap.size w'.heap.size A 1 [(k1, p1)] → Below w.heap.size w w' → WL Tryz.prog fn F N ks ops tg.tail l ((d, .slice A 1 1) :: fr) w')
    (ht : tg.loud = true := by rfl) (hg : onG ops fr gd = true := by rfl) (hd : Nat.blt d N = true := by rfl) : WL Tryz.prog fn F N ks ops tg (⟨some d, .buildSlice 44 1 ps, ty, pos, aft, gd⟩ :: l) fr w := by
  subst hn1
  refine wl_litS (X := gRec) (L := [(k1, p1)]) Tryz.rowRec Tryz.sizeOf37 Tryz.zeroValue37 hxs hps hx rfl rfl (fun i h => ?_) rfl hk ht hg hd
  obtain rfl : i = 0 := by simp at h; omega
  exact ⟨_, rfl, rfl, gRec_mk h1 hc1 hm1⟩
--@ rule append l wl_appRec
theorem wl_appRec (hx : fr.ev x = some (.slice A n c)) (hown : OwnRec w lo hi A c L) (hn : n = L.length) (hy : fr.ev y = some (.slice B j q)) (hr : RRecT w B M) (hj : j = M.length) (hlen : L.length + M.length ≤ 1000000) (hB : lo ≤ w.heap.size)
    (h : ∀ A' c' w', OwnRec w' lo w'.heap.size A' c' (L ++ M) → Grew w w' 37 (blk A) → Below lo w w' → WL Tryz.prog fn F N ks ops tg.tail l ((d, .slice A' (L ++ M).length c') :: fr) w')
    (ht : tg.loud = true := by rfl) (hg : onG ops fr gd = true := by rfl) (hd : Nat.blt d N = true := by rfl) (hq : tg.calm = false ∨ blk A = none ∨ blk A = tg.row := by exact .inl rfl) :
    WL Tryz.prog fn F N ks ops tg (⟨some d, .call { callee := .builtin .append, args := #[x, y], argTypes := #[44, 44] }, ty, pos, aft, gd⟩ :: l) fr w :=
  wl_appS (X := gRec) Tryz.rowRec hx hown hn hy hr hj (by simp [gRec, GoT.map, GoT.pair, gInt, GoT.flat, gBytes]) gRec_one (by have := Nat.mul_le_mul_right 32 hlen; omega) (by omega) hB (fun A' c' w' h1 h2 h3 _ => h A' c' w' h1 h2 h3) ht hg hd hq
--@ rule buildSlice l wl_litRecX
theorem wl_litRecX {X : Nat → Prop} {ps : Array (Nat × Operand)} {xs : List Operand} {A1 : Option Addr} {n1 c1 : Nat} {k1 : UInt8} {p1 : By} (hxs : ps.toList.map Prod.snd = xs) (hx : fr.evs xs = some [.agg #[.int .u8 (k1.toNat : Int), .slice A1 n1 c1]]) (hX : ∀ k, blk A1 = some k → X k) (h1 : RdT w A1 p1) (hn1 : n1 = p1.length) (hc1 : p1.length ≤ c1) (hm1 : c1 ≤ maxLen) (hps : ps = ((List.range' 0 1).zip xs).toArray)
    (hk : ∀ A w', OwnRecX X w' w.heap.size w'.heap.size A 1 [(k1, p1)] → Below w.heap.size w w' → WL Tryz.prog fn F N ks ops tg.tail l ((d, .slice A 1 1) :: fr) w')
    (ht : tg.loud = true := by rfl) (hg : onG ops fr gd = true := by rfl) (hd : Nat.blt d N = true := by rfl) : WL Tryz.prog fn F N ks ops tg (⟨some d, .buildSlice 44 1 ps, ty, pos, aft, gd⟩ :: l) fr w := by
  subst hn1
  refine wl_litS (X := gRecX X) (L := [(k1, p1)]) Tryz.rowRec Tryz.sizeOf37 Tryz.zeroValue37 hxs hps hx rfl rfl (fun i h => ?_) rfl hk ht hg hd
  obtain rfl : i = 0 := by simp at h; omega
  exact ⟨_, rfl, rfl, gRecX_mk hX h1 hc1 hm1⟩
--@ rule append l wl_appRecX
theorem wl_appRecX {X : Nat → Prop} (hx : fr.ev x = some (.slice A n c)) (hown : OwnRecX X w lo hi A c L) (hn : n = L.length) (hy : fr.ev y = some (.slice B j q)) (hr : RRecXT X w B M) (hj : j = M.length) (hlen : L.length + M.length ≤ 1000000) (hB : lo ≤ w.heap.size)
    (h : ∀ A' c' w', OwnRecX X w' lo w'.heap.size A' c' (L ++ M) → Grew w w' 37 (blk A) → Below lo w w' → WL Tryz.prog fn F N ks ops tg.tail l ((d, .slice A' (L ++ M).length c') :: fr) w')
    (ht : tg.loud = true := by rfl) (hg : onG ops fr gd = true := by rfl) (hd : Nat.blt d N = true := by rfl) (hq : tg.calm = false ∨ blk A = none ∨ blk A = tg.row := by exact .inl rfl) :
    WL Tryz.prog fn F N ks ops tg (⟨some d, .call { callee := .builtin .append, args := #[x, y], argTypes := #[44, 44] }, ty, pos, aft, gd⟩ :: l) fr w :=
  wl_appS (X := gRecX X) Tryz.rowRec hx hown hn hy hr hj (by simp [gRecX, gRec, GoT.map, GoT.pair, gInt, GoT.flat, gBytes]) gRecX_one (by have := Nat.mul_le_mul_right 32 hlen; omega) (by omega) hB (fun A' c' w' h1 h2 h3 _ => h A' c' w' h1 h2 h3) ht hg hd hq
end
--@ hide wl_litRec1
--@ hide wl_appRec
theorem C_each {c : By} {A : Option Addr} {n cap : Nat} (w : World) (hc : c.length = 32) :
    CallsR Tryz.prog 84 [.agg (B8 c).toArray, .slice A n cap] w fun v w' => ∃ g h, v = .func (.func 106) #[] #[.pointer (some ⟨g, 0, none⟩), .pointer (some ⟨h, 0, none⟩)] ∧ Blk w' g 64 (B8 c) ∧ Blk w' h 35 [.slice A n cap] ∧ h ≠ g ∧ w.heap.size ≤ g ∧ g < w'.heap.size ∧ g < h ∧ h < w'.heap.size ∧ Below w.heap.size w w' := by
  refine callsR Tryz.func84 rfl rfl (by kernel_rfl) rfl ?_
  have hw := Below.refl w.heap.size w
  refine rk_seq ?_
  refine rk_region ?_
  refine wl_boxg _ rfl (by rfl) ?_
  rintro g2 w2 f2 b2 i2 i2_1
  have s2 := b2.size
  replace hw := hw.trans (b2.mono hw.size)
  refine wl_boxg [_] rfl (by rfl) ?_
  rintro g3 w3 f3 b3 i3 i3_1
  have s3 := b3.size
  replace hw := hw.trans (b3.mono hw.size)
  replace f2 := f2.u b3
  refine wl_p (fun _ => o_assign rfl) ?_
  refine wl_nil ?_
  refine rk_seq ?_
  refine rk_region ?_
  refine wl_p (fun _ => o_makeFunc (xs := [.tmp 2, .tmp 3]) rfl) ?_
  refine wl_p (fun _ => o_assign rfl) ?_
  refine wl_nil ?_
  refine ret1 rfl rfl ?_
  exact ⟨_, _, rfl, f2, f3, by omega, by omega, by omega, by omega, by omega, hw⟩
theorem res_any {P : Program} {fn : Func} {N : Nat} {a : Act} {fr : Fr} {w : World} {rs : List ResultVar} {vs : List Value} (h : fn.results = rs.toArray) (ha : Rep N a fr) (hr : Res P fr w rs vs) (hn : vs.length ≠ 1) : (results fn a.tmps).run P w = .ok (.tuple vs.toArray) w := by
  have hrun := hr.run ha
  have h2 : (rs.toArray.mapM (resOf a)).run P w = .ok vs.toArray w := by
    rw [List.mapM_toArray, Sem.run_map, hrun]; rfl
  have e : results fn a.tmps = (do
      let vs ← rs.toArray.mapM (resOf a)
      pure (if h : vs.size = 1 then vs[0] else .tuple vs)) := by rw [← h]; rfl
  rw [e]
  simp only [Sem.run_bind, h2, Result.andThen_ok, Sem.run_pure]
  simp [hn]
theorem cMark_one (n : Int) (c : By) : ∀ v ∈ cMark n c, v.oneCell' = true := fun v hv => by
  rcases List.mem_cons.1 hv with rfl | hv
  · rfl
  · exact B8_oneCell c v hv
--@ side (cMark_one _ _)
--@ side (cMark_len (by assumption))
/-- Where All stands between the rounds. -/
structure AllI (w w1 : World) (g6 g7 g8 : Nat) (c : By) (pre : List Ev) (A' : Option Addr) (c' hiR : Nat) (W : World) : Prop where
  own : OwnRecX (fun k => w.heap.size ≤ k) W w1.heap.size hiR A' c' (pre.map Prod.fst)
  f7 : Blk W g7 44 [.slice A' pre.length c']
  f8 : Blk W g8 121 (cMark (lastE c pre).1 (lastE c pre).2)
  f6 : Blk W g6 64 (B8 nul32)
  last : (lastE c pre).2.length = 32
  hi : hiR ≤ W.heap.size
  lo : w1.heap.size ≤ hiR
  bel : Below w.heap.size w W
theorem ownRecX_noncell {B lo hi c : Nat} {W W' : World} {A : Option Addr} {l : List Rc} {row : Option Nat} {X : Nat → Prop} (h : OwnRecX X W lo hi A c l) (hg : W.grownBy W' row) (hr : ∀ r, row = some r → B ≤ r ∧ ∃ o : Obj, W.heap[r]? = some o ∧ o.isCells = false) : OwnRecX X W' lo hi A c l := by
  obtain ⟨xs, h1, h2⟩ := h
  refine ⟨xs, ⟨World.ownsRow.kept h1.o hg ?_, h1.hi⟩, fun i hi => ?_⟩
  · rw [blk_own]
    cases hA : blk A with
    | none => exact .inl rfl
    | some k =>
      refine .inr (fun ek => ?_)
      obtain ⟨_, o, ho, hc⟩ := hr k ek.symm
      obtain ⟨cs, f, hcs⟩ := RowH.ty h1 k hA
      rw [hcs] at ho
      injection ho with ho
      subst ho; cases hc
  · obtain ⟨⟨a, e, c1, c2, e2, h3, A1, n1, e3, h4, h5, h6⟩, hx⟩ := h2 i hi
    exact ⟨⟨a, e, c1, c2, e2, h3, A1, n1, e3, rdT_noncell h4 hg hr, h5, h6⟩, hx⟩
theorem AllI.non {w w1 W W' : World} {g6 g7 g8 c' hiR B : Nat} {c : By} {pre : List Ev} {A' : Option Addr} {row : Option Nat} (h : AllI w w1 g6 g7 g8 c pre A' c' hiR W) (hB : w.heap.size ≤ B) (hg : W.grownBy W' row) (hr : ∀ r, row = some r → B ≤ r ∧ ∃ o : Obj, W.heap[r]? = some o ∧ o.isCells = false) : AllI w w1 g6 g7 g8 c pre A' c' hiR W' :=
  ⟨ownRecX_noncell h.own hg hr, blk_noncell h.f7 hg hr, blk_noncell h.f8 hg hr, blk_noncell h.f6 hg hr, h.last, Nat.le_trans h.hi hg.size, h.lo, h.bel.grown hg h.bel.size (fun k e => by have := (hr k e).1; omega)⟩
set_option maxHeartbeats 1000000 in
theorem K_AllX {A : Option Addr} {b c : By} {n cap : Nat} (w : World) (hb : Rd w A b) (hn : n = b.length) (hcap : b.length ≤ cap) (hc : c.length = 32) (hl : b.length ≤ 400000) :
    CallsR Tryz.prog 54 [.agg (B8 c).toArray, .slice A n cap] w fun v w' => ∃ (L : List Rc) (A' : Option Addr) (c' : Nat), v = .tuple #[.slice A' L.length c', .int .i64 ((bytesAll c L).length : Int), .agg (B8 (chainAll c L)).toArray] ∧ AllP c b L ∧ OwnRecX (fun k => w.heap.size ≤ k) w' w.heap.size w'.heap.size A' c' L ∧ Below w.heap.size w w' := by
  subst hn
  refine ⟨⟨_, Tryz.func54, rfl, by kernel_rfl⟩, ?_⟩
  refine (callsIn_wide (n := 3)).1 (callsIn_of_wp_marks Tryz.func54 rfl trivial ?_)
  refine seq5_of_rk (fn := Tryz.f54) (I := fun a w' => ∃ g6 g7 g8 g h, Rep Tryz.f54.ntmps a [(15, .func (.func 106) #[] #[.pointer (some ⟨g, 0, none⟩), .pointer (some ⟨h, 0, none⟩)]), (8, .pointer (some ⟨g8, 0, none⟩)), (7, .pointer (some ⟨g7, 0, none⟩)), (6, .pointer (some ⟨g6, 0, none⟩))] ∧ Blk w' g 64 (B8 c) ∧ Blk w' h 35 [.slice A b.length cap] ∧ Blk w' g6 64 (B8 nul32) ∧ Blk w' g7 44 [.slice none 0 0] ∧ Blk w' g8 121 (cMark 0 c) ∧ h ≠ g ∧ w.heap.size ≤ g6 ∧ w.heap.size ≤ g7 ∧ w.heap.size ≤ g8 ∧ g6 < g ∧ g7 < g ∧ g8 < g ∧ g6 < g7 ∧ g7 < g8 ∧ h < w'.heap.size ∧ g < h ∧ Below w.heap.size w w') ?_ (entry_rep rfl) ?_
  · have hw := Below.refl w.heap.size w
    refine rk_region ?_
    refine wl_boxg _ rfl (by rfl) ?_
    rintro g2 w2 f2 b2 i2 i2_1
    have s2 := b2.size
    replace hw := hw.trans (b2.mono hw.size)
    refine wl_p (fun _ => o_assign rfl) ?_
    refine wl_p (fun _ => o_assign rfl) ?_
    refine wl_allocB Tryz.underlying64 Tryz.zeroValue64 (by rfl) ?_
    rintro g6 w6 f6 b6 i6 i6_1
    have s6 := b6.size
    replace hw := hw.trans (b6.mono hw.size)
    replace f2 := f2.u b6
    refine wl_nil ?_
    refine rk_region ?_
    refine wl_allocg [_] Tryz.zeroValue44 (by rfl) ?_
    rintro g7 w7 f7 b7 i7 i7_1
    have s7 := b7.size
    replace hw := hw.trans (b7.mono hw.size)
    replace f2 := f2.u b7
    replace f6 := f6.u b7
    refine wl_nil ?_
    refine rk_region ?_
    refine wl_r (o_ldBa Tryz.isAgg64 Tryz.sizeOf64 rfl f2 hc) ?_
    refine wl_p (fun _ => (o_buildMark rfl rfl hc)) ?_
    refine wl_allocg [_, _, _, _, _, _, _, _, _, _, _, _, _, _, _, _, _, _, _, _, _, _, _, _, _, _, _, _, _, _, _, _, _] Tryz.zeroValue121 (by rfl) ?_
    rintro g8 w8 f8 b8 i8 i8_1
    have s8 := b8.size
    replace hw := hw.trans (b8.mono hw.size)
    replace f6 := f6.u b8
    replace f2 := f2.u b8
    replace f7 := f7.u b8
    refine wl_storega Tryz.sizeOf121 rfl rfl (cMark_len (by assumption)) (cMark_one _ _) f8 (by rfl) ?_
    rintro w_1 f g e
    have s := g.size
    replace hw := hw.trans (below_of_grownBy g.g hw.size (by omega))
    replace f7 := f7.k g.g (ap_some (by omega))
    replace f2 := f2.k g.g (ap_some (by omega))
    replace f6 := f6.k g.g (ap_some (by omega))
    clear f8
    refine wl_nil ?_
    refine rk_region ?_
    refine wl_r (o_ldBa Tryz.isAgg64 Tryz.sizeOf64 rfl f2 hc) ?_
    refine wl_p (fun _ => o_move rfl) ?_
    refine wl_call rfl (C_each _ hc) ?_
    rintro v15 w15 ⟨g15, ⟨h15, ⟨rfl, ⟨f15, ⟨f15_1, ⟨i15, ⟨i15_1, ⟨i15_2, ⟨i15_3, ⟨i15_4, b15⟩⟩⟩⟩⟩⟩⟩⟩⟩⟩
    have s15 := b15.size
    replace hw := hw.trans (b15.mono hw.size)
    replace f6 := f6.u b15
    replace f2 := f2.u b15
    replace f7 := f7.u b15
    replace f := f.u b15
    refine wl_nil ?_
    refine rk_inv fun a ha => ?_
    exact ⟨g6, g7, g8, g15, h15, ha.le (Fr.le_of_sub (by repeat' constructor)), f15, f15_1, f6, f7, f, by assumption, by omega, by omega, by omega, by omega, by omega, by omega, by omega, by omega, by omega, by omega, hw⟩
  · rintro a1 w1 ⟨g6, g7, g8, g, h, ha, fg, fh, f6, f7, f8, hne, n6, n7, n8, m6, m7, m8, p67, p78, hhlt, hgh, hw⟩
    have hsw := hw.size
    have hglt := fg.lt
    have hAb : ∀ k, b ≠ [] → blk A = some k → k < w.heap.size := fun k hbne hk => by
      obtain ⟨b0, o, rfl, hcl⟩ := hb.2 (fun e => hbne (by cases b with | nil => rfl | cons x y => cases e))
      have hk' : b0 = k := by simpa [blk] using hk
      subst hk'
      cases b with
      | nil => exact absurd rfl hbne
      | cons x y => exact block_lt_of_cell (hcl 0 _ rfl)
    refine wpIn_block ?_
    refine wpIn_rangeC (α := Ev) (by decide) (gf := 106) (lb := #[.pointer (some ⟨g, 0, none⟩), .pointer (some ⟨h, 0, none⟩)]) (ha.ev rfl) (enters_of Tryz.func106 (by kernel_rfl) rfl)
      (each_seq w1 fg fh (hb.u hw) hcap hc hl hne (X := fun k => k = g7 ∨ k = g8) (by omega) (by intro e; rcases e with e | e <;> omega) (fun k h1 h2 => by have := hAb k h1 h2; omega)) (Below.refl _ _)
      (fun h k => h.trans k) (fun W l o hl => ⟨rfl, rfl, rfl, by simp, fun k hk _ => World.putObj_heap_other (by omega)⟩) (fun A B h => keeps_grew h) (fun _ => rfl)
      (fun pre W => ∃ A' c' hiR, AllI w w1 g6 g7 g8 c pre A' c' hiR W) ?cI ?cC ?cY ?c0 (fun pre x a' W => ∃ g9 g10 A' c' hiR, Rep Tryz.f54.ntmps a' [(10, .pointer (some ⟨g10, 0, none⟩)), (9, .pointer (some ⟨g9, 0, none⟩)), (8, .pointer (some ⟨g8, 0, none⟩)), (7, .pointer (some ⟨g7, 0, none⟩))] ∧ Blk W g9 37 [.int .u8 (x.1.1.toNat : Int), .slice x.2.1.1 x.1.2.length x.2.1.2] ∧ Blk W g10 121 (cMark x.2.2.1 x.2.2.2) ∧ AllI w w1 g6 g7 g8 c pre A' c' hiR W ∧ ydE w1.heap.size pre x W ∧ hiR ≤ g9 ∧ hiR ≤ g10) ?cA ?assign ?body ?done
    case cI => exact fun pre W W' row ⟨A', c', hiR, h⟩ hg hr => ⟨A', c', hiR, h.non hsw hg hr⟩
    case cC =>
      rintro pre W W' ⟨A', c', hiR, h⟩ hG
      have h1 := h.lo
      have h2 := hG.size
      have h3 := h.hi
      exact ⟨A', c', hiR, ⟨h.own.q hG (ap_some (by omega)) (by decide), h.f7.y hG (by decide), h.f8.y hG (by decide), h.f6.k hG.g (ap_some (by omega)), h.last, by omega, h.lo, h.bel.grown hG.g h.bel.size (fun k e => by injection e with e; omega)⟩⟩
    case cY => exact fun pre x W W' row h hg hr => ⟨rdT_noncell h.1 hg hr, h.2⟩
    case c0 => exact ⟨none, 0, w1.heap.size, ⟨OwnRecX.nil_, f7, f8, f6, hc, Nat.le_refl _, Nat.le_refl _, hw⟩⟩
    case cA =>
      rintro pre x a' s W W' row ⟨g9, g10, A', c', hiR, h1, h2, h3, h4, h5, h6, h7⟩ hg hr
      exact ⟨g9, g10, A', c', hiR, h1, blk_noncell h2 hg hr, blk_noncell h3 hg hr, h4.non hsw hg hr, ⟨rdT_noncell h5.1 hg hr, h5.2⟩, h6, h7⟩
    case assign =>
      rintro l pre x W hl ⟨A', c', hiR, hI⟩ hy
      have hi1 := hI.hi
      have hi2 := hI.lo
      have hmk : (cMark x.2.2.1 x.2.2.2).length = 33 := cMark_len hy.2.2.2.1
      have e : ({ tmps := (#[16, 17].zip (encE x)).foldl (fun t (p, v) => t.setIfInBounds p v) a1.tmps, defers := [] } : Act) = (a1.put (some 16) (.agg #[.int .u8 (x.1.1.toNat : Int), .slice x.2.1.1 x.1.2.length x.2.1.2])).put (some 17) (.agg (cMark x.2.2.1 x.2.2.2).toArray) := by
        simp [encE, Act.put, ha.defers]
      rw [e]
      have hrep : Rep Tryz.f54.ntmps ((a1.put (some 16) (.agg #[.int .u8 (x.1.1.toNat : Int), .slice x.2.1.1 x.1.2.length x.2.1.2])).put (some 17) (.agg (cMark x.2.2.1 x.2.2.2).toArray)) [(17, .agg (cMark x.2.2.1 x.2.2.2).toArray), (16, .agg #[.int .u8 (x.1.1.toNat : Int), .slice x.2.1.1 x.1.2.length x.2.1.2]), (8, .pointer (some ⟨g8, 0, none⟩)), (7, .pointer (some ⟨g7, 0, none⟩))] :=
        ((ha.put (d := 16) rfl _).put (d := 17) rfl _).le (Fr.le_of_sub (by repeat' constructor))
      refine wpIn_mono ((in_seq (I1 := fun a' W' => ∃ g9, Rep Tryz.f54.ntmps a' [(9, .pointer (some ⟨g9, 0, none⟩)), (17, .agg (cMark x.2.2.1 x.2.2.2).toArray), (8, .pointer (some ⟨g8, 0, none⟩)), (7, .pointer (some ⟨g7, 0, none⟩))] ∧ Blk W' g9 37 [.int .u8 (x.1.1.toNat : Int), .slice x.2.1.1 x.1.2.length x.2.1.2] ∧ W.heap.size ≤ g9 ∧ Below W.heap.size W W') (in_plain ?_) ?_ : RIn Tryz.prog Tryz.f54 Tryz.f54.ntmps (fun a' W' => ∃ g9 g10, Rep Tryz.f54.ntmps a' [(10, .pointer (some ⟨g10, 0, none⟩)), (9, .pointer (some ⟨g9, 0, none⟩)), (8, .pointer (some ⟨g8, 0, none⟩)), (7, .pointer (some ⟨g7, 0, none⟩))] ∧ Blk W' g9 37 [.int .u8 (x.1.1.toNat : Int), .slice x.2.1.1 x.1.2.length x.2.1.2] ∧ Blk W' g10 121 (cMark x.2.2.1 x.2.2.2) ∧ W.heap.size ≤ g9 ∧ W.heap.size ≤ g10 ∧ Below W.heap.size W W') l 1 _ _ W) _ hrep) (fun e a w he => ?_)
      · have hw := Below.refl W.heap.size W
        refine wl_allocg [_, _] Tryz.zeroValue37 (by rfl) ?_
        rintro g9 w9 f9 b9 i9 i9_1
        have s9 := b9.size
        replace hw := hw.trans (b9.mono hw.size)
        refine wl_storega Tryz.sizeOf37 rfl rfl (by rfl) (oneCell_of (by rfl)) f9 (by rfl) ?_
        rintro w_1 f g_1 e_1
        have s := g_1.size
        replace hw := hw.trans (below_of_grownBy g_1.g hw.size (by omega))
        clear f9
        refine wl_nil ?_
        refine rk_inv fun a ha => ?_
        exact ⟨g9, ha.le (Fr.le_of_sub (by repeat' constructor)), f, by omega, hw⟩
      · rintro a2 W2 ⟨g9, ha2, f9, hg9, hw⟩
        refine (in_plain ?_ : RIn _ _ _ _ _ _ _ _ _) a2 ha2
        have hws := hw.size
        refine wl_allocg [_, _, _, _, _, _, _, _, _, _, _, _, _, _, _, _, _, _, _, _, _, _, _, _, _, _, _, _, _, _, _, _, _] Tryz.zeroValue121 (by rfl) ?_
        rintro g10 w10 f10 b10 i10 i10_1
        have s10 := b10.size
        replace hw := hw.trans (b10.mono hw.size)
        replace f9 := f9.u b10
        refine wl_storega Tryz.sizeOf121 rfl rfl hmk (cMark_one _ _) f10 (by rfl) ?_
        rintro w_1 f g_1 e_1
        have s := g_1.size
        replace hw := hw.trans (below_of_grownBy g_1.g hw.size (by omega))
        replace f9 := f9.y g_1 (by decide)
        clear f10
        refine wl_nil ?_
        refine rk_inv fun a ha => ?_
        exact ⟨g9, g10, ha.le (Fr.le_of_sub (by repeat' constructor)), f9, f, by omega, by omega, hw⟩
      · obtain ⟨rfl, g9, g10, h1, h2, h3, h4, h5, hb2⟩ := kpost_inv he
        have hsb := hb2.size
        exact ⟨keeps_below hb2, KeepX.of (hb2.mono (by omega)), g9, g10, A', c', hiR, h1, h2, h3, ⟨hI.own.u hb2, hI.f7.u hb2, hI.f8.u hb2, hI.f6.u hb2, hI.last, by omega, hI.lo, hI.bel.trans (hb2.mono hI.bel.size)⟩, ⟨hy.1.u hb2, hy.2⟩, by omega, by omega⟩
    case body =>
      rintro l pre x a' W hl ⟨g9, g10, A', c', hiR, hrep, f9, f10, hI, hy, h9, h10⟩
      obtain ⟨⟨k, p⟩, ⟨Ax, cx⟩, nx, chx⟩ := x
      obtain ⟨hy1, hy2, hy3, hy4, hy5, hy6'⟩ := hy
      have hy6 : ∀ k, blk Ax = some k → w.heap.size ≤ k := fun k hk => Nat.le_trans hsw (hy6' k hk)
      clear hy6'
      simp only at f9 f10 hy1 hy2 hy3 hy4
      have hmk : (cMark nx chx).length = 33 := cMark_len hy4
      have hmk0 : (cMark (lastE c pre).1 (lastE c pre).2).length = 33 := cMark_len hI.last
      refine wpIn_block (wpIn_mono ((in_seq (I1 := fun a' W' => ∃ A2 c2, Rep Tryz.f54.ntmps a' [(10, .pointer (some ⟨g10, 0, none⟩)), (8, .pointer (some ⟨g8, 0, none⟩))] ∧ OwnRecX (fun k => w.heap.size ≤ k) W' w1.heap.size W'.heap.size A2 c2 ((pre.map Prod.fst) ++ [(k, p)]) ∧ Blk W' g7 44 [.slice A2 ((pre.map Prod.fst) ++ [(k, p)]).length c2] ∧ Blk W' g8 121 (cMark (lastE c pre).1 (lastE c pre).2) ∧ Blk W' g10 121 (cMark nx chx) ∧ Blk W' g6 64 (B8 nul32) ∧ Below w.heap.size w W' ∧ KeepsOthers W W' ∧ KeepX w1.heap.size (fun k => k = g7 ∨ k = g8) W W') (in_plain ?_) ?_ : RIn Tryz.prog Tryz.f54 Tryz.f54.ntmps (fun a' W' => ∃ A2 c2, OwnRecX (fun k => w.heap.size ≤ k) W' w1.heap.size W'.heap.size A2 c2 ((pre.map Prod.fst) ++ [(k, p)]) ∧ Blk W' g7 44 [.slice A2 ((pre.map Prod.fst) ++ [(k, p)]).length c2] ∧ Blk W' g8 121 (cMark nx chx) ∧ Blk W' g6 64 (B8 nul32) ∧ Below w.heap.size w W' ∧ KeepsOthers W W' ∧ KeepX w1.heap.size (fun k => k = g7 ∨ k = g8) W W') l 1 _ _ W) _ hrep) (fun e a w he => ?_))
      · have fo := hI.own
        have f7 := hI.f7
        have f8 := hI.f8
        have f6 := hI.f6
        have hi1 := hI.hi
        have hi2 := hI.lo
        have hw := hI.bel
        have hm1 : (pre.map Prod.fst).length = pre.length := List.length_map ..
        rw [← hm1] at f7 hy5
        have hlt : ∀ k, blk A' = some k → w1.heap.size ≤ k := fun k hk => by
          obtain ⟨xs, r1, _⟩ := fo
          exact (RowH.lt r1 k hk).1
        clear hI fg fh ha hb
        refine wl_r (o_loadbg Tryz.isAgg44 rfl f7 (by rfl)) ?_
        refine wl_r (o_loadag Tryz.isAgg37 Tryz.sizeOf37 rfl f9 (by rfl)) ?_
        refine wl_litRecX (by rfl) rfl (by omega) hy1 rfl (by omega) (by omega) (by rfl) ?_
        rintro A20 w20 f20 b20
        have qf20 := f20.cap
        have s20 := b20.size
        replace hw := hw.trans (b20.mono hw.size)
        replace f6 := f6.u b20
        replace f8 := f8.u b20
        replace f7 := f7.u b20
        replace fo := fo.u b20
        replace hy1 := hy1.u b20
        replace f10 := f10.u b20
        replace f9 := f9.u b20
        refine wl_appRecX rfl fo rfl rfl f20.to_RRecXT (by rfl) (by omega) (by omega) ?_
        rintro A21 c21 w21 f21 g21 b21
        have qf21 := f21.cap
        have s21 := g21.size
        replace hw := hw.trans (b21.mono (by omega))
        replace f9 := f9.k g21.g (fo.ap (by omega))
        replace f10 := f10.y g21 (by decide)
        replace hy1 := hy1.y g21 (by decide)
        replace f7 := f7.y g21 (by decide)
        replace f8 := f8.y g21 (by decide)
        replace f6 := f6.y g21 (by decide)
        replace f20 := f20.q g21 (fo.ap (by omega)) (by decide)
        clear fo
        refine wl_storeg1 Tryz.sizeOf44 rfl rfl (by rfl) f7 (by simp) ?_
        rintro w_1 f g_1 e
        have s := g_1.size
        replace hw := hw.trans (below_of_grownBy g_1.g hw.size (by omega))
        replace f20 := f20.y g_1 (by decide)
        replace f6 := f6.k g_1.g (ap_some (by omega))
        replace f8 := f8.k g_1.g (ap_some (by omega))
        replace hy1 := hy1.y g_1 (by decide)
        replace f10 := f10.k g_1.g (ap_some (by omega))
        replace f9 := f9.k g_1.g (ap_some (by omega))
        replace f21 := f21.y g_1 (by decide)
        clear f7
        refine wl_nil ?_
        have q1 : Below W.heap.size W w20 := by assumption
        have q2 : Grew w20 w21 37 (blk A') := by assumption
        have q3 : Grew w21 w_1 44 (some g7) := by assumption
        have s1 := q1.size
        have s2 := q2.size
        have s3 := q3.size
        refine rk_inv fun a ha => ?_
        exact ⟨A21, c21, ha.le (Fr.le_of_sub (by repeat' constructor)), f21.base (Nat.le_refl _) (by omega), f, f8, f10, f6, hw, (keeps_below q1).trans ((keeps_grew q2).trans (keeps_grew q3)),
          (KeepX.of (q1.mono (by omega))).trans ((KeepX.of (q2.below (by omega) hlt)).trans (KeepX.grown q3.g (by omega) (fun k e => by injection e with e; exact .inl e.symm)))⟩
      · rintro a2 W2 ⟨A2, c2, ha2, f21, f7, f8, f10, f6, hw, hko, hkx⟩
        refine (in_plain ?_ : RIn _ _ _ _ _ _ _ _ _) a2 ha2
        have hi2 := hI.lo
        have hi1 := hI.hi
        have hks := hko.size
        clear hI fg fh ha hb
        refine wl_r (o_loadag Tryz.isAgg121 Tryz.sizeOf121 rfl f10 hmk) ?_
        refine wl_storega Tryz.sizeOf121 rfl rfl hmk (cMark_one _ _) f8 hmk0 ?_
        rintro w_1 f g_1 e
        have s := g_1.size
        replace hw := hw.trans (below_of_grownBy g_1.g hw.size (by omega))
        replace f6 := f6.k g_1.g (ap_some (by omega))
        replace f10 := f10.k g_1.g (ap_some (by omega))
        replace f7 := f7.k g_1.g (ap_some (by omega))
        replace f21 := f21.y g_1 (by decide)
        clear f8
        refine wl_nil ?_
        have q3 : Grew W2 w_1 121 (some g8) := by assumption
        have s3 := q3.size
        refine rk_inv fun a ha => ?_
        exact ⟨A2, c2, f21.base (Nat.le_refl _) (by omega), f7, f, f6, hw, hko.trans (keeps_grew q3), hkx.trans (KeepX.grown q3.g (by omega) (fun k e => by injection e with e; exact .inr e.symm))⟩
      · obtain ⟨rfl, A2, c2, h1, h2, h3, h4, h5, h6, h7⟩ := kpost_inv he
        have hks := h6.size
        have hi2 := hI.lo
        have hi1 := hI.hi
        have e1 : (pre ++ [((k, p), (Ax, cx), (nx, chx))]).map Prod.fst = pre.map Prod.fst ++ [(k, p)] := by simp
        have e2 : (pre ++ [((k, p), (Ax, cx), (nx, chx))]).length = (pre.map Prod.fst ++ [(k, p)]).length := by simp
        exact ⟨rfl, h6, h7, A2, c2, _, ⟨by rw [e1]; exact h1, by rw [e2]; exact h2, by rw [lastE_snoc]; exact h3, h4, by rw [lastE_snoc]; exact hy4, by omega, by omega, h5⟩⟩
    case done =>
      rintro D xs W hD ⟨hAll, hlast⟩ ⟨A', c', hiR, hI⟩ hKD
      obtain ⟨L, hL⟩ : ∃ L, xs.map Prod.fst = L := ⟨_, rfl⟩
      have fo := hI.own
      clear f6 f7 f8
      have f7 := hI.f7
      have f8 := hI.f8
      have f6 := hI.f6
      have hi1 := hI.hi
      have hi2 := hI.lo
      have hw2 := hI.bel
      have hla := hI.last
      rw [hL] at fo hAll hlast
      rw [hlast] at f8 hla
      have hxl : xs.length = L.length := by rw [← hL, List.length_map]
      rw [hxl] at f7
      obtain ⟨nb, hnb⟩ : ∃ nb, (bytesAll c L).length = nb := ⟨_, rfl⟩
      obtain ⟨ch, hch⟩ : ∃ ch, chainAll c L = ch := ⟨_, rfl⟩
      simp only at f8 hla
      rw [hnb, hch] at f8
      rw [hch] at hla
      have hDs : D < W.heap.size := (Array.getElem?_eq_some_iff.1 hKD).1
      show Code.wpIn Fence.wide 3 Tryz.prog _ _ { a1 with defers := _ :: a1.defers } W
      rw [dd_of ha.defers]
      refine wpIn_seq (wpIn_mono ((?_ : RInD Tryz.prog Tryz.f54 Tryz.f54.ntmps (fun a2 W' => Rep Tryz.f54.ntmps a2 [(6, .pointer (some ⟨g6, 0, none⟩)), (5, .int .i64 (nb : Int)), (4, .slice A' L.length c')] ∧ Blk W' g6 64 (B8 ch) ∧ OwnRecX (fun k => w.heap.size ≤ k) W' w1.heap.size hiR A' c' L ∧ Below w.heap.size w W' ∧ KeepsOthers W W') _ 3 _ _ W) _ ha) (fun e a' w' he => ?_))
      · clear hI fg fh ha hb hw
        have hw := hw2
        have hmk : (cMark nb ch).length = 33 := cMark_len hla
        refine ind_draw (id := 8) (none) [0, 0, 2, 0, 8, 1, 39, 127] [0, 0, 2, 0, 8, 1, 39, 127] 128 0 [(.r, 0), (.p, 1), (.r, 2), (.p, 3), (.r, 4), (.p, 5), (.p, 6), (.l, 7)] (by kernel_rfl) (by kernel_rfl) (by kernel_rfl) (by kernel_rfl) (by kernel_rfl) ?_
        replace fo := fo.d
        replace f7 := f7.d
        replace f8 := f8.d
        replace f6 := f6.d
        replace hw := hw.drew
        have hcut : ((cMark nb ch).drop (0 + 1)).take 32 = B8 ch := by
          show (B8 ch).take 32 = B8 ch
          rw [List.take_of_length_le (by rw [B8_length, hla]; exact Nat.le_refl _)]
        have hB32 : (B8 ch).length = 32 := by rw [B8_length, hla]
        refine wl_r (o_loadbg Tryz.isAgg44 rfl f7 (by rfl)) ?_
        refine wl_p (fun _ => o_faddr (s := 121) (i := 0) (off := 0) Tryz.underlying121 rfl Tryz.sizeOf3 rfl rfl rfl) ?_
        refine wl_r (o_loadbg Tryz.isAgg3 rfl f8 (by rfl)) ?_
        refine wl_p (fun _ => o_faddr (s := 121) (i := 1) (off := 1) Tryz.underlying121 rfl Tryz.sizeOf64 rfl rfl rfl) ?_
        refine wl_r (o_loadCut Tryz.isAgg64 Tryz.sizeOf64 rfl f8 hcut hB32) ?_
        refine wl_p (fun _ => o_assign rfl) ?_
        refine wl_p (fun _ => o_assign rfl) ?_
        refine wl_stBa Tryz.sizeOf64 rfl f6 rfl hla (by rfl) ?_
        rintro w_1 f g_1 e
        simp only [drew_size] at e
        have s := g_1.size
        simp only [drew_size] at s
        replace hw := hw.trans (below_of_grownBy g_1.g hw.size (by omega))
        replace f8 := f8.k g_1.g (ap_some (by omega))
        replace f7 := f7.k g_1.g (ap_some (by omega))
        replace fo := fo.y g_1 (by decide)
        clear f6
        refine wl_nild ?_
        have q3 : Grew W.drew w_1 64 (some g6) := by assumption
        refine rk_inv fun a ha => ?_
        exact ⟨ha.le (Fr.le_of_sub (by repeat' constructor)), f, fo, hw, (KeepsOthers.drew W).trans (keeps_grew q3)⟩
      · obtain ⟨a2, rfl, rfl, ha2, hB, hO, hb2, hk2⟩ := he
        have hKD2 := hk2.same _ _ hKD rfl
        have hks := hk2.size
        refine wpIn_ret ?_
        show LeavesInM Fence.wide 3 Tryz.prog _ a2.tmps _ (a2.defers ++ [_]) .returning w'
        rw [ha2.defers]
        refine ⟨by simp, .inl ⟨D, _, rfl, run_takeDeferred hKD2, ?_⟩⟩
        have hg := grownBy_putObj' w' D (.deferred none)
        have hr : ∀ r, (some D : Option Nat) = some r → D ≤ r ∧ ∃ o : Obj, w'.heap[r]? = some o ∧ o.isCells = false := fun r e => by cases e; exact ⟨Nat.le_refl _, _, hKD2, rfl⟩
        have hB2 := blk_noncell hB hg hr
        have hO2 := ownRecX_noncell hO hg hr
        have hsz := hg.size
        have hw3 := hb2.grown hg hb2.size (fun k e => by injection e with e; omega)
        have hres := res_any (P := Tryz.prog) (fn := Tryz.f54) (rs := [.tmp 4, .tmp 5, .cell 6 64]) rfl ha2 (.tmp rfl (.tmp rfl (.cell rfl Tryz.isAgg64 Tryz.sizeOf64 hB2 (by rw [B8_length, hla]) .nil))) (by simp)
        refine ⟨_, hres, _, rfl, L, A', c', ?_, hAll, hO2.base (by omega) (by omega), hw3⟩
        rw [hnb, hch]
theorem C_AllR {A : Option Addr} {b c : By} {n cap : Nat} (w : World) (hb : Rd w A b) (hn : n = b.length) (hcap : b.length ≤ cap) (hc : c.length = 32) (hl : b.length ≤ 400000) :
    CallsR Tryz.prog 54 [.agg (B8 c).toArray, .slice A n cap] w fun v w' => ∃ (L : List Rc) (A' : Option Addr) (c' : Nat), v = .tuple #[.slice A' L.length c', .int .i64 ((bytesAll c L).length : Int), .agg (B8 (chainAll c L)).toArray] ∧ AllP c b L ∧ OwnRec w' w.heap.size w'.heap.size A' c' L ∧ Below w.heap.size w w' := by
  refine (K_AllX w hb hn hcap hc hl).mono ?_
  rintro v w' ⟨L, A', c', h1, h2, h3, h4⟩
  exact ⟨L, A', c', h1, h2, h3.to_OwnRec, h4⟩
end Go.Proofs.YtnnhenafhalobaaGreat
/-
  Lists of records: whether they are light, whether they are the same, parts of them.
-/
namespace Go.Proofs.YtnnhenafhalobaaGreat
set_option maxRecDepth 100000
open Go.RowKit
theorem RSl.drop {α : Type} {X : GoT α} {w : World} {A : Option Addr} {L : List α} (h : RSl X w A L) {k cap : Nat} (hk : k ≤ L.length) (hc : L.length ≤ cap) : RSl X w (cutA A cap X.sz k) (L.drop k) := by
  obtain ⟨xs, h1, h2⟩ := h
  refine ⟨xs.drop (k * X.sz), by rw [List.length_drop]; exact h1.cutn hk hc rfl, fun i hi => ?_⟩
  rw [List.length_drop] at hi
  rw [part_drop, List.getElem_drop]
  exact h2 (k + i) (by omega)
section
variable {fn : Func} {F : Ending → World → Prop} {N : Nat} {ks : List K} {ops : Array Oper} {tg : Tags} {l : List Oper} {fr : Fr} {w w0 : World} {ty : TypeId} {pos : String} {aft : Array Edge} {gd : Option (Nat × Bool)} {d j : Nat} {x y : Operand} {A : Option Addr} {L : List Rc}
--@ rule load l wl_ldRec
theorem wl_ldRec (hx : fr.ev x = some (.pointer (some (adr A (j * 2))))) (hr : RRec w0 A L) (hb : Below w0.heap.size w0 w) (hj : j < L.length)
    (hk : ∀ A1 c1, Rd w0 A1 L[j].2 → L[j].2.length ≤ c1 → c1 ≤ maxLen → WL Tryz.prog fn F N ks ops tg.tail l ((d, .agg #[.int .u8 (L[j].1.toNat : Int), .slice A1 L[j].2.length c1]) :: fr) w)
    (ht : tg.reads = true := by rfl) (hg : onG ops fr gd = true := by rfl) (hd : Nat.blt d N = true := by rfl) : WL Tryz.prog fn F N ks ops tg (⟨some d, .load 37 x, ty, pos, aft, gd⟩ :: l) fr w := by
  obtain ⟨A1, c1, h1, h2, h3, h4⟩ := hr.elem hj
  refine wl_r (o_loadn (cs := [.int .u8 (L[j].1.toNat : Int), .slice A1 L[j].2.length c1]) Tryz.isAgg37 Tryz.sizeOf37 hx (fun i u hu => ?_)) (hk A1 c1 h2 h3 h4) ht hg hd
  rw [adr_add]
  exact h1.u hb i u hu
--@ rule load l wl_ldRecD
theorem wl_ldRecD (hx : fr.ev x = some (.pointer (some (adr A (j * 2 + 1))))) (hr : RRec w0 A L) (hb : Below w0.heap.size w0 w) (hj : j < L.length)
    (hk : ∀ A1 c1, Rd w0 A1 L[j].2 → L[j].2.length ≤ c1 → c1 ≤ maxLen → WL Tryz.prog fn F N ks ops tg.tail l ((d, .slice A1 L[j].2.length c1) :: fr) w)
    (ht : tg.reads = true := by rfl) (hg : onG ops fr gd = true := by rfl) (hd : Nat.blt d N = true := by rfl) : WL Tryz.prog fn F N ks ops tg (⟨some d, .load 35 x, ty, pos, aft, gd⟩ :: l) fr w := by
  obtain ⟨A1, c1, h1, h2, h3, h4⟩ := hr.elem hj
  exact wl_r (o_load (t := 35) Tryz.isAgg35 hx (h1.u hb 1 _ rfl)) (hk A1 c1 h2 h3 h4) ht hg hd
end
set_option maxRecDepth 100000 in
theorem C_kRecs {A B : Option Addr} {a b : List Rc} {n m c d : Nat} (w : World) (hA : RRec w A a) (hB : RRec w B b) (hn : n = a.length) (hm : m = b.length) (hl : a.length ≤ 4000000000) (hl2 : b.length ≤ 4000000000) :
    CallsR Tryz.prog 23 [.slice A n c, .slice B m d] w fun v w' => v = .bool (decide (a = b)) ∧ Below w.heap.size w w' := by
  subst hn; subst hm
  refine callsR Tryz.func23 rfl rfl (by kernel_rfl) rfl ?_
  have hw := Below.refl w.heap.size w
  refine rk_seq ?_
  refine rk_region ?_
  refine wl_p (fun _ => o_assign rfl) ?_
  refine wl_nil ?_
  refine rk_seq ?_
  refine rk_seq ?_
  refine rk_region ?_
  refine wl_p (fun _ => o_move rfl) ?_
  refine wl_p (fun _ => o_len (t := 44) Tryz.underlying44 rfl) ?_
  refine wl_p (fun _ => o_move rfl) ?_
  refine wl_p (fun _ => o_len (t := 44) Tryz.underlying44 rfl) ?_
  refine wl_p (fun _ => o_ne rfl rfl) ?_
  refine wl_nil ?_
  refine rk_if rfl (fun h10 => ?_) (fun h10 => ?_)
  · refine rk_seq ?_
    refine rk_region ?_
    refine wl_p (fun _ => o_assign rfl) ?_
    refine wl_nil ?_
    refine ret1 rfl rfl ?_
    exact ⟨by rw [decide_eq_false (fun e => by rw [e] at h10; omega)], hw⟩
  · refine rk_skip ?_
    refine rk_seq ?_
    refine rk_seq ?_
    refine rk_region ?_
    refine wl_p (fun _ => o_assign rfl) ?_
    refine wl_nil ?_
    refine rk_block ?_
    refine rk_joinf (fun fb fr w2 => fr = [] ++ fb.drop 1 ∧ a = b ∧ Below w.heap.size w w2) ?_ (fun ks hj => ?_)
    rotate_left
    · refine rk_loopf (fun fb k fr w2 => ∃ (i : Nat) (v : Int), fr = [(5, .int .i64 v)] ++ fb.drop 1 ∧ v = i ∧ i ≤ a.length ∧ k = a.length - i ∧ a.take i = b.take i ∧ Below w.heap.size w w2) (n := a.length) (Fr.le_of (by kernel_rfl) (by kernel_rfl) (by repeat' constructor)) ⟨0, _, rfl, rfl, by omega, rfl, rfl, hw⟩ ?_
      clear hw
      rintro k fr w2 ⟨i, v, rfl, rfl, hi, rfl, heq, hw⟩
      first | refine rk_frame (by simp only [List.cons_append, List.nil_append, List.drop_succ_cons, List.drop_zero]; rfl) ?_ | refine wl_frame (by simp only [List.cons_append, List.nil_append, List.drop_succ_cons, List.drop_zero]; rfl) ?_
      refine rk_seq ?_
      refine rk_seq ?_
      refine rk_region ?_
      refine wl_p (fun _ => o_move rfl) ?_
      refine wl_p (fun _ => o_move rfl) ?_
      refine wl_p (fun _ => o_len (t := 44) Tryz.underlying44 rfl) ?_
      refine wl_p (fun _ => o_lt rfl rfl) ?_
      refine wl_nil ?_
      refine rk_if rfl (fun h14 => ?_) (fun h14 => ?_)
      · have h1 : i < a.length := by omega
        have h2 : i < b.length := by omega
        refine rk_skip ?_
        refine rk_seq ?_
        refine rk_block ?_
        refine rk_seq ?_
        refine rk_draw (id := 6) (none) [0, 0, 3, 4, 0, 0, 48, 64, 136, 256] [0, 0, 3, 7, 0, 0, 48, 112, 255, 511] 256 0 [(.p, 0), (.p, 1), (.p, 2), (.r, 3), (.p, 4), (.p, 5), (.p, 6), (.r, 7), (.l, 8), (.p, 9)] (by kernel_rfl) (by kernel_rfl) (by kernel_rfl) (by kernel_rfl) (by kernel_rfl) ?_
        replace hw := hw.drew
        refine wl_p (fun _ => o_move rfl) ?_
        refine wl_p (fun _ => o_move rfl) ?_
        refine wl_p (fun _ => (o_iaddrA (i) Tryz.underlying44 Tryz.sizeOf37 rfl rfl rfl (hA.some_ (by omega)) (by omega))) ?_
        refine wl_ldRec rfl hA hw (by omega) ?_
        rintro A120 c120 f20 i20 i20_1
        refine wl_p (fun _ => o_move rfl) ?_
        refine wl_p (fun _ => o_move rfl) ?_
        refine wl_p (fun _ => (o_iaddrA (i) Tryz.underlying44 Tryz.sizeOf37 rfl rfl rfl (hB.some_ (by omega)) (by omega))) ?_
        refine wl_ldRec rfl hB hw (by omega) ?_
        rintro A124 c124 f24 i24 i24_1
        refine wl_call rfl (C_kRecZ _ (by rfl) (by rfl) (f20.u hw) (f24.u hw) rfl rfl) ?_
        rintro v25 w25 ⟨rfl, b25⟩
        simp only [drew_size] at b25
        have s25 := b25.size
        simp only [drew_size] at s25
        replace hw := hw.trans (b25.mono hw.size)
        refine wl_p (fun _ => o_not rfl) ?_
        refine wl_nild ?_
        refine rk_cond rfl (fun h26 => ?_) (fun h26 => ?_) <;> try simp only [decide_eq_true_eq, decide_eq_false_iff_not, Bool.not_eq_true', Bool.not_eq_false', Bool.and_eq_true, Bool.and_eq_false_iff, Bool.or_eq_true, Bool.or_eq_false_iff] at h26
        · refine rk_seq ?_
          refine rk_region ?_
          refine wl_p (fun _ => o_assign rfl) ?_
          refine wl_nil ?_
          refine ret1 rfl rfl ?_
          exact ⟨by rw [decide_eq_false (fun e => by subst e; simp at h26)], hw⟩
        · refine rk_skip ?_
          refine rk_blk ?_
          refine rk_region ?_
          refine wl_p (fun _ => o_move rfl) ?_
          refine wl_p (fun _ => o_add rfl rfl (by omega) (by omega)) ?_
          refine wl_p (fun _ => o_assign rfl) ?_
          refine wl_nil ?_
          exact rk_againf (Fr.le_of (by kernel_rfl) (by kernel_rfl) (by repeat' constructor)) ⟨i + 1, (i : Int) + 1, rfl, by omega, by omega, rfl, by rw [List.take_succ_eq_append_getElem h1, List.take_succ_eq_append_getElem h2, heq]; simp at h26; rw [show a[i] = b[i] from Prod.ext h26.1 h26.2], hw⟩ (by omega)
      · refine rk_exit rfl ?_
        obtain rfl : i = a.length := by omega
        have e : a = b := by
          rw [List.take_length] at heq
          rw [heq]; exact List.take_of_length_le (by omega)
        exact rk_tof hj (Fr.le_of (by kernel_rfl) (by kernel_rfl) (by repeat' constructor)) ⟨rfl, e, hw⟩
    clear hw
    rintro fr w2 ⟨rfl, e, hw⟩
    first | refine rk_frame (by simp only [List.cons_append, List.nil_append, List.drop_succ_cons, List.drop_zero]; rfl) ?_ | refine wl_frame (by simp only [List.cons_append, List.nil_append, List.drop_succ_cons, List.drop_zero]; rfl) ?_
    refine rk_seq ?_
    refine rk_region ?_
    refine wl_p (fun _ => o_assign rfl) ?_
    refine wl_nil ?_
    refine ret1 rfl rfl ?_
    exact ⟨by rw [decide_eq_true e], hw⟩
end Go.Proofs.YtnnhenafhalobaaGreat
/-
  The statement RecordParts: its walk.
-/
namespace Go.Proofs.YtnnhenafhalobaaGreat
set_option maxRecDepth 100000
open Go.RowKit
/-- The records that can be read one after the other. -/
noncomputable def allR (c b : By) : List Rc := by
  classical
  exact if h : ∃ L, AllP c b L then h.choose else []
theorem AllP.eq {c b : By} {L : List Rc} (h : AllP c b L) : allR c b = L := by
  unfold allR
  rw [dif_pos ⟨L, h⟩]
  exact AllP.uniq (Exists.choose_spec (⟨L, h⟩ : ∃ L, AllP c b L)) h
theorem AllP.ex (c b : By) : ∃ L, AllP c b L := by
  have key : ∀ (n : Nat) (c b : By), b.length ≤ n → ∃ L, AllP c b L := by
    intro n
    induction n with
    | zero =>
      intro c b h
      obtain rfl : b = [] := List.length_eq_zero_iff.1 (by omega)
      exact ⟨[], [], rfl, by simp, by rw [chainAll, readR_nil]; simp⟩
    | succ n ih =>
      intro c b h
      by_cases he : (readR c b).2.2.2 = 0
      · obtain ⟨⟨r, z, x, e⟩, hr⟩ : ∃ s, readR c b = s := ⟨_, rfl⟩
        rw [hr] at he
        simp only at he
        subst he
        obtain ⟨h1, h2, h3, q, h4⟩ := readR_back hr
        have hl := congrArg List.length h4
        rw [List.length_append, bytesR_len] at hl
        obtain ⟨L, p, k1, k2, k3⟩ := ih x q (by omega)
        refine ⟨r :: L, p, ?_, fun y hy => ?_, ?_⟩
        · rw [h4, bytesAll, ← h3, List.append_assoc, ← k1]
        · rcases List.mem_cons.1 hy with e | e
          · subst e; exact h1
          · exact k2 y e
        · rw [chainAll, ← h3]; exact k3
      · exact ⟨[], b, rfl, by simp, he⟩
  exact key _ c b (Nat.le_refl _)
theorem AllP.fun {c b : By} : AllP c b (allR c b) := by
  obtain ⟨L, h⟩ := AllP.ex c b
  rw [h.eq]; exact h
theorem C_AllN {A : Option Addr} {b c ch : By} {L : List Rc} {n nb cap : Nat} (w : World) (hr : allR c b = L) (h1 : (bytesAll c L).length = nb) (h2 : chainAll c L = ch) (hb : Rd w A b) (hn : n = b.length) (hcap : b.length ≤ cap) (hc : c.length = 32) (hl : b.length ≤ 400000) :
    CallsR Tryz.prog 54 [.agg (B8 c).toArray, .slice A n cap] w fun v w' => ∃ (A' : Option Addr) (c' : Nat), v = .tuple #[.slice A' L.length c', .int .i64 (nb : Int), .agg (B8 ch).toArray] ∧ OwnRec w' w.heap.size w'.heap.size A' c' L ∧ Below w.heap.size w w' := by
  refine (C_AllR w hb hn hcap hc hl).mono ?_
  rintro v w' ⟨L', A', c', rfl, hA, hO, hw⟩
  obtain rfl : L = L' := by rw [← hr]; exact hA.eq
  rw [h1, h2]
  exact ⟨A', c', rfl, hO, hw⟩
theorem C_SizeOk {k : UInt8} {x : Int} {A : Option Addr} {p : By} {n c z : Nat} (w : World) (hp : Rd w A p) (hk : x = (k.toNat : Int)) (hz : (bodyB (k, p)).length + 8 = z) (hO : OkR (k, p)) (hn : n = p.length) (hl : p.length ≤ 10000) :
    CallsR Tryz.prog 57 [.agg #[.int .u8 x, .slice A n c]] w fun v w' => v = .int .i64 (z : Int) ∧ Below w.heap.size w w' := by
  refine (C_SizeZ w hk hn hl hp).mono ?_
  rintro v w' ⟨rfl, h⟩
  rw [if_pos hO]
  exact ⟨by rw [← hz]; simp, h⟩
end Go.Proofs.YtnnhenafhalobaaGreat
/-
  Walks of package journal: a journal as it lies in memory; what is made, sectors, heads.
-/
namespace Go.Proofs.YtnnhenafhalobaaGreat
set_option maxRecDepth 100000
open Go.RowKit
abbrev D32 := { l : List UInt8 // l.length = 32 }
theorem d32_cases (u : D32) (p : D32 → Prop) (h : ∀ b0 b1 b2 b3 b4 b5 b6 b7 b8 b9 b10 b11 b12 b13 b14 b15 b16 b17 b18 b19 b20 b21 b22 b23 b24 b25 b26 b27 b28 b29 b30 b31 : UInt8, p ⟨[b0, b1, b2, b3, b4, b5, b6, b7, b8, b9, b10, b11, b12, b13, b14, b15, b16, b17, b18, b19, b20, b21, b22, b23, b24, b25, b26, b27, b28, b29, b30, b31], rfl⟩) : p u := by
  obtain ⟨l, hl⟩ := u
  match l, hl with
  | [b0, b1, b2, b3, b4, b5, b6, b7, b8, b9, b10, b11, b12, b13, b14, b15, b16, b17, b18, b19, b20, b21, b22, b23, b24, b25, b26, b27, b28, b29, b30, b31], _ => exact h ..
/-- A journal's cells. -/
def jC (J d : Option Addr) (a : Int) (e : Nat) (L : Option Addr) (n c : Nat) (t : Int) (ch : By) (k s : Int) : List Value := [.pointer J, .pointer d, .int .i64 a, .int .u64 (e : Int), .slice L n c, .int .i64 t] ++ (B8 ch ++ [.int .i64 k, .int .i64 s])
section
variable {J d L : Option Addr} {a t k s t' k' s' : Int} {e n c : Nat} {ch ch' : By}
theorem jC_length (h : ch.length = 32) : (jC J d a e L n c t ch k s).length = 40 := by simp [jC, B8_length, h]
theorem jC_one : ∀ v ∈ jC J d a e L n c t ch k s, v.oneCell' = true := by
  intro v hv
  simp only [jC, List.cons_append, List.nil_append, List.mem_cons, List.mem_append, List.not_mem_nil, or_false] at hv
  rcases hv with rfl | rfl | rfl | rfl | rfl | rfl | hv | rfl | rfl
  all_goals first | rfl | exact B8_oneCell _ _ hv
theorem jC_ch (h : ch.length = 32) : ((jC J d a e L n c t ch k s).drop (0 + 6)).take 32 = B8 ch := by
  show (B8 ch ++ _).take 32 = _
  rw [List.take_left' (by rw [B8_length, h])]
theorem jC_k (h : ch.length = 32) : (jC J d a e L n c t ch k s)[0 + 38]? = some (.int .i64 k) := by
  show (B8 ch ++ [Value.int .i64 k, .int .i64 s])[32]? = _
  rw [List.getElem?_append_right (by rw [B8_length, h]; omega), B8_length, h]; rfl
theorem jC_setk (h : ch.length = 32) : (jC J d a e L n c t ch k s).set 38 (.int .i64 k') = jC J d a e L n c t ch k' s := by
  show _ :: _ :: _ :: _ :: _ :: _ :: (B8 ch ++ [Value.int .i64 k, .int .i64 s]).set 32 _ = _
  rw [List.set_append_right _ _ (by rw [B8_length, h]; omega), B8_length, h]; rfl
theorem jC_sets (h : ch.length = 32) : (jC J d a e L n c t ch k s).set 39 (.int .i64 s') = jC J d a e L n c t ch k s' := by
  show _ :: _ :: _ :: _ :: _ :: _ :: (B8 ch ++ [Value.int .i64 k, .int .i64 s]).set 33 _ = _
  rw [List.set_append_right _ _ (by rw [B8_length, h]; omega), B8_length, h]; rfl
theorem jC_setch (h : ch.length = 32) (h' : ch'.length = 32) : spl (jC J d a e L n c t ch k s) 6 (B8 ch') = jC J d a e L n c t ch' k s := by
  have e1 : (jC J d a e L n c t ch k s).take 6 = [.pointer J, .pointer d, .int .i64 a, .int .u64 (e : Int), .slice L n c, .int .i64 t] := rfl
  have e2 : (jC J d a e L n c t ch k s).drop (6 + (B8 ch').length) = [.int .i64 k, .int .i64 s] := by
    rw [B8_length, h', show 6 + 32 = 38 from rfl]
    show (B8 ch ++ [Value.int .i64 k, .int .i64 s]).drop 32 = _
    rw [List.drop_left' (by rw [B8_length, h])]
  unfold spl
  rw [e1, e2]
  rfl
end
section
variable {fn : Func} {F : Ending → World → Prop} {N : Nat} {ks : List K} {ops : Array Oper} {tg : Tags} {l : List Oper} {fr : Fr} {w : World} {ty T : TypeId} {pos : String} {aft : Array Edge} {gd : Option (Nat × Bool)} {g : Nat} {x y z q : Operand} {J d J' L L' : Option Addr} {a t k s t' k' s' : Int} {e n c n' c' : Nat} {ch ch' : By}
--@ rule! load r o_ldJch
theorem o_ldJch (hx : fr.ev x = some (.pointer (some ⟨g, 0 + 6, none⟩))) (hB : Blk w g T (jC J d a e L n c t ch k s)) (h : ch.length = 32) : OpV Tryz.prog N fr w (.load 64 x) ty (.agg (B8 ch).toArray) w :=
  o_loadCut Tryz.isAgg64 Tryz.sizeOf64 hx hB (jC_ch h) (by rw [B8_length, h])
--@ rule! load r o_ldJk
theorem o_ldJk (hx : fr.ev x = some (.pointer (some ⟨g, 0 + 38, none⟩))) (hB : Blk w g T (jC J d a e L n c t ch k s)) (h : ch.length = 32) : OpV Tryz.prog N fr w (.load 3 x) ty (.int .i64 k) w :=
  o_loadbg Tryz.isAgg3 hx hB (jC_k h)
--@ rule! load r o_ldJ
theorem o_ldJ (hx : fr.ev x = some (.pointer (some ⟨g, 0, none⟩))) (hB : Blk w g T (jC J d a e L n c t ch k s)) (h : ch.length = 32) : OpV Tryz.prog N fr w (.load 85 x) ty (.agg (jC J d a e L n c t ch k s).toArray) w :=
  o_loadag Tryz.isAgg85 Tryz.sizeOf85 hx hB (jC_length h)
--@ rule! store l wl_stJ
theorem wl_stJ {J2 d2 L2 : Option Addr} {a2 t2 k2 s2 : Int} {e2 n2 c2 : Nat} {ch2 : By} (hx : fr.ev x = some (.pointer (some ⟨g, 0, none⟩))) (hy : fr.ev y = some (.agg (jC J d a e L n c t ch k s).toArray)) (h : ch.length = 32) (hB : Blk w g T (jC J2 d2 a2 e2 L2 n2 c2 t2 ch2 k2 s2)) (h2 : ch2.length = 32)
    (hk : ∀ w', Blk w' g T (jC J d a e L n c t ch k s) → Grew w w' T (some g) → w'.heap.size = w.heap.size → WL Tryz.prog fn F N ks ops tg.tail l fr w') (ht : tg.loud = true := by rfl) (hg : onG ops fr gd = true := by rfl) (hq : tg.calm = false ∨ tg.rw.may (some g) := by exact .inl rfl) :
    WL Tryz.prog fn F N ks ops tg (⟨none, .store 85 x y, ty, pos, aft, gd⟩ :: l) fr w :=
  wl_storega Tryz.sizeOf85 hx hy (jC_length h) jC_one hB (jC_length h2) hk ht hg hq
--@ rule! store l wl_stJself
theorem wl_stJself (hx : fr.ev x = some (.pointer (some ⟨g, 0 + 0, none⟩))) (hB : Blk w g T (jC J d a e L n c t ch k s)) (hy : fr.ev y = some (.pointer J')) (h : ch.length = 32)
    (hk : ∀ w', Blk w' g T (jC J' d a e L n c t ch k s) → Grew w w' T (some g) → w'.heap.size = w.heap.size → WL Tryz.prog fn F N ks ops tg.tail l fr w') (ht : tg.loud = true := by rfl) (hg : onG ops fr gd = true := by rfl) (hq : tg.calm = false ∨ tg.rw.may (some g) := by exact .inl rfl) :
    WL Tryz.prog fn F N ks ops tg (⟨none, .store 31 x y, ty, pos, aft, gd⟩ :: l) fr w :=
  wl_storeg1 Tryz.sizeOf31 hx hy rfl hB (by rw [jC_length h]; omega) hk ht hg hq
--@ rule! store l wl_stJlog
theorem wl_stJlog (hx : fr.ev x = some (.pointer (some ⟨g, 0 + 4, none⟩))) (hB : Blk w g T (jC J d a e L n c t ch k s)) (hy : fr.ev y = some (.slice L' n' c')) (h : ch.length = 32)
    (hk : ∀ w', Blk w' g T (jC J d a e L' n' c' t ch k s) → Grew w w' T (some g) → w'.heap.size = w.heap.size → WL Tryz.prog fn F N ks ops tg.tail l fr w') (ht : tg.loud = true := by rfl) (hg : onG ops fr gd = true := by rfl) (hq : tg.calm = false ∨ tg.rw.may (some g) := by exact .inl rfl) :
    WL Tryz.prog fn F N ks ops tg (⟨none, .store 35 x y, ty, pos, aft, gd⟩ :: l) fr w :=
  wl_storeg1 Tryz.sizeOf35 hx hy rfl hB (by rw [jC_length h]; omega) hk ht hg hq
--@ rule! store l wl_stJtail
theorem wl_stJtail (hx : fr.ev x = some (.pointer (some ⟨g, 0 + 5, none⟩))) (hB : Blk w g T (jC J d a e L n c t ch k s)) (hy : fr.ev y = some (.int .i64 t')) (h : ch.length = 32)
    (hk : ∀ w', Blk w' g T (jC J d a e L n c t' ch k s) → Grew w w' T (some g) → w'.heap.size = w.heap.size → WL Tryz.prog fn F N ks ops tg.tail l fr w') (ht : tg.loud = true := by rfl) (hg : onG ops fr gd = true := by rfl) (hq : tg.calm = false ∨ tg.rw.may (some g) := by exact .inl rfl) :
    WL Tryz.prog fn F N ks ops tg (⟨none, .store 80 x y, ty, pos, aft, gd⟩ :: l) fr w :=
  wl_storeg1 Tryz.sizeOf80 hx hy rfl hB (by rw [jC_length h]; omega) hk ht hg hq
--@ rule! store l wl_stJch
theorem wl_stJch (hx : fr.ev x = some (.pointer (some ⟨g, 0 + 6, none⟩))) (hB : Blk w g T (jC J d a e L n c t ch k s)) (hy : fr.ev y = some (.agg (B8 ch').toArray)) (h : ch.length = 32) (h' : ch'.length = 32)
    (hk : ∀ w', Blk w' g T (jC J d a e L n c t ch' k s) → Grew w w' T (some g) → w'.heap.size = w.heap.size → WL Tryz.prog fn F N ks ops tg.tail l fr w') (ht : tg.loud = true := by rfl) (hg : onG ops fr gd = true := by rfl) (hq : tg.calm = false ∨ tg.rw.may (some g) := by exact .inl rfl) :
    WL Tryz.prog fn F N ks ops tg (⟨none, .store 64 x y, ty, pos, aft, gd⟩ :: l) fr w :=
  wl_storegn (n := 32) Tryz.sizeOf64 hx hy (by rw [B8_length, h']) (B8_oneCell _) hB (by rw [jC_length h]; omega) (fun w' h1 h2 h3 => hk w' (by rw [show (0 + 6) = 6 from rfl, jC_setch h h'] at h1; exact h1) h2 h3) ht hg hq
--@ rule! store l wl_stJk
theorem wl_stJk (hx : fr.ev x = some (.pointer (some ⟨g, 0 + 38, none⟩))) (hB : Blk w g T (jC J d a e L n c t ch k s)) (hy : fr.ev y = some (.int .i64 k')) (h : ch.length = 32)
    (hk : ∀ w', Blk w' g T (jC J d a e L n c t ch k' s) → Grew w w' T (some g) → w'.heap.size = w.heap.size → WL Tryz.prog fn F N ks ops tg.tail l fr w') (ht : tg.loud = true := by rfl) (hg : onG ops fr gd = true := by rfl) (hq : tg.calm = false ∨ tg.rw.may (some g) := by exact .inl rfl) :
    WL Tryz.prog fn F N ks ops tg (⟨none, .store 3 x y, ty, pos, aft, gd⟩ :: l) fr w :=
  wl_storeg1 Tryz.sizeOf3 hx hy rfl hB (by rw [jC_length h]; omega) (fun w' h1 h2 h3 => hk w' (by rw [show (0 + 38) = 38 from rfl, jC_setk h] at h1; exact h1) h2 h3) ht hg hq
--@ rule! store l wl_stJs
theorem wl_stJs (hx : fr.ev x = some (.pointer (some ⟨g, 0 + 39, none⟩))) (hB : Blk w g T (jC J d a e L n c t ch k s)) (hy : fr.ev y = some (.int .i64 s')) (h : ch.length = 32)
    (hk : ∀ w', Blk w' g T (jC J d a e L n c t ch k s') → Grew w w' T (some g) → w'.heap.size = w.heap.size → WL Tryz.prog fn F N ks ops tg.tail l fr w') (ht : tg.loud = true := by rfl) (hg : onG ops fr gd = true := by rfl) (hq : tg.calm = false ∨ tg.rw.may (some g) := by exact .inl rfl) :
    WL Tryz.prog fn F N ks ops tg (⟨none, .store 3 x y, ty, pos, aft, gd⟩ :: l) fr w :=
  wl_storeg1 Tryz.sizeOf3 hx hy rfl hB (by rw [jC_length h]; omega) (fun w' h1 h2 h3 => hk w' (by rw [show (0 + 39) = 39 from rfl, jC_sets h] at h1; exact h1) h2 h3) ht hg hq
--@ rule! build p o_bldJ
theorem o_bldJ {u : D32} (hx : fr.ev x = some (.pointer d)) (hy : fr.ev y = some (.int .i64 a)) (hz : fr.ev z = some (.int .u64 (e : Int))) (hq : fr.ev q = some (.agg (B8 u.1).toArray)) : OpV Tryz.prog N fr w (.build 85 #[(1, x), (2, y), (3, z), (6, q)]) ty (.agg (jC none d a e none 0 0 0 u.1 0 0).toArray) w :=
  o_build (is := [1, 2, 3, 6]) (xs := [x, y, z, q]) (vs := [.pointer d, .int .i64 a, .int .u64 (e : Int), .agg (B8 u.1).toArray]) (by simp [Fr.evs, hx, hy, hz, hq]) (fun w => d32_cases u (fun u => (Instr.build 85 ([1, 2, 3, 6].zip [.pointer d, .int .i64 a, .int .u64 (e : Int), .agg (B8 u.1).toArray]).toArray).run Tryz.prog w = .ok (.agg (jC none d a e none 0 0 0 u.1 0 0).toArray) w) (by intros; kernel_rfl))
end
--@ side jC_one
theorem C_jMade {d : Option Addr} {a z : Int} {e : Nat} {u : D32} (w : World) (hz : z = e) (he : e < 18446744073709551616) (hu : sumB [wB8 e] = u.1) :
    CallsR Tryz.prog 47 [.pointer d, .int .i64 a, .int .u64 z] w fun v w' => ∃ g, v = .pointer (some ⟨g, 0, none⟩) ∧ Blk w' g 85 (jC (some ⟨g, 0, none⟩) d a e none 0 0 0 u.1 0 0) ∧ w.heap.size ≤ g ∧ Below w.heap.size w w' := by
  subst hz
  have hu32 := u.2
  refine callsR Tryz.func47 rfl rfl (by kernel_rfl) rfl ?_
  have hw := Below.refl w.heap.size w
  refine rk_seq ?_
  refine rk_region ?_
  refine wl_p (fun _ => o_assign rfl) ?_
  refine wl_nil ?_
  refine rk_seq ?_
  refine rk_region ?_
  refine wl_p (fun _ => o_move rfl) ?_
  refine wl_p (fun _ => o_move rfl) ?_
  refine wl_p (fun _ => o_move rfl) ?_
  refine wl_p (fun _ => o_move rfl) ?_
  refine wl_call rfl (C_First _ rfl (by omega) hu) ?_
  rintro v12 w12 ⟨rfl, b12⟩
  have s12 := b12.size
  replace hw := hw.trans (b12.mono hw.size)
  refine wl_p (fun _ => (o_bldJ rfl rfl rfl rfl)) ?_
  refine wl_boxg _ rfl (by rfl) ?_
  rintro g14 w14 f14 b14 i14 i14_1
  have s14 := b14.size
  replace hw := hw.trans (b14.mono hw.size)
  refine wl_p (fun _ => o_assign rfl) ?_
  refine wl_nil ?_
  refine rk_seq ?_
  refine rk_region ?_
  refine wl_p (fun _ => o_move rfl) ?_
  refine wl_p (fun _ => o_move rfl) ?_
  refine wl_p (fun _ => o_nil rfl) ?_
  refine wl_p (fun _ => o_faddr (s := 85) (i := 0) (off := 0) Tryz.underlying85 rfl Tryz.sizeOf31 rfl rfl rfl) ?_
  refine wl_stJself rfl f14 rfl hu32 ?_
  rintro w_1 f g e_1
  have s := g.size
  replace hw := hw.trans (below_of_grownBy g.g hw.size (by omega))
  clear f14
  refine wl_nil ?_
  refine rk_seq ?_
  refine rk_region ?_
  refine wl_p (fun _ => o_move rfl) ?_
  refine wl_p (fun _ => o_assign rfl) ?_
  refine wl_nil ?_
  refine ret1 rfl rfl ?_
  exact ⟨_, rfl, f, by omega, hw⟩
theorem K_jSectors {a : Int} (w : World) : CallsR Tryz.prog 11 [.int .i64 a] w fun v w' => v = .int .i64 (if 1 ≤ a ∧ a ≤ 256 then 2 + 2 * a else 0) ∧ w' = w := by
  refine callsR Tryz.func11 rfl rfl (by kernel_rfl) rfl ?_
  by_cases h1 : 1 ≤ a
  · by_cases h2 : a ≤ 256
    · rw [if_pos ⟨h1, h2⟩]
      refine rk_seq ?_
      refine rk_region ?_
      refine wl_p (fun _ => o_assign rfl) ?_
      refine wl_nil ?_
      refine rk_seq ?_
      refine rk_seq ?_
      refine rk_region ?_
      refine wl_p (fun _ => o_move rfl) ?_
      refine wl_p (fun _ => o_lt rfl rfl) ?_
      refine wl_p (fun _ => o_move rfl) ?_
      refine wl_know 5 false rfl (decide_eq_false (by omega)) ?_
      refine wl_p (fun _ => o_move rfl) ?_
      refine wl_p (fun _ => o_gt rfl rfl) ?_
      refine wl_p (fun _ => o_pick_f rfl rfl) ?_
      refine wl_nil ?_
      refine rk_if rfl (fun h8 => absurd h8 (by omega)) (fun h8 => ?_)
      refine rk_skip ?_
      refine rk_seq ?_
      refine rk_region ?_
      refine wl_p (fun _ => o_move rfl) ?_
      refine wl_p (fun _ => o_mul rfl rfl (by omega) (by omega)) ?_
      refine wl_p (fun _ => o_add rfl rfl (by omega) (by omega)) ?_
      refine wl_p (fun _ => o_assign rfl) ?_
      refine wl_nil ?_
      refine ret1 rfl rfl ?_
      exact ⟨rfl, rfl⟩
    · rw [if_neg (fun h => h2 h.2)]
      refine rk_seq ?_
      refine rk_region ?_
      refine wl_p (fun _ => o_assign rfl) ?_
      refine wl_nil ?_
      refine rk_seq ?_
      refine rk_seq ?_
      refine rk_region ?_
      refine wl_p (fun _ => o_move rfl) ?_
      refine wl_p (fun _ => o_lt rfl rfl) ?_
      refine wl_p (fun _ => o_move rfl) ?_
      refine wl_know 5 false rfl (decide_eq_false (by omega)) ?_
      refine wl_p (fun _ => o_move rfl) ?_
      refine wl_p (fun _ => o_gt rfl rfl) ?_
      refine wl_p (fun _ => o_pick_f rfl rfl) ?_
      refine wl_nil ?_
      refine rk_if rfl (fun h8 => ?_) (fun h8 => h8.elim (by omega))
      refine rk_seq ?_
      refine rk_region ?_
      refine wl_p (fun _ => o_assign rfl) ?_
      refine wl_nil ?_
      refine ret1 rfl rfl ?_
      exact ⟨rfl, rfl⟩
  · rw [if_neg (fun h => h1 h.1)]
    refine rk_seq ?_
    refine rk_region ?_
    refine wl_p (fun _ => o_assign rfl) ?_
    refine wl_nil ?_
    refine rk_seq ?_
    refine rk_seq ?_
    refine rk_region ?_
    refine wl_p (fun _ => o_move rfl) ?_
    refine wl_p (fun _ => o_lt rfl rfl) ?_
    refine wl_p (fun _ => o_move rfl) ?_
    refine wl_know 5 true rfl (decide_eq_true (by omega)) ?_
    refine wl_off ?_
    refine wl_off ?_
    refine wl_p (fun _ => o_pick_t rfl rfl) ?_
    refine wl_nil ?_
    refine rk_true rfl ?_
    refine rk_seq ?_
    refine rk_region ?_
    refine wl_p (fun _ => o_assign rfl) ?_
    refine wl_nil ?_
    refine ret1 rfl rfl ?_
    exact ⟨rfl, rfl⟩
theorem C_jSectorsY {a : Int} (w : World) (h : 1 ≤ a ∧ a ≤ 256) : CallsR Tryz.prog 11 [.int .i64 a] w fun v w' => v = .int .i64 (2 + 2 * a) ∧ w' = w := by
  have := K_jSectors (a := a) w
  rwa [if_pos h] at this
theorem C_jSectorsN {a : Int} (w : World) (h : ¬(1 ≤ a ∧ a ≤ 256)) : CallsR Tryz.prog 11 [.int .i64 a] w fun v w' => v = .int .i64 0 ∧ w' = w := by
  have := K_jSectors (a := a) w
  rwa [if_neg h] at this
theorem C_jFirst {z a : Int} {e m n : Nat} (w : World) (hz : z = e) (ha : a = m) (hn : 2 + e % 2 * m = n) (he : e < 18446744073709551616) (hm : m ≤ 256) : CallsR Tryz.prog 43 [.int .u64 z, .int .i64 a] w fun v w' => v = .int .i64 (n : Int) ∧ w' = w := by
  subst hz; subst ha; subst hn
  refine callsR Tryz.func43 rfl rfl (by kernel_rfl) rfl ?_
  refine rk_seq ?_
  refine rk_region ?_
  refine wl_p (fun _ => o_assign rfl) ?_
  refine wl_nil ?_
  refine rk_seq ?_
  refine rk_region ?_
  refine wl_p (fun _ => o_move rfl) ?_
  refine wl_p (fun _ => o_remu rfl rfl (by omega) (by omega)) ?_
  refine wl_p (fun _ => o_convi64 (src := 52) (dst := 3) Tryz.underlying52 Tryz.underlying3 rfl (by omega) (by omega)) ?_
  refine wl_p (fun _ => o_move rfl) ?_
  rcases (show e % 2 = 0 ∨ e % 2 = 1 by omega) with h | h
  · rw [h, show (e : Int) % 2 = 0 by omega]
    refine wl_p (fun _ => o_mul rfl rfl (by omega) (by omega)) ?_
    refine wl_p (fun _ => o_add rfl rfl (by omega) (by omega)) ?_
    refine wl_p (fun _ => o_assign rfl) ?_
    refine wl_nil ?_
    refine ret1 rfl rfl ?_
    exact ⟨congrArg (Value.int .i64) (by omega), rfl⟩
  · rw [h, show (e : Int) % 2 = 1 by omega]
    refine wl_p (fun _ => o_mul rfl rfl (by omega) (by omega)) ?_
    refine wl_p (fun _ => o_add rfl rfl (by omega) (by omega)) ?_
    refine wl_p (fun _ => o_assign rfl) ?_
    refine wl_nil ?_
    refine ret1 rfl rfl ?_
    exact ⟨congrArg (Value.int .i64) (by omega), rfl⟩
end Go.Proofs.YtnnhenafhalobaaGreat
/-
  Walks of package journal: a head's bytes, a head read.
-/
namespace Go.Proofs.YtnnhenafhalobaaGreat
set_option maxRecDepth 100000
open Go.RowKit
def hd12 (e a : Nat) : By := wB8 e ++ leB 4 a
theorem hd12_len (e a : Nat) : (hd12 e a).length = 12 := by rw [hd12, List.length_append, wB8_len, leB_length]
/-- A head's bytes. -/
def headB (e a : Nat) : By := hd12 e a ++ (sumB [hd12 e a]).take 8 ++ List.replicate 236 0
theorem headB_len (e a : Nat) : (headB e a).length = 256 := by
  rw [headB, List.length_append, List.length_append, hd12_len, List.length_take, sumB_len, List.length_replicate]
  rfl
section
variable {fn : Func} {F : Ending → World → Prop} {N : Nat} {ks : List K} {ops : Array Oper} {tg : Tags} {l : List Oper} {fr : Fr} {w : World} {ty : TypeId} {pos : String} {aft : Array Edge} {gd : Option (Nat × Bool)} {d n c lo hi : Nat} {x y : Operand} {A : Option Addr} {s : List UInt8}
--@ rule append l wl_appZj
theorem wl_appZj (m : Nat) {M : Int} (hx : fr.ev x = some (.slice A n c)) (hown : OwnH w lo hi A c s) (hn : n = s.length) (hy : fr.ev y = some (.int .i64 M)) (hM : M = (m : Int)) (hm : 0 < m) (hlen : s.length + m ≤ 4000000000) (hB : lo ≤ w.heap.size)
    (h : ∀ A' c' w', OwnH w' lo w'.heap.size A' c' (s ++ List.replicate m 0) → Grew w w' 5 (blk A) → Below lo w w' → WL Tryz.prog fn F N ks ops tg.tail l ((d, .slice A' (s ++ List.replicate m 0).length c') :: fr) w')
    (ht : tg.loud = true := by rfl) (hg : onG ops fr gd = true := by rfl) (hd : Nat.blt d N = true := by rfl) (hq : tg.calm = false ∨ blk A = none ∨ blk A = tg.row := by exact .inl rfl) :
    WL Tryz.prog fn F N ks ops tg (⟨some d, .call { callee := .builtin .append, args := #[x, y], argTypes := #[35, 3] }, ty, pos, aft, gd⟩ :: l) fr w :=
  wl_appZs Tryz.u8 Tryz.underlying3 Tryz.underlying9 m hx hown hn hy hM hm hlen hB h ht hg hd hq
end
theorem C_WordJ4 {A : Option Addr} {l r : By} {z k : Int} {n m c : Nat} (w : World) (hA : Rd w A l) (hz : z = n) (hk : k = 4) (hr : l ++ leB 4 n = r) (hn : n < 18446744073709551616) (hm : m = l.length) (hl : l.length ≤ 4000) :
    CallsR Tryz.prog 77 [.slice A m c, .int .u64 z, .int .i64 k] w fun v w' => ∃ A' c', v = .slice A' r.length c' ∧ OwnH w' w.heap.size w'.heap.size A' c' r ∧ Below w.heap.size w w' := by
  subst hz; subst hk; subst hr; subst hm
  refine (C_Word (A := A) (l := l) c n 4 w hA (by unfold u64; omega) (by omega)).mono ?_
  rintro v w' ⟨A', c', rfl, h, hb⟩
  exact ⟨A', c', rfl, h.h_, hb⟩
theorem C_WordJ8 {z k : Int} {n : Nat} {r : By} (w : World) (hz : z = n) (hk : k = 8) (hr : wB8 n = r) (hn : n < 18446744073709551616) :
    CallsR Tryz.prog 77 [.slice none 0 0, .int .u64 z, .int .i64 k] w fun v w' => ∃ A' c', v = .slice A' r.length c' ∧ OwnH w' w.heap.size w'.heap.size A' c' r ∧ Below w.heap.size w w' := by
  subst hr
  exact C_Word8 w hz hn hk
--@ hide C_Word8
set_option maxRecDepth 100000 in
theorem C_headBytes {z a : Int} {e m : Nat} {r : By} (w : World) (hz : z = e) (ha : a = m) (hr : headB e m = r) (he : e < 18446744073709551616) (hm : m ≤ 256) :
    CallsR Tryz.prog 46 [.int .u64 z, .int .i64 a] w fun v w' => ∃ A' c', v = .slice A' 256 c' ∧ OwnH w' w.heap.size w'.heap.size A' c' r ∧ r.length = 256 ∧ Below w.heap.size w w' := by
  subst hz; subst ha
  obtain ⟨b8, hb8⟩ : ∃ b, wB8 e = b := ⟨_, rfl⟩
  have l8 : b8.length = 8 := by rw [← hb8, wB8_len]
  obtain ⟨b12, hb12⟩ : ∃ b, b8 ++ leB 4 m = b := ⟨_, rfl⟩
  have l12 : b12.length = 12 := by rw [← hb12, List.length_append, l8, leB_length]
  obtain ⟨s, hs⟩ : ∃ s, sumB [b12] = s := ⟨_, rfl⟩
  have l32 : s.length = 32 := by rw [← hs, sumB_len]
  have hr2 : b12 ++ s.take 8 ++ List.replicate 236 0 = r := by rw [← hr, ← hs, ← hb12, ← hb8]; rfl
  have lr : r.length = 256 := by rw [← hr, headB_len]
  obtain ⟨b20, hb20⟩ : ∃ b, b12 ++ s.take 8 = b := ⟨_, rfl⟩
  have l20 : b20.length = 20 := by rw [← hb20, List.length_append, l12, List.length_take, l32]; rfl
  unfold sumB at hs
  refine callsR Tryz.func46 rfl rfl (by kernel_rfl) rfl ?_
  have hw := Below.refl w.heap.size w
  refine rk_seq ?_
  refine rk_region ?_
  refine wl_p (fun _ => o_assign rfl) ?_
  refine wl_nil ?_
  refine rk_seq ?_
  refine rk_region ?_
  refine wl_p (fun _ => o_move rfl) ?_
  refine wl_call rfl (C_WordJ8 _ rfl rfl hb8 (by omega)) ?_
  rintro v8 w8 ⟨A8, ⟨c8, ⟨rfl, ⟨f8, b8_1⟩⟩⟩⟩
  have qf8 := f8.cap
  have s8 := b8_1.size
  replace hw := hw.trans (b8_1.mono hw.size)
  refine wl_p (fun _ => o_move rfl) ?_
  refine wl_p (fun _ => o_convu64 (src := 3) (dst := 52) Tryz.underlying3 Tryz.underlying52 rfl (by omega) (by omega)) ?_
  refine wl_call rfl (C_WordJ4 _ f8.to_Rd rfl rfl hb12 (by omega) rfl (by omega)) ?_
  rintro v11 w11 ⟨A11, ⟨c11, ⟨rfl, ⟨f11, b11⟩⟩⟩⟩
  have qf11 := f11.cap
  have s11 := b11.size
  replace hw := hw.trans (b11.mono hw.size)
  replace f8 := f8.u b11
  refine wl_p (fun _ => o_assign rfl) ?_
  refine wl_nil ?_
  refine rk_seq ?_
  refine rk_region ?_
  refine wl_p (fun _ => o_move rfl) ?_
  refine wl_litK1 (by rfl) rfl f11.to_RdT rfl (by omega) (own_max' (by assumption)) (by rfl) ?_
  rintro A13 w13 f13 b13
  have s13 := b13.size
  replace hw := hw.trans (b13.mono hw.size)
  replace f8 := f8.u b13
  replace f11 := f11.u b13
  refine wl_call rfl (C_Sum _ f13 hs (by rfl) (by simp) (by simp; omega)) ?_
  rintro v14 w14 ⟨rfl, b14⟩
  have s14 := b14.size
  replace hw := hw.trans (b14.mono hw.size)
  replace f11 := f11.u b14
  replace f8 := f8.u b14
  replace f13 := f13.u b14
  refine wl_allocB Tryz.underlying64 Tryz.zeroValue64 (by rfl) ?_
  rintro g6 w6 f6 b6 i6 i6_1
  have s6 := b6.size
  replace hw := hw.trans (b6.mono hw.size)
  replace f13 := f13.u b6
  replace f8 := f8.u b6
  replace f11 := f11.u b6
  refine wl_stBa Tryz.sizeOf64 rfl f6 rfl l32 (by rfl) ?_
  rintro w_1 f g e_1
  have s_1 := g.size
  replace hw := hw.trans (below_of_grownBy g.g hw.size (by omega))
  replace f11 := f11.k g.g (ap_some (by omega))
  replace f8 := f8.k g.g (ap_some (by omega))
  clear f13
  clear f6
  refine wl_nil ?_
  refine rk_seq ?_
  refine rk_region ?_
  refine wl_p (fun _ => o_move rfl) ?_
  refine wl_slArrHi (8) Tryz.underlying64 Tryz.sizeOf5 rfl f rfl (by omega) (by omega) ?_
  rintro f16
  refine wl_appB Tryz.u8 rfl f11 rfl rfl f16 (by simp; omega) (by simp; omega) (by omega) ?_
  rintro A17 c17 w17 f17 g17 b17 i17
  have qf17 := f17.cap
  have s17 := g17.size
  replace hw := hw.trans (b17.mono (by omega))
  replace f8 := f8.k g17.g (f11.ap (by omega))
  replace f := f.y g17 (by decide)
  clear f16
  clear f11
  refine wl_p (fun _ => o_assign rfl) ?_
  refine wl_nil ?_
  refine rk_seq ?_
  refine rk_region ?_
  refine wl_p (fun _ => o_move rfl) ?_
  refine wl_p (fun _ => o_move rfl) ?_
  refine wl_p (fun _ => o_len (t := 35) Tryz.underlying35 rfl) ?_
  rw [hb20] at f17 hr2 ⊢
  rw [l20]
  refine wl_p (fun _ => o_sub rfl rfl (by omega) (by omega)) ?_
  refine wl_appZj 236 rfl f17 l20.symm rfl (by omega) (by omega) (by omega) (by omega) ?_
  intro A22 c22 w22 f22 g22 b22
  replace hw := hw.trans (b22.mono (by omega))
  rw [hr2] at f22 ⊢
  refine wl_p (fun _ => o_assign rfl) ?_
  refine wl_nil ?_
  refine ret1 rfl rfl ?_
  exact ⟨A22, c22, by rw [lr], f22.base (by omega) (by omega), lr, hw⟩
end Go.Proofs.YtnnhenafhalobaaGreat
/-
  slices.Chunk of sectors' bytes, and its rounds (as ShE, for 256).
-/
namespace Go.Proofs.YtnnhenafhalobaaGreat
set_option maxRecDepth 100000
open Go.RowKit
theorem C_ChunkW {A : Option Addr} {n c : Nat} (w : World) :
    CallsR Tryz.prog 75 [.slice A n c, .int .i64 256] w fun v w' => ∃ g h, v = .func (.func 97) #[] #[.pointer (some ⟨g, 0, none⟩), .pointer (some ⟨h, 0, none⟩)] ∧ Blk w' g 35 [.slice A n c] ∧ Blk w' h 3 [.int .i64 256] ∧ w.heap.size ≤ g ∧ g < w'.heap.size ∧ w.heap.size ≤ h ∧ h < w'.heap.size ∧ Below w.heap.size w w' := by
  refine callsR Tryz.func75 rfl rfl (by kernel_rfl) rfl ?_
  have hw := Below.refl w.heap.size w
  refine rk_seq ?_
  refine rk_region ?_
  refine wl_boxg [_] rfl (by rfl) ?_
  rintro g2 w2 f2 b2 i2 i2_1
  have s2 := b2.size
  replace hw := hw.trans (b2.mono hw.size)
  refine wl_boxg [_] rfl (by rfl) ?_
  rintro g3 w3 f3 b3 i3 i3_1
  have s3 := b3.size
  replace hw := hw.trans (b3.mono hw.size)
  replace f2 := f2.u b3
  refine wl_p (fun _ => o_assign rfl) ?_
  refine wl_nil ?_
  refine rk_seq ?_
  refine rk_seq ?_
  refine rk_region ?_
  refine wl_r (o_loadbg Tryz.isAgg3 rfl f3 (by rfl)) ?_
  refine wl_p (fun _ => o_lt rfl rfl) ?_
  refine wl_nil ?_
  refine rk_false rfl ?_
  refine rk_skip ?_
  refine rk_seq ?_
  refine rk_region ?_
  refine wl_p (fun _ => o_makeFunc (xs := [.tmp 2, .tmp 3]) rfl) ?_
  refine wl_p (fun _ => o_assign rfl) ?_
  refine wl_nil ?_
  refine ret1 rfl rfl ?_
  exact ⟨_, _, rfl, f2, f3, by omega, by omega, by omega, by omega, hw⟩
/-- A piece, as it is handed on. -/
def encsW (A : Option Addr) (M : Nat) (x : Fin M) : Array Value := #[.slice (A.map (·.add (256 * x.val))) 256 256]
theorem chunk_stopsW {A : Option Addr} {M c g h n : Nat} (hn : 1 ≤ n) (w : World) (hg : Blk w g 35 [.slice A (256 * M) c]) (hh : Blk w h 3 [.int .i64 256]) (hc : 256 * M ≤ c) (hM : M ≤ 10000) :
    SeqStopsK Fence.wide n Tryz.prog 97 #[.pointer (some ⟨g, 0, none⟩), .pointer (some ⟨h, 0, none⟩)] (encsW A M) (KpB g h) (fun xs => xs = List.finRange M) (fun _ => True) M w := fun l J Jx W hb hJ hJx hY h0 => by
  have hgW := hg.under hb
  have hhW := hh.under hb
  have main : CallsR Tryz.prog 97 [.func (.yield l) #[] #[], .pointer (some ⟨g, 0, none⟩), .pointer (some ⟨h, 0, none⟩)] W fun _ w' => (∃ xs, xs = List.finRange M ∧ J xs w') ∨ (∃ pre, True ∧ Jx pre w') := by
    refine callsR Tryz.func97 rfl rfl (by kernel_rfl) rfl ?_
    refine rk_seq ?_
    refine rk_region ?_
    refine wl_p (fun _ => o_assign rfl) ?_
    refine wl_nil ?_
    refine rk_block ?_
    refine rk_joinf (fun fb fr w2 => fr = [] ++ fb.drop 1 ∧ J (List.finRange M) w2) ?_ (fun ks hj => ?_)
    rotate_left
    · refine rk_loopf (fun fb m fr w2 => ∃ (k : Nat) (v : Int), fr = [(4, .int .i64 v)] ++ fb.drop 1 ∧ v = 256 * (k : Int) ∧ k ≤ M ∧ m = M - k ∧ J ((List.finRange M).take k) w2 ∧ Blk w2 g 35 [.slice A (256 * M) c] ∧ Blk w2 h 3 [.int .i64 256]) (n := M) (Fr.le_of (by kernel_rfl) (by kernel_rfl) (by repeat' constructor)) ⟨0, _, rfl, rfl, by omega, rfl, by rw [List.take_zero]; exact h0, hgW, hhW⟩ ?_
      clear hgW hhW h0 hg hh
      rintro m fr w2 ⟨k, v, rfl, rfl, hk, rfl, hJk, f1, f2⟩
      first | refine rk_frame (by simp only [List.cons_append, List.nil_append, List.drop_succ_cons, List.drop_zero]; rfl) ?_ | refine wl_frame (by simp only [List.cons_append, List.nil_append, List.drop_succ_cons, List.drop_zero]; rfl) ?_
      refine rk_seq ?_
      refine rk_seq ?_
      refine rk_region ?_
      refine wl_p (fun _ => o_move rfl) ?_
      refine wl_r (o_loadbg Tryz.isAgg35 rfl f1 (by rfl)) ?_
      refine wl_p (fun _ => o_len (t := 35) Tryz.underlying35 rfl) ?_
      refine wl_p (fun _ => o_lt rfl rfl) ?_
      refine wl_nil ?_
      refine rk_if rfl (fun h9 => ?_) (fun h9 => ?_)
      · have hkM : k < M := by omega
        refine rk_skip ?_
        refine rk_seq ?_
        refine rk_block ?_
        refine rk_seq ?_
        refine rk_draw (id := 3) (none) [0, 0, 0, 6, 8, 17, 63] [0, 0, 0, 6, 14, 31, 63] 0 0 [(.r, 0), (.r, 1), (.p, 2), (.p, 3), (.p, 4), (.p, 5), (.p, 6)] (by kernel_rfl) (by kernel_rfl) (by kernel_rfl) (by kernel_rfl) (by kernel_rfl) ?_
        replace f2 := f2.d
        replace f1 := f1.d
        refine wl_r (o_loadbg Tryz.isAgg3 rfl f2 (by rfl)) ?_
        refine wl_r (o_loadbg Tryz.isAgg35 rfl f1 (by rfl)) ?_
        refine wl_p (fun _ => o_move rfl) ?_
        refine wl_p (fun _ => (o_sliceLoB (256 * k) Tryz.underlying35 Tryz.sizeOf5 rfl rfl (by omega) (by omega))) ?_
        refine wl_p (fun _ => o_len (t := 35) Tryz.underlying35 rfl) ?_
        refine wl_p (fun _ => o_min rfl rfl) ?_
        refine wl_p (fun _ => o_assign rfl) ?_
        refine wl_nild ?_
        rw [show min (256 : Int) ((256 * M - 256 * k : Nat) : Int) = 256 by omega]
        have hJd : J ((List.finRange M).take k) w2.drew := hJ _ _ _ none hJk (grownBy_drew w2 none) (fun r e => by cases e)
        have hlen : ((List.finRange M).take k).length < M := by rw [List.length_take, List.length_finRange]; omega
        have hYk := hY _ ⟨k, hkM⟩ _ hJd hlen
        refine rk_seq ?_
        refine rk_regionI n ?_
        refine wli_p (o_move rfl) ?_
        refine wli_p (o_loadbg Tryz.isAgg35 rfl f1 rfl) ?_
        refine wli_p (o_move rfl) ?_
        refine wli_p (o_move rfl) ?_
        refine wli_p (o_move rfl) ?_
        refine wli_p (o_add rfl rfl (by omega) (by omega)) ?_
        refine wli_p (o_move rfl) ?_
        refine wli_p (o_move rfl) ?_
        refine wli_p (o_add rfl rfl (by omega) (by omega)) ?_
        have hsl : Value.slice (cutA A (256 * k + 256) 1 (256 * k)) (256 * k + 256 - 256 * k) (256 * k + 256 - 256 * k) = .slice (A.map (·.add (256 * k))) 256 256 := by
          rw [show 256 * k + 256 - 256 * k = 256 by omega]
          unfold cutA
          rw [if_neg (by omega), Nat.mul_one]
        refine wli_p (o_as (o_slice3B (256 * k) (256 * k + 256) (256 * k + 256) Tryz.underlying35 Tryz.sizeOf5 rfl rfl rfl rfl (by omega) (by omega) (by omega) (by omega) (by omega) (by omega)) hsl) ?_
        refine wli_yield rfl rfl hYk (fun e w3 he => ?_)
        rcases he with ⟨rfl, hJ3, hkp⟩ | ⟨rfl, hx3⟩
        · refine ⟨true, rfl, ?_⟩
          refine wli_p (o_not rfl) ?_
          refine wli_nil ?_
          replace f1 := hkp.blk1 f1
          replace f2 := hkp.blk2 f2
          have hJ4 : J ((List.finRange M).take (k + 1)) w3 := by
            rw [List.take_succ_eq_append_getElem (by rw [List.length_finRange]; omega), List.getElem_finRange]
            exact hJ3
          refine rk_false rfl ?_
          refine rk_skip ?_
          refine rk_blk ?_
          refine rk_region ?_
          refine wl_p (fun _ => o_move rfl) ?_
          refine wl_r (o_loadbg Tryz.isAgg3 rfl f2 (by rfl)) ?_
          refine wl_p (fun _ => o_add rfl rfl (by omega) (by omega)) ?_
          refine wl_p (fun _ => o_assign rfl) ?_
          refine wl_nil ?_
          exact rk_againf (Fr.le_of (by kernel_rfl) (by kernel_rfl) (by repeat' constructor)) ⟨k + 1, 256 * (k : Int) + 256, rfl, by omega, by omega, rfl, hJ4, f1, f2⟩ (by omega)
        · refine ⟨false, rfl, ?_⟩
          refine wli_p (o_not rfl) ?_
          refine wli_nil ?_
          refine rk_true rfl ?_
          refine ret0 rfl ?_
          exact .inr ⟨_, trivial, hx3⟩
      · refine rk_exit rfl ?_
        obtain rfl : k = M := by omega
        rw [List.take_of_length_le (by rw [List.length_finRange]; omega)] at hJk
        exact rk_tof hj (Fr.le_of (by kernel_rfl) (by kernel_rfl) (by repeat' constructor)) ⟨rfl, hJk⟩
    rintro fr w2 ⟨rfl, hJM⟩
    first | refine rk_frame (by simp only [List.cons_append, List.nil_append, List.drop_succ_cons, List.drop_zero]; rfl) ?_ | refine wl_frame (by simp only [List.cons_append, List.nil_append, List.drop_succ_cons, List.drop_zero]; rfl) ?_
    refine end0 rfl ?_
    exact .inl ⟨_, rfl, hJM⟩
  refine callsIn_wide.2 (main.2.mono ?_)
  rintro e w' ⟨v, rfl, hv⟩
  exact ⟨⟨v, rfl⟩, hv⟩
end Go.Proofs.YtnnhenafhalobaaGreat
/-
  Walks of the disk's methods that go through all that is cached, or all sectors.
-/
namespace Go.Proofs.YtnnhenafhalobaaGreat
set_option maxRecDepth 100000
open Go.RowKit
theorem C_dSize {lo hi g : Nat} {S : List Sec} {C : List (Option Sec)} (w : World) (hd : DkAt w lo hi g S C) :
    CallsR Tryz.prog 41 [.pointer (some ⟨g, 0, none⟩)] w fun v w' => v = .int .i64 (S.length : Int) ∧ w' = w := by
  refine callsR Tryz.func41 rfl rfl (by kernel_rfl) rfl ?_
  refine rk_seq ?_
  refine rk_region ?_
  refine wl_p (fun _ => o_assign rfl) ?_
  refine wl_nil ?_
  refine rk_seq ?_
  refine rk_seq ?_
  refine rk_region ?_
  refine wl_p (fun _ => o_move rfl) ?_
  refine wl_call rfl (C_valid _ hd) ?_
  rintro v4 w4 ⟨rfl, rfl⟩
  refine wl_p (fun _ => o_not rfl) ?_
  refine wl_nil ?_
  refine rk_false rfl ?_
  refine rk_skip ?_
  refine rk_seq ?_
  refine rk_region ?_
  refine wl_p (fun _ => o_move rfl) ?_
  refine wl_p (fun _ => o_nil rfl) ?_
  refine wl_p (fun _ => o_faddr (s := 98) (i := 1) (off := 1) Tryz.underlying98 rfl Tryz.sizeOf77 rfl rfl rfl) ?_
  obtain ⟨A, c, b, f, fs, fm, h4, h5, h6⟩ := hd.ex
  refine wl_r (o_loadbg Tryz.isAgg77 rfl f (by rfl)) ?_
  refine wl_p (fun _ => o_len (t := 77) Tryz.underlying77 rfl) ?_
  refine wl_p (fun _ => o_assign rfl) ?_
  refine wl_nil ?_
  refine ret1 rfl rfl ?_
  exact ⟨rfl, rfl⟩
theorem C_dFlush {lo hi g : Nat} {S S0 : List Sec} {C C0 : List (Option Sec)} (w : World) (hd : DkAt w lo hi g S C) (hS0 : cur S C = S0) (hC0 : List.replicate S.length none = C0) :
    CallsR Tryz.prog 45 [.pointer (some ⟨g, 0, none⟩)] w fun v w' => v = .int .i64 0 ∧ DkAt w' lo hi g S0 C0 ∧ Chg lo hi w w' := by
  subst hS0; subst hC0
  refine callsR Tryz.func45 rfl rfl (by kernel_rfl) rfl ?_
  have hcg : Chg lo hi w w := Chg.refl
  have hhi := hd.hi
  refine rk_seq ?_
  refine rk_region ?_
  refine wl_p (fun _ => o_assign rfl) ?_
  refine wl_nil ?_
  refine rk_seq ?_
  refine rk_seq ?_
  refine rk_region ?_
  refine wl_p (fun _ => o_move rfl) ?_
  refine wl_call rfl (C_valid _ hd) ?_
  rintro v6 w6 ⟨rfl, rfl⟩
  refine wl_p (fun _ => o_not rfl) ?_
  refine wl_nil ?_
  refine rk_false rfl ?_
  refine rk_skip ?_
  refine rk_seq ?_
  refine rk_seq ?_
  refine rk_region ?_
  refine wl_p (fun _ => o_move rfl) ?_
  refine wl_call rfl (C_dCached _ hd (by rfl)) ?_
  rintro v9 w9 ⟨A9, ⟨c9, ⟨rfl, ⟨f9, b9⟩⟩⟩⟩
  have qf9 := f9.cap
  have s9 := b9.size
  replace hcg := hcg.thenB b9
  replace hd := hd.u b9
  refine wl_p (fun _ => o_len (t := 69) Tryz.underlying69 rfl) ?_
  refine wl_p (fun _ => o_move rfl) ?_
  refine wl_nil ?_
  refine rk_block ?_
  obtain ⟨A, c, b, f, fs, fm, h4, h5, h6⟩ := hd.ex
  have hg1 := hd.g1
  have hg2 := hd.g2
  have hle := hd.len
  have hn1 := hd.n1
  have hn2 := hd.n2
  have hcl := cnt_le C
  have hIl := ixz_len C
  have hsz0 := hcg.size
  clear hd
  refine rk_joinf (fun fb fr W => fr = [] ++ fb.drop 1 ∧ Blk W g 98 [.pointer (some ⟨g, 0, none⟩), .slice A S.length c, .map (some b)] ∧ OwnSec W lo hi A c (cur S C) ∧ MapS W b C ∧ Chg lo hi w6 W) ?_ (fun ks hj => ?_)
  rotate_left
  · refine rk_loopf (fun fb m fr W => ∃ (j : Nat) (v : Int) (S' : List Sec), fr = [(11, .int .i64 v)] ++ fb.drop 1 ∧ v = j ∧ j ≤ cnt C ∧ m = cnt C - j ∧ S' = crash S C (List.replicate j true) ∧ Blk W g 98 [.pointer (some ⟨g, 0, none⟩), .slice A S'.length c, .map (some b)] ∧ OwnSec W lo hi A c S' ∧ MapS W b C ∧ OwnZ W w6.heap.size w9.heap.size A9 c9 (ixz C) ∧ Chg lo hi w6 W) (n := cnt C) (Fr.le_of (by kernel_rfl) (by kernel_rfl) (by repeat' constructor)) ⟨0, _, S, rfl, rfl, by omega, rfl, by rw [List.replicate_zero, crash_nil], f, fs, fm, f9, hcg⟩ ?_
    clear f fs fm f9 hcg
    rintro m fr W ⟨j, v, S', rfl, rfl, hj', rfl, hS', f, fs, fm, f9, hcg⟩
    have hSl : S'.length = S.length := by rw [hS', crash_len]
    first | refine rk_frame (by simp only [List.cons_append, List.nil_append, List.drop_succ_cons, List.drop_zero]; rfl) ?_ | refine wl_frame (by simp only [List.cons_append, List.nil_append, List.drop_succ_cons, List.drop_zero]; rfl) ?_
    refine rk_seq ?_
    refine rk_region ?_
    refine wl_p (fun _ => o_lt rfl rfl) ?_
    refine wl_nil ?_
    refine rk_seq ?_
    refine rk_if rfl (fun h12 => ?_) (fun h12 => ?_)
    · have hjc : j < (cix C).length := by rw [cix_len]; omega
      have hji : j < (ixz C).length := by omega
      obtain ⟨i, hci⟩ : ∃ i, (cix C)[j] = i := ⟨_, rfl⟩
      have hIj : (ixz C)[j] = (i : Int) := by rw [← hci]; simp [ixz]
      have hiS : i < S'.length := by rw [hSl, ← hle, ← hci]; exact cix_lt C hjc
      obtain ⟨r, hr⟩ : ∃ r, cAt C (i : Int) = r := ⟨_, rfl⟩
      have hwf : (Lit.int .i64 (i : Int)).wf = true := nat_wf (by omega)
      refine rk_skip ?_
      refine rk_seq ?_
      refine rk_block ?_
      refine rk_seq ?_
      refine rk_region ?_
      refine wl_p (fun _ => (o_iaddrA1 (j) Tryz.underlying69 Tryz.sizeOf3 rfl rfl rfl (Reads.some_ f9.to_Reads (by decide) (by omega)) (by omega))) ?_
      refine wl_r (o_loadZ Tryz.isAgg3 rfl f9.to_Reads (by omega)) ?_
      refine wl_p (fun _ => o_assign rfl) ?_
      refine wl_nil ?_
      refine rk_draw (id := 6) (none) [0, 1, 2, 4, 0, 0, 32, 64, 128, 0, 768, 2047, 4095] [0, 1, 3, 7, 0, 0, 32, 96, 224, 0, 992, 2047, 4095] 4096 0 [(.p, 0), (.p, 1), (.p, 2), (.r, 3), (.p, 4), (.p, 5), (.p, 6), (.p, 7), (.r, 8), (.p, 9), (.r, 10), (.p, 11), (.l, 12)] (by kernel_rfl) (by kernel_rfl) (by kernel_rfl) (by kernel_rfl) (by kernel_rfl) ?_
      replace hcg := hcg.trans Chg.drew
      replace f9 := f9.d
      replace fm := fm.d
      replace fs := fs.d
      replace f := f.d
      refine wl_p (fun _ => o_move rfl) ?_
      refine wl_p (fun _ => o_nil rfl) ?_
      refine wl_p (fun _ => o_faddr (s := 98) (i := 1) (off := 1) Tryz.underlying98 rfl Tryz.sizeOf77 rfl rfl rfl) ?_
      refine wl_r (o_loadbg Tryz.isAgg77 rfl f (by rfl)) ?_
      refine wl_p (fun _ => o_move rfl) ?_
      refine wl_p (fun _ => o_move rfl) ?_
      refine wl_p (fun _ => o_nil rfl) ?_
      refine wl_p (fun _ => o_faddr (s := 98) (i := 2) (off := 2) Tryz.underlying98 rfl Tryz.sizeOf96 rfl rfl rfl) ?_
      refine wl_r (o_loadbg Tryz.isAgg96 rfl f (by rfl)) ?_
      refine wl_p (fun _ => o_move rfl) ?_
      rw [hIj]
      refine wl_r (o_lookS1 Tryz.underlying96 rfl rfl fm hr hwf) ?_
      refine wl_p (fun _ => (o_iaddrA (i) Tryz.underlying77 Tryz.sizeOf95 rfl rfl rfl (fs.some_ (by omega)) (by omega))) ?_
      refine wl_stSec rfl fs rfl (by omega) ?_
      rintro w f_1 g_1 b_1 e
      simp only [drew_size] at e
      have qf_1 := f_1.cap
      have s := g_1.size
      simp only [drew_size] at s
      replace hcg := hcg.trans ((Chg.of_g g_1.g f_1.rng).wide (by omega) (by omega))
      replace f := f.y g_1 (by decide)
      replace fm := fm.y g_1 (by decide)
      replace f9 := f9.y g_1 (by decide)
      clear fs
      refine wl_nild ?_
      refine rk_blk ?_
      refine rk_region ?_
      refine wl_p (fun _ => o_add rfl rfl (by omega) (by omega)) ?_
      refine wl_p (fun _ => o_move rfl) ?_
      refine wl_nil ?_
      have e : S'.set i (r.getD z256) = crash S C (List.replicate (j + 1) true) := by
        rw [crash_true hle hjc, ← hS', hci, hr]
      have e2 : (S'.set i (r.getD z256)).length = S'.length := List.length_set ..
      exact rk_againf (Fr.le_of (by kernel_rfl) (by kernel_rfl) (by repeat' constructor)) ⟨j + 1, (j : Int) + 1, S'.set i (r.getD z256), rfl, by omega, by omega, rfl, e, by rw [e2]; exact f, f_1, fm, f9, hcg⟩ (by omega)
    · refine rk_exit rfl ?_
      obtain rfl : j = cnt C := by omega
      rw [crash_all S C _ (Nat.le_refl _)] at hS'
      subst hS'
      rw [hSl] at f
      exact rk_tof hj (Fr.le_of (by kernel_rfl) (by kernel_rfl) (by repeat' constructor)) ⟨rfl, f, fs, fm, hcg⟩
  clear f fs fm f9 hcg
  rintro fr W ⟨rfl, f, fs, fm, hcg⟩
  first | refine rk_frame (by simp only [List.cons_append, List.nil_append, List.drop_succ_cons, List.drop_zero]; rfl) ?_ | refine wl_frame (by simp only [List.cons_append, List.nil_append, List.drop_succ_cons, List.drop_zero]; rfl) ?_
  refine rk_seq ?_
  refine rk_region ?_
  refine wl_p (fun _ => o_move rfl) ?_
  refine wl_p (fun _ => o_nil rfl) ?_
  refine wl_p (fun _ => o_faddr (s := 98) (i := 2) (off := 2) Tryz.underlying98 rfl Tryz.sizeOf96 rfl rfl rfl) ?_
  refine wl_r (o_loadbg Tryz.isAgg96 rfl f (by rfl)) ?_
  refine wl_clearM Tryz.underlying96 rfl fm ?_
  rintro w f_1 g_1 e
  have s := g_1.size
  replace hcg := hcg.trans (Chg.of_g1 g_1.g (by omega) (by omega))
  replace fs := fs.m g_1
  replace f := f.k g_1.g (ap_some (by omega))
  clear fm
  refine wl_nil ?_
  refine rk_seq ?_
  refine rk_region ?_
  refine wl_p (fun _ => o_assign rfl) ?_
  refine wl_nil ?_
  refine ret1 rfl rfl ?_
  rw [hle] at f_1
  exact ⟨rfl, ⟨⟨A, c, b, by rw [cur_len]; exact f, fs, f_1, h4, h5, h6⟩, hg1, hg2, by have := hcg.size; omega, by rw [List.length_replicate, cur_len], by rw [cur_len]; exact hn1, by rw [cur_len]; exact hn2⟩, hcg⟩
theorem C_dCrash {lo hi lo2 hi2 g n cp : Nat} {S S0 : List Sec} {C C0 : List (Option Sec)} {K : Option Addr} {kp : List Bool} (w : World) (hd : DkAt w lo hi g S C) (hk : RdBo w lo2 hi2 K kp) (hS0 : crash S C kp = S0) (hC0 : List.replicate S.length none = C0) (ha : hi2 ≤ lo ∨ hi ≤ lo2) (hn : n = kp.length) (hm : n ≤ 1000000) :
    CallsR Tryz.prog 21 [.pointer (some ⟨g, 0, none⟩), .slice K n cp] w fun v w' => v = .int .i64 0 ∧ DkAt w' lo hi g S0 C0 ∧ Chg lo hi w w' := by
  subst hn; subst hS0; subst hC0
  refine callsR Tryz.func21 rfl rfl (by kernel_rfl) rfl ?_
  have hcg : Chg lo hi w w := Chg.refl
  have hhi := hd.hi
  refine rk_seq ?_
  refine rk_region ?_
  refine wl_p (fun _ => o_assign rfl) ?_
  refine wl_nil ?_
  refine rk_seq ?_
  refine rk_seq ?_
  refine rk_region ?_
  refine wl_p (fun _ => o_move rfl) ?_
  refine wl_call rfl (C_valid _ hd) ?_
  rintro v8 w8 ⟨rfl, rfl⟩
  refine wl_p (fun _ => o_not rfl) ?_
  refine wl_nil ?_
  refine rk_false rfl ?_
  refine rk_skip ?_
  refine rk_seq ?_
  refine rk_seq ?_
  refine rk_region ?_
  refine wl_p (fun _ => o_move rfl) ?_
  refine wl_call rfl (C_dCached _ hd (by rfl)) ?_
  rintro v11 w11 ⟨A11, ⟨c11, ⟨rfl, ⟨f11, b11⟩⟩⟩⟩
  have qf11 := f11.cap
  have s11 := b11.size
  replace hcg := hcg.thenB b11
  replace hk := hk.u b11
  replace hd := hd.u b11
  refine wl_p (fun _ => o_len (t := 69) Tryz.underlying69 rfl) ?_
  refine wl_p (fun _ => o_move rfl) ?_
  refine wl_nil ?_
  refine rk_block ?_
  obtain ⟨A, c, b, f, fs, fm, h4, h5, h6⟩ := hd.ex
  have hg1 := hd.g1
  have hg2 := hd.g2
  have hle := hd.len
  have hn1 := hd.n1
  have hn2 := hd.n2
  have hcl := cnt_le C
  have hIl := ixz_len C
  have hsz0 := hcg.size
  clear hd
  refine rk_joinf (fun fb fr W => fr = [] ++ fb.drop 1 ∧ Blk W g 98 [.pointer (some ⟨g, 0, none⟩), .slice A S.length c, .map (some b)] ∧ OwnSec W lo hi A c (crash S C kp) ∧ MapS W b C ∧ Chg lo hi w8 W) ?_ (fun ks hj => ?_)
  rotate_left
  · refine rk_loopf (fun fb m fr W => ∃ (j : Nat) (v : Int) (S' : List Sec), fr = [(13, .int .i64 v)] ++ fb.drop 1 ∧ v = j ∧ j ≤ cnt C ∧ m = cnt C - j ∧ S' = crash S C (kp.take j) ∧ Blk W g 98 [.pointer (some ⟨g, 0, none⟩), .slice A S'.length c, .map (some b)] ∧ OwnSec W lo hi A c S' ∧ MapS W b C ∧ OwnZ W w8.heap.size w11.heap.size A11 c11 (ixz C) ∧ RdBo W lo2 hi2 K kp ∧ Chg lo hi w8 W) (n := cnt C) (Fr.le_of (by kernel_rfl) (by kernel_rfl) (by repeat' constructor)) ⟨0, _, S, rfl, rfl, by omega, rfl, by rw [List.take_zero, crash_nil], f, fs, fm, f11, hk, hcg⟩ ?_
    clear f fs fm f11 hcg hk
    rintro m fr W ⟨j, v, S', rfl, rfl, hj', rfl, hS', f, fs, fm, f11, hk, hcg⟩
    have hSl : S'.length = S.length := by rw [hS', crash_len]
    first | refine rk_frame (by simp only [List.cons_append, List.nil_append, List.drop_succ_cons, List.drop_zero]; rfl) ?_ | refine wl_frame (by simp only [List.cons_append, List.nil_append, List.drop_succ_cons, List.drop_zero]; rfl) ?_
    refine rk_seq ?_
    refine rk_region ?_
    refine wl_p (fun _ => o_lt rfl rfl) ?_
    refine wl_nil ?_
    refine rk_seq ?_
    refine rk_if rfl (fun h14 => ?_) (fun h14 => ?_)
    · have hjc : j < (cix C).length := by rw [cix_len]; omega
      have hji : j < (ixz C).length := by omega
      obtain ⟨i, hci⟩ : ∃ i, (cix C)[j] = i := ⟨_, rfl⟩
      have hIj : (ixz C)[j] = (i : Int) := by rw [← hci]; simp [ixz]
      have hiS : i < S'.length := by rw [hSl, ← hle, ← hci]; exact cix_lt C hjc
      obtain ⟨r, hr⟩ : ∃ r, cAt C (i : Int) = r := ⟨_, rfl⟩
      have hwf : (Lit.int .i64 (i : Int)).wf = true := nat_wf (by omega)
      by_cases hjk : j < kp.length
      · have hck := crash_keep (kp := kp) hle hjc hjk
        rw [← hS', hci, hr] at hck
        cases hkj : kp[j] with
        | true =>
          rw [hkj, if_pos rfl] at hck
          refine rk_skip ?_
          refine rk_seq ?_
          refine rk_block ?_
          refine rk_seq ?_
          refine rk_region ?_
          refine wl_p (fun _ => o_move rfl) ?_
          refine wl_p (fun _ => (o_iaddrA1 (j) Tryz.underlying69 Tryz.sizeOf3 rfl rfl rfl (Reads.some_ f11.to_Reads (by decide) (by omega)) (by omega))) ?_
          refine wl_r (o_loadZ Tryz.isAgg3 rfl f11.to_Reads (by omega)) ?_
          refine wl_p (fun _ => o_assign rfl) ?_
          refine wl_p (fun _ => o_assign rfl) ?_
          refine wl_nil ?_
          refine rk_seq ?_
          refine rk_region ?_
          refine wl_p (fun _ => o_move rfl) ?_
          refine wl_p (fun _ => o_move rfl) ?_
          refine wl_p (fun _ => o_len (t := 38) Tryz.underlying38 rfl) ?_
          refine wl_p (fun _ => o_lt rfl rfl) ?_
          refine wl_p (fun _ => o_move rfl) ?_
          refine wl_know 22 true rfl (decide_eq_true (by omega)) ?_
          refine wl_p (fun _ => o_move rfl) ?_
          refine wl_p (fun _ => o_move rfl) ?_
          refine wl_p (fun _ => (o_iaddrA1 (j) Tryz.underlying38 Tryz.sizeOf4 rfl rfl rfl (hk.some_ (by omega)) (by omega))) ?_
          refine wl_r (o_ldBo Tryz.isAgg4 rfl hk (by omega)) ?_
          refine wl_p (fun _ => o_pick_t rfl rfl) ?_
          refine wl_nil ?_
          rw [hkj]
          refine rk_true rfl ?_
          refine rk_draw (id := 7) (none) [0, 1, 2, 4, 0, 0, 32, 64, 128, 0, 768, 2047, 4095] [0, 1, 3, 7, 0, 0, 32, 96, 224, 0, 992, 2047, 4095] 4096 0 [(.p, 0), (.p, 1), (.p, 2), (.r, 3), (.p, 4), (.p, 5), (.p, 6), (.p, 7), (.r, 8), (.p, 9), (.r, 10), (.p, 11), (.l, 12)] (by kernel_rfl) (by kernel_rfl) (by kernel_rfl) (by kernel_rfl) (by kernel_rfl) ?_
          replace hcg := hcg.trans Chg.drew
          replace hk := hk.d
          replace f11 := f11.d
          replace fm := fm.d
          replace fs := fs.d
          replace f := f.d
          refine wl_p (fun _ => o_move rfl) ?_
          refine wl_p (fun _ => o_nil rfl) ?_
          refine wl_p (fun _ => o_faddr (s := 98) (i := 1) (off := 1) Tryz.underlying98 rfl Tryz.sizeOf77 rfl rfl rfl) ?_
          refine wl_r (o_loadbg Tryz.isAgg77 rfl f (by rfl)) ?_
          refine wl_p (fun _ => o_move rfl) ?_
          refine wl_p (fun _ => o_move rfl) ?_
          refine wl_p (fun _ => o_nil rfl) ?_
          refine wl_p (fun _ => o_faddr (s := 98) (i := 2) (off := 2) Tryz.underlying98 rfl Tryz.sizeOf96 rfl rfl rfl) ?_
          refine wl_r (o_loadbg Tryz.isAgg96 rfl f (by rfl)) ?_
          refine wl_p (fun _ => o_move rfl) ?_
          rw [hIj]
          refine wl_r (o_lookS1 Tryz.underlying96 rfl rfl fm hr hwf) ?_
          refine wl_p (fun _ => (o_iaddrA (i) Tryz.underlying77 Tryz.sizeOf95 rfl rfl rfl (fs.some_ (by omega)) (by omega))) ?_
          refine wl_stSec rfl fs rfl (by omega) ?_
          rintro w f_1 g_1 b_1 e
          simp only [drew_size] at e
          have qf_1 := f_1.cap
          have s := g_1.size
          simp only [drew_size] at s
          replace hcg := hcg.trans ((Chg.of_g g_1.g f_1.rng).wide (by omega) (by omega))
          replace f := f.y g_1 (by decide)
          replace fm := fm.y g_1 (by decide)
          replace f11 := f11.y g_1 (by decide)
          replace hk := hk.k g_1.g (f_1.ap (by omega))
          clear fs
          refine wl_nild ?_
          refine rk_blk ?_
          refine rk_region ?_
          refine wl_p (fun _ => o_add rfl rfl (by omega) (by omega)) ?_
          refine wl_p (fun _ => o_move rfl) ?_
          refine wl_nil ?_
          have e2 : (S'.set i (r.getD z256)).length = S'.length := List.length_set ..
          exact rk_againf (Fr.le_of (by kernel_rfl) (by kernel_rfl) (by repeat' constructor)) ⟨j + 1, (j : Int) + 1, S'.set i (r.getD z256), rfl, by omega, by omega, rfl, hck.symm, by rw [e2]; exact f, f_1, fm, f11, hk, hcg⟩ (by omega)
        | false =>
          rw [hkj, if_neg (by simp)] at hck
          refine rk_skip ?_
          refine rk_seq ?_
          refine rk_block ?_
          refine rk_seq ?_
          refine rk_region ?_
          refine wl_p (fun _ => o_move rfl) ?_
          refine wl_p (fun _ => (o_iaddrA1 (j) Tryz.underlying69 Tryz.sizeOf3 rfl rfl rfl (Reads.some_ f11.to_Reads (by decide) (by omega)) (by omega))) ?_
          refine wl_r (o_loadZ Tryz.isAgg3 rfl f11.to_Reads (by omega)) ?_
          refine wl_p (fun _ => o_assign rfl) ?_
          refine wl_p (fun _ => o_assign rfl) ?_
          refine wl_nil ?_
          refine rk_seq ?_
          refine rk_region ?_
          refine wl_p (fun _ => o_move rfl) ?_
          refine wl_p (fun _ => o_move rfl) ?_
          refine wl_p (fun _ => o_len (t := 38) Tryz.underlying38 rfl) ?_
          refine wl_p (fun _ => o_lt rfl rfl) ?_
          refine wl_p (fun _ => o_move rfl) ?_
          refine wl_know 22 true rfl (decide_eq_true (by omega)) ?_
          refine wl_p (fun _ => o_move rfl) ?_
          refine wl_p (fun _ => o_move rfl) ?_
          refine wl_p (fun _ => (o_iaddrA1 (j) Tryz.underlying38 Tryz.sizeOf4 rfl rfl rfl (hk.some_ (by omega)) (by omega))) ?_
          refine wl_r (o_ldBo Tryz.isAgg4 rfl hk (by omega)) ?_
          refine wl_p (fun _ => o_pick_t rfl rfl) ?_
          refine wl_nil ?_
          rw [hkj]
          refine rk_false rfl ?_
          refine rk_skip ?_
          refine rk_blk ?_
          refine rk_region ?_
          refine wl_p (fun _ => o_add rfl rfl (by omega) (by omega)) ?_
          refine wl_p (fun _ => o_move rfl) ?_
          refine wl_nil ?_
          exact rk_againf (Fr.le_of (by kernel_rfl) (by kernel_rfl) (by repeat' constructor)) ⟨j + 1, (j : Int) + 1, S', rfl, by omega, by omega, rfl, hck.symm, f, fs, fm, f11, hk, hcg⟩ (by omega)
      · have hck : crash S C (kp.take (j + 1)) = S' := by rw [hS', List.take_of_length_le (by omega), List.take_of_length_le (by omega)]
        refine rk_skip ?_
        refine rk_seq ?_
        refine rk_block ?_
        refine rk_seq ?_
        refine rk_region ?_
        refine wl_p (fun _ => o_move rfl) ?_
        refine wl_p (fun _ => (o_iaddrA1 (j) Tryz.underlying69 Tryz.sizeOf3 rfl rfl rfl (Reads.some_ f11.to_Reads (by decide) (by omega)) (by omega))) ?_
        refine wl_r (o_loadZ Tryz.isAgg3 rfl f11.to_Reads (by omega)) ?_
        refine wl_p (fun _ => o_assign rfl) ?_
        refine wl_p (fun _ => o_assign rfl) ?_
        refine wl_nil ?_
        refine rk_seq ?_
        refine rk_region ?_
        refine wl_p (fun _ => o_move rfl) ?_
        refine wl_p (fun _ => o_move rfl) ?_
        refine wl_p (fun _ => o_len (t := 38) Tryz.underlying38 rfl) ?_
        refine wl_p (fun _ => o_lt rfl rfl) ?_
        refine wl_p (fun _ => o_move rfl) ?_
        refine wl_know 22 false rfl (decide_eq_false (by omega)) ?_
        refine wl_off ?_
        refine wl_off ?_
        refine wl_off ?_
        refine wl_off ?_
        refine wl_p (fun _ => o_pick_f rfl rfl) ?_
        refine wl_nil ?_
        refine rk_false rfl ?_
        refine rk_skip ?_
        refine rk_blk ?_
        refine rk_region ?_
        refine wl_p (fun _ => o_add rfl rfl (by omega) (by omega)) ?_
        refine wl_p (fun _ => o_move rfl) ?_
        refine wl_nil ?_
        exact rk_againf (Fr.le_of (by kernel_rfl) (by kernel_rfl) (by repeat' constructor)) ⟨j + 1, (j : Int) + 1, S', rfl, by omega, by omega, rfl, hck.symm, f, fs, fm, f11, hk, hcg⟩ (by omega)
    · refine rk_exit rfl ?_
      obtain rfl : j = cnt C := by omega
      rw [crash_take S C _ _ (Nat.le_refl _)] at hS'
      subst hS'
      rw [hSl] at f
      exact rk_tof hj (Fr.le_of (by kernel_rfl) (by kernel_rfl) (by repeat' constructor)) ⟨rfl, f, fs, fm, hcg⟩
  clear f fs fm f11 hcg hk
  rintro fr W ⟨rfl, f, fs, fm, hcg⟩
  first | refine rk_frame (by simp only [List.cons_append, List.nil_append, List.drop_succ_cons, List.drop_zero]; rfl) ?_ | refine wl_frame (by simp only [List.cons_append, List.nil_append, List.drop_succ_cons, List.drop_zero]; rfl) ?_
  refine rk_seq ?_
  refine rk_region ?_
  refine wl_p (fun _ => o_move rfl) ?_
  refine wl_p (fun _ => o_nil rfl) ?_
  refine wl_p (fun _ => o_faddr (s := 98) (i := 2) (off := 2) Tryz.underlying98 rfl Tryz.sizeOf96 rfl rfl rfl) ?_
  refine wl_r (o_loadbg Tryz.isAgg96 rfl f (by rfl)) ?_
  refine wl_clearM Tryz.underlying96 rfl fm ?_
  rintro w f_1 g_1 e
  have s := g_1.size
  replace hcg := hcg.trans (Chg.of_g1 g_1.g (by omega) (by omega))
  replace fs := fs.m g_1
  replace f := f.k g_1.g (ap_some (by omega))
  clear fm
  refine wl_nil ?_
  refine rk_seq ?_
  refine rk_region ?_
  refine wl_p (fun _ => o_assign rfl) ?_
  refine wl_nil ?_
  refine ret1 rfl rfl ?_
  rw [hle] at f_1
  exact ⟨rfl, ⟨⟨A, c, b, by rw [crash_len]; exact f, fs, f_1, h4, h5, h6⟩, hg1, hg2, by have := hcg.size; omega, by rw [List.length_replicate, crash_len], by rw [crash_len]; exact hn1, by rw [crash_len]; exact hn2⟩, hcg⟩
end Go.Proofs.YtnnhenafhalobaaGreat
/-
  Walks: a disk's clone; a disk of an image.
-/
namespace Go.Proofs.YtnnhenafhalobaaGreat
set_option maxRecDepth 100000
open Go.RowKit
section
variable {fn : Func} {F : Ending → World → Prop} {N : Nat} {ks : List K} {ops : Array Oper} {tg : Tags} {l : List Oper} {fr : Fr} {w w0 : World} {ty : TypeId} {pos : String} {aft : Array Edge} {gd : Option (Nat × Bool)} {d j q c2 lo hi lo2 hi2 : Nat} {x y : Operand} {A X : Option Addr} {M : List Sec}
end
section
variable {w w' : World} {bd r b k : Nat} {C : List (Option Sec)} {lf : Int → Bool}
end
section
variable {P : Program} {fn : Func} {F : Ending → World → Prop} {N : Nat} {ks : List K} {ops : Array Oper} {tg : Tags} {l : List Oper} {fr : Fr} {w : World} {ty t : TypeId} {pos : String} {aft : Array Edge} {gd : Option (Nat × Bool)} {d bd b r k : Nat} {x : Operand} {C : List (Option Sec)} {lf : Int → Bool}
end
end Go.Proofs.YtnnhenafhalobaaGreat
/-
  Contracts of the disk's functions, split by what they answer; rows of truth values read.
-/
namespace Go.Proofs.YtnnhenafhalobaaGreat
set_option maxRecDepth 100000
open Go.RowKit
theorem C_dNewOk {n : Int} {m : Nat} {Z : List Sec} {Q : List (Option Sec)} (w : World) (hm : n = (m : Int)) (hZ : List.replicate m z256 = Z) (hQ : List.replicate m none = Q) (h1 : 1 ≤ m) (h2 : m ≤ 16384) :
    CallsR Tryz.prog 10 [.int .i64 n] w fun v w' => ∃ g, v = .tuple #[.pointer (some ⟨g, 0, none⟩), .int .i64 0] ∧ DkAt w' w.heap.size w'.heap.size g Z Q ∧ Below w.heap.size w w' := by
  subst hm; subst hZ; subst hQ
  refine (K_dNew (n := (m : Int)) w).mono ?_
  rintro v w' ⟨h3 | ⟨_, _, g, h4, h5⟩, hw⟩
  · omega
  · exact ⟨g, h4, by simpa using h5, hw⟩
theorem C_dCrashNone {lo hi g : Nat} {S : List Sec} {C C0 : List (Option Sec)} (w : World) (hd : DkAt w lo hi g S C) (hC0 : List.replicate S.length none = C0) :
    CallsR Tryz.prog 21 [.pointer (some ⟨g, 0, none⟩), .slice none 0 0] w fun v w' => v = .int .i64 0 ∧ DkAt w' lo hi g S C0 ∧ Chg lo hi w w' :=
  C_dCrash (lo2 := lo) (hi2 := lo) (kp := []) w hd RdBo.nil_ (crash_nil S C) hC0 (.inl (Nat.le_refl _)) rfl (by simp)
theorem C_dWriteN {lo hi g n cp : Nat} {S : List Sec} {C : List (Option Sec)} {r : List (Option Sec) × Nat} {a : Int} {B : Option Addr} {b : By} (w : World) (hd : DkAt w lo hi g S C) (hb : Rd w B b) (hr : wrC S C a b = r) (wa : (Lit.int .i64 a).wf = true) (hn : n = b.length) (hc : n ≤ cp) :
    CallsR Tryz.prog 76 [.pointer (some ⟨g, 0, none⟩), .int .i64 a, .slice B n cp] w fun v w' => v = .int .i64 (r.2 : Int) ∧ DkAt w' lo hi g S r.1 ∧ Chg lo hi w w' := by
  refine (K_dWrite w hd hb wa hn hc).mono ?_
  rintro v w' ⟨C1, e1, rfl, h1, h2, h3⟩
  rw [hr] at h1
  subst h1
  exact ⟨rfl, h2, h3⟩
theorem C_dReadN {lo hi g : Nat} {S : List Sec} {C : List (Option Sec)} {a : Int} {r : By × Nat} (w : World) (hd : DkAt w lo hi g S C) (hr : rdD S C a = r) (wa : (Lit.int .i64 a).wf = true) :
    CallsR Tryz.prog 83 [.pointer (some ⟨g, 0, none⟩), .int .i64 a] w fun v w' => ∃ (A : Option Addr) (c : Nat), v = .tuple #[.slice A r.1.length c, .int .i64 (r.2 : Int)] ∧ RdB w' w.heap.size w'.heap.size A r.1 ∧ r.1.length ≤ c ∧ Below w.heap.size w w' := by
  refine (K_dRead w hd wa).mono ?_
  rintro v w' ⟨A, c, r1, e1, rfl, h1, h2, h3⟩
  rw [hr] at h1
  subst h1
  exact ⟨A, c, rfl, h2, h3⟩
theorem rsl_bools {w : World} {A : Option Addr} {l : List Bool} (h : RSl gBool w A l) : Reads w 1 A l.length (l.map Value.bool) := by
  obtain ⟨xs, h1, h2⟩ := h
  have hl : xs.length = l.length := by have := h1.1; simpa [gBool, GoT.flat] using this
  have e : xs = l.map Value.bool := by
    apply List.ext_getElem
    · rw [hl, List.length_map]
    · intro i hi1 hi2
      obtain ⟨h3, _⟩ := h2 i (by omega)
      have h4 : part xs 1 i = [xs[i]] := by
        unfold part
        rw [Nat.mul_one, List.drop_eq_getElem_cons hi1]; rfl
      have h5 : part xs 1 i = [Value.bool l[i]] := h3
      rw [h4] at h5
      rw [List.getElem_map]
      injection h5
  rw [← e]; exact h1
end Go.Proofs.YtnnhenafhalobaaGreat
