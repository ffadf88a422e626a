/-
  Acts as they lie in memory, whether there is little of them; a list of envelopes whose bytes lie where they lay.
-/
import Derived.Test.YtaldpegegekbjaaNetL
namespace Go.Proofs.Ytaldpegegekbjaa
open Go.RowKit
/-- Kind, From, (To, Raw), N. -/
abbrev Ac := Int × Int × (Int × By) × Int
def gAct : GoT Ac := (gInt .i64).pair ((gInt .i64).pair (((gInt .i64).pair gBytes).pair (gInt .i64)))
def RAc (w : World) (A : Option Addr) (L : List Ac) : Prop := RSl gAct w A L
section
variable {w w' : World} {A : Option Addr} {L : List Ac}
theorem RAc.u (h : RAc w A L) (hb : Below w.heap.size w w') : RAc w' A L := RSl.u h hb
theorem RAc.d (h : RAc w A L) : RAc w.drew A L := RSl.u h (below_drew w)
theorem RAc.some_ (h : RAc w A L) (hl : 0 < L.length) : A = some (A.getD ⟨0, 0, none⟩) := RSl.some_ h (by decide) hl
theorem RAc.elem (h : RAc w A L) {i : Nat} (hi : i < L.length) : ∃ A1 c1, CellsAt w A (i * 5) [.int .i64 L[i].1, .int .i64 L[i].2.1, .int .i64 L[i].2.2.1.1, .slice A1 L[i].2.2.1.2.length c1, .int .i64 L[i].2.2.2] ∧ Rd w A1 L[i].2.2.1.2 ∧ L[i].2.2.1.2.length ≤ c1 ∧ c1 ≤ maxLen ∧
    (Lit.int .i64 L[i].1).wf = true ∧ (Lit.int .i64 L[i].2.1).wf = true ∧ (Lit.int .i64 L[i].2.2.1.1).wf = true ∧ (Lit.int .i64 L[i].2.2.2).wf = true := by
  obtain ⟨cs, h1, x, y, rfl, ⟨rfl, w1⟩, y1, y2, rfl, ⟨rfl, w2⟩, z1, z2, rfl, ⟨u1, u2, rfl, ⟨rfl, w3⟩, A1, c1, rfl, h2, h3, h4⟩, rfl, w4⟩ := RSl.elem h (by decide) hi
  exact ⟨A1, c1, h1, h2, h3, h4, w1, w2, w3, w4⟩
end
section
variable {fn : Func} {F : Ending → World → Prop} {N : Nat} {ks : List K} {ops : Array Oper} {tg : Tags} {l : List Oper} {fr : Fr} {w w0 : World} {ty : TypeId} {pos : String} {aft : Array Edge} {gd : Option (Nat × Bool)} {d j : Nat} {x : Operand} {A : Option Addr} {L : List Ac}
--@ rule load l wl_ldAcRaw
theorem wl_ldAcRaw (hx : fr.ev x = some (.pointer (some (adr A (j * 5 + 2 + 1))))) (hr : RAc w0 A L) (hb : Below w0.heap.size w0 w) (hj : j < L.length)
    (hk : ∀ A1 c1, Rd w0 A1 L[j].2.2.1.2 → L[j].2.2.1.2.length ≤ c1 → c1 ≤ maxLen → WL Try.prog fn F N ks ops tg.tail l ((d, .slice A1 L[j].2.2.1.2.length c1) :: fr) w)
    (ht : tg.reads = true := by rfl) (hg : onG ops fr gd = true := by rfl) (hd : Nat.blt d N = true := by rfl) : WL Try.prog fn F N ks ops tg (⟨some d, .load 32 x, ty, pos, aft, gd⟩ :: l) fr w := by
  obtain ⟨A1, c1, h1, h2, h3, h4, _⟩ := hr.elem hj
  exact wl_r (o_load (t := 32) Try.isAgg32 hx (h1.u hb 3 _ rfl)) (hk A1 c1 h2 h3 h4) ht hg hd
--@ rule load l wl_ldAct
theorem wl_ldAct (hx : fr.ev x = some (.pointer (some (adr A (j * 5))))) (hr : RAc w0 A L) (hb : Below w0.heap.size w0 w) (hj : j < L.length)
    (hk : ∀ A1 c1, Rd w0 A1 L[j].2.2.1.2 → L[j].2.2.1.2.length ≤ c1 → c1 ≤ maxLen → (Lit.int .i64 L[j].1).wf = true → (Lit.int .i64 L[j].2.1).wf = true → (Lit.int .i64 L[j].2.2.1.1).wf = true → (Lit.int .i64 L[j].2.2.2).wf = true →
      WL Try.prog fn F N ks ops tg.tail l ((d, .agg #[.int .i64 L[j].1, .int .i64 L[j].2.1, .int .i64 L[j].2.2.1.1, .slice A1 L[j].2.2.1.2.length c1, .int .i64 L[j].2.2.2]) :: fr) w)
    (ht : tg.reads = true := by rfl) (hg : onG ops fr gd = true := by rfl) (hd : Nat.blt d N = true := by rfl) : WL Try.prog fn F N ks ops tg (⟨some d, .load 36 x, ty, pos, aft, gd⟩ :: l) fr w := by
  obtain ⟨A1, c1, h1, h2, h3, h4, w1, w2, w3, w4⟩ := hr.elem hj
  refine wl_r (o_loadn (cs := [.int .i64 L[j].1, .int .i64 L[j].2.1, .int .i64 L[j].2.2.1.1, .slice A1 L[j].2.2.1.2.length c1, .int .i64 L[j].2.2.2]) Try.isAgg36 Try.sizeOf36 hx (fun i u hu => ?_)) (hk A1 c1 h2 h3 h4 w1 w2 w3 w4) ht hg hd
  rw [adr_add]
  exact h1.u hb i u hu
end
def lightAc (L : List Ac) : Prop := L.length ≤ 120 ∧ ∀ a ∈ L, a.2.2.1.2.length ≤ 200
theorem C_light {A : Option Addr} {L : List Ac} {n c : Nat} (w : World) (hL : RAc w A L) (hn : n = L.length) (hc : n ≤ c) (hm : c ≤ maxLen) :
    CallsR Try.prog 8 [.slice A n c] w fun v w' => ∃ b, v = .bool b ∧ (b = true → lightAc L) ∧ Below w.heap.size w w' := by
  subst hn
  refine callsR Try.func8 rfl rfl (by kernel_rfl) rfl ?_
  have hw := Below.refl w.heap.size w
  have hml : L.length ≤ maxLen := by omega
  refine rk_seq ?_
  refine rk_region ?_
  refine wl_p (fun _ => o_assign rfl) ?_
  refine wl_nil ?_
  refine rk_seq ?_
  refine rk_seq ?_
  refine rk_region ?_
  refine wl_p (fun _ => o_assign rfl) ?_
  refine wl_nil ?_
  refine rk_block ?_
  refine rk_joinf (fun fb fr w2 => fr = [] ++ fb.drop 1 ∧ (L.length ≤ 120 → ∀ a ∈ L, a.2.2.1.2.length ≤ 200) ∧ Below w.heap.size w w2) ?_ (fun ks hj => ?_)
  rotate_left
  · refine rk_loopf (fun fb m fr w2 => ∃ (i : Nat) (v : Int), fr = [(3, .int .i64 v)] ++ fb.drop 1 ∧ v = i ∧ i ≤ L.length ∧ i ≤ 121 ∧ m = 121 - i ∧ (∀ a ∈ L.take i, a.2.2.1.2.length ≤ 200) ∧ Below w.heap.size w w2) (n := 121) (Fr.le_of (by kernel_rfl) (by kernel_rfl) (by repeat' constructor)) ⟨0, _, rfl, rfl, by omega, by omega, rfl, by simp, hw⟩ ?_
    clear hw
    rintro m fr w2 ⟨i, v, rfl, rfl, hi, hi2, rfl, hall, hw⟩
    first | refine rk_frame (by simp only [List.cons_append, List.nil_append, List.drop_succ_cons, List.drop_zero]; rfl) ?_ | refine wl_frame (by simp only [List.cons_append, List.nil_append, List.drop_succ_cons, List.drop_zero]; rfl) ?_
    refine rk_seq ?_
    refine rk_seq ?_
    refine rk_region ?_
    refine wl_p (fun _ => o_move rfl) ?_
    refine wl_p (fun _ => o_move rfl) ?_
    refine wl_p (fun _ => o_len (t := 22) Try.underlying22 rfl) ?_
    refine wl_p (fun _ => o_lt rfl rfl) ?_
    refine wl_p (fun _ => o_move rfl) ?_
    refine wl_bool 8 rfl (fun h8 => ?_) (fun h8 => ?_) <;> try simp only [decide_eq_true_eq, decide_eq_false_iff_not, Bool.not_eq_true', Bool.not_eq_false', Bool.and_eq_true, Bool.and_eq_false_iff, Bool.or_eq_true, Bool.or_eq_false_iff] at h8
    · refine wl_p (fun _ => o_move rfl) ?_
      refine wl_p (fun _ => o_le rfl rfl) ?_
      refine wl_p (fun _ => o_pick_t rfl rfl) ?_
      refine wl_nil ?_
      refine rk_if rfl (fun h11 => ?_) (fun h11 => ?_)
      · have hil : i < L.length := by omega
        refine rk_skip ?_
        refine rk_seq ?_
        refine rk_block ?_
        refine rk_seq ?_
        refine rk_region ?_
        refine wl_p (fun _ => o_move rfl) ?_
        refine wl_p (fun _ => o_move rfl) ?_
        refine wl_p (fun _ => (o_iaddrA (i) Try.underlying22 Try.sizeOf36 rfl rfl rfl (hL.some_ (by omega)) (by omega))) ?_
        refine wl_p (fun _ => (o_faddrR rfl Try.underlying36 (by rfl) Try.sizeOf34 (by rfl) (by rfl))) ?_
        refine wl_p (fun _ => (o_faddrR rfl Try.underlying34 (by rfl) Try.sizeOf32 (by rfl) (by rfl))) ?_
        refine wl_ldAcRaw rfl hL hw (by omega) ?_
        rintro A119 c119 f19 i19 i19_1
        refine wl_p (fun _ => o_len (t := 32) Try.underlying32 rfl) ?_
        refine wl_p (fun _ => o_gt rfl rfl) ?_
        refine wl_nil ?_
        refine rk_if rfl (fun h21 => ?_) (fun h21 => ?_)
        · refine rk_seq ?_
          refine rk_region ?_
          refine wl_p (fun _ => o_assign rfl) ?_
          refine wl_nil ?_
          refine ret1 rfl rfl ?_
          exact ⟨false, rfl, (fun h => by cases h), hw⟩
        · refine rk_skip ?_
          refine rk_blk ?_
          refine rk_region ?_
          refine wl_p (fun _ => o_move rfl) ?_
          refine wl_p (fun _ => o_add rfl rfl (by omega) (by omega)) ?_
          refine wl_p (fun _ => o_assign rfl) ?_
          refine wl_nil ?_
          refine rk_againf (Fr.le_of (by kernel_rfl) (by kernel_rfl) (by repeat' constructor)) ⟨i + 1, _, rfl, by omega, by omega, by omega, rfl, ?_, hw⟩ (by omega)
          rw [List.take_succ_eq_append_getElem hil]
          intro a ha
          rcases List.mem_append.1 ha with ha | ha
          · exact hall a ha
          · rw [List.mem_singleton] at ha; subst ha; omega
      · refine rk_exit rfl ?_
        exact rk_tof hj (Fr.le_of (by kernel_rfl) (by kernel_rfl) (by repeat' constructor)) ⟨rfl, fun h => by omega, hw⟩
    · refine wl_off ?_
      refine wl_off ?_
      refine wl_p (fun _ => o_pick_f rfl rfl) ?_
      refine wl_nil ?_
      refine rk_false rfl ?_
      refine rk_exit rfl ?_
      obtain rfl : i = L.length := by omega
      rw [List.take_length] at hall
      exact rk_tof hj (Fr.le_of (by kernel_rfl) (by kernel_rfl) (by repeat' constructor)) ⟨rfl, fun _ => hall, hw⟩
  clear hw
  rintro fr w2 ⟨rfl, hall, hw⟩
  first | refine rk_frame (by simp only [List.cons_append, List.nil_append, List.drop_succ_cons, List.drop_zero]; rfl) ?_ | refine wl_frame (by simp only [List.cons_append, List.nil_append, List.drop_succ_cons, List.drop_zero]; rfl) ?_
  refine rk_seq ?_
  refine rk_region ?_
  refine wl_p (fun _ => o_move rfl) ?_
  refine wl_p (fun _ => o_len (t := 22) Try.underlying22 rfl) ?_
  refine wl_p (fun _ => o_le rfl rfl) ?_
  refine wl_p (fun _ => o_assign rfl) ?_
  refine wl_nil ?_
  refine ret1 rfl rfl ?_
  exact ⟨_, rfl, (fun h => by have h := of_decide_eq_true h; exact ⟨by omega, hall (by omega)⟩), hw⟩
/-- Bytes that lie as they lay at w0. -/
def gBytesAt (w0 : World) : GoT By where
  sz := 1
  tys := []
  R _ cs l := ∃ A c, cs = [.slice A l.length c] ∧ Rd w0 A l ∧ l.length ≤ c ∧ c ≤ maxLen
  T _ cs l := ∃ A c, cs = [.slice A l.length c] ∧ Rd w0 A l ∧ l.length ≤ c ∧ c ≤ maxLen
  len h := by obtain ⟨A, c, rfl, _⟩ := h; rfl
  u h _ := h
  tr h := h
  tu h _ := h
  ty h _ _ := h
  tm h _ := h
def gEnvW (w0 : World) : GoT En := (gInt .i64).pair ((gInt .i64).pair (gBytesAt w0))
theorem gEnvW_one (w0 : World) (w : World) (cs : List Value) (e : En) (h : (gEnvW w0).T w cs e) : ∀ u ∈ cs, u.oneCell' = true := by
  obtain ⟨c1, c2, rfl, ⟨rfl, _⟩, c3, c4, rfl, ⟨rfl, _⟩, A, c, rfl, _⟩ := h
  intro u hu
  simp only [List.cons_append, List.nil_append, List.mem_cons, List.not_mem_nil, or_false] at hu
  rcases hu with rfl | rfl | rfl <;> rfl
theorem gEnvW_R {w0 w : World} (hb : Below w0.heap.size w0 w) {cs : List Value} {e : En} (h : (gEnvW w0).T w cs e) : gEnv.R w cs e := by
  obtain ⟨c1, c2, rfl, h1, c3, c4, rfl, h2, A, c, h3, h4, h5⟩ := h
  exact ⟨c1, _, rfl, h1, c3, c4, rfl, h2, A, c, h3, h4.below hb, h5⟩
/-- A row of envelopes of the call's own, in block q; their bytes lie where they lay at w0. -/
def OwnW (w w0 : World) (q : Nat) (A : Option Addr) (c : Nat) (L : List En) : Prop := OwnS (gEnvW w0) 38 w q (q + 1) A c L
section
variable {w0 w w' : World} {p c : Nat} {A : Option Addr} {L : List En}
theorem OwnW.u (h : OwnW w w0 p A c L) (hb : Below w.heap.size w w') : OwnW w' w0 p A c L := OwnS.u h hb
theorem OwnW.d (h : OwnW w w0 p A c L) : OwnW w.drew w0 p A c L := OwnS.d h
theorem OwnW.y {e' : TypeId} {row : Option Nat} (h : OwnW w w0 p A c L) (hg : Grew w w' e' row) (hne : e' ∉ [38]) : OwnW w' w0 p A c L := OwnS.y h hg hne
theorem OwnW.q {e' : TypeId} {row : Option Nat} (h : OwnW w w0 p A c L) (hg : Grew w w' e' row) (ha : Ap row p (p + 1)) (hne : e' ∉ []) : OwnW w' w0 p A c L := OwnS.q h hg ha hne
theorem OwnW.ap {lo' hi' : Nat} (h : OwnW w w0 p A c L) (hd : p + 1 ≤ lo' ∨ hi' ≤ p) : Ap (blk A) lo' hi' := OwnS.ap h hd
theorem OwnW.cap (h : OwnW w w0 p A c L) : L.length ≤ c := OwnS.cap h
theorem OwnW.nil_ : OwnW w w0 p none 0 [] := OwnS.nil_
theorem OwnW.rd (h : OwnW w w0 p A c L) (hb : Below w0.heap.size w0 w) : REn w A L := by
  obtain ⟨xs, h1, h2⟩ := h
  exact ⟨xs, RowH.rd h1, fun i hi => gEnvW_R hb (h2 i hi)⟩
end
/-- A row lies in one block. -/
theorem OwnS.pin {α : Type} {X : GoT α} {e : TypeId} {w : World} {lo hi c : Nat} {A : Option Addr} {L : List α} (h : OwnS X e w lo hi A c L) (hlo : lo ≤ w.heap.size) : ∃ q, lo ≤ q ∧ q ≤ w.heap.size ∧ OwnS X e w q (q + 1) A c L ∧ ∀ k, blk A = some k → k = q := by
  obtain ⟨xs, h1, h2⟩ := h
  cases hA : blk A with
  | none =>
    refine ⟨lo, Nat.le_refl _, hlo, ⟨xs, ⟨h1.o, fun k hk => ?_⟩, h2⟩, fun k hk => by cases hk⟩
    rw [hA] at hk; cases hk
  | some k =>
    have hk := h1.lt k hA
    refine ⟨k, hk.1, by omega, ⟨xs, ⟨⟨h1.o.1, ?_⟩, fun j hj => ?_⟩, h2⟩, fun j hj => by injection hj with hj; exact hj.symm⟩
    · rcases h1.o.2 with h3 | ⟨g, cap, cur, h3, h4, h5⟩
      · exact .inl h3
      · refine .inr ⟨g, cap, cur, h3, ?_, h5⟩
        injection h3 with h3
        subst h3
        have : g = k := by simpa [blk] using hA
        omega
    · rw [hA] at hj; injection hj with hj; omega
/-- The same, as it is read by an append. -/
def RWT (w w0 : World) (A : Option Addr) (L : List En) : Prop := RSlT (gEnvW w0) 38 w A L
section
variable {w0 w w' : World} {p c : Nat} {A : Option Addr} {L : List En}
theorem RWT.u (h : RWT w w0 A L) (hb : Below w.heap.size w w') : RWT w' w0 A L := RSlT.u h hb
theorem RWT.d (h : RWT w w0 A L) : RWT w.drew w0 A L := RSlT.d h
theorem RWT.nil_ : RWT w w0 none [] := RSlT.nil_
theorem OwnW.to_RWT (h : OwnW w w0 p A c L) : RWT w w0 A L := OwnS.to_RSlT h
theorem OwnW.takeT (h : OwnW w w0 p A c L) (k : Nat) (hk : k ≤ L.length) : RWT w w0 A (L.take k) := OwnS.to_RSlT (OwnS.take h k hk)
theorem OwnW.dropT (h : OwnW w w0 p A c L) (k : Nat) (hk : k ≤ L.length) : RWT w w0 (cutA A c 3 k) (L.drop k) := OwnS.drop h k hk
theorem OwnW.ge_ (h : OwnW w w0 p A c L) {B : Nat} (hB : B ≤ p) : ∀ k, blk A = some k → B ≤ k := fun k hk => by
  obtain ⟨xs, h1, _⟩ := h
  have := (RowH.lt h1 k hk).1
  omega
theorem OwnW.some_ (h : OwnW w w0 p A c L) (hl : 0 < L.length) : A = some (A.getD ⟨0, 0, none⟩) := by
  obtain ⟨xs, h1, h2⟩ := h
  have h3 : RSl (gEnvW w0) w A L := ⟨xs, RowH.rd h1, fun i hi => (gEnvW w0).tr (h2 i hi)⟩
  exact RSl.some_ h3 (show 0 < 3 by decide) hl
theorem OwnW.elem (h : OwnW w w0 p A c L) {i : Nat} (hi : i < L.length) : ∃ A1 c1, CellsAt w A (i * 3) [.int .i64 L[i].1, .int .i64 L[i].2.1, .slice A1 L[i].2.2.length c1] ∧ Rd w0 A1 L[i].2.2 ∧ L[i].2.2.length ≤ c1 ∧ c1 ≤ maxLen ∧ (Lit.int .i64 L[i].1).wf = true ∧ (Lit.int .i64 L[i].2.1).wf = true := by
  obtain ⟨xs, h1, h2⟩ := h
  have h3 : RSl (gEnvW w0) w A L := ⟨xs, RowH.rd h1, fun i hi => (gEnvW w0).tr (h2 i hi)⟩
  obtain ⟨cs, h1, x, y, rfl, ⟨rfl, w1⟩, y1, y2, rfl, ⟨rfl, w2⟩, A1, c1, rfl, h4, h5, h6⟩ := RSl.elem h3 (show 0 < 3 by decide) hi
  exact ⟨A1, c1, h1, h4, h5, h6, w1, w2⟩
end
theorem part_rs {α : Type} {X : GoT α} {w : World} {M : List α} {ms : List Value} (h0 : 0 < X.sz) (hml : ms.length = M.length * X.sz) (r3 : ∀ i (h : i < M.length), X.T w (part ms X.sz i) M[i]) (h1 : ∀ w cs a, X.T w cs a → ∀ u ∈ cs, u.oneCell' = true) : ∀ u ∈ ms, u.oneCell' = true := fun u hu => by
  obtain ⟨i, hi, rfl⟩ := List.getElem_of_mem hu
  have hq : i / X.sz < M.length := (Nat.div_lt_iff_lt_mul h0).2 (by omega)
  refine h1 _ _ _ (r3 _ hq) _ (List.mem_of_getElem? (i := i % X.sz) ?_)
  rw [part_get (Nat.mod_lt _ h0), Nat.div_add_mod' i X.sz]
  exact List.getElem?_eq_getElem hi
theorem part_app {α : Type} {X : GoT α} {w : World} {L M : List α} {xs ms : List Value} (hxl : xs.length = L.length * X.sz) (g2 : ∀ i (h : i < L.length), X.T w (part xs X.sz i) L[i]) (r3 : ∀ i (h : i < M.length), X.T w (part ms X.sz i) M[i]) :
    ∀ i (h : i < (L ++ M).length), X.T w (part (xs ++ ms) X.sz i) (L ++ M)[i] := fun i hi => by
  rcases Nat.lt_or_ge i L.length with hl | hl
  · rw [part_append_lt hxl hl, List.getElem_append_left hl]
    exact g2 i hl
  · rw [List.getElem_append_right hl]
    have hi2 : i - L.length < M.length := by rw [List.length_append] at hi; omega
    have := r3 _ hi2
    have e3 : part (xs ++ ms) X.sz i = part ms X.sz (i - L.length) := by
      unfold part
      rw [show i * X.sz = xs.length + (i - L.length) * X.sz by rw [hxl, ← Nat.add_mul]; congr 1; omega, ← List.drop_drop, List.drop_left]
    rw [e3]; exact this
section
variable {fn : Func} {F : Ending → World → Prop} {N : Nat} {ks : List K} {ops : Array Oper} {tg : Tags} {l : List Oper} {fr : Fr} {w w0 : World} {ty : TypeId} {pos : String} {aft : Array Edge} {gd : Option (Nat × Bool)} {d n j q c p : Nat} {x y : Operand} {A B : Option Addr} {L M : List En}
theorem wl_vB {P : Program} {op : Op} {v : Value} {w' : World} (h : OpV P N fr w op ty v w') (hk : WL P fn F N ks ops tg.tail l ((d, v) :: fr) w') (ht : tg.loud = true := by rfl) (hg : onG ops fr gd = true := by rfl) (hd : Nat.blt d N = true := by rfl) (hq : tg.calm = false ∨ tg.rw.ok w w' := by exact .inl rfl) :
    WL P fn F N ks ops tg (⟨some d, op, ty, pos, aft, gd⟩ :: l) fr w :=
  fun a ha => left_loud ht fun K hK => by
    rw [if_pos (wanted_on (o := ⟨some d, op, ty, pos, aft, gd⟩) ha hg)]
    unfold Oper.wp
    rw [h a ha _ rfl rfl]
    exact hK _ _ hq (hk _ (ha.put hd v))
--@ rule append l wl_appW
theorem wl_appW (hx : fr.ev x = some (.slice A n c)) (hown : OwnW w w0 p A c L) (hn : n = L.length) (hy : fr.ev y = some (.slice B j q)) (hr : RWT w w0 B M) (hj : j = M.length) (hlen : L.length + M.length ≤ 1000000) (hB : p ≤ w.heap.size)
    (hk : ∀ A' c' w' p', OwnW w' w0 p' A' c' (L ++ M) → (p' = p ∨ (w.heap.size ≤ p' ∧ p' < w'.heap.size)) → p ≤ p' → p' ≤ w'.heap.size → Grew w w' 38 (blk A) → Below p w w' → WL Try.prog fn F N ks ops tg.tail l ((d, .slice A' (L ++ M).length c') :: fr) w')
    (ht : tg.loud = true := by rfl) (hg : onG ops fr gd = true := by rfl) (hd : Nat.blt d N = true := by rfl) (hq : tg.calm = false ∨ tg.rw.may (blk A) := by exact .inl rfl) :
    WL Try.prog fn F N ks ops tg (⟨some d, .call { callee := .builtin .append, args := #[x, y], argTypes := #[25, 25] }, ty, pos, aft, gd⟩ :: l) fr w := by
  subst hn; subst hj
  have hlo := hown.ge_ (Nat.le_refl _)
  obtain ⟨xs, g1, g2⟩ := hown
  obtain ⟨ms, r1, r2, r3⟩ := hr
  have hT := g1.ty
  obtain ⟨i, hi, hz, hs, hb⟩ := info_parts Try.rowEnv.hi
  obtain ⟨v', w', hrun, h2, h3, h4⟩ := run_append_any (P := Try.prog) w p 25 ty 38 i _ 3 40 Try.rowEnv.ht hi hz hs hb Try.rowEnv.hz (by omega) (.slice A L.length c) L.length xs g1.o B M.length q ms r1 (part_rs (X := gEnvW w0) (show 0 < 3 by decide) r1.1 r3 (gEnvW_one w0)) (by simp only [maxLen]; omega) (by omega) hB
  obtain ⟨A', c', rfl⟩ := ownsRow_shape h2
  rw [blk_own] at h3 h4
  rw [blk_own] at h4
  have hG : Grew w w' 38 (blk A) := ⟨h3, hT⟩
  have e2 : (L ++ M).length = L.length + M.length := List.length_append
  rw [← e2] at h2 hrun
  have hO : OwnS (gEnvW w0) 38 w' p w'.heap.size A' c' (L ++ M) := ⟨_, ⟨h2, fun k hk => (World.ownsRow.lt h2 k (by rw [blk_own]; exact hk)).2⟩, part_app g1.rd.1 g2 r3⟩
  obtain ⟨p', i1, i2, i3, i4⟩ := hO.pin (by have := h3.size; omega)
  have hbl : Below p w w' := hG.below hB hlo
  have fin : ∃ p', OwnW w' w0 p' A' c' (L ++ M) ∧ (p' = p ∨ (w.heap.size ≤ p' ∧ p' < w'.heap.size)) ∧ p' ≤ w'.heap.size := by
    cases hA' : blk A' with
    | none =>
      obtain ⟨ys, k1, k2⟩ := hO
      refine ⟨p, ⟨ys, ⟨k1.o, fun k hk => ?_⟩, k2⟩, .inl rfl, by omega⟩
      rw [hA'] at hk; cases hk
    | some k =>
      have hk := i4 k hA'
      have hk2 : k < w'.heap.size := (World.ownsRow.lt h2 k (by rw [blk_own]; exact hA')).2
      rcases h4 with h4 | h4
      · rw [hA'] at h4
        have h5 := hlo k h4.symm
        have h6 := g1.hi k h4.symm
        exact ⟨p', i3, .inl (by omega), i2⟩
      · rw [hA'] at h4; injection h4 with h4
        exact ⟨p', i3, .inr ⟨by omega, by omega⟩, i2⟩
  obtain ⟨p'', k1, k2, k3⟩ := fin
  exact wl_vB (o_builtin (xs := [x, y]) (vs := [.slice A L.length c, .slice B M.length q]) (by simp [Fr.evs, hx, hy]) (by simp [builtin, hrun]) (by simp)) (hk A' c' w' p'' k1 k2 (by omega) k3 hG hbl) ht hg hd (hq.imp id (Rw.of_may h3))
theorem wl_litSs {α : Type} {X : GoT α} {t e : TypeId} {z : Value} {bytes : Nat} {L : List α} {ps : Array (Nat × Operand)} {xs : List Operand} {vs : List Value} (T : RowT Try.prog t e z X.sz bytes) (hs : ∀ w, (sizeOf e).run Try.prog w = .ok X.sz w) (hz : ∀ w, (zeroValue e).run Try.prog w = .ok z w) (hxs : ps.toList.map Prod.snd = xs) (hps : ps = ((List.range' 0 n).zip xs).toArray) (hx : fr.evs xs = some vs) (hn : vs.length = n) (hL : L.length = n)
    (hX : ∀ i (h : i < L.length), ∃ v, vs[i]? = some v ∧ v.cells.size = X.sz ∧ X.T w v.cells.toList L[i]) (hm : Nat.ble (n * X.sz) 1000000 = true)
    (hk : ∀ A w', OwnS X e w' w.heap.size (w.heap.size + 1) A n L → Below w.heap.size w w' → w'.heap.size = w.heap.size + 1 → WL Try.prog fn F N ks ops tg.tail l ((d, .slice A n n) :: fr) w')
    (ht : tg.loud = true := by rfl) (hg : onG ops fr gd = true := by rfl) (hd : Nat.blt d N = true := by rfl) : WL Try.prog fn F N ks ops tg (⟨some d, .buildSlice t n ps, ty, pos, aft, gd⟩ :: l) fr w := by
  subst hps
  refine wl_litn T hs hz n hx hn (fun v hv => ?_) hm (fun w' h1 h2 h3 => hk _ w' ⟨_, ⟨?_, fun k hk => ?_⟩, fun i h => X.tu (litS_part (w := w) (by omega) hX i h) h2⟩ h2 h3) ht hg hd
  · obtain ⟨j, hj, rfl⟩ := List.getElem_of_mem hv
    obtain ⟨u, h1, h2, _⟩ := hX j (by omega)
    rw [List.getElem?_eq_getElem hj] at h1
    injection h1 with h1
    rw [h1]; exact h2
  · rw [hL]; exact h1 _ (Nat.le_refl _)
  · have : w.heap.size = k := by simpa [blk] using hk
    omega
--@ rule buildSlice l wl_litW0
theorem wl_litW0 (hw : Below w0.heap.size w0 w)
    (hk : ∀ A w' p', OwnW w' w0 p' A 0 [] → w.heap.size ≤ p' → p' < w'.heap.size → Below w.heap.size w w' → WL Try.prog fn F N ks ops tg.tail l ((d, .slice A 0 0) :: fr) w')
    (ht : tg.loud = true := by rfl) (hg : onG ops fr gd = true := by rfl) (hd : Nat.blt d N = true := by rfl) : WL Try.prog fn F N ks ops tg (⟨some d, .buildSlice 25 0 #[], ty, pos, aft, gd⟩ :: l) fr w := by
  refine wl_litSs (X := gEnvW w0) (L := []) (xs := []) (vs := []) Try.rowEnv Try.sizeOf38 Try.zeroValue38 rfl rfl rfl rfl rfl (fun i h => absurd h (Nat.not_lt_zero _)) rfl (fun A w' h1 h2 h3 => hk A w' _ h1 (Nat.le_refl _) (by omega) h2) ht hg hd
--@ rule buildSlice l wl_litW1
theorem wl_litW1 {ps : Array (Nat × Operand)} {xs : List Operand} {A1 : Option Addr} {n1 c1 : Nat} {p1 : By} {f0 t0 : Int} (hxs : ps.toList.map Prod.snd = xs) (hx : fr.evs xs = some [.agg #[.int .i64 f0, .int .i64 t0, .slice A1 n1 c1]]) (h1 : Rd w0 A1 p1) (hn1 : n1 = p1.length) (hc : n1 ≤ c1) (hm : c1 ≤ maxLen) (wf : (Lit.int .i64 f0).wf = true) (wt : (Lit.int .i64 t0).wf = true) (hps : ps = ((List.range' 0 1).zip xs).toArray)
    (hk : ∀ A w' p', OwnW w' w0 p' A 1 [(f0, t0, p1)] → w.heap.size ≤ p' → p' < w'.heap.size → Below w.heap.size w w' → WL Try.prog fn F N ks ops tg.tail l ((d, .slice A 1 1) :: fr) w')
    (ht : tg.loud = true := by rfl) (hg : onG ops fr gd = true := by rfl) (hd : Nat.blt d N = true := by rfl) : WL Try.prog fn F N ks ops tg (⟨some d, .buildSlice 25 1 ps, ty, pos, aft, gd⟩ :: l) fr w := by
  subst hn1
  refine wl_litSs (X := gEnvW w0) (L := [(f0, t0, p1)]) Try.rowEnv Try.sizeOf38 Try.zeroValue38 hxs hps hx rfl rfl (fun i h => ?_) rfl (fun A w' h1 h2 h3 => hk A w' _ h1 (Nat.le_refl _) (by omega) h2) ht hg hd
  · obtain rfl : i = 0 := by simp at h; omega
    exact ⟨_, rfl, rfl, [_], _, rfl, ⟨rfl, wf⟩, [_], _, rfl, ⟨rfl, wt⟩, A1, c1, rfl, h1, hc, hm⟩
end
theorem opens_Act : Opens Try.prog 36 gAct :=
  have hb : Opens Try.prog 32 gBytes := opens_bytes Try.underlying32 Try.underlying5 (by kernel_rfl) (by kernel_rfl)
  have hi : Opens Try.prog 3 (gInt .i64) := opens_int Try.underlying3 (by kernel_rfl)
  opens_struct Try.underlying36 (by kernel_rfl)
    (.more hi rfl (.more hi rfl (.more (opens_struct Try.underlying34 (by kernel_rfl) (.more hi rfl (.one hb rfl))) rfl (.one hi rfl))))
theorem arg_Acts {H : Type} {enc : TypeId × Value → H} {W : World} {base : Nat} {v : Value} {d : DataW H} {p : List MemPlace} (hok : Value.okWide Try.prog W .any base 22 v) (h : DataW.Trod enc Try.prog W 0 (fun _ => true) true 22 v d p) :
    ∃ (A : Option Addr) (c : Nat) (L : List Ac), v = .slice A L.length c ∧ RAc W A L ∧ L.length ≤ c ∧ c ≤ maxLen := by
  obtain ⟨L, h1⟩ := open_slc (X := GoT.slice 36 gAct) (opens_slice Try.underlying22 (by kernel_rfl) (by decide) opens_Act) Try.underlying22 hok h
  obtain ⟨A, c, e, h2, h3, h4⟩ := slice_RSl h1
  injection e with e
  exact ⟨A, c, L, e, h2, h3, h4⟩
end Go.Proofs.Ytaldpegegekbjaa
