/-
  ReorgTurns: what it says, in plain terms, and its walk.
-/
import Derived.Test.YtbncaabcddoicaaReoL
namespace Go.Proofs.Ytbncaabcddoicaa
open Go.RowKit

theorem uniq_iff (L : List Dg) : uniq L = true ↔ L.Nodup := by
  induction L with
  | nil => simp [uniq]
  | cons d L ih => simp only [uniq, Bool.and_eq_true, List.nodup_cons, ih]; simp
theorem byteZ_inj {a b : Int} (ha : 0 ≤ a) (hb : 0 ≤ b) (ha' : a < 65536) (hb' : b < 65536) (h1 : byteZ a = byteZ b) (h2 : byteZ (a / 256) = byteZ (b / 256)) : a = b := by
  have e1 := congrArg (fun u : UInt8 => (u.toNat : Int)) h1
  have e2 := congrArg (fun u : UInt8 => (u.toNat : Int)) h2
  simp only [← wrap_byteZ] at e1 e2
  have e1 : a % 256 = b % 256 := e1
  have e2 : a / 256 % 256 = b / 256 % 256 := e2
  omega
theorem nm_inj {a b : Int} (ha : 0 ≤ a) (hb : 0 ≤ b) (ha' : a < 65536) (hb' : b < 65536) (h : nm a = nm b) : a = b := by
  have h := congrArg Subtype.val h
  simp only [nm, List.cons.injEq] at h
  exact byteZ_inj ha hb ha' hb' h.1 h.2.1
theorem lonce_good (zs : List Int) : (lonce zs).Nodup ∧ ∀ z ∈ lonce zs, 0 ≤ z ∧ z < 65536 := by
  have h : ∀ n, (lonce (zs.take n)).Nodup ∧ ∀ z ∈ lonce (zs.take n), 0 ≤ z ∧ z < 65536 := by
    intro n
    induction n with
    | zero => simp [lonce]
    | succ n ih =>
      rcases Nat.lt_or_ge n zs.length with hl | hl
      · rw [List.take_succ_eq_append_getElem hl, lonce_snoc]
        split
        · exact ih
        · rename_i hni
          have hp := pick_range zs[n] 65536 (by omega)
          refine ⟨?_, fun z hz => ?_⟩
          · rw [List.nodup_append]
            exact ⟨ih.1, by simp, fun a ha b hb => by
              rw [List.mem_singleton] at hb
              subst hb
              intro e
              subst e
              exact hni ha⟩
          · rw [List.mem_append, List.mem_singleton] at hz
            rcases hz with hz | rfl
            · exact ih.2 z hz
            · exact hp
      · rw [List.take_of_length_le (by omega)]
        rw [List.take_of_length_le hl] at ih
        exact ih
  have := h zs.length
  rwa [List.take_length] at this
theorem nodup_map_of {α β : Type} {f : α → β} : ∀ {l : List α}, l.Nodup → (∀ a ∈ l, ∀ b ∈ l, f a = f b → a = b) → (l.map f).Nodup
  | [], _, _ => by simp
  | x :: l, h, hf => by
    rw [List.nodup_cons] at h
    rw [List.map_cons, List.nodup_cons]
    refine ⟨fun hm => ?_, nodup_map_of h.2 fun a ha b hb => hf a (by simp [ha]) b (by simp [hb])⟩
    obtain ⟨y, hy, e⟩ := List.mem_map.1 hm
    have := hf y (by simp [hy]) x (by simp) e
    subst this
    exact h.1 hy
theorem once_uniq (zs : List Int) : uniq ((lonce zs).map nm) = true := by
  rw [uniq_iff]
  obtain ⟨h1, h2⟩ := lonce_good zs
  exact nodup_map_of h1 fun a ha b hb e => nm_inj (h2 a ha).1 (h2 b hb).1 (h2 a ha).2 (h2 b hb).2 e

theorem heads_comm (a b : List Dg) : heads a b = heads b a := by
  cases a <;> cases b <;> simp [heads, eq_comm]
theorem pBad_turn (k : Int) (L M : List Dg) : pBad ⟨k, M, L⟩ = pBad ⟨k, L, M⟩ := by
  simp only [pBad]
  rw [heads_comm M L]
  cases uniq L <;> cases uniq M <;> cases heads L M <;> simp
theorem pApply_ok {p : Pl} {a : List Dg} (hb : pBad p = false) (hf : pFits p a = true) : pApply p a = (a.take p.keep.toNat ++ p.doo, 0) := by simp [pApply, hb, hf]
theorem pApply_no {p : Pl} {a : List Dg} (hb : pBad p = false) (hf : pFits p a = false) : pApply p a = ([], 4) := by simp [pApply, hb, hf]
theorem pFits_iff {k : Nat} {L M a : List Dg} : pFits ⟨(k : Int), L, M⟩ a = true ↔ k ≤ a.length ∧ a.drop k = L ∧ ∀ q ∈ M, q ∉ a.take k := by
  unfold pFits
  simp only [Bool.and_eq_true, decide_eq_true_eq, Int.toNat_natCast, Bool.not_eq_true', List.any_eq_false]
  constructor
  · rintro ⟨⟨h1, h2⟩, h3⟩
    exact ⟨by omega, h2, h3⟩
  · rintro ⟨h1, h2, h3⟩
    exact ⟨⟨by omega, h2⟩, h3⟩
/-- What a plan undoes, its Back does again. -/
theorem turn_back {k : Int} {L M a : List Dg} (hb : pBad ⟨k, L, M⟩ = false) (hu : uniq a = true) (h : (pApply ⟨k, L, M⟩ a).2 = 0) : pApply ⟨k, M, L⟩ (pApply ⟨k, L, M⟩ a).1 = (a, 0) := by
  have hk := pBad_keep hb
  have hb2 : pBad ⟨k, M, L⟩ = false := by rw [pBad_turn]; exact hb
  obtain ⟨n, hn⟩ := Int.eq_ofNat_of_zero_le hk
  simp only at hn
  subst hn
  cases hf : pFits ⟨(n : Int), L, M⟩ a with
  | false => rw [pApply_no hb hf] at h; cases h
  | true =>
    rw [pApply_ok hb hf]
    obtain ⟨h1, h2, h3⟩ := pFits_iff.1 hf
    have hl : (a.take n).length = n := by rw [List.length_take]; omega
    have e1 : (a.take n ++ M).drop n = M := by rw [List.drop_append_of_le_length (by omega), List.drop_of_length_le (by omega), List.nil_append]
    have e2 : (a.take n ++ M).take n = a.take n := by rw [List.take_append_of_le_length (by omega), List.take_of_length_le (by omega)]
    have e3 : a.take n ++ L = a := by rw [← h2, List.take_append_drop]
    have hfit : pFits ⟨(n : Int), M, L⟩ (a.take n ++ M) = true := pFits_iff.2 ⟨by simp; omega, e1, fun x hx hin => by
      rw [e2] at hin
      rw [← e3, uniq_iff, List.nodup_append] at hu
      exact hu.2.2 x hin x hx rfl⟩
    simp only [Int.toNat_natCast]
    rw [pApply_ok hb2 hfit]
    simp only [Int.toNat_natCast, e2, e3]
theorem fits_len {k : Int} {L M a : List Dg} (hb : pBad ⟨k, L, M⟩ = false) (hn : ¬ (k ≤ a.length ∧ (a.length : Int) - k = L.length)) : pApply ⟨k, L, M⟩ a = ([], 4) := by
  have hk := pBad_keep hb
  obtain ⟨n, e⟩ := Int.eq_ofNat_of_zero_le hk
  simp only at e
  subst e
  cases hf : pFits ⟨(n : Int), L, M⟩ a with
  | false => exact pApply_no hb hf
  | true =>
    obtain ⟨h1, h2, _⟩ := pFits_iff.1 hf
    exact absurd ⟨by omega, by rw [← h2, List.length_drop]; omega⟩ hn
theorem pApply_bad {p : Pl} {a : List Dg} (h : (pApply p a).2 ≠ 0) : (pApply p a).1 = [] := by
  cases hb : pBad p with
  | true => simp [pApply, hb]
  | false =>
    cases hf : pFits p a with
    | true => rw [pApply_ok hb hf] at h; exact absurd rfl h
    | false => rw [pApply_no hb hf]

/-! The contracts, with their results named. -/
theorem C_From' {A B : Option Addr} {a b : List Dg} {k m c d : Nat} {r : Pl × Nat} (w : World) (hra : RD w A a) (hrb : RD w B b) (hr : pFrom a b = r) (hk : k = a.length) (hm : m = b.length) (hla : a.length ≤ 4000000) (hlb : b.length ≤ 4000000) (hc : a.length ≤ c) (hd : b.length ≤ d) :
    CallsR Try.prog 12 [.slice A k c, .slice B m d] w fun v w' => ∃ u, v = .tuple #[u, .int .i64 r.2] ∧ PlO w' w.heap.size r.1 u ∧ Below w.heap.size w w' := by
  subst hr
  exact C_From c d hk hm w hra hrb hla hlb hc hd
theorem C_Apply' {p : Pl} {v : Value} {C : Option Addr} {old : List Dg} {k e : Nat} {r : List Dg × Nat} (w : World) (hp : PlV w p v) (hC : RD w C old) (hr : pApply p old = r) (hk : k = old.length) (hl : lim p) (hle : old.length ≤ e) (hlo : old.length ≤ 2000000) :
    CallsR Try.prog 15 [v, .slice C k e] w fun v w' => ∃ A c, v = .tuple #[.slice A r.1.length c, .int .i64 r.2] ∧ OwnD w' w.heap.size A c r.1 ∧ Below w.heap.size w w' := by
  subst hr
  exact C_Apply e hk w hp hl hC hle hlo
theorem C_Back' {p : Pl} {v : Value} {r : Pl × Nat} (w : World) (hp : PlV w p v) (hr : pBack p = r) (hl : lim p) :
    CallsR Try.prog 21 [v] w fun v w' => ∃ u, v = .tuple #[u, .int .i64 r.2] ∧ PlO w' w.heap.size r.1 u ∧ Below w.heap.size w w' := by
  subst hr
  exact C_Back w hp hl
theorem C_Then' {p q : Pl} {v u : Value} {C : Option Addr} {old : List Dg} {k e : Nat} {r : Pl × Nat} (w : World) (hp : PlV w p v) (hq : PlV w q u) (hC : RD w C old) (hr : pThen p q old = r) (hk : k = old.length) (hlp : lim p) (hlq : lim q) (hle : old.length ≤ e) (hlo : old.length ≤ 1000000) :
    CallsR Try.prog 23 [v, u, .slice C k e] w fun v w' => ∃ u, v = .tuple #[u, .int .i64 r.2] ∧ PlO w' w.heap.size r.1 u ∧ Below w.heap.size w w' := by
  subst hr
  exact C_Then e hk w hp hq hlp hlq hC hle hlo
theorem C_Check' {p : Pl} {v : Value} {r : Nat} (w : World) (hp : PlV w p v) (hr : pCheck p = r) (hl : lim p) :
    CallsR Try.prog 18 [v] w fun v w' => v = .int .i64 r ∧ Below w.heap.size w w' := by
  subst hr
  exact C_Check w hp hl
theorem C_Depth' {p : Pl} {v : Value} {r : Bool} (w : World) (hp : PlV w p v) (hr : pBad p = r) (hl : lim p) :
    CallsR Try.prog 19 [v] w fun v w' => v = .int .i64 (if r then 0 else p.undo.length : Nat) ∧ Below w.heap.size w w' := by
  subst hr
  exact C_Depth w hp hl
theorem C_Spares' {p : Pl} {v : Value} {r : Bool} {n : Int} (w : World) (hp : PlV w p v) (hr : pBad p = r) (hl : lim p) :
    CallsR Try.prog 22 [v, .int .i64 n] w fun v w' => v = .bool (!r && decide (n ≤ p.keep)) ∧ Below w.heap.size w w' := by
  subst hr
  exact C_Spares n w hp hl

set_option maxHeartbeats 1000000 in
theorem C_ReorgTurns (w : World) (v : Value) (p : Pl) (hp : PlV w p v ∧ (Lit.int .i64 p.keep).wf = true) (stable : Int) (_ws : (Lit.int .i64 stable).wf = true) (A : Option Addr) (c : Nat) (zs : List Int) (hr : Reads w 1 A zs.length (zs.map (Value.int .i64))) (_hc : zs.length ≤ c) (_hm : c ≤ maxLen) (hz : ∀ n ∈ zs, (Lit.int .i64 n).wf = true) :
    CallsR Try.prog 4 [v, .int .i64 stable, .slice A zs.length c] w fun v w' => v = .bool true ∧ Below w.heap.size w w' := by
  obtain ⟨hp, wk⟩ := hp
  obtain ⟨AL, cL, AM, cM, rfl, hL, hM, hcL, hcM⟩ := hp
  obtain ⟨k, L, M⟩ := p
  simp only at *
  have hrz : RZ w A zs := hr
  refine callsR Try.func4 rfl rfl (by kernel_rfl) rfl ?_
  have hw := Below.refl w.heap.size w
  refine rk_seq ?_
  refine rk_region ?_
  refine wl_boxg [_, _, _] rfl (by rfl) ?_
  rintro g3 w3 f3 b3 i3 i3_1
  have s3 := b3.size
  replace hw := hw.trans (b3.mono hw.size)
  refine wl_p (fun _ => o_assign rfl) ?_
  refine wl_nil ?_
  refine rk_seq ?_
  refine rk_seq ?_
  refine rk_region ?_
  refine wl_call rfl (C_lives _) ?_
  rintro v17 w17 ⟨rfl, b17⟩
  have s17 := b17.size
  replace hw := hw.trans (b17.mono hw.size)
  replace f3 := f3.u b17
  refine wl_p (fun _ => o_not rfl) ?_
  refine wl_nil ?_
  refine rk_false rfl ?_
  refine rk_skip ?_
  refine rk_seq ?_
  refine rk_seq ?_
  refine rk_region ?_
  refine wl_r (o_loadag Try.isAgg25 Try.sizeOf25 rfl f3 (by rfl)) ?_
  refine wl_call rfl (C_light _ (PlV.mk_ (hL.u hw) (hM.u hw) rfl rfl (by omega) (by omega))) ?_
  rintro v20 w20 ⟨rfl, b20⟩
  dsimp only
  have s20 := b20.size
  replace hw := hw.trans (b20.mono hw.size)
  replace f3 := f3.u b20
  refine wl_p (fun _ => o_not rfl) ?_
  refine wl_p (fun _ => o_move rfl) ?_
  refine wl_bool 22 rfl (fun h22 => ?_) (fun h22 => ?_) <;> try simp only [decide_eq_true_eq, decide_eq_false_iff_not, Bool.not_eq_true', Bool.not_eq_false', Bool.and_eq_true, Bool.and_eq_false_iff, Bool.or_eq_true, Bool.or_eq_false_iff] at h22
  · refine wl_off ?_
    refine wl_off ?_
    refine wl_off ?_
    refine wl_p (fun _ => o_pick_t rfl rfl) ?_
    refine wl_nil ?_
    refine rk_true rfl ?_
    refine rk_seq ?_
    refine rk_region ?_
    refine wl_p (fun _ => o_assign rfl) ?_
    refine wl_nil ?_
    refine ret1 rfl rfl ?_
    exact ⟨rfl, hw⟩
  refine wl_p (fun _ => o_move rfl) ?_
  refine wl_p (fun _ => o_len (t := 22) Try.underlying22 rfl) ?_
  refine wl_p (fun _ => o_gt rfl rfl) ?_
  refine wl_p (fun _ => o_pick_f rfl rfl) ?_
  refine wl_nil ?_
  refine rk_if rfl (fun h26 => ?_) (fun h26 => ?_)
  · refine rk_seq ?_
    refine rk_region ?_
    refine wl_p (fun _ => o_assign rfl) ?_
    refine wl_nil ?_
    refine ret1 rfl rfl ?_
    exact ⟨rfl, hw⟩
  obtain ⟨n1, n2⟩ := h22
  cases hb : pBad ⟨k, L, M⟩ with
  | true =>
    have eb : pBack ⟨k, L, M⟩ = (⟨0, [], []⟩, 2) := by simp [pBack, hb, pl0]
    have ec : pCheck ⟨k, L, M⟩ = 2 := by simp [pCheck, hb]
    refine rk_skip ?_
    refine rk_seq ?_
    refine rk_region ?_
    refine wl_r (o_loadag Try.isAgg25 Try.sizeOf25 rfl f3 (by rfl)) ?_
    refine wl_call rfl (C_lplan _ (PlV.mk_ (hL.u hw) (hM.u hw) rfl rfl (by omega) (by omega)) (by simp; omega) (by simp; omega)) ?_
    rintro v29 w29 ⟨⟨A29, ⟨c29, ⟨A29_1, ⟨c29_1, ⟨rfl, ⟨f29, f29_1⟩⟩⟩⟩⟩⟩, b29⟩
    dsimp only at f29
    dsimp only at f29_1
    dsimp only
    replace f29 := f29.h_
    have qf29 := f29.cap
    replace f29_1 := f29_1.h_
    have qf29_1 := f29_1.cap
    have s29 := b29.size
    replace hw := hw.trans (b29.mono hw.size)
    replace f3 := f3.u b29
    refine wl_call rfl (C_Back' _ (PlV.mk_ f29.to_RD f29_1.to_RD rfl rfl (by omega) (by omega)) eb ⟨by simp only; omega, by simp only; omega⟩) ?_
    rintro v30 w30 ⟨u30, ⟨rfl, ⟨⟨A30, ⟨c30, ⟨A30_1, ⟨c30_1, ⟨rfl, ⟨f30, f30_1⟩⟩⟩⟩⟩⟩, b30⟩⟩⟩
    dsimp only at f30
    dsimp only at f30_1
    dsimp only
    replace f30 := f30.h_
    have qf30 := f30.cap
    replace f30_1 := f30_1.h_
    have qf30_1 := f30_1.cap
    have s30 := b30.size
    replace hw := hw.trans (b30.mono hw.size)
    replace f3 := f3.u b30
    replace f29_1 := f29_1.u b30
    replace f29 := f29.u b30
    refine wl_p (fun _ => o_move rfl) ?_
    refine wl_p (fun _ => o_ext20 rfl) ?_
    refine wl_p (fun _ => o_ext21 rfl) ?_
    refine wl_allocg [_, _, _] Try.zeroValue25 (by rfl) ?_
    rintro g7 w7 f7 b7 i7 i7_1
    have s7 := b7.size
    replace hw := hw.trans (b7.mono hw.size)
    replace f29 := f29.u b7
    replace f29_1 := f29_1.u b7
    replace f3 := f3.u b7
    replace f30_1 := f30_1.u b7
    replace f30 := f30.u b7
    refine wl_storega Try.sizeOf25 rfl rfl (by rfl) (oneCell_of (by rfl)) f7 (by rfl) ?_
    rintro w_1 f g e
    have s := g.size
    replace hw := hw.trans (below_of_grownBy g.g hw.size (by omega))
    replace f30 := f30.k g.g (ap_some (by omega))
    replace f30_1 := f30_1.k g.g (ap_some (by omega))
    replace f3 := f3.k g.g (ap_some (by omega))
    replace f29_1 := f29_1.k g.g (ap_some (by omega))
    replace f29 := f29.k g.g (ap_some (by omega))
    clear f7
    refine wl_p (fun _ => o_assign rfl) ?_
    refine wl_nil ?_
    refine rk_seq ?_
    refine rk_seq ?_
    refine rk_region ?_
    refine wl_p (fun _ => o_move rfl) ?_
    refine wl_r (o_loadag Try.isAgg25 Try.sizeOf25 rfl f3 (by rfl)) ?_
    refine wl_call rfl (C_Check' _ (PlV.mk_ (hL.u hw) (hM.u hw) rfl rfl (by omega) (by omega)) ec ⟨by simp only; omega, by simp only; omega⟩) ?_
    rintro v35 w35 ⟨rfl, b35⟩
    have s35 := b35.size
    replace hw := hw.trans (b35.mono hw.size)
    replace f29 := f29.u b35
    replace f29_1 := f29_1.u b35
    replace f3 := f3.u b35
    replace f30_1 := f30_1.u b35
    replace f30 := f30.u b35
    replace f := f.u b35
    refine wl_p (fun _ => o_ne rfl rfl) ?_
    refine wl_nil ?_
    refine rk_false rfl ?_
    refine rk_skip ?_
    refine rk_seq ?_
    refine rk_seq ?_
    refine rk_region ?_
    refine wl_p (fun _ => o_move rfl) ?_
    refine wl_p (fun _ => o_ne rfl rfl) ?_
    refine wl_nil ?_
    refine rk_true rfl ?_
    refine rk_seq ?_
    refine rk_region ?_
    refine wl_r (o_loadag Try.isAgg25 Try.sizeOf25 rfl f3 (by rfl)) ?_
    refine wl_call rfl (C_Depth' _ (PlV.mk_ (hL.u hw) (hM.u hw) rfl rfl (by omega) (by omega)) hb ⟨by simp only; omega, by simp only; omega⟩) ?_
    rintro v40 w40 ⟨rfl, b40⟩
    dsimp only
    have s40 := b40.size
    replace hw := hw.trans (b40.mono hw.size)
    replace f := f.u b40
    replace f30 := f30.u b40
    replace f30_1 := f30_1.u b40
    replace f3 := f3.u b40
    replace f29_1 := f29_1.u b40
    replace f29 := f29.u b40
    refine wl_p (fun _ => o_eq rfl rfl) ?_
    refine wl_p (fun _ => o_move rfl) ?_
    refine wl_r (o_loadag Try.isAgg25 Try.sizeOf25 rfl f3 (by rfl)) ?_
    refine wl_p (fun _ => o_move rfl) ?_
    refine wl_call rfl (C_Spares' _ (PlV.mk_ (hL.u hw) (hM.u hw) rfl rfl (by omega) (by omega)) hb ⟨by simp only; omega, by simp only; omega⟩) ?_
    rintro v45 w45 ⟨rfl, b45⟩
    dsimp only
    have s45 := b45.size
    replace hw := hw.trans (b45.mono hw.size)
    replace f29 := f29.u b45
    replace f29_1 := f29_1.u b45
    replace f3 := f3.u b45
    replace f30_1 := f30_1.u b45
    replace f30 := f30.u b45
    replace f := f.u b45
    refine wl_p (fun _ => o_not rfl) ?_
    refine wl_p (fun _ => o_pick_t rfl rfl) ?_
    refine wl_p (fun _ => o_move rfl) ?_
    refine wl_r (o_loadag Try.isAgg25 Try.sizeOf25 rfl f (by rfl)) ?_
    refine wl_p (fun _ => (o_buildg [_, _, _] Try.underlying25 Try.zeroValue25 (by rfl) (by rfl) rfl (by rfl) (by rfl) (fun _ => by kernel_rfl))) ?_
    refine wl_call rfl (C_kPlan _ (PlV.mk_ f30.to_RD f30_1.to_RD rfl rfl (by omega) (by omega)) (PlV.mk_ (RD.nil_) (RD.nil_) (by rfl) (by rfl) (by simp) (by simp)) (by simp) (by simp) (by simp) (by simp)) ?_
    rintro v51 w51 ⟨rfl, b51⟩
    have s51 := b51.size
    replace hw := hw.trans (b51.mono hw.size)
    replace f := f.u b51
    replace f30 := f30.u b51
    replace f30_1 := f30_1.u b51
    replace f3 := f3.u b51
    replace f29_1 := f29_1.u b51
    replace f29 := f29.u b51
    refine wl_p (fun _ => o_pick_t rfl rfl) ?_
    refine wl_p (fun _ => o_assign rfl) ?_
    refine wl_nil ?_
    refine ret1 rfl rfl ?_
    exact ⟨by simp, hw⟩
  | false =>
    have hb2 : pBad ⟨k, M, L⟩ = false := by rw [pBad_turn]; exact hb
    have eb : pBack ⟨k, L, M⟩ = (⟨k, M, L⟩, 0) := by simp [pBack, hb]
    have eb2 : pBack ⟨k, M, L⟩ = (⟨k, L, M⟩, 0) := by simp [pBack, hb2]
    have ec : pCheck ⟨k, L, M⟩ = 0 := by simp [pCheck, hb]
    have hk := pBad_keep hb
    simp only at hk
    have hll := lonce_len zs
    have hu := once_uniq zs
    cases hf : pFits ⟨k, L, M⟩ ((lonce zs).map nm) with
    | true =>
      have ea := pApply_ok hb hf
      simp only at ea
      have et := turn_back hb hu (by rw [ea])
      rw [ea] at et
      simp only at et
      have hlen : k ≤ (lonce zs).length ∧ ((lonce zs).length : Int) - k = L.length := by
        refine Classical.byContradiction fun h => ?_
        have := fits_len (a := (lonce zs).map nm) hb (by simpa using h)
        rw [ea, Prod.mk.injEq] at this
        omega
      obtain ⟨hl1, hl2⟩ := hlen
      refine rk_skip ?_
      refine rk_seq ?_
      refine rk_region ?_
      refine wl_r (o_loadag Try.isAgg25 Try.sizeOf25 rfl f3 (by rfl)) ?_
      refine wl_call rfl (C_lplan _ (PlV.mk_ (hL.u hw) (hM.u hw) rfl rfl (by omega) (by omega)) (by simp; omega) (by simp; omega)) ?_
      rintro v29 w29 ⟨⟨A29, ⟨c29, ⟨A29_1, ⟨c29_1, ⟨rfl, ⟨f29, f29_1⟩⟩⟩⟩⟩⟩, b29⟩
      dsimp only at f29
      dsimp only at f29_1
      dsimp only
      replace f29 := f29.h_
      have qf29 := f29.cap
      replace f29_1 := f29_1.h_
      have qf29_1 := f29_1.cap
      have s29 := b29.size
      replace hw := hw.trans (b29.mono hw.size)
      replace f3 := f3.u b29
      refine wl_call rfl (C_Back' _ (PlV.mk_ f29.to_RD f29_1.to_RD rfl rfl (by omega) (by omega)) eb ⟨by simp only; omega, by simp only; omega⟩) ?_
      rintro v30 w30 ⟨u30, ⟨rfl, ⟨⟨A30, ⟨c30, ⟨A30_1, ⟨c30_1, ⟨rfl, ⟨f30, f30_1⟩⟩⟩⟩⟩⟩, b30⟩⟩⟩
      dsimp only at f30
      dsimp only at f30_1
      dsimp only
      replace f30 := f30.h_
      have qf30 := f30.cap
      replace f30_1 := f30_1.h_
      have qf30_1 := f30_1.cap
      have s30 := b30.size
      replace hw := hw.trans (b30.mono hw.size)
      replace f3 := f3.u b30
      replace f29_1 := f29_1.u b30
      replace f29 := f29.u b30
      refine wl_p (fun _ => o_move rfl) ?_
      refine wl_p (fun _ => o_ext20 rfl) ?_
      refine wl_p (fun _ => o_ext21 rfl) ?_
      refine wl_allocg [_, _, _] Try.zeroValue25 (by rfl) ?_
      rintro g7 w7 f7 b7 i7 i7_1
      have s7 := b7.size
      replace hw := hw.trans (b7.mono hw.size)
      replace f29 := f29.u b7
      replace f29_1 := f29_1.u b7
      replace f3 := f3.u b7
      replace f30_1 := f30_1.u b7
      replace f30 := f30.u b7
      refine wl_storega Try.sizeOf25 rfl rfl (by rfl) (oneCell_of (by rfl)) f7 (by rfl) ?_
      rintro w_1 f g e
      have s := g.size
      replace hw := hw.trans (below_of_grownBy g.g hw.size (by omega))
      replace f30 := f30.k g.g (ap_some (by omega))
      replace f30_1 := f30_1.k g.g (ap_some (by omega))
      replace f3 := f3.k g.g (ap_some (by omega))
      replace f29_1 := f29_1.k g.g (ap_some (by omega))
      replace f29 := f29.k g.g (ap_some (by omega))
      clear f7
      refine wl_p (fun _ => o_assign rfl) ?_
      refine wl_nil ?_
      refine rk_seq ?_
      refine rk_seq ?_
      refine rk_region ?_
      refine wl_p (fun _ => o_move rfl) ?_
      refine wl_r (o_loadag Try.isAgg25 Try.sizeOf25 rfl f3 (by rfl)) ?_
      refine wl_call rfl (C_Check' _ (PlV.mk_ (hL.u hw) (hM.u hw) rfl rfl (by omega) (by omega)) ec ⟨by simp only; omega, by simp only; omega⟩) ?_
      rintro v35 w35 ⟨rfl, b35⟩
      have s35 := b35.size
      replace hw := hw.trans (b35.mono hw.size)
      replace f29 := f29.u b35
      replace f29_1 := f29_1.u b35
      replace f3 := f3.u b35
      replace f30_1 := f30_1.u b35
      replace f30 := f30.u b35
      replace f := f.u b35
      refine wl_p (fun _ => o_ne rfl rfl) ?_
      refine wl_nil ?_
      refine rk_false rfl ?_
      refine rk_skip ?_
      refine rk_seq ?_
      refine rk_seq ?_
      refine rk_region ?_
      refine wl_p (fun _ => o_move rfl) ?_
      refine wl_p (fun _ => o_ne rfl rfl) ?_
      refine wl_nil ?_
      refine rk_false rfl ?_
      refine rk_skip ?_
      refine rk_seq ?_
      refine rk_region ?_
      refine wl_r (o_loadag Try.isAgg25 Try.sizeOf25 rfl f (by rfl)) ?_
      refine wl_call rfl (C_Back' _ (PlV.mk_ f30.to_RD f30_1.to_RD rfl rfl (by omega) (by omega)) eb2 ⟨by simp only; omega, by simp only; omega⟩) ?_
      rintro v55 w55 ⟨u55, ⟨rfl, ⟨⟨A55, ⟨c55, ⟨A55_1, ⟨c55_1, ⟨rfl, ⟨f55, f55_1⟩⟩⟩⟩⟩⟩, b55⟩⟩⟩
      dsimp only at f55
      dsimp only at f55_1
      dsimp only
      replace f55 := f55.h_
      have qf55 := f55.cap
      replace f55_1 := f55_1.h_
      have qf55_1 := f55_1.cap
      have s55 := b55.size
      replace hw := hw.trans (b55.mono hw.size)
      replace f := f.u b55
      replace f30 := f30.u b55
      replace f30_1 := f30_1.u b55
      replace f3 := f3.u b55
      replace f29_1 := f29_1.u b55
      replace f29 := f29.u b55
      refine wl_p (fun _ => o_move rfl) ?_
      refine wl_p (fun _ => o_ext20 rfl) ?_
      refine wl_p (fun _ => o_ext21 rfl) ?_
      refine wl_allocg [_, _, _] Try.zeroValue25 (by rfl) ?_
      rintro g9 w9 f9 b9 i9 i9_1
      have s9 := b9.size
      replace hw := hw.trans (b9.mono hw.size)
      replace f29 := f29.u b9
      replace f29_1 := f29_1.u b9
      replace f3 := f3.u b9
      replace f30_1 := f30_1.u b9
      replace f30 := f30.u b9
      replace f := f.u b9
      replace f55_1 := f55_1.u b9
      replace f55 := f55.u b9
      refine wl_storega Try.sizeOf25 rfl rfl (by rfl) (oneCell_of (by rfl)) f9 (by rfl) ?_
      rintro w_2 f_1 g_1 e_1
      have s_1 := g_1.size
      replace hw := hw.trans (below_of_grownBy g_1.g hw.size (by omega))
      replace f55 := f55.k g_1.g (ap_some (by omega))
      replace f55_1 := f55_1.k g_1.g (ap_some (by omega))
      replace f := f.k g_1.g (ap_some (by omega))
      replace f30 := f30.k g_1.g (ap_some (by omega))
      replace f30_1 := f30_1.k g_1.g (ap_some (by omega))
      replace f3 := f3.k g_1.g (ap_some (by omega))
      replace f29_1 := f29_1.k g_1.g (ap_some (by omega))
      replace f29 := f29.k g_1.g (ap_some (by omega))
      clear f9
      refine wl_p (fun _ => o_assign rfl) ?_
      refine wl_nil ?_
      refine rk_seq ?_
      refine rk_region ?_
      refine wl_p (fun _ => o_move rfl) ?_
      refine wl_call rfl (C_once (c) _ (hrz.u hw) rfl (by omega) (by omega)) ?_
      rintro v59 w59 ⟨A59, ⟨c59, ⟨rfl, ⟨f59, b59⟩⟩⟩⟩
      have qf59 := f59.cap
      have s59 := b59.size
      replace hw := hw.trans (b59.mono hw.size)
      replace f29 := f29.u b59
      replace f29_1 := f29_1.u b59
      replace f3 := f3.u b59
      replace f30_1 := f30_1.u b59
      replace f30 := f30.u b59
      replace f := f.u b59
      replace f55_1 := f55_1.u b59
      replace f55 := f55.u b59
      replace f_1 := f_1.u b59
      refine wl_call rfl (C_names (c59) rfl _ f59.to_Reads (by omega)) ?_
      rintro v60 w60 ⟨A60, ⟨c60, ⟨rfl, ⟨f60, b60⟩⟩⟩⟩
      replace f60 := f60.h_
      have qf60 := f60.cap
      have s60 := b60.size
      replace hw := hw.trans (b60.mono hw.size)
      replace f_1 := f_1.u b60
      replace f55 := f55.u b60
      replace f55_1 := f55_1.u b60
      replace f := f.u b60
      replace f30 := f30.u b60
      replace f30_1 := f30_1.u b60
      replace f3 := f3.u b60
      replace f29_1 := f29_1.u b60
      replace f29 := f29.u b60
      replace f59 := f59.u b60
      refine wl_p (fun _ => o_assign rfl) ?_
      refine wl_nil ?_
      refine rk_seq ?_
      refine rk_region ?_
      refine wl_r (o_loadag Try.isAgg25 Try.sizeOf25 rfl f3 (by rfl)) ?_
      refine wl_call rfl (C_lplan _ (PlV.mk_ (hL.u hw) (hM.u hw) rfl rfl (by omega) (by omega)) (by simp; omega) (by simp; omega)) ?_
      rintro v63 w63 ⟨⟨A63, ⟨c63, ⟨A63_1, ⟨c63_1, ⟨rfl, ⟨f63, f63_1⟩⟩⟩⟩⟩⟩, b63⟩
      dsimp only at f63
      dsimp only at f63_1
      dsimp only
      replace f63 := f63.h_
      have qf63 := f63.cap
      replace f63_1 := f63_1.h_
      have qf63_1 := f63_1.cap
      have s63 := b63.size
      replace hw := hw.trans (b63.mono hw.size)
      replace f59 := f59.u b63
      replace f29 := f29.u b63
      replace f29_1 := f29_1.u b63
      replace f3 := f3.u b63
      replace f30_1 := f30_1.u b63
      replace f30 := f30.u b63
      replace f := f.u b63
      replace f55_1 := f55_1.u b63
      replace f55 := f55.u b63
      replace f_1 := f_1.u b63
      replace f60 := f60.u b63
      refine wl_p (fun _ => o_move rfl) ?_
      refine wl_call rfl (C_Names (c60) (by simp) _ f60.to_RD (by simp; omega)) ?_
      rintro v65 w65 ⟨A65, ⟨c65, ⟨rfl, ⟨f65, b65⟩⟩⟩⟩
      replace f65 := f65.h_
      have qf65 := f65.cap
      have s65 := b65.size
      replace hw := hw.trans (b65.mono hw.size)
      replace f60 := f60.u b65
      replace f_1 := f_1.u b65
      replace f55 := f55.u b65
      replace f55_1 := f55_1.u b65
      replace f := f.u b65
      replace f30 := f30.u b65
      replace f30_1 := f30_1.u b65
      replace f3 := f3.u b65
      replace f29_1 := f29_1.u b65
      replace f29 := f29.u b65
      replace f59 := f59.u b65
      replace f63_1 := f63_1.u b65
      replace f63 := f63.u b65
      refine wl_call rfl (C_Apply' _ (PlV.mk_ f63.to_RD f63_1.to_RD rfl rfl (by omega) (by omega)) f65.to_RD ea rfl ⟨by simp only; omega, by simp only; omega⟩ (by omega) (by simp; omega)) ?_
      rintro v66 w66 ⟨A66, ⟨c66, ⟨rfl, ⟨f66, b66⟩⟩⟩⟩
      dsimp only at f66
      dsimp only
      replace f66 := f66.h_
      have qf66 := f66.cap
      have s66 := b66.size
      replace hw := hw.trans (b66.mono hw.size)
      replace f63 := f63.u b66
      replace f63_1 := f63_1.u b66
      replace f59 := f59.u b66
      replace f29 := f29.u b66
      replace f29_1 := f29_1.u b66
      replace f3 := f3.u b66
      replace f30_1 := f30_1.u b66
      replace f30 := f30.u b66
      replace f := f.u b66
      replace f55_1 := f55_1.u b66
      replace f55 := f55.u b66
      replace f_1 := f_1.u b66
      replace f60 := f60.u b66
      replace f65 := f65.u b66
      refine wl_p (fun _ => o_move rfl) ?_
      refine wl_p (fun _ => o_ext20 rfl) ?_
      refine wl_p (fun _ => o_ext21 rfl) ?_
      refine wl_p (fun _ => o_assign rfl) ?_
      refine wl_p (fun _ => o_assign rfl) ?_
      refine wl_nil ?_
      refine rk_seq ?_
      refine rk_region ?_
      refine wl_p (fun _ => o_faddr (s := 25) (i := 0) (off := 0) Try.underlying25 rfl Try.sizeOf3 rfl rfl rfl) ?_
      refine wl_r (o_loadbg Try.isAgg3 rfl f3 (by rfl)) ?_
      refine wl_p (fun _ => o_move rfl) ?_
      refine wl_p (fun _ => o_len (t := 23) Try.underlying23 rfl) ?_
      refine wl_p (fun _ => o_le rfl rfl) ?_
      refine wl_p (fun _ => o_move rfl) ?_
      refine wl_know 74 true rfl (decide_eq_true (by omega)) ?_
      refine wl_p (fun _ => o_move rfl) ?_
      refine wl_p (fun _ => o_len (t := 23) Try.underlying23 rfl) ?_
      refine wl_p (fun _ => o_faddr (s := 25) (i := 0) (off := 0) Try.underlying25 rfl Try.sizeOf3 rfl rfl rfl) ?_
      refine wl_r (o_loadbg Try.isAgg3 rfl f3 (by rfl)) ?_
      refine wl_p (fun _ => o_sub rfl rfl (by omega) (by omega)) ?_
      refine wl_p (fun _ => o_faddr (s := 25) (i := 1) (off := 1) Try.underlying25 rfl Try.sizeOf23 rfl rfl rfl) ?_
      refine wl_r (o_loadbg Try.isAgg23 rfl f3 (by rfl)) ?_
      refine wl_p (fun _ => o_len (t := 23) Try.underlying23 rfl) ?_
      refine wl_p (fun _ => o_eq rfl rfl) ?_
      refine wl_p (fun _ => o_pick_t rfl rfl) ?_
      refine wl_p (fun _ => o_assign rfl) ?_
      refine wl_nil ?_
      refine rk_seq ?_
      refine rk_seq ?_
      refine rk_drawo (id := 14) (none) [0, 1, 2, 4, 4, 28, 36, 68, 160, 256, 768, 256, 2304, 4352, 9472, 16640, 33792, 65536, 65536, 458752, 65536, 1114112, 65536, 6356992, 8978432, 16842752, 34078720, 67108864, 67108864, 469762048, 67108864, 67108864, 3825205248, 4898947072, 8657043456, 21474836480, 34359738368, 103079215104, 171798691840, 274877906944, 824633720832, 1408749273088, 2233382993920] [0, 1, 3, 7, 7, 31, 63, 127, 255, 511, 1023, 511, 2559, 6655, 16383, 32767, 65535, 131071, 131071, 524287, 131071, 1179647, 131071, 7471103, 16777215, 33554431, 67108863, 134217727, 134217727, 536870911, 134217727, 134217727, 4294967295, 8589934591, 17179869183, 34359738367, 68719476735, 137438953471, 274877906943, 549755813887, 1099511627775, 2199023255551, 4398046511103] 4832363552 537396224 [0, 1, 2, 3, 4, 5, 6, 7, 8, 9, 11, 12, 13, 10, 14, 15, 16, 17, 18, 20, 21, 22, 23, 19, 24, 25, 26, 27, 28, 30, 31, 29, 32, 33, 34, 35, 36, 37, 38, 39, 40, 41, 42] [(.p, 0), (.p, 1), (.p, 2), (.r, 3), (.r, 4), (.l, 5), (.p, 6), (.p, 7), (.p, 8), (.r, 9), (.p, 11), (.s, 12), (.p, 13), (.c, 10), (.p, 14), (.p, 15), (.p, 16), (.r, 17), (.p, 18), (.p, 20), (.s, 21), (.p, 22), (.p, 23), (.c, 19), (.p, 24), (.p, 25), (.p, 26), (.r, 27), (.p, 28), (.s, 30), (.p, 31), (.c, 29), (.l, 32), (.p, 33), (.p, 34), (.p, 35), (.p, 36), (.p, 37), (.p, 38), (.p, 39), (.p, 40), (.p, 41), (.p, 42)] (by kernel_rfl) (by kernel_rfl) (by kernel_rfl) (by kernel_rfl) (by kernel_rfl) ?_
      dsimp only [inOrder, nthOp]
      replace hw := hw.drew
      replace f65 := f65.d
      replace f60 := f60.d
      replace f_1 := f_1.d
      replace f55 := f55.d
      replace f55_1 := f55_1.d
      replace f := f.d
      replace f30 := f30.d
      replace f30_1 := f30_1.d
      replace f3 := f3.d
      replace f29_1 := f29_1.d
      replace f29 := f29.d
      replace f59 := f59.d
      replace f63_1 := f63_1.d
      replace f63 := f63.d
      replace f66 := f66.d
      refine wl_p (fun _ => o_move rfl) ?_
      refine wl_p (fun _ => o_ne rfl rfl) ?_
      refine wl_p (fun _ => o_move rfl) ?_
      refine wl_r (o_loadag Try.isAgg25 Try.sizeOf25 rfl f_1 (by rfl)) ?_
      refine wl_r (o_loadag Try.isAgg25 Try.sizeOf25 rfl f3 (by rfl)) ?_
      refine wl_call rfl (C_kPlan _ (PlV.mk_ f55.to_RD f55_1.to_RD rfl rfl (by omega) (by omega)) (PlV.mk_ (hL.u hw) (hM.u hw) rfl rfl (by omega) (by omega)) (by simp; omega) (by simp; omega) (by simp; omega) (by simp; omega)) ?_
      rintro v90 w90 ⟨rfl, b90⟩
      simp only [drew_size] at b90
      have s90 := b90.size
      simp only [drew_size] at s90
      replace hw := hw.trans (b90.mono hw.size)
      replace f66 := f66.u b90
      replace f63 := f63.u b90
      replace f63_1 := f63_1.u b90
      replace f59 := f59.u b90
      replace f29 := f29.u b90
      replace f29_1 := f29_1.u b90
      replace f3 := f3.u b90
      replace f30_1 := f30_1.u b90
      replace f30 := f30.u b90
      replace f := f.u b90
      replace f55_1 := f55_1.u b90
      replace f55 := f55.u b90
      replace f_1 := f_1.u b90
      replace f60 := f60.u b90
      replace f65 := f65.u b90
      refine wl_p (fun _ => o_not rfl) ?_
      refine wl_p (fun _ => o_pick_f rfl rfl) ?_
      refine wl_p (fun _ => o_move rfl) ?_
      refine wl_know 93 false rfl (by simp) ?_
      refine wl_r (o_loadag Try.isAgg25 Try.sizeOf25 rfl f (by rfl)) ?_
      refine wl_p (fun _ => o_faddr (s := 25) (i := 2) (off := 2) Try.underlying25 rfl Try.sizeOf23 rfl rfl rfl) ?_
      refine wl_s (fun _ hk => (o_loadbg Try.isAgg23 rfl (f3.u (below_of_grown_none hk)) (by rfl))) ?_
      refine wl_p (fun _ => o_len (t := 23) Try.underlying23 rfl) ?_
      refine wl_call rfl (C_Depth' _ (PlV.mk_ f30.to_RD f30_1.to_RD rfl rfl (by omega) (by omega)) hb2 ⟨by simp only; omega, by simp only; omega⟩) ?_ (hq := .inr fun _ _ h => grown_of_below h.2 _)
      rintro v95 w95 ⟨rfl, b95⟩
      dsimp only
      have s95 := b95.size
      replace hw := hw.trans (b95.mono hw.size)
      replace f65 := f65.u b95
      replace f60 := f60.u b95
      replace f_1 := f_1.u b95
      replace f55 := f55.u b95
      replace f55_1 := f55_1.u b95
      replace f := f.u b95
      replace f30 := f30.u b95
      replace f30_1 := f30_1.u b95
      replace f3 := f3.u b95
      replace f29_1 := f29_1.u b95
      replace f29 := f29.u b95
      replace f59 := f59.u b95
      replace f63_1 := f63_1.u b95
      replace f63 := f63.u b95
      replace f66 := f66.u b95
      refine wl_p (fun _ => o_ne rfl rfl) ?_
      refine wl_p (fun _ => o_pick_f rfl rfl) ?_
      refine wl_p (fun _ => o_move rfl) ?_
      refine wl_know 101 false rfl (by simp) ?_
      refine wl_r (o_loadag Try.isAgg25 Try.sizeOf25 rfl f3 (by rfl)) ?_
      refine wl_p (fun _ => o_move rfl) ?_
      refine wl_p (fun _ => o_faddr (s := 25) (i := 0) (off := 0) Try.underlying25 rfl Try.sizeOf3 rfl rfl rfl) ?_
      refine wl_s (fun _ hk => (o_loadbg Try.isAgg3 rfl (f3.u (below_of_grown_none hk)) (by rfl))) ?_
      refine wl_p (fun _ => o_move rfl) ?_
      refine wl_p (fun _ => o_ge rfl rfl) ?_
      refine wl_call rfl (C_Spares' _ (PlV.mk_ (hL.u hw) (hM.u hw) rfl rfl (by omega) (by omega)) hb ⟨by simp only; omega, by simp only; omega⟩) ?_ (hq := .inr fun _ _ h => grown_of_below h.2 _)
      rintro v104 w104 ⟨rfl, b104⟩
      dsimp only
      have s104 := b104.size
      replace hw := hw.trans (b104.mono hw.size)
      replace f66 := f66.u b104
      replace f63 := f63.u b104
      replace f63_1 := f63_1.u b104
      replace f59 := f59.u b104
      replace f29 := f29.u b104
      replace f29_1 := f29_1.u b104
      replace f3 := f3.u b104
      replace f30_1 := f30_1.u b104
      replace f30 := f30.u b104
      replace f := f.u b104
      replace f55_1 := f55_1.u b104
      replace f55 := f55.u b104
      replace f_1 := f_1.u b104
      replace f60 := f60.u b104
      replace f65 := f65.u b104
      refine wl_p (fun _ => o_bne (t := 4) Try.underlying4 rfl rfl) ?_
      refine wl_p (fun _ => o_pick_f rfl rfl) ?_
      refine wl_p (fun _ => o_move rfl) ?_
      refine wl_know 111 false rfl (by simp) ?_
      refine wl_r (o_loadag Try.isAgg25 Try.sizeOf25 rfl f (by rfl)) ?_
      refine wl_p (fun _ => o_move rfl) ?_
      refine wl_s (fun _ hk => (o_loadag Try.isAgg25 Try.sizeOf25 rfl (f3.u (below_of_grown_none hk)) (by rfl))) ?_
      refine wl_p (fun _ => o_move rfl) ?_
      refine wl_call rfl (C_Spares' _ (PlV.mk_ f30.to_RD f30_1.to_RD rfl rfl (by omega) (by omega)) hb2 ⟨by simp only; omega, by simp only; omega⟩) ?_ (hq := .inr fun _ _ h => grown_of_below h.2 _)
      rintro v114 w114 ⟨rfl, b114⟩
      dsimp only
      have s114 := b114.size
      replace hw := hw.trans (b114.mono hw.size)
      replace f65 := f65.u b114
      replace f60 := f60.u b114
      replace f_1 := f_1.u b114
      replace f55 := f55.u b114
      replace f55_1 := f55_1.u b114
      replace f := f.u b114
      replace f30 := f30.u b114
      replace f30_1 := f30_1.u b114
      replace f3 := f3.u b114
      replace f29_1 := f29_1.u b114
      replace f29 := f29.u b114
      replace f59 := f59.u b114
      replace f63_1 := f63_1.u b114
      replace f63 := f63.u b114
      replace f66 := f66.u b114
      refine wl_call rfl (C_Spares' _ (PlV.mk_ (hL.u hw) (hM.u hw) rfl rfl (by omega) (by omega)) hb ⟨by simp only; omega, by simp only; omega⟩) ?_
      rintro v117 w117 ⟨rfl, b117⟩
      dsimp only
      have s117 := b117.size
      replace hw := hw.trans (b117.mono hw.size)
      replace f66 := f66.u b117
      replace f63 := f63.u b117
      replace f63_1 := f63_1.u b117
      replace f59 := f59.u b117
      replace f29 := f29.u b117
      replace f29_1 := f29_1.u b117
      replace f3 := f3.u b117
      replace f30_1 := f30_1.u b117
      replace f30 := f30.u b117
      replace f := f.u b117
      replace f55_1 := f55_1.u b117
      replace f55 := f55.u b117
      replace f_1 := f_1.u b117
      replace f60 := f60.u b117
      replace f65 := f65.u b117
      refine wl_p (fun _ => o_bne (t := 4) Try.underlying4 rfl rfl) ?_
      refine wl_p (fun _ => o_pick_f rfl rfl) ?_
      refine wl_p (fun _ => o_move rfl) ?_
      refine wl_know 120 false rfl (by simp) ?_
      refine wl_p (fun _ => o_move rfl) ?_
      refine wl_p (fun _ => o_not rfl) ?_
      refine wl_p (fun _ => o_move rfl) ?_
      refine wl_know 123 false rfl (by simp; omega) ?_
      refine wl_off ?_
      refine wl_off ?_
      refine wl_p (fun _ => o_pick_f rfl rfl) ?_
      refine wl_p (fun _ => o_pick_f rfl rfl) ?_
      refine wl_nild ?_
      refine rk_false rfl ?_
      refine rk_skip ?_
      refine rk_seq ?_
      refine rk_seq ?_
      refine rk_region ?_
      refine wl_p (fun _ => o_move rfl) ?_
      refine wl_p (fun _ => o_ne rfl rfl) ?_
      refine wl_nil ?_
      refine rk_false rfl ?_
      refine rk_skip ?_
      refine rk_seq ?_
      refine rk_region ?_
      refine wl_r (o_loadag Try.isAgg25 Try.sizeOf25 rfl f (by rfl)) ?_
      refine wl_p (fun _ => o_move rfl) ?_
      refine wl_call rfl (C_Apply' _ (PlV.mk_ f30.to_RD f30_1.to_RD rfl rfl (by omega) (by omega)) f66.to_RD et rfl ⟨by simp only; omega, by simp only; omega⟩ (by omega) (by simp; omega)) ?_
      rintro v136 w136 ⟨A136, ⟨c136, ⟨rfl, ⟨f136, b136⟩⟩⟩⟩
      dsimp only at f136
      dsimp only
      replace f136 := f136.h_
      have qf136 := f136.cap
      have s136 := b136.size
      replace hw := hw.trans (b136.mono hw.size)
      replace f65 := f65.u b136
      replace f60 := f60.u b136
      replace f_1 := f_1.u b136
      replace f55 := f55.u b136
      replace f55_1 := f55_1.u b136
      replace f := f.u b136
      replace f30 := f30.u b136
      replace f30_1 := f30_1.u b136
      replace f3 := f3.u b136
      replace f29_1 := f29_1.u b136
      replace f29 := f29.u b136
      replace f59 := f59.u b136
      replace f63_1 := f63_1.u b136
      replace f63 := f63.u b136
      replace f66 := f66.u b136
      refine wl_p (fun _ => o_move rfl) ?_
      refine wl_p (fun _ => o_ext20 rfl) ?_
      refine wl_p (fun _ => o_ext21 rfl) ?_
      refine wl_p (fun _ => o_assign rfl) ?_
      refine wl_p (fun _ => o_assign rfl) ?_
      refine wl_nil ?_
      refine rk_seq ?_
      refine rk_region ?_
      refine wl_p (fun _ => o_move rfl) ?_
      refine wl_p (fun _ => o_eq rfl rfl) ?_
      refine wl_p (fun _ => o_move rfl) ?_
      refine wl_p (fun _ => o_move rfl) ?_
      refine wl_p (fun _ => o_move rfl) ?_
      refine wl_call rfl (C_Digests (c136) (c60) rfl (by simp) _ f136.to_RD f60.to_RD (by simp; omega) (by simp; omega)) ?_
      rintro v144 w144 ⟨rfl, b144⟩
      have s144 := b144.size
      replace hw := hw.trans (b144.mono hw.size)
      replace f66 := f66.u b144
      replace f63 := f63.u b144
      replace f63_1 := f63_1.u b144
      replace f59 := f59.u b144
      replace f29 := f29.u b144
      replace f29_1 := f29_1.u b144
      replace f3 := f3.u b144
      replace f30_1 := f30_1.u b144
      replace f30 := f30.u b144
      replace f := f.u b144
      replace f55_1 := f55_1.u b144
      replace f55 := f55.u b144
      replace f_1 := f_1.u b144
      replace f60 := f60.u b144
      replace f65 := f65.u b144
      replace f136 := f136.u b144
      refine wl_p (fun _ => o_pick_t rfl rfl) ?_
      refine wl_p (fun _ => o_assign rfl) ?_
      refine wl_nil ?_
      refine ret1 rfl rfl ?_
      exact ⟨by simp, hw⟩
    | false =>
      have ea := pApply_no hb hf
      refine rk_skip ?_
      refine rk_seq ?_
      refine rk_region ?_
      refine wl_r (o_loadag Try.isAgg25 Try.sizeOf25 rfl f3 (by rfl)) ?_
      refine wl_call rfl (C_lplan _ (PlV.mk_ (hL.u hw) (hM.u hw) rfl rfl (by omega) (by omega)) (by simp; omega) (by simp; omega)) ?_
      rintro v29 w29 ⟨⟨A29, ⟨c29, ⟨A29_1, ⟨c29_1, ⟨rfl, ⟨f29, f29_1⟩⟩⟩⟩⟩⟩, b29⟩
      dsimp only at f29
      dsimp only at f29_1
      dsimp only
      replace f29 := f29.h_
      have qf29 := f29.cap
      replace f29_1 := f29_1.h_
      have qf29_1 := f29_1.cap
      have s29 := b29.size
      replace hw := hw.trans (b29.mono hw.size)
      replace f3 := f3.u b29
      refine wl_call rfl (C_Back' _ (PlV.mk_ f29.to_RD f29_1.to_RD rfl rfl (by omega) (by omega)) eb ⟨by simp only; omega, by simp only; omega⟩) ?_
      rintro v30 w30 ⟨u30, ⟨rfl, ⟨⟨A30, ⟨c30, ⟨A30_1, ⟨c30_1, ⟨rfl, ⟨f30, f30_1⟩⟩⟩⟩⟩⟩, b30⟩⟩⟩
      dsimp only at f30
      dsimp only at f30_1
      dsimp only
      replace f30 := f30.h_
      have qf30 := f30.cap
      replace f30_1 := f30_1.h_
      have qf30_1 := f30_1.cap
      have s30 := b30.size
      replace hw := hw.trans (b30.mono hw.size)
      replace f3 := f3.u b30
      replace f29_1 := f29_1.u b30
      replace f29 := f29.u b30
      refine wl_p (fun _ => o_move rfl) ?_
      refine wl_p (fun _ => o_ext20 rfl) ?_
      refine wl_p (fun _ => o_ext21 rfl) ?_
      refine wl_allocg [_, _, _] Try.zeroValue25 (by rfl) ?_
      rintro g7 w7 f7 b7 i7 i7_1
      have s7 := b7.size
      replace hw := hw.trans (b7.mono hw.size)
      replace f29 := f29.u b7
      replace f29_1 := f29_1.u b7
      replace f3 := f3.u b7
      replace f30_1 := f30_1.u b7
      replace f30 := f30.u b7
      refine wl_storega Try.sizeOf25 rfl rfl (by rfl) (oneCell_of (by rfl)) f7 (by rfl) ?_
      rintro w_1 f g e
      have s := g.size
      replace hw := hw.trans (below_of_grownBy g.g hw.size (by omega))
      replace f30 := f30.k g.g (ap_some (by omega))
      replace f30_1 := f30_1.k g.g (ap_some (by omega))
      replace f3 := f3.k g.g (ap_some (by omega))
      replace f29_1 := f29_1.k g.g (ap_some (by omega))
      replace f29 := f29.k g.g (ap_some (by omega))
      clear f7
      refine wl_p (fun _ => o_assign rfl) ?_
      refine wl_nil ?_
      refine rk_seq ?_
      refine rk_seq ?_
      refine rk_region ?_
      refine wl_p (fun _ => o_move rfl) ?_
      refine wl_r (o_loadag Try.isAgg25 Try.sizeOf25 rfl f3 (by rfl)) ?_
      refine wl_call rfl (C_Check' _ (PlV.mk_ (hL.u hw) (hM.u hw) rfl rfl (by omega) (by omega)) ec ⟨by simp only; omega, by simp only; omega⟩) ?_
      rintro v35 w35 ⟨rfl, b35⟩
      have s35 := b35.size
      replace hw := hw.trans (b35.mono hw.size)
      replace f29 := f29.u b35
      replace f29_1 := f29_1.u b35
      replace f3 := f3.u b35
      replace f30_1 := f30_1.u b35
      replace f30 := f30.u b35
      replace f := f.u b35
      refine wl_p (fun _ => o_ne rfl rfl) ?_
      refine wl_nil ?_
      refine rk_false rfl ?_
      refine rk_skip ?_
      refine rk_seq ?_
      refine rk_seq ?_
      refine rk_region ?_
      refine wl_p (fun _ => o_move rfl) ?_
      refine wl_p (fun _ => o_ne rfl rfl) ?_
      refine wl_nil ?_
      refine rk_false rfl ?_
      refine rk_skip ?_
      refine rk_seq ?_
      refine rk_region ?_
      refine wl_r (o_loadag Try.isAgg25 Try.sizeOf25 rfl f (by rfl)) ?_
      refine wl_call rfl (C_Back' _ (PlV.mk_ f30.to_RD f30_1.to_RD rfl rfl (by omega) (by omega)) eb2 ⟨by simp only; omega, by simp only; omega⟩) ?_
      rintro v55 w55 ⟨u55, ⟨rfl, ⟨⟨A55, ⟨c55, ⟨A55_1, ⟨c55_1, ⟨rfl, ⟨f55, f55_1⟩⟩⟩⟩⟩⟩, b55⟩⟩⟩
      dsimp only at f55
      dsimp only at f55_1
      dsimp only
      replace f55 := f55.h_
      have qf55 := f55.cap
      replace f55_1 := f55_1.h_
      have qf55_1 := f55_1.cap
      have s55 := b55.size
      replace hw := hw.trans (b55.mono hw.size)
      replace f := f.u b55
      replace f30 := f30.u b55
      replace f30_1 := f30_1.u b55
      replace f3 := f3.u b55
      replace f29_1 := f29_1.u b55
      replace f29 := f29.u b55
      refine wl_p (fun _ => o_move rfl) ?_
      refine wl_p (fun _ => o_ext20 rfl) ?_
      refine wl_p (fun _ => o_ext21 rfl) ?_
      refine wl_allocg [_, _, _] Try.zeroValue25 (by rfl) ?_
      rintro g9 w9 f9 b9 i9 i9_1
      have s9 := b9.size
      replace hw := hw.trans (b9.mono hw.size)
      replace f29 := f29.u b9
      replace f29_1 := f29_1.u b9
      replace f3 := f3.u b9
      replace f30_1 := f30_1.u b9
      replace f30 := f30.u b9
      replace f := f.u b9
      replace f55_1 := f55_1.u b9
      replace f55 := f55.u b9
      refine wl_storega Try.sizeOf25 rfl rfl (by rfl) (oneCell_of (by rfl)) f9 (by rfl) ?_
      rintro w_2 f_1 g_1 e_1
      have s_1 := g_1.size
      replace hw := hw.trans (below_of_grownBy g_1.g hw.size (by omega))
      replace f55 := f55.k g_1.g (ap_some (by omega))
      replace f55_1 := f55_1.k g_1.g (ap_some (by omega))
      replace f := f.k g_1.g (ap_some (by omega))
      replace f30 := f30.k g_1.g (ap_some (by omega))
      replace f30_1 := f30_1.k g_1.g (ap_some (by omega))
      replace f3 := f3.k g_1.g (ap_some (by omega))
      replace f29_1 := f29_1.k g_1.g (ap_some (by omega))
      replace f29 := f29.k g_1.g (ap_some (by omega))
      clear f9
      refine wl_p (fun _ => o_assign rfl) ?_
      refine wl_nil ?_
      refine rk_seq ?_
      refine rk_region ?_
      refine wl_p (fun _ => o_move rfl) ?_
      refine wl_call rfl (C_once (c) _ (hrz.u hw) rfl (by omega) (by omega)) ?_
      rintro v59 w59 ⟨A59, ⟨c59, ⟨rfl, ⟨f59, b59⟩⟩⟩⟩
      have qf59 := f59.cap
      have s59 := b59.size
      replace hw := hw.trans (b59.mono hw.size)
      replace f29 := f29.u b59
      replace f29_1 := f29_1.u b59
      replace f3 := f3.u b59
      replace f30_1 := f30_1.u b59
      replace f30 := f30.u b59
      replace f := f.u b59
      replace f55_1 := f55_1.u b59
      replace f55 := f55.u b59
      replace f_1 := f_1.u b59
      refine wl_call rfl (C_names (c59) rfl _ f59.to_Reads (by omega)) ?_
      rintro v60 w60 ⟨A60, ⟨c60, ⟨rfl, ⟨f60, b60⟩⟩⟩⟩
      replace f60 := f60.h_
      have qf60 := f60.cap
      have s60 := b60.size
      replace hw := hw.trans (b60.mono hw.size)
      replace f_1 := f_1.u b60
      replace f55 := f55.u b60
      replace f55_1 := f55_1.u b60
      replace f := f.u b60
      replace f30 := f30.u b60
      replace f30_1 := f30_1.u b60
      replace f3 := f3.u b60
      replace f29_1 := f29_1.u b60
      replace f29 := f29.u b60
      replace f59 := f59.u b60
      refine wl_p (fun _ => o_assign rfl) ?_
      refine wl_nil ?_
      refine rk_seq ?_
      refine rk_region ?_
      refine wl_r (o_loadag Try.isAgg25 Try.sizeOf25 rfl f3 (by rfl)) ?_
      refine wl_call rfl (C_lplan _ (PlV.mk_ (hL.u hw) (hM.u hw) rfl rfl (by omega) (by omega)) (by simp; omega) (by simp; omega)) ?_
      rintro v63 w63 ⟨⟨A63, ⟨c63, ⟨A63_1, ⟨c63_1, ⟨rfl, ⟨f63, f63_1⟩⟩⟩⟩⟩⟩, b63⟩
      dsimp only at f63
      dsimp only at f63_1
      dsimp only
      replace f63 := f63.h_
      have qf63 := f63.cap
      replace f63_1 := f63_1.h_
      have qf63_1 := f63_1.cap
      have s63 := b63.size
      replace hw := hw.trans (b63.mono hw.size)
      replace f59 := f59.u b63
      replace f29 := f29.u b63
      replace f29_1 := f29_1.u b63
      replace f3 := f3.u b63
      replace f30_1 := f30_1.u b63
      replace f30 := f30.u b63
      replace f := f.u b63
      replace f55_1 := f55_1.u b63
      replace f55 := f55.u b63
      replace f_1 := f_1.u b63
      replace f60 := f60.u b63
      refine wl_p (fun _ => o_move rfl) ?_
      refine wl_call rfl (C_Names (c60) (by simp) _ f60.to_RD (by simp; omega)) ?_
      rintro v65 w65 ⟨A65, ⟨c65, ⟨rfl, ⟨f65, b65⟩⟩⟩⟩
      replace f65 := f65.h_
      have qf65 := f65.cap
      have s65 := b65.size
      replace hw := hw.trans (b65.mono hw.size)
      replace f60 := f60.u b65
      replace f_1 := f_1.u b65
      replace f55 := f55.u b65
      replace f55_1 := f55_1.u b65
      replace f := f.u b65
      replace f30 := f30.u b65
      replace f30_1 := f30_1.u b65
      replace f3 := f3.u b65
      replace f29_1 := f29_1.u b65
      replace f29 := f29.u b65
      replace f59 := f59.u b65
      replace f63_1 := f63_1.u b65
      replace f63 := f63.u b65
      refine wl_call rfl (C_Apply' _ (PlV.mk_ f63.to_RD f63_1.to_RD rfl rfl (by omega) (by omega)) f65.to_RD ea rfl ⟨by simp only; omega, by simp only; omega⟩ (by omega) (by simp; omega)) ?_
      rintro v66 w66 ⟨A66, ⟨c66, ⟨rfl, ⟨f66, b66⟩⟩⟩⟩
      dsimp only at f66
      dsimp only
      replace f66 := f66.h_
      have qf66 := f66.cap
      have s66 := b66.size
      replace hw := hw.trans (b66.mono hw.size)
      replace f63 := f63.u b66
      replace f63_1 := f63_1.u b66
      replace f59 := f59.u b66
      replace f29 := f29.u b66
      replace f29_1 := f29_1.u b66
      replace f3 := f3.u b66
      replace f30_1 := f30_1.u b66
      replace f30 := f30.u b66
      replace f := f.u b66
      replace f55_1 := f55_1.u b66
      replace f55 := f55.u b66
      replace f_1 := f_1.u b66
      replace f60 := f60.u b66
      replace f65 := f65.u b66
      refine wl_p (fun _ => o_move rfl) ?_
      refine wl_p (fun _ => o_ext20 rfl) ?_
      refine wl_p (fun _ => o_ext21 rfl) ?_
      refine wl_p (fun _ => o_assign rfl) ?_
      refine wl_p (fun _ => o_assign rfl) ?_
      refine wl_nil ?_
      refine rk_seq ?_
      refine rk_region ?_
      refine wl_p (fun _ => o_faddr (s := 25) (i := 0) (off := 0) Try.underlying25 rfl Try.sizeOf3 rfl rfl rfl) ?_
      refine wl_r (o_loadbg Try.isAgg3 rfl f3 (by rfl)) ?_
      refine wl_p (fun _ => o_move rfl) ?_
      refine wl_p (fun _ => o_len (t := 23) Try.underlying23 rfl) ?_
      refine wl_p (fun _ => o_le rfl rfl) ?_
      refine wl_p (fun _ => o_move rfl) ?_
      refine wl_bool 74 rfl (fun h74 => ?_) (fun h74 => ?_) <;> try simp only [decide_eq_true_eq, decide_eq_false_iff_not, Bool.not_eq_true', Bool.not_eq_false', Bool.and_eq_true, Bool.and_eq_false_iff, Bool.or_eq_true, Bool.or_eq_false_iff] at h74
      · refine wl_p (fun _ => o_move rfl) ?_
        refine wl_p (fun _ => o_len (t := 23) Try.underlying23 rfl) ?_
        refine wl_p (fun _ => o_faddr (s := 25) (i := 0) (off := 0) Try.underlying25 rfl Try.sizeOf3 rfl rfl rfl) ?_
        refine wl_r (o_loadbg Try.isAgg3 rfl f3 (by rfl)) ?_
        refine wl_p (fun _ => o_sub rfl rfl (by omega) (by omega)) ?_
        refine wl_p (fun _ => o_faddr (s := 25) (i := 1) (off := 1) Try.underlying25 rfl Try.sizeOf23 rfl rfl rfl) ?_
        refine wl_r (o_loadbg Try.isAgg23 rfl f3 (by rfl)) ?_
        refine wl_p (fun _ => o_len (t := 23) Try.underlying23 rfl) ?_
        refine wl_p (fun _ => o_eq rfl rfl) ?_
        refine wl_p (fun _ => o_pick_t rfl rfl) ?_
        refine wl_p (fun _ => o_assign rfl) ?_
        refine wl_nil ?_
        refine rk_seq ?_
        refine rk_seq ?_
        refine rk_drawo (id := 14) (none) [0, 1, 2, 4, 4, 28, 36, 68, 160, 256, 768, 256, 2304, 4352, 9472, 16640, 33792, 65536, 65536, 458752, 65536, 1114112, 65536, 6356992, 8978432, 16842752, 34078720, 67108864, 67108864, 469762048, 67108864, 67108864, 3825205248, 4898947072, 8657043456, 21474836480, 34359738368, 103079215104, 171798691840, 274877906944, 824633720832, 1408749273088, 2233382993920] [0, 1, 3, 7, 7, 31, 63, 127, 255, 511, 1023, 511, 2559, 6655, 16383, 32767, 65535, 131071, 131071, 524287, 131071, 1179647, 131071, 7471103, 16777215, 33554431, 67108863, 134217727, 134217727, 536870911, 134217727, 134217727, 4294967295, 8589934591, 17179869183, 34359738367, 68719476735, 137438953471, 274877906943, 549755813887, 1099511627775, 2199023255551, 4398046511103] 4832363552 537396224 [0, 1, 2, 3, 4, 5, 6, 7, 8, 9, 11, 12, 13, 10, 14, 15, 16, 17, 18, 20, 21, 22, 23, 19, 24, 25, 26, 27, 28, 30, 31, 29, 32, 33, 34, 35, 36, 37, 38, 39, 40, 41, 42] [(.p, 0), (.p, 1), (.p, 2), (.r, 3), (.r, 4), (.l, 5), (.p, 6), (.p, 7), (.p, 8), (.r, 9), (.p, 11), (.s, 12), (.p, 13), (.c, 10), (.p, 14), (.p, 15), (.p, 16), (.r, 17), (.p, 18), (.p, 20), (.s, 21), (.p, 22), (.p, 23), (.c, 19), (.p, 24), (.p, 25), (.p, 26), (.r, 27), (.p, 28), (.s, 30), (.p, 31), (.c, 29), (.l, 32), (.p, 33), (.p, 34), (.p, 35), (.p, 36), (.p, 37), (.p, 38), (.p, 39), (.p, 40), (.p, 41), (.p, 42)] (by kernel_rfl) (by kernel_rfl) (by kernel_rfl) (by kernel_rfl) (by kernel_rfl) ?_
        dsimp only [inOrder, nthOp]
        replace hw := hw.drew
        replace f65 := f65.d
        replace f60 := f60.d
        replace f_1 := f_1.d
        replace f55 := f55.d
        replace f55_1 := f55_1.d
        replace f := f.d
        replace f30 := f30.d
        replace f30_1 := f30_1.d
        replace f3 := f3.d
        replace f29_1 := f29_1.d
        replace f29 := f29.d
        replace f59 := f59.d
        replace f63_1 := f63_1.d
        replace f63 := f63.d
        replace f66 := f66.d
        refine wl_p (fun _ => o_move rfl) ?_
        refine wl_p (fun _ => o_ne rfl rfl) ?_
        refine wl_p (fun _ => o_move rfl) ?_
        refine wl_r (o_loadag Try.isAgg25 Try.sizeOf25 rfl f_1 (by rfl)) ?_
        refine wl_r (o_loadag Try.isAgg25 Try.sizeOf25 rfl f3 (by rfl)) ?_
        refine wl_call rfl (C_kPlan _ (PlV.mk_ f55.to_RD f55_1.to_RD rfl rfl (by omega) (by omega)) (PlV.mk_ (hL.u hw) (hM.u hw) rfl rfl (by omega) (by omega)) (by simp; omega) (by simp; omega) (by simp; omega) (by simp; omega)) ?_
        rintro v90 w90 ⟨rfl, b90⟩
        simp only [drew_size] at b90
        have s90 := b90.size
        simp only [drew_size] at s90
        replace hw := hw.trans (b90.mono hw.size)
        replace f66 := f66.u b90
        replace f63 := f63.u b90
        replace f63_1 := f63_1.u b90
        replace f59 := f59.u b90
        replace f29 := f29.u b90
        replace f29_1 := f29_1.u b90
        replace f3 := f3.u b90
        replace f30_1 := f30_1.u b90
        replace f30 := f30.u b90
        replace f := f.u b90
        replace f55_1 := f55_1.u b90
        replace f55 := f55.u b90
        replace f_1 := f_1.u b90
        replace f60 := f60.u b90
        replace f65 := f65.u b90
        refine wl_p (fun _ => o_not rfl) ?_
        refine wl_p (fun _ => o_pick_f rfl rfl) ?_
        refine wl_p (fun _ => o_move rfl) ?_
        refine wl_know 93 false rfl (by simp) ?_
        refine wl_r (o_loadag Try.isAgg25 Try.sizeOf25 rfl f (by rfl)) ?_
        refine wl_p (fun _ => o_faddr (s := 25) (i := 2) (off := 2) Try.underlying25 rfl Try.sizeOf23 rfl rfl rfl) ?_
        refine wl_s (fun _ hk => (o_loadbg Try.isAgg23 rfl (f3.u (below_of_grown_none hk)) (by rfl))) ?_
        refine wl_p (fun _ => o_len (t := 23) Try.underlying23 rfl) ?_
        refine wl_call rfl (C_Depth' _ (PlV.mk_ f30.to_RD f30_1.to_RD rfl rfl (by omega) (by omega)) hb2 ⟨by simp only; omega, by simp only; omega⟩) ?_ (hq := .inr fun _ _ h => grown_of_below h.2 _)
        rintro v95 w95 ⟨rfl, b95⟩
        dsimp only
        have s95 := b95.size
        replace hw := hw.trans (b95.mono hw.size)
        replace f65 := f65.u b95
        replace f60 := f60.u b95
        replace f_1 := f_1.u b95
        replace f55 := f55.u b95
        replace f55_1 := f55_1.u b95
        replace f := f.u b95
        replace f30 := f30.u b95
        replace f30_1 := f30_1.u b95
        replace f3 := f3.u b95
        replace f29_1 := f29_1.u b95
        replace f29 := f29.u b95
        replace f59 := f59.u b95
        replace f63_1 := f63_1.u b95
        replace f63 := f63.u b95
        replace f66 := f66.u b95
        refine wl_p (fun _ => o_ne rfl rfl) ?_
        refine wl_p (fun _ => o_pick_f rfl rfl) ?_
        refine wl_p (fun _ => o_move rfl) ?_
        refine wl_know 101 false rfl (by simp) ?_
        refine wl_r (o_loadag Try.isAgg25 Try.sizeOf25 rfl f3 (by rfl)) ?_
        refine wl_p (fun _ => o_move rfl) ?_
        refine wl_p (fun _ => o_faddr (s := 25) (i := 0) (off := 0) Try.underlying25 rfl Try.sizeOf3 rfl rfl rfl) ?_
        refine wl_s (fun _ hk => (o_loadbg Try.isAgg3 rfl (f3.u (below_of_grown_none hk)) (by rfl))) ?_
        refine wl_p (fun _ => o_move rfl) ?_
        refine wl_p (fun _ => o_ge rfl rfl) ?_
        refine wl_call rfl (C_Spares' _ (PlV.mk_ (hL.u hw) (hM.u hw) rfl rfl (by omega) (by omega)) hb ⟨by simp only; omega, by simp only; omega⟩) ?_ (hq := .inr fun _ _ h => grown_of_below h.2 _)
        rintro v104 w104 ⟨rfl, b104⟩
        dsimp only
        have s104 := b104.size
        replace hw := hw.trans (b104.mono hw.size)
        replace f66 := f66.u b104
        replace f63 := f63.u b104
        replace f63_1 := f63_1.u b104
        replace f59 := f59.u b104
        replace f29 := f29.u b104
        replace f29_1 := f29_1.u b104
        replace f3 := f3.u b104
        replace f30_1 := f30_1.u b104
        replace f30 := f30.u b104
        replace f := f.u b104
        replace f55_1 := f55_1.u b104
        replace f55 := f55.u b104
        replace f_1 := f_1.u b104
        replace f60 := f60.u b104
        replace f65 := f65.u b104
        refine wl_p (fun _ => o_bne (t := 4) Try.underlying4 rfl rfl) ?_
        refine wl_p (fun _ => o_pick_f rfl rfl) ?_
        refine wl_p (fun _ => o_move rfl) ?_
        refine wl_know 111 false rfl (by simp) ?_
        refine wl_r (o_loadag Try.isAgg25 Try.sizeOf25 rfl f (by rfl)) ?_
        refine wl_p (fun _ => o_move rfl) ?_
        refine wl_s (fun _ hk => (o_loadag Try.isAgg25 Try.sizeOf25 rfl (f3.u (below_of_grown_none hk)) (by rfl))) ?_
        refine wl_p (fun _ => o_move rfl) ?_
        refine wl_call rfl (C_Spares' _ (PlV.mk_ f30.to_RD f30_1.to_RD rfl rfl (by omega) (by omega)) hb2 ⟨by simp only; omega, by simp only; omega⟩) ?_ (hq := .inr fun _ _ h => grown_of_below h.2 _)
        rintro v114 w114 ⟨rfl, b114⟩
        dsimp only
        have s114 := b114.size
        replace hw := hw.trans (b114.mono hw.size)
        replace f65 := f65.u b114
        replace f60 := f60.u b114
        replace f_1 := f_1.u b114
        replace f55 := f55.u b114
        replace f55_1 := f55_1.u b114
        replace f := f.u b114
        replace f30 := f30.u b114
        replace f30_1 := f30_1.u b114
        replace f3 := f3.u b114
        replace f29_1 := f29_1.u b114
        replace f29 := f29.u b114
        replace f59 := f59.u b114
        replace f63_1 := f63_1.u b114
        replace f63 := f63.u b114
        replace f66 := f66.u b114
        refine wl_call rfl (C_Spares' _ (PlV.mk_ (hL.u hw) (hM.u hw) rfl rfl (by omega) (by omega)) hb ⟨by simp only; omega, by simp only; omega⟩) ?_
        rintro v117 w117 ⟨rfl, b117⟩
        dsimp only
        have s117 := b117.size
        replace hw := hw.trans (b117.mono hw.size)
        replace f66 := f66.u b117
        replace f63 := f63.u b117
        replace f63_1 := f63_1.u b117
        replace f59 := f59.u b117
        replace f29 := f29.u b117
        replace f29_1 := f29_1.u b117
        replace f3 := f3.u b117
        replace f30_1 := f30_1.u b117
        replace f30 := f30.u b117
        replace f := f.u b117
        replace f55_1 := f55_1.u b117
        replace f55 := f55.u b117
        replace f_1 := f_1.u b117
        replace f60 := f60.u b117
        replace f65 := f65.u b117
        refine wl_p (fun _ => o_bne (t := 4) Try.underlying4 rfl rfl) ?_
        refine wl_p (fun _ => o_pick_f rfl rfl) ?_
        refine wl_p (fun _ => o_move rfl) ?_
        refine wl_know 120 false rfl (by simp) ?_
        refine wl_p (fun _ => o_move rfl) ?_
        refine wl_p (fun _ => o_not rfl) ?_
        refine wl_p (fun _ => o_move rfl) ?_
        refine wl_bool 123 rfl (fun h123 => ?_) (fun h123 => ?_) <;> try simp only [decide_eq_true_eq, decide_eq_false_iff_not, Bool.not_eq_true', Bool.not_eq_false', Bool.and_eq_true, Bool.and_eq_false_iff, Bool.or_eq_true, Bool.or_eq_false_iff] at h123
        · refine wl_p (fun _ => o_move rfl) ?_
          refine wl_p (fun _ => o_ne rfl rfl) ?_
          refine wl_p (fun _ => o_pick_t rfl rfl) ?_
          refine wl_p (fun _ => o_pick_f rfl rfl) ?_
          refine wl_nild ?_
          refine rk_false rfl ?_
          refine rk_skip ?_
          refine rk_seq ?_
          refine rk_seq ?_
          refine rk_region ?_
          refine wl_p (fun _ => o_move rfl) ?_
          refine wl_p (fun _ => o_ne rfl rfl) ?_
          refine wl_nil ?_
          refine rk_true rfl ?_
          refine rk_seq ?_
          refine rk_region ?_
          refine wl_p (fun _ => o_move rfl) ?_
          refine wl_p (fun _ => o_len (t := 23) Try.underlying23 rfl) ?_
          refine wl_p (fun _ => o_eq rfl rfl) ?_
          refine wl_p (fun _ => o_assign rfl) ?_
          refine wl_nil ?_
          refine ret1 rfl rfl ?_
          exact ⟨by simp, hw⟩
        · refine wl_off ?_
          refine wl_off ?_
          refine wl_p (fun _ => o_pick_f rfl rfl) ?_
          refine wl_p (fun _ => o_pick_f rfl rfl) ?_
          refine wl_nild ?_
          refine rk_false rfl ?_
          refine rk_skip ?_
          refine rk_seq ?_
          refine rk_seq ?_
          refine rk_region ?_
          refine wl_p (fun _ => o_move rfl) ?_
          refine wl_p (fun _ => o_ne rfl rfl) ?_
          refine wl_nil ?_
          refine rk_true rfl ?_
          refine rk_seq ?_
          refine rk_region ?_
          refine wl_p (fun _ => o_move rfl) ?_
          refine wl_p (fun _ => o_len (t := 23) Try.underlying23 rfl) ?_
          refine wl_p (fun _ => o_eq rfl rfl) ?_
          refine wl_p (fun _ => o_assign rfl) ?_
          refine wl_nil ?_
          refine ret1 rfl rfl ?_
          exact ⟨by simp, hw⟩
      · refine wl_off ?_
        refine wl_off ?_
        refine wl_off ?_
        refine wl_off ?_
        refine wl_off ?_
        refine wl_off ?_
        refine wl_off ?_
        refine wl_off ?_
        refine wl_off ?_
        refine wl_p (fun _ => o_pick_f rfl rfl) ?_
        refine wl_p (fun _ => o_assign rfl) ?_
        refine wl_nil ?_
        refine rk_seq ?_
        refine rk_seq ?_
        refine rk_drawo (id := 14) (none) [0, 1, 2, 4, 4, 28, 36, 68, 160, 256, 768, 256, 2304, 4352, 9472, 16640, 33792, 65536, 65536, 458752, 65536, 1114112, 65536, 6356992, 8978432, 16842752, 34078720, 67108864, 67108864, 469762048, 67108864, 67108864, 3825205248, 4898947072, 8657043456, 21474836480, 34359738368, 103079215104, 171798691840, 274877906944, 824633720832, 1408749273088, 2233382993920] [0, 1, 3, 7, 7, 31, 63, 127, 255, 511, 1023, 511, 2559, 6655, 16383, 32767, 65535, 131071, 131071, 524287, 131071, 1179647, 131071, 7471103, 16777215, 33554431, 67108863, 134217727, 134217727, 536870911, 134217727, 134217727, 4294967295, 8589934591, 17179869183, 34359738367, 68719476735, 137438953471, 274877906943, 549755813887, 1099511627775, 2199023255551, 4398046511103] 4832363552 537396224 [0, 1, 2, 3, 4, 5, 6, 7, 8, 9, 11, 12, 13, 10, 14, 15, 16, 17, 18, 20, 21, 22, 23, 19, 24, 25, 26, 27, 28, 30, 31, 29, 32, 33, 34, 35, 36, 37, 38, 39, 40, 41, 42] [(.p, 0), (.p, 1), (.p, 2), (.r, 3), (.r, 4), (.l, 5), (.p, 6), (.p, 7), (.p, 8), (.r, 9), (.p, 11), (.s, 12), (.p, 13), (.c, 10), (.p, 14), (.p, 15), (.p, 16), (.r, 17), (.p, 18), (.p, 20), (.s, 21), (.p, 22), (.p, 23), (.c, 19), (.p, 24), (.p, 25), (.p, 26), (.r, 27), (.p, 28), (.s, 30), (.p, 31), (.c, 29), (.l, 32), (.p, 33), (.p, 34), (.p, 35), (.p, 36), (.p, 37), (.p, 38), (.p, 39), (.p, 40), (.p, 41), (.p, 42)] (by kernel_rfl) (by kernel_rfl) (by kernel_rfl) (by kernel_rfl) (by kernel_rfl) ?_
        dsimp only [inOrder, nthOp]
        replace hw := hw.drew
        replace f65 := f65.d
        replace f60 := f60.d
        replace f_1 := f_1.d
        replace f55 := f55.d
        replace f55_1 := f55_1.d
        replace f := f.d
        replace f30 := f30.d
        replace f30_1 := f30_1.d
        replace f3 := f3.d
        replace f29_1 := f29_1.d
        replace f29 := f29.d
        replace f59 := f59.d
        replace f63_1 := f63_1.d
        replace f63 := f63.d
        replace f66 := f66.d
        refine wl_p (fun _ => o_move rfl) ?_
        refine wl_p (fun _ => o_ne rfl rfl) ?_
        refine wl_p (fun _ => o_move rfl) ?_
        refine wl_r (o_loadag Try.isAgg25 Try.sizeOf25 rfl f_1 (by rfl)) ?_
        refine wl_r (o_loadag Try.isAgg25 Try.sizeOf25 rfl f3 (by rfl)) ?_
        refine wl_call rfl (C_kPlan _ (PlV.mk_ f55.to_RD f55_1.to_RD rfl rfl (by omega) (by omega)) (PlV.mk_ (hL.u hw) (hM.u hw) rfl rfl (by omega) (by omega)) (by simp; omega) (by simp; omega) (by simp; omega) (by simp; omega)) ?_
        rintro v90 w90 ⟨rfl, b90⟩
        simp only [drew_size] at b90
        have s90 := b90.size
        simp only [drew_size] at s90
        replace hw := hw.trans (b90.mono hw.size)
        replace f66 := f66.u b90
        replace f63 := f63.u b90
        replace f63_1 := f63_1.u b90
        replace f59 := f59.u b90
        replace f29 := f29.u b90
        replace f29_1 := f29_1.u b90
        replace f3 := f3.u b90
        replace f30_1 := f30_1.u b90
        replace f30 := f30.u b90
        replace f := f.u b90
        replace f55_1 := f55_1.u b90
        replace f55 := f55.u b90
        replace f_1 := f_1.u b90
        replace f60 := f60.u b90
        replace f65 := f65.u b90
        refine wl_p (fun _ => o_not rfl) ?_
        refine wl_p (fun _ => o_pick_f rfl rfl) ?_
        refine wl_p (fun _ => o_move rfl) ?_
        refine wl_know 93 false rfl (by simp) ?_
        refine wl_r (o_loadag Try.isAgg25 Try.sizeOf25 rfl f (by rfl)) ?_
        refine wl_p (fun _ => o_faddr (s := 25) (i := 2) (off := 2) Try.underlying25 rfl Try.sizeOf23 rfl rfl rfl) ?_
        refine wl_s (fun _ hk => (o_loadbg Try.isAgg23 rfl (f3.u (below_of_grown_none hk)) (by rfl))) ?_
        refine wl_p (fun _ => o_len (t := 23) Try.underlying23 rfl) ?_
        refine wl_call rfl (C_Depth' _ (PlV.mk_ f30.to_RD f30_1.to_RD rfl rfl (by omega) (by omega)) hb2 ⟨by simp only; omega, by simp only; omega⟩) ?_ (hq := .inr fun _ _ h => grown_of_below h.2 _)
        rintro v95 w95 ⟨rfl, b95⟩
        dsimp only
        have s95 := b95.size
        replace hw := hw.trans (b95.mono hw.size)
        replace f65 := f65.u b95
        replace f60 := f60.u b95
        replace f_1 := f_1.u b95
        replace f55 := f55.u b95
        replace f55_1 := f55_1.u b95
        replace f := f.u b95
        replace f30 := f30.u b95
        replace f30_1 := f30_1.u b95
        replace f3 := f3.u b95
        replace f29_1 := f29_1.u b95
        replace f29 := f29.u b95
        replace f59 := f59.u b95
        replace f63_1 := f63_1.u b95
        replace f63 := f63.u b95
        replace f66 := f66.u b95
        refine wl_p (fun _ => o_ne rfl rfl) ?_
        refine wl_p (fun _ => o_pick_f rfl rfl) ?_
        refine wl_p (fun _ => o_move rfl) ?_
        refine wl_know 101 false rfl (by simp) ?_
        refine wl_r (o_loadag Try.isAgg25 Try.sizeOf25 rfl f3 (by rfl)) ?_
        refine wl_p (fun _ => o_move rfl) ?_
        refine wl_p (fun _ => o_faddr (s := 25) (i := 0) (off := 0) Try.underlying25 rfl Try.sizeOf3 rfl rfl rfl) ?_
        refine wl_s (fun _ hk => (o_loadbg Try.isAgg3 rfl (f3.u (below_of_grown_none hk)) (by rfl))) ?_
        refine wl_p (fun _ => o_move rfl) ?_
        refine wl_p (fun _ => o_ge rfl rfl) ?_
        refine wl_call rfl (C_Spares' _ (PlV.mk_ (hL.u hw) (hM.u hw) rfl rfl (by omega) (by omega)) hb ⟨by simp only; omega, by simp only; omega⟩) ?_ (hq := .inr fun _ _ h => grown_of_below h.2 _)
        rintro v104 w104 ⟨rfl, b104⟩
        dsimp only
        have s104 := b104.size
        replace hw := hw.trans (b104.mono hw.size)
        replace f66 := f66.u b104
        replace f63 := f63.u b104
        replace f63_1 := f63_1.u b104
        replace f59 := f59.u b104
        replace f29 := f29.u b104
        replace f29_1 := f29_1.u b104
        replace f3 := f3.u b104
        replace f30_1 := f30_1.u b104
        replace f30 := f30.u b104
        replace f := f.u b104
        replace f55_1 := f55_1.u b104
        replace f55 := f55.u b104
        replace f_1 := f_1.u b104
        replace f60 := f60.u b104
        replace f65 := f65.u b104
        refine wl_p (fun _ => o_bne (t := 4) Try.underlying4 rfl rfl) ?_
        refine wl_p (fun _ => o_pick_f rfl rfl) ?_
        refine wl_p (fun _ => o_move rfl) ?_
        refine wl_know 111 false rfl (by simp) ?_
        refine wl_r (o_loadag Try.isAgg25 Try.sizeOf25 rfl f (by rfl)) ?_
        refine wl_p (fun _ => o_move rfl) ?_
        refine wl_s (fun _ hk => (o_loadag Try.isAgg25 Try.sizeOf25 rfl (f3.u (below_of_grown_none hk)) (by rfl))) ?_
        refine wl_p (fun _ => o_move rfl) ?_
        refine wl_call rfl (C_Spares' _ (PlV.mk_ f30.to_RD f30_1.to_RD rfl rfl (by omega) (by omega)) hb2 ⟨by simp only; omega, by simp only; omega⟩) ?_ (hq := .inr fun _ _ h => grown_of_below h.2 _)
        rintro v114 w114 ⟨rfl, b114⟩
        dsimp only
        have s114 := b114.size
        replace hw := hw.trans (b114.mono hw.size)
        replace f65 := f65.u b114
        replace f60 := f60.u b114
        replace f_1 := f_1.u b114
        replace f55 := f55.u b114
        replace f55_1 := f55_1.u b114
        replace f := f.u b114
        replace f30 := f30.u b114
        replace f30_1 := f30_1.u b114
        replace f3 := f3.u b114
        replace f29_1 := f29_1.u b114
        replace f29 := f29.u b114
        replace f59 := f59.u b114
        replace f63_1 := f63_1.u b114
        replace f63 := f63.u b114
        replace f66 := f66.u b114
        refine wl_call rfl (C_Spares' _ (PlV.mk_ (hL.u hw) (hM.u hw) rfl rfl (by omega) (by omega)) hb ⟨by simp only; omega, by simp only; omega⟩) ?_
        rintro v117 w117 ⟨rfl, b117⟩
        dsimp only
        have s117 := b117.size
        replace hw := hw.trans (b117.mono hw.size)
        replace f66 := f66.u b117
        replace f63 := f63.u b117
        replace f63_1 := f63_1.u b117
        replace f59 := f59.u b117
        replace f29 := f29.u b117
        replace f29_1 := f29_1.u b117
        replace f3 := f3.u b117
        replace f30_1 := f30_1.u b117
        replace f30 := f30.u b117
        replace f := f.u b117
        replace f55_1 := f55_1.u b117
        replace f55 := f55.u b117
        replace f_1 := f_1.u b117
        replace f60 := f60.u b117
        replace f65 := f65.u b117
        refine wl_p (fun _ => o_bne (t := 4) Try.underlying4 rfl rfl) ?_
        refine wl_p (fun _ => o_pick_f rfl rfl) ?_
        refine wl_p (fun _ => o_move rfl) ?_
        refine wl_know 120 false rfl (by simp) ?_
        refine wl_p (fun _ => o_move rfl) ?_
        refine wl_p (fun _ => o_not rfl) ?_
        refine wl_p (fun _ => o_move rfl) ?_
        refine wl_p (fun _ => o_move rfl) ?_
        refine wl_p (fun _ => o_ne rfl rfl) ?_
        refine wl_p (fun _ => o_pick_t rfl rfl) ?_
        refine wl_p (fun _ => o_pick_f rfl rfl) ?_
        refine wl_nild ?_
        refine rk_false rfl ?_
        refine rk_skip ?_
        refine rk_seq ?_
        refine rk_seq ?_
        refine rk_region ?_
        refine wl_p (fun _ => o_move rfl) ?_
        refine wl_p (fun _ => o_ne rfl rfl) ?_
        refine wl_nil ?_
        refine rk_true rfl ?_
        refine rk_seq ?_
        refine rk_region ?_
        refine wl_p (fun _ => o_move rfl) ?_
        refine wl_p (fun _ => o_len (t := 23) Try.underlying23 rfl) ?_
        refine wl_p (fun _ => o_eq rfl rfl) ?_
        refine wl_p (fun _ => o_assign rfl) ?_
        refine wl_nil ?_
        refine ret1 rfl rfl ?_
        exact ⟨by simp, hw⟩
end Go.Proofs.Ytbncaabcddoicaa
