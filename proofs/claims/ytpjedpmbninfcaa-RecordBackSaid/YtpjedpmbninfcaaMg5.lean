/-
  Walks of package record: how a record begins.
-/
import Derived.Test.YtpjedpmbninfcaaMg4
import GoSem.Op.String
namespace Go.Proofs.Ytpjedpmbninfcaa
open Go.RowKit
/-- Where a record's Data begins, and its size: Kind, begin, size, error. -/
def startR (b : By) : Nat × Nat × Nat × Nat :=
  if (rWord 1 (b.take 10, 0)).2.2 = 0 ∧ (rWord 1 (b.take 10, 0)).1 = 0 then (0, 0, 0, 4)
  else if (rNumber (rWord 1 (b.take 10, 0)).2).2.2 ≠ 0 then (0, 0, 0, (rNumber (rWord 1 (b.take 10, 0)).2).2.2)
  else if 8192 < (rNumber (rWord 1 (b.take 10, 0)).2).1 then (0, 0, 0, 4)
  else ((rWord 1 (b.take 10, 0)).1, (b.take 10).length - (rNumber (rWord 1 (b.take 10, 0)).2).2.1.length, (rNumber (rWord 1 (b.take 10, 0)).2).1, 0)
theorem P_start {A : Option Addr} {b : By} {n c k f z e : Nat} (w : World) (hb : Rd w A b) (hn : n = b.length) (hc : b.length ≤ c) (hs : startR b = (k, f, z, e)) :
    CallsR Try.prog 24 [.slice A n c] w fun v w' => v = .tuple #[.int .u8 (k : Int), .int .i64 (f : Int), .int .i64 (z : Int), .int .i64 (e : Int)] ∧ Below w.heap.size w w' := by
  subst hn
  obtain ⟨m, hm⟩ : ∃ m : Nat, min (b.length : Int) 10 = m := ⟨min b.length 10, by omega⟩
  have hm2 : b.take m = b.take 10 := by
    rw [List.take_eq_take_iff]; omega
  have hml : (b.take m).length = m := by rw [List.length_take]; omega
  refine callsR Try.func24 rfl rfl (by kernel_rfl) rfl ?_
  have hw := Below.refl w.heap.size w
  refine rk_seq ?_
  refine rk_region ?_
  refine wl_p (fun _ => o_assign rfl) ?_
  refine wl_p (fun _ => o_assign rfl) ?_
  refine wl_p (fun _ => o_assign rfl) ?_
  refine wl_p (fun _ => o_assign rfl) ?_
  refine wl_nil ?_
  refine rk_seq ?_
  refine rk_region ?_
  refine wl_p (fun _ => o_move rfl) ?_
  refine wl_p (fun _ => o_move rfl) ?_
  refine wl_p (fun _ => o_len (t := 26) Try.underlying26 rfl) ?_
  refine wl_p (fun _ => o_min rfl rfl) ?_
  refine wl_slBh Try.u8 (m) rfl rfl hb rfl hm (by omega) (by omega) ?_
  rintro f12
  refine wl_p (fun _ => o_assign rfl) ?_
  refine wl_nil ?_
  refine rk_seq ?_
  refine rk_region ?_
  refine wl_p (fun _ => o_move rfl) ?_
  refine wl_call rfl (C_Read (c) (by omega) _ f12 (by omega)) ?_
  rintro v14 w14 ⟨g14, ⟨rfl, ⟨i14, ⟨i14_1, ⟨i14_2, b14⟩⟩⟩⟩⟩
  have s14 := b14.size
  replace hw := hw.trans (b14.mono hw.size)
  refine wl_p (fun _ => o_assign rfl) ?_
  refine wl_nil ?_
  refine rk_seq ?_
  refine rk_region ?_
  refine wl_p (fun _ => o_move rfl) ?_
  rw [hm]
  have hc16 := C_RWord 1 w14 i14_2
  rw [List.drop_zero] at hc16
  obtain ⟨q1, hq1⟩ : ∃ q1, rWord 1 (b.take 10, 0) = q1 := ⟨_, rfl⟩
  have hk1 : q1.1 ≤ 255 := by
    rw [← hq1]
    have h1 := leVal_lt (rTake (clampN 1) (b.take 10, 0)).1
    have h2 : (rTake (clampN 1) (b.take 10, 0)).1.length ≤ 1 := by
      unfold rTake; (repeat' split) <;> simp [clampN, List.length_take] <;> omega
    have h3 := Nat.pow_le_pow_right (show 0 < 256 by omega) h2
    show leVal _ ≤ 255
    omega
  obtain ⟨k1, l1, e1⟩ := q1
  simp only at hk1
  rw [hm2, hq1] at hc16
  dsimp only at hc16
  have hwr : IntKind.u8.wrap (k1 : Int) = (k1 : Int) := by rw [IntKind.wrap_u8']; omega
  refine wl_call rfl hc16 ?_
  rintro _ w16 ⟨rfl, g16, p1, hR1, hl1⟩
  have hsz16 := g16.size
  replace hw := hw.trans (below_of_grownBy g16 hw.size (by omega))
  clear i14_2 b14 hc16
  refine wl_p (fun _ => o_convi (src := 25) (dst := 5) Try.underlying25 Try.underlying5 rfl) ?_
  refine wl_p (fun _ => o_assign rfl) ?_
  refine wl_nil ?_
  refine rk_seq ?_
  refine rk_seq ?_
  refine rk_region ?_
  refine wl_p (fun _ => o_move rfl) ?_
  rw [hwr]
  refine wl_call rfl (C_RErr w16 hR1) ?_
  rintro _ _ ⟨rfl, rfl⟩
  have hc26 := C_RNumber w16 hR1
  rw [← hl1] at hc26
  obtain ⟨q2, hq2⟩ : ∃ q2, rNumber (l1, e1) = q2 := ⟨_, rfl⟩
  rw [hq2] at hc26
  obtain ⟨n2, l2, e2⟩ := q2
  dsimp only at hc26
  unfold startR at hs
  rw [hq1] at hs
  dsimp only at hs
  rw [hq2] at hs
  dsimp only at hs
  by_cases h0 : (e1 : Int) = 0
  · have h0' : e1 = 0 := by omega
    refine wl_p (fun _ => o_eq rfl rfl) ?_
    refine wl_p (fun _ => o_move rfl) ?_
    refine wl_know 21 true rfl (decide_eq_true (by omega)) ?_
    refine wl_p (fun _ => o_move rfl) ?_
    refine wl_p (fun _ => o_eq rfl rfl) ?_
    refine wl_p (fun _ => o_pick_t rfl rfl) ?_
    refine wl_nil ?_
    rw [decide_eq_true h0]
    refine rk_if rfl (fun h24 => ?_) (fun h24 => ?_)
    · refine rk_seq ?_
      refine rk_region ?_
      refine wl_p (fun _ => o_assign rfl) ?_
      refine wl_p (fun _ => o_assign rfl) ?_
      refine wl_p (fun _ => o_assign rfl) ?_
      refine wl_p (fun _ => o_assign rfl) ?_
      refine wl_nil ?_
      refine ret_any (vs := [.int .u8 0, .int .i64 0, .int .i64 0, .int .i64 4]) rfl (.tmp rfl (.tmp rfl (.tmp rfl (.tmp rfl .nil)))) (by simp) ?_
      have hk0 : k1 = 0 := by omega
      rw [if_pos ⟨h0', hk0⟩] at hs
      cases hs
      exact ⟨rfl, hw⟩
    · rw [if_neg (fun h => by omega)] at hs
      refine rk_skip ?_
      refine rk_seq ?_
      refine rk_region ?_
      refine wl_p (fun _ => o_move rfl) ?_
      refine wl_call rfl hc26 ?_
      rintro _ w26 ⟨rfl, g26, p2, hR2, hl2⟩
      replace hw := hw.trans (below_of_grownBy g26 hw.size (by omega))
      refine wl_p (fun _ => o_assign rfl) ?_
      refine wl_nil ?_
      refine rk_seq ?_
      refine rk_seq ?_
      refine rk_region ?_
      refine wl_p (fun _ => o_move rfl) ?_
      refine wl_call rfl (C_RErr w26 hR2) ?_
      rintro _ _ ⟨rfl, rfl⟩
      refine wl_p (fun _ => o_ne rfl rfl) ?_
      refine wl_nil ?_
      refine rk_if rfl (fun h29 => ?_) (fun h29 => ?_)
      · refine rk_seq ?_
        refine rk_region ?_
        refine wl_p (fun _ => o_move rfl) ?_
        refine wl_call rfl (C_RErr w26 hR2) ?_
        rintro _ _ ⟨rfl, rfl⟩
        refine wl_p (fun _ => o_assign rfl) ?_
        refine wl_p (fun _ => o_assign rfl) ?_
        refine wl_p (fun _ => o_assign rfl) ?_
        refine wl_p (fun _ => o_assign rfl) ?_
        refine wl_nil ?_
        refine ret_any (vs := [.int .u8 0, .int .i64 0, .int .i64 0, .int .i64 (e2 : Int)]) rfl (.tmp rfl (.tmp rfl (.tmp rfl (.tmp rfl .nil)))) (by simp) ?_
        rw [if_pos (show e2 ≠ 0 by omega)] at hs
        cases hs
        exact ⟨rfl, hw⟩
      · rw [if_neg (show ¬ e2 ≠ 0 by omega)] at hs
        refine rk_skip ?_
        refine rk_seq ?_
        refine rk_seq ?_
        refine rk_region ?_
        refine wl_p (fun _ => o_move rfl) ?_
        refine wl_p (fun _ => o_gt rfl rfl) ?_
        refine wl_nil ?_
        refine rk_if rfl (fun h33 => ?_) (fun h33 => ?_)
        · refine rk_seq ?_
          refine rk_region ?_
          refine wl_p (fun _ => o_assign rfl) ?_
          refine wl_p (fun _ => o_assign rfl) ?_
          refine wl_p (fun _ => o_assign rfl) ?_
          refine wl_p (fun _ => o_assign rfl) ?_
          refine wl_nil ?_
          refine ret_any (vs := [.int .u8 0, .int .i64 0, .int .i64 0, .int .i64 4]) rfl (.tmp rfl (.tmp rfl (.tmp rfl (.tmp rfl .nil)))) (by simp) ?_
          rw [if_pos (by omega)] at hs
          cases hs
          exact ⟨rfl, hw⟩
        · rw [if_neg (by omega)] at hs
          refine rk_skip ?_
          refine rk_seq ?_
          refine rk_region ?_
          refine wl_p (fun _ => o_move rfl) ?_
          refine wl_p (fun _ => o_move rfl) ?_
          refine wl_p (fun _ => o_len (t := 26) Try.underlying26 rfl) ?_
          refine wl_p (fun _ => o_move rfl) ?_
          refine wl_call rfl (C_RLeft w26 hR2) ?_
          rintro _ _ ⟨rfl, rfl⟩
          replace hw := hw.drew
          have hdl : l2.length ≤ m := by rw [hl2, List.length_drop, ← hm2, hml]; omega
          have hmt : (b.take 10).length = m := by rw [← hm2, hml]
          rw [← hl2]
          refine wl_p (fun _ => o_sub rfl rfl (by omega) (by omega)) ?_
          refine wl_p (fun _ => o_move rfl) ?_
          refine wl_p (fun _ => o_convi64 (src := 25) (dst := 3) Try.underlying25 Try.underlying3 rfl (by omega) (by omega)) ?_
          refine wl_p (fun _ => o_assign rfl) ?_
          refine wl_p (fun _ => o_assign rfl) ?_
          refine wl_p (fun _ => o_assign rfl) ?_
          refine wl_p (fun _ => o_assign rfl) ?_
          refine wl_nil ?_
          refine ret_any (vs := [.int .u8 (k1 : Int), .int .i64 ((m : Int) - l2.length), .int .i64 (n2 : Int), .int .i64 0]) rfl (.tmp rfl (.tmp rfl (.tmp rfl (.tmp rfl .nil)))) (by simp) ?_
          cases hs
          rw [hmt, Int.ofNat_sub hdl]
          exact ⟨rfl, hw⟩
  · rw [if_neg (fun h => by omega)] at hs
    refine wl_p (fun _ => o_eq rfl rfl) ?_
    refine wl_p (fun _ => o_move rfl) ?_
    refine wl_know 21 false rfl (decide_eq_false (by omega)) ?_
    refine wl_off ?_
    refine wl_off ?_
    refine wl_p (fun _ => o_pick_f rfl rfl) ?_
    refine wl_nil ?_
    refine rk_false rfl ?_
    refine rk_skip ?_
    refine rk_seq ?_
    refine rk_region ?_
    refine wl_p (fun _ => o_move rfl) ?_
    rw [decide_eq_false h0]
    refine wl_call rfl hc26 ?_
    rintro _ w26 ⟨rfl, g26, p2, hR2, hl2⟩
    replace hw := hw.trans (below_of_grownBy g26 hw.size (by omega))
    refine wl_p (fun _ => o_assign rfl) ?_
    refine wl_nil ?_
    refine rk_seq ?_
    refine rk_seq ?_
    refine rk_region ?_
    refine wl_p (fun _ => o_move rfl) ?_
    refine wl_call rfl (C_RErr w26 hR2) ?_
    rintro _ _ ⟨rfl, rfl⟩
    refine wl_p (fun _ => o_ne rfl rfl) ?_
    refine wl_nil ?_
    refine rk_if rfl (fun h29 => ?_) (fun h29 => ?_)
    · refine rk_seq ?_
      refine rk_region ?_
      refine wl_p (fun _ => o_move rfl) ?_
      refine wl_call rfl (C_RErr w26 hR2) ?_
      rintro _ _ ⟨rfl, rfl⟩
      refine wl_p (fun _ => o_assign rfl) ?_
      refine wl_p (fun _ => o_assign rfl) ?_
      refine wl_p (fun _ => o_assign rfl) ?_
      refine wl_p (fun _ => o_assign rfl) ?_
      refine wl_nil ?_
      refine ret_any (vs := [.int .u8 0, .int .i64 0, .int .i64 0, .int .i64 (e2 : Int)]) rfl (.tmp rfl (.tmp rfl (.tmp rfl (.tmp rfl .nil)))) (by simp) ?_
      rw [if_pos (show e2 ≠ 0 by omega)] at hs
      cases hs
      exact ⟨rfl, hw⟩
    · exfalso
      rw [rNumber_err (by omega)] at hq2
      cases hq2
      omega
/-- Where a record's Data begins; kept closed. -/
structure StartR (b : By) (k f z e : Nat) : Prop where
  eq : startR b = (k, f, z, e)
theorem C_startR {A : Option Addr} {b : By} {n c k f z e : Nat} (w : World) (hs : StartR b k f z e) (hb : Rd w A b) (hn : n = b.length) (hc : b.length ≤ c) :
    CallsR Try.prog 24 [.slice A n c] w fun v w' => v = .tuple #[.int .u8 (k : Int), .int .i64 (f : Int), .int .i64 (z : Int), .int .i64 (e : Int)] ∧ Below w.heap.size w w' := P_start w hb hn hc hs.eq
end Go.Proofs.Ytpjedpmbninfcaa
/-
  A copy of bytes: bytes.Clone.
-/
namespace Go.Proofs.Ytpjedpmbninfcaa
open Go.RowKit
section
variable {P : Program} {N : Nat} {fr : Fr} {w : World} {ty t t' : TypeId} {x y : Operand}
theorem run_equal_slice_nil {e : TypeId} (hu : P.underlying t = some (.slice e)) (A : Option Addr) (n c : Nat) : (Op.equal t (.slice A n c) (.slice none 0 0)).run P w = .ok A.isNone w := by
  have h : ∀ d : Nat, (Op.equalIn (d + 1) t (.slice A n c) (.slice none 0 0)).run P w = .ok A.isNone w := fun d => by
    cases A <;> simp [Op.equalIn, run_underlying hu]
  exact h 9999
--@ rule binOp p o_sleqN
theorem o_sleqN {e : TypeId} {A : Option Addr} {n c : Nat} (hu : P.underlying t = some (.slice e)) (hx : fr.ev x = some (.slice A n c)) (hy : fr.ev y = some (.slice none 0 0)) : OpV P N fr w (.binOp .eql t x y t') ty (.bool A.isNone) w :=
  o_bin hx hy (fun _ _ => by simp [go_sem]) (by simp only [binOp]; simp [run_equal_slice_nil hu])
end
theorem C_bClone {A : Option Addr} {p : List UInt8} {n c : Nat} (w : World) (hp : Rd w A p) (hn : n = p.length) (hl : p.length ≤ 4000000000) :
    CallsR Try.prog 25 [.slice A n c] w fun v w' => ∃ A' c', v = .slice A' p.length c' ∧ OwnH w' w.heap.size w'.heap.size A' c' p ∧ Below w.heap.size w w' := by
  subst hn
  rcases A with _ | ad
  · obtain rfl : p = [] := by
      rcases p with _ | ⟨a, p⟩
      · rfl
      · obtain ⟨_, _, e, _⟩ := hp.2 (by simp [B8]); cases e
    refine callsR Try.func25 rfl rfl (by kernel_rfl) rfl ?_
    have hw := Below.refl w.heap.size w
    refine rk_seq ?_
    refine rk_region ?_
    refine wl_p (fun _ => o_assign rfl) ?_
    refine wl_nil ?_
    refine rk_seq ?_
    refine rk_seq ?_
    refine rk_region ?_
    refine wl_p (fun _ => o_move rfl) ?_
    refine wl_p (fun _ => (o_sleqN Try.underlying26 rfl rfl)) ?_
    refine wl_nil ?_
    refine rk_true rfl ?_
    refine rk_seq ?_
    refine rk_region ?_
    refine wl_p (fun _ => o_assign rfl) ?_
    refine wl_nil ?_
    refine ret1 rfl rfl ?_
    exact ⟨none, 0, rfl, OwnH.nil_, hw⟩
  · refine callsR Try.func25 rfl rfl (by kernel_rfl) rfl ?_
    have hw := Below.refl w.heap.size w
    refine rk_seq ?_
    refine rk_region ?_
    refine wl_p (fun _ => o_assign rfl) ?_
    refine wl_nil ?_
    refine rk_seq ?_
    refine rk_seq ?_
    refine rk_region ?_
    refine wl_p (fun _ => o_move rfl) ?_
    refine wl_p (fun _ => (o_sleqN Try.underlying26 rfl rfl)) ?_
    refine wl_nil ?_
    refine rk_false rfl ?_
    refine rk_skip ?_
    refine rk_seq ?_
    refine rk_region ?_
    refine wl_litB [] Try.u8 Try.sizeOf5 Try.zeroValue5 (by rfl) rfl rfl (by rfl) (by rfl) (by rfl) ?_
    rintro A5 w5 f5 b5
    have qf5 := f5.cap
    have s5 := b5.size
    replace hw := hw.trans (b5.mono hw.size)
    refine wl_p (fun _ => o_move rfl) ?_
    refine wl_appB Try.u8 rfl f5 (by rfl) rfl (hp.u hw) rfl (by omega) hw.size ?_
    rintro A7 c7 w7 f7 g7 b7 i7
    have qf7 := f7.cap
    have s7 := g7.size
    replace hw := hw.trans (b7.mono (by omega))
    clear f5
    refine wl_p (fun _ => o_assign rfl) ?_
    refine wl_nil ?_
    rw [List.nil_append] at f7 ⊢
    refine ret1 rfl rfl ?_
    exact ⟨_, _, rfl, f7, hw⟩
end Go.Proofs.Ytpjedpmbninfcaa
/-
  Walks of package record: one record is read.
-/
namespace Go.Proofs.Ytpjedpmbninfcaa
open Go.RowKit
/-- One record, read with a chain: the record, how many bytes it has, the chain after it, the error. -/
def readR (d b : By) : Rc × Nat × By × Nat :=
  match startR b with
  | (k, f, z, e) =>
    if e ≠ 0 then ((0, []), 0, nul32, e)
    else if b.length - f < z + 8 then ((0, []), 0, nul32, 5)
    else if (nextB d (UInt8.ofNat k, (b.drop f).take z)).take 8 = (b.drop (f + z)).take 8 then ((UInt8.ofNat k, (b.drop f).take z), f + z + 8, nextB d (UInt8.ofNat k, (b.drop f).take z), 0)
    else ((0, []), 0, nul32, 4)
theorem startR_le {b : By} {k o z x : Nat} (h : startR b = (k, o, z, x)) : k ≤ 255 ∧ o ≤ b.length ∧ o ≤ 10 ∧ z ≤ 8192 := by
  unfold startR at h
  have h1 := leVal_lt (rTake (clampN 1) (b.take 10, 0)).1
  have h2 : (rTake (clampN 1) (b.take 10, 0)).1.length ≤ 1 := by
    unfold rTake; (repeat' split) <;> simp [clampN, List.length_take] <;> omega
  have h3 := Nat.pow_le_pow_right (show 0 < 256 by omega) h2
  have h4 : (rWord 1 (b.take 10, 0)).1 ≤ 255 := by
    show leVal _ ≤ 255
    omega
  have h5 : (b.take 10).length = min 10 b.length := List.length_take
  split at h
  · cases h; omega
  split at h
  · cases h; omega
  split at h
  · cases h; omega
  · cases h; omega
theorem C_RecRead {A : Option Addr} {d b : By} {n c : Nat} (w : World) (hb : Rd w A b) (hn : n = b.length) (hc : b.length ≤ c) (hd : d.length = 32) (hl : b.length ≤ 400000) :
    CallsR Try.prog 9 [.agg (B8 d).toArray, .slice A n c] w fun v w' => ∃ (k : UInt8) (p : By) (A' : Option Addr) (c' z : Nat) (x : By) (e : Nat), v = .tuple #[.agg #[.int .u8 (k.toNat : Int), .slice A' p.length c'], .int .i64 (z : Int), .agg (B8 x).toArray, .int .i64 (e : Int)] ∧ OwnH w' w.heap.size w'.heap.size A' c' p ∧ readR d b = ((k, p), z, x, e) ∧ x.length = 32 ∧ Below w.heap.size w w' := by
  subst hn
  obtain ⟨⟨kd, at0, sz, er⟩, hs⟩ : ∃ s, startR b = s := ⟨_, rfl⟩
  obtain ⟨q1, q2, q3, q4⟩ := startR_le hs
  obtain ⟨k8, rfl⟩ : ∃ k8 : UInt8, kd = k8.toNat := ⟨UInt8.ofNat kd, by rw [UInt8.toNat_ofNat_of_lt' (by show kd < 256; omega)]⟩
  obtain ⟨p, hp⟩ : ∃ p, (b.drop at0).take sz = p := ⟨_, rfl⟩
  obtain ⟨y, hy⟩ : ∃ y, (b.drop (at0 + sz)).take 8 = y := ⟨_, rfl⟩
  obtain ⟨r, hr⟩ : ∃ r, nextB d (k8, p) = r := ⟨_, rfl⟩
  have h32 : r.length = 32 := by rw [← hr, nextB_len]
  have h8 : (r.take 8).length = 8 := by rw [List.length_take]; omega
  unfold readR
  rw [hs]
  dsimp only
  rw [UInt8.ofNat_toNat, hp, hy, hr]
  have hS : StartR b k8.toNat at0 sz er := ⟨hs⟩
  refine callsR Try.func9 rfl rfl (by kernel_rfl) rfl ?_
  have hw := Below.refl w.heap.size w
  refine rk_seq ?_
  refine rk_region ?_
  refine wl_boxg _ rfl (by rfl) ?_
  rintro g2 w2 f2 b2 i2 i2_1
  have s2 := b2.size
  replace hw := hw.trans (b2.mono hw.size)
  refine wl_allocg [_, _] Try.zeroValue31 (by rfl) ?_
  rintro g4 w4 f4 b4 i4 i4_1
  have s4 := b4.size
  replace hw := hw.trans (b4.mono hw.size)
  replace f2 := f2.u b4
  refine wl_p (fun _ => o_assign rfl) ?_
  refine wl_allocB Try.underlying23 Try.zeroValue23 (by rfl) ?_
  rintro g6 w6 f6 b6 i6 i6_1
  have s6 := b6.size
  replace hw := hw.trans (b6.mono hw.size)
  replace f2 := f2.u b6
  replace f4 := f4.u b6
  refine wl_p (fun _ => o_assign rfl) ?_
  refine wl_nil ?_
  refine rk_seq ?_
  refine rk_region ?_
  refine wl_p (fun _ => o_move rfl) ?_
  refine wl_call rfl (C_startR _ hS (hb.below hw) rfl hc) ?_
  rintro _ w17 ⟨rfl, b17⟩
  have sb17 := b17.size
  replace hw := hw.trans (b17.mono hw.size)
  replace f4 := f4.u b17
  replace f2 := f2.u b17
  replace f6 := f6.u b17
  refine wl_p (fun _ => o_move rfl) ?_
  refine wl_p (fun _ => o_ext40 rfl) ?_
  refine wl_p (fun _ => o_ext41 rfl) ?_
  refine wl_p (fun _ => o_ext42 rfl) ?_
  refine wl_p (fun _ => o_ext43 rfl) ?_
  refine wl_p (fun _ => o_assign rfl) ?_
  refine wl_p (fun _ => o_assign rfl) ?_
  refine wl_p (fun _ => o_assign rfl) ?_
  refine wl_p (fun _ => o_assign rfl) ?_
  refine wl_nil ?_
  refine rk_seq ?_
  refine rk_seq ?_
  refine rk_region ?_
  refine wl_p (fun _ => o_move rfl) ?_
  refine wl_p (fun _ => o_ne rfl rfl) ?_
  refine wl_nil ?_
  refine rk_if rfl (fun h23 => ?_) (fun h23 => ?_)
  · refine rk_seq ?_
    refine rk_region ?_
    refine wl_p (fun _ => (o_buildg [_, _] Try.underlying31 Try.zeroValue31 (by rfl) (by rfl) rfl (by rfl) (by rfl) (fun _ => by kernel_rfl))) ?_
    refine wl_p (fun _ => (o_buildga [_, _, _, _, _, _, _, _, _, _, _, _, _, _, _, _, _, _, _, _, _, _, _, _, _, _, _, _, _, _, _, _] Try.underlying23 Try.sizeOf5 Try.zeroValue23 (by rfl) (by rfl) rfl (by rfl) (by rfl) (fun _ => by kernel_rfl))) ?_
    refine wl_p (fun _ => o_move rfl) ?_
    refine wl_storega Try.sizeOf31 rfl rfl (by rfl) (by decide) f4 (by rfl) ?_
    rintro w_1 f g e
    have s := g.size
    replace hw := hw.trans (below_of_grownBy g.g hw.size (by omega))
    replace f6 := f6.k g.g (ap_some (by omega))
    replace f2 := f2.k g.g (ap_some (by omega))
    clear f4
    refine wl_p (fun _ => o_assign rfl) ?_
    refine wl_storega Try.sizeOf23 rfl rfl (by rfl) (by decide) f6 (by rfl) ?_
    rintro w_2 f_1 g_1 e_1
    have s_1 := g_1.size
    replace hw := hw.trans (below_of_grownBy g_1.g hw.size (by omega))
    replace f2 := f2.k g_1.g (ap_some (by omega))
    replace f := f.k g_1.g (ap_some (by omega))
    clear f6
    refine wl_p (fun _ => o_assign rfl) ?_
    refine wl_nil ?_
    refine ret_any (vs := [.agg #[.int .u8 0, .slice none 0 0], .int .i64 0, .agg (B8 nul32).toArray, .int .i64 (er : Int)]) rfl (.cell rfl Try.isAgg31 Try.sizeOf31 f rfl (.tmp rfl (.cell rfl Try.isAgg23 Try.sizeOf23 f_1 rfl (.tmp rfl .nil)))) (by simp) ?_
    exact ⟨0, [], none, 0, 0, nul32, er, rfl, OwnH.nil_, by rw [if_pos (by omega)], rfl, hw⟩
  rw [if_neg (show ¬ er ≠ 0 by omega)]
  refine rk_skip ?_
  refine rk_seq ?_
  refine rk_seq ?_
  refine rk_region ?_
  refine wl_p (fun _ => o_move rfl) ?_
  refine wl_p (fun _ => o_len (t := 26) Try.underlying26 rfl) ?_
  refine wl_p (fun _ => o_move rfl) ?_
  refine wl_p (fun _ => o_sub rfl rfl (by omega) (by omega)) ?_
  refine wl_p (fun _ => o_move rfl) ?_
  refine wl_p (fun _ => o_add rfl rfl (by omega) (by omega)) ?_
  refine wl_p (fun _ => o_lt rfl rfl) ?_
  refine wl_nil ?_
  refine rk_if rfl (fun h33 => ?_) (fun h33 => ?_)
  · refine rk_seq ?_
    refine rk_region ?_
    refine wl_p (fun _ => (o_buildg [_, _] Try.underlying31 Try.zeroValue31 (by rfl) (by rfl) rfl (by rfl) (by rfl) (fun _ => by kernel_rfl))) ?_
    refine wl_p (fun _ => (o_buildga [_, _, _, _, _, _, _, _, _, _, _, _, _, _, _, _, _, _, _, _, _, _, _, _, _, _, _, _, _, _, _, _] Try.underlying23 Try.sizeOf5 Try.zeroValue23 (by rfl) (by rfl) rfl (by rfl) (by rfl) (fun _ => by kernel_rfl))) ?_
    refine wl_storega Try.sizeOf31 rfl rfl (by rfl) (by decide) f4 (by rfl) ?_
    rintro w_1 f g e
    have s := g.size
    replace hw := hw.trans (below_of_grownBy g.g hw.size (by omega))
    replace f6 := f6.k g.g (ap_some (by omega))
    replace f2 := f2.k g.g (ap_some (by omega))
    clear f4
    refine wl_p (fun _ => o_assign rfl) ?_
    refine wl_storega Try.sizeOf23 rfl rfl (by rfl) (by decide) f6 (by rfl) ?_
    rintro w_2 f_1 g_1 e_1
    have s_1 := g_1.size
    replace hw := hw.trans (below_of_grownBy g_1.g hw.size (by omega))
    replace f2 := f2.k g_1.g (ap_some (by omega))
    replace f := f.k g_1.g (ap_some (by omega))
    clear f6
    refine wl_p (fun _ => o_assign rfl) ?_
    refine wl_nil ?_
    refine ret_any (vs := [.agg #[.int .u8 0, .slice none 0 0], .int .i64 0, .agg (B8 nul32).toArray, .int .i64 5]) rfl (.cell rfl Try.isAgg31 Try.sizeOf31 f rfl (.tmp rfl (.cell rfl Try.isAgg23 Try.sizeOf23 f_1 rfl (.tmp rfl .nil)))) (by simp) ?_
    exact ⟨0, [], none, 0, 0, nul32, 5, rfl, OwnH.nil_, by rw [if_pos (by omega)], rfl, hw⟩
  rw [if_neg (show ¬ b.length - at0 < sz + 8 by omega)]
  refine rk_skip ?_
  refine rk_seq ?_
  refine rk_region ?_
  refine wl_p (fun _ => o_move rfl) ?_
  refine wl_p (fun _ => o_move rfl) ?_
  refine wl_p (fun _ => o_add rfl rfl (by omega) (by omega)) ?_
  refine wl_p (fun _ => o_assign rfl) ?_
  refine wl_nil ?_
  refine rk_seq ?_
  refine rk_region ?_
  refine wl_p (fun _ => o_move rfl) ?_
  refine wl_p (fun _ => o_move rfl) ?_
  refine wl_p (fun _ => o_move rfl) ?_
  refine wl_p (fun _ => o_move rfl) ?_
  refine wl_p (fun _ => o_move rfl) ?_
  obtain ⟨t, ht⟩ : ∃ t, at0 + sz = t := ⟨_, rfl⟩
  rw [show ((at0 : Int) + (sz : Int)) = (t : Int) by omega]
  have hpl : p.length = sz := by rw [← hp, List.length_take, List.length_drop]; omega
  have hyl : y.length = 8 := by rw [← hy, List.length_take, List.length_drop]; omega
  have hR : Rd w (cutA A t 1 at0) p := by
    have h1 := (hb.take (k := t) (by omega)).cut (c := t) (k := at0) (by rw [List.length_take]; omega) (by rw [List.length_take]; omega)
    rwa [List.drop_take, show t - at0 = sz by omega, hp] at h1
  refine wl_p (fun _ => o_slice3B at0 t t Try.underlying26 Try.sizeOf5 rfl rfl rfl rfl rfl rfl rfl (by omega) (Nat.le_refl _) (by omega)) ?_
  refine wl_call rfl (C_bClone _ (hR.u hw) (by omega) (by omega)) ?_
  rintro v45 w45 ⟨A45, ⟨c45, ⟨rfl, ⟨f45, b45⟩⟩⟩⟩
  have qf45 := f45.cap
  have s45 := b45.size
  replace hw := hw.trans (b45.mono hw.size)
  replace f6 := f6.u b45
  replace f2 := f2.u b45
  replace f4 := f4.u b45
  refine wl_p (fun _ => (o_buildg [_, _] Try.underlying31 Try.zeroValue31 (by rfl) (by rfl) rfl (by rfl) (by rfl) (fun _ => by kernel_rfl))) ?_
  refine wl_allocg [_, _] Try.zeroValue31 (by rfl) ?_
  rintro g13 w13 f13 b13 i13 i13_1
  have s13 := b13.size
  replace hw := hw.trans (b13.mono hw.size)
  replace f4 := f4.u b13
  replace f2 := f2.u b13
  replace f6 := f6.u b13
  replace f45 := f45.u b13
  refine wl_storega Try.sizeOf31 rfl rfl (by rfl) (oneCell_of (by rfl)) f13 (by rfl) ?_
  rintro w_1 f g e
  have s := g.size
  replace hw := hw.trans (below_of_grownBy g.g hw.size (by omega))
  replace f45 := f45.k g.g (ap_some (by omega))
  replace f6 := f6.k g.g (ap_some (by omega))
  replace f2 := f2.k g.g (ap_some (by omega))
  replace f4 := f4.k g.g (ap_some (by omega))
  clear f13
  refine wl_nil ?_
  refine rk_seq ?_
  refine rk_region ?_
  refine wl_r (o_ldBa Try.isAgg23 Try.sizeOf23 rfl f2 hd) ?_
  refine wl_r (o_loadag Try.isAgg31 Try.sizeOf31 rfl f (by rfl)) ?_
  refine wl_call rfl (C_Next _ f45.to_Rd rfl (by omega) hd hr) ?_
  rintro v49 w49 ⟨rfl, b49⟩
  have s49 := b49.size
  replace hw := hw.trans (b49.mono hw.size)
  replace f4 := f4.u b49
  replace f2 := f2.u b49
  replace f6 := f6.u b49
  replace f45 := f45.u b49
  replace f := f.u b49
  refine wl_allocB Try.underlying23 Try.zeroValue23 (by rfl) ?_
  rintro g14 w14 f14 b14 i14 i14_1
  have s14 := b14.size
  replace hw := hw.trans (b14.mono hw.size)
  replace f := f.u b14
  replace f45 := f45.u b14
  replace f6 := f6.u b14
  replace f2 := f2.u b14
  replace f4 := f4.u b14
  refine wl_stBa Try.sizeOf23 rfl f14 rfl h32 (by rfl) ?_
  rintro w_2 f_1 g_1 e_1
  have s_1 := g_1.size
  replace hw := hw.trans (below_of_grownBy g_1.g hw.size (by omega))
  replace f4 := f4.k g_1.g (ap_some (by omega))
  replace f2 := f2.k g_1.g (ap_some (by omega))
  replace f6 := f6.k g_1.g (ap_some (by omega))
  replace f45 := f45.k g_1.g (ap_some (by omega))
  replace f := f.k g_1.g (ap_some (by omega))
  clear f14
  refine wl_nil ?_
  refine rk_seq ?_
  refine rk_seq ?_
  refine rk_draw (id := 9) (none) [0, 0, 0, 0, 8, 22, 33, 64] [0, 0, 0, 0, 8, 30, 63, 127] 64 0 [(.p, 0), (.p, 1), (.p, 2), (.p, 3), (.p, 4), (.p, 5), (.l, 6), (.p, 7)] (by kernel_rfl) (by kernel_rfl) (by kernel_rfl) (by kernel_rfl) (by kernel_rfl) ?_
  replace hw := hw.drew
  replace f := f.d
  replace f45 := f45.d
  replace f6 := f6.d
  replace f2 := f2.d
  replace f4 := f4.d
  replace f_1 := f_1.d
  refine wl_p (fun _ => (o_slArrHi (8) Try.underlying23 Try.sizeOf5 rfl rfl (by omega) (by omega))) ?_
  refine wl_p (fun _ => o_move rfl) ?_
  refine wl_p (fun _ => o_move rfl) ?_
  refine wl_p (fun _ => o_move rfl) ?_
  refine wl_p (fun _ => o_add rfl rfl (by omega) (by omega)) ?_
  refine wl_slBB Try.u8 (t) (t + 8) rfl rfl rfl (hb.u hw) rfl rfl (by omega) (by omega) (by omega) (by omega) ?_
  rintro A55 c55 f55 i55 i55_1
  rw [show t + 8 - t = 8 by omega] at f55 i55 ⊢
  rw [ht] at hy
  rw [hy] at f55
  have hr8 := rd_pre f_1 8
  refine wl_call rfl (C_bEqual _ hr8 f55 (by omega) (by omega)) ?_
  rintro v56 w56 ⟨rfl, b56⟩
  simp only [drew_size] at b56
  have s56 := b56.size
  simp only [drew_size] at s56
  replace hw := hw.trans (b56.mono hw.size)
  replace hr8 := hr8.u b56
  replace f55 := f55.u b56
  replace f_1 := f_1.u b56
  replace f4 := f4.u b56
  replace f2 := f2.u b56
  replace f6 := f6.u b56
  replace f45 := f45.u b56
  replace f := f.u b56
  refine wl_p (fun _ => o_not rfl) ?_
  refine wl_nild ?_
  by_cases hq : r.take 8 = y
  · rw [decide_eq_true hq, if_pos hq]
    refine rk_false rfl ?_
    refine rk_skip ?_
    refine rk_seq ?_
    refine rk_draw (id := 11) (some g4) [0, 0, 2, 0, 1, 23, 63, 127] [0, 0, 2, 0, 1, 23, 63, 127] 80 16 [(.r, 0), (.p, 1), (.p, 2), (.s, 3), (.c, 4), (.p, 5), (.l, 6), (.p, 7)] (by kernel_rfl) (by kernel_rfl) (by kernel_rfl) (by kernel_rfl) (by kernel_rfl) ?_
    replace hw := hw.drew
    replace f := f.d
    replace f45 := f45.d
    replace f6 := f6.d
    replace f2 := f2.d
    replace f4 := f4.d
    replace f_1 := f_1.d
    replace f55 := f55.d
    replace hr8 := hr8.d
    refine wl_r (o_loadag Try.isAgg31 Try.sizeOf31 rfl f (by rfl)) ?_
    refine wl_p (fun _ => o_move rfl) ?_
    refine wl_p (fun _ => o_add rfl rfl (by omega) (by omega)) ?_
    refine wl_s (fun _ hk => (o_ldBa Try.isAgg23 Try.sizeOf23 rfl (f_1.k hk (ap_some (by omega))) h32)) ?_
    refine wl_storega Try.sizeOf31 rfl rfl (by rfl) (oneCell_of (by rfl)) f4 (by rfl) ?_ (hq := .inr rfl)
    rintro w_3 f_2 g_2 e_2
    simp only [drew_size] at e_2
    have s_2 := g_2.size
    simp only [drew_size] at s_2
    replace hw := hw.trans (below_of_grownBy g_2.g hw.size (by omega))
    replace f_1 := f_1.k g_2.g (ap_some (by omega))
    replace f2 := f2.k g_2.g (ap_some (by omega))
    replace f6 := f6.k g_2.g (ap_some (by omega))
    replace f45 := f45.k g_2.g (ap_some (by omega))
    replace f := f.k g_2.g (ap_some (by omega))
    clear hr8
    clear f55
    clear f4
    refine wl_p (fun _ => o_assign rfl) ?_
    refine wl_stBa Try.sizeOf23 rfl f6 rfl h32 (by rfl) ?_
    rintro w_4 f_3 g_3 e_3
    have s_3 := g_3.size
    replace hw := hw.trans (below_of_grownBy g_3.g hw.size (by omega))
    replace f := f.k g_3.g (ap_some (by omega))
    replace f45 := f45.k g_3.g (ap_some (by omega))
    replace f2 := f2.k g_3.g (ap_some (by omega))
    replace f_1 := f_1.k g_3.g (ap_some (by omega))
    replace f_2 := f_2.k g_3.g (ap_some (by omega))
    clear f6
    refine wl_p (fun _ => o_assign rfl) ?_
    refine wl_nild ?_
    refine ret_any (vs := [.agg #[.int .u8 (k8.toNat : Int), .slice A45 p.length c45], .int .i64 ((t : Int) + 8), .agg (B8 r).toArray, .int .i64 0]) rfl (.cell rfl Try.isAgg31 Try.sizeOf31 f_2 rfl (.tmp rfl (.cell rfl Try.isAgg23 Try.sizeOf23 f_3 (by rw [B8_length, h32]) (.tmp rfl .nil)))) (by simp) ?_
    exact ⟨k8, p, A45, c45, t + 8, r, 0, rfl, f45.base (by omega) (by omega), by rw [ht], h32, hw⟩
  · rw [decide_eq_false hq, if_neg hq]
    refine rk_true rfl ?_
    refine rk_seq ?_
    refine rk_region ?_
    refine wl_p (fun _ => (o_buildg [_, _] Try.underlying31 Try.zeroValue31 (by rfl) (by rfl) rfl (by rfl) (by rfl) (fun _ => by kernel_rfl))) ?_
    refine wl_p (fun _ => (o_buildga [_, _, _, _, _, _, _, _, _, _, _, _, _, _, _, _, _, _, _, _, _, _, _, _, _, _, _, _, _, _, _, _] Try.underlying23 Try.sizeOf5 Try.zeroValue23 (by rfl) (by rfl) rfl (by rfl) (by rfl) (fun _ => by kernel_rfl))) ?_
    refine wl_storega Try.sizeOf31 rfl rfl (by rfl) (by decide) f4 (by rfl) ?_
    rintro w_3 f_2 g_2 e_2
    have s_2 := g_2.size
    replace hw := hw.trans (below_of_grownBy g_2.g hw.size (by omega))
    replace f := f.k g_2.g (ap_some (by omega))
    replace f45 := f45.k g_2.g (ap_some (by omega))
    replace f6 := f6.k g_2.g (ap_some (by omega))
    replace f2 := f2.k g_2.g (ap_some (by omega))
    replace f_1 := f_1.k g_2.g (ap_some (by omega))
    clear f4
    clear f55
    clear hr8
    refine wl_p (fun _ => o_assign rfl) ?_
    refine wl_storega Try.sizeOf23 rfl rfl (by rfl) (by decide) f6 (by rfl) ?_
    rintro w_4 f_3 g_3 e_3
    have s_3 := g_3.size
    replace hw := hw.trans (below_of_grownBy g_3.g hw.size (by omega))
    replace f_1 := f_1.k g_3.g (ap_some (by omega))
    replace f2 := f2.k g_3.g (ap_some (by omega))
    replace f45 := f45.k g_3.g (ap_some (by omega))
    replace f := f.k g_3.g (ap_some (by omega))
    replace f_2 := f_2.k g_3.g (ap_some (by omega))
    clear f6
    refine wl_p (fun _ => o_assign rfl) ?_
    refine wl_nil ?_
    refine ret_any (vs := [.agg #[.int .u8 0, .slice none 0 0], .int .i64 0, .agg (B8 nul32).toArray, .int .i64 4]) rfl (.cell rfl Try.isAgg31 Try.sizeOf31 f_2 rfl (.tmp rfl (.cell rfl Try.isAgg23 Try.sizeOf23 f_3 rfl (.tmp rfl .nil)))) (by simp) ?_
    exact ⟨0, [], none, 0, 0, nul32, 4, rfl, OwnH.nil_, rfl, rfl, hw⟩
end Go.Proofs.Ytpjedpmbninfcaa
/-
  Records compared; the chapter's examples.
-/
namespace Go.Proofs.Ytpjedpmbninfcaa
open Go.RowKit
theorem C_OwnB {A : Option Addr} {p : By} {n c : Nat} (w : World) (hp : Rd w A p) (hn : n = p.length) (hl : p.length ≤ 4000000000) :
    CallsR Try.prog 10 [.slice A n c] w fun v w' => ∃ A' c', v = .slice A' p.length c' ∧ OwnH w' w.heap.size w'.heap.size A' c' p ∧ Below w.heap.size w w' := by
  subst hn
  refine callsR Try.func10 rfl rfl (by kernel_rfl) rfl ?_
  have hw := Below.refl w.heap.size w
  refine rk_seq ?_
  refine rk_region ?_
  refine wl_p (fun _ => o_assign rfl) ?_
  refine wl_nil ?_
  refine rk_seq ?_
  refine rk_region ?_
  refine wl_litB [] Try.u8 Try.sizeOf5 Try.zeroValue5 (by rfl) rfl rfl (by rfl) (by rfl) (by rfl) ?_
  rintro A3 w3 f3 b3
  have qf3 := f3.cap
  have s3 := b3.size
  replace hw := hw.trans (b3.mono hw.size)
  refine wl_p (fun _ => o_move rfl) ?_
  refine wl_appB Try.u8 rfl f3 (by rfl) rfl (hp.u hw) rfl (by omega) hw.size ?_
  rintro A5 c5 w5 f5 g5 b5 i5
  have qf5 := f5.cap
  have s5 := g5.size
  replace hw := hw.trans (b5.mono (by omega))
  clear f3
  refine wl_p (fun _ => o_assign rfl) ?_
  refine wl_nil ?_
  refine ret1 rfl rfl ?_
  exact ⟨_, _, rfl, f5, hw⟩
theorem C_kRec {k q : UInt8} {A B : Option Addr} {a b : By} {n c m d : Nat} (w : World) (hA : Rd w A a) (hB : Rd w B b) (hn : n = a.length) (hm : m = b.length) :
    CallsR Try.prog 12 [.agg #[.int .u8 (k.toNat : Int), .slice A n c], .agg #[.int .u8 (q.toNat : Int), .slice B m d]] w fun v w' => v = .bool (decide ((k, a) = (q, b))) ∧ Below w.heap.size w w' := by
  subst hn; subst hm
  by_cases h0 : (k.toNat : Int) = (q.toNat : Int)
  · have e0 : k = q := UInt8.toNat_inj.1 (by omega)
    subst e0
    refine callsR Try.func12 rfl rfl (by kernel_rfl) rfl ?_
    have hw := Below.refl w.heap.size w
    refine rk_seq ?_
    refine rk_region ?_
    refine wl_boxg [_, _] rfl (by rfl) ?_
    rintro g2 w2 f2 b2 i2 i2_1
    have s2 := b2.size
    replace hw := hw.trans (b2.mono hw.size)
    refine wl_boxg [_, _] rfl (by rfl) ?_
    rintro g3 w3 f3 b3 i3 i3_1
    have s3 := b3.size
    replace hw := hw.trans (b3.mono hw.size)
    replace f2 := f2.u b3
    refine wl_p (fun _ => o_assign rfl) ?_
    refine wl_nil ?_
    refine rk_seq ?_
    refine rk_region ?_
    refine wl_p (fun _ => o_faddr (s := 31) (i := 0) (off := 0) Try.underlying31 rfl Try.sizeOf5 rfl rfl rfl) ?_
    refine wl_r (o_loadbg Try.isAgg5 rfl f2 (by rfl)) ?_
    refine wl_p (fun _ => o_faddr (s := 31) (i := 0) (off := 0) Try.underlying31 rfl Try.sizeOf5 rfl rfl rfl) ?_
    refine wl_r (o_loadbg Try.isAgg5 rfl f3 (by rfl)) ?_
    refine wl_p (fun _ => o_eq rfl rfl) ?_
    refine wl_p (fun _ => o_move rfl) ?_
    refine wl_know 10 true rfl (decide_eq_true (by omega)) ?_
    refine wl_p (fun _ => o_faddr (s := 31) (i := 1) (off := 1) Try.underlying31 rfl Try.sizeOf26 rfl rfl rfl) ?_
    refine wl_r (o_loadbg Try.isAgg26 rfl f2 (by rfl)) ?_
    refine wl_r (o_strU Try.underlying26 Try.underlying5 Try.underlying9 rfl hA hw rfl) ?_
    refine wl_p (fun _ => o_faddr (s := 31) (i := 1) (off := 1) Try.underlying31 rfl Try.sizeOf26 rfl rfl rfl) ?_
    refine wl_r (o_loadbg Try.isAgg26 rfl f3 (by rfl)) ?_
    refine wl_r (o_strU Try.underlying26 Try.underlying5 Try.underlying9 rfl hB hw rfl) ?_
    refine wl_p (fun _ => o_seq rfl rfl) ?_
    refine wl_p (fun _ => o_pick_t rfl rfl) ?_
    refine wl_p (fun _ => o_assign rfl) ?_
    refine wl_nil ?_
    rw [decide_eq_true rfl]
    refine ret1 rfl rfl ?_
    exact ⟨congrArg Value.bool (decide_eq_decide.2 ⟨fun h => by rw [h], fun h => (Prod.mk.inj h).2⟩), hw⟩
  · have e0 : k ≠ q := fun e => h0 (by rw [e])
    refine callsR Try.func12 rfl rfl (by kernel_rfl) rfl ?_
    have hw := Below.refl w.heap.size w
    refine rk_seq ?_
    refine rk_region ?_
    refine wl_boxg [_, _] rfl (by rfl) ?_
    rintro g2 w2 f2 b2 i2 i2_1
    have s2 := b2.size
    replace hw := hw.trans (b2.mono hw.size)
    refine wl_boxg [_, _] rfl (by rfl) ?_
    rintro g3 w3 f3 b3 i3 i3_1
    have s3 := b3.size
    replace hw := hw.trans (b3.mono hw.size)
    replace f2 := f2.u b3
    refine wl_p (fun _ => o_assign rfl) ?_
    refine wl_nil ?_
    refine rk_seq ?_
    refine rk_region ?_
    refine wl_p (fun _ => o_faddr (s := 31) (i := 0) (off := 0) Try.underlying31 rfl Try.sizeOf5 rfl rfl rfl) ?_
    refine wl_r (o_loadbg Try.isAgg5 rfl f2 (by rfl)) ?_
    refine wl_p (fun _ => o_faddr (s := 31) (i := 0) (off := 0) Try.underlying31 rfl Try.sizeOf5 rfl rfl rfl) ?_
    refine wl_r (o_loadbg Try.isAgg5 rfl f3 (by rfl)) ?_
    refine wl_p (fun _ => o_eq rfl rfl) ?_
    refine wl_p (fun _ => o_move rfl) ?_
    refine wl_know 10 false rfl (decide_eq_false (by omega)) ?_
    refine wl_off ?_
    refine wl_off ?_
    refine wl_off ?_
    refine wl_off ?_
    refine wl_off ?_
    refine wl_off ?_
    refine wl_off ?_
    refine wl_p (fun _ => o_pick_f rfl rfl) ?_
    refine wl_p (fun _ => o_assign rfl) ?_
    refine wl_nil ?_
    rw [decide_eq_false h0]
    refine ret1 rfl rfl ?_
    exact ⟨by rw [decide_eq_false (fun e => e0 (congrArg Prod.fst e))], hw⟩
section
variable {N : Nat} {fr : Fr} {w : World} {ty : TypeId}
--@ rule! build p o_buildD0
theorem o_buildD0 : OpV Try.prog N fr w (.build 23 #[]) ty (.agg (B8 nul32).toArray) w := o_build (is := []) (xs := []) (vs := []) rfl (fun _ => by kernel_rfl)
end
theorem C_RecReadN {A : Option Addr} {d b : By} {r : Rc × Nat × By × Nat} {n c : Nat} (w : World) (hr : readR d b = r) (hb : Rd w A b) (hn : n = b.length) (hc : b.length ≤ c) (hd : d.length = 32) (hl : b.length ≤ 400000) :
    CallsR Try.prog 9 [.agg (B8 d).toArray, .slice A n c] w fun v w' => ∃ (A' : Option Addr) (c' : Nat), v = .tuple #[.agg #[.int .u8 ((r.1.1).toNat : Int), .slice A' r.1.2.length c'], .int .i64 (r.2.1 : Int), .agg (B8 r.2.2.1).toArray, .int .i64 (r.2.2.2 : Int)] ∧ OwnH w' w.heap.size w'.heap.size A' c' r.1.2 ∧ Below w.heap.size w w' := by
  refine (C_RecRead w hb hn hc hd hl).mono ?_
  rintro v w' ⟨k', p', A', c', z', x', e', rfl, h1, h2, _, h4⟩
  rw [hr] at h2
  subst h2
  exact ⟨_, _, rfl, h1, h4⟩
theorem C_SizeZ {k : UInt8} {x : Int} {A : Option Addr} {p : By} {n c : Nat} (w : World) (hk : x = (k.toNat : Int)) (hn : n = p.length) (hl : p.length ≤ 10000) (hp : Rd w A p) :
    CallsR Try.prog 14 [.agg #[.int .u8 x, .slice A n c]] w fun v w' => v = .int .i64 (if OkR (k, p) then ((bodyB (k, p)).length : Int) + 8 else 0) ∧ Below w.heap.size w w' := by
  subst hk
  exact C_Size w hn hl hp
theorem C_CheckZ {k : UInt8} {x : Int} {A : Option Addr} {p : By} {n c : Nat} (w : World) (hk : x = (k.toNat : Int)) (hn : n = p.length) :
    CallsR Try.prog 13 [.agg #[.int .u8 x, .slice A n c]] w fun v w' => ∃ z : Int, v = .int .i64 z ∧ (z = 0 ∨ z = 2) ∧ (z = 0 ↔ OkR (k, p)) ∧ Below w.heap.size w w' := by
  subst hk
  exact C_Check w hn
theorem C_RecBytesZ {k : UInt8} {x : Int} {A : Option Addr} {p d : By} {n c : Nat} (w : World) (hk : x = (k.toNat : Int)) (hp : Rd w A p) (hn : n = p.length) (hl : p.length ≤ 9000) (hd : d.length = 32) :
    CallsR Try.prog 8 [.agg (B8 d).toArray, .agg #[.int .u8 x, .slice A n c]] w fun v w' => ∃ (A' : Option Addr) (bs : By) (c' : Nat) (e : By) (z : Int), v = .tuple #[.slice A' bs.length c', .agg (B8 e).toArray, .int .i64 z] ∧ OwnH w' w.heap.size w'.heap.size A' c' bs ∧ (z = 0 ∨ z = 2) ∧ (z = 0 ↔ OkR (k, p)) ∧ (z = 0 → bs = bytesR d (k, p) ∧ e = nextB d (k, p)) ∧ (z ≠ 0 → bs = []) ∧ e.length = 32 ∧ Below w.heap.size w w' := by
  subst hk
  exact C_RecBytes w hp hn hl hd
theorem C_RecBytesBad {k : UInt8} {x : Int} {A : Option Addr} {p d : By} {n c : Nat} (w : World) (hk : x = (k.toNat : Int)) (hp : Rd w A p) (hO : ¬ OkR (k, p)) (hn : n = p.length) (hl : p.length ≤ 9000) (hd : d.length = 32) :
    CallsR Try.prog 8 [.agg (B8 d).toArray, .agg #[.int .u8 x, .slice A n c]] w fun v w' => ∃ (A' : Option Addr) (c' : Nat) (e : By), v = .tuple #[.slice A' 0 c', .agg (B8 e).toArray, .int .i64 2] ∧ OwnH w' w.heap.size w'.heap.size A' c' [] ∧ e.length = 32 ∧ Below w.heap.size w w' := by
  refine (C_RecBytesZ w hk hp hn hl hd).mono ?_
  rintro v w' ⟨A', bs, c', e, z, rfl, h1, h2, h3, _, h5, h6, h7⟩
  have hz : z ≠ 0 := fun e => hO (h3.1 e)
  obtain rfl := h5 hz
  obtain rfl : z = 2 := by omega
  exact ⟨A', c', e, rfl, h1, h6, h7⟩
theorem C_RecBytesOk {k : UInt8} {x : Int} {A : Option Addr} {p d bs e : By} {n c : Nat} (w : World) (hk : x = (k.toNat : Int)) (hp : Rd w A p) (hO : OkR (k, p)) (hr : bytesR d (k, p) = bs) (hs : nextB d (k, p) = e) (hn : n = p.length) (hl : p.length ≤ 9000) (hd : d.length = 32) :
    CallsR Try.prog 8 [.agg (B8 d).toArray, .agg #[.int .u8 x, .slice A n c]] w fun v w' => ∃ (A' : Option Addr) (c' : Nat), v = .tuple #[.slice A' bs.length c', .agg (B8 e).toArray, .int .i64 0] ∧ OwnH w' w.heap.size w'.heap.size A' c' bs ∧ Below w.heap.size w w' := by
  refine (C_RecBytesZ w hk hp hn hl hd).mono ?_
  rintro v w' ⟨A', bs', c', e', z, rfl, h1, h2, h3, h4, h5, h6, h7⟩
  obtain rfl := h3.2 hO
  obtain ⟨rfl, rfl⟩ := h4 rfl
  rw [hr] at h1 ⊢
  rw [hs]
  exact ⟨A', c', rfl, h1, h7⟩
theorem C_CheckBad {k : UInt8} {x : Int} {A : Option Addr} {p : By} {n c : Nat} (w : World) (hk : x = (k.toNat : Int)) (hO : ¬ OkR (k, p)) (hn : n = p.length) :
    CallsR Try.prog 13 [.agg #[.int .u8 x, .slice A n c]] w fun v w' => v = .int .i64 2 ∧ Below w.heap.size w w' := by
  refine (C_CheckZ w hk hn).mono ?_
  rintro v w' ⟨z, rfl, h2, h3, h7⟩
  have hz : z ≠ 0 := fun e => hO (h3.1 e)
  obtain rfl : z = 2 := by omega
  exact ⟨rfl, h7⟩
theorem C_SameZ {k q : UInt8} {x y : Int} {A B : Option Addr} {a b : By} {n c m d : Nat} (w : World) (hk : x = (k.toNat : Int)) (hq : y = (q.toNat : Int)) (hA : Rd w A a) (hB : Rd w B b) (hn : n = a.length) (hm : m = b.length) :
    CallsR Try.prog 15 [.agg #[.int .u8 x, .slice A n c], .agg #[.int .u8 y, .slice B m d]] w fun v w' => v = .bool (decide ((k, a) = (q, b))) ∧ Below w.heap.size w w' := by
  subst hk; subst hq
  exact C_Same w hA hB hn hm
theorem C_kRecZ {k q : UInt8} {x y : Int} {A B : Option Addr} {a b : By} {n c m d : Nat} (w : World) (hk : x = (k.toNat : Int)) (hq : y = (q.toNat : Int)) (hA : Rd w A a) (hB : Rd w B b) (hn : n = a.length) (hm : m = b.length) :
    CallsR Try.prog 12 [.agg #[.int .u8 x, .slice A n c], .agg #[.int .u8 y, .slice B m d]] w fun v w' => v = .bool (decide ((k, a) = (q, b))) ∧ Below w.heap.size w w' := by
  subst hk; subst hq
  exact C_kRec w hA hB hn hm
theorem ev_rec0 : readR nul32 [0] = ((0, []), 0, nul32, 4) := by kernel_rfl
theorem ev_recN : readR nul32 [] = ((0, []), 0, nul32, 5) := by kernel_rfl
theorem C_lives08 (w : World) : CallsR Try.prog 11 [] w fun v w' => v = .bool true ∧ Below w.heap.size w w' := by
  have e1 := ev_rec0
  have e2 := ev_recN
  have u1 : (1 : Int) = ((1 : UInt8).toNat : Int) := rfl
  refine callsR Try.func11 rfl rfl (by kernel_rfl) rfl ?_
  have hw := Below.refl w.heap.size w
  refine rk_seq ?_
  refine rk_region ?_
  refine wl_p (fun _ => o_assign rfl) ?_
  refine wl_nil ?_
  refine rk_seq ?_
  refine rk_region ?_
  refine wl_p (fun _ => (o_buildD0)) ?_
  refine wl_litB [0] Try.u8 Try.sizeOf5 Try.zeroValue5 (by rfl) rfl rfl (by rfl) (by rfl) (by rfl) ?_
  rintro A11 w11 f11 b11
  have qf11 := f11.cap
  have s11 := b11.size
  replace hw := hw.trans (b11.mono hw.size)
  refine wl_call rfl (C_RecReadN _ e1 f11.to_Rd (by rfl) (by omega) (by rfl) (by omega)) ?_
  rintro v12 w12 ⟨A12, ⟨c12, ⟨rfl, ⟨f12, b12⟩⟩⟩⟩
  dsimp only at f12
  dsimp only
  have qf12 := f12.cap
  have s12 := b12.size
  replace hw := hw.trans (b12.mono hw.size)
  replace f11 := f11.u b12
  refine wl_p (fun _ => o_move rfl) ?_
  refine wl_p (fun _ => o_ext40 rfl) ?_
  refine wl_p (fun _ => o_ext41 rfl) ?_
  refine wl_p (fun _ => o_ext42 rfl) ?_
  refine wl_p (fun _ => o_ext43 rfl) ?_
  refine wl_allocg [_, _] Try.zeroValue31 (by rfl) ?_
  rintro g1 w1 f1 b1 i1 i1_1
  have s1 := b1.size
  replace hw := hw.trans (b1.mono hw.size)
  replace f11 := f11.u b1
  replace f12 := f12.u b1
  refine wl_allocB Try.underlying23 Try.zeroValue23 (by rfl) ?_
  rintro g3 w3 f3 b3 i3 i3_1
  have s3 := b3.size
  replace hw := hw.trans (b3.mono hw.size)
  replace f12 := f12.u b3
  replace f11 := f11.u b3
  replace f1 := f1.u b3
  refine wl_storega Try.sizeOf31 rfl rfl (by rfl) (oneCell_of (by rfl)) f1 (by rfl) ?_
  rintro w_1 f g e
  have s := g.size
  replace hw := hw.trans (below_of_grownBy g.g hw.size (by omega))
  replace f11 := f11.k g.g (ap_some (by omega))
  replace f12 := f12.k g.g (ap_some (by omega))
  replace f3 := f3.k g.g (ap_some (by omega))
  clear f1
  refine wl_p (fun _ => o_assign rfl) ?_
  refine wl_stBa Try.sizeOf23 rfl f3 rfl (by rfl) (by rfl) ?_
  rintro w_2 f_1 g_1 e_1
  have s_1 := g_1.size
  replace hw := hw.trans (below_of_grownBy g_1.g hw.size (by omega))
  replace f12 := f12.k g_1.g (ap_some (by omega))
  replace f11 := f11.k g_1.g (ap_some (by omega))
  replace f := f.k g_1.g (ap_some (by omega))
  clear f3
  refine wl_p (fun _ => o_assign rfl) ?_
  refine wl_nil ?_
  refine rk_seq ?_
  refine rk_region ?_
  refine wl_p (fun _ => (o_buildD0)) ?_
  refine wl_call rfl (C_RecReadN _ e2 (Rd.nil_) (by rfl) (by simp) (by rfl) (by simp)) ?_
  rintro v19 w19 ⟨A19, ⟨c19, ⟨rfl, ⟨f19, b19⟩⟩⟩⟩
  dsimp only at f19
  dsimp only
  have qf19 := f19.cap
  have s19 := b19.size
  replace hw := hw.trans (b19.mono hw.size)
  replace f := f.u b19
  replace f11 := f11.u b19
  replace f12 := f12.u b19
  replace f_1 := f_1.u b19
  refine wl_p (fun _ => o_move rfl) ?_
  refine wl_p (fun _ => o_ext40 rfl) ?_
  refine wl_p (fun _ => o_ext41 rfl) ?_
  refine wl_p (fun _ => o_ext42 rfl) ?_
  refine wl_p (fun _ => o_ext43 rfl) ?_
  refine wl_allocg [_, _] Try.zeroValue31 (by rfl) ?_
  rintro g5 w5 f5 b5 i5 i5_1
  have s5 := b5.size
  replace hw := hw.trans (b5.mono hw.size)
  replace f_1 := f_1.u b5
  replace f12 := f12.u b5
  replace f11 := f11.u b5
  replace f := f.u b5
  replace f19 := f19.u b5
  refine wl_allocB Try.underlying23 Try.zeroValue23 (by rfl) ?_
  rintro g7 w7 f7 b7 i7 i7_1
  have s7 := b7.size
  replace hw := hw.trans (b7.mono hw.size)
  replace f19 := f19.u b7
  replace f := f.u b7
  replace f11 := f11.u b7
  replace f12 := f12.u b7
  replace f_1 := f_1.u b7
  replace f5 := f5.u b7
  refine wl_storega Try.sizeOf31 rfl rfl (by rfl) (oneCell_of (by rfl)) f5 (by rfl) ?_
  rintro w_3 f_2 g_2 e_2
  have s_2 := g_2.size
  replace hw := hw.trans (below_of_grownBy g_2.g hw.size (by omega))
  replace f_1 := f_1.k g_2.g (ap_some (by omega))
  replace f12 := f12.k g_2.g (ap_some (by omega))
  replace f11 := f11.k g_2.g (ap_some (by omega))
  replace f := f.k g_2.g (ap_some (by omega))
  replace f19 := f19.k g_2.g (ap_some (by omega))
  replace f7 := f7.k g_2.g (ap_some (by omega))
  clear f5
  refine wl_p (fun _ => o_assign rfl) ?_
  refine wl_stBa Try.sizeOf23 rfl f7 rfl (by rfl) (by rfl) ?_
  rintro w_4 f_3 g_3 e_3
  have s_3 := g_3.size
  replace hw := hw.trans (below_of_grownBy g_3.g hw.size (by omega))
  replace f19 := f19.k g_3.g (ap_some (by omega))
  replace f := f.k g_3.g (ap_some (by omega))
  replace f11 := f11.k g_3.g (ap_some (by omega))
  replace f12 := f12.k g_3.g (ap_some (by omega))
  replace f_1 := f_1.k g_3.g (ap_some (by omega))
  replace f_2 := f_2.k g_3.g (ap_some (by omega))
  clear f7
  refine wl_p (fun _ => o_assign rfl) ?_
  refine wl_nil ?_
  refine rk_seq ?_
  refine rk_region ?_
  refine wl_litC [97, 98, 99] Try.u8 Try.sizeOf5 Try.zeroValue5 (by rfl) rfl rfl (by rfl) (by rfl) (by rfl) ?_
  rintro A24 w24 f24 b24
  have s24 := b24.size
  replace hw := hw.trans (b24.mono hw.size)
  replace f_2 := f_2.u b24
  replace f_1 := f_1.u b24
  replace f12 := f12.u b24
  replace f11 := f11.u b24
  replace f := f.u b24
  replace f19 := f19.u b24
  replace f_3 := f_3.u b24
  refine wl_p (fun _ => (o_buildg [_, _] Try.underlying31 Try.zeroValue31 (by rfl) (by rfl) rfl (by rfl) (by rfl) (fun _ => by kernel_rfl))) ?_
  refine wl_call rfl (C_SizeZ _ u1 (by rfl) (by simp) f24.to_Rd) ?_
  rintro v27 w27 ⟨rfl, b27⟩
  have s27 := b27.size
  replace hw := hw.trans (b27.mono hw.size)
  replace f_3 := f_3.u b27
  replace f19 := f19.u b27
  replace f := f.u b27
  replace f11 := f11.u b27
  replace f12 := f12.u b27
  replace f_1 := f_1.u b27
  replace f_2 := f_2.u b27
  replace f24 := f24.u b27
  refine wl_p (fun _ => o_eq rfl rfl) ?_
  refine wl_p (fun _ => o_move rfl) ?_
  refine wl_p (fun _ => o_move rfl) ?_
  refine wl_p (fun _ => o_eq rfl rfl) ?_
  refine wl_p (fun _ => o_pick_t rfl rfl) ?_
  refine wl_p (fun _ => o_move rfl) ?_
  refine wl_p (fun _ => o_move rfl) ?_
  refine wl_p (fun _ => o_eq rfl rfl) ?_
  refine wl_p (fun _ => o_pick_t rfl rfl) ?_
  refine wl_p (fun _ => o_assign rfl) ?_
  refine wl_nil ?_
  refine ret1 rfl rfl ?_
  exact ⟨congrArg Value.bool (decide_eq_true rfl), hw⟩
end Go.Proofs.Ytpjedpmbninfcaa
/-
  Plain mathematics: numbers are ordered as their bytes are.
-/
namespace Go.Proofs.Ytpjedpmbninfcaa

theorem less_cons (a b : UInt8) (x y : List UInt8) : Op.bytesLess (a :: x) (b :: y) = (decide (a.toNat < b.toNat) || (decide (a.toNat = b.toNat) && Op.bytesLess x y)) := by
  have h1 : decide (a < b) = decide (a.toNat < b.toNat) := by rw [decide_eq_decide, UInt8.lt_iff_toNat_lt]
  have h2 : (a == b) = decide (a.toNat = b.toNat) := by rw [Bool.eq_iff_iff]; simp [UInt8.toNat_inj]
  simp only [Op.bytesLess]
  rw [h1, h2]

theorem be_less : ∀ (j n m : Nat), Op.bytesLess (beB j n) (beB j m) = decide (n % 256 ^ j < m % 256 ^ j)
  | 0, n, m => by simp [beB, Op.bytesLess, Nat.mod_one]
  | j + 1, n, m => by
    rw [beB, beB, less_cons, be_less j n m, UInt8.toNat_ofNat', UInt8.toNat_ofNat']
    have hp : 0 < 256 ^ j := Nat.pos_of_ne_zero (by simp)
    rw [show (2 : Nat) ^ 8 = 256 from rfl, Nat.pow_succ, Nat.mod_mul, Nat.mod_mul]
    have h1 := Nat.mod_lt n hp
    have h2 := Nat.mod_lt m hp
    generalize n / 256 ^ j % 256 = a at *
    generalize m / 256 ^ j % 256 = b at *
    generalize n % 256 ^ j = x at *
    generalize m % 256 ^ j = y at *
    generalize 256 ^ j = q at *
    rw [Bool.eq_iff_iff]
    simp only [Bool.or_eq_true, decide_eq_true_eq, Bool.and_eq_true]
    rcases Nat.lt_trichotomy a b with h | h | h
    · have h3 : q * a + q ≤ q * b := by rw [← Nat.mul_succ]; exact Nat.mul_le_mul_left q h
      constructor
      · intro _; omega
      · intro _; exact .inl h
    · subst h
      constructor
      · rintro (h3 | ⟨_, h3⟩)
        · omega
        · omega
      · intro h3; exact .inr ⟨rfl, by omega⟩
    · have h3 : q * b + q ≤ q * a := by rw [← Nat.mul_succ]; exact Nat.mul_le_mul_left q h
      constructor
      · rintro (h4 | ⟨h4, _⟩) <;> omega
      · intro _; omega

theorem first_nat (n : Nat) (h : n < 18446744073709551616) : (first (room n) n).toNat = 256 - 2 ^ (9 - room n) + n / 256 ^ (room n - 1) := by
  have hk := room_pos n
  have hlt := room_lt n h
  have h5 : 2 ^ (8 - room n) ≤ 2 ^ (9 - room n) := Nat.pow_le_pow_right (by omega) (by omega)
  have h6 : 2 ^ (9 - room n) ≤ 256 := Nat.pow_le_pow_right (show 0 < 2 by omega) (show 9 - room n ≤ 8 by omega)
  unfold first
  rw [UInt8.toNat_ofNat', Nat.mod_eq_of_lt]
  rcases Nat.lt_or_ge (room n) 9 with h9 | h9
  · have : 2 ^ (9 - room n) = 2 ^ (8 - room n) * 2 := by rw [← Nat.pow_succ]; congr 1; omega
    have := Nat.two_pow_pos (8 - room n)
    omega
  · have e : room n = 9 := by omega
    rw [e] at hlt ⊢
    simp at hlt
    omega

def over (t n : Nat) : Nat := if n < t then 0 else 1
theorem over_mono (t : Nat) {n m : Nat} (h : n ≤ m) : over t n ≤ over t m := by unfold over; split <;> split <;> omega
theorem room_sum (n : Nat) : room n = 1 + over 128 n + over 16384 n + over 2097152 n + over 268435456 n + over 34359738368 n + over 4398046511104 n + over 562949953421312 n + over 72057594037927936 n := by
  unfold room
  split
  · simp only [over]; repeat rw [if_pos (by omega)]
  split
  · simp only [over]; rw [if_neg (by omega)]; repeat rw [if_pos (by omega)]
  split
  · simp only [over]; iterate 2 rw [if_neg (by omega)]
    repeat rw [if_pos (by omega)]
  split
  · simp only [over]; iterate 3 rw [if_neg (by omega)]
    repeat rw [if_pos (by omega)]
  split
  · simp only [over]; iterate 4 rw [if_neg (by omega)]
    repeat rw [if_pos (by omega)]
  split
  · simp only [over]; iterate 5 rw [if_neg (by omega)]
    repeat rw [if_pos (by omega)]
  split
  · simp only [over]; iterate 6 rw [if_neg (by omega)]
    repeat rw [if_pos (by omega)]
  split
  · simp only [over]; iterate 7 rw [if_neg (by omega)]
    repeat rw [if_pos (by omega)]
  · simp only [over]; iterate 8 rw [if_neg (by omega)]
theorem room_mono {n m : Nat} (h : n ≤ m) : room n ≤ room m := by
  rw [room_sum, room_sum]
  have := over_mono 128 h
  have := over_mono 16384 h
  have := over_mono 2097152 h
  have := over_mono 268435456 h
  have := over_mono 34359738368 h
  have := over_mono 4398046511104 h
  have := over_mono 562949953421312 h
  have := over_mono 72057594037927936 h
  omega

theorem first_lt {n m : Nat} (hn : n < 18446744073709551616) (hm : m < 18446744073709551616) (h : room n < room m) : (first (room n) n).toNat < (first (room m) m).toNat := by
  have hk := room_pos n
  have hk' := room_pos m
  rw [first_nat n hn, first_nat m hm]
  have hlt := room_lt n hn
  have e : 2 ^ (9 - room n) = 2 ^ (8 - room n) * 2 := by rw [← Nat.pow_succ]; congr 1; omega
  have h6 : 2 ^ (9 - room n) ≤ 256 := Nat.pow_le_pow_right (show 0 < 2 by omega) (show 9 - room n ≤ 8 by omega)
  have h7 : 2 ^ (9 - room m) ≤ 2 ^ (8 - room n) := Nat.pow_le_pow_right (by omega) (by omega)
  generalize n / 256 ^ (room n - 1) = a at *
  generalize m / 256 ^ (room m - 1) = b at *
  omega

theorem enc_less (n m : Nat) (hn : n < 18446744073709551616) (hm : m < 18446744073709551616) : Op.bytesLess (enc n) (enc m) = decide (n < m) := by
  unfold enc
  rw [less_cons]
  rcases Nat.lt_trichotomy (room n) (room m) with h | h | h
  · have h1 := first_lt hn hm h
    have h2 : n < m := by
      rcases Nat.lt_or_ge n m with h3 | h3
      · exact h3
      · have := room_mono h3; omega
    simp [h1, h2]
  · rw [first_nat n hn, first_nat m hm, ← h, be_less, Bool.eq_iff_iff]
    have hp : 0 < 256 ^ (room n - 1) := Nat.pos_of_ne_zero (by simp)
    have h1 := Nat.mod_lt n hp
    have h2 := Nat.mod_lt m hp
    have e1 := Nat.div_add_mod n (256 ^ (room n - 1))
    have e2 := Nat.div_add_mod m (256 ^ (room n - 1))
    generalize n / 256 ^ (room n - 1) = a at *
    generalize m / 256 ^ (room n - 1) = b at *
    generalize n % 256 ^ (room n - 1) = x at *
    generalize m % 256 ^ (room n - 1) = y at *
    generalize 256 ^ (room n - 1) = q at *
    simp only [Bool.or_eq_true, decide_eq_true_eq, Bool.and_eq_true]
    rcases Nat.lt_trichotomy a b with h | h | h
    · have h3 : q * a + q ≤ q * b := by rw [← Nat.mul_succ]; exact Nat.mul_le_mul_left q h
      constructor
      · intro _; omega
      · intro _; left; omega
    · subst h
      constructor
      · rintro (h3 | ⟨_, h3⟩) <;> omega
      · intro h3; exact .inr ⟨rfl, by omega⟩
    · have h3 : q * b + q ≤ q * a := by rw [← Nat.mul_succ]; exact Nat.mul_le_mul_left q h
      constructor
      · rintro (h4 | ⟨h4, _⟩) <;> omega
      · intro _; omega
  · have h1 := first_lt hm hn h
    have h2 : ¬ n < m := fun h3 => by have := room_mono (Nat.le_of_lt h3); omega
    have h3 : ¬ (first (room n) n).toNat < (first (room m) m).toNat := by omega
    have h4 : ¬ (first (room n) n).toNat = (first (room m) m).toNat := by omega
    simp [h2, h3, h4]

theorem less_irrefl : ∀ l : List UInt8, Op.bytesLess l l = false
  | [] => rfl
  | a :: l => by rw [less_cons, less_irrefl l]; simp
theorem enc_inj {n m : Nat} (hn : n < 18446744073709551616) (hm : m < 18446744073709551616) (h : enc n = enc m) : n = m := by
  have h1 := enc_less n m hn hm
  have h2 := enc_less m n hm hn
  rw [h, less_irrefl] at h1
  rw [h, less_irrefl] at h2
  have h3 := of_decide_eq_false h1.symm
  have h4 := of_decide_eq_false h2.symm
  omega

theorem room_hi (n : Nat) : room n = 9 ∨ n / 2 ^ (7 * room n) = 0 := by
  unfold room
  repeat' split
  all_goals first | (left; rfl) | (right; simp; omega)
theorem room_low (n : Nat) : room n = 1 ∨ n / 2 ^ (7 * (room n - 1)) ≠ 0 := by
  unfold room
  repeat' split
  all_goals first | (left; rfl) | (right; simp; omega)
end Go.Proofs.Ytpjedpmbninfcaa
/-
  Plain laws of chapter 1: what is written is read back, and nothing else is read so.
-/
namespace Go.Proofs.Ytpjedpmbninfcaa

theorem lead_first (n : Nat) (h : n < 18446744073709551616) : lead (first (room n) n) = room n ∧ (first (room n) n).toNat % 2 ^ (8 - room n) = n / 256 ^ (room n - 1) := by
  have hk := room_pos n
  have hlt := room_lt n h
  have hf := first_nat n h
  unfold lead
  generalize n / 256 ^ (room n - 1) = q at *
  generalize (first (room n) n).toNat = f at *
  generalize room n = k at *
  obtain e | e | e | e | e | e | e | e | e : k = 1 ∨ k = 2 ∨ k = 3 ∨ k = 4 ∨ k = 5 ∨ k = 6 ∨ k = 7 ∨ k = 8 ∨ k = 9 := by omega
  all_goals subst e; simp only [Nat.reduceSub, Nat.reducePow] at *; refine ⟨?_, by omega⟩; (repeat' split) <;> omega

theorem ofNat_byte (q : Nat) : (UInt8.ofNat q).toNat = q % 256 := by rw [UInt8.toNat_ofNat']
theorem mod_pow_succ (n j : Nat) : n % 256 ^ (j + 1) = n % 256 ^ j + 256 ^ j * (n / 256 ^ j % 256) := by rw [Nat.pow_succ, Nat.mod_mul]
theorem beVal_beB : ∀ (j a n : Nat), beVal a (beB j n) = a * 256 ^ j + n % 256 ^ j
  | 0, a, n => by simp [beVal, beB, Nat.mod_one]
  | j + 1, a, n => by
    have e : beVal a (beB (j + 1) n) = beVal (a * 256 + (UInt8.ofNat (n / 256 ^ j)).toNat) (beB j n) := rfl
    rw [e, beVal_beB j, ofNat_byte, mod_pow_succ, Nat.pow_succ, Nat.add_mul, Nat.mul_assoc a 256, Nat.mul_comm 256 (256 ^ j), Nat.mul_comm (n / 256 ^ j % 256), Nat.add_assoc, Nat.add_comm (256 ^ j * (n / 256 ^ j % 256))]

theorem rNumber_enc (n : Nat) (h : n < 18446744073709551616) (t : List UInt8) : rNumber (enc n ++ t, 0) = (n, (t, 0)) := by
  have hk := room_pos n
  obtain ⟨h1, h2⟩ := lead_first n h
  have hv : beVal ((first (room n) n).toNat % 2 ^ (8 - lead (first (room n) n))) ((beB (room n - 1) n ++ t).take (lead (first (room n) n) - 1)) = n := by
    rw [h1, h2, List.take_append_of_le_length (by rw [beB_length]; exact Nat.le_refl _), List.take_of_length_le (by rw [beB_length]; exact Nat.le_refl _), beVal_beB]
    exact Nat.div_add_mod' n _
  show rNumber (first (room n) n :: (beB (room n - 1) n ++ t), 0) = _
  rw [rNumber_ok (by rw [h1, List.length_append, beB_length]; omega) (by rw [hv, h1]), hv, h1]
  rw [List.drop_append_of_le_length (by rw [beB_length]; exact Nat.le_refl _), List.drop_of_length_le (by rw [beB_length]; exact Nat.le_refl _)]
  rfl

theorem rBlock_enc (p t : List UInt8) (h : p.length < 18446744073709551616) : rBlock (enc p.length ++ p ++ t, 0) = (p, (t, 0)) := by
  unfold rBlock
  rw [List.append_assoc, rNumber_enc _ h]
  simp

theorem leVal_leB : ∀ (k m : Nat), leVal (leB k m) = m % 256 ^ k
  | 0, m => by simp [leB, leVal, Nat.mod_one]
  | k + 1, m => by
    have e : leB (k + 1) m = leB k m ++ [UInt8.ofNat (m / 256 ^ k)] := rfl
    rw [e, leVal_snoc, leVal_leB k, leB_length, ofNat_byte, mod_pow_succ, Nat.mul_comm]

theorem rWord_le (size : Int) (m : Nat) (t : List UInt8) : rWord size (leB (clampN size) m ++ t, 0) = (m % 256 ^ clampN size, (t, 0)) := by
  unfold rWord rTake
  have hl : (leB (clampN size) m).length = clampN size := leB_length _ _
  rw [if_neg (by simp), if_neg (by simp [hl])]
  simp only [List.take_append_of_le_length (Nat.le_of_eq hl.symm), List.drop_append_of_le_length (Nat.le_of_eq hl.symm)]
  rw [List.take_of_length_le (Nat.le_of_eq hl), List.drop_of_length_le (Nat.le_of_eq hl), leVal_leB]
  rfl

theorem rDigest_all (d : List UInt8) (h : d.length = 32) : rDigest (d, 0) = (d, ([], 0)) := by
  unfold rDigest rTake
  have e : d.take 32 = d := List.take_of_length_le (Nat.le_of_eq h)
  simp [h, e]

theorem beVal_split : ∀ (l : List UInt8) (a : Nat), beVal a l / 256 ^ l.length = a
  | [], a => by simp [beVal]
  | c :: l, a => by
    have e : beVal a (c :: l) = beVal (a * 256 + c.toNat) l := rfl
    have h := beVal_split l (a * 256 + c.toNat)
    have hc := c.toNat_lt
    rw [e, List.length_cons, Nat.pow_succ, ← Nat.div_div_eq_div_mul, h]
    omega
theorem beB_beVal : ∀ (l : List UInt8) (a : Nat), beB l.length (beVal a l) = l
  | [], _ => rfl
  | c :: l, a => by
    have e : beVal a (c :: l) = beVal (a * 256 + c.toNat) l := rfl
    have hc := c.toNat_lt
    rw [e, List.length_cons, beB, beVal_split, beB_beVal l]
    congr 1
    apply UInt8.toNat_inj.1
    rw [UInt8.toNat_ofNat']
    omega
theorem lead_back (c : UInt8) : 256 - 2 ^ (9 - lead c) + c.toNat % 2 ^ (8 - lead c) = c.toNat := by
  have hc := c.toNat_lt
  unfold lead
  generalize c.toNat = x at *
  repeat' split
  all_goals simp only [Nat.reduceSub, Nat.reducePow]; omega

/-- What is read as a number is written so. -/
theorem rNumber_back {b r : List UInt8} {u : Nat} (h : rNumber (b, 0) = (u, (r, 0))) : b = enc u ++ r ∧ u < 18446744073709551616 := by
  cases b with
  | nil => rw [rNumber_nil] at h; simp at h
  | cons c t =>
    by_cases h1 : t.length + 1 < lead c
    · rw [rNumber_more h1] at h; simp at h
    · by_cases h2 : room (beVal (c.toNat % 2 ^ (8 - lead c)) (t.take (lead c - 1))) = lead c
      · rw [rNumber_ok h1 h2] at h
        simp only [Prod.mk.injEq, and_true] at h
        obtain ⟨hu, hr⟩ := h
        have hk := lead_bd c
        have hlen : (t.take (lead c - 1)).length = lead c - 1 := by rw [List.length_take]; omega
        have hu64 := beVal_u64 c (t.take (lead c - 1)) (by omega)
        rw [hu] at h2 hu64
        refine ⟨?_, hu64⟩
        have hdiv : u / 256 ^ (lead c - 1) = c.toNat % 2 ^ (8 - lead c) := by
          have := beVal_split (t.take (lead c - 1)) (c.toNat % 2 ^ (8 - lead c))
          rw [hlen, hu] at this
          exact this
        have hrest : beB (lead c - 1) u = t.take (lead c - 1) := by
          have := beB_beVal (t.take (lead c - 1)) (c.toNat % 2 ^ (8 - lead c))
          rw [hlen, hu] at this
          exact this
        have hf : first (lead c) u = c := by
          apply UInt8.toNat_inj.1
          unfold first
          rw [UInt8.toNat_ofNat', hdiv, lead_back]
          have := c.toNat_lt
          omega
        unfold enc
        rw [h2, hf, hrest, ← hr, List.cons_append, List.take_append_drop]
      · rw [rNumber_bad h1 h2] at h; simp at h

theorem rBlock_back {b q r : List UInt8} (h : rBlock (b, 0) = (q, (r, 0))) : b = enc q.length ++ q ++ r := by
  unfold rBlock at h
  generalize hn : rNumber (b, 0) = x at h
  obtain ⟨n, s, e⟩ := x
  simp only at h
  by_cases he : e = 0
  · subst he
    rw [if_neg (by simp)] at h
    obtain ⟨hb, _⟩ := rNumber_back hn
    by_cases hl : s.length < n
    · rw [if_pos hl] at h; simp at h
    · rw [if_neg hl] at h
      simp only [Prod.mk.injEq, and_true] at h
      obtain ⟨hq, hr⟩ := h
      have hqn : q.length = n := by rw [← hq, List.length_take]; omega
      rw [hb, hqn, ← hq, ← hr, List.append_assoc, List.take_append_drop]
  · rw [if_pos he] at h
    simp only [Prod.mk.injEq] at h
    exact absurd h.2.2 he
end Go.Proofs.Ytpjedpmbninfcaa
/-
  Plain laws of chapter 8: what is written is read back with its own chain, and nothing else is read so.
-/
namespace Go.Proofs.Ytpjedpmbninfcaa
open Go.RowKit
theorem rWord1_nil : rWord 1 ([], 0) = (0, ([], 5)) := by
  rfl
theorem rWord1_cons (c : UInt8) (t : By) : rWord 1 (c :: t, 0) = (c.toNat, (t, 0)) := by
  have h1 : clampN 1 = 1 := rfl
  have h2 : ¬ (c :: t).length < 1 := by simp
  simp [rWord, rTake, h1, leVal]
theorem startR_nil : startR [] = (0, 0, 0, 5) := by
  unfold startR
  rw [List.take_nil, rWord1_nil]
  simp [rNumber]
theorem startR_cons (c : UInt8) (t : By) : startR (c :: t) =
    if c = 0 then (0, 0, 0, 4) else if (rNumber (t.take 9, 0)).2.2 ≠ 0 then (0, 0, 0, (rNumber (t.take 9, 0)).2.2) else if 8192 < (rNumber (t.take 9, 0)).1 then (0, 0, 0, 4)
    else (c.toNat, 1 + (t.take 9).length - (rNumber (t.take 9, 0)).2.1.length, (rNumber (t.take 9, 0)).1, 0) := by
  unfold startR
  rw [List.take_succ_cons, rWord1_cons]
  have e : (c.toNat = 0) = (c = 0) := by rw [← UInt8.toNat_inj]; rfl
  simp only [true_and, e]
  split
  · rfl
  split
  · rfl
  split
  · rfl
  · rw [List.length_cons, Nat.add_comm]
theorem rNumber_e (b : By) : (rNumber (b, 0)).2.2 = 0 ∨ (rNumber (b, 0)).2.2 = 4 ∨ (rNumber (b, 0)).2.2 = 5 := by
  cases b with
  | nil => rw [rNumber_nil]; simp
  | cons c t =>
    by_cases h1 : t.length + 1 < lead c
    · rw [rNumber_more h1]; simp
    · by_cases h2 : room (beVal (c.toNat % 2 ^ (8 - lead c)) (t.take (lead c - 1))) = lead c
      · rw [rNumber_ok h1 h2]; simp
      · rw [rNumber_bad h1 h2]; simp
theorem take_enc (n : Nat) (q : By) : (enc n ++ q).take 9 = enc n ++ q.take (9 - (enc n).length) := by
  rw [List.take_append, List.take_of_length_le (enc_le9 n)]
theorem startR_of {k : UInt8} {n : Nat} {q : By} (hk : k ≠ 0) (hn : n ≤ 8192) : startR (k :: (enc n ++ q)) = (k.toNat, 1 + (enc n).length, n, 0) := by
  rw [startR_cons, if_neg hk, take_enc, rNumber_enc n (by omega)]
  simp only [ne_eq, not_true_eq_false, if_false]
  rw [if_neg (by omega), List.length_append]
  congr 2
  omega
theorem startR_back {b : By} {k f z : Nat} (h : startR b = (k, f, z, 0)) : ∃ (c : UInt8) (q : By), b = c :: (enc z ++ q) ∧ k = c.toNat ∧ c ≠ 0 ∧ z ≤ 8192 ∧ f = 1 + (enc z).length := by
  cases b with
  | nil => rw [startR_nil] at h; simp at h
  | cons c t =>
    rw [startR_cons] at h
    obtain ⟨⟨n, l, e⟩, hx⟩ : ∃ s, rNumber (t.take 9, 0) = s := ⟨_, rfl⟩
    rw [hx] at h
    dsimp only at h
    split at h
    · simp at h
    rename_i hc
    split at h
    · rename_i he; simp only [Prod.mk.injEq] at h; exact absurd h.2.2.2 he
    rename_i he
    obtain rfl : e = 0 := by omega
    split at h
    · simp at h
    rename_i hz
    simp only [Prod.mk.injEq, and_true] at h
    obtain ⟨rfl, rfl, rfl⟩ := h
    obtain ⟨h1, _⟩ := rNumber_back hx
    refine ⟨c, l ++ t.drop 9, ?_, rfl, hc, by omega, ?_⟩
    · rw [← List.append_assoc, ← h1, List.take_append_drop]
    · have := congrArg List.length h1
      rw [List.length_append] at this
      omega
theorem startR_e {b : By} {k f z e : Nat} (h : startR b = (k, f, z, e)) : e = 0 ∨ e = 4 ∨ e = 5 := by
  cases b with
  | nil => rw [startR_nil] at h; simp at h; omega
  | cons c t =>
    have hr := rNumber_e (t.take 9)
    rw [startR_cons] at h
    repeat' split at h
    all_goals (simp only [Prod.mk.injEq] at h; omega)
theorem readR_e (d b : By) : (readR d b).2.2.2 = 0 ∨ ((readR d b) = ((0, []), 0, nul32, (readR d b).2.2.2) ∧ ((readR d b).2.2.2 = 4 ∨ (readR d b).2.2.2 = 5)) := by
  unfold readR
  obtain ⟨⟨k, f, z, e⟩, hs⟩ : ∃ s, startR b = s := ⟨_, rfl⟩
  rw [hs]
  have he := startR_e hs
  dsimp only
  split
  · rename_i h; exact .inr ⟨rfl, by dsimp only; omega⟩
  split
  · exact .inr ⟨rfl, .inr rfl⟩
  split
  · exact .inl rfl
  · exact .inr ⟨rfl, .inl rfl⟩
theorem bytesR_len (d : By) (r : Rc) : (bytesR d r).length = (bodyB r).length + 8 := by
  unfold bytesR
  rw [List.length_append, List.length_take, nextB_len]; rfl
/-- What was written with the chain d, read with the chain c. -/
theorem readR_app (c d : By) {r : Rc} (h : OkR r) (q : By) : readR c (bytesR d r ++ q) = if (nextB c r).take 8 = (nextB d r).take 8 then (r, (bytesR d r).length, nextB c r, 0) else ((0, []), 0, nul32, 4) := by
  obtain ⟨k, p⟩ := r
  obtain ⟨hk, hp⟩ := h
  simp only at hk hp
  have e8 : ((nextB d (k, p)).take 8).length = 8 := by rw [List.length_take, nextB_len]; rfl
  obtain ⟨s, hs⟩ : ∃ s, (nextB d (k, p)).take 8 = s := ⟨_, rfl⟩
  have hb : bytesR d (k, p) ++ q = k :: (enc p.length ++ (p ++ (s ++ q))) := by
    simp [bytesR, bodyB, blkB, hs]
  rw [hs] at e8 ⊢
  have hlen : (bytesR d (k, p)).length = 1 + (enc p.length).length + p.length + 8 := by
    rw [bytesR_len]; simp [bodyB, blkB]; omega
  unfold readR
  rw [hb, startR_of hk hp]
  have d1 : (k :: (enc p.length ++ (p ++ (s ++ q)))).drop (1 + (enc p.length).length) = p ++ (s ++ q) := by
    rw [Nat.add_comm, List.drop_succ_cons, List.drop_left]
  have d2 : (k :: (enc p.length ++ (p ++ (s ++ q)))).drop (1 + (enc p.length).length + p.length) = s ++ q := by
    rw [← List.drop_drop, d1, List.drop_left]
  have d3 : (s ++ q).take 8 = s := by rw [← e8, List.take_left]
  dsimp only
  rw [if_neg (by simp), if_neg (by simp; omega), d1, d2, List.take_left, d3, UInt8.ofNat_toNat, hlen]
theorem readR_own (d : By) {r : Rc} (h : OkR r) (q : By) : readR d (bytesR d r ++ q) = (r, (bytesR d r).length, nextB d r, 0) := by
  rw [readR_app d d h, if_pos rfl]
/-- What is read was written so. -/
theorem readR_back {d b x : By} {r : Rc} {z : Nat} (h : readR d b = (r, z, x, 0)) : OkR r ∧ z = (bytesR d r).length ∧ x = nextB d r ∧ ∃ q, b = bytesR d r ++ q := by
  unfold readR at h
  obtain ⟨⟨k, f, n, e⟩, hs⟩ : ∃ s, startR b = s := ⟨_, rfl⟩
  rw [hs] at h
  dsimp only at h
  split at h
  · rename_i he; simp only [Prod.mk.injEq] at h; exact absurd h.2.2.2 he
  rename_i he
  obtain rfl : e = 0 := by omega
  obtain ⟨c, q, rfl, rfl, hc, hn, rfl⟩ := startR_back hs
  split at h
  · simp at h
  rename_i hl
  have d1 : (c :: (enc n ++ q)).drop (1 + (enc n).length) = q := by rw [Nat.add_comm, List.drop_succ_cons, List.drop_left]
  have hlq : n + 8 ≤ q.length := by
    have := congrArg List.length d1
    rw [List.length_drop] at this; omega
  have d2 : (c :: (enc n ++ q)).drop (1 + (enc n).length + n) = q.drop n := by rw [← List.drop_drop, d1]
  rw [d1, d2, UInt8.ofNat_toNat] at h
  split at h
  · rename_i ht
    simp only [Prod.mk.injEq, and_true] at h
    obtain ⟨rfl, rfl, rfl⟩ := h
    have hpl : (q.take n).length = n := by rw [List.length_take]; omega
    refine ⟨⟨hc, by simp only; omega⟩, ?_, rfl, q.drop (n + 8), ?_⟩
    · rw [bytesR_len]; simp [bodyB, blkB, hpl]; omega
    · unfold bytesR
      rw [ht]
      simp only [bodyB, blkB, hpl, List.append_assoc, List.cons_append, List.nil_append]
      congr 2
      rw [← List.drop_drop, List.take_append_drop, List.take_append_drop]
  · simp at h
theorem readR_nil (d : By) : readR d [] = ((0, []), 0, nul32, 5) := by
  unfold readR; rw [startR_nil]; simp
/-- What is not complete is not read. -/
theorem readR_short {d b q : By} {r : Rc} (h : OkR r) (hb : b ++ q = bytesR d r) (hq : q ≠ []) : (readR d b).2.2.2 ≠ 0 := fun h0 => by
  obtain ⟨⟨r', z, x, e⟩, hr⟩ : ∃ s, readR d b = s := ⟨_, rfl⟩
  rw [hr] at h0
  simp only at h0
  subst h0
  obtain ⟨h1, _, _, p, rfl⟩ := readR_back hr
  have e1 := readR_own d h []
  rw [List.append_nil, ← hb, List.append_assoc, readR_own d h1] at e1
  simp only [Prod.mk.injEq, and_true] at e1
  obtain ⟨rfl, _⟩ := e1
  have := congrArg List.length hb
  simp only [List.length_append] at this
  exact hq (List.length_eq_zero_iff.1 (by omega))
/-! Records one after the other. -/
def bytesAll : By → List Rc → By
  | _, [] => []
  | d, r :: l => bytesR d r ++ bytesAll (nextB d r) l
def chainAll : By → List Rc → By
  | d, [] => d
  | d, r :: l => chainAll (nextB d r) l
theorem chainAll_len {d : By} (hd : d.length = 32) : ∀ (l : List Rc), (chainAll d l).length = 32
  | [] => hd
  | r :: l => chainAll_len (nextB_len d r) l
theorem bytesAll_append : ∀ (d : By) (l m : List Rc), bytesAll d (l ++ m) = bytesAll d l ++ bytesAll (chainAll d l) m
  | d, [], m => rfl
  | d, r :: l, m => by simp [bytesAll, chainAll, bytesAll_append (nextB d r) l m]
theorem chainAll_append : ∀ (d : By) (l m : List Rc), chainAll d (l ++ m) = chainAll (chainAll d l) m
  | d, [], m => rfl
  | d, r :: l, m => by simp [chainAll, chainAll_append (nextB d r) l m]
/-- The records that can be read one after the other. -/
def AllP (d b : By) (l : List Rc) : Prop := ∃ q, b = bytesAll d l ++ q ∧ (∀ r ∈ l, OkR r) ∧ (readR (chainAll d l) q).2.2.2 ≠ 0
theorem AllP.uniq : ∀ {l m : List Rc} {d b : By}, AllP d b l → AllP d b m → l = m
  | [], [], _, _, _, _ => rfl
  | [], r :: m, d, b, ⟨q, hb, _, h⟩, ⟨q', hb', ho, _⟩ => by
    exfalso
    have hq : q = b := by rw [hb]; rfl
    rw [bytesAll, List.append_assoc] at hb'
    rw [chainAll, hq, hb', readR_own d (ho r (by simp))] at h
    exact h rfl
  | r :: m, [], d, b, ⟨q', hb', ho, _⟩, ⟨q, hb, _, h⟩ => by
    exfalso
    have hq : q = b := by rw [hb]; rfl
    rw [bytesAll, List.append_assoc] at hb'
    rw [chainAll, hq, hb', readR_own d (ho r (by simp))] at h
    exact h rfl
  | r :: l, s :: m, d, b, ⟨q, hb, ho, h⟩, ⟨q', hb', ho', h'⟩ => by
    have e1 : readR d b = (r, (bytesR d r).length, nextB d r, 0) := by rw [hb, bytesAll, List.append_assoc, readR_own d (ho r (by simp))]
    have e2 : readR d b = (s, (bytesR d s).length, nextB d s, 0) := by rw [hb', bytesAll, List.append_assoc, readR_own d (ho' s (by simp))]
    rw [e1] at e2
    simp only [Prod.mk.injEq, and_true] at e2
    obtain ⟨rfl, _⟩ := e2
    rw [hb, bytesAll, bytesAll, List.append_assoc, List.append_assoc] at hb'
    have hb2 := List.append_cancel_left hb'
    rw [AllP.uniq (l := l) (m := m) (d := nextB d r) (b := bytesAll (nextB d r) l ++ q) ⟨q, rfl, fun x hx => ho x (by simp [hx]), h⟩ ⟨q', hb2, fun x hx => ho' x (by simp [hx]), h'⟩]
end Go.Proofs.Ytpjedpmbninfcaa
/-
  Digests compared.
-/
namespace Go.Proofs.Ytpjedpmbninfcaa
open Go.RowKit
section
variable {N : Nat} {fr : Fr} {w : World} {ty t' : TypeId} {x y : Operand} {p q : List UInt8}
theorem Try.eqg_Digest : Try.prog.eqGuardType Try.prog.depth 23 = false := by kernel_rfl
--@ rule! binOp p o_eqD32
theorem o_eqD32 (hx : fr.ev x = some (.agg (B8 p).toArray)) (hy : fr.ev y = some (.agg (B8 q).toArray)) (hp : p.length = 32) (hq : q.length = 32) : OpV Try.prog N fr w (.binOp .eql 23 x y t') ty (.bool (decide (p = q))) w :=
  o_aeq Try.underlying23 Try.underlying5 Try.sizeOf5 Try.eqg_Digest hx hy hp hq
--@ rule! binOp p o_neD32
theorem o_neD32 (hx : fr.ev x = some (.agg (B8 p).toArray)) (hy : fr.ev y = some (.agg (B8 q).toArray)) (hp : p.length = 32) (hq : q.length = 32) : OpV Try.prog N fr w (.binOp .neq 23 x y t') ty (.bool (decide (p ≠ q))) w :=
  o_ane Try.underlying23 Try.underlying5 Try.sizeOf5 Try.eqg_Digest hx hy hp hq
end
end Go.Proofs.Ytpjedpmbninfcaa
/-
  Rows of numbers of any kind (one cell each), of the call's own: made, read, written, appended. No function of the program is named here.
-/
namespace Go.Proofs.Ytpjedpmbninfcaa
open Go.RowKit
def vK (k : IntKind) (l : List Nat) : List Value := l.map fun x : Nat => .int k (x : Int)
theorem vK_length (k : IntKind) (l : List Nat) : (vK k l).length = l.length := List.length_map ..
theorem vK_one (k : IntKind) (l : List Nat) : ∀ v ∈ vK k l, v.oneCell' = true := fun v h => by
  obtain ⟨x, _, rfl⟩ := List.mem_map.1 h; rfl
theorem vK_get {k : IntKind} {l : List Nat} {j : Nat} (h : j < l.length) : (vK k l)[j]? = some (.int k (l[j] : Int)) := by
  unfold vK; rw [List.getElem?_map, List.getElem?_eq_getElem h]; rfl
theorem vK_append (k : IntKind) (l m : List Nat) : vK k (l ++ m) = vK k l ++ vK k m := List.map_append ..
theorem vK_set (k : IntKind) (l : List Nat) (j a : Nat) : vK k (l.set j a) = (vK k l).set j (.int k (a : Int)) := by
  unfold vK; rw [List.map_set]
/-- Numbers that are read. -/
def RdK (k : IntKind) (w : World) (A : Option Addr) (l : List Nat) : Prop := Reads w 1 A l.length (vK k l)
/-- A row of the call's own. -/
def OwnK (k : IntKind) (e : TypeId) (w : World) (lo hi : Nat) (A : Option Addr) (c : Nat) (l : List Nat) : Prop := RowH w lo hi e 1 A l.length c (vK k l)
theorem OwnK.k {q : IntKind} {w w' : World} {lo hi c : Nat} {e : TypeId} {A : Option Addr} {l : List Nat} {row : Option Nat} (h : OwnK q e w lo hi A c l) (hg : w.grownBy w' row) (ha : Ap row lo hi) : OwnK q e w' lo hi A c l := RowH.k h hg ha
section
variable {k : IntKind} {w w' : World} {lo hi c b : Nat} {e e' : TypeId} {A : Option Addr} {l : List Nat} {row : Option Nat}
theorem RdK.u (h : RdK k w A l) (hb : Below w.heap.size w w') : RdK k w' A l := h.below hb
theorem RdK.d (h : RdK k w A l) : RdK k w.drew A l := h
theorem RdK.nil_ : RdK k w none [] := Reads.none_ _ _ _
theorem RdK.some_ (h : RdK k w A l) (hl : 0 < l.length) : A = some (A.getD ⟨0, 0, none⟩) := Reads.some_ h (by decide) hl
theorem OwnK.u (h : OwnK k e w lo hi A c l) (hb : Below w.heap.size w w') : OwnK k e w' lo hi A c l := RowH.u h hb
theorem OwnK.d (h : OwnK k e w lo hi A c l) : OwnK k e w.drew lo hi A c l := RowH.d h
theorem OwnK.y (h : OwnK k e w lo hi A c l) (hg : Grew w w' e' row) (hne : e' ≠ e) : OwnK k e w' lo hi A c l := RowH.y h hg hne
theorem OwnK.m (h : OwnK k e w lo hi A c l) (hg : GrewM w w' b) : OwnK k e w' lo hi A c l := RowH.m h hg
theorem OwnK.ap {lo' hi' : Nat} (h : OwnK k e w lo hi A c l) (hd : hi ≤ lo' ∨ hi' ≤ lo) : Ap (blk A) lo' hi' := RowH.ap h hd
theorem OwnK.cap (h : OwnK k e w lo hi A c l) : l.length ≤ c := RowH.cap h
theorem OwnK.to_RdK (h : OwnK k e w lo hi A c l) : RdK k w A l := RowH.rd h
theorem OwnK.nil_ : OwnK k e w lo hi none 0 [] := RowH.nil _ _ _ _ _
theorem OwnK.base {lo' hi' : Nat} (h : OwnK k e w lo hi A c l) (h1 : lo' ≤ lo) (h2 : hi ≤ hi') : OwnK k e w lo' hi' A c l := RowH.base h h1 h2
theorem OwnK.some_ (h : OwnK k e w lo hi A c l) (hl : 0 < l.length) : A = some (A.getD ⟨0, 0, none⟩) := h.to_RdK.some_ hl
/-- A row that is there begins at the beginning of its block. -/
theorem OwnK.at_ (h : OwnK k e w lo hi A c l) (hl : 0 < l.length) : ∃ g, A = some ⟨g, 0, none⟩ ∧ blk A = some g := by
  rcases h.o.2 with ⟨h', h0⟩ | ⟨g, cap, cur, hv, _⟩
  · omega
  · injection hv with hv
    exact ⟨g, hv, by rw [hv]; rfl⟩
theorem OwnK.stored {j a : Nat} (h : OwnK k e w lo hi A c l) (hj : j < l.length) :
    OwnK k e (w.setCell (adr A j) (.int k (a : Int))) lo hi A c (l.set j a) ∧ Grew w (w.setCell (adr A j) (.int k (a : Int))) e (blk A) ∧ (w.setCell (adr A j) (.int k (a : Int))).heap.size = w.heap.size ∧ w.frozen? (adr A j) = false ∧ (w.cell? (adr A j)).isSome = true := by
  obtain ⟨g, rfl, hb⟩ := h.at_ (by omega)
  have e1 : adr (some ⟨g, 0, none⟩) j = ⟨g, j, none⟩ := by simp [adr, add_plain]
  rw [e1]
  have h1 := World.ownsRow.stored h.o j (.int k (a : Int))
  refine ⟨⟨?_, h.hi⟩, ⟨by rw [hb]; exact h1.2, RowH.ty h⟩, ?_, World.ownsRow.frozenAt h.o j, ?_⟩
  · show World.ownsRow _ lo e 1 _ (l.set j a).length _
    rw [List.length_set, vK_set]; exact h1.1
  · exact Nat.le_antisymm (by simp) h1.2.size
  · have := (RowH.rd h).adr_ (fun e0 => by have := vK_length k l; rw [e0] at this; simp at this; omega)
    have h2 := this.2 j _ (vK_get (k := k) hj)
    rw [e1] at h2; rw [h2]; rfl
end
section
variable {P : Program} {fn : Func} {F : Ending → World → Prop} {N : Nat} {ks : List K} {ops : Array Oper} {tg : Tags} {l : List Oper} {fr : Fr} {w : World} {ty t e : TypeId} {z : Value} {k k1 k2 : IntKind} {pos : String} {aft : Array Edge} {gd : Option (Nat × Bool)} {d n c a j q lo hi bytes : Nat} {x y : Operand} {A X : Option Addr} {zs ms : List Nat}
--@ rule load r o_ldK
theorem o_ldK (ha' : ∀ w, (isAgg t).run P w = .ok false w) (hx : fr.ev x = some (.pointer (some (adr A j)))) (hr : RdK k w A zs) (hj : j < zs.length) : OpV P N fr w (.load t x) ty (.int k (zs[j] : Int)) w :=
  o_loadA1 ha' hx hr (vK_get hj)
--@ rule store l wl_stK
theorem wl_stK (hs : ∀ w, (sizeOf t).run P w = .ok 1 w) (hx : fr.ev x = some (.pointer (some (adr A j)))) (hown : OwnK k e w lo hi A c zs) (hy : fr.ev y = some (.int k (a : Int))) (hj : j < zs.length)
    (hk : ∀ w', OwnK k e w' lo hi A c (zs.set j a) → Grew w w' e (blk A) → Below lo w w' → w'.heap.size = w.heap.size → WL P fn F N ks ops tg.tail l fr w') (ht : tg.loud = true := by rfl) (hg : onG ops fr gd = true := by rfl) (hq : tg.calm = false ∨ blk A = tg.row := by exact .inl rfl) :
    WL P fn F N ks ops tg (⟨none, .store t x y, ty, pos, aft, gd⟩ :: l) fr w := by
  obtain ⟨h1, h2, h3, h4, h5⟩ := hown.stored (a := a) hj
  obtain ⟨u, hu⟩ := Option.isSome_iff_exists.1 h5
  obtain ⟨g, e1, e2⟩ := hown.at_ (by omega)
  have eg : adr A j = ⟨g, j, none⟩ := by rw [e1]; simp [adr, add_plain]
  rw [eg] at hx hu h4 h1 h2 h3
  refine wl_u (o_store hs hx hy rfl hu h4) (hk _ h1 h2 ?_ h3) ht hg ?_
  · exact below_of_grownBy (by rw [← e2]; exact h2.g) (by have := RowH.lt hown g e2; omega) (by have := RowH.lt hown g e2; omega)
  · rcases hq with hq | hq
    · exact .inl hq
    · exact .inr (Rw.of (show w.grownBy _ tg.row by rw [← hq]; exact h2.g))
theorem wl_litK0 (T : RowT P t e z 1 bytes) (hs : ∀ w, (sizeOf e).run P w = .ok 1 w) (hz : ∀ w, (zeroValue e).run P w = .ok z w)
    (hk : ∀ A w', OwnK k e w' w.heap.size w'.heap.size A 0 [] → Below w.heap.size w w' → WL P fn F N ks ops tg.tail l ((d, .slice A 0 0) :: fr) w')
    (ht : tg.loud = true := by rfl) (hg : onG ops fr gd = true := by rfl) (hd : Nat.blt d N = true := by rfl) : WL P fn F N ks ops tg (⟨some d, .buildSlice t 0 #[], ty, pos, aft, gd⟩ :: l) fr w :=
  wl_litR (xs := []) (vs := []) T hs hz rfl rfl rfl rfl (fun v h => by cases h) (by simp) (fun A w' h1 h2 => hk A w' h1 h2) ht hg hd
theorem wl_appK0 (T : RowT P t e z 1 bytes) (hb : bytes ≤ 8) (hx : fr.ev x = some (.slice A 0 0)) (hown : OwnK k e w lo hi A 0 []) (hy : fr.ev y = some (.slice X j q)) (hr : RdK k w X zs) (hj : j = zs.length) (hlen : zs.length ≤ 1000000) (hB : lo ≤ w.heap.size)
    (h : ∀ A' c' w', OwnK k e w' lo w'.heap.size A' c' zs → Below w.heap.size w w' → WL P fn F N ks ops tg.tail l ((d, .slice A' zs.length c') :: fr) w')
    (ht : tg.loud = true := by rfl) (hg : onG ops fr gd = true := by rfl) (hd : Nat.blt d N = true := by rfl) :
    WL P fn F N ks ops tg (⟨some d, .call { callee := .builtin .append, args := #[x, y], argTypes := #[t, t] }, ty, pos, aft, gd⟩ :: l) fr w := by
  subst hj
  exact wl_appR0 T hx hown hy hr (vK_one k zs) (by simp only [maxLen]; omega) (by have := Nat.mul_le_mul hlen hb; omega) hB (fun A' c' w' h1 h2 => h A' c' w' h1 h2) ht hg hd
theorem wl_appK (T : RowT P t e z 1 bytes) (hb : bytes ≤ 8) (hx : fr.ev x = some (.slice A n c)) (hown : OwnK k e w lo hi A c zs) (hn : n = zs.length) (hy : fr.ev y = some (.slice X j q)) (hr : RdK k w X ms) (hj : j = ms.length) (hlen : zs.length + ms.length ≤ 1000000) (hB : lo ≤ w.heap.size)
    (h : ∀ A' c' w', OwnK k e w' lo w'.heap.size A' c' (zs ++ ms) → Grew w w' e (blk A) → Below lo w w' → (blk A' = blk A ∨ blk A' = some w.heap.size) → WL P fn F N ks ops tg.tail l ((d, .slice A' (zs ++ ms).length c') :: fr) w')
    (ht : tg.loud = true := by rfl) (hg : onG ops fr gd = true := by rfl) (hd : Nat.blt d N = true := by rfl) (hq : tg.calm = false ∨ blk A = none ∨ blk A = tg.row := by exact .inl rfl) :
    WL P fn F N ks ops tg (⟨some d, .call { callee := .builtin .append, args := #[x, y], argTypes := #[t, t] }, ty, pos, aft, gd⟩ :: l) fr w := by
  subst hn; subst hj
  refine wl_appR T hx hown hy hr (vK_one k ms) (by simp only [maxLen]; omega) (by have := Nat.mul_le_mul hlen hb; omega) hB (fun A' c' w' h1 h2 h3 h4 => ?_) ht hg hd hq
  have := h A' c' w' (by unfold OwnK; rw [vK_append, List.length_append]; exact h1) h2 h3 h4
  rwa [List.length_append] at this
theorem wl_mkK {C E : Int} (T : RowT P t e (.int k 0) 1 bytes) (hb : bytes ≤ 8) (n : Nat) (hx : fr.ev x = some (.int k1 E)) (hy : fr.ev y = some (.int k2 C)) (hE : E = (n : Int)) (hC : C = (n : Int)) (hn : n ≤ 1000000)
    (hk : ∀ A w', OwnK k e w' w.heap.size w'.heap.size A n (List.replicate n 0) → Below w.heap.size w w' → WL P fn F N ks ops tg.tail l ((d, .slice A n n) :: fr) w')
    (ht : tg.loud = true := by rfl) (hg : onG ops fr gd = true := by rfl) (hd : Nat.blt d N = true := by rfl) : WL P fn F N ks ops tg (⟨some d, .makeSlice t x y, ty, pos, aft, gd⟩ :: l) fr w := by
  subst hC; subst hE
  obtain ⟨i, hi, hz, hs, hb'⟩ := info_parts T.hi
  obtain ⟨w', hrun, r1, r2⟩ := run_make_full (P := P) w w.heap.size t e i _ 1 T.ht hi hz hs k1 k2 n (by rw [hb']; have := Nat.mul_le_mul hb hn; omega) (by simp only [maxLen]; omega) (Nat.le_refl _)
  have hbl : Below w.heap.size w w' := (Below.refl _ _).grown r2 (Nat.le_refl _) (by simp)
  have e : (madeCells (Value.int k 0).cells (n * 1)).toList = vK k (List.replicate n 0) := by
    rw [Nat.mul_one]; exact (toList_madeCells_one _ _).trans (by simp [vK])
  rw [e] at r1
  have ho : OwnK k _ w' w.heap.size w'.heap.size (some ⟨w.heap.size, 0, none⟩) n (List.replicate n 0) := ⟨by rw [List.length_replicate]; exact r1, fun b hb => (World.ownsRow.lt r1 b (by rw [blk_own]; exact hb)).2⟩
  exact wl_v (fun a ha o ho _ => by simp [execOp, ho, ha.ev hx, ha.ev hy, hrun]) (hk _ w' ho hbl) ht hg hd (.inr (grown_of_below hbl _))
end
end Go.Proofs.Ytpjedpmbninfcaa
/-
  A byte of a row of the call's own is written; two bytes combined. No function of the program is named here.
-/
namespace Go.Proofs.Ytpjedpmbninfcaa
open Go.RowKit
theorem b8_vK (l : List UInt8) : B8 l = vK .u8 (l.map UInt8.toNat) := by
  unfold B8 vK; rw [List.map_map]; rfl
theorem OwnH.to_K {w : World} {lo hi c : Nat} {A : Option Addr} {l : List UInt8} (h : OwnH w lo hi A c l) : OwnK .u8 5 w lo hi A c (l.map UInt8.toNat) := by
  have h' : RowH w lo hi 5 1 A l.length c (B8 l) := h
  rw [b8_vK] at h'
  show RowH w lo hi 5 1 A (l.map UInt8.toNat).length c _
  rw [List.length_map]
  exact h'
theorem OwnK.to_H {w : World} {lo hi c : Nat} {A : Option Addr} {l : List UInt8} (h : OwnK .u8 5 w lo hi A c (l.map UInt8.toNat)) : OwnH w lo hi A c l := by
  have h' : RowH w lo hi 5 1 A (l.map UInt8.toNat).length c (vK .u8 (l.map UInt8.toNat)) := h
  rw [List.length_map, ← b8_vK] at h'
  exact h'
theorem OwnH.some_ {w : World} {lo hi c : Nat} {A : Option Addr} {l : List UInt8} (h : OwnH w lo hi A c l) (hl : 0 < l.length) : A = some (A.getD ⟨0, 0, none⟩) := h.to_Rd.some_ (by decide) (by simpa using hl)
theorem xor_u8 (a b : UInt8) : bits .xor .u8 (a.toNat : Int) (b.toNat : Int) = ((a ^^^ b).toNat : Int) := by
  have ha := a.toNat_lt
  have hb := b.toNat_lt
  have hx : a.toNat ^^^ b.toNat < 2 ^ 8 := Nat.xor_lt_two_pow (by omega) (by omega)
  have h1 : (BitVec.ofInt 8 (a.toNat : Int)).toNat = a.toNat := by
    rw [BitVec.ofInt_natCast, BitVec.toNat_ofNat]; exact Nat.mod_eq_of_lt (by omega)
  have h2 : (BitVec.ofInt 8 (b.toNat : Int)).toNat = b.toNat := by
    rw [BitVec.ofInt_natCast, BitVec.toNat_ofNat]; exact Nat.mod_eq_of_lt (by omega)
  show IntKind.u8.wrap ((BitVec.ofInt 8 (a.toNat : Int) ^^^ BitVec.ofInt 8 (b.toNat : Int)).toNat : Int) = _
  rw [BitVec.toNat_xor, h1, h2, UInt8.toNat_xor, u8_in (by omega) (by omega)]
section
variable {P : Program} {fn : Func} {F : Ending → World → Prop} {N : Nat} {ks : List K} {ops : Array Oper} {tg : Tags} {l : List Oper} {fr : Fr} {w : World} {ty t t' : TypeId} {pos : String} {aft : Array Edge} {gd : Option (Nat × Bool)} {c j lo hi : Nat} {x y : Operand} {A : Option Addr} {bs : List UInt8} {u v : UInt8}
--@ rule! binOp p o_xor8
theorem o_xor8 (hx : fr.ev x = some (.int .u8 (u.toNat : Int))) (hy : fr.ev y = some (.int .u8 (v.toNat : Int))) : OpV P N fr w (.binOp .xor t x y t') ty (.int .u8 ((u ^^^ v).toNat : Int)) w := o_asi (o_xor hx hy) (xor_u8 u v)
--@ rule store l wl_stO
theorem wl_stO (hs : ∀ w, (sizeOf t).run P w = .ok 1 w) (hx : fr.ev x = some (.pointer (some (adr A j)))) (hown : OwnH w lo hi A c bs) (hy : fr.ev y = some (.int .u8 (u.toNat : Int))) (hj : j < bs.length)
    (hk : ∀ w', OwnH w' lo hi A c (bs.set j u) → Grew w w' 5 (blk A) → Below lo w w' → w'.heap.size = w.heap.size → WL P fn F N ks ops tg.tail l fr w') (ht : tg.loud = true := by rfl) (hg : onG ops fr gd = true := by rfl) (hq : tg.calm = false ∨ blk A = tg.row := by exact .inl rfl) :
    WL P fn F N ks ops tg (⟨none, .store t x y, ty, pos, aft, gd⟩ :: l) fr w :=
  wl_stK (a := u.toNat) hs hx hown.to_K hy (by rw [List.length_map]; exact hj) (fun w' h1 h2 h3 h4 => hk w' (by
    rw [show (bs.map UInt8.toNat).set j u.toNat = (bs.set j u).map UInt8.toNat from List.map_set.symm] at h1
    exact h1.to_H) h2 h3 h4) ht hg hq
--@ rule load r o_loadCut
theorem o_loadCut {N g i n : Nat} {fr : Fr} {w : World} {ty t t' : TypeId} {x : Operand} {cs vs : List Value} (ha' : ∀ w, (isAgg t).run P w = .ok true w) (hs : ∀ w, (sizeOf t).run P w = .ok n w) (hx : fr.ev x = some (.pointer (some ⟨g, i, none⟩))) (hB : Blk w g t' cs) (hv : (cs.drop i).take n = vs) (hn : vs.length = n) : OpV P N fr w (.load t x) ty (.agg vs.toArray) w := by
  subst hn
  refine o_loadn ha' hs hx (fun j u hj => ?_)
  rw [add_plain, hB.cell]
  rw [← hv] at hj
  have hj2 : j < vs.length := by
    rcases Nat.lt_or_ge j vs.length with h | h
    · exact h
    · rw [List.getElem?_eq_none (by rw [List.length_take]; omega)] at hj; cases hj
  rw [List.getElem?_take_of_lt hj2, List.getElem?_drop] at hj
  exact hj
end
end Go.Proofs.Ytpjedpmbninfcaa
/-
  Walk of headwaterkit.Pick.
-/
namespace Go.Proofs.Ytpjedpmbninfcaa
open Go.RowKit
theorem tmod_neg (n m : Int) (hm : 0 < m) (h : n.tmod m < 0) : n % m = n.tmod m + m := by
  have e := Int.tmod_eq_emod (a := n) (b := m)
  have h1 := Int.emod_nonneg n (b := m) (by omega)
  split at e <;> omega
theorem tmod_pos (n m : Int) (hm : 0 < m) (h : ¬ n.tmod m < 0) : n % m = n.tmod m := by
  have e := Int.tmod_eq_emod (a := n) (b := m)
  have h2 := Int.emod_lt_of_pos n hm
  split at e <;> omega
def pick (n m : Int) : Int := if m < 1 then 0 else n % m
theorem i64_wf {n : Int} (h : -9223372036854775808 ≤ n ∧ n ≤ 9223372036854775807) : (Lit.int .i64 n).wf = true := by
  simp only [Lit.wf, Bool.and_eq_true, decide_eq_true_eq]
  exact h
theorem pick_range (n m : Int) (hm : 1 ≤ m) : 0 ≤ pick n m ∧ pick n m < m := by
  rw [pick, if_neg (by omega)]
  exact ⟨Int.emod_nonneg n (by omega), Int.emod_lt_of_pos n (by omega)⟩
theorem C_Pick (n m : Int) (wn : (Lit.int .i64 n).wf = true) (wm : (Lit.int .i64 m).wf = true) (w : World) :
    CallsR Try.prog 17 [.int .i64 n, .int .i64 m] w fun v w' => v = .int .i64 (pick n m) ∧ w' = w := by
  have bn := bounds_i64 wn
  have bm := bounds_i64 wm
  refine callsR Try.func17 rfl rfl (by kernel_rfl) rfl ?_
  refine rk_seq ?_
  refine rk_region ?_
  refine wl_p (fun _ => o_assign rfl) ?_
  refine wl_nil ?_
  refine rk_seq ?_
  refine rk_seq ?_
  refine rk_region ?_
  refine wl_p (fun _ => o_move rfl) ?_
  refine wl_p (fun _ => o_lt rfl rfl) ?_
  refine wl_nil ?_
  refine rk_if rfl (fun h => ?_) (fun h => ?_)
  · refine rk_seq ?_
    refine rk_region ?_
    refine wl_p (fun _ => o_assign rfl) ?_
    refine wl_nil ?_
    refine ret1 rfl rfl ?_
    exact ⟨by rw [pick, if_pos h], rfl⟩
  · refine rk_skip ?_
    refine rk_seq ?_
    refine rk_region ?_
    refine wl_p (fun _ => o_move rfl) ?_
    refine wl_p (fun _ => o_move rfl) ?_
    refine wl_p (fun _ => o_remz rfl rfl (by omega)) ?_
    refine wl_p (fun _ => o_assign rfl) ?_
    refine wl_nil ?_
    refine rk_seq ?_
    refine rk_seq ?_
    refine rk_region ?_
    refine wl_p (fun _ => o_move rfl) ?_
    refine wl_p (fun _ => o_lt rfl rfl) ?_
    refine wl_nil ?_
    refine rk_if rfl (fun h2 => ?_) (fun h2 => ?_)
    · have e := tmod_neg n m (by omega) h2
      have e1 := Int.emod_nonneg n (b := m) (by omega)
      have e2 := Int.emod_lt_of_pos n (b := m) (by omega)
      refine rk_region ?_
      refine wl_p (fun _ => o_move rfl) ?_
      refine wl_p (fun _ => o_move rfl) ?_
      refine wl_p (fun _ => o_add rfl rfl (by omega) (by omega)) ?_
      refine wl_p (fun _ => o_assign rfl) ?_
      refine wl_nil ?_
      refine rk_seq ?_
      refine rk_region ?_
      refine wl_p (fun _ => o_move rfl) ?_
      refine wl_p (fun _ => o_assign rfl) ?_
      refine wl_nil ?_
      refine ret1 rfl rfl ?_
      exact ⟨by rw [pick, if_neg h, tmod_neg n m (by omega) h2], rfl⟩
    · refine rk_skip ?_
      refine rk_seq ?_
      refine rk_region ?_
      refine wl_p (fun _ => o_move rfl) ?_
      refine wl_p (fun _ => o_assign rfl) ?_
      refine wl_nil ?_
      refine ret1 rfl rfl ?_
      exact ⟨by rw [pick, if_neg h, tmod_pos n m (by omega) h2], rfl⟩
theorem C_PickR {n m r : Int} (w : World) (hr : pick n m = r) (wn : (Lit.int .i64 n).wf = true) (wm : (Lit.int .i64 m).wf = true) :
    CallsR Try.prog 17 [.int .i64 n, .int .i64 m] w fun v w' => v = .int .i64 r ∧ Below w.heap.size w w' := by
  refine (C_Pick n m wn wm w).mono ?_
  rintro v w' ⟨rfl, rfl⟩
  exact ⟨congrArg _ hr, Below.refl _ _⟩
end Go.Proofs.Ytpjedpmbninfcaa
/-
  The statement RecordBound: its walk; arguments opened.
-/
namespace Go.Proofs.Ytpjedpmbninfcaa
open Go.RowKit
/-- A record, in memory. -/
def gRec : GoT Rc := ((gInt .u8).pair gBytes).map (fun p => (UInt8.ofNat p.1.toNat, p.2))
theorem gRec_R {w : World} {cs : List Value} {r : Rc} (h : gRec.R w cs r) : ∃ A c, cs = [.int .u8 (r.1.toNat : Int), .slice A r.2.length c] ∧ Rd w A r.2 ∧ r.2.length ≤ c ∧ c ≤ maxLen := by
  obtain ⟨⟨x, p⟩, rfl, c1, c2, rfl, ⟨rfl, hx⟩, A, c, rfl, h2, h3, h4⟩ := h
  refine ⟨A, c, ?_, h2, h3, h4⟩
  have hb := bounds_u8 hx
  have e : ((UInt8.ofNat x.toNat).toNat : Int) = x := by
    have hn : x.toNat < 256 := by simp only at hb; omega
    rw [UInt8.toNat_ofNat_of_lt' hn]; simp only at hb; omega
  show _ = [Value.int .u8 ((UInt8.ofNat x.toNat).toNat : Int), _]
  rw [e]; rfl
theorem opens_Rec : Opens Try.prog 31 gRec := opens_map (opens_struct Try.underlying31 (by kernel_rfl) (.more (opens_int Try.underlying5 (by kernel_rfl)) rfl (.one (opens_bytes Try.underlying26 Try.underlying5 (by kernel_rfl) (by kernel_rfl)) rfl)))
--@ arg api.Record arg_Record
theorem arg_Record {H : Type} {enc : TypeId × Value → H} {W : World} {base : Nat} {v : Value} {d : DataW H} {p : List MemPlace} (hok : Value.okWide Try.prog W .any base 31 v) (h : DataW.Trod enc Try.prog W 0 (fun _ => true) true 31 v d p) :
    ∃ (k : UInt8) (A : Option Addr) (c : Nat) (l : By), v = .agg #[.int .u8 (k.toNat : Int), .slice A l.length c] ∧ Rd W A l ∧ l.length ≤ c ∧ c ≤ maxLen := by
  obtain ⟨cs, r, rfl, h1⟩ := open_agg opens_Rec (.inl ⟨_, Try.underlying31⟩) hok h
  obtain ⟨A, c, rfl, h2, h3, h4⟩ := gRec_R h1
  exact ⟨_, A, c, _, rfl, h2, h3, h4⟩
theorem open_u8 {a : Int} (h : (Lit.int .u8 a).wf = true) : ∃ u : UInt8, a = (u.toNat : Int) := by
  have hb := bounds_u8 h
  exact ⟨UInt8.ofNat a.toNat, by rw [UInt8.toNat_ofNat_of_lt' (by show a.toNat < 256; omega)]; omega⟩
theorem xor_self (u v : UInt8) : u ^^^ v = u ↔ v = 0 := by
  constructor
  · intro h
    have : u ^^^ (u ^^^ v) = u ^^^ u := by rw [h]
    rw [← UInt8.xor_assoc, UInt8.xor_self, UInt8.zero_xor] at this
    exact this
  · rintro rfl; exact UInt8.xor_zero
set_option maxRecDepth 100000 in
set_option maxHeartbeats 4000000 in
theorem C_RecordBound {k u : UInt8} {A : Option Addr} {p c d : By} {cc : Nat} {at0 : Int} (w : World) (hp : Rd w A p) (hcp : p.length ≤ cc) (hc : c.length = 32) (hd : d.length = 32) (wa : (Lit.int .i64 at0).wf = true) :
    CallsR Try.prog 4 [.agg #[.int .u8 (k.toNat : Int), .slice A p.length cc], .agg (B8 c).toArray, .agg (B8 d).toArray, .int .i64 at0, .int .u8 (u.toNat : Int)] w fun v w' => v = .bool true ∧ Below w.heap.size w w' := by
  refine callsR Try.func4 rfl rfl (by kernel_rfl) rfl ?_
  have hw := Below.refl w.heap.size w
  refine rk_seq ?_
  refine rk_region ?_
  refine wl_boxg [_, _] rfl (by rfl) ?_
  rintro g5 w5 f5 b5 i5 i5_1
  have s5 := b5.size
  replace hw := hw.trans (b5.mono hw.size)
  refine wl_boxg _ rfl (by rfl) ?_
  rintro g6 w6 f6 b6 i6 i6_1
  have s6 := b6.size
  replace hw := hw.trans (b6.mono hw.size)
  replace f5 := f5.u b6
  refine wl_boxg _ rfl (by rfl) ?_
  rintro g7 w7 f7 b7 i7 i7_1
  have s7 := b7.size
  replace hw := hw.trans (b7.mono hw.size)
  replace f5 := f5.u b7
  replace f6 := f6.u b7
  refine wl_p (fun _ => o_assign rfl) ?_
  refine wl_nil ?_
  refine rk_seq ?_
  refine rk_seq ?_
  refine rk_region ?_
  refine wl_call rfl (C_lives08 _) ?_
  rintro v31 w31 ⟨rfl, b31⟩
  have s31 := b31.size
  replace hw := hw.trans (b31.mono hw.size)
  replace f6 := f6.u b31
  replace f5 := f5.u b31
  replace f7 := f7.u b31
  refine wl_p (fun _ => o_not rfl) ?_
  refine wl_nil ?_
  refine rk_false rfl ?_
  refine rk_skip ?_
  refine rk_seq ?_
  refine rk_seq ?_
  refine rk_region ?_
  refine wl_p (fun _ => o_faddr (s := 31) (i := 1) (off := 1) Try.underlying31 rfl Try.sizeOf26 rfl rfl rfl) ?_
  refine wl_r (o_loadbg Try.isAgg26 rfl f5 (by rfl)) ?_
  refine wl_p (fun _ => o_len (t := 26) Try.underlying26 rfl) ?_
  refine wl_p (fun _ => o_gt rfl rfl) ?_
  refine wl_p (fun _ => o_move rfl) ?_
  refine wl_bool 37 rfl (fun h37 => ?_) (fun h37 => ?_) <;> try simp only [decide_eq_true_eq, decide_eq_false_iff_not, Bool.not_eq_true', Bool.not_eq_false', Bool.and_eq_true, Bool.and_eq_false_iff, Bool.or_eq_true, Bool.or_eq_false_iff] at h37
  · refine wl_off ?_
    refine wl_off ?_
    refine wl_off ?_
    refine wl_p (fun _ => o_pick_t rfl rfl) ?_
    refine wl_nil ?_
    refine rk_true rfl ?_
    refine rk_seq ?_
    refine rk_region ?_
    refine wl_p (fun _ => o_assign rfl) ?_
    refine wl_nil ?_
    refine ret1 rfl rfl ?_
    exact ⟨rfl, hw⟩
  · refine wl_r (o_loadag Try.isAgg31 Try.sizeOf31 rfl f5 (by rfl)) ?_
    refine wl_call rfl (C_CheckZ _ (by rfl) (by rfl)) ?_
    rintro v39 w39 ⟨z39, ⟨rfl, ⟨i39, ⟨i39_1, b39⟩⟩⟩⟩
    have s39 := b39.size
    replace hw := hw.trans (b39.mono hw.size)
    replace f7 := f7.u b39
    replace f5 := f5.u b39
    replace f6 := f6.u b39
    refine wl_p (fun _ => o_ne rfl rfl) ?_
    refine wl_p (fun _ => o_pick_f rfl rfl) ?_
    refine wl_nil ?_
    refine rk_if rfl (fun h41 => ?_) (fun h41 => ?_)
    · refine rk_seq ?_
      refine rk_region ?_
      refine wl_p (fun _ => o_assign rfl) ?_
      refine wl_nil ?_
      refine ret1 rfl rfl ?_
      exact ⟨rfl, hw⟩
    · have hO : OkR (k, p) := (show z39 = 0 ↔ OkR (k, p) by assumption).1 (by omega)
      obtain ⟨b, hb⟩ : ∃ b, bytesR c (k, p) = b := ⟨_, rfl⟩
      obtain ⟨n, hn⟩ : ∃ n, nextB c (k, p) = n := ⟨_, rfl⟩
      obtain ⟨o, ho⟩ : ∃ o, nextB d (k, p) = o := ⟨_, rfl⟩
      have n32 : n.length = 32 := by rw [← hn]; exact nextB_len _ _
      have o32 : o.length = 32 := by rw [← ho]; exact nextB_len _ _
      have hbl : b.length ≤ 9018 := by
        have := bodyB_le (r := (k, p)) (n := 9000) (by simp only; omega)
        rw [← hb, bytesR_len]; omega
      have hb0 : 8 ≤ b.length := by rw [← hb, bytesR_len]; omega
      have r1 : readR c b = ((k, p), b.length, n, 0) := by
        have := readR_own c hO []
        rw [List.append_nil, hb, hn] at this
        exact this
      have r2 := readR_app d c hO []
      rw [List.append_nil, hb, ho, hn] at r2
      obtain ⟨⟨⟨k2, p2⟩, z2, x2, e2⟩, hR2⟩ : ∃ s, readR d b = s := ⟨_, rfl⟩
      have r3 : (e2 = 0 ↔ o.take 8 = n.take 8) ∧ (e2 = 0 ∨ e2 = 4) ∧ x2.length = 32 := by
        rw [hR2] at r2
        split at r2
        · rename_i h
          simp only [Prod.mk.injEq] at r2
          exact ⟨⟨fun _ => h, fun _ => r2.2.2.2⟩, .inl r2.2.2.2, by rw [r2.2.2.1]; exact o32⟩
        · rename_i h
          simp only [Prod.mk.injEq] at r2
          exact ⟨⟨fun h0 => by omega, fun h' => absurd h' h⟩, .inr r2.2.2.2, by rw [r2.2.2.1]; rfl⟩
      clear r2
      obtain ⟨r3, r4, r5⟩ := r3
      have hpl : p.length ≤ 9000 := by omega
      have o8 : (o.take 8).length = 8 := by rw [List.length_take]; omega
      have n8 : (n.take 8).length = 8 := by rw [List.length_take]; omega
      refine rk_skip ?_
      refine rk_seq ?_
      refine rk_region ?_
      refine wl_r (o_ldBa Try.isAgg23 Try.sizeOf23 rfl f6 hc) ?_
      refine wl_r (o_loadag Try.isAgg31 Try.sizeOf31 rfl f5 (by rfl)) ?_
      refine wl_call rfl (C_RecBytesOk _ (by rfl) (hp.u hw) (by omega) hb hn rfl (by omega) hc) ?_
      rintro v45 w45 ⟨A45, ⟨c45, ⟨rfl, ⟨f45, b45⟩⟩⟩⟩
      have qf45 := f45.cap
      have s45 := b45.size
      replace hw := hw.trans (b45.mono hw.size)
      replace f6 := f6.u b45
      replace f5 := f5.u b45
      replace f7 := f7.u b45
      refine wl_p (fun _ => o_move rfl) ?_
      refine wl_p (fun _ => o_ext30 rfl) ?_
      refine wl_p (fun _ => o_ext31 rfl) ?_
      refine wl_p (fun _ => o_ext32 rfl) ?_
      refine wl_allocB Try.underlying23 Try.zeroValue23 (by rfl) ?_
      rintro g12 w12 f12 b12 i12 i12_1
      have s12 := b12.size
      replace hw := hw.trans (b12.mono hw.size)
      replace f7 := f7.u b12
      replace f5 := f5.u b12
      replace f6 := f6.u b12
      replace f45 := f45.u b12
      refine wl_p (fun _ => o_assign rfl) ?_
      refine wl_stBa Try.sizeOf23 rfl f12 rfl n32 (by rfl) ?_
      rintro w_1 f g e
      have s := g.size
      replace hw := hw.trans (below_of_grownBy g.g hw.size (by omega))
      replace f45 := f45.k g.g (ap_some (by omega))
      replace f6 := f6.k g.g (ap_some (by omega))
      replace f5 := f5.k g.g (ap_some (by omega))
      replace f7 := f7.k g.g (ap_some (by omega))
      clear f12
      refine wl_p (fun _ => o_assign rfl) ?_
      refine wl_nil ?_
      refine rk_seq ?_
      refine rk_region ?_
      refine wl_r (o_ldBa Try.isAgg23 Try.sizeOf23 rfl f6 hc) ?_
      refine wl_p (fun _ => o_move rfl) ?_
      refine wl_call rfl (C_RecReadN _ r1 f45.to_Rd rfl (by omega) hc (by omega)) ?_
      rintro v52 w52 ⟨A52, ⟨c52, ⟨rfl, ⟨f52, b52⟩⟩⟩⟩
      dsimp only at f52
      dsimp only
      have qf52 := f52.cap
      have s52 := b52.size
      replace hw := hw.trans (b52.mono hw.size)
      replace f7 := f7.u b52
      replace f5 := f5.u b52
      replace f6 := f6.u b52
      replace f45 := f45.u b52
      replace f := f.u b52
      refine wl_p (fun _ => o_move rfl) ?_
      refine wl_p (fun _ => o_ext40 rfl) ?_
      refine wl_p (fun _ => o_ext41 rfl) ?_
      refine wl_p (fun _ => o_ext42 rfl) ?_
      refine wl_p (fun _ => o_ext43 rfl) ?_
      refine wl_allocg [_, _] Try.zeroValue31 (by rfl) ?_
      rintro g14 w14 f14 b14 i14 i14_1
      have s14 := b14.size
      replace hw := hw.trans (b14.mono hw.size)
      replace f := f.u b14
      replace f45 := f45.u b14
      replace f6 := f6.u b14
      replace f5 := f5.u b14
      replace f7 := f7.u b14
      replace f52 := f52.u b14
      refine wl_allocB Try.underlying23 Try.zeroValue23 (by rfl) ?_
      rintro g16 w16 f16 b16 i16 i16_1
      have s16 := b16.size
      replace hw := hw.trans (b16.mono hw.size)
      replace f52 := f52.u b16
      replace f7 := f7.u b16
      replace f5 := f5.u b16
      replace f6 := f6.u b16
      replace f45 := f45.u b16
      replace f := f.u b16
      replace f14 := f14.u b16
      refine wl_storega Try.sizeOf31 rfl rfl (by rfl) (oneCell_of (by rfl)) f14 (by rfl) ?_
      rintro w_2 f_1 g_1 e_1
      have s_1 := g_1.size
      replace hw := hw.trans (below_of_grownBy g_1.g hw.size (by omega))
      replace f := f.k g_1.g (ap_some (by omega))
      replace f45 := f45.k g_1.g (ap_some (by omega))
      replace f6 := f6.k g_1.g (ap_some (by omega))
      replace f5 := f5.k g_1.g (ap_some (by omega))
      replace f7 := f7.k g_1.g (ap_some (by omega))
      replace f52 := f52.k g_1.g (ap_some (by omega))
      replace f16 := f16.k g_1.g (ap_some (by omega))
      clear f14
      refine wl_p (fun _ => o_assign rfl) ?_
      refine wl_stBa Try.sizeOf23 rfl f16 rfl n32 (by rfl) ?_
      rintro w_3 f_2 g_2 e_2
      have s_2 := g_2.size
      replace hw := hw.trans (below_of_grownBy g_2.g hw.size (by omega))
      replace f52 := f52.k g_2.g (ap_some (by omega))
      replace f7 := f7.k g_2.g (ap_some (by omega))
      replace f5 := f5.k g_2.g (ap_some (by omega))
      replace f6 := f6.k g_2.g (ap_some (by omega))
      replace f45 := f45.k g_2.g (ap_some (by omega))
      replace f := f.k g_2.g (ap_some (by omega))
      replace f_1 := f_1.k g_2.g (ap_some (by omega))
      clear f16
      refine wl_p (fun _ => o_assign rfl) ?_
      refine wl_nil ?_
      refine rk_seq ?_
      refine rk_seq ?_
      refine rk_region ?_
      refine wl_p (fun _ => o_move rfl) ?_
      refine wl_p (fun _ => o_ne rfl rfl) ?_
      refine wl_p (fun _ => o_move rfl) ?_
      refine wl_r (o_loadag Try.isAgg31 Try.sizeOf31 rfl f_1 (by rfl)) ?_
      refine wl_r (o_loadag Try.isAgg31 Try.sizeOf31 rfl f5 (by rfl)) ?_
      refine wl_call rfl (C_kRecZ _ (by rfl) (by rfl) f52.to_Rd (hp.u hw) rfl rfl) ?_
      rintro v62 w62 ⟨rfl, b62⟩
      have s62 := b62.size
      replace hw := hw.trans (b62.mono hw.size)
      replace f_1 := f_1.u b62
      replace f := f.u b62
      replace f45 := f45.u b62
      replace f6 := f6.u b62
      replace f5 := f5.u b62
      replace f7 := f7.u b62
      replace f52 := f52.u b62
      replace f_2 := f_2.u b62
      refine wl_p (fun _ => o_not rfl) ?_
      refine wl_p (fun _ => o_pick_f rfl rfl) ?_
      refine wl_p (fun _ => o_move rfl) ?_
      refine wl_know 65 false rfl (by simp) ?_
      refine wl_p (fun _ => o_move rfl) ?_
      refine wl_p (fun _ => o_move rfl) ?_
      refine wl_p (fun _ => o_len (t := 26) Try.underlying26 rfl) ?_
      refine wl_p (fun _ => o_ne rfl rfl) ?_
      refine wl_p (fun _ => o_pick_f rfl rfl) ?_
      refine wl_p (fun _ => o_move rfl) ?_
      refine wl_know 71 false rfl (decide_eq_false (by omega)) ?_
      refine wl_r (o_ldBa Try.isAgg23 Try.sizeOf23 rfl f_2 n32) ?_
      refine wl_r (o_ldBa Try.isAgg23 Try.sizeOf23 rfl f n32) ?_
      refine wl_p (fun _ => (o_neD32 rfl rfl n32 n32)) ?_
      refine wl_p (fun _ => o_pick_f rfl rfl) ?_
      refine wl_nil ?_
      refine rk_cond rfl (fun h75 => by simp at h75) (fun h75 => ?_)
      refine rk_skip ?_
      refine rk_seq ?_
      refine rk_region ?_
      refine wl_r (o_ldBa Try.isAgg23 Try.sizeOf23 rfl f7 hd) ?_
      refine wl_r (o_loadag Try.isAgg31 Try.sizeOf31 rfl f5 (by rfl)) ?_
      refine wl_call rfl (C_Next _ (hp.u hw) rfl (by omega) hd ho) ?_
      rintro v78 w78 ⟨rfl, b78⟩
      have s78 := b78.size
      replace hw := hw.trans (b78.mono hw.size)
      replace f_2 := f_2.u b78
      replace f52 := f52.u b78
      replace f7 := f7.u b78
      replace f5 := f5.u b78
      replace f6 := f6.u b78
      replace f45 := f45.u b78
      replace f := f.u b78
      replace f_1 := f_1.u b78
      refine wl_allocB Try.underlying23 Try.zeroValue23 (by rfl) ?_
      rintro g18 w18 f18 b18 i18 i18_1
      have s18 := b18.size
      replace hw := hw.trans (b18.mono hw.size)
      replace f_1 := f_1.u b18
      replace f := f.u b18
      replace f45 := f45.u b18
      replace f6 := f6.u b18
      replace f5 := f5.u b18
      replace f7 := f7.u b18
      replace f52 := f52.u b18
      replace f_2 := f_2.u b18
      refine wl_stBa Try.sizeOf23 rfl f18 rfl o32 (by rfl) ?_
      rintro w_4 f_3 g_3 e_3
      have s_3 := g_3.size
      replace hw := hw.trans (below_of_grownBy g_3.g hw.size (by omega))
      replace f_2 := f_2.k g_3.g (ap_some (by omega))
      replace f52 := f52.k g_3.g (ap_some (by omega))
      replace f7 := f7.k g_3.g (ap_some (by omega))
      replace f5 := f5.k g_3.g (ap_some (by omega))
      replace f6 := f6.k g_3.g (ap_some (by omega))
      replace f45 := f45.k g_3.g (ap_some (by omega))
      replace f := f.k g_3.g (ap_some (by omega))
      replace f_1 := f_1.k g_3.g (ap_some (by omega))
      clear f18
      refine wl_nil ?_
      refine rk_seq ?_
      refine rk_region ?_
      refine wl_r (o_ldBa Try.isAgg23 Try.sizeOf23 rfl f7 hd) ?_
      refine wl_p (fun _ => o_move rfl) ?_
      refine wl_call rfl (C_RecReadN _ hR2 f45.to_Rd rfl (by omega) hd (by omega)) ?_
      rintro v82 w82 ⟨A82, ⟨c82, ⟨rfl, ⟨f82, b82⟩⟩⟩⟩
      dsimp only at f82
      dsimp only
      have qf82 := f82.cap
      have s82 := b82.size
      replace hw := hw.trans (b82.mono hw.size)
      replace f_1 := f_1.u b82
      replace f := f.u b82
      replace f45 := f45.u b82
      replace f6 := f6.u b82
      replace f5 := f5.u b82
      replace f7 := f7.u b82
      replace f52 := f52.u b82
      replace f_2 := f_2.u b82
      replace f_3 := f_3.u b82
      refine wl_p (fun _ => o_move rfl) ?_
      refine wl_p (fun _ => o_ext40 rfl) ?_
      refine wl_p (fun _ => o_ext41 rfl) ?_
      refine wl_p (fun _ => o_ext42 rfl) ?_
      refine wl_p (fun _ => o_ext43 rfl) ?_
      refine wl_allocg [_, _] Try.zeroValue31 (by rfl) ?_
      rintro g19 w19 f19 b19 i19 i19_1
      have s19 := b19.size
      replace hw := hw.trans (b19.mono hw.size)
      replace f_3 := f_3.u b19
      replace f_2 := f_2.u b19
      replace f52 := f52.u b19
      replace f7 := f7.u b19
      replace f5 := f5.u b19
      replace f6 := f6.u b19
      replace f45 := f45.u b19
      replace f := f.u b19
      replace f_1 := f_1.u b19
      replace f82 := f82.u b19
      refine wl_allocB Try.underlying23 Try.zeroValue23 (by rfl) ?_
      rintro g21 w21 f21 b21 i21 i21_1
      have s21 := b21.size
      replace hw := hw.trans (b21.mono hw.size)
      replace f82 := f82.u b21
      replace f_1 := f_1.u b21
      replace f := f.u b21
      replace f45 := f45.u b21
      replace f6 := f6.u b21
      replace f5 := f5.u b21
      replace f7 := f7.u b21
      replace f52 := f52.u b21
      replace f_2 := f_2.u b21
      replace f_3 := f_3.u b21
      replace f19 := f19.u b21
      refine wl_storega Try.sizeOf31 rfl rfl (by rfl) (oneCell_of (by rfl)) f19 (by rfl) ?_
      rintro w_5 f_4 g_4 e_4
      have s_4 := g_4.size
      replace hw := hw.trans (below_of_grownBy g_4.g hw.size (by omega))
      replace f_3 := f_3.k g_4.g (ap_some (by omega))
      replace f_2 := f_2.k g_4.g (ap_some (by omega))
      replace f52 := f52.k g_4.g (ap_some (by omega))
      replace f7 := f7.k g_4.g (ap_some (by omega))
      replace f5 := f5.k g_4.g (ap_some (by omega))
      replace f6 := f6.k g_4.g (ap_some (by omega))
      replace f45 := f45.k g_4.g (ap_some (by omega))
      replace f := f.k g_4.g (ap_some (by omega))
      replace f_1 := f_1.k g_4.g (ap_some (by omega))
      replace f82 := f82.k g_4.g (ap_some (by omega))
      replace f21 := f21.k g_4.g (ap_some (by omega))
      clear f19
      refine wl_p (fun _ => o_assign rfl) ?_
      refine wl_stBa Try.sizeOf23 rfl f21 rfl r5 (by rfl) ?_
      rintro w_6 f_5 g_5 e_5
      have s_5 := g_5.size
      replace hw := hw.trans (below_of_grownBy g_5.g hw.size (by omega))
      replace f82 := f82.k g_5.g (ap_some (by omega))
      replace f_1 := f_1.k g_5.g (ap_some (by omega))
      replace f := f.k g_5.g (ap_some (by omega))
      replace f45 := f45.k g_5.g (ap_some (by omega))
      replace f6 := f6.k g_5.g (ap_some (by omega))
      replace f5 := f5.k g_5.g (ap_some (by omega))
      replace f7 := f7.k g_5.g (ap_some (by omega))
      replace f52 := f52.k g_5.g (ap_some (by omega))
      replace f_2 := f_2.k g_5.g (ap_some (by omega))
      replace f_3 := f_3.k g_5.g (ap_some (by omega))
      replace f_4 := f_4.k g_5.g (ap_some (by omega))
      clear f21
      refine wl_p (fun _ => o_assign rfl) ?_
      refine wl_nil ?_
      refine rk_seq ?_
      refine rk_seq ?_
      refine rk_draw (id := 11) (none) [0, 1, 0, 4, 0, 16, 40, 66, 128, 256, 768, 1280, 2048, 6144, 10496, 16640] [0, 1, 0, 4, 0, 16, 60, 127, 255, 511, 1023, 2047, 4095, 8191, 16383, 32767] 0 0 [(.p, 0), (.p, 1), (.p, 2), (.r, 3), (.p, 4), (.r, 5), (.p, 6), (.p, 7), (.p, 8), (.p, 9), (.p, 10), (.p, 11), (.p, 12), (.p, 13), (.p, 14), (.p, 15)] (by kernel_rfl) (by kernel_rfl) (by kernel_rfl) (by kernel_rfl) (by kernel_rfl) ?_
      replace hw := hw.drew
      replace f_4 := f_4.d
      replace f_3 := f_3.d
      replace f_2 := f_2.d
      replace f52 := f52.d
      replace f7 := f7.d
      replace f5 := f5.d
      replace f6 := f6.d
      replace f45 := f45.d
      replace f := f.d
      replace f_1 := f_1.d
      replace f82 := f82.d
      replace f_5 := f_5.d
      refine wl_p (fun _ => o_move rfl) ?_
      refine wl_p (fun _ => o_eq rfl rfl) ?_
      refine wl_p (fun _ => (o_slArrHi (8) Try.underlying23 Try.sizeOf5 rfl rfl (by omega) (by omega))) ?_
      have hr1 := rd_pre f_3 8
      have hr2 := rd_pre f 8
      refine wl_r (o_strU Try.underlying26 Try.underlying5 Try.underlying9 rfl hr1 (Below.refl _ _) (by omega)) ?_
      refine wl_p (fun _ => (o_slArrHi (8) Try.underlying23 Try.sizeOf5 rfl rfl (by omega) (by omega))) ?_
      refine wl_r (o_strU Try.underlying26 Try.underlying5 Try.underlying9 rfl hr2 (Below.refl _ _) (by omega)) ?_
      refine wl_p (fun _ => o_seq rfl rfl) ?_
      refine wl_p (fun _ => o_bne (t := 4) Try.underlying4 rfl rfl) ?_
      refine wl_p (fun _ => o_move rfl) ?_
      refine wl_know 95 false rfl (by simp; omega) ?_
      refine wl_p (fun _ => o_move rfl) ?_
      refine wl_p (fun _ => o_ne rfl rfl) ?_
      refine wl_p (fun _ => o_move rfl) ?_
      refine wl_joinf 4 (fun fb fr W => fr = [(102, .bool false)] ++ fb.drop 1 ∧ W = w_6.drew) ?_ (fun hj => ?_)
      rotate_left
      · refine wl_bool 98 rfl (fun h98 => ?_) (fun h98 => ?_) <;> try simp only [decide_eq_true_eq, decide_eq_false_iff_not, Bool.not_eq_true', Bool.not_eq_false', Bool.and_eq_true, Bool.and_eq_false_iff, Bool.or_eq_true, Bool.or_eq_false_iff] at h98
        · obtain rfl : e2 = 4 := by omega
          refine wl_p (fun _ => o_move rfl) ?_
          refine wl_p (fun _ => o_ne rfl rfl) ?_
          refine wl_p (fun _ => o_pick_t rfl rfl) ?_
          refine wl_p (fun _ => o_pick_f rfl rfl) ?_
          exact wl_tof hj (Fr.le_of (by kernel_rfl) (by kernel_rfl) (by repeat' constructor)) ⟨rfl, rfl⟩
        · refine wl_off ?_
          refine wl_off ?_
          refine wl_p (fun _ => o_pick_f rfl rfl) ?_
          refine wl_p (fun _ => o_pick_f rfl rfl) ?_
          exact wl_tof hj (Fr.le_of (by kernel_rfl) (by kernel_rfl) (by repeat' constructor)) ⟨rfl, rfl⟩
      rintro fr W ⟨rfl, rfl⟩
      first | refine rk_frame (by simp only [List.cons_append, List.nil_append, List.drop_succ_cons, List.drop_zero]; rfl) ?_ | refine wl_frame (by simp only [List.cons_append, List.nil_append, List.drop_succ_cons, List.drop_zero]; rfl) ?_
      have hpk := pick_range at0 b.length (by omega)
      obtain ⟨j, hj⟩ : ∃ j : Nat, pick at0 b.length = (j : Int) := ⟨(pick at0 b.length).toNat, by omega⟩
      have hjb : j < b.length := by omega
      have wb : (Lit.int .i64 (b.length : Int)).wf = true := i64_wf (by omega)
      obtain ⟨T, hT⟩ : ∃ T, b.set j (b[j] ^^^ u) = T := ⟨_, rfl⟩
      have hTl : T.length = b.length := by rw [← hT, List.length_set]
      obtain ⟨⟨⟨k3, p3⟩, z3, x3, e3⟩, hR3⟩ : ∃ s, readR c T = s := ⟨_, rfl⟩
      refine wl_nild ?_
      refine rk_false rfl ?_
      refine rk_skip ?_
      refine rk_seq ?_
      refine rk_region ?_
      refine wl_p (fun _ => o_move rfl) ?_
      refine wl_call rfl (C_OwnB _ f45.to_Rd rfl (by omega)) ?_
      rintro v104 w104 ⟨A104, ⟨c104, ⟨rfl, ⟨f104, b104⟩⟩⟩⟩
      simp only [drew_size] at f104
      simp only [drew_size] at b104
      have qf104 := f104.cap
      have s104 := b104.size
      simp only [drew_size] at s104
      replace hw := hw.trans (b104.mono hw.size)
      replace hr2 := hr2.u b104
      replace hr1 := hr1.u b104
      replace f_5 := f_5.u b104
      replace f82 := f82.u b104
      replace f_1 := f_1.u b104
      replace f := f.u b104
      replace f45 := f45.u b104
      replace f6 := f6.u b104
      replace f5 := f5.u b104
      replace f7 := f7.u b104
      replace f52 := f52.u b104
      replace f_2 := f_2.u b104
      replace f_3 := f_3.u b104
      replace f_4 := f_4.u b104
      refine wl_p (fun _ => o_assign rfl) ?_
      refine wl_nil ?_
      refine rk_seq ?_
      refine rk_region ?_
      refine wl_p (fun _ => o_move rfl) ?_
      refine wl_p (fun _ => o_move rfl) ?_
      refine wl_p (fun _ => o_len (t := 26) Try.underlying26 rfl) ?_
      refine wl_call rfl (C_PickR _ hj wa wb) ?_
      rintro v108 w108 ⟨rfl, b108⟩
      have s108 := b108.size
      replace hw := hw.trans (b108.mono hw.size)
      replace f_4 := f_4.u b108
      replace f_3 := f_3.u b108
      replace f_2 := f_2.u b108
      replace f52 := f52.u b108
      replace f7 := f7.u b108
      replace f5 := f5.u b108
      replace f6 := f6.u b108
      replace f45 := f45.u b108
      replace f := f.u b108
      replace f_1 := f_1.u b108
      replace f82 := f82.u b108
      replace f_5 := f_5.u b108
      replace hr1 := hr1.u b108
      replace hr2 := hr2.u b108
      replace f104 := f104.u b108
      refine wl_p (fun _ => o_assign rfl) ?_
      refine wl_nil ?_
      refine rk_seq ?_
      refine rk_region ?_
      refine wl_p (fun _ => o_move rfl) ?_
      refine wl_p (fun _ => o_move rfl) ?_
      refine wl_p (fun _ => o_move rfl) ?_
      refine wl_p (fun _ => o_move rfl) ?_
      refine wl_p (fun _ => (o_iaddrA1 (j) Try.underlying26 Try.sizeOf5 rfl rfl rfl (f104.some_ (by omega)) (by omega))) ?_
      refine wl_r (o_loadB Try.isAgg5 rfl f104.to_Rd (by omega)) ?_
      refine wl_p (fun _ => o_move rfl) ?_
      refine wl_p (fun _ => o_xor8 rfl rfl) ?_
      refine wl_p (fun _ => (o_iaddrA1 (j) Try.underlying26 Try.sizeOf5 rfl rfl rfl (f104.some_ (by omega)) (by omega))) ?_
      refine wl_stO Try.sizeOf5 rfl f104 rfl (by omega) ?_
      rintro w_7 f_6 g_6 b_1 e_6
      have qf_6 := f_6.cap
      have s_6 := g_6.size
      replace hw := hw.trans (b_1.mono (by omega))
      replace f_5 := f_5.y g_6 (by decide)
      replace f82 := f82.k g_6.g (f_6.ap (by omega))
      replace f_1 := f_1.y g_6 (by decide)
      replace f := f.y g_6 (by decide)
      replace f45 := f45.k g_6.g (f_6.ap (by omega))
      replace f6 := f6.y g_6 (by decide)
      replace f5 := f5.y g_6 (by decide)
      replace f7 := f7.y g_6 (by decide)
      replace f52 := f52.k g_6.g (f_6.ap (by omega))
      replace f_2 := f_2.y g_6 (by decide)
      replace f_3 := f_3.y g_6 (by decide)
      replace f_4 := f_4.y g_6 (by decide)
      clear f104
      clear hr2
      clear hr1
      rw [hT] at f_6
      have r7 : x3.length = 32 ∧ p3.length ≤ 8192 := by
        rcases readR_e c T with h | ⟨h, _⟩
        · rw [hR3] at h
          simp only at h
          subst h
          obtain ⟨h1, _, h3, _⟩ := readR_back hR3
          exact ⟨by rw [h3]; exact nextB_len _ _, h1.2⟩
        · rw [hR3] at h
          simp only [Prod.mk.injEq] at h
          obtain ⟨⟨_, h1⟩, _, h2, _⟩ := h
          exact ⟨by rw [h2]; rfl, by rw [h1]; simp⟩
      obtain ⟨r7, r8⟩ := r7
      refine wl_nil ?_
      refine rk_seq ?_
      refine rk_region ?_
      refine wl_r (o_ldBa Try.isAgg23 Try.sizeOf23 rfl f6 hc) ?_
      refine wl_p (fun _ => o_move rfl) ?_
      refine wl_call rfl (C_RecReadN _ hR3 f_6.to_Rd (by omega) (by omega) hc (by omega)) ?_
      rintro v121 w121 ⟨A121, ⟨c121, ⟨rfl, ⟨f121, b121⟩⟩⟩⟩
      dsimp only at f121
      dsimp only
      have qf121 := f121.cap
      have s121 := b121.size
      replace hw := hw.trans (b121.mono hw.size)
      replace f_4 := f_4.u b121
      replace f_3 := f_3.u b121
      replace f_2 := f_2.u b121
      replace f52 := f52.u b121
      replace f7 := f7.u b121
      replace f5 := f5.u b121
      replace f6 := f6.u b121
      replace f45 := f45.u b121
      replace f := f.u b121
      replace f_1 := f_1.u b121
      replace f82 := f82.u b121
      replace f_5 := f_5.u b121
      replace f_6 := f_6.u b121
      refine wl_p (fun _ => o_move rfl) ?_
      refine wl_p (fun _ => o_ext40 rfl) ?_
      refine wl_p (fun _ => o_ext41 rfl) ?_
      refine wl_p (fun _ => o_ext42 rfl) ?_
      refine wl_p (fun _ => o_ext43 rfl) ?_
      refine wl_allocg [_, _] Try.zeroValue31 (by rfl) ?_
      rintro g25 w25 f25 b25 i25 i25_1
      have s25 := b25.size
      replace hw := hw.trans (b25.mono hw.size)
      replace f_6 := f_6.u b25
      replace f_5 := f_5.u b25
      replace f82 := f82.u b25
      replace f_1 := f_1.u b25
      replace f := f.u b25
      replace f45 := f45.u b25
      replace f6 := f6.u b25
      replace f5 := f5.u b25
      replace f7 := f7.u b25
      replace f52 := f52.u b25
      replace f_2 := f_2.u b25
      replace f_3 := f_3.u b25
      replace f_4 := f_4.u b25
      replace f121 := f121.u b25
      refine wl_allocB Try.underlying23 Try.zeroValue23 (by rfl) ?_
      rintro g26 w26 f26 b26 i26 i26_1
      have s26 := b26.size
      replace hw := hw.trans (b26.mono hw.size)
      replace f121 := f121.u b26
      replace f_4 := f_4.u b26
      replace f_3 := f_3.u b26
      replace f_2 := f_2.u b26
      replace f52 := f52.u b26
      replace f7 := f7.u b26
      replace f5 := f5.u b26
      replace f6 := f6.u b26
      replace f45 := f45.u b26
      replace f := f.u b26
      replace f_1 := f_1.u b26
      replace f82 := f82.u b26
      replace f_5 := f_5.u b26
      replace f_6 := f_6.u b26
      replace f25 := f25.u b26
      refine wl_storega Try.sizeOf31 rfl rfl (by rfl) (oneCell_of (by rfl)) f25 (by rfl) ?_
      rintro w_8 f_7 g_7 e_7
      have s_7 := g_7.size
      replace hw := hw.trans (below_of_grownBy g_7.g hw.size (by omega))
      replace f_6 := f_6.k g_7.g (ap_some (by omega))
      replace f_5 := f_5.k g_7.g (ap_some (by omega))
      replace f82 := f82.k g_7.g (ap_some (by omega))
      replace f_1 := f_1.k g_7.g (ap_some (by omega))
      replace f := f.k g_7.g (ap_some (by omega))
      replace f45 := f45.k g_7.g (ap_some (by omega))
      replace f6 := f6.k g_7.g (ap_some (by omega))
      replace f5 := f5.k g_7.g (ap_some (by omega))
      replace f7 := f7.k g_7.g (ap_some (by omega))
      replace f52 := f52.k g_7.g (ap_some (by omega))
      replace f_2 := f_2.k g_7.g (ap_some (by omega))
      replace f_3 := f_3.k g_7.g (ap_some (by omega))
      replace f_4 := f_4.k g_7.g (ap_some (by omega))
      replace f121 := f121.k g_7.g (ap_some (by omega))
      replace f26 := f26.k g_7.g (ap_some (by omega))
      clear f25
      refine wl_p (fun _ => o_assign rfl) ?_
      refine wl_stBa Try.sizeOf23 rfl f26 rfl r7 (by rfl) ?_
      rintro w_9 f_8 g_8 e_8
      have s_8 := g_8.size
      replace hw := hw.trans (below_of_grownBy g_8.g hw.size (by omega))
      replace f121 := f121.k g_8.g (ap_some (by omega))
      replace f_4 := f_4.k g_8.g (ap_some (by omega))
      replace f_3 := f_3.k g_8.g (ap_some (by omega))
      replace f_2 := f_2.k g_8.g (ap_some (by omega))
      replace f52 := f52.k g_8.g (ap_some (by omega))
      replace f7 := f7.k g_8.g (ap_some (by omega))
      replace f5 := f5.k g_8.g (ap_some (by omega))
      replace f6 := f6.k g_8.g (ap_some (by omega))
      replace f45 := f45.k g_8.g (ap_some (by omega))
      replace f := f.k g_8.g (ap_some (by omega))
      replace f_1 := f_1.k g_8.g (ap_some (by omega))
      replace f82 := f82.k g_8.g (ap_some (by omega))
      replace f_5 := f_5.k g_8.g (ap_some (by omega))
      replace f_6 := f_6.k g_8.g (ap_some (by omega))
      replace f_7 := f_7.k g_8.g (ap_some (by omega))
      clear f26
      refine wl_p (fun _ => o_assign rfl) ?_
      refine wl_nil ?_
      refine rk_seq ?_
      refine rk_seq ?_
      refine rk_region ?_
      refine wl_p (fun _ => o_move rfl) ?_
      refine wl_p (fun _ => o_ne rfl rfl) ?_
      refine wl_p (fun _ => o_move rfl) ?_
      by_cases he3 : e3 = 0
      · subst he3
        obtain ⟨q1, q2, q3, q4, q5⟩ := readR_back hR3
        have hz : z3 ≤ T.length := by rw [q5, q2, List.length_append]; omega
        refine wl_p (fun _ => o_move rfl) ?_
        refine wl_p (fun _ => o_eq rfl rfl) ?_
        refine wl_p (fun _ => o_pick_f rfl rfl) ?_
        refine wl_nil ?_
        refine rk_if rfl (fun h131 => ?_) (fun h131 => ?_)
        · refine rk_seq ?_
          refine rk_region ?_
          refine wl_p (fun _ => o_move rfl) ?_
          refine wl_p (fun _ => o_ne rfl rfl) ?_
          refine wl_p (fun _ => o_move rfl) ?_
          refine wl_know 134 false rfl (decide_eq_false (by omega)) ?_
          refine wl_p (fun _ => o_move rfl) ?_
          refine wl_p (fun _ => o_eq rfl rfl) ?_
          refine wl_p (fun _ => o_pick_f rfl rfl) ?_
          refine wl_p (fun _ => o_assign rfl) ?_
          refine wl_nil ?_
          refine ret1 rfl rfl ?_
          exact ⟨rfl, hw⟩
        · obtain ⟨b3, hb3⟩ : ∃ b3, bytesR c (k3, p3) = b3 := ⟨_, rfl⟩
          obtain ⟨n3, hn3⟩ : ∃ n3, nextB c (k3, p3) = n3 := ⟨_, rfl⟩
          have n33 : n3.length = 32 := by rw [← hn3]; exact nextB_len _ _
          have hp3 : p3.length ≤ 9000 := by omega
          have hbt : b3 = T.take z3 := by rw [q5, q2, hb3, List.take_left]
          have hne : ¬ (k3, p3) = (k, p) := fun e => by
            rw [e, hb] at q5
            have hq4 : q4 = [] := List.length_eq_zero_iff.1 (by have := congrArg List.length q5; rw [List.length_append, hTl] at this; omega)
            rw [hq4, List.append_nil, ← hT] at q5
            have e2 : (b.set j (b[j] ^^^ u))[j]? = b[j]? := by rw [q5]
            rw [List.getElem?_set_self hjb, List.getElem?_eq_getElem hjb] at e2
            have e3 := (xor_self _ _).1 (Option.some.inj e2)
            rw [e3] at h131
            exact h131 rfl
          refine rk_skip ?_
          refine rk_seq ?_
          refine rk_region ?_
          refine wl_r (o_ldBa Try.isAgg23 Try.sizeOf23 rfl f6 hc) ?_
          refine wl_r (o_loadag Try.isAgg31 Try.sizeOf31 rfl f_7 (by rfl)) ?_
          refine wl_call rfl (C_RecBytesOk _ (by rfl) f121.to_Rd (by omega) hb3 hn3 rfl (by omega) hc) ?_
          rintro v141 w141 ⟨A141, ⟨c141, ⟨rfl, ⟨f141, b141⟩⟩⟩⟩
          have qf141 := f141.cap
          have s141 := b141.size
          replace hw := hw.trans (b141.mono hw.size)
          replace f_7 := f_7.u b141
          replace f_6 := f_6.u b141
          replace f_5 := f_5.u b141
          replace f82 := f82.u b141
          replace f_1 := f_1.u b141
          replace f := f.u b141
          replace f45 := f45.u b141
          replace f6 := f6.u b141
          replace f5 := f5.u b141
          replace f7 := f7.u b141
          replace f52 := f52.u b141
          replace f_2 := f_2.u b141
          replace f_3 := f_3.u b141
          replace f_4 := f_4.u b141
          replace f121 := f121.u b141
          replace f_8 := f_8.u b141
          refine wl_p (fun _ => o_move rfl) ?_
          refine wl_p (fun _ => o_ext30 rfl) ?_
          refine wl_p (fun _ => o_ext31 rfl) ?_
          refine wl_p (fun _ => o_ext32 rfl) ?_
          refine wl_allocB Try.underlying23 Try.zeroValue23 (by rfl) ?_
          rintro g29 w29 f29 b29 i29 i29_1
          have s29 := b29.size
          replace hw := hw.trans (b29.mono hw.size)
          replace f_8 := f_8.u b29
          replace f121 := f121.u b29
          replace f_4 := f_4.u b29
          replace f_3 := f_3.u b29
          replace f_2 := f_2.u b29
          replace f52 := f52.u b29
          replace f7 := f7.u b29
          replace f5 := f5.u b29
          replace f6 := f6.u b29
          replace f45 := f45.u b29
          replace f := f.u b29
          replace f_1 := f_1.u b29
          replace f82 := f82.u b29
          replace f_5 := f_5.u b29
          replace f_6 := f_6.u b29
          replace f_7 := f_7.u b29
          replace f141 := f141.u b29
          refine wl_p (fun _ => o_assign rfl) ?_
          refine wl_stBa Try.sizeOf23 rfl f29 rfl n33 (by rfl) ?_
          rintro w_10 f_9 g_9 e_9
          have s_9 := g_9.size
          replace hw := hw.trans (below_of_grownBy g_9.g hw.size (by omega))
          replace f141 := f141.k g_9.g (ap_some (by omega))
          replace f_7 := f_7.k g_9.g (ap_some (by omega))
          replace f_6 := f_6.k g_9.g (ap_some (by omega))
          replace f_5 := f_5.k g_9.g (ap_some (by omega))
          replace f82 := f82.k g_9.g (ap_some (by omega))
          replace f_1 := f_1.k g_9.g (ap_some (by omega))
          replace f := f.k g_9.g (ap_some (by omega))
          replace f45 := f45.k g_9.g (ap_some (by omega))
          replace f6 := f6.k g_9.g (ap_some (by omega))
          replace f5 := f5.k g_9.g (ap_some (by omega))
          replace f7 := f7.k g_9.g (ap_some (by omega))
          replace f52 := f52.k g_9.g (ap_some (by omega))
          replace f_2 := f_2.k g_9.g (ap_some (by omega))
          replace f_3 := f_3.k g_9.g (ap_some (by omega))
          replace f_4 := f_4.k g_9.g (ap_some (by omega))
          replace f121 := f121.k g_9.g (ap_some (by omega))
          replace f_8 := f_8.k g_9.g (ap_some (by omega))
          clear f29
          refine wl_p (fun _ => o_assign rfl) ?_
          refine wl_nil ?_
          refine rk_seq ?_
          refine rk_draw (id := 20) (none) [0, 1, 2, 4, 12, 4, 4, 100, 132, 276, 516, 1028, 2048, 2048, 14336, 18432, 34816, 131071] [0, 1, 3, 7, 15, 7, 7, 103, 231, 511, 1023, 2047, 4095, 4095, 16383, 32767, 65535, 131071] 16384 0 [(.p, 0), (.p, 1), (.p, 2), (.p, 3), (.r, 4), (.p, 5), (.p, 6), (.p, 7), (.r, 8), (.p, 9), (.p, 10), (.p, 11), (.r, 12), (.r, 13), (.l, 14), (.p, 15), (.p, 16), (.p, 17)] (by kernel_rfl) (by kernel_rfl) (by kernel_rfl) (by kernel_rfl) (by kernel_rfl) ?_
          replace hw := hw.drew
          replace f_8 := f_8.d
          replace f121 := f121.d
          replace f_4 := f_4.d
          replace f_3 := f_3.d
          replace f_2 := f_2.d
          replace f52 := f52.d
          replace f7 := f7.d
          replace f5 := f5.d
          replace f6 := f6.d
          replace f45 := f45.d
          replace f := f.d
          replace f_1 := f_1.d
          replace f82 := f82.d
          replace f_5 := f_5.d
          replace f_6 := f_6.d
          replace f_7 := f_7.d
          replace f141 := f141.d
          replace f_9 := f_9.d
          refine wl_p (fun _ => o_move rfl) ?_
          refine wl_p (fun _ => o_eq rfl rfl) ?_
          refine wl_p (fun _ => o_move rfl) ?_
          refine wl_p (fun _ => o_move rfl) ?_
          refine wl_r (o_strU Try.underlying26 Try.underlying5 Try.underlying9 rfl f141.to_Rd (Below.refl _ _) rfl) ?_
          refine wl_p (fun _ => o_move rfl) ?_
          refine wl_p (fun _ => o_move rfl) ?_
          refine wl_slBh Try.u8 (z3) rfl rfl f_6.to_Rd (by omega) rfl (by omega) (by omega) ?_
          rintro f152
          refine wl_r (o_strU Try.underlying26 Try.underlying5 Try.underlying9 rfl f152 (Below.refl _ _) (by simp; omega)) ?_
          refine wl_p (fun _ => o_seq rfl rfl) ?_
          refine wl_p (fun _ => o_pick_t rfl rfl) ?_
          refine wl_p (fun _ => o_move rfl) ?_
          refine wl_know 156 true rfl (decide_eq_true (by omega)) ?_
          refine wl_r (o_loadag Try.isAgg31 Try.sizeOf31 rfl f_7 (by rfl)) ?_
          refine wl_r (o_loadag Try.isAgg31 Try.sizeOf31 rfl f5 (by rfl)) ?_
          refine wl_call rfl (C_kRecZ _ (by rfl) (by rfl) f121.to_Rd (hp.u hw) rfl rfl) ?_
          rintro v159 w159 ⟨rfl, b159⟩
          simp only [drew_size] at b159
          have s159 := b159.size
          simp only [drew_size] at s159
          replace hw := hw.trans (b159.mono hw.size)
          replace f152 := f152.u b159
          replace f_9 := f_9.u b159
          replace f141 := f141.u b159
          replace f_7 := f_7.u b159
          replace f_6 := f_6.u b159
          replace f_5 := f_5.u b159
          replace f82 := f82.u b159
          replace f_1 := f_1.u b159
          replace f := f.u b159
          replace f45 := f45.u b159
          replace f6 := f6.u b159
          replace f5 := f5.u b159
          replace f7 := f7.u b159
          replace f52 := f52.u b159
          replace f_2 := f_2.u b159
          replace f_3 := f_3.u b159
          replace f_4 := f_4.u b159
          replace f121 := f121.u b159
          replace f_8 := f_8.u b159
          refine wl_p (fun _ => o_not rfl) ?_
          refine wl_p (fun _ => o_pick_t rfl rfl) ?_
          refine wl_p (fun _ => o_assign rfl) ?_
          refine wl_nild ?_
          refine ret1 rfl rfl ?_
          exact ⟨congrArg Value.bool (by rw [decide_eq_false hne]; rfl), hw⟩
      · have hu : u.toNat ≠ 0 := fun h0 => he3 (by
          have e0 : u = 0 := UInt8.toNat_inj.1 (by rw [h0]; rfl)
          rw [e0, UInt8.xor_zero, List.set_getElem_self] at hT
          rw [← hT, r1] at hR3
          simp only [Prod.mk.injEq] at hR3
          exact hR3.2.2.2.symm)
        refine wl_know 128 true rfl (decide_eq_true (by omega)) ?_
        refine wl_off ?_
        refine wl_off ?_
        refine wl_p (fun _ => o_pick_t rfl rfl) ?_
        refine wl_nil ?_
        refine rk_true rfl ?_
        refine rk_seq ?_
        refine rk_region ?_
        refine wl_p (fun _ => o_move rfl) ?_
        refine wl_p (fun _ => o_ne rfl rfl) ?_
        refine wl_p (fun _ => o_move rfl) ?_
        refine wl_know 134 true rfl (decide_eq_true (by omega)) ?_
        refine wl_off ?_
        refine wl_off ?_
        refine wl_p (fun _ => o_pick_t rfl rfl) ?_
        refine wl_p (fun _ => o_assign rfl) ?_
        refine wl_nil ?_
        refine ret1 rfl rfl ?_
        exact ⟨rfl, hw⟩
end Go.Proofs.Ytpjedpmbninfcaa
