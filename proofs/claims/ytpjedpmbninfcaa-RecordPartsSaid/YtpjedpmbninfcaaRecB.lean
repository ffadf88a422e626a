/-
  Walks of package record: how a record begins.
-/
import Derived.Test.YtpjedpmbninfcaaRecA
import Derived.Test.YtpjedpmbninfcaaApz
namespace Go.Proofs.Ytpjedpmbninfcaa
open Go.RowKit
/-- Where a record's Data begins, and its size: Kind, begin, size, error. -/
def startR (b : By) : Nat × Nat × Nat × Nat :=
  if (rWord 1 (b.take 10, 0)).2.2 = 0 ∧ (rWord 1 (b.take 10, 0)).1 = 0 then (0, 0, 0, 4)
  else if (rNumber (rWord 1 (b.take 10, 0)).2).2.2 ≠ 0 then (0, 0, 0, (rNumber (rWord 1 (b.take 10, 0)).2).2.2)
  else if 8192 < (rNumber (rWord 1 (b.take 10, 0)).2).1 then (0, 0, 0, 4)
  else ((rWord 1 (b.take 10, 0)).1, (b.take 10).length - (rNumber (rWord 1 (b.take 10, 0)).2).2.1.length, (rNumber (rWord 1 (b.take 10, 0)).2).1, 0)
theorem P_start {A : Option Addr} {b : By} {n c k f z e : Nat} (w : World) (hb : Rd w A b) (hn : n = b.length) (hc : b.length ≤ c) (hs : startR b = (k, f, z, e)) :
    CallsR Try.prog 24 [.slice A n c] w fun v w' => v = .tuple #[.int .u8 (k : Int), .int .i64 (f : Int), .int .i64 (z : Int), .int .i64 (e : Int)] ∧ Below w.heap.size w w' := by
  subst hn
  obtain ⟨m, hm⟩ : ∃ m : Nat, min (b.length : Int) 10 = m := ⟨min b.length 10, by omega⟩
  have hm2 : b.take m = b.take 10 := by
    rw [List.take_eq_take_iff]; omega
  have hml : (b.take m).length = m := by rw [List.length_take]; omega
  refine callsR Try.func24 rfl rfl (by kernel_rfl) rfl ?_
  have hw := Below.refl w.heap.size w
  refine rk_seq ?_
  refine rk_region ?_
  refine wl_p (fun _ => o_assign rfl) ?_
  refine wl_p (fun _ => o_assign rfl) ?_
  refine wl_p (fun _ => o_assign rfl) ?_
  refine wl_p (fun _ => o_assign rfl) ?_
  refine wl_nil ?_
  refine rk_seq ?_
  refine rk_region ?_
  refine wl_p (fun _ => o_move rfl) ?_
  refine wl_p (fun _ => o_move rfl) ?_
  refine wl_p (fun _ => o_len (t := 26) Try.underlying26 rfl) ?_
  refine wl_p (fun _ => o_min rfl rfl) ?_
  refine wl_slBh Try.u8 (m) rfl rfl hb rfl hm (by omega) (by omega) ?_
  rintro f12
  refine wl_p (fun _ => o_assign rfl) ?_
  refine wl_nil ?_
  refine rk_seq ?_
  refine rk_region ?_
  refine wl_p (fun _ => o_move rfl) ?_
  refine wl_call rfl (C_Read (c) (by omega) _ f12 (by omega)) ?_
  rintro v14 w14 ⟨g14, ⟨rfl, ⟨i14, ⟨i14_1, ⟨i14_2, b14⟩⟩⟩⟩⟩
  have s14 := b14.size
  replace hw := hw.trans (b14.mono hw.size)
  refine wl_p (fun _ => o_assign rfl) ?_
  refine wl_nil ?_
  refine rk_seq ?_
  refine rk_region ?_
  refine wl_p (fun _ => o_move rfl) ?_
  rw [hm]
  have hc16 := C_RWord 1 w14 i14_2
  rw [List.drop_zero] at hc16
  obtain ⟨q1, hq1⟩ : ∃ q1, rWord 1 (b.take 10, 0) = q1 := ⟨_, rfl⟩
  have hk1 : q1.1 ≤ 255 := by
    rw [← hq1]
    have h1 := leVal_lt (rTake (clampN 1) (b.take 10, 0)).1
    have h2 : (rTake (clampN 1) (b.take 10, 0)).1.length ≤ 1 := by
      unfold rTake; (repeat' split) <;> simp [clampN, List.length_take] <;> omega
    have h3 := Nat.pow_le_pow_right (show 0 < 256 by omega) h2
    show leVal _ ≤ 255
    omega
  obtain ⟨k1, l1, e1⟩ := q1
  simp only at hk1
  rw [hm2, hq1] at hc16
  dsimp only at hc16
  have hwr : IntKind.u8.wrap (k1 : Int) = (k1 : Int) := by rw [IntKind.wrap_u8']; omega
  refine wl_call rfl hc16 ?_
  rintro _ w16 ⟨rfl, g16, p1, hR1, hl1⟩
  have hsz16 := g16.size
  replace hw := hw.trans (below_of_grownBy g16 hw.size (by omega))
  clear i14_2 b14 hc16
  refine wl_p (fun _ => o_convi (src := 25) (dst := 5) Try.underlying25 Try.underlying5 rfl) ?_
  refine wl_p (fun _ => o_assign rfl) ?_
  refine wl_nil ?_
  refine rk_seq ?_
  refine rk_seq ?_
  refine rk_region ?_
  refine wl_p (fun _ => o_move rfl) ?_
  rw [hwr]
  refine wl_call rfl (C_RErr w16 hR1) ?_
  rintro _ _ ⟨rfl, rfl⟩
  have hc26 := C_RNumber w16 hR1
  rw [← hl1] at hc26
  obtain ⟨q2, hq2⟩ : ∃ q2, rNumber (l1, e1) = q2 := ⟨_, rfl⟩
  rw [hq2] at hc26
  obtain ⟨n2, l2, e2⟩ := q2
  dsimp only at hc26
  unfold startR at hs
  rw [hq1] at hs
  dsimp only at hs
  rw [hq2] at hs
  dsimp only at hs
  by_cases h0 : (e1 : Int) = 0
  · have h0' : e1 = 0 := by omega
    refine wl_p (fun _ => o_eq rfl rfl) ?_
    refine wl_p (fun _ => o_move rfl) ?_
    refine wl_know 21 true rfl (decide_eq_true (by omega)) ?_
    refine wl_p (fun _ => o_move rfl) ?_
    refine wl_p (fun _ => o_eq rfl rfl) ?_
    refine wl_p (fun _ => o_pick_t rfl rfl) ?_
    refine wl_nil ?_
    rw [decide_eq_true h0]
    refine rk_if rfl (fun h24 => ?_) (fun h24 => ?_)
    · refine rk_seq ?_
      refine rk_region ?_
      refine wl_p (fun _ => o_assign rfl) ?_
      refine wl_p (fun _ => o_assign rfl) ?_
      refine wl_p (fun _ => o_assign rfl) ?_
      refine wl_p (fun _ => o_assign rfl) ?_
      refine wl_nil ?_
      refine ret_any (vs := [.int .u8 0, .int .i64 0, .int .i64 0, .int .i64 4]) rfl (.tmp rfl (.tmp rfl (.tmp rfl (.tmp rfl .nil)))) (by simp) ?_
      have hk0 : k1 = 0 := by omega
      rw [if_pos ⟨h0', hk0⟩] at hs
      cases hs
      exact ⟨rfl, hw⟩
    · rw [if_neg (fun h => by omega)] at hs
      refine rk_skip ?_
      refine rk_seq ?_
      refine rk_region ?_
      refine wl_p (fun _ => o_move rfl) ?_
      refine wl_call rfl hc26 ?_
      rintro _ w26 ⟨rfl, g26, p2, hR2, hl2⟩
      replace hw := hw.trans (below_of_grownBy g26 hw.size (by omega))
      refine wl_p (fun _ => o_assign rfl) ?_
      refine wl_nil ?_
      refine rk_seq ?_
      refine rk_seq ?_
      refine rk_region ?_
      refine wl_p (fun _ => o_move rfl) ?_
      refine wl_call rfl (C_RErr w26 hR2) ?_
      rintro _ _ ⟨rfl, rfl⟩
      refine wl_p (fun _ => o_ne rfl rfl) ?_
      refine wl_nil ?_
      refine rk_if rfl (fun h29 => ?_) (fun h29 => ?_)
      · refine rk_seq ?_
        refine rk_region ?_
        refine wl_p (fun _ => o_move rfl) ?_
        refine wl_call rfl (C_RErr w26 hR2) ?_
        rintro _ _ ⟨rfl, rfl⟩
        refine wl_p (fun _ => o_assign rfl) ?_
        refine wl_p (fun _ => o_assign rfl) ?_
        refine wl_p (fun _ => o_assign rfl) ?_
        refine wl_p (fun _ => o_assign rfl) ?_
        refine wl_nil ?_
        refine ret_any (vs := [.int .u8 0, .int .i64 0, .int .i64 0, .int .i64 (e2 : Int)]) rfl (.tmp rfl (.tmp rfl (.tmp rfl (.tmp rfl .nil)))) (by simp) ?_
        rw [if_pos (show e2 ≠ 0 by omega)] at hs
        cases hs
        exact ⟨rfl, hw⟩
      · rw [if_neg (show ¬ e2 ≠ 0 by omega)] at hs
        refine rk_skip ?_
        refine rk_seq ?_
        refine rk_seq ?_
        refine rk_region ?_
        refine wl_p (fun _ => o_move rfl) ?_
        refine wl_p (fun _ => o_gt rfl rfl) ?_
        refine wl_nil ?_
        refine rk_if rfl (fun h33 => ?_) (fun h33 => ?_)
        · refine rk_seq ?_
          refine rk_region ?_
          refine wl_p (fun _ => o_assign rfl) ?_
          refine wl_p (fun _ => o_assign rfl) ?_
          refine wl_p (fun _ => o_assign rfl) ?_
          refine wl_p (fun _ => o_assign rfl) ?_
          refine wl_nil ?_
          refine ret_any (vs := [.int .u8 0, .int .i64 0, .int .i64 0, .int .i64 4]) rfl (.tmp rfl (.tmp rfl (.tmp rfl (.tmp rfl .nil)))) (by simp) ?_
          rw [if_pos (by omega)] at hs
          cases hs
          exact ⟨rfl, hw⟩
        · rw [if_neg (by omega)] at hs
          refine rk_skip ?_
          refine rk_seq ?_
          refine rk_region ?_
          refine wl_p (fun _ => o_move rfl) ?_
          refine wl_p (fun _ => o_move rfl) ?_
          refine wl_p (fun _ => o_len (t := 26) Try.underlying26 rfl) ?_
          refine wl_p (fun _ => o_move rfl) ?_
          refine wl_call rfl (C_RLeft w26 hR2) ?_
          rintro _ _ ⟨rfl, rfl⟩
          replace hw := hw.drew
          have hdl : l2.length ≤ m := by rw [hl2, List.length_drop, ← hm2, hml]; omega
          have hmt : (b.take 10).length = m := by rw [← hm2, hml]
          rw [← hl2]
          refine wl_p (fun _ => o_sub rfl rfl (by omega) (by omega)) ?_
          refine wl_p (fun _ => o_move rfl) ?_
          refine wl_p (fun _ => o_convi64 (src := 25) (dst := 3) Try.underlying25 Try.underlying3 rfl (by omega) (by omega)) ?_
          refine wl_p (fun _ => o_assign rfl) ?_
          refine wl_p (fun _ => o_assign rfl) ?_
          refine wl_p (fun _ => o_assign rfl) ?_
          refine wl_p (fun _ => o_assign rfl) ?_
          refine wl_nil ?_
          refine ret_any (vs := [.int .u8 (k1 : Int), .int .i64 ((m : Int) - l2.length), .int .i64 (n2 : Int), .int .i64 0]) rfl (.tmp rfl (.tmp rfl (.tmp rfl (.tmp rfl .nil)))) (by simp) ?_
          cases hs
          rw [hmt, Int.ofNat_sub hdl]
          exact ⟨rfl, hw⟩
  · rw [if_neg (fun h => by omega)] at hs
    refine wl_p (fun _ => o_eq rfl rfl) ?_
    refine wl_p (fun _ => o_move rfl) ?_
    refine wl_know 21 false rfl (decide_eq_false (by omega)) ?_
    refine wl_off ?_
    refine wl_off ?_
    refine wl_p (fun _ => o_pick_f rfl rfl) ?_
    refine wl_nil ?_
    refine rk_false rfl ?_
    refine rk_skip ?_
    refine rk_seq ?_
    refine rk_region ?_
    refine wl_p (fun _ => o_move rfl) ?_
    rw [decide_eq_false h0]
    refine wl_call rfl hc26 ?_
    rintro _ w26 ⟨rfl, g26, p2, hR2, hl2⟩
    replace hw := hw.trans (below_of_grownBy g26 hw.size (by omega))
    refine wl_p (fun _ => o_assign rfl) ?_
    refine wl_nil ?_
    refine rk_seq ?_
    refine rk_seq ?_
    refine rk_region ?_
    refine wl_p (fun _ => o_move rfl) ?_
    refine wl_call rfl (C_RErr w26 hR2) ?_
    rintro _ _ ⟨rfl, rfl⟩
    refine wl_p (fun _ => o_ne rfl rfl) ?_
    refine wl_nil ?_
    refine rk_if rfl (fun h29 => ?_) (fun h29 => ?_)
    · refine rk_seq ?_
      refine rk_region ?_
      refine wl_p (fun _ => o_move rfl) ?_
      refine wl_call rfl (C_RErr w26 hR2) ?_
      rintro _ _ ⟨rfl, rfl⟩
      refine wl_p (fun _ => o_assign rfl) ?_
      refine wl_p (fun _ => o_assign rfl) ?_
      refine wl_p (fun _ => o_assign rfl) ?_
      refine wl_p (fun _ => o_assign rfl) ?_
      refine wl_nil ?_
      refine ret_any (vs := [.int .u8 0, .int .i64 0, .int .i64 0, .int .i64 (e2 : Int)]) rfl (.tmp rfl (.tmp rfl (.tmp rfl (.tmp rfl .nil)))) (by simp) ?_
      rw [if_pos (show e2 ≠ 0 by omega)] at hs
      cases hs
      exact ⟨rfl, hw⟩
    · exfalso
      rw [rNumber_err (by omega)] at hq2
      cases hq2
      omega
/-- Where a record's Data begins; kept closed. -/
structure StartR (b : By) (k f z e : Nat) : Prop where
  eq : startR b = (k, f, z, e)
theorem C_startR {A : Option Addr} {b : By} {n c k f z e : Nat} (w : World) (hs : StartR b k f z e) (hb : Rd w A b) (hn : n = b.length) (hc : b.length ≤ c) :
    CallsR Try.prog 24 [.slice A n c] w fun v w' => v = .tuple #[.int .u8 (k : Int), .int .i64 (f : Int), .int .i64 (z : Int), .int .i64 (e : Int)] ∧ Below w.heap.size w w' := P_start w hb hn hc hs.eq
end Go.Proofs.Ytpjedpmbninfcaa
