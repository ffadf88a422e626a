/-
  Walks of package leaf: keys, their order.
-/
import Derived.Test.YtchcpnfafgiifaaOctB
import Derived.Test.YtchcpnfafgiifaaGo
import Derived.Test.YtchcpnfafgiifaaStr
namespace Go.Proofs.Ytchcpnfafgiifaa
open Go.RowKit

theorem C_isNaNb (n : Int) (w : World) : CallsR Try.prog 33 [.int .u8 n] w fun v w' => v = .bool false ∧ w' = w := by
  refine callsR Try.func33 rfl rfl (by kernel_rfl) rfl ?_
  refine rk_seq ?_
  refine rk_region ?_
  refine wl_p (fun _ => o_assign rfl) ?_
  refine wl_nil ?_
  refine rk_seq ?_
  refine rk_region ?_
  refine wl_p (fun _ => o_move rfl) ?_
  refine wl_p (fun _ => o_move rfl) ?_
  refine wl_p (fun _ => o_ne rfl rfl) ?_
  refine wl_p (fun _ => o_assign rfl) ?_
  refine wl_nil ?_
  refine ret1 rfl rfl ?_
  exact ⟨by simp, rfl⟩
theorem C_isNaNi (n : Int) (w : World) : CallsR Try.prog 34 [.int .i64 n] w fun v w' => v = .bool false ∧ w' = w := by
  refine callsR Try.func34 rfl rfl (by kernel_rfl) rfl ?_
  refine rk_seq ?_
  refine rk_region ?_
  refine wl_p (fun _ => o_assign rfl) ?_
  refine wl_nil ?_
  refine rk_seq ?_
  refine rk_region ?_
  refine wl_p (fun _ => o_move rfl) ?_
  refine wl_p (fun _ => o_move rfl) ?_
  refine wl_p (fun _ => o_ne rfl rfl) ?_
  refine wl_p (fun _ => o_assign rfl) ?_
  refine wl_nil ?_
  refine ret1 rfl rfl ?_
  exact ⟨by simp, rfl⟩
def cmpZ (m n : Int) : Int := if m < n then -1 else if n < m then 1 else 0
theorem C_cmpb (m n : Int) (w : World) : CallsR Try.prog 18 [.int .u8 m, .int .u8 n] w fun v w' => v = .int .i64 (cmpZ m n) ∧ w' = w := by
  refine callsR Try.func18 rfl rfl (by kernel_rfl) rfl ?_
  refine rk_seq ?_
  refine rk_region ?_
  refine wl_p (fun _ => o_assign rfl) ?_
  refine wl_nil ?_
  refine rk_seq ?_
  refine rk_region ?_
  refine wl_p (fun _ => o_move rfl) ?_
  refine wl_call rfl (C_isNaNb _ _) ?_
  rintro v8 w8 ⟨rfl, rfl⟩
  refine wl_p (fun _ => o_assign rfl) ?_
  refine wl_nil ?_
  refine rk_seq ?_
  refine rk_region ?_
  refine wl_p (fun _ => o_move rfl) ?_
  refine wl_call rfl (C_isNaNb _ _) ?_
  rintro v10 w10 ⟨rfl, rfl⟩
  refine wl_p (fun _ => o_assign rfl) ?_
  refine wl_nil ?_
  refine rk_seq ?_
  refine rk_seq ?_
  refine rk_region ?_
  refine wl_p (fun _ => o_move rfl) ?_
  refine wl_nil ?_
  refine rk_false rfl ?_
  refine rk_skip ?_
  refine rk_seq ?_
  refine rk_seq ?_
  refine rk_region ?_
  refine wl_p (fun _ => o_move rfl) ?_
  refine wl_nil ?_
  refine rk_false rfl ?_
  refine rk_skip ?_
  refine rk_seq ?_
  refine rk_seq ?_
  refine rk_region ?_
  refine wl_p (fun _ => o_move rfl) ?_
  refine wl_p (fun _ => o_move rfl) ?_
  refine wl_p (fun _ => o_lt rfl rfl) ?_
  refine wl_nil ?_
  refine rk_if rfl (fun h16 => ?_) (fun h16 => ?_)
  · refine rk_seq ?_
    refine rk_region ?_
    refine wl_p (fun _ => o_assign rfl) ?_
    refine wl_nil ?_
    refine ret1 rfl rfl ?_
    exact ⟨by simp [cmpZ, h16], rfl⟩
  · refine rk_skip ?_
    refine rk_seq ?_
    refine rk_seq ?_
    refine rk_region ?_
    refine wl_p (fun _ => o_move rfl) ?_
    refine wl_p (fun _ => o_move rfl) ?_
    refine wl_p (fun _ => o_gt rfl rfl) ?_
    refine wl_nil ?_
    refine rk_if rfl (fun h19 => ?_) (fun h19 => ?_)
    · refine rk_seq ?_
      refine rk_region ?_
      refine wl_p (fun _ => o_assign rfl) ?_
      refine wl_nil ?_
      refine ret1 rfl rfl ?_
      exact ⟨by simp [cmpZ, h16, h19], rfl⟩
    · refine rk_skip ?_
      refine rk_seq ?_
      refine rk_region ?_
      refine wl_p (fun _ => o_assign rfl) ?_
      refine wl_nil ?_
      refine ret1 rfl rfl ?_
      exact ⟨by simp [cmpZ, h16, h19], rfl⟩
theorem C_cmpi (m n : Int) (w : World) : CallsR Try.prog 19 [.int .i64 m, .int .i64 n] w fun v w' => v = .int .i64 (cmpZ m n) ∧ w' = w := by
  refine callsR Try.func19 rfl rfl (by kernel_rfl) rfl ?_
  refine rk_seq ?_
  refine rk_region ?_
  refine wl_p (fun _ => o_assign rfl) ?_
  refine wl_nil ?_
  refine rk_seq ?_
  refine rk_region ?_
  refine wl_p (fun _ => o_move rfl) ?_
  refine wl_call rfl (C_isNaNi _ _) ?_
  rintro v8 w8 ⟨rfl, rfl⟩
  refine wl_p (fun _ => o_assign rfl) ?_
  refine wl_nil ?_
  refine rk_seq ?_
  refine rk_region ?_
  refine wl_p (fun _ => o_move rfl) ?_
  refine wl_call rfl (C_isNaNi _ _) ?_
  rintro v10 w10 ⟨rfl, rfl⟩
  refine wl_p (fun _ => o_assign rfl) ?_
  refine wl_nil ?_
  refine rk_seq ?_
  refine rk_seq ?_
  refine rk_region ?_
  refine wl_p (fun _ => o_move rfl) ?_
  refine wl_nil ?_
  refine rk_false rfl ?_
  refine rk_skip ?_
  refine rk_seq ?_
  refine rk_seq ?_
  refine rk_region ?_
  refine wl_p (fun _ => o_move rfl) ?_
  refine wl_nil ?_
  refine rk_false rfl ?_
  refine rk_skip ?_
  refine rk_seq ?_
  refine rk_seq ?_
  refine rk_region ?_
  refine wl_p (fun _ => o_move rfl) ?_
  refine wl_p (fun _ => o_move rfl) ?_
  refine wl_p (fun _ => o_lt rfl rfl) ?_
  refine wl_nil ?_
  refine rk_if rfl (fun h16 => ?_) (fun h16 => ?_)
  · refine rk_seq ?_
    refine rk_region ?_
    refine wl_p (fun _ => o_assign rfl) ?_
    refine wl_nil ?_
    refine ret1 rfl rfl ?_
    exact ⟨by simp [cmpZ, h16], rfl⟩
  · refine rk_skip ?_
    refine rk_seq ?_
    refine rk_seq ?_
    refine rk_region ?_
    refine wl_p (fun _ => o_move rfl) ?_
    refine wl_p (fun _ => o_move rfl) ?_
    refine wl_p (fun _ => o_gt rfl rfl) ?_
    refine wl_nil ?_
    refine rk_if rfl (fun h19 => ?_) (fun h19 => ?_)
    · refine rk_seq ?_
      refine rk_region ?_
      refine wl_p (fun _ => o_assign rfl) ?_
      refine wl_nil ?_
      refine ret1 rfl rfl ?_
      exact ⟨by simp [cmpZ, h16, h19], rfl⟩
    · refine rk_skip ?_
      refine rk_seq ?_
      refine rk_region ?_
      refine wl_p (fun _ => o_assign rfl) ?_
      refine wl_nil ?_
      refine ret1 rfl rfl ?_
      exact ⟨by simp [cmpZ, h16, h19], rfl⟩

theorem cmpL_at : ∀ (i : Nat) (a b : List UInt8) (hi : i < a.length) (hj : i < b.length), a.take i = b.take i → a[i] ≠ b[i] → cmpL a b = cmpZ a[i].toNat b[i].toNat
  | 0, x :: a, y :: b, _, _, _, h => by
    simp only [List.getElem_cons_zero] at h ⊢
    have h3 : x.toNat ≠ y.toNat := fun e => h (UInt8.toNat_inj.1 e)
    simp only [cmpL, if_neg h, cmpZ]
    rcases Nat.lt_or_gt_of_ne h3 with h4 | h4
    · rw [if_pos h4, if_pos (by omega)]
    · rw [if_neg (by omega), if_neg (by omega), if_pos (by omega)]
  | i + 1, x :: a, y :: b, hi, hj, ht, h => by
    simp only [List.take_succ_cons, List.cons.injEq] at ht
    simp only [List.getElem_cons_succ] at h ⊢
    simp only [List.length_cons, Nat.add_lt_add_iff_right] at hi hj
    rw [← cmpL_at i a b hi hj ht.2 h]
    simp [cmpL, ht.1]
  | _, [], _, hi, _, _, _ => by simp at hi
  | _, _ :: _, [], _, hj, _, _ => by simp at hj
theorem cmpL_end : ∀ (a b : List UInt8), a.take (min a.length b.length) = b.take (min a.length b.length) → cmpL a b = cmpZ a.length b.length
  | [], [], _ => by simp [cmpL, cmpZ]
  | [], _ :: _, _ => by simp only [cmpL, cmpZ, List.length_nil, List.length_cons]; rw [if_pos (by omega)]
  | _ :: _, [], _ => by simp only [cmpL, cmpZ, List.length_nil, List.length_cons]; rw [if_neg (by omega), if_pos (by omega)]
  | x :: a, y :: b, h => by
    simp only [List.length_cons] at h
    rw [show min (a.length + 1) (b.length + 1) = min a.length b.length + 1 by omega, List.take_succ_cons, List.take_succ_cons, List.cons.injEq] at h
    simp only [cmpL, h.1, if_true, cmpL_end a b h.2, cmpZ, List.length_cons]
    congr 1
    · simp
    · congr 1; simp
theorem C_leafKey {A : Option Addr} {n c : Nat} (w : World) (hn : n ≤ 4000000000) : CallsR Try.prog 14 [.slice A n c] w fun v w' => v = .bool (decide (1 ≤ n ∧ n ≤ 16)) ∧ w' = w := by
  refine callsR Try.func14 rfl rfl (by kernel_rfl) rfl ?_
  refine rk_seq ?_
  refine rk_region ?_
  refine wl_p (fun _ => o_assign rfl) ?_
  refine wl_nil ?_
  refine rk_seq ?_
  refine rk_region ?_
  refine wl_p (fun _ => o_move rfl) ?_
  refine wl_p (fun _ => o_len (t := 27) Try.underlying27 rfl) ?_
  refine wl_p (fun _ => o_ge rfl rfl) ?_
  refine wl_p (fun _ => o_move rfl) ?_
  refine wl_bool 6 rfl (fun h6 => ?_) (fun h6 => ?_) <;> try simp only [decide_eq_true_eq, decide_eq_false_iff_not, Bool.not_eq_true', Bool.not_eq_false', Bool.and_eq_true, Bool.and_eq_false_iff, Bool.or_eq_true, Bool.or_eq_false_iff] at h6
  · refine wl_p (fun _ => o_move rfl) ?_
    refine wl_p (fun _ => o_len (t := 27) Try.underlying27 rfl) ?_
    refine wl_p (fun _ => o_le rfl rfl) ?_
    refine wl_p (fun _ => o_pick_t rfl rfl) ?_
    refine wl_p (fun _ => o_assign rfl) ?_
    refine wl_nil ?_
    refine ret1 rfl rfl ?_
    refine ⟨congrArg Value.bool ?_, rfl⟩
    refine Bool.eq_iff_iff.2 ?_
    simp only [if_true, decide_eq_true_eq]
    omega
  · refine wl_off ?_
    refine wl_off ?_
    refine wl_off ?_
    refine wl_p (fun _ => o_pick_f rfl rfl) ?_
    refine wl_p (fun _ => o_assign rfl) ?_
    refine wl_nil ?_
    refine ret1 rfl rfl ?_
    refine ⟨congrArg Value.bool ?_, rfl⟩
    symm
    refine decide_eq_false ?_
    omega
theorem C_leafValue {A : Option Addr} {n c : Nat} (w : World) (hn : n ≤ 4000000000) : CallsR Try.prog 15 [.slice A n c] w fun v w' => v = .bool (decide (n ≤ 32)) ∧ w' = w := by
  refine callsR Try.func15 rfl rfl (by kernel_rfl) rfl ?_
  refine rk_seq ?_
  refine rk_region ?_
  refine wl_p (fun _ => o_assign rfl) ?_
  refine wl_nil ?_
  refine rk_seq ?_
  refine rk_region ?_
  refine wl_p (fun _ => o_move rfl) ?_
  refine wl_p (fun _ => o_len (t := 27) Try.underlying27 rfl) ?_
  refine wl_p (fun _ => o_le rfl rfl) ?_
  refine wl_p (fun _ => o_assign rfl) ?_
  refine wl_nil ?_
  refine ret1 rfl rfl ?_
  refine ⟨congrArg Value.bool ?_, rfl⟩
  refine decide_eq_decide.2 ?_
  omega
theorem C_leafCompare {A B : Option Addr} {a b : List UInt8} {n m c d : Nat} (w : World) (hra : Rd w A a) (hrb : Rd w B b) (hn : n = a.length) (hm : m = b.length) (hla : a.length ≤ 4000000000) (hlb : b.length ≤ 4000000000) :
    CallsR Try.prog 10 [.slice A n c, .slice B m d] w fun v w' => v = .int .i64 (cmpL a b) ∧ Below w.heap.size w w' := by
  subst hn; subst hm
  refine callsR Try.func10 rfl rfl (by kernel_rfl) rfl ?_
  have hw := Below.refl w.heap.size w
  refine rk_seq ?_
  refine rk_region ?_
  refine wl_p (fun _ => o_assign rfl) ?_
  refine wl_nil ?_
  refine rk_seq ?_
  refine rk_seq ?_
  refine rk_region ?_
  refine wl_p (fun _ => o_move rfl) ?_
  refine wl_p (fun _ => o_len (t := 27) Try.underlying27 rfl) ?_
  refine wl_p (fun _ => o_move rfl) ?_
  refine wl_p (fun _ => o_len (t := 27) Try.underlying27 rfl) ?_
  refine wl_p (fun _ => o_min rfl rfl) ?_
  refine wl_p (fun _ => o_move rfl) ?_
  refine wl_nil ?_
  refine rk_block ?_
  refine rk_joinf (fun fb fr w2 => fr = [] ++ fb.drop 1 ∧ a.take (min a.length b.length) = b.take (min a.length b.length) ∧ Below w.heap.size w w2) ?_ (fun ks hj => ?_)
  rotate_left
  · refine rk_loopf (fun fb m fr w2 => ∃ (i : Nat) (v : Int), fr = [(12, .int .i64 v)] ++ fb ∧ v = i ∧ i ≤ min a.length b.length ∧ m = min a.length b.length - i ∧ a.take i = b.take i ∧ Below w.heap.size w w2) (n := min a.length b.length) (Fr.le_of (by kernel_rfl) (by kernel_rfl) (by repeat' constructor)) ⟨0, _, rfl, rfl, by omega, rfl, rfl, hw⟩ ?_
    clear hw
    rintro m fr w2 ⟨i, v, rfl, rfl, hi, rfl, ht, hw⟩
    first | refine rk_frame (by simp only [List.cons_append, List.nil_append, List.drop_succ_cons, List.drop_zero]; rfl) ?_ | refine wl_frame (by simp only [List.cons_append, List.nil_append, List.drop_succ_cons, List.drop_zero]; rfl) ?_
    refine rk_seq ?_
    refine rk_region ?_
    refine wl_p (fun _ => o_lt rfl rfl) ?_
    refine wl_nil ?_
    refine rk_seq ?_
    refine rk_if rfl (fun h13 => ?_) (fun h13 => ?_)
    · have hia : i < a.length := by omega
      have hib : i < b.length := by omega
      refine rk_skip ?_
      refine rk_seq ?_
      refine rk_block ?_
      refine rk_seq ?_
      refine rk_region ?_
      refine wl_p (fun _ => o_move rfl) ?_
      refine wl_p (fun _ => o_assign rfl) ?_
      refine wl_nil ?_
      refine rk_seq ?_
      refine rk_draw (id := 4) (none) [0, 0, 3, 4, 0, 0, 48, 64, 136, 511] [0, 0, 3, 7, 0, 0, 48, 112, 255, 511] 256 0 [(.p, 0), (.p, 1), (.p, 2), (.r, 3), (.p, 4), (.p, 5), (.p, 6), (.r, 7), (.l, 8), (.p, 9)] (by kernel_rfl) (by kernel_rfl) (by kernel_rfl) (by kernel_rfl) (by kernel_rfl) ?_
      replace hw := hw.drew
      refine wl_p (fun _ => o_move rfl) ?_
      refine wl_p (fun _ => o_move rfl) ?_
      refine wl_p (fun _ => (o_iaddrA1 (i) Try.underlying27 Try.sizeOf5 rfl rfl rfl (Reads.some_ hra.to_Reads (by decide) (by omega)) (by omega))) ?_
      refine wl_r (o_loadB Try.isAgg5 rfl (hra.u hw) (by omega)) ?_
      refine wl_p (fun _ => o_move rfl) ?_
      refine wl_p (fun _ => o_move rfl) ?_
      refine wl_p (fun _ => (o_iaddrA1 (i) Try.underlying27 Try.sizeOf5 rfl rfl rfl (Reads.some_ hrb.to_Reads (by decide) (by omega)) (by omega))) ?_
      refine wl_r (o_loadB Try.isAgg5 rfl (hrb.u hw) (by omega)) ?_
      refine wl_call rfl (C_cmpb _ _ _) ?_
      rintro v23 w23 ⟨rfl, rfl⟩
      refine wl_p (fun _ => o_assign rfl) ?_
      refine wl_nild ?_
      refine rk_seq ?_
      refine rk_region ?_
      refine wl_p (fun _ => o_move rfl) ?_
      refine wl_p (fun _ => o_ne rfl rfl) ?_
      refine wl_nil ?_
      refine rk_if rfl (fun h25 => ?_) (fun h25 => ?_)
      · have hne : a[i] ≠ b[i] := fun e => by rw [e] at h25; simp [cmpZ] at h25
        refine rk_seq ?_
        refine rk_region ?_
        refine wl_p (fun _ => o_move rfl) ?_
        refine wl_p (fun _ => o_assign rfl) ?_
        refine wl_nil ?_
        refine ret1 rfl rfl ?_
        exact ⟨by rw [cmpL_at i a b hia hib ht hne], hw⟩
      · have he : a[i] = b[i] := by
          have h3 : (a[i].toNat : Int) = b[i].toNat := by unfold cmpZ at h25; split at h25 <;> (try split at h25) <;> omega
          exact UInt8.toNat_inj.1 (by omega)
        refine rk_skip ?_
        refine rk_blk ?_
        refine rk_region ?_
        refine wl_p (fun _ => o_add rfl rfl (by omega) (by omega)) ?_
        refine wl_p (fun _ => o_move rfl) ?_
        refine wl_nil ?_
        exact rk_againf (Fr.le_of (by kernel_rfl) (by kernel_rfl) (by repeat' constructor)) ⟨i + 1, (i : Int) + 1, rfl, by omega, by omega, rfl, by rw [List.take_succ_eq_append_getElem hia, List.take_succ_eq_append_getElem hib, ht, he], hw⟩ (by omega)
    · have e : i = min a.length b.length := by omega
      rw [e] at ht
      refine rk_exit rfl ?_
      exact rk_tof hj (Fr.le_of (by kernel_rfl) (by kernel_rfl) (by repeat' constructor)) ⟨rfl, ht, hw⟩
  clear hw
  rintro fr w2 ⟨rfl, ht, hw⟩
  first | refine rk_frame (by simp only [List.cons_append, List.nil_append, List.drop_succ_cons, List.drop_zero]; rfl) ?_ | refine wl_frame (by simp only [List.cons_append, List.nil_append, List.drop_succ_cons, List.drop_zero]; rfl) ?_
  refine rk_seq ?_
  refine rk_region ?_
  refine wl_p (fun _ => o_move rfl) ?_
  refine wl_p (fun _ => o_len (t := 27) Try.underlying27 rfl) ?_
  refine wl_p (fun _ => o_move rfl) ?_
  refine wl_p (fun _ => o_len (t := 27) Try.underlying27 rfl) ?_
  refine wl_call rfl (C_cmpi _ _ _) ?_
  rintro v32 w32 ⟨rfl, rfl⟩
  refine wl_p (fun _ => o_assign rfl) ?_
  refine wl_nil ?_
  refine ret1 rfl rfl ?_
  exact ⟨by rw [cmpL_end a b ht], hw⟩
end Go.Proofs.Ytchcpnfafgiifaa
