/-
  Walks of package leaf: keys, their order.
-/
import Derived.Test.YtahkeoegbjopfaaGreatMg2
import Derived.Laws.OwnMore
import Derived.Laws.Externs
import Derived.Lib.Bytealg
import Derived.Lib.SlBytesConst
namespace Go.Proofs.YtahkeoegbjopfaaGreat
set_option maxRecDepth 100000
open Go.RowKit

theorem C_isNaNb (n : Int) (w : World) : CallsR Tryz.prog 126 [.int .u8 n] w fun v w' => v = .bool false ∧ w' = w := by
 refine callsR Tryz.func126 rfl rfl (by kernel_rfl) rfl ?_
 refine rk_seq ?_
 refine rk_region ?_
 refine wl_p (fun _ => o_assign rfl) ?_
 refine wl_nil ?_
 refine rk_seq ?_
 refine rk_region ?_
 refine wl_p (fun _ => o_move rfl) ?_
 refine wl_p (fun _ => o_move rfl) ?_
 refine wl_p (fun _ => o_ne rfl rfl) ?_
 refine wl_p (fun _ => o_assign rfl) ?_
 refine wl_nil ?_
 refine ret1 rfl rfl ?_
 exact ⟨by simp, rfl⟩
theorem C_isNaNi (n : Int) (w : World) : CallsR Tryz.prog 127 [.int .i64 n] w fun v w' => v = .bool false ∧ w' = w := by
 refine callsR Tryz.func127 rfl rfl (by kernel_rfl) rfl ?_
 refine rk_seq ?_
 refine rk_region ?_
 refine wl_p (fun _ => o_assign rfl) ?_
 refine wl_nil ?_
 refine rk_seq ?_
 refine rk_region ?_
 refine wl_p (fun _ => o_move rfl) ?_
 refine wl_p (fun _ => o_move rfl) ?_
 refine wl_p (fun _ => o_ne rfl rfl) ?_
 refine wl_p (fun _ => o_assign rfl) ?_
 refine wl_nil ?_
 refine ret1 rfl rfl ?_
 exact ⟨by simp, rfl⟩
def cmpZ (m n : Int) : Int := if m < n then -1 else if n < m then 1 else 0
theorem C_cmpb (m n : Int) (w : World) : CallsR Tryz.prog 86 [.int .u8 m, .int .u8 n] w fun v w' => v = .int .i64 (cmpZ m n) ∧ w' = w := by
 refine callsR Tryz.func86 rfl rfl (by kernel_rfl) rfl ?_
 refine rk_seq ?_
 refine rk_region ?_
 refine wl_p (fun _ => o_assign rfl) ?_
 refine wl_nil ?_
 refine rk_seq ?_
 refine rk_region ?_
 refine wl_p (fun _ => o_move rfl) ?_
 refine wl_call rfl (C_isNaNb _ _) ?_
 rintro v8 w8 ⟨rfl, rfl⟩
 refine wl_p (fun _ => o_assign rfl) ?_
 refine wl_nil ?_
 refine rk_seq ?_
 refine rk_region ?_
 refine wl_p (fun _ => o_move rfl) ?_
 refine wl_call rfl (C_isNaNb _ _) ?_
 rintro v10 w10 ⟨rfl, rfl⟩
 refine wl_p (fun _ => o_assign rfl) ?_
 refine wl_nil ?_
 refine rk_seq ?_
 refine rk_seq ?_
 refine rk_region ?_
 refine wl_p (fun _ => o_move rfl) ?_
 refine wl_nil ?_
 refine rk_false rfl ?_
 refine rk_skip ?_
 refine rk_seq ?_
 refine rk_seq ?_
 refine rk_region ?_
 refine wl_p (fun _ => o_move rfl) ?_
 refine wl_nil ?_
 refine rk_false rfl ?_
 refine rk_skip ?_
 refine rk_seq ?_
 refine rk_seq ?_
 refine rk_region ?_
 refine wl_p (fun _ => o_move rfl) ?_
 refine wl_p (fun _ => o_move rfl) ?_
 refine wl_p (fun _ => o_lt rfl rfl) ?_
 refine wl_nil ?_
 refine rk_if rfl (fun h16 => ?_) (fun h16 => ?_)
 ·refine rk_seq ?_
  refine rk_region ?_
  refine wl_p (fun _ => o_assign rfl) ?_
  refine wl_nil ?_
  refine ret1 rfl rfl ?_
  exact ⟨by simp [cmpZ, h16], rfl⟩
 ·refine rk_skip ?_
  refine rk_seq ?_
  refine rk_seq ?_
  refine rk_region ?_
  refine wl_p (fun _ => o_move rfl) ?_
  refine wl_p (fun _ => o_move rfl) ?_
  refine wl_p (fun _ => o_gt rfl rfl) ?_
  refine wl_nil ?_
  refine rk_if rfl (fun h19 => ?_) (fun h19 => ?_)
  ·refine rk_seq ?_
   refine rk_region ?_
   refine wl_p (fun _ => o_assign rfl) ?_
   refine wl_nil ?_
   refine ret1 rfl rfl ?_
   exact ⟨by simp [cmpZ, h16, h19], rfl⟩
  ·refine rk_skip ?_
   refine rk_seq ?_
   refine rk_region ?_
   refine wl_p (fun _ => o_assign rfl) ?_
   refine wl_nil ?_
   refine ret1 rfl rfl ?_
   exact ⟨by simp [cmpZ, h16, h19], rfl⟩
theorem C_cmpi (m n : Int) (w : World) : CallsR Tryz.prog 87 [.int .i64 m, .int .i64 n] w fun v w' => v = .int .i64 (cmpZ m n) ∧ w' = w := by
 refine callsR Tryz.func87 rfl rfl (by kernel_rfl) rfl ?_
 refine rk_seq ?_
 refine rk_region ?_
 refine wl_p (fun _ => o_assign rfl) ?_
 refine wl_nil ?_
 refine rk_seq ?_
 refine rk_region ?_
 refine wl_p (fun _ => o_move rfl) ?_
 refine wl_call rfl (C_isNaNi _ _) ?_
 rintro v8 w8 ⟨rfl, rfl⟩
 refine wl_p (fun _ => o_assign rfl) ?_
 refine wl_nil ?_
 refine rk_seq ?_
 refine rk_region ?_
 refine wl_p (fun _ => o_move rfl) ?_
 refine wl_call rfl (C_isNaNi _ _) ?_
 rintro v10 w10 ⟨rfl, rfl⟩
 refine wl_p (fun _ => o_assign rfl) ?_
 refine wl_nil ?_
 refine rk_seq ?_
 refine rk_seq ?_
 refine rk_region ?_
 refine wl_p (fun _ => o_move rfl) ?_
 refine wl_nil ?_
 refine rk_false rfl ?_
 refine rk_skip ?_
 refine rk_seq ?_
 refine rk_seq ?_
 refine rk_region ?_
 refine wl_p (fun _ => o_move rfl) ?_
 refine wl_nil ?_
 refine rk_false rfl ?_
 refine rk_skip ?_
 refine rk_seq ?_
 refine rk_seq ?_
 refine rk_region ?_
 refine wl_p (fun _ => o_move rfl) ?_
 refine wl_p (fun _ => o_move rfl) ?_
 refine wl_p (fun _ => o_lt rfl rfl) ?_
 refine wl_nil ?_
 refine rk_if rfl (fun h16 => ?_) (fun h16 => ?_)
 ·refine rk_seq ?_
  refine rk_region ?_
  refine wl_p (fun _ => o_assign rfl) ?_
  refine wl_nil ?_
  refine ret1 rfl rfl ?_
  exact ⟨by simp [cmpZ, h16], rfl⟩
 ·refine rk_skip ?_
  refine rk_seq ?_
  refine rk_seq ?_
  refine rk_region ?_
  refine wl_p (fun _ => o_move rfl) ?_
  refine wl_p (fun _ => o_move rfl) ?_
  refine wl_p (fun _ => o_gt rfl rfl) ?_
  refine wl_nil ?_
  refine rk_if rfl (fun h19 => ?_) (fun h19 => ?_)
  ·refine rk_seq ?_
   refine rk_region ?_
   refine wl_p (fun _ => o_assign rfl) ?_
   refine wl_nil ?_
   refine ret1 rfl rfl ?_
   exact ⟨by simp [cmpZ, h16, h19], rfl⟩
  ·refine rk_skip ?_
   refine rk_seq ?_
   refine rk_region ?_
   refine wl_p (fun _ => o_assign rfl) ?_
   refine wl_nil ?_
   refine ret1 rfl rfl ?_
   exact ⟨by simp [cmpZ, h16, h19], rfl⟩

theorem cmpL_at : ∀ (i : Nat) (a b : List UInt8) (hi : i < a.length) (hj : i < b.length), a.take i = b.take i → a[i] ≠ b[i] → cmpL a b = cmpZ a[i].toNat b[i].toNat
 | 0, x :: a, y :: b, _, _, _, h => by
  simp only [List.getElem_cons_zero] at h ⊢
  have h3 : x.toNat ≠ y.toNat := fun e => h (UInt8.toNat_inj.1 e)
  simp only [cmpL, if_neg h, cmpZ]
  rcases Nat.lt_or_gt_of_ne h3 with h4 | h4
  ·rw [if_pos h4, if_pos (by omega)]
  ·rw [if_neg (by omega), if_neg (by omega), if_pos (by omega)]
 | i + 1, x :: a, y :: b, hi, hj, ht, h => by
  simp only [List.take_succ_cons, List.cons.injEq] at ht
  simp only [List.getElem_cons_succ] at h ⊢
  simp only [List.length_cons, Nat.add_lt_add_iff_right] at hi hj
  rw [← cmpL_at i a b hi hj ht.2 h]
  simp [cmpL, ht.1]
 | _, [], _, hi, _, _, _ => by simp at hi
 | _, _ :: _, [], _, hj, _, _ => by simp at hj
theorem cmpL_end : ∀ (a b : List UInt8), a.take (min a.length b.length) = b.take (min a.length b.length) → cmpL a b = cmpZ a.length b.length
 | [], [], _ => by simp [cmpL, cmpZ]
 | [], _ :: _, _ => by simp only [cmpL, cmpZ, List.length_nil, List.length_cons]; rw [if_pos (by omega)]
 | _ :: _, [], _ => by simp only [cmpL, cmpZ, List.length_nil, List.length_cons]; rw [if_neg (by omega), if_pos (by omega)]
 | x :: a, y :: b, h => by
  simp only [List.length_cons] at h
  rw [show min (a.length + 1) (b.length + 1) = min a.length b.length + 1 by omega, List.take_succ_cons, List.take_succ_cons, List.cons.injEq] at h
  simp only [cmpL, h.1, if_true, cmpL_end a b h.2, cmpZ, List.length_cons]
  congr 1
  ·simp
  ·congr 1; simp
theorem C_leafKey {A : Option Addr} {n c : Nat} (w : World) (hn : n ≤ 4000000000) : CallsR Tryz.prog 43 [.slice A n c] w fun v w' => v = .bool (decide (1 ≤ n ∧ n ≤ 16)) ∧ w' = w := by
 refine callsR Tryz.func43 rfl rfl (by kernel_rfl) rfl ?_
 refine rk_seq ?_
 refine rk_region ?_
 refine wl_p (fun _ => o_assign rfl) ?_
 refine wl_nil ?_
 refine rk_seq ?_
 refine rk_region ?_
 refine wl_p (fun _ => o_move rfl) ?_
 refine wl_p (fun _ => o_len (t := 39) Tryz.underlying39 rfl) ?_
 refine wl_p (fun _ => o_ge rfl rfl) ?_
 refine wl_p (fun _ => o_move rfl) ?_
 refine wl_bool 6 rfl (fun h6 => ?_) (fun h6 => ?_) <;> try simp only [decide_eq_true_eq, decide_eq_false_iff_not, Bool.not_eq_true', Bool.not_eq_false', Bool.and_eq_true, Bool.and_eq_false_iff, Bool.or_eq_true, Bool.or_eq_false_iff] at h6
 ·refine wl_p (fun _ => o_move rfl) ?_
  refine wl_p (fun _ => o_len (t := 39) Tryz.underlying39 rfl) ?_
  refine wl_p (fun _ => o_le rfl rfl) ?_
  refine wl_p (fun _ => o_pick_t rfl rfl) ?_
  refine wl_p (fun _ => o_assign rfl) ?_
  refine wl_nil ?_
  refine ret1 rfl rfl ?_
  refine ⟨congrArg Value.bool ?_, rfl⟩
  refine Bool.eq_iff_iff.2 ?_
  simp only [if_true, decide_eq_true_eq]
  omega
 ·refine wl_off ?_
  refine wl_off ?_
  refine wl_off ?_
  refine wl_p (fun _ => o_pick_f rfl rfl) ?_
  refine wl_p (fun _ => o_assign rfl) ?_
  refine wl_nil ?_
  refine ret1 rfl rfl ?_
  refine ⟨congrArg Value.bool ?_, rfl⟩
  symm
  refine decide_eq_false ?_
  omega
theorem C_leafValue {A : Option Addr} {n c : Nat} (w : World) (hn : n ≤ 4000000000) : CallsR Tryz.prog 44 [.slice A n c] w fun v w' => v = .bool (decide (n ≤ 32)) ∧ w' = w := by
 refine callsR Tryz.func44 rfl rfl (by kernel_rfl) rfl ?_
 refine rk_seq ?_
 refine rk_region ?_
 refine wl_p (fun _ => o_assign rfl) ?_
 refine wl_nil ?_
 refine rk_seq ?_
 refine rk_region ?_
 refine wl_p (fun _ => o_move rfl) ?_
 refine wl_p (fun _ => o_len (t := 39) Tryz.underlying39 rfl) ?_
 refine wl_p (fun _ => o_le rfl rfl) ?_
 refine wl_p (fun _ => o_assign rfl) ?_
 refine wl_nil ?_
 refine ret1 rfl rfl ?_
 refine ⟨congrArg Value.bool ?_, rfl⟩
 refine decide_eq_decide.2 ?_
 omega
theorem C_leafCompare {A B : Option Addr} {a b : List UInt8} {n m c d : Nat} (w : World) (hra : Rd w A a) (hrb : Rd w B b) (hn : n = a.length) (hm : m = b.length) (hla : a.length ≤ 4000000000) (hlb : b.length ≤ 4000000000) :
  CallsR Tryz.prog 45 [.slice A n c, .slice B m d] w fun v w' => v = .int .i64 (cmpL a b) ∧ Below w.heap.size w w' := by
 subst hn; subst hm
 refine callsR Tryz.func45 rfl rfl (by kernel_rfl) rfl ?_
 have hw := Below.refl w.heap.size w
 refine rk_seq ?_
 refine rk_region ?_
 refine wl_p (fun _ => o_assign rfl) ?_
 refine wl_nil ?_
 refine rk_seq ?_
 refine rk_seq ?_
 refine rk_region ?_
 refine wl_p (fun _ => o_move rfl) ?_
 refine wl_p (fun _ => o_len (t := 39) Tryz.underlying39 rfl) ?_
 refine wl_p (fun _ => o_move rfl) ?_
 refine wl_p (fun _ => o_len (t := 39) Tryz.underlying39 rfl) ?_
 refine wl_p (fun _ => o_min rfl rfl) ?_
 refine wl_p (fun _ => o_move rfl) ?_
 refine wl_nil ?_
 refine rk_block ?_
 refine rk_joinf (fun fb fr w2 => fr = [] ++ fb.drop 1 ∧ a.take (min a.length b.length) = b.take (min a.length b.length) ∧ Below w.heap.size w w2) ?_ (fun ks hj => ?_)
 rotate_left
 ·refine rk_loopf (fun fb m fr w2 => ∃ (i : Nat) (v : Int), fr = [(12, .int .i64 v)] ++ fb ∧ v = i ∧ i ≤ min a.length b.length ∧ m = min a.length b.length - i ∧ a.take i = b.take i ∧ Below w.heap.size w w2) (n := min a.length b.length) (Fr.le_of (by kernel_rfl) (by kernel_rfl) (by repeat' constructor)) ⟨0, _, rfl, rfl, by omega, rfl, rfl, hw⟩ ?_
  clear hw
  rintro m fr w2 ⟨i, v, rfl, rfl, hi, rfl, ht, hw⟩
  first | refine rk_frame (by simp only [List.cons_append, List.nil_append, List.drop_succ_cons, List.drop_zero]; rfl) ?_ | refine wl_frame (by simp only [List.cons_append, List.nil_append, List.drop_succ_cons, List.drop_zero]; rfl) ?_
  refine rk_seq ?_
  refine rk_region ?_
  refine wl_p (fun _ => o_lt rfl rfl) ?_
  refine wl_nil ?_
  refine rk_seq ?_
  refine rk_if rfl (fun h13 => ?_) (fun h13 => ?_)
  ·have hia : i < a.length := by omega
   have hib : i < b.length := by omega
   refine rk_skip ?_
   refine rk_seq ?_
   refine rk_block ?_
   refine rk_seq ?_
   refine rk_region ?_
   refine wl_p (fun _ => o_move rfl) ?_
   refine wl_p (fun _ => o_assign rfl) ?_
   refine wl_nil ?_
   refine rk_seq ?_
   refine rk_draw (id := 4) (none) [0, 0, 3, 4, 0, 0, 48, 64, 136, 511] [0, 0, 3, 7, 0, 0, 48, 112, 255, 511] 256 0 [(.p, 0), (.p, 1), (.p, 2), (.r, 3), (.p, 4), (.p, 5), (.p, 6), (.r, 7), (.l, 8), (.p, 9)] (by kernel_rfl) (by kernel_rfl) (by kernel_rfl) (by kernel_rfl) (by kernel_rfl) ?_
   replace hw := hw.drew
   refine wl_p (fun _ => o_move rfl) ?_
   refine wl_p (fun _ => o_move rfl) ?_
   refine wl_p (fun _ => (o_iaddrA1 (i) Tryz.underlying39 Tryz.sizeOf5 rfl rfl rfl (Reads.some_ hra.to_Reads (by decide) (by omega)) (by omega))) ?_
   refine wl_r (o_loadB Tryz.isAgg5 rfl (hra.u hw) (by omega)) ?_
   refine wl_p (fun _ => o_move rfl) ?_
   refine wl_p (fun _ => o_move rfl) ?_
   refine wl_p (fun _ => (o_iaddrA1 (i) Tryz.underlying39 Tryz.sizeOf5 rfl rfl rfl (Reads.some_ hrb.to_Reads (by decide) (by omega)) (by omega))) ?_
   refine wl_r (o_loadB Tryz.isAgg5 rfl (hrb.u hw) (by omega)) ?_
   refine wl_call rfl (C_cmpb _ _ _) ?_
   rintro v23 w23 ⟨rfl, rfl⟩
   refine wl_p (fun _ => o_assign rfl) ?_
   refine wl_nild ?_
   refine rk_seq ?_
   refine rk_region ?_
   refine wl_p (fun _ => o_move rfl) ?_
   refine wl_p (fun _ => o_ne rfl rfl) ?_
   refine wl_nil ?_
   refine rk_if rfl (fun h25 => ?_) (fun h25 => ?_)
   ·have hne : a[i] ≠ b[i] := fun e => by rw [e] at h25; simp [cmpZ] at h25
    refine rk_seq ?_
    refine rk_region ?_
    refine wl_p (fun _ => o_move rfl) ?_
    refine wl_p (fun _ => o_assign rfl) ?_
    refine wl_nil ?_
    refine ret1 rfl rfl ?_
    exact ⟨by rw [cmpL_at i a b hia hib ht hne], hw⟩
   ·have he : a[i] = b[i] := by
     have h3 : (a[i].toNat : Int) = b[i].toNat := by unfold cmpZ at h25; split at h25 <;> (try split at h25) <;> omega
     exact UInt8.toNat_inj.1 (by omega)
    refine rk_skip ?_
    refine rk_blk ?_
    refine rk_region ?_
    refine wl_p (fun _ => o_add rfl rfl (by omega) (by omega)) ?_
    refine wl_p (fun _ => o_move rfl) ?_
    refine wl_nil ?_
    exact rk_againf (Fr.le_of (by kernel_rfl) (by kernel_rfl) (by repeat' constructor)) ⟨i + 1, (i : Int) + 1, rfl, by omega, by omega, rfl, by rw [List.take_succ_eq_append_getElem hia, List.take_succ_eq_append_getElem hib, ht, he], hw⟩ (by omega)
  ·have e : i = min a.length b.length := by omega
   rw [e] at ht
   refine rk_exit rfl ?_
   exact rk_tof hj (Fr.le_of (by kernel_rfl) (by kernel_rfl) (by repeat' constructor)) ⟨rfl, ht, hw⟩
 clear hw
 rintro fr w2 ⟨rfl, ht, hw⟩
 first | refine rk_frame (by simp only [List.cons_append, List.nil_append, List.drop_succ_cons, List.drop_zero]; rfl) ?_ | refine wl_frame (by simp only [List.cons_append, List.nil_append, List.drop_succ_cons, List.drop_zero]; rfl) ?_
 refine rk_seq ?_
 refine rk_region ?_
 refine wl_p (fun _ => o_move rfl) ?_
 refine wl_p (fun _ => o_len (t := 39) Tryz.underlying39 rfl) ?_
 refine wl_p (fun _ => o_move rfl) ?_
 refine wl_p (fun _ => o_len (t := 39) Tryz.underlying39 rfl) ?_
 refine wl_call rfl (C_cmpi _ _ _) ?_
 rintro v32 w32 ⟨rfl, rfl⟩
 refine wl_p (fun _ => o_assign rfl) ?_
 refine wl_nil ?_
 refine ret1 rfl rfl ?_
 exact ⟨by rw [cmpL_end a b ht], hw⟩
end Go.Proofs.YtahkeoegbjopfaaGreat
/-
  Values of interface types: made, asked for their type, called. No function of the program is named here.
-/
namespace Go.Proofs.YtahkeoegbjopfaaGreat
set_option maxRecDepth 100000
open Go.RowKit
section
variable {P : Program} {fn : Func} {F : Ending → World → Prop} {N : Nat} {ks : List K} {ops : Array Oper} {tg : Tags} {l : List Oper} {fr : Fr} {w : World} {ty t t' xt : TypeId} {v v' : Value} {pos : String} {aft : Array Edge} {gd : Option (Nat × Bool)} {d : Nat} {x y : Operand} {nm : String}
end
end Go.Proofs.YtahkeoegbjopfaaGreat
/-
  Nodes of a tree as they lie in memory.
-/
namespace Go.Proofs.YtahkeoegbjopfaaGreat
set_option maxRecDepth 100000
open Go.RowKit
def gItem : GoT (By × By) := gBytes.pair gBytes
def RI (w : World) (A : Option Addr) (L : List (By × By)) : Prop := RSl gItem w A L
section
variable {w w' : World} {A : Option Addr} {L : List (By × By)} {K : List By}
theorem RI.u (h : RI w A L) (hb : Below w.heap.size w w') : RI w' A L := RSl.u h hb
theorem RI.some_ (h : RI w A L) (hl : 0 < L.length) : A = some (A.getD ⟨0, 0, none⟩) := RSl.some_ h (by decide) hl
theorem RI.nil_ : RI w none [] := RSl.nil _ _ _
theorem RI.elem (h : RI w A L) {i : Nat} (hi : i < L.length) : ∃ A1 c1 A2 c2, CellsAt w A (i * 2) [.slice A1 L[i].1.length c1, .slice A2 L[i].2.length c2] ∧ Rd w A1 L[i].1 ∧ Rd w A2 L[i].2 ∧ L[i].1.length ≤ c1 ∧ L[i].2.length ≤ c2 := by
 obtain ⟨cs, h1, x, y, rfl, ⟨A1, c1, rfl, h2, h3, _⟩, A2, c2, rfl, h4, h5, _⟩ := RSl.elem h (by decide) hi
 exact ⟨A1, c1, A2, c2, h1, h2, h4, h3, h5⟩
end
section
variable {fn : Func} {F : Ending → World → Prop} {N : Nat} {ks : List K} {ops : Array Oper} {tg : Tags} {l : List Oper} {fr : Fr} {w : World} {ty t t' : TypeId} {pos : String} {aft : Array Edge} {gd : Option (Nat × Bool)} {d j : Nat} {x y : Operand} {A : Option Addr} {L : List (By × By)} {Ky : List By} {w0 : World}
theorem wl_ldItem (hx : fr.ev x = some (.pointer (some (adr A (j * 2))))) (hr : RI w0 A L) (hb : Below w0.heap.size w0 w) (hj : j < L.length)
  (hk : ∀ A1 c1 A2 c2, Rd w0 A1 L[j].1 → Rd w0 A2 L[j].2 → L[j].1.length ≤ c1 → L[j].2.length ≤ c2 → WL Tryz.prog fn F N ks ops tg.tail l ((d, .agg #[.slice A1 L[j].1.length c1, .slice A2 L[j].2.length c2]) :: fr) w)
  (ht : tg.reads = true := by rfl) (hg : onG ops fr gd = true := by rfl) (hd : Nat.blt d N = true := by rfl) : WL Tryz.prog fn F N ks ops tg (⟨some d, .load 94 x, ty, pos, aft, gd⟩ :: l) fr w := by
 obtain ⟨A1, c1, A2, c2, h1, h2, h3, h4, h5⟩ := hr.elem hj
 refine wl_r (o_loadn (cs := [.slice A1 L[j].1.length c1, .slice A2 L[j].2.length c2]) Tryz.isAgg94 Tryz.sizeOf94 hx (fun i u hu => ?_)) (hk A1 c1 A2 c2 h2 h3 h4 h5) ht hg hd
 rw [adr_add]
 exact h1.u hb i u hu
theorem wl_ldKey (hx : fr.ev x = some (.pointer (some (adr A (j * 2 + 0))))) (hr : RI w0 A L) (hb : Below w0.heap.size w0 w) (hj : j < L.length)
  (hk : ∀ A1 c1, Rd w0 A1 L[j].1 → L[j].1.length ≤ c1 → WL Tryz.prog fn F N ks ops tg.tail l ((d, .slice A1 L[j].1.length c1) :: fr) w)
  (ht : tg.reads = true := by rfl) (hg : onG ops fr gd = true := by rfl) (hd : Nat.blt d N = true := by rfl) : WL Tryz.prog fn F N ks ops tg (⟨some d, .load 39 x, ty, pos, aft, gd⟩ :: l) fr w := by
 obtain ⟨A1, c1, A2, c2, h1, h2, h3, h4, h5⟩ := hr.elem hj
 exact wl_r (o_load (t := 39) Tryz.isAgg39 hx (h1.u hb 0 _ rfl)) (hk A1 c1 h2 h4) ht hg hd
theorem wl_ldVal (hx : fr.ev x = some (.pointer (some (adr A (j * 2 + 1))))) (hr : RI w0 A L) (hb : Below w0.heap.size w0 w) (hj : j < L.length)
  (hk : ∀ A1 c1, Rd w0 A1 L[j].2 → L[j].2.length ≤ c1 → WL Tryz.prog fn F N ks ops tg.tail l ((d, .slice A1 L[j].2.length c1) :: fr) w)
  (ht : tg.reads = true := by rfl) (hg : onG ops fr gd = true := by rfl) (hd : Nat.blt d N = true := by rfl) : WL Tryz.prog fn F N ks ops tg (⟨some d, .load 39 x, ty, pos, aft, gd⟩ :: l) fr w := by
 obtain ⟨A1, c1, A2, c2, h1, h2, h3, h4, h5⟩ := hr.elem hj
 exact wl_r (o_load (t := 39) Tryz.isAgg39 hx (h1.u hb 1 _ rfl)) (hk A2 c2 h3 h5) ht hg hd
end
end Go.Proofs.YtahkeoegbjopfaaGreat
/-
  Rows of values of any Go type: slices of the call's own, literals, appends. No function of the program is named here.
-/
namespace Go.Proofs.YtahkeoegbjopfaaGreat
set_option maxRecDepth 100000
open Go.RowKit
theorem part_flatMap {f : Value → List Value} {m : Nat} : ∀ (vs : List Value) (_ : ∀ v ∈ vs, (f v).length = m) (i : Nat) (hi : i < vs.length), part (vs.flatMap f) m i = f vs[i]
 | v :: vs, h, 0, _ => by
  simp only [part, Nat.zero_mul, List.drop_zero, List.flatMap_cons, List.getElem_cons_zero]
  rw [← h v (by simp)]
  exact List.take_left
 | v :: vs, h, i + 1, hi => by
  have ih := part_flatMap vs (fun u hu => h u (by simp [hu])) i (by simpa using hi)
  simp only [part, List.flatMap_cons, List.getElem_cons_succ] at ih ⊢
  rw [← ih, show (i + 1) * m = (f v).length + i * m by rw [h v (by simp), Nat.add_mul]; omega, ← List.drop_drop, List.drop_left]
section
variable {α : Type} {X : GoT α} {e e' : TypeId} {w w' : World} {lo hi lo' hi' c b : Nat} {A : Option Addr} {L M : List α} {row : Option Nat}
def RSlT (X : GoT α) (e : TypeId) (w : World) (A : Option Addr) (L : List α) : Prop := ∃ xs, Reads w X.sz A L.length xs ∧ (∀ k, blk A = some k → TyAt w k e) ∧ ∀ i (h : i < L.length), X.T w (part xs X.sz i) L[i]
theorem RSlT.u (h : RSlT X e w A L) (hb : Below w.heap.size w w') : RSlT X e w' A L := by
 obtain ⟨xs, h1, h2, h3⟩ := h
 exact ⟨xs, h1.below hb, fun k hk => (h2 k hk).keep (hb.block k (h2 k hk).lt), fun i hi => X.tu (h3 i hi) hb⟩
theorem RSlT.d (h : RSlT X e w A L) : RSlT X e w.drew A L := h.u (below_drew w)
theorem RSlT.y (h : RSlT X e w A L) (hg : Grew w w' e' row) (hne : e' ∉ e :: X.tys) : RSlT X e w' A L := by
 obtain ⟨xs, h3, h4, h5⟩ := h
 rw [List.mem_cons, not_or] at hne
 have hb := grew_blk hg h4 hne.1
 refine ⟨xs, h3.grown hg.g hb, fun k hk => (h4 k hk).keep (hg.g.block k (h4 k hk).lt (fun e => ?_)), fun i hi => X.ty (h5 i hi) hg hne.2⟩
 rcases hb with h6 | h6
 ·rw [h6] at hk; cases hk
 ·exact h6 (hk.trans e)
theorem RSlT.to_RSl (h : RSlT X e w A L) : RSl X w A L := by obtain ⟨xs, h1, h2, h3⟩ := h; exact ⟨xs, h1, fun i hi => X.tr (h3 i hi)⟩
def OwnS (X : GoT α) (e : TypeId) (w : World) (lo hi : Nat) (A : Option Addr) (c : Nat) (L : List α) : Prop := ∃ xs, RowH w lo hi e X.sz A L.length c xs ∧ ∀ i (h : i < L.length), X.T w (part xs X.sz i) L[i]
theorem OwnS.u (h : OwnS X e w lo hi A c L) (hb : Below w.heap.size w w') : OwnS X e w' lo hi A c L := by
 obtain ⟨xs, h1, h2⟩ := h
 exact ⟨xs, h1.u hb, fun i hi => X.tu (h2 i hi) hb⟩
theorem OwnS.d (h : OwnS X e w lo hi A c L) : OwnS X e w.drew lo hi A c L := h.u (below_drew w)
theorem OwnS.y (h : OwnS X e w lo hi A c L) (hg : Grew w w' e' row) (hne : e' ∉ e :: X.tys) : OwnS X e w' lo hi A c L := by
 obtain ⟨xs, h1, h2⟩ := h
 rw [List.mem_cons, not_or] at hne
 exact ⟨xs, h1.y hg hne.1, fun i hi => X.ty (h2 i hi) hg hne.2⟩
theorem OwnS.q (h : OwnS X e w lo hi A c L) (hg : Grew w w' e' row) (ha : Ap row lo hi) (hne : e' ∉ X.tys) : OwnS X e w' lo hi A c L := by
 obtain ⟨xs, h1, h2⟩ := h
 exact ⟨xs, h1.k hg.g ha, fun i hi => X.ty (h2 i hi) hg hne⟩
theorem OwnS.ap (h : OwnS X e w lo hi A c L) (hd : hi ≤ lo' ∨ hi' ≤ lo) : Ap (blk A) lo' hi' := by obtain ⟨xs, h1, _⟩ := h; exact h1.ap hd
theorem OwnS.cap (h : OwnS X e w lo hi A c L) : L.length ≤ c := by obtain ⟨xs, h1, _⟩ := h; exact h1.cap
theorem OwnS.nil_ : OwnS X e w lo hi none 0 [] := ⟨[], RowH.nil _ _ _ _ _, fun i h => absurd h (Nat.not_lt_zero _)⟩
theorem OwnS.base (h : OwnS X e w lo hi A c L) (h1 : lo' ≤ lo) (h2 : hi ≤ hi') : OwnS X e w lo' hi' A c L := by obtain ⟨xs, h3, h4⟩ := h; exact ⟨xs, h3.base h1 h2, h4⟩
theorem OwnS.to_RSlT (h : OwnS X e w lo hi A c L) : RSlT X e w A L := by obtain ⟨xs, h1, h2⟩ := h; exact ⟨xs, h1.rd, h1.ty, h2⟩
theorem OwnS.to_RSl (h : OwnS X e w lo hi A c L) : RSl X w A L := h.to_RSlT.to_RSl
theorem litS_part {vs : List Value} {L : List α} (hn : vs.length = L.length) (hX : ∀ i (h : i < L.length), ∃ v, vs[i]? = some v ∧ v.cells.size = X.sz ∧ X.T w v.cells.toList L[i]) :
  ∀ i (h : i < L.length), X.T w (part (vs.flatMap fun v => v.cells.toList) X.sz i) L[i] := fun i h => by
 have hall : ∀ v ∈ vs, v.cells.toList.length = X.sz := fun v hv => by
  obtain ⟨j, hj, rfl⟩ := List.getElem_of_mem hv
  obtain ⟨u, h1, h2, _⟩ := hX j (by omega)
  rw [List.getElem?_eq_getElem hj] at h1
  injection h1 with h1
  rw [h1, Array.length_toList]; exact h2
 rw [part_flatMap vs hall i (by omega)]
 obtain ⟨v, h1, _, h3⟩ := hX i h
 rw [List.getElem?_eq_getElem (by omega)] at h1
 injection h1 with h1
 rw [h1]; exact h3
end
section
variable {α : Type} {X : GoT α} {P : Program} {fn : Func} {F : Ending → World → Prop} {N : Nat} {ks : List K} {ops : Array Oper} {tg : Tags} {l : List Oper} {fr : Fr} {w : World} {ty t e : TypeId} {z : Value} {pos : String} {aft : Array Edge} {gd : Option (Nat × Bool)} {d n sz bytes c j q lo hi : Nat} {x y : Operand} {A B : Option Addr} {L M : List α}
theorem wl_litS {ps : Array (Nat × Operand)} {xs : List Operand} {vs : List Value} (T : RowT P t e z X.sz bytes) (hs : ∀ w, (sizeOf e).run P w = .ok X.sz w) (hz : ∀ w, (zeroValue e).run P w = .ok z w) (hxs : ps.toList.map Prod.snd = xs) (hps : ps = ((List.range' 0 n).zip xs).toArray) (hx : fr.evs xs = some vs) (hn : vs.length = n) (hL : L.length = n)
  (hX : ∀ i (h : i < L.length), ∃ v, vs[i]? = some v ∧ v.cells.size = X.sz ∧ X.T w v.cells.toList L[i]) (hm : Nat.ble (n * X.sz) 1000000 = true)
  (hk : ∀ A w', OwnS X e w' w.heap.size w'.heap.size A n L → Below w.heap.size w w' → WL P fn F N ks ops tg.tail l ((d, .slice A n n) :: fr) w')
  (ht : tg.loud = true := by rfl) (hg : onG ops fr gd = true := by rfl) (hd : Nat.blt d N = true := by rfl) : WL P fn F N ks ops tg (⟨some d, .buildSlice t n ps, ty, pos, aft, gd⟩ :: l) fr w := by
 refine wl_litR T hs hz hxs hps hx hn (fun v hv => ?_) hm (fun A w' h1 h2 => hk A w' ⟨_, ?_, fun i h => X.tu (litS_part (w := w) (by omega) hX i h) h2⟩ h2) ht hg hd
 ·obtain ⟨j, hj, rfl⟩ := List.getElem_of_mem hv
  obtain ⟨u, h1, h2, _⟩ := hX j (by omega)
  rw [List.getElem?_eq_getElem hj] at h1
  injection h1 with h1
  rw [h1]; exact h2
 ·rw [hL]; exact h1
theorem wl_appS (T : RowT P t e z X.sz bytes) (hx : fr.ev x = some (.slice A n c)) (hown : OwnS X e w lo hi A c L) (hn : n = L.length) (hy : fr.ev y = some (.slice B j q)) (hr : RSlT X e w B M) (hj : j = M.length) (hne : e ∉ X.tys) (h1 : ∀ w cs a, X.T w cs a → ∀ u ∈ cs, u.oneCell' = true) (hlen : (L.length + M.length) * bytes ≤ 140737488355328) (hmx : L.length + M.length ≤ 1000000000) (hB : lo ≤ w.heap.size)
  (h : ∀ A' c' w', OwnS X e w' lo w'.heap.size A' c' (L ++ M) → Grew w w' e (blk A) → Below lo w w' → (blk A' = blk A ∨ blk A' = some w.heap.size) → WL P fn F N ks ops tg.tail l ((d, .slice A' (L ++ M).length c') :: fr) w')
  (ht : tg.loud = true := by rfl) (hg : onG ops fr gd = true := by rfl) (hd : Nat.blt d N = true := by rfl) (hq : tg.calm = false ∨ blk A = none ∨ blk A = tg.row := by exact .inl rfl) :
  WL P fn F N ks ops tg (⟨some d, .call { callee := .builtin .append, args := #[x, y], argTypes := #[t, t] }, ty, pos, aft, gd⟩ :: l) fr w := by
 subst hn; subst hj
 obtain ⟨xs, g1, g2⟩ := hown
 obtain ⟨ms, r1, r2, r3⟩ := hr
 have hxl : xs.length = L.length * X.sz := g1.rd.1
 have hml : ms.length = M.length * X.sz := r1.1
 refine wl_appR T hx g1 hy r1 (fun u hu => ?_) (by simp only [maxLen]; omega) hlen hB (fun A' c' w' k1 k2 k3 k4 => ?_) ht hg hd hq
 ·obtain ⟨i, hi, rfl⟩ := List.getElem_of_mem hu
  have h0 := T.h0
  have hq : i / X.sz < M.length := (Nat.div_lt_iff_lt_mul h0).2 (by omega)
  refine h1 _ _ _ (r3 _ hq) _ (List.mem_of_getElem? (i := i % X.sz) ?_)
  rw [part_get (Nat.mod_lt _ h0), Nat.div_add_mod' i X.sz]
  exact List.getElem?_eq_getElem hi
 ·have e2 : (L ++ M).length = L.length + M.length := List.length_append
  rw [← e2] at k1 ⊢
  refine h A' c' w' ⟨_, k1, fun i hi => ?_⟩ k2 k3 k4
  rcases Nat.lt_or_ge i L.length with hl | hl
  ·rw [part_append_lt hxl hl, List.getElem_append_left hl]
   exact X.ty (g2 i hl) k2 hne
  ·rw [List.getElem_append_right hl]
   have hi2 : i - L.length < M.length := by rw [e2] at hi; omega
   have := X.ty (r3 _ hi2) k2 hne
   have e3 : part (xs ++ ms) X.sz i = part ms X.sz (i - L.length) := by
    unfold part
    rw [show i * X.sz = xs.length + (i - L.length) * X.sz by rw [hxl, ← Nat.add_mul]; congr 1; omega, ← List.drop_drop, List.drop_left]
   rw [e3]; exact this
end
end Go.Proofs.YtahkeoegbjopfaaGreat
/-
  A change of nothing but what lies in the blocks from lo to hi. No function of the program is named here.
-/
namespace Go.Proofs.YtahkeoegbjopfaaGreat
set_option maxRecDepth 100000
open Go.RowKit
structure Chg (lo hi : Nat) (w w' : World) : Prop where
 os : w'.os = w.os
 tape : w'.tape = w.tape
 output : w'.output = w.output
 size : w.heap.size ≤ w'.heap.size
 block : ∀ k, k < w.heap.size → (k < lo ∨ hi ≤ k) → w'.heap[k]? = w.heap[k]?
section
variable {w w' w'' : World} {lo hi lo' hi' B g sz n cp : Nat} {e : TypeId} {A : Option Addr} {xs : List Value} {l : List UInt8} {row : Option Nat}
theorem Chg.of_below (h : Below w.heap.size w w') : Chg lo hi w w' := ⟨h.os, h.tape, h.output, h.size, fun k hk _ => h.block k hk⟩
theorem Chg.refl : Chg lo hi w w := Chg.of_below (Below.refl _ _)
theorem Chg.of_g (h : w.grownBy w' row) (hr : ∀ k, row = some k → lo ≤ k ∧ k < hi) : Chg lo hi w w' := ⟨h.os, h.tape, h.output, h.size, fun k hk a => h.block k hk (fun e => by have := hr k e.symm; omega)⟩
theorem Chg.of_g1 (h : w.grownBy w' (some g)) (h1 : lo ≤ g) (h2 : g < hi) : Chg lo hi w w' := Chg.of_g h (fun k e => by injection e with e; omega)
theorem Chg.trans (h : Chg lo hi w w') (k : Chg lo hi w' w'') : Chg lo hi w w'' :=
 ⟨k.os.trans h.os, k.tape.trans h.tape, k.output.trans h.output, Nat.le_trans h.size k.size, fun i hi ha => (k.block i (Nat.lt_of_lt_of_le hi h.size) ha).trans (h.block i hi ha)⟩
theorem Chg.thenB (h : Chg lo hi w w') (k : Below w'.heap.size w' w'') : Chg lo hi w w'' := h.trans (Chg.of_below k)
theorem Chg.andNew (h : Chg lo hi w w') (k : w'.grownBy w'' row) (hr : ∀ j, row = some j → w.heap.size ≤ j) : Chg lo hi w w'' :=
 ⟨k.os.trans h.os, k.tape.trans h.tape, k.output.trans h.output, Nat.le_trans h.size k.size, fun i hi ha => (k.block i (Nat.lt_of_lt_of_le hi h.size) (fun e => by have := hr i e.symm; omega)).trans (h.block i hi ha)⟩
structure RdB (w : World) (lo hi : Nat) (A : Option Addr) (l : List UInt8) : Prop where
 r : Rd w A l
 b : ∀ k, blk A = some k → lo ≤ k ∧ k < hi
theorem Blk.rdB {t : TypeId} (h : Blk w g t (B8 l)) : RdB w g (g + 1) (some ⟨g, 0, none⟩) l :=
 ⟨⟨by rw [B8_length, Nat.mul_one], fun _ => ⟨g, 0, rfl, fun j u hj => by rw [h.cell, Nat.zero_add]; exact hj⟩⟩, fun k e => by simp [blk] at e; omega⟩
end
end Go.Proofs.YtahkeoegbjopfaaGreat
/-
  Rows of elements of any size: made, and written element by element; elements that are arrays. No function of the program is named here.
-/
namespace Go.Proofs.YtahkeoegbjopfaaGreat
set_option maxRecDepth 100000
open Go.RowKit
theorem getElem_spl {L vs : List Value} {k i : Nat} (h : k + vs.length ≤ L.length) : (spl L k vs)[i]? = if k ≤ i ∧ i < k + vs.length then vs[i - k]? else L[i]? := by
 unfold spl
 have hl : (L.take k).length = k := by rw [List.length_take]; omega
 rw [List.append_assoc]
 rcases Nat.lt_or_ge i k with h1 | h1
 ·rw [if_neg (by omega), List.getElem?_append_left (by omega), List.getElem?_take_of_lt h1]
 ·rw [List.getElem?_append_right (by omega), hl]
  rcases Nat.lt_or_ge i (k + vs.length) with h2 | h2
  ·rw [if_pos ⟨h1, h2⟩, List.getElem?_append_left (by omega)]
  ·rw [if_neg (by omega), List.getElem?_append_right (by omega), List.getElem?_drop]
   congr 1; omega
section
variable {P : Program} {w : World} {lo hi e sz n c j : Nat} {A : Option Addr} {xs vs : List Value}
theorem RowH.blk_ (h : RowH w lo hi e sz A n c xs) (hn : 0 < n) : ∃ g cur, A = some ⟨g, 0, none⟩ ∧ lo ≤ g ∧ g < hi ∧ Blk w g e cur ∧ n ≤ c ∧ cur.length = c * sz ∧ cur.take (n * sz) = xs := by
 rcases h.o.2 with ⟨_, h0⟩ | ⟨g, cap, cur, hv, h1, h2, h3, h4, h5, h6⟩
 ·omega
 ·injection hv with e1 _ e3
  subst e1; subst e3
  exact ⟨g, cur.toList, rfl, h1, h.hi g rfl, by unfold Blk; rw [Array.toArray_toList]; exact h2, h3, by rw [Array.length_toList, h5], h6⟩
end
section
variable {α : Type} {X : GoT α} {e e' : TypeId} {w : World} {lo hi c j : Nat} {A : Option Addr} {L : List α} {vs : List Value} {P : Program} {a : α}
end
section
variable {α : Type} {X : GoT α} {P : Program} {fn : Func} {F : Ending → World → Prop} {N : Nat} {ks : List K} {ops : Array Oper} {tg : Tags} {l : List Oper} {fr : Fr} {w : World} {ty t e : TypeId} {z : Value} {pos : String} {aft : Array Edge} {gd : Option (Nat × Bool)} {k1 k2 : IntKind} {d n m bytes c j lo hi : Nat} {x y : Operand} {A : Option Addr} {L : List α} {a : α} {vs : List Value}
end
end Go.Proofs.YtahkeoegbjopfaaGreat
/-
  Parts of a row of the call's own put together in place, and cells set to zero; results in cells and slots. No function of the program is named here.
-/
namespace Go.Proofs.YtahkeoegbjopfaaGreat
set_option maxRecDepth 100000
open Go.RowKit
section
variable {P : Program} {w : World} {lo hi sz n c bytes : Nat} {t ty e : TypeId} {z : Value} {A : Option Addr} {xs : List Value}
theorem zeroCells_mem {zs : Array Value} (h1 : zs.all (fun v => v.oneCell') = true) (h0 : 0 < zs.size) (m : Nat) : ∀ v ∈ (Builtin.zeroCells zs m).toList, v.oneCell' = true := by
 intro v hv
 simp only [Builtin.zeroCells, Array.toList_map, List.mem_map] at hv
 obtain ⟨i, _, rfl⟩ := hv
 have hlt : i % zs.size < zs.size := Nat.mod_lt _ h0
 rw [getElem!_pos zs _ hlt]
 exact Array.all_eq_true.1 h1 _ hlt
theorem run_clearR (T : RowT P t e z sz bytes) (hz : ∀ w, (zeroValue e).run P w = .ok z w) (h1 : z.cells.all (fun v => v.oneCell') = true) (hown : RowH w lo hi e sz A n c xs) {k m c' : Nat} (hk : n ≤ k) (hm : k + m ≤ c) :
  ∃ w', (Builtin.clear_ #[t] ty #[.slice (cutA A c sz k) m c']).run P w = .ok (.tuple #[]) w' ∧ RowH w' lo hi e sz A n c xs ∧ Grew w w' e (blk A) := by
 have hT := hown.ty
 rcases Nat.eq_zero_or_pos m with h0 | h0
 ·subst h0
  refine ⟨w, ?_, hown, ⟨World.grownBy.refl w _, hT⟩⟩
  cases cutA A c sz k <;> simp [Builtin.clear_, run_underlying T.ht]
 ·have ho := hown.o
  rcases ho.2 with ⟨hv, hn0⟩ | ⟨g, cap, cur, hv, hbg, hg, hnc, hcm, hcs, htake⟩
  ·injection hv with _ _ e3
   omega
  ·injection hv with e1 _ e3
   subst e1; subst e3
   have hB : Blk w g e cur.toList := by unfold Blk; rw [Array.toArray_toList]; exact hg
   have hzl : (Builtin.zeroCells z.cells m).toList.length = m * sz := by simp [Builtin.zeroCells, T.hz]
   have hcl : cur.toList.length = c * sz := by rw [Array.length_toList, hcs]
   have hroom : (k + m) * sz ≤ c * sz := Nat.mul_le_mul_right _ hm
   rw [Nat.add_mul] at hroom
   obtain ⟨w', hr, hB', hgr, _⟩ := run_storeCells_blk (P := P) (o := k * sz) (Builtin.zeroCells z.cells m).toList 0 cur.toList w hB (zeroCells_mem h1 (by rw [T.hz]; exact T.h0) m) (by rw [hzl, hcl]; omega)
   have hcut : cutA (some ⟨g, 0, none⟩) c sz k = some ⟨g, k * sz, none⟩ := by
    unfold cutA; rw [if_neg (by omega)]; simp [add_plain]
   obtain ⟨m', rfl⟩ : ∃ m', m = m' + 1 := ⟨m - 1, by omega⟩
   have hnk : n * sz ≤ k * sz := Nat.mul_le_mul_right _ hk
   refine ⟨w', ?_, ⟨⟨ho.1, .inr ⟨g, c, _, rfl, hbg, hB', hnc, hcm, ?_, ?_⟩⟩, hown.hi⟩, ⟨hgr, hT⟩⟩
   ·rw [hcut]
    simp [Builtin.clear_, run_underlying T.ht, hz, hr]
   ·rw [List.size_toArray, spl_length (by rw [hzl, hcl]; omega), hcl]
   ·rw [← htake, Nat.add_zero]
    simp only [spl]
    rw [List.append_assoc, List.take_append_of_le_length (by rw [List.length_take, hcl]; omega), List.take_take, Nat.min_eq_left hnk]
theorem run_appFit (T : RowT P t e z sz bytes) (hown : RowH w lo hi e sz A n c xs) {X : Option Addr} {m q : Nat} {ms : List Value} (hr : Reads w sz X m ms) (h1 : ∀ u ∈ ms, u.oneCell' = true) (hroom : n + m ≤ c) :
  ∃ w', (Builtin.append_ #[t, t] ty #[.slice A n c, .slice X m q]).run P w = .ok (.slice A (n + m) c) w' ∧ RowH w' lo hi e sz A (n + m) c (xs ++ ms) ∧ Grew w w' e (blk A) := by
 have hT := hown.ty
 obtain ⟨i, hi', hz, hs, hb⟩ := info_parts T.hi
 have ho := hown.o
 by_cases hm : ms = []
 ·subst hm
  have hm0 : m = 0 := by
   have := hr.1
   rw [List.length_nil] at this
   rcases Nat.mul_eq_zero.1 this.symm with h2 | h2
   ·exact h2
   ·have := T.h0; omega
  subst hm0
  refine ⟨w, ?_, by simpa using hown, ⟨World.grownBy.refl w _, hT⟩⟩
  have hst : ∀ a : Addr, (storeCells a [] 0).run P w = .ok () w := fun a => by simp [storeCells]
  have hf : (Builtin.firstCells i.size 0 (.slice X 0 q)).run P w = .ok #[] w := by cases X <;> simp [Builtin.firstCells, loadCells, loadCellsFrom]
  have hnc : n ≤ c := hown.cap
  cases A <;> simp [Builtin.append_, run_underlying T.ht, sizeOf, typeInfo, hi', Builtin.lenOf, hf, storeCells, hnc]
 ·obtain ⟨ad, rfl, hcell⟩ := hr.add hm
  have hm0 : 0 < m := by
   rcases Nat.eq_zero_or_pos m with h2 | h2
   ·subst h2; exact absurd (List.eq_nil_of_length_eq_zero (by rw [hr.1]; simp)) hm
   ·exact h2
  rcases ho.2 with ⟨hv, hn0⟩ | ⟨g, cap, cur, hv, hbg, hg, hnc, hcm, hcs, htake⟩
  ·injection hv with _ _ e3
   omega
  ·injection hv with e1 _ e3
   subst e1; subst e3
   obtain ⟨w', hrun, r1, r2⟩ := run_append_fits (P := P) (w := w) lo t ty e i sz T.ht hi' hs g n c xs ho ad m q ms hr.1 hcell h1 hroom
   exact ⟨w', hrun, ⟨r1, hown.hi⟩, ⟨r2, hT⟩⟩
end
section
variable {α : Type} {X : GoT α} {e : TypeId} {w : World} {lo hi c : Nat} {A : Option Addr} {L : List α}
theorem part_take {xs : List Value} {m i k : Nat} (hi : i < k) : part (xs.take (k * m)) m i = part xs m i := by
 unfold part
 have h1 : (i + 1) * m ≤ k * m := Nat.mul_le_mul_right _ hi
 rw [Nat.add_mul, Nat.one_mul] at h1
 rw [List.drop_take, List.take_take, Nat.min_eq_left (by omega)]
theorem part_drop {xs : List Value} {m i k : Nat} : part (xs.drop (k * m)) m i = part xs m (k + i) := by
 unfold part
 rw [List.drop_drop, Nat.add_mul]
theorem OwnS.take (h : OwnS X e w lo hi A c L) (k : Nat) (hk : k ≤ L.length) : OwnS X e w lo hi A c (L.take k) := by
 obtain ⟨xs, h1, h2⟩ := h
 have hl : (L.take k).length = k := by rw [List.length_take]; omega
 have hxl : xs.length = L.length * X.sz := h1.rd.1
 have hkx : k * X.sz ≤ L.length * X.sz := Nat.mul_le_mul_right _ hk
 refine ⟨xs.take (k * X.sz), ⟨?_, h1.hi⟩, fun i hi => ?_⟩
 ·rw [hl]
  refine ⟨by rw [List.length_take, hxl, Nat.min_eq_left hkx], ?_⟩
  rcases h1.o.2 with ⟨hv, hn0⟩ | ⟨g, cap, cur, hv, h3, h4, h5, h6, h7, h8⟩
  ·have h0 : k = 0 := by omega
   subst h0
   injection hv with e1 _ e3
   subst e1; subst e3
   exact .inl ⟨rfl, rfl⟩
  ·injection hv with e1 _ e3
   subst e1; subst e3
   refine .inr ⟨g, c, cur, rfl, h3, h4, by omega, h6, h7, ?_⟩
   rw [← h8, List.take_take, Nat.min_eq_left hkx]
 ·rw [hl] at hi
  rw [part_take hi, List.getElem_take]
  exact h2 i (by omega)
theorem OwnS.drop (h : OwnS X e w lo hi A c L) (k : Nat) (hk : k ≤ L.length) : RSlT X e w (cutA A c X.sz k) (L.drop k) := by
 have hc := h.cap
 obtain ⟨xs, h1, h2⟩ := h
 have hT := h1.ty
 refine ⟨xs.drop (k * X.sz), h1.rd.cutn hk hc (by rw [List.length_drop]), fun b hb => hT b ?_, fun i hi => ?_⟩
 ·unfold cutA at hb
  split at hb
  ·exact hb
  ·rw [← hb]
   cases A with
   | none => rfl
   | some a => simp [blk, block_of_add]
 ·rw [part_drop, List.getElem_drop]
  rw [List.length_drop] at hi
  exact h2 _ (by omega)
end
section
variable {α : Type} {X : GoT α} {P : Program} {fn : Func} {F : Ending → World → Prop} {N : Nat} {ks : List K} {ops : Array Oper} {tg : Tags} {l : List Oper} {fr : Fr} {w : World} {ty t e : TypeId} {z : Value} {pos : String} {aft : Array Edge} {gd : Option (Nat × Bool)} {d n bytes c j q lo hi k m c' : Nat} {x y : Operand} {A B : Option Addr} {L M : List α}
theorem wl_appFit (T : RowT P t e z X.sz bytes) (hx : fr.ev x = some (.slice A n c)) (hown : OwnS X e w lo hi A c L) (hn : n = L.length) (hy : fr.ev y = some (.slice B j q)) (hr : RSlT X e w B M) (hj : j = M.length) (hne : e ∉ X.tys) (h1 : ∀ w cs a, X.T w cs a → ∀ u ∈ cs, u.oneCell' = true) (hroom : L.length + M.length ≤ c)
  (h : ∀ w', OwnS X e w' lo hi A c (L ++ M) → Grew w w' e (blk A) → WL P fn F N ks ops tg.tail l ((d, .slice A (L ++ M).length c) :: fr) w')
  (ht : tg.loud = true := by rfl) (hg : onG ops fr gd = true := by rfl) (hd : Nat.blt d N = true := by rfl) (hq : tg.calm = false ∨ blk A = none ∨ blk A = tg.row := by exact .inl rfl) :
  WL P fn F N ks ops tg (⟨some d, .call { callee := .builtin .append, args := #[x, y], argTypes := #[t, t] }, ty, pos, aft, gd⟩ :: l) fr w := by
 subst hn; subst hj
 obtain ⟨xs, g1, g2⟩ := hown
 obtain ⟨ms, r1, r2, r3⟩ := hr
 have hxl : xs.length = L.length * X.sz := g1.rd.1
 have hml : ms.length = M.length * X.sz := r1.1
 obtain ⟨w', hrun, k1, k2⟩ := run_appFit (ty := ty) (q := q) T g1 r1 (fun u hu => by
  obtain ⟨i, hi, rfl⟩ := List.getElem_of_mem hu
  have h0 := T.h0
  have hq : i / X.sz < M.length := (Nat.div_lt_iff_lt_mul h0).2 (by omega)
  refine h1 _ _ _ (r3 _ hq) _ (List.mem_of_getElem? (i := i % X.sz) ?_)
  rw [part_get (Nat.mod_lt _ h0), Nat.div_add_mod' i X.sz]
  exact List.getElem?_eq_getElem hi) hroom
 have e2 : (L ++ M).length = L.length + M.length := List.length_append
 rw [← e2] at k1 hrun
 refine wl_v (o_builtin (xs := [x, y]) (vs := [.slice A L.length c, .slice B M.length q]) (by simp [Fr.evs, hx, hy]) (by simp [builtin, hrun]) (by simp)) (h w' ⟨_, k1, fun i hi => ?_⟩ k2) ht hg hd
  (hq.imp id fun e => e.elim (fun e => grown_wide (e ▸ k2.g) _) (fun e => e ▸ k2.g))
 rcases Nat.lt_or_ge i L.length with hl | hl
 ·rw [part_append_lt hxl hl, List.getElem_append_left hl]
  exact X.ty (g2 i hl) k2 hne
 ·rw [List.getElem_append_right hl]
  have hi2 : i - L.length < M.length := by rw [e2] at hi; omega
  have := X.ty (r3 _ hi2) k2 hne
  have e3 : part (xs ++ ms) X.sz i = part ms X.sz (i - L.length) := by
   unfold part
   rw [show i * X.sz = xs.length + (i - L.length) * X.sz by rw [hxl, ← Nat.add_mul]; congr 1; omega, ← List.drop_drop, List.drop_left]
  rw [e3]; exact this
theorem wl_clearS (T : RowT P t e z X.sz bytes) (hz : ∀ w, (zeroValue e).run P w = .ok z w) (h1 : z.cells.all (fun v => v.oneCell') = true) (hx : fr.ev x = some (.slice (cutA A c X.sz k) m c')) (hown : OwnS X e w lo hi A c L) (hk : L.length ≤ k) (hm : k + m ≤ c) (hne : e ∉ X.tys)
  (h : ∀ w', OwnS X e w' lo hi A c L → Grew w w' e (blk A) → WL P fn F N ks ops tg.tail l fr w')
  (ht : tg.loud = true := by rfl) (hg : onG ops fr gd = true := by rfl) (hq : tg.calm = false ∨ blk A = none ∨ blk A = tg.row := by exact .inl rfl) :
  WL P fn F N ks ops tg (⟨none, .call { callee := .builtin .clear, args := #[x], argTypes := #[t] }, ty, pos, aft, gd⟩ :: l) fr w := by
 obtain ⟨xs, g1, g2⟩ := hown
 obtain ⟨w', hrun, k1, k2⟩ := run_clearR (ty := ty) (c' := c') T hz h1 g1 hk hm
 exact wl_v0 (o_builtin (v := .tuple #[]) (xs := [x]) (vs := [.slice (cutA A c X.sz k) m c']) (by simp [Fr.evs, hx]) (by simp [builtin, hrun]) (by simp)) (h w' ⟨_, k1, fun i hi => X.ty (g2 i hi) k2 hne⟩ k2) ht hg
  (hq.imp id fun e => e.elim (fun e => grown_wide (e ▸ k2.g) _) (fun e => e ▸ k2.g))
theorem o_slice3S {N : Nat} {len cap sz : Nat} {kl kh km : IntKind} {L H M : Int} {y z u : Operand} (lo hi mx : Nat) (hu : P.underlying t = some (.slice e)) (hs : ∀ w, (sizeOf e).run P w = .ok sz w) (hx : fr.ev x = some (.slice A len cap)) (hy : fr.ev y = some (.int kl L)) (hz : fr.ev z = some (.int kh H)) (hq : fr.ev u = some (.int km M))
  (hl : L = (lo : Int)) (hh : H = (hi : Int)) (hm : M = (mx : Int)) (h1 : lo ≤ hi) (h2 : hi ≤ mx) (h3 : mx ≤ cap) : OpV P N fr w (.slice t x (some y) (some z) (some u)) ty (.slice (cutA A mx sz lo) (hi - lo) (mx - lo)) w := fun a ha op hop _ => by
 subst hl; subst hh; subst hm
 simp [execOp, hop, ha.ev hx, ha.ev hy, ha.ev hz, ha.ev hq, Instr.sliceAt, Instr.slice, Instr.sliceBounds, Instr.sliceBound, run_underlying hu, asIntOf, hs, h1, h2, h3, cutA]
end
inductive Res (P : Program) (fr : Fr) (w : World) : List ResultVar → List Value → Prop where
 | nil : Res P fr w [] []
 | tmp {q : Nat} {v : Value} {rs : List ResultVar} {vs : List Value} (h : fr.get q = some v) (r : Res P fr w rs vs) : Res P fr w (.tmp q :: rs) (v :: vs)
 | cell {p n g : Nat} {t t' : TypeId} {cs : List Value} {rs : List ResultVar} {vs : List Value} (hp : fr.get p = some (.pointer (some ⟨g, 0, none⟩))) (ha' : ∀ w, (isAgg t).run P w = .ok true w) (hs : ∀ w, (sizeOf t).run P w = .ok n w) (hB : Blk w g t' cs) (hn : cs.length = n) (r : Res P fr w rs vs) : Res P fr w (.cell p t :: rs) (.agg cs.toArray :: vs)
 | flat {p g : Nat} {t t' : TypeId} {v : Value} {rs : List ResultVar} {vs : List Value} (hp : fr.get p = some (.pointer (some ⟨g, 0, none⟩))) (ha' : ∀ w, (isAgg t).run P w = .ok false w) (hB : Blk w g t' [v]) (r : Res P fr w rs vs) : Res P fr w (.cell p t :: rs) (v :: vs)
def resOf (a : Act) (x : ResultVar) : Sem Value := match x with
 | .tmp t => pure (a.tmps.getD t undef)
 | .cell b t => do loadVar t (← asAddr (a.tmps.getD b undef))
theorem resOf_cell {P : Program} {a : Act} {w : World} {p g : Nat} {t : TypeId} {v : Value} (hp : a.tmps.getD p undef = .pointer (some ⟨g, 0, none⟩)) (hl : (loadVar t ⟨g, 0, none⟩).run P w = .ok v w) : (resOf a (.cell p t)).run P w = .ok v w := by
 simp only [resOf, hp, asAddr, Sem.run_bind, Sem.run_pure, Result.andThen_ok, hl]
theorem Res.run {P : Program} {N : Nat} {a : Act} {fr : Fr} {w : World} (ha : Rep N a fr) {rs : List ResultVar} {vs : List Value} (h : Res P fr w rs vs) : (rs.mapM (resOf a)).run P w = .ok vs w := by
 have cons : ∀ {x : ResultVar} {v : Value} {rs : List ResultVar} {vs : List Value}, (resOf a x).run P w = .ok v w → (rs.mapM (resOf a)).run P w = .ok vs w → ((x :: rs).mapM (resOf a)).run P w = .ok (v :: vs) w := by
  intro x v rs vs h1 h2
  rw [List.mapM_cons]
  simp only [Sem.run_bind, Sem.run_pure, Result.andThen_ok, h1, h2]
 induction h with
 | nil => simp
 | @tmp q v rs vs h r ih =>
  have hv : a.tmps.getD q undef = v := ha.ev (x := .tmp q) h
  exact cons (by simp only [resOf, hv, Sem.run_pure]) ih
 | @cell p n g t t' cs rs vs hp ha' hs hB hn r ih =>
  have hp' : a.tmps.getD p undef = .pointer (some ⟨g, 0, none⟩) := ha.ev (x := .tmp p) hp
  subst hn
  have hl : (loadCells ⟨g, 0, none⟩ cs.length).run P w = .ok cs.toArray w := run_loadCells_list (P := P) w ⟨g, 0, none⟩ cs (fun j u hu => by rw [add_plain, hB.cell, Nat.zero_add]; exact hu)
  exact cons (resOf_cell hp' (by simp [loadVar, ha', hs, hl])) ih
 | @flat p g t t' v rs vs hp ha' hB r ih =>
  have hp' : a.tmps.getD p undef = .pointer (some ⟨g, 0, none⟩) := ha.ev (x := .tmp p) hp
  have hc : w.cell? ⟨g, 0, none⟩ = some v := by rw [hB.cell]; rfl
  exact cons (resOf_cell hp' (by simp [loadVar, ha', hc])) ih
theorem ret_any {P : Program} {fn : Func} {N : Nat} {ks : List K} {fr : Fr} {w : World} {rs : List ResultVar} {vs : List Value} {R : Value → World → Prop} (h : fn.results = rs.toArray) (hr : Res P fr w rs vs) (hn : vs.length ≠ 1) (hR : R (.tuple vs.toArray) w) : RK P fn (fun e w' => ∃ v, e = .returned v ∧ R v w') N (.code .ret :: ks) fr w :=
 rk_ret (F := fun e w' => ∃ v, e = .returned v ∧ R v w') (fun a ha => ⟨.tuple vs.toArray, by
  have hrun := hr.run ha
  have h2 : (rs.toArray.mapM (resOf a)).run P w = .ok vs.toArray w := by
   rw [List.mapM_toArray, Sem.run_map, hrun]; rfl
  have e : results fn a.tmps = (do
    let vs ← rs.toArray.mapM (resOf a)
    pure (if h : vs.size = 1 then vs[0] else .tuple vs)) := by rw [← h]; rfl
  rw [e]
  simp only [Sem.run_bind, h2, Result.andThen_ok, Sem.run_pure]
  simp [hn], ⟨_, rfl, hR⟩⟩)
end Go.Proofs.YtahkeoegbjopfaaGreat
/-
  Bytes made. No function of the program is named here.
-/
namespace Go.Proofs.YtahkeoegbjopfaaGreat
set_option maxRecDepth 100000
open Go.RowKit
theorem own_max {w : World} {lo hi c : Nat} {A : Option Addr} {l : List UInt8} (h : OwnH w lo hi A c l) : c ≤ maxLen := by
 have h1 : w.ownsRow lo 5 1 (.slice A l.length c) l.length (B8 l) := h.o
 rcases h1.2 with ⟨hv, _⟩ | ⟨g, cap, cur, hv, _, _, _, hm, _⟩
 ·injection hv with _ _ e; subst e; simp only [maxLen]; omega
 ·injection hv with _ _ e
  subst e; exact hm
section
variable {fn : Func} {F : Ending → World → Prop} {N : Nat} {ks : List K} {ops : Array Oper} {tg : Tags} {l : List Oper} {fr : Fr} {w : World} {ty : TypeId} {pos : String} {aft : Array Edge} {gd : Option (Nat × Bool)} {d : Nat} {x y : Operand}
end
end Go.Proofs.YtahkeoegbjopfaaGreat
/-
  Rows of numbers of any kind (one cell each), of the call's own: made, read, written, appended. No function of the program is named here.
-/
namespace Go.Proofs.YtahkeoegbjopfaaGreat
set_option maxRecDepth 100000
open Go.RowKit
section
variable {k : IntKind} {w w' : World} {lo hi c b : Nat} {e e' : TypeId} {A : Option Addr} {l : List Nat} {row : Option Nat}
end
section
variable {P : Program} {fn : Func} {F : Ending → World → Prop} {N : Nat} {ks : List K} {ops : Array Oper} {tg : Tags} {l : List Oper} {fr : Fr} {w : World} {ty t e : TypeId} {z : Value} {k k1 k2 : IntKind} {pos : String} {aft : Array Edge} {gd : Option (Nat × Bool)} {d n c a j q lo hi bytes : Nat} {x y : Operand} {A X : Option Addr} {zs ms : List Nat}
end
end Go.Proofs.YtahkeoegbjopfaaGreat
/-
  A byte of a row of the call's own is written; two bytes combined. No function of the program is named here.
-/
namespace Go.Proofs.YtahkeoegbjopfaaGreat
set_option maxRecDepth 100000
open Go.RowKit
section
variable {P : Program} {fn : Func} {F : Ending → World → Prop} {N : Nat} {ks : List K} {ops : Array Oper} {tg : Tags} {l : List Oper} {fr : Fr} {w : World} {ty t t' : TypeId} {pos : String} {aft : Array Edge} {gd : Option (Nat × Bool)} {c j lo hi : Nat} {x y : Operand} {A : Option Addr} {bs : List UInt8} {u v : UInt8}
theorem o_loadCut {N g i n : Nat} {fr : Fr} {w : World} {ty t t' : TypeId} {x : Operand} {cs vs : List Value} (ha' : ∀ w, (isAgg t).run P w = .ok true w) (hs : ∀ w, (sizeOf t).run P w = .ok n w) (hx : fr.ev x = some (.pointer (some ⟨g, i, none⟩))) (hB : Blk w g t' cs) (hv : (cs.drop i).take n = vs) (hn : vs.length = n) : OpV P N fr w (.load t x) ty (.agg vs.toArray) w := by
 subst hn
 refine o_loadn ha' hs hx (fun j u hj => ?_)
 rw [add_plain, hB.cell]
 rw [← hv] at hj
 have hj2 : j < vs.length := by
  rcases Nat.lt_or_ge j vs.length with h | h
  ·exact h
  ·rw [List.getElem?_eq_none (by rw [List.length_take]; omega)] at hj; cases hj
 rw [List.getElem?_take_of_lt hj2, List.getElem?_drop] at hj
 exact hj
end
end Go.Proofs.YtahkeoegbjopfaaGreat
/-
  Rows of keys (arrays of 32 bytes) and of items, as they lie in memory.
-/
namespace Go.Proofs.YtahkeoegbjopfaaGreat
set_option maxRecDepth 100000
open Go.RowKit
abbrev Ky := { l : List UInt8 // l.length = 32 }
def z32 : Ky := ⟨List.replicate 32 0, rfl⟩
theorem gArr_tys (n : Nat) : (gArr n).tys = [] := rfl
def RKs (w : World) (A : Option Addr) (L : List Ky) : Prop := RSl (gArr 32) w A L
def RKT (w : World) (A : Option Addr) (L : List Ky) : Prop := RSlT (gArr 32) 42 w A L
def OwnKs (w : World) (lo hi : Nat) (A : Option Addr) (c : Nat) (L : List Ky) : Prop := OwnS (gArr 32) 42 w lo hi A c L
def RIT (w : World) (A : Option Addr) (L : List (By × By)) : Prop := RSlT gItem 94 w A L
def OwnI (w : World) (lo hi : Nat) (A : Option Addr) (c : Nat) (L : List (By × By)) : Prop := OwnS gItem 94 w lo hi A c L
section
variable {w w' : World} {lo hi lo' hi' cp b : Nat} {A : Option Addr} {S : List Ky} {L : List (By × By)} {e' : TypeId} {row : Option Nat}
theorem RKs.u (h : RKs w A S) (hb : Below w.heap.size w w') : RKs w' A S := RSl.u h hb
theorem RKs.some_ (h : RKs w A S) (hl : 0 < S.length) : A = some (A.getD ⟨0, 0, none⟩) := RSl.some_ h (show 0 < 32 by decide) hl
theorem RKs.cells (h : RKs w A S) {j : Nat} (hj : j < S.length) : CellsAt w A (j * 32) (B8 S[j].1) := by
 obtain ⟨cs, h1, h2⟩ := RSl.elem h (show 0 < 32 by decide) hj
 obtain ⟨rfl⟩ : cs = B8 S[j].1 := h2
 exact h1
theorem RKT.u (h : RKT w A S) (hb : Below w.heap.size w w') : RKT w' A S := RSlT.u h hb
theorem RKT.d (h : RKT w A S) : RKT w.drew A S := RSlT.d h
theorem RKT.y (h : RKT w A S) (hg : Grew w w' e' row) (hne : e' ∉ [42]) : RKT w' A S := RSlT.y h hg hne
theorem RKT.to_RKs (h : RKT w A S) : RKs w A S := RSlT.to_RSl h
theorem OwnKs.u (h : OwnKs w lo hi A cp S) (hb : Below w.heap.size w w') : OwnKs w' lo hi A cp S := OwnS.u h hb
theorem OwnKs.d (h : OwnKs w lo hi A cp S) : OwnKs w.drew lo hi A cp S := OwnS.d h
theorem OwnKs.y (h : OwnKs w lo hi A cp S) (hg : Grew w w' e' row) (hne : e' ∉ [42]) : OwnKs w' lo hi A cp S := OwnS.y h hg hne
theorem OwnKs.q (h : OwnKs w lo hi A cp S) (hg : Grew w w' e' row) (ha : Ap row lo hi) (hne : e' ∉ []) : OwnKs w' lo hi A cp S := OwnS.q h hg ha hne
theorem OwnKs.ap (h : OwnKs w lo hi A cp S) (hd : hi ≤ lo' ∨ hi' ≤ lo) : Ap (blk A) lo' hi' := OwnS.ap h hd
theorem OwnKs.cap (h : OwnKs w lo hi A cp S) : S.length ≤ cp := OwnS.cap h
theorem OwnKs.nil_ : OwnKs w lo hi none 0 [] := OwnS.nil_
theorem OwnKs.base (h : OwnKs w lo hi A cp S) (h1 : lo' ≤ lo) (h2 : hi ≤ hi') : OwnKs w lo' hi' A cp S := OwnS.base h h1 h2
theorem OwnKs.to_RKT (h : OwnKs w lo hi A cp S) : RKT w A S := OwnS.to_RSlT h
theorem OwnKs.to_RKs (h : OwnKs w lo hi A cp S) : RKs w A S := OwnS.to_RSl h
theorem RIT.u (h : RIT w A L) (hb : Below w.heap.size w w') : RIT w' A L := RSlT.u h hb
theorem RIT.d (h : RIT w A L) : RIT w.drew A L := RSlT.d h
theorem RIT.y (h : RIT w A L) (hg : Grew w w' e' row) (hne : e' ∉ 94 :: gItem.tys) : RIT w' A L := RSlT.y h hg hne
theorem RIT.to_RI (h : RIT w A L) : RI w A L := RSlT.to_RSl h
theorem OwnI.u (h : OwnI w lo hi A cp L) (hb : Below w.heap.size w w') : OwnI w' lo hi A cp L := OwnS.u h hb
theorem OwnI.d (h : OwnI w lo hi A cp L) : OwnI w.drew lo hi A cp L := OwnS.d h
theorem OwnI.y (h : OwnI w lo hi A cp L) (hg : Grew w w' e' row) (hne : e' ∉ 94 :: gItem.tys) : OwnI w' lo hi A cp L := OwnS.y h hg hne
theorem OwnI.q (h : OwnI w lo hi A cp L) (hg : Grew w w' e' row) (ha : Ap row lo hi) (hne : e' ∉ gItem.tys) : OwnI w' lo hi A cp L := OwnS.q h hg ha hne
theorem OwnI.ap (h : OwnI w lo hi A cp L) (hd : hi ≤ lo' ∨ hi' ≤ lo) : Ap (blk A) lo' hi' := OwnS.ap h hd
theorem OwnI.cap (h : OwnI w lo hi A cp L) : L.length ≤ cp := OwnS.cap h
theorem OwnI.nil_ : OwnI w lo hi none 0 [] := OwnS.nil_
theorem OwnI.base (h : OwnI w lo hi A cp L) (h1 : lo' ≤ lo) (h2 : hi ≤ hi') : OwnI w lo' hi' A cp L := OwnS.base h h1 h2
theorem OwnI.to_RIT (h : OwnI w lo hi A cp L) : RIT w A L := OwnS.to_RSlT h
theorem OwnI.to_RI (h : OwnI w lo hi A cp L) : RI w A L := OwnS.to_RSl h
end
theorem gKey_one (w : World) (cs : List Value) (s : Ky) (h : (gArr 32).T w cs s) : ∀ u ∈ cs, u.oneCell' = true := by
 obtain ⟨rfl⟩ : cs = B8 s.1 := h
 exact B8_oneCell _
theorem gItem_one (w : World) (cs : List Value) (r : By × By) (h : gItem.T w cs r) : ∀ u ∈ cs, u.oneCell' = true := by
 obtain ⟨_, _, rfl, ⟨A, c, rfl, _⟩, B, d, rfl, _⟩ := h
 intro u hu
 simp only [List.cons_append, List.nil_append, List.mem_cons, List.not_mem_nil, or_false] at hu
 rcases hu with rfl | rfl <;> rfl
theorem gItem_tys : gItem.tys = [5, 5] := rfl
theorem Tryz.rowKs : RowT Tryz.prog 29 42 (.agg (B8 z32.1).toArray) 32 32 := ⟨Tryz.underlying29, by kernel_rfl, rfl, by omega⟩
theorem Tryz.rowItem : RowT Tryz.prog 28 94 (.agg #[.slice none 0 0, .slice none 0 0]) 2 48 := ⟨Tryz.underlying28, by kernel_rfl, rfl, by omega⟩
theorem Tryz.eqg_Key : Tryz.prog.eqGuardType Tryz.prog.depth 42 = false := by kernel_rfl
section
variable {fn : Func} {F : Ending → World → Prop} {N : Nat} {ks : List K} {ops : Array Oper} {tg : Tags} {l : List Oper} {fr : Fr} {w w0 : World} {ty t' : TypeId} {pos : String} {aft : Array Edge} {gd : Option (Nat × Bool)} {k1 k2 : IntKind} {d n j q c lo hi : Nat} {x y : Operand} {A B : Option Addr} {S M : List Ky} {s u v : Ky} {L I : List (By × By)}
theorem o_eqKy (hx : fr.ev x = some (.agg (B8 u.1).toArray)) (hy : fr.ev y = some (.agg (B8 v.1).toArray)) : OpV Tryz.prog N fr w (.binOp .eql 42 x y t') ty (.bool (decide (u = v))) w := by
 have h := o_aeq (P := Tryz.prog) (N := N) (fr := fr) (w := w) (ty := ty) (t' := t') Tryz.underlying42 Tryz.underlying5 Tryz.sizeOf5 Tryz.eqg_Key hx hy u.2 v.2
 rwa [show decide (u.1 = v.1) = decide (u = v) from decide_eq_decide.2 Subtype.ext_iff.symm] at h
theorem o_neKy (hx : fr.ev x = some (.agg (B8 u.1).toArray)) (hy : fr.ev y = some (.agg (B8 v.1).toArray)) : OpV Tryz.prog N fr w (.binOp .neq 42 x y t') ty (.bool (decide (u ≠ v))) w := by
 have h := o_ane (P := Tryz.prog) (N := N) (fr := fr) (w := w) (ty := ty) (t' := t') Tryz.underlying42 Tryz.underlying5 Tryz.sizeOf5 Tryz.eqg_Key hx hy u.2 v.2
 rwa [show decide (u.1 ≠ v.1) = decide (u ≠ v) from decide_eq_decide.2 (not_congr Subtype.ext_iff.symm)] at h
theorem o_ldKs (hx : fr.ev x = some (.pointer (some (adr A (j * 32))))) (hr : RKs w0 A S) (hb : Below w0.heap.size w0 w) (hj : j < S.length) : OpV Tryz.prog N fr w (.load 42 x) ty (.agg (B8 S[j].1).toArray) w :=
 o_loadn (cs := B8 S[j].1) Tryz.isAgg42 (by rw [B8_length, S[j].2]; exact Tryz.sizeOf42) hx (fun i u hu => by rw [adr_add]; exact (hr.u hb).cells hj i u hu)
theorem wl_litKs0 {ps : Array (Nat × Operand)} {xs : List Operand} (hxs : ps.toList.map Prod.snd = xs) (hx : fr.evs xs = some []) (hps : ps = ((List.range' 0 0).zip xs).toArray)
  (hk : ∀ A w', OwnKs w' w.heap.size w'.heap.size A 0 [] → Below w.heap.size w w' → WL Tryz.prog fn F N ks ops tg.tail l ((d, .slice A 0 0) :: fr) w')
  (ht : tg.loud = true := by rfl) (hg : onG ops fr gd = true := by rfl) (hd : Nat.blt d N = true := by rfl) : WL Tryz.prog fn F N ks ops tg (⟨some d, .buildSlice 29 0 ps, ty, pos, aft, gd⟩ :: l) fr w :=
 wl_litS (X := gArr 32) (L := []) Tryz.rowKs Tryz.sizeOf42 Tryz.zeroValue42 hxs hps hx rfl rfl (fun i h => absurd h (Nat.not_lt_zero _)) rfl hk ht hg hd
theorem wl_litKs1 {ps : Array (Nat × Operand)} {xs : List Operand} (hxs : ps.toList.map Prod.snd = xs) (hx : fr.evs xs = some [.agg (B8 s.1).toArray]) (hps : ps = ((List.range' 0 1).zip xs).toArray)
  (hk : ∀ A w', OwnKs w' w.heap.size w'.heap.size A 1 [s] → Below w.heap.size w w' → WL Tryz.prog fn F N ks ops tg.tail l ((d, .slice A 1 1) :: fr) w')
  (ht : tg.loud = true := by rfl) (hg : onG ops fr gd = true := by rfl) (hd : Nat.blt d N = true := by rfl) : WL Tryz.prog fn F N ks ops tg (⟨some d, .buildSlice 29 1 ps, ty, pos, aft, gd⟩ :: l) fr w := by
 refine wl_litS (X := gArr 32) (L := [s]) Tryz.rowKs Tryz.sizeOf42 Tryz.zeroValue42 hxs hps hx rfl rfl (fun i h => ?_) rfl hk ht hg hd
 obtain rfl : i = 0 := by simp at h; omega
 exact ⟨_, rfl, by show (B8 s.1).toArray.size = 32; rw [List.size_toArray, B8_length, s.2], rfl⟩
theorem wl_appKs (hx : fr.ev x = some (.slice A n c)) (hown : OwnKs w lo hi A c S) (hn : n = S.length) (hy : fr.ev y = some (.slice B j q)) (hr : RKT w B M) (hj : j = M.length) (hlen : S.length + M.length ≤ 1000000) (hB : lo ≤ w.heap.size)
  (h : ∀ A' c' w', OwnKs w' lo w'.heap.size A' c' (S ++ M) → Grew w w' 42 (blk A) → Below lo w w' → WL Tryz.prog fn F N ks ops tg.tail l ((d, .slice A' (S ++ M).length c') :: fr) w')
  (ht : tg.loud = true := by rfl) (hg : onG ops fr gd = true := by rfl) (hd : Nat.blt d N = true := by rfl) (hq : tg.calm = false ∨ blk A = none ∨ blk A = tg.row := by exact .inl rfl) :
  WL Tryz.prog fn F N ks ops tg (⟨some d, .call { callee := .builtin .append, args := #[x, y], argTypes := #[29, 29] }, ty, pos, aft, gd⟩ :: l) fr w :=
 wl_appS (X := gArr 32) Tryz.rowKs hx hown hn hy hr hj (by simp [gArr_tys]) gKey_one (by have := Nat.mul_le_mul_right 32 hlen; omega) (by omega) hB (fun A' c' w' h1 h2 h3 _ => h A' c' w' h1 h2 h3) ht hg hd hq
theorem wl_litItm {ps : Array (Nat × Operand)} {xs : List Operand} {A1 A2 : Option Addr} {n1 c1 n2 c2 : Nat} {p1 p2 : By} (hxs : ps.toList.map Prod.snd = xs) (hx : fr.evs xs = some [.agg #[.slice A1 n1 c1, .slice A2 n2 c2]]) (h1 : RdT w A1 p1) (h2 : RdT w A2 p2) (hn1 : n1 = p1.length) (hn2 : n2 = p2.length) (hc1 : p1.length ≤ c1) (hc2 : p2.length ≤ c2) (hm1 : c1 ≤ maxLen) (hm2 : c2 ≤ maxLen) (hps : ps = ((List.range' 0 1).zip xs).toArray)
  (hk : ∀ A w', OwnI w' w.heap.size w'.heap.size A 1 [(p1, p2)] → Below w.heap.size w w' → WL Tryz.prog fn F N ks ops tg.tail l ((d, .slice A 1 1) :: fr) w')
  (ht : tg.loud = true := by rfl) (hg : onG ops fr gd = true := by rfl) (hd : Nat.blt d N = true := by rfl) : WL Tryz.prog fn F N ks ops tg (⟨some d, .buildSlice 28 1 ps, ty, pos, aft, gd⟩ :: l) fr w := by
 subst hn1; subst hn2
 refine wl_litS (X := gItem) (L := [(p1, p2)]) Tryz.rowItem Tryz.sizeOf94 Tryz.zeroValue94 hxs hps hx rfl rfl (fun i h => ?_) rfl hk ht hg hd
 obtain rfl : i = 0 := by simp at h; omega
 exact ⟨_, rfl, rfl, [.slice A1 p1.length c1], [.slice A2 p2.length c2], rfl, ⟨A1, c1, rfl, h1, hc1, hm1⟩, ⟨A2, c2, rfl, h2, hc2, hm2⟩⟩
theorem wl_appItm (hx : fr.ev x = some (.slice A n c)) (hown : OwnI w lo hi A c L) (hn : n = L.length) (hy : fr.ev y = some (.slice B j q)) (hr : RIT w B I) (hj : j = I.length) (hlen : L.length + I.length ≤ 1000000) (hB : lo ≤ w.heap.size)
  (h : ∀ A' c' w', OwnI w' lo w'.heap.size A' c' (L ++ I) → Grew w w' 94 (blk A) → Below lo w w' → WL Tryz.prog fn F N ks ops tg.tail l ((d, .slice A' (L ++ I).length c') :: fr) w')
  (ht : tg.loud = true := by rfl) (hg : onG ops fr gd = true := by rfl) (hd : Nat.blt d N = true := by rfl) (hq : tg.calm = false ∨ blk A = none ∨ blk A = tg.row := by exact .inl rfl) :
  WL Tryz.prog fn F N ks ops tg (⟨some d, .call { callee := .builtin .append, args := #[x, y], argTypes := #[28, 28] }, ty, pos, aft, gd⟩ :: l) fr w :=
 wl_appS (X := gItem) Tryz.rowItem hx hown hn hy hr hj (by simp [gItem_tys]) gItem_one (by have := Nat.mul_le_mul_right 48 hlen; omega) (by omega) hB (fun A' c' w' h1 h2 h3 _ => h A' c' w' h1 h2 h3) ht hg hd hq
end
end Go.Proofs.YtahkeoegbjopfaaGreat
/-
  Bytes compared: bytes.Compare (the runtime's comparison).
-/
namespace Go.Proofs.YtahkeoegbjopfaaGreat
set_option maxRecDepth 100000
open Go.RowKit
theorem cmpL_bytes : ∀ (a b : List UInt8), Lib.compareBytes a b = cmpL a b
 | [], [] => rfl
 | [], _ :: _ => rfl
 | _ :: _, [] => rfl
 | x :: a, y :: b => by
  simp only [Lib.compareBytes, cmpL, cmpL_bytes a b]
  by_cases h : x = y
  ·subst h
   rw [if_neg (by simp), if_neg (by simp), if_pos rfl]
  ·rw [if_neg h]
   have h1 : x.toNat ≠ y.toNat := fun e => h (UInt8.toNat_inj.1 e)
   by_cases h2 : x.toNat < y.toNat
   ·rw [if_pos (show x < y from h2), if_pos h2]
   ·rw [if_neg (show ¬ x < y from h2), if_neg h2, if_pos (show y < x from (show y.toNat < x.toNat by omega))]
theorem run_loadBytes {P : Program} (w : World) (b : Nat) : ∀ (l : List UInt8) (o : Nat) (acc : ByteArray), (∀ j (h : j < l.length), w.cell? ⟨b, o + j, none⟩ = some (.int .u8 (l[j].toNat : Int))) →
  (Extern.Bytes.loadBytes ⟨b, o, none⟩ l.length acc).run P w = .ok ⟨acc.data ++ l.toArray⟩ w
 | [], o, acc, _ => by
  show Result.ok acc w = _
  simp
 | x :: l, o, acc, h => by
  have h0 := h 0 (by simp)
  have ih := run_loadBytes (P := P) w b l (o + 1) (acc.push x) (fun j hj => by
   have := h (j + 1) (by simpa using hj)
   rw [show o + 1 + j = o + (j + 1) by omega]
   simpa using this)
  simp only [Nat.add_zero, List.getElem_cons_zero] at h0
  simp only [List.length_cons, Extern.Bytes.loadBytes, Sem.run_bind, run_load, h0, Result.andThen]
  have e : (x.toNat : Int).toNat.toUInt8 = x := by simp
  rw [e]
  rw [show (⟨b, o, none⟩ : Addr).add 1 = ⟨b, o + 1, none⟩ from rfl, ih]
  congr 1
  simp [ByteArray.push]
theorem run_bytesOf {P : Program} {w : World} {A : Option Addr} {l : List UInt8} {c : Nat} (h : Rd w A l) : (Extern.Bytes.bytesOf (.slice A l.length c)).run P w = .ok ⟨l.toArray⟩ w := by
 by_cases hl : l = []
 ·subst hl
  rcases A with _ | ⟨b, o, p⟩
  ·rfl
  ·rfl
 ·obtain ⟨b, o, rfl, _, hc⟩ := h.at_ hl
  have := run_loadBytes (P := P) w b l o .empty hc
  simpa [Extern.Bytes.bytesOf] using this
section
variable {fn : Func} {N : Nat} {fr : Fr} {w w0 : World} {ty : TypeId} {x y z : Operand} {ts : Array TypeId}
theorem o_bcmp {A B : Option Addr} {a b : List UInt8} {n m c d : Nat} (hx : fr.ev x = some (.slice A n c)) (hy : fr.ev y = some (.slice B m d)) (ha : Rd w A a) (hb : Rd w B b) (hn : n = a.length) (hm : m = b.length) :
  OpV Tryz.prog N fr w (.call { callee := .value (.func 167), args := #[x, y], argTypes := ts }) ty (.int .i64 (cmpL a b)) w := fun ac hac o ho _ => by
 subst hn; subst hm
 have e1 : (Extern.BytealgCompare.compare #[.slice A a.length c, .slice B b.length d]).run Tryz.prog w = .ok (.int .i64 (cmpL a b)) w := by
  change Sem.run Tryz.prog (do pure (goInt (Extern.BytealgCompare.cmp (← Extern.Bytes.bytesOf (.slice A a.length c)) (← Extern.Bytes.bytesOf (.slice B b.length d))))) w = _
  simp only [Sem.run_bind, run_bytesOf ha, run_bytesOf hb, Sem.run_pure, Result.andThen]
  rw [Lib.cmp_eq, cmpL_bytes]
  rfl
 have hrun : (callFunc 167 #[.slice A a.length c, .slice B b.length d]).run Tryz.prog w = .ok (.value (.int .i64 (cmpL a b))) w := by
  rw [run_callFunc_extern Tryz.func167 (by kernel_rfl) (by kernel_rfl) (by kernel_rfl) (e := Extern.BytealgCompare.compare) (by kernel_rfl), e1]
  rfl
 have hfn : ac.eval (.func 167) = .func (.func 167) #[] #[] := rfl
 simp [execOp, ho, resolve, invoke, Deferred.ofValue, hac.ev hx, hac.ev hy, hfn, hrun]
end
theorem C_bCompare {A B : Option Addr} {a b : List UInt8} {n m c d : Nat} (w : World) (ha : Rd w A a) (hb : Rd w B b) (hn : n = a.length) (hm : m = b.length) :
  CallsR Tryz.prog 128 [.slice A n c, .slice B m d] w fun v w' => v = .int .i64 (cmpL a b) ∧ w' = w := by
 subst hn; subst hm
 refine callsR Tryz.func128 rfl rfl (by kernel_rfl) rfl ?_
 refine rk_seq ?_
 refine rk_region ?_
 refine wl_p (fun _ => o_assign rfl) ?_
 refine wl_nil ?_
 refine rk_seq ?_
 refine rk_region ?_
 refine wl_p (fun _ => o_move rfl) ?_
 refine wl_p (fun _ => o_move rfl) ?_
 refine wl_r (o_bcmp rfl rfl ha hb rfl rfl) ?_
 refine wl_p (fun _ => o_assign rfl) ?_
 refine wl_nil ?_
 refine ret1 rfl rfl ?_
 exact ⟨rfl, rfl⟩
end Go.Proofs.YtahkeoegbjopfaaGreat
/-
  Bytes as strings.
-/
namespace Go.Proofs.YtahkeoegbjopfaaGreat
set_option maxRecDepth 100000
open Go.RowKit
section
variable {N : Nat} {fr : Fr} {w w0 : World} {ty : TypeId} {x : Operand}
end
end Go.Proofs.YtahkeoegbjopfaaGreat
/-
  A copy of bytes: bytes.Clone.
-/
namespace Go.Proofs.YtahkeoegbjopfaaGreat
set_option maxRecDepth 100000
open Go.RowKit
section
variable {P : Program} {N : Nat} {fr : Fr} {w : World} {ty t t' : TypeId} {x y : Operand}
theorem run_equal_slice_nil {e : TypeId} (hu : P.underlying t = some (.slice e)) (A : Option Addr) (n c : Nat) : (Op.equal t (.slice A n c) (.slice none 0 0)).run P w = .ok A.isNone w := by
 have h : ∀ d : Nat, (Op.equalIn (d + 1) t (.slice A n c) (.slice none 0 0)).run P w = .ok A.isNone w := fun d => by
  cases A <;> simp [Op.equalIn, run_underlying hu]
 exact h 9999
theorem o_sleqN {e : TypeId} {A : Option Addr} {n c : Nat} (hu : P.underlying t = some (.slice e)) (hx : fr.ev x = some (.slice A n c)) (hy : fr.ev y = some (.slice none 0 0)) : OpV P N fr w (.binOp .eql t x y t') ty (.bool A.isNone) w :=
 o_bin hx hy (fun _ _ => by simp [go_sem]) (by simp only [binOp]; simp [run_equal_slice_nil hu])
end
set_option maxRecDepth 100000 in
theorem C_bClone {A : Option Addr} {p : List UInt8} {n c : Nat} (w : World) (hp : Rd w A p) (hn : n = p.length) (hl : p.length ≤ 4000000000) :
  CallsR Tryz.prog 64 [.slice A n c] w fun v w' => ∃ A' c', v = .slice A' p.length c' ∧ OwnH w' w.heap.size w'.heap.size A' c' p ∧ Below w.heap.size w w' := by
 subst hn
 rcases A with _ | ad
 ·obtain rfl : p = [] := by
   rcases p with _ | ⟨a, p⟩
   ·rfl
   ·obtain ⟨_, _, e, _⟩ := hp.2 (by simp [B8]); cases e
  refine callsR Tryz.func64 rfl rfl (by kernel_rfl) rfl ?_
  have hw := Below.refl w.heap.size w
  refine rk_seq ?_
  refine rk_region ?_
  refine wl_p (fun _ => o_assign rfl) ?_
  refine wl_nil ?_
  refine rk_seq ?_
  refine rk_seq ?_
  refine rk_region ?_
  refine wl_p (fun _ => o_move rfl) ?_
  refine wl_p (fun _ => (o_sleqN Tryz.underlying39 rfl rfl)) ?_
  refine wl_nil ?_
  refine rk_true rfl ?_
  refine rk_seq ?_
  refine rk_region ?_
  refine wl_p (fun _ => o_assign rfl) ?_
  refine wl_nil ?_
  refine ret1 rfl rfl ?_
  exact ⟨none, 0, rfl, OwnH.nil_, hw⟩
 ·refine callsR Tryz.func64 rfl rfl (by kernel_rfl) rfl ?_
  have hw := Below.refl w.heap.size w
  refine rk_seq ?_
  refine rk_region ?_
  refine wl_p (fun _ => o_assign rfl) ?_
  refine wl_nil ?_
  refine rk_seq ?_
  refine rk_seq ?_
  refine rk_region ?_
  refine wl_p (fun _ => o_move rfl) ?_
  refine wl_p (fun _ => (o_sleqN Tryz.underlying39 rfl rfl)) ?_
  refine wl_nil ?_
  refine rk_false rfl ?_
  refine rk_skip ?_
  refine rk_seq ?_
  refine rk_region ?_
  refine wl_litB [] Tryz.u8 Tryz.sizeOf5 Tryz.zeroValue5 (by rfl) rfl rfl (by rfl) (by rfl) (by rfl) ?_
  rintro A5 w5 f5 b5
  have qf5 := f5.cap
  have s5 := b5.size
  replace hw := hw.trans (b5.mono hw.size)
  refine wl_p (fun _ => o_move rfl) ?_
  refine wl_appB Tryz.u8 rfl f5 (by rfl) rfl (hp.u hw) rfl (by omega) hw.size ?_
  rintro A7 c7 w7 f7 g7 b7 i7
  have qf7 := f7.cap
  have s7 := g7.size
  replace hw := hw.trans (b7.mono (by omega))
  clear f5
  refine wl_p (fun _ => o_assign rfl) ?_
  refine wl_nil ?_
  rw [List.nil_append] at f7 ⊢
  refine ret1 rfl rfl ?_
  exact ⟨_, _, rfl, f7, hw⟩
end Go.Proofs.YtahkeoegbjopfaaGreat
/-
  Walks of package ops: what an op is, whether it is valid.
-/
namespace Go.Proofs.YtahkeoegbjopfaaGreat
set_option maxRecDepth 100000
open Go.RowKit
def opC (k : Int) (K : Option Addr) (n c : Nat) (V : Option Addr) (m d : Nat) (u : Ky) : List Value := [.int .i64 k, .slice K n c, .slice V m d] ++ B8 u.1
theorem opC_length (k : Int) (K : Option Addr) (n c : Nat) (V : Option Addr) (m d : Nat) (u : Ky) : (opC k K n c V m d u).length = 35 := by simp [opC, B8_length, u.2]
theorem opC_cut (k : Int) (K : Option Addr) (n c : Nat) (V : Option Addr) (m d : Nat) (u : Ky) : ((opC k K n c V m d u).drop (0 + 3)).take 32 = B8 u.1 := by
 show (B8 u.1).take 32 = B8 u.1
 rw [List.take_of_length_le (by rw [B8_length, u.2]; omega)]
section
variable {N : Nat} {fr : Fr} {w : World} {ty t' : TypeId} {x : Operand} {g : Nat}
theorem o_ldWho {k : Int} {K V : Option Addr} {n c m d : Nat} {u : Ky} (hx : fr.ev x = some (.pointer (some ⟨g, 0 + 3, none⟩))) (hB : Blk w g t' (opC k K n c V m d u)) : OpV Tryz.prog N fr w (.load 42 x) ty (.agg (B8 u.1).toArray) w :=
 o_loadCut Tryz.isAgg42 Tryz.sizeOf42 hx hB (opC_cut ..) (by rw [B8_length, u.2])
theorem o_zKey : OpV Tryz.prog N fr w (.build 42 #[]) ty (.agg (B8 z32.1).toArray) w :=
 o_build (is := []) (xs := []) rfl (fun _ => by kernel_rfl)
end
def goodS (k : Int) (n m : Nat) (u : Ky) : Bool :=
 if k = 1 then decide (1 ≤ n ∧ n ≤ 16) && decide (m ≤ 32) && decide (u = z32)
 else if k = 2 then decide (1 ≤ n ∧ n ≤ 16) && decide (m = 0) && decide (u = z32)
 else decide (n = 0) && decide (m = 0)
theorem C_goodPut {K V : Option Addr} {n c m d : Nat} {k : Int} {u : Ky} (w : World) (hn : n ≤ 4000000000) (hm : m ≤ 4000000000) :
  CallsR Tryz.prog 69 [.agg (opC k K n c V m d u).toArray] w fun v w' => v = .bool (goodS 1 n m u) ∧ Below w.heap.size w w' := by
 refine callsR Tryz.func69 rfl rfl (by kernel_rfl) rfl ?_
 have hw := Below.refl w.heap.size w
 by_cases h1 : 1 ≤ n ∧ n ≤ 16
 ·by_cases h2 : m ≤ 32
  ·refine rk_seq ?_
   refine rk_region ?_
   refine wl_boxg _ rfl (by rfl) ?_
   rintro g1 w1 f1 b1 i1 i1_1
   have s1 := b1.size
   replace hw := hw.trans (b1.mono hw.size)
   refine wl_p (fun _ => o_assign rfl) ?_
   refine wl_nil ?_
   refine rk_seq ?_
   refine rk_region ?_
   refine wl_p (fun _ => o_faddr (s := 54) (i := 1) (off := 1) Tryz.underlying54 rfl Tryz.sizeOf39 rfl rfl rfl) ?_
   refine wl_r (o_loadbg Tryz.isAgg39 rfl f1 (by rfl)) ?_
   refine wl_call rfl (C_leafKey _ (by omega)) ?_
   rintro v5 w5 ⟨rfl, rfl⟩
   refine wl_p (fun _ => o_move rfl) ?_
   refine wl_know 6 true rfl (decide_eq_true (by omega)) ?_
   refine wl_p (fun _ => o_faddr (s := 54) (i := 2) (off := 2) Tryz.underlying54 rfl Tryz.sizeOf39 rfl rfl rfl) ?_
   refine wl_r (o_loadbg Tryz.isAgg39 rfl f1 (by rfl)) ?_
   refine wl_call rfl (C_leafValue _ (by omega)) ?_
   rintro v9 w9 ⟨rfl, rfl⟩
   refine wl_p (fun _ => o_pick_t rfl rfl) ?_
   refine wl_p (fun _ => o_move rfl) ?_
   refine wl_know 11 true rfl (decide_eq_true (by omega)) ?_
   refine wl_p (fun _ => o_faddr (s := 54) (i := 3) (off := 3) Tryz.underlying54 rfl Tryz.sizeOf42 rfl rfl rfl) ?_
   refine wl_r (o_ldWho rfl f1) ?_
   refine wl_p (fun _ => (o_zKey)) ?_
   refine wl_p (fun _ => (o_eqKy rfl rfl)) ?_
   refine wl_p (fun _ => o_pick_t rfl rfl) ?_
   refine wl_p (fun _ => o_assign rfl) ?_
   refine wl_nil ?_
   refine ret1 rfl rfl ?_
   exact ⟨by simp [goodS, h1, h2], hw⟩
  ·refine rk_seq ?_
   refine rk_region ?_
   refine wl_boxg _ rfl (by rfl) ?_
   rintro g1 w1 f1 b1 i1 i1_1
   have s1 := b1.size
   replace hw := hw.trans (b1.mono hw.size)
   refine wl_p (fun _ => o_assign rfl) ?_
   refine wl_nil ?_
   refine rk_seq ?_
   refine rk_region ?_
   refine wl_p (fun _ => o_faddr (s := 54) (i := 1) (off := 1) Tryz.underlying54 rfl Tryz.sizeOf39 rfl rfl rfl) ?_
   refine wl_r (o_loadbg Tryz.isAgg39 rfl f1 (by rfl)) ?_
   refine wl_call rfl (C_leafKey _ (by omega)) ?_
   rintro v5 w5 ⟨rfl, rfl⟩
   refine wl_p (fun _ => o_move rfl) ?_
   refine wl_know 6 true rfl (decide_eq_true (by omega)) ?_
   refine wl_p (fun _ => o_faddr (s := 54) (i := 2) (off := 2) Tryz.underlying54 rfl Tryz.sizeOf39 rfl rfl rfl) ?_
   refine wl_r (o_loadbg Tryz.isAgg39 rfl f1 (by rfl)) ?_
   refine wl_call rfl (C_leafValue _ (by omega)) ?_
   rintro v9 w9 ⟨rfl, rfl⟩
   refine wl_p (fun _ => o_pick_t rfl rfl) ?_
   refine wl_p (fun _ => o_move rfl) ?_
   refine wl_know 11 false rfl (decide_eq_false (by omega)) ?_
   refine wl_off ?_
   refine wl_off ?_
   refine wl_off ?_
   refine wl_off ?_
   refine wl_p (fun _ => o_pick_f rfl rfl) ?_
   refine wl_p (fun _ => o_assign rfl) ?_
   refine wl_nil ?_
   refine ret1 rfl rfl ?_
   exact ⟨by simp [goodS, h2], hw⟩
 ·refine rk_seq ?_
  refine rk_region ?_
  refine wl_boxg _ rfl (by rfl) ?_
  rintro g1 w1 f1 b1 i1 i1_1
  have s1 := b1.size
  replace hw := hw.trans (b1.mono hw.size)
  refine wl_p (fun _ => o_assign rfl) ?_
  refine wl_nil ?_
  refine rk_seq ?_
  refine rk_region ?_
  refine wl_p (fun _ => o_faddr (s := 54) (i := 1) (off := 1) Tryz.underlying54 rfl Tryz.sizeOf39 rfl rfl rfl) ?_
  refine wl_r (o_loadbg Tryz.isAgg39 rfl f1 (by rfl)) ?_
  refine wl_call rfl (C_leafKey _ (by omega)) ?_
  rintro v5 w5 ⟨rfl, rfl⟩
  refine wl_p (fun _ => o_move rfl) ?_
  refine wl_know 6 false rfl (decide_eq_false (by omega)) ?_
  refine wl_off ?_
  refine wl_off ?_
  refine wl_off ?_
  refine wl_p (fun _ => o_pick_f rfl rfl) ?_
  refine wl_p (fun _ => o_move rfl) ?_
  refine wl_off ?_
  refine wl_off ?_
  refine wl_off ?_
  refine wl_off ?_
  refine wl_p (fun _ => o_pick_f rfl rfl) ?_
  refine wl_p (fun _ => o_assign rfl) ?_
  refine wl_nil ?_
  refine ret1 rfl rfl ?_
  exact ⟨by simp [goodS, h1], hw⟩
theorem C_goodDelete {K V : Option Addr} {n c m d : Nat} {k : Int} {u : Ky} (w : World) (hn : n ≤ 4000000000) (hm : m ≤ 4000000000) :
  CallsR Tryz.prog 73 [.agg (opC k K n c V m d u).toArray] w fun v w' => v = .bool (goodS 2 n m u) ∧ Below w.heap.size w w' := by
 refine callsR Tryz.func73 rfl rfl (by kernel_rfl) rfl ?_
 have hw := Below.refl w.heap.size w
 by_cases h1 : 1 ≤ n ∧ n ≤ 16
 ·by_cases h2 : m = 0
  ·refine rk_seq ?_
   refine rk_region ?_
   refine wl_boxg _ rfl (by rfl) ?_
   rintro g1 w1 f1 b1 i1 i1_1
   have s1 := b1.size
   replace hw := hw.trans (b1.mono hw.size)
   refine wl_p (fun _ => o_assign rfl) ?_
   refine wl_nil ?_
   refine rk_seq ?_
   refine rk_region ?_
   refine wl_p (fun _ => o_faddr (s := 54) (i := 1) (off := 1) Tryz.underlying54 rfl Tryz.sizeOf39 rfl rfl rfl) ?_
   refine wl_r (o_loadbg Tryz.isAgg39 rfl f1 (by rfl)) ?_
   refine wl_call rfl (C_leafKey _ (by omega)) ?_
   rintro v5 w5 ⟨rfl, rfl⟩
   refine wl_p (fun _ => o_move rfl) ?_
   refine wl_know 6 true rfl (decide_eq_true (by omega)) ?_
   refine wl_p (fun _ => o_faddr (s := 54) (i := 2) (off := 2) Tryz.underlying54 rfl Tryz.sizeOf39 rfl rfl rfl) ?_
   refine wl_r (o_loadbg Tryz.isAgg39 rfl f1 (by rfl)) ?_
   refine wl_p (fun _ => o_len (t := 39) Tryz.underlying39 rfl) ?_
   refine wl_p (fun _ => o_eq rfl rfl) ?_
   refine wl_p (fun _ => o_pick_t rfl rfl) ?_
   refine wl_p (fun _ => o_move rfl) ?_
   refine wl_know 12 true rfl (decide_eq_true (by omega)) ?_
   refine wl_p (fun _ => o_faddr (s := 54) (i := 3) (off := 3) Tryz.underlying54 rfl Tryz.sizeOf42 rfl rfl rfl) ?_
   refine wl_r (o_ldWho rfl f1) ?_
   refine wl_p (fun _ => (o_zKey)) ?_
   refine wl_p (fun _ => (o_eqKy rfl rfl)) ?_
   refine wl_p (fun _ => o_pick_t rfl rfl) ?_
   refine wl_p (fun _ => o_assign rfl) ?_
   refine wl_nil ?_
   refine ret1 rfl rfl ?_
   exact ⟨by simp [goodS, h1, h2], hw⟩
  ·refine rk_seq ?_
   refine rk_region ?_
   refine wl_boxg _ rfl (by rfl) ?_
   rintro g1 w1 f1 b1 i1 i1_1
   have s1 := b1.size
   replace hw := hw.trans (b1.mono hw.size)
   refine wl_p (fun _ => o_assign rfl) ?_
   refine wl_nil ?_
   refine rk_seq ?_
   refine rk_region ?_
   refine wl_p (fun _ => o_faddr (s := 54) (i := 1) (off := 1) Tryz.underlying54 rfl Tryz.sizeOf39 rfl rfl rfl) ?_
   refine wl_r (o_loadbg Tryz.isAgg39 rfl f1 (by rfl)) ?_
   refine wl_call rfl (C_leafKey _ (by omega)) ?_
   rintro v5 w5 ⟨rfl, rfl⟩
   refine wl_p (fun _ => o_move rfl) ?_
   refine wl_know 6 true rfl (decide_eq_true (by omega)) ?_
   refine wl_p (fun _ => o_faddr (s := 54) (i := 2) (off := 2) Tryz.underlying54 rfl Tryz.sizeOf39 rfl rfl rfl) ?_
   refine wl_r (o_loadbg Tryz.isAgg39 rfl f1 (by rfl)) ?_
   refine wl_p (fun _ => o_len (t := 39) Tryz.underlying39 rfl) ?_
   refine wl_p (fun _ => o_eq rfl rfl) ?_
   refine wl_p (fun _ => o_pick_t rfl rfl) ?_
   refine wl_p (fun _ => o_move rfl) ?_
   refine wl_know 12 false rfl (decide_eq_false (by omega)) ?_
   refine wl_off ?_
   refine wl_off ?_
   refine wl_off ?_
   refine wl_off ?_
   refine wl_p (fun _ => o_pick_f rfl rfl) ?_
   refine wl_p (fun _ => o_assign rfl) ?_
   refine wl_nil ?_
   refine ret1 rfl rfl ?_
   exact ⟨by simp [goodS, h2], hw⟩
 ·refine rk_seq ?_
  refine rk_region ?_
  refine wl_boxg _ rfl (by rfl) ?_
  rintro g1 w1 f1 b1 i1 i1_1
  have s1 := b1.size
  replace hw := hw.trans (b1.mono hw.size)
  refine wl_p (fun _ => o_assign rfl) ?_
  refine wl_nil ?_
  refine rk_seq ?_
  refine rk_region ?_
  refine wl_p (fun _ => o_faddr (s := 54) (i := 1) (off := 1) Tryz.underlying54 rfl Tryz.sizeOf39 rfl rfl rfl) ?_
  refine wl_r (o_loadbg Tryz.isAgg39 rfl f1 (by rfl)) ?_
  refine wl_call rfl (C_leafKey _ (by omega)) ?_
  rintro v5 w5 ⟨rfl, rfl⟩
  refine wl_p (fun _ => o_move rfl) ?_
  refine wl_know 6 false rfl (decide_eq_false (by omega)) ?_
  refine wl_off ?_
  refine wl_off ?_
  refine wl_off ?_
  refine wl_off ?_
  refine wl_p (fun _ => o_pick_f rfl rfl) ?_
  refine wl_p (fun _ => o_move rfl) ?_
  refine wl_off ?_
  refine wl_off ?_
  refine wl_off ?_
  refine wl_off ?_
  refine wl_p (fun _ => o_pick_f rfl rfl) ?_
  refine wl_p (fun _ => o_assign rfl) ?_
  refine wl_nil ?_
  refine ret1 rfl rfl ?_
  exact ⟨by simp [goodS, h1], hw⟩
theorem C_goodWho {K V : Option Addr} {n c m d : Nat} {k k2 : Int} {u : Ky} (w : World) (hk : k2 ≠ 1) (hk2 : k2 ≠ 2) :
  CallsR Tryz.prog 77 [.agg (opC k K n c V m d u).toArray] w fun v w' => v = .bool (goodS k2 n m u) ∧ Below w.heap.size w w' := by
 refine callsR Tryz.func77 rfl rfl (by kernel_rfl) rfl ?_
 have hw := Below.refl w.heap.size w
 by_cases h1 : n = 0
 ·refine rk_seq ?_
  refine rk_region ?_
  refine wl_boxg _ rfl (by rfl) ?_
  rintro g1 w1 f1 b1 i1 i1_1
  have s1 := b1.size
  replace hw := hw.trans (b1.mono hw.size)
  refine wl_p (fun _ => o_assign rfl) ?_
  refine wl_nil ?_
  refine rk_seq ?_
  refine rk_region ?_
  refine wl_p (fun _ => o_faddr (s := 54) (i := 1) (off := 1) Tryz.underlying54 rfl Tryz.sizeOf39 rfl rfl rfl) ?_
  refine wl_r (o_loadbg Tryz.isAgg39 rfl f1 (by rfl)) ?_
  refine wl_p (fun _ => o_len (t := 39) Tryz.underlying39 rfl) ?_
  refine wl_p (fun _ => o_eq rfl rfl) ?_
  refine wl_p (fun _ => o_move rfl) ?_
  refine wl_know 7 true rfl (decide_eq_true (by omega)) ?_
  refine wl_p (fun _ => o_faddr (s := 54) (i := 2) (off := 2) Tryz.underlying54 rfl Tryz.sizeOf39 rfl rfl rfl) ?_
  refine wl_r (o_loadbg Tryz.isAgg39 rfl f1 (by rfl)) ?_
  refine wl_p (fun _ => o_len (t := 39) Tryz.underlying39 rfl) ?_
  refine wl_p (fun _ => o_eq rfl rfl) ?_
  refine wl_p (fun _ => o_pick_t rfl rfl) ?_
  refine wl_p (fun _ => o_assign rfl) ?_
  refine wl_nil ?_
  refine ret1 rfl rfl ?_
  exact ⟨by simp [goodS, h1, hk, hk2], hw⟩
 ·refine rk_seq ?_
  refine rk_region ?_
  refine wl_boxg _ rfl (by rfl) ?_
  rintro g1 w1 f1 b1 i1 i1_1
  have s1 := b1.size
  replace hw := hw.trans (b1.mono hw.size)
  refine wl_p (fun _ => o_assign rfl) ?_
  refine wl_nil ?_
  refine rk_seq ?_
  refine rk_region ?_
  refine wl_p (fun _ => o_faddr (s := 54) (i := 1) (off := 1) Tryz.underlying54 rfl Tryz.sizeOf39 rfl rfl rfl) ?_
  refine wl_r (o_loadbg Tryz.isAgg39 rfl f1 (by rfl)) ?_
  refine wl_p (fun _ => o_len (t := 39) Tryz.underlying39 rfl) ?_
  refine wl_p (fun _ => o_eq rfl rfl) ?_
  refine wl_p (fun _ => o_move rfl) ?_
  refine wl_know 7 false rfl (decide_eq_false (by omega)) ?_
  refine wl_off ?_
  refine wl_off ?_
  refine wl_off ?_
  refine wl_off ?_
  refine wl_p (fun _ => o_pick_f rfl rfl) ?_
  refine wl_p (fun _ => o_assign rfl) ?_
  refine wl_nil ?_
  refine ret1 rfl rfl ?_
  exact ⟨by simp [goodS, h1, hk, hk2], hw⟩
end Go.Proofs.YtahkeoegbjopfaaGreat
/-
  Walks of package ops: the shapes of ops, by their kinds; whether an op is valid.
-/
namespace Go.Proofs.YtahkeoegbjopfaaGreat
set_option maxRecDepth 100000
open Go.RowKit
section
variable {P : Program} {N : Nat} {fr : Fr} {w : World} {ty t e : TypeId} {x y : Operand} {g n sz : Nat} {k : IntKind} {m : Int}
theorem o_iaddrPn (j : Nat) (hu : P.underlying t = some (.array n e)) (hs : ∀ w, (sizeOf e).run P w = .ok sz w) (hx : fr.ev x = some (.pointer (some ⟨g, 0, none⟩))) (hy : fr.ev y = some (.int k m)) (hm : m = (j : Int)) (hj : j < n) :
  OpV P N fr w (.indexAddr t x y) ty (.pointer (some ⟨g, j * sz, none⟩)) w := fun a ha op hop _ => by
 subst hm
 have h2 : ¬ n ≤ j := by omega
 simp [execOp, hop, ha.ev hx, ha.ev hy, Instr.indexAt, run_underlying hu, asIntOf, hs, add_plain, Instr.sureAddr, h2]
end
def Sh4 (k : Int) (gf pf rf df : Nat) : Prop :=
 (k = 1 ∧ gf = 69 ∧ pf = 70 ∧ rf = 71 ∧ df = 72) ∨
 (k = 2 ∧ gf = 73 ∧ pf = 74 ∧ rf = 75 ∧ df = 76) ∨
 (k = 3 ∧ gf = 77 ∧ pf = 78 ∧ rf = 79 ∧ df = 80) ∨
 (k = 4 ∧ gf = 77 ∧ pf = 78 ∧ rf = 79 ∧ df = 81) ∨
 (k = 5 ∧ gf = 77 ∧ pf = 78 ∧ rf = 79 ∧ df = 82) ∨
 (k = 6 ∧ gf = 77 ∧ pf = 78 ∧ rf = 79 ∧ df = 83)
theorem C_formOk {k : Int} (w : World) (h1 : 1 ≤ k) (h6 : k ≤ 6) :
  CallsR Tryz.prog 40 [.int .i64 k] w fun v w' => ∃ gf pf rf df, v = .tuple #[.agg #[.func (.func gf) #[] #[], .func (.func pf) #[] #[], .func (.func rf) #[] #[], .func (.func df) #[] #[]], .bool true] ∧ Sh4 k gf pf rf df ∧ Below w.heap.size w w' := by
 obtain rfl | rfl | rfl | rfl | rfl | rfl : k = 1 ∨ k = 2 ∨ k = 3 ∨ k = 4 ∨ k = 5 ∨ k = 6 := by omega
 ·refine callsR Tryz.func40 rfl rfl (by kernel_rfl) rfl ?_
  have hw := Below.refl w.heap.size w
  refine rk_seq ?_
  refine rk_region ?_
  refine wl_allocg [_, _, _, _] Tryz.zeroValue89 (by rfl) ?_
  rintro g2 w2 f2 b2 i2 i2_1
  have s2 := b2.size
  replace hw := hw.trans (b2.mono hw.size)
  refine wl_p (fun _ => o_assign rfl) ?_
  refine wl_nil ?_
  refine rk_seq ?_
  refine rk_region ?_
  refine wl_p (fun _ => (o_buildg [_, _, _, _] Tryz.underlying89 Tryz.zeroValue89 (by rfl) (by rfl) rfl (by rfl) (by rfl) (fun _ => by kernel_rfl))) ?_
  refine wl_p (fun _ => (o_buildg [_, _, _, _] Tryz.underlying89 Tryz.zeroValue89 (by rfl) (by rfl) rfl (by rfl) (by rfl) (fun _ => by kernel_rfl))) ?_
  refine wl_p (fun _ => (o_buildg [_, _, _, _] Tryz.underlying89 Tryz.zeroValue89 (by rfl) (by rfl) rfl (by rfl) (by rfl) (fun _ => by kernel_rfl))) ?_
  refine wl_p (fun _ => (o_buildg [_, _, _, _] Tryz.underlying89 Tryz.zeroValue89 (by rfl) (by rfl) rfl (by rfl) (by rfl) (fun _ => by kernel_rfl))) ?_
  refine wl_p (fun _ => (o_buildg [_, _, _, _] Tryz.underlying89 Tryz.zeroValue89 (by rfl) (by rfl) rfl (by rfl) (by rfl) (fun _ => by kernel_rfl))) ?_
  refine wl_p (fun _ => (o_buildg [_, _, _, _] Tryz.underlying89 Tryz.zeroValue89 (by rfl) (by rfl) rfl (by rfl) (by rfl) (fun _ => by kernel_rfl))) ?_
  refine wl_p (fun _ => (o_buildga [_, _, _, _, _, _, _, _, _, _, _, _, _, _, _, _, _, _, _, _, _, _, _, _, _, _, _, _] Tryz.underlying122 Tryz.sizeOf89 Tryz.zeroValue122 (by rfl) (by rfl) rfl (by rfl) (by rfl) (fun _ => by kernel_rfl))) ?_
  refine wl_allocg [_, _, _, _, _, _, _, _, _, _, _, _, _, _, _, _, _, _, _, _, _, _, _, _, _, _, _, _] Tryz.zeroValue122 (by rfl) ?_
  rintro g4 w4 f4 b4 i4 i4_1
  have s4 := b4.size
  replace hw := hw.trans (b4.mono hw.size)
  replace f2 := f2.u b4
  refine wl_storega Tryz.sizeOf122 rfl rfl (by rfl) (by decide) f4 (by rfl) ?_
  rintro w_1 f g e
  have s := g.size
  replace hw := hw.trans (below_of_grownBy g.g hw.size (by omega))
  replace f2 := f2.k g.g (ap_some (by omega))
  clear f4
  refine wl_nil ?_
  refine rk_seq ?_
  refine rk_seq ?_
  refine rk_region ?_
  refine wl_p (fun _ => o_move rfl) ?_
  refine wl_p (fun _ => o_lt rfl rfl) ?_
  refine wl_p (fun _ => o_move rfl) ?_
  refine wl_p (fun _ => o_move rfl) ?_
  refine wl_p (fun _ => o_ge rfl rfl) ?_
  refine wl_p (fun _ => o_pick_f rfl rfl) ?_
  refine wl_nil ?_
  refine rk_false rfl ?_
  refine rk_skip ?_
  refine rk_seq ?_
  refine rk_region ?_
  refine wl_p (fun _ => o_move rfl) ?_
  refine wl_p (fun _ => (o_iaddrPn (1) Tryz.underlying122 Tryz.sizeOf89 rfl rfl (by omega) (by omega))) ?_
  refine wl_r (o_loadCut Tryz.isAgg89 Tryz.sizeOf89 rfl f (by rfl) (by rfl)) ?_
  refine wl_storega Tryz.sizeOf89 rfl rfl (by rfl) (by decide) f2 (by rfl) ?_
  rintro w_2 f_1 g_1 e_1
  have s_1 := g_1.size
  replace hw := hw.trans (below_of_grownBy g_1.g hw.size (by omega))
  replace f := f.k g_1.g (ap_some (by omega))
  clear f2
  refine wl_p (fun _ => o_assign rfl) ?_
  refine wl_nil ?_
  refine ret_any rfl (.cell rfl Tryz.isAgg89 Tryz.sizeOf89 (by assumption) rfl <| .tmp rfl <| .nil) (by simp) ?_
  exact ⟨_, _, _, _, rfl, by simp [Sh4], hw⟩
 ·refine callsR Tryz.func40 rfl rfl (by kernel_rfl) rfl ?_
  have hw := Below.refl w.heap.size w
  refine rk_seq ?_
  refine rk_region ?_
  refine wl_allocg [_, _, _, _] Tryz.zeroValue89 (by rfl) ?_
  rintro g2 w2 f2 b2 i2 i2_1
  have s2 := b2.size
  replace hw := hw.trans (b2.mono hw.size)
  refine wl_p (fun _ => o_assign rfl) ?_
  refine wl_nil ?_
  refine rk_seq ?_
  refine rk_region ?_
  refine wl_p (fun _ => (o_buildg [_, _, _, _] Tryz.underlying89 Tryz.zeroValue89 (by rfl) (by rfl) rfl (by rfl) (by rfl) (fun _ => by kernel_rfl))) ?_
  refine wl_p (fun _ => (o_buildg [_, _, _, _] Tryz.underlying89 Tryz.zeroValue89 (by rfl) (by rfl) rfl (by rfl) (by rfl) (fun _ => by kernel_rfl))) ?_
  refine wl_p (fun _ => (o_buildg [_, _, _, _] Tryz.underlying89 Tryz.zeroValue89 (by rfl) (by rfl) rfl (by rfl) (by rfl) (fun _ => by kernel_rfl))) ?_
  refine wl_p (fun _ => (o_buildg [_, _, _, _] Tryz.underlying89 Tryz.zeroValue89 (by rfl) (by rfl) rfl (by rfl) (by rfl) (fun _ => by kernel_rfl))) ?_
  refine wl_p (fun _ => (o_buildg [_, _, _, _] Tryz.underlying89 Tryz.zeroValue89 (by rfl) (by rfl) rfl (by rfl) (by rfl) (fun _ => by kernel_rfl))) ?_
  refine wl_p (fun _ => (o_buildg [_, _, _, _] Tryz.underlying89 Tryz.zeroValue89 (by rfl) (by rfl) rfl (by rfl) (by rfl) (fun _ => by kernel_rfl))) ?_
  refine wl_p (fun _ => (o_buildga [_, _, _, _, _, _, _, _, _, _, _, _, _, _, _, _, _, _, _, _, _, _, _, _, _, _, _, _] Tryz.underlying122 Tryz.sizeOf89 Tryz.zeroValue122 (by rfl) (by rfl) rfl (by rfl) (by rfl) (fun _ => by kernel_rfl))) ?_
  refine wl_allocg [_, _, _, _, _, _, _, _, _, _, _, _, _, _, _, _, _, _, _, _, _, _, _, _, _, _, _, _] Tryz.zeroValue122 (by rfl) ?_
  rintro g4 w4 f4 b4 i4 i4_1
  have s4 := b4.size
  replace hw := hw.trans (b4.mono hw.size)
  replace f2 := f2.u b4
  refine wl_storega Tryz.sizeOf122 rfl rfl (by rfl) (by decide) f4 (by rfl) ?_
  rintro w_1 f g e
  have s := g.size
  replace hw := hw.trans (below_of_grownBy g.g hw.size (by omega))
  replace f2 := f2.k g.g (ap_some (by omega))
  clear f4
  refine wl_nil ?_
  refine rk_seq ?_
  refine rk_seq ?_
  refine rk_region ?_
  refine wl_p (fun _ => o_move rfl) ?_
  refine wl_p (fun _ => o_lt rfl rfl) ?_
  refine wl_p (fun _ => o_move rfl) ?_
  refine wl_p (fun _ => o_move rfl) ?_
  refine wl_p (fun _ => o_ge rfl rfl) ?_
  refine wl_p (fun _ => o_pick_f rfl rfl) ?_
  refine wl_nil ?_
  refine rk_false rfl ?_
  refine rk_skip ?_
  refine rk_seq ?_
  refine rk_region ?_
  refine wl_p (fun _ => o_move rfl) ?_
  refine wl_p (fun _ => (o_iaddrPn (2) Tryz.underlying122 Tryz.sizeOf89 rfl rfl (by omega) (by omega))) ?_
  refine wl_r (o_loadCut Tryz.isAgg89 Tryz.sizeOf89 rfl f (by rfl) (by rfl)) ?_
  refine wl_storega Tryz.sizeOf89 rfl rfl (by rfl) (by decide) f2 (by rfl) ?_
  rintro w_2 f_1 g_1 e_1
  have s_1 := g_1.size
  replace hw := hw.trans (below_of_grownBy g_1.g hw.size (by omega))
  replace f := f.k g_1.g (ap_some (by omega))
  clear f2
  refine wl_p (fun _ => o_assign rfl) ?_
  refine wl_nil ?_
  refine ret_any rfl (.cell rfl Tryz.isAgg89 Tryz.sizeOf89 (by assumption) rfl <| .tmp rfl <| .nil) (by simp) ?_
  exact ⟨_, _, _, _, rfl, by simp [Sh4], hw⟩
 ·refine callsR Tryz.func40 rfl rfl (by kernel_rfl) rfl ?_
  have hw := Below.refl w.heap.size w
  refine rk_seq ?_
  refine rk_region ?_
  refine wl_allocg [_, _, _, _] Tryz.zeroValue89 (by rfl) ?_
  rintro g2 w2 f2 b2 i2 i2_1
  have s2 := b2.size
  replace hw := hw.trans (b2.mono hw.size)
  refine wl_p (fun _ => o_assign rfl) ?_
  refine wl_nil ?_
  refine rk_seq ?_
  refine rk_region ?_
  refine wl_p (fun _ => (o_buildg [_, _, _, _] Tryz.underlying89 Tryz.zeroValue89 (by rfl) (by rfl) rfl (by rfl) (by rfl) (fun _ => by kernel_rfl))) ?_
  refine wl_p (fun _ => (o_buildg [_, _, _, _] Tryz.underlying89 Tryz.zeroValue89 (by rfl) (by rfl) rfl (by rfl) (by rfl) (fun _ => by kernel_rfl))) ?_
  refine wl_p (fun _ => (o_buildg [_, _, _, _] Tryz.underlying89 Tryz.zeroValue89 (by rfl) (by rfl) rfl (by rfl) (by rfl) (fun _ => by kernel_rfl))) ?_
  refine wl_p (fun _ => (o_buildg [_, _, _, _] Tryz.underlying89 Tryz.zeroValue89 (by rfl) (by rfl) rfl (by rfl) (by rfl) (fun _ => by kernel_rfl))) ?_
  refine wl_p (fun _ => (o_buildg [_, _, _, _] Tryz.underlying89 Tryz.zeroValue89 (by rfl) (by rfl) rfl (by rfl) (by rfl) (fun _ => by kernel_rfl))) ?_
  refine wl_p (fun _ => (o_buildg [_, _, _, _] Tryz.underlying89 Tryz.zeroValue89 (by rfl) (by rfl) rfl (by rfl) (by rfl) (fun _ => by kernel_rfl))) ?_
  refine wl_p (fun _ => (o_buildga [_, _, _, _, _, _, _, _, _, _, _, _, _, _, _, _, _, _, _, _, _, _, _, _, _, _, _, _] Tryz.underlying122 Tryz.sizeOf89 Tryz.zeroValue122 (by rfl) (by rfl) rfl (by rfl) (by rfl) (fun _ => by kernel_rfl))) ?_
  refine wl_allocg [_, _, _, _, _, _, _, _, _, _, _, _, _, _, _, _, _, _, _, _, _, _, _, _, _, _, _, _] Tryz.zeroValue122 (by rfl) ?_
  rintro g4 w4 f4 b4 i4 i4_1
  have s4 := b4.size
  replace hw := hw.trans (b4.mono hw.size)
  replace f2 := f2.u b4
  refine wl_storega Tryz.sizeOf122 rfl rfl (by rfl) (by decide) f4 (by rfl) ?_
  rintro w_1 f g e
  have s := g.size
  replace hw := hw.trans (below_of_grownBy g.g hw.size (by omega))
  replace f2 := f2.k g.g (ap_some (by omega))
  clear f4
  refine wl_nil ?_
  refine rk_seq ?_
  refine rk_seq ?_
  refine rk_region ?_
  refine wl_p (fun _ => o_move rfl) ?_
  refine wl_p (fun _ => o_lt rfl rfl) ?_
  refine wl_p (fun _ => o_move rfl) ?_
  refine wl_p (fun _ => o_move rfl) ?_
  refine wl_p (fun _ => o_ge rfl rfl) ?_
  refine wl_p (fun _ => o_pick_f rfl rfl) ?_
  refine wl_nil ?_
  refine rk_false rfl ?_
  refine rk_skip ?_
  refine rk_seq ?_
  refine rk_region ?_
  refine wl_p (fun _ => o_move rfl) ?_
  refine wl_p (fun _ => (o_iaddrPn (3) Tryz.underlying122 Tryz.sizeOf89 rfl rfl (by omega) (by omega))) ?_
  refine wl_r (o_loadCut Tryz.isAgg89 Tryz.sizeOf89 rfl f (by rfl) (by rfl)) ?_
  refine wl_storega Tryz.sizeOf89 rfl rfl (by rfl) (by decide) f2 (by rfl) ?_
  rintro w_2 f_1 g_1 e_1
  have s_1 := g_1.size
  replace hw := hw.trans (below_of_grownBy g_1.g hw.size (by omega))
  replace f := f.k g_1.g (ap_some (by omega))
  clear f2
  refine wl_p (fun _ => o_assign rfl) ?_
  refine wl_nil ?_
  refine ret_any rfl (.cell rfl Tryz.isAgg89 Tryz.sizeOf89 (by assumption) rfl <| .tmp rfl <| .nil) (by simp) ?_
  exact ⟨_, _, _, _, rfl, by simp [Sh4], hw⟩
 ·refine callsR Tryz.func40 rfl rfl (by kernel_rfl) rfl ?_
  have hw := Below.refl w.heap.size w
  refine rk_seq ?_
  refine rk_region ?_
  refine wl_allocg [_, _, _, _] Tryz.zeroValue89 (by rfl) ?_
  rintro g2 w2 f2 b2 i2 i2_1
  have s2 := b2.size
  replace hw := hw.trans (b2.mono hw.size)
  refine wl_p (fun _ => o_assign rfl) ?_
  refine wl_nil ?_
  refine rk_seq ?_
  refine rk_region ?_
  refine wl_p (fun _ => (o_buildg [_, _, _, _] Tryz.underlying89 Tryz.zeroValue89 (by rfl) (by rfl) rfl (by rfl) (by rfl) (fun _ => by kernel_rfl))) ?_
  refine wl_p (fun _ => (o_buildg [_, _, _, _] Tryz.underlying89 Tryz.zeroValue89 (by rfl) (by rfl) rfl (by rfl) (by rfl) (fun _ => by kernel_rfl))) ?_
  refine wl_p (fun _ => (o_buildg [_, _, _, _] Tryz.underlying89 Tryz.zeroValue89 (by rfl) (by rfl) rfl (by rfl) (by rfl) (fun _ => by kernel_rfl))) ?_
  refine wl_p (fun _ => (o_buildg [_, _, _, _] Tryz.underlying89 Tryz.zeroValue89 (by rfl) (by rfl) rfl (by rfl) (by rfl) (fun _ => by kernel_rfl))) ?_
  refine wl_p (fun _ => (o_buildg [_, _, _, _] Tryz.underlying89 Tryz.zeroValue89 (by rfl) (by rfl) rfl (by rfl) (by rfl) (fun _ => by kernel_rfl))) ?_
  refine wl_p (fun _ => (o_buildg [_, _, _, _] Tryz.underlying89 Tryz.zeroValue89 (by rfl) (by rfl) rfl (by rfl) (by rfl) (fun _ => by kernel_rfl))) ?_
  refine wl_p (fun _ => (o_buildga [_, _, _, _, _, _, _, _, _, _, _, _, _, _, _, _, _, _, _, _, _, _, _, _, _, _, _, _] Tryz.underlying122 Tryz.sizeOf89 Tryz.zeroValue122 (by rfl) (by rfl) rfl (by rfl) (by rfl) (fun _ => by kernel_rfl))) ?_
  refine wl_allocg [_, _, _, _, _, _, _, _, _, _, _, _, _, _, _, _, _, _, _, _, _, _, _, _, _, _, _, _] Tryz.zeroValue122 (by rfl) ?_
  rintro g4 w4 f4 b4 i4 i4_1
  have s4 := b4.size
  replace hw := hw.trans (b4.mono hw.size)
  replace f2 := f2.u b4
  refine wl_storega Tryz.sizeOf122 rfl rfl (by rfl) (by decide) f4 (by rfl) ?_
  rintro w_1 f g e
  have s := g.size
  replace hw := hw.trans (below_of_grownBy g.g hw.size (by omega))
  replace f2 := f2.k g.g (ap_some (by omega))
  clear f4
  refine wl_nil ?_
  refine rk_seq ?_
  refine rk_seq ?_
  refine rk_region ?_
  refine wl_p (fun _ => o_move rfl) ?_
  refine wl_p (fun _ => o_lt rfl rfl) ?_
  refine wl_p (fun _ => o_move rfl) ?_
  refine wl_p (fun _ => o_move rfl) ?_
  refine wl_p (fun _ => o_ge rfl rfl) ?_
  refine wl_p (fun _ => o_pick_f rfl rfl) ?_
  refine wl_nil ?_
  refine rk_false rfl ?_
  refine rk_skip ?_
  refine rk_seq ?_
  refine rk_region ?_
  refine wl_p (fun _ => o_move rfl) ?_
  refine wl_p (fun _ => (o_iaddrPn (4) Tryz.underlying122 Tryz.sizeOf89 rfl rfl (by omega) (by omega))) ?_
  refine wl_r (o_loadCut Tryz.isAgg89 Tryz.sizeOf89 rfl f (by rfl) (by rfl)) ?_
  refine wl_storega Tryz.sizeOf89 rfl rfl (by rfl) (by decide) f2 (by rfl) ?_
  rintro w_2 f_1 g_1 e_1
  have s_1 := g_1.size
  replace hw := hw.trans (below_of_grownBy g_1.g hw.size (by omega))
  replace f := f.k g_1.g (ap_some (by omega))
  clear f2
  refine wl_p (fun _ => o_assign rfl) ?_
  refine wl_nil ?_
  refine ret_any rfl (.cell rfl Tryz.isAgg89 Tryz.sizeOf89 (by assumption) rfl <| .tmp rfl <| .nil) (by simp) ?_
  exact ⟨_, _, _, _, rfl, by simp [Sh4], hw⟩
 ·refine callsR Tryz.func40 rfl rfl (by kernel_rfl) rfl ?_
  have hw := Below.refl w.heap.size w
  refine rk_seq ?_
  refine rk_region ?_
  refine wl_allocg [_, _, _, _] Tryz.zeroValue89 (by rfl) ?_
  rintro g2 w2 f2 b2 i2 i2_1
  have s2 := b2.size
  replace hw := hw.trans (b2.mono hw.size)
  refine wl_p (fun _ => o_assign rfl) ?_
  refine wl_nil ?_
  refine rk_seq ?_
  refine rk_region ?_
  refine wl_p (fun _ => (o_buildg [_, _, _, _] Tryz.underlying89 Tryz.zeroValue89 (by rfl) (by rfl) rfl (by rfl) (by rfl) (fun _ => by kernel_rfl))) ?_
  refine wl_p (fun _ => (o_buildg [_, _, _, _] Tryz.underlying89 Tryz.zeroValue89 (by rfl) (by rfl) rfl (by rfl) (by rfl) (fun _ => by kernel_rfl))) ?_
  refine wl_p (fun _ => (o_buildg [_, _, _, _] Tryz.underlying89 Tryz.zeroValue89 (by rfl) (by rfl) rfl (by rfl) (by rfl) (fun _ => by kernel_rfl))) ?_
  refine wl_p (fun _ => (o_buildg [_, _, _, _] Tryz.underlying89 Tryz.zeroValue89 (by rfl) (by rfl) rfl (by rfl) (by rfl) (fun _ => by kernel_rfl))) ?_
  refine wl_p (fun _ => (o_buildg [_, _, _, _] Tryz.underlying89 Tryz.zeroValue89 (by rfl) (by rfl) rfl (by rfl) (by rfl) (fun _ => by kernel_rfl))) ?_
  refine wl_p (fun _ => (o_buildg [_, _, _, _] Tryz.underlying89 Tryz.zeroValue89 (by rfl) (by rfl) rfl (by rfl) (by rfl) (fun _ => by kernel_rfl))) ?_
  refine wl_p (fun _ => (o_buildga [_, _, _, _, _, _, _, _, _, _, _, _, _, _, _, _, _, _, _, _, _, _, _, _, _, _, _, _] Tryz.underlying122 Tryz.sizeOf89 Tryz.zeroValue122 (by rfl) (by rfl) rfl (by rfl) (by rfl) (fun _ => by kernel_rfl))) ?_
  refine wl_allocg [_, _, _, _, _, _, _, _, _, _, _, _, _, _, _, _, _, _, _, _, _, _, _, _, _, _, _, _] Tryz.zeroValue122 (by rfl) ?_
  rintro g4 w4 f4 b4 i4 i4_1
  have s4 := b4.size
  replace hw := hw.trans (b4.mono hw.size)
  replace f2 := f2.u b4
  refine wl_storega Tryz.sizeOf122 rfl rfl (by rfl) (by decide) f4 (by rfl) ?_
  rintro w_1 f g e
  have s := g.size
  replace hw := hw.trans (below_of_grownBy g.g hw.size (by omega))
  replace f2 := f2.k g.g (ap_some (by omega))
  clear f4
  refine wl_nil ?_
  refine rk_seq ?_
  refine rk_seq ?_
  refine rk_region ?_
  refine wl_p (fun _ => o_move rfl) ?_
  refine wl_p (fun _ => o_lt rfl rfl) ?_
  refine wl_p (fun _ => o_move rfl) ?_
  refine wl_p (fun _ => o_move rfl) ?_
  refine wl_p (fun _ => o_ge rfl rfl) ?_
  refine wl_p (fun _ => o_pick_f rfl rfl) ?_
  refine wl_nil ?_
  refine rk_false rfl ?_
  refine rk_skip ?_
  refine rk_seq ?_
  refine rk_region ?_
  refine wl_p (fun _ => o_move rfl) ?_
  refine wl_p (fun _ => (o_iaddrPn (5) Tryz.underlying122 Tryz.sizeOf89 rfl rfl (by omega) (by omega))) ?_
  refine wl_r (o_loadCut Tryz.isAgg89 Tryz.sizeOf89 rfl f (by rfl) (by rfl)) ?_
  refine wl_storega Tryz.sizeOf89 rfl rfl (by rfl) (by decide) f2 (by rfl) ?_
  rintro w_2 f_1 g_1 e_1
  have s_1 := g_1.size
  replace hw := hw.trans (below_of_grownBy g_1.g hw.size (by omega))
  replace f := f.k g_1.g (ap_some (by omega))
  clear f2
  refine wl_p (fun _ => o_assign rfl) ?_
  refine wl_nil ?_
  refine ret_any rfl (.cell rfl Tryz.isAgg89 Tryz.sizeOf89 (by assumption) rfl <| .tmp rfl <| .nil) (by simp) ?_
  exact ⟨_, _, _, _, rfl, by simp [Sh4], hw⟩
 ·refine callsR Tryz.func40 rfl rfl (by kernel_rfl) rfl ?_
  have hw := Below.refl w.heap.size w
  refine rk_seq ?_
  refine rk_region ?_
  refine wl_allocg [_, _, _, _] Tryz.zeroValue89 (by rfl) ?_
  rintro g2 w2 f2 b2 i2 i2_1
  have s2 := b2.size
  replace hw := hw.trans (b2.mono hw.size)
  refine wl_p (fun _ => o_assign rfl) ?_
  refine wl_nil ?_
  refine rk_seq ?_
  refine rk_region ?_
  refine wl_p (fun _ => (o_buildg [_, _, _, _] Tryz.underlying89 Tryz.zeroValue89 (by rfl) (by rfl) rfl (by rfl) (by rfl) (fun _ => by kernel_rfl))) ?_
  refine wl_p (fun _ => (o_buildg [_, _, _, _] Tryz.underlying89 Tryz.zeroValue89 (by rfl) (by rfl) rfl (by rfl) (by rfl) (fun _ => by kernel_rfl))) ?_
  refine wl_p (fun _ => (o_buildg [_, _, _, _] Tryz.underlying89 Tryz.zeroValue89 (by rfl) (by rfl) rfl (by rfl) (by rfl) (fun _ => by kernel_rfl))) ?_
  refine wl_p (fun _ => (o_buildg [_, _, _, _] Tryz.underlying89 Tryz.zeroValue89 (by rfl) (by rfl) rfl (by rfl) (by rfl) (fun _ => by kernel_rfl))) ?_
  refine wl_p (fun _ => (o_buildg [_, _, _, _] Tryz.underlying89 Tryz.zeroValue89 (by rfl) (by rfl) rfl (by rfl) (by rfl) (fun _ => by kernel_rfl))) ?_
  refine wl_p (fun _ => (o_buildg [_, _, _, _] Tryz.underlying89 Tryz.zeroValue89 (by rfl) (by rfl) rfl (by rfl) (by rfl) (fun _ => by kernel_rfl))) ?_
  refine wl_p (fun _ => (o_buildga [_, _, _, _, _, _, _, _, _, _, _, _, _, _, _, _, _, _, _, _, _, _, _, _, _, _, _, _] Tryz.underlying122 Tryz.sizeOf89 Tryz.zeroValue122 (by rfl) (by rfl) rfl (by rfl) (by rfl) (fun _ => by kernel_rfl))) ?_
  refine wl_allocg [_, _, _, _, _, _, _, _, _, _, _, _, _, _, _, _, _, _, _, _, _, _, _, _, _, _, _, _] Tryz.zeroValue122 (by rfl) ?_
  rintro g4 w4 f4 b4 i4 i4_1
  have s4 := b4.size
  replace hw := hw.trans (b4.mono hw.size)
  replace f2 := f2.u b4
  refine wl_storega Tryz.sizeOf122 rfl rfl (by rfl) (by decide) f4 (by rfl) ?_
  rintro w_1 f g e
  have s := g.size
  replace hw := hw.trans (below_of_grownBy g.g hw.size (by omega))
  replace f2 := f2.k g.g (ap_some (by omega))
  clear f4
  refine wl_nil ?_
  refine rk_seq ?_
  refine rk_seq ?_
  refine rk_region ?_
  refine wl_p (fun _ => o_move rfl) ?_
  refine wl_p (fun _ => o_lt rfl rfl) ?_
  refine wl_p (fun _ => o_move rfl) ?_
  refine wl_p (fun _ => o_move rfl) ?_
  refine wl_p (fun _ => o_ge rfl rfl) ?_
  refine wl_p (fun _ => o_pick_f rfl rfl) ?_
  refine wl_nil ?_
  refine rk_false rfl ?_
  refine rk_skip ?_
  refine rk_seq ?_
  refine rk_region ?_
  refine wl_p (fun _ => o_move rfl) ?_
  refine wl_p (fun _ => (o_iaddrPn (6) Tryz.underlying122 Tryz.sizeOf89 rfl rfl (by omega) (by omega))) ?_
  refine wl_r (o_loadCut Tryz.isAgg89 Tryz.sizeOf89 rfl f (by rfl) (by rfl)) ?_
  refine wl_storega Tryz.sizeOf89 rfl rfl (by rfl) (by decide) f2 (by rfl) ?_
  rintro w_2 f_1 g_1 e_1
  have s_1 := g_1.size
  replace hw := hw.trans (below_of_grownBy g_1.g hw.size (by omega))
  replace f := f.k g_1.g (ap_some (by omega))
  clear f2
  refine wl_p (fun _ => o_assign rfl) ?_
  refine wl_nil ?_
  refine ret_any rfl (.cell rfl Tryz.isAgg89 Tryz.sizeOf89 (by assumption) rfl <| .tmp rfl <| .nil) (by simp) ?_
  exact ⟨_, _, _, _, rfl, by simp [Sh4], hw⟩
theorem C_formBad {k : Int} (w : World) (h : k < 1 ∨ 6 < k) :
  CallsR Tryz.prog 40 [.int .i64 k] w fun v w' => v = .tuple #[.agg #[.nilFunc, .nilFunc, .nilFunc, .nilFunc], .bool false] ∧ Below w.heap.size w w' := by
 refine callsR Tryz.func40 rfl rfl (by kernel_rfl) rfl ?_
 have hw := Below.refl w.heap.size w
 by_cases h1 : k < 1
 ·refine rk_seq ?_
  refine rk_region ?_
  refine wl_allocg [_, _, _, _] Tryz.zeroValue89 (by rfl) ?_
  rintro g2 w2 f2 b2 i2 i2_1
  have s2 := b2.size
  replace hw := hw.trans (b2.mono hw.size)
  refine wl_p (fun _ => o_assign rfl) ?_
  refine wl_nil ?_
  refine rk_seq ?_
  refine rk_region ?_
  refine wl_p (fun _ => (o_buildg [_, _, _, _] Tryz.underlying89 Tryz.zeroValue89 (by rfl) (by rfl) rfl (by rfl) (by rfl) (fun _ => by kernel_rfl))) ?_
  refine wl_p (fun _ => (o_buildg [_, _, _, _] Tryz.underlying89 Tryz.zeroValue89 (by rfl) (by rfl) rfl (by rfl) (by rfl) (fun _ => by kernel_rfl))) ?_
  refine wl_p (fun _ => (o_buildg [_, _, _, _] Tryz.underlying89 Tryz.zeroValue89 (by rfl) (by rfl) rfl (by rfl) (by rfl) (fun _ => by kernel_rfl))) ?_
  refine wl_p (fun _ => (o_buildg [_, _, _, _] Tryz.underlying89 Tryz.zeroValue89 (by rfl) (by rfl) rfl (by rfl) (by rfl) (fun _ => by kernel_rfl))) ?_
  refine wl_p (fun _ => (o_buildg [_, _, _, _] Tryz.underlying89 Tryz.zeroValue89 (by rfl) (by rfl) rfl (by rfl) (by rfl) (fun _ => by kernel_rfl))) ?_
  refine wl_p (fun _ => (o_buildg [_, _, _, _] Tryz.underlying89 Tryz.zeroValue89 (by rfl) (by rfl) rfl (by rfl) (by rfl) (fun _ => by kernel_rfl))) ?_
  refine wl_p (fun _ => (o_buildga [_, _, _, _, _, _, _, _, _, _, _, _, _, _, _, _, _, _, _, _, _, _, _, _, _, _, _, _] Tryz.underlying122 Tryz.sizeOf89 Tryz.zeroValue122 (by rfl) (by rfl) rfl (by rfl) (by rfl) (fun _ => by kernel_rfl))) ?_
  refine wl_allocg [_, _, _, _, _, _, _, _, _, _, _, _, _, _, _, _, _, _, _, _, _, _, _, _, _, _, _, _] Tryz.zeroValue122 (by rfl) ?_
  rintro g4 w4 f4 b4 i4 i4_1
  have s4 := b4.size
  replace hw := hw.trans (b4.mono hw.size)
  replace f2 := f2.u b4
  refine wl_storega Tryz.sizeOf122 rfl rfl (by rfl) (by decide) f4 (by rfl) ?_
  rintro w_1 f g e
  have s := g.size
  replace hw := hw.trans (below_of_grownBy g.g hw.size (by omega))
  replace f2 := f2.k g.g (ap_some (by omega))
  clear f4
  refine wl_nil ?_
  refine rk_seq ?_
  refine rk_seq ?_
  refine rk_region ?_
  refine wl_p (fun _ => o_move rfl) ?_
  refine wl_p (fun _ => o_lt rfl rfl) ?_
  refine wl_p (fun _ => o_move rfl) ?_
  refine wl_know 14 true rfl (decide_eq_true (by omega)) ?_
  refine wl_off ?_
  refine wl_off ?_
  refine wl_p (fun _ => o_pick_t rfl rfl) ?_
  refine wl_nil ?_
  refine rk_true rfl ?_
  refine rk_seq ?_
  refine rk_region ?_
  refine wl_p (fun _ => (o_buildg [_, _, _, _] Tryz.underlying89 Tryz.zeroValue89 (by rfl) (by rfl) rfl (by rfl) (by rfl) (fun _ => by kernel_rfl))) ?_
  refine wl_storega Tryz.sizeOf89 rfl rfl (by rfl) (by decide) f2 (by rfl) ?_
  rintro w_2 f_1 g_1 e_1
  have s_1 := g_1.size
  replace hw := hw.trans (below_of_grownBy g_1.g hw.size (by omega))
  replace f := f.k g_1.g (ap_some (by omega))
  clear f2
  refine wl_p (fun _ => o_assign rfl) ?_
  refine wl_nil ?_
  refine ret_any rfl (.cell rfl Tryz.isAgg89 Tryz.sizeOf89 (by assumption) rfl <| .tmp rfl <| .nil) (by simp) ?_
  exact ⟨rfl, hw⟩
 ·refine rk_seq ?_
  refine rk_region ?_
  refine wl_allocg [_, _, _, _] Tryz.zeroValue89 (by rfl) ?_
  rintro g2 w2 f2 b2 i2 i2_1
  have s2 := b2.size
  replace hw := hw.trans (b2.mono hw.size)
  refine wl_p (fun _ => o_assign rfl) ?_
  refine wl_nil ?_
  refine rk_seq ?_
  refine rk_region ?_
  refine wl_p (fun _ => (o_buildg [_, _, _, _] Tryz.underlying89 Tryz.zeroValue89 (by rfl) (by rfl) rfl (by rfl) (by rfl) (fun _ => by kernel_rfl))) ?_
  refine wl_p (fun _ => (o_buildg [_, _, _, _] Tryz.underlying89 Tryz.zeroValue89 (by rfl) (by rfl) rfl (by rfl) (by rfl) (fun _ => by kernel_rfl))) ?_
  refine wl_p (fun _ => (o_buildg [_, _, _, _] Tryz.underlying89 Tryz.zeroValue89 (by rfl) (by rfl) rfl (by rfl) (by rfl) (fun _ => by kernel_rfl))) ?_
  refine wl_p (fun _ => (o_buildg [_, _, _, _] Tryz.underlying89 Tryz.zeroValue89 (by rfl) (by rfl) rfl (by rfl) (by rfl) (fun _ => by kernel_rfl))) ?_
  refine wl_p (fun _ => (o_buildg [_, _, _, _] Tryz.underlying89 Tryz.zeroValue89 (by rfl) (by rfl) rfl (by rfl) (by rfl) (fun _ => by kernel_rfl))) ?_
  refine wl_p (fun _ => (o_buildg [_, _, _, _] Tryz.underlying89 Tryz.zeroValue89 (by rfl) (by rfl) rfl (by rfl) (by rfl) (fun _ => by kernel_rfl))) ?_
  refine wl_p (fun _ => (o_buildga [_, _, _, _, _, _, _, _, _, _, _, _, _, _, _, _, _, _, _, _, _, _, _, _, _, _, _, _] Tryz.underlying122 Tryz.sizeOf89 Tryz.zeroValue122 (by rfl) (by rfl) rfl (by rfl) (by rfl) (fun _ => by kernel_rfl))) ?_
  refine wl_allocg [_, _, _, _, _, _, _, _, _, _, _, _, _, _, _, _, _, _, _, _, _, _, _, _, _, _, _, _] Tryz.zeroValue122 (by rfl) ?_
  rintro g4 w4 f4 b4 i4 i4_1
  have s4 := b4.size
  replace hw := hw.trans (b4.mono hw.size)
  replace f2 := f2.u b4
  refine wl_storega Tryz.sizeOf122 rfl rfl (by rfl) (by decide) f4 (by rfl) ?_
  rintro w_1 f g e
  have s := g.size
  replace hw := hw.trans (below_of_grownBy g.g hw.size (by omega))
  replace f2 := f2.k g.g (ap_some (by omega))
  clear f4
  refine wl_nil ?_
  refine rk_seq ?_
  refine rk_seq ?_
  refine rk_region ?_
  refine wl_p (fun _ => o_move rfl) ?_
  refine wl_p (fun _ => o_lt rfl rfl) ?_
  refine wl_p (fun _ => o_move rfl) ?_
  refine wl_know 14 false rfl (decide_eq_false (by omega)) ?_
  refine wl_p (fun _ => o_move rfl) ?_
  refine wl_p (fun _ => o_ge rfl rfl) ?_
  refine wl_p (fun _ => o_pick_f rfl rfl) ?_
  refine wl_nil ?_
  refine rk_if rfl (fun h17 => ?_) (fun h17 => h17.elim (by omega))
  refine rk_seq ?_
  refine rk_region ?_
  refine wl_p (fun _ => (o_buildg [_, _, _, _] Tryz.underlying89 Tryz.zeroValue89 (by rfl) (by rfl) rfl (by rfl) (by rfl) (fun _ => by kernel_rfl))) ?_
  refine wl_storega Tryz.sizeOf89 rfl rfl (by rfl) (by decide) f2 (by rfl) ?_
  rintro w_2 f_1 g_1 e_1
  have s_1 := g_1.size
  replace hw := hw.trans (below_of_grownBy g_1.g hw.size (by omega))
  replace f := f.k g_1.g (ap_some (by omega))
  clear f2
  refine wl_p (fun _ => o_assign rfl) ?_
  refine wl_nil ?_
  refine ret_any rfl (.cell rfl Tryz.isAgg89 Tryz.sizeOf89 (by assumption) rfl <| .tmp rfl <| .nil) (by simp) ?_
  exact ⟨rfl, hw⟩
def okOp (k : Int) (n m : Nat) (u : Ky) : Bool := decide (1 ≤ k) && decide (k ≤ 6) && goodS k n m u
theorem sh4_good {k kk : Int} {gf pf rf df : Nat} (h : Sh4 k gf pf rf df) {K V : Option Addr} {n c m d : Nat} {u : Ky} (w : World) (hn : n ≤ 4000000000) (hm : m ≤ 4000000000) :
  CallsR Tryz.prog gf [.agg (opC kk K n c V m d u).toArray] w fun v w' => v = .bool (goodS k n m u) ∧ Below w.heap.size w w' := by
 rcases h with ⟨rfl, rfl, _⟩ | ⟨rfl, rfl, _⟩ | ⟨rfl, rfl, _⟩ | ⟨rfl, rfl, _⟩ | ⟨rfl, rfl, _⟩ | ⟨rfl, rfl, _⟩
 ·exact C_goodPut w hn hm
 ·exact C_goodDelete w hn hm
 ·exact C_goodWho w (by decide) (by decide)
 ·exact C_goodWho w (by decide) (by decide)
 ·exact C_goodWho w (by decide) (by decide)
 ·exact C_goodWho w (by decide) (by decide)
theorem okOp_of {k : Int} {n m : Nat} {u : Ky} (h : okOp k n m u = true) : 1 ≤ k ∧ k ≤ 6 ∧ goodS k n m u = true := by
 simp only [okOp, Bool.and_eq_true, decide_eq_true_eq] at h
 exact ⟨h.1.1, h.1.2, h.2⟩
end Go.Proofs.YtahkeoegbjopfaaGreat
/-
  Arrays of bytes: sliced as a whole, made of slices. No function of the program is named here.
-/
namespace Go.Proofs.YtahkeoegbjopfaaGreat
set_option maxRecDepth 100000
open Go.RowKit
section
variable {P : Program} {fn : Func} {F : Ending → World → Prop} {N : Nat} {ks : List K} {ops : Array Oper} {tg : Tags} {l : List Oper} {fr : Fr} {w : World} {ty t t' : TypeId} {pos : String} {aft : Array Edge} {gd : Option (Nat × Bool)} {d n m g c j lo hi : Nat} {x y : Operand} {A : Option Addr} {b : List UInt8} {ad : Addr}
end
end Go.Proofs.YtahkeoegbjopfaaGreat
/-
  Literals of bytes that were strings. No function of the program is named here.
-/
namespace Go.Proofs.YtahkeoegbjopfaaGreat
set_option maxRecDepth 100000
open Go.RowKit
section
variable {P : Program} {fn : Func} {F : Ending → World → Prop} {N : Nat} {ks : List K} {ops : Array Oper} {tg : Tags} {l : List Oper} {fr : Fr} {w : World} {ty ty2 t : TypeId} {pos pos2 : String} {aft aft2 : Array Edge} {gd gd2 : Option (Nat × Bool)} {d d2 n : Nat}
theorem rdT_mark (w : World) (bs : List UInt8) (fr : Nat × Nat) : RdT (w.alloc (.cells (B8 bs).toArray 5 fr)) (some ⟨w.heap.size, 0, none⟩) bs := by
 refine ⟨⟨by simp [B8_length], fun _ => ⟨w.heap.size, 0, rfl, fun j v hj => ?_⟩⟩, fun k hk => ?_⟩
 ·rw [Nat.zero_add, World.cell?_alloc_mark]
  simpa using hj
 ·obtain rfl : w.heap.size = k := by simpa [blk] using hk
  exact ⟨(B8 bs).toArray, fr, by show (w.heap.push _)[w.heap.size]? = _; simp⟩
theorem wl_litC {ps : Array (Nat × Operand)} {xs : List Operand} {vs : List Value} (bs : List UInt8) (T : U8 P t) (hs : ∀ w, (sizeOf 5).run P w = .ok 1 w) (hz : ∀ w, (zeroValue 5).run P w = .ok (.int .u8 0) w) (hxs : ps.toList.map Prod.snd = xs) (hx : fr.evs xs = some vs) (hv : vs = B8 bs) (hn : bs.length = n) (hps : ps = ((List.range' 0 n).zip xs).toArray) (hm : Nat.ble bs.length 1000000 = true)
  (hk : ∀ A w', RdT w' A bs → Below w.heap.size w w' → WL P fn F N ks ops tg.tail.tail l ((d2, .slice A n n) :: (d, .slice A n n) :: fr) w')
  (ht : tg.loud = true := by rfl) (ht2 : tg.tail.loud = true := by rfl) (hg : onG ops fr gd = true := by rfl) (hg2 : ∀ u, onG ops ((d, u) :: fr) gd2 = true := by intro _; rfl) (hd : Nat.blt d N = true := by rfl) (hd2 : Nat.blt d2 N = true := by rfl) (hq : tg.tail.calm = false := by rfl) :
  WL P fn F N ks ops tg (⟨some d, .buildSlice t n ps, ty, pos, aft, gd⟩ :: ⟨some d2, .convert t t (.tmp d), ty2, pos2, aft2, gd2⟩ :: l) fr w := by
 subst hps; subst hv; subst hn
 have hm' : bs.length ≤ 1000000 := by simpa using hm
 have hr := run_lit (P := P) (w := w) T.ht hs hz rfl (B8 bs) (B8_oneCell _) (by rw [B8_length]; omega)
 rw [B8_length] at hr
 refine wl_v (o_lit hx hr) ?_ ht hg hd (.inr (grown_of_below (below_alloc w _) _))
 have hv : Fr.ev ((d, .slice (some ⟨w.heap.size, 0, none⟩) bs.length bs.length) :: fr) (.tmp d) = some (.slice (some ⟨w.heap.size, 0, none⟩) bs.length bs.length) := by simp [Fr.ev, Fr.get]
 refine wl_v (w' := w.alloc (.cells (B8 bs).toArray 5 ((B8 bs).toArray.size, (B8 bs).toArray.size + 1))) (fun a ha o ho _ => ?_) (hk _ _ (rdT_mark w bs _) (below_alloc w _)) ht2 (hg2 _) hd2 (.inl hq)
 have := Lib.run_convert_bytes_const (P := P) w t 5 (B8 bs).toArray bs.length bs.length T.ht T.hu
 simp [execOp, ho, ha.ev hv, this]
end
end Go.Proofs.YtahkeoegbjopfaaGreat
