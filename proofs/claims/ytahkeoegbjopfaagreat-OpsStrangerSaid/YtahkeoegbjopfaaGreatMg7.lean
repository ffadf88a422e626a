/-
  Walks of package leaf: keys, their order.
-/
import Derived.Test.YtahkeoegbjopfaaGreatMg6
import Derived.Laws.Externs
import Derived.Lib.Bytealg
namespace Go.Proofs.YtahkeoegbjopfaaGreat
set_option maxRecDepth 100000
open Go.RowKit

theorem C_isNaNb (n : Int) (w : World) : CallsR Tryz.prog 126 [.int .u8 n] w fun v w' => v = .bool false ∧ w' = w := by
 refine callsR Tryz.func126 rfl rfl (by kernel_rfl) rfl ?_
 refine zs (za rfl (wl_nil (zs (zm rfl (zm rfl ?_)))))
 refine zp (o_ne rfl rfl) ?_
 refine za rfl (wl_nil ?_)
 refine ret1 rfl rfl ?_
 exact ⟨by simp, rfl⟩
theorem C_isNaNi (n : Int) (w : World) : CallsR Tryz.prog 127 [.int .i64 n] w fun v w' => v = .bool false ∧ w' = w := by
 refine callsR Tryz.func127 rfl rfl (by kernel_rfl) rfl ?_
 refine zs (za rfl (wl_nil (zs (zm rfl (zm rfl ?_)))))
 refine zp (o_ne rfl rfl) ?_
 refine za rfl (wl_nil ?_)
 refine ret1 rfl rfl ?_
 exact ⟨by simp, rfl⟩
def cmpZ (m n : Int) : Int := if m < n then -1 else if n < m then 1 else 0
theorem C_cmpb (m n : Int) (w : World) : CallsR Tryz.prog 86 [.int .u8 m, .int .u8 n] w fun v w' => v = .int .i64 (cmpZ m n) ∧ w' = w := by
 refine callsR Tryz.func86 rfl rfl (by kernel_rfl) rfl ?_
 refine zs (za rfl (wl_nil (zs (zm rfl ?_))))
 refine wl_call rfl (C_isNaNb _ _) ?_
 rintro v8 w8 ⟨rfl, rfl⟩
 refine za rfl (wl_nil (zs (zm rfl ?_)))
 refine wl_call rfl (C_isNaNb _ _) ?_
 rintro v10 w10 ⟨rfl, rfl⟩
 refine za rfl (wl_nil (rk_seq (zs (zm rfl (wl_nil ?_)))))
 refine rk_false rfl ?_
 refine rk_skip (rk_seq (zs (zm rfl (wl_nil ?_))))
 refine rk_false rfl ?_
 refine rk_skip (rk_seq (zs (zm rfl (zm rfl ?_))))
 refine zp (o_lt rfl rfl) ?_
 refine wl_nil ?_
 refine rk_if rfl (fun h16 => ?_) (fun h16 => ?_)
 ·refine zs ?_
  refine za rfl (wl_nil ?_)
  refine ret1 rfl rfl ?_
  exact ⟨by simp [cmpZ, h16], rfl⟩
 ·refine rk_skip ?_
  refine rk_seq (zs (zm rfl (zm rfl ?_)))
  refine zp (o_gt rfl rfl) ?_
  refine wl_nil ?_
  refine rk_if rfl (fun h19 => ?_) (fun h19 => ?_)
  ·refine zs ?_
   refine za rfl (wl_nil ?_)
   refine ret1 rfl rfl ?_
   exact ⟨by simp [cmpZ, h16, h19], rfl⟩
  ·refine rk_skip ?_
   refine zs (za rfl (wl_nil ?_))
   refine ret1 rfl rfl ?_
   exact ⟨by simp [cmpZ, h16, h19], rfl⟩
theorem C_cmpi (m n : Int) (w : World) : CallsR Tryz.prog 87 [.int .i64 m, .int .i64 n] w fun v w' => v = .int .i64 (cmpZ m n) ∧ w' = w := by
 refine callsR Tryz.func87 rfl rfl (by kernel_rfl) rfl ?_
 refine zs (za rfl (wl_nil (zs (zm rfl ?_))))
 refine wl_call rfl (C_isNaNi _ _) ?_
 rintro v8 w8 ⟨rfl, rfl⟩
 refine za rfl (wl_nil (zs (zm rfl ?_)))
 refine wl_call rfl (C_isNaNi _ _) ?_
 rintro v10 w10 ⟨rfl, rfl⟩
 refine za rfl (wl_nil (rk_seq (zs (zm rfl (wl_nil ?_)))))
 refine rk_false rfl ?_
 refine rk_skip (rk_seq (zs (zm rfl (wl_nil ?_))))
 refine rk_false rfl ?_
 refine rk_skip (rk_seq (zs (zm rfl (zm rfl ?_))))
 refine zp (o_lt rfl rfl) ?_
 refine wl_nil ?_
 refine rk_if rfl (fun h16 => ?_) (fun h16 => ?_)
 ·refine zs ?_
  refine za rfl (wl_nil ?_)
  refine ret1 rfl rfl ?_
  exact ⟨by simp [cmpZ, h16], rfl⟩
 ·refine rk_skip ?_
  refine rk_seq (zs (zm rfl (zm rfl ?_)))
  refine zp (o_gt rfl rfl) ?_
  refine wl_nil ?_
  refine rk_if rfl (fun h19 => ?_) (fun h19 => ?_)
  ·refine zs ?_
   refine za rfl (wl_nil ?_)
   refine ret1 rfl rfl ?_
   exact ⟨by simp [cmpZ, h16, h19], rfl⟩
  ·refine rk_skip ?_
   refine zs (za rfl (wl_nil ?_))
   refine ret1 rfl rfl ?_
   exact ⟨by simp [cmpZ, h16, h19], rfl⟩

theorem cmpL_at : ∀ (i : Nat) (a b : List UInt8) (hi : i < a.length) (hj : i < b.length), a.take i = b.take i → a[i] ≠ b[i] → cmpL a b = cmpZ a[i].toNat b[i].toNat
 | 0, x :: a, y :: b, _, _, _, h => by
  simp only [List.getElem_cons_zero] at h ⊢
  have h3 : x.toNat ≠ y.toNat := fun e => h (UInt8.toNat_inj.1 e)
  simp only [cmpL, if_neg h, cmpZ]
  rcases Nat.lt_or_gt_of_ne h3 with h4 | h4
  ·rw [if_pos h4, if_pos (by omega)]
  ·rw [if_neg (by omega), if_neg (by omega), if_pos (by omega)]
 | i + 1, x :: a, y :: b, hi, hj, ht, h => by
  simp only [List.take_succ_cons, List.cons.injEq] at ht
  simp only [List.getElem_cons_succ] at h ⊢
  simp only [List.length_cons, Nat.add_lt_add_iff_right] at hi hj
  rw [← cmpL_at i a b hi hj ht.2 h]
  simp [cmpL, ht.1]
 | _, [], _, hi, _, _, _ => by simp at hi
 | _, _ :: _, [], _, hj, _, _ => by simp at hj
theorem cmpL_end : ∀ (a b : List UInt8), a.take (min a.length b.length) = b.take (min a.length b.length) → cmpL a b = cmpZ a.length b.length
 | [], [], _ => by simp [cmpL, cmpZ]
 | [], _ :: _, _ => by simp only [cmpL, cmpZ, List.length_nil, List.length_cons]; rw [if_pos (by omega)]
 | _ :: _, [], _ => by simp only [cmpL, cmpZ, List.length_nil, List.length_cons]; rw [if_neg (by omega), if_pos (by omega)]
 | x :: a, y :: b, h => by
  simp only [List.length_cons] at h
  rw [show min (a.length + 1) (b.length + 1) = min a.length b.length + 1 by omega, List.take_succ_cons, List.take_succ_cons, List.cons.injEq] at h
  simp only [cmpL, h.1, if_true, cmpL_end a b h.2, cmpZ, List.length_cons]
  congr 1
  ·simp
  ·congr 1; simp
theorem C_leafKey {A : Option Addr} {n c : Nat} (w : World) (hn : n ≤ 4000000000) : CallsR Tryz.prog 43 [.slice A n c] w fun v w' => v = .bool (decide (1 ≤ n ∧ n ≤ 16)) ∧ w' = w := by
 refine callsR Tryz.func43 rfl rfl (by kernel_rfl) rfl ?_
 refine zs (za rfl (wl_nil (zs (zm rfl ?_))))
 refine zp (o_len (t := 39) Tryz.underlying39 rfl) ?_
 refine zp (o_ge rfl rfl) ?_
 refine zm rfl ?_
 refine wl_bool 6 rfl (fun h6 => ?_) (fun h6 => ?_) <;> try simp only [decide_eq_true_eq, decide_eq_false_iff_not, Bool.not_eq_true', Bool.not_eq_false', Bool.and_eq_true, Bool.and_eq_false_iff, Bool.or_eq_true, Bool.or_eq_false_iff] at h6
 ·refine zm rfl ?_
  refine zp (o_len (t := 39) Tryz.underlying39 rfl) ?_
  refine zp (o_le rfl rfl) ?_
  refine zp (o_pick_t rfl rfl) ?_
  refine za rfl (wl_nil ?_)
  refine ret1 rfl rfl ?_
  refine ⟨congrArg Value.bool ?_, rfl⟩
  refine Bool.eq_iff_iff.2 ?_
  simp only [if_true, decide_eq_true_eq]
  omega
 ·refine wl_off ?_
  refine wl_off (wl_off ?_)
  refine zp (o_pick_f rfl rfl) ?_
  refine za rfl (wl_nil ?_)
  refine ret1 rfl rfl ?_
  refine ⟨congrArg Value.bool ?_, rfl⟩
  symm
  refine decide_eq_false ?_
  omega
theorem C_leafValue {A : Option Addr} {n c : Nat} (w : World) (hn : n ≤ 4000000000) : CallsR Tryz.prog 44 [.slice A n c] w fun v w' => v = .bool (decide (n ≤ 32)) ∧ w' = w := by
 refine callsR Tryz.func44 rfl rfl (by kernel_rfl) rfl ?_
 refine zs (za rfl (wl_nil (zs (zm rfl ?_))))
 refine zp (o_len (t := 39) Tryz.underlying39 rfl) ?_
 refine zp (o_le rfl rfl) ?_
 refine za rfl (wl_nil ?_)
 refine ret1 rfl rfl ?_
 refine ⟨congrArg Value.bool ?_, rfl⟩
 refine decide_eq_decide.2 ?_
 omega
theorem C_leafCompare {A B : Option Addr} {a b : List UInt8} {n m c d : Nat} (w : World) (hra : Rd w A a) (hrb : Rd w B b) (hn : n = a.length) (hm : m = b.length) (hla : a.length ≤ 4000000000) (hlb : b.length ≤ 4000000000) :
  CallsR Tryz.prog 45 [.slice A n c, .slice B m d] w fun v w' => v = .int .i64 (cmpL a b) ∧ Below w.heap.size w w' := by
 subst hn; subst hm
 refine callsR Tryz.func45 rfl rfl (by kernel_rfl) rfl ?_
 have hw := Below.refl w.heap.size w
 refine zs (za rfl (wl_nil (rk_seq (zs (zm rfl ?_)))))
 refine zp (o_len (t := 39) Tryz.underlying39 rfl) ?_
 refine zm rfl ?_
 refine zp (o_len (t := 39) Tryz.underlying39 rfl) ?_
 refine zp (o_min rfl rfl) ?_
 refine zm rfl (wl_nil (rk_block ?_))
 refine rk_joinf (fun fb fr w2 => fr = [] ++ fb.drop 1 ∧ a.take (min a.length b.length) = b.take (min a.length b.length) ∧ Below w.heap.size w w2) ?_ (fun ks hj => ?_)
 rotate_left
 ·refine rk_loopf (fun fb m fr w2 => ∃ (i : Nat) (v : Int), fr = [(12, .int .i64 v)] ++ fb ∧ v = i ∧ i ≤ min a.length b.length ∧ m = min a.length b.length - i ∧ a.take i = b.take i ∧ Below w.heap.size w w2) (n := min a.length b.length) (Fr.le_of (by kernel_rfl) (by kernel_rfl) (by repeat' constructor)) ⟨0, _, rfl, rfl, by omega, rfl, rfl, hw⟩ ?_
  clear hw
  rintro m fr w2 ⟨i, v, rfl, rfl, hi, rfl, ht, hw⟩
  first | refine zf ?_ | refine zg ?_
  refine zs ?_
  refine zp (o_lt rfl rfl) ?_
  refine wl_nil (rk_seq ?_)
  refine rk_if rfl (fun h13 => ?_) (fun h13 => ?_)
  ·have hia : i < a.length := by omega
   have hib : i < b.length := by omega
   refine rk_skip (rk_seq (rk_block (zs (zm rfl (za rfl (wl_nil (rk_seq ?_)))))))
   refine rk_draw (id := 4) (none) [0, 0, 3, 4, 0, 0, 48, 64, 136, 511] [0, 0, 3, 7, 0, 0, 48, 112, 255, 511] 256 0 [(.p, 0), (.p, 1), (.p, 2), (.r, 3), (.p, 4), (.p, 5), (.p, 6), (.r, 7), (.l, 8), (.p, 9)] (by kernel_rfl) (by kernel_rfl) (by kernel_rfl) (by kernel_rfl) (by kernel_rfl) ?_
   replace hw := hw.drew
   refine zm rfl (zm rfl ?_)
   refine zp (o_iaddrA1 (i) Tryz.underlying39 Tryz.sizeOf5 rfl rfl rfl (Reads.some_ hra.to_Reads (by decide) (by omega)) (by omega)) ?_
   refine wl_r (o_loadB Tryz.isAgg5 rfl (hra.u hw) (by omega)) ?_
   refine zm rfl (zm rfl ?_)
   refine zp (o_iaddrA1 (i) Tryz.underlying39 Tryz.sizeOf5 rfl rfl rfl (Reads.some_ hrb.to_Reads (by decide) (by omega)) (by omega)) ?_
   refine wl_r (o_loadB Tryz.isAgg5 rfl (hrb.u hw) (by omega)) ?_
   refine wl_call rfl (C_cmpb _ _ _) ?_
   rintro v23 w23 ⟨rfl, rfl⟩
   refine za rfl ?_
   refine wl_nild ?_
   refine zs (zm rfl ?_)
   refine zp (o_ne rfl rfl) ?_
   refine wl_nil ?_
   refine rk_if rfl (fun h25 => ?_) (fun h25 => ?_)
   ·have hne : a[i] ≠ b[i] := fun e => by rw [e] at h25; simp [cmpZ] at h25
    refine zs (zm rfl (za rfl (wl_nil ?_)))
    refine ret1 rfl rfl ?_
    exact ⟨by rw [cmpL_at i a b hia hib ht hne], hw⟩
   ·have he : a[i] = b[i] := by
     have h3 : (a[i].toNat : Int) = b[i].toNat := by unfold cmpZ at h25; split at h25 <;> (try split at h25) <;> omega
     exact UInt8.toNat_inj.1 (by omega)
    refine rk_skip ?_
    refine rk_blk ?_
    refine rk_region ?_
    refine zp (o_add rfl rfl (by omega) (by omega)) ?_
    refine zm rfl (wl_nil ?_)
    exact rk_againf (Fr.le_of (by kernel_rfl) (by kernel_rfl) (by repeat' constructor)) ⟨i + 1, (i : Int) + 1, rfl, by omega, by omega, rfl, by rw [List.take_succ_eq_append_getElem hia, List.take_succ_eq_append_getElem hib, ht, he], hw⟩ (by omega)
  ·have e : i = min a.length b.length := by omega
   rw [e] at ht
   refine rk_exit rfl ?_
   exact rk_tof hj (Fr.le_of (by kernel_rfl) (by kernel_rfl) (by repeat' constructor)) ⟨rfl, ht, hw⟩
 clear hw
 rintro fr w2 ⟨rfl, ht, hw⟩
 first | refine zf ?_ | refine zg ?_
 refine zs (zm rfl ?_)
 refine zp (o_len (t := 39) Tryz.underlying39 rfl) ?_
 refine zm rfl ?_
 refine zp (o_len (t := 39) Tryz.underlying39 rfl) ?_
 refine wl_call rfl (C_cmpi _ _ _) ?_
 rintro v32 w32 ⟨rfl, rfl⟩
 refine za rfl (wl_nil ?_)
 refine ret1 rfl rfl ?_
 exact ⟨by rw [cmpL_end a b ht], hw⟩
end Go.Proofs.YtahkeoegbjopfaaGreat
namespace Go.Proofs.YtahkeoegbjopfaaGreat
set_option maxRecDepth 100000
open Go.RowKit
section
variable {P : Program} {fn : Func} {F : Ending → World → Prop} {N : Nat} {ks : List K} {ops : Array Oper} {tg : Tags} {l : List Oper} {fr : Fr} {w : World} {ty t t' xt : TypeId} {v v' : Value} {pos : String} {aft : Array Edge} {gd : Option (Nat × Bool)} {d : Nat} {x y : Operand} {nm : String}
end
end Go.Proofs.YtahkeoegbjopfaaGreat
namespace Go.Proofs.YtahkeoegbjopfaaGreat
set_option maxRecDepth 100000
open Go.RowKit
def gItem : GoT (By × By) := gBytes.pair gBytes
def RI (w : World) (A : Option Addr) (L : List (By × By)) : Prop := RSl gItem w A L
section
variable {w w' : World} {A : Option Addr} {L : List (By × By)} {K : List By}
theorem RI.u (h : RI w A L) (hb : Below w.heap.size w w') : RI w' A L := RSl.u h hb
theorem RI.some_ (h : RI w A L) (hl : 0 < L.length) : A = some (A.getD ⟨0, 0, none⟩) := RSl.some_ h (by decide) hl
theorem RI.nil_ : RI w none [] := RSl.nil _ _ _
theorem RI.elem (h : RI w A L) {i : Nat} (hi : i < L.length) : ∃ A1 c1 A2 c2, CellsAt w A (i * 2) [.slice A1 L[i].1.length c1, .slice A2 L[i].2.length c2] ∧ Rd w A1 L[i].1 ∧ Rd w A2 L[i].2 ∧ L[i].1.length ≤ c1 ∧ L[i].2.length ≤ c2 := by
 obtain ⟨cs, h1, x, y, rfl, ⟨A1, c1, rfl, h2, h3, _⟩, A2, c2, rfl, h4, h5, _⟩ := RSl.elem h (by decide) hi
 exact ⟨A1, c1, A2, c2, h1, h2, h4, h3, h5⟩
end
section
variable {fn : Func} {F : Ending → World → Prop} {N : Nat} {ks : List K} {ops : Array Oper} {tg : Tags} {l : List Oper} {fr : Fr} {w : World} {ty t t' : TypeId} {pos : String} {aft : Array Edge} {gd : Option (Nat × Bool)} {d j : Nat} {x y : Operand} {A : Option Addr} {L : List (By × By)} {Ky : List By} {w0 : World}
theorem wl_ldItem (hx : fr.ev x = some (.pointer (some (adr A (j * 2))))) (hr : RI w0 A L) (hb : Below w0.heap.size w0 w) (hj : j < L.length)
  (hk : ∀ A1 c1 A2 c2, Rd w0 A1 L[j].1 → Rd w0 A2 L[j].2 → L[j].1.length ≤ c1 → L[j].2.length ≤ c2 → WL Tryz.prog fn F N ks ops tg.tail l ((d, .agg #[.slice A1 L[j].1.length c1, .slice A2 L[j].2.length c2]) :: fr) w)
  (ht : tg.reads = true := by rfl) (hg : onG ops fr gd = true := by rfl) (hd : Nat.blt d N = true := by rfl) : WL Tryz.prog fn F N ks ops tg (⟨some d, .load 94 x, ty, pos, aft, gd⟩ :: l) fr w := by
 obtain ⟨A1, c1, A2, c2, h1, h2, h3, h4, h5⟩ := hr.elem hj
 refine wl_r (o_loadn (cs := [.slice A1 L[j].1.length c1, .slice A2 L[j].2.length c2]) Tryz.isAgg94 Tryz.sizeOf94 hx (fun i u hu => ?_)) (hk A1 c1 A2 c2 h2 h3 h4 h5) ht hg hd
 rw [adr_add]
 exact h1.u hb i u hu
theorem wl_ldKey (hx : fr.ev x = some (.pointer (some (adr A (j * 2 + 0))))) (hr : RI w0 A L) (hb : Below w0.heap.size w0 w) (hj : j < L.length)
  (hk : ∀ A1 c1, Rd w0 A1 L[j].1 → L[j].1.length ≤ c1 → WL Tryz.prog fn F N ks ops tg.tail l ((d, .slice A1 L[j].1.length c1) :: fr) w)
  (ht : tg.reads = true := by rfl) (hg : onG ops fr gd = true := by rfl) (hd : Nat.blt d N = true := by rfl) : WL Tryz.prog fn F N ks ops tg (⟨some d, .load 39 x, ty, pos, aft, gd⟩ :: l) fr w := by
 obtain ⟨A1, c1, A2, c2, h1, h2, h3, h4, h5⟩ := hr.elem hj
 exact wl_r (o_load (t := 39) Tryz.isAgg39 hx (h1.u hb 0 _ rfl)) (hk A1 c1 h2 h4) ht hg hd
theorem wl_ldVal (hx : fr.ev x = some (.pointer (some (adr A (j * 2 + 1))))) (hr : RI w0 A L) (hb : Below w0.heap.size w0 w) (hj : j < L.length)
  (hk : ∀ A1 c1, Rd w0 A1 L[j].2 → L[j].2.length ≤ c1 → WL Tryz.prog fn F N ks ops tg.tail l ((d, .slice A1 L[j].2.length c1) :: fr) w)
  (ht : tg.reads = true := by rfl) (hg : onG ops fr gd = true := by rfl) (hd : Nat.blt d N = true := by rfl) : WL Tryz.prog fn F N ks ops tg (⟨some d, .load 39 x, ty, pos, aft, gd⟩ :: l) fr w := by
 obtain ⟨A1, c1, A2, c2, h1, h2, h3, h4, h5⟩ := hr.elem hj
 exact wl_r (o_load (t := 39) Tryz.isAgg39 hx (h1.u hb 1 _ rfl)) (hk A2 c2 h3 h5) ht hg hd
end
end Go.Proofs.YtahkeoegbjopfaaGreat
namespace Go.Proofs.YtahkeoegbjopfaaGreat
set_option maxRecDepth 100000
open Go.RowKit
structure Chg (lo hi : Nat) (w w' : World) : Prop where
 os : w'.os = w.os
 tape : w'.tape = w.tape
 output : w'.output = w.output
 size : w.heap.size ≤ w'.heap.size
 block : ∀ k, k < w.heap.size → (k < lo ∨ hi ≤ k) → w'.heap[k]? = w.heap[k]?
section
variable {w w' w'' : World} {lo hi lo' hi' B g sz n cp : Nat} {e : TypeId} {A : Option Addr} {xs : List Value} {l : List UInt8} {row : Option Nat}
theorem Chg.of_below (h : Below w.heap.size w w') : Chg lo hi w w' := ⟨h.os, h.tape, h.output, h.size, fun k hk _ => h.block k hk⟩
theorem Chg.refl : Chg lo hi w w := Chg.of_below (Below.refl _ _)
theorem Chg.of_g (h : w.grownBy w' row) (hr : ∀ k, row = some k → lo ≤ k ∧ k < hi) : Chg lo hi w w' := ⟨h.os, h.tape, h.output, h.size, fun k hk a => h.block k hk (fun e => by have := hr k e.symm; omega)⟩
theorem Chg.of_g1 (h : w.grownBy w' (some g)) (h1 : lo ≤ g) (h2 : g < hi) : Chg lo hi w w' := Chg.of_g h (fun k e => by injection e with e; omega)
theorem Chg.trans (h : Chg lo hi w w') (k : Chg lo hi w' w'') : Chg lo hi w w'' :=
 ⟨k.os.trans h.os, k.tape.trans h.tape, k.output.trans h.output, Nat.le_trans h.size k.size, fun i hi ha => (k.block i (Nat.lt_of_lt_of_le hi h.size) ha).trans (h.block i hi ha)⟩
theorem Chg.thenB (h : Chg lo hi w w') (k : Below w'.heap.size w' w'') : Chg lo hi w w'' := h.trans (Chg.of_below k)
theorem Chg.andNew (h : Chg lo hi w w') (k : w'.grownBy w'' row) (hr : ∀ j, row = some j → w.heap.size ≤ j) : Chg lo hi w w'' :=
 ⟨k.os.trans h.os, k.tape.trans h.tape, k.output.trans h.output, Nat.le_trans h.size k.size, fun i hi ha => (k.block i (Nat.lt_of_lt_of_le hi h.size) (fun e => by have := hr i e.symm; omega)).trans (h.block i hi ha)⟩
structure RdB (w : World) (lo hi : Nat) (A : Option Addr) (l : List UInt8) : Prop where
 r : Rd w A l
 b : ∀ k, blk A = some k → lo ≤ k ∧ k < hi
theorem Blk.rdB {t : TypeId} (h : Blk w g t (B8 l)) : RdB w g (g + 1) (some ⟨g, 0, none⟩) l :=
 ⟨⟨by rw [B8_length, Nat.mul_one], fun _ => ⟨g, 0, rfl, fun j u hj => by rw [h.cell, Nat.zero_add]; exact hj⟩⟩, fun k e => by simp [blk] at e; omega⟩
end
end Go.Proofs.YtahkeoegbjopfaaGreat
namespace Go.Proofs.YtahkeoegbjopfaaGreat
set_option maxRecDepth 100000
open Go.RowKit
theorem getElem_spl {L vs : List Value} {k i : Nat} (h : k + vs.length ≤ L.length) : (spl L k vs)[i]? = if k ≤ i ∧ i < k + vs.length then vs[i - k]? else L[i]? := by
 unfold spl
 have hl : (L.take k).length = k := by rw [List.length_take]; omega
 rw [List.append_assoc]
 rcases Nat.lt_or_ge i k with h1 | h1
 ·rw [if_neg (by omega), List.getElem?_append_left (by omega), List.getElem?_take_of_lt h1]
 ·rw [List.getElem?_append_right (by omega), hl]
  rcases Nat.lt_or_ge i (k + vs.length) with h2 | h2
  ·rw [if_pos ⟨h1, h2⟩, List.getElem?_append_left (by omega)]
  ·rw [if_neg (by omega), List.getElem?_append_right (by omega), List.getElem?_drop]
   congr 1; omega
section
variable {P : Program} {w : World} {lo hi e sz n c j : Nat} {A : Option Addr} {xs vs : List Value}
theorem RowH.blk_ (h : RowH w lo hi e sz A n c xs) (hn : 0 < n) : ∃ g cur, A = some ⟨g, 0, none⟩ ∧ lo ≤ g ∧ g < hi ∧ Blk w g e cur ∧ n ≤ c ∧ cur.length = c * sz ∧ cur.take (n * sz) = xs := by
 rcases h.o.2 with ⟨_, h0⟩ | ⟨g, cap, cur, hv, h1, h2, h3, h4, h5, h6⟩
 ·omega
 ·injection hv with e1 _ e3
  subst e1; subst e3
  exact ⟨g, cur.toList, rfl, h1, h.hi g rfl, by unfold Blk; rw [Array.toArray_toList]; exact h2, h3, by rw [Array.length_toList, h5], h6⟩
end
section
variable {α : Type} {X : GoT α} {e e' : TypeId} {w : World} {lo hi c j : Nat} {A : Option Addr} {L : List α} {vs : List Value} {P : Program} {a : α}
end
section
variable {α : Type} {X : GoT α} {P : Program} {fn : Func} {F : Ending → World → Prop} {N : Nat} {ks : List K} {ops : Array Oper} {tg : Tags} {l : List Oper} {fr : Fr} {w : World} {ty t e : TypeId} {z : Value} {pos : String} {aft : Array Edge} {gd : Option (Nat × Bool)} {k1 k2 : IntKind} {d n m bytes c j lo hi : Nat} {x y : Operand} {A : Option Addr} {L : List α} {a : α} {vs : List Value}
end
end Go.Proofs.YtahkeoegbjopfaaGreat
namespace Go.Proofs.YtahkeoegbjopfaaGreat
set_option maxRecDepth 100000
open Go.RowKit
abbrev Ky := { l : List UInt8 // l.length = 32 }
def z32 : Ky := ⟨List.replicate 32 0, rfl⟩
theorem gArr_tys (n : Nat) : (gArr n).tys = [] := rfl
def RKs (w : World) (A : Option Addr) (L : List Ky) : Prop := RSl (gArr 32) w A L
def RKT (w : World) (A : Option Addr) (L : List Ky) : Prop := RSlT (gArr 32) 42 w A L
def OwnKs (w : World) (lo hi : Nat) (A : Option Addr) (c : Nat) (L : List Ky) : Prop := OwnS (gArr 32) 42 w lo hi A c L
def RIT (w : World) (A : Option Addr) (L : List (By × By)) : Prop := RSlT gItem 94 w A L
def OwnI (w : World) (lo hi : Nat) (A : Option Addr) (c : Nat) (L : List (By × By)) : Prop := OwnS gItem 94 w lo hi A c L
section
variable {w w' : World} {lo hi lo' hi' cp b : Nat} {A : Option Addr} {S : List Ky} {L : List (By × By)} {e' : TypeId} {row : Option Nat}
theorem RKs.u (h : RKs w A S) (hb : Below w.heap.size w w') : RKs w' A S := RSl.u h hb
theorem RKs.some_ (h : RKs w A S) (hl : 0 < S.length) : A = some (A.getD ⟨0, 0, none⟩) := RSl.some_ h (show 0 < 32 by decide) hl
theorem RKs.cells (h : RKs w A S) {j : Nat} (hj : j < S.length) : CellsAt w A (j * 32) (B8 S[j].1) := by
 obtain ⟨cs, h1, h2⟩ := RSl.elem h (show 0 < 32 by decide) hj
 obtain ⟨rfl⟩ : cs = B8 S[j].1 := h2
 exact h1
theorem RKT.u (h : RKT w A S) (hb : Below w.heap.size w w') : RKT w' A S := RSlT.u h hb
theorem RKT.d (h : RKT w A S) : RKT w.drew A S := RSlT.d h
theorem RKT.y (h : RKT w A S) (hg : Grew w w' e' row) (hne : e' ∉ [42]) : RKT w' A S := RSlT.y h hg hne
theorem RKT.to_RKs (h : RKT w A S) : RKs w A S := RSlT.to_RSl h
theorem OwnKs.u (h : OwnKs w lo hi A cp S) (hb : Below w.heap.size w w') : OwnKs w' lo hi A cp S := OwnS.u h hb
theorem OwnKs.d (h : OwnKs w lo hi A cp S) : OwnKs w.drew lo hi A cp S := OwnS.d h
theorem OwnKs.y (h : OwnKs w lo hi A cp S) (hg : Grew w w' e' row) (hne : e' ∉ [42]) : OwnKs w' lo hi A cp S := OwnS.y h hg hne
theorem OwnKs.q (h : OwnKs w lo hi A cp S) (hg : Grew w w' e' row) (ha : Ap row lo hi) (hne : e' ∉ []) : OwnKs w' lo hi A cp S := OwnS.q h hg ha hne
theorem OwnKs.cap (h : OwnKs w lo hi A cp S) : S.length ≤ cp := OwnS.cap h
theorem OwnKs.nil_ : OwnKs w lo hi none 0 [] := OwnS.nil_
theorem OwnKs.base (h : OwnKs w lo hi A cp S) (h1 : lo' ≤ lo) (h2 : hi ≤ hi') : OwnKs w lo' hi' A cp S := OwnS.base h h1 h2
theorem OwnKs.to_RKT (h : OwnKs w lo hi A cp S) : RKT w A S := OwnS.to_RSlT h
theorem OwnKs.to_RKs (h : OwnKs w lo hi A cp S) : RKs w A S := OwnS.to_RSl h
theorem RIT.u (h : RIT w A L) (hb : Below w.heap.size w w') : RIT w' A L := RSlT.u h hb
theorem RIT.d (h : RIT w A L) : RIT w.drew A L := RSlT.d h
theorem RIT.y (h : RIT w A L) (hg : Grew w w' e' row) (hne : e' ∉ 94 :: gItem.tys) : RIT w' A L := RSlT.y h hg hne
theorem RIT.to_RI (h : RIT w A L) : RI w A L := RSlT.to_RSl h
theorem OwnI.u (h : OwnI w lo hi A cp L) (hb : Below w.heap.size w w') : OwnI w' lo hi A cp L := OwnS.u h hb
theorem OwnI.d (h : OwnI w lo hi A cp L) : OwnI w.drew lo hi A cp L := OwnS.d h
theorem OwnI.y (h : OwnI w lo hi A cp L) (hg : Grew w w' e' row) (hne : e' ∉ 94 :: gItem.tys) : OwnI w' lo hi A cp L := OwnS.y h hg hne
theorem OwnI.q (h : OwnI w lo hi A cp L) (hg : Grew w w' e' row) (ha : Ap row lo hi) (hne : e' ∉ gItem.tys) : OwnI w' lo hi A cp L := OwnS.q h hg ha hne
theorem OwnI.ap (h : OwnI w lo hi A cp L) (hd : hi ≤ lo' ∨ hi' ≤ lo) : Ap (blk A) lo' hi' := OwnS.ap h hd
theorem OwnI.cap (h : OwnI w lo hi A cp L) : L.length ≤ cp := OwnS.cap h
theorem OwnI.nil_ : OwnI w lo hi none 0 [] := OwnS.nil_
theorem OwnI.base (h : OwnI w lo hi A cp L) (h1 : lo' ≤ lo) (h2 : hi ≤ hi') : OwnI w lo' hi' A cp L := OwnS.base h h1 h2
theorem OwnI.to_RIT (h : OwnI w lo hi A cp L) : RIT w A L := OwnS.to_RSlT h
theorem OwnI.to_RI (h : OwnI w lo hi A cp L) : RI w A L := OwnS.to_RSl h
end
theorem gKey_one (w : World) (cs : List Value) (s : Ky) (h : (gArr 32).T w cs s) : ∀ u ∈ cs, u.oneCell' = true := by
 obtain ⟨rfl⟩ : cs = B8 s.1 := h
 exact B8_oneCell _
theorem gItem_one (w : World) (cs : List Value) (r : By × By) (h : gItem.T w cs r) : ∀ u ∈ cs, u.oneCell' = true := by
 obtain ⟨_, _, rfl, ⟨A, c, rfl, _⟩, B, d, rfl, _⟩ := h
 intro u hu
 simp only [List.cons_append, List.nil_append, List.mem_cons, List.not_mem_nil, or_false] at hu
 rcases hu with rfl | rfl <;> rfl
theorem gItem_tys : gItem.tys = [5, 5] := rfl
theorem Tryz.rowKs : RowT Tryz.prog 29 42 (.agg (B8 z32.1).toArray) 32 32 := ⟨Tryz.underlying29, by kernel_rfl, rfl, by omega⟩
theorem Tryz.rowItem : RowT Tryz.prog 28 94 (.agg #[.slice none 0 0, .slice none 0 0]) 2 48 := ⟨Tryz.underlying28, by kernel_rfl, rfl, by omega⟩
theorem Tryz.eqg_Key : Tryz.prog.eqGuardType Tryz.prog.depth 42 = false := by kernel_rfl
section
variable {fn : Func} {F : Ending → World → Prop} {N : Nat} {ks : List K} {ops : Array Oper} {tg : Tags} {l : List Oper} {fr : Fr} {w w0 : World} {ty t' : TypeId} {pos : String} {aft : Array Edge} {gd : Option (Nat × Bool)} {k1 k2 : IntKind} {d n j q c lo hi : Nat} {x y : Operand} {A B : Option Addr} {S M : List Ky} {s u v : Ky} {L I : List (By × By)}
theorem o_eqKy (hx : fr.ev x = some (.agg (B8 u.1).toArray)) (hy : fr.ev y = some (.agg (B8 v.1).toArray)) : OpV Tryz.prog N fr w (.binOp .eql 42 x y t') ty (.bool (decide (u = v))) w := by
 have h := o_aeq (P := Tryz.prog) (N := N) (fr := fr) (w := w) (ty := ty) (t' := t') Tryz.underlying42 Tryz.underlying5 Tryz.sizeOf5 Tryz.eqg_Key hx hy u.2 v.2
 rwa [show decide (u.1 = v.1) = decide (u = v) from decide_eq_decide.2 Subtype.ext_iff.symm] at h
theorem o_neKy (hx : fr.ev x = some (.agg (B8 u.1).toArray)) (hy : fr.ev y = some (.agg (B8 v.1).toArray)) : OpV Tryz.prog N fr w (.binOp .neq 42 x y t') ty (.bool (decide (u ≠ v))) w := by
 have h := o_ane (P := Tryz.prog) (N := N) (fr := fr) (w := w) (ty := ty) (t' := t') Tryz.underlying42 Tryz.underlying5 Tryz.sizeOf5 Tryz.eqg_Key hx hy u.2 v.2
 rwa [show decide (u.1 ≠ v.1) = decide (u ≠ v) from decide_eq_decide.2 (not_congr Subtype.ext_iff.symm)] at h
theorem o_ldKs (hx : fr.ev x = some (.pointer (some (adr A (j * 32))))) (hr : RKs w0 A S) (hb : Below w0.heap.size w0 w) (hj : j < S.length) : OpV Tryz.prog N fr w (.load 42 x) ty (.agg (B8 S[j].1).toArray) w :=
 o_loadn (cs := B8 S[j].1) Tryz.isAgg42 (by rw [B8_length, S[j].2]; exact Tryz.sizeOf42) hx (fun i u hu => by rw [adr_add]; exact (hr.u hb).cells hj i u hu)
theorem wl_litKs0 {ps : Array (Nat × Operand)} {xs : List Operand} (hxs : ps.toList.map Prod.snd = xs) (hx : fr.evs xs = some []) (hps : ps = ((List.range' 0 0).zip xs).toArray)
  (hk : ∀ A w', OwnKs w' w.heap.size w'.heap.size A 0 [] → Below w.heap.size w w' → WL Tryz.prog fn F N ks ops tg.tail l ((d, .slice A 0 0) :: fr) w')
  (ht : tg.loud = true := by rfl) (hg : onG ops fr gd = true := by rfl) (hd : Nat.blt d N = true := by rfl) : WL Tryz.prog fn F N ks ops tg (⟨some d, .buildSlice 29 0 ps, ty, pos, aft, gd⟩ :: l) fr w :=
 wl_litS (X := gArr 32) (L := []) Tryz.rowKs Tryz.sizeOf42 Tryz.zeroValue42 hxs hps hx rfl rfl (fun i h => absurd h (Nat.not_lt_zero _)) rfl hk ht hg hd
theorem wl_litKs1 {ps : Array (Nat × Operand)} {xs : List Operand} (hxs : ps.toList.map Prod.snd = xs) (hx : fr.evs xs = some [.agg (B8 s.1).toArray]) (hps : ps = ((List.range' 0 1).zip xs).toArray)
  (hk : ∀ A w', OwnKs w' w.heap.size w'.heap.size A 1 [s] → Below w.heap.size w w' → WL Tryz.prog fn F N ks ops tg.tail l ((d, .slice A 1 1) :: fr) w')
  (ht : tg.loud = true := by rfl) (hg : onG ops fr gd = true := by rfl) (hd : Nat.blt d N = true := by rfl) : WL Tryz.prog fn F N ks ops tg (⟨some d, .buildSlice 29 1 ps, ty, pos, aft, gd⟩ :: l) fr w := by
 refine wl_litS (X := gArr 32) (L := [s]) Tryz.rowKs Tryz.sizeOf42 Tryz.zeroValue42 hxs hps hx rfl rfl (fun i h => ?_) rfl hk ht hg hd
 obtain rfl : i = 0 := by simp at h; omega
 exact ⟨_, rfl, by show (B8 s.1).toArray.size = 32; rw [List.size_toArray, B8_length, s.2], rfl⟩
theorem wl_litItm {ps : Array (Nat × Operand)} {xs : List Operand} {A1 A2 : Option Addr} {n1 c1 n2 c2 : Nat} {p1 p2 : By} (hxs : ps.toList.map Prod.snd = xs) (hx : fr.evs xs = some [.agg #[.slice A1 n1 c1, .slice A2 n2 c2]]) (h1 : RdT w A1 p1) (h2 : RdT w A2 p2) (hn1 : n1 = p1.length) (hn2 : n2 = p2.length) (hc1 : p1.length ≤ c1) (hc2 : p2.length ≤ c2) (hm1 : c1 ≤ maxLen) (hm2 : c2 ≤ maxLen) (hps : ps = ((List.range' 0 1).zip xs).toArray)
  (hk : ∀ A w', OwnI w' w.heap.size w'.heap.size A 1 [(p1, p2)] → Below w.heap.size w w' → WL Tryz.prog fn F N ks ops tg.tail l ((d, .slice A 1 1) :: fr) w')
  (ht : tg.loud = true := by rfl) (hg : onG ops fr gd = true := by rfl) (hd : Nat.blt d N = true := by rfl) : WL Tryz.prog fn F N ks ops tg (⟨some d, .buildSlice 28 1 ps, ty, pos, aft, gd⟩ :: l) fr w := by
 subst hn1; subst hn2
 refine wl_litS (X := gItem) (L := [(p1, p2)]) Tryz.rowItem Tryz.sizeOf94 Tryz.zeroValue94 hxs hps hx rfl rfl (fun i h => ?_) rfl hk ht hg hd
 obtain rfl : i = 0 := by simp at h; omega
 exact ⟨_, rfl, rfl, [.slice A1 p1.length c1], [.slice A2 p2.length c2], rfl, ⟨A1, c1, rfl, h1, hc1, hm1⟩, ⟨A2, c2, rfl, h2, hc2, hm2⟩⟩
theorem wl_appItm (hx : fr.ev x = some (.slice A n c)) (hown : OwnI w lo hi A c L) (hn : n = L.length) (hy : fr.ev y = some (.slice B j q)) (hr : RIT w B I) (hj : j = I.length) (hlen : L.length + I.length ≤ 1000000) (hB : lo ≤ w.heap.size)
  (h : ∀ A' c' w', OwnI w' lo w'.heap.size A' c' (L ++ I) → Grew w w' 94 (blk A) → Below lo w w' → WL Tryz.prog fn F N ks ops tg.tail l ((d, .slice A' (L ++ I).length c') :: fr) w')
  (ht : tg.loud = true := by rfl) (hg : onG ops fr gd = true := by rfl) (hd : Nat.blt d N = true := by rfl) (hq : tg.calm = false ∨ blk A = none ∨ blk A = tg.row := by exact .inl rfl) :
  WL Tryz.prog fn F N ks ops tg (⟨some d, .call { callee := .builtin .append, args := #[x, y], argTypes := #[28, 28] }, ty, pos, aft, gd⟩ :: l) fr w :=
 wl_appS (X := gItem) Tryz.rowItem hx hown hn hy hr hj (by simp [gItem_tys]) gItem_one (by have := Nat.mul_le_mul_right 48 hlen; omega) (by omega) hB (fun A' c' w' h1 h2 h3 _ => h A' c' w' h1 h2 h3) ht hg hd hq
end
end Go.Proofs.YtahkeoegbjopfaaGreat
namespace Go.Proofs.YtahkeoegbjopfaaGreat
set_option maxRecDepth 100000
open Go.RowKit
theorem cmpL_bytes : ∀ (a b : List UInt8), Lib.compareBytes a b = cmpL a b
 | [], [] => rfl
 | [], _ :: _ => rfl
 | _ :: _, [] => rfl
 | x :: a, y :: b => by
  simp only [Lib.compareBytes, cmpL, cmpL_bytes a b]
  by_cases h : x = y
  ·subst h
   rw [if_neg (by simp), if_neg (by simp), if_pos rfl]
  ·rw [if_neg h]
   have h1 : x.toNat ≠ y.toNat := fun e => h (UInt8.toNat_inj.1 e)
   by_cases h2 : x.toNat < y.toNat
   ·rw [if_pos (show x < y from h2), if_pos h2]
   ·rw [if_neg (show ¬ x < y from h2), if_neg h2, if_pos (show y < x from (show y.toNat < x.toNat by omega))]
theorem run_loadBytes {P : Program} (w : World) (b : Nat) : ∀ (l : List UInt8) (o : Nat) (acc : ByteArray), (∀ j (h : j < l.length), w.cell? ⟨b, o + j, none⟩ = some (.int .u8 (l[j].toNat : Int))) →
  (Extern.Bytes.loadBytes ⟨b, o, none⟩ l.length acc).run P w = .ok ⟨acc.data ++ l.toArray⟩ w
 | [], o, acc, _ => by
  show Result.ok acc w = _
  simp
 | x :: l, o, acc, h => by
  have h0 := h 0 (by simp)
  have ih := run_loadBytes (P := P) w b l (o + 1) (acc.push x) (fun j hj => by
   have := h (j + 1) (by simpa using hj)
   rw [show o + 1 + j = o + (j + 1) by omega]
   simpa using this)
  simp only [Nat.add_zero, List.getElem_cons_zero] at h0
  simp only [List.length_cons, Extern.Bytes.loadBytes, Sem.run_bind, run_load, h0, Result.andThen]
  have e : (x.toNat : Int).toNat.toUInt8 = x := by simp
  rw [e]
  rw [show (⟨b, o, none⟩ : Addr).add 1 = ⟨b, o + 1, none⟩ from rfl, ih]
  congr 1
  simp [ByteArray.push]
theorem run_bytesOf {P : Program} {w : World} {A : Option Addr} {l : List UInt8} {c : Nat} (h : Rd w A l) : (Extern.Bytes.bytesOf (.slice A l.length c)).run P w = .ok ⟨l.toArray⟩ w := by
 by_cases hl : l = []
 ·subst hl
  rcases A with _ | ⟨b, o, p⟩
  ·rfl
  ·rfl
 ·obtain ⟨b, o, rfl, _, hc⟩ := h.at_ hl
  have := run_loadBytes (P := P) w b l o .empty hc
  simpa [Extern.Bytes.bytesOf] using this
section
variable {fn : Func} {N : Nat} {fr : Fr} {w w0 : World} {ty : TypeId} {x y z : Operand} {ts : Array TypeId}
theorem o_bcmp {A B : Option Addr} {a b : List UInt8} {n m c d : Nat} (hx : fr.ev x = some (.slice A n c)) (hy : fr.ev y = some (.slice B m d)) (ha : Rd w A a) (hb : Rd w B b) (hn : n = a.length) (hm : m = b.length) :
  OpV Tryz.prog N fr w (.call { callee := .value (.func 167), args := #[x, y], argTypes := ts }) ty (.int .i64 (cmpL a b)) w := fun ac hac o ho _ => by
 subst hn; subst hm
 have e1 : (Extern.BytealgCompare.compare #[.slice A a.length c, .slice B b.length d]).run Tryz.prog w = .ok (.int .i64 (cmpL a b)) w := by
  change Sem.run Tryz.prog (do pure (goInt (Extern.BytealgCompare.cmp (← Extern.Bytes.bytesOf (.slice A a.length c)) (← Extern.Bytes.bytesOf (.slice B b.length d))))) w = _
  simp only [Sem.run_bind, run_bytesOf ha, run_bytesOf hb, Sem.run_pure, Result.andThen]
  rw [Lib.cmp_eq, cmpL_bytes]
  rfl
 have hrun : (callFunc 167 #[.slice A a.length c, .slice B b.length d]).run Tryz.prog w = .ok (.value (.int .i64 (cmpL a b))) w := by
  rw [run_callFunc_extern Tryz.func167 (by kernel_rfl) (by kernel_rfl) (by kernel_rfl) (e := Extern.BytealgCompare.compare) (by kernel_rfl), e1]
  rfl
 have hfn : ac.eval (.func 167) = .func (.func 167) #[] #[] := rfl
 simp [execOp, ho, resolve, invoke, Deferred.ofValue, hac.ev hx, hac.ev hy, hfn, hrun]
end
theorem C_bCompare {A B : Option Addr} {a b : List UInt8} {n m c d : Nat} (w : World) (ha : Rd w A a) (hb : Rd w B b) (hn : n = a.length) (hm : m = b.length) :
  CallsR Tryz.prog 128 [.slice A n c, .slice B m d] w fun v w' => v = .int .i64 (cmpL a b) ∧ w' = w := by
 subst hn; subst hm
 refine callsR Tryz.func128 rfl rfl (by kernel_rfl) rfl ?_
 refine zs (za rfl (wl_nil (zs (zm rfl (zm rfl ?_)))))
 refine wl_r (o_bcmp rfl rfl ha hb rfl rfl) ?_
 refine za rfl (wl_nil ?_)
 refine ret1 rfl rfl ?_
 exact ⟨rfl, rfl⟩
end Go.Proofs.YtahkeoegbjopfaaGreat
namespace Go.Proofs.YtahkeoegbjopfaaGreat
set_option maxRecDepth 100000
open Go.RowKit
section
variable {N : Nat} {fr : Fr} {w w0 : World} {ty : TypeId} {x : Operand}
end
end Go.Proofs.YtahkeoegbjopfaaGreat
namespace Go.Proofs.YtahkeoegbjopfaaGreat
set_option maxRecDepth 100000
open Go.RowKit
section
variable {P : Program} {N : Nat} {fr : Fr} {w : World} {ty t t' : TypeId} {x y : Operand}
theorem run_equal_slice_nil {e : TypeId} (hu : P.underlying t = some (.slice e)) (A : Option Addr) (n c : Nat) : (Op.equal t (.slice A n c) (.slice none 0 0)).run P w = .ok A.isNone w := by
 have h : ∀ d : Nat, (Op.equalIn (d + 1) t (.slice A n c) (.slice none 0 0)).run P w = .ok A.isNone w := fun d => by
  cases A <;> simp [Op.equalIn, run_underlying hu]
 exact h 9999
theorem o_sleqN {e : TypeId} {A : Option Addr} {n c : Nat} (hu : P.underlying t = some (.slice e)) (hx : fr.ev x = some (.slice A n c)) (hy : fr.ev y = some (.slice none 0 0)) : OpV P N fr w (.binOp .eql t x y t') ty (.bool A.isNone) w :=
 o_bin hx hy (fun _ _ => by simp [go_sem]) (by simp only [binOp]; simp [run_equal_slice_nil hu])
end
set_option maxRecDepth 100000 in
theorem C_bClone {A : Option Addr} {p : List UInt8} {n c : Nat} (w : World) (hp : Rd w A p) (hn : n = p.length) (hl : p.length ≤ 4000000000) :
  CallsR Tryz.prog 64 [.slice A n c] w fun v w' => ∃ A' c', v = .slice A' p.length c' ∧ OwnH w' w.heap.size w'.heap.size A' c' p ∧ Below w.heap.size w w' := by
 subst hn
 rcases A with _ | ad
 ·obtain rfl : p = [] := by
   rcases p with _ | ⟨a, p⟩
   ·rfl
   ·obtain ⟨_, _, e, _⟩ := hp.2 (by simp [B8]); cases e
  refine callsR Tryz.func64 rfl rfl (by kernel_rfl) rfl ?_
  have hw := Below.refl w.heap.size w
  refine zs (za rfl (wl_nil (rk_seq (zs (zm rfl ?_)))))
  refine zp (o_sleqN Tryz.underlying39 rfl rfl) ?_
  refine wl_nil ?_
  refine rk_true rfl ?_
  refine zs (za rfl (wl_nil ?_))
  refine ret1 rfl rfl ?_
  exact ⟨none, 0, rfl, OwnH.nil_, hw⟩
 ·refine callsR Tryz.func64 rfl rfl (by kernel_rfl) rfl ?_
  have hw := Below.refl w.heap.size w
  refine zs (za rfl (wl_nil (rk_seq (zs (zm rfl ?_)))))
  refine zp (o_sleqN Tryz.underlying39 rfl rfl) ?_
  refine wl_nil ?_
  refine rk_false rfl ?_
  refine rk_skip (zs ?_)
  refine wl_litB [] Tryz.u8 Tryz.sizeOf5 Tryz.zeroValue5 (by rfl) rfl rfl (by rfl) (by rfl) (by rfl) ?_
  rintro A5 w5 f5 b5
  have qf5 := f5.cap
  have s5 := b5.size
  replace hw := hw.trans (b5.mono hw.size)
  refine zm rfl ?_
  refine wl_appB Tryz.u8 rfl f5 (by rfl) rfl (hp.u hw) rfl (by omega) hw.size ?_
  rintro A7 c7 w7 f7 g7 b7 i7
  have qf7 := f7.cap
  have s7 := g7.size
  replace hw := hw.trans (b7.mono (by omega))
  clear f5
  refine za rfl (wl_nil ?_)
  rw [List.nil_append] at f7 ⊢
  refine ret1 rfl rfl ?_
  exact ⟨_, _, rfl, f7, hw⟩
end Go.Proofs.YtahkeoegbjopfaaGreat
namespace Go.Proofs.YtahkeoegbjopfaaGreat
set_option maxRecDepth 100000
open Go.RowKit
def opC (k : Int) (K : Option Addr) (n c : Nat) (V : Option Addr) (m d : Nat) (u : Ky) : List Value := [.int .i64 k, .slice K n c, .slice V m d] ++ B8 u.1
theorem opC_length (k : Int) (K : Option Addr) (n c : Nat) (V : Option Addr) (m d : Nat) (u : Ky) : (opC k K n c V m d u).length = 35 := by simp [opC, B8_length, u.2]
theorem opC_cut (k : Int) (K : Option Addr) (n c : Nat) (V : Option Addr) (m d : Nat) (u : Ky) : ((opC k K n c V m d u).drop (0 + 3)).take 32 = B8 u.1 := by
 show (B8 u.1).take 32 = B8 u.1
 rw [List.take_of_length_le (by rw [B8_length, u.2]; omega)]
section
variable {N : Nat} {fr : Fr} {w : World} {ty t' : TypeId} {x : Operand} {g : Nat}
theorem o_ldWho {k : Int} {K V : Option Addr} {n c m d : Nat} {u : Ky} (hx : fr.ev x = some (.pointer (some ⟨g, 0 + 3, none⟩))) (hB : Blk w g t' (opC k K n c V m d u)) : OpV Tryz.prog N fr w (.load 42 x) ty (.agg (B8 u.1).toArray) w :=
 o_loadCut Tryz.isAgg42 Tryz.sizeOf42 hx hB (opC_cut ..) (by rw [B8_length, u.2])
theorem o_zKey : OpV Tryz.prog N fr w (.build 42 #[]) ty (.agg (B8 z32.1).toArray) w :=
 o_build (is := []) (xs := []) rfl (fun _ => by kernel_rfl)
end
def goodS (k : Int) (n m : Nat) (u : Ky) : Bool :=
 if k = 1 then decide (1 ≤ n ∧ n ≤ 16) && decide (m ≤ 32) && decide (u = z32)
 else if k = 2 then decide (1 ≤ n ∧ n ≤ 16) && decide (m = 0) && decide (u = z32)
 else decide (n = 0) && decide (m = 0)
theorem C_goodPut {K V : Option Addr} {n c m d : Nat} {k : Int} {u : Ky} (w : World) (hn : n ≤ 4000000000) (hm : m ≤ 4000000000) :
  CallsR Tryz.prog 69 [.agg (opC k K n c V m d u).toArray] w fun v w' => v = .bool (goodS 1 n m u) ∧ Below w.heap.size w w' := by
 refine callsR Tryz.func69 rfl rfl (by kernel_rfl) rfl ?_
 have hw := Below.refl w.heap.size w
 by_cases h1 : 1 ≤ n ∧ n ≤ 16
 ·by_cases h2 : m ≤ 32
  ·refine zs ?_
   refine wl_boxg _ rfl (by rfl) ?_
   rintro g1 w1 f1 b1 i1 i1_1
   have s1 := b1.size
   replace hw := hw.trans (b1.mono hw.size)
   refine za rfl (wl_nil (zs ?_))
   refine zp (o_faddr (s := 54) (i := 1) (off := 1) Tryz.underlying54 rfl Tryz.sizeOf39 rfl rfl rfl) ?_
   refine wl_r (o_loadbg Tryz.isAgg39 rfl f1 (by rfl)) ?_
   refine wl_call rfl (C_leafKey _ (by omega)) ?_
   rintro v5 w5 ⟨rfl, rfl⟩
   refine zm rfl ?_
   refine wl_know 6 true rfl (decide_eq_true (by omega)) ?_
   refine zp (o_faddr (s := 54) (i := 2) (off := 2) Tryz.underlying54 rfl Tryz.sizeOf39 rfl rfl rfl) ?_
   refine wl_r (o_loadbg Tryz.isAgg39 rfl f1 (by rfl)) ?_
   refine wl_call rfl (C_leafValue _ (by omega)) ?_
   rintro v9 w9 ⟨rfl, rfl⟩
   refine zp (o_pick_t rfl rfl) ?_
   refine zm rfl ?_
   refine wl_know 11 true rfl (decide_eq_true (by omega)) ?_
   refine zp (o_faddr (s := 54) (i := 3) (off := 3) Tryz.underlying54 rfl Tryz.sizeOf42 rfl rfl rfl) ?_
   refine wl_r (o_ldWho rfl f1) ?_
   refine zp (o_zKey) ?_
   refine zp (o_eqKy rfl rfl) ?_
   refine zp (o_pick_t rfl rfl) ?_
   refine za rfl (wl_nil ?_)
   refine ret1 rfl rfl ?_
   exact ⟨by simp [goodS, h1, h2], hw⟩
  ·refine zs ?_
   refine wl_boxg _ rfl (by rfl) ?_
   rintro g1 w1 f1 b1 i1 i1_1
   have s1 := b1.size
   replace hw := hw.trans (b1.mono hw.size)
   refine za rfl (wl_nil (zs ?_))
   refine zp (o_faddr (s := 54) (i := 1) (off := 1) Tryz.underlying54 rfl Tryz.sizeOf39 rfl rfl rfl) ?_
   refine wl_r (o_loadbg Tryz.isAgg39 rfl f1 (by rfl)) ?_
   refine wl_call rfl (C_leafKey _ (by omega)) ?_
   rintro v5 w5 ⟨rfl, rfl⟩
   refine zm rfl ?_
   refine wl_know 6 true rfl (decide_eq_true (by omega)) ?_
   refine zp (o_faddr (s := 54) (i := 2) (off := 2) Tryz.underlying54 rfl Tryz.sizeOf39 rfl rfl rfl) ?_
   refine wl_r (o_loadbg Tryz.isAgg39 rfl f1 (by rfl)) ?_
   refine wl_call rfl (C_leafValue _ (by omega)) ?_
   rintro v9 w9 ⟨rfl, rfl⟩
   refine zp (o_pick_t rfl rfl) ?_
   refine zm rfl ?_
   refine wl_know 11 false rfl (decide_eq_false (by omega)) ?_
   refine wl_off (wl_off (wl_off (wl_off ?_)))
   refine zp (o_pick_f rfl rfl) ?_
   refine za rfl (wl_nil ?_)
   refine ret1 rfl rfl ?_
   exact ⟨by simp [goodS, h2], hw⟩
 ·refine zs ?_
  refine wl_boxg _ rfl (by rfl) ?_
  rintro g1 w1 f1 b1 i1 i1_1
  have s1 := b1.size
  replace hw := hw.trans (b1.mono hw.size)
  refine za rfl (wl_nil (zs ?_))
  refine zp (o_faddr (s := 54) (i := 1) (off := 1) Tryz.underlying54 rfl Tryz.sizeOf39 rfl rfl rfl) ?_
  refine wl_r (o_loadbg Tryz.isAgg39 rfl f1 (by rfl)) ?_
  refine wl_call rfl (C_leafKey _ (by omega)) ?_
  rintro v5 w5 ⟨rfl, rfl⟩
  refine zm rfl ?_
  refine wl_know 6 false rfl (decide_eq_false (by omega)) ?_
  refine wl_off (wl_off (wl_off ?_))
  refine zp (o_pick_f rfl rfl) ?_
  refine zm rfl (wl_off (wl_off (wl_off (wl_off ?_))))
  refine zp (o_pick_f rfl rfl) ?_
  refine za rfl (wl_nil ?_)
  refine ret1 rfl rfl ?_
  exact ⟨by simp [goodS, h1], hw⟩
theorem C_goodDelete {K V : Option Addr} {n c m d : Nat} {k : Int} {u : Ky} (w : World) (hn : n ≤ 4000000000) (hm : m ≤ 4000000000) :
  CallsR Tryz.prog 73 [.agg (opC k K n c V m d u).toArray] w fun v w' => v = .bool (goodS 2 n m u) ∧ Below w.heap.size w w' := by
 refine callsR Tryz.func73 rfl rfl (by kernel_rfl) rfl ?_
 have hw := Below.refl w.heap.size w
 by_cases h1 : 1 ≤ n ∧ n ≤ 16
 ·by_cases h2 : m = 0
  ·refine zs ?_
   refine wl_boxg _ rfl (by rfl) ?_
   rintro g1 w1 f1 b1 i1 i1_1
   have s1 := b1.size
   replace hw := hw.trans (b1.mono hw.size)
   refine za rfl (wl_nil (zs ?_))
   refine zp (o_faddr (s := 54) (i := 1) (off := 1) Tryz.underlying54 rfl Tryz.sizeOf39 rfl rfl rfl) ?_
   refine wl_r (o_loadbg Tryz.isAgg39 rfl f1 (by rfl)) ?_
   refine wl_call rfl (C_leafKey _ (by omega)) ?_
   rintro v5 w5 ⟨rfl, rfl⟩
   refine zm rfl ?_
   refine wl_know 6 true rfl (decide_eq_true (by omega)) ?_
   refine zp (o_faddr (s := 54) (i := 2) (off := 2) Tryz.underlying54 rfl Tryz.sizeOf39 rfl rfl rfl) ?_
   refine wl_r (o_loadbg Tryz.isAgg39 rfl f1 (by rfl)) ?_
   refine zp (o_len (t := 39) Tryz.underlying39 rfl) ?_
   refine zp (o_eq rfl rfl) ?_
   refine zp (o_pick_t rfl rfl) ?_
   refine zm rfl ?_
   refine wl_know 12 true rfl (decide_eq_true (by omega)) ?_
   refine zp (o_faddr (s := 54) (i := 3) (off := 3) Tryz.underlying54 rfl Tryz.sizeOf42 rfl rfl rfl) ?_
   refine wl_r (o_ldWho rfl f1) ?_
   refine zp (o_zKey) ?_
   refine zp (o_eqKy rfl rfl) ?_
   refine zp (o_pick_t rfl rfl) ?_
   refine za rfl (wl_nil ?_)
   refine ret1 rfl rfl ?_
   exact ⟨by simp [goodS, h1, h2], hw⟩
  ·refine zs ?_
   refine wl_boxg _ rfl (by rfl) ?_
   rintro g1 w1 f1 b1 i1 i1_1
   have s1 := b1.size
   replace hw := hw.trans (b1.mono hw.size)
   refine za rfl (wl_nil (zs ?_))
   refine zp (o_faddr (s := 54) (i := 1) (off := 1) Tryz.underlying54 rfl Tryz.sizeOf39 rfl rfl rfl) ?_
   refine wl_r (o_loadbg Tryz.isAgg39 rfl f1 (by rfl)) ?_
   refine wl_call rfl (C_leafKey _ (by omega)) ?_
   rintro v5 w5 ⟨rfl, rfl⟩
   refine zm rfl ?_
   refine wl_know 6 true rfl (decide_eq_true (by omega)) ?_
   refine zp (o_faddr (s := 54) (i := 2) (off := 2) Tryz.underlying54 rfl Tryz.sizeOf39 rfl rfl rfl) ?_
   refine wl_r (o_loadbg Tryz.isAgg39 rfl f1 (by rfl)) ?_
   refine zp (o_len (t := 39) Tryz.underlying39 rfl) ?_
   refine zp (o_eq rfl rfl) ?_
   refine zp (o_pick_t rfl rfl) ?_
   refine zm rfl ?_
   refine wl_know 12 false rfl (decide_eq_false (by omega)) ?_
   refine wl_off (wl_off (wl_off (wl_off ?_)))
   refine zp (o_pick_f rfl rfl) ?_
   refine za rfl (wl_nil ?_)
   refine ret1 rfl rfl ?_
   exact ⟨by simp [goodS, h2], hw⟩
 ·refine zs ?_
  refine wl_boxg _ rfl (by rfl) ?_
  rintro g1 w1 f1 b1 i1 i1_1
  have s1 := b1.size
  replace hw := hw.trans (b1.mono hw.size)
  refine za rfl (wl_nil (zs ?_))
  refine zp (o_faddr (s := 54) (i := 1) (off := 1) Tryz.underlying54 rfl Tryz.sizeOf39 rfl rfl rfl) ?_
  refine wl_r (o_loadbg Tryz.isAgg39 rfl f1 (by rfl)) ?_
  refine wl_call rfl (C_leafKey _ (by omega)) ?_
  rintro v5 w5 ⟨rfl, rfl⟩
  refine zm rfl ?_
  refine wl_know 6 false rfl (decide_eq_false (by omega)) ?_
  refine wl_off (wl_off (wl_off (wl_off ?_)))
  refine zp (o_pick_f rfl rfl) ?_
  refine zm rfl (wl_off (wl_off (wl_off (wl_off ?_))))
  refine zp (o_pick_f rfl rfl) ?_
  refine za rfl (wl_nil ?_)
  refine ret1 rfl rfl ?_
  exact ⟨by simp [goodS, h1], hw⟩
theorem C_goodWho {K V : Option Addr} {n c m d : Nat} {k k2 : Int} {u : Ky} (w : World) (hk : k2 ≠ 1) (hk2 : k2 ≠ 2) :
  CallsR Tryz.prog 77 [.agg (opC k K n c V m d u).toArray] w fun v w' => v = .bool (goodS k2 n m u) ∧ Below w.heap.size w w' := by
 refine callsR Tryz.func77 rfl rfl (by kernel_rfl) rfl ?_
 have hw := Below.refl w.heap.size w
 by_cases h1 : n = 0
 ·refine zs ?_
  refine wl_boxg _ rfl (by rfl) ?_
  rintro g1 w1 f1 b1 i1 i1_1
  have s1 := b1.size
  replace hw := hw.trans (b1.mono hw.size)
  refine za rfl (wl_nil (zs ?_))
  refine zp (o_faddr (s := 54) (i := 1) (off := 1) Tryz.underlying54 rfl Tryz.sizeOf39 rfl rfl rfl) ?_
  refine wl_r (o_loadbg Tryz.isAgg39 rfl f1 (by rfl)) ?_
  refine zp (o_len (t := 39) Tryz.underlying39 rfl) ?_
  refine zp (o_eq rfl rfl) ?_
  refine zm rfl ?_
  refine wl_know 7 true rfl (decide_eq_true (by omega)) ?_
  refine zp (o_faddr (s := 54) (i := 2) (off := 2) Tryz.underlying54 rfl Tryz.sizeOf39 rfl rfl rfl) ?_
  refine wl_r (o_loadbg Tryz.isAgg39 rfl f1 (by rfl)) ?_
  refine zp (o_len (t := 39) Tryz.underlying39 rfl) ?_
  refine zp (o_eq rfl rfl) ?_
  refine zp (o_pick_t rfl rfl) ?_
  refine za rfl (wl_nil ?_)
  refine ret1 rfl rfl ?_
  exact ⟨by simp [goodS, h1, hk, hk2], hw⟩
 ·refine zs ?_
  refine wl_boxg _ rfl (by rfl) ?_
  rintro g1 w1 f1 b1 i1 i1_1
  have s1 := b1.size
  replace hw := hw.trans (b1.mono hw.size)
  refine za rfl (wl_nil (zs ?_))
  refine zp (o_faddr (s := 54) (i := 1) (off := 1) Tryz.underlying54 rfl Tryz.sizeOf39 rfl rfl rfl) ?_
  refine wl_r (o_loadbg Tryz.isAgg39 rfl f1 (by rfl)) ?_
  refine zp (o_len (t := 39) Tryz.underlying39 rfl) ?_
  refine zp (o_eq rfl rfl) ?_
  refine zm rfl ?_
  refine wl_know 7 false rfl (decide_eq_false (by omega)) ?_
  refine wl_off (wl_off (wl_off (wl_off ?_)))
  refine zp (o_pick_f rfl rfl) ?_
  refine za rfl (wl_nil ?_)
  refine ret1 rfl rfl ?_
  exact ⟨by simp [goodS, h1, hk, hk2], hw⟩
end Go.Proofs.YtahkeoegbjopfaaGreat
namespace Go.Proofs.YtahkeoegbjopfaaGreat
set_option maxRecDepth 100000
open Go.RowKit
section
variable {P : Program} {N : Nat} {fr : Fr} {w : World} {ty t e : TypeId} {x y : Operand} {g n sz : Nat} {k : IntKind} {m : Int}
theorem o_iaddrPn (j : Nat) (hu : P.underlying t = some (.array n e)) (hs : ∀ w, (sizeOf e).run P w = .ok sz w) (hx : fr.ev x = some (.pointer (some ⟨g, 0, none⟩))) (hy : fr.ev y = some (.int k m)) (hm : m = (j : Int)) (hj : j < n) :
  OpV P N fr w (.indexAddr t x y) ty (.pointer (some ⟨g, j * sz, none⟩)) w := fun a ha op hop _ => by
 subst hm
 have h2 : ¬ n ≤ j := by omega
 simp [execOp, hop, ha.ev hx, ha.ev hy, Instr.indexAt, run_underlying hu, asIntOf, hs, add_plain, Instr.sureAddr, h2]
end
def Sh4 (k : Int) (gf pf rf df : Nat) : Prop :=
 (k = 1 ∧ gf = 69 ∧ pf = 70 ∧ rf = 71 ∧ df = 72) ∨
 (k = 2 ∧ gf = 73 ∧ pf = 74 ∧ rf = 75 ∧ df = 76) ∨
 (k = 3 ∧ gf = 77 ∧ pf = 78 ∧ rf = 79 ∧ df = 80) ∨
 (k = 4 ∧ gf = 77 ∧ pf = 78 ∧ rf = 79 ∧ df = 81) ∨
 (k = 5 ∧ gf = 77 ∧ pf = 78 ∧ rf = 79 ∧ df = 82) ∨
 (k = 6 ∧ gf = 77 ∧ pf = 78 ∧ rf = 79 ∧ df = 83)
theorem C_formOk {k : Int} (w : World) (h1 : 1 ≤ k) (h6 : k ≤ 6) :
  CallsR Tryz.prog 40 [.int .i64 k] w fun v w' => ∃ gf pf rf df, v = .tuple #[.agg #[.func (.func gf) #[] #[], .func (.func pf) #[] #[], .func (.func rf) #[] #[], .func (.func df) #[] #[]], .bool true] ∧ Sh4 k gf pf rf df ∧ Below w.heap.size w w' := by
 obtain rfl | rfl | rfl | rfl | rfl | rfl : k = 1 ∨ k = 2 ∨ k = 3 ∨ k = 4 ∨ k = 5 ∨ k = 6 := by omega
 ·refine callsR Tryz.func40 rfl rfl (by kernel_rfl) rfl ?_
  have hw := Below.refl w.heap.size w
  refine zs ?_
  refine wl_allocg [_, _, _, _] Tryz.zeroValue89 (by rfl) ?_
  rintro g2 w2 f2 b2 i2 i2_1
  have s2 := b2.size
  replace hw := hw.trans (b2.mono hw.size)
  refine za rfl (wl_nil (zs ?_))
  refine zp (o_buildg [_, _, _, _] Tryz.underlying89 Tryz.zeroValue89 (by rfl) (by rfl) rfl (by rfl) (by rfl) (fun _ => by kernel_rfl)) ?_
  refine zp (o_buildg [_, _, _, _] Tryz.underlying89 Tryz.zeroValue89 (by rfl) (by rfl) rfl (by rfl) (by rfl) (fun _ => by kernel_rfl)) ?_
  refine zp (o_buildg [_, _, _, _] Tryz.underlying89 Tryz.zeroValue89 (by rfl) (by rfl) rfl (by rfl) (by rfl) (fun _ => by kernel_rfl)) ?_
  refine zp (o_buildg [_, _, _, _] Tryz.underlying89 Tryz.zeroValue89 (by rfl) (by rfl) rfl (by rfl) (by rfl) (fun _ => by kernel_rfl)) ?_
  refine zp (o_buildg [_, _, _, _] Tryz.underlying89 Tryz.zeroValue89 (by rfl) (by rfl) rfl (by rfl) (by rfl) (fun _ => by kernel_rfl)) ?_
  refine zp (o_buildg [_, _, _, _] Tryz.underlying89 Tryz.zeroValue89 (by rfl) (by rfl) rfl (by rfl) (by rfl) (fun _ => by kernel_rfl)) ?_
  refine zp (o_buildga [_, _, _, _, _, _, _, _, _, _, _, _, _, _, _, _, _, _, _, _, _, _, _, _, _, _, _, _] Tryz.underlying122 Tryz.sizeOf89 Tryz.zeroValue122 (by rfl) (by rfl) rfl (by rfl) (by rfl) (fun _ => by kernel_rfl)) ?_
  refine wl_allocg [_, _, _, _, _, _, _, _, _, _, _, _, _, _, _, _, _, _, _, _, _, _, _, _, _, _, _, _] Tryz.zeroValue122 (by rfl) ?_
  rintro g4 w4 f4 b4 i4 i4_1
  have s4 := b4.size
  replace hw := hw.trans (b4.mono hw.size)
  replace f2 := f2.u b4
  refine wl_storega Tryz.sizeOf122 rfl rfl (by rfl) (by decide) f4 (by rfl) ?_
  rintro w_1 f g e
  have s := g.size
  replace hw := hw.trans (below_of_grownBy g.g hw.size (by omega))
  replace f2 := f2.k g.g (ap_some (by omega))
  clear f4
  refine wl_nil (rk_seq (zs (zm rfl ?_)))
  refine zp (o_lt rfl rfl) ?_
  refine zm rfl (zm rfl ?_)
  refine zp (o_ge rfl rfl) ?_
  refine zp (o_pick_f rfl rfl) ?_
  refine wl_nil ?_
  refine rk_false rfl ?_
  refine rk_skip (zs (zm rfl ?_))
  refine zp (o_iaddrPn (1) Tryz.underlying122 Tryz.sizeOf89 rfl rfl (by omega) (by omega)) ?_
  refine wl_r (o_loadCut Tryz.isAgg89 Tryz.sizeOf89 rfl f (by rfl) (by rfl)) ?_
  refine wl_storega Tryz.sizeOf89 rfl rfl (by rfl) (by decide) f2 (by rfl) ?_
  rintro w_2 f_1 g_1 e_1
  have s_1 := g_1.size
  replace hw := hw.trans (below_of_grownBy g_1.g hw.size (by omega))
  replace f := f.k g_1.g (ap_some (by omega))
  clear f2
  refine za rfl (wl_nil ?_)
  refine ret_any rfl (.cell rfl Tryz.isAgg89 Tryz.sizeOf89 (by assumption) rfl <| .tmp rfl <| .nil) (by simp) ?_
  exact ⟨_, _, _, _, rfl, by simp [Sh4], hw⟩
 ·refine callsR Tryz.func40 rfl rfl (by kernel_rfl) rfl ?_
  have hw := Below.refl w.heap.size w
  refine zs ?_
  refine wl_allocg [_, _, _, _] Tryz.zeroValue89 (by rfl) ?_
  rintro g2 w2 f2 b2 i2 i2_1
  have s2 := b2.size
  replace hw := hw.trans (b2.mono hw.size)
  refine za rfl (wl_nil (zs ?_))
  refine zp (o_buildg [_, _, _, _] Tryz.underlying89 Tryz.zeroValue89 (by rfl) (by rfl) rfl (by rfl) (by rfl) (fun _ => by kernel_rfl)) ?_
  refine zp (o_buildg [_, _, _, _] Tryz.underlying89 Tryz.zeroValue89 (by rfl) (by rfl) rfl (by rfl) (by rfl) (fun _ => by kernel_rfl)) ?_
  refine zp (o_buildg [_, _, _, _] Tryz.underlying89 Tryz.zeroValue89 (by rfl) (by rfl) rfl (by rfl) (by rfl) (fun _ => by kernel_rfl)) ?_
  refine zp (o_buildg [_, _, _, _] Tryz.underlying89 Tryz.zeroValue89 (by rfl) (by rfl) rfl (by rfl) (by rfl) (fun _ => by kernel_rfl)) ?_
  refine zp (o_buildg [_, _, _, _] Tryz.underlying89 Tryz.zeroValue89 (by rfl) (by rfl) rfl (by rfl) (by rfl) (fun _ => by kernel_rfl)) ?_
  refine zp (o_buildg [_, _, _, _] Tryz.underlying89 Tryz.zeroValue89 (by rfl) (by rfl) rfl (by rfl) (by rfl) (fun _ => by kernel_rfl)) ?_
  refine zp (o_buildga [_, _, _, _, _, _, _, _, _, _, _, _, _, _, _, _, _, _, _, _, _, _, _, _, _, _, _, _] Tryz.underlying122 Tryz.sizeOf89 Tryz.zeroValue122 (by rfl) (by rfl) rfl (by rfl) (by rfl) (fun _ => by kernel_rfl)) ?_
  refine wl_allocg [_, _, _, _, _, _, _, _, _, _, _, _, _, _, _, _, _, _, _, _, _, _, _, _, _, _, _, _] Tryz.zeroValue122 (by rfl) ?_
  rintro g4 w4 f4 b4 i4 i4_1
  have s4 := b4.size
  replace hw := hw.trans (b4.mono hw.size)
  replace f2 := f2.u b4
  refine wl_storega Tryz.sizeOf122 rfl rfl (by rfl) (by decide) f4 (by rfl) ?_
  rintro w_1 f g e
  have s := g.size
  replace hw := hw.trans (below_of_grownBy g.g hw.size (by omega))
  replace f2 := f2.k g.g (ap_some (by omega))
  clear f4
  refine wl_nil (rk_seq (zs (zm rfl ?_)))
  refine zp (o_lt rfl rfl) ?_
  refine zm rfl (zm rfl ?_)
  refine zp (o_ge rfl rfl) ?_
  refine zp (o_pick_f rfl rfl) ?_
  refine wl_nil ?_
  refine rk_false rfl ?_
  refine rk_skip (zs (zm rfl ?_))
  refine zp (o_iaddrPn (2) Tryz.underlying122 Tryz.sizeOf89 rfl rfl (by omega) (by omega)) ?_
  refine wl_r (o_loadCut Tryz.isAgg89 Tryz.sizeOf89 rfl f (by rfl) (by rfl)) ?_
  refine wl_storega Tryz.sizeOf89 rfl rfl (by rfl) (by decide) f2 (by rfl) ?_
  rintro w_2 f_1 g_1 e_1
  have s_1 := g_1.size
  replace hw := hw.trans (below_of_grownBy g_1.g hw.size (by omega))
  replace f := f.k g_1.g (ap_some (by omega))
  clear f2
  refine za rfl (wl_nil ?_)
  refine ret_any rfl (.cell rfl Tryz.isAgg89 Tryz.sizeOf89 (by assumption) rfl <| .tmp rfl <| .nil) (by simp) ?_
  exact ⟨_, _, _, _, rfl, by simp [Sh4], hw⟩
 ·refine callsR Tryz.func40 rfl rfl (by kernel_rfl) rfl ?_
  have hw := Below.refl w.heap.size w
  refine zs ?_
  refine wl_allocg [_, _, _, _] Tryz.zeroValue89 (by rfl) ?_
  rintro g2 w2 f2 b2 i2 i2_1
  have s2 := b2.size
  replace hw := hw.trans (b2.mono hw.size)
  refine za rfl (wl_nil (zs ?_))
  refine zp (o_buildg [_, _, _, _] Tryz.underlying89 Tryz.zeroValue89 (by rfl) (by rfl) rfl (by rfl) (by rfl) (fun _ => by kernel_rfl)) ?_
  refine zp (o_buildg [_, _, _, _] Tryz.underlying89 Tryz.zeroValue89 (by rfl) (by rfl) rfl (by rfl) (by rfl) (fun _ => by kernel_rfl)) ?_
  refine zp (o_buildg [_, _, _, _] Tryz.underlying89 Tryz.zeroValue89 (by rfl) (by rfl) rfl (by rfl) (by rfl) (fun _ => by kernel_rfl)) ?_
  refine zp (o_buildg [_, _, _, _] Tryz.underlying89 Tryz.zeroValue89 (by rfl) (by rfl) rfl (by rfl) (by rfl) (fun _ => by kernel_rfl)) ?_
  refine zp (o_buildg [_, _, _, _] Tryz.underlying89 Tryz.zeroValue89 (by rfl) (by rfl) rfl (by rfl) (by rfl) (fun _ => by kernel_rfl)) ?_
  refine zp (o_buildg [_, _, _, _] Tryz.underlying89 Tryz.zeroValue89 (by rfl) (by rfl) rfl (by rfl) (by rfl) (fun _ => by kernel_rfl)) ?_
  refine zp (o_buildga [_, _, _, _, _, _, _, _, _, _, _, _, _, _, _, _, _, _, _, _, _, _, _, _, _, _, _, _] Tryz.underlying122 Tryz.sizeOf89 Tryz.zeroValue122 (by rfl) (by rfl) rfl (by rfl) (by rfl) (fun _ => by kernel_rfl)) ?_
  refine wl_allocg [_, _, _, _, _, _, _, _, _, _, _, _, _, _, _, _, _, _, _, _, _, _, _, _, _, _, _, _] Tryz.zeroValue122 (by rfl) ?_
  rintro g4 w4 f4 b4 i4 i4_1
  have s4 := b4.size
  replace hw := hw.trans (b4.mono hw.size)
  replace f2 := f2.u b4
  refine wl_storega Tryz.sizeOf122 rfl rfl (by rfl) (by decide) f4 (by rfl) ?_
  rintro w_1 f g e
  have s := g.size
  replace hw := hw.trans (below_of_grownBy g.g hw.size (by omega))
  replace f2 := f2.k g.g (ap_some (by omega))
  clear f4
  refine wl_nil (rk_seq (zs (zm rfl ?_)))
  refine zp (o_lt rfl rfl) ?_
  refine zm rfl (zm rfl ?_)
  refine zp (o_ge rfl rfl) ?_
  refine zp (o_pick_f rfl rfl) ?_
  refine wl_nil ?_
  refine rk_false rfl ?_
  refine rk_skip (zs (zm rfl ?_))
  refine zp (o_iaddrPn (3) Tryz.underlying122 Tryz.sizeOf89 rfl rfl (by omega) (by omega)) ?_
  refine wl_r (o_loadCut Tryz.isAgg89 Tryz.sizeOf89 rfl f (by rfl) (by rfl)) ?_
  refine wl_storega Tryz.sizeOf89 rfl rfl (by rfl) (by decide) f2 (by rfl) ?_
  rintro w_2 f_1 g_1 e_1
  have s_1 := g_1.size
  replace hw := hw.trans (below_of_grownBy g_1.g hw.size (by omega))
  replace f := f.k g_1.g (ap_some (by omega))
  clear f2
  refine za rfl (wl_nil ?_)
  refine ret_any rfl (.cell rfl Tryz.isAgg89 Tryz.sizeOf89 (by assumption) rfl <| .tmp rfl <| .nil) (by simp) ?_
  exact ⟨_, _, _, _, rfl, by simp [Sh4], hw⟩
 ·refine callsR Tryz.func40 rfl rfl (by kernel_rfl) rfl ?_
  have hw := Below.refl w.heap.size w
  refine zs ?_
  refine wl_allocg [_, _, _, _] Tryz.zeroValue89 (by rfl) ?_
  rintro g2 w2 f2 b2 i2 i2_1
  have s2 := b2.size
  replace hw := hw.trans (b2.mono hw.size)
  refine za rfl (wl_nil (zs ?_))
  refine zp (o_buildg [_, _, _, _] Tryz.underlying89 Tryz.zeroValue89 (by rfl) (by rfl) rfl (by rfl) (by rfl) (fun _ => by kernel_rfl)) ?_
  refine zp (o_buildg [_, _, _, _] Tryz.underlying89 Tryz.zeroValue89 (by rfl) (by rfl) rfl (by rfl) (by rfl) (fun _ => by kernel_rfl)) ?_
  refine zp (o_buildg [_, _, _, _] Tryz.underlying89 Tryz.zeroValue89 (by rfl) (by rfl) rfl (by rfl) (by rfl) (fun _ => by kernel_rfl)) ?_
  refine zp (o_buildg [_, _, _, _] Tryz.underlying89 Tryz.zeroValue89 (by rfl) (by rfl) rfl (by rfl) (by rfl) (fun _ => by kernel_rfl)) ?_
  refine zp (o_buildg [_, _, _, _] Tryz.underlying89 Tryz.zeroValue89 (by rfl) (by rfl) rfl (by rfl) (by rfl) (fun _ => by kernel_rfl)) ?_
  refine zp (o_buildg [_, _, _, _] Tryz.underlying89 Tryz.zeroValue89 (by rfl) (by rfl) rfl (by rfl) (by rfl) (fun _ => by kernel_rfl)) ?_
  refine zp (o_buildga [_, _, _, _, _, _, _, _, _, _, _, _, _, _, _, _, _, _, _, _, _, _, _, _, _, _, _, _] Tryz.underlying122 Tryz.sizeOf89 Tryz.zeroValue122 (by rfl) (by rfl) rfl (by rfl) (by rfl) (fun _ => by kernel_rfl)) ?_
  refine wl_allocg [_, _, _, _, _, _, _, _, _, _, _, _, _, _, _, _, _, _, _, _, _, _, _, _, _, _, _, _] Tryz.zeroValue122 (by rfl) ?_
  rintro g4 w4 f4 b4 i4 i4_1
  have s4 := b4.size
  replace hw := hw.trans (b4.mono hw.size)
  replace f2 := f2.u b4
  refine wl_storega Tryz.sizeOf122 rfl rfl (by rfl) (by decide) f4 (by rfl) ?_
  rintro w_1 f g e
  have s := g.size
  replace hw := hw.trans (below_of_grownBy g.g hw.size (by omega))
  replace f2 := f2.k g.g (ap_some (by omega))
  clear f4
  refine wl_nil (rk_seq (zs (zm rfl ?_)))
  refine zp (o_lt rfl rfl) ?_
  refine zm rfl (zm rfl ?_)
  refine zp (o_ge rfl rfl) ?_
  refine zp (o_pick_f rfl rfl) ?_
  refine wl_nil ?_
  refine rk_false rfl ?_
  refine rk_skip (zs (zm rfl ?_))
  refine zp (o_iaddrPn (4) Tryz.underlying122 Tryz.sizeOf89 rfl rfl (by omega) (by omega)) ?_
  refine wl_r (o_loadCut Tryz.isAgg89 Tryz.sizeOf89 rfl f (by rfl) (by rfl)) ?_
  refine wl_storega Tryz.sizeOf89 rfl rfl (by rfl) (by decide) f2 (by rfl) ?_
  rintro w_2 f_1 g_1 e_1
  have s_1 := g_1.size
  replace hw := hw.trans (below_of_grownBy g_1.g hw.size (by omega))
  replace f := f.k g_1.g (ap_some (by omega))
  clear f2
  refine za rfl (wl_nil ?_)
  refine ret_any rfl (.cell rfl Tryz.isAgg89 Tryz.sizeOf89 (by assumption) rfl <| .tmp rfl <| .nil) (by simp) ?_
  exact ⟨_, _, _, _, rfl, by simp [Sh4], hw⟩
 ·refine callsR Tryz.func40 rfl rfl (by kernel_rfl) rfl ?_
  have hw := Below.refl w.heap.size w
  refine zs ?_
  refine wl_allocg [_, _, _, _] Tryz.zeroValue89 (by rfl) ?_
  rintro g2 w2 f2 b2 i2 i2_1
  have s2 := b2.size
  replace hw := hw.trans (b2.mono hw.size)
  refine za rfl (wl_nil (zs ?_))
  refine zp (o_buildg [_, _, _, _] Tryz.underlying89 Tryz.zeroValue89 (by rfl) (by rfl) rfl (by rfl) (by rfl) (fun _ => by kernel_rfl)) ?_
  refine zp (o_buildg [_, _, _, _] Tryz.underlying89 Tryz.zeroValue89 (by rfl) (by rfl) rfl (by rfl) (by rfl) (fun _ => by kernel_rfl)) ?_
  refine zp (o_buildg [_, _, _, _] Tryz.underlying89 Tryz.zeroValue89 (by rfl) (by rfl) rfl (by rfl) (by rfl) (fun _ => by kernel_rfl)) ?_
  refine zp (o_buildg [_, _, _, _] Tryz.underlying89 Tryz.zeroValue89 (by rfl) (by rfl) rfl (by rfl) (by rfl) (fun _ => by kernel_rfl)) ?_
  refine zp (o_buildg [_, _, _, _] Tryz.underlying89 Tryz.zeroValue89 (by rfl) (by rfl) rfl (by rfl) (by rfl) (fun _ => by kernel_rfl)) ?_
  refine zp (o_buildg [_, _, _, _] Tryz.underlying89 Tryz.zeroValue89 (by rfl) (by rfl) rfl (by rfl) (by rfl) (fun _ => by kernel_rfl)) ?_
  refine zp (o_buildga [_, _, _, _, _, _, _, _, _, _, _, _, _, _, _, _, _, _, _, _, _, _, _, _, _, _, _, _] Tryz.underlying122 Tryz.sizeOf89 Tryz.zeroValue122 (by rfl) (by rfl) rfl (by rfl) (by rfl) (fun _ => by kernel_rfl)) ?_
  refine wl_allocg [_, _, _, _, _, _, _, _, _, _, _, _, _, _, _, _, _, _, _, _, _, _, _, _, _, _, _, _] Tryz.zeroValue122 (by rfl) ?_
  rintro g4 w4 f4 b4 i4 i4_1
  have s4 := b4.size
  replace hw := hw.trans (b4.mono hw.size)
  replace f2 := f2.u b4
  refine wl_storega Tryz.sizeOf122 rfl rfl (by rfl) (by decide) f4 (by rfl) ?_
  rintro w_1 f g e
  have s := g.size
  replace hw := hw.trans (below_of_grownBy g.g hw.size (by omega))
  replace f2 := f2.k g.g (ap_some (by omega))
  clear f4
  refine wl_nil (rk_seq (zs (zm rfl ?_)))
  refine zp (o_lt rfl rfl) ?_
  refine zm rfl (zm rfl ?_)
  refine zp (o_ge rfl rfl) ?_
  refine zp (o_pick_f rfl rfl) ?_
  refine wl_nil ?_
  refine rk_false rfl ?_
  refine rk_skip (zs (zm rfl ?_))
  refine zp (o_iaddrPn (5) Tryz.underlying122 Tryz.sizeOf89 rfl rfl (by omega) (by omega)) ?_
  refine wl_r (o_loadCut Tryz.isAgg89 Tryz.sizeOf89 rfl f (by rfl) (by rfl)) ?_
  refine wl_storega Tryz.sizeOf89 rfl rfl (by rfl) (by decide) f2 (by rfl) ?_
  rintro w_2 f_1 g_1 e_1
  have s_1 := g_1.size
  replace hw := hw.trans (below_of_grownBy g_1.g hw.size (by omega))
  replace f := f.k g_1.g (ap_some (by omega))
  clear f2
  refine za rfl (wl_nil ?_)
  refine ret_any rfl (.cell rfl Tryz.isAgg89 Tryz.sizeOf89 (by assumption) rfl <| .tmp rfl <| .nil) (by simp) ?_
  exact ⟨_, _, _, _, rfl, by simp [Sh4], hw⟩
 ·refine callsR Tryz.func40 rfl rfl (by kernel_rfl) rfl ?_
  have hw := Below.refl w.heap.size w
  refine zs ?_
  refine wl_allocg [_, _, _, _] Tryz.zeroValue89 (by rfl) ?_
  rintro g2 w2 f2 b2 i2 i2_1
  have s2 := b2.size
  replace hw := hw.trans (b2.mono hw.size)
  refine za rfl (wl_nil (zs ?_))
  refine zp (o_buildg [_, _, _, _] Tryz.underlying89 Tryz.zeroValue89 (by rfl) (by rfl) rfl (by rfl) (by rfl) (fun _ => by kernel_rfl)) ?_
  refine zp (o_buildg [_, _, _, _] Tryz.underlying89 Tryz.zeroValue89 (by rfl) (by rfl) rfl (by rfl) (by rfl) (fun _ => by kernel_rfl)) ?_
  refine zp (o_buildg [_, _, _, _] Tryz.underlying89 Tryz.zeroValue89 (by rfl) (by rfl) rfl (by rfl) (by rfl) (fun _ => by kernel_rfl)) ?_
  refine zp (o_buildg [_, _, _, _] Tryz.underlying89 Tryz.zeroValue89 (by rfl) (by rfl) rfl (by rfl) (by rfl) (fun _ => by kernel_rfl)) ?_
  refine zp (o_buildg [_, _, _, _] Tryz.underlying89 Tryz.zeroValue89 (by rfl) (by rfl) rfl (by rfl) (by rfl) (fun _ => by kernel_rfl)) ?_
  refine zp (o_buildg [_, _, _, _] Tryz.underlying89 Tryz.zeroValue89 (by rfl) (by rfl) rfl (by rfl) (by rfl) (fun _ => by kernel_rfl)) ?_
  refine zp (o_buildga [_, _, _, _, _, _, _, _, _, _, _, _, _, _, _, _, _, _, _, _, _, _, _, _, _, _, _, _] Tryz.underlying122 Tryz.sizeOf89 Tryz.zeroValue122 (by rfl) (by rfl) rfl (by rfl) (by rfl) (fun _ => by kernel_rfl)) ?_
  refine wl_allocg [_, _, _, _, _, _, _, _, _, _, _, _, _, _, _, _, _, _, _, _, _, _, _, _, _, _, _, _] Tryz.zeroValue122 (by rfl) ?_
  rintro g4 w4 f4 b4 i4 i4_1
  have s4 := b4.size
  replace hw := hw.trans (b4.mono hw.size)
  replace f2 := f2.u b4
  refine wl_storega Tryz.sizeOf122 rfl rfl (by rfl) (by decide) f4 (by rfl) ?_
  rintro w_1 f g e
  have s := g.size
  replace hw := hw.trans (below_of_grownBy g.g hw.size (by omega))
  replace f2 := f2.k g.g (ap_some (by omega))
  clear f4
  refine wl_nil (rk_seq (zs (zm rfl ?_)))
  refine zp (o_lt rfl rfl) ?_
  refine zm rfl (zm rfl ?_)
  refine zp (o_ge rfl rfl) ?_
  refine zp (o_pick_f rfl rfl) ?_
  refine wl_nil ?_
  refine rk_false rfl ?_
  refine rk_skip (zs (zm rfl ?_))
  refine zp (o_iaddrPn (6) Tryz.underlying122 Tryz.sizeOf89 rfl rfl (by omega) (by omega)) ?_
  refine wl_r (o_loadCut Tryz.isAgg89 Tryz.sizeOf89 rfl f (by rfl) (by rfl)) ?_
  refine wl_storega Tryz.sizeOf89 rfl rfl (by rfl) (by decide) f2 (by rfl) ?_
  rintro w_2 f_1 g_1 e_1
  have s_1 := g_1.size
  replace hw := hw.trans (below_of_grownBy g_1.g hw.size (by omega))
  replace f := f.k g_1.g (ap_some (by omega))
  clear f2
  refine za rfl (wl_nil ?_)
  refine ret_any rfl (.cell rfl Tryz.isAgg89 Tryz.sizeOf89 (by assumption) rfl <| .tmp rfl <| .nil) (by simp) ?_
  exact ⟨_, _, _, _, rfl, by simp [Sh4], hw⟩
theorem C_formBad {k : Int} (w : World) (h : k < 1 ∨ 6 < k) :
  CallsR Tryz.prog 40 [.int .i64 k] w fun v w' => v = .tuple #[.agg #[.nilFunc, .nilFunc, .nilFunc, .nilFunc], .bool false] ∧ Below w.heap.size w w' := by
 refine callsR Tryz.func40 rfl rfl (by kernel_rfl) rfl ?_
 have hw := Below.refl w.heap.size w
 by_cases h1 : k < 1
 ·refine zs ?_
  refine wl_allocg [_, _, _, _] Tryz.zeroValue89 (by rfl) ?_
  rintro g2 w2 f2 b2 i2 i2_1
  have s2 := b2.size
  replace hw := hw.trans (b2.mono hw.size)
  refine za rfl (wl_nil (zs ?_))
  refine zp (o_buildg [_, _, _, _] Tryz.underlying89 Tryz.zeroValue89 (by rfl) (by rfl) rfl (by rfl) (by rfl) (fun _ => by kernel_rfl)) ?_
  refine zp (o_buildg [_, _, _, _] Tryz.underlying89 Tryz.zeroValue89 (by rfl) (by rfl) rfl (by rfl) (by rfl) (fun _ => by kernel_rfl)) ?_
  refine zp (o_buildg [_, _, _, _] Tryz.underlying89 Tryz.zeroValue89 (by rfl) (by rfl) rfl (by rfl) (by rfl) (fun _ => by kernel_rfl)) ?_
  refine zp (o_buildg [_, _, _, _] Tryz.underlying89 Tryz.zeroValue89 (by rfl) (by rfl) rfl (by rfl) (by rfl) (fun _ => by kernel_rfl)) ?_
  refine zp (o_buildg [_, _, _, _] Tryz.underlying89 Tryz.zeroValue89 (by rfl) (by rfl) rfl (by rfl) (by rfl) (fun _ => by kernel_rfl)) ?_
  refine zp (o_buildg [_, _, _, _] Tryz.underlying89 Tryz.zeroValue89 (by rfl) (by rfl) rfl (by rfl) (by rfl) (fun _ => by kernel_rfl)) ?_
  refine zp (o_buildga [_, _, _, _, _, _, _, _, _, _, _, _, _, _, _, _, _, _, _, _, _, _, _, _, _, _, _, _] Tryz.underlying122 Tryz.sizeOf89 Tryz.zeroValue122 (by rfl) (by rfl) rfl (by rfl) (by rfl) (fun _ => by kernel_rfl)) ?_
  refine wl_allocg [_, _, _, _, _, _, _, _, _, _, _, _, _, _, _, _, _, _, _, _, _, _, _, _, _, _, _, _] Tryz.zeroValue122 (by rfl) ?_
  rintro g4 w4 f4 b4 i4 i4_1
  have s4 := b4.size
  replace hw := hw.trans (b4.mono hw.size)
  replace f2 := f2.u b4
  refine wl_storega Tryz.sizeOf122 rfl rfl (by rfl) (by decide) f4 (by rfl) ?_
  rintro w_1 f g e
  have s := g.size
  replace hw := hw.trans (below_of_grownBy g.g hw.size (by omega))
  replace f2 := f2.k g.g (ap_some (by omega))
  clear f4
  refine wl_nil (rk_seq (zs (zm rfl ?_)))
  refine zp (o_lt rfl rfl) ?_
  refine zm rfl ?_
  refine wl_know 14 true rfl (decide_eq_true (by omega)) ?_
  refine wl_off (wl_off ?_)
  refine zp (o_pick_t rfl rfl) ?_
  refine wl_nil ?_
  refine rk_true rfl ?_
  refine zs ?_
  refine zp (o_buildg [_, _, _, _] Tryz.underlying89 Tryz.zeroValue89 (by rfl) (by rfl) rfl (by rfl) (by rfl) (fun _ => by kernel_rfl)) ?_
  refine wl_storega Tryz.sizeOf89 rfl rfl (by rfl) (by decide) f2 (by rfl) ?_
  rintro w_2 f_1 g_1 e_1
  have s_1 := g_1.size
  replace hw := hw.trans (below_of_grownBy g_1.g hw.size (by omega))
  replace f := f.k g_1.g (ap_some (by omega))
  clear f2
  refine za rfl (wl_nil ?_)
  refine ret_any rfl (.cell rfl Tryz.isAgg89 Tryz.sizeOf89 (by assumption) rfl <| .tmp rfl <| .nil) (by simp) ?_
  exact ⟨rfl, hw⟩
 ·refine zs ?_
  refine wl_allocg [_, _, _, _] Tryz.zeroValue89 (by rfl) ?_
  rintro g2 w2 f2 b2 i2 i2_1
  have s2 := b2.size
  replace hw := hw.trans (b2.mono hw.size)
  refine za rfl (wl_nil (zs ?_))
  refine zp (o_buildg [_, _, _, _] Tryz.underlying89 Tryz.zeroValue89 (by rfl) (by rfl) rfl (by rfl) (by rfl) (fun _ => by kernel_rfl)) ?_
  refine zp (o_buildg [_, _, _, _] Tryz.underlying89 Tryz.zeroValue89 (by rfl) (by rfl) rfl (by rfl) (by rfl) (fun _ => by kernel_rfl)) ?_
  refine zp (o_buildg [_, _, _, _] Tryz.underlying89 Tryz.zeroValue89 (by rfl) (by rfl) rfl (by rfl) (by rfl) (fun _ => by kernel_rfl)) ?_
  refine zp (o_buildg [_, _, _, _] Tryz.underlying89 Tryz.zeroValue89 (by rfl) (by rfl) rfl (by rfl) (by rfl) (fun _ => by kernel_rfl)) ?_
  refine zp (o_buildg [_, _, _, _] Tryz.underlying89 Tryz.zeroValue89 (by rfl) (by rfl) rfl (by rfl) (by rfl) (fun _ => by kernel_rfl)) ?_
  refine zp (o_buildg [_, _, _, _] Tryz.underlying89 Tryz.zeroValue89 (by rfl) (by rfl) rfl (by rfl) (by rfl) (fun _ => by kernel_rfl)) ?_
  refine zp (o_buildga [_, _, _, _, _, _, _, _, _, _, _, _, _, _, _, _, _, _, _, _, _, _, _, _, _, _, _, _] Tryz.underlying122 Tryz.sizeOf89 Tryz.zeroValue122 (by rfl) (by rfl) rfl (by rfl) (by rfl) (fun _ => by kernel_rfl)) ?_
  refine wl_allocg [_, _, _, _, _, _, _, _, _, _, _, _, _, _, _, _, _, _, _, _, _, _, _, _, _, _, _, _] Tryz.zeroValue122 (by rfl) ?_
  rintro g4 w4 f4 b4 i4 i4_1
  have s4 := b4.size
  replace hw := hw.trans (b4.mono hw.size)
  replace f2 := f2.u b4
  refine wl_storega Tryz.sizeOf122 rfl rfl (by rfl) (by decide) f4 (by rfl) ?_
  rintro w_1 f g e
  have s := g.size
  replace hw := hw.trans (below_of_grownBy g.g hw.size (by omega))
  replace f2 := f2.k g.g (ap_some (by omega))
  clear f4
  refine wl_nil (rk_seq (zs (zm rfl ?_)))
  refine zp (o_lt rfl rfl) ?_
  refine zm rfl ?_
  refine wl_know 14 false rfl (decide_eq_false (by omega)) ?_
  refine zm rfl ?_
  refine zp (o_ge rfl rfl) ?_
  refine zp (o_pick_f rfl rfl) ?_
  refine wl_nil ?_
  refine rk_if rfl (fun h17 => ?_) (fun h17 => h17.elim (by omega))
  refine zs ?_
  refine zp (o_buildg [_, _, _, _] Tryz.underlying89 Tryz.zeroValue89 (by rfl) (by rfl) rfl (by rfl) (by rfl) (fun _ => by kernel_rfl)) ?_
  refine wl_storega Tryz.sizeOf89 rfl rfl (by rfl) (by decide) f2 (by rfl) ?_
  rintro w_2 f_1 g_1 e_1
  have s_1 := g_1.size
  replace hw := hw.trans (below_of_grownBy g_1.g hw.size (by omega))
  replace f := f.k g_1.g (ap_some (by omega))
  clear f2
  refine za rfl (wl_nil ?_)
  refine ret_any rfl (.cell rfl Tryz.isAgg89 Tryz.sizeOf89 (by assumption) rfl <| .tmp rfl <| .nil) (by simp) ?_
  exact ⟨rfl, hw⟩
def okOp (k : Int) (n m : Nat) (u : Ky) : Bool := decide (1 ≤ k) && decide (k ≤ 6) && goodS k n m u
theorem sh4_good {k kk : Int} {gf pf rf df : Nat} (h : Sh4 k gf pf rf df) {K V : Option Addr} {n c m d : Nat} {u : Ky} (w : World) (hn : n ≤ 4000000000) (hm : m ≤ 4000000000) :
  CallsR Tryz.prog gf [.agg (opC kk K n c V m d u).toArray] w fun v w' => v = .bool (goodS k n m u) ∧ Below w.heap.size w w' := by
 rcases h with ⟨rfl, rfl, _⟩ | ⟨rfl, rfl, _⟩ | ⟨rfl, rfl, _⟩ | ⟨rfl, rfl, _⟩ | ⟨rfl, rfl, _⟩ | ⟨rfl, rfl, _⟩
 ·exact C_goodPut w hn hm
 ·exact C_goodDelete w hn hm
 ·exact C_goodWho w (by decide) (by decide)
 ·exact C_goodWho w (by decide) (by decide)
 ·exact C_goodWho w (by decide) (by decide)
 ·exact C_goodWho w (by decide) (by decide)
theorem okOp_of {k : Int} {n m : Nat} {u : Ky} (h : okOp k n m u = true) : 1 ≤ k ∧ k ≤ 6 ∧ goodS k n m u = true := by
 simp only [okOp, Bool.and_eq_true, decide_eq_true_eq] at h
 exact ⟨h.1.1, h.1.2, h.2⟩
end Go.Proofs.YtahkeoegbjopfaaGreat
namespace Go.Proofs.YtahkeoegbjopfaaGreat
set_option maxRecDepth 100000
open Go.RowKit
section
variable {P : Program} {fn : Func} {F : Ending → World → Prop} {N : Nat} {ks : List K} {ops : Array Oper} {tg : Tags} {l : List Oper} {fr : Fr} {w : World} {ty t t' : TypeId} {pos : String} {aft : Array Edge} {gd : Option (Nat × Bool)} {d n m g c j lo hi : Nat} {x y : Operand} {A : Option Addr} {b : List UInt8} {ad : Addr}
end
end Go.Proofs.YtahkeoegbjopfaaGreat
namespace Go.Proofs.YtahkeoegbjopfaaGreat
set_option maxRecDepth 100000
open Go.RowKit
def blkB (p : By) : By := enc p.length ++ p
theorem blkB_le {p : By} {n : Nat} (h : p.length ≤ n) (hn : n ≤ 4000000000) : (blkB p).length ≤ n + 9 := by
 have h1 : (enc p.length).length ≤ 9 := by
  rw [enc_length]; unfold room; (repeat' split) <;> omega
 simp only [blkB, List.length_append]; omega
def tailS (k : Int) (p q : By) (u : Ky) : By := if k = 1 then blkB p ++ blkB q else if k = 2 then blkB p else u.1
end Go.Proofs.YtahkeoegbjopfaaGreat
namespace Go.Proofs.YtahkeoegbjopfaaGreat
set_option maxRecDepth 100000
open Go.RowKit
abbrev Opn := Int × By × By × Ky
def gOp : GoT Opn := (gInt .i64).pair (gBytes.pair (gBytes.pair (gArr 32)))
theorem gOp_tys : gOp.tys = [5, 5] := rfl
def RO (w : World) (A : Option Addr) (L : List Opn) : Prop := RSl gOp w A L
def ROT (w : World) (A : Option Addr) (L : List Opn) : Prop := RSlT gOp 54 w A L
def OwnO (w : World) (lo hi : Nat) (A : Option Addr) (c : Nat) (L : List Opn) : Prop := OwnS gOp 54 w lo hi A c L
theorem gOp_R {w : World} {cs : List Value} {o : Opn} (h : gOp.R w cs o) : ∃ K c V d, cs = opC o.1 K o.2.1.length c V o.2.2.1.length d o.2.2.2 ∧ Rd w K o.2.1 ∧ Rd w V o.2.2.1 ∧ o.2.1.length ≤ c ∧ c ≤ maxLen ∧ o.2.2.1.length ≤ d ∧ d ≤ maxLen ∧ (Lit.int .i64 o.1).wf = true := by
 obtain ⟨_, _, rfl, ⟨rfl, hk⟩, _, _, rfl, ⟨K, c, rfl, h1, h2, h3⟩, _, _, rfl, ⟨V, d, rfl, h4, h5, h6⟩, h7⟩ := h
 obtain ⟨rfl⟩ : _ = B8 o.2.2.2.1 := h7
 exact ⟨K, c, V, d, rfl, h1, h4, h2, h3, h5, h6, hk⟩
theorem gOp_mk {w : World} {k : Int} {K V : Option Addr} {p q : By} {c d : Nat} {u : Ky} (hk : (Lit.int .i64 k).wf = true) (h1 : RdT w K p) (h2 : p.length ≤ c) (h3 : c ≤ maxLen) (h4 : RdT w V q) (h5 : q.length ≤ d) (h6 : d ≤ maxLen) : gOp.T w (opC k K p.length c V q.length d u) (k, p, q, u) :=
 ⟨[.int .i64 k], [.slice K p.length c] ++ ([.slice V q.length d] ++ B8 u.1), rfl, ⟨rfl, hk⟩, [.slice K p.length c], [.slice V q.length d] ++ B8 u.1, rfl, ⟨K, c, rfl, h1, h2, h3⟩, [.slice V q.length d], B8 u.1, rfl, ⟨V, d, rfl, h4, h5, h6⟩, rfl⟩
theorem gOp_one (w : World) (cs : List Value) (o : Opn) (h : gOp.T w cs o) : ∀ u ∈ cs, u.oneCell' = true := by
 obtain ⟨K, c, V, d, rfl, _⟩ := gOp_R (gOp.tr h)
 intro v hv
 simp only [opC, List.mem_append, List.mem_cons, List.not_mem_nil, or_false] at hv
 rcases hv with (rfl | rfl | rfl) | hv
 ·rfl
 ·rfl
 ·rfl
 ·exact B8_oneCell _ _ hv
section
variable {w w' : World} {lo hi lo' hi' cp b : Nat} {A : Option Addr} {L : List Opn} {e' : TypeId} {row : Option Nat}
theorem RO.u (h : RO w A L) (hb : Below w.heap.size w w') : RO w' A L := RSl.u h hb
theorem RO.some_ (h : RO w A L) (hl : 0 < L.length) : A = some (A.getD ⟨0, 0, none⟩) := RSl.some_ h (show 0 < 35 by decide) hl
theorem RO.elem (h : RO w A L) {i : Nat} (hi : i < L.length) : ∃ K c V d, CellsAt w A (i * 35) (opC L[i].1 K L[i].2.1.length c V L[i].2.2.1.length d L[i].2.2.2) ∧ Rd w K L[i].2.1 ∧ Rd w V L[i].2.2.1 ∧ L[i].2.1.length ≤ c ∧ c ≤ maxLen ∧ L[i].2.2.1.length ≤ d ∧ d ≤ maxLen ∧ (Lit.int .i64 L[i].1).wf = true := by
 obtain ⟨cs, h1, h2⟩ := RSl.elem h (show 0 < 35 by decide) hi
 obtain ⟨K, c, V, d, rfl, h3⟩ := gOp_R h2
 exact ⟨K, c, V, d, h1, h3⟩
theorem OwnO.u (h : OwnO w lo hi A cp L) (hb : Below w.heap.size w w') : OwnO w' lo hi A cp L := OwnS.u h hb
theorem OwnO.y (h : OwnO w lo hi A cp L) (hg : Grew w w' e' row) (hne : e' ∉ 54 :: gOp.tys) : OwnO w' lo hi A cp L := OwnS.y h hg hne
theorem OwnO.q (h : OwnO w lo hi A cp L) (hg : Grew w w' e' row) (ha : Ap row lo hi) (hne : e' ∉ gOp.tys) : OwnO w' lo hi A cp L := OwnS.q h hg ha hne
theorem OwnO.ap (h : OwnO w lo hi A cp L) (hd : hi ≤ lo' ∨ hi' ≤ lo) : Ap (blk A) lo' hi' := OwnS.ap h hd
theorem OwnO.cap (h : OwnO w lo hi A cp L) : L.length ≤ cp := OwnS.cap h
theorem OwnO.nil_ : OwnO w lo hi none 0 [] := OwnS.nil_
theorem OwnO.base (h : OwnO w lo hi A cp L) (h1 : lo' ≤ lo) (h2 : hi ≤ hi') : OwnO w lo' hi' A cp L := OwnS.base h h1 h2
theorem OwnO.to_ROT (h : OwnO w lo hi A cp L) : ROT w A L := OwnS.to_RSlT h
theorem OwnO.to_RO (h : OwnO w lo hi A cp L) : RO w A L := OwnS.to_RSl h
end
theorem Tryz.rowO : RowT Tryz.prog 35 54 (.agg (opC 0 none 0 0 none 0 0 z32).toArray) 35 88 := ⟨Tryz.underlying35, by kernel_rfl, rfl, by omega⟩
section
variable {fn : Func} {F : Ending → World → Prop} {N : Nat} {ks : List K} {ops : Array Oper} {tg : Tags} {l : List Oper} {fr : Fr} {w w0 : World} {ty t' : TypeId} {pos : String} {aft : Array Edge} {gd : Option (Nat × Bool)} {d0 n j q c lo hi : Nat} {x y : Operand} {A B : Option Addr} {L M : List Opn}
theorem wl_litO1 {ps : Array (Nat × Operand)} {xs : List Operand} {k : Int} {K V : Option Addr} {p r : By} {m1 m2 c1 d1 : Nat} {u : Ky} (hxs : ps.toList.map Prod.snd = xs) (hx : fr.evs xs = some [.agg (opC k K m1 c1 V m2 d1 u).toArray]) (h1 : RdT w K p) (h4 : RdT w V r) (hm1 : m1 = p.length) (hm2 : m2 = r.length) (h2 : p.length ≤ c1) (h3 : c1 ≤ maxLen) (h5 : r.length ≤ d1) (h6 : d1 ≤ maxLen) (hk0 : (Lit.int .i64 k).wf = true) (hps : ps = ((List.range' 0 1).zip xs).toArray)
  (hk : ∀ A w', OwnO w' w.heap.size w'.heap.size A 1 [(k, p, r, u)] → Below w.heap.size w w' → WL Tryz.prog fn F N ks ops tg.tail l ((d0, .slice A 1 1) :: fr) w')
  (ht : tg.loud = true := by rfl) (hg : onG ops fr gd = true := by rfl) (hd : Nat.blt d0 N = true := by rfl) : WL Tryz.prog fn F N ks ops tg (⟨some d0, .buildSlice 35 1 ps, ty, pos, aft, gd⟩ :: l) fr w := by
 subst hm1; subst hm2
 refine wl_litS (X := gOp) (L := [(k, p, r, u)]) Tryz.rowO Tryz.sizeOf54 Tryz.zeroValue54 hxs hps hx rfl rfl (fun i h => ?_) rfl hk ht hg hd
 obtain rfl : i = 0 := by simp at h; omega
 exact ⟨_, rfl, by show (opC k K p.length c1 V r.length d1 u).toArray.size = 35; rw [List.size_toArray, opC_length], gOp_mk hk0 h1 h2 h3 h4 h5 h6⟩
theorem wl_appO (hx : fr.ev x = some (.slice A n c)) (hown : OwnO w lo hi A c L) (hn : n = L.length) (hy : fr.ev y = some (.slice B j q)) (hr : ROT w B M) (hj : j = M.length) (hlen : L.length + M.length ≤ 1000000) (hB : lo ≤ w.heap.size)
  (h : ∀ A' c' w', OwnO w' lo w'.heap.size A' c' (L ++ M) → Grew w w' 54 (blk A) → Below lo w w' → WL Tryz.prog fn F N ks ops tg.tail l ((d0, .slice A' (L ++ M).length c') :: fr) w')
  (ht : tg.loud = true := by rfl) (hg : onG ops fr gd = true := by rfl) (hd : Nat.blt d0 N = true := by rfl) (hq : tg.calm = false ∨ blk A = none ∨ blk A = tg.row := by exact .inl rfl) :
  WL Tryz.prog fn F N ks ops tg (⟨some d0, .call { callee := .builtin .append, args := #[x, y], argTypes := #[35, 35] }, ty, pos, aft, gd⟩ :: l) fr w :=
 wl_appS (X := gOp) Tryz.rowO hx hown hn hy hr hj (by simp [gOp_tys]) gOp_one (by have := Nat.mul_le_mul_right 88 hlen; omega) (by omega) hB (fun A' c' w' h1 h2 h3 _ => h A' c' w' h1 h2 h3) ht hg hd hq
end
theorem opC_one (k : Int) (K : Option Addr) (n c : Nat) (V : Option Addr) (m d : Nat) (u : Ky) : ∀ v ∈ opC k K n c V m d u, v.oneCell' = true := by
 intro v hv
 simp only [opC, List.mem_append, List.mem_cons, List.not_mem_nil, or_false] at hv
 rcases hv with (rfl | rfl | rfl) | hv
 ·rfl
 ·rfl
 ·rfl
 ·exact B8_oneCell _ _ hv
section
variable {fn : Func} {F : Ending → World → Prop} {N : Nat} {ks : List K} {ops : Array Oper} {tg : Tags} {l : List Oper} {fr : Fr} {w : World} {ty t' : TypeId} {pos : String} {aft : Array Edge} {gd : Option (Nat × Bool)} {d0 g : Nat} {x y : Operand} {k k' : Int} {K V K' V' : Option Addr} {n c m d n' c' m' d' : Nat} {u u' : Ky}
theorem wl_allocOp (hk : ∀ g w', Blk w' g 54 (opC 0 none 0 0 none 0 0 z32) → Below w.heap.size w w' → w.heap.size ≤ g → g < w'.heap.size → WL Tryz.prog fn F N ks ops tg.tail l ((d0, .pointer (some ⟨g, 0, none⟩)) :: fr) w')
  (ht : tg.loud = true := by rfl) (hg : onG ops fr gd = true := by rfl) (hd : Nat.blt d0 N = true := by rfl) : WL Tryz.prog fn F N ks ops tg (⟨some d0, .alloc 54, ty, pos, aft, gd⟩ :: l) fr w :=
 wl_allocg _ Tryz.zeroValue54 rfl hk ht hg hd
theorem wl_stOpB (hx : fr.ev x = some (.pointer (some ⟨g, 0, none⟩))) (hB : Blk w g t' (opC k' K' n' c' V' m' d' u')) (hy : fr.ev y = some (.agg (opC k K n c V m d u).toArray))
  (hk : ∀ w', Blk w' g t' (opC k K n c V m d u) → Grew w w' t' (some g) → w'.heap.size = w.heap.size → WL Tryz.prog fn F N ks ops tg.tail l fr w') (ht : tg.loud = true := by rfl) (hg : onG ops fr gd = true := by rfl) (hq : tg.calm = false ∨ tg.rw.may (some g) := by exact .inl rfl) :
  WL Tryz.prog fn F N ks ops tg (⟨none, .store 54 x y, ty, pos, aft, gd⟩ :: l) fr w :=
 wl_storega Tryz.sizeOf54 hx hy (opC_length ..) (opC_one k K n c V m d u) hB (opC_length ..) hk ht hg hq
end
def okO (o : Opn) : Bool := okOp o.1 o.2.1.length o.2.2.1.length o.2.2.2
def opB (o : Opn) : By := UInt8.ofNat o.1.toNat :: tailS o.1 o.2.1 o.2.2.1 o.2.2.2
def bytesO (L : List Opn) : By × Nat := if 8 < L.length then ([], 2) else if L.all okO = true then (UInt8.ofNat L.length :: L.flatMap opB, 0) else ([], 2)
theorem goodS_le {k : Int} {n m : Nat} {u : Ky} (h : goodS k n m u = true) : n ≤ 16 ∧ m ≤ 32 := by
 unfold goodS at h
 repeat' split at h
 all_goals simp only [Bool.and_eq_true, decide_eq_true_eq] at h; omega
end Go.Proofs.YtahkeoegbjopfaaGreat
namespace Go.Proofs.YtahkeoegbjopfaaGreat
set_option maxRecDepth 100000
open Go.RowKit
theorem ky_cases (u : Ky) (p : Ky → Prop) (h : ∀ b0 b1 b2 b3 b4 b5 b6 b7 b8 b9 b10 b11 b12 b13 b14 b15 b16 b17 b18 b19 b20 b21 b22 b23 b24 b25 b26 b27 b28 b29 b30 b31 : UInt8, p ⟨[b0, b1, b2, b3, b4, b5, b6, b7, b8, b9, b10, b11, b12, b13, b14, b15, b16, b17, b18, b19, b20, b21, b22, b23, b24, b25, b26, b27, b28, b29, b30, b31], rfl⟩) : p u := by
 obtain ⟨l, hl⟩ := u
 match l, hl with
 | [b0, b1, b2, b3, b4, b5, b6, b7, b8, b9, b10, b11, b12, b13, b14, b15, b16, b17, b18, b19, b20, b21, b22, b23, b24, b25, b26, b27, b28, b29, b30, b31], _ => exact h ..
section
variable {N : Nat} {fr : Fr} {w : World} {ty : TypeId} {x y z : Operand} {k : Int} {K V : Option Addr} {n c m d : Nat} {u : Ky}
theorem o_bldOp1 (hx : fr.ev x = some (.slice K n c)) : OpV Tryz.prog N fr w (.build 54 #[(1, x)]) ty (.agg (opC 0 K n c none 0 0 z32).toArray) w :=
 o_build (is := [1]) (xs := [x]) (vs := [.slice K n c]) (by simp [Fr.evs, hx]) (fun _ => by kernel_rfl)
theorem o_bldOp12 (hx : fr.ev x = some (.slice K n c)) (hy : fr.ev y = some (.slice V m d)) : OpV Tryz.prog N fr w (.build 54 #[(1, x), (2, y)]) ty (.agg (opC 0 K n c V m d z32).toArray) w :=
 o_build (is := [1, 2]) (xs := [x, y]) (vs := [.slice K n c, .slice V m d]) (by simp [Fr.evs, hx, hy]) (fun _ => by kernel_rfl)
theorem o_bldOp012 (hx : fr.ev x = some (.int .i64 k)) (hy : fr.ev y = some (.slice K n c)) (hz : fr.ev z = some (.slice V m d)) : OpV Tryz.prog N fr w (.build 54 #[(0, x), (1, y), (2, z)]) ty (.agg (opC k K n c V m d z32).toArray) w :=
 o_build (is := [0, 1, 2]) (xs := [x, y, z]) (vs := [.int .i64 k, .slice K n c, .slice V m d]) (by simp [Fr.evs, hx, hy, hz]) (fun _ => by kernel_rfl)
theorem o_bldOp3 (hx : fr.ev x = some (.agg (B8 u.1).toArray)) : OpV Tryz.prog N fr w (.build 54 #[(3, x)]) ty (.agg (opC 0 none 0 0 none 0 0 u).toArray) w :=
 o_build (is := [3]) (xs := [x]) (vs := [.agg (B8 u.1).toArray]) (by simp [Fr.evs, hx]) (fun w => ky_cases u (fun u => (Instr.build 54 ([3].zip [.agg (B8 u.1).toArray]).toArray).run Tryz.prog w = .ok (.agg (opC 0 none 0 0 none 0 0 u).toArray) w) (by intros; kernel_rfl))
theorem o_bldOp03 (hx : fr.ev x = some (.int .i64 k)) (hy : fr.ev y = some (.agg (B8 u.1).toArray)) : OpV Tryz.prog N fr w (.build 54 #[(0, x), (3, y)]) ty (.agg (opC k none 0 0 none 0 0 u).toArray) w :=
 o_build (is := [0, 3]) (xs := [x, y]) (vs := [.int .i64 k, .agg (B8 u.1).toArray]) (by simp [Fr.evs, hx, hy]) (fun w => ky_cases u (fun u => (Instr.build 54 ([0, 3].zip [.int .i64 k, .agg (B8 u.1).toArray]).toArray).run Tryz.prog w = .ok (.agg (opC k none 0 0 none 0 0 u).toArray) w) (by intros; kernel_rfl))
end
end Go.Proofs.YtahkeoegbjopfaaGreat
namespace Go.Proofs.YtahkeoegbjopfaaGreat
set_option maxRecDepth 100000
open Go.RowKit

def Rdr (w : World) (g : Nat) (s : RS) : Prop := ∃ l p, RdrI w g l p s.2 ∧ s.1 = l.drop p
section
variable {w w' : World} {g p : Nat} {l : List UInt8} {s : RS}
theorem RdrI.rdr (h : RdrI w g l p s.2) (hs : s.1 = l.drop p) : Rdr w g s := ⟨l, p, h, hs⟩
theorem Rdr.u (h : Rdr w g s) (hb : Below w.heap.size w w') : Rdr w' g s := by
 obtain ⟨l, p, h, hs⟩ := h
 exact ⟨l, p, h.below hb, hs⟩
theorem Rdr.at_ (h : Rdr w g s) : TyAt w g 119 := by
 obtain ⟨l, p, h, hs⟩ := h
 obtain ⟨A, c, hB, -⟩ := h.blk'
 exact hB.at_
theorem Rdr.lt (h : Rdr w g s) : g < w.heap.size := h.at_.lt
theorem Rdr.y {e' : TypeId} {row : Option Nat} (h : Rdr w g s) (hg : Grew w w' e' row) (hne : e' ∉ [119, 5]) : Rdr w' g s := by
 simp only [List.mem_cons, List.not_mem_nil, or_false, not_or] at hne
 obtain ⟨l, p, ⟨A, c, hB, ho, h⟩, hs⟩ := h
 exact ⟨l, p, ⟨A, c, hB.y hg hne.1, (OwnH.y ho.h_ hg hne.2).o, h⟩, hs⟩
end
theorem grew_rdr {w w' : World} {g : Nat} {s : RS} (h : Rdr w g s) (hg : w.grownBy w' (some g)) : Grew w w' 119 (some g) := ⟨hg, fun k hk => by injection hk with hk; subst hk; exact h.at_⟩

structure WordR (size : Int) (l : List UInt8) (e v : Nat) (l' : List UInt8) (e' : Nat) : Prop where
 h : rWord size (l, e) = (v, (l', e'))
structure BlockR (l : List UInt8) (e : Nat) (p l' : List UInt8) (e' : Nat) : Prop where
 h : rBlock (l, e) = (p, (l', e'))
theorem C_rRead {A : Option Addr} {l : List UInt8} {k c : Nat} (w : World) (hr : Rd w A l) (hk : k = l.length) (hl : l.length ≤ 4000000000) :
  CallsR Tryz.prog 38 [.slice A k c] w fun v w' => ∃ g, v = .pointer (some ⟨g, 0, none⟩) ∧ w.heap.size ≤ g ∧ g < w'.heap.size ∧ Rdr w' g (l, 0) ∧ Below w.heap.size w w' :=
 (C_Read c hk w hr (by omega)).mono fun _ _ ⟨g, hv, hg, hlt, hR, hb⟩ => ⟨g, hv, hg, hlt, hR.rdr (s := (l, 0)) rfl, hb⟩
theorem C_rBlock {g e e' : Nat} {l l' p : List UInt8} (w : World) (hR : Rdr w g (l, e)) (hr : BlockR l e p l' e') :
  CallsR Tryz.prog 120 [.pointer (some ⟨g, 0, none⟩)] w fun v w' => ∃ A' c', v = .slice A' p.length c' ∧ OwnH w' w.heap.size w'.heap.size A' c' p ∧ Rdr w' g (l', e') ∧ Grew w w' 119 (some g) ∧ Chg g (g + 1) w w' := by
 have hR0 := hR
 obtain ⟨m, q, h, hs⟩ := hR
 obtain rfl : l = m.drop q := hs
 refine (C_RBlock w h).mono ?_
 rintro v w' ⟨hg, ⟨A', c', rfl, ho⟩, p', hR, hs⟩
 dsimp only at ho hR hs ⊢
 rw [hr.h] at ho hR hs ⊢
 exact ⟨A', c', rfl, ho.h_, hR.rdr (s := (l', e')) hs, grew_rdr hR0 hg, Chg.of_g1 hg (Nat.le_refl _) (by omega)⟩
theorem C_rWord {g e e' v : Nat} {l l' : List UInt8} {size : Int} (w : World) (hR : Rdr w g (l, e)) (hr : WordR size l e v l' e') :
  CallsR Tryz.prog 39 [.pointer (some ⟨g, 0, none⟩), .int .i64 size] w fun x w' => x = .int .u64 (v : Int) ∧ Rdr w' g (l', e') ∧ Grew w w' 119 (some g) ∧ Chg g (g + 1) w w' := by
 have hR0 := hR
 obtain ⟨m, q, h, hs⟩ := hR
 obtain rfl : l = m.drop q := hs
 refine (C_RWord size w h).mono ?_
 rintro v w' ⟨rfl, hg, p', hR, hs⟩
 dsimp only at hR hs ⊢
 rw [hr.h] at hR hs ⊢
 exact ⟨rfl, hR.rdr (s := (l', e')) hs, grew_rdr hR0 hg, Chg.of_g1 hg (Nat.le_refl _) (by omega)⟩
theorem C_rErr {g e : Nat} {l : List UInt8} (w : World) (hR : Rdr w g (l, e)) :
  CallsR Tryz.prog 41 [.pointer (some ⟨g, 0, none⟩)] w fun v w' => v = .int .i64 (e : Int) ∧ w' = w := by
 obtain ⟨m, q, h, hs⟩ := hR
 exact (C_RErr w h).mono fun _ _ ⟨hv, hw⟩ => ⟨hv, hw.symm⟩
end Go.Proofs.YtahkeoegbjopfaaGreat
namespace Go.Proofs.YtahkeoegbjopfaaGreat
set_option maxRecDepth 100000
open Go.RowKit

theorem Tryz.build_Digest0 (w : World) : (Instr.build 44 (([] : List Nat).zip ([] : List Value)).toArray).run Tryz.prog w = .ok (.agg (B8 (nulls 32)).toArray) w := by kernel_rfl

theorem C_RDigest {g : Nat} {l : List UInt8} {p e : Nat} (w : World) (hR : RdrI w g l p e) :
  CallsR Tryz.prog 123 [.pointer (some ⟨g, 0, none⟩)] w fun v w' => v = .agg (B8 (rDigest (l.drop p, e)).1).toArray ∧ w.grownBy w' (some g) ∧
   ∃ p', RdrI w' g l p' (rDigest (l.drop p, e)).2.2 ∧ (rDigest (l.drop p, e)).2.1 = l.drop p' := by
 refine callsR Tryz.func123 rfl rfl (by kernel_rfl) rfl ?_
 refine zs ?_
 refine wl_alloc (B8 (nulls 32)) Tryz.zeroValue44 rfl ?_
 intro w1 hB1 hb1 hz1
 refine wl_nil (zs (zm rfl ?_))
 refine wl_call rfl (C_take 32 rfl w1 (hR.below hb1)) ?_
 rintro _ w3 ⟨hg3, hz3, h⟩
 obtain ⟨_, _, hBR, -⟩ := hR.blk'
 have hgl := hBR.lt
 have hB3 := hB1.grown hg3 (by intro e; injection e with e; omega)
 have hg13 := grownBy_trans (grownBy_of_below hb1 (some g)) hg3
 rcases h with h | h
 ·obtain ⟨rfl, h3, hR3, A3, c3, rfl, hc3, hr3, hA3⟩ := h
  have hb1 : rDigest (l.drop p, 0) = ((l.drop p).take 32, ((l.drop p).drop 32, 0)) := by
   unfold rDigest rTake
   rw [if_neg (show ¬ (l.drop p, 0).2 ≠ 0 by simp), if_neg (show ¬ (l.drop p).length < 32 by simp; omega)]; rfl
  rw [hb1]
  have hlen : ((l.drop p).take 32).length = 32 := by simp; omega
  obtain ⟨b, o, rfl, hbl, hcell⟩ := hr3.at_ (by intro e; rw [e] at hlen; simp at hlen)
  refine zm rfl ?_
  refine zp (o_ext20 rfl) ?_
  refine zp (o_ext21 rfl) ?_
  refine za rfl (za rfl (wl_nil (rk_seq (zs (zm rfl ?_)))))
  refine zp (o_not rfl) ?_
  refine wl_nil ?_
  refine rk_false rfl ?_
  refine rk_skip (zs (zm rfl ?_))
  refine zp (o_arrptr Tryz.underlying44 rfl (by omega)) ?_
  refine wl_r (o_loadn (cs := B8 ((l.drop p).take 32)) Tryz.isAgg44 (by rw [B8_length, hlen]; exact Tryz.sizeOf44) rfl ?_) ?_
  ·intro j u hu
   have hj : j < ((l.drop p).take 32).length := by
    rcases Nat.lt_or_ge j ((l.drop p).take 32).length with h | h
    ·exact h
    ·rw [List.getElem?_eq_none (by rw [B8_length]; exact h)] at hu; cases hu
   rw [B8_get _ _ hj] at hu
   rw [add_plain, hcell j hj, hu]
  refine wl_store_all Tryz.sizeOf44 rfl rfl (by rw [B8_length, hlen]) (B8_oneCell' _) hB3 (by simp [B8, nulls]) ?_
  intro w4 hB4 hg4 hz4
  refine wl_nil ?_
  refine ret_cell rfl rfl Tryz.isAgg44 Tryz.sizeOf44 hB4 (by rw [B8_length, hlen]) ?_
  exact ⟨rfl, grownBy_new hg13 hg4 (Nat.le_refl _), p + 32, hR3.grown hg4 hB3 (by decide) (by omega), by rw [List.drop_drop]⟩
 ·obtain ⟨rfl, h3, hR3⟩ := h
  have hb1 : rDigest (l.drop p, e) = (nulls 32, (l.drop p, if e = 0 then 5 else e)) := by
   unfold rDigest rTake
   by_cases he : e = 0
   ·rw [if_neg (show ¬ (l.drop p, e).2 ≠ 0 by simp [he]), if_pos (show (l.drop p).length < 32 by rw [List.length_drop]; exact h3 he), if_pos he]; rfl
   ·rw [if_pos (show (l.drop p, e).2 ≠ 0 from he), if_neg he, if_pos he]
  rw [hb1]
  refine zm rfl ?_
  refine zp (o_ext20 rfl) ?_
  refine zp (o_ext21 rfl) ?_
  refine za rfl (za rfl (wl_nil (rk_seq (zs (zm rfl ?_)))))
  refine zp (o_not rfl) ?_
  refine wl_nil ?_
  refine rk_true rfl ?_
  refine zs ?_
  refine zp (o_build (is := []) (xs := []) (vs := []) rfl (fun w => Tryz.build_Digest0 w)) ?_
  refine wl_store_all Tryz.sizeOf44 rfl rfl (by simp [B8, nulls]) (B8_oneCell' _) hB3 (by simp [B8, nulls]) ?_
  intro w4 hB4 hg4 hz4
  refine wl_nil ?_
  refine ret_cell rfl rfl Tryz.isAgg44 Tryz.sizeOf44 hB4 (by simp [B8, nulls]) ?_
  exact ⟨rfl, grownBy_new hg13 hg4 (Nat.le_refl _), p, hR3.grown hg4 hB3 (by decide) (by omega), rfl⟩

end Go.Proofs.YtahkeoegbjopfaaGreat
namespace Go.Proofs.YtahkeoegbjopfaaGreat
set_option maxRecDepth 100000
open Go.RowKit
structure DigR (l : List UInt8) (e : Nat) (p l' : List UInt8) (e' : Nat) : Prop where
 h : rDigest (l, e) = (p, (l', e'))
theorem rDigest_len (s : RS) : (rDigest s).1.length = 32 := by
 unfold rDigest rTake nulls
 by_cases h : s.2 ≠ 0
 ·simp [h]
 ·by_cases h2 : s.1.length < 32
  ·simp [h, h2]
  ·simp [h, h2]; omega
theorem C_rDigest {g e e' : Nat} {l l' p : List UInt8} (w : World) (hR : Rdr w g (l, e)) (hr : DigR l e p l' e') :
  CallsR Tryz.prog 123 [.pointer (some ⟨g, 0, none⟩)] w fun v w' => v = .agg (B8 p).toArray ∧ Rdr w' g (l', e') ∧ Grew w w' 119 (some g) ∧ Chg g (g + 1) w w' := by
 have hR0 := hR
 obtain ⟨m, q, h, hs⟩ := hR
 obtain rfl : l = m.drop q := hs
 refine (C_RDigest w h).mono ?_
 rintro v w' ⟨rfl, hg, p', hR, hs⟩
 dsimp only at hR hs ⊢
 rw [hr.h] at hR hs ⊢
 exact ⟨rfl, hR.rdr (s := (l', e')) hs, grew_rdr hR0 hg, Chg.of_g1 hg (Nat.le_refl _) (by omega)⟩
theorem C_rEnd {g e : Nat} {l : List UInt8} (w : World) (hR : Rdr w g (l, e)) :
  CallsR Tryz.prog 42 [.pointer (some ⟨g, 0, none⟩)] w fun v w' => v = .int .i64 ((rEnd (l, e) : Nat) : Int) ∧ Below w.heap.size w w' := by
 obtain ⟨m, q, h, hs⟩ := hR
 obtain rfl : l = m.drop q := hs
 exact (C_REnd w h).mono fun _ _ ⟨hv, hb, _⟩ => ⟨hv, hb⟩
theorem Grew.of_chg1 {w w' : World} {g : Nat} {t : TypeId} (h : Chg g (g + 1) w w') (ht : TyAt w g t) : Grew w w' t (some g) :=
 ⟨⟨h.os, h.tape, h.output, h.size, fun k hk he => h.block k hk (by
  have : k ≠ g := fun e => he (by rw [e])
  omega)⟩, fun k hk => by injection hk with hk; subst hk; exact ht⟩
end Go.Proofs.YtahkeoegbjopfaaGreat
namespace Go.Proofs.YtahkeoegbjopfaaGreat
set_option maxRecDepth 100000
open Go.RowKit
def digK (s : RS) : Ky := ⟨(rDigest s).1, rDigest_len s⟩
def readS (k : Int) (s : RS) : By × By × Ky × RS :=
 if k = 1 then ((rBlock s).1, (rBlock (rBlock s).2).1, z32, (rBlock (rBlock s).2).2)
 else if k = 2 then ((rBlock s).1, [], z32, (rBlock s).2)
 else ([], [], digK s, (rDigest s).2)
theorem C_readDelete {g e e1 : Nat} {l l1 p : By} (w : World) (hR : Rdr w g (l, e)) (h1 : BlockR l e p l1 e1) :
  CallsR Tryz.prog 75 [.pointer (some ⟨g, 0, none⟩)] w fun v w' => ∃ K c, v = .agg (opC 0 K p.length c none 0 0 z32).toArray ∧ RdT w' K p ∧ p.length ≤ c ∧ c ≤ maxLen ∧ Rdr w' g (l1, e1) ∧ Chg g (g + 1) w w' := by
 have hgl := hR.lt
 refine callsR Tryz.func75 rfl rfl (by kernel_rfl) rfl ?_
 have hcg : Chg g (g + 1) w w := Chg.refl
 refine zs ?_
 refine wl_allocOp ?_
 rintro g2 w2 f2 b2 i2 i2_1
 have s2 := b2.size
 replace hcg := hcg.thenB b2
 replace hR := hR.u b2
 refine wl_nil (zs (zm rfl ?_))
 refine wl_call rfl (C_rBlock _ hR h1) ?_
 rintro v4 w4 ⟨A4, ⟨c4, ⟨rfl, ⟨f4, ⟨f4_1, ⟨g4, g4_1⟩⟩⟩⟩⟩⟩
 have qf4 := f4.cap
 have s4 := g4.size
 replace hcg := hcg.trans (Chg.of_g1 g4.g (by omega) (by omega))
 replace f2 := f2.k g4.g (ap_some (by omega))
 clear hR
 refine zp (o_bldOp1 rfl) ?_
 refine wl_stOpB rfl f2 rfl ?_
 rintro w_1 f g_1 e_1
 have s := g_1.size
 replace hcg := hcg.andNew g_1.g (fun _ e => by injection e with e; have := hcg.size; omega)
 replace f4_1 := f4_1.y g_1 (by decide)
 replace f4 := f4.k g_1.g (ap_some (by omega))
 clear f2
 refine wl_nil ?_
 refine ret_cell rfl rfl Tryz.isAgg54 Tryz.sizeOf54 (by assumption) rfl ?_
 exact ⟨A4, c4, rfl, f4.to_RdT, f4.cap, own_max f4, f4_1, hcg⟩
theorem C_readPut {g e e1 e2 : Nat} {l l1 l2 p q : By} (w : World) (hR : Rdr w g (l, e)) (h1 : BlockR l e p l1 e1) (h2 : BlockR l1 e1 q l2 e2) :
  CallsR Tryz.prog 71 [.pointer (some ⟨g, 0, none⟩)] w fun v w' => ∃ K c V d, v = .agg (opC 0 K p.length c V q.length d z32).toArray ∧ RdT w' K p ∧ p.length ≤ c ∧ c ≤ maxLen ∧ RdT w' V q ∧ q.length ≤ d ∧ d ≤ maxLen ∧ Rdr w' g (l2, e2) ∧ Chg g (g + 1) w w' := by
 have hgl := hR.lt
 refine callsR Tryz.func71 rfl rfl (by kernel_rfl) rfl ?_
 have hcg : Chg g (g + 1) w w := Chg.refl
 refine zs ?_
 refine wl_allocOp ?_
 rintro g2 w2 f2 b2 i2 i2_1
 have s2 := b2.size
 replace hcg := hcg.thenB b2
 replace hR := hR.u b2
 refine wl_nil (zs (zm rfl ?_))
 refine wl_call rfl (C_rBlock _ hR h1) ?_
 rintro v5 w5 ⟨A5, ⟨c5, ⟨rfl, ⟨f5, ⟨f5_1, ⟨g5, g5_1⟩⟩⟩⟩⟩⟩
 have qf5 := f5.cap
 have s5 := g5.size
 replace hcg := hcg.trans (Chg.of_g1 g5.g (by omega) (by omega))
 replace f2 := f2.k g5.g (ap_some (by omega))
 clear hR
 refine za rfl (wl_nil (zs (zm rfl (zm rfl ?_))))
 refine wl_call rfl (C_rBlock _ f5_1 h2) ?_
 rintro v8 w8 ⟨A8, ⟨c8, ⟨rfl, ⟨f8, ⟨f8_1, ⟨g8, g8_1⟩⟩⟩⟩⟩⟩
 have qf8 := f8.cap
 have s8 := g8.size
 replace hcg := hcg.trans (Chg.of_g1 g8.g (by omega) (by omega))
 replace f2 := f2.k g8.g (ap_some (by omega))
 replace f5 := f5.k g8.g (ap_some (by omega))
 clear f5_1
 refine zp (o_bldOp12 rfl rfl) ?_
 refine wl_stOpB rfl f2 rfl ?_
 rintro w_1 f g_1 e_1
 have s := g_1.size
 replace hcg := hcg.andNew g_1.g (fun _ e => by injection e with e; have := hcg.size; omega)
 replace f5 := f5.k g_1.g (ap_some (by omega))
 replace f8_1 := f8_1.y g_1 (by decide)
 replace f8 := f8.k g_1.g (ap_some (by omega))
 clear f2
 refine wl_nil ?_
 refine ret_cell rfl rfl Tryz.isAgg54 Tryz.sizeOf54 (by assumption) rfl ?_
 exact ⟨A5, c5, A8, c8, rfl, f5.to_RdT, f5.cap, own_max f5, f8.to_RdT, f8.cap, own_max f8, f8_1, hcg⟩
theorem C_readWho {g e e1 : Nat} {l l1 : By} {u : Ky} (w : World) (hR : Rdr w g (l, e)) (h1 : DigR l e u.1 l1 e1) :
  CallsR Tryz.prog 79 [.pointer (some ⟨g, 0, none⟩)] w fun v w' => v = .agg (opC 0 none 0 0 none 0 0 u).toArray ∧ Rdr w' g (l1, e1) ∧ Chg g (g + 1) w w' := by
 have hgl := hR.lt
 refine callsR Tryz.func79 rfl rfl (by kernel_rfl) rfl ?_
 have hcg : Chg g (g + 1) w w := Chg.refl
 refine zs ?_
 refine wl_allocOp ?_
 rintro g2 w2 f2 b2 i2 i2_1
 have s2 := b2.size
 replace hcg := hcg.thenB b2
 replace hR := hR.u b2
 refine wl_nil (zs (zm rfl ?_))
 refine wl_call rfl (C_rDigest _ hR h1) ?_
 rintro v4 w4 ⟨rfl, ⟨f4, ⟨g4, g4_1⟩⟩⟩
 have s4 := g4.size
 replace hcg := hcg.trans (Chg.of_g1 g4.g (by omega) (by omega))
 replace f2 := f2.k g4.g (ap_some (by omega))
 clear hR
 refine zp (o_bldOp3 rfl) ?_
 refine wl_stOpB rfl f2 rfl ?_
 rintro w_1 f g_1 e_1
 have s := g_1.size
 replace hcg := hcg.andNew g_1.g (fun _ e => by injection e with e; have := hcg.size; omega)
 replace f4 := f4.y g_1 (by decide)
 clear f2
 refine wl_nil ?_
 refine ret_cell rfl rfl Tryz.isAgg54 Tryz.sizeOf54 f (opC_length ..) ?_
 exact ⟨rfl, f4, hcg⟩
theorem sh4_read {k : Int} {gf pf rf df : Nat} (h : Sh4 k gf pf rf df) {g : Nat} {s : RS} {r : By × By × Ky × RS} (w : World) (hR : Rdr w g s) (hr : readS k s = r) :
  CallsR Tryz.prog rf [.pointer (some ⟨g, 0, none⟩)] w fun v w' => ∃ K c V d, v = .agg (opC 0 K r.1.length c V r.2.1.length d r.2.2.1).toArray ∧ RdT w' K r.1 ∧ r.1.length ≤ c ∧ c ≤ maxLen ∧ RdT w' V r.2.1 ∧ r.2.1.length ≤ d ∧ d ≤ maxLen ∧ Rdr w' g r.2.2.2 ∧ Grew w w' 119 (some g) := by
 subst hr
 obtain ⟨l, e⟩ := s
 have hat := hR.at_
 have who : ∀ k' : Int, k' ≠ 1 → k' ≠ 2 → readS k' (l, e) = ([], [], digK (l, e), (rDigest (l, e)).2) := fun k' h1 h2 => by simp [readS, h1, h2]
 rcases h with ⟨rfl, _, _, rfl, _⟩ | ⟨rfl, _, _, rfl, _⟩ | ⟨rfl, _, _, rfl, _⟩ | ⟨rfl, _, _, rfl, _⟩ | ⟨rfl, _, _, rfl, _⟩ | ⟨rfl, _, _, rfl, _⟩
 ·refine (C_readPut w hR (p := (rBlock (l, e)).1) (l1 := (rBlock (l, e)).2.1) (e1 := (rBlock (l, e)).2.2) (q := (rBlock (rBlock (l, e)).2).1) (l2 := (rBlock (rBlock (l, e)).2).2.1) (e2 := (rBlock (rBlock (l, e)).2).2.2) ⟨rfl⟩ ⟨rfl⟩).mono ?_
  rintro v w' ⟨K, c, V, d, rfl, h1, h2, h3, h4, h5, h6, h7, h8⟩
  rw [show readS 1 (l, e) = ((rBlock (l, e)).1, (rBlock (rBlock (l, e)).2).1, z32, (rBlock (rBlock (l, e)).2).2) from by simp [readS]]
  exact ⟨K, c, V, d, rfl, h1, h2, h3, h4, h5, h6, h7, Grew.of_chg1 h8 hat⟩
 ·refine (C_readDelete w hR (p := (rBlock (l, e)).1) (l1 := (rBlock (l, e)).2.1) (e1 := (rBlock (l, e)).2.2) ⟨rfl⟩).mono ?_
  rintro v w' ⟨K, c, rfl, h1, h2, h3, h7, h8⟩
  rw [show readS 2 (l, e) = ((rBlock (l, e)).1, [], z32, (rBlock (l, e)).2) from by simp [readS]]
  exact ⟨K, c, none, 0, rfl, h1, h2, h3, RdT.nil_, Nat.le_refl _, Nat.zero_le _, h7, Grew.of_chg1 h8 hat⟩
 all_goals
  refine (C_readWho w hR (u := digK (l, e)) (l1 := (rDigest (l, e)).2.1) (e1 := (rDigest (l, e)).2.2) ⟨rfl⟩).mono ?_
  rintro v w' ⟨rfl, h7, h8⟩
  rw [who _ (by decide) (by decide)]
  exact ⟨none, 0, none, 0, rfl, RdT.nil_, Nat.le_refl _, Nat.zero_le _, RdT.nil_, Nat.le_refl _, Nat.zero_le _, h7, Grew.of_chg1 h8 hat⟩
end Go.Proofs.YtahkeoegbjopfaaGreat
namespace Go.Proofs.YtahkeoegbjopfaaGreat
set_option maxRecDepth 100000
open Go.RowKit
def readL : Nat → RS → Option (List Opn × RS)
 | 0, s => some ([], s)
 | n + 1, s =>
  if 1 ≤ (rWord 1 s).1 ∧ (rWord 1 s).1 ≤ 6 then
   match readS ((rWord 1 s).1 : Nat) (rWord 1 s).2 with
   | (p, q, u, s') =>
    if s'.2 = 0 ∧ goodS ((rWord 1 s).1 : Nat) p.length q.length u = true then (readL n s').map fun r => (((((rWord 1 s).1 : Nat) : Int), p, q, u) :: r.1, r.2) else none
  else none
def readO (b : By) : List Opn × Nat :=
 if 8 < (rWord 1 (b, 0)).1 then ([], 4)
 else match readL (rWord 1 (b, 0)).1 (rWord 1 (b, 0)).2 with
  | none => ([], 4)
  | some (L, s) => if rEnd s = 0 then (L, 0) else ([], 4)
theorem rWord_255 (s : RS) : (rWord 1 s).1 ≤ 255 := by
 have h1 := leVal_lt (rTake (clampN 1) s).1
 have h2 : (rTake (clampN 1) s).1.length ≤ 1 := by
  unfold rTake; (repeat' split) <;> simp [clampN, List.length_take] <;> omega
 have h3 := Nat.pow_le_pow_right (show 0 < 256 by omega) h2
 show leVal _ ≤ 255
 omega
theorem rTake_le (n : Nat) (s : RS) : (rTake n s).1.length ≤ s.1.length ∧ (rTake n s).2.1.length ≤ s.1.length := by
 unfold rTake
 (repeat' split) <;> simp [List.length_take, List.length_drop] <;> omega
theorem rNumber_rest (s : RS) : (rNumber s).2.1.length ≤ s.1.length := by
 obtain ⟨l, e⟩ := s
 by_cases he : e = 0
 ·subst he
  rcases l with _ | ⟨c, t⟩
  ·rw [rNumber_nil]; exact Nat.le_refl _
  ·by_cases h1 : t.length + 1 < lead c
   ·rw [rNumber_more h1]; exact Nat.le_refl _
   ·by_cases h2 : room (beVal (c.toNat % 2 ^ (8 - lead c)) (t.take (lead c - 1))) = lead c
    ·rw [rNumber_ok h1 h2]
     simp only [List.length_drop, List.length_cons]
     omega
    ·rw [rNumber_bad h1 h2]; exact Nat.le_refl _
 ·rw [rNumber_err he]; exact Nat.le_refl _
theorem rBlock_le (s : RS) : (rBlock s).1.length ≤ s.1.length ∧ (rBlock s).2.1.length ≤ s.1.length := by
 have h := rNumber_rest s
 unfold rBlock
 (repeat' split) <;> simp [List.length_take, List.length_drop] <;> omega
theorem rWord_rest (z : Int) (s : RS) : (rWord z s).2.1.length ≤ s.1.length := (rTake_le _ s).2
theorem readS_le (k : Int) (s : RS) : (readS k s).1.length ≤ s.1.length ∧ (readS k s).2.1.length ≤ s.1.length ∧ (readS k s).2.2.2.1.length ≤ s.1.length := by
 have h1 := rBlock_le s
 have h2 := rBlock_le (rBlock s).2
 have h3 := rTake_le 32 s
 unfold readS
 (repeat' split)
 ·exact ⟨h1.1, by dsimp only; omega, by dsimp only; omega⟩
 ·exact ⟨h1.1, by simp, h1.2⟩
 ·exact ⟨by simp, by simp, h3.2⟩
section
variable {fn : Func} {F : Ending → World → Prop} {N : Nat} {ks : List K} {ops : Array Oper} {tg : Tags} {l : List Oper} {fr : Fr} {w : World} {ty t' : TypeId} {pos : String} {aft : Array Edge} {gd : Option (Nat × Bool)} {d0 g : Nat} {x y : Operand} {k k' : Int} {K V : Option Addr} {n c m d : Nat} {u : Ky}
theorem wl_mkO {k1 k2 : IntKind} {C : Int} (n : Nat) (hx : fr.ev x = some (.int k1 0)) (hy : fr.ev y = some (.int k2 C)) (hC : C = (n : Int)) (hn : n ≤ 1000000)
  (hk : ∀ A w', OwnO w' w.heap.size w'.heap.size A n [] → Below w.heap.size w w' → WL Tryz.prog fn F N ks ops tg.tail l ((d0, .slice A 0 n) :: fr) w')
  (ht : tg.loud = true := by rfl) (hg : onG ops fr gd = true := by rfl) (hd : Nat.blt d0 N = true := by rfl) : WL Tryz.prog fn F N ks ops tg (⟨some d0, .makeSlice 35 x y, ty, pos, aft, gd⟩ :: l) fr w := by
 subst hC
 obtain ⟨i, hi, hz, hs, hb⟩ := info_parts Tryz.rowO.hi
 obtain ⟨w', hrun, r1, r2⟩ := run_make_own (P := Tryz.prog) w w.heap.size 35 54 i _ 35 Tryz.rowO.ht hi hz hs k1 k2 n (by rw [hb]; omega) (by simp only [maxLen]; omega) (Nat.le_refl _)
 have hbl : Below w.heap.size w w' := (Below.refl _ _).grown r2 (Nat.le_refl _) (by simp)
 have ho : OwnO w' w.heap.size w'.heap.size (some ⟨w.heap.size, 0, none⟩) n [] := ⟨[], ⟨r1, fun b hb => (World.ownsRow.lt r1 b (by rw [blk_own]; exact hb)).2⟩, fun i h => absurd h (Nat.not_lt_zero _)⟩
 exact wl_v (fun a ha o ho _ => by simp [execOp, ho, ha.ev hx, ha.ev hy, hrun]) (hk _ w' ho hbl) ht hg hd (.inr (grown_of_below hbl _))
theorem wl_stKind (hx : fr.ev x = some (.pointer (some ⟨g, 0 + 0, none⟩))) (hB : Blk w g t' (opC k' K n c V m d u)) (hy : fr.ev y = some (.int .i64 k))
  (hk : ∀ w', Blk w' g t' (opC k K n c V m d u) → Grew w w' t' (some g) → w'.heap.size = w.heap.size → WL Tryz.prog fn F N ks ops tg.tail l fr w') (ht : tg.loud = true := by rfl) (hg : onG ops fr gd = true := by rfl) (hq : tg.calm = false ∨ tg.rw.may (some g) := by exact .inl rfl) :
  WL Tryz.prog fn F N ks ops tg (⟨none, .store 3 x y, ty, pos, aft, gd⟩ :: l) fr w :=
 wl_storeg1 Tryz.sizeOf3 hx hy rfl hB (by rw [opC_length]; omega) hk ht hg hq
end
theorem C_opsRead {A : Option Addr} {b : By} {r : List Opn × Nat} {n c : Nat} (w : World) (hA : Rd w A b) (hr : readO b = r) (hn : n = b.length) (hl : b.length ≤ 4000000) :
  CallsR Tryz.prog 13 [.slice A n c] w fun v w' => ∃ A' c', v = .tuple #[.slice A' r.1.length c', .int .i64 (r.2 : Int)] ∧ OwnO w' w.heap.size w'.heap.size A' c' r.1 ∧ Below w.heap.size w w' := by
 subst hn
 obtain ⟨⟨n0, l0, e0⟩, hw0⟩ : ∃ s, rWord 1 (b, 0) = s := ⟨_, rfl⟩
 have hle := rWord_255 (b, 0)
 unfold readO at hr
 rw [hw0] at hr hle
 dsimp only at hr hle
 have e1 : WordR 1 b 0 n0 l0 e0 := ⟨hw0⟩
 have hl0 : l0.length ≤ 4000000 := by
  have := rWord_rest 1 (b, 0)
  rw [hw0] at this
  exact Nat.le_trans this hl
 refine callsR Tryz.func13 rfl rfl (by kernel_rfl) rfl ?_
 have hw := Below.refl w.heap.size w
 refine zs (za rfl (za rfl (wl_nil (zs (zm rfl ?_)))))
 refine wl_call rfl (C_rRead _ hA rfl (by omega)) ?_
 rintro v12 w12 ⟨g12, ⟨rfl, ⟨i12, ⟨i12_1, ⟨f12, b12⟩⟩⟩⟩⟩
 have s12 := b12.size
 replace hw := hw.trans (b12.mono hw.size)
 refine za rfl (wl_nil (zs (zm rfl ?_)))
 refine wl_call rfl (C_rWord _ f12 e1) ?_
 rintro v14 w14 ⟨rfl, ⟨f14, ⟨g14, g14_1⟩⟩⟩
 have s14 := g14.size
 replace hw := hw.trans (below_of_grownBy g14.g hw.size (by omega))
 clear f12
 refine zp (o_convi64 (src := 43) (dst := 3) Tryz.underlying43 Tryz.underlying3 rfl (by omega) (by omega)) ?_
 refine za rfl (wl_nil (rk_seq (zs (zm rfl ?_))))
 refine zp (o_gt rfl rfl) ?_
 refine wl_nil ?_
 refine rk_if rfl (fun h17 => ?_) (fun h17 => ?_)
 ·rw [if_pos (by omega)] at hr
  subst hr
  refine zs (za rfl (za rfl (wl_nil ?_)))
  refine ret2 rfl rfl rfl ?_
  exact ⟨_, _, rfl, OwnO.nil_, hw⟩
 rw [if_neg (by omega)] at hr
 refine rk_skip (zs (zm rfl ?_))
 refine wl_mkO (n0) rfl rfl rfl (by omega) ?_
 rintro A19 w19 f19 b19
 have qf19 := f19.cap
 have s19 := b19.size
 replace hw := hw.trans (b19.mono hw.size)
 replace f14 := f14.u b19
 refine za rfl (wl_nil (rk_seq (zs (zm rfl (zm rfl (wl_nil (rk_block ?_)))))))
 refine rk_joinf (fun fb fr w3 => ∃ A' c' L l e, fr = [(6, .slice A' L.length c')] ++ fb.drop 3 ∧ readL n0 (l0, e0) = some (L, (l, e)) ∧ OwnO w3 w.heap.size w3.heap.size A' c' L ∧ Rdr w3 g12 (l, e) ∧ w19.heap.size ≤ w3.heap.size ∧ Below w.heap.size w w3) ?_ (fun ks hj => ?_)
 rotate_left
 ·refine rk_loopf (fun fb m fr w3 => ∃ (i : Nat) (v : Int) (A' : Option Addr) (c' : Nat) (L : List Opn) (l : By) (e : Nat), fr = [(21, .int .i64 v), (20, .int .i64 (n0 : Int)), (6, .slice A' L.length c')] ++ fb.drop 3 ∧ v = i ∧ i ≤ n0 ∧ m = n0 - i ∧ L.length = i ∧ readL n0 (l0, e0) = (readL (n0 - i) (l, e)).map (fun r => (L ++ r.1, r.2)) ∧ l.length ≤ 4000000 ∧ OwnO w3 w.heap.size w3.heap.size A' c' L ∧ Rdr w3 g12 (l, e) ∧ w19.heap.size ≤ w3.heap.size ∧ Below w.heap.size w w3) (n := n0) (Fr.le_of (by kernel_rfl) (by kernel_rfl) (by repeat' constructor)) ⟨0, _, A19, _, [], l0, e0, rfl, rfl, by omega, rfl, rfl, by simp, hl0, OwnS.base f19 (by omega) (Nat.le_refl _), f14, Nat.le_refl _, hw⟩ ?_
  clear hw f19 f14
  rintro m fr w3 ⟨i, v, A', c', L, l, e, rfl, rfl, hi, rfl, hLl, hrd, hll, fo, f14, hsz, hw⟩
  have shw := hw.size
  first | refine zf ?_ | refine zg ?_
  refine zs ?_
  refine zp (o_lt rfl rfl) ?_
  refine wl_nil (rk_seq ?_)
  refine rk_if rfl (fun h22 => ?_) (fun h22 => ?_)
  ·have hin : i < n0 := by omega
   obtain ⟨⟨k1, l1, e1⟩, hk1⟩ : ∃ s, rWord 1 (l, e) = s := ⟨_, rfl⟩
   have e2 : WordR 1 l e k1 l1 e1 := ⟨hk1⟩
   have hk1le := rWord_255 (l, e)
   rw [hk1] at hk1le
   dsimp only at hk1le
   rw [show n0 - i = (n0 - i - 1) + 1 by omega, readL, hk1] at hrd
   dsimp only at hrd
   by_cases hk : 1 ≤ k1 ∧ k1 ≤ 6
   ·obtain ⟨hka, hkb⟩ := hk
    rw [if_pos ⟨hka, hkb⟩] at hrd
    obtain ⟨⟨p, q, u, l2, e3⟩, hrs⟩ : ∃ s, readS (k1 : Nat) (l1, e1) = s := ⟨_, rfl⟩
    rw [hrs] at hrd
    dsimp only at hrd
    have hl1 : l1.length ≤ 4000000 := by
     have := rWord_rest 1 (l, e)
     rw [hk1] at this
     exact Nat.le_trans this hll
    obtain ⟨n1, n2, n3⟩ := readS_le (k1 : Nat) (l1, e1)
    rw [hrs] at n1 n2 n3
    dsimp only at n1 n2 n3
    refine rk_skip (rk_seq (rk_block (zs (zm rfl ?_))))
    refine wl_call rfl (C_rWord _ f14 e2) ?_
    rintro v24 w24 ⟨rfl, ⟨f24, ⟨g24, g24_1⟩⟩⟩
    have s24 := g24.size
    replace hw := hw.trans (below_of_grownBy g24.g hw.size (by omega))
    replace fo := fo.y g24 (by decide)
    clear f14
    refine zp (o_convi64 (src := 43) (dst := 3) Tryz.underlying43 Tryz.underlying3 rfl (by omega) (by omega)) ?_
    refine za rfl (wl_nil (zs (zm rfl ?_)))
    refine wl_call rfl (C_formOk _ (by omega) (by omega)) ?_
    rintro v28 w28 ⟨gf28, ⟨pf28, ⟨rf28, ⟨df28, ⟨rfl, ⟨i28, b28⟩⟩⟩⟩⟩⟩
    have s28 := b28.size
    replace hw := hw.trans (b28.mono hw.size)
    replace fo := fo.u b28
    replace f24 := f24.u b28
    refine zm rfl ?_
    refine zp (o_ext20 rfl) ?_
    refine zp (o_ext21 rfl) ?_
    refine wl_allocg [_, _, _, _] Tryz.zeroValue89 (by rfl) ?_
    rintro g8 w8 f8 b8 i8 i8_1
    have s8 := b8.size
    replace hw := hw.trans (b8.mono hw.size)
    replace f24 := f24.u b8
    replace fo := fo.u b8
    refine wl_storega Tryz.sizeOf89 rfl rfl (by rfl) (oneCell_of (by rfl)) f8 (by rfl) ?_
    rintro w_1 f g e_1
    have s := g.size
    replace hw := hw.trans (below_of_grownBy g.g hw.size (by omega))
    replace fo := fo.y g (by decide)
    replace f24 := f24.y g (by decide)
    clear f8
    refine za rfl (wl_nil (rk_seq (zs (zm rfl ?_))))
    refine zp (o_not rfl) ?_
    refine wl_nil ?_
    refine rk_false rfl ?_
    refine rk_skip (zs ?_)
    refine zp (o_faddr (s := 89) (i := 2) (off := 2) Tryz.underlying89 rfl Tryz.sizeOf86 rfl rfl rfl) ?_
    refine wl_r (o_loadbg Tryz.isAgg86 rfl f (by rfl)) ?_
    refine zm rfl ?_
    refine wl_callf (xs := [_]) (cs := []) rfl rfl (sh4_read i28 w_1 f24 hrs) ?_
    rintro _ w36 ⟨K36, c36, V36, d36, rfl, p1, p2, p3, p4, p5, p6, f24, g36⟩
    replace f := f.y g36 (by decide)
    replace fo := fo.y g36 (by decide)
    replace hw := hw.trans (g36.below hw.size (fun k hk => by injection hk with hk; omega))
    dsimp only at p1 p2 p4 p5 f24 ⊢
    have shw2 := hw.size
    have s36 := g36.size
    by_cases he : e3 = 0
    ·subst he
     refine wl_allocOp ?_
     rintro g10 w10 f10 b10 i10 i10_1
     have s10 := b10.size
     replace hw := hw.trans (b10.mono hw.size)
     replace f24 := f24.u b10
     replace fo := fo.u b10
     replace f := f.u b10
     replace p4 := p4.u b10
     replace p1 := p1.u b10
     refine wl_stOpB rfl f10 rfl ?_
     rintro w_2 f_1 g_1 e_2
     have s_1 := g_1.size
     replace hw := hw.trans (below_of_grownBy g_1.g hw.size (by omega))
     replace p1 := p1.y g_1 (by decide)
     replace p4 := p4.y g_1 (by decide)
     replace f := f.k g_1.g (ap_some (by omega))
     replace fo := fo.q g_1 (ap_some (by omega)) (by decide)
     replace f24 := f24.y g_1 (by decide)
     clear f10
     refine wl_nil (zs (zm rfl ?_))
     refine zp (o_faddr (s := 54) (i := 0) (off := 0) Tryz.underlying54 rfl Tryz.sizeOf3 rfl rfl rfl) ?_
     refine wl_stKind rfl f_1 rfl ?_
     rintro w_3 f_2 g_2 e_3
     have s_2 := g_2.size
     replace hw := hw.trans (below_of_grownBy g_2.g hw.size (by omega))
     replace f24 := f24.y g_2 (by decide)
     replace fo := fo.q g_2 (ap_some (by omega)) (by decide)
     replace f := f.k g_2.g (ap_some (by omega))
     replace p4 := p4.y g_2 (by decide)
     replace p1 := p1.y g_2 (by decide)
     clear f_1
     refine wl_nil (rk_seq (zs (zm rfl ?_)))
     refine wl_call rfl (C_rErr _ f24) ?_
     rintro v40 w40 ⟨rfl, rfl⟩
     refine zp (o_ne rfl rfl) ?_
     refine zm rfl ?_
     refine zp (o_faddr (s := 89) (i := 0) (off := 0) Tryz.underlying89 rfl Tryz.sizeOf84 rfl rfl rfl) ?_
     refine wl_r (o_loadbg Tryz.isAgg84 rfl f (by rfl)) ?_
     refine wl_r (o_loadag Tryz.isAgg54 Tryz.sizeOf54 rfl f_2 (opC_length ..)) ?_
     refine wl_know 42 false rfl (decide_eq_false (by omega)) ?_
     refine wl_callf (xs := [_]) (cs := []) rfl rfl (sh4_good i28 w40 (by omega) (by omega)) ?_
     rintro _ w46 ⟨rfl, b46⟩
     have sb46 := b46.size
     replace hw := hw.trans (b46.mono hw.size)
     replace p1 := p1.u b46
     replace p4 := p4.u b46
     replace f := f.u b46
     replace fo := fo.u b46
     replace f24 := f24.u b46
     replace f_2 := f_2.u b46
     cases hgd : goodS k1 p.length q.length u
     ·rw [if_neg (fun h => by rw [hgd] at h; cases h.2)] at hrd
      rw [hrd] at hr
      subst hr
      refine zp (o_not rfl) ?_
      refine zp (o_pick_f rfl rfl) ?_
      refine wl_nil ?_
      refine rk_true rfl ?_
      refine zs (za rfl (za rfl (wl_nil ?_)))
      refine ret2 rfl rfl rfl ?_
      exact ⟨_, _, rfl, OwnO.nil_, hw⟩
     ·rw [if_pos ⟨rfl, hgd⟩, Option.map_map] at hrd
      have hkw : (Lit.int .i64 (k1 : Int)).wf = true := by
       obtain ⟨x1, x2⟩ := goodS_le hgd
       rcases (show k1 = 1 ∨ k1 = 2 ∨ k1 = 3 ∨ k1 = 4 ∨ k1 = 5 ∨ k1 = 6 by omega) with rfl | rfl | rfl | rfl | rfl | rfl <;> rfl
      refine zp (o_not rfl) ?_
      refine zp (o_pick_f rfl rfl) ?_
      refine wl_nil ?_
      refine rk_false rfl ?_
      refine rk_skip (rk_region (zm rfl ?_))
      refine wl_r (o_loadag Tryz.isAgg54 Tryz.sizeOf54 rfl f_2 (opC_length ..)) ?_
      refine wl_litO1 (by rfl) rfl p1 p4 rfl rfl (by omega) (by omega) (by omega) (by omega) hkw (by rfl) ?_
      rintro A51 w51 f51 b51
      have qf51 := f51.cap
      have s51 := b51.size
      replace hw := hw.trans (b51.mono hw.size)
      replace f_2 := f_2.u b51
      replace f24 := f24.u b51
      replace fo := fo.u b51
      replace f := f.u b51
      replace p4 := p4.u b51
      replace p1 := p1.u b51
      refine wl_appO rfl fo rfl rfl f51.to_ROT (by rfl) (by omega) hw.size ?_
      rintro A52 c52 w52 f52 g52 b52
      have qf52 := f52.cap
      have s52 := g52.size
      replace hw := hw.trans (b52.mono (by omega))
      replace p1 := p1.y g52 (by decide)
      replace p4 := p4.y g52 (by decide)
      replace f := f.y g52 (by decide)
      replace f24 := f24.y g52 (by decide)
      replace f_2 := f_2.k g52.g (fo.ap (by omega))
      replace f51 := f51.q g52 (fo.ap (by omega)) (by decide)
      clear fo
      refine za rfl (wl_nil ?_)
      refine rk_blk ?_
      refine rk_region ?_
      refine zp (o_add rfl rfl (by omega) (by omega)) ?_
      refine zm rfl (wl_nil ?_)
      exact rk_againf (Fr.le_of (by kernel_rfl) (by kernel_rfl) (by repeat' constructor)) ⟨i + 1, (i : Int) + 1, A52, c52, L ++ [((k1 : Int), p, q, u)], l2, 0, rfl, by omega, by omega, rfl, by simp [hLl], by
       rw [hrd, show n0 - (i + 1) = n0 - i - 1 by omega]
       congr 1
       funext r
       simp, by omega, f52, f24, by omega, hw⟩ (by omega)
    ·rw [if_neg (fun h => he h.1)] at hrd
     rw [hrd] at hr
     subst hr
     refine wl_allocOp ?_
     rintro g10 w10 f10 b10 i10 i10_1
     have s10 := b10.size
     replace hw := hw.trans (b10.mono hw.size)
     replace fo := fo.u b10
     replace f := f.u b10
     replace f24 := f24.u b10
     replace p4 := p4.u b10
     replace p1 := p1.u b10
     refine wl_stOpB rfl f10 rfl ?_
     rintro w_2 f_1 g_1 e_2
     have s_1 := g_1.size
     replace hw := hw.trans (below_of_grownBy g_1.g hw.size (by omega))
     replace p1 := p1.y g_1 (by decide)
     replace p4 := p4.y g_1 (by decide)
     replace f24 := f24.y g_1 (by decide)
     replace f := f.k g_1.g (ap_some (by omega))
     replace fo := fo.q g_1 (ap_some (by omega)) (by decide)
     clear f10
     refine wl_nil (zs (zm rfl ?_))
     refine zp (o_faddr (s := 54) (i := 0) (off := 0) Tryz.underlying54 rfl Tryz.sizeOf3 rfl rfl rfl) ?_
     refine wl_stKind rfl f_1 rfl ?_
     rintro w_3 f_2 g_2 e_3
     have s_2 := g_2.size
     replace hw := hw.trans (below_of_grownBy g_2.g hw.size (by omega))
     replace fo := fo.q g_2 (ap_some (by omega)) (by decide)
     replace f := f.k g_2.g (ap_some (by omega))
     replace f24 := f24.y g_2 (by decide)
     replace p4 := p4.y g_2 (by decide)
     replace p1 := p1.y g_2 (by decide)
     clear f_1
     refine wl_nil (rk_seq (zs (zm rfl ?_)))
     refine wl_call rfl (C_rErr _ f24) ?_
     rintro v40 w40 ⟨rfl, rfl⟩
     refine zp (o_ne rfl rfl) ?_
     refine zm rfl ?_
     refine wl_know 42 true rfl (decide_eq_true (by omega)) ?_
     refine wl_off (wl_off (wl_off (wl_off (wl_off ?_))))
     refine zp (o_pick_t rfl rfl) ?_
     refine wl_nil ?_
     refine rk_true rfl ?_
     refine zs (za rfl (za rfl (wl_nil ?_)))
     refine ret2 rfl rfl rfl ?_
     exact ⟨_, _, rfl, OwnO.nil_, hw⟩
   ·rw [if_neg hk] at hrd
    rw [hrd] at hr
    subst hr
    have hk2 : (k1 : Int) < 1 ∨ 6 < (k1 : Int) := by omega
    refine rk_skip (rk_seq (rk_block (zs (zm rfl ?_))))
    refine wl_call rfl (C_rWord _ f14 e2) ?_
    rintro v24 w24 ⟨rfl, ⟨f24, ⟨g24, g24_1⟩⟩⟩
    have s24 := g24.size
    replace hw := hw.trans (below_of_grownBy g24.g hw.size (by omega))
    replace fo := fo.y g24 (by decide)
    clear f14
    refine zp (o_convi64 (src := 43) (dst := 3) Tryz.underlying43 Tryz.underlying3 rfl (by omega) (by omega)) ?_
    refine za rfl (wl_nil (zs (zm rfl ?_)))
    refine wl_call rfl (C_formBad _ (by omega)) ?_
    rintro v28 w28 ⟨rfl, b28⟩
    have s28 := b28.size
    replace hw := hw.trans (b28.mono hw.size)
    replace fo := fo.u b28
    replace f24 := f24.u b28
    refine zm rfl ?_
    refine zp (o_ext20 rfl) ?_
    refine zp (o_ext21 rfl) ?_
    refine wl_allocg [_, _, _, _] Tryz.zeroValue89 (by rfl) ?_
    rintro g8 w8 f8 b8 i8 i8_1
    have s8 := b8.size
    replace hw := hw.trans (b8.mono hw.size)
    replace f24 := f24.u b8
    replace fo := fo.u b8
    refine wl_storega Tryz.sizeOf89 rfl rfl (by rfl) (by decide) f8 (by rfl) ?_
    rintro w_1 f g e_1
    have s := g.size
    replace hw := hw.trans (below_of_grownBy g.g hw.size (by omega))
    replace fo := fo.y g (by decide)
    replace f24 := f24.y g (by decide)
    clear f8
    refine za rfl (wl_nil (rk_seq (zs (zm rfl ?_))))
    refine zp (o_not rfl) ?_
    refine wl_nil ?_
    refine rk_true rfl ?_
    refine zs (za rfl (za rfl (wl_nil ?_)))
    refine ret2 rfl rfl rfl ?_
    exact ⟨_, _, rfl, OwnO.nil_, hw⟩
  ·refine rk_exit rfl ?_
   have e : i = n0 := by omega
   subst e
   rw [Nat.sub_self, readL] at hrd
   exact rk_tof hj (Fr.le_of (by kernel_rfl) (by kernel_rfl) (by repeat' constructor)) ⟨A', c', L, l, e, rfl, by simpa using hrd, fo, f14, hsz, hw⟩
 clear hw f19 f14
 rintro fr w3 ⟨A', c', L, l, e, rfl, hrd, fo, f14, hsz, hw⟩
 have shw := hw.size
 rw [hrd] at hr
 dsimp only at hr
 first | refine zf ?_ | refine zg ?_
 by_cases hE : rEnd (l, e) = 0
 ·rw [if_pos hE] at hr
  subst hr
  refine rk_seq (zs (zm rfl ?_))
  refine wl_call rfl (C_rEnd _ f14) ?_
  rintro v55 w55 ⟨rfl, b55⟩
  have s55 := b55.size
  replace hw := hw.trans (b55.mono hw.size)
  replace f14 := f14.u b55
  replace fo := fo.u b55
  refine zp (o_ne rfl rfl) ?_
  refine wl_nil ?_
  refine rk_if rfl (fun h56 => absurd h56 (by omega)) (fun h56 => ?_)
  refine rk_skip (zs (zm rfl (za rfl (za rfl (wl_nil ?_)))))
  refine ret2 rfl rfl rfl ?_
  exact ⟨A', c', rfl, fo.base (Nat.le_refl _) (by omega), hw⟩
 ·rw [if_neg hE] at hr
  subst hr
  refine rk_seq (zs (zm rfl ?_))
  refine wl_call rfl (C_rEnd _ f14) ?_
  rintro v55 w55 ⟨rfl, b55⟩
  have s55 := b55.size
  replace hw := hw.trans (b55.mono hw.size)
  replace f14 := f14.u b55
  replace fo := fo.u b55
  refine zp (o_ne rfl rfl) ?_
  refine wl_nil ?_
  refine rk_if rfl (fun h56 => ?_) (fun h56 => h56.elim (by omega))
  refine zs (za rfl (za rfl (wl_nil ?_)))
  refine ret2 rfl rfl rfl ?_
  exact ⟨_, _, rfl, OwnO.nil_, hw⟩
end Go.Proofs.YtahkeoegbjopfaaGreat
namespace Go.Proofs.YtahkeoegbjopfaaGreat
set_option maxRecDepth 100000
open Go.RowKit
section
variable {N : Nat} {fr : Fr} {w : World} {ty t' : TypeId} {x : Operand} {g : Nat} {u : Ky}
theorem o_ldKyB (hx : fr.ev x = some (.pointer (some ⟨g, 0, none⟩))) (hB : Blk w g t' (B8 u.1)) : OpV Tryz.prog N fr w (.load 42 x) ty (.agg (B8 u.1).toArray) w :=
 o_loadCut Tryz.isAgg42 Tryz.sizeOf42 hx hB (by rw [List.drop_zero, List.take_of_length_le (by rw [B8_length, u.2]; omega)]) (by rw [B8_length, u.2])
end
theorem C_opsCompare {u v : Ky} (w : World) : CallsR Tryz.prog 88 [.agg (B8 u.1).toArray, .agg (B8 v.1).toArray] w fun x w' => x = .int .i64 (cmpL u.1 v.1) ∧ Below w.heap.size w w' := by
 refine callsR Tryz.func88 rfl rfl (by kernel_rfl) rfl ?_
 have hw := Below.refl w.heap.size w
 refine zs ?_
 refine wl_boxg _ rfl (by rfl) ?_
 rintro g2 w2 f2 b2 i2 i2_1
 have s2 := b2.size
 replace hw := hw.trans (b2.mono hw.size)
 refine wl_boxg _ rfl (by rfl) ?_
 rintro g3 w3 f3 b3 i3 i3_1
 have s3 := b3.size
 replace hw := hw.trans (b3.mono hw.size)
 replace f2 := f2.u b3
 refine za rfl (wl_nil (rk_seq ?_))
 refine rk_draw (id := 1) (none) [0, 0, 3, 7] [0, 0, 3, 7] 4 0 [(.p, 0), (.p, 1), (.l, 2), (.p, 3)] (by kernel_rfl) (by kernel_rfl) (by kernel_rfl) (by kernel_rfl) (by kernel_rfl) ?_
 replace hw := hw.drew
 replace f2 := f2.d
 replace f3 := f3.d
 refine zp (o_slice_arr (t := 42) Tryz.underlying42 Tryz.sizeOf5 rfl) ?_
 refine zp (o_slice_arr (t := 42) Tryz.underlying42 Tryz.sizeOf5 rfl) ?_
 refine wl_call rfl (C_bCompare _ f2.rdB.r f3.rdB.r u.2.symm v.2.symm) ?_
 rintro _ _ ⟨rfl, rfl⟩
 refine za rfl ?_
 refine wl_nild ?_
 refine ret1 rfl rfl ?_
 exact ⟨rfl, hw⟩
def IncK (L : List Ky) : Prop := ∀ i (h : i < L.length), 0 < i → cmpL L[i - 1].1 L[i].1 < 0
instance (L : List Ky) : Decidable (IncK L) := by unfold IncK; infer_instance
theorem C_increasing {A : Option Addr} {L : List Ky} {n c : Nat} (w : World) (hA : RKs w A L) (hn : n = L.length) (hl : L.length ≤ 4000000) :
  CallsR Tryz.prog 46 [.slice A n c] w fun v w' => v = .bool (decide (IncK L)) ∧ Below w.heap.size w w' := by
 subst hn
 refine callsR Tryz.func46 rfl rfl (by kernel_rfl) rfl ?_
 have hw := Below.refl w.heap.size w
 refine zs (za rfl (wl_nil (rk_seq (zs (za rfl (wl_nil (rk_block ?_)))))))
 refine rk_joinf (fun fb fr w2 => fr = [] ++ fb.drop 1 ∧ IncK L ∧ Below w.heap.size w w2) ?_ (fun ks hj => ?_)
 rotate_left
 ·refine rk_loopf (fun fb m fr w2 => ∃ (i : Nat) (v : Int), fr = [(3, .int .i64 v)] ++ fb.drop 1 ∧ v = (i : Int) + 1 ∧ i ≤ L.length ∧ m = L.length - i ∧ (∀ j (h : j < L.length), j ≤ i → 0 < j → cmpL L[j - 1].1 L[j].1 < 0) ∧ Below w.heap.size w w2) (n := L.length) (Fr.le_of (by kernel_rfl) (by kernel_rfl) (by repeat' constructor)) ⟨0, _, rfl, rfl, by omega, rfl, fun j h h1 h2 => absurd h2 (by omega), hw⟩ ?_
  clear hw
  rintro m fr w2 ⟨i, v, rfl, rfl, hi, rfl, hok, hw⟩
  have shw := hw.size
  first | refine zf ?_ | refine zg ?_
  refine rk_seq (zs (zm rfl (zm rfl ?_)))
  refine zp (o_len (t := 29) Tryz.underlying29 rfl) ?_
  refine zp (o_lt rfl rfl) ?_
  refine wl_nil ?_
  refine rk_if rfl (fun h7 => ?_) (fun h7 => ?_)
  ·have hil : i + 1 < L.length := by omega
   refine rk_skip (rk_seq (rk_block (rk_seq ?_)))
   refine rk_draw (id := 4) (none) [0, 0, 2, 5, 8, 0, 0, 96, 128, 272, 512] [0, 0, 2, 7, 15, 0, 0, 96, 224, 511, 1023] 512 0 [(.p, 0), (.p, 1), (.p, 2), (.p, 3), (.r, 4), (.p, 5), (.p, 6), (.p, 7), (.r, 8), (.l, 9), (.p, 10)] (by kernel_rfl) (by kernel_rfl) (by kernel_rfl) (by kernel_rfl) (by kernel_rfl) ?_
   replace hw := hw.drew
   refine zm rfl (zm rfl ?_)
   refine zp (o_sub rfl rfl (by omega) (by omega)) ?_
   refine zp (o_iaddrA (i + 1 - 1) Tryz.underlying29 Tryz.sizeOf42 rfl rfl (by omega) (hA.some_ (by omega)) (by omega)) ?_
   refine wl_r (o_ldKs rfl hA hw (by omega)) ?_
   refine zm rfl (zm rfl ?_)
   refine zp (o_iaddrA (i + 1) Tryz.underlying29 Tryz.sizeOf42 rfl rfl (by omega) (hA.some_ (by omega)) (by omega)) ?_
   refine wl_r (o_ldKs rfl hA hw (by omega)) ?_
   refine wl_call rfl (C_opsCompare _) ?_
   rintro v19 w19 ⟨rfl, b19⟩
   simp only [drew_size] at b19
   have s19 := b19.size
   simp only [drew_size] at s19
   replace hw := hw.trans (b19.mono hw.size)
   refine zp (o_ge rfl rfl) ?_
   refine wl_nild ?_
   refine rk_if rfl (fun h20 => ?_) (fun h20 => ?_)
   ·refine zs ?_
    refine za rfl (wl_nil ?_)
    refine ret1 rfl rfl ?_
    exact ⟨by rw [decide_eq_false (fun h => absurd (h (i + 1) hil (by omega)) (by omega))], hw⟩
   ·refine rk_skip ?_
    refine rk_blk ?_
    refine rk_region (zm rfl ?_)
    refine zp (o_add rfl rfl (by omega) (by omega)) ?_
    refine za rfl (wl_nil ?_)
    exact rk_againf (Fr.le_of (by kernel_rfl) (by kernel_rfl) (by repeat' constructor)) ⟨i + 1, (i : Int) + 1 + 1, rfl, by omega, by omega, rfl, fun j h h1 h2 => by
     rcases Nat.lt_or_ge i j with h3 | h3
     ·obtain rfl : j = i + 1 := by omega
      omega
     ·exact hok j h h3 h2, hw⟩ (by omega)
  ·refine rk_exit rfl ?_
   exact rk_tof hj (Fr.le_of (by kernel_rfl) (by kernel_rfl) (by repeat' constructor)) ⟨rfl, fun j h h0 => hok j h (by omega) h0, hw⟩
 clear hw
 rintro fr w2 ⟨rfl, hI, hw⟩
 first | refine zf ?_ | refine zg ?_
 refine zs (za rfl (wl_nil ?_))
 refine ret1 rfl rfl ?_
 exact ⟨by rw [decide_eq_true hI], hw⟩
theorem C_indexK {A : Option Addr} {L : List Ky} {u : Ky} {n c : Nat} (w : World) (hA : RKs w A L) (hn : n = L.length) (hl : L.length ≤ 4000000) :
  CallsR Tryz.prog 101 [.slice A n c, .agg (B8 u.1).toArray] w fun v w' => ∃ z : Int, v = .int .i64 z ∧ (0 ≤ z ↔ u ∈ L) ∧ Below w.heap.size w w' := by
 subst hn
 refine callsR Tryz.func101 rfl rfl (by kernel_rfl) rfl ?_
 have hw := Below.refl w.heap.size w
 refine zs ?_
 refine wl_boxg _ rfl (by rfl) ?_
 rintro g3 w3 f3 b3 i3 i3_1
 have s3 := b3.size
 replace hw := hw.trans (b3.mono hw.size)
 refine za rfl (wl_nil (rk_seq (zs (zm rfl ?_))))
 refine zp (o_len (t := 29) Tryz.underlying29 rfl) ?_
 refine zm rfl (wl_nil (rk_block ?_))
 refine rk_joinf (fun fb fr w4 => fr = [] ++ fb.drop 1 ∧ u ∉ L ∧ Below w.heap.size w w4) ?_ (fun ks hj => ?_)
 rotate_left
 ·refine rk_loopf (fun fb m fr w4 => ∃ (i : Nat) (v : Int), fr = [(8, .int .i64 v)] ++ fb.drop 1 ∧ v = i ∧ i ≤ L.length ∧ m = L.length - i ∧ u ∉ L.take i ∧ Blk w4 g3 42 (B8 u.1) ∧ w3.heap.size ≤ w4.heap.size ∧ Below w.heap.size w w4) (n := L.length) (Fr.le_of (by kernel_rfl) (by kernel_rfl) (by repeat' constructor)) ⟨0, _, rfl, rfl, by omega, rfl, by simp, f3, Nat.le_refl _, hw⟩ ?_
  clear hw f3
  rintro m fr w4 ⟨i, v, rfl, rfl, hi, rfl, hno, f3, hsz, hw⟩
  have shw := hw.size
  first | refine zf ?_ | refine zg ?_
  refine zs ?_
  refine zp (o_lt rfl rfl) ?_
  refine wl_nil (rk_seq ?_)
  refine rk_if rfl (fun h9 => ?_) (fun h9 => ?_)
  ·have hil : i < L.length := by omega
   refine rk_skip (rk_seq (rk_block (zs (zm rfl (za rfl (wl_nil (rk_seq ?_)))))))
   refine rk_draw (id := 4) (none) [0, 0, 0, 6, 8, 17] [0, 0, 0, 6, 14, 31] 0 0 [(.r, 0), (.p, 1), (.p, 2), (.p, 3), (.r, 4), (.p, 5)] (by kernel_rfl) (by kernel_rfl) (by kernel_rfl) (by kernel_rfl) (by kernel_rfl) ?_
   replace hw := hw.drew
   replace f3 := f3.d
   refine wl_r (o_ldKyB rfl f3) ?_
   refine zm rfl (zm rfl ?_)
   refine zp (o_iaddrA (i) Tryz.underlying29 Tryz.sizeOf42 rfl rfl rfl (hA.some_ (by omega)) (by omega)) ?_
   refine wl_r (o_ldKs rfl hA hw (by omega)) ?_
   refine zp (o_eqKy rfl rfl) ?_
   refine wl_nild ?_
   refine rk_if rfl (fun h16 => ?_) (fun h16 => ?_)
   ·refine zs ?_
    refine zm rfl (za rfl (wl_nil ?_))
    refine ret1 rfl rfl ?_
    exact ⟨_, rfl, ⟨fun _ => h16 ▸ List.getElem_mem hil, fun _ => by omega⟩, hw⟩
   ·refine rk_skip ?_
    refine rk_blk ?_
    refine rk_region ?_
    refine zp (o_add rfl rfl (by omega) (by omega)) ?_
    refine zm rfl (wl_nil ?_)
    exact rk_againf (Fr.le_of (by kernel_rfl) (by kernel_rfl) (by repeat' constructor)) ⟨i + 1, (i : Int) + 1, rfl, by omega, by omega, rfl, by
     rw [List.take_succ_eq_append_getElem hil, List.mem_append, List.mem_singleton]
     exact fun h => h.elim hno h16, f3, hsz, hw⟩ (by omega)
  ·refine rk_exit rfl ?_
   exact rk_tof hj (Fr.le_of (by kernel_rfl) (by kernel_rfl) (by repeat' constructor)) ⟨rfl, by rwa [List.take_of_length_le (by omega)] at hno, hw⟩
 clear hw f3
 rintro fr w4 ⟨rfl, hno, hw⟩
 first | refine zf ?_ | refine zg ?_
 refine zs (za rfl (wl_nil ?_))
 refine ret1 rfl rfl ?_
 exact ⟨_, rfl, ⟨fun h => by omega, fun h => absurd h hno⟩, hw⟩
theorem C_containsK {A : Option Addr} {L : List Ky} {u : Ky} {n c : Nat} (w : World) (hA : RKs w A L) (hn : n = L.length) (hl : L.length ≤ 4000000) :
  CallsR Tryz.prog 53 [.slice A n c, .agg (B8 u.1).toArray] w fun v w' => v = .bool (decide (u ∈ L)) ∧ Below w.heap.size w w' := by
 subst hn
 refine callsR Tryz.func53 rfl rfl (by kernel_rfl) rfl ?_
 have hw := Below.refl w.heap.size w
 refine zs ?_
 refine wl_boxg _ rfl (by rfl) ?_
 rintro g3 w3 f3 b3 i3 i3_1
 have s3 := b3.size
 replace hw := hw.trans (b3.mono hw.size)
 refine za rfl (wl_nil (zs (zm rfl ?_)))
 refine wl_r (o_ldKyB rfl f3) ?_
 refine wl_call rfl (C_indexK _ (hA.u hw) rfl (by omega)) ?_
 rintro v7 w7 ⟨z7, ⟨rfl, ⟨i7, b7⟩⟩⟩
 have s7 := b7.size
 replace hw := hw.trans (b7.mono hw.size)
 replace f3 := f3.u b7
 refine zp (o_ge rfl rfl) ?_
 refine za rfl (wl_nil ?_)
 refine ret1 rfl rfl ?_
 exact ⟨by rw [decide_eq_decide.2 i7], hw⟩
theorem C_member {A : Option Addr} {L : List Ky} {u : Ky} {n c : Nat} (w : World) (hA : RKs w A L) (hn : n = L.length) (hl : L.length ≤ 4000000) :
  CallsR Tryz.prog 26 [.slice A n c, .agg (B8 u.1).toArray] w fun v w' => v = .bool (decide (u ∈ L)) ∧ Below w.heap.size w w' := by
 subst hn
 refine callsR Tryz.func26 rfl rfl (by kernel_rfl) rfl ?_
 have hw := Below.refl w.heap.size w
 refine zs ?_
 refine wl_boxg _ rfl (by rfl) ?_
 rintro g3 w3 f3 b3 i3 i3_1
 have s3 := b3.size
 replace hw := hw.trans (b3.mono hw.size)
 refine za rfl (wl_nil (zs (zm rfl ?_)))
 refine wl_r (o_ldKyB rfl f3) ?_
 refine wl_call rfl (C_containsK _ (hA.u hw) rfl (by omega)) ?_
 rintro v7 w7 ⟨rfl, b7⟩
 have s7 := b7.size
 replace hw := hw.trans (b7.mono hw.size)
 replace f3 := f3.u b7
 refine za rfl (wl_nil ?_)
 refine ret1 rfl rfl ?_
 exact ⟨rfl, hw⟩
end Go.Proofs.YtahkeoegbjopfaaGreat
