/-
  Walks of the reference for sums: turned words, words, padding, a piece.
-/
import Derived.Test.YtldhmnakkkjenaaShI
import Derived.Test.YtldhmnakkkjenaaApz
namespace Go.Proofs.Ytldhmnakkkjenaa
open Go.RowKit
theorem C_refrot {x : UInt64} {k : Int} (w : World) (h1 : 0 < k) (h2 : k < 64) : CallsR Try.prog 48 [.int .u64 (x.toNat : Int), .int .i64 k] w fun v w' => v = .int .u64 ((rotU x (-k)).toNat : Int) ∧ Below w.heap.size w w' := by
  obtain ⟨s, rfl⟩ : ∃ s : Nat, k = s := ⟨k.toNat, by omega⟩
  refine callsR Try.func48 rfl rfl (by kernel_rfl) rfl ?_
  refine rk_seq ?_
  refine rk_region ?_
  refine wl_p (fun _ => o_assign rfl) ?_
  refine wl_nil ?_
  refine rk_seq ?_
  refine rk_region ?_
  refine wl_p (fun _ => o_move rfl) ?_
  refine wl_p (fun _ => o_move rfl) ?_
  refine wl_p (fun _ => o_convu64 (src := 3) (dst := 35) Try.underlying3 Try.underlying35 rfl (by omega) (by omega)) ?_
  refine wl_p (fun _ => o_shrU rfl rfl (by omega) (by omega)) ?_
  refine wl_p (fun _ => o_move rfl) ?_
  refine wl_p (fun _ => o_move rfl) ?_
  refine wl_p (fun _ => o_sub rfl rfl (by omega) (by omega)) ?_
  refine wl_p (fun _ => o_convu64 (src := 3) (dst := 35) Try.underlying3 Try.underlying35 rfl (by omega) (by omega)) ?_
  refine wl_p (fun _ => o_shlU rfl rfl (by omega) (by omega)) ?_
  refine wl_p (fun _ => o_orU rfl rfl) ?_
  refine wl_p (fun _ => o_assign rfl) ?_
  refine wl_nil ?_
  refine ret1 rfl rfl ?_
  exact ⟨by unfold rotU; rw [show (s : Int).toNat = s from rfl, show (64 - (s : Int)).toNat = 64 - s by omega, show (-(s : Int) % 64).toNat = 64 - s by omega, show 64 - (64 - s) = s by omega, UInt64.or_comm], Below.refl _ _⟩
set_option maxRecDepth 100000 in
theorem C_refK {r : List UInt64} (w : World) (hr : Kl = r) : CallsR Try.prog 28 [] w fun v w' => v = .agg (vU r).toArray ∧ Below w.heap.size w w' := by
  subst hr
  refine callsR Try.func28 rfl rfl (by kernel_rfl) rfl ?_
  have hw := Below.refl w.heap.size w
  refine rk_seq ?_
  refine rk_region ?_
  refine wl_alloc80 ?_
  rintro g0 w0 f0 b0 i0 i0_1
  have s0 := b0.size
  replace hw := hw.trans (b0.mono hw.size)
  refine wl_nil ?_
  refine rk_seq ?_
  refine rk_region ?_
  refine wl_p (fun _ => o_buildU (n := 80) (vs := vU Kl) Kl Try.underlying26 rfl rfl (by kernel_rfl) rfl rfl (by kernel_rfl) (fun _ => by kernel_rfl)) ?_
  refine wl_stUa Try.sizeOf26 rfl f0 rfl (by rfl) (by rfl) ?_
  rintro w_1 f g e
  have s := g.size
  replace hw := hw.trans (below_of_grownBy g.g hw.size (by omega))
  clear f0
  refine wl_nil ?_
  refine ret_cell rfl rfl Try.isAgg26 Try.sizeOf26 f rfl ?_
  exact ⟨rfl, hw⟩
theorem C_refStart (w : World) : CallsR Try.prog 29 [] w fun v w' => v = .agg (vU Sl).toArray ∧ Below w.heap.size w w' := by
  refine callsR Try.func29 rfl rfl (by kernel_rfl) rfl ?_
  have hw := Below.refl w.heap.size w
  refine rk_seq ?_
  refine rk_region ?_
  refine wl_allocU Try.underlying28 Try.zeroValue28 (by rfl) ?_
  rintro g0 w0 f0 b0 i0 i0_1
  have s0 := b0.size
  replace hw := hw.trans (b0.mono hw.size)
  refine wl_nil ?_
  refine rk_seq ?_
  refine rk_region ?_
  refine wl_p (fun _ => (o_buildga [_, _, _, _, _, _, _, _] Try.underlying28 Try.sizeOf25 Try.zeroValue28 (by rfl) (by rfl) rfl (by rfl) (by rfl) (fun _ => by kernel_rfl))) ?_
  refine wl_storega Try.sizeOf28 rfl rfl (by rfl) (by decide) f0 (by rfl) ?_
  rintro w_1 f g e
  have s := g.size
  replace hw := hw.trans (below_of_grownBy g.g hw.size (by omega))
  clear f0
  refine wl_nil ?_
  refine ret_cell rfl rfl Try.isAgg28 Try.sizeOf28 f rfl ?_
  exact ⟨by kernel_rfl, hw⟩
section
variable {fn : Func} {F : Ending → World → Prop} {N : Nat} {ks : List K} {ops : Array Oper} {tg : Tags} {l : List Oper} {fr : Fr} {w : World} {ty : TypeId} {pos : String} {aft : Array Edge} {gd : Option (Nat × Bool)} {d n c lo hi : Nat} {x y : Operand} {A : Option Addr} {s : List UInt8}
--@ rule append l wl_appZx
theorem wl_appZx (m : Nat) {M : Int} (hx : fr.ev x = some (.slice A n c)) (hown : OwnH w lo hi A c s) (hn : n = s.length) (hy : fr.ev y = some (.int .i64 M)) (hM : M = (m : Int)) (hm : 0 < m) (hlen : s.length + m ≤ 4000000000) (hB : lo ≤ w.heap.size)
    (h : ∀ A' c' w', OwnH w' lo w'.heap.size A' c' (s ++ List.replicate m 0) → Grew w w' 5 (blk A) → Below lo w w' → WL Try.prog fn F N ks ops tg.tail l ((d, .slice A' (s ++ List.replicate m 0).length c') :: fr) w')
    (ht : tg.loud = true := by rfl) (hg : onG ops fr gd = true := by rfl) (hd : Nat.blt d N = true := by rfl) (hq : tg.calm = false ∨ blk A = none ∨ blk A = tg.row := by exact .inl rfl) :
    WL Try.prog fn F N ks ops tg (⟨some d, .call { callee := .builtin .append, args := #[x, y], argTypes := #[39, 3] }, ty, pos, aft, gd⟩ :: l) fr w :=
  wl_appZs Try.u8 Try.underlying3 Try.underlying9 m hx hown hn hy hM hm hlen hB h ht hg hd hq
end
set_option maxHeartbeats 800000 in
theorem C_refPad {A : Option Addr} {b r : By} {n c : Nat} (w : World) (hp : Rd w A b) (hr : padU b = r) (hn : n = b.length) (hbl : b.length ≤ 200000) :
    CallsR Try.prog 25 [.slice A n c] w fun v w' => ∃ A' c', v = .slice A' r.length c' ∧ OwnH w' w.heap.size w'.heap.size A' c' r ∧ Below w.heap.size w w' := by
  subst hn
  obtain ⟨zn, hz⟩ : ∃ zn, zeros b.length = zn := ⟨_, rfl⟩
  have hzd := hz
  unfold zeros at hzd
  refine callsR Try.func25 rfl rfl (by kernel_rfl) rfl ?_
  have hw := Below.refl w.heap.size w
  refine rk_seq ?_
  refine rk_region ?_
  refine wl_p (fun _ => o_assign rfl) ?_
  refine wl_nil ?_
  refine rk_seq ?_
  refine rk_region ?_
  refine wl_litB [] Try.u8 Try.sizeOf5 Try.zeroValue5 (by rfl) rfl rfl (by rfl) (by rfl) (by rfl) ?_
  rintro A6 w6 f6 b6
  have qf6 := f6.cap
  have s6 := b6.size
  replace hw := hw.trans (b6.mono hw.size)
  refine wl_p (fun _ => o_move rfl) ?_
  refine wl_appB Try.u8 rfl f6 (by rfl) rfl (hp.u hw) rfl (by omega) hw.size ?_
  rintro A8 c8 w8 f8 g8 b8 i8
  have qf8 := f8.cap
  have s8 := g8.size
  replace hw := hw.trans (b8.mono (by omega))
  clear f6
  refine wl_litB [128] Try.u8 Try.sizeOf5 Try.zeroValue5 (by rfl) rfl rfl (by rfl) (by rfl) (by rfl) ?_
  rintro A9 w9 f9 b9
  have qf9 := f9.cap
  have s9 := b9.size
  replace hw := hw.trans (b9.mono hw.size)
  replace f8 := f8.u b9
  refine wl_appB Try.u8 rfl f8 rfl rfl f9.to_Rd (by rfl) (by simp; omega) hw.size ?_
  rintro A10 c10 w10 f10 g10 b10 i10
  have qf10 := f10.cap
  have s10 := g10.size
  replace hw := hw.trans (b10.mono (by omega))
  clear f8
  clear f9
  refine wl_p (fun _ => o_assign rfl) ?_
  refine wl_nil ?_
  refine rk_seq ?_
  refine rk_block ?_
  rw [List.nil_append] at f10 ⊢
  refine rk_joinf (fun fb fr w4 => ∃ A' c' bs, fr = [(3, .slice A' bs.length c')] ++ fb.drop 1 ∧ bs = b ++ [128] ++ List.replicate zn 0 ∧ OwnH w4 w.heap.size w4.heap.size A' c' bs ∧ Below w.heap.size w w4) ?_ (fun ks hj => ?_)
  rotate_left
  · refine rk_loopf (fun fb m fr w4 => ∃ (i : Nat) (A' : Option Addr) (bs : By) (c' : Nat), fr = [(3, .slice A' bs.length c')] ++ fb.drop 1 ∧ i ≤ zn ∧ m = zn - i ∧ bs = b ++ [128] ++ List.replicate i 0 ∧ OwnH w4 w.heap.size w4.heap.size A' c' bs ∧ Below w.heap.size w w4) (n := zn) (Fr.le_of (by kernel_rfl) (by kernel_rfl) (by repeat' constructor)) ⟨0, A10, _, _, rfl, by omega, rfl, by rw [List.replicate_zero, List.append_nil], f10.base (by omega) (Nat.le_refl _), hw⟩ ?_
    clear hw f10
    rintro m fr w4 ⟨i, A', bs, c', rfl, hi, rfl, hbs, fo, hw⟩
    have shw4 := hw.size
    have hbl4 : bs.length = b.length + 1 + i := by rw [hbs, List.length_append, List.length_append, List.length_replicate, List.length_singleton]
    first | refine rk_frame (by simp only [List.cons_append, List.nil_append, List.drop_succ_cons, List.drop_zero]; rfl) ?_ | refine wl_frame (by simp only [List.cons_append, List.nil_append, List.drop_succ_cons, List.drop_zero]; rfl) ?_
    refine rk_seq ?_
    refine rk_seq ?_
    refine rk_region ?_
    refine wl_p (fun _ => o_move rfl) ?_
    refine wl_p (fun _ => o_len (t := 39) Try.underlying39 rfl) ?_
    refine wl_p (fun _ => o_rem rfl rfl (by omega) (by omega)) ?_
    refine wl_p (fun _ => o_ne rfl rfl) ?_
    refine wl_nil ?_
    refine rk_if rfl (fun h14 => ?_) (fun h14 => ?_)
    · refine rk_skip ?_
      refine rk_block ?_
      refine rk_region ?_
      refine wl_p (fun _ => o_move rfl) ?_
      refine wl_litB [0] Try.u8 Try.sizeOf5 Try.zeroValue5 (by rfl) rfl rfl (by rfl) (by rfl) (by rfl) ?_
      rintro A16 w16 f16 b16
      have qf16 := f16.cap
      have s16 := b16.size
      replace hw := hw.trans (b16.mono hw.size)
      replace fo := fo.u b16
      refine wl_appB Try.u8 rfl fo rfl rfl f16.to_Rd (by rfl) (by omega) hw.size ?_
      rintro A17 c17 w17 f17 g17 b17 i17
      have qf17 := f17.cap
      have s17 := g17.size
      replace hw := hw.trans (b17.mono (by omega))
      clear fo
      clear f16
      refine wl_p (fun _ => o_assign rfl) ?_
      refine wl_nil ?_
      refine rk_blk ?_
      exact rk_againf (Fr.le_of (by kernel_rfl) (by kernel_rfl) (by repeat' constructor)) ⟨i + 1, _, _, _, rfl, by omega, rfl, by rw [hbs, List.replicate_succ', List.append_assoc (b ++ [128])], f17, hw⟩ (by omega)
    · refine rk_exit rfl ?_
      obtain rfl : i = zn := by omega
      exact rk_tof hj (Fr.le_of (by kernel_rfl) (by kernel_rfl) (by repeat' constructor)) ⟨A', c', bs, rfl, hbs, fo, hw⟩
  clear hw f10
  rintro fr w4 ⟨A', c', bs, rfl, hbs, fo, hw⟩
  have shw4 := hw.size
  have hbl4 : bs.length = b.length + 1 + zn := by rw [hbs, List.length_append, List.length_append, List.length_replicate, List.length_singleton]
  obtain ⟨x, hx⟩ : ∃ x, UInt64.ofNat (b.length * 8) = x := ⟨_, rfl⟩
  have hxn : x.toNat = b.length * 8 := by rw [← hx, UInt64.toNat_ofNat_of_lt' (by show b.length * 8 < 18446744073709551616; omega)]
  first | refine rk_frame (by simp only [List.cons_append, List.nil_append, List.drop_succ_cons, List.drop_zero]; rfl) ?_ | refine wl_frame (by simp only [List.cons_append, List.nil_append, List.drop_succ_cons, List.drop_zero]; rfl) ?_
  refine rk_seq ?_
  refine rk_region ?_
  refine wl_p (fun _ => o_move rfl) ?_
  refine wl_appZx (8) rfl fo rfl rfl (by omega) (by omega) (by omega) hw.size ?_
  rintro A19 c19 w19 f19 g19 b19
  have qf19 := f19.cap
  have s19 := g19.size
  replace hw := hw.trans (b19.mono (by omega))
  clear fo
  refine wl_p (fun _ => o_assign rfl) ?_
  refine wl_nil ?_
  refine rk_seq ?_
  refine rk_region ?_
  refine wl_p (fun _ => o_move rfl) ?_
  refine wl_p (fun _ => o_len (t := 39) Try.underlying39 rfl) ?_
  refine wl_p (fun _ => o_convu64 (src := 3) (dst := 25) Try.underlying3 Try.underlying25 rfl (by omega) (by omega)) ?_
  refine wl_p (fun _ => o_mulq rfl rfl (by omega) (by omega)) ?_
  refine wl_p (fun _ => o_assign rfl) ?_
  refine wl_nil ?_
  refine rk_seq ?_
  refine rk_seq ?_
  refine rk_region ?_
  refine wl_p (fun _ => o_assign rfl) ?_
  refine wl_nil ?_
  refine rk_block ?_
  rw [show (b.length : Int) * 8 = (x.toNat : Int) by omega]
  obtain ⟨b2, hb2⟩ : ∃ b2, bs ++ List.replicate 8 0 = b2 := ⟨_, rfl⟩
  rw [hb2] at f19 ⊢
  have hb2l : b2.length = bs.length + 8 := by rw [← hb2, List.length_append, List.length_replicate]
  have hrr : r = b2 ++ be8 x := by
    rw [← hr, ← hb2, hbs, ← hz, ← hx]; rfl
  have hbn : (be8 x).length = 8 := be8_len x
  refine rk_joinf (fun fb fr w5 => ∃ A' c', fr = [(3, .slice A' r.length c')] ++ fb.drop 6 ∧ OwnH w5 w.heap.size w5.heap.size A' c' r ∧ Below w.heap.size w w5) ?_ (fun ks hj => ?_)
  rotate_left
  · refine rk_loopf (fun fb m fr w6 => ∃ (k : Nat) (v : Int) (A' : Option Addr) (bu : By) (c' : Nat), fr = [(5, .int .i64 v), (4, .int .u64 (x.toNat : Int)), (3, .slice A' bu.length c')] ++ fb.drop 6 ∧ v = 7 - (k : Int) ∧ k ≤ 8 ∧ m = 8 - k ∧ bu = b2 ++ (be8 x).take k ∧ OwnH w6 w.heap.size w6.heap.size A' c' bu ∧ Below w.heap.size w w6) (n := 8) (Fr.le_of (by kernel_rfl) (by kernel_rfl) (by repeat' constructor)) ⟨0, _, A19, _, c19, rfl, by omega, by omega, rfl, by rw [List.take_zero, List.append_nil], f19.base (by omega) (Nat.le_refl _), hw⟩ ?_
    clear hw f19
    rintro m fr w6 ⟨k, v, A', bu, c', rfl, rfl, hk, rfl, hbu, fo, hw⟩
    have shw6 := hw.size
    have hbul : bu.length = b2.length + k := by rw [hbu, List.length_append, List.length_take]; omega
    first | refine rk_frame (by simp only [List.cons_append, List.nil_append, List.drop_succ_cons, List.drop_zero]; rfl) ?_ | refine wl_frame (by simp only [List.cons_append, List.nil_append, List.drop_succ_cons, List.drop_zero]; rfl) ?_
    refine rk_seq ?_
    refine rk_seq ?_
    refine rk_region ?_
    refine wl_p (fun _ => o_move rfl) ?_
    refine wl_p (fun _ => o_ge rfl rfl) ?_
    refine wl_nil ?_
    refine rk_if rfl (fun h25 => ?_) (fun h25 => ?_)
    · refine rk_skip ?_
      refine rk_seq ?_
      refine rk_block ?_
      refine rk_region ?_
      refine wl_p (fun _ => o_move rfl) ?_
      refine wl_p (fun _ => o_move rfl) ?_
      refine wl_p (fun _ => o_move rfl) ?_
      refine wl_p (fun _ => o_mul rfl rfl (by omega) (by omega)) ?_
      refine wl_p (fun _ => o_convu64 (src := 3) (dst := 35) Try.underlying3 Try.underlying35 rfl (by omega) (by omega)) ?_
      refine wl_p (fun _ => o_shrU rfl rfl (by omega) (by omega)) ?_
      rw [show (8 * (7 - (k : Int))).toNat = 56 - 8 * k by omega]
      refine wl_p (fun _ => o_convU8 (src := 25) (dst := 5) Try.underlying25 Try.underlying5 rfl) ?_
      refine wl_litB [(shrU x (56 - 8 * k)).toUInt8] Try.u8 Try.sizeOf5 Try.zeroValue5 (by rfl) rfl rfl (by rfl) (by rfl) (by rfl) ?_
      rintro A35 w35 f35 b35
      have qf35 := f35.cap
      have s35 := b35.size
      replace hw := hw.trans (b35.mono hw.size)
      replace fo := fo.u b35
      refine wl_appB Try.u8 rfl fo rfl rfl f35.to_Rd (by rfl) (by omega) hw.size ?_
      rintro A36 c36 w36 f36 g36 b36 i36
      have qf36 := f36.cap
      have s36 := g36.size
      replace hw := hw.trans (b36.mono (by omega))
      clear fo
      clear f35
      refine wl_p (fun _ => o_assign rfl) ?_
      refine wl_nil ?_
      refine rk_blk ?_
      refine rk_region ?_
      refine wl_p (fun _ => o_move rfl) ?_
      refine wl_p (fun _ => o_sub rfl rfl (by omega) (by omega)) ?_
      refine wl_p (fun _ => o_assign rfl) ?_
      refine wl_nil ?_
      exact rk_againf (Fr.le_of (by kernel_rfl) (by kernel_rfl) (by repeat' constructor)) ⟨k + 1, 7 - (k : Int) - 1, _, _, _, rfl, by omega, by omega, rfl, by rw [hbu, List.take_succ_eq_append_getElem (by omega), be8_get, List.append_assoc], f36, hw⟩ (by omega)
    · refine rk_exit rfl ?_
      obtain rfl : k = 8 := by omega
      rw [List.take_of_length_le (by omega), ← hrr] at hbu
      subst hbu
      exact rk_tof hj (Fr.le_of (by kernel_rfl) (by kernel_rfl) (by repeat' constructor)) ⟨A', c', rfl, fo, hw⟩
  clear hw f19
  rintro fr w5 ⟨A', c', rfl, fo, hw⟩
  have shw5 := hw.size
  first | refine rk_frame (by simp only [List.cons_append, List.nil_append, List.drop_succ_cons, List.drop_zero]; rfl) ?_ | refine wl_frame (by simp only [List.cons_append, List.nil_append, List.drop_succ_cons, List.drop_zero]; rfl) ?_
  refine rk_seq ?_
  refine rk_region ?_
  refine wl_p (fun _ => o_move rfl) ?_
  refine wl_p (fun _ => o_assign rfl) ?_
  refine wl_nil ?_
  refine ret1 rfl rfl ?_
  exact ⟨A', c', rfl, fo, hw⟩
end Go.Proofs.Ytldhmnakkkjenaa
