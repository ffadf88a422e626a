/-
  Walks of the reference for sums: turned words, words, padding, a piece.
-/
import Derived.Test.YtnnhenafhalobaaGreatMg7
import Derived.OpenShut
namespace Go.Proofs.YtnnhenafhalobaaGreat
set_option maxRecDepth 100000
open Go.RowKit
theorem C_refrot {x : UInt64} {k : Int} (w : World) (h1 : 0 < k) (h2 : k < 64) : CallsR Tryz.prog 150 [.int .u64 (x.toNat : Int), .int .i64 k] w fun v w' => v = .int .u64 ((rotU x (-k)).toNat : Int) ∧ Below w.heap.size w w' := by
 obtain ⟨s, rfl⟩ : ∃ s : Nat, k = s := ⟨k.toNat, by omega⟩
 refine callsR Tryz.func150 rfl rfl (by kernel_rfl) rfl ?_
 refine zs (za rfl (wl_nil (zs (zm rfl (zm rfl ?_)))))
 refine zp (o_convu64 (src := 3) (dst := 151) Tryz.underlying3 Tryz.underlying151 rfl (by omega) (by omega)) ?_
 refine zp (o_shrU rfl rfl (by omega) (by omega)) ?_
 refine zm rfl (zm rfl ?_)
 refine zp (o_sub rfl rfl (by omega) (by omega)) ?_
 refine zp (o_convu64 (src := 3) (dst := 151) Tryz.underlying3 Tryz.underlying151 rfl (by omega) (by omega)) ?_
 refine zp (o_shlU rfl rfl (by omega) (by omega)) ?_
 refine zp (o_orU rfl rfl) ?_
 refine za rfl (wl_nil ?_)
 refine ret1 rfl rfl ?_
 exact ⟨by unfold rotU; rw [show (s : Int).toNat = s from rfl, show (64 - (s : Int)).toNat = 64 - s by omega, show (-(s : Int) % 64).toNat = 64 - s by omega, show 64 - (64 - s) = s by omega, UInt64.or_comm], Below.refl _ _⟩
set_option maxRecDepth 100000 in
theorem C_refK {r : List UInt64} (w : World) (hr : Kl = r) : CallsR Tryz.prog 149 [] w fun v w' => v = .agg (vU r).toArray ∧ Below w.heap.size w w' := by
 subst hr
 refine callsR Tryz.func149 rfl rfl (by kernel_rfl) rfl ?_
 have hw := Below.refl w.heap.size w
 refine zs ?_
 refine wl_allocU Tryz.underlying178 Tryz.zeroValue178 (by rfl) ?_
 rintro g0 w0 f0 b0 i0 i0_1
 have s0 := b0.size
 replace hw := hw.trans (b0.mono hw.size)
 refine wl_nil (zs ?_)
 refine zp (o_buildU (n := 80) (vs := vU Kl) Kl Tryz.underlying178 rfl rfl (by kernel_rfl) rfl rfl (by kernel_rfl) (fun _ => by kernel_rfl)) ?_
 refine wl_stUa Tryz.sizeOf178 rfl f0 rfl (by rfl) (by rfl) ?_
 rintro w_1 f g e
 have s := g.size
 replace hw := hw.trans (below_of_grownBy g.g hw.size (by omega))
 clear f0
 refine wl_nil ?_
 refine ret_cell rfl rfl Tryz.isAgg178 Tryz.sizeOf178 f rfl ?_
 exact ⟨rfl, hw⟩
theorem C_refStart (w : World) : CallsR Tryz.prog 131 [] w fun v w' => v = .agg (vU Sl).toArray ∧ Below w.heap.size w w' := by
 refine callsR Tryz.func131 rfl rfl (by kernel_rfl) rfl ?_
 have hw := Below.refl w.heap.size w
 refine zs ?_
 refine wl_allocU Tryz.underlying141 Tryz.zeroValue141 (by rfl) ?_
 rintro g0 w0 f0 b0 i0 i0_1
 have s0 := b0.size
 replace hw := hw.trans (b0.mono hw.size)
 refine wl_nil (zs ?_)
 refine zp (o_buildga [_, _, _, _, _, _, _, _] Tryz.underlying141 Tryz.sizeOf52 Tryz.zeroValue141 (by rfl) (by rfl) rfl (by rfl) (by rfl) (fun _ => by kernel_rfl)) ?_
 refine wl_storega Tryz.sizeOf141 rfl rfl (by rfl) (by decide) f0 (by rfl) ?_
 rintro w_1 f g e
 have s := g.size
 replace hw := hw.trans (below_of_grownBy g.g hw.size (by omega))
 clear f0
 refine wl_nil ?_
 refine ret_cell rfl rfl Tryz.isAgg141 Tryz.sizeOf141 f rfl ?_
 exact ⟨by kernel_rfl, hw⟩
section
variable {fn : Func} {F : Ending → World → Prop} {N : Nat} {ks : List K} {ops : Array Oper} {tg : Tags} {l : List Oper} {fr : Fr} {w : World} {ty : TypeId} {pos : String} {aft : Array Edge} {gd : Option (Nat × Bool)} {d n c lo hi : Nat} {x y : Operand} {A : Option Addr} {s : List UInt8}
theorem wl_appZx (m : Nat) {M : Int} (hx : fr.ev x = some (.slice A n c)) (hown : OwnH w lo hi A c s) (hn : n = s.length) (hy : fr.ev y = some (.int .i64 M)) (hM : M = (m : Int)) (hm : 0 < m) (hlen : s.length + m ≤ 4000000000) (hB : lo ≤ w.heap.size)
  (h : ∀ A' c' w', OwnH w' lo w'.heap.size A' c' (s ++ List.replicate m 0) → Grew w w' 5 (blk A) → Below lo w w' → WL Tryz.prog fn F N ks ops tg.tail l ((d, .slice A' (s ++ List.replicate m 0).length c') :: fr) w')
  (ht : tg.loud = true := by rfl) (hg : onG ops fr gd = true := by rfl) (hd : Nat.blt d N = true := by rfl) (hq : tg.calm = false ∨ blk A = none ∨ blk A = tg.row := by exact .inl rfl) :
  WL Tryz.prog fn F N ks ops tg (⟨some d, .call { callee := .builtin .append, args := #[x, y], argTypes := #[35, 3] }, ty, pos, aft, gd⟩ :: l) fr w :=
 wl_appZs Tryz.u8 Tryz.underlying3 Tryz.underlying9 m hx hown hn hy hM hm hlen hB h ht hg hd hq
end
set_option maxHeartbeats 800000 in
theorem C_refPad {A : Option Addr} {b r : By} {n c : Nat} (w : World) (hp : Rd w A b) (hr : padU b = r) (hn : n = b.length) (hbl : b.length ≤ 200000) :
  CallsR Tryz.prog 129 [.slice A n c] w fun v w' => ∃ A' c', v = .slice A' r.length c' ∧ OwnH w' w.heap.size w'.heap.size A' c' r ∧ Below w.heap.size w w' := by
 subst hn
 obtain ⟨zn, hz⟩ : ∃ zn, zeros b.length = zn := ⟨_, rfl⟩
 have hzd := hz
 unfold zeros at hzd
 refine callsR Tryz.func129 rfl rfl (by kernel_rfl) rfl ?_
 have hw := Below.refl w.heap.size w
 refine zs (za rfl (wl_nil (zs ?_)))
 refine wl_litB [] Tryz.u8 Tryz.sizeOf5 Tryz.zeroValue5 (by rfl) rfl rfl (by rfl) (by rfl) (by rfl) ?_
 rintro A6 w6 f6 b6
 have qf6 := f6.cap
 have s6 := b6.size
 replace hw := hw.trans (b6.mono hw.size)
 refine zm rfl ?_
 refine wl_appB Tryz.u8 rfl f6 (by rfl) rfl (hp.u hw) rfl (by omega) hw.size ?_
 rintro A8 c8 w8 f8 g8 b8 i8
 have qf8 := f8.cap
 have s8 := g8.size
 replace hw := hw.trans (b8.mono (by omega))
 clear f6
 refine wl_litB [128] Tryz.u8 Tryz.sizeOf5 Tryz.zeroValue5 (by rfl) rfl rfl (by rfl) (by rfl) (by rfl) ?_
 rintro A9 w9 f9 b9
 have qf9 := f9.cap
 have s9 := b9.size
 replace hw := hw.trans (b9.mono hw.size)
 replace f8 := f8.u b9
 refine wl_appB Tryz.u8 rfl f8 rfl rfl f9.to_Rd (by rfl) (by simp; omega) hw.size ?_
 rintro A10 c10 w10 f10 g10 b10 i10
 have qf10 := f10.cap
 have s10 := g10.size
 replace hw := hw.trans (b10.mono (by omega))
 replace f9 := f9.k g10.g (f8.ap (by omega))
 clear f8
 refine za rfl (wl_nil (rk_seq (rk_block ?_)))
 rw [List.nil_append] at f10 ⊢
 refine rk_joinf (fun fb fr w4 => ∃ A' c' bs, fr = [(3, .slice A' bs.length c')] ++ fb.drop 1 ∧ bs = b ++ [128] ++ List.replicate zn 0 ∧ OwnH w4 w.heap.size w4.heap.size A' c' bs ∧ Below w.heap.size w w4) ?_ (fun ks hj => ?_)
 rotate_left
 ·refine rk_loopf (fun fb m fr w4 => ∃ (i : Nat) (A' : Option Addr) (bs : By) (c' : Nat), fr = [(3, .slice A' bs.length c')] ++ fb.drop 1 ∧ i ≤ zn ∧ m = zn - i ∧ bs = b ++ [128] ++ List.replicate i 0 ∧ OwnH w4 w.heap.size w4.heap.size A' c' bs ∧ Below w.heap.size w w4) (n := zn) (Fr.le_of (by kernel_rfl) (by kernel_rfl) (by repeat' constructor)) ⟨0, A10, _, _, rfl, by omega, rfl, by rw [List.replicate_zero, List.append_nil], f10.base (by omega) (Nat.le_refl _), hw⟩ ?_
  clear hw f10
  rintro m fr w4 ⟨i, A', bs, c', rfl, hi, rfl, hbs, fo, hw⟩
  have shw4 := hw.size
  have hbl4 : bs.length = b.length + 1 + i := by rw [hbs, List.length_append, List.length_append, List.length_replicate, List.length_singleton]
  first | refine zf ?_ | refine zg ?_
  refine rk_seq (zs (zm rfl ?_))
  refine zp (o_len (t := 35) Tryz.underlying35 rfl) ?_
  refine zp (o_rem rfl rfl (by omega) (by omega)) ?_
  refine zp (o_ne rfl rfl) ?_
  refine wl_nil ?_
  refine rk_if rfl (fun h14 => ?_) (fun h14 => ?_)
  ·refine rk_skip ?_
   refine rk_block (rk_region (zm rfl ?_))
   refine wl_litB [0] Tryz.u8 Tryz.sizeOf5 Tryz.zeroValue5 (by rfl) rfl rfl (by rfl) (by rfl) (by rfl) ?_
   rintro A16 w16 f16 b16
   have qf16 := f16.cap
   have s16 := b16.size
   replace hw := hw.trans (b16.mono hw.size)
   replace fo := fo.u b16
   refine wl_appB Tryz.u8 rfl fo rfl rfl f16.to_Rd (by rfl) (by omega) hw.size ?_
   rintro A17 c17 w17 f17 g17 b17 i17
   have qf17 := f17.cap
   have s17 := g17.size
   replace hw := hw.trans (b17.mono (by omega))
   replace f16 := f16.k g17.g (fo.ap (by omega))
   clear fo
   refine za rfl (wl_nil ?_)
   refine rk_blk ?_
   exact rk_againf (Fr.le_of (by kernel_rfl) (by kernel_rfl) (by repeat' constructor)) ⟨i + 1, _, _, _, rfl, by omega, rfl, by rw [hbs, List.replicate_succ', List.append_assoc (b ++ [128])], f17, hw⟩ (by omega)
  ·refine rk_exit rfl ?_
   obtain rfl : i = zn := by omega
   exact rk_tof hj (Fr.le_of (by kernel_rfl) (by kernel_rfl) (by repeat' constructor)) ⟨A', c', bs, rfl, hbs, fo, hw⟩
 clear hw f10
 rintro fr w4 ⟨A', c', bs, rfl, hbs, fo, hw⟩
 have shw4 := hw.size
 have hbl4 : bs.length = b.length + 1 + zn := by rw [hbs, List.length_append, List.length_append, List.length_replicate, List.length_singleton]
 obtain ⟨x, hx⟩ : ∃ x, UInt64.ofNat (b.length * 8) = x := ⟨_, rfl⟩
 have hxn : x.toNat = b.length * 8 := by rw [← hx, UInt64.toNat_ofNat_of_lt' (by show b.length * 8 < 18446744073709551616; omega)]
 first | refine zf ?_ | refine zg ?_
 refine zs (zm rfl ?_)
 refine wl_appZx (8) rfl fo rfl rfl (by omega) (by omega) (by omega) hw.size ?_
 rintro A19 c19 w19 f19 g19 b19
 have qf19 := f19.cap
 have s19 := g19.size
 replace hw := hw.trans (b19.mono (by omega))
 clear fo
 refine za rfl (wl_nil (zs (zm rfl ?_)))
 refine zp (o_len (t := 35) Tryz.underlying35 rfl) ?_
 refine zp (o_convu64 (src := 3) (dst := 52) Tryz.underlying3 Tryz.underlying52 rfl (by omega) (by omega)) ?_
 refine zp (o_mulq rfl rfl (by omega) (by omega)) ?_
 refine za rfl (wl_nil (rk_seq (zs (za rfl (wl_nil (rk_block ?_))))))
 rw [show (b.length : Int) * 8 = (x.toNat : Int) by omega]
 obtain ⟨b2, hb2⟩ : ∃ b2, bs ++ List.replicate 8 0 = b2 := ⟨_, rfl⟩
 rw [hb2] at f19 ⊢
 have hb2l : b2.length = bs.length + 8 := by rw [← hb2, List.length_append, List.length_replicate]
 have hrr : r = b2 ++ be8 x := by
  rw [← hr, ← hb2, hbs, ← hz, ← hx]; rfl
 have hbn : (be8 x).length = 8 := be8_len x
 refine rk_joinf (fun fb fr w5 => ∃ A' c', fr = [(3, .slice A' r.length c')] ++ fb.drop 6 ∧ OwnH w5 w.heap.size w5.heap.size A' c' r ∧ Below w.heap.size w w5) ?_ (fun ks hj => ?_)
 rotate_left
 ·refine rk_loopf (fun fb m fr w6 => ∃ (k : Nat) (v : Int) (A' : Option Addr) (bu : By) (c' : Nat), fr = [(5, .int .i64 v), (4, .int .u64 (x.toNat : Int)), (3, .slice A' bu.length c')] ++ fb.drop 6 ∧ v = 7 - (k : Int) ∧ k ≤ 8 ∧ m = 8 - k ∧ bu = b2 ++ (be8 x).take k ∧ OwnH w6 w.heap.size w6.heap.size A' c' bu ∧ Below w.heap.size w w6) (n := 8) (Fr.le_of (by kernel_rfl) (by kernel_rfl) (by repeat' constructor)) ⟨0, _, A19, _, c19, rfl, by omega, by omega, rfl, by rw [List.take_zero, List.append_nil], f19.base (by omega) (Nat.le_refl _), hw⟩ ?_
  clear hw f19
  rintro m fr w6 ⟨k, v, A', bu, c', rfl, rfl, hk, rfl, hbu, fo, hw⟩
  have shw6 := hw.size
  have hbul : bu.length = b2.length + k := by rw [hbu, List.length_append, List.length_take]; omega
  first | refine zf ?_ | refine zg ?_
  refine rk_seq (zs (zm rfl ?_))
  refine zp (o_ge rfl rfl) ?_
  refine wl_nil ?_
  refine rk_if rfl (fun h25 => ?_) (fun h25 => ?_)
  ·refine rk_skip ?_
   refine rk_seq (rk_block (rk_region (zm rfl (zm rfl (zm rfl ?_)))))
   refine zp (o_mul rfl rfl (by omega) (by omega)) ?_
   refine zp (o_convu64 (src := 3) (dst := 151) Tryz.underlying3 Tryz.underlying151 rfl (by omega) (by omega)) ?_
   refine zp (o_shrU rfl rfl (by omega) (by omega)) ?_
   rw [show (8 * (7 - (k : Int))).toNat = 56 - 8 * k by omega]
   refine zp (o_convU8 (src := 52) (dst := 5) Tryz.underlying52 Tryz.underlying5 rfl) ?_
   refine wl_litB [(shrU x (56 - 8 * k)).toUInt8] Tryz.u8 Tryz.sizeOf5 Tryz.zeroValue5 (by rfl) rfl rfl (by rfl) (by rfl) (by rfl) ?_
   rintro A35 w35 f35 b35
   have qf35 := f35.cap
   have s35 := b35.size
   replace hw := hw.trans (b35.mono hw.size)
   replace fo := fo.u b35
   refine wl_appB Tryz.u8 rfl fo rfl rfl f35.to_Rd (by rfl) (by omega) hw.size ?_
   rintro A36 c36 w36 f36 g36 b36 i36
   have qf36 := f36.cap
   have s36 := g36.size
   replace hw := hw.trans (b36.mono (by omega))
   replace f35 := f35.k g36.g (fo.ap (by omega))
   clear fo
   refine za rfl (wl_nil ?_)
   refine rk_blk ?_
   refine rk_region (zm rfl ?_)
   refine zp (o_sub rfl rfl (by omega) (by omega)) ?_
   refine za rfl (wl_nil ?_)
   exact rk_againf (Fr.le_of (by kernel_rfl) (by kernel_rfl) (by repeat' constructor)) ⟨k + 1, 7 - (k : Int) - 1, _, _, _, rfl, by omega, by omega, rfl, by rw [hbu, List.take_succ_eq_append_getElem (by omega), be8_get, List.append_assoc], f36, hw⟩ (by omega)
  ·refine rk_exit rfl ?_
   obtain rfl : k = 8 := by omega
   rw [List.take_of_length_le (by omega), ← hrr] at hbu
   subst hbu
   exact rk_tof hj (Fr.le_of (by kernel_rfl) (by kernel_rfl) (by repeat' constructor)) ⟨A', c', rfl, fo, hw⟩
 clear hw f19
 rintro fr w5 ⟨A', c', rfl, fo, hw⟩
 have shw5 := hw.size
 first | refine zf ?_ | refine zg ?_
 refine zs (zm rfl (za rfl (wl_nil ?_)))
 refine ret1 rfl rfl ?_
 exact ⟨A', c', rfl, fo, hw⟩
end Go.Proofs.YtnnhenafhalobaaGreat
namespace Go.Proofs.YtnnhenafhalobaaGreat
set_option maxRecDepth 100000
open Go.RowKit
def wsAt (p : By) (n : Nat) (q : List UInt64) : Prop := (n ≤ 16 ∧ q = ws80 p (8 * n)) ∨ (16 ≤ n ∧ q = wx p (n - 16) ++ List.replicate (64 - (n - 16)) 0)
theorem wsAt_len {p : By} {n : Nat} {q : List UInt64} (hn : n ≤ 80) (h : wsAt p n q) : q.length = 80 := by
 rcases h with ⟨_, rfl⟩ | ⟨h1, rfl⟩
 ·exact ws80_len p _
 ·rw [List.length_append, wx_len, List.length_replicate]; omega
theorem wsAt_low {p : By} {n : Nat} {q : List UInt64} (hp : p.length = 128) (h : wsAt p n q) (hn : n < 16) : q = ws80 p (8 * n) := by
 rcases h with ⟨_, h⟩ | ⟨h1, h⟩
 ·exact h
 ·omega
theorem wsAt_high {p : By} {n : Nat} {q : List UInt64} (hp : p.length = 128) (h : wsAt p (n + 16) q) : q = wx p n ++ List.replicate (64 - n) 0 := by
 rcases h with ⟨h1, h⟩ | ⟨h1, h⟩
 ·obtain rfl : n = 0 := by omega
  rw [h]; exact wx_start hp
 ·rw [h, Nat.add_sub_cancel]
theorem list_stOf {l : List UInt64} (hl : l.length = 8) : (stOf l).list = l := by
 match l, hl with
 | [a, b, c, d, e, f, g, h], _ => rfl
theorem zip_comm (l m : List UInt64) : List.zipWith (· + ·) l m = List.zipWith (· + ·) m l := by
 rw [List.zipWith_comm]; congr 1; funext a b; exact UInt64.add_comm _ _
set_option maxHeartbeats 4000000 in
set_option maxRecDepth 100000 in
theorem C_refpiece {l : List UInt64} {A : Option Addr} {p : By} {r : List UInt64} {n c : Nat} (w : World) (hpr : Rd w A p) (hr : pieceU l p = r) (hl : l.length = 8) (hp : p.length = 128) (hn : n = p.length) :
  CallsR Tryz.prog 130 [.agg (vU l).toArray, .slice A n c] w fun v w' => v = .agg (vU r).toArray ∧ Below w.heap.size w w' := by
 subst hn
 have hr8 : r.length = 8 := by rw [← hr]; exact pieceU_len p hl
 obtain ⟨W, hW⟩ : ∃ W, wx p 64 = W := ⟨_, rfl⟩
 have hW8 : W.length = 80 := by rw [← hW, wx_len]
 obtain ⟨kl, hkl⟩ : ∃ kl, Kl = kl := ⟨_, rfl⟩
 have hK8 : kl.length = 80 := by rw [← hkl]; rfl
 obtain ⟨s0, hs0⟩ : ∃ s0, stOf l = s0 := ⟨_, rfl⟩
 obtain ⟨R, hR⟩ : ∃ R, rnds kl W 80 s0 = R := ⟨_, rfl⟩
 have hrr : r = List.zipWith (· + ·) l R.list := by
  rw [← hr, ← hR, ← hkl, ← hW, ← hs0]; rfl
 refine callsR Tryz.func130 rfl rfl (by kernel_rfl) rfl ?_
 have hw := Below.refl w.heap.size w
 refine zs ?_
 refine wl_boxg _ rfl (by rfl) ?_
 rintro g2 w2 f2 b2 i2 i2_1
 have s2 := b2.size
 replace hw := hw.trans (b2.mono hw.size)
 refine wl_allocU Tryz.underlying141 Tryz.zeroValue141 (by rfl) ?_
 rintro g4 w4 f4 b4 i4 i4_1
 have s4 := b4.size
 replace hw := hw.trans (b4.mono hw.size)
 replace f2 := f2.u b4
 refine wl_nil (zs ?_)
 refine wl_call rfl (C_refK _ hkl) ?_
 rintro v18 w18 ⟨rfl, b18⟩
 have s18 := b18.size
 replace hw := hw.trans (b18.mono hw.size)
 replace f2 := f2.u b18
 replace f4 := f4.u b18
 refine wl_allocstU (q := kl) Tryz.underlying178 zv80 rfl (by first | exact Tryz.sizeOf178 | kernel_rfl) (fun _ => rfl) hK8 ?_
 rintro g5 w5 f b5 i5 j5
 have sb5 := b5.size
 replace hw := hw.trans (b5.mono hw.size)
 replace f4 := f4.u b5
 replace f2 := f2.u b5
 refine wl_nil (zs ?_)
 refine wl_allocU Tryz.underlying178 Tryz.zeroValue178 (by rfl) ?_
 rintro g6 w6 f6 b6 i6 i6_1
 have s6 := b6.size
 replace hw := hw.trans (b6.mono hw.size)
 replace f2 := f2.u b6
 replace f4 := f4.u b6
 replace f := f.u b6
 refine wl_nil (rk_seq (zs (za rfl (wl_nil (rk_block ?_)))))
 refine rk_joinf (fun fb fr w5 => fr = [] ++ fb.drop 1 ∧ Blk w5 g6 178 (vU W) ∧ Blk w5 g5 178 (vU kl) ∧ Blk w5 g2 141 (vU l) ∧ Blk w5 g4 141 (vU (List.replicate 8 0)) ∧ w6.heap.size ≤ w5.heap.size ∧ Below w.heap.size w w5) ?_ (fun ks hj => ?_)
 rotate_left
 ·refine rk_loopf (fun fb m fr w5 => ∃ (n : Nat) (v : Int) (q : List UInt64), fr = [(7, .int .i64 v)] ++ fb.drop 1 ∧ v = n ∧ n ≤ 80 ∧ m = 80 - n ∧ wsAt p n q ∧ Blk w5 g6 178 (vU q) ∧ Blk w5 g5 178 (vU kl) ∧ Blk w5 g2 141 (vU l) ∧ Blk w5 g4 141 (vU (List.replicate 8 0)) ∧ w6.heap.size ≤ w5.heap.size ∧ Below w.heap.size w w5) (n := 80) (Fr.le_of (by kernel_rfl) (by kernel_rfl) (by repeat' constructor)) ⟨0, _, _, rfl, rfl, by omega, rfl, .inl ⟨by omega, (ws80_zero p).symm⟩, f6, f, f2, f4, Nat.le_refl _, hw⟩ ?_
  clear hw f6 f f2 f4
  rintro m fr w5 ⟨n, v, q, rfl, rfl, hn, rfl, hq, f6, f, f2, f4, hsz, hw⟩
  have shw := hw.size
  have hql := wsAt_len hn hq
  first | refine zf ?_ | refine zg ?_
  refine rk_seq (zs (zm rfl ?_))
  refine zp (o_lt rfl rfl) ?_
  refine wl_nil ?_
  refine rk_if rfl (fun h20 => ?_) (fun h20 => ?_)
  ·refine rk_skip ?_
   refine rk_seq (rk_block (rk_seq (zs (zm rfl ?_))))
   refine zp (o_lt rfl rfl) ?_
   refine wl_nil ?_
   refine rk_if rfl (fun h24 => ?_) (fun h24 => ?_)
   ·have hq8 := wsAt_low hp hq (by omega)
    refine rk_seq (zs (za rfl (wl_nil (rk_block ?_))))
    refine rk_joinf (fun fb fr w7 => fr = [] ++ fb.drop 1 ∧ Blk w7 g6 178 (vU (ws80 p (8 * (n + 1)))) ∧ Blk w7 g5 178 (vU kl) ∧ Blk w7 g2 141 (vU l) ∧ Blk w7 g4 141 (vU (List.replicate 8 0)) ∧ w6.heap.size ≤ w7.heap.size ∧ Below w.heap.size w w7) ?_ (fun ks2 hj2 => ?_)
    rotate_left
    ·refine rk_loopf (fun fb m fr w7 => ∃ (i : Nat) (v : Int) (q2 : List UInt64), fr = [(8, .int .i64 v)] ++ fb.drop 1 ∧ v = i ∧ i ≤ 8 ∧ m = 8 - i ∧ q2 = ws80 p (8 * n + i) ∧ Blk w7 g6 178 (vU q2) ∧ Blk w7 g5 178 (vU kl) ∧ Blk w7 g2 141 (vU l) ∧ Blk w7 g4 141 (vU (List.replicate 8 0)) ∧ w6.heap.size ≤ w7.heap.size ∧ Below w.heap.size w w7) (n := 8) (Fr.le_of (by kernel_rfl) (by kernel_rfl) (by repeat' constructor)) ⟨0, _, q, rfl, rfl, by omega, rfl, hq8, f6, f, f2, f4, hsz, hw⟩ ?_
     clear hw f6 f f2 f4
     rintro m fr w7 ⟨i, v, q2, rfl, rfl, hi, rfl, hq2, f6, f, f2, f4, hsz7, hw⟩
     have shw7 := hw.size
     have hq2l : q2.length = 80 := by rw [hq2]; exact ws80_len _ _
     first | refine zf ?_ | refine zg ?_
     refine rk_seq (zs (zm rfl ?_))
     refine zp (o_lt rfl rfl) ?_
     refine wl_nil ?_
     refine rk_if rfl (fun h26 => ?_) (fun h26 => ?_)
     ·have hil : 8 * n + i < p.length := by omega
      have hnx := ws80_next hil (by rw [ws80_len]; omega)
      refine rk_skip (rk_seq (rk_block ?_))
      refine rk_draw (id := 10) (none) [0, 0, 2, 4, 8, 0, 0, 64, 0, 384, 544, 1024, 2048, 4112, 16383, 32767] [0, 0, 2, 6, 14, 0, 0, 64, 0, 448, 992, 2016, 4064, 8190, 16383, 32767] 32768 0 [(.p, 0), (.p, 1), (.p, 2), (.r, 3), (.p, 4), (.p, 5), (.p, 6), (.p, 7), (.p, 8), (.p, 9), (.p, 10), (.r, 11), (.p, 12), (.p, 13), (.p, 14), (.l, 15)] (by kernel_rfl) (by kernel_rfl) (by kernel_rfl) (by kernel_rfl) (by kernel_rfl) ?_
      replace hw := hw.drew
      replace f4 := f4.d
      replace f2 := f2.d
      replace f := f.d
      replace f6 := f6.d
      refine zm rfl (zm rfl ?_)
      refine zp (o_iaddrP (n) Tryz.underlying178 Tryz.sizeOf52 rfl rfl rfl (by omega)) ?_
      refine wl_r (o_ldU Tryz.isAgg52 rfl f6 (by omega)) ?_
      refine zp (o_shlU rfl rfl (by omega) (by omega)) ?_
      refine zm rfl (zm rfl ?_)
      refine zp (o_mul rfl rfl (by omega) (by omega)) ?_
      refine zm rfl ?_
      refine zp (o_add rfl rfl (by omega) (by omega)) ?_
      refine zp (o_iaddrA1 (8 * n + i) Tryz.underlying35 Tryz.sizeOf5 rfl rfl (by omega) (Reads.some_ hpr.to_Reads (by decide) (by omega)) (by omega)) ?_
      refine wl_r (o_loadB Tryz.isAgg5 rfl (hpr.u hw) (by omega)) ?_
      refine zp (o_conv8U (src := 5) (dst := 52) Tryz.underlying5 Tryz.underlying52 rfl) ?_
      refine zp (o_orU rfl rfl) ?_
      refine zp (o_iaddrP (n) Tryz.underlying178 Tryz.sizeOf52 rfl rfl rfl (by omega)) ?_
      refine wl_stU Tryz.sizeOf52 rfl f6 rfl (by omega) ?_
      rintro w_1 f_1 g e
      simp only [drew_size] at e
      have s := g.size
      simp only [drew_size] at s
      replace hw := hw.trans (below_of_grownBy g.g hw.size (by omega))
      replace f := f.k g.g (ap_some (by omega))
      replace f2 := f2.k g.g (ap_some (by omega))
      replace f4 := f4.k g.g (ap_some (by omega))
      clear f6
      refine wl_nild ?_
      refine rk_blk ?_
      refine rk_region (zm rfl ?_)
      refine zp (o_add rfl rfl (by omega) (by omega)) ?_
      refine za rfl (wl_nil ?_)
      exact rk_againf (Fr.le_of (by kernel_rfl) (by kernel_rfl) (by repeat' constructor)) ⟨i + 1, (i : Int) + 1, _, rfl, by omega, by omega, rfl, by
       subst hq2
       have e : (8 * n + i) / 8 = n := by omega
       simp only [e] at hnx
       rw [show 8 * n + (i + 1) = 8 * n + i + 1 by omega]
       exact hnx, f_1, f, f2, f4, by omega, hw⟩ (by omega)
     ·refine rk_exit rfl ?_
      obtain rfl : i = 8 := by omega
      rw [hq2] at f6
      exact rk_tof hj2 (Fr.le_of (by kernel_rfl) (by kernel_rfl) (by repeat' constructor)) ⟨rfl, f6, f, f2, f4, hsz7, hw⟩
    clear hw f6 f f2 f4
    rintro fr w7 ⟨rfl, f6, f, f2, f4, hsz7, hw⟩
    have shw7 := hw.size
    first | refine zf ?_ | refine zg ?_
    refine rk_exit rfl ?_
    refine rk_region (zm rfl ?_)
    refine zp (o_add rfl rfl (by omega) (by omega)) ?_
    refine za rfl (wl_nil ?_)
    exact rk_againf (Fr.le_of (by kernel_rfl) (by kernel_rfl) (by repeat' constructor)) ⟨n + 1, (n : Int) + 1, _, rfl, by omega, by omega, rfl, .inl ⟨by omega, rfl⟩, f6, f, f2, f4, hsz7, hw⟩ (by omega)
   ·obtain ⟨k, rfl⟩ : ∃ k, n = k + 16 := ⟨n - 16, by omega⟩
    have hq3 := wsAt_high hp hq
    have hkq : k + 16 - 16 < q.length := by omega
    have hkq2 : k + 16 - 7 < q.length := by omega
    refine rk_skip (rk_seq ?_)
    refine rk_draw (id := 11) (none) [0, 1, 2, 4, 0, 16, 32, 64, 15, 511] [0, 1, 3, 7, 0, 16, 48, 112, 15, 511] 0 0 [(.p, 0), (.p, 1), (.p, 2), (.r, 3), (.p, 4), (.p, 5), (.p, 6), (.r, 7), (.p, 8), (.p, 9)] (by kernel_rfl) (by kernel_rfl) (by kernel_rfl) (by kernel_rfl) (by kernel_rfl) ?_
    replace hw := hw.drew
    replace f4 := f4.d
    replace f2 := f2.d
    replace f := f.d
    replace f6 := f6.d
    refine zm rfl ?_
    refine zp (o_sub rfl rfl (by omega) (by omega)) ?_
    refine zp (o_iaddrP (k + 16 - 15) Tryz.underlying178 Tryz.sizeOf52 rfl rfl (by omega) (by omega)) ?_
    refine wl_r (o_ldU Tryz.isAgg52 rfl f6 (by omega)) ?_
    refine zm rfl ?_
    refine zp (o_sub rfl rfl (by omega) (by omega)) ?_
    refine zp (o_iaddrP (k + 16 - 2) Tryz.underlying178 Tryz.sizeOf52 rfl rfl (by omega) (by omega)) ?_
    refine wl_r (o_ldU Tryz.isAgg52 rfl f6 (by omega)) ?_
    refine za rfl (za rfl ?_)
    refine wl_nild ?_
    refine rk_drawo (id := 12) (none) [0, 0, 2, 4, 8, 0, 32, 0, 192, 320, 0, 1024, 2560, 4112, 0, 16384, 32768, 65536, 139264, 0, 524544, 0, 3145728, 5242880, 0, 16777216, 41943040, 67371008, 268435455, 536870911] [0, 0, 2, 6, 14, 0, 32, 0, 224, 480, 0, 1024, 4064, 8190, 0, 16384, 49152, 114688, 262142, 0, 524768, 0, 3670496, 7864800, 0, 16777216, 66585056, 134217726, 268435455, 536870911] 542114112 5243200 [0, 1, 2, 3, 4, 5, 7, 10, 11, 14, 15, 16, 17, 19, 21, 24, 25, 6, 8, 9, 12, 13, 18, 20, 22, 23, 26, 27, 28, 29] [(.p, 0), (.p, 1), (.p, 2), (.p, 3), (.s, 4), (.p, 5), (.p, 7), (.p, 10), (.p, 11), (.p, 14), (.p, 15), (.p, 16), (.s, 17), (.p, 19), (.p, 21), (.p, 24), (.p, 25), (.c, 6), (.c, 8), (.p, 9), (.p, 12), (.p, 13), (.p, 18), (.c, 20), (.c, 22), (.p, 23), (.p, 26), (.p, 27), (.p, 28), (.l, 29)] (by kernel_rfl) (by kernel_rfl) (by kernel_rfl) (by kernel_rfl) (by kernel_rfl) ?_
    dsimp only [inOrder, nthOp]
    replace hw := hw.drew
    replace f6 := f6.d
    replace f := f.d
    replace f2 := f2.d
    replace f4 := f4.d
    refine zm rfl (zm rfl ?_)
    refine zp (o_sub rfl rfl (by omega) (by omega)) ?_
    refine zp (o_iaddrP (k + 16 - 16) Tryz.underlying178 Tryz.sizeOf52 rfl rfl (by omega) (by omega)) ?_
    refine wl_s (fun _ hk => (o_ldU Tryz.isAgg52 rfl (f6.u (below_of_grown_none hk)) hkq)) ?_
    refine zm rfl (zm rfl (zm rfl ?_))
    refine zp (o_shrU rfl rfl (by omega) (by omega)) ?_
    refine zm rfl ?_
    refine zp (o_sub rfl rfl (by omega) (by omega)) ?_
    refine zp (o_iaddrP (k + 16 - 7) Tryz.underlying178 Tryz.sizeOf52 rfl rfl (by omega) (by omega)) ?_
    refine wl_s (fun _ hk => (o_ldU Tryz.isAgg52 rfl (f6.u (below_of_grown_none hk)) hkq2)) ?_
    refine zm rfl (zm rfl (zm rfl ?_))
    refine zp (o_shrU rfl rfl (by omega) (by omega)) ?_
    refine wl_call rfl (C_refrot _ (by omega) (by omega)) ?_ (hq := .inr fun _ _ h => grown_of_below h.2 _)
    rintro v58 w58 ⟨rfl, b58⟩
    simp only [drew_size] at b58
    have s58 := b58.size
    simp only [drew_size] at s58
    replace hw := hw.trans (b58.mono hw.size)
    replace f4 := f4.u b58
    replace f2 := f2.u b58
    replace f := f.u b58
    replace f6 := f6.u b58
    refine wl_call rfl (C_refrot _ (by omega) (by omega)) ?_ (hq := .inr fun _ _ h => grown_of_below h.2 _)
    rintro v60 w60 ⟨rfl, b60⟩
    have s60 := b60.size
    replace hw := hw.trans (b60.mono hw.size)
    replace f6 := f6.u b60
    replace f := f.u b60
    replace f2 := f2.u b60
    replace f4 := f4.u b60
    refine zp (o_xorU rfl rfl) ?_
    refine zp (o_xorU rfl rfl) ?_
    refine zp (o_addU rfl rfl) ?_
    refine zp (o_addU rfl rfl) ?_
    refine wl_call rfl (C_refrot _ (by omega) (by omega)) ?_ (hq := .inr fun _ _ h => grown_of_below h.2 _)
    rintro v72 w72 ⟨rfl, b72⟩
    have s72 := b72.size
    replace hw := hw.trans (b72.mono hw.size)
    replace f4 := f4.u b72
    replace f2 := f2.u b72
    replace f := f.u b72
    replace f6 := f6.u b72
    refine wl_call rfl (C_refrot _ (by omega) (by omega)) ?_ (hq := .inr fun _ _ h => grown_of_below h.2 _)
    rintro v74 w74 ⟨rfl, b74⟩
    have s74 := b74.size
    replace hw := hw.trans (b74.mono hw.size)
    replace f6 := f6.u b74
    replace f := f.u b74
    replace f2 := f2.u b74
    replace f4 := f4.u b74
    refine zp (o_xorU rfl rfl) ?_
    refine zp (o_xorU rfl rfl) ?_
    refine zp (o_addU rfl rfl) ?_
    refine zp (o_iaddrP (k + 16) Tryz.underlying178 Tryz.sizeOf52 rfl rfl rfl (by omega)) ?_
    refine wl_stU Tryz.sizeOf52 rfl f6 rfl (by omega) ?_
    rintro w_1 f_1 g e
    have s := g.size
    replace hw := hw.trans (below_of_grownBy g.g hw.size (by omega))
    replace f4 := f4.k g.g (ap_some (by omega))
    replace f2 := f2.k g.g (ap_some (by omega))
    replace f := f.k g.g (ap_some (by omega))
    clear f6
    refine wl_nild ?_
    refine rk_blk ?_
    refine rk_region (zm rfl ?_)
    refine zp (o_add rfl rfl (by omega) (by omega)) ?_
    refine za rfl (wl_nil ?_)
    exact rk_againf (Fr.le_of (by kernel_rfl) (by kernel_rfl) (by repeat' constructor)) ⟨k + 16 + 1, ((k + 16 : Nat) : Int) + 1, _, rfl, by omega, by omega, rfl, .inr ⟨by omega, by
     rw [show k + 16 + 1 - 16 = k + 1 by omega]
     exact sched_next (by omega) hq3 hkq (by omega) hkq2 (by omega)⟩, f_1, f, f2, f4, by omega, hw⟩ (by omega)
  ·refine rk_exit rfl ?_
   obtain rfl : n = 80 := by omega
   have hqW := wsAt_high (n := 64) hp hq
   rw [hqW, hW, Nat.sub_self, List.replicate_zero, List.append_nil] at f6
   exact rk_tof hj (Fr.le_of (by kernel_rfl) (by kernel_rfl) (by repeat' constructor)) ⟨rfl, f6, f, f2, f4, hsz, hw⟩
 clear hw f6 f f2 f4
 rintro fr w5 ⟨rfl, f6, f, f2, f4, hsz, hw⟩
 have shw := hw.size
 first | refine zf ?_ | refine zg ?_
 refine zs ?_
 refine wl_r (o_ldUa Tryz.isAgg141 Tryz.sizeOf141 rfl f2 hl) ?_
 refine wl_allocU Tryz.underlying141 Tryz.zeroValue141 (by rfl) ?_
 rintro g11 w11 f11 b11 i11 i11_1
 have sb11 := b11.size
 replace hw := hw.trans (b11.mono hw.size)
 replace f4 := f4.u b11
 replace f2 := f2.u b11
 replace f := f.u b11
 replace f6 := f6.u b11
 refine wl_stUa Tryz.sizeOf141 rfl f11 rfl hl (by rfl) ?_
 rintro w_1 f_1 g e
 have s := g.size
 replace hw := hw.trans (below_of_grownBy g.g hw.size (by omega))
 replace f6 := f6.k g.g (ap_some (by omega))
 replace f := f.k g.g (ap_some (by omega))
 replace f2 := f2.k g.g (ap_some (by omega))
 replace f4 := f4.k g.g (ap_some (by omega))
 clear f11
 refine wl_nil (rk_seq (zs (za rfl (wl_nil (rk_block ?_)))))
 refine rk_joinf (fun fb fr w7 => ∃ sl, fr = [] ++ fb.drop 1 ∧ sl.length = 8 ∧ stOf sl = R ∧ Blk w7 g11 141 (vU sl) ∧ Blk w7 g6 178 (vU W) ∧ Blk w7 g5 178 (vU kl) ∧ Blk w7 g2 141 (vU l) ∧ Blk w7 g4 141 (vU (List.replicate 8 0)) ∧ w_1.heap.size ≤ w7.heap.size ∧ Below w.heap.size w w7) ?_ (fun ks hj => ?_)
 rotate_left
 ·refine rk_loopf (fun fb m fr w7 => ∃ (i : Nat) (v : Int) (sl : List UInt64), fr = [(12, .int .i64 v)] ++ fb.drop 1 ∧ v = i ∧ i ≤ 80 ∧ m = 80 - i ∧ sl.length = 8 ∧ stOf sl = rnds kl W i s0 ∧ Blk w7 g11 141 (vU sl) ∧ Blk w7 g6 178 (vU W) ∧ Blk w7 g5 178 (vU kl) ∧ Blk w7 g2 141 (vU l) ∧ Blk w7 g4 141 (vU (List.replicate 8 0)) ∧ w_1.heap.size ≤ w7.heap.size ∧ Below w.heap.size w w7) (n := 80) (Fr.le_of (by kernel_rfl) (by kernel_rfl) (by repeat' constructor)) ⟨0, _, l, rfl, rfl, by omega, rfl, hl, hs0, f_1, f6, f, f2, f4, Nat.le_refl _, hw⟩ ?_
  clear hw f_1 f6 f f2 f4
  rintro m fr w7 ⟨i, v, sl, rfl, rfl, hi, rfl, hsl, hss, f11, f6, f, f2, f4, hsz7, hw⟩
  have shw7 := hw.size
  first | refine zf ?_ | refine zg ?_
  refine rk_seq (zs (zm rfl ?_))
  refine zp (o_lt rfl rfl) ?_
  refine wl_nil ?_
  refine rk_if rfl (fun h83 => ?_) (fun h83 => ?_)
  ·have hik : i < kl.length := by omega
   have hiW : i < W.length := by omega
   have hnx := rnds_next hss.symm.symm hik hiW
   have h1 : 1 < sl.length := by omega
   have h2 : 2 < sl.length := by omega
   have h5 : 5 < sl.length := by omega
   have h6 : 6 < sl.length := by omega
   have h7 : 7 < sl.length := by omega
   refine rk_skip (rk_seq (rk_block (rk_seq ?_)))
   refine rk_draw (id := 17) (none) [0, 1, 0, 4, 3, 31] [0, 1, 0, 4, 3, 31] 0 0 [(.p, 0), (.r, 1), (.p, 2), (.r, 3), (.p, 4), (.p, 5)] (by kernel_rfl) (by kernel_rfl) (by kernel_rfl) (by kernel_rfl) (by kernel_rfl) ?_
   replace hw := hw.drew
   replace f4 := f4.d
   replace f2 := f2.d
   replace f := f.d
   replace f6 := f6.d
   replace f11 := f11.d
   refine zp (o_iaddrP (0) Tryz.underlying141 Tryz.sizeOf52 rfl rfl (by omega) (by omega)) ?_
   refine wl_r (o_ldU Tryz.isAgg52 rfl f11 (by omega)) ?_
   refine zp (o_iaddrP (4) Tryz.underlying141 Tryz.sizeOf52 rfl rfl (by omega) (by omega)) ?_
   refine wl_r (o_ldU Tryz.isAgg52 rfl f11 (by omega)) ?_
   refine za rfl (za rfl ?_)
   refine wl_nild ?_
   refine rk_seq ?_
   refine rk_drawo (id := 18) (none) [0, 1, 0, 4, 0, 24, 40, 0, 160, 320, 514, 0, 0, 4096, 10240, 0, 32768, 0, 131072, 327680, 540672, 1049600, 0, 4194304, 8388608, 18874368, 0, 67108864, 134217728, 301989888, 1073741823] [0, 1, 0, 4, 0, 28, 60, 0, 188, 508, 1023, 0, 0, 4096, 14336, 0, 32768, 0, 131072, 491520, 1046528, 2097151, 0, 4194304, 12582912, 33554431, 0, 67108864, 201326592, 536870911, 1073741823] 296 296 [0, 1, 2, 4, 7, 11, 12, 13, 14, 15, 16, 17, 18, 19, 20, 22, 23, 24, 26, 27, 28, 3, 5, 6, 8, 9, 10, 21, 25, 29, 30] [(.p, 0), (.s, 1), (.p, 2), (.p, 4), (.p, 7), (.p, 11), (.p, 12), (.s, 13), (.p, 14), (.p, 15), (.p, 16), (.p, 17), (.s, 18), (.p, 19), (.p, 20), (.p, 22), (.p, 23), (.s, 24), (.p, 26), (.p, 27), (.s, 28), (.c, 3), (.c, 5), (.p, 6), (.c, 8), (.p, 9), (.p, 10), (.p, 21), (.p, 25), (.p, 29), (.p, 30)] (by kernel_rfl) (by kernel_rfl) (by kernel_rfl) (by kernel_rfl) (by kernel_rfl) ?_
   dsimp only [inOrder, nthOp]
   replace hw := hw.drew
   replace f11 := f11.d
   replace f6 := f6.d
   replace f := f.d
   replace f2 := f2.d
   replace f4 := f4.d
   refine zp (o_iaddrP (7) Tryz.underlying141 Tryz.sizeOf52 rfl rfl (by omega) (by omega)) ?_
   refine wl_s (fun _ hk => (o_ldU Tryz.isAgg52 rfl (f11.u (below_of_grown_none hk)) h7)) ?_
   refine zm rfl (zm rfl (zm rfl (zm rfl ?_)))
   refine zp (o_iaddrP (5) Tryz.underlying141 Tryz.sizeOf52 rfl rfl (by omega) (by omega)) ?_
   refine wl_s (fun _ hk => (o_ldU Tryz.isAgg52 rfl (f11.u (below_of_grown_none hk)) h5)) ?_
   refine zp (o_andU rfl rfl) ?_
   refine zm rfl ?_
   refine zp (o_notU rfl) ?_
   refine zp (o_iaddrP (6) Tryz.underlying141 Tryz.sizeOf52 rfl rfl (by omega) (by omega)) ?_
   refine wl_s (fun _ hk => (o_ldU Tryz.isAgg52 rfl (f11.u (below_of_grown_none hk)) h6)) ?_
   refine zp (o_andU rfl rfl) ?_
   refine zp (o_xorU rfl rfl) ?_
   refine zm rfl ?_
   refine zp (o_iaddrP (i) Tryz.underlying178 Tryz.sizeOf52 rfl rfl rfl (by omega)) ?_
   refine wl_s (fun _ hk => (o_ldU Tryz.isAgg52 rfl (f.u (below_of_grown_none hk)) hik)) ?_
   refine zm rfl ?_
   refine zp (o_iaddrP (i) Tryz.underlying178 Tryz.sizeOf52 rfl rfl rfl (by omega)) ?_
   refine wl_s (fun _ hk => (o_ldU Tryz.isAgg52 rfl (f6.u (below_of_grown_none hk)) hiW)) ?_
   refine wl_call rfl (C_refrot _ (by omega) (by omega)) ?_ (hq := .inr fun _ _ h => grown_of_below h.2 _)
   rintro v93 w93 ⟨rfl, b93⟩
   simp only [drew_size] at b93
   have s93 := b93.size
   simp only [drew_size] at s93
   replace hw := hw.trans (b93.mono hw.size)
   replace f4 := f4.u b93
   replace f2 := f2.u b93
   replace f := f.u b93
   replace f6 := f6.u b93
   replace f11 := f11.u b93
   refine wl_call rfl (C_refrot _ (by omega) (by omega)) ?_ (hq := .inr fun _ _ h => grown_of_below h.2 _)
   rintro v95 w95 ⟨rfl, b95⟩
   have s95 := b95.size
   replace hw := hw.trans (b95.mono hw.size)
   replace f11 := f11.u b95
   replace f6 := f6.u b95
   replace f := f.u b95
   replace f2 := f2.u b95
   replace f4 := f4.u b95
   refine zp (o_xorU rfl rfl) ?_
   refine wl_call rfl (C_refrot _ (by omega) (by omega)) ?_ (hq := .inr fun _ _ h => grown_of_below h.2 _)
   rintro v98 w98 ⟨rfl, b98⟩
   have s98 := b98.size
   replace hw := hw.trans (b98.mono hw.size)
   replace f4 := f4.u b98
   replace f2 := f2.u b98
   replace f := f.u b98
   replace f6 := f6.u b98
   replace f11 := f11.u b98
   refine zp (o_xorU rfl rfl) ?_
   refine zp (o_addU rfl rfl) ?_
   refine zp (o_addU rfl rfl) ?_
   refine zp (o_addU rfl rfl) ?_
   refine zp (o_addU rfl rfl) ?_
   refine za rfl ?_
   obtain ⟨T1, hT1⟩ : ∃ T1, sl[7] + (rotU sl[4] (-14) ^^^ rotU sl[4] (-18) ^^^ rotU sl[4] (-41)) + (sl[4] &&& sl[5] ^^^ ~~~sl[4] &&& sl[6]) + kl[i] + W[i] = T1 := ⟨_, rfl⟩
   rw [hT1]
   refine wl_nild ?_
   refine rk_seq ?_
   refine rk_drawo (id := 19) (none) [0, 1, 0, 6, 10, 0, 40, 80, 0, 0, 512, 1280, 0, 0, 8192, 20480, 34816, 0, 131072, 0, 524288, 1310720, 2162688, 4194432, 16777215] [0, 1, 0, 7, 15, 0, 47, 127, 0, 0, 512, 1792, 0, 0, 8192, 28672, 65280, 0, 131072, 0, 524288, 1966080, 4194048, 8388607, 16777215] 74 74 [0, 2, 5, 8, 9, 10, 11, 12, 13, 14, 15, 16, 17, 18, 19, 20, 21, 22, 1, 3, 4, 6, 7, 23, 24] [(.p, 0), (.p, 2), (.p, 5), (.p, 8), (.p, 9), (.s, 10), (.p, 11), (.p, 12), (.p, 13), (.s, 14), (.p, 15), (.p, 16), (.p, 17), (.s, 18), (.p, 19), (.s, 20), (.p, 21), (.p, 22), (.c, 1), (.c, 3), (.p, 4), (.c, 6), (.p, 7), (.p, 23), (.p, 24)] (by kernel_rfl) (by kernel_rfl) (by kernel_rfl) (by kernel_rfl) (by kernel_rfl) ?_
   dsimp only [inOrder, nthOp]
   replace hw := hw.drew
   replace f11 := f11.d
   replace f6 := f6.d
   replace f := f.d
   replace f2 := f2.d
   replace f4 := f4.d
   refine zm rfl (zm rfl (zm rfl (zm rfl ?_)))
   refine zp (o_iaddrP (1) Tryz.underlying141 Tryz.sizeOf52 rfl rfl (by omega) (by omega)) ?_
   refine wl_s (fun _ hk => (o_ldU Tryz.isAgg52 rfl (f11.u (below_of_grown_none hk)) h1)) ?_
   refine zp (o_andU rfl rfl) ?_
   refine zm rfl ?_
   refine zp (o_iaddrP (2) Tryz.underlying141 Tryz.sizeOf52 rfl rfl (by omega) (by omega)) ?_
   refine wl_s (fun _ hk => (o_ldU Tryz.isAgg52 rfl (f11.u (below_of_grown_none hk)) h2)) ?_
   refine zp (o_andU rfl rfl) ?_
   refine zp (o_xorU rfl rfl) ?_
   refine zp (o_iaddrP (1) Tryz.underlying141 Tryz.sizeOf52 rfl rfl (by omega) (by omega)) ?_
   refine wl_s (fun _ hk => (o_ldU Tryz.isAgg52 rfl (f11.u (below_of_grown_none hk)) h1)) ?_
   refine zp (o_iaddrP (2) Tryz.underlying141 Tryz.sizeOf52 rfl rfl (by omega) (by omega)) ?_
   refine wl_s (fun _ hk => (o_ldU Tryz.isAgg52 rfl (f11.u (below_of_grown_none hk)) h2)) ?_
   refine zp (o_andU rfl rfl) ?_
   refine zp (o_xorU rfl rfl) ?_
   refine wl_call rfl (C_refrot _ (by omega) (by omega)) ?_ (hq := .inr fun _ _ h => grown_of_below h.2 _)
   rintro v121 w121 ⟨rfl, b121⟩
   simp only [drew_size] at b121
   have s121 := b121.size
   simp only [drew_size] at s121
   replace hw := hw.trans (b121.mono hw.size)
   replace f4 := f4.u b121
   replace f2 := f2.u b121
   replace f := f.u b121
   replace f6 := f6.u b121
   replace f11 := f11.u b121
   refine wl_call rfl (C_refrot _ (by omega) (by omega)) ?_ (hq := .inr fun _ _ h => grown_of_below h.2 _)
   rintro v123 w123 ⟨rfl, b123⟩
   have s123 := b123.size
   replace hw := hw.trans (b123.mono hw.size)
   replace f11 := f11.u b123
   replace f6 := f6.u b123
   replace f := f.u b123
   replace f2 := f2.u b123
   replace f4 := f4.u b123
   refine zp (o_xorU rfl rfl) ?_
   refine wl_call rfl (C_refrot _ (by omega) (by omega)) ?_ (hq := .inr fun _ _ h => grown_of_below h.2 _)
   rintro v126 w126 ⟨rfl, b126⟩
   have s126 := b126.size
   replace hw := hw.trans (b126.mono hw.size)
   replace f4 := f4.u b126
   replace f2 := f2.u b126
   replace f := f.u b126
   replace f6 := f6.u b126
   replace f11 := f11.u b126
   refine zp (o_xorU rfl rfl) ?_
   refine zp (o_addU rfl rfl) ?_
   refine za rfl ?_
   obtain ⟨T2, hT2⟩ : ∃ T2, (rotU sl[0] (-28) ^^^ rotU sl[0] (-34) ^^^ rotU sl[0] (-39)) + (sl[0] &&& sl[1] ^^^ sl[0] &&& sl[2] ^^^ sl[1] &&& sl[2]) = T2 := ⟨_, rfl⟩
   rw [hT2]
   refine wl_nild ?_
   refine rk_region (zm rfl (zm rfl ?_))
   refine zp (o_addU rfl rfl) ?_
   refine zm rfl ?_
   refine zp (o_iaddrP (1) Tryz.underlying141 Tryz.sizeOf52 rfl rfl (by omega) (by omega)) ?_
   refine wl_r (o_ldU Tryz.isAgg52 rfl f11 (by omega)) ?_
   refine zp (o_iaddrP (2) Tryz.underlying141 Tryz.sizeOf52 rfl rfl (by omega) (by omega)) ?_
   refine wl_r (o_ldU Tryz.isAgg52 rfl f11 (by omega)) ?_
   refine zp (o_iaddrP (3) Tryz.underlying141 Tryz.sizeOf52 rfl rfl (by omega) (by omega)) ?_
   refine wl_r (o_ldU Tryz.isAgg52 rfl f11 (by omega)) ?_
   refine zm rfl ?_
   refine zp (o_addU rfl rfl) ?_
   refine zm rfl ?_
   refine zp (o_iaddrP (5) Tryz.underlying141 Tryz.sizeOf52 rfl rfl (by omega) (by omega)) ?_
   refine wl_r (o_ldU Tryz.isAgg52 rfl f11 (by omega)) ?_
   refine zp (o_iaddrP (6) Tryz.underlying141 Tryz.sizeOf52 rfl rfl (by omega) (by omega)) ?_
   refine wl_r (o_ldU Tryz.isAgg52 rfl f11 (by omega)) ?_
   refine zp (o_buildga [_, _, _, _, _, _, _, _] Tryz.underlying141 Tryz.sizeOf52 Tryz.zeroValue141 (by rfl) (by rfl) rfl (by rfl) (by rfl) (fun _ => by kernel_rfl)) ?_
   obtain ⟨nl, hnl⟩ : ∃ nl, [T1 + T2, sl[0], sl[1], sl[2], sl[3] + T1, sl[4], sl[5], sl[6]] = nl := ⟨_, rfl⟩
   have hn8 : nl.length = 8 := by rw [← hnl]; rfl
   have hns : stOf nl = rnds kl W (i + 1) s0 := by rw [← hnx, stOf_eq hsl, ← hnl, ← hT1, ← hT2]; rfl
   rw [show (#[Value.int .u64 ((T1 + T2).toNat : Int), Value.int .u64 (sl[0].toNat : Int), Value.int .u64 (sl[1].toNat : Int), Value.int .u64 (sl[2].toNat : Int), Value.int .u64 ((sl[3] + T1).toNat : Int), Value.int .u64 (sl[4].toNat : Int), Value.int .u64 (sl[5].toNat : Int), Value.int .u64 (sl[6].toNat : Int)] : Array Value) = (vU nl).toArray from by rw [← hnl]; rfl]
   clear hnl hT1 hT2
   refine wl_stUa Tryz.sizeOf141 rfl f11 rfl hn8 hsl ?_
   rintro w_2 f_1 g_1 e_1
   have s_1 := g_1.size
   replace hw := hw.trans (below_of_grownBy g_1.g hw.size (by omega))
   replace f6 := f6.k g_1.g (ap_some (by omega))
   replace f := f.k g_1.g (ap_some (by omega))
   replace f2 := f2.k g_1.g (ap_some (by omega))
   replace f4 := f4.k g_1.g (ap_some (by omega))
   clear f11
   refine wl_nil ?_
   refine rk_blk ?_
   refine rk_region (zm rfl ?_)
   refine zp (o_add rfl rfl (by omega) (by omega)) ?_
   refine za rfl (wl_nil ?_)
   exact rk_againf (Fr.le_of (by kernel_rfl) (by kernel_rfl) (by repeat' constructor)) ⟨i + 1, (i : Int) + 1, nl, rfl, by omega, by omega, rfl, hn8, hns, f_1, f6, f, f2, f4, by omega, hw⟩ (by omega)
  ·refine rk_exit rfl ?_
   obtain rfl : i = 80 := by omega
   exact rk_tof hj (Fr.le_of (by kernel_rfl) (by kernel_rfl) (by repeat' constructor)) ⟨sl, rfl, hsl, hss.trans hR, f11, f6, f, f2, f4, hsz7, hw⟩
 clear hw f_1 f6 f f2 f4
 rintro fr w7 ⟨sl, rfl, hsl, hss, f11, f6, f, f2, f4, hsz7, hw⟩
 have shw7 := hw.size
 have hRs : R.list = sl := by rw [← hss]; exact list_stOf hsl
 have hrz : r = List.zipWith (· + ·) sl l := by
  rw [hrr, hRs]; exact zip_comm _ _
 first | refine zf ?_ | refine zg ?_
 refine rk_seq (zs (za rfl (wl_nil (rk_block ?_))))
 refine rk_joinf (fun fb fr w8 => fr = [] ++ fb.drop 1 ∧ Blk w8 g11 141 (vU r) ∧ Blk w8 g4 141 (vU (List.replicate 8 0)) ∧ w_1.heap.size ≤ w8.heap.size ∧ Below w.heap.size w w8) ?_ (fun ks hj => ?_)
 rotate_left
 ·refine rk_loopf (fun fb m fr w8 => ∃ (i : Nat) (v : Int) (q : List UInt64), fr = [(17, .int .i64 v)] ++ fb.drop 1 ∧ v = i ∧ i ≤ 8 ∧ m = 8 - i ∧ q = (List.zipWith (· + ·) sl l).take i ++ sl.drop i ∧ Blk w8 g11 141 (vU q) ∧ Blk w8 g2 141 (vU l) ∧ Blk w8 g4 141 (vU (List.replicate 8 0)) ∧ w_1.heap.size ≤ w8.heap.size ∧ Below w.heap.size w w8) (n := 8) (Fr.le_of (by kernel_rfl) (by kernel_rfl) (by repeat' constructor)) ⟨0, _, _, rfl, rfl, by omega, rfl, rfl, f11, f2, f4, by omega, hw⟩ ?_
  clear hw f11 f6 f f2 f4
  rintro m fr w8 ⟨i, v, q, rfl, rfl, hi, rfl, hq, f11, f2, f4, hsz8, hw⟩
  have shw8 := hw.size
  have hql : q.length = 8 := by
   rw [hq, List.length_append, List.length_take, List.length_zipWith, List.length_drop]; omega
  first | refine zf ?_ | refine zg ?_
  refine rk_seq (zs (zm rfl ?_))
  refine zp (o_lt rfl rfl) ?_
  refine wl_nil ?_
  refine rk_if rfl (fun h163 => ?_) (fun h163 => ?_)
  ·have hil : i < l.length := by omega
   refine rk_skip (rk_seq (rk_block ?_))
   refine rk_draw (id := 24) (none) [0, 0, 2, 4, 0, 16, 32, 72, 255, 511] [0, 0, 2, 6, 0, 16, 48, 126, 255, 511] 512 0 [(.p, 0), (.p, 1), (.p, 2), (.r, 3), (.p, 4), (.p, 5), (.r, 6), (.p, 7), (.p, 8), (.l, 9)] (by kernel_rfl) (by kernel_rfl) (by kernel_rfl) (by kernel_rfl) (by kernel_rfl) ?_
   replace hw := hw.drew
   replace f4 := f4.d
   replace f2 := f2.d
   replace f11 := f11.d
   refine zm rfl (zm rfl ?_)
   refine zp (o_iaddrP (i) Tryz.underlying141 Tryz.sizeOf52 rfl rfl rfl (by omega)) ?_
   refine wl_r (o_ldU Tryz.isAgg52 rfl f11 (by omega)) ?_
   refine zm rfl ?_
   refine zp (o_iaddrP (i) Tryz.underlying141 Tryz.sizeOf52 rfl rfl rfl (by omega)) ?_
   refine wl_r (o_ldU Tryz.isAgg52 rfl f2 (by omega)) ?_
   refine zp (o_addU rfl rfl) ?_
   refine zp (o_iaddrP (i) Tryz.underlying141 Tryz.sizeOf52 rfl rfl rfl (by omega)) ?_
   refine wl_stU Tryz.sizeOf52 rfl f11 rfl (by omega) ?_
   rintro w_2 f g_1 e_1
   simp only [drew_size] at e_1
   have s_1 := g_1.size
   simp only [drew_size] at s_1
   replace hw := hw.trans (below_of_grownBy g_1.g hw.size (by omega))
   replace f2 := f2.k g_1.g (ap_some (by omega))
   replace f4 := f4.k g_1.g (ap_some (by omega))
   clear f11
   refine wl_nild ?_
   refine rk_blk ?_
   refine rk_region (zm rfl ?_)
   refine zp (o_add rfl rfl (by omega) (by omega)) ?_
   refine za rfl (wl_nil ?_)
   exact rk_againf (Fr.le_of (by kernel_rfl) (by kernel_rfl) (by repeat' constructor)) ⟨i + 1, (i : Int) + 1, _, rfl, by omega, by omega, rfl, zip_next hq (by omega) (by omega) hil, f, f2, f4, by omega, hw⟩ (by omega)
  ·refine rk_exit rfl ?_
   obtain rfl : i = 8 := by omega
   rw [List.take_of_length_le (by rw [List.length_zipWith]; omega), List.drop_of_length_le (by omega), List.append_nil, ← hrz] at hq
   subst hq
   exact rk_tof hj (Fr.le_of (by kernel_rfl) (by kernel_rfl) (by repeat' constructor)) ⟨rfl, f11, f4, hsz8, hw⟩
 clear hw f11 f6 f f2 f4
 rintro fr w8 ⟨rfl, f11, f4, hsz8, hw⟩
 have shw8 := hw.size
 first | refine zf ?_ | refine zg ?_
 refine zs ?_
 refine wl_r (o_ldUa Tryz.isAgg141 Tryz.sizeOf141 rfl f11 hr8) ?_
 refine wl_stUa Tryz.sizeOf141 rfl f4 rfl hr8 (by rfl) ?_
 rintro w_2 f g_1 e_1
 have s_1 := g_1.size
 replace hw := hw.trans (below_of_grownBy g_1.g hw.size (by omega))
 replace f11 := f11.k g_1.g (ap_some (by omega))
 clear f4
 refine wl_nil ?_
 refine ret_cell rfl rfl Tryz.isAgg141 Tryz.sizeOf141 f (by rw [vU_length, hr8]) ?_
 exact ⟨rfl, hw⟩
end Go.Proofs.YtnnhenafhalobaaGreat
namespace Go.Proofs.YtnnhenafhalobaaGreat
set_option maxRecDepth 100000
open Go.RowKit
theorem C_refbytes {l : List UInt64} {r : List UInt8} (w : World) (hr : bytesU l = r) (hl : l.length = 8) :
  CallsR Tryz.prog 111 [.agg (vU l).toArray] w fun v w' => v = .agg (B8 r).toArray ∧ Below w.heap.size w w' := by
 have hr64 : r.length = 64 := by rw [← hr, bytesU_len]
 refine callsR Tryz.func111 rfl rfl (by kernel_rfl) rfl ?_
 have hw := Below.refl w.heap.size w
 refine zs ?_
 refine wl_boxg _ rfl (by rfl) ?_
 rintro g1 w1 f1 b1 i1 i1_1
 have s1 := b1.size
 replace hw := hw.trans (b1.mono hw.size)
 refine wl_allocB Tryz.underlying139 Tryz.zeroValue139 (by rfl) ?_
 rintro g2 w2 f2 b2 i2 i2_1
 have s2 := b2.size
 replace hw := hw.trans (b2.mono hw.size)
 replace f1 := f1.u b2
 refine wl_nil (zs ?_)
 refine wl_allocB Tryz.underlying139 Tryz.zeroValue139 (by rfl) ?_
 rintro g3 w3 f3 b3 i3 i3_1
 have s3 := b3.size
 replace hw := hw.trans (b3.mono hw.size)
 replace f1 := f1.u b3
 replace f2 := f2.u b3
 refine wl_nil (rk_seq (zs (za rfl (wl_nil (rk_block ?_)))))
 refine rk_joinf (fun fb fr w6 => fr = [] ++ fb.drop 1 ∧ Blk w6 g3 139 (B8 r) ∧ Blk w6 g2 139 (B8 (List.replicate 64 0)) ∧ w3.heap.size ≤ w6.heap.size ∧ Below w.heap.size w w6) ?_ (fun ks hj => ?_)
 rotate_left
 ·refine rk_loopf (fun fb m fr w6 => ∃ (i : Nat) (v : Int) (q : List UInt8), fr = [(4, .int .i64 v)] ++ fb.drop 1 ∧ v = i ∧ i ≤ 64 ∧ m = 64 - i ∧ q = (bytesU l).take i ++ List.replicate (64 - i) 0 ∧ Blk w6 g3 139 (B8 q) ∧ Blk w6 g1 141 (vU l) ∧ Blk w6 g2 139 (B8 (List.replicate 64 0)) ∧ w3.heap.size ≤ w6.heap.size ∧ Below w.heap.size w w6) (n := 64) (Fr.le_of (by kernel_rfl) (by kernel_rfl) (by repeat' constructor)) ⟨0, _, _, rfl, rfl, by omega, rfl, rfl, f3, f1, f2, Nat.le_refl _, hw⟩ ?_
  clear hw f2 f1 f3
  rintro m fr w6 ⟨i, v, q, rfl, rfl, hi, rfl, hq, f3, f1, f2, hsz, hw⟩
  have shw := hw.size
  have hql : q.length = 64 := by
   rw [hq, List.length_append, List.length_take, bytesU_len, List.length_replicate]; omega
  first | refine zf ?_ | refine zg ?_
  refine rk_seq (zs (zm rfl ?_))
  refine zp (o_lt rfl rfl) ?_
  refine wl_nil ?_
  refine rk_if rfl (fun h6 => ?_) (fun h6 => ?_)
  ·refine rk_skip ?_
   refine rk_seq (rk_block (rk_region (zm rfl (zm rfl ?_))))
   refine zp (o_quo rfl rfl (by omega) (by omega) (by omega)) ?_
   refine zp (o_iaddrP (i / 8) Tryz.underlying141 Tryz.sizeOf52 rfl rfl (by omega) (by omega)) ?_
   refine wl_r (o_ldU Tryz.isAgg52 rfl f1 (by omega)) ?_
   refine zm rfl ?_
   refine zp (o_rem rfl rfl (by omega) (by omega)) ?_
   refine zp (o_mul rfl rfl (by omega) (by omega)) ?_
   refine zp (o_sub rfl rfl (by omega) (by omega)) ?_
   refine zp (o_convu64 (src := 3) (dst := 151) Tryz.underlying3 Tryz.underlying151 rfl (by omega) (by omega)) ?_
   refine zp (o_shrU rfl rfl (by omega) (by omega)) ?_
   refine zp (o_convU8 (src := 52) (dst := 5) Tryz.underlying52 Tryz.underlying5 rfl) ?_
   refine zp (o_iaddrP (i) Tryz.underlying139 Tryz.sizeOf5 rfl rfl rfl (by omega)) ?_
   refine wl_stB Tryz.sizeOf5 rfl f3 rfl (by omega) ?_
   rintro w_1 f g e
   have s := g.size
   replace hw := hw.trans (below_of_grownBy g.g hw.size (by omega))
   replace f2 := f2.k g.g (ap_some (by omega))
   replace f1 := f1.k g.g (ap_some (by omega))
   clear f3
   refine wl_nil ?_
   refine rk_blk ?_
   refine rk_region (zm rfl ?_)
   refine zp (o_add rfl rfl (by omega) (by omega)) ?_
   refine za rfl (wl_nil ?_)
   rw [show (56 - 8 * ((i : Int) % 8)).toNat = 56 - 8 * (i % 8) by omega] at f
   exact rk_againf (Fr.le_of (by kernel_rfl) (by kernel_rfl) (by repeat' constructor)) ⟨i + 1, (i : Int) + 1, _, rfl, by omega, by omega, rfl, bytes_next (by omega) hq (by omega), f, f1, f2, by omega, hw⟩ (by omega)
  ·refine rk_exit rfl ?_
   obtain rfl : i = 64 := by omega
   rw [List.take_of_length_le (by rw [bytesU_len]; omega), Nat.sub_self, List.replicate_zero, List.append_nil, hr] at hq
   subst hq
   exact rk_tof hj (Fr.le_of (by kernel_rfl) (by kernel_rfl) (by repeat' constructor)) ⟨rfl, f3, f2, hsz, hw⟩
 clear hw f2 f1 f3
 rintro fr w6 ⟨rfl, f3, f2, hsz, hw⟩
 have shw := hw.size
 first | refine zf ?_ | refine zg ?_
 refine zs ?_
 refine wl_r (o_ldBa Tryz.isAgg139 Tryz.sizeOf139 rfl f3 hr64) ?_
 refine wl_stBa Tryz.sizeOf139 rfl f2 rfl hr64 (by rfl) ?_
 rintro w_1 f g e
 have s := g.size
 replace hw := hw.trans (below_of_grownBy g.g hw.size (by omega))
 replace f3 := f3.k g.g (ap_some (by omega))
 clear f2
 refine wl_nil ?_
 refine ret_cell rfl rfl Tryz.isAgg139 Tryz.sizeOf139 f (by rw [B8_length, hr64]) ?_
 exact ⟨rfl, hw⟩
theorem C_refjoin {A : Option Addr} {L : List By} {r : By} {n c : Nat} (w : World) (hK : RKy w A L) (hr : L.flatten = r) (hn : n = L.length) (hl : L.length ≤ 40) (hl2 : ∀ x ∈ L, x.length ≤ 4000) :
  CallsR Tryz.prog 114 [.slice A n c] w fun v w' => ∃ A' c', v = .slice A' r.length c' ∧ OwnH w' w.heap.size w'.heap.size A' c' r ∧ Below w.heap.size w w' := by
 subst hn
 have hrl : r.length ≤ 160000 := by
  have := flatten_le L 4000 hl2; rw [hr] at this; omega
 refine callsR Tryz.func114 rfl rfl (by kernel_rfl) rfl ?_
 have hw := Below.refl w.heap.size w
 refine zs (za rfl (wl_nil (zs (za rfl (wl_nil (rk_seq (zs (za rfl (wl_nil (rk_block ?_))))))))))
 refine rk_joinf (fun fb fr w3 => ∃ A' c', fr = [(3, .slice A' r.length c')] ++ fb.drop 2 ∧ OwnH w3 w.heap.size w3.heap.size A' c' r ∧ Below w.heap.size w w3) ?_ (fun ks hj => ?_)
 rotate_left
 ·refine rk_loopf (fun fb m fr w3 => ∃ (i : Nat) (v : Int) (A' : Option Addr) (bs : By) (c' : Nat), fr = [(4, .int .i64 v), (3, .slice A' bs.length c')] ++ fb.drop 2 ∧ v = i ∧ i ≤ L.length ∧ m = L.length - i ∧ bs = (L.take i).flatten ∧ OwnH w3 w.heap.size w3.heap.size A' c' bs ∧ Below w.heap.size w w3) (n := L.length) (Fr.le_of (by kernel_rfl) (by kernel_rfl) (by repeat' constructor)) ⟨0, _, none, [], 0, rfl, rfl, by omega, rfl, rfl, OwnH.nil_, hw⟩ ?_
  clear hw
  rintro m fr w3 ⟨i, v, A', bs, c', rfl, rfl, hi, rfl, hbs, fo, hw⟩
  have shw := hw.size
  have h1 := flatten_take_le L i
  rw [hr, ← hbs] at h1
  first | refine zf ?_ | refine zg ?_
  refine rk_seq (zs (zm rfl (zm rfl ?_)))
  refine zp (o_len (t := 72) Tryz.underlying72 rfl) ?_
  refine zp (o_lt rfl rfl) ?_
  refine wl_nil ?_
  refine rk_if rfl (fun h8 => ?_) (fun h8 => ?_)
  ·have hil : i < L.length := by omega
   have h2 := hl2 _ (List.getElem_mem hil)
   refine rk_skip (rk_seq (rk_block (rk_region (zm rfl (zm rfl (zm rfl ?_))))))
   refine zp (o_iaddrA1 (i) Tryz.underlying72 Tryz.sizeOf35 rfl rfl rfl (hK.some_ (by omega)) (by omega)) ?_
   refine wl_ldKy rfl hK hw (by omega) ?_
   rintro A115 c115 f15 i15
   refine wl_appB Tryz.u8 rfl fo rfl rfl (f15.u hw) rfl (by omega) hw.size ?_
   rintro A16 c16 w16 f16 g16 b16 i16
   have qf16 := f16.cap
   have s16 := g16.size
   replace hw := hw.trans (b16.mono (by omega))
   clear fo
   refine za rfl (wl_nil ?_)
   refine rk_blk ?_
   refine rk_region (zm rfl ?_)
   refine zp (o_add rfl rfl (by omega) (by omega)) ?_
   refine za rfl (wl_nil ?_)
   exact rk_againf (Fr.le_of (by kernel_rfl) (by kernel_rfl) (by repeat' constructor)) ⟨i + 1, (i : Int) + 1, _, _, _, rfl, by omega, by omega, rfl, by rw [flatten_take L i hil, hbs], f16, hw⟩ (by omega)
  ·refine rk_exit rfl ?_
   obtain rfl : i = L.length := by omega
   rw [List.take_length, hr] at hbs
   subst hbs
   exact rk_tof hj (Fr.le_of (by kernel_rfl) (by kernel_rfl) (by repeat' constructor)) ⟨A', c', rfl, fo, hw⟩
 clear hw
 rintro fr w3 ⟨A', c', rfl, fo, hw⟩
 have shw := hw.size
 first | refine zf ?_ | refine zg ?_
 refine zs (zm rfl (za rfl (wl_nil ?_)))
 refine ret1 rfl rfl ?_
 exact ⟨A', c', rfl, fo, hw⟩
theorem C_refrun {l : List UInt64} {A : Option Addr} {b : By} {r : List UInt64} {n c : Nat} (w : World) (hp : Rd w A b) (hr : runU l (padU b) = r) (hl : l.length = 8) (hn : n = b.length) (hbl : b.length ≤ 200000) :
  CallsR Tryz.prog 112 [.agg (vU l).toArray, .slice A n c] w fun v w' => v = .agg (vU r).toArray ∧ Below w.heap.size w w' := by
 subst hn
 have hr8 : r.length = 8 := by rw [← hr]; exact runU_len _ hl
 obtain ⟨M, hM⟩ := padU_mul b
 obtain ⟨p, hpe⟩ : ∃ p, padU b = p := ⟨_, rfl⟩
 have hpl2 : p.length ≤ 300000 := by rw [← hpe, padU_len]; have := zeros_lt b.length; omega
 rw [hpe] at hM hr
 have hr2 : (List.range M).foldl (fun s i => pieceU s (chunkB p i)) l = r := by
  rw [← hr]; unfold runU; rw [hM, Nat.mul_div_cancel_left _ (by decide)]
 refine callsR Tryz.func112 rfl rfl (by kernel_rfl) rfl ?_
 have hw := Below.refl w.heap.size w
 refine zs ?_
 refine wl_boxg _ rfl (by rfl) ?_
 rintro g2 w2 f2 b2 i2 i2_1
 have s2 := b2.size
 replace hw := hw.trans (b2.mono hw.size)
 refine wl_allocU Tryz.underlying141 Tryz.zeroValue141 (by rfl) ?_
 rintro g4 w4 f4 b4 i4 i4_1
 have s4 := b4.size
 replace hw := hw.trans (b4.mono hw.size)
 replace f2 := f2.u b4
 refine wl_nil (zs (zm rfl ?_))
 refine wl_call rfl (C_refPad _ (hp.u hw) hpe rfl (by omega)) ?_
 rintro v8 w8 ⟨A8, ⟨c8, ⟨rfl, ⟨f8, b8⟩⟩⟩⟩
 have qf8 := f8.cap
 have s8 := b8.size
 replace hw := hw.trans (b8.mono hw.size)
 replace f2 := f2.u b8
 replace f4 := f4.u b8
 refine za rfl (wl_nil (rk_seq (zs (za rfl (wl_nil (rk_block ?_))))))
 refine rk_joinf (fun fb fr w3 => fr = [] ++ fb.drop 1 ∧ Blk w3 g2 141 (vU r) ∧ Blk w3 g4 141 (vU (List.replicate 8 0)) ∧ w8.heap.size ≤ w3.heap.size ∧ Below w.heap.size w w3) ?_ (fun ks hj => ?_)
 rotate_left
 ·refine rk_loopf (fun fb m fr w3 => ∃ (k j : Nat) (v : Int) (q : List UInt64), fr = [(6, .int .i64 v)] ++ fb.drop 1 ∧ v = j ∧ j = 128 * k ∧ k ≤ M ∧ m = M - k ∧ q.length = 8 ∧ q = (List.range k).foldl (fun s i => pieceU s (chunkB p i)) l ∧ Blk w3 g2 141 (vU q) ∧ Blk w3 g4 141 (vU (List.replicate 8 0)) ∧ OwnH w3 w4.heap.size w8.heap.size A8 c8 p ∧ w8.heap.size ≤ w3.heap.size ∧ Below w.heap.size w w3) (n := M) (Fr.le_of (by kernel_rfl) (by kernel_rfl) (by repeat' constructor)) ⟨0, 0, _, l, rfl, rfl, rfl, by omega, rfl, hl, rfl, f2, f4, f8, Nat.le_refl _, hw⟩ ?_
  clear hw f2 f4 f8
  rintro m fr w3 ⟨k, j, v, q, rfl, rfl, hj, hk, rfl, hql, hq, f2, f4, f8, hsz, hw⟩
  have shw := hw.size
  first | refine zf ?_ | refine zg ?_
  refine rk_seq (zs (zm rfl (zm rfl ?_)))
  refine zp (o_len (t := 35) Tryz.underlying35 rfl) ?_
  refine zp (o_lt rfl rfl) ?_
  refine wl_nil ?_
  refine rk_if rfl (fun h12 => ?_) (fun h12 => ?_)
  ·obtain ⟨r1, h1⟩ : ∃ r1, pieceU q ((p.drop j).take (j + 128 - j)) = r1 := ⟨_, rfl⟩
   have hr18 : r1.length = 8 := by rw [← h1]; exact pieceU_len _ hql
   have hc128 : ((p.drop j).take (j + 128 - j)).length = 128 := by rw [List.length_take, List.length_drop]; omega
   refine rk_skip (rk_seq (rk_block ?_))
   refine rk_draw (id := 5) (none) [0, 0, 0, 0, 8, 22, 33, 127] [0, 0, 0, 0, 8, 30, 63, 127] 192 0 [(.r, 0), (.p, 1), (.p, 2), (.p, 3), (.p, 4), (.p, 5), (.l, 6), (.l, 7)] (by kernel_rfl) (by kernel_rfl) (by kernel_rfl) (by kernel_rfl) (by kernel_rfl) ?_
   replace hw := hw.drew
   replace f8 := f8.d
   replace f4 := f4.d
   replace f2 := f2.d
   refine wl_r (o_ldUa Tryz.isAgg141 Tryz.sizeOf141 rfl f2 hql) ?_
   refine zm rfl (zm rfl (zm rfl ?_))
   refine zp (o_add rfl rfl (by omega) (by omega)) ?_
   refine wl_slBB Tryz.u8 (j) (j + 128) rfl rfl rfl f8.to_Rd rfl rfl (by omega) (by omega) (by omega) (by omega) ?_
   rintro A20 c20 f20 i20 i20_1
   refine wl_call rfl (C_refpiece _ f20 h1 hql hc128 (by omega)) ?_
   rintro v21 w21 ⟨rfl, b21⟩
   simp only [drew_size] at b21
   have s21 := b21.size
   simp only [drew_size] at s21
   replace hw := hw.trans (b21.mono hw.size)
   replace f20 := f20.u b21
   replace f2 := f2.u b21
   replace f4 := f4.u b21
   replace f8 := f8.u b21
   refine wl_stUa Tryz.sizeOf141 rfl f2 rfl hr18 hql ?_
   rintro w_1 f g e
   have s := g.size
   replace hw := hw.trans (below_of_grownBy g.g hw.size (by omega))
   replace f8 := f8.k g.g (ap_some (by omega))
   replace f4 := f4.k g.g (ap_some (by omega))
   clear f2
   clear f20
   refine wl_nild ?_
   refine rk_blk ?_
   refine rk_region (zm rfl ?_)
   refine zp (o_add rfl rfl (by omega) (by omega)) ?_
   refine za rfl (wl_nil ?_)
   exact rk_againf (Fr.le_of (by kernel_rfl) (by kernel_rfl) (by repeat' constructor)) ⟨k + 1, j + 128, (j : Int) + 128, r1, rfl, by omega, by omega, by omega, rfl, hr18, by
    rw [List.range_succ, List.foldl_append, ← hq, ← h1, hj, show 128 * k + 128 - 128 * k = 128 by omega]; rfl, f, f4, f8, by omega, hw⟩ (by omega)
  ·refine rk_exit rfl ?_
   obtain rfl : k = M := by omega
   rw [hr2] at hq
   subst hq
   exact rk_tof hj (Fr.le_of (by kernel_rfl) (by kernel_rfl) (by repeat' constructor)) ⟨rfl, f2, f4, hsz, hw⟩
 clear hw f2 f4 f8
 rintro fr w3 ⟨rfl, f2, f4, hsz, hw⟩
 have shw := hw.size
 first | refine zf ?_ | refine zg ?_
 refine zs ?_
 refine wl_r (o_ldUa Tryz.isAgg141 Tryz.sizeOf141 rfl f2 hr8) ?_
 refine wl_stUa Tryz.sizeOf141 rfl f4 rfl hr8 (by rfl) ?_
 rintro w_1 f g e
 have s := g.size
 replace hw := hw.trans (below_of_grownBy g.g hw.size (by omega))
 replace f2 := f2.k g.g (ap_some (by omega))
 clear f4
 refine wl_nil ?_
 refine ret_cell rfl rfl Tryz.isAgg141 Tryz.sizeOf141 f (by rw [vU_length, hr8]) ?_
 exact ⟨rfl, hw⟩
set_option maxHeartbeats 1000000 in
set_option maxRecDepth 100000 in
theorem C_refStartShort {r : List UInt64} (w : World) (hr : Ul = r) :
  CallsR Tryz.prog 113 [] w fun v w' => v = .agg (vU r).toArray ∧ Below w.heap.size w w' := by
 have hr8 : r.length = 8 := by rw [← hr]; exact Ul_len
 have hr2 : runU Tl (padU nameB) = r := by rw [← hr]; rfl
 have hS8 : Sl.length = 8 := Sl_len
 obtain ⟨tl, htl⟩ : ∃ tl, Tl = tl := ⟨_, rfl⟩
 obtain ⟨sl, hsl⟩ : ∃ sl, Sl = sl := ⟨_, rfl⟩
 have hts : sl.map (· ^^^ 11936128518282651045) = tl := by rw [← htl, ← hsl]; rfl
 have ht8 : tl.length = 8 := by rw [← htl]; rfl
 rw [htl] at hr2
 rw [hsl] at hS8
 refine callsR Tryz.func113 rfl rfl (by kernel_rfl) rfl ?_
 have hw := Below.refl w.heap.size w
 refine zs ?_
 refine wl_allocU Tryz.underlying141 Tryz.zeroValue141 (by rfl) ?_
 rintro g0 w0 f0 b0 i0 i0_1
 have s0 := b0.size
 replace hw := hw.trans (b0.mono hw.size)
 refine wl_nil (zs ?_)
 refine wl_call rfl (C_refStart _) ?_
 rintro v3 w3 ⟨rfl, b3⟩
 have s3 := b3.size
 replace hw := hw.trans (b3.mono hw.size)
 replace f0 := f0.u b3
 refine wl_allocU Tryz.underlying141 Tryz.zeroValue141 (by rfl) ?_
 rintro g1 w1 f1 b1 i1 i1_1
 have s1 := b1.size
 replace hw := hw.trans (b1.mono hw.size)
 replace f0 := f0.u b1
 refine wl_stUa Tryz.sizeOf141 rfl f1 rfl (by rfl) (by rfl) ?_
 rintro w_1 f g e
 have s := g.size
 replace hw := hw.trans (below_of_grownBy g.g hw.size (by omega))
 replace f0 := f0.k g.g (ap_some (by omega))
 clear f1
 refine wl_nil (rk_seq (zs (za rfl (wl_nil (rk_block ?_)))))
 rw [hsl] at f
 refine rk_joinf (fun fb fr w2 => fr = [] ++ fb.drop 1 ∧ Blk w2 g1 141 (vU tl) ∧ Blk w2 g0 141 (vU (List.replicate 8 0)) ∧ w_1.heap.size ≤ w2.heap.size ∧ Below w.heap.size w w2) ?_ (fun ks hj => ?_)
 rotate_left
 ·refine rk_loopf (fun fb m fr w2 => ∃ (i : Nat) (v : Int) (q : List UInt64), fr = [(2, .int .i64 v)] ++ fb.drop 1 ∧ v = i ∧ i ≤ 8 ∧ m = 8 - i ∧ q = (sl.map (· ^^^ 11936128518282651045)).take i ++ sl.drop i ∧ Blk w2 g1 141 (vU q) ∧ Blk w2 g0 141 (vU (List.replicate 8 0)) ∧ w_1.heap.size ≤ w2.heap.size ∧ Below w.heap.size w w2) (n := 8) (Fr.le_of (by kernel_rfl) (by kernel_rfl) (by repeat' constructor)) ⟨0, _, _, rfl, rfl, by omega, rfl, rfl, f, f0, Nat.le_refl _, hw⟩ ?_
  clear hw f f0
  rintro m fr w2 ⟨i, v, q, rfl, rfl, hi, rfl, hq, f, f0, hsz, hw⟩
  have shw := hw.size
  have hql : q.length = 8 := by
   rw [hq, List.length_append, List.length_take, List.length_map, List.length_drop]; omega
  first | refine zf ?_ | refine zg ?_
  refine rk_seq (zs (zm rfl ?_))
  refine zp (o_lt rfl rfl) ?_
  refine wl_nil ?_
  refine rk_if rfl (fun h5 => ?_) (fun h5 => ?_)
  ·have hil : i < q.length := by omega
   have e1 : bits .xor .u64 (q[i].toNat : Int) 11936128518282651045 = ((q[i] ^^^ 11936128518282651045).toNat : Int) := by
    rw [UInt64.toNat_xor]; exact bits_xor_u64_nat q[i].toNat 11936128518282651045 (u64_lt _) (by decide)
   refine rk_skip (rk_seq (rk_block (rk_region (zm rfl (zm rfl ?_)))))
   refine zp (o_iaddrP (i) Tryz.underlying141 Tryz.sizeOf52 rfl rfl rfl (by omega)) ?_
   refine wl_r (o_ldU Tryz.isAgg52 rfl f (by omega)) ?_
   refine zp (o_xor rfl rfl) ?_
   refine zp (o_iaddrP (i) Tryz.underlying141 Tryz.sizeOf52 rfl rfl rfl (by omega)) ?_
   rw [e1]
   refine wl_stU Tryz.sizeOf52 rfl f rfl (by omega) ?_
   rintro w_2 f_1 g_1 e_1
   have s_1 := g_1.size
   replace hw := hw.trans (below_of_grownBy g_1.g hw.size (by omega))
   replace f0 := f0.k g_1.g (ap_some (by omega))
   clear f
   refine wl_nil ?_
   refine rk_blk ?_
   refine rk_region (zm rfl ?_)
   refine zp (o_add rfl rfl (by omega) (by omega)) ?_
   refine za rfl (wl_nil ?_)
   exact rk_againf (Fr.le_of (by kernel_rfl) (by kernel_rfl) (by repeat' constructor)) ⟨i + 1, (i : Int) + 1, _, rfl, by omega, by omega, rfl, map_next (f := (· ^^^ 11936128518282651045)) hq hil (by omega), f_1, f0, by omega, hw⟩ (by omega)
  ·refine rk_exit rfl ?_
   obtain rfl : i = 8 := by omega
   rw [List.take_of_length_le (by rw [List.length_map]; omega), List.drop_of_length_le (by omega), List.append_nil, hts] at hq
   subst hq
   exact rk_tof hj (Fr.le_of (by kernel_rfl) (by kernel_rfl) (by repeat' constructor)) ⟨rfl, f, f0, hsz, hw⟩
 clear hw f f0
 rintro fr w2 ⟨rfl, f, f0, hsz, hw⟩
 have shw := hw.size
 have hr3 : runU tl (padU [83, 72, 65, 45, 53, 49, 50, 47, 50, 53, 54]) = r := hr2
 first | refine zf ?_ | refine zg ?_
 refine zs ?_
 refine wl_r (o_ldUa Tryz.isAgg141 Tryz.sizeOf141 rfl f ht8) ?_
 refine wl_litC [83, 72, 65, 45, 53, 49, 50, 47, 50, 53, 54] Tryz.u8 Tryz.sizeOf5 Tryz.zeroValue5 (by rfl) rfl rfl (by rfl) (by rfl) (by rfl) ?_
 rintro A15 w15 f15 b15
 have s15 := b15.size
 replace hw := hw.trans (b15.mono hw.size)
 replace f0 := f0.u b15
 replace f := f.u b15
 refine wl_call rfl (C_refrun _ f15.to_Rd hr3 ht8 (by rfl) (by simp)) ?_
 rintro v17 w17 ⟨rfl, b17⟩
 have s17 := b17.size
 replace hw := hw.trans (b17.mono hw.size)
 replace f := f.u b17
 replace f0 := f0.u b17
 replace f15 := f15.u b17
 refine wl_stUa Tryz.sizeOf141 rfl f0 rfl hr8 (by rfl) ?_
 rintro w_2 f_1 g_1 e_1
 have s_1 := g_1.size
 replace hw := hw.trans (below_of_grownBy g_1.g hw.size (by omega))
 replace f15 := f15.y g_1 (by decide)
 replace f := f.k g_1.g (ap_some (by omega))
 clear f0
 refine wl_nil ?_
 refine ret_cell rfl rfl Tryz.isAgg141 Tryz.sizeOf141 f_1 (by rw [vU_length, hr8]) ?_
 exact ⟨rfl, hw⟩
set_option maxRecDepth 100000 in
theorem C_refSum {A : Option Addr} {L : List By} {r : By} {n c : Nat} (w : World) (hK : RKy w A L) (hr : (bytesU (runU Ul (padU L.flatten))).take 32 = r) (hn : n = L.length) (hL : L.length ≤ 40) (hL2 : ∀ x ∈ L, x.length ≤ 4000) :
  CallsR Tryz.prog 90 [.slice A n c] w fun v w' => v = .agg (B8 r).toArray ∧ Below w.heap.size w w' := by
 subst hn
 obtain ⟨b, hb⟩ : ∃ b, L.flatten = b := ⟨_, rfl⟩
 rw [hb] at hr
 have hbl : b.length ≤ 100000 * 2 := by
  have := flatten_le L 4000 hL2; rw [hb] at this; omega
 obtain ⟨u, hu⟩ : ∃ u, Ul = u := ⟨_, rfl⟩
 have hu8 : u.length = 8 := by rw [← hu]; exact Ul_len
 rw [hu] at hr
 obtain ⟨r1, h1⟩ : ∃ r1, runU u (padU b) = r1 := ⟨_, rfl⟩
 rw [h1] at hr
 have hr8 : r1.length = 8 := by rw [← h1]; exact runU_len _ hu8
 obtain ⟨r2, h2⟩ : ∃ r2, bytesU r1 = r2 := ⟨_, rfl⟩
 rw [h2] at hr
 have hr64 : r2.length = 64 := by rw [← h2, bytesU_len]
 have hr32 : r.length = 32 := by rw [← hr, List.length_take]; omega
 refine callsR Tryz.func90 rfl rfl (by kernel_rfl) rfl ?_
 have hw := Below.refl w.heap.size w
 refine zs ?_
 refine wl_allocB Tryz.underlying64 Tryz.zeroValue64 (by rfl) ?_
 rintro g2 w2 f2 b2 i2 i2_1
 have s2 := b2.size
 replace hw := hw.trans (b2.mono hw.size)
 refine wl_nil (zs ?_)
 refine wl_call rfl (C_refStartShort _ hu) ?_
 rintro v5 w5 ⟨rfl, b5⟩
 have s5 := b5.size
 replace hw := hw.trans (b5.mono hw.size)
 replace f2 := f2.u b5
 refine zm rfl ?_
 refine wl_call rfl (C_refjoin _ (hK.u hw) hb rfl (by omega) (by omega)) ?_
 rintro v7 w7 ⟨A7, ⟨c7, ⟨rfl, ⟨f7, b7⟩⟩⟩⟩
 have qf7 := f7.cap
 have s7 := b7.size
 replace hw := hw.trans (b7.mono hw.size)
 replace f2 := f2.u b7
 refine wl_call rfl (C_refrun _ f7.to_Rd h1 hu8 rfl (by omega)) ?_
 rintro v8 w8 ⟨rfl, b8⟩
 have s8 := b8.size
 replace hw := hw.trans (b8.mono hw.size)
 replace f2 := f2.u b8
 replace f7 := f7.u b8
 refine wl_call rfl (C_refbytes _ h2 hr8) ?_
 rintro v9 w9 ⟨rfl, b9⟩
 have s9 := b9.size
 replace hw := hw.trans (b9.mono hw.size)
 replace f7 := f7.u b9
 replace f2 := f2.u b9
 refine wl_allocB Tryz.underlying139 Tryz.zeroValue139 (by rfl) ?_
 rintro g3 w3 f3 b3 i3 i3_1
 have s3 := b3.size
 replace hw := hw.trans (b3.mono hw.size)
 replace f2 := f2.u b3
 replace f7 := f7.u b3
 refine wl_stBa Tryz.sizeOf139 rfl f3 rfl hr64 (by rfl) ?_
 rintro w_1 f g e
 have s := g.size
 replace hw := hw.trans (below_of_grownBy g.g hw.size (by omega))
 replace f7 := f7.k g.g (ap_some (by omega))
 replace f2 := f2.k g.g (ap_some (by omega))
 clear f3
 refine wl_nil (zs ?_)
 refine wl_allocB Tryz.underlying64 Tryz.zeroValue64 (by rfl) ?_
 rintro g4 w4 f4 b4 i4 i4_1
 have s4 := b4.size
 replace hw := hw.trans (b4.mono hw.size)
 replace f2 := f2.u b4
 replace f7 := f7.u b4
 replace f := f.u b4
 refine wl_nil (rk_seq ?_)
 refine rk_draw (id := 3) (none) [0, 0, 3] [0, 0, 3] 4 0 [(.p, 0), (.p, 1), (.l, 2)] (by kernel_rfl) (by kernel_rfl) (by kernel_rfl) (by kernel_rfl) (by kernel_rfl) ?_
 replace hw := hw.drew
 replace f := f.d
 replace f7 := f7.d
 replace f2 := f2.d
 replace f4 := f4.d
 refine zp (o_slice_arr (t := 64) Tryz.underlying64 Tryz.sizeOf5 rfl) ?_
 refine zp (o_slArrHi (32) Tryz.underlying139 Tryz.sizeOf5 rfl rfl (by omega) (by omega)) ?_
 try refine wl_p (fun _ => o_slArrHi 32 Tryz.underlying139 Tryz.sizeOf5 rfl rfl rfl (by decide)) ?_
 have fp := rd_pre f 32
 rw [hr] at fp
 refine wl_copy Tryz.u8 rfl rfl hr32.symm fp f4 (by rw [B8_length, List.length_replicate]; decide) ?_
 intro w5' hB5 hg5 hz5
 rw [List.take_of_length_le (by omega), spl_all (by rw [B8_length, B8_length, List.length_replicate]; omega)] at hB5
 replace hw := hw.trans (below_of_grownBy hg5 hw.size (by omega))
 replace f2 := f2.grown hg5 (by intro e; injection e with e; omega)
 clear f f7 f4
 refine wl_nild ?_
 refine zs ?_
 refine wl_r (o_ldBa Tryz.isAgg64 Tryz.sizeOf64 rfl hB5 hr32) ?_
 refine wl_stBa Tryz.sizeOf64 rfl f2 rfl hr32 (by rfl) ?_
 rintro w_2 f g_1 e_1
 have s_1 := g_1.size
 replace hw := hw.trans (below_of_grownBy g_1.g hw.size (by omega))
 replace hB5 := hB5.k g_1.g (ap_some (by omega))
 clear f2
 refine wl_nil ?_
 refine ret_cell rfl rfl Tryz.isAgg64 Tryz.sizeOf64 f (by rw [B8_length, hr32]) ?_
 exact ⟨rfl, hw⟩
end Go.Proofs.YtnnhenafhalobaaGreat
namespace Go.Proofs.YtnnhenafhalobaaGreat
set_option maxRecDepth 100000
open Go.RowKit
theorem C_refWord {A : Option Addr} {l : List UInt8} (c : Nat) (n : Nat) (size : Int) (w : World) (hr : Rd w A l) (hn : n < u64) (hl : l.length ≤ 140737488355000) :
  CallsR Tryz.prog 89 [.slice A l.length c, .int .u64 n, .int .i64 size] w fun v w' => ∃ A' c', v = .slice A' (l ++ leB (clampN size) n).length c' ∧ Own w' w.heap.size A' c' (l ++ leB (clampN size) n) ∧ Below w.heap.size w w' := by
 obtain ⟨hk1, hk2, hk3⟩ := clampN_bd size
 have hk4 : min (max size 1) 8 = (clampN size : Int) := by omega
 refine callsR Tryz.func89 rfl rfl (by kernel_rfl) rfl ?_
 refine zs (za rfl (wl_nil (zs ?_)))
 refine wl_lit8 (xs := []) [] Tryz.u8 Tryz.sizeOf5 Tryz.zeroValue5 rfl rfl ?_
 intro w1 hown1 hb1 hz1
 refine zm rfl ?_
 refine wl_app (s := []) Tryz.u8 rfl rfl hown1 rfl rfl (hr.below hb1) (by simp; omega) hb1.size ?_
 intro A10 c10 w10 hown10 hg10 hk10 hb10
 rw [List.nil_append] at hown10 ⊢
 have hb := hb1.trans hb10
 refine za rfl (wl_nil (rk_seq (zs (za rfl (wl_nil (rk_block ?_))))))
 refine rk_loop (fun m fr w' => ∃ j len A' c', fr = [(1, .int .u64 n), (2, .int .i64 size), (7, .slice A' len c'), (8, .int .i64 (j : Nat))] ∧ len = (l ++ leB j n).length ∧ m + j = clampN size ∧ Own w' w.heap.size A' c' (l ++ leB j n) ∧ Below w.heap.size w w')
  (n := clampN size) (by repeat' constructor) ⟨0, _, A10, c10, rfl, by simp [leB], by omega, by simpa [leB] using hown10, hb⟩ ?_
 rintro m fr w3 ⟨j, len, A', c', rfl, hln, hm, hown', hb'⟩
 have hlen : (l ++ leB j n).length = l.length + j := by simp [leB_length]
 refine rk_seq (zs (zm rfl (zm rfl ?_)))
 refine zp (o_max rfl rfl) ?_
 refine zp (o_min rfl rfl) ?_
 refine zp (o_lt rfl rfl) ?_
 refine wl_nil ?_
 refine rk_if rfl (fun h => ?_) (fun h => ?_)
 ·rw [hk4] at h
  refine rk_skip (rk_seq (rk_block (rk_region (zm rfl (zm rfl (zm rfl ?_))))))
  refine zp (o_mul rfl rfl (by omega) (by omega)) ?_
  refine zp (o_convu64 (src := 3) (dst := 151) Tryz.underlying3 Tryz.underlying151 rfl (by omega) (by omega)) ?_
  refine zp (o_shr rfl rfl (by omega)) ?_
  refine zp (o_asi (o_convi Tryz.underlying52 Tryz.underlying5 rfl) (byte_shift n j (by omega))) ?_
  refine wl_v (o_lit (is := [0]) (xs := [.tmp 25]) rfl (Tryz.lit8 _ _)) ?_
  have hs2 := hb'.size
  refine wl_app (m := [UInt8.ofNat (n / 256 ^ j)]) Tryz.u8 rfl hln (hown'.alloc _) rfl rfl (rd_lit _ _ _ rfl) (by rw [hlen]; simp; omega) (by simp; omega) ?_
  intro A5 c5 w5 hown5 hg5 hk5 hb5
  refine za rfl (wl_nil ?_)
  refine rk_blk ?_
  refine rk_region (zm rfl ?_)
  refine zp (o_add rfl rfl (by omega) (by omega)) ?_
  refine za rfl (wl_nil ?_)
  exact rk_again (m := m - 1) (by repeat' constructor) ⟨j + 1, _, A5, c5, rfl, by simp [leB], by omega, by simpa [leB] using hown5, (hb'.alloc (by omega) _).trans hb5⟩ (by omega)
 ·rw [hk4] at h
  obtain rfl : j = clampN size := by omega
  refine rk_exit rfl ?_
  refine zs (zm rfl (za rfl (wl_nil ?_)))
  refine ret1 rfl rfl ?_
  exact ⟨A', c', by rw [hln], hown', hb'⟩
end Go.Proofs.YtnnhenafhalobaaGreat
namespace Go.Proofs.YtnnhenafhalobaaGreat
set_option maxRecDepth 100000
open Go.RowKit
theorem div_pow_zero {n i j : Nat} (h : n / 2 ^ i = 0) (hij : i ≤ j) : n / 2 ^ j = 0 := by
 apply Nat.div_eq_of_lt
 have h2 : n < 2 ^ i := by
  rcases Nat.lt_or_ge n (2 ^ i) with h3 | h3
  ·exact h3
  ·have := (Nat.one_le_div_iff (Nat.two_pow_pos i)).2 h3
   omega
 exact Nat.lt_of_lt_of_le h2 (Nat.pow_le_pow_right (by decide) hij)
theorem room_char (n j : Nat) (h1 : 1 ≤ j) (h9 : j ≤ 9) (hlo : j = 1 ∨ n / 2 ^ (7 * (j - 1)) ≠ 0) (hhi : j = 9 ∨ n / 2 ^ (7 * j) = 0) : room n = j := by
 have hk := room_pos n
 rcases Nat.lt_trichotomy (room n) j with h | h | h
 ·rcases hlo with e | e
  ·omega
  ·rcases room_hi n with e2 | e2
   ·omega
   ·exact absurd (div_pow_zero e2 (by omega)) e
 ·exact h
 ·rcases hhi with e | e
  ·omega
  ·rcases room_low n with e2 | e2
   ·omega
   ·exact absurd (div_pow_zero e (by omega)) e2

theorem shift_nat (n : Nat) (k : Int) (j : Nat) (hk : k = j) (hj : j ≤ 64) : (n : Int) / 2 ^ min k.toNat IntKind.u64.bits = ((n / 2 ^ j : Nat) : Int) := by
 have e2 : min k.toNat IntKind.u64.bits = j := by show min _ 64 = _; omega
 rw [e2]; rfl

theorem C_refroom (n : Nat) (w : World) (hn : n < u64) :
  CallsR Tryz.prog 123 [.int .u64 n] w fun v w' => v = .int .i64 (room n) ∧ w = w' := by
 refine callsR Tryz.func123 rfl rfl (by kernel_rfl) rfl ?_
 refine zs (za rfl (wl_nil (zs (za rfl (wl_nil (rk_seq (rk_block ?_)))))))
 refine rk_loop (fun m fr w' => ∃ k : Nat, ∃ v : Int, fr = [(0, .int .u64 n), (3, .int .i64 v)] ∧ v = k ∧ 1 ≤ k ∧ k ≤ 9 ∧ m = 9 - k ∧ (k = 1 ∨ n / 2 ^ (7 * (k - 1)) ≠ 0) ∧ w = w') (n := 8) (by repeat' constructor) ⟨1, 1, rfl, rfl, by omega, by omega, rfl, .inl rfl, rfl⟩ ?_
 rintro m fr _ ⟨k, v, rfl, rfl, hk1, hk9, rfl, hk, rfl⟩
 refine rk_seq (zs (zm rfl ?_))
 refine zp (o_lt rfl rfl) ?_
 refine zm rfl ?_
 refine wl_bool 6 rfl (fun h6 => ?_) (fun h6 => ?_)
 ·have h9 : (k : Int) < 9 := of_decide_eq_true h6
  refine zm rfl (zm rfl ?_)
  refine zp (o_mul rfl rfl (by omega) (by omega)) ?_
  refine zp (o_convu64 (src := 3) (dst := 151) Tryz.underlying3 Tryz.underlying151 rfl (by omega) (by omega)) ?_
  refine zp (o_shr rfl rfl (by omega)) ?_
  refine zp (o_ne rfl rfl) ?_
  refine zp (o_pick_t rfl rfl) ?_
  refine wl_nil ?_
  refine rk_if rfl (fun h => ?_) (fun h => ?_)
  ·rw [shift_nat n _ (7 * k) (by omega) (by omega)] at h
   refine rk_skip (rk_block (rk_region (zm rfl ?_)))
   refine zp (o_add rfl rfl (by omega) (by omega)) ?_
   refine za rfl (wl_nil ?_)
   refine rk_blk ?_
   exact rk_again (by repeat' constructor) ⟨k + 1, _, rfl, rfl, by omega, by omega, rfl, .inr (by simp only [Nat.add_sub_cancel]; omega), rfl⟩ (by omega)
  ·rw [shift_nat n _ (7 * k) (by omega) (by omega)] at h
   refine rk_exit rfl ?_
   refine zs (zm rfl (za rfl (wl_nil ?_)))
   refine ret1 rfl rfl ?_
   exact ⟨by rw [room_char n k hk1 hk9 hk (.inr (by omega))], rfl⟩
 ·have h9 : ¬ (k : Int) < 9 := of_decide_eq_false h6
  refine wl_off (wl_off (wl_off (wl_off (wl_off (wl_off ?_)))))
  refine zp (o_pick_f rfl rfl) ?_
  refine wl_nil ?_
  refine rk_false rfl ?_
  refine rk_exit rfl ?_
  refine zs (zm rfl (za rfl (wl_nil ?_)))
  refine ret1 rfl rfl ?_
  exact ⟨by rw [room_char n k hk1 hk9 hk (.inl (by omega))], rfl⟩

theorem ref_byte (n : Nat) (h : n < 18446744073709551616) : IntKind.u8.wrap (IntKind.u8.wrap (IntKind.u64.wrap (256 - IntKind.u64.wrap (1 * 2 ^ min (9 - (room n : Int)).toNat IntKind.u64.bits))) + IntKind.u8.wrap ((n : Int) / 2 ^ min (8 * ((room n : Int) - 1)).toNat IntKind.u64.bits)) = ((first (room n) n).toNat : Int) := by
 have hk := room_pos n
 have hlt := room_lt n h
 have e1 : (8 * ((room n : Int) - 1)) = 8 * ((room n - 1 : Nat) : Int) := by omega
 rw [e1, byte_shift n (room n - 1) (by omega)]
 unfold first
 generalize hq : n / 256 ^ (room n - 1) = q at *
 have hq256 : q < 256 := Nat.lt_of_lt_of_le hlt (Nat.pow_le_pow_right (by omega) (show 8 - room n ≤ 8 by omega))
 have e2 : IntKind.u8.wrap (IntKind.u64.wrap (256 - IntKind.u64.wrap (1 * 2 ^ min (9 - (room n : Int)).toNat IntKind.u64.bits))) = (((256 - 2 ^ (9 - room n)) % 256 : Nat) : Int) := by
  have h3 : ∀ k : Fin 10, 1 ≤ k.val → IntKind.u8.wrap (IntKind.u64.wrap (256 - IntKind.u64.wrap (1 * 2 ^ min (9 - (k.val : Int)).toNat IntKind.u64.bits))) = (((256 - 2 ^ (9 - k.val)) % 256 : Nat) : Int) := by decide +kernel
  exact h3 ⟨room n, by omega⟩ hk.1
 rw [e2, UInt8.toNat_ofNat', UInt8.toNat_ofNat', IntKind.wrap_u8']
 generalize 256 - 2 ^ (9 - room n) = r
 omega

theorem C_refNumber {A : Option Addr} {l : List UInt8} (c : Nat) (n : Nat) (w : World) (hr : Rd w A l) (hn : n < u64) (hl : l.length ≤ 140737488355000) :
  CallsR Tryz.prog 104 [.slice A l.length c, .int .u64 n] w fun v w' => ∃ A' c', v = .slice A' (l ++ enc n).length c' ∧ Own w' w.heap.size A' c' (l ++ enc n) ∧ Below w.heap.size w w' := by
 have hk := room_pos n
 refine callsR Tryz.func104 rfl rfl (by kernel_rfl) rfl ?_
 refine zs (za rfl (wl_nil (zs ?_)))
 refine wl_lit8 (xs := []) [] Tryz.u8 Tryz.sizeOf5 Tryz.zeroValue5 rfl rfl ?_
 intro w1 hown1 hb1 hz1
 refine zm rfl ?_
 refine wl_app (s := []) Tryz.u8 rfl rfl hown1 rfl rfl (hr.below hb1) (by simp; omega) hb1.size ?_
 intro A10 c10 w10 hown10 hg10 hk10 hb10
 rw [List.nil_append] at hown10 ⊢
 have hb := hb1.trans hb10
 refine za rfl (wl_nil (zs (zm rfl ?_)))
 refine wl_call rfl (C_refroom n w10 hn) ?_
 rintro _ w12 ⟨rfl, rfl⟩
 refine za rfl (wl_nil (rk_seq (zs (zm rfl ?_))))
 refine zp (o_eq rfl rfl) ?_
 refine wl_nil ?_
 refine rk_join (fun fr w' => ∃ A' c' len, fr = [(1, .int .u64 n), (5, .slice A' len c'), (6, .int .i64 (room n))] ∧ len = (l ++ [first (room n) n]).length ∧ Own w' w.heap.size A' c' (l ++ [first (room n) n]) ∧ Below w.heap.size w w') ?_ (fun ks hj => ?_)
 ·rintro fr w2 ⟨A', c', len, rfl, hln, hown', hb'⟩
  refine rk_seq (zs (zm rfl ?_))
  refine zp (o_sub rfl rfl (by omega) (by omega)) ?_
  refine za rfl (wl_nil (rk_block ?_))
  refine rk_loop (fun j fr w' => ∃ A' c' len l' i, fr = [(1, .int .u64 n), (5, .slice A' len c'), (7, .int .i64 i)] ∧ len = l'.length ∧ i = (j : Int) - 1 ∧ j ≤ 8 ∧ l' ++ beB j n = l ++ enc n ∧ Own w' w.heap.size A' c' l' ∧ Below w.heap.size w w')
   (n := room n - 1) (by repeat' constructor) ⟨A', c', _, _, _, rfl, hln, by omega, by omega, by simp [enc], hown', hb'⟩ ?_
  rintro j fr w3 ⟨A', c', len, l', i, rfl, hln, hi, hj8, hl', hown', hb'⟩
  have hlen : l'.length + j = l.length + room n := by have := congrArg List.length hl'; simpa [beB_length, enc_length] using this
  refine rk_seq (zs (zm rfl ?_))
  refine zp (o_ge rfl rfl) ?_
  refine wl_nil ?_
  refine rk_if rfl (fun h => ?_) (fun h => ?_)
  ·obtain ⟨q, rfl⟩ := Int.eq_ofNat_of_zero_le h
   obtain rfl : j = q + 1 := by omega
   refine rk_skip (rk_seq (rk_block (rk_region (zm rfl (zm rfl (zm rfl ?_))))))
   refine zp (o_mul rfl rfl (by omega) (by omega)) ?_
   refine zp (o_convu64 (src := 3) (dst := 151) Tryz.underlying3 Tryz.underlying151 rfl (by omega) (by omega)) ?_
   refine zp (o_shr rfl rfl (by omega)) ?_
   refine zp (o_asi (o_convi Tryz.underlying52 Tryz.underlying5 rfl) (byte_shift n q (by omega))) ?_
   refine wl_v (o_lit (is := [0]) (xs := [.tmp 47]) rfl (Tryz.lit8 _ _)) ?_
   have hs2 := hb'.size
   refine wl_app (m := [UInt8.ofNat (n / 256 ^ q)]) Tryz.u8 rfl hln (hown'.alloc _) rfl rfl (rd_lit _ _ _ rfl) (by simp; omega) (by simp; omega) ?_
   intro A35 c35 w35 hown35 hg35 hk35 hb35
   refine za rfl (wl_nil ?_)
   refine rk_blk ?_
   refine rk_region (zm rfl ?_)
   refine zp (o_sub rfl rfl (by omega) (by omega)) ?_
   refine za rfl (wl_nil ?_)
   exact rk_again (m := q) (by repeat' constructor) ⟨A35, c35, _, _, _, rfl, rfl, rfl, by omega, by simpa [beB] using hl', hown35, (hb'.alloc (by omega) _).trans hb35⟩ (by omega)
  ·obtain rfl : j = 0 := by omega
   refine rk_exit rfl ?_
   refine zs (zm rfl (za rfl (wl_nil ?_)))
   refine ret1 rfl rfl ?_
   simp only [beB, List.append_nil] at hl'
   subst hl'
   exact ⟨A', c', by rw [hln], hown', hb'⟩
 ·have hs10 := hb.size
  refine rk_if rfl (fun h => ?_) (fun h => ?_)
  ·refine rk_region ?_
   refine zm rfl ?_
   refine wl_v (o_lit (is := [0]) (xs := [.const (.int .u8 255)]) rfl (Tryz.lit8 _ _)) ?_
   have e9 : room n = 9 := by omega
   refine wl_app (m := [first (room n) n]) Tryz.u8 rfl rfl (hown10.alloc _) rfl rfl (rd_lit _ _ _ ?_) (by simp; omega) (by simp; omega) ?_
   ·have h9 : n / 256 ^ 8 = 0 := Nat.div_eq_of_lt (by simpa using hn)
    rw [e9]; unfold first; rw [h9]; rfl
   intro A35 c35 w35 hown35 hg35 hk35 hb35
   refine za rfl (wl_nil ?_)
   exact rk_to hj (by repeat' constructor) ⟨A35, c35, _, rfl, rfl, hown35, (hb.alloc (by omega) _).trans hb35⟩
  ·refine rk_region ?_
   refine zm rfl (zm rfl ?_)
   refine zp (o_sub rfl rfl (by omega) (by omega)) ?_
   refine zp (o_convu64 (src := 3) (dst := 151) Tryz.underlying3 Tryz.underlying151 rfl (by omega) (by omega)) ?_
   refine zp (o_shl rfl rfl (by omega)) ?_
   refine zp (o_subw rfl rfl) ?_
   refine zp (o_convi (src := 52) (dst := 5) Tryz.underlying52 Tryz.underlying5 rfl) ?_
   refine zm rfl (zm rfl ?_)
   refine zp (o_sub rfl rfl (by omega) (by omega)) ?_
   refine zp (o_mul rfl rfl (by omega) (by omega)) ?_
   refine zp (o_convu64 (src := 3) (dst := 151) Tryz.underlying3 Tryz.underlying151 rfl (by omega) (by omega)) ?_
   refine zp (o_shr rfl rfl (by omega)) ?_
   refine zp (o_convi (src := 52) (dst := 5) Tryz.underlying52 Tryz.underlying5 rfl) ?_
   refine zp (o_asi (o_addw rfl rfl) (ref_byte n hn)) ?_
   refine wl_v (o_lit (is := [0]) (xs := [.tmp 32]) rfl (Tryz.lit8 _ _)) ?_
   refine wl_app (m := [first (room n) n]) Tryz.u8 rfl rfl (hown10.alloc _) rfl rfl (rd_lit _ _ _ rfl) (by simp; omega) (by simp; omega) ?_
   intro A35 c35 w35 hown35 hg35 hk35 hb35
   refine za rfl (wl_nil ?_)
   exact rk_to hj (by repeat' constructor) ⟨A35, c35, _, rfl, rfl, hown35, (hb.alloc (by omega) _).trans hb35⟩

theorem C_refBlock {A X : Option Addr} {l p : List UInt8} (c k : Nat) (w : World) (hr : Rd w A l) (hp : Rd w X p) (hl : l.length + p.length ≤ 140737488355000) :
  CallsR Tryz.prog 81 [.slice A l.length c, .slice X p.length k] w fun v w' => ∃ A' c', v = .slice A' (l ++ enc p.length ++ p).length c' ∧ Own w' w.heap.size A' c' (l ++ enc p.length ++ p) ∧ Below w.heap.size w w' := by
 have hk := room_pos p.length
 have hn : p.length < u64 := by unfold u64; omega
 refine callsR Tryz.func81 rfl rfl (by kernel_rfl) rfl ?_
 refine zs (za rfl (wl_nil (zs (zm rfl (zm rfl ?_)))))
 refine zp (o_len (t := 35) Tryz.underlying35 rfl) ?_
 refine zp (o_convu64 (src := 3) (dst := 52) Tryz.underlying3 Tryz.underlying52 rfl (by omega) (by omega)) ?_
 refine wl_call rfl (C_refNumber c p.length w hr hn (by omega)) ?_
 rintro _ w3 ⟨A3, c3, rfl, hown3, hb3⟩
 refine zm rfl ?_
 refine wl_app Tryz.u8 rfl rfl hown3 rfl rfl (hp.below hb3) (by simp [enc_length]; omega) hb3.size ?_
 intro A4 c4 w4 hown4 hg4 hk4 hb4
 refine za rfl (wl_nil ?_)
 refine ret1 rfl rfl ?_
 exact ⟨A4, c4, rfl, hown4, hb3.trans hb4⟩

end Go.Proofs.YtnnhenafhalobaaGreat
namespace Go.Proofs.YtnnhenafhalobaaGreat
set_option maxRecDepth 100000
open Go.RowKit
theorem C_r1BlockH {A X : Option Addr} {l p : By} {n m c k : Nat} (w : World) (hr : Rd w A l) (hp : Rd w X p) (hn : n = l.length) (hm : m = p.length) (hl : l.length ≤ 4000000) (hl2 : p.length ≤ 4000000) :
  CallsR Tryz.prog 81 [.slice A n c, .slice X m k] w fun v w' => ∃ A' c', v = .slice A' (l ++ blkB p).length c' ∧ OwnH w' w.heap.size w'.heap.size A' c' (l ++ blkB p) ∧ Below w.heap.size w w' := by
 subst hn; subst hm
 refine CallsR.mono (C_refBlock c k w hr hp (by omega)) ?_
 rintro v w' ⟨A', c', rfl, h1, h2⟩
 rw [List.append_assoc] at h1 ⊢
 exact ⟨A', c', rfl, h1.h_, h2⟩
theorem C_r1Word8 {z k : Int} {n : Nat} {r : By} (w : World) (hz : z = n) (hk : k = 8) (hr : wB8 n = r) (hn : n < 18446744073709551616) :
  CallsR Tryz.prog 89 [.slice none 0 0, .int .u64 z, .int .i64 k] w fun v w' => ∃ A' c', v = .slice A' r.length c' ∧ OwnH w' w.heap.size w'.heap.size A' c' r ∧ Below w.heap.size w w' := by
 subst hz; subst hk; subst hr
 refine (C_refWord (A := none) (l := []) 0 n 8 w (Rd.nil _ _) (by unfold u64; omega) (by simp)).mono ?_
 rintro v w' ⟨A', c', rfl, h, hb⟩
 exact ⟨A', c', rfl, h.h_, hb⟩
theorem C_r8First {z : Int} {n : Nat} {r : By} (w : World) (hz : z = n) (hn : n < 18446744073709551616) (hr : sumB [wB8 n] = r) :
  CallsR Tryz.prog 66 [.int .u64 z] w fun v w' => v = .agg (B8 r).toArray ∧ Below w.heap.size w w' := by
 obtain ⟨b, hb⟩ : ∃ b, wB8 n = b := ⟨_, rfl⟩
 have hbl : b.length = 8 := by rw [← hb, wB8_len]
 rw [hb] at hr
 have h32 : r.length = 32 := by rw [← hr, sumB_len]
 have hL2 : ∀ x ∈ [b], x.length ≤ 4000 := by
  intro x hx
  obtain rfl := List.mem_singleton.1 hx; omega
 unfold sumB at hr
 refine callsR Tryz.func66 rfl rfl (by kernel_rfl) rfl ?_
 have hw := Below.refl w.heap.size w
 refine zs ?_
 refine wl_allocB Tryz.underlying64 Tryz.zeroValue64 (by rfl) ?_
 rintro g2 w2 f2 b2 i2 i2_1
 have s2 := b2.size
 replace hw := hw.trans (b2.mono hw.size)
 refine wl_nil (zs (zm rfl ?_))
 refine wl_call rfl (C_r1Word8 _ hz rfl hb (by omega)) ?_
 rintro v4 w4 ⟨A4, ⟨c4, ⟨rfl, ⟨f4, b4⟩⟩⟩⟩
 have qf4 := f4.cap
 have s4 := b4.size
 replace hw := hw.trans (b4.mono hw.size)
 replace f2 := f2.u b4
 refine wl_litK1 (by rfl) rfl f4.to_RdT rfl (by omega) (own_max' (by assumption)) (by rfl) ?_
 rintro A5 w5 f5 b5
 have s5 := b5.size
 replace hw := hw.trans (b5.mono hw.size)
 replace f2 := f2.u b5
 replace f4 := f4.u b5
 refine wl_call rfl (C_refSum _ f5 hr (by rfl) (by simp) (by omega)) ?_
 rintro v6 w6 ⟨rfl, b6⟩
 have s6 := b6.size
 replace hw := hw.trans (b6.mono hw.size)
 replace f4 := f4.u b6
 replace f2 := f2.u b6
 replace f5 := f5.u b6
 refine wl_stBa Tryz.sizeOf64 rfl f2 rfl h32 (by rfl) ?_
 rintro w_1 f g e
 have s := g.size
 replace hw := hw.trans (below_of_grownBy g.g hw.size (by omega))
 replace f4 := f4.k g.g (ap_some (by omega))
 clear f5
 clear f2
 refine wl_nil ?_
 refine ret_cell rfl rfl Tryz.isAgg64 Tryz.sizeOf64 f (by rw [B8_length, h32]) ?_
 exact ⟨rfl, hw⟩
theorem C_r8CheckY {k : UInt8} {x : Int} {A : Option Addr} {p : By} {n c : Nat} (w : World) (hk : x = (k.toNat : Int)) (hO : OkR (k, p)) (hn : n = p.length) :
  CallsR Tryz.prog 79 [.agg #[.int .u8 x, .slice A n c]] w fun v w' => v = .int .i64 0 ∧ Below w.heap.size w w' := by
 subst hn; subst hk
 have h1 : (k.toNat : Int) ≠ 0 := fun e => hO.1 (UInt8.toNat_inj.1 (by simpa using e))
 have h2 : p.length ≤ 8192 := hO.2
 refine callsR Tryz.func79 rfl rfl (by kernel_rfl) rfl ?_
 have hw := Below.refl w.heap.size w
 refine zs ?_
 refine wl_boxg [_, _] rfl (by rfl) ?_
 rintro g1 w1 f1 b1 i1 i1_1
 have s1 := b1.size
 replace hw := hw.trans (b1.mono hw.size)
 refine za rfl (wl_nil (rk_seq (zs ?_)))
 refine zp (o_faddr (s := 37) (i := 0) (off := 0) Tryz.underlying37 rfl Tryz.sizeOf5 rfl rfl rfl) ?_
 refine wl_r (o_loadbg Tryz.isAgg5 rfl f1 (by rfl)) ?_
 refine zp (o_eq rfl rfl) ?_
 refine zm rfl ?_
 refine wl_know 6 false rfl (decide_eq_false (by omega)) ?_
 refine zp (o_faddr (s := 37) (i := 1) (off := 1) Tryz.underlying37 rfl Tryz.sizeOf35 rfl rfl rfl) ?_
 refine wl_r (o_loadbg Tryz.isAgg35 rfl f1 (by rfl)) ?_
 refine zp (o_len (t := 35) Tryz.underlying35 rfl) ?_
 refine zp (o_gt rfl rfl) ?_
 refine zp (o_pick_f rfl rfl) ?_
 refine wl_nil ?_
 refine rk_if rfl (fun h11 => absurd h11 (by omega)) (fun h11 => ?_)
 refine rk_skip (zs (za rfl (wl_nil ?_)))
 refine ret1 rfl rfl ?_
 exact ⟨rfl, hw⟩
theorem C_r8CheckN {k : UInt8} {x : Int} {A : Option Addr} {p : By} {n c : Nat} (w : World) (hk : x = (k.toNat : Int)) (hO : ¬OkR (k, p)) (hn : n = p.length) :
  CallsR Tryz.prog 79 [.agg #[.int .u8 x, .slice A n c]] w fun v w' => v = .int .i64 2 ∧ Below w.heap.size w w' := by
 subst hn; subst hk
 by_cases h0 : k = 0
 ·subst h0
  refine callsR Tryz.func79 rfl rfl (by kernel_rfl) rfl ?_
  have hw := Below.refl w.heap.size w
  refine zs ?_
  refine wl_boxg [_, _] rfl (by rfl) ?_
  rintro g1 w1 f1 b1 i1 i1_1
  have s1 := b1.size
  replace hw := hw.trans (b1.mono hw.size)
  refine za rfl (wl_nil (rk_seq (zs ?_)))
  refine zp (o_faddr (s := 37) (i := 0) (off := 0) Tryz.underlying37 rfl Tryz.sizeOf5 rfl rfl rfl) ?_
  refine wl_r (o_loadbg Tryz.isAgg5 rfl f1 (by rfl)) ?_
  refine zp (o_eq rfl rfl) ?_
  refine zm rfl (wl_off (wl_off (wl_off (wl_off ?_))))
  refine zp (o_pick_t rfl rfl) ?_
  refine wl_nil ?_
  refine rk_true rfl ?_
  refine zs (za rfl (wl_nil ?_))
  refine ret1 rfl rfl ?_
  exact ⟨rfl, hw⟩
 ·have h1 : (k.toNat : Int) ≠ 0 := fun e => h0 (UInt8.toNat_inj.1 (by simpa using e))
  have h2 : ¬p.length ≤ 8192 := fun h => hO ⟨h0, h⟩
  refine callsR Tryz.func79 rfl rfl (by kernel_rfl) rfl ?_
  have hw := Below.refl w.heap.size w
  refine zs ?_
  refine wl_boxg [_, _] rfl (by rfl) ?_
  rintro g1 w1 f1 b1 i1 i1_1
  have s1 := b1.size
  replace hw := hw.trans (b1.mono hw.size)
  refine za rfl (wl_nil (rk_seq (zs ?_)))
  refine zp (o_faddr (s := 37) (i := 0) (off := 0) Tryz.underlying37 rfl Tryz.sizeOf5 rfl rfl rfl) ?_
  refine wl_r (o_loadbg Tryz.isAgg5 rfl f1 (by rfl)) ?_
  refine zp (o_eq rfl rfl) ?_
  refine zm rfl ?_
  refine wl_know 6 false rfl (decide_eq_false (by omega)) ?_
  refine zp (o_faddr (s := 37) (i := 1) (off := 1) Tryz.underlying37 rfl Tryz.sizeOf35 rfl rfl rfl) ?_
  refine wl_r (o_loadbg Tryz.isAgg35 rfl f1 (by rfl)) ?_
  refine zp (o_len (t := 35) Tryz.underlying35 rfl) ?_
  refine zp (o_gt rfl rfl) ?_
  refine zp (o_pick_f rfl rfl) ?_
  refine wl_nil ?_
  refine rk_if rfl (fun h11 => ?_) (fun h11 => h11.elim (by omega))
  refine zs (za rfl (wl_nil ?_))
  refine ret1 rfl rfl ?_
  exact ⟨rfl, hw⟩
theorem C_r8Next {k : UInt8} {x : Int} {A : Option Addr} {p d r : By} {n c : Nat} (w : World) (hk : x = (k.toNat : Int)) (hp : Rd w A p) (hn : n = p.length) (hl : p.length ≤ 3500) (hd : d.length = 32) (hr : nextB d (k, p) = r) :
  CallsR Tryz.prog 80 [.agg (B8 d).toArray, .agg #[.int .u8 x, .slice A n c]] w fun v w' => v = .agg (B8 r).toArray ∧ Below w.heap.size w w' := by
 subst hn; subst hk
 have h32 : r.length = 32 := by rw [← hr, nextB, sumB_len]
 obtain ⟨bd, hbd⟩ : ∃ bd, [k] ++ blkB p = bd := ⟨_, rfl⟩
 have hbl : bd.length ≤ 3510 := by rw [← hbd]; exact bodyB_le (r := (k, p)) hl
 have hL2 : ∀ x ∈ [d, bd], x.length ≤ 4000 := by
  intro x hx
  rcases List.mem_cons.1 hx with rfl | hx
  ·omega
  ·obtain rfl := List.mem_singleton.1 hx; omega
 unfold nextB sumB at hr
 rw [show bodyB (k, p) = bd from hbd] at hr
 refine callsR Tryz.func80 rfl rfl (by kernel_rfl) rfl ?_
 have hw := Below.refl w.heap.size w
 refine zs ?_
 refine wl_boxg _ rfl (by rfl) ?_
 rintro g2 w2 f2 b2 i2 i2_1
 have s2 := b2.size
 replace hw := hw.trans (b2.mono hw.size)
 refine wl_boxg [_, _] rfl (by rfl) ?_
 rintro g3 w3 f3 b3 i3 i3_1
 have s3 := b3.size
 replace hw := hw.trans (b3.mono hw.size)
 replace f2 := f2.u b3
 refine wl_allocB Tryz.underlying64 Tryz.zeroValue64 (by rfl) ?_
 rintro g4 w4 f4 b4 i4 i4_1
 have s4 := b4.size
 replace hw := hw.trans (b4.mono hw.size)
 replace f2 := f2.u b4
 replace f3 := f3.u b4
 refine wl_nil (rk_seq ?_)
 refine rk_drawo (id := 1) (none) [0, 0, 2, 4, 0, 16, 40, 65, 192, 511] [0, 0, 2, 6, 0, 16, 62, 127, 255, 511] 968 8 [0, 1, 2, 4, 5, 3, 6, 7, 8, 9] [(.p, 0), (.p, 1), (.r, 2), (.p, 4), (.s, 5), (.c, 3), (.l, 6), (.l, 7), (.l, 8), (.l, 9)] (by kernel_rfl) (by kernel_rfl) (by kernel_rfl) (by kernel_rfl) (by kernel_rfl) ?_
 dsimp only [inOrder, nthOp]
 replace hw := hw.drew
 replace f3 := f3.d
 replace f2 := f2.d
 replace f4 := f4.d
 refine zp (o_slice_arr (t := 64) Tryz.underlying64 Tryz.sizeOf5 rfl) ?_
 refine zp (o_faddr (s := 37) (i := 0) (off := 0) Tryz.underlying37 rfl Tryz.sizeOf5 rfl rfl rfl) ?_
 refine wl_r (o_loadbg Tryz.isAgg5 rfl f3 (by rfl)) ?_
 refine zp (o_faddr (s := 37) (i := 1) (off := 1) Tryz.underlying37 rfl Tryz.sizeOf35 rfl rfl rfl) ?_
 refine wl_s (fun _ hk => (o_loadbg Tryz.isAgg35 rfl (f3.u (below_of_grown_none hk)) (by rfl))) ?_
 refine wl_litB [k] Tryz.u8 Tryz.sizeOf5 Tryz.zeroValue5 (by rfl) rfl rfl (by rfl) (by rfl) (by rfl) ?_
 rintro A8 w8 f8 b8
 simp only [drew_size] at f8
 simp only [drew_size] at b8
 have qf8 := f8.cap
 have s8 := b8.size
 simp only [drew_size] at s8
 replace hw := hw.trans (b8.mono hw.size)
 replace f4 := f4.u b8
 replace f2 := f2.u b8
 replace f3 := f3.u b8
 refine wl_call rfl (C_r1BlockH _ f8.to_Rd (hp.u hw) (by rfl) rfl (by omega) (by omega)) ?_
 rintro v11 w11 ⟨A11, ⟨c11, ⟨rfl, ⟨f11, b11⟩⟩⟩⟩
 have qf11 := f11.cap
 have s11 := b11.size
 replace hw := hw.trans (b11.mono hw.size)
 replace f3 := f3.u b11
 replace f2 := f2.u b11
 replace f4 := f4.u b11
 replace f8 := f8.u b11
 refine wl_litKr2 (by rfl) rfl f2.to_Rd f11.to_Rd (by omega) rfl (by omega) (by omega) (by omega) (own_max' (by assumption)) (by rfl) ?_
 rintro A12 w12 f12 b12
 have s12 := b12.size
 replace hw := hw.trans (b12.mono hw.size)
 replace f8 := f8.u b12
 replace f4 := f4.u b12
 replace f2 := f2.u b12
 replace f3 := f3.u b12
 replace f11 := f11.u b12
 rw [hbd] at f12
 refine wl_call rfl (C_refSum _ f12 hr (by rfl) (by simp) (by omega)) ?_
 rintro v13 w13 ⟨rfl, b13⟩
 have s13 := b13.size
 replace hw := hw.trans (b13.mono hw.size)
 replace f11 := f11.u b13
 replace f3 := f3.u b13
 replace f2 := f2.u b13
 replace f4 := f4.u b13
 replace f8 := f8.u b13
 replace f12 := f12.u b13
 refine wl_stBa Tryz.sizeOf64 rfl f4 rfl h32 (by rfl) ?_
 rintro w_1 f g e
 have s := g.size
 replace hw := hw.trans (below_of_grownBy g.g hw.size (by omega))
 replace f8 := f8.k g.g (ap_some (by omega))
 replace f2 := f2.k g.g (ap_some (by omega))
 replace f3 := f3.k g.g (ap_some (by omega))
 replace f11 := f11.k g.g (ap_some (by omega))
 clear f12
 clear f4
 refine wl_nild ?_
 refine ret_cell rfl rfl Tryz.isAgg64 Tryz.sizeOf64 f (by rw [B8_length, h32]) ?_
 exact ⟨rfl, hw⟩
theorem C_r8BytesOk {k : UInt8} {x : Int} {A : Option Addr} {p d bs r : By} {n c : Nat} (w : World) (hk : x = (k.toNat : Int)) (hp : Rd w A p) (hO : OkR (k, p)) (hb : bytesR d (k, p) = bs) (hr : nextB d (k, p) = r) (hn : n = p.length) (hl : p.length ≤ 3500) (hd : d.length = 32) :
  CallsR Tryz.prog 49 [.agg (B8 d).toArray, .agg #[.int .u8 x, .slice A n c]] w fun v w' => ∃ (A' : Option Addr) (c' : Nat), v = .tuple #[.slice A' bs.length c', .agg (B8 r).toArray, .int .i64 0] ∧ OwnH w' w.heap.size w'.heap.size A' c' bs ∧ Below w.heap.size w w' := by
 subst hn; subst hk
 have h32 : r.length = 32 := by rw [← hr, nextB, sumB_len]
 have hbl := bodyB_le (r := (k, p)) hl
 have h8 : (r.take 8).length = 8 := by rw [List.length_take]; omega
 have hbs : [k] ++ blkB p ++ r.take 8 = bs := by rw [← hb, bytesR, hr]; rfl
 have hbb : ([k] ++ blkB p).length ≤ 3510 := hbl
 refine callsR Tryz.func49 rfl rfl (by kernel_rfl) rfl ?_
 have hw := Below.refl w.heap.size w
 refine zs ?_
 refine wl_boxg _ rfl (by rfl) ?_
 rintro g2 w2 f2 b2 i2 i2_1
 have s2 := b2.size
 replace hw := hw.trans (b2.mono hw.size)
 refine wl_boxg [_, _] rfl (by rfl) ?_
 rintro g3 w3 f3 b3 i3 i3_1
 have s3 := b3.size
 replace hw := hw.trans (b3.mono hw.size)
 replace f2 := f2.u b3
 refine za rfl ?_
 refine wl_allocB Tryz.underlying64 Tryz.zeroValue64 (by rfl) ?_
 rintro g5 w5 f5 b5 i5 i5_1
 have s5 := b5.size
 replace hw := hw.trans (b5.mono hw.size)
 replace f2 := f2.u b5
 replace f3 := f3.u b5
 refine za rfl (wl_nil (rk_seq (zs ?_)))
 refine wl_r (o_loadag Tryz.isAgg37 Tryz.sizeOf37 rfl f3 (by rfl)) ?_
 refine wl_call rfl (C_r8CheckY _ (by rfl) hO rfl) ?_
 rintro v9 w9 ⟨rfl, b9⟩
 have s9 := b9.size
 replace hw := hw.trans (b9.mono hw.size)
 replace f3 := f3.u b9
 replace f2 := f2.u b9
 replace f5 := f5.u b9
 refine zp (o_ne rfl rfl) ?_
 refine wl_nil ?_
 refine rk_false rfl ?_
 refine rk_skip (zs ?_)
 refine wl_r (o_ldBa Tryz.isAgg64 Tryz.sizeOf64 rfl f2 hd) ?_
 refine wl_r (o_loadag Tryz.isAgg37 Tryz.sizeOf37 rfl f3 (by rfl)) ?_
 refine wl_call rfl (C_r8Next _ (by rfl) (hp.u hw) rfl (by omega) hd hr) ?_
 rintro v14 w14 ⟨rfl, b14⟩
 have s14 := b14.size
 replace hw := hw.trans (b14.mono hw.size)
 replace f5 := f5.u b14
 replace f2 := f2.u b14
 replace f3 := f3.u b14
 refine wl_allocB Tryz.underlying64 Tryz.zeroValue64 (by rfl) ?_
 rintro g7 w7 f7 b7 i7 i7_1
 have s7 := b7.size
 replace hw := hw.trans (b7.mono hw.size)
 replace f3 := f3.u b7
 replace f2 := f2.u b7
 replace f5 := f5.u b7
 refine wl_stBa Tryz.sizeOf64 rfl f7 rfl h32 (by rfl) ?_
 rintro w_1 f g e
 have s := g.size
 replace hw := hw.trans (below_of_grownBy g.g hw.size (by omega))
 replace f5 := f5.k g.g (ap_some (by omega))
 replace f2 := f2.k g.g (ap_some (by omega))
 replace f3 := f3.k g.g (ap_some (by omega))
 clear f7
 refine wl_nil (rk_seq ?_)
 refine rk_drawoB (id := 4) (none) [0, 1, 2, 0, 8, 20, 0, 96, 0, 255, 1023, 2047] [0, 1, 3, 0, 8, 31, 0, 127, 0, 255, 1023, 2047] 1188 164 [0, 1, 3, 4, 6, 8, 2, 5, 7, 9, 10, 11] [(.p, 0), (.r, 1), (.p, 3), (.s, 4), (.p, 6), (.s, 8), (.c, 2), (.c, 5), (.c, 7), (.p, 9), (.l, 10), (.p, 11)] (by kernel_rfl) (by kernel_rfl) (by kernel_rfl) (by kernel_rfl) (by kernel_rfl) ?_
 dsimp only [inOrder, nthOp]
 replace hw := hw.drew
 replace f3 := f3.d
 replace f2 := f2.d
 replace f5 := f5.d
 replace f := f.d
 refine zp (o_faddr (s := 37) (i := 0) (off := 0) Tryz.underlying37 rfl Tryz.sizeOf5 rfl rfl rfl) ?_
 refine wl_r (o_loadbg Tryz.isAgg5 rfl f3 (by rfl)) ?_
 refine zp (o_faddr (s := 37) (i := 1) (off := 1) Tryz.underlying37 rfl Tryz.sizeOf35 rfl rfl rfl) ?_
 refine wl_s (fun _ hk => (o_loadbg Tryz.isAgg35 rfl (f3.u (below_of_ok hk (Nat.le_refl _) (fun _ e => by cases e))) (by rfl))) ?_
 refine zp (o_slArrHi (8) Tryz.underlying64 Tryz.sizeOf5 rfl rfl (by omega) (by omega)) ?_
 refine wl_s (fun _ hk => (o_ldBa Tryz.isAgg64 Tryz.sizeOf64 rfl (f.u (below_of_ok hk (Nat.le_refl _) (fun _ e => by cases e))) h32)) ?_
 refine wl_litB [k] Tryz.u8 Tryz.sizeOf5 Tryz.zeroValue5 (by rfl) rfl rfl (by rfl) (by rfl) (by rfl) ?_
 rintro A17 w17 f17 b17
 simp only [drew_size] at f17
 simp only [drew_size] at b17
 have qf17 := f17.cap
 have s17 := b17.size
 simp only [drew_size] at s17
 replace hw := hw.trans (b17.mono hw.size)
 replace f := f.u b17
 replace f5 := f5.u b17
 replace f2 := f2.u b17
 replace f3 := f3.u b17
 refine wl_call rfl (C_r1BlockH _ f17.to_Rd (hp.u hw) (by rfl) rfl (by omega) (by omega)) ?_ (hq := .inr fun _ _ h => grown_of_below h.choose_spec.choose_spec.2.2 _)
 rintro v20 w20 ⟨A20, ⟨c20, ⟨rfl, ⟨f20, b20⟩⟩⟩⟩
 have qf20 := f20.cap
 have s20 := b20.size
 replace hw := hw.trans (b20.mono hw.size)
 replace f3 := f3.u b20
 replace f2 := f2.u b20
 replace f5 := f5.u b20
 replace f := f.u b20
 replace f17 := f17.u b20
 have hr8 := rd_pre f 8
 refine wl_appBm Tryz.u8 rfl f20 rfl rfl hr8 (by omega) (by omega) (by have := hw.size; omega) ?_ (hq := .inr (.inr fun k e => by have := (RowH.lt f20 k e).1; omega))
 rintro A22 c22 w22 f22 g22 b22
 rw [hbs] at f22
 rw [hbs]
 replace f := f.k g22.g (fun j e => by have := (RowH.lt f20 j e).1; omega)
 replace f5 := f5.k g22.g (fun j e => by have := (RowH.lt f20 j e).1; omega)
 replace hw := hw.trans (g22.below hw.size (fun j e => by have := (RowH.lt f20 j e).1; omega))
 clear f20 f17 f2 f3 hr8 hp b22
 refine za rfl ?_
 refine wl_stBa Tryz.sizeOf64 rfl f5 rfl h32 (by rfl) ?_
 rintro w_2 f_1 g_1 e_1
 have s_1 := g_1.size
 replace hw := hw.trans (below_of_grownBy g_1.g hw.size (by omega))
 replace f := f.k g_1.g (ap_some (by omega))
 replace f22 := f22.k g_1.g (ap_some (by omega))
 clear f5
 refine za rfl ?_
 refine wl_nild ?_
 refine ret_any (vs := [.slice A22 bs.length c22, .agg (B8 r).toArray, .int .i64 0]) rfl (.tmp rfl (.cell rfl Tryz.isAgg64 Tryz.sizeOf64 f_1 (by rw [B8_length, h32]) (.tmp rfl .nil))) (by simp) ?_
 exact ⟨A22, c22, rfl, f22.top.base (by omega) (Nat.le_refl _), hw⟩
theorem C_r8BytesBad {k : UInt8} {x : Int} {A : Option Addr} {p d : By} {n c : Nat} (w : World) (hk : x = (k.toNat : Int)) (hO : ¬OkR (k, p)) (hn : n = p.length) :
  CallsR Tryz.prog 49 [.agg (B8 d).toArray, .agg #[.int .u8 x, .slice A n c]] w fun v w' => v = .tuple #[.slice none 0 0, .agg (B8 nul32).toArray, .int .i64 2] ∧ Below w.heap.size w w' := by
 subst hn; subst hk
 refine callsR Tryz.func49 rfl rfl (by kernel_rfl) rfl ?_
 have hw := Below.refl w.heap.size w
 refine zs ?_
 refine wl_boxg _ rfl (by rfl) ?_
 rintro g2 w2 f2 b2 i2 i2_1
 have s2 := b2.size
 replace hw := hw.trans (b2.mono hw.size)
 refine wl_boxg [_, _] rfl (by rfl) ?_
 rintro g3 w3 f3 b3 i3 i3_1
 have s3 := b3.size
 replace hw := hw.trans (b3.mono hw.size)
 replace f2 := f2.u b3
 refine za rfl ?_
 refine wl_allocB Tryz.underlying64 Tryz.zeroValue64 (by rfl) ?_
 rintro g5 w5 f5 b5 i5 i5_1
 have s5 := b5.size
 replace hw := hw.trans (b5.mono hw.size)
 replace f2 := f2.u b5
 replace f3 := f3.u b5
 refine za rfl (wl_nil (rk_seq (zs ?_)))
 refine wl_r (o_loadag Tryz.isAgg37 Tryz.sizeOf37 rfl f3 (by rfl)) ?_
 refine wl_call rfl (C_r8CheckN _ (by rfl) hO rfl) ?_
 rintro v9 w9 ⟨rfl, b9⟩
 have s9 := b9.size
 replace hw := hw.trans (b9.mono hw.size)
 replace f3 := f3.u b9
 replace f2 := f2.u b9
 replace f5 := f5.u b9
 refine zp (o_ne rfl rfl) ?_
 refine wl_nil ?_
 refine rk_true rfl ?_
 refine zs ?_
 refine zp (o_buildD0) ?_
 refine za rfl ?_
 refine wl_stBa Tryz.sizeOf64 rfl f5 rfl (by rfl) (by rfl) ?_
 rintro w_1 f g e
 have s := g.size
 replace hw := hw.trans (below_of_grownBy g.g hw.size (by omega))
 replace f2 := f2.k g.g (ap_some (by omega))
 replace f3 := f3.k g.g (ap_some (by omega))
 clear f5
 refine za rfl (wl_nil ?_)
 refine ret_any rfl (.tmp rfl <| .cell rfl Tryz.isAgg64 Tryz.sizeOf64 (by assumption) rfl <| .tmp rfl <| .nil) (by simp) ?_
 exact ⟨rfl, hw⟩
end Go.Proofs.YtnnhenafhalobaaGreat
namespace Go.Proofs.YtnnhenafhalobaaGreat
set_option maxRecDepth 100000
open Go.RowKit

def Rfr (w : World) (g : Nat) (s : RS) : Prop :=
 ∃ B cap A c l, Blk w g 155 [.slice B s.1.length cap, .int .i64 s.2] ∧ Rd w B s.1 ∧ s.1.length ≤ cap ∧ s.1.length ≤ 140737488355328 ∧ Own w 0 A c l ∧ blk B = blk A ∧ s.2 ≤ 100
theorem Rfr.below {w w' : World} {g : Nat} {s : RS} (h : Rfr w g s) (hb : Below w.heap.size w w') : Rfr w' g s := by
 obtain ⟨B, cap, A, c, l, hB, hr, h1, h2, ho, h3⟩ := h
 exact ⟨B, cap, A, c, l, hB.under hb, hr.below hb, h1, h2, ho.below hb, h3⟩
theorem Rfr.blk {w : World} {g : Nat} {s : RS} (h : Rfr w g s) : ∃ cs, Blk w g 155 cs := by
 obtain ⟨B, cap, A, c, l, hB, -⟩ := h
 exact ⟨_, hB⟩
theorem Rfr.lt {w : World} {g : Nat} {s : RS} (h : Rfr w g s) : g < w.heap.size := h.blk.choose_spec.lt
theorem Tryz.build_RefReader (A : Option Addr) (n c : Nat) (w : World) : (Instr.build 155 ([0].zip [Value.slice A n c]).toArray).run Tryz.prog w = .ok (.agg #[.slice A n c, .int .i64 0]) w := by kernel_rfl

theorem C_refRead {A : Option Addr} {l : List UInt8} {k : Nat} (c : Nat) (hk : k = l.length) (w : World) (hr : Rd w A l) (hl : l.length ≤ 140737488355328) :
  CallsR Tryz.prog 91 [.slice A k c] w fun v w' => ∃ g, v = .pointer (some ⟨g, 0, none⟩) ∧ w.heap.size ≤ g ∧ Rfr w' g (l, 0) ∧ Below w.heap.size w w' := by
 refine callsR Tryz.func91 rfl rfl (by kernel_rfl) rfl ?_
 refine zs (za rfl (wl_nil (zs ?_)))
 refine wl_lit8 (xs := []) [] Tryz.u8 Tryz.sizeOf5 Tryz.zeroValue5 rfl rfl ?_
 intro w1 hown1 hb1 hz1
 refine zm rfl ?_
 refine wl_app (s := []) Tryz.u8 rfl rfl hown1 rfl hk (hr.below hb1) (by simpa using hl) hb1.size ?_
 intro A5 c5 w5 hown5 hg5 hk5 hb5
 rw [List.nil_append] at hown5 ⊢
 refine zp (o_build (is := [0]) (xs := [.tmp 5]) rfl (fun _ => Tryz.build_RefReader _ _ _ _)) ?_
 refine wl_box [.slice A5 l.length c5, .int .i64 0] rfl rfl ?_
 intro w6 hB6 hb6 hz6
 refine za rfl (wl_nil ?_)
 refine ret1 rfl rfl ?_
 have hlt := hown5.lt
 have hs5 := hb5.size
 have hs1 := hb1.size
 have hc5 : l.length ≤ c5 := by
  rcases hown5.2 with ⟨h1, h2⟩ | ⟨g', cap, cur, h1, h2, h3, h4, h5⟩
  ·omega
  ·injection h1 with _ _ h1; omega
 exact ⟨w5.heap.size, rfl, by omega, ⟨A5, c5, A5, c5, l, hB6, hown5.rd.below hb6, hc5, hl, (hown5.below hb6).base (by omega), rfl, by simp⟩, hb1.trans (hb5.trans (hb6.mono (by omega)))⟩

theorem C_refTake {g : Nat} {s : RS} (n : Int) (w : World) (hR : Rfr w g s) (hn : n ≤ 9223372036854775807) :
  CallsR Tryz.prog 115 [.pointer (some ⟨g, 0, none⟩), .int .i64 n] w fun v w' => (∃ A' c', v = .slice A' (rTake n.toNat s).1.length c' ∧ Own w' w.heap.size A' c' (rTake n.toNat s).1) ∧ w.grownBy w' (some g) ∧ Rfr w' g (rTake n.toNat s).2 := by
 have hR0 := hR
 obtain ⟨B, cap, A, c, l, hB, hr, h1, h2, ho, h3, h4⟩ := hR
 obtain ⟨x, e⟩ := s
 simp only at hB hr h1 h2 h4
 have hm : max n 0 = (n.toNat : Int) := by omega
 have hA := ho.ne hB (by decide)
 refine callsR Tryz.func115 rfl rfl (by kernel_rfl) rfl ?_
 refine zs (za rfl (wl_nil (zs (zm rfl ?_))))
 refine zp (o_max rfl rfl) ?_
 refine za rfl (wl_nil (rk_seq (zs (zm rfl ?_))))
 refine zp (o_nil rfl) ?_
 refine zp (o_faddr (s := 155) (i := 1) (off := 1) Tryz.underlying155 rfl Tryz.sizeOf27 rfl rfl rfl) ?_
 refine wl_r (o_loadb (t := 27) Tryz.isAgg27 rfl hB (by rfl)) ?_
 refine zp (o_eq rfl rfl) ?_
 refine zm rfl ?_
 refine wl_bool 13 rfl (fun h13 => ?_) (fun h13 => ?_)
 ·have he : e = 0 := by have := of_decide_eq_true h13; omega
  subst he
  refine zm rfl ?_
  refine zp (o_nil rfl) ?_
  refine zp (o_faddr (s := 155) (i := 0) (off := 0) Tryz.underlying155 rfl Tryz.sizeOf35 rfl rfl rfl) ?_
  refine wl_r (o_loadb (t := 35) Tryz.isAgg35 rfl hB (by rfl)) ?_
  refine zp (o_len (t := 35) Tryz.underlying35 rfl) ?_
  refine zm rfl ?_
  refine zp (o_lt rfl rfl) ?_
  refine zp (o_pick_t rfl rfl) ?_
  refine wl_nil ?_
  refine rk_if rfl (fun h => ?_) (fun h => ?_)
  ·rw [hm] at h
   have e1 : rTake n.toNat (x, 0) = ([], (x, 5)) := by unfold rTake; rw [if_neg (by simp), if_pos (by show x.length < n.toNat; omega)]
   rw [e1]
   refine rk_region (zm rfl ?_)
   refine zp (o_nil rfl) ?_
   refine zp (o_faddr (s := 155) (i := 1) (off := 1) Tryz.underlying155 rfl Tryz.sizeOf27 rfl rfl rfl) ?_
   refine wl_store1 Tryz.sizeOf27 rfl rfl rfl hB (by simp) ?_
   intro w1 hB1 hg1 hz1
   refine wl_nil (rk_seq (zs (zm rfl ?_)))
   refine zp (o_nil rfl) ?_
   refine zp (o_faddr (s := 155) (i := 1) (off := 1) Tryz.underlying155 rfl Tryz.sizeOf27 rfl rfl rfl) ?_
   refine wl_r (o_loadb (t := 27) Tryz.isAgg27 rfl hB1 (by rfl)) ?_
   refine zp (o_ne rfl rfl) ?_
   refine wl_nil ?_
   refine rk_true rfl ?_
   refine zs (za rfl (wl_nil ?_))
   refine ret1 rfl rfl ?_
   exact ⟨⟨none, 0, rfl, Own.nil _ _⟩, hg1, B, cap, A, c, l, hB1, hr.grown hg1 (.inr (by rw [h3]; exact hA)), h1, h2, ho.kept hg1 (.inr hA), h3, by simp⟩
  ·rw [hm] at h
   have hle : n.toNat ≤ x.length := by omega
   have e1 : rTake n.toNat (x, 0) = (x.take n.toNat, (x.drop n.toNat, 0)) := by unfold rTake; rw [if_neg (by simp), if_neg (by show ¬ x.length < n.toNat; omega)]
   rw [e1]
   refine rk_skip (rk_seq (zs (zm rfl ?_)))
   refine zp (o_nil rfl) ?_
   refine zp (o_faddr (s := 155) (i := 1) (off := 1) Tryz.underlying155 rfl Tryz.sizeOf27 rfl rfl rfl) ?_
   refine wl_r (o_loadb (t := 27) Tryz.isAgg27 rfl hB (by rfl)) ?_
   refine zp (o_ne rfl rfl) ?_
   refine wl_nil ?_
   refine rk_false rfl ?_
   refine rk_skip (zs (zm rfl ?_))
   refine zp (o_nil rfl) ?_
   refine zp (o_faddr (s := 155) (i := 0) (off := 0) Tryz.underlying155 rfl Tryz.sizeOf35 rfl rfl rfl) ?_
   refine wl_r (o_loadb (t := 35) Tryz.isAgg35 rfl hB (by rfl)) ?_
   refine zm rfl ?_
   refine zp (o_slice_hi Tryz.underlying35 Tryz.sizeOf5 rfl rfl hm (by omega)) ?_
   refine za rfl (wl_nil (zs (zm rfl (zm rfl ?_))))
   refine zp (o_nil rfl) ?_
   refine zp (o_faddr (s := 155) (i := 0) (off := 0) Tryz.underlying155 rfl Tryz.sizeOf35 rfl rfl rfl) ?_
   refine wl_r (o_loadb (t := 35) Tryz.isAgg35 rfl hB (by rfl)) ?_
   refine zm rfl ?_
   refine zp (o_slice_lo Tryz.underlying35 Tryz.sizeOf5 rfl rfl hm hle) ?_
   refine zp (o_nil rfl) ?_
   refine zp (o_faddr (s := 155) (i := 0) (off := 0) Tryz.underlying155 rfl Tryz.sizeOf35 rfl rfl rfl) ?_
   refine wl_store1 Tryz.sizeOf35 rfl rfl rfl hB (by simp) ?_
   intro w1 hB1 hg1 hz1
   refine wl_nil (zs ?_)
   have hr1 := hr.grown hg1 (.inr (by rw [h3]; exact hA))
   refine wl_lit8 (xs := []) [] Tryz.u8 Tryz.sizeOf5 Tryz.zeroValue5 rfl rfl ?_
   intro w2 hown2 hb2 hz2
   refine zm rfl ?_
   refine wl_app (s := []) (m := x.take n.toNat) Tryz.u8 rfl rfl hown2 rfl (by simp; omega) ((hr1.take hle).below hb2) (by simp; omega) hb2.size ?_
   intro A5 c5 w5 hown5 hg5 hk5 hb5
   rw [List.nil_append] at hown5 ⊢
   refine za rfl (wl_nil ?_)
   refine ret1 rfl rfl ?_
   have hb := hb2.trans hb5
   have hl : (x.drop n.toNat).length = x.length - n.toNat := by simp
   refine ⟨⟨A5, c5, rfl, hown5.base (by rw [hz1]; exact Nat.le_refl _)⟩, grownBy_trans hg1 (grownBy_of_below hb _), ?_⟩
   exact ⟨cutA B cap 1 n.toNat, cap - n.toNat, A, c, l, by rw [hl]; exact hB1.under hb, (hr1.cut hle h1).below hb, by rw [hl]; omega, by rw [hl]; omega, (ho.kept hg1 (.inr hA)).below hb, by rw [blk_cutA]; exact h3, by simp⟩
 ·have he : e ≠ 0 := by intro h0; subst h0; exact absurd h13 (by decide)
  have e1 : rTake n.toNat (x, e) = ([], (x, e)) := by unfold rTake; rw [if_pos he]
  rw [e1]
  refine wl_off (wl_off (wl_off (wl_off (wl_off (wl_off (wl_off ?_))))))
  refine zp (o_pick_f rfl rfl) ?_
  refine wl_nil ?_
  refine rk_false rfl ?_
  refine rk_skip (rk_seq (zs (zm rfl ?_)))
  refine zp (o_nil rfl) ?_
  refine zp (o_faddr (s := 155) (i := 1) (off := 1) Tryz.underlying155 rfl Tryz.sizeOf27 rfl rfl rfl) ?_
  refine wl_r (o_loadb (t := 27) Tryz.isAgg27 rfl hB (by rfl)) ?_
  refine zp (o_ne rfl rfl) ?_
  refine wl_nil ?_
  refine rk_if rfl (fun h => ?_) (fun h => absurd h (by omega))
  refine zs (za rfl (wl_nil ?_))
  refine ret1 rfl rfl ?_
  exact ⟨⟨none, 0, rfl, Own.nil _ _⟩, World.grownBy.refl _ _, hR0⟩

theorem bit_lead (x : UInt8) (k : Nat) (h1 : 1 ≤ k) (h8 : k ≤ 8) (hk : k ≤ lead x) : (x.toNat / 2 ^ (8 - k)) % 2 = 1 ↔ k < lead x := by
 have : ∀ (x : Fin 256) (k : Fin 9), 1 ≤ k.val → k.val ≤ lead (UInt8.ofNat x.val) → ((x.val / 2 ^ (8 - k.val)) % 2 = 1 ↔ k.val < lead (UInt8.ofNat x.val)) := by decide +kernel
 have h := this ⟨x.toNat, x.toNat_lt⟩ ⟨k, by omega⟩ h1
 simp only [UInt8.ofNat_toNat] at h
 exact h hk

theorem bit_int (x : UInt8) (k : Nat) (h8 : k ≤ 8) : ((x.toNat : Int) / 2 ^ min (8 - (k : Int)).toNat IntKind.u8.bits) % 2 = ((x.toNat / 2 ^ (8 - k) % 2 : Nat) : Int) := by
 have e2 : min (8 - (k : Int)).toNat IntKind.u8.bits = 8 - k := by show min _ 8 = _; omega
 rw [e2]; rfl
theorem wrap_nat (n : Nat) (h : n < u64) : IntKind.u64.wrap (n : Int) = (n : Int) := by
 unfold u64 at h
 show (n : Int) % 18446744073709551616 = n
 omega
theorem wrap_add (a c : Nat) (h : a + c < u64) : IntKind.u64.wrap ((a : Int) + (c : Int)) = ((a + c : Nat) : Int) := by
 rw [← Int.natCast_add]
 exact wrap_nat _ h
theorem shl_one (k : Nat) (h9 : k ≤ 8) (h1 : 1 ≤ k) : IntKind.u64.wrap (1 * 2 ^ min (8 - (k : Int)).toNat IntKind.u64.bits) = ((2 ^ (8 - k) : Nat) : Int) := by
 have h3 : ∀ k : Fin 9, IntKind.u64.wrap (1 * 2 ^ min (8 - (k.val : Int)).toNat IntKind.u64.bits) = ((2 ^ (8 - k.val) : Nat) : Int) := by decide +kernel
 exact h3 ⟨k, by omega⟩

set_option maxHeartbeats 2000000 in
theorem C_refRNumber {g : Nat} {s : RS} (w : World) (hR : Rfr w g s) :
  CallsR Tryz.prog 116 [.pointer (some ⟨g, 0, none⟩)] w fun v w' => v = .int .u64 (rNumber s).1 ∧ w.grownBy w' (some g) ∧ w'.heap.size = w.heap.size ∧ Rfr w' g (rNumber s).2 := by
 have hR0 := hR
 obtain ⟨B, cap, A, c, l, hB, hr, h1, h2, ho, h3, h4⟩ := hR
 obtain ⟨x, e⟩ := s
 simp only at hB hr h1 h2 h4
 have hA := ho.ne hB (by decide)
 refine callsR Tryz.func116 rfl rfl (by kernel_rfl) rfl ?_
 refine zs (za rfl (wl_nil (rk_seq (zs (zm rfl ?_)))))
 refine zp (o_nil rfl) ?_
 refine zp (o_faddr (s := 155) (i := 1) (off := 1) Tryz.underlying155 rfl Tryz.sizeOf27 rfl rfl rfl) ?_
 refine wl_r (o_loadb (t := 27) Tryz.isAgg27 rfl hB (by rfl)) ?_
 refine zp (o_ne rfl rfl) ?_
 refine wl_nil ?_
 refine rk_if rfl (fun h => ?_) (fun h => ?_)
 ·have he : e ≠ 0 := by omega
  rw [rNumber_err he]
  refine zs (za rfl (wl_nil ?_))
  refine ret1 rfl rfl ?_
  exact ⟨rfl, World.grownBy.refl _ _, rfl, hR0⟩
 have he : e = 0 := by omega
 subst he
 refine rk_skip (rk_seq (zs (zm rfl ?_)))
 refine zp (o_nil rfl) ?_
 refine zp (o_faddr (s := 155) (i := 0) (off := 0) Tryz.underlying155 rfl Tryz.sizeOf35 rfl rfl rfl) ?_
 refine wl_r (o_loadb (t := 35) Tryz.isAgg35 rfl hB (by rfl)) ?_
 refine zp (o_len (t := 35) Tryz.underlying35 rfl) ?_
 refine zp (o_eq rfl rfl) ?_
 refine wl_nil ?_
 refine rk_if rfl (fun h => ?_) (fun h => ?_)
 ·have hx : x = [] := List.eq_nil_of_length_eq_zero (by omega)
  subst hx
  rw [rNumber_nil]
  refine zs (zm rfl ?_)
  refine zp (o_nil rfl) ?_
  refine zp (o_faddr (s := 155) (i := 1) (off := 1) Tryz.underlying155 rfl Tryz.sizeOf27 rfl rfl rfl) ?_
  refine wl_store1 Tryz.sizeOf27 rfl rfl rfl hB (by simp) ?_
  intro w1 hB1 hg1 hz1
  refine wl_nil (zs (za rfl (wl_nil ?_)))
  refine ret1 rfl rfl ?_
  exact ⟨rfl, hg1, hz1, B, cap, A, c, l, hB1, Rd.nil _ _, h1, h2, ho.kept hg1 (.inr hA), h3, by simp⟩
 obtain ⟨b, t, rfl⟩ : ∃ b t, x = b :: t := by cases x with | nil => simp at h | cons b t => exact ⟨b, t, rfl⟩
 obtain ⟨bb, oo, rfl, hbl, hcell⟩ := hr.at_ (by simp)
 have hk := lead_bd b
 have hb256 : b.toNat < 256 := b.toNat_lt
 have hlen : (b :: t).length = t.length + 1 := rfl
 have hc0 := hcell 0 (by simp)
 simp only [List.getElem_cons_zero] at hc0
 refine rk_skip (zs (za rfl (wl_nil (rk_seq (rk_block ?_)))))
 refine rk_joinb (fun fr w' => fr = [(0, .pointer (some ⟨g, 0, none⟩)), (3, .int .i64 (lead b))] ∧ w = w') ?_ (fun ks hj => ?_)
 rotate_left
 ·refine rk_loop (fun m fr w' => ∃ k : Nat, ∃ v : Int, fr = [(0, .pointer (some ⟨g, 0, none⟩)), (3, .int .i64 v)] ∧ v = k ∧ 1 ≤ k ∧ k ≤ lead b ∧ m = 9 - k ∧ w = w') (n := 8) (by repeat' constructor) ⟨1, 1, rfl, rfl, by omega, by omega, rfl, rfl⟩ ?_
  rintro m fr _ ⟨k, v, rfl, rfl, hk1, hkl, rfl, rfl⟩
  refine rk_seq (zs (zm rfl ?_))
  refine zp (o_lt rfl rfl) ?_
  refine zm rfl ?_
  refine wl_bool 22 rfl (fun h22 => ?_) (fun h22 => ?_)
  ·have h9 : (k : Int) < 9 := of_decide_eq_true h22
   have h8 : k ≤ 8 := by omega
   refine zm rfl ?_
   refine zp (o_nil rfl) ?_
   refine zp (o_faddr (s := 155) (i := 0) (off := 0) Tryz.underlying155 rfl Tryz.sizeOf35 rfl rfl rfl) ?_
   refine wl_r (o_loadb (t := 35) Tryz.isAgg35 rfl hB (by rfl)) ?_
   refine zp (o_iaddr1 (j := 0) Tryz.underlying35 Tryz.sizeOf5 rfl rfl rfl (by simp)) ?_
   refine wl_r (o_load (t := 5) Tryz.isAgg5 rfl hc0) ?_
   refine zm rfl ?_
   refine zp (o_sub rfl rfl (by omega) (by omega)) ?_
   refine zp (o_convu64 (src := 3) (dst := 151) Tryz.underlying3 Tryz.underlying151 rfl (by omega) (by omega)) ?_
   refine zp (o_shr rfl rfl (by omega)) ?_
   refine zp (o_asi (o_remu rfl rfl (Int.ediv_nonneg (Int.natCast_nonneg _) (Int.le_of_lt (Int.pow_pos (by decide)))) (by decide)) (bit_int b k h8)) ?_
   refine zp (o_eq rfl rfl) ?_
   refine zp (o_pick_t rfl rfl) ?_
   refine wl_nil ?_
   refine rk_if rfl (fun h => ?_) (fun h => ?_)
   ·have hlt := (bit_lead b k hk1 h8 hkl).1 (by omega)
    refine rk_skip (rk_block (rk_region (zm rfl ?_)))
    refine zp (o_add rfl rfl (by omega) (by omega)) ?_
    refine za rfl (wl_nil ?_)
    refine rk_blk ?_
    exact rk_again (by repeat' constructor) ⟨k + 1, _, rfl, rfl, by omega, by omega, rfl, rfl⟩ (by omega)
   ·have hlt : ¬ k < lead b := fun h5 => h (by have := (bit_lead b k hk1 h8 hkl).2 h5; omega)
    obtain rfl : k = lead b := by omega
    refine rk_exit rfl ?_
    exact rk_to hj (by repeat' constructor) ⟨rfl, rfl⟩
  ·have h9 : ¬ (k : Int) < 9 := of_decide_eq_false h22
   obtain rfl : k = lead b := by omega
   refine wl_off (wl_off (wl_off (wl_off (wl_off (wl_off (wl_off (wl_off (wl_off (wl_off (wl_off (wl_off ?_)))))))))))
   refine zp (o_pick_f rfl rfl) ?_
   refine wl_nil ?_
   refine rk_false rfl ?_
   refine rk_exit rfl ?_
   exact rk_to hj (by repeat' constructor) ⟨rfl, rfl⟩
 rintro fr _ ⟨rfl, rfl⟩
 refine rk_seq (zs (zm rfl ?_))
 refine zp (o_nil rfl) ?_
 refine zp (o_faddr (s := 155) (i := 0) (off := 0) Tryz.underlying155 rfl Tryz.sizeOf35 rfl rfl rfl) ?_
 refine wl_r (o_loadb (t := 35) Tryz.isAgg35 rfl hB (by rfl)) ?_
 refine zp (o_len (t := 35) Tryz.underlying35 rfl) ?_
 refine zm rfl ?_
 refine zp (o_lt rfl rfl) ?_
 refine wl_nil ?_
 refine rk_if rfl (fun h => ?_) (fun h => ?_)
 ·rw [rNumber_more (by omega)]
  refine zs (zm rfl ?_)
  refine zp (o_nil rfl) ?_
  refine zp (o_faddr (s := 155) (i := 1) (off := 1) Tryz.underlying155 rfl Tryz.sizeOf27 rfl rfl rfl) ?_
  refine wl_store1 Tryz.sizeOf27 rfl rfl rfl hB (by simp) ?_
  intro w1 hB1 hg1 hz1
  refine wl_nil (zs (za rfl (wl_nil ?_)))
  refine ret1 rfl rfl ?_
  exact ⟨rfl, hg1, hz1, _, cap, A, c, l, hB1, hr.grown hg1 (.inr (by rw [h3]; exact hA)), h1, h2, ho.kept hg1 (.inr hA), h3, by simp⟩
 have hfit : ¬ t.length + 1 < lead b := by omega
 refine rk_skip (zs (za rfl (wl_nil (rk_seq (zs (zm rfl ?_))))))
 refine zp (o_lt rfl rfl) ?_
 refine wl_nil ?_
 refine rk_join (fun fr w' => fr = [(0, .pointer (some ⟨g, 0, none⟩)), (3, .int .i64 (lead b)), (4, .int .u64 ((b.toNat % 2 ^ (8 - lead b) : Nat) : Int))] ∧ w = w') ?_ (fun ks hj => ?_)
 rotate_left
 ·refine rk_if rfl (fun h => ?_) (fun h => ?_)
  ·refine rk_region ?_
   refine zm rfl ?_
   refine zp (o_nil rfl) ?_
   refine zp (o_faddr (s := 155) (i := 0) (off := 0) Tryz.underlying155 rfl Tryz.sizeOf35 rfl rfl rfl) ?_
   refine wl_r (o_loadb (t := 35) Tryz.isAgg35 rfl hB (by rfl)) ?_
   refine zp (o_iaddr1 (j := 0) Tryz.underlying35 Tryz.sizeOf5 rfl rfl rfl (by simp)) ?_
   refine wl_r (o_load (t := 5) Tryz.isAgg5 rfl hc0) ?_
   refine zp (o_convu64 (src := 5) (dst := 52) Tryz.underlying5 Tryz.underlying52 rfl (by omega) (by omega)) ?_
   refine zm rfl ?_
   refine zp (o_sub rfl rfl (by omega) (by omega)) ?_
   refine zp (o_convu64 (src := 3) (dst := 151) Tryz.underlying3 Tryz.underlying151 rfl (by omega) (by omega)) ?_
   refine zp (o_asi (o_shl rfl rfl (show (0 : Int) ≤ 8 - (lead b : Int) by omega)) (shl_one (lead b) (by omega) hk.1)) ?_
   refine zp (o_asi (o_remu rfl rfl (Int.natCast_nonneg _) (Int.natCast_pos.2 (Nat.two_pow_pos _))) (show (b.toNat : Int) % ((2 ^ (8 - lead b) : Nat) : Int) = _ from rfl)) ?_
   refine za rfl (wl_nil ?_)
   exact rk_to hj (by repeat' constructor) ⟨rfl, rfl⟩
  ·have h9 : lead b = 9 := by omega
   refine rk_skip ?_
   exact rk_to hj (fr0 := [(0, .pointer (some ⟨g, 0, none⟩)), (3, .int .i64 (lead b)), (4, .int .u64 0)]) (by repeat' constructor) ⟨by rw [h9]; simp [Nat.mod_one], rfl⟩
 rintro fr _ ⟨rfl, rfl⟩
 refine rk_seq (zs (za rfl (wl_nil (rk_block ?_))))
 have hu64 : ∀ j, j ≤ lead b - 1 → beVal (b.toNat % 2 ^ (8 - lead b)) (t.take j) < u64 := fun j hj => beVal_u64 b (t.take j) (by rw [List.length_take]; omega)
 refine rk_joinb (fun fr w' => fr = [(0, .pointer (some ⟨g, 0, none⟩)), (3, .int .i64 (lead b)), (4, .int .u64 ((beVal (b.toNat % 2 ^ (8 - lead b)) (t.take (lead b - 1)) : Nat) : Int))] ∧ w = w') ?_ (fun ks hj => ?_)
 rotate_left
 ·refine rk_loop (fun m fr w' => ∃ j : Nat, ∃ v u : Int, fr = [(0, .pointer (some ⟨g, 0, none⟩)), (3, .int .i64 (lead b)), (4, .int .u64 u), (5, .int .i64 v)] ∧ u = (beVal (b.toNat % 2 ^ (8 - lead b)) (t.take j) : Nat) ∧ v = (j : Int) + 1 ∧ j ≤ lead b - 1 ∧ m = 9 - j ∧ w = w') (n := 9) (by repeat' constructor) ⟨0, 1, _, rfl, rfl, rfl, by omega, rfl, rfl⟩ ?_
  rintro m fr _ ⟨j, v, u, rfl, rfl, rfl, hj1, rfl, rfl⟩
  refine rk_seq (zs (zm rfl (zm rfl ?_)))
  refine zp (o_lt rfl rfl) ?_
  refine wl_nil ?_
  refine rk_if rfl (fun h => ?_) (fun h => ?_)
  ·have hjt : j < t.length := by omega
   have e1 : t.take (j + 1) = t.take j ++ [t[j]] := by rw [List.take_succ_eq_append_getElem hjt]
   have hlt := hu64 (j + 1) (by omega)
   have ht256 : t[j].toNat < 256 := t[j].toNat_lt
   rw [e1, beVal_snoc] at hlt
   refine rk_skip (rk_seq (rk_block (rk_region (zm rfl ?_))))
   refine zp (o_asi (o_mulw rfl rfl) (wrap_nat (beVal (b.toNat % 2 ^ (8 - lead b)) (t.take j) * 256) (Nat.lt_of_le_of_lt (Nat.le_add_right _ _) hlt))) ?_
   refine zm rfl ?_
   refine zp (o_nil rfl) ?_
   refine zp (o_faddr (s := 155) (i := 0) (off := 0) Tryz.underlying155 rfl Tryz.sizeOf35 rfl rfl rfl) ?_
   refine wl_r (o_loadb (t := 35) Tryz.isAgg35 rfl hB (by rfl)) ?_
   refine zm rfl ?_
   refine zp (o_iaddr1 (j := j + 1) Tryz.underlying35 Tryz.sizeOf5 rfl rfl rfl (by omega)) ?_
   have hc1 : w.cell? ⟨bb, oo + (j + 1), none⟩ = some (.int .u8 (t[j].toNat : Int)) := by have := hcell (j + 1) (by omega); simpa only [List.getElem_cons_succ] using this
   refine wl_r (o_load (t := 5) Tryz.isAgg5 rfl hc1) ?_
   refine zp (o_convu64 (src := 5) (dst := 52) Tryz.underlying5 Tryz.underlying52 rfl (by omega) (by omega)) ?_
   refine zp (o_asi (o_addw rfl rfl) (wrap_add (beVal (b.toNat % 2 ^ (8 - lead b)) (t.take j) * 256) t[j].toNat hlt)) ?_
   refine za rfl (wl_nil ?_)
   refine rk_blk ?_
   refine rk_region (zm rfl ?_)
   refine zp (o_add rfl rfl (by omega) (by omega)) ?_
   refine za rfl (wl_nil ?_)
   exact rk_again (by repeat' constructor) ⟨j + 1, _, _, rfl, by rw [e1, beVal_snoc], rfl, by omega, rfl, rfl⟩ (by omega)
  ·obtain rfl : j = lead b - 1 := by omega
   refine rk_exit rfl ?_
   exact rk_to hj (by repeat' constructor) ⟨rfl, rfl⟩
 rintro fr _ ⟨rfl, rfl⟩
 have hu := hu64 (lead b - 1) (Nat.le_refl _)
 generalize hval : beVal (b.toNat % 2 ^ (8 - lead b)) (t.take (lead b - 1)) = u at hu
 refine rk_seq (zs (zm rfl ?_))
 refine wl_call rfl (C_refroom u w hu) ?_
 rintro _ w12 ⟨rfl, rfl⟩
 refine zm rfl ?_
 refine zp (o_ne rfl rfl) ?_
 refine wl_nil ?_
 refine rk_if rfl (fun h => ?_) (fun h => ?_)
 ·rw [rNumber_bad hfit (by rw [hval]; omega)]
  refine zs (zm rfl ?_)
  refine zp (o_nil rfl) ?_
  refine zp (o_faddr (s := 155) (i := 1) (off := 1) Tryz.underlying155 rfl Tryz.sizeOf27 rfl rfl rfl) ?_
  refine wl_store1 Tryz.sizeOf27 rfl rfl rfl hB (by simp) ?_
  intro w1 hB1 hg1 hz1
  refine wl_nil (zs (za rfl (wl_nil ?_)))
  refine ret1 rfl rfl ?_
  exact ⟨rfl, hg1, hz1, _, cap, A, c, l, hB1, hr.grown hg1 (.inr (by rw [h3]; exact hA)), h1, h2, ho.kept hg1 (.inr hA), h3, by simp⟩
 ·rw [rNumber_ok hfit (by rw [hval]; omega), hval]
  refine rk_skip (zs (zm rfl (zm rfl ?_)))
  refine zp (o_nil rfl) ?_
  refine zp (o_faddr (s := 155) (i := 0) (off := 0) Tryz.underlying155 rfl Tryz.sizeOf35 rfl rfl rfl) ?_
  refine wl_r (o_loadb (t := 35) Tryz.isAgg35 rfl hB (by rfl)) ?_
  refine zm rfl ?_
  refine zp (o_slice_lo (lo := lead b) Tryz.underlying35 Tryz.sizeOf5 rfl rfl rfl (by omega)) ?_
  refine zp (o_nil rfl) ?_
  refine zp (o_faddr (s := 155) (i := 0) (off := 0) Tryz.underlying155 rfl Tryz.sizeOf35 rfl rfl rfl) ?_
  refine wl_store1 Tryz.sizeOf35 rfl rfl rfl hB (by simp) ?_
  intro w1 hB1 hg1 hz1
  refine wl_nil (zs (zm rfl (za rfl (wl_nil ?_))))
  refine ret1 rfl rfl ?_
  have hr1 := hr.grown hg1 (.inr (by rw [h3]; exact hA))
  have hr2 := hr1.cut (k := lead b) (c := cap) (by omega) h1
  have e2 : (b :: t).drop (lead b) = t.drop (lead b - 1) := by
   obtain ⟨k, hk0⟩ : ∃ k, lead b = k + 1 := ⟨lead b - 1, by omega⟩
   rw [hk0]; rfl
  have e3 : (b :: t).length - lead b = (t.drop (lead b - 1)).length := by rw [List.length_drop]; omega
  rw [e2] at hr2
  exact ⟨rfl, hg1, hz1, cutA (some ⟨bb, oo, none⟩) cap 1 (lead b), cap - lead b, A, c, l, by rw [← e3]; exact hB1, hr2, by rw [← e3]; omega, by rw [← e3]; omega, ho.kept hg1 (.inr hA), by rw [blk_cutA]; exact h3, by simp⟩

end Go.Proofs.YtnnhenafhalobaaGreat
namespace Go.Proofs.YtnnhenafhalobaaGreat
set_option maxRecDepth 100000
open Go.RowKit

theorem rTake_leF (n : Nat) (s : RS) : (rTake n s).1.length ≤ n := by
 unfold rTake
 split
 ·simp
 ·split
  ·simp
  ·simp; omega
theorem C_refRWord {g : Nat} {s : RS} (size : Int) (w : World) (hR : Rfr w g s) :
  CallsR Tryz.prog 92 [.pointer (some ⟨g, 0, none⟩), .int .i64 size] w fun v w' => v = .int .u64 (rWord size s).1 ∧ w.grownBy w' (some g) ∧ Rfr w' g (rWord size s).2 := by
 obtain ⟨hk1, hk2, hk3⟩ := clampN_bd size
 have hcl : min (max size 1) 8 = (clampN size : Int) := by omega
 refine callsR Tryz.func92 rfl rfl (by kernel_rfl) rfl ?_
 refine zs (za rfl (wl_nil (zs (zm rfl (zm rfl ?_)))))
 refine zp (o_max rfl rfl) ?_
 refine zp (o_min rfl rfl) ?_
 rw [hcl]
 refine wl_call rfl (C_refTake (clampN size) w hR (by omega)) ?_
 rintro _ w1 ⟨⟨A, c, rfl, hown⟩, hg1, hR1⟩
 have hle := rTake_leF (clampN size) s
 unfold rWord
 rw [Int.toNat_natCast] at hown hR1 ⊢
 generalize rTake (clampN size) s = y at *
 obtain ⟨b, s2⟩ := y
 simp only at hown hR1 hle ⊢
 refine za rfl (wl_nil (zs (za rfl (wl_nil (rk_seq (zs (zm rfl ?_)))))))
 refine zp (o_len (t := 35) Tryz.underlying35 rfl) ?_
 refine zp (o_sub rfl rfl (by omega) (by omega)) ?_
 refine za rfl (wl_nil (rk_block ?_))
 refine rk_joinb (fun fr w' => fr = [(5, .slice A b.length c), (6, .int .u64 (leVal b : Nat))] ∧ w1 = w') ?_ (fun ks hj => ?_)
 rotate_left
 ·refine rk_loop (fun m fr w' => ∃ (u v : Int), fr = [(5, .slice A b.length c), (6, .int .u64 u), (7, .int .i64 v)] ∧ u = (leVal (b.drop m) : Nat) ∧ v = (m : Int) - 1 ∧ m ≤ b.length ∧ w1 = w') (n := b.length) (by repeat' constructor)
   ⟨_, _, rfl, by simp [leVal], rfl, Nat.le_refl _, rfl⟩ ?_
  rintro m fr _ ⟨u, v, rfl, rfl, rfl, hm, rfl⟩
  refine rk_seq (zs (zm rfl ?_))
  refine zp (o_ge rfl rfl) ?_
  refine wl_nil ?_
  refine rk_if rfl (fun h => ?_) (fun h => ?_)
  ·obtain ⟨j, rfl⟩ : ∃ j, m = j + 1 := ⟨m - 1, by omega⟩
   have hjb : j < b.length := by omega
   have e1 : b.drop j = b[j] :: b.drop (j + 1) := by rw [List.drop_eq_getElem_cons hjb]
   have hlt := leVal_u64 (b.drop j) (by rw [List.length_drop]; omega)
   have hb256 : b[j].toNat < 256 := b[j].toNat_lt
   rw [e1] at hlt
   simp only [leVal] at hlt
   obtain ⟨bb, oo, rfl, hbl, hcell⟩ := hown.rd.at_ (by intro e; rw [e] at hjb; simp at hjb)
   have hcj := hcell j hjb
   refine rk_skip (rk_seq (rk_block (rk_region (zm rfl ?_))))
   refine zp (o_asi (o_mulw rfl rfl) (wrap_nat (leVal (b.drop (j + 1)) * 256) (by unfold u64; omega))) ?_
   refine zm rfl (zm rfl ?_)
   refine zp (o_iaddr1 (j := j) Tryz.underlying35 Tryz.sizeOf5 rfl rfl (by omega) (by omega)) ?_
   refine wl_r (o_load (t := 5) Tryz.isAgg5 rfl hcj) ?_
   refine zp (o_convu64 (src := 5) (dst := 52) Tryz.underlying5 Tryz.underlying52 rfl (by omega) (by omega)) ?_
   refine zp (o_asi (o_addw rfl rfl) (wrap_add (leVal (b.drop (j + 1)) * 256) b[j].toNat (by unfold u64; omega))) ?_
   refine za rfl (wl_nil ?_)
   refine rk_blk ?_
   refine rk_region (zm rfl ?_)
   refine zp (o_sub rfl rfl (by omega) (by omega)) ?_
   refine za rfl (wl_nil ?_)
   exact rk_again (by repeat' constructor) ⟨_, _, rfl, by rw [e1]; simp only [leVal]; rw [Nat.mul_comm, Nat.add_comm], by omega, by omega, rfl⟩ (by omega)
  ·obtain rfl : m = 0 := by omega
   refine rk_exit rfl ?_
   exact rk_to hj (fr0 := [(5, .slice A b.length c), (6, .int .u64 (leVal b : Nat))]) (by repeat' constructor) ⟨rfl, rfl⟩
 rintro fr _ ⟨rfl, rfl⟩
 refine zs (zm rfl (za rfl (wl_nil ?_)))
 refine ret1 rfl rfl ?_
 exact ⟨rfl, hg1, hR1⟩

end Go.Proofs.YtnnhenafhalobaaGreat
namespace Go.Proofs.YtnnhenafhalobaaGreat
set_option maxRecDepth 100000
open Go.RowKit
section
variable {w w' : World} {g : Nat} {s : RS}
theorem Rfr.u (h : Rfr w g s) (hb : Below w.heap.size w w') : Rfr w' g s := h.below hb
theorem Rfr.d (h : Rfr w g s) : Rfr w.drew g s := h
theorem Rfr.at_ (h : Rfr w g s) : TyAt w g 155 := h.blk.choose_spec.at_
theorem Rfr.y {e' : TypeId} {row : Option Nat} (h : Rfr w g s) (hg : Grew w w' e' row) (hne : e' ∉ [155, 5]) : Rfr w' g s := by
 simp only [List.mem_cons, List.not_mem_nil, or_false, not_or] at hne
 obtain ⟨B, cap, A, c, l, hB, hr, h1, h2, ho, h3, h4⟩ := h
 have hT : RdT w B s.1 := ⟨hr, fun k hk => ho.h_.to_RdT.2 k (by rw [← h3]; exact hk)⟩
 exact ⟨B, cap, A, c, l, hB.y hg hne.1, (hT.y hg hne.2).1, h1, h2, (OwnH.y ho.h_ hg hne.2).o, h3, h4⟩
end
theorem grew_rfr {w w' : World} {g : Nat} {s : RS} (h : Rfr w g s) (hg : w.grownBy w' (some g)) : Grew w w' 155 (some g) := ⟨hg, fun k hk => by injection hk with hk; subst hk; exact h.at_⟩
theorem C_xfRead {A : Option Addr} {l : List UInt8} {k c : Nat} (w : World) (hr : Rd w A l) (hk : k = l.length) (hl : l.length ≤ 4000000000) :
  CallsR Tryz.prog 91 [.slice A k c] w fun v w' => ∃ g, v = .pointer (some ⟨g, 0, none⟩) ∧ w.heap.size ≤ g ∧ g < w'.heap.size ∧ Rfr w' g (l, 0) ∧ Below w.heap.size w w' :=
 (C_refRead c hk w hr (by omega)).mono fun _ _ ⟨g, hv, hg, hR, hb⟩ => ⟨g, hv, hg, hR.lt, hR, hb⟩
theorem C_xfTake {g e e' : Nat} {l l' p : List UInt8} {n : Int} (w : World) (hR : Rfr w g (l, e)) (hr : TakeR n l e p l' e') (hn : n ≤ 9223372036854775807) :
  CallsR Tryz.prog 115 [.pointer (some ⟨g, 0, none⟩), .int .i64 n] w fun v w' => ∃ A' c', v = .slice A' p.length c' ∧ OwnH w' w.heap.size w'.heap.size A' c' p ∧ Rfr w' g (l', e') ∧ Grew w w' 155 (some g) ∧ Chg g (g + 1) w w' := by
 refine (C_refTake n w hR hn).mono ?_
 rintro v w' ⟨⟨A', c', rfl, ho⟩, hg, hR2⟩
 rw [hr.h] at ho hR2 ⊢
 exact ⟨A', c', rfl, ho.h_, hR2, grew_rfr hR hg, Chg.of_g1 hg (Nat.le_refl _) (by omega)⟩
theorem C_xfWord {g e e' v : Nat} {l l' : List UInt8} {size : Int} (w : World) (hR : Rfr w g (l, e)) (hr : WordR size l e v l' e') :
  CallsR Tryz.prog 92 [.pointer (some ⟨g, 0, none⟩), .int .i64 size] w fun x w' => x = .int .u64 (v : Int) ∧ Rfr w' g (l', e') ∧ Grew w w' 155 (some g) ∧ Chg g (g + 1) w w' := by
 refine (C_refRWord size w hR).mono ?_
 rintro v w' ⟨rfl, hg, hR2⟩
 rw [hr.h] at hR2 ⊢
 exact ⟨rfl, hR2, grew_rfr hR hg, Chg.of_g1 hg (Nat.le_refl _) (by omega)⟩
end Go.Proofs.YtnnhenafhalobaaGreat
namespace Go.Proofs.YtnnhenafhalobaaGreat
set_option maxRecDepth 100000
open Go.RowKit
end Go.Proofs.YtnnhenafhalobaaGreat
namespace Go.Proofs.YtnnhenafhalobaaGreat
set_option maxRecDepth 100000
open Go.RowKit
section
variable {fn : Func} {F : Ending → World → Prop} {N : Nat} {ks : List K} {ops : Array Oper} {tg : Tags} {l : List Oper} {fr : Fr} {w w0 : World} {ty : TypeId} {pos : String} {aft : Array Edge} {gd : Option (Nat × Bool)} {d j : Nat} {x : Operand} {A : Option Addr} {L : List Rc}
theorem wl_ldRecKs (hx : fr.ev x = some (.pointer (some (adr A (j * 2))))) (hr : RRec w0 A L) (hb : ∀ w', tg.rw.ok w w' → Below w0.heap.size w0 w') (hj : j < L.length)
  (hk : WL Tryz.prog fn F N ks ops tg.tail l ((d, .int .u8 (L[j].1.toNat : Int)) :: fr) w)
  (ht : tg.stays = true := by rfl) (hg : onG ops fr gd = true := by rfl) (hd : Nat.blt d N = true := by rfl) : WL Tryz.prog fn F N ks ops tg (⟨some d, .load 5 x, ty, pos, aft, gd⟩ :: l) fr w := by
 obtain ⟨A1, c1, h1, h2, h3, h4⟩ := hr.elem hj
 exact wl_s (fun w' hw' => o_load (t := 5) Tryz.isAgg5 hx (h1.u (hb w' hw') 0 _ rfl)) hk ht hg hd
end
set_option maxRecDepth 100000 in
theorem C_OwnRecords {A : Option Addr} {L : List Rc} {n c : Nat} (w : World) (hL : RRec w A L) (hn : n = L.length) (hm : L.length ≤ 70000) (hd : ∀ r ∈ L, r.2.length ≤ 10000) :
  CallsR Tryz.prog 20 [.slice A n c] w fun v w' => ∃ A' c', v = .slice A' L.length c' ∧ OwnRec w' w.heap.size w'.heap.size A' c' L ∧ Below w.heap.size w w' := by
 subst hn
 refine callsR Tryz.func20 rfl rfl (by kernel_rfl) rfl ?_
 have hw := Below.refl w.heap.size w
 refine zs (za rfl (wl_nil (zs (za rfl (wl_nil (rk_seq (zs (za rfl (wl_nil (rk_block ?_))))))))))
 refine rk_joinf (fun fb fr W => ∃ A' c', fr = [(3, .slice A' L.length c')] ++ fb.drop 2 ∧ OwnRec W w.heap.size W.heap.size A' c' L ∧ Below w.heap.size w W) ?_ (fun ks hj => ?_)
 rotate_left
 ·refine rk_loopf (fun fb m fr W => ∃ (i : Nat) (v : Int) (A' : Option Addr) (c' : Nat) (Q : List Rc), fr = [(4, .int .i64 v), (3, .slice A' Q.length c')] ++ fb.drop 2 ∧ v = i ∧ i ≤ L.length ∧ m = L.length - i ∧ Q = L.take i ∧ OwnRec W w.heap.size W.heap.size A' c' Q ∧ Below w.heap.size w W) (n := L.length) (Fr.le_of (by kernel_rfl) (by kernel_rfl) (by repeat' constructor)) ⟨0, _, none, 0, [], rfl, rfl, by omega, rfl, rfl, OwnRec.nil_, hw⟩ ?_
  clear hw
  rintro m fr W ⟨i, v, A', c', Q, rfl, rfl, hi, rfl, hQ, fo, hw⟩
  have shw := hw.size
  have hQl : Q.length = i := by rw [hQ, List.length_take]; omega
  first | refine zf ?_ | refine zg ?_
  by_cases hil : i < L.length
  ·have hdl := hd _ (List.getElem_mem hil)
   have ht := List.take_succ_eq_append_getElem hil
   rw [← hQ] at ht
   refine rk_seq (zs (zm rfl (zm rfl ?_)))
   refine zp (o_len (t := 44) Tryz.underlying44 rfl) ?_
   refine zp (o_lt rfl rfl) ?_
   refine wl_nil ?_
   refine rk_if rfl (fun h8 => ?_) (fun h8 => h8.elim (by omega))
   refine rk_skip (rk_seq (rk_block ?_))
   refine rk_draw (id := 5) (none) [0, 0, 0, 6, 8, 16, 0, 0, 192, 256, 512, 1024, 2080, 4096, 10241, 32767] [0, 0, 0, 6, 14, 30, 0, 0, 192, 448, 960, 1984, 4094, 8190, 16383, 32767] 26624 2048 [(.p, 0), (.p, 1), (.p, 2), (.p, 3), (.p, 4), (.s, 5), (.p, 6), (.p, 7), (.p, 8), (.p, 9), (.r, 10), (.c, 11), (.p, 12), (.l, 13), (.l, 14), (.p, 15)] (by kernel_rfl) (by kernel_rfl) (by kernel_rfl) (by kernel_rfl) (by kernel_rfl) ?_
   replace hw := hw.drew
   replace fo := fo.d
   refine zm rfl (zm rfl (zm rfl ?_))
   refine zp (o_iaddrA (i) Tryz.underlying44 Tryz.sizeOf37 rfl rfl rfl (hL.some_ (by omega)) (by omega)) ?_
   refine zp (o_faddrR rfl Tryz.underlying37 (by rfl) Tryz.sizeOf5 (by rfl) (by rfl)) ?_
   refine wl_ldRecKs rfl hL (fun _ hk => hw.trans ((below_of_grown_none hk).mono hw.size)) (by omega) ?_
   refine zm rfl (zm rfl ?_)
   refine zp (o_iaddrA (i) Tryz.underlying44 Tryz.sizeOf37 rfl rfl rfl (hL.some_ (by omega)) (by omega)) ?_
   refine zp (o_faddrR rfl Tryz.underlying37 (by rfl) Tryz.sizeOf35 (by rfl) (by rfl)) ?_
   refine wl_ldRecD rfl hL hw (by omega) ?_
   rintro A121 c121 f21 i21 i21_1
   refine wl_call rfl (C_OwnB _ (f21.u hw) rfl (by omega)) ?_ (hq := .inr fun _ _ h => grown_of_below h.choose_spec.choose_spec.2.2 _)
   rintro v22 w22 ⟨A22, ⟨c22, ⟨rfl, ⟨f22, b22⟩⟩⟩⟩
   simp only [drew_size] at f22
   simp only [drew_size] at b22
   have qf22 := f22.cap
   have s22 := b22.size
   simp only [drew_size] at s22
   replace hw := hw.trans (b22.mono hw.size)
   replace fo := fo.u b22
   refine zp (o_buildg [_, _] Tryz.underlying37 Tryz.zeroValue37 (by rfl) (by rfl) rfl (by rfl) (by rfl) (fun _ => by kernel_rfl)) ?_
   refine wl_litRec1 (by rfl) rfl f22.to_RdT rfl (by omega) (own_max' (by assumption)) (by rfl) ?_
   rintro A24 w24 f24 b24
   have qf24 := f24.cap
   have s24 := b24.size
   replace hw := hw.trans (b24.mono hw.size)
   replace fo := fo.u b24
   replace f22 := f22.u b24
   refine wl_appRec rfl fo rfl rfl f24.to_RRecT (by rfl) (by omega) hw.size ?_
   rintro A25 c25 w25 f25 g25 b25
   have qf25 := f25.cap
   have s25 := g25.size
   replace hw := hw.trans (b25.mono (by omega))
   replace f22 := f22.y g25 (by decide)
   replace f24 := f24.q g25 (fo.ap (by omega)) (by decide)
   clear fo
   refine za rfl ?_
   refine wl_nild ?_
   refine rk_blk ?_
   refine rk_region (zm rfl ?_)
   refine zp (o_add rfl rfl (by omega) (by omega)) ?_
   refine za rfl (wl_nil ?_)
   exact rk_againf (Fr.le_of (by kernel_rfl) (by kernel_rfl) (by repeat' constructor)) ⟨i + 1, (i : Int) + 1, A25, c25, Q ++ [(L[i].1, L[i].2)], rfl, by omega, by omega, rfl, ht.symm, f25.base (by omega) (by omega), hw⟩ (by omega)
  ·refine rk_seq ?_
   refine zs (zm rfl (zm rfl ?_))
   refine zp (o_len (t := 44) Tryz.underlying44 rfl) ?_
   refine zp (o_lt rfl rfl) ?_
   refine wl_nil ?_
   refine rk_if rfl (fun h8 => absurd h8 (by omega)) (fun h8 => ?_)
   refine rk_exit rfl ?_
   obtain rfl : i = L.length := by omega
   rw [List.take_length] at hQ
   subst hQ
   exact rk_tof hj (Fr.le_of (by kernel_rfl) (by kernel_rfl) (by repeat' constructor)) ⟨A', c', rfl, fo, hw⟩
 clear hw
 rintro fr W ⟨A', c', rfl, fo, hw⟩
 first | refine zf ?_ | refine zg ?_
 refine zs (zm rfl (za rfl (wl_nil ?_)))
 refine ret1 rfl rfl ?_
 exact ⟨A', c', rfl, fo, hw⟩
structure RRq (X : Nat → Prop) (w : World) (A : Option Addr) (L : List Rc) : Prop where
 r : RRecXT X w A L
 b : ∀ k, blk A = some k → X k
theorem OwnRecX.rrq {X : Nat → Prop} {w : World} {lo hi c : Nat} {A : Option Addr} {L : List Rc} (h : OwnRecX X w lo hi A c L) (hX : ∀ k, lo ≤ k → X k) : RRq X w A L := ⟨h.to_RRecXT, fun k hk => hX k (h.row k hk).1⟩
theorem RRq.to_RRecX {X : Nat → Prop} {w : World} {A : Option Addr} {L : List Rc} (h : RRq X w A L) : RRecX X w A L := RSlT.to_RSl h.r
theorem RRq.to_RRec {X : Nat → Prop} {w : World} {A : Option Addr} {L : List Rc} (h : RRq X w A L) : RRec w A L := h.to_RRecX.to_RRec
theorem RRq.u {X : Nat → Prop} {w w' : World} {A : Option Addr} {L : List Rc} (h : RRq X w A L) (hb : Below w.heap.size w w') : RRq X w' A L := ⟨h.r.u hb, h.b⟩
theorem RRq.d {X : Nat → Prop} {w : World} {A : Option Addr} {L : List Rc} (h : RRq X w A L) : RRq X w.drew A L := h.u (below_drew w)
theorem Rd.keepX {w w' : World} {A : Option Addr} {l : By} {X : Nat → Prop} (h : Rd w A l) (hX : ∀ k, blk A = some k → X k) (hk : ∀ k, X k → k < w.heap.size → w'.heap[k]? = w.heap[k]?) : Rd w' A l := by
 by_cases hl : l = []
 ·subst hl; exact ⟨h.1, fun h => absurd rfl h⟩
 ·obtain ⟨b, o, rfl, hcl⟩ := h.2 (fun e => hl (by cases l with | nil => rfl | cons x y => cases e))
  refine ⟨h.1, fun _ => ⟨b, o, rfl, fun j u hj => ?_⟩⟩
  have h1 := hcl j u hj
  have hlt : b < w.heap.size := block_lt_of_cell h1
  rw [← h1]
  show World.cell? w' _ = World.cell? w _
  unfold World.cell?
  rw [show w'.heap[b]? = w.heap[b]? from hk b (hX b rfl) hlt]
theorem Reads.keepX {w w' : World} {A : Option Addr} {sz n : Nat} {xs : List Value} {X : Nat → Prop} (h : Reads w sz A n xs) (hX : ∀ k, blk A = some k → X k) (hk : ∀ k, X k → k < w.heap.size → w'.heap[k]? = w.heap[k]?) : Reads w' sz A n xs := by
 by_cases hl : xs = []
 ·subst hl; exact ⟨h.1, fun h => absurd rfl h⟩
 ·obtain ⟨b, o, rfl, hcl⟩ := h.2 hl
  refine ⟨h.1, fun _ => ⟨b, o, rfl, fun j u hj => ?_⟩⟩
  have h1 := hcl j u hj
  have hlt : b < w.heap.size := block_lt_of_cell h1
  rw [← h1]
  show World.cell? w' _ = World.cell? w _
  unfold World.cell?
  rw [show w'.heap[b]? = w.heap[b]? from hk b (hX b rfl) hlt]
theorem gRecX_keep {X : Nat → Prop} {w w' : World} {cs : List Value} {r : Rc} (h : (gRecX X).T w cs r) (hk : ∀ k, X k → k < w.heap.size → w'.heap[k]? = w.heap[k]?) : (gRecX X).T w' cs r := by
 obtain ⟨h1, h2⟩ := h
 refine ⟨?_, h2⟩
 obtain ⟨a, e, c1, c2, e2, h3, A1, n1, e3, h4, h5, h6⟩ := h1
 have hX1 : ∀ k, blk A1 = some k → X k := h2 A1 a.2.length n1 (by rw [e2, e3]; simp)
 exact ⟨a, e, c1, c2, e2, h3, A1, n1, e3, ⟨h4.1.keepX hX1 hk, fun k e => (h4.2 k e).keep (hk k (hX1 k e) (h4.2 k e).lt)⟩, h5, h6⟩
theorem RRq.keep {X : Nat → Prop} {w w' : World} {A : Option Addr} {L : List Rc} (h : RRq X w A L) (hk : ∀ k, X k → k < w.heap.size → w'.heap[k]? = w.heap[k]?) : RRq X w' A L := by
 obtain ⟨⟨xs, h1, ht, h2⟩, h3⟩ := h
 exact ⟨⟨xs, Reads.keepX h1 h3 hk, fun k e => (ht k e).keep (hk k (h3 k e) (ht k e).lt), fun i hi => gRecX_keep (h2 i hi) hk⟩, h3⟩
theorem RRq.drop {X : Nat → Prop} {w : World} {A : Option Addr} {L : List Rc} (h : RRq X w A L) {k cap : Nat} (hk : k ≤ L.length) (hc : L.length ≤ cap) : RRq X w (cutA A cap 2 k) (L.drop k) := by
 obtain ⟨⟨xs, h1, ht, h2⟩, h3⟩ := h
 refine ⟨⟨xs.drop (k * (gRecX X).sz), by rw [List.length_drop]; exact h1.cutn hk hc rfl, fun j hj => ht j (by rw [blk_cutA] at hj; exact hj), fun i hi => ?_⟩, fun j hj => h3 j (by rw [blk_cutA] at hj; exact hj)⟩
 rw [List.length_drop] at hi
 rw [part_drop, List.getElem_drop]
 exact h2 (k + i) (by omega)
section
variable {fn : Func} {F : Ending → World → Prop} {N : Nat} {ks : List K} {ops : Array Oper} {tg : Tags} {l : List Oper} {fr : Fr} {w w0 : World} {ty : TypeId} {pos : String} {aft : Array Edge} {gd : Option (Nat × Bool)} {d j : Nat} {x y : Operand} {A : Option Addr} {L : List Rc}
theorem wl_slRecQ {X : Nat → Prop} {len cap : Nat} {kl : IntKind} {S : Int} (lo : Nat) (hx : fr.ev x = some (.slice A len cap)) (hy : fr.ev y = some (.int kl S)) (hr : RRq X w A L) (hlen : len = L.length) (hl : S = (lo : Int)) (h1 : lo ≤ L.length) (h3 : L.length ≤ cap)
  (hk : ∀ A' c', RRq X w A' (L.drop lo) → L.length - lo ≤ c' → WL Tryz.prog fn F N ks ops tg.tail l ((d, .slice A' (L.length - lo) c') :: fr) w) (hg : onG ops fr gd = true := by rfl) (hd : Nat.blt d N = true := by rfl) :
  WL Tryz.prog fn F N ks ops tg (⟨some d, .slice 44 x (some y) none none, ty, pos, aft, gd⟩ :: l) fr w := by
 subst hlen
 exact wl_p (fun _ => o_slice_lo (sz := 2) (lo := lo) Tryz.underlying44 Tryz.sizeOf37 hx hy hl h1) (hk _ _ (hr.drop h1 h3) (by omega)) hg hd
end
theorem C_last09 {X : Nat → Prop} {A : Option Addr} {L : List Rc} {n c : Nat} {x : Int} {k : Nat} (w : World) (hL : RRq X w A L) (hk : (L.length : Int) - pick x (L.length + 1) = k) (hn : n = L.length) (hc : L.length ≤ c) (hm : L.length ≤ 1000000) (wx : (Lit.int .i64 x).wf = true) :
  CallsR Tryz.prog 17 [.slice A n c, .int .i64 x] w fun v w' => ∃ A' c', v = .slice A' (L.length - k) c' ∧ RRq X w' A' (L.drop k) ∧ L.length - k ≤ c' ∧ Below w.heap.size w w' := by
 subst hn
 have hpk := pick_range x (L.length + 1) (by omega)
 obtain ⟨q, hq⟩ : ∃ q, pick x (L.length + 1) = q := ⟨_, rfl⟩
 rw [hq] at hk hpk
 have wl : (Lit.int .i64 ((L.length : Int) + 1)).wf = true := i64_wf (by omega)
 refine callsR Tryz.func17 rfl rfl (by kernel_rfl) rfl ?_
 have hw := Below.refl w.heap.size w
 refine zs (za rfl (wl_nil (zs (zm rfl (zm rfl ?_)))))
 refine zp (o_len (t := 44) Tryz.underlying44 rfl) ?_
 refine zm rfl (zm rfl ?_)
 refine zp (o_len (t := 44) Tryz.underlying44 rfl) ?_
 refine zp (o_add rfl rfl (by omega) (by omega)) ?_
 refine wl_call rfl (C_PickR _ hq wx wl) ?_
 rintro v12 w12 ⟨rfl, b12⟩
 have s12 := b12.size
 replace hw := hw.trans (b12.mono hw.size)
 refine zp (o_sub rfl rfl (by omega) (by omega)) ?_
 refine wl_slRecQ (k) rfl rfl (hL.u hw) rfl hk (by omega) (by omega) ?_
 rintro A14 c14 f14 i14
 refine za rfl (wl_nil ?_)
 rw [hk]
 refine ret1 rfl rfl ?_
 exact ⟨_, _, rfl, f14, by omega, hw⟩
end Go.Proofs.YtnnhenafhalobaaGreat
