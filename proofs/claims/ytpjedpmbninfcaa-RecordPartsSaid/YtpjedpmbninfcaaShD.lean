/-
  Walks of package sha: padding.
-/
import Derived.Test.YtpjedpmbninfcaaShC
import Derived.Test.YtpjedpmbninfcaaU8
namespace Go.Proofs.Ytpjedpmbninfcaa
open Go.RowKit
abbrev By := List UInt8
/-- A slice of byte strings. -/
def RKy (w : World) (A : Option Addr) (L : List By) : Prop := RSl gBytes w A L
section
variable {w w' : World} {A : Option Addr} {K : List By}
theorem RKy.u (h : RKy w A K) (hb : Below w.heap.size w w') : RKy w' A K := RSl.u h hb
theorem RKy.d (h : RKy w A K) : RKy w.drew A K := RSl.u h (below_drew w)
theorem RKy.some_ (h : RKy w A K) (hl : 0 < K.length) : A = some (A.getD ⟨0, 0, none⟩) := RSl.some_ h (by decide) hl
theorem RKy.nil_ : RKy w none [] := RSl.nil _ _ _
theorem RKy.elem (h : RKy w A K) {i : Nat} (hi : i < K.length) : ∃ A1 c1, CellsAt w A (i * 1) [.slice A1 K[i].length c1] ∧ Rd w A1 K[i] ∧ K[i].length ≤ c1 := by
  obtain ⟨cs, h1, A1, c1, rfl, h2, h3, _⟩ := RSl.elem h (by decide) hi
  exact ⟨A1, c1, h1, h2, h3⟩
end
section
variable {fn : Func} {F : Ending → World → Prop} {N : Nat} {ks : List K} {ops : Array Oper} {tg : Tags} {l : List Oper} {fr : Fr} {w : World} {ty t t' : TypeId} {pos : String} {aft : Array Edge} {gd : Option (Nat × Bool)} {d j : Nat} {x y : Operand} {A : Option Addr} {Ky : List By} {w0 : World}
--@ rule load l wl_ldKy
theorem wl_ldKy (hx : fr.ev x = some (.pointer (some (adr A j)))) (hr : RKy w0 A Ky) (hb : Below w0.heap.size w0 w) (hj : j < Ky.length)
    (hk : ∀ A1 c1, Rd w0 A1 Ky[j] → Ky[j].length ≤ c1 → WL Try.prog fn F N ks ops tg.tail l ((d, .slice A1 Ky[j].length c1) :: fr) w)
    (ht : tg.reads = true := by rfl) (hg : onG ops fr gd = true := by rfl) (hd : Nat.blt d N = true := by rfl) : WL Try.prog fn F N ks ops tg (⟨some d, .load 26 x, ty, pos, aft, gd⟩ :: l) fr w := by
  obtain ⟨A1, c1, h1, h2, h3⟩ := hr.elem hj
  refine wl_r (o_load (t := 26) Try.isAgg26 hx ?_) (hk A1 c1 h2 h3) ht hg hd
  have := h1.u hb 0 _ rfl
  rwa [Nat.mul_one] at this
end
/-- The zero bytes that pad n bytes and one more to 112 of 128. -/
def zeros (n : Nat) : Nat := (239 - n % 128) % 128
theorem zeros_lt (n : Nat) : zeros n < 128 := Nat.mod_lt _ (by decide)
/-- A number in eight bytes, the high one first. -/
def be8 (n : UInt64) : List UInt8 := (List.range 8).map fun k => (shrU n (56 - 8 * k)).toUInt8
theorem be8_len (n : UInt64) : (be8 n).length = 8 := by simp [be8]
theorem be8_get (n : UInt64) (k : Nat) (h : k < (be8 n).length) : (be8 n)[k] = (shrU n (56 - 8 * k)).toUInt8 := by simp [be8]
theorem flatten_le (L : List By) (n : Nat) (h : ∀ x ∈ L, x.length ≤ n) : L.flatten.length ≤ n * L.length := by
  induction L with
  | nil => simp
  | cons a L ih =>
    have h1 := ih (fun x hx => h x (by simp [hx]))
    have h2 := h a (by simp)
    rw [List.flatten_cons, List.length_append, List.length_cons, Nat.mul_add]
    omega
theorem flatten_take (L : List By) (i : Nat) (h : i < L.length) : (L.take (i + 1)).flatten = (L.take i).flatten ++ L[i] := by
  rw [List.take_succ_eq_append_getElem h, List.flatten_append]; simp
theorem flatten_take_le (L : List By) (i : Nat) : (L.take i).flatten.length ≤ L.flatten.length := by
  have : L.flatten = (L.take i).flatten ++ (L.drop i).flatten := by rw [← List.flatten_append, List.take_append_drop]
  rw [this, List.length_append]; omega
/-- What is padded. -/
def padU (b : By) : By := b ++ [128] ++ List.replicate (zeros b.length) 0 ++ be8 0 ++ be8 (UInt64.ofNat (b.length * 8))
theorem padU_len (b : By) : (padU b).length = b.length + 17 + zeros b.length := by simp only [padU, List.length_append, be8_len, List.length_replicate, List.length_singleton]; omega
theorem C_Mul8 {x : Nat} (w : World) (hx : x < 1000000000) : CallsR Try.prog 53 [.int .u64 (x : Int), .int .u64 8] w fun v w' => v = .tuple #[.int .u64 ((0 : UInt64).toNat : Int), .int .u64 ((UInt64.ofNat (x * 8)).toNat : Int)] ∧ w' = w := by
  have h := C_Mul64 (x := x) (y := 8) w (by omega) (by omega)
  refine h.mono ?_
  rintro v w' ⟨rfl, rfl⟩
  refine ⟨?_, rfl⟩
  rw [UInt64.toNat_ofNat_of_lt' (by show x * 8 < 18446744073709551616; omega), show x * 8 / 18446744073709551616 = 0 by omega, show x * 8 % 18446744073709551616 = x * 8 by omega]
  rfl
set_option maxHeartbeats 800000 in
theorem C_padded {A : Option Addr} {L : List By} {r : By} {n c : Nat} (w : World) (hK : RKy w A L) (hr : padU L.flatten = r) (hn : n = L.length) (hl : L.length ≤ 40) (hl2 : ∀ x ∈ L, x.length ≤ 10000) :
    CallsR Try.prog 44 [.slice A n c] w fun v w' => ∃ A' c', v = .slice A' r.length c' ∧ OwnH w' w.heap.size w'.heap.size A' c' r ∧ Below w.heap.size w w' := by
  subst hn
  refine callsR Try.func44 rfl rfl (by kernel_rfl) rfl ?_
  have hw := Below.refl w.heap.size w
  obtain ⟨b, hb⟩ : ∃ b, L.flatten = b := ⟨_, rfl⟩
  rw [hb] at hr
  have hbl : b.length ≤ 400000 := by
    have := flatten_le L 10000 hl2; rw [hb] at this; omega
  refine rk_seq ?_
  refine rk_region ?_
  refine wl_p (fun _ => o_assign rfl) ?_
  refine wl_nil ?_
  refine rk_seq ?_
  refine rk_region ?_
  refine wl_p (fun _ => o_assign rfl) ?_
  refine wl_nil ?_
  refine rk_seq ?_
  refine rk_seq ?_
  refine rk_region ?_
  refine wl_p (fun _ => o_move rfl) ?_
  refine wl_p (fun _ => o_len (t := 63) Try.underlying63 rfl) ?_
  refine wl_p (fun _ => o_move rfl) ?_
  refine wl_nil ?_
  refine rk_block ?_
  refine rk_joinf (fun fb fr w2 => fr = [(3, .int .i64 (b.length : Int))] ++ fb.drop 4 ∧ Below w.heap.size w w2) ?_ (fun ks hj => ?_)
  rotate_left
  · refine rk_loopf (fun fb m fr w2 => ∃ (i : Nat) (v cn : Int), fr = [(16, .int .i64 v), (3, .int .i64 cn)] ++ fb ∧ v = i ∧ i ≤ L.length ∧ m = L.length - i ∧ cn = ((L.take i).flatten.length : Int) ∧ Below w.heap.size w w2) (n := L.length) (Fr.le_of (by kernel_rfl) (by kernel_rfl) (by repeat' constructor)) ⟨0, _, _, rfl, rfl, by omega, rfl, rfl, hw⟩ ?_
    clear hw
    rintro m fr w2 ⟨i, v, cn, rfl, rfl, hi, rfl, hcn, hw⟩
    have h1 := flatten_take_le L i
    rw [hb] at h1
    first | refine rk_frame (by simp only [List.cons_append, List.nil_append, List.drop_succ_cons, List.drop_zero]; rfl) ?_ | refine wl_frame (by simp only [List.cons_append, List.nil_append, List.drop_succ_cons, List.drop_zero]; rfl) ?_
    refine rk_seq ?_
    refine rk_region ?_
    refine wl_p (fun _ => o_lt rfl rfl) ?_
    refine wl_nil ?_
    refine rk_seq ?_
    refine rk_if rfl (fun h17 => ?_) (fun h17 => ?_)
    · have hil : i < L.length := by omega
      have h2 := hl2 _ (List.getElem_mem hil)
      refine rk_skip ?_
      refine rk_seq ?_
      refine rk_block ?_
      refine rk_seq ?_
      refine rk_region ?_
      refine wl_p (fun _ => (o_iaddrA1 (i) Try.underlying63 Try.sizeOf26 rfl rfl rfl (hK.some_ (by omega)) (by omega))) ?_
      refine wl_ldKy rfl hK hw (by omega) ?_
      rintro A119 c119 f19 i19
      refine wl_p (fun _ => o_assign rfl) ?_
      refine wl_nil ?_
      refine rk_region ?_
      refine wl_p (fun _ => o_move rfl) ?_
      refine wl_p (fun _ => o_move rfl) ?_
      refine wl_p (fun _ => o_len (t := 26) Try.underlying26 rfl) ?_
      refine wl_p (fun _ => o_add rfl rfl (by omega) (by omega)) ?_
      refine wl_p (fun _ => o_assign rfl) ?_
      refine wl_nil ?_
      refine rk_blk ?_
      refine rk_region ?_
      refine wl_p (fun _ => o_add rfl rfl (by omega) (by omega)) ?_
      refine wl_p (fun _ => o_move rfl) ?_
      refine wl_nil ?_
      exact rk_againf (Fr.le_of (by kernel_rfl) (by kernel_rfl) (by repeat' constructor)) ⟨i + 1, (i : Int) + 1, _, rfl, by omega, by omega, rfl, by rw [flatten_take L i hil, List.length_append]; omega, hw⟩ (by omega)
    · refine rk_exit rfl ?_
      obtain rfl : i = L.length := by omega
      rw [List.take_length, hb] at hcn
      subst hcn
      exact rk_tof hj (Fr.le_of (by kernel_rfl) (by kernel_rfl) (by repeat' constructor)) ⟨rfl, hw⟩
  clear hw
  rintro fr w2 ⟨rfl, hw⟩
  have shw0 := hw.size
  first | refine rk_frame (by simp only [List.cons_append, List.nil_append, List.drop_succ_cons, List.drop_zero]; rfl) ?_ | refine wl_frame (by simp only [List.cons_append, List.nil_append, List.drop_succ_cons, List.drop_zero]; rfl) ?_
  refine rk_seq ?_
  refine rk_region ?_
  refine wl_p (fun _ => o_move rfl) ?_
  refine wl_p (fun _ => o_add rfl rfl (by omega) (by omega)) ?_
  refine wl_p (fun _ => o_quo rfl rfl (by omega) (by omega) (by omega)) ?_
  refine wl_p (fun _ => o_mul rfl rfl (by omega) (by omega)) ?_
  refine wl_p (fun _ => o_add rfl rfl (by omega) (by omega)) ?_
  refine wl_mkB ((b.length + 16) / 128 * 128 + 128) rfl rfl (by omega) (by omega) ?_
  rintro A30 w30 f30 b30
  have qf30 := f30.cap
  have s30 := b30.size
  replace hw := hw.trans (b30.mono hw.size)
  refine wl_p (fun _ => o_assign rfl) ?_
  refine wl_nil ?_
  refine rk_seq ?_
  refine rk_seq ?_
  refine rk_region ?_
  refine wl_p (fun _ => o_move rfl) ?_
  refine wl_p (fun _ => o_len (t := 63) Try.underlying63 rfl) ?_
  refine wl_p (fun _ => o_move rfl) ?_
  refine wl_nil ?_
  refine rk_block ?_
  refine rk_joinf (fun fb fr w3 => ∃ A' c', fr = [(6, .slice A' b.length c')] ++ fb.drop 4 ∧ OwnH w3 w2.heap.size w3.heap.size A' c' b ∧ w30.heap.size ≤ w3.heap.size ∧ Below w.heap.size w w3) ?_ (fun ks hj => ?_)
  rotate_left
  · refine rk_loopf (fun fb m fr w3 => ∃ (i : Nat) (v : Int) (A' : Option Addr) (bs : By) (c' : Nat), fr = [(33, .int .i64 v), (6, .slice A' bs.length c')] ++ fb ∧ v = i ∧ i ≤ L.length ∧ m = L.length - i ∧ bs = (L.take i).flatten ∧ OwnH w3 w2.heap.size w3.heap.size A' c' bs ∧ w30.heap.size ≤ w3.heap.size ∧ Below w.heap.size w w3) (n := L.length) (Fr.le_of (by kernel_rfl) (by kernel_rfl) (by repeat' constructor)) ⟨0, _, A30, _, _, rfl, rfl, by omega, rfl, rfl, f30, Nat.le_refl _, hw⟩ ?_
    clear hw f30
    rintro m fr w3 ⟨i, v, A', bs, c', rfl, rfl, hi, rfl, hbs, fo, hsz, hw⟩
    have shw := hw.size
    have h1 := flatten_take_le L i
    rw [hb, ← hbs] at h1
    first | refine rk_frame (by simp only [List.cons_append, List.nil_append, List.drop_succ_cons, List.drop_zero]; rfl) ?_ | refine wl_frame (by simp only [List.cons_append, List.nil_append, List.drop_succ_cons, List.drop_zero]; rfl) ?_
    refine rk_seq ?_
    refine rk_region ?_
    refine wl_p (fun _ => o_lt rfl rfl) ?_
    refine wl_nil ?_
    refine rk_seq ?_
    refine rk_if rfl (fun h34 => ?_) (fun h34 => ?_)
    · have hil : i < L.length := by omega
      have h2 := hl2 _ (List.getElem_mem hil)
      refine rk_skip ?_
      refine rk_seq ?_
      refine rk_block ?_
      refine rk_seq ?_
      refine rk_region ?_
      refine wl_p (fun _ => (o_iaddrA1 (i) Try.underlying63 Try.sizeOf26 rfl rfl rfl (hK.some_ (by omega)) (by omega))) ?_
      refine wl_ldKy rfl hK hw (by omega) ?_
      rintro A136 c136 f36 i36
      refine wl_p (fun _ => o_assign rfl) ?_
      refine wl_nil ?_
      refine rk_region ?_
      refine wl_p (fun _ => o_move rfl) ?_
      refine wl_p (fun _ => o_move rfl) ?_
      refine wl_appB Try.u8 rfl fo rfl rfl (f36.u hw) rfl (by omega) (by omega) ?_
      rintro A39 c39 w39 f39 g39 b39 i39
      have qf39 := f39.cap
      have s39 := g39.size
      replace hw := hw.trans (b39.mono (by omega))
      clear fo
      refine wl_p (fun _ => o_assign rfl) ?_
      refine wl_nil ?_
      refine rk_blk ?_
      refine rk_region ?_
      refine wl_p (fun _ => o_add rfl rfl (by omega) (by omega)) ?_
      refine wl_p (fun _ => o_move rfl) ?_
      refine wl_nil ?_
      exact rk_againf (Fr.le_of (by kernel_rfl) (by kernel_rfl) (by repeat' constructor)) ⟨i + 1, (i : Int) + 1, _, _, _, rfl, by omega, by omega, rfl, by rw [flatten_take L i hil, hbs], f39, by omega, hw⟩ (by omega)
    · refine rk_exit rfl ?_
      obtain rfl : i = L.length := by omega
      rw [List.take_length, hb] at hbs
      subst hbs
      exact rk_tof hj (Fr.le_of (by kernel_rfl) (by kernel_rfl) (by repeat' constructor)) ⟨A', c', rfl, fo, hsz, hw⟩
  clear hw f30
  rintro fr w3 ⟨A', c', rfl, fo, hsz, hw⟩
  have shw := hw.size
  first | refine rk_frame (by simp only [List.cons_append, List.nil_append, List.drop_succ_cons, List.drop_zero]; rfl) ?_ | refine wl_frame (by simp only [List.cons_append, List.nil_append, List.drop_succ_cons, List.drop_zero]; rfl) ?_
  obtain ⟨zn, hz⟩ : ∃ zn, zeros b.length = zn := ⟨_, rfl⟩
  have hzd := hz
  unfold zeros at hzd
  refine rk_seq ?_
  refine rk_region ?_
  refine wl_p (fun _ => o_move rfl) ?_
  refine wl_litB [128] Try.u8 Try.sizeOf5 Try.zeroValue5 (by rfl) rfl rfl (by rfl) (by rfl) (by rfl) ?_
  rintro A42 w42 f42 b42
  have qf42 := f42.cap
  have s42 := b42.size
  replace hw := hw.trans (b42.mono hw.size)
  replace fo := fo.u b42
  refine wl_appB Try.u8 rfl fo rfl rfl f42.to_Rd (by rfl) (by omega) (by omega) ?_
  rintro A43 c43 w43 f43 g43 b43 i43
  have qf43 := f43.cap
  have s43 := g43.size
  replace hw := hw.trans (b43.mono (by omega))
  replace f42 := f42.k g43.g (fo.ap (by omega))
  clear fo
  refine wl_p (fun _ => o_assign rfl) ?_
  refine wl_nil ?_
  refine rk_seq ?_
  refine rk_block ?_
  refine rk_joinf (fun fb fr w4 => ∃ A' c' bs, fr = [(6, .slice A' bs.length c')] ++ fb.drop 1 ∧ bs = b ++ [128] ++ List.replicate zn 0 ∧ OwnH w4 w2.heap.size w4.heap.size A' c' bs ∧ w43.heap.size ≤ w4.heap.size ∧ Below w.heap.size w w4) ?_ (fun ks hj => ?_)
  rotate_left
  · refine rk_loopf (fun fb m fr w4 => ∃ (i : Nat) (A' : Option Addr) (bs : By) (c' : Nat), fr = [(6, .slice A' bs.length c')] ++ fb.drop 1 ∧ i ≤ zn ∧ m = zn - i ∧ bs = b ++ [128] ++ List.replicate i 0 ∧ OwnH w4 w2.heap.size w4.heap.size A' c' bs ∧ w43.heap.size ≤ w4.heap.size ∧ Below w.heap.size w w4) (n := zn) (Fr.le_of (by kernel_rfl) (by kernel_rfl) (by repeat' constructor)) ⟨0, A43, _, _, rfl, by omega, rfl, by rw [List.replicate_zero, List.append_nil], f43, Nat.le_refl _, hw⟩ ?_
    clear hw f43
    rintro m fr w4 ⟨i, A', bs, c', rfl, hi, rfl, hbs, fo, hsz4, hw⟩
    have shw4 := hw.size
    have hbl4 : bs.length = b.length + 1 + i := by rw [hbs, List.length_append, List.length_append, List.length_replicate, List.length_singleton]
    first | refine rk_frame (by simp only [List.cons_append, List.nil_append, List.drop_succ_cons, List.drop_zero]; rfl) ?_ | refine wl_frame (by simp only [List.cons_append, List.nil_append, List.drop_succ_cons, List.drop_zero]; rfl) ?_
    refine rk_seq ?_
    refine rk_seq ?_
    refine rk_region ?_
    refine wl_p (fun _ => o_move rfl) ?_
    refine wl_p (fun _ => o_len (t := 26) Try.underlying26 rfl) ?_
    refine wl_p (fun _ => o_rem rfl rfl (by omega) (by omega)) ?_
    refine wl_p (fun _ => o_ne rfl rfl) ?_
    refine wl_nil ?_
    refine rk_if rfl (fun h47 => ?_) (fun h47 => ?_)
    · refine rk_skip ?_
      refine rk_block ?_
      refine rk_region ?_
      refine wl_p (fun _ => o_move rfl) ?_
      refine wl_litB [0] Try.u8 Try.sizeOf5 Try.zeroValue5 (by rfl) rfl rfl (by rfl) (by rfl) (by rfl) ?_
      rintro A49 w49 f49 b49
      have qf49 := f49.cap
      have s49 := b49.size
      replace hw := hw.trans (b49.mono hw.size)
      replace fo := fo.u b49
      refine wl_appB Try.u8 rfl fo rfl rfl f49.to_Rd (by rfl) (by omega) (by omega) ?_
      rintro A50 c50 w50 f50 g50 b50 i50
      have qf50 := f50.cap
      have s50 := g50.size
      replace hw := hw.trans (b50.mono (by omega))
      replace f49 := f49.k g50.g (fo.ap (by omega))
      clear fo
      refine wl_p (fun _ => o_assign rfl) ?_
      refine wl_nil ?_
      refine rk_blk ?_
      exact rk_againf (Fr.le_of (by kernel_rfl) (by kernel_rfl) (by repeat' constructor)) ⟨i + 1, _, _, _, rfl, by omega, rfl, by rw [hbs, List.replicate_succ', List.append_assoc (b ++ [128])], f50, by omega, hw⟩ (by omega)
    · refine rk_exit rfl ?_
      obtain rfl : i = zn := by omega
      exact rk_tof hj (Fr.le_of (by kernel_rfl) (by kernel_rfl) (by repeat' constructor)) ⟨A', c', bs, rfl, hbs, fo, hsz4, hw⟩
  clear hw f43
  rintro fr w4 ⟨A', c', bs, rfl, hbs, fo, hsz4, hw⟩
  have shw4 := hw.size
  have hbl4 : bs.length = b.length + 1 + zn := by rw [hbs, List.length_append, List.length_append, List.length_replicate, List.length_singleton]
  first | refine rk_frame (by simp only [List.cons_append, List.nil_append, List.drop_succ_cons, List.drop_zero]; rfl) ?_ | refine wl_frame (by simp only [List.cons_append, List.nil_append, List.drop_succ_cons, List.drop_zero]; rfl) ?_
  refine rk_seq ?_
  refine rk_region ?_
  refine wl_p (fun _ => o_move rfl) ?_
  refine wl_p (fun _ => o_convu64 (src := 3) (dst := 25) Try.underlying3 Try.underlying25 rfl (by omega) (by omega)) ?_
  refine wl_call rfl (C_Mul8 _ (by omega)) ?_
  rintro v54 w54 ⟨rfl, rfl⟩
  refine wl_p (fun _ => o_move rfl) ?_
  refine wl_p (fun _ => o_ext20 rfl) ?_
  refine wl_p (fun _ => o_ext21 rfl) ?_
  refine wl_p (fun _ => o_assign rfl) ?_
  refine wl_p (fun _ => o_assign rfl) ?_
  refine wl_nil ?_
  refine rk_seq ?_
  refine rk_seq ?_
  refine rk_region ?_
  refine wl_p (fun _ => o_move rfl) ?_
  refine wl_p (fun _ => o_move rfl) ?_
  refine wl_p (fun _ => (o_buildU [0, UInt64.ofNat (b.length * 8)] Try.underlying96 (by rfl) (by rfl) rfl rfl (by rfl) (by rfl) (fun _ => by kernel_rfl))) ?_
  refine wl_p (fun _ => o_move rfl) ?_
  refine wl_nil ?_
  refine rk_block ?_
  obtain ⟨xs, hxs⟩ : ∃ xs, [(0 : UInt64), UInt64.ofNat (b.length * 8)] = xs := ⟨_, rfl⟩
  have hxl : xs.length = 2 := by rw [← hxs]; rfl
  rw [hxs]
  have hrr : r = bs ++ (xs.map be8).flatten := by
    rw [← hr, ← hxs, hbs, ← hz]; simp [padU]
  refine rk_joinf (fun fb fr w5 => ∃ A' c', fr = [(6, .slice A' r.length c')] ++ fb.drop 13 ∧ OwnH w5 w2.heap.size w5.heap.size A' c' r ∧ Below w.heap.size w w5) ?_ (fun ks hj => ?_)
  rotate_left
  · refine rk_loopf (fun fb m fr w5 => ∃ (i : Nat) (v : Int) (A' : Option Addr) (bt : By) (c' : Nat), fr = [(60, .int .i64 v), (6, .slice A' bt.length c')] ++ fb ∧ v = i ∧ i ≤ 2 ∧ m = 2 - i ∧ bt = bs ++ ((xs.take i).map be8).flatten ∧ bt.length = bs.length + 8 * i ∧ OwnH w5 w2.heap.size w5.heap.size A' c' bt ∧ w54.heap.size ≤ w5.heap.size ∧ Below w.heap.size w w5) (n := 2) (Fr.le_of (by kernel_rfl) (by kernel_rfl) (by repeat' constructor)) ⟨0, _, A', _, c', rfl, rfl, by omega, rfl, by simp, rfl, fo, Nat.le_refl _, hw⟩ ?_
    clear hw fo
    rintro m fr w5 ⟨i, v, A', bt, c', rfl, rfl, hi, rfl, hbt, hbtl, fo, hsz5, hw⟩
    have shw5 := hw.size
    first | refine rk_frame (by simp only [List.cons_append, List.nil_append, List.drop_succ_cons, List.drop_zero]; rfl) ?_ | refine wl_frame (by simp only [List.cons_append, List.nil_append, List.drop_succ_cons, List.drop_zero]; rfl) ?_
    refine rk_seq ?_
    refine rk_region ?_
    refine wl_p (fun _ => o_lt rfl rfl) ?_
    refine wl_nil ?_
    refine rk_seq ?_
    refine rk_if rfl (fun h61 => ?_) (fun h61 => ?_)
    · have hil : i < xs.length := by omega
      obtain ⟨x, hx⟩ : ∃ x, xs[i] = x := ⟨_, rfl⟩
      have hbn : (be8 x).length = 8 := be8_len x
      refine rk_skip ?_
      refine rk_seq ?_
      refine rk_block ?_
      refine rk_seq ?_
      refine rk_region ?_
      refine wl_p (fun _ => (o_indexU (i) Try.underlying96 Try.sizeOf25 Try.isAgg25 rfl rfl rfl (by omega) hxl)) ?_
      refine wl_p (fun _ => o_assign rfl) ?_
      refine wl_nil ?_
      refine rk_seq ?_
      refine rk_region ?_
      refine wl_p (fun _ => o_assign rfl) ?_
      refine wl_nil ?_
      refine rk_block ?_
      rw [hx]
      refine rk_joinf (fun fb fr w6 => ∃ A' c' bu, fr = [(6, .slice A' bu.length c')] ++ fb.drop 1 ∧ bu = bt ++ be8 x ∧ OwnH w6 w2.heap.size w6.heap.size A' c' bu ∧ w5.heap.size ≤ w6.heap.size ∧ Below w.heap.size w w6) ?_ (fun ks2 hj2 => ?_)
      rotate_left
      · refine rk_loopf (fun fb m fr w6 => ∃ (k : Nat) (v : Int) (A' : Option Addr) (bu : By) (c' : Nat), fr = [(13, .int .i64 v), (6, .slice A' bu.length c')] ++ fb ∧ v = 56 - 8 * (k : Int) ∧ k ≤ 8 ∧ m = 8 - k ∧ bu = bt ++ (be8 x).take k ∧ OwnH w6 w2.heap.size w6.heap.size A' c' bu ∧ w5.heap.size ≤ w6.heap.size ∧ Below w.heap.size w w6) (n := 8) (Fr.le_of (by kernel_rfl) (by kernel_rfl) (by repeat' constructor)) ⟨0, _, A', _, c', rfl, rfl, by omega, rfl, by rw [List.take_zero, List.append_nil], fo, Nat.le_refl _, hw⟩ ?_
        clear hw fo
        rintro m fr w6 ⟨k, v, A', bu, c', rfl, rfl, hk, rfl, hbu, fo, hsz6, hw⟩
        have shw6 := hw.size
        have hbul : bu.length = bt.length + k := by rw [hbu, List.length_append, List.length_take]; omega
        first | refine rk_frame (by simp only [List.cons_append, List.nil_append, List.drop_succ_cons, List.drop_zero]; rfl) ?_ | refine wl_frame (by simp only [List.cons_append, List.nil_append, List.drop_succ_cons, List.drop_zero]; rfl) ?_
        refine rk_seq ?_
        refine rk_seq ?_
        refine rk_region ?_
        refine wl_p (fun _ => o_move rfl) ?_
        refine wl_p (fun _ => o_ge rfl rfl) ?_
        refine wl_nil ?_
        refine rk_if rfl (fun h64 => ?_) (fun h64 => ?_)
        · refine rk_skip ?_
          refine rk_seq ?_
          refine rk_block ?_
          refine rk_region ?_
          refine wl_p (fun _ => o_move rfl) ?_
          refine wl_p (fun _ => o_move rfl) ?_
          refine wl_p (fun _ => o_move rfl) ?_
          refine wl_p (fun _ => o_shrU rfl rfl (by omega) (by omega)) ?_
          refine wl_p (fun _ => o_convU8 (src := 25) (dst := 5) Try.underlying25 Try.underlying5 rfl) ?_
          rw [show (56 - 8 * (k : Int)).toNat = 56 - 8 * k by omega]
          refine wl_litB [(shrU x (56 - 8 * k)).toUInt8] Try.u8 Try.sizeOf5 Try.zeroValue5 (by rfl) rfl rfl (by rfl) (by rfl) (by rfl) ?_
          rintro A72 w72 f72 b72
          have qf72 := f72.cap
          have s72 := b72.size
          replace hw := hw.trans (b72.mono hw.size)
          replace fo := fo.u b72
          refine wl_appB Try.u8 rfl fo rfl rfl f72.to_Rd (by rfl) (by omega) (by omega) ?_
          rintro A73 c73 w73 f73 g73 b73 i73
          have qf73 := f73.cap
          have s73 := g73.size
          replace hw := hw.trans (b73.mono (by omega))
          replace f72 := f72.k g73.g (fo.ap (by omega))
          clear fo
          refine wl_p (fun _ => o_assign rfl) ?_
          refine wl_nil ?_
          refine rk_blk ?_
          refine rk_region ?_
          refine wl_p (fun _ => o_move rfl) ?_
          refine wl_p (fun _ => o_sub rfl rfl (by omega) (by omega)) ?_
          refine wl_p (fun _ => o_assign rfl) ?_
          refine wl_nil ?_
          exact rk_againf (Fr.le_of (by kernel_rfl) (by kernel_rfl) (by repeat' constructor)) ⟨k + 1, 56 - 8 * (k : Int) - 8, _, _, _, rfl, by omega, by omega, rfl, by rw [hbu, List.take_succ_eq_append_getElem (by omega), be8_get, List.append_assoc], f73, by omega, hw⟩ (by omega)
        · refine rk_exit rfl ?_
          obtain rfl : k = 8 := by omega
          rw [List.take_of_length_le (by omega)] at hbu
          exact rk_tof hj2 (Fr.le_of (by kernel_rfl) (by kernel_rfl) (by repeat' constructor)) ⟨A', c', bu, rfl, hbu, fo, hsz6, hw⟩
      clear hw fo
      rintro fr w6 ⟨A', c', bu, rfl, hbu, fo, hsz6, hw⟩
      have shw6 := hw.size
      have hbul : bu.length = bt.length + 8 := by rw [hbu, List.length_append, hbn]
      first | refine rk_frame (by simp only [List.cons_append, List.nil_append, List.drop_succ_cons, List.drop_zero]; rfl) ?_ | refine wl_frame (by simp only [List.cons_append, List.nil_append, List.drop_succ_cons, List.drop_zero]; rfl) ?_
      refine rk_blk ?_
      refine rk_region ?_
      refine wl_p (fun _ => o_add rfl rfl (by omega) (by omega)) ?_
      refine wl_p (fun _ => o_move rfl) ?_
      refine wl_nil ?_
      exact rk_againf (Fr.le_of (by kernel_rfl) (by kernel_rfl) (by repeat' constructor)) ⟨i + 1, (i : Int) + 1, _, _, _, rfl, by omega, by omega, rfl, by rw [hbu, hbt, List.take_succ_eq_append_getElem hil, hx, List.map_append, List.flatten_append, List.append_assoc]; simp, by omega, fo, by omega, hw⟩ (by omega)
    · refine rk_exit rfl ?_
      obtain rfl : i = 2 := by omega
      rw [List.take_of_length_le (by omega), ← hrr] at hbt
      subst hbt
      exact rk_tof hj (Fr.le_of (by kernel_rfl) (by kernel_rfl) (by repeat' constructor)) ⟨A', c', rfl, fo, hw⟩
  clear hw fo
  rintro fr w5 ⟨A', c', rfl, fo, hw⟩
  have shw5 := hw.size
  first | refine rk_frame (by simp only [List.cons_append, List.nil_append, List.drop_succ_cons, List.drop_zero]; rfl) ?_ | refine wl_frame (by simp only [List.cons_append, List.nil_append, List.drop_succ_cons, List.drop_zero]; rfl) ?_
  refine rk_seq ?_
  refine rk_region ?_
  refine wl_p (fun _ => o_move rfl) ?_
  refine wl_p (fun _ => o_assign rfl) ?_
  refine wl_nil ?_
  refine ret1 rfl rfl ?_
  exact ⟨A', c', rfl, fo.base (by omega) (Nat.le_refl _), hw⟩
end Go.Proofs.Ytpjedpmbninfcaa
