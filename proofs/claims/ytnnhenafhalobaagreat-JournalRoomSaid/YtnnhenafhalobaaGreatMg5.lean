/-
  Walks of package record: checks, bodies, chains.
-/
import Derived.Test.YtnnhenafhalobaaGreatMg4
import Derived.Lib.AppendStr
import GoSem.Op.String
namespace Go.Proofs.YtnnhenafhalobaaGreat
set_option maxRecDepth 100000
open Go.RowKit
--@ side RKy.nil_
/-- A block. -/
def blkB (p : By) : By := enc p.length ++ p
theorem enc_le9 (n : Nat) : (enc n).length ≤ 9 := by
  rw [enc_length]; unfold room; (repeat' split) <;> omega
theorem blkB_le {p : By} {n : Nat} (h : p.length ≤ n) : (blkB p).length ≤ n + 9 := by
  have h1 := enc_le9 p.length
  simp only [blkB, List.length_append]; omega
/-- Eight bytes of a number. -/
def wB8 (n : Nat) : By := leB 8 n
theorem wB8_len (n : Nat) : (wB8 n).length = 8 := leB_length 8 _
/-- A record. -/
abbrev Rc := UInt8 × By
/-- A record's Kind and Data as bytes. -/
def bodyB (r : Rc) : By := [r.1] ++ blkB r.2
theorem bodyB_le {r : Rc} {n : Nat} (h : r.2.length ≤ n) : (bodyB r).length ≤ n + 10 := by
  have := blkB_le h
  simp only [bodyB, List.length_append, List.length_singleton]; omega
/-- A sum of bytes. -/
def sumB (L : List By) : By := (bytesU (runU Ul (padU L.flatten))).take 32
theorem sumB_len (L : List By) : (sumB L).length = 32 := by
  unfold sumB; rw [List.length_take, bytesU_len]; rfl
/-- The chain after a record. -/
def nextB (d : By) (r : Rc) : By := sumB [d, bodyB r]
theorem nextB_len (d : By) (r : Rc) : (nextB d r).length = 32 := sumB_len _
/-- A record's bytes. -/
def bytesR (d : By) (r : Rc) : By := bodyB r ++ (nextB d r).take 8
def nul32 : By := List.replicate 32 0
/-- A record is valid. -/
def OkR (r : Rc) : Prop := r.1 ≠ 0 ∧ r.2.length ≤ 8192
instance (r : Rc) : Decidable (OkR r) := by unfold OkR; infer_instance
theorem C_Word8 {z k : Int} {n : Nat} (w : World) (hz : z = n) (hn : n < 18446744073709551616) (hk : k = 8) :
    CallsR Tryz.prog 77 [.slice none 0 0, .int .u64 z, .int .i64 k] w fun v w' => ∃ A' c', v = .slice A' (wB8 n).length c' ∧ OwnH w' w.heap.size w'.heap.size A' c' (wB8 n) ∧ Below w.heap.size w w' := by
  subst hz; subst hk
  refine (C_Word (A := none) (l := []) 0 n 8 w (Rd.nil _ _) (by unfold u64; omega) (by simp)).mono ?_
  rintro v w' ⟨A', c', rfl, h, hb⟩
  exact ⟨A', c', rfl, h.h_, hb⟩
theorem C_NumberN {z : Int} {n : Nat} (w : World) (hz : z = n) (hn : n < 18446744073709551616) :
    CallsR Tryz.prog 85 [.slice none 0 0, .int .u64 z] w fun v w' => ∃ A' c', v = .slice A' (enc n).length c' ∧ Below w.heap.size w w' := by
  subst hz
  refine (C_Number (A := none) (l := []) 0 n w (Rd.nil _ _) (by unfold u64; omega) (by simp)).mono ?_
  rintro v w' ⟨A', c', rfl, h, hb⟩
  exact ⟨A', c', rfl, hb⟩
theorem C_BlockR {A X : Option Addr} {l p : By} {n k c d : Nat} (w : World) (hA : Rd w A l) (hp : Rd w X p) (hn : n = l.length) (hk : k = p.length) (hl : l.length ≤ 4000000000) (hl2 : p.length ≤ 4000000000) :
    CallsR Tryz.prog 105 [.slice A n c, .slice X k d] w fun v w' => ∃ A' c', v = .slice A' (l ++ blkB p).length c' ∧ OwnH w' w.heap.size w'.heap.size A' c' (l ++ blkB p) ∧ Below w.heap.size w w' := by
  subst hn; subst hk
  refine (C_Block c d w hA hp (by omega)).mono ?_
  rintro v w' ⟨A', c', rfl, h, hb⟩
  unfold blkB
  rw [← List.append_assoc]
  exact ⟨A', c', rfl, h.h_, hb⟩
theorem C_First {z : Int} {n : Nat} {r : By} (w : World) (hz : z = n) (hn : n < 18446744073709551616) (hr : sumB [wB8 n] = r) :
    CallsR Tryz.prog 55 [.int .u64 z] w fun v w' => v = .agg (B8 r).toArray ∧ Below w.heap.size w w' := by
  subst hz
  have h8 := wB8_len n
  have h32 : r.length = 32 := by rw [← hr, sumB_len]
  unfold sumB at hr
  refine callsR Tryz.func55 rfl rfl (by kernel_rfl) rfl ?_
  have hw := Below.refl w.heap.size w
  refine rk_seq ?_
  refine rk_region ?_
  refine wl_allocB Tryz.underlying64 Tryz.zeroValue64 (by rfl) ?_
  rintro g2 w2 f2 b2 i2 i2_1
  have s2 := b2.size
  replace hw := hw.trans (b2.mono hw.size)
  refine wl_nil ?_
  refine rk_seq ?_
  refine rk_region ?_
  refine wl_p (fun _ => o_move rfl) ?_
  refine wl_call rfl (C_Word8 _ rfl (by omega) rfl) ?_
  rintro v4 w4 ⟨A4, ⟨c4, ⟨rfl, ⟨f4, b4⟩⟩⟩⟩
  have qf4 := f4.cap
  have s4 := b4.size
  replace hw := hw.trans (b4.mono hw.size)
  replace f2 := f2.u b4
  refine wl_litK1 (by rfl) rfl f4.to_RdT rfl (by omega) (own_max' (by assumption)) (by rfl) ?_
  rintro A5 w5 f5 b5
  have s5 := b5.size
  replace hw := hw.trans (b5.mono hw.size)
  replace f2 := f2.u b5
  replace f4 := f4.u b5
  refine wl_call rfl (C_Sum _ f5 hr (by rfl) (by simp) (by simp; omega)) ?_
  rintro v6 w6 ⟨rfl, b6⟩
  have s6 := b6.size
  replace hw := hw.trans (b6.mono hw.size)
  replace f4 := f4.u b6
  replace f2 := f2.u b6
  replace f5 := f5.u b6
  refine wl_stBa Tryz.sizeOf64 rfl f2 rfl h32 (by rfl) ?_
  rintro w_1 f g e
  have s := g.size
  replace hw := hw.trans (below_of_grownBy g.g hw.size (by omega))
  replace f4 := f4.k g.g (ap_some (by omega))
  clear f5
  clear f2
  refine wl_nil ?_
  refine ret_cell rfl rfl Tryz.isAgg64 Tryz.sizeOf64 (show Blk _ _ _ (B8 r) by assumption) (by rw [B8_length, h32]) ?_
  exact ⟨rfl, hw⟩
theorem C_body {k : UInt8} {A : Option Addr} {p : By} {n c : Nat} (w : World) (hp : Rd w A p) (hn : n = p.length) (hl : p.length ≤ 10000) :
    CallsR Tryz.prog 82 [.agg #[.int .u8 (k.toNat : Int), .slice A n c]] w fun v w' => ∃ A' c', v = .slice A' (bodyB (k, p)).length c' ∧ OwnH w' w.heap.size w'.heap.size A' c' (bodyB (k, p)) ∧ Below w.heap.size w w' := by
  subst hn
  refine callsR Tryz.func82 rfl rfl (by kernel_rfl) rfl ?_
  have hw := Below.refl w.heap.size w
  refine rk_seq ?_
  refine rk_region ?_
  refine wl_boxg [_, _] rfl (by rfl) ?_
  rintro g1 w1 f1 b1 i1 i1_1
  have s1 := b1.size
  replace hw := hw.trans (b1.mono hw.size)
  refine wl_p (fun _ => o_assign rfl) ?_
  refine wl_nil ?_
  refine rk_seq ?_
  refine rk_region ?_
  refine wl_p (fun _ => o_faddr (s := 37) (i := 0) (off := 0) Tryz.underlying37 rfl Tryz.sizeOf5 rfl rfl rfl) ?_
  refine wl_r (o_loadbg Tryz.isAgg5 rfl f1 (by rfl)) ?_
  refine wl_litB [k] Tryz.u8 Tryz.sizeOf5 Tryz.zeroValue5 (by rfl) rfl rfl (by rfl) (by rfl) (by rfl) ?_
  rintro A5 w5 f5 b5
  have qf5 := f5.cap
  have s5 := b5.size
  replace hw := hw.trans (b5.mono hw.size)
  replace f1 := f1.u b5
  refine wl_p (fun _ => o_faddr (s := 37) (i := 1) (off := 1) Tryz.underlying37 rfl Tryz.sizeOf35 rfl rfl rfl) ?_
  refine wl_r (o_loadbg Tryz.isAgg35 rfl f1 (by rfl)) ?_
  refine wl_call rfl (C_BlockR _ f5.to_Rd (hp.u hw) (by rfl) rfl (by omega) (by omega)) ?_
  rintro v8 w8 ⟨A8, ⟨c8, ⟨rfl, ⟨f8, b8⟩⟩⟩⟩
  have qf8 := f8.cap
  have s8 := b8.size
  replace hw := hw.trans (b8.mono hw.size)
  replace f1 := f1.u b8
  replace f5 := f5.u b8
  refine wl_p (fun _ => o_assign rfl) ?_
  refine wl_nil ?_
  refine ret1 rfl rfl ?_
  exact ⟨_, _, rfl, f8.base (by omega) (Nat.le_refl _), hw⟩
theorem C_Check {k : UInt8} {A : Option Addr} {p : By} {n c : Nat} (w : World) (hn : n = p.length) :
    CallsR Tryz.prog 56 [.agg #[.int .u8 (k.toNat : Int), .slice A n c]] w fun v w' => ∃ z : Int, v = .int .i64 z ∧ (z = 0 ∨ z = 2) ∧ (z = 0 ↔ OkR (k, p)) ∧ Below w.heap.size w w' := by
  subst hn
  by_cases h0 : (k.toNat : Int) = 0
  · have e0 : k = 0 := UInt8.toNat_inj.1 (by simp; omega)
    refine callsR Tryz.func56 rfl rfl (by kernel_rfl) rfl ?_
    have hw := Below.refl w.heap.size w
    refine rk_seq ?_
    refine rk_region ?_
    refine wl_boxg [_, _] rfl (by rfl) ?_
    rintro g1 w1 f1 b1 i1 i1_1
    have s1 := b1.size
    replace hw := hw.trans (b1.mono hw.size)
    refine wl_p (fun _ => o_assign rfl) ?_
    refine wl_nil ?_
    refine rk_seq ?_
    refine rk_seq ?_
    refine rk_region ?_
    refine wl_p (fun _ => o_faddr (s := 37) (i := 0) (off := 0) Tryz.underlying37 rfl Tryz.sizeOf5 rfl rfl rfl) ?_
    refine wl_r (o_loadbg Tryz.isAgg5 rfl f1 (by rfl)) ?_
    refine wl_p (fun _ => o_eq rfl rfl) ?_
    refine wl_p (fun _ => o_move rfl) ?_
    refine wl_know 6 true rfl (decide_eq_true (by omega)) ?_
    refine wl_off ?_
    refine wl_off ?_
    refine wl_off ?_
    refine wl_off ?_
    refine wl_p (fun _ => o_pick_t rfl rfl) ?_
    refine wl_nil ?_
    refine rk_true rfl ?_
    refine rk_seq ?_
    refine rk_region ?_
    refine wl_p (fun _ => o_assign rfl) ?_
    refine wl_nil ?_
    rw [decide_eq_true h0]
    refine ret1 rfl rfl ?_
    exact ⟨_, rfl, .inr rfl, ⟨fun h => absurd h (by decide), fun h => absurd e0 h.1⟩, hw⟩
  · have e0 : k ≠ 0 := fun e => h0 (by rw [e]; rfl)
    refine callsR Tryz.func56 rfl rfl (by kernel_rfl) rfl ?_
    have hw := Below.refl w.heap.size w
    refine rk_seq ?_
    refine rk_region ?_
    refine wl_boxg [_, _] rfl (by rfl) ?_
    rintro g1 w1 f1 b1 i1 i1_1
    have s1 := b1.size
    replace hw := hw.trans (b1.mono hw.size)
    refine wl_p (fun _ => o_assign rfl) ?_
    refine wl_nil ?_
    refine rk_seq ?_
    refine rk_seq ?_
    refine rk_region ?_
    refine wl_p (fun _ => o_faddr (s := 37) (i := 0) (off := 0) Tryz.underlying37 rfl Tryz.sizeOf5 rfl rfl rfl) ?_
    refine wl_r (o_loadbg Tryz.isAgg5 rfl f1 (by rfl)) ?_
    refine wl_p (fun _ => o_eq rfl rfl) ?_
    refine wl_p (fun _ => o_move rfl) ?_
    refine wl_know 6 false rfl (decide_eq_false (by omega)) ?_
    refine wl_p (fun _ => o_faddr (s := 37) (i := 1) (off := 1) Tryz.underlying37 rfl Tryz.sizeOf35 rfl rfl rfl) ?_
    refine wl_r (o_loadbg Tryz.isAgg35 rfl f1 (by rfl)) ?_
    refine wl_p (fun _ => o_len (t := 35) Tryz.underlying35 rfl) ?_
    refine wl_p (fun _ => o_gt rfl rfl) ?_
    refine wl_p (fun _ => o_pick_f rfl rfl) ?_
    refine wl_nil ?_
    rw [decide_eq_false h0]
    refine rk_if rfl (fun h11 => ?_) (fun h11 => ?_)
    · refine rk_seq ?_
      refine rk_region ?_
      refine wl_p (fun _ => o_assign rfl) ?_
      refine wl_nil ?_
      refine ret1 rfl rfl ?_
      exact ⟨_, rfl, .inr rfl, ⟨fun h => absurd h (by decide), fun h => absurd h.2 (by show ¬ p.length ≤ 8192; omega)⟩, hw⟩
    · refine rk_skip ?_
      refine rk_seq ?_
      refine rk_region ?_
      refine wl_p (fun _ => o_assign rfl) ?_
      refine wl_nil ?_
      refine ret1 rfl rfl ?_
      exact ⟨_, rfl, .inl rfl, ⟨fun _ => ⟨e0, show p.length ≤ 8192 by omega⟩, fun _ => rfl⟩, hw⟩
theorem C_Size {k : UInt8} {A : Option Addr} {p : By} {n c : Nat} (w : World) (hn : n = p.length) (hl : p.length ≤ 10000) (hp : Rd w A p) :
    CallsR Tryz.prog 57 [.agg #[.int .u8 (k.toNat : Int), .slice A n c]] w fun v w' => v = .int .i64 (if OkR (k, p) then ((bodyB (k, p)).length : Int) + 8 else 0) ∧ Below w.heap.size w w' := by
  subst hn
  have he := enc_le9 p.length
  refine callsR Tryz.func57 rfl rfl (by kernel_rfl) rfl ?_
  have hw := Below.refl w.heap.size w
  refine rk_seq ?_
  refine rk_region ?_
  refine wl_boxg [_, _] rfl (by rfl) ?_
  rintro g1 w1 f1 b1 i1 i1_1
  have s1 := b1.size
  replace hw := hw.trans (b1.mono hw.size)
  refine wl_p (fun _ => o_assign rfl) ?_
  refine wl_nil ?_
  refine rk_seq ?_
  refine rk_seq ?_
  refine rk_region ?_
  refine wl_r (o_loadag Tryz.isAgg37 Tryz.sizeOf37 rfl f1 (by rfl)) ?_
  refine wl_call rfl (C_Check _ (by rfl)) ?_
  rintro v4 w4 ⟨z4, ⟨rfl, ⟨i4, ⟨i4_1, b4⟩⟩⟩⟩
  have s4 := b4.size
  replace hw := hw.trans (b4.mono hw.size)
  replace f1 := f1.u b4
  refine wl_p (fun _ => o_ne rfl rfl) ?_
  refine wl_nil ?_
  refine rk_if rfl (fun h5 => ?_) (fun h5 => ?_)
  · refine rk_seq ?_
    refine rk_region ?_
    refine wl_p (fun _ => o_assign rfl) ?_
    refine wl_nil ?_
    refine ret1 rfl rfl ?_
    exact ⟨by rw [if_neg (fun h => by have := i4_1.2 h; omega)], hw⟩
  · have hO : OkR (k, p) := i4_1.1 (by omega)
    refine rk_skip ?_
    refine rk_seq ?_
    refine rk_drawo (id := 3) (none) [0, 1, 2, 4, 8, 16, 32, 0, 128, 256, 576, 1024, 4095] [0, 1, 3, 7, 15, 31, 63, 0, 128, 384, 1023, 2047, 4095] 16 16 [0, 1, 2, 3, 7, 8, 9, 4, 5, 6, 10, 11, 12] [(.p, 0), (.r, 1), (.p, 2), (.p, 3), (.p, 7), (.s, 8), (.p, 9), (.c, 4), (.p, 5), (.p, 6), (.p, 10), (.p, 11), (.p, 12)] (by kernel_rfl) (by kernel_rfl) (by kernel_rfl) (by kernel_rfl) (by kernel_rfl) ?_
    dsimp only [inOrder, nthOp]
    replace hw := hw.drew
    replace f1 := f1.d
    refine wl_p (fun _ => o_faddr (s := 37) (i := 1) (off := 1) Tryz.underlying37 rfl Tryz.sizeOf35 rfl rfl rfl) ?_
    refine wl_r (o_loadbg Tryz.isAgg35 rfl f1 (by rfl)) ?_
    refine wl_p (fun _ => o_len (t := 35) Tryz.underlying35 rfl) ?_
    refine wl_p (fun _ => o_convu64 (src := 3) (dst := 52) Tryz.underlying3 Tryz.underlying52 rfl (by omega) (by omega)) ?_
    refine wl_p (fun _ => o_faddr (s := 37) (i := 1) (off := 1) Tryz.underlying37 rfl Tryz.sizeOf35 rfl rfl rfl) ?_
    refine wl_s (fun _ hk => (o_loadbg Tryz.isAgg35 rfl (f1.u (below_of_grown_none hk)) (by rfl))) ?_
    refine wl_p (fun _ => o_len (t := 35) Tryz.underlying35 rfl) ?_
    refine wl_call rfl (C_NumberN _ rfl (by omega)) ?_ (hq := .inr fun _ _ h => grown_of_below h.choose_spec.choose_spec.2 _)
    rintro v10 w10 ⟨A10, ⟨c10, ⟨rfl, b10⟩⟩⟩
    simp only [drew_size] at b10
    have s10 := b10.size
    simp only [drew_size] at s10
    replace hw := hw.trans (b10.mono hw.size)
    replace f1 := f1.u b10
    refine wl_p (fun _ => o_len (t := 35) Tryz.underlying35 rfl) ?_
    refine wl_p (fun _ => o_add rfl rfl (by omega) (by omega)) ?_
    refine wl_p (fun _ => o_add rfl rfl (by omega) (by omega)) ?_
    refine wl_p (fun _ => o_add rfl rfl (by omega) (by omega)) ?_
    refine wl_p (fun _ => o_assign rfl) ?_
    refine wl_nild ?_
    refine ret1 rfl rfl ?_
    exact ⟨by
      rw [if_pos hO]
      simp only [bodyB, blkB, List.length_append, List.length_singleton]
      congr 1; omega, hw⟩
theorem C_Next {k : UInt8} {A : Option Addr} {p d r : By} {n c : Nat} (w : World) (hp : Rd w A p) (hn : n = p.length) (hl : p.length ≤ 9000) (hd : d.length = 32) (hr : nextB d (k, p) = r) :
    CallsR Tryz.prog 126 [.agg (B8 d).toArray, .agg #[.int .u8 (k.toNat : Int), .slice A n c]] w fun v w' => v = .agg (B8 r).toArray ∧ Below w.heap.size w w' := by
  subst hn
  have h32 : r.length = 32 := by rw [← hr, nextB, sumB_len]
  have hbl := bodyB_le (r := (k, p)) hl
  have hL2 : ∀ x ∈ [d, bodyB (k, p)], x.length ≤ 10000 := by
    intro x hx
    rcases List.mem_cons.1 hx with rfl | hx
    · omega
    · obtain rfl := List.mem_singleton.1 hx; omega
  unfold nextB sumB at hr
  refine callsR Tryz.func126 rfl rfl (by kernel_rfl) rfl ?_
  have hw := Below.refl w.heap.size w
  refine rk_seq ?_
  refine rk_region ?_
  refine wl_boxg _ rfl (by rfl) ?_
  rintro g2 w2 f2 b2 i2 i2_1
  have s2 := b2.size
  replace hw := hw.trans (b2.mono hw.size)
  refine wl_boxg [_, _] rfl (by rfl) ?_
  rintro g3 w3 f3 b3 i3 i3_1
  have s3 := b3.size
  replace hw := hw.trans (b3.mono hw.size)
  replace f2 := f2.u b3
  refine wl_allocB Tryz.underlying64 Tryz.zeroValue64 (by rfl) ?_
  rintro g4 w4 f4 b4 i4 i4_1
  have s4 := b4.size
  replace hw := hw.trans (b4.mono hw.size)
  replace f2 := f2.u b4
  replace f3 := f3.u b4
  refine wl_nil ?_
  refine rk_seq ?_
  refine rk_draw (id := 1) (none) [0, 0, 2, 5, 12, 31] [0, 0, 2, 7, 15, 31] 60 0 [(.p, 0), (.r, 1), (.l, 2), (.l, 3), (.l, 4), (.l, 5)] (by kernel_rfl) (by kernel_rfl) (by kernel_rfl) (by kernel_rfl) (by kernel_rfl) ?_
  replace hw := hw.drew
  replace f3 := f3.d
  replace f2 := f2.d
  replace f4 := f4.d
  refine wl_p (fun _ => o_slice_arr (t := 64) Tryz.underlying64 Tryz.sizeOf5 rfl) ?_
  refine wl_r (o_loadag Tryz.isAgg37 Tryz.sizeOf37 rfl f3 (by rfl)) ?_
  refine wl_call rfl (C_body _ (hp.u hw) rfl (by omega)) ?_
  rintro v7 w7 ⟨A7, ⟨c7, ⟨rfl, ⟨f7, b7⟩⟩⟩⟩
  simp only [drew_size] at f7
  simp only [drew_size] at b7
  have qf7 := f7.cap
  have s7 := b7.size
  simp only [drew_size] at s7
  replace hw := hw.trans (b7.mono hw.size)
  replace f4 := f4.u b7
  replace f2 := f2.u b7
  replace f3 := f3.u b7
  refine wl_litKr2 (by rfl) rfl f2.to_Rd f7.to_Rd (by omega) rfl (by omega) (by omega) (by omega) (own_max' (by assumption)) (by rfl) ?_
  rintro A8 w8 f8 b8
  have s8 := b8.size
  replace hw := hw.trans (b8.mono hw.size)
  replace f3 := f3.u b8
  replace f2 := f2.u b8
  replace f4 := f4.u b8
  replace f7 := f7.u b8
  refine wl_call rfl (C_Sum _ f8 hr (by rfl) (by simp) (by omega)) ?_
  rintro v9 w9 ⟨rfl, b9⟩
  have s9 := b9.size
  replace hw := hw.trans (b9.mono hw.size)
  replace f7 := f7.u b9
  replace f4 := f4.u b9
  replace f2 := f2.u b9
  replace f3 := f3.u b9
  replace f8 := f8.u b9
  refine wl_stBa Tryz.sizeOf64 rfl f4 rfl h32 (by rfl) ?_
  rintro w_1 f g e
  have s := g.size
  replace hw := hw.trans (below_of_grownBy g.g hw.size (by omega))
  replace f3 := f3.k g.g (ap_some (by omega))
  replace f2 := f2.k g.g (ap_some (by omega))
  replace f7 := f7.k g.g (ap_some (by omega))
  clear f8
  clear f4
  refine wl_nild ?_
  refine ret_cell rfl rfl Tryz.isAgg64 Tryz.sizeOf64 (show Blk _ _ _ (B8 r) by assumption) (by rw [B8_length, h32]) ?_
  exact ⟨rfl, hw⟩
theorem C_RecBytes {k : UInt8} {A : Option Addr} {p d : By} {n c : Nat} (w : World) (hp : Rd w A p) (hn : n = p.length) (hl : p.length ≤ 9000) (hd : d.length = 32) :
    CallsR Tryz.prog 50 [.agg (B8 d).toArray, .agg #[.int .u8 (k.toNat : Int), .slice A n c]] w fun v w' => ∃ (A' : Option Addr) (bs : By) (c' : Nat) (e : By) (z : Int), v = .tuple #[.slice A' bs.length c', .agg (B8 e).toArray, .int .i64 z] ∧ OwnH w' w.heap.size w'.heap.size A' c' bs ∧ (z = 0 ∨ z = 2) ∧ (z = 0 ↔ OkR (k, p)) ∧ (z = 0 → bs = bytesR d (k, p) ∧ e = nextB d (k, p)) ∧ (z ≠ 0 → bs = []) ∧ e.length = 32 ∧ Below w.heap.size w w' := by
  subst hn
  obtain ⟨r, hr⟩ : ∃ r, nextB d (k, p) = r := ⟨_, rfl⟩
  have h32 : r.length = 32 := by rw [← hr, nextB_len]
  have hbl := bodyB_le (r := (k, p)) hl
  unfold bytesR
  rw [hr]
  have hL2 : ∀ x ∈ [d, bodyB (k, p)], x.length ≤ 10000 := by
    intro x hx
    rcases List.mem_cons.1 hx with rfl | hx
    · omega
    · obtain rfl := List.mem_singleton.1 hx; omega
  unfold nextB sumB at hr
  refine callsR Tryz.func50 rfl rfl (by kernel_rfl) rfl ?_
  have hw := Below.refl w.heap.size w
  refine rk_seq ?_
  refine rk_region ?_
  refine wl_boxg _ rfl (by rfl) ?_
  rintro g2 w2 f2 b2 i2 i2_1
  have s2 := b2.size
  replace hw := hw.trans (b2.mono hw.size)
  refine wl_boxg [_, _] rfl (by rfl) ?_
  rintro g3 w3 f3 b3 i3 i3_1
  have s3 := b3.size
  replace hw := hw.trans (b3.mono hw.size)
  replace f2 := f2.u b3
  refine wl_p (fun _ => o_assign rfl) ?_
  refine wl_allocB Tryz.underlying64 Tryz.zeroValue64 (by rfl) ?_
  rintro g5 w5 f5 b5 i5 i5_1
  have s5 := b5.size
  replace hw := hw.trans (b5.mono hw.size)
  replace f2 := f2.u b5
  replace f3 := f3.u b5
  refine wl_p (fun _ => o_assign rfl) ?_
  refine wl_nil ?_
  refine rk_seq ?_
  refine rk_seq ?_
  refine rk_region ?_
  refine wl_r (o_loadag Tryz.isAgg37 Tryz.sizeOf37 rfl f3 (by rfl)) ?_
  refine wl_call rfl (C_Check _ (by rfl)) ?_
  rintro v11 w11 ⟨z11, ⟨rfl, ⟨i11, ⟨i11_1, b11⟩⟩⟩⟩
  have s11 := b11.size
  replace hw := hw.trans (b11.mono hw.size)
  replace f3 := f3.u b11
  replace f2 := f2.u b11
  replace f5 := f5.u b11
  refine wl_p (fun _ => o_assign rfl) ?_
  refine wl_nil ?_
  refine rk_seq ?_
  refine rk_region ?_
  refine wl_p (fun _ => o_move rfl) ?_
  refine wl_p (fun _ => o_ne rfl rfl) ?_
  refine wl_nil ?_
  refine rk_if rfl (fun h13 => ?_) (fun h13 => ?_)
  · refine rk_seq ?_
    refine rk_region ?_
    refine wl_p (fun _ => (o_buildga [_, _, _, _, _, _, _, _, _, _, _, _, _, _, _, _, _, _, _, _, _, _, _, _, _, _, _, _, _, _, _, _] Tryz.underlying64 Tryz.sizeOf5 Tryz.zeroValue64 (by rfl) (by rfl) rfl (by rfl) (by rfl) (fun _ => by kernel_rfl))) ?_
    refine wl_p (fun _ => o_move rfl) ?_
    refine wl_p (fun _ => o_assign rfl) ?_
    refine wl_storega Tryz.sizeOf64 rfl rfl (by rfl) (by decide) f5 (by rfl) ?_
    rintro w_1 f g e
    have s := g.size
    replace hw := hw.trans (below_of_grownBy g.g hw.size (by omega))
    replace f2 := f2.k g.g (ap_some (by omega))
    replace f3 := f3.k g.g (ap_some (by omega))
    clear f5
    refine wl_p (fun _ => o_assign rfl) ?_
    refine wl_nil ?_
    refine ret_any (vs := [.slice none 0 0, .agg (B8 nul32).toArray, .int .i64 z11]) rfl (.tmp rfl (.cell rfl Tryz.isAgg64 Tryz.sizeOf64 f rfl (.tmp rfl .nil))) (by simp) ?_
    exact ⟨none, [], 0, nul32, _, rfl, OwnH.nil_, i11, i11_1, fun h => absurd h h13, fun _ => rfl, rfl, hw⟩
  · have hO : OkR (k, p) := i11_1.1 (by omega)
    have h8 : (r.take 8).length = 8 := by rw [List.length_take]; omega
    refine rk_skip ?_
    refine rk_seq ?_
    refine rk_region ?_
    refine wl_r (o_loadag Tryz.isAgg37 Tryz.sizeOf37 rfl f3 (by rfl)) ?_
    refine wl_call rfl (C_body _ (hp.u hw) rfl (by omega)) ?_
    rintro v17 w17 ⟨A17, ⟨c17, ⟨rfl, ⟨f17, b17⟩⟩⟩⟩
    have qf17 := f17.cap
    have s17 := b17.size
    replace hw := hw.trans (b17.mono hw.size)
    replace f5 := f5.u b17
    replace f2 := f2.u b17
    replace f3 := f3.u b17
    refine wl_p (fun _ => o_assign rfl) ?_
    refine wl_nil ?_
    refine rk_seq ?_
    refine rk_region ?_
    refine wl_p (fun _ => o_slice_arr (t := 64) Tryz.underlying64 Tryz.sizeOf5 rfl) ?_
    refine wl_p (fun _ => o_move rfl) ?_
    refine wl_litKr2 (by rfl) rfl f2.to_Rd f17.to_Rd (by omega) rfl (by omega) (by omega) (by omega) (own_max' (by assumption)) (by rfl) ?_
    rintro A20 w20 f20 b20
    have s20 := b20.size
    replace hw := hw.trans (b20.mono hw.size)
    replace f3 := f3.u b20
    replace f2 := f2.u b20
    replace f5 := f5.u b20
    replace f17 := f17.u b20
    refine wl_call rfl (C_Sum _ f20 hr (by rfl) (by simp) (by omega)) ?_
    rintro v21 w21 ⟨rfl, b21⟩
    have s21 := b21.size
    replace hw := hw.trans (b21.mono hw.size)
    replace f17 := f17.u b21
    replace f5 := f5.u b21
    replace f2 := f2.u b21
    replace f3 := f3.u b21
    replace f20 := f20.u b21
    refine wl_allocB Tryz.underlying64 Tryz.zeroValue64 (by rfl) ?_
    rintro g9 w9 f9 b9 i9 i9_1
    have s9 := b9.size
    replace hw := hw.trans (b9.mono hw.size)
    replace f20 := f20.u b9
    replace f3 := f3.u b9
    replace f2 := f2.u b9
    replace f5 := f5.u b9
    replace f17 := f17.u b9
    refine wl_stBa Tryz.sizeOf64 rfl f9 rfl h32 (by rfl) ?_
    rintro w_1 f g e
    have s := g.size
    replace hw := hw.trans (below_of_grownBy g.g hw.size (by omega))
    replace f17 := f17.k g.g (ap_some (by omega))
    replace f5 := f5.k g.g (ap_some (by omega))
    replace f2 := f2.k g.g (ap_some (by omega))
    replace f3 := f3.k g.g (ap_some (by omega))
    clear f20
    clear f9
    refine wl_nil ?_
    refine rk_seq ?_
    have hlt := f17.lt
    have hne : blk A17 ≠ some g9 := fun e => by have := f17.ap (lo' := w17.heap.size) (hi' := g9 + 1) (.inl (Nat.le_refl _)) g9 e; omega
    have hne5 : blk A17 ≠ some g5 := fun e => by have := (hlt _ e).1; omega
    refine rk_drawo (id := 6) ((blk A17)) [0, 0, 3, 0, 7, 31, 63] [0, 0, 3, 0, 7, 31, 63] 36 4 [0, 1, 3, 2, 4, 5, 6] [(.p, 0), (.p, 1), (.s, 3), (.c, 2), (.p, 4), (.l, 5), (.p, 6)] (by kernel_rfl) (by kernel_rfl) (by kernel_rfl) (by kernel_rfl) (by kernel_rfl) ?_; dsimp only [inOrder, nthOp]
    replace f17 := f17.d
    replace f := f.d
    replace f5 := f5.d
    replace hw := hw.drew
    clear f2 f3
    have hr8 := rd_pre f 8
    refine wl_p (fun _ => o_move rfl) ?_
    refine wl_p (fun _ => (o_slArrHi (8) Tryz.underlying64 Tryz.sizeOf5 rfl rfl (by omega) (by omega))) ?_
    refine wl_s (fun _ hk => (o_ldBa Tryz.isAgg64 Tryz.sizeOf64 rfl (f.k hk (f17.ap (by omega))) h32)) ?_
    refine wl_appB Tryz.u8 rfl f17 rfl rfl hr8 (by omega) (by omega) (by simp; omega) ?_ (hq := .inr (.inr rfl))
    rintro A24 c24 w24 f24 g24 b24 i24
    simp only [drew_size] at i24
    have qf24 := f24.cap
    have s24 := g24.size
    simp only [drew_size] at s24
    replace hw := hw.trans (b24.mono (by omega))
    replace f5 := f5.y g24 (by decide)
    replace f := f.y g24 (by decide)
    clear hr8
    clear f17
    refine wl_p (fun _ => o_assign rfl) ?_
    refine wl_stBa Tryz.sizeOf64 rfl f5 rfl h32 (by rfl) ?_
    rintro w_2 f_1 g_1 e_1
    have s_1 := g_1.size
    replace hw := hw.trans (below_of_grownBy g_1.g hw.size (by omega))
    replace f := f.k g_1.g (ap_some (by omega))
    replace f24 := f24.k g_1.g (ap_some (by omega))
    clear f5
    refine wl_p (fun _ => o_assign rfl) ?_
    refine wl_nild ?_
    refine ret_any (vs := [.slice A24 (bodyB (k, p) ++ List.take 8 r).length c24, .agg (B8 r).toArray, .int .i64 0]) rfl (.tmp rfl (.cell rfl Tryz.isAgg64 Tryz.sizeOf64 f_1 (by rw [B8_length, h32]) (.tmp rfl .nil))) (by simp) ?_
    exact ⟨A24, _, c24, r, 0, rfl, f24.base (by omega) (by omega), .inl rfl, ⟨fun _ => hO, fun _ => rfl⟩, fun _ => ⟨rfl, rfl⟩, fun h => absurd rfl h, h32, hw⟩
end Go.Proofs.YtnnhenafhalobaaGreat
/-
  append(x, make([]byte, m)...) on a row of bytes of the call's own. No function of the program is named here.
-/
namespace Go.Proofs.YtnnhenafhalobaaGreat
set_option maxRecDepth 100000
open Go.RowKit
/-- The zero bytes, as a string. -/
def zeroS (m : Nat) : ByteArray := ⟨(List.replicate m (0 : UInt8)).toArray⟩
theorem zeroS_size (m : Nat) : (zeroS m).size = m := by
  show (List.replicate m (0 : UInt8)).toArray.size = m
  simp
theorem zeroS_cells (m : Nat) : Go.Lib.strCells (zeroS m) = B8 (List.replicate m 0) := by
  simp [Go.Lib.strCells, zeroS, B8]
section
variable {P : Program} (w : World)
theorem run_append_zs (t u ti ty e : TypeId) (i : TypeInfo) (ht : P.underlying t = some (.slice e)) (hti : P.underlying ti = some (.int .i64)) (hu : P.underlying u = some .string) (hi : P.info? e = some i) (hz : i.zero = some (.int .u8 0)) (hsize : i.size = 1) (hby : i.bytes = 1)
    (A : Option Addr) (n c m : Nat) (h0 : 0 < m) (h : n + m ≤ 4000000000) :
    (Builtin.append_ #[t, ti] ty #[.slice A n c, .int .i64 (m : Int)]).run P w = (Builtin.append_ #[t, u] ty #[.slice A n c, .string (zeroS m)]).run P w := by
  have hw : IntKind.i64.wrap (m : Int) = m := i64_in (by omega) (by omega)
  have hneg : ¬ ((m : Int) < 0) := by omega
  have hb1 : ¬ (281474976710656 < (m : Int)) := by omega
  have h63 : ¬ (9223372036854775807 < ((n : Int) + (m : Int))) := by omega
  have hz1 : (zeroS m).data.toList = List.replicate m 0 := rfl
  have hdl : List.take m (List.map (fun b : UInt8 => Value.int .u8 (b.toNat : Int)) (zeroS m).data.toList) = List.replicate m (Value.int .u8 0) := by
    rw [hz1, List.map_replicate, List.take_of_length_le (by rw [List.length_replicate]; exact Nat.le_refl _)]; rfl
  have hda : Array.map (fun b : UInt8 => Value.int .u8 (b.toNat : Int)) (zeroS m).data = Array.replicate m (Value.int .u8 0) := by
    apply Array.ext'
    rw [Array.toList_map, hz1, List.map_replicate, Array.toList_replicate]; rfl
  have hex : (Array.replicate m (Value.int .u8 0)).extract 0 m = Array.replicate m (Value.int .u8 0) := by
    apply Array.ext
    · simp
    · intro j h1 h2; simp
  have hzc : ∀ k, Builtin.zeroCells (Value.int .u8 0).cells k = (Array.replicate k (Value.int .u8 0)) := fun k => by
    show Builtin.zeroCells #[Value.int .u8 0] k = _
    apply Array.ext
    · simp [Builtin.zeroCells]
    · intro j h1 h2
      simp [Builtin.zeroCells, Nat.mod_one]
  have hm0 : m ≠ 0 := by omega
  by_cases hroom : n + m ≤ c
  · simp [Builtin.append_, run_underlying ht, run_underlying hti, run_underlying hu, sizeOf, typeInfo, zeroValue, hi, hz, hsize, hby, asInt, asIntOf, hw, hneg, hb1, Builtin.lenOf, zeroS_size, hroom, Builtin.firstCells, hdl, hm0, hzc]
  · have h48 := nextslicecap_le (need := n + m) (old := c) (by omega)
    have h48' : ¬ (281474976710656 < Builtin.nextslicecap (n + m) c) := by omega
    simp [Builtin.append_, run_underlying ht, run_underlying hti, run_underlying hu, sizeOf, typeInfo, zeroValue, hi, hz, hsize, hby, asInt, asIntOf, hw, hneg, hb1, h63, Builtin.lenOf, zeroS_size, hroom, Builtin.firstCells, hdl, hm0, hzc, h48', hda, hex]
end
theorem rd_upto {w : World} {A : Option Addr} {p : List UInt8} (h : Rd w A p) (k : Nat) : Rd w A (p.take k) := by
  refine ⟨by rw [B8_length, Nat.mul_one], fun hne => ?_⟩
  have hpne : B8 p ≠ [] := fun e => by
    apply hne
    have : p = [] := by cases p with | nil => rfl | cons a b => cases e
    rw [this]; rw [List.take_nil]; rfl
  obtain ⟨b, o, rfl, hc⟩ := h.2 hpne
  refine ⟨b, o, rfl, fun j u hj => hc j u ?_⟩
  unfold B8 at hj ⊢
  rw [List.getElem?_map] at hj ⊢
  rcases Nat.lt_or_ge j k with h3 | h3
  · rwa [List.getElem?_take_of_lt h3] at hj
  · rw [List.getElem?_eq_none (by rw [List.length_take]; omega)] at hj; cases hj
section
variable {P : Program} {fn : Func} {F : Ending → World → Prop} {N : Nat} {ks : List K} {ops : Array Oper} {tg : Tags} {l : List Oper} {fr : Fr} {w : World} {ty t ti : TypeId} {pos : String} {aft : Array Edge} {gd : Option (Nat × Bool)} {d n c lo hi : Nat} {x y : Operand} {A : Option Addr} {s : List UInt8}
/-- append(x, make([]byte, m)...): x the call's own. -/
theorem wl_appZs (T : U8 P t) {u : TypeId} (hti : P.underlying ti = some (.int .i64)) (hu : P.underlying u = some .string) (m : Nat) {M : Int} (hx : fr.ev x = some (.slice A n c)) (hown : OwnH w lo hi A c s) (hn : n = s.length) (hy : fr.ev y = some (.int .i64 M)) (hM : M = (m : Int)) (hm : 0 < m) (hlen : s.length + m ≤ 4000000000) (hB : lo ≤ w.heap.size)
    (h : ∀ A' c' w', OwnH w' lo w'.heap.size A' c' (s ++ List.replicate m 0) → Grew w w' 5 (blk A) → Below lo w w' → WL P fn F N ks ops tg.tail l ((d, .slice A' (s ++ List.replicate m 0).length c') :: fr) w')
    (ht : tg.loud = true := by rfl) (hg : onG ops fr gd = true := by rfl) (hd : Nat.blt d N = true := by rfl) (hq : tg.calm = false ∨ blk A = none ∨ blk A = tg.row := by exact .inl rfl) :
    WL P fn F N ks ops tg (⟨some d, .call { callee := .builtin .append, args := #[x, y], argTypes := #[t, ti] }, ty, pos, aft, gd⟩ :: l) fr w := by
  subst hn; subst hM
  obtain ⟨i, hi', hz, hs, hb⟩ := info_parts T.hi
  obtain ⟨v', w', hrun, h2, h3, _⟩ := Go.Lib.run_append_own_string (P := P) w lo t u ty 5 i T.ht hu hi' hz hs hb (.slice A s.length c) s.length (B8 s) hown.o (zeroS m) (by rw [zeroS_size]; simp only [maxLen]; omega) (by rw [zeroS_size]; omega) hB
  rw [← run_append_zs (P := P) w t u ti ty 5 i T.ht hti hu hi' hz hs hb A s.length c m hm (by omega)] at hrun
  obtain ⟨A', c', rfl⟩ := ownsRow_shape h2
  rw [blk_own] at h3
  rw [zeroS_size, zeroS_cells, ← B8_append] at h2
  have hl : (s ++ List.replicate m 0).length = s.length + m := by rw [List.length_append, List.length_replicate]
  rw [zeroS_size] at hrun
  rw [← hl] at h2 hrun
  have hlt : ∀ b, blk A = some b → lo ≤ b ∧ b < w.heap.size := RowH.lt hown
  have hO : OwnH w' lo w'.heap.size A' c' (s ++ List.replicate m 0) := ⟨h2, fun k hk => (World.ownsRow.lt h2 k (by rw [blk_own]; exact hk)).2⟩
  exact wl_v (o_builtin (xs := [x, y]) (vs := [.slice A s.length c, .int .i64 (m : Int)]) (by simp [Fr.evs, hx, hy]) (by simp [builtin, hrun]) (by simp)) (h A' c' w' hO ⟨h3, RowH.ty hown⟩ ((Below.refl lo w).grown h3 hB (fun b hb => (hlt b hb).1))) ht hg hd
    (hq.imp id fun e => e.elim (fun e => grown_wide (e ▸ h3) _) (fun e => e ▸ h3))
--@ rule slice l wl_slBB
theorem wl_slBB (T : U8 P t) {p : List UInt8} {z : Operand} {len cap : Nat} {kl kh : IntKind} {L H : Int} (lo hi : Nat) (hx : fr.ev x = some (.slice A len cap)) (hy : fr.ev y = some (.int kl L)) (hz : fr.ev z = some (.int kh H)) (hr : Rd w A p) (hlen : len = p.length) (hl : L = (lo : Int)) (hh : H = (hi : Int)) (h1 : lo ≤ hi) (h2 : hi ≤ p.length) (h3 : p.length ≤ cap)
    (hk : ∀ A' c', Rd w A' ((p.drop lo).take (hi - lo)) → hi - lo ≤ c' → c' ≤ cap → WL P fn F N ks ops tg.tail l ((d, .slice A' (hi - lo) c') :: fr) w) (hg : onG ops fr gd = true := by rfl) (hd : Nat.blt d N = true := by rfl) :
    WL P fn F N ks ops tg (⟨some d, .slice t x (some y) (some z) none, ty, pos, aft, gd⟩ :: l) fr w := by
  obtain ⟨i, hi', hz', hs, hb⟩ := info_parts T.hi
  refine wl_p (fun _ => o_slice (sz := 1) (lo := lo) (hi := hi) T.ht (fun w => by simp [sizeOf, typeInfo, hi', hs]) hx hy hz hl hh h1 (by omega)) (hk _ _ ?_ (by omega) (by omega)) hg hd
  have h4 := (hr.drop (k := lo) (cap := cap) (by omega) h3)
  have h5 : cutA A cap 1 lo = if cap = lo then A else A.map (·.add lo) := by unfold cutA; rw [Nat.mul_one]
  rw [h5]
  exact rd_upto h4 _
--@ rule slice l wl_slBl
theorem wl_slBl (T : U8 P t) {p : List UInt8} {len cap : Nat} {kl : IntKind} {L : Int} (lo : Nat) (hx : fr.ev x = some (.slice A len cap)) (hy : fr.ev y = some (.int kl L)) (hr : Rd w A p) (hlen : len = p.length) (hl : L = (lo : Int)) (h1 : lo ≤ p.length) (h3 : p.length ≤ cap)
    (hk : ∀ A' c', Rd w A' (p.drop lo) → p.length - lo ≤ c' → c' ≤ cap → WL P fn F N ks ops tg.tail l ((d, .slice A' (p.length - lo) c') :: fr) w) (hg : onG ops fr gd = true := by rfl) (hd : Nat.blt d N = true := by rfl) :
    WL P fn F N ks ops tg (⟨some d, .slice t x (some y) none none, ty, pos, aft, gd⟩ :: l) fr w := by
  subst hlen
  obtain ⟨i, hi', hz', hs, hb⟩ := info_parts T.hi
  refine wl_p (fun _ => o_slice_lo (sz := 1) (lo := lo) T.ht (fun w => by simp [sizeOf, typeInfo, hi', hs]) hx hy hl h1) (hk _ _ ?_ (by omega) (by omega)) hg hd
  have h4 := (hr.drop (k := lo) (cap := cap) (by omega) h3)
  have h5 : cutA A cap 1 lo = if cap = lo then A else A.map (·.add lo) := by unfold cutA; rw [Nat.mul_one]
  rw [h5]
  exact h4
--@ rule slice l wl_slBh
theorem wl_slBh (T : U8 P t) {p : List UInt8} {z : Operand} {len cap : Nat} {kh : IntKind} {H : Int} (hi : Nat) (hx : fr.ev x = some (.slice A len cap)) (hz : fr.ev z = some (.int kh H)) (hr : Rd w A p) (hlen : len = p.length) (hh : H = (hi : Int)) (h2 : hi ≤ p.length) (h3 : p.length ≤ cap)
    (hk : Rd w A (p.take hi) → WL P fn F N ks ops tg.tail l ((d, .slice A hi cap) :: fr) w) (hg : onG ops fr gd = true := by rfl) (hd : Nat.blt d N = true := by rfl) :
    WL P fn F N ks ops tg (⟨some d, .slice t x none (some z) none, ty, pos, aft, gd⟩ :: l) fr w := by
  obtain ⟨i, hi', hz', hs, hb⟩ := info_parts T.hi
  exact wl_p (fun _ => o_slice_hi (sz := 1) (hi := hi) T.ht (fun w => by simp [sizeOf, typeInfo, hi', hs]) hx hz hh (by omega)) (hk (rd_upto hr _)) hg hd
end
end Go.Proofs.YtnnhenafhalobaaGreat
/-
  Walks of package record: how a record begins.
-/
namespace Go.Proofs.YtnnhenafhalobaaGreat
set_option maxRecDepth 100000
open Go.RowKit
/-- Where a record's Data begins, and its size: Kind, begin, size, error. -/
def startR (b : By) : Nat × Nat × Nat × Nat :=
  if (rWord 1 (b.take 10, 0)).2.2 = 0 ∧ (rWord 1 (b.take 10, 0)).1 = 0 then (0, 0, 0, 4)
  else if (rNumber (rWord 1 (b.take 10, 0)).2).2.2 ≠ 0 then (0, 0, 0, (rNumber (rWord 1 (b.take 10, 0)).2).2.2)
  else if 8192 < (rNumber (rWord 1 (b.take 10, 0)).2).1 then (0, 0, 0, 4)
  else ((rWord 1 (b.take 10, 0)).1, (b.take 10).length - (rNumber (rWord 1 (b.take 10, 0)).2).2.1.length, (rNumber (rWord 1 (b.take 10, 0)).2).1, 0)
--@ hide C_RWord
--@ hide C_RErr
--@ hide C_RNumber
--@ hide C_RLeft
theorem P_start {A : Option Addr} {b : By} {n c k f z e : Nat} (w : World) (hb : Rd w A b) (hn : n = b.length) (hc : b.length ≤ c) (hs : startR b = (k, f, z, e)) :
    CallsR Tryz.prog 124 [.slice A n c] w fun v w' => v = .tuple #[.int .u8 (k : Int), .int .i64 (f : Int), .int .i64 (z : Int), .int .i64 (e : Int)] ∧ Below w.heap.size w w' := by
  subst hn
  obtain ⟨m, hm⟩ : ∃ m : Nat, min (b.length : Int) 10 = m := ⟨min b.length 10, by omega⟩
  have hm2 : b.take m = b.take 10 := by
    rw [List.take_eq_take_iff]; omega
  have hml : (b.take m).length = m := by rw [List.length_take]; omega
  refine callsR Tryz.func124 rfl rfl (by kernel_rfl) rfl ?_
  have hw := Below.refl w.heap.size w
  refine rk_seq ?_
  refine rk_region ?_
  refine wl_p (fun _ => o_assign rfl) ?_
  refine wl_p (fun _ => o_assign rfl) ?_
  refine wl_p (fun _ => o_assign rfl) ?_
  refine wl_p (fun _ => o_assign rfl) ?_
  refine wl_nil ?_
  refine rk_seq ?_
  refine rk_region ?_
  refine wl_p (fun _ => o_move rfl) ?_
  refine wl_p (fun _ => o_move rfl) ?_
  refine wl_p (fun _ => o_len (t := 35) Tryz.underlying35 rfl) ?_
  refine wl_p (fun _ => o_min rfl rfl) ?_
  refine wl_slBh Tryz.u8 (m) rfl rfl hb rfl hm (by omega) (by omega) ?_
  rintro f12
  refine wl_p (fun _ => o_assign rfl) ?_
  refine wl_nil ?_
  refine rk_seq ?_
  refine rk_region ?_
  refine wl_p (fun _ => o_move rfl) ?_
  refine wl_call rfl (C_Read (c) (by omega) _ f12 (by omega)) ?_
  rintro v14 w14 ⟨g14, ⟨rfl, ⟨i14, ⟨i14_1, ⟨i14_2, b14⟩⟩⟩⟩⟩
  have s14 := b14.size
  replace hw := hw.trans (b14.mono hw.size)
  refine wl_p (fun _ => o_assign rfl) ?_
  refine wl_nil ?_
  refine rk_seq ?_
  refine rk_region ?_
  refine wl_p (fun _ => o_move rfl) ?_
  rw [hm]
  have hc16 := C_RWord 1 w14 i14_2
  rw [List.drop_zero] at hc16
  obtain ⟨q1, hq1⟩ : ∃ q1, rWord 1 (b.take 10, 0) = q1 := ⟨_, rfl⟩
  have hk1 : q1.1 ≤ 255 := by
    rw [← hq1]
    have h1 := leVal_lt (rTake (clampN 1) (b.take 10, 0)).1
    have h2 : (rTake (clampN 1) (b.take 10, 0)).1.length ≤ 1 := by
      unfold rTake; (repeat' split) <;> simp [clampN, List.length_take] <;> omega
    have h3 := Nat.pow_le_pow_right (show 0 < 256 by omega) h2
    show leVal _ ≤ 255
    omega
  obtain ⟨k1, l1, e1⟩ := q1
  simp only at hk1
  rw [hm2, hq1] at hc16
  dsimp only at hc16
  have hwr : IntKind.u8.wrap (k1 : Int) = (k1 : Int) := by rw [IntKind.wrap_u8']; omega
  refine wl_call rfl hc16 ?_
  rintro _ w16 ⟨rfl, g16, p1, hR1, hl1⟩
  have hsz16 := g16.size
  replace hw := hw.trans (below_of_grownBy g16 hw.size (by omega))
  clear i14_2 b14 hc16
  refine wl_p (fun _ => o_convi (src := 52) (dst := 5) Tryz.underlying52 Tryz.underlying5 rfl) ?_
  refine wl_p (fun _ => o_assign rfl) ?_
  refine wl_nil ?_
  refine rk_seq ?_
  refine rk_seq ?_
  refine rk_region ?_
  refine wl_p (fun _ => o_move rfl) ?_
  rw [hwr]
  refine wl_call rfl (C_RErr w16 hR1) ?_
  rintro _ _ ⟨rfl, rfl⟩
  have hc26 := C_RNumber w16 hR1
  rw [← hl1] at hc26
  obtain ⟨q2, hq2⟩ : ∃ q2, rNumber (l1, e1) = q2 := ⟨_, rfl⟩
  rw [hq2] at hc26
  obtain ⟨n2, l2, e2⟩ := q2
  dsimp only at hc26
  unfold startR at hs
  rw [hq1] at hs
  dsimp only at hs
  rw [hq2] at hs
  dsimp only at hs
  by_cases h0 : (e1 : Int) = 0
  · have h0' : e1 = 0 := by omega
    refine wl_p (fun _ => o_eq rfl rfl) ?_
    refine wl_p (fun _ => o_move rfl) ?_
    refine wl_know 21 true rfl (decide_eq_true (by omega)) ?_
    refine wl_p (fun _ => o_move rfl) ?_
    refine wl_p (fun _ => o_eq rfl rfl) ?_
    refine wl_p (fun _ => o_pick_t rfl rfl) ?_
    refine wl_nil ?_
    rw [decide_eq_true h0]
    refine rk_if rfl (fun h24 => ?_) (fun h24 => ?_)
    · refine rk_seq ?_
      refine rk_region ?_
      refine wl_p (fun _ => o_assign rfl) ?_
      refine wl_p (fun _ => o_assign rfl) ?_
      refine wl_p (fun _ => o_assign rfl) ?_
      refine wl_p (fun _ => o_assign rfl) ?_
      refine wl_nil ?_
      refine ret_any (vs := [.int .u8 0, .int .i64 0, .int .i64 0, .int .i64 4]) rfl (.tmp rfl (.tmp rfl (.tmp rfl (.tmp rfl .nil)))) (by simp) ?_
      have hk0 : k1 = 0 := by omega
      rw [if_pos ⟨h0', hk0⟩] at hs
      cases hs
      exact ⟨rfl, hw⟩
    · rw [if_neg (fun h => by omega)] at hs
      refine rk_skip ?_
      refine rk_seq ?_
      refine rk_region ?_
      refine wl_p (fun _ => o_move rfl) ?_
      refine wl_call rfl hc26 ?_
      rintro _ w26 ⟨rfl, g26, p2, hR2, hl2⟩
      replace hw := hw.trans (below_of_grownBy g26 hw.size (by omega))
      refine wl_p (fun _ => o_assign rfl) ?_
      refine wl_nil ?_
      refine rk_seq ?_
      refine rk_seq ?_
      refine rk_region ?_
      refine wl_p (fun _ => o_move rfl) ?_
      refine wl_call rfl (C_RErr w26 hR2) ?_
      rintro _ _ ⟨rfl, rfl⟩
      refine wl_p (fun _ => o_ne rfl rfl) ?_
      refine wl_nil ?_
      refine rk_if rfl (fun h29 => ?_) (fun h29 => ?_)
      · refine rk_seq ?_
        refine rk_region ?_
        refine wl_p (fun _ => o_move rfl) ?_
        refine wl_call rfl (C_RErr w26 hR2) ?_
        rintro _ _ ⟨rfl, rfl⟩
        refine wl_p (fun _ => o_assign rfl) ?_
        refine wl_p (fun _ => o_assign rfl) ?_
        refine wl_p (fun _ => o_assign rfl) ?_
        refine wl_p (fun _ => o_assign rfl) ?_
        refine wl_nil ?_
        refine ret_any (vs := [.int .u8 0, .int .i64 0, .int .i64 0, .int .i64 (e2 : Int)]) rfl (.tmp rfl (.tmp rfl (.tmp rfl (.tmp rfl .nil)))) (by simp) ?_
        rw [if_pos (show e2 ≠ 0 by omega)] at hs
        cases hs
        exact ⟨rfl, hw⟩
      · rw [if_neg (show ¬ e2 ≠ 0 by omega)] at hs
        refine rk_skip ?_
        refine rk_seq ?_
        refine rk_seq ?_
        refine rk_region ?_
        refine wl_p (fun _ => o_move rfl) ?_
        refine wl_p (fun _ => o_gt rfl rfl) ?_
        refine wl_nil ?_
        refine rk_if rfl (fun h33 => ?_) (fun h33 => ?_)
        · refine rk_seq ?_
          refine rk_region ?_
          refine wl_p (fun _ => o_assign rfl) ?_
          refine wl_p (fun _ => o_assign rfl) ?_
          refine wl_p (fun _ => o_assign rfl) ?_
          refine wl_p (fun _ => o_assign rfl) ?_
          refine wl_nil ?_
          refine ret_any (vs := [.int .u8 0, .int .i64 0, .int .i64 0, .int .i64 4]) rfl (.tmp rfl (.tmp rfl (.tmp rfl (.tmp rfl .nil)))) (by simp) ?_
          rw [if_pos (by omega)] at hs
          cases hs
          exact ⟨rfl, hw⟩
        · rw [if_neg (by omega)] at hs
          refine rk_skip ?_
          refine rk_seq ?_
          refine rk_region ?_
          refine wl_p (fun _ => o_move rfl) ?_
          refine wl_p (fun _ => o_move rfl) ?_
          refine wl_p (fun _ => o_len (t := 35) Tryz.underlying35 rfl) ?_
          refine wl_p (fun _ => o_move rfl) ?_
          refine wl_call rfl (C_RLeft w26 hR2) ?_
          rintro _ _ ⟨rfl, rfl⟩
          replace hw := hw.drew
          have hdl : l2.length ≤ m := by rw [hl2, List.length_drop, ← hm2, hml]; omega
          have hmt : (b.take 10).length = m := by rw [← hm2, hml]
          rw [← hl2]
          refine wl_p (fun _ => o_sub rfl rfl (by omega) (by omega)) ?_
          refine wl_p (fun _ => o_move rfl) ?_
          refine wl_p (fun _ => o_convi64 (src := 52) (dst := 3) Tryz.underlying52 Tryz.underlying3 rfl (by omega) (by omega)) ?_
          refine wl_p (fun _ => o_assign rfl) ?_
          refine wl_p (fun _ => o_assign rfl) ?_
          refine wl_p (fun _ => o_assign rfl) ?_
          refine wl_p (fun _ => o_assign rfl) ?_
          refine wl_nil ?_
          refine ret_any (vs := [.int .u8 (k1 : Int), .int .i64 ((m : Int) - l2.length), .int .i64 (n2 : Int), .int .i64 0]) rfl (.tmp rfl (.tmp rfl (.tmp rfl (.tmp rfl .nil)))) (by simp) ?_
          cases hs
          rw [hmt, Int.ofNat_sub hdl]
          exact ⟨rfl, hw⟩
  · rw [if_neg (fun h => by omega)] at hs
    refine wl_p (fun _ => o_eq rfl rfl) ?_
    refine wl_p (fun _ => o_move rfl) ?_
    refine wl_know 21 false rfl (decide_eq_false (by omega)) ?_
    refine wl_off ?_
    refine wl_off ?_
    refine wl_p (fun _ => o_pick_f rfl rfl) ?_
    refine wl_nil ?_
    refine rk_false rfl ?_
    refine rk_skip ?_
    refine rk_seq ?_
    refine rk_region ?_
    refine wl_p (fun _ => o_move rfl) ?_
    rw [decide_eq_false h0]
    refine wl_call rfl hc26 ?_
    rintro _ w26 ⟨rfl, g26, p2, hR2, hl2⟩
    replace hw := hw.trans (below_of_grownBy g26 hw.size (by omega))
    refine wl_p (fun _ => o_assign rfl) ?_
    refine wl_nil ?_
    refine rk_seq ?_
    refine rk_seq ?_
    refine rk_region ?_
    refine wl_p (fun _ => o_move rfl) ?_
    refine wl_call rfl (C_RErr w26 hR2) ?_
    rintro _ _ ⟨rfl, rfl⟩
    refine wl_p (fun _ => o_ne rfl rfl) ?_
    refine wl_nil ?_
    refine rk_if rfl (fun h29 => ?_) (fun h29 => ?_)
    · refine rk_seq ?_
      refine rk_region ?_
      refine wl_p (fun _ => o_move rfl) ?_
      refine wl_call rfl (C_RErr w26 hR2) ?_
      rintro _ _ ⟨rfl, rfl⟩
      refine wl_p (fun _ => o_assign rfl) ?_
      refine wl_p (fun _ => o_assign rfl) ?_
      refine wl_p (fun _ => o_assign rfl) ?_
      refine wl_p (fun _ => o_assign rfl) ?_
      refine wl_nil ?_
      refine ret_any (vs := [.int .u8 0, .int .i64 0, .int .i64 0, .int .i64 (e2 : Int)]) rfl (.tmp rfl (.tmp rfl (.tmp rfl (.tmp rfl .nil)))) (by simp) ?_
      rw [if_pos (show e2 ≠ 0 by omega)] at hs
      cases hs
      exact ⟨rfl, hw⟩
    · exfalso
      rw [rNumber_err (by omega)] at hq2
      cases hq2
      omega
/-- Where a record's Data begins; kept closed. -/
structure StartR (b : By) (k f z e : Nat) : Prop where
  eq : startR b = (k, f, z, e)
theorem C_startR {A : Option Addr} {b : By} {n c k f z e : Nat} (w : World) (hs : StartR b k f z e) (hb : Rd w A b) (hn : n = b.length) (hc : b.length ≤ c) :
    CallsR Tryz.prog 124 [.slice A n c] w fun v w' => v = .tuple #[.int .u8 (k : Int), .int .i64 (f : Int), .int .i64 (z : Int), .int .i64 (e : Int)] ∧ Below w.heap.size w w' := P_start w hb hn hc hs.eq
end Go.Proofs.YtnnhenafhalobaaGreat
/-
  A copy of bytes: bytes.Clone.
-/
namespace Go.Proofs.YtnnhenafhalobaaGreat
set_option maxRecDepth 100000
open Go.RowKit
section
variable {P : Program} {N : Nat} {fr : Fr} {w : World} {ty t t' : TypeId} {x y : Operand}
theorem run_equal_slice_nil {e : TypeId} (hu : P.underlying t = some (.slice e)) (A : Option Addr) (n c : Nat) : (Op.equal t (.slice A n c) (.slice none 0 0)).run P w = .ok A.isNone w := by
  have h : ∀ d : Nat, (Op.equalIn (d + 1) t (.slice A n c) (.slice none 0 0)).run P w = .ok A.isNone w := fun d => by
    cases A <;> simp [Op.equalIn, run_underlying hu]
  exact h 9999
--@ rule binOp p o_sleqN
theorem o_sleqN {e : TypeId} {A : Option Addr} {n c : Nat} (hu : P.underlying t = some (.slice e)) (hx : fr.ev x = some (.slice A n c)) (hy : fr.ev y = some (.slice none 0 0)) : OpV P N fr w (.binOp .eql t x y t') ty (.bool A.isNone) w :=
  o_bin hx hy (fun _ _ => by simp [go_sem]) (by simp only [binOp]; simp [run_equal_slice_nil hu])
end
set_option maxRecDepth 100000 in
theorem C_bClone {A : Option Addr} {p : List UInt8} {n c : Nat} (w : World) (hp : Rd w A p) (hn : n = p.length) (hl : p.length ≤ 4000000000) :
    CallsR Tryz.prog 125 [.slice A n c] w fun v w' => ∃ A' c', v = .slice A' p.length c' ∧ OwnH w' w.heap.size w'.heap.size A' c' p ∧ Below w.heap.size w w' := by
  subst hn
  rcases A with _ | ad
  · obtain rfl : p = [] := by
      rcases p with _ | ⟨a, p⟩
      · rfl
      · obtain ⟨_, _, e, _⟩ := hp.2 (by simp [B8]); cases e
    refine callsR Tryz.func125 rfl rfl (by kernel_rfl) rfl ?_
    have hw := Below.refl w.heap.size w
    refine rk_seq ?_
    refine rk_region ?_
    refine wl_p (fun _ => o_assign rfl) ?_
    refine wl_nil ?_
    refine rk_seq ?_
    refine rk_seq ?_
    refine rk_region ?_
    refine wl_p (fun _ => o_move rfl) ?_
    refine wl_p (fun _ => (o_sleqN Tryz.underlying35 rfl rfl)) ?_
    refine wl_nil ?_
    refine rk_true rfl ?_
    refine rk_seq ?_
    refine rk_region ?_
    refine wl_p (fun _ => o_assign rfl) ?_
    refine wl_nil ?_
    refine ret1 rfl rfl ?_
    exact ⟨none, 0, rfl, OwnH.nil_, hw⟩
  · refine callsR Tryz.func125 rfl rfl (by kernel_rfl) rfl ?_
    have hw := Below.refl w.heap.size w
    refine rk_seq ?_
    refine rk_region ?_
    refine wl_p (fun _ => o_assign rfl) ?_
    refine wl_nil ?_
    refine rk_seq ?_
    refine rk_seq ?_
    refine rk_region ?_
    refine wl_p (fun _ => o_move rfl) ?_
    refine wl_p (fun _ => (o_sleqN Tryz.underlying35 rfl rfl)) ?_
    refine wl_nil ?_
    refine rk_false rfl ?_
    refine rk_skip ?_
    refine rk_seq ?_
    refine rk_region ?_
    refine wl_litB [] Tryz.u8 Tryz.sizeOf5 Tryz.zeroValue5 (by rfl) rfl rfl (by rfl) (by rfl) (by rfl) ?_
    rintro A5 w5 f5 b5
    have qf5 := f5.cap
    have s5 := b5.size
    replace hw := hw.trans (b5.mono hw.size)
    refine wl_p (fun _ => o_move rfl) ?_
    refine wl_appB Tryz.u8 rfl f5 (by rfl) rfl (hp.u hw) rfl (by omega) hw.size ?_
    rintro A7 c7 w7 f7 g7 b7 i7
    have qf7 := f7.cap
    have s7 := g7.size
    replace hw := hw.trans (b7.mono (by omega))
    clear f5
    refine wl_p (fun _ => o_assign rfl) ?_
    refine wl_nil ?_
    rw [List.nil_append] at f7 ⊢
    refine ret1 rfl rfl ?_
    exact ⟨_, _, rfl, f7, hw⟩
end Go.Proofs.YtnnhenafhalobaaGreat
/-
  Walks of package record: one record is read.
-/
namespace Go.Proofs.YtnnhenafhalobaaGreat
set_option maxRecDepth 100000
open Go.RowKit
/-- One record, read with a chain: the record, how many bytes it has, the chain after it, the error. -/
def readR (d b : By) : Rc × Nat × By × Nat :=
  match startR b with
  | (k, f, z, e) =>
    if e ≠ 0 then ((0, []), 0, nul32, e)
    else if b.length - f < z + 8 then ((0, []), 0, nul32, 5)
    else if (nextB d (UInt8.ofNat k, (b.drop f).take z)).take 8 = (b.drop (f + z)).take 8 then ((UInt8.ofNat k, (b.drop f).take z), f + z + 8, nextB d (UInt8.ofNat k, (b.drop f).take z), 0)
    else ((0, []), 0, nul32, 4)
theorem startR_le {b : By} {k o z x : Nat} (h : startR b = (k, o, z, x)) : k ≤ 255 ∧ o ≤ b.length ∧ o ≤ 10 ∧ z ≤ 8192 := by
  unfold startR at h
  have h1 := leVal_lt (rTake (clampN 1) (b.take 10, 0)).1
  have h2 : (rTake (clampN 1) (b.take 10, 0)).1.length ≤ 1 := by
    unfold rTake; (repeat' split) <;> simp [clampN, List.length_take] <;> omega
  have h3 := Nat.pow_le_pow_right (show 0 < 256 by omega) h2
  have h4 : (rWord 1 (b.take 10, 0)).1 ≤ 255 := by
    show leVal _ ≤ 255
    omega
  have h5 : (b.take 10).length = min 10 b.length := List.length_take
  split at h
  · cases h; omega
  split at h
  · cases h; omega
  split at h
  · cases h; omega
  · cases h; omega
--@ hide C_startR
theorem C_RecRead {A : Option Addr} {d b : By} {n c : Nat} (w : World) (hb : Rd w A b) (hn : n = b.length) (hc : b.length ≤ c) (hd : d.length = 32) (hl : b.length ≤ 400000) :
    CallsR Tryz.prog 107 [.agg (B8 d).toArray, .slice A n c] w fun v w' => ∃ (k : UInt8) (p : By) (A' : Option Addr) (c' z : Nat) (x : By) (e : Nat), v = .tuple #[.agg #[.int .u8 (k.toNat : Int), .slice A' p.length c'], .int .i64 (z : Int), .agg (B8 x).toArray, .int .i64 (e : Int)] ∧ OwnH w' w.heap.size w'.heap.size A' c' p ∧ readR d b = ((k, p), z, x, e) ∧ x.length = 32 ∧ Below w.heap.size w w' := by
  subst hn
  obtain ⟨⟨kd, at0, sz, er⟩, hs⟩ : ∃ s, startR b = s := ⟨_, rfl⟩
  obtain ⟨q1, q2, q3, q4⟩ := startR_le hs
  obtain ⟨k8, rfl⟩ : ∃ k8 : UInt8, kd = k8.toNat := ⟨UInt8.ofNat kd, by rw [UInt8.toNat_ofNat_of_lt' (by show kd < 256; omega)]⟩
  obtain ⟨p, hp⟩ : ∃ p, (b.drop at0).take sz = p := ⟨_, rfl⟩
  obtain ⟨y, hy⟩ : ∃ y, (b.drop (at0 + sz)).take 8 = y := ⟨_, rfl⟩
  obtain ⟨r, hr⟩ : ∃ r, nextB d (k8, p) = r := ⟨_, rfl⟩
  have h32 : r.length = 32 := by rw [← hr, nextB_len]
  have h8 : (r.take 8).length = 8 := by rw [List.length_take]; omega
  unfold readR
  rw [hs]
  dsimp only
  rw [UInt8.ofNat_toNat, hp, hy, hr]
  have hS : StartR b k8.toNat at0 sz er := ⟨hs⟩
  refine callsR Tryz.func107 rfl rfl (by kernel_rfl) rfl ?_
  have hw := Below.refl w.heap.size w
  refine rk_seq ?_
  refine rk_region ?_
  refine wl_boxg _ rfl (by rfl) ?_
  rintro g2 w2 f2 b2 i2 i2_1
  have s2 := b2.size
  replace hw := hw.trans (b2.mono hw.size)
  refine wl_allocg [_, _] Tryz.zeroValue37 (by rfl) ?_
  rintro g4 w4 f4 b4 i4 i4_1
  have s4 := b4.size
  replace hw := hw.trans (b4.mono hw.size)
  replace f2 := f2.u b4
  refine wl_p (fun _ => o_assign rfl) ?_
  refine wl_allocB Tryz.underlying64 Tryz.zeroValue64 (by rfl) ?_
  rintro g6 w6 f6 b6 i6 i6_1
  have s6 := b6.size
  replace hw := hw.trans (b6.mono hw.size)
  replace f2 := f2.u b6
  replace f4 := f4.u b6
  refine wl_p (fun _ => o_assign rfl) ?_
  refine wl_nil ?_
  refine rk_seq ?_
  refine rk_region ?_
  refine wl_p (fun _ => o_move rfl) ?_
  refine wl_call rfl (C_startR _ hS (hb.below hw) rfl hc) ?_
  rintro _ w17 ⟨rfl, b17⟩
  have sb17 := b17.size
  replace hw := hw.trans (b17.mono hw.size)
  replace f4 := f4.u b17
  replace f2 := f2.u b17
  replace f6 := f6.u b17
  refine wl_p (fun _ => o_move rfl) ?_
  refine wl_p (fun _ => o_ext40 rfl) ?_
  refine wl_p (fun _ => o_ext41 rfl) ?_
  refine wl_p (fun _ => o_ext42 rfl) ?_
  refine wl_p (fun _ => o_ext43 rfl) ?_
  refine wl_p (fun _ => o_assign rfl) ?_
  refine wl_p (fun _ => o_assign rfl) ?_
  refine wl_p (fun _ => o_assign rfl) ?_
  refine wl_p (fun _ => o_assign rfl) ?_
  refine wl_nil ?_
  refine rk_seq ?_
  refine rk_seq ?_
  refine rk_region ?_
  refine wl_p (fun _ => o_move rfl) ?_
  refine wl_p (fun _ => o_ne rfl rfl) ?_
  refine wl_nil ?_
  refine rk_if rfl (fun h23 => ?_) (fun h23 => ?_)
  · refine rk_seq ?_
    refine rk_region ?_
    refine wl_p (fun _ => (o_buildg [_, _] Tryz.underlying37 Tryz.zeroValue37 (by rfl) (by rfl) rfl (by rfl) (by rfl) (fun _ => by kernel_rfl))) ?_
    refine wl_p (fun _ => (o_buildga [_, _, _, _, _, _, _, _, _, _, _, _, _, _, _, _, _, _, _, _, _, _, _, _, _, _, _, _, _, _, _, _] Tryz.underlying64 Tryz.sizeOf5 Tryz.zeroValue64 (by rfl) (by rfl) rfl (by rfl) (by rfl) (fun _ => by kernel_rfl))) ?_
    refine wl_p (fun _ => o_move rfl) ?_
    refine wl_storega Tryz.sizeOf37 rfl rfl (by rfl) (by decide) f4 (by rfl) ?_
    rintro w_1 f g e
    have s := g.size
    replace hw := hw.trans (below_of_grownBy g.g hw.size (by omega))
    replace f6 := f6.k g.g (ap_some (by omega))
    replace f2 := f2.k g.g (ap_some (by omega))
    clear f4
    refine wl_p (fun _ => o_assign rfl) ?_
    refine wl_storega Tryz.sizeOf64 rfl rfl (by rfl) (by decide) f6 (by rfl) ?_
    rintro w_2 f_1 g_1 e_1
    have s_1 := g_1.size
    replace hw := hw.trans (below_of_grownBy g_1.g hw.size (by omega))
    replace f2 := f2.k g_1.g (ap_some (by omega))
    replace f := f.k g_1.g (ap_some (by omega))
    clear f6
    refine wl_p (fun _ => o_assign rfl) ?_
    refine wl_nil ?_
    refine ret_any (vs := [.agg #[.int .u8 0, .slice none 0 0], .int .i64 0, .agg (B8 nul32).toArray, .int .i64 (er : Int)]) rfl (.cell rfl Tryz.isAgg37 Tryz.sizeOf37 f rfl (.tmp rfl (.cell rfl Tryz.isAgg64 Tryz.sizeOf64 f_1 rfl (.tmp rfl .nil)))) (by simp) ?_
    exact ⟨0, [], none, 0, 0, nul32, er, rfl, OwnH.nil_, by rw [if_pos (by omega)], rfl, hw⟩
  rw [if_neg (show ¬ er ≠ 0 by omega)]
  refine rk_skip ?_
  refine rk_seq ?_
  refine rk_seq ?_
  refine rk_region ?_
  refine wl_p (fun _ => o_move rfl) ?_
  refine wl_p (fun _ => o_len (t := 35) Tryz.underlying35 rfl) ?_
  refine wl_p (fun _ => o_move rfl) ?_
  refine wl_p (fun _ => o_sub rfl rfl (by omega) (by omega)) ?_
  refine wl_p (fun _ => o_move rfl) ?_
  refine wl_p (fun _ => o_add rfl rfl (by omega) (by omega)) ?_
  refine wl_p (fun _ => o_lt rfl rfl) ?_
  refine wl_nil ?_
  refine rk_if rfl (fun h33 => ?_) (fun h33 => ?_)
  · refine rk_seq ?_
    refine rk_region ?_
    refine wl_p (fun _ => (o_buildg [_, _] Tryz.underlying37 Tryz.zeroValue37 (by rfl) (by rfl) rfl (by rfl) (by rfl) (fun _ => by kernel_rfl))) ?_
    refine wl_p (fun _ => (o_buildga [_, _, _, _, _, _, _, _, _, _, _, _, _, _, _, _, _, _, _, _, _, _, _, _, _, _, _, _, _, _, _, _] Tryz.underlying64 Tryz.sizeOf5 Tryz.zeroValue64 (by rfl) (by rfl) rfl (by rfl) (by rfl) (fun _ => by kernel_rfl))) ?_
    refine wl_storega Tryz.sizeOf37 rfl rfl (by rfl) (by decide) f4 (by rfl) ?_
    rintro w_1 f g e
    have s := g.size
    replace hw := hw.trans (below_of_grownBy g.g hw.size (by omega))
    replace f6 := f6.k g.g (ap_some (by omega))
    replace f2 := f2.k g.g (ap_some (by omega))
    clear f4
    refine wl_p (fun _ => o_assign rfl) ?_
    refine wl_storega Tryz.sizeOf64 rfl rfl (by rfl) (by decide) f6 (by rfl) ?_
    rintro w_2 f_1 g_1 e_1
    have s_1 := g_1.size
    replace hw := hw.trans (below_of_grownBy g_1.g hw.size (by omega))
    replace f2 := f2.k g_1.g (ap_some (by omega))
    replace f := f.k g_1.g (ap_some (by omega))
    clear f6
    refine wl_p (fun _ => o_assign rfl) ?_
    refine wl_nil ?_
    refine ret_any (vs := [.agg #[.int .u8 0, .slice none 0 0], .int .i64 0, .agg (B8 nul32).toArray, .int .i64 5]) rfl (.cell rfl Tryz.isAgg37 Tryz.sizeOf37 f rfl (.tmp rfl (.cell rfl Tryz.isAgg64 Tryz.sizeOf64 f_1 rfl (.tmp rfl .nil)))) (by simp) ?_
    exact ⟨0, [], none, 0, 0, nul32, 5, rfl, OwnH.nil_, by rw [if_pos (by omega)], rfl, hw⟩
  rw [if_neg (show ¬ b.length - at0 < sz + 8 by omega)]
  refine rk_skip ?_
  refine rk_seq ?_
  refine rk_region ?_
  refine wl_p (fun _ => o_move rfl) ?_
  refine wl_p (fun _ => o_move rfl) ?_
  refine wl_p (fun _ => o_add rfl rfl (by omega) (by omega)) ?_
  refine wl_p (fun _ => o_assign rfl) ?_
  refine wl_nil ?_
  refine rk_seq ?_
  refine rk_region ?_
  refine wl_p (fun _ => o_move rfl) ?_
  refine wl_p (fun _ => o_move rfl) ?_
  refine wl_p (fun _ => o_move rfl) ?_
  refine wl_p (fun _ => o_move rfl) ?_
  refine wl_p (fun _ => o_move rfl) ?_
  obtain ⟨t, ht⟩ : ∃ t, at0 + sz = t := ⟨_, rfl⟩
  rw [show ((at0 : Int) + (sz : Int)) = (t : Int) by omega]
  have hpl : p.length = sz := by rw [← hp, List.length_take, List.length_drop]; omega
  have hyl : y.length = 8 := by rw [← hy, List.length_take, List.length_drop]; omega
  have hR : Rd w (cutA A t 1 at0) p := by
    have h1 := (hb.take (k := t) (by omega)).cut (c := t) (k := at0) (by rw [List.length_take]; omega) (by rw [List.length_take]; omega)
    rwa [List.drop_take, show t - at0 = sz by omega, hp] at h1
  refine wl_p (fun _ => o_slice3B at0 t t Tryz.underlying35 Tryz.sizeOf5 rfl rfl rfl rfl rfl rfl rfl (by omega) (Nat.le_refl _) (by omega)) ?_
  refine wl_call rfl (C_bClone _ (hR.u hw) (by omega) (by omega)) ?_
  rintro v45 w45 ⟨A45, ⟨c45, ⟨rfl, ⟨f45, b45⟩⟩⟩⟩
  have qf45 := f45.cap
  have s45 := b45.size
  replace hw := hw.trans (b45.mono hw.size)
  replace f6 := f6.u b45
  replace f2 := f2.u b45
  replace f4 := f4.u b45
  refine wl_p (fun _ => (o_buildg [_, _] Tryz.underlying37 Tryz.zeroValue37 (by rfl) (by rfl) rfl (by rfl) (by rfl) (fun _ => by kernel_rfl))) ?_
  refine wl_allocg [_, _] Tryz.zeroValue37 (by rfl) ?_
  rintro g13 w13 f13 b13 i13 i13_1
  have s13 := b13.size
  replace hw := hw.trans (b13.mono hw.size)
  replace f4 := f4.u b13
  replace f2 := f2.u b13
  replace f6 := f6.u b13
  replace f45 := f45.u b13
  refine wl_storega Tryz.sizeOf37 rfl rfl (by rfl) (oneCell_of (by rfl)) f13 (by rfl) ?_
  rintro w_1 f g e
  have s := g.size
  replace hw := hw.trans (below_of_grownBy g.g hw.size (by omega))
  replace f45 := f45.k g.g (ap_some (by omega))
  replace f6 := f6.k g.g (ap_some (by omega))
  replace f2 := f2.k g.g (ap_some (by omega))
  replace f4 := f4.k g.g (ap_some (by omega))
  clear f13
  refine wl_nil ?_
  refine rk_seq ?_
  refine rk_region ?_
  refine wl_r (o_ldBa Tryz.isAgg64 Tryz.sizeOf64 rfl f2 hd) ?_
  refine wl_r (o_loadag Tryz.isAgg37 Tryz.sizeOf37 rfl f (by rfl)) ?_
  refine wl_call rfl (C_Next _ f45.to_Rd rfl (by omega) hd hr) ?_
  rintro v49 w49 ⟨rfl, b49⟩
  have s49 := b49.size
  replace hw := hw.trans (b49.mono hw.size)
  replace f4 := f4.u b49
  replace f2 := f2.u b49
  replace f6 := f6.u b49
  replace f45 := f45.u b49
  replace f := f.u b49
  refine wl_allocB Tryz.underlying64 Tryz.zeroValue64 (by rfl) ?_
  rintro g14 w14 f14 b14 i14 i14_1
  have s14 := b14.size
  replace hw := hw.trans (b14.mono hw.size)
  replace f := f.u b14
  replace f45 := f45.u b14
  replace f6 := f6.u b14
  replace f2 := f2.u b14
  replace f4 := f4.u b14
  refine wl_stBa Tryz.sizeOf64 rfl f14 rfl h32 (by rfl) ?_
  rintro w_2 f_1 g_1 e_1
  have s_1 := g_1.size
  replace hw := hw.trans (below_of_grownBy g_1.g hw.size (by omega))
  replace f4 := f4.k g_1.g (ap_some (by omega))
  replace f2 := f2.k g_1.g (ap_some (by omega))
  replace f6 := f6.k g_1.g (ap_some (by omega))
  replace f45 := f45.k g_1.g (ap_some (by omega))
  replace f := f.k g_1.g (ap_some (by omega))
  clear f14
  refine wl_nil ?_
  refine rk_seq ?_
  refine rk_seq ?_
  refine rk_draw (id := 9) (none) [0, 0, 0, 0, 8, 22, 33, 64] [0, 0, 0, 0, 8, 30, 63, 127] 64 0 [(.p, 0), (.p, 1), (.p, 2), (.p, 3), (.p, 4), (.p, 5), (.l, 6), (.p, 7)] (by kernel_rfl) (by kernel_rfl) (by kernel_rfl) (by kernel_rfl) (by kernel_rfl) ?_
  replace hw := hw.drew
  replace f := f.d
  replace f45 := f45.d
  replace f6 := f6.d
  replace f2 := f2.d
  replace f4 := f4.d
  replace f_1 := f_1.d
  refine wl_p (fun _ => (o_slArrHi (8) Tryz.underlying64 Tryz.sizeOf5 rfl rfl (by omega) (by omega))) ?_
  refine wl_p (fun _ => o_move rfl) ?_
  refine wl_p (fun _ => o_move rfl) ?_
  refine wl_p (fun _ => o_move rfl) ?_
  refine wl_p (fun _ => o_add rfl rfl (by omega) (by omega)) ?_
  refine wl_slBB Tryz.u8 (t) (t + 8) rfl rfl rfl (hb.u hw) rfl rfl (by omega) (by omega) (by omega) (by omega) ?_
  rintro A55 c55 f55 i55 i55_1
  rw [show t + 8 - t = 8 by omega] at f55 i55 ⊢
  rw [ht] at hy
  rw [hy] at f55
  have hr8 := rd_pre f_1 8
  refine wl_call rfl (C_bEqual _ hr8 f55 (by omega) (by omega)) ?_
  rintro v56 w56 ⟨rfl, b56⟩
  simp only [drew_size] at b56
  have s56 := b56.size
  simp only [drew_size] at s56
  replace hw := hw.trans (b56.mono hw.size)
  replace hr8 := hr8.u b56
  replace f55 := f55.u b56
  replace f_1 := f_1.u b56
  replace f4 := f4.u b56
  replace f2 := f2.u b56
  replace f6 := f6.u b56
  replace f45 := f45.u b56
  replace f := f.u b56
  refine wl_p (fun _ => o_not rfl) ?_
  refine wl_nild ?_
  by_cases hq : r.take 8 = y
  · rw [decide_eq_true hq, if_pos hq]
    refine rk_false rfl ?_
    refine rk_skip ?_
    refine rk_seq ?_
    refine rk_draw (id := 11) (some g4) [0, 0, 2, 0, 1, 23, 63, 127] [0, 0, 2, 0, 1, 23, 63, 127] 80 16 [(.r, 0), (.p, 1), (.p, 2), (.s, 3), (.c, 4), (.p, 5), (.l, 6), (.p, 7)] (by kernel_rfl) (by kernel_rfl) (by kernel_rfl) (by kernel_rfl) (by kernel_rfl) ?_
    replace hw := hw.drew
    replace f := f.d
    replace f45 := f45.d
    replace f6 := f6.d
    replace f2 := f2.d
    replace f4 := f4.d
    replace f_1 := f_1.d
    replace f55 := f55.d
    replace hr8 := hr8.d
    refine wl_r (o_loadag Tryz.isAgg37 Tryz.sizeOf37 rfl f (by rfl)) ?_
    refine wl_p (fun _ => o_move rfl) ?_
    refine wl_p (fun _ => o_add rfl rfl (by omega) (by omega)) ?_
    refine wl_s (fun _ hk => (o_ldBa Tryz.isAgg64 Tryz.sizeOf64 rfl (f_1.k hk (ap_some (by omega))) h32)) ?_
    refine wl_storega Tryz.sizeOf37 rfl rfl (by rfl) (oneCell_of (by rfl)) f4 (by rfl) ?_ (hq := .inr rfl)
    rintro w_3 f_2 g_2 e_2
    simp only [drew_size] at e_2
    have s_2 := g_2.size
    simp only [drew_size] at s_2
    replace hw := hw.trans (below_of_grownBy g_2.g hw.size (by omega))
    replace f_1 := f_1.k g_2.g (ap_some (by omega))
    replace f2 := f2.k g_2.g (ap_some (by omega))
    replace f6 := f6.k g_2.g (ap_some (by omega))
    replace f45 := f45.k g_2.g (ap_some (by omega))
    replace f := f.k g_2.g (ap_some (by omega))
    clear hr8
    clear f55
    clear f4
    refine wl_p (fun _ => o_assign rfl) ?_
    refine wl_stBa Tryz.sizeOf64 rfl f6 rfl h32 (by rfl) ?_
    rintro w_4 f_3 g_3 e_3
    have s_3 := g_3.size
    replace hw := hw.trans (below_of_grownBy g_3.g hw.size (by omega))
    replace f := f.k g_3.g (ap_some (by omega))
    replace f45 := f45.k g_3.g (ap_some (by omega))
    replace f2 := f2.k g_3.g (ap_some (by omega))
    replace f_1 := f_1.k g_3.g (ap_some (by omega))
    replace f_2 := f_2.k g_3.g (ap_some (by omega))
    clear f6
    refine wl_p (fun _ => o_assign rfl) ?_
    refine wl_nild ?_
    refine ret_any (vs := [.agg #[.int .u8 (k8.toNat : Int), .slice A45 p.length c45], .int .i64 ((t : Int) + 8), .agg (B8 r).toArray, .int .i64 0]) rfl (.cell rfl Tryz.isAgg37 Tryz.sizeOf37 f_2 rfl (.tmp rfl (.cell rfl Tryz.isAgg64 Tryz.sizeOf64 f_3 (by rw [B8_length, h32]) (.tmp rfl .nil)))) (by simp) ?_
    exact ⟨k8, p, A45, c45, t + 8, r, 0, rfl, f45.base (by omega) (by omega), by rw [ht], h32, hw⟩
  · rw [decide_eq_false hq, if_neg hq]
    refine rk_true rfl ?_
    refine rk_seq ?_
    refine rk_region ?_
    refine wl_p (fun _ => (o_buildg [_, _] Tryz.underlying37 Tryz.zeroValue37 (by rfl) (by rfl) rfl (by rfl) (by rfl) (fun _ => by kernel_rfl))) ?_
    refine wl_p (fun _ => (o_buildga [_, _, _, _, _, _, _, _, _, _, _, _, _, _, _, _, _, _, _, _, _, _, _, _, _, _, _, _, _, _, _, _] Tryz.underlying64 Tryz.sizeOf5 Tryz.zeroValue64 (by rfl) (by rfl) rfl (by rfl) (by rfl) (fun _ => by kernel_rfl))) ?_
    refine wl_storega Tryz.sizeOf37 rfl rfl (by rfl) (by decide) f4 (by rfl) ?_
    rintro w_3 f_2 g_2 e_2
    have s_2 := g_2.size
    replace hw := hw.trans (below_of_grownBy g_2.g hw.size (by omega))
    replace f := f.k g_2.g (ap_some (by omega))
    replace f45 := f45.k g_2.g (ap_some (by omega))
    replace f6 := f6.k g_2.g (ap_some (by omega))
    replace f2 := f2.k g_2.g (ap_some (by omega))
    replace f_1 := f_1.k g_2.g (ap_some (by omega))
    clear f4
    clear f55
    clear hr8
    refine wl_p (fun _ => o_assign rfl) ?_
    refine wl_storega Tryz.sizeOf64 rfl rfl (by rfl) (by decide) f6 (by rfl) ?_
    rintro w_4 f_3 g_3 e_3
    have s_3 := g_3.size
    replace hw := hw.trans (below_of_grownBy g_3.g hw.size (by omega))
    replace f_1 := f_1.k g_3.g (ap_some (by omega))
    replace f2 := f2.k g_3.g (ap_some (by omega))
    replace f45 := f45.k g_3.g (ap_some (by omega))
    replace f := f.k g_3.g (ap_some (by omega))
    replace f_2 := f_2.k g_3.g (ap_some (by omega))
    clear f6
    refine wl_p (fun _ => o_assign rfl) ?_
    refine wl_nil ?_
    refine ret_any (vs := [.agg #[.int .u8 0, .slice none 0 0], .int .i64 0, .agg (B8 nul32).toArray, .int .i64 4]) rfl (.cell rfl Tryz.isAgg37 Tryz.sizeOf37 f_2 rfl (.tmp rfl (.cell rfl Tryz.isAgg64 Tryz.sizeOf64 f_3 rfl (.tmp rfl .nil)))) (by simp) ?_
    exact ⟨0, [], none, 0, 0, nul32, 4, rfl, OwnH.nil_, rfl, rfl, hw⟩
end Go.Proofs.YtnnhenafhalobaaGreat
/-
  Records compared; the chapter's examples.
-/
namespace Go.Proofs.YtnnhenafhalobaaGreat
set_option maxRecDepth 100000
open Go.RowKit
theorem C_OwnB {A : Option Addr} {p : By} {n c : Nat} (w : World) (hp : Rd w A p) (hn : n = p.length) (hl : p.length ≤ 4000000000) :
    CallsR Tryz.prog 16 [.slice A n c] w fun v w' => ∃ A' c', v = .slice A' p.length c' ∧ OwnH w' w.heap.size w'.heap.size A' c' p ∧ Below w.heap.size w w' := by
  subst hn
  refine callsR Tryz.func16 rfl rfl (by kernel_rfl) rfl ?_
  have hw := Below.refl w.heap.size w
  refine rk_seq ?_
  refine rk_region ?_
  refine wl_p (fun _ => o_assign rfl) ?_
  refine wl_nil ?_
  refine rk_seq ?_
  refine rk_region ?_
  refine wl_litB [] Tryz.u8 Tryz.sizeOf5 Tryz.zeroValue5 (by rfl) rfl rfl (by rfl) (by rfl) (by rfl) ?_
  rintro A3 w3 f3 b3
  have qf3 := f3.cap
  have s3 := b3.size
  replace hw := hw.trans (b3.mono hw.size)
  refine wl_p (fun _ => o_move rfl) ?_
  refine wl_appB Tryz.u8 rfl f3 (by rfl) rfl (hp.u hw) rfl (by omega) hw.size ?_
  rintro A5 c5 w5 f5 g5 b5 i5
  have qf5 := f5.cap
  have s5 := g5.size
  replace hw := hw.trans (b5.mono (by omega))
  clear f3
  refine wl_p (fun _ => o_assign rfl) ?_
  refine wl_nil ?_
  refine ret1 rfl rfl ?_
  exact ⟨_, _, rfl, f5, hw⟩
theorem C_kRec {k q : UInt8} {A B : Option Addr} {a b : By} {n c m d : Nat} (w : World) (hA : Rd w A a) (hB : Rd w B b) (hn : n = a.length) (hm : m = b.length) :
    CallsR Tryz.prog 61 [.agg #[.int .u8 (k.toNat : Int), .slice A n c], .agg #[.int .u8 (q.toNat : Int), .slice B m d]] w fun v w' => v = .bool (decide ((k, a) = (q, b))) ∧ Below w.heap.size w w' := by
  subst hn; subst hm
  by_cases h0 : (k.toNat : Int) = (q.toNat : Int)
  · have e0 : k = q := UInt8.toNat_inj.1 (by omega)
    subst e0
    refine callsR Tryz.func61 rfl rfl (by kernel_rfl) rfl ?_
    have hw := Below.refl w.heap.size w
    refine rk_seq ?_
    refine rk_region ?_
    refine wl_boxg [_, _] rfl (by rfl) ?_
    rintro g2 w2 f2 b2 i2 i2_1
    have s2 := b2.size
    replace hw := hw.trans (b2.mono hw.size)
    refine wl_boxg [_, _] rfl (by rfl) ?_
    rintro g3 w3 f3 b3 i3 i3_1
    have s3 := b3.size
    replace hw := hw.trans (b3.mono hw.size)
    replace f2 := f2.u b3
    refine wl_p (fun _ => o_assign rfl) ?_
    refine wl_nil ?_
    refine rk_seq ?_
    refine rk_region ?_
    refine wl_p (fun _ => o_faddr (s := 37) (i := 0) (off := 0) Tryz.underlying37 rfl Tryz.sizeOf5 rfl rfl rfl) ?_
    refine wl_r (o_loadbg Tryz.isAgg5 rfl f2 (by rfl)) ?_
    refine wl_p (fun _ => o_faddr (s := 37) (i := 0) (off := 0) Tryz.underlying37 rfl Tryz.sizeOf5 rfl rfl rfl) ?_
    refine wl_r (o_loadbg Tryz.isAgg5 rfl f3 (by rfl)) ?_
    refine wl_p (fun _ => o_eq rfl rfl) ?_
    refine wl_p (fun _ => o_move rfl) ?_
    refine wl_know 10 true rfl (decide_eq_true (by omega)) ?_
    refine wl_p (fun _ => o_faddr (s := 37) (i := 1) (off := 1) Tryz.underlying37 rfl Tryz.sizeOf35 rfl rfl rfl) ?_
    refine wl_r (o_loadbg Tryz.isAgg35 rfl f2 (by rfl)) ?_
    refine wl_r (o_strU Tryz.underlying35 Tryz.underlying5 Tryz.underlying9 rfl hA hw rfl) ?_
    refine wl_p (fun _ => o_faddr (s := 37) (i := 1) (off := 1) Tryz.underlying37 rfl Tryz.sizeOf35 rfl rfl rfl) ?_
    refine wl_r (o_loadbg Tryz.isAgg35 rfl f3 (by rfl)) ?_
    refine wl_r (o_strU Tryz.underlying35 Tryz.underlying5 Tryz.underlying9 rfl hB hw rfl) ?_
    refine wl_p (fun _ => o_seq rfl rfl) ?_
    refine wl_p (fun _ => o_pick_t rfl rfl) ?_
    refine wl_p (fun _ => o_assign rfl) ?_
    refine wl_nil ?_
    rw [decide_eq_true rfl]
    refine ret1 rfl rfl ?_
    exact ⟨congrArg Value.bool (decide_eq_decide.2 ⟨fun h => by rw [h], fun h => (Prod.mk.inj h).2⟩), hw⟩
  · have e0 : k ≠ q := fun e => h0 (by rw [e])
    refine callsR Tryz.func61 rfl rfl (by kernel_rfl) rfl ?_
    have hw := Below.refl w.heap.size w
    refine rk_seq ?_
    refine rk_region ?_
    refine wl_boxg [_, _] rfl (by rfl) ?_
    rintro g2 w2 f2 b2 i2 i2_1
    have s2 := b2.size
    replace hw := hw.trans (b2.mono hw.size)
    refine wl_boxg [_, _] rfl (by rfl) ?_
    rintro g3 w3 f3 b3 i3 i3_1
    have s3 := b3.size
    replace hw := hw.trans (b3.mono hw.size)
    replace f2 := f2.u b3
    refine wl_p (fun _ => o_assign rfl) ?_
    refine wl_nil ?_
    refine rk_seq ?_
    refine rk_region ?_
    refine wl_p (fun _ => o_faddr (s := 37) (i := 0) (off := 0) Tryz.underlying37 rfl Tryz.sizeOf5 rfl rfl rfl) ?_
    refine wl_r (o_loadbg Tryz.isAgg5 rfl f2 (by rfl)) ?_
    refine wl_p (fun _ => o_faddr (s := 37) (i := 0) (off := 0) Tryz.underlying37 rfl Tryz.sizeOf5 rfl rfl rfl) ?_
    refine wl_r (o_loadbg Tryz.isAgg5 rfl f3 (by rfl)) ?_
    refine wl_p (fun _ => o_eq rfl rfl) ?_
    refine wl_p (fun _ => o_move rfl) ?_
    refine wl_know 10 false rfl (decide_eq_false (by omega)) ?_
    refine wl_off ?_
    refine wl_off ?_
    refine wl_off ?_
    refine wl_off ?_
    refine wl_off ?_
    refine wl_off ?_
    refine wl_off ?_
    refine wl_p (fun _ => o_pick_f rfl rfl) ?_
    refine wl_p (fun _ => o_assign rfl) ?_
    refine wl_nil ?_
    rw [decide_eq_false h0]
    refine ret1 rfl rfl ?_
    exact ⟨by rw [decide_eq_false (fun e => e0 (congrArg Prod.fst e))], hw⟩
section
variable {N : Nat} {fr : Fr} {w : World} {ty : TypeId}
--@ rule! build p o_buildD0
theorem o_buildD0 : OpV Tryz.prog N fr w (.build 64 #[]) ty (.agg (B8 nul32).toArray) w := o_build (is := []) (xs := []) (vs := []) rfl (fun _ => by kernel_rfl)
end
theorem C_RecReadN {A : Option Addr} {d b : By} {r : Rc × Nat × By × Nat} {n c : Nat} (w : World) (hr : readR d b = r) (hb : Rd w A b) (hn : n = b.length) (hc : b.length ≤ c) (hd : d.length = 32) (hl : b.length ≤ 400000) :
    CallsR Tryz.prog 107 [.agg (B8 d).toArray, .slice A n c] w fun v w' => ∃ (A' : Option Addr) (c' : Nat), v = .tuple #[.agg #[.int .u8 ((r.1.1).toNat : Int), .slice A' r.1.2.length c'], .int .i64 (r.2.1 : Int), .agg (B8 r.2.2.1).toArray, .int .i64 (r.2.2.2 : Int)] ∧ OwnH w' w.heap.size w'.heap.size A' c' r.1.2 ∧ Below w.heap.size w w' := by
  refine (C_RecRead w hb hn hc hd hl).mono ?_
  rintro v w' ⟨k', p', A', c', z', x', e', rfl, h1, h2, _, h4⟩
  rw [hr] at h2
  subst h2
  exact ⟨_, _, rfl, h1, h4⟩
theorem C_SizeZ {k : UInt8} {x : Int} {A : Option Addr} {p : By} {n c : Nat} (w : World) (hk : x = (k.toNat : Int)) (hn : n = p.length) (hl : p.length ≤ 10000) (hp : Rd w A p) :
    CallsR Tryz.prog 57 [.agg #[.int .u8 x, .slice A n c]] w fun v w' => v = .int .i64 (if OkR (k, p) then ((bodyB (k, p)).length : Int) + 8 else 0) ∧ Below w.heap.size w w' := by
  subst hk
  exact C_Size w hn hl hp
theorem C_CheckZ {k : UInt8} {x : Int} {A : Option Addr} {p : By} {n c : Nat} (w : World) (hk : x = (k.toNat : Int)) (hn : n = p.length) :
    CallsR Tryz.prog 56 [.agg #[.int .u8 x, .slice A n c]] w fun v w' => ∃ z : Int, v = .int .i64 z ∧ (z = 0 ∨ z = 2) ∧ (z = 0 ↔ OkR (k, p)) ∧ Below w.heap.size w w' := by
  subst hk
  exact C_Check w hn
theorem C_RecBytesZ {k : UInt8} {x : Int} {A : Option Addr} {p d : By} {n c : Nat} (w : World) (hk : x = (k.toNat : Int)) (hp : Rd w A p) (hn : n = p.length) (hl : p.length ≤ 9000) (hd : d.length = 32) :
    CallsR Tryz.prog 50 [.agg (B8 d).toArray, .agg #[.int .u8 x, .slice A n c]] w fun v w' => ∃ (A' : Option Addr) (bs : By) (c' : Nat) (e : By) (z : Int), v = .tuple #[.slice A' bs.length c', .agg (B8 e).toArray, .int .i64 z] ∧ OwnH w' w.heap.size w'.heap.size A' c' bs ∧ (z = 0 ∨ z = 2) ∧ (z = 0 ↔ OkR (k, p)) ∧ (z = 0 → bs = bytesR d (k, p) ∧ e = nextB d (k, p)) ∧ (z ≠ 0 → bs = []) ∧ e.length = 32 ∧ Below w.heap.size w w' := by
  subst hk
  exact C_RecBytes w hp hn hl hd
theorem C_RecBytesBad {k : UInt8} {x : Int} {A : Option Addr} {p d : By} {n c : Nat} (w : World) (hk : x = (k.toNat : Int)) (hp : Rd w A p) (hO : ¬ OkR (k, p)) (hn : n = p.length) (hl : p.length ≤ 9000) (hd : d.length = 32) :
    CallsR Tryz.prog 50 [.agg (B8 d).toArray, .agg #[.int .u8 x, .slice A n c]] w fun v w' => ∃ (A' : Option Addr) (c' : Nat) (e : By), v = .tuple #[.slice A' 0 c', .agg (B8 e).toArray, .int .i64 2] ∧ OwnH w' w.heap.size w'.heap.size A' c' [] ∧ e.length = 32 ∧ Below w.heap.size w w' := by
  refine (C_RecBytesZ w hk hp hn hl hd).mono ?_
  rintro v w' ⟨A', bs, c', e, z, rfl, h1, h2, h3, _, h5, h6, h7⟩
  have hz : z ≠ 0 := fun e => hO (h3.1 e)
  obtain rfl := h5 hz
  obtain rfl : z = 2 := by omega
  exact ⟨A', c', e, rfl, h1, h6, h7⟩
theorem C_RecBytesOk {k : UInt8} {x : Int} {A : Option Addr} {p d bs e : By} {n c : Nat} (w : World) (hk : x = (k.toNat : Int)) (hp : Rd w A p) (hO : OkR (k, p)) (hr : bytesR d (k, p) = bs) (hs : nextB d (k, p) = e) (hn : n = p.length) (hl : p.length ≤ 9000) (hd : d.length = 32) :
    CallsR Tryz.prog 50 [.agg (B8 d).toArray, .agg #[.int .u8 x, .slice A n c]] w fun v w' => ∃ (A' : Option Addr) (c' : Nat), v = .tuple #[.slice A' bs.length c', .agg (B8 e).toArray, .int .i64 0] ∧ OwnH w' w.heap.size w'.heap.size A' c' bs ∧ Below w.heap.size w w' := by
  refine (C_RecBytesZ w hk hp hn hl hd).mono ?_
  rintro v w' ⟨A', bs', c', e', z, rfl, h1, h2, h3, h4, h5, h6, h7⟩
  obtain rfl := h3.2 hO
  obtain ⟨rfl, rfl⟩ := h4 rfl
  rw [hr] at h1 ⊢
  rw [hs]
  exact ⟨A', c', rfl, h1, h7⟩
theorem C_kRecZ {k q : UInt8} {x y : Int} {A B : Option Addr} {a b : By} {n c m d : Nat} (w : World) (hk : x = (k.toNat : Int)) (hq : y = (q.toNat : Int)) (hA : Rd w A a) (hB : Rd w B b) (hn : n = a.length) (hm : m = b.length) :
    CallsR Tryz.prog 61 [.agg #[.int .u8 x, .slice A n c], .agg #[.int .u8 y, .slice B m d]] w fun v w' => v = .bool (decide ((k, a) = (q, b))) ∧ Below w.heap.size w w' := by
  subst hk; subst hq
  exact C_kRec w hA hB hn hm
end Go.Proofs.YtnnhenafhalobaaGreat
/-
  Plain mathematics: numbers are ordered as their bytes are.
-/
namespace Go.Proofs.YtnnhenafhalobaaGreat
set_option maxRecDepth 100000

theorem first_nat (n : Nat) (h : n < 18446744073709551616) : (first (room n) n).toNat = 256 - 2 ^ (9 - room n) + n / 256 ^ (room n - 1) := by
  have hk := room_pos n
  have hlt := room_lt n h
  have h5 : 2 ^ (8 - room n) ≤ 2 ^ (9 - room n) := Nat.pow_le_pow_right (by omega) (by omega)
  have h6 : 2 ^ (9 - room n) ≤ 256 := Nat.pow_le_pow_right (show 0 < 2 by omega) (show 9 - room n ≤ 8 by omega)
  unfold first
  rw [UInt8.toNat_ofNat', Nat.mod_eq_of_lt]
  rcases Nat.lt_or_ge (room n) 9 with h9 | h9
  · have : 2 ^ (9 - room n) = 2 ^ (8 - room n) * 2 := by rw [← Nat.pow_succ]; congr 1; omega
    have := Nat.two_pow_pos (8 - room n)
    omega
  · have e : room n = 9 := by omega
    rw [e] at hlt ⊢
    simp at hlt
    omega

def over (t n : Nat) : Nat := if n < t then 0 else 1
theorem room_hi (n : Nat) : room n = 9 ∨ n / 2 ^ (7 * room n) = 0 := by
  unfold room
  repeat' split
  all_goals first | (left; rfl) | (right; simp; omega)
theorem room_low (n : Nat) : room n = 1 ∨ n / 2 ^ (7 * (room n - 1)) ≠ 0 := by
  unfold room
  repeat' split
  all_goals first | (left; rfl) | (right; simp; omega)
end Go.Proofs.YtnnhenafhalobaaGreat
/-
  Plain laws of chapter 1: what is written is read back, and nothing else is read so.
-/
namespace Go.Proofs.YtnnhenafhalobaaGreat
set_option maxRecDepth 100000

theorem lead_first (n : Nat) (h : n < 18446744073709551616) : lead (first (room n) n) = room n ∧ (first (room n) n).toNat % 2 ^ (8 - room n) = n / 256 ^ (room n - 1) := by
  have hk := room_pos n
  have hlt := room_lt n h
  have hf := first_nat n h
  unfold lead
  generalize n / 256 ^ (room n - 1) = q at *
  generalize (first (room n) n).toNat = f at *
  generalize room n = k at *
  obtain e | e | e | e | e | e | e | e | e : k = 1 ∨ k = 2 ∨ k = 3 ∨ k = 4 ∨ k = 5 ∨ k = 6 ∨ k = 7 ∨ k = 8 ∨ k = 9 := by omega
  all_goals subst e; simp only [Nat.reduceSub, Nat.reducePow] at *; refine ⟨?_, by omega⟩; (repeat' split) <;> omega

theorem ofNat_byte (q : Nat) : (UInt8.ofNat q).toNat = q % 256 := by rw [UInt8.toNat_ofNat']
theorem mod_pow_succ (n j : Nat) : n % 256 ^ (j + 1) = n % 256 ^ j + 256 ^ j * (n / 256 ^ j % 256) := by rw [Nat.pow_succ, Nat.mod_mul]
theorem beVal_beB : ∀ (j a n : Nat), beVal a (beB j n) = a * 256 ^ j + n % 256 ^ j
  | 0, a, n => by simp [beVal, beB, Nat.mod_one]
  | j + 1, a, n => by
    have e : beVal a (beB (j + 1) n) = beVal (a * 256 + (UInt8.ofNat (n / 256 ^ j)).toNat) (beB j n) := rfl
    rw [e, beVal_beB j, ofNat_byte, mod_pow_succ, Nat.pow_succ, Nat.add_mul, Nat.mul_assoc a 256, Nat.mul_comm 256 (256 ^ j), Nat.mul_comm (n / 256 ^ j % 256), Nat.add_assoc, Nat.add_comm (256 ^ j * (n / 256 ^ j % 256))]

theorem rNumber_enc (n : Nat) (h : n < 18446744073709551616) (t : List UInt8) : rNumber (enc n ++ t, 0) = (n, (t, 0)) := by
  have hk := room_pos n
  obtain ⟨h1, h2⟩ := lead_first n h
  have hv : beVal ((first (room n) n).toNat % 2 ^ (8 - lead (first (room n) n))) ((beB (room n - 1) n ++ t).take (lead (first (room n) n) - 1)) = n := by
    rw [h1, h2, List.take_append_of_le_length (by rw [beB_length]; exact Nat.le_refl _), List.take_of_length_le (by rw [beB_length]; exact Nat.le_refl _), beVal_beB]
    exact Nat.div_add_mod' n _
  show rNumber (first (room n) n :: (beB (room n - 1) n ++ t), 0) = _
  rw [rNumber_ok (by rw [h1, List.length_append, beB_length]; omega) (by rw [hv, h1]), hv, h1]
  rw [List.drop_append_of_le_length (by rw [beB_length]; exact Nat.le_refl _), List.drop_of_length_le (by rw [beB_length]; exact Nat.le_refl _)]
  rfl

theorem leVal_leB : ∀ (k m : Nat), leVal (leB k m) = m % 256 ^ k
  | 0, m => by simp [leB, leVal, Nat.mod_one]
  | k + 1, m => by
    have e : leB (k + 1) m = leB k m ++ [UInt8.ofNat (m / 256 ^ k)] := rfl
    rw [e, leVal_snoc, leVal_leB k, leB_length, ofNat_byte, mod_pow_succ, Nat.mul_comm]

theorem beVal_split : ∀ (l : List UInt8) (a : Nat), beVal a l / 256 ^ l.length = a
  | [], a => by simp [beVal]
  | c :: l, a => by
    have e : beVal a (c :: l) = beVal (a * 256 + c.toNat) l := rfl
    have h := beVal_split l (a * 256 + c.toNat)
    have hc := c.toNat_lt
    rw [e, List.length_cons, Nat.pow_succ, ← Nat.div_div_eq_div_mul, h]
    omega
theorem beB_beVal : ∀ (l : List UInt8) (a : Nat), beB l.length (beVal a l) = l
  | [], _ => rfl
  | c :: l, a => by
    have e : beVal a (c :: l) = beVal (a * 256 + c.toNat) l := rfl
    have hc := c.toNat_lt
    rw [e, List.length_cons, beB, beVal_split, beB_beVal l]
    congr 1
    apply UInt8.toNat_inj.1
    rw [UInt8.toNat_ofNat']
    omega
theorem lead_back (c : UInt8) : 256 - 2 ^ (9 - lead c) + c.toNat % 2 ^ (8 - lead c) = c.toNat := by
  have hc := c.toNat_lt
  unfold lead
  generalize c.toNat = x at *
  repeat' split
  all_goals simp only [Nat.reduceSub, Nat.reducePow]; omega

/-- What is read as a number is written so. -/
theorem rNumber_back {b r : List UInt8} {u : Nat} (h : rNumber (b, 0) = (u, (r, 0))) : b = enc u ++ r ∧ u < 18446744073709551616 := by
  cases b with
  | nil => rw [rNumber_nil] at h; simp at h
  | cons c t =>
    by_cases h1 : t.length + 1 < lead c
    · rw [rNumber_more h1] at h; simp at h
    · by_cases h2 : room (beVal (c.toNat % 2 ^ (8 - lead c)) (t.take (lead c - 1))) = lead c
      · rw [rNumber_ok h1 h2] at h
        simp only [Prod.mk.injEq, and_true] at h
        obtain ⟨hu, hr⟩ := h
        have hk := lead_bd c
        have hlen : (t.take (lead c - 1)).length = lead c - 1 := by rw [List.length_take]; omega
        have hu64 := beVal_u64 c (t.take (lead c - 1)) (by omega)
        rw [hu] at h2 hu64
        refine ⟨?_, hu64⟩
        have hdiv : u / 256 ^ (lead c - 1) = c.toNat % 2 ^ (8 - lead c) := by
          have := beVal_split (t.take (lead c - 1)) (c.toNat % 2 ^ (8 - lead c))
          rw [hlen, hu] at this
          exact this
        have hrest : beB (lead c - 1) u = t.take (lead c - 1) := by
          have := beB_beVal (t.take (lead c - 1)) (c.toNat % 2 ^ (8 - lead c))
          rw [hlen, hu] at this
          exact this
        have hf : first (lead c) u = c := by
          apply UInt8.toNat_inj.1
          unfold first
          rw [UInt8.toNat_ofNat', hdiv, lead_back]
          have := c.toNat_lt
          omega
        unfold enc
        rw [h2, hf, hrest, ← hr, List.cons_append, List.take_append_drop]
      · rw [rNumber_bad h1 h2] at h; simp at h

end Go.Proofs.YtnnhenafhalobaaGreat
/-
  Plain laws of chapter 8: what is written is read back with its own chain, and nothing else is read so.
-/
namespace Go.Proofs.YtnnhenafhalobaaGreat
set_option maxRecDepth 100000
open Go.RowKit
theorem rWord1_nil : rWord 1 ([], 0) = (0, ([], 5)) := by
  rfl
theorem rWord1_cons (c : UInt8) (t : By) : rWord 1 (c :: t, 0) = (c.toNat, (t, 0)) := by
  have h1 : clampN 1 = 1 := rfl
  have h2 : ¬ (c :: t).length < 1 := by simp
  simp [rWord, rTake, h1, leVal]
theorem startR_nil : startR [] = (0, 0, 0, 5) := by
  unfold startR
  rw [List.take_nil, rWord1_nil]
  simp [rNumber]
theorem startR_cons (c : UInt8) (t : By) : startR (c :: t) =
    if c = 0 then (0, 0, 0, 4) else if (rNumber (t.take 9, 0)).2.2 ≠ 0 then (0, 0, 0, (rNumber (t.take 9, 0)).2.2) else if 8192 < (rNumber (t.take 9, 0)).1 then (0, 0, 0, 4)
    else (c.toNat, 1 + (t.take 9).length - (rNumber (t.take 9, 0)).2.1.length, (rNumber (t.take 9, 0)).1, 0) := by
  unfold startR
  rw [List.take_succ_cons, rWord1_cons]
  have e : (c.toNat = 0) = (c = 0) := by rw [← UInt8.toNat_inj]; rfl
  simp only [true_and, e]
  split
  · rfl
  split
  · rfl
  split
  · rfl
  · rw [List.length_cons, Nat.add_comm]
theorem rNumber_e (b : By) : (rNumber (b, 0)).2.2 = 0 ∨ (rNumber (b, 0)).2.2 = 4 ∨ (rNumber (b, 0)).2.2 = 5 := by
  cases b with
  | nil => rw [rNumber_nil]; simp
  | cons c t =>
    by_cases h1 : t.length + 1 < lead c
    · rw [rNumber_more h1]; simp
    · by_cases h2 : room (beVal (c.toNat % 2 ^ (8 - lead c)) (t.take (lead c - 1))) = lead c
      · rw [rNumber_ok h1 h2]; simp
      · rw [rNumber_bad h1 h2]; simp
theorem take_enc (n : Nat) (q : By) : (enc n ++ q).take 9 = enc n ++ q.take (9 - (enc n).length) := by
  rw [List.take_append, List.take_of_length_le (enc_le9 n)]
theorem startR_of {k : UInt8} {n : Nat} {q : By} (hk : k ≠ 0) (hn : n ≤ 8192) : startR (k :: (enc n ++ q)) = (k.toNat, 1 + (enc n).length, n, 0) := by
  rw [startR_cons, if_neg hk, take_enc, rNumber_enc n (by omega)]
  simp only [ne_eq, not_true_eq_false, if_false]
  rw [if_neg (by omega), List.length_append]
  congr 2
  omega
theorem startR_back {b : By} {k f z : Nat} (h : startR b = (k, f, z, 0)) : ∃ (c : UInt8) (q : By), b = c :: (enc z ++ q) ∧ k = c.toNat ∧ c ≠ 0 ∧ z ≤ 8192 ∧ f = 1 + (enc z).length := by
  cases b with
  | nil => rw [startR_nil] at h; simp at h
  | cons c t =>
    rw [startR_cons] at h
    obtain ⟨⟨n, l, e⟩, hx⟩ : ∃ s, rNumber (t.take 9, 0) = s := ⟨_, rfl⟩
    rw [hx] at h
    dsimp only at h
    split at h
    · simp at h
    rename_i hc
    split at h
    · rename_i he; simp only [Prod.mk.injEq] at h; exact absurd h.2.2.2 he
    rename_i he
    obtain rfl : e = 0 := by omega
    split at h
    · simp at h
    rename_i hz
    simp only [Prod.mk.injEq, and_true] at h
    obtain ⟨rfl, rfl, rfl⟩ := h
    obtain ⟨h1, _⟩ := rNumber_back hx
    refine ⟨c, l ++ t.drop 9, ?_, rfl, hc, by omega, ?_⟩
    · rw [← List.append_assoc, ← h1, List.take_append_drop]
    · have := congrArg List.length h1
      rw [List.length_append] at this
      omega
theorem startR_e {b : By} {k f z e : Nat} (h : startR b = (k, f, z, e)) : e = 0 ∨ e = 4 ∨ e = 5 := by
  cases b with
  | nil => rw [startR_nil] at h; simp at h; omega
  | cons c t =>
    have hr := rNumber_e (t.take 9)
    rw [startR_cons] at h
    repeat' split at h
    all_goals (simp only [Prod.mk.injEq] at h; omega)
theorem readR_e (d b : By) : (readR d b).2.2.2 = 0 ∨ ((readR d b) = ((0, []), 0, nul32, (readR d b).2.2.2) ∧ ((readR d b).2.2.2 = 4 ∨ (readR d b).2.2.2 = 5)) := by
  unfold readR
  obtain ⟨⟨k, f, z, e⟩, hs⟩ : ∃ s, startR b = s := ⟨_, rfl⟩
  rw [hs]
  have he := startR_e hs
  dsimp only
  split
  · rename_i h; exact .inr ⟨rfl, by dsimp only; omega⟩
  split
  · exact .inr ⟨rfl, .inr rfl⟩
  split
  · exact .inl rfl
  · exact .inr ⟨rfl, .inl rfl⟩
theorem bytesR_len (d : By) (r : Rc) : (bytesR d r).length = (bodyB r).length + 8 := by
  unfold bytesR
  rw [List.length_append, List.length_take, nextB_len]; rfl
/-- What was written with the chain d, read with the chain c. -/
theorem readR_app (c d : By) {r : Rc} (h : OkR r) (q : By) : readR c (bytesR d r ++ q) = if (nextB c r).take 8 = (nextB d r).take 8 then (r, (bytesR d r).length, nextB c r, 0) else ((0, []), 0, nul32, 4) := by
  obtain ⟨k, p⟩ := r
  obtain ⟨hk, hp⟩ := h
  simp only at hk hp
  have e8 : ((nextB d (k, p)).take 8).length = 8 := by rw [List.length_take, nextB_len]; rfl
  obtain ⟨s, hs⟩ : ∃ s, (nextB d (k, p)).take 8 = s := ⟨_, rfl⟩
  have hb : bytesR d (k, p) ++ q = k :: (enc p.length ++ (p ++ (s ++ q))) := by
    simp [bytesR, bodyB, blkB, hs]
  rw [hs] at e8 ⊢
  have hlen : (bytesR d (k, p)).length = 1 + (enc p.length).length + p.length + 8 := by
    rw [bytesR_len]; simp [bodyB, blkB]; omega
  unfold readR
  rw [hb, startR_of hk hp]
  have d1 : (k :: (enc p.length ++ (p ++ (s ++ q)))).drop (1 + (enc p.length).length) = p ++ (s ++ q) := by
    rw [Nat.add_comm, List.drop_succ_cons, List.drop_left]
  have d2 : (k :: (enc p.length ++ (p ++ (s ++ q)))).drop (1 + (enc p.length).length + p.length) = s ++ q := by
    rw [← List.drop_drop, d1, List.drop_left]
  have d3 : (s ++ q).take 8 = s := by rw [← e8, List.take_left]
  dsimp only
  rw [if_neg (by simp), if_neg (by simp; omega), d1, d2, List.take_left, d3, UInt8.ofNat_toNat, hlen]
theorem readR_own (d : By) {r : Rc} (h : OkR r) (q : By) : readR d (bytesR d r ++ q) = (r, (bytesR d r).length, nextB d r, 0) := by
  rw [readR_app d d h, if_pos rfl]
/-- What is read was written so. -/
theorem readR_back {d b x : By} {r : Rc} {z : Nat} (h : readR d b = (r, z, x, 0)) : OkR r ∧ z = (bytesR d r).length ∧ x = nextB d r ∧ ∃ q, b = bytesR d r ++ q := by
  unfold readR at h
  obtain ⟨⟨k, f, n, e⟩, hs⟩ : ∃ s, startR b = s := ⟨_, rfl⟩
  rw [hs] at h
  dsimp only at h
  split at h
  · rename_i he; simp only [Prod.mk.injEq] at h; exact absurd h.2.2.2 he
  rename_i he
  obtain rfl : e = 0 := by omega
  obtain ⟨c, q, rfl, rfl, hc, hn, rfl⟩ := startR_back hs
  split at h
  · simp at h
  rename_i hl
  have d1 : (c :: (enc n ++ q)).drop (1 + (enc n).length) = q := by rw [Nat.add_comm, List.drop_succ_cons, List.drop_left]
  have hlq : n + 8 ≤ q.length := by
    have := congrArg List.length d1
    rw [List.length_drop] at this; omega
  have d2 : (c :: (enc n ++ q)).drop (1 + (enc n).length + n) = q.drop n := by rw [← List.drop_drop, d1]
  rw [d1, d2, UInt8.ofNat_toNat] at h
  split at h
  · rename_i ht
    simp only [Prod.mk.injEq, and_true] at h
    obtain ⟨rfl, rfl, rfl⟩ := h
    have hpl : (q.take n).length = n := by rw [List.length_take]; omega
    refine ⟨⟨hc, by simp only; omega⟩, ?_, rfl, q.drop (n + 8), ?_⟩
    · rw [bytesR_len]; simp [bodyB, blkB, hpl]; omega
    · unfold bytesR
      rw [ht]
      simp only [bodyB, blkB, hpl, List.append_assoc, List.cons_append, List.nil_append]
      congr 2
      rw [← List.drop_drop, List.take_append_drop, List.take_append_drop]
  · simp at h
theorem readR_nil (d : By) : readR d [] = ((0, []), 0, nul32, 5) := by
  unfold readR; rw [startR_nil]; simp
/-! Records one after the other. -/
def bytesAll : By → List Rc → By
  | _, [] => []
  | d, r :: l => bytesR d r ++ bytesAll (nextB d r) l
def chainAll : By → List Rc → By
  | d, [] => d
  | d, r :: l => chainAll (nextB d r) l
theorem chainAll_len {d : By} (hd : d.length = 32) : ∀ (l : List Rc), (chainAll d l).length = 32
  | [] => hd
  | r :: l => chainAll_len (nextB_len d r) l
theorem bytesAll_append : ∀ (d : By) (l m : List Rc), bytesAll d (l ++ m) = bytesAll d l ++ bytesAll (chainAll d l) m
  | d, [], m => rfl
  | d, r :: l, m => by simp [bytesAll, chainAll, bytesAll_append (nextB d r) l m]
theorem chainAll_append : ∀ (d : By) (l m : List Rc), chainAll d (l ++ m) = chainAll (chainAll d l) m
  | d, [], m => rfl
  | d, r :: l, m => by simp [chainAll, chainAll_append (nextB d r) l m]
/-- The records that can be read one after the other. -/
def AllP (d b : By) (l : List Rc) : Prop := ∃ q, b = bytesAll d l ++ q ∧ (∀ r ∈ l, OkR r) ∧ (readR (chainAll d l) q).2.2.2 ≠ 0
theorem AllP.uniq : ∀ {l m : List Rc} {d b : By}, AllP d b l → AllP d b m → l = m
  | [], [], _, _, _, _ => rfl
  | [], r :: m, d, b, ⟨q, hb, _, h⟩, ⟨q', hb', ho, _⟩ => by
    exfalso
    have hq : q = b := by rw [hb]; rfl
    rw [bytesAll, List.append_assoc] at hb'
    rw [chainAll, hq, hb', readR_own d (ho r (by simp))] at h
    exact h rfl
  | r :: m, [], d, b, ⟨q', hb', ho, _⟩, ⟨q, hb, _, h⟩ => by
    exfalso
    have hq : q = b := by rw [hb]; rfl
    rw [bytesAll, List.append_assoc] at hb'
    rw [chainAll, hq, hb', readR_own d (ho r (by simp))] at h
    exact h rfl
  | r :: l, s :: m, d, b, ⟨q, hb, ho, h⟩, ⟨q', hb', ho', h'⟩ => by
    have e1 : readR d b = (r, (bytesR d r).length, nextB d r, 0) := by rw [hb, bytesAll, List.append_assoc, readR_own d (ho r (by simp))]
    have e2 : readR d b = (s, (bytesR d s).length, nextB d s, 0) := by rw [hb', bytesAll, List.append_assoc, readR_own d (ho' s (by simp))]
    rw [e1] at e2
    simp only [Prod.mk.injEq, and_true] at e2
    obtain ⟨rfl, _⟩ := e2
    rw [hb, bytesAll, bytesAll, List.append_assoc, List.append_assoc] at hb'
    have hb2 := List.append_cancel_left hb'
    rw [AllP.uniq (l := l) (m := m) (d := nextB d r) (b := bytesAll (nextB d r) l ++ q) ⟨q, rfl, fun x hx => ho x (by simp [hx]), h⟩ ⟨q', hb2, fun x hx => ho' x (by simp [hx]), h'⟩]
end Go.Proofs.YtnnhenafhalobaaGreat
/-
  Digests compared.
-/
namespace Go.Proofs.YtnnhenafhalobaaGreat
set_option maxRecDepth 100000
open Go.RowKit
section
variable {N : Nat} {fr : Fr} {w : World} {ty t' : TypeId} {x y : Operand} {p q : List UInt8}
end
end Go.Proofs.YtnnhenafhalobaaGreat
/-
  Rows of numbers of any kind (one cell each), of the call's own: made, read, written, appended. No function of the program is named here.
-/
namespace Go.Proofs.YtnnhenafhalobaaGreat
set_option maxRecDepth 100000
open Go.RowKit
section
variable {k : IntKind} {w w' : World} {lo hi c b : Nat} {e e' : TypeId} {A : Option Addr} {l : List Nat} {row : Option Nat}
end
section
variable {P : Program} {fn : Func} {F : Ending → World → Prop} {N : Nat} {ks : List K} {ops : Array Oper} {tg : Tags} {l : List Oper} {fr : Fr} {w : World} {ty t e : TypeId} {z : Value} {k k1 k2 : IntKind} {pos : String} {aft : Array Edge} {gd : Option (Nat × Bool)} {d n c a j q lo hi bytes : Nat} {x y : Operand} {A X : Option Addr} {zs ms : List Nat}
end
end Go.Proofs.YtnnhenafhalobaaGreat
/-
  A byte of a row of the call's own is written; two bytes combined. No function of the program is named here.
-/
namespace Go.Proofs.YtnnhenafhalobaaGreat
set_option maxRecDepth 100000
open Go.RowKit
section
variable {P : Program} {fn : Func} {F : Ending → World → Prop} {N : Nat} {ks : List K} {ops : Array Oper} {tg : Tags} {l : List Oper} {fr : Fr} {w : World} {ty t t' : TypeId} {pos : String} {aft : Array Edge} {gd : Option (Nat × Bool)} {c j lo hi : Nat} {x y : Operand} {A : Option Addr} {bs : List UInt8} {u v : UInt8}
--@ rule load r o_loadCut
theorem o_loadCut {N g i n : Nat} {fr : Fr} {w : World} {ty t t' : TypeId} {x : Operand} {cs vs : List Value} (ha' : ∀ w, (isAgg t).run P w = .ok true w) (hs : ∀ w, (sizeOf t).run P w = .ok n w) (hx : fr.ev x = some (.pointer (some ⟨g, i, none⟩))) (hB : Blk w g t' cs) (hv : (cs.drop i).take n = vs) (hn : vs.length = n) : OpV P N fr w (.load t x) ty (.agg vs.toArray) w := by
  subst hn
  refine o_loadn ha' hs hx (fun j u hj => ?_)
  rw [add_plain, hB.cell]
  rw [← hv] at hj
  have hj2 : j < vs.length := by
    rcases Nat.lt_or_ge j vs.length with h | h
    · exact h
    · rw [List.getElem?_eq_none (by rw [List.length_take]; omega)] at hj; cases hj
  rw [List.getElem?_take_of_lt hj2, List.getElem?_drop] at hj
  exact hj
end
end Go.Proofs.YtnnhenafhalobaaGreat
/-
  Walk of headwaterkit.Pick.
-/
namespace Go.Proofs.YtnnhenafhalobaaGreat
set_option maxRecDepth 100000
open Go.RowKit
theorem tmod_neg (n m : Int) (hm : 0 < m) (h : n.tmod m < 0) : n % m = n.tmod m + m := by
  have e := Int.tmod_eq_emod (a := n) (b := m)
  have h1 := Int.emod_nonneg n (b := m) (by omega)
  split at e <;> omega
theorem tmod_pos (n m : Int) (hm : 0 < m) (h : ¬ n.tmod m < 0) : n % m = n.tmod m := by
  have e := Int.tmod_eq_emod (a := n) (b := m)
  have h2 := Int.emod_lt_of_pos n hm
  split at e <;> omega
def pick (n m : Int) : Int := if m < 1 then 0 else n % m
theorem i64_wf {n : Int} (h : -9223372036854775808 ≤ n ∧ n ≤ 9223372036854775807) : (Lit.int .i64 n).wf = true := by
  simp only [Lit.wf, Bool.and_eq_true, decide_eq_true_eq]
  exact h
theorem pick_range (n m : Int) (hm : 1 ≤ m) : 0 ≤ pick n m ∧ pick n m < m := by
  rw [pick, if_neg (by omega)]
  exact ⟨Int.emod_nonneg n (by omega), Int.emod_lt_of_pos n (by omega)⟩
theorem C_Pick (n m : Int) (wn : (Lit.int .i64 n).wf = true) (wm : (Lit.int .i64 m).wf = true) (w : World) :
    CallsR Tryz.prog 9 [.int .i64 n, .int .i64 m] w fun v w' => v = .int .i64 (pick n m) ∧ w' = w := by
  have bn := bounds_i64 wn
  have bm := bounds_i64 wm
  refine callsR Tryz.func9 rfl rfl (by kernel_rfl) rfl ?_
  refine rk_seq ?_
  refine rk_region ?_
  refine wl_p (fun _ => o_assign rfl) ?_
  refine wl_nil ?_
  refine rk_seq ?_
  refine rk_seq ?_
  refine rk_region ?_
  refine wl_p (fun _ => o_move rfl) ?_
  refine wl_p (fun _ => o_lt rfl rfl) ?_
  refine wl_nil ?_
  refine rk_if rfl (fun h => ?_) (fun h => ?_)
  · refine rk_seq ?_
    refine rk_region ?_
    refine wl_p (fun _ => o_assign rfl) ?_
    refine wl_nil ?_
    refine ret1 rfl rfl ?_
    exact ⟨by rw [pick, if_pos h], rfl⟩
  · refine rk_skip ?_
    refine rk_seq ?_
    refine rk_region ?_
    refine wl_p (fun _ => o_move rfl) ?_
    refine wl_p (fun _ => o_move rfl) ?_
    refine wl_p (fun _ => o_remz rfl rfl (by omega)) ?_
    refine wl_p (fun _ => o_assign rfl) ?_
    refine wl_nil ?_
    refine rk_seq ?_
    refine rk_seq ?_
    refine rk_region ?_
    refine wl_p (fun _ => o_move rfl) ?_
    refine wl_p (fun _ => o_lt rfl rfl) ?_
    refine wl_nil ?_
    refine rk_if rfl (fun h2 => ?_) (fun h2 => ?_)
    · have e := tmod_neg n m (by omega) h2
      have e1 := Int.emod_nonneg n (b := m) (by omega)
      have e2 := Int.emod_lt_of_pos n (b := m) (by omega)
      refine rk_region ?_
      refine wl_p (fun _ => o_move rfl) ?_
      refine wl_p (fun _ => o_move rfl) ?_
      refine wl_p (fun _ => o_add rfl rfl (by omega) (by omega)) ?_
      refine wl_p (fun _ => o_assign rfl) ?_
      refine wl_nil ?_
      refine rk_seq ?_
      refine rk_region ?_
      refine wl_p (fun _ => o_move rfl) ?_
      refine wl_p (fun _ => o_assign rfl) ?_
      refine wl_nil ?_
      refine ret1 rfl rfl ?_
      exact ⟨by rw [pick, if_neg h, tmod_neg n m (by omega) h2], rfl⟩
    · refine rk_skip ?_
      refine rk_seq ?_
      refine rk_region ?_
      refine wl_p (fun _ => o_move rfl) ?_
      refine wl_p (fun _ => o_assign rfl) ?_
      refine wl_nil ?_
      refine ret1 rfl rfl ?_
      exact ⟨by rw [pick, if_neg h, tmod_pos n m (by omega) h2], rfl⟩
theorem C_PickR {n m r : Int} (w : World) (hr : pick n m = r) (wn : (Lit.int .i64 n).wf = true) (wm : (Lit.int .i64 m).wf = true) :
    CallsR Tryz.prog 9 [.int .i64 n, .int .i64 m] w fun v w' => v = .int .i64 r ∧ Below w.heap.size w w' := by
  refine (C_Pick n m wn wm w).mono ?_
  rintro v w' ⟨rfl, rfl⟩
  exact ⟨congrArg _ hr, Below.refl _ _⟩
end Go.Proofs.YtnnhenafhalobaaGreat
/-
  The statement RecordBound: its walk; arguments opened.
-/
namespace Go.Proofs.YtnnhenafhalobaaGreat
set_option maxRecDepth 100000
open Go.RowKit
/-- A record, in memory. -/
def gRec : GoT Rc := ((gInt .u8).pair gBytes).map (fun p => (UInt8.ofNat p.1.toNat, p.2))
theorem gRec_R {w : World} {cs : List Value} {r : Rc} (h : gRec.R w cs r) : ∃ A c, cs = [.int .u8 (r.1.toNat : Int), .slice A r.2.length c] ∧ Rd w A r.2 ∧ r.2.length ≤ c ∧ c ≤ maxLen := by
  obtain ⟨⟨x, p⟩, rfl, c1, c2, rfl, ⟨rfl, hx⟩, A, c, rfl, h2, h3, h4⟩ := h
  refine ⟨A, c, ?_, h2, h3, h4⟩
  have hb := bounds_u8 hx
  have e : ((UInt8.ofNat x.toNat).toNat : Int) = x := by
    have hn : x.toNat < 256 := by simp only at hb; omega
    rw [UInt8.toNat_ofNat_of_lt' hn]; simp only at hb; omega
  show _ = [Value.int .u8 ((UInt8.ofNat x.toNat).toNat : Int), _]
  rw [e]; rfl
theorem opens_Rec : Opens Tryz.prog 37 gRec := opens_map (opens_struct Tryz.underlying37 (by kernel_rfl) (.more (opens_int Tryz.underlying5 (by kernel_rfl)) rfl (.one (opens_bytes Tryz.underlying35 Tryz.underlying5 (by kernel_rfl) (by kernel_rfl)) rfl)))
end Go.Proofs.YtnnhenafhalobaaGreat
/-
  A region that leaves the order of many operations open, each of which adds to the heap and changes nothing that was there: one step for each of them, from what it waits for; then what they all left. No function of the program is named here.
-/
namespace Go.Proofs.YtnnhenafhalobaaGreat
set_option maxRecDepth 100000
open Go.RowKit
/-- An operation that changes the world, and what is read or reckoned behind it. ds: the slots (the newest first); pre: the places of the items that it waits for; φ: what the slots hold, in which world, and between which blocks what is new lies. -/
structure Item where
  k : Nat
  ps : List (Tag × Nat)
  ds : List Nat
  pre : List Nat
  φ : List Value → World → Nat → Nat → Prop
def Item.idx (it : Item) : List Nat := it.k :: it.ps.map Prod.snd
def bitsOf : List Nat → Nat
  | [] => 0
  | k :: r => Nat.lor (2 ^ k) (bitsOf r)
def Item.mask (it : Item) : Nat := bitsOf it.idx
def nthI : List Item → Nat → Option Item
  | [], _ => none
  | it :: _, 0 => some it
  | _ :: l, k + 1 => nthI l k
theorem nthI_mem : ∀ {l : List Item} {i : Nat} {it : Item}, nthI l i = some it → it ∈ l
  | _ :: _, 0, _, h => by injection h with h; subst h; simp
  | _ :: l, i + 1, _, h => List.mem_cons_of_mem _ (nthI_mem (l := l) (i := i) h)
theorem nthI_of_mem : ∀ {l : List Item} {it : Item}, it ∈ l → ∃ i, i < l.length ∧ nthI l i = some it
  | x :: l, it, h => by
    rcases List.mem_cons.1 h with h | h
    · subst h; exact ⟨0, by simp, rfl⟩
    · obtain ⟨i, h1, h2⟩ := nthI_of_mem h
      exact ⟨i + 1, by simpa using h1, h2⟩
theorem nthI_some : ∀ {l : List Item} {i : Nat}, i < l.length → ∃ it, nthI l i = some it
  | x :: _, 0, _ => ⟨x, rfl⟩
  | _ :: l, i + 1, h => nthI_some (l := l) (i := i) (by simpa using h)
theorem bitsOf_bit {j : Nat} : ∀ {l : List Nat}, (bitsOf l).testBit j = true ↔ j ∈ l
  | [] => by simp [bitsOf]
  | k :: r => by
    show (2 ^ k ||| bitsOf r).testBit j = true ↔ _
    rw [Nat.testBit_or, Bool.or_eq_true, bitsOf_bit (l := r), Nat.testBit_two_pow, List.mem_cons]
    constructor
    · rintro (h | h)
      · exact .inl (of_decide_eq_true h).symm
      · exact .inr h
    · rintro (h | h)
      · exact .inl (by simp [h])
      · exact .inr h
def apartAll : List (Nat × Nat) → Nat → Nat → Prop
  | [], _, _ => True
  | p :: r, lo, hi => (p.2 ≤ lo ∨ hi ≤ p.1) ∧ apartAll r lo hi
/-- What the items at the places ps left. -/
def given (its : List Item) (w : World) (B : Nat) : List Nat → List (Nat × Nat) → Fr → (Fr → Prop) → Prop
  | [], _, fr, K => K fr
  | p :: r, seen, fr, K => match nthI its p with
    | none => False
    | some it => ∀ vs lo hi, it.φ vs w lo hi → B ≤ lo → lo ≤ hi → hi ≤ w.heap.size → apartAll seen lo hi → given its w B r ((lo, hi) :: seen) (it.ds.zip vs ++ fr) K
def stables : List Item → Prop
  | [] => True
  | it :: r => (∀ vs w w' lo hi, it.φ vs w lo hi → Below w.heap.size w w' → it.φ vs w' lo hi) ∧ stables r
theorem stables_spec : ∀ {l : List Item}, stables l → ∀ it ∈ l, ∀ vs w w' lo hi, it.φ vs w lo hi → Below w.heap.size w w' → it.φ vs w' lo hi
  | _ :: _, h, it, hi => by
    rcases List.mem_cons.1 hi with e | e
    · subst e; exact h.1
    · exact stables_spec h.2 it e

/-! What is checked. -/
def meetN (a b : Nat) : Bool := !Nat.beq (Nat.land a b) 0
theorem meetN_spec {a b : Nat} (h : meetN a b = true) : ∃ i, a.testBit i = true ∧ b.testBit i = true := by
  unfold meetN at h
  refine Classical.byContradiction fun hn => ?_
  have e : Nat.land a b = 0 := Nat.eq_of_testBit_eq fun i => by
    show (a &&& b).testBit i = _
    rw [Nat.testBit_and, Nat.zero_testBit]
    cases h1 : a.testBit i with
    | false => rfl
    | true => cases h2 : b.testBit i with
      | false => rfl
      | true => exact absurd ⟨i, h1, h2⟩ hn
  rw [e] at h
  simp at h
def preMask (its : List Item) : List Nat → Nat
  | [] => 0
  | p :: r => Nat.lor (match nthI its p with | some it => it.mask | none => 0) (preMask its r)
theorem preMask_bit {its : List Item} {i : Nat} : ∀ {ps : List Nat}, (preMask its ps).testBit i = true → ∃ p ∈ ps, ∃ it, nthI its p = some it ∧ i ∈ it.idx
  | p :: r, h => by
    have h' : ((match nthI its p with | some it => it.mask | none => 0) ||| preMask its r).testBit i = true := h
    rw [Nat.testBit_or, Bool.or_eq_true] at h'
    rcases h' with h' | h'
    · cases hp : nthI its p with
      | none => rw [hp] at h'; simp at h'
      | some it =>
        rw [hp] at h'
        exact ⟨p, by simp, it, hp, bitsOf_bit.1 h'⟩
    · obtain ⟨q, h1, it, h2, h3⟩ := preMask_bit h'
      exact ⟨q, by simp [h1], it, h2, h3⟩
  | [], h => by simp [preMask] at h
/-- The operations behind an item's first one. -/
def chkP (ops : Array Oper) (l : List Oper) (D A : List Nat) (L C : Nat) : List (Tag × Nat) → Nat → Bool
  | [], _ => true
  | (.p, k) :: ts, m => (!Nat.testBit L k && (rdyK D m k && freeAt ops l D m k)) && chkP ops l D A L C ts (m ||| 2 ^ k)
  | (.r, k) :: ts, m => (!Nat.testBit L k && (rdyK D m k && (freeAt ops l D m k && crossK L k (A.getD k 0) A 0))) && chkP ops l D A L C ts (m ||| 2 ^ k)
  | (.s, k) :: ts, m => (!Nat.testBit L k && (rdyK D m k && (freeAt ops l D m k && crossK (L ^^^ (L &&& C)) k (A.getD k 0) A 0))) && chkP ops l D A L C ts (m ||| 2 ^ k)
  | _ :: _, _ => false
theorem freeK_mono {ops : Array Oper} {oi : Oper} {m m' k : Nat} (hm : ∀ i, m.testBit i = true → m'.testBit i = true) : ∀ (l : List Oper) (D : List Nat) (j : Nat), freeK ops oi m k l D j = true → freeK ops oi m' k l D j = true
  | [], _, _, _ => by simp [freeK]
  | _ :: _, [], _, _ => by simp [freeK]
  | o :: l, d :: D, j, h => by
    simp only [freeK, Bool.and_eq_true, Bool.or_eq_true] at h ⊢
    refine ⟨?_, freeK_mono hm l D (j + 1) h.2⟩
    rcases h.1 with h | h | h
    · exact .inl h
    · exact .inr (.inl (hm _ h))
    · exact .inr (.inr h)
theorem freeAt_mono {ops : Array Oper} {l : List Oper} {D : List Nat} {m m' k : Nat} (hm : ∀ i, m.testBit i = true → m'.testBit i = true) (h : freeAt ops l D m k = true) : freeAt ops l D m' k = true := by
  unfold freeAt at h ⊢
  split at h
  · exact freeK_mono hm _ _ _ h
  · cases h
theorem rdyK_mono {D : List Nat} {m m' k : Nat} (hm : ∀ i, m.testBit i = true → m'.testBit i = true) (hk : m'.testBit k = false) (h : rdyK D m k = true) : rdyK D m' k = true := by
  unfold rdyK at h ⊢
  split at h
  · simp only [Bool.and_eq_true, Bool.not_eq_true'] at h ⊢
    exact ⟨hk, land_eq.2 fun i hi => hm i (land_eq.1 h.2 i hi)⟩
  · cases h
theorem bit_lor {m k j : Nat} : (m ||| 2 ^ k).testBit j = true ↔ m.testBit j = true ∨ k = j := by
  rw [Nat.testBit_or, Bool.or_eq_true, Nat.testBit_two_pow]; simp
def maskAfter : List (Tag × Nat) → Nat → Nat
  | [], m => m
  | p :: ts, m => maskAfter ts (m ||| 2 ^ p.2)
theorem maskAfter_bit {j : Nat} : ∀ {ts : List (Tag × Nat)} {m : Nat}, (maskAfter ts m).testBit j = true ↔ m.testBit j = true ∨ j ∈ ts.map Prod.snd
  | [], m => by simp [maskAfter]
  | p :: ts, m => by
    rw [maskAfter, maskAfter_bit (ts := ts), bit_lor, List.map_cons, List.mem_cons]
    constructor
    · rintro ((h | h) | h)
      · exact .inl h
      · exact .inr (.inl h.symm)
      · exact .inr (.inr h)
    · rintro (h | h | h)
      · exact .inl (.inl h)
      · exact .inl (.inr h.symm)
      · exact .inr h
theorem chk_of_chkP {ops : Array Oper} {l : List Oper} {D A : List Nat} {L C n T : Nat} : ∀ (ts : List (Tag × Nat)) (m m' : Nat), chkP ops l D A L C ts m = true → (∀ i, m.testBit i = true → m'.testBit i = true) → (∀ i, m'.testBit i = true → T.testBit i = true ∨ m.testBit i = true) → (∀ p ∈ ts, T.testBit p.2 = false) →
    chk ops l D A L C (ts ++ [(.f (maskAfter ts m') L C, n)]) m' = true
  | [], m, m', _, _, _, _ => by simp [chk, maskAfter]
  | (t, k) :: ts, m, m', h, hm, hm2, hT => by
    have hk0 : rdyK D m k = true → m'.testBit k = false := fun hr => by
      have h0 : m.testBit k = false := by
        unfold rdyK at hr
        split at hr
        · simp only [Bool.and_eq_true, Bool.not_eq_true'] at hr; exact hr.1
        · cases hr
      cases hb : m'.testBit k with
      | false => rfl
      | true =>
        rcases hm2 k hb with h1 | h1
        · rw [hT (t, k) (by simp)] at h1; cases h1
        · rw [h0] at h1; cases h1
    have rest : chkP ops l D A L C ts (m ||| 2 ^ k) = true → chk ops l D A L C (ts ++ [(.f (maskAfter ts (m' ||| 2 ^ k)) L C, n)]) (m' ||| 2 ^ k) = true := fun h2 =>
      chk_of_chkP ts _ _ h2 (fun i hi => by rw [bit_lor] at hi ⊢; exact hi.imp (hm i) id) (fun i hi => by
        rw [bit_lor] at hi ⊢
        rcases hi with hi | hi
        · rcases hm2 i hi with h1 | h1
          · exact .inl h1
          · exact .inr (.inl h1)
        · exact .inr (.inr hi)) (fun p hp => hT p (by simp [hp]))
    cases t with
    | p =>
      simp only [chkP, Bool.and_eq_true] at h
      obtain ⟨⟨h1, h2, h3⟩, h4⟩ := h
      simp only [List.cons_append, chk, maskAfter, Bool.and_eq_true]
      exact ⟨⟨h1, rdyK_mono hm (hk0 h2) h2, freeAt_mono hm h3⟩, rest h4⟩
    | r =>
      simp only [chkP, Bool.and_eq_true] at h
      obtain ⟨⟨h1, h2, h3, h5⟩, h4⟩ := h
      simp only [List.cons_append, chk, maskAfter, Bool.and_eq_true]
      exact ⟨⟨h1, rdyK_mono hm (hk0 h2) h2, freeAt_mono hm h3, h5⟩, rest h4⟩
    | s =>
      simp only [chkP, Bool.and_eq_true] at h
      obtain ⟨⟨h1, h2, h3, h5⟩, h4⟩ := h
      simp only [List.cons_append, chk, maskAfter, Bool.and_eq_true]
      exact ⟨⟨h1, rdyK_mono hm (hk0 h2) h2, freeAt_mono hm h3, h5⟩, rest h4⟩
    | l => simp [chkP] at h
    | c => simp [chkP] at h
    | f => simp [chkP] at h
    | g => simp [chkP] at h
theorem opsOf_ps {ops : Array Oper} {l : List Oper} {D A : List Nat} {L C n T : Nat} : ∀ (ts : List (Tag × Nat)) (m : Nat), chkP ops l D A L C ts m = true → opsOf ops (ts ++ [(.f T L C, n)]) = ts.map (fun p => ops[p.2]?) ∧ extra (ts ++ [(.f T L C, n)]) = n
  | [], _, _ => ⟨rfl, rfl⟩
  | (t, k) :: ts, m, h => by
    have ih := fun m h => opsOf_ps (ops := ops) (l := l) (D := D) (A := A) (L := L) (C := C) (n := n) (T := T) ts m h
    cases t with
    | p => simp only [chkP, Bool.and_eq_true] at h; have := ih _ h.2; exact ⟨by simp [opsOf, this.1], by simp [extra, this.2]⟩
    | r => simp only [chkP, Bool.and_eq_true] at h; have := ih _ h.2; exact ⟨by simp [opsOf, this.1], by simp [extra, this.2]⟩
    | s => simp only [chkP, Bool.and_eq_true] at h; have := ih _ h.2; exact ⟨by simp [opsOf, this.1], by simp [extra, this.2]⟩
    | l => simp [chkP] at h
    | c => simp [chkP] at h
    | f => simp [chkP] at h
    | g => simp [chkP] at h
def incrN : List Nat → Bool
  | [] => true
  | a :: r => r.all (fun b => Nat.blt a b) && incrN r
theorem incrN_spec : ∀ {l : List Nat}, incrN l = true → l.Pairwise (· < ·)
  | [], _ => .nil
  | a :: r, h => by
    simp only [incrN, Bool.and_eq_true, List.all_eq_true] at h
    exact List.pairwise_cons.2 ⟨fun b hb => by have := h.1 b hb; simpa using this, incrN_spec h.2⟩
def chkI (ops : Array Oper) (l : List Oper) (its : List Item) (D A : List Nat) (L C m : Nat) : List Item → Nat → Bool
  | [], _ => true
  | it :: r, i => (Nat.testBit L it.k && (it.pre.all (fun p => Nat.blt p i && meetN (A.getD it.k 0) (preMask its [p])) && (incrN it.pre && (rdyK D (m ||| preMask its it.pre) it.k && (it.idx.all (fun j => Nat.blt j l.length) && chkP ops l D A L C it.ps (m ||| preMask its it.pre ||| 2 ^ it.k)))))) && chkI ops l its D A L C m r (i + 1)
def disjN : List Item → Nat → Bool
  | [], _ => true
  | it :: r, m => !meetN it.mask m && disjN r (Nat.lor m it.mask)
def disjD : List Item → List Nat → Bool
  | [], _ => true
  | it :: r, ds => it.ds.all (fun d => !inN d ds) && disjD r (it.ds ++ ds)
def chkJ (its : List Item) (D A : List Nat) (m : Nat) : List Nat → Nat → Bool
  | [], _ => true
  | d :: r, j => (Nat.testBit m j || (its.any (fun it => Nat.beq it.k j || (inN j (it.ps.map Prod.snd) && meetN d it.mask)) || its.all (fun it => meetN (A.getD j 0) it.mask && !Nat.testBit it.mask j))) && chkJ its D A m r (j + 1)
def fuelOf (T : Nat) : List Item → Nat
  | [] => 0
  | it :: r => (bif Nat.testBit T it.k then 0 else 1 + it.ps.length) + fuelOf T r
def allMask (m : Nat) : List Item → Nat
  | [] => m
  | it :: r => allMask (Nat.lor m it.mask) r
def chkC (ops : List Oper) (its : List Item) (all : List Nat) (D A : List Nat) (L C m n : Nat) (fr : Fr) (ordR : List Nat) (tsR : List (Tag × Nat)) : Bool :=
  chkI ops.toArray ops its D A L C m its 0 && (disjN its m && (disjD its (fr.map Prod.fst) && (chkJ its D A m D 0 && (incrN all && (all.all (fun p => Nat.blt p its.length) &&
    (Nat.beq n (((inOrder ops ordR).length + extra tsR) + fuelOf m its) && chk ops.toArray ops D A L C tsR (allMask m its)))))))

/-! Frames. -/
theorem Rep.append {N : Nat} {a : Act} {f1 f2 : Fr} (h1 : Rep N a f1) (h2 : Rep N a f2) : Rep N a (f1 ++ f2) := ⟨h1.size, h1.defers, fun t v h => by
  rw [Fr.get_append] at h
  cases hc : f1.get t with
  | some u => rw [hc] at h; exact h1.get t v (hc.trans h)
  | none => rw [hc] at h; exact h2.get t v h⟩
/-- All slots as they are. -/
theorem dump_ex {N : Nat} {a : Act} {fr : Fr} (h : Rep N a fr) : ∃ fo : Fr, Rep N a fo ∧ ∀ t v, a.tmps[t]? = some v → fo.get t = some v := by
  have key : ∀ (k : Nat), ∃ fo : Fr, (∀ t v, fo.get t = some v → a.tmps[t]? = some v) ∧ ∀ t v, t < k → a.tmps[t]? = some v → fo.get t = some v := by
    intro k
    induction k with
    | zero => exact ⟨[], (fun t v h => by cases h), fun t v h => absurd h (Nat.not_lt_zero _)⟩
    | succ k ih =>
      obtain ⟨fo, h1, h2⟩ := ih
      cases hk : a.tmps[k]? with
      | none =>
        refine ⟨fo, h1, fun t v ht hv => ?_⟩
        rcases Nat.lt_or_ge t k with h | h
        · exact h2 t v h hv
        · obtain rfl : t = k := by omega
          rw [hk] at hv; cases hv
      | some u =>
        refine ⟨(k, u) :: fo, fun t v hv => ?_, fun t v ht hv => ?_⟩
        · rw [Fr.get_cons] at hv
          by_cases e : k = t
          · subst e; rw [if_pos rfl] at hv; rw [hk]; exact hv
          · rw [if_neg e] at hv; exact h1 t v hv
        · rw [Fr.get_cons]
          by_cases e : k = t
          · subst e; rw [if_pos rfl, ← hk]; exact hv
          · rw [if_neg e]; exact h2 t v (by omega) hv
  obtain ⟨fo, h1, h2⟩ := key a.tmps.size
  exact ⟨fo, ⟨h.size, h.defers, h1⟩, fun t v hv => h2 t v (Array.getElem?_eq_some_iff.1 hv).1 hv⟩
theorem zip_get {t : Nat} {v : Value} : ∀ {ds : List Nat} {vs : List Value}, Fr.get (ds.zip vs) t = some v → t ∈ ds
  | [], _, h => by simp [Fr.get] at h
  | _ :: _, [], h => by simp [Fr.get] at h
  | d :: ds, u :: vs, h => by
    rw [List.zip_cons_cons, Fr.get_cons] at h
    by_cases e : d = t
    · subst e; simp
    · rw [if_neg e] at h; exact List.mem_cons_of_mem _ (zip_get h)
section
variable {its : List Item} {w : World} {B N : Nat} {a : Act} {lo hi : Nat → Nat} {vv : Nat → List Value}
theorem apartAll_of {l h : Nat} : ∀ {seen : List (Nat × Nat)}, (∀ q ∈ seen, q.2 ≤ l ∨ h ≤ q.1) → apartAll seen l h
  | [], _ => trivial
  | q :: r, hq => ⟨hq q (by simp), apartAll_of (fun q' h' => hq q' (by simp [h']))⟩
theorem given_elim : ∀ (ps : List Nat) (seen : List (Nat × Nat)) (fr : Fr) (K : Fr → Prop), Rep N a fr →
    (∀ p ∈ ps, ∃ it, nthI its p = some it ∧ Rep N a (it.ds.zip (vv p)) ∧ it.φ (vv p) w (lo p) (hi p) ∧ B ≤ lo p ∧ lo p ≤ hi p ∧ hi p ≤ w.heap.size) →
    ps.Pairwise (fun p q => hi p ≤ lo q ∨ hi q ≤ lo p) → (∀ q ∈ seen, ∀ p ∈ ps, q.2 ≤ lo p ∨ hi p ≤ q.1) → given its w B ps seen fr K → ∃ fr', Rep N a fr' ∧ (∀ t, fr'.get t = none → fr.get t = none) ∧ K fr'
  | [], _, fr, K, hr, _, _, _, h => ⟨fr, hr, fun _ h => h, h⟩
  | p :: r, seen, fr, K, hr, hp, hpw, hs, h => by
    obtain ⟨it, h1, h2, h3, h4, h5, h6⟩ := hp p (by simp)
    simp only [given, h1] at h
    have h7 := h (vv p) (lo p) (hi p) h3 h4 h5 h6 (apartAll_of (fun q hq => hs q hq p (by simp)))
    obtain ⟨hpw1, hpw2⟩ := List.pairwise_cons.1 hpw
    obtain ⟨fr', k1, k2, k3⟩ := given_elim r ((lo p, hi p) :: seen) _ K (h2.append hr) (fun q hq => hp q (by simp [hq])) hpw2 (fun q hq p' hp' => by
      rcases List.mem_cons.1 hq with e | e
      · subst e; exact hpw1 p' hp'
      · exact hs q e p' (by simp [hp'])) h7
    refine ⟨fr', k1, fun t ht => ?_, k3⟩
    have := k2 t ht
    rw [Fr.get_append] at this
    cases hc : Fr.get (it.ds.zip (vv p)) t with
    | some u => rw [hc] at this; cases this
    | none => rw [hc] at this; exact this
end
theorem allMask_bit {j : Nat} : ∀ {its : List Item} {m : Nat}, (allMask m its).testBit j = true ↔ m.testBit j = true ∨ ∃ it ∈ its, j ∈ it.idx
  | [], m => by simp [allMask]
  | it :: r, m => by
    rw [allMask, allMask_bit (its := r), show (Nat.lor m it.mask).testBit j = (m.testBit j || it.mask.testBit j) from Nat.testBit_or .., Bool.or_eq_true, show it.mask.testBit j = true ↔ j ∈ it.idx from bitsOf_bit]
    constructor
    · rintro ((h | h) | ⟨x, h1, h2⟩)
      · exact .inl h
      · exact .inr ⟨it, by simp, h⟩
      · exact .inr ⟨x, by simp [h1], h2⟩
    · rintro (h | ⟨x, h1, h2⟩)
      · exact .inl (.inl h)
      · rcases List.mem_cons.1 h1 with e | e
        · subst e; exact .inl (.inr h2)
        · exact .inr ⟨x, e, h2⟩
theorem disjN_spec : ∀ {its : List Item} {m : Nat}, disjN its m = true → (∀ it ∈ its, ∀ j ∈ it.idx, m.testBit j = false) ∧ ∀ i i' it it', nthI its i = some it → nthI its i' = some it' → i ≠ i' → ∀ j ∈ it.idx, j ∉ it'.idx
  | [], m, _ => ⟨fun _ h => absurd h (by simp), fun i _ _ _ h => by cases i <;> cases h⟩
  | x :: r, m, h => by
    simp only [disjN, Bool.and_eq_true, Bool.not_eq_true'] at h
    obtain ⟨h1, h2⟩ := h
    obtain ⟨k1, k2⟩ := disjN_spec h2
    have kx : ∀ j ∈ x.idx, m.testBit j = false := fun j hj => by
      cases hb : m.testBit j with
      | false => rfl
      | true =>
        have : meetN x.mask m = true := by
          unfold meetN
          simp only [Bool.not_eq_true']
          cases hz : Nat.beq (Nat.land x.mask m) 0 with
          | false => rfl
          | true =>
            have e := Nat.eq_of_beq_eq_true hz
            have : (x.mask &&& m).testBit j = true := by rw [Nat.testBit_and, hb, show x.mask.testBit j = true from bitsOf_bit.2 hj]; rfl
            rw [show x.mask &&& m = 0 from e] at this
            simp at this
        rw [h1] at this; cases this
    have kr : ∀ it ∈ r, ∀ j ∈ it.idx, m.testBit j = false ∧ j ∉ x.idx := fun it hit j hj => by
      have := k1 it hit j hj
      rw [show (Nat.lor m x.mask).testBit j = (m.testBit j || x.mask.testBit j) from Nat.testBit_or .., Bool.or_eq_false_iff] at this
      refine ⟨this.1, fun hx => ?_⟩
      have h3 : x.mask.testBit j = true := bitsOf_bit.2 hx
      rw [this.2] at h3; cases h3
    refine ⟨fun it hit j hj => ?_, fun i i' it it' hi hi' hne j hj hj' => ?_⟩
    · rcases List.mem_cons.1 hit with e | e
      · subst e; exact kx j hj
      · exact (kr it e j hj).1
    · cases i with
      | zero =>
        injection hi with hi; subst hi
        cases i' with
        | zero => exact hne rfl
        | succ i' => exact (kr it' (nthI_mem (l := r) (i := i') hi') j hj').2 hj
      | succ i =>
        cases i' with
        | zero => injection hi' with hi'; subst hi'; exact (kr it (nthI_mem (l := r) (i := i) hi) j hj).2 hj'
        | succ i' => exact k2 i i' it it' hi hi' (by omega) j hj hj'
theorem inN_iff {t : Nat} : ∀ {l : List Nat}, inN t l = true ↔ t ∈ l
  | [] => by simp [inN]
  | a :: l => by
    rw [List.mem_cons, ← inN_iff (l := l), inN]
    cases hb : Nat.beq a t with
    | true => simp [(Nat.eq_of_beq_eq_true hb).symm]
    | false => simp [show t ≠ a from fun e => by subst e; simp at hb]
theorem disjD_spec : ∀ {its : List Item} {ds : List Nat}, disjD its ds = true → (∀ it ∈ its, ∀ d ∈ it.ds, d ∉ ds) ∧ ∀ i i' it it', nthI its i = some it → nthI its i' = some it' → i ≠ i' → ∀ d ∈ it.ds, d ∉ it'.ds
  | [], _, _ => ⟨fun _ h => absurd h (by simp), fun i _ _ _ h => by cases i <;> cases h⟩
  | x :: r, ds, h => by
    simp only [disjD, Bool.and_eq_true, List.all_eq_true, Bool.not_eq_true'] at h
    obtain ⟨h1, h2⟩ := h
    obtain ⟨k1, k2⟩ := disjD_spec h2
    have kx : ∀ d ∈ x.ds, d ∉ ds := fun d hd hm => by have := h1 d hd; rw [inN_iff.2 hm] at this; cases this
    have kr : ∀ it ∈ r, ∀ d ∈ it.ds, d ∉ x.ds ∧ d ∉ ds := fun it hit d hd => by
      have := k1 it hit d hd
      rw [List.mem_append, not_or] at this
      exact this
    refine ⟨fun it hit d hd => ?_, fun i i' it it' hi hi' hne d hd hd' => ?_⟩
    · rcases List.mem_cons.1 hit with e | e
      · subst e; exact kx d hd
      · exact (kr it e d hd).2
    · cases i with
      | zero =>
        injection hi with hi; subst hi
        cases i' with
        | zero => exact hne rfl
        | succ i' => exact (kr it' (nthI_mem (l := r) (i := i') hi') d hd').1 hd
      | succ i =>
        cases i' with
        | zero => injection hi' with hi'; subst hi'; exact (kr it (nthI_mem (l := r) (i := i) hi) d hd).1 hd'
        | succ i' => exact k2 i i' it it' hi hi' (by omega) d hd hd'
theorem nthOp_eq : ∀ (l : List Oper) (k : Nat), nthOp l k = l[k]?
  | [], _ => rfl
  | _ :: _, 0 => rfl
  | _ :: l, k + 1 => by rw [nthOp, nthOp_eq l k]; simp
theorem inOrder_map {ops : List Oper} : ∀ {ks : List Nat}, (∀ j ∈ ks, j < ops.length) → (inOrder ops ks).map some = ks.map (fun k => ops.toArray[k]?)
  | [], _ => rfl
  | k :: ks, h => by
    have hk : k < ops.length := h k (by simp)
    rw [inOrder, nthOp_eq, List.getElem?_eq_getElem hk]
    simp only [List.map_cons]
    rw [inOrder_map (fun j hj => h j (by simp [hj]))]
    simp [hk]
theorem fuel_step {T T2 : Nat} : ∀ {its : List Item} {i : Nat} {it : Item}, nthI its i = some it → T.testBit it.k = false → T2.testBit it.k = true → (∀ i' it', nthI its i' = some it' → i' ≠ i → T2.testBit it'.k = T.testBit it'.k) → fuelOf T its = fuelOf T2 its + (1 + it.ps.length)
  | x :: r, 0, it, h, h1, h2, h3 => by
    injection h with h; subst h
    have hr : ∀ (r : List Item), (∀ y ∈ r, T2.testBit y.k = T.testBit y.k) → fuelOf T r = fuelOf T2 r := fun r hy => by
      induction r with
      | nil => rfl
      | cons y r ih => rw [fuelOf, fuelOf, hy y (by simp), ih (fun z hz => hy z (by simp [hz]))]
    rw [fuelOf, fuelOf, h1, h2, hr r (fun y hy => by obtain ⟨j, _, hj⟩ := nthI_of_mem hy; exact h3 (j + 1) y hj (by omega))]
    simp only [cond_true, cond_false]; omega
  | x :: r, i + 1, it, h, h1, h2, h3 => by
    have := fuel_step (its := r) (i := i) h h1 h2 (fun i' it' hi' hne => h3 (i' + 1) it' hi' (by omega))
    rw [fuelOf, fuelOf, this, h3 0 x rfl (by omega)]; omega
theorem fuel_zero {T : Nat} : ∀ {its : List Item}, (∀ it ∈ its, T.testBit it.k = true) → fuelOf T its = 0
  | [], _ => rfl
  | x :: r, h => by rw [fuelOf, h x (by simp), fuel_zero (fun y hy => h y (by simp [hy]))]; rfl
theorem chkI_spec {ops : Array Oper} {l : List Oper} {its : List Item} {D A : List Nat} {L C m : Nat} : ∀ {r : List Item} {i0 : Nat}, chkI ops l its D A L C m r i0 = true → ∀ i it, nthI r i = some it →
    L.testBit it.k = true ∧ (∀ p ∈ it.pre, p < i0 + i ∧ ∃ j, (A.getD it.k 0).testBit j = true ∧ ∃ x, nthI its p = some x ∧ j ∈ x.idx) ∧ it.pre.Pairwise (· < ·) ∧ rdyK D (m ||| preMask its it.pre) it.k = true ∧ (∀ j ∈ it.idx, j < l.length) ∧ chkP ops l D A L C it.ps (m ||| preMask its it.pre ||| 2 ^ it.k) = true
  | x :: r, i0, h, i, it, hi => by
    simp only [chkI, Bool.and_eq_true, List.all_eq_true] at h
    obtain ⟨⟨h1, h2, h3, h4, h5, h6⟩, h7⟩ := h
    cases i with
    | zero =>
      injection hi with hi; subst hi
      refine ⟨h1, fun p hp => ?_, incrN_spec h3, h4, fun j hj => by have := h5 j hj; simpa using this, h6⟩
      obtain ⟨h8, h9⟩ := h2 p hp
      obtain ⟨j, k1, k2⟩ := meetN_spec h9
      obtain ⟨q, hq, y, hy, hj⟩ := preMask_bit k2
      rw [List.mem_singleton] at hq; subst hq
      exact ⟨by simpa using h8, j, k1, y, hy, hj⟩
    | succ i =>
      have := chkI_spec h7 i it hi
      refine ⟨this.1, fun p hp => ?_, this.2.2⟩
      obtain ⟨k1, k2⟩ := this.2.1 p hp
      exact ⟨by omega, k2⟩
theorem chkJ_spec {its : List Item} {D A : List Nat} {m : Nat} : ∀ {r : List Nat} {j0 : Nat}, chkJ its D A m r j0 = true → ∀ j d, r[j]? = some d →
    m.testBit (j0 + j) = true ∨ (∃ it ∈ its, it.k = j0 + j ∨ (j0 + j ∈ it.ps.map Prod.snd ∧ ∃ b, d.testBit b = true ∧ b ∈ it.idx)) ∨ ∀ it ∈ its, (∃ b, (A.getD (j0 + j) 0).testBit b = true ∧ b ∈ it.idx) ∧ j0 + j ∉ it.idx
  | [], _, _, j, d, hd => by simp at hd
  | d0 :: r, j0, h, j, d, hd => by
    simp only [chkJ, Bool.and_eq_true, Bool.or_eq_true, List.any_eq_true, List.all_eq_true] at h
    cases j with
    | zero =>
      simp only [List.getElem?_cons_zero, Option.some.injEq] at hd
      subst hd
      rw [Nat.add_zero]
      rcases h.1 with h1 | ⟨it, h1, h2⟩ | h1
      · exact .inl h1
      · refine .inr (.inl ⟨it, h1, ?_⟩)
        rcases h2 with h2 | ⟨h2, h3⟩
        · exact .inl (Nat.eq_of_beq_eq_true h2)
        · obtain ⟨b, k1, k2⟩ := meetN_spec h3
          exact .inr ⟨inN_iff.1 h2, b, k1, bitsOf_bit.1 k2⟩
      · refine .inr (.inr fun it hit => ?_)
        have h2 := h1 it hit
        simp only [Bool.and_eq_true, Bool.not_eq_true'] at h2
        obtain ⟨b, k1, k2⟩ := meetN_spec h2.1
        refine ⟨⟨b, k1, bitsOf_bit.1 k2⟩, fun hm => ?_⟩
        rw [show it.mask.testBit j0 = true from bitsOf_bit.2 hm] at h2
        cases h2.2
    | succ j =>
      have := chkJ_spec h.2 j d (by simpa using hd)
      rw [show j0 + (j + 1) = j0 + 1 + j by omega]
      exact this
/-- Where the operations at its have come to (those whose bits are in T). -/
structure ConcSt (its : List Item) (N : Nat) (fr : Fr) (w0 : World) (m T : Nat) (a : Act) (w : World) (lo hi : Nat → Nat) (vv : Nat → List Value) : Prop where
  rep : Rep N a fr
  bel : Below w0.heap.size w0 w
  low : ∀ j, m.testBit j = true → T.testBit j = true
  up : ∀ j, T.testBit j = true → m.testBit j = true ∨ ∃ it ∈ its, j ∈ it.idx
  whole : ∀ it ∈ its, ∀ j ∈ it.idx, T.testBit j = T.testBit it.k
  f : ∀ i it, nthI its i = some it → T.testBit it.k = true → Rep N a (it.ds.zip (vv i)) ∧ it.φ (vv i) w (lo i) (hi i) ∧ w0.heap.size ≤ lo i ∧ lo i ≤ hi i ∧ hi i ≤ w.heap.size
  ap : ∀ i j it it', nthI its i = some it → nthI its j = some it' → T.testBit it.k = true → T.testBit it'.k = true → i ≠ j → hi i ≤ lo j ∨ hi j ≤ lo i
section
variable {P : Program} {fn : Func} {F : Ending → World → Prop} {N : Nat} {ks : List K} {ops : List Oper} {fr : Fr} {w : World} {row : Rw} {L C : Nat}
/-- The step of an item: what it waits for is there; others may have come in between. -/
def stepOf (P : Program) (fn : Func) (F : Ending → World → Prop) (N : Nat) (ks : List K) (ops : List Oper) (fr : Fr) (w : World) (row : Rw) (L C : Nat) (its : List Item) (it : Item) : Prop :=
  ∀ (w' : World), Below w.heap.size w w' → ∀ (fo : Fr) (T T2 n2 : Nat), given its w' w.heap.size it.pre [] (fr ++ fo) fun fr' =>
    (∀ (vs : List Value) (w'' : World), it.φ vs w'' w'.heap.size w''.heap.size → Below w'.heap.size w' w'' → WL P fn F N ks ops.toArray (some (row, [(.f T2 L C, n2)])) [] (it.ds.zip vs ++ fr') w'') →
    WL P fn F N ks ops.toArray (some (row, (.g T L C, it.k) :: (it.ps ++ [(.f T2 L C, n2)]))) (inOrder ops it.idx) fr' w'
def stepsOf (P : Program) (fn : Func) (F : Ending → World → Prop) (N : Nat) (ks : List K) (ops : List Oper) (fr : Fr) (w : World) (row : Rw) (L C : Nat) (its : List Item) : List Item → Prop
  | [] => True
  | it :: r => stepOf P fn F N ks ops fr w row L C its it ∧ stepsOf P fn F N ks ops fr w row L C its r
theorem stepsOf_spec {its : List Item} : ∀ {r : List Item}, stepsOf P fn F N ks ops fr w row L C its r → ∀ it ∈ r, stepOf P fn F N ks ops fr w row L C its it
  | _ :: _, h, it, hi => by
    rcases List.mem_cons.1 hi with e | e
    · subst e; exact h.1
    · exact stepsOf_spec h.2 it e
theorem wl_conc {m n : Nat} (its : List Item) (all D A ordR : List Nat) (tsR : List (Tag × Nat)) (hD : ops.map (dmask .any) = D) (hA : ancs .any ops [] = A) (hc : chkC ops its all D A L C m n fr ordR tsR = true)
    (hlR : (inOrder ops ordR).map some = opsOf ops.toArray tsR) (hst : stables its) (hstep : stepsOf P fn F N ks ops fr w row L C its its)
    (hend : ∀ w', Below w.heap.size w w' → given its w' w.heap.size all [] fr fun fr' => WL P fn F N ks ops.toArray (some (row, tsR)) (inOrder ops ordR) fr' w') :
    WL P fn F N ks ops.toArray (some (row, [(.f m L C, n)])) [] fr w := by
  simp only [chkC, Bool.and_eq_true, List.all_eq_true] at hc
  obtain ⟨c1, c2, c3, c4, c5, c6, c8, c9⟩ := hc
  have hI := fun i it hi => chkI_spec c1 i it hi
  have hJ := fun j d hd => chkJ_spec c4 j d hd
  obtain ⟨d1, d2⟩ := disjN_spec c2
  obtain ⟨e1, e2⟩ := disjD_spec c3
  have hstab := stables_spec hst
  have hsteps := stepsOf_spec hstep
  obtain ⟨base, hbase⟩ : ∃ b, (inOrder ops ordR).length + extra tsR = b := ⟨_, rfl⟩
  have hn := Nat.eq_of_beq_eq_true c8
  rw [hbase] at hn
  subst hn
  have hfr : ∀ it ∈ its, ∀ d ∈ it.ds, fr.get d = none := fun it hit d hd => by
    refine (Fr.get_none_iff fr d).2 ?_
    cases hb : inN d (fr.map Prod.fst) with
    | false => rfl
    | true => exact absurd (inN_iff.1 hb) (e1 it hit d hd)
  have main : ∀ (f T : Nat) (a : Act) (w' : World) (lo hi : Nat → Nat) (vv : Nat → List Value), f = fuelOf T its → ConcSt its N fr w m T a w' lo hi vv → Left P (kpost P fn F ks) ops.toArray (some (row, [(.f T L C, base + f)])) [] a w' := by
    intro f
    induction f using Nat.strongRecOn with
    | _ f ih =>
      intro T a w' lo hi vv hf hS
      intro D' A' L' C' listed m' hm _ hchk
      unfold chk at hchk
      simp only [Bool.and_eq_true] at hchk
      obtain ⟨hm1, hL1, hC1⟩ := hchk
      obtain rfl := Nat.eq_of_beq_eq_true hm1
      obtain rfl := Nat.eq_of_beq_eq_true hL1
      obtain rfl := Nat.eq_of_beq_eq_true hC1
      obtain rfl : D' = D := by rw [hm.D, ← hD]
      obtain rfl : A' = A := by rw [hm.A, ← hA]
      show wpMix P .any ops.toArray _ _ _ row (0 + (base + f)) listed a w'
      rw [Nat.zero_add]
      have hbefore : ∀ j i, (A'.getD j 0).testBit i = true → Before .any ops.toArray i j := by
        rw [hm.A]
        exact ancs_spec ops.toArray.toList [] (fun j => by simp) (fun j i hb => by simp at hb)
      -- what is ahead of a ready operation is through
      have hahead : ∀ j ∈ Region.ready .any ops.toArray listed, ∀ b, (A'.getD j 0).testBit b = true → b = j ∨ m'.testBit b = true := fun j hj b hb => by
        by_cases e : b = j
        · exact .inl e
        · refine .inr ?_
          have hlt : j < listed.size := by
            have h0 := (mem_ready.1 hj).1
            rcases Nat.lt_or_ge j listed.size with h | h
            · exact h
            · simp [Array.getElem?_eq_none h] at h0
          have h1 := hbefore j b hb _ (hm.closed.set hj) (by simp [hlt])
          rw [getD_set_ne false (Ne.symm e)] at h1
          rw [← hm.bits]; exact h1
      by_cases hall : ∀ it ∈ its, m'.testBit it.k = true
      · -- all through
        have hf0 : f = 0 := by rw [hf, fuel_zero hall]
        subst hf0
        have hT : m' = allMask m its := Nat.eq_of_testBit_eq fun j => by
          cases h1 : m'.testBit j with
          | true => exact (allMask_bit.2 (hS.up j h1)).symm
          | false =>
            cases h2 : (allMask m its).testBit j with
            | false => rfl
            | true =>
              rcases allMask_bit.1 h2 with h3 | ⟨it, h3, h4⟩
              · rw [hS.low j h3] at h1; cases h1
              · rw [hS.whole it h3 j h4, hall it h3] at h1; cases h1
        have hpos : ∀ p ∈ all, ∃ it, nthI its p = some it := fun p hp => by
          have hlt : p < its.length := by have := c6 p hp; simpa using this
          exact nthI_some hlt
        obtain ⟨fr', k1, _, k2⟩ := given_elim (its := its) (lo := lo) (hi := hi) (vv := vv) all [] fr _ hS.rep (fun p hp => by
          obtain ⟨it, hit⟩ := hpos p hp
          obtain ⟨h1, h2, h3, h4, h5⟩ := hS.f p it hit (hall it (nthI_mem hit))
          exact ⟨it, hit, h1, h2, h3, h4, h5⟩) (List.Pairwise.imp_of_mem (fun {p q} hp hq hpq => by
            obtain ⟨it, hit⟩ := hpos p hp
            obtain ⟨it', hit'⟩ := hpos q hq
            exact hS.ap p q it it' hit hit' (hall it (nthI_mem hit)) (hall it' (nthI_mem hit')) (by omega)) (incrN_spec c5)) (fun q hq => by cases hq) (hend w' hS.bel)
        have := left_elim (k2 a k1) hm hlR (by rw [hT]; exact c9)
        rw [hbase] at this
        simpa using this
      · -- the first item that is left is ready
        obtain ⟨i0, it0, hi0, hu0, hmin⟩ : ∃ i it, nthI its i = some it ∧ m'.testBit it.k = false ∧ ∀ j, j < i → ∀ x, nthI its j = some x → m'.testBit x.k = true := by
          refine Classical.byContradiction fun hno => hall fun it hit => ?_
          obtain ⟨i, _, hi'⟩ := nthI_of_mem hit
          have key : ∀ i it, nthI its i = some it → m'.testBit it.k = true := by
            intro i
            induction i using Nat.strongRecOn with
            | _ i ihi =>
              intro it hit
              cases hb : m'.testBit it.k with
              | true => rfl
              | false => exact absurd ⟨i, it, hit, hb, fun j hj x hx => ihi j hj x hx⟩ hno
          exact key i it hi'
        have hsub : ∀ it, it ∈ its → (∀ p ∈ it.pre, ∀ x, nthI its p = some x → m'.testBit x.k = true) → ∀ j, (m ||| preMask its it.pre).testBit j = true → m'.testBit j = true := fun it hit hp j hj => by
          rw [Nat.testBit_or, Bool.or_eq_true] at hj
          rcases hj with hj | hj
          · exact hS.low j hj
          · obtain ⟨p, h1, x, h2, h3⟩ := preMask_bit hj
            rw [hS.whole x (nthI_mem h2) j h3]
            exact hp p h1 x h2
        have hrdy0 : it0.k ∈ Region.ready .any ops.toArray listed := hm.ready (rdyK_mono (hsub it0 (nthI_mem hi0) fun p hp x hx => hmin p (by have := ((hI i0 it0 hi0).2.1 p hp).1; omega) x hx) hu0 (hI i0 it0 hi0).2.2.2.1)
        obtain ⟨f', hf'⟩ : ∃ f', f = f' + 1 := by
          have := fuel_step (T := m') (T2 := m' ||| it0.mask) hi0 hu0 (by rw [Nat.testBit_or, show it0.mask.testBit it0.k = true from bitsOf_bit.2 (by simp [Item.idx])]; simp) (fun i' it' hi' hne => by
            rw [Nat.testBit_or]
            cases hb : it0.mask.testBit it'.k with
            | false => simp
            | true => exact absurd (bitsOf_bit.1 hb) (d2 i' i0 it' it0 hi' hi0 hne it'.k (by simp [Item.idx])))
          exact ⟨fuelOf (m' ||| it0.mask) its + it0.ps.length, by omega⟩
        rw [hf', ← Nat.add_assoc]
        refine ⟨fun h => (by rw [h] at hrdy0; cases hrdy0), fun j hj => ?_⟩
        -- which one it is
        obtain ⟨hjun, oj, hoj, hjall⟩ := mem_ready.1 hj
        have hjlt : j < ops.toArray.size := (Array.getElem?_eq_some_iff.1 hoj).1
        have hju : m'.testBit j = false := by rw [← hm.getD hjlt]; exact hjun
        have hDj := hm.dAt hoj
        obtain ⟨i, it, hi', rfl⟩ : ∃ i it, nthI its i = some it ∧ it.k = j := by
          rcases hJ j _ hDj with h1 | ⟨it, h1, h2⟩ | h1
          · rw [Nat.zero_add] at h1; rw [hS.low j h1] at hju; cases hju
          · obtain ⟨i, _, hi'⟩ := nthI_of_mem h1
            rw [Nat.zero_add] at h2
            rcases h2 with h2 | ⟨h2, b, h3, h4⟩
            · exact ⟨i, it, hi', h2⟩
            · exfalso
              have h5 : m'.testBit b = true := by
                obtain ⟨e, he, hb, rfl⟩ := dmask_bit.1 h3
                rw [← hm.bits]; exact hjall e he hb
              have h6 := hS.whole it h1 b h4
              have h7 := hS.whole it h1 j (by simp [Item.idx, h2])
              rw [h5] at h6; rw [← h6, hju] at h7; cases h7
          · exfalso
            rw [Nat.zero_add] at h1
            obtain ⟨⟨b, h2, h3⟩, h5⟩ := h1 it0 (nthI_mem hi0)
            rcases hahead j hj b h2 with h4 | h4
            · subst h4; exact h5 h3
            · rw [hS.whole it0 (nthI_mem hi0) b h3, hu0] at h4; cases h4
        obtain ⟨q1, q2, q3, q4, q5, q6⟩ := hI i it hi'
        have hit := nthI_mem hi'
        rw [if_pos q1]
        have hpre : ∀ p ∈ it.pre, ∃ x, nthI its p = some x ∧ m'.testBit x.k = true := fun p hp => by
          obtain ⟨h1, b, h2, x, h3, h4⟩ := q2 p hp
          refine ⟨x, h3, ?_⟩
          rcases hahead it.k hj b h2 with h5 | h5
          · subst h5; exact absurd h4 (d2 i p it x hi' h3 (by omega) _ (by simp [Item.idx]))
          · rw [← hS.whole x (nthI_mem h3) b h4]; exact h5
        have hsb := hsub it hit (fun p hp x hx => by
          obtain ⟨y, h1, h2⟩ := hpre p hp
          rw [hx] at h1; injection h1 with h1; rw [h1]; exact h2)
        obtain ⟨fo, hfo, hfo2⟩ := dump_ex hS.rep
        obtain ⟨T2, hT2⟩ : ∃ T2, maskAfter it.ps (m' ||| 2 ^ it.k) = T2 := ⟨_, rfl⟩
        have hT2b : ∀ j, T2.testBit j = true ↔ m'.testBit j = true ∨ j ∈ it.idx := fun j => by
          rw [← hT2, maskAfter_bit, bit_lor, Item.idx, List.mem_cons]
          constructor
          · rintro ((h | h) | h)
            · exact .inl h
            · exact .inr (.inl h.symm)
            · exact .inr (.inr h)
          · rintro (h | h | h)
            · exact .inl (.inl h)
            · exact .inl (.inr h.symm)
            · exact .inr h
        have hT2k : T2.testBit it.k = true := (hT2b _).2 (.inr (by simp [Item.idx]))
        have hT2o : ∀ i' it', nthI its i' = some it' → i' ≠ i → ∀ j ∈ it'.idx, T2.testBit j = m'.testBit j := fun i' it' hi2 hne j hj => by
          cases hb : m'.testBit j with
          | true => exact (hT2b j).2 (.inl hb)
          | false =>
            cases hb2 : T2.testBit j with
            | false => rfl
            | true =>
              rcases (hT2b j).1 hb2 with h | h
              · rw [hb] at h; cases h
              · exact absurd h (d2 i' i it' it hi2 hi' hne j hj)
        have hfuel := fuel_step (T := m') (T2 := T2) hi' hju hT2k (fun i' it' hi2 hne => hT2o i' it' hi2 hne it'.k (by simp [Item.idx]))
        obtain ⟨fr', k1, k2, k3⟩ := given_elim (its := its) (lo := lo) (hi := hi) (vv := vv) it.pre [] (fr ++ fo) _ (hS.rep.append hfo) (fun p hp => by
          obtain ⟨x, hx, hb⟩ := hpre p hp
          obtain ⟨h1, h2, h3, h4, h5⟩ := hS.f p x hx hb
          exact ⟨x, hx, h1, h2, h3, h4, h5⟩) (List.Pairwise.imp_of_mem (fun {p q} hp hq hpq => by
            obtain ⟨x, hx, hb⟩ := hpre p hp
            obtain ⟨y, hy, hb'⟩ := hpre q hq
            exact hS.ap p q x y hx hy hb hb' (by omega)) q3) (fun q hq => by cases hq) (hsteps it hit w' hS.bel fo m' T2 (base + fuelOf T2 its))
        have hkeep : ∀ t v, a.tmps[t]? = some v → fr'.get t = some v := fun t v hv => by
          cases hg : fr'.get t with
          | some u => rw [← hv]; exact (k1.get t u hg).symm
          | none =>
            have h1 := k2 t hg
            rw [Fr.get_append, hfo2 t v hv] at h1
            cases h2 : fr.get t <;> rw [h2] at h1 <;> cases h1
        have hL := k3 (fun vs w'' hφ hb a' ha' => by
          have hkeep' : ∀ t v, a.tmps[t]? = some v → t ∉ it.ds → a'.tmps[t]? = some v := fun t v hv ht => by
            refine ha'.get t v ?_
            rw [Fr.get_append]
            cases hz : Fr.get (it.ds.zip vs) t with
            | some u => exact absurd (zip_get hz) ht
            | none => exact hkeep t v hv
          have hss := hb.size
          have hs0 := hS.bel.size
          refine ih (fuelOf T2 its) (by omega) T2 a' w'' (fun j => if j = i then w'.heap.size else lo j) (fun j => if j = i then w''.heap.size else hi j) (fun j => if j = i then vs else vv j) rfl
            ⟨⟨ha'.size, ha'.defers, fun t v hv => hkeep' t v (hS.rep.get t v hv) (fun hd => by rw [hfr it hit t hd] at hv; cases hv)⟩, hS.bel.trans (hb.mono hs0), fun j hj => (hT2b j).2 (.inl (hS.low j hj)), fun j hj => ?_, fun it' hit' j hj => ?_, fun i' it' hi2 hb2 => ?_, fun i1 i2 x y hx hy hbx hby hne => ?_⟩
          · rcases (hT2b j).1 hj with h | h
            · exact hS.up j h
            · exact .inr ⟨it, hit, h⟩
          · obtain ⟨i', _, hi2⟩ := nthI_of_mem hit'
            by_cases e : i' = i
            · subst e
              rw [hi'] at hi2; injection hi2 with hi2; subst hi2
              rw [hT2k, (hT2b j).2 (.inr hj)]
            · rw [hT2o i' it' hi2 e j hj, hT2o i' it' hi2 e it'.k (by simp [Item.idx])]
              exact hS.whole it' hit' j hj
          · by_cases e : i' = i
            · subst e
              rw [hi'] at hi2; injection hi2 with hi2; subst hi2
              simp only [if_true]
              refine ⟨⟨ha'.size, ha'.defers, fun t v hv => ha'.get t v ?_⟩, hφ, by omega, by omega, Nat.le_refl _⟩
              rw [Fr.get_append, hv]
            · simp only [if_neg e]
              rw [hT2o i' it' hi2 e it'.k (by simp [Item.idx])] at hb2
              obtain ⟨h1, h2, h3, h4, h5⟩ := hS.f i' it' hi2 hb2
              refine ⟨⟨ha'.size, ha'.defers, fun t v hv => hkeep' t v (h1.get t v hv) (fun hd => ?_)⟩, hstab it' (nthI_mem hi2) _ _ _ _ _ h2 hb, h3, h4, by omega⟩
              exact e2 i' i it' it hi2 hi' e t (zip_get hv) hd
          · by_cases ex : i1 = i
            · subst ex
              have ey : i2 ≠ i1 := Ne.symm hne
              simp only [if_true, if_neg ey]
              rw [hT2o i2 y hy ey y.k (by simp [Item.idx])] at hby
              have := (hS.f i2 y hy hby).2.2.2.2
              exact .inr this
            · by_cases ey : i2 = i
              · subst ey
                simp only [if_true, if_neg ex]
                rw [hT2o i1 x hx ex x.k (by simp [Item.idx])] at hbx
                have := (hS.f i1 x hx hbx).2.2.2.2
                exact .inl this
              · simp only [if_neg ex, if_neg ey]
                rw [hT2o i1 x hx ex x.k (by simp [Item.idx])] at hbx
                rw [hT2o i2 y hy ey y.k (by simp [Item.idx])] at hby
                exact hS.ap i1 i2 x y hx hy hbx hby hne) a k1
        have hmap := inOrder_map q5
        obtain ⟨o, l', hol⟩ : ∃ o l', inOrder ops it.idx = o :: l' := by
          cases h : inOrder ops it.idx with
          | nil => rw [h] at hmap; simp [Item.idx] at hmap
          | cons o l' => exact ⟨o, l', rfl⟩
        rw [hol] at hmap
        have hmap2 : some o = ops.toArray[it.k]? ∧ l'.map some = (it.ps.map Prod.snd).map (fun k => ops.toArray[k]?) := by
          rw [Item.idx, List.map_cons, List.map_cons] at hmap
          exact List.cons.inj hmap
        obtain ⟨o1, o2⟩ := opsOf_ps (ops := ops.toArray) (l := ops.toArray.toList) (n := base + fuelOf T2 its) (T := T2) it.ps _ q6
        have hl' : l'.length = it.ps.length := by have := congrArg List.length hmap2.2; simpa using this
        have fin := hL D' A' listed o l' hol hm hmap2.1.symm (by rw [hmap2.2, o1, List.map_map]; rfl) hj (by
          rw [← hT2]
          exact chk_of_chkP (T := m') it.ps _ _ q6 (fun i hi => by rw [bit_lor] at hi ⊢; exact hi.imp (hsb i) id) (fun i hi => by
            rw [bit_lor] at hi ⊢
            rcases hi with hi | hi
            · exact .inl hi
            · exact .inr (.inr hi)) (fun p hp => by rw [hS.whole it hit p.2 (by simp only [Item.idx, List.mem_cons, List.mem_map]; exact .inr ⟨p, hp, rfl⟩)]; exact hju))
        rw [o2, hl'] at fin
        rw [show base + f' = it.ps.length + (base + fuelOf T2 its) by omega]
        exact fin
  intro a ha
  have h0 : ∀ it ∈ its, m.testBit it.k = false := fun it hit => d1 it hit it.k (by simp [Item.idx])
  exact main _ m a w (fun _ => 0) (fun _ => 0) (fun _ => []) rfl ⟨ha, Below.refl _ _, fun _ h => h, fun _ h => .inl h, fun it hit j hj => by rw [d1 it hit j hj, h0 it hit],
    fun i it hi hb => absurd hb (by rw [h0 it (nthI_mem hi)]; simp), fun i j it it' hi _ hb _ _ => absurd hb (by rw [h0 it (nthI_mem hi)]; simp)⟩
end
end Go.Proofs.YtnnhenafhalobaaGreat
/-
  The same where one operation (at place e) may also change what another one (at place p) made, which nobody else looks at from then on: an append in place. No function of the program is named here.
-/
namespace Go.Proofs.YtnnhenafhalobaaGreat
set_option maxRecDepth 100000
open Go.RowKit
section
variable {P : Program} {fn : Func} {F : Ending → World → Prop} {N : Nat} {ks : List K} {ops : Array Oper} {tg : Tags} {l : List Oper} {fr : Fr} {w : World} {ty t : TypeId} {pos : String} {aft : Array Edge} {gd : Option (Nat × Bool)} {d n j q c lo hi : Nat} {x y : Operand} {A X : Option Addr}
theorem wl_vR {op : Op} {v : Value} {w' : World} (h : OpV P N fr w op ty v w') (hk : WL P fn F N ks ops tg.tail l ((d, v) :: fr) w') (ht : tg.loud = true := by rfl) (hg : onG ops fr gd = true := by rfl) (hd : Nat.blt d N = true := by rfl) (hq : tg.calm = false ∨ tg.rw.ok w w' := by exact .inl rfl) :
    WL P fn F N ks ops tg (⟨some d, op, ty, pos, aft, gd⟩ :: l) fr w :=
  fun a ha => left_loud ht fun K hK => by
    rw [if_pos (wanted_on (o := ⟨some d, op, ty, pos, aft, gd⟩) ha hg)]
    unfold Oper.wp
    rw [h a ha _ rfl rfl]
    exact hK _ _ hq (hk _ (ha.put hd v))
--@ rule append l wl_appBm
theorem wl_appBm (T : U8 P t) {s m : List UInt8} (hx : fr.ev x = some (.slice A n c)) (hown : OwnH w lo hi A c s) (hn : n = s.length) (hy : fr.ev y = some (.slice X j q)) (hr : Rd w X m) (hj : j = m.length) (hlen : s.length + m.length ≤ 4000000000) (hB : lo ≤ w.heap.size)
    (h : ∀ A' c' w', OwnH w' lo w'.heap.size A' c' (s ++ m) → Grew w w' 5 (blk A) → Below lo w w' → WL P fn F N ks ops tg.tail l ((d, .slice A' (s ++ m).length c') :: fr) w')
    (ht : tg.loud = true := by rfl) (hg : onG ops fr gd = true := by rfl) (hd : Nat.blt d N = true := by rfl) (hq : tg.calm = false ∨ tg.rw.may (blk A) := by exact .inl rfl) :
    WL P fn F N ks ops tg (⟨some d, .call { callee := .builtin .append, args := #[x, y], argTypes := #[t, t] }, ty, pos, aft, gd⟩ :: l) fr w := by
  subst hn; subst hj
  obtain ⟨A', c', w', hrun, h1, h2, h3, h4⟩ := run_app (P := P) w T (ty := ty) hown.o (k := q) hr (by omega) hB
  exact wl_vR (o_builtin (xs := [x, y]) (vs := [.slice A s.length c, .slice X m.length q]) (by simp [Fr.evs, hx, hy]) (by simp [builtin, hrun]) (by simp)) (h A' c' w' h1.h_ ⟨h2, RowH.ty hown⟩ h4) ht hg hd (hq.imp id fun e => Rw.of_may h2 e)
end
section
variable {P : Program} {fn : Func} {F : Ending → World → Prop} {N : Nat} {ks : List K} {ops : List Oper} {fr : Fr} {w : World} {row : Rw} {L C : Nat}
end
end Go.Proofs.YtnnhenafhalobaaGreat
