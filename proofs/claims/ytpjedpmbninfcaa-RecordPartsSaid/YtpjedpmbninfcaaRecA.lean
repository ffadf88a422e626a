/-
  Walks of package record: checks, bodies, chains.
-/
import Derived.Test.YtpjedpmbninfcaaShelf
import Derived.Test.YtpjedpmbninfcaaSlot
import Derived.Test.YtpjedpmbninfcaaOctB
import Derived.Test.YtpjedpmbninfcaaCmp
import Derived.Test.YtpjedpmbninfcaaRs
import Derived.Test.YtpjedpmbninfcaaAconv
import Derived.Test.YtpjedpmbninfcaaDel
namespace Go.Proofs.Ytpjedpmbninfcaa
open Go.RowKit
--@ side RKy.nil_
/-- A block. -/
def blkB (p : By) : By := enc p.length ++ p
theorem enc_le9 (n : Nat) : (enc n).length ≤ 9 := by
  rw [enc_length]; unfold room; (repeat' split) <;> omega
theorem blkB_le {p : By} {n : Nat} (h : p.length ≤ n) : (blkB p).length ≤ n + 9 := by
  have h1 := enc_le9 p.length
  simp only [blkB, List.length_append]; omega
/-- Eight bytes of a number. -/
def wB8 (n : Nat) : By := leB 8 n
theorem wB8_len (n : Nat) : (wB8 n).length = 8 := leB_length 8 _
/-- A record. -/
abbrev Rc := UInt8 × By
/-- A record's Kind and Data as bytes. -/
def bodyB (r : Rc) : By := [r.1] ++ blkB r.2
theorem bodyB_le {r : Rc} {n : Nat} (h : r.2.length ≤ n) : (bodyB r).length ≤ n + 10 := by
  have := blkB_le h
  simp only [bodyB, List.length_append, List.length_singleton]; omega
/-- A sum of bytes. -/
def sumB (L : List By) : By := (bytesU (runU Ul (padU L.flatten))).take 32
theorem sumB_len (L : List By) : (sumB L).length = 32 := by
  unfold sumB; rw [List.length_take, bytesU_len]; rfl
/-- The chain after a record. -/
def nextB (d : By) (r : Rc) : By := sumB [d, bodyB r]
theorem nextB_len (d : By) (r : Rc) : (nextB d r).length = 32 := sumB_len _
/-- A record's bytes. -/
def bytesR (d : By) (r : Rc) : By := bodyB r ++ (nextB d r).take 8
def nul32 : By := List.replicate 32 0
/-- A record is valid. -/
def OkR (r : Rc) : Prop := r.1 ≠ 0 ∧ r.2.length ≤ 8192
instance (r : Rc) : Decidable (OkR r) := by unfold OkR; infer_instance
theorem C_Word8 {z k : Int} {n : Nat} (w : World) (hz : z = n) (hn : n < 18446744073709551616) (hk : k = 8) :
    CallsR Try.prog 22 [.slice none 0 0, .int .u64 z, .int .i64 k] w fun v w' => ∃ A' c', v = .slice A' (wB8 n).length c' ∧ OwnH w' w.heap.size w'.heap.size A' c' (wB8 n) ∧ Below w.heap.size w w' := by
  subst hz; subst hk
  refine (C_Word (A := none) (l := []) 0 n 8 w (Rd.nil _ _) (by unfold u64; omega) (by simp)).mono ?_
  rintro v w' ⟨A', c', rfl, h, hb⟩
  exact ⟨A', c', rfl, h.h_, hb⟩
theorem C_NumberN {z : Int} {n : Nat} (w : World) (hz : z = n) (hn : n < 18446744073709551616) :
    CallsR Try.prog 27 [.slice none 0 0, .int .u64 z] w fun v w' => ∃ A' c', v = .slice A' (enc n).length c' ∧ Below w.heap.size w w' := by
  subst hz
  refine (C_Number (A := none) (l := []) 0 n w (Rd.nil _ _) (by unfold u64; omega) (by simp)).mono ?_
  rintro v w' ⟨A', c', rfl, h, hb⟩
  exact ⟨A', c', rfl, hb⟩
theorem C_BlockR {A X : Option Addr} {l p : By} {n k c d : Nat} (w : World) (hA : Rd w A l) (hp : Rd w X p) (hn : n = l.length) (hk : k = p.length) (hl : l.length ≤ 4000000000) (hl2 : p.length ≤ 4000000000) :
    CallsR Try.prog 34 [.slice A n c, .slice X k d] w fun v w' => ∃ A' c', v = .slice A' (l ++ blkB p).length c' ∧ OwnH w' w.heap.size w'.heap.size A' c' (l ++ blkB p) ∧ Below w.heap.size w w' := by
  subst hn; subst hk
  refine (C_Block c d w hA hp (by omega)).mono ?_
  rintro v w' ⟨A', c', rfl, h, hb⟩
  unfold blkB
  rw [← List.append_assoc]
  exact ⟨A', c', rfl, h.h_, hb⟩
theorem C_First {z : Int} {n : Nat} {r : By} (w : World) (hz : z = n) (hn : n < 18446744073709551616) (hr : sumB [wB8 n] = r) :
    CallsR Try.prog 7 [.int .u64 z] w fun v w' => v = .agg (B8 r).toArray ∧ Below w.heap.size w w' := by
  subst hz
  have h8 := wB8_len n
  have h32 : r.length = 32 := by rw [← hr, sumB_len]
  unfold sumB at hr
  refine callsR Try.func7 rfl rfl (by kernel_rfl) rfl ?_
  have hw := Below.refl w.heap.size w
  refine rk_seq ?_
  refine rk_region ?_
  refine wl_allocB Try.underlying23 Try.zeroValue23 (by rfl) ?_
  rintro g2 w2 f2 b2 i2 i2_1
  have s2 := b2.size
  replace hw := hw.trans (b2.mono hw.size)
  refine wl_nil ?_
  refine rk_seq ?_
  refine rk_region ?_
  refine wl_p (fun _ => o_move rfl) ?_
  refine wl_call rfl (C_Word8 _ rfl (by omega) rfl) ?_
  rintro v4 w4 ⟨A4, ⟨c4, ⟨rfl, ⟨f4, b4⟩⟩⟩⟩
  have qf4 := f4.cap
  have s4 := b4.size
  replace hw := hw.trans (b4.mono hw.size)
  replace f2 := f2.u b4
  refine wl_litK1 (by rfl) rfl f4.to_RdT rfl (by omega) (own_max' (by assumption)) (by rfl) ?_
  rintro A5 w5 f5 b5
  have s5 := b5.size
  replace hw := hw.trans (b5.mono hw.size)
  replace f2 := f2.u b5
  replace f4 := f4.u b5
  refine wl_call rfl (C_Sum _ f5 hr (by rfl) (by simp) (by simp; omega)) ?_
  rintro v6 w6 ⟨rfl, b6⟩
  have s6 := b6.size
  replace hw := hw.trans (b6.mono hw.size)
  replace f4 := f4.u b6
  replace f2 := f2.u b6
  replace f5 := f5.u b6
  refine wl_stBa Try.sizeOf23 rfl f2 rfl h32 (by rfl) ?_
  rintro w_1 f g e
  have s := g.size
  replace hw := hw.trans (below_of_grownBy g.g hw.size (by omega))
  replace f4 := f4.k g.g (ap_some (by omega))
  clear f5
  clear f2
  refine wl_nil ?_
  refine ret_cell rfl rfl Try.isAgg23 Try.sizeOf23 (show Blk _ _ _ (B8 r) by assumption) (by rw [B8_length, h32]) ?_
  exact ⟨rfl, hw⟩
theorem C_body {k : UInt8} {A : Option Addr} {p : By} {n c : Nat} (w : World) (hp : Rd w A p) (hn : n = p.length) (hl : p.length ≤ 10000) :
    CallsR Try.prog 23 [.agg #[.int .u8 (k.toNat : Int), .slice A n c]] w fun v w' => ∃ A' c', v = .slice A' (bodyB (k, p)).length c' ∧ OwnH w' w.heap.size w'.heap.size A' c' (bodyB (k, p)) ∧ Below w.heap.size w w' := by
  subst hn
  refine callsR Try.func23 rfl rfl (by kernel_rfl) rfl ?_
  have hw := Below.refl w.heap.size w
  refine rk_seq ?_
  refine rk_region ?_
  refine wl_boxg [_, _] rfl (by rfl) ?_
  rintro g1 w1 f1 b1 i1 i1_1
  have s1 := b1.size
  replace hw := hw.trans (b1.mono hw.size)
  refine wl_p (fun _ => o_assign rfl) ?_
  refine wl_nil ?_
  refine rk_seq ?_
  refine rk_region ?_
  refine wl_p (fun _ => o_faddr (s := 31) (i := 0) (off := 0) Try.underlying31 rfl Try.sizeOf5 rfl rfl rfl) ?_
  refine wl_r (o_loadbg Try.isAgg5 rfl f1 (by rfl)) ?_
  refine wl_litB [k] Try.u8 Try.sizeOf5 Try.zeroValue5 (by rfl) rfl rfl (by rfl) (by rfl) (by rfl) ?_
  rintro A5 w5 f5 b5
  have qf5 := f5.cap
  have s5 := b5.size
  replace hw := hw.trans (b5.mono hw.size)
  replace f1 := f1.u b5
  refine wl_p (fun _ => o_faddr (s := 31) (i := 1) (off := 1) Try.underlying31 rfl Try.sizeOf26 rfl rfl rfl) ?_
  refine wl_r (o_loadbg Try.isAgg26 rfl f1 (by rfl)) ?_
  refine wl_call rfl (C_BlockR _ f5.to_Rd (hp.u hw) (by rfl) rfl (by omega) (by omega)) ?_
  rintro v8 w8 ⟨A8, ⟨c8, ⟨rfl, ⟨f8, b8⟩⟩⟩⟩
  have qf8 := f8.cap
  have s8 := b8.size
  replace hw := hw.trans (b8.mono hw.size)
  replace f1 := f1.u b8
  replace f5 := f5.u b8
  refine wl_p (fun _ => o_assign rfl) ?_
  refine wl_nil ?_
  refine ret1 rfl rfl ?_
  exact ⟨_, _, rfl, f8.base (by omega) (Nat.le_refl _), hw⟩
theorem C_Check {k : UInt8} {A : Option Addr} {p : By} {n c : Nat} (w : World) (hn : n = p.length) :
    CallsR Try.prog 13 [.agg #[.int .u8 (k.toNat : Int), .slice A n c]] w fun v w' => ∃ z : Int, v = .int .i64 z ∧ (z = 0 ∨ z = 2) ∧ (z = 0 ↔ OkR (k, p)) ∧ Below w.heap.size w w' := by
  subst hn
  by_cases h0 : (k.toNat : Int) = 0
  · have e0 : k = 0 := UInt8.toNat_inj.1 (by simp; omega)
    refine callsR Try.func13 rfl rfl (by kernel_rfl) rfl ?_
    have hw := Below.refl w.heap.size w
    refine rk_seq ?_
    refine rk_region ?_
    refine wl_boxg [_, _] rfl (by rfl) ?_
    rintro g1 w1 f1 b1 i1 i1_1
    have s1 := b1.size
    replace hw := hw.trans (b1.mono hw.size)
    refine wl_p (fun _ => o_assign rfl) ?_
    refine wl_nil ?_
    refine rk_seq ?_
    refine rk_seq ?_
    refine rk_region ?_
    refine wl_p (fun _ => o_faddr (s := 31) (i := 0) (off := 0) Try.underlying31 rfl Try.sizeOf5 rfl rfl rfl) ?_
    refine wl_r (o_loadbg Try.isAgg5 rfl f1 (by rfl)) ?_
    refine wl_p (fun _ => o_eq rfl rfl) ?_
    refine wl_p (fun _ => o_move rfl) ?_
    refine wl_know 6 true rfl (decide_eq_true (by omega)) ?_
    refine wl_off ?_
    refine wl_off ?_
    refine wl_off ?_
    refine wl_off ?_
    refine wl_p (fun _ => o_pick_t rfl rfl) ?_
    refine wl_nil ?_
    refine rk_true rfl ?_
    refine rk_seq ?_
    refine rk_region ?_
    refine wl_p (fun _ => o_assign rfl) ?_
    refine wl_nil ?_
    rw [decide_eq_true h0]
    refine ret1 rfl rfl ?_
    exact ⟨_, rfl, .inr rfl, ⟨fun h => absurd h (by decide), fun h => absurd e0 h.1⟩, hw⟩
  · have e0 : k ≠ 0 := fun e => h0 (by rw [e]; rfl)
    refine callsR Try.func13 rfl rfl (by kernel_rfl) rfl ?_
    have hw := Below.refl w.heap.size w
    refine rk_seq ?_
    refine rk_region ?_
    refine wl_boxg [_, _] rfl (by rfl) ?_
    rintro g1 w1 f1 b1 i1 i1_1
    have s1 := b1.size
    replace hw := hw.trans (b1.mono hw.size)
    refine wl_p (fun _ => o_assign rfl) ?_
    refine wl_nil ?_
    refine rk_seq ?_
    refine rk_seq ?_
    refine rk_region ?_
    refine wl_p (fun _ => o_faddr (s := 31) (i := 0) (off := 0) Try.underlying31 rfl Try.sizeOf5 rfl rfl rfl) ?_
    refine wl_r (o_loadbg Try.isAgg5 rfl f1 (by rfl)) ?_
    refine wl_p (fun _ => o_eq rfl rfl) ?_
    refine wl_p (fun _ => o_move rfl) ?_
    refine wl_know 6 false rfl (decide_eq_false (by omega)) ?_
    refine wl_p (fun _ => o_faddr (s := 31) (i := 1) (off := 1) Try.underlying31 rfl Try.sizeOf26 rfl rfl rfl) ?_
    refine wl_r (o_loadbg Try.isAgg26 rfl f1 (by rfl)) ?_
    refine wl_p (fun _ => o_len (t := 26) Try.underlying26 rfl) ?_
    refine wl_p (fun _ => o_gt rfl rfl) ?_
    refine wl_p (fun _ => o_pick_f rfl rfl) ?_
    refine wl_nil ?_
    rw [decide_eq_false h0]
    refine rk_if rfl (fun h11 => ?_) (fun h11 => ?_)
    · refine rk_seq ?_
      refine rk_region ?_
      refine wl_p (fun _ => o_assign rfl) ?_
      refine wl_nil ?_
      refine ret1 rfl rfl ?_
      exact ⟨_, rfl, .inr rfl, ⟨fun h => absurd h (by decide), fun h => absurd h.2 (by show ¬ p.length ≤ 8192; omega)⟩, hw⟩
    · refine rk_skip ?_
      refine rk_seq ?_
      refine rk_region ?_
      refine wl_p (fun _ => o_assign rfl) ?_
      refine wl_nil ?_
      refine ret1 rfl rfl ?_
      exact ⟨_, rfl, .inl rfl, ⟨fun _ => ⟨e0, show p.length ≤ 8192 by omega⟩, fun _ => rfl⟩, hw⟩
theorem C_Same {k q : UInt8} {A B : Option Addr} {a b : By} {n c m d : Nat} (w : World) (hA : Rd w A a) (hB : Rd w B b) (hn : n = a.length) (hm : m = b.length) :
    CallsR Try.prog 15 [.agg #[.int .u8 (k.toNat : Int), .slice A n c], .agg #[.int .u8 (q.toNat : Int), .slice B m d]] w fun v w' => v = .bool (decide ((k, a) = (q, b))) ∧ Below w.heap.size w w' := by
  subst hn; subst hm
  by_cases h0 : (k.toNat : Int) = (q.toNat : Int)
  · have e0 : k = q := UInt8.toNat_inj.1 (by omega)
    subst e0
    refine callsR Try.func15 rfl rfl (by kernel_rfl) rfl ?_
    have hw := Below.refl w.heap.size w
    refine rk_seq ?_
    refine rk_region ?_
    refine wl_boxg [_, _] rfl (by rfl) ?_
    rintro g2 w2 f2 b2 i2 i2_1
    have s2 := b2.size
    replace hw := hw.trans (b2.mono hw.size)
    refine wl_boxg [_, _] rfl (by rfl) ?_
    rintro g3 w3 f3 b3 i3 i3_1
    have s3 := b3.size
    replace hw := hw.trans (b3.mono hw.size)
    replace f2 := f2.u b3
    refine wl_p (fun _ => o_assign rfl) ?_
    refine wl_nil ?_
    refine rk_seq ?_
    refine rk_region ?_
    refine wl_p (fun _ => o_faddr (s := 31) (i := 0) (off := 0) Try.underlying31 rfl Try.sizeOf5 rfl rfl rfl) ?_
    refine wl_r (o_loadbg Try.isAgg5 rfl f2 (by rfl)) ?_
    refine wl_p (fun _ => o_faddr (s := 31) (i := 0) (off := 0) Try.underlying31 rfl Try.sizeOf5 rfl rfl rfl) ?_
    refine wl_r (o_loadbg Try.isAgg5 rfl f3 (by rfl)) ?_
    refine wl_p (fun _ => o_eq rfl rfl) ?_
    refine wl_p (fun _ => o_move rfl) ?_
    refine wl_know 10 true rfl (decide_eq_true (by omega)) ?_
    refine wl_p (fun _ => o_faddr (s := 31) (i := 1) (off := 1) Try.underlying31 rfl Try.sizeOf26 rfl rfl rfl) ?_
    refine wl_r (o_loadbg Try.isAgg26 rfl f2 (by rfl)) ?_
    refine wl_p (fun _ => o_faddr (s := 31) (i := 1) (off := 1) Try.underlying31 rfl Try.sizeOf26 rfl rfl rfl) ?_
    refine wl_r (o_loadbg Try.isAgg26 rfl f3 (by rfl)) ?_
    refine wl_call rfl (C_bEqual _ (hA.u hw) (hB.u hw) rfl rfl) ?_
    rintro v15 w15 ⟨rfl, b15⟩
    have s15 := b15.size
    replace hw := hw.trans (b15.mono hw.size)
    replace f2 := f2.u b15
    replace f3 := f3.u b15
    refine wl_p (fun _ => o_pick_t rfl rfl) ?_
    refine wl_p (fun _ => o_assign rfl) ?_
    refine wl_nil ?_
    rw [decide_eq_true rfl]
    refine ret1 rfl rfl ?_
    exact ⟨congrArg Value.bool (decide_eq_decide.2 ⟨fun h => by rw [h], fun h => (Prod.mk.inj h).2⟩), hw⟩
  · have e0 : k ≠ q := fun e => h0 (by rw [e])
    refine callsR Try.func15 rfl rfl (by kernel_rfl) rfl ?_
    have hw := Below.refl w.heap.size w
    refine rk_seq ?_
    refine rk_region ?_
    refine wl_boxg [_, _] rfl (by rfl) ?_
    rintro g2 w2 f2 b2 i2 i2_1
    have s2 := b2.size
    replace hw := hw.trans (b2.mono hw.size)
    refine wl_boxg [_, _] rfl (by rfl) ?_
    rintro g3 w3 f3 b3 i3 i3_1
    have s3 := b3.size
    replace hw := hw.trans (b3.mono hw.size)
    replace f2 := f2.u b3
    refine wl_p (fun _ => o_assign rfl) ?_
    refine wl_nil ?_
    refine rk_seq ?_
    refine rk_region ?_
    refine wl_p (fun _ => o_faddr (s := 31) (i := 0) (off := 0) Try.underlying31 rfl Try.sizeOf5 rfl rfl rfl) ?_
    refine wl_r (o_loadbg Try.isAgg5 rfl f2 (by rfl)) ?_
    refine wl_p (fun _ => o_faddr (s := 31) (i := 0) (off := 0) Try.underlying31 rfl Try.sizeOf5 rfl rfl rfl) ?_
    refine wl_r (o_loadbg Try.isAgg5 rfl f3 (by rfl)) ?_
    refine wl_p (fun _ => o_eq rfl rfl) ?_
    refine wl_p (fun _ => o_move rfl) ?_
    refine wl_know 10 false rfl (decide_eq_false (by omega)) ?_
    refine wl_off ?_
    refine wl_off ?_
    refine wl_off ?_
    refine wl_off ?_
    refine wl_off ?_
    refine wl_p (fun _ => o_pick_f rfl rfl) ?_
    refine wl_p (fun _ => o_assign rfl) ?_
    refine wl_nil ?_
    rw [decide_eq_false h0]
    refine ret1 rfl rfl ?_
    exact ⟨by rw [decide_eq_false (fun e => e0 (congrArg Prod.fst e))], hw⟩
theorem C_Size {k : UInt8} {A : Option Addr} {p : By} {n c : Nat} (w : World) (hn : n = p.length) (hl : p.length ≤ 10000) (hp : Rd w A p) :
    CallsR Try.prog 14 [.agg #[.int .u8 (k.toNat : Int), .slice A n c]] w fun v w' => v = .int .i64 (if OkR (k, p) then ((bodyB (k, p)).length : Int) + 8 else 0) ∧ Below w.heap.size w w' := by
  subst hn
  have he := enc_le9 p.length
  refine callsR Try.func14 rfl rfl (by kernel_rfl) rfl ?_
  have hw := Below.refl w.heap.size w
  refine rk_seq ?_
  refine rk_region ?_
  refine wl_boxg [_, _] rfl (by rfl) ?_
  rintro g1 w1 f1 b1 i1 i1_1
  have s1 := b1.size
  replace hw := hw.trans (b1.mono hw.size)
  refine wl_p (fun _ => o_assign rfl) ?_
  refine wl_nil ?_
  refine rk_seq ?_
  refine rk_seq ?_
  refine rk_region ?_
  refine wl_r (o_loadag Try.isAgg31 Try.sizeOf31 rfl f1 (by rfl)) ?_
  refine wl_call rfl (C_Check _ (by rfl)) ?_
  rintro v4 w4 ⟨z4, ⟨rfl, ⟨i4, ⟨i4_1, b4⟩⟩⟩⟩
  have s4 := b4.size
  replace hw := hw.trans (b4.mono hw.size)
  replace f1 := f1.u b4
  refine wl_p (fun _ => o_ne rfl rfl) ?_
  refine wl_nil ?_
  refine rk_if rfl (fun h5 => ?_) (fun h5 => ?_)
  · refine rk_seq ?_
    refine rk_region ?_
    refine wl_p (fun _ => o_assign rfl) ?_
    refine wl_nil ?_
    refine ret1 rfl rfl ?_
    exact ⟨by rw [if_neg (fun h => by have := i4_1.2 h; omega)], hw⟩
  · have hO : OkR (k, p) := i4_1.1 (by omega)
    refine rk_skip ?_
    refine rk_seq ?_
    refine rk_drawoB (id := 3) (none) [0, 1, 2, 4, 8, 16, 32, 0, 128, 256, 576, 1024, 4095] [0, 1, 3, 7, 15, 31, 63, 0, 128, 384, 1023, 2047, 4095] 16 16 [0, 1, 2, 3, 7, 8, 9, 4, 5, 6, 10, 11, 12] [(.p, 0), (.r, 1), (.p, 2), (.p, 3), (.p, 7), (.s, 8), (.p, 9), (.c, 4), (.p, 5), (.p, 6), (.p, 10), (.p, 11), (.p, 12)] (by kernel_rfl) (by kernel_rfl) (by kernel_rfl) (by kernel_rfl) (by kernel_rfl) ?_
    dsimp only [inOrder, nthOp]
    replace hw := hw.drew
    replace f1 := f1.d
    refine wl_p (fun _ => o_faddr (s := 31) (i := 1) (off := 1) Try.underlying31 rfl Try.sizeOf26 rfl rfl rfl) ?_
    refine wl_r (o_loadbg Try.isAgg26 rfl f1 (by rfl)) ?_
    refine wl_p (fun _ => o_len (t := 26) Try.underlying26 rfl) ?_
    refine wl_p (fun _ => o_convu64 (src := 3) (dst := 25) Try.underlying3 Try.underlying25 rfl (by omega) (by omega)) ?_
    refine wl_p (fun _ => o_faddr (s := 31) (i := 1) (off := 1) Try.underlying31 rfl Try.sizeOf26 rfl rfl rfl) ?_
    refine wl_s (fun _ hk => (o_loadbg Try.isAgg26 rfl (f1.u (below_of_ok hk (Nat.le_refl _) (fun _ e => by cases e))) (by rfl))) ?_
    refine wl_p (fun _ => o_len (t := 26) Try.underlying26 rfl) ?_
    refine wl_call rfl (C_NumberN _ rfl (by omega)) ?_ (hq := .inr fun _ _ h => grown_of_below h.choose_spec.choose_spec.2 _)
    rintro v10 w10 ⟨A10, ⟨c10, ⟨rfl, b10⟩⟩⟩
    simp only [drew_size] at b10
    have s10 := b10.size
    simp only [drew_size] at s10
    replace hw := hw.trans (b10.mono hw.size)
    replace f1 := f1.u b10
    refine wl_p (fun _ => o_len (t := 26) Try.underlying26 rfl) ?_
    refine wl_p (fun _ => o_add rfl rfl (by omega) (by omega)) ?_
    refine wl_p (fun _ => o_add rfl rfl (by omega) (by omega)) ?_
    refine wl_p (fun _ => o_add rfl rfl (by omega) (by omega)) ?_
    refine wl_p (fun _ => o_assign rfl) ?_
    refine wl_nild ?_
    refine ret1 rfl rfl ?_
    exact ⟨by
      rw [if_pos hO]
      simp only [bodyB, blkB, List.length_append, List.length_singleton]
      congr 1; omega, hw⟩
theorem C_Next {k : UInt8} {A : Option Addr} {p d r : By} {n c : Nat} (w : World) (hp : Rd w A p) (hn : n = p.length) (hl : p.length ≤ 9000) (hd : d.length = 32) (hr : nextB d (k, p) = r) :
    CallsR Try.prog 16 [.agg (B8 d).toArray, .agg #[.int .u8 (k.toNat : Int), .slice A n c]] w fun v w' => v = .agg (B8 r).toArray ∧ Below w.heap.size w w' := by
  subst hn
  have h32 : r.length = 32 := by rw [← hr, nextB, sumB_len]
  have hbl := bodyB_le (r := (k, p)) hl
  have hL2 : ∀ x ∈ [d, bodyB (k, p)], x.length ≤ 10000 := by
    intro x hx
    rcases List.mem_cons.1 hx with rfl | hx
    · omega
    · obtain rfl := List.mem_singleton.1 hx; omega
  unfold nextB sumB at hr
  refine callsR Try.func16 rfl rfl (by kernel_rfl) rfl ?_
  have hw := Below.refl w.heap.size w
  refine rk_seq ?_
  refine rk_region ?_
  refine wl_boxg _ rfl (by rfl) ?_
  rintro g2 w2 f2 b2 i2 i2_1
  have s2 := b2.size
  replace hw := hw.trans (b2.mono hw.size)
  refine wl_boxg [_, _] rfl (by rfl) ?_
  rintro g3 w3 f3 b3 i3 i3_1
  have s3 := b3.size
  replace hw := hw.trans (b3.mono hw.size)
  replace f2 := f2.u b3
  refine wl_allocB Try.underlying23 Try.zeroValue23 (by rfl) ?_
  rintro g4 w4 f4 b4 i4 i4_1
  have s4 := b4.size
  replace hw := hw.trans (b4.mono hw.size)
  replace f2 := f2.u b4
  replace f3 := f3.u b4
  refine wl_nil ?_
  refine rk_seq ?_
  refine rk_draw (id := 1) (none) [0, 0, 2, 5, 12, 31] [0, 0, 2, 7, 15, 31] 60 0 [(.p, 0), (.r, 1), (.l, 2), (.l, 3), (.l, 4), (.l, 5)] (by kernel_rfl) (by kernel_rfl) (by kernel_rfl) (by kernel_rfl) (by kernel_rfl) ?_
  replace hw := hw.drew
  replace f3 := f3.d
  replace f2 := f2.d
  replace f4 := f4.d
  refine wl_p (fun _ => o_slice_arr (t := 23) Try.underlying23 Try.sizeOf5 rfl) ?_
  refine wl_r (o_loadag Try.isAgg31 Try.sizeOf31 rfl f3 (by rfl)) ?_
  refine wl_call rfl (C_body _ (hp.u hw) rfl (by omega)) ?_
  rintro v7 w7 ⟨A7, ⟨c7, ⟨rfl, ⟨f7, b7⟩⟩⟩⟩
  simp only [drew_size] at f7
  simp only [drew_size] at b7
  have qf7 := f7.cap
  have s7 := b7.size
  simp only [drew_size] at s7
  replace hw := hw.trans (b7.mono hw.size)
  replace f4 := f4.u b7
  replace f2 := f2.u b7
  replace f3 := f3.u b7
  refine wl_litKr2 (by rfl) rfl f2.to_Rd f7.to_Rd (by omega) rfl (by omega) (by omega) (by omega) (own_max' (by assumption)) (by rfl) ?_
  rintro A8 w8 f8 b8
  have s8 := b8.size
  replace hw := hw.trans (b8.mono hw.size)
  replace f3 := f3.u b8
  replace f2 := f2.u b8
  replace f4 := f4.u b8
  replace f7 := f7.u b8
  refine wl_call rfl (C_Sum _ f8 hr (by rfl) (by simp) (by omega)) ?_
  rintro v9 w9 ⟨rfl, b9⟩
  have s9 := b9.size
  replace hw := hw.trans (b9.mono hw.size)
  replace f7 := f7.u b9
  replace f4 := f4.u b9
  replace f2 := f2.u b9
  replace f3 := f3.u b9
  replace f8 := f8.u b9
  refine wl_stBa Try.sizeOf23 rfl f4 rfl h32 (by rfl) ?_
  rintro w_1 f g e
  have s := g.size
  replace hw := hw.trans (below_of_grownBy g.g hw.size (by omega))
  replace f3 := f3.k g.g (ap_some (by omega))
  replace f2 := f2.k g.g (ap_some (by omega))
  replace f7 := f7.k g.g (ap_some (by omega))
  clear f8
  clear f4
  refine wl_nild ?_
  refine ret_cell rfl rfl Try.isAgg23 Try.sizeOf23 (show Blk _ _ _ (B8 r) by assumption) (by rw [B8_length, h32]) ?_
  exact ⟨rfl, hw⟩
theorem C_RecBytes {k : UInt8} {A : Option Addr} {p d : By} {n c : Nat} (w : World) (hp : Rd w A p) (hn : n = p.length) (hl : p.length ≤ 9000) (hd : d.length = 32) :
    CallsR Try.prog 8 [.agg (B8 d).toArray, .agg #[.int .u8 (k.toNat : Int), .slice A n c]] w fun v w' => ∃ (A' : Option Addr) (bs : By) (c' : Nat) (e : By) (z : Int), v = .tuple #[.slice A' bs.length c', .agg (B8 e).toArray, .int .i64 z] ∧ OwnH w' w.heap.size w'.heap.size A' c' bs ∧ (z = 0 ∨ z = 2) ∧ (z = 0 ↔ OkR (k, p)) ∧ (z = 0 → bs = bytesR d (k, p) ∧ e = nextB d (k, p)) ∧ (z ≠ 0 → bs = []) ∧ e.length = 32 ∧ Below w.heap.size w w' := by
  subst hn
  obtain ⟨r, hr⟩ : ∃ r, nextB d (k, p) = r := ⟨_, rfl⟩
  have h32 : r.length = 32 := by rw [← hr, nextB_len]
  have hbl := bodyB_le (r := (k, p)) hl
  unfold bytesR
  rw [hr]
  have hL2 : ∀ x ∈ [d, bodyB (k, p)], x.length ≤ 10000 := by
    intro x hx
    rcases List.mem_cons.1 hx with rfl | hx
    · omega
    · obtain rfl := List.mem_singleton.1 hx; omega
  unfold nextB sumB at hr
  refine callsR Try.func8 rfl rfl (by kernel_rfl) rfl ?_
  have hw := Below.refl w.heap.size w
  refine rk_seq ?_
  refine rk_region ?_
  refine wl_boxg _ rfl (by rfl) ?_
  rintro g2 w2 f2 b2 i2 i2_1
  have s2 := b2.size
  replace hw := hw.trans (b2.mono hw.size)
  refine wl_boxg [_, _] rfl (by rfl) ?_
  rintro g3 w3 f3 b3 i3 i3_1
  have s3 := b3.size
  replace hw := hw.trans (b3.mono hw.size)
  replace f2 := f2.u b3
  refine wl_p (fun _ => o_assign rfl) ?_
  refine wl_allocB Try.underlying23 Try.zeroValue23 (by rfl) ?_
  rintro g5 w5 f5 b5 i5 i5_1
  have s5 := b5.size
  replace hw := hw.trans (b5.mono hw.size)
  replace f2 := f2.u b5
  replace f3 := f3.u b5
  refine wl_p (fun _ => o_assign rfl) ?_
  refine wl_nil ?_
  refine rk_seq ?_
  refine rk_seq ?_
  refine rk_region ?_
  refine wl_r (o_loadag Try.isAgg31 Try.sizeOf31 rfl f3 (by rfl)) ?_
  refine wl_call rfl (C_Check _ (by rfl)) ?_
  rintro v11 w11 ⟨z11, ⟨rfl, ⟨i11, ⟨i11_1, b11⟩⟩⟩⟩
  have s11 := b11.size
  replace hw := hw.trans (b11.mono hw.size)
  replace f3 := f3.u b11
  replace f2 := f2.u b11
  replace f5 := f5.u b11
  refine wl_p (fun _ => o_assign rfl) ?_
  refine wl_nil ?_
  refine rk_seq ?_
  refine rk_region ?_
  refine wl_p (fun _ => o_move rfl) ?_
  refine wl_p (fun _ => o_ne rfl rfl) ?_
  refine wl_nil ?_
  refine rk_if rfl (fun h13 => ?_) (fun h13 => ?_)
  · refine rk_seq ?_
    refine rk_region ?_
    refine wl_p (fun _ => (o_buildga [_, _, _, _, _, _, _, _, _, _, _, _, _, _, _, _, _, _, _, _, _, _, _, _, _, _, _, _, _, _, _, _] Try.underlying23 Try.sizeOf5 Try.zeroValue23 (by rfl) (by rfl) rfl (by rfl) (by rfl) (fun _ => by kernel_rfl))) ?_
    refine wl_p (fun _ => o_move rfl) ?_
    refine wl_p (fun _ => o_assign rfl) ?_
    refine wl_storega Try.sizeOf23 rfl rfl (by rfl) (by decide) f5 (by rfl) ?_
    rintro w_1 f g e
    have s := g.size
    replace hw := hw.trans (below_of_grownBy g.g hw.size (by omega))
    replace f2 := f2.k g.g (ap_some (by omega))
    replace f3 := f3.k g.g (ap_some (by omega))
    clear f5
    refine wl_p (fun _ => o_assign rfl) ?_
    refine wl_nil ?_
    refine ret_any (vs := [.slice none 0 0, .agg (B8 nul32).toArray, .int .i64 z11]) rfl (.tmp rfl (.cell rfl Try.isAgg23 Try.sizeOf23 f rfl (.tmp rfl .nil))) (by simp) ?_
    exact ⟨none, [], 0, nul32, _, rfl, OwnH.nil_, i11, i11_1, fun h => absurd h h13, fun _ => rfl, rfl, hw⟩
  · have hO : OkR (k, p) := i11_1.1 (by omega)
    have h8 : (r.take 8).length = 8 := by rw [List.length_take]; omega
    refine rk_skip ?_
    refine rk_seq ?_
    refine rk_region ?_
    refine wl_r (o_loadag Try.isAgg31 Try.sizeOf31 rfl f3 (by rfl)) ?_
    refine wl_call rfl (C_body _ (hp.u hw) rfl (by omega)) ?_
    rintro v17 w17 ⟨A17, ⟨c17, ⟨rfl, ⟨f17, b17⟩⟩⟩⟩
    have qf17 := f17.cap
    have s17 := b17.size
    replace hw := hw.trans (b17.mono hw.size)
    replace f5 := f5.u b17
    replace f2 := f2.u b17
    replace f3 := f3.u b17
    refine wl_p (fun _ => o_assign rfl) ?_
    refine wl_nil ?_
    refine rk_seq ?_
    refine rk_region ?_
    refine wl_p (fun _ => o_slice_arr (t := 23) Try.underlying23 Try.sizeOf5 rfl) ?_
    refine wl_p (fun _ => o_move rfl) ?_
    refine wl_litKr2 (by rfl) rfl f2.to_Rd f17.to_Rd (by omega) rfl (by omega) (by omega) (by omega) (own_max' (by assumption)) (by rfl) ?_
    rintro A20 w20 f20 b20
    have s20 := b20.size
    replace hw := hw.trans (b20.mono hw.size)
    replace f3 := f3.u b20
    replace f2 := f2.u b20
    replace f5 := f5.u b20
    replace f17 := f17.u b20
    refine wl_call rfl (C_Sum _ f20 hr (by rfl) (by simp) (by omega)) ?_
    rintro v21 w21 ⟨rfl, b21⟩
    have s21 := b21.size
    replace hw := hw.trans (b21.mono hw.size)
    replace f17 := f17.u b21
    replace f5 := f5.u b21
    replace f2 := f2.u b21
    replace f3 := f3.u b21
    replace f20 := f20.u b21
    refine wl_allocB Try.underlying23 Try.zeroValue23 (by rfl) ?_
    rintro g9 w9 f9 b9 i9 i9_1
    have s9 := b9.size
    replace hw := hw.trans (b9.mono hw.size)
    replace f20 := f20.u b9
    replace f3 := f3.u b9
    replace f2 := f2.u b9
    replace f5 := f5.u b9
    replace f17 := f17.u b9
    refine wl_stBa Try.sizeOf23 rfl f9 rfl h32 (by rfl) ?_
    rintro w_1 f g e
    have s := g.size
    replace hw := hw.trans (below_of_grownBy g.g hw.size (by omega))
    replace f17 := f17.k g.g (ap_some (by omega))
    replace f5 := f5.k g.g (ap_some (by omega))
    replace f2 := f2.k g.g (ap_some (by omega))
    replace f3 := f3.k g.g (ap_some (by omega))
    clear f20
    clear f9
    refine wl_nil ?_
    refine rk_seq ?_
    have hlt := f17.lt
    have hne : blk A17 ≠ some g9 := fun e => by have := f17.ap (lo' := w17.heap.size) (hi' := g9 + 1) (.inl (Nat.le_refl _)) g9 e; omega
    have hne5 : blk A17 ≠ some g5 := fun e => by have := (hlt _ e).1; omega
    refine rk_drawo (id := 6) ((blk A17)) [0, 0, 3, 0, 7, 31, 63] [0, 0, 3, 0, 7, 31, 63] 36 4 [0, 1, 3, 2, 4, 5, 6] [(.p, 0), (.p, 1), (.s, 3), (.c, 2), (.p, 4), (.l, 5), (.p, 6)] (by kernel_rfl) (by kernel_rfl) (by kernel_rfl) (by kernel_rfl) (by kernel_rfl) ?_; dsimp only [inOrder, nthOp]
    replace f17 := f17.d
    replace f := f.d
    replace f5 := f5.d
    replace hw := hw.drew
    clear f2 f3
    have hr8 := rd_pre f 8
    refine wl_p (fun _ => o_move rfl) ?_
    refine wl_p (fun _ => (o_slArrHi (8) Try.underlying23 Try.sizeOf5 rfl rfl (by omega) (by omega))) ?_
    refine wl_s (fun _ hk => (o_ldBa Try.isAgg23 Try.sizeOf23 rfl (f.k hk (f17.ap (by omega))) h32)) ?_
    refine wl_appB Try.u8 rfl f17 rfl rfl hr8 (by omega) (by omega) (by simp; omega) ?_ (hq := .inr (.inr rfl))
    rintro A24 c24 w24 f24 g24 b24 i24
    simp only [drew_size] at i24
    have qf24 := f24.cap
    have s24 := g24.size
    simp only [drew_size] at s24
    replace hw := hw.trans (b24.mono (by omega))
    replace f5 := f5.y g24 (by decide)
    replace f := f.y g24 (by decide)
    clear hr8
    clear f17
    refine wl_p (fun _ => o_assign rfl) ?_
    refine wl_stBa Try.sizeOf23 rfl f5 rfl h32 (by rfl) ?_
    rintro w_2 f_1 g_1 e_1
    have s_1 := g_1.size
    replace hw := hw.trans (below_of_grownBy g_1.g hw.size (by omega))
    replace f := f.k g_1.g (ap_some (by omega))
    replace f24 := f24.k g_1.g (ap_some (by omega))
    clear f5
    refine wl_p (fun _ => o_assign rfl) ?_
    refine wl_nild ?_
    refine ret_any (vs := [.slice A24 (bodyB (k, p) ++ List.take 8 r).length c24, .agg (B8 r).toArray, .int .i64 0]) rfl (.tmp rfl (.cell rfl Try.isAgg23 Try.sizeOf23 f_1 (by rw [B8_length, h32]) (.tmp rfl .nil))) (by simp) ?_
    exact ⟨A24, _, c24, r, 0, rfl, f24.base (by omega) (by omega), .inl rfl, ⟨fun _ => hO, fun _ => rfl⟩, fun _ => ⟨rfl, rfl⟩, fun h => absurd rfl h, h32, hw⟩
end Go.Proofs.Ytpjedpmbninfcaa
