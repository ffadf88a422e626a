/-
  Records compared; the chapter's examples.
-/
import Derived.Test.YtpjedpmbninfcaaRecC
namespace Go.Proofs.Ytpjedpmbninfcaa
open Go.RowKit
theorem C_OwnB {A : Option Addr} {p : By} {n c : Nat} (w : World) (hp : Rd w A p) (hn : n = p.length) (hl : p.length ≤ 4000000000) :
    CallsR Try.prog 10 [.slice A n c] w fun v w' => ∃ A' c', v = .slice A' p.length c' ∧ OwnH w' w.heap.size w'.heap.size A' c' p ∧ Below w.heap.size w w' := by
  subst hn
  refine callsR Try.func10 rfl rfl (by kernel_rfl) rfl ?_
  have hw := Below.refl w.heap.size w
  refine rk_seq ?_
  refine rk_region ?_
  refine wl_p (fun _ => o_assign rfl) ?_
  refine wl_nil ?_
  refine rk_seq ?_
  refine rk_region ?_
  refine wl_litB [] Try.u8 Try.sizeOf5 Try.zeroValue5 (by rfl) rfl rfl (by rfl) (by rfl) (by rfl) ?_
  rintro A3 w3 f3 b3
  have qf3 := f3.cap
  have s3 := b3.size
  replace hw := hw.trans (b3.mono hw.size)
  refine wl_p (fun _ => o_move rfl) ?_
  refine wl_appB Try.u8 rfl f3 (by rfl) rfl (hp.u hw) rfl (by omega) hw.size ?_
  rintro A5 c5 w5 f5 g5 b5 i5
  have qf5 := f5.cap
  have s5 := g5.size
  replace hw := hw.trans (b5.mono (by omega))
  clear f3
  refine wl_p (fun _ => o_assign rfl) ?_
  refine wl_nil ?_
  refine ret1 rfl rfl ?_
  exact ⟨_, _, rfl, f5, hw⟩
theorem C_kRec {k q : UInt8} {A B : Option Addr} {a b : By} {n c m d : Nat} (w : World) (hA : Rd w A a) (hB : Rd w B b) (hn : n = a.length) (hm : m = b.length) :
    CallsR Try.prog 12 [.agg #[.int .u8 (k.toNat : Int), .slice A n c], .agg #[.int .u8 (q.toNat : Int), .slice B m d]] w fun v w' => v = .bool (decide ((k, a) = (q, b))) ∧ Below w.heap.size w w' := by
  subst hn; subst hm
  by_cases h0 : (k.toNat : Int) = (q.toNat : Int)
  · have e0 : k = q := UInt8.toNat_inj.1 (by omega)
    subst e0
    refine callsR Try.func12 rfl rfl (by kernel_rfl) rfl ?_
    have hw := Below.refl w.heap.size w
    refine rk_seq ?_
    refine rk_region ?_
    refine wl_boxg [_, _] rfl (by rfl) ?_
    rintro g2 w2 f2 b2 i2 i2_1
    have s2 := b2.size
    replace hw := hw.trans (b2.mono hw.size)
    refine wl_boxg [_, _] rfl (by rfl) ?_
    rintro g3 w3 f3 b3 i3 i3_1
    have s3 := b3.size
    replace hw := hw.trans (b3.mono hw.size)
    replace f2 := f2.u b3
    refine wl_p (fun _ => o_assign rfl) ?_
    refine wl_nil ?_
    refine rk_seq ?_
    refine rk_region ?_
    refine wl_p (fun _ => o_faddr (s := 31) (i := 0) (off := 0) Try.underlying31 rfl Try.sizeOf5 rfl rfl rfl) ?_
    refine wl_r (o_loadbg Try.isAgg5 rfl f2 (by rfl)) ?_
    refine wl_p (fun _ => o_faddr (s := 31) (i := 0) (off := 0) Try.underlying31 rfl Try.sizeOf5 rfl rfl rfl) ?_
    refine wl_r (o_loadbg Try.isAgg5 rfl f3 (by rfl)) ?_
    refine wl_p (fun _ => o_eq rfl rfl) ?_
    refine wl_p (fun _ => o_move rfl) ?_
    refine wl_know 10 true rfl (decide_eq_true (by omega)) ?_
    refine wl_p (fun _ => o_faddr (s := 31) (i := 1) (off := 1) Try.underlying31 rfl Try.sizeOf26 rfl rfl rfl) ?_
    refine wl_r (o_loadbg Try.isAgg26 rfl f2 (by rfl)) ?_
    refine wl_r (o_strU Try.underlying26 Try.underlying5 Try.underlying9 rfl hA hw rfl) ?_
    refine wl_p (fun _ => o_faddr (s := 31) (i := 1) (off := 1) Try.underlying31 rfl Try.sizeOf26 rfl rfl rfl) ?_
    refine wl_r (o_loadbg Try.isAgg26 rfl f3 (by rfl)) ?_
    refine wl_r (o_strU Try.underlying26 Try.underlying5 Try.underlying9 rfl hB hw rfl) ?_
    refine wl_p (fun _ => o_seq rfl rfl) ?_
    refine wl_p (fun _ => o_pick_t rfl rfl) ?_
    refine wl_p (fun _ => o_assign rfl) ?_
    refine wl_nil ?_
    rw [decide_eq_true rfl]
    refine ret1 rfl rfl ?_
    exact ⟨congrArg Value.bool (decide_eq_decide.2 ⟨fun h => by rw [h], fun h => (Prod.mk.inj h).2⟩), hw⟩
  · have e0 : k ≠ q := fun e => h0 (by rw [e])
    refine callsR Try.func12 rfl rfl (by kernel_rfl) rfl ?_
    have hw := Below.refl w.heap.size w
    refine rk_seq ?_
    refine rk_region ?_
    refine wl_boxg [_, _] rfl (by rfl) ?_
    rintro g2 w2 f2 b2 i2 i2_1
    have s2 := b2.size
    replace hw := hw.trans (b2.mono hw.size)
    refine wl_boxg [_, _] rfl (by rfl) ?_
    rintro g3 w3 f3 b3 i3 i3_1
    have s3 := b3.size
    replace hw := hw.trans (b3.mono hw.size)
    replace f2 := f2.u b3
    refine wl_p (fun _ => o_assign rfl) ?_
    refine wl_nil ?_
    refine rk_seq ?_
    refine rk_region ?_
    refine wl_p (fun _ => o_faddr (s := 31) (i := 0) (off := 0) Try.underlying31 rfl Try.sizeOf5 rfl rfl rfl) ?_
    refine wl_r (o_loadbg Try.isAgg5 rfl f2 (by rfl)) ?_
    refine wl_p (fun _ => o_faddr (s := 31) (i := 0) (off := 0) Try.underlying31 rfl Try.sizeOf5 rfl rfl rfl) ?_
    refine wl_r (o_loadbg Try.isAgg5 rfl f3 (by rfl)) ?_
    refine wl_p (fun _ => o_eq rfl rfl) ?_
    refine wl_p (fun _ => o_move rfl) ?_
    refine wl_know 10 false rfl (decide_eq_false (by omega)) ?_
    refine wl_off ?_
    refine wl_off ?_
    refine wl_off ?_
    refine wl_off ?_
    refine wl_off ?_
    refine wl_off ?_
    refine wl_off ?_
    refine wl_p (fun _ => o_pick_f rfl rfl) ?_
    refine wl_p (fun _ => o_assign rfl) ?_
    refine wl_nil ?_
    rw [decide_eq_false h0]
    refine ret1 rfl rfl ?_
    exact ⟨by rw [decide_eq_false (fun e => e0 (congrArg Prod.fst e))], hw⟩
section
variable {N : Nat} {fr : Fr} {w : World} {ty : TypeId}
--@ rule! build p o_buildD0
theorem o_buildD0 : OpV Try.prog N fr w (.build 23 #[]) ty (.agg (B8 nul32).toArray) w := o_build (is := []) (xs := []) (vs := []) rfl (fun _ => by kernel_rfl)
end
theorem C_RecReadN {A : Option Addr} {d b : By} {r : Rc × Nat × By × Nat} {n c : Nat} (w : World) (hr : readR d b = r) (hb : Rd w A b) (hn : n = b.length) (hc : b.length ≤ c) (hd : d.length = 32) (hl : b.length ≤ 400000) :
    CallsR Try.prog 9 [.agg (B8 d).toArray, .slice A n c] w fun v w' => ∃ (A' : Option Addr) (c' : Nat), v = .tuple #[.agg #[.int .u8 ((r.1.1).toNat : Int), .slice A' r.1.2.length c'], .int .i64 (r.2.1 : Int), .agg (B8 r.2.2.1).toArray, .int .i64 (r.2.2.2 : Int)] ∧ OwnH w' w.heap.size w'.heap.size A' c' r.1.2 ∧ Below w.heap.size w w' := by
  refine (C_RecRead w hb hn hc hd hl).mono ?_
  rintro v w' ⟨k', p', A', c', z', x', e', rfl, h1, h2, _, h4⟩
  rw [hr] at h2
  subst h2
  exact ⟨_, _, rfl, h1, h4⟩
theorem C_SizeZ {k : UInt8} {x : Int} {A : Option Addr} {p : By} {n c : Nat} (w : World) (hk : x = (k.toNat : Int)) (hn : n = p.length) (hl : p.length ≤ 10000) (hp : Rd w A p) :
    CallsR Try.prog 14 [.agg #[.int .u8 x, .slice A n c]] w fun v w' => v = .int .i64 (if OkR (k, p) then ((bodyB (k, p)).length : Int) + 8 else 0) ∧ Below w.heap.size w w' := by
  subst hk
  exact C_Size w hn hl hp
theorem C_CheckZ {k : UInt8} {x : Int} {A : Option Addr} {p : By} {n c : Nat} (w : World) (hk : x = (k.toNat : Int)) (hn : n = p.length) :
    CallsR Try.prog 13 [.agg #[.int .u8 x, .slice A n c]] w fun v w' => ∃ z : Int, v = .int .i64 z ∧ (z = 0 ∨ z = 2) ∧ (z = 0 ↔ OkR (k, p)) ∧ Below w.heap.size w w' := by
  subst hk
  exact C_Check w hn
theorem C_RecBytesZ {k : UInt8} {x : Int} {A : Option Addr} {p d : By} {n c : Nat} (w : World) (hk : x = (k.toNat : Int)) (hp : Rd w A p) (hn : n = p.length) (hl : p.length ≤ 9000) (hd : d.length = 32) :
    CallsR Try.prog 8 [.agg (B8 d).toArray, .agg #[.int .u8 x, .slice A n c]] w fun v w' => ∃ (A' : Option Addr) (bs : By) (c' : Nat) (e : By) (z : Int), v = .tuple #[.slice A' bs.length c', .agg (B8 e).toArray, .int .i64 z] ∧ OwnH w' w.heap.size w'.heap.size A' c' bs ∧ (z = 0 ∨ z = 2) ∧ (z = 0 ↔ OkR (k, p)) ∧ (z = 0 → bs = bytesR d (k, p) ∧ e = nextB d (k, p)) ∧ (z ≠ 0 → bs = []) ∧ e.length = 32 ∧ Below w.heap.size w w' := by
  subst hk
  exact C_RecBytes w hp hn hl hd
theorem C_RecBytesBad {k : UInt8} {x : Int} {A : Option Addr} {p d : By} {n c : Nat} (w : World) (hk : x = (k.toNat : Int)) (hp : Rd w A p) (hO : ¬ OkR (k, p)) (hn : n = p.length) (hl : p.length ≤ 9000) (hd : d.length = 32) :
    CallsR Try.prog 8 [.agg (B8 d).toArray, .agg #[.int .u8 x, .slice A n c]] w fun v w' => ∃ (A' : Option Addr) (c' : Nat) (e : By), v = .tuple #[.slice A' 0 c', .agg (B8 e).toArray, .int .i64 2] ∧ OwnH w' w.heap.size w'.heap.size A' c' [] ∧ e.length = 32 ∧ Below w.heap.size w w' := by
  refine (C_RecBytesZ w hk hp hn hl hd).mono ?_
  rintro v w' ⟨A', bs, c', e, z, rfl, h1, h2, h3, _, h5, h6, h7⟩
  have hz : z ≠ 0 := fun e => hO (h3.1 e)
  obtain rfl := h5 hz
  obtain rfl : z = 2 := by omega
  exact ⟨A', c', e, rfl, h1, h6, h7⟩
theorem C_RecBytesOk {k : UInt8} {x : Int} {A : Option Addr} {p d bs e : By} {n c : Nat} (w : World) (hk : x = (k.toNat : Int)) (hp : Rd w A p) (hO : OkR (k, p)) (hr : bytesR d (k, p) = bs) (hs : nextB d (k, p) = e) (hn : n = p.length) (hl : p.length ≤ 9000) (hd : d.length = 32) :
    CallsR Try.prog 8 [.agg (B8 d).toArray, .agg #[.int .u8 x, .slice A n c]] w fun v w' => ∃ (A' : Option Addr) (c' : Nat), v = .tuple #[.slice A' bs.length c', .agg (B8 e).toArray, .int .i64 0] ∧ OwnH w' w.heap.size w'.heap.size A' c' bs ∧ Below w.heap.size w w' := by
  refine (C_RecBytesZ w hk hp hn hl hd).mono ?_
  rintro v w' ⟨A', bs', c', e', z, rfl, h1, h2, h3, h4, h5, h6, h7⟩
  obtain rfl := h3.2 hO
  obtain ⟨rfl, rfl⟩ := h4 rfl
  rw [hr] at h1 ⊢
  rw [hs]
  exact ⟨A', c', rfl, h1, h7⟩
theorem C_CheckBad {k : UInt8} {x : Int} {A : Option Addr} {p : By} {n c : Nat} (w : World) (hk : x = (k.toNat : Int)) (hO : ¬ OkR (k, p)) (hn : n = p.length) :
    CallsR Try.prog 13 [.agg #[.int .u8 x, .slice A n c]] w fun v w' => v = .int .i64 2 ∧ Below w.heap.size w w' := by
  refine (C_CheckZ w hk hn).mono ?_
  rintro v w' ⟨z, rfl, h2, h3, h7⟩
  have hz : z ≠ 0 := fun e => hO (h3.1 e)
  obtain rfl : z = 2 := by omega
  exact ⟨rfl, h7⟩
theorem C_SameZ {k q : UInt8} {x y : Int} {A B : Option Addr} {a b : By} {n c m d : Nat} (w : World) (hk : x = (k.toNat : Int)) (hq : y = (q.toNat : Int)) (hA : Rd w A a) (hB : Rd w B b) (hn : n = a.length) (hm : m = b.length) :
    CallsR Try.prog 15 [.agg #[.int .u8 x, .slice A n c], .agg #[.int .u8 y, .slice B m d]] w fun v w' => v = .bool (decide ((k, a) = (q, b))) ∧ Below w.heap.size w w' := by
  subst hk; subst hq
  exact C_Same w hA hB hn hm
theorem C_kRecZ {k q : UInt8} {x y : Int} {A B : Option Addr} {a b : By} {n c m d : Nat} (w : World) (hk : x = (k.toNat : Int)) (hq : y = (q.toNat : Int)) (hA : Rd w A a) (hB : Rd w B b) (hn : n = a.length) (hm : m = b.length) :
    CallsR Try.prog 12 [.agg #[.int .u8 x, .slice A n c], .agg #[.int .u8 y, .slice B m d]] w fun v w' => v = .bool (decide ((k, a) = (q, b))) ∧ Below w.heap.size w w' := by
  subst hk; subst hq
  exact C_kRec w hA hB hn hm
theorem ev_rec0 : readR nul32 [0] = ((0, []), 0, nul32, 4) := by kernel_rfl
theorem ev_recN : readR nul32 [] = ((0, []), 0, nul32, 5) := by kernel_rfl
theorem C_lives08 (w : World) : CallsR Try.prog 11 [] w fun v w' => v = .bool true ∧ Below w.heap.size w w' := by
  have e1 := ev_rec0
  have e2 := ev_recN
  have u1 : (1 : Int) = ((1 : UInt8).toNat : Int) := rfl
  refine callsR Try.func11 rfl rfl (by kernel_rfl) rfl ?_
  have hw := Below.refl w.heap.size w
  refine rk_seq ?_
  refine rk_region ?_
  refine wl_p (fun _ => o_assign rfl) ?_
  refine wl_nil ?_
  refine rk_seq ?_
  refine rk_region ?_
  refine wl_p (fun _ => (o_buildD0)) ?_
  refine wl_litB [0] Try.u8 Try.sizeOf5 Try.zeroValue5 (by rfl) rfl rfl (by rfl) (by rfl) (by rfl) ?_
  rintro A11 w11 f11 b11
  have qf11 := f11.cap
  have s11 := b11.size
  replace hw := hw.trans (b11.mono hw.size)
  refine wl_call rfl (C_RecReadN _ e1 f11.to_Rd (by rfl) (by omega) (by rfl) (by omega)) ?_
  rintro v12 w12 ⟨A12, ⟨c12, ⟨rfl, ⟨f12, b12⟩⟩⟩⟩
  dsimp only at f12
  dsimp only
  have qf12 := f12.cap
  have s12 := b12.size
  replace hw := hw.trans (b12.mono hw.size)
  replace f11 := f11.u b12
  refine wl_p (fun _ => o_move rfl) ?_
  refine wl_p (fun _ => o_ext40 rfl) ?_
  refine wl_p (fun _ => o_ext41 rfl) ?_
  refine wl_p (fun _ => o_ext42 rfl) ?_
  refine wl_p (fun _ => o_ext43 rfl) ?_
  refine wl_allocg [_, _] Try.zeroValue31 (by rfl) ?_
  rintro g1 w1 f1 b1 i1 i1_1
  have s1 := b1.size
  replace hw := hw.trans (b1.mono hw.size)
  replace f11 := f11.u b1
  replace f12 := f12.u b1
  refine wl_allocB Try.underlying23 Try.zeroValue23 (by rfl) ?_
  rintro g3 w3 f3 b3 i3 i3_1
  have s3 := b3.size
  replace hw := hw.trans (b3.mono hw.size)
  replace f12 := f12.u b3
  replace f11 := f11.u b3
  replace f1 := f1.u b3
  refine wl_storega Try.sizeOf31 rfl rfl (by rfl) (oneCell_of (by rfl)) f1 (by rfl) ?_
  rintro w_1 f g e
  have s := g.size
  replace hw := hw.trans (below_of_grownBy g.g hw.size (by omega))
  replace f11 := f11.k g.g (ap_some (by omega))
  replace f12 := f12.k g.g (ap_some (by omega))
  replace f3 := f3.k g.g (ap_some (by omega))
  clear f1
  refine wl_p (fun _ => o_assign rfl) ?_
  refine wl_stBa Try.sizeOf23 rfl f3 rfl (by rfl) (by rfl) ?_
  rintro w_2 f_1 g_1 e_1
  have s_1 := g_1.size
  replace hw := hw.trans (below_of_grownBy g_1.g hw.size (by omega))
  replace f12 := f12.k g_1.g (ap_some (by omega))
  replace f11 := f11.k g_1.g (ap_some (by omega))
  replace f := f.k g_1.g (ap_some (by omega))
  clear f3
  refine wl_p (fun _ => o_assign rfl) ?_
  refine wl_nil ?_
  refine rk_seq ?_
  refine rk_region ?_
  refine wl_p (fun _ => (o_buildD0)) ?_
  refine wl_call rfl (C_RecReadN _ e2 (Rd.nil_) (by rfl) (by simp) (by rfl) (by simp)) ?_
  rintro v19 w19 ⟨A19, ⟨c19, ⟨rfl, ⟨f19, b19⟩⟩⟩⟩
  dsimp only at f19
  dsimp only
  have qf19 := f19.cap
  have s19 := b19.size
  replace hw := hw.trans (b19.mono hw.size)
  replace f := f.u b19
  replace f11 := f11.u b19
  replace f12 := f12.u b19
  replace f_1 := f_1.u b19
  refine wl_p (fun _ => o_move rfl) ?_
  refine wl_p (fun _ => o_ext40 rfl) ?_
  refine wl_p (fun _ => o_ext41 rfl) ?_
  refine wl_p (fun _ => o_ext42 rfl) ?_
  refine wl_p (fun _ => o_ext43 rfl) ?_
  refine wl_allocg [_, _] Try.zeroValue31 (by rfl) ?_
  rintro g5 w5 f5 b5 i5 i5_1
  have s5 := b5.size
  replace hw := hw.trans (b5.mono hw.size)
  replace f_1 := f_1.u b5
  replace f12 := f12.u b5
  replace f11 := f11.u b5
  replace f := f.u b5
  replace f19 := f19.u b5
  refine wl_allocB Try.underlying23 Try.zeroValue23 (by rfl) ?_
  rintro g7 w7 f7 b7 i7 i7_1
  have s7 := b7.size
  replace hw := hw.trans (b7.mono hw.size)
  replace f19 := f19.u b7
  replace f := f.u b7
  replace f11 := f11.u b7
  replace f12 := f12.u b7
  replace f_1 := f_1.u b7
  replace f5 := f5.u b7
  refine wl_storega Try.sizeOf31 rfl rfl (by rfl) (oneCell_of (by rfl)) f5 (by rfl) ?_
  rintro w_3 f_2 g_2 e_2
  have s_2 := g_2.size
  replace hw := hw.trans (below_of_grownBy g_2.g hw.size (by omega))
  replace f_1 := f_1.k g_2.g (ap_some (by omega))
  replace f12 := f12.k g_2.g (ap_some (by omega))
  replace f11 := f11.k g_2.g (ap_some (by omega))
  replace f := f.k g_2.g (ap_some (by omega))
  replace f19 := f19.k g_2.g (ap_some (by omega))
  replace f7 := f7.k g_2.g (ap_some (by omega))
  clear f5
  refine wl_p (fun _ => o_assign rfl) ?_
  refine wl_stBa Try.sizeOf23 rfl f7 rfl (by rfl) (by rfl) ?_
  rintro w_4 f_3 g_3 e_3
  have s_3 := g_3.size
  replace hw := hw.trans (below_of_grownBy g_3.g hw.size (by omega))
  replace f19 := f19.k g_3.g (ap_some (by omega))
  replace f := f.k g_3.g (ap_some (by omega))
  replace f11 := f11.k g_3.g (ap_some (by omega))
  replace f12 := f12.k g_3.g (ap_some (by omega))
  replace f_1 := f_1.k g_3.g (ap_some (by omega))
  replace f_2 := f_2.k g_3.g (ap_some (by omega))
  clear f7
  refine wl_p (fun _ => o_assign rfl) ?_
  refine wl_nil ?_
  refine rk_seq ?_
  refine rk_region ?_
  refine wl_litC [97, 98, 99] Try.u8 Try.sizeOf5 Try.zeroValue5 (by rfl) rfl rfl (by rfl) (by rfl) (by rfl) ?_
  rintro A24 w24 f24 b24
  have s24 := b24.size
  replace hw := hw.trans (b24.mono hw.size)
  replace f_2 := f_2.u b24
  replace f_1 := f_1.u b24
  replace f12 := f12.u b24
  replace f11 := f11.u b24
  replace f := f.u b24
  replace f19 := f19.u b24
  replace f_3 := f_3.u b24
  refine wl_p (fun _ => (o_buildg [_, _] Try.underlying31 Try.zeroValue31 (by rfl) (by rfl) rfl (by rfl) (by rfl) (fun _ => by kernel_rfl))) ?_
  refine wl_call rfl (C_SizeZ _ u1 (by rfl) (by simp) f24.to_Rd) ?_
  rintro v27 w27 ⟨rfl, b27⟩
  have s27 := b27.size
  replace hw := hw.trans (b27.mono hw.size)
  replace f_3 := f_3.u b27
  replace f19 := f19.u b27
  replace f := f.u b27
  replace f11 := f11.u b27
  replace f12 := f12.u b27
  replace f_1 := f_1.u b27
  replace f_2 := f_2.u b27
  replace f24 := f24.u b27
  refine wl_p (fun _ => o_eq rfl rfl) ?_
  refine wl_p (fun _ => o_move rfl) ?_
  refine wl_p (fun _ => o_move rfl) ?_
  refine wl_p (fun _ => o_eq rfl rfl) ?_
  refine wl_p (fun _ => o_pick_t rfl rfl) ?_
  refine wl_p (fun _ => o_move rfl) ?_
  refine wl_p (fun _ => o_move rfl) ?_
  refine wl_p (fun _ => o_eq rfl rfl) ?_
  refine wl_p (fun _ => o_pick_t rfl rfl) ?_
  refine wl_p (fun _ => o_assign rfl) ?_
  refine wl_nil ?_
  refine ret1 rfl rfl ?_
  exact ⟨congrArg Value.bool (decide_eq_true rfl), hw⟩
end Go.Proofs.Ytpjedpmbninfcaa
