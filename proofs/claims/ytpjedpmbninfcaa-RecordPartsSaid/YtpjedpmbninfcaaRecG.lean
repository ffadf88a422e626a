/-
  The statement RecordBound: its walk; arguments opened.
-/
import Derived.Test.YtpjedpmbninfcaaRecD
import Derived.Test.YtpjedpmbninfcaaRecF
import Derived.Test.YtpjedpmbninfcaaDeq
import Derived.Test.YtpjedpmbninfcaaByt
import Derived.Test.YtpjedpmbninfcaaPick
namespace Go.Proofs.Ytpjedpmbninfcaa
open Go.RowKit
/-- A record, in memory. -/
def gRec : GoT Rc := ((gInt .u8).pair gBytes).map (fun p => (UInt8.ofNat p.1.toNat, p.2))
theorem gRec_R {w : World} {cs : List Value} {r : Rc} (h : gRec.R w cs r) : ∃ A c, cs = [.int .u8 (r.1.toNat : Int), .slice A r.2.length c] ∧ Rd w A r.2 ∧ r.2.length ≤ c ∧ c ≤ maxLen := by
  obtain ⟨⟨x, p⟩, rfl, c1, c2, rfl, ⟨rfl, hx⟩, A, c, rfl, h2, h3, h4⟩ := h
  refine ⟨A, c, ?_, h2, h3, h4⟩
  have hb := bounds_u8 hx
  have e : ((UInt8.ofNat x.toNat).toNat : Int) = x := by
    have hn : x.toNat < 256 := by simp only at hb; omega
    rw [UInt8.toNat_ofNat_of_lt' hn]; simp only at hb; omega
  show _ = [Value.int .u8 ((UInt8.ofNat x.toNat).toNat : Int), _]
  rw [e]; rfl
theorem opens_Rec : Opens Try.prog 31 gRec := opens_map (opens_struct Try.underlying31 (by kernel_rfl) (.more (opens_int Try.underlying5 (by kernel_rfl)) rfl (.one (opens_bytes Try.underlying26 Try.underlying5 (by kernel_rfl) (by kernel_rfl)) rfl)))
--@ arg api.Record arg_Record
theorem arg_Record {H : Type} {enc : TypeId × Value → H} {W : World} {base : Nat} {v : Value} {d : DataW H} {p : List MemPlace} (hok : Value.okWide Try.prog W .any base 31 v) (h : DataW.Trod enc Try.prog W 0 (fun _ => true) true 31 v d p) :
    ∃ (k : UInt8) (A : Option Addr) (c : Nat) (l : By), v = .agg #[.int .u8 (k.toNat : Int), .slice A l.length c] ∧ Rd W A l ∧ l.length ≤ c ∧ c ≤ maxLen := by
  obtain ⟨cs, r, rfl, h1⟩ := open_agg opens_Rec (.inl ⟨_, Try.underlying31⟩) hok h
  obtain ⟨A, c, rfl, h2, h3, h4⟩ := gRec_R h1
  exact ⟨_, A, c, _, rfl, h2, h3, h4⟩
theorem open_u8 {a : Int} (h : (Lit.int .u8 a).wf = true) : ∃ u : UInt8, a = (u.toNat : Int) := by
  have hb := bounds_u8 h
  exact ⟨UInt8.ofNat a.toNat, by rw [UInt8.toNat_ofNat_of_lt' (by show a.toNat < 256; omega)]; omega⟩
theorem xor_self (u v : UInt8) : u ^^^ v = u ↔ v = 0 := by
  constructor
  · intro h
    have : u ^^^ (u ^^^ v) = u ^^^ u := by rw [h]
    rw [← UInt8.xor_assoc, UInt8.xor_self, UInt8.zero_xor] at this
    exact this
  · rintro rfl; exact UInt8.xor_zero
set_option maxRecDepth 100000 in
set_option maxHeartbeats 4000000 in
theorem C_RecordBound {k u : UInt8} {A : Option Addr} {p c d : By} {cc : Nat} {at0 : Int} (w : World) (hp : Rd w A p) (hcp : p.length ≤ cc) (hc : c.length = 32) (hd : d.length = 32) (wa : (Lit.int .i64 at0).wf = true) :
    CallsR Try.prog 4 [.agg #[.int .u8 (k.toNat : Int), .slice A p.length cc], .agg (B8 c).toArray, .agg (B8 d).toArray, .int .i64 at0, .int .u8 (u.toNat : Int)] w fun v w' => v = .bool true ∧ Below w.heap.size w w' := by
  refine callsR Try.func4 rfl rfl (by kernel_rfl) rfl ?_
  have hw := Below.refl w.heap.size w
  refine rk_seq ?_
  refine rk_region ?_
  refine wl_boxg [_, _] rfl (by rfl) ?_
  rintro g5 w5 f5 b5 i5 i5_1
  have s5 := b5.size
  replace hw := hw.trans (b5.mono hw.size)
  refine wl_boxg _ rfl (by rfl) ?_
  rintro g6 w6 f6 b6 i6 i6_1
  have s6 := b6.size
  replace hw := hw.trans (b6.mono hw.size)
  replace f5 := f5.u b6
  refine wl_boxg _ rfl (by rfl) ?_
  rintro g7 w7 f7 b7 i7 i7_1
  have s7 := b7.size
  replace hw := hw.trans (b7.mono hw.size)
  replace f5 := f5.u b7
  replace f6 := f6.u b7
  refine wl_p (fun _ => o_assign rfl) ?_
  refine wl_nil ?_
  refine rk_seq ?_
  refine rk_seq ?_
  refine rk_region ?_
  refine wl_call rfl (C_lives08 _) ?_
  rintro v31 w31 ⟨rfl, b31⟩
  have s31 := b31.size
  replace hw := hw.trans (b31.mono hw.size)
  replace f6 := f6.u b31
  replace f5 := f5.u b31
  replace f7 := f7.u b31
  refine wl_p (fun _ => o_not rfl) ?_
  refine wl_nil ?_
  refine rk_false rfl ?_
  refine rk_skip ?_
  refine rk_seq ?_
  refine rk_seq ?_
  refine rk_region ?_
  refine wl_p (fun _ => o_faddr (s := 31) (i := 1) (off := 1) Try.underlying31 rfl Try.sizeOf26 rfl rfl rfl) ?_
  refine wl_r (o_loadbg Try.isAgg26 rfl f5 (by rfl)) ?_
  refine wl_p (fun _ => o_len (t := 26) Try.underlying26 rfl) ?_
  refine wl_p (fun _ => o_gt rfl rfl) ?_
  refine wl_p (fun _ => o_move rfl) ?_
  refine wl_bool 37 rfl (fun h37 => ?_) (fun h37 => ?_) <;> try simp only [decide_eq_true_eq, decide_eq_false_iff_not, Bool.not_eq_true', Bool.not_eq_false', Bool.and_eq_true, Bool.and_eq_false_iff, Bool.or_eq_true, Bool.or_eq_false_iff] at h37
  · refine wl_off ?_
    refine wl_off ?_
    refine wl_off ?_
    refine wl_p (fun _ => o_pick_t rfl rfl) ?_
    refine wl_nil ?_
    refine rk_true rfl ?_
    refine rk_seq ?_
    refine rk_region ?_
    refine wl_p (fun _ => o_assign rfl) ?_
    refine wl_nil ?_
    refine ret1 rfl rfl ?_
    exact ⟨rfl, hw⟩
  · refine wl_r (o_loadag Try.isAgg31 Try.sizeOf31 rfl f5 (by rfl)) ?_
    refine wl_call rfl (C_CheckZ _ (by rfl) (by rfl)) ?_
    rintro v39 w39 ⟨z39, ⟨rfl, ⟨i39, ⟨i39_1, b39⟩⟩⟩⟩
    have s39 := b39.size
    replace hw := hw.trans (b39.mono hw.size)
    replace f7 := f7.u b39
    replace f5 := f5.u b39
    replace f6 := f6.u b39
    refine wl_p (fun _ => o_ne rfl rfl) ?_
    refine wl_p (fun _ => o_pick_f rfl rfl) ?_
    refine wl_nil ?_
    refine rk_if rfl (fun h41 => ?_) (fun h41 => ?_)
    · refine rk_seq ?_
      refine rk_region ?_
      refine wl_p (fun _ => o_assign rfl) ?_
      refine wl_nil ?_
      refine ret1 rfl rfl ?_
      exact ⟨rfl, hw⟩
    · have hO : OkR (k, p) := (show z39 = 0 ↔ OkR (k, p) by assumption).1 (by omega)
      obtain ⟨b, hb⟩ : ∃ b, bytesR c (k, p) = b := ⟨_, rfl⟩
      obtain ⟨n, hn⟩ : ∃ n, nextB c (k, p) = n := ⟨_, rfl⟩
      obtain ⟨o, ho⟩ : ∃ o, nextB d (k, p) = o := ⟨_, rfl⟩
      have n32 : n.length = 32 := by rw [← hn]; exact nextB_len _ _
      have o32 : o.length = 32 := by rw [← ho]; exact nextB_len _ _
      have hbl : b.length ≤ 9018 := by
        have := bodyB_le (r := (k, p)) (n := 9000) (by simp only; omega)
        rw [← hb, bytesR_len]; omega
      have hb0 : 8 ≤ b.length := by rw [← hb, bytesR_len]; omega
      have r1 : readR c b = ((k, p), b.length, n, 0) := by
        have := readR_own c hO []
        rw [List.append_nil, hb, hn] at this
        exact this
      have r2 := readR_app d c hO []
      rw [List.append_nil, hb, ho, hn] at r2
      obtain ⟨⟨⟨k2, p2⟩, z2, x2, e2⟩, hR2⟩ : ∃ s, readR d b = s := ⟨_, rfl⟩
      have r3 : (e2 = 0 ↔ o.take 8 = n.take 8) ∧ (e2 = 0 ∨ e2 = 4) ∧ x2.length = 32 := by
        rw [hR2] at r2
        split at r2
        · rename_i h
          simp only [Prod.mk.injEq] at r2
          exact ⟨⟨fun _ => h, fun _ => r2.2.2.2⟩, .inl r2.2.2.2, by rw [r2.2.2.1]; exact o32⟩
        · rename_i h
          simp only [Prod.mk.injEq] at r2
          exact ⟨⟨fun h0 => by omega, fun h' => absurd h' h⟩, .inr r2.2.2.2, by rw [r2.2.2.1]; rfl⟩
      clear r2
      obtain ⟨r3, r4, r5⟩ := r3
      have hpl : p.length ≤ 9000 := by omega
      have o8 : (o.take 8).length = 8 := by rw [List.length_take]; omega
      have n8 : (n.take 8).length = 8 := by rw [List.length_take]; omega
      refine rk_skip ?_
      refine rk_seq ?_
      refine rk_region ?_
      refine wl_r (o_ldBa Try.isAgg23 Try.sizeOf23 rfl f6 hc) ?_
      refine wl_r (o_loadag Try.isAgg31 Try.sizeOf31 rfl f5 (by rfl)) ?_
      refine wl_call rfl (C_RecBytesOk _ (by rfl) (hp.u hw) (by omega) hb hn rfl (by omega) hc) ?_
      rintro v45 w45 ⟨A45, ⟨c45, ⟨rfl, ⟨f45, b45⟩⟩⟩⟩
      have qf45 := f45.cap
      have s45 := b45.size
      replace hw := hw.trans (b45.mono hw.size)
      replace f6 := f6.u b45
      replace f5 := f5.u b45
      replace f7 := f7.u b45
      refine wl_p (fun _ => o_move rfl) ?_
      refine wl_p (fun _ => o_ext30 rfl) ?_
      refine wl_p (fun _ => o_ext31 rfl) ?_
      refine wl_p (fun _ => o_ext32 rfl) ?_
      refine wl_allocB Try.underlying23 Try.zeroValue23 (by rfl) ?_
      rintro g12 w12 f12 b12 i12 i12_1
      have s12 := b12.size
      replace hw := hw.trans (b12.mono hw.size)
      replace f7 := f7.u b12
      replace f5 := f5.u b12
      replace f6 := f6.u b12
      replace f45 := f45.u b12
      refine wl_p (fun _ => o_assign rfl) ?_
      refine wl_stBa Try.sizeOf23 rfl f12 rfl n32 (by rfl) ?_
      rintro w_1 f g e
      have s := g.size
      replace hw := hw.trans (below_of_grownBy g.g hw.size (by omega))
      replace f45 := f45.k g.g (ap_some (by omega))
      replace f6 := f6.k g.g (ap_some (by omega))
      replace f5 := f5.k g.g (ap_some (by omega))
      replace f7 := f7.k g.g (ap_some (by omega))
      clear f12
      refine wl_p (fun _ => o_assign rfl) ?_
      refine wl_nil ?_
      refine rk_seq ?_
      refine rk_region ?_
      refine wl_r (o_ldBa Try.isAgg23 Try.sizeOf23 rfl f6 hc) ?_
      refine wl_p (fun _ => o_move rfl) ?_
      refine wl_call rfl (C_RecReadN _ r1 f45.to_Rd rfl (by omega) hc (by omega)) ?_
      rintro v52 w52 ⟨A52, ⟨c52, ⟨rfl, ⟨f52, b52⟩⟩⟩⟩
      dsimp only at f52
      dsimp only
      have qf52 := f52.cap
      have s52 := b52.size
      replace hw := hw.trans (b52.mono hw.size)
      replace f7 := f7.u b52
      replace f5 := f5.u b52
      replace f6 := f6.u b52
      replace f45 := f45.u b52
      replace f := f.u b52
      refine wl_p (fun _ => o_move rfl) ?_
      refine wl_p (fun _ => o_ext40 rfl) ?_
      refine wl_p (fun _ => o_ext41 rfl) ?_
      refine wl_p (fun _ => o_ext42 rfl) ?_
      refine wl_p (fun _ => o_ext43 rfl) ?_
      refine wl_allocg [_, _] Try.zeroValue31 (by rfl) ?_
      rintro g14 w14 f14 b14 i14 i14_1
      have s14 := b14.size
      replace hw := hw.trans (b14.mono hw.size)
      replace f := f.u b14
      replace f45 := f45.u b14
      replace f6 := f6.u b14
      replace f5 := f5.u b14
      replace f7 := f7.u b14
      replace f52 := f52.u b14
      refine wl_allocB Try.underlying23 Try.zeroValue23 (by rfl) ?_
      rintro g16 w16 f16 b16 i16 i16_1
      have s16 := b16.size
      replace hw := hw.trans (b16.mono hw.size)
      replace f52 := f52.u b16
      replace f7 := f7.u b16
      replace f5 := f5.u b16
      replace f6 := f6.u b16
      replace f45 := f45.u b16
      replace f := f.u b16
      replace f14 := f14.u b16
      refine wl_storega Try.sizeOf31 rfl rfl (by rfl) (oneCell_of (by rfl)) f14 (by rfl) ?_
      rintro w_2 f_1 g_1 e_1
      have s_1 := g_1.size
      replace hw := hw.trans (below_of_grownBy g_1.g hw.size (by omega))
      replace f := f.k g_1.g (ap_some (by omega))
      replace f45 := f45.k g_1.g (ap_some (by omega))
      replace f6 := f6.k g_1.g (ap_some (by omega))
      replace f5 := f5.k g_1.g (ap_some (by omega))
      replace f7 := f7.k g_1.g (ap_some (by omega))
      replace f52 := f52.k g_1.g (ap_some (by omega))
      replace f16 := f16.k g_1.g (ap_some (by omega))
      clear f14
      refine wl_p (fun _ => o_assign rfl) ?_
      refine wl_stBa Try.sizeOf23 rfl f16 rfl n32 (by rfl) ?_
      rintro w_3 f_2 g_2 e_2
      have s_2 := g_2.size
      replace hw := hw.trans (below_of_grownBy g_2.g hw.size (by omega))
      replace f52 := f52.k g_2.g (ap_some (by omega))
      replace f7 := f7.k g_2.g (ap_some (by omega))
      replace f5 := f5.k g_2.g (ap_some (by omega))
      replace f6 := f6.k g_2.g (ap_some (by omega))
      replace f45 := f45.k g_2.g (ap_some (by omega))
      replace f := f.k g_2.g (ap_some (by omega))
      replace f_1 := f_1.k g_2.g (ap_some (by omega))
      clear f16
      refine wl_p (fun _ => o_assign rfl) ?_
      refine wl_nil ?_
      refine rk_seq ?_
      refine rk_seq ?_
      refine rk_region ?_
      refine wl_p (fun _ => o_move rfl) ?_
      refine wl_p (fun _ => o_ne rfl rfl) ?_
      refine wl_p (fun _ => o_move rfl) ?_
      refine wl_r (o_loadag Try.isAgg31 Try.sizeOf31 rfl f_1 (by rfl)) ?_
      refine wl_r (o_loadag Try.isAgg31 Try.sizeOf31 rfl f5 (by rfl)) ?_
      refine wl_call rfl (C_kRecZ _ (by rfl) (by rfl) f52.to_Rd (hp.u hw) rfl rfl) ?_
      rintro v62 w62 ⟨rfl, b62⟩
      have s62 := b62.size
      replace hw := hw.trans (b62.mono hw.size)
      replace f_1 := f_1.u b62
      replace f := f.u b62
      replace f45 := f45.u b62
      replace f6 := f6.u b62
      replace f5 := f5.u b62
      replace f7 := f7.u b62
      replace f52 := f52.u b62
      replace f_2 := f_2.u b62
      refine wl_p (fun _ => o_not rfl) ?_
      refine wl_p (fun _ => o_pick_f rfl rfl) ?_
      refine wl_p (fun _ => o_move rfl) ?_
      refine wl_know 65 false rfl (by simp) ?_
      refine wl_p (fun _ => o_move rfl) ?_
      refine wl_p (fun _ => o_move rfl) ?_
      refine wl_p (fun _ => o_len (t := 26) Try.underlying26 rfl) ?_
      refine wl_p (fun _ => o_ne rfl rfl) ?_
      refine wl_p (fun _ => o_pick_f rfl rfl) ?_
      refine wl_p (fun _ => o_move rfl) ?_
      refine wl_know 71 false rfl (decide_eq_false (by omega)) ?_
      refine wl_r (o_ldBa Try.isAgg23 Try.sizeOf23 rfl f_2 n32) ?_
      refine wl_r (o_ldBa Try.isAgg23 Try.sizeOf23 rfl f n32) ?_
      refine wl_p (fun _ => (o_neD32 rfl rfl n32 n32)) ?_
      refine wl_p (fun _ => o_pick_f rfl rfl) ?_
      refine wl_nil ?_
      refine rk_cond rfl (fun h75 => by simp at h75) (fun h75 => ?_)
      refine rk_skip ?_
      refine rk_seq ?_
      refine rk_region ?_
      refine wl_r (o_ldBa Try.isAgg23 Try.sizeOf23 rfl f7 hd) ?_
      refine wl_r (o_loadag Try.isAgg31 Try.sizeOf31 rfl f5 (by rfl)) ?_
      refine wl_call rfl (C_Next _ (hp.u hw) rfl (by omega) hd ho) ?_
      rintro v78 w78 ⟨rfl, b78⟩
      have s78 := b78.size
      replace hw := hw.trans (b78.mono hw.size)
      replace f_2 := f_2.u b78
      replace f52 := f52.u b78
      replace f7 := f7.u b78
      replace f5 := f5.u b78
      replace f6 := f6.u b78
      replace f45 := f45.u b78
      replace f := f.u b78
      replace f_1 := f_1.u b78
      refine wl_allocB Try.underlying23 Try.zeroValue23 (by rfl) ?_
      rintro g18 w18 f18 b18 i18 i18_1
      have s18 := b18.size
      replace hw := hw.trans (b18.mono hw.size)
      replace f_1 := f_1.u b18
      replace f := f.u b18
      replace f45 := f45.u b18
      replace f6 := f6.u b18
      replace f5 := f5.u b18
      replace f7 := f7.u b18
      replace f52 := f52.u b18
      replace f_2 := f_2.u b18
      refine wl_stBa Try.sizeOf23 rfl f18 rfl o32 (by rfl) ?_
      rintro w_4 f_3 g_3 e_3
      have s_3 := g_3.size
      replace hw := hw.trans (below_of_grownBy g_3.g hw.size (by omega))
      replace f_2 := f_2.k g_3.g (ap_some (by omega))
      replace f52 := f52.k g_3.g (ap_some (by omega))
      replace f7 := f7.k g_3.g (ap_some (by omega))
      replace f5 := f5.k g_3.g (ap_some (by omega))
      replace f6 := f6.k g_3.g (ap_some (by omega))
      replace f45 := f45.k g_3.g (ap_some (by omega))
      replace f := f.k g_3.g (ap_some (by omega))
      replace f_1 := f_1.k g_3.g (ap_some (by omega))
      clear f18
      refine wl_nil ?_
      refine rk_seq ?_
      refine rk_region ?_
      refine wl_r (o_ldBa Try.isAgg23 Try.sizeOf23 rfl f7 hd) ?_
      refine wl_p (fun _ => o_move rfl) ?_
      refine wl_call rfl (C_RecReadN _ hR2 f45.to_Rd rfl (by omega) hd (by omega)) ?_
      rintro v82 w82 ⟨A82, ⟨c82, ⟨rfl, ⟨f82, b82⟩⟩⟩⟩
      dsimp only at f82
      dsimp only
      have qf82 := f82.cap
      have s82 := b82.size
      replace hw := hw.trans (b82.mono hw.size)
      replace f_1 := f_1.u b82
      replace f := f.u b82
      replace f45 := f45.u b82
      replace f6 := f6.u b82
      replace f5 := f5.u b82
      replace f7 := f7.u b82
      replace f52 := f52.u b82
      replace f_2 := f_2.u b82
      replace f_3 := f_3.u b82
      refine wl_p (fun _ => o_move rfl) ?_
      refine wl_p (fun _ => o_ext40 rfl) ?_
      refine wl_p (fun _ => o_ext41 rfl) ?_
      refine wl_p (fun _ => o_ext42 rfl) ?_
      refine wl_p (fun _ => o_ext43 rfl) ?_
      refine wl_allocg [_, _] Try.zeroValue31 (by rfl) ?_
      rintro g19 w19 f19 b19 i19 i19_1
      have s19 := b19.size
      replace hw := hw.trans (b19.mono hw.size)
      replace f_3 := f_3.u b19
      replace f_2 := f_2.u b19
      replace f52 := f52.u b19
      replace f7 := f7.u b19
      replace f5 := f5.u b19
      replace f6 := f6.u b19
      replace f45 := f45.u b19
      replace f := f.u b19
      replace f_1 := f_1.u b19
      replace f82 := f82.u b19
      refine wl_allocB Try.underlying23 Try.zeroValue23 (by rfl) ?_
      rintro g21 w21 f21 b21 i21 i21_1
      have s21 := b21.size
      replace hw := hw.trans (b21.mono hw.size)
      replace f82 := f82.u b21
      replace f_1 := f_1.u b21
      replace f := f.u b21
      replace f45 := f45.u b21
      replace f6 := f6.u b21
      replace f5 := f5.u b21
      replace f7 := f7.u b21
      replace f52 := f52.u b21
      replace f_2 := f_2.u b21
      replace f_3 := f_3.u b21
      replace f19 := f19.u b21
      refine wl_storega Try.sizeOf31 rfl rfl (by rfl) (oneCell_of (by rfl)) f19 (by rfl) ?_
      rintro w_5 f_4 g_4 e_4
      have s_4 := g_4.size
      replace hw := hw.trans (below_of_grownBy g_4.g hw.size (by omega))
      replace f_3 := f_3.k g_4.g (ap_some (by omega))
      replace f_2 := f_2.k g_4.g (ap_some (by omega))
      replace f52 := f52.k g_4.g (ap_some (by omega))
      replace f7 := f7.k g_4.g (ap_some (by omega))
      replace f5 := f5.k g_4.g (ap_some (by omega))
      replace f6 := f6.k g_4.g (ap_some (by omega))
      replace f45 := f45.k g_4.g (ap_some (by omega))
      replace f := f.k g_4.g (ap_some (by omega))
      replace f_1 := f_1.k g_4.g (ap_some (by omega))
      replace f82 := f82.k g_4.g (ap_some (by omega))
      replace f21 := f21.k g_4.g (ap_some (by omega))
      clear f19
      refine wl_p (fun _ => o_assign rfl) ?_
      refine wl_stBa Try.sizeOf23 rfl f21 rfl r5 (by rfl) ?_
      rintro w_6 f_5 g_5 e_5
      have s_5 := g_5.size
      replace hw := hw.trans (below_of_grownBy g_5.g hw.size (by omega))
      replace f82 := f82.k g_5.g (ap_some (by omega))
      replace f_1 := f_1.k g_5.g (ap_some (by omega))
      replace f := f.k g_5.g (ap_some (by omega))
      replace f45 := f45.k g_5.g (ap_some (by omega))
      replace f6 := f6.k g_5.g (ap_some (by omega))
      replace f5 := f5.k g_5.g (ap_some (by omega))
      replace f7 := f7.k g_5.g (ap_some (by omega))
      replace f52 := f52.k g_5.g (ap_some (by omega))
      replace f_2 := f_2.k g_5.g (ap_some (by omega))
      replace f_3 := f_3.k g_5.g (ap_some (by omega))
      replace f_4 := f_4.k g_5.g (ap_some (by omega))
      clear f21
      refine wl_p (fun _ => o_assign rfl) ?_
      refine wl_nil ?_
      refine rk_seq ?_
      refine rk_seq ?_
      refine rk_draw (id := 11) (none) [0, 1, 0, 4, 0, 16, 40, 66, 128, 256, 768, 1280, 2048, 6144, 10496, 16640] [0, 1, 0, 4, 0, 16, 60, 127, 255, 511, 1023, 2047, 4095, 8191, 16383, 32767] 0 0 [(.p, 0), (.p, 1), (.p, 2), (.r, 3), (.p, 4), (.r, 5), (.p, 6), (.p, 7), (.p, 8), (.p, 9), (.p, 10), (.p, 11), (.p, 12), (.p, 13), (.p, 14), (.p, 15)] (by kernel_rfl) (by kernel_rfl) (by kernel_rfl) (by kernel_rfl) (by kernel_rfl) ?_
      replace hw := hw.drew
      replace f_4 := f_4.d
      replace f_3 := f_3.d
      replace f_2 := f_2.d
      replace f52 := f52.d
      replace f7 := f7.d
      replace f5 := f5.d
      replace f6 := f6.d
      replace f45 := f45.d
      replace f := f.d
      replace f_1 := f_1.d
      replace f82 := f82.d
      replace f_5 := f_5.d
      refine wl_p (fun _ => o_move rfl) ?_
      refine wl_p (fun _ => o_eq rfl rfl) ?_
      refine wl_p (fun _ => (o_slArrHi (8) Try.underlying23 Try.sizeOf5 rfl rfl (by omega) (by omega))) ?_
      have hr1 := rd_pre f_3 8
      have hr2 := rd_pre f 8
      refine wl_r (o_strU Try.underlying26 Try.underlying5 Try.underlying9 rfl hr1 (Below.refl _ _) (by omega)) ?_
      refine wl_p (fun _ => (o_slArrHi (8) Try.underlying23 Try.sizeOf5 rfl rfl (by omega) (by omega))) ?_
      refine wl_r (o_strU Try.underlying26 Try.underlying5 Try.underlying9 rfl hr2 (Below.refl _ _) (by omega)) ?_
      refine wl_p (fun _ => o_seq rfl rfl) ?_
      refine wl_p (fun _ => o_bne (t := 4) Try.underlying4 rfl rfl) ?_
      refine wl_p (fun _ => o_move rfl) ?_
      refine wl_know 95 false rfl (by simp; omega) ?_
      refine wl_p (fun _ => o_move rfl) ?_
      refine wl_p (fun _ => o_ne rfl rfl) ?_
      refine wl_p (fun _ => o_move rfl) ?_
      refine wl_joinf 4 (fun fb fr W => fr = [(102, .bool false)] ++ fb.drop 1 ∧ W = w_6.drew) ?_ (fun hj => ?_)
      rotate_left
      · refine wl_bool 98 rfl (fun h98 => ?_) (fun h98 => ?_) <;> try simp only [decide_eq_true_eq, decide_eq_false_iff_not, Bool.not_eq_true', Bool.not_eq_false', Bool.and_eq_true, Bool.and_eq_false_iff, Bool.or_eq_true, Bool.or_eq_false_iff] at h98
        · obtain rfl : e2 = 4 := by omega
          refine wl_p (fun _ => o_move rfl) ?_
          refine wl_p (fun _ => o_ne rfl rfl) ?_
          refine wl_p (fun _ => o_pick_t rfl rfl) ?_
          refine wl_p (fun _ => o_pick_f rfl rfl) ?_
          exact wl_tof hj (Fr.le_of (by kernel_rfl) (by kernel_rfl) (by repeat' constructor)) ⟨rfl, rfl⟩
        · refine wl_off ?_
          refine wl_off ?_
          refine wl_p (fun _ => o_pick_f rfl rfl) ?_
          refine wl_p (fun _ => o_pick_f rfl rfl) ?_
          exact wl_tof hj (Fr.le_of (by kernel_rfl) (by kernel_rfl) (by repeat' constructor)) ⟨rfl, rfl⟩
      rintro fr W ⟨rfl, rfl⟩
      first | refine rk_frame (by simp only [List.cons_append, List.nil_append, List.drop_succ_cons, List.drop_zero]; rfl) ?_ | refine wl_frame (by simp only [List.cons_append, List.nil_append, List.drop_succ_cons, List.drop_zero]; rfl) ?_
      have hpk := pick_range at0 b.length (by omega)
      obtain ⟨j, hj⟩ : ∃ j : Nat, pick at0 b.length = (j : Int) := ⟨(pick at0 b.length).toNat, by omega⟩
      have hjb : j < b.length := by omega
      have wb : (Lit.int .i64 (b.length : Int)).wf = true := i64_wf (by omega)
      obtain ⟨T, hT⟩ : ∃ T, b.set j (b[j] ^^^ u) = T := ⟨_, rfl⟩
      have hTl : T.length = b.length := by rw [← hT, List.length_set]
      obtain ⟨⟨⟨k3, p3⟩, z3, x3, e3⟩, hR3⟩ : ∃ s, readR c T = s := ⟨_, rfl⟩
      refine wl_nild ?_
      refine rk_false rfl ?_
      refine rk_skip ?_
      refine rk_seq ?_
      refine rk_region ?_
      refine wl_p (fun _ => o_move rfl) ?_
      refine wl_call rfl (C_OwnB _ f45.to_Rd rfl (by omega)) ?_
      rintro v104 w104 ⟨A104, ⟨c104, ⟨rfl, ⟨f104, b104⟩⟩⟩⟩
      simp only [drew_size] at f104
      simp only [drew_size] at b104
      have qf104 := f104.cap
      have s104 := b104.size
      simp only [drew_size] at s104
      replace hw := hw.trans (b104.mono hw.size)
      replace hr2 := hr2.u b104
      replace hr1 := hr1.u b104
      replace f_5 := f_5.u b104
      replace f82 := f82.u b104
      replace f_1 := f_1.u b104
      replace f := f.u b104
      replace f45 := f45.u b104
      replace f6 := f6.u b104
      replace f5 := f5.u b104
      replace f7 := f7.u b104
      replace f52 := f52.u b104
      replace f_2 := f_2.u b104
      replace f_3 := f_3.u b104
      replace f_4 := f_4.u b104
      refine wl_p (fun _ => o_assign rfl) ?_
      refine wl_nil ?_
      refine rk_seq ?_
      refine rk_region ?_
      refine wl_p (fun _ => o_move rfl) ?_
      refine wl_p (fun _ => o_move rfl) ?_
      refine wl_p (fun _ => o_len (t := 26) Try.underlying26 rfl) ?_
      refine wl_call rfl (C_PickR _ hj wa wb) ?_
      rintro v108 w108 ⟨rfl, b108⟩
      have s108 := b108.size
      replace hw := hw.trans (b108.mono hw.size)
      replace f_4 := f_4.u b108
      replace f_3 := f_3.u b108
      replace f_2 := f_2.u b108
      replace f52 := f52.u b108
      replace f7 := f7.u b108
      replace f5 := f5.u b108
      replace f6 := f6.u b108
      replace f45 := f45.u b108
      replace f := f.u b108
      replace f_1 := f_1.u b108
      replace f82 := f82.u b108
      replace f_5 := f_5.u b108
      replace hr1 := hr1.u b108
      replace hr2 := hr2.u b108
      replace f104 := f104.u b108
      refine wl_p (fun _ => o_assign rfl) ?_
      refine wl_nil ?_
      refine rk_seq ?_
      refine rk_region ?_
      refine wl_p (fun _ => o_move rfl) ?_
      refine wl_p (fun _ => o_move rfl) ?_
      refine wl_p (fun _ => o_move rfl) ?_
      refine wl_p (fun _ => o_move rfl) ?_
      refine wl_p (fun _ => (o_iaddrA1 (j) Try.underlying26 Try.sizeOf5 rfl rfl rfl (f104.some_ (by omega)) (by omega))) ?_
      refine wl_r (o_loadB Try.isAgg5 rfl f104.to_Rd (by omega)) ?_
      refine wl_p (fun _ => o_move rfl) ?_
      refine wl_p (fun _ => o_xor8 rfl rfl) ?_
      refine wl_p (fun _ => (o_iaddrA1 (j) Try.underlying26 Try.sizeOf5 rfl rfl rfl (f104.some_ (by omega)) (by omega))) ?_
      refine wl_stO Try.sizeOf5 rfl f104 rfl (by omega) ?_
      rintro w_7 f_6 g_6 b_1 e_6
      have qf_6 := f_6.cap
      have s_6 := g_6.size
      replace hw := hw.trans (b_1.mono (by omega))
      replace f_5 := f_5.y g_6 (by decide)
      replace f82 := f82.k g_6.g (f_6.ap (by omega))
      replace f_1 := f_1.y g_6 (by decide)
      replace f := f.y g_6 (by decide)
      replace f45 := f45.k g_6.g (f_6.ap (by omega))
      replace f6 := f6.y g_6 (by decide)
      replace f5 := f5.y g_6 (by decide)
      replace f7 := f7.y g_6 (by decide)
      replace f52 := f52.k g_6.g (f_6.ap (by omega))
      replace f_2 := f_2.y g_6 (by decide)
      replace f_3 := f_3.y g_6 (by decide)
      replace f_4 := f_4.y g_6 (by decide)
      clear f104
      clear hr2
      clear hr1
      rw [hT] at f_6
      have r7 : x3.length = 32 ∧ p3.length ≤ 8192 := by
        rcases readR_e c T with h | ⟨h, _⟩
        · rw [hR3] at h
          simp only at h
          subst h
          obtain ⟨h1, _, h3, _⟩ := readR_back hR3
          exact ⟨by rw [h3]; exact nextB_len _ _, h1.2⟩
        · rw [hR3] at h
          simp only [Prod.mk.injEq] at h
          obtain ⟨⟨_, h1⟩, _, h2, _⟩ := h
          exact ⟨by rw [h2]; rfl, by rw [h1]; simp⟩
      obtain ⟨r7, r8⟩ := r7
      refine wl_nil ?_
      refine rk_seq ?_
      refine rk_region ?_
      refine wl_r (o_ldBa Try.isAgg23 Try.sizeOf23 rfl f6 hc) ?_
      refine wl_p (fun _ => o_move rfl) ?_
      refine wl_call rfl (C_RecReadN _ hR3 f_6.to_Rd (by omega) (by omega) hc (by omega)) ?_
      rintro v121 w121 ⟨A121, ⟨c121, ⟨rfl, ⟨f121, b121⟩⟩⟩⟩
      dsimp only at f121
      dsimp only
      have qf121 := f121.cap
      have s121 := b121.size
      replace hw := hw.trans (b121.mono hw.size)
      replace f_4 := f_4.u b121
      replace f_3 := f_3.u b121
      replace f_2 := f_2.u b121
      replace f52 := f52.u b121
      replace f7 := f7.u b121
      replace f5 := f5.u b121
      replace f6 := f6.u b121
      replace f45 := f45.u b121
      replace f := f.u b121
      replace f_1 := f_1.u b121
      replace f82 := f82.u b121
      replace f_5 := f_5.u b121
      replace f_6 := f_6.u b121
      refine wl_p (fun _ => o_move rfl) ?_
      refine wl_p (fun _ => o_ext40 rfl) ?_
      refine wl_p (fun _ => o_ext41 rfl) ?_
      refine wl_p (fun _ => o_ext42 rfl) ?_
      refine wl_p (fun _ => o_ext43 rfl) ?_
      refine wl_allocg [_, _] Try.zeroValue31 (by rfl) ?_
      rintro g25 w25 f25 b25 i25 i25_1
      have s25 := b25.size
      replace hw := hw.trans (b25.mono hw.size)
      replace f_6 := f_6.u b25
      replace f_5 := f_5.u b25
      replace f82 := f82.u b25
      replace f_1 := f_1.u b25
      replace f := f.u b25
      replace f45 := f45.u b25
      replace f6 := f6.u b25
      replace f5 := f5.u b25
      replace f7 := f7.u b25
      replace f52 := f52.u b25
      replace f_2 := f_2.u b25
      replace f_3 := f_3.u b25
      replace f_4 := f_4.u b25
      replace f121 := f121.u b25
      refine wl_allocB Try.underlying23 Try.zeroValue23 (by rfl) ?_
      rintro g26 w26 f26 b26 i26 i26_1
      have s26 := b26.size
      replace hw := hw.trans (b26.mono hw.size)
      replace f121 := f121.u b26
      replace f_4 := f_4.u b26
      replace f_3 := f_3.u b26
      replace f_2 := f_2.u b26
      replace f52 := f52.u b26
      replace f7 := f7.u b26
      replace f5 := f5.u b26
      replace f6 := f6.u b26
      replace f45 := f45.u b26
      replace f := f.u b26
      replace f_1 := f_1.u b26
      replace f82 := f82.u b26
      replace f_5 := f_5.u b26
      replace f_6 := f_6.u b26
      replace f25 := f25.u b26
      refine wl_storega Try.sizeOf31 rfl rfl (by rfl) (oneCell_of (by rfl)) f25 (by rfl) ?_
      rintro w_8 f_7 g_7 e_7
      have s_7 := g_7.size
      replace hw := hw.trans (below_of_grownBy g_7.g hw.size (by omega))
      replace f_6 := f_6.k g_7.g (ap_some (by omega))
      replace f_5 := f_5.k g_7.g (ap_some (by omega))
      replace f82 := f82.k g_7.g (ap_some (by omega))
      replace f_1 := f_1.k g_7.g (ap_some (by omega))
      replace f := f.k g_7.g (ap_some (by omega))
      replace f45 := f45.k g_7.g (ap_some (by omega))
      replace f6 := f6.k g_7.g (ap_some (by omega))
      replace f5 := f5.k g_7.g (ap_some (by omega))
      replace f7 := f7.k g_7.g (ap_some (by omega))
      replace f52 := f52.k g_7.g (ap_some (by omega))
      replace f_2 := f_2.k g_7.g (ap_some (by omega))
      replace f_3 := f_3.k g_7.g (ap_some (by omega))
      replace f_4 := f_4.k g_7.g (ap_some (by omega))
      replace f121 := f121.k g_7.g (ap_some (by omega))
      replace f26 := f26.k g_7.g (ap_some (by omega))
      clear f25
      refine wl_p (fun _ => o_assign rfl) ?_
      refine wl_stBa Try.sizeOf23 rfl f26 rfl r7 (by rfl) ?_
      rintro w_9 f_8 g_8 e_8
      have s_8 := g_8.size
      replace hw := hw.trans (below_of_grownBy g_8.g hw.size (by omega))
      replace f121 := f121.k g_8.g (ap_some (by omega))
      replace f_4 := f_4.k g_8.g (ap_some (by omega))
      replace f_3 := f_3.k g_8.g (ap_some (by omega))
      replace f_2 := f_2.k g_8.g (ap_some (by omega))
      replace f52 := f52.k g_8.g (ap_some (by omega))
      replace f7 := f7.k g_8.g (ap_some (by omega))
      replace f5 := f5.k g_8.g (ap_some (by omega))
      replace f6 := f6.k g_8.g (ap_some (by omega))
      replace f45 := f45.k g_8.g (ap_some (by omega))
      replace f := f.k g_8.g (ap_some (by omega))
      replace f_1 := f_1.k g_8.g (ap_some (by omega))
      replace f82 := f82.k g_8.g (ap_some (by omega))
      replace f_5 := f_5.k g_8.g (ap_some (by omega))
      replace f_6 := f_6.k g_8.g (ap_some (by omega))
      replace f_7 := f_7.k g_8.g (ap_some (by omega))
      clear f26
      refine wl_p (fun _ => o_assign rfl) ?_
      refine wl_nil ?_
      refine rk_seq ?_
      refine rk_seq ?_
      refine rk_region ?_
      refine wl_p (fun _ => o_move rfl) ?_
      refine wl_p (fun _ => o_ne rfl rfl) ?_
      refine wl_p (fun _ => o_move rfl) ?_
      by_cases he3 : e3 = 0
      · subst he3
        obtain ⟨q1, q2, q3, q4, q5⟩ := readR_back hR3
        have hz : z3 ≤ T.length := by rw [q5, q2, List.length_append]; omega
        refine wl_p (fun _ => o_move rfl) ?_
        refine wl_p (fun _ => o_eq rfl rfl) ?_
        refine wl_p (fun _ => o_pick_f rfl rfl) ?_
        refine wl_nil ?_
        refine rk_if rfl (fun h131 => ?_) (fun h131 => ?_)
        · refine rk_seq ?_
          refine rk_region ?_
          refine wl_p (fun _ => o_move rfl) ?_
          refine wl_p (fun _ => o_ne rfl rfl) ?_
          refine wl_p (fun _ => o_move rfl) ?_
          refine wl_know 134 false rfl (decide_eq_false (by omega)) ?_
          refine wl_p (fun _ => o_move rfl) ?_
          refine wl_p (fun _ => o_eq rfl rfl) ?_
          refine wl_p (fun _ => o_pick_f rfl rfl) ?_
          refine wl_p (fun _ => o_assign rfl) ?_
          refine wl_nil ?_
          refine ret1 rfl rfl ?_
          exact ⟨rfl, hw⟩
        · obtain ⟨b3, hb3⟩ : ∃ b3, bytesR c (k3, p3) = b3 := ⟨_, rfl⟩
          obtain ⟨n3, hn3⟩ : ∃ n3, nextB c (k3, p3) = n3 := ⟨_, rfl⟩
          have n33 : n3.length = 32 := by rw [← hn3]; exact nextB_len _ _
          have hp3 : p3.length ≤ 9000 := by omega
          have hbt : b3 = T.take z3 := by rw [q5, q2, hb3, List.take_left]
          have hne : ¬ (k3, p3) = (k, p) := fun e => by
            rw [e, hb] at q5
            have hq4 : q4 = [] := List.length_eq_zero_iff.1 (by have := congrArg List.length q5; rw [List.length_append, hTl] at this; omega)
            rw [hq4, List.append_nil, ← hT] at q5
            have e2 : (b.set j (b[j] ^^^ u))[j]? = b[j]? := by rw [q5]
            rw [List.getElem?_set_self hjb, List.getElem?_eq_getElem hjb] at e2
            have e3 := (xor_self _ _).1 (Option.some.inj e2)
            rw [e3] at h131
            exact h131 rfl
          refine rk_skip ?_
          refine rk_seq ?_
          refine rk_region ?_
          refine wl_r (o_ldBa Try.isAgg23 Try.sizeOf23 rfl f6 hc) ?_
          refine wl_r (o_loadag Try.isAgg31 Try.sizeOf31 rfl f_7 (by rfl)) ?_
          refine wl_call rfl (C_RecBytesOk _ (by rfl) f121.to_Rd (by omega) hb3 hn3 rfl (by omega) hc) ?_
          rintro v141 w141 ⟨A141, ⟨c141, ⟨rfl, ⟨f141, b141⟩⟩⟩⟩
          have qf141 := f141.cap
          have s141 := b141.size
          replace hw := hw.trans (b141.mono hw.size)
          replace f_7 := f_7.u b141
          replace f_6 := f_6.u b141
          replace f_5 := f_5.u b141
          replace f82 := f82.u b141
          replace f_1 := f_1.u b141
          replace f := f.u b141
          replace f45 := f45.u b141
          replace f6 := f6.u b141
          replace f5 := f5.u b141
          replace f7 := f7.u b141
          replace f52 := f52.u b141
          replace f_2 := f_2.u b141
          replace f_3 := f_3.u b141
          replace f_4 := f_4.u b141
          replace f121 := f121.u b141
          replace f_8 := f_8.u b141
          refine wl_p (fun _ => o_move rfl) ?_
          refine wl_p (fun _ => o_ext30 rfl) ?_
          refine wl_p (fun _ => o_ext31 rfl) ?_
          refine wl_p (fun _ => o_ext32 rfl) ?_
          refine wl_allocB Try.underlying23 Try.zeroValue23 (by rfl) ?_
          rintro g29 w29 f29 b29 i29 i29_1
          have s29 := b29.size
          replace hw := hw.trans (b29.mono hw.size)
          replace f_8 := f_8.u b29
          replace f121 := f121.u b29
          replace f_4 := f_4.u b29
          replace f_3 := f_3.u b29
          replace f_2 := f_2.u b29
          replace f52 := f52.u b29
          replace f7 := f7.u b29
          replace f5 := f5.u b29
          replace f6 := f6.u b29
          replace f45 := f45.u b29
          replace f := f.u b29
          replace f_1 := f_1.u b29
          replace f82 := f82.u b29
          replace f_5 := f_5.u b29
          replace f_6 := f_6.u b29
          replace f_7 := f_7.u b29
          replace f141 := f141.u b29
          refine wl_p (fun _ => o_assign rfl) ?_
          refine wl_stBa Try.sizeOf23 rfl f29 rfl n33 (by rfl) ?_
          rintro w_10 f_9 g_9 e_9
          have s_9 := g_9.size
          replace hw := hw.trans (below_of_grownBy g_9.g hw.size (by omega))
          replace f141 := f141.k g_9.g (ap_some (by omega))
          replace f_7 := f_7.k g_9.g (ap_some (by omega))
          replace f_6 := f_6.k g_9.g (ap_some (by omega))
          replace f_5 := f_5.k g_9.g (ap_some (by omega))
          replace f82 := f82.k g_9.g (ap_some (by omega))
          replace f_1 := f_1.k g_9.g (ap_some (by omega))
          replace f := f.k g_9.g (ap_some (by omega))
          replace f45 := f45.k g_9.g (ap_some (by omega))
          replace f6 := f6.k g_9.g (ap_some (by omega))
          replace f5 := f5.k g_9.g (ap_some (by omega))
          replace f7 := f7.k g_9.g (ap_some (by omega))
          replace f52 := f52.k g_9.g (ap_some (by omega))
          replace f_2 := f_2.k g_9.g (ap_some (by omega))
          replace f_3 := f_3.k g_9.g (ap_some (by omega))
          replace f_4 := f_4.k g_9.g (ap_some (by omega))
          replace f121 := f121.k g_9.g (ap_some (by omega))
          replace f_8 := f_8.k g_9.g (ap_some (by omega))
          clear f29
          refine wl_p (fun _ => o_assign rfl) ?_
          refine wl_nil ?_
          refine rk_seq ?_
          refine rk_draw (id := 20) (none) [0, 1, 2, 4, 12, 4, 4, 100, 132, 276, 516, 1028, 2048, 2048, 14336, 18432, 34816, 131071] [0, 1, 3, 7, 15, 7, 7, 103, 231, 511, 1023, 2047, 4095, 4095, 16383, 32767, 65535, 131071] 16384 0 [(.p, 0), (.p, 1), (.p, 2), (.p, 3), (.r, 4), (.p, 5), (.p, 6), (.p, 7), (.r, 8), (.p, 9), (.p, 10), (.p, 11), (.r, 12), (.r, 13), (.l, 14), (.p, 15), (.p, 16), (.p, 17)] (by kernel_rfl) (by kernel_rfl) (by kernel_rfl) (by kernel_rfl) (by kernel_rfl) ?_
          replace hw := hw.drew
          replace f_8 := f_8.d
          replace f121 := f121.d
          replace f_4 := f_4.d
          replace f_3 := f_3.d
          replace f_2 := f_2.d
          replace f52 := f52.d
          replace f7 := f7.d
          replace f5 := f5.d
          replace f6 := f6.d
          replace f45 := f45.d
          replace f := f.d
          replace f_1 := f_1.d
          replace f82 := f82.d
          replace f_5 := f_5.d
          replace f_6 := f_6.d
          replace f_7 := f_7.d
          replace f141 := f141.d
          replace f_9 := f_9.d
          refine wl_p (fun _ => o_move rfl) ?_
          refine wl_p (fun _ => o_eq rfl rfl) ?_
          refine wl_p (fun _ => o_move rfl) ?_
          refine wl_p (fun _ => o_move rfl) ?_
          refine wl_r (o_strU Try.underlying26 Try.underlying5 Try.underlying9 rfl f141.to_Rd (Below.refl _ _) rfl) ?_
          refine wl_p (fun _ => o_move rfl) ?_
          refine wl_p (fun _ => o_move rfl) ?_
          refine wl_slBh Try.u8 (z3) rfl rfl f_6.to_Rd (by omega) rfl (by omega) (by omega) ?_
          rintro f152
          refine wl_r (o_strU Try.underlying26 Try.underlying5 Try.underlying9 rfl f152 (Below.refl _ _) (by simp; omega)) ?_
          refine wl_p (fun _ => o_seq rfl rfl) ?_
          refine wl_p (fun _ => o_pick_t rfl rfl) ?_
          refine wl_p (fun _ => o_move rfl) ?_
          refine wl_know 156 true rfl (decide_eq_true (by omega)) ?_
          refine wl_r (o_loadag Try.isAgg31 Try.sizeOf31 rfl f_7 (by rfl)) ?_
          refine wl_r (o_loadag Try.isAgg31 Try.sizeOf31 rfl f5 (by rfl)) ?_
          refine wl_call rfl (C_kRecZ _ (by rfl) (by rfl) f121.to_Rd (hp.u hw) rfl rfl) ?_
          rintro v159 w159 ⟨rfl, b159⟩
          simp only [drew_size] at b159
          have s159 := b159.size
          simp only [drew_size] at s159
          replace hw := hw.trans (b159.mono hw.size)
          replace f152 := f152.u b159
          replace f_9 := f_9.u b159
          replace f141 := f141.u b159
          replace f_7 := f_7.u b159
          replace f_6 := f_6.u b159
          replace f_5 := f_5.u b159
          replace f82 := f82.u b159
          replace f_1 := f_1.u b159
          replace f := f.u b159
          replace f45 := f45.u b159
          replace f6 := f6.u b159
          replace f5 := f5.u b159
          replace f7 := f7.u b159
          replace f52 := f52.u b159
          replace f_2 := f_2.u b159
          replace f_3 := f_3.u b159
          replace f_4 := f_4.u b159
          replace f121 := f121.u b159
          replace f_8 := f_8.u b159
          refine wl_p (fun _ => o_not rfl) ?_
          refine wl_p (fun _ => o_pick_t rfl rfl) ?_
          refine wl_p (fun _ => o_assign rfl) ?_
          refine wl_nild ?_
          refine ret1 rfl rfl ?_
          exact ⟨congrArg Value.bool (by rw [decide_eq_false hne]; rfl), hw⟩
      · have hu : u.toNat ≠ 0 := fun h0 => he3 (by
          have e0 : u = 0 := UInt8.toNat_inj.1 (by rw [h0]; rfl)
          rw [e0, UInt8.xor_zero, List.set_getElem_self] at hT
          rw [← hT, r1] at hR3
          simp only [Prod.mk.injEq] at hR3
          exact hR3.2.2.2.symm)
        refine wl_know 128 true rfl (decide_eq_true (by omega)) ?_
        refine wl_off ?_
        refine wl_off ?_
        refine wl_p (fun _ => o_pick_t rfl rfl) ?_
        refine wl_nil ?_
        refine rk_true rfl ?_
        refine rk_seq ?_
        refine rk_region ?_
        refine wl_p (fun _ => o_move rfl) ?_
        refine wl_p (fun _ => o_ne rfl rfl) ?_
        refine wl_p (fun _ => o_move rfl) ?_
        refine wl_know 134 true rfl (decide_eq_true (by omega)) ?_
        refine wl_off ?_
        refine wl_off ?_
        refine wl_p (fun _ => o_pick_t rfl rfl) ?_
        refine wl_p (fun _ => o_assign rfl) ?_
        refine wl_nil ?_
        refine ret1 rfl rfl ?_
        exact ⟨rfl, hw⟩
end Go.Proofs.Ytpjedpmbninfcaa
