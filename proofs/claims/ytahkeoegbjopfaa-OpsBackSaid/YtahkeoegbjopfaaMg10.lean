/-
  The statement OpsBack: contracts with named results, its arguments.
-/
import Derived.Test.YtahkeoegbjopfaaMg9
namespace Go.Proofs.Ytahkeoegbjopfaa
open Go.RowKit
theorem rk_joinkf {P : Program} {fn : Func} {F : Ending → World → Prop} {N : Nat} {k : K} {ks : List K} {fr : Fr} {w : World} (R : Fr → Fr → World → Prop) (h2 : ∀ fr' w, R fr fr' w → RK P fn F N ks fr' w) (h1 : ∀ ks, (∀ fr' w, R fr fr' w → RK P fn F N ks fr' w) → RK P fn F N (k :: ks) fr w) : RK P fn F N (k :: ks) fr w := h1 ks h2
section
variable {fn : Func} {F : Ending → World → Prop} {N : Nat} {ks : List K} {ops : Array Oper} {tg : Tags} {l : List Oper} {fr : Fr} {w w0 : World} {ty : TypeId} {pos : String} {aft : Array Edge} {gd : Option (Nat × Bool)} {d0 : Nat}
--@ rule buildSlice l wl_litO1r
theorem wl_litO1r {ps : Array (Nat × Operand)} {xs : List Operand} {k : Int} {K V : Option Addr} {p r : By} {m1 m2 c1 d1 : Nat} {u : Ky} (hxs : ps.toList.map Prod.snd = xs) (hx : fr.evs xs = some [.agg (opC k K m1 c1 V m2 d1 u).toArray]) (h1 : Rd w0 K p) (hb : Below w0.heap.size w0 w) (h4 : Rd w0 V r) (hm1 : m1 = p.length) (hm2 : m2 = r.length) (h2 : p.length ≤ c1) (h3 : c1 ≤ maxLen) (h5 : r.length ≤ d1) (h6 : d1 ≤ maxLen) (hk0 : (Lit.int .i64 k).wf = true) (hps : ps = ((List.range' 0 1).zip xs).toArray)
    (hk : ∀ A w', RO w' A [(k, p, r, u)] → Below w.heap.size w w' → WL Try.prog fn F N ks ops tg.tail l ((d0, .slice A 1 1) :: fr) w')
    (ht : tg.loud = true := by rfl) (hg : onG ops fr gd = true := by rfl) (hd : Nat.blt d0 N = true := by rfl) : WL Try.prog fn F N ks ops tg (⟨some d0, .buildSlice 22 1 ps, ty, pos, aft, gd⟩ :: l) fr w := by
  subst hm1; subst hm2
  refine wl_litRS (X := gOp) (L := [(k, p, r, u)]) Try.rowO Try.sizeOf31 Try.zeroValue31 hxs hps hx rfl rfl (fun i h => ?_) rfl hk ht hg hd
  obtain rfl : i = 0 := by simp at h; omega
  exact ⟨_, rfl, by show (opC k K p.length c1 V r.length d1 u).toArray.size = 35; rw [List.size_toArray, opC_length], [.int .i64 k], [.slice K p.length c1] ++ ([.slice V r.length d1] ++ B8 u.1), rfl, ⟨rfl, hk0⟩, [.slice K p.length c1], [.slice V r.length d1] ++ B8 u.1, rfl, ⟨K, c1, rfl, Rd.below h1 hb, h2, h3⟩, [.slice V r.length d1], B8 u.1, rfl, ⟨V, d1, rfl, Rd.below h4 hb, h5, h6⟩, rfl⟩
end
theorem C_lightOpsN {A : Option Addr} {L : List Opn} {n c m : Nat} {mi : Int} (w : World) (hL : RO w A L) (hno : ¬LtO L m) (hn : n = L.length) (hm : mi = (m : Int)) (hl : L.length ≤ 9223372036854775807) (hmm : m ≤ 1000) :
    CallsR Try.prog 6 [.slice A n c, .int .i64 mi] w fun v w' => v = .bool false ∧ Below w.heap.size w w' := by
  refine CallsR.mono (C_lightOps (c := c) w hL hn hm hl hmm) ?_
  rintro v w' ⟨b, rfl, h1, h2⟩
  cases b
  · exact ⟨rfl, h2⟩
  · exact absurd (h1.1 rfl) hno
theorem C_lightOpsY {A : Option Addr} {L : List Opn} {n c m : Nat} {mi : Int} (w : World) (hL : RO w A L) (hyes : LtO L m) (hn : n = L.length) (hm : mi = (m : Int)) (hl : L.length ≤ 9223372036854775807) (hmm : m ≤ 1000) :
    CallsR Try.prog 6 [.slice A n c, .int .i64 mi] w fun v w' => v = .bool true ∧ Below w.heap.size w w' := by
  refine CallsR.mono (C_lightOps (c := c) w hL hn hm hl hmm) ?_
  rintro v w' ⟨b, rfl, h1, h2⟩
  rw [h1.2 hyes]
  exact ⟨rfl, h2⟩
theorem C_lightStateN {A B C : Option Addr} {I : List (By × By)} {X Y : List Ky} {n c p d q e m : Nat} {mi : Int} (w : World) (hno : ¬LtS I X Y m) (hA : RI w A I) (hn : n = I.length) (hp : p = X.length) (hq : q = Y.length) (hm : mi = (m : Int)) (hmm : m ≤ 1000) :
    CallsR Try.prog 7 [.agg #[.slice A n c, .slice B p d, .slice C q e], .int .i64 mi] w fun v w' => v = .bool false ∧ Below w.heap.size w w' := by
  refine CallsR.mono (C_lightState (B := B) (C := C) (c := c) (d := d) (e := e) w hA hn hp hq hm hmm) ?_
  rintro v w' ⟨b, rfl, h1, h2⟩
  cases b
  · exact ⟨rfl, h2⟩
  · exact absurd (h1.1 rfl) hno
theorem C_lightStateY {A B C : Option Addr} {I : List (By × By)} {X Y : List Ky} {n c p d q e m : Nat} {mi : Int} (w : World) (hyes : LtS I X Y m) (hA : RI w A I) (hn : n = I.length) (hp : p = X.length) (hq : q = Y.length) (hm : mi = (m : Int)) (hmm : m ≤ 1000) :
    CallsR Try.prog 7 [.agg #[.slice A n c, .slice B p d, .slice C q e], .int .i64 mi] w fun v w' => v = .bool true ∧ Below w.heap.size w w' := by
  refine CallsR.mono (C_lightState (B := B) (C := C) (c := c) (d := d) (e := e) w hA hn hp hq hm hmm) ?_
  rintro v w' ⟨b, rfl, h1, h2⟩
  rw [h1.2 hyes]
  exact ⟨rfl, h2⟩
theorem opens_Op : Opens Try.prog 31 gOp :=
  have hb : Opens Try.prog 23 gBytes := opens_bytes Try.underlying23 Try.underlying5 (by kernel_rfl) (by kernel_rfl)
  have hk : Opens Try.prog 29 (gArr 32) := opens_arr8 Try.underlying29 Try.underlying5 (by kernel_rfl) (by kernel_rfl)
  opens_struct Try.underlying31 (by kernel_rfl) (.more (opens_int Try.underlying3 (by kernel_rfl)) rfl (.more hb rfl (.more hb rfl (.one hk rfl))))
--@ arg api.Op arg_Op
set_option maxRecDepth 100000 in
theorem arg_Op {H : Type} {enc : TypeId × Value → H} {W : World} {base : Nat} {v : Value} {d : DataW H} {p : List MemPlace} (hok : Value.okWide Try.prog W .any base 31 v) (h : DataW.Trod enc Try.prog W 0 (fun _ => true) true 31 v d p) :
    ∃ (o : Opn) (K : Option Addr) (c : Nat) (V : Option Addr) (d : Nat), v = .agg (opC o.1 K o.2.1.length c V o.2.2.1.length d o.2.2.2).toArray ∧ Rd W K o.2.1 ∧ Rd W V o.2.2.1 ∧ o.2.1.length ≤ c ∧ c ≤ maxLen ∧ o.2.2.1.length ≤ d ∧ d ≤ maxLen ∧ (Lit.int .i64 o.1).wf = true := by
  obtain ⟨cs, o, rfl, h1⟩ := open_agg opens_Op (.inl ⟨_, Try.underlying31⟩) hok h
  obtain ⟨K, c, V, d, rfl, h2⟩ := gOp_R h1
  exact ⟨o, K, c, V, d, rfl, h2⟩
--@ arg []api.Op arg_Ops
set_option maxRecDepth 100000 in
theorem arg_Ops {H : Type} {enc : TypeId × Value → H} {W : World} {base : Nat} {v : Value} {d : DataW H} {p : List MemPlace} (hok : Value.okWide Try.prog W .any base 22 v) (h : DataW.Trod enc Try.prog W 0 (fun _ => true) true 22 v d p) :
    ∃ (A : Option Addr) (c : Nat) (L : List Opn), v = .slice A L.length c ∧ RO W A L ∧ L.length ≤ c ∧ c ≤ maxLen := by
  obtain ⟨L, h1⟩ := open_slc (X := GoT.slice 31 gOp) (opens_slice Try.underlying22 (by kernel_rfl) (by decide) opens_Op) Try.underlying22 hok h
  obtain ⟨A, c, e, h2, h3, h4⟩ := slice_RSl h1
  injection e with e
  exact ⟨A, c, L, e, h2, h3, h4⟩
def gSt : GoT Stt := (GoT.slice 59 gItem).pair ((GoT.slice 29 (gArr 32)).pair (GoT.slice 29 (gArr 32)))
theorem opens_St : Opens Try.prog 27 gSt :=
  have hb : Opens Try.prog 23 gBytes := opens_bytes Try.underlying23 Try.underlying5 (by kernel_rfl) (by kernel_rfl)
  have hI : Opens Try.prog 59 gItem := opens_struct Try.underlying59 (by kernel_rfl) (.more hb rfl (.one hb rfl))
  have hk : Opens Try.prog 29 (gArr 32) := opens_arr8 Try.underlying29 Try.underlying5 (by kernel_rfl) (by kernel_rfl)
  opens_struct Try.underlying27 (by kernel_rfl) (.more (opens_slice Try.underlying24 (by kernel_rfl) (by decide) hI) rfl (.more (opens_slice Try.underlying25 (by kernel_rfl) (by decide) hk) rfl (.one (opens_slice Try.underlying25 (by kernel_rfl) (by decide) hk) rfl)))
--@ arg api.State arg_State
set_option maxRecDepth 100000 in
theorem arg_State {H : Type} {enc : TypeId × Value → H} {W : World} {base : Nat} {v : Value} {d : DataW H} {p : List MemPlace} (hok : Value.okWide Try.prog W .any base 27 v) (h : DataW.Trod enc Try.prog W 0 (fun _ => true) true 27 v d p) :
    ∃ (I : List (By × By)) (X Y : List Ky) (A : Option Addr) (c : Nat) (B : Option Addr) (d : Nat) (C : Option Addr) (e : Nat), v = .agg #[.slice A I.length c, .slice B X.length d, .slice C Y.length e] ∧ RI W A I ∧ RKs W B X ∧ RKs W C Y := by
  obtain ⟨cs, ⟨I, X, Y⟩, rfl, c1, c2, rfl, h1, c3, c4, rfl, h2, h3⟩ := open_agg opens_St (.inl ⟨_, Try.underlying27⟩) hok h
  obtain ⟨A, c, rfl, hA, _⟩ := slice_RSl h1
  obtain ⟨B, d, rfl, hB, _⟩ := slice_RSl h2
  obtain ⟨C, e, rfl, hC, _⟩ := slice_RSl h3
  exact ⟨I, X, Y, A, c, B, d, C, e, rfl, hA, hB, hC⟩
theorem bytesO_len {L : List Opn} {x : By} (h : bytesO L = (x, 0)) : x.length ≤ 1000 := by
  obtain ⟨h1, h2, rfl⟩ := bytesO_ok h
  have : ∀ (M : List Opn), (∀ o ∈ M, okO o = true) → (M.flatMap opB).length ≤ M.length * 71 := fun M => by
    induction M with
    | nil => intro _; simp
    | cons o M ih =>
      intro hM
      have h3 := ih fun x hx => hM x (List.mem_cons_of_mem _ hx)
      have h4 := hM o (List.mem_cons_self ..)
      unfold okO okOp at h4
      simp only [Bool.and_eq_true] at h4
      obtain ⟨h5, h6⟩ := goodS_le h4.2
      have h7 := tailS_le (k := o.1) (u := o.2.2.2) h5 h6
      rw [List.flatMap_cons, List.length_append, List.length_cons]
      have h8 : (opB o).length = (tailS o.1 o.2.1 o.2.2.1 o.2.2.2).length + 1 := rfl
      rw [Nat.succ_mul]
      omega
  have h3 := this L h2
  rw [List.length_cons]
  omega
theorem okO_le {L : List Opn} (h : ∀ o ∈ L, okO o = true) : ∀ o ∈ L, o.2.1.length ≤ 4000000 ∧ o.2.2.1.length ≤ 4000000 := fun o ho => by
  have h4 := h o ho
  unfold okO okOp at h4
  simp only [Bool.and_eq_true] at h4
  obtain ⟨h5, h6⟩ := goodS_le h4.2
  omega
end Go.Proofs.Ytahkeoegbjopfaa
/-
  The statement OpsBack: its walk.
-/
namespace Go.Proofs.Ytahkeoegbjopfaa
open Go.RowKit
set_option maxRecDepth 100000 in
set_option maxHeartbeats 40000000 in
theorem C_OpsBack {A B A1 A2 A3 K V0 O : Option Addr} {L : List Opn} {raw p q oth : By} {I : List (By × By)} {X Y : List Ky} {k : Int} {u : Ky} {c cr c1 c2 c3 ck cv co : Nat} (w : World) (hL : RO w A L) (hlc : L.length ≤ c) (hcm : c ≤ maxLen) (hR : Rd w B raw) (hRc : raw.length ≤ cr) (hRm : cr ≤ maxLen) (hI : RI w A1 I) (hX : RKs w A2 X) (hY : RKs w A3 Y)
    (hK : Rd w K p) (hV : Rd w V0 q) (hpc : p.length ≤ ck) (hpm : ck ≤ maxLen) (hqc : q.length ≤ cv) (hqm : cv ≤ maxLen) (hkw : (Lit.int .i64 k).wf = true) (hO : Rd w O oth) (hOc : oth.length ≤ co) (hOm : co ≤ maxLen) :
    CallsR Try.prog 3 [.slice A L.length c, .slice B raw.length cr, .agg #[.slice A1 I.length c1, .slice A2 X.length c2, .slice A3 Y.length c3], .agg (opC k K p.length ck V0 q.length cv u).toArray, .slice O oth.length co] w fun v w' => v = .bool true ∧ Below w.heap.size w w' := by
  have hmx : maxLen = 9223372036854775807 := rfl
  refine callsR Try.func3 rfl rfl (by kernel_rfl) rfl ?_
  have hw := Below.refl w.heap.size w
  by_cases g1 : LtO L 24
  rotate_left
  · refine rk_seq ?_
    refine rk_region ?_
    refine wl_boxg [_, _, _] rfl (by rfl) ?_
    rintro g7 w7 f7 b7 i7 i7_1
    have s7 := b7.size
    replace hw := hw.trans (b7.mono hw.size)
    refine wl_boxg _ rfl (by rfl) ?_
    rintro g8 w8 f8 b8 i8 i8_1
    have s8 := b8.size
    replace hw := hw.trans (b8.mono hw.size)
    replace f7 := f7.u b8
    refine wl_p (fun _ => o_assign rfl) ?_
    refine wl_nil ?_
    refine rk_seq ?_
    refine rk_seq ?_
    refine rk_region ?_
    refine wl_call rfl (C_lives22 _) ?_
    rintro v28 w28 ⟨rfl, b28⟩
    have s28 := b28.size
    replace hw := hw.trans (b28.mono hw.size)
    replace f7 := f7.u b28
    replace f8 := f8.u b28
    refine wl_p (fun _ => o_not rfl) ?_
    refine wl_nil ?_
    refine rk_false rfl ?_
    refine rk_skip ?_
    refine rk_seq ?_
    refine rk_seq ?_
    refine rk_region ?_
    refine wl_p (fun _ => o_move rfl) ?_
    refine wl_call rfl (C_lightOpsN _ (hL.u hw) g1 rfl (by rfl) (by omega) (by omega)) ?_
    rintro v31 w31 ⟨rfl, b31⟩
    have s31 := b31.size
    replace hw := hw.trans (b31.mono hw.size)
    replace f8 := f8.u b31
    replace f7 := f7.u b31
    refine wl_p (fun _ => o_not rfl) ?_
    refine wl_p (fun _ => o_move rfl) ?_
    refine wl_off ?_
    refine wl_off ?_
    refine wl_off ?_
    refine wl_off ?_
    refine wl_p (fun _ => o_pick_t rfl rfl) ?_
    refine wl_p (fun _ => o_move rfl) ?_
    refine wl_off ?_
    refine wl_off ?_
    refine wl_off ?_
    refine wl_p (fun _ => o_pick_t rfl rfl) ?_
    refine wl_p (fun _ => o_move rfl) ?_
    refine wl_off ?_
    refine wl_off ?_
    refine wl_off ?_
    refine wl_p (fun _ => o_pick_t rfl rfl) ?_
    refine wl_p (fun _ => o_move rfl) ?_
    refine wl_off ?_
    refine wl_off ?_
    refine wl_off ?_
    refine wl_p (fun _ => o_pick_t rfl rfl) ?_
    refine wl_nil ?_
    refine rk_true rfl ?_
    refine rk_seq ?_
    refine rk_region ?_
    refine wl_p (fun _ => o_assign rfl) ?_
    refine wl_nil ?_
    refine ret1 rfl rfl ?_
    exact ⟨rfl, hw⟩
  by_cases g2 : LtO [(k, p, q, u)] 1
  rotate_left
  · refine rk_seq ?_
    refine rk_region ?_
    refine wl_boxg [_, _, _] rfl (by rfl) ?_
    rintro g7 w7 f7 b7 i7 i7_1
    have s7 := b7.size
    replace hw := hw.trans (b7.mono hw.size)
    refine wl_boxg _ rfl (by rfl) ?_
    rintro g8 w8 f8 b8 i8 i8_1
    have s8 := b8.size
    replace hw := hw.trans (b8.mono hw.size)
    replace f7 := f7.u b8
    refine wl_p (fun _ => o_assign rfl) ?_
    refine wl_nil ?_
    refine rk_seq ?_
    refine rk_seq ?_
    refine rk_region ?_
    refine wl_call rfl (C_lives22 _) ?_
    rintro v28 w28 ⟨rfl, b28⟩
    have s28 := b28.size
    replace hw := hw.trans (b28.mono hw.size)
    replace f7 := f7.u b28
    replace f8 := f8.u b28
    refine wl_p (fun _ => o_not rfl) ?_
    refine wl_nil ?_
    refine rk_false rfl ?_
    refine rk_skip ?_
    refine rk_seq ?_
    refine rk_seq ?_
    refine rk_region ?_
    refine wl_p (fun _ => o_move rfl) ?_
    refine wl_call rfl (C_lightOpsY _ (hL.u hw) g1 rfl (by rfl) (by omega) (by omega)) ?_
    rintro v31 w31 ⟨rfl, b31⟩
    have s31 := b31.size
    replace hw := hw.trans (b31.mono hw.size)
    replace f8 := f8.u b31
    replace f7 := f7.u b31
    refine wl_p (fun _ => o_not rfl) ?_
    refine wl_p (fun _ => o_move rfl) ?_
    refine wl_r (o_loadag Try.isAgg31 Try.sizeOf31 rfl f8 (opC_length ..)) ?_
    refine wl_litO1r (by rfl) rfl hK hw hV rfl rfl (by omega) (by omega) (by omega) (by omega) hkw (by rfl) ?_
    rintro A35 w35 f35 b35
    have s35 := b35.size
    replace hw := hw.trans (b35.mono hw.size)
    replace f7 := f7.u b35
    replace f8 := f8.u b35
    refine wl_call rfl (C_lightOpsN _ f35 g2 (by rfl) (by rfl) (by simp) (by omega)) ?_
    rintro v36 w36 ⟨rfl, b36⟩
    have s36 := b36.size
    replace hw := hw.trans (b36.mono hw.size)
    replace f8 := f8.u b36
    replace f7 := f7.u b36
    replace f35 := f35.u b36
    refine wl_p (fun _ => o_not rfl) ?_
    refine wl_p (fun _ => o_pick_f rfl rfl) ?_
    refine wl_p (fun _ => o_move rfl) ?_
    refine wl_off ?_
    refine wl_off ?_
    refine wl_off ?_
    refine wl_p (fun _ => o_pick_t rfl rfl) ?_
    refine wl_p (fun _ => o_move rfl) ?_
    refine wl_off ?_
    refine wl_off ?_
    refine wl_off ?_
    refine wl_p (fun _ => o_pick_t rfl rfl) ?_
    refine wl_p (fun _ => o_move rfl) ?_
    refine wl_off ?_
    refine wl_off ?_
    refine wl_off ?_
    refine wl_p (fun _ => o_pick_t rfl rfl) ?_
    refine wl_nil ?_
    refine rk_true rfl ?_
    refine rk_seq ?_
    refine rk_region ?_
    refine wl_p (fun _ => o_assign rfl) ?_
    refine wl_nil ?_
    refine ret1 rfl rfl ?_
    exact ⟨rfl, hw⟩
  by_cases g3 : raw.length ≤ 2000
  rotate_left
  · refine rk_seq ?_
    refine rk_region ?_
    refine wl_boxg [_, _, _] rfl (by rfl) ?_
    rintro g7 w7 f7 b7 i7 i7_1
    have s7 := b7.size
    replace hw := hw.trans (b7.mono hw.size)
    refine wl_boxg _ rfl (by rfl) ?_
    rintro g8 w8 f8 b8 i8 i8_1
    have s8 := b8.size
    replace hw := hw.trans (b8.mono hw.size)
    replace f7 := f7.u b8
    refine wl_p (fun _ => o_assign rfl) ?_
    refine wl_nil ?_
    refine rk_seq ?_
    refine rk_seq ?_
    refine rk_region ?_
    refine wl_call rfl (C_lives22 _) ?_
    rintro v28 w28 ⟨rfl, b28⟩
    have s28 := b28.size
    replace hw := hw.trans (b28.mono hw.size)
    replace f7 := f7.u b28
    replace f8 := f8.u b28
    refine wl_p (fun _ => o_not rfl) ?_
    refine wl_nil ?_
    refine rk_false rfl ?_
    refine rk_skip ?_
    refine rk_seq ?_
    refine rk_seq ?_
    refine rk_region ?_
    refine wl_p (fun _ => o_move rfl) ?_
    refine wl_call rfl (C_lightOpsY _ (hL.u hw) g1 rfl (by rfl) (by omega) (by omega)) ?_
    rintro v31 w31 ⟨rfl, b31⟩
    have s31 := b31.size
    replace hw := hw.trans (b31.mono hw.size)
    replace f8 := f8.u b31
    replace f7 := f7.u b31
    refine wl_p (fun _ => o_not rfl) ?_
    refine wl_p (fun _ => o_move rfl) ?_
    refine wl_r (o_loadag Try.isAgg31 Try.sizeOf31 rfl f8 (opC_length ..)) ?_
    refine wl_litO1r (by rfl) rfl hK hw hV rfl rfl (by omega) (by omega) (by omega) (by omega) hkw (by rfl) ?_
    rintro A35 w35 f35 b35
    have s35 := b35.size
    replace hw := hw.trans (b35.mono hw.size)
    replace f7 := f7.u b35
    replace f8 := f8.u b35
    refine wl_call rfl (C_lightOpsY _ f35 g2 (by rfl) (by rfl) (by simp) (by omega)) ?_
    rintro v36 w36 ⟨rfl, b36⟩
    have s36 := b36.size
    replace hw := hw.trans (b36.mono hw.size)
    replace f8 := f8.u b36
    replace f7 := f7.u b36
    replace f35 := f35.u b36
    refine wl_p (fun _ => o_not rfl) ?_
    refine wl_p (fun _ => o_pick_f rfl rfl) ?_
    refine wl_p (fun _ => o_move rfl) ?_
    refine wl_p (fun _ => o_move rfl) ?_
    refine wl_p (fun _ => o_len (t := 23) Try.underlying23 rfl) ?_
    refine wl_p (fun _ => o_gt rfl rfl) ?_
    refine wl_p (fun _ => o_pick_f rfl rfl) ?_
    refine wl_p (fun _ => o_move rfl) ?_
    refine wl_know 44 true rfl (decide_eq_true (by omega)) ?_
    refine wl_off ?_
    refine wl_off ?_
    refine wl_off ?_
    refine wl_p (fun _ => o_pick_t rfl rfl) ?_
    refine wl_p (fun _ => o_move rfl) ?_
    refine wl_off ?_
    refine wl_off ?_
    refine wl_off ?_
    refine wl_p (fun _ => o_pick_t rfl rfl) ?_
    refine wl_nil ?_
    refine rk_true rfl ?_
    refine rk_seq ?_
    refine rk_region ?_
    refine wl_p (fun _ => o_assign rfl) ?_
    refine wl_nil ?_
    refine ret1 rfl rfl ?_
    exact ⟨rfl, hw⟩
  by_cases g4 : oth.length ≤ 2000
  rotate_left
  · refine rk_seq ?_
    refine rk_region ?_
    refine wl_boxg [_, _, _] rfl (by rfl) ?_
    rintro g7 w7 f7 b7 i7 i7_1
    have s7 := b7.size
    replace hw := hw.trans (b7.mono hw.size)
    refine wl_boxg _ rfl (by rfl) ?_
    rintro g8 w8 f8 b8 i8 i8_1
    have s8 := b8.size
    replace hw := hw.trans (b8.mono hw.size)
    replace f7 := f7.u b8
    refine wl_p (fun _ => o_assign rfl) ?_
    refine wl_nil ?_
    refine rk_seq ?_
    refine rk_seq ?_
    refine rk_region ?_
    refine wl_call rfl (C_lives22 _) ?_
    rintro v28 w28 ⟨rfl, b28⟩
    have s28 := b28.size
    replace hw := hw.trans (b28.mono hw.size)
    replace f7 := f7.u b28
    replace f8 := f8.u b28
    refine wl_p (fun _ => o_not rfl) ?_
    refine wl_nil ?_
    refine rk_false rfl ?_
    refine rk_skip ?_
    refine rk_seq ?_
    refine rk_seq ?_
    refine rk_region ?_
    refine wl_p (fun _ => o_move rfl) ?_
    refine wl_call rfl (C_lightOpsY _ (hL.u hw) g1 rfl (by rfl) (by omega) (by omega)) ?_
    rintro v31 w31 ⟨rfl, b31⟩
    have s31 := b31.size
    replace hw := hw.trans (b31.mono hw.size)
    replace f8 := f8.u b31
    replace f7 := f7.u b31
    refine wl_p (fun _ => o_not rfl) ?_
    refine wl_p (fun _ => o_move rfl) ?_
    refine wl_r (o_loadag Try.isAgg31 Try.sizeOf31 rfl f8 (opC_length ..)) ?_
    refine wl_litO1r (by rfl) rfl hK hw hV rfl rfl (by omega) (by omega) (by omega) (by omega) hkw (by rfl) ?_
    rintro A35 w35 f35 b35
    have s35 := b35.size
    replace hw := hw.trans (b35.mono hw.size)
    replace f7 := f7.u b35
    replace f8 := f8.u b35
    refine wl_call rfl (C_lightOpsY _ f35 g2 (by rfl) (by rfl) (by simp) (by omega)) ?_
    rintro v36 w36 ⟨rfl, b36⟩
    have s36 := b36.size
    replace hw := hw.trans (b36.mono hw.size)
    replace f8 := f8.u b36
    replace f7 := f7.u b36
    replace f35 := f35.u b36
    refine wl_p (fun _ => o_not rfl) ?_
    refine wl_p (fun _ => o_pick_f rfl rfl) ?_
    refine wl_p (fun _ => o_move rfl) ?_
    refine wl_p (fun _ => o_move rfl) ?_
    refine wl_p (fun _ => o_len (t := 23) Try.underlying23 rfl) ?_
    refine wl_p (fun _ => o_gt rfl rfl) ?_
    refine wl_p (fun _ => o_pick_f rfl rfl) ?_
    refine wl_p (fun _ => o_move rfl) ?_
    refine wl_know 44 false rfl (decide_eq_false (by omega)) ?_
    refine wl_p (fun _ => o_move rfl) ?_
    refine wl_p (fun _ => o_len (t := 23) Try.underlying23 rfl) ?_
    refine wl_p (fun _ => o_gt rfl rfl) ?_
    refine wl_p (fun _ => o_pick_f rfl rfl) ?_
    refine wl_p (fun _ => o_move rfl) ?_
    refine wl_know 49 true rfl (decide_eq_true (by omega)) ?_
    refine wl_off ?_
    refine wl_off ?_
    refine wl_off ?_
    refine wl_p (fun _ => o_pick_t rfl rfl) ?_
    refine wl_nil ?_
    refine rk_true rfl ?_
    refine rk_seq ?_
    refine rk_region ?_
    refine wl_p (fun _ => o_assign rfl) ?_
    refine wl_nil ?_
    refine ret1 rfl rfl ?_
    exact ⟨rfl, hw⟩
  by_cases g5 : LtS I X Y 24
  rotate_left
  · refine rk_seq ?_
    refine rk_region ?_
    refine wl_boxg [_, _, _] rfl (by rfl) ?_
    rintro g7 w7 f7 b7 i7 i7_1
    have s7 := b7.size
    replace hw := hw.trans (b7.mono hw.size)
    refine wl_boxg _ rfl (by rfl) ?_
    rintro g8 w8 f8 b8 i8 i8_1
    have s8 := b8.size
    replace hw := hw.trans (b8.mono hw.size)
    replace f7 := f7.u b8
    refine wl_p (fun _ => o_assign rfl) ?_
    refine wl_nil ?_
    refine rk_seq ?_
    refine rk_seq ?_
    refine rk_region ?_
    refine wl_call rfl (C_lives22 _) ?_
    rintro v28 w28 ⟨rfl, b28⟩
    have s28 := b28.size
    replace hw := hw.trans (b28.mono hw.size)
    replace f7 := f7.u b28
    replace f8 := f8.u b28
    refine wl_p (fun _ => o_not rfl) ?_
    refine wl_nil ?_
    refine rk_false rfl ?_
    refine rk_skip ?_
    refine rk_seq ?_
    refine rk_seq ?_
    refine rk_region ?_
    refine wl_p (fun _ => o_move rfl) ?_
    refine wl_call rfl (C_lightOpsY _ (hL.u hw) g1 rfl (by rfl) (by omega) (by omega)) ?_
    rintro v31 w31 ⟨rfl, b31⟩
    have s31 := b31.size
    replace hw := hw.trans (b31.mono hw.size)
    replace f8 := f8.u b31
    replace f7 := f7.u b31
    refine wl_p (fun _ => o_not rfl) ?_
    refine wl_p (fun _ => o_move rfl) ?_
    refine wl_r (o_loadag Try.isAgg31 Try.sizeOf31 rfl f8 (opC_length ..)) ?_
    refine wl_litO1r (by rfl) rfl hK hw hV rfl rfl (by omega) (by omega) (by omega) (by omega) hkw (by rfl) ?_
    rintro A35 w35 f35 b35
    have s35 := b35.size
    replace hw := hw.trans (b35.mono hw.size)
    replace f7 := f7.u b35
    replace f8 := f8.u b35
    refine wl_call rfl (C_lightOpsY _ f35 g2 (by rfl) (by rfl) (by simp) (by omega)) ?_
    rintro v36 w36 ⟨rfl, b36⟩
    have s36 := b36.size
    replace hw := hw.trans (b36.mono hw.size)
    replace f8 := f8.u b36
    replace f7 := f7.u b36
    replace f35 := f35.u b36
    refine wl_p (fun _ => o_not rfl) ?_
    refine wl_p (fun _ => o_pick_f rfl rfl) ?_
    refine wl_p (fun _ => o_move rfl) ?_
    refine wl_p (fun _ => o_move rfl) ?_
    refine wl_p (fun _ => o_len (t := 23) Try.underlying23 rfl) ?_
    refine wl_p (fun _ => o_gt rfl rfl) ?_
    refine wl_p (fun _ => o_pick_f rfl rfl) ?_
    refine wl_p (fun _ => o_move rfl) ?_
    refine wl_know 44 false rfl (decide_eq_false (by omega)) ?_
    refine wl_p (fun _ => o_move rfl) ?_
    refine wl_p (fun _ => o_len (t := 23) Try.underlying23 rfl) ?_
    refine wl_p (fun _ => o_gt rfl rfl) ?_
    refine wl_p (fun _ => o_pick_f rfl rfl) ?_
    refine wl_p (fun _ => o_move rfl) ?_
    refine wl_know 49 false rfl (decide_eq_false (by omega)) ?_
    refine wl_r (o_loadag Try.isAgg27 Try.sizeOf27 rfl f7 (by rfl)) ?_
    refine wl_call rfl (C_lightStateN _ g5 (hI.u hw) rfl rfl rfl (by rfl) (by omega)) ?_
    rintro v51 w51 ⟨rfl, b51⟩
    have s51 := b51.size
    replace hw := hw.trans (b51.mono hw.size)
    replace f35 := f35.u b51
    replace f7 := f7.u b51
    replace f8 := f8.u b51
    refine wl_p (fun _ => o_not rfl) ?_
    refine wl_p (fun _ => o_pick_f rfl rfl) ?_
    refine wl_nil ?_
    refine rk_true rfl ?_
    refine rk_seq ?_
    refine rk_region ?_
    refine wl_p (fun _ => o_assign rfl) ?_
    refine wl_nil ?_
    refine ret1 rfl rfl ?_
    exact ⟨rfl, hw⟩
  have hl24 := g1.1
  have hlo : ∀ o ∈ L, o.2.1.length ≤ 4000000 ∧ o.2.2.1.length ≤ 4000000 := fun o ho => by have := g1.2 o ho; omega
  have hlo2 : LtOn L := hlo
  have hpq : p.length ≤ 300 ∧ q.length ≤ 300 := g2.2 (k, p, q, u) (List.mem_cons_self ..)
  obtain ⟨hpl, hql⟩ := hpq
  have hI24 := g5.1
  have hX40 := g5.2.1
  have hY40 := g5.2.2.1
  have hLI : LtI I := fun x hx => by have := g5.2.2.2 x hx; omega
  obtain ⟨⟨U, eU⟩, hU⟩ : ∃ r, readO raw = r := ⟨_, rfl⟩
  have e1 : ReadR raw U eU := ⟨hU⟩
  refine rk_seq ?_
  refine rk_region ?_
  refine wl_boxg [_, _, _] rfl (by rfl) ?_
  rintro g7 w7 f7 b7 i7 i7_1
  have s7 := b7.size
  replace hw := hw.trans (b7.mono hw.size)
  refine wl_boxg _ rfl (by rfl) ?_
  rintro g8 w8 f8 b8 i8 i8_1
  have s8 := b8.size
  replace hw := hw.trans (b8.mono hw.size)
  replace f7 := f7.u b8
  refine wl_p (fun _ => o_assign rfl) ?_
  refine wl_nil ?_
  refine rk_seq ?_
  refine rk_seq ?_
  refine rk_region ?_
  refine wl_call rfl (C_lives22 _) ?_
  rintro v28 w28 ⟨rfl, b28⟩
  have s28 := b28.size
  replace hw := hw.trans (b28.mono hw.size)
  replace f7 := f7.u b28
  replace f8 := f8.u b28
  refine wl_p (fun _ => o_not rfl) ?_
  refine wl_nil ?_
  refine rk_false rfl ?_
  refine rk_skip ?_
  refine rk_seq ?_
  refine rk_seq ?_
  refine rk_region ?_
  refine wl_p (fun _ => o_move rfl) ?_
  refine wl_call rfl (C_lightOpsY _ (hL.u hw) g1 rfl (by rfl) (by omega) (by omega)) ?_
  rintro v31 w31 ⟨rfl, b31⟩
  have s31 := b31.size
  replace hw := hw.trans (b31.mono hw.size)
  replace f8 := f8.u b31
  replace f7 := f7.u b31
  refine wl_p (fun _ => o_not rfl) ?_
  refine wl_p (fun _ => o_move rfl) ?_
  refine wl_r (o_loadag Try.isAgg31 Try.sizeOf31 rfl f8 (opC_length ..)) ?_
  refine wl_litO1r (by rfl) rfl hK hw hV rfl rfl (by omega) (by omega) (by omega) (by omega) hkw (by rfl) ?_
  rintro A35 w35 f35 b35
  have s35 := b35.size
  replace hw := hw.trans (b35.mono hw.size)
  replace f7 := f7.u b35
  replace f8 := f8.u b35
  refine wl_call rfl (C_lightOpsY _ f35 g2 (by rfl) (by rfl) (by simp) (by omega)) ?_
  rintro v36 w36 ⟨rfl, b36⟩
  have s36 := b36.size
  replace hw := hw.trans (b36.mono hw.size)
  replace f8 := f8.u b36
  replace f7 := f7.u b36
  replace f35 := f35.u b36
  refine wl_p (fun _ => o_not rfl) ?_
  refine wl_p (fun _ => o_pick_f rfl rfl) ?_
  refine wl_p (fun _ => o_move rfl) ?_
  refine wl_p (fun _ => o_move rfl) ?_
  refine wl_p (fun _ => o_len (t := 23) Try.underlying23 rfl) ?_
  refine wl_p (fun _ => o_gt rfl rfl) ?_
  refine wl_p (fun _ => o_pick_f rfl rfl) ?_
  refine wl_p (fun _ => o_move rfl) ?_
  refine wl_know 44 false rfl (decide_eq_false (by omega)) ?_
  refine wl_p (fun _ => o_move rfl) ?_
  refine wl_p (fun _ => o_len (t := 23) Try.underlying23 rfl) ?_
  refine wl_p (fun _ => o_gt rfl rfl) ?_
  refine wl_p (fun _ => o_pick_f rfl rfl) ?_
  refine wl_p (fun _ => o_move rfl) ?_
  refine wl_know 49 false rfl (decide_eq_false (by omega)) ?_
  refine wl_r (o_loadag Try.isAgg27 Try.sizeOf27 rfl f7 (by rfl)) ?_
  refine wl_call rfl (C_lightStateY _ g5 (hI.u hw) rfl rfl rfl (by rfl) (by omega)) ?_
  rintro v51 w51 ⟨rfl, b51⟩
  have s51 := b51.size
  replace hw := hw.trans (b51.mono hw.size)
  replace f35 := f35.u b51
  replace f7 := f7.u b51
  replace f8 := f8.u b51
  refine wl_p (fun _ => o_not rfl) ?_
  refine wl_p (fun _ => o_pick_f rfl rfl) ?_
  refine wl_nil ?_
  refine rk_false rfl ?_
  refine rk_skip ?_
  refine rk_seq ?_
  refine rk_region ?_
  refine wl_p (fun _ => o_move rfl) ?_
  refine wl_call rfl (C_kOwn _ (hR.u hw) rfl (by omega)) ?_
  rintro v56 w56 ⟨A56, ⟨c56, ⟨rfl, ⟨f56, b56⟩⟩⟩⟩
  have qf56 := f56.cap
  have s56 := b56.size
  replace hw := hw.trans (b56.mono hw.size)
  replace f8 := f8.u b56
  replace f7 := f7.u b56
  replace f35 := f35.u b56
  refine wl_call rfl (C_opsReadN _ e1 f56.to_Rd rfl (by omega)) ?_
  rintro v57 w57 ⟨A57, ⟨c57, ⟨rfl, ⟨f57, b57⟩⟩⟩⟩
  have qf57 := f57.cap
  have s57 := b57.size
  replace hw := hw.trans (b57.mono hw.size)
  replace f35 := f35.u b57
  replace f7 := f7.u b57
  replace f8 := f8.u b57
  replace f56 := f56.u b57
  refine wl_p (fun _ => o_move rfl) ?_
  refine wl_p (fun _ => o_ext20 rfl) ?_
  refine wl_p (fun _ => o_ext21 rfl) ?_
  refine wl_p (fun _ => o_assign rfl) ?_
  refine wl_p (fun _ => o_assign rfl) ?_
  refine wl_nil ?_
  refine rk_seq ?_
  refine rk_seq ?_
  refine rk_region ?_
  refine wl_p (fun _ => o_move rfl) ?_
  refine wl_p (fun _ => o_eq rfl rfl) ?_
  refine wl_nil ?_
  refine rk_joinkf (fun fb fr V => fr = [] ++ fb ∧ Blk V g7 27 [.slice A1 I.length c1, .slice A2 X.length c2, .slice A3 Y.length c3] ∧ Blk V g8 31 (opC k K p.length ck V0 q.length cv u) ∧ Below w.heap.size w V) ?_ (fun ks hj => ?_)
  rotate_left
  · by_cases he : eU = 0
    · subst he
      have hb := readO_back hU
      have e2 : BytesR U raw 0 := ⟨hb⟩
      obtain ⟨hb1, hb2, _⟩ := bytesO_ok hb
      have hU1 : U.length ≤ 4000000 := by omega
      have hU2 := okO_le hb2
      refine rk_true rfl ?_
      refine rk_seq ?_
      refine rk_region ?_
      refine wl_p (fun _ => o_move rfl) ?_
      refine wl_call rfl (C_opsBytesN _ e2 f57.to_RO rfl (by omega) (by omega)) ?_
      rintro v64 w64 ⟨A64, ⟨c64, ⟨rfl, ⟨f64, b64⟩⟩⟩⟩
      have qf64 := f64.cap
      have s64 := b64.size
      replace hw := hw.trans (b64.mono hw.size)
      replace f56 := f56.u b64
      replace f8 := f8.u b64
      replace f7 := f7.u b64
      replace f35 := f35.u b64
      replace f57 := f57.u b64
      refine wl_p (fun _ => o_move rfl) ?_
      refine wl_p (fun _ => o_ext20 rfl) ?_
      refine wl_p (fun _ => o_ext21 rfl) ?_
      refine wl_p (fun _ => o_assign rfl) ?_
      refine wl_p (fun _ => o_assign rfl) ?_
      refine wl_nil ?_
      refine rk_seq ?_
      refine rk_region ?_
      refine wl_p (fun _ => o_move rfl) ?_
      refine wl_p (fun _ => o_ne rfl rfl) ?_
      refine wl_p (fun _ => o_move rfl) ?_
      refine wl_p (fun _ => o_move rfl) ?_
      refine wl_r (o_strU Try.underlying23 Try.underlying5 Try.underlying9 rfl f64.to_Rd (Below.refl _ _) rfl) ?_
      refine wl_p (fun _ => o_move rfl) ?_
      refine wl_r (o_strU Try.underlying23 Try.underlying5 Try.underlying9 rfl hR hw rfl) ?_
      refine wl_p (fun _ => o_sne rfl rfl) ?_
      refine wl_p (fun _ => o_pick_f rfl rfl) ?_
      refine wl_nil ?_
      refine rk_cond rfl (fun h75 => by simp at h75) (fun h75 => ?_)
      refine rk_skip ?_
      exact rk_tof hj (Fr.le_of (by kernel_rfl) (by kernel_rfl) (by repeat' constructor)) ⟨rfl, f7, f8, hw⟩
    · refine rk_if rfl (fun h61 => absurd h61 (by omega)) (fun h61 => ?_)
      refine rk_skip ?_
      exact rk_tof hj (Fr.le_of (by kernel_rfl) (by kernel_rfl) (by repeat' constructor)) ⟨rfl, f7, f8, hw⟩
  clear hw f7 f8
  rintro fr V ⟨rfl, f7, f8, hw⟩
  have shw := hw.size
  first | refine rk_frame (by simp only [List.cons_append, List.nil_append, List.drop_succ_cons, List.drop_zero]; rfl) ?_ | refine wl_frame (by simp only [List.cons_append, List.nil_append, List.drop_succ_cons, List.drop_zero]; rfl) ?_
  obtain ⟨⟨yb, fy⟩, hyb⟩ : ∃ r, bytesO L = r := ⟨_, rfl⟩
  have e3 : BytesR L yb fy := ⟨hyb⟩
  refine rk_seq ?_
  refine rk_region ?_
  refine wl_p (fun _ => o_move rfl) ?_
  refine wl_call rfl (C_kOwnOps _ (hL.u hw) rfl (by omega) (by omega)) ?_
  rintro v78 w78 ⟨A78, ⟨c78, ⟨rfl, ⟨f78, b78⟩⟩⟩⟩
  have qf78 := f78.cap
  have s78 := b78.size
  replace hw := hw.trans (b78.mono hw.size)
  replace f8 := f8.u b78
  replace f7 := f7.u b78
  refine wl_call rfl (C_opsBytesN _ e3 f78.to_RO rfl (by omega) (by omega)) ?_
  rintro v79 w79 ⟨A79, ⟨c79, ⟨rfl, ⟨f79, b79⟩⟩⟩⟩
  have qf79 := f79.cap
  have s79 := b79.size
  replace hw := hw.trans (b79.mono hw.size)
  replace f7 := f7.u b79
  replace f8 := f8.u b79
  replace f78 := f78.u b79
  refine wl_p (fun _ => o_move rfl) ?_
  refine wl_p (fun _ => o_ext20 rfl) ?_
  refine wl_p (fun _ => o_ext21 rfl) ?_
  refine wl_p (fun _ => o_assign rfl) ?_
  refine wl_p (fun _ => o_assign rfl) ?_
  refine wl_nil ?_
  refine rk_seq ?_
  refine rk_seq ?_
  refine rk_region ?_
  refine wl_p (fun _ => o_move rfl) ?_
  refine wl_p (fun _ => o_eq rfl rfl) ?_
  refine wl_nil ?_
  refine rk_joinkf (fun fb fr V => fr = [] ++ fb ∧ Blk V g7 27 [.slice A1 I.length c1, .slice A2 X.length c2, .slice A3 Y.length c3] ∧ Blk V g8 31 (opC k K p.length ck V0 q.length cv u) ∧ Below w.heap.size w V) ?_ (fun ks hj => ?_)
  rotate_left
  · by_cases he : fy = 0
    · subst he
      have e4 : ReadR yb L 0 := ⟨readO_bytes hyb⟩
      have e5 : ReadR (yb ++ [0]) [] 4 := ⟨readO_more hyb⟩
      have hyl := bytesO_len hyb
      refine rk_true rfl ?_
      refine rk_seq ?_
      refine rk_region ?_
      refine wl_p (fun _ => o_move rfl) ?_
      refine wl_call rfl (C_kOwn _ f79.to_Rd rfl (by omega)) ?_
      rintro v86 w86 ⟨A86, ⟨c86, ⟨rfl, ⟨f86, b86⟩⟩⟩⟩
      have qf86 := f86.cap
      have s86 := b86.size
      replace hw := hw.trans (b86.mono hw.size)
      replace f78 := f78.u b86
      replace f8 := f8.u b86
      replace f7 := f7.u b86
      replace f79 := f79.u b86
      refine wl_call rfl (C_opsReadN _ e4 f86.to_Rd rfl (by omega)) ?_
      rintro v87 w87 ⟨A87, ⟨c87, ⟨rfl, ⟨f87, b87⟩⟩⟩⟩
      have qf87 := f87.cap
      have s87 := b87.size
      replace hw := hw.trans (b87.mono hw.size)
      replace f79 := f79.u b87
      replace f7 := f7.u b87
      replace f8 := f8.u b87
      replace f78 := f78.u b87
      replace f86 := f86.u b87
      refine wl_p (fun _ => o_move rfl) ?_
      refine wl_p (fun _ => o_ext20 rfl) ?_
      refine wl_p (fun _ => o_ext21 rfl) ?_
      refine wl_p (fun _ => o_assign rfl) ?_
      refine wl_p (fun _ => o_assign rfl) ?_
      have keep : ∀ W, Below w87.heap.size w87 W → RO W A87 L := fun W hb => f87.to_RO.u hb
      have hw2 := Below.refl w87.heap.size w87
      clear f87
      refine wl_nil ?_
      refine rk_seq ?_
      refine rk_region ?_
      refine wl_p (fun _ => o_move rfl) ?_
      refine wl_call rfl (C_kOwn _ f79.to_Rd rfl (by omega)) ?_
      rintro v92 w92 ⟨A92, ⟨c92, ⟨rfl, ⟨f92, b92⟩⟩⟩⟩
      have qf92 := f92.cap
      have s92 := b92.size
      replace hw := hw.trans (b92.mono hw.size)
      replace hw2 := hw2.trans (b92.mono hw2.size)
      replace f86 := f86.u b92
      replace f78 := f78.u b92
      replace f8 := f8.u b92
      replace f7 := f7.u b92
      replace f79 := f79.u b92
      refine wl_litB [0] Try.u8 Try.sizeOf5 Try.zeroValue5 (by rfl) rfl rfl (by rfl) (by rfl) (by rfl) ?_
      rintro A93 w93 f93 b93
      have qf93 := f93.cap
      have s93 := b93.size
      replace hw := hw.trans (b93.mono hw.size)
      replace hw2 := hw2.trans (b93.mono hw2.size)
      replace f79 := f79.u b93
      replace f7 := f7.u b93
      replace f8 := f8.u b93
      replace f78 := f78.u b93
      replace f86 := f86.u b93
      replace f92 := f92.u b93
      refine wl_appB Try.u8 rfl f92 rfl rfl f93.to_Rd (by rfl) (by omega) (by omega) ?_
      rintro A94 c94 w94 f94 g94 b94 i94
      have qf94 := f94.cap
      have s94 := g94.size
      replace hw := hw.trans (b94.mono (by omega))
      replace hw2 := hw2.trans (b94.mono (by omega))
      replace f86 := f86.k g94.g (f92.ap (by omega))
      replace f8 := f8.y g94 (by decide)
      replace f7 := f7.y g94 (by decide)
      replace f79 := f79.k g94.g (f92.ap (by omega))
      replace f93 := f93.k g94.g (f92.ap (by omega))
      clear f92
      clear f78
      refine wl_call rfl (C_opsReadN _ e5 f94.to_Rd rfl (by simp; omega)) ?_
      rintro v95 w95 ⟨A95, ⟨c95, ⟨rfl, ⟨f95, b95⟩⟩⟩⟩
      have qf95 := f95.cap
      have s95 := b95.size
      replace hw := hw.trans (b95.mono hw.size)
      replace hw2 := hw2.trans (b95.mono hw2.size)
      replace f93 := f93.u b95
      replace f79 := f79.u b95
      replace f7 := f7.u b95
      replace f8 := f8.u b95
      replace f86 := f86.u b95
      replace f94 := f94.u b95
      refine wl_p (fun _ => o_move rfl) ?_
      refine wl_p (fun _ => o_ext20 rfl) ?_
      refine wl_p (fun _ => o_ext21 rfl) ?_
      refine wl_p (fun _ => o_assign rfl) ?_
      refine wl_p (fun _ => o_assign rfl) ?_
      have f87 := keep _ hw2
      clear hw2
      refine wl_nil ?_
      refine rk_seq ?_
      refine rk_region ?_
      refine wl_p (fun _ => o_move rfl) ?_
      refine wl_p (fun _ => o_ne rfl rfl) ?_
      refine wl_p (fun _ => o_move rfl) ?_
      refine wl_p (fun _ => o_move rfl) ?_
      refine wl_p (fun _ => o_move rfl) ?_
      refine wl_call rfl (C_kOps _ f87 (hL.u hw) rfl rfl (by omega) (by omega)) ?_
      rintro v103 w103 ⟨rfl, b103⟩
      have s103 := b103.size
      replace hw := hw.trans (b103.mono hw.size)
      replace f87 := f87.u b103
      replace f94 := f94.u b103
      replace f86 := f86.u b103
      replace f8 := f8.u b103
      replace f7 := f7.u b103
      replace f79 := f79.u b103
      replace f93 := f93.u b103
      replace f95 := f95.u b103
      refine wl_p (fun _ => o_not rfl) ?_
      refine wl_p (fun _ => o_pick_f rfl rfl) ?_
      refine wl_p (fun _ => o_move rfl) ?_
      refine wl_know 106 false rfl (by simp) ?_
      refine wl_p (fun _ => o_move rfl) ?_
      refine wl_p (fun _ => o_ne rfl rfl) ?_
      refine wl_p (fun _ => o_pick_f rfl rfl) ?_
      refine wl_nil ?_
      refine rk_false rfl ?_
      refine rk_skip ?_
      exact rk_tof hj (Fr.le_of (by kernel_rfl) (by kernel_rfl) (by repeat' constructor)) ⟨rfl, f7, f8, hw⟩
    · refine rk_if rfl (fun h83 => absurd h83 (by omega)) (fun h83 => ?_)
      refine rk_skip ?_
      exact rk_tof hj (Fr.le_of (by kernel_rfl) (by kernel_rfl) (by repeat' constructor)) ⟨rfl, f7, f8, hw⟩
  clear hw f7 f8
  rintro fr V ⟨rfl, f7, f8, hw⟩
  have shw := hw.size
  first | refine rk_frame (by simp only [List.cons_append, List.nil_append, List.drop_succ_cons, List.drop_zero]; rfl) ?_ | refine wl_frame (by simp only [List.cons_append, List.nil_append, List.drop_succ_cons, List.drop_zero]; rfl) ?_
  by_cases hok : OkSt I X Y
  rotate_left
  · refine rk_seq ?_
    refine rk_seq ?_
    refine rk_region ?_
    refine wl_r (o_loadag Try.isAgg27 Try.sizeOf27 rfl f7 (by rfl)) ?_
    refine wl_call rfl (C_checkStateBad _ (hI.u hw) (hX.u hw) (hY.u hw) rfl rfl rfl (by omega) (by omega) (by omega) (by omega) (by omega)) ?_
    rintro v111 w111 ⟨rfl, b111⟩
    have s111 := b111.size
    replace hw := hw.trans (b111.mono hw.size)
    replace f8 := f8.u b111
    replace f7 := f7.u b111
    refine wl_p (fun _ => o_ne rfl rfl) ?_
    refine wl_p (fun _ => o_move rfl) ?_
    refine wl_off ?_
    refine wl_off ?_
    refine wl_off ?_
    refine wl_off ?_
    refine wl_p (fun _ => o_pick_t rfl rfl) ?_
    refine wl_nil ?_
    refine rk_true rfl ?_
    refine rk_seq ?_
    refine rk_region ?_
    refine wl_p (fun _ => o_assign rfl) ?_
    refine wl_nil ?_
    refine ret1 rfl rfl ?_
    exact ⟨rfl, hw⟩
  by_cases hX0 : X.length = 0
  · refine rk_seq ?_
    refine rk_seq ?_
    refine rk_region ?_
    refine wl_r (o_loadag Try.isAgg27 Try.sizeOf27 rfl f7 (by rfl)) ?_
    refine wl_call rfl (C_checkStateOk _ (hI.u hw) (hX.u hw) (hY.u hw) rfl rfl rfl (by omega) (by omega) (by omega) (by omega) (by omega)) ?_
    rintro v111 w111 ⟨rfl, b111⟩
    have s111 := b111.size
    replace hw := hw.trans (b111.mono hw.size)
    replace f8 := f8.u b111
    replace f7 := f7.u b111
    refine wl_p (fun _ => o_ne rfl rfl) ?_
    refine wl_p (fun _ => o_move rfl) ?_
    refine wl_p (fun _ => o_faddr (s := 27) (i := 1) (off := 1) Try.underlying27 rfl Try.sizeOf25 rfl rfl rfl) ?_
    refine wl_r (o_loadbg Try.isAgg25 rfl f7 (by rfl)) ?_
    refine wl_p (fun _ => o_len (t := 25) Try.underlying25 rfl) ?_
    refine wl_p (fun _ => o_eq rfl rfl) ?_
    refine wl_p (fun _ => o_pick_f rfl rfl) ?_
    refine wl_nil ?_
    refine rk_if rfl (fun h118 => ?_) (fun h118 => h118.elim (by omega))
    refine rk_seq ?_
    refine rk_region ?_
    refine wl_p (fun _ => o_assign rfl) ?_
    refine wl_nil ?_
    refine ret1 rfl rfl ?_
    exact ⟨rfl, hw⟩
  have hX1 : 0 < X.length := by omega
  obtain ⟨⟨⟨I', X', Y'⟩, b⟩, hst⟩ : ∃ r, stepS (I, X, Y) X[0] (k, p, q, u) = r := ⟨_, rfl⟩
  have e6 : StepR I X Y X[0] k p q u I' X' Y' b := ⟨hst⟩
  have hsp := stepS_spec (S := (I, X, Y)) (wr := X[0]) (o := (k, p, q, u)) hok
  rw [hst] at hsp
  obtain ⟨hok', hf, ht⟩ := hsp
  dsimp only at hok' hf ht
  have hI' := hok'.1.1
  have hX' := hok'.1.2
  have hY' := hok'.2.1.2
  have hLI' : LtI I' := hok'.2.2.1.lt
  refine rk_seq ?_
  refine rk_seq ?_
  refine rk_region ?_
  refine wl_r (o_loadag Try.isAgg27 Try.sizeOf27 rfl f7 (by rfl)) ?_
  refine wl_call rfl (C_checkStateOk _ (hI.u hw) (hX.u hw) (hY.u hw) rfl rfl rfl (by omega) (by omega) (by omega) (by omega) (by omega)) ?_
  rintro v111 w111 ⟨rfl, b111⟩
  have s111 := b111.size
  replace hw := hw.trans (b111.mono hw.size)
  replace f8 := f8.u b111
  replace f7 := f7.u b111
  refine wl_p (fun _ => o_ne rfl rfl) ?_
  refine wl_p (fun _ => o_move rfl) ?_
  refine wl_p (fun _ => o_faddr (s := 27) (i := 1) (off := 1) Try.underlying27 rfl Try.sizeOf25 rfl rfl rfl) ?_
  refine wl_r (o_loadbg Try.isAgg25 rfl f7 (by rfl)) ?_
  refine wl_p (fun _ => o_len (t := 25) Try.underlying25 rfl) ?_
  refine wl_p (fun _ => o_eq rfl rfl) ?_
  refine wl_p (fun _ => o_pick_f rfl rfl) ?_
  refine wl_nil ?_
  refine rk_if rfl (fun h118 => absurd h118 (by omega)) (fun h118 => ?_)
  refine rk_skip ?_
  refine rk_seq ?_
  refine rk_drawo (id := 18) (none) [0, 1, 0, 4, 8, 16, 0, 98, 128, 256, 256, 0, 3071, 8191] [0, 1, 0, 4, 12, 28, 0, 127, 255, 511, 511, 0, 3071, 8191] 6274 2050 [0, 2, 3, 4, 5, 6] [(.s, 0), (.p, 2), (.s, 3), (.p, 4), (.s, 5), (.s, 6), (.f 125 6274 2050, 8)] (by kernel_rfl) (by kernel_rfl) (by kernel_rfl) (by kernel_rfl) (by kernel_rfl) ?_
  dsimp only [inOrder, nthOp]
  replace hw := hw.drew
  replace f7 := f7.d
  replace f8 := f8.d
  refine wl_s (fun _ hk => (o_loadag Try.isAgg27 Try.sizeOf27 rfl (f7.u (below_of_grown_none hk)) (by rfl))) ?_
  refine wl_p (fun _ => o_faddr (s := 27) (i := 1) (off := 1) Try.underlying27 rfl Try.sizeOf25 rfl rfl rfl) ?_
  refine wl_s (fun _ hk => (o_loadbg Try.isAgg25 rfl (f7.u (below_of_grown_none hk)) (by rfl))) ?_
  refine wl_p (fun _ => (o_iaddrA (0) Try.underlying25 Try.sizeOf29 rfl rfl (by omega) (hX.some_ (by omega)) (by omega))) ?_
  refine wl_s (fun _ hk => (o_ldKs rfl hX (hw.trans ((below_of_grown_none hk).mono hw.size)) hX1)) ?_
  refine wl_s (fun _ hk => (o_loadag Try.isAgg31 Try.sizeOf31 rfl (f8.u (below_of_grown_none hk)) (opC_length ..))) ?_
  have hw1 := Below.refl w111.drew.heap.size w111.drew
  have hg7 : g7 < w111.heap.size := f7.lt
  have hg8 : g8 < w111.heap.size := f8.lt
  refine wl_forkf (m := 125) (L := 6274) (C := 2050) (n := 8) (k1 := 1) (k2 := 11) (fun fb fr V' => ∃ g20 A' c' B' d' C' e', fr = [(20, .pointer (some ⟨g20, 0, none⟩)), (128, .agg #[.slice A' I'.length c', .slice B' X'.length d', .slice C' Y'.length e']), (129, .bool b)] ++ fb ∧ Blk V' g20 27 [.slice none 0 0, .slice none 0 0, .slice none 0 0] ∧ w111.heap.size ≤ g20 ∧ RIT V' A' I' ∧ RKT V' B' X' ∧ RKT V' C' Y' ∧ Below w111.drew.heap.size w111.drew V') [0, 1, 0, 4, 8, 16, 0, 98, 128, 256, 256, 0, 3071, 8191] [0, 1, 0, 4, 12, 28, 0, 127, 255, 511, 511, 0, 3071, 8191] [1] [11, 1, 7, 8, 9, 10, 12, 13] [12, 13] [(.f 127 6274 2050, 7)] [(.c, 1), (.l, 7), (.p, 8), (.p, 9), (.p, 10), (.l, 12), (.p, 13)] [(.l, 12), (.p, 13)] (by kernel_rfl) (by kernel_rfl) (by kernel_rfl) (by kernel_rfl) (by kernel_rfl) ?_ (fun hj => ?_) (fun hj => ?_) <;> dsimp only [inOrder, nthOp]
  · clear hw1
    rintro fr V' ⟨g20, A', c', B', d', C', e', rfl, f20, h20, k1, k2, k3, hw1⟩
    first | refine rk_frame (by simp only [List.cons_append, List.nil_append, List.drop_succ_cons, List.drop_zero]; rfl) ?_ | refine wl_frame (by simp only [List.cons_append, List.nil_append, List.drop_succ_cons, List.drop_zero]; rfl) ?_
    have shw1 := hw1.size
    simp only [drew_size] at shw1
    replace hw := hw.trans (hw1.mono hw.size)
    replace f8 := f8.u hw1
    replace f7 := f7.u hw1
    cases b
    · refine wl_storega Try.sizeOf27 rfl rfl (by rfl) (oneCell_of (by rfl)) f20 (by rfl) ?_
      rintro w_1 f g e
      have s := g.size
      replace hw := hw.trans (below_of_grownBy g.g hw.size (by omega))
      replace f7 := f7.k g.g (ap_some (by omega))
      replace f8 := f8.k g.g (ap_some (by omega))
      replace k3 := k3.y g (by decide)
      replace k2 := k2.y g (by decide)
      replace k1 := k1.y g (by decide)
      clear f20
      refine wl_p (fun _ => o_assign rfl) ?_
      refine wl_nild ?_
      refine rk_seq ?_
      refine rk_seq ?_
      refine rk_region ?_
      refine wl_p (fun _ => o_move rfl) ?_
      refine wl_p (fun _ => o_not rfl) ?_
      refine wl_nil ?_
      refine rk_true rfl ?_
      refine rk_seq ?_
      refine rk_region ?_
      refine wl_r (o_loadag Try.isAgg27 Try.sizeOf27 rfl f7 (by rfl)) ?_
      refine wl_r (o_loadag Try.isAgg27 Try.sizeOf27 rfl f (by rfl)) ?_
      refine wl_call rfl (C_kState _ (hI.u hw) (hX.u hw) (hY.u hw) k1.to_RI k2.to_RKs k3.to_RKs rfl rfl rfl rfl rfl rfl (by omega) (by omega) (by omega) (by omega) (by omega) (by omega)) ?_
      rintro v134 w134 ⟨rfl, b134⟩
      have s134 := b134.size
      replace hw := hw.trans (b134.mono hw.size)
      replace k1 := k1.u b134
      replace k2 := k2.u b134
      replace k3 := k3.u b134
      replace f8 := f8.u b134
      replace f7 := f7.u b134
      replace f := f.u b134
      refine wl_p (fun _ => o_assign rfl) ?_
      refine wl_nil ?_
      refine ret1 rfl rfl ?_
      exact ⟨congrArg Value.bool (decide_eq_true (hf rfl).symm), hw⟩
    have hS := ht rfl
    have hkk : k = 1 ∨ k = 2 ∨ k = 3 ∨ k = 4 ∨ k = 5 ∨ k = 6 := stepS_kind (S := (I, X, Y)) (wr := X[0]) (o := (k, p, q, u)) (by rw [hst])
    obtain ⟨⟨v1, b1⟩, hv1⟩ : ∃ r, getS I' X' Y' p = r := ⟨_, rfl⟩
    have e7 : GetR I' X' Y' p v1 b1 := ⟨hv1⟩
    obtain ⟨⟨v2, b2⟩, hv2⟩ : ∃ r, getS I X Y oth = r := ⟨_, rfl⟩
    have e8 : GetR I X Y oth v2 b2 := ⟨hv2⟩
    obtain ⟨⟨v3, b3⟩, hv3⟩ : ∃ r, getS I' X' Y' oth = r := ⟨_, rfl⟩
    have e9 : GetR I' X' Y' oth v3 b3 := ⟨hv3⟩
    clear hst e6 ht hf
    by_cases ho : oth = p
    · rcases hkk with rfl | rfl | rfl | rfl | rfl | rfl
      · have hg := get_mem hok' (hS.k1 rfl)
        rw [hv1] at hg
        injection hg with hg1 hg2
        subst hg1; subst hg2
        try dsimp only at *
        refine wl_storega Try.sizeOf27 rfl rfl (by rfl) (oneCell_of (by rfl)) f20 (by rfl) ?_
        rintro w_1 f g e
        have s := g.size
        replace hw := hw.trans (below_of_grownBy g.g hw.size (by omega))
        replace f8 := f8.k g.g (ap_some (by omega))
        replace f7 := f7.k g.g (ap_some (by omega))
        replace k3 := k3.y g (by decide)
        replace k2 := k2.y g (by decide)
        replace k1 := k1.y g (by decide)
        clear f20
        refine wl_p (fun _ => o_assign rfl) ?_
        refine wl_nild ?_
        refine rk_seq ?_
        refine rk_seq ?_
        refine rk_region ?_
        refine wl_p (fun _ => o_move rfl) ?_
        refine wl_p (fun _ => o_not rfl) ?_
        refine wl_nil ?_
        refine rk_false rfl ?_
        refine rk_skip ?_
        refine rk_seq ?_
        refine rk_region ?_
        refine wl_r (o_loadag Try.isAgg27 Try.sizeOf27 rfl f (by rfl)) ?_
        refine wl_p (fun _ => o_faddr (s := 31) (i := 1) (off := 1) Try.underlying31 rfl Try.sizeOf23 rfl rfl rfl) ?_
        refine wl_r (o_loadbg Try.isAgg23 rfl f8 (by rfl)) ?_
        refine wl_call rfl (C_getN _ e7 k1.to_RI k2.to_RKs k3.to_RKs (hK.u hw) rfl rfl rfl rfl (by omega) (by omega) (by omega) (by omega) (by omega)) ?_
        rintro v139 w139 ⟨A139, ⟨c139, ⟨rfl, ⟨f139, b139⟩⟩⟩⟩
        have qf139 := f139.cap
        have s139 := b139.size
        replace hw := hw.trans (b139.mono hw.size)
        replace k1 := k1.u b139
        replace k2 := k2.u b139
        replace k3 := k3.u b139
        replace f7 := f7.u b139
        replace f8 := f8.u b139
        replace f := f.u b139
        refine wl_p (fun _ => o_move rfl) ?_
        refine wl_p (fun _ => o_ext20 rfl) ?_
        refine wl_p (fun _ => o_ext21 rfl) ?_
        refine wl_p (fun _ => o_assign rfl) ?_
        refine wl_p (fun _ => o_assign rfl) ?_
        refine wl_nil ?_
        refine rk_seq ?_
        refine rk_region ?_
        refine wl_r (o_loadag Try.isAgg27 Try.sizeOf27 rfl f7 (by rfl)) ?_
        refine wl_p (fun _ => o_move rfl) ?_
        refine wl_call rfl (C_getN _ e8 (hI.u hw) (hX.u hw) (hY.u hw) (hO.u hw) rfl rfl rfl rfl (by omega) (by omega) (by omega) (by omega) (by omega)) ?_
        rintro v145 w145 ⟨A145, ⟨c145, ⟨rfl, ⟨f145, b145⟩⟩⟩⟩
        have qf145 := f145.cap
        have s145 := b145.size
        replace hw := hw.trans (b145.mono hw.size)
        replace f := f.u b145
        replace f8 := f8.u b145
        replace f7 := f7.u b145
        replace k3 := k3.u b145
        replace k2 := k2.u b145
        replace k1 := k1.u b145
        replace f139 := f139.u b145
        refine wl_p (fun _ => o_move rfl) ?_
        refine wl_p (fun _ => o_ext20 rfl) ?_
        refine wl_p (fun _ => o_ext21 rfl) ?_
        refine wl_p (fun _ => o_assign rfl) ?_
        refine wl_p (fun _ => o_assign rfl) ?_
        refine wl_nil ?_
        refine rk_seq ?_
        refine rk_region ?_
        refine wl_r (o_loadag Try.isAgg27 Try.sizeOf27 rfl f (by rfl)) ?_
        refine wl_p (fun _ => o_move rfl) ?_
        refine wl_call rfl (C_getN _ e9 k1.to_RI k2.to_RKs k3.to_RKs (hO.u hw) rfl rfl rfl rfl (by omega) (by omega) (by omega) (by omega) (by omega)) ?_
        rintro v151 w151 ⟨A151, ⟨c151, ⟨rfl, ⟨f151, b151⟩⟩⟩⟩
        have qf151 := f151.cap
        have s151 := b151.size
        replace hw := hw.trans (b151.mono hw.size)
        replace f139 := f139.u b151
        replace k1 := k1.u b151
        replace k2 := k2.u b151
        replace k3 := k3.u b151
        replace f7 := f7.u b151
        replace f8 := f8.u b151
        replace f := f.u b151
        replace f145 := f145.u b151
        refine wl_p (fun _ => o_move rfl) ?_
        refine wl_p (fun _ => o_ext20 rfl) ?_
        refine wl_p (fun _ => o_ext21 rfl) ?_
        refine wl_p (fun _ => o_assign rfl) ?_
        refine wl_p (fun _ => o_assign rfl) ?_
        refine wl_nil ?_
        refine rk_seq ?_
        refine rk_seq ?_
        refine rk_region ?_
        refine wl_p (fun _ => o_move rfl) ?_
        refine wl_r (o_strU Try.underlying23 Try.underlying5 Try.underlying9 rfl hO hw rfl) ?_
        refine wl_p (fun _ => o_faddr (s := 31) (i := 1) (off := 1) Try.underlying31 rfl Try.sizeOf23 rfl rfl rfl) ?_
        refine wl_r (o_loadbg Try.isAgg23 rfl f8 (by rfl)) ?_
        refine wl_r (o_strU Try.underlying23 Try.underlying5 Try.underlying9 rfl hK hw rfl) ?_
        refine wl_p (fun _ => o_sne rfl rfl) ?_
        refine wl_p (fun _ => o_move rfl) ?_
        refine wl_know 160 false rfl (by simp; omega) ?_
        refine wl_off ?_
        refine wl_off ?_
        refine wl_off ?_
        refine wl_off ?_
        refine wl_off ?_
        refine wl_off ?_
        refine wl_off ?_
        refine wl_off ?_
        refine wl_off ?_
        refine wl_off ?_
        refine wl_p (fun _ => o_pick_f rfl rfl) ?_
        refine wl_nil ?_
        refine rk_false rfl ?_
        refine rk_skip ?_
        refine rk_seq ?_
        refine rk_seq ?_
        refine rk_region ?_
        refine wl_p (fun _ => o_faddr (s := 31) (i := 0) (off := 0) Try.underlying31 rfl Try.sizeOf3 rfl rfl rfl) ?_
        refine wl_r (o_loadbg Try.isAgg3 rfl f8 (by rfl)) ?_
        refine wl_nil ?_
        refine rk_block ?_
        refine rk_seq ?_
        refine rk_region ?_
        refine wl_p (fun _ => o_eq rfl rfl) ?_
        refine wl_p (fun _ => o_assign rfl) ?_
        refine wl_nil ?_
        refine rk_true rfl ?_
        refine rk_seq ?_
        refine rk_region ?_
        refine wl_p (fun _ => o_move rfl) ?_
        refine wl_p (fun _ => o_move rfl) ?_
        refine wl_p (fun _ => o_move rfl) ?_
        refine wl_r (o_strU Try.underlying23 Try.underlying5 Try.underlying9 rfl f139.to_Rd (Below.refl _ _) rfl) ?_
        refine wl_p (fun _ => o_faddr (s := 31) (i := 2) (off := 2) Try.underlying31 rfl Try.sizeOf23 rfl rfl rfl) ?_
        refine wl_r (o_loadbg Try.isAgg23 rfl f8 (by rfl)) ?_
        refine wl_r (o_strU Try.underlying23 Try.underlying5 Try.underlying9 rfl hV hw rfl) ?_
        refine wl_p (fun _ => o_seq rfl rfl) ?_
        refine wl_p (fun _ => o_pick_t rfl rfl) ?_
        refine wl_p (fun _ => o_assign rfl) ?_
        refine wl_nil ?_
        refine ret1 rfl rfl ?_
        exact ⟨by simp, hw⟩
      · have hg := get_not (X := X') (Y := Y') (hS.k2 rfl).1
        rw [hv1] at hg
        injection hg with hg1 hg2
        subst hg1; subst hg2
        try dsimp only at *
        refine wl_storega Try.sizeOf27 rfl rfl (by rfl) (oneCell_of (by rfl)) f20 (by rfl) ?_
        rintro w_1 f g e
        have s := g.size
        replace hw := hw.trans (below_of_grownBy g.g hw.size (by omega))
        replace f8 := f8.k g.g (ap_some (by omega))
        replace f7 := f7.k g.g (ap_some (by omega))
        replace k3 := k3.y g (by decide)
        replace k2 := k2.y g (by decide)
        replace k1 := k1.y g (by decide)
        clear f20
        refine wl_p (fun _ => o_assign rfl) ?_
        refine wl_nild ?_
        refine rk_seq ?_
        refine rk_seq ?_
        refine rk_region ?_
        refine wl_p (fun _ => o_move rfl) ?_
        refine wl_p (fun _ => o_not rfl) ?_
        refine wl_nil ?_
        refine rk_false rfl ?_
        refine rk_skip ?_
        refine rk_seq ?_
        refine rk_region ?_
        refine wl_r (o_loadag Try.isAgg27 Try.sizeOf27 rfl f (by rfl)) ?_
        refine wl_p (fun _ => o_faddr (s := 31) (i := 1) (off := 1) Try.underlying31 rfl Try.sizeOf23 rfl rfl rfl) ?_
        refine wl_r (o_loadbg Try.isAgg23 rfl f8 (by rfl)) ?_
        refine wl_call rfl (C_getN _ e7 k1.to_RI k2.to_RKs k3.to_RKs (hK.u hw) rfl rfl rfl rfl (by omega) (by omega) (by omega) (by omega) (by omega)) ?_
        rintro v139 w139 ⟨A139, ⟨c139, ⟨rfl, ⟨f139, b139⟩⟩⟩⟩
        have qf139 := f139.cap
        have s139 := b139.size
        replace hw := hw.trans (b139.mono hw.size)
        replace k1 := k1.u b139
        replace k2 := k2.u b139
        replace k3 := k3.u b139
        replace f7 := f7.u b139
        replace f8 := f8.u b139
        replace f := f.u b139
        refine wl_p (fun _ => o_move rfl) ?_
        refine wl_p (fun _ => o_ext20 rfl) ?_
        refine wl_p (fun _ => o_ext21 rfl) ?_
        refine wl_p (fun _ => o_assign rfl) ?_
        refine wl_p (fun _ => o_assign rfl) ?_
        refine wl_nil ?_
        refine rk_seq ?_
        refine rk_region ?_
        refine wl_r (o_loadag Try.isAgg27 Try.sizeOf27 rfl f7 (by rfl)) ?_
        refine wl_p (fun _ => o_move rfl) ?_
        refine wl_call rfl (C_getN _ e8 (hI.u hw) (hX.u hw) (hY.u hw) (hO.u hw) rfl rfl rfl rfl (by omega) (by omega) (by omega) (by omega) (by omega)) ?_
        rintro v145 w145 ⟨A145, ⟨c145, ⟨rfl, ⟨f145, b145⟩⟩⟩⟩
        have qf145 := f145.cap
        have s145 := b145.size
        replace hw := hw.trans (b145.mono hw.size)
        replace f := f.u b145
        replace f8 := f8.u b145
        replace f7 := f7.u b145
        replace k3 := k3.u b145
        replace k2 := k2.u b145
        replace k1 := k1.u b145
        replace f139 := f139.u b145
        refine wl_p (fun _ => o_move rfl) ?_
        refine wl_p (fun _ => o_ext20 rfl) ?_
        refine wl_p (fun _ => o_ext21 rfl) ?_
        refine wl_p (fun _ => o_assign rfl) ?_
        refine wl_p (fun _ => o_assign rfl) ?_
        refine wl_nil ?_
        refine rk_seq ?_
        refine rk_region ?_
        refine wl_r (o_loadag Try.isAgg27 Try.sizeOf27 rfl f (by rfl)) ?_
        refine wl_p (fun _ => o_move rfl) ?_
        refine wl_call rfl (C_getN _ e9 k1.to_RI k2.to_RKs k3.to_RKs (hO.u hw) rfl rfl rfl rfl (by omega) (by omega) (by omega) (by omega) (by omega)) ?_
        rintro v151 w151 ⟨A151, ⟨c151, ⟨rfl, ⟨f151, b151⟩⟩⟩⟩
        have qf151 := f151.cap
        have s151 := b151.size
        replace hw := hw.trans (b151.mono hw.size)
        replace f139 := f139.u b151
        replace k1 := k1.u b151
        replace k2 := k2.u b151
        replace k3 := k3.u b151
        replace f7 := f7.u b151
        replace f8 := f8.u b151
        replace f := f.u b151
        replace f145 := f145.u b151
        refine wl_p (fun _ => o_move rfl) ?_
        refine wl_p (fun _ => o_ext20 rfl) ?_
        refine wl_p (fun _ => o_ext21 rfl) ?_
        refine wl_p (fun _ => o_assign rfl) ?_
        refine wl_p (fun _ => o_assign rfl) ?_
        refine wl_nil ?_
        refine rk_seq ?_
        refine rk_seq ?_
        refine rk_region ?_
        refine wl_p (fun _ => o_move rfl) ?_
        refine wl_r (o_strU Try.underlying23 Try.underlying5 Try.underlying9 rfl hO hw rfl) ?_
        refine wl_p (fun _ => o_faddr (s := 31) (i := 1) (off := 1) Try.underlying31 rfl Try.sizeOf23 rfl rfl rfl) ?_
        refine wl_r (o_loadbg Try.isAgg23 rfl f8 (by rfl)) ?_
        refine wl_r (o_strU Try.underlying23 Try.underlying5 Try.underlying9 rfl hK hw rfl) ?_
        refine wl_p (fun _ => o_sne rfl rfl) ?_
        refine wl_p (fun _ => o_move rfl) ?_
        refine wl_know 160 false rfl (by simp; omega) ?_
        refine wl_off ?_
        refine wl_off ?_
        refine wl_off ?_
        refine wl_off ?_
        refine wl_off ?_
        refine wl_off ?_
        refine wl_off ?_
        refine wl_off ?_
        refine wl_off ?_
        refine wl_off ?_
        refine wl_p (fun _ => o_pick_f rfl rfl) ?_
        refine wl_nil ?_
        refine rk_false rfl ?_
        refine rk_skip ?_
        refine rk_seq ?_
        refine rk_seq ?_
        refine rk_region ?_
        refine wl_p (fun _ => o_faddr (s := 31) (i := 0) (off := 0) Try.underlying31 rfl Try.sizeOf3 rfl rfl rfl) ?_
        refine wl_r (o_loadbg Try.isAgg3 rfl f8 (by rfl)) ?_
        refine wl_nil ?_
        refine rk_block ?_
        refine rk_seq ?_
        refine rk_region ?_
        refine wl_p (fun _ => o_eq rfl rfl) ?_
        refine wl_p (fun _ => o_assign rfl) ?_
        refine wl_nil ?_
        refine rk_false rfl ?_
        refine rk_seq ?_
        refine rk_region ?_
        refine wl_p (fun _ => o_eq rfl rfl) ?_
        refine wl_p (fun _ => o_assign rfl) ?_
        refine wl_nil ?_
        refine rk_true rfl ?_
        refine rk_seq ?_
        refine rk_region ?_
        refine wl_p (fun _ => o_move rfl) ?_
        refine wl_p (fun _ => o_not rfl) ?_
        refine wl_p (fun _ => o_assign rfl) ?_
        refine wl_nil ?_
        refine ret1 rfl rfl ?_
        exact ⟨by simp, hw⟩
      · have hm1 := (hS.k3 rfl).1
        have hm2 := (hS.k3 rfl).2
        try dsimp only at *
        refine wl_storega Try.sizeOf27 rfl rfl (by rfl) (oneCell_of (by rfl)) f20 (by rfl) ?_
        rintro w_1 f g e
        have s := g.size
        replace hw := hw.trans (below_of_grownBy g.g hw.size (by omega))
        replace f8 := f8.k g.g (ap_some (by omega))
        replace f7 := f7.k g.g (ap_some (by omega))
        replace k3 := k3.y g (by decide)
        replace k2 := k2.y g (by decide)
        replace k1 := k1.y g (by decide)
        clear f20
        refine wl_p (fun _ => o_assign rfl) ?_
        refine wl_nild ?_
        refine rk_seq ?_
        refine rk_seq ?_
        refine rk_region ?_
        refine wl_p (fun _ => o_move rfl) ?_
        refine wl_p (fun _ => o_not rfl) ?_
        refine wl_nil ?_
        refine rk_false rfl ?_
        refine rk_skip ?_
        refine rk_seq ?_
        refine rk_region ?_
        refine wl_r (o_loadag Try.isAgg27 Try.sizeOf27 rfl f (by rfl)) ?_
        refine wl_p (fun _ => o_faddr (s := 31) (i := 1) (off := 1) Try.underlying31 rfl Try.sizeOf23 rfl rfl rfl) ?_
        refine wl_r (o_loadbg Try.isAgg23 rfl f8 (by rfl)) ?_
        refine wl_call rfl (C_getN _ e7 k1.to_RI k2.to_RKs k3.to_RKs (hK.u hw) rfl rfl rfl rfl (by omega) (by omega) (by omega) (by omega) (by omega)) ?_
        rintro v139 w139 ⟨A139, ⟨c139, ⟨rfl, ⟨f139, b139⟩⟩⟩⟩
        have qf139 := f139.cap
        have s139 := b139.size
        replace hw := hw.trans (b139.mono hw.size)
        replace k1 := k1.u b139
        replace k2 := k2.u b139
        replace k3 := k3.u b139
        replace f7 := f7.u b139
        replace f8 := f8.u b139
        replace f := f.u b139
        refine wl_p (fun _ => o_move rfl) ?_
        refine wl_p (fun _ => o_ext20 rfl) ?_
        refine wl_p (fun _ => o_ext21 rfl) ?_
        refine wl_p (fun _ => o_assign rfl) ?_
        refine wl_p (fun _ => o_assign rfl) ?_
        refine wl_nil ?_
        refine rk_seq ?_
        refine rk_region ?_
        refine wl_r (o_loadag Try.isAgg27 Try.sizeOf27 rfl f7 (by rfl)) ?_
        refine wl_p (fun _ => o_move rfl) ?_
        refine wl_call rfl (C_getN _ e8 (hI.u hw) (hX.u hw) (hY.u hw) (hO.u hw) rfl rfl rfl rfl (by omega) (by omega) (by omega) (by omega) (by omega)) ?_
        rintro v145 w145 ⟨A145, ⟨c145, ⟨rfl, ⟨f145, b145⟩⟩⟩⟩
        have qf145 := f145.cap
        have s145 := b145.size
        replace hw := hw.trans (b145.mono hw.size)
        replace f := f.u b145
        replace f8 := f8.u b145
        replace f7 := f7.u b145
        replace k3 := k3.u b145
        replace k2 := k2.u b145
        replace k1 := k1.u b145
        replace f139 := f139.u b145
        refine wl_p (fun _ => o_move rfl) ?_
        refine wl_p (fun _ => o_ext20 rfl) ?_
        refine wl_p (fun _ => o_ext21 rfl) ?_
        refine wl_p (fun _ => o_assign rfl) ?_
        refine wl_p (fun _ => o_assign rfl) ?_
        refine wl_nil ?_
        refine rk_seq ?_
        refine rk_region ?_
        refine wl_r (o_loadag Try.isAgg27 Try.sizeOf27 rfl f (by rfl)) ?_
        refine wl_p (fun _ => o_move rfl) ?_
        refine wl_call rfl (C_getN _ e9 k1.to_RI k2.to_RKs k3.to_RKs (hO.u hw) rfl rfl rfl rfl (by omega) (by omega) (by omega) (by omega) (by omega)) ?_
        rintro v151 w151 ⟨A151, ⟨c151, ⟨rfl, ⟨f151, b151⟩⟩⟩⟩
        have qf151 := f151.cap
        have s151 := b151.size
        replace hw := hw.trans (b151.mono hw.size)
        replace f139 := f139.u b151
        replace k1 := k1.u b151
        replace k2 := k2.u b151
        replace k3 := k3.u b151
        replace f7 := f7.u b151
        replace f8 := f8.u b151
        replace f := f.u b151
        replace f145 := f145.u b151
        refine wl_p (fun _ => o_move rfl) ?_
        refine wl_p (fun _ => o_ext20 rfl) ?_
        refine wl_p (fun _ => o_ext21 rfl) ?_
        refine wl_p (fun _ => o_assign rfl) ?_
        refine wl_p (fun _ => o_assign rfl) ?_
        refine wl_nil ?_
        refine rk_seq ?_
        refine rk_seq ?_
        refine rk_region ?_
        refine wl_p (fun _ => o_move rfl) ?_
        refine wl_r (o_strU Try.underlying23 Try.underlying5 Try.underlying9 rfl hO hw rfl) ?_
        refine wl_p (fun _ => o_faddr (s := 31) (i := 1) (off := 1) Try.underlying31 rfl Try.sizeOf23 rfl rfl rfl) ?_
        refine wl_r (o_loadbg Try.isAgg23 rfl f8 (by rfl)) ?_
        refine wl_r (o_strU Try.underlying23 Try.underlying5 Try.underlying9 rfl hK hw rfl) ?_
        refine wl_p (fun _ => o_sne rfl rfl) ?_
        refine wl_p (fun _ => o_move rfl) ?_
        refine wl_know 160 false rfl (by simp; omega) ?_
        refine wl_off ?_
        refine wl_off ?_
        refine wl_off ?_
        refine wl_off ?_
        refine wl_off ?_
        refine wl_off ?_
        refine wl_off ?_
        refine wl_off ?_
        refine wl_off ?_
        refine wl_off ?_
        refine wl_p (fun _ => o_pick_f rfl rfl) ?_
        refine wl_nil ?_
        refine rk_false rfl ?_
        refine rk_skip ?_
        refine rk_seq ?_
        refine rk_seq ?_
        refine rk_region ?_
        refine wl_p (fun _ => o_faddr (s := 31) (i := 0) (off := 0) Try.underlying31 rfl Try.sizeOf3 rfl rfl rfl) ?_
        refine wl_r (o_loadbg Try.isAgg3 rfl f8 (by rfl)) ?_
        refine wl_nil ?_
        refine rk_block ?_
        refine rk_seq ?_
        refine rk_region ?_
        refine wl_p (fun _ => o_eq rfl rfl) ?_
        refine wl_p (fun _ => o_assign rfl) ?_
        refine wl_nil ?_
        refine rk_false rfl ?_
        refine rk_seq ?_
        refine rk_region ?_
        refine wl_p (fun _ => o_eq rfl rfl) ?_
        refine wl_p (fun _ => o_assign rfl) ?_
        refine wl_nil ?_
        refine rk_false rfl ?_
        refine rk_seq ?_
        refine rk_region ?_
        refine wl_p (fun _ => o_eq rfl rfl) ?_
        refine wl_p (fun _ => o_assign rfl) ?_
        refine wl_nil ?_
        refine rk_true rfl ?_
        refine rk_seq ?_
        refine rk_region ?_
        refine wl_p (fun _ => o_faddr (s := 27) (i := 1) (off := 1) Try.underlying27 rfl Try.sizeOf25 rfl rfl rfl) ?_
        refine wl_r (o_loadbg Try.isAgg25 rfl f (by rfl)) ?_
        refine wl_p (fun _ => o_faddr (s := 31) (i := 3) (off := 3) Try.underlying31 rfl Try.sizeOf29 rfl rfl rfl) ?_
        refine wl_r (o_ldWho rfl f8) ?_
        refine wl_call rfl (C_member _ k2.to_RKs rfl (by omega)) ?_
        rintro v195 w195 ⟨rfl, b195⟩
        have s195 := b195.size
        replace hw := hw.trans (b195.mono hw.size)
        replace f145 := f145.u b195
        replace f := f.u b195
        replace f8 := f8.u b195
        replace f7 := f7.u b195
        replace k3 := k3.u b195
        replace k2 := k2.u b195
        replace k1 := k1.u b195
        replace f139 := f139.u b195
        replace f151 := f151.u b195
        refine wl_p (fun _ => o_move rfl) ?_
        refine wl_know 196 true rfl (decide_eq_true (by omega)) ?_
        refine wl_p (fun _ => o_faddr (s := 27) (i := 1) (off := 1) Try.underlying27 rfl Try.sizeOf25 rfl rfl rfl) ?_
        refine wl_r (o_loadbg Try.isAgg25 rfl f7 (by rfl)) ?_
        refine wl_p (fun _ => o_faddr (s := 31) (i := 3) (off := 3) Try.underlying31 rfl Try.sizeOf29 rfl rfl rfl) ?_
        refine wl_r (o_ldWho rfl f8) ?_
        refine wl_call rfl (C_member _ (hX.u hw) rfl (by omega)) ?_
        rintro v201 w201 ⟨rfl, b201⟩
        have s201 := b201.size
        replace hw := hw.trans (b201.mono hw.size)
        replace f151 := f151.u b201
        replace f139 := f139.u b201
        replace k1 := k1.u b201
        replace k2 := k2.u b201
        replace k3 := k3.u b201
        replace f7 := f7.u b201
        replace f8 := f8.u b201
        replace f := f.u b201
        replace f145 := f145.u b201
        refine wl_p (fun _ => o_not rfl) ?_
        refine wl_p (fun _ => o_pick_t rfl rfl) ?_
        refine wl_p (fun _ => o_assign rfl) ?_
        refine wl_nil ?_
        refine ret1 rfl rfl ?_
        exact ⟨by simp [(hS.k3 rfl).1, (hS.k3 rfl).2], hw⟩
      · have hm1 := (hS.k4 rfl).1
        have hm2 := (hS.k4 rfl).2
        try dsimp only at *
        refine wl_storega Try.sizeOf27 rfl rfl (by rfl) (oneCell_of (by rfl)) f20 (by rfl) ?_
        rintro w_1 f g e
        have s := g.size
        replace hw := hw.trans (below_of_grownBy g.g hw.size (by omega))
        replace f8 := f8.k g.g (ap_some (by omega))
        replace f7 := f7.k g.g (ap_some (by omega))
        replace k3 := k3.y g (by decide)
        replace k2 := k2.y g (by decide)
        replace k1 := k1.y g (by decide)
        clear f20
        refine wl_p (fun _ => o_assign rfl) ?_
        refine wl_nild ?_
        refine rk_seq ?_
        refine rk_seq ?_
        refine rk_region ?_
        refine wl_p (fun _ => o_move rfl) ?_
        refine wl_p (fun _ => o_not rfl) ?_
        refine wl_nil ?_
        refine rk_false rfl ?_
        refine rk_skip ?_
        refine rk_seq ?_
        refine rk_region ?_
        refine wl_r (o_loadag Try.isAgg27 Try.sizeOf27 rfl f (by rfl)) ?_
        refine wl_p (fun _ => o_faddr (s := 31) (i := 1) (off := 1) Try.underlying31 rfl Try.sizeOf23 rfl rfl rfl) ?_
        refine wl_r (o_loadbg Try.isAgg23 rfl f8 (by rfl)) ?_
        refine wl_call rfl (C_getN _ e7 k1.to_RI k2.to_RKs k3.to_RKs (hK.u hw) rfl rfl rfl rfl (by omega) (by omega) (by omega) (by omega) (by omega)) ?_
        rintro v139 w139 ⟨A139, ⟨c139, ⟨rfl, ⟨f139, b139⟩⟩⟩⟩
        have qf139 := f139.cap
        have s139 := b139.size
        replace hw := hw.trans (b139.mono hw.size)
        replace k1 := k1.u b139
        replace k2 := k2.u b139
        replace k3 := k3.u b139
        replace f7 := f7.u b139
        replace f8 := f8.u b139
        replace f := f.u b139
        refine wl_p (fun _ => o_move rfl) ?_
        refine wl_p (fun _ => o_ext20 rfl) ?_
        refine wl_p (fun _ => o_ext21 rfl) ?_
        refine wl_p (fun _ => o_assign rfl) ?_
        refine wl_p (fun _ => o_assign rfl) ?_
        refine wl_nil ?_
        refine rk_seq ?_
        refine rk_region ?_
        refine wl_r (o_loadag Try.isAgg27 Try.sizeOf27 rfl f7 (by rfl)) ?_
        refine wl_p (fun _ => o_move rfl) ?_
        refine wl_call rfl (C_getN _ e8 (hI.u hw) (hX.u hw) (hY.u hw) (hO.u hw) rfl rfl rfl rfl (by omega) (by omega) (by omega) (by omega) (by omega)) ?_
        rintro v145 w145 ⟨A145, ⟨c145, ⟨rfl, ⟨f145, b145⟩⟩⟩⟩
        have qf145 := f145.cap
        have s145 := b145.size
        replace hw := hw.trans (b145.mono hw.size)
        replace f := f.u b145
        replace f8 := f8.u b145
        replace f7 := f7.u b145
        replace k3 := k3.u b145
        replace k2 := k2.u b145
        replace k1 := k1.u b145
        replace f139 := f139.u b145
        refine wl_p (fun _ => o_move rfl) ?_
        refine wl_p (fun _ => o_ext20 rfl) ?_
        refine wl_p (fun _ => o_ext21 rfl) ?_
        refine wl_p (fun _ => o_assign rfl) ?_
        refine wl_p (fun _ => o_assign rfl) ?_
        refine wl_nil ?_
        refine rk_seq ?_
        refine rk_region ?_
        refine wl_r (o_loadag Try.isAgg27 Try.sizeOf27 rfl f (by rfl)) ?_
        refine wl_p (fun _ => o_move rfl) ?_
        refine wl_call rfl (C_getN _ e9 k1.to_RI k2.to_RKs k3.to_RKs (hO.u hw) rfl rfl rfl rfl (by omega) (by omega) (by omega) (by omega) (by omega)) ?_
        rintro v151 w151 ⟨A151, ⟨c151, ⟨rfl, ⟨f151, b151⟩⟩⟩⟩
        have qf151 := f151.cap
        have s151 := b151.size
        replace hw := hw.trans (b151.mono hw.size)
        replace f139 := f139.u b151
        replace k1 := k1.u b151
        replace k2 := k2.u b151
        replace k3 := k3.u b151
        replace f7 := f7.u b151
        replace f8 := f8.u b151
        replace f := f.u b151
        replace f145 := f145.u b151
        refine wl_p (fun _ => o_move rfl) ?_
        refine wl_p (fun _ => o_ext20 rfl) ?_
        refine wl_p (fun _ => o_ext21 rfl) ?_
        refine wl_p (fun _ => o_assign rfl) ?_
        refine wl_p (fun _ => o_assign rfl) ?_
        refine wl_nil ?_
        refine rk_seq ?_
        refine rk_seq ?_
        refine rk_region ?_
        refine wl_p (fun _ => o_move rfl) ?_
        refine wl_r (o_strU Try.underlying23 Try.underlying5 Try.underlying9 rfl hO hw rfl) ?_
        refine wl_p (fun _ => o_faddr (s := 31) (i := 1) (off := 1) Try.underlying31 rfl Try.sizeOf23 rfl rfl rfl) ?_
        refine wl_r (o_loadbg Try.isAgg23 rfl f8 (by rfl)) ?_
        refine wl_r (o_strU Try.underlying23 Try.underlying5 Try.underlying9 rfl hK hw rfl) ?_
        refine wl_p (fun _ => o_sne rfl rfl) ?_
        refine wl_p (fun _ => o_move rfl) ?_
        refine wl_know 160 false rfl (by simp; omega) ?_
        refine wl_off ?_
        refine wl_off ?_
        refine wl_off ?_
        refine wl_off ?_
        refine wl_off ?_
        refine wl_off ?_
        refine wl_off ?_
        refine wl_off ?_
        refine wl_off ?_
        refine wl_off ?_
        refine wl_p (fun _ => o_pick_f rfl rfl) ?_
        refine wl_nil ?_
        refine rk_false rfl ?_
        refine rk_skip ?_
        refine rk_seq ?_
        refine rk_seq ?_
        refine rk_region ?_
        refine wl_p (fun _ => o_faddr (s := 31) (i := 0) (off := 0) Try.underlying31 rfl Try.sizeOf3 rfl rfl rfl) ?_
        refine wl_r (o_loadbg Try.isAgg3 rfl f8 (by rfl)) ?_
        refine wl_nil ?_
        refine rk_block ?_
        refine rk_seq ?_
        refine rk_region ?_
        refine wl_p (fun _ => o_eq rfl rfl) ?_
        refine wl_p (fun _ => o_assign rfl) ?_
        refine wl_nil ?_
        refine rk_false rfl ?_
        refine rk_seq ?_
        refine rk_region ?_
        refine wl_p (fun _ => o_eq rfl rfl) ?_
        refine wl_p (fun _ => o_assign rfl) ?_
        refine wl_nil ?_
        refine rk_false rfl ?_
        refine rk_seq ?_
        refine rk_region ?_
        refine wl_p (fun _ => o_eq rfl rfl) ?_
        refine wl_p (fun _ => o_assign rfl) ?_
        refine wl_nil ?_
        refine rk_false rfl ?_
        refine rk_seq ?_
        refine rk_region ?_
        refine wl_p (fun _ => o_eq rfl rfl) ?_
        refine wl_p (fun _ => o_assign rfl) ?_
        refine wl_nil ?_
        refine rk_true rfl ?_
        refine rk_seq ?_
        refine rk_region ?_
        refine wl_p (fun _ => o_faddr (s := 27) (i := 1) (off := 1) Try.underlying27 rfl Try.sizeOf25 rfl rfl rfl) ?_
        refine wl_r (o_loadbg Try.isAgg25 rfl f (by rfl)) ?_
        refine wl_p (fun _ => o_faddr (s := 31) (i := 3) (off := 3) Try.underlying31 rfl Try.sizeOf29 rfl rfl rfl) ?_
        refine wl_r (o_ldWho rfl f8) ?_
        refine wl_call rfl (C_member _ k2.to_RKs rfl (by omega)) ?_
        rintro v210 w210 ⟨rfl, b210⟩
        have s210 := b210.size
        replace hw := hw.trans (b210.mono hw.size)
        replace f145 := f145.u b210
        replace f := f.u b210
        replace f8 := f8.u b210
        replace f7 := f7.u b210
        replace k3 := k3.u b210
        replace k2 := k2.u b210
        replace k1 := k1.u b210
        replace f139 := f139.u b210
        replace f151 := f151.u b210
        refine wl_p (fun _ => o_not rfl) ?_
        refine wl_p (fun _ => o_move rfl) ?_
        refine wl_know 212 true rfl (by simp; omega) ?_
        refine wl_p (fun _ => o_faddr (s := 27) (i := 1) (off := 1) Try.underlying27 rfl Try.sizeOf25 rfl rfl rfl) ?_
        refine wl_r (o_loadbg Try.isAgg25 rfl f7 (by rfl)) ?_
        refine wl_p (fun _ => o_faddr (s := 31) (i := 3) (off := 3) Try.underlying31 rfl Try.sizeOf29 rfl rfl rfl) ?_
        refine wl_r (o_ldWho rfl f8) ?_
        refine wl_call rfl (C_member _ (hX.u hw) rfl (by omega)) ?_
        rintro v217 w217 ⟨rfl, b217⟩
        have s217 := b217.size
        replace hw := hw.trans (b217.mono hw.size)
        replace f151 := f151.u b217
        replace f139 := f139.u b217
        replace k1 := k1.u b217
        replace k2 := k2.u b217
        replace k3 := k3.u b217
        replace f7 := f7.u b217
        replace f8 := f8.u b217
        replace f := f.u b217
        replace f145 := f145.u b217
        refine wl_p (fun _ => o_pick_t rfl rfl) ?_
        refine wl_p (fun _ => o_assign rfl) ?_
        refine wl_nil ?_
        refine ret1 rfl rfl ?_
        exact ⟨by simp [(hS.k4 rfl).1, (hS.k4 rfl).2], hw⟩
      · have hm1 := (hS.k5 rfl).1
        have hm2 := (hS.k5 rfl).2.2
        try dsimp only at *
        refine wl_storega Try.sizeOf27 rfl rfl (by rfl) (oneCell_of (by rfl)) f20 (by rfl) ?_
        rintro w_1 f g e
        have s := g.size
        replace hw := hw.trans (below_of_grownBy g.g hw.size (by omega))
        replace f8 := f8.k g.g (ap_some (by omega))
        replace f7 := f7.k g.g (ap_some (by omega))
        replace k3 := k3.y g (by decide)
        replace k2 := k2.y g (by decide)
        replace k1 := k1.y g (by decide)
        clear f20
        refine wl_p (fun _ => o_assign rfl) ?_
        refine wl_nild ?_
        refine rk_seq ?_
        refine rk_seq ?_
        refine rk_region ?_
        refine wl_p (fun _ => o_move rfl) ?_
        refine wl_p (fun _ => o_not rfl) ?_
        refine wl_nil ?_
        refine rk_false rfl ?_
        refine rk_skip ?_
        refine rk_seq ?_
        refine rk_region ?_
        refine wl_r (o_loadag Try.isAgg27 Try.sizeOf27 rfl f (by rfl)) ?_
        refine wl_p (fun _ => o_faddr (s := 31) (i := 1) (off := 1) Try.underlying31 rfl Try.sizeOf23 rfl rfl rfl) ?_
        refine wl_r (o_loadbg Try.isAgg23 rfl f8 (by rfl)) ?_
        refine wl_call rfl (C_getN _ e7 k1.to_RI k2.to_RKs k3.to_RKs (hK.u hw) rfl rfl rfl rfl (by omega) (by omega) (by omega) (by omega) (by omega)) ?_
        rintro v139 w139 ⟨A139, ⟨c139, ⟨rfl, ⟨f139, b139⟩⟩⟩⟩
        have qf139 := f139.cap
        have s139 := b139.size
        replace hw := hw.trans (b139.mono hw.size)
        replace k1 := k1.u b139
        replace k2 := k2.u b139
        replace k3 := k3.u b139
        replace f7 := f7.u b139
        replace f8 := f8.u b139
        replace f := f.u b139
        refine wl_p (fun _ => o_move rfl) ?_
        refine wl_p (fun _ => o_ext20 rfl) ?_
        refine wl_p (fun _ => o_ext21 rfl) ?_
        refine wl_p (fun _ => o_assign rfl) ?_
        refine wl_p (fun _ => o_assign rfl) ?_
        refine wl_nil ?_
        refine rk_seq ?_
        refine rk_region ?_
        refine wl_r (o_loadag Try.isAgg27 Try.sizeOf27 rfl f7 (by rfl)) ?_
        refine wl_p (fun _ => o_move rfl) ?_
        refine wl_call rfl (C_getN _ e8 (hI.u hw) (hX.u hw) (hY.u hw) (hO.u hw) rfl rfl rfl rfl (by omega) (by omega) (by omega) (by omega) (by omega)) ?_
        rintro v145 w145 ⟨A145, ⟨c145, ⟨rfl, ⟨f145, b145⟩⟩⟩⟩
        have qf145 := f145.cap
        have s145 := b145.size
        replace hw := hw.trans (b145.mono hw.size)
        replace f := f.u b145
        replace f8 := f8.u b145
        replace f7 := f7.u b145
        replace k3 := k3.u b145
        replace k2 := k2.u b145
        replace k1 := k1.u b145
        replace f139 := f139.u b145
        refine wl_p (fun _ => o_move rfl) ?_
        refine wl_p (fun _ => o_ext20 rfl) ?_
        refine wl_p (fun _ => o_ext21 rfl) ?_
        refine wl_p (fun _ => o_assign rfl) ?_
        refine wl_p (fun _ => o_assign rfl) ?_
        refine wl_nil ?_
        refine rk_seq ?_
        refine rk_region ?_
        refine wl_r (o_loadag Try.isAgg27 Try.sizeOf27 rfl f (by rfl)) ?_
        refine wl_p (fun _ => o_move rfl) ?_
        refine wl_call rfl (C_getN _ e9 k1.to_RI k2.to_RKs k3.to_RKs (hO.u hw) rfl rfl rfl rfl (by omega) (by omega) (by omega) (by omega) (by omega)) ?_
        rintro v151 w151 ⟨A151, ⟨c151, ⟨rfl, ⟨f151, b151⟩⟩⟩⟩
        have qf151 := f151.cap
        have s151 := b151.size
        replace hw := hw.trans (b151.mono hw.size)
        replace f139 := f139.u b151
        replace k1 := k1.u b151
        replace k2 := k2.u b151
        replace k3 := k3.u b151
        replace f7 := f7.u b151
        replace f8 := f8.u b151
        replace f := f.u b151
        replace f145 := f145.u b151
        refine wl_p (fun _ => o_move rfl) ?_
        refine wl_p (fun _ => o_ext20 rfl) ?_
        refine wl_p (fun _ => o_ext21 rfl) ?_
        refine wl_p (fun _ => o_assign rfl) ?_
        refine wl_p (fun _ => o_assign rfl) ?_
        refine wl_nil ?_
        refine rk_seq ?_
        refine rk_seq ?_
        refine rk_region ?_
        refine wl_p (fun _ => o_move rfl) ?_
        refine wl_r (o_strU Try.underlying23 Try.underlying5 Try.underlying9 rfl hO hw rfl) ?_
        refine wl_p (fun _ => o_faddr (s := 31) (i := 1) (off := 1) Try.underlying31 rfl Try.sizeOf23 rfl rfl rfl) ?_
        refine wl_r (o_loadbg Try.isAgg23 rfl f8 (by rfl)) ?_
        refine wl_r (o_strU Try.underlying23 Try.underlying5 Try.underlying9 rfl hK hw rfl) ?_
        refine wl_p (fun _ => o_sne rfl rfl) ?_
        refine wl_p (fun _ => o_move rfl) ?_
        refine wl_know 160 false rfl (by simp; omega) ?_
        refine wl_off ?_
        refine wl_off ?_
        refine wl_off ?_
        refine wl_off ?_
        refine wl_off ?_
        refine wl_off ?_
        refine wl_off ?_
        refine wl_off ?_
        refine wl_off ?_
        refine wl_off ?_
        refine wl_p (fun _ => o_pick_f rfl rfl) ?_
        refine wl_nil ?_
        refine rk_false rfl ?_
        refine rk_skip ?_
        refine rk_seq ?_
        refine rk_seq ?_
        refine rk_region ?_
        refine wl_p (fun _ => o_faddr (s := 31) (i := 0) (off := 0) Try.underlying31 rfl Try.sizeOf3 rfl rfl rfl) ?_
        refine wl_r (o_loadbg Try.isAgg3 rfl f8 (by rfl)) ?_
        refine wl_nil ?_
        refine rk_block ?_
        refine rk_seq ?_
        refine rk_region ?_
        refine wl_p (fun _ => o_eq rfl rfl) ?_
        refine wl_p (fun _ => o_assign rfl) ?_
        refine wl_nil ?_
        refine rk_false rfl ?_
        refine rk_seq ?_
        refine rk_region ?_
        refine wl_p (fun _ => o_eq rfl rfl) ?_
        refine wl_p (fun _ => o_assign rfl) ?_
        refine wl_nil ?_
        refine rk_false rfl ?_
        refine rk_seq ?_
        refine rk_region ?_
        refine wl_p (fun _ => o_eq rfl rfl) ?_
        refine wl_p (fun _ => o_assign rfl) ?_
        refine wl_nil ?_
        refine rk_false rfl ?_
        refine rk_seq ?_
        refine rk_region ?_
        refine wl_p (fun _ => o_eq rfl rfl) ?_
        refine wl_p (fun _ => o_assign rfl) ?_
        refine wl_nil ?_
        refine rk_false rfl ?_
        refine rk_seq ?_
        refine rk_region ?_
        refine wl_p (fun _ => o_eq rfl rfl) ?_
        refine wl_p (fun _ => o_assign rfl) ?_
        refine wl_nil ?_
        refine rk_true rfl ?_
        refine rk_seq ?_
        refine rk_region ?_
        refine wl_p (fun _ => o_faddr (s := 27) (i := 2) (off := 2) Try.underlying27 rfl Try.sizeOf25 rfl rfl rfl) ?_
        refine wl_r (o_loadbg Try.isAgg25 rfl f (by rfl)) ?_
        refine wl_p (fun _ => o_faddr (s := 31) (i := 3) (off := 3) Try.underlying31 rfl Try.sizeOf29 rfl rfl rfl) ?_
        refine wl_r (o_ldWho rfl f8) ?_
        refine wl_call rfl (C_member _ k3.to_RKs rfl (by omega)) ?_
        rintro v225 w225 ⟨rfl, b225⟩
        have s225 := b225.size
        replace hw := hw.trans (b225.mono hw.size)
        replace f145 := f145.u b225
        replace f := f.u b225
        replace f8 := f8.u b225
        replace f7 := f7.u b225
        replace k3 := k3.u b225
        replace k2 := k2.u b225
        replace k1 := k1.u b225
        replace f139 := f139.u b225
        replace f151 := f151.u b225
        refine wl_p (fun _ => o_move rfl) ?_
        refine wl_know 226 true rfl (decide_eq_true (by omega)) ?_
        refine wl_p (fun _ => o_faddr (s := 27) (i := 2) (off := 2) Try.underlying27 rfl Try.sizeOf25 rfl rfl rfl) ?_
        refine wl_r (o_loadbg Try.isAgg25 rfl f (by rfl)) ?_
        refine wl_p (fun _ => o_len (t := 25) Try.underlying25 rfl) ?_
        refine wl_p (fun _ => o_faddr (s := 27) (i := 2) (off := 2) Try.underlying27 rfl Try.sizeOf25 rfl rfl rfl) ?_
        refine wl_r (o_loadbg Try.isAgg25 rfl f7 (by rfl)) ?_
        refine wl_p (fun _ => o_len (t := 25) Try.underlying25 rfl) ?_
        refine wl_p (fun _ => o_add rfl rfl (by omega) (by omega)) ?_
        refine wl_p (fun _ => o_eq rfl rfl) ?_
        refine wl_p (fun _ => o_pick_t rfl rfl) ?_
        refine wl_p (fun _ => o_assign rfl) ?_
        refine wl_nil ?_
        refine ret1 rfl rfl ?_
        exact ⟨by simp [(hS.k5 rfl).1, (hS.k5 rfl).2.2], hw⟩
      · have hk6 := hS.k6 (by simp) (by simp) (by simp) (by simp) (by simp)
        have hm1 := hk6.1
        have hm2 := hk6.2.2
        try dsimp only at *
        refine wl_storega Try.sizeOf27 rfl rfl (by rfl) (oneCell_of (by rfl)) f20 (by rfl) ?_
        rintro w_1 f g e
        have s := g.size
        replace hw := hw.trans (below_of_grownBy g.g hw.size (by omega))
        replace f8 := f8.k g.g (ap_some (by omega))
        replace f7 := f7.k g.g (ap_some (by omega))
        replace k3 := k3.y g (by decide)
        replace k2 := k2.y g (by decide)
        replace k1 := k1.y g (by decide)
        clear f20
        refine wl_p (fun _ => o_assign rfl) ?_
        refine wl_nild ?_
        refine rk_seq ?_
        refine rk_seq ?_
        refine rk_region ?_
        refine wl_p (fun _ => o_move rfl) ?_
        refine wl_p (fun _ => o_not rfl) ?_
        refine wl_nil ?_
        refine rk_false rfl ?_
        refine rk_skip ?_
        refine rk_seq ?_
        refine rk_region ?_
        refine wl_r (o_loadag Try.isAgg27 Try.sizeOf27 rfl f (by rfl)) ?_
        refine wl_p (fun _ => o_faddr (s := 31) (i := 1) (off := 1) Try.underlying31 rfl Try.sizeOf23 rfl rfl rfl) ?_
        refine wl_r (o_loadbg Try.isAgg23 rfl f8 (by rfl)) ?_
        refine wl_call rfl (C_getN _ e7 k1.to_RI k2.to_RKs k3.to_RKs (hK.u hw) rfl rfl rfl rfl (by omega) (by omega) (by omega) (by omega) (by omega)) ?_
        rintro v139 w139 ⟨A139, ⟨c139, ⟨rfl, ⟨f139, b139⟩⟩⟩⟩
        have qf139 := f139.cap
        have s139 := b139.size
        replace hw := hw.trans (b139.mono hw.size)
        replace k1 := k1.u b139
        replace k2 := k2.u b139
        replace k3 := k3.u b139
        replace f7 := f7.u b139
        replace f8 := f8.u b139
        replace f := f.u b139
        refine wl_p (fun _ => o_move rfl) ?_
        refine wl_p (fun _ => o_ext20 rfl) ?_
        refine wl_p (fun _ => o_ext21 rfl) ?_
        refine wl_p (fun _ => o_assign rfl) ?_
        refine wl_p (fun _ => o_assign rfl) ?_
        refine wl_nil ?_
        refine rk_seq ?_
        refine rk_region ?_
        refine wl_r (o_loadag Try.isAgg27 Try.sizeOf27 rfl f7 (by rfl)) ?_
        refine wl_p (fun _ => o_move rfl) ?_
        refine wl_call rfl (C_getN _ e8 (hI.u hw) (hX.u hw) (hY.u hw) (hO.u hw) rfl rfl rfl rfl (by omega) (by omega) (by omega) (by omega) (by omega)) ?_
        rintro v145 w145 ⟨A145, ⟨c145, ⟨rfl, ⟨f145, b145⟩⟩⟩⟩
        have qf145 := f145.cap
        have s145 := b145.size
        replace hw := hw.trans (b145.mono hw.size)
        replace f := f.u b145
        replace f8 := f8.u b145
        replace f7 := f7.u b145
        replace k3 := k3.u b145
        replace k2 := k2.u b145
        replace k1 := k1.u b145
        replace f139 := f139.u b145
        refine wl_p (fun _ => o_move rfl) ?_
        refine wl_p (fun _ => o_ext20 rfl) ?_
        refine wl_p (fun _ => o_ext21 rfl) ?_
        refine wl_p (fun _ => o_assign rfl) ?_
        refine wl_p (fun _ => o_assign rfl) ?_
        refine wl_nil ?_
        refine rk_seq ?_
        refine rk_region ?_
        refine wl_r (o_loadag Try.isAgg27 Try.sizeOf27 rfl f (by rfl)) ?_
        refine wl_p (fun _ => o_move rfl) ?_
        refine wl_call rfl (C_getN _ e9 k1.to_RI k2.to_RKs k3.to_RKs (hO.u hw) rfl rfl rfl rfl (by omega) (by omega) (by omega) (by omega) (by omega)) ?_
        rintro v151 w151 ⟨A151, ⟨c151, ⟨rfl, ⟨f151, b151⟩⟩⟩⟩
        have qf151 := f151.cap
        have s151 := b151.size
        replace hw := hw.trans (b151.mono hw.size)
        replace f139 := f139.u b151
        replace k1 := k1.u b151
        replace k2 := k2.u b151
        replace k3 := k3.u b151
        replace f7 := f7.u b151
        replace f8 := f8.u b151
        replace f := f.u b151
        replace f145 := f145.u b151
        refine wl_p (fun _ => o_move rfl) ?_
        refine wl_p (fun _ => o_ext20 rfl) ?_
        refine wl_p (fun _ => o_ext21 rfl) ?_
        refine wl_p (fun _ => o_assign rfl) ?_
        refine wl_p (fun _ => o_assign rfl) ?_
        refine wl_nil ?_
        refine rk_seq ?_
        refine rk_seq ?_
        refine rk_region ?_
        refine wl_p (fun _ => o_move rfl) ?_
        refine wl_r (o_strU Try.underlying23 Try.underlying5 Try.underlying9 rfl hO hw rfl) ?_
        refine wl_p (fun _ => o_faddr (s := 31) (i := 1) (off := 1) Try.underlying31 rfl Try.sizeOf23 rfl rfl rfl) ?_
        refine wl_r (o_loadbg Try.isAgg23 rfl f8 (by rfl)) ?_
        refine wl_r (o_strU Try.underlying23 Try.underlying5 Try.underlying9 rfl hK hw rfl) ?_
        refine wl_p (fun _ => o_sne rfl rfl) ?_
        refine wl_p (fun _ => o_move rfl) ?_
        refine wl_know 160 false rfl (by simp; omega) ?_
        refine wl_off ?_
        refine wl_off ?_
        refine wl_off ?_
        refine wl_off ?_
        refine wl_off ?_
        refine wl_off ?_
        refine wl_off ?_
        refine wl_off ?_
        refine wl_off ?_
        refine wl_off ?_
        refine wl_p (fun _ => o_pick_f rfl rfl) ?_
        refine wl_nil ?_
        refine rk_false rfl ?_
        refine rk_skip ?_
        refine rk_seq ?_
        refine rk_seq ?_
        refine rk_region ?_
        refine wl_p (fun _ => o_faddr (s := 31) (i := 0) (off := 0) Try.underlying31 rfl Try.sizeOf3 rfl rfl rfl) ?_
        refine wl_r (o_loadbg Try.isAgg3 rfl f8 (by rfl)) ?_
        refine wl_nil ?_
        refine rk_block ?_
        refine rk_seq ?_
        refine rk_region ?_
        refine wl_p (fun _ => o_eq rfl rfl) ?_
        refine wl_p (fun _ => o_assign rfl) ?_
        refine wl_nil ?_
        refine rk_false rfl ?_
        refine rk_seq ?_
        refine rk_region ?_
        refine wl_p (fun _ => o_eq rfl rfl) ?_
        refine wl_p (fun _ => o_assign rfl) ?_
        refine wl_nil ?_
        refine rk_false rfl ?_
        refine rk_seq ?_
        refine rk_region ?_
        refine wl_p (fun _ => o_eq rfl rfl) ?_
        refine wl_p (fun _ => o_assign rfl) ?_
        refine wl_nil ?_
        refine rk_false rfl ?_
        refine rk_seq ?_
        refine rk_region ?_
        refine wl_p (fun _ => o_eq rfl rfl) ?_
        refine wl_p (fun _ => o_assign rfl) ?_
        refine wl_nil ?_
        refine rk_false rfl ?_
        refine rk_seq ?_
        refine rk_region ?_
        refine wl_p (fun _ => o_eq rfl rfl) ?_
        refine wl_p (fun _ => o_assign rfl) ?_
        refine wl_nil ?_
        refine rk_false rfl ?_
        refine rk_skip ?_
        refine rk_blk ?_
        refine rk_seq ?_
        refine rk_region ?_
        refine wl_p (fun _ => o_faddr (s := 27) (i := 2) (off := 2) Try.underlying27 rfl Try.sizeOf25 rfl rfl rfl) ?_
        refine wl_r (o_loadbg Try.isAgg25 rfl f (by rfl)) ?_
        refine wl_p (fun _ => o_faddr (s := 31) (i := 3) (off := 3) Try.underlying31 rfl Try.sizeOf29 rfl rfl rfl) ?_
        refine wl_r (o_ldWho rfl f8) ?_
        refine wl_call rfl (C_member _ k3.to_RKs rfl (by omega)) ?_
        rintro v240 w240 ⟨rfl, b240⟩
        have s240 := b240.size
        replace hw := hw.trans (b240.mono hw.size)
        replace f145 := f145.u b240
        replace f := f.u b240
        replace f8 := f8.u b240
        replace f7 := f7.u b240
        replace k3 := k3.u b240
        replace k2 := k2.u b240
        replace k1 := k1.u b240
        replace f139 := f139.u b240
        replace f151 := f151.u b240
        refine wl_p (fun _ => o_not rfl) ?_
        refine wl_p (fun _ => o_move rfl) ?_
        refine wl_know 242 true rfl (by simp; omega) ?_
        refine wl_p (fun _ => o_faddr (s := 27) (i := 2) (off := 2) Try.underlying27 rfl Try.sizeOf25 rfl rfl rfl) ?_
        refine wl_r (o_loadbg Try.isAgg25 rfl f (by rfl)) ?_
        refine wl_p (fun _ => o_len (t := 25) Try.underlying25 rfl) ?_
        refine wl_p (fun _ => o_faddr (s := 27) (i := 2) (off := 2) Try.underlying27 rfl Try.sizeOf25 rfl rfl rfl) ?_
        refine wl_r (o_loadbg Try.isAgg25 rfl f7 (by rfl)) ?_
        refine wl_p (fun _ => o_len (t := 25) Try.underlying25 rfl) ?_
        refine wl_p (fun _ => o_sub rfl rfl (by omega) (by omega)) ?_
        refine wl_p (fun _ => o_eq rfl rfl) ?_
        refine wl_p (fun _ => o_pick_t rfl rfl) ?_
        refine wl_p (fun _ => o_assign rfl) ?_
        refine wl_nil ?_
        refine ret1 rfl rfl ?_
        exact ⟨congrArg Value.bool (by simp only [decide_eq_false hm1, Bool.not_false, Bool.true_and, decide_eq_true_eq, Bool.and_eq_true]; omega), hw⟩
    · have hsm := get_same hok hok' (fun v => hS.get oth ho v)
      rw [hv2, hv3] at hsm
      injection hsm with hsm1 hsm2
      subst hsm1; subst hsm2
      rcases hkk with rfl | rfl | rfl | rfl | rfl | rfl
      · have hg := get_mem hok' (hS.k1 rfl)
        rw [hv1] at hg
        injection hg with hg1 hg2
        subst hg1; subst hg2
        try dsimp only at *
        refine wl_storega Try.sizeOf27 rfl rfl (by rfl) (oneCell_of (by rfl)) f20 (by rfl) ?_
        rintro w_1 f g e
        have s := g.size
        replace hw := hw.trans (below_of_grownBy g.g hw.size (by omega))
        replace f8 := f8.k g.g (ap_some (by omega))
        replace f7 := f7.k g.g (ap_some (by omega))
        replace k3 := k3.y g (by decide)
        replace k2 := k2.y g (by decide)
        replace k1 := k1.y g (by decide)
        clear f20
        refine wl_p (fun _ => o_assign rfl) ?_
        refine wl_nild ?_
        refine rk_seq ?_
        refine rk_seq ?_
        refine rk_region ?_
        refine wl_p (fun _ => o_move rfl) ?_
        refine wl_p (fun _ => o_not rfl) ?_
        refine wl_nil ?_
        refine rk_false rfl ?_
        refine rk_skip ?_
        refine rk_seq ?_
        refine rk_region ?_
        refine wl_r (o_loadag Try.isAgg27 Try.sizeOf27 rfl f (by rfl)) ?_
        refine wl_p (fun _ => o_faddr (s := 31) (i := 1) (off := 1) Try.underlying31 rfl Try.sizeOf23 rfl rfl rfl) ?_
        refine wl_r (o_loadbg Try.isAgg23 rfl f8 (by rfl)) ?_
        refine wl_call rfl (C_getN _ e7 k1.to_RI k2.to_RKs k3.to_RKs (hK.u hw) rfl rfl rfl rfl (by omega) (by omega) (by omega) (by omega) (by omega)) ?_
        rintro v139 w139 ⟨A139, ⟨c139, ⟨rfl, ⟨f139, b139⟩⟩⟩⟩
        have qf139 := f139.cap
        have s139 := b139.size
        replace hw := hw.trans (b139.mono hw.size)
        replace k1 := k1.u b139
        replace k2 := k2.u b139
        replace k3 := k3.u b139
        replace f7 := f7.u b139
        replace f8 := f8.u b139
        replace f := f.u b139
        refine wl_p (fun _ => o_move rfl) ?_
        refine wl_p (fun _ => o_ext20 rfl) ?_
        refine wl_p (fun _ => o_ext21 rfl) ?_
        refine wl_p (fun _ => o_assign rfl) ?_
        refine wl_p (fun _ => o_assign rfl) ?_
        refine wl_nil ?_
        refine rk_seq ?_
        refine rk_region ?_
        refine wl_r (o_loadag Try.isAgg27 Try.sizeOf27 rfl f7 (by rfl)) ?_
        refine wl_p (fun _ => o_move rfl) ?_
        refine wl_call rfl (C_getN _ e8 (hI.u hw) (hX.u hw) (hY.u hw) (hO.u hw) rfl rfl rfl rfl (by omega) (by omega) (by omega) (by omega) (by omega)) ?_
        rintro v145 w145 ⟨A145, ⟨c145, ⟨rfl, ⟨f145, b145⟩⟩⟩⟩
        have qf145 := f145.cap
        have s145 := b145.size
        replace hw := hw.trans (b145.mono hw.size)
        replace f := f.u b145
        replace f8 := f8.u b145
        replace f7 := f7.u b145
        replace k3 := k3.u b145
        replace k2 := k2.u b145
        replace k1 := k1.u b145
        replace f139 := f139.u b145
        refine wl_p (fun _ => o_move rfl) ?_
        refine wl_p (fun _ => o_ext20 rfl) ?_
        refine wl_p (fun _ => o_ext21 rfl) ?_
        refine wl_p (fun _ => o_assign rfl) ?_
        refine wl_p (fun _ => o_assign rfl) ?_
        refine wl_nil ?_
        refine rk_seq ?_
        refine rk_region ?_
        refine wl_r (o_loadag Try.isAgg27 Try.sizeOf27 rfl f (by rfl)) ?_
        refine wl_p (fun _ => o_move rfl) ?_
        refine wl_call rfl (C_getN _ e9 k1.to_RI k2.to_RKs k3.to_RKs (hO.u hw) rfl rfl rfl rfl (by omega) (by omega) (by omega) (by omega) (by omega)) ?_
        rintro v151 w151 ⟨A151, ⟨c151, ⟨rfl, ⟨f151, b151⟩⟩⟩⟩
        have qf151 := f151.cap
        have s151 := b151.size
        replace hw := hw.trans (b151.mono hw.size)
        replace f139 := f139.u b151
        replace k1 := k1.u b151
        replace k2 := k2.u b151
        replace k3 := k3.u b151
        replace f7 := f7.u b151
        replace f8 := f8.u b151
        replace f := f.u b151
        replace f145 := f145.u b151
        refine wl_p (fun _ => o_move rfl) ?_
        refine wl_p (fun _ => o_ext20 rfl) ?_
        refine wl_p (fun _ => o_ext21 rfl) ?_
        refine wl_p (fun _ => o_assign rfl) ?_
        refine wl_p (fun _ => o_assign rfl) ?_
        refine wl_nil ?_
        refine rk_seq ?_
        refine rk_seq ?_
        refine rk_region ?_
        refine wl_p (fun _ => o_move rfl) ?_
        refine wl_r (o_strU Try.underlying23 Try.underlying5 Try.underlying9 rfl hO hw rfl) ?_
        refine wl_p (fun _ => o_faddr (s := 31) (i := 1) (off := 1) Try.underlying31 rfl Try.sizeOf23 rfl rfl rfl) ?_
        refine wl_r (o_loadbg Try.isAgg23 rfl f8 (by rfl)) ?_
        refine wl_r (o_strU Try.underlying23 Try.underlying5 Try.underlying9 rfl hK hw rfl) ?_
        refine wl_p (fun _ => o_sne rfl rfl) ?_
        refine wl_p (fun _ => o_move rfl) ?_
        refine wl_know 160 true rfl (decide_eq_true (by omega)) ?_
        refine wl_p (fun _ => o_move rfl) ?_
        refine wl_p (fun _ => o_move rfl) ?_
        refine wl_p (fun _ => o_bne (t := 4) Try.underlying4 rfl rfl) ?_
        refine wl_p (fun _ => o_move rfl) ?_
        refine wl_know 164 false rfl (by simp) ?_
        refine wl_p (fun _ => o_move rfl) ?_
        refine wl_r (o_strU Try.underlying23 Try.underlying5 Try.underlying9 rfl f145.to_Rd (Below.refl _ _) rfl) ?_
        refine wl_p (fun _ => o_move rfl) ?_
        refine wl_r (o_strU Try.underlying23 Try.underlying5 Try.underlying9 rfl f151.to_Rd (Below.refl _ _) rfl) ?_
        refine wl_p (fun _ => o_sne rfl rfl) ?_
        refine wl_p (fun _ => o_pick_f rfl rfl) ?_
        refine wl_p (fun _ => o_pick_t rfl rfl) ?_
        refine wl_nil ?_
        refine rk_cond rfl (fun h171 => by simp at h171) (fun h171 => ?_)
        refine rk_skip ?_
        refine rk_seq ?_
        refine rk_seq ?_
        refine rk_region ?_
        refine wl_p (fun _ => o_faddr (s := 31) (i := 0) (off := 0) Try.underlying31 rfl Try.sizeOf3 rfl rfl rfl) ?_
        refine wl_r (o_loadbg Try.isAgg3 rfl f8 (by rfl)) ?_
        refine wl_nil ?_
        refine rk_block ?_
        refine rk_seq ?_
        refine rk_region ?_
        refine wl_p (fun _ => o_eq rfl rfl) ?_
        refine wl_p (fun _ => o_assign rfl) ?_
        refine wl_nil ?_
        refine rk_true rfl ?_
        refine rk_seq ?_
        refine rk_region ?_
        refine wl_p (fun _ => o_move rfl) ?_
        refine wl_p (fun _ => o_move rfl) ?_
        refine wl_p (fun _ => o_move rfl) ?_
        refine wl_r (o_strU Try.underlying23 Try.underlying5 Try.underlying9 rfl f139.to_Rd (Below.refl _ _) rfl) ?_
        refine wl_p (fun _ => o_faddr (s := 31) (i := 2) (off := 2) Try.underlying31 rfl Try.sizeOf23 rfl rfl rfl) ?_
        refine wl_r (o_loadbg Try.isAgg23 rfl f8 (by rfl)) ?_
        refine wl_r (o_strU Try.underlying23 Try.underlying5 Try.underlying9 rfl hV hw rfl) ?_
        refine wl_p (fun _ => o_seq rfl rfl) ?_
        refine wl_p (fun _ => o_pick_t rfl rfl) ?_
        refine wl_p (fun _ => o_assign rfl) ?_
        refine wl_nil ?_
        refine ret1 rfl rfl ?_
        exact ⟨by simp, hw⟩
      · have hg := get_not (X := X') (Y := Y') (hS.k2 rfl).1
        rw [hv1] at hg
        injection hg with hg1 hg2
        subst hg1; subst hg2
        try dsimp only at *
        refine wl_storega Try.sizeOf27 rfl rfl (by rfl) (oneCell_of (by rfl)) f20 (by rfl) ?_
        rintro w_1 f g e
        have s := g.size
        replace hw := hw.trans (below_of_grownBy g.g hw.size (by omega))
        replace f8 := f8.k g.g (ap_some (by omega))
        replace f7 := f7.k g.g (ap_some (by omega))
        replace k3 := k3.y g (by decide)
        replace k2 := k2.y g (by decide)
        replace k1 := k1.y g (by decide)
        clear f20
        refine wl_p (fun _ => o_assign rfl) ?_
        refine wl_nild ?_
        refine rk_seq ?_
        refine rk_seq ?_
        refine rk_region ?_
        refine wl_p (fun _ => o_move rfl) ?_
        refine wl_p (fun _ => o_not rfl) ?_
        refine wl_nil ?_
        refine rk_false rfl ?_
        refine rk_skip ?_
        refine rk_seq ?_
        refine rk_region ?_
        refine wl_r (o_loadag Try.isAgg27 Try.sizeOf27 rfl f (by rfl)) ?_
        refine wl_p (fun _ => o_faddr (s := 31) (i := 1) (off := 1) Try.underlying31 rfl Try.sizeOf23 rfl rfl rfl) ?_
        refine wl_r (o_loadbg Try.isAgg23 rfl f8 (by rfl)) ?_
        refine wl_call rfl (C_getN _ e7 k1.to_RI k2.to_RKs k3.to_RKs (hK.u hw) rfl rfl rfl rfl (by omega) (by omega) (by omega) (by omega) (by omega)) ?_
        rintro v139 w139 ⟨A139, ⟨c139, ⟨rfl, ⟨f139, b139⟩⟩⟩⟩
        have qf139 := f139.cap
        have s139 := b139.size
        replace hw := hw.trans (b139.mono hw.size)
        replace k1 := k1.u b139
        replace k2 := k2.u b139
        replace k3 := k3.u b139
        replace f7 := f7.u b139
        replace f8 := f8.u b139
        replace f := f.u b139
        refine wl_p (fun _ => o_move rfl) ?_
        refine wl_p (fun _ => o_ext20 rfl) ?_
        refine wl_p (fun _ => o_ext21 rfl) ?_
        refine wl_p (fun _ => o_assign rfl) ?_
        refine wl_p (fun _ => o_assign rfl) ?_
        refine wl_nil ?_
        refine rk_seq ?_
        refine rk_region ?_
        refine wl_r (o_loadag Try.isAgg27 Try.sizeOf27 rfl f7 (by rfl)) ?_
        refine wl_p (fun _ => o_move rfl) ?_
        refine wl_call rfl (C_getN _ e8 (hI.u hw) (hX.u hw) (hY.u hw) (hO.u hw) rfl rfl rfl rfl (by omega) (by omega) (by omega) (by omega) (by omega)) ?_
        rintro v145 w145 ⟨A145, ⟨c145, ⟨rfl, ⟨f145, b145⟩⟩⟩⟩
        have qf145 := f145.cap
        have s145 := b145.size
        replace hw := hw.trans (b145.mono hw.size)
        replace f := f.u b145
        replace f8 := f8.u b145
        replace f7 := f7.u b145
        replace k3 := k3.u b145
        replace k2 := k2.u b145
        replace k1 := k1.u b145
        replace f139 := f139.u b145
        refine wl_p (fun _ => o_move rfl) ?_
        refine wl_p (fun _ => o_ext20 rfl) ?_
        refine wl_p (fun _ => o_ext21 rfl) ?_
        refine wl_p (fun _ => o_assign rfl) ?_
        refine wl_p (fun _ => o_assign rfl) ?_
        refine wl_nil ?_
        refine rk_seq ?_
        refine rk_region ?_
        refine wl_r (o_loadag Try.isAgg27 Try.sizeOf27 rfl f (by rfl)) ?_
        refine wl_p (fun _ => o_move rfl) ?_
        refine wl_call rfl (C_getN _ e9 k1.to_RI k2.to_RKs k3.to_RKs (hO.u hw) rfl rfl rfl rfl (by omega) (by omega) (by omega) (by omega) (by omega)) ?_
        rintro v151 w151 ⟨A151, ⟨c151, ⟨rfl, ⟨f151, b151⟩⟩⟩⟩
        have qf151 := f151.cap
        have s151 := b151.size
        replace hw := hw.trans (b151.mono hw.size)
        replace f139 := f139.u b151
        replace k1 := k1.u b151
        replace k2 := k2.u b151
        replace k3 := k3.u b151
        replace f7 := f7.u b151
        replace f8 := f8.u b151
        replace f := f.u b151
        replace f145 := f145.u b151
        refine wl_p (fun _ => o_move rfl) ?_
        refine wl_p (fun _ => o_ext20 rfl) ?_
        refine wl_p (fun _ => o_ext21 rfl) ?_
        refine wl_p (fun _ => o_assign rfl) ?_
        refine wl_p (fun _ => o_assign rfl) ?_
        refine wl_nil ?_
        refine rk_seq ?_
        refine rk_seq ?_
        refine rk_region ?_
        refine wl_p (fun _ => o_move rfl) ?_
        refine wl_r (o_strU Try.underlying23 Try.underlying5 Try.underlying9 rfl hO hw rfl) ?_
        refine wl_p (fun _ => o_faddr (s := 31) (i := 1) (off := 1) Try.underlying31 rfl Try.sizeOf23 rfl rfl rfl) ?_
        refine wl_r (o_loadbg Try.isAgg23 rfl f8 (by rfl)) ?_
        refine wl_r (o_strU Try.underlying23 Try.underlying5 Try.underlying9 rfl hK hw rfl) ?_
        refine wl_p (fun _ => o_sne rfl rfl) ?_
        refine wl_p (fun _ => o_move rfl) ?_
        refine wl_know 160 true rfl (decide_eq_true (by omega)) ?_
        refine wl_p (fun _ => o_move rfl) ?_
        refine wl_p (fun _ => o_move rfl) ?_
        refine wl_p (fun _ => o_bne (t := 4) Try.underlying4 rfl rfl) ?_
        refine wl_p (fun _ => o_move rfl) ?_
        refine wl_know 164 false rfl (by simp) ?_
        refine wl_p (fun _ => o_move rfl) ?_
        refine wl_r (o_strU Try.underlying23 Try.underlying5 Try.underlying9 rfl f145.to_Rd (Below.refl _ _) rfl) ?_
        refine wl_p (fun _ => o_move rfl) ?_
        refine wl_r (o_strU Try.underlying23 Try.underlying5 Try.underlying9 rfl f151.to_Rd (Below.refl _ _) rfl) ?_
        refine wl_p (fun _ => o_sne rfl rfl) ?_
        refine wl_p (fun _ => o_pick_f rfl rfl) ?_
        refine wl_p (fun _ => o_pick_t rfl rfl) ?_
        refine wl_nil ?_
        refine rk_cond rfl (fun h171 => by simp at h171) (fun h171 => ?_)
        refine rk_skip ?_
        refine rk_seq ?_
        refine rk_seq ?_
        refine rk_region ?_
        refine wl_p (fun _ => o_faddr (s := 31) (i := 0) (off := 0) Try.underlying31 rfl Try.sizeOf3 rfl rfl rfl) ?_
        refine wl_r (o_loadbg Try.isAgg3 rfl f8 (by rfl)) ?_
        refine wl_nil ?_
        refine rk_block ?_
        refine rk_seq ?_
        refine rk_region ?_
        refine wl_p (fun _ => o_eq rfl rfl) ?_
        refine wl_p (fun _ => o_assign rfl) ?_
        refine wl_nil ?_
        refine rk_false rfl ?_
        refine rk_seq ?_
        refine rk_region ?_
        refine wl_p (fun _ => o_eq rfl rfl) ?_
        refine wl_p (fun _ => o_assign rfl) ?_
        refine wl_nil ?_
        refine rk_true rfl ?_
        refine rk_seq ?_
        refine rk_region ?_
        refine wl_p (fun _ => o_move rfl) ?_
        refine wl_p (fun _ => o_not rfl) ?_
        refine wl_p (fun _ => o_assign rfl) ?_
        refine wl_nil ?_
        refine ret1 rfl rfl ?_
        exact ⟨by simp, hw⟩
      · have hm1 := (hS.k3 rfl).1
        have hm2 := (hS.k3 rfl).2
        try dsimp only at *
        refine wl_storega Try.sizeOf27 rfl rfl (by rfl) (oneCell_of (by rfl)) f20 (by rfl) ?_
        rintro w_1 f g e
        have s := g.size
        replace hw := hw.trans (below_of_grownBy g.g hw.size (by omega))
        replace f8 := f8.k g.g (ap_some (by omega))
        replace f7 := f7.k g.g (ap_some (by omega))
        replace k3 := k3.y g (by decide)
        replace k2 := k2.y g (by decide)
        replace k1 := k1.y g (by decide)
        clear f20
        refine wl_p (fun _ => o_assign rfl) ?_
        refine wl_nild ?_
        refine rk_seq ?_
        refine rk_seq ?_
        refine rk_region ?_
        refine wl_p (fun _ => o_move rfl) ?_
        refine wl_p (fun _ => o_not rfl) ?_
        refine wl_nil ?_
        refine rk_false rfl ?_
        refine rk_skip ?_
        refine rk_seq ?_
        refine rk_region ?_
        refine wl_r (o_loadag Try.isAgg27 Try.sizeOf27 rfl f (by rfl)) ?_
        refine wl_p (fun _ => o_faddr (s := 31) (i := 1) (off := 1) Try.underlying31 rfl Try.sizeOf23 rfl rfl rfl) ?_
        refine wl_r (o_loadbg Try.isAgg23 rfl f8 (by rfl)) ?_
        refine wl_call rfl (C_getN _ e7 k1.to_RI k2.to_RKs k3.to_RKs (hK.u hw) rfl rfl rfl rfl (by omega) (by omega) (by omega) (by omega) (by omega)) ?_
        rintro v139 w139 ⟨A139, ⟨c139, ⟨rfl, ⟨f139, b139⟩⟩⟩⟩
        have qf139 := f139.cap
        have s139 := b139.size
        replace hw := hw.trans (b139.mono hw.size)
        replace k1 := k1.u b139
        replace k2 := k2.u b139
        replace k3 := k3.u b139
        replace f7 := f7.u b139
        replace f8 := f8.u b139
        replace f := f.u b139
        refine wl_p (fun _ => o_move rfl) ?_
        refine wl_p (fun _ => o_ext20 rfl) ?_
        refine wl_p (fun _ => o_ext21 rfl) ?_
        refine wl_p (fun _ => o_assign rfl) ?_
        refine wl_p (fun _ => o_assign rfl) ?_
        refine wl_nil ?_
        refine rk_seq ?_
        refine rk_region ?_
        refine wl_r (o_loadag Try.isAgg27 Try.sizeOf27 rfl f7 (by rfl)) ?_
        refine wl_p (fun _ => o_move rfl) ?_
        refine wl_call rfl (C_getN _ e8 (hI.u hw) (hX.u hw) (hY.u hw) (hO.u hw) rfl rfl rfl rfl (by omega) (by omega) (by omega) (by omega) (by omega)) ?_
        rintro v145 w145 ⟨A145, ⟨c145, ⟨rfl, ⟨f145, b145⟩⟩⟩⟩
        have qf145 := f145.cap
        have s145 := b145.size
        replace hw := hw.trans (b145.mono hw.size)
        replace f := f.u b145
        replace f8 := f8.u b145
        replace f7 := f7.u b145
        replace k3 := k3.u b145
        replace k2 := k2.u b145
        replace k1 := k1.u b145
        replace f139 := f139.u b145
        refine wl_p (fun _ => o_move rfl) ?_
        refine wl_p (fun _ => o_ext20 rfl) ?_
        refine wl_p (fun _ => o_ext21 rfl) ?_
        refine wl_p (fun _ => o_assign rfl) ?_
        refine wl_p (fun _ => o_assign rfl) ?_
        refine wl_nil ?_
        refine rk_seq ?_
        refine rk_region ?_
        refine wl_r (o_loadag Try.isAgg27 Try.sizeOf27 rfl f (by rfl)) ?_
        refine wl_p (fun _ => o_move rfl) ?_
        refine wl_call rfl (C_getN _ e9 k1.to_RI k2.to_RKs k3.to_RKs (hO.u hw) rfl rfl rfl rfl (by omega) (by omega) (by omega) (by omega) (by omega)) ?_
        rintro v151 w151 ⟨A151, ⟨c151, ⟨rfl, ⟨f151, b151⟩⟩⟩⟩
        have qf151 := f151.cap
        have s151 := b151.size
        replace hw := hw.trans (b151.mono hw.size)
        replace f139 := f139.u b151
        replace k1 := k1.u b151
        replace k2 := k2.u b151
        replace k3 := k3.u b151
        replace f7 := f7.u b151
        replace f8 := f8.u b151
        replace f := f.u b151
        replace f145 := f145.u b151
        refine wl_p (fun _ => o_move rfl) ?_
        refine wl_p (fun _ => o_ext20 rfl) ?_
        refine wl_p (fun _ => o_ext21 rfl) ?_
        refine wl_p (fun _ => o_assign rfl) ?_
        refine wl_p (fun _ => o_assign rfl) ?_
        refine wl_nil ?_
        refine rk_seq ?_
        refine rk_seq ?_
        refine rk_region ?_
        refine wl_p (fun _ => o_move rfl) ?_
        refine wl_r (o_strU Try.underlying23 Try.underlying5 Try.underlying9 rfl hO hw rfl) ?_
        refine wl_p (fun _ => o_faddr (s := 31) (i := 1) (off := 1) Try.underlying31 rfl Try.sizeOf23 rfl rfl rfl) ?_
        refine wl_r (o_loadbg Try.isAgg23 rfl f8 (by rfl)) ?_
        refine wl_r (o_strU Try.underlying23 Try.underlying5 Try.underlying9 rfl hK hw rfl) ?_
        refine wl_p (fun _ => o_sne rfl rfl) ?_
        refine wl_p (fun _ => o_move rfl) ?_
        refine wl_know 160 true rfl (decide_eq_true (by omega)) ?_
        refine wl_p (fun _ => o_move rfl) ?_
        refine wl_p (fun _ => o_move rfl) ?_
        refine wl_p (fun _ => o_bne (t := 4) Try.underlying4 rfl rfl) ?_
        refine wl_p (fun _ => o_move rfl) ?_
        refine wl_know 164 false rfl (by simp) ?_
        refine wl_p (fun _ => o_move rfl) ?_
        refine wl_r (o_strU Try.underlying23 Try.underlying5 Try.underlying9 rfl f145.to_Rd (Below.refl _ _) rfl) ?_
        refine wl_p (fun _ => o_move rfl) ?_
        refine wl_r (o_strU Try.underlying23 Try.underlying5 Try.underlying9 rfl f151.to_Rd (Below.refl _ _) rfl) ?_
        refine wl_p (fun _ => o_sne rfl rfl) ?_
        refine wl_p (fun _ => o_pick_f rfl rfl) ?_
        refine wl_p (fun _ => o_pick_t rfl rfl) ?_
        refine wl_nil ?_
        refine rk_cond rfl (fun h171 => by simp at h171) (fun h171 => ?_)
        refine rk_skip ?_
        refine rk_seq ?_
        refine rk_seq ?_
        refine rk_region ?_
        refine wl_p (fun _ => o_faddr (s := 31) (i := 0) (off := 0) Try.underlying31 rfl Try.sizeOf3 rfl rfl rfl) ?_
        refine wl_r (o_loadbg Try.isAgg3 rfl f8 (by rfl)) ?_
        refine wl_nil ?_
        refine rk_block ?_
        refine rk_seq ?_
        refine rk_region ?_
        refine wl_p (fun _ => o_eq rfl rfl) ?_
        refine wl_p (fun _ => o_assign rfl) ?_
        refine wl_nil ?_
        refine rk_false rfl ?_
        refine rk_seq ?_
        refine rk_region ?_
        refine wl_p (fun _ => o_eq rfl rfl) ?_
        refine wl_p (fun _ => o_assign rfl) ?_
        refine wl_nil ?_
        refine rk_false rfl ?_
        refine rk_seq ?_
        refine rk_region ?_
        refine wl_p (fun _ => o_eq rfl rfl) ?_
        refine wl_p (fun _ => o_assign rfl) ?_
        refine wl_nil ?_
        refine rk_true rfl ?_
        refine rk_seq ?_
        refine rk_region ?_
        refine wl_p (fun _ => o_faddr (s := 27) (i := 1) (off := 1) Try.underlying27 rfl Try.sizeOf25 rfl rfl rfl) ?_
        refine wl_r (o_loadbg Try.isAgg25 rfl f (by rfl)) ?_
        refine wl_p (fun _ => o_faddr (s := 31) (i := 3) (off := 3) Try.underlying31 rfl Try.sizeOf29 rfl rfl rfl) ?_
        refine wl_r (o_ldWho rfl f8) ?_
        refine wl_call rfl (C_member _ k2.to_RKs rfl (by omega)) ?_
        rintro v195 w195 ⟨rfl, b195⟩
        have s195 := b195.size
        replace hw := hw.trans (b195.mono hw.size)
        replace f145 := f145.u b195
        replace f := f.u b195
        replace f8 := f8.u b195
        replace f7 := f7.u b195
        replace k3 := k3.u b195
        replace k2 := k2.u b195
        replace k1 := k1.u b195
        replace f139 := f139.u b195
        replace f151 := f151.u b195
        refine wl_p (fun _ => o_move rfl) ?_
        refine wl_know 196 true rfl (decide_eq_true (by omega)) ?_
        refine wl_p (fun _ => o_faddr (s := 27) (i := 1) (off := 1) Try.underlying27 rfl Try.sizeOf25 rfl rfl rfl) ?_
        refine wl_r (o_loadbg Try.isAgg25 rfl f7 (by rfl)) ?_
        refine wl_p (fun _ => o_faddr (s := 31) (i := 3) (off := 3) Try.underlying31 rfl Try.sizeOf29 rfl rfl rfl) ?_
        refine wl_r (o_ldWho rfl f8) ?_
        refine wl_call rfl (C_member _ (hX.u hw) rfl (by omega)) ?_
        rintro v201 w201 ⟨rfl, b201⟩
        have s201 := b201.size
        replace hw := hw.trans (b201.mono hw.size)
        replace f151 := f151.u b201
        replace f139 := f139.u b201
        replace k1 := k1.u b201
        replace k2 := k2.u b201
        replace k3 := k3.u b201
        replace f7 := f7.u b201
        replace f8 := f8.u b201
        replace f := f.u b201
        replace f145 := f145.u b201
        refine wl_p (fun _ => o_not rfl) ?_
        refine wl_p (fun _ => o_pick_t rfl rfl) ?_
        refine wl_p (fun _ => o_assign rfl) ?_
        refine wl_nil ?_
        refine ret1 rfl rfl ?_
        exact ⟨by simp [(hS.k3 rfl).1, (hS.k3 rfl).2], hw⟩
      · have hm1 := (hS.k4 rfl).1
        have hm2 := (hS.k4 rfl).2
        try dsimp only at *
        refine wl_storega Try.sizeOf27 rfl rfl (by rfl) (oneCell_of (by rfl)) f20 (by rfl) ?_
        rintro w_1 f g e
        have s := g.size
        replace hw := hw.trans (below_of_grownBy g.g hw.size (by omega))
        replace f8 := f8.k g.g (ap_some (by omega))
        replace f7 := f7.k g.g (ap_some (by omega))
        replace k3 := k3.y g (by decide)
        replace k2 := k2.y g (by decide)
        replace k1 := k1.y g (by decide)
        clear f20
        refine wl_p (fun _ => o_assign rfl) ?_
        refine wl_nild ?_
        refine rk_seq ?_
        refine rk_seq ?_
        refine rk_region ?_
        refine wl_p (fun _ => o_move rfl) ?_
        refine wl_p (fun _ => o_not rfl) ?_
        refine wl_nil ?_
        refine rk_false rfl ?_
        refine rk_skip ?_
        refine rk_seq ?_
        refine rk_region ?_
        refine wl_r (o_loadag Try.isAgg27 Try.sizeOf27 rfl f (by rfl)) ?_
        refine wl_p (fun _ => o_faddr (s := 31) (i := 1) (off := 1) Try.underlying31 rfl Try.sizeOf23 rfl rfl rfl) ?_
        refine wl_r (o_loadbg Try.isAgg23 rfl f8 (by rfl)) ?_
        refine wl_call rfl (C_getN _ e7 k1.to_RI k2.to_RKs k3.to_RKs (hK.u hw) rfl rfl rfl rfl (by omega) (by omega) (by omega) (by omega) (by omega)) ?_
        rintro v139 w139 ⟨A139, ⟨c139, ⟨rfl, ⟨f139, b139⟩⟩⟩⟩
        have qf139 := f139.cap
        have s139 := b139.size
        replace hw := hw.trans (b139.mono hw.size)
        replace k1 := k1.u b139
        replace k2 := k2.u b139
        replace k3 := k3.u b139
        replace f7 := f7.u b139
        replace f8 := f8.u b139
        replace f := f.u b139
        refine wl_p (fun _ => o_move rfl) ?_
        refine wl_p (fun _ => o_ext20 rfl) ?_
        refine wl_p (fun _ => o_ext21 rfl) ?_
        refine wl_p (fun _ => o_assign rfl) ?_
        refine wl_p (fun _ => o_assign rfl) ?_
        refine wl_nil ?_
        refine rk_seq ?_
        refine rk_region ?_
        refine wl_r (o_loadag Try.isAgg27 Try.sizeOf27 rfl f7 (by rfl)) ?_
        refine wl_p (fun _ => o_move rfl) ?_
        refine wl_call rfl (C_getN _ e8 (hI.u hw) (hX.u hw) (hY.u hw) (hO.u hw) rfl rfl rfl rfl (by omega) (by omega) (by omega) (by omega) (by omega)) ?_
        rintro v145 w145 ⟨A145, ⟨c145, ⟨rfl, ⟨f145, b145⟩⟩⟩⟩
        have qf145 := f145.cap
        have s145 := b145.size
        replace hw := hw.trans (b145.mono hw.size)
        replace f := f.u b145
        replace f8 := f8.u b145
        replace f7 := f7.u b145
        replace k3 := k3.u b145
        replace k2 := k2.u b145
        replace k1 := k1.u b145
        replace f139 := f139.u b145
        refine wl_p (fun _ => o_move rfl) ?_
        refine wl_p (fun _ => o_ext20 rfl) ?_
        refine wl_p (fun _ => o_ext21 rfl) ?_
        refine wl_p (fun _ => o_assign rfl) ?_
        refine wl_p (fun _ => o_assign rfl) ?_
        refine wl_nil ?_
        refine rk_seq ?_
        refine rk_region ?_
        refine wl_r (o_loadag Try.isAgg27 Try.sizeOf27 rfl f (by rfl)) ?_
        refine wl_p (fun _ => o_move rfl) ?_
        refine wl_call rfl (C_getN _ e9 k1.to_RI k2.to_RKs k3.to_RKs (hO.u hw) rfl rfl rfl rfl (by omega) (by omega) (by omega) (by omega) (by omega)) ?_
        rintro v151 w151 ⟨A151, ⟨c151, ⟨rfl, ⟨f151, b151⟩⟩⟩⟩
        have qf151 := f151.cap
        have s151 := b151.size
        replace hw := hw.trans (b151.mono hw.size)
        replace f139 := f139.u b151
        replace k1 := k1.u b151
        replace k2 := k2.u b151
        replace k3 := k3.u b151
        replace f7 := f7.u b151
        replace f8 := f8.u b151
        replace f := f.u b151
        replace f145 := f145.u b151
        refine wl_p (fun _ => o_move rfl) ?_
        refine wl_p (fun _ => o_ext20 rfl) ?_
        refine wl_p (fun _ => o_ext21 rfl) ?_
        refine wl_p (fun _ => o_assign rfl) ?_
        refine wl_p (fun _ => o_assign rfl) ?_
        refine wl_nil ?_
        refine rk_seq ?_
        refine rk_seq ?_
        refine rk_region ?_
        refine wl_p (fun _ => o_move rfl) ?_
        refine wl_r (o_strU Try.underlying23 Try.underlying5 Try.underlying9 rfl hO hw rfl) ?_
        refine wl_p (fun _ => o_faddr (s := 31) (i := 1) (off := 1) Try.underlying31 rfl Try.sizeOf23 rfl rfl rfl) ?_
        refine wl_r (o_loadbg Try.isAgg23 rfl f8 (by rfl)) ?_
        refine wl_r (o_strU Try.underlying23 Try.underlying5 Try.underlying9 rfl hK hw rfl) ?_
        refine wl_p (fun _ => o_sne rfl rfl) ?_
        refine wl_p (fun _ => o_move rfl) ?_
        refine wl_know 160 true rfl (decide_eq_true (by omega)) ?_
        refine wl_p (fun _ => o_move rfl) ?_
        refine wl_p (fun _ => o_move rfl) ?_
        refine wl_p (fun _ => o_bne (t := 4) Try.underlying4 rfl rfl) ?_
        refine wl_p (fun _ => o_move rfl) ?_
        refine wl_know 164 false rfl (by simp) ?_
        refine wl_p (fun _ => o_move rfl) ?_
        refine wl_r (o_strU Try.underlying23 Try.underlying5 Try.underlying9 rfl f145.to_Rd (Below.refl _ _) rfl) ?_
        refine wl_p (fun _ => o_move rfl) ?_
        refine wl_r (o_strU Try.underlying23 Try.underlying5 Try.underlying9 rfl f151.to_Rd (Below.refl _ _) rfl) ?_
        refine wl_p (fun _ => o_sne rfl rfl) ?_
        refine wl_p (fun _ => o_pick_f rfl rfl) ?_
        refine wl_p (fun _ => o_pick_t rfl rfl) ?_
        refine wl_nil ?_
        refine rk_cond rfl (fun h171 => by simp at h171) (fun h171 => ?_)
        refine rk_skip ?_
        refine rk_seq ?_
        refine rk_seq ?_
        refine rk_region ?_
        refine wl_p (fun _ => o_faddr (s := 31) (i := 0) (off := 0) Try.underlying31 rfl Try.sizeOf3 rfl rfl rfl) ?_
        refine wl_r (o_loadbg Try.isAgg3 rfl f8 (by rfl)) ?_
        refine wl_nil ?_
        refine rk_block ?_
        refine rk_seq ?_
        refine rk_region ?_
        refine wl_p (fun _ => o_eq rfl rfl) ?_
        refine wl_p (fun _ => o_assign rfl) ?_
        refine wl_nil ?_
        refine rk_false rfl ?_
        refine rk_seq ?_
        refine rk_region ?_
        refine wl_p (fun _ => o_eq rfl rfl) ?_
        refine wl_p (fun _ => o_assign rfl) ?_
        refine wl_nil ?_
        refine rk_false rfl ?_
        refine rk_seq ?_
        refine rk_region ?_
        refine wl_p (fun _ => o_eq rfl rfl) ?_
        refine wl_p (fun _ => o_assign rfl) ?_
        refine wl_nil ?_
        refine rk_false rfl ?_
        refine rk_seq ?_
        refine rk_region ?_
        refine wl_p (fun _ => o_eq rfl rfl) ?_
        refine wl_p (fun _ => o_assign rfl) ?_
        refine wl_nil ?_
        refine rk_true rfl ?_
        refine rk_seq ?_
        refine rk_region ?_
        refine wl_p (fun _ => o_faddr (s := 27) (i := 1) (off := 1) Try.underlying27 rfl Try.sizeOf25 rfl rfl rfl) ?_
        refine wl_r (o_loadbg Try.isAgg25 rfl f (by rfl)) ?_
        refine wl_p (fun _ => o_faddr (s := 31) (i := 3) (off := 3) Try.underlying31 rfl Try.sizeOf29 rfl rfl rfl) ?_
        refine wl_r (o_ldWho rfl f8) ?_
        refine wl_call rfl (C_member _ k2.to_RKs rfl (by omega)) ?_
        rintro v210 w210 ⟨rfl, b210⟩
        have s210 := b210.size
        replace hw := hw.trans (b210.mono hw.size)
        replace f145 := f145.u b210
        replace f := f.u b210
        replace f8 := f8.u b210
        replace f7 := f7.u b210
        replace k3 := k3.u b210
        replace k2 := k2.u b210
        replace k1 := k1.u b210
        replace f139 := f139.u b210
        replace f151 := f151.u b210
        refine wl_p (fun _ => o_not rfl) ?_
        refine wl_p (fun _ => o_move rfl) ?_
        refine wl_know 212 true rfl (by simp; omega) ?_
        refine wl_p (fun _ => o_faddr (s := 27) (i := 1) (off := 1) Try.underlying27 rfl Try.sizeOf25 rfl rfl rfl) ?_
        refine wl_r (o_loadbg Try.isAgg25 rfl f7 (by rfl)) ?_
        refine wl_p (fun _ => o_faddr (s := 31) (i := 3) (off := 3) Try.underlying31 rfl Try.sizeOf29 rfl rfl rfl) ?_
        refine wl_r (o_ldWho rfl f8) ?_
        refine wl_call rfl (C_member _ (hX.u hw) rfl (by omega)) ?_
        rintro v217 w217 ⟨rfl, b217⟩
        have s217 := b217.size
        replace hw := hw.trans (b217.mono hw.size)
        replace f151 := f151.u b217
        replace f139 := f139.u b217
        replace k1 := k1.u b217
        replace k2 := k2.u b217
        replace k3 := k3.u b217
        replace f7 := f7.u b217
        replace f8 := f8.u b217
        replace f := f.u b217
        replace f145 := f145.u b217
        refine wl_p (fun _ => o_pick_t rfl rfl) ?_
        refine wl_p (fun _ => o_assign rfl) ?_
        refine wl_nil ?_
        refine ret1 rfl rfl ?_
        exact ⟨by simp [(hS.k4 rfl).1, (hS.k4 rfl).2], hw⟩
      · have hm1 := (hS.k5 rfl).1
        have hm2 := (hS.k5 rfl).2.2
        try dsimp only at *
        refine wl_storega Try.sizeOf27 rfl rfl (by rfl) (oneCell_of (by rfl)) f20 (by rfl) ?_
        rintro w_1 f g e
        have s := g.size
        replace hw := hw.trans (below_of_grownBy g.g hw.size (by omega))
        replace f8 := f8.k g.g (ap_some (by omega))
        replace f7 := f7.k g.g (ap_some (by omega))
        replace k3 := k3.y g (by decide)
        replace k2 := k2.y g (by decide)
        replace k1 := k1.y g (by decide)
        clear f20
        refine wl_p (fun _ => o_assign rfl) ?_
        refine wl_nild ?_
        refine rk_seq ?_
        refine rk_seq ?_
        refine rk_region ?_
        refine wl_p (fun _ => o_move rfl) ?_
        refine wl_p (fun _ => o_not rfl) ?_
        refine wl_nil ?_
        refine rk_false rfl ?_
        refine rk_skip ?_
        refine rk_seq ?_
        refine rk_region ?_
        refine wl_r (o_loadag Try.isAgg27 Try.sizeOf27 rfl f (by rfl)) ?_
        refine wl_p (fun _ => o_faddr (s := 31) (i := 1) (off := 1) Try.underlying31 rfl Try.sizeOf23 rfl rfl rfl) ?_
        refine wl_r (o_loadbg Try.isAgg23 rfl f8 (by rfl)) ?_
        refine wl_call rfl (C_getN _ e7 k1.to_RI k2.to_RKs k3.to_RKs (hK.u hw) rfl rfl rfl rfl (by omega) (by omega) (by omega) (by omega) (by omega)) ?_
        rintro v139 w139 ⟨A139, ⟨c139, ⟨rfl, ⟨f139, b139⟩⟩⟩⟩
        have qf139 := f139.cap
        have s139 := b139.size
        replace hw := hw.trans (b139.mono hw.size)
        replace k1 := k1.u b139
        replace k2 := k2.u b139
        replace k3 := k3.u b139
        replace f7 := f7.u b139
        replace f8 := f8.u b139
        replace f := f.u b139
        refine wl_p (fun _ => o_move rfl) ?_
        refine wl_p (fun _ => o_ext20 rfl) ?_
        refine wl_p (fun _ => o_ext21 rfl) ?_
        refine wl_p (fun _ => o_assign rfl) ?_
        refine wl_p (fun _ => o_assign rfl) ?_
        refine wl_nil ?_
        refine rk_seq ?_
        refine rk_region ?_
        refine wl_r (o_loadag Try.isAgg27 Try.sizeOf27 rfl f7 (by rfl)) ?_
        refine wl_p (fun _ => o_move rfl) ?_
        refine wl_call rfl (C_getN _ e8 (hI.u hw) (hX.u hw) (hY.u hw) (hO.u hw) rfl rfl rfl rfl (by omega) (by omega) (by omega) (by omega) (by omega)) ?_
        rintro v145 w145 ⟨A145, ⟨c145, ⟨rfl, ⟨f145, b145⟩⟩⟩⟩
        have qf145 := f145.cap
        have s145 := b145.size
        replace hw := hw.trans (b145.mono hw.size)
        replace f := f.u b145
        replace f8 := f8.u b145
        replace f7 := f7.u b145
        replace k3 := k3.u b145
        replace k2 := k2.u b145
        replace k1 := k1.u b145
        replace f139 := f139.u b145
        refine wl_p (fun _ => o_move rfl) ?_
        refine wl_p (fun _ => o_ext20 rfl) ?_
        refine wl_p (fun _ => o_ext21 rfl) ?_
        refine wl_p (fun _ => o_assign rfl) ?_
        refine wl_p (fun _ => o_assign rfl) ?_
        refine wl_nil ?_
        refine rk_seq ?_
        refine rk_region ?_
        refine wl_r (o_loadag Try.isAgg27 Try.sizeOf27 rfl f (by rfl)) ?_
        refine wl_p (fun _ => o_move rfl) ?_
        refine wl_call rfl (C_getN _ e9 k1.to_RI k2.to_RKs k3.to_RKs (hO.u hw) rfl rfl rfl rfl (by omega) (by omega) (by omega) (by omega) (by omega)) ?_
        rintro v151 w151 ⟨A151, ⟨c151, ⟨rfl, ⟨f151, b151⟩⟩⟩⟩
        have qf151 := f151.cap
        have s151 := b151.size
        replace hw := hw.trans (b151.mono hw.size)
        replace f139 := f139.u b151
        replace k1 := k1.u b151
        replace k2 := k2.u b151
        replace k3 := k3.u b151
        replace f7 := f7.u b151
        replace f8 := f8.u b151
        replace f := f.u b151
        replace f145 := f145.u b151
        refine wl_p (fun _ => o_move rfl) ?_
        refine wl_p (fun _ => o_ext20 rfl) ?_
        refine wl_p (fun _ => o_ext21 rfl) ?_
        refine wl_p (fun _ => o_assign rfl) ?_
        refine wl_p (fun _ => o_assign rfl) ?_
        refine wl_nil ?_
        refine rk_seq ?_
        refine rk_seq ?_
        refine rk_region ?_
        refine wl_p (fun _ => o_move rfl) ?_
        refine wl_r (o_strU Try.underlying23 Try.underlying5 Try.underlying9 rfl hO hw rfl) ?_
        refine wl_p (fun _ => o_faddr (s := 31) (i := 1) (off := 1) Try.underlying31 rfl Try.sizeOf23 rfl rfl rfl) ?_
        refine wl_r (o_loadbg Try.isAgg23 rfl f8 (by rfl)) ?_
        refine wl_r (o_strU Try.underlying23 Try.underlying5 Try.underlying9 rfl hK hw rfl) ?_
        refine wl_p (fun _ => o_sne rfl rfl) ?_
        refine wl_p (fun _ => o_move rfl) ?_
        refine wl_know 160 true rfl (decide_eq_true (by omega)) ?_
        refine wl_p (fun _ => o_move rfl) ?_
        refine wl_p (fun _ => o_move rfl) ?_
        refine wl_p (fun _ => o_bne (t := 4) Try.underlying4 rfl rfl) ?_
        refine wl_p (fun _ => o_move rfl) ?_
        refine wl_know 164 false rfl (by simp) ?_
        refine wl_p (fun _ => o_move rfl) ?_
        refine wl_r (o_strU Try.underlying23 Try.underlying5 Try.underlying9 rfl f145.to_Rd (Below.refl _ _) rfl) ?_
        refine wl_p (fun _ => o_move rfl) ?_
        refine wl_r (o_strU Try.underlying23 Try.underlying5 Try.underlying9 rfl f151.to_Rd (Below.refl _ _) rfl) ?_
        refine wl_p (fun _ => o_sne rfl rfl) ?_
        refine wl_p (fun _ => o_pick_f rfl rfl) ?_
        refine wl_p (fun _ => o_pick_t rfl rfl) ?_
        refine wl_nil ?_
        refine rk_cond rfl (fun h171 => by simp at h171) (fun h171 => ?_)
        refine rk_skip ?_
        refine rk_seq ?_
        refine rk_seq ?_
        refine rk_region ?_
        refine wl_p (fun _ => o_faddr (s := 31) (i := 0) (off := 0) Try.underlying31 rfl Try.sizeOf3 rfl rfl rfl) ?_
        refine wl_r (o_loadbg Try.isAgg3 rfl f8 (by rfl)) ?_
        refine wl_nil ?_
        refine rk_block ?_
        refine rk_seq ?_
        refine rk_region ?_
        refine wl_p (fun _ => o_eq rfl rfl) ?_
        refine wl_p (fun _ => o_assign rfl) ?_
        refine wl_nil ?_
        refine rk_false rfl ?_
        refine rk_seq ?_
        refine rk_region ?_
        refine wl_p (fun _ => o_eq rfl rfl) ?_
        refine wl_p (fun _ => o_assign rfl) ?_
        refine wl_nil ?_
        refine rk_false rfl ?_
        refine rk_seq ?_
        refine rk_region ?_
        refine wl_p (fun _ => o_eq rfl rfl) ?_
        refine wl_p (fun _ => o_assign rfl) ?_
        refine wl_nil ?_
        refine rk_false rfl ?_
        refine rk_seq ?_
        refine rk_region ?_
        refine wl_p (fun _ => o_eq rfl rfl) ?_
        refine wl_p (fun _ => o_assign rfl) ?_
        refine wl_nil ?_
        refine rk_false rfl ?_
        refine rk_seq ?_
        refine rk_region ?_
        refine wl_p (fun _ => o_eq rfl rfl) ?_
        refine wl_p (fun _ => o_assign rfl) ?_
        refine wl_nil ?_
        refine rk_true rfl ?_
        refine rk_seq ?_
        refine rk_region ?_
        refine wl_p (fun _ => o_faddr (s := 27) (i := 2) (off := 2) Try.underlying27 rfl Try.sizeOf25 rfl rfl rfl) ?_
        refine wl_r (o_loadbg Try.isAgg25 rfl f (by rfl)) ?_
        refine wl_p (fun _ => o_faddr (s := 31) (i := 3) (off := 3) Try.underlying31 rfl Try.sizeOf29 rfl rfl rfl) ?_
        refine wl_r (o_ldWho rfl f8) ?_
        refine wl_call rfl (C_member _ k3.to_RKs rfl (by omega)) ?_
        rintro v225 w225 ⟨rfl, b225⟩
        have s225 := b225.size
        replace hw := hw.trans (b225.mono hw.size)
        replace f145 := f145.u b225
        replace f := f.u b225
        replace f8 := f8.u b225
        replace f7 := f7.u b225
        replace k3 := k3.u b225
        replace k2 := k2.u b225
        replace k1 := k1.u b225
        replace f139 := f139.u b225
        replace f151 := f151.u b225
        refine wl_p (fun _ => o_move rfl) ?_
        refine wl_know 226 true rfl (decide_eq_true (by omega)) ?_
        refine wl_p (fun _ => o_faddr (s := 27) (i := 2) (off := 2) Try.underlying27 rfl Try.sizeOf25 rfl rfl rfl) ?_
        refine wl_r (o_loadbg Try.isAgg25 rfl f (by rfl)) ?_
        refine wl_p (fun _ => o_len (t := 25) Try.underlying25 rfl) ?_
        refine wl_p (fun _ => o_faddr (s := 27) (i := 2) (off := 2) Try.underlying27 rfl Try.sizeOf25 rfl rfl rfl) ?_
        refine wl_r (o_loadbg Try.isAgg25 rfl f7 (by rfl)) ?_
        refine wl_p (fun _ => o_len (t := 25) Try.underlying25 rfl) ?_
        refine wl_p (fun _ => o_add rfl rfl (by omega) (by omega)) ?_
        refine wl_p (fun _ => o_eq rfl rfl) ?_
        refine wl_p (fun _ => o_pick_t rfl rfl) ?_
        refine wl_p (fun _ => o_assign rfl) ?_
        refine wl_nil ?_
        refine ret1 rfl rfl ?_
        exact ⟨by simp [(hS.k5 rfl).1, (hS.k5 rfl).2.2], hw⟩
      · have hk6 := hS.k6 (by simp) (by simp) (by simp) (by simp) (by simp)
        have hm1 := hk6.1
        have hm2 := hk6.2.2
        try dsimp only at *
        refine wl_storega Try.sizeOf27 rfl rfl (by rfl) (oneCell_of (by rfl)) f20 (by rfl) ?_
        rintro w_1 f g e
        have s := g.size
        replace hw := hw.trans (below_of_grownBy g.g hw.size (by omega))
        replace f8 := f8.k g.g (ap_some (by omega))
        replace f7 := f7.k g.g (ap_some (by omega))
        replace k3 := k3.y g (by decide)
        replace k2 := k2.y g (by decide)
        replace k1 := k1.y g (by decide)
        clear f20
        refine wl_p (fun _ => o_assign rfl) ?_
        refine wl_nild ?_
        refine rk_seq ?_
        refine rk_seq ?_
        refine rk_region ?_
        refine wl_p (fun _ => o_move rfl) ?_
        refine wl_p (fun _ => o_not rfl) ?_
        refine wl_nil ?_
        refine rk_false rfl ?_
        refine rk_skip ?_
        refine rk_seq ?_
        refine rk_region ?_
        refine wl_r (o_loadag Try.isAgg27 Try.sizeOf27 rfl f (by rfl)) ?_
        refine wl_p (fun _ => o_faddr (s := 31) (i := 1) (off := 1) Try.underlying31 rfl Try.sizeOf23 rfl rfl rfl) ?_
        refine wl_r (o_loadbg Try.isAgg23 rfl f8 (by rfl)) ?_
        refine wl_call rfl (C_getN _ e7 k1.to_RI k2.to_RKs k3.to_RKs (hK.u hw) rfl rfl rfl rfl (by omega) (by omega) (by omega) (by omega) (by omega)) ?_
        rintro v139 w139 ⟨A139, ⟨c139, ⟨rfl, ⟨f139, b139⟩⟩⟩⟩
        have qf139 := f139.cap
        have s139 := b139.size
        replace hw := hw.trans (b139.mono hw.size)
        replace k1 := k1.u b139
        replace k2 := k2.u b139
        replace k3 := k3.u b139
        replace f7 := f7.u b139
        replace f8 := f8.u b139
        replace f := f.u b139
        refine wl_p (fun _ => o_move rfl) ?_
        refine wl_p (fun _ => o_ext20 rfl) ?_
        refine wl_p (fun _ => o_ext21 rfl) ?_
        refine wl_p (fun _ => o_assign rfl) ?_
        refine wl_p (fun _ => o_assign rfl) ?_
        refine wl_nil ?_
        refine rk_seq ?_
        refine rk_region ?_
        refine wl_r (o_loadag Try.isAgg27 Try.sizeOf27 rfl f7 (by rfl)) ?_
        refine wl_p (fun _ => o_move rfl) ?_
        refine wl_call rfl (C_getN _ e8 (hI.u hw) (hX.u hw) (hY.u hw) (hO.u hw) rfl rfl rfl rfl (by omega) (by omega) (by omega) (by omega) (by omega)) ?_
        rintro v145 w145 ⟨A145, ⟨c145, ⟨rfl, ⟨f145, b145⟩⟩⟩⟩
        have qf145 := f145.cap
        have s145 := b145.size
        replace hw := hw.trans (b145.mono hw.size)
        replace f := f.u b145
        replace f8 := f8.u b145
        replace f7 := f7.u b145
        replace k3 := k3.u b145
        replace k2 := k2.u b145
        replace k1 := k1.u b145
        replace f139 := f139.u b145
        refine wl_p (fun _ => o_move rfl) ?_
        refine wl_p (fun _ => o_ext20 rfl) ?_
        refine wl_p (fun _ => o_ext21 rfl) ?_
        refine wl_p (fun _ => o_assign rfl) ?_
        refine wl_p (fun _ => o_assign rfl) ?_
        refine wl_nil ?_
        refine rk_seq ?_
        refine rk_region ?_
        refine wl_r (o_loadag Try.isAgg27 Try.sizeOf27 rfl f (by rfl)) ?_
        refine wl_p (fun _ => o_move rfl) ?_
        refine wl_call rfl (C_getN _ e9 k1.to_RI k2.to_RKs k3.to_RKs (hO.u hw) rfl rfl rfl rfl (by omega) (by omega) (by omega) (by omega) (by omega)) ?_
        rintro v151 w151 ⟨A151, ⟨c151, ⟨rfl, ⟨f151, b151⟩⟩⟩⟩
        have qf151 := f151.cap
        have s151 := b151.size
        replace hw := hw.trans (b151.mono hw.size)
        replace f139 := f139.u b151
        replace k1 := k1.u b151
        replace k2 := k2.u b151
        replace k3 := k3.u b151
        replace f7 := f7.u b151
        replace f8 := f8.u b151
        replace f := f.u b151
        replace f145 := f145.u b151
        refine wl_p (fun _ => o_move rfl) ?_
        refine wl_p (fun _ => o_ext20 rfl) ?_
        refine wl_p (fun _ => o_ext21 rfl) ?_
        refine wl_p (fun _ => o_assign rfl) ?_
        refine wl_p (fun _ => o_assign rfl) ?_
        refine wl_nil ?_
        refine rk_seq ?_
        refine rk_seq ?_
        refine rk_region ?_
        refine wl_p (fun _ => o_move rfl) ?_
        refine wl_r (o_strU Try.underlying23 Try.underlying5 Try.underlying9 rfl hO hw rfl) ?_
        refine wl_p (fun _ => o_faddr (s := 31) (i := 1) (off := 1) Try.underlying31 rfl Try.sizeOf23 rfl rfl rfl) ?_
        refine wl_r (o_loadbg Try.isAgg23 rfl f8 (by rfl)) ?_
        refine wl_r (o_strU Try.underlying23 Try.underlying5 Try.underlying9 rfl hK hw rfl) ?_
        refine wl_p (fun _ => o_sne rfl rfl) ?_
        refine wl_p (fun _ => o_move rfl) ?_
        refine wl_know 160 true rfl (decide_eq_true (by omega)) ?_
        refine wl_p (fun _ => o_move rfl) ?_
        refine wl_p (fun _ => o_move rfl) ?_
        refine wl_p (fun _ => o_bne (t := 4) Try.underlying4 rfl rfl) ?_
        refine wl_p (fun _ => o_move rfl) ?_
        refine wl_know 164 false rfl (by simp) ?_
        refine wl_p (fun _ => o_move rfl) ?_
        refine wl_r (o_strU Try.underlying23 Try.underlying5 Try.underlying9 rfl f145.to_Rd (Below.refl _ _) rfl) ?_
        refine wl_p (fun _ => o_move rfl) ?_
        refine wl_r (o_strU Try.underlying23 Try.underlying5 Try.underlying9 rfl f151.to_Rd (Below.refl _ _) rfl) ?_
        refine wl_p (fun _ => o_sne rfl rfl) ?_
        refine wl_p (fun _ => o_pick_f rfl rfl) ?_
        refine wl_p (fun _ => o_pick_t rfl rfl) ?_
        refine wl_nil ?_
        refine rk_cond rfl (fun h171 => by simp at h171) (fun h171 => ?_)
        refine rk_skip ?_
        refine rk_seq ?_
        refine rk_seq ?_
        refine rk_region ?_
        refine wl_p (fun _ => o_faddr (s := 31) (i := 0) (off := 0) Try.underlying31 rfl Try.sizeOf3 rfl rfl rfl) ?_
        refine wl_r (o_loadbg Try.isAgg3 rfl f8 (by rfl)) ?_
        refine wl_nil ?_
        refine rk_block ?_
        refine rk_seq ?_
        refine rk_region ?_
        refine wl_p (fun _ => o_eq rfl rfl) ?_
        refine wl_p (fun _ => o_assign rfl) ?_
        refine wl_nil ?_
        refine rk_false rfl ?_
        refine rk_seq ?_
        refine rk_region ?_
        refine wl_p (fun _ => o_eq rfl rfl) ?_
        refine wl_p (fun _ => o_assign rfl) ?_
        refine wl_nil ?_
        refine rk_false rfl ?_
        refine rk_seq ?_
        refine rk_region ?_
        refine wl_p (fun _ => o_eq rfl rfl) ?_
        refine wl_p (fun _ => o_assign rfl) ?_
        refine wl_nil ?_
        refine rk_false rfl ?_
        refine rk_seq ?_
        refine rk_region ?_
        refine wl_p (fun _ => o_eq rfl rfl) ?_
        refine wl_p (fun _ => o_assign rfl) ?_
        refine wl_nil ?_
        refine rk_false rfl ?_
        refine rk_seq ?_
        refine rk_region ?_
        refine wl_p (fun _ => o_eq rfl rfl) ?_
        refine wl_p (fun _ => o_assign rfl) ?_
        refine wl_nil ?_
        refine rk_false rfl ?_
        refine rk_skip ?_
        refine rk_blk ?_
        refine rk_seq ?_
        refine rk_region ?_
        refine wl_p (fun _ => o_faddr (s := 27) (i := 2) (off := 2) Try.underlying27 rfl Try.sizeOf25 rfl rfl rfl) ?_
        refine wl_r (o_loadbg Try.isAgg25 rfl f (by rfl)) ?_
        refine wl_p (fun _ => o_faddr (s := 31) (i := 3) (off := 3) Try.underlying31 rfl Try.sizeOf29 rfl rfl rfl) ?_
        refine wl_r (o_ldWho rfl f8) ?_
        refine wl_call rfl (C_member _ k3.to_RKs rfl (by omega)) ?_
        rintro v240 w240 ⟨rfl, b240⟩
        have s240 := b240.size
        replace hw := hw.trans (b240.mono hw.size)
        replace f145 := f145.u b240
        replace f := f.u b240
        replace f8 := f8.u b240
        replace f7 := f7.u b240
        replace k3 := k3.u b240
        replace k2 := k2.u b240
        replace k1 := k1.u b240
        replace f139 := f139.u b240
        replace f151 := f151.u b240
        refine wl_p (fun _ => o_not rfl) ?_
        refine wl_p (fun _ => o_move rfl) ?_
        refine wl_know 242 true rfl (by simp; omega) ?_
        refine wl_p (fun _ => o_faddr (s := 27) (i := 2) (off := 2) Try.underlying27 rfl Try.sizeOf25 rfl rfl rfl) ?_
        refine wl_r (o_loadbg Try.isAgg25 rfl f (by rfl)) ?_
        refine wl_p (fun _ => o_len (t := 25) Try.underlying25 rfl) ?_
        refine wl_p (fun _ => o_faddr (s := 27) (i := 2) (off := 2) Try.underlying27 rfl Try.sizeOf25 rfl rfl rfl) ?_
        refine wl_r (o_loadbg Try.isAgg25 rfl f7 (by rfl)) ?_
        refine wl_p (fun _ => o_len (t := 25) Try.underlying25 rfl) ?_
        refine wl_p (fun _ => o_sub rfl rfl (by omega) (by omega)) ?_
        refine wl_p (fun _ => o_eq rfl rfl) ?_
        refine wl_p (fun _ => o_pick_t rfl rfl) ?_
        refine wl_p (fun _ => o_assign rfl) ?_
        refine wl_nil ?_
        refine ret1 rfl rfl ?_
        exact ⟨congrArg Value.bool (by simp only [decide_eq_false hm1, Bool.not_false, Bool.true_and, decide_eq_true_eq, Bool.and_eq_true]; omega), hw⟩
  · refine wl_call rfl (C_kOwnState _ (hI.u hw) (hX.u hw) (hY.u hw) rfl rfl rfl (by omega) (by omega) (by omega) (by omega)) ?_ (hq := .inr fun _ _ h => grown_of_below h.choose_spec.choose_spec.choose_spec.choose_spec.choose_spec.choose_spec.2.2.2.2 _)
    rintro v121 w121 ⟨A121, ⟨c121, ⟨B121, ⟨d121, ⟨C121, ⟨e121, ⟨rfl, ⟨f121, ⟨f121_1, ⟨f121_2, b121⟩⟩⟩⟩⟩⟩⟩⟩⟩⟩
    simp only [drew_size] at f121
    simp only [drew_size] at f121_1
    simp only [drew_size] at f121_2
    simp only [drew_size] at b121
    have qf121 := f121.cap
    have qf121_1 := f121_1.cap
    have qf121_2 := f121_2.cap
    have s121 := b121.size
    simp only [drew_size] at s121
    replace hw := hw.trans (b121.mono hw.size)
    replace hw1 := hw1.trans (b121.mono hw1.size)
    replace f8 := f8.u b121
    replace f7 := f7.u b121
    refine wl_fork2j (m := 127) (L := 6274) (C := 2050) (n := 7) (k1 := 7) (k2 := 11) _ [0, 1, 0, 4, 8, 16, 0, 98, 128, 256, 256, 0, 3071, 8191] [0, 1, 0, 4, 12, 28, 0, 127, 255, 511, 511, 0, 3071, 8191] [7, 8, 9, 10, 11, 12, 13] [11, 7, 8, 9, 10, 12, 13] [12, 13] [(.p, 8), (.p, 9), (.p, 10), (.c, 11), (.l, 12), (.p, 13)] [(.l, 7), (.p, 8), (.p, 9), (.p, 10), (.l, 12), (.p, 13)] [(.l, 12), (.p, 13)] (by kernel_rfl) (by kernel_rfl) (by kernel_rfl) (by kernel_rfl) (by kernel_rfl) hj (fun hj => ?_) (fun hj => ?_) <;> dsimp only [inOrder, nthOp]
    · refine wl_call rfl (C_opsStepN _ e6 f121.to_RI f121_1.to_RKs f121_2.to_RKs (hK.u hw) (hV.u hw) rfl rfl rfl rfl rfl (by omega) (by omega) (by omega) (by omega) (by omega) (by omega)) ?_
      rintro v127 w127 ⟨A127, ⟨c127, ⟨B127, ⟨d127, ⟨C127, ⟨e127, ⟨rfl, ⟨f127, ⟨f127_1, ⟨f127_2, b127⟩⟩⟩⟩⟩⟩⟩⟩⟩⟩
      have qf127 := f127.cap
      have qf127_1 := f127_1.cap
      have qf127_2 := f127_2.cap
      have s127 := b127.size
      replace hw := hw.trans (b127.mono hw.size)
      replace hw1 := hw1.trans (b127.mono hw1.size)
      replace f7 := f7.u b127
      replace f8 := f8.u b127
      replace f121_2 := f121_2.u b127
      replace f121_1 := f121_1.u b127
      replace f121 := f121.u b127
      refine wl_p (fun _ => o_move rfl) ?_
      refine wl_p (fun _ => o_ext20 rfl) ?_
      refine wl_p (fun _ => o_ext21 rfl) ?_
      refine wl_allocg [_, _, _] Try.zeroValue27 (by rfl) ?_
      rintro g20 w20 f20 b20 i20 i20_1
      have s20 := b20.size
      replace hw := hw.trans (b20.mono hw.size)
      replace hw1 := hw1.trans (b20.mono hw1.size)
      replace f121 := f121.u b20
      replace f121_1 := f121_1.u b20
      replace f121_2 := f121_2.u b20
      replace f8 := f8.u b20
      replace f7 := f7.u b20
      replace f127_2 := f127_2.u b20
      replace f127_1 := f127_1.u b20
      replace f127 := f127.u b20
      exact wl_tof hj (Fr.le_of (by kernel_rfl) (by kernel_rfl) (by repeat' constructor)) ⟨g20, _, _, _, _, _, _, rfl, f20, by omega, f127.to_RIT, f127_1.to_RKT, f127_2.to_RKT, hw1⟩
    · refine wl_allocg [_, _, _] Try.zeroValue27 (by rfl) ?_
      rintro g20 w20 f20 b20 i20 i20_1
      have s20 := b20.size
      replace hw := hw.trans (b20.mono hw.size)
      replace hw1 := hw1.trans (b20.mono hw1.size)
      replace f7 := f7.u b20
      replace f8 := f8.u b20
      replace f121_2 := f121_2.u b20
      replace f121_1 := f121_1.u b20
      replace f121 := f121.u b20
      refine wl_call rfl (C_opsStepN _ e6 f121.to_RI f121_1.to_RKs f121_2.to_RKs (hK.u hw) (hV.u hw) rfl rfl rfl rfl rfl (by omega) (by omega) (by omega) (by omega) (by omega) (by omega)) ?_
      rintro v127 w127 ⟨A127, ⟨c127, ⟨B127, ⟨d127, ⟨C127, ⟨e127, ⟨rfl, ⟨f127, ⟨f127_1, ⟨f127_2, b127⟩⟩⟩⟩⟩⟩⟩⟩⟩⟩
      have qf127 := f127.cap
      have qf127_1 := f127_1.cap
      have qf127_2 := f127_2.cap
      have s127 := b127.size
      replace hw := hw.trans (b127.mono hw.size)
      replace hw1 := hw1.trans (b127.mono hw1.size)
      replace f121 := f121.u b127
      replace f121_1 := f121_1.u b127
      replace f121_2 := f121_2.u b127
      replace f8 := f8.u b127
      replace f7 := f7.u b127
      replace f20 := f20.u b127
      refine wl_p (fun _ => o_move rfl) ?_
      refine wl_p (fun _ => o_ext20 rfl) ?_
      refine wl_p (fun _ => o_ext21 rfl) ?_
      exact wl_tof hj (Fr.le_of (by kernel_rfl) (by kernel_rfl) (by repeat' constructor)) ⟨g20, _, _, _, _, _, _, rfl, f20, by omega, f127.to_RIT, f127_1.to_RKT, f127_2.to_RKT, hw1⟩
  · refine wl_allocg [_, _, _] Try.zeroValue27 (by rfl) ?_
    rintro g20 w20 f20 b20 i20 i20_1
    simp only [drew_size] at b20
    simp only [drew_size] at i20
    have s20 := b20.size
    simp only [drew_size] at s20
    replace hw := hw.trans (b20.mono hw.size)
    replace hw1 := hw1.trans (b20.mono hw1.size)
    replace f8 := f8.u b20
    replace f7 := f7.u b20
    refine wl_call rfl (C_kOwnState _ (hI.u hw) (hX.u hw) (hY.u hw) rfl rfl rfl (by omega) (by omega) (by omega) (by omega)) ?_ (hq := .inr fun _ _ h => grown_of_below h.choose_spec.choose_spec.choose_spec.choose_spec.choose_spec.choose_spec.2.2.2.2 _)
    rintro v121 w121 ⟨A121, ⟨c121, ⟨B121, ⟨d121, ⟨C121, ⟨e121, ⟨rfl, ⟨f121, ⟨f121_1, ⟨f121_2, b121⟩⟩⟩⟩⟩⟩⟩⟩⟩⟩
    have qf121 := f121.cap
    have qf121_1 := f121_1.cap
    have qf121_2 := f121_2.cap
    have s121 := b121.size
    replace hw := hw.trans (b121.mono hw.size)
    replace hw1 := hw1.trans (b121.mono hw1.size)
    replace f7 := f7.u b121
    replace f8 := f8.u b121
    replace f20 := f20.u b121
    refine wl_call rfl (C_opsStepN _ e6 f121.to_RI f121_1.to_RKs f121_2.to_RKs (hK.u hw) (hV.u hw) rfl rfl rfl rfl rfl (by omega) (by omega) (by omega) (by omega) (by omega) (by omega)) ?_
    rintro v127 w127 ⟨A127, ⟨c127, ⟨B127, ⟨d127, ⟨C127, ⟨e127, ⟨rfl, ⟨f127, ⟨f127_1, ⟨f127_2, b127⟩⟩⟩⟩⟩⟩⟩⟩⟩⟩
    have qf127 := f127.cap
    have qf127_1 := f127_1.cap
    have qf127_2 := f127_2.cap
    have s127 := b127.size
    replace hw := hw.trans (b127.mono hw.size)
    replace hw1 := hw1.trans (b127.mono hw1.size)
    replace f20 := f20.u b127
    replace f8 := f8.u b127
    replace f7 := f7.u b127
    replace f121_2 := f121_2.u b127
    replace f121_1 := f121_1.u b127
    replace f121 := f121.u b127
    refine wl_p (fun _ => o_move rfl) ?_
    refine wl_p (fun _ => o_ext20 rfl) ?_
    refine wl_p (fun _ => o_ext21 rfl) ?_
    exact wl_tof hj (Fr.le_of (by kernel_rfl) (by kernel_rfl) (by repeat' constructor)) ⟨g20, _, _, _, _, _, _, rfl, f20, by omega, f127.to_RIT, f127_1.to_RKT, f127_2.to_RKT, hw1⟩
end Go.Proofs.Ytahkeoegbjopfaa
