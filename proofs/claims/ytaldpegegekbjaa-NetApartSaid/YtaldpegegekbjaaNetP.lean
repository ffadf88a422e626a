/-
  The statement NetApart: its walk.
-/
import Derived.Test.YtaldpegegekbjaaNetO
namespace Go.Proofs.Ytaldpegegekbjaa
open Go.RowKit
theorem Try.rowLL : RowT Try.prog 50 25 (.slice none 0 0) 1 24 := ⟨Try.underlying50, by kernel_rfl, rfl, by omega⟩
section
variable {fn : Func} {F : Ending → World → Prop} {N : Nat} {ks : List K} {ops : Array Oper} {tg : Tags} {l : List Oper} {fr : Fr} {w : World} {ty : TypeId} {pos : String} {aft : Array Edge} {gd : Option (Nat × Bool)} {d n B : Nat} {LL : List (Option Addr × Nat × List Hd)}
theorem wl_litLL {ps : Array (Nat × Operand)} {xs : List Operand} {vs : List Value} (hx : fr.evs xs = some vs) (hxs : ps.toList.map Prod.snd = xs) (hps : ps = ((List.range' 0 n).zip xs).toArray) (hv : vs = LL.map fun x => .slice x.1 x.2.2.length x.2.1) (hn : LL.length = n) (hM : ∀ x ∈ LL, MutL w B x.1 x.2.2 ∧ x.2.2.length ≤ maxLen) (hm : Nat.ble (n * 1) 1000000 = true)
    (hk : ∀ A w', MutA w' B A LL → Below w.heap.size w w' → WL Try.prog fn F N ks ops tg.tail l ((d, .slice A n n) :: fr) w')
    (ht : tg.loud = true := by rfl) (hg : onG ops fr gd = true := by rfl) (hd : Nat.blt d N = true := by rfl) : WL Try.prog fn F N ks ops tg (⟨some d, .buildSlice 50 n ps, ty, pos, aft, gd⟩ :: l) fr w := by
  refine wl_litR Try.rowLL Try.sizeOf25 Try.zeroValue25 hxs hps hx (by rw [hv, List.length_map, hn]) (fun v hv' => ?_) hm (fun A w' h1 h2 => hk A w' ⟨?_, RowH.ty h1, fun x hx => ⟨(hM x hx).1.u h2, (hM x hx).2⟩⟩ h2) ht hg hd
  · rw [hv] at hv'
    obtain ⟨z, _, rfl⟩ := List.mem_map.1 hv'
    rfl
  · have e : vs.flatMap (fun v => v.cells.toList) = LL.map fun x => .slice x.1 x.2.2.length x.2.1 := by
      rw [hv]
      clear h1 hk hm hx hv hn hps hxs hM
      induction LL with
      | nil => rfl
      | cons d L ih => rw [List.map_cons, List.flatMap_cons, ih]; rfl
    have h3 := RowH.rd h1
    rw [e] at h3
    rw [hn]; exact h3
end
--@ side (u8_wrap_range _).1
--@ side (u8_wrap_range _).2
set_option maxRecDepth 100000 in
set_option maxHeartbeats 8000000 in
theorem C_NetApart {k u t i : Int} {A B : Option Addr} {L : List En} {raw : By} {c d : Nat} (w : World) (hL : REn w A L) (hR : Rd w B raw) (hc : L.length ≤ c) (hcm : c ≤ maxLen) (hd : raw.length ≤ d) (hdm : d ≤ maxLen) (wf : (Lit.int .i64 u).wf = true) (wt : (Lit.int .i64 t).wf = true) (wi : (Lit.int .i64 i).wf = true) :
    CallsR Try.prog 4 [.agg #[.int .i64 k, .slice A L.length c], .int .i64 u, .agg #[.int .i64 t, .slice B raw.length d], .int .i64 i] w fun v w' => v = .bool true ∧ Below w.heap.size w w' := by
  have mL : L.length ≤ maxLen := by omega
  have mR : raw.length ≤ maxLen := by omega
  obtain ⟨e, he⟩ : ∃ e, netErr k L = e := ⟨_, rfl⟩
  refine callsR Try.func4 rfl rfl (by kernel_rfl) rfl ?_
  have hw := Below.refl w.heap.size w
  refine rk_seq ?_
  refine rk_region ?_
  refine wl_boxg [_, _] rfl (by rfl) ?_
  rintro g4 w4 f4 b4 i4 i4_1
  have s4 := b4.size
  replace hw := hw.trans (b4.mono hw.size)
  refine wl_boxg [_, _] rfl (by rfl) ?_
  rintro g6 w6 f6 b6 i6 i6_1
  have s6 := b6.size
  replace hw := hw.trans (b6.mono hw.size)
  replace f4 := f4.u b6
  refine wl_p (fun _ => o_assign rfl) ?_
  refine wl_nil ?_
  refine rk_seq ?_
  refine rk_seq ?_
  refine rk_region ?_
  refine wl_call rfl (C_livesN _) ?_
  rintro v28 w28 ⟨rfl, b28⟩
  have s28 := b28.size
  replace hw := hw.trans (b28.mono hw.size)
  replace f4 := f4.u b28
  replace f6 := f6.u b28
  refine wl_p (fun _ => o_not rfl) ?_
  refine wl_nil ?_
  refine rk_false rfl ?_
  refine rk_skip ?_
  refine rk_seq ?_
  refine rk_seq ?_
  refine rk_region ?_
  refine wl_r (o_loadag Try.isAgg27 Try.sizeOf27 rfl f4 (by rfl)) ?_
  refine wl_call rfl (C_LightNet _ (hL.u hw) rfl (by omega)) ?_
  rintro v31 w31 ⟨rfl, b31⟩
  have s31 := b31.size
  replace hw := hw.trans (b31.mono hw.size)
  replace f6 := f6.u b31
  replace f4 := f4.u b31
  refine wl_p (fun _ => o_not rfl) ?_
  refine wl_p (fun _ => o_move rfl) ?_
  refine wl_bool 33 rfl (fun h33 => ?_) (fun h33 => ?_) <;> try simp only [decide_eq_true_eq, decide_eq_false_iff_not, Bool.not_eq_true', Bool.not_eq_false', Bool.and_eq_true, Bool.and_eq_false_iff, Bool.or_eq_true, Bool.or_eq_false_iff] at h33
  · refine wl_off ?_
    refine wl_off ?_
    refine wl_off ?_
    refine wl_off ?_
    refine wl_p (fun _ => o_pick_t rfl rfl) ?_
    refine wl_p (fun _ => o_move rfl) ?_
    refine wl_off ?_
    refine wl_off ?_
    refine wl_off ?_
    refine wl_p (fun _ => o_pick_t rfl rfl) ?_
    refine wl_nil ?_
    refine rk_true rfl ?_
    refine rk_seq ?_
    refine rk_region ?_
    refine wl_p (fun _ => o_assign rfl) ?_
    refine wl_nil ?_
    refine ret1 rfl rfl ?_
    exact ⟨rfl, hw⟩
  refine wl_p (fun _ => o_faddr (s := 34) (i := 1) (off := 1) Try.underlying34 rfl Try.sizeOf32 rfl rfl rfl) ?_
  refine wl_r (o_loadbg Try.isAgg32 rfl f6 (by rfl)) ?_
  refine wl_p (fun _ => o_len (t := 32) Try.underlying32 rfl) ?_
  refine wl_p (fun _ => o_gt rfl rfl) ?_
  refine wl_p (fun _ => o_pick_f rfl rfl) ?_
  refine wl_p (fun _ => o_move rfl) ?_
  refine wl_bool 39 rfl (fun h39 => ?_) (fun h39 => ?_) <;> try simp only [decide_eq_true_eq, decide_eq_false_iff_not, Bool.not_eq_true', Bool.not_eq_false', Bool.and_eq_true, Bool.and_eq_false_iff, Bool.or_eq_true, Bool.or_eq_false_iff] at h39
  · refine wl_off ?_
    refine wl_off ?_
    refine wl_off ?_
    refine wl_p (fun _ => o_pick_t rfl rfl) ?_
    refine wl_nil ?_
    refine rk_true rfl ?_
    refine rk_seq ?_
    refine rk_region ?_
    refine wl_p (fun _ => o_assign rfl) ?_
    refine wl_nil ?_
    refine ret1 rfl rfl ?_
    exact ⟨rfl, hw⟩
  refine wl_r (o_loadag Try.isAgg27 Try.sizeOf27 rfl f4 (by rfl)) ?_
  refine wl_call rfl (C_Check _ (hL.u hw) he rfl (by omega)) ?_
  rintro v41 w41 ⟨rfl, b41⟩
  have s41 := b41.size
  replace hw := hw.trans (b41.mono hw.size)
  replace f4 := f4.u b41
  replace f6 := f6.u b41
  refine wl_p (fun _ => o_ne rfl rfl) ?_
  refine wl_p (fun _ => o_pick_f rfl rfl) ?_
  refine wl_nil ?_
  refine rk_if rfl (fun h43 => ?_) (fun h43 => ?_)
  · refine rk_seq ?_
    refine rk_region ?_
    refine wl_p (fun _ => o_assign rfl) ?_
    refine wl_nil ?_
    refine ret1 rfl rfl ?_
    exact ⟨rfl, hw⟩
  have hl1 : L.length ≤ 120 := h33.1
  have hraw : ∀ e ∈ L, e.2.2.length ≤ 20000 := fun e he => of_decide_eq_true (List.all_eq_true.1 h33.2 e he)
  have hok : netOk k L = true := by
    have : e = 0 := by omega
    rw [this] at he
    unfold netErr at he
    cases hn : netOk k L
    · rw [hn] at he; simp at he
    · rfl
  obtain ⟨hk1, hk7, _, hall⟩ := netOk_parts hok
  refine rk_skip ?_
  refine rk_seq ?_
  refine rk_region ?_
  refine wl_r (o_loadag Try.isAgg27 Try.sizeOf27 rfl f4 (by rfl)) ?_
  refine wl_call rfl (C_OwnNet _ (hL.u hw) rfl (by omega) (by omega)) ?_
  rintro v45 w45 ⟨A45, ⟨c45, ⟨rfl, ⟨f45, b45⟩⟩⟩⟩
  have qf45 := f45.cap
  have s45 := b45.size
  replace hw := hw.trans (b45.mono hw.size)
  replace f6 := f6.u b45
  replace f4 := f4.u b45
  refine wl_allocg [_, _] Try.zeroValue27 (by rfl) ?_
  rintro g9 w9 f9 b9 i9 i9_1
  have s9 := b9.size
  replace hw := hw.trans (b9.mono hw.size)
  replace f4 := f4.u b9
  replace f6 := f6.u b9
  replace f45 := f45.u b9
  refine wl_storega Try.sizeOf27 rfl rfl (by rfl) (oneCell_of (by rfl)) f9 (by rfl) ?_
  rintro w_1 f g e_1
  have s := g.size
  replace hw := hw.trans (below_of_grownBy g.g hw.size (by omega))
  replace f45 := f45.y g (by decide)
  replace f6 := f6.k g.g (ap_some (by omega))
  replace f4 := f4.k g.g (ap_some (by omega))
  clear f9
  refine wl_nil ?_
  have hw1 := Below.refl w_1.heap.size w_1
  have hwas : ∀ W, Below w_1.heap.size w_1 W → REn W A45 L := fun W hb => f45.to_REn.u hb
  have h45 : L.length ≤ c45 := f45.cap
  have hs1 := hw.size
  obtain ⟨s1, hs1'⟩ : ∃ s : Int, putErr k L u t raw = s := ⟨_, rfl⟩
  obtain ⟨s2, hs2'⟩ : ∃ s : Int, netAt k L i = s := ⟨_, rfl⟩
  obtain ⟨s3, hs3'⟩ : ∃ s : Int, (if netAt k L i ≠ 0 then netAt k L i else if 512 ≤ L.length then 7 else 0) = s := ⟨_, rfl⟩
  have hg4 := f4.lt
  have hg9 := f.lt
  refine rk_seq ?_
  refine rk_region ?_
  refine wl_r (o_loadag Try.isAgg27 Try.sizeOf27 rfl f4 (by rfl)) ?_
  refine wl_p (fun _ => o_move rfl) ?_
  refine wl_r (o_loadag Try.isAgg34 Try.sizeOf34 rfl f6 (by rfl)) ?_
  refine wl_call rfl (C_Put _ (hL.u hw) (hR.u hw) hs1' rfl (by omega) rfl (by omega) wf wt) ?_
  rintro v50 w50 ⟨k50, ⟨A50, ⟨c50, ⟨Q50, ⟨x50, ⟨rfl, ⟨f50, ⟨i50, ⟨i50_1, b50⟩⟩⟩⟩⟩⟩⟩⟩⟩
  have qf50 := f50.cap
  have s50 := b50.size
  replace hw := hw.trans (b50.mono hw.size)
  replace hw1 := hw1.trans (b50.mono hw1.size)
  replace f4 := f4.u b50
  replace f6 := f6.u b50
  replace f45 := f45.u b50
  replace f := f.u b50
  refine wl_p (fun _ => o_move rfl) ?_
  refine wl_p (fun _ => o_ext30 rfl) ?_
  refine wl_p (fun _ => o_ext31 rfl) ?_
  refine wl_p (fun _ => o_ext32 rfl) ?_
  refine wl_allocg [_, _] Try.zeroValue27 (by rfl) ?_
  rintro g10 w10 f10 b10 i10 i10_1
  have s10 := b10.size
  replace hw := hw.trans (b10.mono hw.size)
  replace hw1 := hw1.trans (b10.mono hw1.size)
  replace f := f.u b10
  replace f45 := f45.u b10
  replace f6 := f6.u b10
  replace f4 := f4.u b10
  replace f50 := f50.u b10
  refine wl_storega Try.sizeOf27 rfl rfl (by rfl) (oneCell_of (by rfl)) f10 (by rfl) ?_
  rintro w_2 f_1 g_1 e_2
  have s_1 := g_1.size
  replace hw := hw.trans (below_of_grownBy g_1.g hw.size (by omega))
  replace hw1 := hw1.trans (below_of_grownBy g_1.g hw1.size (by omega))
  replace f50 := f50.y g_1 (by decide)
  replace f4 := f4.k g_1.g (ap_some (by omega))
  replace f6 := f6.k g_1.g (ap_some (by omega))
  replace f45 := f45.y g_1 (by decide)
  replace f := f.k g_1.g (ap_some (by omega))
  clear f10
  refine wl_p (fun _ => o_assign rfl) ?_
  refine wl_p (fun _ => o_assign rfl) ?_
  refine wl_nil ?_
  refine rk_seq ?_
  refine rk_region ?_
  refine wl_r (o_loadag Try.isAgg27 Try.sizeOf27 rfl f4 (by rfl)) ?_
  refine wl_p (fun _ => o_move rfl) ?_
  refine wl_call rfl (C_Take _ (hL.u hw) hs2' rfl (by omega) wi) ?_
  rintro v57 w57 ⟨x57, ⟨A157, ⟨c157, ⟨k57, ⟨A57, ⟨c57, ⟨Q57, ⟨rfl, ⟨f57, ⟨f57_1, ⟨i57, ⟨i57_1, b57⟩⟩⟩⟩⟩⟩⟩⟩⟩⟩⟩⟩
  have qf57 := f57.cap
  have qf57_1 := f57_1.cap
  have s57 := b57.size
  replace hw := hw.trans (b57.mono hw.size)
  replace hw1 := hw1.trans (b57.mono hw1.size)
  replace f := f.u b57
  replace f45 := f45.u b57
  replace f6 := f6.u b57
  replace f4 := f4.u b57
  replace f50 := f50.u b57
  replace f_1 := f_1.u b57
  refine wl_p (fun _ => o_move rfl) ?_
  refine wl_p (fun _ => o_ext30 rfl) ?_
  refine wl_p (fun _ => o_ext31 rfl) ?_
  refine wl_p (fun _ => o_ext32 rfl) ?_
  refine wl_allocg [_, _, _] Try.zeroValue38 (by rfl) ?_
  rintro g13 w13 f13 b13 i13 i13_1
  have s13 := b13.size
  replace hw := hw.trans (b13.mono hw.size)
  replace hw1 := hw1.trans (b13.mono hw1.size)
  replace f_1 := f_1.u b13
  replace f50 := f50.u b13
  replace f4 := f4.u b13
  replace f6 := f6.u b13
  replace f45 := f45.u b13
  replace f := f.u b13
  replace f57_1 := f57_1.u b13
  replace f57 := f57.u b13
  refine wl_allocg [_, _] Try.zeroValue27 (by rfl) ?_
  rintro g14 w14 f14 b14 i14 i14_1
  have s14 := b14.size
  replace hw := hw.trans (b14.mono hw.size)
  replace hw1 := hw1.trans (b14.mono hw1.size)
  replace f57 := f57.u b14
  replace f57_1 := f57_1.u b14
  replace f := f.u b14
  replace f45 := f45.u b14
  replace f6 := f6.u b14
  replace f4 := f4.u b14
  replace f50 := f50.u b14
  replace f_1 := f_1.u b14
  replace f13 := f13.u b14
  refine wl_storega Try.sizeOf38 rfl rfl (by rfl) (oneCell_of (by rfl)) f13 (by rfl) ?_
  rintro w_3 f_2 g_2 e_3
  have s_2 := g_2.size
  replace hw := hw.trans (below_of_grownBy g_2.g hw.size (by omega))
  replace hw1 := hw1.trans (below_of_grownBy g_2.g hw1.size (by omega))
  replace f_1 := f_1.k g_2.g (ap_some (by omega))
  replace f50 := f50.q g_2 (ap_some (by omega)) (by decide)
  replace f4 := f4.k g_2.g (ap_some (by omega))
  replace f6 := f6.k g_2.g (ap_some (by omega))
  replace f45 := f45.q g_2 (ap_some (by omega)) (by decide)
  replace f := f.k g_2.g (ap_some (by omega))
  replace f57_1 := f57_1.k g_2.g (ap_some (by omega))
  replace f57 := f57.q g_2 (ap_some (by omega)) (by decide)
  replace f14 := f14.k g_2.g (ap_some (by omega))
  clear f13
  refine wl_storega Try.sizeOf27 rfl rfl (by rfl) (oneCell_of (by rfl)) f14 (by rfl) ?_
  rintro w_4 f_3 g_3 e_4
  have s_3 := g_3.size
  replace hw := hw.trans (below_of_grownBy g_3.g hw.size (by omega))
  replace hw1 := hw1.trans (below_of_grownBy g_3.g hw1.size (by omega))
  replace f57 := f57.y g_3 (by decide)
  replace f57_1 := f57_1.k g_3.g (ap_some (by omega))
  replace f := f.k g_3.g (ap_some (by omega))
  replace f45 := f45.y g_3 (by decide)
  replace f6 := f6.k g_3.g (ap_some (by omega))
  replace f4 := f4.k g_3.g (ap_some (by omega))
  replace f50 := f50.y g_3 (by decide)
  replace f_1 := f_1.k g_3.g (ap_some (by omega))
  replace f_2 := f_2.k g_3.g (ap_some (by omega))
  clear f14
  refine wl_p (fun _ => o_assign rfl) ?_
  refine wl_nil ?_
  refine rk_seq ?_
  refine rk_region ?_
  refine wl_r (o_loadag Try.isAgg27 Try.sizeOf27 rfl f4 (by rfl)) ?_
  refine wl_p (fun _ => o_move rfl) ?_
  refine wl_call rfl (C_Twice _ (hL.u hw) hs3' rfl (by omega) wi) ?_
  rintro v64 w64 ⟨k64, ⟨A64, ⟨c64, ⟨Q64, ⟨rfl, ⟨f64, ⟨i64, ⟨i64_1, b64⟩⟩⟩⟩⟩⟩⟩⟩
  have qf64 := f64.cap
  have s64 := b64.size
  replace hw := hw.trans (b64.mono hw.size)
  replace hw1 := hw1.trans (b64.mono hw1.size)
  replace f_2 := f_2.u b64
  replace f_1 := f_1.u b64
  replace f50 := f50.u b64
  replace f4 := f4.u b64
  replace f6 := f6.u b64
  replace f45 := f45.u b64
  replace f := f.u b64
  replace f57_1 := f57_1.u b64
  replace f57 := f57.u b64
  replace f_3 := f_3.u b64
  refine wl_p (fun _ => o_move rfl) ?_
  refine wl_p (fun _ => o_ext20 rfl) ?_
  refine wl_p (fun _ => o_ext21 rfl) ?_
  refine wl_allocg [_, _] Try.zeroValue27 (by rfl) ?_
  rintro g16 w16 f16 b16 i16 i16_1
  have s16 := b16.size
  replace hw := hw.trans (b16.mono hw.size)
  replace hw1 := hw1.trans (b16.mono hw1.size)
  replace f_3 := f_3.u b16
  replace f57 := f57.u b16
  replace f57_1 := f57_1.u b16
  replace f := f.u b16
  replace f45 := f45.u b16
  replace f6 := f6.u b16
  replace f4 := f4.u b16
  replace f50 := f50.u b16
  replace f_1 := f_1.u b16
  replace f_2 := f_2.u b16
  replace f64 := f64.u b16
  refine wl_storega Try.sizeOf27 rfl rfl (by rfl) (oneCell_of (by rfl)) f16 (by rfl) ?_
  rintro w_5 f_4 g_4 e_5
  have s_4 := g_4.size
  replace hw := hw.trans (below_of_grownBy g_4.g hw.size (by omega))
  replace hw1 := hw1.trans (below_of_grownBy g_4.g hw1.size (by omega))
  replace f64 := f64.y g_4 (by decide)
  replace f_2 := f_2.k g_4.g (ap_some (by omega))
  replace f_1 := f_1.k g_4.g (ap_some (by omega))
  replace f50 := f50.y g_4 (by decide)
  replace f4 := f4.k g_4.g (ap_some (by omega))
  replace f6 := f6.k g_4.g (ap_some (by omega))
  replace f45 := f45.y g_4 (by decide)
  replace f := f.k g_4.g (ap_some (by omega))
  replace f57_1 := f57_1.k g_4.g (ap_some (by omega))
  replace f57 := f57.y g_4 (by decide)
  replace f_3 := f_3.k g_4.g (ap_some (by omega))
  clear f16
  refine wl_p (fun _ => o_assign rfl) ?_
  refine wl_nil ?_
  refine rk_seq ?_
  refine rk_region ?_
  refine wl_r (o_loadag Try.isAgg27 Try.sizeOf27 rfl f4 (by rfl)) ?_
  refine wl_p (fun _ => o_move rfl) ?_
  refine wl_call rfl (C_Drop _ (hL.u hw) hs2' rfl (by omega) wi) ?_
  rintro v70 w70 ⟨k70, ⟨A70, ⟨c70, ⟨Q70, ⟨rfl, ⟨f70, ⟨i70, ⟨i70_1, b70⟩⟩⟩⟩⟩⟩⟩⟩
  have qf70 := f70.cap
  have s70 := b70.size
  replace hw := hw.trans (b70.mono hw.size)
  replace hw1 := hw1.trans (b70.mono hw1.size)
  replace f_3 := f_3.u b70
  replace f57 := f57.u b70
  replace f57_1 := f57_1.u b70
  replace f := f.u b70
  replace f45 := f45.u b70
  replace f6 := f6.u b70
  replace f4 := f4.u b70
  replace f50 := f50.u b70
  replace f_1 := f_1.u b70
  replace f_2 := f_2.u b70
  replace f64 := f64.u b70
  replace f_4 := f_4.u b70
  refine wl_p (fun _ => o_move rfl) ?_
  refine wl_p (fun _ => o_ext20 rfl) ?_
  refine wl_p (fun _ => o_ext21 rfl) ?_
  refine wl_allocg [_, _] Try.zeroValue27 (by rfl) ?_
  rintro g18 w18 f18 b18 i18 i18_1
  have s18 := b18.size
  replace hw := hw.trans (b18.mono hw.size)
  replace hw1 := hw1.trans (b18.mono hw1.size)
  replace f_4 := f_4.u b18
  replace f64 := f64.u b18
  replace f_2 := f_2.u b18
  replace f_1 := f_1.u b18
  replace f50 := f50.u b18
  replace f4 := f4.u b18
  replace f6 := f6.u b18
  replace f45 := f45.u b18
  replace f := f.u b18
  replace f57_1 := f57_1.u b18
  replace f57 := f57.u b18
  replace f_3 := f_3.u b18
  replace f70 := f70.u b18
  refine wl_storega Try.sizeOf27 rfl rfl (by rfl) (oneCell_of (by rfl)) f18 (by rfl) ?_
  rintro w_6 f_5 g_5 e_6
  have s_5 := g_5.size
  replace hw := hw.trans (below_of_grownBy g_5.g hw.size (by omega))
  replace hw1 := hw1.trans (below_of_grownBy g_5.g hw1.size (by omega))
  replace f70 := f70.y g_5 (by decide)
  replace f_3 := f_3.k g_5.g (ap_some (by omega))
  replace f57 := f57.y g_5 (by decide)
  replace f57_1 := f57_1.k g_5.g (ap_some (by omega))
  replace f := f.k g_5.g (ap_some (by omega))
  replace f45 := f45.y g_5 (by decide)
  replace f6 := f6.k g_5.g (ap_some (by omega))
  replace f4 := f4.k g_5.g (ap_some (by omega))
  replace f50 := f50.y g_5 (by decide)
  replace f_1 := f_1.k g_5.g (ap_some (by omega))
  replace f_2 := f_2.k g_5.g (ap_some (by omega))
  replace f64 := f64.y g_5 (by decide)
  replace f_4 := f_4.k g_5.g (ap_some (by omega))
  clear f18
  refine wl_p (fun _ => o_assign rfl) ?_
  refine wl_nil ?_
  refine rk_seq ?_
  refine rk_seq ?_
  refine rk_region ?_
  refine wl_p (fun _ => o_faddr (s := 27) (i := 1) (off := 1) Try.underlying27 rfl Try.sizeOf25 rfl rfl rfl) ?_
  refine wl_r (o_loadbg Try.isAgg25 rfl f_1 (by rfl)) ?_
  refine wl_p (fun _ => o_faddr (s := 27) (i := 1) (off := 1) Try.underlying27 rfl Try.sizeOf25 rfl rfl rfl) ?_
  refine wl_r (o_loadbg Try.isAgg25 rfl f_3 (by rfl)) ?_
  refine wl_p (fun _ => o_faddr (s := 27) (i := 1) (off := 1) Try.underlying27 rfl Try.sizeOf25 rfl rfl rfl) ?_
  refine wl_r (o_loadbg Try.isAgg25 rfl f_4 (by rfl)) ?_
  refine wl_p (fun _ => o_faddr (s := 27) (i := 1) (off := 1) Try.underlying27 rfl Try.sizeOf25 rfl rfl rfl) ?_
  refine wl_r (o_loadbg Try.isAgg25 rfl f_5 (by rfl)) ?_
  refine wl_r (o_loadag Try.isAgg38 Try.sizeOf38 rfl f_2 (by rfl)) ?_
  have wx : (Lit.int .i64 x57.1).wf = true ∧ (Lit.int .i64 x57.2.1).wf = true := by
    have h1 := (show s2 = 0 → k57 = k ∧ Q57 = cutI L i.toNat ∧ ∃ h : i.toNat < L.length, x57 = L[i.toNat] by assumption)
    have h2 := (show s2 ≠ 0 → k57 = 0 ∧ Q57 = [] ∧ x57 = (0, 0, []) by assumption)
    by_cases h : s2 = 0
    · obtain ⟨_, _, hi, e⟩ := h1 h
      obtain ⟨_, _, _, _, _, _, w1, w2⟩ := hL.elem hi
      rw [e]; exact ⟨w1, w2⟩
    · obtain ⟨_, _, e⟩ := h2 h
      rw [e]; exact ⟨by decide, by decide⟩
  refine wl_litE1 (w0 := w_1) rfl rfl f57_1 hw1 (by omega) rfl wx.1 wx.2 rfl ?_
  intro A82 w82 f82 b82
  replace hw1 := hw1.trans (b82.mono hw1.size)
  replace hw := hw.trans (b82.mono hw.size)
  replace f4 := f4.u b82
  replace f := f.u b82
  replace f50 := f50.u b82
  replace f57 := f57.u b82
  replace f64 := f64.u b82
  replace f70 := f70.u b82
  obtain ⟨H50, l50, mm50, nn50⟩ := f50.mutL (B := w_1.heap.size) (by omega)
  obtain ⟨H57, l57, mm57, nn57⟩ := f57.mutL (B := w_1.heap.size) (by omega)
  obtain ⟨H64, l64, mm64, nn64⟩ := f64.mutL (B := w_1.heap.size) (by omega)
  obtain ⟨H70, l70, mm70, nn70⟩ := f70.mutL (B := w_1.heap.size) (by omega)
  obtain ⟨H82, l82, mm82, nn82⟩ := f82.mutL (B := w_1.heap.size) (by omega)
  obtain ⟨LL, hLL⟩ : ∃ LL : List (Option Addr × Nat × List Hd), LL = [(A50, c50, H50), (A57, c57, H57), (A64, c64, H64), (A70, c70, H70), (A82, 1, H82)] := ⟨_, rfl⟩
  refine wl_litLL (LL := LL) (B := w_1.heap.size) rfl rfl rfl (by rw [hLL]; simp [l50, l57, l64, l70, l82]) (by rw [hLL]; rfl) ?_ rfl ?_
  · rw [hLL]
    intro x hx
    simp only [List.mem_cons, List.not_mem_nil, or_false] at hx
    rcases hx with rfl | rfl | rfl | rfl | rfl
    · exact ⟨mm50, nn50⟩
    · exact ⟨mm57, nn57⟩
    · exact ⟨mm64, nn64⟩
    · exact ⟨mm70, nn70⟩
    · exact ⟨mm82, nn82⟩
  intro A83 w83 hM b83
  replace hw1 := hw1.trans (b83.mono hw1.size)
  replace hw := hw.trans (b83.mono hw.size)
  replace f4 := f4.u b83
  replace f := f.u b83
  clear f50 f57 f64 f70 f82 f57_1 f6 f_1 f_2 f_3 f_4 f_5 f45 mm50 mm57 mm64 mm70 mm82
  have hL5 : LL.length = 5 := by rw [hLL]; rfl
  refine wl_p (fun _ => o_len (t := 50) Try.underlying50 rfl) ?_
  refine wl_p (fun _ => o_move rfl) ?_
  refine wl_nil ?_
  refine rk_block ?_
  refine rk_joinf (fun fb fr W => fr = [] ++ fb.drop 1 ∧ Blk W g4 27 [.int .i64 k, .slice A L.length c] ∧ Blk W g9 27 [.int .i64 k, .slice A45 L.length c45] ∧ Below w_1.heap.size w_1 W ∧ Below w.heap.size w W) ?_ (fun ks hj => ?_)
  rotate_left
  · refine rk_loopf (fun fb m fr W => ∃ (a : Nat) (v : Int), fr = [(85, .int .i64 v)] ++ fb.drop 1 ∧ v = a ∧ a ≤ 5 ∧ m = 5 - a ∧ MutA W w_1.heap.size A83 LL ∧ Blk W g4 27 [.int .i64 k, .slice A L.length c] ∧ Blk W g9 27 [.int .i64 k, .slice A45 L.length c45] ∧ w_1.heap.size ≤ W.heap.size ∧ Below w_1.heap.size w_1 W ∧ Below w.heap.size w W) (n := 5) (Fr.le_of (by kernel_rfl) (by kernel_rfl) (by repeat' constructor)) ⟨0, _, rfl, rfl, by omega, rfl, hM, f4, f, hw1.size, hw1, hw⟩ ?_
    clear hw hw1 hM f4 f b82 b83
    rintro m fr W ⟨a, v, rfl, rfl, ha, rfl, hM, f4, f9, hsW, hw1, hw⟩
    have shw := hw.size
    first | refine rk_frame (by simp only [List.cons_append, List.nil_append, List.drop_succ_cons, List.drop_zero]; rfl) ?_ | refine wl_frame (by simp only [List.cons_append, List.nil_append, List.drop_succ_cons, List.drop_zero]; rfl) ?_
    refine rk_seq ?_
    refine rk_region ?_
    refine wl_p (fun _ => o_lt rfl rfl) ?_
    refine wl_nil ?_
    refine rk_seq ?_
    refine rk_if rfl (fun h86 => ?_) (fun h86 => ?_)
    · have haL : a < LL.length := by omega
      refine rk_skip ?_
      refine rk_seq ?_
      refine rk_block ?_
      refine rk_seq ?_
      refine rk_region ?_
      refine wl_p (fun _ => (o_iaddrA1 (a) Try.underlying50 Try.sizeOf25 rfl rfl rfl (hM.some_ (by omega)) (by omega))) ?_
      refine wl_r (o_ldMutA rfl hM (by omega)) ?_
      refine wl_p (fun _ => o_assign rfl) ?_
      refine wl_nil ?_
      refine rk_seq ?_
      refine rk_region ?_
      refine wl_p (fun _ => o_assign rfl) ?_
      refine wl_nil ?_
      refine rk_block ?_
      have hlm := (hM.2.2 _ (List.getElem_mem haL)).2
      simp only [maxLen] at hlm
      refine rk_joinf (fun fb fr W => fr = [] ++ fb.drop 1 ∧ MutA W w_1.heap.size A83 LL ∧ Blk W g4 27 [.int .i64 k, .slice A L.length c] ∧ Blk W g9 27 [.int .i64 k, .slice A45 L.length c45] ∧ w_1.heap.size ≤ W.heap.size ∧ Below w_1.heap.size w_1 W ∧ Below w.heap.size w W) ?_ (fun ks hj2 => ?_)
      rotate_left
      · refine rk_loopf (fun fb m fr W => ∃ (b : Nat) (v : Int), fr = [(22, .int .i64 v)] ++ fb.drop 1 ∧ v = b ∧ b ≤ LL[a].2.2.length ∧ m = LL[a].2.2.length - b ∧ MutA W w_1.heap.size A83 LL ∧ Blk W g4 27 [.int .i64 k, .slice A L.length c] ∧ Blk W g9 27 [.int .i64 k, .slice A45 L.length c45] ∧ w_1.heap.size ≤ W.heap.size ∧ Below w_1.heap.size w_1 W ∧ Below w.heap.size w W) (n := LL[a].2.2.length) (Fr.le_of (by kernel_rfl) (by kernel_rfl) (by repeat' constructor)) ⟨0, _, rfl, rfl, by omega, rfl, hM, f4, f9, hsW, hw1, hw⟩ ?_
        clear hw hw1 hM f4 f9 hsW shw
        rintro m fr W2 ⟨b, v, rfl, rfl, hb, rfl, hM, f4, f9, hsW, hw1, hw⟩
        have shw := hw.size
        first | refine rk_frame (by simp only [List.cons_append, List.nil_append, List.drop_succ_cons, List.drop_zero]; rfl) ?_ | refine wl_frame (by simp only [List.cons_append, List.nil_append, List.drop_succ_cons, List.drop_zero]; rfl) ?_
        refine rk_seq ?_
        refine rk_seq ?_
        refine rk_region ?_
        refine wl_p (fun _ => o_move rfl) ?_
        refine wl_p (fun _ => o_move rfl) ?_
        refine wl_p (fun _ => o_len (t := 25) Try.underlying25 rfl) ?_
        refine wl_p (fun _ => o_lt rfl rfl) ?_
        refine wl_nil ?_
        refine rk_if rfl (fun h92 => ?_) (fun h92 => ?_)
        · have hbL : b < LL[a].2.2.length := by omega
          refine rk_skip ?_
          refine rk_seq ?_
          refine rk_block ?_
          refine rk_seq ?_
          refine rk_region ?_
          refine wl_p (fun _ => o_assign rfl) ?_
          refine wl_nil ?_
          refine rk_block ?_
          refine rk_joinf (fun fb fr W => fr = [] ++ fb.drop 1 ∧ MutA W w_1.heap.size A83 LL ∧ Blk W g4 27 [.int .i64 k, .slice A L.length c] ∧ Blk W g9 27 [.int .i64 k, .slice A45 L.length c45] ∧ w_1.heap.size ≤ W.heap.size ∧ Below w_1.heap.size w_1 W ∧ Below w.heap.size w W) ?_ (fun ks hj3 => ?_)
          rotate_left
          · refine rk_loopf (fun fb m fr W => ∃ (j : Nat) (v : Int), fr = [(23, .int .i64 v)] ++ fb.drop 1 ∧ v = j ∧ j ≤ LL[a].2.2[b].2.1 ∧ m = LL[a].2.2[b].2.1 - j ∧ MutA W w_1.heap.size A83 LL ∧ Blk W g4 27 [.int .i64 k, .slice A L.length c] ∧ Blk W g9 27 [.int .i64 k, .slice A45 L.length c45] ∧ w_1.heap.size ≤ W.heap.size ∧ Below w_1.heap.size w_1 W ∧ Below w.heap.size w W) (n := LL[a].2.2[b].2.1) (Fr.le_of (by kernel_rfl) (by kernel_rfl) (by repeat' constructor)) ⟨0, _, rfl, rfl, by omega, rfl, hM, f4, f9, hsW, hw1, hw⟩ ?_
            clear hw hw1 hM f4 f9 hsW shw
            rintro m fr W3 ⟨j, v, rfl, rfl, hjm, rfl, hM, f4, f9, hsW, hw1, hw⟩
            have shw := hw.size
            have hml := (hM.2.2 _ (List.getElem_mem haL)).1
            obtain ⟨hby, hb1, hb2⟩ := hml.by_ hbL
            simp only [maxLen] at hb2
            have keep : ∀ W g, ByteSt W3 W g → MutA W w_1.heap.size A83 LL := fun W g h => hM.st h
            first | refine rk_frame (by simp only [List.cons_append, List.nil_append, List.drop_succ_cons, List.drop_zero]; rfl) ?_ | refine wl_frame (by simp only [List.cons_append, List.nil_append, List.drop_succ_cons, List.drop_zero]; rfl) ?_
            refine rk_seq ?_
            refine rk_seq ?_
            refine rk_region ?_
            refine wl_p (fun _ => o_move rfl) ?_
            refine wl_p (fun _ => o_move rfl) ?_
            refine wl_p (fun _ => o_move rfl) ?_
            refine wl_p (fun _ => (o_iaddrA (b) Try.underlying25 Try.sizeOf38 rfl rfl rfl (hml.some_ (by omega)) (by omega))) ?_
            refine wl_p (fun _ => (o_faddrR rfl Try.underlying38 (by rfl) Try.sizeOf32 (by rfl) (by rfl))) ?_
            refine wl_r (o_ldMutL rfl hml (by omega)) ?_
            refine wl_p (fun _ => o_len (t := 32) Try.underlying32 rfl) ?_
            refine wl_p (fun _ => o_lt rfl rfl) ?_
            refine wl_nil ?_
            refine rk_if rfl (fun h102 => ?_) (fun h102 => ?_)
            · refine rk_skip ?_
              refine rk_seq ?_
              refine rk_block ?_
              refine rk_region ?_
              refine wl_p (fun _ => o_move rfl) ?_
              refine wl_p (fun _ => o_move rfl) ?_
              refine wl_p (fun _ => (o_iaddrA (b) Try.underlying25 Try.sizeOf38 rfl rfl rfl (hml.some_ (by omega)) (by omega))) ?_
              refine wl_p (fun _ => (o_faddrR rfl Try.underlying38 (by rfl) Try.sizeOf32 (by rfl) (by rfl))) ?_
              refine wl_r (o_ldMutL rfl hml (by omega)) ?_
              refine wl_p (fun _ => o_move rfl) ?_
              refine wl_p (fun _ => (o_iaddrA1 (j) Try.underlying32 Try.sizeOf5 rfl rfl rfl (hby.some_ (by omega)) (by omega))) ?_
              refine wl_ldByM rfl hby (by omega) ?_
              rintro u112
              refine wl_p (fun _ => o_addw rfl rfl) ?_
              refine wl_p (fun _ => (o_iaddrA1 (j) Try.underlying32 Try.sizeOf5 rfl rfl rfl (hby.some_ (by omega)) (by omega))) ?_
              refine wl_stByM rfl hby (by omega) rfl (u8_wrap_range _).1 (u8_wrap_range _).2 ?_
              rintro w_7 g_6 i_1 g_7 i_2 e_7
              have s_6 := g_7.size
              replace hw1 := hw1.trans (below_of_grownBy g_7.g hw1.size (by omega))
              replace hw := hw.trans (below_of_grownBy g_7.g hw.size (by omega))
              replace f9 := f9.k g_7.g (ap_some (by omega))
              replace f4 := f4.k g_7.g (ap_some (by omega))
              clear hby
              clear hml
              clear hM
              refine wl_nil ?_
              refine rk_blk ?_
              refine rk_region ?_
              refine wl_p (fun _ => o_move rfl) ?_
              refine wl_p (fun _ => o_add rfl rfl (by omega) (by omega)) ?_
              refine wl_p (fun _ => o_assign rfl) ?_
              refine wl_nil ?_
              exact rk_againf (Fr.le_of (by kernel_rfl) (by kernel_rfl) (by repeat' constructor)) ⟨j + 1, _, rfl, by omega, by omega, rfl, keep w_7 _ (by assumption), f4, f9, by omega, hw1, hw⟩ (by omega)
            · refine rk_exit rfl ?_
              obtain rfl : j = LL[a].2.2[b].2.1 := by omega
              exact rk_tof hj3 (Fr.le_of (by kernel_rfl) (by kernel_rfl) (by repeat' constructor)) ⟨rfl, hM, f4, f9, hsW, hw1, hw⟩
          clear hw hw1 hM f4 f9 hsW shw
          rintro fr W3 ⟨rfl, hM, f4, f9, hsW, hw1, hw⟩
          first | refine rk_frame (by simp only [List.cons_append, List.nil_append, List.drop_succ_cons, List.drop_zero]; rfl) ?_ | refine wl_frame (by simp only [List.cons_append, List.nil_append, List.drop_succ_cons, List.drop_zero]; rfl) ?_
          refine rk_blk ?_
          refine rk_region ?_
          refine wl_p (fun _ => o_move rfl) ?_
          refine wl_p (fun _ => o_add rfl rfl (by omega) (by omega)) ?_
          refine wl_p (fun _ => o_assign rfl) ?_
          refine wl_nil ?_
          exact rk_againf (Fr.le_of (by kernel_rfl) (by kernel_rfl) (by repeat' constructor)) ⟨b + 1, _, rfl, by omega, by omega, rfl, hM, f4, f9, hsW, hw1, hw⟩ (by omega)
        · refine rk_exit rfl ?_
          obtain rfl : b = LL[a].2.2.length := by omega
          exact rk_tof hj2 (Fr.le_of (by kernel_rfl) (by kernel_rfl) (by repeat' constructor)) ⟨rfl, hM, f4, f9, hsW, hw1, hw⟩
      clear hw hw1 hM f4 f9 hsW shw
      rintro fr W2 ⟨rfl, hM, f4, f9, hsW, hw1, hw⟩
      first | refine rk_frame (by simp only [List.cons_append, List.nil_append, List.drop_succ_cons, List.drop_zero]; rfl) ?_ | refine wl_frame (by simp only [List.cons_append, List.nil_append, List.drop_succ_cons, List.drop_zero]; rfl) ?_
      refine rk_blk ?_
      refine rk_region ?_
      refine wl_p (fun _ => o_add rfl rfl (by omega) (by omega)) ?_
      refine wl_p (fun _ => o_move rfl) ?_
      refine wl_nil ?_
      exact rk_againf (Fr.le_of (by kernel_rfl) (by kernel_rfl) (by repeat' constructor)) ⟨a + 1, _, rfl, by omega, by omega, rfl, hM, f4, f9, hsW, hw1, hw⟩ (by omega)
    · refine rk_exit rfl ?_
      obtain rfl : a = 5 := by omega
      exact rk_tof hj (Fr.le_of (by kernel_rfl) (by kernel_rfl) (by repeat' constructor)) ⟨rfl, f4, f9, hw1, hw⟩
  clear hw hw1 hM f4 f b82 b83
  rintro fr W ⟨rfl, f4, f9, hw1, hw⟩
  have shw := hw.size
  have hws := hwas W hw1
  first | refine rk_frame (by simp only [List.cons_append, List.nil_append, List.drop_succ_cons, List.drop_zero]; rfl) ?_ | refine wl_frame (by simp only [List.cons_append, List.nil_append, List.drop_succ_cons, List.drop_zero]; rfl) ?_
  refine rk_seq ?_
  refine rk_region ?_
  refine wl_p (fun _ => o_assign rfl) ?_
  refine wl_nil ?_
  refine rk_seq ?_
  refine rk_seq ?_
  refine rk_region ?_
  refine wl_p (fun _ => o_assign rfl) ?_
  refine wl_nil ?_
  refine rk_block ?_
  have hfrom : ∀ e ∈ L, 0 ≤ e.2.1 ∧ e.2.1 < k := fun e he => by
    have := (okEnv_iff.1 (hall e he).1).2.1
    exact of_decide_eq_true this
  refine rk_joinf (fun fb fr W => fr = [(24, .int .i64 (L.length : Int))] ++ fb.drop 2 ∧ Blk W g4 27 [.int .i64 k, .slice A L.length c] ∧ Blk W g9 27 [.int .i64 k, .slice A45 L.length c45] ∧ Below w_1.heap.size w_1 W ∧ Below w.heap.size w W) ?_ (fun ks hj => ?_)
  rotate_left
  · refine rk_loopf (fun fb m fr W => ∃ (a : Nat) (v sv : Int), fr = [(25, .int .i64 v), (24, .int .i64 sv)] ++ fb.drop 2 ∧ v = a ∧ sv = (upto L a : Int) ∧ (a : Int) ≤ k ∧ m = (k - a).toNat ∧ Blk W g4 27 [.int .i64 k, .slice A L.length c] ∧ Blk W g9 27 [.int .i64 k, .slice A45 L.length c45] ∧ w_1.heap.size ≤ W.heap.size ∧ Below w_1.heap.size w_1 W ∧ Below w.heap.size w W) (n := k.toNat) (Fr.le_of (by kernel_rfl) (by kernel_rfl) (by repeat' constructor)) ⟨0, _, _, rfl, rfl, by rw [show ((0 : Nat) : Int) = 0 from rfl, upto_zero]; rfl, by omega, by simp, f4, f9, hw1.size, hw1, hw⟩ ?_
    clear hw hw1 f4 f9 hws shw
    rintro m fr W ⟨a, v, sv, rfl, rfl, rfl, ha, rfl, f4, f9, hsW, hw1, hw⟩
    have shw := hw.size
    have hg4 := f4.lt
    have hg9 := f9.lt
    have hup := upto_succ L (k := (a : Int)) (by omega)
    have hul : upto L (a : Int) ≤ L.length := List.countP_le_length
    obtain ⟨Z, hZ⟩ : ∃ Z, placesN L (a : Int) = Z := ⟨_, rfl⟩
    have hZl : Z.length ≤ L.length := by rw [← hZ]; exact placesN_len L _
    rw [hZ] at hup
    first | refine rk_frame (by simp only [List.cons_append, List.nil_append, List.drop_succ_cons, List.drop_zero]; rfl) ?_ | refine wl_frame (by simp only [List.cons_append, List.nil_append, List.drop_succ_cons, List.drop_zero]; rfl) ?_
    refine rk_seq ?_
    refine rk_seq ?_
    refine rk_region ?_
    refine wl_p (fun _ => o_move rfl) ?_
    refine wl_p (fun _ => o_faddr (s := 27) (i := 0) (off := 0) Try.underlying27 rfl Try.sizeOf3 rfl rfl rfl) ?_
    refine wl_r (o_loadbg Try.isAgg3 rfl f4 (by rfl)) ?_
    refine wl_p (fun _ => o_lt rfl rfl) ?_
    refine wl_nil ?_
    refine rk_if rfl (fun h119 => ?_) (fun h119 => ?_)
    · refine rk_skip ?_
      refine rk_seq ?_
      refine rk_block ?_
      refine rk_seq ?_
      refine rk_region ?_
      refine wl_r (o_loadag Try.isAgg27 Try.sizeOf27 rfl f4 (by rfl)) ?_
      refine wl_p (fun _ => o_move rfl) ?_
      refine wl_call rfl (C_ToOk _ (hL.u hw) hok hZ rfl (by omega)) ?_
      rintro v124 w124 ⟨A124, ⟨c124, ⟨rfl, ⟨f124, b124⟩⟩⟩⟩
      have qf124 := f124.cap
      have s124 := b124.size
      replace hw1 := hw1.trans (b124.mono hw1.size)
      replace hw := hw.trans (b124.mono hw.size)
      replace f9 := f9.u b124
      replace f4 := f4.u b124
      refine wl_p (fun _ => o_assign rfl) ?_
      refine wl_nil ?_
      refine rk_seq ?_
      refine rk_seq ?_
      refine rk_region ?_
      refine wl_p (fun _ => o_assign rfl) ?_
      refine wl_nil ?_
      refine rk_block ?_
      refine rk_joinf (fun fb fr W2 => fr = [] ++ fb.drop 1 ∧ Blk W2 g4 27 [.int .i64 k, .slice A L.length c] ∧ Blk W2 g9 27 [.int .i64 k, .slice A45 L.length c45] ∧ w_1.heap.size ≤ W2.heap.size ∧ Below w_1.heap.size w_1 W2 ∧ Below w.heap.size w W2) ?_ (fun ks hj2 => ?_)
      rotate_left
      · refine rk_loopf (fun fb m fr W2 => ∃ (b : Nat) (v : Int), fr = [(27, .int .i64 v)] ++ fb.drop 1 ∧ v = b ∧ b ≤ Z.length ∧ m = Z.length - b ∧ OwnZ W2 W.heap.size w124.heap.size A124 c124 Z ∧ Blk W2 g4 27 [.int .i64 k, .slice A L.length c] ∧ Blk W2 g9 27 [.int .i64 k, .slice A45 L.length c45] ∧ w124.heap.size ≤ W2.heap.size ∧ Below w_1.heap.size w_1 W2 ∧ Below w.heap.size w W2) (n := Z.length) (Fr.le_of (by kernel_rfl) (by kernel_rfl) (by repeat' constructor)) ⟨0, _, rfl, rfl, by omega, rfl, f124, f4, f9, Nat.le_refl _, hw1, hw⟩ ?_
        clear hw hw1 f4 f9 f124
        rintro m fr W2 ⟨b, v, rfl, rfl, hb, rfl, f124, f4, f9, hsW2, hw1, hw⟩
        have shw := hw.size
        first | refine rk_frame (by simp only [List.cons_append, List.nil_append, List.drop_succ_cons, List.drop_zero]; rfl) ?_ | refine wl_frame (by simp only [List.cons_append, List.nil_append, List.drop_succ_cons, List.drop_zero]; rfl) ?_
        refine rk_seq ?_
        refine rk_seq ?_
        refine rk_region ?_
        refine wl_p (fun _ => o_move rfl) ?_
        refine wl_p (fun _ => o_move rfl) ?_
        refine wl_p (fun _ => o_len (t := 51) Try.underlying51 rfl) ?_
        refine wl_p (fun _ => o_lt rfl rfl) ?_
        refine wl_nil ?_
        refine rk_if rfl (fun h128 => ?_) (fun h128 => ?_)
        · have hbZ : b < Z.length := by omega
          obtain ⟨kk, hkk, hz, hto⟩ := placesN_get (L := L) (i := (a : Int)) (j := b) (by rw [hZ]; exact hbZ)
          simp only [hZ] at hz
          have hle : (kk : Int) < L.length := by omega
          refine rk_skip ?_
          refine rk_seq ?_
          refine rk_block ?_
          refine rk_seq ?_
          refine rk_draw (id := 29) (none) [0, 0, 3, 4, 8, 16, 32, 32, 224, 288, 32, 1056, 2080, 4640, 8224, 16416, 32768, 98304, 32768, 32768, 819200, 1081344, 2260992, 4227072, 8421376, 32768, 50364416, 67141632, 134250496, 268435456, 805306368, 1342177280, 2147483648, 2147483648, 10737418240, 23622320128, 36507222016, 2147483648, 2147483648, 414464344064, 551903297536, 1170378588160, 2201439174656, 4398314946560] [0, 0, 3, 7, 15, 31, 63, 63, 255, 511, 63, 1087, 3135, 8191, 16383, 32767, 65535, 131071, 65535, 65535, 851967, 1900543, 4194303, 8388607, 16777215, 65535, 67108863, 134217727, 268435455, 536870911, 1073741823, 2147483647, 4294967295, 4294967295, 12884901887, 34359738367, 68719476735, 4294967295, 4294967295, 416611827711, 966367641599, 2199023255551, 4398046511103, 8796093022207] 0 0 [(.p, 0), (.p, 1), (.p, 2), (.r, 3), (.p, 4), (.p, 5), (.p, 6), (.p, 7), (.p, 8), (.r, 9), (.p, 10), (.r, 11), (.p, 12), (.p, 13), (.p, 14), (.p, 15), (.p, 16), (.r, 17), (.p, 18), (.p, 19), (.p, 20), (.r, 21), (.p, 22), (.p, 23), (.r, 24), (.p, 25), (.p, 26), (.p, 27), (.p, 28), (.p, 29), (.p, 30), (.p, 31), (.p, 32), (.p, 33), (.p, 34), (.p, 35), (.r, 36), (.p, 37), (.p, 38), (.p, 39), (.r, 40), (.p, 41), (.p, 42), (.p, 43)] (by kernel_rfl) (by kernel_rfl) (by kernel_rfl) (by kernel_rfl) (by kernel_rfl) ?_
          replace hw1 := hw1.drew
          replace hw := hw.drew
          replace f9 := f9.d
          replace f4 := f4.d
          replace f124 := f124.d
          refine wl_p (fun _ => o_move rfl) ?_
          refine wl_p (fun _ => o_move rfl) ?_
          refine wl_p (fun _ => (o_iaddrA1 (b) Try.underlying51 Try.sizeOf3 rfl rfl rfl (Reads.some_ f124.to_Reads (by decide) (by omega)) (by omega))) ?_
          refine wl_r (o_loadZ Try.isAgg3 rfl f124.to_Reads (by omega)) ?_
          refine wl_p (fun _ => o_lt rfl rfl) ?_
          refine wl_p (fun _ => o_move rfl) ?_
          refine wl_know 136 false rfl (decide_eq_false (by omega)) ?_
          refine wl_p (fun _ => o_move rfl) ?_
          refine wl_p (fun _ => o_move rfl) ?_
          refine wl_p (fun _ => (o_iaddrA1 (b) Try.underlying51 Try.sizeOf3 rfl rfl rfl (Reads.some_ f124.to_Reads (by decide) (by omega)) (by omega))) ?_
          refine wl_r (o_loadZ Try.isAgg3 rfl f124.to_Reads (by omega)) ?_
          refine wl_p (fun _ => o_faddr (s := 27) (i := 1) (off := 1) Try.underlying27 rfl Try.sizeOf25 rfl rfl rfl) ?_
          refine wl_r (o_loadbg Try.isAgg25 rfl f4 (by rfl)) ?_
          refine wl_p (fun _ => o_len (t := 25) Try.underlying25 rfl) ?_
          refine wl_p (fun _ => o_ge rfl rfl) ?_
          refine wl_p (fun _ => o_pick_f rfl rfl) ?_
          refine wl_p (fun _ => o_move rfl) ?_
          refine wl_know 146 false rfl (decide_eq_false (by omega)) ?_
          refine wl_p (fun _ => o_faddr (s := 27) (i := 1) (off := 1) Try.underlying27 rfl Try.sizeOf25 rfl rfl rfl) ?_
          refine wl_r (o_loadbg Try.isAgg25 rfl f4 (by rfl)) ?_
          refine wl_p (fun _ => o_move rfl) ?_
          refine wl_p (fun _ => o_move rfl) ?_
          refine wl_p (fun _ => (o_iaddrA1 (b) Try.underlying51 Try.sizeOf3 rfl rfl rfl (Reads.some_ f124.to_Reads (by decide) (by omega)) (by omega))) ?_
          refine wl_r (o_loadZ Try.isAgg3 rfl f124.to_Reads (by omega)) ?_
          refine wl_p (fun _ => (o_iaddrA (kk) Try.underlying25 Try.sizeOf38 rfl rfl hz (hL.some_ (by omega)) (by omega))) ?_
          refine wl_p (fun _ => (o_faddrR rfl Try.underlying38 (by rfl) Try.sizeOf3 (by rfl) (by rfl))) ?_
          refine wl_r (o_ldTo rfl hL hw (by omega)) ?_
          refine wl_p (fun _ => o_move rfl) ?_
          refine wl_p (fun _ => o_ne rfl rfl) ?_
          refine wl_p (fun _ => o_pick_f rfl rfl) ?_
          refine wl_p (fun _ => o_move rfl) ?_
          refine wl_know 159 false rfl (decide_eq_false (by omega)) ?_
          refine wl_p (fun _ => o_move rfl) ?_
          refine wl_p (fun _ => o_gt rfl rfl) ?_
          refine wl_p (fun _ => o_move rfl) ?_
          refine wl_bool 162 rfl (fun h162 => ?_) (fun h162 => ?_) <;> try simp only [decide_eq_true_eq, decide_eq_false_iff_not, Bool.not_eq_true', Bool.not_eq_false', Bool.and_eq_true, Bool.and_eq_false_iff, Bool.or_eq_true, Bool.or_eq_false_iff] at h162
          · have hb1 : (b : Int) - 1 = ((b - 1 : Nat) : Int) := by omega
            have hb2 : b - 1 < Z.length := by omega
            have hlt : Z[b - 1] < Z[b] := by
              have hs := placesN_sorted L (a : Int)
              rw [hZ] at hs
              exact List.pairwise_iff_getElem.1 hs _ _ hb2 hbZ (by omega)
            refine wl_p (fun _ => o_move rfl) ?_
            refine wl_p (fun _ => o_move rfl) ?_
            refine wl_p (fun _ => o_sub rfl rfl (by omega) (by omega)) ?_
            refine wl_p (fun _ => (o_iaddrA1 (b - 1) Try.underlying51 Try.sizeOf3 rfl rfl (by omega) (Reads.some_ f124.to_Reads (by decide) (by omega)) (by omega))) ?_
            refine wl_r (o_loadZ Try.isAgg3 rfl f124.to_Reads (by omega)) ?_
            refine wl_p (fun _ => o_move rfl) ?_
            refine wl_p (fun _ => o_move rfl) ?_
            refine wl_p (fun _ => (o_iaddrA1 (b) Try.underlying51 Try.sizeOf3 rfl rfl rfl (Reads.some_ f124.to_Reads (by decide) (by omega)) (by omega))) ?_
            refine wl_r (o_loadZ Try.isAgg3 rfl f124.to_Reads (by omega)) ?_
            refine wl_p (fun _ => o_ge rfl rfl) ?_
            refine wl_p (fun _ => o_pick_t rfl rfl) ?_
            refine wl_p (fun _ => o_pick_f rfl rfl) ?_
            refine wl_nild ?_
            refine rk_if rfl (fun h174 => absurd h174 (by omega)) (fun h174 => ?_)
            refine rk_skip ?_
            refine rk_blk ?_
            refine rk_region ?_
            refine wl_p (fun _ => o_move rfl) ?_
            refine wl_p (fun _ => o_add rfl rfl (by omega) (by omega)) ?_
            refine wl_p (fun _ => o_assign rfl) ?_
            refine wl_nil ?_
            exact rk_againf (Fr.le_of (by kernel_rfl) (by kernel_rfl) (by repeat' constructor)) ⟨b + 1, _, rfl, by omega, by omega, rfl, f124, f4, f9, hsW2, hw1, hw⟩ (by omega)
          · refine wl_off ?_
            refine wl_off ?_
            refine wl_off ?_
            refine wl_off ?_
            refine wl_off ?_
            refine wl_off ?_
            refine wl_off ?_
            refine wl_off ?_
            refine wl_off ?_
            refine wl_off ?_
            refine wl_p (fun _ => o_pick_f rfl rfl) ?_
            refine wl_p (fun _ => o_pick_f rfl rfl) ?_
            refine wl_nild ?_
            refine rk_false rfl ?_
            refine rk_skip ?_
            refine rk_blk ?_
            refine rk_region ?_
            refine wl_p (fun _ => o_move rfl) ?_
            refine wl_p (fun _ => o_add rfl rfl (by omega) (by omega)) ?_
            refine wl_p (fun _ => o_assign rfl) ?_
            refine wl_nil ?_
            exact rk_againf (Fr.le_of (by kernel_rfl) (by kernel_rfl) (by repeat' constructor)) ⟨b + 1, _, rfl, by omega, by omega, rfl, f124, f4, f9, hsW2, hw1, hw⟩ (by omega)
        · refine rk_exit rfl ?_
          exact rk_tof hj2 (Fr.le_of (by kernel_rfl) (by kernel_rfl) (by repeat' constructor)) ⟨rfl, f4, f9, by omega, hw1, hw⟩
      clear hw hw1 f4 f9 f124
      rintro fr W2 ⟨rfl, f4, f9, hs2, hw1, hw⟩
      first | refine rk_frame (by simp only [List.cons_append, List.nil_append, List.drop_succ_cons, List.drop_zero]; rfl) ?_ | refine wl_frame (by simp only [List.cons_append, List.nil_append, List.drop_succ_cons, List.drop_zero]; rfl) ?_
      refine rk_region ?_
      refine wl_p (fun _ => o_move rfl) ?_
      refine wl_p (fun _ => o_move rfl) ?_
      refine wl_p (fun _ => o_len (t := 51) Try.underlying51 rfl) ?_
      refine wl_p (fun _ => o_add rfl rfl (by omega) (by omega)) ?_
      refine wl_p (fun _ => o_assign rfl) ?_
      refine wl_nil ?_
      refine rk_blk ?_
      refine rk_region ?_
      refine wl_p (fun _ => o_move rfl) ?_
      refine wl_p (fun _ => o_add rfl rfl (by omega) (by omega)) ?_
      refine wl_p (fun _ => o_assign rfl) ?_
      refine wl_nil ?_
      exact rk_againf (Fr.le_of (by kernel_rfl) (by kernel_rfl) (by repeat' constructor)) ⟨a + 1, _, _, rfl, by omega, by rw [show ((a + 1 : Nat) : Int) = (a : Int) + 1 by omega, hup]; omega, by omega, rfl, f4, f9, hs2, hw1, hw⟩ (by omega)
    · refine rk_exit rfl ?_
      have hak : (a : Int) = k := by omega
      rw [hak, upto_all hfrom]
      exact rk_tof hj (Fr.le_of (by kernel_rfl) (by kernel_rfl) (by repeat' constructor)) ⟨rfl, f4, f9, hw1, hw⟩
  clear hw hw1 f4 f9 hws shw
  rintro fr W ⟨rfl, f4, f9, hw1, hw⟩
  have hws := hwas W hw1
  first | refine rk_frame (by simp only [List.cons_append, List.nil_append, List.drop_succ_cons, List.drop_zero]; rfl) ?_ | refine wl_frame (by simp only [List.cons_append, List.nil_append, List.drop_succ_cons, List.drop_zero]; rfl) ?_
  refine rk_seq ?_
  refine rk_region ?_
  refine wl_p (fun _ => o_move rfl) ?_
  refine wl_p (fun _ => o_faddr (s := 27) (i := 1) (off := 1) Try.underlying27 rfl Try.sizeOf25 rfl rfl rfl) ?_
  refine wl_r (o_loadbg Try.isAgg25 rfl f4 (by rfl)) ?_
  refine wl_p (fun _ => o_len (t := 25) Try.underlying25 rfl) ?_
  refine wl_p (fun _ => o_eq rfl rfl) ?_
  refine wl_p (fun _ => o_move rfl) ?_
  refine wl_know 184 true rfl (decide_eq_true (by omega)) ?_
  refine wl_r (o_loadag Try.isAgg27 Try.sizeOf27 rfl f4 (by rfl)) ?_
  refine wl_r (o_loadag Try.isAgg27 Try.sizeOf27 rfl f9 (by rfl)) ?_
  refine wl_call rfl (C_NetK _ (hL.u hw) hws rfl rfl (by omega) (by omega)) ?_
  rintro v187 w187 ⟨rfl, b187⟩
  have s187 := b187.size
  replace hw1 := hw1.trans (b187.mono hw1.size)
  replace hw := hw.trans (b187.mono hw.size)
  replace hws := hws.u b187
  replace f9 := f9.u b187
  replace f4 := f4.u b187
  refine wl_p (fun _ => o_pick_t rfl rfl) ?_
  refine wl_p (fun _ => o_assign rfl) ?_
  refine wl_nil ?_
  refine ret1 rfl rfl ?_
  exact ⟨congrArg Value.bool (decide_eq_true ⟨rfl, rfl⟩), hw⟩
theorem opens_Env : Opens Try.prog 38 gEnv :=
  have hb : Opens Try.prog 32 gBytes := opens_bytes Try.underlying32 Try.underlying5 (by kernel_rfl) (by kernel_rfl)
  have hi : Opens Try.prog 3 (gInt .i64) := opens_int Try.underlying3 (by kernel_rfl)
  opens_struct Try.underlying38 (by kernel_rfl) (.more hi rfl (.more hi rfl (.one hb rfl)))
--@ arg api.Net arg_Net
theorem arg_Net {H : Type} {enc : TypeId × Value → H} {W : World} {base : Nat} {v : Value} {d : DataW H} {p : List MemPlace} (hok : Value.okWide Try.prog W .any base 27 v) (h : DataW.Trod enc Try.prog W 0 (fun _ => true) true 27 v d p) :
    ∃ (k : Int) (A : Option Addr) (c : Nat) (L : List En), v = .agg #[.int .i64 k, .slice A L.length c] ∧ REn W A L ∧ L.length ≤ c ∧ c ≤ maxLen := by
  have hX : Opens Try.prog 27 ((gInt .i64).pair (GoT.slice 38 gEnv)) := opens_struct Try.underlying27 (by kernel_rfl) (.more (opens_int Try.underlying3 (by kernel_rfl)) rfl (.one (opens_slice Try.underlying25 (by kernel_rfl) (by decide) opens_Env) rfl))
  obtain ⟨cs, a, rfl, c1, c2, rfl, ⟨rfl, _⟩, h2⟩ := open_agg hX (.inl ⟨_, Try.underlying27⟩) hok h
  obtain ⟨A, c, rfl, h3, h4, h5⟩ := slice_RSl h2
  exact ⟨_, A, c, _, rfl, h3, h4, h5⟩
--@ arg api.Out arg_Out
theorem arg_Out {H : Type} {enc : TypeId × Value → H} {W : World} {base : Nat} {v : Value} {d : DataW H} {p : List MemPlace} (hok : Value.okWide Try.prog W .any base 34 v) (h : DataW.Trod enc Try.prog W 0 (fun _ => true) true 34 v d p) :
    ∃ (t : Int) (A : Option Addr) (c : Nat) (l : By), v = .agg #[.int .i64 t, .slice A l.length c] ∧ Rd W A l ∧ l.length ≤ c ∧ c ≤ maxLen ∧ (Lit.int .i64 t).wf = true := by
  have hX : Opens Try.prog 34 ((gInt .i64).pair gBytes) := opens_struct Try.underlying34 (by kernel_rfl) (.more (opens_int Try.underlying3 (by kernel_rfl)) rfl (.one (opens_bytes Try.underlying32 Try.underlying5 (by kernel_rfl) (by kernel_rfl)) rfl))
  obtain ⟨cs, a, rfl, c1, c2, rfl, ⟨rfl, hw⟩, A, c, rfl, h3, h4, h5⟩ := open_agg hX (.inl ⟨_, Try.underlying34⟩) hok h
  exact ⟨_, A, c, _, rfl, h3, h4, h5, hw⟩
end Go.Proofs.Ytaldpegegekbjaa
