/-
  Walks of package net: an envelope that is taken out.
-/
import Derived.Test.YtaldpegegekbjaaNetE
import Derived.Test.YtaldpegegekbjaaDel
namespace Go.Proofs.Ytaldpegegekbjaa
open Go.RowKit
section
variable {w w' : World} {b lo hi c : Nat} {A : Option Addr} {L : List En}
theorem OwnEn.take (h : OwnEn b w lo hi A c L) (k : Nat) (hk : k ≤ L.length) : OwnEn b w lo hi A c (L.take k) := OwnS.take h k hk
theorem OwnEn.drop (h : OwnEn b w lo hi A c L) (k : Nat) (hk : k ≤ L.length) : REnT b w (cutA A c 3 k) (L.drop k) := OwnS.drop h k hk
end
section
variable {fn : Func} {F : Ending → World → Prop} {N : Nat} {ks : List K} {ops : Array Oper} {tg : Tags} {l : List Oper} {fr : Fr} {w w0 : World} {ty : TypeId} {pos : String} {aft : Array Edge} {gd : Option (Nat × Bool)} {d n j q c lo hi b k m c' : Nat} {x y : Operand} {A B : Option Addr} {L M : List En}
theorem wl_appFE (hx : fr.ev x = some (.slice A n c)) (hown : OwnEn b w lo hi A c L) (hn : n = L.length) (hy : fr.ev y = some (.slice B j q)) (hr : REnT b w B M) (hj : j = M.length) (hroom : L.length + M.length ≤ c)
    (h : ∀ w', OwnEn b w' lo hi A c (L ++ M) → Grew w w' 38 (blk A) → WL Try.prog fn F N ks ops tg.tail l ((d, .slice A (L ++ M).length c) :: fr) w')
    (ht : tg.loud = true := by rfl) (hg : onG ops fr gd = true := by rfl) (hd : Nat.blt d N = true := by rfl) (hq : tg.calm = false ∨ blk A = none ∨ blk A = tg.row := by exact .inl rfl) :
    WL Try.prog fn F N ks ops tg (⟨some d, .call { callee := .builtin .append, args := #[x, y], argTypes := #[25, 25] }, ty, pos, aft, gd⟩ :: l) fr w :=
  wl_appFit (X := gEnvO b) Try.rowEnv hx hown hn hy hr hj (by simp [gEnvO, GoT.pair, gInt, GoT.flat, gBytesO]) (gEnvO_one b) hroom h ht hg hd hq
theorem wl_clearE (hx : fr.ev x = some (.slice (cutA A c 3 k) m c')) (hown : OwnEn b w lo hi A c L) (hk : L.length ≤ k) (hm : k + m ≤ c)
    (h : ∀ w', OwnEn b w' lo hi A c L → Grew w w' 38 (blk A) → WL Try.prog fn F N ks ops tg.tail l fr w')
    (ht : tg.loud = true := by rfl) (hg : onG ops fr gd = true := by rfl) (hq : tg.calm = false ∨ blk A = none ∨ blk A = tg.row := by exact .inl rfl) :
    WL Try.prog fn F N ks ops tg (⟨none, .call { callee := .builtin .clear, args := #[x], argTypes := #[25] }, ty, pos, aft, gd⟩ :: l) fr w :=
  wl_clearS (X := gEnvO b) Try.rowEnv Try.zeroValue38 (by kernel_rfl) hx hown hk hm (by simp [gEnvO, GoT.pair, gInt, GoT.flat, gBytesO]) h ht hg hq
--@ rule slice p o_slice3E
theorem o_slice3E {len cap : Nat} {kl kh km : IntKind} {L H M : Int} {y z u : Operand} (lo hi mx : Nat) (hx : fr.ev x = some (.slice A len cap)) (hy : fr.ev y = some (.int kl L)) (hz : fr.ev z = some (.int kh H)) (hq : fr.ev u = some (.int km M)) (hl : L = (lo : Int)) (hh : H = (hi : Int)) (hm : M = (mx : Int)) (h1 : lo ≤ hi) (h2 : hi ≤ mx) (h3 : mx ≤ cap) : OpV Try.prog N fr w (.slice 25 x (some y) (some z) (some u)) ty (.slice (cutA A mx 3 lo) (hi - lo) (mx - lo)) w :=
  o_slice3S lo hi mx Try.underlying25 Try.sizeOf38 hx hy hz hq hl hh hm h1 h2 h3
--@ rule slice p o_slHiE
theorem o_slHiE {len cap : Nat} {kh : IntKind} {H : Int} {z : Operand} (hi : Nat) (hx : fr.ev x = some (.slice A len cap)) (hz : fr.ev z = some (.int kh H)) (hh : H = (hi : Int)) (h2 : hi ≤ cap) : OpV Try.prog N fr w (.slice 25 x none (some z) none) ty (.slice A hi cap) w :=
  o_slice_hi Try.underlying25 Try.sizeOf38 hx hz hh h2
--@ rule slice p o_slBothE
theorem o_slBothE {len cap : Nat} {kl kh : IntKind} {L H : Int} {y z : Operand} (lo hi : Nat) (hx : fr.ev x = some (.slice A len cap)) (hy : fr.ev y = some (.int kl L)) (hz : fr.ev z = some (.int kh H)) (hl : L = (lo : Int)) (hh : H = (hi : Int)) (h1 : lo ≤ hi) (h2 : hi ≤ cap) : OpV Try.prog N fr w (.slice 25 x (some y) (some z) none) ty (.slice (cutA A cap 3 lo) (hi - lo) (cap - lo)) w :=
  o_slice Try.underlying25 Try.sizeOf38 hx hy hz hl hh h1 h2
end
/-- L without its i-th. -/
def cutI {α : Type} (L : List α) (i : Nat) : List α := L.take i ++ L.drop (i + 1)
theorem C_Delete {b lo hi i : Nat} {A : Option Addr} {L : List En} {n c : Nat} {v1 v2 : Int} (w : World) (hown : OwnEn b w lo hi A c L) (hn : n = L.length) (h1 : v1 = (i : Int)) (h2 : v2 = (i : Int) + 1) (hlen : L.length ≤ 1000) (hil : i < L.length) (hB : lo ≤ w.heap.size) :
    CallsR Try.prog 27 [.slice A n c, .int .i64 v1, .int .i64 v2] w fun v w' => v = .slice A (cutI L i).length c ∧ OwnEn b w' lo hi A c (cutI L i) ∧ w.grownBy w' (blk A) ∧ Below lo w w' := by
  subst hn; subst h1; subst h2
  refine callsR Try.func27 rfl rfl (by kernel_rfl) rfl ?_
  have hw := Below.refl w.heap.size w
  have hcap := hown.cap
  refine rk_seq ?_
  refine rk_region ?_
  refine wl_p (fun _ => o_assign rfl) ?_
  refine wl_nil ?_
  refine rk_seq ?_
  refine rk_region ?_
  refine wl_p (fun _ => o_move rfl) ?_
  refine wl_p (fun _ => o_move rfl) ?_
  refine wl_p (fun _ => o_move rfl) ?_
  refine wl_p (fun _ => o_move rfl) ?_
  refine wl_p (fun _ => o_len (t := 25) Try.underlying25 rfl) ?_
  refine wl_p (fun _ => (o_slice3E (i) (i + 1) (L.length) rfl rfl rfl rfl rfl (by omega) rfl (by omega) (by omega) (by omega))) ?_
  refine wl_nil ?_
  refine rk_seq ?_
  refine rk_seq ?_
  refine rk_region ?_
  refine wl_p (fun _ => o_move rfl) ?_
  refine wl_p (fun _ => o_move rfl) ?_
  refine wl_p (fun _ => o_eq rfl rfl) ?_
  refine wl_nil ?_
  refine rk_if rfl (fun h16 => absurd h16 (by omega)) (fun h16 => ?_)
  refine rk_skip ?_
  refine rk_seq ?_
  refine rk_region ?_
  refine wl_p (fun _ => o_move rfl) ?_
  refine wl_p (fun _ => o_len (t := 25) Try.underlying25 rfl) ?_
  refine wl_p (fun _ => o_assign rfl) ?_
  refine wl_nil ?_
  refine rk_seq ?_
  refine rk_draw (id := 5) (none) [0, 0, 3, 0, 0, 24, 36, 127] [0, 0, 3, 0, 0, 24, 63, 127] 64 0 [(.p, 0), (.p, 1), (.p, 2), (.p, 3), (.p, 4), (.p, 5), (.l, 6), (.p, 7)] (by kernel_rfl) (by kernel_rfl) (by kernel_rfl) (by kernel_rfl) (by kernel_rfl) ?_
  replace hw := hw.drew
  refine wl_p (fun _ => o_move rfl) ?_
  refine wl_p (fun _ => o_move rfl) ?_
  refine wl_p (fun _ => (o_slHiE (i) rfl rfl rfl (by omega))) ?_
  refine wl_p (fun _ => o_move rfl) ?_
  refine wl_p (fun _ => o_move rfl) ?_
  refine wl_p (fun _ => (o_slLoE (i + 1) rfl rfl (by omega) (by omega))) ?_
  have ho := hown.d
  have e1 : (L.take i).length = i := by rw [List.length_take]; omega
  have e2 : (L.drop (i + 1)).length = L.length - (i + 1) := List.length_drop
  have e3 : (cutI L i).length = L.length - 1 := by unfold cutI; rw [List.length_append]; omega
  refine wl_appFE rfl (ho.take i (by omega)) e1.symm rfl (ho.drop (i + 1) (by omega)) e2.symm (by omega) ?_
  intro w26 f26 g26
  have hlt := hown.lt
  have hwl := (Below.refl lo w).drew.trans (g26.below hB (fun k hk => (hlt k hk).1))
  rw [show L.take i ++ L.drop (i + 1) = cutI L i from rfl] at f26 ⊢
  have hgr := grownBy_trans (grownBy_drew w (blk A)) g26.g
  clear hw hown ho
  refine wl_p (fun _ => o_assign rfl) ?_
  refine wl_nild ?_
  refine rk_seq ?_
  refine rk_region ?_
  refine wl_p (fun _ => o_move rfl) ?_
  refine wl_p (fun _ => o_move rfl) ?_
  refine wl_p (fun _ => o_len (t := 25) Try.underlying25 rfl) ?_
  refine wl_p (fun _ => o_move rfl) ?_
  refine wl_p (fun _ => (o_slBothE ((cutI L i).length) (L.length) rfl rfl rfl rfl rfl (by omega) (by omega))) ?_
  refine wl_clearE rfl f26 (Nat.le_refl _) (by omega) ?_
  intro w31 f31 g31
  have hlt2 := f26.lt
  replace hwl := hwl.trans (g31.below (by have := hwl.size; omega) (fun k hk => (hlt2 k hk).1))
  replace hgr := grownBy_trans hgr g31.g
  clear f26 hlt2
  refine wl_nil ?_
  refine rk_seq ?_
  refine rk_region ?_
  refine wl_p (fun _ => o_move rfl) ?_
  refine wl_p (fun _ => o_assign rfl) ?_
  refine wl_nil ?_
  refine ret1 rfl rfl ?_
  exact ⟨rfl, f31, hgr, hwl⟩
theorem C_Drop1 {b lo hi g i : Nat} {A : Option Addr} {L : List En} {n c : Nat} (w : World) (hown : OwnEn b w lo hi A c L) (hg : Blk w g 3 [.int .i64 (i : Int)]) (hn : n = L.length) (hlen : L.length ≤ 1000) (hil : i < L.length) (hB : lo ≤ w.heap.size) :
    CallsR Try.prog 26 [.slice A n c, .pointer (some ⟨g, 0, none⟩)] w fun v w' => ∃ A' c', v = .slice A' (cutI L i).length c' ∧ OwnEn b w' lo w'.heap.size A' c' (cutI L i) ∧ w.grownBy w' (blk A) ∧ Below lo w w' := by
  subst hn
  refine callsR Try.func26 rfl rfl (by kernel_rfl) rfl ?_
  have hw := Below.refl w.heap.size w
  have hwl := Below.refl lo w
  refine rk_seq ?_
  refine rk_region ?_
  refine wl_p (fun _ => o_assign rfl) ?_
  refine wl_nil ?_
  refine rk_seq ?_
  refine rk_region ?_
  refine wl_p (fun _ => o_move rfl) ?_
  refine wl_r (o_loadbg Try.isAgg3 rfl hg (by rfl)) ?_
  refine wl_r (o_loadbg Try.isAgg3 rfl hg (by rfl)) ?_
  refine wl_p (fun _ => o_add rfl rfl (by omega) (by omega)) ?_
  refine wl_call rfl (C_Delete _ hown rfl rfl rfl (by omega) (by omega) (by omega)) ?_
  rintro v8 w8 ⟨rfl, ⟨f8, ⟨g8, b8⟩⟩⟩
  have qf8 := f8.cap
  have s8 := g8.size
  replace hwl := hwl.trans (b8.mono (by omega))
  refine wl_p (fun _ => o_assign rfl) ?_
  refine wl_nil ?_
  refine ret1 rfl rfl ?_
  exact ⟨_, _, rfl, f8.top, by assumption, hwl⟩
theorem C_Drop {k i r : Int} {A : Option Addr} {L : List En} {n c : Nat} (w : World) (hL : REn w A L) (hr : netAt k L i = r) (hn : n = L.length) (hm : n ≤ maxLen) (wi : (Lit.int .i64 i).wf = true) :
    CallsR Try.prog 12 [.agg #[.int .i64 k, .slice A n c], .int .i64 i] w fun v w' => ∃ k' A' c' Q, v = .tuple #[.agg #[.int .i64 k', .slice A' Q.length c'], .int .i64 r] ∧ OwnEn w.heap.size w' w.heap.size w'.heap.size A' c' Q ∧ (r = 0 → k' = k ∧ Q = cutI L i.toNat) ∧ (r ≠ 0 → k' = 0 ∧ Q = []) ∧ Below w.heap.size w w' := by
  subst hn
  refine callsR Try.func12 rfl rfl (by kernel_rfl) rfl ?_
  have hw := Below.refl w.heap.size w
  refine rk_seq ?_
  refine rk_region ?_
  refine wl_boxg [_, _] rfl (by rfl) ?_
  rintro g2 w2 f2 b2 i2 i2_1
  have s2 := b2.size
  replace hw := hw.trans (b2.mono hw.size)
  refine wl_boxg [_] rfl (by rfl) ?_
  rintro g3 w3 f3 b3 i3 i3_1
  have s3 := b3.size
  replace hw := hw.trans (b3.mono hw.size)
  replace f2 := f2.u b3
  refine wl_allocg [_, _] Try.zeroValue27 (by rfl) ?_
  rintro g4 w4 f4 b4 i4 i4_1
  have s4 := b4.size
  replace hw := hw.trans (b4.mono hw.size)
  replace f2 := f2.u b4
  replace f3 := f3.u b4
  refine wl_p (fun _ => o_assign rfl) ?_
  refine wl_nil ?_
  refine rk_seq ?_
  refine rk_seq ?_
  refine rk_region ?_
  refine wl_r (o_loadag Try.isAgg27 Try.sizeOf27 rfl f2 (by rfl)) ?_
  refine wl_r (o_loadbg Try.isAgg3 rfl f3 (by rfl)) ?_
  refine wl_call rfl (C_at _ (hL.u hw) hr rfl (by omega)) ?_
  rintro v9 w9 ⟨rfl, b9⟩
  have s9 := b9.size
  replace hw := hw.trans (b9.mono hw.size)
  replace f3 := f3.u b9
  replace f2 := f2.u b9
  replace f4 := f4.u b9
  refine wl_p (fun _ => o_assign rfl) ?_
  refine wl_nil ?_
  refine rk_seq ?_
  refine rk_region ?_
  refine wl_p (fun _ => o_move rfl) ?_
  refine wl_p (fun _ => o_ne rfl rfl) ?_
  refine wl_nil ?_
  refine rk_if rfl (fun h11 => ?_) (fun h11 => ?_)
  · refine rk_seq ?_
    refine rk_region ?_
    refine wl_p (fun _ => (o_buildg [_, _] Try.underlying27 Try.zeroValue27 (by rfl) (by rfl) rfl (by rfl) (by rfl) (fun _ => by kernel_rfl))) ?_
    refine wl_p (fun _ => o_move rfl) ?_
    refine wl_storega Try.sizeOf27 rfl rfl (by rfl) (by decide) f4 (by rfl) ?_
    rintro w_1 f g e
    have s := g.size
    replace hw := hw.trans (below_of_grownBy g.g hw.size (by omega))
    replace f2 := f2.k g.g (ap_some (by omega))
    replace f3 := f3.k g.g (ap_some (by omega))
    clear f4
    refine wl_p (fun _ => o_assign rfl) ?_
    refine wl_nil ?_
    refine ret_any rfl (.cell rfl Try.isAgg27 Try.sizeOf27 (by assumption) rfl <| .tmp rfl <| .nil) (by simp) ?_
    exact ⟨0, none, 0, [], rfl, OwnEn.nil_, fun h => absurd h (by omega), fun _ => ⟨rfl, rfl⟩, hw⟩
  · have hr0 : r = 0 := by omega
    rw [hr0] at hr
    obtain ⟨hok, hi0, hil⟩ := netAt_zero hr
    obtain ⟨hk1, hk7, hl5, hall⟩ := netOk_parts hok
    have hraw : ∀ e ∈ L, e.2.2.length ≤ 16384 := fun e h => (hall e h).2
    obtain ⟨j, rfl⟩ : ∃ j : Nat, i = j := ⟨i.toNat, by omega⟩
    have hjl : j < L.length := by omega
    refine rk_skip ?_
    refine rk_seq ?_
    refine rk_region ?_
    refine wl_r (o_loadag Try.isAgg27 Try.sizeOf27 rfl f2 (by rfl)) ?_
    refine wl_p (fun _ => o_makeFunc (xs := [.tmp 3]) rfl) ?_
    have H : ∀ w1 A1 c1, OwnEn w9.heap.size w1 w9.heap.size w1.heap.size A1 c1 L → Below w9.heap.size w9 w1 → CallsR Try.prog 26 ([.slice A1 L.length c1] ++ (#[Value.pointer (some ⟨g3, 0, none⟩)] : Array Value).toList) w1 fun v w' => ∃ A' c', v = .slice A' (cutI L j).length c' ∧ OwnEn w9.heap.size w' w9.heap.size w'.heap.size A' c' (cutI L j) ∧ w1.grownBy w' (blk A1) ∧ Below w9.heap.size w1 w' :=
      fun w1 A1 c1 ho hb1 => C_Drop1 w1 ho (f3.u hb1) rfl (by omega) hjl hb1.size
    refine wl_call rfl (C_change w9 (Nat.le_refl _) (hL.u hw) rfl hl5 (by omega) hk7 hraw H) ?_
    rintro v16 w16 ⟨A16, c16, rfl, f16, b16⟩
    have hsw := hw.size
    replace hw := hw.trans (b16.mono hsw)
    replace f4 := f4.u b16
    clear f2 f3
    refine wl_storega Try.sizeOf27 rfl rfl (by rfl) (oneCell_of (by rfl)) f4 (by rfl) ?_
    rintro w_1 f g e
    have s := g.size
    replace hw := hw.trans (below_of_grownBy g.g hw.size (by omega))
    replace f16 := f16.y g (by decide)
    clear f4
    refine wl_p (fun _ => o_assign rfl) ?_
    refine wl_nil ?_
    subst hr0
    refine ret_any rfl (.cell rfl Try.isAgg27 Try.sizeOf27 (by assumption) rfl <| .tmp rfl <| .nil) (by simp) ?_
    exact ⟨k, A16, c16, cutI L j, rfl, (f16.mono hsw).base hsw (by omega), fun _ => ⟨rfl, rfl⟩, fun h => absurd rfl h, hw⟩
theorem C_Take {k i r : Int} {A : Option Addr} {L : List En} {n c : Nat} (w : World) (hL : REn w A L) (hr : netAt k L i = r) (hn : n = L.length) (hm : n ≤ maxLen) (wi : (Lit.int .i64 i).wf = true) :
    CallsR Try.prog 11 [.agg #[.int .i64 k, .slice A n c], .int .i64 i] w fun v w' => ∃ x A1 c1 k' A' c' Q, v = .tuple #[.agg #[.int .i64 (Prod.fst x), .int .i64 x.2.1, .slice A1 x.2.2.length c1], .agg #[.int .i64 k', .slice A' Q.length c'], .int .i64 r] ∧ OwnEn w.heap.size w' w.heap.size w'.heap.size A' c' Q ∧ OwnH w' w.heap.size w'.heap.size A1 c1 x.2.2 ∧
      (r = 0 → k' = k ∧ Q = cutI L i.toNat ∧ ∃ h : i.toNat < L.length, x = L[i.toNat]) ∧ (r ≠ 0 → k' = 0 ∧ Q = [] ∧ x = (0, 0, [])) ∧ Below w.heap.size w w' := by
  subst hn
  refine callsR Try.func11 rfl rfl (by kernel_rfl) rfl ?_
  have hw := Below.refl w.heap.size w
  refine rk_seq ?_
  refine rk_region ?_
  refine wl_boxg [_, _] rfl (by rfl) ?_
  rintro g2 w2 f2 b2 i2 i2_1
  have s2 := b2.size
  replace hw := hw.trans (b2.mono hw.size)
  refine wl_allocg [_, _, _] Try.zeroValue38 (by rfl) ?_
  rintro g4 w4 f4 b4 i4 i4_1
  have s4 := b4.size
  replace hw := hw.trans (b4.mono hw.size)
  replace f2 := f2.u b4
  refine wl_allocg [_, _] Try.zeroValue27 (by rfl) ?_
  rintro g5 w5 f5 b5 i5 i5_1
  have s5 := b5.size
  replace hw := hw.trans (b5.mono hw.size)
  replace f2 := f2.u b5
  replace f4 := f4.u b5
  refine wl_p (fun _ => o_assign rfl) ?_
  refine wl_nil ?_
  refine rk_seq ?_
  refine rk_region ?_
  refine wl_r (o_loadag Try.isAgg27 Try.sizeOf27 rfl f2 (by rfl)) ?_
  refine wl_p (fun _ => o_move rfl) ?_
  refine wl_call rfl (C_Drop _ (hL.u hw) hr rfl (by omega) wi) ?_
  rintro v12 w12 ⟨k12, ⟨A12, ⟨c12, ⟨Q12, ⟨rfl, ⟨f12, ⟨i12, ⟨i12_1, b12⟩⟩⟩⟩⟩⟩⟩⟩
  have qf12 := f12.cap
  have s12 := b12.size
  replace hw := hw.trans (b12.mono hw.size)
  replace f4 := f4.u b12
  replace f2 := f2.u b12
  replace f5 := f5.u b12
  refine wl_p (fun _ => o_move rfl) ?_
  refine wl_p (fun _ => o_ext20 rfl) ?_
  refine wl_p (fun _ => o_ext21 rfl) ?_
  refine wl_allocg [_, _] Try.zeroValue27 (by rfl) ?_
  rintro g7 w7 f7 b7 i7 i7_1
  have s7 := b7.size
  replace hw := hw.trans (b7.mono hw.size)
  replace f5 := f5.u b7
  replace f2 := f2.u b7
  replace f4 := f4.u b7
  replace f12 := f12.u b7
  refine wl_storega Try.sizeOf27 rfl rfl (by rfl) (oneCell_of (by rfl)) f7 (by rfl) ?_
  rintro w_1 f g e
  have s := g.size
  replace hw := hw.trans (below_of_grownBy g.g hw.size (by omega))
  replace f12 := f12.y g (by decide)
  replace f4 := f4.k g.g (ap_some (by omega))
  replace f2 := f2.k g.g (ap_some (by omega))
  replace f5 := f5.k g.g (ap_some (by omega))
  clear f7
  refine wl_p (fun _ => o_assign rfl) ?_
  refine wl_nil ?_
  refine rk_seq ?_
  refine rk_seq ?_
  refine rk_region ?_
  refine wl_p (fun _ => o_move rfl) ?_
  refine wl_p (fun _ => o_ne rfl rfl) ?_
  refine wl_nil ?_
  have h0 : r = 0 → k12 = k ∧ Q12 = cutI L i.toNat := by assumption
  have h1 : r ≠ 0 → k12 = 0 ∧ Q12 = [] := by assumption
  refine rk_if rfl (fun h16 => ?_) (fun h16 => ?_)
  · refine rk_seq ?_
    refine rk_region ?_
    refine wl_p (fun _ => (o_buildg [_, _, _] Try.underlying38 Try.zeroValue38 (by rfl) (by rfl) rfl (by rfl) (by rfl) (fun _ => by kernel_rfl))) ?_
    refine wl_p (fun _ => (o_buildg [_, _] Try.underlying27 Try.zeroValue27 (by rfl) (by rfl) rfl (by rfl) (by rfl) (fun _ => by kernel_rfl))) ?_
    refine wl_p (fun _ => o_move rfl) ?_
    refine wl_storega Try.sizeOf38 rfl rfl (by rfl) (by decide) f4 (by rfl) ?_
    rintro w_2 f_1 g_1 e_1
    have s_1 := g_1.size
    replace hw := hw.trans (below_of_grownBy g_1.g hw.size (by omega))
    replace f5 := f5.k g_1.g (ap_some (by omega))
    replace f2 := f2.k g_1.g (ap_some (by omega))
    replace f12 := f12.q g_1 (ap_some (by omega)) (by decide)
    replace f := f.k g_1.g (ap_some (by omega))
    clear f4
    refine wl_storega Try.sizeOf27 rfl rfl (by rfl) (by decide) f5 (by rfl) ?_
    rintro w_3 f_2 g_2 e_2
    have s_2 := g_2.size
    replace hw := hw.trans (below_of_grownBy g_2.g hw.size (by omega))
    replace f := f.k g_2.g (ap_some (by omega))
    replace f12 := f12.y g_2 (by decide)
    replace f2 := f2.k g_2.g (ap_some (by omega))
    replace f_1 := f_1.k g_2.g (ap_some (by omega))
    clear f5
    refine wl_p (fun _ => o_assign rfl) ?_
    refine wl_nil ?_
    refine ret_any rfl (.cell rfl Try.isAgg38 Try.sizeOf38 (by assumption) rfl <| .cell rfl Try.isAgg27 Try.sizeOf27 (by assumption) rfl <| .tmp rfl <| .nil) (by simp) ?_
    obtain ⟨rfl, rfl⟩ := h1 (by assumption)
    exact ⟨(0, 0, []), none, 0, 0, none, 0, [], rfl, OwnEn.nil_, OwnH.nil_, fun h => absurd h (by omega), fun _ => ⟨rfl, rfl, rfl⟩, hw⟩
  · have hr0 : r = 0 := by omega
    rw [hr0] at hr
    obtain ⟨hok, hi0, hil⟩ := netAt_zero hr
    obtain ⟨hk1, hk7, hl5, hall⟩ := netOk_parts hok
    have hraw : ∀ e ∈ L, e.2.2.length ≤ 16384 := fun e h => (hall e h).2
    obtain ⟨j, rfl⟩ : ∃ j : Nat, i = j := ⟨i.toNat, by omega⟩
    have hjl : j < L.length := by omega
    have hr1 := hraw _ (List.getElem_mem hjl)
    refine rk_skip ?_
    refine rk_seq ?_
    refine rk_drawo (id := 4) (some g4) [0, 1, 0, 6, 8, 16, 0, 63, 255, 511] [0, 1, 0, 7, 15, 31, 0, 63, 255, 511] 416 160 [0, 1, 2, 3, 4, 6, 5, 7, 8, 9] [(.p, 0), (.r, 1), (.p, 2), (.p, 3), (.r, 4), (.s, 6), (.c, 5), (.c, 7), (.l, 8), (.p, 9)] (by kernel_rfl) (by kernel_rfl) (by kernel_rfl) (by kernel_rfl) (by kernel_rfl) ?_
    dsimp only [inOrder, nthOp]
    replace hw := hw.drew
    replace f5 := f5.d
    replace f2 := f2.d
    replace f4 := f4.d
    replace f12 := f12.d
    replace f := f.d
    refine wl_p (fun _ => o_faddr (s := 27) (i := 1) (off := 1) Try.underlying27 rfl Try.sizeOf25 rfl rfl rfl) ?_
    refine wl_r (o_loadbg Try.isAgg25 rfl f2 (by rfl)) ?_
    refine wl_p (fun _ => o_move rfl) ?_
    refine wl_p (fun _ => (o_iaddrA (j) Try.underlying25 Try.sizeOf38 rfl rfl rfl (hL.some_ (by omega)) (by omega))) ?_
    refine wl_ldEnv rfl hL hw (by omega) ?_
    rintro A124 c124 f24 i24 i24_1 e24 e24_1
    refine wl_s (fun _ hk => (o_loadag Try.isAgg27 Try.sizeOf27 rfl (f.k hk (ap_some (by omega))) (by rfl))) ?_
    refine wl_call rfl (C_clone _ (f24.u hw) rfl (by omega)) ?_ (hq := .inr fun _ _ h => grown_of_below h.choose_spec.choose_spec.2.2 _)
    rintro v25 w25 ⟨A25, ⟨c25, ⟨rfl, ⟨f25, b25⟩⟩⟩⟩
    simp only [drew_size] at f25
    simp only [drew_size] at b25
    have qf25 := f25.cap
    have s25 := b25.size
    simp only [drew_size] at s25
    replace hw := hw.trans (b25.mono hw.size)
    replace f := f.u b25
    replace f12 := f12.u b25
    replace f4 := f4.u b25
    replace f2 := f2.u b25
    replace f5 := f5.u b25
    refine wl_storega Try.sizeOf38 rfl rfl (by rfl) (oneCell_of (by rfl)) f4 (by rfl) ?_ (hq := .inr rfl)
    rintro w_2 f_1 g_1 e_1
    have s_1 := g_1.size
    replace hw := hw.trans (below_of_grownBy g_1.g hw.size (by omega))
    replace f5 := f5.k g_1.g (ap_some (by omega))
    replace f2 := f2.k g_1.g (ap_some (by omega))
    replace f12 := f12.q g_1 (ap_some (by omega)) (by decide)
    replace f := f.k g_1.g (ap_some (by omega))
    replace f25 := f25.k g_1.g (ap_some (by omega))
    clear f4
    refine wl_storega Try.sizeOf27 rfl rfl (by rfl) (oneCell_of (by rfl)) f5 (by rfl) ?_
    rintro w_3 f_2 g_2 e_2
    have s_2 := g_2.size
    replace hw := hw.trans (below_of_grownBy g_2.g hw.size (by omega))
    replace f25 := f25.k g_2.g (ap_some (by omega))
    replace f := f.k g_2.g (ap_some (by omega))
    replace f12 := f12.y g_2 (by decide)
    replace f2 := f2.k g_2.g (ap_some (by omega))
    replace f_1 := f_1.k g_2.g (ap_some (by omega))
    clear f5
    refine wl_p (fun _ => o_assign rfl) ?_
    refine wl_nild ?_
    refine ret_any rfl (.cell rfl Try.isAgg38 Try.sizeOf38 (by assumption) rfl <| .cell rfl Try.isAgg27 Try.sizeOf27 (by assumption) rfl <| .tmp rfl <| .nil) (by simp) ?_
    obtain ⟨rfl, rfl⟩ := h0 hr0
    exact ⟨L[j], _, _, _, _, _, _, by rw [hr0], f12.mono (by omega) |>.base (by omega) (by omega), f25.base (by omega) (by omega), fun _ => ⟨rfl, rfl, hjl, rfl⟩, fun h => absurd hr0 h, hw⟩
end Go.Proofs.Ytaldpegegekbjaa
