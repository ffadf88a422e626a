/-
  Walks of package record: all records.
-/
import Derived.Test.YtpjedpmbninfcaaRecH
import Derived.Test.YtpjedpmbninfcaaRs
namespace Go.Proofs.Ytpjedpmbninfcaa
open Go.RowKit
/-- Records that are read; records of the call's own. -/
def RRec (w : World) (A : Option Addr) (L : List Rc) : Prop := RSl gRec w A L
def RRecT (w : World) (A : Option Addr) (L : List Rc) : Prop := RSlT gRec 31 w A L
def OwnRec (w : World) (lo hi : Nat) (A : Option Addr) (c : Nat) (L : List Rc) : Prop := OwnS gRec 31 w lo hi A c L
theorem gRec_one (w : World) (cs : List Value) (r : Rc) (h : gRec.T w cs r) : ∀ u ∈ cs, u.oneCell' = true := by
  obtain ⟨A, c, rfl, _⟩ := gRec_R (gRec.tr h)
  intro u hu
  simp only [List.mem_cons, List.not_mem_nil, or_false] at hu
  rcases hu with rfl | rfl <;> rfl
theorem gRec_mk {w : World} {k : UInt8} {p : By} {A : Option Addr} {c : Nat} (h : RdT w A p) (h1 : p.length ≤ c) (h2 : c ≤ maxLen) : gRec.T w [.int .u8 (k.toNat : Int), .slice A p.length c] (k, p) := by
  have hk := k.toNat_lt
  refine ⟨((k.toNat : Int), p), by simp, [_], _, rfl, ⟨rfl, ?_⟩, A, c, rfl, h, h1, h2⟩
  simp only [Lit.wf, Bool.and_eq_true, decide_eq_true_eq]
  exact ⟨by show (0 : Int) ≤ _; omega, by show _ ≤ (255 : Int); omega⟩
section
variable {w w' : World} {lo hi c : Nat} {A : Option Addr} {L : List Rc}
theorem RRec.u (h : RRec w A L) (hb : Below w.heap.size w w') : RRec w' A L := RSl.u h hb
theorem RRec.d (h : RRec w A L) : RRec w.drew A L := RSl.u h (below_drew w)
theorem RRec.some_ (h : RRec w A L) (hl : 0 < L.length) : A = some (A.getD ⟨0, 0, none⟩) := RSl.some_ h (show 0 < 2 by decide) hl
theorem RRec.nil_ : RRec w none [] := RSl.nil _ _ _
theorem RRec.elem (h : RRec w A L) {i : Nat} (hi : i < L.length) : ∃ A1 c1, CellsAt w A (i * 2) [.int .u8 (L[i].1.toNat : Int), .slice A1 L[i].2.length c1] ∧ Rd w A1 L[i].2 ∧ L[i].2.length ≤ c1 ∧ c1 ≤ maxLen := by
  obtain ⟨cs, h1, h2⟩ := RSl.elem h (show 0 < 2 by decide) hi
  obtain ⟨A1, c1, rfl, h3, h4, h5⟩ := gRec_R h2
  exact ⟨A1, c1, h1, h3, h4, h5⟩
theorem RRecT.u (h : RRecT w A L) (hb : Below w.heap.size w w') : RRecT w' A L := RSlT.u h hb
theorem RRecT.d (h : RRecT w A L) : RRecT w.drew A L := RSlT.d h
theorem RRecT.nil_ : RRecT w none [] := RSlT.nil_
theorem RRecT.to_RRec (h : RRecT w A L) : RRec w A L := RSlT.to_RSl h
theorem OwnRec.u (h : OwnRec w lo hi A c L) (hb : Below w.heap.size w w') : OwnRec w' lo hi A c L := OwnS.u h hb
theorem OwnRec.d (h : OwnRec w lo hi A c L) : OwnRec w.drew lo hi A c L := OwnS.d h
theorem OwnRec.y {e' : TypeId} {row : Option Nat} (h : OwnRec w lo hi A c L) (hg : Grew w w' e' row) (hne : e' ∉ [31, 5]) : OwnRec w' lo hi A c L := OwnS.y h hg hne
theorem OwnRec.q {e' : TypeId} {row : Option Nat} (h : OwnRec w lo hi A c L) (hg : Grew w w' e' row) (ha : Ap row lo hi) (hne : e' ∉ [5]) : OwnRec w' lo hi A c L := OwnS.q h hg ha hne
theorem OwnRec.ap {lo' hi' : Nat} (h : OwnRec w lo hi A c L) (hd : hi ≤ lo' ∨ hi' ≤ lo) : Ap (blk A) lo' hi' := OwnS.ap h hd
theorem OwnRec.cap (h : OwnRec w lo hi A c L) : L.length ≤ c := OwnS.cap h
theorem OwnRec.nil_ : OwnRec w lo hi none 0 [] := OwnS.nil_
theorem OwnRec.base {lo' hi' : Nat} (h : OwnRec w lo hi A c L) (h1 : lo' ≤ lo) (h2 : hi ≤ hi') : OwnRec w lo' hi' A c L := OwnS.base h h1 h2
theorem OwnRec.to_RRecT (h : OwnRec w lo hi A c L) : RRecT w A L := OwnS.to_RSlT h
theorem OwnRec.to_RRec (h : OwnRec w lo hi A c L) : RRec w A L := OwnS.to_RSl h
theorem OwnRec.some_ (h : OwnRec w lo hi A c L) (hl : 0 < L.length) : A = some (A.getD ⟨0, 0, none⟩) := h.to_RRec.some_ hl
end
theorem Try.rowRec : RowT Try.prog 42 31 (.agg #[.int .u8 0, .slice none 0 0]) 2 32 := ⟨Try.underlying42, by kernel_rfl, rfl, by omega⟩
section
variable {fn : Func} {F : Ending → World → Prop} {N : Nat} {ks : List K} {ops : Array Oper} {tg : Tags} {l : List Oper} {fr : Fr} {w : World} {ty : TypeId} {pos : String} {aft : Array Edge} {gd : Option (Nat × Bool)} {d n j q c lo hi : Nat} {x y : Operand} {A B : Option Addr} {L M : List Rc}
--@ rule buildSlice l wl_litRec1
theorem wl_litRec1 {ps : Array (Nat × Operand)} {xs : List Operand} {A1 : Option Addr} {n1 c1 : Nat} {k1 : UInt8} {p1 : By} (hxs : ps.toList.map Prod.snd = xs) (hx : fr.evs xs = some [.agg #[.int .u8 (k1.toNat : Int), .slice A1 n1 c1]]) (h1 : RdT w A1 p1) (hn1 : n1 = p1.length) (hc1 : p1.length ≤ c1) (hm1 : c1 ≤ maxLen) (hps : ps = ((List.range' 0 1).zip xs).toArray)
    (hk : ∀ A w', OwnRec w' w.heap.size w'.heap.size A 1 [(k1, p1)] → Below w.heap.size w w' → WL Try.prog fn F N ks ops tg.tail l ((d, .slice A 1 1) :: fr) w')
    (ht : tg.loud = true := by rfl) (hg : onG ops fr gd = true := by rfl) (hd : Nat.blt d N = true := by rfl) : WL Try.prog fn F N ks ops tg (⟨some d, .buildSlice 42 1 ps, ty, pos, aft, gd⟩ :: l) fr w := by
  subst hn1
  refine wl_litS (X := gRec) (L := [(k1, p1)]) Try.rowRec Try.sizeOf31 Try.zeroValue31 hxs hps hx rfl rfl (fun i h => ?_) rfl hk ht hg hd
  obtain rfl : i = 0 := by simp at h; omega
  exact ⟨_, rfl, rfl, gRec_mk h1 hc1 hm1⟩
--@ rule append l wl_appRec
theorem wl_appRec (hx : fr.ev x = some (.slice A n c)) (hown : OwnRec w lo hi A c L) (hn : n = L.length) (hy : fr.ev y = some (.slice B j q)) (hr : RRecT w B M) (hj : j = M.length) (hlen : L.length + M.length ≤ 1000000) (hB : lo ≤ w.heap.size)
    (h : ∀ A' c' w', OwnRec w' lo w'.heap.size A' c' (L ++ M) → Grew w w' 31 (blk A) → Below lo w w' → WL Try.prog fn F N ks ops tg.tail l ((d, .slice A' (L ++ M).length c') :: fr) w')
    (ht : tg.loud = true := by rfl) (hg : onG ops fr gd = true := by rfl) (hd : Nat.blt d N = true := by rfl) (hq : tg.calm = false ∨ blk A = none ∨ blk A = tg.row := by exact .inl rfl) :
    WL Try.prog fn F N ks ops tg (⟨some d, .call { callee := .builtin .append, args := #[x, y], argTypes := #[42, 42] }, ty, pos, aft, gd⟩ :: l) fr w :=
  wl_appS (X := gRec) Try.rowRec hx hown hn hy hr hj (by simp [gRec, GoT.map, GoT.pair, gInt, GoT.flat, gBytes]) gRec_one (by have := Nat.mul_le_mul_right 32 hlen; omega) (by omega) hB (fun A' c' w' h1 h2 h3 _ => h A' c' w' h1 h2 h3) ht hg hd hq
end
theorem C_each {c : By} {A : Option Addr} {n cap : Nat} (w : World) (hc : c.length = 32) :
    CallsR Try.prog 28 [.agg (B8 c).toArray, .slice A n cap] w fun v w' => ∃ g h, v = .func (.func 42) #[] #[.pointer (some ⟨g, 0, none⟩), .pointer (some ⟨h, 0, none⟩)] ∧ Blk w' g 23 (B8 c) ∧ Blk w' h 26 [.slice A n cap] ∧ h ≠ g ∧ w.heap.size ≤ g ∧ g < w'.heap.size ∧ g < h ∧ h < w'.heap.size ∧ Below w.heap.size w w' := by
  refine callsR Try.func28 rfl rfl (by kernel_rfl) rfl ?_
  have hw := Below.refl w.heap.size w
  refine rk_seq ?_
  refine rk_region ?_
  refine wl_boxg _ rfl (by rfl) ?_
  rintro g2 w2 f2 b2 i2 i2_1
  have s2 := b2.size
  replace hw := hw.trans (b2.mono hw.size)
  refine wl_boxg [_] rfl (by rfl) ?_
  rintro g3 w3 f3 b3 i3 i3_1
  have s3 := b3.size
  replace hw := hw.trans (b3.mono hw.size)
  replace f2 := f2.u b3
  refine wl_p (fun _ => o_assign rfl) ?_
  refine wl_nil ?_
  refine rk_seq ?_
  refine rk_region ?_
  refine wl_p (fun _ => o_makeFunc (xs := [.tmp 2, .tmp 3]) rfl) ?_
  refine wl_p (fun _ => o_assign rfl) ?_
  refine wl_nil ?_
  refine ret1 rfl rfl ?_
  exact ⟨_, _, rfl, f2, f3, by omega, by omega, by omega, by omega, by omega, hw⟩
theorem res_any {P : Program} {fn : Func} {N : Nat} {a : Act} {fr : Fr} {w : World} {rs : List ResultVar} {vs : List Value} (h : fn.results = rs.toArray) (ha : Rep N a fr) (hr : Res P fr w rs vs) (hn : vs.length ≠ 1) : (results fn a.tmps).run P w = .ok (.tuple vs.toArray) w := by
  have hrun := hr.run ha
  have h2 : (rs.toArray.mapM (resOf a)).run P w = .ok vs.toArray w := by
    rw [List.mapM_toArray, Sem.run_map, hrun]; rfl
  have e : results fn a.tmps = (do
      let vs ← rs.toArray.mapM (resOf a)
      pure (if h : vs.size = 1 then vs[0] else .tuple vs)) := by rw [← h]; rfl
  rw [e]
  simp only [Sem.run_bind, h2, Result.andThen_ok, Sem.run_pure]
  simp [hn]
theorem cMark_one (n : Int) (c : By) : ∀ v ∈ cMark n c, v.oneCell' = true := fun v hv => by
  rcases List.mem_cons.1 hv with rfl | hv
  · rfl
  · exact B8_oneCell c v hv
--@ side (cMark_one _ _)
--@ side (cMark_len (by assumption))
/-- Where All stands between the rounds. -/
structure AllI (w w1 : World) (g6 g7 g8 : Nat) (c : By) (pre : List Ev) (A' : Option Addr) (c' hiR : Nat) (W : World) : Prop where
  own : OwnRec W w1.heap.size hiR A' c' (pre.map Prod.fst)
  f7 : Blk W g7 42 [.slice A' pre.length c']
  f8 : Blk W g8 59 (cMark (lastE c pre).1 (lastE c pre).2)
  f6 : Blk W g6 23 (B8 nul32)
  last : (lastE c pre).2.length = 32
  hi : hiR ≤ W.heap.size
  lo : w1.heap.size ≤ hiR
  bel : Below w.heap.size w W
theorem ownRec_noncell {B lo hi c : Nat} {W W' : World} {A : Option Addr} {l : List Rc} {row : Option Nat} (h : OwnRec W lo hi A c l) (hg : W.grownBy W' row) (hr : ∀ r, row = some r → B ≤ r ∧ ∃ o : Obj, W.heap[r]? = some o ∧ o.isCells = false) : OwnRec W' lo hi A c l := by
  obtain ⟨xs, h1, h2⟩ := h
  refine ⟨xs, ⟨World.ownsRow.kept h1.o hg ?_, h1.hi⟩, fun i hi => ?_⟩
  · rw [blk_own]
    cases hA : blk A with
    | none => exact .inl rfl
    | some k =>
      refine .inr (fun ek => ?_)
      obtain ⟨_, o, ho, hc⟩ := hr k ek.symm
      obtain ⟨cs, f, hcs⟩ := RowH.ty h1 k hA
      rw [hcs] at ho
      injection ho with ho
      subst ho; cases hc
  · obtain ⟨a, e, c1, c2, e2, h3, A1, n1, e3, h4, h5, h6⟩ := h2 i hi
    exact ⟨a, e, c1, c2, e2, h3, A1, n1, e3, rdT_noncell h4 hg hr, h5, h6⟩
theorem AllI.non {w w1 W W' : World} {g6 g7 g8 c' hiR B : Nat} {c : By} {pre : List Ev} {A' : Option Addr} {row : Option Nat} (h : AllI w w1 g6 g7 g8 c pre A' c' hiR W) (hB : w.heap.size ≤ B) (hg : W.grownBy W' row) (hr : ∀ r, row = some r → B ≤ r ∧ ∃ o : Obj, W.heap[r]? = some o ∧ o.isCells = false) : AllI w w1 g6 g7 g8 c pre A' c' hiR W' :=
  ⟨ownRec_noncell h.own hg hr, blk_noncell h.f7 hg hr, blk_noncell h.f8 hg hr, blk_noncell h.f6 hg hr, h.last, Nat.le_trans h.hi hg.size, h.lo, h.bel.grown hg h.bel.size (fun k e => by have := (hr k e).1; omega)⟩
set_option maxHeartbeats 1000000 in
theorem C_AllR {A : Option Addr} {b c : By} {n cap : Nat} (w : World) (hb : Rd w A b) (hn : n = b.length) (hcap : b.length ≤ cap) (hc : c.length = 32) (hl : b.length ≤ 400000) :
    CallsR Try.prog 19 [.agg (B8 c).toArray, .slice A n cap] w fun v w' => ∃ (L : List Rc) (A' : Option Addr) (c' : Nat), v = .tuple #[.slice A' L.length c', .int .i64 ((bytesAll c L).length : Int), .agg (B8 (chainAll c L)).toArray] ∧ AllP c b L ∧ OwnRec w' w.heap.size w'.heap.size A' c' L ∧ Below w.heap.size w w' := by
  subst hn
  refine ⟨⟨_, Try.func19, rfl, by kernel_rfl⟩, ?_⟩
  refine (callsIn_wide (n := 3)).1 (callsIn_of_wp_marks Try.func19 rfl trivial ?_)
  refine seq5_of_rk (fn := Try.f19) (I := fun a w' => ∃ g6 g7 g8 g h, Rep Try.f19.ntmps a [(15, .func (.func 42) #[] #[.pointer (some ⟨g, 0, none⟩), .pointer (some ⟨h, 0, none⟩)]), (8, .pointer (some ⟨g8, 0, none⟩)), (7, .pointer (some ⟨g7, 0, none⟩)), (6, .pointer (some ⟨g6, 0, none⟩))] ∧ Blk w' g 23 (B8 c) ∧ Blk w' h 26 [.slice A b.length cap] ∧ Blk w' g6 23 (B8 nul32) ∧ Blk w' g7 42 [.slice none 0 0] ∧ Blk w' g8 59 (cMark 0 c) ∧ h ≠ g ∧ w.heap.size ≤ g6 ∧ w.heap.size ≤ g7 ∧ w.heap.size ≤ g8 ∧ g6 < g ∧ g7 < g ∧ g8 < g ∧ g6 < g7 ∧ g7 < g8 ∧ h < w'.heap.size ∧ g < h ∧ Below w.heap.size w w') ?_ (entry_rep rfl) ?_
  · have hw := Below.refl w.heap.size w
    refine rk_region ?_
    refine wl_boxg _ rfl (by rfl) ?_
    rintro g2 w2 f2 b2 i2 i2_1
    have s2 := b2.size
    replace hw := hw.trans (b2.mono hw.size)
    refine wl_p (fun _ => o_assign rfl) ?_
    refine wl_p (fun _ => o_assign rfl) ?_
    refine wl_allocB Try.underlying23 Try.zeroValue23 (by rfl) ?_
    rintro g6 w6 f6 b6 i6 i6_1
    have s6 := b6.size
    replace hw := hw.trans (b6.mono hw.size)
    replace f2 := f2.u b6
    refine wl_nil ?_
    refine rk_region ?_
    refine wl_allocg [_] Try.zeroValue42 (by rfl) ?_
    rintro g7 w7 f7 b7 i7 i7_1
    have s7 := b7.size
    replace hw := hw.trans (b7.mono hw.size)
    replace f2 := f2.u b7
    replace f6 := f6.u b7
    refine wl_nil ?_
    refine rk_region ?_
    refine wl_r (o_ldBa Try.isAgg23 Try.sizeOf23 rfl f2 hc) ?_
    refine wl_p (fun _ => (o_buildMark rfl rfl hc)) ?_
    refine wl_allocg [_, _, _, _, _, _, _, _, _, _, _, _, _, _, _, _, _, _, _, _, _, _, _, _, _, _, _, _, _, _, _, _, _] Try.zeroValue59 (by rfl) ?_
    rintro g8 w8 f8 b8 i8 i8_1
    have s8 := b8.size
    replace hw := hw.trans (b8.mono hw.size)
    replace f6 := f6.u b8
    replace f2 := f2.u b8
    replace f7 := f7.u b8
    refine wl_storega Try.sizeOf59 rfl rfl (cMark_len (by assumption)) (cMark_one _ _) f8 (by rfl) ?_
    rintro w_1 f g e
    have s := g.size
    replace hw := hw.trans (below_of_grownBy g.g hw.size (by omega))
    replace f7 := f7.k g.g (ap_some (by omega))
    replace f2 := f2.k g.g (ap_some (by omega))
    replace f6 := f6.k g.g (ap_some (by omega))
    clear f8
    refine wl_nil ?_
    refine rk_region ?_
    refine wl_r (o_ldBa Try.isAgg23 Try.sizeOf23 rfl f2 hc) ?_
    refine wl_p (fun _ => o_move rfl) ?_
    refine wl_call rfl (C_each _ hc) ?_
    rintro v15 w15 ⟨g15, ⟨h15, ⟨rfl, ⟨f15, ⟨f15_1, ⟨i15, ⟨i15_1, ⟨i15_2, ⟨i15_3, ⟨i15_4, b15⟩⟩⟩⟩⟩⟩⟩⟩⟩⟩
    have s15 := b15.size
    replace hw := hw.trans (b15.mono hw.size)
    replace f6 := f6.u b15
    replace f2 := f2.u b15
    replace f7 := f7.u b15
    replace f := f.u b15
    refine wl_nil ?_
    refine rk_inv fun a ha => ?_
    exact ⟨g6, g7, g8, g15, h15, ha.le (Fr.le_of_sub (by repeat' constructor)), f15, f15_1, f6, f7, f, by assumption, by omega, by omega, by omega, by omega, by omega, by omega, by omega, by omega, by omega, by omega, hw⟩
  · rintro a1 w1 ⟨g6, g7, g8, g, h, ha, fg, fh, f6, f7, f8, hne, n6, n7, n8, m6, m7, m8, p67, p78, hhlt, hgh, hw⟩
    have hsw := hw.size
    have hglt := fg.lt
    have hAb : ∀ k, b ≠ [] → blk A = some k → k < w.heap.size := fun k hbne hk => by
      obtain ⟨b0, o, rfl, hcl⟩ := hb.2 (fun e => hbne (by cases b with | nil => rfl | cons x y => cases e))
      have hk' : b0 = k := by simpa [blk] using hk
      subst hk'
      cases b with
      | nil => exact absurd rfl hbne
      | cons x y => exact block_lt_of_cell (hcl 0 _ rfl)
    refine wpIn_block ?_
    refine wpIn_rangeC (α := Ev) (by decide) (gf := 42) (lb := #[.pointer (some ⟨g, 0, none⟩), .pointer (some ⟨h, 0, none⟩)]) (ha.ev rfl) (enters_of Try.func42 (by kernel_rfl) rfl)
      (each_seq w1 fg fh (hb.u hw) hcap hc hl hne (X := fun k => k = g7 ∨ k = g8) (by omega) (by intro e; rcases e with e | e <;> omega) (fun k h1 h2 => by have := hAb k h1 h2; omega)) (Below.refl _ _)
      (fun h k => h.trans k) (fun W l o hl => ⟨rfl, rfl, rfl, by simp, fun k hk _ => World.putObj_heap_other (by omega)⟩) (fun A B h => keeps_grew h) (fun _ => rfl)
      (fun pre W => ∃ A' c' hiR, AllI w w1 g6 g7 g8 c pre A' c' hiR W) ?cI ?cC ?cY ?c0 (fun pre x a' W => ∃ g9 g10 A' c' hiR, Rep Try.f19.ntmps a' [(10, .pointer (some ⟨g10, 0, none⟩)), (9, .pointer (some ⟨g9, 0, none⟩)), (8, .pointer (some ⟨g8, 0, none⟩)), (7, .pointer (some ⟨g7, 0, none⟩))] ∧ Blk W g9 31 [.int .u8 (x.1.1.toNat : Int), .slice x.2.1.1 x.1.2.length x.2.1.2] ∧ Blk W g10 59 (cMark x.2.2.1 x.2.2.2) ∧ AllI w w1 g6 g7 g8 c pre A' c' hiR W ∧ ydE pre x W ∧ hiR ≤ g9 ∧ hiR ≤ g10) ?cA ?assign ?body ?done
    case cI => exact fun pre W W' row ⟨A', c', hiR, h⟩ hg hr => ⟨A', c', hiR, h.non hsw hg hr⟩
    case cC =>
      rintro pre W W' ⟨A', c', hiR, h⟩ hG
      have h1 := h.lo
      have h2 := hG.size
      have h3 := h.hi
      exact ⟨A', c', hiR, ⟨h.own.q hG (ap_some (by omega)) (by decide), h.f7.y hG (by decide), h.f8.y hG (by decide), h.f6.k hG.g (ap_some (by omega)), h.last, by omega, h.lo, h.bel.grown hG.g h.bel.size (fun k e => by injection e with e; omega)⟩⟩
    case cY => exact fun pre x W W' row h hg hr => ⟨rdT_noncell h.1 hg hr, h.2⟩
    case c0 => exact ⟨none, 0, w1.heap.size, ⟨OwnRec.nil_, f7, f8, f6, hc, Nat.le_refl _, Nat.le_refl _, hw⟩⟩
    case cA =>
      rintro pre x a' s W W' row ⟨g9, g10, A', c', hiR, h1, h2, h3, h4, h5, h6, h7⟩ hg hr
      exact ⟨g9, g10, A', c', hiR, h1, blk_noncell h2 hg hr, blk_noncell h3 hg hr, h4.non hsw hg hr, ⟨rdT_noncell h5.1 hg hr, h5.2⟩, h6, h7⟩
    case assign =>
      rintro l pre x W hl ⟨A', c', hiR, hI⟩ hy
      have hi1 := hI.hi
      have hi2 := hI.lo
      have hmk : (cMark x.2.2.1 x.2.2.2).length = 33 := cMark_len hy.2.2.2.1
      have e : ({ tmps := (#[16, 17].zip (encE x)).foldl (fun t (p, v) => t.setIfInBounds p v) a1.tmps, defers := [] } : Act) = (a1.put (some 16) (.agg #[.int .u8 (x.1.1.toNat : Int), .slice x.2.1.1 x.1.2.length x.2.1.2])).put (some 17) (.agg (cMark x.2.2.1 x.2.2.2).toArray) := by
        simp [encE, Act.put, ha.defers]
      rw [e]
      have hrep : Rep Try.f19.ntmps ((a1.put (some 16) (.agg #[.int .u8 (x.1.1.toNat : Int), .slice x.2.1.1 x.1.2.length x.2.1.2])).put (some 17) (.agg (cMark x.2.2.1 x.2.2.2).toArray)) [(17, .agg (cMark x.2.2.1 x.2.2.2).toArray), (16, .agg #[.int .u8 (x.1.1.toNat : Int), .slice x.2.1.1 x.1.2.length x.2.1.2]), (8, .pointer (some ⟨g8, 0, none⟩)), (7, .pointer (some ⟨g7, 0, none⟩))] :=
        ((ha.put (d := 16) rfl _).put (d := 17) rfl _).le (Fr.le_of_sub (by repeat' constructor))
      refine wpIn_mono ((in_seq (I1 := fun a' W' => ∃ g9, Rep Try.f19.ntmps a' [(9, .pointer (some ⟨g9, 0, none⟩)), (17, .agg (cMark x.2.2.1 x.2.2.2).toArray), (8, .pointer (some ⟨g8, 0, none⟩)), (7, .pointer (some ⟨g7, 0, none⟩))] ∧ Blk W' g9 31 [.int .u8 (x.1.1.toNat : Int), .slice x.2.1.1 x.1.2.length x.2.1.2] ∧ W.heap.size ≤ g9 ∧ Below W.heap.size W W') (in_plain ?_) ?_ : RIn Try.prog Try.f19 Try.f19.ntmps (fun a' W' => ∃ g9 g10, Rep Try.f19.ntmps a' [(10, .pointer (some ⟨g10, 0, none⟩)), (9, .pointer (some ⟨g9, 0, none⟩)), (8, .pointer (some ⟨g8, 0, none⟩)), (7, .pointer (some ⟨g7, 0, none⟩))] ∧ Blk W' g9 31 [.int .u8 (x.1.1.toNat : Int), .slice x.2.1.1 x.1.2.length x.2.1.2] ∧ Blk W' g10 59 (cMark x.2.2.1 x.2.2.2) ∧ W.heap.size ≤ g9 ∧ W.heap.size ≤ g10 ∧ Below W.heap.size W W') l 1 _ _ W) _ hrep) (fun e a w he => ?_)
      · have hw := Below.refl W.heap.size W
        refine wl_allocg [_, _] Try.zeroValue31 (by rfl) ?_
        rintro g9 w9 f9 b9 i9 i9_1
        have s9 := b9.size
        replace hw := hw.trans (b9.mono hw.size)
        refine wl_storega Try.sizeOf31 rfl rfl (by rfl) (oneCell_of (by rfl)) f9 (by rfl) ?_
        rintro w_1 f g_1 e_1
        have s := g_1.size
        replace hw := hw.trans (below_of_grownBy g_1.g hw.size (by omega))
        clear f9
        refine wl_nil ?_
        refine rk_inv fun a ha => ?_
        exact ⟨g9, ha.le (Fr.le_of_sub (by repeat' constructor)), f, by omega, hw⟩
      · rintro a2 W2 ⟨g9, ha2, f9, hg9, hw⟩
        refine (in_plain ?_ : RIn _ _ _ _ _ _ _ _ _) a2 ha2
        have hws := hw.size
        refine wl_allocg [_, _, _, _, _, _, _, _, _, _, _, _, _, _, _, _, _, _, _, _, _, _, _, _, _, _, _, _, _, _, _, _, _] Try.zeroValue59 (by rfl) ?_
        rintro g10 w10 f10 b10 i10 i10_1
        have s10 := b10.size
        replace hw := hw.trans (b10.mono hw.size)
        replace f9 := f9.u b10
        refine wl_storega Try.sizeOf59 rfl rfl hmk (cMark_one _ _) f10 (by rfl) ?_
        rintro w_1 f g_1 e_1
        have s := g_1.size
        replace hw := hw.trans (below_of_grownBy g_1.g hw.size (by omega))
        replace f9 := f9.y g_1 (by decide)
        clear f10
        refine wl_nil ?_
        refine rk_inv fun a ha => ?_
        exact ⟨g9, g10, ha.le (Fr.le_of_sub (by repeat' constructor)), f9, f, by omega, by omega, hw⟩
      · obtain ⟨rfl, g9, g10, h1, h2, h3, h4, h5, hb2⟩ := kpost_inv he
        have hsb := hb2.size
        exact ⟨keeps_below hb2, KeepX.of (hb2.mono (by omega)), g9, g10, A', c', hiR, h1, h2, h3, ⟨hI.own.u hb2, hI.f7.u hb2, hI.f8.u hb2, hI.f6.u hb2, hI.last, by omega, hI.lo, hI.bel.trans (hb2.mono hI.bel.size)⟩, ⟨hy.1.u hb2, hy.2⟩, by omega, by omega⟩
    case body =>
      rintro l pre x a' W hl ⟨g9, g10, A', c', hiR, hrep, f9, f10, hI, hy, h9, h10⟩
      obtain ⟨⟨k, p⟩, ⟨Ax, cx⟩, nx, chx⟩ := x
      obtain ⟨hy1, hy2, hy3, hy4, hy5⟩ := hy
      simp only at f9 f10 hy1 hy2 hy3 hy4
      have hmk : (cMark nx chx).length = 33 := cMark_len hy4
      have hmk0 : (cMark (lastE c pre).1 (lastE c pre).2).length = 33 := cMark_len hI.last
      refine wpIn_block (wpIn_mono ((in_seq (I1 := fun a' W' => ∃ A2 c2, Rep Try.f19.ntmps a' [(10, .pointer (some ⟨g10, 0, none⟩)), (8, .pointer (some ⟨g8, 0, none⟩))] ∧ OwnRec W' w1.heap.size W'.heap.size A2 c2 ((pre.map Prod.fst) ++ [(k, p)]) ∧ Blk W' g7 42 [.slice A2 ((pre.map Prod.fst) ++ [(k, p)]).length c2] ∧ Blk W' g8 59 (cMark (lastE c pre).1 (lastE c pre).2) ∧ Blk W' g10 59 (cMark nx chx) ∧ Blk W' g6 23 (B8 nul32) ∧ Below w.heap.size w W' ∧ KeepsOthers W W' ∧ KeepX w1.heap.size (fun k => k = g7 ∨ k = g8) W W') (in_plain ?_) ?_ : RIn Try.prog Try.f19 Try.f19.ntmps (fun a' W' => ∃ A2 c2, OwnRec W' w1.heap.size W'.heap.size A2 c2 ((pre.map Prod.fst) ++ [(k, p)]) ∧ Blk W' g7 42 [.slice A2 ((pre.map Prod.fst) ++ [(k, p)]).length c2] ∧ Blk W' g8 59 (cMark nx chx) ∧ Blk W' g6 23 (B8 nul32) ∧ Below w.heap.size w W' ∧ KeepsOthers W W' ∧ KeepX w1.heap.size (fun k => k = g7 ∨ k = g8) W W') l 1 _ _ W) _ hrep) (fun e a w he => ?_))
      · have fo := hI.own
        have f7 := hI.f7
        have f8 := hI.f8
        have f6 := hI.f6
        have hi1 := hI.hi
        have hi2 := hI.lo
        have hw := hI.bel
        have hm1 : (pre.map Prod.fst).length = pre.length := List.length_map ..
        rw [← hm1] at f7 hy5
        have hlt : ∀ k, blk A' = some k → w1.heap.size ≤ k := fun k hk => by
          obtain ⟨xs, r1, _⟩ := fo
          exact (RowH.lt r1 k hk).1
        clear hI fg fh ha hb
        refine wl_r (o_loadbg Try.isAgg42 rfl f7 (by rfl)) ?_
        refine wl_r (o_loadag Try.isAgg31 Try.sizeOf31 rfl f9 (by rfl)) ?_
        refine wl_litRec1 (by rfl) rfl hy1 rfl (by omega) (by omega) (by rfl) ?_
        rintro A20 w20 f20 b20
        have qf20 := f20.cap
        have s20 := b20.size
        replace hw := hw.trans (b20.mono hw.size)
        replace f6 := f6.u b20
        replace f8 := f8.u b20
        replace f7 := f7.u b20
        replace fo := fo.u b20
        replace hy1 := hy1.u b20
        replace f10 := f10.u b20
        replace f9 := f9.u b20
        refine wl_appRec rfl fo rfl rfl f20.to_RRecT (by rfl) (by omega) (by omega) ?_
        rintro A21 c21 w21 f21 g21 b21
        have qf21 := f21.cap
        have s21 := g21.size
        replace hw := hw.trans (b21.mono (by omega))
        replace f9 := f9.k g21.g (fo.ap (by omega))
        replace f10 := f10.y g21 (by decide)
        replace hy1 := hy1.y g21 (by decide)
        replace f7 := f7.y g21 (by decide)
        replace f8 := f8.y g21 (by decide)
        replace f6 := f6.y g21 (by decide)
        replace f20 := f20.q g21 (fo.ap (by omega)) (by decide)
        clear fo
        refine wl_storeg1 Try.sizeOf42 rfl rfl (by rfl) f7 (by simp) ?_
        rintro w_1 f g_1 e
        have s := g_1.size
        replace hw := hw.trans (below_of_grownBy g_1.g hw.size (by omega))
        replace f20 := f20.y g_1 (by decide)
        replace f6 := f6.k g_1.g (ap_some (by omega))
        replace f8 := f8.k g_1.g (ap_some (by omega))
        replace hy1 := hy1.y g_1 (by decide)
        replace f10 := f10.k g_1.g (ap_some (by omega))
        replace f9 := f9.k g_1.g (ap_some (by omega))
        replace f21 := f21.y g_1 (by decide)
        clear f7
        refine wl_nil ?_
        have q1 : Below W.heap.size W w20 := by assumption
        have q2 : Grew w20 w21 31 (blk A') := by assumption
        have q3 : Grew w21 w_1 42 (some g7) := by assumption
        have s1 := q1.size
        have s2 := q2.size
        have s3 := q3.size
        refine rk_inv fun a ha => ?_
        exact ⟨A21, c21, ha.le (Fr.le_of_sub (by repeat' constructor)), f21.base (Nat.le_refl _) (by omega), f, f8, f10, f6, hw, (keeps_below q1).trans ((keeps_grew q2).trans (keeps_grew q3)),
          (KeepX.of (q1.mono (by omega))).trans ((KeepX.of (q2.below (by omega) hlt)).trans (KeepX.grown q3.g (by omega) (fun k e => by injection e with e; exact .inl e.symm)))⟩
      · rintro a2 W2 ⟨A2, c2, ha2, f21, f7, f8, f10, f6, hw, hko, hkx⟩
        refine (in_plain ?_ : RIn _ _ _ _ _ _ _ _ _) a2 ha2
        have hi2 := hI.lo
        have hi1 := hI.hi
        have hks := hko.size
        clear hI fg fh ha hb
        refine wl_r (o_loadag Try.isAgg59 Try.sizeOf59 rfl f10 hmk) ?_
        refine wl_storega Try.sizeOf59 rfl rfl hmk (cMark_one _ _) f8 hmk0 ?_
        rintro w_1 f g_1 e
        have s := g_1.size
        replace hw := hw.trans (below_of_grownBy g_1.g hw.size (by omega))
        replace f6 := f6.k g_1.g (ap_some (by omega))
        replace f10 := f10.k g_1.g (ap_some (by omega))
        replace f7 := f7.k g_1.g (ap_some (by omega))
        replace f21 := f21.y g_1 (by decide)
        clear f8
        refine wl_nil ?_
        have q3 : Grew W2 w_1 59 (some g8) := by assumption
        have s3 := q3.size
        refine rk_inv fun a ha => ?_
        exact ⟨A2, c2, f21.base (Nat.le_refl _) (by omega), f7, f, f6, hw, hko.trans (keeps_grew q3), hkx.trans (KeepX.grown q3.g (by omega) (fun k e => by injection e with e; exact .inr e.symm))⟩
      · obtain ⟨rfl, A2, c2, h1, h2, h3, h4, h5, h6, h7⟩ := kpost_inv he
        have hks := h6.size
        have hi2 := hI.lo
        have hi1 := hI.hi
        have e1 : (pre ++ [((k, p), (Ax, cx), (nx, chx))]).map Prod.fst = pre.map Prod.fst ++ [(k, p)] := by simp
        have e2 : (pre ++ [((k, p), (Ax, cx), (nx, chx))]).length = (pre.map Prod.fst ++ [(k, p)]).length := by simp
        exact ⟨rfl, h6, h7, A2, c2, _, ⟨by rw [e1]; exact h1, by rw [e2]; exact h2, by rw [lastE_snoc]; exact h3, h4, by rw [lastE_snoc]; exact hy4, by omega, by omega, h5⟩⟩
    case done =>
      rintro D xs W hD ⟨hAll, hlast⟩ ⟨A', c', hiR, hI⟩ hKD
      obtain ⟨L, hL⟩ : ∃ L, xs.map Prod.fst = L := ⟨_, rfl⟩
      have fo := hI.own
      clear f6 f7 f8
      have f7 := hI.f7
      have f8 := hI.f8
      have f6 := hI.f6
      have hi1 := hI.hi
      have hi2 := hI.lo
      have hw2 := hI.bel
      have hla := hI.last
      rw [hL] at fo hAll hlast
      rw [hlast] at f8 hla
      have hxl : xs.length = L.length := by rw [← hL, List.length_map]
      rw [hxl] at f7
      obtain ⟨nb, hnb⟩ : ∃ nb, (bytesAll c L).length = nb := ⟨_, rfl⟩
      obtain ⟨ch, hch⟩ : ∃ ch, chainAll c L = ch := ⟨_, rfl⟩
      simp only at f8 hla
      rw [hnb, hch] at f8
      rw [hch] at hla
      have hDs : D < W.heap.size := (Array.getElem?_eq_some_iff.1 hKD).1
      show Code.wpIn Fence.wide 3 Try.prog _ _ { a1 with defers := _ :: a1.defers } W
      rw [dd_of ha.defers]
      refine wpIn_seq (wpIn_mono ((?_ : RInD Try.prog Try.f19 Try.f19.ntmps (fun a2 W' => Rep Try.f19.ntmps a2 [(6, .pointer (some ⟨g6, 0, none⟩)), (5, .int .i64 (nb : Int)), (4, .slice A' L.length c')] ∧ Blk W' g6 23 (B8 ch) ∧ OwnRec W' w1.heap.size hiR A' c' L ∧ Below w.heap.size w W' ∧ KeepsOthers W W') _ 3 _ _ W) _ ha) (fun e a' w' he => ?_))
      · clear hI fg fh ha hb hw
        have hw := hw2
        have hmk : (cMark nb ch).length = 33 := cMark_len hla
        refine ind_draw (id := 8) (none) [0, 0, 2, 0, 8, 1, 39, 127] [0, 0, 2, 0, 8, 1, 39, 127] 128 0 [(.r, 0), (.p, 1), (.r, 2), (.p, 3), (.r, 4), (.p, 5), (.p, 6), (.l, 7)] (by kernel_rfl) (by kernel_rfl) (by kernel_rfl) (by kernel_rfl) (by kernel_rfl) ?_
        replace fo := fo.d
        replace f7 := f7.d
        replace f8 := f8.d
        replace f6 := f6.d
        replace hw := hw.drew
        have hcut : ((cMark nb ch).drop (0 + 1)).take 32 = B8 ch := by
          show (B8 ch).take 32 = B8 ch
          rw [List.take_of_length_le (by rw [B8_length, hla]; exact Nat.le_refl _)]
        have hB32 : (B8 ch).length = 32 := by rw [B8_length, hla]
        refine wl_r (o_loadbg Try.isAgg42 rfl f7 (by rfl)) ?_
        refine wl_p (fun _ => o_faddr (s := 59) (i := 0) (off := 0) Try.underlying59 rfl Try.sizeOf3 rfl rfl rfl) ?_
        refine wl_r (o_loadbg Try.isAgg3 rfl f8 (by rfl)) ?_
        refine wl_p (fun _ => o_faddr (s := 59) (i := 1) (off := 1) Try.underlying59 rfl Try.sizeOf23 rfl rfl rfl) ?_
        refine wl_r (o_loadCut Try.isAgg23 Try.sizeOf23 rfl f8 hcut hB32) ?_
        refine wl_p (fun _ => o_assign rfl) ?_
        refine wl_p (fun _ => o_assign rfl) ?_
        refine wl_stBa Try.sizeOf23 rfl f6 rfl hla (by rfl) ?_
        rintro w_1 f g_1 e
        simp only [drew_size] at e
        have s := g_1.size
        simp only [drew_size] at s
        replace hw := hw.trans (below_of_grownBy g_1.g hw.size (by omega))
        replace f8 := f8.k g_1.g (ap_some (by omega))
        replace f7 := f7.k g_1.g (ap_some (by omega))
        replace fo := fo.y g_1 (by decide)
        clear f6
        refine wl_nild ?_
        have q3 : Grew W.drew w_1 23 (some g6) := by assumption
        refine rk_inv fun a ha => ?_
        exact ⟨ha.le (Fr.le_of_sub (by repeat' constructor)), f, fo, hw, (KeepsOthers.drew W).trans (keeps_grew q3)⟩
      · obtain ⟨a2, rfl, rfl, ha2, hB, hO, hb2, hk2⟩ := he
        have hKD2 := hk2.same _ _ hKD rfl
        have hks := hk2.size
        refine wpIn_ret ?_
        show LeavesInM Fence.wide 3 Try.prog _ a2.tmps _ (a2.defers ++ [_]) .returning w'
        rw [ha2.defers]
        refine ⟨by simp, .inl ⟨D, _, rfl, run_takeDeferred hKD2, ?_⟩⟩
        have hg := grownBy_putObj' w' D (.deferred none)
        have hr : ∀ r, (some D : Option Nat) = some r → D ≤ r ∧ ∃ o : Obj, w'.heap[r]? = some o ∧ o.isCells = false := fun r e => by cases e; exact ⟨Nat.le_refl _, _, hKD2, rfl⟩
        have hB2 := blk_noncell hB hg hr
        have hO2 := ownRec_noncell hO hg hr
        have hsz := hg.size
        have hw3 := hb2.grown hg hb2.size (fun k e => by injection e with e; omega)
        have hres := res_any (P := Try.prog) (fn := Try.f19) (rs := [.tmp 4, .tmp 5, .cell 6 23]) rfl ha2 (.tmp rfl (.tmp rfl (.cell rfl Try.isAgg23 Try.sizeOf23 hB2 (by rw [B8_length, hla]) .nil))) (by simp)
        refine ⟨_, hres, _, rfl, L, A', c', ?_, hAll, hO2.base (by omega) (by omega), hw3⟩
        rw [hnb, hch]
end Go.Proofs.Ytpjedpmbninfcaa
