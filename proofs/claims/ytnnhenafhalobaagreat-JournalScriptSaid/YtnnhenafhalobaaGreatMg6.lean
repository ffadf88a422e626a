/-
  Walks of package record: all records.
-/
import Derived.Test.YtnnhenafhalobaaGreatMg5
import Derived.RangeFuncWrites
namespace Go.Proofs.YtnnhenafhalobaaGreat
set_option maxRecDepth 100000
open Go.RowKit
def RRec (w : World) (A : Option Addr) (L : List Rc) : Prop := RSl gRec w A L
def RRecT (w : World) (A : Option Addr) (L : List Rc) : Prop := RSlT gRec 37 w A L
def OwnRec (w : World) (lo hi : Nat) (A : Option Addr) (c : Nat) (L : List Rc) : Prop := OwnS gRec 37 w lo hi A c L
theorem gRec_one (w : World) (cs : List Value) (r : Rc) (h : gRec.T w cs r) : ∀ u ∈ cs, u.oneCell' = true := by
 obtain ⟨A, c, rfl, _⟩ := gRec_R (gRec.tr h)
 intro u hu
 simp only [List.mem_cons, List.not_mem_nil, or_false] at hu
 rcases hu with rfl | rfl <;> rfl
theorem gRec_mk {w : World} {k : UInt8} {p : By} {A : Option Addr} {c : Nat} (h : RdT w A p) (h1 : p.length ≤ c) (h2 : c ≤ maxLen) : gRec.T w [.int .u8 (k.toNat : Int), .slice A p.length c] (k, p) := by
 have hk := k.toNat_lt
 refine ⟨((k.toNat : Int), p), by simp, [_], _, rfl, ⟨rfl, ?_⟩, A, c, rfl, h, h1, h2⟩
 simp only [Lit.wf, Bool.and_eq_true, decide_eq_true_eq]
 exact ⟨by show (0 : Int) ≤ _; omega, by show _ ≤ (255 : Int); omega⟩
section
variable {w w' : World} {lo hi c : Nat} {A : Option Addr} {L : List Rc}
theorem RRec.u (h : RRec w A L) (hb : Below w.heap.size w w') : RRec w' A L := RSl.u h hb
theorem RRec.d (h : RRec w A L) : RRec w.drew A L := RSl.u h (below_drew w)
theorem RRec.some_ (h : RRec w A L) (hl : 0 < L.length) : A = some (A.getD ⟨0, 0, none⟩) := RSl.some_ h (show 0 < 2 by decide) hl
theorem RRec.elem (h : RRec w A L) {i : Nat} (hi : i < L.length) : ∃ A1 c1, CellsAt w A (i * 2) [.int .u8 (L[i].1.toNat : Int), .slice A1 L[i].2.length c1] ∧ Rd w A1 L[i].2 ∧ L[i].2.length ≤ c1 ∧ c1 ≤ maxLen := by
 obtain ⟨cs, h1, h2⟩ := RSl.elem h (show 0 < 2 by decide) hi
 obtain ⟨A1, c1, rfl, h3, h4, h5⟩ := gRec_R h2
 exact ⟨A1, c1, h1, h3, h4, h5⟩
theorem OwnRec.u (h : OwnRec w lo hi A c L) (hb : Below w.heap.size w w') : OwnRec w' lo hi A c L := OwnS.u h hb
theorem OwnRec.d (h : OwnRec w lo hi A c L) : OwnRec w.drew lo hi A c L := OwnS.d h
theorem OwnRec.y {e' : TypeId} {row : Option Nat} (h : OwnRec w lo hi A c L) (hg : Grew w w' e' row) (hne : e' ∉ [37, 5]) : OwnRec w' lo hi A c L := OwnS.y h hg hne
theorem OwnRec.q {e' : TypeId} {row : Option Nat} (h : OwnRec w lo hi A c L) (hg : Grew w w' e' row) (ha : Ap row lo hi) (hne : e' ∉ [5]) : OwnRec w' lo hi A c L := OwnS.q h hg ha hne
theorem OwnRec.ap {lo' hi' : Nat} (h : OwnRec w lo hi A c L) (hd : hi ≤ lo' ∨ hi' ≤ lo) : Ap (blk A) lo' hi' := OwnS.ap h hd
theorem OwnRec.cap (h : OwnRec w lo hi A c L) : L.length ≤ c := OwnS.cap h
theorem OwnRec.nil_ : OwnRec w lo hi none 0 [] := OwnS.nil_
theorem OwnRec.base {lo' hi' : Nat} (h : OwnRec w lo hi A c L) (h1 : lo' ≤ lo) (h2 : hi ≤ hi') : OwnRec w lo' hi' A c L := OwnS.base h h1 h2
theorem OwnRec.to_RRecT (h : OwnRec w lo hi A c L) : RRecT w A L := OwnS.to_RSlT h
theorem OwnRec.to_RRec (h : OwnRec w lo hi A c L) : RRec w A L := OwnS.to_RSl h
end
def XC (X : Nat → Prop) (cs : List Value) : Prop := ∀ A n c, Value.slice A n c ∈ cs → ∀ k, blk A = some k → X k
def gRecX (X : Nat → Prop) : GoT Rc where
 sz := gRec.sz
 tys := gRec.tys
 R w cs r := gRec.R w cs r ∧ XC X cs
 T w cs r := gRec.T w cs r ∧ XC X cs
 len h := gRec.len h.1
 u h hb := ⟨gRec.u h.1 hb, h.2⟩
 tr h := ⟨gRec.tr h.1, h.2⟩
 tu h hb := ⟨gRec.tu h.1 hb, h.2⟩
 ty h hg hne := ⟨gRec.ty h.1 hg hne, h.2⟩
 tm h hg := ⟨gRec.tm h.1 hg, h.2⟩
def RRecX (X : Nat → Prop) (w : World) (A : Option Addr) (L : List Rc) : Prop := RSl (gRecX X) w A L
def RRecXT (X : Nat → Prop) (w : World) (A : Option Addr) (L : List Rc) : Prop := RSlT (gRecX X) 37 w A L
def OwnRecX (X : Nat → Prop) (w : World) (lo hi : Nat) (A : Option Addr) (c : Nat) (L : List Rc) : Prop := OwnS (gRecX X) 37 w lo hi A c L
section
variable {X : Nat → Prop} {w w' : World} {lo hi c : Nat} {A : Option Addr} {L : List Rc}
theorem RRecX.to_RRec (h : RRecX X w A L) : RRec w A L := by
 obtain ⟨xs, h1, h2⟩ := h
 exact ⟨xs, h1, fun i hi => (h2 i hi).1⟩
theorem RRecXT.u (h : RRecXT X w A L) (hb : Below w.heap.size w w') : RRecXT X w' A L := RSlT.u h hb
theorem OwnRecX.u (h : OwnRecX X w lo hi A c L) (hb : Below w.heap.size w w') : OwnRecX X w' lo hi A c L := OwnS.u h hb
theorem OwnRecX.d (h : OwnRecX X w lo hi A c L) : OwnRecX X w.drew lo hi A c L := OwnS.d h
theorem OwnRecX.y {e' : TypeId} {row : Option Nat} (h : OwnRecX X w lo hi A c L) (hg : Grew w w' e' row) (hne : e' ∉ [37, 5]) : OwnRecX X w' lo hi A c L := OwnS.y h hg hne
theorem OwnRecX.q {e' : TypeId} {row : Option Nat} (h : OwnRecX X w lo hi A c L) (hg : Grew w w' e' row) (ha : Ap row lo hi) (hne : e' ∉ [5]) : OwnRecX X w' lo hi A c L := OwnS.q h hg ha hne
theorem OwnRecX.ap {lo' hi' : Nat} (h : OwnRecX X w lo hi A c L) (hd : hi ≤ lo' ∨ hi' ≤ lo) : Ap (blk A) lo' hi' := OwnS.ap h hd
theorem OwnRecX.cap (h : OwnRecX X w lo hi A c L) : L.length ≤ c := OwnS.cap h
theorem OwnRecX.nil_ : OwnRecX X w lo hi none 0 [] := OwnS.nil_
theorem OwnRecX.base {lo' hi' : Nat} (h : OwnRecX X w lo hi A c L) (h1 : lo' ≤ lo) (h2 : hi ≤ hi') : OwnRecX X w lo' hi' A c L := OwnS.base h h1 h2
theorem OwnRecX.to_RRecXT (h : OwnRecX X w lo hi A c L) : RRecXT X w A L := OwnS.to_RSlT h
theorem OwnRecX.to_RRecX (h : OwnRecX X w lo hi A c L) : RRecX X w A L := OwnS.to_RSl h
theorem OwnRecX.to_OwnRec (h : OwnRecX X w lo hi A c L) : OwnRec w lo hi A c L := by
 obtain ⟨xs, h1, h2⟩ := h
 exact ⟨xs, h1, fun i hi => (h2 i hi).1⟩
theorem OwnRecX.re {X' : Nat → Prop} (h : OwnRecX X w lo hi A c L) (hX : ∀ k, X k → X' k) : OwnRecX X' w lo hi A c L := by
 obtain ⟨xs, h1, h2⟩ := h
 exact ⟨xs, h1, fun i hi => ⟨(h2 i hi).1, fun A n c hm k hk => hX k ((h2 i hi).2 A n c hm k hk)⟩⟩
theorem OwnRecX.to_RRec (h : OwnRecX X w lo hi A c L) : RRec w A L := h.to_RRecX.to_RRec
theorem OwnRecX.row (h : OwnRecX X w lo hi A c L) : ∀ k, blk A = some k → lo ≤ k ∧ k < w.heap.size := by obtain ⟨xs, h1, _⟩ := h; exact RowH.lt h1
theorem gRecX_mk {k : UInt8} {p : By} (hX : ∀ k, blk A = some k → X k) (h : RdT w A p) (h1 : p.length ≤ c) (h2 : c ≤ maxLen) : (gRecX X).T w [.int .u8 (k.toNat : Int), .slice A p.length c] (k, p) :=
 ⟨gRec_mk h h1 h2, fun A' n' c' hm => by
  simp only [List.mem_cons, List.not_mem_nil, or_false, reduceCtorEq, false_or, Value.slice.injEq] at hm
  rw [hm.1]; exact hX⟩
theorem gRecX_one (w : World) (cs : List Value) (r : Rc) (h : (gRecX X).T w cs r) : ∀ u ∈ cs, u.oneCell' = true := gRec_one w cs r h.1
end
theorem Tryz.rowRec : RowT Tryz.prog 44 37 (.agg #[.int .u8 0, .slice none 0 0]) 2 32 := ⟨Tryz.underlying44, by kernel_rfl, rfl, by omega⟩
section
variable {fn : Func} {F : Ending → World → Prop} {N : Nat} {ks : List K} {ops : Array Oper} {tg : Tags} {l : List Oper} {fr : Fr} {w : World} {ty : TypeId} {pos : String} {aft : Array Edge} {gd : Option (Nat × Bool)} {d n j q c lo hi : Nat} {x y : Operand} {A B : Option Addr} {L M : List Rc}
theorem wl_litRec1 {ps : Array (Nat × Operand)} {xs : List Operand} {A1 : Option Addr} {n1 c1 : Nat} {k1 : UInt8} {p1 : By} (hxs : ps.toList.map Prod.snd = xs) (hx : fr.evs xs = some [.agg #[.int .u8 (k1.toNat : Int), .slice A1 n1 c1]]) (h1 : RdT w A1 p1) (hn1 : n1 = p1.length) (hc1 : p1.length ≤ c1) (hm1 : c1 ≤ maxLen) (hps : ps = ((List.range' 0 1).zip xs).toArray)
  (hk : ∀ A w', OwnRec w' w.heap.size w'.heap.size A 1 [(k1, p1)] → Below w.heap.size w w' → WL Tryz.prog fn F N ks ops tg.tail l ((d, .slice A 1 1) :: fr) w')
  (ht : tg.loud = true := by rfl) (hg : onG ops fr gd = true := by rfl) (hd : Nat.blt d N = true := by rfl) : WL Tryz.prog fn F N ks ops tg (⟨some d, .buildSlice 44 1 ps, ty, pos, aft, gd⟩ :: l) fr w := by
 subst hn1
 refine wl_litS (X := gRec) (L := [(k1, p1)]) Tryz.rowRec Tryz.sizeOf37 Tryz.zeroValue37 hxs hps hx rfl rfl (fun i h => ?_) rfl hk ht hg hd
 obtain rfl : i = 0 := by simp at h; omega
 exact ⟨_, rfl, rfl, gRec_mk h1 hc1 hm1⟩
theorem wl_appRec (hx : fr.ev x = some (.slice A n c)) (hown : OwnRec w lo hi A c L) (hn : n = L.length) (hy : fr.ev y = some (.slice B j q)) (hr : RRecT w B M) (hj : j = M.length) (hlen : L.length + M.length ≤ 1000000) (hB : lo ≤ w.heap.size)
  (h : ∀ A' c' w', OwnRec w' lo w'.heap.size A' c' (L ++ M) → Grew w w' 37 (blk A) → Below lo w w' → WL Tryz.prog fn F N ks ops tg.tail l ((d, .slice A' (L ++ M).length c') :: fr) w')
  (ht : tg.loud = true := by rfl) (hg : onG ops fr gd = true := by rfl) (hd : Nat.blt d N = true := by rfl) (hq : tg.calm = false ∨ blk A = none ∨ blk A = tg.row := by exact .inl rfl) :
  WL Tryz.prog fn F N ks ops tg (⟨some d, .call { callee := .builtin .append, args := #[x, y], argTypes := #[44, 44] }, ty, pos, aft, gd⟩ :: l) fr w :=
 wl_appS (X := gRec) Tryz.rowRec hx hown hn hy hr hj (by simp [gRec, GoT.map, GoT.pair, gInt, GoT.flat, gBytes]) gRec_one (by have := Nat.mul_le_mul_right 32 hlen; omega) (by omega) hB (fun A' c' w' h1 h2 h3 _ => h A' c' w' h1 h2 h3) ht hg hd hq
theorem wl_litRecX {X : Nat → Prop} {ps : Array (Nat × Operand)} {xs : List Operand} {A1 : Option Addr} {n1 c1 : Nat} {k1 : UInt8} {p1 : By} (hxs : ps.toList.map Prod.snd = xs) (hx : fr.evs xs = some [.agg #[.int .u8 (k1.toNat : Int), .slice A1 n1 c1]]) (hX : ∀ k, blk A1 = some k → X k) (h1 : RdT w A1 p1) (hn1 : n1 = p1.length) (hc1 : p1.length ≤ c1) (hm1 : c1 ≤ maxLen) (hps : ps = ((List.range' 0 1).zip xs).toArray)
  (hk : ∀ A w', OwnRecX X w' w.heap.size w'.heap.size A 1 [(k1, p1)] → Below w.heap.size w w' → WL Tryz.prog fn F N ks ops tg.tail l ((d, .slice A 1 1) :: fr) w')
  (ht : tg.loud = true := by rfl) (hg : onG ops fr gd = true := by rfl) (hd : Nat.blt d N = true := by rfl) : WL Tryz.prog fn F N ks ops tg (⟨some d, .buildSlice 44 1 ps, ty, pos, aft, gd⟩ :: l) fr w := by
 subst hn1
 refine wl_litS (X := gRecX X) (L := [(k1, p1)]) Tryz.rowRec Tryz.sizeOf37 Tryz.zeroValue37 hxs hps hx rfl rfl (fun i h => ?_) rfl hk ht hg hd
 obtain rfl : i = 0 := by simp at h; omega
 exact ⟨_, rfl, rfl, gRecX_mk hX h1 hc1 hm1⟩
theorem wl_appRecX {X : Nat → Prop} (hx : fr.ev x = some (.slice A n c)) (hown : OwnRecX X w lo hi A c L) (hn : n = L.length) (hy : fr.ev y = some (.slice B j q)) (hr : RRecXT X w B M) (hj : j = M.length) (hlen : L.length + M.length ≤ 1000000) (hB : lo ≤ w.heap.size)
  (h : ∀ A' c' w', OwnRecX X w' lo w'.heap.size A' c' (L ++ M) → Grew w w' 37 (blk A) → Below lo w w' → WL Tryz.prog fn F N ks ops tg.tail l ((d, .slice A' (L ++ M).length c') :: fr) w')
  (ht : tg.loud = true := by rfl) (hg : onG ops fr gd = true := by rfl) (hd : Nat.blt d N = true := by rfl) (hq : tg.calm = false ∨ blk A = none ∨ blk A = tg.row := by exact .inl rfl) :
  WL Tryz.prog fn F N ks ops tg (⟨some d, .call { callee := .builtin .append, args := #[x, y], argTypes := #[44, 44] }, ty, pos, aft, gd⟩ :: l) fr w :=
 wl_appS (X := gRecX X) Tryz.rowRec hx hown hn hy hr hj (by simp [gRecX, gRec, GoT.map, GoT.pair, gInt, GoT.flat, gBytes]) gRecX_one (by have := Nat.mul_le_mul_right 32 hlen; omega) (by omega) hB (fun A' c' w' h1 h2 h3 _ => h A' c' w' h1 h2 h3) ht hg hd hq
end
theorem C_each {c : By} {A : Option Addr} {n cap : Nat} (w : World) (hc : c.length = 32) :
  CallsR Tryz.prog 84 [.agg (B8 c).toArray, .slice A n cap] w fun v w' => ∃ g h, v = .func (.func 106) #[] #[.pointer (some ⟨g, 0, none⟩), .pointer (some ⟨h, 0, none⟩)] ∧ Blk w' g 64 (B8 c) ∧ Blk w' h 35 [.slice A n cap] ∧ h ≠ g ∧ w.heap.size ≤ g ∧ g < w'.heap.size ∧ g < h ∧ h < w'.heap.size ∧ Below w.heap.size w w' := by
 refine callsR Tryz.func84 rfl rfl (by kernel_rfl) rfl ?_
 have hw := Below.refl w.heap.size w
 refine zs ?_
 refine wl_boxg _ rfl (by rfl) ?_
 rintro g2 w2 f2 b2 i2 i2_1
 have s2 := b2.size
 replace hw := hw.trans (b2.mono hw.size)
 refine wl_boxg [_] rfl (by rfl) ?_
 rintro g3 w3 f3 b3 i3 i3_1
 have s3 := b3.size
 replace hw := hw.trans (b3.mono hw.size)
 replace f2 := f2.u b3
 refine za rfl (wl_nil (zs ?_))
 refine zp (o_makeFunc (xs := [.tmp 2, .tmp 3]) rfl) ?_
 refine za rfl (wl_nil ?_)
 refine ret1 rfl rfl ?_
 exact ⟨_, _, rfl, f2, f3, by omega, by omega, by omega, by omega, by omega, hw⟩
theorem res_any {P : Program} {fn : Func} {N : Nat} {a : Act} {fr : Fr} {w : World} {rs : List ResultVar} {vs : List Value} (h : fn.results = rs.toArray) (ha : Rep N a fr) (hr : Res P fr w rs vs) (hn : vs.length ≠ 1) : (results fn a.tmps).run P w = .ok (.tuple vs.toArray) w := by
 have hrun := hr.run ha
 have h2 : (rs.toArray.mapM (resOf a)).run P w = .ok vs.toArray w := by
  rw [List.mapM_toArray, Sem.run_map, hrun]; rfl
 have e : results fn a.tmps = (do
   let vs ← rs.toArray.mapM (resOf a)
   pure (if h : vs.size = 1 then vs[0] else .tuple vs)) := by rw [← h]; rfl
 rw [e]
 simp only [Sem.run_bind, h2, Result.andThen_ok, Sem.run_pure]
 simp [hn]
theorem cMark_one (n : Int) (c : By) : ∀ v ∈ cMark n c, v.oneCell' = true := fun v hv => by
 rcases List.mem_cons.1 hv with rfl | hv
 ·rfl
 ·exact B8_oneCell c v hv
structure AllI (w w1 : World) (g6 g7 g8 : Nat) (c : By) (pre : List Ev) (A' : Option Addr) (c' hiR : Nat) (W : World) : Prop where
 own : OwnRecX (fun k => w.heap.size ≤ k) W w1.heap.size hiR A' c' (pre.map Prod.fst)
 f7 : Blk W g7 44 [.slice A' pre.length c']
 f8 : Blk W g8 121 (cMark (lastE c pre).1 (lastE c pre).2)
 f6 : Blk W g6 64 (B8 nul32)
 last : (lastE c pre).2.length = 32
 hi : hiR ≤ W.heap.size
 lo : w1.heap.size ≤ hiR
 bel : Below w.heap.size w W
theorem ownRecX_noncell {B lo hi c : Nat} {W W' : World} {A : Option Addr} {l : List Rc} {row : Option Nat} {X : Nat → Prop} (h : OwnRecX X W lo hi A c l) (hg : W.grownBy W' row) (hr : ∀ r, row = some r → B ≤ r ∧ ∃ o : Obj, W.heap[r]? = some o ∧ o.isCells = false) : OwnRecX X W' lo hi A c l := by
 obtain ⟨xs, h1, h2⟩ := h
 refine ⟨xs, ⟨World.ownsRow.kept h1.o hg ?_, h1.hi⟩, fun i hi => ?_⟩
 ·rw [blk_own]
  cases hA : blk A with
  | none => exact .inl rfl
  | some k =>
   refine .inr (fun ek => ?_)
   obtain ⟨_, o, ho, hc⟩ := hr k ek.symm
   obtain ⟨cs, f, hcs⟩ := RowH.ty h1 k hA
   rw [hcs] at ho
   injection ho with ho
   subst ho; cases hc
 ·obtain ⟨⟨a, e, c1, c2, e2, h3, A1, n1, e3, h4, h5, h6⟩, hx⟩ := h2 i hi
  exact ⟨⟨a, e, c1, c2, e2, h3, A1, n1, e3, rdT_noncell h4 hg hr, h5, h6⟩, hx⟩
theorem AllI.non {w w1 W W' : World} {g6 g7 g8 c' hiR B : Nat} {c : By} {pre : List Ev} {A' : Option Addr} {row : Option Nat} (h : AllI w w1 g6 g7 g8 c pre A' c' hiR W) (hB : w.heap.size ≤ B) (hg : W.grownBy W' row) (hr : ∀ r, row = some r → B ≤ r ∧ ∃ o : Obj, W.heap[r]? = some o ∧ o.isCells = false) : AllI w w1 g6 g7 g8 c pre A' c' hiR W' :=
 ⟨ownRecX_noncell h.own hg hr, blk_noncell h.f7 hg hr, blk_noncell h.f8 hg hr, blk_noncell h.f6 hg hr, h.last, Nat.le_trans h.hi hg.size, h.lo, h.bel.grown hg h.bel.size (fun k e => by have := (hr k e).1; omega)⟩
set_option maxHeartbeats 1000000 in
theorem K_AllX {A : Option Addr} {b c : By} {n cap : Nat} (w : World) (hb : Rd w A b) (hn : n = b.length) (hcap : b.length ≤ cap) (hc : c.length = 32) (hl : b.length ≤ 400000) :
  CallsR Tryz.prog 54 [.agg (B8 c).toArray, .slice A n cap] w fun v w' => ∃ (L : List Rc) (A' : Option Addr) (c' : Nat), v = .tuple #[.slice A' L.length c', .int .i64 ((bytesAll c L).length : Int), .agg (B8 (chainAll c L)).toArray] ∧ AllP c b L ∧ OwnRecX (fun k => w.heap.size ≤ k) w' w.heap.size w'.heap.size A' c' L ∧ Below w.heap.size w w' := by
 subst hn
 refine ⟨⟨_, Tryz.func54, rfl, by kernel_rfl⟩, ?_⟩
 refine (callsIn_wide (n := 3)).1 (callsIn_of_wp_marks Tryz.func54 rfl trivial ?_)
 refine seq5_of_rk (fn := Tryz.f54) (I := fun a w' => ∃ g6 g7 g8 g h, Rep Tryz.f54.ntmps a [(15, .func (.func 106) #[] #[.pointer (some ⟨g, 0, none⟩), .pointer (some ⟨h, 0, none⟩)]), (8, .pointer (some ⟨g8, 0, none⟩)), (7, .pointer (some ⟨g7, 0, none⟩)), (6, .pointer (some ⟨g6, 0, none⟩))] ∧ Blk w' g 64 (B8 c) ∧ Blk w' h 35 [.slice A b.length cap] ∧ Blk w' g6 64 (B8 nul32) ∧ Blk w' g7 44 [.slice none 0 0] ∧ Blk w' g8 121 (cMark 0 c) ∧ h ≠ g ∧ w.heap.size ≤ g6 ∧ w.heap.size ≤ g7 ∧ w.heap.size ≤ g8 ∧ g6 < g ∧ g7 < g ∧ g8 < g ∧ g6 < g7 ∧ g7 < g8 ∧ h < w'.heap.size ∧ g < h ∧ Below w.heap.size w w') ?_ (entry_rep rfl) ?_
 ·have hw := Below.refl w.heap.size w
  refine rk_region ?_
  refine wl_boxg _ rfl (by rfl) ?_
  rintro g2 w2 f2 b2 i2 i2_1
  have s2 := b2.size
  replace hw := hw.trans (b2.mono hw.size)
  refine za rfl (za rfl ?_)
  refine wl_allocB Tryz.underlying64 Tryz.zeroValue64 (by rfl) ?_
  rintro g6 w6 f6 b6 i6 i6_1
  have s6 := b6.size
  replace hw := hw.trans (b6.mono hw.size)
  replace f2 := f2.u b6
  refine wl_nil (rk_region ?_)
  refine wl_allocg [_] Tryz.zeroValue44 (by rfl) ?_
  rintro g7 w7 f7 b7 i7 i7_1
  have s7 := b7.size
  replace hw := hw.trans (b7.mono hw.size)
  replace f2 := f2.u b7
  replace f6 := f6.u b7
  refine wl_nil (rk_region ?_)
  refine wl_r (o_ldBa Tryz.isAgg64 Tryz.sizeOf64 rfl f2 hc) ?_
  refine zp (o_buildMark rfl rfl hc) ?_
  refine wl_allocg [_, _, _, _, _, _, _, _, _, _, _, _, _, _, _, _, _, _, _, _, _, _, _, _, _, _, _, _, _, _, _, _, _] Tryz.zeroValue121 (by rfl) ?_
  rintro g8 w8 f8 b8 i8 i8_1
  have s8 := b8.size
  replace hw := hw.trans (b8.mono hw.size)
  replace f6 := f6.u b8
  replace f2 := f2.u b8
  replace f7 := f7.u b8
  refine wl_storega Tryz.sizeOf121 rfl rfl (cMark_len (by assumption)) (cMark_one _ _) f8 (by rfl) ?_
  rintro w_1 f g e
  have s := g.size
  replace hw := hw.trans (below_of_grownBy g.g hw.size (by omega))
  replace f7 := f7.k g.g (ap_some (by omega))
  replace f2 := f2.k g.g (ap_some (by omega))
  replace f6 := f6.k g.g (ap_some (by omega))
  clear f8
  refine wl_nil (rk_region ?_)
  refine wl_r (o_ldBa Tryz.isAgg64 Tryz.sizeOf64 rfl f2 hc) ?_
  refine zm rfl ?_
  refine wl_call rfl (C_each _ hc) ?_
  rintro v15 w15 ⟨g15, ⟨h15, ⟨rfl, ⟨f15, ⟨f15_1, ⟨i15, ⟨i15_1, ⟨i15_2, ⟨i15_3, ⟨i15_4, b15⟩⟩⟩⟩⟩⟩⟩⟩⟩⟩
  have s15 := b15.size
  replace hw := hw.trans (b15.mono hw.size)
  replace f6 := f6.u b15
  replace f2 := f2.u b15
  replace f7 := f7.u b15
  replace f := f.u b15
  refine wl_nil ?_
  refine rk_inv fun a ha => ?_
  exact ⟨g6, g7, g8, g15, h15, ha.le (Fr.le_of_sub (by repeat' constructor)), f15, f15_1, f6, f7, f, by assumption, by omega, by omega, by omega, by omega, by omega, by omega, by omega, by omega, by omega, by omega, hw⟩
 ·rintro a1 w1 ⟨g6, g7, g8, g, h, ha, fg, fh, f6, f7, f8, hne, n6, n7, n8, m6, m7, m8, p67, p78, hhlt, hgh, hw⟩
  have hsw := hw.size
  have hglt := fg.lt
  have hAb : ∀ k, b ≠ [] → blk A = some k → k < w.heap.size := fun k hbne hk => by
   obtain ⟨b0, o, rfl, hcl⟩ := hb.2 (fun e => hbne (by cases b with | nil => rfl | cons x y => cases e))
   have hk' : b0 = k := by simpa [blk] using hk
   subst hk'
   cases b with
   | nil => exact absurd rfl hbne
   | cons x y => exact block_lt_of_cell (hcl 0 _ rfl)
  refine wpIn_block ?_
  refine wpIn_rangeC (α := Ev) (by decide) (gf := 106) (lb := #[.pointer (some ⟨g, 0, none⟩), .pointer (some ⟨h, 0, none⟩)]) (ha.ev rfl) (enters_of Tryz.func106 (by kernel_rfl) rfl)
   (each_seq w1 fg fh (hb.u hw) hcap hc hl hne (X := fun k => k = g7 ∨ k = g8) (by omega) (by intro e; rcases e with e | e <;> omega) (fun k h1 h2 => by have := hAb k h1 h2; omega)) (Below.refl _ _)
   (fun h k => h.trans k) (fun W l o hl => ⟨rfl, rfl, rfl, by simp, fun k hk _ => World.putObj_heap_other (by omega)⟩) (fun A B h => keeps_grew h) (fun _ => rfl)
   (fun pre W => ∃ A' c' hiR, AllI w w1 g6 g7 g8 c pre A' c' hiR W) ?cI ?cC ?cY ?c0 (fun pre x a' W => ∃ g9 g10 A' c' hiR, Rep Tryz.f54.ntmps a' [(10, .pointer (some ⟨g10, 0, none⟩)), (9, .pointer (some ⟨g9, 0, none⟩)), (8, .pointer (some ⟨g8, 0, none⟩)), (7, .pointer (some ⟨g7, 0, none⟩))] ∧ Blk W g9 37 [.int .u8 (x.1.1.toNat : Int), .slice x.2.1.1 x.1.2.length x.2.1.2] ∧ Blk W g10 121 (cMark x.2.2.1 x.2.2.2) ∧ AllI w w1 g6 g7 g8 c pre A' c' hiR W ∧ ydE w1.heap.size pre x W ∧ hiR ≤ g9 ∧ hiR ≤ g10) ?cA ?assign ?body ?done
  case cI => exact fun pre W W' row ⟨A', c', hiR, h⟩ hg hr => ⟨A', c', hiR, h.non hsw hg hr⟩
  case cC =>
   rintro pre W W' ⟨A', c', hiR, h⟩ hG
   have h1 := h.lo
   have h2 := hG.size
   have h3 := h.hi
   exact ⟨A', c', hiR, ⟨h.own.q hG (ap_some (by omega)) (by decide), h.f7.y hG (by decide), h.f8.y hG (by decide), h.f6.k hG.g (ap_some (by omega)), h.last, by omega, h.lo, h.bel.grown hG.g h.bel.size (fun k e => by injection e with e; omega)⟩⟩
  case cY => exact fun pre x W W' row h hg hr => ⟨rdT_noncell h.1 hg hr, h.2⟩
  case c0 => exact ⟨none, 0, w1.heap.size, ⟨OwnRecX.nil_, f7, f8, f6, hc, Nat.le_refl _, Nat.le_refl _, hw⟩⟩
  case cA =>
   rintro pre x a' s W W' row ⟨g9, g10, A', c', hiR, h1, h2, h3, h4, h5, h6, h7⟩ hg hr
   exact ⟨g9, g10, A', c', hiR, h1, blk_noncell h2 hg hr, blk_noncell h3 hg hr, h4.non hsw hg hr, ⟨rdT_noncell h5.1 hg hr, h5.2⟩, h6, h7⟩
  case assign =>
   rintro l pre x W hl ⟨A', c', hiR, hI⟩ hy
   have hi1 := hI.hi
   have hi2 := hI.lo
   have hmk : (cMark x.2.2.1 x.2.2.2).length = 33 := cMark_len hy.2.2.2.1
   have e : ({ tmps := (#[16, 17].zip (encE x)).foldl (fun t (p, v) => t.setIfInBounds p v) a1.tmps, defers := [] } : Act) = (a1.put (some 16) (.agg #[.int .u8 (x.1.1.toNat : Int), .slice x.2.1.1 x.1.2.length x.2.1.2])).put (some 17) (.agg (cMark x.2.2.1 x.2.2.2).toArray) := by
    simp [encE, Act.put, ha.defers]
   rw [e]
   have hrep : Rep Tryz.f54.ntmps ((a1.put (some 16) (.agg #[.int .u8 (x.1.1.toNat : Int), .slice x.2.1.1 x.1.2.length x.2.1.2])).put (some 17) (.agg (cMark x.2.2.1 x.2.2.2).toArray)) [(17, .agg (cMark x.2.2.1 x.2.2.2).toArray), (16, .agg #[.int .u8 (x.1.1.toNat : Int), .slice x.2.1.1 x.1.2.length x.2.1.2]), (8, .pointer (some ⟨g8, 0, none⟩)), (7, .pointer (some ⟨g7, 0, none⟩))] :=
    ((ha.put (d := 16) rfl _).put (d := 17) rfl _).le (Fr.le_of_sub (by repeat' constructor))
   refine wpIn_mono ((in_seq (I1 := fun a' W' => ∃ g9, Rep Tryz.f54.ntmps a' [(9, .pointer (some ⟨g9, 0, none⟩)), (17, .agg (cMark x.2.2.1 x.2.2.2).toArray), (8, .pointer (some ⟨g8, 0, none⟩)), (7, .pointer (some ⟨g7, 0, none⟩))] ∧ Blk W' g9 37 [.int .u8 (x.1.1.toNat : Int), .slice x.2.1.1 x.1.2.length x.2.1.2] ∧ W.heap.size ≤ g9 ∧ Below W.heap.size W W') (in_plain ?_) ?_ : RIn Tryz.prog Tryz.f54 Tryz.f54.ntmps (fun a' W' => ∃ g9 g10, Rep Tryz.f54.ntmps a' [(10, .pointer (some ⟨g10, 0, none⟩)), (9, .pointer (some ⟨g9, 0, none⟩)), (8, .pointer (some ⟨g8, 0, none⟩)), (7, .pointer (some ⟨g7, 0, none⟩))] ∧ Blk W' g9 37 [.int .u8 (x.1.1.toNat : Int), .slice x.2.1.1 x.1.2.length x.2.1.2] ∧ Blk W' g10 121 (cMark x.2.2.1 x.2.2.2) ∧ W.heap.size ≤ g9 ∧ W.heap.size ≤ g10 ∧ Below W.heap.size W W') l 1 _ _ W) _ hrep) (fun e a w he => ?_)
   ·have hw := Below.refl W.heap.size W
    refine wl_allocg [_, _] Tryz.zeroValue37 (by rfl) ?_
    rintro g9 w9 f9 b9 i9 i9_1
    have s9 := b9.size
    replace hw := hw.trans (b9.mono hw.size)
    refine wl_storega Tryz.sizeOf37 rfl rfl (by rfl) (oneCell_of (by rfl)) f9 (by rfl) ?_
    rintro w_1 f g_1 e_1
    have s := g_1.size
    replace hw := hw.trans (below_of_grownBy g_1.g hw.size (by omega))
    clear f9
    refine wl_nil ?_
    refine rk_inv fun a ha => ?_
    exact ⟨g9, ha.le (Fr.le_of_sub (by repeat' constructor)), f, by omega, hw⟩
   ·rintro a2 W2 ⟨g9, ha2, f9, hg9, hw⟩
    refine (in_plain ?_ : RIn _ _ _ _ _ _ _ _ _) a2 ha2
    have hws := hw.size
    refine wl_allocg [_, _, _, _, _, _, _, _, _, _, _, _, _, _, _, _, _, _, _, _, _, _, _, _, _, _, _, _, _, _, _, _, _] Tryz.zeroValue121 (by rfl) ?_
    rintro g10 w10 f10 b10 i10 i10_1
    have s10 := b10.size
    replace hw := hw.trans (b10.mono hw.size)
    replace f9 := f9.u b10
    refine wl_storega Tryz.sizeOf121 rfl rfl hmk (cMark_one _ _) f10 (by rfl) ?_
    rintro w_1 f g_1 e_1
    have s := g_1.size
    replace hw := hw.trans (below_of_grownBy g_1.g hw.size (by omega))
    replace f9 := f9.y g_1 (by decide)
    clear f10
    refine wl_nil ?_
    refine rk_inv fun a ha => ?_
    exact ⟨g9, g10, ha.le (Fr.le_of_sub (by repeat' constructor)), f9, f, by omega, by omega, hw⟩
   ·obtain ⟨rfl, g9, g10, h1, h2, h3, h4, h5, hb2⟩ := kpost_inv he
    have hsb := hb2.size
    exact ⟨keeps_below hb2, KeepX.of (hb2.mono (by omega)), g9, g10, A', c', hiR, h1, h2, h3, ⟨hI.own.u hb2, hI.f7.u hb2, hI.f8.u hb2, hI.f6.u hb2, hI.last, by omega, hI.lo, hI.bel.trans (hb2.mono hI.bel.size)⟩, ⟨hy.1.u hb2, hy.2⟩, by omega, by omega⟩
  case body =>
   rintro l pre x a' W hl ⟨g9, g10, A', c', hiR, hrep, f9, f10, hI, hy, h9, h10⟩
   obtain ⟨⟨k, p⟩, ⟨Ax, cx⟩, nx, chx⟩ := x
   obtain ⟨hy1, hy2, hy3, hy4, hy5, hy6'⟩ := hy
   have hy6 : ∀ k, blk Ax = some k → w.heap.size ≤ k := fun k hk => Nat.le_trans hsw (hy6' k hk)
   clear hy6'
   simp only at f9 f10 hy1 hy2 hy3 hy4
   have hmk : (cMark nx chx).length = 33 := cMark_len hy4
   have hmk0 : (cMark (lastE c pre).1 (lastE c pre).2).length = 33 := cMark_len hI.last
   refine wpIn_block (wpIn_mono ((in_seq (I1 := fun a' W' => ∃ A2 c2, Rep Tryz.f54.ntmps a' [(10, .pointer (some ⟨g10, 0, none⟩)), (8, .pointer (some ⟨g8, 0, none⟩))] ∧ OwnRecX (fun k => w.heap.size ≤ k) W' w1.heap.size W'.heap.size A2 c2 ((pre.map Prod.fst) ++ [(k, p)]) ∧ Blk W' g7 44 [.slice A2 ((pre.map Prod.fst) ++ [(k, p)]).length c2] ∧ Blk W' g8 121 (cMark (lastE c pre).1 (lastE c pre).2) ∧ Blk W' g10 121 (cMark nx chx) ∧ Blk W' g6 64 (B8 nul32) ∧ Below w.heap.size w W' ∧ KeepsOthers W W' ∧ KeepX w1.heap.size (fun k => k = g7 ∨ k = g8) W W') (in_plain ?_) ?_ : RIn Tryz.prog Tryz.f54 Tryz.f54.ntmps (fun a' W' => ∃ A2 c2, OwnRecX (fun k => w.heap.size ≤ k) W' w1.heap.size W'.heap.size A2 c2 ((pre.map Prod.fst) ++ [(k, p)]) ∧ Blk W' g7 44 [.slice A2 ((pre.map Prod.fst) ++ [(k, p)]).length c2] ∧ Blk W' g8 121 (cMark nx chx) ∧ Blk W' g6 64 (B8 nul32) ∧ Below w.heap.size w W' ∧ KeepsOthers W W' ∧ KeepX w1.heap.size (fun k => k = g7 ∨ k = g8) W W') l 1 _ _ W) _ hrep) (fun e a w he => ?_))
   ·have fo := hI.own
    have f7 := hI.f7
    have f8 := hI.f8
    have f6 := hI.f6
    have hi1 := hI.hi
    have hi2 := hI.lo
    have hw := hI.bel
    have hm1 : (pre.map Prod.fst).length = pre.length := List.length_map ..
    rw [← hm1] at f7 hy5
    have hlt : ∀ k, blk A' = some k → w1.heap.size ≤ k := fun k hk => by
     obtain ⟨xs, r1, _⟩ := fo
     exact (RowH.lt r1 k hk).1
    clear hI fg fh ha hb
    refine wl_r (o_loadbg Tryz.isAgg44 rfl f7 (by rfl)) ?_
    refine wl_r (o_loadag Tryz.isAgg37 Tryz.sizeOf37 rfl f9 (by rfl)) ?_
    refine wl_litRecX (by rfl) rfl (by omega) hy1 rfl (by omega) (by omega) (by rfl) ?_
    rintro A20 w20 f20 b20
    have qf20 := f20.cap
    have s20 := b20.size
    replace hw := hw.trans (b20.mono hw.size)
    replace f6 := f6.u b20
    replace f8 := f8.u b20
    replace f7 := f7.u b20
    replace fo := fo.u b20
    replace hy1 := hy1.u b20
    replace f10 := f10.u b20
    replace f9 := f9.u b20
    refine wl_appRecX rfl fo rfl rfl f20.to_RRecXT (by rfl) (by omega) (by omega) ?_
    rintro A21 c21 w21 f21 g21 b21
    have qf21 := f21.cap
    have s21 := g21.size
    replace hw := hw.trans (b21.mono (by omega))
    replace f9 := f9.k g21.g (fo.ap (by omega))
    replace f10 := f10.y g21 (by decide)
    replace hy1 := hy1.y g21 (by decide)
    replace f7 := f7.y g21 (by decide)
    replace f8 := f8.y g21 (by decide)
    replace f6 := f6.y g21 (by decide)
    replace f20 := f20.q g21 (fo.ap (by omega)) (by decide)
    clear fo
    refine wl_storeg1 Tryz.sizeOf44 rfl rfl (by rfl) f7 (by simp) ?_
    rintro w_1 f g_1 e
    have s := g_1.size
    replace hw := hw.trans (below_of_grownBy g_1.g hw.size (by omega))
    replace f20 := f20.y g_1 (by decide)
    replace f6 := f6.k g_1.g (ap_some (by omega))
    replace f8 := f8.k g_1.g (ap_some (by omega))
    replace hy1 := hy1.y g_1 (by decide)
    replace f10 := f10.k g_1.g (ap_some (by omega))
    replace f9 := f9.k g_1.g (ap_some (by omega))
    replace f21 := f21.y g_1 (by decide)
    clear f7
    refine wl_nil ?_
    have q1 : Below W.heap.size W w20 := by assumption
    have q2 : Grew w20 w21 37 (blk A') := by assumption
    have q3 : Grew w21 w_1 44 (some g7) := by assumption
    have s1 := q1.size
    have s2 := q2.size
    have s3 := q3.size
    refine rk_inv fun a ha => ?_
    exact ⟨A21, c21, ha.le (Fr.le_of_sub (by repeat' constructor)), f21.base (Nat.le_refl _) (by omega), f, f8, f10, f6, hw, (keeps_below q1).trans ((keeps_grew q2).trans (keeps_grew q3)),
     (KeepX.of (q1.mono (by omega))).trans ((KeepX.of (q2.below (by omega) hlt)).trans (KeepX.grown q3.g (by omega) (fun k e => by injection e with e; exact .inl e.symm)))⟩
   ·rintro a2 W2 ⟨A2, c2, ha2, f21, f7, f8, f10, f6, hw, hko, hkx⟩
    refine (in_plain ?_ : RIn _ _ _ _ _ _ _ _ _) a2 ha2
    have hi2 := hI.lo
    have hi1 := hI.hi
    have hks := hko.size
    clear hI fg fh ha hb
    refine wl_r (o_loadag Tryz.isAgg121 Tryz.sizeOf121 rfl f10 hmk) ?_
    refine wl_storega Tryz.sizeOf121 rfl rfl hmk (cMark_one _ _) f8 hmk0 ?_
    rintro w_1 f g_1 e
    have s := g_1.size
    replace hw := hw.trans (below_of_grownBy g_1.g hw.size (by omega))
    replace f6 := f6.k g_1.g (ap_some (by omega))
    replace f10 := f10.k g_1.g (ap_some (by omega))
    replace f7 := f7.k g_1.g (ap_some (by omega))
    replace f21 := f21.y g_1 (by decide)
    clear f8
    refine wl_nil ?_
    have q3 : Grew W2 w_1 121 (some g8) := by assumption
    have s3 := q3.size
    refine rk_inv fun a ha => ?_
    exact ⟨A2, c2, f21.base (Nat.le_refl _) (by omega), f7, f, f6, hw, hko.trans (keeps_grew q3), hkx.trans (KeepX.grown q3.g (by omega) (fun k e => by injection e with e; exact .inr e.symm))⟩
   ·obtain ⟨rfl, A2, c2, h1, h2, h3, h4, h5, h6, h7⟩ := kpost_inv he
    have hks := h6.size
    have hi2 := hI.lo
    have hi1 := hI.hi
    have e1 : (pre ++ [((k, p), (Ax, cx), (nx, chx))]).map Prod.fst = pre.map Prod.fst ++ [(k, p)] := by simp
    have e2 : (pre ++ [((k, p), (Ax, cx), (nx, chx))]).length = (pre.map Prod.fst ++ [(k, p)]).length := by simp
    exact ⟨rfl, h6, h7, A2, c2, _, ⟨by rw [e1]; exact h1, by rw [e2]; exact h2, by rw [lastE_snoc]; exact h3, h4, by rw [lastE_snoc]; exact hy4, by omega, by omega, h5⟩⟩
  case done =>
   rintro D xs W hD ⟨hAll, hlast⟩ ⟨A', c', hiR, hI⟩ hKD
   obtain ⟨L, hL⟩ : ∃ L, xs.map Prod.fst = L := ⟨_, rfl⟩
   have fo := hI.own
   clear f6 f7 f8
   have f7 := hI.f7
   have f8 := hI.f8
   have f6 := hI.f6
   have hi1 := hI.hi
   have hi2 := hI.lo
   have hw2 := hI.bel
   have hla := hI.last
   rw [hL] at fo hAll hlast
   rw [hlast] at f8 hla
   have hxl : xs.length = L.length := by rw [← hL, List.length_map]
   rw [hxl] at f7
   obtain ⟨nb, hnb⟩ : ∃ nb, (bytesAll c L).length = nb := ⟨_, rfl⟩
   obtain ⟨ch, hch⟩ : ∃ ch, chainAll c L = ch := ⟨_, rfl⟩
   simp only at f8 hla
   rw [hnb, hch] at f8
   rw [hch] at hla
   have hDs : D < W.heap.size := (Array.getElem?_eq_some_iff.1 hKD).1
   show Code.wpIn Fence.wide 3 Tryz.prog _ _ { a1 with defers := _ :: a1.defers } W
   rw [dd_of ha.defers]
   refine wpIn_seq (wpIn_mono ((?_ : RInD Tryz.prog Tryz.f54 Tryz.f54.ntmps (fun a2 W' => Rep Tryz.f54.ntmps a2 [(6, .pointer (some ⟨g6, 0, none⟩)), (5, .int .i64 (nb : Int)), (4, .slice A' L.length c')] ∧ Blk W' g6 64 (B8 ch) ∧ OwnRecX (fun k => w.heap.size ≤ k) W' w1.heap.size hiR A' c' L ∧ Below w.heap.size w W' ∧ KeepsOthers W W') _ 3 _ _ W) _ ha) (fun e a' w' he => ?_))
   ·clear hI fg fh ha hb hw
    have hw := hw2
    have hmk : (cMark nb ch).length = 33 := cMark_len hla
    refine ind_draw (id := 8) (none) [0, 0, 2, 0, 8, 1, 39, 127] [0, 0, 2, 0, 8, 1, 39, 127] 128 0 [(.r, 0), (.p, 1), (.r, 2), (.p, 3), (.r, 4), (.p, 5), (.p, 6), (.l, 7)] (by kernel_rfl) (by kernel_rfl) (by kernel_rfl) (by kernel_rfl) (by kernel_rfl) ?_
    replace fo := fo.d
    replace f7 := f7.d
    replace f8 := f8.d
    replace f6 := f6.d
    replace hw := hw.drew
    have hcut : ((cMark nb ch).drop (0 + 1)).take 32 = B8 ch := by
     show (B8 ch).take 32 = B8 ch
     rw [List.take_of_length_le (by rw [B8_length, hla]; exact Nat.le_refl _)]
    have hB32 : (B8 ch).length = 32 := by rw [B8_length, hla]
    refine wl_r (o_loadbg Tryz.isAgg44 rfl f7 (by rfl)) ?_
    refine zp (o_faddr (s := 121) (i := 0) (off := 0) Tryz.underlying121 rfl Tryz.sizeOf3 rfl rfl rfl) ?_
    refine wl_r (o_loadbg Tryz.isAgg3 rfl f8 (by rfl)) ?_
    refine zp (o_faddr (s := 121) (i := 1) (off := 1) Tryz.underlying121 rfl Tryz.sizeOf64 rfl rfl rfl) ?_
    refine wl_r (o_loadCut Tryz.isAgg64 Tryz.sizeOf64 rfl f8 hcut hB32) ?_
    refine za rfl (za rfl ?_)
    refine wl_stBa Tryz.sizeOf64 rfl f6 rfl hla (by rfl) ?_
    rintro w_1 f g_1 e
    simp only [drew_size] at e
    have s := g_1.size
    simp only [drew_size] at s
    replace hw := hw.trans (below_of_grownBy g_1.g hw.size (by omega))
    replace f8 := f8.k g_1.g (ap_some (by omega))
    replace f7 := f7.k g_1.g (ap_some (by omega))
    replace fo := fo.y g_1 (by decide)
    clear f6
    refine wl_nild ?_
    have q3 : Grew W.drew w_1 64 (some g6) := by assumption
    refine rk_inv fun a ha => ?_
    exact ⟨ha.le (Fr.le_of_sub (by repeat' constructor)), f, fo, hw, (KeepsOthers.drew W).trans (keeps_grew q3)⟩
   ·obtain ⟨a2, rfl, rfl, ha2, hB, hO, hb2, hk2⟩ := he
    have hKD2 := hk2.same _ _ hKD rfl
    have hks := hk2.size
    refine wpIn_ret ?_
    show LeavesInM Fence.wide 3 Tryz.prog _ a2.tmps _ (a2.defers ++ [_]) .returning w'
    rw [ha2.defers]
    refine ⟨by simp, .inl ⟨D, _, rfl, run_takeDeferred hKD2, ?_⟩⟩
    have hg := grownBy_putObj' w' D (.deferred none)
    have hr : ∀ r, (some D : Option Nat) = some r → D ≤ r ∧ ∃ o : Obj, w'.heap[r]? = some o ∧ o.isCells = false := fun r e => by cases e; exact ⟨Nat.le_refl _, _, hKD2, rfl⟩
    have hB2 := blk_noncell hB hg hr
    have hO2 := ownRecX_noncell hO hg hr
    have hsz := hg.size
    have hw3 := hb2.grown hg hb2.size (fun k e => by injection e with e; omega)
    have hres := res_any (P := Tryz.prog) (fn := Tryz.f54) (rs := [.tmp 4, .tmp 5, .cell 6 64]) rfl ha2 (.tmp rfl (.tmp rfl (.cell rfl Tryz.isAgg64 Tryz.sizeOf64 hB2 (by rw [B8_length, hla]) .nil))) (by simp)
    refine ⟨_, hres, _, rfl, L, A', c', ?_, hAll, hO2.base (by omega) (by omega), hw3⟩
    rw [hnb, hch]
theorem C_AllR {A : Option Addr} {b c : By} {n cap : Nat} (w : World) (hb : Rd w A b) (hn : n = b.length) (hcap : b.length ≤ cap) (hc : c.length = 32) (hl : b.length ≤ 400000) :
  CallsR Tryz.prog 54 [.agg (B8 c).toArray, .slice A n cap] w fun v w' => ∃ (L : List Rc) (A' : Option Addr) (c' : Nat), v = .tuple #[.slice A' L.length c', .int .i64 ((bytesAll c L).length : Int), .agg (B8 (chainAll c L)).toArray] ∧ AllP c b L ∧ OwnRec w' w.heap.size w'.heap.size A' c' L ∧ Below w.heap.size w w' := by
 refine (K_AllX w hb hn hcap hc hl).mono ?_
 rintro v w' ⟨L, A', c', h1, h2, h3, h4⟩
 exact ⟨L, A', c', h1, h2, h3.to_OwnRec, h4⟩
end Go.Proofs.YtnnhenafhalobaaGreat
namespace Go.Proofs.YtnnhenafhalobaaGreat
set_option maxRecDepth 100000
open Go.RowKit
section
variable {fn : Func} {F : Ending → World → Prop} {N : Nat} {ks : List K} {ops : Array Oper} {tg : Tags} {l : List Oper} {fr : Fr} {w w0 : World} {ty : TypeId} {pos : String} {aft : Array Edge} {gd : Option (Nat × Bool)} {d j : Nat} {x y : Operand} {A : Option Addr} {L : List Rc}
theorem wl_ldRec (hx : fr.ev x = some (.pointer (some (adr A (j * 2))))) (hr : RRec w0 A L) (hb : Below w0.heap.size w0 w) (hj : j < L.length)
  (hk : ∀ A1 c1, Rd w0 A1 L[j].2 → L[j].2.length ≤ c1 → c1 ≤ maxLen → WL Tryz.prog fn F N ks ops tg.tail l ((d, .agg #[.int .u8 (L[j].1.toNat : Int), .slice A1 L[j].2.length c1]) :: fr) w)
  (ht : tg.reads = true := by rfl) (hg : onG ops fr gd = true := by rfl) (hd : Nat.blt d N = true := by rfl) : WL Tryz.prog fn F N ks ops tg (⟨some d, .load 37 x, ty, pos, aft, gd⟩ :: l) fr w := by
 obtain ⟨A1, c1, h1, h2, h3, h4⟩ := hr.elem hj
 refine wl_r (o_loadn (cs := [.int .u8 (L[j].1.toNat : Int), .slice A1 L[j].2.length c1]) Tryz.isAgg37 Tryz.sizeOf37 hx (fun i u hu => ?_)) (hk A1 c1 h2 h3 h4) ht hg hd
 rw [adr_add]
 exact h1.u hb i u hu
theorem wl_ldRecS (hx : fr.ev x = some (.pointer (some (adr A (j * 2))))) (hr : RRec w0 A L) (hb : ∀ w', tg.rw.ok w w' → Below w0.heap.size w0 w') (hj : j < L.length)
  (hk : ∀ A1 c1, Rd w0 A1 L[j].2 → L[j].2.length ≤ c1 → c1 ≤ maxLen → WL Tryz.prog fn F N ks ops tg.tail l ((d, .agg #[.int .u8 (L[j].1.toNat : Int), .slice A1 L[j].2.length c1]) :: fr) w)
  (ht : tg.stays = true := by rfl) (hg : onG ops fr gd = true := by rfl) (hd : Nat.blt d N = true := by rfl) : WL Tryz.prog fn F N ks ops tg (⟨some d, .load 37 x, ty, pos, aft, gd⟩ :: l) fr w := by
 obtain ⟨A1, c1, h1, h2, h3, h4⟩ := hr.elem hj
 refine wl_s (fun w' hw' => o_loadn (cs := [.int .u8 (L[j].1.toNat : Int), .slice A1 L[j].2.length c1]) Tryz.isAgg37 Tryz.sizeOf37 hx (fun i u hu => ?_)) (hk A1 c1 h2 h3 h4) ht hg hd
 rw [adr_add]
 exact h1.u (hb w' hw') i u hu
theorem wl_ldRecD (hx : fr.ev x = some (.pointer (some (adr A (j * 2 + 1))))) (hr : RRec w0 A L) (hb : Below w0.heap.size w0 w) (hj : j < L.length)
  (hk : ∀ A1 c1, Rd w0 A1 L[j].2 → L[j].2.length ≤ c1 → c1 ≤ maxLen → WL Tryz.prog fn F N ks ops tg.tail l ((d, .slice A1 L[j].2.length c1) :: fr) w)
  (ht : tg.reads = true := by rfl) (hg : onG ops fr gd = true := by rfl) (hd : Nat.blt d N = true := by rfl) : WL Tryz.prog fn F N ks ops tg (⟨some d, .load 35 x, ty, pos, aft, gd⟩ :: l) fr w := by
 obtain ⟨A1, c1, h1, h2, h3, h4⟩ := hr.elem hj
 exact wl_r (o_load (t := 35) Tryz.isAgg35 hx (h1.u hb 1 _ rfl)) (hk A1 c1 h2 h3 h4) ht hg hd
end
set_option maxRecDepth 100000 in
theorem C_kRecs {A B : Option Addr} {a b : List Rc} {n m c d : Nat} (w : World) (hA : RRec w A a) (hB : RRec w B b) (hn : n = a.length) (hm : m = b.length) (hl : a.length ≤ 4000000000) (hl2 : b.length ≤ 4000000000) :
  CallsR Tryz.prog 23 [.slice A n c, .slice B m d] w fun v w' => v = .bool (decide (a = b)) ∧ Below w.heap.size w w' := by
 subst hn; subst hm
 refine callsR Tryz.func23 rfl rfl (by kernel_rfl) rfl ?_
 have hw := Below.refl w.heap.size w
 refine zs (za rfl (wl_nil (rk_seq (zs (zm rfl ?_)))))
 refine zp (o_len (t := 44) Tryz.underlying44 rfl) ?_
 refine zm rfl ?_
 refine zp (o_len (t := 44) Tryz.underlying44 rfl) ?_
 refine zp (o_ne rfl rfl) ?_
 refine wl_nil ?_
 refine rk_if rfl (fun h10 => ?_) (fun h10 => ?_)
 ·refine zs ?_
  refine za rfl (wl_nil ?_)
  refine ret1 rfl rfl ?_
  exact ⟨by rw [decide_eq_false (fun e => by rw [e] at h10; omega)], hw⟩
 ·refine rk_skip ?_
  refine rk_seq (zs (za rfl (wl_nil (rk_block ?_))))
  refine rk_joinf (fun fb fr w2 => fr = [] ++ fb.drop 1 ∧ a = b ∧ Below w.heap.size w w2) ?_ (fun ks hj => ?_)
  rotate_left
  ·refine rk_loopf (fun fb k fr w2 => ∃ (i : Nat) (v : Int), fr = [(5, .int .i64 v)] ++ fb.drop 1 ∧ v = i ∧ i ≤ a.length ∧ k = a.length - i ∧ a.take i = b.take i ∧ Below w.heap.size w w2) (n := a.length) (Fr.le_of (by kernel_rfl) (by kernel_rfl) (by repeat' constructor)) ⟨0, _, rfl, rfl, by omega, rfl, rfl, hw⟩ ?_
   clear hw
   rintro k fr w2 ⟨i, v, rfl, rfl, hi, rfl, heq, hw⟩
   first | refine zf ?_ | refine zg ?_
   refine rk_seq (zs (zm rfl (zm rfl ?_)))
   refine zp (o_len (t := 44) Tryz.underlying44 rfl) ?_
   refine zp (o_lt rfl rfl) ?_
   refine wl_nil ?_
   refine rk_if rfl (fun h14 => ?_) (fun h14 => ?_)
   ·have h1 : i < a.length := by omega
    have h2 : i < b.length := by omega
    refine rk_skip (rk_seq (rk_block (rk_seq ?_)))
    refine rk_draw (id := 6) (none) [0, 0, 3, 4, 0, 0, 48, 64, 136, 256] [0, 0, 3, 7, 0, 0, 48, 112, 255, 511] 256 0 [(.p, 0), (.p, 1), (.p, 2), (.r, 3), (.p, 4), (.p, 5), (.p, 6), (.r, 7), (.l, 8), (.p, 9)] (by kernel_rfl) (by kernel_rfl) (by kernel_rfl) (by kernel_rfl) (by kernel_rfl) ?_
    replace hw := hw.drew
    refine zm rfl (zm rfl ?_)
    refine zp (o_iaddrA (i) Tryz.underlying44 Tryz.sizeOf37 rfl rfl rfl (hA.some_ (by omega)) (by omega)) ?_
    refine wl_ldRec rfl hA hw (by omega) ?_
    rintro A120 c120 f20 i20 i20_1
    refine zm rfl (zm rfl ?_)
    refine zp (o_iaddrA (i) Tryz.underlying44 Tryz.sizeOf37 rfl rfl rfl (hB.some_ (by omega)) (by omega)) ?_
    refine wl_ldRec rfl hB hw (by omega) ?_
    rintro A124 c124 f24 i24 i24_1
    refine wl_call rfl (C_kRecZ _ (by rfl) (by rfl) (f20.u hw) (f24.u hw) rfl rfl) ?_
    rintro v25 w25 ⟨rfl, b25⟩
    simp only [drew_size] at b25
    have s25 := b25.size
    simp only [drew_size] at s25
    replace hw := hw.trans (b25.mono hw.size)
    refine zp (o_not rfl) ?_
    refine wl_nild ?_
    refine rk_cond rfl (fun h26 => ?_) (fun h26 => ?_) <;> try simp only [decide_eq_true_eq, decide_eq_false_iff_not, Bool.not_eq_true', Bool.not_eq_false', Bool.and_eq_true, Bool.and_eq_false_iff, Bool.or_eq_true, Bool.or_eq_false_iff] at h26
    ·refine zs ?_
     refine za rfl (wl_nil ?_)
     refine ret1 rfl rfl ?_
     exact ⟨by rw [decide_eq_false (fun e => by subst e; simp at h26)], hw⟩
    ·refine rk_skip ?_
     refine rk_blk ?_
     refine rk_region (zm rfl ?_)
     refine zp (o_add rfl rfl (by omega) (by omega)) ?_
     refine za rfl (wl_nil ?_)
     exact rk_againf (Fr.le_of (by kernel_rfl) (by kernel_rfl) (by repeat' constructor)) ⟨i + 1, (i : Int) + 1, rfl, by omega, by omega, rfl, by rw [List.take_succ_eq_append_getElem h1, List.take_succ_eq_append_getElem h2, heq]; simp at h26; rw [show a[i] = b[i] from Prod.ext h26.1 h26.2], hw⟩ (by omega)
   ·refine rk_exit rfl ?_
    obtain rfl : i = a.length := by omega
    have e : a = b := by
     rw [List.take_length] at heq
     rw [heq]; exact List.take_of_length_le (by omega)
    exact rk_tof hj (Fr.le_of (by kernel_rfl) (by kernel_rfl) (by repeat' constructor)) ⟨rfl, e, hw⟩
  clear hw
  rintro fr w2 ⟨rfl, e, hw⟩
  first | refine zf ?_ | refine zg ?_
  refine zs (za rfl (wl_nil ?_))
  refine ret1 rfl rfl ?_
  exact ⟨by rw [decide_eq_true e], hw⟩
end Go.Proofs.YtnnhenafhalobaaGreat
namespace Go.Proofs.YtnnhenafhalobaaGreat
set_option maxRecDepth 100000
open Go.RowKit
noncomputable def allR (c b : By) : List Rc := by
 classical
 exact if h : ∃ L, AllP c b L then h.choose else []
theorem AllP.eq {c b : By} {L : List Rc} (h : AllP c b L) : allR c b = L := by
 unfold allR
 rw [dif_pos ⟨L, h⟩]
 exact AllP.uniq (Exists.choose_spec (⟨L, h⟩ : ∃ L, AllP c b L)) h
theorem AllP.ex (c b : By) : ∃ L, AllP c b L := by
 have key : ∀ (n : Nat) (c b : By), b.length ≤ n → ∃ L, AllP c b L := by
  intro n
  induction n with
  | zero =>
   intro c b h
   obtain rfl : b = [] := List.length_eq_zero_iff.1 (by omega)
   exact ⟨[], [], rfl, by simp, by rw [chainAll, readR_nil]; simp⟩
  | succ n ih =>
   intro c b h
   by_cases he : (readR c b).2.2.2 = 0
   ·obtain ⟨⟨r, z, x, e⟩, hr⟩ : ∃ s, readR c b = s := ⟨_, rfl⟩
    rw [hr] at he
    simp only at he
    subst he
    obtain ⟨h1, h2, h3, q, h4⟩ := readR_back hr
    have hl := congrArg List.length h4
    rw [List.length_append, bytesR_len] at hl
    obtain ⟨L, p, k1, k2, k3⟩ := ih x q (by omega)
    refine ⟨r :: L, p, ?_, fun y hy => ?_, ?_⟩
    ·rw [h4, bytesAll, ← h3, List.append_assoc, ← k1]
    ·rcases List.mem_cons.1 hy with e | e
     ·subst e; exact h1
     ·exact k2 y e
    ·rw [chainAll, ← h3]; exact k3
   ·exact ⟨[], b, rfl, by simp, he⟩
 exact key _ c b (Nat.le_refl _)
theorem AllP.fun {c b : By} : AllP c b (allR c b) := by
 obtain ⟨L, h⟩ := AllP.ex c b
 rw [h.eq]; exact h
theorem C_AllN {A : Option Addr} {b c ch : By} {L : List Rc} {n nb cap : Nat} (w : World) (hr : allR c b = L) (h1 : (bytesAll c L).length = nb) (h2 : chainAll c L = ch) (hb : Rd w A b) (hn : n = b.length) (hcap : b.length ≤ cap) (hc : c.length = 32) (hl : b.length ≤ 400000) :
  CallsR Tryz.prog 54 [.agg (B8 c).toArray, .slice A n cap] w fun v w' => ∃ (A' : Option Addr) (c' : Nat), v = .tuple #[.slice A' L.length c', .int .i64 (nb : Int), .agg (B8 ch).toArray] ∧ OwnRec w' w.heap.size w'.heap.size A' c' L ∧ Below w.heap.size w w' := by
 refine (C_AllR w hb hn hcap hc hl).mono ?_
 rintro v w' ⟨L', A', c', rfl, hA, hO, hw⟩
 obtain rfl : L = L' := by rw [← hr]; exact hA.eq
 rw [h1, h2]
 exact ⟨A', c', rfl, hO, hw⟩
theorem AllP.part {c B : By} {M : List Rc} (h : AllP c B M) (i : Nat) :
  AllP (chainAll c (M.take i)) (B.drop (bytesAll c (M.take i)).length) (M.drop i) ∧ (bytesAll c (M.take i)).length + (bytesAll (chainAll c (M.take i)) (M.drop i)).length = (bytesAll c M).length ∧ chainAll (chainAll c (M.take i)) (M.drop i) = chainAll c M ∧ (bytesAll c (M.take i)).length ≤ B.length := by
 obtain ⟨q, hq, ho, he⟩ := h
 have e1 : bytesAll c M = bytesAll c (M.take i) ++ bytesAll (chainAll c (M.take i)) (M.drop i) := by rw [← bytesAll_append, List.take_append_drop]
 have e2 : chainAll c M = chainAll (chainAll c (M.take i)) (M.drop i) := by rw [← chainAll_append, List.take_append_drop]
 refine ⟨⟨q, ?_, fun r hr => ho r (List.mem_of_mem_drop hr), by rw [← e2]; exact he⟩, by rw [e1, List.length_append], e2.symm, by rw [hq, e1, List.length_append, List.length_append]; omega⟩
 rw [hq, e1, List.append_assoc, List.drop_left]
theorem AllP.head {c B : By} {r : Rc} {M : List Rc} (h : AllP c B (r :: M)) : readR c B = (r, (bytesR c r).length, nextB c r, 0) ∧ OkR r := by
 obtain ⟨q, hq, ho, he⟩ := h
 have h1 := ho r (by simp)
 exact ⟨by rw [hq, bytesAll, List.append_assoc, readR_own c h1], h1⟩
theorem C_SizeOk {k : UInt8} {x : Int} {A : Option Addr} {p : By} {n c z : Nat} (w : World) (hp : Rd w A p) (hk : x = (k.toNat : Int)) (hz : (bodyB (k, p)).length + 8 = z) (hO : OkR (k, p)) (hn : n = p.length) (hl : p.length ≤ 10000) :
  CallsR Tryz.prog 57 [.agg #[.int .u8 x, .slice A n c]] w fun v w' => v = .int .i64 (z : Int) ∧ Below w.heap.size w w' := by
 refine (C_SizeZ w hk hn hl hp).mono ?_
 rintro v w' ⟨rfl, h⟩
 rw [if_pos hO]
 exact ⟨by rw [← hz]; simp, h⟩
end Go.Proofs.YtnnhenafhalobaaGreat
namespace Go.Proofs.YtnnhenafhalobaaGreat
set_option maxRecDepth 100000
open Go.RowKit
abbrev D32 := { l : List UInt8 // l.length = 32 }
theorem d32_cases (u : D32) (p : D32 → Prop) (h : ∀ b0 b1 b2 b3 b4 b5 b6 b7 b8 b9 b10 b11 b12 b13 b14 b15 b16 b17 b18 b19 b20 b21 b22 b23 b24 b25 b26 b27 b28 b29 b30 b31 : UInt8, p ⟨[b0, b1, b2, b3, b4, b5, b6, b7, b8, b9, b10, b11, b12, b13, b14, b15, b16, b17, b18, b19, b20, b21, b22, b23, b24, b25, b26, b27, b28, b29, b30, b31], rfl⟩) : p u := by
 obtain ⟨l, hl⟩ := u
 match l, hl with
 | [b0, b1, b2, b3, b4, b5, b6, b7, b8, b9, b10, b11, b12, b13, b14, b15, b16, b17, b18, b19, b20, b21, b22, b23, b24, b25, b26, b27, b28, b29, b30, b31], _ => exact h ..
def jC (J d : Option Addr) (a : Int) (e : Nat) (L : Option Addr) (n c : Nat) (t : Int) (ch : By) (k s : Int) : List Value := [.pointer J, .pointer d, .int .i64 a, .int .u64 (e : Int), .slice L n c, .int .i64 t] ++ (B8 ch ++ [.int .i64 k, .int .i64 s])
section
variable {J d L : Option Addr} {a t k s t' k' s' : Int} {e n c : Nat} {ch ch' : By}
theorem jC_length (h : ch.length = 32) : (jC J d a e L n c t ch k s).length = 40 := by simp [jC, B8_length, h]
theorem jC_one : ∀ v ∈ jC J d a e L n c t ch k s, v.oneCell' = true := by
 intro v hv
 simp only [jC, List.cons_append, List.nil_append, List.mem_cons, List.mem_append, List.not_mem_nil, or_false] at hv
 rcases hv with rfl | rfl | rfl | rfl | rfl | rfl | hv | rfl | rfl
 all_goals first | rfl | exact B8_oneCell _ _ hv
theorem jC_ch (h : ch.length = 32) : ((jC J d a e L n c t ch k s).drop (0 + 6)).take 32 = B8 ch := by
 show (B8 ch ++ _).take 32 = _
 rw [List.take_left' (by rw [B8_length, h])]
theorem jC_k (h : ch.length = 32) : (jC J d a e L n c t ch k s)[0 + 38]? = some (.int .i64 k) := by
 show (B8 ch ++ [Value.int .i64 k, .int .i64 s])[32]? = _
 rw [List.getElem?_append_right (by rw [B8_length, h]; omega), B8_length, h]; rfl
theorem jC_s (h : ch.length = 32) : (jC J d a e L n c t ch k s)[0 + 39]? = some (.int .i64 s) := by
 show (B8 ch ++ [Value.int .i64 k, .int .i64 s])[33]? = _
 rw [List.getElem?_append_right (by rw [B8_length, h]; omega), B8_length, h]; rfl
theorem jC_setk (h : ch.length = 32) : (jC J d a e L n c t ch k s).set 38 (.int .i64 k') = jC J d a e L n c t ch k' s := by
 show _ :: _ :: _ :: _ :: _ :: _ :: (B8 ch ++ [Value.int .i64 k, .int .i64 s]).set 32 _ = _
 rw [List.set_append_right _ _ (by rw [B8_length, h]; omega), B8_length, h]; rfl
theorem jC_sets (h : ch.length = 32) : (jC J d a e L n c t ch k s).set 39 (.int .i64 s') = jC J d a e L n c t ch k s' := by
 show _ :: _ :: _ :: _ :: _ :: _ :: (B8 ch ++ [Value.int .i64 k, .int .i64 s]).set 33 _ = _
 rw [List.set_append_right _ _ (by rw [B8_length, h]; omega), B8_length, h]; rfl
theorem jC_setch (h : ch.length = 32) (h' : ch'.length = 32) : spl (jC J d a e L n c t ch k s) 6 (B8 ch') = jC J d a e L n c t ch' k s := by
 have e1 : (jC J d a e L n c t ch k s).take 6 = [.pointer J, .pointer d, .int .i64 a, .int .u64 (e : Int), .slice L n c, .int .i64 t] := rfl
 have e2 : (jC J d a e L n c t ch k s).drop (6 + (B8 ch').length) = [.int .i64 k, .int .i64 s] := by
  rw [B8_length, h', show 6 + 32 = 38 from rfl]
  show (B8 ch ++ [Value.int .i64 k, .int .i64 s]).drop 32 = _
  rw [List.drop_left' (by rw [B8_length, h])]
 unfold spl
 rw [e1, e2]
 rfl
end
section
variable {fn : Func} {F : Ending → World → Prop} {N : Nat} {ks : List K} {ops : Array Oper} {tg : Tags} {l : List Oper} {fr : Fr} {w : World} {ty T : TypeId} {pos : String} {aft : Array Edge} {gd : Option (Nat × Bool)} {g : Nat} {x y z q : Operand} {J d J' L L' : Option Addr} {a t k s t' k' s' : Int} {e n c n' c' : Nat} {ch ch' : By}
theorem o_ldJch (hx : fr.ev x = some (.pointer (some ⟨g, 0 + 6, none⟩))) (hB : Blk w g T (jC J d a e L n c t ch k s)) (h : ch.length = 32) : OpV Tryz.prog N fr w (.load 64 x) ty (.agg (B8 ch).toArray) w :=
 o_loadCut Tryz.isAgg64 Tryz.sizeOf64 hx hB (jC_ch h) (by rw [B8_length, h])
theorem o_ldJk (hx : fr.ev x = some (.pointer (some ⟨g, 0 + 38, none⟩))) (hB : Blk w g T (jC J d a e L n c t ch k s)) (h : ch.length = 32) : OpV Tryz.prog N fr w (.load 3 x) ty (.int .i64 k) w :=
 o_loadbg Tryz.isAgg3 hx hB (jC_k h)
theorem o_ldJs (hx : fr.ev x = some (.pointer (some ⟨g, 0 + 39, none⟩))) (hB : Blk w g T (jC J d a e L n c t ch k s)) (h : ch.length = 32) : OpV Tryz.prog N fr w (.load 3 x) ty (.int .i64 s) w :=
 o_loadbg Tryz.isAgg3 hx hB (jC_s h)
theorem o_ldJ (hx : fr.ev x = some (.pointer (some ⟨g, 0, none⟩))) (hB : Blk w g T (jC J d a e L n c t ch k s)) (h : ch.length = 32) : OpV Tryz.prog N fr w (.load 85 x) ty (.agg (jC J d a e L n c t ch k s).toArray) w :=
 o_loadag Tryz.isAgg85 Tryz.sizeOf85 hx hB (jC_length h)
theorem wl_stJ {J2 d2 L2 : Option Addr} {a2 t2 k2 s2 : Int} {e2 n2 c2 : Nat} {ch2 : By} (hx : fr.ev x = some (.pointer (some ⟨g, 0, none⟩))) (hy : fr.ev y = some (.agg (jC J d a e L n c t ch k s).toArray)) (h : ch.length = 32) (hB : Blk w g T (jC J2 d2 a2 e2 L2 n2 c2 t2 ch2 k2 s2)) (h2 : ch2.length = 32)
  (hk : ∀ w', Blk w' g T (jC J d a e L n c t ch k s) → Grew w w' T (some g) → w'.heap.size = w.heap.size → WL Tryz.prog fn F N ks ops tg.tail l fr w') (ht : tg.loud = true := by rfl) (hg : onG ops fr gd = true := by rfl) (hq : tg.calm = false ∨ tg.rw.may (some g) := by exact .inl rfl) :
  WL Tryz.prog fn F N ks ops tg (⟨none, .store 85 x y, ty, pos, aft, gd⟩ :: l) fr w :=
 wl_storega Tryz.sizeOf85 hx hy (jC_length h) jC_one hB (jC_length h2) hk ht hg hq
theorem wl_stJself (hx : fr.ev x = some (.pointer (some ⟨g, 0 + 0, none⟩))) (hB : Blk w g T (jC J d a e L n c t ch k s)) (hy : fr.ev y = some (.pointer J')) (h : ch.length = 32)
  (hk : ∀ w', Blk w' g T (jC J' d a e L n c t ch k s) → Grew w w' T (some g) → w'.heap.size = w.heap.size → WL Tryz.prog fn F N ks ops tg.tail l fr w') (ht : tg.loud = true := by rfl) (hg : onG ops fr gd = true := by rfl) (hq : tg.calm = false ∨ tg.rw.may (some g) := by exact .inl rfl) :
  WL Tryz.prog fn F N ks ops tg (⟨none, .store 31 x y, ty, pos, aft, gd⟩ :: l) fr w :=
 wl_storeg1 Tryz.sizeOf31 hx hy rfl hB (by rw [jC_length h]; omega) hk ht hg hq
theorem wl_stJlog (hx : fr.ev x = some (.pointer (some ⟨g, 0 + 4, none⟩))) (hB : Blk w g T (jC J d a e L n c t ch k s)) (hy : fr.ev y = some (.slice L' n' c')) (h : ch.length = 32)
  (hk : ∀ w', Blk w' g T (jC J d a e L' n' c' t ch k s) → Grew w w' T (some g) → w'.heap.size = w.heap.size → WL Tryz.prog fn F N ks ops tg.tail l fr w') (ht : tg.loud = true := by rfl) (hg : onG ops fr gd = true := by rfl) (hq : tg.calm = false ∨ tg.rw.may (some g) := by exact .inl rfl) :
  WL Tryz.prog fn F N ks ops tg (⟨none, .store 35 x y, ty, pos, aft, gd⟩ :: l) fr w :=
 wl_storeg1 Tryz.sizeOf35 hx hy rfl hB (by rw [jC_length h]; omega) hk ht hg hq
theorem wl_stJtail (hx : fr.ev x = some (.pointer (some ⟨g, 0 + 5, none⟩))) (hB : Blk w g T (jC J d a e L n c t ch k s)) (hy : fr.ev y = some (.int .i64 t')) (h : ch.length = 32)
  (hk : ∀ w', Blk w' g T (jC J d a e L n c t' ch k s) → Grew w w' T (some g) → w'.heap.size = w.heap.size → WL Tryz.prog fn F N ks ops tg.tail l fr w') (ht : tg.loud = true := by rfl) (hg : onG ops fr gd = true := by rfl) (hq : tg.calm = false ∨ tg.rw.may (some g) := by exact .inl rfl) :
  WL Tryz.prog fn F N ks ops tg (⟨none, .store 80 x y, ty, pos, aft, gd⟩ :: l) fr w :=
 wl_storeg1 Tryz.sizeOf80 hx hy rfl hB (by rw [jC_length h]; omega) hk ht hg hq
theorem wl_stJch (hx : fr.ev x = some (.pointer (some ⟨g, 0 + 6, none⟩))) (hB : Blk w g T (jC J d a e L n c t ch k s)) (hy : fr.ev y = some (.agg (B8 ch').toArray)) (h : ch.length = 32) (h' : ch'.length = 32)
  (hk : ∀ w', Blk w' g T (jC J d a e L n c t ch' k s) → Grew w w' T (some g) → w'.heap.size = w.heap.size → WL Tryz.prog fn F N ks ops tg.tail l fr w') (ht : tg.loud = true := by rfl) (hg : onG ops fr gd = true := by rfl) (hq : tg.calm = false ∨ tg.rw.may (some g) := by exact .inl rfl) :
  WL Tryz.prog fn F N ks ops tg (⟨none, .store 64 x y, ty, pos, aft, gd⟩ :: l) fr w :=
 wl_storegn (n := 32) Tryz.sizeOf64 hx hy (by rw [B8_length, h']) (B8_oneCell _) hB (by rw [jC_length h]; omega) (fun w' h1 h2 h3 => hk w' (by rw [show (0 + 6) = 6 from rfl, jC_setch h h'] at h1; exact h1) h2 h3) ht hg hq
theorem wl_stJk (hx : fr.ev x = some (.pointer (some ⟨g, 0 + 38, none⟩))) (hB : Blk w g T (jC J d a e L n c t ch k s)) (hy : fr.ev y = some (.int .i64 k')) (h : ch.length = 32)
  (hk : ∀ w', Blk w' g T (jC J d a e L n c t ch k' s) → Grew w w' T (some g) → w'.heap.size = w.heap.size → WL Tryz.prog fn F N ks ops tg.tail l fr w') (ht : tg.loud = true := by rfl) (hg : onG ops fr gd = true := by rfl) (hq : tg.calm = false ∨ tg.rw.may (some g) := by exact .inl rfl) :
  WL Tryz.prog fn F N ks ops tg (⟨none, .store 3 x y, ty, pos, aft, gd⟩ :: l) fr w :=
 wl_storeg1 Tryz.sizeOf3 hx hy rfl hB (by rw [jC_length h]; omega) (fun w' h1 h2 h3 => hk w' (by rw [show (0 + 38) = 38 from rfl, jC_setk h] at h1; exact h1) h2 h3) ht hg hq
theorem wl_stJs (hx : fr.ev x = some (.pointer (some ⟨g, 0 + 39, none⟩))) (hB : Blk w g T (jC J d a e L n c t ch k s)) (hy : fr.ev y = some (.int .i64 s')) (h : ch.length = 32)
  (hk : ∀ w', Blk w' g T (jC J d a e L n c t ch k s') → Grew w w' T (some g) → w'.heap.size = w.heap.size → WL Tryz.prog fn F N ks ops tg.tail l fr w') (ht : tg.loud = true := by rfl) (hg : onG ops fr gd = true := by rfl) (hq : tg.calm = false ∨ tg.rw.may (some g) := by exact .inl rfl) :
  WL Tryz.prog fn F N ks ops tg (⟨none, .store 3 x y, ty, pos, aft, gd⟩ :: l) fr w :=
 wl_storeg1 Tryz.sizeOf3 hx hy rfl hB (by rw [jC_length h]; omega) (fun w' h1 h2 h3 => hk w' (by rw [show (0 + 39) = 39 from rfl, jC_sets h] at h1; exact h1) h2 h3) ht hg hq
theorem o_bldJ {u : D32} (hx : fr.ev x = some (.pointer d)) (hy : fr.ev y = some (.int .i64 a)) (hz : fr.ev z = some (.int .u64 (e : Int))) (hq : fr.ev q = some (.agg (B8 u.1).toArray)) : OpV Tryz.prog N fr w (.build 85 #[(1, x), (2, y), (3, z), (6, q)]) ty (.agg (jC none d a e none 0 0 0 u.1 0 0).toArray) w :=
 o_build (is := [1, 2, 3, 6]) (xs := [x, y, z, q]) (vs := [.pointer d, .int .i64 a, .int .u64 (e : Int), .agg (B8 u.1).toArray]) (by simp [Fr.evs, hx, hy, hz, hq]) (fun w => d32_cases u (fun u => (Instr.build 85 ([1, 2, 3, 6].zip [.pointer d, .int .i64 a, .int .u64 (e : Int), .agg (B8 u.1).toArray]).toArray).run Tryz.prog w = .ok (.agg (jC none d a e none 0 0 0 u.1 0 0).toArray) w) (by intros; kernel_rfl))
end
theorem C_jMade {d : Option Addr} {a z : Int} {e : Nat} {u : D32} (w : World) (hz : z = e) (he : e < 18446744073709551616) (hu : sumB [wB8 e] = u.1) :
  CallsR Tryz.prog 47 [.pointer d, .int .i64 a, .int .u64 z] w fun v w' => ∃ g, v = .pointer (some ⟨g, 0, none⟩) ∧ Blk w' g 85 (jC (some ⟨g, 0, none⟩) d a e none 0 0 0 u.1 0 0) ∧ w.heap.size ≤ g ∧ Below w.heap.size w w' := by
 subst hz
 have hu32 := u.2
 refine callsR Tryz.func47 rfl rfl (by kernel_rfl) rfl ?_
 have hw := Below.refl w.heap.size w
 refine zs (za rfl (wl_nil (zs (zm rfl (zm rfl (zm rfl (zm rfl ?_)))))))
 refine wl_call rfl (C_First _ rfl (by omega) hu) ?_
 rintro v12 w12 ⟨rfl, b12⟩
 have s12 := b12.size
 replace hw := hw.trans (b12.mono hw.size)
 refine zp (o_bldJ rfl rfl rfl rfl) ?_
 refine wl_boxg _ rfl (by rfl) ?_
 rintro g14 w14 f14 b14 i14 i14_1
 have s14 := b14.size
 replace hw := hw.trans (b14.mono hw.size)
 refine za rfl (wl_nil (zs (zm rfl (zm rfl ?_))))
 refine zp (o_nil rfl) ?_
 refine zp (o_faddr (s := 85) (i := 0) (off := 0) Tryz.underlying85 rfl Tryz.sizeOf31 rfl rfl rfl) ?_
 refine wl_stJself rfl f14 rfl hu32 ?_
 rintro w_1 f g e_1
 have s := g.size
 replace hw := hw.trans (below_of_grownBy g.g hw.size (by omega))
 clear f14
 refine wl_nil (zs (zm rfl (za rfl (wl_nil ?_))))
 refine ret1 rfl rfl ?_
 exact ⟨_, rfl, f, by omega, hw⟩
theorem K_jSectors {a : Int} (w : World) : CallsR Tryz.prog 11 [.int .i64 a] w fun v w' => v = .int .i64 (if 1 ≤ a ∧ a ≤ 256 then 2 + 2 * a else 0) ∧ w' = w := by
 refine callsR Tryz.func11 rfl rfl (by kernel_rfl) rfl ?_
 by_cases h1 : 1 ≤ a
 ·by_cases h2 : a ≤ 256
  ·rw [if_pos ⟨h1, h2⟩]
   refine zs (za rfl (wl_nil (rk_seq (zs (zm rfl ?_)))))
   refine zp (o_lt rfl rfl) ?_
   refine zm rfl ?_
   refine wl_know 5 false rfl (decide_eq_false (by omega)) ?_
   refine zm rfl ?_
   refine zp (o_gt rfl rfl) ?_
   refine zp (o_pick_f rfl rfl) ?_
   refine wl_nil ?_
   refine rk_if rfl (fun h8 => absurd h8 (by omega)) (fun h8 => ?_)
   refine rk_skip (zs (zm rfl ?_))
   refine zp (o_mul rfl rfl (by omega) (by omega)) ?_
   refine zp (o_add rfl rfl (by omega) (by omega)) ?_
   refine za rfl (wl_nil ?_)
   refine ret1 rfl rfl ?_
   exact ⟨rfl, rfl⟩
  ·rw [if_neg (fun h => h2 h.2)]
   refine zs (za rfl (wl_nil (rk_seq (zs (zm rfl ?_)))))
   refine zp (o_lt rfl rfl) ?_
   refine zm rfl ?_
   refine wl_know 5 false rfl (decide_eq_false (by omega)) ?_
   refine zm rfl ?_
   refine zp (o_gt rfl rfl) ?_
   refine zp (o_pick_f rfl rfl) ?_
   refine wl_nil ?_
   refine rk_if rfl (fun h8 => ?_) (fun h8 => h8.elim (by omega))
   refine zs (za rfl (wl_nil ?_))
   refine ret1 rfl rfl ?_
   exact ⟨rfl, rfl⟩
 ·rw [if_neg (fun h => h1 h.1)]
  refine zs (za rfl (wl_nil (rk_seq (zs (zm rfl ?_)))))
  refine zp (o_lt rfl rfl) ?_
  refine zm rfl ?_
  refine wl_know 5 true rfl (decide_eq_true (by omega)) ?_
  refine wl_off (wl_off ?_)
  refine zp (o_pick_t rfl rfl) ?_
  refine wl_nil ?_
  refine rk_true rfl ?_
  refine zs (za rfl (wl_nil ?_))
  refine ret1 rfl rfl ?_
  exact ⟨rfl, rfl⟩
theorem C_jSectorsY {a : Int} (w : World) (h : 1 ≤ a ∧ a ≤ 256) : CallsR Tryz.prog 11 [.int .i64 a] w fun v w' => v = .int .i64 (2 + 2 * a) ∧ w' = w := by
 have := K_jSectors (a := a) w
 rwa [if_pos h] at this
theorem C_jSectorsN {a : Int} (w : World) (h : ¬(1 ≤ a ∧ a ≤ 256)) : CallsR Tryz.prog 11 [.int .i64 a] w fun v w' => v = .int .i64 0 ∧ w' = w := by
 have := K_jSectors (a := a) w
 rwa [if_neg h] at this
theorem C_jFirst {z a : Int} {e m n : Nat} (w : World) (hz : z = e) (ha : a = m) (hn : 2 + e % 2 * m = n) (he : e < 18446744073709551616) (hm : m ≤ 256) : CallsR Tryz.prog 43 [.int .u64 z, .int .i64 a] w fun v w' => v = .int .i64 (n : Int) ∧ w' = w := by
 subst hz; subst ha; subst hn
 refine callsR Tryz.func43 rfl rfl (by kernel_rfl) rfl ?_
 refine zs (za rfl (wl_nil (zs (zm rfl ?_))))
 refine zp (o_remu rfl rfl (by omega) (by omega)) ?_
 refine zp (o_convi64 (src := 52) (dst := 3) Tryz.underlying52 Tryz.underlying3 rfl (by omega) (by omega)) ?_
 refine zm rfl ?_
 rcases (show e % 2 = 0 ∨ e % 2 = 1 by omega) with h | h
 ·rw [h, show (e : Int) % 2 = 0 by omega]
  refine zp (o_mul rfl rfl (by omega) (by omega)) ?_
  refine zp (o_add rfl rfl (by omega) (by omega)) ?_
  refine za rfl (wl_nil ?_)
  refine ret1 rfl rfl ?_
  exact ⟨congrArg (Value.int .i64) (by omega), rfl⟩
 ·rw [h, show (e : Int) % 2 = 1 by omega]
  refine zp (o_mul rfl rfl (by omega) (by omega)) ?_
  refine zp (o_add rfl rfl (by omega) (by omega)) ?_
  refine za rfl (wl_nil ?_)
  refine ret1 rfl rfl ?_
  exact ⟨congrArg (Value.int .i64) (by omega), rfl⟩
end Go.Proofs.YtnnhenafhalobaaGreat
namespace Go.Proofs.YtnnhenafhalobaaGreat
set_option maxRecDepth 100000
open Go.RowKit
def hd12 (e a : Nat) : By := wB8 e ++ leB 4 a
theorem hd12_len (e a : Nat) : (hd12 e a).length = 12 := by rw [hd12, List.length_append, wB8_len, leB_length]
def headB (e a : Nat) : By := hd12 e a ++ (sumB [hd12 e a]).take 8 ++ List.replicate 236 0
theorem headB_len (e a : Nat) : (headB e a).length = 256 := by
 rw [headB, List.length_append, List.length_append, hd12_len, List.length_take, sumB_len, List.length_replicate]
 rfl
section
variable {fn : Func} {F : Ending → World → Prop} {N : Nat} {ks : List K} {ops : Array Oper} {tg : Tags} {l : List Oper} {fr : Fr} {w : World} {ty : TypeId} {pos : String} {aft : Array Edge} {gd : Option (Nat × Bool)} {d n c lo hi : Nat} {x y : Operand} {A : Option Addr} {s : List UInt8}
theorem wl_appZj (m : Nat) {M : Int} (hx : fr.ev x = some (.slice A n c)) (hown : OwnH w lo hi A c s) (hn : n = s.length) (hy : fr.ev y = some (.int .i64 M)) (hM : M = (m : Int)) (hm : 0 < m) (hlen : s.length + m ≤ 4000000000) (hB : lo ≤ w.heap.size)
  (h : ∀ A' c' w', OwnH w' lo w'.heap.size A' c' (s ++ List.replicate m 0) → Grew w w' 5 (blk A) → Below lo w w' → WL Tryz.prog fn F N ks ops tg.tail l ((d, .slice A' (s ++ List.replicate m 0).length c') :: fr) w')
  (ht : tg.loud = true := by rfl) (hg : onG ops fr gd = true := by rfl) (hd : Nat.blt d N = true := by rfl) (hq : tg.calm = false ∨ blk A = none ∨ blk A = tg.row := by exact .inl rfl) :
  WL Tryz.prog fn F N ks ops tg (⟨some d, .call { callee := .builtin .append, args := #[x, y], argTypes := #[35, 3] }, ty, pos, aft, gd⟩ :: l) fr w :=
 wl_appZs Tryz.u8 Tryz.underlying3 Tryz.underlying9 m hx hown hn hy hM hm hlen hB h ht hg hd hq
end
theorem C_WordJ4 {A : Option Addr} {l r : By} {z k : Int} {n m c : Nat} (w : World) (hA : Rd w A l) (hz : z = n) (hk : k = 4) (hr : l ++ leB 4 n = r) (hn : n < 18446744073709551616) (hm : m = l.length) (hl : l.length ≤ 4000) :
  CallsR Tryz.prog 77 [.slice A m c, .int .u64 z, .int .i64 k] w fun v w' => ∃ A' c', v = .slice A' r.length c' ∧ OwnH w' w.heap.size w'.heap.size A' c' r ∧ Below w.heap.size w w' := by
 subst hz; subst hk; subst hr; subst hm
 refine (C_Word (A := A) (l := l) c n 4 w hA (by unfold u64; omega) (by omega)).mono ?_
 rintro v w' ⟨A', c', rfl, h, hb⟩
 exact ⟨A', c', rfl, h.h_, hb⟩
theorem C_WordJ8 {z k : Int} {n : Nat} {r : By} (w : World) (hz : z = n) (hk : k = 8) (hr : wB8 n = r) (hn : n < 18446744073709551616) :
  CallsR Tryz.prog 77 [.slice none 0 0, .int .u64 z, .int .i64 k] w fun v w' => ∃ A' c', v = .slice A' r.length c' ∧ OwnH w' w.heap.size w'.heap.size A' c' r ∧ Below w.heap.size w w' := by
 subst hr
 exact C_Word8 w hz hn hk
set_option maxRecDepth 100000 in
theorem C_headBytes {z a : Int} {e m : Nat} {r : By} (w : World) (hz : z = e) (ha : a = m) (hr : headB e m = r) (he : e < 18446744073709551616) (hm : m ≤ 256) :
  CallsR Tryz.prog 46 [.int .u64 z, .int .i64 a] w fun v w' => ∃ A' c', v = .slice A' 256 c' ∧ OwnH w' w.heap.size w'.heap.size A' c' r ∧ r.length = 256 ∧ Below w.heap.size w w' := by
 subst hz; subst ha
 obtain ⟨b8, hb8⟩ : ∃ b, wB8 e = b := ⟨_, rfl⟩
 have l8 : b8.length = 8 := by rw [← hb8, wB8_len]
 obtain ⟨b12, hb12⟩ : ∃ b, b8 ++ leB 4 m = b := ⟨_, rfl⟩
 have l12 : b12.length = 12 := by rw [← hb12, List.length_append, l8, leB_length]
 obtain ⟨s, hs⟩ : ∃ s, sumB [b12] = s := ⟨_, rfl⟩
 have l32 : s.length = 32 := by rw [← hs, sumB_len]
 have hr2 : b12 ++ s.take 8 ++ List.replicate 236 0 = r := by rw [← hr, ← hs, ← hb12, ← hb8]; rfl
 have lr : r.length = 256 := by rw [← hr, headB_len]
 obtain ⟨b20, hb20⟩ : ∃ b, b12 ++ s.take 8 = b := ⟨_, rfl⟩
 have l20 : b20.length = 20 := by rw [← hb20, List.length_append, l12, List.length_take, l32]; rfl
 unfold sumB at hs
 refine callsR Tryz.func46 rfl rfl (by kernel_rfl) rfl ?_
 have hw := Below.refl w.heap.size w
 refine zs (za rfl (wl_nil (zs (zm rfl ?_))))
 refine wl_call rfl (C_WordJ8 _ rfl rfl hb8 (by omega)) ?_
 rintro v8 w8 ⟨A8, ⟨c8, ⟨rfl, ⟨f8, b8_1⟩⟩⟩⟩
 have qf8 := f8.cap
 have s8 := b8_1.size
 replace hw := hw.trans (b8_1.mono hw.size)
 refine zm rfl ?_
 refine zp (o_convu64 (src := 3) (dst := 52) Tryz.underlying3 Tryz.underlying52 rfl (by omega) (by omega)) ?_
 refine wl_call rfl (C_WordJ4 _ f8.to_Rd rfl rfl hb12 (by omega) rfl (by omega)) ?_
 rintro v11 w11 ⟨A11, ⟨c11, ⟨rfl, ⟨f11, b11⟩⟩⟩⟩
 have qf11 := f11.cap
 have s11 := b11.size
 replace hw := hw.trans (b11.mono hw.size)
 replace f8 := f8.u b11
 refine za rfl (wl_nil (zs (zm rfl ?_)))
 refine wl_litK1 (by rfl) rfl f11.to_RdT rfl (by omega) (own_max' (by assumption)) (by rfl) ?_
 rintro A13 w13 f13 b13
 have s13 := b13.size
 replace hw := hw.trans (b13.mono hw.size)
 replace f8 := f8.u b13
 replace f11 := f11.u b13
 refine wl_call rfl (C_Sum _ f13 hs (by rfl) (by simp) (by simp; omega)) ?_
 rintro v14 w14 ⟨rfl, b14⟩
 have s14 := b14.size
 replace hw := hw.trans (b14.mono hw.size)
 replace f11 := f11.u b14
 replace f8 := f8.u b14
 replace f13 := f13.u b14
 refine wl_allocB Tryz.underlying64 Tryz.zeroValue64 (by rfl) ?_
 rintro g6 w6 f6 b6 i6 i6_1
 have s6 := b6.size
 replace hw := hw.trans (b6.mono hw.size)
 replace f13 := f13.u b6
 replace f8 := f8.u b6
 replace f11 := f11.u b6
 refine wl_stBa Tryz.sizeOf64 rfl f6 rfl l32 (by rfl) ?_
 rintro w_1 f g e_1
 have s_1 := g.size
 replace hw := hw.trans (below_of_grownBy g.g hw.size (by omega))
 replace f11 := f11.k g.g (ap_some (by omega))
 replace f8 := f8.k g.g (ap_some (by omega))
 clear f13
 clear f6
 refine wl_nil (zs (zm rfl ?_))
 refine wl_slArrHi (8) Tryz.underlying64 Tryz.sizeOf5 rfl f rfl (by omega) (by omega) ?_
 rintro f16
 refine wl_appB Tryz.u8 rfl f11 rfl rfl f16 (by simp; omega) (by simp; omega) (by omega) ?_
 rintro A17 c17 w17 f17 g17 b17 i17
 have qf17 := f17.cap
 have s17 := g17.size
 replace hw := hw.trans (b17.mono (by omega))
 replace f8 := f8.k g17.g (f11.ap (by omega))
 replace f := f.y g17 (by decide)
 clear f16
 clear f11
 refine za rfl (wl_nil (zs (zm rfl (zm rfl ?_))))
 refine zp (o_len (t := 35) Tryz.underlying35 rfl) ?_
 rw [hb20] at f17 hr2 ⊢
 rw [l20]
 refine zp (o_sub rfl rfl (by omega) (by omega)) ?_
 refine wl_appZj 236 rfl f17 l20.symm rfl (by omega) (by omega) (by omega) (by omega) ?_
 intro A22 c22 w22 f22 g22 b22
 replace hw := hw.trans (b22.mono (by omega))
 rw [hr2] at f22 ⊢
 refine za rfl (wl_nil ?_)
 refine ret1 rfl rfl ?_
 exact ⟨A22, c22, by rw [lr], f22.base (by omega) (by omega), lr, hw⟩
end Go.Proofs.YtnnhenafhalobaaGreat
namespace Go.Proofs.YtnnhenafhalobaaGreat
set_option maxRecDepth 100000
open Go.RowKit
theorem C_ChunkW {A : Option Addr} {n c : Nat} (w : World) :
  CallsR Tryz.prog 75 [.slice A n c, .int .i64 256] w fun v w' => ∃ g h, v = .func (.func 97) #[] #[.pointer (some ⟨g, 0, none⟩), .pointer (some ⟨h, 0, none⟩)] ∧ Blk w' g 35 [.slice A n c] ∧ Blk w' h 3 [.int .i64 256] ∧ w.heap.size ≤ g ∧ g < w'.heap.size ∧ w.heap.size ≤ h ∧ h < w'.heap.size ∧ Below w.heap.size w w' := by
 refine callsR Tryz.func75 rfl rfl (by kernel_rfl) rfl ?_
 have hw := Below.refl w.heap.size w
 refine zs ?_
 refine wl_boxg [_] rfl (by rfl) ?_
 rintro g2 w2 f2 b2 i2 i2_1
 have s2 := b2.size
 replace hw := hw.trans (b2.mono hw.size)
 refine wl_boxg [_] rfl (by rfl) ?_
 rintro g3 w3 f3 b3 i3 i3_1
 have s3 := b3.size
 replace hw := hw.trans (b3.mono hw.size)
 replace f2 := f2.u b3
 refine za rfl (wl_nil (rk_seq (zs ?_)))
 refine wl_r (o_loadbg Tryz.isAgg3 rfl f3 (by rfl)) ?_
 refine zp (o_lt rfl rfl) ?_
 refine wl_nil ?_
 refine rk_false rfl ?_
 refine rk_skip (zs ?_)
 refine zp (o_makeFunc (xs := [.tmp 2, .tmp 3]) rfl) ?_
 refine za rfl (wl_nil ?_)
 refine ret1 rfl rfl ?_
 exact ⟨_, _, rfl, f2, f3, by omega, by omega, by omega, by omega, hw⟩
def encsW (A : Option Addr) (M : Nat) (x : Fin M) : Array Value := #[.slice (A.map (·.add (256 * x.val))) 256 256]
theorem chunk_stopsW {A : Option Addr} {M c g h n : Nat} (hn : 1 ≤ n) (w : World) (hg : Blk w g 35 [.slice A (256 * M) c]) (hh : Blk w h 3 [.int .i64 256]) (hc : 256 * M ≤ c) (hM : M ≤ 10000) :
  SeqStopsK Fence.wide n Tryz.prog 97 #[.pointer (some ⟨g, 0, none⟩), .pointer (some ⟨h, 0, none⟩)] (encsW A M) (KpB g h) (fun xs => xs = List.finRange M) (fun _ => True) M w := fun l J Jx W hb hJ hJx hY h0 => by
 have hgW := hg.under hb
 have hhW := hh.under hb
 have main : CallsR Tryz.prog 97 [.func (.yield l) #[] #[], .pointer (some ⟨g, 0, none⟩), .pointer (some ⟨h, 0, none⟩)] W fun _ w' => (∃ xs, xs = List.finRange M ∧ J xs w') ∨ (∃ pre, True ∧ Jx pre w') := by
  refine callsR Tryz.func97 rfl rfl (by kernel_rfl) rfl ?_
  refine zs (za rfl (wl_nil (rk_block ?_)))
  refine rk_joinf (fun fb fr w2 => fr = [] ++ fb.drop 1 ∧ J (List.finRange M) w2) ?_ (fun ks hj => ?_)
  rotate_left
  ·refine rk_loopf (fun fb m fr w2 => ∃ (k : Nat) (v : Int), fr = [(4, .int .i64 v)] ++ fb.drop 1 ∧ v = 256 * (k : Int) ∧ k ≤ M ∧ m = M - k ∧ J ((List.finRange M).take k) w2 ∧ Blk w2 g 35 [.slice A (256 * M) c] ∧ Blk w2 h 3 [.int .i64 256]) (n := M) (Fr.le_of (by kernel_rfl) (by kernel_rfl) (by repeat' constructor)) ⟨0, _, rfl, rfl, by omega, rfl, by rw [List.take_zero]; exact h0, hgW, hhW⟩ ?_
   clear hgW hhW h0 hg hh
   rintro m fr w2 ⟨k, v, rfl, rfl, hk, rfl, hJk, f1, f2⟩
   first | refine zf ?_ | refine zg ?_
   refine rk_seq (zs (zm rfl ?_))
   refine wl_r (o_loadbg Tryz.isAgg35 rfl f1 (by rfl)) ?_
   refine zp (o_len (t := 35) Tryz.underlying35 rfl) ?_
   refine zp (o_lt rfl rfl) ?_
   refine wl_nil ?_
   refine rk_if rfl (fun h9 => ?_) (fun h9 => ?_)
   ·have hkM : k < M := by omega
    refine rk_skip (rk_seq (rk_block (rk_seq ?_)))
    refine rk_draw (id := 3) (none) [0, 0, 0, 6, 8, 17, 63] [0, 0, 0, 6, 14, 31, 63] 0 0 [(.r, 0), (.r, 1), (.p, 2), (.p, 3), (.p, 4), (.p, 5), (.p, 6)] (by kernel_rfl) (by kernel_rfl) (by kernel_rfl) (by kernel_rfl) (by kernel_rfl) ?_
    replace f2 := f2.d
    replace f1 := f1.d
    refine wl_r (o_loadbg Tryz.isAgg3 rfl f2 (by rfl)) ?_
    refine wl_r (o_loadbg Tryz.isAgg35 rfl f1 (by rfl)) ?_
    refine zm rfl ?_
    refine zp (o_sliceLoB (256 * k) Tryz.underlying35 Tryz.sizeOf5 rfl rfl (by omega) (by omega)) ?_
    refine zp (o_len (t := 35) Tryz.underlying35 rfl) ?_
    refine zp (o_min rfl rfl) ?_
    refine za rfl ?_
    refine wl_nild ?_
    rw [show min (256 : Int) ((256 * M - 256 * k : Nat) : Int) = 256 by omega]
    have hJd : J ((List.finRange M).take k) w2.drew := hJ _ _ _ none hJk (grownBy_drew w2 none) (fun r e => by cases e)
    have hlen : ((List.finRange M).take k).length < M := by rw [List.length_take, List.length_finRange]; omega
    have hYk := hY _ ⟨k, hkM⟩ _ hJd hlen
    refine rk_seq ?_
    refine rk_regionI n ?_
    refine wli_p (o_move rfl) ?_
    refine wli_p (o_loadbg Tryz.isAgg35 rfl f1 rfl) ?_
    refine wli_p (o_move rfl) ?_
    refine wli_p (o_move rfl) ?_
    refine wli_p (o_move rfl) ?_
    refine wli_p (o_add rfl rfl (by omega) (by omega)) ?_
    refine wli_p (o_move rfl) ?_
    refine wli_p (o_move rfl) ?_
    refine wli_p (o_add rfl rfl (by omega) (by omega)) ?_
    have hsl : Value.slice (cutA A (256 * k + 256) 1 (256 * k)) (256 * k + 256 - 256 * k) (256 * k + 256 - 256 * k) = .slice (A.map (·.add (256 * k))) 256 256 := by
     rw [show 256 * k + 256 - 256 * k = 256 by omega]
     unfold cutA
     rw [if_neg (by omega), Nat.mul_one]
    refine wli_p (o_as (o_slice3B (256 * k) (256 * k + 256) (256 * k + 256) Tryz.underlying35 Tryz.sizeOf5 rfl rfl rfl rfl (by omega) (by omega) (by omega) (by omega) (by omega) (by omega)) hsl) ?_
    refine wli_yield rfl rfl hYk (fun e w3 he => ?_)
    rcases he with ⟨rfl, hJ3, hkp⟩ | ⟨rfl, hx3⟩
    ·refine ⟨true, rfl, ?_⟩
     refine wli_p (o_not rfl) ?_
     refine wli_nil ?_
     replace f1 := hkp.blk1 f1
     replace f2 := hkp.blk2 f2
     have hJ4 : J ((List.finRange M).take (k + 1)) w3 := by
      rw [List.take_succ_eq_append_getElem (by rw [List.length_finRange]; omega), List.getElem_finRange]
      exact hJ3
     refine rk_false rfl ?_
     refine rk_skip ?_
     refine rk_blk ?_
     refine rk_region (zm rfl ?_)
     refine wl_r (o_loadbg Tryz.isAgg3 rfl f2 (by rfl)) ?_
     refine zp (o_add rfl rfl (by omega) (by omega)) ?_
     refine za rfl (wl_nil ?_)
     exact rk_againf (Fr.le_of (by kernel_rfl) (by kernel_rfl) (by repeat' constructor)) ⟨k + 1, 256 * (k : Int) + 256, rfl, by omega, by omega, rfl, hJ4, f1, f2⟩ (by omega)
    ·refine ⟨false, rfl, ?_⟩
     refine wli_p (o_not rfl) ?_
     refine wli_nil ?_
     refine rk_true rfl ?_
     refine ret0 rfl ?_
     exact .inr ⟨_, trivial, hx3⟩
   ·refine rk_exit rfl ?_
    obtain rfl : k = M := by omega
    rw [List.take_of_length_le (by rw [List.length_finRange]; omega)] at hJk
    exact rk_tof hj (Fr.le_of (by kernel_rfl) (by kernel_rfl) (by repeat' constructor)) ⟨rfl, hJk⟩
  rintro fr w2 ⟨rfl, hJM⟩
  first | refine zf ?_ | refine zg ?_
  refine end0 rfl ?_
  exact .inl ⟨_, rfl, hJM⟩
 refine callsIn_wide.2 (main.2.mono ?_)
 rintro e w' ⟨v, rfl, hv⟩
 exact ⟨⟨v, rfl⟩, hv⟩
end Go.Proofs.YtnnhenafhalobaaGreat
namespace Go.Proofs.YtnnhenafhalobaaGreat
set_option maxRecDepth 100000
open Go.RowKit
theorem C_dSize {lo hi g : Nat} {S : List Sec} {C : List (Option Sec)} (w : World) (hd : DkAt w lo hi g S C) :
  CallsR Tryz.prog 41 [.pointer (some ⟨g, 0, none⟩)] w fun v w' => v = .int .i64 (S.length : Int) ∧ w' = w := by
 refine callsR Tryz.func41 rfl rfl (by kernel_rfl) rfl ?_
 refine zs (za rfl (wl_nil (rk_seq (zs (zm rfl ?_)))))
 refine wl_call rfl (C_valid _ hd) ?_
 rintro v4 w4 ⟨rfl, rfl⟩
 refine zp (o_not rfl) ?_
 refine wl_nil ?_
 refine rk_false rfl ?_
 refine rk_skip (zs (zm rfl ?_))
 refine zp (o_nil rfl) ?_
 refine zp (o_faddr (s := 98) (i := 1) (off := 1) Tryz.underlying98 rfl Tryz.sizeOf77 rfl rfl rfl) ?_
 obtain ⟨A, c, b, f, fs, fm, h4, h5, h6⟩ := hd.ex
 refine wl_r (o_loadbg Tryz.isAgg77 rfl f (by rfl)) ?_
 refine zp (o_len (t := 77) Tryz.underlying77 rfl) ?_
 refine za rfl (wl_nil ?_)
 refine ret1 rfl rfl ?_
 exact ⟨rfl, rfl⟩
theorem C_dFlush {lo hi g : Nat} {S S0 : List Sec} {C C0 : List (Option Sec)} (w : World) (hd : DkAt w lo hi g S C) (hS0 : cur S C = S0) (hC0 : List.replicate S.length none = C0) :
  CallsR Tryz.prog 45 [.pointer (some ⟨g, 0, none⟩)] w fun v w' => v = .int .i64 0 ∧ DkAt w' lo hi g S0 C0 ∧ Chg lo hi w w' := by
 subst hS0; subst hC0
 refine callsR Tryz.func45 rfl rfl (by kernel_rfl) rfl ?_
 have hcg : Chg lo hi w w := Chg.refl
 have hhi := hd.hi
 refine zs (za rfl (wl_nil (rk_seq (zs (zm rfl ?_)))))
 refine wl_call rfl (C_valid _ hd) ?_
 rintro v6 w6 ⟨rfl, rfl⟩
 refine zp (o_not rfl) ?_
 refine wl_nil ?_
 refine rk_false rfl ?_
 refine rk_skip (rk_seq (zs (zm rfl ?_)))
 refine wl_call rfl (C_dCached _ hd (by rfl)) ?_
 rintro v9 w9 ⟨A9, ⟨c9, ⟨rfl, ⟨f9, b9⟩⟩⟩⟩
 have qf9 := f9.cap
 have s9 := b9.size
 replace hcg := hcg.thenB b9
 replace hd := hd.u b9
 refine zp (o_len (t := 69) Tryz.underlying69 rfl) ?_
 refine zm rfl (wl_nil (rk_block ?_))
 obtain ⟨A, c, b, f, fs, fm, h4, h5, h6⟩ := hd.ex
 have hg1 := hd.g1
 have hg2 := hd.g2
 have hle := hd.len
 have hn1 := hd.n1
 have hn2 := hd.n2
 have hcl := cnt_le C
 have hIl := ixz_len C
 have hsz0 := hcg.size
 clear hd
 refine rk_joinf (fun fb fr W => fr = [] ++ fb.drop 1 ∧ Blk W g 98 [.pointer (some ⟨g, 0, none⟩), .slice A S.length c, .map (some b)] ∧ OwnSec W lo hi A c (cur S C) ∧ MapS W b C ∧ Chg lo hi w6 W) ?_ (fun ks hj => ?_)
 rotate_left
 ·refine rk_loopf (fun fb m fr W => ∃ (j : Nat) (v : Int) (S' : List Sec), fr = [(11, .int .i64 v)] ++ fb.drop 1 ∧ v = j ∧ j ≤ cnt C ∧ m = cnt C - j ∧ S' = crash S C (List.replicate j true) ∧ Blk W g 98 [.pointer (some ⟨g, 0, none⟩), .slice A S'.length c, .map (some b)] ∧ OwnSec W lo hi A c S' ∧ MapS W b C ∧ OwnZ W w6.heap.size w9.heap.size A9 c9 (ixz C) ∧ Chg lo hi w6 W) (n := cnt C) (Fr.le_of (by kernel_rfl) (by kernel_rfl) (by repeat' constructor)) ⟨0, _, S, rfl, rfl, by omega, rfl, by rw [List.replicate_zero, crash_nil], f, fs, fm, f9, hcg⟩ ?_
  clear f fs fm f9 hcg
  rintro m fr W ⟨j, v, S', rfl, rfl, hj', rfl, hS', f, fs, fm, f9, hcg⟩
  have hSl : S'.length = S.length := by rw [hS', crash_len]
  first | refine zf ?_ | refine zg ?_
  refine zs ?_
  refine zp (o_lt rfl rfl) ?_
  refine wl_nil (rk_seq ?_)
  refine rk_if rfl (fun h12 => ?_) (fun h12 => ?_)
  ·have hjc : j < (cix C).length := by rw [cix_len]; omega
   have hji : j < (ixz C).length := by omega
   obtain ⟨i, hci⟩ : ∃ i, (cix C)[j] = i := ⟨_, rfl⟩
   have hIj : (ixz C)[j] = (i : Int) := by rw [← hci]; simp [ixz]
   have hiS : i < S'.length := by rw [hSl, ← hle, ← hci]; exact cix_lt C hjc
   obtain ⟨r, hr⟩ : ∃ r, cAt C (i : Int) = r := ⟨_, rfl⟩
   have hwf : (Lit.int .i64 (i : Int)).wf = true := nat_wf (by omega)
   refine rk_skip (rk_seq (rk_block (zs ?_)))
   refine zp (o_iaddrA1 (j) Tryz.underlying69 Tryz.sizeOf3 rfl rfl rfl (Reads.some_ f9.to_Reads (by decide) (by omega)) (by omega)) ?_
   refine wl_r (o_loadZ Tryz.isAgg3 rfl f9.to_Reads (by omega)) ?_
   refine za rfl (wl_nil ?_)
   refine rk_draw (id := 6) (none) [0, 1, 2, 4, 0, 0, 32, 64, 128, 0, 768, 2047, 4095] [0, 1, 3, 7, 0, 0, 32, 96, 224, 0, 992, 2047, 4095] 4096 0 [(.p, 0), (.p, 1), (.p, 2), (.r, 3), (.p, 4), (.p, 5), (.p, 6), (.p, 7), (.r, 8), (.p, 9), (.r, 10), (.p, 11), (.l, 12)] (by kernel_rfl) (by kernel_rfl) (by kernel_rfl) (by kernel_rfl) (by kernel_rfl) ?_
   replace hcg := hcg.trans Chg.drew
   replace f9 := f9.d
   replace fm := fm.d
   replace fs := fs.d
   replace f := f.d
   refine zm rfl ?_
   refine zp (o_nil rfl) ?_
   refine zp (o_faddr (s := 98) (i := 1) (off := 1) Tryz.underlying98 rfl Tryz.sizeOf77 rfl rfl rfl) ?_
   refine wl_r (o_loadbg Tryz.isAgg77 rfl f (by rfl)) ?_
   refine zm rfl (zm rfl ?_)
   refine zp (o_nil rfl) ?_
   refine zp (o_faddr (s := 98) (i := 2) (off := 2) Tryz.underlying98 rfl Tryz.sizeOf96 rfl rfl rfl) ?_
   refine wl_r (o_loadbg Tryz.isAgg96 rfl f (by rfl)) ?_
   refine zm rfl ?_
   rw [hIj]
   refine wl_r (o_lookS1 Tryz.underlying96 rfl rfl fm hr hwf) ?_
   refine zp (o_iaddrA (i) Tryz.underlying77 Tryz.sizeOf95 rfl rfl rfl (fs.some_ (by omega)) (by omega)) ?_
   refine wl_stSec rfl fs rfl (by omega) ?_
   rintro w f_1 g_1 b_1 e
   simp only [drew_size] at e
   have qf_1 := f_1.cap
   have s := g_1.size
   simp only [drew_size] at s
   replace hcg := hcg.trans ((Chg.of_g g_1.g f_1.rng).wide (by omega) (by omega))
   replace f := f.y g_1 (by decide)
   replace fm := fm.y g_1 (by decide)
   replace f9 := f9.y g_1 (by decide)
   clear fs
   refine wl_nild ?_
   refine rk_blk ?_
   refine rk_region ?_
   refine zp (o_add rfl rfl (by omega) (by omega)) ?_
   refine zm rfl (wl_nil ?_)
   have e : S'.set i (r.getD z256) = crash S C (List.replicate (j + 1) true) := by
    rw [crash_true hle hjc, ← hS', hci, hr]
   have e2 : (S'.set i (r.getD z256)).length = S'.length := List.length_set ..
   exact rk_againf (Fr.le_of (by kernel_rfl) (by kernel_rfl) (by repeat' constructor)) ⟨j + 1, (j : Int) + 1, S'.set i (r.getD z256), rfl, by omega, by omega, rfl, e, by rw [e2]; exact f, f_1, fm, f9, hcg⟩ (by omega)
  ·refine rk_exit rfl ?_
   obtain rfl : j = cnt C := by omega
   rw [crash_all S C _ (Nat.le_refl _)] at hS'
   subst hS'
   rw [hSl] at f
   exact rk_tof hj (Fr.le_of (by kernel_rfl) (by kernel_rfl) (by repeat' constructor)) ⟨rfl, f, fs, fm, hcg⟩
 clear f fs fm f9 hcg
 rintro fr W ⟨rfl, f, fs, fm, hcg⟩
 first | refine zf ?_ | refine zg ?_
 refine zs (zm rfl ?_)
 refine zp (o_nil rfl) ?_
 refine zp (o_faddr (s := 98) (i := 2) (off := 2) Tryz.underlying98 rfl Tryz.sizeOf96 rfl rfl rfl) ?_
 refine wl_r (o_loadbg Tryz.isAgg96 rfl f (by rfl)) ?_
 refine wl_clearM Tryz.underlying96 rfl fm ?_
 rintro w f_1 g_1 e
 have s := g_1.size
 replace hcg := hcg.trans (Chg.of_g1 g_1.g (by omega) (by omega))
 replace fs := fs.m g_1
 replace f := f.k g_1.g (ap_some (by omega))
 clear fm
 refine wl_nil (zs (za rfl (wl_nil ?_)))
 refine ret1 rfl rfl ?_
 rw [hle] at f_1
 exact ⟨rfl, ⟨⟨A, c, b, by rw [cur_len]; exact f, fs, f_1, h4, h5, h6⟩, hg1, hg2, by have := hcg.size; omega, by rw [List.length_replicate, cur_len], by rw [cur_len]; exact hn1, by rw [cur_len]; exact hn2⟩, hcg⟩
theorem C_dCrash {lo hi lo2 hi2 g n cp : Nat} {S S0 : List Sec} {C C0 : List (Option Sec)} {K : Option Addr} {kp : List Bool} (w : World) (hd : DkAt w lo hi g S C) (hk : RdBo w lo2 hi2 K kp) (hS0 : crash S C kp = S0) (hC0 : List.replicate S.length none = C0) (ha : hi2 ≤ lo ∨ hi ≤ lo2) (hn : n = kp.length) (hm : n ≤ 1000000) :
  CallsR Tryz.prog 21 [.pointer (some ⟨g, 0, none⟩), .slice K n cp] w fun v w' => v = .int .i64 0 ∧ DkAt w' lo hi g S0 C0 ∧ Chg lo hi w w' := by
 subst hn; subst hS0; subst hC0
 refine callsR Tryz.func21 rfl rfl (by kernel_rfl) rfl ?_
 have hcg : Chg lo hi w w := Chg.refl
 have hhi := hd.hi
 refine zs (za rfl (wl_nil (rk_seq (zs (zm rfl ?_)))))
 refine wl_call rfl (C_valid _ hd) ?_
 rintro v8 w8 ⟨rfl, rfl⟩
 refine zp (o_not rfl) ?_
 refine wl_nil ?_
 refine rk_false rfl ?_
 refine rk_skip (rk_seq (zs (zm rfl ?_)))
 refine wl_call rfl (C_dCached _ hd (by rfl)) ?_
 rintro v11 w11 ⟨A11, ⟨c11, ⟨rfl, ⟨f11, b11⟩⟩⟩⟩
 have qf11 := f11.cap
 have s11 := b11.size
 replace hcg := hcg.thenB b11
 replace hk := hk.u b11
 replace hd := hd.u b11
 refine zp (o_len (t := 69) Tryz.underlying69 rfl) ?_
 refine zm rfl (wl_nil (rk_block ?_))
 obtain ⟨A, c, b, f, fs, fm, h4, h5, h6⟩ := hd.ex
 have hg1 := hd.g1
 have hg2 := hd.g2
 have hle := hd.len
 have hn1 := hd.n1
 have hn2 := hd.n2
 have hcl := cnt_le C
 have hIl := ixz_len C
 have hsz0 := hcg.size
 clear hd
 refine rk_joinf (fun fb fr W => fr = [] ++ fb.drop 1 ∧ Blk W g 98 [.pointer (some ⟨g, 0, none⟩), .slice A S.length c, .map (some b)] ∧ OwnSec W lo hi A c (crash S C kp) ∧ MapS W b C ∧ Chg lo hi w8 W) ?_ (fun ks hj => ?_)
 rotate_left
 ·refine rk_loopf (fun fb m fr W => ∃ (j : Nat) (v : Int) (S' : List Sec), fr = [(13, .int .i64 v)] ++ fb.drop 1 ∧ v = j ∧ j ≤ cnt C ∧ m = cnt C - j ∧ S' = crash S C (kp.take j) ∧ Blk W g 98 [.pointer (some ⟨g, 0, none⟩), .slice A S'.length c, .map (some b)] ∧ OwnSec W lo hi A c S' ∧ MapS W b C ∧ OwnZ W w8.heap.size w11.heap.size A11 c11 (ixz C) ∧ RdBo W lo2 hi2 K kp ∧ Chg lo hi w8 W) (n := cnt C) (Fr.le_of (by kernel_rfl) (by kernel_rfl) (by repeat' constructor)) ⟨0, _, S, rfl, rfl, by omega, rfl, by rw [List.take_zero, crash_nil], f, fs, fm, f11, hk, hcg⟩ ?_
  clear f fs fm f11 hcg hk
  rintro m fr W ⟨j, v, S', rfl, rfl, hj', rfl, hS', f, fs, fm, f11, hk, hcg⟩
  have hSl : S'.length = S.length := by rw [hS', crash_len]
  first | refine zf ?_ | refine zg ?_
  refine zs ?_
  refine zp (o_lt rfl rfl) ?_
  refine wl_nil (rk_seq ?_)
  refine rk_if rfl (fun h14 => ?_) (fun h14 => ?_)
  ·have hjc : j < (cix C).length := by rw [cix_len]; omega
   have hji : j < (ixz C).length := by omega
   obtain ⟨i, hci⟩ : ∃ i, (cix C)[j] = i := ⟨_, rfl⟩
   have hIj : (ixz C)[j] = (i : Int) := by rw [← hci]; simp [ixz]
   have hiS : i < S'.length := by rw [hSl, ← hle, ← hci]; exact cix_lt C hjc
   obtain ⟨r, hr⟩ : ∃ r, cAt C (i : Int) = r := ⟨_, rfl⟩
   have hwf : (Lit.int .i64 (i : Int)).wf = true := nat_wf (by omega)
   by_cases hjk : j < kp.length
   ·have hck := crash_keep (kp := kp) hle hjc hjk
    rw [← hS', hci, hr] at hck
    cases hkj : kp[j] with
    | true =>
     rw [hkj, if_pos rfl] at hck
     refine rk_skip (rk_seq (rk_block (zs (zm rfl ?_))))
     refine zp (o_iaddrA1 (j) Tryz.underlying69 Tryz.sizeOf3 rfl rfl rfl (Reads.some_ f11.to_Reads (by decide) (by omega)) (by omega)) ?_
     refine wl_r (o_loadZ Tryz.isAgg3 rfl f11.to_Reads (by omega)) ?_
     refine za rfl (za rfl (wl_nil (zs (zm rfl (zm rfl ?_)))))
     refine zp (o_len (t := 38) Tryz.underlying38 rfl) ?_
     refine zp (o_lt rfl rfl) ?_
     refine zm rfl ?_
     refine wl_know 22 true rfl (decide_eq_true (by omega)) ?_
     refine zm rfl (zm rfl ?_)
     refine zp (o_iaddrA1 (j) Tryz.underlying38 Tryz.sizeOf4 rfl rfl rfl (hk.some_ (by omega)) (by omega)) ?_
     refine wl_r (o_ldBo Tryz.isAgg4 rfl hk (by omega)) ?_
     refine zp (o_pick_t rfl rfl) ?_
     refine wl_nil ?_
     rw [hkj]
     refine rk_true rfl ?_
     refine rk_draw (id := 7) (none) [0, 1, 2, 4, 0, 0, 32, 64, 128, 0, 768, 2047, 4095] [0, 1, 3, 7, 0, 0, 32, 96, 224, 0, 992, 2047, 4095] 4096 0 [(.p, 0), (.p, 1), (.p, 2), (.r, 3), (.p, 4), (.p, 5), (.p, 6), (.p, 7), (.r, 8), (.p, 9), (.r, 10), (.p, 11), (.l, 12)] (by kernel_rfl) (by kernel_rfl) (by kernel_rfl) (by kernel_rfl) (by kernel_rfl) ?_
     replace hcg := hcg.trans Chg.drew
     replace hk := hk.d
     replace f11 := f11.d
     replace fm := fm.d
     replace fs := fs.d
     replace f := f.d
     refine zm rfl ?_
     refine zp (o_nil rfl) ?_
     refine zp (o_faddr (s := 98) (i := 1) (off := 1) Tryz.underlying98 rfl Tryz.sizeOf77 rfl rfl rfl) ?_
     refine wl_r (o_loadbg Tryz.isAgg77 rfl f (by rfl)) ?_
     refine zm rfl (zm rfl ?_)
     refine zp (o_nil rfl) ?_
     refine zp (o_faddr (s := 98) (i := 2) (off := 2) Tryz.underlying98 rfl Tryz.sizeOf96 rfl rfl rfl) ?_
     refine wl_r (o_loadbg Tryz.isAgg96 rfl f (by rfl)) ?_
     refine zm rfl ?_
     rw [hIj]
     refine wl_r (o_lookS1 Tryz.underlying96 rfl rfl fm hr hwf) ?_
     refine zp (o_iaddrA (i) Tryz.underlying77 Tryz.sizeOf95 rfl rfl rfl (fs.some_ (by omega)) (by omega)) ?_
     refine wl_stSec rfl fs rfl (by omega) ?_
     rintro w f_1 g_1 b_1 e
     simp only [drew_size] at e
     have qf_1 := f_1.cap
     have s := g_1.size
     simp only [drew_size] at s
     replace hcg := hcg.trans ((Chg.of_g g_1.g f_1.rng).wide (by omega) (by omega))
     replace f := f.y g_1 (by decide)
     replace fm := fm.y g_1 (by decide)
     replace f11 := f11.y g_1 (by decide)
     replace hk := hk.k g_1.g (f_1.ap (by omega))
     clear fs
     refine wl_nild ?_
     refine rk_blk ?_
     refine rk_region ?_
     refine zp (o_add rfl rfl (by omega) (by omega)) ?_
     refine zm rfl (wl_nil ?_)
     have e2 : (S'.set i (r.getD z256)).length = S'.length := List.length_set ..
     exact rk_againf (Fr.le_of (by kernel_rfl) (by kernel_rfl) (by repeat' constructor)) ⟨j + 1, (j : Int) + 1, S'.set i (r.getD z256), rfl, by omega, by omega, rfl, hck.symm, by rw [e2]; exact f, f_1, fm, f11, hk, hcg⟩ (by omega)
    | false =>
     rw [hkj, if_neg (by simp)] at hck
     refine rk_skip (rk_seq (rk_block (zs (zm rfl ?_))))
     refine zp (o_iaddrA1 (j) Tryz.underlying69 Tryz.sizeOf3 rfl rfl rfl (Reads.some_ f11.to_Reads (by decide) (by omega)) (by omega)) ?_
     refine wl_r (o_loadZ Tryz.isAgg3 rfl f11.to_Reads (by omega)) ?_
     refine za rfl (za rfl (wl_nil (zs (zm rfl (zm rfl ?_)))))
     refine zp (o_len (t := 38) Tryz.underlying38 rfl) ?_
     refine zp (o_lt rfl rfl) ?_
     refine zm rfl ?_
     refine wl_know 22 true rfl (decide_eq_true (by omega)) ?_
     refine zm rfl (zm rfl ?_)
     refine zp (o_iaddrA1 (j) Tryz.underlying38 Tryz.sizeOf4 rfl rfl rfl (hk.some_ (by omega)) (by omega)) ?_
     refine wl_r (o_ldBo Tryz.isAgg4 rfl hk (by omega)) ?_
     refine zp (o_pick_t rfl rfl) ?_
     refine wl_nil ?_
     rw [hkj]
     refine rk_false rfl ?_
     refine rk_skip ?_
     refine rk_blk ?_
     refine rk_region ?_
     refine zp (o_add rfl rfl (by omega) (by omega)) ?_
     refine zm rfl (wl_nil ?_)
     exact rk_againf (Fr.le_of (by kernel_rfl) (by kernel_rfl) (by repeat' constructor)) ⟨j + 1, (j : Int) + 1, S', rfl, by omega, by omega, rfl, hck.symm, f, fs, fm, f11, hk, hcg⟩ (by omega)
   ·have hck : crash S C (kp.take (j + 1)) = S' := by rw [hS', List.take_of_length_le (by omega), List.take_of_length_le (by omega)]
    refine rk_skip (rk_seq (rk_block (zs (zm rfl ?_))))
    refine zp (o_iaddrA1 (j) Tryz.underlying69 Tryz.sizeOf3 rfl rfl rfl (Reads.some_ f11.to_Reads (by decide) (by omega)) (by omega)) ?_
    refine wl_r (o_loadZ Tryz.isAgg3 rfl f11.to_Reads (by omega)) ?_
    refine za rfl (za rfl (wl_nil (zs (zm rfl (zm rfl ?_)))))
    refine zp (o_len (t := 38) Tryz.underlying38 rfl) ?_
    refine zp (o_lt rfl rfl) ?_
    refine zm rfl ?_
    refine wl_know 22 false rfl (decide_eq_false (by omega)) ?_
    refine wl_off (wl_off (wl_off (wl_off ?_)))
    refine zp (o_pick_f rfl rfl) ?_
    refine wl_nil ?_
    refine rk_false rfl ?_
    refine rk_skip ?_
    refine rk_blk ?_
    refine rk_region ?_
    refine zp (o_add rfl rfl (by omega) (by omega)) ?_
    refine zm rfl (wl_nil ?_)
    exact rk_againf (Fr.le_of (by kernel_rfl) (by kernel_rfl) (by repeat' constructor)) ⟨j + 1, (j : Int) + 1, S', rfl, by omega, by omega, rfl, hck.symm, f, fs, fm, f11, hk, hcg⟩ (by omega)
  ·refine rk_exit rfl ?_
   obtain rfl : j = cnt C := by omega
   rw [crash_take S C _ _ (Nat.le_refl _)] at hS'
   subst hS'
   rw [hSl] at f
   exact rk_tof hj (Fr.le_of (by kernel_rfl) (by kernel_rfl) (by repeat' constructor)) ⟨rfl, f, fs, fm, hcg⟩
 clear f fs fm f11 hcg hk
 rintro fr W ⟨rfl, f, fs, fm, hcg⟩
 first | refine zf ?_ | refine zg ?_
 refine zs (zm rfl ?_)
 refine zp (o_nil rfl) ?_
 refine zp (o_faddr (s := 98) (i := 2) (off := 2) Tryz.underlying98 rfl Tryz.sizeOf96 rfl rfl rfl) ?_
 refine wl_r (o_loadbg Tryz.isAgg96 rfl f (by rfl)) ?_
 refine wl_clearM Tryz.underlying96 rfl fm ?_
 rintro w f_1 g_1 e
 have s := g_1.size
 replace hcg := hcg.trans (Chg.of_g1 g_1.g (by omega) (by omega))
 replace fs := fs.m g_1
 replace f := f.k g_1.g (ap_some (by omega))
 clear fm
 refine wl_nil (zs (za rfl (wl_nil ?_)))
 refine ret1 rfl rfl ?_
 rw [hle] at f_1
 exact ⟨rfl, ⟨⟨A, c, b, by rw [crash_len]; exact f, fs, f_1, h4, h5, h6⟩, hg1, hg2, by have := hcg.size; omega, by rw [List.length_replicate, crash_len], by rw [crash_len]; exact hn1, by rw [crash_len]; exact hn2⟩, hcg⟩
theorem C_dImage {lo hi g : Nat} {S : List Sec} {C : List (Option Sec)} {r : By} (w : World) (hd : DkAt w lo hi g S C) (hr : img S = r) :
  CallsR Tryz.prog 39 [.pointer (some ⟨g, 0, none⟩)] w fun v w' => ∃ A c, v = .slice A r.length c ∧ OwnH w' w.heap.size w'.heap.size A c r ∧ Below w.heap.size w w' := by
 subst hr
 refine callsR Tryz.func39 rfl rfl (by kernel_rfl) rfl ?_
 have hw := Below.refl w.heap.size w
 refine zs (za rfl (wl_nil (rk_seq (zs (zm rfl ?_)))))
 refine wl_call rfl (C_valid _ hd) ?_
 rintro v6 w6 ⟨rfl, rfl⟩
 refine zp (o_not rfl) ?_
 refine wl_nil ?_
 refine rk_false rfl ?_
 refine rk_skip (zs (zm rfl ?_))
 refine zp (o_nil rfl) ?_
 refine zp (o_faddr (s := 98) (i := 1) (off := 1) Tryz.underlying98 rfl Tryz.sizeOf77 rfl rfl rfl) ?_
 obtain ⟨A, c, b, f, fs, fm, h4, h5, h6⟩ := hd.ex
 have hn2 := hd.n2
 refine wl_r (o_loadbg Tryz.isAgg77 rfl f (by rfl)) ?_
 refine zp (o_len (t := 77) Tryz.underlying77 rfl) ?_
 refine zp (o_mul rfl rfl (by omega) (by omega)) ?_
 refine wl_mkB (S.length * 256) rfl rfl (by omega) (by omega) ?_
 rintro A14 w14 f14 b14
 have qf14 := f14.cap
 have s14 := b14.size
 replace hw := hw.trans (b14.mono hw.size)
 refine za rfl (wl_nil (rk_seq (zs (zm rfl ?_))))
 refine zp (o_nil rfl) ?_
 refine zp (o_faddr (s := 98) (i := 1) (off := 1) Tryz.underlying98 rfl Tryz.sizeOf77 rfl rfl rfl) ?_
 refine wl_r (o_loadbg Tryz.isAgg77 rfl (f.u hw) (by rfl)) ?_
 refine zp (o_len (t := 77) Tryz.underlying77 rfl) ?_
 refine zm rfl (wl_nil (rk_block ?_))
 refine rk_joinf (fun fb fr W => ∃ (A3 : Option Addr) (c3 : Nat), fr = [(3, .slice A3 (img S).length c3)] ++ fb.drop 7 ∧ OwnH W w6.heap.size W.heap.size A3 c3 (img S) ∧ Below w6.heap.size w6 W) ?_ (fun ks hj => ?_)
 rotate_left
 ·refine rk_loopf (fun fb m fr W => ∃ (j : Nat) (v : Int) (A3 : Option Addr) (c3 : Nat) (I : By), fr = [(20, .int .i64 v), (19, .int .i64 (S.length : Int)), (3, .slice A3 I.length c3)] ++ fb.drop 7 ∧ v = j ∧ j ≤ S.length ∧ m = S.length - j ∧ I = img (S.take j) ∧ OwnH W w6.heap.size W.heap.size A3 c3 I ∧ w6.heap.size ≤ W.heap.size ∧ Below w6.heap.size w6 W) (n := S.length) (Fr.le_of (by kernel_rfl) (by kernel_rfl) (by repeat' constructor)) ⟨0, _, A14, _, [], rfl, rfl, by omega, rfl, rfl, f14, hw.size, hw⟩ ?_
  clear f14 hw
  rintro m fr W ⟨j, v, A3, c3, I, rfl, rfl, hj', rfl, hI, f3, hsW, hw⟩
  have hIl : I.length = j * 256 := by rw [hI, img_len, List.length_take]; congr 1; omega
  first | refine zf ?_ | refine zg ?_
  refine zs ?_
  refine zp (o_lt rfl rfl) ?_
  refine wl_nil (rk_seq ?_)
  refine rk_if rfl (fun h21 => ?_) (fun h21 => ?_)
  ·have hjS : j < S.length := by omega
   have hal := S[j].2
   refine rk_skip (rk_seq (rk_block (zs (zm rfl (za rfl (wl_nil (rk_region (zm rfl (zm rfl ?_)))))))))
   refine zp (o_nil rfl) ?_
   refine zp (o_faddr (s := 98) (i := 1) (off := 1) Tryz.underlying98 rfl Tryz.sizeOf77 rfl rfl rfl) ?_
   refine wl_r (o_loadbg Tryz.isAgg77 rfl (f.u hw) (by rfl)) ?_
   refine zm rfl ?_
   refine zp (o_iaddrA (j) Tryz.underlying77 Tryz.sizeOf95 rfl rfl rfl (fs.some_ (by omega)) (by omega)) ?_
   refine wl_slSec rfl fs hw (by omega) ?_
   rintro f30
   refine wl_appB Tryz.u8 rfl f3 rfl rfl (f30.u hw) rfl (by omega) hw.size ?_
   rintro A31 c31 w31 f31 g31 b31 i31
   have qf31 := f31.cap
   have s31 := g31.size
   replace hw := hw.trans (b31.mono (by omega))
   clear f3
   refine za rfl (wl_nil ?_)
   refine rk_blk ?_
   refine rk_region ?_
   refine zp (o_add rfl rfl (by omega) (by omega)) ?_
   refine zm rfl (wl_nil ?_)
   have e : img (S.take (j + 1)) = I ++ S[j].1 := by rw [List.take_succ_eq_append_getElem hjS, img_snoc, ← hI]

   exact rk_againf (Fr.le_of (by kernel_rfl) (by kernel_rfl) (by repeat' constructor)) ⟨j + 1, (j : Int) + 1, A31, c31, I ++ S[j].1, rfl, by omega, by omega, rfl, e.symm, f31.base (by omega) (by omega), by omega, hw⟩ (by omega)
  ·refine rk_exit rfl ?_
   obtain rfl : j = S.length := by omega
   rw [List.take_length] at hI
   subst hI
   exact rk_tof hj (Fr.le_of (by kernel_rfl) (by kernel_rfl) (by repeat' constructor)) ⟨A3, c3, rfl, f3, hw⟩
 clear f14 hw
 rintro fr W ⟨A3, c3, rfl, f3, hw⟩
 first | refine zf ?_ | refine zg ?_
 refine zs (zm rfl (za rfl (wl_nil ?_)))
 refine ret1 rfl rfl ?_
 exact ⟨A3, c3, rfl, f3, hw⟩
end Go.Proofs.YtnnhenafhalobaaGreat
namespace Go.Proofs.YtnnhenafhalobaaGreat
set_option maxRecDepth 100000
open Go.RowKit
theorem part_one {α : Type} {X : GoT α} {w : World} {M : List α} {ms : List Value} (h0 : 0 < X.sz) (hml : ms.length = M.length * X.sz) (r3 : ∀ i (h : i < M.length), X.T w (part ms X.sz i) M[i]) (h1 : ∀ w cs a, X.T w cs a → ∀ u ∈ cs, u.oneCell' = true) : ∀ u ∈ ms, u.oneCell' = true := fun u hu => by
 obtain ⟨i, hi, rfl⟩ := List.getElem_of_mem hu
 have hq : i / X.sz < M.length := (Nat.div_lt_iff_lt_mul h0).2 (by omega)
 refine h1 _ _ _ (r3 _ hq) _ (List.mem_of_getElem? (i := i % X.sz) ?_)
 rw [part_get (Nat.mod_lt _ h0), Nat.div_add_mod' i X.sz]
 exact List.getElem?_eq_getElem hi
section
variable {fn : Func} {F : Ending → World → Prop} {N : Nat} {ks : List K} {ops : Array Oper} {tg : Tags} {l : List Oper} {fr : Fr} {w w0 : World} {ty : TypeId} {pos : String} {aft : Array Edge} {gd : Option (Nat × Bool)} {d j q c2 lo hi lo2 hi2 : Nat} {x y : Operand} {A X : Option Addr} {M : List Sec}
end
section
variable {w w' : World} {bd r b k : Nat} {C : List (Option Sec)} {lf : Int → Bool}
end
section
variable {P : Program} {fn : Func} {F : Ending → World → Prop} {N : Nat} {ks : List K} {ops : Array Oper} {tg : Tags} {l : List Oper} {fr : Fr} {w : World} {ty t : TypeId} {pos : String} {aft : Array Edge} {gd : Option (Nat × Bool)} {d bd b r k : Nat} {x : Operand} {C : List (Option Sec)} {lf : Int → Bool}
end
def gone (C : List (Option Sec)) (lf : Int → Bool) : List (Option Sec) := C.mapIdx fun i c => if lf i then none else c
end Go.Proofs.YtnnhenafhalobaaGreat
namespace Go.Proofs.YtnnhenafhalobaaGreat
set_option maxRecDepth 100000
open Go.RowKit
theorem C_dNewOk {n : Int} {m : Nat} {Z : List Sec} {Q : List (Option Sec)} (w : World) (hm : n = (m : Int)) (hZ : List.replicate m z256 = Z) (hQ : List.replicate m none = Q) (h1 : 1 ≤ m) (h2 : m ≤ 16384) :
  CallsR Tryz.prog 10 [.int .i64 n] w fun v w' => ∃ g, v = .tuple #[.pointer (some ⟨g, 0, none⟩), .int .i64 0] ∧ DkAt w' w.heap.size w'.heap.size g Z Q ∧ Below w.heap.size w w' := by
 subst hm; subst hZ; subst hQ
 refine (K_dNew (n := (m : Int)) w).mono ?_
 rintro v w' ⟨h3 | ⟨_, _, g, h4, h5⟩, hw⟩
 ·omega
 ·exact ⟨g, h4, by simpa using h5, hw⟩
theorem C_dCrashNone {lo hi g : Nat} {S : List Sec} {C C0 : List (Option Sec)} (w : World) (hd : DkAt w lo hi g S C) (hC0 : List.replicate S.length none = C0) :
  CallsR Tryz.prog 21 [.pointer (some ⟨g, 0, none⟩), .slice none 0 0] w fun v w' => v = .int .i64 0 ∧ DkAt w' lo hi g S C0 ∧ Chg lo hi w w' :=
 C_dCrash (lo2 := lo) (hi2 := lo) (kp := []) w hd RdBo.nil_ (crash_nil S C) hC0 (.inl (Nat.le_refl _)) rfl (by simp)
theorem C_dWriteN {lo hi g n cp : Nat} {S : List Sec} {C : List (Option Sec)} {r : List (Option Sec) × Nat} {a : Int} {B : Option Addr} {b : By} (w : World) (hd : DkAt w lo hi g S C) (hb : Rd w B b) (hr : wrC S C a b = r) (wa : (Lit.int .i64 a).wf = true) (hn : n = b.length) (hc : n ≤ cp) :
  CallsR Tryz.prog 76 [.pointer (some ⟨g, 0, none⟩), .int .i64 a, .slice B n cp] w fun v w' => v = .int .i64 (r.2 : Int) ∧ DkAt w' lo hi g S r.1 ∧ Chg lo hi w w' := by
 refine (K_dWrite w hd hb wa hn hc).mono ?_
 rintro v w' ⟨C1, e1, rfl, h1, h2, h3⟩
 rw [hr] at h1
 subst h1
 exact ⟨rfl, h2, h3⟩
theorem C_dReadN {lo hi g : Nat} {S : List Sec} {C : List (Option Sec)} {a : Int} {r : By × Nat} (w : World) (hd : DkAt w lo hi g S C) (hr : rdD S C a = r) (wa : (Lit.int .i64 a).wf = true) :
  CallsR Tryz.prog 83 [.pointer (some ⟨g, 0, none⟩), .int .i64 a] w fun v w' => ∃ (A : Option Addr) (c : Nat), v = .tuple #[.slice A r.1.length c, .int .i64 (r.2 : Int)] ∧ RdB w' w.heap.size w'.heap.size A r.1 ∧ r.1.length ≤ c ∧ Below w.heap.size w w' := by
 refine (K_dRead w hd wa).mono ?_
 rintro v w' ⟨A, c, r1, e1, rfl, h1, h2, h3⟩
 rw [hr] at h1
 subst h1
 exact ⟨A, c, rfl, h2, h3⟩
theorem rsl_bools {w : World} {A : Option Addr} {l : List Bool} (h : RSl gBool w A l) : Reads w 1 A l.length (l.map Value.bool) := by
 obtain ⟨xs, h1, h2⟩ := h
 have hl : xs.length = l.length := by have := h1.1; simpa [gBool, GoT.flat] using this
 have e : xs = l.map Value.bool := by
  apply List.ext_getElem
  ·rw [hl, List.length_map]
  ·intro i hi1 hi2
   obtain ⟨h3, _⟩ := h2 i (by omega)
   have h4 : part xs 1 i = [xs[i]] := by
    unfold part
    rw [Nat.mul_one, List.drop_eq_getElem_cons hi1]; rfl
   have h5 : part xs 1 i = [Value.bool l[i]] := h3
   rw [h4] at h5
   rw [List.getElem_map]
   injection h5
 rw [← e]; exact h1
end Go.Proofs.YtnnhenafhalobaaGreat
namespace Go.Proofs.YtnnhenafhalobaaGreat
set_option maxRecDepth 100000
open Go.RowKit
theorem seq2_of_rk {P : Program} {fn : Func} {N n : Nat} {fr : Fr} {w : World} {I : Act → World → Prop} {x y z : Code} {Q : Exit → Act → World → Prop} {a : Act} (h : RK P fn noEnd N [.code x, .code y, .inv I] fr w) (ha : Rep N a fr) (hy : ∀ a w, I a w → z.wpIn Fence.wide n P Q a w) :
  (Code.seq x (.seq y z)).wpIn Fence.wide n P Q a w := by
 refine wpIn_seq (wpIn_mono (wpIn_wide.2 (show x.wp P (kpost P fn noEnd [.code y, .inv I]) a w from h a ha)) (fun e a w he => ?_))
 cases e with
 | normal =>
  refine wpIn_seq (wpIn_mono (wpIn_wide.2 (show y.wp P (kpost P fn noEnd [.inv I]) a w from he)) (fun e a w he => ?_))
  obtain ⟨rfl, hI⟩ := kpost_inv he
  exact hy a w hI
 | ret => cases (kpost_inv (show kpost P fn noEnd [.inv I] .ret a w from he)).1
 | panic c => cases (kpost_inv (show kpost P fn noEnd [.inv I] (.panic c) a w from he)).1
 | outgrown => cases (kpost_inv (show kpost P fn noEnd [.inv I] .outgrown a w from he)).1
 | exit id => cases (kpost_inv (show kpost P fn noEnd [.inv I] (.exit id) a w from he)).1
 | goto t => cases (kpost_inv (show kpost P fn noEnd [.inv I] (.goto t) a w from he)).1
theorem keeps_chg {lo hi B : Nat} {W W' : World} (h : Chg lo hi W W') (hB : hi ≤ B) : KeepsFrom B W W' := ⟨h.size, fun k o hk ho _ => (h.block k (Array.getElem?_eq_some_iff.1 ho).1 (.inr (by omega))).trans ho⟩
set_option maxHeartbeats 1000000 in
theorem C_jWrite {dl dh gd n M c rlo rhi : Nat} {S : List Sec} {C C' : List (Option Sec)} {ad : Addr} {b : By} {z : Int} (w : World) (hd : DkAt w dl dh gd S C) (hb : RdB w rlo rhi (some ad) b) (hrd : rhi ≤ dl ∨ dh ≤ rlo) (hrs : rhi ≤ w.heap.size) (hz : z = n) (hM : b.length = 256 * M) (hc : 256 * M ≤ c) (hn : n + M ≤ S.length) (hMx : M ≤ 10000) (hC : wrs C n (secsN M b) = C') :
  CallsR Tryz.prog 42 [.pointer (some ⟨gd, 0, none⟩), .int .i64 z, .slice (some ad) b.length c] w fun v w' => v = .tuple #[] ∧ DkAt w' dl dh gd S C' ∧ Chg dl dh w w' := by
 subst hz
 refine ⟨⟨_, Tryz.func42, rfl, by kernel_rfl⟩, ?_⟩
 refine (callsIn_wide (n := 3)).1 (callsIn_of_wp_marks Tryz.func42 rfl trivial ?_)
 refine seq2_of_rk (fn := Tryz.f42) (I := fun a w' => ∃ g3 g4 g h, Rep Tryz.f42.ntmps a [(8, .func (.func 97) #[] #[.pointer (some ⟨g, 0, none⟩), .pointer (some ⟨h, 0, none⟩)]), (4, .pointer (some ⟨g4, 0, none⟩)), (3, .pointer (some ⟨g3, 0, none⟩))] ∧ Blk w' g3 26 [.pointer (some ⟨gd, 0, none⟩)] ∧ Blk w' g4 3 [.int .i64 (n : Int)] ∧ Blk w' g 35 [.slice (some ad) (256 * M) c] ∧ Blk w' h 3 [.int .i64 256] ∧ w.heap.size ≤ g3 ∧ w.heap.size ≤ g4 ∧ w.heap.size ≤ g ∧ w.heap.size ≤ h ∧ g3 ≠ g4 ∧ g3 ≠ g ∧ g4 ≠ g ∧ g3 ≠ h ∧ g4 ≠ h ∧ g3 < w'.heap.size ∧ g4 < w'.heap.size ∧ Below w.heap.size w w') ?_ (entry_rep rfl) ?_
 ·have hw := Below.refl w.heap.size w
  refine rk_region ?_
  refine wl_boxg [_] rfl (by rfl) ?_
  rintro g3 w3 f3 b3 i3 i3_1
  have s3 := b3.size
  replace hw := hw.trans (b3.mono hw.size)
  refine wl_boxg [_] rfl (by rfl) ?_
  rintro g4 w4 f4 b4 i4 i4_1
  have s4 := b4.size
  replace hw := hw.trans (b4.mono hw.size)
  replace f3 := f3.u b4
  refine wl_nil (rk_region (zm rfl ?_))
  refine wl_call rfl (C_ChunkW _) ?_
  rintro v8 w8 ⟨g8, ⟨h8, ⟨rfl, ⟨f8, ⟨f8_1, ⟨i8, ⟨i8_1, ⟨i8_2, ⟨i8_3, b8⟩⟩⟩⟩⟩⟩⟩⟩⟩
  have s8 := b8.size
  replace hw := hw.trans (b8.mono hw.size)
  replace f3 := f3.u b8
  replace f4 := f4.u b8
  refine wl_nil ?_
  refine rk_inv fun a ha => ?_
  have q3 := f3.lt
  have q4 := f4.lt
  exact ⟨g3, g4, g8, h8, ha.le (Fr.le_of_sub (by repeat' constructor)), f3, f4, by rw [← hM]; exact f8, f8_1, by omega, by omega, by omega, by omega, by omega, by omega, by omega, by omega, by omega, q3, q4, hw⟩
 ·rintro a1 w1 ⟨g3, g4, g, h, ha, f3, f4, fg, fh, n1, n2, n3, n4, n5, n6, n7, n8, n9, q3, q4, hw⟩
  have hg1 := fg.lt
  have hh1 := fh.lt
  have hdh := hd.hi
  refine wpIn_block ?_
  refine wpIn_rangeFunc_ownG (α := Fin M) rfl (by decide) (gf := 97) (lb := #[.pointer (some ⟨g, 0, none⟩), .pointer (some ⟨h, 0, none⟩)]) (ha.ev rfl) trivial (enters_of Tryz.func97 (by kernel_rfl) rfl) (encs := encsW (some ad) M) (Kp := KpB g h) (S := fun xs => xs = List.finRange M) (Sp := fun _ => True) (N := M) (w0 := w1)
   (chunk_stopsW (by decide) w1 fg fh (by omega) (by omega)) (fun h k => ⟨k.1.trans h.1, k.2.trans h.2⟩) (fun W l o o' hl _ _ _ => ⟨World.putObj_heap_other (by omega), World.putObj_heap_other (by omega)⟩) (Below.refl _ _) (fun _ => rfl)
   (fun pre W => Blk W g3 26 [.pointer (some ⟨gd, 0, none⟩)] ∧ Blk W g4 3 [.int .i64 ((n : Int) + pre.length)] ∧ DkAt W dl dh gd S (wrs C n (pre.map fun x => secOf ((b.drop (256 * x.val)).take 256))) ∧ RdB W rlo rhi (some ad) b ∧ Chg dl dh w W ∧ w1.heap.size ≤ W.heap.size) (fun _ _ _ => False)
   (fun s X Y row hs hg hr => ?_)
   (fun _ _ _ _ _ hs _ _ => hs) ⟨f3, by simpa using f4, hd.u hw, hb.u hw, Chg.of_below hw, Nat.le_refl _⟩
   (fun x => (a1.put (some 9) (.slice (some (ad.add (256 * x.val))) 256 256)).put (some 6) (.slice (some (ad.add (256 * x.val))) 256 256)) ?assign ?body ?done ?stop
  ·obtain ⟨s1, s2, s3, s4, s5, s6⟩ := hs
   have sw := hw.size
   refine ⟨blk_noncell s1 hg hr, blk_noncell s2 hg hr, s3.k hg (fun k e => by have := (hr k e).1; omega), s4.k hg (fun k e => by have := (hr k e).1; omega), s5.andNew hg (fun k e => by have := (hr k e).1; omega), Nat.le_trans s6 hg.size⟩
  case assign =>
   intro l x W K hKK
   have hrep := ha.put (d := 9) rfl (.slice (some (ad.add (256 * x.val))) 256 256)
   have e : ({ tmps := (#[9].zip (encsW (some ad) M x)).foldl (fun t (p, v) => t.setIfInBounds p v) a1.tmps, defers := [] } : Act) = a1.put (some 9) (.slice (some (ad.add (256 * x.val))) 256 256) := by
    simp [encsW, Act.put, ha.defers]
   rw [e]
   refine wpIn_region_lit (wpListIn_plain rfl (fun K' hK' => ⟨fun _ _ => trivial, ?_⟩))
   have hrun := (o_assign (P := Tryz.prog) (w := W) (ty := 35) (x := .tmp 9) rfl : OpV Tryz.prog _ _ W _ 35 (.slice (some (ad.add (256 * x.val))) 256 256) W) _ hrep
   show Oper.uponIn _ _ _ _ _ _ _ (Sem.run Tryz.prog (Oper.semAt (some l) _ _) W)
   rw [semAt_plain rfl, hrun _ rfl rfl]
   exact hK' _ _ (wpListIn_nil hKK)
  case body =>
   clear f3 f4 fg fh
   rintro l0 pre x W ⟨s1, s2, s3, s4, s5, s6⟩ hlt
   have hxM := x.isLt
   have hrep : Rep Tryz.f42.ntmps ((a1.put (some 9) (.slice (some (ad.add (256 * x.val))) 256 256)).put (some 6) (.slice (some (ad.add (256 * x.val))) 256 256)) [(6, .slice (some (ad.add (256 * x.val))) 256 256), (4, .pointer (some ⟨g4, 0, none⟩)), (3, .pointer (some ⟨g3, 0, none⟩))] :=
    ((ha.put (d := 9) rfl _).put (d := 6) rfl _).le (Fr.le_of_sub (by repeat' constructor))
   obtain ⟨ch, hch⟩ : ∃ q, (b.drop (256 * x.val)).take 256 = q := ⟨_, rfl⟩
   have hcl : ch.length = 256 := by rw [← hch, List.length_take, List.length_drop]; omega
   have r0 : Rd W (some (ad.add (256 * x.val))) (b.drop (256 * x.val)) := by
    have := Rd.cut (c := c) (k := 256 * x.val) s4.r (by omega) (by omega)
    unfold cutA at this
    rw [if_neg (by omega), Nat.mul_one] at this
    exact this
   have r1 : Rd W (some (ad.add (256 * x.val))) ch := by
    rw [← hch]
    exact r0.take (by rw [List.length_drop]; omega)
   obtain ⟨D, hD⟩ : ∃ D, wrs C n (pre.map fun x => secOf ((b.drop (256 * x.val)).take 256)) = D := ⟨_, rfl⟩
   obtain ⟨D2, hD2⟩ : ∃ D2, D.set (n + pre.length) (some (secOf ch)) = D2 := ⟨_, rfl⟩
   have hDl : wrs C n ((pre ++ [x]).map fun x => secOf ((b.drop (256 * x.val)).take 256)) = D2 := by
    rw [List.map_append, List.map_singleton, wrs_snoc, hD, List.length_map, hch, hD2]
   have hwr : wrC S D ((n : Int) + pre.length) ch = (D2, 0) := by
    unfold wrC
    rw [dif_pos ⟨by omega, hcl⟩, ← hD2, show secOf ch = ⟨ch, hcl⟩ from Subtype.ext (secOf_val hcl), show ((n : Int) + pre.length).toNat = n + pre.length by omega]
   rw [hD] at s3
   have sz1 := s1.lt
   have sz2 := s2.lt
   have hdl := hd.hi
   have sw := hw.size
   have hSl := s3.n2
   refine wpIn_block (wpIn_mono ((in_seq (I1 := fun a' W' => Rep Tryz.f42.ntmps a' [(4, .pointer (some ⟨g4, 0, none⟩)), (3, .pointer (some ⟨g3, 0, none⟩))] ∧ Blk W' g3 26 [.pointer (some ⟨gd, 0, none⟩)] ∧ Blk W' g4 3 [.int .i64 ((n : Int) + pre.length)] ∧ DkAt W' dl dh gd S D2 ∧ RdB W' rlo rhi (some ad) b ∧ Chg dl dh W W') (in_plain ?_) ?_ : RIn Tryz.prog Tryz.f42 Tryz.f42.ntmps (fun _ W' => KeepsFrom w1.heap.size W W' ∧ KpB g h W W' ∧ Blk W' g3 26 [.pointer (some ⟨gd, 0, none⟩)] ∧ Blk W' g4 3 [.int .i64 ((n : Int) + pre.length + 1)] ∧ DkAt W' dl dh gd S D2 ∧ RdB W' rlo rhi (some ad) b ∧ Chg dl dh w W' ∧ w1.heap.size ≤ W'.heap.size) _ _ _ _ _) _ hrep) (fun e a W' he => ?_))
   ·clear ha hrep
    have hcg : Chg dl dh W W := Chg.refl
    clear s5
    have wa : (Lit.int .i64 ((n : Int) + pre.length)).wf = true := i64_wf (by omega)
    refine wl_r (o_loadbg Tryz.isAgg26 rfl s1 (by rfl)) ?_
    refine wl_r (o_loadbg Tryz.isAgg3 rfl s2 (by rfl)) ?_
    refine zm rfl ?_
    refine wl_call rfl (C_dWriteN _ s3 r1 hwr wa (by omega) (by omega)) ?_
    rintro v13 w13 ⟨rfl, ⟨f13, g13⟩⟩
    dsimp only at f13
    dsimp only
    have s13 := g13.size
    replace hcg := hcg.trans (g13.wide (by omega) (by omega))
    replace s4 := s4.c g13 (by omega)
    replace s2 := s2.c g13 (by omega)
    replace s1 := s1.c g13 (by omega)
    clear s3
    clear r1
    clear r0
    refine wl_nil ?_
    refine rk_inv fun a ha => ?_
    exact ⟨ha.le (Fr.le_of_sub (by repeat' constructor)), s1, s2, f13, s4, hcg⟩
   ·rintro a2 W2 ⟨ha2, s1, s2, s3, s4, hcg⟩
    refine (in_plain ?_ : RIn _ _ _ _ _ _ _ _ _) a2 ha2
    have hcg0 := hcg
    have sg := hcg.size
    clear ha hrep
    refine wl_r (o_loadbg Tryz.isAgg3 rfl s2 (by rfl)) ?_
    refine zp (o_add rfl rfl (by omega) (by omega)) ?_
    refine wl_storeg1 Tryz.sizeOf3 rfl rfl (by rfl) s2 (by simp) ?_
    rintro w_1 f g_1 e
    have s := g_1.size
    replace s4 := s4.k g_1.g (ap_some (by omega))
    replace s3 := s3.k g_1.g (ap_some (by omega))
    replace s1 := s1.k g_1.g (ap_some (by omega))
    clear s2
    refine wl_nil ?_
    have hG : Grew W2 w_1 3 (some g4) := by assumption
    refine rk_inv fun a ha => ?_
    exact ⟨(keeps_chg hcg0 (by omega)).trans (KeepsFrom.of_grownBy hG.g (fun j e => by injection e with e; omega)), ⟨by rw [hG.g.block g (by omega) (by intro e; injection e with e; omega), hcg0.block g (by omega) (.inr (by omega))], by rw [hG.g.block h (by omega) (by intro e; injection e with e; omega), hcg0.block h (by omega) (.inr (by omega))]⟩, s1, f, s3, s4, (s5.trans hcg0).andNew hG.g (fun j e => by injection e with e; omega), by have := hG.g.size; omega⟩
   ·obtain ⟨rfl, h1, h2, h3, h4, h5, h6, h7, h8⟩ := kpost_inv he
    exact ⟨h1, h2, h3, by rw [show ((n : Int) + ((pre ++ [x]).length : Nat)) = n + pre.length + 1 by simp; omega]; exact h4, by rw [hDl]; exact h5, h6, h7, h8⟩
  case done =>
   rintro D xs W hD rfl ⟨s1, s2, s3, s4, s5, s6⟩ hKD
   have sw := hw.size
   have e1 : (List.finRange M).map (fun x => secOf ((b.drop (256 * x.val)).take 256)) = secsN M b := by
    apply List.ext_getElem (by rw [List.length_map, List.length_finRange, secsN_len])
    intro i h1 h2
    rw [secsN_len] at h2
    rw [secsN_get M b i h2]
    simp
   rw [e1, hC] at s3
   show LeavesInM Fence.wide 3 Tryz.prog _ a1.tmps _ (_ :: a1.defers) .returning W
   rw [ha.defers]
   refine ⟨by simp, .inl ⟨D, _, rfl, run_takeDeferred hKD, ?_⟩⟩
   have s7 := s3.k (grownBy_putObj' W D (.deferred none)) (fun k e => by injection e with e; omega)
   have s8 := s5.andNew (grownBy_putObj' W D (.deferred none)) (fun k e => by injection e with e; omega)
   exact ⟨.tuple #[], by simp [results, show Tryz.f42.results = #[] from rfl], _, rfl, rfl, s7, s8⟩
  case stop => exact fun D c pre W _ _ h _ => h.elim
end Go.Proofs.YtnnhenafhalobaaGreat
namespace Go.Proofs.YtnnhenafhalobaaGreat
set_option maxRecDepth 100000
open Go.RowKit

def Rdr (w : World) (g : Nat) (s : RS) : Prop := ∃ l p, RdrI w g l p s.2 ∧ s.1 = l.drop p
section
variable {w w' : World} {g p : Nat} {l : List UInt8} {s : RS}
theorem RdrI.rdr (h : RdrI w g l p s.2) (hs : s.1 = l.drop p) : Rdr w g s := ⟨l, p, h, hs⟩
theorem Rdr.u (h : Rdr w g s) (hb : Below w.heap.size w w') : Rdr w' g s := by
 obtain ⟨l, p, h, hs⟩ := h
 exact ⟨l, p, h.below hb, hs⟩
theorem Rdr.at_ (h : Rdr w g s) : TyAt w g 148 := by
 obtain ⟨l, p, h, hs⟩ := h
 obtain ⟨A, c, hB, -⟩ := h.blk'
 exact hB.at_
end
theorem grew_rdr {w w' : World} {g : Nat} {s : RS} (h : Rdr w g s) (hg : w.grownBy w' (some g)) : Grew w w' 148 (some g) := ⟨hg, fun k hk => by injection hk with hk; subst hk; exact h.at_⟩

structure WordR (size : Int) (l : List UInt8) (e v : Nat) (l' : List UInt8) (e' : Nat) : Prop where
 h : rWord size (l, e) = (v, (l', e'))
structure TakeR (n : Int) (l : List UInt8) (e : Nat) (p l' : List UInt8) (e' : Nat) : Prop where
 h : rTake n.toNat (l, e) = (p, (l', e'))
theorem C_rRead {A : Option Addr} {l : List UInt8} {k c : Nat} (w : World) (hr : Rd w A l) (hk : k = l.length) (hl : l.length ≤ 4000000000) :
  CallsR Tryz.prog 86 [.slice A k c] w fun v w' => ∃ g, v = .pointer (some ⟨g, 0, none⟩) ∧ w.heap.size ≤ g ∧ g < w'.heap.size ∧ Rdr w' g (l, 0) ∧ Below w.heap.size w w' :=
 (C_Read c hk w hr (by omega)).mono fun _ _ ⟨g, hv, hg, hlt, hR, hb⟩ => ⟨g, hv, hg, hlt, hR.rdr (s := (l, 0)) rfl, hb⟩
theorem C_rWord {g e e' v : Nat} {l l' : List UInt8} {size : Int} (w : World) (hR : Rdr w g (l, e)) (hr : WordR size l e v l' e') :
  CallsR Tryz.prog 87 [.pointer (some ⟨g, 0, none⟩), .int .i64 size] w fun x w' => x = .int .u64 (v : Int) ∧ Rdr w' g (l', e') ∧ Grew w w' 148 (some g) ∧ Chg g (g + 1) w w' := by
 have hR0 := hR
 obtain ⟨m, q, h, hs⟩ := hR
 obtain rfl : l = m.drop q := hs
 refine (C_RWord size w h).mono ?_
 rintro v w' ⟨rfl, hg, p', hR, hs⟩
 dsimp only at hR hs ⊢
 rw [hr.h] at hR hs ⊢
 exact ⟨rfl, hR.rdr (s := (l', e')) hs, grew_rdr hR0 hg, Chg.of_g1 hg (Nat.le_refl _) (by omega)⟩
end Go.Proofs.YtnnhenafhalobaaGreat
namespace Go.Proofs.YtnnhenafhalobaaGreat
set_option maxRecDepth 100000
open Go.RowKit
theorem rWord8 {b : By} (h : 12 ≤ b.length) : rWord 8 (b, 0) = (leVal (b.take 8), (b.drop 8, 0)) := by
 unfold rWord rTake
 rw [show clampN 8 = 8 from rfl]
 dsimp only
 rw [if_neg (fun h => h rfl), if_neg (by omega)]
theorem rWord4 {b : By} (h : 12 ≤ b.length) : rWord 4 (b.drop 8, 0) = (leVal ((b.drop 8).take 4), (b.drop 12, 0)) := by
 unfold rWord rTake
 rw [show clampN 4 = 4 from rfl]
 dsimp only
 rw [if_neg (fun h => h rfl), if_neg (by rw [List.length_drop]; omega), List.drop_drop]
def headE (b : By) : Nat := leVal (b.take 8)
def headA (b : By) : Nat := leVal ((b.drop 8).take 4)
def HeadOk (b : By) (k : Nat) : Prop := headE b % 2 = k ∧ (1 ≤ headA b ∧ headA b ≤ 256) ∧ b = headB (headE b) (headA b)
instance (b : By) (k : Nat) : Decidable (HeadOk b k) := by unfold HeadOk; infer_instance
theorem headE_lt (b : By) : headE b < 18446744073709551616 := by
 have h1 := leVal_lt (b.take 8)
 have h2 : (b.take 8).length ≤ 8 := by rw [List.length_take]; omega
 have h3 := Nat.pow_le_pow_right (show 0 < 256 by omega) h2
 unfold headE
 omega
theorem headA_lt (b : By) : headA b < 4294967296 := by
 have h1 := leVal_lt ((b.drop 8).take 4)
 have h2 : ((b.drop 8).take 4).length ≤ 4 := by rw [List.length_take]; omega
 have h3 := Nat.pow_le_pow_right (show 0 < 256 by omega) h2
 unfold headA
 omega
set_option maxRecDepth 100000 in
theorem K_readHead {dl dh gd k : Nat} {S : List Sec} {C : List (Option Sec)} {b : By} {z : Int} (w : World) (hd : DkAt w dl dh gd S C) (hz : z = k) (hk : k < 2) (hr : rdD S C k = (b, 0)) (hl : b.length = 256) :
  CallsR Tryz.prog 60 [.pointer (some ⟨gd, 0, none⟩), .int .i64 z] w fun v w' => ∃ (x : Nat) (y : Int), v = .tuple #[.int .u64 (x : Int), .int .i64 y, .bool (decide (HeadOk b k))] ∧ (HeadOk b k → x = headE b ∧ y = headA b) ∧ Below w.heap.size w w' := by
 subst hz
 obtain ⟨e, he⟩ : ∃ e, headE b = e := ⟨_, rfl⟩
 obtain ⟨a, ha⟩ : ∃ a, headA b = a := ⟨_, rfl⟩
 have e1 : WordR 8 b 0 e (b.drop 8) 0 := ⟨by rw [rWord8 (by omega), ← he]; rfl⟩
 have e2 : WordR 4 (b.drop 8) 0 a (b.drop 12) 0 := ⟨by rw [rWord4 (by omega), ← ha]; rfl⟩
 have hel : e < 18446744073709551616 := he ▸ headE_lt b
 have hal : a < 4294967296 := ha ▸ headA_lt b
 have wk : (Lit.int .i64 (k : Int)).wf = true := i64_wf (by omega)
 have hP : HeadOk b k ↔ e % 2 = k ∧ (1 ≤ a ∧ a ≤ 256) ∧ b = headB e a := by unfold HeadOk; rw [he, ha]
 rw [he, ha]
 refine callsR Tryz.func60 rfl rfl (by kernel_rfl) rfl ?_
 have hw := Below.refl w.heap.size w
 refine zs (za rfl (za rfl (za rfl (wl_nil (zs (zm rfl (zm rfl ?_)))))))
 refine wl_call rfl (C_dReadN _ hd hr wk) ?_
 rintro v15 w15 ⟨A15, ⟨c15, ⟨rfl, ⟨f15, ⟨i15, b15⟩⟩⟩⟩⟩
 dsimp only at f15
 dsimp only at i15
 dsimp only
 have s15 := b15.size
 replace hw := hw.trans (b15.mono hw.size)
 refine zm rfl ?_
 refine zp (o_ext20 rfl) ?_
 refine zp (o_ext21 rfl) ?_
 refine za rfl (za rfl (wl_nil (rk_seq (zs (zm rfl ?_)))))
 refine zp (o_ne rfl rfl) ?_
 refine wl_nil ?_
 refine rk_false rfl ?_
 refine rk_skip (zs (zm rfl ?_))
 refine wl_call rfl (C_rRead _ f15.to_Rd rfl (by omega)) ?_
 rintro v21 w21 ⟨g21, ⟨rfl, ⟨i21, ⟨i21_1, ⟨f21, b21⟩⟩⟩⟩⟩
 have s21 := b21.size
 replace hw := hw.trans (b21.mono hw.size)
 replace f15 := f15.u b21
 refine za rfl (wl_nil (zs (zm rfl ?_)))
 refine wl_call rfl (C_rWord _ f21 e1) ?_
 rintro v23 w23 ⟨rfl, ⟨f23, ⟨g23, g23_1⟩⟩⟩
 have s23 := g23.size
 replace hw := hw.trans (below_of_grownBy g23.g hw.size (by omega))
 replace f15 := f15.k g23.g (ap_some (by omega))
 clear f21
 refine zm rfl ?_
 refine wl_call rfl (C_rWord _ f23 e2) ?_
 rintro v25 w25 ⟨rfl, ⟨f25, ⟨g25, g25_1⟩⟩⟩
 have s25 := g25.size
 replace hw := hw.trans (below_of_grownBy g25.g hw.size (by omega))
 replace f15 := f15.k g25.g (ap_some (by omega))
 clear f23
 refine zp (o_convi64 (src := 52) (dst := 3) Tryz.underlying52 Tryz.underlying3 rfl (by omega) (by omega)) ?_
 refine za rfl (za rfl (wl_nil (rk_seq (zs (zm rfl ?_)))))
 refine zp (o_remu rfl rfl (by omega) (by omega)) ?_
 refine zm rfl ?_
 refine zp (o_convu64 (src := 3) (dst := 52) Tryz.underlying3 Tryz.underlying52 rfl (by omega) (by omega)) ?_
 refine zp (o_ne rfl rfl) ?_
 refine zm rfl ?_
 by_cases h1 : e % 2 = k
 ·by_cases h2 : 1 ≤ a ∧ a ≤ 256
  ·have h3 : 1 ≤ (a : Int) ∧ (a : Int) ≤ 256 := by omega
   obtain ⟨hb, hhb⟩ : ∃ hb, headB e a = hb := ⟨_, rfl⟩
   refine wl_know 32 false rfl (decide_eq_false (by omega)) ?_
   refine zm rfl ?_
   refine wl_call rfl (C_jSectorsY _ (by omega)) ?_
   rintro v34 w34 ⟨rfl, rfl⟩
   refine zp (o_eq rfl rfl) ?_
   refine zp (o_pick_f rfl rfl) ?_
   refine wl_nil ?_
   refine rk_if rfl (fun h36 => absurd h36 (by omega)) (fun h36 => ?_)
   refine rk_skip (zs (zm rfl (zm rfl (zm rfl (zm rfl (zm rfl ?_))))))
   refine wl_call rfl (C_headBytes _ rfl rfl hhb (by omega) (by omega)) ?_
   rintro v42 w42 ⟨A42, ⟨c42, ⟨rfl, ⟨f42, ⟨e42, b42⟩⟩⟩⟩⟩
   have qf42 := f42.cap
   have s42 := b42.size
   replace hw := hw.trans (b42.mono hw.size)
   replace f15 := f15.u b42
   replace f25 := f25.u b42
   refine wl_call rfl (C_bEqual _ f15.to_Rd f42.to_Rd rfl (by omega)) ?_
   rintro v43 w43 ⟨rfl, b43⟩
   have s43 := b43.size
   replace hw := hw.trans (b43.mono hw.size)
   replace f25 := f25.u b43
   replace f15 := f15.u b43
   replace f42 := f42.u b43
   refine za rfl (za rfl (za rfl (wl_nil ?_)))
   refine ret_any (vs := [.int .u64 (e : Int), .int .i64 (a : Int), .bool (decide (b = hb))]) rfl (.tmp rfl (.tmp rfl (.tmp rfl .nil))) (by simp) ?_
   exact ⟨e, a, by rw [decide_eq_decide.2 (show b = hb ↔ HeadOk b k by rw [hP, hhb]; exact ⟨fun h => ⟨h1, h2, h⟩, fun h => h.2.2⟩)], fun _ => ⟨rfl, rfl⟩, hw⟩
  ·have h3 : ¬(1 ≤ (a : Int) ∧ (a : Int) ≤ 256) := by omega
   have hno : ¬HeadOk b k := fun h => h2 (hP.1 h).2.1
   refine wl_know 32 false rfl (decide_eq_false (by omega)) ?_
   refine zm rfl ?_
   refine wl_call rfl (C_jSectorsN _ (by omega)) ?_
   rintro v34 w34 ⟨rfl, rfl⟩
   refine zp (o_eq rfl rfl) ?_
   refine zp (o_pick_f rfl rfl) ?_
   refine wl_nil ?_
   refine rk_true rfl ?_
   refine zs (za rfl (za rfl (za rfl (wl_nil ?_))))
   refine ret_any (vs := [.int .u64 0, .int .i64 0, .bool false]) rfl (.tmp rfl (.tmp rfl (.tmp rfl .nil))) (by simp) ?_
   exact ⟨0, 0, by rw [decide_eq_false hno]; rfl, fun h => absurd h hno, hw⟩
 ·have hno : ¬HeadOk b k := fun h => h1 (hP.1 h).1
  refine wl_know 32 true rfl (decide_eq_true (by omega)) ?_
  refine wl_off (wl_off (wl_off ?_))
  refine zp (o_pick_t rfl rfl) ?_
  refine wl_nil ?_
  refine rk_true rfl ?_
  refine zs (za rfl (za rfl (za rfl (wl_nil ?_))))
  refine ret_any (vs := [.int .u64 0, .int .i64 0, .bool false]) rfl (.tmp rfl (.tmp rfl (.tmp rfl .nil))) (by simp) ?_
  exact ⟨0, 0, by rw [decide_eq_false hno]; rfl, fun h => absurd h hno, hw⟩
end Go.Proofs.YtnnhenafhalobaaGreat
namespace Go.Proofs.YtnnhenafhalobaaGreat
set_option maxRecDepth 100000
open Go.RowKit
theorem rdD_cur {S : List Sec} {C : List (Option Sec)} {i : Nat} (h : i < S.length) (hc : C.length = S.length) : rdD S C (i : Int) = (((cur S C)[i]'(by rw [cur_len]; exact h)).1, 0) := by
 unfold rdD
 rw [dif_pos ⟨by omega, by omega⟩, cur_get S C i h (by omega)]
 unfold cAt
 rw [if_pos (by omega)]
 simp only [Int.toNat_natCast]
 rw [List.getElem?_eq_getElem (by omega)]
 rfl
theorem areaB_zero (T : List Sec) (n : Nat) : areaB T n 0 = [] := by unfold areaB; rw [List.take_zero]; rfl
theorem areaB_succ {T : List Sec} {n k : Nat} (h : n + k < T.length) : areaB T n (k + 1) = areaB T n k ++ T[n + k].1 := by
 unfold areaB
 rw [List.take_succ_eq_append_getElem (by rw [List.length_drop]; omega), img_append, List.getElem_drop]
 simp [img]
set_option maxHeartbeats 1000000 in
theorem C_jRead {dl dh gd n k : Nat} {S : List Sec} {C : List (Option Sec)} {r : By} {z y : Int} (w : World) (hd : DkAt w dl dh gd S C) (hz : z = n) (hy : y = k) (hr : areaB (cur S C) n k = r) (hn : n + k ≤ S.length) :
  CallsR Tryz.prog 52 [.pointer (some ⟨gd, 0, none⟩), .int .i64 z, .int .i64 y] w fun v w' => ∃ A' c', v = .slice A' r.length c' ∧ OwnH w' w.heap.size w'.heap.size A' c' r ∧ Below w.heap.size w w' := by
 subst hz; subst hy; subst hr
 have hS := hd.n2
 have hCl := hd.len
 refine callsR Tryz.func52 rfl rfl (by kernel_rfl) rfl ?_
 have hw := Below.refl w.heap.size w
 refine zs (za rfl (wl_nil (zs (za rfl (wl_nil (rk_seq (zs (zm rfl (zm rfl (wl_nil (rk_block ?_)))))))))))
 refine rk_joinf (fun fb fr w3 => ∃ A' c', fr = [(7, .slice A' (areaB (cur S C) n k).length c')] ++ fb.drop 3 ∧ OwnH w3 w.heap.size w3.heap.size A' c' (areaB (cur S C) n k) ∧ Below w.heap.size w w3) ?_ (fun ks hj => ?_)
 rotate_left
 ·refine rk_loopf (fun fb m fr w3 => ∃ (i : Nat) (v : Int) (A' : Option Addr) (c' : Nat) (q : By), fr = [(12, .int .i64 v), (11, .int .i64 (k : Int)), (7, .slice A' q.length c')] ++ fb.drop 3 ∧ v = i ∧ i ≤ k ∧ m = k - i ∧ q = areaB (cur S C) n i ∧ q.length = 256 * i ∧ OwnH w3 w.heap.size w3.heap.size A' c' q ∧ Below w.heap.size w w3) (n := k) (Fr.le_of (by kernel_rfl) (by kernel_rfl) (by repeat' constructor)) ⟨0, _, none, 0, [], rfl, rfl, by omega, rfl, by rw [areaB_zero], rfl, OwnH.nil_, hw⟩ ?_
  clear hw
  rintro m fr w3 ⟨i, v, A', c', q, rfl, rfl, hi, rfl, hq, hql, fo, hw⟩
  have shw := hw.size
  first | refine zf ?_ | refine zg ?_
  by_cases hik : i < k
  ·have hrd : rdD S C ((n : Int) + i) = (((cur S C)[n + i]'(by rw [cur_len]; omega)).1, 0) := by
    have := rdD_cur (S := S) (C := C) (i := n + i) (by omega) hCl
    rwa [show (((n + i : Nat)) : Int) = (n : Int) + i by omega] at this
   obtain ⟨sb, hsb⟩ : ∃ sb, ((cur S C)[n + i]'(by rw [cur_len]; omega)).1 = sb := ⟨_, rfl⟩
   have hsl : sb.length = 256 := by rw [← hsb]; exact ((cur S C)[n + i]'(by rw [cur_len]; omega)).2
   have hnx := areaB_succ (T := cur S C) (n := n) (k := i) (by rw [cur_len]; omega)
   rw [hsb] at hrd hnx
   have wa : (Lit.int .i64 ((n : Int) + i)).wf = true := i64_wf (by omega)
   refine zs ?_
   refine zp (o_lt rfl rfl) ?_
   refine wl_nil (rk_seq ?_)
   refine rk_if rfl (fun h13 => ?_) (fun h13 => h13.elim (by omega))
   refine rk_skip (rk_seq (rk_block (zs (zm rfl (za rfl (wl_nil (zs (zm rfl (zm rfl (zm rfl ?_))))))))))
   refine zp (o_add rfl rfl (by omega) (by omega)) ?_
   refine wl_call rfl (C_dReadN _ (hd.u hw) hrd wa) ?_
   rintro v20 w20 ⟨A20, ⟨c20, ⟨rfl, ⟨f20, ⟨i20, b20⟩⟩⟩⟩⟩
   dsimp only at f20
   dsimp only at i20
   dsimp only
   have s20 := b20.size
   replace hw := hw.trans (b20.mono hw.size)
   replace fo := fo.u b20
   refine zm rfl ?_
   refine zp (o_ext20 rfl) ?_
   refine zp (o_ext21 rfl) ?_
   refine za rfl (za rfl (wl_nil (rk_region (zm rfl (zm rfl ?_)))))
   refine wl_appB Tryz.u8 rfl fo rfl rfl f20.to_Rd rfl (by omega) hw.size ?_
   rintro A25 c25 w25 f25 g25 b25 i25
   have qf25 := f25.cap
   have s25 := g25.size
   replace hw := hw.trans (b25.mono (by omega))
   replace f20 := f20.k g25.g (fo.ap (by omega))
   clear fo
   refine za rfl (wl_nil ?_)
   refine rk_blk ?_
   refine rk_region ?_
   refine zp (o_add rfl rfl (by omega) (by omega)) ?_
   refine zm rfl (wl_nil ?_)
   exact rk_againf (Fr.le_of (by kernel_rfl) (by kernel_rfl) (by repeat' constructor)) ⟨i + 1, (i : Int) + 1, A25, c25, q ++ sb, rfl, by omega, by omega, rfl, by rw [hnx, hq], by rw [List.length_append]; omega, f25.base (by omega) (by omega), hw⟩ (by omega)
  ·refine zs ?_
   refine zp (o_lt rfl rfl) ?_
   refine wl_nil (rk_seq ?_)
   refine rk_if rfl (fun h13 => absurd h13 (by omega)) (fun h13 => ?_)
   refine rk_exit rfl ?_
   obtain rfl : i = k := by omega
   subst hq
   exact rk_tof hj (Fr.le_of (by kernel_rfl) (by kernel_rfl) (by repeat' constructor)) ⟨A', c', rfl, fo, hw⟩
 clear hw
 rintro fr w3 ⟨A', c', rfl, fo, hw⟩
 have shw := hw.size
 first | refine zf ?_ | refine zg ?_
 refine zs (zm rfl (za rfl (wl_nil ?_)))
 refine ret1 rfl rfl ?_
 exact ⟨_, _, rfl, fo, hw⟩
section
variable {g n c : Nat} {d L : Option Addr} {a t k s : Int} {e : Nat} {ch : By}
theorem C_jValid (w : World) (hB : Blk w g 85 (jC (some ⟨g, 0, none⟩) d a e L n c t ch k s)) : CallsR Tryz.prog 48 [.pointer (some ⟨g, 0, none⟩)] w fun v w' => v = .bool true ∧ w' = w := by
 refine callsR Tryz.func48 rfl rfl (by kernel_rfl) rfl ?_
 refine zs (za rfl (wl_nil (zs (zm rfl ?_))))
 refine zp (o_pne_nil (t := 31) Tryz.underlying31 rfl rfl) ?_
 refine zm rfl (zm rfl ?_)
 refine zp (o_nil rfl) ?_
 refine zp (o_faddr (s := 85) (i := 0) (off := 0) Tryz.underlying85 rfl Tryz.sizeOf31 rfl rfl rfl) ?_
 refine wl_r (o_loadbg Tryz.isAgg31 rfl hB (by rfl)) ?_
 refine zm rfl ?_
 refine zp (o_peq_same (t := 31) Tryz.underlying31 Tryz.sizeOf85 rfl rfl) ?_
 refine zp (o_pick_t rfl rfl) ?_
 refine za rfl (wl_nil ?_)
 refine ret1 rfl rfl ?_
 exact ⟨rfl, rfl⟩
theorem C_jStart {x : Int} (w : World) (h : 0 ≤ x ∧ x ≤ 100000) : CallsR Tryz.prog 44 [.int .i64 x] w fun v w' => v = .int .i64 (x * 256) ∧ Below w.heap.size w w' := by
 refine callsR Tryz.func44 rfl rfl (by kernel_rfl) rfl ?_
 have hw := Below.refl w.heap.size w
 refine zs (za rfl (wl_nil (zs (zm rfl ?_))))
 refine zp (o_mul rfl rfl (by omega) (by omega)) ?_
 refine za rfl (wl_nil ?_)
 refine ret1 rfl rfl ?_
 exact ⟨rfl, hw⟩
theorem C_jLeft {z : Int} (w : World) (hB : Blk w g 85 (jC (some ⟨g, 0, none⟩) d a e L n c t ch k s)) (hz : a * 256 - t = z) (ha : 0 ≤ a ∧ a ≤ 256) (ht : 0 ≤ t ∧ t ≤ 100000) : CallsR Tryz.prog 13 [.pointer (some ⟨g, 0, none⟩)] w fun v w' => v = .int .i64 z ∧ Below w.heap.size w w' := by
 subst hz
 refine callsR Tryz.func13 rfl rfl (by kernel_rfl) rfl ?_
 have hw := Below.refl w.heap.size w
 refine zs (za rfl (wl_nil (rk_seq (zs (zm rfl ?_)))))
 refine wl_call rfl (C_jValid _ hB) ?_
 rintro v4 w4 ⟨rfl, rfl⟩
 refine zp (o_not rfl) ?_
 refine wl_nil ?_
 refine rk_false rfl ?_
 refine rk_skip (rk_seq ?_)
 refine rk_drawo (id := 3) (none) [0, 1, 2, 4, 8, 0, 32, 64, 128, 272, 1023] [0, 1, 3, 7, 15, 0, 32, 96, 224, 511, 1023] 16 16 [0, 1, 2, 3, 5, 6, 7, 8, 4, 9, 10] [(.p, 0), (.p, 1), (.p, 2), (.r, 3), (.p, 5), (.p, 6), (.p, 7), (.s, 8), (.c, 4), (.p, 9), (.p, 10)] (by kernel_rfl) (by kernel_rfl) (by kernel_rfl) (by kernel_rfl) (by kernel_rfl) ?_
 dsimp only [inOrder, nthOp]
 replace hw := hw.drew
 refine zm rfl ?_
 refine zp (o_nil rfl) ?_
 refine zp (o_faddr (s := 85) (i := 2) (off := 2) Tryz.underlying85 rfl Tryz.sizeOf3 rfl rfl rfl) ?_
 refine wl_r (o_loadbg Tryz.isAgg3 rfl (hB.u hw) (by rfl)) ?_
 refine zm rfl ?_
 refine zp (o_nil rfl) ?_
 refine zp (o_faddr (s := 85) (i := 5) (off := 5) Tryz.underlying85 rfl Tryz.sizeOf80 rfl rfl rfl) ?_
 refine wl_s (fun _ hk => (o_loadbg Tryz.isAgg80 rfl ((hB.u hw).u (below_of_grown_none hk)) (by rfl))) ?_
 refine wl_call rfl (C_jStart _ (by omega)) ?_ (hq := .inr fun _ _ h => grown_of_below h.2 _)
 rintro v10 w10 ⟨rfl, b10⟩
 simp only [drew_size] at b10
 have s10 := b10.size
 simp only [drew_size] at s10
 replace hw := hw.trans (b10.mono hw.size)
 refine zp (o_sub rfl rfl (by omega) (by omega)) ?_
 refine za rfl ?_
 refine wl_nild ?_
 refine ret1 rfl rfl ?_
 exact ⟨rfl, hw⟩
theorem C_jEpoch (w : World) (hB : Blk w g 85 (jC (some ⟨g, 0, none⟩) d a e L n c t ch k s)) : CallsR Tryz.prog 24 [.pointer (some ⟨g, 0, none⟩)] w fun v w' => v = .int .u64 (e : Int) ∧ Below w.heap.size w w' := by
 refine callsR Tryz.func24 rfl rfl (by kernel_rfl) rfl ?_
 have hw := Below.refl w.heap.size w
 refine zs (za rfl (wl_nil (rk_seq (zs (zm rfl ?_)))))
 refine wl_call rfl (C_jValid _ hB) ?_
 rintro v4 w4 ⟨rfl, rfl⟩
 refine zp (o_not rfl) ?_
 refine wl_nil ?_
 refine rk_false rfl ?_
 refine rk_skip (zs (zm rfl ?_))
 refine zp (o_nil rfl) ?_
 refine zp (o_faddr (s := 85) (i := 3) (off := 3) Tryz.underlying85 rfl Tryz.sizeOf52 rfl rfl rfl) ?_
 refine wl_r (o_loadbg Tryz.isAgg52 rfl hB (by rfl)) ?_
 refine za rfl (wl_nil ?_)
 refine ret1 rfl rfl ?_
 exact ⟨rfl, hw⟩
theorem C_jSynced (w : World) (hB : Blk w g 85 (jC (some ⟨g, 0, none⟩) d a e L n c t ch k s)) (h : ch.length = 32) : CallsR Tryz.prog 25 [.pointer (some ⟨g, 0, none⟩)] w fun v w' => v = .int .i64 s ∧ Below w.heap.size w w' := by
 refine callsR Tryz.func25 rfl rfl (by kernel_rfl) rfl ?_
 have hw := Below.refl w.heap.size w
 refine zs (za rfl (wl_nil (rk_seq (zs (zm rfl ?_)))))
 refine wl_call rfl (C_jValid _ hB) ?_
 rintro v4 w4 ⟨rfl, rfl⟩
 refine zp (o_not rfl) ?_
 refine wl_nil ?_
 refine rk_false rfl ?_
 refine rk_skip (zs (zm rfl ?_))
 refine zp (o_nil rfl) ?_
 refine zp (o_faddr (s := 85) (i := 8) (off := 39) Tryz.underlying85 rfl Tryz.sizeOf3 rfl rfl rfl) ?_
 refine wl_r (o_ldJs rfl hB h) ?_
 refine za rfl (wl_nil ?_)
 refine ret1 rfl rfl ?_
 exact ⟨rfl, hw⟩
end
end Go.Proofs.YtnnhenafhalobaaGreat
namespace Go.Proofs.YtnnhenafhalobaaGreat
set_option maxRecDepth 100000
open Go.RowKit
theorem C_jWriteH {dl dh gd n M c rlo rhi m : Nat} {S : List Sec} {C C' : List (Option Sec)} {A : Option Addr} {b : By} {z : Int} (w : World) (hd : DkAt w dl dh gd S C) (hb : OwnH w rlo rhi A c b) (hM : b.length = 256 * M) (hC : wrs C n (secsN M b) = C') (hz : z = n) (hm : m = b.length) (hM1 : 1 ≤ M) (hrd : rhi ≤ dl ∨ dh ≤ rlo) (hrs : rhi ≤ w.heap.size) (hn : n + M ≤ S.length) (hMx : M ≤ 10000) :
  CallsR Tryz.prog 42 [.pointer (some ⟨gd, 0, none⟩), .int .i64 z, .slice A m c] w fun v w' => v = .tuple #[] ∧ DkAt w' dl dh gd S C' ∧ Chg dl dh w w' := by
 subst hm
 have hc := hb.cap
 obtain ⟨bb, oo, rfl, _⟩ := hb.to_Rd.2 (by intro e; have := congrArg List.length e; rw [B8_length, List.length_nil] at this; omega)
 exact C_jWrite w hd hb.rdB hrd hrs hz hM (by omega) hn hMx hC
set_option maxRecDepth 100000 in
theorem K_jPut {g c lo hi e n cp : Nat} {d L A : Option Addr} {a k s : Int} {ch u b p : By} (w : World) (hB : Blk w g 85 (jC (some ⟨g, 0, none⟩) d a e L b.length c b.length ch k s)) (hL : OwnH w lo hi L c b) (hp : Rd w A p) (hn : n = p.length) (hch : ch.length = 32) (hu : u.length = 32) (hlo : lo ≤ w.heap.size) (hl1 : b.length ≤ 1000000) (hl2 : p.length ≤ 1000000) (hk : 0 ≤ k ∧ k ≤ 1000000) (hg : g < w.heap.size) :
  CallsR Tryz.prog 53 [.pointer (some ⟨g, 0, none⟩), .slice A n cp, .agg (B8 u).toArray] w fun v w' => v = .tuple #[] ∧ ∃ L' c', Blk w' g 85 (jC (some ⟨g, 0, none⟩) d a e L' (b ++ p).length c' (b ++ p).length u (k + 1) s) ∧ OwnH w' lo w'.heap.size L' c' (b ++ p) ∧ (blk L' = blk L ∨ ∀ k, blk L' = some k → w.heap.size ≤ k) ∧ ∃ w1, Grew w w1 5 (blk L) ∧ Grew w1 w' 85 (some g) := by
 subst hn
 refine callsR Tryz.func53 rfl rfl (by kernel_rfl) rfl ?_
 have hcg : Chg 0 w.heap.size w w := Chg.refl
 have hty := hL.to_RdT.2
 refine zs ?_
 refine wl_boxg _ rfl (by rfl) ?_
 rintro g5 w5 f5 b5 i5 i5_1
 have s5 := b5.size
 replace hcg := hcg.thenB b5
 replace hp := hp.u b5
 replace hL := hL.u b5
 replace hB := hB.u b5
 refine wl_nil (rk_seq ?_)
 refine rk_draw (id := 1) (none) [0, 0, 2, 4, 8, 0, 32, 64, 128, 272, 0, 1536, 4095, 8191, 12287] [0, 0, 2, 6, 14, 0, 32, 96, 224, 510, 0, 2046, 4095, 8191, 16383] 18432 0 [(.p, 0), (.p, 1), (.p, 2), (.p, 3), (.r, 4), (.p, 5), (.p, 6), (.p, 7), (.r, 8), (.p, 9), (.p, 10), (.l, 11), (.p, 12), (.p, 13), (.l, 14)] (by kernel_rfl) (by kernel_rfl) (by kernel_rfl) (by kernel_rfl) (by kernel_rfl) ?_
 replace hcg := hcg.trans Chg.drew
 replace hB := hB.d
 replace hL := hL.d
 replace hp := hp.d
 replace f5 := f5.d
 refine zm rfl (zm rfl ?_)
 refine zp (o_nil rfl) ?_
 refine zp (o_faddr (s := 85) (i := 4) (off := 4) Tryz.underlying85 rfl Tryz.sizeOf35 rfl rfl rfl) ?_
 refine wl_r (o_loadbg Tryz.isAgg35 rfl hB (by rfl)) ?_
 refine zm rfl ?_
 refine zp (o_nil rfl) ?_
 refine zp (o_faddr (s := 85) (i := 5) (off := 5) Tryz.underlying85 rfl Tryz.sizeOf80 rfl rfl rfl) ?_
 refine wl_r (o_loadbg Tryz.isAgg80 rfl hB (by rfl)) ?_
 refine wl_slBh Tryz.u8 (List.length b) rfl rfl hL.to_Rd rfl rfl (by omega) hL.cap ?_
 rintro f15
 refine zm rfl ?_
 refine wl_appB Tryz.u8 rfl hL rfl rfl hp rfl (by omega) (by simp; omega) ?_
 rintro A17 c17 w17 f17 g17 b17 i17
 simp only [drew_size] at i17
 have qf17 := f17.cap
 have s17 := g17.size
 simp only [drew_size] at s17
 replace f5 := f5.y g17 (by decide)
 replace hB := hB.y g17 (by decide)
 clear f15
 clear hp
 clear hL
 refine zp (o_nil rfl) ?_
 refine zp (o_faddr (s := 85) (i := 4) (off := 4) Tryz.underlying85 rfl Tryz.sizeOf35 rfl rfl rfl) ?_
 refine wl_stJlog rfl hB rfl hch ?_
 rintro w_1 f g_1 e_1
 have s_1 := g_1.size
 replace f5 := f5.k g_1.g (ap_some (by omega))
 replace f17 := f17.y g_1 (by decide)
 clear hB
 refine wl_nild ?_
 refine zs (zm rfl ?_)
 refine zp (o_nil rfl) ?_
 refine zp (o_faddr (s := 85) (i := 5) (off := 5) Tryz.underlying85 rfl Tryz.sizeOf80 rfl rfl rfl) ?_
 refine wl_r (o_loadbg Tryz.isAgg80 rfl f (by rfl)) ?_
 refine zm rfl ?_
 refine zp (o_len (t := 35) Tryz.underlying35 rfl) ?_
 refine zp (o_add rfl rfl (by omega) (by omega)) ?_
 refine zp (o_nil rfl) ?_
 refine zp (o_faddr (s := 85) (i := 5) (off := 5) Tryz.underlying85 rfl Tryz.sizeOf80 rfl rfl rfl) ?_
 refine wl_stJtail rfl f rfl hch ?_
 rintro w_2 f_1 g_2 e_2
 have s_2 := g_2.size
 replace f17 := f17.y g_2 (by decide)
 replace f5 := f5.k g_2.g (ap_some (by omega))
 clear f
 refine wl_nil (zs (zm rfl ?_))
 refine wl_r (o_ldBa Tryz.isAgg64 Tryz.sizeOf64 rfl f5 hu) ?_
 refine zp (o_nil rfl) ?_
 refine zp (o_faddr (s := 85) (i := 6) (off := 6) Tryz.underlying85 rfl Tryz.sizeOf64 rfl rfl rfl) ?_
 refine wl_stJch rfl f_1 rfl hch hu ?_
 rintro w_3 f g_3 e_3
 have s_3 := g_3.size
 replace f5 := f5.k g_3.g (ap_some (by omega))
 replace f17 := f17.y g_3 (by decide)
 clear f_1
 refine wl_nil (rk_region (zm rfl ?_))
 refine zp (o_nil rfl) ?_
 refine zp (o_faddr (s := 85) (i := 7) (off := 38) Tryz.underlying85 rfl Tryz.sizeOf3 rfl rfl rfl) ?_
 refine wl_r (o_ldJk rfl f hu) ?_
 refine zp (o_add rfl rfl (by omega) (by omega)) ?_
 refine zp (o_nil rfl) ?_
 refine zp (o_faddr (s := 85) (i := 7) (off := 38) Tryz.underlying85 rfl Tryz.sizeOf3 rfl rfl rfl) ?_
 refine wl_stJk rfl f rfl hu ?_
 rintro w_4 f_1 g_4 e_4
 have s_4 := g_4.size
 replace f17 := f17.y g_4 (by decide)
 replace f5 := f5.k g_4.g (ap_some (by omega))
 clear f
 refine wl_nil ?_
 refine end0 rfl ?_
 refine ⟨rfl, _, _, by rw [show (((b ++ p).length : Nat) : Int) = (b.length : Int) + p.length by rw [List.length_append]; omega]; exact f_1, f17.base (Nat.le_refl _) (by have := g_1.g.size; have := g_2.g.size; have := g_3.g.size; have := g_4.g.size; omega), ?_, w17, ⟨grownBy_trans (grown_of_below b5.drew _) g17.g, hty⟩, ⟨grownBy_trans (grownBy_trans (grownBy_trans g_1.g g_2.g) g_3.g) g_4.g, g_1.2⟩⟩
 exact i17.imp id (fun h k hk => by rw [h] at hk; injection hk with hk; have := b5.size; omega)
set_option maxRecDepth 100000 in
set_option maxHeartbeats 1000000 in
theorem K_jFormat {dl dh gd a : Nat} {S Sb S1 : List Sec} {C Ca Cb Cc C1 : List (Option Sec)} {z : Int} {u : D32} {ZZ ZA hb : By} (w : World) (hd : DkAt w dl dh gd S C) (hz : z = a) (ha : 1 ≤ a ∧ a ≤ 256) (hn : 2 + 2 * a ≤ S.length) (hu : sumB [wB8 0] = u.1) (hZZ : List.replicate 256 0 = ZZ) (hZA : List.replicate (a * 256) 0 = ZA) (hhb : headB 0 a = hb)
  (h1 : wrs C 1 (secsN 1 ZZ) = Ca) (h2 : wrs Ca 2 (secsN a ZA) = Cb) (h3 : cur S Cb = Sb) (h4 : List.replicate S.length none = C1) (h5 : wrs C1 0 (secsN 1 hb) = Cc) (h6 : cur Sb Cc = S1) :
  CallsR Tryz.prog 12 [.pointer (some ⟨gd, 0, none⟩), .int .i64 z] w fun v w' => ∃ g, v = .tuple #[.pointer (some ⟨g, 0, none⟩), .int .i64 0] ∧ Blk w' g 85 (jC (some ⟨g, 0, none⟩) (some ⟨gd, 0, none⟩) a 0 none 0 0 0 u.1 0 0) ∧ w.heap.size ≤ g ∧ DkAt w' dl dh gd S1 C1 ∧ Chg dl dh w w' := by
 subst hz
 have hS := hd.n2
 have hCl := hd.len
 have hdh := hd.hi
 have hZl : ZZ.length = 256 * 1 := by rw [← hZZ, List.length_replicate]
 have hAl : ZA.length = 256 * a := by rw [← hZA, List.length_replicate, Nat.mul_comm]
 have hSb : Sb.length = S.length := by rw [← h3, cur_len]
 have h4b : List.replicate Sb.length none = C1 := by rw [hSb, h4]
 have hf : 2 + 0 % 2 * a = 2 := by omega
 refine callsR Tryz.func12 rfl rfl (by kernel_rfl) rfl ?_
 have hcg : Chg dl dh w w := Chg.refl
 refine zs (za rfl (za rfl (wl_nil (rk_seq (zs (zm rfl ?_))))))
 refine wl_call rfl (C_dSize _ hd) ?_
 rintro v7 w7 ⟨rfl, rfl⟩
 refine zp (o_eq rfl rfl) ?_
 refine wl_nil ?_
 refine rk_if rfl (fun h8 => absurd h8 (by omega)) (fun h8 => ?_)
 refine rk_skip (rk_seq (zs (zm rfl ?_)))
 refine wl_call rfl (C_jSectorsY _ (by omega)) ?_
 rintro v10 w10 ⟨rfl, rfl⟩
 refine zp (o_eq rfl rfl) ?_
 refine zm rfl ?_
 refine wl_know 12 false rfl (decide_eq_false (by omega)) ?_
 refine zm rfl ?_
 refine wl_call rfl (C_dSize _ hd) ?_
 rintro v14 w14 ⟨rfl, rfl⟩
 refine zm rfl ?_
 refine wl_call rfl (C_jSectorsY _ (by omega)) ?_
 rintro v16 w16 ⟨rfl, rfl⟩
 refine zp (o_lt rfl rfl) ?_
 refine zp (o_pick_f rfl rfl) ?_
 refine wl_nil ?_
 refine rk_if rfl (fun h18 => absurd h18 (by omega)) (fun h18 => ?_)
 refine rk_skip (zs (zm rfl ?_))
 refine wl_mkBz (256) rfl rfl (by omega) (by rfl) (by omega) hZZ ?_
 rintro A20 w20 f20 b20
 have qf20 := f20.cap
 have s20 := b20.size
 replace hcg := hcg.thenB b20
 replace hd := hd.u b20
 refine wl_call rfl (C_jWriteH (M := 1) (n := 1) _ hd f20 hZl h1 rfl (by omega) (by omega) (.inr (by omega)) (by omega) (by omega) (by omega)) ?_
 rintro _ w21 ⟨rfl, hd21, b21⟩
 have sb21 := b21.size
 replace hcg := hcg.trans (b21.wide (by omega) (by omega))
 replace f20 := f20.c b21 (by omega)
 clear hd
 refine wl_nil (zs (zm rfl (zm rfl ?_)))
 refine wl_call rfl (C_jFirst _ (by omega) rfl hf (by omega) (by omega)) ?_
 rintro v24 w24 ⟨rfl, rfl⟩
 refine zm rfl ?_
 refine wl_call rfl (C_jStart _ (by omega)) ?_
 rintro v26 w26 ⟨rfl, b26⟩
 have s26 := b26.size
 replace hcg := hcg.thenB b26
 replace f20 := f20.u b26
 replace hd21 := hd21.u b26
 refine wl_mkBz (a * 256) rfl rfl (by omega) (by rfl) (by omega) hZA ?_
 rintro A27 w27 f27 b27
 have qf27 := f27.cap
 have s27 := b27.size
 replace hcg := hcg.thenB b27
 replace hd21 := hd21.u b27
 replace f20 := f20.u b27
 refine wl_call rfl (C_jWriteH _ hd21 f27 hAl (by rfl) rfl (by omega) (by omega) (by omega) (by omega) (by omega) (by omega)) ?_
 rintro v28 w28 ⟨rfl, ⟨f28, g28⟩⟩
 have s28 := g28.size
 replace hcg := hcg.trans (g28.wide (by omega) (by omega))
 replace f20 := f20.c g28 (by omega)
 replace f27 := f27.c g28 (by omega)
 clear hd21
 refine wl_nil (zs (zm rfl ?_))
 refine wl_call rfl (C_dFlush _ f28 (by rfl) h4) ?_
 rintro v30 w30 ⟨rfl, ⟨f30, g30⟩⟩
 have s30 := g30.size
 replace hcg := hcg.trans (g30.wide (by omega) (by omega))
 replace f27 := f27.c g30 (by omega)
 replace f20 := f20.c g30 (by omega)
 clear f28
 refine wl_nil (zs (zm rfl (zm rfl ?_)))
 refine wl_call rfl (C_headBytes _ (by omega) rfl hhb (by omega) (by omega)) ?_
 rintro v33 w33 ⟨A33, ⟨c33, ⟨rfl, ⟨f33, ⟨e33, b33⟩⟩⟩⟩⟩
 have qf33 := f33.cap
 have s33 := b33.size
 replace hcg := hcg.thenB b33
 replace f20 := f20.u b33
 replace f27 := f27.u b33
 replace f30 := f30.u b33
 rw [h2, h3] at f30
 have hHl : hb.length = 256 * 1 := by rw [← hhb, headB_len]
 refine wl_call rfl (C_jWriteH (M := 1) (n := 0) _ f30 f33 hHl h5 rfl (by omega) (by omega) (.inr (by have := hcg.size; omega)) (by omega) (by omega) (by omega)) ?_
 rintro _ w34 ⟨rfl, hd34, b34⟩
 have sb34 := b34.size
 replace hcg := hcg.trans (b34.wide (by omega) (by omega))
 replace f27 := f27.c b34 (by omega)
 replace f20 := f20.c b34 (by omega)
 replace f33 := f33.c b34 (by omega)
 clear f30
 have sz0 := hcg.size
 refine wl_nil (zs (zm rfl ?_))
 refine wl_call rfl (C_dFlush _ hd34 h6 h4b) ?_
 rintro v36 w36 ⟨rfl, ⟨f36, g36⟩⟩
 have s36 := g36.size
 replace hcg := hcg.trans (g36.wide (by omega) (by omega))
 replace f33 := f33.c g36 (by omega)
 replace f20 := f20.c g36 (by omega)
 replace f27 := f27.c g36 (by omega)
 clear hd34
 refine wl_nil (zs (zm rfl (zm rfl ?_)))
 refine wl_call rfl (C_jMade _ (by omega) (by omega) hu) ?_
 rintro v39 w39 ⟨g39, ⟨rfl, ⟨f39, ⟨i39, b39⟩⟩⟩⟩
 have s39 := b39.size
 replace hcg := hcg.thenB b39
 replace f27 := f27.u b39
 replace f20 := f20.u b39
 replace f33 := f33.u b39
 replace f36 := f36.u b39
 refine za rfl (za rfl (wl_nil ?_))
 refine ret2 rfl rfl rfl ?_
 exact ⟨_, rfl, f39, by omega, f36, hcg⟩
end Go.Proofs.YtnnhenafhalobaaGreat
