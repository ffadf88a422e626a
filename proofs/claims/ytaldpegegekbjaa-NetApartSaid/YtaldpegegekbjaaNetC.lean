/-
  Walks of package net: envelopes of the call's own; a net with envelopes of its own, changed by a function.
-/
import Derived.Test.YtaldpegegekbjaaNetB
namespace Go.Proofs.Ytaldpegegekbjaa
open Go.RowKit
/-- A block of bytes that may be written. -/
def Fz (w : World) (k : Nat) : Prop := ∃ cs, w.heap[k]? = some (.cells cs 5 (0, 0))
theorem Fz.ty {w : World} {k : Nat} (h : Fz w k) : TyAt w k 5 := by obtain ⟨cs, h⟩ := h; exact ⟨cs, (0, 0), h⟩
theorem Fz.lt {w : World} {k : Nat} (h : Fz w k) : k < w.heap.size := h.ty.lt
theorem Fz.keep {w w' : World} {k : Nat} (h : Fz w k) (hb : w'.heap[k]? = w.heap[k]?) : Fz w' k := by
  obtain ⟨cs, h⟩ := h
  exact ⟨cs, hb.trans h⟩
/-- Bytes that lie at or above a block's number, and may be written. -/
def gBytesO (b : Nat) : GoT By where
  sz := 1
  tys := [5]
  R w cs l := gBytes.R w cs l ∧ ∀ A n c, cs = [.slice A n c] → ∀ k, blk A = some k → b ≤ k
  T w cs l := gBytes.T w cs l ∧ ∀ A n c, cs = [.slice A n c] → ∀ k, blk A = some k → b ≤ k ∧ Fz w k
  len h := gBytes.len h.1
  u h hb := ⟨gBytes.u h.1 hb, h.2⟩
  tr h := ⟨gBytes.tr h.1, fun A n c e k hk => (h.2 A n c e k hk).1⟩
  tu h hb := ⟨gBytes.tu h.1 hb, fun A n c e k hk => ⟨(h.2 A n c e k hk).1, (h.2 A n c e k hk).2.keep (hb.block k (h.2 A n c e k hk).2.lt)⟩⟩
  ty h hg hne := ⟨gBytes.ty h.1 hg hne, fun A n c e k hk => by
    obtain ⟨h1, h2⟩ := h.2 A n c e k hk
    refine ⟨h1, h2.keep (hg.g.block k h2.lt (fun ek => ?_))⟩
    obtain ⟨_, _, h3⟩ := h2.ty
    obtain ⟨_, _, h4⟩ := hg.ty k ek.symm
    rw [h3] at h4
    injection h4 with h4
    injection h4 with _ h4
    exact hne (by rw [← h4]; simp)⟩
  tm h hg := ⟨gBytes.tm h.1 hg, fun A n c e k hk => by
    obtain ⟨h1, h2⟩ := h.2 A n c e k hk
    refine ⟨h1, h2.keep (hg.g.block k h2.lt (fun ek => ?_))⟩
    obtain ⟨_, _, h3⟩ := h2.ty
    obtain ⟨_, _, h4⟩ := hg.m
    injection ek with ek
    subst ek
    rw [h3] at h4
    cases h4⟩
def gEnvO (b : Nat) : GoT En := (gInt .i64).pair ((gInt .i64).pair (gBytesO b))
theorem gEnvO_R {b : Nat} {w : World} {cs : List Value} {e : En} (h : (gEnvO b).R w cs e) : gEnv.R w cs e := by
  obtain ⟨c1, c2, rfl, h1, c3, c4, rfl, h2, h3⟩ := h
  exact ⟨c1, _, rfl, h1, c3, c4, rfl, h2, h3.1⟩
theorem gEnvO_one (b : Nat) (w : World) (cs : List Value) (e : En) (h : (gEnvO b).T w cs e) : ∀ u ∈ cs, u.oneCell' = true := by
  obtain ⟨c1, c2, rfl, ⟨rfl, _⟩, c3, c4, rfl, ⟨rfl, _⟩, ⟨A, c, rfl, _⟩, _⟩ := h
  intro u hu
  simp only [List.cons_append, List.nil_append, List.mem_cons, List.not_mem_nil, or_false] at hu
  rcases hu with rfl | rfl | rfl <;> rfl
/-- Envelopes of the call's own: the row and their bytes. -/
def OwnEn (b : Nat) (w : World) (lo hi : Nat) (A : Option Addr) (c : Nat) (L : List En) : Prop := OwnS (gEnvO b) 38 w lo hi A c L
def REnT (b : Nat) (w : World) (A : Option Addr) (L : List En) : Prop := RSlT (gEnvO b) 38 w A L
section
variable {w w' : World} {b lo hi c : Nat} {A : Option Addr} {L : List En}
theorem OwnEn.u (h : OwnEn b w lo hi A c L) (hb : Below w.heap.size w w') : OwnEn b w' lo hi A c L := OwnS.u h hb
theorem OwnEn.d (h : OwnEn b w lo hi A c L) : OwnEn b w.drew lo hi A c L := OwnS.d h
theorem OwnEn.y {e' : TypeId} {row : Option Nat} (h : OwnEn b w lo hi A c L) (hg : Grew w w' e' row) (hne : e' ∉ [38, 5]) : OwnEn b w' lo hi A c L := OwnS.y h hg hne
theorem OwnEn.q {e' : TypeId} {row : Option Nat} (h : OwnEn b w lo hi A c L) (hg : Grew w w' e' row) (ha : Ap row lo hi) (hne : e' ∉ [5]) : OwnEn b w' lo hi A c L := OwnS.q h hg ha hne
theorem OwnEn.ap {lo' hi' : Nat} (h : OwnEn b w lo hi A c L) (hd : hi ≤ lo' ∨ hi' ≤ lo) : Ap (blk A) lo' hi' := OwnS.ap h hd
theorem OwnEn.cap (h : OwnEn b w lo hi A c L) : L.length ≤ c := OwnS.cap h
theorem OwnEn.nil_ : OwnEn b w lo hi none 0 [] := OwnS.nil_
theorem OwnEn.base {lo' hi' : Nat} (h : OwnEn b w lo hi A c L) (h1 : lo' ≤ lo) (h2 : hi ≤ hi') : OwnEn b w lo' hi' A c L := OwnS.base h h1 h2
theorem OwnEn.lt (h : OwnEn b w lo hi A c L) : ∀ k, blk A = some k → lo ≤ k ∧ k < w.heap.size := by
  obtain ⟨xs, h1, h2⟩ := h
  exact RowH.lt h1
theorem OwnEn.top (h : OwnEn b w lo hi A c L) : OwnEn b w lo w.heap.size A c L := by
  obtain ⟨xs, h1, h2⟩ := h
  exact ⟨xs, ⟨h1.o, fun k hk => (RowH.lt h1 k hk).2⟩, h2⟩
theorem OwnEn.to_REnT (h : OwnEn b w lo hi A c L) : REnT b w A L := OwnS.to_RSlT h
theorem OwnEn.to_REn (h : OwnEn b w lo hi A c L) : REn w A L := by
  obtain ⟨xs, h1, h2⟩ := OwnS.to_RSl h
  exact ⟨xs, h1, fun i hi => gEnvO_R (h2 i hi)⟩
theorem OwnEn.some_ (h : OwnEn b w lo hi A c L) (hl : 0 < L.length) : A = some (A.getD ⟨0, 0, none⟩) := h.to_REn.some_ hl
theorem REnT.u (h : REnT b w A L) (hb : Below w.heap.size w w') : REnT b w' A L := RSlT.u h hb
theorem REnT.d (h : REnT b w A L) : REnT b w.drew A L := RSlT.d h
theorem REnT.nil_ : REnT b w none [] := RSlT.nil_
theorem REnT.to_REn (h : REnT b w A L) : REn w A L := by
  obtain ⟨xs, h1, h2⟩ := RSlT.to_RSl h
  exact ⟨xs, h1, fun i hi => gEnvO_R (h2 i hi)⟩
end
theorem gEnvO_mono {b b' : Nat} (hb : b ≤ b') {w : World} {cs : List Value} {e : En} (h : (gEnvO b').T w cs e) : (gEnvO b).T w cs e := by
  obtain ⟨c1, c2, rfl, h1, c3, c4, rfl, h2, h3, h4⟩ := h
  exact ⟨c1, _, rfl, h1, c3, c4, rfl, h2, h3, fun A n c e k hk => ⟨Nat.le_trans hb (h4 A n c e k hk).1, (h4 A n c e k hk).2⟩⟩
theorem REnT.mono {b b' : Nat} {w : World} {A : Option Addr} {L : List En} (h : REnT b' w A L) (hb : b ≤ b') : REnT b w A L := by
  obtain ⟨xs, h1, h2, h3⟩ := h
  exact ⟨xs, h1, h2, fun i hi => gEnvO_mono hb (h3 i hi)⟩
theorem OwnEn.mono {b b' lo hi c : Nat} {w : World} {A : Option Addr} {L : List En} (h : OwnEn b' w lo hi A c L) (hb : b ≤ b') : OwnEn b w lo hi A c L := by
  obtain ⟨xs, h1, h2⟩ := h
  exact ⟨xs, h1, fun i hi => gEnvO_mono hb (h2 i hi)⟩
theorem Try.rowEnv : RowT Try.prog 25 38 (.agg #[.int .i64 0, .int .i64 0, .slice none 0 0]) 3 40 := ⟨Try.underlying25, by kernel_rfl, rfl, by omega⟩
section
variable {fn : Func} {F : Ending → World → Prop} {N : Nat} {ks : List K} {ops : Array Oper} {tg : Tags} {l : List Oper} {fr : Fr} {w w0 : World} {ty : TypeId} {pos : String} {aft : Array Edge} {gd : Option (Nat × Bool)} {d n j q c lo hi lo1 hi1 b : Nat} {x y : Operand} {A B : Option Addr} {L M : List En}
--@ rule buildSlice l wl_litE1
theorem wl_litE1 {ps : Array (Nat × Operand)} {xs : List Operand} {A1 : Option Addr} {n1 c1 : Nat} {p1 : By} {f0 t0 : Int} (hxs : ps.toList.map Prod.snd = xs) (hx : fr.evs xs = some [.agg #[.int .i64 f0, .int .i64 t0, .slice A1 n1 c1]]) (h1 : OwnH w lo1 hi1 A1 c1 p1) (hw : Below w0.heap.size w0 w) (hb : w0.heap.size ≤ lo1) (hn1 : n1 = p1.length) (wf : (Lit.int .i64 f0).wf = true) (wt : (Lit.int .i64 t0).wf = true) (hps : ps = ((List.range' 0 1).zip xs).toArray)
    (hk : ∀ A w', OwnEn w0.heap.size w' w.heap.size w'.heap.size A 1 [(f0, t0, p1)] → Below w.heap.size w w' → WL Try.prog fn F N ks ops tg.tail l ((d, .slice A 1 1) :: fr) w')
    (ht : tg.loud = true := by rfl) (hg : onG ops fr gd = true := by rfl) (hd : Nat.blt d N = true := by rfl) : WL Try.prog fn F N ks ops tg (⟨some d, .buildSlice 25 1 ps, ty, pos, aft, gd⟩ :: l) fr w := by
  subst hn1
  refine wl_litS (X := gEnvO w0.heap.size) (L := [(f0, t0, p1)]) Try.rowEnv Try.sizeOf38 Try.zeroValue38 hxs hps hx rfl rfl (fun i h => ?_) rfl hk ht hg hd
  obtain rfl : i = 0 := by simp at h; omega
  refine ⟨_, rfl, rfl, [_], _, rfl, ⟨rfl, wf⟩, [_], _, rfl, ⟨rfl, wt⟩, ⟨A1, c1, rfl, h1.to_RdT, h1.cap, own_max h1⟩, ?_⟩
  intro A' n' c' e k hk
  injection e with e
  injection e with e1
  subst e1
  have hlt := (RowH.lt h1 k hk).1
  refine ⟨by omega, ?_⟩
  have ho : w.ownsRow lo1 5 1 (.slice A1 p1.length c1) p1.length (B8 p1) := h1.o
  rcases ho.2 with ⟨hv, _⟩ | ⟨g, cap, cur, hv, _, hh, _⟩
  · injection hv with hv; subst hv; cases hk
  · injection hv with hv; subst hv
    have : g = k := by simpa [blk] using hk
    subst this
    exact ⟨cur, hh⟩
--@ rule append l wl_appE
theorem wl_appE (hx : fr.ev x = some (.slice A n c)) (hown : OwnEn b w lo hi A c L) (hn : n = L.length) (hy : fr.ev y = some (.slice B j q)) (hr : REnT b w B M) (hj : j = M.length) (hlen : L.length + M.length ≤ 1000000) (hB : lo ≤ w.heap.size)
    (h : ∀ A' c' w', OwnEn b w' lo w'.heap.size A' c' (L ++ M) → Grew w w' 38 (blk A) → Below lo w w' → WL Try.prog fn F N ks ops tg.tail l ((d, .slice A' (L ++ M).length c') :: fr) w')
    (ht : tg.loud = true := by rfl) (hg : onG ops fr gd = true := by rfl) (hd : Nat.blt d N = true := by rfl) (hq : tg.calm = false ∨ blk A = none ∨ blk A = tg.row := by exact .inl rfl) :
    WL Try.prog fn F N ks ops tg (⟨some d, .call { callee := .builtin .append, args := #[x, y], argTypes := #[25, 25] }, ty, pos, aft, gd⟩ :: l) fr w :=
  wl_appS (X := gEnvO b) Try.rowEnv hx hown hn hy hr hj (by simp [gEnvO, GoT.pair, gInt, GoT.flat, gBytesO]) (gEnvO_one b) (by have := Nat.mul_le_mul_right 40 hlen; omega) (by omega) hB (fun A' c' w' h1 h2 h3 _ => h A' c' w' h1 h2 h3) ht hg hd hq
end
section
variable {P : Program} {fn : Func} {F : Ending → World → Prop} {N : Nat} {ks : List K} {ops : Array Oper} {tg : Tags} {l : List Oper} {fr : Fr} {w : World} {ty : TypeId} {pos : String} {aft : Array Edge} {g : Option (Nat × Bool)} {d : Nat}
/-- The call of a function value. -/
theorem wl_callv {f : FuncId} {z : Operand} {caps : Array Value} {xs : List Operand} {ts : Array TypeId} {vs : List Value} {R : Value → World → Prop} (hz : fr.ev z = some (.func (.func f) #[] caps)) (hx : fr.evs xs = some vs) (hc : CallsR P f (vs ++ caps.toList) w R) (hk : ∀ v w', R v w' → WL P fn F N ks ops tg.tail l ((d, v) :: fr) w') (ht : tg.loud = true := by rfl) (hg : onG ops fr g = true := by rfl) (hd : Nat.blt d N = true := by rfl) (hq : tg.calm = false ∨ ∀ v w', R v w' → w.grownBy w' tg.row := by exact .inl rfl) :
    WL P fn F N ks ops tg (⟨some d, .call { callee := .value z, args := xs.toArray, argTypes := ts }, ty, pos, aft, g⟩ :: l) fr w :=
  fun a ha => left_loud ht fun K hK => by
    rw [if_pos (wanted_on (o := ⟨some d, .call { callee := .value z, args := xs.toArray, argTypes := ts }, ty, pos, aft, g⟩) ha hg)]
    have hargs : Array.map a.eval xs.toArray = vs.toArray := by rw [List.map_toArray, ha.evs hx]
    have hz' := ha.ev hz
    unfold Oper.wp
    have hrun : (execOp a.eval ⟨some d, .call { callee := .value z, args := xs.toArray, argTypes := ts }, ty, pos, aft, g⟩).run P w = .ok (.enter f (vs ++ caps.toList).toArray) w := by
      obtain ⟨g', h1, h2, h3⟩ := hc.1
      simp [execOp, resolve, invoke, hz', hargs, Deferred.ofValue, callFunc, h1]
      rw [if_neg (by simpa using h3), if_neg (by intro e; rw [e] at h2; cases h2)]
      simp
    rw [hrun]
    refine Calls.mono hc.2 ?_
    rintro e w' ⟨v, rfl, hr⟩
    exact hK _ _ (hq.imp id fun h => Rw.of (h v w' hr)) (hk v w' hr _ (ha.put hd v))
end
section
variable {N : Nat} {fr : Fr} {w : World} {ty : TypeId} {x y z : Operand} {A : Option Addr} {len cap : Nat} {kl kh : IntKind} {l h : Int}
--@ rule slice p o_slLoE
theorem o_slLoE (lo : Nat) (hx : fr.ev x = some (.slice A len cap)) (hy : fr.ev y = some (.int kl l)) (hl : l = (lo : Int)) (h1 : lo ≤ len) : OpV Try.prog N fr w (.slice 25 x (some y) none none) ty (.slice (cutA A cap 3 lo) (len - lo) (cap - lo)) w := o_slice_lo Try.underlying25 Try.sizeOf38 hx hy hl h1
end
theorem C_InsertEnd {b lo hi : Nat} {A B : Option Addr} {L M : List En} {n m c d : Nat} {i : Int} (w : World) (hown : OwnEn b w lo hi A c L) (hM : REnT b w B M) (hn : n = L.length) (hi' : i = (n : Int)) (hm : m = M.length) (hlen : L.length + M.length ≤ 100000) (hB : lo ≤ w.heap.size) :
    CallsR Try.prog 29 [.slice A n c, .int .i64 i, .slice B m d] w fun v w' => ∃ A' c', v = .slice A' (L ++ M).length c' ∧ OwnEn b w' lo w'.heap.size A' c' (L ++ M) ∧ w.grownBy w' (blk A) ∧ Below lo w w' := by
  subst hn; subst hm; subst hi'
  refine callsR Try.func29 rfl rfl (by kernel_rfl) rfl ?_
  have hw := Below.refl w.heap.size w
  have hwl := Below.refl lo w
  refine rk_seq ?_
  refine rk_region ?_
  refine wl_p (fun _ => o_assign rfl) ?_
  refine wl_nil ?_
  refine rk_seq ?_
  refine rk_region ?_
  refine wl_p (fun _ => o_move rfl) ?_
  refine wl_p (fun _ => o_move rfl) ?_
  refine wl_p (fun _ => (o_slLoE (L.length) rfl rfl rfl (by omega))) ?_
  refine wl_nil ?_
  refine rk_seq ?_
  refine rk_region ?_
  refine wl_p (fun _ => o_move rfl) ?_
  refine wl_p (fun _ => o_len (t := 25) Try.underlying25 rfl) ?_
  refine wl_p (fun _ => o_assign rfl) ?_
  refine wl_nil ?_
  refine rk_seq ?_
  refine rk_seq ?_
  refine rk_region ?_
  refine wl_p (fun _ => o_move rfl) ?_
  refine wl_p (fun _ => o_eq rfl rfl) ?_
  refine wl_nil ?_
  refine rk_if rfl (fun h16 => ?_) (fun h16 => ?_)
  · have hM0 : M = [] := List.eq_nil_of_length_eq_zero (by omega)
    subst hM0
    refine rk_seq ?_
    refine rk_region ?_
    refine wl_p (fun _ => o_move rfl) ?_
    refine wl_p (fun _ => o_assign rfl) ?_
    refine wl_nil ?_
    rw [show L.length = (L ++ []).length by simp]
    refine ret1 rfl rfl ?_
    refine ⟨_, _, rfl, ?_, World.grownBy.refl w _, hwl⟩
    rw [List.append_nil]
    exact hown.top
  · refine rk_skip ?_
    refine rk_seq ?_
    refine rk_region ?_
    refine wl_p (fun _ => o_move rfl) ?_
    refine wl_p (fun _ => o_len (t := 25) Try.underlying25 rfl) ?_
    refine wl_p (fun _ => o_assign rfl) ?_
    refine wl_nil ?_
    refine rk_seq ?_
    refine rk_seq ?_
    refine rk_region ?_
    refine wl_p (fun _ => o_move rfl) ?_
    refine wl_p (fun _ => o_move rfl) ?_
    refine wl_p (fun _ => o_eq rfl rfl) ?_
    refine wl_nil ?_
    refine rk_if rfl (fun h22 => ?_) (fun h22 => h22.elim (by omega))
    refine rk_seq ?_
    refine rk_region ?_
    refine wl_p (fun _ => o_move rfl) ?_
    refine wl_p (fun _ => o_move rfl) ?_
    refine wl_appE rfl hown rfl rfl hM rfl (by omega) (by omega) ?_
    rintro A25 c25 w25 f25 g25 b25
    have qf25 := f25.cap
    have s25 := g25.size
    replace hwl := hwl.trans (b25.mono (by omega))
    refine wl_p (fun _ => o_assign rfl) ?_
    refine wl_nil ?_
    refine ret1 rfl rfl ?_
    exact ⟨_, _, rfl, f25, (show Grew w w25 _ (blk A) from by assumption).g, hwl⟩
theorem C_Put1 {b lo hi g : Nat} {A B : Option Addr} {L M : List En} {n m c d : Nat} (w : World) (hown : OwnEn b w lo hi A c L) (hg : Blk w g 25 [.slice B m d]) (hM : REnT b w B M) (hn : n = L.length) (hm : m = M.length) (hlen : L.length + M.length ≤ 100000) (hB : lo ≤ w.heap.size) :
    CallsR Try.prog 31 [.slice A n c, .pointer (some ⟨g, 0, none⟩)] w fun v w' => ∃ A' c', v = .slice A' (L ++ M).length c' ∧ OwnEn b w' lo w'.heap.size A' c' (L ++ M) ∧ w.grownBy w' (blk A) ∧ Below lo w w' := by
  subst hn; subst hm
  refine callsR Try.func31 rfl rfl (by kernel_rfl) rfl ?_
  have hw := Below.refl w.heap.size w
  have hwl := Below.refl lo w
  refine rk_seq ?_
  refine rk_region ?_
  refine wl_p (fun _ => o_assign rfl) ?_
  refine wl_nil ?_
  refine rk_seq ?_
  refine rk_region ?_
  refine wl_p (fun _ => o_move rfl) ?_
  refine wl_p (fun _ => o_move rfl) ?_
  refine wl_p (fun _ => o_len (t := 25) Try.underlying25 rfl) ?_
  refine wl_r (o_loadbg Try.isAgg25 rfl hg (by rfl)) ?_
  refine wl_call rfl (C_InsertEnd _ hown hM rfl rfl rfl (by omega) (by omega)) ?_
  rintro v8 w8 ⟨A8, ⟨c8, ⟨rfl, ⟨f8, ⟨g8, b8⟩⟩⟩⟩⟩
  have qf8 := f8.cap
  have s8 := g8.size
  replace hwl := hwl.trans (b8.mono (by omega))
  refine wl_p (fun _ => o_assign rfl) ?_
  refine wl_nil ?_
  refine ret1 rfl rfl ?_
  exact ⟨_, _, rfl, f8, by assumption, hwl⟩
section
variable {fn : Func} {F : Ending → World → Prop} {N : Nat} {ks : List K} {ops : Array Oper} {tg : Tags} {l : List Oper} {fr : Fr} {w w0 : World} {ty : TypeId} {pos : String} {aft : Array Edge} {gd : Option (Nat × Bool)} {d : Nat} {x y : Operand}
--@ rule makeSlice l wl_mkE
theorem wl_mkE {k1 k2 : IntKind} {C : Int} (n : Nat) (hx : fr.ev x = some (.int k1 0)) (hy : fr.ev y = some (.int k2 C)) (hC : C = (n : Int)) (hn : n ≤ 1000000) (hw : Below w0.heap.size w0 w)
    (hk : ∀ A w', OwnEn w0.heap.size w' w.heap.size w'.heap.size A n [] → Below w.heap.size w w' → WL Try.prog fn F N ks ops tg.tail l ((d, .slice A 0 n) :: fr) w')
    (ht : tg.loud = true := by rfl) (hg : onG ops fr gd = true := by rfl) (hd : Nat.blt d N = true := by rfl) : WL Try.prog fn F N ks ops tg (⟨some d, .makeSlice 25 x y, ty, pos, aft, gd⟩ :: l) fr w := by
  subst hC
  obtain ⟨i, hi, hz, hs, hb⟩ := info_parts Try.rowEnv.hi
  obtain ⟨w', hrun, r1, r2⟩ := run_make_own (P := Try.prog) w w.heap.size 25 38 i _ 3 Try.rowEnv.ht hi hz hs k1 k2 n (by rw [hb]; omega) (by simp only [maxLen]; omega) (Nat.le_refl _)
  have hbl : Below w.heap.size w w' := (Below.refl _ _).grown r2 (Nat.le_refl _) (by simp)
  have ho : OwnEn w0.heap.size w' w.heap.size w'.heap.size (some ⟨w.heap.size, 0, none⟩) n [] := ⟨[], ⟨r1, fun b hb => (World.ownsRow.lt r1 b (by rw [blk_own]; exact hb)).2⟩, fun i h => absurd h (Nat.not_lt_zero _)⟩
  exact wl_v (fun a ha o ho _ => by simp [execOp, ho, ha.ev hx, ha.ev hy, hrun]) (hk _ w' ho hbl) ht hg hd (.inr (grown_of_below hbl _))
end
/-- A net with envelopes of its own, changed. -/
theorem C_change {k : Int} {A : Option Addr} {L Q : List En} {n c f b : Nat} {caps : Array Value} (w : World) (hb : b ≤ w.heap.size) (hL : REn w A L) (hn : n = L.length) (hm : n ≤ 512) (hk0 : 0 ≤ k) (hk : k ≤ 7) (hraw : ∀ e ∈ L, e.2.2.length ≤ 16384)
    (H : ∀ w1 A1 c1, OwnEn b w1 w.heap.size w1.heap.size A1 c1 L → Below w.heap.size w w1 → CallsR Try.prog f ([.slice A1 L.length c1] ++ caps.toList) w1 fun v w' => ∃ A' c', v = .slice A' Q.length c' ∧ OwnEn b w' w.heap.size w'.heap.size A' c' Q ∧ w1.grownBy w' (blk A1) ∧ Below w.heap.size w1 w') :
    CallsR Try.prog 25 [.agg #[.int .i64 k, .slice A n c], .func (.func f) #[] caps] w fun v w' => ∃ A' c', v = .agg #[.int .i64 k, .slice A' Q.length c'] ∧ OwnEn b w' w.heap.size w'.heap.size A' c' Q ∧ Below w.heap.size w w' := by
  subst hn
  obtain ⟨K, rfl⟩ : ∃ K : Nat, k = K := ⟨k.toNat, by omega⟩
  refine callsR Try.func25 rfl rfl (by kernel_rfl) rfl ?_
  have hw := Below.refl w.heap.size w
  refine rk_seq ?_
  refine rk_region ?_
  refine wl_boxg [_, _] rfl (by rfl) ?_
  rintro g2 w2 f2 b2 i2 i2_1
  have s2 := b2.size
  replace hw := hw.trans (b2.mono hw.size)
  refine wl_allocg [_, _] Try.zeroValue27 (by rfl) ?_
  rintro g4 w4 f4 b4 i4 i4_1
  have s4 := b4.size
  replace hw := hw.trans (b4.mono hw.size)
  replace f2 := f2.u b4
  refine wl_nil ?_
  refine rk_seq ?_
  refine rk_region ?_
  refine wl_p (fun _ => o_faddr (s := 27) (i := 1) (off := 1) Try.underlying27 rfl Try.sizeOf25 rfl rfl rfl) ?_
  refine wl_r (o_loadbg Try.isAgg25 rfl f2 (by rfl)) ?_
  refine wl_p (fun _ => o_len (t := 25) Try.underlying25 rfl) ?_
  refine wl_p (fun _ => o_faddr (s := 27) (i := 0) (off := 0) Try.underlying27 rfl Try.sizeOf3 rfl rfl rfl) ?_
  refine wl_r (o_loadbg Try.isAgg3 rfl f2 (by rfl)) ?_
  refine wl_p (fun _ => o_add rfl rfl (by omega) (by omega)) ?_
  refine wl_mkE (L.length + K) rfl rfl (by omega) (by omega) hw ?_
  rintro A14 w14 f14 b14
  have qf14 := f14.cap
  have s14 := b14.size
  replace hw := hw.trans (b14.mono hw.size)
  replace f2 := f2.u b14
  replace f4 := f4.u b14
  refine wl_p (fun _ => o_assign rfl) ?_
  refine wl_nil ?_
  refine rk_seq ?_
  refine rk_seq ?_
  refine rk_region ?_
  refine wl_p (fun _ => o_faddr (s := 27) (i := 1) (off := 1) Try.underlying27 rfl Try.sizeOf25 rfl rfl rfl) ?_
  refine wl_r (o_loadbg Try.isAgg25 rfl f2 (by rfl)) ?_
  refine wl_p (fun _ => o_len (t := 25) Try.underlying25 rfl) ?_
  refine wl_p (fun _ => o_move rfl) ?_
  refine wl_nil ?_
  refine rk_block ?_
  refine rk_joinf (fun fb fr w2 => ∃ A1 c1, fr = [(5, .slice A1 L.length c1)] ++ fb.drop 5 ∧ OwnEn w.heap.size w2 w4.heap.size w2.heap.size A1 c1 L ∧ Blk w2 g2 27 [.int .i64 (K : Int), .slice A L.length c] ∧ Blk w2 g4 27 [.int .i64 0, .slice none 0 0] ∧ w14.heap.size ≤ w2.heap.size ∧ Below w.heap.size w w2) ?_ (fun ks hj => ?_)
  rotate_left
  · refine rk_loopf (fun fb m fr w2 => ∃ (i : Nat) (v : Int) (A1 : Option Addr) (c1 : Nat) (l1 : List En), fr = [(18, .int .i64 v), (5, .slice A1 l1.length c1)] ++ fb ∧ v = i ∧ i ≤ L.length ∧ m = L.length - i ∧ l1 = L.take i ∧ OwnEn w.heap.size w2 w4.heap.size w2.heap.size A1 c1 l1 ∧ Blk w2 g2 27 [.int .i64 (K : Int), .slice A L.length c] ∧ Blk w2 g4 27 [.int .i64 0, .slice none 0 0] ∧ w14.heap.size ≤ w2.heap.size ∧ Below w.heap.size w w2) (n := L.length) (Fr.le_of (by kernel_rfl) (by kernel_rfl) (by repeat' constructor)) ⟨0, _, _, _, [], rfl, rfl, by omega, rfl, rfl, f14, f2, f4, Nat.le_refl _, hw⟩ ?_
    clear hw f14 f2 f4
    rintro m fr w2 ⟨i, v, A1, c1, l1, rfl, rfl, hi, rfl, hl1, fo, f2, f4, hsz, hw⟩
    have shw := hw.size
    have hll : l1.length = i := by rw [hl1, List.length_take]; omega
    first | refine rk_frame (by simp only [List.cons_append, List.nil_append, List.drop_succ_cons, List.drop_zero]; rfl) ?_ | refine wl_frame (by simp only [List.cons_append, List.nil_append, List.drop_succ_cons, List.drop_zero]; rfl) ?_
    refine rk_seq ?_
    refine rk_region ?_
    refine wl_p (fun _ => o_lt rfl rfl) ?_
    refine wl_nil ?_
    refine rk_seq ?_
    refine rk_if rfl (fun h19 => ?_) (fun h19 => ?_)
    · have hil : i < L.length := by omega
      have hr := hraw _ (List.getElem_mem hil)
      refine rk_skip ?_
      refine rk_seq ?_
      refine rk_block ?_
      refine rk_seq ?_
      refine rk_region ?_
      refine wl_p (fun _ => (o_iaddrA (i) Try.underlying25 Try.sizeOf38 rfl rfl rfl (hL.some_ (by omega)) (by omega))) ?_
      refine wl_ldEnv rfl hL hw (by omega) ?_
      rintro A121 c121 f21 i21 i21_1 e21 e21_1
      refine wl_allocg [_, _, _] Try.zeroValue38 (by rfl) ?_
      rintro g7 w7 f7 b7 i7 i7_1
      have s7 := b7.size
      replace hw := hw.trans (b7.mono hw.size)
      replace f4 := f4.u b7
      replace f2 := f2.u b7
      replace fo := fo.u b7
      refine wl_storega Try.sizeOf38 rfl rfl (by rfl) (oneCell_of (by rfl)) f7 (by rfl) ?_
      rintro w_1 f_1 g e
      have s := g.size
      replace hw := hw.trans (below_of_grownBy g.g hw.size (by omega))
      replace fo := fo.q g (ap_some (by omega)) (by decide)
      replace f2 := f2.k g.g (ap_some (by omega))
      replace f4 := f4.k g.g (ap_some (by omega))
      clear f7
      refine wl_nil ?_
      refine rk_region ?_
      refine wl_p (fun _ => o_move rfl) ?_
      refine wl_r (o_loadag Try.isAgg38 Try.sizeOf38 rfl f_1 (by rfl)) ?_
      refine wl_call rfl (C_clone _ (f21.u hw) rfl (by omega)) ?_
      rintro v24 w24 ⟨A24, ⟨c24, ⟨rfl, ⟨f24, b24⟩⟩⟩⟩
      have qf24 := f24.cap
      have s24 := b24.size
      replace hw := hw.trans (b24.mono hw.size)
      replace f4 := f4.u b24
      replace f2 := f2.u b24
      replace fo := fo.u b24
      replace f_1 := f_1.u b24
      refine wl_litE1 (by rfl) rfl f24 hw (by omega) rfl e21 e21_1 (by rfl) ?_
      rintro A25 w25 f25 b25
      have qf25 := f25.cap
      have s25 := b25.size
      replace hw := hw.trans (b25.mono hw.size)
      replace f_1 := f_1.u b25
      replace fo := fo.u b25
      replace f2 := f2.u b25
      replace f4 := f4.u b25
      replace f24 := f24.u b25
      refine wl_appE rfl fo rfl rfl f25.to_REnT (by rfl) (by omega) (by omega) ?_
      rintro A26 c26 w26 f26 g26 b26
      have qf26 := f26.cap
      have s26 := g26.size
      replace hw := hw.trans (b26.mono (by omega))
      replace f24 := f24.y g26 (by decide)
      replace f4 := f4.y g26 (by decide)
      replace f2 := f2.y g26 (by decide)
      replace f_1 := f_1.k g26.g (fo.ap (by omega))
      replace f25 := f25.q g26 (fo.ap (by omega)) (by decide)
      clear fo
      refine wl_p (fun _ => o_assign rfl) ?_
      refine wl_nil ?_
      refine rk_blk ?_
      refine rk_region ?_
      refine wl_p (fun _ => o_add rfl rfl (by omega) (by omega)) ?_
      refine wl_p (fun _ => o_move rfl) ?_
      refine wl_nil ?_
      exact rk_againf (Fr.le_of (by kernel_rfl) (by kernel_rfl) (by repeat' constructor)) ⟨i + 1, (i : Int) + 1, A26, c26, _, rfl, by omega, by omega, rfl, by rw [hl1, List.take_succ_eq_append_getElem hil], f26, f2, f4, by omega, hw⟩ (by omega)
    · refine rk_exit rfl ?_
      obtain rfl : i = L.length := by omega
      rw [List.take_length] at hl1
      subst hl1
      exact rk_tof hj (Fr.le_of (by kernel_rfl) (by kernel_rfl) (by repeat' constructor)) ⟨A1, c1, rfl, fo, f2, f4, hsz, hw⟩
  clear hw f14 f2 f4
  rintro fr w2 ⟨A1, c1, rfl, fo, f2, f4, hsz, hw⟩
  have shw := hw.size
  first | refine rk_frame (by simp only [List.cons_append, List.nil_append, List.drop_succ_cons, List.drop_zero]; rfl) ?_ | refine wl_frame (by simp only [List.cons_append, List.nil_append, List.drop_succ_cons, List.drop_zero]; rfl) ?_
  have hlt := fo.lt
  have hne2 : blk A1 ≠ some g2 := fun e => by have := (hlt _ e).1; omega
  have hne4 : blk A1 ≠ some g4 := fun e => by have := (hlt _ e).1; omega
  refine rk_seq ?_
  refine rk_draw (id := 7) ((blk A1)) [0, 1, 0, 0, 12, 18, 63] [0, 1, 0, 0, 12, 31, 63] 80 16 [(.p, 0), (.s, 1), (.p, 2), (.p, 3), (.c, 4), (.p, 5), (.l, 6)] (by kernel_rfl) (by kernel_rfl) (by kernel_rfl) (by kernel_rfl) (by kernel_rfl) ?_
  replace fo := fo.d
  replace f2 := f2.d
  replace f4 := f4.d
  replace hw := hw.drew
  refine wl_p (fun _ => o_faddr (s := 27) (i := 0) (off := 0) Try.underlying27 rfl Try.sizeOf3 rfl rfl rfl) ?_
  refine wl_s (fun _ hk => (o_loadbg Try.isAgg3 rfl (f2.k hk (fo.ap (by omega))) (by rfl))) ?_
  refine wl_p (fun _ => o_move rfl) ?_
  refine wl_p (fun _ => o_move rfl) ?_
  refine wl_callv rfl rfl (H _ _ _ ((fo.mono hb).base (by omega) (Nat.le_refl _)) hw) ?_ (hq := .inr fun _ _ ⟨_, _, _, _, h, _⟩ => h)
  rintro v32 w32 ⟨A32, c32, rfl, f32, g32, b32⟩
  replace hw := hw.trans b32
  replace f4 := f4.grown g32 hne4.symm
  clear f2 fo
  refine wl_p (fun _ => (o_buildg [_, _] Try.underlying27 Try.zeroValue27 (by rfl) (by rfl) rfl (by rfl) (by rfl) (fun _ => by kernel_rfl))) ?_
  refine wl_storega Try.sizeOf27 rfl rfl (by rfl) (oneCell_of (by rfl)) f4 (by rfl) ?_
  rintro w_1 f_1 g e
  have s := g.size
  replace hw := hw.trans (below_of_grownBy g.g hw.size (by omega))
  replace f32 := f32.y g (by decide)
  clear f4
  refine wl_nild ?_
  refine ret_cell rfl rfl Try.isAgg27 Try.sizeOf27 f_1 rfl ?_
  exact ⟨_, _, rfl, f32.top, hw⟩
end Go.Proofs.Ytaldpegegekbjaa
