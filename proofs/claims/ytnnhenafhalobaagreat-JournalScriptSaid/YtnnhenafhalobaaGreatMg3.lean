/-
  A disk in memory; walks of its methods.
-/
import Derived.Test.YtnnhenafhalobaaGreatMg2
import Derived.Shelf.SlIterI.Nil
import Derived.Shelf.SortM.Plain
import Derived.Shelf.SortM.SortNone
import Derived.Ground.GgzProg
import Derived.Ground.SlgmProg
import Derived.Shelf.Small.Bits
import Derived.Shelf.Strconv.Itoa0
import Derived.Shelf.Bits.Mul64
import Derived.Shelf.SlGeneric
import Derived.Ground.NamesProg
import Derived.Test.YtnnhenafhalobaaGreatProg
import Derived.Lib.SlBytesConst
import Derived.Laws.Externs
import Derived.Laws.OwnMore
import Derived.RangeFuncFrom
import Derived.RangeFuncLeaves
import Derived.RangeFuncCalls
import Derived.OrdersIn
import Derived.TacticsIn
namespace Go.Proofs.YtnnhenafhalobaaGreat
set_option maxRecDepth 100000
open Go.RowKit
def OwnSec (w : World) (lo hi : Nat) (A : Option Addr) (c : Nat) (S : List Sec) : Prop := OwnS (gArr 256) 95 w lo hi A c S
section
variable {w w' : World} {lo hi lo' hi' cp b : Nat} {A : Option Addr} {S : List Sec} {e' : TypeId} {row : Option Nat}
theorem gArr_tys (n : Nat) : (gArr n).tys = [] := rfl
theorem OwnSec.u (h : OwnSec w lo hi A cp S) (hb : Below w.heap.size w w') : OwnSec w' lo hi A cp S := OwnS.u h hb
theorem OwnSec.d (h : OwnSec w lo hi A cp S) : OwnSec w.drew lo hi A cp S := OwnS.d h
theorem OwnSec.m (h : OwnSec w lo hi A cp S) (hg : GrewM w w' b) : OwnSec w' lo hi A cp S := OwnS.m h hg
theorem OwnSec.ap (h : OwnSec w lo hi A cp S) (hd : hi ≤ lo' ∨ hi' ≤ lo) : Ap (blk A) lo' hi' := OwnS.ap h hd
theorem OwnSec.cap (h : OwnSec w lo hi A cp S) : S.length ≤ cp := OwnS.cap h
theorem OwnSec.base (h : OwnSec w lo hi A cp S) (h1 : lo' ≤ lo) (h2 : hi ≤ hi') : OwnSec w lo' hi' A cp S := OwnS.base h h1 h2
theorem OwnSec.c (h : OwnSec w lo hi A cp S) (hc : Chg lo' hi' w w') (ha : hi ≤ lo' ∨ hi' ≤ lo) : OwnSec w' lo hi A cp S := OwnS.c0 h (fun h => h) hc ha
theorem OwnSec.cells (h : OwnSec w lo hi A cp S) {j : Nat} (hj : j < S.length) : CellsAt w A (j * 256) (B8 S[j].1) := by
 obtain ⟨cs, h1, h2⟩ := RSl.elem (OwnS.to_RSl h) (show 0 < 256 by decide) hj
 obtain ⟨rfl⟩ : cs = B8 S[j].1 := h2
 exact h1
theorem OwnSec.rng (h : OwnSec w lo hi A cp S) : ∀ k, blk A = some k → lo ≤ k ∧ k < hi := by obtain ⟨xs, h1, _⟩ := h; exact fun k hk => ⟨(RowH.lt h1 k hk).1, h1.hi k hk⟩
theorem OwnSec.some_ (h : OwnSec w lo hi A cp S) (hl : 0 < S.length) : A = some (A.getD ⟨0, 0, none⟩) := RSl.some_ (OwnS.to_RSl h) (show 0 < 256 by decide) hl
end
theorem Tryz.rowSec : RowT Tryz.prog 77 95 (vS z256) 256 256 := ⟨Tryz.underlying77, by
 have h : (Tryz.prog.info? 95).map (fun i => (i.zero, i.size, i.bytes)) = some (some (.agg (List.replicate 256 (.int .u8 0)).toArray), 256, 256) := by kernel_rfl
 rw [h]
 show _ = some (some (Value.agg (B8 (List.replicate 256 0)).toArray), 256, 256)
 rw [B8_rep], by rw [show (vS z256).cells.size = (B8 z256.1).length from rfl, B8_length, z256.2], by omega⟩
section
variable {fn : Func} {F : Ending → World → Prop} {N : Nat} {ks : List K} {ops : Array Oper} {tg : Tags} {l : List Oper} {fr : Fr} {w : World} {ty : TypeId} {pos : String} {aft : Array Edge} {gd : Option (Nat × Bool)} {k1 k2 : IntKind} {d n j c lo hi : Nat} {x y : Operand} {A : Option Addr} {S : List Sec} {s : Sec}
theorem o_ldSec (hx : fr.ev x = some (.pointer (some (adr A (j * 256))))) (hr : OwnSec w lo hi A c S) (hj : j < S.length) : OpV Tryz.prog N fr w (.load 95 x) ty (vS S[j]) w :=
 o_loadn (cs := B8 S[j].1) Tryz.isAgg95 (by rw [B8_length, S[j].2]; exact Tryz.sizeOf95) hx (fun i u hu => by rw [adr_add]; exact hr.cells hj i u hu)
theorem wl_stSec (hx : fr.ev x = some (.pointer (some (adr A (j * 256))))) (hown : OwnSec w lo hi A c S) (hy : fr.ev y = some (vS s)) (hj : j < S.length)
  (hk : ∀ w', OwnSec w' lo hi A c (S.set j s) → Grew w w' 95 (blk A) → Below lo w w' → w'.heap.size = w.heap.size → WL Tryz.prog fn F N ks ops tg.tail l fr w') (ht : tg.loud = true := by rfl) (hg : onG ops fr gd = true := by rfl) (hq : tg.calm = false ∨ tg.rw.may (blk A) := by exact .inl rfl) :
  WL Tryz.prog fn F N ks ops tg (⟨none, .store 95 x y, ty, pos, aft, gd⟩ :: l) fr w :=
 wl_stS (X := gArr 256) Tryz.sizeOf95 hx hy rfl hown hj rfl (B8_oneCell _) (by decide) (by simp [gArr_tys]) hk ht hg hq
theorem wl_mkSec {E C : Int} (n : Nat) (hx : fr.ev x = some (.int k1 E)) (hy : fr.ev y = some (.int k2 C)) (hE : E = (n : Int)) (hC : C = (n : Int)) (hn : n ≤ 1000000)
  (hk : ∀ A w', OwnSec w' w.heap.size w'.heap.size A n (List.replicate n z256) → Below w.heap.size w w' → WL Tryz.prog fn F N ks ops tg.tail l ((d, .slice A n n) :: fr) w')
  (ht : tg.loud = true := by rfl) (hg : onG ops fr gd = true := by rfl) (hd : Nat.blt d N = true := by rfl) : WL Tryz.prog fn F N ks ops tg (⟨some d, .makeSlice 77 x y, ty, pos, aft, gd⟩ :: l) fr w :=
 wl_mkS (X := gArr 256) Tryz.rowSec hx hy hE hC (by omega) (by omega) (fun _ => rfl) hk ht hg hd
end
section
variable {fn : Func} {F : Ending → World → Prop} {N : Nat} {ks : List K} {ops : Array Oper} {tg : Tags} {l : List Oper} {fr : Fr} {w : World} {ty t' : TypeId} {pos : String} {aft : Array Edge} {gd : Option (Nat × Bool)} {d g : Nat} {x y : Operand} {s q : Sec}
theorem o_ldSecSl {N : Nat} {b : By} {A : Option Addr} (hx : fr.ev x = some (.pointer A)) (hr : Rd w A b) (hl : b.length = 256) : OpV Tryz.prog N fr w (.load 95 x) ty (vS ⟨b, hl⟩) w := o_ldSlArr Tryz.isAgg95 Tryz.sizeOf95 hx hr hl (by omega)
end
structure DkAt (w : World) (lo hi g : Nat) (S : List Sec) (C : List (Option Sec)) : Prop where
 ex : ∃ (A : Option Addr) (c b : Nat), Blk w g 98 [.pointer (some ⟨g, 0, none⟩), .slice A S.length c, .map (some b)] ∧ OwnSec w lo hi A c S ∧ MapS w b C ∧ lo ≤ b ∧ b < hi ∧ b ≠ g
 g1 : lo ≤ g
 g2 : g < hi
 hi : hi ≤ w.heap.size
 len : C.length = S.length
 n1 : 1 ≤ S.length
 n2 : S.length ≤ 16384
section
variable {w w' : World} {lo hi lo' hi' g : Nat} {S : List Sec} {C : List (Option Sec)}
theorem DkAt.u (h : DkAt w lo hi g S C) (hb : Below w.heap.size w w') : DkAt w' lo hi g S C := by
 obtain ⟨A, c, b, h1, h2, h3, h4⟩ := h.ex
 exact ⟨⟨A, c, b, h1.u hb, h2.u hb, h3.u hb, h4⟩, h.g1, h.g2, by have := h.hi; have := hb.size; omega, h.len, h.n1, h.n2⟩
theorem DkAt.d (h : DkAt w lo hi g S C) : DkAt w.drew lo hi g S C := h.u (below_drew w)
theorem DkAt.c (h : DkAt w lo hi g S C) (hc : Chg lo' hi' w w') (ha : hi ≤ lo' ∨ hi' ≤ lo) : DkAt w' lo hi g S C := by
 obtain ⟨A, c, b, h1, h2, h3, h4, h5, h6⟩ := h.ex
 have := h.g1
 have := h.g2
 exact ⟨⟨A, c, b, h1.c hc (by omega), h2.c hc ha, h3.c hc (by omega), h4, h5, h6⟩, h.g1, h.g2, by have := h.hi; have := hc.size; omega, h.len, h.n1, h.n2⟩
theorem DkAt.k {row : Option Nat} (h : DkAt w lo hi g S C) (hg : w.grownBy w' row) (ha : Ap row lo hi) : DkAt w' lo hi g S C := by
 obtain ⟨A, c, b, h1, h2, h3, h4, h5, h6⟩ := h.ex
 have := h.g1
 have := h.g2
 refine ⟨⟨A, c, b, h1.k hg (fun k e => by have := ha k e; omega), ?_, h3.k hg (fun k e => by have := ha k e; omega), h4, h5, h6⟩, h.g1, h.g2, by have := h.hi; have := hg.size; omega, h.len, h.n1, h.n2⟩
 obtain ⟨xs, r1, r2⟩ := h2
 exact ⟨xs, r1.k hg ha, r2⟩
end
theorem C_valid {lo hi g : Nat} {S : List Sec} {C : List (Option Sec)} (w : World) (hd : DkAt w lo hi g S C) :
  CallsR Tryz.prog 59 [.pointer (some ⟨g, 0, none⟩)] w fun v w' => v = .bool true ∧ w' = w := by
 obtain ⟨A, c, b, f, fs, fm, h4, h5, h6⟩ := hd.ex
 refine callsR Tryz.func59 rfl rfl (by kernel_rfl) rfl ?_
 refine zs (za rfl (wl_nil (zs (zm rfl ?_))))
 refine zp (o_pne_nil (t := 26) Tryz.underlying26 rfl rfl) ?_
 refine zm rfl (zm rfl ?_)
 refine zp (o_nil rfl) ?_
 refine zp (o_faddr (s := 98) (i := 0) (off := 0) Tryz.underlying98 rfl Tryz.sizeOf26 rfl rfl rfl) ?_
 refine wl_r (o_loadbg Tryz.isAgg26 rfl f (by rfl)) ?_
 refine zm rfl ?_
 refine zp (o_peq_same (t := 26) Tryz.underlying26 Tryz.sizeOf98 rfl rfl) ?_
 refine zp (o_pick_t rfl rfl) ?_
 refine za rfl (wl_nil ?_)
 refine ret1 rfl rfl ?_
 exact ⟨rfl, rfl⟩
theorem C_dkMade {lo cp n : Nat} {A : Option Addr} {S : List Sec} (w : World) (hs : OwnSec w lo w.heap.size A cp S) (hn : n = S.length) (hlo : lo ≤ w.heap.size) (h1 : 1 ≤ S.length) (h2 : S.length ≤ 16384) :
  CallsR Tryz.prog 40 [.slice A n cp] w fun v w' => ∃ g, v = .pointer (some ⟨g, 0, none⟩) ∧ DkAt w' lo w'.heap.size g S (List.replicate S.length none) ∧ w.heap.size ≤ g ∧ Below w.heap.size w w' := by
 subst hn
 refine callsR Tryz.func40 rfl rfl (by kernel_rfl) rfl ?_
 have hw := Below.refl w.heap.size w
 refine zs (za rfl (wl_nil (zs (zm rfl ?_))))
 refine wl_makeS S.length Tryz.underlying96 ?_
 rintro b w5 fm b5 i5 i5_1
 have sb5 := b5.size
 replace hw := hw.trans (b5.mono hw.size)
 refine zp (o_buildg [_, _, _] Tryz.underlying98 Tryz.zeroValue98 (by rfl) (by rfl) rfl (by rfl) (by rfl) (fun _ => by kernel_rfl)) ?_
 refine wl_boxg [_, _, _] rfl (by rfl) ?_
 rintro g7 w7 f7 b7 i7 i7_1
 have s7 := b7.size
 replace hw := hw.trans (b7.mono hw.size)
 replace fm := fm.u b7
 refine za rfl (wl_nil (zs (zm rfl (zm rfl ?_))))
 refine zp (o_nil rfl) ?_
 refine zp (o_faddr (s := 98) (i := 0) (off := 0) Tryz.underlying98 rfl Tryz.sizeOf26 rfl rfl rfl) ?_
 refine wl_storeg1 Tryz.sizeOf26 rfl rfl (by rfl) f7 (by simp) ?_
 rintro w_1 f g e
 have s := g.size
 replace hw := hw.trans (below_of_grownBy g.g hw.size (by omega))
 replace fm := fm.k g.g (ap_some (by omega))
 clear f7
 refine wl_nil (zs (zm rfl (za rfl (wl_nil ?_))))
 refine ret1 rfl rfl ?_
 have hsz := hw.size
 exact ⟨g7, rfl, ⟨⟨A, cp, b, f, (hs.u hw).base (Nat.le_refl _) (by omega), fm, by omega, by omega, by omega⟩, by omega, by omega, Nat.le_refl _, List.length_replicate, h1, h2⟩, by omega, hw⟩
theorem K_dNew {n : Int} (w : World) :
  CallsR Tryz.prog 10 [.int .i64 n] w fun v w' => ((n < 1 ∨ 16384 < n) ∧ v = .tuple #[.pointer none, .int .i64 2] ∨ 1 ≤ n ∧ n ≤ 16384 ∧ ∃ g, v = .tuple #[.pointer (some ⟨g, 0, none⟩), .int .i64 0] ∧ DkAt w' w.heap.size w'.heap.size g (List.replicate n.toNat z256) (List.replicate n.toNat none)) ∧ Below w.heap.size w w' := by
 refine callsR Tryz.func10 rfl rfl (by kernel_rfl) rfl ?_
 have hw := Below.refl w.heap.size w
 refine zs (za rfl (za rfl (wl_nil (rk_seq (zs (zm rfl ?_))))))
 refine zp (o_lt rfl rfl) ?_
 refine zm rfl ?_
 refine wl_bool 6 rfl (fun h6 => ?_) (fun h6 => ?_) <;> try simp only [decide_eq_true_eq, decide_eq_false_iff_not, Bool.not_eq_true', Bool.not_eq_false', Bool.and_eq_true, Bool.and_eq_false_iff, Bool.or_eq_true, Bool.or_eq_false_iff] at h6
 ·refine wl_off ?_
  refine wl_off ?_
  refine zp (o_pick_t rfl rfl) ?_
  refine wl_nil ?_
  refine rk_true rfl ?_
  refine zs (za rfl (za rfl (wl_nil ?_)))
  refine ret2 rfl rfl rfl ?_
  exact ⟨.inl ⟨by omega, rfl⟩, hw⟩
 ·refine zm rfl ?_
  refine zp (o_gt rfl rfl) ?_
  refine zp (o_pick_f rfl rfl) ?_
  refine wl_nil ?_
  refine rk_if rfl (fun h9 => ?_) (fun h9 => ?_)
  ·refine zs ?_
   refine za rfl (za rfl (wl_nil ?_))
   refine ret2 rfl rfl rfl ?_
   exact ⟨.inl ⟨by omega, rfl⟩, hw⟩
  ·obtain ⟨m, rfl⟩ : ∃ m : Nat, n = (m : Int) := ⟨n.toNat, by omega⟩
   have hml : m = (List.replicate m z256).length := by rw [List.length_replicate]
   refine rk_skip (zs (zm rfl ?_))
   refine wl_mkSec (m) rfl rfl rfl rfl (by omega) ?_
   rintro A11 w11 f11 b11
   have qf11 := f11.cap
   have s11 := b11.size
   replace hw := hw.trans (b11.mono hw.size)
   refine wl_call rfl (C_dkMade _ f11 hml hw.size (by omega) (by omega)) ?_
   rintro v12 w12 ⟨g12, ⟨rfl, ⟨f12, ⟨i12, b12⟩⟩⟩⟩
   have s12 := b12.size
   replace hw := hw.trans (b12.mono hw.size)
   replace f11 := f11.u b12
   refine za rfl (za rfl (wl_nil ?_))
   refine ret2 rfl rfl rfl ?_
   refine ⟨.inr ⟨by omega, by omega, g12, rfl, ?_⟩, hw⟩
   rw [List.length_replicate] at f12
   exact f12
theorem C_check {lo hi g : Nat} {S : List Sec} {C : List (Option Sec)} {a : Int} (w : World) (hd : DkAt w lo hi g S C) :
  CallsR Tryz.prog 98 [.pointer (some ⟨g, 0, none⟩), .int .i64 a] w fun v w' => v = .int .i64 (if 0 ≤ a ∧ a < S.length then 0 else 2) ∧ w' = w := by
 have hd0 := hd
 obtain ⟨A, c, b, f, fs, fm, h4, h5, h6⟩ := hd0.ex
 refine callsR Tryz.func98 rfl rfl (by kernel_rfl) rfl ?_
 by_cases h0 : a < 0
 ·refine zs ?_
  refine za rfl (wl_nil (rk_seq (zs (zm rfl ?_))))
  refine wl_call rfl (C_valid _ hd0) ?_
  rintro v6 w6 ⟨rfl, rfl⟩
  refine zp (o_not rfl) ?_
  refine wl_nil ?_
  refine rk_false rfl ?_
  refine rk_skip (rk_seq (zs (zm rfl ?_)))
  refine zp (o_lt rfl rfl) ?_
  refine zm rfl ?_
  refine wl_know 10 true rfl (decide_eq_true (by omega)) ?_
  refine wl_off (wl_off (wl_off (wl_off (wl_off (wl_off (wl_off ?_))))))
  refine zp (o_pick_t rfl rfl) ?_
  refine wl_nil ?_
  refine rk_true rfl ?_
  refine zs (za rfl (wl_nil ?_))
  refine ret1 rfl rfl ?_
  rw [if_neg (by omega)]
  exact ⟨rfl, rfl⟩
 ·refine zs ?_
  refine za rfl (wl_nil (rk_seq (zs (zm rfl ?_))))
  refine wl_call rfl (C_valid _ hd0) ?_
  rintro v6 w6 ⟨rfl, rfl⟩
  refine zp (o_not rfl) ?_
  refine wl_nil ?_
  refine rk_false rfl ?_
  refine rk_skip (rk_seq (zs (zm rfl ?_)))
  refine zp (o_lt rfl rfl) ?_
  refine zm rfl ?_
  refine wl_know 10 false rfl (decide_eq_false (by omega)) ?_
  refine zm rfl (zm rfl ?_)
  refine zp (o_nil rfl) ?_
  refine zp (o_faddr (s := 98) (i := 1) (off := 1) Tryz.underlying98 rfl Tryz.sizeOf77 rfl rfl rfl) ?_
  refine wl_r (o_loadbg Tryz.isAgg77 rfl f (by rfl)) ?_
  refine zp (o_len (t := 77) Tryz.underlying77 rfl) ?_
  refine zp (o_ge rfl rfl) ?_
  refine zp (o_pick_f rfl rfl) ?_
  refine wl_nil ?_
  refine rk_if rfl (fun h18 => ?_) (fun h18 => ?_)
  ·refine zs ?_
   refine za rfl (wl_nil ?_)
   refine ret1 rfl rfl ?_
   rw [if_neg (by omega)]
   exact ⟨rfl, rfl⟩
  ·refine rk_skip ?_
   refine zs (za rfl (wl_nil ?_))
   refine ret1 rfl rfl ?_
   rw [if_pos (by omega)]
   exact ⟨rfl, rfl⟩
def rdD (S : List Sec) (C : List (Option Sec)) (a : Int) : By × Nat := if h : 0 ≤ a ∧ a < S.length then (((cAt C a).getD (S[a.toNat]'(by omega))).1, 0) else ([], 2)
theorem K_dRead {lo hi g : Nat} {S : List Sec} {C : List (Option Sec)} {a : Int} (w : World) (hd : DkAt w lo hi g S C) (wa : (Lit.int .i64 a).wf = true) :
  CallsR Tryz.prog 83 [.pointer (some ⟨g, 0, none⟩), .int .i64 a] w fun v w' => ∃ (A : Option Addr) (c : Nat) (r : By) (e : Nat), v = .tuple #[.slice A r.length c, .int .i64 (e : Int)] ∧ rdD S C a = (r, e) ∧ RdB w' w.heap.size w'.heap.size A r ∧ r.length ≤ c ∧ Below w.heap.size w w' := by
 refine callsR Tryz.func83 rfl rfl (by kernel_rfl) rfl ?_
 have hw := Below.refl w.heap.size w
 refine zs (za rfl (za rfl (wl_nil (rk_seq (zs (zm rfl (zm rfl ?_)))))))
 refine wl_call rfl (C_check _ hd) ?_
 rintro v11 w11 ⟨rfl, rfl⟩
 refine za rfl (wl_nil (zs (zm rfl ?_)))
 refine zp (o_ne rfl rfl) ?_
 refine wl_nil ?_
 by_cases h0 : 0 ≤ a ∧ a < S.length
 ·rw [if_pos h0]
  obtain ⟨A, c, b, f, fs, fm, h4, h5, h6⟩ := hd.ex
  obtain ⟨i, rfl⟩ : ∃ i : Nat, a = (i : Int) := ⟨a.toNat, by omega⟩
  have hal : ((cAt C (i : Int)).getD S[i]).1.length = 256 := ((cAt C (i : Int)).getD S[i]).2
  cases hci : cAt C (i : Int) with
  | some s =>
   rw [hci] at hal
   refine rk_false rfl ?_
   refine rk_skip (zs (zm rfl ?_))
   refine zp (o_nil rfl) ?_
   refine zp (o_faddr (s := 98) (i := 2) (off := 2) Tryz.underlying98 rfl Tryz.sizeOf96 rfl rfl rfl) ?_
   refine wl_r (o_loadbg Tryz.isAgg96 rfl f (by rfl)) ?_
   refine zm rfl ?_
   refine wl_r (o_lookS2 Tryz.underlying96 rfl rfl fm hci wa) ?_
   refine zm rfl ?_
   refine zp (o_ext20 rfl) ?_
   refine zp (o_ext21 rfl) ?_
   refine wl_allocB Tryz.underlying95 Tryz.zeroValue95 (by rfl) ?_
   rintro g7 w7 f7 b7 i7 i7_1
   have s7 := b7.size
   replace hw := hw.trans (b7.mono hw.size)
   refine wl_stBa Tryz.sizeOf95 rfl f7 rfl (by simp; omega) (by rfl) ?_
   rintro w f_1 g_1 e
   have s_1 := g_1.size
   replace hw := hw.trans (below_of_grownBy g_1.g hw.size (by omega))
   clear f7
   refine za rfl (wl_nil (rk_seq (zs (zm rfl ?_))))
   refine zp (o_not rfl) ?_
   refine wl_nil ?_
   refine rk_false rfl ?_
   refine rk_skip (zs ?_)
   refine zp (o_slice_arr (t := 95) Tryz.underlying95 Tryz.sizeOf5 rfl) ?_
   refine za rfl (za rfl (wl_nil ?_))
   refine ret2 rfl rfl rfl ?_
   exact ⟨_, 256, s.1, 0, by rw [s.2]; rfl, by rw [rdD, dif_pos h0, hci]; rfl, f_1.rdB.base (by omega) (by omega), by rw [s.2]; omega, hw⟩
  | none =>
   rw [hci] at hal
   refine rk_false rfl ?_
   refine rk_skip (zs (zm rfl ?_))
   refine zp (o_nil rfl) ?_
   refine zp (o_faddr (s := 98) (i := 2) (off := 2) Tryz.underlying98 rfl Tryz.sizeOf96 rfl rfl rfl) ?_
   refine wl_r (o_loadbg Tryz.isAgg96 rfl f (by rfl)) ?_
   refine zm rfl ?_
   refine wl_r (o_lookS2 Tryz.underlying96 rfl rfl fm hci wa) ?_
   refine zm rfl ?_
   refine zp (o_ext20 rfl) ?_
   refine zp (o_ext21 rfl) ?_
   refine wl_allocB Tryz.underlying95 Tryz.zeroValue95 (by rfl) ?_
   rintro g7 w7 f7 b7 i7 i7_1
   have s7 := b7.size
   replace hw := hw.trans (b7.mono hw.size)
   refine wl_stBa Tryz.sizeOf95 rfl f7 rfl (by rfl) (by rfl) ?_
   rintro w f_1 g_1 e
   have s := g_1.size
   replace hw := hw.trans (below_of_grownBy g_1.g hw.size (by omega))
   clear f7
   refine za rfl (wl_nil (rk_seq (zs (zm rfl ?_))))
   refine zp (o_not rfl) ?_
   refine wl_nil ?_
   refine rk_true rfl ?_
   refine rk_region (zm rfl ?_)
   refine zp (o_nil rfl) ?_
   refine zp (o_faddr (s := 98) (i := 1) (off := 1) Tryz.underlying98 rfl Tryz.sizeOf77 rfl rfl rfl) ?_
   refine wl_r (o_loadbg Tryz.isAgg77 rfl (f.u hw) (by rfl)) ?_
   refine zm rfl ?_
   refine zp (o_iaddrA (i) Tryz.underlying77 Tryz.sizeOf95 rfl rfl rfl (fs.some_ (by omega)) (by omega)) ?_
   refine wl_r (o_ldSec rfl (fs.u hw) (by omega)) ?_
   refine wl_stBa Tryz.sizeOf95 rfl f_1 rfl (by assumption) (by rfl) ?_
   rintro w_1 f_2 g_2 e_1
   have s_1 := g_2.size
   replace hw := hw.trans (below_of_grownBy g_2.g hw.size (by omega))
   clear f_1
   refine wl_nil (zs ?_)
   refine zp (o_slice_arr (t := 95) Tryz.underlying95 Tryz.sizeOf5 rfl) ?_
   refine za rfl (za rfl (wl_nil ?_))
   refine ret2 rfl rfl rfl ?_
   exact ⟨_, 256, S[i].1, 0, by rw [S[i].2]; rfl, by rw [rdD, dif_pos h0, hci]; rfl, f_2.rdB.base (by omega) (by omega), by rw [S[i].2]; omega, hw⟩
 ·rw [if_neg h0]
  refine rk_true rfl ?_
  refine zs (zm rfl (za rfl (za rfl (wl_nil ?_))))
  refine ret2 rfl rfl rfl ?_
  exact ⟨none, 0, [], 2, rfl, by rw [rdD, dif_neg h0], RdB.nil_, by simp, hw⟩
def wrC (S : List Sec) (C : List (Option Sec)) (a : Int) (b : By) : List (Option Sec) × Nat := if h : (0 ≤ a ∧ a < S.length) ∧ b.length = 256 then (C.set a.toNat (some ⟨b, h.2⟩), 0) else (C, 2)
theorem K_dWrite {lo hi g n cp : Nat} {S : List Sec} {C : List (Option Sec)} {a : Int} {B : Option Addr} {b : By} (w : World) (hd : DkAt w lo hi g S C) (hb : Rd w B b) (wa : (Lit.int .i64 a).wf = true) (hn : n = b.length) (hc : n ≤ cp) :
  CallsR Tryz.prog 76 [.pointer (some ⟨g, 0, none⟩), .int .i64 a, .slice B n cp] w fun v w' => ∃ (C' : List (Option Sec)) (e : Nat), v = .int .i64 (e : Int) ∧ wrC S C a b = (C', e) ∧ DkAt w' lo hi g S C' ∧ Chg lo hi w w' := by
 subst hn
 refine callsR Tryz.func76 rfl rfl (by kernel_rfl) rfl ?_
 have hcg : Chg lo hi w w := Chg.refl
 refine zs (za rfl (wl_nil (rk_seq (zs (zm rfl (zm rfl ?_))))))
 refine wl_call rfl (C_check _ hd) ?_
 rintro v10 w10 ⟨rfl, rfl⟩
 refine za rfl (wl_nil (zs (zm rfl ?_)))
 refine zp (o_ne rfl rfl) ?_
 refine wl_nil ?_
 by_cases h0 : 0 ≤ a ∧ a < S.length
 ·rw [if_pos h0]
  refine rk_false rfl ?_
  refine rk_skip (rk_seq (zs (zm rfl ?_)))
  refine zp (o_len (t := 35) Tryz.underlying35 rfl) ?_
  refine zp (o_ne rfl rfl) ?_
  refine wl_nil ?_
  by_cases hbl : b.length = 256
  ·obtain ⟨A, c, b', f, fs, fm, h4, h5, h6⟩ := hd.ex
   obtain ⟨i, rfl⟩ : ∃ i : Nat, a = (i : Int) := ⟨a.toNat, by omega⟩
   have hhi := hd.hi
   have hg1 := hd.g1
   have hg2 := hd.g2
   have hle := hd.len
   have hn1 := hd.n1
   have hn2 := hd.n2
   refine rk_if rfl (fun h16 => absurd h16 (by omega)) (fun h16 => ?_)
   refine rk_skip (rk_seq ?_)
   refine rk_draw (id := 6) (none) [0, 1, 2, 4, 0, 0, 32, 64, 255] [0, 1, 3, 7, 0, 0, 32, 96, 255] 256 0 [(.p, 0), (.p, 1), (.p, 2), (.r, 3), (.p, 4), (.p, 5), (.p, 6), (.r, 7), (.l, 8)] (by kernel_rfl) (by kernel_rfl) (by kernel_rfl) (by kernel_rfl) (by kernel_rfl) ?_
   replace hcg := hcg.trans Chg.drew
   replace fm := fm.d
   replace fs := fs.d
   replace f := f.d
   replace hb := hb.d
   replace hd := hd.d
   refine zm rfl ?_
   refine zp (o_nil rfl) ?_
   refine zp (o_faddr (s := 98) (i := 2) (off := 2) Tryz.underlying98 rfl Tryz.sizeOf96 rfl rfl rfl) ?_
   refine wl_r (o_loadbg Tryz.isAgg96 rfl f (by rfl)) ?_
   refine zm rfl (zm rfl ?_)
   refine zp (o_arrptr Tryz.underlying95 rfl (by omega)) ?_
   refine wl_r (o_ldSecSl rfl hb hbl) ?_
   refine wl_putS Tryz.underlying96 rfl rfl fm rfl rfl (by omega) (by omega) ?_
   rintro w f_1 g_1 e
   simp only [drew_size] at e
   have s := g_1.size
   simp only [drew_size] at s
   replace hcg := hcg.trans (Chg.of_g1 g_1.g (by omega) (by omega))
   replace f := f.k g_1.g (ap_some (by omega))
   replace fs := fs.m g_1
   clear hd
   clear hb
   clear fm
   refine wl_nild ?_
   refine zs (za rfl (wl_nil ?_))
   refine ret1 rfl rfl ?_
   exact ⟨C.set i (some ⟨b, hbl⟩), 0, rfl, by rw [wrC, dif_pos ⟨h0, hbl⟩]; rfl, ⟨⟨A, c, b', f, fs, f_1, h4, h5, h6⟩, hg1, hg2, by have := hcg.size; omega, by rw [List.length_set]; exact hle, hn1, hn2⟩, hcg⟩
  ·refine rk_if rfl (fun h16 => ?_) (fun h16 => h16.elim (by omega))
   refine zs (za rfl (wl_nil ?_))
   refine ret1 rfl rfl ?_
   exact ⟨C, 2, rfl, by rw [wrC, dif_neg (fun h => hbl h.2)], hd, hcg⟩
 ·rw [if_neg h0]
  refine rk_true rfl ?_
  refine zs (zm rfl (za rfl (wl_nil ?_)))
  refine ret1 rfl rfl ?_
  exact ⟨C, 2, rfl, by rw [wrC, dif_neg (fun h => h0 h.1)], hd, hcg⟩
end Go.Proofs.YtnnhenafhalobaaGreat
namespace Go.Proofs
open Go.Shelf
def Tryz.keysA_ren : Go.Shelf.Ren := ⟨fun | 7 => 74 | 10 => 96 | n => n, fun | 23 => 96 | 26 => 3 | 3 => 95 | 28 => 110 | 0 => 0 | 27 => 109 | 33 => 135 | 4 => 4 | n => n, fun | n => n⟩
theorem Tryz.keysA : Go.Proofs.SlLaysZI.n7 Tryz.prog Tryz.keysA_ren := {
 mixed := by kernel_rfl
 f7 := ⟨Tryz.f74.name, by decide, Tryz.func74.trans (congrArg some (by kernel_rfl))⟩
 f10 := ⟨Tryz.f96.name, by decide, Tryz.func96.trans (congrArg some (by kernel_rfl))⟩
 t0 := Tryz.underlying0
 a0 := Tryz.isAgg0
 z0 := Tryz.sizeOf0
 v0 := Tryz.zeroValue0
 t4 := Tryz.underlying4
 a4 := Tryz.isAgg4
 z4 := Tryz.sizeOf4
 v4 := Tryz.zeroValue4
 t23 := Tryz.underlying96
 a23 := Tryz.isAgg96
 z23 := Tryz.sizeOf96
 v23 := Tryz.zeroValue96
 t26 := Tryz.underlying3
 a26 := Tryz.isAgg3
 z26 := Tryz.sizeOf3
 v26 := Tryz.zeroValue3
 t27 := Tryz.underlying109
 a27 := Tryz.isAgg109
 z27 := Tryz.sizeOf109
 v27 := Tryz.zeroValue109
 t28 := Tryz.underlying110
 a28 := Tryz.isAgg110
 z28 := Tryz.sizeOf110
 v28 := Tryz.zeroValue110
 t33 := Tryz.underlying135
 a33 := Tryz.isAgg135
 z33 := Tryz.sizeOf135
 v33 := Tryz.zeroValue135 }
def Tryz.sortedA_ren : Go.Shelf.Ren := ⟨fun | 6 => 73 | 8 => 94 | 9 => 95 | 11 => 117 | 13 => 119 | 12 => 118 | 23 => 141 | 24 => 127 | 14 => 132 | 15 => 133 | 16 => 134 | 17 => 135 | 18 => 136 | 19 => 137 | 20 => 138 | 21 => 139 | 22 => 140 | 25 => 151 | 26 => 152 | 27 => 153 | 28 => 154 | 29 => 155 | 30 => 156 | 31 => 159 | n => n, fun | 26 => 3 | 28 => 110 | 24 => 69 | 0 => 0 | 3 => 3 | 37 => 151 | 48 => 174 | 50 => 52 | 4 => 4 | 40 => 166 | 39 => 165 | 45 => 171 | 5 => 5 | 9 => 9 | 51 => 182 | 55 => 185 | 57 => 189 | 58 => 190 | 33 => 135 | n => n, fun | n => n⟩
theorem Tryz.sortedA : Go.Proofs.SlLaysZI.n6 Tryz.prog Tryz.sortedA_ren := {
 mixed := by kernel_rfl
 f6 := ⟨Tryz.f73.name, by decide, Tryz.func73.trans (congrArg some (by kernel_rfl))⟩
 f8 := ⟨Tryz.f94.name, by decide, Tryz.func94.trans (congrArg some (by kernel_rfl))⟩
 f11 := ⟨Tryz.f117.name, by decide, Tryz.func117.trans (congrArg some (by kernel_rfl))⟩
 t0 := Tryz.underlying0
 a0 := Tryz.isAgg0
 z0 := Tryz.sizeOf0
 v0 := Tryz.zeroValue0
 t24 := Tryz.underlying69
 a24 := Tryz.isAgg69
 z24 := Tryz.sizeOf69
 v24 := Tryz.zeroValue69
 t26 := Tryz.underlying3
 a26 := Tryz.isAgg3
 z26 := Tryz.sizeOf3
 v26 := Tryz.zeroValue3
 t28 := Tryz.underlying110
 a28 := Tryz.isAgg110
 z28 := Tryz.sizeOf110
 v28 := Tryz.zeroValue110
 i26 := by kernel_rfl }
def Tryz.sortA_ren : Go.Shelf.Ren := ⟨fun | 5 => 95 | 8 => 119 | 7 => 118 | 19 => 141 | 20 => 127 | 10 => 132 | 11 => 133 | 12 => 134 | 13 => 135 | 14 => 136 | 15 => 137 | 16 => 138 | 17 => 139 | 18 => 140 | 30 => 151 | 31 => 152 | 32 => 153 | 33 => 154 | 34 => 155 | 35 => 156 | 40 => 159 | n => n, fun | 23 => 69 | 25 => 3 | 3 => 3 | 32 => 151 | 22 => 69 | 0 => 0 | 44 => 174 | 46 => 52 | 4 => 4 | 36 => 166 | 35 => 165 | 41 => 171 | 5 => 5 | 9 => 9 | 53 => 182 | 57 => 185 | 63 => 189 | 64 => 190 | n => n, fun | n => n⟩
theorem Tryz.sortA : Go.Proofs.SlLaysM.n5 Tryz.prog Tryz.sortA_ren := {
 mixed := by kernel_rfl
 f5 := ⟨Tryz.f95.name, by decide, Tryz.func95.trans (congrArg some (by kernel_rfl))⟩
 f7 := ⟨Tryz.f118.name, by decide, Tryz.func118.trans (congrArg some (by kernel_rfl))⟩
 f8 := Tryz.func119.trans (congrArg some (by kernel_rfl))
 f10 := ⟨Tryz.f132.name, by decide, Tryz.func132.trans (congrArg some (by kernel_rfl))⟩
 f11 := ⟨Tryz.f133.name, by decide, Tryz.func133.trans (congrArg some (by kernel_rfl))⟩
 f12 := ⟨Tryz.f134.name, by decide, Tryz.func134.trans (congrArg some (by kernel_rfl))⟩
 f13 := ⟨Tryz.f135.name, by decide, Tryz.func135.trans (congrArg some (by kernel_rfl))⟩
 f14 := ⟨Tryz.f136.name, by decide, Tryz.func136.trans (congrArg some (by kernel_rfl))⟩
 f15 := ⟨Tryz.f137.name, by decide, Tryz.func137.trans (congrArg some (by kernel_rfl))⟩
 f16 := ⟨Tryz.f138.name, by decide, Tryz.func138.trans (congrArg some (by kernel_rfl))⟩
 f17 := ⟨Tryz.f139.name, by decide, Tryz.func139.trans (congrArg some (by kernel_rfl))⟩
 f18 := ⟨Tryz.f140.name, by decide, Tryz.func140.trans (congrArg some (by kernel_rfl))⟩
 f19 := Tryz.func141.trans (congrArg some (by kernel_rfl))
 f20 := Tryz.func127.trans (congrArg some (by kernel_rfl))
 f30 := ⟨Tryz.f151.name, by decide, Tryz.func151.trans (congrArg some (by kernel_rfl))⟩
 f31 := Tryz.func152.trans (congrArg some (by kernel_rfl))
 f32 := Tryz.func153.trans (congrArg some (by kernel_rfl))
 f33 := ⟨Tryz.f154.name, by decide, Tryz.func154.trans (congrArg some (by kernel_rfl))⟩
 f34 := ⟨Tryz.f155.name, by decide, Tryz.func155.trans (congrArg some (by kernel_rfl))⟩
 f35 := ⟨Tryz.f156.name, by decide, Tryz.func156.trans (congrArg some (by kernel_rfl))⟩
 f40 := ⟨Tryz.f159.name, by decide, Tryz.func159.trans (congrArg some (by kernel_rfl))⟩
 t0 := Tryz.underlying0
 a0 := Tryz.isAgg0
 z0 := Tryz.sizeOf0
 v0 := Tryz.zeroValue0
 t3 := Tryz.underlying3
 a3 := Tryz.isAgg3
 z3 := Tryz.sizeOf3
 v3 := Tryz.zeroValue3
 t4 := Tryz.underlying4
 a4 := Tryz.isAgg4
 z4 := Tryz.sizeOf4
 v4 := Tryz.zeroValue4
 t5 := Tryz.underlying5
 a5 := Tryz.isAgg5
 z5 := Tryz.sizeOf5
 v5 := Tryz.zeroValue5
 t9 := Tryz.underlying9
 a9 := Tryz.isAgg9
 z9 := Tryz.sizeOf9
 v9 := Tryz.zeroValue9
 t22 := Tryz.underlying69
 a22 := Tryz.isAgg69
 z22 := Tryz.sizeOf69
 v22 := Tryz.zeroValue69
 t23 := Tryz.underlying69
 a23 := Tryz.isAgg69
 z23 := Tryz.sizeOf69
 v23 := Tryz.zeroValue69
 t25 := Tryz.underlying3
 a25 := Tryz.isAgg3
 z25 := Tryz.sizeOf3
 v25 := Tryz.zeroValue3
 t32 := Tryz.underlying151
 a32 := Tryz.isAgg151
 z32 := Tryz.sizeOf151
 v32 := Tryz.zeroValue151
 t35 := Tryz.underlying165
 a35 := Tryz.isAgg165
 z35 := Tryz.sizeOf165
 v35 := Tryz.zeroValue165
 t36 := Tryz.underlying166
 a36 := Tryz.isAgg166
 z36 := Tryz.sizeOf166
 v36 := Tryz.zeroValue166
 t41 := Tryz.underlying171
 a41 := Tryz.isAgg171
 z41 := Tryz.sizeOf171
 v41 := Tryz.zeroValue171
 t44 := Tryz.underlying174
 a44 := Tryz.isAgg174
 z44 := Tryz.sizeOf174
 v44 := Tryz.zeroValue174
 t46 := Tryz.underlying52
 a46 := Tryz.isAgg52
 z46 := Tryz.sizeOf52
 v46 := Tryz.zeroValue52
 t53 := Tryz.underlying182
 a53 := Tryz.isAgg182
 z53 := Tryz.sizeOf182
 v53 := Tryz.zeroValue182
 t57 := Tryz.underlying185
 a57 := Tryz.isAgg185
 z57 := Tryz.sizeOf185
 v57 := Tryz.zeroValue185
 t63 := Tryz.underlying189
 a63 := Tryz.isAgg189
 z63 := Tryz.sizeOf189
 v63 := Tryz.zeroValue189
 t64 := Tryz.underlying190
 a64 := Tryz.isAgg190
 z64 := Tryz.sizeOf190
 v64 := Tryz.zeroValue190 }
def Tryz.lays131_ren : Go.Shelf.Ren := ⟨fun | 131 => 157 | 126 => 160 | n => n, fun | 5 => 5 | 3 => 3 | 9 => 9 | n => n, fun | n => n⟩
theorem Tryz.lays131 : Go.Proofs.Lays.n131 Tryz.prog Tryz.lays131_ren := {
 mixed := by kernel_rfl
 f126 := Tryz.func160.trans (congrArg some (by kernel_rfl))
 f131 := Tryz.func157.trans (congrArg some (by kernel_rfl))
 t3 := Tryz.underlying3
 a3 := Tryz.isAgg3
 z3 := Tryz.sizeOf3
 v3 := Tryz.zeroValue3
 t5 := Tryz.underlying5
 a5 := Tryz.isAgg5
 z5 := Tryz.sizeOf5
 v5 := Tryz.zeroValue5
 t9 := Tryz.underlying9
 a9 := Tryz.isAgg9
 z9 := Tryz.sizeOf9
 v9 := Tryz.zeroValue9 }
theorem Tryz.bits_LeadingZeros8 (x : Int) (w : World) (h0 : 0 ≤ x) (h1 : x ≤ 255) :
  Calls Tryz.prog 157 #[.int .u8 x] w fun e w' => e = .returned (.int .i64 (8 - (Lib.bitLen x.toNat : Int))) ∧ w' = w := Any.bits_LeadingZeros8 Tryz.lays131 x w h0 h1
def Tryz.lays129_ren : Go.Shelf.Ren := ⟨fun | 129 => 127 | n => n, fun | 53 => 52 | 3 => 3 | 4 => 4 | 46 => 151 | 5 => 5 | 9 => 9 | n => n, fun | n => n⟩
theorem Tryz.lays129 : Go.Proofs.Lays.n129 Tryz.prog Tryz.lays129_ren := {
 mixed := by kernel_rfl
 f129 := Tryz.func127.trans (congrArg some (by kernel_rfl))
 t3 := Tryz.underlying3
 a3 := Tryz.isAgg3
 z3 := Tryz.sizeOf3
 v3 := Tryz.zeroValue3
 t4 := Tryz.underlying4
 a4 := Tryz.isAgg4
 z4 := Tryz.sizeOf4
 v4 := Tryz.zeroValue4
 t5 := Tryz.underlying5
 a5 := Tryz.isAgg5
 z5 := Tryz.sizeOf5
 v5 := Tryz.zeroValue5
 t9 := Tryz.underlying9
 a9 := Tryz.isAgg9
 z9 := Tryz.sizeOf9
 v9 := Tryz.zeroValue9
 t46 := Tryz.underlying151
 a46 := Tryz.isAgg151
 z46 := Tryz.sizeOf151
 v46 := Tryz.zeroValue151
 t53 := Tryz.underlying52
 a53 := Tryz.isAgg52
 z53 := Tryz.sizeOf52
 v53 := Tryz.zeroValue52 }
theorem Tryz.bits_Len64 (x : Int) (w : World) (h0 : 0 ≤ x) (h1 : x ≤ 18446744073709551615) :
  Calls Tryz.prog 127 #[.int .u64 x] w fun e w' => e = .returned (.int .i64 (Lib.bitLen x.toNat)) ∧ w' = w := Any.bits_Len64 Tryz.lays129 x w h0 h1
def Tryz.lays264_ren : Go.Shelf.Ren := ⟨fun | 264 => 142 | n => n, fun | 53 => 52 | 46 => 151 | n => n, fun | n => n⟩
theorem Tryz.lays264 : Go.Proofs.Lays.n264 Tryz.prog Tryz.lays264_ren := {
 mixed := by kernel_rfl
 f264 := Tryz.func142.trans (congrArg some (by kernel_rfl))
 t46 := Tryz.underlying151
 a46 := Tryz.isAgg151
 z46 := Tryz.sizeOf151
 v46 := Tryz.zeroValue151
 t53 := Tryz.underlying52
 a53 := Tryz.isAgg52
 z53 := Tryz.sizeOf52
 v53 := Tryz.zeroValue52 }
theorem Tryz.bits_Mul64 (x y : Nat) (hx : x < 18446744073709551616) (hy : y < 18446744073709551616) (w : World) :
  Calls Tryz.prog 142 #[.int .u64 x, .int .u64 y] w fun e w' => e = .returned (.tuple #[.int .u64 ((x * y / 18446744073709551616 : Nat) : Int), .int .u64 ((x * y % 18446744073709551616 : Nat) : Int)]) ∧ w' = w := Any.bits_Mul64 Tryz.lays264 x y hx hy w
end Go.Proofs
namespace Go.Proofs.YtnnhenafhalobaaGreat
set_option maxRecDepth 100000
open Go.RowKit
structure RdBo (w : World) (lo hi : Nat) (A : Option Addr) (l : List Bool) : Prop where
 r : Reads w 1 A l.length (l.map Value.bool)
 b : l ≠ [] → ∀ k, blk A = some k → lo ≤ k ∧ k < hi
section
variable {w w' : World} {lo hi lo' hi' : Nat} {A : Option Addr} {l : List Bool} {row : Option Nat}
theorem RdBo.keep (h : RdBo w lo hi A l) (hk : ∀ k, lo ≤ k → k < hi → k < w.heap.size → w'.heap[k]? = w.heap[k]?) : RdBo w' lo hi A l := by
 refine ⟨⟨h.r.1, fun hn => ?_⟩, h.b⟩
 obtain ⟨b, o, rfl, hcl⟩ := h.r.2 hn
 have hb := h.b (fun e => hn (by rw [e]; rfl)) b rfl
 refine ⟨b, o, rfl, fun j u hj => ?_⟩
 have h1 := hcl j u hj
 have hlt : b < w.heap.size := block_lt_of_cell h1
 rw [← h1]
 show World.cell? w' _ = World.cell? w _
 unfold World.cell?
 rw [show w'.heap[b]? = w.heap[b]? from hk b hb.1 hb.2 hlt]
theorem RdBo.u (h : RdBo w lo hi A l) (hb : Below w.heap.size w w') : RdBo w' lo hi A l := ⟨h.r.below hb, h.b⟩
theorem RdBo.d (h : RdBo w lo hi A l) : RdBo w.drew lo hi A l := ⟨h.r, h.b⟩
theorem RdBo.c (h : RdBo w lo hi A l) (hc : Chg lo' hi' w w') (ha : hi ≤ lo' ∨ hi' ≤ lo) : RdBo w' lo hi A l := h.keep (fun k h1 h2 h3 => hc.block k h3 (by omega))
theorem RdBo.k (h : RdBo w lo hi A l) (hg : w.grownBy w' row) (ha : Ap row lo hi) : RdBo w' lo hi A l := h.keep (fun k h1 h2 h3 => hg.block k h3 (fun e => by have := ha k e.symm; omega))
theorem RdBo.nil_ : RdBo w lo hi none [] := ⟨Reads.none_ _ _ _, fun h => absurd rfl h⟩
theorem RdBo.some_ (h : RdBo w lo hi A l) (hl : 0 < l.length) : A = some (A.getD ⟨0, 0, none⟩) := Reads.some_ h.r (by decide) hl
theorem RdBo.of (h : Reads w 1 A l.length (l.map Value.bool)) : RdBo w 0 w.heap.size A l := ⟨h, fun hn k hk => ⟨Nat.zero_le _, by
 obtain ⟨b, o, rfl, hcl⟩ := h.2 (fun e => hn (by cases l with | nil => rfl | cons x y => cases e))
 have : b = k := by simpa [blk] using hk
 subst this
 cases l with
 | nil => exact absurd rfl hn
 | cons x y => exact block_lt_of_cell (hcl 0 _ rfl)⟩⟩
end
theorem Tryz.rowBo : RowT Tryz.prog 38 4 (.bool false) 1 1 := ⟨Tryz.underlying38, by kernel_rfl, rfl, by omega⟩
def OwnBo (w : World) (lo hi : Nat) (A : Option Addr) (c : Nat) (l : List Bool) : Prop := RowH w lo hi 4 1 A l.length c (l.map Value.bool)
section
variable {w w' : World} {lo hi lo' hi' cp b : Nat} {A : Option Addr} {l : List Bool} {row : Option Nat} {e' : TypeId}
theorem OwnBo.u (h : OwnBo w lo hi A cp l) (hb : Below w.heap.size w w') : OwnBo w' lo hi A cp l := RowH.u h hb
theorem OwnBo.c (h : OwnBo w lo hi A cp l) (hc : Chg lo' hi' w w') (ha : hi ≤ lo' ∨ hi' ≤ lo) : OwnBo w' lo hi A cp l := RowH.c h hc ha
theorem OwnBo.cap (h : OwnBo w lo hi A cp l) : l.length ≤ cp := RowH.cap h
theorem OwnBo.rng (h : OwnBo w lo hi A cp l) : ∀ k, blk A = some k → lo ≤ k ∧ k < hi := fun k hk => ⟨(RowH.lt h k hk).1, h.hi k hk⟩
theorem OwnBo.to_RdBo (h : OwnBo w lo hi A cp l) : RdBo w lo hi A l := ⟨RowH.rd h, fun _ => h.rng⟩
end
section
variable {fn : Func} {F : Ending → World → Prop} {N : Nat} {ks : List K} {ops : Array Oper} {tg : Tags} {l : List Oper} {fr : Fr} {w w0 : World} {ty t : TypeId} {pos : String} {aft : Array Edge} {gd : Option (Nat × Bool)} {k1 k2 : IntKind} {d j n q cp lo hi lo2 hi2 : Nat} {x y : Operand} {A X : Option Addr} {zs ms : List Bool}
theorem o_ldBo (ha' : ∀ w, (isAgg t).run Tryz.prog w = .ok false w) (hx : fr.ev x = some (.pointer (some (adr A j)))) (hr : RdBo w lo hi A zs) (hj : j < zs.length) : OpV Tryz.prog N fr w (.load t x) ty (.bool zs[j]) w :=
 o_loadA1 ha' hx hr.r (by simp [hj])
theorem wl_litBo {ps : Array (Nat × Operand)} {xs : List Operand} {vs : List Value} (hxs : ps.toList.map Prod.snd = xs) (hx : fr.evs xs = some vs) (hv : vs = zs.map Value.bool) (hn : zs.length = n) (hps : ps = ((List.range' 0 n).zip xs).toArray) (hm : Nat.ble (n * 1) 1000000 = true)
  (hk : ∀ A w', OwnBo w' w.heap.size w'.heap.size A n zs → Below w.heap.size w w' → WL Tryz.prog fn F N ks ops tg.tail l ((d, .slice A n n) :: fr) w')
  (ht : tg.loud = true := by rfl) (hg : onG ops fr gd = true := by rfl) (hd : Nat.blt d N = true := by rfl) : WL Tryz.prog fn F N ks ops tg (⟨some d, .buildSlice 38 n ps, ty, pos, aft, gd⟩ :: l) fr w := by
 refine wl_litR Tryz.rowBo Tryz.sizeOf4 Tryz.zeroValue4 hxs hps hx (by rw [hv, List.length_map, hn]) (fun v hv' => ?_) hm (fun A w' h1 h2 => hk A w' ?_ h2) ht hg hd
 ·rw [hv] at hv'
  obtain ⟨z, _, rfl⟩ := List.mem_map.1 hv'
  rfl
 ·have e : (zs.map Value.bool).flatMap (fun v => v.cells.toList) = zs.map Value.bool := by
   clear h1 hk hm hx hv hn hps hxs
   induction zs with
   | nil => rfl
   | cons d L ih => rw [List.map_cons, List.flatMap_cons, ih]; rfl
  rw [hv, e] at h1
  subst hn
  exact h1
theorem wl_litBo0 {ps : Array (Nat × Operand)} (hps : ps = #[])
  (hk : ∀ A w', OwnBo w' w.heap.size w'.heap.size A 0 [] → Below w.heap.size w w' → WL Tryz.prog fn F N ks ops tg.tail l ((d, .slice A 0 0) :: fr) w')
  (ht : tg.loud = true := by rfl) (hg : onG ops fr gd = true := by rfl) (hd : Nat.blt d N = true := by rfl) : WL Tryz.prog fn F N ks ops tg (⟨some d, .buildSlice 38 0 ps, ty, pos, aft, gd⟩ :: l) fr w := by
 subst hps
 exact wl_litBo (zs := []) (xs := []) (vs := []) rfl rfl rfl rfl rfl rfl hk ht hg hd
theorem wl_appBo0 (hx : fr.ev x = some (.slice A 0 0)) (hown : OwnBo w lo hi A 0 []) (hy : fr.ev y = some (.slice X j q)) (hr : RdBo w0 lo2 hi2 X ms) (hb : Below w0.heap.size w0 w) (hj : j = ms.length) (hlen : ms.length ≤ 1000000) (hB : lo ≤ w.heap.size)
  (h : ∀ A' c' w', OwnBo w' lo w'.heap.size A' c' ms → Below w.heap.size w w' → WL Tryz.prog fn F N ks ops tg.tail l ((d, .slice A' ms.length c') :: fr) w')
  (ht : tg.loud = true := by rfl) (hg : onG ops fr gd = true := by rfl) (hd : Nat.blt d N = true := by rfl) :
  WL Tryz.prog fn F N ks ops tg (⟨some d, .call { callee := .builtin .append, args := #[x, y], argTypes := #[38, 38] }, ty, pos, aft, gd⟩ :: l) fr w := by
 subst hj
 exact wl_appR0 Tryz.rowBo hx hown hy (hr.u hb).r (fun u hu => by obtain ⟨z, _, rfl⟩ := List.mem_map.1 hu; rfl) (by simp only [maxLen]; omega) (by omega) hB (fun A' c' w' k1 k2 => h A' c' w' k1 k2) ht hg hd
end
end Go.Proofs.YtnnhenafhalobaaGreat
namespace Go.Proofs.YtnnhenafhalobaaGreat
set_option maxRecDepth 100000
open Go.RowKit
def img (S : List Sec) : By := S.flatMap Subtype.val
theorem img_len : ∀ S : List Sec, (img S).length = S.length * 256
 | [] => rfl
 | s :: S => by rw [img, List.flatMap_cons, List.length_append, s.2, ← img, img_len S, List.length_cons]; omega
theorem img_snoc (S : List Sec) (s : Sec) : img (S ++ [s]) = img S ++ s.1 := by simp [img]
def ixz (C : List (Option Sec)) : List Int := (cix C).map Int.ofNat
theorem ixz_len (C : List (Option Sec)) : (ixz C).length = cnt C := by rw [ixz, List.length_map, cix_len]
theorem nat_wf {i : Nat} (h : i ≤ 9223372036854775807) : (Lit.int .i64 (i : Int)).wf = true := by
 simp only [Lit.wf, Bool.and_eq_true, decide_eq_true_eq]
 exact ⟨by show (-9223372036854775808 : Int) ≤ _; omega, by show _ ≤ (9223372036854775807 : Int); omega⟩
section
variable {fn : Func} {F : Ending → World → Prop} {N : Nat} {ks : List K} {ops : Array Oper} {tg : Tags} {l : List Oper} {fr : Fr} {w w0 : World} {ty : TypeId} {pos : String} {aft : Array Edge} {gd : Option (Nat × Bool)} {d j c lo hi : Nat} {x : Operand} {A : Option Addr} {S : List Sec}
theorem OwnSec.rdj {w : World} (h : OwnSec w lo hi A c S) (hj : j < S.length) : Rd w (some (adr A (j * 256))) S[j].1 := by
 have hc := h.cells hj
 have hA := h.some_ (by omega)
 cases A with
 | none => cases hA
 | some ad =>
  obtain ⟨xs, h1, _⟩ := h
  obtain ⟨g, cur, e, _⟩ := h1.blk_ (by omega)
  injection e with e
  subst e
  refine ⟨by rw [B8_length, Nat.mul_one], fun _ => ⟨g, j * 256, by simp [adr, add_plain], fun i u hi => ?_⟩⟩
  have := hc i u hi
  simpa [adr, add_plain] using this
theorem wl_slSec (hx : fr.ev x = some (.pointer (some (adr A (j * 256))))) (hr : OwnSec w0 lo hi A c S) (hb : Below w0.heap.size w0 w) (hj : j < S.length)
  (hk : Rd w0 (some (adr A (j * 256))) S[j].1 → WL Tryz.prog fn F N ks ops tg.tail l ((d, .slice (some (adr A (j * 256))) S[j].1.length 256) :: fr) w) (hg : onG ops fr gd = true := by rfl) (hd : Nat.blt d N = true := by rfl) :
  WL Tryz.prog fn F N ks ops tg (⟨some d, .slice 95 x none none none, ty, pos, aft, gd⟩ :: l) fr w := by
 have h := hk (hr.rdj hj)
 rw [S[j].2] at h
 exact wl_p (fun _ => o_slArrW Tryz.underlying95 Tryz.sizeOf5 hx) h hg hd
end
theorem ixz_sorted (C : List (Option Sec)) : (ixz C).Pairwise (fun x y => decide (x ≤ y) = true) :=
 List.pairwise_map.2 ((ixs_sorted 0 C).imp fun {a b} h => decide_eq_true (by show Int.ofNat a ≤ Int.ofNat b; simp only [Int.ofNat_eq_natCast]; omega))
theorem ixz_nodup (C : List (Option Sec)) : (ixz C).Nodup :=
 List.pairwise_map.2 ((ixs_sorted 0 C).imp fun {a b} h e => by simp only [Int.ofNat_eq_natCast] at e; omega)
theorem ixz_mem (C : List (Option Sec)) (x : Int) : x ∈ ixz C ↔ (cAt C x).isSome := by
 unfold ixz cAt
 rw [List.mem_map]
 constructor
 ·rintro ⟨n, hn, rfl⟩
  obtain ⟨h1, h2⟩ := (cix_mem C n).1 hn
  rw [if_pos (by simp)]
  simpa [h1] using h2
 ·intro h
  split at h
  ·rename_i h0
   refine ⟨x.toNat, (cix_mem C _).2 ?_, by simp; omega⟩
   cases hx : C[x.toNat]? with
   | none => rw [hx] at h; cases h
   | some c =>
    obtain ⟨h1, h2⟩ := List.getElem?_eq_some_iff.1 hx
    refine ⟨h1, ?_⟩
    rw [h2]
    rw [hx] at h
    exact h
  ·cases h
open Go.Maps Go.Sort Go.Shelf in
theorem Tryz.sortsA (m : Nat) : AnyZI.SortsIn Tryz.prog Tryz.sortedA_ren Fence.wide m :=
 ⟨fun blk off cap ss W hH hblk hsz => callsIn_wide.2 (AnyM.slices_Sort_int Tryz.sortA blk off cap ss W hH hblk hsz),
  fun p cap W => callsIn_wide.2 (AnyM.slices_Sort_int_none Tryz.sortA p cap W)⟩
open Go.Maps Go.Sort Go.Shelf in
theorem ixz_perm {w : World} {b : Nat} {C : List (Option Sec)} {D : DataW Unit} (hl : C.length ≤ 1000000) (hown : w.ownsMap (H := Unit) Tryz.prog 3 secElem b (cnt C) D) (hD : ∀ z, (Lit.int .i64 z).wf = true → Maps.has D (.int .i64 z) = (cAt C z).isSome ∧ ∀ s, cAt C z = some s → ∀ d, D.atKey (.int .i64 z) d = .lit (.string s.1)) :
  (ixz C).Perm (intKeys D) := by
 have hwf := intKeys_wf hown Tryz.underlying3
 refine CollectedI.perm (left := fun _ => false) ⟨ixz_nodup C, fun x => ?_⟩ hown Tryz.keyI Tryz.underlying3 (fun _ => rfl)
 rw [ixz_mem]
 constructor
 ·intro h
  have hx := (ixz_mem C x).2 h
  obtain ⟨n, hn, rfl⟩ := List.mem_map.1 hx
  obtain ⟨h1, _⟩ := (cix_mem C n).1 hn
  exact ⟨by exact ((hD _ (nat_wf (i := n) (by omega))).1).trans h, rfl⟩
 ·rintro ⟨h, _⟩
  have hx : x ∈ intKeys D := by
   obtain ⟨es, rfl⟩ := hown.isMap
   rw [Maps.has_eq, List.any_eq_true] at h
   obtain ⟨p, hp, hs⟩ := h
   refine List.mem_map.2 ⟨p, hp, ?_⟩
   rw [WideAt.sameKey_eq hs]; rfl
  rw [← (hD _ (hwf x hx)).1]; exact h
open Go.Maps Go.Sort Go.Shelf in
theorem C_sortedKeys {g b : Nat} {C : List (Option Sec)} {I : List Int} (w : World) (hB : Blk w g 96 [.map (some b)]) (hm : MapS w b C) (hI : ixz C = I) (hl : C.length ≤ 1000000) :
  CallsR Tryz.prog 73 [.func (.func 96) #[] #[.pointer (some ⟨g, 0, none⟩)]] w fun v w' => ∃ A c, v = .slice A I.length c ∧ OwnZ w' w.heap.size w'.heap.size A c I ∧ Below w.heap.size w w' := by
 subst hI
 have hcl := cnt_le C
 obtain ⟨D, hown, hsz, hD⟩ := hm
 refine ⟨⟨_, Tryz.func73, rfl, by kernel_rfl⟩, ?_⟩
 have hseq : SeqGives Fence.wide 2 Tryz.prog 96 #[.pointer (some ⟨g, 0, none⟩)] encZ (fun ss => ss.Perm (intKeys D)) (Maps.size D) w :=
  AnyZI.keys_gives (ρ := Tryz.keysA_ren) { Tryz.keysA with } Fence.wide _ trivial rfl (by omega) g b (cnt C) D _ hB.lt (hB.cell 0) hown
 have cS := AnyZI.sorted_in Tryz.sortedA Fence.wide 5 trivial trivial trivial trivial rfl (by omega) (Tryz.sortsA _) (enters_of Tryz.func95 (by kernel_rfl) rfl) 96 #[.pointer (some ⟨g, 0, none⟩)] trivial (enters_of Tryz.func96 (by kernel_rfl) rfl) _ _ (by rw [hsz]; simp only [maxLen]; omega) (by rw [hsz]; omega) _ hseq
 change CallsIn _ _ Tryz.prog 73 _ _ _ at cS
 refine ((callsIn_wide (n := 5)).1 cS).mono ?_
 rintro e w' ⟨v, ss, rfl, hS, hrow, hnil, hb⟩
 have hp := ixz_perm hl hown hD
 have hms : ss.mergeSort (fun x y => decide (x ≤ y)) = ixz C := by
  have h1 := Go.mergeSort_of_perm_i (hS.trans hp.symm)
  rw [h1]
  exact List.mergeSort_of_pairwise (ixz_sorted C)
 have hlen : ss.length = (ixz C).length := (hS.trans hp.symm).length_eq
 rw [hms, hlen] at hrow
 obtain ⟨A, c, rfl⟩ := ownsRow_shape hrow
 exact ⟨_, rfl, A, c, rfl, ⟨hrow, fun k hk => (World.ownsRow.lt hrow k (by rw [blk_own]; exact hk)).2⟩, hb⟩
theorem C_mapKeys {b : Nat} (w : World) :
  CallsR Tryz.prog 74 [.map (some b)] w fun v w' => ∃ g, v = .func (.func 96) #[] #[.pointer (some ⟨g, 0, none⟩)] ∧ Blk w' g 96 [.map (some b)] ∧ Below w.heap.size w w' := by
 refine callsR Tryz.func74 rfl rfl (by kernel_rfl) rfl ?_
 have hw := Below.refl w.heap.size w
 refine zs ?_
 refine wl_boxg [_] rfl (by rfl) ?_
 rintro g1 w1 f1 b1 i1 i1_1
 have s1 := b1.size
 replace hw := hw.trans (b1.mono hw.size)
 refine za rfl (wl_nil (zs ?_))
 refine zp (o_makeFunc (xs := [.tmp 1]) rfl) ?_
 refine za rfl (wl_nil ?_)
 refine ret1 rfl rfl ?_
 exact ⟨_, rfl, f1, hw⟩
theorem C_dCached {lo hi g : Nat} {S : List Sec} {C : List (Option Sec)} {I : List Int} (w : World) (hd : DkAt w lo hi g S C) (hI : ixz C = I) :
  CallsR Tryz.prog 37 [.pointer (some ⟨g, 0, none⟩)] w fun v w' => ∃ A c, v = .slice A I.length c ∧ OwnZ w' w.heap.size w'.heap.size A c I ∧ Below w.heap.size w w' := by
 refine callsR Tryz.func37 rfl rfl (by kernel_rfl) rfl ?_
 have hw := Below.refl w.heap.size w
 refine zs (za rfl (wl_nil (rk_seq (zs (zm rfl ?_)))))
 refine wl_call rfl (C_valid _ hd) ?_
 rintro v4 w4 ⟨rfl, rfl⟩
 refine zp (o_not rfl) ?_
 refine wl_nil ?_
 refine rk_false rfl ?_
 refine rk_skip (zs (zm rfl ?_))
 refine zp (o_nil rfl) ?_
 refine zp (o_faddr (s := 98) (i := 2) (off := 2) Tryz.underlying98 rfl Tryz.sizeOf96 rfl rfl rfl) ?_
 obtain ⟨A, c, b, f, fs, fm, h4, h5, h6⟩ := hd.ex
 have hle := hd.len
 have hn2 := hd.n2
 refine wl_r (o_loadbg Tryz.isAgg96 rfl f (by rfl)) ?_
 refine wl_call rfl (C_mapKeys _) ?_
 rintro v10 w10 ⟨g10, ⟨rfl, ⟨f10, b10⟩⟩⟩
 have s10 := b10.size
 replace hw := hw.trans (b10.mono hw.size)
 refine wl_call rfl (C_sortedKeys _ f10 (fm.u hw) hI (by omega)) ?_
 rintro v11 w11 ⟨A11, ⟨c11, ⟨rfl, ⟨f11, b11⟩⟩⟩⟩
 have qf11 := f11.cap
 have s11 := b11.size
 replace hw := hw.trans (b11.mono hw.size)
 replace f10 := f10.u b11
 refine za rfl (wl_nil ?_)
 refine ret1 rfl rfl ?_
 have hsz := hw.size
 exact ⟨A11, c11, rfl, f11.base (by omega) (by omega), hw⟩
end Go.Proofs.YtnnhenafhalobaaGreat
namespace Go.Proofs.YtnnhenafhalobaaGreat
set_option maxRecDepth 100000
open Go.RowKit
def secOf (l : By) : Sec := if h : l.length = 256 then ⟨l, h⟩ else z256
theorem secOf_val {l : By} (h : l.length = 256) : (secOf l).1 = l := by unfold secOf; rw [dif_pos h]
def secsN : Nat → By → List Sec
 | 0, _ => []
 | k + 1, b => secOf (b.take 256) :: secsN k (b.drop 256)
theorem secsN_len : ∀ (k : Nat) (b : By), (secsN k b).length = k
 | 0, _ => rfl
 | k + 1, b => by rw [secsN, List.length_cons, secsN_len k]
theorem img_secsN : ∀ (k : Nat) (b : By), b.length = 256 * k → img (secsN k b) = b
 | 0, b, h => by
  obtain rfl : b = [] := List.length_eq_zero_iff.1 (by omega)
  rfl
 | k + 1, b, h => by
  have h1 : (b.take 256).length = 256 := by rw [List.length_take]; omega
  show (secOf (b.take 256)).1 ++ img (secsN k (b.drop 256)) = b
  rw [img_secsN k _ (by rw [List.length_drop]; omega), secOf_val h1, List.take_append_drop]
theorem img_append (S T : List Sec) : img (S ++ T) = img S ++ img T := by simp [img]
theorem secsN_get : ∀ (k : Nat) (b : By) (i : Nat) (h : i < k), (secsN k b)[i]'(by rw [secsN_len]; exact h) = secOf ((b.drop (256 * i)).take 256)
 | k + 1, b, 0, h => rfl
 | k + 1, b, i + 1, h => by
  show (secsN k (b.drop 256))[i]'_ = _
  rw [secsN_get k _ i (by omega), List.drop_drop, show 256 + 256 * i = 256 * (i + 1) by omega]
theorem secsN_img : ∀ (S : List Sec), secsN S.length (img S) = S
 | [] => rfl
 | s :: S => by
  have h1 : img (s :: S) = s.1 ++ img S := rfl
  show secOf ((img (s :: S)).take 256) :: secsN S.length ((img (s :: S)).drop 256) = s :: S
  rw [h1, List.take_left' s.2, List.drop_left' s.2, secsN_img S]
  congr 1
  exact Subtype.ext (secOf_val s.2)
def wrs : List (Option Sec) → Nat → List Sec → List (Option Sec)
 | C, _, [] => C
 | C, n, s :: ss => wrs (C.set n (some s)) (n + 1) ss
theorem wrs_len : ∀ (ss : List Sec) (C : List (Option Sec)) (n : Nat), (wrs C n ss).length = C.length
 | [], _, _ => rfl
 | s :: ss, C, n => by rw [wrs, wrs_len ss, List.length_set]
theorem wrs_snoc : ∀ (ss : List Sec) (C : List (Option Sec)) (n : Nat) (s : Sec), wrs C n (ss ++ [s]) = (wrs C n ss).set (n + ss.length) (some s)
 | [], C, n, s => rfl
 | x :: ss, C, n, s => by
  show wrs (C.set n (some x)) (n + 1) (ss ++ [s]) = (wrs (C.set n (some x)) (n + 1) ss).set _ _
  rw [wrs_snoc ss, List.length_cons, show n + 1 + ss.length = n + (ss.length + 1) by omega]
def pts : List Sec → Nat → List Sec → List Sec
 | T, _, [] => T
 | T, n, s :: ss => pts (T.set n s) (n + 1) ss
theorem pts_len : ∀ (ss T : List Sec) (n : Nat), (pts T n ss).length = T.length
 | [], _, _ => rfl
 | s :: ss, T, n => by rw [pts, pts_len ss, List.length_set]
theorem cur_wrs : ∀ (ss : List Sec) (S : List Sec) (C : List (Option Sec)) (n : Nat), C.length = S.length → cur S (wrs C n ss) = pts (cur S C) n ss
 | [], _, _, _, _ => rfl
 | s :: ss, S, C, n, h => by
  show cur S (wrs (C.set n (some s)) (n + 1) ss) = pts ((cur S C).set n s) (n + 1) ss
  rw [cur_wrs ss S _ _ (by rw [List.length_set]; exact h), cur_set _ _ _ _ h]
theorem pts_get : ∀ (ss T : List Sec) (n i : Nat), n + ss.length ≤ T.length → (pts T n ss)[i]? = if n ≤ i ∧ i < n + ss.length then ss[i - n]? else T[i]?
 | [], T, n, i, _ => by rw [if_neg (by rw [List.length_nil]; omega)]; rfl
 | s :: ss, T, n, i, h => by
  rw [List.length_cons] at h
  show (pts (T.set n s) (n + 1) ss)[i]? = _
  rw [pts_get ss _ _ _ (by rw [List.length_set]; omega), List.length_cons]
  by_cases h1 : i = n
  ·subst h1
   rw [if_neg (by omega), if_pos (by omega), List.getElem?_set, if_pos rfl, if_pos (by omega), Nat.sub_self]
   rfl
  ·by_cases h2 : n + 1 ≤ i ∧ i < n + 1 + ss.length
   ·rw [if_pos h2, if_pos (by omega), show i - n = (i - (n + 1)) + 1 by omega]
    rfl
   ·rw [if_neg h2, if_neg (by omega), List.getElem?_set, if_neg (fun e => h1 e.symm)]
def areaB (T : List Sec) (n k : Nat) : By := img ((T.drop n).take k)
theorem areaB_len {T : List Sec} {n k : Nat} (h : n + k ≤ T.length) : (areaB T n k).length = 256 * k := by
 unfold areaB
 rw [img_len, List.length_take, List.length_drop, Nat.min_eq_left (by omega), Nat.mul_comm]
theorem areaB_pts {T ss : List Sec} {n : Nat} (h : n + ss.length ≤ T.length) : areaB (pts T n ss) n ss.length = img ss := by
 unfold areaB
 congr 1
 apply List.ext_getElem?
 intro i
 rw [List.getElem?_take]
 by_cases h1 : i < ss.length
 ·rw [if_pos h1, List.getElem?_drop, pts_get _ _ _ _ h, if_pos (by omega), Nat.add_sub_cancel_left]
 ·rw [if_neg h1, List.getElem?_eq_none (by omega)]
theorem areaB_out {T ss : List Sec} {n m k : Nat} (h : n + ss.length ≤ T.length) (hd : m + k ≤ n ∨ n + ss.length ≤ m) : areaB (pts T n ss) m k = areaB T m k := by
 unfold areaB
 congr 1
 apply List.ext_getElem?
 intro i
 rw [List.getElem?_take, List.getElem?_take]
 by_cases h1 : i < k
 ·rw [if_pos h1, if_pos h1, List.getElem?_drop, List.getElem?_drop, pts_get _ _ _ _ h, if_neg (by omega)]
 ·rw [if_neg h1, if_neg h1]
def overJ (b : By) (at_ : Nat) (p : By) : By := b.take at_ ++ p ++ b.drop (at_ + p.length)
theorem overJ_len {b p : By} {n : Nat} (h : n + p.length ≤ b.length) : (overJ b n p).length = b.length := by
 unfold overJ
 rw [List.length_append, List.length_append, List.length_take, List.length_drop]; omega
end Go.Proofs.YtnnhenafhalobaaGreat
namespace Go.Proofs.YtnnhenafhalobaaGreat
set_option maxRecDepth 100000
open Go.RowKit
section
variable {P : Program} {fn : Func} {F : Ending → World → Prop} {N : Nat} {ks : List K} {ops : Array Oper} {tg : Tags} {l : List Oper} {fr : Fr} {w : World} {ty ty2 t : TypeId} {pos pos2 : String} {aft aft2 : Array Edge} {gd gd2 : Option (Nat × Bool)} {d d2 n : Nat}
theorem rdT_mark (w : World) (bs : List UInt8) (fr : Nat × Nat) : RdT (w.alloc (.cells (B8 bs).toArray 5 fr)) (some ⟨w.heap.size, 0, none⟩) bs := by
 refine ⟨⟨by simp [B8_length], fun _ => ⟨w.heap.size, 0, rfl, fun j v hj => ?_⟩⟩, fun k hk => ?_⟩
 ·rw [Nat.zero_add, World.cell?_alloc_mark]
  simpa using hj
 ·obtain rfl : w.heap.size = k := by simpa [blk] using hk
  exact ⟨(B8 bs).toArray, fr, by show (w.heap.push _)[w.heap.size]? = _; simp⟩
theorem wl_litC {ps : Array (Nat × Operand)} {xs : List Operand} {vs : List Value} (bs : List UInt8) (T : U8 P t) (hs : ∀ w, (sizeOf 5).run P w = .ok 1 w) (hz : ∀ w, (zeroValue 5).run P w = .ok (.int .u8 0) w) (hxs : ps.toList.map Prod.snd = xs) (hx : fr.evs xs = some vs) (hv : vs = B8 bs) (hn : bs.length = n) (hps : ps = ((List.range' 0 n).zip xs).toArray) (hm : Nat.ble bs.length 1000000 = true)
  (hk : ∀ A w', RdT w' A bs → Below w.heap.size w w' → WL P fn F N ks ops tg.tail.tail l ((d2, .slice A n n) :: (d, .slice A n n) :: fr) w')
  (ht : tg.loud = true := by rfl) (ht2 : tg.tail.loud = true := by rfl) (hg : onG ops fr gd = true := by rfl) (hg2 : ∀ u, onG ops ((d, u) :: fr) gd2 = true := by intro _; rfl) (hd : Nat.blt d N = true := by rfl) (hd2 : Nat.blt d2 N = true := by rfl) (hq : tg.tail.calm = false := by rfl) :
  WL P fn F N ks ops tg (⟨some d, .buildSlice t n ps, ty, pos, aft, gd⟩ :: ⟨some d2, .convert t t (.tmp d), ty2, pos2, aft2, gd2⟩ :: l) fr w := by
 subst hps; subst hv; subst hn
 have hm' : bs.length ≤ 1000000 := by simpa using hm
 have hr := run_lit (P := P) (w := w) T.ht hs hz rfl (B8 bs) (B8_oneCell _) (by rw [B8_length]; omega)
 rw [B8_length] at hr
 refine wl_v (o_lit hx hr) ?_ ht hg hd (.inr (grown_of_below (below_alloc w _) _))
 have hv : Fr.ev ((d, .slice (some ⟨w.heap.size, 0, none⟩) bs.length bs.length) :: fr) (.tmp d) = some (.slice (some ⟨w.heap.size, 0, none⟩) bs.length bs.length) := by simp [Fr.ev, Fr.get]
 refine wl_v (w' := w.alloc (.cells (B8 bs).toArray 5 ((B8 bs).toArray.size, (B8 bs).toArray.size + 1))) (fun a ha o ho _ => ?_) (hk _ _ (rdT_mark w bs _) (below_alloc w _)) ht2 (hg2 _) hd2 (.inl hq)
 have := Lib.run_convert_bytes_const (P := P) w t 5 (B8 bs).toArray bs.length bs.length T.ht T.hu
 simp [execOp, ho, ha.ev hv, this]
end
end Go.Proofs.YtnnhenafhalobaaGreat
namespace Go.Proofs.YtnnhenafhalobaaGreat
set_option maxRecDepth 100000
/-! Numbers in words, the low one first. -/
def val : List Nat → Nat
 | [] => 0
 | a :: l => a + 18446744073709551616 * val l
end Go.Proofs.YtnnhenafhalobaaGreat
namespace Go.Proofs.YtnnhenafhalobaaGreat
set_option maxRecDepth 100000
open Go.RowKit
section
variable {fn : Func} {N : Nat} {fr : Fr} {w : World} {ty : TypeId} {x y z : Operand} {ts : Array TypeId}
end
theorem C_Mul64 {x y : Nat} (w : World) (hx : x < 18446744073709551616) (hy : y < 18446744073709551616) : CallsR Tryz.prog 142 [.int .u64 (x : Int), .int .u64 (y : Int)] w fun v w' => v = .tuple #[.int .u64 ((x * y / 18446744073709551616 : Nat) : Int), .int .u64 ((x * y % 18446744073709551616 : Nat) : Int)] ∧ w' = w := by
 refine ⟨⟨_, Tryz.func142, rfl, by kernel_rfl⟩, ?_⟩
 refine (Tryz.bits_Mul64 x y hx hy w).mono ?_
 rintro e w' ⟨rfl, rfl⟩
 exact ⟨_, rfl, rfl, rfl⟩
section
variable {fn : Func} {F : Ending → World → Prop} {N : Nat} {ks : List K} {ops : Array Oper} {tg : Tags} {l : List Oper} {fr : Fr} {w : World} {ty t t' e e2 : TypeId} {z v : Value} {pos : String} {aft : Array Edge} {gd : Option (Nat × Bool)} {d n g i a : Nat} {x y : Operand} {P : Program}
end
end Go.Proofs.YtnnhenafhalobaaGreat
namespace Go.Proofs.YtnnhenafhalobaaGreat
set_option maxRecDepth 100000
open Go.RowKit
def rotU (x : UInt64) (k : Int) : UInt64 := shlU x (k % 64).toNat ||| shrU x (64 - (k % 64).toNat)
theorem C_rot {x : UInt64} {k : Int} (w : World) (h1 : -64 < k) (h2 : k < 0) : CallsR Tryz.prog 145 [.int .u64 (x.toNat : Int), .int .i64 k] w fun v w' => v = .int .u64 ((rotU x k).toNat : Int) ∧ w' = w := by
 obtain ⟨s, hs⟩ : ∃ s : Nat, k % 64 = s := ⟨(k % 64).toNat, by omega⟩
 have e1 : bits .and .u64 (IntKind.u64.wrap k) 63 = (s : Int) := by
  rw [IntKind.wrap_u64]
  obtain ⟨n, hn⟩ : ∃ n : Nat, k % 18446744073709551616 = n := ⟨(k % 18446744073709551616).toNat, by omega⟩
  rw [hn]
  have h := bits_and_u64_nat n 63 (by omega) (by omega)
  have h3 : n &&& 63 = n % 64 := Nat.and_two_pow_sub_one_eq_mod n 6
  rw [h3] at h
  have : n % 64 = s := by omega
  rw [← this]; exact h
 refine callsR Tryz.func145 rfl rfl (by kernel_rfl) rfl ?_
 refine zs (za rfl (wl_nil (zs (zm rfl ?_))))
 refine zp (o_convi Tryz.underlying3 Tryz.underlying151 rfl) ?_
 refine zp (o_and rfl rfl) ?_
 refine za rfl (wl_nil (zs (zm rfl (zm rfl ?_))))
 refine zp (o_shlU rfl rfl (by omega) (by omega)) ?_
 refine zm rfl (zm rfl ?_)
 refine zp (o_subq rfl rfl (by omega) (by omega)) ?_
 refine zp (o_shrU rfl rfl (by omega) (by omega)) ?_
 refine zp (o_orU rfl rfl) ?_
 refine za rfl (wl_nil ?_)
 rw [e1]
 refine ret1 rfl rfl ?_
 exact ⟨by unfold rotU; rw [hs, show (64 - (s : Int)).toNat = 64 - s by omega]; rfl, rfl⟩

def Kl : List UInt64 := [
 0x428a2f98d728ae22, 0x7137449123ef65cd, 0xb5c0fbcfec4d3b2f, 0xe9b5dba58189dbbc, 0x3956c25bf348b538, 0x59f111f1b605d019, 0x923f82a4af194f9b, 0xab1c5ed5da6d8118,
 0xd807aa98a3030242, 0x12835b0145706fbe, 0x243185be4ee4b28c, 0x550c7dc3d5ffb4e2, 0x72be5d74f27b896f, 0x80deb1fe3b1696b1, 0x9bdc06a725c71235, 0xc19bf174cf692694,
 0xe49b69c19ef14ad2, 0xefbe4786384f25e3, 0x0fc19dc68b8cd5b5, 0x240ca1cc77ac9c65, 0x2de92c6f592b0275, 0x4a7484aa6ea6e483, 0x5cb0a9dcbd41fbd4, 0x76f988da831153b5,
 0x983e5152ee66dfab, 0xa831c66d2db43210, 0xb00327c898fb213f, 0xbf597fc7beef0ee4, 0xc6e00bf33da88fc2, 0xd5a79147930aa725, 0x06ca6351e003826f, 0x142929670a0e6e70,
 0x27b70a8546d22ffc, 0x2e1b21385c26c926, 0x4d2c6dfc5ac42aed, 0x53380d139d95b3df, 0x650a73548baf63de, 0x766a0abb3c77b2a8, 0x81c2c92e47edaee6, 0x92722c851482353b,
 0xa2bfe8a14cf10364, 0xa81a664bbc423001, 0xc24b8b70d0f89791, 0xc76c51a30654be30, 0xd192e819d6ef5218, 0xd69906245565a910, 0xf40e35855771202a, 0x106aa07032bbd1b8,
 0x19a4c116b8d2d0c8, 0x1e376c085141ab53, 0x2748774cdf8eeb99, 0x34b0bcb5e19b48a8, 0x391c0cb3c5c95a63, 0x4ed8aa4ae3418acb, 0x5b9cca4f7763e373, 0x682e6ff3d6b2b8a3,
 0x748f82ee5defb2fc, 0x78a5636f43172f60, 0x84c87814a1f0ab72, 0x8cc702081a6439ec, 0x90befffa23631e28, 0xa4506cebde82bde9, 0xbef9a3f7b2c67915, 0xc67178f2e372532b,
 0xca273eceea26619c, 0xd186b8c721c0c207, 0xeada7dd6cde0eb1e, 0xf57d4f7fee6ed178, 0x06f067aa72176fba, 0x0a637dc5a2c898a6, 0x113f9804bef90dae, 0x1b710b35131c471b,
 0x28db77f523047d84, 0x32caab7b40c72493, 0x3c9ebe0a15c9bebc, 0x431d67c49c100d4c, 0x4cc5d4becb3e42b6, 0x597f299cfc657e2a, 0x5fcb6fab3ad6faec, 0x6c44198c4a475817]
def Sl : List UInt64 := [0x6a09e667f3bcc908, 0xbb67ae8584caa73b, 0x3c6ef372fe94f82b, 0xa54ff53a5f1d36f1, 0x510e527fade682d1, 0x9b05688c2b3e6c1f, 0x1f83d9abfb41bd6b, 0x5be0cd19137e2179]
theorem Sl_len : Sl.length = 8 := rfl
theorem zv80 : ∀ w, (zeroValue 178).run Tryz.prog w = .ok (.agg (vU (List.replicate 80 0)).toArray) w := fun w => by
 have h : (Tryz.prog.info? 178).map (fun i => (i.zero, i.size, i.bytes)) = some (some (.agg (vU (List.replicate 80 0)).toArray), 80, 640) := by kernel_rfl
 obtain ⟨i, hi, hz, _, _⟩ := info_parts h
 simp [zeroValue, typeInfo, hi, hz]
section
variable {fn : Func} {F : Ending → World → Prop} {N : Nat} {ks : List K} {ops : Array Oper} {tg : Tags} {l : List Oper} {fr : Fr} {w : World} {ty : TypeId} {pos : String} {aft : Array Edge} {gd : Option (Nat × Bool)} {d : Nat}
end
set_option maxRecDepth 100000 in
theorem C_K (w : World) : CallsR Tryz.prog 144 [] w fun v w' => v = .agg (vU Kl).toArray ∧ Below w.heap.size w w' := by
 refine callsR Tryz.func144 rfl rfl (by kernel_rfl) rfl ?_
 have hw := Below.refl w.heap.size w
 refine zs ?_
 refine wl_allocU Tryz.underlying178 Tryz.zeroValue178 (by rfl) ?_
 rintro g0 w0 f0 b0 i0 i0_1
 have s0 := b0.size
 replace hw := hw.trans (b0.mono hw.size)
 refine wl_nil (zs ?_)
 refine zp (o_buildU (n := 80) (vs := vU Kl) Kl Tryz.underlying178 rfl rfl (by kernel_rfl) rfl rfl (by kernel_rfl) (fun _ => by kernel_rfl)) ?_
 refine wl_stUa Tryz.sizeOf178 rfl f0 rfl (by rfl) (by rfl) ?_
 rintro w_1 f g e
 have s := g.size
 replace hw := hw.trans (below_of_grownBy g.g hw.size (by omega))
 clear f0
 refine wl_nil ?_
 refine ret_cell rfl rfl Tryz.isAgg178 Tryz.sizeOf178 f rfl ?_
 exact ⟨rfl, hw⟩
theorem C_Start (w : World) : CallsR Tryz.prog 122 [] w fun v w' => v = .agg (vU Sl).toArray ∧ Below w.heap.size w w' := by
 refine callsR Tryz.func122 rfl rfl (by kernel_rfl) rfl ?_
 have hw := Below.refl w.heap.size w
 refine zs ?_
 refine wl_allocU Tryz.underlying141 Tryz.zeroValue141 (by rfl) ?_
 rintro g0 w0 f0 b0 i0 i0_1
 have s0 := b0.size
 replace hw := hw.trans (b0.mono hw.size)
 refine wl_nil (zs ?_)
 refine zp (o_buildga [_, _, _, _, _, _, _, _] Tryz.underlying141 Tryz.sizeOf52 Tryz.zeroValue141 (by rfl) (by rfl) rfl (by rfl) (by rfl) (fun _ => by kernel_rfl)) ?_
 refine wl_storega Tryz.sizeOf141 rfl rfl (by rfl) (by decide) f0 (by rfl) ?_
 rintro w_1 f g e
 have s := g.size
 replace hw := hw.trans (below_of_grownBy g.g hw.size (by omega))
 clear f0
 refine wl_nil ?_
 refine ret_cell rfl rfl Tryz.isAgg141 Tryz.sizeOf141 f rfl ?_
 exact ⟨by kernel_rfl, hw⟩

/-! The words of a piece. -/
def pw (l : List UInt8) : UInt64 := l.foldl (fun a c => shlU a 8 ||| c.toUInt64) 0
def part8 (p : List UInt8) (i j : Nat) : List UInt8 := ((p.take i).drop (8 * j)).take 8
theorem part8_same {p : List UInt8} {i j : Nat} (hi : i < p.length) (h : j ≠ i / 8) : part8 p (i + 1) j = part8 p i j := by
 unfold part8
 rw [List.take_succ_eq_append_getElem hi]
 rcases Nat.lt_or_gt_of_ne h with h | h
 ·rw [List.drop_append_of_le_length (by rw [List.length_take]; omega), List.take_append_of_le_length (by rw [List.length_drop, List.length_take]; omega)]
 ·rw [List.drop_of_length_le (by simp only [List.length_append, List.length_take, List.length_singleton]; omega), List.drop_of_length_le (by rw [List.length_take]; omega)]
theorem part8_next {p : List UInt8} {i : Nat} (hi : i < p.length) : part8 p (i + 1) (i / 8) = part8 p i (i / 8) ++ [p[i]] := by
 unfold part8
 rw [List.take_succ_eq_append_getElem hi, List.drop_append_of_le_length (by rw [List.length_take]; omega)]
 have h1 : ((p.take i).drop (8 * (i / 8))).length = i - 8 * (i / 8) := by rw [List.length_drop, List.length_take]; omega
 generalize (p.take i).drop (8 * (i / 8)) = q at h1
 rw [List.take_of_length_le (by rw [List.length_append, List.length_singleton]; omega), List.take_of_length_le (by omega)]
def ws80 (p : List UInt8) (i : Nat) : List UInt64 := (List.range 80).map fun j => pw (part8 p i j)
theorem ws80_len (p : List UInt8) (i : Nat) : (ws80 p i).length = 80 := by simp [ws80]
theorem ws80_get (p : List UInt8) (i j : Nat) (h : j < (ws80 p i).length) : (ws80 p i)[j] = pw (part8 p i j) := by
 simp [ws80]
theorem ws80_next {p : List UInt8} {i : Nat} (hi : i < p.length) (h : i / 8 < (ws80 p i).length) : (ws80 p i).set (i / 8) (shlU (ws80 p i)[i / 8] 8 ||| p[i].toUInt64) = ws80 p (i + 1) := by
 apply List.ext_getElem (by rw [List.length_set, ws80_len, ws80_len])
 intro j h1 h2
 rw [List.getElem_set]
 simp only [ws80_get]
 by_cases e : i / 8 = j
 ·subst e
  rw [if_pos rfl, part8_next hi]
  simp [pw, List.foldl_append]
 ·rw [if_neg e, part8_same hi (fun h => e h.symm)]
theorem ws80_zero (p : List UInt8) : ws80 p 0 = List.replicate 80 0 := by
 apply List.ext_getElem (by rw [ws80_len, List.length_replicate])
 intro j h1 h2
 rw [ws80_get, List.getElem_replicate]
 simp [part8, pw]
def sg0 (x : UInt64) : UInt64 := rotU x (-1) ^^^ rotU x (-8) ^^^ shrU x 7
def sg1 (x : UInt64) : UInt64 := rotU x (-19) ^^^ rotU x (-61) ^^^ shrU x 6
def wnext (l : List UInt64) (n : Nat) : UInt64 := l.getD n 0 + sg0 (l.getD (n + 1) 0) + l.getD (n + 9) 0 + sg1 (l.getD (n + 14) 0)
def wx (p : List UInt8) : Nat → List UInt64
 | 0 => (List.range 16).map fun j => pw (part8 p 128 j)
 | n + 1 => wx p n ++ [wnext (wx p n) n]
theorem wx_len (p : List UInt8) : ∀ n, (wx p n).length = 16 + n
 | 0 => by simp [wx]
 | n + 1 => by simp [wx, wx_len p n]; omega
theorem wx_start {p : List UInt8} (hp : p.length = 128) : ws80 p 128 = wx p 0 ++ List.replicate 64 0 := by
 apply List.ext_getElem (by rw [ws80_len]; simp [wx])
 intro j h1 h2
 rw [ws80_get]
 rcases Nat.lt_or_ge j 16 with h | h
 ·rw [List.getElem_append_left (by rw [wx_len]; omega)]
  simp [wx]
 ·rw [List.getElem_append_right (by rw [wx_len]; omega), List.getElem_replicate]
  unfold part8
  rw [List.drop_of_length_le (by rw [List.length_take]; omega)]
  rfl
theorem sched_next {p : List UInt8} {n : Nat} {q : List UInt64} (hn : n < 64) (hq : q = wx p n ++ List.replicate (64 - n) 0) (h1 : n + 16 - 16 < q.length) (h2 : n + 16 - 15 < q.length) (h3 : n + 16 - 7 < q.length) (h4 : n + 16 - 2 < q.length) :
  q.set (n + 16) (q[n + 16 - 16] + sg0 q[n + 16 - 15] + q[n + 16 - 7] + sg1 q[n + 16 - 2]) = wx p (n + 1) ++ List.replicate (64 - (n + 1)) 0 := by
 have hget : ∀ j (h : j < q.length), j < 16 + n → q[j] = (wx p n).getD j 0 := fun j h hj => by
  subst hq
  rw [List.getElem_append_left (by rw [wx_len]; exact hj), List.getD_eq_getElem?_getD, List.getElem?_eq_getElem (by rw [wx_len]; exact hj)]
  rfl
 rw [hget _ h1 (by omega), hget _ h2 (by omega), hget _ h3 (by omega), hget _ h4 (by omega)]
 rw [show n + 16 - 16 = n by omega, show n + 16 - 15 = n + 1 by omega, show n + 16 - 7 = n + 9 by omega, show n + 16 - 2 = n + 14 by omega]
 rw [hq, List.set_append_right _ _ (by rw [wx_len]; omega), wx_len, show n + 16 - (16 + n) = 0 by omega, show 64 - n = (64 - (n + 1)) + 1 by omega, List.replicate_succ, List.set_cons_zero]
 show _ = (wx p n ++ [wnext (wx p n) n]) ++ _
 rw [List.append_assoc]; rfl
set_option maxRecDepth 100000 in
set_option maxHeartbeats 1000000 in
theorem C_schedule {p : List UInt8} {W : List UInt64} (w : World) (hW : wx p 64 = W) (hp : p.length = 128) :
  CallsR Tryz.prog 143 [.agg (B8 p).toArray] w fun v w' => v = .agg (vU W).toArray ∧ Below w.heap.size w w' := by
 have hl80 : W.length = 80 := by rw [← hW, wx_len]
 refine callsR Tryz.func143 rfl rfl (by kernel_rfl) rfl ?_
 have hw := Below.refl w.heap.size w
 refine zs ?_
 refine wl_boxg _ rfl (by rfl) ?_
 rintro g1 w1 f1 b1 i1 i1_1
 have s1 := b1.size
 replace hw := hw.trans (b1.mono hw.size)
 refine wl_allocU Tryz.underlying178 Tryz.zeroValue178 (by rfl) ?_
 rintro g2 w2 f2 b2 i2 i2_1
 have s2 := b2.size
 replace hw := hw.trans (b2.mono hw.size)
 replace f1 := f1.u b2
 refine wl_nil (zs ?_)
 refine wl_allocU Tryz.underlying178 Tryz.zeroValue178 (by rfl) ?_
 rintro g3 w3 f3 b3 i3 i3_1
 have s3 := b3.size
 replace hw := hw.trans (b3.mono hw.size)
 replace f1 := f1.u b3
 replace f2 := f2.u b3
 refine wl_nil (rk_seq (zs ?_))
 refine wl_r (o_ldBa Tryz.isAgg161 Tryz.sizeOf161 rfl f1 hp) ?_
 refine zm rfl (wl_nil (rk_block ?_))
 refine rk_joinf (fun fb fr w5 => fr = [] ++ fb.drop 1 ∧ Blk w5 g3 178 (vU (wx p 0 ++ List.replicate 64 0)) ∧ Blk w5 g2 178 (vU (List.replicate 80 0)) ∧ w3.heap.size ≤ w5.heap.size ∧ Below w.heap.size w w5) ?_ (fun ks hj => ?_)
 rotate_left
 ·refine rk_loopf (fun fb m fr w5 => ∃ (i : Nat) (v : Int) (q : List UInt64), fr = [(12, .int .i64 v)] ++ fb ∧ v = i ∧ i ≤ 128 ∧ m = 128 - i ∧ q = ws80 p i ∧ Blk w5 g3 178 (vU q) ∧ Blk w5 g2 178 (vU (List.replicate 80 0)) ∧ w3.heap.size ≤ w5.heap.size ∧ Below w.heap.size w w5) (n := 128) (Fr.le_of (by kernel_rfl) (by kernel_rfl) (by repeat' constructor)) ⟨0, _, _, rfl, rfl, by omega, rfl, (ws80_zero p).symm, f3, f2, Nat.le_refl _, hw⟩ ?_
  clear hw f3 f2 f1
  rintro m fr w5 ⟨i, v, q, rfl, rfl, hi, rfl, hq, f3, f2, hsz, hw⟩
  have shw := hw.size
  have hql : q.length = 80 := by rw [hq, ws80_len]
  first | refine zf ?_ | refine zg ?_
  refine zs ?_
  refine zp (o_lt rfl rfl) ?_
  refine wl_nil (rk_seq ?_)
  refine rk_if rfl (fun h13 => ?_) (fun h13 => ?_)
  ·have hil : i < p.length := by omega
   refine rk_skip (rk_seq (rk_block (zs (zm rfl ?_))))
   refine zp (o_indexB (i) Tryz.underlying161 Tryz.sizeOf5 Tryz.isAgg5 rfl rfl rfl (by omega) hp) ?_
   refine za rfl (za rfl (wl_nil (rk_region (zm rfl ?_))))
   refine zp (o_quo rfl rfl (by omega) (by omega) (by omega)) ?_
   refine zm rfl ?_
   refine zp (o_quo rfl rfl (by omega) (by omega) (by omega)) ?_
   refine zp (o_iaddrP (i / 8) Tryz.underlying178 Tryz.sizeOf52 rfl rfl (by omega) (by omega)) ?_
   refine wl_r (o_ldU Tryz.isAgg52 rfl f3 (by omega)) ?_
   refine zp (o_shlU rfl rfl (by omega) (by omega)) ?_
   refine zm rfl ?_
   refine zp (o_conv8U (src := 5) (dst := 52) Tryz.underlying5 Tryz.underlying52 rfl) ?_
   refine zp (o_orU rfl rfl) ?_
   refine zp (o_iaddrP (i / 8) Tryz.underlying178 Tryz.sizeOf52 rfl rfl (by omega) (by omega)) ?_
   refine wl_stU Tryz.sizeOf52 rfl f3 rfl (by omega) ?_
   rintro w_1 f g e
   have s := g.size
   replace hw := hw.trans (below_of_grownBy g.g hw.size (by omega))
   replace f2 := f2.k g.g (ap_some (by omega))
   clear f3
   refine wl_nil ?_
   refine rk_blk ?_
   refine rk_region ?_
   refine zp (o_add rfl rfl (by omega) (by omega)) ?_
   refine zm rfl (wl_nil ?_)
   exact rk_againf (Fr.le_of (by kernel_rfl) (by kernel_rfl) (by repeat' constructor)) ⟨i + 1, (i : Int) + 1, _, rfl, by omega, by omega, rfl, by subst hq; exact ws80_next hil (by rw [ws80_len]; omega), f, f2, by omega, hw⟩ (by omega)
  ·refine rk_exit rfl ?_
   obtain rfl : i = 128 := by omega
   rw [hq, wx_start hp] at f3
   exact rk_tof hj (Fr.le_of (by kernel_rfl) (by kernel_rfl) (by repeat' constructor)) ⟨rfl, f3, f2, hsz, hw⟩
 clear hw f3 f2 f1
 rintro fr w5 ⟨rfl, f3, f2, hsz, hw⟩
 have shw := hw.size
 first | refine zf ?_ | refine zg ?_
 refine rk_seq (zs (za rfl (wl_nil (rk_block ?_))))
 refine rk_joinf (fun fb fr w6 => fr = [] ++ fb.drop 1 ∧ Blk w6 g3 178 (vU W) ∧ Blk w6 g2 178 (vU (List.replicate 80 0)) ∧ w5.heap.size ≤ w6.heap.size ∧ Below w.heap.size w w6) ?_ (fun ks hj => ?_)
 rotate_left
 ·refine rk_loopf (fun fb m fr w6 => ∃ (n : Nat) (v : Int) (q : List UInt64), fr = [(6, .int .i64 v)] ++ fb.drop 1 ∧ v = (n : Int) + 16 ∧ n ≤ 64 ∧ m = 64 - n ∧ q = wx p n ++ List.replicate (64 - n) 0 ∧ Blk w6 g3 178 (vU q) ∧ Blk w6 g2 178 (vU (List.replicate 80 0)) ∧ w5.heap.size ≤ w6.heap.size ∧ Below w.heap.size w w6) (n := 64) (Fr.le_of (by kernel_rfl) (by kernel_rfl) (by repeat' constructor)) ⟨0, _, _, rfl, rfl, by omega, rfl, rfl, f3, f2, Nat.le_refl _, hw⟩ ?_
  clear hw f3 f2
  rintro m fr w6 ⟨n, v, q, rfl, rfl, hn, rfl, hq, f3, f2, hsz2, hw⟩
  have shw := hw.size
  have hql : q.length = 80 := by rw [hq, List.length_append, wx_len, List.length_replicate]; omega
  have hget : ∀ j (h : j < q.length), j < 16 + n → q[j] = (wx p n).getD j 0 := fun j h hj => by
   subst hq
   rw [List.getElem_append_left (by rw [wx_len]; exact hj), List.getD_eq_getElem?_getD, List.getElem?_eq_getElem (by rw [wx_len]; exact hj)]
   rfl
  first | refine zf ?_ | refine zg ?_
  refine rk_seq (zs (zm rfl ?_))
  refine zp (o_lt rfl rfl) ?_
  refine wl_nil ?_
  refine rk_if rfl (fun h29 => ?_) (fun h29 => ?_)
  ·refine rk_skip ?_
   refine rk_seq (rk_block (rk_seq ?_))
   refine rk_draw (id := 10) (none) [0, 1, 2, 4, 0, 16, 32, 64, 15, 511] [0, 1, 3, 7, 0, 16, 48, 112, 15, 511] 0 0 [(.p, 0), (.p, 1), (.p, 2), (.r, 3), (.p, 4), (.p, 5), (.p, 6), (.r, 7), (.p, 8), (.p, 9)] (by kernel_rfl) (by kernel_rfl) (by kernel_rfl) (by kernel_rfl) (by kernel_rfl) ?_
   replace hw := hw.drew
   replace f2 := f2.d
   replace f3 := f3.d
   refine zm rfl ?_
   refine zp (o_sub rfl rfl (by omega) (by omega)) ?_
   refine zp (o_iaddrP (n + 16 - 15) Tryz.underlying178 Tryz.sizeOf52 rfl rfl (by omega) (by omega)) ?_
   refine wl_r (o_ldU Tryz.isAgg52 rfl f3 (by omega)) ?_
   refine zm rfl ?_
   refine zp (o_sub rfl rfl (by omega) (by omega)) ?_
   refine zp (o_iaddrP (n + 16 - 2) Tryz.underlying178 Tryz.sizeOf52 rfl rfl (by omega) (by omega)) ?_
   refine wl_r (o_ldU Tryz.isAgg52 rfl f3 (by omega)) ?_
   refine za rfl (za rfl ?_)
   refine wl_nild ?_
   refine zs (zm rfl ?_)
   refine wl_call rfl (C_rot _ (by omega) (by omega)) ?_
   rintro v41 w41 ⟨rfl, rfl⟩
   refine zm rfl ?_
   refine wl_call rfl (C_rot _ (by omega) (by omega)) ?_
   rintro v43 w43 ⟨rfl, rfl⟩
   refine zp (o_xorU rfl rfl) ?_
   refine zm rfl ?_
   refine zp (o_shrU rfl rfl (by omega) (by omega)) ?_
   refine zp (o_xorU rfl rfl) ?_
   refine za rfl (wl_nil (zs (zm rfl ?_)))
   refine wl_call rfl (C_rot _ (by omega) (by omega)) ?_
   rintro v49 w49 ⟨rfl, rfl⟩
   refine zm rfl ?_
   refine wl_call rfl (C_rot _ (by omega) (by omega)) ?_
   rintro v51 w51 ⟨rfl, rfl⟩
   refine zp (o_xorU rfl rfl) ?_
   refine zm rfl ?_
   refine zp (o_shrU rfl rfl (by omega) (by omega)) ?_
   refine zp (o_xorU rfl rfl) ?_
   refine za rfl (wl_nil ?_)
   refine rk_draw (id := 13) (none) [0, 0, 2, 4, 8, 0, 48, 0, 128, 256, 512, 1088, 0, 6144, 16383, 32767] [0, 0, 2, 6, 14, 0, 62, 0, 128, 384, 896, 2046, 0, 8190, 16383, 32767] 32768 0 [(.p, 0), (.p, 1), (.p, 2), (.p, 3), (.r, 4), (.p, 5), (.p, 6), (.p, 7), (.p, 8), (.p, 9), (.r, 10), (.p, 11), (.p, 12), (.p, 13), (.p, 14), (.l, 15)] (by kernel_rfl) (by kernel_rfl) (by kernel_rfl) (by kernel_rfl) (by kernel_rfl) ?_
   replace hw := hw.drew
   replace f3 := f3.d
   replace f2 := f2.d
   refine zm rfl (zm rfl ?_)
   refine zp (o_sub rfl rfl (by omega) (by omega)) ?_
   refine zp (o_iaddrP (n + 16 - 16) Tryz.underlying178 Tryz.sizeOf52 rfl rfl (by omega) (by omega)) ?_
   refine wl_r (o_ldU Tryz.isAgg52 rfl f3 (by omega)) ?_
   refine zm rfl ?_
   refine zp (o_addU rfl rfl) ?_
   refine zm rfl ?_
   refine zp (o_sub rfl rfl (by omega) (by omega)) ?_
   refine zp (o_iaddrP (n + 16 - 7) Tryz.underlying178 Tryz.sizeOf52 rfl rfl (by omega) (by omega)) ?_
   refine wl_r (o_ldU Tryz.isAgg52 rfl f3 (by omega)) ?_
   refine zp (o_addU rfl rfl) ?_
   refine zm rfl ?_
   refine zp (o_addU rfl rfl) ?_
   refine zp (o_iaddrP (n + 16) Tryz.underlying178 Tryz.sizeOf52 rfl rfl (by omega) (by omega)) ?_
   refine wl_stU Tryz.sizeOf52 rfl f3 rfl (by omega) ?_
   rintro w_1 f g e
   simp only [drew_size] at e
   have s := g.size
   simp only [drew_size] at s
   replace hw := hw.trans (below_of_grownBy g.g hw.size (by omega))
   replace f2 := f2.k g.g (ap_some (by omega))
   clear f3
   refine wl_nild ?_
   refine rk_blk ?_
   refine rk_region (zm rfl ?_)
   refine zp (o_add rfl rfl (by omega) (by omega)) ?_
   refine za rfl (wl_nil ?_)
   exact rk_againf (Fr.le_of (by kernel_rfl) (by kernel_rfl) (by repeat' constructor)) ⟨n + 1, ((n + 1 : Nat) : Int) + 16, _, rfl, rfl, by omega, rfl, sched_next (by omega) hq (by omega) (by omega) (by omega) (by omega), f, f2, by omega, hw⟩ (by omega)
  ·refine rk_exit rfl ?_
   obtain rfl : n = 64 := by omega
   rw [hq, hW, Nat.sub_self, List.replicate_zero, List.append_nil] at f3
   exact rk_tof hj (Fr.le_of (by kernel_rfl) (by kernel_rfl) (by repeat' constructor)) ⟨rfl, f3, f2, by omega, hw⟩
 clear hw f3 f2
 rintro fr w6 ⟨rfl, f3, f2, hsz2, hw⟩
 have shw := hw.size
 first | refine zf ?_ | refine zg ?_
 refine zs ?_
 refine wl_r (o_ldUa Tryz.isAgg178 Tryz.sizeOf178 rfl f3 hl80) ?_
 refine wl_stUa Tryz.sizeOf178 rfl f2 rfl hl80 (by rfl) ?_
 rintro w_1 f g e
 have s := g.size
 replace hw := hw.trans (below_of_grownBy g.g hw.size (by omega))
 replace f3 := f3.k g.g (ap_some (by omega))
 clear f2
 refine wl_nil ?_
 refine ret_cell rfl rfl Tryz.isAgg178 Tryz.sizeOf178 f (by rw [vU_length, hl80]) ?_
 exact ⟨rfl, hw⟩
end Go.Proofs.YtnnhenafhalobaaGreat
namespace Go.Proofs.YtnnhenafhalobaaGreat
set_option maxRecDepth 100000
open Go.RowKit
structure St where
 a : UInt64
 b : UInt64
 c : UInt64
 d : UInt64
 e : UInt64
 f : UInt64
 g : UInt64
 h : UInt64
def rnd (k w : UInt64) (s : St) : St :=
 let t1 := s.h + (rotU s.e (-14) ^^^ rotU s.e (-18) ^^^ rotU s.e (-41)) + (s.e &&& s.f ^^^ ~~~s.e &&& s.g) + k + w
 let t2 := (rotU s.a (-28) ^^^ rotU s.a (-34) ^^^ rotU s.a (-39)) + (s.a &&& s.b ^^^ s.a &&& s.c ^^^ s.b &&& s.c)
 ⟨t1 + t2, s.a, s.b, s.c, s.d + t1, s.e, s.f, s.g⟩
def rnds (ks ws : List UInt64) : Nat → St → St
 | 0, s => s
 | n + 1, s => rnd (ks.getD n 0) (ws.getD n 0) (rnds ks ws n s)
def St.list (s : St) : List UInt64 := [s.a, s.b, s.c, s.d, s.e, s.f, s.g, s.h]
def stOf (l : List UInt64) : St := ⟨l.getD 0 0, l.getD 1 0, l.getD 2 0, l.getD 3 0, l.getD 4 0, l.getD 5 0, l.getD 6 0, l.getD 7 0⟩
def pieceU (l : List UInt64) (p : List UInt8) : List UInt64 := List.zipWith (· + ·) l (rnds Kl (wx p 64) 80 (stOf l)).list
theorem pieceU_len {l : List UInt64} (p : List UInt8) (hl : l.length = 8) : (pieceU l p).length = 8 := by
 simp [pieceU, hl, St.list]
theorem stOf_eq {l : List UInt64} (hl : l.length = 8) : stOf l = ⟨l[0], l[1], l[2], l[3], l[4], l[5], l[6], l[7]⟩ := by
 match l, hl with
 | [a, b, c, d, e, f, g, h], _ => rfl
theorem rnds_next {ks ws : List UInt64} {n : Nat} {s0 s : St} (h : s = rnds ks ws n s0) (h1 : n < ks.length) (h2 : n < ws.length) : rnd ks[n] ws[n] s = rnds ks ws (n + 1) s0 := by
 show _ = rnd (ks.getD n 0) (ws.getD n 0) (rnds ks ws n s0)
 rw [h, List.getD_eq_getElem?_getD, List.getElem?_eq_getElem h1, List.getD_eq_getElem?_getD, List.getElem?_eq_getElem h2]; rfl
theorem zip_next {l x q : List UInt64} {i : Nat} (hq : q = (List.zipWith (· + ·) l x).take i ++ l.drop i) (hx : x.length = l.length) (h1 : i < q.length) (h2 : i < x.length) : q.set i (q[i] + x[i]) = (List.zipWith (· + ·) l x).take (i + 1) ++ l.drop (i + 1) := by
 have hz : (List.zipWith (· + ·) l x).length = l.length := by rw [List.length_zipWith]; omega
 have hil : i < l.length := by omega
 have ht : ((List.zipWith (· + ·) l x).take i).length = i := by rw [List.length_take]; omega
 have hqi : q[i] = l[i] := by
  subst hq
  rw [List.getElem_append_right (by omega)]
  simp only [ht, Nat.sub_self, List.getElem_drop, Nat.add_zero]
 rw [hqi, hq, List.set_append_right _ _ (by omega), ht, Nat.sub_self, List.drop_eq_getElem_cons hil, List.set_cons_zero, List.take_succ_eq_append_getElem (by omega), List.getElem_zipWith, List.append_assoc]
 rfl
set_option maxHeartbeats 1000000 in
theorem C_Piece {l : List UInt64} {p : List UInt8} {r : List UInt64} (w : World) (hr : pieceU l p = r) (hl : l.length = 8) (hp : p.length = 128) :
  CallsR Tryz.prog 121 [.agg (vU l).toArray, .agg (B8 p).toArray] w fun v w' => v = .agg (vU r).toArray ∧ Below w.heap.size w w' := by
 have hr8 : r.length = 8 := by rw [← hr]; exact pieceU_len p hl
 obtain ⟨W, hW⟩ : ∃ W, wx p 64 = W := ⟨_, rfl⟩
 have hW8 : W.length = 80 := by rw [← hW, wx_len]
 obtain ⟨kl, hkl⟩ : ∃ kl, Kl = kl := ⟨_, rfl⟩
 have hK8 : kl.length = 80 := by rw [← hkl]; rfl
 refine callsR Tryz.func121 rfl rfl (by kernel_rfl) rfl ?_
 have hw := Below.refl w.heap.size w
 obtain ⟨R, hR⟩ : ∃ R, rnds kl W 80 ⟨l[0], l[1], l[2], l[3], l[4], l[5], l[6], l[7]⟩ = R := ⟨_, rfl⟩
 have hrr : r = List.zipWith (· + ·) l R.list := by
  rw [← hr, ← hR, ← hkl, ← hW, ← stOf_eq hl]; rfl
 have hRl : R.list.length = l.length := by rw [hl]; rfl
 refine zs ?_
 refine wl_boxg _ rfl (by rfl) ?_
 rintro g2 w2 f2 b2 i2 i2_1
 have s2 := b2.size
 replace hw := hw.trans (b2.mono hw.size)
 refine wl_boxg _ rfl (by rfl) ?_
 rintro g3 w3 f3 b3 i3 i3_1
 have s3 := b3.size
 replace hw := hw.trans (b3.mono hw.size)
 replace f2 := f2.u b3
 refine wl_allocU Tryz.underlying141 Tryz.zeroValue141 (by rfl) ?_
 rintro g4 w4 f4 b4 i4 i4_1
 have s4 := b4.size
 replace hw := hw.trans (b4.mono hw.size)
 replace f2 := f2.u b4
 replace f3 := f3.u b4
 refine wl_nil (zs ?_)
 refine wl_r (o_ldBa Tryz.isAgg161 Tryz.sizeOf161 rfl f3 hp) ?_
 refine wl_call rfl (C_schedule _ hW hp) ?_
 rintro v23 w23 ⟨rfl, b23⟩
 have s23 := b23.size
 replace hw := hw.trans (b23.mono hw.size)
 replace f3 := f3.u b23
 replace f2 := f2.u b23
 replace f4 := f4.u b23
 refine wl_call rfl (C_K _) ?_
 rintro v24 w24 ⟨rfl, b24⟩
 have s24 := b24.size
 replace hw := hw.trans (b24.mono hw.size)
 replace f4 := f4.u b24
 replace f2 := f2.u b24
 replace f3 := f3.u b24
 refine wl_allocU Tryz.underlying178 Tryz.zeroValue178 (by rfl) ?_
 rintro g5 w5 f5 b5 i5 i5_1
 have s5 := b5.size
 replace hw := hw.trans (b5.mono hw.size)
 replace f3 := f3.u b5
 replace f2 := f2.u b5
 replace f4 := f4.u b5
 refine wl_allocU Tryz.underlying178 Tryz.zeroValue178 (by rfl) ?_
 rintro g6 w6 f6 b6 i6 i6_1
 have s6 := b6.size
 replace hw := hw.trans (b6.mono hw.size)
 replace f4 := f4.u b6
 replace f2 := f2.u b6
 replace f3 := f3.u b6
 replace f5 := f5.u b6
 refine wl_stUa Tryz.sizeOf178 rfl f5 rfl hW8 (by rfl) ?_
 rintro w_1 f g e
 have s := g.size
 replace hw := hw.trans (below_of_grownBy g.g hw.size (by omega))
 replace f3 := f3.k g.g (ap_some (by omega))
 replace f2 := f2.k g.g (ap_some (by omega))
 replace f4 := f4.k g.g (ap_some (by omega))
 replace f6 := f6.k g.g (ap_some (by omega))
 clear f5
 refine wl_stUa Tryz.sizeOf178 rfl f6 rfl (by rfl) (by rfl) ?_
 rintro w_2 f_1 g_1 e_1
 have s_1 := g_1.size
 replace hw := hw.trans (below_of_grownBy g_1.g hw.size (by omega))
 replace f4 := f4.k g_1.g (ap_some (by omega))
 replace f2 := f2.k g_1.g (ap_some (by omega))
 replace f3 := f3.k g_1.g (ap_some (by omega))
 replace f := f.k g_1.g (ap_some (by omega))
 clear f6
 refine wl_nil (rk_seq ?_)
 refine rk_draw (id := 2) (none) [0, 1, 0, 4, 0, 16, 0, 64, 3, 271, 831, 2047] [0, 1, 0, 4, 0, 16, 0, 64, 3, 271, 831, 2047] 0 0 [(.p, 0), (.r, 1), (.p, 2), (.r, 3), (.p, 4), (.r, 5), (.p, 6), (.r, 7), (.p, 8), (.p, 9), (.p, 10), (.p, 11)] (by kernel_rfl) (by kernel_rfl) (by kernel_rfl) (by kernel_rfl) (by kernel_rfl) ?_
 replace hw := hw.drew
 replace f := f.d
 replace f3 := f3.d
 replace f2 := f2.d
 replace f4 := f4.d
 replace f_1 := f_1.d
 refine zp (o_iaddrP (0) Tryz.underlying141 Tryz.sizeOf52 rfl rfl (by omega) (by omega)) ?_
 refine wl_r (o_ldU Tryz.isAgg52 rfl f2 (by omega)) ?_
 refine zp (o_iaddrP (1) Tryz.underlying141 Tryz.sizeOf52 rfl rfl (by omega) (by omega)) ?_
 refine wl_r (o_ldU Tryz.isAgg52 rfl f2 (by omega)) ?_
 refine zp (o_iaddrP (2) Tryz.underlying141 Tryz.sizeOf52 rfl rfl (by omega) (by omega)) ?_
 refine wl_r (o_ldU Tryz.isAgg52 rfl f2 (by omega)) ?_
 refine zp (o_iaddrP (3) Tryz.underlying141 Tryz.sizeOf52 rfl rfl (by omega) (by omega)) ?_
 refine wl_r (o_ldU Tryz.isAgg52 rfl f2 (by omega)) ?_
 refine za rfl (za rfl (za rfl (za rfl ?_)))
 refine wl_nild ?_
 refine rk_seq ?_
 refine rk_draw (id := 3) (none) [0, 1, 0, 4, 0, 16, 0, 64, 3, 271, 831, 2047] [0, 1, 0, 4, 0, 16, 0, 64, 3, 271, 831, 2047] 0 0 [(.p, 0), (.r, 1), (.p, 2), (.r, 3), (.p, 4), (.r, 5), (.p, 6), (.r, 7), (.p, 8), (.p, 9), (.p, 10), (.p, 11)] (by kernel_rfl) (by kernel_rfl) (by kernel_rfl) (by kernel_rfl) (by kernel_rfl) ?_
 replace hw := hw.drew
 replace f_1 := f_1.d
 replace f4 := f4.d
 replace f2 := f2.d
 replace f3 := f3.d
 replace f := f.d
 refine zp (o_iaddrP (4) Tryz.underlying141 Tryz.sizeOf52 rfl rfl (by omega) (by omega)) ?_
 refine wl_r (o_ldU Tryz.isAgg52 rfl f2 (by omega)) ?_
 refine zp (o_iaddrP (5) Tryz.underlying141 Tryz.sizeOf52 rfl rfl (by omega) (by omega)) ?_
 refine wl_r (o_ldU Tryz.isAgg52 rfl f2 (by omega)) ?_
 refine zp (o_iaddrP (6) Tryz.underlying141 Tryz.sizeOf52 rfl rfl (by omega) (by omega)) ?_
 refine wl_r (o_ldU Tryz.isAgg52 rfl f2 (by omega)) ?_
 refine zp (o_iaddrP (7) Tryz.underlying141 Tryz.sizeOf52 rfl rfl (by omega) (by omega)) ?_
 refine wl_r (o_ldU Tryz.isAgg52 rfl f2 (by omega)) ?_
 refine za rfl (za rfl (za rfl (za rfl ?_)))
 refine wl_nild ?_
 refine rk_seq (zs (zm rfl (wl_nil (rk_block ?_))))
 rw [hkl] at f_1
 refine rk_joinf (fun fb fr w5 => fr = [(7, .int .u64 (R.a.toNat : Int)), (8, .int .u64 (R.b.toNat : Int)), (9, .int .u64 (R.c.toNat : Int)), (10, .int .u64 (R.d.toNat : Int)), (11, .int .u64 (R.e.toNat : Int)), (12, .int .u64 (R.f.toNat : Int)), (13, .int .u64 (R.g.toNat : Int)), (14, .int .u64 (R.h.toNat : Int))] ++ fb.drop 22 ∧ Below w_2.drew.drew.heap.size w_2.drew.drew w5) ?_ (fun ks hj => ?_)
 rotate_left
 ·refine rk_loopf (fun fb m fr w5 => ∃ (i : Nat) (v : Int) (s : St), fr = [(41, .int .i64 v), (7, .int .u64 (s.a.toNat : Int)), (8, .int .u64 (s.b.toNat : Int)), (9, .int .u64 (s.c.toNat : Int)), (10, .int .u64 (s.d.toNat : Int)), (11, .int .u64 (s.e.toNat : Int)), (12, .int .u64 (s.f.toNat : Int)), (13, .int .u64 (s.g.toNat : Int)), (14, .int .u64 (s.h.toNat : Int))] ++ fb ∧ v = i ∧ i ≤ 80 ∧ m = 80 - i ∧ s = rnds kl W i ⟨l[0], l[1], l[2], l[3], l[4], l[5], l[6], l[7]⟩ ∧ Below w_2.drew.drew.heap.size w_2.drew.drew w5) (n := 80) (Fr.le_of (by kernel_rfl) (by kernel_rfl) (by repeat' constructor)) ⟨0, _, ⟨l[0], l[1], l[2], l[3], l[4], l[5], l[6], l[7]⟩, rfl, rfl, by omega, rfl, rfl, Below.refl _ _⟩ ?_
  rintro m fr w5 ⟨i, v, s, rfl, rfl, hi, rfl, hs, hw1⟩
  first | refine zf ?_ | refine zg ?_
  have shw1 := hw1.size
  simp only [drew_size] at shw1
  replace hw := hw.trans (hw1.mono hw.size)
  replace f := f.u hw1
  replace f3 := f3.u hw1
  replace f2 := f2.u hw1
  replace f4 := f4.u hw1
  replace f_1 := f_1.u hw1
  refine zs ?_
  refine zp (o_lt rfl rfl) ?_
  refine wl_nil (rk_seq ?_)
  refine rk_if rfl (fun h42 => ?_) (fun h42 => ?_)
  ·refine rk_skip ?_
   refine rk_seq (rk_block (zs (zm rfl (za rfl (wl_nil (zs (zm rfl ?_)))))))
   refine wl_call rfl (C_rot _ (by omega) (by omega)) ?_
   rintro v45 w45 ⟨rfl, rfl⟩
   refine zm rfl ?_
   refine wl_call rfl (C_rot _ (by omega) (by omega)) ?_
   rintro v47 w47 ⟨rfl, rfl⟩
   refine zp (o_xorU rfl rfl) ?_
   refine zm rfl ?_
   refine wl_call rfl (C_rot _ (by omega) (by omega)) ?_
   rintro v50 w50 ⟨rfl, rfl⟩
   refine zp (o_xorU rfl rfl) ?_
   refine za rfl (wl_nil (rk_seq ?_))
   refine rk_draw (id := 8) (none) [0, 0, 3, 0, 0, 24, 0, 64, 0, 384, 544, 1028, 0, 4096, 8192, 18432, 0, 65536, 131072, 294912, 1048575] [0, 0, 3, 0, 0, 24, 0, 64, 0, 448, 1016, 2047, 0, 4096, 12288, 32767, 0, 65536, 196608, 524287, 1048575] 0 0 [(.p, 0), (.p, 1), (.p, 2), (.p, 3), (.p, 4), (.p, 5), (.p, 6), (.p, 7), (.p, 8), (.p, 9), (.p, 10), (.p, 11), (.p, 12), (.p, 13), (.r, 14), (.p, 15), (.p, 16), (.p, 17), (.r, 18), (.p, 19), (.p, 20)] (by kernel_rfl) (by kernel_rfl) (by kernel_rfl) (by kernel_rfl) (by kernel_rfl) ?_
   replace hw1 := hw1.drew
   replace hw := hw.drew
   replace f_1 := f_1.d
   replace f4 := f4.d
   replace f2 := f2.d
   replace f3 := f3.d
   replace f := f.d
   refine zm rfl (zm rfl ?_)
   refine zp (o_addU rfl rfl) ?_
   refine zm rfl (zm rfl ?_)
   refine zp (o_andU rfl rfl) ?_
   refine zm rfl ?_
   refine zp (o_notU rfl) ?_
   refine zm rfl ?_
   refine zp (o_andU rfl rfl) ?_
   refine zp (o_xorU rfl rfl) ?_
   refine zp (o_addU rfl rfl) ?_
   refine zm rfl ?_
   refine zp (o_iaddrP (i) Tryz.underlying178 Tryz.sizeOf52 rfl rfl rfl (by omega)) ?_
   refine wl_r (o_ldU Tryz.isAgg52 rfl f_1 (by omega)) ?_
   refine zp (o_addU rfl rfl) ?_
   refine zm rfl ?_
   refine zp (o_iaddrP (i) Tryz.underlying178 Tryz.sizeOf52 rfl rfl rfl (by omega)) ?_
   refine wl_r (o_ldU Tryz.isAgg52 rfl f (by omega)) ?_
   refine zp (o_addU rfl rfl) ?_
   refine za rfl ?_
   refine wl_nild ?_
   refine zs (zm rfl ?_)
   refine wl_call rfl (C_rot _ (by omega) (by omega)) ?_
   rintro v73 w73 ⟨rfl, rfl⟩
   refine zm rfl ?_
   refine wl_call rfl (C_rot _ (by omega) (by omega)) ?_
   rintro v75 w75 ⟨rfl, rfl⟩
   refine zp (o_xorU rfl rfl) ?_
   refine zm rfl ?_
   refine wl_call rfl (C_rot _ (by omega) (by omega)) ?_
   rintro v78 w78 ⟨rfl, rfl⟩
   refine zp (o_xorU rfl rfl) ?_
   refine za rfl (wl_nil (zs (zm rfl (zm rfl (zm rfl ?_)))))
   refine zp (o_andU rfl rfl) ?_
   refine zm rfl (zm rfl ?_)
   refine zp (o_andU rfl rfl) ?_
   refine zp (o_xorU rfl rfl) ?_
   refine zm rfl (zm rfl ?_)
   refine zp (o_andU rfl rfl) ?_
   refine zp (o_xorU rfl rfl) ?_
   refine zp (o_addU rfl rfl) ?_
   refine za rfl (wl_nil (rk_region (zm rfl (zm rfl ?_))))
   refine zp (o_addU rfl rfl) ?_
   refine zm rfl (zm rfl (zm rfl (zm rfl (zm rfl ?_))))
   refine zp (o_addU rfl rfl) ?_
   refine zm rfl (zm rfl (zm rfl (za rfl (za rfl (za rfl (za rfl (za rfl (za rfl (za rfl (za rfl (wl_nil ?_)))))))))))
   refine rk_blk ?_
   refine rk_region ?_
   refine zp (o_add rfl rfl (by omega) (by omega)) ?_
   refine zm rfl (wl_nil ?_)
   exact rk_againf (Fr.le_of (by kernel_rfl) (by kernel_rfl) (by repeat' constructor)) ⟨i + 1, (i : Int) + 1, rnd kl[i] W[i] s, rfl, by omega, by omega, rfl, rnds_next hs _ _, hw1⟩ (by omega)
  ·refine rk_exit rfl ?_
   obtain rfl : i = 80 := by omega
   rw [hR] at hs
   subst hs
   exact rk_tof hj (Fr.le_of (by kernel_rfl) (by kernel_rfl) (by repeat' constructor)) ⟨rfl, hw1⟩
 rintro fr w5 ⟨rfl, hw1⟩
 first | refine zf ?_ | refine zg ?_
 have shw1 := hw1.size
 simp only [drew_size] at shw1
 replace hw := hw.trans (hw1.mono hw.size)
 replace f := f.u hw1
 replace f3 := f3.u hw1
 replace f2 := f2.u hw1
 replace f4 := f4.u hw1
 replace f_1 := f_1.u hw1
 clear hR
 refine rk_seq (zs (zm rfl (zm rfl (zm rfl (zm rfl (zm rfl (zm rfl (zm rfl (zm rfl ?_)))))))))
 refine zp (o_buildU [R.a, R.b, R.c, R.d, R.e, R.f, R.g, R.h] Tryz.underlying141 (by rfl) (by rfl) rfl rfl (by rfl) (by rfl) (fun _ => by kernel_rfl)) ?_
 refine zm rfl (wl_nil (rk_block ?_))
 obtain ⟨x, hx⟩ : ∃ x, R.list = x := ⟨_, rfl⟩
 rw [hx] at hrr hRl
 rw [show [R.a, R.b, R.c, R.d, R.e, R.f, R.g, R.h] = x from hx]
 refine rk_joinf (fun fb fr w6 => fr = [] ++ fb.drop 1 ∧ Blk w6 g2 141 (vU r) ∧ Blk w6 g4 141 (vU (List.replicate 8 0)) ∧ w5.heap.size ≤ w6.heap.size ∧ Below w.heap.size w w6) ?_ (fun ks hj => ?_)
 rotate_left
 ·refine rk_loopf (fun fb m fr w6 => ∃ (i : Nat) (v : Int) (q : List UInt64), fr = [(115, .int .i64 v)] ++ fb ∧ v = i ∧ i ≤ 8 ∧ m = 8 - i ∧ q = (List.zipWith (· + ·) l x).take i ++ l.drop i ∧ Blk w6 g2 141 (vU q) ∧ Blk w6 g4 141 (vU (List.replicate 8 0)) ∧ w5.heap.size ≤ w6.heap.size ∧ Below w.heap.size w w6) (n := 8) (Fr.le_of (by kernel_rfl) (by kernel_rfl) (by repeat' constructor)) ⟨0, _, _, rfl, rfl, by omega, rfl, rfl, f2, f4, Nat.le_refl _, hw⟩ ?_
  clear hw f2 f4 f_1 f f3
  rintro m fr w6 ⟨i, v, q, rfl, rfl, hi, rfl, hq, f2, f4, hsz, hw⟩
  have shw := hw.size
  have hql : q.length = 8 := by
   rw [hq, List.length_append, List.length_take, List.length_zipWith, List.length_drop]; omega
  first | refine zf ?_ | refine zg ?_
  refine zs ?_
  refine zp (o_lt rfl rfl) ?_
  refine wl_nil (rk_seq ?_)
  refine rk_if rfl (fun h116 => ?_) (fun h116 => ?_)
  ·have hix : i < x.length := by omega
   refine rk_skip (rk_seq (rk_block (zs (zm rfl ?_))))
   refine zp (o_indexU (i) Tryz.underlying141 Tryz.sizeOf52 Tryz.isAgg52 rfl rfl rfl (by omega) (by omega)) ?_
   refine za rfl (za rfl (wl_nil (rk_region (zm rfl ?_))))
   refine zp (o_iaddrP (i) Tryz.underlying141 Tryz.sizeOf52 rfl rfl rfl (by omega)) ?_
   refine wl_r (o_ldU Tryz.isAgg52 rfl f2 (by omega)) ?_
   refine zm rfl ?_
   refine zp (o_addU rfl rfl) ?_
   refine zp (o_iaddrP (i) Tryz.underlying141 Tryz.sizeOf52 rfl rfl rfl (by omega)) ?_
   refine wl_stU Tryz.sizeOf52 rfl f2 rfl (by omega) ?_
   rintro w_3 f g_2 e_2
   have s_2 := g_2.size
   replace hw := hw.trans (below_of_grownBy g_2.g hw.size (by omega))
   replace f4 := f4.k g_2.g (ap_some (by omega))
   clear f2
   refine wl_nil ?_
   refine rk_blk ?_
   refine rk_region ?_
   refine zp (o_add rfl rfl (by omega) (by omega)) ?_
   refine zm rfl (wl_nil ?_)
   exact rk_againf (Fr.le_of (by kernel_rfl) (by kernel_rfl) (by repeat' constructor)) ⟨i + 1, (i : Int) + 1, _, rfl, by omega, by omega, rfl, zip_next hq hRl (by omega) hix, f, f4, by omega, hw⟩ (by omega)
  ·refine rk_exit rfl ?_
   obtain rfl : i = 8 := by omega
   rw [List.take_of_length_le (by rw [List.length_zipWith]; omega), List.drop_of_length_le (by omega), List.append_nil, ← hrr] at hq
   subst hq
   exact rk_tof hj (Fr.le_of (by kernel_rfl) (by kernel_rfl) (by repeat' constructor)) ⟨rfl, f2, f4, hsz, hw⟩
 clear hw f2 f4 f_1 f f3
 rintro fr w6 ⟨rfl, f2, f4, hsz, hw⟩
 have shw := hw.size
 first | refine zf ?_ | refine zg ?_
 refine zs ?_
 refine wl_r (o_ldUa Tryz.isAgg141 Tryz.sizeOf141 rfl f2 hr8) ?_
 refine wl_stUa Tryz.sizeOf141 rfl f4 rfl hr8 (by rfl) ?_
 rintro w_3 f g_2 e_2
 have s_2 := g_2.size
 replace hw := hw.trans (below_of_grownBy g_2.g hw.size (by omega))
 replace f2 := f2.k g_2.g (ap_some (by omega))
 clear f4
 refine wl_nil ?_
 refine ret_cell rfl rfl Tryz.isAgg141 Tryz.sizeOf141 f (by rw [vU_length, hr8]) ?_
 exact ⟨rfl, hw⟩

def byteAt (l : List UInt64) (i : Nat) : UInt8 := (shrU (l.getD (i / 8) 0) (56 - 8 * (i % 8))).toUInt8
def bytesU (l : List UInt64) : List UInt8 := (List.range 64).map (byteAt l)
theorem bytesU_len (l : List UInt64) : (bytesU l).length = 64 := by simp [bytesU]
theorem bytes_next {l : List UInt64} {q : List UInt8} {i : Nat} (hi : i < 64) (hq : q = (bytesU l).take i ++ List.replicate (64 - i) 0) (h1 : i / 8 < l.length) : q.set i (shrU l[i / 8] (56 - 8 * (i % 8))).toUInt8 = (bytesU l).take (i + 1) ++ List.replicate (64 - (i + 1)) 0 := by
 have ht : ((bytesU l).take i).length = i := by rw [List.length_take, bytesU_len]; omega
 rw [hq, List.set_append_right _ _ (by omega), ht, Nat.sub_self, show 64 - i = (64 - (i + 1)) + 1 by omega, List.replicate_succ, List.set_cons_zero, List.take_succ_eq_append_getElem (by rw [bytesU_len]; omega), List.append_assoc]
 congr 2
 simp [bytesU, byteAt, h1]
theorem C_sum {l : List UInt64} {r : List UInt8} (w : World) (hr : bytesU l = r) (hl : l.length = 8) :
  CallsR Tryz.prog 101 [.agg (vU l).toArray] w fun v w' => v = .agg (B8 r).toArray ∧ Below w.heap.size w w' := by
 have hr64 : r.length = 64 := by rw [← hr, bytesU_len]
 refine callsR Tryz.func101 rfl rfl (by kernel_rfl) rfl ?_
 have hw := Below.refl w.heap.size w
 refine zs ?_
 refine wl_boxg _ rfl (by rfl) ?_
 rintro g1 w1 f1 b1 i1 i1_1
 have s1 := b1.size
 replace hw := hw.trans (b1.mono hw.size)
 refine wl_allocB Tryz.underlying139 Tryz.zeroValue139 (by rfl) ?_
 rintro g2 w2 f2 b2 i2 i2_1
 have s2 := b2.size
 replace hw := hw.trans (b2.mono hw.size)
 replace f1 := f1.u b2
 refine wl_nil (zs ?_)
 refine wl_allocB Tryz.underlying139 Tryz.zeroValue139 (by rfl) ?_
 rintro g3 w3 f3 b3 i3 i3_1
 have s3 := b3.size
 replace hw := hw.trans (b3.mono hw.size)
 replace f1 := f1.u b3
 replace f2 := f2.u b3
 refine wl_nil (rk_seq (zs (zm rfl (wl_nil (rk_block ?_)))))
 refine rk_joinf (fun fb fr w6 => fr = [] ++ fb.drop 1 ∧ Blk w6 g3 139 (B8 r) ∧ Blk w6 g2 139 (B8 (List.replicate 64 0)) ∧ w3.heap.size ≤ w6.heap.size ∧ Below w.heap.size w w6) ?_ (fun ks hj => ?_)
 rotate_left
 ·refine rk_loopf (fun fb m fr w6 => ∃ (i : Nat) (v : Int) (q : List UInt8), fr = [(5, .int .i64 v)] ++ fb ∧ v = i ∧ i ≤ 64 ∧ m = 64 - i ∧ q = (bytesU l).take i ++ List.replicate (64 - i) 0 ∧ Blk w6 g3 139 (B8 q) ∧ Blk w6 g1 141 (vU l) ∧ Blk w6 g2 139 (B8 (List.replicate 64 0)) ∧ w3.heap.size ≤ w6.heap.size ∧ Below w.heap.size w w6) (n := 64) (Fr.le_of (by kernel_rfl) (by kernel_rfl) (by repeat' constructor)) ⟨0, _, _, rfl, rfl, by omega, rfl, rfl, f3, f1, f2, Nat.le_refl _, hw⟩ ?_
  clear hw f2 f1 f3
  rintro m fr w6 ⟨i, v, q, rfl, rfl, hi, rfl, hq, f3, f1, f2, hsz, hw⟩
  have shw := hw.size
  have hql : q.length = 64 := by
   rw [hq, List.length_append, List.length_take, bytesU_len, List.length_replicate]; omega
  first | refine zf ?_ | refine zg ?_
  refine zs ?_
  refine zp (o_lt rfl rfl) ?_
  refine wl_nil (rk_seq ?_)
  refine rk_if rfl (fun h6 => ?_) (fun h6 => ?_)
  ·refine rk_skip ?_
   refine rk_seq (rk_block (zs (zm rfl (za rfl (wl_nil (rk_region (zm rfl (zm rfl ?_))))))))
   refine zp (o_quo rfl rfl (by omega) (by omega) (by omega)) ?_
   refine zp (o_iaddrP (i / 8) Tryz.underlying141 Tryz.sizeOf52 rfl rfl (by omega) (by omega)) ?_
   refine wl_r (o_ldU Tryz.isAgg52 rfl f1 (by omega)) ?_
   refine zm rfl ?_
   refine zp (o_rem rfl rfl (by omega) (by omega)) ?_
   refine zp (o_mul rfl rfl (by omega) (by omega)) ?_
   refine zp (o_sub rfl rfl (by omega) (by omega)) ?_
   refine zp (o_shrU rfl rfl (by omega) (by omega)) ?_
   refine zp (o_convU8 (src := 52) (dst := 5) Tryz.underlying52 Tryz.underlying5 rfl) ?_
   refine zp (o_iaddrP (i) Tryz.underlying139 Tryz.sizeOf5 rfl rfl rfl (by omega)) ?_
   refine wl_stB Tryz.sizeOf5 rfl f3 rfl (by omega) ?_
   rintro w_1 f g e
   have s := g.size
   replace hw := hw.trans (below_of_grownBy g.g hw.size (by omega))
   replace f2 := f2.k g.g (ap_some (by omega))
   replace f1 := f1.k g.g (ap_some (by omega))
   clear f3
   refine wl_nil ?_
   refine rk_blk ?_
   refine rk_region ?_
   refine zp (o_add rfl rfl (by omega) (by omega)) ?_
   refine zm rfl (wl_nil ?_)
   rw [show (56 - 8 * ((i : Int) % 8)).toNat = 56 - 8 * (i % 8) by omega] at f
   exact rk_againf (Fr.le_of (by kernel_rfl) (by kernel_rfl) (by repeat' constructor)) ⟨i + 1, (i : Int) + 1, _, rfl, by omega, by omega, rfl, bytes_next (by omega) hq (by omega), f, f1, f2, by omega, hw⟩ (by omega)
  ·refine rk_exit rfl ?_
   obtain rfl : i = 64 := by omega
   rw [List.take_of_length_le (by rw [bytesU_len]; omega), Nat.sub_self, List.replicate_zero, List.append_nil, hr] at hq
   subst hq
   exact rk_tof hj (Fr.le_of (by kernel_rfl) (by kernel_rfl) (by repeat' constructor)) ⟨rfl, f3, f2, hsz, hw⟩
 clear hw f2 f1 f3
 rintro fr w6 ⟨rfl, f3, f2, hsz, hw⟩
 have shw := hw.size
 first | refine zf ?_ | refine zg ?_
 refine zs ?_
 refine wl_r (o_ldBa Tryz.isAgg139 Tryz.sizeOf139 rfl f3 hr64) ?_
 refine wl_stBa Tryz.sizeOf139 rfl f2 rfl hr64 (by rfl) ?_
 rintro w_1 f g e
 have s := g.size
 replace hw := hw.trans (below_of_grownBy g.g hw.size (by omega))
 replace f3 := f3.k g.g (ap_some (by omega))
 clear f2
 refine wl_nil ?_
 refine ret_cell rfl rfl Tryz.isAgg139 Tryz.sizeOf139 f (by rw [B8_length, hr64]) ?_
 exact ⟨rfl, hw⟩
end Go.Proofs.YtnnhenafhalobaaGreat
namespace Go.Proofs.YtnnhenafhalobaaGreat
set_option maxRecDepth 100000
theorem Tryz.u8 : U8 Tryz.prog 35 := ⟨Tryz.underlying35, by kernel_rfl, Tryz.underlying5⟩
end Go.Proofs.YtnnhenafhalobaaGreat
namespace Go.Proofs.YtnnhenafhalobaaGreat
set_option maxRecDepth 100000
open Go.RowKit
theorem own_max {w : World} {lo hi c : Nat} {A : Option Addr} {l : List UInt8} (h : OwnH w lo hi A c l) : c ≤ maxLen := by
 have h1 : w.ownsRow lo 5 1 (.slice A l.length c) l.length (B8 l) := h.o
 rcases h1.2 with ⟨hv, _⟩ | ⟨g, cap, cur, hv, _, _, _, hm, _⟩
 ·injection hv with _ _ e; subst e; simp only [maxLen]; omega
 ·injection hv with _ _ e
  subst e; exact hm
section
variable {fn : Func} {F : Ending → World → Prop} {N : Nat} {ks : List K} {ops : Array Oper} {tg : Tags} {l : List Oper} {fr : Fr} {w : World} {ty : TypeId} {pos : String} {aft : Array Edge} {gd : Option (Nat × Bool)} {d : Nat} {x y : Operand}
theorem wl_mkBz {k1 k2 : IntKind} {C E : Int} {Z : List UInt8} (n : Nat) (hx : fr.ev x = some (.int k1 E)) (hy : fr.ev y = some (.int k2 C)) (hE : E = (n : Int)) (hC : C = (n : Int)) (hn : n ≤ 4000000000) (hZ : List.replicate n 0 = Z)
  (hk : ∀ A w', OwnH w' w.heap.size w'.heap.size A n Z → Below w.heap.size w w' → WL Tryz.prog fn F N ks ops tg.tail l ((d, .slice A n n) :: fr) w')
  (ht : tg.loud = true := by rfl) (hg : onG ops fr gd = true := by rfl) (hd : Nat.blt d N = true := by rfl) : WL Tryz.prog fn F N ks ops tg (⟨some d, .makeSlice 35 x y, ty, pos, aft, gd⟩ :: l) fr w := by
 subst hC; subst hE; subst hZ
 obtain ⟨i, hi, hz, hs, hb⟩ := info_parts Tryz.u8.hi
 obtain ⟨w', hrun, r1, r2⟩ := run_make_full (P := Tryz.prog) w w.heap.size 35 5 i _ 1 Tryz.u8.ht hi hz hs k1 k2 n (by rw [hb]; omega) (by simp only [maxLen]; omega) (Nat.le_refl _)
 have hbl : Below w.heap.size w w' := (Below.refl _ _).grown r2 (Nat.le_refl _) (by simp)
 have e : (madeCells (Value.int .u8 0).cells (n * 1)).toList = B8 (List.replicate n 0) := by
  rw [Nat.mul_one]; exact (toList_madeCells_one _ _).trans (by simp [B8])
 rw [e] at r1
 have ho : Own w' w.heap.size (some ⟨w.heap.size, 0, none⟩) n (List.replicate n 0) := by
  unfold Own; rw [List.length_replicate]; exact r1
 exact wl_v (fun a ha o ho _ => by simp [execOp, ho, ha.ev hx, ha.ev hy, hrun]) (hk _ w' ho.h_ hbl) ht hg hd (.inr (grown_of_below hbl _))
theorem wl_mkB {k1 k2 : IntKind} {C : Int} (n : Nat) (hx : fr.ev x = some (.int k1 0)) (hy : fr.ev y = some (.int k2 C)) (hC : C = (n : Int)) (hn : n ≤ 281474976710656)
  (hk : ∀ A w', OwnH w' w.heap.size w'.heap.size A n [] → Below w.heap.size w w' → WL Tryz.prog fn F N ks ops tg.tail l ((d, .slice A 0 n) :: fr) w')
  (ht : tg.loud = true := by rfl) (hg : onG ops fr gd = true := by rfl) (hd : Nat.blt d N = true := by rfl) : WL Tryz.prog fn F N ks ops tg (⟨some d, .makeSlice 35 x y, ty, pos, aft, gd⟩ :: l) fr w :=
 wl_make0 Tryz.u8 hx hy hC hn (fun w' h1 h2 _ => hk _ w' h1.h_ h2) ht hg hd
end
end Go.Proofs.YtnnhenafhalobaaGreat
namespace Go.Proofs.YtnnhenafhalobaaGreat
set_option maxRecDepth 100000
open Go.RowKit
def RKy (w : World) (A : Option Addr) (L : List By) : Prop := RSl gBytes w A L
section
variable {w w' : World} {A : Option Addr} {K : List By}
theorem RKy.u (h : RKy w A K) (hb : Below w.heap.size w w') : RKy w' A K := RSl.u h hb
theorem RKy.some_ (h : RKy w A K) (hl : 0 < K.length) : A = some (A.getD ⟨0, 0, none⟩) := RSl.some_ h (by decide) hl
theorem RKy.elem (h : RKy w A K) {i : Nat} (hi : i < K.length) : ∃ A1 c1, CellsAt w A (i * 1) [.slice A1 K[i].length c1] ∧ Rd w A1 K[i] ∧ K[i].length ≤ c1 := by
 obtain ⟨cs, h1, A1, c1, rfl, h2, h3, _⟩ := RSl.elem h (by decide) hi
 exact ⟨A1, c1, h1, h2, h3⟩
end
section
variable {fn : Func} {F : Ending → World → Prop} {N : Nat} {ks : List K} {ops : Array Oper} {tg : Tags} {l : List Oper} {fr : Fr} {w : World} {ty t t' : TypeId} {pos : String} {aft : Array Edge} {gd : Option (Nat × Bool)} {d j : Nat} {x y : Operand} {A : Option Addr} {Ky : List By} {w0 : World}
theorem wl_ldKy (hx : fr.ev x = some (.pointer (some (adr A j)))) (hr : RKy w0 A Ky) (hb : Below w0.heap.size w0 w) (hj : j < Ky.length)
  (hk : ∀ A1 c1, Rd w0 A1 Ky[j] → Ky[j].length ≤ c1 → WL Tryz.prog fn F N ks ops tg.tail l ((d, .slice A1 Ky[j].length c1) :: fr) w)
  (ht : tg.reads = true := by rfl) (hg : onG ops fr gd = true := by rfl) (hd : Nat.blt d N = true := by rfl) : WL Tryz.prog fn F N ks ops tg (⟨some d, .load 35 x, ty, pos, aft, gd⟩ :: l) fr w := by
 obtain ⟨A1, c1, h1, h2, h3⟩ := hr.elem hj
 refine wl_r (o_load (t := 35) Tryz.isAgg35 hx ?_) (hk A1 c1 h2 h3) ht hg hd
 have := h1.u hb 0 _ rfl
 rwa [Nat.mul_one] at this
end
def zeros (n : Nat) : Nat := (239 - n % 128) % 128
theorem zeros_lt (n : Nat) : zeros n < 128 := Nat.mod_lt _ (by decide)
def be8 (n : UInt64) : List UInt8 := (List.range 8).map fun k => (shrU n (56 - 8 * k)).toUInt8
theorem be8_len (n : UInt64) : (be8 n).length = 8 := by simp [be8]
theorem be8_get (n : UInt64) (k : Nat) (h : k < (be8 n).length) : (be8 n)[k] = (shrU n (56 - 8 * k)).toUInt8 := by simp [be8]
theorem flatten_le (L : List By) (n : Nat) (h : ∀ x ∈ L, x.length ≤ n) : L.flatten.length ≤ n * L.length := by
 induction L with
 | nil => simp
 | cons a L ih =>
  have h1 := ih (fun x hx => h x (by simp [hx]))
  have h2 := h a (by simp)
  rw [List.flatten_cons, List.length_append, List.length_cons, Nat.mul_add]
  omega
theorem flatten_take (L : List By) (i : Nat) (h : i < L.length) : (L.take (i + 1)).flatten = (L.take i).flatten ++ L[i] := by
 rw [List.take_succ_eq_append_getElem h, List.flatten_append]; simp
theorem flatten_take_le (L : List By) (i : Nat) : (L.take i).flatten.length ≤ L.flatten.length := by
 have : L.flatten = (L.take i).flatten ++ (L.drop i).flatten := by rw [← List.flatten_append, List.take_append_drop]
 rw [this, List.length_append]; omega
def padU (b : By) : By := b ++ [128] ++ List.replicate (zeros b.length) 0 ++ be8 0 ++ be8 (UInt64.ofNat (b.length * 8))
theorem padU_len (b : By) : (padU b).length = b.length + 17 + zeros b.length := by simp only [padU, List.length_append, be8_len, List.length_replicate, List.length_singleton]; omega
theorem C_Mul8 {x : Nat} (w : World) (hx : x < 1000000000) : CallsR Tryz.prog 142 [.int .u64 (x : Int), .int .u64 8] w fun v w' => v = .tuple #[.int .u64 ((0 : UInt64).toNat : Int), .int .u64 ((UInt64.ofNat (x * 8)).toNat : Int)] ∧ w' = w := by
 have h := C_Mul64 (x := x) (y := 8) w (by omega) (by omega)
 refine h.mono ?_
 rintro v w' ⟨rfl, rfl⟩
 refine ⟨?_, rfl⟩
 rw [UInt64.toNat_ofNat_of_lt' (by show x * 8 < 18446744073709551616; omega), show x * 8 / 18446744073709551616 = 0 by omega, show x * 8 % 18446744073709551616 = x * 8 by omega]
 rfl
set_option maxHeartbeats 800000 in
theorem C_padded {A : Option Addr} {L : List By} {r : By} {n c : Nat} (w : World) (hK : RKy w A L) (hr : padU L.flatten = r) (hn : n = L.length) (hl : L.length ≤ 40) (hl2 : ∀ x ∈ L, x.length ≤ 10000) :
  CallsR Tryz.prog 120 [.slice A n c] w fun v w' => ∃ A' c', v = .slice A' r.length c' ∧ OwnH w' w.heap.size w'.heap.size A' c' r ∧ Below w.heap.size w w' := by
 subst hn
 refine callsR Tryz.func120 rfl rfl (by kernel_rfl) rfl ?_
 have hw := Below.refl w.heap.size w
 obtain ⟨b, hb⟩ : ∃ b, L.flatten = b := ⟨_, rfl⟩
 rw [hb] at hr
 have hbl : b.length ≤ 400000 := by
  have := flatten_le L 10000 hl2; rw [hb] at this; omega
 refine zs (za rfl (wl_nil (zs (za rfl (wl_nil (rk_seq (zs (zm rfl ?_))))))))
 refine zp (o_len (t := 72) Tryz.underlying72 rfl) ?_
 refine zm rfl (wl_nil (rk_block ?_))
 refine rk_joinf (fun fb fr w2 => fr = [(3, .int .i64 (b.length : Int))] ++ fb.drop 4 ∧ Below w.heap.size w w2) ?_ (fun ks hj => ?_)
 rotate_left
 ·refine rk_loopf (fun fb m fr w2 => ∃ (i : Nat) (v cn : Int), fr = [(16, .int .i64 v), (3, .int .i64 cn)] ++ fb ∧ v = i ∧ i ≤ L.length ∧ m = L.length - i ∧ cn = ((L.take i).flatten.length : Int) ∧ Below w.heap.size w w2) (n := L.length) (Fr.le_of (by kernel_rfl) (by kernel_rfl) (by repeat' constructor)) ⟨0, _, _, rfl, rfl, by omega, rfl, rfl, hw⟩ ?_
  clear hw
  rintro m fr w2 ⟨i, v, cn, rfl, rfl, hi, rfl, hcn, hw⟩
  have h1 := flatten_take_le L i
  rw [hb] at h1
  first | refine zf ?_ | refine zg ?_
  refine zs ?_
  refine zp (o_lt rfl rfl) ?_
  refine wl_nil (rk_seq ?_)
  refine rk_if rfl (fun h17 => ?_) (fun h17 => ?_)
  ·have hil : i < L.length := by omega
   have h2 := hl2 _ (List.getElem_mem hil)
   refine rk_skip (rk_seq (rk_block (zs ?_)))
   refine zp (o_iaddrA1 (i) Tryz.underlying72 Tryz.sizeOf35 rfl rfl rfl (hK.some_ (by omega)) (by omega)) ?_
   refine wl_ldKy rfl hK hw (by omega) ?_
   rintro A119 c119 f19 i19
   refine za rfl (wl_nil (rk_region (zm rfl (zm rfl ?_))))
   refine zp (o_len (t := 35) Tryz.underlying35 rfl) ?_
   refine zp (o_add rfl rfl (by omega) (by omega)) ?_
   refine za rfl (wl_nil ?_)
   refine rk_blk ?_
   refine rk_region ?_
   refine zp (o_add rfl rfl (by omega) (by omega)) ?_
   refine zm rfl (wl_nil ?_)
   exact rk_againf (Fr.le_of (by kernel_rfl) (by kernel_rfl) (by repeat' constructor)) ⟨i + 1, (i : Int) + 1, _, rfl, by omega, by omega, rfl, by rw [flatten_take L i hil, List.length_append]; omega, hw⟩ (by omega)
  ·refine rk_exit rfl ?_
   obtain rfl : i = L.length := by omega
   rw [List.take_length, hb] at hcn
   subst hcn
   exact rk_tof hj (Fr.le_of (by kernel_rfl) (by kernel_rfl) (by repeat' constructor)) ⟨rfl, hw⟩
 clear hw
 rintro fr w2 ⟨rfl, hw⟩
 have shw0 := hw.size
 first | refine zf ?_ | refine zg ?_
 refine zs (zm rfl ?_)
 refine zp (o_add rfl rfl (by omega) (by omega)) ?_
 refine zp (o_quo rfl rfl (by omega) (by omega) (by omega)) ?_
 refine zp (o_mul rfl rfl (by omega) (by omega)) ?_
 refine zp (o_add rfl rfl (by omega) (by omega)) ?_
 refine wl_mkB ((b.length + 16) / 128 * 128 + 128) rfl rfl (by omega) (by omega) ?_
 rintro A30 w30 f30 b30
 have qf30 := f30.cap
 have s30 := b30.size
 replace hw := hw.trans (b30.mono hw.size)
 refine za rfl (wl_nil (rk_seq (zs (zm rfl ?_))))
 refine zp (o_len (t := 72) Tryz.underlying72 rfl) ?_
 refine zm rfl (wl_nil (rk_block ?_))
 refine rk_joinf (fun fb fr w3 => ∃ A' c', fr = [(6, .slice A' b.length c')] ++ fb.drop 4 ∧ OwnH w3 w2.heap.size w3.heap.size A' c' b ∧ w30.heap.size ≤ w3.heap.size ∧ Below w.heap.size w w3) ?_ (fun ks hj => ?_)
 rotate_left
 ·refine rk_loopf (fun fb m fr w3 => ∃ (i : Nat) (v : Int) (A' : Option Addr) (bs : By) (c' : Nat), fr = [(33, .int .i64 v), (6, .slice A' bs.length c')] ++ fb ∧ v = i ∧ i ≤ L.length ∧ m = L.length - i ∧ bs = (L.take i).flatten ∧ OwnH w3 w2.heap.size w3.heap.size A' c' bs ∧ w30.heap.size ≤ w3.heap.size ∧ Below w.heap.size w w3) (n := L.length) (Fr.le_of (by kernel_rfl) (by kernel_rfl) (by repeat' constructor)) ⟨0, _, A30, _, _, rfl, rfl, by omega, rfl, rfl, f30, Nat.le_refl _, hw⟩ ?_
  clear hw f30
  rintro m fr w3 ⟨i, v, A', bs, c', rfl, rfl, hi, rfl, hbs, fo, hsz, hw⟩
  have shw := hw.size
  have h1 := flatten_take_le L i
  rw [hb, ← hbs] at h1
  first | refine zf ?_ | refine zg ?_
  refine zs ?_
  refine zp (o_lt rfl rfl) ?_
  refine wl_nil (rk_seq ?_)
  refine rk_if rfl (fun h34 => ?_) (fun h34 => ?_)
  ·have hil : i < L.length := by omega
   have h2 := hl2 _ (List.getElem_mem hil)
   refine rk_skip (rk_seq (rk_block (zs ?_)))
   refine zp (o_iaddrA1 (i) Tryz.underlying72 Tryz.sizeOf35 rfl rfl rfl (hK.some_ (by omega)) (by omega)) ?_
   refine wl_ldKy rfl hK hw (by omega) ?_
   rintro A136 c136 f36 i36
   refine za rfl (wl_nil (rk_region (zm rfl (zm rfl ?_))))
   refine wl_appB Tryz.u8 rfl fo rfl rfl (f36.u hw) rfl (by omega) (by omega) ?_
   rintro A39 c39 w39 f39 g39 b39 i39
   have qf39 := f39.cap
   have s39 := g39.size
   replace hw := hw.trans (b39.mono (by omega))
   clear fo
   refine za rfl (wl_nil ?_)
   refine rk_blk ?_
   refine rk_region ?_
   refine zp (o_add rfl rfl (by omega) (by omega)) ?_
   refine zm rfl (wl_nil ?_)
   exact rk_againf (Fr.le_of (by kernel_rfl) (by kernel_rfl) (by repeat' constructor)) ⟨i + 1, (i : Int) + 1, _, _, _, rfl, by omega, by omega, rfl, by rw [flatten_take L i hil, hbs], f39, by omega, hw⟩ (by omega)
  ·refine rk_exit rfl ?_
   obtain rfl : i = L.length := by omega
   rw [List.take_length, hb] at hbs
   subst hbs
   exact rk_tof hj (Fr.le_of (by kernel_rfl) (by kernel_rfl) (by repeat' constructor)) ⟨A', c', rfl, fo, hsz, hw⟩
 clear hw f30
 rintro fr w3 ⟨A', c', rfl, fo, hsz, hw⟩
 have shw := hw.size
 first | refine zf ?_ | refine zg ?_
 obtain ⟨zn, hz⟩ : ∃ zn, zeros b.length = zn := ⟨_, rfl⟩
 have hzd := hz
 unfold zeros at hzd
 refine zs (zm rfl ?_)
 refine wl_litB [128] Tryz.u8 Tryz.sizeOf5 Tryz.zeroValue5 (by rfl) rfl rfl (by rfl) (by rfl) (by rfl) ?_
 rintro A42 w42 f42 b42
 have qf42 := f42.cap
 have s42 := b42.size
 replace hw := hw.trans (b42.mono hw.size)
 replace fo := fo.u b42
 refine wl_appB Tryz.u8 rfl fo rfl rfl f42.to_Rd (by rfl) (by omega) (by omega) ?_
 rintro A43 c43 w43 f43 g43 b43 i43
 have qf43 := f43.cap
 have s43 := g43.size
 replace hw := hw.trans (b43.mono (by omega))
 replace f42 := f42.k g43.g (fo.ap (by omega))
 clear fo
 refine za rfl (wl_nil (rk_seq (rk_block ?_)))
 refine rk_joinf (fun fb fr w4 => ∃ A' c' bs, fr = [(6, .slice A' bs.length c')] ++ fb.drop 1 ∧ bs = b ++ [128] ++ List.replicate zn 0 ∧ OwnH w4 w2.heap.size w4.heap.size A' c' bs ∧ w43.heap.size ≤ w4.heap.size ∧ Below w.heap.size w w4) ?_ (fun ks hj => ?_)
 rotate_left
 ·refine rk_loopf (fun fb m fr w4 => ∃ (i : Nat) (A' : Option Addr) (bs : By) (c' : Nat), fr = [(6, .slice A' bs.length c')] ++ fb.drop 1 ∧ i ≤ zn ∧ m = zn - i ∧ bs = b ++ [128] ++ List.replicate i 0 ∧ OwnH w4 w2.heap.size w4.heap.size A' c' bs ∧ w43.heap.size ≤ w4.heap.size ∧ Below w.heap.size w w4) (n := zn) (Fr.le_of (by kernel_rfl) (by kernel_rfl) (by repeat' constructor)) ⟨0, A43, _, _, rfl, by omega, rfl, by rw [List.replicate_zero, List.append_nil], f43, Nat.le_refl _, hw⟩ ?_
  clear hw f43
  rintro m fr w4 ⟨i, A', bs, c', rfl, hi, rfl, hbs, fo, hsz4, hw⟩
  have shw4 := hw.size
  have hbl4 : bs.length = b.length + 1 + i := by rw [hbs, List.length_append, List.length_append, List.length_replicate, List.length_singleton]
  first | refine zf ?_ | refine zg ?_
  refine rk_seq (zs (zm rfl ?_))
  refine zp (o_len (t := 35) Tryz.underlying35 rfl) ?_
  refine zp (o_rem rfl rfl (by omega) (by omega)) ?_
  refine zp (o_ne rfl rfl) ?_
  refine wl_nil ?_
  refine rk_if rfl (fun h47 => ?_) (fun h47 => ?_)
  ·refine rk_skip ?_
   refine rk_block (rk_region (zm rfl ?_))
   refine wl_litB [0] Tryz.u8 Tryz.sizeOf5 Tryz.zeroValue5 (by rfl) rfl rfl (by rfl) (by rfl) (by rfl) ?_
   rintro A49 w49 f49 b49
   have qf49 := f49.cap
   have s49 := b49.size
   replace hw := hw.trans (b49.mono hw.size)
   replace fo := fo.u b49
   refine wl_appB Tryz.u8 rfl fo rfl rfl f49.to_Rd (by rfl) (by omega) (by omega) ?_
   rintro A50 c50 w50 f50 g50 b50 i50
   have qf50 := f50.cap
   have s50 := g50.size
   replace hw := hw.trans (b50.mono (by omega))
   replace f49 := f49.k g50.g (fo.ap (by omega))
   clear fo
   refine za rfl (wl_nil ?_)
   refine rk_blk ?_
   exact rk_againf (Fr.le_of (by kernel_rfl) (by kernel_rfl) (by repeat' constructor)) ⟨i + 1, _, _, _, rfl, by omega, rfl, by rw [hbs, List.replicate_succ', List.append_assoc (b ++ [128])], f50, by omega, hw⟩ (by omega)
  ·refine rk_exit rfl ?_
   obtain rfl : i = zn := by omega
   exact rk_tof hj (Fr.le_of (by kernel_rfl) (by kernel_rfl) (by repeat' constructor)) ⟨A', c', bs, rfl, hbs, fo, hsz4, hw⟩
 clear hw f43
 rintro fr w4 ⟨A', c', bs, rfl, hbs, fo, hsz4, hw⟩
 have shw4 := hw.size
 have hbl4 : bs.length = b.length + 1 + zn := by rw [hbs, List.length_append, List.length_append, List.length_replicate, List.length_singleton]
 first | refine zf ?_ | refine zg ?_
 refine zs (zm rfl ?_)
 refine zp (o_convu64 (src := 3) (dst := 52) Tryz.underlying3 Tryz.underlying52 rfl (by omega) (by omega)) ?_
 refine wl_call rfl (C_Mul8 _ (by omega)) ?_
 rintro v54 w54 ⟨rfl, rfl⟩
 refine zm rfl ?_
 refine zp (o_ext20 rfl) ?_
 refine zp (o_ext21 rfl) ?_
 refine za rfl (za rfl (wl_nil (rk_seq (zs (zm rfl (zm rfl ?_))))))
 refine zp (o_buildU [0, UInt64.ofNat (b.length * 8)] Tryz.underlying177 (by rfl) (by rfl) rfl rfl (by rfl) (by rfl) (fun _ => by kernel_rfl)) ?_
 refine zm rfl (wl_nil (rk_block ?_))
 obtain ⟨xs, hxs⟩ : ∃ xs, [(0 : UInt64), UInt64.ofNat (b.length * 8)] = xs := ⟨_, rfl⟩
 have hxl : xs.length = 2 := by rw [← hxs]; rfl
 rw [hxs]
 have hrr : r = bs ++ (xs.map be8).flatten := by
  rw [← hr, ← hxs, hbs, ← hz]; simp [padU]
 refine rk_joinf (fun fb fr w5 => ∃ A' c', fr = [(6, .slice A' r.length c')] ++ fb.drop 13 ∧ OwnH w5 w2.heap.size w5.heap.size A' c' r ∧ Below w.heap.size w w5) ?_ (fun ks hj => ?_)
 rotate_left
 ·refine rk_loopf (fun fb m fr w5 => ∃ (i : Nat) (v : Int) (A' : Option Addr) (bt : By) (c' : Nat), fr = [(60, .int .i64 v), (6, .slice A' bt.length c')] ++ fb ∧ v = i ∧ i ≤ 2 ∧ m = 2 - i ∧ bt = bs ++ ((xs.take i).map be8).flatten ∧ bt.length = bs.length + 8 * i ∧ OwnH w5 w2.heap.size w5.heap.size A' c' bt ∧ w54.heap.size ≤ w5.heap.size ∧ Below w.heap.size w w5) (n := 2) (Fr.le_of (by kernel_rfl) (by kernel_rfl) (by repeat' constructor)) ⟨0, _, A', _, c', rfl, rfl, by omega, rfl, by simp, rfl, fo, Nat.le_refl _, hw⟩ ?_
  clear hw fo
  rintro m fr w5 ⟨i, v, A', bt, c', rfl, rfl, hi, rfl, hbt, hbtl, fo, hsz5, hw⟩
  have shw5 := hw.size
  first | refine zf ?_ | refine zg ?_
  refine zs ?_
  refine zp (o_lt rfl rfl) ?_
  refine wl_nil (rk_seq ?_)
  refine rk_if rfl (fun h61 => ?_) (fun h61 => ?_)
  ·have hil : i < xs.length := by omega
   obtain ⟨x, hx⟩ : ∃ x, xs[i] = x := ⟨_, rfl⟩
   have hbn : (be8 x).length = 8 := be8_len x
   refine rk_skip (rk_seq (rk_block (zs ?_)))
   refine zp (o_indexU (i) Tryz.underlying177 Tryz.sizeOf52 Tryz.isAgg52 rfl rfl rfl (by omega) hxl) ?_
   refine za rfl (wl_nil (zs (za rfl (wl_nil (rk_block ?_)))))
   rw [hx]
   refine rk_joinf (fun fb fr w6 => ∃ A' c' bu, fr = [(6, .slice A' bu.length c')] ++ fb.drop 1 ∧ bu = bt ++ be8 x ∧ OwnH w6 w2.heap.size w6.heap.size A' c' bu ∧ w5.heap.size ≤ w6.heap.size ∧ Below w.heap.size w w6) ?_ (fun ks2 hj2 => ?_)
   rotate_left
   ·refine rk_loopf (fun fb m fr w6 => ∃ (k : Nat) (v : Int) (A' : Option Addr) (bu : By) (c' : Nat), fr = [(13, .int .i64 v), (6, .slice A' bu.length c')] ++ fb ∧ v = 56 - 8 * (k : Int) ∧ k ≤ 8 ∧ m = 8 - k ∧ bu = bt ++ (be8 x).take k ∧ OwnH w6 w2.heap.size w6.heap.size A' c' bu ∧ w5.heap.size ≤ w6.heap.size ∧ Below w.heap.size w w6) (n := 8) (Fr.le_of (by kernel_rfl) (by kernel_rfl) (by repeat' constructor)) ⟨0, _, A', _, c', rfl, rfl, by omega, rfl, by rw [List.take_zero, List.append_nil], fo, Nat.le_refl _, hw⟩ ?_
    clear hw fo
    rintro m fr w6 ⟨k, v, A', bu, c', rfl, rfl, hk, rfl, hbu, fo, hsz6, hw⟩
    have shw6 := hw.size
    have hbul : bu.length = bt.length + k := by rw [hbu, List.length_append, List.length_take]; omega
    first | refine zf ?_ | refine zg ?_
    refine rk_seq (zs (zm rfl ?_))
    refine zp (o_ge rfl rfl) ?_
    refine wl_nil ?_
    refine rk_if rfl (fun h64 => ?_) (fun h64 => ?_)
    ·refine rk_skip ?_
     refine rk_seq (rk_block (rk_region (zm rfl (zm rfl (zm rfl ?_)))))
     refine zp (o_shrU rfl rfl (by omega) (by omega)) ?_
     refine zp (o_convU8 (src := 52) (dst := 5) Tryz.underlying52 Tryz.underlying5 rfl) ?_
     rw [show (56 - 8 * (k : Int)).toNat = 56 - 8 * k by omega]
     refine wl_litB [(shrU x (56 - 8 * k)).toUInt8] Tryz.u8 Tryz.sizeOf5 Tryz.zeroValue5 (by rfl) rfl rfl (by rfl) (by rfl) (by rfl) ?_
     rintro A72 w72 f72 b72
     have qf72 := f72.cap
     have s72 := b72.size
     replace hw := hw.trans (b72.mono hw.size)
     replace fo := fo.u b72
     refine wl_appB Tryz.u8 rfl fo rfl rfl f72.to_Rd (by rfl) (by omega) (by omega) ?_
     rintro A73 c73 w73 f73 g73 b73 i73
     have qf73 := f73.cap
     have s73 := g73.size
     replace hw := hw.trans (b73.mono (by omega))
     replace f72 := f72.k g73.g (fo.ap (by omega))
     clear fo
     refine za rfl (wl_nil ?_)
     refine rk_blk ?_
     refine rk_region (zm rfl ?_)
     refine zp (o_sub rfl rfl (by omega) (by omega)) ?_
     refine za rfl (wl_nil ?_)
     exact rk_againf (Fr.le_of (by kernel_rfl) (by kernel_rfl) (by repeat' constructor)) ⟨k + 1, 56 - 8 * (k : Int) - 8, _, _, _, rfl, by omega, by omega, rfl, by rw [hbu, List.take_succ_eq_append_getElem (by omega), be8_get, List.append_assoc], f73, by omega, hw⟩ (by omega)
    ·refine rk_exit rfl ?_
     obtain rfl : k = 8 := by omega
     rw [List.take_of_length_le (by omega)] at hbu
     exact rk_tof hj2 (Fr.le_of (by kernel_rfl) (by kernel_rfl) (by repeat' constructor)) ⟨A', c', bu, rfl, hbu, fo, hsz6, hw⟩
   clear hw fo
   rintro fr w6 ⟨A', c', bu, rfl, hbu, fo, hsz6, hw⟩
   have shw6 := hw.size
   have hbul : bu.length = bt.length + 8 := by rw [hbu, List.length_append, hbn]
   first | refine zf ?_ | refine zg ?_
   refine rk_blk ?_
   refine rk_region ?_
   refine zp (o_add rfl rfl (by omega) (by omega)) ?_
   refine zm rfl (wl_nil ?_)
   exact rk_againf (Fr.le_of (by kernel_rfl) (by kernel_rfl) (by repeat' constructor)) ⟨i + 1, (i : Int) + 1, _, _, _, rfl, by omega, by omega, rfl, by rw [hbu, hbt, List.take_succ_eq_append_getElem hil, hx, List.map_append, List.flatten_append, List.append_assoc]; simp, by omega, fo, by omega, hw⟩ (by omega)
  ·refine rk_exit rfl ?_
   obtain rfl : i = 2 := by omega
   rw [List.take_of_length_le (by omega), ← hrr] at hbt
   subst hbt
   exact rk_tof hj (Fr.le_of (by kernel_rfl) (by kernel_rfl) (by repeat' constructor)) ⟨A', c', rfl, fo, hw⟩
 clear hw fo
 rintro fr w5 ⟨A', c', rfl, fo, hw⟩
 have shw5 := hw.size
 first | refine zf ?_ | refine zg ?_
 refine zs (zm rfl (za rfl (wl_nil ?_)))
 refine ret1 rfl rfl ?_
 exact ⟨A', c', rfl, fo.base (by omega) (Nat.le_refl _), hw⟩
end Go.Proofs.YtnnhenafhalobaaGreat
namespace Go.Proofs.YtnnhenafhalobaaGreat
set_option maxRecDepth 100000
open Go.RowKit
def noEnd : Ending → World → Prop := fun _ _ => False
section
variable {P : Program} {fn : Func} {F : Ending → World → Prop} {N n : Nat} {ks : List K} {fr : Fr} {w : World} {I : Act → World → Prop}
theorem kpost_inv {e : Exit} {a : Act} (h : kpost P fn noEnd [.inv I] e a w) : e = .normal ∧ I a w := by
 cases e with
 | normal => exact ⟨rfl, h⟩
 | ret => exact (h : bodyPost P fn noEnd .ret a w).2.choose_spec.2.elim
 | panic c => exact (h : bodyPost P fn noEnd (.panic c) a w).2.elim
 | outgrown => exact (h : bodyPost P fn noEnd .outgrown a w).elim
 | exit id => exact (h : bodyPost P fn noEnd (.exit id) a w).elim
 | goto t => exact (h : bodyPost P fn noEnd (.goto t) a w).elim
theorem noOut : ¬ LetsOut (kpost P fn noEnd [.inv I]) := fun ⟨_, _, h⟩ => by cases (kpost_inv h).1
theorem rk_inv (h : ∀ a, Rep N a fr → I a w) : RK P fn F N (.inv I :: ks) fr w := h
theorem seq3_of_rk {x y z u : Code} {Q : Exit → Act → World → Prop} {a : Act} (h : RK P fn noEnd N [.code x, .code y, .inv I] fr w) (ha : Rep N a fr) (hy : ∀ a w, I a w → z.wpIn Fence.wide n P (Exit.then (fun a w => u.wpIn Fence.wide n P Q a w) Q) a w) :
  (Code.seq x (.seq (.seq y z) u)).wpIn Fence.wide n P Q a w := by
 refine wpIn_seq (wpIn_mono (wpIn_wide.2 (show x.wp P (kpost P fn noEnd [.code y, .inv I]) a w from h a ha)) (fun e a w he => ?_))
 cases e with
 | normal =>
  refine wpIn_seq (wpIn_seq (wpIn_mono (wpIn_wide.2 (show y.wp P (kpost P fn noEnd [.inv I]) a w from he)) (fun e a w he => ?_)))
  obtain ⟨rfl, hI⟩ := kpost_inv he
  exact hy a w hI
 | ret => cases (kpost_inv (show kpost P fn noEnd [.inv I] .ret a w from he)).1
 | panic c => cases (kpost_inv (show kpost P fn noEnd [.inv I] (.panic c) a w from he)).1
 | outgrown => cases (kpost_inv (show kpost P fn noEnd [.inv I] .outgrown a w from he)).1
 | exit id => cases (kpost_inv (show kpost P fn noEnd [.inv I] (.exit id) a w from he)).1
 | goto t => cases (kpost_inv (show kpost P fn noEnd [.inv I] (.goto t) a w from he)).1
theorem entry_rep {args : List Value} (hl : Nat.ble args.length N = true) : Rep N { tmps := args.toArray ++ Array.replicate (N - args.toArray.size) undef, defers := [] } (entry args 0) := by
 have hl' : args.length ≤ N := by simpa using hl
 refine ⟨?_, rfl, ?_⟩
 ·simp; omega
 ·intro t v hv
  obtain ⟨_, h2⟩ := entry_get args 0 t v hv
  simp only [Nat.sub_zero] at h2
  have hlt : t < args.length := by
   rcases Nat.lt_or_ge t args.length with h | h
   ·exact h
   ·rw [List.getElem?_eq_none h] at h2; cases h2
  simp only [List.getElem?_toArray, Array.getElem?_append, List.size_toArray, hlt, if_true]
  exact h2

/-! In a round. -/
def plainOp (o : Oper) : Bool := match o.op with | .defer _ => false | _ => true
theorem semAt_plain {o : Oper} (h : plainOp o = true) (r : Nat) (ρ : Operand → Value) : o.semAt (some r) ρ = execOp ρ o :=
 Oper.semAt_some r ρ o (fun c e => by unfold plainOp at h; rw [e] at h; cases h)
theorem rowsIn_of {r m : Nat} {row : String} {args : Array Value} {R : Value → World → Prop} (h : Rows P row args w R) : RowsIn (Fence.wide.inRound r) m P row args w R := fun c cs _ => by
 obtain ⟨v, w', hR, hs⟩ := h c cs
 exact ⟨v, w', hR, (stepsIn_wide (P := P)).2 hs⟩
theorem operIn_of {r m : Nat} {o : Oper} {a : Act} {K K' : Act → World → Prop} {Q : Exit → Act → World → Prop} (ho : plainOp o = true) (hK : ∀ a w, K a w → K' a w) (h : o.wp P a w K Q) : o.wpIn (Fence.wide.inRound r) m P a w K' Q := by
 refine ⟨fun _ _ => trivial, ?_⟩
 show o.uponIn (Fence.wide.inRound r) m P a K' Q ((o.semAt (some r) a.eval).run P w)
 rw [semAt_plain ho]
 unfold Oper.wp at h
 generalize (execOp a.eval o).run P w = res at h ⊢
 match res, h with
 | .ok (.value v) w', h => exact hK _ _ h
 | .ok .skip w', h => exact hK _ _ h
 | .ok (.defer d) w', h => exact hK _ _ h
 | .ok (.enter f args) w', h =>
  refine ⟨fun e => (by cases e), ?_⟩
  refine CallsIn.inRound r (callsIn_wide.2 (Calls.mono h ?_))
  intro e w'' he
  cases e with
  | returned v => exact hK _ _ he
  | panicked c => exact he
  | outgrown => exact he
 | .ok (.row row args) w', h =>
  refine ⟨fun e => (by cases e), ?_⟩
  exact RowsIn.mono (rowsIn_of h) (fun v w'' hv => hK _ _ hv)
 | .halt (.panic v) w', h => exact h
theorem wpAnyIn_of {r m : Nat} {ops : Array Oper} {Q : Exit → Act → World → Prop} (hnd : ∀ (i : Nat) (o : Oper), ops[i]? = some o → plainOp o = true) (hout : ¬ LetsOut Q) : ∀ (fuel : Nat) (listed : Array Bool) (a : Act) (w : World), wpAny P .any ops Q fuel listed a w → wpAnyIn (Fence.wide.inRound r) m P .any ops Q fuel listed a w
 | 0, _, _, _, h => h
 | fuel + 1, listed, a, w, h => ⟨h.1, fun i hi => by
  have h2 := h.2 i hi
  unfold wpOp at h2
  unfold wpOpIn
  cases ho : ops[i]? with
  | none =>
   rw [ho] at h2
   exact wpAnyIn_of hnd hout fuel _ a w h2
  | some o =>
   rw [ho] at h2
   dsimp only at h2 ⊢
   by_cases hw : Region.wanted o (yielded ops a.tmps) = true
   ·rw [if_pos hw] at h2 ⊢
    rcases h2 with h2 | h2
    ·exact operIn_of (hnd i o ho) (fun a w => wpAnyIn_of hnd hout fuel _ a w) h2
    ·exact absurd h2.2 hout
   ·rw [if_neg hw] at h2 ⊢
    exact ⟨fun _ _ => trivial, wpAnyIn_of hnd hout fuel _ _ _ h2⟩⟩
def RIn (P : Program) (fn : Func) (N : Nat) (I : Act → World → Prop) (r m : Nat) (c : Code) (fr : Fr) (w : World) : Prop := ∀ a, Rep N a fr → c.wpIn (Fence.wide.inRound r) m P (kpost P fn noEnd [.inv I]) a w
theorem in_at {r m id : Nat} {l l' : List Oper} (row : Rw) (D A : List Nat) (L C : Nat) (ts : List (Tag × Nat)) (hm : P.follows .mixedOrders = true) (hD : l.map (dmask .any) = D) (hA : ancs .any l [] = A)
  (hc : (Region.noSelect l.toArray && (Nat.beq (l'.length + extra ts) l.length && chk l.toArray l D A L C ts 0)) = true) (hl : l'.map some = opsOf l.toArray ts) (hnd : l.all plainOp = true)
  (h : WL P fn noEnd N [.inv I] l.toArray (some (row, ts)) l' fr w.drew) : RIn P fn N I r m (.region id l.toArray true) fr w := fun a ha => by
 simp only [Bool.and_eq_true] at hc
 obtain ⟨h1, h2, h3⟩ := hc
 refine wpIn_region_any hm (wpAnyIn_of (fun i o hi => ?_) noOut _ _ _ _ (wpAny_of_mix (loud := Nat.testBit L) (calm := Nat.testBit C) (row := row) _ _ _ _ ?_))
 ·exact List.all_eq_true.1 hnd o (List.mem_of_getElem? (by simpa using hi))
 ·have hno : ∀ j, (Array.replicate l.length false).getD j false = false := fun j => by
   rcases Nat.lt_or_ge j l.length with h' | h'
   ·simp [h']
   ·simp [h']
  have := left_elim (h a ha) (listed := Array.replicate l.length false) (m := 0) ⟨by simp, fun j => by rw [hno j]; simp, hD.symm, hA.symm, h1, fun j oj hj hl => by rw [hno j] at hl; cases hl⟩ hl h3
  rw [Nat.eq_of_beq_eq_true h2] at this
  simpa using this
theorem in_draw {r m id : Nat} {l : List Oper} (row : Option Nat) (D A : List Nat) (L C : Nat) (ts : List (Tag × Nat)) (hm : P.follows .mixedOrders = true) (hD : l.map (dmask .any) = D) (hA : ancs .any l [] = A)
  (hc : (Region.noSelect l.toArray && (Nat.beq (l.length + extra ts) l.length && chk l.toArray l D A L C ts 0)) = true) (hl : l.map some = opsOf l.toArray ts) (h : WL P fn noEnd N [.inv I] l.toArray (some ((row, none), ts)) l fr w.drew) (hnd : l.all plainOp = true := by kernel_rfl) :
  RIn P fn N I r m (.region id l.toArray true) fr w := in_at (row, none) D A L C ts hm hD hA hc hl hnd h
theorem wpListIn_of {r m : Nat} {ops : Array Oper} {Q : Exit → Act → World → Prop} (hout : ¬ LetsOut Q) : ∀ (l : List Oper) (a : Act) (w : World), (∀ o ∈ l, plainOp o = true) → wpList P ops Q l a w → wpListIn (Fence.wide.inRound r) m P ops Q l a w
 | [], _, _, _, h => h
 | o :: l, a, w, hnd, h => by
  unfold wpList at h
  unfold wpListIn
  by_cases hw : Region.wanted o (yielded ops a.tmps) = true
  ·rw [if_pos hw] at h ⊢
   rcases h with h | h
   ·exact operIn_of (hnd o (by simp)) (fun a w => wpListIn_of hout l a w (fun o ho => hnd o (by simp [ho]))) h
   ·exact absurd h.2 hout
  ·rw [if_neg hw] at h ⊢
   exact ⟨fun _ _ => trivial, wpListIn_of hout l _ _ (fun o ho => hnd o (by simp [ho])) h⟩
theorem in_plain {r m id : Nat} {l : List Oper} (h : WL P fn noEnd N [.inv I] l.toArray none l fr w) (hnd : l.all plainOp = true := by kernel_rfl) : RIn P fn N I r m (.region id l.toArray false) fr w := fun a ha =>
 wpIn_region_lit (wpListIn_of noOut l a w (List.all_eq_true.1 hnd) (h a ha))
theorem keeps_grew {w w' : World} {e : TypeId} {row : Option Nat} (h : Grew w w' e row) : KeepsOthers w w' := KeepsOthers.of_grownBy h.g (fun j o e ho => by
 obtain ⟨cs, f, hcs⟩ := h.2 j e
 rw [hcs] at ho
 injection ho with ho
 subst ho; rfl)
theorem keeps_below {w w' : World} (h : Below w.heap.size w w') : KeepsOthers w w' := KeepsOthers.of_grownBy (grown_of_below h none) (fun j o e => by cases e)

/-! Calls of yield. -/
def WLI (P : Program) (fn : Func) (F : Ending → World → Prop) (N n : Nat) (ks : List K) (ops : Array Oper) (l : List Oper) (fr : Fr) (w : World) : Prop := ∀ a, Rep N a fr → wpListIn Fence.wide n P ops (kpost P fn F ks) l a w
variable {ops : Array Oper} {l : List Oper} {ty : TypeId} {pos : String} {aft : Array Edge} {d : Nat} {x y : Operand} {op : Op} {v : Value} {w' : World}
theorem rk_regionI (n : Nat) {id : Nat} (h : WLI P fn F N n ks l.toArray l fr w) : RK P fn F N (.code (.region id l.toArray false) :: ks) fr w := fun a ha => (wpIn_wide (n := n)).1 (wpIn_region_lit (h a ha))
theorem wli_nil (h : RK P fn F N ks fr w) : WLI P fn F N n ks ops [] fr w := fun a ha => wpListIn_nil (h a ha)
variable {gd : Option (Nat × Bool)}
theorem wli_p (h : OpV P N fr w op ty v w') (hk : WLI P fn F N n ks ops l ((d, v) :: fr) w') (hg : onG ops fr gd = true := by rfl) (hd : Nat.blt d N = true := by rfl) : WLI P fn F N n ks ops (⟨some d, op, ty, pos, aft, gd⟩ :: l) fr w := fun a ha => by
 unfold wpListIn
 rw [if_pos (wanted_on (o := ⟨some d, op, ty, pos, aft, gd⟩) ha hg)]
 refine ⟨fun _ _ => trivial, ?_⟩
 show Oper.uponIn Fence.wide n P _ a _ _ ((execOp a.eval _).run P w)
 rw [h a ha _ rfl rfl]
 exact hk _ (ha.put hd v)
theorem wli_yield {lp : Nat} {ts : Array TypeId} {u : Value} {R : Ending → World → Prop} (hx : fr.ev x = some (.func (.yield lp) #[] #[])) (hy : fr.ev y = some u) (hY : YieldAt Fence.wide (n - 1) P lp #[u] w R)
  (hk : ∀ e w', R e w' → ∃ b, e = .returned (.bool b) ∧ WLI P fn F N n ks ops l ((d, .bool b) :: fr) w') (hg : onG ops fr gd = true := by rfl) (hd : Nat.blt d N = true := by rfl) :
  WLI P fn F N n ks ops (⟨some d, .call { callee := .value x, args := #[y], argTypes := ts }, ty, pos, aft, gd⟩ :: l) fr w := fun a ha => by
 obtain ⟨f, tmps, assign, body, h1, h2⟩ := hY
 unfold wpListIn
 rw [if_pos (wanted_on (o := ⟨some d, .call { callee := .value x, args := #[y], argTypes := ts }, ty, pos, aft, gd⟩) ha hg)]
 refine ⟨fun _ _ => trivial, ?_⟩
 have hsem : ∀ o : Oper, o.semAt Fence.wide.round a.eval = execOp a.eval o := fun _ => rfl
 have hrun : (execOp a.eval ⟨some d, .call { callee := .value x, args := #[y], argTypes := ts }, ty, pos, aft, gd⟩).run P w = .ok (.round lp f tmps assign body) w := by
  simp [execOp, resolve, invoke, Deferred.ofValue, ha.ev hx, ha.ev hy, h1]
 rw [hsem, hrun]
 refine ⟨fun e => (by cases e), h2.mono ?_⟩
 intro e w' he
 obtain ⟨b, rfl, hw⟩ := hk e w' he
 exact hw _ (ha.put hd _)
end
end Go.Proofs.YtnnhenafhalobaaGreat
namespace Go.Proofs.YtnnhenafhalobaaGreat
set_option maxRecDepth 100000
open Go.RowKit
section
variable {P : Program} {N : Nat} {fr : Fr} {w : World} {ty t e : TypeId} {x y z u : Operand} {A : Option Addr} {len cap lo hi mx : Nat} {kl kh km : IntKind} {l h m : Int}
theorem o_slice3B (lo hi mx : Nat) (hu : P.underlying t = some (.slice e)) (hs : ∀ w, (sizeOf e).run P w = .ok 1 w) (hx : fr.ev x = some (.slice A len cap)) (hy : fr.ev y = some (.int kl l)) (hz : fr.ev z = some (.int kh h)) (hq : fr.ev u = some (.int km m))
  (hl : l = (lo : Int)) (hh : h = (hi : Int)) (hm : m = (mx : Int)) (h1 : lo ≤ hi) (h2 : hi ≤ mx) (h3 : mx ≤ cap) : OpV P N fr w (.slice t x (some y) (some z) (some u)) ty (.slice (cutA A mx 1 lo) (hi - lo) (mx - lo)) w := fun a ha op hop _ => by
 subst hl; subst hh; subst hm
 simp [execOp, hop, ha.ev hx, ha.ev hy, ha.ev hz, ha.ev hq, Instr.sliceAt, Instr.slice, Instr.sliceBounds, Instr.sliceBound, run_underlying hu, asIntOf, hs, h1, h2, h3, cutA]
theorem o_sliceLoB (lo : Nat) (hu : P.underlying t = some (.slice 5)) (hs : ∀ w, (sizeOf 5).run P w = .ok 1 w) (hx : fr.ev x = some (.slice A len cap)) (hy : fr.ev y = some (.int kl l)) (hl : l = (lo : Int)) (h1 : lo ≤ len) : OpV P N fr w (.slice t x (some y) none none) ty (.slice (cutA A cap 1 lo) (len - lo) (cap - lo)) w := o_slice_lo hu hs hx hy hl h1
end
theorem C_Chunk {A : Option Addr} {n c : Nat} (w : World) :
  CallsR Tryz.prog 75 [.slice A n c, .int .i64 128] w fun v w' => ∃ g h, v = .func (.func 97) #[] #[.pointer (some ⟨g, 0, none⟩), .pointer (some ⟨h, 0, none⟩)] ∧ Blk w' g 35 [.slice A n c] ∧ Blk w' h 3 [.int .i64 128] ∧ w.heap.size ≤ g ∧ g < w'.heap.size ∧ w.heap.size ≤ h ∧ h < w'.heap.size ∧ Below w.heap.size w w' := by
 refine callsR Tryz.func75 rfl rfl (by kernel_rfl) rfl ?_
 have hw := Below.refl w.heap.size w
 refine zs ?_
 refine wl_boxg [_] rfl (by rfl) ?_
 rintro g2 w2 f2 b2 i2 i2_1
 have s2 := b2.size
 replace hw := hw.trans (b2.mono hw.size)
 refine wl_boxg [_] rfl (by rfl) ?_
 rintro g3 w3 f3 b3 i3 i3_1
 have s3 := b3.size
 replace hw := hw.trans (b3.mono hw.size)
 replace f2 := f2.u b3
 refine za rfl (wl_nil (rk_seq (zs ?_)))
 refine wl_r (o_loadbg Tryz.isAgg3 rfl f3 (by rfl)) ?_
 refine zp (o_lt rfl rfl) ?_
 refine wl_nil ?_
 refine rk_false rfl ?_
 refine rk_skip (zs ?_)
 refine zp (o_makeFunc (xs := [.tmp 2, .tmp 3]) rfl) ?_
 refine za rfl (wl_nil ?_)
 refine ret1 rfl rfl ?_
 exact ⟨_, _, rfl, f2, f3, by omega, by omega, by omega, by omega, hw⟩
def KpB (g h : Nat) (W W' : World) : Prop := W'.heap[g]? = W.heap[g]? ∧ W'.heap[h]? = W.heap[h]?
theorem KpB.blk1 {g h : Nat} {W W' : World} {t : TypeId} {cs : List Value} (hk : KpB g h W W') (hB : Blk W g t cs) : Blk W' g t cs := hk.1.trans hB
theorem KpB.blk2 {g h : Nat} {W W' : World} {t : TypeId} {cs : List Value} (hk : KpB g h W W') (hB : Blk W h t cs) : Blk W' h t cs := hk.2.trans hB
def encs (A : Option Addr) (M : Nat) (x : Fin M) : Array Value := #[.slice (A.map (·.add (128 * x.val))) 128 128]
theorem chunk_stops {A : Option Addr} {M c g h n : Nat} (hn : 1 ≤ n) (w : World) (hg : Blk w g 35 [.slice A (128 * M) c]) (hh : Blk w h 3 [.int .i64 128]) (hc : 128 * M ≤ c) (hM : M ≤ 10000) :
  SeqStopsK Fence.wide n Tryz.prog 97 #[.pointer (some ⟨g, 0, none⟩), .pointer (some ⟨h, 0, none⟩)] (encs A M) (KpB g h) (fun xs => xs = List.finRange M) (fun _ => True) M w := fun l J Jx W hb hJ hJx hY h0 => by
 have hgW := hg.under hb
 have hhW := hh.under hb
 have main : CallsR Tryz.prog 97 [.func (.yield l) #[] #[], .pointer (some ⟨g, 0, none⟩), .pointer (some ⟨h, 0, none⟩)] W fun _ w' => (∃ xs, xs = List.finRange M ∧ J xs w') ∨ (∃ pre, True ∧ Jx pre w') := by
  refine callsR Tryz.func97 rfl rfl (by kernel_rfl) rfl ?_
  refine zs (za rfl (wl_nil (rk_block ?_)))
  refine rk_joinf (fun fb fr w2 => fr = [] ++ fb.drop 1 ∧ J (List.finRange M) w2) ?_ (fun ks hj => ?_)
  rotate_left
  ·refine rk_loopf (fun fb m fr w2 => ∃ (k : Nat) (v : Int), fr = [(4, .int .i64 v)] ++ fb.drop 1 ∧ v = 128 * (k : Int) ∧ k ≤ M ∧ m = M - k ∧ J ((List.finRange M).take k) w2 ∧ Blk w2 g 35 [.slice A (128 * M) c] ∧ Blk w2 h 3 [.int .i64 128]) (n := M) (Fr.le_of (by kernel_rfl) (by kernel_rfl) (by repeat' constructor)) ⟨0, _, rfl, rfl, by omega, rfl, by rw [List.take_zero]; exact h0, hgW, hhW⟩ ?_
   clear hgW hhW h0 hg hh
   rintro m fr w2 ⟨k, v, rfl, rfl, hk, rfl, hJk, f1, f2⟩
   first | refine zf ?_ | refine zg ?_
   refine rk_seq (zs (zm rfl ?_))
   refine wl_r (o_loadbg Tryz.isAgg35 rfl f1 (by rfl)) ?_
   refine zp (o_len (t := 35) Tryz.underlying35 rfl) ?_
   refine zp (o_lt rfl rfl) ?_
   refine wl_nil ?_
   refine rk_if rfl (fun h9 => ?_) (fun h9 => ?_)
   ·have hkM : k < M := by omega
    refine rk_skip (rk_seq (rk_block (rk_seq ?_)))
    refine rk_draw (id := 3) (none) [0, 0, 0, 6, 8, 17, 63] [0, 0, 0, 6, 14, 31, 63] 0 0 [(.r, 0), (.r, 1), (.p, 2), (.p, 3), (.p, 4), (.p, 5), (.p, 6)] (by kernel_rfl) (by kernel_rfl) (by kernel_rfl) (by kernel_rfl) (by kernel_rfl) ?_
    replace f2 := f2.d
    replace f1 := f1.d
    refine wl_r (o_loadbg Tryz.isAgg3 rfl f2 (by rfl)) ?_
    refine wl_r (o_loadbg Tryz.isAgg35 rfl f1 (by rfl)) ?_
    refine zm rfl ?_
    refine zp (o_sliceLoB (128 * k) Tryz.underlying35 Tryz.sizeOf5 rfl rfl (by omega) (by omega)) ?_
    refine zp (o_len (t := 35) Tryz.underlying35 rfl) ?_
    refine zp (o_min rfl rfl) ?_
    refine za rfl ?_
    refine wl_nild ?_
    rw [show min (128 : Int) ((128 * M - 128 * k : Nat) : Int) = 128 by omega]
    have hJd : J ((List.finRange M).take k) w2.drew := hJ _ _ _ none hJk (grownBy_drew w2 none) (fun r e => by cases e)
    have hlen : ((List.finRange M).take k).length < M := by rw [List.length_take, List.length_finRange]; omega
    have hYk := hY _ ⟨k, hkM⟩ _ hJd hlen
    refine rk_seq ?_
    refine rk_regionI n ?_
    refine wli_p (o_move rfl) ?_
    refine wli_p (o_loadbg Tryz.isAgg35 rfl f1 rfl) ?_
    refine wli_p (o_move rfl) ?_
    refine wli_p (o_move rfl) ?_
    refine wli_p (o_move rfl) ?_
    refine wli_p (o_add rfl rfl (by omega) (by omega)) ?_
    refine wli_p (o_move rfl) ?_
    refine wli_p (o_move rfl) ?_
    refine wli_p (o_add rfl rfl (by omega) (by omega)) ?_
    have hsl : Value.slice (cutA A (128 * k + 128) 1 (128 * k)) (128 * k + 128 - 128 * k) (128 * k + 128 - 128 * k) = .slice (A.map (·.add (128 * k))) 128 128 := by
     rw [show 128 * k + 128 - 128 * k = 128 by omega]
     unfold cutA
     rw [if_neg (by omega), Nat.mul_one]
    refine wli_p (o_as (o_slice3B (128 * k) (128 * k + 128) (128 * k + 128) Tryz.underlying35 Tryz.sizeOf5 rfl rfl rfl rfl (by omega) (by omega) (by omega) (by omega) (by omega) (by omega)) hsl) ?_
    refine wli_yield rfl rfl hYk (fun e w3 he => ?_)
    rcases he with ⟨rfl, hJ3, hkp⟩ | ⟨rfl, hx3⟩
    ·refine ⟨true, rfl, ?_⟩
     refine wli_p (o_not rfl) ?_
     refine wli_nil ?_
     replace f1 := hkp.blk1 f1
     replace f2 := hkp.blk2 f2
     have hJ4 : J ((List.finRange M).take (k + 1)) w3 := by
      rw [List.take_succ_eq_append_getElem (by rw [List.length_finRange]; omega), List.getElem_finRange]
      exact hJ3
     refine rk_false rfl ?_
     refine rk_skip ?_
     refine rk_blk ?_
     refine rk_region (zm rfl ?_)
     refine wl_r (o_loadbg Tryz.isAgg3 rfl f2 (by rfl)) ?_
     refine zp (o_add rfl rfl (by omega) (by omega)) ?_
     refine za rfl (wl_nil ?_)
     exact rk_againf (Fr.le_of (by kernel_rfl) (by kernel_rfl) (by repeat' constructor)) ⟨k + 1, 128 * (k : Int) + 128, rfl, by omega, by omega, rfl, hJ4, f1, f2⟩ (by omega)
    ·refine ⟨false, rfl, ?_⟩
     refine wli_p (o_not rfl) ?_
     refine wli_nil ?_
     refine rk_true rfl ?_
     refine ret0 rfl ?_
     exact .inr ⟨_, trivial, hx3⟩
   ·refine rk_exit rfl ?_
    obtain rfl : k = M := by omega
    rw [List.take_of_length_le (by rw [List.length_finRange]; omega)] at hJk
    exact rk_tof hj (Fr.le_of (by kernel_rfl) (by kernel_rfl) (by repeat' constructor)) ⟨rfl, hJk⟩
  rintro fr w2 ⟨rfl, hJM⟩
  first | refine zf ?_ | refine zg ?_
  refine end0 rfl ?_
  exact .inl ⟨_, rfl, hJM⟩
 refine callsIn_wide.2 (main.2.mono ?_)
 rintro e w' ⟨v, rfl, hv⟩
 exact ⟨⟨v, rfl⟩, hv⟩
end Go.Proofs.YtnnhenafhalobaaGreat
