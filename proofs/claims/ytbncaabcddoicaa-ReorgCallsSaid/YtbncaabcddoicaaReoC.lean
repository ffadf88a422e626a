/-
  Walks of chapter 18's program: drafts, From.
-/
import Derived.Test.YtbncaabcddoicaaReoB
namespace Go.Proofs.Ytbncaabcddoicaa
open Go.RowKit

/-- A plan. -/
structure Pl where
  keep : Int
  undo : List Dg
  doo : List Dg
deriving DecidableEq
/-- The value v is the plan p (or the draft). -/
def PlV (w : World) (p : Pl) (v : Value) : Prop := ∃ A c B d, v = .agg #[.int .i64 p.keep, .slice A p.undo.length c, .slice B p.doo.length d] ∧ RD w A p.undo ∧ RD w B p.doo ∧ p.undo.length ≤ c ∧ p.doo.length ≤ d
theorem PlV.below {w w' : World} {p : Pl} {v : Value} (h : PlV w p v) (hb : Below w.heap.size w w') : PlV w' p v := by
  obtain ⟨A, c, B, d, e, h1, h2, h3⟩ := h
  exact ⟨A, c, B, d, e, h1.below hb, h2.below hb, h3⟩
theorem PlV.drew {w : World} {p : Pl} {v : Value} (h : PlV w p v) : PlV w.drew p v := h
/-- .. in rows made after the first B blocks. -/
def PlO (w : World) (B : Nat) (p : Pl) (v : Value) : Prop := ∃ A c A' c', v = .agg #[.int .i64 p.keep, .slice A p.undo.length c, .slice A' p.doo.length c'] ∧ OwnD w B A c p.undo ∧ OwnD w B A' c' p.doo
theorem PlO.pl {w : World} {B : Nat} {p : Pl} {v : Value} (h : PlO w B p v) : PlV w p v := by
  obtain ⟨A, c, A', c', e, h1, h2⟩ := h
  exact ⟨A, c, A', c', e, h1.rd, h2.rd, h1.cap, h2.cap⟩
theorem PlO.below {w w' : World} {B : Nat} {p : Pl} {v : Value} (h : PlO w B p v) (hb : Below w.heap.size w w') : PlO w' B p v := by
  obtain ⟨A, c, A', c', e, h1, h2⟩ := h
  exact ⟨A, c, A', c', e, h1.below hb, h2.below hb⟩
theorem PlO.base {w : World} {B B' : Nat} {p : Pl} {v : Value} (h : PlO w B p v) (hB : B' ≤ B) : PlO w B' p v := by
  obtain ⟨A, c, A', c', e, h1, h2⟩ := h
  exact ⟨A, c, A', c', e, h1.base hB, h2.base hB⟩
theorem PlO.kept {w w' : World} {B g : Nat} {p : Pl} {v : Value} (h : PlO w B p v) (hg : w.grownBy w' (some g)) (hgB : g < B) : PlO w' B p v := by
  obtain ⟨A, c, A', c', e, h1, h2⟩ := h
  exact ⟨A, c, A', c', e, h1.kept hg (.inr fun e => by have := (h1.lt _ e).1; omega), h2.kept hg (.inr fun e => by have := (h2.lt _ e).1; omega)⟩
/-- Its cells. -/
theorem PlO.cells {w : World} {B : Nat} {p : Pl} {v : Value} (h : PlO w B p v) : ∃ vs : List Value, v = .agg vs.toArray ∧ vs.length = 3 ∧ ∀ u ∈ vs, u.oneCell' = true := by
  obtain ⟨A, c, A', c', rfl, -⟩ := h
  exact ⟨[_, _, _], rfl, rfl, fun u hu => by simp at hu; rcases hu with rfl | rfl | rfl <;> rfl⟩
def pl0 : Pl := ⟨0, [], []⟩
theorem PlV.zero (w : World) : PlV w pl0 (.agg #[.int .i64 0, .slice none 0 0, .slice none 0 0]) := ⟨none, 0, none, 0, rfl, RD.nil _ _, RD.nil _ _, Nat.le_refl _, Nat.le_refl _⟩
theorem PlO.zero (w : World) (B : Nat) : PlO w B pl0 (.agg #[.int .i64 0, .slice none 0 0, .slice none 0 0]) := ⟨none, 0, none, 0, rfl, OwnD.nil _ _, OwnD.nil _ _⟩
theorem Try.build_Plan (v0 v1 v2 : Value) (k : Int) (A B : Option Addr) (n c m d : Nat) (h0 : v0 = .int .i64 k) (h1 : v1 = .slice A n c) (h2 : v2 = .slice B m d) (w : World) : (Instr.build 25 ([0, 1, 2].zip [v0, v1, v2]).toArray).run Try.prog w = .ok (.agg #[v0, v1, v2]) w := by
  subst h0; subst h1; subst h2; kernel_rfl
theorem Try.build_draft12 (A B : Option Addr) (n c m d : Nat) (w : World) : (Instr.build 57 ([1, 2].zip [Value.slice A n c, Value.slice B m d]).toArray).run Try.prog w = .ok (.agg #[.int .i64 0, .slice A n c, .slice B m d]) w := by kernel_rfl
theorem Try.build_Plan0 (w : World) : (Instr.build 25 (([] : List Nat).zip ([] : List Value)).toArray).run Try.prog w = .ok (.agg #[.int .i64 0, .slice none 0 0, .slice none 0 0]) w := by kernel_rfl
def pl0c : List Value := [.int .i64 0, .slice none 0 0, .slice none 0 0]

theorem C_cut {p : Pl} {v : Value} (n : Nat) (w : World) (hp : PlV w p v) (hk0 : 0 ≤ p.keep) (hk1 : p.keep ≤ 4000000) (h1 : n ≤ p.undo.length) (h2 : n ≤ p.doo.length) (h3 : p.undo.length ≤ 4000000) :
    CallsR Try.prog 33 [v, .int .i64 n] w fun v w' => PlV w' ⟨p.keep + n, p.undo.drop n, p.doo.drop n⟩ v ∧ Below w.heap.size w w' := by
  obtain ⟨A, c, B, d, rfl, hA, hB, hc, hd⟩ := hp
  refine callsR Try.func33 rfl rfl (by kernel_rfl) rfl ?_
  refine rk_seq ?_
  refine rk_region ?_
  refine wl_box [.int .i64 p.keep, .slice A p.undo.length c, .slice B p.doo.length d] rfl rfl ?_
  intro w1 hB1 hb1 hz1
  refine wl_alloc pl0c Try.zeroValue57 rfl ?_
  intro w2 hB2 hb2 hz2
  have hB12 := hB1.under hb2
  refine wl_nil ?_
  refine rk_seq ?_
  refine rk_region ?_
  refine wl_p (fun _ => o_faddr (s := 57) (i := 0) (off := 0) Try.underlying57 rfl Try.sizeOf3 rfl rfl rfl) ?_
  refine wl_r (o_loadb (t := 3) Try.isAgg3 rfl hB12 (by rfl)) ?_
  refine wl_p (fun _ => o_move rfl) ?_
  refine wl_p (fun _ => o_add rfl rfl (by omega) (by omega)) ?_
  refine wl_p (fun _ => o_faddr (s := 57) (i := 0) (off := 0) Try.underlying57 rfl Try.sizeOf3 rfl rfl rfl) ?_
  refine wl_store1 Try.sizeOf3 rfl rfl rfl hB12 (by simp) ?_
  intro w3 hB3 hg3 hz3
  replace hB3 := hB3.drew
  refine wl_nil ?_
  refine rk_seq ?_
  refine rk_draw (id := 2) (none) [0, 1, 0, 6, 0, 16, 0, 96, 63, 319, 1023, 2047] [0, 1, 0, 7, 0, 16, 0, 112, 63, 319, 1023, 2047] 2560 0 [(.p, 0), (.r, 1), (.p, 2), (.p, 3), (.p, 4), (.r, 5), (.p, 6), (.p, 7), (.p, 8), (.l, 9), (.p, 10), (.l, 11)] (by kernel_rfl) (by kernel_rfl) (by kernel_rfl) (by kernel_rfl) (by kernel_rfl) ?_
  refine wl_p (fun _ => o_faddr (s := 57) (i := 1) (off := 1) Try.underlying57 rfl Try.sizeOf23 rfl rfl rfl) ?_
  refine wl_r (o_loadb (t := 23) Try.isAgg23 rfl hB3 (by rfl)) ?_
  refine wl_p (fun _ => o_move rfl) ?_
  refine wl_p (fun _ => o_slice_lo (lo := n) Try.underlying23 Try.sizeOf50 rfl rfl rfl h1) ?_
  refine wl_p (fun _ => o_faddr (s := 57) (i := 2) (off := 2) Try.underlying57 rfl Try.sizeOf23 rfl rfl rfl) ?_
  refine wl_r (o_loadb (t := 23) Try.isAgg23 rfl hB3 (by rfl)) ?_
  refine wl_p (fun _ => o_move rfl) ?_
  refine wl_p (fun _ => o_slice_lo (lo := n) Try.underlying23 Try.sizeOf50 rfl rfl rfl h2) ?_
  refine wl_p (fun _ => o_faddr (s := 57) (i := 1) (off := 1) Try.underlying57 rfl Try.sizeOf23 rfl rfl rfl) ?_
  refine wl_store1 Try.sizeOf23 rfl rfl rfl hB3 (by simp) ?_
  intro w4 hB4 hg4 hz4
  refine wl_p (fun _ => o_faddr (s := 57) (i := 2) (off := 2) Try.underlying57 rfl Try.sizeOf23 rfl rfl rfl) ?_
  refine wl_store1 Try.sizeOf23 rfl rfl rfl hB4 (by simp) ?_
  intro w5 hB5 hg5 hz5
  have hgg : w2.grownBy w5 (some w.heap.size) := grownBy_trans hg3 (grownBy_trans (grownBy_drew _ _) (grownBy_trans hg4 hg5))
  have hw2 := hb1.trans (hb2.mono hb1.size)
  have hw5 : Below w.heap.size w w5 := hw2.trans (below_of_grownBy hgg hw2.size (Nat.le_refl _))
  have hB25 := hB2.grown hgg (by intro e; injection e with e; omega)
  refine wl_nild ?_
  refine rk_seq ?_
  refine rk_region ?_
  refine wl_r (o_load_all (t := 57) Try.isAgg57 Try.sizeOf57 rfl hB5 (by rfl)) ?_
  refine wl_store_all Try.sizeOf57 rfl rfl rfl (fun u hu => by simp at hu; rcases hu with rfl | rfl | rfl <;> rfl) hB25 rfl ?_
  intro w6 hB6 hg6 hz6
  have hw6 : Below w.heap.size w w6 := hw5.trans (below_of_grownBy hg6 hw5.size (by omega))
  refine wl_nil ?_
  refine ret_cell rfl rfl Try.isAgg57 Try.sizeOf57 hB6 rfl ?_
  refine ⟨⟨cutA A c 32 n, c - n, cutA B d 32 n, d - n, ?_, (hA.cut h1 hc).below hw6, (hB.cut h2 hd).below hw6, ?_, ?_⟩, hw6⟩
  · simp
  · simp; omega
  · simp; omega

theorem C_turn {p : Pl} {v : Value} (w : World) (hp : PlV w p v) :
    CallsR Try.prog 39 [v] w fun v w' => PlV w' ⟨p.keep, p.doo, p.undo⟩ v ∧ Below w.heap.size w w' := by
  obtain ⟨A, c, B, d, rfl, hA, hB, hc, hd⟩ := hp
  refine callsR Try.func39 rfl rfl (by kernel_rfl) rfl ?_
  refine rk_seq ?_
  refine rk_region ?_
  refine wl_box [.int .i64 p.keep, .slice A p.undo.length c, .slice B p.doo.length d] rfl rfl ?_
  intro w1 hB1 hb1 hz1
  refine wl_alloc pl0c Try.zeroValue57 rfl ?_
  intro w2 hB2 hb2 hz2
  have hB12 := hB1.under hb2
  refine wl_nil ?_
  refine rk_seq ?_
  refine rk_region ?_
  refine wl_p (fun _ => o_faddr (s := 57) (i := 2) (off := 2) Try.underlying57 rfl Try.sizeOf23 rfl rfl rfl) ?_
  refine wl_r (o_loadb (t := 23) Try.isAgg23 rfl hB12 (by rfl)) ?_
  refine wl_p (fun _ => o_faddr (s := 57) (i := 1) (off := 1) Try.underlying57 rfl Try.sizeOf23 rfl rfl rfl) ?_
  refine wl_r (o_loadb (t := 23) Try.isAgg23 rfl hB12 (by rfl)) ?_
  refine wl_p (fun _ => o_faddr (s := 57) (i := 1) (off := 1) Try.underlying57 rfl Try.sizeOf23 rfl rfl rfl) ?_
  refine wl_store1 Try.sizeOf23 rfl rfl rfl hB12 (by simp) ?_
  intro w4 hB4 hg4 hz4
  refine wl_p (fun _ => o_faddr (s := 57) (i := 2) (off := 2) Try.underlying57 rfl Try.sizeOf23 rfl rfl rfl) ?_
  refine wl_store1 Try.sizeOf23 rfl rfl rfl hB4 (by simp) ?_
  intro w5 hB5 hg5 hz5
  have hgg : w2.grownBy w5 (some w.heap.size) := grownBy_trans hg4 hg5
  have hw2 := hb1.trans (hb2.mono hb1.size)
  have hw5 : Below w.heap.size w w5 := hw2.trans (below_of_grownBy hgg hw2.size (Nat.le_refl _))
  have hB25 := hB2.grown hgg (by intro e; injection e with e; omega)
  refine wl_nil ?_
  refine rk_seq ?_
  refine rk_region ?_
  refine wl_r (o_load_all (t := 57) Try.isAgg57 Try.sizeOf57 rfl hB5 (by rfl)) ?_
  refine wl_store_all Try.sizeOf57 rfl rfl rfl (fun u hu => by simp at hu; rcases hu with rfl | rfl | rfl <;> rfl) hB25 rfl ?_
  intro w6 hB6 hg6 hz6
  have hw6 : Below w.heap.size w w6 := hw5.trans (below_of_grownBy hg6 hw5.size (by omega))
  refine wl_nil ?_
  refine ret_cell rfl rfl Try.isAgg57 Try.sizeOf57 hB6 rfl ?_
  exact ⟨⟨B, d, A, c, rfl, hB.below hw6, hA.below hw6, hd, hc⟩, hw6⟩

theorem C_dplan {p : Pl} {v : Value} (w : World) (hp : PlV w p v) (h1 : p.undo.length ≤ 4000000) (h2 : p.doo.length ≤ 4000000) :
    CallsR Try.prog 35 [v] w fun v w' => PlO w' w.heap.size p v ∧ Below w.heap.size w w' := by
  obtain ⟨A, c, B, d, rfl, hA, hB, hc, hd⟩ := hp
  refine callsR Try.func35 rfl rfl (by kernel_rfl) rfl ?_
  refine rk_seq ?_
  refine rk_region ?_
  refine wl_box [.int .i64 p.keep, .slice A p.undo.length c, .slice B p.doo.length d] rfl rfl ?_
  intro w1 hB1 hb1 hz1
  refine wl_alloc pl0c Try.zeroValue25 rfl ?_
  intro w2 hB2 hb2 hz2
  have hB12 := (hB1.under hb2).drew
  have hw2 := (hb1.trans (hb2.mono hb1.size)).drew
  refine wl_nil ?_
  refine rk_seq ?_
  refine rk_drawo (id := 1) (none) [0, 1, 0, 4, 8, 0, 32, 80, 146, 511] [0, 1, 0, 4, 12, 0, 32, 124, 255, 511] 656 144 [0, 1, 2, 3, 5, 6, 4, 7, 8, 9] [(.p, 0), (.s, 1), (.p, 2), (.r, 3), (.p, 5), (.s, 6), (.c, 4), (.c, 7), (.p, 8), (.l, 9)] (by kernel_rfl) (by kernel_rfl) (by kernel_rfl) (by kernel_rfl) (by kernel_rfl) ?_
  dsimp only [inOrder, nthOp]
  refine wl_p (fun _ => o_faddr (s := 57) (i := 0) (off := 0) Try.underlying57 rfl Try.sizeOf3 rfl rfl rfl) ?_
  refine wl_s (fun _ hk => o_loadb (t := 3) Try.isAgg3 rfl (hB12.grown hk (Option.some_ne_none _)) (by rfl)) ?_
  refine wl_p (fun _ => o_faddr (s := 57) (i := 1) (off := 1) Try.underlying57 rfl Try.sizeOf23 rfl rfl rfl) ?_
  refine wl_r (o_loadb (t := 23) Try.isAgg23 rfl hB12 (by rfl)) ?_
  refine wl_p (fun _ => o_faddr (s := 57) (i := 2) (off := 2) Try.underlying57 rfl Try.sizeOf23 rfl rfl rfl) ?_
  refine wl_s (fun _ hk => o_loadb (t := 23) Try.isAgg23 rfl (hB12.grown hk (Option.some_ne_none _)) (by rfl)) ?_
  refine wl_call rfl (C_Clone c rfl w2.drew (hA.below hw2) h1) ?_ (hq := .inr fun _ _ h => grown_of_below h.choose_spec.choose_spec.2.2 _)
  rintro _ w3 ⟨A3, c3, rfl, hown3, hb3⟩
  have hw3 := hw2.trans (hb3.mono hw2.size)
  refine wl_call rfl (C_Clone d rfl w3 (hB.below hw3) h2) ?_ (hq := .inr fun _ _ h => grown_of_below h.choose_spec.choose_spec.2.2 _)
  rintro _ w4 ⟨B4, d4, rfl, hown4, hb4⟩
  have hw4 := hw3.trans (hb4.mono hw3.size)
  refine wl_p (fun _ => o_build (is := [0, 1, 2]) (xs := [.tmp 4, .tmp 7, .tmp 10]) rfl (fun w => Try.build_Plan _ _ _ _ _ _ _ _ _ _ rfl rfl rfl w)) ?_
  refine wl_store_all Try.sizeOf25 rfl rfl rfl (fun u hu => by simp at hu; rcases hu with rfl | rfl | rfl <;> rfl) ((hB2.drew.under hb3).under hb4) rfl ?_
  intro w5 hB5 hg5 hz5
  have hw5 := hw4.trans (below_of_grownBy hg5 hw4.size (by omega))
  refine wl_nild ?_
  refine ret_cell rfl rfl Try.isAgg25 Try.sizeOf25 hB5 rfl ?_
  have s2 : w.heap.size ≤ w2.heap.size := hw2.size
  have hne3 : blk A3 = none ∨ blk A3 ≠ some w1.heap.size := .inr fun e => by have h9 : w2.heap.size ≤ w1.heap.size := (hown3.lt _ e).1; omega
  have hne4 : blk B4 = none ∨ blk B4 ≠ some w1.heap.size := .inr fun e => by have h9 : w3.heap.size ≤ w1.heap.size := (hown4.lt _ e).1; have h8 : w2.heap.size ≤ w3.heap.size := hb3.size; omega
  exact ⟨⟨A3, c3, B4, d4, rfl, ((hown3.below hb4).kept hg5 hne3).base hw2.size, (hown4.kept hg5 hne4).base hw3.size⟩, hw5⟩

def pFrom (a b : List Dg) : Pl × Nat := if uniq a && uniq b then (⟨common a b, a.drop (common a b), b.drop (common a b)⟩, 0) else (pl0, 2)
theorem C_From {A B : Option Addr} {a b : List Dg} {k m : Nat} (c d : Nat) (hk : k = a.length) (hm : m = b.length) (w : World) (hra : RD w A a) (hrb : RD w B b) (hla : a.length ≤ 4000000) (hlb : b.length ≤ 4000000) (hc : a.length ≤ c) (hd : b.length ≤ d) :
    CallsR Try.prog 12 [.slice A k c, .slice B m d] w fun v w' => ∃ u, v = .tuple #[u, .int .i64 (pFrom a b).2] ∧ PlO w' w.heap.size (pFrom a b).1 u ∧ Below w.heap.size w w' := by
  subst hk; subst hm
  obtain ⟨hc1, hc2⟩ := common_le a b
  refine callsR Try.func12 rfl rfl (by kernel_rfl) rfl ?_
  refine rk_seq ?_
  refine rk_region ?_
  refine wl_alloc pl0c Try.zeroValue25 rfl ?_
  intro w1 hB1 hb1 hz1
  refine wl_p (fun _ => o_assign rfl) ?_
  refine wl_nil ?_
  refine rk_seq ?_
  refine rk_region ?_
  refine wl_p (fun _ => o_move rfl) ?_
  refine wl_call rfl (C_setOf c rfl w1 (hra.below hb1) hla) ?_
  rintro _ w2 ⟨s2, n2, rfl, hs2, hS2, hb2⟩
  have hw2 := hb1.trans (hb2.mono hb1.size)
  refine wl_p (fun _ => o_move rfl) ?_
  refine wl_p (fun _ => o_ext20 rfl) ?_
  refine wl_p (fun _ => o_ext21 rfl) ?_
  refine wl_p (fun _ => o_assign rfl) ?_
  refine wl_p (fun _ => o_assign rfl) ?_
  refine wl_nil ?_
  refine rk_seq ?_
  refine rk_region ?_
  refine wl_p (fun _ => o_move rfl) ?_
  refine wl_call rfl (C_setOf d rfl w2 (hrb.below hw2) hlb) ?_
  rintro _ w3 ⟨s3, n3, rfl, hs3, hS3, hb3⟩
  have hw3 := hw2.trans (hb3.mono hw2.size)
  have hB3 := (hB1.under hb2).under hb3
  refine wl_p (fun _ => o_move rfl) ?_
  refine wl_p (fun _ => o_ext20 rfl) ?_
  refine wl_p (fun _ => o_ext21 rfl) ?_
  refine wl_p (fun _ => o_assign rfl) ?_
  refine wl_p (fun _ => o_assign rfl) ?_
  refine wl_nil ?_
  refine rk_seq ?_
  refine rk_seq ?_
  refine rk_region ?_
  refine wl_p (fun _ => o_move rfl) ?_
  refine wl_p (fun _ => o_not rfl) ?_
  refine wl_p (fun _ => o_move rfl) ?_
  refine wl_bool 22 rfl (fun h22 => ?_) (fun h22 => ?_)
  · have e : pFrom a b = (pl0, 2) := by unfold pFrom; rw [if_neg (by simp [show uniq a = false by simpa using h22])]
    rw [e]
    refine wl_off ?_
    refine wl_off ?_
    refine wl_p (fun _ => o_pick_t rfl rfl) ?_
    refine wl_nil ?_
    refine rk_true rfl ?_
    refine rk_seq ?_
    refine rk_region ?_
    refine wl_p (fun _ => o_build (is := []) (xs := []) (vs := []) rfl Try.build_Plan0) ?_
    refine wl_store_all Try.sizeOf25 rfl rfl rfl (fun u hu => by simp at hu; rcases hu with rfl | rfl | rfl <;> rfl) hB3 rfl ?_
    intro w4 hB4 hg4 hz4
    refine wl_p (fun _ => o_assign rfl) ?_
    refine wl_nil ?_
    refine ret_cell_tmp rfl rfl rfl Try.isAgg25 Try.sizeOf25 hB4 rfl ?_
    exact ⟨_, rfl, PlO.zero _ _, hw3.trans (below_of_grownBy hg4 hw3.size (Nat.le_refl _))⟩
  have ha : uniq a = true := by simpa using h22
  refine wl_p (fun _ => o_move rfl) ?_
  refine wl_p (fun _ => o_not rfl) ?_
  refine wl_p (fun _ => o_pick_f rfl rfl) ?_
  refine wl_nil ?_
  refine rk_cond rfl (fun h => ?_) (fun h => ?_)
  · have e : pFrom a b = (pl0, 2) := by unfold pFrom; rw [if_neg (by simp [show uniq b = false by simpa using h])]
    rw [e]
    refine rk_seq ?_
    refine rk_region ?_
    refine wl_p (fun _ => o_build (is := []) (xs := []) (vs := []) rfl Try.build_Plan0) ?_
    refine wl_store_all Try.sizeOf25 rfl rfl rfl (fun u hu => by simp at hu; rcases hu with rfl | rfl | rfl <;> rfl) hB3 rfl ?_
    intro w4 hB4 hg4 hz4
    refine wl_p (fun _ => o_assign rfl) ?_
    refine wl_nil ?_
    refine ret_cell_tmp rfl rfl rfl Try.isAgg25 Try.sizeOf25 hB4 rfl ?_
    exact ⟨_, rfl, PlO.zero _ _, hw3.trans (below_of_grownBy hg4 hw3.size (Nat.le_refl _))⟩
  have hb : uniq b = true := by simpa using h
  have e : pFrom a b = (⟨common a b, a.drop (common a b), b.drop (common a b)⟩, 0) := by unfold pFrom; rw [if_pos (by simp [ha, hb])]
  rw [e]
  refine rk_skip ?_
  refine rk_seq ?_
  refine rk_region ?_
  refine wl_p (fun _ => o_move rfl) ?_
  refine wl_p (fun _ => o_move rfl) ?_
  refine wl_p (fun _ => o_build (is := [1, 2]) (xs := [.tmp 27, .tmp 28]) rfl (fun w => Try.build_draft12 _ _ _ _ _ _ w)) ?_
  refine wl_p (fun _ => o_move rfl) ?_
  refine wl_p (fun _ => o_move rfl) ?_
  refine wl_call rfl (C_Common c d rfl rfl w3 (hra.below hw3) (hrb.below hw3) hla hlb) ?_
  rintro _ w4 ⟨rfl, hb4⟩
  have hw4 := hw3.trans (hb4.mono hw3.size)
  have hP4 : PlV w4 ⟨0, a, b⟩ (.agg #[.int .i64 0, .slice A a.length c, .slice B b.length d]) := ⟨A, c, B, d, rfl, hra.below hw4, hrb.below hw4, hc, hd⟩
  refine wl_call rfl (C_cut (common a b) w4 hP4 (Int.le_refl _) (by simp) hc1 hc2 hla) ?_
  rintro v5 w5 ⟨hP5, hb5⟩
  have hw5 := hw4.trans (hb5.mono hw4.size)
  refine wl_call rfl (C_dplan w5 hP5 (by simp; omega) (by simp; omega)) ?_
  rintro v6 w6 ⟨hP6, hb6⟩
  have hw6 := hw5.trans (hb6.mono hw5.size)
  obtain ⟨vs, rfl, hvl, hv1⟩ := hP6.cells
  have hB6 := ((hB3.under hb4).under hb5).under hb6
  refine wl_store_all Try.sizeOf25 rfl rfl hvl hv1 hB6 rfl ?_
  intro w7 hB7 hg7 hz7
  refine wl_p (fun _ => o_assign rfl) ?_
  refine wl_nil ?_
  refine ret_cell_tmp rfl rfl rfl Try.isAgg25 Try.sizeOf25 hB7 hvl ?_
  have h51 : w.heap.size < w5.heap.size := by have := hb2.size; have := hb3.size; have := hb4.size; have := hb5.size; omega
  refine ⟨_, rfl, ?_, hw6.trans (below_of_grownBy hg7 hw6.size (Nat.le_refl _))⟩
  have := (hP6.kept hg7 h51).base (Nat.le_of_lt h51)
  simpa using this
end Go.Proofs.Ytbncaabcddoicaa
