/-
  Walks of chapter 18: names of numbers, copies, comparisons.
-/
import Derived.Test.YtbncaabcddoicaaReoF
namespace Go.Proofs.Ytbncaabcddoicaa
open Go.RowKit

def byteZ (z : Int) : UInt8 := UInt8.ofNat (z % 256).toNat
theorem wrap_byteZ (z : Int) : IntKind.u8.wrap z = ((byteZ z).toNat : Int) := by
  show z % 256 = _
  unfold byteZ
  rw [UInt8.toNat_ofNat']
  omega
/-- The name of a small number. -/
def nm (z : Int) : Dg := ⟨byteZ z :: byteZ (z / 256) :: 1 :: List.replicate 29 0, rfl⟩
theorem ints_at {w : World} {A : Option Addr} {zs : List Int} {k : IntKind} (h : Reads w 1 A zs.length (zs.map (Value.int k))) (hn : zs ≠ []) :
    ∃ b o, A = some ⟨b, o, none⟩ ∧ ∀ j (hj : j < zs.length), w.cell? ⟨b, o + j, none⟩ = some (.int k zs[j]) := by
  obtain ⟨b, o, rfl, hc⟩ := h.2 (by simpa using hn)
  exact ⟨b, o, rfl, fun j hj => hc j _ (by rw [List.getElem?_map, List.getElem?_eq_getElem hj]; rfl)⟩
theorem Try.build_name (a b : Int) (w : World) : (Instr.build 50 ([0, 1, 2].zip [Value.int .u8 a, Value.int .u8 b, Value.int .u8 1]).toArray).run Try.prog w = .ok (.agg (Value.int .u8 a :: Value.int .u8 b :: Value.int .u8 1 :: List.replicate 29 (Value.int .u8 0)).toArray) w := by kernel_rfl
theorem vD_nm (z : Int) : vD (nm z) = .agg (Value.int .u8 (IntKind.u8.wrap z) :: Value.int .u8 (IntKind.u8.wrap (z / 2 ^ min (Int.toNat 8) IntKind.i64.bits)) :: Value.int .u8 1 :: List.replicate 29 (Value.int .u8 0)).toArray := by
  have e8 : (2 ^ min (Int.toNat 8) IntKind.i64.bits : Int) = 256 := by decide
  rw [e8, wrap_byteZ, wrap_byteZ]
  rfl

theorem C_names {A : Option Addr} {zs : List Int} {k : Nat} (c : Nat) (hk : k = zs.length) (w : World) (hr : Reads w 1 A zs.length (zs.map (Value.int .i64))) (hl : zs.length ≤ 1000000) :
    CallsR Try.prog 10 [.slice A k c] w fun v w' => ∃ A' c', v = .slice A' zs.length c' ∧ OwnD w' w.heap.size A' c' (zs.map nm) ∧ Below w.heap.size w w' := by
  subst hk
  refine callsR Try.func10 rfl rfl (by kernel_rfl) rfl ?_
  refine rk_seq ?_
  refine rk_region ?_
  refine wl_p (fun _ => o_assign rfl) ?_
  refine wl_nil ?_
  refine rk_seq ?_
  refine rk_region ?_
  refine wl_p (fun _ => o_assign rfl) ?_
  refine wl_nil ?_
  refine rk_seq ?_
  refine rk_seq ?_
  refine rk_region ?_
  refine wl_p (fun _ => o_assign rfl) ?_
  refine wl_nil ?_
  refine rk_block ?_
  refine rk_joinb (fun fr w' => ∃ A' c', fr = [(3, .slice A' zs.length c')] ∧ OwnD w' w.heap.size A' c' (zs.map nm) ∧ Below w.heap.size w w') ?_ (fun ks hj => ?_)
  rotate_left
  · refine rk_loop (fun m fr w' => ∃ (i : Nat) (v : Int) (A' : Option Addr) (c' : Nat), fr = [(0, .slice A zs.length c), (3, .slice A' i c'), (4, .int .i64 v)] ∧ v = i ∧ i ≤ zs.length ∧ m = zs.length - i ∧ OwnD w' w.heap.size A' c' ((zs.take i).map nm) ∧ Below w.heap.size w w') (n := zs.length) (by repeat' constructor)
      ⟨0, _, none, 0, rfl, rfl, by omega, rfl, OwnD.nil _ _, Below.refl _ _⟩ ?_
    rintro m fr w2 ⟨i, v, A', c', rfl, rfl, hi, rfl, hown2, hw2⟩
    refine rk_seq ?_
    refine rk_seq ?_
    refine rk_region ?_
    refine wl_p (fun _ => o_move rfl) ?_
    refine wl_p (fun _ => o_move rfl) ?_
    refine wl_p (fun _ => o_len (t := 22) Try.underlying22 rfl) ?_
    refine wl_p (fun _ => o_lt rfl rfl) ?_
    refine wl_nil ?_
    refine rk_if rfl (fun h => ?_) (fun h => ?_)
    · have hil : i < zs.length := by omega
      obtain ⟨bb, oo, rfl, hcell⟩ := ints_at (hr.below hw2) (by intro e; rw [e] at hil; simp at hil)
      have hci := hcell i hil
      have htk : (zs.take (i + 1)).map nm = (zs.take i).map nm ++ [nm zs[i]] := by rw [List.take_succ_eq_append_getElem hil, List.map_append, List.map_cons, List.map_nil]
      have hlt : ((zs.take i).map nm).length = i := by simp; omega
      generalize zs[i] = z at hci htk
      refine rk_skip ?_
      refine rk_seq ?_
      refine rk_block ?_
      refine rk_draw (id := 5) (none) [0, 0, 0, 6, 8, 16, 0, 0, 192, 256, 512, 1024, 2080, 4096, 8193, 32767] [0, 0, 0, 6, 14, 30, 0, 0, 192, 448, 960, 1984, 4094, 8190, 16383, 32767] 24576 0 [(.p, 0), (.p, 1), (.p, 2), (.p, 3), (.r, 4), (.p, 5), (.p, 6), (.p, 7), (.p, 8), (.r, 9), (.p, 10), (.p, 11), (.p, 12), (.l, 13), (.l, 14), (.p, 15)] (by kernel_rfl) (by kernel_rfl) (by kernel_rfl) (by kernel_rfl) (by kernel_rfl) ?_
      refine wl_p (fun _ => o_move rfl) ?_
      refine wl_p (fun _ => o_move rfl) ?_
      refine wl_p (fun _ => o_move rfl) ?_
      refine wl_p (fun _ => o_iaddr1 (j := i) Try.underlying22 Try.sizeOf3 rfl rfl rfl hil) ?_
      refine wl_r (o_load (t := 3) Try.isAgg3 rfl hci) ?_
      refine wl_p (fun _ => o_convi (src := 3) (dst := 5) Try.underlying3 Try.underlying5 rfl) ?_
      refine wl_p (fun _ => o_move rfl) ?_
      refine wl_p (fun _ => o_move rfl) ?_
      refine wl_p (fun _ => o_iaddr1 (j := i) Try.underlying22 Try.sizeOf3 rfl rfl rfl hil) ?_
      refine wl_r (o_load (t := 3) Try.isAgg3 rfl hci) ?_
      refine wl_p (fun _ => o_shr rfl rfl (by omega)) ?_
      refine wl_p (fun _ => o_convi (src := 3) (dst := 5) Try.underlying3 Try.underlying5 rfl) ?_
      refine wl_p (fun _ => o_as (o_build (is := [0, 1, 2]) (xs := [.tmp 16, .tmp 22, .const (.int .u8 1)]) rfl (fun w => Try.build_name _ _ w)) (vD_nm z).symm) ?_
      refine wl_litD (xs := [.tmp 23]) [nm z] 1 rfl rfl rfl ?_
      intro w3 hown3 hb3 hz3
      refine wl_appD rfl hlt.symm (hown2.drew.below hb3) rfl rfl (hown3 _ (Nat.le_refl _)).rd (by simp; omega) (hw2.drew.trans (hb3.mono hw2.size)).size ?_
      intro A4 c4 w4 hown4 hg4 hk4 hb4
      rw [← htk] at hown4
      rw [List.length_append, hlt]
      refine wl_p (fun _ => o_assign rfl) ?_
      refine wl_nild ?_
      refine rk_blk ?_
      refine rk_region ?_
      refine wl_p (fun _ => o_move rfl) ?_
      refine wl_p (fun _ => o_add rfl rfl (by omega) (by omega)) ?_
      refine wl_p (fun _ => o_assign rfl) ?_
      refine wl_nil ?_
      exact rk_again (by repeat' constructor) ⟨i + 1, _, A4, c4, rfl, rfl, by omega, rfl, hown4, (hw2.drew.trans (hb3.mono hw2.size)).trans hb4⟩ (by omega)
    · have e : zs.take i = zs := List.take_of_length_le (by omega)
      rw [e] at hown2
      obtain rfl : i = zs.length := by omega
      refine rk_exit rfl ?_
      exact rk_to hj (by repeat' constructor) ⟨A', c', rfl, hown2, hw2⟩
  rintro fr w2 ⟨A', c', rfl, hown2, hw2⟩
  refine rk_seq ?_
  refine rk_region ?_
  refine wl_p (fun _ => o_move rfl) ?_
  refine wl_p (fun _ => o_assign rfl) ?_
  refine wl_nil ?_
  refine ret1 rfl rfl ?_
  exact ⟨A', c', rfl, hown2, hw2⟩

theorem C_Names {A : Option Addr} {L : List Dg} {k : Nat} (c : Nat) (hk : k = L.length) (w : World) (hr : RD w A L) (hL : L.length ≤ 4000000) :
    CallsR Try.prog 13 [.slice A k c] w fun v w' => ∃ A' c', v = .slice A' L.length c' ∧ OwnD w' w.heap.size A' c' L ∧ Below w.heap.size w w' := by
  subst hk
  refine callsR Try.func13 rfl rfl (by kernel_rfl) rfl ?_
  refine rk_seq ?_
  refine rk_region ?_
  refine wl_p (fun _ => o_assign rfl) ?_
  refine wl_nil ?_
  refine rk_seq ?_
  refine rk_region ?_
  refine wl_litD (xs := []) [] 0 rfl rfl rfl ?_
  intro w1 hown1 hb1 hz1
  refine wl_p (fun _ => o_move rfl) ?_
  refine wl_appD (L := []) rfl rfl (hown1 _ (Nat.le_refl _)) rfl rfl (hr.below hb1) (by simpa using hL) hb1.size ?_
  intro A' c' w2 hown2 hg2 hk2 hb2
  refine wl_p (fun _ => o_assign rfl) ?_
  refine wl_nil ?_
  refine ret1 rfl rfl ?_
  exact ⟨A', c', rfl, hown2, hb1.trans hb2⟩

theorem C_Digests {A B : Option Addr} {a b : List Dg} {k m : Nat} (c d : Nat) (hk : k = a.length) (hm : m = b.length) (w : World) (hra : RD w A a) (hrb : RD w B b) (hla : a.length ≤ 4000000) (_hlb : b.length ≤ 4000000) :
    CallsR Try.prog 14 [.slice A k c, .slice B m d] w fun v w' => v = .bool (decide (a = b)) ∧ Below w.heap.size w w' := by
  subst hk; subst hm
  refine callsR Try.func14 rfl rfl (by kernel_rfl) rfl ?_
  refine rk_seq ?_
  refine rk_region ?_
  refine wl_p (fun _ => o_assign rfl) ?_
  refine wl_nil ?_
  refine rk_seq ?_
  refine rk_seq ?_
  refine rk_region ?_
  refine wl_p (fun _ => o_move rfl) ?_
  refine wl_p (fun _ => o_len (t := 23) Try.underlying23 rfl) ?_
  refine wl_p (fun _ => o_move rfl) ?_
  refine wl_p (fun _ => o_len (t := 23) Try.underlying23 rfl) ?_
  refine wl_p (fun _ => o_ne rfl rfl) ?_
  refine wl_nil ?_
  refine rk_if rfl (fun h => ?_) (fun h => ?_)
  · refine rk_seq ?_
    refine rk_region ?_
    refine wl_p (fun _ => o_assign rfl) ?_
    refine wl_nil ?_
    refine ret1 rfl rfl ?_
    exact ⟨by rw [decide_eq_false (fun e => h (by rw [e]))], Below.refl _ _⟩
  have hab : a.length = b.length := by omega
  refine rk_skip ?_
  refine rk_seq ?_
  refine rk_seq ?_
  refine rk_region ?_
  refine wl_p (fun _ => o_assign rfl) ?_
  refine wl_nil ?_
  refine rk_block ?_
  refine rk_joinb (fun fr w' => fr = [] ∧ a = b ∧ Below w.heap.size w w') ?_ (fun ks hj => ?_)
  rotate_left
  · refine rk_loop (fun m fr w' => ∃ (i : Nat) (v : Int), fr = [(0, .slice A a.length c), (1, .slice B b.length d), (5, .int .i64 v)] ∧ v = i ∧ i ≤ a.length ∧ m = a.length - i ∧ a.take i = b.take i ∧ Below w.heap.size w w') (n := a.length) (by repeat' constructor)
      ⟨0, _, rfl, rfl, by omega, rfl, rfl, Below.refl _ _⟩ ?_
    rintro m fr w2 ⟨i, v, rfl, rfl, hi, rfl, ht, hw2⟩
    refine rk_seq ?_
    refine rk_seq ?_
    refine rk_region ?_
    refine wl_p (fun _ => o_move rfl) ?_
    refine wl_p (fun _ => o_move rfl) ?_
    refine wl_p (fun _ => o_len (t := 23) Try.underlying23 rfl) ?_
    refine wl_p (fun _ => o_lt rfl rfl) ?_
    refine wl_nil ?_
    refine rk_if rfl (fun h => ?_) (fun h => ?_)
    · have hia : i < a.length := by omega
      have hib : i < b.length := by omega
      obtain ⟨b1, o1, rfl, hc1⟩ := (hra.below hw2).at_ (by intro e; rw [e] at hia; simp at hia)
      obtain ⟨b2, o2, rfl, hc2⟩ := (hrb.below hw2).at_ (by intro e; rw [e] at hib; simp at hib)
      refine rk_skip ?_
      refine rk_seq ?_
      refine rk_block ?_
      refine rk_seq ?_
      refine rk_draw (id := 6) (none) [0, 0, 3, 4, 0, 0, 48, 64, 136] [0, 0, 3, 7, 0, 0, 48, 112, 255] 0 0 [(.p, 0), (.p, 1), (.p, 2), (.r, 3), (.p, 4), (.p, 5), (.p, 6), (.r, 7), (.p, 8)] (by kernel_rfl) (by kernel_rfl) (by kernel_rfl) (by kernel_rfl) (by kernel_rfl) ?_
      refine wl_p (fun _ => o_move rfl) ?_
      refine wl_p (fun _ => o_move rfl) ?_
      refine wl_p (fun _ => o_iaddr (j := i) Try.underlying23 Try.sizeOf50 rfl rfl rfl hia) ?_
      refine wl_r (o_loadD rfl (hc1 i hia)) ?_
      refine wl_p (fun _ => o_move rfl) ?_
      refine wl_p (fun _ => o_move rfl) ?_
      refine wl_p (fun _ => o_iaddr (j := i) Try.underlying23 Try.sizeOf50 rfl rfl rfl hib) ?_
      refine wl_r (o_loadD rfl (hc2 i hib)) ?_
      refine wl_p (fun _ => o_dne rfl rfl) ?_
      refine wl_nild ?_
      refine rk_if rfl (fun h => ?_) (fun h => ?_)
      · refine rk_seq ?_
        refine rk_region ?_
        refine wl_p (fun _ => o_assign rfl) ?_
        refine wl_nil ?_
        refine ret1 rfl rfl ?_
        exact ⟨by rw [decide_eq_false (fun e => h (by simp [e]))], hw2.drew⟩
      · refine rk_skip ?_
        refine rk_blk ?_
        refine rk_region ?_
        refine wl_p (fun _ => o_move rfl) ?_
        refine wl_p (fun _ => o_add rfl rfl (by omega) (by omega)) ?_
        refine wl_p (fun _ => o_assign rfl) ?_
        refine wl_nil ?_
        exact rk_again (by repeat' constructor) ⟨i + 1, _, rfl, by omega, by omega, rfl, take_next hia hib ht (Classical.not_not.1 h), hw2.drew⟩ (by omega)
    · have e : i = a.length := by omega
      rw [e, List.take_length, hab, List.take_length] at ht
      refine rk_exit rfl ?_
      exact rk_to hj (by repeat' constructor) ⟨rfl, ht, hw2⟩
  rintro fr w2 ⟨rfl, ht, hw2⟩
  refine rk_seq ?_
  refine rk_region ?_
  refine wl_p (fun _ => o_assign rfl) ?_
  refine wl_nil ?_
  refine ret1 rfl rfl ?_
  exact ⟨by rw [decide_eq_true ht], hw2⟩

theorem C_kPlan {p q : Pl} {v u : Value} (w : World) (hp : PlV w p v) (hq : PlV w q u) (h1 : p.undo.length ≤ 4000000) (h2 : p.doo.length ≤ 4000000) (h3 : q.undo.length ≤ 4000000) (h4 : q.doo.length ≤ 4000000) :
    CallsR Try.prog 17 [v, u] w fun v w' => v = .bool (decide (p = q)) ∧ Below w.heap.size w w' := by
  obtain ⟨A, c, B, d, rfl, hA, hB, hc, hd⟩ := hp
  obtain ⟨A', c', B', d', rfl, hA', hB', hc', hd'⟩ := hq
  obtain ⟨kp, L, M⟩ := p
  obtain ⟨kq, L', M'⟩ := q
  simp only at *
  refine callsR Try.func17 rfl rfl (by kernel_rfl) rfl ?_
  refine rk_seq ?_
  refine rk_region ?_
  refine wl_box [.int .i64 kp, .slice A L.length c, .slice B M.length d] rfl rfl ?_
  intro w1 hB1 hb1 hz1
  refine wl_box [.int .i64 kq, .slice A' L'.length c', .slice B' M'.length d'] rfl rfl ?_
  intro w2 hB2 hb2 hz2
  have hw2 := hb1.trans (hb2.mono hb1.size)
  have hB12 := hB1.under hb2
  refine wl_p (fun _ => o_assign rfl) ?_
  refine wl_nil ?_
  refine rk_seq ?_
  refine rk_region ?_
  refine wl_p (fun _ => o_faddr (s := 25) (i := 0) (off := 0) Try.underlying25 rfl Try.sizeOf3 rfl rfl rfl) ?_
  refine wl_r (o_loadb (t := 3) Try.isAgg3 rfl hB12 (by rfl)) ?_
  refine wl_p (fun _ => o_faddr (s := 25) (i := 0) (off := 0) Try.underlying25 rfl Try.sizeOf3 rfl rfl rfl) ?_
  refine wl_r (o_loadb (t := 3) Try.isAgg3 rfl hB2 (by rfl)) ?_
  refine wl_p (fun _ => o_eq rfl rfl) ?_
  refine wl_p (fun _ => o_move rfl) ?_
  refine wl_bool 10 rfl (fun h => ?_) (fun h => ?_)
  · obtain rfl : kp = kq := of_decide_eq_true h
    refine wl_p (fun _ => o_faddr (s := 25) (i := 1) (off := 1) Try.underlying25 rfl Try.sizeOf23 rfl rfl rfl) ?_
    refine wl_r (o_loadb (t := 23) Try.isAgg23 rfl hB12 (by rfl)) ?_
    refine wl_p (fun _ => o_faddr (s := 25) (i := 1) (off := 1) Try.underlying25 rfl Try.sizeOf23 rfl rfl rfl) ?_
    refine wl_r (o_loadb (t := 23) Try.isAgg23 rfl hB2 (by rfl)) ?_
    refine wl_call rfl (C_Digests c c' rfl rfl w2 (hA.below hw2) (hA'.below hw2) (by omega) (by omega)) ?_
    rintro _ w3 ⟨rfl, hb3⟩
    have hw3 := hw2.trans (hb3.mono hw2.size)
    have hB13 := hB12.under hb3
    have hB23 := hB2.under hb3
    refine wl_p (fun _ => o_pick_t rfl rfl) ?_
    refine wl_p (fun _ => o_move rfl) ?_
    refine wl_bool 17 rfl (fun h => ?_) (fun h => ?_)
    · obtain rfl : L = L' := of_decide_eq_true h
      refine wl_p (fun _ => o_faddr (s := 25) (i := 2) (off := 2) Try.underlying25 rfl Try.sizeOf23 rfl rfl rfl) ?_
      refine wl_r (o_loadb (t := 23) Try.isAgg23 rfl hB13 (by rfl)) ?_
      refine wl_p (fun _ => o_faddr (s := 25) (i := 2) (off := 2) Try.underlying25 rfl Try.sizeOf23 rfl rfl rfl) ?_
      refine wl_r (o_loadb (t := 23) Try.isAgg23 rfl hB23 (by rfl)) ?_
      refine wl_call rfl (C_Digests d d' rfl rfl w3 (hB.below hw3) (hB'.below hw3) (by omega) (by omega)) ?_
      rintro _ w4 ⟨rfl, hb4⟩
      refine wl_p (fun _ => o_pick_t rfl rfl) ?_
      refine wl_p (fun _ => o_assign rfl) ?_
      refine wl_nil ?_
      refine ret1 rfl rfl ?_
      exact ⟨congrArg Value.bool (by rw [Bool.eq_iff_iff]; simp), hw3.trans (hb4.mono hw3.size)⟩
    · have hne : L ≠ L' := of_decide_eq_false h
      refine wl_off ?_
      refine wl_off ?_
      refine wl_off ?_
      refine wl_off ?_
      refine wl_off ?_
      refine wl_p (fun _ => o_pick_f rfl rfl) ?_
      refine wl_p (fun _ => o_assign rfl) ?_
      refine wl_nil ?_
      refine ret1 rfl rfl ?_
      exact ⟨congrArg Value.bool (by symm; exact decide_eq_false (fun e => hne (by injection e))), hw3⟩
  · have hne : kp ≠ kq := of_decide_eq_false h
    refine wl_off ?_
    refine wl_off ?_
    refine wl_off ?_
    refine wl_off ?_
    refine wl_off ?_
    refine wl_p (fun _ => o_pick_f rfl rfl) ?_
    refine wl_p (fun _ => o_move rfl) ?_
    refine wl_off ?_
    refine wl_off ?_
    refine wl_off ?_
    refine wl_off ?_
    refine wl_off ?_
    refine wl_p (fun _ => o_pick_f rfl rfl) ?_
    refine wl_p (fun _ => o_assign rfl) ?_
    refine wl_nil ?_
    refine ret1 rfl rfl ?_
    exact ⟨congrArg Value.bool (by symm; exact decide_eq_false (fun e => hne (by injection e))), hw2⟩

theorem C_light {p : Pl} {v : Value} (w : World) (hp : PlV w p v) :
    CallsR Try.prog 9 [v] w fun v w' => v = .bool (decide (p.undo.length ≤ 40) && decide (p.doo.length ≤ 40)) ∧ Below w.heap.size w w' := by
  obtain ⟨A, c, B, d, rfl, hA, hB, hc, hd⟩ := hp
  refine callsR Try.func9 rfl rfl (by kernel_rfl) rfl ?_
  refine rk_seq ?_
  refine rk_region ?_
  refine wl_box [.int .i64 p.keep, .slice A p.undo.length c, .slice B p.doo.length d] rfl rfl ?_
  intro w1 hB1 hb1 hz1
  refine wl_p (fun _ => o_assign rfl) ?_
  refine wl_nil ?_
  refine rk_seq ?_
  refine rk_region ?_
  refine wl_p (fun _ => o_faddr (s := 25) (i := 1) (off := 1) Try.underlying25 rfl Try.sizeOf23 rfl rfl rfl) ?_
  refine wl_r (o_loadb (t := 23) Try.isAgg23 rfl hB1 (by rfl)) ?_
  refine wl_p (fun _ => o_len (t := 23) Try.underlying23 rfl) ?_
  refine wl_p (fun _ => o_le rfl rfl) ?_
  refine wl_p (fun _ => o_move rfl) ?_
  refine wl_bool 7 rfl (fun h => ?_) (fun h => ?_)
  · have h40 : p.undo.length ≤ 40 := by have := of_decide_eq_true h; omega
    refine wl_p (fun _ => o_faddr (s := 25) (i := 2) (off := 2) Try.underlying25 rfl Try.sizeOf23 rfl rfl rfl) ?_
    refine wl_r (o_loadb (t := 23) Try.isAgg23 rfl hB1 (by rfl)) ?_
    refine wl_p (fun _ => o_len (t := 23) Try.underlying23 rfl) ?_
    refine wl_p (fun _ => o_le rfl rfl) ?_
    refine wl_p (fun _ => o_pick_t rfl rfl) ?_
    refine wl_p (fun _ => o_assign rfl) ?_
    refine wl_nil ?_
    refine ret1 rfl rfl ?_
    refine ⟨congrArg Value.bool ?_, hb1⟩
    rw [decide_eq_true h40, Bool.true_and, Bool.eq_iff_iff]
    simp
    omega
  · have h40 : ¬ p.undo.length ≤ 40 := by have := of_decide_eq_false h; omega
    refine wl_off ?_
    refine wl_off ?_
    refine wl_off ?_
    refine wl_off ?_
    refine wl_p (fun _ => o_pick_f rfl rfl) ?_
    refine wl_p (fun _ => o_assign rfl) ?_
    refine wl_nil ?_
    refine ret1 rfl rfl ?_
    exact ⟨by rw [decide_eq_false h40]; rfl, hb1⟩
end Go.Proofs.Ytbncaabcddoicaa
