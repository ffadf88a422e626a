/-
  Walks of nets compared.
-/
import Derived.Test.YtaldpegegekbjaaNetG
import Derived.Test.YtaldpegegekbjaaZ
import Derived.Test.YtaldpegegekbjaaCmp
namespace Go.Proofs.Ytaldpegegekbjaa
open Go.RowKit
section
variable {N : Nat} {fr : Fr} {w w0 : World} {ty : TypeId} {x : Operand}
--@ rule load r o_ldCE
theorem o_ldCE {A : Option Addr} {k : Nat} {a b c : Value} (hx : fr.ev x = some (.pointer (some (adr A k)))) (hc : CellsAt w0 A k [a, b, c]) (hb : Below w0.heap.size w0 w) : OpV Try.prog N fr w (.load 38 x) ty (.agg #[a, b, c]) w :=
  o_loadn (cs := [a, b, c]) Try.isAgg38 Try.sizeOf38 hx (fun i u hu => by rw [adr_add]; exact hc.u hb i u hu)
end
theorem C_IntsZ {A B : Option Addr} {a b : List Int} {n m c d : Nat} (w : World) (hA : RZ w A a) (hB : RZ w B b) (hn : n = a.length) (hm : m = b.length) (hl : a.length ≤ 4000000000) (hl2 : b.length ≤ 4000000000) :
    CallsR Try.prog 22 [.slice A n c, .slice B m d] w fun v w' => v = .bool (decide (a = b)) ∧ Below w.heap.size w w' := by
  subst hn; subst hm
  refine callsR Try.func22 rfl rfl (by kernel_rfl) rfl ?_
  have hw := Below.refl w.heap.size w
  refine rk_seq ?_
  refine rk_region ?_
  refine wl_p (fun _ => o_assign rfl) ?_
  refine wl_nil ?_
  refine rk_seq ?_
  refine rk_seq ?_
  refine rk_region ?_
  refine wl_p (fun _ => o_move rfl) ?_
  refine wl_p (fun _ => o_len (t := 51) Try.underlying51 rfl) ?_
  refine wl_p (fun _ => o_move rfl) ?_
  refine wl_p (fun _ => o_len (t := 51) Try.underlying51 rfl) ?_
  refine wl_p (fun _ => o_ne rfl rfl) ?_
  refine wl_nil ?_
  refine rk_if rfl (fun h10 => ?_) (fun h10 => ?_)
  · refine rk_seq ?_
    refine rk_region ?_
    refine wl_p (fun _ => o_assign rfl) ?_
    refine wl_nil ?_
    refine ret1 rfl rfl ?_
    exact ⟨by rw [decide_eq_false (fun e => by rw [e] at h10; omega)], hw⟩
  · refine rk_skip ?_
    refine rk_seq ?_
    refine rk_seq ?_
    refine rk_region ?_
    refine wl_p (fun _ => o_assign rfl) ?_
    refine wl_nil ?_
    refine rk_block ?_
    refine rk_joinf (fun fb fr w2 => fr = [] ++ fb.drop 1 ∧ a = b ∧ Below w.heap.size w w2) ?_ (fun ks hj => ?_)
    rotate_left
    · refine rk_loopf (fun fb k fr w2 => ∃ (i : Nat) (v : Int), fr = [(5, .int .i64 v)] ++ fb.drop 1 ∧ v = i ∧ i ≤ a.length ∧ k = a.length - i ∧ a.take i = b.take i ∧ Below w.heap.size w w2) (n := a.length) (Fr.le_of (by kernel_rfl) (by kernel_rfl) (by repeat' constructor)) ⟨0, _, rfl, rfl, by omega, rfl, rfl, hw⟩ ?_
      clear hw
      rintro k fr w2 ⟨i, v, rfl, rfl, hi, rfl, heq, hw⟩
      first | refine rk_frame (by simp only [List.cons_append, List.nil_append, List.drop_succ_cons, List.drop_zero]; rfl) ?_ | refine wl_frame (by simp only [List.cons_append, List.nil_append, List.drop_succ_cons, List.drop_zero]; rfl) ?_
      refine rk_seq ?_
      refine rk_seq ?_
      refine rk_region ?_
      refine wl_p (fun _ => o_move rfl) ?_
      refine wl_p (fun _ => o_move rfl) ?_
      refine wl_p (fun _ => o_len (t := 51) Try.underlying51 rfl) ?_
      refine wl_p (fun _ => o_lt rfl rfl) ?_
      refine wl_nil ?_
      refine rk_if rfl (fun h14 => ?_) (fun h14 => ?_)
      · have h1 : i < a.length := by omega
        have h2 : i < b.length := by omega
        refine rk_skip ?_
        refine rk_seq ?_
        refine rk_block ?_
        refine rk_seq ?_
        refine rk_draw (id := 6) (none) [0, 0, 3, 4, 0, 0, 48, 64, 136] [0, 0, 3, 7, 0, 0, 48, 112, 255] 0 0 [(.p, 0), (.p, 1), (.p, 2), (.r, 3), (.p, 4), (.p, 5), (.p, 6), (.r, 7), (.p, 8)] (by kernel_rfl) (by kernel_rfl) (by kernel_rfl) (by kernel_rfl) (by kernel_rfl) ?_
        replace hw := hw.drew
        refine wl_p (fun _ => o_move rfl) ?_
        refine wl_p (fun _ => o_move rfl) ?_
        refine wl_p (fun _ => (o_iaddrA1 (i) Try.underlying51 Try.sizeOf3 rfl rfl rfl (Reads.some_ hA.to_Reads (by decide) (by omega)) (by omega))) ?_
        refine wl_r (o_loadZ Try.isAgg3 rfl (hA.u hw).to_Reads (by omega)) ?_
        refine wl_p (fun _ => o_move rfl) ?_
        refine wl_p (fun _ => o_move rfl) ?_
        refine wl_p (fun _ => (o_iaddrA1 (i) Try.underlying51 Try.sizeOf3 rfl rfl rfl (Reads.some_ hB.to_Reads (by decide) (by omega)) (by omega))) ?_
        refine wl_r (o_loadZ Try.isAgg3 rfl (hB.u hw).to_Reads (by omega)) ?_
        refine wl_p (fun _ => o_ne rfl rfl) ?_
        refine wl_nild ?_
        refine rk_if rfl (fun h25 => ?_) (fun h25 => ?_)
        · refine rk_seq ?_
          refine rk_region ?_
          refine wl_p (fun _ => o_assign rfl) ?_
          refine wl_nil ?_
          refine ret1 rfl rfl ?_
          exact ⟨by rw [decide_eq_false (fun e => by subst e; exact h25 rfl)], hw⟩
        · refine rk_skip ?_
          refine rk_blk ?_
          refine rk_region ?_
          refine wl_p (fun _ => o_move rfl) ?_
          refine wl_p (fun _ => o_add rfl rfl (by omega) (by omega)) ?_
          refine wl_p (fun _ => o_assign rfl) ?_
          refine wl_nil ?_
          exact rk_againf (Fr.le_of (by kernel_rfl) (by kernel_rfl) (by repeat' constructor)) ⟨i + 1, _, rfl, by omega, by omega, rfl, by rw [List.take_succ_eq_append_getElem h1, List.take_succ_eq_append_getElem h2, heq]; simp at h25; rw [h25], hw⟩ (by omega)
      · refine rk_exit rfl ?_
        obtain rfl : i = a.length := by omega
        have e : a = b := by
          rw [List.take_length] at heq
          rw [heq]; exact List.take_of_length_le (by omega)
        exact rk_tof hj (Fr.le_of (by kernel_rfl) (by kernel_rfl) (by repeat' constructor)) ⟨rfl, e, hw⟩
    clear hw
    rintro fr w2 ⟨rfl, e, hw⟩
    first | refine rk_frame (by simp only [List.cons_append, List.nil_append, List.drop_succ_cons, List.drop_zero]; rfl) ?_ | refine wl_frame (by simp only [List.cons_append, List.nil_append, List.drop_succ_cons, List.drop_zero]; rfl) ?_
    refine rk_seq ?_
    refine rk_region ?_
    refine wl_p (fun _ => o_assign rfl) ?_
    refine wl_nil ?_
    refine ret1 rfl rfl ?_
    exact ⟨by rw [decide_eq_true e], hw⟩
theorem C_sameEnv {A B : Option Addr} {u t u2 t2 : Int} {a b : By} {n m c d : Nat} (w : World) (hA : Rd w A a) (hB : Rd w B b) (hn : n = a.length) (hm : m = b.length) :
    CallsR Try.prog 35 [.agg #[.int .i64 u, .int .i64 t, .slice A n c], .agg #[.int .i64 u2, .int .i64 t2, .slice B m d]] w fun v w' => v = .bool (decide ((u, t, a) = (u2, t2, b))) ∧ Below w.heap.size w w' := by
  subst hn; subst hm
  refine callsR Try.func35 rfl rfl (by kernel_rfl) rfl ?_
  have hw := Below.refl w.heap.size w
  refine rk_seq ?_
  refine rk_region ?_
  refine wl_boxg [_, _, _] rfl (by rfl) ?_
  rintro g2 w2 f2 b2 i2 i2_1
  have s2 := b2.size
  replace hw := hw.trans (b2.mono hw.size)
  refine wl_boxg [_, _, _] rfl (by rfl) ?_
  rintro g3 w3 f3 b3 i3 i3_1
  have s3 := b3.size
  replace hw := hw.trans (b3.mono hw.size)
  replace f2 := f2.u b3
  refine wl_p (fun _ => o_assign rfl) ?_
  refine wl_nil ?_
  refine rk_seq ?_
  refine rk_region ?_
  refine wl_p (fun _ => o_faddr (s := 38) (i := 0) (off := 0) Try.underlying38 rfl Try.sizeOf3 rfl rfl rfl) ?_
  refine wl_r (o_loadbg Try.isAgg3 rfl f2 (by rfl)) ?_
  refine wl_p (fun _ => o_faddr (s := 38) (i := 0) (off := 0) Try.underlying38 rfl Try.sizeOf3 rfl rfl rfl) ?_
  refine wl_r (o_loadbg Try.isAgg3 rfl f3 (by rfl)) ?_
  refine wl_p (fun _ => o_eq rfl rfl) ?_
  refine wl_p (fun _ => o_move rfl) ?_
  refine wl_bool 10 rfl (fun h10 => ?_) (fun h10 => ?_) <;> try simp only [decide_eq_true_eq, decide_eq_false_iff_not, Bool.not_eq_true', Bool.not_eq_false', Bool.and_eq_true, Bool.and_eq_false_iff, Bool.or_eq_true, Bool.or_eq_false_iff] at h10
  · refine wl_p (fun _ => o_faddr (s := 38) (i := 1) (off := 1) Try.underlying38 rfl Try.sizeOf3 rfl rfl rfl) ?_
    refine wl_r (o_loadbg Try.isAgg3 rfl f2 (by rfl)) ?_
    refine wl_p (fun _ => o_faddr (s := 38) (i := 1) (off := 1) Try.underlying38 rfl Try.sizeOf3 rfl rfl rfl) ?_
    refine wl_r (o_loadbg Try.isAgg3 rfl f3 (by rfl)) ?_
    refine wl_p (fun _ => o_eq rfl rfl) ?_
    refine wl_p (fun _ => o_pick_t rfl rfl) ?_
    refine wl_p (fun _ => o_move rfl) ?_
    refine wl_bool 17 rfl (fun h17 => ?_) (fun h17 => ?_) <;> try simp only [decide_eq_true_eq, decide_eq_false_iff_not, Bool.not_eq_true', Bool.not_eq_false', Bool.and_eq_true, Bool.and_eq_false_iff, Bool.or_eq_true, Bool.or_eq_false_iff] at h17
    · refine wl_p (fun _ => o_faddr (s := 38) (i := 2) (off := 2) Try.underlying38 rfl Try.sizeOf32 rfl rfl rfl) ?_
      refine wl_r (o_loadbg Try.isAgg32 rfl f2 (by rfl)) ?_
      refine wl_p (fun _ => o_faddr (s := 38) (i := 2) (off := 2) Try.underlying38 rfl Try.sizeOf32 rfl rfl rfl) ?_
      refine wl_r (o_loadbg Try.isAgg32 rfl f3 (by rfl)) ?_
      refine wl_call rfl (C_bEqual _ (hA.u hw) (hB.u hw) rfl rfl) ?_
      rintro v22 w22 ⟨rfl, b22⟩
      have s22 := b22.size
      replace hw := hw.trans (b22.mono hw.size)
      replace f2 := f2.u b22
      replace f3 := f3.u b22
      refine wl_p (fun _ => o_pick_t rfl rfl) ?_
      refine wl_p (fun _ => o_assign rfl) ?_
      refine wl_nil ?_
      refine ret1 rfl rfl ?_
      exact ⟨by simp [h10, h17], hw⟩
    · refine wl_off ?_
      refine wl_off ?_
      refine wl_off ?_
      refine wl_off ?_
      refine wl_off ?_
      refine wl_p (fun _ => o_pick_f rfl rfl) ?_
      refine wl_p (fun _ => o_assign rfl) ?_
      refine wl_nil ?_
      refine ret1 rfl rfl ?_
      exact ⟨by simp [h10, h17], hw⟩
  · refine wl_off ?_
    refine wl_off ?_
    refine wl_off ?_
    refine wl_off ?_
    refine wl_off ?_
    refine wl_p (fun _ => o_pick_f rfl rfl) ?_
    refine wl_p (fun _ => o_move rfl) ?_
    refine wl_off ?_
    refine wl_off ?_
    refine wl_off ?_
    refine wl_off ?_
    refine wl_off ?_
    refine wl_p (fun _ => o_pick_f rfl rfl) ?_
    refine wl_p (fun _ => o_assign rfl) ?_
    refine wl_nil ?_
    refine ret1 rfl rfl ?_
    exact ⟨by simp [h10], hw⟩
theorem C_EqualEnv {A B : Option Addr} {L M : List En} {n m c d : Nat} (w : World) (hL : REn w A L) (hM : REn w B M) (hn : n = L.length) (hm : m = M.length) (hl : L.length ≤ 4000000000) (hl2 : M.length ≤ 4000000000) :
    CallsR Try.prog 34 [.slice A n c, .slice B m d, .func (.func 35) #[] #[]] w fun v w' => v = .bool (decide (L = M)) ∧ Below w.heap.size w w' := by
  subst hn; subst hm
  refine callsR Try.func34 rfl rfl (by kernel_rfl) rfl ?_
  have hw := Below.refl w.heap.size w
  refine rk_seq ?_
  refine rk_region ?_
  refine wl_p (fun _ => o_assign rfl) ?_
  refine wl_nil ?_
  refine rk_seq ?_
  refine rk_seq ?_
  refine rk_region ?_
  refine wl_p (fun _ => o_move rfl) ?_
  refine wl_p (fun _ => o_len (t := 25) Try.underlying25 rfl) ?_
  refine wl_p (fun _ => o_move rfl) ?_
  refine wl_p (fun _ => o_len (t := 25) Try.underlying25 rfl) ?_
  refine wl_p (fun _ => o_ne rfl rfl) ?_
  refine wl_nil ?_
  refine rk_if rfl (fun h14 => ?_) (fun h14 => ?_)
  · refine rk_seq ?_
    refine rk_region ?_
    refine wl_p (fun _ => o_assign rfl) ?_
    refine wl_nil ?_
    refine ret1 rfl rfl ?_
    exact ⟨by rw [decide_eq_false (fun e => by rw [e] at h14; omega)], hw⟩
  · refine rk_skip ?_
    refine rk_seq ?_
    refine rk_seq ?_
    refine rk_region ?_
    refine wl_p (fun _ => o_move rfl) ?_
    refine wl_p (fun _ => o_len (t := 25) Try.underlying25 rfl) ?_
    refine wl_p (fun _ => o_move rfl) ?_
    refine wl_nil ?_
    refine rk_block ?_
    refine rk_joinf (fun fb fr w2 => fr = [] ++ fb.drop 1 ∧ L = M ∧ Below w.heap.size w w2) ?_ (fun ks hj => ?_)
    rotate_left
    · refine rk_loopf (fun fb k fr w2 => ∃ (i : Nat) (v : Int), fr = [(17, .int .i64 v)] ++ fb.drop 1 ∧ v = i ∧ i ≤ L.length ∧ k = L.length - i ∧ L.take i = M.take i ∧ Below w.heap.size w w2) (n := L.length) (Fr.le_of (by kernel_rfl) (by kernel_rfl) (by repeat' constructor)) ⟨0, _, rfl, rfl, by omega, rfl, rfl, hw⟩ ?_
      clear hw
      rintro k fr w2 ⟨i, v, rfl, rfl, hi, rfl, heq, hw⟩
      have shw := hw.size
      first | refine rk_frame (by simp only [List.cons_append, List.nil_append, List.drop_succ_cons, List.drop_zero]; rfl) ?_ | refine wl_frame (by simp only [List.cons_append, List.nil_append, List.drop_succ_cons, List.drop_zero]; rfl) ?_
      refine rk_seq ?_
      refine rk_region ?_
      refine wl_p (fun _ => o_lt rfl rfl) ?_
      refine wl_nil ?_
      refine rk_seq ?_
      refine rk_if rfl (fun h18 => ?_) (fun h18 => ?_)
      · have h1 : i < L.length := by omega
        have h2 : i < M.length := by omega
        refine rk_skip ?_
        refine rk_seq ?_
        refine rk_block ?_
        refine rk_seq ?_
        refine rk_region ?_
        refine wl_p (fun _ => o_move rfl) ?_
        refine wl_p (fun _ => (o_iaddrA (i) Try.underlying25 Try.sizeOf38 rfl rfl rfl (hL.some_ (by omega)) (by omega))) ?_
        refine wl_ldEnv rfl hL hw (by omega) ?_
        rintro A121 c121 f21 i21 i21_1 e21 e21_1
        refine wl_allocg [_, _, _] Try.zeroValue38 (by rfl) ?_
        rintro g8 w8 f8 b8 i8 i8_1
        have s8 := b8.size
        replace hw := hw.trans (b8.mono hw.size)
        refine wl_p (fun _ => o_assign rfl) ?_
        refine wl_storega Try.sizeOf38 rfl rfl (by rfl) (oneCell_of (by rfl)) f8 (by rfl) ?_
        rintro w_1 f g e
        have s := g.size
        replace hw := hw.trans (below_of_grownBy g.g hw.size (by omega))
        clear f8
        refine wl_nil ?_
        refine rk_seq ?_
        refine rk_region ?_
        refine wl_p (fun _ => o_move rfl) ?_
        refine wl_p (fun _ => o_move rfl) ?_
        refine wl_p (fun _ => (o_iaddrA (i) Try.underlying25 Try.sizeOf38 rfl rfl rfl (hM.some_ (by omega)) (by omega))) ?_
        refine wl_ldEnv rfl hM hw (by omega) ?_
        rintro A125 c125 f25 i25 i25_1 e25 e25_1
        refine wl_allocg [_, _, _] Try.zeroValue38 (by rfl) ?_
        rintro g9 w9 f9 b9 i9 i9_1
        have s9 := b9.size
        replace hw := hw.trans (b9.mono hw.size)
        replace f := f.u b9
        refine wl_storega Try.sizeOf38 rfl rfl (by rfl) (oneCell_of (by rfl)) f9 (by rfl) ?_
        rintro w_2 f_1 g_1 e_1
        have s_1 := g_1.size
        replace hw := hw.trans (below_of_grownBy g_1.g hw.size (by omega))
        replace f := f.k g_1.g (ap_some (by omega))
        clear f9
        refine wl_nil ?_
        refine rk_seq ?_
        refine rk_region ?_
        refine wl_p (fun _ => o_move rfl) ?_
        refine wl_r (o_loadag Try.isAgg38 Try.sizeOf38 rfl f (by rfl)) ?_
        refine wl_r (o_loadag Try.isAgg38 Try.sizeOf38 rfl f_1 (by rfl)) ?_
        refine wl_callv rfl rfl (C_sameEnv _ (f21.u hw) (f25.u hw) rfl rfl) ?_
        rintro v29 w29 ⟨rfl, b29⟩
        replace hw := hw.trans (b29.mono hw.size)
        clear f f_1
        refine wl_p (fun _ => o_not rfl) ?_
        refine wl_nil ?_
        refine rk_cond rfl (fun h30 => ?_) (fun h30 => ?_) <;> try simp only [decide_eq_true_eq, decide_eq_false_iff_not, Bool.not_eq_true', Bool.not_eq_false', Bool.and_eq_true, Bool.and_eq_false_iff, Bool.or_eq_true, Bool.or_eq_false_iff] at h30
        · refine rk_seq ?_
          refine rk_region ?_
          refine wl_p (fun _ => o_assign rfl) ?_
          refine wl_nil ?_
          refine ret1 rfl rfl ?_
          refine ⟨?_, hw⟩
          rw [decide_eq_false (fun e => ?_)]
          subst e
          simp at h30
        · refine rk_skip ?_
          refine rk_blk ?_
          refine rk_region ?_
          refine wl_p (fun _ => o_add rfl rfl (by omega) (by omega)) ?_
          refine wl_p (fun _ => o_move rfl) ?_
          refine wl_nil ?_
          exact rk_againf (Fr.le_of (by kernel_rfl) (by kernel_rfl) (by repeat' constructor)) ⟨i + 1, _, rfl, by omega, by omega, rfl, by rw [List.take_succ_eq_append_getElem h1, List.take_succ_eq_append_getElem h2, heq]; simp at h30; rw [show L[i] = M[i] from Prod.ext h30.1 (Prod.ext h30.2.1 h30.2.2)], hw⟩ (by omega)
      · refine rk_exit rfl ?_
        obtain rfl : i = L.length := by omega
        have e : L = M := by
          rw [List.take_length] at heq
          rw [heq]; exact List.take_of_length_le (by omega)
        exact rk_tof hj (Fr.le_of (by kernel_rfl) (by kernel_rfl) (by repeat' constructor)) ⟨rfl, e, hw⟩
    clear hw
    rintro fr w2 ⟨rfl, e, hw⟩
    first | refine rk_frame (by simp only [List.cons_append, List.nil_append, List.drop_succ_cons, List.drop_zero]; rfl) ?_ | refine wl_frame (by simp only [List.cons_append, List.nil_append, List.drop_succ_cons, List.drop_zero]; rfl) ?_
    refine rk_seq ?_
    refine rk_region ?_
    refine wl_p (fun _ => o_assign rfl) ?_
    refine wl_nil ?_
    refine ret1 rfl rfl ?_
    exact ⟨by rw [decide_eq_true e], hw⟩
theorem C_SameN {k k2 : Int} {A B : Option Addr} {L M : List En} {n m c d : Nat} (w : World) (hL : REn w A L) (hM : REn w B M) (hn : n = L.length) (hm : m = M.length) (hl : L.length ≤ 4000000000) (hl2 : M.length ≤ 4000000000) :
    CallsR Try.prog 21 [.agg #[.int .i64 k, .slice A n c], .agg #[.int .i64 k2, .slice B m d]] w fun v w' => v = .bool (decide (k = k2 ∧ L = M)) ∧ Below w.heap.size w w' := by
  subst hn; subst hm
  refine callsR Try.func21 rfl rfl (by kernel_rfl) rfl ?_
  have hw := Below.refl w.heap.size w
  refine rk_seq ?_
  refine rk_region ?_
  refine wl_boxg [_, _] rfl (by rfl) ?_
  rintro g2 w2 f2 b2 i2 i2_1
  have s2 := b2.size
  replace hw := hw.trans (b2.mono hw.size)
  refine wl_boxg [_, _] rfl (by rfl) ?_
  rintro g3 w3 f3 b3 i3 i3_1
  have s3 := b3.size
  replace hw := hw.trans (b3.mono hw.size)
  replace f2 := f2.u b3
  refine wl_p (fun _ => o_assign rfl) ?_
  refine wl_nil ?_
  refine rk_seq ?_
  refine rk_region ?_
  refine wl_p (fun _ => o_faddr (s := 27) (i := 0) (off := 0) Try.underlying27 rfl Try.sizeOf3 rfl rfl rfl) ?_
  refine wl_r (o_loadbg Try.isAgg3 rfl f2 (by rfl)) ?_
  refine wl_p (fun _ => o_faddr (s := 27) (i := 0) (off := 0) Try.underlying27 rfl Try.sizeOf3 rfl rfl rfl) ?_
  refine wl_r (o_loadbg Try.isAgg3 rfl f3 (by rfl)) ?_
  refine wl_p (fun _ => o_eq rfl rfl) ?_
  refine wl_p (fun _ => o_move rfl) ?_
  refine wl_bool 10 rfl (fun h10 => ?_) (fun h10 => ?_) <;> try simp only [decide_eq_true_eq, decide_eq_false_iff_not, Bool.not_eq_true', Bool.not_eq_false', Bool.and_eq_true, Bool.and_eq_false_iff, Bool.or_eq_true, Bool.or_eq_false_iff] at h10
  · refine wl_p (fun _ => o_faddr (s := 27) (i := 1) (off := 1) Try.underlying27 rfl Try.sizeOf25 rfl rfl rfl) ?_
    refine wl_r (o_loadbg Try.isAgg25 rfl f2 (by rfl)) ?_
    refine wl_p (fun _ => o_faddr (s := 27) (i := 1) (off := 1) Try.underlying27 rfl Try.sizeOf25 rfl rfl rfl) ?_
    refine wl_r (o_loadbg Try.isAgg25 rfl f3 (by rfl)) ?_
    refine wl_call rfl (C_EqualEnv _ (hL.u hw) (hM.u hw) rfl rfl (by omega) (by omega)) ?_
    rintro v15 w15 ⟨rfl, b15⟩
    have s15 := b15.size
    replace hw := hw.trans (b15.mono hw.size)
    replace f2 := f2.u b15
    replace f3 := f3.u b15
    refine wl_p (fun _ => o_pick_t rfl rfl) ?_
    refine wl_p (fun _ => o_assign rfl) ?_
    refine wl_nil ?_
    refine ret1 rfl rfl ?_
    exact ⟨by simp [h10], hw⟩
  · refine wl_off ?_
    refine wl_off ?_
    refine wl_off ?_
    refine wl_off ?_
    refine wl_off ?_
    refine wl_p (fun _ => o_pick_f rfl rfl) ?_
    refine wl_p (fun _ => o_assign rfl) ?_
    refine wl_nil ?_
    refine ret1 rfl rfl ?_
    exact ⟨by simp [h10], hw⟩
theorem C_OwnNet {k : Int} {A : Option Addr} {L : List En} {n c : Nat} (w : World) (hL : REn w A L) (hn : n = L.length) (hl : L.length ≤ 120) (hraw : ∀ e ∈ L, e.2.2.length ≤ 20000) :
    CallsR Try.prog 19 [.agg #[.int .i64 k, .slice A n c]] w fun v w' => ∃ A' c', v = .agg #[.int .i64 k, .slice A' L.length c'] ∧ OwnEn w.heap.size w' w.heap.size w'.heap.size A' c' L ∧ Below w.heap.size w w' := by
  subst hn
  refine callsR Try.func19 rfl rfl (by kernel_rfl) rfl ?_
  have hw := Below.refl w.heap.size w
  refine rk_seq ?_
  refine rk_region ?_
  refine wl_boxg [_, _] rfl (by rfl) ?_
  rintro g1 w1 f1 b1 i1 i1_1
  have s1 := b1.size
  replace hw := hw.trans (b1.mono hw.size)
  refine wl_allocg [_, _] Try.zeroValue27 (by rfl) ?_
  rintro g2 w2 f2 b2 i2 i2_1
  have s2 := b2.size
  replace hw := hw.trans (b2.mono hw.size)
  replace f1 := f1.u b2
  refine wl_nil ?_
  refine rk_seq ?_
  refine rk_region ?_
  refine wl_p (fun _ => o_faddr (s := 27) (i := 0) (off := 0) Try.underlying27 rfl Try.sizeOf3 rfl rfl rfl) ?_
  refine wl_r (o_loadbg Try.isAgg3 rfl f1 (by rfl)) ?_
  refine wl_p (fun _ => (o_buildg [_, _] Try.underlying27 Try.zeroValue27 (by rfl) (by rfl) rfl (by rfl) (by rfl) (fun _ => by kernel_rfl))) ?_
  refine wl_allocg [_, _] Try.zeroValue27 (by rfl) ?_
  rintro g3 w3 f3 b3 i3 i3_1
  have s3 := b3.size
  replace hw := hw.trans (b3.mono hw.size)
  replace f1 := f1.u b3
  replace f2 := f2.u b3
  refine wl_storega Try.sizeOf27 rfl rfl (by rfl) (oneCell_of (by rfl)) f3 (by rfl) ?_
  rintro w_1 f g e
  have s := g.size
  replace hw := hw.trans (below_of_grownBy g.g hw.size (by omega))
  replace f2 := f2.k g.g (ap_some (by omega))
  replace f1 := f1.k g.g (ap_some (by omega))
  clear f3
  refine wl_nil ?_
  refine rk_seq ?_
  refine rk_seq ?_
  refine rk_region ?_
  refine wl_p (fun _ => o_assign rfl) ?_
  refine wl_nil ?_
  refine rk_block ?_
  refine rk_joinf (fun fb fr w2 => ∃ A1 c1, fr = [] ++ fb.drop 1 ∧ OwnEn w.heap.size w2 w3.heap.size w2.heap.size A1 c1 L ∧ Blk w2 g3 27 [.int .i64 k, .slice A1 L.length c1] ∧ Blk w2 g2 27 [.int .i64 0, .slice none 0 0] ∧ w3.heap.size ≤ w2.heap.size ∧ Below w.heap.size w w2) ?_ (fun ks hj => ?_)
  rotate_left
  · refine rk_loopf (fun fb m fr w2 => ∃ (i : Nat) (v : Int) (A1 : Option Addr) (c1 : Nat) (l1 : List En), fr = [(4, .int .i64 v)] ++ fb.drop 1 ∧ v = i ∧ i ≤ L.length ∧ m = L.length - i ∧ l1 = L.take i ∧ OwnEn w.heap.size w2 w3.heap.size w2.heap.size A1 c1 l1 ∧ Blk w2 g3 27 [.int .i64 k, .slice A1 l1.length c1] ∧ Blk w2 g1 27 [.int .i64 k, .slice A L.length c] ∧ Blk w2 g2 27 [.int .i64 0, .slice none 0 0] ∧ w3.heap.size ≤ w2.heap.size ∧ Below w.heap.size w w2) (n := L.length) (Fr.le_of (by kernel_rfl) (by kernel_rfl) (by repeat' constructor)) ⟨0, _, none, 0, [], rfl, rfl, by omega, rfl, rfl, OwnEn.nil_, f, f1, f2, by omega, hw⟩ ?_
    clear hw f f1 f2
    rintro m fr w2 ⟨i, v, A1, c1, l1, rfl, rfl, hi, rfl, hl1, fo, f3, f1, f2, hsz, hw⟩
    have shw := hw.size
    have hll : l1.length = i := by rw [hl1, List.length_take]; omega
    first | refine rk_frame (by simp only [List.cons_append, List.nil_append, List.drop_succ_cons, List.drop_zero]; rfl) ?_ | refine wl_frame (by simp only [List.cons_append, List.nil_append, List.drop_succ_cons, List.drop_zero]; rfl) ?_
    refine rk_seq ?_
    refine rk_seq ?_
    refine rk_region ?_
    refine wl_p (fun _ => o_move rfl) ?_
    refine wl_p (fun _ => o_faddr (s := 27) (i := 1) (off := 1) Try.underlying27 rfl Try.sizeOf25 rfl rfl rfl) ?_
    refine wl_r (o_loadbg Try.isAgg25 rfl f1 (by rfl)) ?_
    refine wl_p (fun _ => o_len (t := 25) Try.underlying25 rfl) ?_
    refine wl_p (fun _ => o_lt rfl rfl) ?_
    refine wl_nil ?_
    refine rk_if rfl (fun h13 => ?_) (fun h13 => ?_)
    · have hil : i < L.length := by omega
      have hr := hraw _ (List.getElem_mem hil)
      refine rk_skip ?_
      refine rk_seq ?_
      refine rk_block ?_
      refine rk_seq ?_
      refine rk_region ?_
      refine wl_p (fun _ => o_faddr (s := 27) (i := 1) (off := 1) Try.underlying27 rfl Try.sizeOf25 rfl rfl rfl) ?_
      refine wl_r (o_loadbg Try.isAgg25 rfl f1 (by rfl)) ?_
      refine wl_p (fun _ => o_move rfl) ?_
      refine wl_p (fun _ => (o_iaddrA (i) Try.underlying25 Try.sizeOf38 rfl rfl rfl (hL.some_ (by omega)) (by omega))) ?_
      refine wl_ldEnv rfl hL hw (by omega) ?_
      rintro A120 c120 f20 i20 i20_1 e20 e20_1
      refine wl_allocg [_, _, _] Try.zeroValue38 (by rfl) ?_
      rintro g5 w5 f5 b5 i5 i5_1
      have s5 := b5.size
      replace hw := hw.trans (b5.mono hw.size)
      replace f2 := f2.u b5
      replace f1 := f1.u b5
      replace f3 := f3.u b5
      replace fo := fo.u b5
      refine wl_storega Try.sizeOf38 rfl rfl (by rfl) (oneCell_of (by rfl)) f5 (by rfl) ?_
      rintro w_2 f g_1 e_1
      have s_1 := g_1.size
      replace hw := hw.trans (below_of_grownBy g_1.g hw.size (by omega))
      replace fo := fo.q g_1 (ap_some (by omega)) (by decide)
      replace f3 := f3.k g_1.g (ap_some (by omega))
      replace f1 := f1.k g_1.g (ap_some (by omega))
      replace f2 := f2.k g_1.g (ap_some (by omega))
      clear f5
      refine wl_nil ?_
      refine rk_seq ?_
      refine rk_region ?_
      refine wl_p (fun _ => o_faddr (s := 38) (i := 2) (off := 2) Try.underlying38 rfl Try.sizeOf32 rfl rfl rfl) ?_
      refine wl_r (o_loadbg Try.isAgg32 rfl f (by rfl)) ?_
      refine wl_call rfl (C_OwnN _ (f20.u hw) rfl (by omega)) ?_
      rintro v23 w23 ⟨A23, ⟨c23, ⟨rfl, ⟨f23, b23⟩⟩⟩⟩
      have qf23 := f23.cap
      have s23 := b23.size
      replace hw := hw.trans (b23.mono hw.size)
      replace f2 := f2.u b23
      replace f1 := f1.u b23
      replace f3 := f3.u b23
      replace fo := fo.u b23
      replace f := f.u b23
      refine wl_p (fun _ => o_faddr (s := 38) (i := 2) (off := 2) Try.underlying38 rfl Try.sizeOf32 rfl rfl rfl) ?_
      refine wl_storeg1 Try.sizeOf32 rfl rfl (by rfl) f (by simp) ?_
      rintro w_3 f_1 g_2 e_2
      have s_2 := g_2.size
      replace hw := hw.trans (below_of_grownBy g_2.g hw.size (by omega))
      replace fo := fo.q g_2 (ap_some (by omega)) (by decide)
      replace f3 := f3.k g_2.g (ap_some (by omega))
      replace f1 := f1.k g_2.g (ap_some (by omega))
      replace f2 := f2.k g_2.g (ap_some (by omega))
      replace f23 := f23.k g_2.g (ap_some (by omega))
      clear f
      refine wl_nil ?_
      refine rk_region ?_
      refine wl_p (fun _ => o_faddr (s := 27) (i := 1) (off := 1) Try.underlying27 rfl Try.sizeOf25 rfl rfl rfl) ?_
      refine wl_r (o_loadbg Try.isAgg25 rfl f3 (by rfl)) ?_
      refine wl_r (o_loadag Try.isAgg38 Try.sizeOf38 rfl f_1 (by rfl)) ?_
      refine wl_litE1 (by rfl) rfl f23 hw (by omega) rfl e20 e20_1 (by rfl) ?_
      rintro A28 w28 f28 b28
      have qf28 := f28.cap
      have s28 := b28.size
      replace hw := hw.trans (b28.mono hw.size)
      replace f23 := f23.u b28
      replace f2 := f2.u b28
      replace f1 := f1.u b28
      replace f3 := f3.u b28
      replace fo := fo.u b28
      replace f_1 := f_1.u b28
      refine wl_appE rfl fo rfl rfl f28.to_REnT (by rfl) (by omega) (by omega) ?_
      rintro A29 c29 w29 f29 g29 b29
      have qf29 := f29.cap
      have s29 := g29.size
      replace hw := hw.trans (b29.mono (by omega))
      replace f_1 := f_1.k g29.g (fo.ap (by omega))
      replace f3 := f3.y g29 (by decide)
      replace f1 := f1.y g29 (by decide)
      replace f2 := f2.y g29 (by decide)
      replace f23 := f23.y g29 (by decide)
      replace f28 := f28.q g29 (fo.ap (by omega)) (by decide)
      clear fo
      refine wl_p (fun _ => o_faddr (s := 27) (i := 1) (off := 1) Try.underlying27 rfl Try.sizeOf25 rfl rfl rfl) ?_
      refine wl_storeg1 Try.sizeOf25 rfl rfl (by rfl) f3 (by simp) ?_
      rintro w_4 f g_3 e_3
      have s_3 := g_3.size
      replace hw := hw.trans (below_of_grownBy g_3.g hw.size (by omega))
      replace f28 := f28.y g_3 (by decide)
      replace f23 := f23.k g_3.g (ap_some (by omega))
      replace f2 := f2.k g_3.g (ap_some (by omega))
      replace f1 := f1.k g_3.g (ap_some (by omega))
      replace f_1 := f_1.k g_3.g (ap_some (by omega))
      replace f29 := f29.y g_3 (by decide)
      clear f3
      refine wl_nil ?_
      refine rk_blk ?_
      refine rk_region ?_
      refine wl_p (fun _ => o_move rfl) ?_
      refine wl_p (fun _ => o_add rfl rfl (by omega) (by omega)) ?_
      refine wl_p (fun _ => o_assign rfl) ?_
      refine wl_nil ?_
      exact rk_againf (Fr.le_of (by kernel_rfl) (by kernel_rfl) (by repeat' constructor)) ⟨i + 1, _, A29, c29, _, rfl, by omega, by omega, rfl, by rw [hl1, List.take_succ_eq_append_getElem hil], f29.top, f, f1, f2, by omega, hw⟩ (by omega)
    · refine rk_exit rfl ?_
      obtain rfl : i = L.length := by omega
      rw [List.take_length] at hl1
      subst hl1
      exact rk_tof hj (Fr.le_of (by kernel_rfl) (by kernel_rfl) (by repeat' constructor)) ⟨A1, c1, rfl, fo, f3, f2, hsz, hw⟩
  clear hw f f1 f2
  rintro fr w2 ⟨A1, c1, rfl, fo, f3, f2, hsz, hw⟩
  have shw := hw.size
  first | refine rk_frame (by simp only [List.cons_append, List.nil_append, List.drop_succ_cons, List.drop_zero]; rfl) ?_ | refine wl_frame (by simp only [List.cons_append, List.nil_append, List.drop_succ_cons, List.drop_zero]; rfl) ?_
  refine rk_seq ?_
  refine rk_region ?_
  refine wl_r (o_loadag Try.isAgg27 Try.sizeOf27 rfl f3 (by rfl)) ?_
  refine wl_storega Try.sizeOf27 rfl rfl (by rfl) (oneCell_of (by rfl)) f2 (by rfl) ?_
  rintro w_2 f g_1 e_1
  have s_1 := g_1.size
  replace hw := hw.trans (below_of_grownBy g_1.g hw.size (by omega))
  replace f3 := f3.k g_1.g (ap_some (by omega))
  replace fo := fo.y g_1 (by decide)
  clear f2
  refine wl_nil ?_
  refine ret_cell rfl rfl Try.isAgg27 Try.sizeOf27 (by assumption) rfl ?_
  exact ⟨A1, c1, rfl, fo.base (by omega) (by omega), hw⟩
theorem C_NetK {k k2 : Int} {A B : Option Addr} {L M : List En} {n m c d : Nat} (w : World) (hL : REn w A L) (hM : REn w B M) (hn : n = L.length) (hm : m = M.length) (hl : L.length ≤ 4000000000) (hl2 : M.length ≤ 4000000000) :
    CallsR Try.prog 16 [.agg #[.int .i64 k, .slice A n c], .agg #[.int .i64 k2, .slice B m d]] w fun v w' => v = .bool (decide (k = k2 ∧ L = M)) ∧ Below w.heap.size w w' := by
  subst hn; subst hm
  refine callsR Try.func16 rfl rfl (by kernel_rfl) rfl ?_
  have hw := Below.refl w.heap.size w
  refine rk_seq ?_
  refine rk_region ?_
  refine wl_boxg [_, _] rfl (by rfl) ?_
  rintro g2 w2 f2 b2 i2 i2_1
  have s2 := b2.size
  replace hw := hw.trans (b2.mono hw.size)
  refine wl_boxg [_, _] rfl (by rfl) ?_
  rintro g3 w3 f3 b3 i3 i3_1
  have s3 := b3.size
  replace hw := hw.trans (b3.mono hw.size)
  replace f2 := f2.u b3
  refine wl_p (fun _ => o_assign rfl) ?_
  refine wl_nil ?_
  refine rk_seq ?_
  refine rk_seq ?_
  refine rk_region ?_
  refine wl_p (fun _ => o_faddr (s := 27) (i := 0) (off := 0) Try.underlying27 rfl Try.sizeOf3 rfl rfl rfl) ?_
  refine wl_r (o_loadbg Try.isAgg3 rfl f2 (by rfl)) ?_
  refine wl_p (fun _ => o_faddr (s := 27) (i := 0) (off := 0) Try.underlying27 rfl Try.sizeOf3 rfl rfl rfl) ?_
  refine wl_r (o_loadbg Try.isAgg3 rfl f3 (by rfl)) ?_
  refine wl_p (fun _ => o_ne rfl rfl) ?_
  refine wl_p (fun _ => o_move rfl) ?_
  refine wl_bool 13 rfl (fun h13 => ?_) (fun h13 => ?_) <;> try simp only [decide_eq_true_eq, decide_eq_false_iff_not, Bool.not_eq_true', Bool.not_eq_false', Bool.and_eq_true, Bool.and_eq_false_iff, Bool.or_eq_true, Bool.or_eq_false_iff] at h13
  · refine wl_off ?_
    refine wl_off ?_
    refine wl_off ?_
    refine wl_off ?_
    refine wl_off ?_
    refine wl_off ?_
    refine wl_off ?_
    refine wl_p (fun _ => o_pick_t rfl rfl) ?_
    refine wl_nil ?_
    refine rk_true rfl ?_
    refine rk_seq ?_
    refine rk_region ?_
    refine wl_p (fun _ => o_assign rfl) ?_
    refine wl_nil ?_
    refine ret1 rfl rfl ?_
    exact ⟨by simp [h13], hw⟩
  refine wl_p (fun _ => o_faddr (s := 27) (i := 1) (off := 1) Try.underlying27 rfl Try.sizeOf25 rfl rfl rfl) ?_
  refine wl_r (o_loadbg Try.isAgg25 rfl f2 (by rfl)) ?_
  refine wl_p (fun _ => o_len (t := 25) Try.underlying25 rfl) ?_
  refine wl_p (fun _ => o_faddr (s := 27) (i := 1) (off := 1) Try.underlying27 rfl Try.sizeOf25 rfl rfl rfl) ?_
  refine wl_r (o_loadbg Try.isAgg25 rfl f3 (by rfl)) ?_
  refine wl_p (fun _ => o_len (t := 25) Try.underlying25 rfl) ?_
  refine wl_p (fun _ => o_ne rfl rfl) ?_
  refine wl_p (fun _ => o_pick_f rfl rfl) ?_
  refine wl_nil ?_
  refine rk_if rfl (fun h21 => ?_) (fun h21 => ?_)
  · refine rk_seq ?_
    refine rk_region ?_
    refine wl_p (fun _ => o_assign rfl) ?_
    refine wl_nil ?_
    refine ret1 rfl rfl ?_
    exact ⟨by rw [decide_eq_false (fun e => by rw [e.2] at h21; exact absurd rfl h21)], hw⟩
  refine rk_skip ?_
  refine rk_seq ?_
  refine rk_seq ?_
  refine rk_region ?_
  refine wl_p (fun _ => o_assign rfl) ?_
  refine wl_nil ?_
  refine rk_block ?_
  refine rk_joinf (fun fb fr w2 => fr = [] ++ fb.drop 1 ∧ L = M ∧ Below w.heap.size w w2) ?_ (fun ks hj => ?_)
  rotate_left
  · refine rk_loopf (fun fb q fr w2 => ∃ (i : Nat) (v : Int), fr = [(5, .int .i64 v)] ++ fb.drop 1 ∧ v = i ∧ i ≤ L.length ∧ q = L.length - i ∧ L.take i = M.take i ∧ Blk w2 g2 27 [.int .i64 k, .slice A L.length c] ∧ Blk w2 g3 27 [.int .i64 k2, .slice B M.length d] ∧ Below w.heap.size w w2) (n := L.length) (Fr.le_of (by kernel_rfl) (by kernel_rfl) (by repeat' constructor)) ⟨0, _, rfl, rfl, by omega, rfl, rfl, f2, f3, hw⟩ ?_
    clear hw f2 f3
    rintro q fr w2 ⟨i, v, rfl, rfl, hi, rfl, heq, f2, f3, hw⟩
    have shw := hw.size
    first | refine rk_frame (by simp only [List.cons_append, List.nil_append, List.drop_succ_cons, List.drop_zero]; rfl) ?_ | refine wl_frame (by simp only [List.cons_append, List.nil_append, List.drop_succ_cons, List.drop_zero]; rfl) ?_
    refine rk_seq ?_
    refine rk_seq ?_
    refine rk_region ?_
    refine wl_p (fun _ => o_move rfl) ?_
    refine wl_p (fun _ => o_faddr (s := 27) (i := 1) (off := 1) Try.underlying27 rfl Try.sizeOf25 rfl rfl rfl) ?_
    refine wl_r (o_loadbg Try.isAgg25 rfl f2 (by rfl)) ?_
    refine wl_p (fun _ => o_len (t := 25) Try.underlying25 rfl) ?_
    refine wl_p (fun _ => o_lt rfl rfl) ?_
    refine wl_nil ?_
    refine rk_if rfl (fun h26 => ?_) (fun h26 => ?_)
    · have h1 : i < L.length := by omega
      have h2 : i < M.length := by simp at h21; omega
      obtain ⟨A1, c1, q1, r1, -, -, -, -⟩ := hL.elem h1
      obtain ⟨A2, c2, q2, r2, -, -, -, -⟩ := hM.elem h2
      refine rk_skip ?_
      refine rk_seq ?_
      refine rk_block ?_
      refine rk_seq ?_
      refine rk_drawoB (id := 6) (none) [0, 1, 0, 6, 8, 0, 32, 0, 192, 256, 0, 0, 3103, 8191] [0, 1, 0, 7, 15, 0, 32, 0, 224, 480, 0, 0, 3103, 8191] 15360 7168 [0, 1, 2, 3, 4, 5, 6, 7, 8, 9] [(.p, 0), (.s, 1), (.p, 2), (.p, 3), (.s, 4), (.p, 5), (.s, 6), (.p, 7), (.p, 8), (.s, 9), (.f 1023 15360 7168, 4)] (by kernel_rfl) (by kernel_rfl) (by kernel_rfl) (by kernel_rfl) (by kernel_rfl) ?_
      dsimp only [inOrder, nthOp]
      replace hw := hw.drew
      replace f3 := f3.d
      replace f2 := f2.d
      refine wl_p (fun _ => o_faddr (s := 27) (i := 1) (off := 1) Try.underlying27 rfl Try.sizeOf25 rfl rfl rfl) ?_
      refine wl_s (fun _ hk => (o_loadbg Try.isAgg25 rfl (f2.u (below_of_ok hk (Nat.le_refl _) (fun _ e => by cases e))) (by rfl))) ?_
      refine wl_p (fun _ => o_move rfl) ?_
      refine wl_p (fun _ => (o_iaddrA (i) Try.underlying25 Try.sizeOf38 rfl rfl rfl (hL.some_ (by omega)) (by omega))) ?_
      refine wl_s (fun _ hk => (o_ldCE rfl q1 (hw.trans ((below_of_ok hk (by first | exact Nat.le_refl _ | omega) (fun _ e => by cases e)).mono (by first | exact hw.size | omega))))) ?_
      refine wl_p (fun _ => o_faddr (s := 27) (i := 1) (off := 1) Try.underlying27 rfl Try.sizeOf25 rfl rfl rfl) ?_
      refine wl_s (fun _ hk => (o_loadbg Try.isAgg25 rfl (f3.u (below_of_ok hk (Nat.le_refl _) (fun _ e => by cases e))) (by rfl))) ?_
      refine wl_p (fun _ => o_move rfl) ?_
      refine wl_p (fun _ => (o_iaddrA (i) Try.underlying25 Try.sizeOf38 rfl rfl rfl (hM.some_ (by omega)) (by omega))) ?_
      refine wl_s (fun _ hk => (o_ldCE rfl q2 (hw.trans ((below_of_ok hk (by first | exact Nat.le_refl _ | omega) (fun _ e => by cases e)).mono (by first | exact hw.size | omega))))) ?_
      refine wl_forkf (m := 1023) (L := 15360) (C := 7168) (n := 4) (k1 := 10) (k2 := 11) (fun fb fr w' => ∃ g6 g7, fr = [(6, .pointer (some ⟨g6, 0, none⟩)), (7, .pointer (some ⟨g7, 0, none⟩))] ++ fb ∧ Blk w' g6 38 [.int .i64 0, .int .i64 0, .slice none 0 0] ∧ Blk w' g7 38 [.int .i64 0, .int .i64 0, .slice none 0 0] ∧ g6 ≠ g7 ∧ w2.heap.size ≤ g6 ∧ w2.heap.size ≤ g7 ∧ Blk w' g2 27 [.int .i64 k, .slice A L.length c] ∧ Blk w' g3 27 [.int .i64 k2, .slice B M.length d] ∧ w2.heap.size ≤ w'.heap.size ∧ Below w.heap.size w w') [0, 1, 0, 6, 8, 0, 32, 0, 192, 256, 0, 0, 3103, 8191] [0, 1, 0, 7, 15, 0, 32, 0, 224, 480, 0, 0, 3103, 8191] [10, 11, 12, 13] [11, 10, 12, 13] [12, 13] [(.c, 11), (.c, 12), (.l, 13)] [(.c, 10), (.c, 12), (.l, 13)] [(.c, 12), (.l, 13)] (by kernel_rfl) (by kernel_rfl) (by kernel_rfl) (by kernel_rfl) (by kernel_rfl) ?_ (fun hj => ?_) (fun hj => ?_) <;> dsimp only [inOrder, nthOp]
      · clear hw f2 f3
        rintro fr w' ⟨g6, g7, rfl, f6, f7, hne, i6, i7, f2, f3, i8, hw⟩
        first | refine rk_frame (by simp only [List.cons_append, List.nil_append, List.drop_succ_cons, List.drop_zero]; rfl) ?_ | refine wl_frame (by simp only [List.cons_append, List.nil_append, List.drop_succ_cons, List.drop_zero]; rfl) ?_
        refine wl_storega Try.sizeOf38 rfl rfl (by rfl) (oneCell_of (by rfl)) f6 (by rfl) ?_ (hq := .inr (.inr fun _ e => by cases e; omega))
        rintro w_1 f g e
        have s := g.size
        replace hw := hw.trans (below_of_grownBy g.g hw.size (by omega))
        replace f3 := f3.y g (by decide)
        replace f2 := f2.y g (by decide)
        replace f7 := f7.k g.g (ap_some (by omega))
        clear f6
        refine wl_storega Try.sizeOf38 rfl rfl (by rfl) (oneCell_of (by rfl)) f7 (by rfl) ?_
        rintro w_2 f_1 g_1 e_1
        have s_1 := g_1.size
        replace hw := hw.trans (below_of_grownBy g_1.g hw.size (by omega))
        replace f2 := f2.y g_1 (by decide)
        replace f3 := f3.y g_1 (by decide)
        replace f := f.k g_1.g (ap_some (by omega))
        clear f7
        refine wl_nild ?_
        refine rk_seq ?_
        refine rk_region ?_
        refine wl_p (fun _ => o_faddr (s := 38) (i := 0) (off := 0) Try.underlying38 rfl Try.sizeOf3 rfl rfl rfl) ?_
        refine wl_r (o_loadbg Try.isAgg3 rfl f (by rfl)) ?_
        refine wl_p (fun _ => o_faddr (s := 38) (i := 0) (off := 0) Try.underlying38 rfl Try.sizeOf3 rfl rfl rfl) ?_
        refine wl_r (o_loadbg Try.isAgg3 rfl f_1 (by rfl)) ?_
        refine wl_p (fun _ => o_ne rfl rfl) ?_
        refine wl_p (fun _ => o_move rfl) ?_
        have hgo : L[i] = M[i] → L.take (i + 1) = M.take (i + 1) := fun e => by rw [List.take_succ_eq_append_getElem h1, List.take_succ_eq_append_getElem h2, heq, e]
        have hno : L[i] ≠ M[i] → decide (k = k2 ∧ L = M) = false := fun e => decide_eq_false (fun h => e (by have := h.2; subst this; rfl))
        refine wl_bool 44 rfl (fun h44 => ?_) (fun h44 => ?_) <;> try simp only [decide_eq_true_eq, decide_eq_false_iff_not, Bool.not_eq_true', Bool.not_eq_false', Bool.and_eq_true, Bool.and_eq_false_iff, Bool.or_eq_true, Bool.or_eq_false_iff] at h44
        · rw [hno (fun e => h44 (by rw [e]))]
          refine wl_off ?_
          refine wl_off ?_
          refine wl_off ?_
          refine wl_off ?_
          refine wl_off ?_
          refine wl_p (fun _ => o_pick_t rfl rfl) ?_
          refine wl_p (fun _ => o_move rfl) ?_
          refine wl_off ?_
          refine wl_off ?_
          refine wl_off ?_
          refine wl_off ?_
          refine wl_off ?_
          refine wl_off ?_
          refine wl_off ?_
          refine wl_p (fun _ => o_pick_t rfl rfl) ?_
          refine wl_nil ?_
          refine rk_true rfl ?_
          refine rk_seq ?_
          refine rk_region ?_
          refine wl_p (fun _ => o_assign rfl) ?_
          refine wl_nil ?_
          refine ret1 rfl rfl ?_
          exact ⟨rfl, hw⟩
        refine wl_p (fun _ => o_faddr (s := 38) (i := 1) (off := 1) Try.underlying38 rfl Try.sizeOf3 rfl rfl rfl) ?_
        refine wl_r (o_loadbg Try.isAgg3 rfl f (by rfl)) ?_
        refine wl_p (fun _ => o_faddr (s := 38) (i := 1) (off := 1) Try.underlying38 rfl Try.sizeOf3 rfl rfl rfl) ?_
        refine wl_r (o_loadbg Try.isAgg3 rfl f_1 (by rfl)) ?_
        refine wl_p (fun _ => o_ne rfl rfl) ?_
        refine wl_p (fun _ => o_pick_f rfl rfl) ?_
        refine wl_p (fun _ => o_move rfl) ?_
        refine wl_bool 51 rfl (fun h51 => ?_) (fun h51 => ?_) <;> try simp only [decide_eq_true_eq, decide_eq_false_iff_not, Bool.not_eq_true', Bool.not_eq_false', Bool.and_eq_true, Bool.and_eq_false_iff, Bool.or_eq_true, Bool.or_eq_false_iff] at h51
        · rw [hno (fun e => h51 (by rw [e]))]
          refine wl_off ?_
          refine wl_off ?_
          refine wl_off ?_
          refine wl_off ?_
          refine wl_off ?_
          refine wl_off ?_
          refine wl_off ?_
          refine wl_p (fun _ => o_pick_t rfl rfl) ?_
          refine wl_nil ?_
          refine rk_true rfl ?_
          refine rk_seq ?_
          refine rk_region ?_
          refine wl_p (fun _ => o_assign rfl) ?_
          refine wl_nil ?_
          refine ret1 rfl rfl ?_
          exact ⟨rfl, hw⟩
        refine wl_p (fun _ => o_faddr (s := 38) (i := 2) (off := 2) Try.underlying38 rfl Try.sizeOf32 rfl rfl rfl) ?_
        refine wl_r (o_loadbg Try.isAgg32 rfl f (by rfl)) ?_
        refine wl_r (o_strU Try.underlying32 Try.underlying5 Try.underlying9 rfl r1 hw rfl) ?_
        refine wl_p (fun _ => o_faddr (s := 38) (i := 2) (off := 2) Try.underlying38 rfl Try.sizeOf32 rfl rfl rfl) ?_
        refine wl_r (o_loadbg Try.isAgg32 rfl f_1 (by rfl)) ?_
        refine wl_r (o_strU Try.underlying32 Try.underlying5 Try.underlying9 rfl r2 hw rfl) ?_
        refine wl_p (fun _ => o_sne rfl rfl) ?_
        refine wl_p (fun _ => o_pick_f rfl rfl) ?_
        refine wl_nil ?_
        refine rk_if rfl (fun h59 => ?_) (fun h59 => ?_)
        · rw [hno (fun e => h59 (by rw [e]))]
          refine rk_seq ?_
          refine rk_region ?_
          refine wl_p (fun _ => o_assign rfl) ?_
          refine wl_nil ?_
          refine ret1 rfl rfl ?_
          exact ⟨rfl, hw⟩
        · refine rk_skip ?_
          refine rk_blk ?_
          refine rk_region ?_
          refine wl_p (fun _ => o_move rfl) ?_
          refine wl_p (fun _ => o_add rfl rfl (by omega) (by omega)) ?_
          refine wl_p (fun _ => o_assign rfl) ?_
          refine wl_nil ?_
          exact rk_againf (Fr.le_of (by kernel_rfl) (by kernel_rfl) (by repeat' constructor)) ⟨i + 1, _, rfl, by omega, by omega, rfl, hgo (Prod.ext (by simpa using h44) (Prod.ext (by simpa using h51) (by simpa using h59))), f2, f3, hw⟩ (by omega)
      · refine wl_allocg [_, _, _] Try.zeroValue38 (by rfl) ?_
        rintro g6 w6 f6 b6 i6 i6_1
        simp only [drew_size] at b6
        simp only [drew_size] at i6
        have s6 := b6.size
        simp only [drew_size] at s6
        replace hw := hw.trans (b6.mono hw.size)
        replace f2 := f2.u b6
        replace f3 := f3.u b6
        refine wl_allocg [_, _, _] Try.zeroValue38 (by rfl) ?_
        rintro g7 w7 f7 b7 i7 i7_1
        have s7 := b7.size
        replace hw := hw.trans (b7.mono hw.size)
        replace f3 := f3.u b7
        replace f2 := f2.u b7
        replace f6 := f6.u b7
        exact wl_tof hj (Fr.le_of (by kernel_rfl) (by kernel_rfl) (by repeat' constructor)) ⟨_, _, rfl, f6, f7, by omega, by omega, by omega, f2, f3, by omega, hw⟩
      · refine wl_allocg [_, _, _] Try.zeroValue38 (by rfl) ?_
        rintro g7 w7 f7 b7 i7 i7_1
        simp only [drew_size] at b7
        simp only [drew_size] at i7
        have s7 := b7.size
        simp only [drew_size] at s7
        replace hw := hw.trans (b7.mono hw.size)
        replace f2 := f2.u b7
        replace f3 := f3.u b7
        refine wl_allocg [_, _, _] Try.zeroValue38 (by rfl) ?_
        rintro g6 w6 f6 b6 i6 i6_1
        have s6 := b6.size
        replace hw := hw.trans (b6.mono hw.size)
        replace f3 := f3.u b6
        replace f2 := f2.u b6
        replace f7 := f7.u b6
        exact wl_tof hj (Fr.le_of (by kernel_rfl) (by kernel_rfl) (by repeat' constructor)) ⟨_, _, rfl, f6, f7, by omega, by omega, by omega, f2, f3, by omega, hw⟩
    · refine rk_exit rfl ?_
      obtain rfl : i = L.length := by omega
      have e : L = M := by
        rw [List.take_length] at heq
        rw [heq]; exact List.take_of_length_le (by simp at h21; omega)
      exact rk_tof hj (Fr.le_of (by kernel_rfl) (by kernel_rfl) (by repeat' constructor)) ⟨rfl, e, hw⟩
  clear hw f2 f3
  rintro fr w2 ⟨rfl, e, hw⟩
  first | refine rk_frame (by simp only [List.cons_append, List.nil_append, List.drop_succ_cons, List.drop_zero]; rfl) ?_ | refine wl_frame (by simp only [List.cons_append, List.nil_append, List.drop_succ_cons, List.drop_zero]; rfl) ?_
  refine rk_seq ?_
  refine rk_region ?_
  refine wl_p (fun _ => o_assign rfl) ?_
  refine wl_nil ?_
  refine ret1 rfl rfl ?_
  exact ⟨by rw [decide_eq_true ⟨by simpa using h13, e⟩], hw⟩
end Go.Proofs.Ytaldpegegekbjaa
