/-
  Walks of headwaterkit for nets: bytes of one's own, light nets.
-/
import Derived.Test.YtaldpegegekbjaaNetD
import Derived.Test.YtaldpegegekbjaaPick
namespace Go.Proofs.Ytaldpegegekbjaa
open Go.RowKit
section
variable {fn : Func} {F : Ending → World → Prop} {N : Nat} {ks : List K} {ops : Array Oper} {tg : Tags} {l : List Oper} {fr : Fr} {w w0 : World} {ty : TypeId} {pos : String} {aft : Array Edge} {gd : Option (Nat × Bool)} {d j : Nat} {x : Operand} {A : Option Addr} {L : List En}
--@ rule load l wl_ldRaw
theorem wl_ldRaw (hx : fr.ev x = some (.pointer (some (adr A (j * 3 + 2))))) (hr : REn w0 A L) (hb : Below w0.heap.size w0 w) (hj : j < L.length)
    (hk : ∀ A1 c1, Rd w0 A1 L[j].2.2 → L[j].2.2.length ≤ c1 → c1 ≤ maxLen → WL Try.prog fn F N ks ops tg.tail l ((d, .slice A1 L[j].2.2.length c1) :: fr) w)
    (ht : tg.reads = true := by rfl) (hg : onG ops fr gd = true := by rfl) (hd : Nat.blt d N = true := by rfl) : WL Try.prog fn F N ks ops tg (⟨some d, .load 32 x, ty, pos, aft, gd⟩ :: l) fr w := by
  obtain ⟨A1, c1, h1, h2, h3, h4, _⟩ := hr.elem hj
  exact wl_r (o_load (t := 32) Try.isAgg32 hx (h1.u hb 2 _ rfl)) (hk A1 c1 h2 h3 h4) ht hg hd
--@ rule load r o_ldFrom
theorem o_ldFrom (hx : fr.ev x = some (.pointer (some (adr A (j * 3 + 0))))) (hr : REn w0 A L) (hb : Below w0.heap.size w0 w) (hj : j < L.length) : OpV Try.prog N fr w (.load 3 x) ty (.int .i64 L[j].1) w := by
  obtain ⟨A1, c1, h1, _⟩ := hr.elem hj
  exact o_load Try.isAgg3 hx (h1.u hb 0 _ rfl)
--@ rule load r o_ldTo
theorem o_ldTo (hx : fr.ev x = some (.pointer (some (adr A (j * 3 + 1))))) (hr : REn w0 A L) (hb : Below w0.heap.size w0 w) (hj : j < L.length) : OpV Try.prog N fr w (.load 3 x) ty (.int .i64 L[j].2.1) w := by
  obtain ⟨A1, c1, h1, _⟩ := hr.elem hj
  exact o_load Try.isAgg3 hx (h1.u hb 1 _ rfl)
end
theorem C_OwnN {A : Option Addr} {p : By} {n c : Nat} (w : World) (hp : Rd w A p) (hn : n = p.length) (hl : p.length ≤ 4000000000) :
    CallsR Try.prog 15 [.slice A n c] w fun v w' => ∃ A' c', v = .slice A' p.length c' ∧ OwnH w' w.heap.size w'.heap.size A' c' p ∧ Below w.heap.size w w' := by
  subst hn
  refine callsR Try.func15 rfl rfl (by kernel_rfl) rfl ?_
  have hw := Below.refl w.heap.size w
  refine rk_seq ?_
  refine rk_region ?_
  refine wl_p (fun _ => o_assign rfl) ?_
  refine wl_nil ?_
  refine rk_seq ?_
  refine rk_region ?_
  refine wl_litB [] Try.u8 Try.sizeOf5 Try.zeroValue5 (by rfl) rfl rfl (by rfl) (by rfl) (by rfl) ?_
  rintro A3 w3 f3 b3
  have qf3 := f3.cap
  have s3 := b3.size
  replace hw := hw.trans (b3.mono hw.size)
  refine wl_p (fun _ => o_move rfl) ?_
  refine wl_appB Try.u8 rfl f3 (by rfl) rfl (hp.u hw) rfl (by omega) hw.size ?_
  rintro A5 c5 w5 f5 g5 b5 i5
  have qf5 := f5.cap
  have s5 := g5.size
  replace hw := hw.trans (b5.mono (by omega))
  clear f3
  refine wl_p (fun _ => o_assign rfl) ?_
  refine wl_nil ?_
  rw [List.nil_append]
  refine ret1 rfl rfl ?_
  exact ⟨_, _, rfl, f5, hw⟩
theorem C_LightNet {k : Int} {A : Option Addr} {L : List En} {n c : Nat} (w : World) (hL : REn w A L) (hn : n = L.length) (hm : n ≤ maxLen) :
    CallsR Try.prog 18 [.agg #[.int .i64 k, .slice A n c], .int .i64 120] w fun v w' => v = .bool (decide (L.length ≤ 120) && L.all fun e => decide (e.2.2.length ≤ 20000)) ∧ Below w.heap.size w w' := by
  subst hn
  refine callsR Try.func18 rfl rfl (by kernel_rfl) rfl ?_
  have hw := Below.refl w.heap.size w
  refine rk_seq ?_
  refine rk_region ?_
  refine wl_boxg [_, _] rfl (by rfl) ?_
  rintro g2 w2 f2 b2 i2 i2_1
  have s2 := b2.size
  replace hw := hw.trans (b2.mono hw.size)
  refine wl_p (fun _ => o_assign rfl) ?_
  refine wl_nil ?_
  refine rk_seq ?_
  refine rk_seq ?_
  refine rk_region ?_
  refine wl_p (fun _ => o_faddr (s := 27) (i := 1) (off := 1) Try.underlying27 rfl Try.sizeOf25 rfl rfl rfl) ?_
  refine wl_r (o_loadbg Try.isAgg25 rfl f2 (by rfl)) ?_
  refine wl_p (fun _ => o_len (t := 25) Try.underlying25 rfl) ?_
  refine wl_p (fun _ => o_move rfl) ?_
  refine wl_p (fun _ => o_gt rfl rfl) ?_
  refine wl_nil ?_
  refine rk_if rfl (fun h10 => ?_) (fun h10 => ?_)
  · refine rk_seq ?_
    refine rk_region ?_
    refine wl_p (fun _ => o_assign rfl) ?_
    refine wl_nil ?_
    refine ret1 rfl rfl ?_
    exact ⟨by rw [decide_eq_false (by omega)]; rfl, hw⟩
  · refine rk_skip ?_
    refine rk_seq ?_
    refine rk_seq ?_
    refine rk_region ?_
    refine wl_p (fun _ => o_assign rfl) ?_
    refine wl_nil ?_
    refine rk_block ?_
    refine rk_joinf (fun fb fr w3 => fr = [] ++ fb.drop 1 ∧ (L.all fun e => decide (e.2.2.length ≤ 20000)) = true ∧ Below w.heap.size w w3) ?_ (fun ks hj => ?_)
    rotate_left
    · refine rk_loopf (fun fb m fr w3 => ∃ (i : Nat) (v : Int), fr = [(5, .int .i64 v)] ++ fb.drop 1 ∧ v = i ∧ i ≤ L.length ∧ m = L.length - i ∧ ((L.take i).all fun e => decide (e.2.2.length ≤ 20000)) = true ∧ Blk w3 g2 27 [.int .i64 k, .slice A L.length c] ∧ w2.heap.size ≤ w3.heap.size ∧ Below w.heap.size w w3) (n := L.length) (Fr.le_of (by kernel_rfl) (by kernel_rfl) (by repeat' constructor)) ⟨0, _, rfl, rfl, by omega, rfl, rfl, f2, Nat.le_refl _, hw⟩ ?_
      clear hw f2
      rintro m fr w3 ⟨i, v, rfl, rfl, hi, rfl, hall, f2, hsz, hw⟩
      have shw := hw.size
      first | refine rk_frame (by simp only [List.cons_append, List.nil_append, List.drop_succ_cons, List.drop_zero]; rfl) ?_ | refine wl_frame (by simp only [List.cons_append, List.nil_append, List.drop_succ_cons, List.drop_zero]; rfl) ?_
      refine rk_seq ?_
      refine rk_seq ?_
      refine rk_region ?_
      refine wl_p (fun _ => o_move rfl) ?_
      refine wl_p (fun _ => o_faddr (s := 27) (i := 1) (off := 1) Try.underlying27 rfl Try.sizeOf25 rfl rfl rfl) ?_
      refine wl_r (o_loadbg Try.isAgg25 rfl f2 (by rfl)) ?_
      refine wl_p (fun _ => o_len (t := 25) Try.underlying25 rfl) ?_
      refine wl_p (fun _ => o_lt rfl rfl) ?_
      refine wl_nil ?_
      refine rk_if rfl (fun h15 => ?_) (fun h15 => ?_)
      · have hil : i < L.length := by omega
        refine rk_skip ?_
        refine rk_seq ?_
        refine rk_block ?_
        refine rk_seq ?_
        refine rk_region ?_
        refine wl_p (fun _ => o_faddr (s := 27) (i := 1) (off := 1) Try.underlying27 rfl Try.sizeOf25 rfl rfl rfl) ?_
        refine wl_r (o_loadbg Try.isAgg25 rfl f2 (by rfl)) ?_
        refine wl_p (fun _ => o_move rfl) ?_
        refine wl_p (fun _ => (o_iaddrA (i) Try.underlying25 Try.sizeOf38 rfl rfl rfl (hL.some_ (by omega)) (by omega))) ?_
        refine wl_p (fun _ => (o_faddrR rfl Try.underlying38 (by rfl) Try.sizeOf32 (by rfl) (by rfl))) ?_
        refine wl_ldRaw rfl hL hw (by omega) ?_
        rintro A123 c123 f23 i23 i23_1
        refine wl_p (fun _ => o_len (t := 32) Try.underlying32 rfl) ?_
        refine wl_p (fun _ => o_gt rfl rfl) ?_
        refine wl_nil ?_
        refine rk_if rfl (fun h25 => ?_) (fun h25 => ?_)
        · have hno : (L.all fun e => decide (e.2.2.length ≤ 20000)) = false := by
            rw [Bool.eq_false_iff]; intro h4
            have := of_decide_eq_true (List.all_eq_true.1 h4 _ (List.getElem_mem hil))
            omega
          refine rk_seq ?_
          refine rk_region ?_
          refine wl_p (fun _ => o_assign rfl) ?_
          refine wl_nil ?_
          refine ret1 rfl rfl ?_
          exact ⟨by rw [hno, Bool.and_false], hw⟩
        · refine rk_skip ?_
          refine rk_blk ?_
          refine rk_region ?_
          refine wl_p (fun _ => o_move rfl) ?_
          refine wl_p (fun _ => o_add rfl rfl (by omega) (by omega)) ?_
          refine wl_p (fun _ => o_assign rfl) ?_
          refine wl_nil ?_
          exact rk_againf (Fr.le_of (by kernel_rfl) (by kernel_rfl) (by repeat' constructor)) ⟨i + 1, (i : Int) + 1, rfl, by omega, by omega, rfl, by
            rw [List.take_succ_eq_append_getElem hil, List.all_append, hall]
            simp only [List.all_cons, List.all_nil, Bool.and_true, Bool.true_and]
            exact decide_eq_true (by omega), f2, hsz, hw⟩ (by omega)
      · refine rk_exit rfl ?_
        obtain rfl : i = L.length := by omega
        rw [List.take_length] at hall
        exact rk_tof hj (Fr.le_of (by kernel_rfl) (by kernel_rfl) (by repeat' constructor)) ⟨rfl, hall, hw⟩
    clear hw f2
    rintro fr w3 ⟨rfl, hall, hw⟩
    first | refine rk_frame (by simp only [List.cons_append, List.nil_append, List.drop_succ_cons, List.drop_zero]; rfl) ?_ | refine wl_frame (by simp only [List.cons_append, List.nil_append, List.drop_succ_cons, List.drop_zero]; rfl) ?_
    refine rk_seq ?_
    refine rk_region ?_
    refine wl_p (fun _ => o_assign rfl) ?_
    refine wl_nil ?_
    refine ret1 rfl rfl ?_
    exact ⟨by rw [hall, decide_eq_true (by omega)]; rfl, hw⟩
end Go.Proofs.Ytaldpegegekbjaa
