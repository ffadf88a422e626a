/-
  Lists of records: whether they are light, whether they are the same, parts of them.
-/
import Derived.Test.YtpjedpmbninfcaaRecI
namespace Go.Proofs.Ytpjedpmbninfcaa
open Go.RowKit
theorem RSl.take {α : Type} {X : GoT α} {w : World} {A : Option Addr} {L : List α} (h : RSl X w A L) {k : Nat} (hk : k ≤ L.length) : RSl X w A (L.take k) := by
  obtain ⟨xs, h1, h2⟩ := h
  have hl : (L.take k).length = k := by rw [List.length_take]; omega
  refine ⟨xs.take (k * X.sz), by rw [hl]; exact h1.taken hk, fun i hi => ?_⟩
  rw [part_take (by omega), List.getElem_take]
  exact h2 i (by omega)
theorem RSl.drop {α : Type} {X : GoT α} {w : World} {A : Option Addr} {L : List α} (h : RSl X w A L) {k cap : Nat} (hk : k ≤ L.length) (hc : L.length ≤ cap) : RSl X w (cutA A cap X.sz k) (L.drop k) := by
  obtain ⟨xs, h1, h2⟩ := h
  refine ⟨xs.drop (k * X.sz), by rw [List.length_drop]; exact h1.cutn hk hc rfl, fun i hi => ?_⟩
  rw [List.length_drop] at hi
  rw [part_drop, List.getElem_drop]
  exact h2 (k + i) (by omega)
section
variable {fn : Func} {F : Ending → World → Prop} {N : Nat} {ks : List K} {ops : Array Oper} {tg : Tags} {l : List Oper} {fr : Fr} {w w0 : World} {ty : TypeId} {pos : String} {aft : Array Edge} {gd : Option (Nat × Bool)} {d j : Nat} {x y : Operand} {A : Option Addr} {L : List Rc}
--@ rule load l wl_ldRec
theorem wl_ldRec (hx : fr.ev x = some (.pointer (some (adr A (j * 2))))) (hr : RRec w0 A L) (hb : Below w0.heap.size w0 w) (hj : j < L.length)
    (hk : ∀ A1 c1, Rd w0 A1 L[j].2 → L[j].2.length ≤ c1 → c1 ≤ maxLen → WL Try.prog fn F N ks ops tg.tail l ((d, .agg #[.int .u8 (L[j].1.toNat : Int), .slice A1 L[j].2.length c1]) :: fr) w)
    (ht : tg.reads = true := by rfl) (hg : onG ops fr gd = true := by rfl) (hd : Nat.blt d N = true := by rfl) : WL Try.prog fn F N ks ops tg (⟨some d, .load 31 x, ty, pos, aft, gd⟩ :: l) fr w := by
  obtain ⟨A1, c1, h1, h2, h3, h4⟩ := hr.elem hj
  refine wl_r (o_loadn (cs := [.int .u8 (L[j].1.toNat : Int), .slice A1 L[j].2.length c1]) Try.isAgg31 Try.sizeOf31 hx (fun i u hu => ?_)) (hk A1 c1 h2 h3 h4) ht hg hd
  rw [adr_add]
  exact h1.u hb i u hu
--@ side (fun _ hk => hw.trans ((below_of_grown_none hk).mono hw.size))
--@ side (fun _ hk => hw.trans ((below_of_ok hk (by first | exact Nat.le_refl _ | omega) (fun _ e => by cases e)).mono (by first | exact hw.size | omega)))
--@ side (fun _ hk => below_of_grown_none hk)
--@ rule load l wl_ldRecS
theorem wl_ldRecS (hx : fr.ev x = some (.pointer (some (adr A (j * 2))))) (hr : RRec w0 A L) (hb : ∀ w', tg.rw.ok w w' → Below w0.heap.size w0 w') (hj : j < L.length)
    (hk : ∀ A1 c1, Rd w0 A1 L[j].2 → L[j].2.length ≤ c1 → c1 ≤ maxLen → WL Try.prog fn F N ks ops tg.tail l ((d, .agg #[.int .u8 (L[j].1.toNat : Int), .slice A1 L[j].2.length c1]) :: fr) w)
    (ht : tg.stays = true := by rfl) (hg : onG ops fr gd = true := by rfl) (hd : Nat.blt d N = true := by rfl) : WL Try.prog fn F N ks ops tg (⟨some d, .load 31 x, ty, pos, aft, gd⟩ :: l) fr w := by
  obtain ⟨A1, c1, h1, h2, h3, h4⟩ := hr.elem hj
  refine wl_s (fun w' hw' => o_loadn (cs := [.int .u8 (L[j].1.toNat : Int), .slice A1 L[j].2.length c1]) Try.isAgg31 Try.sizeOf31 hx (fun i u hu => ?_)) (hk A1 c1 h2 h3 h4) ht hg hd
  rw [adr_add]
  exact h1.u (hb w' hw') i u hu
--@ rule load l wl_ldRecD
theorem wl_ldRecD (hx : fr.ev x = some (.pointer (some (adr A (j * 2 + 1))))) (hr : RRec w0 A L) (hb : Below w0.heap.size w0 w) (hj : j < L.length)
    (hk : ∀ A1 c1, Rd w0 A1 L[j].2 → L[j].2.length ≤ c1 → c1 ≤ maxLen → WL Try.prog fn F N ks ops tg.tail l ((d, .slice A1 L[j].2.length c1) :: fr) w)
    (ht : tg.reads = true := by rfl) (hg : onG ops fr gd = true := by rfl) (hd : Nat.blt d N = true := by rfl) : WL Try.prog fn F N ks ops tg (⟨some d, .load 26 x, ty, pos, aft, gd⟩ :: l) fr w := by
  obtain ⟨A1, c1, h1, h2, h3, h4⟩ := hr.elem hj
  exact wl_r (o_load (t := 26) Try.isAgg26 hx (h1.u hb 1 _ rfl)) (hk A1 c1 h2 h3 h4) ht hg hd
--@ rule slice l wl_slRecLo
theorem wl_slRecLo {len cap : Nat} {kl : IntKind} {S : Int} (lo : Nat) (hx : fr.ev x = some (.slice A len cap)) (hy : fr.ev y = some (.int kl S)) (hr : RRec w A L) (hlen : len = L.length) (hl : S = (lo : Int)) (h1 : lo ≤ L.length) (h3 : L.length ≤ cap)
    (hk : ∀ A' c', RRec w A' (L.drop lo) → L.length - lo ≤ c' → WL Try.prog fn F N ks ops tg.tail l ((d, .slice A' (L.length - lo) c') :: fr) w) (hg : onG ops fr gd = true := by rfl) (hd : Nat.blt d N = true := by rfl) :
    WL Try.prog fn F N ks ops tg (⟨some d, .slice 42 x (some y) none none, ty, pos, aft, gd⟩ :: l) fr w := by
  subst hlen
  exact wl_p (fun _ => o_slice_lo (sz := 2) (lo := lo) Try.underlying42 Try.sizeOf31 hx hy hl h1) (hk _ _ (RSl.drop (X := gRec) hr h1 h3) (by omega)) hg hd
--@ rule slice l wl_slRecHi
theorem wl_slRecHi {len cap : Nat} {kh : IntKind} {S : Int} (hi : Nat) (hx : fr.ev x = some (.slice A len cap)) (hz : fr.ev y = some (.int kh S)) (hr : RRec w A L) (hlen : len = L.length) (hh : S = (hi : Int)) (h2 : hi ≤ L.length) (h3 : L.length ≤ cap)
    (hk : RRec w A (L.take hi) → WL Try.prog fn F N ks ops tg.tail l ((d, .slice A hi cap) :: fr) w) (hg : onG ops fr gd = true := by rfl) (hd : Nat.blt d N = true := by rfl) :
    WL Try.prog fn F N ks ops tg (⟨some d, .slice 42 x none (some y) none, ty, pos, aft, gd⟩ :: l) fr w :=
  wl_p (fun _ => o_slice_hi (sz := 2) (hi := hi) Try.underlying42 Try.sizeOf31 hx hz hh (by omega)) (hk (RSl.take (X := gRec) hr h2)) hg hd
end
def lightR (L : List Rc) : Prop := L.length ≤ 40 ∧ ∀ r ∈ L, r.2.length ≤ 9000
set_option maxRecDepth 100000 in
theorem C_lightRec {A : Option Addr} {L : List Rc} {n c : Nat} (w : World) (hL : RRec w A L) (hn : n = L.length) (hm : n ≤ maxLen) :
    CallsR Try.prog 18 [.slice A n c, .int .i64 40, .int .i64 9000] w fun v w' => ∃ b, v = .bool b ∧ (b = true → lightR L) ∧ Below w.heap.size w w' := by
  subst hn
  refine callsR Try.func18 rfl rfl (by kernel_rfl) rfl ?_
  have hw := Below.refl w.heap.size w
  refine rk_seq ?_
  refine rk_region ?_
  refine wl_p (fun _ => o_assign rfl) ?_
  refine wl_nil ?_
  refine rk_seq ?_
  refine rk_seq ?_
  refine rk_region ?_
  refine wl_p (fun _ => o_move rfl) ?_
  refine wl_p (fun _ => o_len (t := 42) Try.underlying42 rfl) ?_
  refine wl_p (fun _ => o_move rfl) ?_
  refine wl_p (fun _ => o_gt rfl rfl) ?_
  refine wl_nil ?_
  refine rk_if rfl (fun h11 => ?_) (fun h11 => ?_)
  · refine rk_seq ?_
    refine rk_region ?_
    refine wl_p (fun _ => o_assign rfl) ?_
    refine wl_nil ?_
    refine ret1 rfl rfl ?_
    exact ⟨false, rfl, (fun h => by cases h), hw⟩
  · refine rk_skip ?_
    refine rk_seq ?_
    refine rk_seq ?_
    refine rk_region ?_
    refine wl_p (fun _ => o_assign rfl) ?_
    refine wl_nil ?_
    refine rk_block ?_
    refine rk_joinf (fun fb fr w2 => fr = [] ++ fb.drop 1 ∧ (∀ r ∈ L, r.2.length ≤ 9000) ∧ Below w.heap.size w w2) ?_ (fun ks hj => ?_)
    rotate_left
    · refine rk_loopf (fun fb k fr w2 => ∃ (i : Nat) (v : Int), fr = [(7, .int .i64 v)] ++ fb.drop 1 ∧ v = i ∧ i ≤ L.length ∧ k = L.length - i ∧ (∀ r ∈ L.take i, r.2.length ≤ 9000) ∧ Below w.heap.size w w2) (n := L.length) (Fr.le_of (by kernel_rfl) (by kernel_rfl) (by repeat' constructor)) ⟨0, _, rfl, rfl, by omega, rfl, by simp, hw⟩ ?_
      clear hw
      rintro k fr w2 ⟨i, v, rfl, rfl, hi, rfl, heq, hw⟩
      first | refine rk_frame (by simp only [List.cons_append, List.nil_append, List.drop_succ_cons, List.drop_zero]; rfl) ?_ | refine wl_frame (by simp only [List.cons_append, List.nil_append, List.drop_succ_cons, List.drop_zero]; rfl) ?_
      refine rk_seq ?_
      refine rk_seq ?_
      refine rk_region ?_
      refine wl_p (fun _ => o_move rfl) ?_
      refine wl_p (fun _ => o_move rfl) ?_
      refine wl_p (fun _ => o_len (t := 42) Try.underlying42 rfl) ?_
      refine wl_p (fun _ => o_lt rfl rfl) ?_
      refine wl_nil ?_
      refine rk_if rfl (fun h15 => ?_) (fun h15 => ?_)
      · have h1 : i < L.length := by omega
        refine rk_skip ?_
        refine rk_seq ?_
        refine rk_block ?_
        refine rk_seq ?_
        refine rk_region ?_
        refine wl_p (fun _ => o_move rfl) ?_
        refine wl_p (fun _ => o_move rfl) ?_
        refine wl_p (fun _ => (o_iaddrA (i) Try.underlying42 Try.sizeOf31 rfl rfl rfl (hL.some_ (by omega)) (by omega))) ?_
        refine wl_p (fun _ => (o_faddrR rfl Try.underlying31 (by rfl) Try.sizeOf26 (by rfl) (by rfl))) ?_
        refine wl_ldRecD rfl hL hw (by omega) ?_
        rintro A122 c122 f22 i22 i22_1
        refine wl_p (fun _ => o_len (t := 26) Try.underlying26 rfl) ?_
        refine wl_p (fun _ => o_move rfl) ?_
        refine wl_p (fun _ => o_gt rfl rfl) ?_
        refine wl_nil ?_
        refine rk_if rfl (fun h25 => ?_) (fun h25 => ?_)
        · refine rk_seq ?_
          refine rk_region ?_
          refine wl_p (fun _ => o_assign rfl) ?_
          refine wl_nil ?_
          refine ret1 rfl rfl ?_
          exact ⟨false, rfl, (fun h => by cases h), hw⟩
        · refine rk_skip ?_
          refine rk_blk ?_
          refine rk_region ?_
          refine wl_p (fun _ => o_move rfl) ?_
          refine wl_p (fun _ => o_add rfl rfl (by omega) (by omega)) ?_
          refine wl_p (fun _ => o_assign rfl) ?_
          refine wl_nil ?_
          exact rk_againf (Fr.le_of (by kernel_rfl) (by kernel_rfl) (by repeat' constructor)) ⟨i + 1, (i : Int) + 1, rfl, by omega, by omega, rfl, by
            rw [List.take_succ_eq_append_getElem h1]
            intro r hr
            rcases List.mem_append.1 hr with h | h
            · exact heq r h
            · rw [List.mem_singleton] at h; subst h; omega, hw⟩ (by omega)
      · refine rk_exit rfl ?_
        obtain rfl : i = L.length := by omega
        rw [List.take_length] at heq
        exact rk_tof hj (Fr.le_of (by kernel_rfl) (by kernel_rfl) (by repeat' constructor)) ⟨rfl, heq, hw⟩
    clear hw
    rintro fr w2 ⟨rfl, e, hw⟩
    first | refine rk_frame (by simp only [List.cons_append, List.nil_append, List.drop_succ_cons, List.drop_zero]; rfl) ?_ | refine wl_frame (by simp only [List.cons_append, List.nil_append, List.drop_succ_cons, List.drop_zero]; rfl) ?_
    refine rk_seq ?_
    refine rk_region ?_
    refine wl_p (fun _ => o_assign rfl) ?_
    refine wl_nil ?_
    refine ret1 rfl rfl ?_
    exact ⟨true, rfl, fun _ => ⟨by omega, e⟩, hw⟩
set_option maxRecDepth 100000 in
theorem C_kRecs {A B : Option Addr} {a b : List Rc} {n m c d : Nat} (w : World) (hA : RRec w A a) (hB : RRec w B b) (hn : n = a.length) (hm : m = b.length) (hl : a.length ≤ 4000000000) (hl2 : b.length ≤ 4000000000) :
    CallsR Try.prog 20 [.slice A n c, .slice B m d] w fun v w' => v = .bool (decide (a = b)) ∧ Below w.heap.size w w' := by
  subst hn; subst hm
  refine callsR Try.func20 rfl rfl (by kernel_rfl) rfl ?_
  have hw := Below.refl w.heap.size w
  refine rk_seq ?_
  refine rk_region ?_
  refine wl_p (fun _ => o_assign rfl) ?_
  refine wl_nil ?_
  refine rk_seq ?_
  refine rk_seq ?_
  refine rk_region ?_
  refine wl_p (fun _ => o_move rfl) ?_
  refine wl_p (fun _ => o_len (t := 42) Try.underlying42 rfl) ?_
  refine wl_p (fun _ => o_move rfl) ?_
  refine wl_p (fun _ => o_len (t := 42) Try.underlying42 rfl) ?_
  refine wl_p (fun _ => o_ne rfl rfl) ?_
  refine wl_nil ?_
  refine rk_if rfl (fun h10 => ?_) (fun h10 => ?_)
  · refine rk_seq ?_
    refine rk_region ?_
    refine wl_p (fun _ => o_assign rfl) ?_
    refine wl_nil ?_
    refine ret1 rfl rfl ?_
    exact ⟨by rw [decide_eq_false (fun e => by rw [e] at h10; omega)], hw⟩
  · refine rk_skip ?_
    refine rk_seq ?_
    refine rk_seq ?_
    refine rk_region ?_
    refine wl_p (fun _ => o_assign rfl) ?_
    refine wl_nil ?_
    refine rk_block ?_
    refine rk_joinf (fun fb fr w2 => fr = [] ++ fb.drop 1 ∧ a = b ∧ Below w.heap.size w w2) ?_ (fun ks hj => ?_)
    rotate_left
    · refine rk_loopf (fun fb k fr w2 => ∃ (i : Nat) (v : Int), fr = [(5, .int .i64 v)] ++ fb.drop 1 ∧ v = i ∧ i ≤ a.length ∧ k = a.length - i ∧ a.take i = b.take i ∧ Below w.heap.size w w2) (n := a.length) (Fr.le_of (by kernel_rfl) (by kernel_rfl) (by repeat' constructor)) ⟨0, _, rfl, rfl, by omega, rfl, rfl, hw⟩ ?_
      clear hw
      rintro k fr w2 ⟨i, v, rfl, rfl, hi, rfl, heq, hw⟩
      first | refine rk_frame (by simp only [List.cons_append, List.nil_append, List.drop_succ_cons, List.drop_zero]; rfl) ?_ | refine wl_frame (by simp only [List.cons_append, List.nil_append, List.drop_succ_cons, List.drop_zero]; rfl) ?_
      refine rk_seq ?_
      refine rk_seq ?_
      refine rk_region ?_
      refine wl_p (fun _ => o_move rfl) ?_
      refine wl_p (fun _ => o_move rfl) ?_
      refine wl_p (fun _ => o_len (t := 42) Try.underlying42 rfl) ?_
      refine wl_p (fun _ => o_lt rfl rfl) ?_
      refine wl_nil ?_
      refine rk_if rfl (fun h14 => ?_) (fun h14 => ?_)
      · have h1 : i < a.length := by omega
        have h2 : i < b.length := by omega
        refine rk_skip ?_
        refine rk_seq ?_
        refine rk_block ?_
        refine rk_seq ?_
        refine rk_draw (id := 6) (none) [0, 0, 3, 4, 0, 0, 48, 64, 136, 256] [0, 0, 3, 7, 0, 0, 48, 112, 255, 511] 256 0 [(.p, 0), (.p, 1), (.p, 2), (.r, 3), (.p, 4), (.p, 5), (.p, 6), (.r, 7), (.l, 8), (.p, 9)] (by kernel_rfl) (by kernel_rfl) (by kernel_rfl) (by kernel_rfl) (by kernel_rfl) ?_
        replace hw := hw.drew
        refine wl_p (fun _ => o_move rfl) ?_
        refine wl_p (fun _ => o_move rfl) ?_
        refine wl_p (fun _ => (o_iaddrA (i) Try.underlying42 Try.sizeOf31 rfl rfl rfl (hA.some_ (by omega)) (by omega))) ?_
        refine wl_ldRec rfl hA hw (by omega) ?_
        rintro A120 c120 f20 i20 i20_1
        refine wl_p (fun _ => o_move rfl) ?_
        refine wl_p (fun _ => o_move rfl) ?_
        refine wl_p (fun _ => (o_iaddrA (i) Try.underlying42 Try.sizeOf31 rfl rfl rfl (hB.some_ (by omega)) (by omega))) ?_
        refine wl_ldRec rfl hB hw (by omega) ?_
        rintro A124 c124 f24 i24 i24_1
        refine wl_call rfl (C_kRecZ _ (by rfl) (by rfl) (f20.u hw) (f24.u hw) rfl rfl) ?_
        rintro v25 w25 ⟨rfl, b25⟩
        simp only [drew_size] at b25
        have s25 := b25.size
        simp only [drew_size] at s25
        replace hw := hw.trans (b25.mono hw.size)
        refine wl_p (fun _ => o_not rfl) ?_
        refine wl_nild ?_
        refine rk_cond rfl (fun h26 => ?_) (fun h26 => ?_) <;> try simp only [decide_eq_true_eq, decide_eq_false_iff_not, Bool.not_eq_true', Bool.not_eq_false', Bool.and_eq_true, Bool.and_eq_false_iff, Bool.or_eq_true, Bool.or_eq_false_iff] at h26
        · refine rk_seq ?_
          refine rk_region ?_
          refine wl_p (fun _ => o_assign rfl) ?_
          refine wl_nil ?_
          refine ret1 rfl rfl ?_
          exact ⟨by rw [decide_eq_false (fun e => by subst e; simp at h26)], hw⟩
        · refine rk_skip ?_
          refine rk_blk ?_
          refine rk_region ?_
          refine wl_p (fun _ => o_move rfl) ?_
          refine wl_p (fun _ => o_add rfl rfl (by omega) (by omega)) ?_
          refine wl_p (fun _ => o_assign rfl) ?_
          refine wl_nil ?_
          exact rk_againf (Fr.le_of (by kernel_rfl) (by kernel_rfl) (by repeat' constructor)) ⟨i + 1, (i : Int) + 1, rfl, by omega, by omega, rfl, by rw [List.take_succ_eq_append_getElem h1, List.take_succ_eq_append_getElem h2, heq]; simp at h26; rw [show a[i] = b[i] from Prod.ext h26.1 h26.2], hw⟩ (by omega)
      · refine rk_exit rfl ?_
        obtain rfl : i = a.length := by omega
        have e : a = b := by
          rw [List.take_length] at heq
          rw [heq]; exact List.take_of_length_le (by omega)
        exact rk_tof hj (Fr.le_of (by kernel_rfl) (by kernel_rfl) (by repeat' constructor)) ⟨rfl, e, hw⟩
    clear hw
    rintro fr w2 ⟨rfl, e, hw⟩
    first | refine rk_frame (by simp only [List.cons_append, List.nil_append, List.drop_succ_cons, List.drop_zero]; rfl) ?_ | refine wl_frame (by simp only [List.cons_append, List.nil_append, List.drop_succ_cons, List.drop_zero]; rfl) ?_
    refine rk_seq ?_
    refine rk_region ?_
    refine wl_p (fun _ => o_assign rfl) ?_
    refine wl_nil ?_
    refine ret1 rfl rfl ?_
    exact ⟨by rw [decide_eq_true e], hw⟩
end Go.Proofs.Ytpjedpmbninfcaa
