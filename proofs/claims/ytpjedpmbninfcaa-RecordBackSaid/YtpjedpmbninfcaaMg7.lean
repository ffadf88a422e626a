/-
  Lists of records: whether they are light, whether they are the same, parts of them.
-/
import Derived.Test.YtpjedpmbninfcaaMg6
import Derived.Maps.OwnSet
import Derived.WideKeyArr2
import Derived.Carry
namespace Go.Proofs.Ytpjedpmbninfcaa
open Go.RowKit
theorem RSl.take {α : Type} {X : GoT α} {w : World} {A : Option Addr} {L : List α} (h : RSl X w A L) {k : Nat} (hk : k ≤ L.length) : RSl X w A (L.take k) := by
  obtain ⟨xs, h1, h2⟩ := h
  have hl : (L.take k).length = k := by rw [List.length_take]; omega
  refine ⟨xs.take (k * X.sz), by rw [hl]; exact h1.taken hk, fun i hi => ?_⟩
  rw [part_take (by omega), List.getElem_take]
  exact h2 i (by omega)
theorem RSl.drop {α : Type} {X : GoT α} {w : World} {A : Option Addr} {L : List α} (h : RSl X w A L) {k cap : Nat} (hk : k ≤ L.length) (hc : L.length ≤ cap) : RSl X w (cutA A cap X.sz k) (L.drop k) := by
  obtain ⟨xs, h1, h2⟩ := h
  refine ⟨xs.drop (k * X.sz), by rw [List.length_drop]; exact h1.cutn hk hc rfl, fun i hi => ?_⟩
  rw [List.length_drop] at hi
  rw [part_drop, List.getElem_drop]
  exact h2 (k + i) (by omega)
section
variable {fn : Func} {F : Ending → World → Prop} {N : Nat} {ks : List K} {ops : Array Oper} {tg : Tags} {l : List Oper} {fr : Fr} {w w0 : World} {ty : TypeId} {pos : String} {aft : Array Edge} {gd : Option (Nat × Bool)} {d j : Nat} {x y : Operand} {A : Option Addr} {L : List Rc}
--@ rule load l wl_ldRec
theorem wl_ldRec (hx : fr.ev x = some (.pointer (some (adr A (j * 2))))) (hr : RRec w0 A L) (hb : Below w0.heap.size w0 w) (hj : j < L.length)
    (hk : ∀ A1 c1, Rd w0 A1 L[j].2 → L[j].2.length ≤ c1 → c1 ≤ maxLen → WL Try.prog fn F N ks ops tg.tail l ((d, .agg #[.int .u8 (L[j].1.toNat : Int), .slice A1 L[j].2.length c1]) :: fr) w)
    (ht : tg.reads = true := by rfl) (hg : onG ops fr gd = true := by rfl) (hd : Nat.blt d N = true := by rfl) : WL Try.prog fn F N ks ops tg (⟨some d, .load 31 x, ty, pos, aft, gd⟩ :: l) fr w := by
  obtain ⟨A1, c1, h1, h2, h3, h4⟩ := hr.elem hj
  refine wl_r (o_loadn (cs := [.int .u8 (L[j].1.toNat : Int), .slice A1 L[j].2.length c1]) Try.isAgg31 Try.sizeOf31 hx (fun i u hu => ?_)) (hk A1 c1 h2 h3 h4) ht hg hd
  rw [adr_add]
  exact h1.u hb i u hu
--@ side (fun _ hk => hw.trans ((below_of_grown_none hk).mono hw.size))
--@ side (fun _ hk => hw.trans ((below_of_ok hk (by first | exact Nat.le_refl _ | omega) (fun _ e => by cases e)).mono (by first | exact hw.size | omega)))
--@ side (fun _ hk => below_of_grown_none hk)
--@ rule load l wl_ldRecS
theorem wl_ldRecS (hx : fr.ev x = some (.pointer (some (adr A (j * 2))))) (hr : RRec w0 A L) (hb : ∀ w', tg.rw.ok w w' → Below w0.heap.size w0 w') (hj : j < L.length)
    (hk : ∀ A1 c1, Rd w0 A1 L[j].2 → L[j].2.length ≤ c1 → c1 ≤ maxLen → WL Try.prog fn F N ks ops tg.tail l ((d, .agg #[.int .u8 (L[j].1.toNat : Int), .slice A1 L[j].2.length c1]) :: fr) w)
    (ht : tg.stays = true := by rfl) (hg : onG ops fr gd = true := by rfl) (hd : Nat.blt d N = true := by rfl) : WL Try.prog fn F N ks ops tg (⟨some d, .load 31 x, ty, pos, aft, gd⟩ :: l) fr w := by
  obtain ⟨A1, c1, h1, h2, h3, h4⟩ := hr.elem hj
  refine wl_s (fun w' hw' => o_loadn (cs := [.int .u8 (L[j].1.toNat : Int), .slice A1 L[j].2.length c1]) Try.isAgg31 Try.sizeOf31 hx (fun i u hu => ?_)) (hk A1 c1 h2 h3 h4) ht hg hd
  rw [adr_add]
  exact h1.u (hb w' hw') i u hu
--@ rule load l wl_ldRecD
theorem wl_ldRecD (hx : fr.ev x = some (.pointer (some (adr A (j * 2 + 1))))) (hr : RRec w0 A L) (hb : Below w0.heap.size w0 w) (hj : j < L.length)
    (hk : ∀ A1 c1, Rd w0 A1 L[j].2 → L[j].2.length ≤ c1 → c1 ≤ maxLen → WL Try.prog fn F N ks ops tg.tail l ((d, .slice A1 L[j].2.length c1) :: fr) w)
    (ht : tg.reads = true := by rfl) (hg : onG ops fr gd = true := by rfl) (hd : Nat.blt d N = true := by rfl) : WL Try.prog fn F N ks ops tg (⟨some d, .load 26 x, ty, pos, aft, gd⟩ :: l) fr w := by
  obtain ⟨A1, c1, h1, h2, h3, h4⟩ := hr.elem hj
  exact wl_r (o_load (t := 26) Try.isAgg26 hx (h1.u hb 1 _ rfl)) (hk A1 c1 h2 h3 h4) ht hg hd
--@ rule slice l wl_slRecLo
theorem wl_slRecLo {len cap : Nat} {kl : IntKind} {S : Int} (lo : Nat) (hx : fr.ev x = some (.slice A len cap)) (hy : fr.ev y = some (.int kl S)) (hr : RRec w A L) (hlen : len = L.length) (hl : S = (lo : Int)) (h1 : lo ≤ L.length) (h3 : L.length ≤ cap)
    (hk : ∀ A' c', RRec w A' (L.drop lo) → L.length - lo ≤ c' → WL Try.prog fn F N ks ops tg.tail l ((d, .slice A' (L.length - lo) c') :: fr) w) (hg : onG ops fr gd = true := by rfl) (hd : Nat.blt d N = true := by rfl) :
    WL Try.prog fn F N ks ops tg (⟨some d, .slice 42 x (some y) none none, ty, pos, aft, gd⟩ :: l) fr w := by
  subst hlen
  exact wl_p (fun _ => o_slice_lo (sz := 2) (lo := lo) Try.underlying42 Try.sizeOf31 hx hy hl h1) (hk _ _ (RSl.drop (X := gRec) hr h1 h3) (by omega)) hg hd
--@ rule slice l wl_slRecHi
theorem wl_slRecHi {len cap : Nat} {kh : IntKind} {S : Int} (hi : Nat) (hx : fr.ev x = some (.slice A len cap)) (hz : fr.ev y = some (.int kh S)) (hr : RRec w A L) (hlen : len = L.length) (hh : S = (hi : Int)) (h2 : hi ≤ L.length) (h3 : L.length ≤ cap)
    (hk : RRec w A (L.take hi) → WL Try.prog fn F N ks ops tg.tail l ((d, .slice A hi cap) :: fr) w) (hg : onG ops fr gd = true := by rfl) (hd : Nat.blt d N = true := by rfl) :
    WL Try.prog fn F N ks ops tg (⟨some d, .slice 42 x none (some y) none, ty, pos, aft, gd⟩ :: l) fr w :=
  wl_p (fun _ => o_slice_hi (sz := 2) (hi := hi) Try.underlying42 Try.sizeOf31 hx hz hh (by omega)) (hk (RSl.take (X := gRec) hr h2)) hg hd
end
def lightR (L : List Rc) : Prop := L.length ≤ 40 ∧ ∀ r ∈ L, r.2.length ≤ 9000
set_option maxRecDepth 100000 in
theorem C_lightRec {A : Option Addr} {L : List Rc} {n c : Nat} (w : World) (hL : RRec w A L) (hn : n = L.length) (hm : n ≤ maxLen) :
    CallsR Try.prog 18 [.slice A n c, .int .i64 40, .int .i64 9000] w fun v w' => ∃ b, v = .bool b ∧ (b = true → lightR L) ∧ Below w.heap.size w w' := by
  subst hn
  refine callsR Try.func18 rfl rfl (by kernel_rfl) rfl ?_
  have hw := Below.refl w.heap.size w
  refine rk_seq ?_
  refine rk_region ?_
  refine wl_p (fun _ => o_assign rfl) ?_
  refine wl_nil ?_
  refine rk_seq ?_
  refine rk_seq ?_
  refine rk_region ?_
  refine wl_p (fun _ => o_move rfl) ?_
  refine wl_p (fun _ => o_len (t := 42) Try.underlying42 rfl) ?_
  refine wl_p (fun _ => o_move rfl) ?_
  refine wl_p (fun _ => o_gt rfl rfl) ?_
  refine wl_nil ?_
  refine rk_if rfl (fun h11 => ?_) (fun h11 => ?_)
  · refine rk_seq ?_
    refine rk_region ?_
    refine wl_p (fun _ => o_assign rfl) ?_
    refine wl_nil ?_
    refine ret1 rfl rfl ?_
    exact ⟨false, rfl, (fun h => by cases h), hw⟩
  · refine rk_skip ?_
    refine rk_seq ?_
    refine rk_seq ?_
    refine rk_region ?_
    refine wl_p (fun _ => o_assign rfl) ?_
    refine wl_nil ?_
    refine rk_block ?_
    refine rk_joinf (fun fb fr w2 => fr = [] ++ fb.drop 1 ∧ (∀ r ∈ L, r.2.length ≤ 9000) ∧ Below w.heap.size w w2) ?_ (fun ks hj => ?_)
    rotate_left
    · refine rk_loopf (fun fb k fr w2 => ∃ (i : Nat) (v : Int), fr = [(7, .int .i64 v)] ++ fb.drop 1 ∧ v = i ∧ i ≤ L.length ∧ k = L.length - i ∧ (∀ r ∈ L.take i, r.2.length ≤ 9000) ∧ Below w.heap.size w w2) (n := L.length) (Fr.le_of (by kernel_rfl) (by kernel_rfl) (by repeat' constructor)) ⟨0, _, rfl, rfl, by omega, rfl, by simp, hw⟩ ?_
      clear hw
      rintro k fr w2 ⟨i, v, rfl, rfl, hi, rfl, heq, hw⟩
      first | refine rk_frame (by simp only [List.cons_append, List.nil_append, List.drop_succ_cons, List.drop_zero]; rfl) ?_ | refine wl_frame (by simp only [List.cons_append, List.nil_append, List.drop_succ_cons, List.drop_zero]; rfl) ?_
      refine rk_seq ?_
      refine rk_seq ?_
      refine rk_region ?_
      refine wl_p (fun _ => o_move rfl) ?_
      refine wl_p (fun _ => o_move rfl) ?_
      refine wl_p (fun _ => o_len (t := 42) Try.underlying42 rfl) ?_
      refine wl_p (fun _ => o_lt rfl rfl) ?_
      refine wl_nil ?_
      refine rk_if rfl (fun h15 => ?_) (fun h15 => ?_)
      · have h1 : i < L.length := by omega
        refine rk_skip ?_
        refine rk_seq ?_
        refine rk_block ?_
        refine rk_seq ?_
        refine rk_region ?_
        refine wl_p (fun _ => o_move rfl) ?_
        refine wl_p (fun _ => o_move rfl) ?_
        refine wl_p (fun _ => (o_iaddrA (i) Try.underlying42 Try.sizeOf31 rfl rfl rfl (hL.some_ (by omega)) (by omega))) ?_
        refine wl_p (fun _ => (o_faddrR rfl Try.underlying31 (by rfl) Try.sizeOf26 (by rfl) (by rfl))) ?_
        refine wl_ldRecD rfl hL hw (by omega) ?_
        rintro A122 c122 f22 i22 i22_1
        refine wl_p (fun _ => o_len (t := 26) Try.underlying26 rfl) ?_
        refine wl_p (fun _ => o_move rfl) ?_
        refine wl_p (fun _ => o_gt rfl rfl) ?_
        refine wl_nil ?_
        refine rk_if rfl (fun h25 => ?_) (fun h25 => ?_)
        · refine rk_seq ?_
          refine rk_region ?_
          refine wl_p (fun _ => o_assign rfl) ?_
          refine wl_nil ?_
          refine ret1 rfl rfl ?_
          exact ⟨false, rfl, (fun h => by cases h), hw⟩
        · refine rk_skip ?_
          refine rk_blk ?_
          refine rk_region ?_
          refine wl_p (fun _ => o_move rfl) ?_
          refine wl_p (fun _ => o_add rfl rfl (by omega) (by omega)) ?_
          refine wl_p (fun _ => o_assign rfl) ?_
          refine wl_nil ?_
          exact rk_againf (Fr.le_of (by kernel_rfl) (by kernel_rfl) (by repeat' constructor)) ⟨i + 1, (i : Int) + 1, rfl, by omega, by omega, rfl, by
            rw [List.take_succ_eq_append_getElem h1]
            intro r hr
            rcases List.mem_append.1 hr with h | h
            · exact heq r h
            · rw [List.mem_singleton] at h; subst h; omega, hw⟩ (by omega)
      · refine rk_exit rfl ?_
        obtain rfl : i = L.length := by omega
        rw [List.take_length] at heq
        exact rk_tof hj (Fr.le_of (by kernel_rfl) (by kernel_rfl) (by repeat' constructor)) ⟨rfl, heq, hw⟩
    clear hw
    rintro fr w2 ⟨rfl, e, hw⟩
    first | refine rk_frame (by simp only [List.cons_append, List.nil_append, List.drop_succ_cons, List.drop_zero]; rfl) ?_ | refine wl_frame (by simp only [List.cons_append, List.nil_append, List.drop_succ_cons, List.drop_zero]; rfl) ?_
    refine rk_seq ?_
    refine rk_region ?_
    refine wl_p (fun _ => o_assign rfl) ?_
    refine wl_nil ?_
    refine ret1 rfl rfl ?_
    exact ⟨true, rfl, fun _ => ⟨by omega, e⟩, hw⟩
set_option maxRecDepth 100000 in
theorem C_kRecs {A B : Option Addr} {a b : List Rc} {n m c d : Nat} (w : World) (hA : RRec w A a) (hB : RRec w B b) (hn : n = a.length) (hm : m = b.length) (hl : a.length ≤ 4000000000) (hl2 : b.length ≤ 4000000000) :
    CallsR Try.prog 20 [.slice A n c, .slice B m d] w fun v w' => v = .bool (decide (a = b)) ∧ Below w.heap.size w w' := by
  subst hn; subst hm
  refine callsR Try.func20 rfl rfl (by kernel_rfl) rfl ?_
  have hw := Below.refl w.heap.size w
  refine rk_seq ?_
  refine rk_region ?_
  refine wl_p (fun _ => o_assign rfl) ?_
  refine wl_nil ?_
  refine rk_seq ?_
  refine rk_seq ?_
  refine rk_region ?_
  refine wl_p (fun _ => o_move rfl) ?_
  refine wl_p (fun _ => o_len (t := 42) Try.underlying42 rfl) ?_
  refine wl_p (fun _ => o_move rfl) ?_
  refine wl_p (fun _ => o_len (t := 42) Try.underlying42 rfl) ?_
  refine wl_p (fun _ => o_ne rfl rfl) ?_
  refine wl_nil ?_
  refine rk_if rfl (fun h10 => ?_) (fun h10 => ?_)
  · refine rk_seq ?_
    refine rk_region ?_
    refine wl_p (fun _ => o_assign rfl) ?_
    refine wl_nil ?_
    refine ret1 rfl rfl ?_
    exact ⟨by rw [decide_eq_false (fun e => by rw [e] at h10; omega)], hw⟩
  · refine rk_skip ?_
    refine rk_seq ?_
    refine rk_seq ?_
    refine rk_region ?_
    refine wl_p (fun _ => o_assign rfl) ?_
    refine wl_nil ?_
    refine rk_block ?_
    refine rk_joinf (fun fb fr w2 => fr = [] ++ fb.drop 1 ∧ a = b ∧ Below w.heap.size w w2) ?_ (fun ks hj => ?_)
    rotate_left
    · refine rk_loopf (fun fb k fr w2 => ∃ (i : Nat) (v : Int), fr = [(5, .int .i64 v)] ++ fb.drop 1 ∧ v = i ∧ i ≤ a.length ∧ k = a.length - i ∧ a.take i = b.take i ∧ Below w.heap.size w w2) (n := a.length) (Fr.le_of (by kernel_rfl) (by kernel_rfl) (by repeat' constructor)) ⟨0, _, rfl, rfl, by omega, rfl, rfl, hw⟩ ?_
      clear hw
      rintro k fr w2 ⟨i, v, rfl, rfl, hi, rfl, heq, hw⟩
      first | refine rk_frame (by simp only [List.cons_append, List.nil_append, List.drop_succ_cons, List.drop_zero]; rfl) ?_ | refine wl_frame (by simp only [List.cons_append, List.nil_append, List.drop_succ_cons, List.drop_zero]; rfl) ?_
      refine rk_seq ?_
      refine rk_seq ?_
      refine rk_region ?_
      refine wl_p (fun _ => o_move rfl) ?_
      refine wl_p (fun _ => o_move rfl) ?_
      refine wl_p (fun _ => o_len (t := 42) Try.underlying42 rfl) ?_
      refine wl_p (fun _ => o_lt rfl rfl) ?_
      refine wl_nil ?_
      refine rk_if rfl (fun h14 => ?_) (fun h14 => ?_)
      · have h1 : i < a.length := by omega
        have h2 : i < b.length := by omega
        refine rk_skip ?_
        refine rk_seq ?_
        refine rk_block ?_
        refine rk_seq ?_
        refine rk_draw (id := 6) (none) [0, 0, 3, 4, 0, 0, 48, 64, 136, 256] [0, 0, 3, 7, 0, 0, 48, 112, 255, 511] 256 0 [(.p, 0), (.p, 1), (.p, 2), (.r, 3), (.p, 4), (.p, 5), (.p, 6), (.r, 7), (.l, 8), (.p, 9)] (by kernel_rfl) (by kernel_rfl) (by kernel_rfl) (by kernel_rfl) (by kernel_rfl) ?_
        replace hw := hw.drew
        refine wl_p (fun _ => o_move rfl) ?_
        refine wl_p (fun _ => o_move rfl) ?_
        refine wl_p (fun _ => (o_iaddrA (i) Try.underlying42 Try.sizeOf31 rfl rfl rfl (hA.some_ (by omega)) (by omega))) ?_
        refine wl_ldRec rfl hA hw (by omega) ?_
        rintro A120 c120 f20 i20 i20_1
        refine wl_p (fun _ => o_move rfl) ?_
        refine wl_p (fun _ => o_move rfl) ?_
        refine wl_p (fun _ => (o_iaddrA (i) Try.underlying42 Try.sizeOf31 rfl rfl rfl (hB.some_ (by omega)) (by omega))) ?_
        refine wl_ldRec rfl hB hw (by omega) ?_
        rintro A124 c124 f24 i24 i24_1
        refine wl_call rfl (C_kRecZ _ (by rfl) (by rfl) (f20.u hw) (f24.u hw) rfl rfl) ?_
        rintro v25 w25 ⟨rfl, b25⟩
        simp only [drew_size] at b25
        have s25 := b25.size
        simp only [drew_size] at s25
        replace hw := hw.trans (b25.mono hw.size)
        refine wl_p (fun _ => o_not rfl) ?_
        refine wl_nild ?_
        refine rk_cond rfl (fun h26 => ?_) (fun h26 => ?_) <;> try simp only [decide_eq_true_eq, decide_eq_false_iff_not, Bool.not_eq_true', Bool.not_eq_false', Bool.and_eq_true, Bool.and_eq_false_iff, Bool.or_eq_true, Bool.or_eq_false_iff] at h26
        · refine rk_seq ?_
          refine rk_region ?_
          refine wl_p (fun _ => o_assign rfl) ?_
          refine wl_nil ?_
          refine ret1 rfl rfl ?_
          exact ⟨by rw [decide_eq_false (fun e => by subst e; simp at h26)], hw⟩
        · refine rk_skip ?_
          refine rk_blk ?_
          refine rk_region ?_
          refine wl_p (fun _ => o_move rfl) ?_
          refine wl_p (fun _ => o_add rfl rfl (by omega) (by omega)) ?_
          refine wl_p (fun _ => o_assign rfl) ?_
          refine wl_nil ?_
          exact rk_againf (Fr.le_of (by kernel_rfl) (by kernel_rfl) (by repeat' constructor)) ⟨i + 1, (i : Int) + 1, rfl, by omega, by omega, rfl, by rw [List.take_succ_eq_append_getElem h1, List.take_succ_eq_append_getElem h2, heq]; simp at h26; rw [show a[i] = b[i] from Prod.ext h26.1 h26.2], hw⟩ (by omega)
      · refine rk_exit rfl ?_
        obtain rfl : i = a.length := by omega
        have e : a = b := by
          rw [List.take_length] at heq
          rw [heq]; exact List.take_of_length_le (by omega)
        exact rk_tof hj (Fr.le_of (by kernel_rfl) (by kernel_rfl) (by repeat' constructor)) ⟨rfl, e, hw⟩
    clear hw
    rintro fr w2 ⟨rfl, e, hw⟩
    first | refine rk_frame (by simp only [List.cons_append, List.nil_append, List.drop_succ_cons, List.drop_zero]; rfl) ?_ | refine wl_frame (by simp only [List.cons_append, List.nil_append, List.drop_succ_cons, List.drop_zero]; rfl) ?_
    refine rk_seq ?_
    refine rk_region ?_
    refine wl_p (fun _ => o_assign rfl) ?_
    refine wl_nil ?_
    refine ret1 rfl rfl ?_
    exact ⟨by rw [decide_eq_true e], hw⟩
end Go.Proofs.Ytpjedpmbninfcaa
/-
  The statement RecordParts: its walk.
-/
namespace Go.Proofs.Ytpjedpmbninfcaa
open Go.RowKit
/-- The records that can be read one after the other. -/
noncomputable def allR (c b : By) : List Rc := by
  classical
  exact if h : ∃ L, AllP c b L then h.choose else []
theorem AllP.eq {c b : By} {L : List Rc} (h : AllP c b L) : allR c b = L := by
  unfold allR
  rw [dif_pos ⟨L, h⟩]
  exact AllP.uniq (Exists.choose_spec (⟨L, h⟩ : ∃ L, AllP c b L)) h
theorem AllP.ex (c b : By) : ∃ L, AllP c b L := by
  have key : ∀ (n : Nat) (c b : By), b.length ≤ n → ∃ L, AllP c b L := by
    intro n
    induction n with
    | zero =>
      intro c b h
      obtain rfl : b = [] := List.length_eq_zero_iff.1 (by omega)
      exact ⟨[], [], rfl, by simp, by rw [chainAll, readR_nil]; simp⟩
    | succ n ih =>
      intro c b h
      by_cases he : (readR c b).2.2.2 = 0
      · obtain ⟨⟨r, z, x, e⟩, hr⟩ : ∃ s, readR c b = s := ⟨_, rfl⟩
        rw [hr] at he
        simp only at he
        subst he
        obtain ⟨h1, h2, h3, q, h4⟩ := readR_back hr
        have hl := congrArg List.length h4
        rw [List.length_append, bytesR_len] at hl
        obtain ⟨L, p, k1, k2, k3⟩ := ih x q (by omega)
        refine ⟨r :: L, p, ?_, fun y hy => ?_, ?_⟩
        · rw [h4, bytesAll, ← h3, List.append_assoc, ← k1]
        · rcases List.mem_cons.1 hy with e | e
          · subst e; exact h1
          · exact k2 y e
        · rw [chainAll, ← h3]; exact k3
      · exact ⟨[], b, rfl, by simp, he⟩
  exact key _ c b (Nat.le_refl _)
theorem AllP.fun {c b : By} : AllP c b (allR c b) := by
  obtain ⟨L, h⟩ := AllP.ex c b
  rw [h.eq]; exact h
theorem C_AllN {A : Option Addr} {b c ch : By} {L : List Rc} {n nb cap : Nat} (w : World) (hr : allR c b = L) (h1 : (bytesAll c L).length = nb) (h2 : chainAll c L = ch) (hb : Rd w A b) (hn : n = b.length) (hcap : b.length ≤ cap) (hc : c.length = 32) (hl : b.length ≤ 400000) :
    CallsR Try.prog 19 [.agg (B8 c).toArray, .slice A n cap] w fun v w' => ∃ (A' : Option Addr) (c' : Nat), v = .tuple #[.slice A' L.length c', .int .i64 (nb : Int), .agg (B8 ch).toArray] ∧ OwnRec w' w.heap.size w'.heap.size A' c' L ∧ Below w.heap.size w w' := by
  refine (C_AllR w hb hn hcap hc hl).mono ?_
  rintro v w' ⟨L', A', c', rfl, hA, hO, hw⟩
  obtain rfl : L = L' := by rw [← hr]; exact hA.eq
  rw [h1, h2]
  exact ⟨A', c', rfl, hO, hw⟩
theorem bytesAll_le (n : Nat) : ∀ (d : By) (l : List Rc), (∀ r ∈ l, OkR r) → l.length ≤ n → (bytesAll d l).length ≤ 8210 * n
  | d, [], _, _ => by simp [bytesAll]
  | d, r :: l, h, hn => by
    obtain ⟨m, rfl⟩ : ∃ m, n = m + 1 := ⟨n - 1, by simp at hn; omega⟩
    have ih := bytesAll_le m (nextB d r) l (fun x hx => h x (by simp [hx])) (by simpa using hn)
    have h1 := bodyB_le (r := r) (n := 8192) (h r (by simp)).2
    rw [bytesAll, List.length_append, bytesR_len]; omega
/-- What is left behind the first records. -/
theorem AllP.part {c B : By} {M : List Rc} (h : AllP c B M) (i : Nat) :
    AllP (chainAll c (M.take i)) (B.drop (bytesAll c (M.take i)).length) (M.drop i) ∧ (bytesAll c (M.take i)).length + (bytesAll (chainAll c (M.take i)) (M.drop i)).length = (bytesAll c M).length ∧ chainAll (chainAll c (M.take i)) (M.drop i) = chainAll c M ∧ (bytesAll c (M.take i)).length ≤ B.length := by
  obtain ⟨q, hq, ho, he⟩ := h
  have e1 : bytesAll c M = bytesAll c (M.take i) ++ bytesAll (chainAll c (M.take i)) (M.drop i) := by rw [← bytesAll_append, List.take_append_drop]
  have e2 : chainAll c M = chainAll (chainAll c (M.take i)) (M.drop i) := by rw [← chainAll_append, List.take_append_drop]
  refine ⟨⟨q, ?_, fun r hr => ho r (List.mem_of_mem_drop hr), by rw [← e2]; exact he⟩, by rw [e1, List.length_append], e2.symm, by rw [hq, e1, List.length_append, List.length_append]; omega⟩
  rw [hq, e1, List.append_assoc, List.drop_left]
theorem AllP.head {c B : By} {r : Rc} {M : List Rc} (h : AllP c B (r :: M)) : readR c B = (r, (bytesR c r).length, nextB c r, 0) ∧ OkR r := by
  obtain ⟨q, hq, ho, he⟩ := h
  have h1 := ho r (by simp)
  exact ⟨by rw [hq, bytesAll, List.append_assoc, readR_own c h1], h1⟩
theorem C_SizeOk {k : UInt8} {x : Int} {A : Option Addr} {p : By} {n c z : Nat} (w : World) (hp : Rd w A p) (hk : x = (k.toNat : Int)) (hz : (bodyB (k, p)).length + 8 = z) (hO : OkR (k, p)) (hn : n = p.length) (hl : p.length ≤ 10000) :
    CallsR Try.prog 14 [.agg #[.int .u8 x, .slice A n c]] w fun v w' => v = .int .i64 (z : Int) ∧ Below w.heap.size w w' := by
  refine (C_SizeZ w hk hn hl hp).mono ?_
  rintro v w' ⟨rfl, h⟩
  rw [if_pos hO]
  exact ⟨by rw [← hz]; simp, h⟩
def goodR (L : List Rc) : List Rc := L.filter (fun r => decide (OkR r))
theorem goodR_ok {L : List Rc} : ∀ r ∈ goodR L, OkR r := fun r hr => by simpa using (List.mem_filter.1 hr).2
theorem goodR_succ (L : List Rc) {i : Nat} (hi : i < L.length) : goodR (L.take (i + 1)) = goodR (L.take i) ++ (if OkR L[i] then [L[i]] else []) := by
  unfold goodR
  rw [List.take_succ_eq_append_getElem hi, List.filter_append]
  congr 1
  by_cases h : OkR L[i]
  · rw [if_pos h]; simp [h]
  · rw [if_neg h]; simp [h]
theorem goodR_len (L : List Rc) (i : Nat) : (goodR (L.take i)).length ≤ i := by
  unfold goodR
  have h1 := List.length_filter_le (fun r => decide (OkR r)) (L.take i)
  rw [List.length_take] at h1
  omega
set_option maxRecDepth 100000 in
set_option maxHeartbeats 4000000 in
theorem C_RecordParts {A0 At : Option Addr} {L : List Rc} {c tl : By} {c0 ct : Nat} (w : World) (hL : RRec w A0 L) (hc0 : L.length ≤ c0) (hm0 : c0 ≤ maxLen) (hc : c.length = 32) (ht : Rd w At tl) (hct : tl.length ≤ ct) (hmt : ct ≤ maxLen) :
    CallsR Try.prog 6 [.slice A0 L.length c0, .agg (B8 c).toArray, .slice At tl.length ct] w fun v w' => v = .bool true ∧ Below w.heap.size w w' := by
  refine callsR Try.func6 rfl rfl (by kernel_rfl) rfl ?_
  have hw := Below.refl w.heap.size w
  refine rk_seq ?_
  refine rk_region ?_
  refine wl_boxg _ rfl (by rfl) ?_
  rintro g4 w4 f4 b4 i4 i4_1
  have s4 := b4.size
  replace hw := hw.trans (b4.mono hw.size)
  refine wl_p (fun _ => o_assign rfl) ?_
  refine wl_nil ?_
  refine rk_seq ?_
  refine rk_seq ?_
  refine rk_region ?_
  refine wl_call rfl (C_lives08 _) ?_
  rintro v30 w30 ⟨rfl, b30⟩
  have s30 := b30.size
  replace hw := hw.trans (b30.mono hw.size)
  replace f4 := f4.u b30
  refine wl_p (fun _ => o_not rfl) ?_
  refine wl_nil ?_
  refine rk_false rfl ?_
  refine rk_skip ?_
  refine rk_seq ?_
  refine rk_seq ?_
  refine rk_region ?_
  refine wl_p (fun _ => o_move rfl) ?_
  refine wl_call rfl (C_lightRec _ (hL.u hw) rfl (by omega)) ?_
  rintro v33 w33 ⟨b33, ⟨rfl, ⟨i33, b33_1⟩⟩⟩
  have s33 := b33_1.size
  replace hw := hw.trans (b33_1.mono hw.size)
  replace f4 := f4.u b33_1
  refine wl_p (fun _ => o_not rfl) ?_
  refine wl_p (fun _ => o_move rfl) ?_
  cases b33 with
  | false =>
    refine wl_off ?_
    refine wl_off ?_
    refine wl_off ?_
    refine wl_p (fun _ => o_pick_t rfl rfl) ?_
    refine wl_nil ?_
    refine rk_true rfl ?_
    refine rk_seq ?_
    refine rk_region ?_
    refine wl_p (fun _ => o_assign rfl) ?_
    refine wl_nil ?_
    refine ret1 rfl rfl ?_
    exact ⟨rfl, hw⟩
  | true =>
    have hlight : lightR L := (show true = true → lightR L by assumption) rfl
    refine wl_p (fun _ => o_move rfl) ?_
    refine wl_p (fun _ => o_len (t := 26) Try.underlying26 rfl) ?_
    refine wl_p (fun _ => o_gt rfl rfl) ?_
    refine wl_p (fun _ => o_pick_f rfl rfl) ?_
    refine wl_nil ?_
    refine rk_if rfl (fun h39 => ?_) (fun h39 => ?_)
    · refine rk_seq ?_
      refine rk_region ?_
      refine wl_p (fun _ => o_assign rfl) ?_
      refine wl_nil ?_
      refine ret1 rfl rfl ?_
      exact ⟨rfl, hw⟩
    · refine rk_skip ?_
      refine rk_seq ?_
      refine rk_region ?_
      refine wl_p (fun _ => o_assign rfl) ?_
      refine wl_nil ?_
      refine rk_seq ?_
      refine rk_region ?_
      refine wl_r (o_ldBa Try.isAgg23 Try.sizeOf23 rfl f4 hc) ?_
      refine wl_allocB Try.underlying23 Try.zeroValue23 (by rfl) ?_
      rintro g8 w8 f8 b8 i8 i8_1
      have s8 := b8.size
      replace hw := hw.trans (b8.mono hw.size)
      replace f4 := f4.u b8
      refine wl_stBa Try.sizeOf23 rfl f8 rfl hc (by rfl) ?_
      rintro w_1 f g e
      have s := g.size
      replace hw := hw.trans (below_of_grownBy g.g hw.size (by omega))
      replace f4 := f4.k g.g (ap_some (by omega))
      clear f8
      refine wl_nil ?_
      refine rk_seq ?_
      refine rk_seq ?_
      refine rk_region ?_
      refine wl_p (fun _ => o_assign rfl) ?_
      refine wl_nil ?_
      refine rk_block ?_
      have hll := hlight.1
      refine rk_joinf (fun fb fr W => ∃ (A7 : Option Addr) (c7 : Nat) (b ch : By), fr = [(8, .pointer (some ⟨g8, 0, none⟩)), (7, .slice A7 b.length c7)] ++ fb.drop 4 ∧ b = bytesAll c (goodR L) ∧ ch = chainAll c (goodR L) ∧ OwnH W w_1.heap.size W.heap.size A7 c7 b ∧ Blk W g4 23 (B8 c) ∧ w_1.heap.size ≤ W.heap.size ∧ Below w.heap.size w W) ?_ (fun ks hj => ?_)
      rotate_left
      · refine rk_loopf (fun fb m fr W => ∃ (i : Nat) (v : Int) (A7 : Option Addr) (c7 : Nat) (b ch : By), fr = [(9, .int .i64 v), (8, .pointer (some ⟨g8, 0, none⟩)), (7, .slice A7 b.length c7)] ++ fb.drop 4 ∧ v = i ∧ i ≤ L.length ∧ m = L.length - i ∧ b = bytesAll c (goodR (L.take i)) ∧ ch = chainAll c (goodR (L.take i)) ∧ OwnH W w_1.heap.size W.heap.size A7 c7 b ∧ Blk W g8 23 (B8 ch) ∧ Blk W g4 23 (B8 c) ∧ w_1.heap.size ≤ W.heap.size ∧ Below w.heap.size w W) (n := L.length) (Fr.le_of (by kernel_rfl) (by kernel_rfl) (by repeat' constructor)) ⟨0, _, none, 0, [], c, rfl, rfl, by omega, rfl, by simp [goodR, bytesAll], by simp [goodR, chainAll], OwnH.nil_, f, f4, Nat.le_refl _, hw⟩ ?_
        have hg8 := f.lt
        have hg4 := f4.lt
        clear hw f f4
        rintro m fr W ⟨i, v, A7, c7, b, ch, rfl, rfl, hi, rfl, hb, hch, f7, f8, f4, hsW, hw⟩
        have hbl : b.length ≤ 328400 := by
          have h1 := bytesAll_le 40 c (goodR (L.take i)) goodR_ok (by have := goodR_len L i; omega)
          rw [← hb] at h1; omega
        have hchl : ch.length = 32 := by rw [hch]; exact chainAll_len hc _
        first | refine rk_frame (by simp only [List.cons_append, List.nil_append, List.drop_succ_cons, List.drop_zero]; rfl) ?_ | refine wl_frame (by simp only [List.cons_append, List.nil_append, List.drop_succ_cons, List.drop_zero]; rfl) ?_
        refine rk_seq ?_
        refine rk_seq ?_
        refine rk_region ?_
        refine wl_p (fun _ => o_move rfl) ?_
        refine wl_p (fun _ => o_move rfl) ?_
        refine wl_p (fun _ => o_len (t := 42) Try.underlying42 rfl) ?_
        refine wl_p (fun _ => o_lt rfl rfl) ?_
        refine wl_nil ?_
        refine rk_if rfl (fun h44 => ?_) (fun h44 => ?_)
        · have hil : i < L.length := by omega
          have hpl := hlight.2 _ (List.getElem_mem hil)
          have hgs := goodR_succ L hil
          by_cases hO : OkR L[i]
          · rw [if_pos hO] at hgs
            obtain ⟨bs, hbs0⟩ : ∃ bs, bytesR ch L[i] = bs := ⟨_, rfl⟩
            obtain ⟨e, he⟩ : ∃ e, nextB ch L[i] = e := ⟨_, rfl⟩
            have he32 : e.length = 32 := by rw [← he]; exact nextB_len _ _
            refine rk_skip ?_
            refine rk_seq ?_
            refine rk_block ?_
            refine rk_seq ?_
            refine rk_drawo (id := 10) (none) [0, 0, 0, 6, 8, 17, 32, 64, 64, 64, 0, 1279, 3583, 8191] [0, 0, 0, 6, 14, 31, 63, 127, 127, 127, 0, 1279, 3583, 8191] 5152 1024 [0, 1, 2, 3, 4] [(.s, 0), (.p, 1), (.p, 2), (.p, 3), (.s, 4), (.f 31 5152 1024, 9)] (by kernel_rfl) (by kernel_rfl) (by kernel_rfl) (by kernel_rfl) (by kernel_rfl) ?_
            dsimp only [inOrder, nthOp]
            replace hw := hw.drew
            replace f4 := f4.d
            replace f8 := f8.d
            replace f7 := f7.d
            refine wl_s (fun _ hk => (o_ldBa Try.isAgg23 Try.sizeOf23 rfl (f8.u (below_of_grown_none hk)) hchl)) ?_
            refine wl_p (fun _ => o_move rfl) ?_
            refine wl_p (fun _ => o_move rfl) ?_
            refine wl_p (fun _ => (o_iaddrA (i) Try.underlying42 Try.sizeOf31 rfl rfl rfl (hL.some_ (by omega)) (by omega))) ?_
            refine wl_ldRecS rfl hL (fun _ hk => hw.trans ((below_of_grown_none hk).mono hw.size)) (by omega) ?_
            rintro A152 c152 f52 i52 i52_1
            refine wl_conc [⟨5, [(.p, 6), (.p, 7), (.p, 8), (.p, 9)], [56, 55, 54, 47, 53], [], fun vs w' lo hi => ∃ (A53 : Option Addr) (c53 : Nat) (u47 u53 : Value), vs = [.int .i64 0, .agg (B8 e).toArray, .slice A53 bs.length c53, u47, u53] ∧ OwnH w' lo hi A53 c53 bs⟩, ⟨10, [], [11], [], fun vs w' lo hi => ∃ (g11 : Nat), vs = [.pointer (some ⟨g11, 0, none⟩)] ∧ Blk w' g11 23 (B8 nul32) ∧ lo ≤ g11 ∧ g11 < hi⟩] [0, 1] [0, 0, 0, 6, 8, 17, 32, 64, 64, 64, 0, 1279, 3583, 8191] [0, 0, 0, 6, 14, 31, 63, 127, 127, 127, 0, 1279, 3583, 8191] [11, 12, 13] [(.p, 11), (.l, 12), (.p, 13)] (by kernel_rfl) (by kernel_rfl) (by kernel_rfl) (by kernel_rfl) ⟨fun _ _ _ _ _ h hb => by obtain ⟨A53, c53, u47, u53, e0, g0⟩ := h; exact ⟨A53, c53, u47, u53, e0, g0.u hb⟩, fun _ _ _ _ _ h hb => by obtain ⟨g11, e0, g0, g1, g2⟩ := h; exact ⟨g11, e0, g0.u hb, g1, g2⟩, trivial⟩ ⟨?_, ?_, trivial⟩ ?_
            · intro wI hbI fo T T2 n2
              intro hk
              dsimp only [Item.idx, inOrder, nthOp, List.map, List.zip_cons_cons, List.zip_nil_right, List.cons_append, List.nil_append]
              have shbI := hbI.size
              simp only [drew_size] at shbI
              replace hw := hw.trans (hbI.mono hw.size)
              replace f7 := f7.u hbI
              replace f8 := f8.u hbI
              replace f4 := f4.u hbI
              have hw1 := Below.refl wI.heap.size wI
              refine wl_call rfl (C_RecBytesOk _ (by rfl) (f52.u hw) (by omega) hbs0 he rfl (by omega) hchl) ?_
              rintro v53 w53 ⟨A53, ⟨c53, ⟨rfl, ⟨f53, b53⟩⟩⟩⟩
              have qf53 := f53.cap
              have s53 := b53.size
              replace hw := hw.trans (b53.mono hw.size)
              replace hw1 := hw1.trans (b53.mono hw1.size)
              replace f4 := f4.u b53
              replace f8 := f8.u b53
              replace f7 := f7.u b53
              refine wl_p (fun _ => o_move rfl) ?_
              refine wl_p (fun _ => o_ext30 rfl) ?_
              refine wl_p (fun _ => o_ext31 rfl) ?_
              refine wl_p (fun _ => o_ext32 rfl) ?_
              exact hk [_, _, _, _, _] _ ⟨_, _, _, _, rfl, f53⟩ hw1
            · intro wI hbI fo T T2 n2
              intro hk
              dsimp only [Item.idx, inOrder, nthOp, List.map, List.zip_cons_cons, List.zip_nil_right, List.cons_append, List.nil_append]
              have shbI := hbI.size
              simp only [drew_size] at shbI
              replace hw := hw.trans (hbI.mono hw.size)
              replace f7 := f7.u hbI
              replace f8 := f8.u hbI
              replace f4 := f4.u hbI
              have hw1 := Below.refl wI.heap.size wI
              refine wl_allocB Try.underlying23 Try.zeroValue23 (by rfl) ?_
              rintro g11 w11 f11 b11 i11 i11_1
              have s11 := b11.size
              replace hw := hw.trans (b11.mono hw.size)
              replace hw1 := hw1.trans (b11.mono hw1.size)
              replace f4 := f4.u b11
              replace f8 := f8.u b11
              replace f7 := f7.u b11
              exact hk [_] _ ⟨_, rfl, f11, by omega, by omega⟩ hw1
            intro wE hbE
            rintro _ lo0 hi0 ⟨A53, c53, u47, u53, rfl, f53⟩ ql0 qm0 qh0 -
            rintro _ lo1 hi1 ⟨g11, rfl, f11, f11_1, f11_2⟩ ql1 qm1 qh1 ⟨qa1_0, -⟩
            try dsimp only at ql0 qm0 qh0  ql1 qm1 qh1 qa1_0
            try simp only [drew_size] at ql0 qm0 qh0  ql1 qm1 qh1 qa1_0
            dsimp only [given, Item.idx, inOrder, nthOp, List.map, List.zip_cons_cons, List.zip_nil_right]
            have shbE := hbE.size
            simp only [drew_size] at shbE
            replace hw := hw.trans (hbE.mono hw.size)
            replace f7 := f7.u hbE
            replace f8 := f8.u hbE
            replace f4 := f4.u hbE
            have hbs : bs.length ≤ 8210 := by
              have h1 := bodyB_le (r := L[i]) (n := 8192) hO.2
              rw [← hbs0, bytesR_len]; omega
            refine wl_p (fun _ => o_assign rfl) ?_
            refine wl_stBa Try.sizeOf23 rfl f11 rfl he32 (by rfl) ?_
            rintro w_2 f g_1 e_1
            have s_1 := g_1.size
            replace hw := hw.trans (below_of_grownBy g_1.g hw.size (by omega))
            replace f4 := f4.k g_1.g (ap_some (by omega))
            replace f8 := f8.k g_1.g (ap_some (by omega))
            replace f7 := f7.k g_1.g (ap_some (by omega))
            replace f53 := f53.k g_1.g (ap_some (by omega))
            clear f11
            refine wl_p (fun _ => o_assign rfl) ?_
            refine wl_nild ?_
            refine rk_seq ?_
            refine rk_region ?_
            refine wl_p (fun _ => o_move rfl) ?_
            refine wl_p (fun _ => o_eq rfl rfl) ?_
            refine wl_nil ?_
            refine rk_true rfl ?_
            have hlt := f7.rng
            have hne : blk A7 ≠ some g11 := fun e => by have := hlt _ e; omega
            refine rk_drawo (id := 12) ((blk A7)) [0, 0, 3, 0, 7, 31] [0, 0, 3, 0, 7, 31] 36 4 [0, 1, 3, 2, 4, 5] [(.p, 0), (.p, 1), (.s, 3), (.c, 2), (.p, 4), (.l, 5)] (by kernel_rfl) (by kernel_rfl) (by kernel_rfl) (by kernel_rfl) (by kernel_rfl) ?_; dsimp only [inOrder, nthOp]
            replace f := f.d
            replace f8 := f8.d
            replace f4 := f4.d
            replace f7 := f7.d
            replace f53 := f53.d
            replace hw := hw.drew
            refine wl_p (fun _ => o_move rfl) ?_
            refine wl_p (fun _ => o_move rfl) ?_
            refine wl_s (fun _ hk => (o_ldBa Try.isAgg23 Try.sizeOf23 rfl (f.k hk (f7.ap (by omega))) he32)) ?_
            refine wl_appB Try.u8 rfl f7 rfl rfl f53.to_Rd rfl (by omega) (by simp; omega) ?_ (hq := .inr (.inr rfl))
            rintro A61 c61 w61 f61 g61 b61 i61
            simp only [drew_size] at i61
            have qf61 := f61.cap
            have s61 := g61.size
            simp only [drew_size] at s61
            replace hw := hw.trans (b61.mono (by omega))
            replace f53 := f53.k g61.g (f7.ap (by omega))
            replace f4 := f4.y g61 (by decide)
            replace f8 := f8.y g61 (by decide)
            replace f := f.y g61 (by decide)
            clear f7
            refine wl_p (fun _ => o_assign rfl) ?_
            refine wl_stBa Try.sizeOf23 rfl f8 rfl he32 hchl ?_
            rintro w_3 f_1 g_2 e_2
            have s_2 := g_2.size
            replace hw := hw.trans (below_of_grownBy g_2.g hw.size (by omega))
            replace f := f.k g_2.g (ap_some (by omega))
            replace f4 := f4.k g_2.g (ap_some (by omega))
            replace f53 := f53.k g_2.g (ap_some (by omega))
            replace f61 := f61.k g_2.g (ap_some (by omega))
            clear f8
            refine wl_nild ?_
            refine rk_blk ?_
            refine rk_region ?_
            refine wl_p (fun _ => o_move rfl) ?_
            refine wl_p (fun _ => o_add rfl rfl (by omega) (by omega)) ?_
            refine wl_p (fun _ => o_assign rfl) ?_
            refine wl_nil ?_
            have e1 : bytesAll c (goodR (L.take (i + 1))) = b ++ bs := by
              rw [hgs, bytesAll_append, ← hb, ← hch, bytesAll, bytesAll, List.append_nil]; exact congrArg _ hbs0
            have e2 : chainAll c (goodR (L.take (i + 1))) = e := by
              rw [hgs, chainAll_append, ← hch]; exact he
            exact rk_againf (Fr.le_of (by kernel_rfl) (by kernel_rfl) (by repeat' constructor)) ⟨i + 1, (i : Int) + 1, A61, c61, b ++ bs, e, rfl, by omega, by omega, rfl, e1.symm, e2.symm, f61.base (Nat.le_refl _) (by omega), f_1, f4, by omega, hw⟩ (by omega)
          · rw [if_neg hO, List.append_nil] at hgs
            refine rk_skip ?_
            refine rk_seq ?_
            refine rk_block ?_
            refine rk_seq ?_
            refine rk_drawo (id := 10) (none) [0, 0, 0, 6, 8, 17, 32, 64, 64, 64, 0, 1279, 3583, 8191] [0, 0, 0, 6, 14, 31, 63, 127, 127, 127, 0, 1279, 3583, 8191] 5152 1024 [0, 1, 2, 3, 4] [(.s, 0), (.p, 1), (.p, 2), (.p, 3), (.s, 4), (.f 31 5152 1024, 9)] (by kernel_rfl) (by kernel_rfl) (by kernel_rfl) (by kernel_rfl) (by kernel_rfl) ?_
            dsimp only [inOrder, nthOp]
            replace hw := hw.drew
            replace f4 := f4.d
            replace f8 := f8.d
            replace f7 := f7.d
            refine wl_s (fun _ hk => (o_ldBa Try.isAgg23 Try.sizeOf23 rfl (f8.u (below_of_grown_none hk)) hchl)) ?_
            refine wl_p (fun _ => o_move rfl) ?_
            refine wl_p (fun _ => o_move rfl) ?_
            refine wl_p (fun _ => (o_iaddrA (i) Try.underlying42 Try.sizeOf31 rfl rfl rfl (hL.some_ (by omega)) (by omega))) ?_
            refine wl_ldRecS rfl hL (fun _ hk => hw.trans ((below_of_grown_none hk).mono hw.size)) (by omega) ?_
            rintro A152 c152 f52 i52 i52_1
            refine wl_conc [⟨5, [(.p, 6), (.p, 7), (.p, 8), (.p, 9)], [56, 55, 54, 47, 53], [], fun vs w' lo hi => ∃ (A53 : Option Addr) (c53 : Nat) (e : By) (u47 u53 : Value), vs = [.int .i64 2, .agg (B8 e).toArray, .slice A53 0 c53, u47, u53] ∧ e.length = 32⟩, ⟨10, [], [11], [], fun vs w' lo hi => ∃ (g11 : Nat), vs = [.pointer (some ⟨g11, 0, none⟩)] ∧ Blk w' g11 23 (B8 nul32) ∧ lo ≤ g11 ∧ g11 < hi⟩] [0, 1] [0, 0, 0, 6, 8, 17, 32, 64, 64, 64, 0, 1279, 3583, 8191] [0, 0, 0, 6, 14, 31, 63, 127, 127, 127, 0, 1279, 3583, 8191] [11, 12, 13] [(.p, 11), (.l, 12), (.p, 13)] (by kernel_rfl) (by kernel_rfl) (by kernel_rfl) (by kernel_rfl) ⟨fun _ _ _ _ _ h hb => by obtain ⟨A53, c53, e, u47, u53, e0, g0⟩ := h; exact ⟨A53, c53, e, u47, u53, e0, g0⟩, fun _ _ _ _ _ h hb => by obtain ⟨g11, e0, g0, g1, g2⟩ := h; exact ⟨g11, e0, g0.u hb, g1, g2⟩, trivial⟩ ⟨?_, ?_, trivial⟩ ?_
            · intro wI hbI fo T T2 n2
              intro hk
              dsimp only [Item.idx, inOrder, nthOp, List.map, List.zip_cons_cons, List.zip_nil_right, List.cons_append, List.nil_append]
              have shbI := hbI.size
              simp only [drew_size] at shbI
              replace hw := hw.trans (hbI.mono hw.size)
              replace f7 := f7.u hbI
              replace f8 := f8.u hbI
              replace f4 := f4.u hbI
              have hw1 := Below.refl wI.heap.size wI
              refine wl_call rfl (C_RecBytesBad _ (by rfl) (f52.u hw) (by omega) rfl (by omega) hchl) ?_
              rintro v53 w53 ⟨A53, ⟨c53, ⟨e53, ⟨rfl, ⟨f53, ⟨e53_1, b53⟩⟩⟩⟩⟩⟩
              have qf53 := f53.cap
              have s53 := b53.size
              replace hw := hw.trans (b53.mono hw.size)
              replace hw1 := hw1.trans (b53.mono hw1.size)
              replace f4 := f4.u b53
              replace f8 := f8.u b53
              replace f7 := f7.u b53
              refine wl_p (fun _ => o_move rfl) ?_
              refine wl_p (fun _ => o_ext30 rfl) ?_
              refine wl_p (fun _ => o_ext31 rfl) ?_
              refine wl_p (fun _ => o_ext32 rfl) ?_
              exact hk [_, _, _, _, _] _ ⟨_, _, _, _, _, rfl, by assumption⟩ hw1
            · intro wI hbI fo T T2 n2
              intro hk
              dsimp only [Item.idx, inOrder, nthOp, List.map, List.zip_cons_cons, List.zip_nil_right, List.cons_append, List.nil_append]
              have shbI := hbI.size
              simp only [drew_size] at shbI
              replace hw := hw.trans (hbI.mono hw.size)
              replace f7 := f7.u hbI
              replace f8 := f8.u hbI
              replace f4 := f4.u hbI
              have hw1 := Below.refl wI.heap.size wI
              refine wl_allocB Try.underlying23 Try.zeroValue23 (by rfl) ?_
              rintro g11 w11 f11 b11 i11 i11_1
              have s11 := b11.size
              replace hw := hw.trans (b11.mono hw.size)
              replace hw1 := hw1.trans (b11.mono hw1.size)
              replace f4 := f4.u b11
              replace f8 := f8.u b11
              replace f7 := f7.u b11
              exact hk [_] _ ⟨_, rfl, f11, by omega, by omega⟩ hw1
            intro wE hbE
            rintro _ lo0 hi0 ⟨A53, c53, e, u47, u53, rfl, f53⟩ ql0 qm0 qh0 -
            rintro _ lo1 hi1 ⟨g11, rfl, f11, f11_1, f11_2⟩ ql1 qm1 qh1 ⟨qa1_0, -⟩
            try dsimp only at ql0 qm0 qh0  ql1 qm1 qh1 qa1_0
            try simp only [drew_size] at ql0 qm0 qh0  ql1 qm1 qh1 qa1_0
            dsimp only [given, Item.idx, inOrder, nthOp, List.map, List.zip_cons_cons, List.zip_nil_right]
            have shbE := hbE.size
            simp only [drew_size] at shbE
            replace hw := hw.trans (hbE.mono hw.size)
            replace f7 := f7.u hbE
            replace f8 := f8.u hbE
            replace f4 := f4.u hbE
            refine wl_p (fun _ => o_assign rfl) ?_
            refine wl_stBa Try.sizeOf23 rfl f11 rfl f53 (by rfl) ?_
            rintro w_2 f g_1 e_1
            have s_1 := g_1.size
            replace hw := hw.trans (below_of_grownBy g_1.g hw.size (by omega))
            replace f4 := f4.k g_1.g (ap_some (by omega))
            replace f8 := f8.k g_1.g (ap_some (by omega))
            replace f7 := f7.k g_1.g (ap_some (by omega))
            clear f11
            refine wl_p (fun _ => o_assign rfl) ?_
            refine wl_nild ?_
            refine rk_seq ?_
            refine rk_region ?_
            refine wl_p (fun _ => o_move rfl) ?_
            refine wl_p (fun _ => o_eq rfl rfl) ?_
            refine wl_nil ?_
            refine rk_false rfl ?_
            refine rk_skip ?_
            refine rk_blk ?_
            refine rk_region ?_
            refine wl_p (fun _ => o_move rfl) ?_
            refine wl_p (fun _ => o_add rfl rfl (by omega) (by omega)) ?_
            refine wl_p (fun _ => o_assign rfl) ?_
            refine wl_nil ?_
            exact rk_againf (Fr.le_of (by kernel_rfl) (by kernel_rfl) (by repeat' constructor)) ⟨i + 1, (i : Int) + 1, A7, c7, b, ch, rfl, by omega, by omega, rfl, by rw [hgs]; exact hb, by rw [hgs]; exact hch, f7.base (Nat.le_refl _) (by omega), f8, f4, by omega, hw⟩ (by omega)
        · refine rk_exit rfl ?_
          obtain rfl : i = L.length := by omega
          rw [List.take_length] at hb hch
          exact rk_tof hj (Fr.le_of (by kernel_rfl) (by kernel_rfl) (by repeat' constructor)) ⟨A7, c7, b, ch, rfl, hb, hch, f7, f4, hsW, hw⟩
      clear hw f f4
      rintro fr W ⟨A7, c7, b, ch, rfl, hb, hch, f7, f4, hsW, hw⟩
      have hbl : b.length ≤ 328400 := by
        have h1 := bytesAll_le 40 c (goodR L) goodR_ok (by have := goodR_len L L.length; rw [List.take_length] at this; omega)
        rw [← hb] at h1; omega
      obtain ⟨B, hB⟩ : ∃ B, b ++ tl = B := ⟨_, rfl⟩
      obtain ⟨M, hM⟩ : ∃ M, allR c B = M := ⟨_, rfl⟩
      have hBl : B.length ≤ 337400 := by rw [← hB, List.length_append]; omega
      have hP : AllP c B M := by rw [← hM]; exact AllP.fun
      obtain ⟨nb, hnb⟩ : ∃ nb, (bytesAll c M).length = nb := ⟨_, rfl⟩
      obtain ⟨en, hen⟩ : ∃ en, chainAll c M = en := ⟨_, rfl⟩
      have hen32 : en.length = 32 := by rw [← hen]; exact chainAll_len hc M
      have hnbl : nb ≤ 337400 := by
        obtain ⟨q, hq, _⟩ := hP
        have h2 := congrArg List.length hq
        rw [List.length_append] at h2; omega
      have hMl : M.length ≤ 337400 := by
        obtain ⟨q, hq, _⟩ := hP
        have h1 := bytesAll_ge c M
        have h2 := congrArg List.length hq
        rw [List.length_append] at h2; omega
      first | refine rk_frame (by simp only [List.cons_append, List.nil_append, List.drop_succ_cons, List.drop_zero]; rfl) ?_ | refine wl_frame (by simp only [List.cons_append, List.nil_append, List.drop_succ_cons, List.drop_zero]; rfl) ?_
      refine rk_seq ?_
      refine rk_region ?_
      refine wl_p (fun _ => o_move rfl) ?_
      refine wl_p (fun _ => o_move rfl) ?_
      refine wl_appB Try.u8 rfl f7 rfl rfl (ht.u hw) rfl (by omega) (by omega) ?_
      rintro A65 c65 w65 f65 g65 b65 i65
      have qf65 := f65.cap
      have s65 := g65.size
      replace hw := hw.trans (b65.mono (by omega))
      replace f4 := f4.y g65 (by decide)
      clear f7
      refine wl_p (fun _ => o_assign rfl) ?_
      rw [hB] at f65 ⊢
      refine wl_nil ?_
      refine rk_seq ?_
      refine rk_region ?_
      refine wl_r (o_ldBa Try.isAgg23 Try.sizeOf23 rfl f4 hc) ?_
      refine wl_p (fun _ => o_move rfl) ?_
      refine wl_call rfl (C_AllN _ hM hnb hen f65.to_Rd rfl f65.cap hc (by omega)) ?_
      rintro v69 w69 ⟨A69, ⟨c69, ⟨rfl, ⟨f69, b69⟩⟩⟩⟩
      have qf69 := f69.cap
      have s69 := b69.size
      replace hw := hw.trans (b69.mono hw.size)
      replace f4 := f4.u b69
      replace f65 := f65.u b69
      refine wl_p (fun _ => o_move rfl) ?_
      refine wl_p (fun _ => o_ext30 rfl) ?_
      refine wl_p (fun _ => o_ext31 rfl) ?_
      refine wl_p (fun _ => o_ext32 rfl) ?_
      refine wl_allocB Try.underlying23 Try.zeroValue23 (by rfl) ?_
      rintro g15 w15 f15 b15 i15 i15_1
      have s15 := b15.size
      replace hw := hw.trans (b15.mono hw.size)
      replace f65 := f65.u b15
      replace f4 := f4.u b15
      replace f69 := f69.u b15
      refine wl_p (fun _ => o_assign rfl) ?_
      refine wl_p (fun _ => o_assign rfl) ?_
      refine wl_stBa Try.sizeOf23 rfl f15 rfl hen32 (by rfl) ?_
      rintro w_2 f g_1 e_1
      have s_1 := g_1.size
      replace hw := hw.trans (below_of_grownBy g_1.g hw.size (by omega))
      replace f69 := f69.y g_1 (by decide)
      replace f4 := f4.k g_1.g (ap_some (by omega))
      replace f65 := f65.k g_1.g (ap_some (by omega))
      clear f15
      refine wl_nil ?_
      refine rk_seq ?_
      refine rk_draw (id := 15) (none) [0, 0, 2, 7] [0, 0, 2, 7] 10 2 [(.s, 0), (.c, 1), (.p, 2), (.l, 3)] (by kernel_rfl) (by kernel_rfl) (by kernel_rfl) (by kernel_rfl) (by kernel_rfl) ?_
      replace hw := hw.drew
      replace f65 := f65.d
      replace f4 := f4.d
      replace f69 := f69.d
      replace f := f.d
      refine wl_s (fun _ hk => (o_ldBa Try.isAgg23 Try.sizeOf23 rfl (f4.u (below_of_grown_none hk)) hc)) ?_
      refine wl_allocB Try.underlying23 Try.zeroValue23 (by rfl) ?_
      rintro g17 w17 f17 b17 i17 i17_1
      simp only [drew_size] at b17
      simp only [drew_size] at i17
      have s17 := b17.size
      simp only [drew_size] at s17
      replace hw := hw.trans (b17.mono hw.size)
      replace f := f.u b17
      replace f69 := f69.u b17
      replace f4 := f4.u b17
      replace f65 := f65.u b17
      refine wl_p (fun _ => o_assign rfl) ?_
      refine wl_stBa Try.sizeOf23 rfl f17 rfl hc (by rfl) ?_
      rintro w_3 f_1 g_2 e_2
      have s_2 := g_2.size
      replace hw := hw.trans (below_of_grownBy g_2.g hw.size (by omega))
      replace f65 := f65.k g_2.g (ap_some (by omega))
      replace f4 := f4.k g_2.g (ap_some (by omega))
      replace f69 := f69.y g_2 (by decide)
      replace f := f.k g_2.g (ap_some (by omega))
      clear f17
      refine wl_nild ?_
      refine rk_seq ?_
      refine rk_seq ?_
      refine rk_region ?_
      refine wl_p (fun _ => o_assign rfl) ?_
      refine wl_nil ?_
      refine rk_block ?_
      refine rk_joinf (fun fb fr W => fr = [(16, .int .i64 (nb : Int)), (17, .pointer (some ⟨g17, 0, none⟩))] ++ fb.drop 3 ∧ OwnH W w_1.heap.size w65.heap.size A65 c65 B ∧ Blk W g15 23 (B8 en) ∧ Blk W g17 23 (B8 en) ∧ w_3.heap.size ≤ W.heap.size ∧ Below w.heap.size w W) ?_ (fun ks hj => ?_)
      rotate_left
      · refine rk_loopf (fun fb m fr W => ∃ (i k : Nat) (v kv : Int) (nx : By), fr = [(18, .int .i64 v), (16, .int .i64 kv), (17, .pointer (some ⟨g17, 0, none⟩))] ++ fb.drop 3 ∧ v = i ∧ kv = k ∧ i ≤ M.length ∧ m = M.length - i ∧ k = (bytesAll c (M.take i)).length ∧ nx = chainAll c (M.take i) ∧ OwnH W w_1.heap.size w65.heap.size A65 c65 B ∧ OwnRec W w65.heap.size w69.heap.size A69 c69 M ∧ Blk W g15 23 (B8 en) ∧ Blk W g17 23 (B8 nx) ∧ w_3.heap.size ≤ W.heap.size ∧ Below w.heap.size w W) (n := M.length) (Fr.le_of (by kernel_rfl) (by kernel_rfl) (by repeat' constructor)) ⟨0, 0, _, _, c, rfl, rfl, rfl, by omega, rfl, by simp [bytesAll], by simp [chainAll], f65, f69, f, f_1, Nat.le_refl _, hw⟩ ?_
        have hg15 := f.lt
        have hg17 := f_1.lt
        clear hw f f4 f65 f69 f_1
        rintro m fr W ⟨i, k, v, kv, nx, rfl, rfl, rfl, hi, rfl, hk, hnx, f65, f69, f15, f17, hsW, hw⟩
        have hnxl : nx.length = 32 := by rw [hnx]; exact chainAll_len hc _
        obtain ⟨p1, p2, p3, p4⟩ := hP.part i
        rw [← hk] at p1 p2 p4
        rw [← hnx] at p1 p2 p3
        rw [hen] at p3
        rw [hnb] at p2
        obtain ⟨Bk, hBk⟩ : ∃ Bk, B.drop k = Bk := ⟨_, rfl⟩
        have hBkl : B.length - k = Bk.length := by rw [← hBk, List.length_drop]
        have hBkb : Bk.length ≤ B.length := by omega
        rw [hBk] at p1
        have hr := p1.eq
        obtain ⟨nb2, hnb2⟩ : ∃ nb2, (bytesAll nx (M.drop i)).length = nb2 := ⟨_, rfl⟩
        rw [hnb2] at p2
        have hdl : M.length - i = (M.drop i).length := by rw [List.length_drop]
        first | refine rk_frame (by simp only [List.cons_append, List.nil_append, List.drop_succ_cons, List.drop_zero]; rfl) ?_ | refine wl_frame (by simp only [List.cons_append, List.nil_append, List.drop_succ_cons, List.drop_zero]; rfl) ?_
        refine rk_seq ?_
        refine rk_seq ?_
        refine rk_region ?_
        refine wl_p (fun _ => o_move rfl) ?_
        refine wl_p (fun _ => o_move rfl) ?_
        refine wl_p (fun _ => o_len (t := 42) Try.underlying42 rfl) ?_
        refine wl_p (fun _ => o_lt rfl rfl) ?_
        refine wl_nil ?_
        refine rk_if rfl (fun h77 => ?_) (fun h77 => ?_)
        · have hiM : i < M.length := by omega
          have hdr : M.drop i = M[i] :: M.drop (i + 1) := List.drop_eq_getElem_cons hiM
          have p5 := p1
          rw [hdr] at p5
          obtain ⟨hRd, hO⟩ := p5.head
          obtain ⟨z, hz⟩ : ∃ z, (bytesR nx M[i]).length = z := ⟨_, rfl⟩
          obtain ⟨x, hx⟩ : ∃ x, nextB nx M[i] = x := ⟨_, rfl⟩
          have hx32 : x.length = 32 := by rw [← hx]; exact nextB_len _ _
          have hpl : M[i].2.length ≤ 8192 := hO.2
          have hz2 : (bodyB M[i]).length + 8 = z := by rw [← hz, bytesR_len]
          have hzl : z ≤ nb2 := by rw [← hnb2, hdr, bytesAll, List.length_append, hz]; omega
          have e1 : (bytesAll c (M.take (i + 1))).length = k + z := by
            rw [List.take_succ_eq_append_getElem hiM, bytesAll_append, List.length_append, ← hk, ← hnx, bytesAll, bytesAll, List.append_nil, hz]
          have e2 : chainAll c (M.take (i + 1)) = x := by
            rw [List.take_succ_eq_append_getElem hiM, chainAll_append, ← hnx, ← hx]; rfl
          rw [hz, hx] at hRd
          refine rk_skip ?_
          refine rk_seq ?_
          refine rk_block ?_
          refine rk_seq ?_
          refine rk_drawo (id := 19) (none) [0, 0, 0, 6, 9, 16, 32, 32, 32, 0, 639, 1791, 4095] [0, 0, 0, 6, 15, 31, 63, 63, 63, 0, 639, 1791, 4095] 4624 512 [0, 1, 2, 3] [(.s, 0), (.p, 1), (.p, 2), (.p, 3), (.f 15 4624 512, 9)] (by kernel_rfl) (by kernel_rfl) (by kernel_rfl) (by kernel_rfl) (by kernel_rfl) ?_
          dsimp only [inOrder, nthOp]
          replace hw := hw.drew
          replace f17 := f17.d
          replace f15 := f15.d
          replace f69 := f69.d
          replace f65 := f65.d
          refine wl_s (fun _ hk => (o_ldBa Try.isAgg23 Try.sizeOf23 rfl (f17.u (below_of_grown_none hk)) hnxl)) ?_
          refine wl_p (fun _ => o_move rfl) ?_
          refine wl_p (fun _ => o_move rfl) ?_
          refine wl_slBl Try.u8 (k) rfl rfl f65.to_Rd rfl rfl (by omega) f65.cap ?_
          rintro A84 c84 f84 i84 i84_1
          rw [hBk] at f84
          rw [hBkl] at *
          refine wl_conc [⟨4, [(.p, 5), (.p, 6), (.p, 7), (.p, 8)], [88, 87, 86, 80, 85], [], fun vs w' lo hi => ∃ (A85 : Option Addr) (c85 : Nat) (u80 u85 : Value), vs = [.agg (B8 en).toArray, .int .i64 (nb2 : Int), .slice A85 (M.drop i).length c85, u80, u85] ∧ OwnRec w' lo hi A85 c85 (M.drop i)⟩, ⟨9, [], [21], [], fun vs w' lo hi => ∃ (g21 : Nat), vs = [.pointer (some ⟨g21, 0, none⟩)] ∧ Blk w' g21 23 (B8 nul32) ∧ lo ≤ g21 ∧ g21 < hi⟩] [0, 1] [0, 0, 0, 6, 9, 16, 32, 32, 32, 0, 639, 1791, 4095] [0, 0, 0, 6, 15, 31, 63, 63, 63, 0, 639, 1791, 4095] [10, 11, 12] [(.p, 10), (.p, 11), (.l, 12)] (by kernel_rfl) (by kernel_rfl) (by kernel_rfl) (by kernel_rfl) ⟨fun _ _ _ _ _ h hb => by obtain ⟨A85, c85, u80, u85, e0, g0⟩ := h; exact ⟨A85, c85, u80, u85, e0, g0.u hb⟩, fun _ _ _ _ _ h hb => by obtain ⟨g21, e0, g0, g1, g2⟩ := h; exact ⟨g21, e0, g0.u hb, g1, g2⟩, trivial⟩ ⟨?_, ?_, trivial⟩ ?_
          · intro wI hbI fo T T2 n2
            intro hk
            dsimp only [Item.idx, inOrder, nthOp, List.map, List.zip_cons_cons, List.zip_nil_right, List.cons_append, List.nil_append]
            have shbI := hbI.size
            simp only [drew_size] at shbI
            replace hw := hw.trans (hbI.mono hw.size)
            replace f84 := f84.u hbI
            replace f65 := f65.u hbI
            replace f69 := f69.u hbI
            replace f15 := f15.u hbI
            replace f17 := f17.u hbI
            have hw1 := Below.refl wI.heap.size wI
            refine wl_call rfl (C_AllN _ hr hnb2 p3 f84 rfl (by omega) hnxl (by omega)) ?_
            rintro v85 w85 ⟨A85, ⟨c85, ⟨rfl, ⟨f85, b85⟩⟩⟩⟩
            have qf85 := f85.cap
            have s85 := b85.size
            replace hw := hw.trans (b85.mono hw.size)
            replace hw1 := hw1.trans (b85.mono hw1.size)
            replace f17 := f17.u b85
            replace f15 := f15.u b85
            replace f69 := f69.u b85
            replace f65 := f65.u b85
            replace f84 := f84.u b85
            refine wl_p (fun _ => o_move rfl) ?_
            refine wl_p (fun _ => o_ext30 rfl) ?_
            refine wl_p (fun _ => o_ext31 rfl) ?_
            refine wl_p (fun _ => o_ext32 rfl) ?_
            exact hk [_, _, _, _, _] _ ⟨_, _, _, _, rfl, f85⟩ hw1
          · intro wI hbI fo T T2 n2
            intro hk
            dsimp only [Item.idx, inOrder, nthOp, List.map, List.zip_cons_cons, List.zip_nil_right, List.cons_append, List.nil_append]
            have shbI := hbI.size
            simp only [drew_size] at shbI
            replace hw := hw.trans (hbI.mono hw.size)
            replace f84 := f84.u hbI
            replace f65 := f65.u hbI
            replace f69 := f69.u hbI
            replace f15 := f15.u hbI
            replace f17 := f17.u hbI
            have hw1 := Below.refl wI.heap.size wI
            refine wl_allocB Try.underlying23 Try.zeroValue23 (by rfl) ?_
            rintro g21 w21 f21 b21 i21 i21_1
            have s21 := b21.size
            replace hw := hw.trans (b21.mono hw.size)
            replace hw1 := hw1.trans (b21.mono hw1.size)
            replace f17 := f17.u b21
            replace f15 := f15.u b21
            replace f69 := f69.u b21
            replace f65 := f65.u b21
            replace f84 := f84.u b21
            exact hk [_] _ ⟨_, rfl, f21, by omega, by omega⟩ hw1
          intro wE hbE
          rintro _ lo0 hi0 ⟨A85, c85, u80, u85, rfl, f85⟩ ql0 qm0 qh0 -
          rintro _ lo1 hi1 ⟨g21, rfl, f21, f21_1, f21_2⟩ ql1 qm1 qh1 ⟨qa1_0, -⟩
          try dsimp only at ql0 qm0 qh0  ql1 qm1 qh1 qa1_0
          try simp only [drew_size] at ql0 qm0 qh0  ql1 qm1 qh1 qa1_0
          dsimp only [given, Item.idx, inOrder, nthOp, List.map, List.zip_cons_cons, List.zip_nil_right]
          have shbE := hbE.size
          simp only [drew_size] at shbE
          replace hw := hw.trans (hbE.mono hw.size)
          replace f84 := f84.u hbE
          replace f65 := f65.u hbE
          replace f69 := f69.u hbE
          replace f15 := f15.u hbE
          replace f17 := f17.u hbE
          refine wl_p (fun _ => o_assign rfl) ?_
          refine wl_p (fun _ => o_assign rfl) ?_
          refine wl_stBa Try.sizeOf23 rfl f21 rfl hen32 (by rfl) ?_
          rintro w_4 f g_3 e_3
          have s_3 := g_3.size
          replace hw := hw.trans (below_of_grownBy g_3.g hw.size (by omega))
          replace f17 := f17.k g_3.g (ap_some (by omega))
          replace f15 := f15.k g_3.g (ap_some (by omega))
          replace f69 := f69.y g_3 (by decide)
          replace f65 := f65.k g_3.g (ap_some (by omega))
          replace f85 := f85.y g_3 (by decide)
          clear f84
          clear f21
          refine wl_nild ?_
          refine rk_seq ?_
          refine rk_seq ?_
          refine rk_region ?_
          refine wl_p (fun _ => o_move rfl) ?_
          refine wl_p (fun _ => o_move rfl) ?_
          refine wl_p (fun _ => o_move rfl) ?_
          refine wl_slRecLo (i) rfl rfl f69.to_RRec rfl rfl (by omega) (by omega) ?_
          rintro A92 c92 f92 i92
          refine wl_call rfl (C_kRecs _ f85.to_RRec f92 rfl hdl (by omega) (by omega)) ?_
          rintro v93 w93 ⟨rfl, b93⟩
          have s93 := b93.size
          replace hw := hw.trans (b93.mono hw.size)
          replace f92 := f92.u b93
          replace f85 := f85.u b93
          replace f65 := f65.u b93
          replace f69 := f69.u b93
          replace f15 := f15.u b93
          replace f17 := f17.u b93
          replace f := f.u b93
          refine wl_p (fun _ => o_not rfl) ?_
          refine wl_p (fun _ => o_move rfl) ?_
          refine wl_know 95 false rfl (by simp) ?_
          refine wl_p (fun _ => o_move rfl) ?_
          refine wl_p (fun _ => o_move rfl) ?_
          refine wl_p (fun _ => o_add rfl rfl (by omega) (by omega)) ?_
          refine wl_p (fun _ => o_move rfl) ?_
          refine wl_p (fun _ => o_ne rfl rfl) ?_
          refine wl_p (fun _ => o_pick_f rfl rfl) ?_
          refine wl_p (fun _ => o_move rfl) ?_
          refine wl_know 102 false rfl (decide_eq_false (by omega)) ?_
          refine wl_r (o_ldBa Try.isAgg23 Try.sizeOf23 rfl f hen32) ?_
          refine wl_r (o_ldBa Try.isAgg23 Try.sizeOf23 rfl f15 hen32) ?_
          refine wl_p (fun _ => (o_neD32 rfl rfl hen32 hen32)) ?_
          refine wl_p (fun _ => o_pick_f rfl rfl) ?_
          refine wl_nil ?_
          refine rk_cond rfl (fun h106 => by simp at h106) (fun h106 => ?_)
          refine rk_skip ?_
          refine rk_seq ?_
          refine rk_drawo (id := 22) (none) [0, 0, 0, 6, 9, 16, 32, 32, 32, 32, 0, 0, 3199, 7423, 15871, 32767] [0, 0, 0, 6, 15, 31, 63, 63, 63, 63, 0, 0, 3199, 7423, 15871, 32767] 23568 3072 [0, 1, 2, 3] [(.s, 0), (.p, 1), (.p, 2), (.p, 3), (.f 15 23568 3072, 12)] (by kernel_rfl) (by kernel_rfl) (by kernel_rfl) (by kernel_rfl) (by kernel_rfl) ?_
          dsimp only [inOrder, nthOp]
          replace hw := hw.drew
          replace f := f.d
          replace f17 := f17.d
          replace f15 := f15.d
          replace f69 := f69.d
          replace f65 := f65.d
          replace f85 := f85.d
          replace f92 := f92.d
          refine wl_s (fun _ hk => (o_ldBa Try.isAgg23 Try.sizeOf23 rfl (f17.u (below_of_grown_none hk)) hnxl)) ?_
          refine wl_p (fun _ => o_move rfl) ?_
          refine wl_p (fun _ => o_move rfl) ?_
          refine wl_slBl Try.u8 (k) rfl rfl f65.to_Rd rfl rfl (by omega) f65.cap ?_
          rintro A111 c111 f111 i111 i111_1
          have hBkl : B.length - k = Bk.length := by rw [← hBk, List.length_drop]
          rw [hBk] at f111
          rw [hBkl]
          refine wl_conc [⟨4, [(.p, 5), (.p, 6), (.p, 7), (.p, 8), (.p, 9)], [116, 115, 114, 113, 107, 112], [], fun vs w' lo hi => ∃ (A112 : Option Addr) (c112 : Nat) (u107 u112 : Value), vs = [.int .i64 0, .agg (B8 x).toArray, .int .i64 (z : Int), .agg #[.int .u8 (M[i].1.toNat : Int), .slice A112 M[i].2.length c112], u107, u112] ∧ OwnH w' lo hi A112 c112 M[i].2⟩, ⟨10, [], [22], [], fun vs w' lo hi => ∃ (g22 : Nat), vs = [.pointer (some ⟨g22, 0, none⟩)] ∧ Blk w' g22 31 [.int .u8 0, .slice none 0 0] ∧ lo ≤ g22 ∧ g22 < hi⟩, ⟨11, [], [24], [], fun vs w' lo hi => ∃ (g24 : Nat), vs = [.pointer (some ⟨g24, 0, none⟩)] ∧ Blk w' g24 23 (B8 nul32) ∧ lo ≤ g24 ∧ g24 < hi⟩] [0, 1, 2] [0, 0, 0, 6, 9, 16, 32, 32, 32, 32, 0, 0, 3199, 7423, 15871, 32767] [0, 0, 0, 6, 15, 31, 63, 63, 63, 63, 0, 0, 3199, 7423, 15871, 32767] [12, 13, 14, 15] [(.l, 12), (.p, 13), (.l, 14), (.p, 15)] (by kernel_rfl) (by kernel_rfl) (by kernel_rfl) (by kernel_rfl) ⟨fun _ _ _ _ _ h hb => by obtain ⟨A112, c112, u107, u112, e0, g0⟩ := h; exact ⟨A112, c112, u107, u112, e0, g0.u hb⟩, fun _ _ _ _ _ h hb => by obtain ⟨g22, e0, g0, g1, g2⟩ := h; exact ⟨g22, e0, g0.u hb, g1, g2⟩, fun _ _ _ _ _ h hb => by obtain ⟨g24, e0, g0, g1, g2⟩ := h; exact ⟨g24, e0, g0.u hb, g1, g2⟩, trivial⟩ ⟨?_, ?_, ?_, trivial⟩ ?_
          · intro wI hbI fo T T2 n2
            intro hk
            dsimp only [Item.idx, inOrder, nthOp, List.map, List.zip_cons_cons, List.zip_nil_right, List.cons_append, List.nil_append]
            have shbI := hbI.size
            simp only [drew_size] at shbI
            replace hw := hw.trans (hbI.mono hw.size)
            replace f111 := f111.u hbI
            replace f92 := f92.u hbI
            replace f85 := f85.u hbI
            replace f65 := f65.u hbI
            replace f69 := f69.u hbI
            replace f15 := f15.u hbI
            replace f17 := f17.u hbI
            replace f := f.u hbI
            have hw1 := Below.refl wI.heap.size wI
            refine wl_call rfl (C_RecReadN _ hRd f111 rfl (by omega) hnxl (by omega)) ?_
            rintro v112 w112 ⟨A112, ⟨c112, ⟨rfl, ⟨f112, b112⟩⟩⟩⟩
            dsimp only at f112
            dsimp only
            have qf112 := f112.cap
            have s112 := b112.size
            replace hw := hw.trans (b112.mono hw.size)
            replace hw1 := hw1.trans (b112.mono hw1.size)
            replace f := f.u b112
            replace f17 := f17.u b112
            replace f15 := f15.u b112
            replace f69 := f69.u b112
            replace f65 := f65.u b112
            replace f85 := f85.u b112
            replace f92 := f92.u b112
            replace f111 := f111.u b112
            refine wl_p (fun _ => o_move rfl) ?_
            refine wl_p (fun _ => o_ext40 rfl) ?_
            refine wl_p (fun _ => o_ext41 rfl) ?_
            refine wl_p (fun _ => o_ext42 rfl) ?_
            refine wl_p (fun _ => o_ext43 rfl) ?_
            exact hk [_, _, _, _, _, _] _ ⟨_, _, _, _, rfl, f112⟩ hw1
          · intro wI hbI fo T T2 n2
            intro hk
            dsimp only [Item.idx, inOrder, nthOp, List.map, List.zip_cons_cons, List.zip_nil_right, List.cons_append, List.nil_append]
            have shbI := hbI.size
            simp only [drew_size] at shbI
            replace hw := hw.trans (hbI.mono hw.size)
            replace f111 := f111.u hbI
            replace f92 := f92.u hbI
            replace f85 := f85.u hbI
            replace f65 := f65.u hbI
            replace f69 := f69.u hbI
            replace f15 := f15.u hbI
            replace f17 := f17.u hbI
            replace f := f.u hbI
            have hw1 := Below.refl wI.heap.size wI
            refine wl_allocg [_, _] Try.zeroValue31 (by rfl) ?_
            rintro g22 w22 f22 b22 i22 i22_1
            have s22 := b22.size
            replace hw := hw.trans (b22.mono hw.size)
            replace hw1 := hw1.trans (b22.mono hw1.size)
            replace f := f.u b22
            replace f17 := f17.u b22
            replace f15 := f15.u b22
            replace f69 := f69.u b22
            replace f65 := f65.u b22
            replace f85 := f85.u b22
            replace f92 := f92.u b22
            replace f111 := f111.u b22
            exact hk [_] _ ⟨_, rfl, f22, by omega, by omega⟩ hw1
          · intro wI hbI fo T T2 n2
            intro hk
            dsimp only [Item.idx, inOrder, nthOp, List.map, List.zip_cons_cons, List.zip_nil_right, List.cons_append, List.nil_append]
            have shbI := hbI.size
            simp only [drew_size] at shbI
            replace hw := hw.trans (hbI.mono hw.size)
            replace f111 := f111.u hbI
            replace f92 := f92.u hbI
            replace f85 := f85.u hbI
            replace f65 := f65.u hbI
            replace f69 := f69.u hbI
            replace f15 := f15.u hbI
            replace f17 := f17.u hbI
            replace f := f.u hbI
            have hw1 := Below.refl wI.heap.size wI
            refine wl_allocB Try.underlying23 Try.zeroValue23 (by rfl) ?_
            rintro g24 w24 f24 b24 i24 i24_1
            have s24 := b24.size
            replace hw := hw.trans (b24.mono hw.size)
            replace hw1 := hw1.trans (b24.mono hw1.size)
            replace f := f.u b24
            replace f17 := f17.u b24
            replace f15 := f15.u b24
            replace f69 := f69.u b24
            replace f65 := f65.u b24
            replace f85 := f85.u b24
            replace f92 := f92.u b24
            replace f111 := f111.u b24
            exact hk [_] _ ⟨_, rfl, f24, by omega, by omega⟩ hw1
          intro wE hbE
          rintro _ lo0 hi0 ⟨A112, c112, u107, u112, rfl, f112⟩ ql0 qm0 qh0 -
          rintro _ lo1 hi1 ⟨g22, rfl, f22, f22_1, f22_2⟩ ql1 qm1 qh1 ⟨qa1_0, -⟩
          rintro _ lo2 hi2 ⟨g24, rfl, f24, f24_1, f24_2⟩ ql2 qm2 qh2 ⟨qa2_1, qa2_0, -⟩
          try dsimp only at ql0 qm0 qh0  ql1 qm1 qh1 qa1_0 ql2 qm2 qh2 qa2_0 qa2_1
          try simp only [drew_size] at ql0 qm0 qh0  ql1 qm1 qh1 qa1_0 ql2 qm2 qh2 qa2_0 qa2_1
          dsimp only [given, Item.idx, inOrder, nthOp, List.map, List.zip_cons_cons, List.zip_nil_right]
          have shbE_1 := hbE.size
          simp only [drew_size] at shbE_1
          replace hw := hw.trans (hbE.mono hw.size)
          replace f111 := f111.u hbE
          replace f92 := f92.u hbE
          replace f85 := f85.u hbE
          replace f65 := f65.u hbE
          replace f69 := f69.u hbE
          replace f15 := f15.u hbE
          replace f17 := f17.u hbE
          replace f := f.u hbE
          refine wl_storega Try.sizeOf31 rfl rfl (by rfl) (oneCell_of (by rfl)) f22 (by rfl) ?_
          rintro w_5 f_1 g_4 e_4
          have s_4 := g_4.size
          replace hw := hw.trans (below_of_grownBy g_4.g hw.size (by omega))
          replace f := f.k g_4.g (ap_some (by omega))
          replace f17 := f17.k g_4.g (ap_some (by omega))
          replace f15 := f15.k g_4.g (ap_some (by omega))
          replace f69 := f69.q g_4 (ap_some (by omega)) (by decide)
          replace f65 := f65.k g_4.g (ap_some (by omega))
          replace f85 := f85.q g_4 (ap_some (by omega)) (by decide)
          replace f24 := f24.k g_4.g (ap_some (by omega))
          replace f112 := f112.k g_4.g (ap_some (by omega))
          clear f92
          clear f111
          clear f22
          refine wl_p (fun _ => o_assign rfl) ?_
          refine wl_stBa Try.sizeOf23 rfl f24 rfl hx32 (by rfl) ?_
          rintro w_6 f_2 g_5 e_5
          have s_5 := g_5.size
          replace hw := hw.trans (below_of_grownBy g_5.g hw.size (by omega))
          replace f112 := f112.k g_5.g (ap_some (by omega))
          replace f85 := f85.y g_5 (by decide)
          replace f65 := f65.k g_5.g (ap_some (by omega))
          replace f69 := f69.y g_5 (by decide)
          replace f15 := f15.k g_5.g (ap_some (by omega))
          replace f17 := f17.k g_5.g (ap_some (by omega))
          replace f := f.k g_5.g (ap_some (by omega))
          replace f_1 := f_1.k g_5.g (ap_some (by omega))
          clear f24
          refine wl_p (fun _ => o_assign rfl) ?_
          refine wl_nild ?_
          refine rk_seq ?_
          refine rk_seq ?_
          refine rk_draw (id := 23) (none) [0, 1, 2, 4, 4, 4, 52, 68, 140, 260, 516, 1280, 2048, 2048, 10240, 22528, 34816, 81920, 131072, 131072, 131072, 1703936, 2490368, 4325376] [0, 1, 3, 7, 7, 7, 55, 119, 255, 511, 1023, 2047, 4095, 4095, 12287, 32767, 65535, 131071, 262143, 262143, 262143, 1835007, 4194303, 8388607] 2113792 2097152 [(.p, 0), (.p, 1), (.p, 2), (.r, 3), (.p, 4), (.p, 5), (.p, 6), (.r, 7), (.l, 8), (.p, 9), (.p, 10), (.p, 11), (.p, 12), (.r, 13), (.l, 14), (.p, 15), (.p, 16), (.p, 17), (.s, 18), (.r, 19), (.r, 20), (.c, 21), (.p, 22), (.p, 23)] (by kernel_rfl) (by kernel_rfl) (by kernel_rfl) (by kernel_rfl) (by kernel_rfl) ?_
          replace hw := hw.drew
          replace f_1 := f_1.d
          replace f := f.d
          replace f17 := f17.d
          replace f15 := f15.d
          replace f69 := f69.d
          replace f65 := f65.d
          replace f85 := f85.d
          replace f112 := f112.d
          replace f_2 := f_2.d
          refine wl_p (fun _ => o_move rfl) ?_
          refine wl_p (fun _ => o_ne rfl rfl) ?_
          refine wl_p (fun _ => o_move rfl) ?_
          refine wl_r (o_loadag Try.isAgg31 Try.sizeOf31 rfl f_1 (by rfl)) ?_
          refine wl_p (fun _ => o_move rfl) ?_
          refine wl_p (fun _ => o_move rfl) ?_
          refine wl_p (fun _ => (o_iaddrA (i) Try.underlying42 Try.sizeOf31 rfl rfl rfl (f69.some_ (by omega)) (by omega))) ?_
          refine wl_ldRec rfl f69.to_RRec (Below.refl _ _) (by omega) ?_
          rintro A1124 c1124 f124 i124 i124_1
          refine wl_call rfl (C_kRecZ _ (by rfl) (by rfl) f112.to_Rd f124 rfl rfl) ?_
          rintro v125 w125 ⟨rfl, b125⟩
          simp only [drew_size] at b125
          have s125 := b125.size
          simp only [drew_size] at s125
          replace hw := hw.trans (b125.mono hw.size)
          replace f124 := f124.u b125
          replace f_2 := f_2.u b125
          replace f112 := f112.u b125
          replace f85 := f85.u b125
          replace f65 := f65.u b125
          replace f69 := f69.u b125
          replace f15 := f15.u b125
          replace f17 := f17.u b125
          replace f := f.u b125
          replace f_1 := f_1.u b125
          refine wl_p (fun _ => o_not rfl) ?_
          refine wl_p (fun _ => o_pick_f rfl rfl) ?_
          refine wl_p (fun _ => o_move rfl) ?_
          refine wl_know 128 false rfl (by simp) ?_
          refine wl_p (fun _ => o_move rfl) ?_
          refine wl_r (o_loadag Try.isAgg31 Try.sizeOf31 rfl f_1 (by rfl)) ?_
          refine wl_call rfl (C_SizeOk _ f112.to_Rd (by rfl) hz2 (by omega) rfl (by omega)) ?_
          rintro v131 w131 ⟨rfl, b131⟩
          have s131 := b131.size
          replace hw := hw.trans (b131.mono hw.size)
          replace f_1 := f_1.u b131
          replace f := f.u b131
          replace f17 := f17.u b131
          replace f15 := f15.u b131
          replace f69 := f69.u b131
          replace f65 := f65.u b131
          replace f85 := f85.u b131
          replace f112 := f112.u b131
          replace f_2 := f_2.u b131
          replace f124 := f124.u b131
          refine wl_p (fun _ => o_ne rfl rfl) ?_
          refine wl_p (fun _ => o_pick_f rfl rfl) ?_
          refine wl_p (fun _ => o_move rfl) ?_
          refine wl_know 134 false rfl (decide_eq_false (by omega)) ?_
          refine wl_s (fun _ hk => (o_ldBa Try.isAgg23 Try.sizeOf23 rfl (f_2.u (below_of_grown_none hk)) hx32)) ?_
          refine wl_r (o_ldBa Try.isAgg23 Try.sizeOf23 rfl f17 hnxl) ?_
          refine wl_r (o_loadag Try.isAgg31 Try.sizeOf31 rfl f_1 (by rfl)) ?_
          refine wl_call rfl (C_Next _ f112.to_Rd rfl (by omega) hnxl hx) ?_ (hq := .inr fun _ _ h => grown_of_below h.2 _)
          rintro v138 w138 ⟨rfl, b138⟩
          have s138 := b138.size
          replace hw := hw.trans (b138.mono hw.size)
          replace f124 := f124.u b138
          replace f_2 := f_2.u b138
          replace f112 := f112.u b138
          replace f85 := f85.u b138
          replace f65 := f65.u b138
          replace f69 := f69.u b138
          replace f15 := f15.u b138
          replace f17 := f17.u b138
          replace f := f.u b138
          replace f_1 := f_1.u b138
          refine wl_p (fun _ => (o_neD32 rfl rfl hx32 hx32)) ?_
          refine wl_p (fun _ => o_pick_f rfl rfl) ?_
          refine wl_nild ?_
          refine rk_cond rfl (fun h140 => by simp at h140) (fun h140 => ?_)
          refine rk_skip ?_
          refine rk_draw (id := 25) (none) [0, 0, 3, 0, 7, 31] [0, 0, 3, 0, 7, 31] 32 0 [(.p, 0), (.p, 1), (.p, 2), (.r, 3), (.p, 4), (.l, 5)] (by kernel_rfl) (by kernel_rfl) (by kernel_rfl) (by kernel_rfl) (by kernel_rfl) ?_
          replace hw := hw.drew
          replace f_1 := f_1.d
          replace f := f.d
          replace f17 := f17.d
          replace f15 := f15.d
          replace f69 := f69.d
          replace f65 := f65.d
          replace f85 := f85.d
          replace f112 := f112.d
          replace f_2 := f_2.d
          replace f124 := f124.d
          refine wl_p (fun _ => o_move rfl) ?_
          refine wl_p (fun _ => o_move rfl) ?_
          refine wl_p (fun _ => o_add rfl rfl (by omega) (by omega)) ?_
          refine wl_r (o_ldBa Try.isAgg23 Try.sizeOf23 rfl f_2 hx32) ?_
          refine wl_p (fun _ => o_assign rfl) ?_
          refine wl_stBa Try.sizeOf23 rfl f17 rfl hx32 hnxl ?_
          rintro w_7 f_3 g_6 e_6
          simp only [drew_size] at e_6
          have s_6 := g_6.size
          simp only [drew_size] at s_6
          replace hw := hw.trans (below_of_grownBy g_6.g hw.size (by omega))
          replace f_2 := f_2.k g_6.g (ap_some (by omega))
          replace f112 := f112.k g_6.g (ap_some (by omega))
          replace f85 := f85.y g_6 (by decide)
          replace f65 := f65.k g_6.g (ap_some (by omega))
          replace f69 := f69.y g_6 (by decide)
          replace f15 := f15.k g_6.g (ap_some (by omega))
          replace f := f.k g_6.g (ap_some (by omega))
          replace f_1 := f_1.k g_6.g (ap_some (by omega))
          clear f124
          clear f17
          refine wl_nild ?_
          refine rk_blk ?_
          refine rk_region ?_
          refine wl_p (fun _ => o_move rfl) ?_
          refine wl_p (fun _ => o_add rfl rfl (by omega) (by omega)) ?_
          refine wl_p (fun _ => o_assign rfl) ?_
          refine wl_nil ?_
          exact rk_againf (Fr.le_of (by kernel_rfl) (by kernel_rfl) (by repeat' constructor)) ⟨i + 1, k + z, (i : Int) + 1, (k : Int) + z, x, rfl, by omega, by omega, by omega, rfl, e1.symm, e2.symm, f65, f69, f15, by assumption, by omega, hw⟩ (by omega)
        · refine rk_exit rfl ?_
          obtain rfl : i = M.length := by omega
          rw [List.take_length] at hk hnx
          rw [hnb] at hk
          rw [hen] at hnx
          subst hk; subst hnx
          exact rk_tof hj (Fr.le_of (by kernel_rfl) (by kernel_rfl) (by repeat' constructor)) ⟨rfl, f65, f15, f17, hsW, hw⟩
      have hg15 := f.lt
      have hg17 := f_1.lt
      clear hw f f4 f65 f69 f_1
      rintro fr W ⟨rfl, f65, f15, f17, hsW, hw⟩
      obtain ⟨q, hq, hO, hqe⟩ := hP
      rw [hen] at hqe
      have hnbB : nb ≤ B.length := by rw [hq, List.length_append, hnb]; omega
      have hBq : B.drop nb = q := by rw [hq, ← hnb, List.drop_left]
      have hql : B.length - nb = q.length := by rw [← hBq, List.length_drop]
      have hqb : q.length ≤ B.length := by omega
      obtain ⟨⟨⟨k', p'⟩, z', x', e'⟩, hR⟩ : ∃ s, readR en q = s := ⟨_, rfl⟩
      rw [hR] at hqe
      simp only at hqe
      have hx32 : x'.length = 32 := by
        rcases readR_e en q with h | ⟨h, _⟩
        · exact absurd (by rw [hR] at h; exact h) hqe
        · rw [hR] at h; simp only [Prod.mk.injEq] at h; rw [h.2.2.1]; rfl
      first | refine rk_frame (by simp only [List.cons_append, List.nil_append, List.drop_succ_cons, List.drop_zero]; rfl) ?_ | refine wl_frame (by simp only [List.cons_append, List.nil_append, List.drop_succ_cons, List.drop_zero]; rfl) ?_
      refine rk_seq ?_
      refine rk_drawo (id := 26) (none) [0, 0, 0, 6, 9, 16, 32, 32, 32, 32, 0, 0, 3199, 7423, 15871, 32767] [0, 0, 0, 6, 15, 31, 63, 63, 63, 63, 0, 0, 3199, 7423, 15871, 32767] 23568 3072 [0, 1, 2, 3] [(.s, 0), (.p, 1), (.p, 2), (.p, 3), (.f 15 23568 3072, 12)] (by kernel_rfl) (by kernel_rfl) (by kernel_rfl) (by kernel_rfl) (by kernel_rfl) ?_
      dsimp only [inOrder, nthOp]
      replace hw := hw.drew
      replace f17 := f17.d
      replace f15 := f15.d
      replace f65 := f65.d
      refine wl_s (fun _ hk => (o_ldBa Try.isAgg23 Try.sizeOf23 rfl (f17.u (below_of_grown_none hk)) hen32)) ?_
      refine wl_p (fun _ => o_move rfl) ?_
      refine wl_p (fun _ => o_move rfl) ?_
      refine wl_slBl Try.u8 (nb) rfl rfl f65.to_Rd rfl rfl (by omega) f65.cap ?_
      rintro A149 c149 f149 i149 i149_1
      rw [hBq] at f149
      rw [hql]
      refine wl_conc [⟨4, [(.p, 5), (.p, 6), (.p, 7), (.p, 8), (.p, 9)], [154, 153, 152, 151, 145, 150], [], fun vs w' lo hi => ∃ (A150 : Option Addr) (c150 : Nat) (u145 u150 : Value), vs = [.int .i64 (e' : Int), .agg (B8 x').toArray, .int .i64 (z' : Int), .agg #[.int .u8 (k'.toNat : Int), .slice A150 p'.length c150], u145, u150] ∧ OwnH w' lo hi A150 c150 p'⟩, ⟨10, [], [26], [], fun vs w' lo hi => ∃ (g26 : Nat), vs = [.pointer (some ⟨g26, 0, none⟩)] ∧ Blk w' g26 31 [.int .u8 0, .slice none 0 0] ∧ lo ≤ g26 ∧ g26 < hi⟩, ⟨11, [], [28], [], fun vs w' lo hi => ∃ (g28 : Nat), vs = [.pointer (some ⟨g28, 0, none⟩)] ∧ Blk w' g28 23 (B8 nul32) ∧ lo ≤ g28 ∧ g28 < hi⟩] [0, 1, 2] [0, 0, 0, 6, 9, 16, 32, 32, 32, 32, 0, 0, 3199, 7423, 15871, 32767] [0, 0, 0, 6, 15, 31, 63, 63, 63, 63, 0, 0, 3199, 7423, 15871, 32767] [12, 13, 14, 15] [(.l, 12), (.p, 13), (.l, 14), (.p, 15)] (by kernel_rfl) (by kernel_rfl) (by kernel_rfl) (by kernel_rfl) ⟨fun _ _ _ _ _ h hb => by obtain ⟨A150, c150, u145, u150, e0, g0⟩ := h; exact ⟨A150, c150, u145, u150, e0, g0.u hb⟩, fun _ _ _ _ _ h hb => by obtain ⟨g26, e0, g0, g1, g2⟩ := h; exact ⟨g26, e0, g0.u hb, g1, g2⟩, fun _ _ _ _ _ h hb => by obtain ⟨g28, e0, g0, g1, g2⟩ := h; exact ⟨g28, e0, g0.u hb, g1, g2⟩, trivial⟩ ⟨?_, ?_, ?_, trivial⟩ ?_
      · intro wI hbI fo T T2 n2
        intro hk
        dsimp only [Item.idx, inOrder, nthOp, List.map, List.zip_cons_cons, List.zip_nil_right, List.cons_append, List.nil_append]
        have shbI := hbI.size
        simp only [drew_size] at shbI
        replace hw := hw.trans (hbI.mono hw.size)
        replace f149 := f149.u hbI
        replace f65 := f65.u hbI
        replace f15 := f15.u hbI
        replace f17 := f17.u hbI
        have hw1 := Below.refl wI.heap.size wI
        refine wl_call rfl (C_RecReadN _ hR f149 rfl (by omega) hen32 (by omega)) ?_
        rintro v150 w150 ⟨A150, ⟨c150, ⟨rfl, ⟨f150, b150⟩⟩⟩⟩
        dsimp only at f150
        dsimp only
        have qf150 := f150.cap
        have s150 := b150.size
        replace hw := hw.trans (b150.mono hw.size)
        replace hw1 := hw1.trans (b150.mono hw1.size)
        replace f17 := f17.u b150
        replace f15 := f15.u b150
        replace f65 := f65.u b150
        replace f149 := f149.u b150
        refine wl_p (fun _ => o_move rfl) ?_
        refine wl_p (fun _ => o_ext40 rfl) ?_
        refine wl_p (fun _ => o_ext41 rfl) ?_
        refine wl_p (fun _ => o_ext42 rfl) ?_
        refine wl_p (fun _ => o_ext43 rfl) ?_
        exact hk [_, _, _, _, _, _] _ ⟨_, _, _, _, rfl, f150⟩ hw1
      · intro wI hbI fo T T2 n2
        intro hk
        dsimp only [Item.idx, inOrder, nthOp, List.map, List.zip_cons_cons, List.zip_nil_right, List.cons_append, List.nil_append]
        have shbI := hbI.size
        simp only [drew_size] at shbI
        replace hw := hw.trans (hbI.mono hw.size)
        replace f149 := f149.u hbI
        replace f65 := f65.u hbI
        replace f15 := f15.u hbI
        replace f17 := f17.u hbI
        have hw1 := Below.refl wI.heap.size wI
        refine wl_allocg [_, _] Try.zeroValue31 (by rfl) ?_
        rintro g26 w26 f26 b26 i26 i26_1
        have s26 := b26.size
        replace hw := hw.trans (b26.mono hw.size)
        replace hw1 := hw1.trans (b26.mono hw1.size)
        replace f17 := f17.u b26
        replace f15 := f15.u b26
        replace f65 := f65.u b26
        replace f149 := f149.u b26
        exact hk [_] _ ⟨_, rfl, f26, by omega, by omega⟩ hw1
      · intro wI hbI fo T T2 n2
        intro hk
        dsimp only [Item.idx, inOrder, nthOp, List.map, List.zip_cons_cons, List.zip_nil_right, List.cons_append, List.nil_append]
        have shbI := hbI.size
        simp only [drew_size] at shbI
        replace hw := hw.trans (hbI.mono hw.size)
        replace f149 := f149.u hbI
        replace f65 := f65.u hbI
        replace f15 := f15.u hbI
        replace f17 := f17.u hbI
        have hw1 := Below.refl wI.heap.size wI
        refine wl_allocB Try.underlying23 Try.zeroValue23 (by rfl) ?_
        rintro g28 w28 f28 b28 i28 i28_1
        have s28 := b28.size
        replace hw := hw.trans (b28.mono hw.size)
        replace hw1 := hw1.trans (b28.mono hw1.size)
        replace f17 := f17.u b28
        replace f15 := f15.u b28
        replace f65 := f65.u b28
        replace f149 := f149.u b28
        exact hk [_] _ ⟨_, rfl, f28, by omega, by omega⟩ hw1
      intro wE hbE
      rintro _ lo0 hi0 ⟨A150, c150, u145, u150, rfl, f150⟩ ql0 qm0 qh0 -
      rintro _ lo1 hi1 ⟨g26, rfl, f26, f26_1, f26_2⟩ ql1 qm1 qh1 ⟨qa1_0, -⟩
      rintro _ lo2 hi2 ⟨g28, rfl, f28, f28_1, f28_2⟩ ql2 qm2 qh2 ⟨qa2_1, qa2_0, -⟩
      try dsimp only at ql0 qm0 qh0  ql1 qm1 qh1 qa1_0 ql2 qm2 qh2 qa2_0 qa2_1
      try simp only [drew_size] at ql0 qm0 qh0  ql1 qm1 qh1 qa1_0 ql2 qm2 qh2 qa2_0 qa2_1
      dsimp only [given, Item.idx, inOrder, nthOp, List.map, List.zip_cons_cons, List.zip_nil_right]
      have shbE := hbE.size
      simp only [drew_size] at shbE
      replace hw := hw.trans (hbE.mono hw.size)
      replace f149 := f149.u hbE
      replace f65 := f65.u hbE
      replace f15 := f15.u hbE
      replace f17 := f17.u hbE
      refine wl_storega Try.sizeOf31 rfl rfl (by rfl) (oneCell_of (by rfl)) f26 (by rfl) ?_
      rintro w_4 f g_3 e_3
      have s_3 := g_3.size
      replace hw := hw.trans (below_of_grownBy g_3.g hw.size (by omega))
      replace f17 := f17.k g_3.g (ap_some (by omega))
      replace f15 := f15.k g_3.g (ap_some (by omega))
      replace f65 := f65.k g_3.g (ap_some (by omega))
      replace f28 := f28.k g_3.g (ap_some (by omega))
      replace f150 := f150.k g_3.g (ap_some (by omega))
      clear f149
      clear f26
      refine wl_p (fun _ => o_assign rfl) ?_
      refine wl_stBa Try.sizeOf23 rfl f28 rfl hx32 (by rfl) ?_
      rintro w_5 f_1 g_4 e_4
      have s_4 := g_4.size
      replace hw := hw.trans (below_of_grownBy g_4.g hw.size (by omega))
      replace f150 := f150.k g_4.g (ap_some (by omega))
      replace f65 := f65.k g_4.g (ap_some (by omega))
      replace f15 := f15.k g_4.g (ap_some (by omega))
      replace f17 := f17.k g_4.g (ap_some (by omega))
      replace f := f.k g_4.g (ap_some (by omega))
      clear f28
      refine wl_p (fun _ => o_assign rfl) ?_
      refine wl_nild ?_
      refine rk_seq ?_
      refine rk_region ?_
      refine wl_p (fun _ => o_move rfl) ?_
      refine wl_p (fun _ => o_move rfl) ?_
      refine wl_p (fun _ => o_eq rfl rfl) ?_
      refine wl_p (fun _ => o_move rfl) ?_
      refine wl_know 158 true rfl (decide_eq_true (by omega)) ?_
      refine wl_r (o_ldBa Try.isAgg23 Try.sizeOf23 rfl f17 hen32) ?_
      refine wl_r (o_ldBa Try.isAgg23 Try.sizeOf23 rfl f15 hen32) ?_
      refine wl_p (fun _ => (o_eqD32 rfl rfl hen32 hen32)) ?_
      refine wl_p (fun _ => o_pick_t rfl rfl) ?_
      refine wl_p (fun _ => o_move rfl) ?_
      refine wl_know 163 true rfl (by simp) ?_
      refine wl_p (fun _ => o_move rfl) ?_
      refine wl_p (fun _ => o_ne rfl rfl) ?_
      refine wl_p (fun _ => o_pick_t rfl rfl) ?_
      refine wl_p (fun _ => o_assign rfl) ?_
      refine wl_nil ?_
      refine ret1 rfl rfl ?_
      exact ⟨congrArg Value.bool (decide_eq_true (by omega)), hw⟩
--@ arg []api.Record arg_Records
theorem arg_Records {H : Type} {enc : TypeId × Value → H} {W : World} {base : Nat} {v : Value} {d : DataW H} {p : List MemPlace} (hok : Value.okWide Try.prog W .any base 42 v) (h : DataW.Trod enc Try.prog W 0 (fun _ => true) true 42 v d p) :
    ∃ (A : Option Addr) (c : Nat) (L : List Rc), v = .slice A L.length c ∧ RRec W A L ∧ L.length ≤ c ∧ c ≤ maxLen := by
  obtain ⟨L, h1⟩ := open_slc (X := GoT.slice 31 gRec) (opens_slice Try.underlying42 (by kernel_rfl) (by decide) opens_Rec) Try.underlying42 hok h
  obtain ⟨A, c, e, h2, h3, h4⟩ := slice_RSl h1
  injection e with e
  exact ⟨A, c, L, e, h2, h3, h4⟩
end Go.Proofs.Ytpjedpmbninfcaa
/-
  Rows of numbers (int) in the form that the recorder's search applies. No function of the program is named here.
-/
namespace Go.Proofs.Ytpjedpmbninfcaa
open Go.RowKit
theorem Try.rowI : RowT Try.prog 44 3 (.int .i64 0) 1 8 := ⟨Try.underlying44, by kernel_rfl, rfl, by omega⟩

/-! Rows of numbers. -/
def OwnZ (w : World) (lo hi : Nat) (A : Option Addr) (c : Nat) (zs : List Int) : Prop := RowH w lo hi 3 1 A zs.length c (zs.map (Value.int .i64))
def RZ (w : World) (A : Option Addr) (zs : List Int) : Prop := Reads w 1 A zs.length (zs.map (Value.int .i64))
section
variable {w w' : World} {lo hi c n : Nat} {e' : TypeId} {A : Option Addr} {L : List Int} {row : Option Nat}
theorem RZ.u (h : RZ w A L) (hb : Below w.heap.size w w') : RZ w' A L := h.below hb
theorem RZ.d (h : RZ w A L) : RZ w.drew A L := h
theorem RZ.nil_ : RZ w none [] := Reads.none_ _ _ _
theorem RZ.to_Reads (h : RZ w A L) : Reads w 1 A L.length (L.map (Value.int .i64)) := h
theorem OwnZ.u (h : OwnZ w lo hi A c L) (hb : Below w.heap.size w w') : OwnZ w' lo hi A c L := RowH.u h hb
theorem OwnZ.d (h : OwnZ w lo hi A c L) : OwnZ w.drew lo hi A c L := RowH.d h
theorem OwnZ.k (h : OwnZ w lo hi A c L) (hg : w.grownBy w' row) (ha : Ap row lo hi) : OwnZ w' lo hi A c L := RowH.k h hg ha
theorem OwnZ.y (h : OwnZ w lo hi A c L) (hg : Grew w w' e' row) (hne : e' ≠ 3) : OwnZ w' lo hi A c L := RowH.y h hg hne
theorem OwnZ.m {b : Nat} (h : OwnZ w lo hi A c L) (hg : GrewM w w' b) : OwnZ w' lo hi A c L := RowH.m h hg
theorem OwnZ.ap (h : OwnZ w lo hi A c L) {lo' hi' : Nat} (hd : hi ≤ lo' ∨ hi' ≤ lo) : Ap (blk A) lo' hi' := RowH.ap h hd
theorem OwnZ.cap (h : OwnZ w lo hi A c L) : L.length ≤ c := RowH.cap h
theorem OwnZ.to_RZ (h : OwnZ w lo hi A c L) : RZ w A L := RowH.rd h
theorem OwnZ.to_Reads (h : OwnZ w lo hi A c L) : Reads w 1 A L.length (L.map (Value.int .i64)) := RowH.rd h
theorem OwnZ.nil_ : OwnZ w lo hi none 0 [] := RowH.nil _ _ _ _ _
end
section
variable {fn : Func} {F : Ending → World → Prop} {N : Nat} {ks : List K} {ops : Array Oper} {tg : Tags} {l : List Oper} {fr : Fr} {w : World} {ty t t' : TypeId} {pos : String} {aft : Array Edge} {gd : Option (Nat × Bool)} {d g n c j q lo hi : Nat} {x y k : Operand} {A X : Option Addr}
--@ rule load r o_loadRZ
theorem o_loadRZ {zs : List Int} (ha' : ∀ w, (isAgg t).run Try.prog w = .ok false w) (hx : fr.ev x = some (.pointer (some (adr A j)))) (hr : RZ w A zs) (hj : j < zs.length) : OpV Try.prog N fr w (.load t x) ty (.int .i64 zs[j]) w := o_loadZ ha' hx hr hj
--@ rule append l wl_appZ
theorem wl_appZ {L M : List Int} (hx : fr.ev x = some (.slice A n c)) (hown : OwnZ w lo hi A c L) (hn : n = L.length) (hy : fr.ev y = some (.slice X j q)) (hr : RZ w X M) (hj : j = M.length) (hlen : L.length + M.length ≤ 4000000) (hB : lo ≤ w.heap.size)
    (h : ∀ A' c' w', OwnZ w' lo w'.heap.size A' c' (L ++ M) → Grew w w' 3 (blk A) → Below lo w w' → (blk A' = blk A ∨ blk A' = some w.heap.size) → WL Try.prog fn F N ks ops tg.tail l ((d, .slice A' (L ++ M).length c') :: fr) w')
    (ht : tg.loud = true := by rfl) (hg : onG ops fr gd = true := by rfl) (hd : Nat.blt d N = true := by rfl) (hq : tg.calm = false ∨ blk A = none ∨ blk A = tg.row := by exact .inl rfl) :
    WL Try.prog fn F N ks ops tg (⟨some d, .call { callee := .builtin .append, args := #[x, y], argTypes := #[44, 44] }, ty, pos, aft, gd⟩ :: l) fr w := by
  subst hn; subst hj
  refine wl_appR Try.rowI hx hown hy hr (fun u hu => by obtain ⟨z, _, rfl⟩ := List.mem_map.1 hu; rfl) (by simp only [maxLen]; omega) (by omega) hB (fun A' c' w' h1 h2 h3 h4 => ?_) ht hg hd hq
  have := h A' c' w' (by unfold OwnZ; rw [List.map_append, List.length_append]; exact h1) h2 h3 h4
  rwa [List.length_append] at this
--@ rule buildSlice l wl_litZH
theorem wl_litZH {ps : Array (Nat × Operand)} {xs : List Operand} {vs : List Value} (zs : List Int) (hxs : ps.toList.map Prod.snd = xs) (hx : fr.evs xs = some vs) (hv : vs = zs.map (Value.int .i64)) (hn : zs.length = n) (hps : ps = ((List.range' 0 n).zip xs).toArray) (hm : Nat.ble (n * 1) 1000000 = true)
    (hk : ∀ A w', OwnZ w' w.heap.size w'.heap.size A n zs → Below w.heap.size w w' → WL Try.prog fn F N ks ops tg.tail l ((d, .slice A n n) :: fr) w')
    (ht : tg.loud = true := by rfl) (hg : onG ops fr gd = true := by rfl) (hd : Nat.blt d N = true := by rfl) : WL Try.prog fn F N ks ops tg (⟨some d, .buildSlice 44 n ps, ty, pos, aft, gd⟩ :: l) fr w := by
  refine wl_litR Try.rowI Try.sizeOf3 Try.zeroValue3 hxs hps hx (by rw [hv, List.length_map, hn]) (fun v hv' => ?_) hm (fun A w' h1 h2 => hk A w' ?_ h2) ht hg hd
  · rw [hv] at hv'
    obtain ⟨z, _, rfl⟩ := List.mem_map.1 hv'
    rfl
  · have e : (zs.map (Value.int .i64)).flatMap (fun v => v.cells.toList) = zs.map (Value.int .i64) := by
      clear h1 hk hm hx hv hn hps hxs
      induction zs with
      | nil => rfl
      | cons d L ih => rw [List.map_cons, List.flatMap_cons, ih]; rfl
    rw [hv, e] at h1
    subst hn
    exact h1
end

section
variable {fn : Func} {F : Ending → World → Prop} {N : Nat} {ks : List K} {ops : Array Oper} {tg : Tags} {l : List Oper} {fr : Fr} {w : World} {ty : TypeId} {pos : String} {aft : Array Edge} {gd : Option (Nat × Bool)} {d : Nat} {x y : Operand} {A : Option Addr}
--@ rule slice l wl_slhiZ
theorem wl_slhiZ {L : List Int} {len cap : Nat} (hi : Nat) {kh : IntKind} {h : Int} (hx : fr.ev x = some (.slice A len cap)) (hz : fr.ev y = some (.int kh h)) (hr : RZ w A L) (hlen : len = L.length) (hh : h = (hi : Int)) (h2 : hi ≤ len) (h3 : len ≤ cap)
    (hk : RZ w A (L.take hi) → WL Try.prog fn F N ks ops tg.tail l ((d, .slice A hi cap) :: fr) w) (hg : onG ops fr gd = true := by rfl) (hd : Nat.blt d N = true := by rfl) :
    WL Try.prog fn F N ks ops tg (⟨some d, .slice 44 x none (some y) none, ty, pos, aft, gd⟩ :: l) fr w :=
  wl_p (fun _ => o_slice_hi Try.underlying44 Try.sizeOf3 hx hz hh (by omega)) (hk (by
    unfold RZ at hr ⊢
    have := Reads.taken hr (k := hi) (by omega)
    rw [Nat.mul_one, ← List.map_take] at this
    rw [List.length_take, Nat.min_eq_left (by omega)]
    exact this)) hg hd
end
end Go.Proofs.Ytpjedpmbninfcaa
/-
  Digests: arrays of 32 bytes; rows of them; maps with such keys.
-/
namespace Go.Proofs.Ytpjedpmbninfcaa
open Go.RowKit

/-- A digest. -/
abbrev Dg := { l : List UInt8 // l.length = 32 }
def cD (L : List Dg) : List Value := L.flatMap fun d => B8 d.1
abbrev vD (d : Dg) : Value := .agg (B8 d.1).toArray
theorem B8_inj : ∀ {l m : List UInt8}, B8 l = B8 m → l = m
  | [], [], _ => rfl
  | [], _ :: _, h => by cases h
  | _ :: _, [], h => by cases h
  | a :: l, b :: m, h => by
    simp only [B8, List.map_cons, List.cons.injEq, Value.int.injEq, true_and] at h
    rw [UInt8.toNat_inj.1 (Int.ofNat.inj h.1), B8_inj (l := l) (m := m) h.2]
theorem vD_inj {d e : Dg} (h : vD d = vD e) : d = e := by
  unfold vD at h
  injection h with h
  have h := List.toArray_inj h
  exact Subtype.ext (B8_inj h)
theorem cD_length (L : List Dg) : (cD L).length = L.length * 32 := by
  induction L with
  | nil => rfl
  | cons d L ih => simp only [cD, List.flatMap_cons, List.length_append, List.length_cons, B8_length, d.2] at ih ⊢; omega
theorem cD_append (L M : List Dg) : cD (L ++ M) = cD L ++ cD M := by simp [cD]
theorem cD_cons (d : Dg) (L : List Dg) : cD (d :: L) = B8 d.1 ++ cD L := rfl
theorem cD_drop : ∀ (L : List Dg) (k : Nat), cD (L.drop k) = (cD L).drop (k * 32)
  | L, 0 => by simp
  | [], k + 1 => by simp [cD]
  | d :: L, k + 1 => by
    rw [List.drop_succ_cons, cD_drop L k, cD_cons, show (k + 1) * 32 = 32 + k * 32 by omega, ← List.drop_drop]
    congr 1
    rw [List.drop_append_of_le_length (by rw [B8_length, d.2]; omega), List.drop_of_length_le (by rw [B8_length, d.2]; omega), List.nil_append]
theorem cD_take : ∀ (L : List Dg) (k : Nat), cD (L.take k) = (cD L).take (k * 32)
  | L, 0 => by simp [cD]
  | [], k + 1 => by simp [cD]
  | d :: L, k + 1 => by
    rw [List.take_succ_cons, cD_cons, cD_take L k, cD_cons, show (k + 1) * 32 = 32 + k * 32 by omega, List.take_append, B8_length, d.2, Nat.add_sub_cancel_left]
    congr 1
    rw [List.take_of_length_le (by rw [B8_length, d.2]; omega)]
theorem cD_oneCell (L : List Dg) : ∀ v ∈ cD L, v.oneCell' = true := fun v hv => by
  obtain ⟨d, _, hd⟩ := List.mem_flatMap.1 hv
  exact B8_oneCell d.1 v hd
theorem cD_get (L : List Dg) (j : Nat) (hj : j < L.length) (i : Nat) (u : Value) (h : (B8 L[j].1)[i]? = some u) : (cD L)[j * 32 + i]? = some u := by
  have hi : i < 32 := by
    rcases Nat.lt_or_ge i 32 with h1 | h1
    · exact h1
    · rw [List.getElem?_eq_none (by rw [B8_length, L[j].2]; exact h1)] at h; cases h
  rw [← List.getElem?_drop, ← cD_drop, List.drop_eq_getElem_cons hj, cD_cons, List.getElem?_append_left (by rw [B8_length, L[j].2]; exact hi)]
  exact h

/-- A slice of digests reads as L. -/
def RD (w : World) (A : Option Addr) (L : List Dg) : Prop := Reads w 32 A L.length (cD L)
def OwnD (w : World) (B : Nat) (A : Option Addr) (c : Nat) (L : List Dg) : Prop := w.ownsRow B 23 32 (.slice A L.length c) L.length (cD L)
section
variable {w w' : World} {A : Option Addr} {L : List Dg} {B c : Nat}
theorem RD.nil (w : World) (A : Option Addr) : RD w A [] := ⟨rfl, fun h => absurd rfl h⟩
theorem RD.below (h : RD w A L) (hb : Below w.heap.size w w') : RD w' A L := Reads.below h hb
theorem RD.drew (h : RD w A L) : RD w.drew A L := h
theorem RD.grown {row : Option Nat} (h : RD w A L) (hg : w.grownBy w' row) (hne : blk A = none ∨ blk A ≠ row) : RD w' A L := Reads.grown h hg hne
theorem RD.cut (h : RD w A L) {k c : Nat} (hk : k ≤ L.length) (hc : L.length ≤ c) : RD w (cutA A c 32 k) (L.drop k) := by
  unfold RD
  rw [cD_drop]
  exact Reads.cutn h hk hc (by rw [List.length_drop])
theorem RD.take (h : RD w A L) {k : Nat} (hk : k ≤ L.length) : RD w A (L.take k) := by
  unfold RD
  rw [cD_take, List.length_take, Nat.min_eq_left hk]
  exact Reads.taken h hk
theorem RD.at_ (h : RD w A L) (hn : L ≠ []) : ∃ b o, A = some ⟨b, o, none⟩ ∧ ∀ j (hj : j < L.length) i u, (B8 L[j].1)[i]? = some u → w.cell? ((⟨b, o + j * 32, none⟩ : Addr).add i) = some u := by
  have hl : 0 < L.length := List.length_pos_iff.2 hn
  obtain ⟨b, o, rfl, hc⟩ := h.2 (by intro e; have := congrArg List.length e; rw [cD_length] at this; simp at this; omega)
  exact ⟨b, o, rfl, fun j hj i u hu => by rw [add_plain, Nat.add_assoc]; exact hc _ u (cD_get L j hj i u hu)⟩
theorem OwnD.nil (w : World) (B : Nat) : OwnD w B none 0 [] := World.ownsRow_nil _ _ _ _
theorem OwnD.rd (h : OwnD w B A c L) : RD w A L := Reads.of_own h
theorem OwnD.drew (h : OwnD w B A c L) : OwnD w.drew B A c L := World.ownsRow.drew h
theorem OwnD.lt (h : OwnD w B A c L) : ∀ k, blk A = some k → B ≤ k ∧ k < w.heap.size := fun k hk => World.ownsRow.lt h k (by rw [blk_own]; exact hk)
theorem OwnD.kept (h : OwnD w B A c L) {row : Option Nat} (hg : w.grownBy w' row) (hne : blk A = none ∨ blk A ≠ row) : OwnD w' B A c L := World.ownsRow.kept h hg (by rw [blk_own]; exact hne)
theorem OwnD.below (h : OwnD w B A c L) (hb : Below w.heap.size w w') : OwnD w' B A c L :=
  h.kept (row := none) ⟨hb.os, hb.tape, hb.output, hb.size, fun k hk _ => hb.block k hk⟩ (by cases blk A <;> simp)
theorem OwnD.base (h : OwnD w B A c L) {B' : Nat} (hB : B' ≤ B) : OwnD w B' A c L := by
  refine ⟨h.1, ?_⟩
  rcases h.2 with h1 | ⟨g, cap, cur, h2, h3, h4⟩
  · exact .inl h1
  · exact .inr ⟨g, cap, cur, h2, by omega, h4⟩
theorem OwnD.cap (h : OwnD w B A c L) : L.length ≤ c := by
  rcases h.2 with ⟨h1, h2⟩ | ⟨g, cap, cur, h2, h3, h4, h5, _⟩
  · injection h1 with _ _ h3; omega
  · injection h2 with _ _ h6; omega
end
def z32 : List Value := List.replicate 32 (.int .u8 0)
theorem Try.rowD : RowT Try.prog 45 23 (.agg z32.toArray) 32 32 := ⟨Try.underlying45, by kernel_rfl, rfl, by omega⟩
theorem Try.digest_eq : Try.prog.eqGuardType Try.prog.depth 23 = false := by kernel_rfl

section
variable {fn : Func} {F : Ending → World → Prop} {N : Nat} {ks : List K} {ops : Array Oper} {tg : Tags} {l : List Oper} {fr : Fr} {w : World} {ty t t' : TypeId} {pos : String} {aft : Array Edge} {gd : Option (Nat × Bool)} {d g : Nat} {x y k : Operand}
theorem o_loadD {ad : Addr} {q : Dg} (hx : fr.ev x = some (.pointer (some ad))) (hc : ∀ i u, (B8 q.1)[i]? = some u → w.cell? (ad.add i) = some u) : OpV Try.prog N fr w (.load 23 x) ty (vD q) w :=
  o_loadn (cs := B8 q.1) Try.isAgg23 (by rw [B8_length, q.2]; exact Try.sizeOf23) hx hc
theorem o_loadDb {q : Dg} {cs : List Value} (hx : fr.ev x = some (.pointer (some ⟨g, 0, none⟩))) (hB : Blk w g t' cs) (hc : cs = B8 q.1) : OpV Try.prog N fr w (.load 23 x) ty (vD q) w := by
  subst hc
  exact o_load_all Try.isAgg23 Try.sizeOf23 hx hB (by rw [B8_length, q.2])
theorem o_deq {p q : Dg} (hx : fr.ev x = some (vD p)) (hy : fr.ev y = some (vD q)) : OpV Try.prog N fr w (.binOp .eql 23 x y t') ty (.bool (decide (p = q))) w := by
  have h := o_aeq (P := Try.prog) (N := N) (w := w) (ty := ty) (t' := t') Try.underlying23 Try.underlying5 Try.sizeOf5 Try.digest_eq hx hy p.2 q.2
  have e : decide (p.1 = q.1) = decide (p = q) := by rw [Bool.eq_iff_iff]; simp [Subtype.ext_iff]
  rwa [e] at h
theorem o_dne {p q : Dg} (hx : fr.ev x = some (vD p)) (hy : fr.ev y = some (vD q)) : OpV Try.prog N fr w (.binOp .neq 23 x y t') ty (.bool (decide (p ≠ q))) w := by
  have h := o_ane (P := Try.prog) (N := N) (w := w) (ty := ty) (t' := t') Try.underlying23 Try.underlying5 Try.sizeOf5 Try.digest_eq hx hy p.2 q.2
  have e : decide (p.1 ≠ q.1) = decide (p ≠ q) := by rw [Bool.eq_iff_iff]; simp [Subtype.ext_iff]
  rwa [e] at h
theorem wl_appD {B : Nat} {A X : Option Addr} {n c j q : Nat} {L M : List Dg} (hx : fr.ev x = some (.slice A n c)) (hn : n = L.length) (hown : OwnD w B A c L) (hy : fr.ev y = some (.slice X j q)) (hj : j = M.length) (hr : RD w X M)
    (hlen : L.length + M.length ≤ 4000000) (hB : B ≤ w.heap.size)
    (h : ∀ A' c' w', OwnD w' B A' c' (L ++ M) → w.grownBy w' (blk A) → (blk A' = blk A ∨ blk A' = some w.heap.size) → Below B w w' → WL Try.prog fn F N ks ops tg.tail l ((d, .slice A' (L ++ M).length c') :: fr) w')
    (ht : tg.loud = true := by rfl) (hg : onG ops fr gd = true := by rfl) (hd : Nat.blt d N = true := by rfl) (hq : tg.calm = false ∨ blk A = none ∨ blk A = tg.row := by exact .inl rfl) :
    WL Try.prog fn F N ks ops tg (⟨some d, .call { callee := .builtin .append, args := #[x, y], argTypes := #[45, 45] }, ty, pos, aft, gd⟩ :: l) fr w := by
  subst hn; subst hj
  refine wl_appn Try.rowD hx hown hy hr (cD_oneCell M) (by simp only [maxLen]; omega) (by omega) hB (fun A' c' w' h1 h2 h3 h4 => ?_) ht hg hd hq
  have := h A' c' w' (by unfold OwnD; rw [cD_append, List.length_append]; exact h1) h2 h3 h4
  rwa [List.length_append] at this
/-- The literal of some digests. -/
theorem wl_litD (L : List Dg) {xs : List Operand} (n : Nat) (hx : fr.evs xs = some (L.map vD)) (hn : L.length = n) (hm : Nat.ble (n * 32) 1000000 = true)
    (hk : ∀ w', (∀ B, B ≤ w.heap.size → OwnD w' B (some ⟨w.heap.size, 0, none⟩) n L) → Below w.heap.size w w' → w'.heap.size = w.heap.size + 1 → WL Try.prog fn F N ks ops tg.tail l ((d, .slice (some ⟨w.heap.size, 0, none⟩) n n) :: fr) w')
    (ht : tg.loud = true := by rfl) (hg : onG ops fr gd = true := by rfl) (hd : Nat.blt d N = true := by rfl) : WL Try.prog fn F N ks ops tg (⟨some d, .buildSlice 45 n ((List.range' 0 n).zip xs).toArray, ty, pos, aft, gd⟩ :: l) fr w := by
  subst hn
  refine wl_litn Try.rowD Try.sizeOf23 Try.zeroValue23 L.length hx (by simp) (fun v hv => ?_) hm (fun w' h1 h2 h3 => hk w' (fun B hB => ?_) h2 h3) ht hg hd
  · obtain ⟨d, _, rfl⟩ := List.mem_map.1 hv
    show (B8 d.1).toArray.size = 32
    rw [List.size_toArray, B8_length, d.2]
  · have h4 := h1 B hB
    have e : (L.map vD).flatMap (fun v => v.cells.toList) = cD L := by
      clear h1 h4 hk hm hx
      induction L with
      | nil => rfl
      | cons d L ih => rw [List.map_cons, List.flatMap_cons, ih]; rfl
    rwa [e] at h4
end
end Go.Proofs.Ytpjedpmbninfcaa
/-
  Rows of digests in the form that the recorder's search applies. No function of the program is named here.
-/
namespace Go.Proofs.Ytpjedpmbninfcaa
open Go.RowKit
section
variable {w w' : World} {lo hi c n : Nat} {e' : TypeId} {A : Option Addr} {L : List Dg} {row : Option Nat}
theorem RD.u (h : RD w A L) (hb : Below w.heap.size w w') : RD w' A L := h.below hb
theorem RD.d (h : RD w A L) : RD w.drew A L := h
theorem RD.nil_ : RD w none [] := RD.nil w none
def OwnDH (w : World) (lo hi : Nat) (A : Option Addr) (c : Nat) (L : List Dg) : Prop := RowH w lo hi 23 32 A L.length c (cD L)
theorem OwnDH.u (h : OwnDH w lo hi A c L) (hb : Below w.heap.size w w') : OwnDH w' lo hi A c L := RowH.u h hb
theorem OwnDH.d (h : OwnDH w lo hi A c L) : OwnDH w.drew lo hi A c L := RowH.d h
theorem OwnDH.k (h : OwnDH w lo hi A c L) (hg : w.grownBy w' row) (ha : Ap row lo hi) : OwnDH w' lo hi A c L := RowH.k h hg ha
theorem OwnDH.y (h : OwnDH w lo hi A c L) (hg : Grew w w' e' row) (hne : e' ≠ 23) : OwnDH w' lo hi A c L := RowH.y h hg hne
theorem OwnDH.m {b : Nat} (h : OwnDH w lo hi A c L) (hg : GrewM w w' b) : OwnDH w' lo hi A c L := RowH.m h hg
theorem OwnDH.ap (h : OwnDH w lo hi A c L) {lo' hi' : Nat} (hd : hi ≤ lo' ∨ hi' ≤ lo) : Ap (blk A) lo' hi' := RowH.ap h hd
theorem OwnDH.cap (h : OwnDH w lo hi A c L) : L.length ≤ c := RowH.cap h
theorem OwnDH.to_RD (h : OwnDH w lo hi A c L) : RD w A L := RowH.rd h
theorem OwnDH.to_Reads (h : OwnDH w lo hi A c L) : Reads w 32 A L.length (cD L) := RowH.rd h
theorem RD.to_Reads (h : RD w A L) : Reads w 32 A L.length (cD L) := h
theorem OwnDH.to_OwnD (h : OwnDH w lo hi A c L) : OwnD w lo A c L := h.o
theorem OwnDH.base (h : OwnDH w lo hi A c L) {lo' hi' : Nat} (h1 : lo' ≤ lo) (h2 : hi ≤ hi') : OwnDH w lo' hi' A c L := RowH.base h h1 h2
theorem OwnDH.nil_ : OwnDH w lo hi none 0 [] := RowH.nil _ _ _ _ _
theorem OwnD.h_ (h : OwnD w lo A c L) : OwnDH w lo w.heap.size A c L := ⟨h, fun k hk => (OwnD.lt h k hk).2⟩
end
section
variable {fn : Func} {F : Ending → World → Prop} {N : Nat} {ks : List K} {ops : Array Oper} {tg : Tags} {l : List Oper} {fr : Fr} {w : World} {ty t t' : TypeId} {pos : String} {aft : Array Edge} {gd : Option (Nat × Bool)} {d g n c j q lo hi : Nat} {x y k : Operand} {A X : Option Addr}
--@ rule load r o_loadDR
--@ rule load r o_loadDg
theorem o_loadDg {q : Dg} (hx : fr.ev x = some (.pointer (some ⟨g, 0, none⟩))) (hB : Blk w g t' (B8 q.1)) : OpV Try.prog N fr w (.load 23 x) ty (vD q) w := o_loadDb hx hB rfl
theorem o_loadDR {L : List Dg} (hx : fr.ev x = some (.pointer (some (adr A (j * 32))))) (hr : RD w A L) (hj : j < L.length) : OpV Try.prog N fr w (.load 23 x) ty (vD L[j]) w := by
  obtain ⟨b, o, rfl, hc⟩ := hr.at_ (by intro e; rw [e] at hj; simp at hj)
  refine o_loadD hx (fun i u hu => ?_)
  have := hc j hj i u hu
  simp only [adr, Option.getD_some, add_plain] at this ⊢
  exact this
/-! Parts of slices: what is known of the part. -/
--@ rule slice l wl_slhiD
--@ rule slice l wl_slloD
theorem wl_slhiD {L : List Dg} {len cap : Nat} (hi : Nat) {kh : IntKind} {h : Int} (hx : fr.ev x = some (.slice A len cap)) (hz : fr.ev y = some (.int kh h)) (hr : RD w A L) (hlen : len = L.length) (hh : h = (hi : Int)) (h2 : hi ≤ len) (h3 : len ≤ cap)
    (hk : RD w A (L.take hi) → WL Try.prog fn F N ks ops tg.tail l ((d, .slice A hi cap) :: fr) w) (hg : onG ops fr gd = true := by rfl) (hd : Nat.blt d N = true := by rfl) :
    WL Try.prog fn F N ks ops tg (⟨some d, .slice 45 x none (some y) none, ty, pos, aft, gd⟩ :: l) fr w :=
  wl_p (fun _ => o_slice_hi Try.underlying45 Try.sizeOf23 hx hz hh (by omega)) (hk (hr.take (by omega))) hg hd
theorem wl_slloD {L : List Dg} {len cap : Nat} (lo : Nat) {kl : IntKind} {h : Int} (hx : fr.ev x = some (.slice A len cap)) (hz : fr.ev y = some (.int kl h)) (hr : RD w A L) (hlen : len = L.length) (hh : h = (lo : Int)) (h2 : lo ≤ len) (h3 : len ≤ cap)
    (hk : ∀ A', RD w A' (L.drop lo) → WL Try.prog fn F N ks ops tg.tail l ((d, .slice A' (len - lo) (cap - lo)) :: fr) w) (hg : onG ops fr gd = true := by rfl) (hd : Nat.blt d N = true := by rfl) :
    WL Try.prog fn F N ks ops tg (⟨some d, .slice 45 x (some y) none none, ty, pos, aft, gd⟩ :: l) fr w :=
  wl_p (fun _ => o_slice_lo (lo := lo) Try.underlying45 Try.sizeOf23 hx hz hh h2) (hk _ (hr.cut (by omega) (by omega))) hg hd
--@ rule append l wl_appDH0
theorem wl_appDH0 {M : List Dg} (hx : fr.ev x = some (.slice A 0 0)) (hown : OwnDH w lo hi A 0 []) (hy : fr.ev y = some (.slice X j q)) (hr : RD w X M) (hj : j = M.length) (hlen : M.length ≤ 4000000) (hB : lo ≤ w.heap.size)
    (h : ∀ A' c' w', OwnDH w' lo w'.heap.size A' c' M → Below w.heap.size w w' → WL Try.prog fn F N ks ops tg.tail l ((d, .slice A' M.length c') :: fr) w')
    (ht : tg.loud = true := by rfl) (hg : onG ops fr gd = true := by rfl) (hd : Nat.blt d N = true := by rfl) :
    WL Try.prog fn F N ks ops tg (⟨some d, .call { callee := .builtin .append, args := #[x, y], argTypes := #[45, 45] }, ty, pos, aft, gd⟩ :: l) fr w := by
  subst hj
  exact wl_appR0 Try.rowD hx hown hy hr (cD_oneCell M) (by simp only [maxLen]; omega) (by omega) hB h ht hg hd
--@ rule append l wl_appDH
theorem wl_appDH {L M : List Dg} (hx : fr.ev x = some (.slice A n c)) (hown : OwnDH w lo hi A c L) (hn : n = L.length) (hy : fr.ev y = some (.slice X j q)) (hr : RD w X M) (hj : j = M.length) (hlen : L.length + M.length ≤ 4000000) (hB : lo ≤ w.heap.size)
    (h : ∀ A' c' w', OwnDH w' lo w'.heap.size A' c' (L ++ M) → Grew w w' 23 (blk A) → Below lo w w' → (blk A' = blk A ∨ blk A' = some w.heap.size) → WL Try.prog fn F N ks ops tg.tail l ((d, .slice A' (L ++ M).length c') :: fr) w')
    (ht : tg.loud = true := by rfl) (hg : onG ops fr gd = true := by rfl) (hd : Nat.blt d N = true := by rfl) (hq : tg.calm = false ∨ blk A = none ∨ blk A = tg.row := by exact .inl rfl) :
    WL Try.prog fn F N ks ops tg (⟨some d, .call { callee := .builtin .append, args := #[x, y], argTypes := #[45, 45] }, ty, pos, aft, gd⟩ :: l) fr w :=
  wl_appD hx hn hown.o hy hj hr hlen hB (fun A' c' w' h1 h2 h3 h4 => h A' c' w' h1.h_ ⟨h2, RowH.ty hown⟩ h4 h3) ht hg hd hq
--@ rule buildSlice l wl_litDH
theorem wl_litDH {ps : Array (Nat × Operand)} {xs : List Operand} {vs : List Value} (L : List Dg) (hxs : ps.toList.map Prod.snd = xs) (hx : fr.evs xs = some vs) (hv : vs = L.map vD) (hn : L.length = n) (hps : ps = ((List.range' 0 n).zip xs).toArray) (hm : Nat.ble (n * 32) 1000000 = true)
    (hk : ∀ A w', OwnDH w' w.heap.size w'.heap.size A n L → Below w.heap.size w w' → WL Try.prog fn F N ks ops tg.tail l ((d, .slice A n n) :: fr) w')
    (ht : tg.loud = true := by rfl) (hg : onG ops fr gd = true := by rfl) (hd : Nat.blt d N = true := by rfl) : WL Try.prog fn F N ks ops tg (⟨some d, .buildSlice 45 n ps, ty, pos, aft, gd⟩ :: l) fr w := by
  subst hps; subst hv; subst hn
  exact wl_litD L L.length hx rfl hm (fun w' h1 h2 _ => hk _ w' (h1 _ (Nat.le_refl _)).h_ h2) ht hg hd
end
/-! Slices of digests as arguments. -/
def gDgs : GoT (List Dg) := GoT.slice 23 (gArr 32)
theorem cD_of_parts : ∀ (L : List Dg) (xs : List Value), xs.length = L.length * 32 → (∀ i (h : i < L.length), part xs 32 i = B8 L[i].1) → xs = cD L
  | [], xs, hl, _ => List.eq_nil_of_length_eq_zero (by simpa using hl)
  | d :: L, xs, hl, h => by
    have h0 := h 0 (by simp)
    have hd : xs.drop 32 = cD L := cD_of_parts L (xs.drop 32) (by rw [List.length_drop, hl, List.length_cons]; omega) (fun i hi => by
      have := h (i + 1) (by simp; omega)
      simp only [List.getElem_cons_succ] at this
      rw [← this]
      unfold part
      rw [List.drop_drop]
      congr 2
      omega)
    rw [cD_cons, ← hd, show B8 d.1 = xs.take 32 by rw [← show part xs 32 0 = B8 d.1 from h0]; simp [part], List.take_append_drop]
theorem gDgs_open {w : World} {cs : List Value} {L : List Dg} (h : gDgs.R w cs L) : ∃ A c, cs = [.slice A L.length c] ∧ RD w A L ∧ L.length ≤ c := by
  obtain ⟨A, c, xs, rfl, h1, _, h3, h4⟩ := h
  have e := cD_of_parts L xs h3.1 h4
  subst e
  exact ⟨A, c, rfl, h3, h1⟩
theorem opens_Digest : Opens Try.prog 23 (gArr 32) := opens_arr8 Try.underlying23 Try.underlying5 (by kernel_rfl) (by kernel_rfl)
theorem opens_Digests : Opens Try.prog 45 gDgs := opens_slice Try.underlying45 (by kernel_rfl) (by decide) opens_Digest
end Go.Proofs.Ytpjedpmbninfcaa
/-
  Plain law of truncated records; lists of ends and of chains; rows of records whose bytes lie where they lay.
-/
namespace Go.Proofs.Ytpjedpmbninfcaa
open Go.RowKit
/-- Bytes that lie as they lay at w0. -/
def gBytesAt (w0 : World) : GoT By where
  sz := 1
  tys := []
  R _ cs l := ∃ A c, cs = [.slice A l.length c] ∧ Rd w0 A l ∧ l.length ≤ c ∧ c ≤ maxLen
  T _ cs l := ∃ A c, cs = [.slice A l.length c] ∧ Rd w0 A l ∧ l.length ≤ c ∧ c ≤ maxLen
  len h := by obtain ⟨A, c, rfl, _⟩ := h; rfl
  u h _ := h
  tr h := h
  tu h _ := h
  ty h _ _ := h
  tm h _ := h
def gRecW (w0 : World) : GoT Rc := ((gInt .u8).pair (gBytesAt w0)).map (fun p => (UInt8.ofNat p.1.toNat, p.2))
theorem gRecW_T {w0 w : World} {cs : List Value} {r : Rc} (h : (gRecW w0).T w cs r) : ∃ A c, cs = [.int .u8 (r.1.toNat : Int), .slice A r.2.length c] ∧ Rd w0 A r.2 ∧ r.2.length ≤ c ∧ c ≤ maxLen := by
  obtain ⟨⟨x, p⟩, rfl, c1, c2, rfl, ⟨rfl, hx⟩, A, c, rfl, h2, h3, h4⟩ := h
  refine ⟨A, c, ?_, h2, h3, h4⟩
  have hb := bounds_u8 hx
  have e : ((UInt8.ofNat x.toNat).toNat : Int) = x := by
    have hn : x.toNat < 256 := by simp only at hb; omega
    rw [UInt8.toNat_ofNat_of_lt' hn]; simp only at hb; omega
  show _ = [Value.int .u8 ((UInt8.ofNat x.toNat).toNat : Int), _]
  rw [e]; rfl
theorem gRecW_one (w0 w : World) (cs : List Value) (r : Rc) (h : (gRecW w0).T w cs r) : ∀ u ∈ cs, u.oneCell' = true := by
  obtain ⟨A, c, rfl, _⟩ := gRecW_T h
  intro u hu
  simp only [List.mem_cons, List.not_mem_nil, or_false] at hu
  rcases hu with rfl | rfl <;> rfl
theorem gRecW_mk {w0 w : World} {k : UInt8} {p : By} {A : Option Addr} {c : Nat} (h : Rd w0 A p) (h1 : p.length ≤ c) (h2 : c ≤ maxLen) : (gRecW w0).T w [.int .u8 (k.toNat : Int), .slice A p.length c] (k, p) := by
  have hk := k.toNat_lt
  refine ⟨((k.toNat : Int), p), by simp, [_], _, rfl, ⟨rfl, ?_⟩, A, c, rfl, h, h1, h2⟩
  simp only [Lit.wf, Bool.and_eq_true, decide_eq_true_eq]
  exact ⟨by show (0 : Int) ≤ _; omega, by show _ ≤ (255 : Int); omega⟩
theorem gRecW_R {w0 w : World} (hb : Below w0.heap.size w0 w) {cs : List Value} {r : Rc} (h : (gRecW w0).T w cs r) : gRec.R w cs r := by
  obtain ⟨⟨x, p⟩, rfl, c1, c2, rfl, hx, A, c, rfl, h2, h3, h4⟩ := h
  exact ⟨⟨x, p⟩, rfl, c1, _, rfl, hx, A, c, rfl, h2.u hb, h3, h4⟩
/-- A row of records of the call's own; their bytes lie where they lay at w0. -/
def OwnRecW (w w0 : World) (lo hi : Nat) (A : Option Addr) (c : Nat) (L : List Rc) : Prop := OwnS (gRecW w0) 31 w lo hi A c L
def RRecWT (w w0 : World) (A : Option Addr) (L : List Rc) : Prop := RSlT (gRecW w0) 31 w A L
section
variable {w0 w w' : World} {lo hi c : Nat} {A : Option Addr} {L : List Rc}
theorem OwnRecW.u (h : OwnRecW w w0 lo hi A c L) (hb : Below w.heap.size w w') : OwnRecW w' w0 lo hi A c L := OwnS.u h hb
theorem OwnRecW.d (h : OwnRecW w w0 lo hi A c L) : OwnRecW w.drew w0 lo hi A c L := OwnS.d h
theorem OwnRecW.y {e' : TypeId} {row : Option Nat} (h : OwnRecW w w0 lo hi A c L) (hg : Grew w w' e' row) (hne : e' ∉ [31]) : OwnRecW w' w0 lo hi A c L := OwnS.y h hg hne
theorem OwnRecW.q {e' : TypeId} {row : Option Nat} (h : OwnRecW w w0 lo hi A c L) (hg : Grew w w' e' row) (ha : Ap row lo hi) (hne : e' ∉ []) : OwnRecW w' w0 lo hi A c L := OwnS.q h hg ha hne
theorem OwnRecW.ap {lo' hi' : Nat} (h : OwnRecW w w0 lo hi A c L) (hd : hi ≤ lo' ∨ hi' ≤ lo) : Ap (blk A) lo' hi' := OwnS.ap h hd
theorem OwnRecW.cap (h : OwnRecW w w0 lo hi A c L) : L.length ≤ c := OwnS.cap h
theorem OwnRecW.nil_ : OwnRecW w w0 lo hi none 0 [] := OwnS.nil_
theorem OwnRecW.base {lo' hi' : Nat} (h : OwnRecW w w0 lo hi A c L) (h1 : lo' ≤ lo) (h2 : hi ≤ hi') : OwnRecW w w0 lo' hi' A c L := OwnS.base h h1 h2
theorem OwnRecW.to_RRecWT (h : OwnRecW w w0 lo hi A c L) : RRecWT w w0 A L := OwnS.to_RSlT h
theorem OwnRecW.rd (h : OwnRecW w w0 lo hi A c L) (hb : Below w0.heap.size w0 w) : RRec w A L := by
  obtain ⟨xs, h1, h2⟩ := h
  exact ⟨xs, RowH.rd h1, fun i hi => gRecW_R hb (h2 i hi)⟩
theorem RRecWT.u (h : RRecWT w w0 A L) (hb : Below w.heap.size w w') : RRecWT w' w0 A L := RSlT.u h hb
theorem RRecWT.d (h : RRecWT w w0 A L) : RRecWT w.drew w0 A L := RSlT.d h
theorem OwnZ.base {zs : List Int} {lo' hi' : Nat} (h : OwnZ w lo hi A c zs) (h1 : lo' ≤ lo) (h2 : hi ≤ hi') : OwnZ w lo' hi' A c zs := RowH.base h h1 h2
end
section
variable {fn : Func} {F : Ending → World → Prop} {N : Nat} {ks : List K} {ops : Array Oper} {tg : Tags} {l : List Oper} {fr : Fr} {w w0 : World} {ty : TypeId} {pos : String} {aft : Array Edge} {gd : Option (Nat × Bool)} {d n j q c lo hi : Nat} {x y : Operand} {A B : Option Addr} {L M : List Rc}
--@ rule buildSlice l wl_litRecW
theorem wl_litRecW {ps : Array (Nat × Operand)} {xs : List Operand} {A1 : Option Addr} {n1 c1 : Nat} {k1 : UInt8} {p1 : By} (hxs : ps.toList.map Prod.snd = xs) (hx : fr.evs xs = some [.agg #[.int .u8 (k1.toNat : Int), .slice A1 n1 c1]]) (h1 : Rd w0 A1 p1) (hn1 : n1 = p1.length) (hc1 : p1.length ≤ c1) (hm1 : c1 ≤ maxLen) (hps : ps = ((List.range' 0 1).zip xs).toArray)
    (hk : ∀ A w', OwnRecW w' w0 w.heap.size w'.heap.size A 1 [(k1, p1)] → Below w.heap.size w w' → WL Try.prog fn F N ks ops tg.tail l ((d, .slice A 1 1) :: fr) w')
    (ht : tg.loud = true := by rfl) (hg : onG ops fr gd = true := by rfl) (hd : Nat.blt d N = true := by rfl) : WL Try.prog fn F N ks ops tg (⟨some d, .buildSlice 42 1 ps, ty, pos, aft, gd⟩ :: l) fr w := by
  subst hn1
  refine wl_litS (X := gRecW w0) (L := [(k1, p1)]) Try.rowRec Try.sizeOf31 Try.zeroValue31 hxs hps hx rfl rfl (fun i h => ?_) rfl hk ht hg hd
  obtain rfl : i = 0 := by simp at h; omega
  exact ⟨_, rfl, rfl, gRecW_mk h1 hc1 hm1⟩
--@ rule append l wl_appRecW
theorem wl_appRecW (hx : fr.ev x = some (.slice A n c)) (hown : OwnRecW w w0 lo hi A c L) (hn : n = L.length) (hy : fr.ev y = some (.slice B j q)) (hr : RRecWT w w0 B M) (hj : j = M.length) (hlen : L.length + M.length ≤ 1000000) (hB : lo ≤ w.heap.size)
    (h : ∀ A' c' w', OwnRecW w' w0 lo w'.heap.size A' c' (L ++ M) → Grew w w' 31 (blk A) → Below lo w w' → WL Try.prog fn F N ks ops tg.tail l ((d, .slice A' (L ++ M).length c') :: fr) w')
    (ht : tg.loud = true := by rfl) (hg : onG ops fr gd = true := by rfl) (hd : Nat.blt d N = true := by rfl) (hq : tg.calm = false ∨ blk A = none ∨ blk A = tg.row := by exact .inl rfl) :
    WL Try.prog fn F N ks ops tg (⟨some d, .call { callee := .builtin .append, args := #[x, y], argTypes := #[42, 42] }, ty, pos, aft, gd⟩ :: l) fr w :=
  wl_appS (X := gRecW w0) Try.rowRec hx hown hn hy hr hj (by simp [gRecW, GoT.map, GoT.pair, gInt, GoT.flat, gBytesAt]) (gRecW_one w0) (by have := Nat.mul_le_mul_right 32 hlen; omega) (by omega) hB (fun A' c' w' h1 h2 h3 _ => h A' c' w' h1 h2 h3) ht hg hd hq
end
section
variable {fn : Func} {F : Ending → World → Prop} {N : Nat} {ks : List K} {ops : Array Oper} {tg : Tags} {l : List Oper} {fr : Fr} {w : World} {ty : TypeId} {pos : String} {aft : Array Edge} {gd : Option (Nat × Bool)} {d : Nat} {e : By}
--@ rule buildSlice l wl_litD1
theorem wl_litD1 {ps : Array (Nat × Operand)} {xs : List Operand} (hxs : ps.toList.map Prod.snd = xs) (hx : fr.evs xs = some [.agg (B8 e).toArray]) (he : e.length = 32) (hps : ps = ((List.range' 0 1).zip xs).toArray)
    (hk : ∀ A w', OwnDH w' w.heap.size w'.heap.size A 1 [⟨e, he⟩] → Below w.heap.size w w' → WL Try.prog fn F N ks ops tg.tail l ((d, .slice A 1 1) :: fr) w')
    (ht : tg.loud = true := by rfl) (hg : onG ops fr gd = true := by rfl) (hd : Nat.blt d N = true := by rfl) : WL Try.prog fn F N ks ops tg (⟨some d, .buildSlice 45 1 ps, ty, pos, aft, gd⟩ :: l) fr w :=
  wl_litDH [⟨e, he⟩] hxs hx rfl rfl hps rfl hk ht hg hd
end
/-! Ends and chains. -/
def endsR (c : By) (G : List Rc) : List Int := (List.range (G.length + 1)).map fun k => ((bytesAll c (G.take k)).length : Int)
def chainsR (c : By) (hc : c.length = 32) (G : List Rc) : List Dg := (List.range (G.length + 1)).map fun k => ⟨chainAll c (G.take k), chainAll_len hc _⟩
theorem endsR_len (c : By) (G : List Rc) : (endsR c G).length = G.length + 1 := by simp [endsR]
theorem chainsR_len (c : By) (hc : c.length = 32) (G : List Rc) : (chainsR c hc G).length = G.length + 1 := by simp [chainsR]
theorem endsR_get (c : By) (G : List Rc) {k : Nat} (h : k < (endsR c G).length) : (endsR c G)[k] = ((bytesAll c (G.take k)).length : Int) := by simp [endsR]
theorem chainsR_get (c : By) (hc : c.length = 32) (G : List Rc) {k : Nat} (h : k < (chainsR c hc G).length) : (chainsR c hc G)[k] = ⟨chainAll c (G.take k), chainAll_len hc _⟩ := by simp [chainsR]
theorem endsR_snoc (c : By) (G : List Rc) (r : Rc) : endsR c (G ++ [r]) = endsR c G ++ [((bytesAll c (G ++ [r])).length : Int)] := by
  unfold endsR
  rw [List.length_append, List.length_singleton, List.range_succ, List.map_append]
  congr 1
  · refine List.map_congr_left fun k hk => ?_
    rw [List.take_append_of_le_length (by rw [List.mem_range] at hk; omega)]
  · rw [List.map_singleton, List.take_of_length_le (by simp)]
theorem chainsR_snoc (c : By) (hc : c.length = 32) (G : List Rc) (r : Rc) : chainsR c hc (G ++ [r]) = chainsR c hc G ++ [⟨chainAll c (G ++ [r]), chainAll_len hc _⟩] := by
  unfold chainsR
  rw [List.length_append, List.length_singleton, List.range_succ, List.map_append]
  congr 1
  · refine List.map_congr_left fun k hk => Subtype.ext ?_
    show chainAll c _ = chainAll c _
    rw [List.take_append_of_le_length (by rw [List.mem_range] at hk; omega)]
  · rw [List.map_singleton, List.cons.injEq]
    exact ⟨Subtype.ext (by show chainAll c _ = chainAll c _; rw [List.take_of_length_le (by simp)]), rfl⟩
/-- What is truncated: the records that are complete. -/
theorem AllP.cut {c : By} {G : List Rc} (hG : ∀ r ∈ G, OkR r) {cut k : Nat} (hk : k ≤ G.length) (h1 : (bytesAll c (G.take k)).length ≤ cut) (h2 : k = G.length ∧ cut ≤ (bytesAll c G).length ∨ k < G.length ∧ cut < (bytesAll c (G.take (k + 1))).length) :
    AllP c ((bytesAll c G).take cut) (G.take k) := by
  have e1 : bytesAll c G = bytesAll c (G.take k) ++ bytesAll (chainAll c (G.take k)) (G.drop k) := by rw [← bytesAll_append, List.take_append_drop]
  refine ⟨(bytesAll (chainAll c (G.take k)) (G.drop k)).take (cut - (bytesAll c (G.take k)).length), ?_, fun r hr => hG r (List.mem_of_mem_take hr), ?_⟩
  · rw [e1, List.take_append, List.take_of_length_le h1]
  · rcases h2 with ⟨rfl, h2⟩ | ⟨h2, h3⟩
    · rw [List.drop_length, bytesAll, List.take_nil, readR_nil]; simp
    · rw [List.drop_eq_getElem_cons h2, bytesAll]
      rw [List.take_succ_eq_append_getElem h2, bytesAll_append, List.length_append, bytesAll, bytesAll, List.append_nil] at h3
      obtain ⟨d, hd⟩ : ∃ d, chainAll c (G.take k) = d := ⟨_, rfl⟩
      obtain ⟨m, hm⟩ : ∃ m, cut - (bytesAll c (G.take k)).length = m := ⟨_, rfl⟩
      rw [hd] at h3 ⊢
      rw [hm]
      have hml : m < (bytesR d G[k]).length := by omega
      rw [List.take_append_of_le_length (by omega)]
      refine readR_short (r := G[k]) (q := (bytesR d G[k]).drop m) (hG _ (List.getElem_mem h2)) (List.take_append_drop _ _) (fun e => ?_)
      have := congrArg List.length e
      rw [List.length_drop, List.length_nil] at this
      omega
end Go.Proofs.Ytpjedpmbninfcaa
