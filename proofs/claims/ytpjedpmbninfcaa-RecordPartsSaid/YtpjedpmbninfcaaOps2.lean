/-
  Rules for operations on slices, strings, structs, pointers. No function of the program is named here.
-/
import Derived.Test.YtpjedpmbninfcaaOps
import Derived.LaidEqlPtr
namespace Go.Proofs.Ytpjedpmbninfcaa
open Go.RowKit

section
variable {P : Program} {N : Nat} {fr : Fr} {w w' : World} {ty : TypeId} {x y z : Operand} {k k' : IntKind} {m n : Int} {A : Option Addr} {b o len cap : Nat}

theorem o_builtin {f : Builtin} {xs : List Operand} {ts : Array TypeId} {vs : List Value} {v : Value} (hx : fr.evs xs = some vs) (hr : (builtin f ts ty #[] vs.toArray).run P w = .ok (.value v) w') (hc : f ≠ .print ∧ f ≠ .println) :
    OpV P N fr w (.call { callee := .builtin f, args := xs.toArray, argTypes := ts }) ty v w' := fun a ha o ho ht => by
  have hargs : Array.map a.eval xs.toArray = vs.toArray := by rw [List.map_toArray, ha.evs hx]
  obtain ⟨h1, h2⟩ := hc
  simp only [execOp, ho, resolve, invoke, hargs, Sem.run_bind, Sem.run_pure, Result.andThen_ok, ht]
  cases f <;> first | exact absurd rfl h1 | exact absurd rfl h2 | exact hr
theorem o_min {ts : Array TypeId} (hx : fr.ev x = some (.int k m)) (hy : fr.ev y = some (.int k n)) : OpV P N fr w (.call { callee := .builtin .min, args := #[x, y], argTypes := ts }) ty (.int k (min m n)) w :=
  o_builtin (xs := [x, y]) (vs := [.int k m, .int k n]) (by simp [Fr.evs, hx, hy]) (by
    simp [builtin, Builtin.min_, Builtin.min2]
    rw [Int.min_def]
    by_cases h : n < m
    · rw [if_pos h, if_neg (by omega)]
    · rw [if_neg h, if_pos (by omega)]) (by simp)
theorem o_max {ts : Array TypeId} (hx : fr.ev x = some (.int k m)) (hy : fr.ev y = some (.int k n)) : OpV P N fr w (.call { callee := .builtin .max, args := #[x, y], argTypes := ts }) ty (.int k (max m n)) w :=
  o_builtin (xs := [x, y]) (vs := [.int k m, .int k n]) (by simp [Fr.evs, hx, hy]) (by
    simp [builtin, Builtin.max_, Builtin.max2]
    rw [Int.max_def]
    by_cases h : n > m
    · rw [if_pos h, if_pos (by omega)]
    · rw [if_neg h]
      by_cases h2 : m ≤ n
      · rw [if_pos h2]; omega
      · rw [if_neg h2]) (by simp)
theorem o_len {t e : TypeId} (hu : P.underlying t = some (.slice e)) (hx : fr.ev x = some (.slice A len cap)) : OpV P N fr w (.call { callee := .builtin .len, args := #[x], argTypes := #[t] }) ty (.int .i64 len) w :=
  o_builtin (xs := [x]) (vs := [.slice A len cap]) (by simp [Fr.evs, hx]) (by simp [builtin, Builtin.len_, run_underlying hu]; rfl) (by simp)
theorem o_lens {t : TypeId} {s : ByteArray} (hu : P.underlying t = some .string) (hx : fr.ev x = some (.string s)) : OpV P N fr w (.call { callee := .builtin .len, args := #[x], argTypes := #[t] }) ty (.int .i64 s.size) w :=
  o_builtin (xs := [x]) (vs := [.string s]) (by simp [Fr.evs, hx]) (by simp [builtin, Builtin.len_, run_underlying hu]; rfl) (by simp)

theorem o_extract {vs : Array Value} {i : Nat} {v : Value} (hx : fr.ev x = some (.tuple vs)) (hi : vs[i]? = some v) : OpV P N fr w (.extract x i) ty v w := fun a ha o ho _ => by
  simp [execOp, ho, ha.ev hx, Instr.extract, hi]
section
variable {u0 u1 u2 : Value}
theorem o_ext20 (hx : fr.ev x = some (.tuple #[u0, u1])) : OpV P N fr w (.extract x 0) ty u0 w := o_extract hx rfl
theorem o_ext21 (hx : fr.ev x = some (.tuple #[u0, u1])) : OpV P N fr w (.extract x 1) ty u1 w := o_extract hx rfl
theorem o_ext30 (hx : fr.ev x = some (.tuple #[u0, u1, u2])) : OpV P N fr w (.extract x 0) ty u0 w := o_extract hx rfl
theorem o_ext31 (hx : fr.ev x = some (.tuple #[u0, u1, u2])) : OpV P N fr w (.extract x 1) ty u1 w := o_extract hx rfl
theorem o_ext32 (hx : fr.ev x = some (.tuple #[u0, u1, u2])) : OpV P N fr w (.extract x 2) ty u2 w := o_extract hx rfl
end
theorem o_nil {ad : Addr} (hx : fr.ev x = some (.pointer (some ad))) : OpV P N fr w (.nilCheck x) ty (.pointer (some ad)) w := fun a ha o ho _ => by
  simp [execOp, ho, ha.ev hx]

/-! Conversions. -/
theorem o_convi {src dst : TypeId} {d : TypeDesc} (hs : P.underlying src = some d) (hd : P.underlying dst = some (.int k')) (hx : fr.ev x = some (.int k n)) : OpV P N fr w (.convert src dst x) ty (.int k' (k'.wrap n)) w := fun a ha o ho _ => by
  simp [execOp, ho, ha.ev hx, convert, run_underlying hs, run_underlying hd, Conv.intToInt]
theorem o_convi64 {src dst : TypeId} {d : TypeDesc} (hs : P.underlying src = some d) (hd : P.underlying dst = some (.int .i64)) (hx : fr.ev x = some (.int k n)) (h1 : -9223372036854775808 ≤ n) (h2 : n ≤ 9223372036854775807) : OpV P N fr w (.convert src dst x) ty (.int .i64 n) w := o_asi (o_convi hs hd hx) (i64_in h1 h2)
theorem o_convu64 {src dst : TypeId} {d : TypeDesc} (hs : P.underlying src = some d) (hd : P.underlying dst = some (.int .u64)) (hx : fr.ev x = some (.int k n)) (h1 : 0 ≤ n) (h2 : n ≤ 18446744073709551615) : OpV P N fr w (.convert src dst x) ty (.int .u64 n) w := o_asi (o_convi hs hd hx) (u64_in h1 h2)
theorem o_str {src e dst : TypeId} {l : List UInt8} (hs : P.underlying src = some (.slice e)) (he : P.underlying e = some (.int .u8)) (hd : P.underlying dst = some .string) (hx : fr.ev x = some (.slice A len cap)) (hn : len = l.length) (hr : Rd w A l) :
    OpV P N fr w (.convert src dst x) ty (.string ⟨l.toArray⟩) w := fun a ha o ho _ => by
  subst hn
  simp [execOp, ho, ha.ev hx, run_string hr hs he hd]

/-! Strings, bools, pointers. -/
section
variable {t t' : TypeId} {s u : List UInt8} {p q : Bool}
theorem o_seq (hx : fr.ev x = some (.string ⟨s.toArray⟩)) (hy : fr.ev y = some (.string ⟨u.toArray⟩)) : OpV P N fr w (.binOp .eql t x y t') ty (.bool (decide (s = u))) w :=
  o_bin hx hy (fun _ _ => by simp [go_sem]) (by
    have : (binOp .eql t (.string ⟨s.toArray⟩) (.string ⟨u.toArray⟩)).run P w = .ok (.bool (s == u)) w := by simp [go_sem]
    rw [this]; congr 2; rw [Bool.eq_iff_iff]; simp)
theorem o_sne (hx : fr.ev x = some (.string ⟨s.toArray⟩)) (hy : fr.ev y = some (.string ⟨u.toArray⟩)) : OpV P N fr w (.binOp .neq t x y t') ty (.bool (decide (s ≠ u))) w :=
  o_bin hx hy (fun _ _ => by simp [go_sem]) (by
    have : (binOp .neq t (.string ⟨s.toArray⟩) (.string ⟨u.toArray⟩)).run P w = .ok (.bool (!(s == u))) w := by simp [go_sem]
    rw [this]; congr 2; rw [Bool.eq_iff_iff]; simp)
theorem o_slt (hx : fr.ev x = some (.string ⟨s.toArray⟩)) (hy : fr.ev y = some (.string ⟨u.toArray⟩)) : OpV P N fr w (.binOp .lss t x y t') ty (.bool (Op.bytesLess s u)) w :=
  o_bin hx hy (fun _ _ => by simp [go_sem]) (by simp [go_sem])
theorem o_beq (hu : P.underlying t = some .bool) (hx : fr.ev x = some (.bool p)) (hy : fr.ev y = some (.bool q)) : OpV P N fr w (.binOp .eql t x y t') ty (.bool (p == q)) w :=
  o_bin hx hy (fun _ _ => by simp [go_sem]) (run_eql_bool w t p q hu)
theorem o_bne (hu : P.underlying t = some .bool) (hx : fr.ev x = some (.bool p)) (hy : fr.ev y = some (.bool q)) : OpV P N fr w (.binOp .neq t x y t') ty (.bool (p != q)) w :=
  o_bin hx hy (fun _ _ => by simp [go_sem]) (by simp only [binOp]; simp [run_equal_bool w t p q hu]; cases p <;> cases q <;> rfl)
theorem run_equal_ptr_nil {e : TypeId} (hu : P.underlying t = some (.pointer e)) (ad : Option Addr) : (Op.equal t (.pointer ad) (.pointer none)).run P w = .ok ad.isNone w := by
  have h : ∀ d : Nat, (Op.equalIn (d + 1) t (.pointer ad) (.pointer none)).run P w = .ok ad.isNone w := fun d => by
    cases ad <;> simp [Op.equalIn, run_underlying hu]
  exact h 9999
theorem run_equal_ptr_same {e sz : Nat} (hu : P.underlying t = some (.pointer e)) (hs : ∀ w, (sizeOf e).run P w = .ok sz w) (ad : Addr) : (Op.equal t (.pointer (some ad)) (.pointer (some ad))).run P w = .ok true w := by
  have h : ∀ d : Nat, (Op.equalIn (d + 1) t (.pointer (some ad)) (.pointer (some ad))).run P w = .ok true w := fun d => by
    simp [Op.equalIn, run_underlying hu, hs, sameAddr]
  exact h 9999
theorem o_peq_nil {e : TypeId} {ad : Option Addr} (hu : P.underlying t = some (.pointer e)) (hx : fr.ev x = some (.pointer ad)) (hy : fr.ev y = some (.pointer none)) : OpV P N fr w (.binOp .eql t x y t') ty (.bool ad.isNone) w :=
  o_bin hx hy (fun _ _ => by simp [go_sem]) (by simp only [binOp]; simp [run_equal_ptr_nil hu])
theorem o_pne_nil {e : TypeId} {ad : Option Addr} (hu : P.underlying t = some (.pointer e)) (hx : fr.ev x = some (.pointer ad)) (hy : fr.ev y = some (.pointer none)) : OpV P N fr w (.binOp .neq t x y t') ty (.bool ad.isSome) w :=
  o_bin hx hy (fun _ _ => by simp [go_sem]) (by simp only [binOp]; simp [run_equal_ptr_nil hu])
theorem o_peq_same {e sz : Nat} {ad : Addr} (hu : P.underlying t = some (.pointer e)) (hs : ∀ w, (sizeOf e).run P w = .ok sz w) (hx : fr.ev x = some (.pointer (some ad))) (hy : fr.ev y = some (.pointer (some ad))) :
    OpV P N fr w (.binOp .eql t x y t') ty (.bool true) w :=
  o_bin hx hy (fun _ _ => by simp [go_sem]) (by
    simp only [binOp]
    simp [run_equal_ptr_same hu hs])
end

/-! Fields and cells. -/
theorem o_faddr {s : TypeId} {fs : Array Field} {f : Field} {i off sz : Nat} (hu : P.underlying s = some (.struct fs)) (hf : fs[i]? = some f) (hs : ∀ w, (sizeOf f.type).run P w = .ok sz w) (hz : Nat.blt 0 sz = true) (ho : f.offset = off)
    (hx : fr.ev x = some (.pointer (some ⟨b, o, none⟩))) : OpV P N fr w (.fieldAddr s x i) ty (.pointer (some ⟨b, o + off, none⟩)) w := fun a ha op hop _ => by
  have hz' : sz ≠ 0 := by
    have : 0 < sz := by simpa using hz
    omega
  subst ho
  simp [execOp, hop, ha.ev hx, Instr.fieldAt, run_underlying hu, hf, Instr.sureAddr, fieldPlace, hs, hz', add_plain]
theorem o_load {t : TypeId} {ad : Addr} {v : Value} (ha' : ∀ w, (isAgg t).run P w = .ok false w) (hx : fr.ev x = some (.pointer (some ad))) (hc : w.cell? ad = some v) : OpV P N fr w (.load t x) ty v w := fun a ha o ho _ => by
  simp [execOp, ho, ha.ev hx, Instr.loadAt, Instr.sureAddr, loadVar, ha', load, Sem.run, hc]
theorem o_loadn {t : TypeId} {ad : Addr} {cs : List Value} (ha' : ∀ w, (isAgg t).run P w = .ok true w) (hs : ∀ w, (sizeOf t).run P w = .ok cs.length w) (hx : fr.ev x = some (.pointer (some ad))) (hc : ∀ j v, cs[j]? = some v → w.cell? (ad.add j) = some v) :
    OpV P N fr w (.load t x) ty (.agg cs.toArray) w := fun a ha o ho _ => by
  simp [execOp, ho, ha.ev hx, Instr.loadAt, Instr.sureAddr, loadVar, ha', hs, run_loadCells_list (P := P) w ad cs hc]
theorem o_store {t : TypeId} {ad : Addr} {v u : Value} (hs : ∀ w, (sizeOf t).run P w = .ok 1 w) (hx : fr.ev x = some (.pointer (some ad))) (hy : fr.ev y = some v) (h1 : v.oneCell' = true) (hc : w.cell? ad = some u) (hf : w.frozen? ad = false) :
    OpU P N fr w (.store t x y) (w.setCell ad v) := fun a ha o ho => by
  have hcs : v.cells = #[v] := by cases v <;> first | rfl | cases h1
  have hst := run_store P w ad v .plain h1
  have ha0 : ad.add 0 = ad := by simp [Addr.add]
  simp [execOp, ho, ha.ev hx, ha.ev hy, Instr.storeAt, Instr.sureAddr, storeVar, hcs, hs, storeCells, ha0, hst, hc, hf]

/-! Slices. -/
theorem o_iaddr {t e : TypeId} {sz j : Nat} (hu : P.underlying t = some (.slice e)) (hs : ∀ w, (sizeOf e).run P w = .ok sz w) (hx : fr.ev x = some (.slice (some ⟨b, o, none⟩) len cap)) (hy : fr.ev y = some (.int k n)) (hn : n = (j : Int)) (hj : j < len) :
    OpV P N fr w (.indexAddr t x y) ty (.pointer (some ⟨b, o + j * sz, none⟩)) w := fun a ha op hop _ => by
  subst hn
  have h2 : ¬ len ≤ j := by omega
  simp [execOp, hop, ha.ev hx, ha.ev hy, Instr.indexAt, run_underlying hu, asIntOf, hs, add_plain]
  intro h; exact absurd h h2
theorem o_iaddr1 {t e : TypeId} {j : Nat} (hu : P.underlying t = some (.slice e)) (hs : ∀ w, (sizeOf e).run P w = .ok 1 w) (hx : fr.ev x = some (.slice (some ⟨b, o, none⟩) len cap)) (hy : fr.ev y = some (.int k n)) (hn : n = (j : Int)) (hj : j < len) :
    OpV P N fr w (.indexAddr t x y) ty (.pointer (some ⟨b, o + j, none⟩)) w := o_as (o_iaddr hu hs hx hy hn hj) (by rw [Nat.mul_one])

/-- The address of x[k:], x of capacity c, elements of sz cells. -/
def cutA (A : Option Addr) (c sz k : Nat) : Option Addr := if c = k then A else A.map (·.add (k * sz))
theorem o_slice {t e : TypeId} {sz lo hi : Nat} {kl kh : IntKind} {l h : Int} (hu : P.underlying t = some (.slice e)) (hs : ∀ w, (sizeOf e).run P w = .ok sz w) (hx : fr.ev x = some (.slice A len cap)) (hy : fr.ev y = some (.int kl l)) (hz : fr.ev z = some (.int kh h))
    (hl : l = (lo : Int)) (hh : h = (hi : Int)) (h1 : lo ≤ hi) (h2 : hi ≤ cap) : OpV P N fr w (.slice t x (some y) (some z) none) ty (.slice (cutA A cap sz lo) (hi - lo) (cap - lo)) w := fun a ha op hop _ => by
  subst hl; subst hh
  simp [execOp, hop, ha.ev hx, ha.ev hy, ha.ev hz, Instr.sliceAt, Instr.slice, Instr.sliceBounds, Instr.sliceBound, run_underlying hu, asIntOf, hs, h1, h2, cutA]
theorem o_slice_lo {t e : TypeId} {sz lo : Nat} {kl : IntKind} {l : Int} (hu : P.underlying t = some (.slice e)) (hs : ∀ w, (sizeOf e).run P w = .ok sz w) (hx : fr.ev x = some (.slice A len cap)) (hy : fr.ev y = some (.int kl l))
    (hl : l = (lo : Int)) (h1 : lo ≤ len) : OpV P N fr w (.slice t x (some y) none none) ty (.slice (cutA A cap sz lo) (len - lo) (cap - lo)) w := fun a ha op hop _ => by
  subst hl
  simp [execOp, hop, ha.ev hx, ha.ev hy, Instr.sliceAt, Instr.slice, Instr.sliceBounds, Instr.sliceBound, run_underlying hu, asIntOf, hs, h1, cutA]
theorem o_slice_hi {t e : TypeId} {sz hi : Nat} {kh : IntKind} {h : Int} (hu : P.underlying t = some (.slice e)) (hs : ∀ w, (sizeOf e).run P w = .ok sz w) (hx : fr.ev x = some (.slice A len cap)) (hz : fr.ev z = some (.int kh h))
    (hh : h = (hi : Int)) (h2 : hi ≤ cap) : OpV P N fr w (.slice t x none (some z) none) ty (.slice A hi cap) w := fun a ha op hop _ => by
  subst hh
  simp [execOp, hop, ha.ev hx, ha.ev hz, Instr.sliceAt, Instr.slice, Instr.sliceBounds, Instr.sliceBound, run_underlying hu, asIntOf, hs, h2]
  intro _
  cases A with
  | none => rfl
  | some ad => simp [Addr.add]

/-! New memory. -/
theorem o_box {e : TypeId} {v : Value} (hx : fr.ev x = some v) : OpV P N fr w (.box e x) ty (.pointer (some ⟨w.heap.size, 0, none⟩)) (w.alloc (.cells v.cells e)) := fun a ha o ho _ => by
  simp [execOp, ho, ha.ev hx, Instr.box, newVar, newRow, newObj, Sem.run]
theorem o_build {t : TypeId} {is : List Nat} {xs : List Operand} {vs : List Value} {v : Value} (hx : fr.evs xs = some vs) (hr : ∀ w, (Instr.build t (is.zip vs).toArray).run P w = .ok v w) : OpV P N fr w (.build t (is.zip xs).toArray) ty v w := fun a ha o ho _ => by
  have h : Array.map (fun p : Nat × Operand => (p.1, a.eval p.2)) (is.zip xs).toArray = (is.zip vs).toArray := by
    rw [List.map_toArray, ← ha.evs hx, List.zip_map_right]
    rfl
  simp only [execOp, ho]
  show ((do pure (.value (← Instr.build t (Array.map (fun p : Nat × Operand => (p.1, a.eval p.2)) (is.zip xs).toArray))) : Sem Next)).run P w = _
  rw [h]
  simp [hr]
theorem o_lit {t : TypeId} {len : Nat} {is : List Nat} {xs : List Operand} {vs : List Value} {v : Value} (hx : fr.evs xs = some vs) (hr : (Instr.buildSlice t len (is.zip vs).toArray).run P w = .ok v w') : OpV P N fr w (.buildSlice t len (is.zip xs).toArray) ty v w' := fun a ha o ho _ => by
  have h : Array.map (fun p : Nat × Operand => (p.1, a.eval p.2)) (is.zip xs).toArray = (is.zip vs).toArray := by
    rw [List.map_toArray, ← ha.evs hx, List.zip_map_right]
    rfl
  simp only [execOp, ho]
  show ((do pure (.value (← Instr.buildSlice t len (Array.map (fun p : Nat × Operand => (p.1, a.eval p.2)) (is.zip xs).toArray))) : Sem Next)).run P w = _
  rw [h]
  simp [hr]
end

/-! append, make on bytes, at the list of operations. -/
section
variable {P : Program} {fn : Func} {F : Ending → World → Prop} {N : Nat} {ks : List K} {ops : Array Oper} {tg : Tags} {l : List Oper} {fr : Fr} {w : World} {ty t : TypeId} {pos : String} {aft : Array Edge} {g : Option (Nat × Bool)} {d : Nat} {x y : Operand}
theorem wl_app (T : U8 P t) {B : Nat} {A X : Option Addr} {n c j k : Nat} {s m : List UInt8} (hx : fr.ev x = some (.slice A n c)) (hn : n = s.length) (hown : Own w B A c s) (hy : fr.ev y = some (.slice X j k)) (hj : j = m.length) (hr : Rd w X m)
    (hlen : s.length + m.length ≤ 140737488355328) (hB : B ≤ w.heap.size)
    (h : ∀ A' c' w', Own w' B A' c' (s ++ m) → w.grownBy w' (blk A) → (blk A' = blk A ∨ blk A' = some w.heap.size) → Below B w w' → WL P fn F N ks ops tg.tail l ((d, .slice A' (s ++ m).length c') :: fr) w')
    (ht : tg.loud = true := by rfl) (hg : onG ops fr g = true := by rfl) (hd : Nat.blt d N = true := by rfl) (hq : tg.calm = false ∨ blk A = none ∨ blk A = tg.row := by exact .inl rfl) :
    WL P fn F N ks ops tg (⟨some d, .call { callee := .builtin .append, args := #[x, y], argTypes := #[t, t] }, ty, pos, aft, g⟩ :: l) fr w := by
  subst hn; subst hj
  obtain ⟨A', c', w', hrun, h1, h2, h3, h4⟩ := run_app (P := P) w T (ty := ty) hown (k := k) hr hlen hB
  exact wl_v (o_builtin (xs := [x, y]) (vs := [.slice A s.length c, .slice X m.length k]) (by simp [Fr.evs, hx, hy]) (by simp [builtin, hrun]) (by simp)) (h A' c' w' h1 h2 h3 h4) ht hg hd (hq.imp id fun e => e.elim (fun e => grown_wide (e ▸ h2) _) (fun e => e ▸ h2))
theorem wl_make0 (T : U8 P t) {kl kc : IntKind} {C : Int} {n : Nat} (hx : fr.ev x = some (.int kl 0)) (hy : fr.ev y = some (.int kc C)) (hC : C = (n : Int)) (hn : n ≤ 281474976710656)
    (h : ∀ w', Own w' w.heap.size (some ⟨w.heap.size, 0, none⟩) n [] → Below w.heap.size w w' → w.heap.size < w'.heap.size → WL P fn F N ks ops tg.tail l ((d, .slice (some ⟨w.heap.size, 0, none⟩) 0 n) :: fr) w')
    (ht : tg.loud = true := by rfl) (hg : onG ops fr g = true := by rfl) (hd : Nat.blt d N = true := by rfl) :
    WL P fn F N ks ops tg (⟨some d, .makeSlice t x y, ty, pos, aft, g⟩ :: l) fr w := by
  subst hC
  obtain ⟨i, hi, hz, hs, hb⟩ := info_parts T.hi
  obtain ⟨w', hrun, r1, r2⟩ := run_make_own (P := P) w w.heap.size t 5 i _ 1 T.ht hi hz hs kl kc n (by rw [hb]; omega) (by simp only [maxLen]; omega) (Nat.le_refl _)
  have hlt := World.ownsRow.lt r1 w.heap.size rfl
  exact wl_v (fun a ha o ho _ => by simp [execOp, ho, ha.ev hx, ha.ev hy, hrun]) (h w' r1 ((Below.refl _ _).grown r2 (Nat.le_refl _) (by simp)) hlt.2) ht hg hd (.inr (grown_of_below ((Below.refl _ _).grown r2 (Nat.le_refl _) (by simp)) _))
end

end Go.Proofs.Ytpjedpmbninfcaa
