/-
  Plain lemmas on memory that all texts of this seat share: slices that read as lists, rows of the call's own, blocks known whole. No function of the program is named here.
-/
import Derived.Test.YtpjedpmbninfcaaRows
import Derived.WalkKit
import Derived.WalkSpells
import Derived.WalkLawsBesides
import Derived.Lib.Hide
import Derived.Laws.OwnMore
import Derived.Laws.AppendOwnNone
import Derived.Laws.BytesString
import Derived.Laws.BytesArg
import Derived.Maps.AppendAt
import Derived.Deep.AppendLies
import Derived.Deep.Draws
import Derived.RegionTactic
import Derived.OwnWalk
import Derived.Below
namespace Go.Proofs.Ytpjedpmbninfcaa
open Go.RowKit

/-- A goal at which the walk stands still. -/
def Stop (p : Prop) : Prop := p
theorem stop {p : Prop} (h : Stop p) : p := h
theorem go_on {p : Prop} (h : p) : Stop p := h

theorem block_of_add (a : Addr) (n : Nat) : (a.add n).block = a.block := by unfold Addr.add; split <;> rfl
theorem add_of_add (a : Addr) (i j : Nat) : (a.add i).add j = a.add (i + j) := by
  unfold Addr.add
  by_cases hi : i = 0 <;> by_cases hj : j = 0 <;> simp [hi, hj, Nat.add_assoc]
theorem add_plain (b o j : Nat) : (⟨b, o, none⟩ : Addr).add j = ⟨b, o + j, none⟩ := by unfold Addr.add; split <;> simp_all

/-- The slice value '.slice A n c' holds the cells xs ('size' cells an element). -/
def Reads (w : World) (size : Nat) (A : Option Addr) (n : Nat) (xs : List Value) : Prop :=
  xs.length = n * size ∧ (xs ≠ [] → ∃ b o, A = some ⟨b, o, none⟩ ∧ ∀ j u, xs[j]? = some u → w.cell? ⟨b, o + j, none⟩ = some u)

section
variable {w w' : World} {B size n : Nat} {A : Option Addr} {xs : List Value}
theorem Reads.none_ (w : World) (size : Nat) (A : Option Addr) : Reads w size A 0 [] := ⟨by simp, fun h => absurd rfl h⟩
theorem Reads.len (h : Reads w size A n xs) : xs.length = n * size := h.1
theorem Reads.keep (h : Reads w size A n xs) (hk : ∀ p : Addr, p.block < w.heap.size → w'.cell? p = w.cell? p) : Reads w' size A n xs :=
  ⟨h.1, fun hn => by
    obtain ⟨b, o, e, hc⟩ := h.2 hn
    exact ⟨b, o, e, fun j u hu => (hk _ (block_lt_of_cell (hc j u hu))).trans (hc j u hu)⟩⟩
theorem Reads.below (h : Reads w size A n xs) (hb : Below w.heap.size w w') : Reads w' size A n xs := h.keep fun _ hp => hb.cell hp
theorem Reads.drew (h : Reads w size A n xs) : Reads w.drew size A n xs := h
theorem Reads.drewN (h : Reads w size A n xs) (k : Nat) : Reads (w.drewN k) size A n xs := h
theorem Reads.alloc (h : Reads w size A n xs) (o : Obj) : Reads (w.alloc o) size A n xs := h.keep fun p hp => World.cell?_alloc_lt w o p hp
theorem Reads.add (h : Reads w size A n xs) : xs ≠ [] → ∃ ad, A = some ad ∧ ∀ j u, xs[j]? = some u → w.cell? (ad.add j) = some u := fun hn => by
  obtain ⟨b, o, rfl, hc⟩ := h.2 hn
  exact ⟨_, rfl, fun j u hu => by rw [add_plain]; exact hc j u hu⟩
theorem Reads.of_own {base : Nat} {e : TypeId} {c : Nat} (h : w.ownsRow base e size (.slice A n c) n xs) : Reads w size A n xs := by
  refine ⟨h.1, fun hn => ?_⟩
  rcases h.2 with ⟨hv, h0⟩ | ⟨g, cap, cur, hv, _, _, _, _, _, _⟩
  · subst h0; exact absurd (List.eq_nil_of_length_eq_zero (by simpa using h.1)) hn
  · have hA : A = some ⟨g, 0, none⟩ := by injection hv
    subst hA
    refine ⟨g, 0, rfl, fun j u hu => ?_⟩
    rw [← add_plain]
    exact h.cells (g := g) rfl j u hu
theorem Reads.cut (h : Reads w 1 A n xs) {k m cap : Nat} (hk : k ≤ n) (hc : n ≤ cap) (hm : m = n - k) :
    Reads w 1 (if cap = k then A else A.map (·.add k)) m (xs.drop k) := by
  subst hm
  have hl := h.1
  refine ⟨by rw [List.length_drop, hl]; omega, fun hn => ?_⟩
  have hkn : k < xs.length := by
    rcases Nat.lt_or_ge k xs.length with h1 | h1
    · exact h1
    · exact absurd (List.drop_eq_nil_of_le h1) hn
  obtain ⟨b, o, rfl, hcell⟩ := h.2 (by intro e; rw [e] at hkn; simp at hkn)
  rw [if_neg (by omega)]
  refine ⟨b, o + k, by simp [add_plain], fun j u hu => ?_⟩
  rw [Nat.add_assoc]
  exact hcell _ u (by rw [← hu, List.getElem?_drop])
theorem Reads.take (h : Reads w 1 A n xs) {k : Nat} (hk : k ≤ n) : Reads w 1 A k (xs.take k) := by
  have hl := h.1
  refine ⟨by rw [List.length_take]; omega, fun hn => ?_⟩
  obtain ⟨b, o, rfl, hcell⟩ := h.2 (by intro e; simp [e] at hn)
  refine ⟨b, o, rfl, fun j u hu => hcell _ u ?_⟩
  rw [List.getElem?_take] at hu
  split at hu
  · exact hu
  · cases hu
end

/-! Bytes. -/
def B8 (l : List UInt8) : List Value := l.map fun c => .int .u8 (c.toNat : Int)
theorem B8_length (l : List UInt8) : (B8 l).length = l.length := by simp [B8]
theorem B8_append (l m : List UInt8) : B8 (l ++ m) = B8 l ++ B8 m := by simp [B8]
theorem B8_nil : B8 [] = [] := rfl
theorem B8_one (c : UInt8) : B8 [c] = [.int .u8 (c.toNat : Int)] := rfl
theorem B8_take (l : List UInt8) (k : Nat) : (B8 l).take k = B8 (l.take k) := by simp [B8, List.map_take]
theorem B8_drop (l : List UInt8) (k : Nat) : (B8 l).drop k = B8 (l.drop k) := by simp [B8, List.map_drop]
theorem B8_get (l : List UInt8) (j : Nat) (h : j < l.length) : (B8 l)[j]? = some (.int .u8 (l[j].toNat : Int)) := by simp [B8, h]
theorem B8_ne {l : List UInt8} (h : l ≠ []) : B8 l ≠ [] := by simpa [B8] using h
theorem B8_oneCell (l : List UInt8) : ∀ u ∈ B8 l, u.oneCell' = true := by
  intro u hu
  obtain ⟨c, _, rfl⟩ := List.mem_map.1 hu
  rfl

/-- The slice '.slice A l.length c' reads as the bytes l. -/
def Rd (w : World) (A : Option Addr) (l : List UInt8) : Prop := Reads w 1 A l.length (B8 l)
section
variable {w w' : World} {A : Option Addr} {l : List UInt8}
theorem Rd.nil (w : World) (A : Option Addr) : Rd w A [] := Reads.none_ w 1 A
theorem Rd.below (h : Rd w A l) (hb : Below w.heap.size w w') : Rd w' A l := Reads.below h hb
theorem Rd.drew (h : Rd w A l) : Rd w.drew A l := h
theorem Rd.drewN (h : Rd w A l) (k : Nat) : Rd (w.drewN k) A l := h
theorem Rd.alloc (h : Rd w A l) (o : Obj) : Rd (w.alloc o) A l := Reads.alloc h o
theorem Rd.at_ (h : Rd w A l) (hn : l ≠ []) : ∃ b o, A = some ⟨b, o, none⟩ ∧ b < w.heap.size ∧ ∀ j (hj : j < l.length), w.cell? ⟨b, o + j, none⟩ = some (.int .u8 (l[j].toNat : Int)) := by
  obtain ⟨b, o, rfl, hc⟩ := h.2 (B8_ne hn)
  have hl : 0 < l.length := List.length_pos_iff.2 hn
  refine ⟨b, o, rfl, ?_, fun j hj => hc j _ (B8_get l j hj)⟩
  exact block_lt_of_cell (a := ⟨b, o + 0, none⟩) (hc 0 _ (B8_get l 0 hl))
theorem Rd.drop (h : Rd w A l) {k cap : Nat} (hk : k ≤ l.length) (hc : l.length ≤ cap) : Rd w (if cap = k then A else A.map (·.add k)) (l.drop k) := by
  have := Reads.cut h hk hc rfl
  unfold Rd
  rw [B8_drop] at this
  rwa [List.length_drop]
theorem Rd.take (h : Rd w A l) {k : Nat} (hk : k ≤ l.length) : Rd w A (l.take k) := by
  have := Reads.take h hk
  rw [B8_take] at this
  unfold Rd
  rwa [List.length_take, Nat.min_eq_left hk]
end

theorem toArray_inj {l m : List UInt8} : ((⟨l.toArray⟩ : ByteArray) = ⟨m.toArray⟩) ↔ l = m := by
  constructor
  · intro h; injection h with h; injection h
  · intro h; rw [h]
theorem strOfNums_bytes (l : List UInt8) : strOfNums (l.map fun c => (c.toNat : Int)) = ⟨l.toArray⟩ := by
  have h : ∀ l : List UInt8, List.map ((fun n : Int => UInt8.ofNat n.toNat) ∘ fun c : UInt8 => (c.toNat : Int)) l = l := by
    intro l
    induction l with
    | nil => rfl
    | cons c l ih => simp only [List.map_cons, ih, Function.comp, Int.toNat_natCast, UInt8.ofNat_toNat]
  simp [strOfNums, h]

/-- 'string(b)'. -/
theorem run_string {P : Program} {w : World} {A : Option Addr} {l : List UInt8} (h : Rd w A l) {src e dst : TypeId} (hs : P.underlying src = some (.slice e)) (he : P.underlying e = some (.int .u8))
    (hd : P.underlying dst = some .string) (c : Nat) : (convert src dst (.slice A l.length c)).run P w = .ok (.string ⟨l.toArray⟩) w := by
  by_cases hl : l = []
  · subst hl
    rcases A with _ | ad
    · exact run_convert_bytes_nil (P := P) w src e hs he 0 c dst hd
    · rw [run_convert_bytes_string w src dst e _ _ c hs he hd]
      exact run_bytesToString (P := P) w ad 0 c [] (run_loadCells_list (P := P) w ad [] (fun j v hj => by simp at hj))
  · obtain ⟨b, o, rfl, _, hc⟩ := h.at_ hl
    have := run_convert_bytes_arg (P := P) w src e hs he b o l.length c (l.map fun c => (c.toNat : Int)) (by simp) (fun i hi => by rw [hc i hi]; simp [hi]) dst hd
    rwa [strOfNums_bytes] at this

/-! Rows of the call's own. -/
def blk (A : Option Addr) : Option Nat := A.map (·.block)
theorem blk_own (A : Option Addr) (n c : Nat) : (Value.slice A n c).ownBlock = blk A := by cases A <;> rfl

def Own (w : World) (B : Nat) (A : Option Addr) (c : Nat) (l : List UInt8) : Prop := w.ownsRow B 5 1 (.slice A l.length c) l.length (B8 l)

section
variable {w w' : World} {B c : Nat} {A : Option Addr} {l : List UInt8}
theorem Own.nil (w : World) (B : Nat) : Own w B none 0 [] := World.ownsRow_nil _ _ _ _
theorem Own.rd (h : Own w B A c l) : Rd w A l := Reads.of_own h
theorem Own.alloc (h : Own w B A c l) (o : Obj) : Own (w.alloc o) B A c l := World.ownsRow.alloc h o
theorem Own.drew (h : Own w B A c l) : Own w.drew B A c l := World.ownsRow.drew h
theorem Own.lt (h : Own w B A c l) : ∀ k, blk A = some k → B ≤ k ∧ k < w.heap.size := fun k hk => World.ownsRow.lt h k (by rw [blk_own]; exact hk)
theorem Own.kept (h : Own w B A c l) {row : Option Nat} (hg : w.grownBy w' row) (hne : blk A = none ∨ blk A ≠ row) : Own w' B A c l :=
  World.ownsRow.kept h hg (by rw [blk_own]; exact hne)
theorem Own.below (h : Own w B A c l) (hb : Below w.heap.size w w') : Own w' B A c l :=
  h.kept (row := none) ⟨hb.os, hb.tape, hb.output, hb.size, fun k hk _ => hb.block k hk⟩ (by cases blk A <;> simp)
theorem Own.base (h : Own w B A c l) {B' : Nat} (hB : B' ≤ B) : Own w B' A c l := by
  refine ⟨h.1, ?_⟩
  rcases h.2 with h1 | ⟨g, cap, cur, h2, h3, h4⟩
  · exact .inl h1
  · exact .inr ⟨g, cap, cur, h2, by omega, h4⟩
end

structure U8 (P : Program) (t : TypeId) : Prop where
  ht : P.underlying t = some (.slice 5)
  hi : (P.info? 5).map (fun i => (i.zero, i.size, i.bytes)) = some (some (.int .u8 0), 1, 1)
  hu : P.underlying 5 = some (.int .u8)

section
variable {P : Program} (w : World)

theorem run_append_of_nil (base : Nat) (t ty e : TypeId) (i : TypeInfo) (size : Nat) (ht : P.underlying t = some (.slice e)) (hi : P.info? e = some i)
    (v : Value) (n : Nat) (xs : List Value) (hown : w.ownsRow base e size v n xs) (c : Nat) : (Builtin.append_ #[t, t] ty #[v, .slice none 0 c]).run P w = .ok v w := by
  rcases hown.2 with ⟨rfl, rfl⟩ | ⟨g, cap, cur, rfl, _, _, hnc, _⟩
  · simp [Builtin.append_, run_underlying ht, sizeOf, typeInfo, hi, Builtin.lenOf, Builtin.firstCells]
  · simp [Builtin.append_, run_underlying ht, sizeOf, typeInfo, hi, Builtin.lenOf, Builtin.firstCells, hnc, storeCells]

theorem run_append_any (base : Nat) (t ty e : TypeId) (i : TypeInfo) (z : Value) (size bytes : Nat) (ht : P.underlying t = some (.slice e)) (hi : P.info? e = some i) (hz : i.zero = some z)
    (hsize : i.size = size) (hby : i.bytes = bytes) (hzs : z.cells.size = size) (hsz : 0 < size)
    (v : Value) (n : Nat) (xs : List Value) (hown : w.ownsRow base e size v n xs)
    (A : Option Addr) (m c : Nat) (news : List Value) (hr : Reads w size A m news) (h1 : ∀ u ∈ news, u.oneCell' = true)
    (h63 : n + m ≤ maxLen) (hbytes : (n + m) * bytes ≤ 140737488355328) (hbase : base ≤ w.heap.size) :
    ∃ v' w', (Builtin.append_ #[t, t] ty #[v, .slice A m c]).run P w = .ok v' w' ∧ w'.ownsRow base e size v' (n + m) (xs ++ news) ∧ w.grownBy w' v.ownBlock ∧
      (v'.ownBlock = v.ownBlock ∨ v'.ownBlock = some w.heap.size) := by
  rcases A with _ | ad
  · have hn : news = [] := by
      refine Classical.byContradiction fun h => ?_
      obtain ⟨ad, h, _⟩ := hr.add h
      cases h
    subst hn
    have hm : m = 0 := by
      have h1 := hr.1
      rw [List.length_nil] at h1
      rcases Nat.mul_eq_zero.1 h1.symm with h2 | h2
      · exact h2
      · omega
    subst hm
    exact ⟨v, w, run_append_of_nil w base t ty e i size ht hi v n xs hown c, by simpa using hown, World.grownBy.refl w _, .inl rfl⟩
  · have hcells : ∀ j u, news[j]? = some u → w.cell? (ad.add j) = some u := by
      intro j u hu
      obtain ⟨ad', h, hc⟩ := hr.add (by intro e; rw [e] at hu; cases hu)
      injection h with h
      subst h
      exact hc j u hu
    obtain ⟨v', w', hrun, h2, h3, _, h5⟩ := run_append_own_at (P := P) w base t ty e i z size bytes ht hi hz hsize hby hzs hsz v n xs hown ad m c news hr.1 hcells h1 h63 hbytes hbase
    exact ⟨v', w', hrun, h2, h3, h5⟩

theorem ownsRow_shape {w : World} {base e size n : Nat} {v : Value} {xs : List Value} (h : w.ownsRow base e size v n xs) : ∃ A c, v = .slice A n c := by
  rcases h.2 with ⟨rfl, rfl⟩ | ⟨g, cap, cur, rfl, _⟩
  · exact ⟨_, _, rfl⟩
  · exact ⟨_, _, rfl⟩

/-- 'append(x, y...)' on bytes: x the call's own, y whatever reads. -/
theorem run_app {t ty : TypeId} (T : U8 P t) {B : Nat} {A : Option Addr} {c : Nat} {l : List UInt8} (hown : Own w B A c l) {X : Option Addr} {k : Nat} {m : List UInt8} (hr : Rd w X m)
    (hlen : l.length + m.length ≤ 140737488355328) (hB : B ≤ w.heap.size) :
    ∃ A' c' w', (Builtin.append_ #[t, t] ty #[.slice A l.length c, .slice X m.length k]).run P w = .ok (.slice A' (l ++ m).length c') w' ∧ Own w' B A' c' (l ++ m) ∧ w.grownBy w' (blk A) ∧
      (blk A' = blk A ∨ blk A' = some w.heap.size) ∧ Below B w w' := by
  obtain ⟨i, hi, hz, hs, hb⟩ := info_parts T.hi
  obtain ⟨v', w', h1, h2, h3, h4⟩ := run_append_any (P := P) w B t ty 5 i _ 1 1 T.ht hi hz hs hb rfl (by omega) (.slice A l.length c) l.length (B8 l) hown X m.length k (B8 m) hr (B8_oneCell m)
    (by simp only [maxLen]; omega) (by omega) hB
  obtain ⟨A', c', rfl⟩ := ownsRow_shape h2
  rw [blk_own] at h3 h4
  rw [blk_own] at h4
  refine ⟨A', c', w', by rw [h1, List.length_append], ?_, h3, h4, (Below.refl B w).grown h3 hB (fun k hk => (hown.lt k hk).1)⟩
  unfold Own
  rw [B8_append, List.length_append]
  exact h2
end

section
variable {P : Program} {w : World} {ops : Array Oper} {rest : List Oper} {o : Oper} {a : Act} {Q : Exit → Act → World → Prop}

theorem wpList_app {t : TypeId} (T : U8 P t) (hgd : o.guard = none) (s x : Operand) (ho : o.op = .call { callee := .builtin .append, args := #[s, x], argTypes := #[t, t] })
    {B : Nat} {A : Option Addr} {n c : Nat} {l : List UInt8} (hs : a.eval s = .slice A n c) (hn : n = l.length) (hown : Own w B A c l)
    {X : Option Addr} {j k : Nat} {m : List UInt8} (hx : a.eval x = .slice X j k) (hj : j = m.length) (hr : Rd w X m) (hlen : l.length + m.length ≤ 140737488355328) (hB : B ≤ w.heap.size)
    (h : ∀ A' c' w', Own w' B A' c' (l ++ m) → w.grownBy w' (blk A) → (blk A' = blk A ∨ blk A' = some w.heap.size) → Below B w w' → wpList P ops Q rest (a.put o.dst (.slice A' (l ++ m).length c')) w') :
    wpList P ops Q (o :: rest) a w := by
  subst hn; subst hj
  refine wpList_plain hgd fun K hK => ?_
  obtain ⟨A', c', w', hrun, h1, h2, h3, h4⟩ := run_app (P := P) w T (ty := o.type) hown (k := k) hr hlen hB
  unfold Oper.wp execOp
  simp only [ho, resolve, invoke, builtin, Sem.run_bind, Sem.run_pure, Result.andThen_ok, List.map_toArray, List.map_cons, List.map_nil, hs, hx, hrun]
  exact hK _ _ (h A' c' w' h1 h2 h3 h4)

theorem step_app {t : TypeId} (T : U8 P t) {K : Act → World → Prop} {E : Prop} (hgd : o.guard = none) (s x : Operand) (ho : o.op = .call { callee := .builtin .append, args := #[s, x], argTypes := #[t, t] })
    {B : Nat} {A : Option Addr} {n c : Nat} {l : List UInt8} (hs : a.eval s = .slice A n c) (hn : n = l.length) (hown : Own w B A c l)
    {X : Option Addr} {j k : Nat} {m : List UInt8} (hx : a.eval x = .slice X j k) (hj : j = m.length) (hr : Rd w X m) (hlen : l.length + m.length ≤ 140737488355328) (hB : B ≤ w.heap.size)
    (h : ∀ A' c' w', Own w' B A' c' (l ++ m) → w.grownBy w' (blk A) → (blk A' = blk A ∨ blk A' = some w.heap.size) → Below B w w' → K (a.put o.dst (.slice A' (l ++ m).length c')) w') :
    if Region.wanted o (yielded ops a.tmps) = true then Oper.wp P o a w K Q else E := by
  subst hn; subst hj
  have hw : Region.wanted o (yielded ops a.tmps) = true := by simp [Region.wanted, hgd]
  rw [if_pos hw]
  obtain ⟨A', c', w', hrun, h1, h2, h3, h4⟩ := run_app (P := P) w T (ty := o.type) hown (k := k) hr hlen hB
  unfold Oper.wp execOp
  simp only [ho, resolve, invoke, builtin, Sem.run_bind, Sem.run_pure, Result.andThen_ok, List.map_toArray, List.map_cons, List.map_nil, hs, hx, hrun]
  exact h A' c' w' h1 h2 h3 h4
end

/-- A new row of literal bytes. -/
theorem rd_lit (w : World) (l : List UInt8) (cs : Array Value) (h : cs = (B8 l).toArray) : Rd (w.alloc (.cells cs 5)) (some ⟨w.heap.size, 0, none⟩) l := by
  subst h
  refine ⟨by simp [B8], fun _ => ⟨w.heap.size, 0, rfl, fun j u hu => ?_⟩⟩
  have hg := heap_alloc_new w (.cells (B8 l).toArray 5)
  rw [cell_of_row _ _ _ _ _ _ hg]
  simpa using hu

theorem own_lit (w : World) {B : Nat} (hB : B ≤ w.heap.size) (l : List UInt8) (cs : Array Value) (h : cs = (B8 l).toArray) (hl : l.length ≤ maxLen) :
    Own (w.alloc (.cells cs 5)) B (some ⟨w.heap.size, 0, none⟩) l.length l := by
  subst h
  refine ⟨by simp [B8], .inr ⟨w.heap.size, l.length, (B8 l).toArray, rfl, hB, heap_alloc_new w _, Nat.le_refl _, hl, by simp [B8], ?_⟩⟩
  rw [Nat.mul_one, ← B8_length l]
  exact List.take_length

/-- An Int that is a byte. -/
theorem byte_of (v : Int) (h0 : 0 ≤ v) (h1 : v ≤ 255) : v = ((UInt8.ofNat v.toNat).toNat : Int) := by
  rw [UInt8.toNat_ofNat']
  omega

end Go.Proofs.Ytpjedpmbninfcaa
