/-
  Plain lemmas on memory that all texts of this seat share: slices that read as lists, rows of the call's own, blocks known whole. No function of the program is named here.
-/
import Derived.Test.YtahkeoegbjopfaaGreatRows
import Derived.WalkKit
import Derived.WalkSpells
import Derived.WalkLawsBesides
import Derived.Lib.Hide
import Derived.Laws.OwnMore
import Derived.Laws.AppendOwnNone
import Derived.Laws.BytesString
import Derived.Laws.BytesArg
import Derived.Maps.AppendAt
import Derived.Deep.AppendLies
import Derived.Deep.Draws
import Derived.RegionTactic
import Derived.OwnWalk
import Derived.Below
import Derived.Still
import Derived.LaidEqlPtr
import Derived.Stop.BytesEq
import Derived.ProofKit
import Derived.OpenShut
import Derived.ChangeSame
import Derived.SizedLaws
namespace Go.Proofs.YtahkeoegbjopfaaGreat
set_option maxRecDepth 100000
open Go.RowKit

def Stop (p : Prop) : Prop := p
theorem block_of_add (a : Addr) (n : Nat) : (a.add n).block = a.block := by unfold Addr.add; split <;> rfl
theorem add_of_add (a : Addr) (i j : Nat) : (a.add i).add j = a.add (i + j) := by
 unfold Addr.add
 by_cases hi : i = 0 <;> by_cases hj : j = 0 <;> simp [hi, hj, Nat.add_assoc]
theorem add_plain (b o j : Nat) : (⟨b, o, none⟩ : Addr).add j = ⟨b, o + j, none⟩ := by unfold Addr.add; split <;> simp_all

def Reads (w : World) (size : Nat) (A : Option Addr) (n : Nat) (xs : List Value) : Prop :=
 xs.length = n * size ∧ (xs ≠ [] → ∃ b o, A = some ⟨b, o, none⟩ ∧ ∀ j u, xs[j]? = some u → w.cell? ⟨b, o + j, none⟩ = some u)

section
variable {w w' : World} {B size n : Nat} {A : Option Addr} {xs : List Value}
theorem Reads.none_ (w : World) (size : Nat) (A : Option Addr) : Reads w size A 0 [] := ⟨by simp, fun h => absurd rfl h⟩
theorem Reads.keep (h : Reads w size A n xs) (hk : ∀ p : Addr, p.block < w.heap.size → w'.cell? p = w.cell? p) : Reads w' size A n xs :=
 ⟨h.1, fun hn => by
  obtain ⟨b, o, e, hc⟩ := h.2 hn
  exact ⟨b, o, e, fun j u hu => (hk _ (block_lt_of_cell (hc j u hu))).trans (hc j u hu)⟩⟩
theorem Reads.below (h : Reads w size A n xs) (hb : Below w.heap.size w w') : Reads w' size A n xs := h.keep fun _ hp => hb.cell hp
theorem Reads.add (h : Reads w size A n xs) : xs ≠ [] → ∃ ad, A = some ad ∧ ∀ j u, xs[j]? = some u → w.cell? (ad.add j) = some u := fun hn => by
 obtain ⟨b, o, rfl, hc⟩ := h.2 hn
 exact ⟨_, rfl, fun j u hu => by rw [add_plain]; exact hc j u hu⟩
theorem Reads.of_own {base : Nat} {e : TypeId} {c : Nat} (h : w.ownsRow base e size (.slice A n c) n xs) : Reads w size A n xs := by
 refine ⟨h.1, fun hn => ?_⟩
 rcases h.2 with ⟨hv, h0⟩ | ⟨g, cap, cur, hv, _, _, _, _, _, _⟩
 ·subst h0; exact absurd (List.eq_nil_of_length_eq_zero (by simpa using h.1)) hn
 ·have hA : A = some ⟨g, 0, none⟩ := by injection hv
  subst hA
  refine ⟨g, 0, rfl, fun j u hu => ?_⟩
  rw [← add_plain]
  exact h.cells (g := g) rfl j u hu
theorem Reads.cut (h : Reads w 1 A n xs) {k m cap : Nat} (hk : k ≤ n) (hc : n ≤ cap) (hm : m = n - k) :
  Reads w 1 (if cap = k then A else A.map (·.add k)) m (xs.drop k) := by
 subst hm
 have hl := h.1
 refine ⟨by rw [List.length_drop, hl]; omega, fun hn => ?_⟩
 have hkn : k < xs.length := by
  rcases Nat.lt_or_ge k xs.length with h1 | h1
  ·exact h1
  ·exact absurd (List.drop_eq_nil_of_le h1) hn
 obtain ⟨b, o, rfl, hcell⟩ := h.2 (by intro e; rw [e] at hkn; simp at hkn)
 rw [if_neg (by omega)]
 refine ⟨b, o + k, by simp [add_plain], fun j u hu => ?_⟩
 rw [Nat.add_assoc]
 exact hcell _ u (by rw [← hu, List.getElem?_drop])
theorem Reads.take (h : Reads w 1 A n xs) {k : Nat} (hk : k ≤ n) : Reads w 1 A k (xs.take k) := by
 have hl := h.1
 refine ⟨by rw [List.length_take]; omega, fun hn => ?_⟩
 obtain ⟨b, o, rfl, hcell⟩ := h.2 (by intro e; simp [e] at hn)
 refine ⟨b, o, rfl, fun j u hu => hcell _ u ?_⟩
 rw [List.getElem?_take] at hu
 split at hu
 ·exact hu
 ·cases hu
end

/-! Bytes. -/
def B8 (l : List UInt8) : List Value := l.map fun c => .int .u8 (c.toNat : Int)
theorem B8_length (l : List UInt8) : (B8 l).length = l.length := by simp [B8]
theorem B8_append (l m : List UInt8) : B8 (l ++ m) = B8 l ++ B8 m := by simp [B8]
theorem B8_take (l : List UInt8) (k : Nat) : (B8 l).take k = B8 (l.take k) := by simp [B8, List.map_take]
theorem B8_drop (l : List UInt8) (k : Nat) : (B8 l).drop k = B8 (l.drop k) := by simp [B8, List.map_drop]
theorem B8_get (l : List UInt8) (j : Nat) (h : j < l.length) : (B8 l)[j]? = some (.int .u8 (l[j].toNat : Int)) := by simp [B8, h]
theorem B8_ne {l : List UInt8} (h : l ≠ []) : B8 l ≠ [] := by simpa [B8] using h
theorem B8_oneCell (l : List UInt8) : ∀ u ∈ B8 l, u.oneCell' = true := by
 intro u hu
 obtain ⟨c, _, rfl⟩ := List.mem_map.1 hu
 rfl

def Rd (w : World) (A : Option Addr) (l : List UInt8) : Prop := Reads w 1 A l.length (B8 l)
section
variable {w w' : World} {A : Option Addr} {l : List UInt8}
theorem Rd.nil (w : World) (A : Option Addr) : Rd w A [] := Reads.none_ w 1 A
theorem Rd.below (h : Rd w A l) (hb : Below w.heap.size w w') : Rd w' A l := Reads.below h hb
theorem Rd.drew (h : Rd w A l) : Rd w.drew A l := h
theorem Rd.at_ (h : Rd w A l) (hn : l ≠ []) : ∃ b o, A = some ⟨b, o, none⟩ ∧ b < w.heap.size ∧ ∀ j (hj : j < l.length), w.cell? ⟨b, o + j, none⟩ = some (.int .u8 (l[j].toNat : Int)) := by
 obtain ⟨b, o, rfl, hc⟩ := h.2 (B8_ne hn)
 have hl : 0 < l.length := List.length_pos_iff.2 hn
 refine ⟨b, o, rfl, ?_, fun j hj => hc j _ (B8_get l j hj)⟩
 exact block_lt_of_cell (a := ⟨b, o + 0, none⟩) (hc 0 _ (B8_get l 0 hl))
theorem Rd.drop (h : Rd w A l) {k cap : Nat} (hk : k ≤ l.length) (hc : l.length ≤ cap) : Rd w (if cap = k then A else A.map (·.add k)) (l.drop k) := by
 have := Reads.cut h hk hc rfl
 unfold Rd
 rw [B8_drop] at this
 rwa [List.length_drop]
theorem Rd.take (h : Rd w A l) {k : Nat} (hk : k ≤ l.length) : Rd w A (l.take k) := by
 have := Reads.take h hk
 rw [B8_take] at this
 unfold Rd
 rwa [List.length_take, Nat.min_eq_left hk]
end

theorem strOfNums_bytes (l : List UInt8) : strOfNums (l.map fun c => (c.toNat : Int)) = ⟨l.toArray⟩ := by
 have h : ∀ l : List UInt8, List.map ((fun n : Int => UInt8.ofNat n.toNat) ∘ fun c : UInt8 => (c.toNat : Int)) l = l := by
  intro l
  induction l with
  | nil => rfl
  | cons c l ih => simp only [List.map_cons, ih, Function.comp, Int.toNat_natCast, UInt8.ofNat_toNat]
 simp [strOfNums, h]

theorem run_string {P : Program} {w : World} {A : Option Addr} {l : List UInt8} (h : Rd w A l) {src e dst : TypeId} (hs : P.underlying src = some (.slice e)) (he : P.underlying e = some (.int .u8))
  (hd : P.underlying dst = some .string) (c : Nat) : (convert src dst (.slice A l.length c)).run P w = .ok (.string ⟨l.toArray⟩) w := by
 by_cases hl : l = []
 ·subst hl
  rcases A with _ | ad
  ·exact run_convert_bytes_nil (P := P) w src e hs he 0 c dst hd
  ·rw [run_convert_bytes_string w src dst e _ _ c hs he hd]
   exact run_bytesToString (P := P) w ad 0 c [] (run_loadCells_list (P := P) w ad [] (fun j v hj => by simp at hj))
 ·obtain ⟨b, o, rfl, _, hc⟩ := h.at_ hl
  have := run_convert_bytes_arg (P := P) w src e hs he b o l.length c (l.map fun c => (c.toNat : Int)) (by simp) (fun i hi => by rw [hc i hi]; simp [hi]) dst hd
  rwa [strOfNums_bytes] at this

/-! Rows of the call's own. -/
def blk (A : Option Addr) : Option Nat := A.map (·.block)
theorem blk_own (A : Option Addr) (n c : Nat) : (Value.slice A n c).ownBlock = blk A := by cases A <;> rfl

def Own (w : World) (B : Nat) (A : Option Addr) (c : Nat) (l : List UInt8) : Prop := w.ownsRow B 5 1 (.slice A l.length c) l.length (B8 l)

section
variable {w w' : World} {B c : Nat} {A : Option Addr} {l : List UInt8}
theorem Own.nil (w : World) (B : Nat) : Own w B none 0 [] := World.ownsRow_nil _ _ _ _
theorem Own.rd (h : Own w B A c l) : Rd w A l := Reads.of_own h
theorem Own.alloc (h : Own w B A c l) (o : Obj) : Own (w.alloc o) B A c l := World.ownsRow.alloc h o
theorem Own.drew (h : Own w B A c l) : Own w.drew B A c l := World.ownsRow.drew h
theorem Own.lt (h : Own w B A c l) : ∀ k, blk A = some k → B ≤ k ∧ k < w.heap.size := fun k hk => World.ownsRow.lt h k (by rw [blk_own]; exact hk)
theorem Own.kept (h : Own w B A c l) {row : Option Nat} (hg : w.grownBy w' row) (hne : blk A = none ∨ blk A ≠ row) : Own w' B A c l :=
 World.ownsRow.kept h hg (by rw [blk_own]; exact hne)
theorem Own.below (h : Own w B A c l) (hb : Below w.heap.size w w') : Own w' B A c l :=
 h.kept (row := none) ⟨hb.os, hb.tape, hb.output, hb.size, fun k hk _ => hb.block k hk⟩ (by cases blk A <;> simp)
theorem Own.base (h : Own w B A c l) {B' : Nat} (hB : B' ≤ B) : Own w B' A c l := by
 refine ⟨h.1, ?_⟩
 rcases h.2 with h1 | ⟨g, cap, cur, h2, h3, h4⟩
 ·exact .inl h1
 ·exact .inr ⟨g, cap, cur, h2, by omega, h4⟩
end

structure U8 (P : Program) (t : TypeId) : Prop where
 ht : P.underlying t = some (.slice 5)
 hi : (P.info? 5).map (fun i => (i.zero, i.size, i.bytes)) = some (some (.int .u8 0), 1, 1)
 hu : P.underlying 5 = some (.int .u8)

section
variable {P : Program} (w : World)

theorem run_append_of_nil (base : Nat) (t ty e : TypeId) (i : TypeInfo) (size : Nat) (ht : P.underlying t = some (.slice e)) (hi : P.info? e = some i)
  (v : Value) (n : Nat) (xs : List Value) (hown : w.ownsRow base e size v n xs) (c : Nat) : (Builtin.append_ #[t, t] ty #[v, .slice none 0 c]).run P w = .ok v w := by
 rcases hown.2 with ⟨rfl, rfl⟩ | ⟨g, cap, cur, rfl, _, _, hnc, _⟩
 ·simp [Builtin.append_, run_underlying ht, sizeOf, typeInfo, hi, Builtin.lenOf, Builtin.firstCells]
 ·simp [Builtin.append_, run_underlying ht, sizeOf, typeInfo, hi, Builtin.lenOf, Builtin.firstCells, hnc, storeCells]

theorem run_append_any (base : Nat) (t ty e : TypeId) (i : TypeInfo) (z : Value) (size bytes : Nat) (ht : P.underlying t = some (.slice e)) (hi : P.info? e = some i) (hz : i.zero = some z)
  (hsize : i.size = size) (hby : i.bytes = bytes) (hzs : z.cells.size = size) (hsz : 0 < size)
  (v : Value) (n : Nat) (xs : List Value) (hown : w.ownsRow base e size v n xs)
  (A : Option Addr) (m c : Nat) (news : List Value) (hr : Reads w size A m news) (h1 : ∀ u ∈ news, u.oneCell' = true)
  (h63 : n + m ≤ maxLen) (hbytes : (n + m) * bytes ≤ 140737488355328) (hbase : base ≤ w.heap.size) :
  ∃ v' w', (Builtin.append_ #[t, t] ty #[v, .slice A m c]).run P w = .ok v' w' ∧ w'.ownsRow base e size v' (n + m) (xs ++ news) ∧ w.grownBy w' v.ownBlock ∧
   (v'.ownBlock = v.ownBlock ∨ v'.ownBlock = some w.heap.size) := by
 rcases A with _ | ad
 ·have hn : news = [] := by
   refine Classical.byContradiction fun h => ?_
   obtain ⟨ad, h, _⟩ := hr.add h
   cases h
  subst hn
  have hm : m = 0 := by
   have h1 := hr.1
   rw [List.length_nil] at h1
   rcases Nat.mul_eq_zero.1 h1.symm with h2 | h2
   ·exact h2
   ·omega
  subst hm
  exact ⟨v, w, run_append_of_nil w base t ty e i size ht hi v n xs hown c, by simpa using hown, World.grownBy.refl w _, .inl rfl⟩
 ·have hcells : ∀ j u, news[j]? = some u → w.cell? (ad.add j) = some u := by
   intro j u hu
   obtain ⟨ad', h, hc⟩ := hr.add (by intro e; rw [e] at hu; cases hu)
   injection h with h
   subst h
   exact hc j u hu
  obtain ⟨v', w', hrun, h2, h3, _, h5⟩ := run_append_own_at (P := P) w base t ty e i z size bytes ht hi hz hsize hby hzs hsz v n xs hown ad m c news hr.1 hcells h1 h63 hbytes hbase
  exact ⟨v', w', hrun, h2, h3, h5⟩

theorem ownsRow_shape {w : World} {base e size n : Nat} {v : Value} {xs : List Value} (h : w.ownsRow base e size v n xs) : ∃ A c, v = .slice A n c := by
 rcases h.2 with ⟨rfl, rfl⟩ | ⟨g, cap, cur, rfl, _⟩
 ·exact ⟨_, _, rfl⟩
 ·exact ⟨_, _, rfl⟩

theorem run_app {t ty : TypeId} (T : U8 P t) {B : Nat} {A : Option Addr} {c : Nat} {l : List UInt8} (hown : Own w B A c l) {X : Option Addr} {k : Nat} {m : List UInt8} (hr : Rd w X m)
  (hlen : l.length + m.length ≤ 140737488355328) (hB : B ≤ w.heap.size) :
  ∃ A' c' w', (Builtin.append_ #[t, t] ty #[.slice A l.length c, .slice X m.length k]).run P w = .ok (.slice A' (l ++ m).length c') w' ∧ Own w' B A' c' (l ++ m) ∧ w.grownBy w' (blk A) ∧
   (blk A' = blk A ∨ blk A' = some w.heap.size) ∧ Below B w w' := by
 obtain ⟨i, hi, hz, hs, hb⟩ := info_parts T.hi
 obtain ⟨v', w', h1, h2, h3, h4⟩ := run_append_any (P := P) w B t ty 5 i _ 1 1 T.ht hi hz hs hb rfl (by omega) (.slice A l.length c) l.length (B8 l) hown X m.length k (B8 m) hr (B8_oneCell m)
  (by simp only [maxLen]; omega) (by omega) hB
 obtain ⟨A', c', rfl⟩ := ownsRow_shape h2
 rw [blk_own] at h3 h4
 rw [blk_own] at h4
 refine ⟨A', c', w', by rw [h1, List.length_append], ?_, h3, h4, (Below.refl B w).grown h3 hB (fun k hk => (hown.lt k hk).1)⟩
 unfold Own
 rw [B8_append, List.length_append]
 exact h2
end

section
variable {P : Program} {w : World} {ops : Array Oper} {rest : List Oper} {o : Oper} {a : Act} {Q : Exit → Act → World → Prop}

end

theorem rd_lit (w : World) (l : List UInt8) (cs : Array Value) (h : cs = (B8 l).toArray) : Rd (w.alloc (.cells cs 5)) (some ⟨w.heap.size, 0, none⟩) l := by
 subst h
 refine ⟨by simp [B8], fun _ => ⟨w.heap.size, 0, rfl, fun j u hu => ?_⟩⟩
 have hg := heap_alloc_new w (.cells (B8 l).toArray 5)
 rw [cell_of_row _ _ _ _ _ _ hg]
 simpa using hu

theorem own_lit (w : World) {B : Nat} (hB : B ≤ w.heap.size) (l : List UInt8) (cs : Array Value) (h : cs = (B8 l).toArray) (hl : l.length ≤ maxLen) :
  Own (w.alloc (.cells cs 5)) B (some ⟨w.heap.size, 0, none⟩) l.length l := by
 subst h
 refine ⟨by simp [B8], .inr ⟨w.heap.size, l.length, (B8 l).toArray, rfl, hB, heap_alloc_new w _, Nat.le_refl _, hl, by simp [B8], ?_⟩⟩
 rw [Nat.mul_one, ← B8_length l]
 exact List.take_length

theorem byte_of (v : Int) (h0 : 0 ≤ v) (h1 : v ≤ 255) : v = ((UInt8.ofNat v.toNat).toNat : Int) := by
 rw [UInt8.toNat_ofNat']
 omega

end Go.Proofs.YtahkeoegbjopfaaGreat
namespace Go.Proofs.YtahkeoegbjopfaaGreat
set_option maxRecDepth 100000
open Go.RowKit

/-! The frame: what is known of its slots, the newest first. -/
abbrev Fr := List (Nat × Value)
def Fr.get : Fr → Nat → Option Value
 | [], _ => none
 | (k, v) :: r, t => bif Nat.beq k t then some v else Fr.get r t
def Fr.ev (fr : Fr) : Operand → Option Value
 | .tmp t => fr.get t
 | .const v => some v
 | .global g => some (.pointer (some ⟨g, 0, none⟩))
 | .func f => some (.func (.func f) #[] #[])
def Fr.evs (fr : Fr) : List Operand → Option (List Value)
 | [] => some []
 | x :: r => match fr.ev x, fr.evs r with
  | some v, some vs => some (v :: vs)
  | _, _ => none
def Fr.sub : Fr → Fr → Prop
 | [], _ => True
 | (t, v) :: r, fr => fr.get t = some v ∧ Fr.sub r fr

structure Rep (N : Nat) (a : Act) (fr : Fr) : Prop where
 size : a.tmps.size = N
 defers : a.defers = []
 get : ∀ t v, fr.get t = some v → a.tmps[t]? = some v

theorem Fr.get_cons (k : Nat) (v : Value) (r : Fr) (t : Nat) : Fr.get ((k, v) :: r) t = if k = t then some v else Fr.get r t := by
 show (bif Nat.beq k t then some v else Fr.get r t) = _
 by_cases h : k = t
 ·subst h; simp
 ·have : Nat.beq k t = false := by
   cases hb : Nat.beq k t with
   | false => rfl
   | true => exact absurd (Nat.eq_of_beq_eq_true hb) h
  rw [this, if_neg h]; rfl

theorem Rep.put {N : Nat} {a : Act} {fr : Fr} (h : Rep N a fr) {d : Nat} (hd : Nat.blt d N = true) (v : Value) : Rep N (a.put (some d) v) ((d, v) :: fr) := by
 have hd' : d < N := by simpa using hd
 refine ⟨by simp [Act.put, h.size], by simp [Act.put, h.defers], fun t u hu => ?_⟩
 rw [Fr.get_cons] at hu
 by_cases e : d = t
 ·subst e
  rw [if_pos rfl] at hu
  injection hu with hu
  subst hu
  simp [Act.put, h.size, hd']
 ·rw [if_neg e] at hu
  have := h.get t u hu
  simp only [Act.put]
  rw [Array.getElem?_setIfInBounds_ne e]
  exact this

theorem Rep.ev {N : Nat} {a : Act} {fr : Fr} (h : Rep N a fr) {x : Operand} {v : Value} (hx : fr.ev x = some v) : a.eval x = v := by
 cases x with
 | tmp t =>
  have := h.get t v hx
  simp [Act.eval, this]
 | const u => exact Option.some.inj hx
 | global g => exact Option.some.inj hx
 | func f => exact Option.some.inj hx

theorem Rep.evs {N : Nat} {a : Act} {fr : Fr} (h : Rep N a fr) : ∀ {xs : List Operand} {vs : List Value}, fr.evs xs = some vs → xs.map a.eval = vs
 | [], _, hx => by rw [← Option.some.inj hx]; rfl
 | x :: r, vs, hx => by
  unfold Fr.evs at hx
  split at hx
  ·rename_i v us h1 h2
   injection hx with hx
   rw [← hx, List.map_cons, h.ev h1, h.evs h2]
  ·cases hx

theorem Rep.sub {N : Nat} {a : Act} {fr : Fr} (h : Rep N a fr) : ∀ {fr' : Fr}, Fr.sub fr' fr → Rep N a fr'
 | [], _ => ⟨h.size, h.defers, fun t v hv => by cases hv⟩
 | (k, u) :: r, hs => by
  have ih := h.sub hs.2
  refine ⟨h.size, h.defers, fun t v hv => ?_⟩
  rw [Fr.get_cons] at hv
  by_cases e : k = t
  ·subst e
   rw [if_pos rfl] at hv
   injection hv with hv
   subst hv
   exact h.get k u hs.1
  ·rw [if_neg e] at hv
   exact ih.get t v hv

/-! What is left to be done: code, ends of blocks, the head of a loop. -/
inductive K where
 | code (c : Code)
 | blk (id : Nat)
 | inv (I : Act → World → Prop)

def kpost (P : Program) (fn : Func) (F : Ending → World → Prop) : List K → Exit → Act → World → Prop
 | [] => bodyPost P fn F
 | .code c :: ks => Exit.then (fun a w => c.wp P (kpost P fn F ks) a w) (kpost P fn F ks)
 | .blk id :: ks => Exit.inBlock id (kpost P fn F ks)
 | .inv I :: ks => Exit.then I (kpost P fn F ks)

def RK (P : Program) (fn : Func) (F : Ending → World → Prop) (N : Nat) (ks : List K) (fr : Fr) (w : World) : Prop := ∀ a, Rep N a fr → kpost P fn F ks .normal a w
section
variable {P : Program} {fn : Func} {F : Ending → World → Prop} {N : Nat} {ks : List K} {fr : Fr} {w : World}

theorem RK.sub {fr' : Fr} (hs : Fr.sub fr' fr) (h : RK P fn F N ks fr' w) : RK P fn F N ks fr w := fun a ha => h a (ha.sub hs)

theorem kpost_ret {a : Act} : ∀ {ks : List K}, bodyPost P fn F .ret a w → kpost P fn F ks .ret a w
 | [], h => h
 | .code _ :: ks, h => kpost_ret (ks := ks) h
 | .blk _ :: ks, h => kpost_ret (ks := ks) h
 | .inv _ :: ks, h => kpost_ret (ks := ks) h
def popTo (id : Nat) : List K → Option (List K)
 | [] => none
 | .blk i :: ks => bif Nat.beq i id then some ks else popTo id ks
 | _ :: ks => popTo id ks

theorem kpost_exit {a : Act} {id : Nat} : ∀ {ks ks' : List K}, popTo id ks = some ks' → kpost P fn F ks' .normal a w → kpost P fn F ks (.exit id) a w
 | [], _, h, _ => by cases h
 | .code _ :: ks, ks', h, hk => kpost_exit (ks := ks) h hk
 | .inv _ :: ks, ks', h, hk => kpost_exit (ks := ks) h hk
 | .blk i :: ks, ks', h, hk => by
  have h' : (bif Nat.beq i id then some ks else popTo id ks) = some ks' := h
  show (if id = i then kpost P fn F ks .normal a w else kpost P fn F ks (.exit id) a w)
  by_cases e : i = id
  ·subst e
   rw [if_pos rfl]
   rw [show Nat.beq i i = true from by simp] at h'
   injection h' with h'
   subst h'
   exact hk
  ·rw [if_neg (fun h => e h.symm)]
   have hb : Nat.beq i id = false := by
    cases hb : Nat.beq i id with
    | false => rfl
    | true => exact absurd (Nat.eq_of_beq_eq_true hb) e
   rw [hb] at h'
   exact kpost_exit (ks := ks) h' hk

theorem rk_seq {x y : Code} (h : RK P fn F N (.code x :: .code y :: ks) fr w) : RK P fn F N (.code (.seq x y) :: ks) fr w := fun a ha => wp_seq (h a ha)
theorem rk_skip (h : RK P fn F N ks fr w) : RK P fn F N (.code .skip :: ks) fr w := fun a ha => wp_skip (h a ha)
theorem rk_block {id : Nat} {c : Code} (h : RK P fn F N (.code c :: .blk id :: ks) fr w) : RK P fn F N (.code (.block id c) :: ks) fr w := fun a ha => wp_block (h a ha)
theorem rk_blk {id : Nat} (h : RK P fn F N ks fr w) : RK P fn F N (.blk id :: ks) fr w := fun a ha => h a ha
theorem rk_exit {id : Nat} {ks' : List K} (hp : popTo id ks = some ks') (h : RK P fn F N ks' fr w) : RK P fn F N (.code (.exit id) :: ks) fr w := fun a ha => wp_exit (kpost_exit hp (h a ha))
theorem rk_cond {c : Operand} {x y : Code} {b : Bool} (hc : fr.ev c = some (.bool b)) (ht : b = true → RK P fn F N (.code x :: ks) fr w) (hf : b = false → RK P fn F N (.code y :: ks) fr w) :
  RK P fn F N (.code (.cond c x y) :: ks) fr w := fun a ha => wp_cond_split (ha.ev hc) (fun h => ht h a ha) (fun h => hf h a ha)
theorem rk_if {c : Operand} {x y : Code} {p : Prop} {dp : Decidable p} (hc : fr.ev c = some (.bool (@decide p dp))) (ht : p → RK P fn F N (.code x :: ks) fr w) (hf : ¬ p → RK P fn F N (.code y :: ks) fr w) :
  RK P fn F N (.code (.cond c x y) :: ks) fr w := rk_cond hc (fun h => ht (of_decide_eq_true h)) (fun h => hf (of_decide_eq_false h))
theorem rk_true {c : Operand} {x y : Code} (hc : fr.ev c = some (.bool true)) (h : RK P fn F N (.code x :: ks) fr w) : RK P fn F N (.code (.cond c x y) :: ks) fr w := rk_cond hc (fun _ => h) (fun h => by cases h)
theorem rk_false {c : Operand} {x y : Code} (hc : fr.ev c = some (.bool false)) (h : RK P fn F N (.code y :: ks) fr w) : RK P fn F N (.code (.cond c x y) :: ks) fr w := rk_cond hc (fun h => by cases h) (fun _ => h)
theorem rk_loop {c : Code} (Inv : Nat → Fr → World → Prop) {n : Nat} {fr0 : Fr} (hs : Fr.sub fr0 fr) (h0 : Inv n fr0 w)
  (round : ∀ n fr w, Inv n fr w → RK P fn F N (.code c :: .inv (fun a w' => ∃ m fr', m < n ∧ Rep N a fr' ∧ Inv m fr' w') :: ks) fr w) : RK P fn F N (.code (.loop c) :: ks) fr w := by
 intro a ha b k cs
 have key : ∀ n fr a w, Rep N a fr → Inv n fr w →
   ∃ e a' w', kpost P fn F ks e a' w' ∧ Arrives P (lone (b.at a (.code c :: .inLoop c :: k)) cs w) b k cs e a' w' := by
  intro n
  induction n using Nat.strongRecOn with
  | _ n ih =>
   intro fr a w hr hI
   obtain ⟨e, a₁, w₁, hq, harr⟩ := round n fr w hI a hr b (.inLoop c :: k) cs
   cases e with
   | normal =>
    obtain ⟨m, fr', hlt, hr', hI₁⟩ := hq
    obtain ⟨e₂, a₂, w₂, hq₂, harr₂⟩ := ih m hlt fr' a₁ w₁ hr' hI₁
    exact ⟨e₂, a₂, w₂, hq₂, .of_steps (Steps.trans harr (.one step_inLoop)) harr₂⟩
   | exit id => exact ⟨_, a₁, w₁, hq, .pass (x := .inLoop c) rfl (fun _ _ => .inl (by simp)) harr⟩
   | goto l => exact ⟨_, a₁, w₁, hq, .pass (x := .inLoop c) rfl (fun _ _ => .inl (by simp)) harr⟩
   | ret => exact ⟨_, a₁, w₁, hq, .pass (x := .inLoop c) rfl (fun _ _ => .inl (by simp)) harr⟩
   | panic ch => exact ⟨_, a₁, w₁, hq, .pass (x := .inLoop c) rfl (fun _ _ => .inl (by simp)) harr⟩
   | outgrown => exact ⟨_, a₁, w₁, hq, .pass (x := .inLoop c) rfl (fun _ _ => .inl (by simp)) harr⟩
 obtain ⟨e, a', w', hq, harr⟩ := key n fr0 a w (ha.sub hs) h0
 exact ⟨e, a', w', hq, .of_steps (.one step_loop) harr⟩

theorem rk_again {Inv : Nat → Fr → World → Prop} {n m : Nat} {fr0 : Fr} (hs : Fr.sub fr0 fr) (h : Inv m fr0 w) (hlt : m < n) :
  RK P fn F N (.inv (fun a w' => ∃ m fr', m < n ∧ Rep N a fr' ∧ Inv m fr' w') :: ks) fr w := fun _ ha => ⟨m, fr0, hlt, ha.sub hs, h⟩

theorem rk_end (hr : ∀ a, Rep N a fr → ∃ v, (results fn a.tmps).run P w = .ok v w ∧ F (.returned v) w) : RK P fn F N [] fr w :=
 fun a ha => ⟨ha.defers, hr a ha⟩
theorem rk_ret (hr : ∀ a, Rep N a fr → ∃ v, (results fn a.tmps).run P w = .ok v w ∧ F (.returned v) w) : RK P fn F N (.code .ret :: ks) fr w :=
 fun a ha => wp_ret (kpost_ret ⟨ha.defers, hr a ha⟩)
theorem res0 (h : fn.results = #[]) (hF : F (.returned (.tuple #[])) w) : ∀ a, Rep N a fr → ∃ v, (results fn a.tmps).run P w = .ok v w ∧ F (.returned v) w :=
 fun _ _ => ⟨_, results_none h _ P w, hF⟩
theorem res1 {t : Nat} {v : Value} (h : fn.results = #[.tmp t]) (hv : fr.get t = some v) (hF : F (.returned v) w) : ∀ a, Rep N a fr → ∃ v, (results fn a.tmps).run P w = .ok v w ∧ F (.returned v) w :=
 fun a ha => ⟨v, by rw [results_tmp h]; rw [show a.tmps.getD t undef = v from ha.ev (x := .tmp t) hv], hF⟩
theorem res2 {t u : Nat} {v x : Value} (h : fn.results = #[.tmp t, .tmp u]) (hv : fr.get t = some v) (hx : fr.get u = some x) (hF : F (.returned (.tuple #[v, x])) w) :
  ∀ a, Rep N a fr → ∃ v, (results fn a.tmps).run P w = .ok v w ∧ F (.returned v) w :=
 fun a ha => ⟨.tuple #[v, x], by rw [results_tmp2 h]; rw [show a.tmps.getD t undef = v from ha.ev (x := .tmp t) hv, show a.tmps.getD u undef = x from ha.ev (x := .tmp u) hx], hF⟩

/-! The door: a call is its body. -/
def entry : List Value → Nat → Fr
 | [], _ => []
 | v :: r, k => (k, v) :: entry r (k + 1)
theorem entry_get : ∀ (args : List Value) (k t : Nat) (v : Value), (entry args k).get t = some v → k ≤ t ∧ args[t - k]? = some v
 | [], k, t, v, h => by cases h
 | u :: r, k, t, v, h => by
  unfold entry at h
  rw [Fr.get_cons] at h
  by_cases e : k = t
  ·subst e
   rw [if_pos rfl] at h
   exact ⟨Nat.le_refl _, by simpa using h⟩
  ·rw [if_neg e] at h
   obtain ⟨h1, h2⟩ := entry_get r (k + 1) t v h
   refine ⟨by omega, ?_⟩
   rw [show t - k = (t - (k + 1)) + 1 from by omega]
   simpa using h2
end

theorem calls_rk {P : Program} {f : FuncId} {fn : Func} {c : Code} {args : List Value} {w : World} {F : Ending → World → Prop} {N : Nat} (hf : P.funcs[f]? = some fn) (hb : fn.body = some c) (hN : fn.ntmps = N)
  (hl : Nat.ble args.length N = true) (h : RK P fn F N [.code c] (entry args 0) w) : Calls P f args.toArray w F := by
 subst hN
 have hl' : args.length ≤ fn.ntmps := by simpa using hl
 refine calls_of_wp hf hb (wp_mono (h _ ⟨?_, rfl, ?_⟩) ?_)
 ·simp; omega
 ·intro t v hv
  obtain ⟨_, h2⟩ := entry_get args 0 t v hv
  simp only [Nat.sub_zero] at h2
  have hlt : t < args.length := by
   rcases Nat.lt_or_ge t args.length with h | h
   ·exact h
   ·rw [List.getElem?_eq_none h] at h2; cases h2
  rw [Array.getElem?_append_left (by simpa using hlt)]
  simpa using h2
 ·intro e a w hq
  cases e <;> exact hq

end Go.Proofs.YtahkeoegbjopfaaGreat
namespace Go.Proofs.YtahkeoegbjopfaaGreat
set_option maxRecDepth 100000
open Go.RowKit

inductive Tag where
 | p | r | l | s | c
 /-- the ways part here: so many operations are left -/
 | f (m L C : Nat)
 /-- the first operation of a way -/
 | g (m L C : Nat)
 deriving DecidableEq

abbrev Rw := Option Nat × Option (Nat ⊕ (Nat → Prop))
theorem grownBy_self (w : World) (row : Option Nat) : w.grownBy w row := ⟨rfl, rfl, rfl, Nat.le_refl _, fun _ _ _ => rfl⟩
theorem grownBy_step {a b c : World} {row : Option Nat} (h : a.grownBy b row) (k : b.grownBy c row) : a.grownBy c row :=
 ⟨k.os.trans h.os, k.tape.trans h.tape, k.output.trans h.output, Nat.le_trans h.size k.size, fun i hi hne => (k.block i (Nat.lt_of_lt_of_le hi h.size) hne).trans (h.block i hi hne)⟩
structure SameUnder (w w' : World) (row : Option Nat) (B : Nat) : Prop where
 os : w'.os = w.os
 tape : w'.tape = w.tape
 output : w'.output = w.output
 size : w.heap.size ≤ w'.heap.size
 block : ∀ k, k < w.heap.size → some k ≠ row → k < B → w'.heap[k]? = w.heap[k]?
structure SameOut (w w' : World) (row : Option Nat) (P : Nat → Prop) : Prop where
 os : w'.os = w.os
 tape : w'.tape = w.tape
 output : w'.output = w.output
 size : w.heap.size ≤ w'.heap.size
 block : ∀ k, k < w.heap.size → some k ≠ row → ¬P k → w'.heap[k]? = w.heap[k]?
def Rw.ok : Rw → World → World → Prop
 | (row, none), w, w' => w.grownBy w' row
 | (row, some (.inl B)), w, w' => SameUnder w w' row B
 | (row, some (.inr P)), w, w' => SameOut w w' row P
theorem Rw.self : ∀ (q : Rw) (w : World), q.ok w w
 | (_, none), w => grownBy_self w _
 | (_, some (.inl _)), _ => ⟨rfl, rfl, rfl, Nat.le_refl _, fun _ _ _ _ => rfl⟩
 | (_, some (.inr _)), _ => ⟨rfl, rfl, rfl, Nat.le_refl _, fun _ _ _ _ => rfl⟩
theorem Rw.step : ∀ {q : Rw} {a b c : World}, q.ok a b → q.ok b c → q.ok a c
 | (_, none), _, _, _, h, k => grownBy_step h k
 | (_, some (.inl _)), _, _, _, h, k => ⟨k.os.trans h.os, k.tape.trans h.tape, k.output.trans h.output, Nat.le_trans h.size k.size, fun i hi hne hB => (k.block i (Nat.lt_of_lt_of_le hi h.size) hne hB).trans (h.block i hi hne hB)⟩
 | (_, some (.inr _)), _, _, _, h, k => ⟨k.os.trans h.os, k.tape.trans h.tape, k.output.trans h.output, Nat.le_trans h.size k.size, fun i hi hne hB => (k.block i (Nat.lt_of_lt_of_le hi h.size) hne hB).trans (h.block i hi hne hB)⟩
theorem Rw.of : ∀ {q : Rw} {a b : World}, a.grownBy b q.1 → q.ok a b
 | (_, none), _, _, h => h
 | (_, some (.inl _)), _, _, h => ⟨h.os, h.tape, h.output, h.size, fun i hi hne _ => h.block i hi hne⟩
 | (_, some (.inr _)), _, _, h => ⟨h.os, h.tape, h.output, h.size, fun i hi hne _ => h.block i hi hne⟩
def Rw.may : Rw → Option Nat → Prop
 | (row, none), g => g = row
 | (row, some (.inl B)), g => g = row ∨ ∀ k, g = some k → B ≤ k
 | (row, some (.inr P)), g => g = row ∨ ∀ k, g = some k → P k
theorem Rw.of_may : ∀ {q : Rw} {a b : World} {g : Option Nat}, a.grownBy b g → q.may g → q.ok a b
 | (_, none), _, _, _, h, e => by
  have e' : _ = _ := e
  subst e'
  exact h
 | (_, some (.inl B)), _, _, g, h, e => by
  have e' : _ ∨ _ := e
  refine ⟨h.os, h.tape, h.output, h.size, fun i hi hne hB => h.block i hi (fun he => ?_)⟩
  rcases e' with e' | e'
  ·subst e'; exact hne he
  ·have := e' i he.symm; omega
 | (_, some (.inr P)), _, _, g, h, e => by
  have e' : _ ∨ _ := e
  refine ⟨h.os, h.tape, h.output, h.size, fun i hi hne hB => h.block i hi (fun he => ?_)⟩
  rcases e' with e' | e'
  ·subst e'; exact hne he
  ·exact hB (e' i he.symm)
theorem below_of_ok {row : Option Nat} {B : Nat} {a b : World} (h : Rw.ok (row, some (.inl B)) a b) (hB : B ≤ a.heap.size) (hr : ∀ k, row = some k → B ≤ k) : Below B a b :=
 have h' : SameUnder a b row B := h
 ⟨h'.os, h'.tape, h'.output, h'.size, fun k hk => h'.block k (by omega) (fun e => by have := hr k e.symm; omega) hk⟩
section
variable {P : Program} {md : Region.Mode} {ops : Array Oper} {Q : Exit → Act → World → Prop} {loud calm : Nat → Bool} {row : Rw}

def wpMix (P : Program) (md : Region.Mode) (ops : Array Oper) (Q : Exit → Act → World → Prop) (loud calm : Nat → Bool) (row : Rw) : Nat → Array Bool → Act → World → Prop
 | 0, listed, a, w => Region.ready md ops listed = [] ∧ Q .normal a w
 | f + 1, listed, a, w => (Region.ready md ops listed = [] → Q .normal a w) ∧
  ∀ i ∈ Region.ready md ops listed, if loud i = true then wpOp P ops Q i (fun a' w' => (calm i = true → row.ok w w') ∧ wpMix P md ops Q loud calm row f (listed.setIfInBounds i true) a' w') a w
   else stOp P ops w i (fun a' => wpMix P md ops Q loud calm row f (listed.setIfInBounds i true) a' w) a

theorem wpAny_of_mix : ∀ (f : Nat) (listed : Array Bool) (a : Act) (w : World), wpMix P md ops Q loud calm row f listed a w → wpAny P md ops Q f listed a w
 | 0, _, _, _, h => h
 | f + 1, listed, a, w, h => ⟨h.1, fun i hi => by
   have h2 := h.2 i hi
   split at h2
   ·exact wpOp_mono (fun a' w' h' => wpAny_of_mix f _ a' w' h'.2) h2
   ·exact wpOp_of_stOp (fun a' h' => wpAny_of_mix f _ a' w h') h2⟩

theorem yields_at {o : Oper} {v : Value} {a : Act} (h : Yields P ops o v a) (w : World) : YieldsAt P ops w o v a := by
 rcases h with ⟨h1, h2⟩ | h
 ·exact .inl ⟨h1, .inl (h2 w)⟩
 ·exact .inr h

theorem mix_self {i : Nat} {oi : Oper} {v : Value} {f : Nat} {listed : Array Bool} {a : Act} {w : World} (hi : ops[i]? = some oi) (hl : loud i = false) (hy : YieldsAt P ops w oi v a)
  (H : wpMix P md ops Q loud calm row f (listed.setIfInBounds i true) (a.put oi.dst v) w) :
  if loud i = true then wpOp P ops Q i (fun a' w' => (calm i = true → row.ok w w') ∧ wpMix P md ops Q loud calm row f (listed.setIfInBounds i true) a' w') a w else stOp P ops w i (fun a' => wpMix P md ops Q loud calm row f (listed.setIfInBounds i true) a' w) a := by
 rw [hl, if_neg (by simp)]
 exact hy.stOp hi (K := fun a' => wpMix P md ops Q loud calm row f (listed.setIfInBounds i true) a' w) H

theorem unlisted_of_ready {i : Nat} {listed : Array Bool} (hi : i ∈ Region.ready md ops listed) : listed.getD i false = false := by
 have h0 := (mem_ready.1 hi).1
 rcases Nat.lt_or_ge i listed.size with h | h
 ·simp [h] at h0 ⊢; exact h0
 ·simp [Array.getElem?_eq_none h] at h0

theorem mix_swap {j : Nat} {oi oj : Oper} {v : Value} {a : Act} {w : World} (hoj : ops[j]? = some oj) (hap : oi.apart ops oj = true)
  (hsj : ∀ cs b, oj.op ≠ .select cs b) {K K' : Act → Prop} (h : stOp P ops w j K (a.put oi.dst v)) (hk : ∀ u, K ((a.put oj.dst u).put oi.dst v) → K' (a.put oj.dst u)) : stOp P ops w j K' a := by
 obtain ⟨h1, h2, _⟩ := Oper.apart_spec hap
 obtain ⟨u, hy, hK⟩ := yieldsAt_of_stOp hoj h
 have hy' : YieldsAt P ops w oj u a := hy.of_same (execOp_put oj hsj a oi.dst v h1).symm (wanted_put oj a oi.dst v h1).symm
 refine hy'.stOp hoj (hk u ?_)
 rw [← Act.put_comm a v u h2]
 exact hK

theorem mix_first_p {i : Nat} {oi : Oper} {v : Value} (hi : ops[i]? = some oi) (hl : loud i = false) (hsel : ∀ (j : Nat) (o : Oper) cs b, ops[j]? = some o → o.op ≠ .select cs b)
  (hQ : ∀ c a w, Q (.panic c) (a.put oi.dst v) w → Q (.panic c) a w) :
  ∀ (fuel : Nat) (listed : Array Bool) (a : Act) (w : World),
   (∀ j oj, ops[j]? = some oj → j ≠ i → listed.getD j true = false → (∀ e ∈ oj.after, Region.binds md e = true → e.on ≠ i) → oi.apart ops oj = true) →
   i ∈ Region.ready md ops listed → Yields P ops oi v a →
   wpMix P md ops Q loud calm row fuel (listed.setIfInBounds i true) (a.put oi.dst v) w → wpMix P md ops Q loud calm row (fuel + 1) listed a w := by
 intro fuel
 induction fuel with
 | zero =>
  intro listed a w _ hr hy H
  refine ⟨fun h => (by rw [h] at hr; cases hr), fun j hj => ?_⟩
  by_cases hji : j = i
  ·subst hji; exact mix_self hi hl (yields_at hy w) H
  ·have := ready_mono hj hji
   rw [H.1] at this
   cases this
 | succ fuel ih =>
  intro listed a w hfree hr hy H
  refine ⟨fun h => (by rw [h] at hr; cases hr), fun j hj => ?_⟩
  by_cases hji : j = i
  ·subst hji; exact mix_self hi hl (yields_at hy w) H
  ·have h1 := H.2 j (ready_mono hj hji)
   obtain ⟨hjun, oj, hoj, hall⟩ := mem_ready.1 hj
   have hnot : ∀ e ∈ oj.after, Region.binds md e = true → e.on ≠ i := fun e he hb heq => by
    have h2 := hall e he hb
    rw [heq, unlisted_of_ready hr] at h2
    cases h2
   have hap := hfree j oj hoj hji hjun hnot
   obtain ⟨h1a, h2a, h3a⟩ := Oper.apart_spec hap
   have keep : ∀ (a : Act), Yields P ops oi v a → ∀ u, Yields P ops oi v (a.put oj.dst u) := fun a hy u =>
    hy.of_same (execOp_put oi (hsel i oi · · hi) a oj.dst u h3a) (wanted_put oi a oj.dst u h3a)
   have hfree' : ∀ k ok, ops[k]? = some ok → k ≠ i → (listed.setIfInBounds j true).getD k true = false →
     (∀ e ∈ ok.after, Region.binds md e = true → e.on ≠ i) → oi.apart ops ok = true := fun k ok hk hki hun hno => by
    refine hfree k ok hk hki ?_ hno
    by_cases hjk : j = k
    ·subst hjk; exact hjun
    ·rw [getD_set_ne true hjk] at hun; exact hun
   split at h1
   ·rename_i hlj
    rw [if_pos hlj]
    have h2 := wpOp_put hoj hap (fun cs b => hsel i oi cs b hi) (fun cs b => hsel j oj cs b hoj) hQ hy h1
    refine wpOp_mono (fun a' w' h3 => ⟨h3.2.1, ih (listed.setIfInBounds j true) a' w' hfree' (ready_mono hr (Ne.symm hji)) h3.1 ?_⟩) h2
    rw [Array.setIfInBounds_comm _ _ hji]
    exact h3.2.2
   ·rename_i hlj
    rw [if_neg hlj]
    refine mix_swap hoj hap (fun cs b => hsel j oj cs b hoj) h1 (fun u hK => ih (listed.setIfInBounds j true) _ w hfree' (ready_mono hr (Ne.symm hji)) (keep a hy u) ?_)
    rw [Array.setIfInBounds_comm _ _ hji]
    exact hK

/-! An operation that reads: whatever changes the world waits for it. -/
def Closed (md : Region.Mode) (ops : Array Oper) (listed : Array Bool) : Prop := ∀ j oj, ops[j]? = some oj → listed.getD j false = true → ∀ e ∈ oj.after, Region.binds md e = true → listed.getD e.on false = true
def Before (md : Region.Mode) (ops : Array Oper) (i j : Nat) : Prop := ∀ listed, Closed md ops listed → listed.getD j false = true → listed.getD i false = true

theorem Closed.set {listed : Array Bool} {i : Nat} (h : Closed md ops listed) (hi : i ∈ Region.ready md ops listed) : Closed md ops (listed.setIfInBounds i true) := by
 obtain ⟨_, oi, hoi, hall⟩ := mem_ready.1 hi
 intro j oj hj hl e he hb
 by_cases hij : i = j
 ·subst hij
  have : oj = oi := Option.some.inj (hj.symm.trans hoi)
  subst this
  exact getD_set_true (hall e he hb)
 ·rw [getD_set_ne false hij] at hl
  exact getD_set_true (h j oj hj hl e he hb)

theorem before_ready {listed : Array Bool} {i j : Nat} (h : Closed md ops listed) (hun : listed.getD i false = false) (hne : j ≠ i) (hw : Before md ops i j) : j ∉ Region.ready md ops listed := by
 intro hj
 have hlt : j < listed.size := by
  have h0 := (mem_ready.1 hj).1
  rcases Nat.lt_or_ge j listed.size with h | h
  ·exact h
  ·simp [Array.getElem?_eq_none h] at h0
 have h1 := hw _ (h.set hj) (by simp [hlt])
 rw [getD_set_ne false hne, hun] at h1
 cases h1

theorem mix_first_r {i : Nat} {oi : Oper} {v : Value} {w : World} (hi : ops[i]? = some oi) (hl : loud i = false) (hsel : ∀ (j : Nat) (o : Oper) cs b, ops[j]? = some o → o.op ≠ .select cs b)
  (hwait : ∀ j, loud j = true → j < ops.size → Before md ops i j ∨ Before md ops j i) :
  ∀ (fuel : Nat) (listed : Array Bool) (a : Act), Closed md ops listed →
   (∀ j oj, ops[j]? = some oj → j ≠ i → listed.getD j true = false → (∀ e ∈ oj.after, Region.binds md e = true → e.on ≠ i) → oi.apart ops oj = true) →
   i ∈ Region.ready md ops listed → YieldsAt P ops w oi v a →
   wpMix P md ops Q loud calm row fuel (listed.setIfInBounds i true) (a.put oi.dst v) w → wpMix P md ops Q loud calm row (fuel + 1) listed a w := by
 intro fuel
 induction fuel with
 | zero =>
  intro listed a _ _ hr hy H
  refine ⟨fun h => (by rw [h] at hr; cases hr), fun j hj => ?_⟩
  by_cases hji : j = i
  ·subst hji; exact mix_self hi hl hy H
  ·have := ready_mono hj hji
   rw [H.1] at this
   cases this
 | succ fuel ih =>
  intro listed a hcl hfree hr hy H
  refine ⟨fun h => (by rw [h] at hr; cases hr), fun j hj => ?_⟩
  by_cases hji : j = i
  ·subst hji; exact mix_self hi hl hy H
  ·have h1 := H.2 j (ready_mono hj hji)
   obtain ⟨hjun, oj, hoj, hall⟩ := mem_ready.1 hj
   have hnot : ∀ e ∈ oj.after, Region.binds md e = true → e.on ≠ i := fun e he hb heq => by
    have h2 := hall e he hb
    rw [heq, unlisted_of_ready hr] at h2
    cases h2
   have hap := hfree j oj hoj hji hjun hnot
   obtain ⟨h1a, h2a, h3a⟩ := Oper.apart_spec hap
   have keep : ∀ (a : Act), YieldsAt P ops w oi v a → ∀ u, YieldsAt P ops w oi v (a.put oj.dst u) := fun a hy u =>
    hy.of_same (execOp_put oi (hsel i oi · · hi) a oj.dst u h3a) (wanted_put oi a oj.dst u h3a)
   have hfree' : ∀ k ok, ops[k]? = some ok → k ≠ i → (listed.setIfInBounds j true).getD k true = false →
     (∀ e ∈ ok.after, Region.binds md e = true → e.on ≠ i) → oi.apart ops ok = true := fun k ok hk hki hun hno => by
    refine hfree k ok hk hki ?_ hno
    by_cases hjk : j = k
    ·subst hjk; exact hjun
    ·rw [getD_set_ne true hjk] at hun; exact hun
   split at h1
   ·rename_i hlj
    have hjlt : j < ops.size := (Array.getElem?_eq_some_iff.1 hoj).1
    rcases hwait j hlj hjlt with hwt | hwt
    ·exact absurd hj (before_ready hcl (unlisted_of_ready hr) hji hwt)
    ·exact absurd hr (before_ready hcl (unlisted_of_ready hj) (Ne.symm hji) hwt)
   ·rename_i hlj
    rw [if_neg hlj]
    refine mix_swap hoj hap (fun cs b => hsel j oj cs b hoj) h1 (fun u hK => ih (listed.setIfInBounds j true) _ (hcl.set hj) hfree' (ready_mono hr (Ne.symm hji)) (keep a hy u) ?_)
    rw [Array.setIfInBounds_comm _ _ hji]
    exact hK

/-! An operation that reads what the calm ones leave alone. -/
theorem wpOp_aside {j : Nat} {oi oj : Oper} {v : Value} (hj : ops[j]? = some oj) (hap : oi.apart ops oj = true) (hsj : ∀ cs b, oj.op ≠ .select cs b)
  (hQ : ∀ c a w, Q (.panic c) (a.put oi.dst v) w → Q (.panic c) a w) {Y : Act → Prop} (hY : ∀ a u, Y a → Y (a.put oj.dst u)) (hYd : ∀ (a : Act) d, Y a → Y { a with defers := d :: a.defers })
  {K : Act → World → Prop} {a : Act} {w : World} (hy : Y a) (h : wpOp P ops Q j K (a.put oi.dst v) w) : wpOp P ops Q j (fun a' w' => Y a' ∧ K (a'.put oi.dst v) w') a w := by
 obtain ⟨h1, h2, _⟩ := Oper.apart_spec hap
 have hx := execOp_put oj hsj a oi.dst v h1
 have on : ∀ (b : Act) u w', Y b → K ((b.put oi.dst v).put oj.dst u) w' → Y (b.put oj.dst u) ∧ K ((b.put oj.dst u).put oi.dst v) w' := fun b u w' hb hk =>
  ⟨hY b u hb, by rw [← Act.put_comm b v u h2]; exact hk⟩
 unfold wpOp at h ⊢
 rw [hj] at h ⊢
 simp only at h ⊢
 rw [wanted_put oj a oi.dst v h1] at h
 by_cases hw : Region.wanted oj (yielded ops a.tmps) = true
 ·rw [if_pos hw] at h ⊢
  refine h.imp (fun h => ?_) (fun h => ⟨?_, h.2⟩)
  ·unfold Oper.wp at h ⊢
   rw [hx] at h
   cases hr : (execOp a.eval oj).run P w with
   | ok n w' =>
    rw [hr] at h
    cases n with
    | value u => exact on a u w' hy h
    | skip => exact on a undef w' hy h
    | defer d => exact on _ undef w' (hYd a d hy) (by rw [← Act.put_defers]; exact h)
    | enter f args =>
     refine Calls.mono h ?_
     intro e w'' he
     cases e with
     | returned u => exact on a u w'' hy he
     | panicked c => exact hQ _ _ _ he
     | outgrown => exact he
    | row r args => exact Rows.mono h fun u w'' he => on a u w'' hy he
    | _ => exact h
   | halt x w' =>
    rw [hr] at h
    cases x with
    | panic u => exact hQ _ _ _ h
    | _ => exact h
  ·have := h.1
   unfold Oper.asks at this ⊢
   rw [hx] at this
   exact this
 ·rw [if_neg hw] at h ⊢
  exact on a undef w hy h

theorem mix_first_s {i : Nat} {oi : Oper} {v : Value} (hi : ops[i]? = some oi) (hl : loud i = false) (hsel : ∀ (j : Nat) (o : Oper) cs b, ops[j]? = some o → o.op ≠ .select cs b)
  (hQ : ∀ c a w, Q (.panic c) (a.put oi.dst v) w → Q (.panic c) a w)
  (hwait : ∀ j, loud j = true → j < ops.size → calm j = true ∨ Before md ops i j ∨ Before md ops j i) :
  ∀ (fuel : Nat) (listed : Array Bool) (a : Act) (w : World), Closed md ops listed →
   (∀ j oj, ops[j]? = some oj → j ≠ i → listed.getD j true = false → (∀ e ∈ oj.after, Region.binds md e = true → e.on ≠ i) → oi.apart ops oj = true) →
   i ∈ Region.ready md ops listed → (∀ w', row.ok w w' → YieldsAt P ops w' oi v a) →
   wpMix P md ops Q loud calm row fuel (listed.setIfInBounds i true) (a.put oi.dst v) w → wpMix P md ops Q loud calm row (fuel + 1) listed a w := by
 intro fuel
 induction fuel with
 | zero =>
  intro listed a w _ _ hr hy H
  refine ⟨fun h => (by rw [h] at hr; cases hr), fun j hj => ?_⟩
  by_cases hji : j = i
  ·subst hji; exact mix_self hi hl (hy w (row.self w)) H
  ·have := ready_mono hj hji
   rw [H.1] at this
   cases this
 | succ fuel ih =>
  intro listed a w hcl hfree hr hy H
  refine ⟨fun h => (by rw [h] at hr; cases hr), fun j hj => ?_⟩
  by_cases hji : j = i
  ·subst hji; exact mix_self hi hl (hy w (row.self w)) H
  ·have h1 := H.2 j (ready_mono hj hji)
   obtain ⟨hjun, oj, hoj, hall⟩ := mem_ready.1 hj
   have hnot : ∀ e ∈ oj.after, Region.binds md e = true → e.on ≠ i := fun e he hb heq => by
    have h2 := hall e he hb
    rw [heq, unlisted_of_ready hr] at h2
    cases h2
   have hap := hfree j oj hoj hji hjun hnot
   obtain ⟨h1a, h2a, h3a⟩ := Oper.apart_spec hap
   have keep : ∀ (a : Act) u, (∀ w', row.ok w w' → YieldsAt P ops w' oi v a) → ∀ w', row.ok w w' → YieldsAt P ops w' oi v (a.put oj.dst u) := fun a u hy w' hg =>
    (hy w' hg).of_same (execOp_put oi (hsel i oi · · hi) a oj.dst u h3a) (wanted_put oi a oj.dst u h3a)
   have keepD : ∀ (a : Act) d, (∀ w', row.ok w w' → YieldsAt P ops w' oi v a) → ∀ w', row.ok w w' → YieldsAt P ops w' oi v { a with defers := d :: a.defers } := fun a d hy w' hg =>
    (hy w' hg).of_same rfl rfl
   have hfree' : ∀ k ok, ops[k]? = some ok → k ≠ i → (listed.setIfInBounds j true).getD k true = false →
     (∀ e ∈ ok.after, Region.binds md e = true → e.on ≠ i) → oi.apart ops ok = true := fun k ok hk hki hun hno => by
    refine hfree k ok hk hki ?_ hno
    by_cases hjk : j = k
    ·subst hjk; exact hjun
    ·rw [getD_set_ne true hjk] at hun; exact hun
   split at h1
   ·rename_i hlj
    rw [if_pos hlj]
    have hjlt : j < ops.size := (Array.getElem?_eq_some_iff.1 hoj).1
    rcases hwait j hlj hjlt with hwt | hwt | hwt
    ·have h2 := wpOp_aside hoj hap (fun cs b => hsel j oj cs b hoj) hQ keep keepD hy h1
     refine wpOp_mono (fun a' w' h3 => ⟨h3.2.1, ih (listed.setIfInBounds j true) a' w' (hcl.set hj) hfree' (ready_mono hr (Ne.symm hji)) (fun w2 hg => h3.1 w2 (Rw.step (h3.2.1 hwt) hg)) ?_⟩) h2
     rw [Array.setIfInBounds_comm _ _ hji]
     exact h3.2.2
    ·exact absurd hj (before_ready hcl (unlisted_of_ready hr) hji hwt)
    ·exact absurd hr (before_ready hcl (unlisted_of_ready hj) (Ne.symm hji) hwt)
   ·rename_i hlj
    rw [if_neg hlj]
    refine mix_swap hoj hap (fun cs b => hsel j oj cs b hoj) h1 (fun u hK => ih (listed.setIfInBounds j true) _ w (hcl.set hj) hfree' (ready_mono hr (Ne.symm hji)) (keep a u hy) ?_)
    rw [Array.setIfInBounds_comm _ _ hji]
    exact hK

theorem mix_only {i : Nat} {f : Nat} {listed : Array Bool} {a : Act} {w : World} (hl : loud i = true) (hk : i ∈ Region.ready md ops listed) (hr : ∀ j ∈ Region.ready md ops listed, j = i)
  (h : wpOp P ops Q i (fun a' w' => (calm i = true → row.ok w w') ∧ wpMix P md ops Q loud calm row f (listed.setIfInBounds i true) a' w') a w) : wpMix P md ops Q loud calm row (f + 1) listed a w := by
 refine ⟨fun h0 => (by rw [h0] at hk; cases hk), fun j hj => ?_⟩
 have hji : j = i := hr j hj
 subst hji
 rw [if_pos hl]
 exact h

/-! The check, by computing: sets of places are numbers, a bit for each. -/
def emask (md : Region.Mode) (acc : List Nat) : List Edge → Nat
 | [] => 0
 | e :: es => if Region.binds md e then (2 ^ e.on ||| acc.getD e.on 0) ||| emask md acc es else emask md acc es
def dmask (md : Region.Mode) (o : Oper) : Nat := emask md [] o.after.toList
def ancs (md : Region.Mode) : List Oper → List Nat → List Nat
 | [], acc => acc
 | o :: l, acc => ancs md l (acc ++ [emask md acc o.after.toList])
theorem emask_bit {acc : List Nat} {i : Nat} : ∀ {es : List Edge}, (emask md acc es).testBit i = true ↔ ∃ e ∈ es, Region.binds md e = true ∧ (e.on = i ∨ (acc.getD e.on 0).testBit i = true)
 | [] => by simp [emask]
 | e :: es => by
  have ih := emask_bit (acc := acc) (i := i) (es := es)
  unfold emask
  by_cases hb : Region.binds md e = true
  ·rw [if_pos hb]
   simp only [Nat.testBit_or, Nat.testBit_two_pow, Bool.or_eq_true, decide_eq_true_eq, ih, List.mem_cons, exists_eq_or_imp, hb, true_and]
  ·rw [if_neg hb, ih]
   simp only [List.mem_cons, exists_eq_or_imp, hb, false_and, false_or, Bool.false_eq_true]
theorem dmask_bit {o : Oper} {i : Nat} : (dmask md o).testBit i = true ↔ ∃ e ∈ o.after, Region.binds md e = true ∧ e.on = i := by
 unfold dmask
 rw [emask_bit]
 simp
theorem ancs_spec : ∀ (l : List Oper) (acc : List Nat), (∀ j, l[j]? = ops[acc.length + j]?) → (∀ j i, (acc.getD j 0).testBit i = true → Before md ops i j) → ∀ j i, ((ancs md l acc).getD j 0).testBit i = true → Before md ops i j
 | [], _, _, h => h
 | o :: l, acc, hl, h => by
  refine ancs_spec l (acc ++ [emask md acc o.after.toList]) (fun j => ?_) (fun j i hb => ?_)
  ·have := hl (j + 1)
   simpa [Nat.add_assoc, Nat.add_comm 1 j] using this
  ·rcases Nat.lt_trichotomy j acc.length with hj | hj | hj
   ·rw [List.getD_eq_getElem?_getD, List.getElem?_append_left hj, ← List.getD_eq_getElem?_getD] at hb
    exact h j i hb
   ·subst hj
    rw [List.getD_eq_getElem?_getD, List.getElem?_append_right (Nat.le_refl _)] at hb
    simp only [Nat.sub_self, List.getElem?_cons_zero, Option.getD_some] at hb
    obtain ⟨e, he, hbd, h2⟩ := emask_bit.1 hb
    intro listed hcl hlj
    have h0 : ops[acc.length]? = some o := by simpa using (hl 0).symm
    have h3 := hcl _ o h0 hlj e (by simpa using he) hbd
    rcases h2 with h2 | h2
    ·rw [← h2]; exact h3
    ·exact h _ _ h2 listed hcl h3
   ·rw [List.getD_eq_getElem?_getD, List.getElem?_eq_none (by simp; omega)] at hb
    simp at hb

def rdyK (D : List Nat) (m k : Nat) : Bool := match D[k]? with
 | some d => !Nat.testBit m k && Nat.beq (Nat.land d m) d
 | none => false
def onlyK (m k : Nat) : List Nat → Nat → Bool
 | [], _ => true
 | d :: D, j => (Nat.beq j k || (Nat.testBit m j || !Nat.beq (Nat.land d m) d)) && onlyK m k D (j + 1)
def freeK (ops : Array Oper) (oi : Oper) (m k : Nat) : List Oper → List Nat → Nat → Bool
 | o :: l, d :: D, j => (Nat.beq j k || (Nat.testBit m j || (Nat.testBit d k || oi.apart ops o))) && freeK ops oi m k l D (j + 1)
 | _, _, _ => true
def freeAt (ops : Array Oper) (l : List Oper) (D : List Nat) (m k : Nat) : Bool := match ops[k]? with
 | some oi => freeK ops oi m k l D 0
 | none => false
def crossK (L k ak : Nat) : List Nat → Nat → Bool
 | [], _ => true
 | a :: A, j => (!Nat.testBit L j || (Nat.testBit ak j || Nat.testBit a k)) && crossK L k ak A (j + 1)
def chk (ops : Array Oper) (l : List Oper) (D A : List Nat) (L C : Nat) : List (Tag × Nat) → Nat → Bool
 | [], m => onlyK m D.length D 0
 | (.l, k) :: ts, m => ((Nat.testBit L k && !Nat.testBit C k) && (rdyK D m k && onlyK m k D 0)) && chk ops l D A L C ts (m ||| 2 ^ k)
 | (.c, k) :: ts, m => (Nat.testBit L k && (rdyK D m k && onlyK m k D 0)) && chk ops l D A L C ts (m ||| 2 ^ k)
 | (.p, k) :: ts, m => (!Nat.testBit L k && (rdyK D m k && freeAt ops l D m k)) && chk ops l D A L C ts (m ||| 2 ^ k)
 | (.r, k) :: ts, m => (!Nat.testBit L k && (rdyK D m k && (freeAt ops l D m k && crossK L k (A.getD k 0) A 0))) && chk ops l D A L C ts (m ||| 2 ^ k)
 | (.s, k) :: ts, m => (!Nat.testBit L k && (rdyK D m k && (freeAt ops l D m k && crossK (L ^^^ (L &&& C)) k (A.getD k 0) A 0))) && chk ops l D A L C ts (m ||| 2 ^ k)
 | (.f m' L' C', _) :: _, m => Nat.beq m m' && (Nat.beq L L' && Nat.beq C C')
 | (.g _ _ _, _) :: _, _ => false
def opsOf (ops : Array Oper) : List (Tag × Nat) → List (Option Oper)
 | [] => []
 | (.f _ _ _, _) :: _ => []
 | (_, k) :: ts => ops[k]? :: opsOf ops ts
def extra : List (Tag × Nat) → Nat
 | [] => 0
 | (.f _ _ _, n) :: _ => n
 | _ :: ts => extra ts

structure Marks (md : Region.Mode) (ops : Array Oper) (D A : List Nat) (listed : Array Bool) (m : Nat) : Prop where
 size : listed.size = ops.size
 bits : ∀ j, listed.getD j false = Nat.testBit m j
 D : D = ops.toList.map (dmask md)
 A : A = ancs md ops.toList []
 select : Region.noSelect ops = true
 closed : Closed md ops listed

section
variable {D A : List Nat} {listed : Array Bool} {m : Nat}
theorem land_eq {d m : Nat} : Nat.beq (Nat.land d m) d = true ↔ ∀ i, d.testBit i = true → m.testBit i = true := by
 constructor
 ·intro h i hi
  have h2 : (d &&& m).testBit i = true := by show (Nat.land d m).testBit i = true; rw [Nat.eq_of_beq_eq_true h]; exact hi
  rw [Nat.testBit_and, Bool.and_eq_true] at h2
  exact h2.2
 ·intro h
  have e : Nat.land d m = d := ?_
  ·rw [e]; exact Nat.beq_refl d
  refine Nat.eq_of_testBit_eq fun i => ?_
  show (d &&& m).testBit i = d.testBit i
  rw [Nat.testBit_and]
  cases hd : d.testBit i with
  | false => rfl
  | true => rw [h i hd]; rfl
theorem Marks.getD (h : Marks md ops D A listed m) {j : Nat} (hj : j < ops.size) : listed.getD j true = Nat.testBit m j := by
 rw [← h.bits j]
 have : j < listed.size := by rw [h.size]; exact hj
 simp [this]
theorem Marks.dAt (h : Marks md ops D A listed m) {j : Nat} {o : Oper} (hj : ops[j]? = some o) : D[j]? = some (dmask md o) := by
 rw [h.D, List.getElem?_map, Array.getElem?_toList, hj]; rfl
theorem Marks.subset (h : Marks md ops D A listed m) {o : Oper} : Nat.beq (Nat.land (dmask md o) m) (dmask md o) = true ↔ ∀ e ∈ o.after, Region.binds md e = true → listed.getD e.on false = true := by
 rw [land_eq]
 constructor
 ·intro h2 e he hb
  rw [h.bits]
  exact h2 _ (dmask_bit.2 ⟨e, he, hb, rfl⟩)
 ·intro h2 i hi
  obtain ⟨e, he, hb, rfl⟩ := dmask_bit.1 hi
  rw [← h.bits]
  exact h2 e he hb
theorem Marks.ready (h : Marks md ops D A listed m) {k : Nat} (hk : rdyK D m k = true) : k ∈ Region.ready md ops listed := by
 unfold rdyK at hk
 split at hk
 ·rename_i d hd
  simp only [Bool.and_eq_true, Bool.not_eq_true'] at hk
  have hlt : k < ops.size := by
   have := (List.getElem?_eq_some_iff.1 hd).1
   rw [h.D] at this
   simpa using this
  obtain ⟨o, ho⟩ : ∃ o, ops[k]? = some o := ⟨_, Array.getElem?_eq_getElem hlt⟩
  rw [h.dAt ho] at hd
  injection hd with hd
  rw [← hd] at hk
  exact mem_ready.2 ⟨by rw [h.getD hlt]; exact hk.1, o, ho, h.subset.1 hk.2⟩
 ·cases hk
theorem onlyK_spec {k : Nat} : ∀ (D : List Nat) (j : Nat), onlyK m k D j = true → ∀ i d, D[i]? = some d → j + i = k ∨ m.testBit (j + i) = true ∨ Nat.beq (Nat.land d m) d = false
 | [], _, _, i, d, hd => by simp at hd
 | d0 :: D, j, hc, i, d, hd => by
  unfold onlyK at hc
  simp only [Bool.and_eq_true, Bool.or_eq_true, Bool.not_eq_true'] at hc
  cases i with
  | zero =>
   simp only [List.getElem?_cons_zero, Option.some.injEq] at hd
   subst hd
   rcases hc.1 with h | h | h
   ·exact .inl (by simpa using Nat.eq_of_beq_eq_true h)
   ·exact .inr (.inl h)
   ·exact .inr (.inr h)
  | succ i =>
   have := onlyK_spec D (j + 1) hc.2 i d (by simpa using hd)
   rw [show j + (i + 1) = j + 1 + i by omega]
   exact this
theorem Marks.only (h : Marks md ops D A listed m) {k : Nat} (hk : onlyK m k D 0 = true) : ∀ j ∈ Region.ready md ops listed, j = k := by
 intro j hj
 obtain ⟨hun, o, ho, hall⟩ := mem_ready.1 hj
 have hlt : j < ops.size := (Array.getElem?_eq_some_iff.1 ho).1
 rw [h.getD hlt] at hun
 rcases onlyK_spec D 0 hk j _ (h.dAt ho) with h1 | h1 | h1
 ·simpa using h1
 ·rw [Nat.zero_add, hun] at h1; cases h1
 ·rw [h.subset.2 hall] at h1; cases h1
theorem freeK_spec {oi : Oper} {k : Nat} : ∀ (l : List Oper) (j : Nat), freeK ops oi m k l (l.map (dmask md)) j = true → ∀ i o, l[i]? = some o → j + i = k ∨ m.testBit (j + i) = true ∨ (dmask md o).testBit k = true ∨ oi.apart ops o = true
 | [], _, _, i, o, ho => by simp at ho
 | o0 :: l, j, hc, i, o, ho => by
  simp only [List.map_cons, freeK, Bool.and_eq_true, Bool.or_eq_true] at hc
  cases i with
  | zero =>
   simp only [List.getElem?_cons_zero, Option.some.injEq] at ho
   subst ho
   rcases hc.1 with h | h | h | h
   ·exact .inl (by simpa using Nat.eq_of_beq_eq_true h)
   ·exact .inr (.inl h)
   ·exact .inr (.inr (.inl h))
   ·exact .inr (.inr (.inr h))
  | succ i =>
   have := freeK_spec l (j + 1) hc.2 i o (by simpa using ho)
   rw [show j + (i + 1) = j + 1 + i by omega]
   exact this
theorem Marks.free (h : Marks md ops D A listed m) {k : Nat} {oi : Oper} (hi : ops[k]? = some oi) (hk : freeAt ops ops.toList D m k = true) :
  ∀ j oj, ops[j]? = some oj → j ≠ k → listed.getD j true = false → (∀ e ∈ oj.after, Region.binds md e = true → e.on ≠ k) → oi.apart ops oj = true := by
 intro j oj hj hne hun hno
 unfold freeAt at hk
 rw [hi] at hk
 simp only at hk
 rw [h.D] at hk
 have hlt : j < ops.size := (Array.getElem?_eq_some_iff.1 hj).1
 rw [h.getD hlt] at hun
 rcases freeK_spec ops.toList 0 hk j oj (by rw [Array.getElem?_toList]; exact hj) with h1 | h1 | h1 | h1
 ·exact absurd (by simpa using h1) hne
 ·rw [Nat.zero_add, hun] at h1; cases h1
 ·obtain ⟨e, he, hb, h2⟩ := dmask_bit.1 h1
  exact absurd h2 (hno e he hb)
 ·exact h1
theorem crossK_spec {L k ak : Nat} : ∀ (A : List Nat) (j : Nat), crossK L k ak A j = true → ∀ i, i < A.length → L.testBit (j + i) = true → ak.testBit (j + i) = true ∨ (A.getD i 0).testBit k = true
 | [], _, _, i, hi, _ => by simp at hi
 | a :: A, j, hc, i, hi, hl => by
  simp only [crossK, Bool.and_eq_true, Bool.or_eq_true, Bool.not_eq_true'] at hc
  cases i with
  | zero =>
   rcases hc.1 with h | h | h
   ·rw [Nat.add_zero, h] at hl; cases hl
   ·exact .inl h
   ·exact .inr (by simpa using h)
  | succ i =>
   have := crossK_spec A (j + 1) hc.2 i (by simpa using hi) (by rw [show j + 1 + i = j + (i + 1) by omega]; exact hl)
   rw [show j + (i + 1) = j + 1 + i by omega]
   simpa using this
theorem ancs_length : ∀ (l : List Oper) (acc : List Nat), (ancs md l acc).length = acc.length + l.length
 | [], acc => by simp [ancs]
 | o :: l, acc => by rw [ancs, ancs_length]; simp; omega
theorem Marks.cross (h : Marks md ops D A listed m) {L k : Nat} (hk : crossK L k (A.getD k 0) A 0 = true) {j : Nat} (hj : j < ops.size) (hl : L.testBit j = true) : Before md ops k j ∨ Before md ops j k := by
 have hs : ∀ j i, (A.getD j 0).testBit i = true → Before md ops i j := by
  rw [h.A]
  exact ancs_spec ops.toList [] (fun j => by simp) (fun j i hb => by simp at hb)
 have hlen : A.length = ops.size := by rw [h.A, ancs_length]; simp
 rcases crossK_spec A 0 hk j (by omega) (by rw [Nat.zero_add]; exact hl) with h1 | h1
 ·rw [Nat.zero_add] at h1; exact .inr (hs _ _ h1)
 ·exact .inl (hs _ _ h1)
theorem Marks.set (h : Marks md ops D A listed m) {k : Nat} (hk : k ∈ Region.ready md ops listed) : Marks md ops D A (listed.setIfInBounds k true) (m ||| 2 ^ k) := by
 have hlt : k < listed.size := by
  rw [h.size]
  obtain ⟨_, o, ho, _⟩ := mem_ready.1 hk
  exact (Array.getElem?_eq_some_iff.1 ho).1
 refine ⟨by simp [h.size], fun j => ?_, h.D, h.A, h.select, h.closed.set hk⟩
 rw [Nat.testBit_or, Nat.testBit_two_pow]
 by_cases hj : k = j
 ·subst hj; simp [hlt]
 ·rw [getD_set_ne false hj, h.bits j]; simp [hj]
end
end

/-! The region's walk. 'tg': nothing where the order is given; else the row that calm operations may change, what is known of the edges and of what is loud, and the tags that are left with their places. -/
abbrev Tags := Option (Rw × List (Tag × Nat))
def Tags.tail : Tags → Tags
 | some (row, _ :: ts) => some (row, ts)
 | t => t
def Tags.loud : Tags → Bool
 | none => true
 | some (_, (.l, _) :: _) => true
 | some (_, (.c, _) :: _) => true
 | some (_, (.g _ _ _, _) :: _) => true
 | _ => false
def Tags.calm : Tags → Bool
 | some (_, (.c, _) :: _) => true
 | some (_, (.g _ _ C, k) :: _) => Nat.testBit C k
 | _ => false
def Tags.rw : Tags → Rw
 | some (row, _) => row
 | none => (none, none)
def Tags.row (tg : Tags) : Option Nat := tg.rw.1
def Tags.reads : Tags → Bool
 | none => true
 | some (_, (.l, _) :: _) => true
 | some (_, (.c, _) :: _) => true
 | some (_, (.r, _) :: _) => true
 | some (_, (.g _ _ _, _) :: _) => true
 | _ => false
def Tags.stays : Tags → Bool
 | some (_, (.s, _) :: _) => true
 | t => t.reads

def Left (P : Program) (Q : Exit → Act → World → Prop) (ops : Array Oper) : Tags → List Oper → Act → World → Prop
 | none, l, a, w => wpList P ops Q l a w
 | some (row, (.g m L C, k) :: ts), l, a, w => ∀ D A listed o l', l = o :: l' → Marks .any ops D A listed m → ops[k]? = some o → l'.map some = opsOf ops ts → k ∈ Region.ready .any ops listed → chk ops ops.toList D A L C ts (m ||| 2 ^ k) = true →
   wpOp P ops Q k (fun a' w' => (Nat.testBit C k = true → row.ok w w') ∧ wpMix P .any ops Q (Nat.testBit L) (Nat.testBit C) row (l'.length + extra ts) (listed.setIfInBounds k true) a' w') a w
 | some (row, ts), l, a, w => ∀ D A L C listed m, Marks .any ops D A listed m → l.map some = opsOf ops ts → chk ops ops.toList D A L C ts m = true →
   wpMix P .any ops Q (Nat.testBit L) (Nat.testBit C) row (l.length + extra ts) listed a w
theorem left_elim {P : Program} {Q : Exit → Act → World → Prop} {ops : Array Oper} {row : Rw} : ∀ {ts : List (Tag × Nat)} {l : List Oper} {a : Act} {w : World}, Left P Q ops (some (row, ts)) l a w → ∀ {D A : List Nat} {L C : Nat} {listed : Array Bool} {m : Nat}, Marks .any ops D A listed m → l.map some = opsOf ops ts → chk ops ops.toList D A L C ts m = true →
   wpMix P .any ops Q (Nat.testBit L) (Nat.testBit C) row (l.length + extra ts) listed a w
 | [], _, _, _, h, _, _, _, _, _, _, hm, hl, hc => h _ _ _ _ _ _ hm hl hc
 | (.p, _) :: _, _, _, _, h, _, _, _, _, _, _, hm, hl, hc => h _ _ _ _ _ _ hm hl hc
 | (.r, _) :: _, _, _, _, h, _, _, _, _, _, _, hm, hl, hc => h _ _ _ _ _ _ hm hl hc
 | (.l, _) :: _, _, _, _, h, _, _, _, _, _, _, hm, hl, hc => h _ _ _ _ _ _ hm hl hc
 | (.s, _) :: _, _, _, _, h, _, _, _, _, _, _, hm, hl, hc => h _ _ _ _ _ _ hm hl hc
 | (.c, _) :: _, _, _, _, h, _, _, _, _, _, _, hm, hl, hc => h _ _ _ _ _ _ hm hl hc
 | (.f _ _ _, _) :: _, _, _, _, h, _, _, _, _, _, _, hm, hl, hc => h _ _ _ _ _ _ hm hl hc
 | (.g _ _ _, _) :: _, _, _, _, _, _, _, _, _, _, _, _, _, hc => by simp [chk] at hc

def WL (P : Program) (fn : Func) (F : Ending → World → Prop) (N : Nat) (ks : List K) (ops : Array Oper) (tg : Tags) (l : List Oper) (fr : Fr) (w : World) : Prop :=
 ∀ a, Rep N a fr → Left P (kpost P fn F ks) ops tg l a w

section
variable {P : Program} {fn : Func} {F : Ending → World → Prop} {N : Nat} {ks : List K} {ops : Array Oper} {l : List Oper} {fr : Fr} {w : World} {o : Oper} {a : Act} {tg : Tags}

theorem kpost_panic_put {c : List PanicEntry} {x : Option Nat} {v : Value} : ∀ {ks : List K} (a : Act) (w : World), kpost P fn F ks (.panic c) (a.put x v) w → kpost P fn F ks (.panic c) a w
 | [], a, w, h => ⟨by cases x <;> exact h.1, h.2⟩
 | .code _ :: ks, a, w, h => kpost_panic_put (ks := ks) a w h
 | .blk _ :: ks, a, w, h => kpost_panic_put (ks := ks) a w h
 | .inv _ :: ks, a, w, h => kpost_panic_put (ks := ks) a w h

theorem head_of {l : List Oper} {k : Nat} {ts : List (Tag × Nat)} (hl : (o :: l).map some = ops[k]? :: opsOf ops ts) : ops[k]? = some o ∧ l.map some = opsOf ops ts := by
 simp only [List.map_cons, List.cons.injEq] at hl
 exact ⟨hl.1.symm, hl.2⟩
theorem fuel_succ (l : List Oper) (n : Nat) : (o :: l).length + n = (l.length + n) + 1 := by simp; omega

theorem left_loud (ht : tg.loud = true) (h : ∀ K : Act → World → Prop, (∀ a' w', (tg.calm = false ∨ tg.rw.ok w w') → Left P (kpost P fn F ks) ops tg.tail l a' w' → K a' w') → if Region.wanted o (yielded ops a.tmps) then o.wp P a w K (kpost P fn F ks) else K (a.put o.dst undef) w) :
  Left P (kpost P fn F ks) ops tg (o :: l) a w := by
 have fin : ∀ {k : Nat} {K : Act → World → Prop}, ops[k]? = some o → (if Region.wanted o (yielded ops a.tmps) then o.wp P a w K (kpost P fn F ks) else K (a.put o.dst undef) w) → wpOp P ops (kpost P fn F ks) k K a w := by
  intro k K h0 h2
  unfold wpOp
  rw [h0]
  simp only
  split
  ·rename_i hw; rw [if_pos hw] at h2; exact .inl h2
  ·rename_i hw; rw [if_neg hw] at h2; exact h2
 match tg, ht with
 | none, _ =>
  have := h _ (fun _ _ _ h => h)
  show wpList P ops _ (o :: l) a w
  exact wpList_step fun K hK => h K (fun a' w' _ h' => hK a' w' h')
 | some (row, (.l, k) :: ts), _ =>
  intro D A L C listed m hm hl hchk
  obtain ⟨h0, h1⟩ := head_of hl
  rw [show (o :: l).length + extra ((Tag.l, k) :: ts) = (l.length + extra ts) + 1 from fuel_succ l _]
  unfold chk at hchk
  simp only [Bool.and_eq_true, Bool.not_eq_true'] at hchk
  obtain ⟨⟨⟨hlk, hck⟩, hr, ho⟩, hrest⟩ := hchk
  refine mix_only hlk (hm.ready hr) (hm.only ho) (fin h0 (h _ fun a' w' _ h' => ⟨fun e => absurd e (by rw [hck]; simp), ?_⟩))
  exact left_elim h' (hm.set (hm.ready hr)) h1 hrest
 | some (row, (.c, k) :: ts), _ =>
  intro D A L C listed m hm hl hchk
  obtain ⟨h0, h1⟩ := head_of hl
  rw [show (o :: l).length + extra ((Tag.c, k) :: ts) = (l.length + extra ts) + 1 from fuel_succ l _]
  unfold chk at hchk
  simp only [Bool.and_eq_true] at hchk
  obtain ⟨⟨hlk, hr, ho⟩, hrest⟩ := hchk
  refine mix_only hlk (hm.ready hr) (hm.only ho) (fin h0 (h _ fun a' w' hg h' => ⟨fun _ => ?_, ?_⟩))
  ·rcases hg with hg | hg
   ·cases hg
   ·exact hg
  ·exact left_elim h' (hm.set (hm.ready hr)) h1 hrest
 | some (row, (.g m L C, k) :: ts), _ =>
  intro D A listed o' l' e hm h0 h1 hk hrest
  injection e with e1 e2
  subst e1; subst e2
  refine fin h0 (h _ fun a' w' hg h' => ⟨fun hc => ?_, left_elim h' (hm.set hk) h1 hrest⟩)
  rcases hg with hg | hg
  ·exact absurd hc (by show ¬ Nat.testBit C k = true; rw [show Nat.testBit C k = false from hg]; simp)
  ·exact hg

theorem left_read {v : Value} (ht : tg.reads = true) (hy : YieldsAt P ops w o v a) (h : Left P (kpost P fn F ks) ops tg.tail l (a.put o.dst v) w) : Left P (kpost P fn F ks) ops tg (o :: l) a w := by
 have hstep : ∀ K : Act → World → Prop, K (a.put o.dst v) w → if Region.wanted o (yielded ops a.tmps) then o.wp P a w K (kpost P fn F ks) else K (a.put o.dst undef) w := by
  intro K hK
  rcases hy with ⟨hw, hv | ⟨hv, rfl⟩ | ⟨f, args, hv, hc⟩⟩ | ⟨hw, rfl⟩
  ·rw [if_pos hw]; unfold Oper.wp; rw [hv]; exact hK
  ·rw [if_pos hw]; unfold Oper.wp; rw [hv]; exact hK
  ·rw [if_pos hw]; unfold Oper.wp; rw [hv]
   refine Calls.mono hc ?_
   rintro e w'' ⟨rfl, rfl⟩
   exact hK
  ·rw [if_neg (by rw [hw]; simp)]; exact hK
 match tg, ht with
 | none, _ => exact left_loud rfl fun K hK => hstep K (hK _ _ (.inl rfl) h)
 | some (row, (.l, k) :: ts), _ => exact left_loud rfl fun K hK => hstep K (hK _ _ (.inl rfl) h)
 | some (row, (.c, k) :: ts), _ => exact left_loud rfl fun K hK => hstep K (hK _ _ (.inr (row.self w)) h)
 | some (row, (.g _ _ _, k) :: ts), _ => exact left_loud rfl fun K hK => hstep K (hK _ _ (.inr (row.self w)) h)
 | some (row, (.r, k) :: ts), _ =>
  intro D A L C listed m hm hl hchk
  obtain ⟨h0, h1⟩ := head_of hl
  rw [show (o :: l).length + extra ((Tag.r, k) :: ts) = (l.length + extra ts) + 1 from fuel_succ l _]
  unfold chk at hchk
  simp only [Bool.and_eq_true, Bool.not_eq_true'] at hchk
  obtain ⟨⟨hlk, hr, hf, hx⟩, hrest⟩ := hchk
  exact mix_first_r h0 hlk (Region.noSelect_spec hm.select) (fun j hj hlt => hm.cross hx hlt hj) (l.length + extra ts) listed a hm.closed (hm.free h0 hf) (hm.ready hr) hy (left_elim h (hm.set (hm.ready hr)) h1 hrest)

theorem left_stays {v : Value} (ht : tg.stays = true) (hy : ∀ w', tg.rw.ok w w' → YieldsAt P ops w' o v a) (h : Left P (kpost P fn F ks) ops tg.tail l (a.put o.dst v) w) : Left P (kpost P fn F ks) ops tg (o :: l) a w := by
 match tg, ht with
 | none, _ => exact left_read rfl (hy w (Rw.self _ w)) h
 | some (row, (.l, k) :: ts), _ => exact left_read rfl (hy w (Rw.self _ w)) h
 | some (row, (.c, k) :: ts), _ => exact left_read rfl (hy w (Rw.self _ w)) h
 | some (row, (.r, k) :: ts), _ => exact left_read rfl (hy w (Rw.self _ w)) h
 | some (row, (.g _ _ _, k) :: ts), _ => exact left_read rfl (hy w (Rw.self _ w)) h
 | some (row, (.s, k) :: ts), _ =>
  intro D A L C listed m hm hl hchk
  obtain ⟨h0, h1⟩ := head_of hl
  rw [show (o :: l).length + extra ((Tag.s, k) :: ts) = (l.length + extra ts) + 1 from fuel_succ l _]
  unfold chk at hchk
  simp only [Bool.and_eq_true, Bool.not_eq_true'] at hchk
  obtain ⟨⟨hlk, hr, hf, hx⟩, hrest⟩ := hchk
  refine mix_first_s h0 hlk (Region.noSelect_spec hm.select) (fun c a w h => kpost_panic_put a w h) (fun j hj hlt => ?_) (l.length + extra ts) listed a w hm.closed (hm.free h0 hf) (hm.ready hr) hy (left_elim h (hm.set (hm.ready hr)) h1 hrest)
  cases hC : Nat.testBit C j with
  | true => exact .inl rfl
  | false => exact .inr (hm.cross hx hlt (by rw [Nat.testBit_xor, Nat.testBit_and, hj, hC]; rfl))

theorem left_pure {v : Value} (hy : Yields P ops o v a) (h : Left P (kpost P fn F ks) ops tg.tail l (a.put o.dst v) w) : Left P (kpost P fn F ks) ops tg (o :: l) a w := by
 match tg with
 | none => exact left_read rfl (yields_at hy w) h
 | some (row, (.l, k) :: ts) => exact left_read rfl (yields_at hy w) h
 | some (row, (.c, k) :: ts) => exact left_read rfl (yields_at hy w) h
 | some (row, (.r, k) :: ts) => exact left_read rfl (yields_at hy w) h
 | some (row, (.s, k) :: ts) => exact left_stays rfl (fun w' _ => yields_at hy w') h
 | some (row, []) => exact fun D A L C listed m hm hl hchk => by simp [opsOf] at hl
 | some (row, (.f _ _ _, k) :: ts) => exact fun D A L C listed m hm hl hchk => by simp [opsOf] at hl
 | some (row, (.g _ _ _, k) :: ts) => exact left_read rfl (yields_at hy w) h
 | some (row, (.p, k) :: ts) =>
  intro D A L C listed m hm hl hchk
  obtain ⟨h0, h1⟩ := head_of hl
  rw [show (o :: l).length + extra ((Tag.p, k) :: ts) = (l.length + extra ts) + 1 from fuel_succ l _]
  unfold chk at hchk
  simp only [Bool.and_eq_true, Bool.not_eq_true'] at hchk
  obtain ⟨⟨hlk, hr, hf⟩, hrest⟩ := hchk
  exact mix_first_p h0 hlk (Region.noSelect_spec hm.select) (fun c a w h => kpost_panic_put a w h) (l.length + extra ts) listed a w (hm.free h0 hf) (hm.ready hr) hy (left_elim h (hm.set (hm.ready hr)) h1 hrest)

theorem rk_region {id : Nat} {l : List Oper} (h : WL P fn F N ks l.toArray none l fr w) : RK P fn F N (.code (.region id l.toArray false) :: ks) fr w := fun a ha => wp_region_lit (h a ha)
theorem draw_at {id : Nat} {l l' : List Oper} (row : Rw) (D A : List Nat) (L C : Nat) (ts : List (Tag × Nat)) (hm : P.follows .mixedOrders = true) (hD : l.map (dmask .any) = D) (hA : ancs .any l [] = A)
  (hc : (Region.noSelect l.toArray && (Nat.beq (l'.length + extra ts) l.length && chk l.toArray l D A L C ts 0)) = true) (hl : l'.map some = opsOf l.toArray ts)
  (h : WL P fn F N ks l.toArray (some (row, ts)) l' fr w.drew) : RK P fn F N (.code (.region id l.toArray true) :: ks) fr w := fun a ha => by
 simp only [Bool.and_eq_true] at hc
 obtain ⟨h1, h2, h3⟩ := hc
 refine wp_region_any hm (wpAny_of_mix (loud := Nat.testBit L) (calm := Nat.testBit C) (row := row) _ _ _ _ ?_)
 have hno : ∀ j, (Array.replicate l.length false).getD j false = false := fun j => by
  rcases Nat.lt_or_ge j l.length with h' | h'
  ·simp [h']
  ·simp [h']
 have := left_elim (h a ha) (listed := Array.replicate l.length false) (m := 0) ⟨by simp, fun j => by rw [hno j]; simp, hD.symm, hA.symm, h1, fun j oj hj hl => by rw [hno j] at hl; cases hl⟩ hl h3
 rw [Nat.eq_of_beq_eq_true h2] at this
 simpa using this
theorem rk_draw {id : Nat} {l : List Oper} (row : Option Nat) (D A : List Nat) (L C : Nat) (ts : List (Tag × Nat)) (hm : P.follows .mixedOrders = true) (hD : l.map (dmask .any) = D) (hA : ancs .any l [] = A)
  (hc : (Region.noSelect l.toArray && (Nat.beq (l.length + extra ts) l.length && chk l.toArray l D A L C ts 0)) = true) (hl : l.map some = opsOf l.toArray ts)
  (h : WL P fn F N ks l.toArray (some ((row, none), ts)) l fr w.drew) : RK P fn F N (.code (.region id l.toArray true) :: ks) fr w := draw_at (row, none) D A L C ts hm hD hA hc hl h
def nthOp : List Oper → Nat → Option Oper
 | [], _ => none
 | o :: _, 0 => some o
 | _ :: l, k + 1 => nthOp l k
def inOrder (l : List Oper) : List Nat → List Oper
 | [] => []
 | k :: ks => match nthOp l k with
  | some o => o :: inOrder l ks
  | none => inOrder l ks
theorem rk_drawo {id : Nat} {l : List Oper} (row : Option Nat) (D A : List Nat) (L C : Nat) (ord : List Nat) (ts : List (Tag × Nat)) (hm : P.follows .mixedOrders = true) (hD : l.map (dmask .any) = D) (hA : ancs .any l [] = A)
  (hc : (Region.noSelect l.toArray && (Nat.beq ((inOrder l ord).length + extra ts) l.length && chk l.toArray l D A L C ts 0)) = true) (hl : (inOrder l ord).map some = opsOf l.toArray ts)
  (h : WL P fn F N ks l.toArray (some ((row, none), ts)) (inOrder l ord) fr w.drew) : RK P fn F N (.code (.region id l.toArray true) :: ks) fr w := draw_at (row, none) D A L C ts hm hD hA hc hl h
theorem rk_drawoB {id : Nat} {l : List Oper} (row : Option Nat) (D A : List Nat) (L C : Nat) (ord : List Nat) (ts : List (Tag × Nat)) (hm : P.follows .mixedOrders = true) (hD : l.map (dmask .any) = D) (hA : ancs .any l [] = A)
  (hc : (Region.noSelect l.toArray && (Nat.beq ((inOrder l ord).length + extra ts) l.length && chk l.toArray l D A L C ts 0)) = true) (hl : (inOrder l ord).map some = opsOf l.toArray ts)
  (h : WL P fn F N ks l.toArray (some ((row, some (.inl w.heap.size)), ts)) (inOrder l ord) fr w.drew) : RK P fn F N (.code (.region id l.toArray true) :: ks) fr w := draw_at (row, some (.inl w.heap.size)) D A L C ts hm hD hA hc hl h
theorem wl_nil (h : RK P fn F N ks fr w) : WL P fn F N ks ops none [] fr w := fun a ha => (wpList_nil (h a ha) : wpList P ops (kpost P fn F ks) [] a w)
theorem wl_nild {row : Rw} (h : RK P fn F N ks fr w) : WL P fn F N ks ops (some (row, [])) [] fr w := fun a ha D A L C listed m hm _ hchk => by
 unfold chk at hchk
 refine ⟨?_, h a ha⟩
 refine List.eq_nil_iff_forall_not_mem.2 fun j hj => ?_
 have h1 := hm.only hchk j hj
 obtain ⟨_, o, ho, _⟩ := mem_ready.1 hj
 have hlt := (Array.getElem?_eq_some_iff.1 ho).1
 have hD : D = ops.toList.map (dmask .any) := hm.D
 have : D.length = ops.size := by rw [hD]; simp
 have h2 : j = D.length := h1
 omega

/-! Where two operations that change the world may come in either order. -/
def only2 (m k1 k2 : Nat) : List Nat → Nat → Bool
 | [], _ => true
 | d :: D, j => (Nat.beq j k1 || (Nat.beq j k2 || (Nat.testBit m j || !Nat.beq (Nat.land d m) d))) && only2 m k1 k2 D (j + 1)
theorem only2_spec {m k1 k2 : Nat} : ∀ (D : List Nat) (j : Nat), only2 m k1 k2 D j = true → ∀ i d, D[i]? = some d → j + i = k1 ∨ j + i = k2 ∨ m.testBit (j + i) = true ∨ Nat.beq (Nat.land d m) d = false
 | [], _, _, i, d, hd => by simp at hd
 | d0 :: D, j, hc, i, d, hd => by
  unfold only2 at hc
  simp only [Bool.and_eq_true, Bool.or_eq_true, Bool.not_eq_true'] at hc
  cases i with
  | zero =>
   simp only [List.getElem?_cons_zero, Option.some.injEq] at hd
   subst hd
   rcases hc.1 with h | h | h | h
   ·exact .inl (by simpa using Nat.eq_of_beq_eq_true h)
   ·exact .inr (.inl (by simpa using Nat.eq_of_beq_eq_true h))
   ·exact .inr (.inr (.inl h))
   ·exact .inr (.inr (.inr h))
  | succ i =>
   have := only2_spec D (j + 1) hc.2 i d (by simpa using hd)
   rw [show j + (i + 1) = j + 1 + i by omega]
   exact this
theorem Marks.only2 {D A : List Nat} {listed : Array Bool} {m : Nat} (h : Marks .any ops D A listed m) {k1 k2 : Nat} (hk : only2 m k1 k2 D 0 = true) : ∀ j ∈ Region.ready .any ops listed, j = k1 ∨ j = k2 := by
 intro j hj
 obtain ⟨hun, o, ho, hall⟩ := mem_ready.1 hj
 have hlt : j < ops.size := (Array.getElem?_eq_some_iff.1 ho).1
 rw [h.getD hlt] at hun
 rcases only2_spec D 0 hk j _ (h.dAt ho) with h1 | h1 | h1 | h1
 ·exact .inl (by simpa using h1)
 ·exact .inr (by simpa using h1)
 ·rw [Nat.zero_add, hun] at h1; cases h1
 ·rw [h.subset.2 hall] at h1; cases h1
theorem wl_fork2 {row : Rw} {m L C n k1 k2 : Nat} {l1 l2 : List Oper} {ts1 ts2 : List (Tag × Nat)} (D A : List Nat) (hD : ops.toList.map (dmask .any) = D) (hA : ancs .any ops.toList [] = A)
  (hc : (Nat.testBit L k1 && (Nat.testBit L k2 && (rdyK D m k1 && (rdyK D m k2 && (Go.Proofs.YtahkeoegbjopfaaGreat.only2 m k1 k2 D 0 && (Nat.beq n (l1.length + extra ts1) && (Nat.beq n (l2.length + extra ts2) && (chk ops ops.toList D A L C ts1 (m ||| 2 ^ k1) && chk ops ops.toList D A L C ts2 (m ||| 2 ^ k2))))))))) = true)
  (hl1 : l1.map some = ops[k1]? :: opsOf ops ts1) (hl2 : l2.map some = ops[k2]? :: opsOf ops ts2)
  (h1 : WL P fn F N ks ops (some (row, (.g m L C, k1) :: ts1)) l1 fr w) (h2 : WL P fn F N ks ops (some (row, (.g m L C, k2) :: ts2)) l2 fr w) : WL P fn F N ks ops (some (row, [(.f m L C, n)])) [] fr w := fun a ha => by
 intro D' A' L' C' listed m' hm _ hchk
 unfold chk at hchk
 simp only [Bool.and_eq_true] at hchk hc
 obtain ⟨hm1, hL1, hC1⟩ := hchk
 obtain rfl := Nat.eq_of_beq_eq_true hm1
 obtain rfl := Nat.eq_of_beq_eq_true hL1
 obtain rfl := Nat.eq_of_beq_eq_true hC1
 obtain rfl : D' = D := by rw [hm.D, hD]
 obtain rfl : A' = A := by rw [hm.A, hA]
 obtain ⟨c1, c2, c3, c4, c5, c6, c7, c8, c9⟩ := hc
 obtain ⟨o1, r1, rfl⟩ : ∃ o r, l1 = o :: r := by cases l1 with | nil => simp at hl1 | cons o r => exact ⟨o, r, rfl⟩
 obtain ⟨o2, r2, rfl⟩ : ∃ o r, l2 = o :: r := by cases l2 with | nil => simp at hl2 | cons o r => exact ⟨o, r, rfl⟩
 obtain ⟨a1, b1⟩ := head_of hl1
 obtain ⟨a2, b2⟩ := head_of hl2
 have e1 : n = (r1.length + extra ts1) + 1 := by have := Nat.eq_of_beq_eq_true c6; rw [this]; exact fuel_succ r1 _
 have e2 : n = (r2.length + extra ts2) + 1 := by have := Nat.eq_of_beq_eq_true c7; rw [this]; exact fuel_succ r2 _
 have w1 := h1 a ha D' A' listed o1 r1 rfl hm a1 b1 (hm.ready c3) c8
 have w2 := h2 a ha D' A' listed o2 r2 rfl hm a2 b2 (hm.ready c4) c9
 have e0 : r1.length + extra ts1 = r2.length + extra ts2 := by omega
 show wpMix P .any ops _ _ _ row (0 + n) listed a w
 rw [Nat.zero_add, e1]
 refine ⟨fun h => (by have := hm.ready c3; rw [h] at this; cases this), fun j hj => ?_⟩
 rcases hm.only2 c5 j hj with rfl | rfl
 ·rw [if_pos c1]; exact w1
 ·rw [if_pos c2, e0]; exact w2
theorem wl_fork2j {row : Rw} {m L C n k1 k2 : Nat} {ops : List Oper} (R : Fr → World → Prop) (D A : List Nat) (ord1 ord2 ordR : List Nat) (ts1 ts2 tsR : List (Tag × Nat)) (hD : ops.map (dmask .any) = D) (hA : ancs .any ops [] = A)
  (hc : (Nat.testBit L k1 && (Nat.testBit L k2 && (rdyK D m k1 && (rdyK D m k2 && (Go.Proofs.YtahkeoegbjopfaaGreat.only2 m k1 k2 D 0 && (Nat.beq n ((inOrder ops ord1).length + extra ts1) && (Nat.beq n ((inOrder ops ord2).length + extra ts2) && (chk ops.toArray ops D A L C ts1 (m ||| 2 ^ k1) && chk ops.toArray ops D A L C ts2 (m ||| 2 ^ k2))))))))) = true)
  (hl1 : (inOrder ops ord1).map some = ops.toArray[k1]? :: opsOf ops.toArray ts1) (hl2 : (inOrder ops ord2).map some = ops.toArray[k2]? :: opsOf ops.toArray ts2)
  (h0 : ∀ fr w, R fr w → WL P fn F N ks ops.toArray (some (row, tsR)) (inOrder ops ordR) fr w)
  (h1 : (∀ fr w, R fr w → WL P fn F N ks ops.toArray (some (row, tsR)) (inOrder ops ordR) fr w) → WL P fn F N ks ops.toArray (some (row, (.g m L C, k1) :: ts1)) (inOrder ops ord1) fr w)
  (h2 : (∀ fr w, R fr w → WL P fn F N ks ops.toArray (some (row, tsR)) (inOrder ops ordR) fr w) → WL P fn F N ks ops.toArray (some (row, (.g m L C, k2) :: ts2)) (inOrder ops ord2) fr w) : WL P fn F N ks ops.toArray (some (row, [(.f m L C, n)])) [] fr w :=
 wl_fork2 D A hD hA hc hl1 hl2 (h1 h0) (h2 h0)
end

end Go.Proofs.YtahkeoegbjopfaaGreat
namespace Go.Proofs.YtahkeoegbjopfaaGreat
set_option maxRecDepth 100000
open Go.RowKit

def OpV (P : Program) (N : Nat) (fr : Fr) (w : World) (op : Op) (ty : TypeId) (v : Value) (w' : World) : Prop :=
 ∀ a, Rep N a fr → ∀ o : Oper, o.op = op → o.type = ty → (execOp a.eval o).run P w = .ok (.value v) w'
def OpU (P : Program) (N : Nat) (fr : Fr) (w : World) (op : Op) (w' : World) : Prop :=
 ∀ a, Rep N a fr → ∀ o : Oper, o.op = op → (execOp a.eval o).run P w = .ok .skip w'

/-! Guards. -/
def isB (b : Bool) : Value → Bool
 | .bool x => x == b
 | _ => false
def guardV (ops : Array Oper) (fr : Fr) (j : Nat) : Option Value := match (ops[j]?).bind (·.dst) with
 | some t => fr.get t
 | none => none
def onG (ops : Array Oper) (fr : Fr) : Option (Nat × Bool) → Bool
 | none => true
 | some (j, b) => match guardV ops fr j with
  | some u => isB b u
  | none => false
def offG (ops : Array Oper) (fr : Fr) : Option (Nat × Bool) → Bool
 | none => false
 | some (j, b) => match guardV ops fr j with
  | some u => !isB b u
  | none => false

section
variable {P : Program} {fn : Func} {F : Ending → World → Prop} {N : Nat} {ks : List K} {ops : Array Oper} {tg : Tags} {l : List Oper} {fr : Fr} {w w' : World} {op : Op} {ty : TypeId} {pos : String} {aft : Array Edge} {g : Option (Nat × Bool)} {v : Value} {d : Nat}

theorem wanted_at {a : Act} {o : Oper} {j : Nat} {b : Bool} {u : Value} (ha : Rep N a fr) (hg : o.guard = some (j, b)) (hu : guardV ops fr j = some u) : Region.wanted o (yielded ops a.tmps) = isB b u := by
 unfold guardV at hu
 split at hu
 ·rename_i t ht
  have h1 := ha.get t u hu
  unfold Region.wanted
  rw [hg]
  simp only [yielded, ht, Option.bind_some, h1]
  cases u <;> simp [isB] <;> (try (cases b <;> simp))
 ·cases hu
theorem wanted_on {a : Act} {o : Oper} (ha : Rep N a fr) (hg : onG ops fr o.guard = true) : Region.wanted o (yielded ops a.tmps) = true := by
 cases ho : o.guard with
 | none => simp [Region.wanted, ho]
 | some jb =>
  obtain ⟨j, b⟩ := jb
  rw [ho] at hg
  unfold onG at hg
  cases hu : guardV ops fr j with
  | none => simp only [hu] at hg; cases hg
  | some u => simp only [hu] at hg; rw [wanted_at ha ho hu]; exact hg
theorem wanted_off {a : Act} {o : Oper} (ha : Rep N a fr) (hg : offG ops fr o.guard = true) : Region.wanted o (yielded ops a.tmps) = false := by
 cases ho : o.guard with
 | none => rw [ho] at hg; cases hg
 | some jb =>
  obtain ⟨j, b⟩ := jb
  rw [ho] at hg
  unfold offG at hg
  cases hu : guardV ops fr j with
  | none => simp only [hu] at hg; cases hg
  | some u => simp only [hu] at hg; rw [wanted_at ha ho hu]; simpa using hg

theorem wl_p (h : ∀ w, OpV P N fr w op ty v w) (hk : WL P fn F N ks ops tg.tail l ((d, v) :: fr) w) (hg : onG ops fr g = true := by rfl) (hd : Nat.blt d N = true := by rfl) :
  WL P fn F N ks ops tg (⟨some d, op, ty, pos, aft, g⟩ :: l) fr w :=
 fun a ha => left_pure (v := v) (.inl ⟨wanted_on (o := ⟨some d, op, ty, pos, aft, g⟩) ha hg, fun w => h w a ha _ rfl rfl⟩) (hk _ (ha.put hd v))
theorem wl_r (h : OpV P N fr w op ty v w) (hk : WL P fn F N ks ops tg.tail l ((d, v) :: fr) w) (ht : tg.reads = true := by rfl) (hg : onG ops fr g = true := by rfl) (hd : Nat.blt d N = true := by rfl) :
  WL P fn F N ks ops tg (⟨some d, op, ty, pos, aft, g⟩ :: l) fr w :=
 fun a ha => left_read (v := v) ht (.inl ⟨wanted_on (o := ⟨some d, op, ty, pos, aft, g⟩) ha hg, .inl (h a ha _ rfl rfl)⟩) (hk _ (ha.put hd v))
theorem wl_s (h : ∀ w', tg.rw.ok w w' → OpV P N fr w' op ty v w') (hk : WL P fn F N ks ops tg.tail l ((d, v) :: fr) w) (ht : tg.stays = true := by rfl) (hg : onG ops fr g = true := by rfl) (hd : Nat.blt d N = true := by rfl) :
  WL P fn F N ks ops tg (⟨some d, op, ty, pos, aft, g⟩ :: l) fr w :=
 fun a ha => left_stays (v := v) ht (fun w' hg' => .inl ⟨wanted_on (o := ⟨some d, op, ty, pos, aft, g⟩) ha hg, .inl (h w' hg' a ha _ rfl rfl)⟩) (hk _ (ha.put hd v))
theorem grown_of_below {a b : World} (h : Below a.heap.size a b) (row : Option Nat) : a.grownBy b row := ⟨h.os, h.tape, h.output, h.size, fun k hk _ => h.block k hk⟩
theorem grown_wide {a b : World} (h : a.grownBy b none) (row : Option Nat) : a.grownBy b row := ⟨h.os, h.tape, h.output, h.size, fun k hk _ => h.block k hk (by simp)⟩
theorem below_of_grown_none {a b : World} (h : a.grownBy b none) : Below a.heap.size a b := ⟨h.os, h.tape, h.output, h.size, fun k hk => h.block k hk (by simp)⟩
theorem wl_off (hk : WL P fn F N ks ops tg.tail l ((d, undef) :: fr) w) (hg : offG ops fr g = true := by rfl) (hd : Nat.blt d N = true := by rfl) :
  WL P fn F N ks ops tg (⟨some d, op, ty, pos, aft, g⟩ :: l) fr w :=
 fun _ ha => left_pure (v := undef) (.inr ⟨wanted_off (o := ⟨some d, op, ty, pos, aft, g⟩) ha hg, rfl⟩) (hk _ (ha.put hd undef))
theorem wl_v (h : OpV P N fr w op ty v w') (hk : WL P fn F N ks ops tg.tail l ((d, v) :: fr) w') (ht : tg.loud = true := by rfl) (hg : onG ops fr g = true := by rfl) (hd : Nat.blt d N = true := by rfl) (hq : tg.calm = false ∨ w.grownBy w' tg.row := by exact .inl rfl) :
  WL P fn F N ks ops tg (⟨some d, op, ty, pos, aft, g⟩ :: l) fr w :=
 fun a ha => left_loud ht fun K hK => by
  rw [if_pos (wanted_on (o := ⟨some d, op, ty, pos, aft, g⟩) ha hg)]
  unfold Oper.wp
  rw [h a ha _ rfl rfl]
  exact hK _ _ (hq.imp id Rw.of) (hk _ (ha.put hd v))
theorem wl_v0 (h : OpV P N fr w op ty v w') (hk : WL P fn F N ks ops tg.tail l fr w') (ht : tg.loud = true := by rfl) (hg : onG ops fr g = true := by rfl) (hq : tg.calm = false ∨ w.grownBy w' tg.row := by exact .inl rfl) :
  WL P fn F N ks ops tg (⟨none, op, ty, pos, aft, g⟩ :: l) fr w :=
 fun a ha => left_loud ht fun K hK => by
  rw [if_pos (wanted_on (o := ⟨none, op, ty, pos, aft, g⟩) ha hg)]
  unfold Oper.wp
  rw [h a ha _ rfl rfl]
  exact hK _ _ (hq.imp id Rw.of) (hk _ ha)
theorem wl_u (h : OpU P N fr w op w') (hk : WL P fn F N ks ops tg.tail l fr w') (ht : tg.loud = true := by rfl) (hg : onG ops fr g = true := by rfl) (hq : tg.calm = false ∨ tg.rw.ok w w' := by exact .inl rfl) :
  WL P fn F N ks ops tg (⟨none, op, ty, pos, aft, g⟩ :: l) fr w :=
 fun a ha => left_loud ht fun K hK => by
  rw [if_pos (wanted_on (o := ⟨none, op, ty, pos, aft, g⟩) ha hg)]
  unfold Oper.wp
  rw [h a ha _ rfl]
  exact hK _ _ hq (hk _ ha)
theorem wl_bool (t : Nat) {b : Bool} (ht : fr.get t = some (.bool b)) (h1 : b = true → WL P fn F N ks ops tg l ((t, .bool true) :: fr) w) (h0 : b = false → WL P fn F N ks ops tg l ((t, .bool false) :: fr) w) :
  WL P fn F N ks ops tg l fr w := fun a ha => by
 have hr : ∀ c : Bool, b = c → Rep N a ((t, .bool c) :: fr) := fun c hc => ⟨ha.size, ha.defers, fun u x hx => by
  rw [Fr.get_cons] at hx
  by_cases e : t = u
  ·subst e
   rw [if_pos rfl] at hx
   rw [← Option.some.inj hx, ← hc]
   exact ha.get t _ ht
  ·rw [if_neg e] at hx
   exact ha.get u x hx⟩
 cases hb : b with
 | true => exact h1 hb a (hr true hb)
 | false => exact h0 hb a (hr false hb)
theorem wl_know (t : Nat) {b : Bool} (c : Bool) (ht : fr.get t = some (.bool b)) (hb : b = c) (h : WL P fn F N ks ops tg l ((t, .bool c) :: fr) w) : WL P fn F N ks ops tg l fr w := by
 subst hb
 exact wl_bool t ht (fun hb => by subst hb; exact h) (fun hb => by subst hb; exact h)

/-! Calls of Go functions. -/
def Bodied (P : Program) (f : FuncId) : Prop := ∃ g, P.funcs[f]? = some g ∧ g.body.isNone = false ∧ (g.name == "runtime.NumGoroutine") = false
def CallsR (P : Program) (f : FuncId) (args : List Value) (w : World) (R : Value → World → Prop) : Prop :=
 Bodied P f ∧ Calls P f args.toArray w fun e w' => ∃ v, e = .returned v ∧ R v w'
theorem CallsR.mono {f : FuncId} {args : List Value} {R R' : Value → World → Prop} (h : CallsR P f args w R) (hr : ∀ v w', R v w' → R' v w') : CallsR P f args w R' :=
 ⟨h.1, h.2.mono fun _ _ ⟨v, e, r⟩ => ⟨v, e, hr _ _ r⟩⟩
theorem run_call {ρ : Operand → Value} {f : FuncId} (hB : Bodied P f) {xs : Array Operand} {ts : Array TypeId} {vs : Array Value} (hv : xs.map ρ = vs) (hρ : ρ (.func f) = .func (.func f) #[] #[]) (o : Oper)
  (ho : o.op = .call { callee := .value (.func f), args := xs, argTypes := ts }) : (execOp ρ o).run P w = .ok (.enter f vs) w := by
 obtain ⟨g, h1, h2, h3⟩ := hB
 simp [execOp, ho, resolve, invoke, hρ, hv, Deferred.ofValue, callFunc, h1]
 rw [if_neg (by simpa using h3), if_neg (by intro e; rw [e] at h2; cases h2)]
theorem wl_call {f : FuncId} {xs : List Operand} {ts : Array TypeId} {vs : List Value} {R : Value → World → Prop} (hx : fr.evs xs = some vs) (hc : CallsR P f vs w R) (hk : ∀ v w', R v w' → WL P fn F N ks ops tg.tail l ((d, v) :: fr) w') (ht : tg.loud = true := by rfl) (hg : onG ops fr g = true := by rfl) (hd : Nat.blt d N = true := by rfl) (hq : tg.calm = false ∨ ∀ v w', R v w' → w.grownBy w' tg.row := by exact .inl rfl) :
  WL P fn F N ks ops tg (⟨some d, .call { callee := .value (.func f), args := xs.toArray, argTypes := ts }, ty, pos, aft, g⟩ :: l) fr w :=
 fun a ha => left_loud ht fun K hK => by
  rw [if_pos (wanted_on (o := ⟨some d, .call { callee := .value (.func f), args := xs.toArray, argTypes := ts }, ty, pos, aft, g⟩) ha hg)]
  have hargs : Array.map a.eval xs.toArray = vs.toArray := by rw [List.map_toArray, ha.evs hx]
  unfold Oper.wp
  rw [run_call hc.1 hargs rfl _ rfl]
  refine Calls.mono hc.2 ?_
  rintro e w' ⟨v, rfl, hr⟩
  exact hK _ _ (hq.imp id fun h => Rw.of (h v w' hr)) (hk v w' hr _ (ha.put hd v))
theorem callsR {f : FuncId} {g : Func} {c : Code} {args : List Value} {R : Value → World → Prop} {n : Nat} (hf : P.funcs[f]? = some g) (hb : g.body = some c) (hN : g.ntmps = n) (hm : (g.name == "runtime.NumGoroutine") = false)
  (hl : Nat.ble args.length n = true) (h : RK P g (fun e w' => ∃ v, e = .returned v ∧ R v w') n [.code c] (entry args 0) w) : CallsR P f args w R :=
 ⟨⟨g, hf, by rw [hb]; rfl, hm⟩, calls_rk hf hb hN hl h⟩
theorem ret1 {t : Nat} {v : Value} {R : Value → World → Prop} (h : fn.results = #[.tmp t]) (hv : fr.get t = some v) (hR : R v w) : RK P fn (fun e w' => ∃ v, e = .returned v ∧ R v w') N (.code .ret :: ks) fr w :=
 rk_ret (res1 (F := fun e w' => ∃ v, e = .returned v ∧ R v w') h hv ⟨v, rfl, hR⟩)
theorem ret2 {t u : Nat} {v x : Value} {R : Value → World → Prop} (h : fn.results = #[.tmp t, .tmp u]) (hv : fr.get t = some v) (hx : fr.get u = some x) (hR : R (.tuple #[v, x]) w) :
  RK P fn (fun e w' => ∃ v, e = .returned v ∧ R v w') N (.code .ret :: ks) fr w := rk_ret (res2 (F := fun e w' => ∃ v, e = .returned v ∧ R v w') h hv hx ⟨_, rfl, hR⟩)
theorem end0 {R : Value → World → Prop} (h : fn.results = #[]) (hR : R (.tuple #[]) w) : RK P fn (fun e w' => ∃ v, e = .returned v ∧ R v w') N [] fr w := rk_end (res0 (F := fun e w' => ∃ v, e = .returned v ∧ R v w') h ⟨_, rfl, hR⟩)
end

/-! The operations. -/
section
variable {P : Program} {N : Nat} {fr : Fr} {w : World} {ty : TypeId} {x y c : Operand} {k : IntKind} {m n : Int}

theorem o_move {v : Value} (hx : fr.ev x = some v) : OpV P N fr w (.move x) ty v w := fun a ha o ho _ => by simp [execOp, ho, ha.ev hx]
theorem o_assign {v : Value} (hx : fr.ev x = some v) : OpV P N fr w (.assign x) ty v w := fun a ha o ho _ => by simp [execOp, ho, ha.ev hx]
theorem o_pick_t {v : Value} (hc : fr.ev c = some (.bool true)) (hx : fr.ev x = some v) : OpV P N fr w (.pick c x y) ty v w := fun a ha o ho _ => by simp [execOp, ho, ha.ev hx, ha.ev hc, asBool]
theorem o_pick_f {v : Value} (hc : fr.ev c = some (.bool false)) (hy : fr.ev y = some v) : OpV P N fr w (.pick c x y) ty v w := fun a ha o ho _ => by simp [execOp, ho, ha.ev hy, ha.ev hc, asBool]
theorem o_not {b : Bool} {t : TypeId} (hx : fr.ev x = some (.bool b)) : OpV P N fr w (.unOp .not t x) ty (.bool !b) w := fun a ha o ho _ => by simp [execOp, ho, ha.ev hx, Op.unary]

theorem o_bin {op : BinOp} {t t' : TypeId} {u v r : Value} (hx : fr.ev x = some u) (hy : fr.ev y = some v) (hg : ∀ x y, (eqGuard op t x y u v) = pure ()) (hr : (binOp op t u v).run P w = .ok r w) : OpV P N fr w (.binOp op t x y t') ty r w := fun a ha o ho _ => by
 simp [execOp, ho, ha.ev hx, ha.ev hy, hg, hr]
theorem eqg_int {op : BinOp} {t : TypeId} {v : Value} : ∀ x y, (eqGuard op t x y (.int k n) v) = pure () := fun _ _ => by simp [go_sem]

section
variable {t t' : TypeId}
theorem o_addw (hx : fr.ev x = some (.int k m)) (hy : fr.ev y = some (.int k n)) : OpV P N fr w (.binOp .add t x y t') ty (.int k (k.wrap (m + n))) w := o_bin hx hy eqg_int (by simp [go_sem])
theorem o_subw (hx : fr.ev x = some (.int k m)) (hy : fr.ev y = some (.int k n)) : OpV P N fr w (.binOp .sub t x y t') ty (.int k (k.wrap (m - n))) w := o_bin hx hy eqg_int (by simp [go_sem])
theorem o_mulw (hx : fr.ev x = some (.int k m)) (hy : fr.ev y = some (.int k n)) : OpV P N fr w (.binOp .mul t x y t') ty (.int k (k.wrap (m * n))) w := o_bin hx hy eqg_int (by simp [go_sem])
theorem o_lt (hx : fr.ev x = some (.int k m)) (hy : fr.ev y = some (.int k n)) : OpV P N fr w (.binOp .lss t x y t') ty (.bool (decide (m < n))) w := o_bin hx hy eqg_int (by simp [go_sem])
theorem o_le (hx : fr.ev x = some (.int k m)) (hy : fr.ev y = some (.int k n)) : OpV P N fr w (.binOp .leq t x y t') ty (.bool (decide (m ≤ n))) w := o_bin hx hy eqg_int (by simp [go_sem])
theorem o_gt (hx : fr.ev x = some (.int k m)) (hy : fr.ev y = some (.int k n)) : OpV P N fr w (.binOp .gtr t x y t') ty (.bool (decide (n < m))) w := o_bin hx hy eqg_int (by simp [go_sem])
theorem o_ge (hx : fr.ev x = some (.int k m)) (hy : fr.ev y = some (.int k n)) : OpV P N fr w (.binOp .geq t x y t') ty (.bool (decide (n ≤ m))) w := o_bin hx hy eqg_int (by simp [go_sem])
theorem o_eq (hx : fr.ev x = some (.int k m)) (hy : fr.ev y = some (.int k n)) : OpV P N fr w (.binOp .eql t x y t') ty (.bool (decide (m = n))) w := o_bin hx hy eqg_int (by rw [binOp_eql]; simp only [Sem.run_pure]; congr 2)
theorem o_ne (hx : fr.ev x = some (.int k m)) (hy : fr.ev y = some (.int k n)) : OpV P N fr w (.binOp .neq t x y t') ty (.bool (decide (m ≠ n))) w := o_bin hx hy eqg_int (by
 rw [binOp_neq]; simp only [Sem.run_pure]; congr 2; rw [Bool.eq_iff_iff]; simp)
theorem o_and (hx : fr.ev x = some (.int k m)) (hy : fr.ev y = some (.int k n)) : OpV P N fr w (.binOp .and t x y t') ty (.int k (bits .and k m n)) w := o_bin hx hy eqg_int (by simp [go_sem])
theorem o_or (hx : fr.ev x = some (.int k m)) (hy : fr.ev y = some (.int k n)) : OpV P N fr w (.binOp .or t x y t') ty (.int k (bits .or k m n)) w := o_bin hx hy eqg_int (by simp [go_sem])
theorem o_xor (hx : fr.ev x = some (.int k m)) (hy : fr.ev y = some (.int k n)) : OpV P N fr w (.binOp .xor t x y t') ty (.int k (bits .xor k m n)) w := o_bin hx hy eqg_int (by simp [go_sem])
theorem o_shr {k' : IntKind} (hx : fr.ev x = some (.int k m)) (hy : fr.ev y = some (.int k' n)) (h0 : 0 ≤ n) : OpV P N fr w (.binOp .shr t x y t') ty (.int k (m / 2 ^ min n.toNat k.bits)) w := o_bin hx hy eqg_int (by
 rw [binOp_shr, shift_shr_any _ _ _ _ h0]; simp)
theorem o_shl {k' : IntKind} (hx : fr.ev x = some (.int k m)) (hy : fr.ev y = some (.int k' n)) (h0 : 0 ≤ n) : OpV P N fr w (.binOp .shl t x y t') ty (.int k (k.wrap (m * 2 ^ min n.toNat k.bits))) w := o_bin hx hy eqg_int (by
 rw [binOp_shl, shift_shl_any _ _ _ _ h0]; simp)
end

theorem o_as {op : Op} {v v' : Value} {w' : World} (h : OpV P N fr w op ty v w') (e : v = v') : OpV P N fr w op ty v' w' := e ▸ h
theorem o_asi {op : Op} {a b : Int} {w' : World} (h : OpV P N fr w op ty (.int k a) w') (e : a = b) : OpV P N fr w op ty (.int k b) w' := e ▸ h

theorem i64_in {n : Int} (h1 : -9223372036854775808 ≤ n) (h2 : n ≤ 9223372036854775807) : IntKind.i64.wrap n = n := by rw [IntKind.wrap_i64]; omega
theorem u64_in {n : Int} (h1 : 0 ≤ n) (h2 : n ≤ 18446744073709551615) : IntKind.u64.wrap n = n := by
 show n % 18446744073709551616 = n
 omega
section
variable {t t' : TypeId}
theorem o_add (hx : fr.ev x = some (.int .i64 m)) (hy : fr.ev y = some (.int .i64 n)) (h1 : -9223372036854775808 ≤ m + n) (h2 : m + n ≤ 9223372036854775807) : OpV P N fr w (.binOp .add t x y t') ty (.int .i64 (m + n)) w := o_asi (o_addw hx hy) (i64_in h1 h2)
theorem o_sub (hx : fr.ev x = some (.int .i64 m)) (hy : fr.ev y = some (.int .i64 n)) (h1 : -9223372036854775808 ≤ m - n) (h2 : m - n ≤ 9223372036854775807) : OpV P N fr w (.binOp .sub t x y t') ty (.int .i64 (m - n)) w := o_asi (o_subw hx hy) (i64_in h1 h2)
theorem o_mul (hx : fr.ev x = some (.int .i64 m)) (hy : fr.ev y = some (.int .i64 n)) (h1 : -9223372036854775808 ≤ m * n) (h2 : m * n ≤ 9223372036854775807) : OpV P N fr w (.binOp .mul t x y t') ty (.int .i64 (m * n)) w := o_asi (o_mulw hx hy) (i64_in h1 h2)
theorem o_quo (hx : fr.ev x = some (.int .i64 m)) (hy : fr.ev y = some (.int .i64 n)) (h0 : 0 ≤ m) (h1 : m ≤ 9223372036854775807) (h2 : 0 < n) : OpV P N fr w (.binOp .quo t x y t') ty (.int .i64 (m / n)) w := o_bin hx hy eqg_int (by
 rw [binOp_quo]
 have hne : n ≠ 0 := by omega
 have e : m.tdiv n = m / n := Int.tdiv_eq_ediv_of_nonneg h0
 have hle : m / n ≤ m := Int.ediv_le_self n h0
 have hge : 0 ≤ m / n := Int.ediv_nonneg h0 (by omega)
 simp [Op.intDiv, hne, e, i64_in (show -9223372036854775808 ≤ m / n by omega) (by omega)])
theorem o_rem (hx : fr.ev x = some (.int .i64 m)) (hy : fr.ev y = some (.int .i64 n)) (h0 : 0 ≤ m) (h2 : 0 < n) : OpV P N fr w (.binOp .rem t x y t') ty (.int .i64 (m % n)) w := o_bin hx hy eqg_int (by
 rw [binOp_rem]
 have hne : n ≠ 0 := by omega
 have e : m.tmod n = m % n := Int.tmod_eq_emod_of_nonneg h0
 simp [Op.intDiv, hne, e])
end
end
end Go.Proofs.YtahkeoegbjopfaaGreat
namespace Go.Proofs.YtahkeoegbjopfaaGreat
set_option maxRecDepth 100000
open Go.RowKit

section
variable {P : Program} {N : Nat} {fr : Fr} {w w' : World} {ty : TypeId} {x y z : Operand} {k k' : IntKind} {m n : Int} {A : Option Addr} {b o len cap : Nat}

theorem o_builtin {f : Builtin} {xs : List Operand} {ts : Array TypeId} {vs : List Value} {v : Value} (hx : fr.evs xs = some vs) (hr : (builtin f ts ty #[] vs.toArray).run P w = .ok (.value v) w') (hc : f ≠ .print ∧ f ≠ .println) :
  OpV P N fr w (.call { callee := .builtin f, args := xs.toArray, argTypes := ts }) ty v w' := fun a ha o ho ht => by
 have hargs : Array.map a.eval xs.toArray = vs.toArray := by rw [List.map_toArray, ha.evs hx]
 obtain ⟨h1, h2⟩ := hc
 simp only [execOp, ho, resolve, invoke, hargs, Sem.run_bind, Sem.run_pure, Result.andThen_ok, ht]
 cases f <;> first | exact absurd rfl h1 | exact absurd rfl h2 | exact hr
theorem o_min {ts : Array TypeId} (hx : fr.ev x = some (.int k m)) (hy : fr.ev y = some (.int k n)) : OpV P N fr w (.call { callee := .builtin .min, args := #[x, y], argTypes := ts }) ty (.int k (min m n)) w :=
 o_builtin (xs := [x, y]) (vs := [.int k m, .int k n]) (by simp [Fr.evs, hx, hy]) (by
  simp [builtin, Builtin.min_, Builtin.min2]
  rw [Int.min_def]
  by_cases h : n < m
  ·rw [if_pos h, if_neg (by omega)]
  ·rw [if_neg h, if_pos (by omega)]) (by simp)
theorem o_max {ts : Array TypeId} (hx : fr.ev x = some (.int k m)) (hy : fr.ev y = some (.int k n)) : OpV P N fr w (.call { callee := .builtin .max, args := #[x, y], argTypes := ts }) ty (.int k (max m n)) w :=
 o_builtin (xs := [x, y]) (vs := [.int k m, .int k n]) (by simp [Fr.evs, hx, hy]) (by
  simp [builtin, Builtin.max_, Builtin.max2]
  rw [Int.max_def]
  by_cases h : n > m
  ·rw [if_pos h, if_pos (by omega)]
  ·rw [if_neg h]
   by_cases h2 : m ≤ n
   ·rw [if_pos h2]; omega
   ·rw [if_neg h2]) (by simp)
theorem o_len {t e : TypeId} (hu : P.underlying t = some (.slice e)) (hx : fr.ev x = some (.slice A len cap)) : OpV P N fr w (.call { callee := .builtin .len, args := #[x], argTypes := #[t] }) ty (.int .i64 len) w :=
 o_builtin (xs := [x]) (vs := [.slice A len cap]) (by simp [Fr.evs, hx]) (by simp [builtin, Builtin.len_, run_underlying hu]; rfl) (by simp)
theorem o_extract {vs : Array Value} {i : Nat} {v : Value} (hx : fr.ev x = some (.tuple vs)) (hi : vs[i]? = some v) : OpV P N fr w (.extract x i) ty v w := fun a ha o ho _ => by
 simp [execOp, ho, ha.ev hx, Instr.extract, hi]
section
variable {u0 u1 u2 : Value}
theorem o_ext20 (hx : fr.ev x = some (.tuple #[u0, u1])) : OpV P N fr w (.extract x 0) ty u0 w := o_extract hx rfl
theorem o_ext21 (hx : fr.ev x = some (.tuple #[u0, u1])) : OpV P N fr w (.extract x 1) ty u1 w := o_extract hx rfl
end
theorem o_nil {ad : Addr} (hx : fr.ev x = some (.pointer (some ad))) : OpV P N fr w (.nilCheck x) ty (.pointer (some ad)) w := fun a ha o ho _ => by
 simp [execOp, ho, ha.ev hx]

/-! Conversions. -/
theorem o_convi {src dst : TypeId} {d : TypeDesc} (hs : P.underlying src = some d) (hd : P.underlying dst = some (.int k')) (hx : fr.ev x = some (.int k n)) : OpV P N fr w (.convert src dst x) ty (.int k' (k'.wrap n)) w := fun a ha o ho _ => by
 simp [execOp, ho, ha.ev hx, convert, run_underlying hs, run_underlying hd, Conv.intToInt]
theorem o_convi64 {src dst : TypeId} {d : TypeDesc} (hs : P.underlying src = some d) (hd : P.underlying dst = some (.int .i64)) (hx : fr.ev x = some (.int k n)) (h1 : -9223372036854775808 ≤ n) (h2 : n ≤ 9223372036854775807) : OpV P N fr w (.convert src dst x) ty (.int .i64 n) w := o_asi (o_convi hs hd hx) (i64_in h1 h2)
theorem o_convu64 {src dst : TypeId} {d : TypeDesc} (hs : P.underlying src = some d) (hd : P.underlying dst = some (.int .u64)) (hx : fr.ev x = some (.int k n)) (h1 : 0 ≤ n) (h2 : n ≤ 18446744073709551615) : OpV P N fr w (.convert src dst x) ty (.int .u64 n) w := o_asi (o_convi hs hd hx) (u64_in h1 h2)
theorem o_str {src e dst : TypeId} {l : List UInt8} (hs : P.underlying src = some (.slice e)) (he : P.underlying e = some (.int .u8)) (hd : P.underlying dst = some .string) (hx : fr.ev x = some (.slice A len cap)) (hn : len = l.length) (hr : Rd w A l) :
  OpV P N fr w (.convert src dst x) ty (.string ⟨l.toArray⟩) w := fun a ha o ho _ => by
 subst hn
 simp [execOp, ho, ha.ev hx, run_string hr hs he hd]

/-! Strings, bools, pointers. -/
section
variable {t t' : TypeId} {s u : List UInt8} {p q : Bool}
theorem o_seq (hx : fr.ev x = some (.string ⟨s.toArray⟩)) (hy : fr.ev y = some (.string ⟨u.toArray⟩)) : OpV P N fr w (.binOp .eql t x y t') ty (.bool (decide (s = u))) w :=
 o_bin hx hy (fun _ _ => by simp [go_sem]) (by
  have : (binOp .eql t (.string ⟨s.toArray⟩) (.string ⟨u.toArray⟩)).run P w = .ok (.bool (s == u)) w := by simp [go_sem]
  rw [this]; congr 2; rw [Bool.eq_iff_iff]; simp)
theorem o_bne (hu : P.underlying t = some .bool) (hx : fr.ev x = some (.bool p)) (hy : fr.ev y = some (.bool q)) : OpV P N fr w (.binOp .neq t x y t') ty (.bool (p != q)) w :=
 o_bin hx hy (fun _ _ => by simp [go_sem]) (by simp only [binOp]; simp [run_equal_bool w t p q hu]; cases p <;> cases q <;> rfl)
theorem run_equal_ptr_nil {e : TypeId} (hu : P.underlying t = some (.pointer e)) (ad : Option Addr) : (Op.equal t (.pointer ad) (.pointer none)).run P w = .ok ad.isNone w := by
 have h : ∀ d : Nat, (Op.equalIn (d + 1) t (.pointer ad) (.pointer none)).run P w = .ok ad.isNone w := fun d => by
  cases ad <;> simp [Op.equalIn, run_underlying hu]
 exact h 9999
theorem run_equal_ptr_same {e sz : Nat} (hu : P.underlying t = some (.pointer e)) (hs : ∀ w, (sizeOf e).run P w = .ok sz w) (ad : Addr) : (Op.equal t (.pointer (some ad)) (.pointer (some ad))).run P w = .ok true w := by
 have h : ∀ d : Nat, (Op.equalIn (d + 1) t (.pointer (some ad)) (.pointer (some ad))).run P w = .ok true w := fun d => by
  simp [Op.equalIn, run_underlying hu, hs, sameAddr]
 exact h 9999
theorem o_pne_nil {e : TypeId} {ad : Option Addr} (hu : P.underlying t = some (.pointer e)) (hx : fr.ev x = some (.pointer ad)) (hy : fr.ev y = some (.pointer none)) : OpV P N fr w (.binOp .neq t x y t') ty (.bool ad.isSome) w :=
 o_bin hx hy (fun _ _ => by simp [go_sem]) (by simp only [binOp]; simp [run_equal_ptr_nil hu])
theorem o_peq_same {e sz : Nat} {ad : Addr} (hu : P.underlying t = some (.pointer e)) (hs : ∀ w, (sizeOf e).run P w = .ok sz w) (hx : fr.ev x = some (.pointer (some ad))) (hy : fr.ev y = some (.pointer (some ad))) :
  OpV P N fr w (.binOp .eql t x y t') ty (.bool true) w :=
 o_bin hx hy (fun _ _ => by simp [go_sem]) (by
  simp only [binOp]
  simp [run_equal_ptr_same hu hs])
end

/-! Fields and cells. -/
theorem o_faddr {s : TypeId} {fs : Array Field} {f : Field} {i off sz : Nat} (hu : P.underlying s = some (.struct fs)) (hf : fs[i]? = some f) (hs : ∀ w, (sizeOf f.type).run P w = .ok sz w) (hz : Nat.blt 0 sz = true) (ho : f.offset = off)
  (hx : fr.ev x = some (.pointer (some ⟨b, o, none⟩))) : OpV P N fr w (.fieldAddr s x i) ty (.pointer (some ⟨b, o + off, none⟩)) w := fun a ha op hop _ => by
 have hz' : sz ≠ 0 := by
  have : 0 < sz := by simpa using hz
  omega
 subst ho
 simp [execOp, hop, ha.ev hx, Instr.fieldAt, run_underlying hu, hf, Instr.sureAddr, fieldPlace, hs, hz', add_plain]
theorem o_load {t : TypeId} {ad : Addr} {v : Value} (ha' : ∀ w, (isAgg t).run P w = .ok false w) (hx : fr.ev x = some (.pointer (some ad))) (hc : w.cell? ad = some v) : OpV P N fr w (.load t x) ty v w := fun a ha o ho _ => by
 simp [execOp, ho, ha.ev hx, Instr.loadAt, Instr.sureAddr, loadVar, ha', load, Sem.run, hc]
theorem o_loadn {t : TypeId} {ad : Addr} {cs : List Value} (ha' : ∀ w, (isAgg t).run P w = .ok true w) (hs : ∀ w, (sizeOf t).run P w = .ok cs.length w) (hx : fr.ev x = some (.pointer (some ad))) (hc : ∀ j v, cs[j]? = some v → w.cell? (ad.add j) = some v) :
  OpV P N fr w (.load t x) ty (.agg cs.toArray) w := fun a ha o ho _ => by
 simp [execOp, ho, ha.ev hx, Instr.loadAt, Instr.sureAddr, loadVar, ha', hs, run_loadCells_list (P := P) w ad cs hc]
theorem o_store {t : TypeId} {ad : Addr} {v u : Value} (hs : ∀ w, (sizeOf t).run P w = .ok 1 w) (hx : fr.ev x = some (.pointer (some ad))) (hy : fr.ev y = some v) (h1 : v.oneCell' = true) (hc : w.cell? ad = some u) (hf : w.frozen? ad = false) :
  OpU P N fr w (.store t x y) (w.setCell ad v) := fun a ha o ho => by
 have hcs : v.cells = #[v] := by cases v <;> first | rfl | cases h1
 have hst := run_store P w ad v .plain h1
 have ha0 : ad.add 0 = ad := by simp [Addr.add]
 simp [execOp, ho, ha.ev hx, ha.ev hy, Instr.storeAt, Instr.sureAddr, storeVar, hcs, hs, storeCells, ha0, hst, hc, hf]

/-! Slices. -/
theorem o_iaddr {t e : TypeId} {sz j : Nat} (hu : P.underlying t = some (.slice e)) (hs : ∀ w, (sizeOf e).run P w = .ok sz w) (hx : fr.ev x = some (.slice (some ⟨b, o, none⟩) len cap)) (hy : fr.ev y = some (.int k n)) (hn : n = (j : Int)) (hj : j < len) :
  OpV P N fr w (.indexAddr t x y) ty (.pointer (some ⟨b, o + j * sz, none⟩)) w := fun a ha op hop _ => by
 subst hn
 have h2 : ¬ len ≤ j := by omega
 simp [execOp, hop, ha.ev hx, ha.ev hy, Instr.indexAt, run_underlying hu, asIntOf, hs, add_plain]
 intro h; exact absurd h h2
theorem o_iaddr1 {t e : TypeId} {j : Nat} (hu : P.underlying t = some (.slice e)) (hs : ∀ w, (sizeOf e).run P w = .ok 1 w) (hx : fr.ev x = some (.slice (some ⟨b, o, none⟩) len cap)) (hy : fr.ev y = some (.int k n)) (hn : n = (j : Int)) (hj : j < len) :
  OpV P N fr w (.indexAddr t x y) ty (.pointer (some ⟨b, o + j, none⟩)) w := o_as (o_iaddr hu hs hx hy hn hj) (by rw [Nat.mul_one])

def cutA (A : Option Addr) (c sz k : Nat) : Option Addr := if c = k then A else A.map (·.add (k * sz))
theorem o_slice {t e : TypeId} {sz lo hi : Nat} {kl kh : IntKind} {l h : Int} (hu : P.underlying t = some (.slice e)) (hs : ∀ w, (sizeOf e).run P w = .ok sz w) (hx : fr.ev x = some (.slice A len cap)) (hy : fr.ev y = some (.int kl l)) (hz : fr.ev z = some (.int kh h))
  (hl : l = (lo : Int)) (hh : h = (hi : Int)) (h1 : lo ≤ hi) (h2 : hi ≤ cap) : OpV P N fr w (.slice t x (some y) (some z) none) ty (.slice (cutA A cap sz lo) (hi - lo) (cap - lo)) w := fun a ha op hop _ => by
 subst hl; subst hh
 simp [execOp, hop, ha.ev hx, ha.ev hy, ha.ev hz, Instr.sliceAt, Instr.slice, Instr.sliceBounds, Instr.sliceBound, run_underlying hu, asIntOf, hs, h1, h2, cutA]
theorem o_slice_lo {t e : TypeId} {sz lo : Nat} {kl : IntKind} {l : Int} (hu : P.underlying t = some (.slice e)) (hs : ∀ w, (sizeOf e).run P w = .ok sz w) (hx : fr.ev x = some (.slice A len cap)) (hy : fr.ev y = some (.int kl l))
  (hl : l = (lo : Int)) (h1 : lo ≤ len) : OpV P N fr w (.slice t x (some y) none none) ty (.slice (cutA A cap sz lo) (len - lo) (cap - lo)) w := fun a ha op hop _ => by
 subst hl
 simp [execOp, hop, ha.ev hx, ha.ev hy, Instr.sliceAt, Instr.slice, Instr.sliceBounds, Instr.sliceBound, run_underlying hu, asIntOf, hs, h1, cutA]
theorem o_slice_hi {t e : TypeId} {sz hi : Nat} {kh : IntKind} {h : Int} (hu : P.underlying t = some (.slice e)) (hs : ∀ w, (sizeOf e).run P w = .ok sz w) (hx : fr.ev x = some (.slice A len cap)) (hz : fr.ev z = some (.int kh h))
  (hh : h = (hi : Int)) (h2 : hi ≤ cap) : OpV P N fr w (.slice t x none (some z) none) ty (.slice A hi cap) w := fun a ha op hop _ => by
 subst hh
 simp [execOp, hop, ha.ev hx, ha.ev hz, Instr.sliceAt, Instr.slice, Instr.sliceBounds, Instr.sliceBound, run_underlying hu, asIntOf, hs, h2]
 intro _
 cases A with
 | none => rfl
 | some ad => simp [Addr.add]

/-! New memory. -/
theorem o_box {e : TypeId} {v : Value} (hx : fr.ev x = some v) : OpV P N fr w (.box e x) ty (.pointer (some ⟨w.heap.size, 0, none⟩)) (w.alloc (.cells v.cells e)) := fun a ha o ho _ => by
 simp [execOp, ho, ha.ev hx, Instr.box, newVar, newRow, newObj, Sem.run]
theorem o_build {t : TypeId} {is : List Nat} {xs : List Operand} {vs : List Value} {v : Value} (hx : fr.evs xs = some vs) (hr : ∀ w, (Instr.build t (is.zip vs).toArray).run P w = .ok v w) : OpV P N fr w (.build t (is.zip xs).toArray) ty v w := fun a ha o ho _ => by
 have h : Array.map (fun p : Nat × Operand => (p.1, a.eval p.2)) (is.zip xs).toArray = (is.zip vs).toArray := by
  rw [List.map_toArray, ← ha.evs hx, List.zip_map_right]
  rfl
 simp only [execOp, ho]
 show ((do pure (.value (← Instr.build t (Array.map (fun p : Nat × Operand => (p.1, a.eval p.2)) (is.zip xs).toArray))) : Sem Next)).run P w = _
 rw [h]
 simp [hr]
theorem o_lit {t : TypeId} {len : Nat} {is : List Nat} {xs : List Operand} {vs : List Value} {v : Value} (hx : fr.evs xs = some vs) (hr : (Instr.buildSlice t len (is.zip vs).toArray).run P w = .ok v w') : OpV P N fr w (.buildSlice t len (is.zip xs).toArray) ty v w' := fun a ha o ho _ => by
 have h : Array.map (fun p : Nat × Operand => (p.1, a.eval p.2)) (is.zip xs).toArray = (is.zip vs).toArray := by
  rw [List.map_toArray, ← ha.evs hx, List.zip_map_right]
  rfl
 simp only [execOp, ho]
 show ((do pure (.value (← Instr.buildSlice t len (Array.map (fun p : Nat × Operand => (p.1, a.eval p.2)) (is.zip xs).toArray))) : Sem Next)).run P w = _
 rw [h]
 simp [hr]
end

/-! append, make on bytes, at the list of operations. -/
section
variable {P : Program} {fn : Func} {F : Ending → World → Prop} {N : Nat} {ks : List K} {ops : Array Oper} {tg : Tags} {l : List Oper} {fr : Fr} {w : World} {ty t : TypeId} {pos : String} {aft : Array Edge} {g : Option (Nat × Bool)} {d : Nat} {x y : Operand}
theorem wl_app (T : U8 P t) {B : Nat} {A X : Option Addr} {n c j k : Nat} {s m : List UInt8} (hx : fr.ev x = some (.slice A n c)) (hn : n = s.length) (hown : Own w B A c s) (hy : fr.ev y = some (.slice X j k)) (hj : j = m.length) (hr : Rd w X m)
  (hlen : s.length + m.length ≤ 140737488355328) (hB : B ≤ w.heap.size)
  (h : ∀ A' c' w', Own w' B A' c' (s ++ m) → w.grownBy w' (blk A) → (blk A' = blk A ∨ blk A' = some w.heap.size) → Below B w w' → WL P fn F N ks ops tg.tail l ((d, .slice A' (s ++ m).length c') :: fr) w')
  (ht : tg.loud = true := by rfl) (hg : onG ops fr g = true := by rfl) (hd : Nat.blt d N = true := by rfl) (hq : tg.calm = false ∨ blk A = none ∨ blk A = tg.row := by exact .inl rfl) :
  WL P fn F N ks ops tg (⟨some d, .call { callee := .builtin .append, args := #[x, y], argTypes := #[t, t] }, ty, pos, aft, g⟩ :: l) fr w := by
 subst hn; subst hj
 obtain ⟨A', c', w', hrun, h1, h2, h3, h4⟩ := run_app (P := P) w T (ty := ty) hown (k := k) hr hlen hB
 exact wl_v (o_builtin (xs := [x, y]) (vs := [.slice A s.length c, .slice X m.length k]) (by simp [Fr.evs, hx, hy]) (by simp [builtin, hrun]) (by simp)) (h A' c' w' h1 h2 h3 h4) ht hg hd (hq.imp id fun e => e.elim (fun e => grown_wide (e ▸ h2) _) (fun e => e ▸ h2))
theorem wl_make0 (T : U8 P t) {kl kc : IntKind} {C : Int} {n : Nat} (hx : fr.ev x = some (.int kl 0)) (hy : fr.ev y = some (.int kc C)) (hC : C = (n : Int)) (hn : n ≤ 281474976710656)
  (h : ∀ w', Own w' w.heap.size (some ⟨w.heap.size, 0, none⟩) n [] → Below w.heap.size w w' → w.heap.size < w'.heap.size → WL P fn F N ks ops tg.tail l ((d, .slice (some ⟨w.heap.size, 0, none⟩) 0 n) :: fr) w')
  (ht : tg.loud = true := by rfl) (hg : onG ops fr g = true := by rfl) (hd : Nat.blt d N = true := by rfl) :
  WL P fn F N ks ops tg (⟨some d, .makeSlice t x y, ty, pos, aft, g⟩ :: l) fr w := by
 subst hC
 obtain ⟨i, hi, hz, hs, hb⟩ := info_parts T.hi
 obtain ⟨w', hrun, r1, r2⟩ := run_make_own (P := P) w w.heap.size t 5 i _ 1 T.ht hi hz hs kl kc n (by rw [hb]; omega) (by simp only [maxLen]; omega) (Nat.le_refl _)
 have hlt := World.ownsRow.lt r1 w.heap.size rfl
 exact wl_v (fun a ha o ho _ => by simp [execOp, ho, ha.ev hx, ha.ev hy, hrun]) (h w' r1 ((Below.refl _ _).grown r2 (Nat.le_refl _) (by simp)) hlt.2) ht hg hd (.inr (grown_of_below ((Below.refl _ _).grown r2 (Nat.le_refl _) (by simp)) _))
end

end Go.Proofs.YtahkeoegbjopfaaGreat
namespace Go.Proofs.YtahkeoegbjopfaaGreat
set_option maxRecDepth 100000
open Go.RowKit

def Blk (w : World) (g : Nat) (t : TypeId) (cs : List Value) : Prop := w.heap[g]? = some (.cells cs.toArray t (0, 0))
def spl (L : List Value) (k : Nat) (vs : List Value) : List Value := L.take k ++ vs ++ L.drop (k + vs.length)
theorem spl_length {L vs : List Value} {k : Nat} (h : k + vs.length ≤ L.length) : (spl L k vs).length = L.length := by simp [spl]; omega
theorem spl_all {L vs : List Value} (h : vs.length = L.length) : spl L 0 vs = vs := by simp [spl, h]
section
variable {P : Program} {w w' : World} {g : Nat} {t : TypeId} {cs : List Value}
theorem Blk.lt (h : Blk w g t cs) : g < w.heap.size := by
 rcases Nat.lt_or_ge g w.heap.size with hlt | hge
 ·exact hlt
 ·unfold Blk at h; rw [Array.getElem?_eq_none hge] at h; cases h
theorem Blk.cell (h : Blk w g t cs) (i : Nat) : w.cell? ⟨g, i, none⟩ = cs[i]? := by
 rw [cell_of_row w g i cs.toArray t (0, 0) h]; simp
theorem Blk.frozen (h : Blk w g t cs) (i : Nat) : w.frozen? ⟨g, i, none⟩ = false := by
 unfold Blk at h
 simp [World.frozen?, h]
theorem Blk.new (w : World) (t : TypeId) (cs : Array Value) : Blk (w.alloc (.cells cs t)) w.heap.size t cs.toList := by
 unfold Blk; rw [Array.toArray_toList]; exact heap_alloc_new w _
theorem Blk.drew (h : Blk w g t cs) : Blk w.drew g t cs := h
theorem Blk.below {B : Nat} (h : Blk w g t cs) (hb : Below B w w') (hg : g < B) : Blk w' g t cs := (hb.block g hg).trans h
theorem Blk.under (h : Blk w g t cs) (hb : Below w.heap.size w w') : Blk w' g t cs := h.below hb h.lt
theorem Blk.grown {row : Option Nat} (h : Blk w g t cs) (hb : w.grownBy w' row) (hg : some g ≠ row) : Blk w' g t cs := (hb.block g h.lt hg).trans h
theorem Blk.set_ (h : Blk w g t cs) (i : Nat) (u : Value) : Blk (w.setCell ⟨g, i, none⟩ u) g t (cs.set i u) := by
 unfold Blk at h ⊢
 simp [World.setCell, Array.getElem?_modify, h]
theorem grownBy_setCell (w : World) (g i : Nat) (u : Value) : w.grownBy (w.setCell ⟨g, i, none⟩ u) (some g) :=
 ⟨rfl, rfl, rfl, by simp [World.setCell], fun k _ hne => Below.heap_setCell w _ u k (fun e => hne (by rw [e]))⟩
theorem grownBy_trans {a b c : World} {row : Option Nat} (h : a.grownBy b row) (k : b.grownBy c row) : a.grownBy c row :=
 ⟨k.os.trans h.os, k.tape.trans h.tape, k.output.trans h.output, Nat.le_trans h.size k.size, fun i hi hne => (k.block i (Nat.lt_of_lt_of_le hi h.size) hne).trans (h.block i hi hne)⟩
theorem grownBy_of_below {a b : World} (h : Below a.heap.size a b) (row : Option Nat) : a.grownBy b row := ⟨h.os, h.tape, h.output, h.size, fun k hk _ => h.block k hk⟩
theorem grownBy_drew (w : World) (row : Option Nat) : w.grownBy w.drew row := ⟨rfl, rfl, rfl, Nat.le_refl _, fun _ _ _ => rfl⟩
theorem below_of_grownBy {B : Nat} {a b : World} {g : Nat} (h : a.grownBy b (some g)) (hB : B ≤ a.heap.size) (hg : B ≤ g) : Below B a b :=
 ⟨h.os, h.tape, h.output, h.size, fun k hk => h.block k (by omega) (fun e => by injection e with e; omega)⟩
theorem grownBy_new {a b c : World} {row : Option Nat} {j : Nat} (h : a.grownBy b row) (k : b.grownBy c (some j)) (hj : a.heap.size ≤ j) : a.grownBy c row :=
 ⟨k.os.trans h.os, k.tape.trans h.tape, k.output.trans h.output, Nat.le_trans h.size k.size, fun i hi hne => (k.block i (Nat.lt_of_lt_of_le hi h.size) (fun e => by injection e with e; omega)).trans (h.block i hi hne)⟩
theorem Own.ne {B c : Nat} {A : Option Addr} {l : List UInt8} (h : Own w B A c l) (hB : Blk w g t cs) (ht : t ≠ 5) : blk A ≠ some g := by
 rcases h.2 with ⟨hv, _⟩ | ⟨g', cap, cur, hv, _, hh, _⟩
 ·injection hv with hv; subst hv; simp [blk]
 ·injection hv with hv; subst hv
  intro he
  have : g' = g := by simpa [blk] using he
  subst this
  unfold Blk at hB
  rw [hB] at hh
  injection hh with hh
  injection hh with _ hh
  exact ht hh
theorem Reads.grown {size n : Nat} {A : Option Addr} {xs : List Value} {row : Option Nat} (h : Reads w size A n xs) (hg : w.grownBy w' row) (hne : blk A = none ∨ blk A ≠ row) : Reads w' size A n xs :=
 ⟨h.1, fun hn => by
  obtain ⟨b, o, e, hc⟩ := h.2 hn
  refine ⟨b, o, e, fun j u hu => (World.cell?_of_block (hg.block b (block_lt_of_cell (hc j u hu)) (fun e2 => ?_))).trans (hc j u hu)⟩
  subst e
  rcases hne with h1 | h1
  ·cases h1
  ·exact h1 e2⟩
theorem Rd.grown {A : Option Addr} {l : List UInt8} {row : Option Nat} (h : Rd w A l) (hg : w.grownBy w' row) (hne : blk A = none ∨ blk A ≠ row) : Rd w' A l := Reads.grown h hg hne

theorem run_store_blk {j : Nat} {v : Value} (h : Blk w g t cs) (hj : j < cs.length) (h1 : v.oneCell' = true) : (store ⟨g, j, none⟩ v).run P w = .ok () (w.setCell ⟨g, j, none⟩ v) := by
 have hc := h.cell j
 rw [List.getElem?_eq_getElem hj] at hc
 have := run_store P w ⟨g, j, none⟩ v .plain h1
 rw [this]
 simp [hc, h.frozen j]

theorem run_storeCells_blk {o : Nat} : ∀ (vs : List Value) (i : Nat) (L : List Value) (w : World), Blk w g t L → (∀ v ∈ vs, v.oneCell' = true) → o + i + vs.length ≤ L.length →
  ∃ w', (storeCells ⟨g, o, none⟩ vs i).run P w = .ok () w' ∧ Blk w' g t (spl L (o + i) vs) ∧ w.grownBy w' (some g) ∧ w'.heap.size = w.heap.size
 | [], i, L, w, h, _, _ => ⟨w, by simp [storeCells], by simpa [spl] using h, World.grownBy.refl w _, rfl⟩
 | v :: vs, i, L, w, h, h1, hl => by
  simp only [List.length_cons] at hl
  have hs := run_store_blk (P := P) (j := o + i) h (by omega) (h1 v (by simp))
  obtain ⟨w', hr, hB, hg, hz⟩ := run_storeCells_blk (o := o) vs (i + 1) (L.set (o + i) v) (w.setCell ⟨g, o + i, none⟩ v) (h.set_ (o + i) v) (fun u hu => h1 u (by simp [hu])) (by simp; omega)
  refine ⟨w', ?_, ?_, grownBy_trans (grownBy_setCell w g (o + i) v) hg, by rw [hz]; simp [World.setCell]⟩
  ·simp only [storeCells, add_plain, Sem.run_bind, hs, Result.andThen_ok]
   exact hr
  ·have e : spl (L.set (o + i) v) (o + (i + 1)) vs = spl L (o + i) (v :: vs) := by
    have hlt : o + i < L.length := by omega
    simp only [spl, List.length_cons]
    rw [show o + (i + 1) = (o + i) + 1 from by omega, List.take_succ_eq_append_getElem (by simpa using hlt), List.take_set_of_le (Nat.le_refl _), List.drop_set_of_lt (by omega)]
    simp [Nat.add_comm, Nat.add_left_comm, Nat.add_assoc]
   rw [← e]
   exact hB
end

section
variable {P : Program} {fn : Func} {F : Ending → World → Prop} {N : Nat} {ks : List K} {ops : Array Oper} {tg : Tags} {l : List Oper} {fr : Fr} {w : World} {ty t t' : TypeId} {pos : String} {aft : Array Edge} {gd : Option (Nat × Bool)} {d g i j n o len cap : Nat} {x y : Operand} {cs : List Value} {v : Value}

theorem o_loadb (ha' : ∀ w, (isAgg t).run P w = .ok false w) (hx : fr.ev x = some (.pointer (some ⟨g, i, none⟩))) (hB : Blk w g t' cs) (hi : cs[i]? = some v) : OpV P N fr w (.load t x) ty v w :=
 o_load ha' hx (by rw [hB.cell]; exact hi)
theorem o_load_all (ha' : ∀ w, (isAgg t).run P w = .ok true w) (hs : ∀ w, (sizeOf t).run P w = .ok n w) (hx : fr.ev x = some (.pointer (some ⟨g, 0, none⟩))) (hB : Blk w g t' cs) (hn : cs.length = n) : OpV P N fr w (.load t x) ty (.agg cs.toArray) w :=
 o_loadn ha' (by rw [hn]; exact hs) hx (fun j u hu => by rw [add_plain, hB.cell, Nat.zero_add]; exact hu)

theorem wl_store1 (hs : ∀ w, (sizeOf t).run P w = .ok 1 w) (hx : fr.ev x = some (.pointer (some ⟨g, i, none⟩))) (hy : fr.ev y = some v) (h1 : v.oneCell' = true) (hB : Blk w g t' cs) (hi : i < cs.length)
  (hk : ∀ w', Blk w' g t' (cs.set i v) → w.grownBy w' (some g) → w'.heap.size = w.heap.size → WL P fn F N ks ops tg.tail l fr w') (ht : tg.loud = true := by rfl) (hg : onG ops fr gd = true := by rfl) (hq : tg.calm = false ∨ tg.rw.may (some g) := by exact .inl rfl) :
  WL P fn F N ks ops tg (⟨none, .store t x y, ty, pos, aft, gd⟩ :: l) fr w := by
 have hc := hB.cell i
 rw [List.getElem?_eq_getElem hi] at hc
 exact wl_u (o_store hs hx hy h1 hc (hB.frozen i)) (hk _ (hB.set_ i v) (grownBy_setCell w g i v) (by simp [World.setCell])) ht hg (hq.imp id (Rw.of_may (grownBy_setCell w g i v)))
theorem wl_storen {vs : List Value} (hs : ∀ w, (sizeOf t).run P w = .ok n w) (hx : fr.ev x = some (.pointer (some ⟨g, o, none⟩))) (hy : fr.ev y = some (.agg vs.toArray)) (hn : vs.length = n) (h1 : ∀ v ∈ vs, v.oneCell' = true) (hB : Blk w g t' cs) (hi : o + n ≤ cs.length)
  (hk : ∀ w', Blk w' g t' (spl cs o vs) → w.grownBy w' (some g) → w'.heap.size = w.heap.size → WL P fn F N ks ops tg.tail l fr w') (ht : tg.loud = true := by rfl) (hg : onG ops fr gd = true := by rfl) (hq : tg.calm = false ∨ tg.rw.may (some g) := by exact .inl rfl) :
  WL P fn F N ks ops tg (⟨none, .store t x y, ty, pos, aft, gd⟩ :: l) fr w := by
 obtain ⟨w', hr, hB', hg', hz⟩ := run_storeCells_blk (P := P) (o := o) vs 0 cs w hB h1 (by omega)
 refine wl_u (w' := w') (fun a ha op hop => ?_) (hk w' hB' hg' hz) ht hg (hq.imp id (Rw.of_may hg'))
 have hcs : (Value.agg vs.toArray).cells = vs.toArray := rfl
 simp [execOp, hop, ha.ev hx, ha.ev hy, Instr.storeAt, Instr.sureAddr, storeVar, hcs, hs, hn, hr]
theorem wl_store_all {vs : List Value} (hs : ∀ w, (sizeOf t).run P w = .ok n w) (hx : fr.ev x = some (.pointer (some ⟨g, 0, none⟩))) (hy : fr.ev y = some (.agg vs.toArray)) (hn : vs.length = n) (h1 : ∀ v ∈ vs, v.oneCell' = true) (hB : Blk w g t' cs) (hi : cs.length = n)
  (hk : ∀ w', Blk w' g t' vs → w.grownBy w' (some g) → w'.heap.size = w.heap.size → WL P fn F N ks ops tg.tail l fr w') (ht : tg.loud = true := by rfl) (hg : onG ops fr gd = true := by rfl) (hq : tg.calm = false ∨ tg.rw.may (some g) := by exact .inl rfl) :
  WL P fn F N ks ops tg (⟨none, .store t x y, ty, pos, aft, gd⟩ :: l) fr w :=
 wl_storen hs hx hy hn h1 hB (by omega) (fun w' h2 h3 h4 => hk w' (by rw [spl_all (by omega)] at h2; exact h2) h3 h4) ht hg hq

theorem o_alloc {e : TypeId} {z : Value} (hz : ∀ w, (zeroValue e).run P w = .ok z w) : OpV P N fr w (.alloc e) ty (.pointer (some ⟨w.heap.size, 0, none⟩)) (w.alloc (.cells z.cells e)) := fun a _ o ho _ => by
 simp [execOp, ho, Instr.alloc, newVar, newRow, newObj, Sem.run, hz]

theorem below_alloc (w : World) (o : Obj) : Below w.heap.size w (w.alloc o) := (Below.refl _ _).alloc (Nat.le_refl _) o
theorem wl_alloc {e : TypeId} {z : Value} (zs : List Value) (hz : ∀ w, (zeroValue e).run P w = .ok z w) (hzs : z.cells = zs.toArray)
  (hk : ∀ w', Blk w' w.heap.size e zs → Below w.heap.size w w' → w'.heap.size = w.heap.size + 1 → WL P fn F N ks ops tg.tail l ((d, .pointer (some ⟨w.heap.size, 0, none⟩)) :: fr) w')
  (ht : tg.loud = true := by rfl) (hg : onG ops fr gd = true := by rfl) (hd : Nat.blt d N = true := by rfl) : WL P fn F N ks ops tg (⟨some d, .alloc e, ty, pos, aft, gd⟩ :: l) fr w :=
 wl_v (o_alloc hz) (hk _ (by rw [hzs]; exact Blk.new w e zs.toArray) (below_alloc w _) (by simp)) ht hg hd (.inr (grown_of_below (below_alloc w _) _))
theorem wl_box {e : TypeId} (vs : List Value) (hx : fr.ev x = some v) (hvs : v.cells = vs.toArray)
  (hk : ∀ w', Blk w' w.heap.size e vs → Below w.heap.size w w' → w'.heap.size = w.heap.size + 1 → WL P fn F N ks ops tg.tail l ((d, .pointer (some ⟨w.heap.size, 0, none⟩)) :: fr) w')
  (ht : tg.loud = true := by rfl) (hg : onG ops fr gd = true := by rfl) (hd : Nat.blt d N = true := by rfl) : WL P fn F N ks ops tg (⟨some d, .box e x, ty, pos, aft, gd⟩ :: l) fr w :=
 wl_v (o_box hx) (hk _ (by rw [hvs]; exact Blk.new w e vs.toArray) (below_alloc w _) (by simp)) ht hg hd (.inr (grown_of_below (below_alloc w _) _))
/-! A slice literal whose elements are one cell each, in order. -/
theorem fill_range {place : Nat → Option (Nat × Nat)} (hp : ∀ i, place i = some (i * 1, 1)) : ∀ (vs : List Value) (k : Nat) (cells : List Value), (∀ v ∈ vs, v.oneCell' = true) → k + vs.length = cells.length →
  Instr.fill place cells.toArray ((List.range' k vs.length).zip vs) = some (cells.take k ++ vs).toArray
 | [], k, cells, _, hl => by
  simp only [List.length_nil, Nat.add_zero] at hl
  simp [Instr.fill, hl]
 | v :: vs, k, cells, h1, hl => by
  simp only [List.length_cons] at hl
  have hv : v.cells = #[v] := by
   have := h1 v (by simp)
   cases v <;> first | rfl | cases this
  have ih := fill_range hp vs (k + 1) (cells.set k v) (fun u hu => h1 u (by simp [hu])) (by simp; omega)
  simp only [List.length_cons, List.range'_succ, List.zip_cons_cons, Instr.fill, hp, hv]
  rw [if_neg (by simp; omega)]
  have e : (#[v].zipIdx.foldl (fun (cs : Array Value) (x : Value × Nat) => cs.setIfInBounds (k * 1 + x.2) x.1) cells.toArray) = (cells.set k v).toArray := by simp
  have e2 : (#[v].zipIdx.foldl (fun cs (x : Value × Nat) => match x with | (c, j) => cs.setIfInBounds (k * 1 + j) c) cells.toArray) = (cells.set k v).toArray := by simp
  rw [show List.take k cells ++ v :: vs = List.take (k + 1) (cells.set k v) ++ vs from ?_]
  ·first | (rw [e2]; exact ih) | (rw [e]; exact ih) | (simpa using ih)
  ·rw [List.take_succ_eq_append_getElem (by simp; omega), List.take_set_of_le (Nat.le_refl _)]; simp
theorem run_lit {e : TypeId} {z : Value} (hu : P.underlying t = some (.slice e)) (hs : ∀ w, (sizeOf e).run P w = .ok 1 w) (hz : ∀ w, (zeroValue e).run P w = .ok z w) (h0 : z.cells.size = 1) (vs : List Value) (h1 : ∀ v ∈ vs, v.oneCell' = true) (hn : vs.length ≤ 16777216) :
  (Instr.buildSlice t vs.length ((List.range' 0 vs.length).zip vs).toArray).run P w = .ok (.slice (some ⟨w.heap.size, 0, none⟩) vs.length vs.length) (w.alloc (.cells vs.toArray e)) := by
 have hf : ∀ (cells : Array Value), cells.size = vs.length → Instr.fill (fun i => some (i * 1, 1)) cells ((List.range' 0 vs.length).zip vs) = some vs.toArray := fun cells hc => by
  have := fill_range (place := fun i => some (i * 1, 1)) (fun _ => rfl) vs 0 cells.toList h1 (by simp [hc])
  simpa using this
 have hn' : ¬ (16777216 < vs.length) := by omega
 by_cases hv : vs.length = 0
 ·have hv' : vs = [] := List.eq_nil_of_length_eq_zero hv
  subst hv'
  simp [Instr.buildSlice, run_underlying hu, hs, Instr.fill, newRow, newObj, Sem.run, show Array.range 0 = #[] from rfl]
 ·simp [Instr.buildSlice, run_underlying hu, hs, hz, hn', hv, newRow, newObj, Sem.run]
  have h2 := hf (Array.map (fun x => z.cells[x % z.cells.size]!) (Array.range vs.length)) (by simp)
  simp only [Nat.mul_one] at h2
  simp [h2, newRow, newObj, Sem.run]
theorem wl_lit8 {xs : List Operand} (bs : List UInt8) (T : U8 P t) (hs : ∀ w, (sizeOf 5).run P w = .ok 1 w) (hz : ∀ w, (zeroValue 5).run P w = .ok (.int .u8 0) w) (hx : fr.evs xs = some (B8 bs)) (hm : Nat.ble bs.length 1000000 = true)
  (hk : ∀ w', Own w' w.heap.size (some ⟨w.heap.size, 0, none⟩) bs.length bs → Below w.heap.size w w' → w'.heap.size = w.heap.size + 1 → WL P fn F N ks ops tg.tail l ((d, .slice (some ⟨w.heap.size, 0, none⟩) bs.length bs.length) :: fr) w')
  (ht : tg.loud = true := by rfl) (hg : onG ops fr gd = true := by rfl) (hd : Nat.blt d N = true := by rfl) : WL P fn F N ks ops tg (⟨some d, .buildSlice t bs.length ((List.range' 0 bs.length).zip xs).toArray, ty, pos, aft, gd⟩ :: l) fr w := by
 have hm' : bs.length ≤ 1000000 := by simpa using hm
 have hr := run_lit (P := P) (w := w) T.ht hs hz rfl (B8 bs) (B8_oneCell _) (by rw [B8_length]; omega)
 rw [B8_length] at hr
 exact wl_v (o_lit hx hr) (hk _ (own_lit w (Nat.le_refl _) bs _ rfl (by simp only [maxLen]; omega)) (below_alloc w _) (by simp)) ht hg hd (.inr (grown_of_below (below_alloc w _) _))

theorem B8_oneCell' (l : List UInt8) : ∀ v ∈ B8 l, v.oneCell' = true := B8_oneCell l
theorem o_arrptr {e : TypeId} {A : Option Addr} (hu : P.underlying t = some (.array n e)) (hx : fr.ev x = some (.slice A len cap)) (h : n ≤ len) : OpV P N fr w (.sliceToArrayPointer t x) ty (.pointer A) w := fun a ha o ho _ => by
 have : ¬ len < n := by omega
 simp [execOp, ho, ha.ev hx, Instr.arrayAt, run_underlying hu, this]
theorem o_slice_arr {e : TypeId} {ad : Addr} (hu : P.underlying t = some (.array n e)) (hs : ∀ w, (sizeOf e).run P w = .ok 1 w) (hx : fr.ev x = some (.pointer (some ad))) : OpV P N fr w (.slice t x none none none) ty (.slice (some ad) n n) w := fun a ha o ho _ => by
 simp [execOp, ho, ha.ev hx, Instr.sliceAt, Instr.sureAddr, run_underlying hu, Instr.sliceBounds, hs, Addr.add]

theorem o_aeq {e : TypeId} {xs ys : List UInt8} (hu : P.underlying t = some (.array n e)) (he : P.underlying e = some (.int .u8)) (hs : ∀ w, (sizeOf e).run P w = .ok 1 w) (hm : P.eqGuardType P.depth t = false)
  (hx : fr.ev x = some (.agg (B8 xs).toArray)) (hy : fr.ev y = some (.agg (B8 ys).toArray)) (h1 : xs.length = n) (h2 : ys.length = n) : OpV P N fr w (.binOp .eql t x y t') ty (.bool (decide (xs = ys))) w := fun a ha o ho _ => by
 have hr := run_eql_bytes (P := P) (w := w) t e n hu he hs xs ys h1 h2
 have hg := run_eqGuard_agg (P := P) (w := w) .eql t x y (B8 xs).toArray (B8 ys).toArray hm
 have hr' : (binOp .eql t (.agg (B8 xs).toArray) (.agg (B8 ys).toArray)).run P w = .ok (.bool (decide (xs = ys))) w := by
  have e : (xs == ys) = decide (xs = ys) := by rw [Bool.eq_iff_iff]; simp
  rw [← e]; exact hr
 simp [execOp, ho, ha.ev hx, ha.ev hy, hg, hr']
theorem o_ane {e : TypeId} {xs ys : List UInt8} (hu : P.underlying t = some (.array n e)) (he : P.underlying e = some (.int .u8)) (hs : ∀ w, (sizeOf e).run P w = .ok 1 w) (hm : P.eqGuardType P.depth t = false)
  (hx : fr.ev x = some (.agg (B8 xs).toArray)) (hy : fr.ev y = some (.agg (B8 ys).toArray)) (h1 : xs.length = n) (h2 : ys.length = n) : OpV P N fr w (.binOp .neq t x y t') ty (.bool (decide (xs ≠ ys))) w := fun a ha o ho _ => by
 have hr := run_equalIn_bytes (P := P) (w := w) 9998 t e n hu he hs xs ys h1 h2
 have hg := run_eqGuard_agg (P := P) (w := w) .neq t x y (B8 xs).toArray (B8 ys).toArray hm
 have hr' : (binOp .neq t (.agg (B8 xs).toArray) (.agg (B8 ys).toArray)).run P w = .ok (.bool (decide (xs ≠ ys))) w := by
  have e : (!(xs == ys)) = decide (xs ≠ ys) := by rw [Bool.eq_iff_iff]; simp
  rw [run_neq_struct, ← e]
  exact congrArg (fun r => Result.andThen r fun b w' => Result.ok (Value.bool (!b)) w') hr
 simp [execOp, ho, ha.ev hx, ha.ev hy, hg, hr']

theorem o_compl8 {n : Int} (hx : fr.ev x = some (.int .u8 n)) : OpV P N fr w (.unOp .xor t x) ty (.int .u8 (bits .xor .u8 255 n)) w := fun a ha o ho _ => by
 simp [execOp, ho, ha.ev hx, Op.unary, Op.intBits]
 rfl

theorem ret_cell {p : Nat} {R : Value → World → Prop} (h : fn.results = #[.cell p t]) (hp : fr.get p = some (.pointer (some ⟨g, 0, none⟩))) (ha' : ∀ w, (isAgg t).run P w = .ok true w) (hs : ∀ w, (sizeOf t).run P w = .ok n w) (hB : Blk w g t' cs) (hn : cs.length = n)
  (hR : R (.agg cs.toArray) w) : RK P fn (fun e w' => ∃ v, e = .returned v ∧ R v w') N (.code .ret :: ks) fr w :=
 rk_ret (F := fun e w' => ∃ v, e = .returned v ∧ R v w') (fun a ha => ⟨.agg cs.toArray, by
  have hp' : a.tmps[p]?.getD undef = .pointer (some ⟨g, 0, none⟩) := by rw [ha.get p _ hp]; rfl
  subst hn
  have hl : (loadCells ⟨g, 0, none⟩ cs.length).run P w = .ok cs.toArray w := run_loadCells_list (P := P) w ⟨g, 0, none⟩ cs (fun j u hu => by rw [add_plain, hB.cell, Nat.zero_add]; exact hu)
  simp [results, h, hp', asAddr, loadVar, ha', hs, hl], ⟨_, rfl, hR⟩⟩)
end

/-! copy. -/
section
variable {P : Program} {fn : Func} {F : Ending → World → Prop} {N : Nat} {ks : List K} {ops : Array Oper} {tg : Tags} {l : List Oper} {fr : Fr} {w : World} {ty t t' t2 : TypeId} {pos : String} {aft : Array Edge} {gd : Option (Nat × Bool)} {d g o n c m k : Nat} {x y : Operand} {cs : List Value}
theorem run_firstCells {A : Option Addr} {s : List UInt8} (hr : Rd w A s) {q : Nat} (hq : q ≤ s.length) : (Builtin.firstCells 1 q (.slice A s.length k)).run P w = .ok (B8 (s.take q)).toArray w := by
 rcases Nat.eq_zero_or_pos q with h0 | h0
 ·subst h0; cases A <;> simp [Builtin.firstCells, B8, loadCells, loadCellsFrom]
 ·have hne : s ≠ [] := by intro e; subst e; simp at hq; omega
  obtain ⟨b, o, rfl, _, hc⟩ := hr.at_ hne
  have := run_loadCells_list (P := P) w ⟨b, o, none⟩ (B8 (s.take q)) (fun j u hu => by
   have hj : j < (s.take q).length := by
    rcases Nat.lt_or_ge j (s.take q).length with h | h
    ·exact h
    ·rw [List.getElem?_eq_none (by rw [B8_length]; exact h)] at hu; cases hu
   rw [B8_get _ _ hj] at hu
   have hj' : j < s.length := by simp at hj; omega
   rw [add_plain, hc j hj', ← hu]
   simp)
  rw [B8_length, List.length_take, Nat.min_eq_left hq] at this
  simp [Builtin.firstCells, this]
theorem wl_copy (T : U8 P t) {A : Option Addr} {s : List UInt8} (hx : fr.ev x = some (.slice (some ⟨g, o, none⟩) n c)) (hy : fr.ev y = some (.slice A m k)) (hm : m = s.length) (hr : Rd w A s) (hB : Blk w g t' cs) (hi : o + n ≤ cs.length)
  (h : ∀ w', Blk w' g t' (spl cs o (B8 (s.take n))) → w.grownBy w' (some g) → w'.heap.size = w.heap.size → WL P fn F N ks ops tg.tail l ((d, .int .i64 (min m n : Nat)) :: fr) w')
  (ht : tg.loud = true := by rfl) (hg : onG ops fr gd = true := by rfl) (hd : Nat.blt d N = true := by rfl) (hq : tg.calm = false ∨ some g = tg.row := by exact .inl rfl) :
  WL P fn F N ks ops tg (⟨some d, .call { callee := .builtin .copy, args := #[x, y], argTypes := #[t, t2] }, ty, pos, aft, gd⟩ :: l) fr w := by
 subst hm
 obtain ⟨i, hi', hz, hsz, hb⟩ := info_parts T.hi
 have hf := run_firstCells (P := P) (k := k) hr (q := min s.length n) (Nat.min_le_left _ _)
 have htk : s.take (min s.length n) = s.take n := by
  rcases Nat.le_total s.length n with h1 | h1
  ·rw [Nat.min_eq_left h1, List.take_of_length_le (Nat.le_refl _), List.take_of_length_le h1]
  ·rw [Nat.min_eq_right h1]
 rw [htk] at hf
 obtain ⟨w', hst, hB', hg', hz'⟩ := run_storeCells_blk (P := P) (o := o) (B8 (s.take n)) 0 cs w hB (B8_oneCell _) (by rw [B8_length, List.length_take]; omega)
 refine wl_v (w' := w') (o_builtin (xs := [x, y]) (vs := [.slice (some ⟨g, o, none⟩) n c, .slice A s.length k]) (by simp [Fr.evs, hx, hy]) ?_ (by simp)) (h w' hB' hg' hz') ht hg hd (hq.imp id fun (e : some g = tg.row) => e ▸ hg')
 have hmin : Nat.min s.length n = min s.length n := rfl
 simp [builtin, Builtin.copy_, run_underlying T.ht, sizeOf, typeInfo, hi', hsz, Builtin.lenOf, hmin, hf, hst]
 rfl
end
end Go.Proofs.YtahkeoegbjopfaaGreat
namespace Go.Proofs.YtahkeoegbjopfaaGreat
set_option maxRecDepth 100000
open Go.ChangeShapes Go.WideShapes Go.ChangeAt Go.RowKit

theorem Tryz.own : ownKnob Tryz.prog.godebug = none := by kernel_rfl
theorem Tryz.laidOut : laidOutB Tryz.prog = true := by kernel_rfl

section
variable {H : Type} {enc : TypeId × Value → H} {P : Program}
theorem trodAll_stays (hl : laidOutB P = true) {W W' : World} (hb : Below W.heap.size W W') : ∀ (ts : List TypeId) (vs : List Value) (ds : List (DataW H)) (ps : List MemPlace),
  ts.all (fun t => P.readableRec t && decide (t < P.types.size)) = true → DataW.TrodAll enc P W 0 (fun _ => true) true ts vs ds ps → (∀ x ∈ ps, x.block < W.heap.size) → ∀ sp : Nat → Bool, (∀ x ∈ ps, sp x.block = true) →
  DataW.TrodAll enc P W' 0 sp true ts vs ds ps
 | [], [], [], _, _, h, _, _, _ => h
 | t :: ts, v :: vs, d :: ds, ps, hr, h, hlt, sp, hsp => by
  obtain ⟨p, q, h1, h2, rfl⟩ := h
  simp only [List.all_cons, Bool.and_eq_true, decide_eq_true_eq] at hr
  refine ⟨p, q, WideElems.Trod_stays hl hr.1.1 hr.1.2 h1 (fun x hx => hb.same (hlt x (by simp [hx]))) (fun x hx => hsp x (by simp [hx])), ?_, rfl⟩
  exact trodAll_stays hl hb ts vs ds q hr.2 h2 (fun x hx => hlt x (by simp [hx])) sp (fun x hx => hsp x (by simp [hx]))
 | [], [], _ :: _, _, _, h, _, _, _ => h.elim
 | [], _ :: _, _, _, _, h, _, _, _ => h.elim
 | _ :: _, [], _, _, _, h, _, _, _ => h.elim
 | _ :: _, _ :: _, [], _, _, h, _, _, _ => h.elim

theorem post_of_below {f : Func} {s : ChangeSpec} {apart fresh handsOn again : Bool} {W W' : World} {args : Array Value} {v : Value} {ds gs : List (DataW H)} {before pa pv : List MemPlace}
  (hW : DataW.Whole enc P f.params.toList s.vars apart W args.toList ds gs before)
  (hres : ∀ (b : Nat) (sp : Nat → Bool) (hd : Bool), DataW.TrodAll enc P W' b sp hd f.resultTypes.toList (v.resultList f.resultTypes.size) (s.fn H (ds ++ gs)).results [])
  (hargs : ∀ sp : Nat → Bool, (∀ p ∈ before, sp p.block = true) → DataW.TrodAll enc P W' 0 sp true f.params.toList args.toList (s.fn H (ds ++ gs)).args pa)
  (hvars : ∀ sp : Nat → Bool, (∀ p ∈ before, sp p.block = true) → DataW.TrodVars enc P W' sp s.vars (s.fn H (ds ++ gs)).vars pv)
  (hps : before = pa ++ pv) (hb : Below W.heap.size W W')
  (hok : ∀ (j : Nat) (t : TypeId) (r : Value), f.resultTypes[j]? = some t → (v.resultList f.resultTypes.size)[j]? = some r → Value.okWide P W' .any 0 t r) :
  s.post enc P f apart fresh handsOn again W args v W' := by
 have hlt : ∀ p ∈ before, p.block < W.heap.size := fun p hp => hW.lt p hp
 have hold : ∀ p ∈ before, (fun b => decide (b < W.heap.size)) p.block = true := fun p hp => by simpa using hlt p hp
 refine ⟨ds, gs, before, [], pa, pv, hW, hres _ _ _, hargs _ hold, hvars _ hold, World.keptBut_mono (fun p hp => ⟨hp, ?_⟩) (hb.frame (· ∈ before)), fun _ => ?_⟩
 ·rw [hps, List.mem_append] at hp
  exact Or.inr hp
 ·obtain ⟨_, _, _, _, _, hz, hn⟩ := hW
  refine ⟨hok, _, _, ([] ++ pa) ++ pv, ⟨[] ++ pa, pv, trodAll_append (hargs _ (fun _ _ => rfl)) (hres _ _ _), hvars _ (fun _ _ => rfl), rfl, ?_, ?_⟩, ?_⟩
  ·intro b off hp
   have hin : MemPlace.cell b off ∈ before := by rw [hps]; simpa using hp
   rw [hb.frozen (hlt _ hin)]
   exact hz b off hin
  ·intro ha
   have := hn ha
   rw [hps] at this
   simpa using this
  ·intro p hp _
   rw [hps]
   simpa using hp

theorem law_post (hl : laidOutB P = true) {f : Func} {s : ChangeSpec} {handsOn again : Bool} {W W' : World} {args : Array Value} {ds : List (DataW H)} {p : List MemPlace} (hrt : f.resultTypes = #[4]) (hu : P.underlying 4 = some .bool) (hvs : s.vars = [])
  (hread : f.params.toList.all (fun t => P.readableRec t && decide (t < P.types.size)) = true)
  (hfn : s.fn H ds = { results := [.lit (.bool true)], args := ds })
  (hW : DataW.Whole enc P f.params.toList s.vars false W args.toList ds [] p) (hA : DataW.TrodAll enc P W 0 (fun _ => true) true f.params.toList args.toList ds p) (hb : Below W.heap.size W W') :
  s.post enc P f false true handsOn again W args (.bool true) W' := by
 have hlt : ∀ x ∈ p, x.block < W.heap.size := fun x hx => hW.lt x hx
 refine post_of_below (pa := p) (pv := []) hW ?_ ?_ ?_ (by simp) hb ?_
 ·intro b sp hd
  rw [List.append_nil, hfn, hrt]
  exact trodAll_cons_mk (shut_bool hu true) trodAll_mk0
 ·intro sp hsp
  rw [List.append_nil, hfn]
  exact trodAll_stays hl hb _ _ _ _ hread hA hlt sp hsp
 ·intro sp _
  rw [List.append_nil, hfn, hvs]
  rfl
 ·intro j t r h1 h2
  rw [hrt] at h1 h2
  match j, h1, h2 with
  | 0, h1, h2 =>
   have e1 : t = 4 := by simpa using h1.symm
   have e2 : r = .bool true := by simpa [Value.resultList] using h2.symm
   subst e1; subst e2
   exact okWide_bool_mk hu true
  | j + 1, h1, _ => simp at h1
end

/-! Arguments, opened. -/
theorem spot_of_cell {w : World} {a : Addr} {v : Value} (h : w.cell? a = some v) : a = ⟨a.block, a.off, none⟩ := by
 unfold World.cell? at h
 split at h
 ·split at h
  ·cases h
  ·rename_i hs
   cases a with
   | mk b o s => cases s <;> simp at hs ⊢
 ·cases h
theorem reads_of_cells {w : World} {a : Addr} {xs : List Value} (h : ∀ i v, xs[i]? = some v → w.cell? (a.add i) = some v) : Reads w 1 (some a) xs.length xs := by
 refine ⟨by simp, fun hn => ?_⟩
 have h0 : ∃ v, xs[0]? = some v := by
  cases xs with
  | nil => exact absurd rfl hn
  | cons x _ => exact ⟨x, rfl⟩
 obtain ⟨v0, hv0⟩ := h0
 have hc := h 0 v0 hv0
 have ha : a.add 0 = a := by simp [Addr.add]
 rw [ha] at hc
 have hs := spot_of_cell hc
 exact ⟨a.block, a.off, by rw [← hs], fun j u hu => by rw [← add_plain, ← hs]; exact h j u hu⟩

section
variable {H : Type} {enc : TypeId × Value → H} {P : Program} {W : World} {base : Nat}
theorem bytes_of_vals : ∀ cs : List Value, (∀ v ∈ cs, ∃ m : Int, v = .int .u8 m ∧ 0 ≤ m ∧ m ≤ 255) → ∃ l : List UInt8, cs = B8 l
 | [], _ => ⟨[], rfl⟩
 | v :: cs, h => by
  obtain ⟨l, rfl⟩ := bytes_of_vals cs fun u hu => h u (by simp [hu])
  obtain ⟨m, rfl, h0, h1⟩ := h _ (List.mem_cons_self ..)
  exact ⟨UInt8.ofNat m.toNat :: l, by simp only [B8, List.map_cons]; rw [← byte_of m h0 h1]⟩
theorem open_arr8 {t : TypeId} {n : Nat} (hu : P.underlying t = some (.array n 5)) (he : P.underlying 5 = some (.int .u8)) (hct : P.cellTypes P.depth t = some (List.replicate n 5)) (hc : P.cellsOf t = n) {v : Value} (hok : Value.okWide P W .any base t v) :
  ∃ l : List UInt8, v = .agg (B8 l).toArray ∧ l.length = n := by
 simp only [Value.okWide, hu] at hok
 obtain ⟨cs, rfl, hs, ts, hts, -, hcell⟩ := hok
 rw [hct] at hts
 obtain rfl := Option.some.inj hts
 obtain ⟨l, hl⟩ := bytes_of_vals cs.toList (fun v hv => by
  obtain ⟨i, hi, rfl⟩ := List.mem_iff_getElem.1 hv
  have hi' : i < cs.size := by simpa using hi
  obtain ⟨u, hu1, hu2⟩ := hcell i _ (Array.getElem?_eq_getElem hi')
  have h5 : u = 5 := by
   rw [List.getElem?_replicate] at hu1
   split at hu1
   ·exact (Option.some.inj hu1).symm
   ·cases hu1
  subst h5
  rw [Array.getElem_toList]
  generalize cs[i] = v at hu2 ⊢
  simp only [Cell.okWide, he] at hu2
  cases v <;> simp only [Cell.ok, he] at hu2
  obtain ⟨rfl, h1, h2⟩ := hu2
  exact ⟨_, rfl, h1, h2⟩)
 refine ⟨l, by rw [← hl], ?_⟩
 have := congrArg List.length hl
 rw [B8_length] at this
 rw [← this, ← hc, ← hs]
 simp
end
end Go.Proofs.YtahkeoegbjopfaaGreat
namespace Go.Proofs.YtahkeoegbjopfaaGreat
set_option maxRecDepth 100000
open Go.RowKit
section
variable {P : Program} {fn : Func} {F : Ending → World → Prop} {N : Nat} {ks : List K} {k : K} {ops : Array Oper} {l : List Oper} {fr : Fr} {w : World} {tg : Tags}

theorem rk_join (R : Fr → World → Prop) (h2 : ∀ fr w, R fr w → RK P fn F N ks fr w) (h1 : ∀ ks, (∀ fr w, R fr w → RK P fn F N ks fr w) → RK P fn F N (k :: ks) fr w) : RK P fn F N (k :: ks) fr w := h1 ks h2
theorem rk_to {R : Fr → World → Prop} (hj : ∀ fr w, R fr w → RK P fn F N ks fr w) {fr0 : Fr} (hs : Fr.sub fr0 fr) (h : R fr0 w) : RK P fn F N ks fr w := (hj fr0 w h).sub hs

section
variable {x y : Operand} {m n : Int} {t t' ty : TypeId} {ik : IntKind}
theorem o_remz (hx : fr.ev x = some (.int ik m)) (hy : fr.ev y = some (.int ik n)) (h : n ≠ 0) : OpV P N fr w (.binOp .rem t x y t') ty (.int ik (m.tmod n)) w := o_bin hx hy eqg_int (by
 rw [binOp_rem]
 simp [Op.intDiv, h])
theorem o_remu (hx : fr.ev x = some (.int ik m)) (hy : fr.ev y = some (.int ik n)) (h0 : 0 ≤ m) (h2 : 0 < n) : OpV P N fr w (.binOp .rem t x y t') ty (.int ik (m % n)) w := o_bin hx hy eqg_int (by
 rw [binOp_rem]
 have hne : n ≠ 0 := by omega
 have e : m.tmod n = m % n := Int.tmod_eq_emod_of_nonneg h0
 simp [Op.intDiv, hne, e])
end
end
end Go.Proofs.YtahkeoegbjopfaaGreat
