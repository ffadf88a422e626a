/-
  The reader, seen from outside: what is left and the first error.
-/
import Derived.Test.YtifbbbbgefpgkaaOctB
namespace Go.Proofs.Ytifbbbbgefpgkaa
open Go.RowKit

/-- The reader at block g: what is left, and its error. -/
def Rdr (w : World) (g : Nat) (s : RS) : Prop := ∃ l p, RdrI w g l p s.2 ∧ s.1 = l.drop p
theorem RdrI.rdr {w : World} {g : Nat} {l : List UInt8} {p : Nat} {s : RS} (h : RdrI w g l p s.2) (hs : s.1 = l.drop p) : Rdr w g s := ⟨l, p, h, hs⟩
theorem Rdr.below {w w' : World} {g : Nat} {s : RS} (h : Rdr w g s) (hb : Below w.heap.size w w') : Rdr w' g s := by
  obtain ⟨l, p, h, hs⟩ := h
  exact ⟨l, p, h.below hb, hs⟩
theorem Rdr.drew {w : World} {g : Nat} {s : RS} (h : Rdr w g s) : Rdr w.drew g s := h
theorem Rdr.blk {w : World} {g : Nat} {s : RS} (h : Rdr w g s) : ∃ cs, Blk w g 57 cs := by
  obtain ⟨l, p, h, hs⟩ := h
  obtain ⟨A, c, hB, -⟩ := h.blk'
  exact ⟨_, hB⟩
theorem Rdr.lt {w : World} {g : Nat} {s : RS} (h : Rdr w g s) : g < w.heap.size := h.blk.choose_spec.lt
theorem Rdr.grown {w w' : World} {g k t : Nat} {cs : List Value} {s : RS} (h : Rdr w g s) (hg : w.grownBy w' (some k)) (hB : Blk w k t cs) (ht : t ≠ 5) (hk : k ≠ g) : Rdr w' g s := by
  obtain ⟨l, p, h, hs⟩ := h
  exact ⟨l, p, h.grown hg hB ht hk, hs⟩
theorem Rdr.other {w w' : World} {g k : Nat} {s t : RS} (h : Rdr w g s) (hg : w.grownBy w' (some k)) (hk : Rdr w k t) (hne : k ≠ g) : Rdr w' g s :=
  h.grown hg hk.blk.choose_spec (by decide) hne

theorem K_Read {A : Option Addr} {l : List UInt8} {k : Nat} (c : Nat) (hk : k = l.length) (w : World) (hr : Rd w A l) (hl : l.length ≤ 140737488355328) :
    CallsR Try.prog 17 [.slice A k c] w fun v w' => ∃ g, v = .pointer (some ⟨g, 0, none⟩) ∧ w.heap.size ≤ g ∧ Rdr w' g (l, 0) ∧ Below w.heap.size w w' :=
  (C_Read c hk w hr hl).mono fun _ _ ⟨g, hv, hg, _, hR, hb⟩ => ⟨g, hv, hg, hR.rdr (s := (l, 0)) rfl, hb⟩
theorem K_RNumber {g : Nat} {s : RS} (w : World) (hR : Rdr w g s) :
    CallsR Try.prog 20 [.pointer (some ⟨g, 0, none⟩)] w fun v w' => v = .int .u64 (rNumber s).1 ∧ w.grownBy w' (some g) ∧ Rdr w' g (rNumber s).2 := by
  obtain ⟨l, p, h, hs⟩ := hR
  obtain ⟨x, e⟩ := s
  obtain rfl : x = l.drop p := hs
  exact (C_RNumber w h).mono fun _ _ ⟨hv, hg, p', hR, hs⟩ => ⟨hv, hg, hR.rdr hs⟩
theorem K_RBlock {g : Nat} {s : RS} (w : World) (hR : Rdr w g s) :
    CallsR Try.prog 22 [.pointer (some ⟨g, 0, none⟩)] w fun v w' => (∃ A' c', v = .slice A' (rBlock s).1.length c' ∧ Own w' w.heap.size A' c' (rBlock s).1) ∧ w.grownBy w' (some g) ∧ Rdr w' g (rBlock s).2 := by
  obtain ⟨l, p, h, hs⟩ := hR
  obtain ⟨x, e⟩ := s
  obtain rfl : x = l.drop p := hs
  exact (C_RBlock w h).mono fun _ _ ⟨hg, hv, p', hR, hs⟩ => ⟨hv, hg, hR.rdr hs⟩
theorem K_RWord {g : Nat} {s : RS} (size : Int) (w : World) (hR : Rdr w g s) :
    CallsR Try.prog 24 [.pointer (some ⟨g, 0, none⟩), .int .i64 size] w fun v w' => v = .int .u64 (rWord size s).1 ∧ w.grownBy w' (some g) ∧ Rdr w' g (rWord size s).2 := by
  obtain ⟨l, p, h, hs⟩ := hR
  obtain ⟨x, e⟩ := s
  obtain rfl : x = l.drop p := hs
  exact (C_RWord size w h).mono fun _ _ ⟨hv, hg, p', hR, hs⟩ => ⟨hv, hg, hR.rdr hs⟩
theorem K_RTake {g : Nat} {s : RS} (n : Int) (w : World) (hR : Rdr w g s) (hn : n ≤ 9223372036854775807) :
    CallsR Try.prog 26 [.pointer (some ⟨g, 0, none⟩), .int .i64 n] w fun v w' => (∃ A' c', v = .slice A' (rTake n.toNat s).1.length c' ∧ Own w' w.heap.size A' c' (rTake n.toNat s).1) ∧ w.grownBy w' (some g) ∧ Rdr w' g (rTake n.toNat s).2 := by
  obtain ⟨l, p, h, hs⟩ := hR
  obtain ⟨x, e⟩ := s
  obtain rfl : x = l.drop p := hs
  exact (C_RTake n w h hn).mono fun _ _ ⟨hg, hv, p', hR, hs⟩ => ⟨hv, hg, hR.rdr hs⟩
theorem K_RDigest {g : Nat} {s : RS} (w : World) (hR : Rdr w g s) :
    CallsR Try.prog 28 [.pointer (some ⟨g, 0, none⟩)] w fun v w' => v = .agg (B8 (rDigest s).1).toArray ∧ w.grownBy w' (some g) ∧ Rdr w' g (rDigest s).2 := by
  obtain ⟨l, p, h, hs⟩ := hR
  obtain ⟨x, e⟩ := s
  obtain rfl : x = l.drop p := hs
  exact (C_RDigest w h).mono fun _ _ ⟨hv, hg, p', hR, hs⟩ => ⟨hv, hg, hR.rdr hs⟩
theorem K_RErr {g : Nat} {s : RS} (w : World) (hR : Rdr w g s) :
    CallsR Try.prog 30 [.pointer (some ⟨g, 0, none⟩)] w fun v w' => v = .int .i64 s.2 ∧ w = w' := by
  obtain ⟨l, p, h, hs⟩ := hR
  exact C_RErr w h
theorem K_RLeft {g : Nat} {s : RS} (w : World) (hR : Rdr w g s) :
    CallsR Try.prog 31 [.pointer (some ⟨g, 0, none⟩)] w fun v w' => v = .int .i64 s.1.length ∧ w.drew = w' := by
  obtain ⟨l, p, h, hs⟩ := hR
  obtain ⟨x, e⟩ := s
  obtain rfl : x = l.drop p := hs
  exact C_RLeft w h
theorem K_REnd {g : Nat} {s : RS} (w : World) (hR : Rdr w g s) :
    CallsR Try.prog 32 [.pointer (some ⟨g, 0, none⟩)] w fun v w' => v = .int .i64 (rEnd s) ∧ Below w.heap.size w w' ∧ w'.heap.size = w.heap.size := by
  obtain ⟨l, p, h, hs⟩ := hR
  obtain ⟨x, e⟩ := s
  obtain rfl : x = l.drop p := hs
  exact C_REnd w h
end Go.Proofs.Ytifbbbbgefpgkaa
