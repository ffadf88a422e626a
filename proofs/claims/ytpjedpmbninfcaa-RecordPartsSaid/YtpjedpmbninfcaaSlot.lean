/-
  Lists of bytes that are only read, as a sum takes them.
-/
import Derived.Test.YtpjedpmbninfcaaShG
import Derived.Test.YtpjedpmbninfcaaU8
namespace Go.Proofs.Ytpjedpmbninfcaa
open Go.RowKit
--@ side (own_max' (by assumption))
theorem own_max' {w : World} {lo hi c : Nat} {A : Option Addr} {l : List UInt8} (h : OwnH w lo hi A c l) : c ≤ 9223372036854775807 := by
  have := own_max h; simpa [maxLen] using this
theorem rd_blk {w : World} {g : Nat} {t : TypeId} {c : By} (hB : Blk w g t (B8 c)) : Rd w (some ⟨g, 0, none⟩) c := by
  have := rd_pre hB c.length
  rwa [List.take_length] at this
theorem Blk.to_Rd {w : World} {g : Nat} {t : TypeId} {c : By} (hB : Blk w g t (B8 c)) : Rd w (some ⟨g, 0, none⟩) c := rd_blk hB
section
variable {P : Program} {N : Nat} {fr : Fr} {w : World} {ty t t' : TypeId} {n g : Nat} {x z : Operand} {h : Int} {kh : IntKind}
--@ rule slice p o_slArrHi
--@ side (rd_pre (by assumption) 8)
theorem o_slArrHi (k : Nat) (hu : P.underlying t = some (.array n 5)) (hs : ∀ w, (sizeOf 5).run P w = .ok 1 w) (hx : fr.ev x = some (.pointer (some ⟨g, 0, none⟩))) (hz : fr.ev z = some (.int kh h)) (hh : h = (k : Int)) (hk : k ≤ n) : OpV P N fr w (.slice t x none (some z) none) ty (.slice (some ⟨g, 0, none⟩) k n) w := by
  subst hh
  intro a ha op hop _
  simp [execOp, hop, ha.ev hx, ha.ev hz, Instr.sliceAt, Instr.sureAddr, run_underlying hu, Instr.sliceBounds, Instr.sliceBound, asIntOf, hs, hk, Addr.add]
end
section
variable {fn : Func} {F : Ending → World → Prop} {N : Nat} {ks : List K} {ops : Array Oper} {tg : Tags} {l : List Oper} {fr : Fr} {w : World} {ty : TypeId} {pos : String} {aft : Array Edge} {gd : Option (Nat × Bool)} {d : Nat}
--@ rule buildSlice l wl_litKr1
theorem wl_litKr1 {ps : Array (Nat × Operand)} {xs : List Operand} {A1 : Option Addr} {n1 c1 : Nat} {p1 : By} (hxs : ps.toList.map Prod.snd = xs) (hx : fr.evs xs = some [.slice A1 n1 c1]) (h1 : Rd w A1 p1) (hn1 : n1 = p1.length) (hc1 : p1.length ≤ c1) (hm1 : c1 ≤ 9223372036854775807) (hps : ps = ((List.range' 0 1).zip xs).toArray)
    (hk : ∀ A w', RKy w' A [p1] → Below w.heap.size w w' → WL Try.prog fn F N ks ops tg.tail l ((d, .slice A 1 1) :: fr) w')
    (ht : tg.loud = true := by rfl) (hg : onG ops fr gd = true := by rfl) (hd : Nat.blt d N = true := by rfl) : WL Try.prog fn F N ks ops tg (⟨some d, .buildSlice 63 1 ps, ty, pos, aft, gd⟩ :: l) fr w := by
  subst hn1
  refine wl_litRS (X := gBytes) (L := [p1]) Try.rowKey Try.sizeOf26 Try.zeroValue26 hxs hps hx rfl rfl (fun i h => ?_) rfl hk ht hg hd
  obtain rfl : i = 0 := by simp at h; omega
  exact ⟨_, rfl, rfl, A1, c1, rfl, h1, hc1, by simp only [maxLen]; omega⟩
--@ rule buildSlice l wl_litKr2
theorem wl_litKr2 {ps : Array (Nat × Operand)} {xs : List Operand} {A1 A2 : Option Addr} {n1 c1 n2 c2 : Nat} {p1 p2 : By} (hxs : ps.toList.map Prod.snd = xs) (hx : fr.evs xs = some [.slice A1 n1 c1, .slice A2 n2 c2]) (h1 : Rd w A1 p1) (h2 : Rd w A2 p2) (hn1 : n1 = p1.length) (hn2 : n2 = p2.length) (hc1 : p1.length ≤ c1) (hc2 : p2.length ≤ c2) (hm1 : c1 ≤ 9223372036854775807) (hm2 : c2 ≤ 9223372036854775807) (hps : ps = ((List.range' 0 2).zip xs).toArray)
    (hk : ∀ A w', RKy w' A [p1, p2] → Below w.heap.size w w' → WL Try.prog fn F N ks ops tg.tail l ((d, .slice A 2 2) :: fr) w')
    (ht : tg.loud = true := by rfl) (hg : onG ops fr gd = true := by rfl) (hd : Nat.blt d N = true := by rfl) : WL Try.prog fn F N ks ops tg (⟨some d, .buildSlice 63 2 ps, ty, pos, aft, gd⟩ :: l) fr w := by
  subst hn1; subst hn2
  refine wl_litRS (X := gBytes) (L := [p1, p2]) Try.rowKey Try.sizeOf26 Try.zeroValue26 hxs hps hx rfl rfl (fun i h => ?_) rfl hk ht hg hd
  rcases i with _ | _ | i
  · exact ⟨_, rfl, rfl, A1, c1, rfl, h1, hc1, by simp only [maxLen]; omega⟩
  · exact ⟨_, rfl, rfl, A2, c2, rfl, h2, hc2, by simp only [maxLen]; omega⟩
  · simp at h; omega
--@ rule buildSlice l wl_litKr3
theorem wl_litKr3 {ps : Array (Nat × Operand)} {xs : List Operand} {A1 A2 A3 : Option Addr} {n1 c1 n2 c2 n3 c3 : Nat} {p1 p2 p3 : By} (hxs : ps.toList.map Prod.snd = xs) (hx : fr.evs xs = some [.slice A1 n1 c1, .slice A2 n2 c2, .slice A3 n3 c3]) (h1 : Rd w A1 p1) (h2 : Rd w A2 p2) (h3 : Rd w A3 p3) (hn1 : n1 = p1.length) (hn2 : n2 = p2.length) (hn3 : n3 = p3.length) (hc1 : p1.length ≤ c1) (hc2 : p2.length ≤ c2) (hc3 : p3.length ≤ c3) (hm1 : c1 ≤ 9223372036854775807) (hm2 : c2 ≤ 9223372036854775807) (hm3 : c3 ≤ 9223372036854775807) (hps : ps = ((List.range' 0 3).zip xs).toArray)
    (hk : ∀ A w', RKy w' A [p1, p2, p3] → Below w.heap.size w w' → WL Try.prog fn F N ks ops tg.tail l ((d, .slice A 3 3) :: fr) w')
    (ht : tg.loud = true := by rfl) (hg : onG ops fr gd = true := by rfl) (hd : Nat.blt d N = true := by rfl) : WL Try.prog fn F N ks ops tg (⟨some d, .buildSlice 63 3 ps, ty, pos, aft, gd⟩ :: l) fr w := by
  subst hn1; subst hn2; subst hn3
  refine wl_litRS (X := gBytes) (L := [p1, p2, p3]) Try.rowKey Try.sizeOf26 Try.zeroValue26 hxs hps hx rfl rfl (fun i h => ?_) rfl hk ht hg hd
  rcases i with _ | _ | _ | i
  · exact ⟨_, rfl, rfl, A1, c1, rfl, h1, hc1, by simp only [maxLen]; omega⟩
  · exact ⟨_, rfl, rfl, A2, c2, rfl, h2, hc2, by simp only [maxLen]; omega⟩
  · exact ⟨_, rfl, rfl, A3, c3, rfl, h3, hc3, by simp only [maxLen]; omega⟩
  · simp at h; omega
end
section
variable {P : Program} {N : Nat} {fr : Fr} {w : World} {ty : TypeId} {x : Operand} {u0 u1 u2 u3 : Value}
theorem o_ext40 (hx : fr.ev x = some (.tuple #[u0, u1, u2, u3])) : OpV P N fr w (.extract x 0) ty u0 w := o_extract hx rfl
theorem o_ext41 (hx : fr.ev x = some (.tuple #[u0, u1, u2, u3])) : OpV P N fr w (.extract x 1) ty u1 w := o_extract hx rfl
theorem o_ext42 (hx : fr.ev x = some (.tuple #[u0, u1, u2, u3])) : OpV P N fr w (.extract x 2) ty u2 w := o_extract hx rfl
theorem o_ext43 (hx : fr.ev x = some (.tuple #[u0, u1, u2, u3])) : OpV P N fr w (.extract x 3) ty u3 w := o_extract hx rfl
end
end Go.Proofs.Ytpjedpmbninfcaa
