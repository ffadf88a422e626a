/-
  Numbers of 64 bits, and arrays in blocks of their own. No function of the program is named here.
-/
import Derived.Test.YtpjedpmbninfcaaStr
import Derived.Laws.Bits64b
namespace Go.Proofs.Ytpjedpmbninfcaa
open Go.RowKit
section
variable {P : Program} {fn : Func} {F : Ending → World → Prop} {N : Nat} {ks : List K} {ops : Array Oper} {tg : Tags} {l : List Oper} {fr : Fr} {w : World} {ty ty2 t t' t2 e e2 : TypeId} {z v : Value} {pos pos2 : String} {aft aft2 : Array Edge} {gd gd2 : Option (Nat × Bool)} {d n g i j sz : Nat} {x y : Operand} {a b : UInt64} {k k' : IntKind} {m : Int}
/-! Numbers. -/
theorem u64_lt (a : UInt64) : a.toNat < 18446744073709551616 := a.toNat_lt
theorem o_addU (hx : fr.ev x = some (.int .u64 (a.toNat : Int))) (hy : fr.ev y = some (.int .u64 (b.toNat : Int))) : OpV P N fr w (.binOp .add t x y t') ty (.int .u64 ((a + b).toNat : Int)) w :=
  o_asi (o_addw hx hy) (by rw [IntKind.wrap_u64, UInt64.toNat_add]; omega)
theorem o_addq {n' : Int} (hx : fr.ev x = some (.int .u64 m)) (hy : fr.ev y = some (.int .u64 n')) (h0 : 0 ≤ m + n') (h1 : m + n' ≤ 18446744073709551615) : OpV P N fr w (.binOp .add t x y t') ty (.int .u64 (m + n')) w :=
  o_asi (o_addw hx hy) (u64_in h0 h1)
theorem o_subq {n' : Int} (hx : fr.ev x = some (.int .u64 m)) (hy : fr.ev y = some (.int .u64 n')) (h0 : 0 ≤ m - n') (h1 : m - n' ≤ 18446744073709551615) : OpV P N fr w (.binOp .sub t x y t') ty (.int .u64 (m - n')) w :=
  o_asi (o_subw hx hy) (u64_in h0 h1)
theorem o_mulq {n' : Int} (hx : fr.ev x = some (.int .u64 m)) (hy : fr.ev y = some (.int .u64 n')) (h0 : 0 ≤ m * n') (h1 : m * n' ≤ 18446744073709551615) : OpV P N fr w (.binOp .mul t x y t') ty (.int .u64 (m * n')) w :=
  o_asi (o_mulw hx hy) (u64_in h0 h1)
theorem o_xorU (hx : fr.ev x = some (.int .u64 (a.toNat : Int))) (hy : fr.ev y = some (.int .u64 (b.toNat : Int))) : OpV P N fr w (.binOp .xor t x y t') ty (.int .u64 ((a ^^^ b).toNat : Int)) w :=
  o_asi (o_xor hx hy) (by rw [bits_xor_u64_nat _ _ (u64_lt a) (u64_lt b), UInt64.toNat_xor])
theorem o_andU (hx : fr.ev x = some (.int .u64 (a.toNat : Int))) (hy : fr.ev y = some (.int .u64 (b.toNat : Int))) : OpV P N fr w (.binOp .and t x y t') ty (.int .u64 ((a &&& b).toNat : Int)) w :=
  o_asi (o_and hx hy) (by rw [bits_and_u64_nat _ _ (u64_lt a) (u64_lt b), UInt64.toNat_and])
theorem o_orU (hx : fr.ev x = some (.int .u64 (a.toNat : Int))) (hy : fr.ev y = some (.int .u64 (b.toNat : Int))) : OpV P N fr w (.binOp .or t x y t') ty (.int .u64 ((a ||| b).toNat : Int)) w :=
  o_asi (o_or hx hy) (by rw [bits_or_u64_nat _ _ (u64_lt a) (u64_lt b), UInt64.toNat_or])
theorem o_notU (hx : fr.ev x = some (.int .u64 (a.toNat : Int))) : OpV P N fr w (.unOp .xor t x) ty (.int .u64 ((~~~a).toNat : Int)) w := fun c ha o ho _ => by
  have h := u64_lt a
  have e : bits .xor .u64 18446744073709551615 (a.toNat : Int) = ((~~~a).toNat : Int) := by
    have h1 : (BitVec.ofInt 64 (a.toNat : Int)) = a.toBitVec := by
      rw [BitVec.ofInt_natCast]; apply BitVec.eq_of_toNat_eq; rw [BitVec.toNat_ofNat, Nat.mod_eq_of_lt (by omega)]; rfl
    show IntKind.u64.wrap ((BitVec.ofInt 64 18446744073709551615 ^^^ BitVec.ofInt 64 (a.toNat : Int)).toNat : Int) = _
    rw [h1, show BitVec.ofInt 64 18446744073709551615 = BitVec.allOnes 64 from rfl, BitVec.allOnes_xor, ← UInt64.toBitVec_not]
    show IntKind.u64.wrap (((~~~a).toNat : Nat) : Int) = _
    have := u64_lt (~~~a)
    rw [IntKind.wrap_u64]; omega
  have e2 : (execOp c.eval o).run P w = .ok (.value (.int .u64 (bits .xor .u64 18446744073709551615 (a.toNat : Int)))) w := by
    simp [execOp, ho, ha.ev hx, Op.unary]
    rfl
  rw [e2, e]
def shrU (a : UInt64) (n : Nat) : UInt64 := a >>> UInt64.ofNat n
def shlU (a : UInt64) (n : Nat) : UInt64 := a <<< UInt64.ofNat n
theorem shrU_toNat (a : UInt64) {n : Nat} (h : n < 64) : (shrU a n).toNat = a.toNat / 2 ^ n := by
  unfold shrU
  rw [UInt64.toNat_shiftRight, UInt64.toNat_ofNat_of_lt' (by show n < 18446744073709551616; omega), Nat.mod_eq_of_lt h, Nat.shiftRight_eq_div_pow]
theorem shlU_toNat (a : UInt64) {n : Nat} (h : n < 64) : (shlU a n).toNat = a.toNat * 2 ^ n % 18446744073709551616 := by
  unfold shlU
  rw [UInt64.toNat_shiftLeft, UInt64.toNat_ofNat_of_lt' (by show n < 18446744073709551616; omega), Nat.mod_eq_of_lt h, Nat.shiftLeft_eq]
theorem o_shrU (hx : fr.ev x = some (.int .u64 (a.toNat : Int))) (hy : fr.ev y = some (.int k' m)) (h0 : 0 ≤ m) (h1 : m < 64) : OpV P N fr w (.binOp .shr t x y t') ty (.int .u64 ((shrU a m.toNat).toNat : Int)) w :=
  o_asi (o_shr hx hy h0) (by
    rw [shrU_toNat a (by omega), show min m.toNat IntKind.u64.bits = m.toNat by show min m.toNat 64 = _; omega]
    simp)
theorem o_shlU (hx : fr.ev x = some (.int .u64 (a.toNat : Int))) (hy : fr.ev y = some (.int k' m)) (h0 : 0 ≤ m) (h1 : m < 64) : OpV P N fr w (.binOp .shl t x y t') ty (.int .u64 ((shlU a m.toNat).toNat : Int)) w :=
  o_asi (o_shl hx hy h0) (by
    rw [shlU_toNat a (by omega), show min m.toNat IntKind.u64.bits = m.toNat by show min m.toNat 64 = _; omega, IntKind.wrap_u64]
    simp)
theorem o_conv8U {c : UInt8} {dd : TypeDesc} {src dst : TypeId} (hs : P.underlying src = some dd) (hd : P.underlying dst = some (.int .u64)) (hx : fr.ev x = some (.int .u8 (c.toNat : Int))) : OpV P N fr w (.convert src dst x) ty (.int .u64 (c.toUInt64.toNat : Int)) w :=
  o_asi (o_convi hs hd hx) (by have := c.toNat_lt; rw [IntKind.wrap_u64, UInt8.toNat_toUInt64]; omega)
theorem o_convU8 {dd : TypeDesc} {src dst : TypeId} (hs : P.underlying src = some dd) (hd : P.underlying dst = some (.int .u8)) (hx : fr.ev x = some (.int .u64 (a.toNat : Int))) : OpV P N fr w (.convert src dst x) ty (.int .u8 (a.toUInt8.toNat : Int)) w :=
  o_asi (o_convi hs hd hx) (by rw [UInt64.toNat_toUInt8]; show (a.toNat : Int) % 256 = _; omega)

/-! Arrays. -/
def vU (l : List UInt64) : List Value := l.map fun x => .int .u64 (x.toNat : Int)
theorem vU_length (l : List UInt64) : (vU l).length = l.length := List.length_map ..
theorem vU_one (l : List UInt64) : ∀ v ∈ vU l, v.oneCell' = true := fun v h => by
  obtain ⟨x, _, rfl⟩ := List.mem_map.1 h; rfl
theorem vU_set (l : List UInt64) (i : Nat) (a : UInt64) : (vU l).set i (.int .u64 (a.toNat : Int)) = vU (l.set i a) := by
  unfold vU; rw [List.map_set]
--@ rule indexAddr p o_iaddrP
theorem o_iaddrP (j : Nat) (hu : P.underlying t = some (.array n e)) (hs : ∀ w, (sizeOf e).run P w = .ok 1 w) (hx : fr.ev x = some (.pointer (some ⟨g, 0, none⟩))) (hy : fr.ev y = some (.int k m)) (hm : m = (j : Int)) (hj : j < n) :
    OpV P N fr w (.indexAddr t x y) ty (.pointer (some ⟨g, j, none⟩)) w := fun a ha op hop _ => by
  subst hm
  have h2 : ¬ n ≤ j := by omega
  simp [execOp, hop, ha.ev hx, ha.ev hy, Instr.indexAt, run_underlying hu, asIntOf, hs, add_plain, Instr.sureAddr, h2]
--@ rule load r o_ldU
theorem o_ldU {l : List UInt64} (ha' : ∀ w, (isAgg t).run P w = .ok false w) (hx : fr.ev x = some (.pointer (some ⟨g, i, none⟩))) (hB : Blk w g t' (vU l)) (hi : i < l.length) : OpV P N fr w (.load t x) ty (.int .u64 (l[i].toNat : Int)) w :=
  o_loadb ha' hx hB (by unfold vU; rw [List.getElem?_map, List.getElem?_eq_getElem hi]; rfl)
--@ rule load r o_ldUa
theorem o_ldUa {l : List UInt64} (ha' : ∀ w, (isAgg t).run P w = .ok true w) (hs : ∀ w, (sizeOf t).run P w = .ok n w) (hx : fr.ev x = some (.pointer (some ⟨g, 0, none⟩))) (hB : Blk w g t' (vU l)) (hn : l.length = n) : OpV P N fr w (.load t x) ty (.agg (vU l).toArray) w :=
  o_load_all ha' hs hx hB (by rw [vU_length, hn])
--@ rule load r o_ldB
theorem o_ldB {l : List UInt8} (ha' : ∀ w, (isAgg t).run P w = .ok false w) (hx : fr.ev x = some (.pointer (some ⟨g, i, none⟩))) (hB : Blk w g t' (B8 l)) (hi : i < l.length) : OpV P N fr w (.load t x) ty (.int .u8 (l[i].toNat : Int)) w :=
  o_loadb ha' hx hB (by unfold B8; simp [hi])
--@ rule load r o_ldBa
theorem o_ldBa {l : List UInt8} (ha' : ∀ w, (isAgg t).run P w = .ok true w) (hs : ∀ w, (sizeOf t).run P w = .ok n w) (hx : fr.ev x = some (.pointer (some ⟨g, 0, none⟩))) (hB : Blk w g t' (B8 l)) (hn : l.length = n) : OpV P N fr w (.load t x) ty (.agg (B8 l).toArray) w :=
  o_load_all ha' hs hx hB (by rw [B8_length, hn])
--@ rule store l wl_stU
theorem wl_stU {c : List UInt64} (hs : ∀ w, (sizeOf t).run P w = .ok 1 w) (hx : fr.ev x = some (.pointer (some ⟨g, i, none⟩))) (hB : Blk w g t' (vU c)) (hy : fr.ev y = some (.int .u64 (a.toNat : Int))) (hi : i < c.length)
    (hk : ∀ w', Blk w' g t' (vU (c.set i a)) → Grew w w' t' (some g) → w'.heap.size = w.heap.size → WL P fn F N ks ops tg.tail l fr w') (ht : tg.loud = true := by rfl) (hg : onG ops fr gd = true := by rfl) (hq : tg.calm = false ∨ tg.rw.may (some g) := by exact .inl rfl) :
    WL P fn F N ks ops tg (⟨none, .store t x y, ty, pos, aft, gd⟩ :: l) fr w :=
  wl_storeg1 hs hx hy rfl hB (by rw [vU_length]; exact hi) (fun w' h1 h2 h3 => hk w' (by rw [vU_set] at h1; exact h1) h2 h3) ht hg hq
--@ rule store l wl_stUa
theorem wl_stUa {c q : List UInt64} (hs : ∀ w, (sizeOf t).run P w = .ok n w) (hx : fr.ev x = some (.pointer (some ⟨g, 0, none⟩))) (hB : Blk w g t' (vU c)) (hy : fr.ev y = some (.agg (vU q).toArray)) (hq' : q.length = n) (hi : c.length = n)
    (hk : ∀ w', Blk w' g t' (vU q) → Grew w w' t' (some g) → w'.heap.size = w.heap.size → WL P fn F N ks ops tg.tail l fr w') (ht : tg.loud = true := by rfl) (hg : onG ops fr gd = true := by rfl) (hq : tg.calm = false ∨ tg.rw.may (some g) := by exact .inl rfl) :
    WL P fn F N ks ops tg (⟨none, .store t x y, ty, pos, aft, gd⟩ :: l) fr w :=
  wl_storega hs hx hy (by rw [vU_length, hq']) (vU_one q) hB (by rw [vU_length, hi]) hk ht hg hq
--@ rule store l wl_stB
theorem wl_stB {c : List UInt8} {u : UInt8} (hs : ∀ w, (sizeOf t).run P w = .ok 1 w) (hx : fr.ev x = some (.pointer (some ⟨g, i, none⟩))) (hB : Blk w g t' (B8 c)) (hy : fr.ev y = some (.int .u8 (u.toNat : Int))) (hi : i < c.length)
    (hk : ∀ w', Blk w' g t' (B8 (c.set i u)) → Grew w w' t' (some g) → w'.heap.size = w.heap.size → WL P fn F N ks ops tg.tail l fr w') (ht : tg.loud = true := by rfl) (hg : onG ops fr gd = true := by rfl) (hq : tg.calm = false ∨ tg.rw.may (some g) := by exact .inl rfl) :
    WL P fn F N ks ops tg (⟨none, .store t x y, ty, pos, aft, gd⟩ :: l) fr w :=
  wl_storeg1 hs hx hy rfl hB (by rw [B8_length]; exact hi) (fun w' h1 h2 h3 => hk w' (by unfold B8 at h1 ⊢; rw [List.map_set]; exact h1) h2 h3) ht hg hq
--@ rule store l wl_stBa
theorem wl_stBa {c q : List UInt8} (hs : ∀ w, (sizeOf t).run P w = .ok n w) (hx : fr.ev x = some (.pointer (some ⟨g, 0, none⟩))) (hB : Blk w g t' (B8 c)) (hy : fr.ev y = some (.agg (B8 q).toArray)) (hq' : q.length = n) (hi : c.length = n)
    (hk : ∀ w', Blk w' g t' (B8 q) → Grew w w' t' (some g) → w'.heap.size = w.heap.size → WL P fn F N ks ops tg.tail l fr w') (ht : tg.loud = true := by rfl) (hg : onG ops fr gd = true := by rfl) (hq : tg.calm = false ∨ tg.rw.may (some g) := by exact .inl rfl) :
    WL P fn F N ks ops tg (⟨none, .store t x y, ty, pos, aft, gd⟩ :: l) fr w :=
  wl_storega hs hx hy (by rw [B8_length, hq']) (B8_oneCell' q) hB (by rw [B8_length, hi]) hk ht hg hq
--@ rule alloc l wl_allocstU
theorem wl_allocstU {q : List UInt64} (hu : P.underlying e = some (.array n e2)) (hz : ∀ w, (zeroValue e).run P w = .ok z w) (hzs : z.cells = (vU (List.replicate n 0)).toArray) (hs : ∀ w, (sizeOf t).run P w = .ok n w) (hy : ∀ u, Fr.ev ((d, u) :: fr) y = some (.agg (vU q).toArray)) (hn : q.length = n)
    (hk : ∀ g w', Blk w' g e (vU q) → Below w.heap.size w w' → w.heap.size ≤ g → g < w'.heap.size → WL P fn F N ks ops tg.tail.tail l ((d, .pointer (some ⟨g, 0, none⟩)) :: fr) w')
    (ht : tg.loud = true := by rfl) (ht2 : tg.tail.loud = true := by rfl) (hg : onG ops fr gd = true := by rfl) (hg2 : ∀ u, onG ops ((d, u) :: fr) gd2 = true := by intro _; rfl) (hd : Nat.blt d N = true := by rfl) (hq : tg.tail.calm = false := by rfl) :
    WL P fn F N ks ops tg (⟨some d, .alloc e, ty, pos, aft, gd⟩ :: ⟨none, .store t (.tmp d) y, ty2, pos2, aft2, gd2⟩ :: l) fr w :=
  wl_allocstn hz _ _ hzs hs hy (by rw [vU_length, List.length_replicate]) (by rw [vU_length, hn]) (vU_one q) hk ht ht2 hg hg2 hd hq
--@ rule alloc l wl_allocstB
theorem wl_allocstB {q : List UInt8} (hu : P.underlying e = some (.array n e2)) (hz : ∀ w, (zeroValue e).run P w = .ok z w) (hzs : z.cells = (B8 (List.replicate n 0)).toArray) (hs : ∀ w, (sizeOf t).run P w = .ok n w) (hy : ∀ u, Fr.ev ((d, u) :: fr) y = some (.agg (B8 q).toArray)) (hn : q.length = n)
    (hk : ∀ g w', Blk w' g e (B8 q) → Below w.heap.size w w' → w.heap.size ≤ g → g < w'.heap.size → WL P fn F N ks ops tg.tail.tail l ((d, .pointer (some ⟨g, 0, none⟩)) :: fr) w')
    (ht : tg.loud = true := by rfl) (ht2 : tg.tail.loud = true := by rfl) (hg : onG ops fr gd = true := by rfl) (hg2 : ∀ u, onG ops ((d, u) :: fr) gd2 = true := by intro _; rfl) (hd : Nat.blt d N = true := by rfl) (hq : tg.tail.calm = false := by rfl) :
    WL P fn F N ks ops tg (⟨some d, .alloc e, ty, pos, aft, gd⟩ :: ⟨none, .store t (.tmp d) y, ty2, pos2, aft2, gd2⟩ :: l) fr w :=
  wl_allocstn hz _ _ hzs hs hy (by rw [B8_length, List.length_replicate]) (by rw [B8_length, hn]) (B8_oneCell' q) hk ht ht2 hg hg2 hd hq
--@ rule alloc l wl_allocU
theorem wl_allocU (hu : P.underlying e = some (.array n e2)) (hz : ∀ w, (zeroValue e).run P w = .ok z w) (hzs : z.cells = (vU (List.replicate n 0)).toArray)
    (hk : ∀ g w', Blk w' g e (vU (List.replicate n 0)) → Below w.heap.size w w' → w.heap.size ≤ g → g < w'.heap.size → WL P fn F N ks ops tg.tail l ((d, .pointer (some ⟨g, 0, none⟩)) :: fr) w')
    (ht : tg.loud = true := by rfl) (hg : onG ops fr gd = true := by rfl) (hd : Nat.blt d N = true := by rfl) : WL P fn F N ks ops tg (⟨some d, .alloc e, ty, pos, aft, gd⟩ :: l) fr w :=
  wl_allocg _ hz hzs hk ht hg hd
--@ rule alloc l wl_allocB
theorem wl_allocB (hu : P.underlying e = some (.array n e2)) (hz : ∀ w, (zeroValue e).run P w = .ok z w) (hzs : z.cells = (B8 (List.replicate n 0)).toArray)
    (hk : ∀ g w', Blk w' g e (B8 (List.replicate n 0)) → Below w.heap.size w w' → w.heap.size ≤ g → g < w'.heap.size → WL P fn F N ks ops tg.tail l ((d, .pointer (some ⟨g, 0, none⟩)) :: fr) w')
    (ht : tg.loud = true := by rfl) (hg : onG ops fr gd = true := by rfl) (hd : Nat.blt d N = true := by rfl) : WL P fn F N ks ops tg (⟨some d, .alloc e, ty, pos, aft, gd⟩ :: l) fr w :=
  wl_allocg _ hz hzs hk ht hg hd
--@ rule index p o_indexU
theorem o_indexU {c : List UInt64} (j : Nat) (hu : P.underlying t = some (.array n e)) (hs : ∀ w, (sizeOf e).run P w = .ok 1 w) (ha' : ∀ w, (isAgg e).run P w = .ok false w) (hx : fr.ev x = some (.agg (vU c).toArray)) (hy : fr.ev y = some (.int k m)) (hm : m = (j : Int)) (hj : j < c.length) (hn : c.length = n) :
    OpV P N fr w (.index t x y) ty (.int .u64 (c[j].toNat : Int)) w := fun a ha op hop _ => by
  subst hm
  have h2 : ¬ n ≤ j := by omega
  simp [execOp, hop, ha.ev hx, ha.ev hy, Instr.index, run_underlying hu, asIntOf, hs, part, ha', h2, vU, hj]
--@ rule index p o_indexB
theorem o_indexB {c : List UInt8} (j : Nat) (hu : P.underlying t = some (.array n e)) (hs : ∀ w, (sizeOf e).run P w = .ok 1 w) (ha' : ∀ w, (isAgg e).run P w = .ok false w) (hx : fr.ev x = some (.agg (B8 c).toArray)) (hy : fr.ev y = some (.int k m)) (hm : m = (j : Int)) (hj : j < c.length) (hn : c.length = n) :
    OpV P N fr w (.index t x y) ty (.int .u8 (c[j].toNat : Int)) w := fun a ha op hop _ => by
  subst hm
  have h2 : ¬ n ≤ j := by omega
  simp [execOp, hop, ha.ev hx, ha.ev hy, Instr.index, run_underlying hu, asIntOf, hs, part, ha', h2, B8, hj]
--@ rule build p o_buildU
theorem o_buildU {ps : Array (Nat × Operand)} {is : List Nat} {xs : List Operand} {vs : List Value} (c : List UInt64) (hu : P.underlying t = some (.array n e)) (his : ps.toList.map Prod.fst = is) (hxs : ps.toList.map Prod.snd = xs) (hx : fr.evs xs = some vs) (hv : vs = c.map fun x => Value.int .u64 (x.toNat : Int)) (hn : c.length = n)
    (hps : ps = (is.zip xs).toArray) (hr : ∀ w, (Instr.build t (is.zip vs).toArray).run P w = .ok (.agg (vU c).toArray) w) : OpV P N fr w (.build t ps) ty (.agg (vU c).toArray) w := by
  subst hps
  exact o_build hx hr
end
end Go.Proofs.Ytpjedpmbninfcaa
