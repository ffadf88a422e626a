/-
  append(x, make([]byte, m)...) on a row of bytes of the call's own. No function of the program is named here.
-/
import Derived.Test.YtpjedpmbninfcaaAuto
import Derived.Lib.AppendStr
namespace Go.Proofs.Ytpjedpmbninfcaa
open Go.RowKit
/-- The zero bytes, as a string. -/
def zeroS (m : Nat) : ByteArray := ⟨(List.replicate m (0 : UInt8)).toArray⟩
theorem zeroS_size (m : Nat) : (zeroS m).size = m := by
  show (List.replicate m (0 : UInt8)).toArray.size = m
  simp
theorem zeroS_cells (m : Nat) : Go.Lib.strCells (zeroS m) = B8 (List.replicate m 0) := by
  simp [Go.Lib.strCells, zeroS, B8]
section
variable {P : Program} (w : World)
theorem run_append_zs (t u ti ty e : TypeId) (i : TypeInfo) (ht : P.underlying t = some (.slice e)) (hti : P.underlying ti = some (.int .i64)) (hu : P.underlying u = some .string) (hi : P.info? e = some i) (hz : i.zero = some (.int .u8 0)) (hsize : i.size = 1) (hby : i.bytes = 1)
    (A : Option Addr) (n c m : Nat) (h0 : 0 < m) (h : n + m ≤ 4000000000) :
    (Builtin.append_ #[t, ti] ty #[.slice A n c, .int .i64 (m : Int)]).run P w = (Builtin.append_ #[t, u] ty #[.slice A n c, .string (zeroS m)]).run P w := by
  have hw : IntKind.i64.wrap (m : Int) = m := i64_in (by omega) (by omega)
  have hneg : ¬ ((m : Int) < 0) := by omega
  have hb1 : ¬ (281474976710656 < (m : Int)) := by omega
  have h63 : ¬ (9223372036854775807 < ((n : Int) + (m : Int))) := by omega
  have hz1 : (zeroS m).data.toList = List.replicate m 0 := rfl
  have hdl : List.take m (List.map (fun b : UInt8 => Value.int .u8 (b.toNat : Int)) (zeroS m).data.toList) = List.replicate m (Value.int .u8 0) := by
    rw [hz1, List.map_replicate, List.take_of_length_le (by rw [List.length_replicate]; exact Nat.le_refl _)]; rfl
  have hda : Array.map (fun b : UInt8 => Value.int .u8 (b.toNat : Int)) (zeroS m).data = Array.replicate m (Value.int .u8 0) := by
    apply Array.ext'
    rw [Array.toList_map, hz1, List.map_replicate, Array.toList_replicate]; rfl
  have hex : (Array.replicate m (Value.int .u8 0)).extract 0 m = Array.replicate m (Value.int .u8 0) := by
    apply Array.ext
    · simp
    · intro j h1 h2; simp
  have hzc : ∀ k, Builtin.zeroCells (Value.int .u8 0).cells k = (Array.replicate k (Value.int .u8 0)) := fun k => by
    show Builtin.zeroCells #[Value.int .u8 0] k = _
    apply Array.ext
    · simp [Builtin.zeroCells]
    · intro j h1 h2
      simp [Builtin.zeroCells, Nat.mod_one]
  have hm0 : m ≠ 0 := by omega
  by_cases hroom : n + m ≤ c
  · simp [Builtin.append_, run_underlying ht, run_underlying hti, run_underlying hu, sizeOf, typeInfo, zeroValue, hi, hz, hsize, hby, asInt, asIntOf, hw, hneg, hb1, Builtin.lenOf, zeroS_size, hroom, Builtin.firstCells, hdl, hm0, hzc]
  · have h48 := nextslicecap_le (need := n + m) (old := c) (by omega)
    have h48' : ¬ (281474976710656 < Builtin.nextslicecap (n + m) c) := by omega
    simp [Builtin.append_, run_underlying ht, run_underlying hti, run_underlying hu, sizeOf, typeInfo, zeroValue, hi, hz, hsize, hby, asInt, asIntOf, hw, hneg, hb1, h63, Builtin.lenOf, zeroS_size, hroom, Builtin.firstCells, hdl, hm0, hzc, h48', hda, hex]
end
theorem rd_upto {w : World} {A : Option Addr} {p : List UInt8} (h : Rd w A p) (k : Nat) : Rd w A (p.take k) := by
  refine ⟨by rw [B8_length, Nat.mul_one], fun hne => ?_⟩
  have hpne : B8 p ≠ [] := fun e => by
    apply hne
    have : p = [] := by cases p with | nil => rfl | cons a b => cases e
    rw [this]; rw [List.take_nil]; rfl
  obtain ⟨b, o, rfl, hc⟩ := h.2 hpne
  refine ⟨b, o, rfl, fun j u hj => hc j u ?_⟩
  unfold B8 at hj ⊢
  rw [List.getElem?_map] at hj ⊢
  rcases Nat.lt_or_ge j k with h3 | h3
  · rwa [List.getElem?_take_of_lt h3] at hj
  · rw [List.getElem?_eq_none (by rw [List.length_take]; omega)] at hj; cases hj
section
variable {P : Program} {fn : Func} {F : Ending → World → Prop} {N : Nat} {ks : List K} {ops : Array Oper} {tg : Tags} {l : List Oper} {fr : Fr} {w : World} {ty t ti : TypeId} {pos : String} {aft : Array Edge} {gd : Option (Nat × Bool)} {d n c lo hi : Nat} {x y : Operand} {A : Option Addr} {s : List UInt8}
/-- append(x, make([]byte, m)...): x the call's own. -/
theorem wl_appZs (T : U8 P t) {u : TypeId} (hti : P.underlying ti = some (.int .i64)) (hu : P.underlying u = some .string) (m : Nat) {M : Int} (hx : fr.ev x = some (.slice A n c)) (hown : OwnH w lo hi A c s) (hn : n = s.length) (hy : fr.ev y = some (.int .i64 M)) (hM : M = (m : Int)) (hm : 0 < m) (hlen : s.length + m ≤ 4000000000) (hB : lo ≤ w.heap.size)
    (h : ∀ A' c' w', OwnH w' lo w'.heap.size A' c' (s ++ List.replicate m 0) → Grew w w' 5 (blk A) → Below lo w w' → WL P fn F N ks ops tg.tail l ((d, .slice A' (s ++ List.replicate m 0).length c') :: fr) w')
    (ht : tg.loud = true := by rfl) (hg : onG ops fr gd = true := by rfl) (hd : Nat.blt d N = true := by rfl) (hq : tg.calm = false ∨ blk A = none ∨ blk A = tg.row := by exact .inl rfl) :
    WL P fn F N ks ops tg (⟨some d, .call { callee := .builtin .append, args := #[x, y], argTypes := #[t, ti] }, ty, pos, aft, gd⟩ :: l) fr w := by
  subst hn; subst hM
  obtain ⟨i, hi', hz, hs, hb⟩ := info_parts T.hi
  obtain ⟨v', w', hrun, h2, h3, _⟩ := Go.Lib.run_append_own_string (P := P) w lo t u ty 5 i T.ht hu hi' hz hs hb (.slice A s.length c) s.length (B8 s) hown.o (zeroS m) (by rw [zeroS_size]; simp only [maxLen]; omega) (by rw [zeroS_size]; omega) hB
  rw [← run_append_zs (P := P) w t u ti ty 5 i T.ht hti hu hi' hz hs hb A s.length c m hm (by omega)] at hrun
  obtain ⟨A', c', rfl⟩ := ownsRow_shape h2
  rw [blk_own] at h3
  rw [zeroS_size, zeroS_cells, ← B8_append] at h2
  have hl : (s ++ List.replicate m 0).length = s.length + m := by rw [List.length_append, List.length_replicate]
  rw [zeroS_size] at hrun
  rw [← hl] at h2 hrun
  have hlt : ∀ b, blk A = some b → lo ≤ b ∧ b < w.heap.size := RowH.lt hown
  have hO : OwnH w' lo w'.heap.size A' c' (s ++ List.replicate m 0) := ⟨h2, fun k hk => (World.ownsRow.lt h2 k (by rw [blk_own]; exact hk)).2⟩
  exact wl_v (o_builtin (xs := [x, y]) (vs := [.slice A s.length c, .int .i64 (m : Int)]) (by simp [Fr.evs, hx, hy]) (by simp [builtin, hrun]) (by simp)) (h A' c' w' hO ⟨h3, RowH.ty hown⟩ ((Below.refl lo w).grown h3 hB (fun b hb => (hlt b hb).1))) ht hg hd
    (hq.imp id fun e => e.elim (fun e => grown_wide (e ▸ h3) _) (fun e => e ▸ h3))
--@ rule slice l wl_slBB
theorem wl_slBB (T : U8 P t) {p : List UInt8} {z : Operand} {len cap : Nat} {kl kh : IntKind} {L H : Int} (lo hi : Nat) (hx : fr.ev x = some (.slice A len cap)) (hy : fr.ev y = some (.int kl L)) (hz : fr.ev z = some (.int kh H)) (hr : Rd w A p) (hlen : len = p.length) (hl : L = (lo : Int)) (hh : H = (hi : Int)) (h1 : lo ≤ hi) (h2 : hi ≤ p.length) (h3 : p.length ≤ cap)
    (hk : ∀ A' c', Rd w A' ((p.drop lo).take (hi - lo)) → hi - lo ≤ c' → c' ≤ cap → WL P fn F N ks ops tg.tail l ((d, .slice A' (hi - lo) c') :: fr) w) (hg : onG ops fr gd = true := by rfl) (hd : Nat.blt d N = true := by rfl) :
    WL P fn F N ks ops tg (⟨some d, .slice t x (some y) (some z) none, ty, pos, aft, gd⟩ :: l) fr w := by
  obtain ⟨i, hi', hz', hs, hb⟩ := info_parts T.hi
  refine wl_p (fun _ => o_slice (sz := 1) (lo := lo) (hi := hi) T.ht (fun w => by simp [sizeOf, typeInfo, hi', hs]) hx hy hz hl hh h1 (by omega)) (hk _ _ ?_ (by omega) (by omega)) hg hd
  have h4 := (hr.drop (k := lo) (cap := cap) (by omega) h3)
  have h5 : cutA A cap 1 lo = if cap = lo then A else A.map (·.add lo) := by unfold cutA; rw [Nat.mul_one]
  rw [h5]
  exact rd_upto h4 _
--@ rule slice l wl_slBl
theorem wl_slBl (T : U8 P t) {p : List UInt8} {len cap : Nat} {kl : IntKind} {L : Int} (lo : Nat) (hx : fr.ev x = some (.slice A len cap)) (hy : fr.ev y = some (.int kl L)) (hr : Rd w A p) (hlen : len = p.length) (hl : L = (lo : Int)) (h1 : lo ≤ p.length) (h3 : p.length ≤ cap)
    (hk : ∀ A' c', Rd w A' (p.drop lo) → p.length - lo ≤ c' → c' ≤ cap → WL P fn F N ks ops tg.tail l ((d, .slice A' (p.length - lo) c') :: fr) w) (hg : onG ops fr gd = true := by rfl) (hd : Nat.blt d N = true := by rfl) :
    WL P fn F N ks ops tg (⟨some d, .slice t x (some y) none none, ty, pos, aft, gd⟩ :: l) fr w := by
  subst hlen
  obtain ⟨i, hi', hz', hs, hb⟩ := info_parts T.hi
  refine wl_p (fun _ => o_slice_lo (sz := 1) (lo := lo) T.ht (fun w => by simp [sizeOf, typeInfo, hi', hs]) hx hy hl h1) (hk _ _ ?_ (by omega) (by omega)) hg hd
  have h4 := (hr.drop (k := lo) (cap := cap) (by omega) h3)
  have h5 : cutA A cap 1 lo = if cap = lo then A else A.map (·.add lo) := by unfold cutA; rw [Nat.mul_one]
  rw [h5]
  exact h4
--@ rule slice l wl_slBh
theorem wl_slBh (T : U8 P t) {p : List UInt8} {z : Operand} {len cap : Nat} {kh : IntKind} {H : Int} (hi : Nat) (hx : fr.ev x = some (.slice A len cap)) (hz : fr.ev z = some (.int kh H)) (hr : Rd w A p) (hlen : len = p.length) (hh : H = (hi : Int)) (h2 : hi ≤ p.length) (h3 : p.length ≤ cap)
    (hk : Rd w A (p.take hi) → WL P fn F N ks ops tg.tail l ((d, .slice A hi cap) :: fr) w) (hg : onG ops fr gd = true := by rfl) (hd : Nat.blt d N = true := by rfl) :
    WL P fn F N ks ops tg (⟨some d, .slice t x none (some z) none, ty, pos, aft, gd⟩ :: l) fr w := by
  obtain ⟨i, hi', hz', hs, hb⟩ := info_parts T.hi
  exact wl_p (fun _ => o_slice_hi (sz := 1) (hi := hi) T.ht (fun w => by simp [sizeOf, typeInfo, hi', hs]) hx hz hh (by omega)) (hk (rd_upto hr _)) hg hd
end
end Go.Proofs.Ytpjedpmbninfcaa
