/-
  Maps whose keys are digests: sets, and counts of 0 and 1.
-/
import Derived.Test.YtbncaabcddoicaaDig
namespace Go.Proofs.Ytbncaabcddoicaa
open Go.RowKit

theorem Try.arrD : Go.WideMaps.ArrKey Try.prog 50 5 32 := ⟨Try.underlying50, by kernel_rfl, by kernel_rfl, by kernel_rfl⟩
theorem Try.keyD : Go.Maps.Keyed Try.prog 50 := Go.Maps.Keyed.of_law Try.arrD.law
theorem Try.cells5 : Try.prog.cellsOf 5 = 1 := by kernel_rfl
theorem Try.types_pos : ∃ m, Try.prog.types.size = m + 1 := ⟨Try.prog.types.size - 1, by
  have : Nat.blt 0 Try.prog.types.size = true := by kernel_rfl
  have : 0 < Try.prog.types.size := Nat.lt_of_lt_of_le Nat.zero_lt_one (Nat.le_of_ble_eq_true this)
  omega⟩
theorem mapM_all {α β : Type} {f : α → Option β} (g : α → β) : ∀ L : List α, (∀ x ∈ L, f x = some (g x)) → L.mapM f = some (L.map g)
  | [], _ => by simp
  | x :: L, h => by rw [List.mapM_cons, h x (by simp), mapM_all g L fun z hz => h z (by simp [hz])]; rfl
/-- The key that a digest is. -/
def kD (d : Dg) : Lit := .string (keyBytes ((List.range 32).map fun i => [Lit.int .u8 ((d.1.getD i 0).toNat : Int)]).flatten)
theorem wf_u8 (c : UInt8) : (Lit.int .u8 (c.toNat : Int)).wf = true := by
  have h : ∀ c : Fin 256, (Lit.int .u8 (c.val : Int)).wf = true := by decide +kernel
  exact h ⟨c.toNat, c.toNat_lt⟩
theorem keyOf_kD (d : Dg) : keyOf Try.prog 50 (vD d) = some (kD d) := by
  have hkt := Try.arrD.keyType Try.types_pos
  obtain ⟨m, hm⟩ := Try.types_pos
  have hlen : (B8 d.1).length = 32 := by rw [B8_length, d.2]
  unfold keyOf
  simp only [Try.arrD.hu]
  rw [if_pos (by simp [hkt, Value.formed, Try.arrD.hu, Try.arrD.size, hlen]), hm]
  unfold Program.keyLits
  simp only [Try.arrD.hu, Value.cells]
  rw [if_pos (by rw [Try.arrD.size]; exact hlen)]
  have hy := mapM_all (f := fun i => Try.prog.keyLits (m + 1) 5 (((B8 d.1).drop (i * Try.prog.cellsOf 5)).take (Try.prog.cellsOf 5))) (fun i => [Lit.int .u8 ((d.1.getD i 0).toNat : Int)]) (List.range 32) (fun i hi => by
    have hi' : i < d.1.length := by rw [d.2]; simpa using hi
    have e : ((B8 d.1).drop (i * Try.prog.cellsOf 5)).take (Try.prog.cellsOf 5) = [.int .u8 ((d.1.getD i 0).toNat : Int)] := by
      rw [Try.cells5, Nat.mul_one, List.drop_eq_getElem_cons (by rw [B8_length]; exact hi'), List.take_succ_cons, List.take_zero]
      simp [B8, hi']
    rw [e]
    unfold Program.keyLits
    simp [Try.underlying5, wf_u8])
  simp [hy, kD]
theorem kD_inj {d e : Dg} (h : kD d = kD e) : d = e := vD_inj (Try.keyD.inj (keyOf_kD d) (by rw [h]; exact keyOf_kD e))
theorem kD_key (d : Dg) : WideAt.IsKeyLit (kD d) := Try.keyD.key (keyOf_kD d)

/-- Block b is the set of the digests of L: n of them. -/
def SetD (w : World) (b : Nat) (L : List Dg) (n : Nat) : Prop :=
  ∃ m D, w.ownsMap (H := Unit) Try.prog 50 unitElem b m D ∧ m ≤ L.length ∧ (∀ d, Maps.has D (kD d) = decide (d ∈ L)) ∧ Maps.size D = n
/-- Block b counts the digests of L: 1 for each that is there, 0 for others. -/
def CntD (w : World) (b : Nat) (L : List Dg) : Prop :=
  ∃ m D, w.ownsMap (H := Unit) Try.prog 50 (plainElem Try.prog 3) b m D ∧ m ≤ L.length ∧ ∀ d, D.atKey (kD d) (.lit (.int .i64 0)) = .lit (.int .i64 (if d ∈ L then 1 else 0))
section
variable {w w' : World} {b n : Nat} {L : List Dg}
theorem SetD.lt (h : SetD w b L n) : b < w.heap.size := by obtain ⟨m, D, h, -⟩ := h; exact h.lt
theorem SetD.kept {row : Option Nat} (h : SetD w b L n) (hg : w.grownBy w' row) (hne : some b ≠ row) : SetD w' b L n := by obtain ⟨m, D, h, h2⟩ := h; exact ⟨m, D, h.kept hg hne, h2⟩
theorem SetD.below (h : SetD w b L n) (hb : Below w.heap.size w w') : SetD w' b L n := h.kept (row := none) (grownBy_of_below hb none) (by simp)
theorem SetD.drew (h : SetD w b L n) : SetD w.drew b L n := h
theorem CntD.lt (h : CntD w b L) : b < w.heap.size := by obtain ⟨m, D, h, -⟩ := h; exact h.lt
theorem CntD.kept {row : Option Nat} (h : CntD w b L) (hg : w.grownBy w' row) (hne : some b ≠ row) : CntD w' b L := by obtain ⟨m, D, h, h2⟩ := h; exact ⟨m, D, h.kept hg hne, h2⟩
theorem CntD.below (h : CntD w b L) (hb : Below w.heap.size w w') : CntD w' b L := h.kept (row := none) (grownBy_of_below hb none) (by simp)
theorem CntD.drew (h : CntD w b L) : CntD w.drew b L := h
theorem setD_made (w : World) : SetD (w.alloc (.map #[] 0)) w.heap.size [] 0 := ⟨0, .map [], World.ownsMap_made w _ _ _, Nat.le_refl _, fun d => by simp [Maps.has], rfl⟩
theorem cntD_made (w : World) : CntD (w.alloc (.map #[] 0)) w.heap.size [] := ⟨0, .map [], World.ownsMap_made w _ _ _, Nat.le_refl _, fun d => by simp [DataW.atKey]⟩
end
section
variable {P : Program} {fn : Func} {F : Ending → World → Prop} {N : Nat} {ks : List K} {ops : Array Oper} {tg : Tags} {l : List Oper} {fr : Fr} {w : World} {ty t t' e : TypeId} {pos : String} {aft : Array Edge} {gd : Option (Nat × Bool)} {d b n : Nat} {x y z : Operand} {L : List Dg} {q : Dg}
theorem wl_makeMap (hk : ∀ w', w' = w.alloc (.map #[] 0) → Below w.heap.size w w' → w'.heap.size = w.heap.size + 1 → WL P fn F N ks ops tg.tail l ((d, .map (some w.heap.size)) :: fr) w')
    (ht : tg.loud = true := by rfl) (hg : onG ops fr gd = true := by rfl) (hd : Nat.blt d N = true := by rfl) : WL P fn F N ks ops tg (⟨some d, .makeMap t none, ty, pos, aft, gd⟩ :: l) fr w :=
  wl_v (w' := w.alloc (.map #[] 0)) (fun a _ o ho _ => by simp [execOp, ho, run_makeMap]) (hk _ rfl (below_alloc w _) (by simp)) ht hg hd (.inr (grown_of_below (below_alloc w _) _))
theorem below_map {w' : World} (h : w.grownBy w' (some b)) (hb : b < w.heap.size) {B : Nat} (hB : B ≤ b) : Below B w w' := below_of_grownBy h (by omega) hB
/-- s[x] = struct{}{} -/
theorem wl_setAdd (hu : Try.prog.underlying t = some (.map 50 e)) (hx : fr.ev x = some (.map (some b))) (hy : fr.ev y = some (vD q)) (hz : fr.ev z = some (.agg #[])) (hS : SetD w b L n) (hL : L.length ≤ 4000000)
    (hk : ∀ w', SetD w' b (L ++ [q]) (if q ∈ L then n else n + 1) → w.grownBy w' (some b) → w'.heap.size = w.heap.size → WL Try.prog fn F N ks ops tg.tail l fr w')
    (ht : tg.loud = true := by rfl) (hg : onG ops fr gd = true := by rfl) (hq : tg.calm = false ∨ some b = tg.row := by exact .inl rfl) : WL Try.prog fn F N ks ops tg (⟨none, .mapUpdate t x y z, ty, pos, aft, gd⟩ :: l) fr w := by
  obtain ⟨m, D, ho, hm, hh, hs⟩ := hS
  obtain ⟨w', hrun, ho', hT⟩ := ho.store Try.keyD hu (by simp only [maxLen]; omega) (keyOf_kD q) unitElem_mk
  have hgr := hT.grown
  have hz' : w'.heap.size = w.heap.size := by obtain ⟨_, _, _, _, _, rfl⟩ := hT; simp [Go.ChangeMaps.setBlock]
  refine wl_u (w' := w') (fun a ha o hop => ?_) (hk w' ⟨m + 1, _, ho', by rw [List.length_append]; simp; omega, fun d => ?_, ?_⟩ hgr hz') ht hg (hq.imp id fun (e : some b = tg.row) => e ▸ hgr)
  · simp [execOp, hop, ha.ev hx, ha.ev hy, ha.ev hz, hrun]
  · by_cases hd : d = q
    · subst hd
      rw [Maps.has_put_same ho.isMap (kD_key d)]
      simp
    · rw [Maps.has_put_other (fun h => hd (kD_inj h)), hh]
      simp [hd]
  · rw [Maps.size_put (ho.tidy Try.keyD) , hh, hs]
    simp
/-- len(s) -/
theorem o_lenSet (hu : Try.prog.underlying t = some (.map 50 e)) (hx : fr.ev x = some (.map (some b))) (hS : SetD w b L n) : OpV Try.prog N fr w (.call { callee := .builtin .len, args := #[x], argTypes := #[t] }) ty (.int .i64 n) w := by
  obtain ⟨m, D, ho, hm, hh, hs⟩ := hS
  have := ho.len hu ty
  rw [hs] at this
  exact o_builtin (xs := [x]) (vs := [.map (some b)]) (by simp [Fr.evs, hx]) (by simp [builtin, this]) (by simp)
/-- _, ok := s[x] -/
theorem o_lookSet (hu : Try.prog.underlying t = some (.map 50 e)) (hz : ∀ w, (zeroValue e).run Try.prog w = .ok (.agg #[]) w) (hx : fr.ev x = some (.map (some b))) (hy : fr.ev y = some (vD q)) (hS : SetD w b L n) :
    OpV Try.prog N fr w (.lookup t x y true) ty (.tuple #[.agg #[], .bool (decide (q ∈ L))]) w := fun a ha o ho' _ => by
  obtain ⟨m, D, ho, hm, hh, hs⟩ := hS
  obtain ⟨v, ps, hrun, hv⟩ := ho.look_ok Try.keyD hu (hz w) unitElem_mk (keyOf_kD q)
  obtain ⟨rfl, -⟩ := unitElem_inv hv
  rw [hh] at hrun
  simp [execOp, ho', ha.ev hx, ha.ev hy, hrun]
/-- m[x], whose values are 0 or 1 -/
theorem o_lookCnt (hu : Try.prog.underlying t = some (.map 50 3)) (hx : fr.ev x = some (.map (some b))) (hy : fr.ev y = some (vD q)) (hS : CntD w b L) :
    OpV Try.prog N fr w (.lookup t x y false) ty (.int .i64 (if q ∈ L then 1 else 0)) w := fun a ha o ho' _ => by
  obtain ⟨m, D, ho, hm, hh⟩ := hS
  obtain ⟨c, hrun, hat, -⟩ := ho.lookup_int Try.keyD hu Try.underlying3 (Try.zeroValue3 w) (keyOf_kD q)
  rw [hh] at hat
  injection hat with hat
  injection hat with _ hat
  rw [← hat] at hrun
  simp [execOp, ho', ha.ev hx, ha.ev hy, hrun]
/-- m[x] = 1 -/
theorem wl_cntAdd (hu : Try.prog.underlying t = some (.map 50 3)) (hx : fr.ev x = some (.map (some b))) (hy : fr.ev y = some (vD q)) (hz : fr.ev z = some (.int .i64 1)) (hS : CntD w b L) (hL : L.length ≤ 4000000)
    (hk : ∀ w', CntD w' b (L ++ [q]) → w.grownBy w' (some b) → w'.heap.size = w.heap.size → WL Try.prog fn F N ks ops tg.tail l fr w')
    (ht : tg.loud = true := by rfl) (hg : onG ops fr gd = true := by rfl) (hq : tg.calm = false ∨ some b = tg.row := by exact .inl rfl) : WL Try.prog fn F N ks ops tg (⟨none, .mapUpdate t x y z, ty, pos, aft, gd⟩ :: l) fr w := by
  obtain ⟨m, D, ho, hm, hh⟩ := hS
  obtain ⟨w', hrun, ho', hT⟩ := ho.store Try.keyD hu (by simp only [maxLen]; omega) (keyOf_kD q) (plainElem_int Try.underlying3 (by decide : (Lit.int .i64 1).wf = true))
  have hgr := hT.grown
  have hz' : w'.heap.size = w.heap.size := by obtain ⟨_, _, _, _, _, rfl⟩ := hT; simp [Go.ChangeMaps.setBlock]
  refine wl_u (w' := w') (fun a ha o hop => ?_) (hk w' ⟨m + 1, _, ho', by rw [List.length_append]; simp; omega, fun d => ?_⟩ hgr hz') ht hg (hq.imp id fun (e : some b = tg.row) => e ▸ hgr)
  · simp [execOp, hop, ha.ev hx, ha.ev hy, ha.ev hz, hrun]
  · by_cases hd : d = q
    · subst hd
      rw [Maps.atKey_put_same ho.isMap (kD_key d)]
      simp
    · rw [Maps.atKey_put_other (fun h => hd (kD_inj h)), hh]
      simp [hd]
end
end Go.Proofs.Ytbncaabcddoicaa
