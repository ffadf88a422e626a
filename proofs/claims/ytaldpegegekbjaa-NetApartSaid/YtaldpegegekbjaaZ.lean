/-
  Rows of numbers (int) in the form that the recorder's search applies. No function of the program is named here.
-/
import Derived.Test.YtaldpegegekbjaaAuto
namespace Go.Proofs.Ytaldpegegekbjaa
open Go.RowKit
theorem Try.rowI : RowT Try.prog 51 3 (.int .i64 0) 1 8 := ⟨Try.underlying51, by kernel_rfl, rfl, by omega⟩

/-! Rows of numbers. -/
def OwnZ (w : World) (lo hi : Nat) (A : Option Addr) (c : Nat) (zs : List Int) : Prop := RowH w lo hi 3 1 A zs.length c (zs.map (Value.int .i64))
def RZ (w : World) (A : Option Addr) (zs : List Int) : Prop := Reads w 1 A zs.length (zs.map (Value.int .i64))
section
variable {w w' : World} {lo hi c n : Nat} {e' : TypeId} {A : Option Addr} {L : List Int} {row : Option Nat}
theorem RZ.u (h : RZ w A L) (hb : Below w.heap.size w w') : RZ w' A L := h.below hb
theorem RZ.d (h : RZ w A L) : RZ w.drew A L := h
theorem RZ.nil_ : RZ w none [] := Reads.none_ _ _ _
theorem RZ.to_Reads (h : RZ w A L) : Reads w 1 A L.length (L.map (Value.int .i64)) := h
theorem OwnZ.u (h : OwnZ w lo hi A c L) (hb : Below w.heap.size w w') : OwnZ w' lo hi A c L := RowH.u h hb
theorem OwnZ.d (h : OwnZ w lo hi A c L) : OwnZ w.drew lo hi A c L := RowH.d h
theorem OwnZ.k (h : OwnZ w lo hi A c L) (hg : w.grownBy w' row) (ha : Ap row lo hi) : OwnZ w' lo hi A c L := RowH.k h hg ha
theorem OwnZ.y (h : OwnZ w lo hi A c L) (hg : Grew w w' e' row) (hne : e' ≠ 3) : OwnZ w' lo hi A c L := RowH.y h hg hne
theorem OwnZ.m {b : Nat} (h : OwnZ w lo hi A c L) (hg : GrewM w w' b) : OwnZ w' lo hi A c L := RowH.m h hg
theorem OwnZ.ap (h : OwnZ w lo hi A c L) {lo' hi' : Nat} (hd : hi ≤ lo' ∨ hi' ≤ lo) : Ap (blk A) lo' hi' := RowH.ap h hd
theorem OwnZ.cap (h : OwnZ w lo hi A c L) : L.length ≤ c := RowH.cap h
theorem OwnZ.to_RZ (h : OwnZ w lo hi A c L) : RZ w A L := RowH.rd h
theorem OwnZ.to_Reads (h : OwnZ w lo hi A c L) : Reads w 1 A L.length (L.map (Value.int .i64)) := RowH.rd h
theorem OwnZ.nil_ : OwnZ w lo hi none 0 [] := RowH.nil _ _ _ _ _
end
section
variable {fn : Func} {F : Ending → World → Prop} {N : Nat} {ks : List K} {ops : Array Oper} {tg : Tags} {l : List Oper} {fr : Fr} {w : World} {ty t t' : TypeId} {pos : String} {aft : Array Edge} {gd : Option (Nat × Bool)} {d g n c j q lo hi : Nat} {x y k : Operand} {A X : Option Addr}
--@ rule load r o_loadRZ
theorem o_loadRZ {zs : List Int} (ha' : ∀ w, (isAgg t).run Try.prog w = .ok false w) (hx : fr.ev x = some (.pointer (some (adr A j)))) (hr : RZ w A zs) (hj : j < zs.length) : OpV Try.prog N fr w (.load t x) ty (.int .i64 zs[j]) w := o_loadZ ha' hx hr hj
--@ rule append l wl_appZ
theorem wl_appZ {L M : List Int} (hx : fr.ev x = some (.slice A n c)) (hown : OwnZ w lo hi A c L) (hn : n = L.length) (hy : fr.ev y = some (.slice X j q)) (hr : RZ w X M) (hj : j = M.length) (hlen : L.length + M.length ≤ 4000000) (hB : lo ≤ w.heap.size)
    (h : ∀ A' c' w', OwnZ w' lo w'.heap.size A' c' (L ++ M) → Grew w w' 3 (blk A) → Below lo w w' → (blk A' = blk A ∨ blk A' = some w.heap.size) → WL Try.prog fn F N ks ops tg.tail l ((d, .slice A' (L ++ M).length c') :: fr) w')
    (ht : tg.loud = true := by rfl) (hg : onG ops fr gd = true := by rfl) (hd : Nat.blt d N = true := by rfl) (hq : tg.calm = false ∨ blk A = none ∨ blk A = tg.row := by exact .inl rfl) :
    WL Try.prog fn F N ks ops tg (⟨some d, .call { callee := .builtin .append, args := #[x, y], argTypes := #[51, 51] }, ty, pos, aft, gd⟩ :: l) fr w := by
  subst hn; subst hj
  refine wl_appR Try.rowI hx hown hy hr (fun u hu => by obtain ⟨z, _, rfl⟩ := List.mem_map.1 hu; rfl) (by simp only [maxLen]; omega) (by omega) hB (fun A' c' w' h1 h2 h3 h4 => ?_) ht hg hd hq
  have := h A' c' w' (by unfold OwnZ; rw [List.map_append, List.length_append]; exact h1) h2 h3 h4
  rwa [List.length_append] at this
--@ rule buildSlice l wl_litZH
theorem wl_litZH {ps : Array (Nat × Operand)} {xs : List Operand} {vs : List Value} (zs : List Int) (hxs : ps.toList.map Prod.snd = xs) (hx : fr.evs xs = some vs) (hv : vs = zs.map (Value.int .i64)) (hn : zs.length = n) (hps : ps = ((List.range' 0 n).zip xs).toArray) (hm : Nat.ble (n * 1) 1000000 = true)
    (hk : ∀ A w', OwnZ w' w.heap.size w'.heap.size A n zs → Below w.heap.size w w' → WL Try.prog fn F N ks ops tg.tail l ((d, .slice A n n) :: fr) w')
    (ht : tg.loud = true := by rfl) (hg : onG ops fr gd = true := by rfl) (hd : Nat.blt d N = true := by rfl) : WL Try.prog fn F N ks ops tg (⟨some d, .buildSlice 51 n ps, ty, pos, aft, gd⟩ :: l) fr w := by
  refine wl_litR Try.rowI Try.sizeOf3 Try.zeroValue3 hxs hps hx (by rw [hv, List.length_map, hn]) (fun v hv' => ?_) hm (fun A w' h1 h2 => hk A w' ?_ h2) ht hg hd
  · rw [hv] at hv'
    obtain ⟨z, _, rfl⟩ := List.mem_map.1 hv'
    rfl
  · have e : (zs.map (Value.int .i64)).flatMap (fun v => v.cells.toList) = zs.map (Value.int .i64) := by
      clear h1 hk hm hx hv hn hps hxs
      induction zs with
      | nil => rfl
      | cons d L ih => rw [List.map_cons, List.flatMap_cons, ih]; rfl
    rw [hv, e] at h1
    subst hn
    exact h1
end

section
variable {fn : Func} {F : Ending → World → Prop} {N : Nat} {ks : List K} {ops : Array Oper} {tg : Tags} {l : List Oper} {fr : Fr} {w : World} {ty : TypeId} {pos : String} {aft : Array Edge} {gd : Option (Nat × Bool)} {d : Nat} {x y : Operand} {A : Option Addr}
--@ rule slice l wl_slhiZ
theorem wl_slhiZ {L : List Int} {len cap : Nat} (hi : Nat) {kh : IntKind} {h : Int} (hx : fr.ev x = some (.slice A len cap)) (hz : fr.ev y = some (.int kh h)) (hr : RZ w A L) (hlen : len = L.length) (hh : h = (hi : Int)) (h2 : hi ≤ len) (h3 : len ≤ cap)
    (hk : RZ w A (L.take hi) → WL Try.prog fn F N ks ops tg.tail l ((d, .slice A hi cap) :: fr) w) (hg : onG ops fr gd = true := by rfl) (hd : Nat.blt d N = true := by rfl) :
    WL Try.prog fn F N ks ops tg (⟨some d, .slice 51 x none (some y) none, ty, pos, aft, gd⟩ :: l) fr w :=
  wl_p (fun _ => o_slice_hi Try.underlying51 Try.sizeOf3 hx hz hh (by omega)) (hk (by
    unfold RZ at hr ⊢
    have := Reads.taken hr (k := hi) (by omega)
    rw [Nat.mul_one, ← List.map_take] at this
    rw [List.length_take, Nat.min_eq_left (by omega)]
    exact this)) hg hd
end
end Go.Proofs.Ytaldpegegekbjaa
