/-
  Chapter 18: plans, in the form that the recorder's search applies; numbers, each once.
-/
import Derived.Test.YtbncaabcddoicaaReoJ
import Derived.Test.YtbncaabcddoicaaDigH
import Derived.Test.YtbncaabcddoicaaKitA
namespace Go.Proofs.Ytbncaabcddoicaa
open Go.RowKit
--@ open PlO
--@ side ⟨by simp only; omega, by simp only; omega⟩
--@ side ⟨by simp; omega, by simp; omega⟩
theorem PlV.u {w w' : World} {p : Pl} {v : Value} (h : PlV w p v) (hb : Below w.heap.size w w') : PlV w' p v := h.below hb
theorem PlV.d {w : World} {p : Pl} {v : Value} (h : PlV w p v) : PlV w.drew p v := h
theorem PlV.mk_ {w : World} {k : Int} {A B : Option Addr} {n c m d : Nat} {L M : List Dg} (h1 : RD w A L) (h2 : RD w B M) (hn : n = L.length) (hm : m = M.length) (hc : L.length ≤ c) (hd : M.length ≤ d) : PlV w ⟨k, L, M⟩ (.agg #[.int .i64 k, .slice A n c, .slice B m d]) := by
  subst hn; subst hm
  exact ⟨A, c, B, d, rfl, h1, h2, hc, hd⟩

def gPlan : GoT Pl := ((gInt .i64).pair (gDgs.pair gDgs)).map fun x => ⟨x.1, x.2.1, x.2.2⟩
theorem opens_Plan : Opens Try.prog 25 gPlan := opens_map (opens_struct Try.underlying25 (by kernel_rfl)
  (.more (opens_int Try.underlying3 (by kernel_rfl)) rfl (.more opens_Digests rfl (.one opens_Digests rfl))))
--@ arg api.Plan arg_Plan
theorem arg_Plan {H : Type} {enc : TypeId × Value → H} {W : World} {base : Nat} {v : Value} {d : DataW H} {p : List MemPlace} (hok : Value.okWide Try.prog W .any base 25 v) (h : DataW.Trod enc Try.prog W 0 (fun _ => true) true 25 v d p) :
    ∃ p : Pl, PlV W p v ∧ (Lit.int .i64 p.keep).wf = true := by
  obtain ⟨cs, a, rfl, b, rfl, c1, c2, rfl, ⟨rfl, hw⟩, c3, c4, rfl, h3, h4⟩ := open_agg opens_Plan (.inl ⟨_, Try.underlying25⟩) hok h
  obtain ⟨A, c, rfl, hA, hc⟩ := gDgs_open h3
  obtain ⟨B, d, rfl, hB, hd⟩ := gDgs_open h4
  exact ⟨⟨b.1, b.2.1, b.2.2⟩, ⟨A, c, B, d, rfl, hA, hB, hc, hd⟩, hw⟩

/-! Rows of numbers. -/
def OwnZ (w : World) (lo hi : Nat) (A : Option Addr) (c : Nat) (zs : List Int) : Prop := RowH w lo hi 3 1 A zs.length c (zs.map (Value.int .i64))
def RZ (w : World) (A : Option Addr) (zs : List Int) : Prop := Reads w 1 A zs.length (zs.map (Value.int .i64))
section
variable {w w' : World} {lo hi c n : Nat} {e' : TypeId} {A : Option Addr} {L : List Int} {row : Option Nat}
theorem RZ.u (h : RZ w A L) (hb : Below w.heap.size w w') : RZ w' A L := h.below hb
theorem RZ.d (h : RZ w A L) : RZ w.drew A L := h
theorem RZ.nil_ : RZ w none [] := Reads.none_ _ _ _
theorem RZ.to_Reads (h : RZ w A L) : Reads w 1 A L.length (L.map (Value.int .i64)) := h
theorem OwnZ.u (h : OwnZ w lo hi A c L) (hb : Below w.heap.size w w') : OwnZ w' lo hi A c L := RowH.u h hb
theorem OwnZ.d (h : OwnZ w lo hi A c L) : OwnZ w.drew lo hi A c L := RowH.d h
theorem OwnZ.k (h : OwnZ w lo hi A c L) (hg : w.grownBy w' row) (ha : Ap row lo hi) : OwnZ w' lo hi A c L := RowH.k h hg ha
theorem OwnZ.y (h : OwnZ w lo hi A c L) (hg : Grew w w' e' row) (hne : e' ≠ 3) : OwnZ w' lo hi A c L := RowH.y h hg hne
theorem OwnZ.m {b : Nat} (h : OwnZ w lo hi A c L) (hg : GrewM w w' b) : OwnZ w' lo hi A c L := RowH.m h hg
theorem OwnZ.ap (h : OwnZ w lo hi A c L) {lo' hi' : Nat} (hd : hi ≤ lo' ∨ hi' ≤ lo) : Ap (blk A) lo' hi' := RowH.ap h hd
theorem OwnZ.cap (h : OwnZ w lo hi A c L) : L.length ≤ c := RowH.cap h
theorem OwnZ.to_RZ (h : OwnZ w lo hi A c L) : RZ w A L := RowH.rd h
theorem OwnZ.to_Reads (h : OwnZ w lo hi A c L) : Reads w 1 A L.length (L.map (Value.int .i64)) := RowH.rd h
theorem OwnZ.nil_ : OwnZ w lo hi none 0 [] := RowH.nil _ _ _ _ _
end
section
variable {fn : Func} {F : Ending → World → Prop} {N : Nat} {ks : List K} {ops : Array Oper} {tg : Tags} {l : List Oper} {fr : Fr} {w : World} {ty t t' : TypeId} {pos : String} {aft : Array Edge} {gd : Option (Nat × Bool)} {d g n c j q lo hi : Nat} {x y k : Operand} {A X : Option Addr}
--@ rule load r o_loadRZ
theorem o_loadRZ {zs : List Int} (ha' : ∀ w, (isAgg t).run Try.prog w = .ok false w) (hx : fr.ev x = some (.pointer (some (adr A j)))) (hr : RZ w A zs) (hj : j < zs.length) : OpV Try.prog N fr w (.load t x) ty (.int .i64 zs[j]) w := o_loadZ ha' hx hr hj
--@ rule append l wl_appZ
theorem wl_appZ {L M : List Int} (hx : fr.ev x = some (.slice A n c)) (hown : OwnZ w lo hi A c L) (hn : n = L.length) (hy : fr.ev y = some (.slice X j q)) (hr : RZ w X M) (hj : j = M.length) (hlen : L.length + M.length ≤ 4000000) (hB : lo ≤ w.heap.size)
    (h : ∀ A' c' w', OwnZ w' lo w'.heap.size A' c' (L ++ M) → Grew w w' 3 (blk A) → Below lo w w' → (blk A' = blk A ∨ blk A' = some w.heap.size) → WL Try.prog fn F N ks ops tg.tail l ((d, .slice A' (L ++ M).length c') :: fr) w')
    (ht : tg.loud = true := by rfl) (hg : onG ops fr gd = true := by rfl) (hd : Nat.blt d N = true := by rfl) (hq : tg.calm = false ∨ blk A = none ∨ blk A = tg.row := by exact .inl rfl) :
    WL Try.prog fn F N ks ops tg (⟨some d, .call { callee := .builtin .append, args := #[x, y], argTypes := #[22, 22] }, ty, pos, aft, gd⟩ :: l) fr w := by
  subst hn; subst hj
  refine wl_appR Try.rowI hx hown hy hr (fun u hu => by obtain ⟨z, _, rfl⟩ := List.mem_map.1 hu; rfl) (by simp only [maxLen]; omega) (by omega) hB (fun A' c' w' h1 h2 h3 h4 => ?_) ht hg hd hq
  have := h A' c' w' (by unfold OwnZ; rw [List.map_append, List.length_append]; exact h1) h2 h3 h4
  rwa [List.length_append] at this
--@ rule buildSlice l wl_litZH
theorem wl_litZH {ps : Array (Nat × Operand)} {xs : List Operand} {vs : List Value} (zs : List Int) (hxs : ps.toList.map Prod.snd = xs) (hx : fr.evs xs = some vs) (hv : vs = zs.map (Value.int .i64)) (hn : zs.length = n) (hps : ps = ((List.range' 0 n).zip xs).toArray) (hm : Nat.ble (n * 1) 1000000 = true)
    (hk : ∀ A w', OwnZ w' w.heap.size w'.heap.size A n zs → Below w.heap.size w w' → WL Try.prog fn F N ks ops tg.tail l ((d, .slice A n n) :: fr) w')
    (ht : tg.loud = true := by rfl) (hg : onG ops fr gd = true := by rfl) (hd : Nat.blt d N = true := by rfl) : WL Try.prog fn F N ks ops tg (⟨some d, .buildSlice 22 n ps, ty, pos, aft, gd⟩ :: l) fr w := by
  refine wl_litR Try.rowI Try.sizeOf3 Try.zeroValue3 hxs hps hx (by rw [hv, List.length_map, hn]) (fun v hv' => ?_) hm (fun A w' h1 h2 => hk A w' ?_ h2) ht hg hd
  · rw [hv] at hv'
    obtain ⟨z, _, rfl⟩ := List.mem_map.1 hv'
    rfl
  · have e : (zs.map (Value.int .i64)).flatMap (fun v => v.cells.toList) = zs.map (Value.int .i64) := by
      clear h1 hk hm hx hv hn hps hxs
      induction zs with
      | nil => rfl
      | cons d L ih => rw [List.map_cons, List.flatMap_cons, ih]; rfl
    rw [hv, e] at h1
    subst hn
    exact h1
end
def lonce (zs : List Int) : List Int := zs.foldl (fun out z => if pick z 65536 ∈ out then out else out ++ [pick z 65536]) []
theorem lonce_snoc (zs : List Int) (z : Int) : lonce (zs ++ [z]) = if pick z 65536 ∈ lonce zs then lonce zs else lonce zs ++ [pick z 65536] := by unfold lonce; rw [List.foldl_append]; rfl
theorem lonce_len (zs : List Int) : (lonce zs).length ≤ zs.length := by
  have h : ∀ n, (lonce (zs.take n)).length ≤ n := by
    intro n
    induction n with
    | zero => simp [lonce]
    | succ n ih =>
      rcases Nat.lt_or_ge n zs.length with hl | hl
      · rw [List.take_succ_eq_append_getElem hl, lonce_snoc]
        split
        · omega
        · simp; omega
      · rw [List.take_of_length_le (by omega)]
        rw [List.take_of_length_le hl] at ih
        omega
  have := h zs.length
  rwa [List.take_length] at this

theorem C_once {A : Option Addr} {zs : List Int} {k : Nat} (c : Nat) (w : World) (hr : RZ w A zs) (hk : k = zs.length) (hl : zs.length ≤ 1000000) (hz : ∀ z ∈ zs, (Lit.int .i64 z).wf = true) :
    CallsR Try.prog 11 [.slice A k c] w fun v w' => ∃ A' c', v = .slice A' (lonce zs).length c' ∧ OwnZ w' w.heap.size w'.heap.size A' c' (lonce zs) ∧ Below w.heap.size w w' := by
  subst hk
  refine callsR Try.func11 rfl rfl (by kernel_rfl) rfl ?_
  have hw := Below.refl w.heap.size w
  refine rk_seq ?_
  refine rk_region ?_
  refine wl_p (fun _ => o_assign rfl) ?_
  refine wl_nil ?_
  refine rk_seq ?_
  refine rk_region ?_
  refine wl_p (fun _ => o_assign rfl) ?_
  refine wl_nil ?_
  refine rk_seq ?_
  refine rk_region ?_
  refine wl_makeI Try.underlying51 ?_
  rintro b7 w7 f7 b7_1 i7 i7_1
  have s7 := b7_1.size
  replace hw := hw.trans (b7_1.mono hw.size)
  refine wl_p (fun _ => o_assign rfl) ?_
  refine wl_nil ?_
  refine rk_seq ?_
  refine rk_seq ?_
  refine rk_region ?_
  refine wl_p (fun _ => o_assign rfl) ?_
  refine wl_nil ?_
  refine rk_block ?_
  refine rk_joinb (fun fr w' => ∃ A' c', fr = [(3, .slice A' (lonce zs).length c')] ∧ OwnZ w' w.heap.size w'.heap.size A' c' (lonce zs) ∧ Below w.heap.size w w') ?_ (fun ks hj => ?_)
  rotate_left
  · refine rk_loop (fun m fr w' => ∃ (i : Nat) (v : Int) (A' : Option Addr) (n c' hi : Nat), fr = [(0, .slice A zs.length c), (4, .map (some b7)), (3, .slice A' n c'), (5, .int .i64 v)] ∧ v = i ∧ n = (lonce (zs.take i)).length ∧ i ≤ zs.length ∧ m = zs.length - i ∧ hi ≤ w'.heap.size ∧ OwnZ w' w.heap.size hi A' c' (lonce (zs.take i)) ∧ CntI w' b7 (lonce (zs.take i)) ∧ Below w.heap.size w w') (n := zs.length) (by repeat' constructor)
      ⟨0, _, none, 0, 0, 0, rfl, rfl, rfl, by omega, rfl, by omega, OwnZ.nil_, f7, hw⟩ ?_
    rintro m fr w1 ⟨i, v, A1, n1, c1, hi1, rfl, rfl, hn, hi, rfl, hhi, fA, fC, hw⟩
    refine rk_seq ?_
    refine rk_seq ?_
    refine rk_region ?_
    refine wl_p (fun _ => o_move rfl) ?_
    refine wl_p (fun _ => o_move rfl) ?_
    refine wl_p (fun _ => o_len (t := 22) Try.underlying22 rfl) ?_
    refine wl_p (fun _ => o_lt rfl rfl) ?_
    refine wl_nil ?_
    refine rk_if rfl (fun h11 => ?_) (fun h11 => ?_)
    · have hil : i < zs.length := by omega
      have hz1 := hz zs[i] (List.getElem_mem hil)
      have hlt := lonce_len (zs.take i)
      rw [List.length_take] at hlt
      have htk := lonce_snoc (zs.take i) zs[i]
      rw [← List.take_succ_eq_append_getElem hil] at htk
      have hp := pick_range zs[i] 65536 (by omega)
      have hp1 : (Lit.int .i64 (pick zs[i] 65536)).wf = true := i64_wf (by omega)
      refine rk_skip ?_
      refine rk_seq ?_
      refine rk_block ?_
      refine rk_seq ?_
      refine rk_region ?_
      refine wl_p (fun _ => o_move rfl) ?_
      refine wl_p (fun _ => o_move rfl) ?_
      refine wl_p (fun _ => (o_iaddrA1 (i) Try.underlying22 Try.sizeOf3 rfl rfl rfl (Reads.some_ hr.to_Reads (by decide) (by omega)) (by omega))) ?_
      refine wl_r (o_loadZ Try.isAgg3 rfl (hr.u hw).to_Reads (by omega)) ?_
      refine wl_call rfl (C_Pick _ _ (by omega) (by rfl) _) ?_
      rintro v18 w18 ⟨rfl, rfl⟩
      refine wl_p (fun _ => o_assign rfl) ?_
      refine wl_nil ?_
      refine rk_seq ?_
      refine rk_region ?_
      refine wl_p (fun _ => o_move rfl) ?_
      refine wl_p (fun _ => o_move rfl) ?_
      refine wl_r (o_lookI Try.underlying51 rfl rfl fC (by omega)) ?_
      refine wl_p (fun _ => o_eq rfl rfl) ?_
      refine wl_nil ?_
      refine rk_if rfl (fun h22 => ?_) (fun h22 => ?_)
      · have hni : pick zs[i] 65536 ∉ lonce (zs.take i) := fun h => by rw [if_pos h] at h22; omega
        rw [if_neg hni] at htk
        have hlen := hn
        refine rk_seq ?_
        refine rk_region ?_
        refine wl_p (fun _ => o_move rfl) ?_
        refine wl_p (fun _ => o_move rfl) ?_
        refine wl_cntI Try.underlying51 rfl rfl rfl fC (by omega) (by omega) ?_
        rintro w_1 f g e
        have s := g.size
        replace hw := hw.trans (below_of_grownBy g.g hw.size (by omega))
        clear fC
        replace fA := fA.m g
        refine wl_nil ?_
        refine rk_region ?_
        refine wl_p (fun _ => o_move rfl) ?_
        refine wl_p (fun _ => o_move rfl) ?_
        refine wl_litZH [pick zs[i] 65536] (by rfl) rfl rfl (by rfl) (by rfl) (by rfl) ?_
        rintro A27 w27 f27 b27
        have qf27 := f27.cap
        have s27 := b27.size
        replace hw := hw.trans (b27.mono hw.size)
        replace fA := fA.u b27
        replace f := f.u b27
        refine wl_appZ rfl fA (by omega) rfl f27.to_RZ (by rfl) (by omega) hw.size ?_
        rintro A28 c28 w28 f28 g28 b28 i28
        have qf28 := f28.cap
        have s28 := g28.size
        replace hw := hw.trans (b28.mono (by omega))
        replace f := f.y g28 (by decide)
        clear fA
        clear f27
        refine wl_p (fun _ => o_assign rfl) ?_
        refine wl_nil ?_
        refine rk_blk ?_
        refine rk_region ?_
        refine wl_p (fun _ => o_move rfl) ?_
        refine wl_p (fun _ => o_add rfl rfl (by omega) (by omega)) ?_
        refine wl_p (fun _ => o_assign rfl) ?_
        refine wl_nil ?_

        refine rk_again (by repeat' constructor) ⟨i + 1, _, _, _, _, _, rfl, by omega, by rw [htk], by omega, rfl, ?_, by rw [htk]; exact f28, by rw [htk]; exact f, hw⟩ (by omega)
        omega
      · have hin : pick zs[i] 65536 ∈ lonce (zs.take i) := Classical.byContradiction fun h => by rw [if_neg h] at h22; omega
        rw [if_pos hin] at htk
        refine rk_skip ?_
        refine rk_blk ?_
        refine rk_region ?_
        refine wl_p (fun _ => o_move rfl) ?_
        refine wl_p (fun _ => o_add rfl rfl (by omega) (by omega)) ?_
        refine wl_p (fun _ => o_assign rfl) ?_
        refine wl_nil ?_
        exact rk_again (by repeat' constructor) ⟨i + 1, _, _, _, _, _, rfl, by omega, by rw [htk]; exact hn, by omega, rfl, hhi, by rw [htk]; exact fA, by rw [htk]; exact fC, hw⟩ (by omega)
    · have e : zs.take i = zs := List.take_of_length_le (by omega)
      rw [e] at hn fA
      subst hn
      refine rk_exit rfl ?_
      exact rk_to hj (by repeat' constructor) ⟨A1, c1, rfl, ⟨fA.o, fun k hk => Nat.lt_of_lt_of_le (fA.hi k hk) hhi⟩, hw⟩
  rintro fr w2 ⟨A', c', rfl, fA, hw⟩
  refine rk_seq ?_
  refine rk_region ?_
  refine wl_p (fun _ => o_move rfl) ?_
  refine wl_p (fun _ => o_assign rfl) ?_
  refine wl_nil ?_
  refine ret1 rfl rfl ?_
  exact ⟨A', c', rfl, fA, hw⟩
end Go.Proofs.Ytbncaabcddoicaa
