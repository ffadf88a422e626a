/-
  The statement OpsParts: its walk.
-/
import Derived.Test.YtahkeoegbjopfaaGreatMg10
namespace Go.Proofs.YtahkeoegbjopfaaGreat
set_option maxRecDepth 100000
open Go.RowKit
theorem rk_joinkf {P : Program} {fn : Func} {F : Ending → World → Prop} {N : Nat} {k : K} {ks : List K} {fr : Fr} {w : World} (R : Fr → Fr → World → Prop) (h2 : ∀ fr' w, R fr fr' w → RK P fn F N ks fr' w) (h1 : ∀ ks, (∀ fr' w, R fr fr' w → RK P fn F N ks fr' w) → RK P fn F N (k :: ks) fr w) : RK P fn F N (k :: ks) fr w := h1 ks h2
theorem step_same {S : Stt} {wr : Ky} {o : Opn} (h : OkT S) (h1 : (stepS S wr o).2 = true) (h2 : (stepS S wr o).1 = S) : o.1 = 1 ∧ getS S.1 S.2.1 S.2.2 o.2.1 = (o.2.2.1, true) := by
  have hW := (stepS_spec h).2.2 h1
  rw [h2] at hW
  rcases stepS_kind h1 with e | e | e | e | e | e
  · exact ⟨e, get_mem h (hW.k1 e)⟩
  · exact absurd (hW.k2 e).2 (hW.k2 e).1
  · exact absurd (hW.k3 e).1 (hW.k3 e).2
  · exact absurd (hW.k4 e).2 (hW.k4 e).1
  · exact absurd (hW.k5 e).1 (hW.k5 e).2.1
  · have := hW.k6 (by omega) (by omega) (by omega) (by omega) (by omega)
    exact absurd this.2.1 this.1
theorem bytesO_le {L : List Opn} {x : By} (h : bytesO L = (x, 0)) : x.length ≤ 1000 := by
  obtain ⟨h1, h2, rfl⟩ := bytesO_ok h
  have : ∀ (M : List Opn), (∀ o ∈ M, okO o = true) → (M.flatMap opB).length ≤ M.length * 71 := fun M => by
    induction M with
    | nil => intro _; simp
    | cons o M ih =>
      intro hM
      have h3 := ih fun x hx => hM x (List.mem_cons_of_mem _ hx)
      have h4 := hM o (List.mem_cons_self ..)
      unfold okO okOp at h4
      simp only [Bool.and_eq_true] at h4
      obtain ⟨h5, h6⟩ := goodS_le h4.2
      have h7 := tailS_le (k := o.1) (u := o.2.2.2) h5 h6
      rw [List.flatMap_cons, List.length_append, List.length_cons]
      have h8 : (opB o).length = (tailS o.1 o.2.1 o.2.2.1 o.2.2.2).length + 1 := rfl
      rw [Nat.succ_mul]
      omega
  have h3 := this L h2
  rw [List.length_cons]
  omega
theorem blkOf_lt (L : List Ded) : LtB (L.map blkOf) := by
  intro b hb
  obtain ⟨d, _, rfl⟩ := List.mem_map.1 hb
  show (bytesO d.2).1.length ≤ 4000000
  obtain ⟨⟨x, e⟩, h⟩ : ∃ r, bytesO d.2 = r := ⟨_, rfl⟩
  rw [h]
  rcases bytesO_err d.2 with h1 | ⟨_, h1⟩
  · rw [h] at h1
    obtain rfl : e = 0 := h1
    have := bytesO_le h
    show x.length ≤ 4000000
    omega
  · rw [h] at h1
    obtain rfl : x = [] := h1
    exact Nat.zero_le _
theorem ok_alone : OkT ([], [kA], [kA]) := by decide +kernel
theorem C_light22Y {A : Option Addr} {L : List Ded} {n c : Nat} (w : World) (hL : RDe w A L) (hn : n = L.length) (hl : L.length ≤ 9223372036854775807) (h : LtD L) :
    CallsR Tryz.prog 7 [.slice A n c] w fun v w' => v = .bool true ∧ Below w.heap.size w w' := by
  refine CallsR.mono (C_light22 (c := c) w hL hn hl) ?_
  rintro v w' ⟨b, rfl, h1, h2⟩
  rw [h1.2 h]
  exact ⟨rfl, h2⟩
theorem C_light22N {A : Option Addr} {L : List Ded} {n c : Nat} (w : World) (hL : RDe w A L) (hn : n = L.length) (hl : L.length ≤ 9223372036854775807) (h : ¬LtD L) :
    CallsR Tryz.prog 7 [.slice A n c] w fun v w' => v = .bool false ∧ Below w.heap.size w w' := by
  refine CallsR.mono (C_light22 (c := c) w hL hn hl) ?_
  rintro v w' ⟨b, rfl, h1, h2⟩
  cases b
  · exact ⟨rfl, h2⟩
  · exact absurd (h1.1 rfl) h
theorem OwnB.some_ {w : World} {lo hi cp : Nat} {A : Option Addr} {L : List Bk} (h : OwnB w lo hi A cp L) (hl : 0 < L.length) : A = some (A.getD ⟨0, 0, none⟩) := RBk.some_ h.to_RBk hl
def OpAt (w : World) (A : Option Addr) (j : Nat) (k : Int) (K : Option Addr) (n c : Nat) (V : Option Addr) (m d : Nat) (u : Ky) : Prop := ∃ cs, cs = opC k K n c V m d u ∧ CellsAt w A (j * 35) cs
theorem OpAt.u {w w' : World} {A K V : Option Addr} {j n c m d : Nat} {k : Int} {u : Ky} (h : OpAt w A j k K n c V m d u) (hb : Below w.heap.size w w') : OpAt w' A j k K n c V m d u := by obtain ⟨cs, h1, h2⟩ := h; exact ⟨cs, h1, h2.u hb⟩
theorem OpAt.d {w : World} {A K V : Option Addr} {j n c m d : Nat} {k : Int} {u : Ky} (h : OpAt w A j k K n c V m d u) : OpAt w.drew A j k K n c V m d u := h.u (below_drew w)
--@ rule! load r o_ldOpAt
theorem o_ldOpAt {N : Nat} {fr : Fr} {w w0 : World} {ty : TypeId} {x : Operand} {A K V : Option Addr} {j n c m d : Nat} {k : Int} {u : Ky} (hx : fr.ev x = some (.pointer (some (adr A (j * 35))))) (h : OpAt w0 A j k K n c V m d u) (hb : Below w0.heap.size w0 w) : OpV Tryz.prog N fr w (.load 54 x) ty (.agg (opC k K n c V m d u).toArray) w := by
  obtain ⟨cs, rfl, h⟩ := h
  exact o_loadn (cs := opC k K n c V m d u) Tryz.isAgg54 (by rw [opC_length]; exact Tryz.sizeOf54) hx (fun i v hv => by rw [adr_add]; exact (h.u hb) i v hv)
theorem ROT.elemT {w : World} {A : Option Addr} {L : List Opn} (hr : ROT w A L) {j : Nat} (hj : j < L.length) : ∃ K c V d, OpAt w A j L[j].1 K L[j].2.1.length c V L[j].2.2.1.length d L[j].2.2.2 ∧ RdT w K L[j].2.1 ∧ RdT w V L[j].2.2.1 := by
  obtain ⟨xs, h1, _, h2⟩ := hr
  have hc : CellsAt w A (j * 35) (part xs 35 j) := h1.cellsAt hj (show 0 < 35 by decide)
  obtain ⟨K, c, V, d, e, h3, h4, h5, h6, h7, h8, h9⟩ := gOp_T (h2 j hj)
  have e' : part xs 35 j = _ := e
  rw [e'] at hc
  exact ⟨K, c, V, d, ⟨_, rfl, hc⟩, h3, h4⟩
section
variable {fn : Func} {F : Ending → World → Prop} {N : Nat} {ks : List K} {ops : Array Oper} {tg : Tags} {l : List Oper} {fr : Fr} {w w0 : World} {ty : TypeId} {pos : String} {aft : Array Edge} {gd : Option (Nat × Bool)} {d0 j o : Nat} {x : Operand} {A : Option Addr} {L : List Opn}
--@ rule load l wl_ldOpI
theorem wl_ldOpI (hx : fr.ev x = some (.pointer (some (adr A (j * 35 + o))))) (ho : o = 0) (hr : RO w0 A L) (hb : Below w0.heap.size w0 w) (hj : j < L.length)
    (hk : (Lit.int .i64 L[j].1).wf = true → WL Tryz.prog fn F N ks ops tg.tail l ((d0, .int .i64 L[j].1) :: fr) w)
    (ht : tg.reads = true := by rfl) (hg : onG ops fr gd = true := by rfl) (hd : Nat.blt d0 N = true := by rfl) : WL Tryz.prog fn F N ks ops tg (⟨some d0, .load 3 x, ty, pos, aft, gd⟩ :: l) fr w := by
  subst ho
  obtain ⟨K, c, V, d, h1, _, _, _, _, _, _, h8⟩ := hr.elem hj
  exact wl_r (o_load (t := 3) Tryz.isAgg3 hx (h1.u hb 0 _ rfl)) (hk h8) ht hg hd
end
--@ side RI.nil_
--@ side (by simp [LtI])
set_option maxRecDepth 100000 in
set_option maxHeartbeats 40000000 in
theorem C_OpsParts {A0 : Option Addr} {D : List Ded} {c0 : Nat} {at0 : Int} (w : World) (hD : RDe w A0 D) (hc : D.length ≤ c0) (hm : c0 ≤ maxLen) (wa : (Lit.int .i64 at0).wf = true) :
    CallsR Tryz.prog 3 [.slice A0 D.length c0, .int .i64 at0] w fun v w' => v = .bool true ∧ Below w.heap.size w w' := by
  have hmx : maxLen = 9223372036854775807 := rfl
  refine callsR Tryz.func3 rfl rfl (by kernel_rfl) rfl ?_
  have hw := Below.refl w.heap.size w
  by_cases g1 : LtD D
  rotate_left
  · refine rk_seq ?_
    refine rk_region ?_
    refine wl_p (fun _ => o_assign rfl) ?_
    refine wl_nil ?_
    refine rk_seq ?_
    refine rk_seq ?_
    refine rk_region ?_
    refine wl_call rfl (C_lives22 _) ?_
    rintro v18 w18 ⟨rfl, b18⟩
    have s18 := b18.size
    replace hw := hw.trans (b18.mono hw.size)
    refine wl_p (fun _ => o_not rfl) ?_
    refine wl_nil ?_
    refine rk_false rfl ?_
    refine rk_skip ?_
    refine rk_seq ?_
    refine rk_seq ?_
    refine rk_region ?_
    refine wl_p (fun _ => o_move rfl) ?_
    refine wl_call rfl (C_light22N _ (hD.u hw) rfl (by omega) (by omega)) ?_
    rintro v21 w21 ⟨rfl, b21⟩
    have s21 := b21.size
    replace hw := hw.trans (b21.mono hw.size)
    refine wl_p (fun _ => o_not rfl) ?_
    refine wl_nil ?_
    refine rk_true rfl ?_
    refine rk_seq ?_
    refine rk_region ?_
    refine wl_p (fun _ => o_assign rfl) ?_
    refine wl_nil ?_
    refine ret1 rfl rfl ?_
    exact ⟨rfl, hw⟩
  have hd24 := g1.1
  obtain ⟨L, hL⟩ : ∃ L, D.map blkOf = L := ⟨_, rfl⟩
  have hLl : L.length ≤ 24 := by rw [← hL, List.length_map]; exact hd24
  have hLB : LtB L := by rw [← hL]; exact blkOf_lt D
  obtain ⟨p, hp⟩ : ∃ p, pick at0 ((L.length : Int) + 1) = p := ⟨_, rfl⟩
  have hpr := pick_range at0 ((L.length : Int) + 1) (by omega)
  rw [hp] at hpr
  obtain ⟨kk, rfl⟩ := Int.eq_ofNat_of_zero_le hpr.1
  have hkk : kk ≤ L.length := by omega
  have wl : (Lit.int .i64 ((L.length : Int) + 1)).wf = true := i64_wf (by omega)
  have hok0 : OkSt [] [kA] [kA] := ok_alone
  obtain ⟨⟨I1, X1, Y1⟩, hT⟩ : ∃ T, foldS ([], [kA], [kA]) L = T := ⟨_, rfl⟩
  obtain ⟨⟨I2, X2, Y2⟩, hT2⟩ : ∃ T, foldS ([], [kA], [kA]) (L.take kk) = T := ⟨_, rfl⟩
  have e1 : FoldR [] [kA] [kA] L I1 X1 Y1 := ⟨hT⟩
  have e2 : FoldR [] [kA] [kA] (L.take kk) I2 X2 Y2 := ⟨hT2⟩
  have e3 : FoldR I2 X2 Y2 (L.drop kk) I1 X1 Y1 := ⟨by rw [← hT2, ← foldS_append, List.take_append_drop, hT]⟩
  have hok1 : OkSt I1 X1 Y1 := by have := foldS_ok L ok_alone; rwa [hT] at this
  have hok2 : OkSt I2 X2 Y2 := by have := foldS_ok (L.take kk) ok_alone; rwa [hT2] at this
  have q1 := hok1.1.1
  have q2 := hok1.1.2
  have q3 := hok1.2.1.2
  have q4 : LtI I1 := hok1.2.2.1.lt
  have q5 := hok2.1.1
  have q6 := hok2.1.2
  have q7 := hok2.2.1.2
  have q8 : LtI I2 := hok2.2.2.1.lt
  have hLB2 : LtB (L.take kk) := fun b hb => hLB b (List.mem_of_mem_take hb)
  have hLB3 : LtB (L.drop kk) := fun b hb => hLB b (List.mem_of_mem_drop hb)
  refine rk_seq ?_
  refine rk_region ?_
  refine wl_p (fun _ => o_assign rfl) ?_
  refine wl_nil ?_
  refine rk_seq ?_
  refine rk_seq ?_
  refine rk_region ?_
  refine wl_call rfl (C_lives22 _) ?_
  rintro v18 w18 ⟨rfl, b18⟩
  have s18 := b18.size
  replace hw := hw.trans (b18.mono hw.size)
  refine wl_p (fun _ => o_not rfl) ?_
  refine wl_nil ?_
  refine rk_false rfl ?_
  refine rk_skip ?_
  refine rk_seq ?_
  refine rk_seq ?_
  refine rk_region ?_
  refine wl_p (fun _ => o_move rfl) ?_
  refine wl_call rfl (C_light22Y _ (hD.u hw) rfl (by omega) (by omega)) ?_
  rintro v21 w21 ⟨rfl, b21⟩
  have s21 := b21.size
  replace hw := hw.trans (b21.mono hw.size)
  refine wl_p (fun _ => o_not rfl) ?_
  refine wl_nil ?_
  refine rk_false rfl ?_
  refine rk_skip ?_
  refine rk_seq ?_
  refine rk_region ?_
  refine wl_p (fun _ => o_move rfl) ?_
  refine wl_call rfl (C_blocks22R _ hL (hD.u hw) rfl (by omega)) ?_
  rintro v24 w24 ⟨A24, ⟨c24, ⟨rfl, ⟨f24, b24⟩⟩⟩⟩
  have qf24 := f24.cap
  have s24 := b24.size
  replace hw := hw.trans (b24.mono hw.size)
  refine wl_p (fun _ => o_assign rfl) ?_
  refine wl_nil ?_
  refine rk_seq ?_
  refine rk_region ?_
  refine wl_p (fun _ => o_move rfl) ?_
  refine wl_p (fun _ => o_move rfl) ?_
  refine wl_p (fun _ => o_len (t := 25) Tryz.underlying25 rfl) ?_
  refine wl_p (fun _ => o_add rfl rfl (by omega) (by omega)) ?_
  refine wl_call rfl (C_PickR _ hp wa wl) ?_
  rintro v29 w29 ⟨rfl, b29⟩
  have s29 := b29.size
  replace hw := hw.trans (b29.mono hw.size)
  replace f24 := f24.u b29
  refine wl_p (fun _ => o_assign rfl) ?_
  refine wl_nil ?_
  refine rk_seq ?_
  refine rk_region ?_
  refine wl_call rfl (C_alone _) ?_
  rintro v30 w30 ⟨B30, ⟨C30, ⟨rfl, ⟨f30, ⟨f30_1, b30⟩⟩⟩⟩⟩
  have s30 := b30.size
  replace hw := hw.trans (b30.mono hw.size)
  replace f24 := f24.u b30
  refine wl_p (fun _ => o_move rfl) ?_
  refine wl_call rfl (C_kOwnBlocks _ f24.to_RBk rfl (by omega) (by omega)) ?_
  rintro v32 w32 ⟨A32, ⟨c32, ⟨rfl, ⟨f32, b32⟩⟩⟩⟩
  have qf32 := f32.cap
  have s32 := b32.size
  replace hw := hw.trans (b32.mono hw.size)
  replace f24 := f24.u b32
  replace f30_1 := f30_1.u b32
  replace f30 := f30.u b32
  refine wl_call rfl (C_foldN _ (RI.nil_) f30.to_RKs f30_1.to_RKs f32.to_RBk e1 (by rfl) (by rfl) (by rfl) rfl (by simp) (by simp) (by simp) (by simp [LtI]) (by omega) (by omega) (by omega)) ?_
  rintro v33 w33 ⟨A33, ⟨c33, ⟨B33, ⟨d33, ⟨C33, ⟨e33, ⟨rfl, ⟨f33, ⟨f33_1, ⟨f33_2, b33⟩⟩⟩⟩⟩⟩⟩⟩⟩⟩
  have qf33 := f33.cap
  have qf33_1 := f33_1.cap
  have qf33_2 := f33_2.cap
  have s33 := b33.size
  replace hw := hw.trans (b33.mono hw.size)
  replace f30 := f30.u b33
  replace f30_1 := f30_1.u b33
  replace f24 := f24.u b33
  replace f32 := f32.u b33
  refine wl_allocg [_, _, _] Tryz.zeroValue31 (by rfl) ?_
  rintro g7 w7 f7 b7 i7 i7_1
  have s7 := b7.size
  replace hw := hw.trans (b7.mono hw.size)
  replace f32 := f32.u b7
  replace f24 := f24.u b7
  replace f30_1 := f30_1.u b7
  replace f30 := f30.u b7
  replace f33_2 := f33_2.u b7
  replace f33_1 := f33_1.u b7
  replace f33 := f33.u b7
  refine wl_storega Tryz.sizeOf31 rfl rfl (by rfl) (oneCell_of (by rfl)) f7 (by rfl) ?_
  rintro w_1 f g e
  have s := g.size
  replace hw := hw.trans (below_of_grownBy g.g hw.size (by omega))
  replace f33 := f33.y g (by decide)
  replace f33_1 := f33_1.y g (by decide)
  replace f33_2 := f33_2.y g (by decide)
  replace f30 := f30.y g (by decide)
  replace f30_1 := f30_1.y g (by decide)
  replace f24 := f24.y g (by decide)
  replace f32 := f32.y g (by decide)
  clear f7
  refine wl_nil ?_
  refine rk_seq ?_
  refine rk_drawo (id := 8) (none) [0, 0, 0, 6, 9, 17, 0, 0, 192, 288, 544, 0, 4095] [0, 0, 0, 6, 15, 31, 0, 0, 192, 511, 1023, 0, 4095] 7729 0 [1, 2, 3, 6, 7, 8] [(.p, 1), (.p, 2), (.p, 3), (.p, 6), (.p, 7), (.p, 8), (.f 462 7729 0, 7)] (by kernel_rfl) (by kernel_rfl) (by kernel_rfl) (by kernel_rfl) (by kernel_rfl) ?_
  dsimp only [inOrder, nthOp]
  replace hw := hw.drew
  replace f32 := f32.d
  replace f24 := f24.d
  replace f30_1 := f30_1.d
  replace f30 := f30.d
  replace f33_2 := f33_2.d
  replace f33_1 := f33_1.d
  replace f33 := f33.d
  replace f := f.d
  refine wl_p (fun _ => o_move rfl) ?_
  refine wl_p (fun _ => o_move rfl) ?_
  refine wl_p (fun _ => (o_slHiG (kk) Tryz.underlying25 Tryz.sizeOf49 rfl rfl rfl (by omega))) ?_
  refine wl_p (fun _ => o_move rfl) ?_
  refine wl_p (fun _ => o_move rfl) ?_
  refine wl_p (fun _ => (o_slLoG (kk) Tryz.underlying25 Tryz.sizeOf49 rfl rfl rfl (by omega))) ?_
  have hl1 : (L.take kk).length = kk := by rw [List.length_take]; omega
  have hl2 : (L.drop kk).length = L.length - kk := by rw [List.length_drop]
  have f24t : RBT w_1.drew A24 (L.take kk) := f24.takeT hkk
  have f24d : RBT w_1.drew (cutA A24 c24 131 kk) (L.drop kk) := f24.dropT hkk
  have keep24 : ∀ W, Below w_1.drew.heap.size w_1.drew W → OwnB W w21.heap.size w24.heap.size A24 c24 L := fun W hb => f24.u hb
  clear f24 f32 f30 f30_1
  have hw1 := Below.refl w_1.drew.heap.size w_1.drew
  have hg7 : g7 < w_1.heap.size := f.lt
  have hwz : w_1.drew.heap.size = w_1.heap.size := rfl
  refine wl_forkf (m := 462) (L := 7729) (C := 0) (n := 7) (k1 := 0) (k2 := 11) (fun fb fr V => ∃ g8 A' c' B' d' C' e', fr = [(8, .pointer (some ⟨g8, 0, none⟩)), (44, .agg #[.slice A' I1.length c', .slice B' X1.length d', .slice C' Y1.length e'])] ++ fb ∧ Blk V g8 31 [.slice none 0 0, .slice none 0 0, .slice none 0 0] ∧ w_1.heap.size ≤ g8 ∧ RIT V A' I1 ∧ RKT V B' X1 ∧ RKT V C' Y1 ∧ Below w_1.drew.heap.size w_1.drew V) [0, 0, 0, 6, 9, 17, 0, 0, 192, 288, 544, 0, 4095] [0, 0, 0, 6, 15, 31, 0, 0, 192, 511, 1023, 0, 4095] [0] [11, 0, 4, 5, 9, 10, 12] [12] [(.f 463 7729 0, 6)] [(.l, 0), (.l, 4), (.l, 5), (.l, 9), (.l, 10), (.l, 12)] [(.l, 12)] (by kernel_rfl) (by kernel_rfl) (by kernel_rfl) (by kernel_rfl) (by kernel_rfl) ?_ (fun hj => ?_) (fun hj => ?_) <;> dsimp only [inOrder, nthOp]
  · clear hw1
    rintro fr V ⟨g8, A8, c8, B8', d8, C8, e8, rfl, f8, h8, k1, k2, k3, hw1⟩
    have hg8 : g8 < V.heap.size := f8.lt
    first | refine rk_frame (by simp only [List.cons_append, List.nil_append, List.drop_succ_cons, List.drop_zero]; rfl) ?_ | refine wl_frame (by simp only [List.cons_append, List.nil_append, List.drop_succ_cons, List.drop_zero]; rfl) ?_
    have shw1 := hw1.size
    simp only [drew_size] at shw1
    replace hw := hw.trans (hw1.mono hw.size)
    replace f24d := f24d.u hw1
    replace f24t := f24t.u hw1
    replace f := f.u hw1
    replace f33 := f33.u hw1
    replace f33_1 := f33_1.u hw1
    replace f33_2 := f33_2.u hw1
    have f24 := keep24 _ hw1
    clear keep24 f24t f24d
    refine wl_storega Tryz.sizeOf31 rfl rfl (by rfl) (oneCell_of (by rfl)) f8 (by rfl) ?_
    rintro w_2 f_1 g_1 e_1
    have s_1 := g_1.size
    replace hw1 := hw1.trans (below_of_grownBy g_1.g hw1.size (by omega))
    replace hw := hw.trans (below_of_grownBy g_1.g hw.size (by omega))
    replace f24 := f24.y g_1 (by decide)
    replace f33_2 := f33_2.y g_1 (by decide)
    replace f33_1 := f33_1.y g_1 (by decide)
    replace f33 := f33.y g_1 (by decide)
    replace f := f.k g_1.g (ap_some (by omega))
    replace k3 := k3.y g_1 (by decide)
    replace k2 := k2.y g_1 (by decide)
    replace k1 := k1.y g_1 (by decide)
    clear f8
    refine wl_nild ?_
    refine rk_seq ?_
    refine rk_region ?_
    refine wl_call rfl (C_alone _) ?_
    rintro v45 w45 ⟨B45, ⟨C45, ⟨rfl, ⟨f45, ⟨f45_1, b45⟩⟩⟩⟩⟩
    have s45 := b45.size
    replace hw1 := hw1.trans (b45.mono hw1.size)
    replace hw := hw.trans (b45.mono hw.size)
    replace k1 := k1.u b45
    replace k2 := k2.u b45
    replace k3 := k3.u b45
    replace f := f.u b45
    replace f33 := f33.u b45
    replace f33_1 := f33_1.u b45
    replace f33_2 := f33_2.u b45
    replace f24 := f24.u b45
    replace f_1 := f_1.u b45
    refine wl_allocg [_, _, _] Tryz.zeroValue31 (by rfl) ?_
    rintro g9 w9 f9 b9 i9 i9_1
    have s9 := b9.size
    replace hw1 := hw1.trans (b9.mono hw1.size)
    replace hw := hw.trans (b9.mono hw.size)
    replace f_1 := f_1.u b9
    replace f24 := f24.u b9
    replace f33_2 := f33_2.u b9
    replace f33_1 := f33_1.u b9
    replace f33 := f33.u b9
    replace f := f.u b9
    replace k3 := k3.u b9
    replace k2 := k2.u b9
    replace k1 := k1.u b9
    replace f45_1 := f45_1.u b9
    replace f45 := f45.u b9
    refine wl_storega Tryz.sizeOf31 rfl rfl (by rfl) (oneCell_of (by rfl)) f9 (by rfl) ?_
    rintro w_3 f_2 g_2 e_2
    have s_2 := g_2.size
    replace hw1 := hw1.trans (below_of_grownBy g_2.g hw1.size (by omega))
    replace hw := hw.trans (below_of_grownBy g_2.g hw.size (by omega))
    replace f45 := f45.y g_2 (by decide)
    replace f45_1 := f45_1.y g_2 (by decide)
    replace k1 := k1.y g_2 (by decide)
    replace k2 := k2.y g_2 (by decide)
    replace k3 := k3.y g_2 (by decide)
    replace f := f.k g_2.g (ap_some (by omega))
    replace f33 := f33.y g_2 (by decide)
    replace f33_1 := f33_1.y g_2 (by decide)
    replace f33_2 := f33_2.y g_2 (by decide)
    replace f24 := f24.y g_2 (by decide)
    replace f_1 := f_1.k g_2.g (ap_some (by omega))
    clear f9
    refine wl_nil ?_
    refine rk_seq ?_
    refine rk_seq ?_
    refine rk_region ?_
    refine wl_p (fun _ => o_assign rfl) ?_
    refine wl_nil ?_
    refine rk_block ?_
    have k4 := f33.to_RIT
    have k5 := f33_1.to_RKT
    have k6 := f33_2.to_RKT
    have h9 : g8 < g9 := by omega
    have h97 : g7 < g9 := by omega
    have h87 : g7 < g8 := by omega
    have hsz0 := hw.size
    refine rk_joinf (fun fb fr W => ∃ (Aa Ba Ca : Option Addr) (ca da ea : Nat), fr = [] ++ fb.drop 1 ∧ (Blk W g9 31 [.slice Aa I1.length ca, .slice Ba X1.length da, .slice Ca Y1.length ea] ∧ RIT W Aa I1 ∧ RKT W Ba X1 ∧ RKT W Ca Y1) ∧ (OwnB W w21.heap.size w24.heap.size A24 c24 L ∧ Blk W g7 31 [.slice A33 I1.length c33, .slice B33 X1.length d33, .slice C33 Y1.length e33] ∧ RIT W A33 I1 ∧ RKT W B33 X1 ∧ RKT W C33 Y1 ∧ Blk W g8 31 [.slice A8 I1.length c8, .slice B8' X1.length d8, .slice C8 Y1.length e8] ∧ RIT W A8 I1 ∧ RKT W B8' X1 ∧ RKT W C8 Y1) ∧ w_3.heap.size ≤ W.heap.size ∧ Below w.heap.size w W) ?_ (fun ks hj => ?_)
    rotate_left
    · refine rk_loopf (fun fb k fr W => ∃ (i : Nat) (v : Int) (I : List (By × By)) (X Y : List Ky) (Aa Ba Ca : Option Addr) (ca da ea : Nat), fr = [(10, .int .i64 v)] ++ fb.drop 1 ∧ v = i ∧ i ≤ L.length ∧ k = L.length - i ∧ foldS ([], [kA], [kA]) (L.take i) = (I, X, Y) ∧ (Blk W g9 31 [.slice Aa I.length ca, .slice Ba X.length da, .slice Ca Y.length ea] ∧ RIT W Aa I ∧ RKT W Ba X ∧ RKT W Ca Y) ∧ (OwnB W w21.heap.size w24.heap.size A24 c24 L ∧ Blk W g7 31 [.slice A33 I1.length c33, .slice B33 X1.length d33, .slice C33 Y1.length e33] ∧ RIT W A33 I1 ∧ RKT W B33 X1 ∧ RKT W C33 Y1 ∧ Blk W g8 31 [.slice A8 I1.length c8, .slice B8' X1.length d8, .slice C8 Y1.length e8] ∧ RIT W A8 I1 ∧ RKT W B8' X1 ∧ RKT W C8 Y1) ∧ w_3.heap.size ≤ W.heap.size ∧ Below w.heap.size w W) (n := L.length) (Fr.le_of (by kernel_rfl) (by kernel_rfl) (by repeat' constructor)) ⟨0, _, [], [kA], [kA], none, B45, C45, 0, 1, 1, rfl, rfl, by omega, rfl, rfl, ⟨f_2, RIT.nil_, f45, f45_1⟩, ⟨f24, f, k4, k5, k6, f_1, k1, k2, k3⟩, Nat.le_refl _, hw⟩ ?_
      clear hw hw1 f f_1 f_2 f24 f45 f45_1 k1 k2 k3 k4 k5 k6 f33 f33_1 f33_2
      rintro k fr W ⟨i, v, I, X, Y, Aa, Ba, Ca, ca, da, ea, rfl, rfl, hi, rfl, hIX, ⟨f9, m1, m2, m3⟩, ⟨f24, f7, k4, k5, k6, f8, k1, k2, k3⟩, hszW, hw⟩
      have shw := hw.size
      have hokS : OkT (I, X, Y) := by rw [← hIX]; exact foldS_ok _ ok_alone
      first | refine rk_frame (by simp only [List.cons_append, List.nil_append, List.drop_succ_cons, List.drop_zero]; rfl) ?_ | refine wl_frame (by simp only [List.cons_append, List.nil_append, List.drop_succ_cons, List.drop_zero]; rfl) ?_
      refine rk_seq ?_
      refine rk_seq ?_
      refine rk_region ?_
      refine wl_p (fun _ => o_move rfl) ?_
      refine wl_p (fun _ => o_move rfl) ?_
      refine wl_p (fun _ => o_len (t := 25) Tryz.underlying25 rfl) ?_
      refine wl_p (fun _ => o_lt rfl rfl) ?_
      refine wl_nil ?_
      refine rk_if rfl (fun h49 => ?_) (fun h49 => ?_)
      · have hil : i < L.length := by omega
        have n1 := hLB _ (List.getElem_mem hil)
        obtain ⟨⟨U, eU⟩, hU⟩ : ∃ r, readO L[i].2 = r := ⟨_, rfl⟩
        have er : ReadR L[i].2 U eU := ⟨hU⟩
        have hUl : U.length ≤ 8 := by have := readO_len L[i].2; rwa [hU] at this
        have hUo : ∀ o ∈ U, o.2.1.length ≤ 4000000 ∧ o.2.2.1.length ≤ 4000000 := by have := readO_ok L[i].2; rwa [hU] at this
        refine rk_skip ?_
        refine rk_seq ?_
        refine rk_block ?_
        refine rk_seq ?_
        refine rk_region ?_
        refine wl_p (fun _ => o_move rfl) ?_
        refine wl_p (fun _ => o_move rfl) ?_
        refine wl_p (fun _ => (o_iaddrA (i) Tryz.underlying25 Tryz.sizeOf49 rfl rfl rfl (f24.some_ (by omega)) (by omega))) ?_
        refine wl_p (fun _ => (o_faddrR rfl Tryz.underlying49 (by rfl) Tryz.sizeOf39 (by rfl) (by rfl))) ?_
        refine wl_ldBkD rfl (by rfl) f24.to_RBk (Below.refl _ _) (by omega) ?_
        rintro D57 c57 f57 i57
        refine wl_call rfl (C_kOwn _ f57 rfl (by omega)) ?_
        rintro v58 w58 ⟨A58, ⟨c58, ⟨rfl, ⟨f58, b58⟩⟩⟩⟩
        have qf58 := f58.cap
        have s58 := b58.size
        replace hw := hw.trans (b58.mono hw.size)
        replace f57 := f57.u b58
        replace k3 := k3.u b58
        replace k2 := k2.u b58
        replace k1 := k1.u b58
        replace f8 := f8.u b58
        replace k6 := k6.u b58
        replace k5 := k5.u b58
        replace k4 := k4.u b58
        replace f7 := f7.u b58
        replace f24 := f24.u b58
        replace m3 := m3.u b58
        replace m2 := m2.u b58
        replace m1 := m1.u b58
        replace f9 := f9.u b58
        refine wl_call rfl (C_opsReadN _ er f58.to_Rd rfl (by omega)) ?_
        rintro v59 w59 ⟨A59, ⟨c59, ⟨rfl, ⟨f59, b59⟩⟩⟩⟩
        have qf59 := f59.cap
        have s59 := b59.size
        replace hw := hw.trans (b59.mono hw.size)
        replace f9 := f9.u b59
        replace m1 := m1.u b59
        replace m2 := m2.u b59
        replace m3 := m3.u b59
        replace f24 := f24.u b59
        replace f7 := f7.u b59
        replace k4 := k4.u b59
        replace k5 := k5.u b59
        replace k6 := k6.u b59
        replace f8 := f8.u b59
        replace k1 := k1.u b59
        replace k2 := k2.u b59
        replace k3 := k3.u b59
        replace f57 := f57.u b59
        replace f58 := f58.u b59
        refine wl_p (fun _ => o_move rfl) ?_
        refine wl_p (fun _ => o_ext20 rfl) ?_
        refine wl_p (fun _ => o_ext21 rfl) ?_
        refine wl_p (fun _ => o_assign rfl) ?_
        refine wl_p (fun _ => o_assign rfl) ?_
        refine wl_nil ?_
        refine rk_seq ?_
        refine rk_region ?_
        refine wl_p (fun _ => o_assign rfl) ?_
        refine wl_nil ?_
        refine rk_block ?_
        refine rk_joinf (fun fb fr W2 => ∃ (Ij : List (By × By)) (Xj Yj : List Ky) (Aj Bj Cj : Option Addr) (cj dj ej : Nat), fr = [] ++ fb.drop 1 ∧ opsS (I, X, Y) L[i].1 U = (Ij, Xj, Yj) ∧ (Blk W2 g9 31 [.slice Aj Ij.length cj, .slice Bj Xj.length dj, .slice Cj Yj.length ej] ∧ RIT W2 Aj Ij ∧ RKT W2 Bj Xj ∧ RKT W2 Cj Yj) ∧ (OwnB W2 w21.heap.size w24.heap.size A24 c24 L ∧ Blk W2 g7 31 [.slice A33 I1.length c33, .slice B33 X1.length d33, .slice C33 Y1.length e33] ∧ RIT W2 A33 I1 ∧ RKT W2 B33 X1 ∧ RKT W2 C33 Y1 ∧ Blk W2 g8 31 [.slice A8 I1.length c8, .slice B8' X1.length d8, .slice C8 Y1.length e8] ∧ RIT W2 A8 I1 ∧ RKT W2 B8' X1 ∧ RKT W2 C8 Y1) ∧ w59.heap.size ≤ W2.heap.size ∧ Below w.heap.size w W2) ?_ (fun ks hj => ?_)
        rotate_left
        · refine rk_loopf (fun fb k fr W2 => ∃ (j : Nat) (v : Int) (Ij : List (By × By)) (Xj Yj : List Ky) (Aj Bj Cj : Option Addr) (cj dj ej : Nat), fr = [(13, .int .i64 v)] ++ fb.drop 1 ∧ v = j ∧ j ≤ U.length ∧ k = U.length - j ∧ opsS (I, X, Y) L[i].1 (U.take j) = (Ij, Xj, Yj) ∧ OwnO W2 w58.heap.size w59.heap.size A59 c59 U ∧ (Blk W2 g9 31 [.slice Aj Ij.length cj, .slice Bj Xj.length dj, .slice Cj Yj.length ej] ∧ RIT W2 Aj Ij ∧ RKT W2 Bj Xj ∧ RKT W2 Cj Yj) ∧ (OwnB W2 w21.heap.size w24.heap.size A24 c24 L ∧ Blk W2 g7 31 [.slice A33 I1.length c33, .slice B33 X1.length d33, .slice C33 Y1.length e33] ∧ RIT W2 A33 I1 ∧ RKT W2 B33 X1 ∧ RKT W2 C33 Y1 ∧ Blk W2 g8 31 [.slice A8 I1.length c8, .slice B8' X1.length d8, .slice C8 Y1.length e8] ∧ RIT W2 A8 I1 ∧ RKT W2 B8' X1 ∧ RKT W2 C8 Y1) ∧ w59.heap.size ≤ W2.heap.size ∧ Below w.heap.size w W2) (n := U.length) (Fr.le_of (by kernel_rfl) (by kernel_rfl) (by repeat' constructor)) ⟨0, _, I, X, Y, Aa, Ba, Ca, ca, da, ea, rfl, rfl, by omega, rfl, rfl, f59, ⟨f9, m1, m2, m3⟩, ⟨f24, f7, k4, k5, k6, f8, k1, k2, k3⟩, Nat.le_refl _, hw⟩ ?_
          clear hw f9 m1 m2 m3 f24 f7 k4 k5 k6 f8 k1 k2 k3 f59 f57 f58
          rintro k fr W2 ⟨j, v, Ij, Xj, Yj, Aj, Bj, Cj, cj, dj, ej, rfl, rfl, hjU, rfl, hIj, f59, ⟨f9, m1, m2, m3⟩, ⟨f24, f7, k4, k5, k6, f8, k1, k2, k3⟩, hszj, hw⟩
          have shj := hw.size
          have hokj : OkT (Ij, Xj, Yj) := by rw [← hIj]; exact opsS_ok _ hokS
          have z1 := hokj.1.1
          have z2 := hokj.1.2
          have z3 := hokj.2.1.2
          have z4 : LtI Ij := hokj.2.2.1.lt
          have hg9 : g9 < W2.heap.size := f9.lt
          dsimp only at z1 z2 z3
          first | refine rk_frame (by simp only [List.cons_append, List.nil_append, List.drop_succ_cons, List.drop_zero]; rfl) ?_ | refine wl_frame (by simp only [List.cons_append, List.nil_append, List.drop_succ_cons, List.drop_zero]; rfl) ?_
          by_cases hjl : j < U.length
          · obtain rfl : eU = 0 := by
              by_cases he : eU = 0
              · exact he
              · rw [readO_nil hU he] at hjl
                exact absurd hjl (Nat.not_lt_zero _)
            obtain ⟨n2, n3⟩ := hUo _ (List.getElem_mem hjl)
            obtain ⟨Ko, co, Vo, dd, hOp, r1, r2⟩ := f59.to_ROT.elemT hjl
            obtain ⟨⟨⟨I', X', Y'⟩, b⟩, hst⟩ : ∃ r, stepS (Ij, Xj, Yj) L[i].1 (U[j].1, U[j].2.1, U[j].2.2.1, U[j].2.2.2) = r := ⟨_, rfl⟩
            have e6 : StepR Ij Xj Yj L[i].1 U[j].1 U[j].2.1 U[j].2.2.1 U[j].2.2.2 I' X' Y' b := ⟨hst⟩
            have hsp := stepS_spec (S := (Ij, Xj, Yj)) (wr := L[i].1) (o := (U[j].1, U[j].2.1, U[j].2.2.1, U[j].2.2.2)) hokj
            rw [hst] at hsp
            obtain ⟨hok', hf, ht⟩ := hsp
            dsimp only at hok' hf ht
            have y1 := hok'.1.1
            have y2 := hok'.1.2
            have y3 := hok'.2.1.2
            have y4 : LtI I' := hok'.2.2.1.lt
            obtain ⟨⟨v1, b1⟩, hv1⟩ : ∃ r, getS Ij Xj Yj U[j].2.1 = r := ⟨_, rfl⟩
            have e7 : GetR Ij Xj Yj U[j].2.1 v1 b1 := ⟨hv1⟩
            have hnx : opsS (I, X, Y) L[i].1 (U.take (j + 1)) = (I', X', Y') := by
              rw [List.take_succ_eq_append_getElem hjl, opsS_snoc, hIj, stS_step hokj]
              exact congrArg Prod.fst hst
            refine rk_seq ?_
            refine rk_seq ?_
            refine rk_region ?_
            refine wl_p (fun _ => o_move rfl) ?_
            refine wl_p (fun _ => o_move rfl) ?_
            refine wl_p (fun _ => o_len (t := 35) Tryz.underlying35 rfl) ?_
            refine wl_p (fun _ => o_lt rfl rfl) ?_
            refine wl_p (fun _ => o_move rfl) ?_
            refine wl_know 66 true rfl (decide_eq_true (by omega)) ?_
            refine wl_p (fun _ => o_move rfl) ?_
            refine wl_p (fun _ => o_eq rfl rfl) ?_
            refine wl_p (fun _ => o_pick_t rfl rfl) ?_
            refine wl_nil ?_
            refine rk_true rfl ?_
            refine rk_skip ?_
            refine rk_seq ?_
            refine rk_block ?_
            refine rk_seq ?_
            refine rk_drawo (id := 17) (none) [0, 1, 0, 0, 12, 16, 32, 0, 0, 384, 512, 1090, 2048, 4096, 4096, 0, 49151, 131071] [0, 1, 0, 0, 12, 28, 60, 0, 0, 384, 896, 2047, 4095, 8191, 8191, 0, 49151, 131071] 100354 32770 [0, 2, 3, 4, 5, 6, 7, 8, 9, 10] [(.s, 0), (.p, 2), (.p, 3), (.p, 4), (.p, 5), (.s, 6), (.p, 7), (.p, 8), (.p, 9), (.s, 10), (.f 2045 100354 32770, 8)] (by kernel_rfl) (by kernel_rfl) (by kernel_rfl) (by kernel_rfl) (by kernel_rfl) ?_
            dsimp only [inOrder, nthOp]
            replace hw := hw.drew
            replace r2 := r2.d
            replace r1 := r1.d
            replace hOp := hOp.d
            replace k3 := k3.d
            replace k2 := k2.d
            replace k1 := k1.d
            replace f8 := f8.d
            replace k6 := k6.d
            replace k5 := k5.d
            replace k4 := k4.d
            replace f7 := f7.d
            replace f24 := f24.d
            replace m3 := m3.d
            replace m2 := m2.d
            replace m1 := m1.d
            replace f9 := f9.d
            replace f59 := f59.d
            refine wl_s (fun _ hk => (o_loadag Tryz.isAgg31 Tryz.sizeOf31 rfl (f9.u (below_of_grown_none hk)) (by rfl))) ?_
            refine wl_p (fun _ => o_move rfl) ?_
            refine wl_p (fun _ => o_move rfl) ?_
            refine wl_p (fun _ => (o_iaddrA (i) Tryz.underlying25 Tryz.sizeOf49 rfl rfl rfl (f24.some_ (by omega)) (by omega))) ?_
            refine wl_p (fun _ => (o_faddrR rfl Tryz.underlying49 (by rfl) Tryz.sizeOf42 (by rfl) (by rfl))) ?_
            refine wl_s (fun _ hk => (o_ldBkU rfl (by rfl) f24.to_RBk (below_of_grown_none hk) hil)) ?_
            refine wl_p (fun _ => o_move rfl) ?_
            refine wl_p (fun _ => o_move rfl) ?_
            refine wl_p (fun _ => (o_iaddrA (j) Tryz.underlying35 Tryz.sizeOf54 rfl rfl rfl (f59.some_ (by omega)) (by omega))) ?_
            refine wl_s (fun _ hk => (o_ldOpAt rfl hOp (below_of_grown_none hk))) ?_
            clear hOp
            have hw1 := Below.refl W2.drew.heap.size W2.drew
            have hwz2 : W2.drew.heap.size = W2.heap.size := rfl
            refine wl_forkf (m := 2045) (L := 100354) (C := 32770) (n := 8) (k1 := 1) (k2 := 15) (fun fb fr V2 => ∃ g14 A' c' B' d' C' e', fr = [(14, .pointer (some ⟨g14, 0, none⟩)), (85, .agg #[.slice A' I'.length c', .slice B' X'.length d', .slice C' Y'.length e']), (86, .bool b)] ++ fb ∧ Blk V2 g14 31 [.slice none 0 0, .slice none 0 0, .slice none 0 0] ∧ W2.heap.size ≤ g14 ∧ RIT V2 A' I' ∧ RKT V2 B' X' ∧ RKT V2 C' Y' ∧ Below W2.drew.heap.size W2.drew V2) [0, 1, 0, 0, 12, 16, 32, 0, 0, 384, 512, 1090, 2048, 4096, 4096, 0, 49151, 131071] [0, 1, 0, 0, 12, 28, 60, 0, 0, 384, 896, 2047, 4095, 8191, 8191, 0, 49151, 131071] [1] [15, 1, 11, 12, 13, 14, 16, 17] [16, 17] [(.f 2047 100354 32770, 7)] [(.c, 1), (.l, 11), (.p, 12), (.p, 13), (.p, 14), (.l, 16), (.p, 17)] [(.l, 16), (.p, 17)] (by kernel_rfl) (by kernel_rfl) (by kernel_rfl) (by kernel_rfl) (by kernel_rfl) ?_ (fun hj => ?_) (fun hj => ?_) <;> dsimp only [inOrder, nthOp]
            · clear hw1
              rintro fr V2 ⟨g14, Ag, cg, Bg, dg, Cg, eg, rfl, f14, h14, k7, k8, k9, hw1⟩
              have h79 : g9 < g14 := by omega
              first | refine rk_frame (by simp only [List.cons_append, List.nil_append, List.drop_succ_cons, List.drop_zero]; rfl) ?_ | refine wl_frame (by simp only [List.cons_append, List.nil_append, List.drop_succ_cons, List.drop_zero]; rfl) ?_
              have shw1_1 := hw1.size
              simp only [drew_size] at shw1_1
              replace hw := hw.trans (hw1.mono hw.size)
              replace f59 := f59.u hw1
              replace f9 := f9.u hw1
              replace m1 := m1.u hw1
              replace m2 := m2.u hw1
              replace m3 := m3.u hw1
              replace f24 := f24.u hw1
              replace f7 := f7.u hw1
              replace k4 := k4.u hw1
              replace k5 := k5.u hw1
              replace k6 := k6.u hw1
              replace f8 := f8.u hw1
              replace k1 := k1.u hw1
              replace k2 := k2.u hw1
              replace k3 := k3.u hw1
              replace r1 := r1.u hw1
              replace r2 := r2.u hw1
              cases b
              · have hff := hf rfl
                injection hff with x1 hff
                injection hff with x2 x3
                subst x1; subst x2; subst x3
                refine wl_storega Tryz.sizeOf31 rfl rfl (by rfl) (oneCell_of (by rfl)) f14 (by rfl) ?_
                rintro w_4 f g_3 e_3
                have s_3 := g_3.size
                replace hw1 := hw1.trans (below_of_grownBy g_3.g hw1.size (by omega))
                replace hw := hw.trans (below_of_grownBy g_3.g hw.size (by omega))
                replace f9 := f9.k g_3.g (ap_some (by omega))
                replace m3 := m3.y g_3 (by decide)
                replace m2 := m2.y g_3 (by decide)
                replace m1 := m1.y g_3 (by decide)
                replace r2 := r2.y g_3 (by decide)
                replace r1 := r1.y g_3 (by decide)
                replace k3 := k3.y g_3 (by decide)
                replace k2 := k2.y g_3 (by decide)
                replace k1 := k1.y g_3 (by decide)
                replace f8 := f8.k g_3.g (ap_some (by omega))
                replace k6 := k6.y g_3 (by decide)
                replace k5 := k5.y g_3 (by decide)
                replace k4 := k4.y g_3 (by decide)
                replace f7 := f7.k g_3.g (ap_some (by omega))
                replace f24 := f24.y g_3 (by decide)
                replace f59 := f59.y g_3 (by decide)
                replace k9 := k9.y g_3 (by decide)
                replace k8 := k8.y g_3 (by decide)
                replace k7 := k7.y g_3 (by decide)
                clear f14
                refine wl_p (fun _ => o_assign rfl) ?_
                refine wl_nild ?_
                refine rk_seq ?_
                refine rk_seq ?_
                refine rk_region ?_
                refine wl_r (o_loadag Tryz.isAgg31 Tryz.sizeOf31 rfl f (by rfl)) ?_
                refine wl_call rfl (C_checkStateOk _ k7.to_RI k8.to_RKs k9.to_RKs rfl rfl rfl (by omega) (by omega) (by omega) (by omega) (by omega)) ?_
                rintro v88 w88 ⟨rfl, b88⟩
                have s88 := b88.size
                replace hw1 := hw1.trans (b88.mono hw1.size)
                replace hw := hw.trans (b88.mono hw.size)
                replace k7 := k7.u b88
                replace k8 := k8.u b88
                replace k9 := k9.u b88
                replace f59 := f59.u b88
                replace f24 := f24.u b88
                replace f7 := f7.u b88
                replace k4 := k4.u b88
                replace k5 := k5.u b88
                replace k6 := k6.u b88
                replace f8 := f8.u b88
                replace k1 := k1.u b88
                replace k2 := k2.u b88
                replace k3 := k3.u b88
                replace r1 := r1.u b88
                replace r2 := r2.u b88
                replace m1 := m1.u b88
                replace m2 := m2.u b88
                replace m3 := m3.u b88
                replace f9 := f9.u b88
                replace f := f.u b88
                refine wl_p (fun _ => o_ne rfl rfl) ?_
                refine wl_p (fun _ => o_move rfl) ?_
                refine wl_p (fun _ => o_move rfl) ?_
                refine wl_p (fun _ => o_not rfl) ?_
                refine wl_p (fun _ => o_move rfl) ?_
                refine wl_r (o_loadag Tryz.isAgg31 Tryz.sizeOf31 rfl f9 (by rfl)) ?_
                refine wl_r (o_loadag Tryz.isAgg31 Tryz.sizeOf31 rfl f (by rfl)) ?_
                refine wl_call rfl (C_kState _ m1.to_RI m2.to_RKs m3.to_RKs k7.to_RI k8.to_RKs k9.to_RKs rfl rfl rfl rfl rfl rfl (by omega) (by omega) (by omega) (by omega) (by omega) (by omega)) ?_
                rintro v96 w96 ⟨rfl, b96⟩
                have s96 := b96.size
                replace hw1 := hw1.trans (b96.mono hw1.size)
                replace hw := hw.trans (b96.mono hw.size)
                replace f := f.u b96
                replace f9 := f9.u b96
                replace m3 := m3.u b96
                replace m2 := m2.u b96
                replace m1 := m1.u b96
                replace r2 := r2.u b96
                replace r1 := r1.u b96
                replace k3 := k3.u b96
                replace k2 := k2.u b96
                replace k1 := k1.u b96
                replace f8 := f8.u b96
                replace k6 := k6.u b96
                replace k5 := k5.u b96
                replace k4 := k4.u b96
                replace f7 := f7.u b96
                replace f24 := f24.u b96
                replace f59 := f59.u b96
                replace k9 := k9.u b96
                replace k8 := k8.u b96
                replace k7 := k7.u b96
                refine wl_p (fun _ => o_not rfl) ?_
                refine wl_p (fun _ => o_pick_t rfl rfl) ?_
                refine wl_p (fun _ => o_pick_f rfl rfl) ?_
                refine wl_nil ?_
                refine rk_cond rfl (fun h99 => by simp at h99) (fun h99 => ?_)
                refine rk_skip ?_
                refine rk_seq ?_
                refine rk_seq ?_
                refine rk_draw (id := 20) (none) [0, 0, 0, 6, 8, 16, 33, 64, 128, 128, 511, 2047] [0, 0, 0, 6, 14, 30, 63, 127, 255, 255, 511, 2047] 64 0 [(.r, 0), (.p, 1), (.p, 2), (.p, 3), (.p, 4), (.r, 5), (.l, 6), (.p, 7), (.p, 8), (.p, 9), (.p, 10), (.p, 11)] (by kernel_rfl) (by kernel_rfl) (by kernel_rfl) (by kernel_rfl) (by kernel_rfl) ?_
                replace hw1 := hw1.drew
                replace hw := hw.drew
                replace k7 := k7.d
                replace k8 := k8.d
                replace k9 := k9.d
                replace f59 := f59.d
                replace f24 := f24.d
                replace f7 := f7.d
                replace k4 := k4.d
                replace k5 := k5.d
                replace k6 := k6.d
                replace f8 := f8.d
                replace k1 := k1.d
                replace k2 := k2.d
                replace k3 := k3.d
                replace r1 := r1.d
                replace r2 := r2.d
                replace m1 := m1.d
                replace m2 := m2.d
                replace m3 := m3.d
                replace f9 := f9.d
                replace f := f.d
                refine wl_r (o_loadag Tryz.isAgg31 Tryz.sizeOf31 rfl f9 (by rfl)) ?_
                refine wl_p (fun _ => o_move rfl) ?_
                refine wl_p (fun _ => o_move rfl) ?_
                refine wl_p (fun _ => (o_iaddrA (j) Tryz.underlying35 Tryz.sizeOf54 rfl rfl rfl (f59.some_ (by omega)) (by omega))) ?_
                refine wl_p (fun _ => (o_faddrR rfl Tryz.underlying54 (by rfl) Tryz.sizeOf39 (by rfl) (by rfl))) ?_
                refine wl_ldOpK rfl (by rfl) f59.to_RO (Below.refl _ _) (by omega) ?_
                rintro K106 c106 f106 i106
                refine wl_call rfl (C_getN _ e7 m1.to_RI m2.to_RKs m3.to_RKs f106 rfl rfl rfl rfl (by omega) (by omega) (by omega) (by omega) (by omega)) ?_
                rintro v107 w107 ⟨A107, ⟨c107, ⟨rfl, ⟨f107, b107⟩⟩⟩⟩
                simp only [drew_size] at f107
                simp only [drew_size] at b107
                have qf107 := f107.cap
                have s107 := b107.size
                simp only [drew_size] at s107
                replace hw1 := hw1.trans (b107.mono hw1.size)
                replace hw := hw.trans (b107.mono hw.size)
                replace f106 := f106.u b107
                replace f := f.u b107
                replace f9 := f9.u b107
                replace m3 := m3.u b107
                replace m2 := m2.u b107
                replace m1 := m1.u b107
                replace r2 := r2.u b107
                replace r1 := r1.u b107
                replace k3 := k3.u b107
                replace k2 := k2.u b107
                replace k1 := k1.u b107
                replace f8 := f8.u b107
                replace k6 := k6.u b107
                replace k5 := k5.u b107
                replace k4 := k4.u b107
                replace f7 := f7.u b107
                replace f24 := f24.u b107
                replace f59 := f59.u b107
                replace k9 := k9.u b107
                replace k8 := k8.u b107
                replace k7 := k7.u b107
                refine wl_p (fun _ => o_move rfl) ?_
                refine wl_p (fun _ => o_ext20 rfl) ?_
                refine wl_p (fun _ => o_ext21 rfl) ?_
                refine wl_p (fun _ => o_assign rfl) ?_
                refine wl_p (fun _ => o_assign rfl) ?_
                refine wl_nild ?_
                refine rk_seq ?_
                refine rk_draw (id := 21) (none) [0, 1, 2, 2, 14, 18, 48, 64, 64, 448, 576, 1088, 2112, 4160, 8192, 24576, 41024, 73792, 131072, 393216, 131072, 131072, 3276800, 4325376, 8519680, 16908288, 34209792, 67240000, 134217792] [0, 1, 3, 3, 15, 31, 63, 127, 127, 511, 1023, 2047, 4095, 8191, 16383, 32767, 65535, 131071, 262143, 524287, 262143, 262143, 3407871, 7602175, 15990783, 32767999, 67108863, 134217727, 268435455] 16 0 [(.p, 0), (.p, 1), (.r, 2), (.r, 3), (.l, 4), (.p, 5), (.p, 6), (.p, 7), (.p, 8), (.p, 9), (.p, 10), (.r, 11), (.p, 12), (.p, 13), (.p, 14), (.p, 15), (.p, 16), (.p, 17), (.p, 18), (.r, 19), (.p, 20), (.p, 21), (.p, 22), (.p, 23), (.r, 24), (.r, 25), (.p, 26), (.p, 27), (.p, 28)] (by kernel_rfl) (by kernel_rfl) (by kernel_rfl) (by kernel_rfl) (by kernel_rfl) ?_
                replace hw1 := hw1.drew
                replace hw := hw.drew
                replace k7 := k7.d
                replace k8 := k8.d
                replace k9 := k9.d
                replace f59 := f59.d
                replace f24 := f24.d
                replace f7 := f7.d
                replace k4 := k4.d
                replace k5 := k5.d
                replace k6 := k6.d
                replace f8 := f8.d
                replace k1 := k1.d
                replace k2 := k2.d
                replace k3 := k3.d
                replace r1 := r1.d
                replace r2 := r2.d
                replace m1 := m1.d
                replace m2 := m2.d
                replace m3 := m3.d
                replace f9 := f9.d
                replace f := f.d
                replace f106 := f106.d
                replace f107 := f107.d
                refine wl_p (fun _ => o_move rfl) ?_
                refine wl_p (fun _ => o_move rfl) ?_
                refine wl_off ?_
                refine wl_off ?_
                refine wl_off ?_
                refine wl_p (fun _ => o_pick_f rfl rfl) ?_
                refine wl_p (fun _ => o_move rfl) ?_
                refine wl_off ?_
                refine wl_off ?_
                refine wl_off ?_
                refine wl_off ?_
                refine wl_off ?_
                refine wl_off ?_
                refine wl_off ?_
                refine wl_off ?_
                refine wl_off ?_
                refine wl_off ?_
                refine wl_off ?_
                refine wl_off ?_
                refine wl_off ?_
                refine wl_off ?_
                refine wl_off ?_
                refine wl_off ?_
                refine wl_off ?_
                refine wl_off ?_
                refine wl_off ?_
                refine wl_off ?_
                refine wl_off ?_
                refine wl_p (fun _ => o_pick_f rfl rfl) ?_
                refine wl_nild ?_
                refine rk_false rfl ?_
                refine rk_skip ?_
                refine rk_region ?_
                refine wl_r (o_loadag Tryz.isAgg31 Tryz.sizeOf31 rfl f (by rfl)) ?_
                refine wl_storega Tryz.sizeOf31 rfl rfl (by rfl) (oneCell_of (by rfl)) f9 (by rfl) ?_
                rintro w_5 f_1 g_4 e_4
                simp only [drew_size] at e_4
                have s_4 := g_4.size
                simp only [drew_size] at s_4
                replace hw := hw.trans (below_of_grownBy g_4.g hw.size (by omega))
                replace f107 := f107.k g_4.g (ap_some (by omega))
                replace f := f.k g_4.g (ap_some (by omega))
                replace m3 := m3.y g_4 (by decide)
                replace m2 := m2.y g_4 (by decide)
                replace m1 := m1.y g_4 (by decide)
                replace r2 := r2.y g_4 (by decide)
                replace r1 := r1.y g_4 (by decide)
                replace k3 := k3.y g_4 (by decide)
                replace k2 := k2.y g_4 (by decide)
                replace k1 := k1.y g_4 (by decide)
                replace f8 := f8.k g_4.g (ap_some (by omega))
                replace k6 := k6.y g_4 (by decide)
                replace k5 := k5.y g_4 (by decide)
                replace k4 := k4.y g_4 (by decide)
                replace f7 := f7.k g_4.g (ap_some (by omega))
                replace f24 := f24.y g_4 (by decide)
                replace f59 := f59.y g_4 (by decide)
                replace k9 := k9.y g_4 (by decide)
                replace k8 := k8.y g_4 (by decide)
                replace k7 := k7.y g_4 (by decide)
                clear f106
                clear f9
                refine wl_nil ?_
                refine rk_blk ?_
                refine rk_region ?_
                refine wl_p (fun _ => o_move rfl) ?_
                refine wl_p (fun _ => o_add rfl rfl (by omega) (by omega)) ?_
                refine wl_p (fun _ => o_assign rfl) ?_
                refine wl_nil ?_
                exact rk_againf (Fr.le_of (by kernel_rfl) (by kernel_rfl) (by repeat' constructor)) ⟨j + 1, (j : Int) + 1, I', X', Y', Ag, Bg, Cg, cg, dg, eg, rfl, by omega, by omega, rfl, hnx, f59, ⟨f_1, k7, k8, k9⟩, ⟨f24, f7, k4, k5, k6, f8, k1, k2, k3⟩, by omega, hw⟩ (by omega)
              · by_cases hST : (I', X', Y') = (Ij, Xj, Yj)
                · have hsm := step_same (S := (Ij, Xj, Yj)) (wr := L[i].1) (o := (U[j].1, U[j].2.1, U[j].2.2.1, U[j].2.2.2)) hokj (by rw [hst]) (by rw [hst]; exact hST)
                  injection hST with x1 hST
                  injection hST with x2 x3
                  subst x1; subst x2; subst x3
                  obtain ⟨hk1, hsm⟩ := hsm
                  dsimp only at hk1 hsm
                  rw [hv1] at hsm
                  injection hsm with x4 x5
                  subst x4; subst x5
                  refine wl_storega Tryz.sizeOf31 rfl rfl (by rfl) (oneCell_of (by rfl)) f14 (by rfl) ?_
                  rintro w_4 f g_3 e_3
                  have s_3 := g_3.size
                  replace hw1 := hw1.trans (below_of_grownBy g_3.g hw1.size (by omega))
                  replace hw := hw.trans (below_of_grownBy g_3.g hw.size (by omega))
                  replace f9 := f9.k g_3.g (ap_some (by omega))
                  replace m3 := m3.y g_3 (by decide)
                  replace m2 := m2.y g_3 (by decide)
                  replace m1 := m1.y g_3 (by decide)
                  replace r2 := r2.y g_3 (by decide)
                  replace r1 := r1.y g_3 (by decide)
                  replace k3 := k3.y g_3 (by decide)
                  replace k2 := k2.y g_3 (by decide)
                  replace k1 := k1.y g_3 (by decide)
                  replace f8 := f8.k g_3.g (ap_some (by omega))
                  replace k6 := k6.y g_3 (by decide)
                  replace k5 := k5.y g_3 (by decide)
                  replace k4 := k4.y g_3 (by decide)
                  replace f7 := f7.k g_3.g (ap_some (by omega))
                  replace f24 := f24.y g_3 (by decide)
                  replace f59 := f59.y g_3 (by decide)
                  replace k9 := k9.y g_3 (by decide)
                  replace k8 := k8.y g_3 (by decide)
                  replace k7 := k7.y g_3 (by decide)
                  clear f14
                  refine wl_p (fun _ => o_assign rfl) ?_
                  refine wl_nild ?_
                  refine rk_seq ?_
                  refine rk_seq ?_
                  refine rk_region ?_
                  refine wl_r (o_loadag Tryz.isAgg31 Tryz.sizeOf31 rfl f (by rfl)) ?_
                  refine wl_call rfl (C_checkStateOk _ k7.to_RI k8.to_RKs k9.to_RKs rfl rfl rfl (by omega) (by omega) (by omega) (by omega) (by omega)) ?_
                  rintro v88 w88 ⟨rfl, b88⟩
                  have s88 := b88.size
                  replace hw1 := hw1.trans (b88.mono hw1.size)
                  replace hw := hw.trans (b88.mono hw.size)
                  replace k7 := k7.u b88
                  replace k8 := k8.u b88
                  replace k9 := k9.u b88
                  replace f59 := f59.u b88
                  replace f24 := f24.u b88
                  replace f7 := f7.u b88
                  replace k4 := k4.u b88
                  replace k5 := k5.u b88
                  replace k6 := k6.u b88
                  replace f8 := f8.u b88
                  replace k1 := k1.u b88
                  replace k2 := k2.u b88
                  replace k3 := k3.u b88
                  replace r1 := r1.u b88
                  replace r2 := r2.u b88
                  replace m1 := m1.u b88
                  replace m2 := m2.u b88
                  replace m3 := m3.u b88
                  replace f9 := f9.u b88
                  replace f := f.u b88
                  refine wl_p (fun _ => o_ne rfl rfl) ?_
                  refine wl_p (fun _ => o_move rfl) ?_
                  refine wl_p (fun _ => o_move rfl) ?_
                  refine wl_p (fun _ => o_not rfl) ?_
                  refine wl_p (fun _ => o_move rfl) ?_
                  refine wl_off ?_
                  refine wl_off ?_
                  refine wl_off ?_
                  refine wl_off ?_
                  refine wl_p (fun _ => o_pick_f rfl rfl) ?_
                  refine wl_p (fun _ => o_pick_f rfl rfl) ?_
                  refine wl_nil ?_
                  refine rk_false rfl ?_
                  refine rk_skip ?_
                  refine rk_seq ?_
                  refine rk_seq ?_
                  refine rk_draw (id := 20) (none) [0, 0, 0, 6, 8, 16, 33, 64, 128, 128, 511, 2047] [0, 0, 0, 6, 14, 30, 63, 127, 255, 255, 511, 2047] 64 0 [(.r, 0), (.p, 1), (.p, 2), (.p, 3), (.p, 4), (.r, 5), (.l, 6), (.p, 7), (.p, 8), (.p, 9), (.p, 10), (.p, 11)] (by kernel_rfl) (by kernel_rfl) (by kernel_rfl) (by kernel_rfl) (by kernel_rfl) ?_
                  replace hw1 := hw1.drew
                  replace hw := hw.drew
                  replace f := f.d
                  replace f9 := f9.d
                  replace m3 := m3.d
                  replace m2 := m2.d
                  replace m1 := m1.d
                  replace r2 := r2.d
                  replace r1 := r1.d
                  replace k3 := k3.d
                  replace k2 := k2.d
                  replace k1 := k1.d
                  replace f8 := f8.d
                  replace k6 := k6.d
                  replace k5 := k5.d
                  replace k4 := k4.d
                  replace f7 := f7.d
                  replace f24 := f24.d
                  replace f59 := f59.d
                  replace k9 := k9.d
                  replace k8 := k8.d
                  replace k7 := k7.d
                  refine wl_r (o_loadag Tryz.isAgg31 Tryz.sizeOf31 rfl f9 (by rfl)) ?_
                  refine wl_p (fun _ => o_move rfl) ?_
                  refine wl_p (fun _ => o_move rfl) ?_
                  refine wl_p (fun _ => (o_iaddrA (j) Tryz.underlying35 Tryz.sizeOf54 rfl rfl rfl (f59.some_ (by omega)) (by omega))) ?_
                  refine wl_p (fun _ => (o_faddrR rfl Tryz.underlying54 (by rfl) Tryz.sizeOf39 (by rfl) (by rfl))) ?_
                  refine wl_ldOpK rfl (by rfl) f59.to_RO (Below.refl _ _) (by omega) ?_
                  rintro K106 c106 f106 i106
                  refine wl_call rfl (C_getN _ e7 m1.to_RI m2.to_RKs m3.to_RKs f106 rfl rfl rfl rfl (by omega) (by omega) (by omega) (by omega) (by omega)) ?_
                  rintro v107 w107 ⟨A107, ⟨c107, ⟨rfl, ⟨f107, b107⟩⟩⟩⟩
                  simp only [drew_size] at f107
                  simp only [drew_size] at b107
                  have qf107 := f107.cap
                  have s107 := b107.size
                  simp only [drew_size] at s107
                  replace hw1 := hw1.trans (b107.mono hw1.size)
                  replace hw := hw.trans (b107.mono hw.size)
                  replace f106 := f106.u b107
                  replace k7 := k7.u b107
                  replace k8 := k8.u b107
                  replace k9 := k9.u b107
                  replace f59 := f59.u b107
                  replace f24 := f24.u b107
                  replace f7 := f7.u b107
                  replace k4 := k4.u b107
                  replace k5 := k5.u b107
                  replace k6 := k6.u b107
                  replace f8 := f8.u b107
                  replace k1 := k1.u b107
                  replace k2 := k2.u b107
                  replace k3 := k3.u b107
                  replace r1 := r1.u b107
                  replace r2 := r2.u b107
                  replace m1 := m1.u b107
                  replace m2 := m2.u b107
                  replace m3 := m3.u b107
                  replace f9 := f9.u b107
                  replace f := f.u b107
                  refine wl_p (fun _ => o_move rfl) ?_
                  refine wl_p (fun _ => o_ext20 rfl) ?_
                  refine wl_p (fun _ => o_ext21 rfl) ?_
                  refine wl_p (fun _ => o_assign rfl) ?_
                  refine wl_p (fun _ => o_assign rfl) ?_
                  refine wl_nild ?_
                  refine rk_seq ?_
                  refine rk_draw (id := 21) (none) [0, 1, 2, 2, 14, 18, 48, 64, 64, 448, 576, 1088, 2112, 4160, 8192, 24576, 41024, 73792, 131072, 393216, 131072, 131072, 3276800, 4325376, 8519680, 16908288, 34209792, 67240000, 134217792] [0, 1, 3, 3, 15, 31, 63, 127, 127, 511, 1023, 2047, 4095, 8191, 16383, 32767, 65535, 131071, 262143, 524287, 262143, 262143, 3407871, 7602175, 15990783, 32767999, 67108863, 134217727, 268435455] 16 0 [(.p, 0), (.p, 1), (.r, 2), (.r, 3), (.l, 4), (.p, 5), (.p, 6), (.p, 7), (.p, 8), (.p, 9), (.p, 10), (.r, 11), (.p, 12), (.p, 13), (.p, 14), (.p, 15), (.p, 16), (.p, 17), (.p, 18), (.r, 19), (.p, 20), (.p, 21), (.p, 22), (.p, 23), (.r, 24), (.r, 25), (.p, 26), (.p, 27), (.p, 28)] (by kernel_rfl) (by kernel_rfl) (by kernel_rfl) (by kernel_rfl) (by kernel_rfl) ?_
                  replace hw1 := hw1.drew
                  replace hw := hw.drew
                  replace f := f.d
                  replace f9 := f9.d
                  replace m3 := m3.d
                  replace m2 := m2.d
                  replace m1 := m1.d
                  replace r2 := r2.d
                  replace r1 := r1.d
                  replace k3 := k3.d
                  replace k2 := k2.d
                  replace k1 := k1.d
                  replace f8 := f8.d
                  replace k6 := k6.d
                  replace k5 := k5.d
                  replace k4 := k4.d
                  replace f7 := f7.d
                  replace f24 := f24.d
                  replace f59 := f59.d
                  replace k9 := k9.d
                  replace k8 := k8.d
                  replace k7 := k7.d
                  replace f106 := f106.d
                  replace f107 := f107.d
                  refine wl_p (fun _ => o_move rfl) ?_
                  refine wl_p (fun _ => o_move rfl) ?_
                  refine wl_r (o_loadag Tryz.isAgg31 Tryz.sizeOf31 rfl f9 (by rfl)) ?_
                  refine wl_r (o_loadag Tryz.isAgg31 Tryz.sizeOf31 rfl f (by rfl)) ?_
                  refine wl_call rfl (C_kState _ m1.to_RI m2.to_RKs m3.to_RKs k7.to_RI k8.to_RKs k9.to_RKs rfl rfl rfl rfl rfl rfl (by omega) (by omega) (by omega) (by omega) (by omega) (by omega)) ?_
                  rintro v114 w114 ⟨rfl, b114⟩
                  simp only [drew_size] at b114
                  have s114 := b114.size
                  simp only [drew_size] at s114
                  replace hw1 := hw1.trans (b114.mono hw1.size)
                  replace hw := hw.trans (b114.mono hw.size)
                  replace f107 := f107.u b114
                  replace f106 := f106.u b114
                  replace k7 := k7.u b114
                  replace k8 := k8.u b114
                  replace k9 := k9.u b114
                  replace f59 := f59.u b114
                  replace f24 := f24.u b114
                  replace f7 := f7.u b114
                  replace k4 := k4.u b114
                  replace k5 := k5.u b114
                  replace k6 := k6.u b114
                  replace f8 := f8.u b114
                  replace k1 := k1.u b114
                  replace k2 := k2.u b114
                  replace k3 := k3.u b114
                  replace r1 := r1.u b114
                  replace r2 := r2.u b114
                  replace m1 := m1.u b114
                  replace m2 := m2.u b114
                  replace m3 := m3.u b114
                  replace f9 := f9.u b114
                  replace f := f.u b114
                  refine wl_p (fun _ => o_pick_t rfl rfl) ?_
                  refine wl_p (fun _ => o_move rfl) ?_
                  refine wl_know 116 true rfl (by simp) ?_
                  refine wl_p (fun _ => o_move rfl) ?_
                  refine wl_p (fun _ => o_move rfl) ?_
                  refine wl_p (fun _ => (o_iaddrA (j) Tryz.underlying35 Tryz.sizeOf54 rfl rfl rfl (f59.some_ (by omega)) (by omega))) ?_
                  refine wl_p (fun _ => (o_faddrR rfl Tryz.underlying54 (by rfl) Tryz.sizeOf3 (by rfl) (by rfl))) ?_
                  refine wl_ldOpI rfl (by rfl) f59.to_RO (Below.refl _ _) (by omega) ?_
                  rintro e121
                  refine wl_p (fun _ => o_ne rfl rfl) ?_
                  refine wl_p (fun _ => o_move rfl) ?_
                  refine wl_know 123 false rfl (decide_eq_false (by omega)) ?_
                  refine wl_p (fun _ => o_move rfl) ?_
                  refine wl_p (fun _ => o_not rfl) ?_
                  refine wl_p (fun _ => o_pick_f rfl rfl) ?_
                  refine wl_p (fun _ => o_move rfl) ?_
                  refine wl_p (fun _ => o_move rfl) ?_
                  refine wl_r (o_strU Tryz.underlying39 Tryz.underlying5 Tryz.underlying9 rfl f107.to_Rd (Below.refl _ _) rfl) ?_
                  refine wl_p (fun _ => o_move rfl) ?_
                  refine wl_p (fun _ => o_move rfl) ?_
                  refine wl_p (fun _ => (o_iaddrA (j) Tryz.underlying35 Tryz.sizeOf54 rfl rfl rfl (f59.some_ (by omega)) (by omega))) ?_
                  refine wl_p (fun _ => (o_faddrR rfl Tryz.underlying54 (by rfl) Tryz.sizeOf39 (by rfl) (by rfl))) ?_
                  refine wl_ldOpV rfl (by rfl) f59.to_RO (Below.refl _ _) (by omega) ?_
                  rintro K134 c134 f134 i134
                  refine wl_r (o_strU Tryz.underlying39 Tryz.underlying5 Tryz.underlying9 rfl f134 (Below.refl _ _) rfl) ?_
                  refine wl_p (fun _ => o_sne rfl rfl) ?_
                  refine wl_p (fun _ => o_pick_f rfl rfl) ?_
                  refine wl_p (fun _ => o_pick_t rfl rfl) ?_
                  refine wl_nild ?_
                  refine rk_cond rfl (fun h138 => by simp at h138) (fun h138 => ?_)
                  refine rk_skip ?_
                  refine rk_region ?_
                  refine wl_r (o_loadag Tryz.isAgg31 Tryz.sizeOf31 rfl f (by rfl)) ?_
                  refine wl_storega Tryz.sizeOf31 rfl rfl (by rfl) (oneCell_of (by rfl)) f9 (by rfl) ?_
                  rintro w_5 f_1 g_4 e_4
                  have s_4 := g_4.size
                  replace hw := hw.trans (below_of_grownBy g_4.g hw.size (by omega))
                  replace f := f.k g_4.g (ap_some (by omega))
                  replace m3 := m3.y g_4 (by decide)
                  replace m2 := m2.y g_4 (by decide)
                  replace m1 := m1.y g_4 (by decide)
                  replace r2 := r2.y g_4 (by decide)
                  replace r1 := r1.y g_4 (by decide)
                  replace k3 := k3.y g_4 (by decide)
                  replace k2 := k2.y g_4 (by decide)
                  replace k1 := k1.y g_4 (by decide)
                  replace f8 := f8.k g_4.g (ap_some (by omega))
                  replace k6 := k6.y g_4 (by decide)
                  replace k5 := k5.y g_4 (by decide)
                  replace k4 := k4.y g_4 (by decide)
                  replace f7 := f7.k g_4.g (ap_some (by omega))
                  replace f24 := f24.y g_4 (by decide)
                  replace f59 := f59.y g_4 (by decide)
                  replace k9 := k9.y g_4 (by decide)
                  replace k8 := k8.y g_4 (by decide)
                  replace k7 := k7.y g_4 (by decide)
                  replace f107 := f107.k g_4.g (ap_some (by omega))
                  clear f134
                  clear f9
                  clear f106
                  refine wl_nil ?_
                  refine rk_blk ?_
                  refine rk_region ?_
                  refine wl_p (fun _ => o_move rfl) ?_
                  refine wl_p (fun _ => o_add rfl rfl (by omega) (by omega)) ?_
                  refine wl_p (fun _ => o_assign rfl) ?_
                  refine wl_nil ?_
                  exact rk_againf (Fr.le_of (by kernel_rfl) (by kernel_rfl) (by repeat' constructor)) ⟨j + 1, (j : Int) + 1, I', X', Y', Ag, Bg, Cg, cg, dg, eg, rfl, by omega, by omega, rfl, hnx, f59, ⟨f_1, k7, k8, k9⟩, ⟨f24, f7, k4, k5, k6, f8, k1, k2, k3⟩, by omega, hw⟩ (by omega)
                · have hST1 : ¬((Ij, Xj, Yj) = (I', X', Y')) := fun h => hST h.symm
                  refine wl_storega Tryz.sizeOf31 rfl rfl (by rfl) (oneCell_of (by rfl)) f14 (by rfl) ?_
                  rintro w_4 f g_3 e_3
                  have s_3 := g_3.size
                  replace hw1 := hw1.trans (below_of_grownBy g_3.g hw1.size (by omega))
                  replace hw := hw.trans (below_of_grownBy g_3.g hw.size (by omega))
                  replace r2 := r2.y g_3 (by decide)
                  replace r1 := r1.y g_3 (by decide)
                  replace k3 := k3.y g_3 (by decide)
                  replace k2 := k2.y g_3 (by decide)
                  replace k1 := k1.y g_3 (by decide)
                  replace f8 := f8.k g_3.g (ap_some (by omega))
                  replace k6 := k6.y g_3 (by decide)
                  replace k5 := k5.y g_3 (by decide)
                  replace k4 := k4.y g_3 (by decide)
                  replace f7 := f7.k g_3.g (ap_some (by omega))
                  replace f24 := f24.y g_3 (by decide)
                  replace m3 := m3.y g_3 (by decide)
                  replace m2 := m2.y g_3 (by decide)
                  replace m1 := m1.y g_3 (by decide)
                  replace f9 := f9.k g_3.g (ap_some (by omega))
                  replace f59 := f59.y g_3 (by decide)
                  replace k9 := k9.y g_3 (by decide)
                  replace k8 := k8.y g_3 (by decide)
                  replace k7 := k7.y g_3 (by decide)
                  clear f14
                  refine wl_p (fun _ => o_assign rfl) ?_
                  refine wl_nild ?_
                  refine rk_seq ?_
                  refine rk_seq ?_
                  refine rk_region ?_
                  refine wl_r (o_loadag Tryz.isAgg31 Tryz.sizeOf31 rfl f (by rfl)) ?_
                  refine wl_call rfl (C_checkStateOk _ k7.to_RI k8.to_RKs k9.to_RKs rfl rfl rfl (by omega) (by omega) (by omega) (by omega) (by omega)) ?_
                  rintro v88 w88 ⟨rfl, b88⟩
                  have s88 := b88.size
                  replace hw1 := hw1.trans (b88.mono hw1.size)
                  replace hw := hw.trans (b88.mono hw.size)
                  replace k7 := k7.u b88
                  replace k8 := k8.u b88
                  replace k9 := k9.u b88
                  replace f59 := f59.u b88
                  replace f9 := f9.u b88
                  replace m1 := m1.u b88
                  replace m2 := m2.u b88
                  replace m3 := m3.u b88
                  replace f24 := f24.u b88
                  replace f7 := f7.u b88
                  replace k4 := k4.u b88
                  replace k5 := k5.u b88
                  replace k6 := k6.u b88
                  replace f8 := f8.u b88
                  replace k1 := k1.u b88
                  replace k2 := k2.u b88
                  replace k3 := k3.u b88
                  replace r1 := r1.u b88
                  replace r2 := r2.u b88
                  replace f := f.u b88
                  refine wl_p (fun _ => o_ne rfl rfl) ?_
                  refine wl_p (fun _ => o_move rfl) ?_
                  refine wl_p (fun _ => o_move rfl) ?_
                  refine wl_p (fun _ => o_not rfl) ?_
                  refine wl_p (fun _ => o_move rfl) ?_
                  refine wl_off ?_
                  refine wl_off ?_
                  refine wl_off ?_
                  refine wl_off ?_
                  refine wl_p (fun _ => o_pick_f rfl rfl) ?_
                  refine wl_p (fun _ => o_pick_f rfl rfl) ?_
                  refine wl_nil ?_
                  refine rk_false rfl ?_
                  refine rk_skip ?_
                  refine rk_seq ?_
                  refine rk_seq ?_
                  refine rk_draw (id := 20) (none) [0, 0, 0, 6, 8, 16, 33, 64, 128, 128, 511, 2047] [0, 0, 0, 6, 14, 30, 63, 127, 255, 255, 511, 2047] 64 0 [(.r, 0), (.p, 1), (.p, 2), (.p, 3), (.p, 4), (.r, 5), (.l, 6), (.p, 7), (.p, 8), (.p, 9), (.p, 10), (.p, 11)] (by kernel_rfl) (by kernel_rfl) (by kernel_rfl) (by kernel_rfl) (by kernel_rfl) ?_
                  replace hw1 := hw1.drew
                  replace hw := hw.drew
                  replace f := f.d
                  replace r2 := r2.d
                  replace r1 := r1.d
                  replace k3 := k3.d
                  replace k2 := k2.d
                  replace k1 := k1.d
                  replace f8 := f8.d
                  replace k6 := k6.d
                  replace k5 := k5.d
                  replace k4 := k4.d
                  replace f7 := f7.d
                  replace f24 := f24.d
                  replace m3 := m3.d
                  replace m2 := m2.d
                  replace m1 := m1.d
                  replace f9 := f9.d
                  replace f59 := f59.d
                  replace k9 := k9.d
                  replace k8 := k8.d
                  replace k7 := k7.d
                  refine wl_r (o_loadag Tryz.isAgg31 Tryz.sizeOf31 rfl f9 (by rfl)) ?_
                  refine wl_p (fun _ => o_move rfl) ?_
                  refine wl_p (fun _ => o_move rfl) ?_
                  refine wl_p (fun _ => (o_iaddrA (j) Tryz.underlying35 Tryz.sizeOf54 rfl rfl rfl (f59.some_ (by omega)) (by omega))) ?_
                  refine wl_p (fun _ => (o_faddrR rfl Tryz.underlying54 (by rfl) Tryz.sizeOf39 (by rfl) (by rfl))) ?_
                  refine wl_ldOpK rfl (by rfl) f59.to_RO (Below.refl _ _) (by omega) ?_
                  rintro K106 c106 f106 i106
                  refine wl_call rfl (C_getN _ e7 m1.to_RI m2.to_RKs m3.to_RKs f106 rfl rfl rfl rfl (by omega) (by omega) (by omega) (by omega) (by omega)) ?_
                  rintro v107 w107 ⟨A107, ⟨c107, ⟨rfl, ⟨f107, b107⟩⟩⟩⟩
                  simp only [drew_size] at f107
                  simp only [drew_size] at b107
                  have qf107 := f107.cap
                  have s107 := b107.size
                  simp only [drew_size] at s107
                  replace hw1 := hw1.trans (b107.mono hw1.size)
                  replace hw := hw.trans (b107.mono hw.size)
                  replace f106 := f106.u b107
                  replace k7 := k7.u b107
                  replace k8 := k8.u b107
                  replace k9 := k9.u b107
                  replace f59 := f59.u b107
                  replace f9 := f9.u b107
                  replace m1 := m1.u b107
                  replace m2 := m2.u b107
                  replace m3 := m3.u b107
                  replace f24 := f24.u b107
                  replace f7 := f7.u b107
                  replace k4 := k4.u b107
                  replace k5 := k5.u b107
                  replace k6 := k6.u b107
                  replace f8 := f8.u b107
                  replace k1 := k1.u b107
                  replace k2 := k2.u b107
                  replace k3 := k3.u b107
                  replace r1 := r1.u b107
                  replace r2 := r2.u b107
                  replace f := f.u b107
                  refine wl_p (fun _ => o_move rfl) ?_
                  refine wl_p (fun _ => o_ext20 rfl) ?_
                  refine wl_p (fun _ => o_ext21 rfl) ?_
                  refine wl_p (fun _ => o_assign rfl) ?_
                  refine wl_p (fun _ => o_assign rfl) ?_
                  refine wl_nild ?_
                  refine rk_seq ?_
                  refine rk_draw (id := 21) (none) [0, 1, 2, 2, 14, 18, 48, 64, 64, 448, 576, 1088, 2112, 4160, 8192, 24576, 41024, 73792, 131072, 393216, 131072, 131072, 3276800, 4325376, 8519680, 16908288, 34209792, 67240000, 134217792] [0, 1, 3, 3, 15, 31, 63, 127, 127, 511, 1023, 2047, 4095, 8191, 16383, 32767, 65535, 131071, 262143, 524287, 262143, 262143, 3407871, 7602175, 15990783, 32767999, 67108863, 134217727, 268435455] 16 0 [(.p, 0), (.p, 1), (.r, 2), (.r, 3), (.l, 4), (.p, 5), (.p, 6), (.p, 7), (.p, 8), (.p, 9), (.p, 10), (.r, 11), (.p, 12), (.p, 13), (.p, 14), (.p, 15), (.p, 16), (.p, 17), (.p, 18), (.r, 19), (.p, 20), (.p, 21), (.p, 22), (.p, 23), (.r, 24), (.r, 25), (.p, 26), (.p, 27), (.p, 28)] (by kernel_rfl) (by kernel_rfl) (by kernel_rfl) (by kernel_rfl) (by kernel_rfl) ?_
                  replace hw1 := hw1.drew
                  replace hw := hw.drew
                  replace f := f.d
                  replace r2 := r2.d
                  replace r1 := r1.d
                  replace k3 := k3.d
                  replace k2 := k2.d
                  replace k1 := k1.d
                  replace f8 := f8.d
                  replace k6 := k6.d
                  replace k5 := k5.d
                  replace k4 := k4.d
                  replace f7 := f7.d
                  replace f24 := f24.d
                  replace m3 := m3.d
                  replace m2 := m2.d
                  replace m1 := m1.d
                  replace f9 := f9.d
                  replace f59 := f59.d
                  replace k9 := k9.d
                  replace k8 := k8.d
                  replace k7 := k7.d
                  replace f106 := f106.d
                  replace f107 := f107.d
                  refine wl_p (fun _ => o_move rfl) ?_
                  refine wl_p (fun _ => o_move rfl) ?_
                  refine wl_r (o_loadag Tryz.isAgg31 Tryz.sizeOf31 rfl f9 (by rfl)) ?_
                  refine wl_r (o_loadag Tryz.isAgg31 Tryz.sizeOf31 rfl f (by rfl)) ?_
                  refine wl_call rfl (C_kState _ m1.to_RI m2.to_RKs m3.to_RKs k7.to_RI k8.to_RKs k9.to_RKs rfl rfl rfl rfl rfl rfl (by omega) (by omega) (by omega) (by omega) (by omega) (by omega)) ?_
                  rintro v114 w114 ⟨rfl, b114⟩
                  simp only [drew_size] at b114
                  have s114 := b114.size
                  simp only [drew_size] at s114
                  replace hw1 := hw1.trans (b114.mono hw1.size)
                  replace hw := hw.trans (b114.mono hw.size)
                  replace f107 := f107.u b114
                  replace f106 := f106.u b114
                  replace k7 := k7.u b114
                  replace k8 := k8.u b114
                  replace k9 := k9.u b114
                  replace f59 := f59.u b114
                  replace f9 := f9.u b114
                  replace m1 := m1.u b114
                  replace m2 := m2.u b114
                  replace m3 := m3.u b114
                  replace f24 := f24.u b114
                  replace f7 := f7.u b114
                  replace k4 := k4.u b114
                  replace k5 := k5.u b114
                  replace k6 := k6.u b114
                  replace f8 := f8.u b114
                  replace k1 := k1.u b114
                  replace k2 := k2.u b114
                  replace k3 := k3.u b114
                  replace r1 := r1.u b114
                  replace r2 := r2.u b114
                  replace f := f.u b114
                  refine wl_p (fun _ => o_pick_t rfl rfl) ?_
                  refine wl_p (fun _ => o_move rfl) ?_
                  refine wl_know 116 false rfl (decide_eq_false (by omega)) ?_
                  refine wl_off ?_
                  refine wl_off ?_
                  refine wl_off ?_
                  refine wl_off ?_
                  refine wl_off ?_
                  refine wl_off ?_
                  refine wl_off ?_
                  refine wl_off ?_
                  refine wl_off ?_
                  refine wl_off ?_
                  refine wl_off ?_
                  refine wl_off ?_
                  refine wl_off ?_
                  refine wl_off ?_
                  refine wl_off ?_
                  refine wl_off ?_
                  refine wl_off ?_
                  refine wl_off ?_
                  refine wl_off ?_
                  refine wl_off ?_
                  refine wl_off ?_
                  refine wl_p (fun _ => o_pick_f rfl rfl) ?_
                  refine wl_nild ?_
                  refine rk_false rfl ?_
                  refine rk_skip ?_
                  refine rk_region ?_
                  refine wl_r (o_loadag Tryz.isAgg31 Tryz.sizeOf31 rfl f (by rfl)) ?_
                  refine wl_storega Tryz.sizeOf31 rfl rfl (by rfl) (oneCell_of (by rfl)) f9 (by rfl) ?_
                  rintro w_5 f_1 g_4 e_4
                  have s_4 := g_4.size
                  replace hw := hw.trans (below_of_grownBy g_4.g hw.size (by omega))
                  replace f := f.k g_4.g (ap_some (by omega))
                  replace r2 := r2.y g_4 (by decide)
                  replace r1 := r1.y g_4 (by decide)
                  replace k3 := k3.y g_4 (by decide)
                  replace k2 := k2.y g_4 (by decide)
                  replace k1 := k1.y g_4 (by decide)
                  replace f8 := f8.k g_4.g (ap_some (by omega))
                  replace k6 := k6.y g_4 (by decide)
                  replace k5 := k5.y g_4 (by decide)
                  replace k4 := k4.y g_4 (by decide)
                  replace f7 := f7.k g_4.g (ap_some (by omega))
                  replace f24 := f24.y g_4 (by decide)
                  replace m3 := m3.y g_4 (by decide)
                  replace m2 := m2.y g_4 (by decide)
                  replace m1 := m1.y g_4 (by decide)
                  replace f59 := f59.y g_4 (by decide)
                  replace k9 := k9.y g_4 (by decide)
                  replace k8 := k8.y g_4 (by decide)
                  replace k7 := k7.y g_4 (by decide)
                  replace f107 := f107.k g_4.g (ap_some (by omega))
                  clear f9
                  clear f106
                  refine wl_nil ?_
                  refine rk_blk ?_
                  refine rk_region ?_
                  refine wl_p (fun _ => o_move rfl) ?_
                  refine wl_p (fun _ => o_add rfl rfl (by omega) (by omega)) ?_
                  refine wl_p (fun _ => o_assign rfl) ?_
                  refine wl_nil ?_
                  rw [decide_eq_false hST1]
                  exact rk_againf (Fr.le_of (by kernel_rfl) (by kernel_rfl) (by repeat' constructor)) ⟨j + 1, (j : Int) + 1, I', X', Y', Ag, Bg, Cg, cg, dg, eg, rfl, by omega, by omega, rfl, hnx, f59, ⟨f_1, k7, k8, k9⟩, ⟨f24, f7, k4, k5, k6, f8, k1, k2, k3⟩, by omega, hw⟩ (by omega)
            · refine wl_call rfl (C_kOwnState _ m1.to_RI m2.to_RKs m3.to_RKs rfl rfl rfl (by omega) (by omega) (by omega) (by omega)) ?_ (hq := .inr fun _ _ h => grown_of_below h.choose_spec.choose_spec.choose_spec.choose_spec.choose_spec.choose_spec.2.2.2.2 _)
              rintro v74 w74 ⟨A74, ⟨c74, ⟨B74, ⟨d74, ⟨C74, ⟨e74, ⟨rfl, ⟨f74, ⟨f74_1, ⟨f74_2, b74⟩⟩⟩⟩⟩⟩⟩⟩⟩⟩
              simp only [drew_size] at f74
              simp only [drew_size] at f74_1
              simp only [drew_size] at f74_2
              simp only [drew_size] at b74
              have qf74 := f74.cap
              have qf74_1 := f74_1.cap
              have qf74_2 := f74_2.cap
              have s74 := b74.size
              simp only [drew_size] at s74
              replace hw := hw.trans (b74.mono hw.size)
              replace hw1 := hw1.trans (b74.mono hw1.size)
              replace f59 := f59.u b74
              replace f9 := f9.u b74
              replace m1 := m1.u b74
              replace m2 := m2.u b74
              replace m3 := m3.u b74
              replace f24 := f24.u b74
              replace f7 := f7.u b74
              replace k4 := k4.u b74
              replace k5 := k5.u b74
              replace k6 := k6.u b74
              replace f8 := f8.u b74
              replace k1 := k1.u b74
              replace k2 := k2.u b74
              replace k3 := k3.u b74
              replace r1 := r1.u b74
              replace r2 := r2.u b74
              refine wl_fork2j (m := 2047) (L := 100354) (C := 32770) (n := 7) (k1 := 11) (k2 := 15) _ [0, 1, 0, 0, 12, 16, 32, 0, 0, 384, 512, 1090, 2048, 4096, 4096, 0, 49151, 131071] [0, 1, 0, 0, 12, 28, 60, 0, 0, 384, 896, 2047, 4095, 8191, 8191, 0, 49151, 131071] [11, 12, 13, 14, 15, 16, 17] [15, 11, 12, 13, 14, 16, 17] [16, 17] [(.p, 12), (.p, 13), (.p, 14), (.c, 15), (.l, 16), (.p, 17)] [(.l, 11), (.p, 12), (.p, 13), (.p, 14), (.l, 16), (.p, 17)] [(.l, 16), (.p, 17)] (by kernel_rfl) (by kernel_rfl) (by kernel_rfl) (by kernel_rfl) (by kernel_rfl) hj (fun hj => ?_) (fun hj => ?_) <;> dsimp only [inOrder, nthOp]
              · refine wl_call rfl (C_opsStepN _ e6 f74.to_RI f74_1.to_RKs f74_2.to_RKs r1.to_Rd r2.to_Rd rfl rfl rfl rfl rfl (by omega) (by omega) (by omega) (by omega) (by omega) (by omega)) ?_
                rintro v84 w84 ⟨A84, ⟨c84, ⟨B84, ⟨d84, ⟨C84, ⟨e84, ⟨rfl, ⟨f84, ⟨f84_1, ⟨f84_2, b84⟩⟩⟩⟩⟩⟩⟩⟩⟩⟩
                have qf84 := f84.cap
                have qf84_1 := f84_1.cap
                have qf84_2 := f84_2.cap
                have s84 := b84.size
                replace hw := hw.trans (b84.mono hw.size)
                replace hw1 := hw1.trans (b84.mono hw1.size)
                replace r2 := r2.u b84
                replace r1 := r1.u b84
                replace k3 := k3.u b84
                replace k2 := k2.u b84
                replace k1 := k1.u b84
                replace f8 := f8.u b84
                replace k6 := k6.u b84
                replace k5 := k5.u b84
                replace k4 := k4.u b84
                replace f7 := f7.u b84
                replace f24 := f24.u b84
                replace m3 := m3.u b84
                replace m2 := m2.u b84
                replace m1 := m1.u b84
                replace f9 := f9.u b84
                replace f59 := f59.u b84
                replace f74_2 := f74_2.u b84
                replace f74_1 := f74_1.u b84
                replace f74 := f74.u b84
                refine wl_p (fun _ => o_move rfl) ?_
                refine wl_p (fun _ => o_ext20 rfl) ?_
                refine wl_p (fun _ => o_ext21 rfl) ?_
                refine wl_allocg [_, _, _] Tryz.zeroValue31 (by rfl) ?_
                rintro g14 w14 f14 b14 i14 i14_1
                have s14 := b14.size
                replace hw := hw.trans (b14.mono hw.size)
                replace hw1 := hw1.trans (b14.mono hw1.size)
                replace f74 := f74.u b14
                replace f74_1 := f74_1.u b14
                replace f74_2 := f74_2.u b14
                replace f59 := f59.u b14
                replace f9 := f9.u b14
                replace m1 := m1.u b14
                replace m2 := m2.u b14
                replace m3 := m3.u b14
                replace f24 := f24.u b14
                replace f7 := f7.u b14
                replace k4 := k4.u b14
                replace k5 := k5.u b14
                replace k6 := k6.u b14
                replace f8 := f8.u b14
                replace k1 := k1.u b14
                replace k2 := k2.u b14
                replace k3 := k3.u b14
                replace r1 := r1.u b14
                replace r2 := r2.u b14
                replace f84_2 := f84_2.u b14
                replace f84_1 := f84_1.u b14
                replace f84 := f84.u b14
                exact wl_tof hj (Fr.le_of (by kernel_rfl) (by kernel_rfl) (by repeat' constructor)) ⟨g14, _, _, _, _, _, _, rfl, f14, by omega, f84.to_RIT, f84_1.to_RKT, f84_2.to_RKT, hw1⟩
              · refine wl_allocg [_, _, _] Tryz.zeroValue31 (by rfl) ?_
                rintro g14 w14 f14 b14 i14 i14_1
                have s14 := b14.size
                replace hw := hw.trans (b14.mono hw.size)
                replace hw1 := hw1.trans (b14.mono hw1.size)
                replace r2 := r2.u b14
                replace r1 := r1.u b14
                replace k3 := k3.u b14
                replace k2 := k2.u b14
                replace k1 := k1.u b14
                replace f8 := f8.u b14
                replace k6 := k6.u b14
                replace k5 := k5.u b14
                replace k4 := k4.u b14
                replace f7 := f7.u b14
                replace f24 := f24.u b14
                replace m3 := m3.u b14
                replace m2 := m2.u b14
                replace m1 := m1.u b14
                replace f9 := f9.u b14
                replace f59 := f59.u b14
                replace f74_2 := f74_2.u b14
                replace f74_1 := f74_1.u b14
                replace f74 := f74.u b14
                refine wl_call rfl (C_opsStepN _ e6 f74.to_RI f74_1.to_RKs f74_2.to_RKs r1.to_Rd r2.to_Rd rfl rfl rfl rfl rfl (by omega) (by omega) (by omega) (by omega) (by omega) (by omega)) ?_
                rintro v84 w84 ⟨A84, ⟨c84, ⟨B84, ⟨d84, ⟨C84, ⟨e84, ⟨rfl, ⟨f84, ⟨f84_1, ⟨f84_2, b84⟩⟩⟩⟩⟩⟩⟩⟩⟩⟩
                have qf84 := f84.cap
                have qf84_1 := f84_1.cap
                have qf84_2 := f84_2.cap
                have s84 := b84.size
                replace hw := hw.trans (b84.mono hw.size)
                replace hw1 := hw1.trans (b84.mono hw1.size)
                replace f74 := f74.u b84
                replace f74_1 := f74_1.u b84
                replace f74_2 := f74_2.u b84
                replace f59 := f59.u b84
                replace f9 := f9.u b84
                replace m1 := m1.u b84
                replace m2 := m2.u b84
                replace m3 := m3.u b84
                replace f24 := f24.u b84
                replace f7 := f7.u b84
                replace k4 := k4.u b84
                replace k5 := k5.u b84
                replace k6 := k6.u b84
                replace f8 := f8.u b84
                replace k1 := k1.u b84
                replace k2 := k2.u b84
                replace k3 := k3.u b84
                replace r1 := r1.u b84
                replace r2 := r2.u b84
                replace f14 := f14.u b84
                refine wl_p (fun _ => o_move rfl) ?_
                refine wl_p (fun _ => o_ext20 rfl) ?_
                refine wl_p (fun _ => o_ext21 rfl) ?_
                exact wl_tof hj (Fr.le_of (by kernel_rfl) (by kernel_rfl) (by repeat' constructor)) ⟨g14, _, _, _, _, _, _, rfl, f14, by omega, f84.to_RIT, f84_1.to_RKT, f84_2.to_RKT, hw1⟩
            · refine wl_allocg [_, _, _] Tryz.zeroValue31 (by rfl) ?_
              rintro g14 w14 f14 b14 i14 i14_1
              simp only [drew_size] at b14
              simp only [drew_size] at i14
              have s14 := b14.size
              simp only [drew_size] at s14
              replace hw := hw.trans (b14.mono hw.size)
              replace hw1 := hw1.trans (b14.mono hw1.size)
              replace f59 := f59.u b14
              replace f9 := f9.u b14
              replace m1 := m1.u b14
              replace m2 := m2.u b14
              replace m3 := m3.u b14
              replace f24 := f24.u b14
              replace f7 := f7.u b14
              replace k4 := k4.u b14
              replace k5 := k5.u b14
              replace k6 := k6.u b14
              replace f8 := f8.u b14
              replace k1 := k1.u b14
              replace k2 := k2.u b14
              replace k3 := k3.u b14
              replace r1 := r1.u b14
              replace r2 := r2.u b14
              refine wl_call rfl (C_kOwnState _ m1.to_RI m2.to_RKs m3.to_RKs rfl rfl rfl (by omega) (by omega) (by omega) (by omega)) ?_ (hq := .inr fun _ _ h => grown_of_below h.choose_spec.choose_spec.choose_spec.choose_spec.choose_spec.choose_spec.2.2.2.2 _)
              rintro v74 w74 ⟨A74, ⟨c74, ⟨B74, ⟨d74, ⟨C74, ⟨e74, ⟨rfl, ⟨f74, ⟨f74_1, ⟨f74_2, b74⟩⟩⟩⟩⟩⟩⟩⟩⟩⟩
              have qf74 := f74.cap
              have qf74_1 := f74_1.cap
              have qf74_2 := f74_2.cap
              have s74 := b74.size
              replace hw := hw.trans (b74.mono hw.size)
              replace hw1 := hw1.trans (b74.mono hw1.size)
              replace r2 := r2.u b74
              replace r1 := r1.u b74
              replace k3 := k3.u b74
              replace k2 := k2.u b74
              replace k1 := k1.u b74
              replace f8 := f8.u b74
              replace k6 := k6.u b74
              replace k5 := k5.u b74
              replace k4 := k4.u b74
              replace f7 := f7.u b74
              replace f24 := f24.u b74
              replace m3 := m3.u b74
              replace m2 := m2.u b74
              replace m1 := m1.u b74
              replace f9 := f9.u b74
              replace f59 := f59.u b74
              replace f14 := f14.u b74
              refine wl_call rfl (C_opsStepN _ e6 f74.to_RI f74_1.to_RKs f74_2.to_RKs r1.to_Rd r2.to_Rd rfl rfl rfl rfl rfl (by omega) (by omega) (by omega) (by omega) (by omega) (by omega)) ?_
              rintro v84 w84 ⟨A84, ⟨c84, ⟨B84, ⟨d84, ⟨C84, ⟨e84, ⟨rfl, ⟨f84, ⟨f84_1, ⟨f84_2, b84⟩⟩⟩⟩⟩⟩⟩⟩⟩⟩
              have qf84 := f84.cap
              have qf84_1 := f84_1.cap
              have qf84_2 := f84_2.cap
              have s84 := b84.size
              replace hw := hw.trans (b84.mono hw.size)
              replace hw1 := hw1.trans (b84.mono hw1.size)
              replace f14 := f14.u b84
              replace f59 := f59.u b84
              replace f9 := f9.u b84
              replace m1 := m1.u b84
              replace m2 := m2.u b84
              replace m3 := m3.u b84
              replace f24 := f24.u b84
              replace f7 := f7.u b84
              replace k4 := k4.u b84
              replace k5 := k5.u b84
              replace k6 := k6.u b84
              replace f8 := f8.u b84
              replace k1 := k1.u b84
              replace k2 := k2.u b84
              replace k3 := k3.u b84
              replace r1 := r1.u b84
              replace r2 := r2.u b84
              replace f74_2 := f74_2.u b84
              replace f74_1 := f74_1.u b84
              replace f74 := f74.u b84
              refine wl_p (fun _ => o_move rfl) ?_
              refine wl_p (fun _ => o_ext20 rfl) ?_
              refine wl_p (fun _ => o_ext21 rfl) ?_
              exact wl_tof hj (Fr.le_of (by kernel_rfl) (by kernel_rfl) (by repeat' constructor)) ⟨g14, _, _, _, _, _, _, rfl, f14, by omega, f84.to_RIT, f84_1.to_RKT, f84_2.to_RKT, hw1⟩
          · refine rk_seq ?_
            refine rk_seq ?_
            refine rk_region ?_
            refine wl_p (fun _ => o_move rfl) ?_
            refine wl_p (fun _ => o_move rfl) ?_
            refine wl_p (fun _ => o_len (t := 35) Tryz.underlying35 rfl) ?_
            refine wl_p (fun _ => o_lt rfl rfl) ?_
            refine wl_p (fun _ => o_move rfl) ?_
            refine wl_know 66 false rfl (decide_eq_false (by omega)) ?_
            refine wl_off ?_
            refine wl_off ?_
            refine wl_p (fun _ => o_pick_f rfl rfl) ?_
            refine wl_nil ?_
            refine rk_false rfl ?_
            refine rk_exit rfl ?_
            obtain rfl : j = U.length := by omega
            rw [List.take_length] at hIj
            exact rk_tof hj (Fr.le_of (by kernel_rfl) (by kernel_rfl) (by repeat' constructor)) ⟨_, _, _, _, _, _, _, _, _, rfl, hIj, ⟨f9, m1, m2, m3⟩, ⟨f24, f7, k4, k5, k6, f8, k1, k2, k3⟩, by omega, hw⟩
        clear hw f9 m1 m2 m3 f24 f7 k4 k5 k6 f8 k1 k2 k3 f59 f57 f58
        rintro fr W2 ⟨Ij, Xj, Yj, Aj, Bj, Cj, cj, dj, ej, rfl, hIj, ⟨f9, m1, m2, m3⟩, ⟨f24, f7, k4, k5, k6, f8, k1, k2, k3⟩, hszj, hw⟩
        have shj := hw.size
        first | refine rk_frame (by simp only [List.cons_append, List.nil_append, List.drop_succ_cons, List.drop_zero]; rfl) ?_ | refine wl_frame (by simp only [List.cons_append, List.nil_append, List.drop_succ_cons, List.drop_zero]; rfl) ?_
        refine rk_blk ?_
        refine rk_region ?_
        refine wl_p (fun _ => o_move rfl) ?_
        refine wl_p (fun _ => o_add rfl rfl (by omega) (by omega)) ?_
        refine wl_p (fun _ => o_assign rfl) ?_
        refine wl_nil ?_
        exact rk_againf (Fr.le_of (by kernel_rfl) (by kernel_rfl) (by repeat' constructor)) ⟨i + 1, (i : Int) + 1, Ij, Xj, Yj, _, _, _, _, _, _, rfl, by omega, by omega, rfl, by rw [List.take_succ_eq_append_getElem hil, foldS_snoc, hIX, blockS, hU, hIj], ⟨f9, m1, m2, m3⟩, ⟨f24, f7, k4, k5, k6, f8, k1, k2, k3⟩, by omega, hw⟩ (by omega)
      · refine rk_exit rfl ?_
        obtain rfl : i = L.length := by omega
        rw [List.take_length, hT] at hIX
        injection hIX with x1 hIX
        injection hIX with x2 x3
        subst x1; subst x2; subst x3
        exact rk_tof hj (Fr.le_of (by kernel_rfl) (by kernel_rfl) (by repeat' constructor)) ⟨_, _, _, _, _, _, rfl, ⟨f9, m1, m2, m3⟩, ⟨f24, f7, k4, k5, k6, f8, k1, k2, k3⟩, hszW, hw⟩
    clear hw hw1 f f_1 f_2 f24 f45 f45_1 k1 k2 k3 k4 k5 k6 f33 f33_1 f33_2
    rintro fr W ⟨Aa, Ba, Ca, ca, da, ea, rfl, ⟨f9, m1, m2, m3⟩, ⟨f24, f7, k4, k5, k6, f8, k1, k2, k3⟩, hszW, hw⟩
    have shw := hw.size
    first | refine rk_frame (by simp only [List.cons_append, List.nil_append, List.drop_succ_cons, List.drop_zero]; rfl) ?_ | refine wl_frame (by simp only [List.cons_append, List.nil_append, List.drop_succ_cons, List.drop_zero]; rfl) ?_
    refine rk_seq ?_
    refine rk_region ?_
    refine wl_r (o_loadag Tryz.isAgg31 Tryz.sizeOf31 rfl f7 (by rfl)) ?_
    refine wl_r (o_loadag Tryz.isAgg31 Tryz.sizeOf31 rfl f8 (by rfl)) ?_
    refine wl_call rfl (C_kState _ k4.to_RI k5.to_RKs k6.to_RKs k1.to_RI k2.to_RKs k3.to_RKs rfl rfl rfl rfl rfl rfl (by omega) (by omega) (by omega) (by omega) (by omega) (by omega)) ?_
    rintro v142 w142 ⟨rfl, b142⟩
    have s142 := b142.size
    replace hw := hw.trans (b142.mono hw.size)
    replace k3 := k3.u b142
    replace k2 := k2.u b142
    replace k1 := k1.u b142
    replace f8 := f8.u b142
    replace k6 := k6.u b142
    replace k5 := k5.u b142
    replace k4 := k4.u b142
    replace f7 := f7.u b142
    replace f24 := f24.u b142
    replace m3 := m3.u b142
    replace m2 := m2.u b142
    replace m1 := m1.u b142
    replace f9 := f9.u b142
    refine wl_p (fun _ => o_move rfl) ?_
    refine wl_know 143 true rfl (by simp) ?_
    refine wl_r (o_loadag Tryz.isAgg31 Tryz.sizeOf31 rfl f7 (by rfl)) ?_
    refine wl_r (o_loadag Tryz.isAgg31 Tryz.sizeOf31 rfl f9 (by rfl)) ?_
    refine wl_call rfl (C_kState _ k4.to_RI k5.to_RKs k6.to_RKs m1.to_RI m2.to_RKs m3.to_RKs rfl rfl rfl rfl rfl rfl (by omega) (by omega) (by omega) (by omega) (by omega) (by omega)) ?_
    rintro v146 w146 ⟨rfl, b146⟩
    have s146 := b146.size
    replace hw := hw.trans (b146.mono hw.size)
    replace f9 := f9.u b146
    replace m1 := m1.u b146
    replace m2 := m2.u b146
    replace m3 := m3.u b146
    replace f24 := f24.u b146
    replace f7 := f7.u b146
    replace k4 := k4.u b146
    replace k5 := k5.u b146
    replace k6 := k6.u b146
    replace f8 := f8.u b146
    replace k1 := k1.u b146
    replace k2 := k2.u b146
    replace k3 := k3.u b146
    refine wl_p (fun _ => o_pick_t rfl rfl) ?_
    refine wl_p (fun _ => o_move rfl) ?_
    refine wl_know 148 true rfl (by simp) ?_
    refine wl_r (o_loadag Tryz.isAgg31 Tryz.sizeOf31 rfl f7 (by rfl)) ?_
    refine wl_call rfl (C_checkStateOk _ k4.to_RI k5.to_RKs k6.to_RKs rfl rfl rfl (by omega) (by omega) (by omega) (by omega) (by omega)) ?_
    rintro v150 w150 ⟨rfl, b150⟩
    have s150 := b150.size
    replace hw := hw.trans (b150.mono hw.size)
    replace k3 := k3.u b150
    replace k2 := k2.u b150
    replace k1 := k1.u b150
    replace f8 := f8.u b150
    replace k6 := k6.u b150
    replace k5 := k5.u b150
    replace k4 := k4.u b150
    replace f7 := f7.u b150
    replace f24 := f24.u b150
    replace m3 := m3.u b150
    replace m2 := m2.u b150
    replace m1 := m1.u b150
    replace f9 := f9.u b150
    refine wl_p (fun _ => o_eq rfl rfl) ?_
    refine wl_p (fun _ => o_pick_t rfl rfl) ?_
    refine wl_p (fun _ => o_assign rfl) ?_
    refine wl_nil ?_
    refine ret1 rfl rfl ?_
    exact ⟨rfl, hw⟩
  · refine wl_call rfl (C_alone _) ?_
    rintro v34 w34 ⟨B34, ⟨C34, ⟨rfl, ⟨f34, ⟨f34_1, b34⟩⟩⟩⟩⟩
    simp only [drew_size] at b34
    have s34 := b34.size
    simp only [drew_size] at s34
    replace hw := hw.trans (b34.mono hw.size)
    replace hw1 := hw1.trans (b34.mono hw1.size)
    replace f24d := f24d.u b34
    replace f24t := f24t.u b34
    replace f := f.u b34
    replace f33 := f33.u b34
    replace f33_1 := f33_1.u b34
    replace f33_2 := f33_2.u b34
    refine wl_fork2j (m := 463) (L := 7729) (C := 0) (n := 6) (k1 := 4) (k2 := 11) _ [0, 0, 0, 6, 9, 17, 0, 0, 192, 288, 544, 0, 4095] [0, 0, 0, 6, 15, 31, 0, 0, 192, 511, 1023, 0, 4095] [4] [11, 4, 5, 9, 10, 12] [12] [(.f 479 7729 0, 5)] [(.l, 4), (.l, 5), (.l, 9), (.l, 10), (.l, 12)] [(.l, 12)] (by kernel_rfl) (by kernel_rfl) (by kernel_rfl) (by kernel_rfl) (by kernel_rfl) hj (fun hj => ?_) (fun hj => ?_) <;> dsimp only [inOrder, nthOp]
    · refine wl_call rfl (C_kOwnBlocks _ f24t.to_RBk (by omega) (by omega) (by omega)) ?_
      rintro v38 w38 ⟨A38, ⟨c38, ⟨rfl, ⟨f38, b38⟩⟩⟩⟩
      have qf38 := f38.cap
      have s38 := b38.size
      replace hw := hw.trans (b38.mono hw.size)
      replace hw1 := hw1.trans (b38.mono hw1.size)
      replace f33_2 := f33_2.u b38
      replace f33_1 := f33_1.u b38
      replace f33 := f33.u b38
      replace f := f.u b38
      replace f24t := f24t.u b38
      replace f24d := f24d.u b38
      replace f34_1 := f34_1.u b38
      replace f34 := f34.u b38
      refine wl_fork2j (m := 479) (L := 7729) (C := 0) (n := 5) (k1 := 5) (k2 := 11) _ [0, 0, 0, 6, 9, 17, 0, 0, 192, 288, 544, 0, 4095] [0, 0, 0, 6, 15, 31, 0, 0, 192, 511, 1023, 0, 4095] [5] [11, 5, 9, 10, 12] [12] [(.f 511 7729 0, 4)] [(.l, 5), (.l, 9), (.l, 10), (.l, 12)] [(.l, 12)] (by kernel_rfl) (by kernel_rfl) (by kernel_rfl) (by kernel_rfl) (by kernel_rfl) hj (fun hj => ?_) (fun hj => ?_) <;> dsimp only [inOrder, nthOp]
      · refine wl_call rfl (C_foldN _ (RI.nil_) f34.to_RKs f34_1.to_RKs f38.to_RBk e2 (by rfl) (by rfl) (by rfl) rfl (by simp) (by simp) (by simp) (by simp [LtI]) (by omega) (by omega) (by omega)) ?_
        rintro v39 w39 ⟨A39, ⟨c39, ⟨B39, ⟨d39, ⟨C39, ⟨e39, ⟨rfl, ⟨f39, ⟨f39_1, ⟨f39_2, b39⟩⟩⟩⟩⟩⟩⟩⟩⟩⟩
        have qf39 := f39.cap
        have qf39_1 := f39_1.cap
        have qf39_2 := f39_2.cap
        have s39 := b39.size
        replace hw := hw.trans (b39.mono hw.size)
        replace hw1 := hw1.trans (b39.mono hw1.size)
        replace f34 := f34.u b39
        replace f34_1 := f34_1.u b39
        replace f24d := f24d.u b39
        replace f24t := f24t.u b39
        replace f := f.u b39
        replace f33 := f33.u b39
        replace f33_1 := f33_1.u b39
        replace f33_2 := f33_2.u b39
        replace f38 := f38.u b39
        refine wl_fork2j (m := 511) (L := 7729) (C := 0) (n := 4) (k1 := 9) (k2 := 11) _ [0, 0, 0, 6, 9, 17, 0, 0, 192, 288, 544, 0, 4095] [0, 0, 0, 6, 15, 31, 0, 0, 192, 511, 1023, 0, 4095] [9] [11, 9, 10, 12] [12] [(.f 1023 7729 0, 3)] [(.l, 9), (.l, 10), (.l, 12)] [(.l, 12)] (by kernel_rfl) (by kernel_rfl) (by kernel_rfl) (by kernel_rfl) (by kernel_rfl) hj (fun hj => ?_) (fun hj => ?_) <;> dsimp only [inOrder, nthOp]
        · refine wl_call rfl (C_kOwnBlocks _ f24d.to_RBk (by omega) (by omega) (by omega)) ?_
          rintro v43 w43 ⟨A43, ⟨c43, ⟨rfl, ⟨f43, b43⟩⟩⟩⟩
          have qf43 := f43.cap
          have s43 := b43.size
          replace hw := hw.trans (b43.mono hw.size)
          replace hw1 := hw1.trans (b43.mono hw1.size)
          replace f38 := f38.u b43
          replace f33_2 := f33_2.u b43
          replace f33_1 := f33_1.u b43
          replace f33 := f33.u b43
          replace f := f.u b43
          replace f24t := f24t.u b43
          replace f24d := f24d.u b43
          replace f34_1 := f34_1.u b43
          replace f34 := f34.u b43
          replace f39_2 := f39_2.u b43
          replace f39_1 := f39_1.u b43
          replace f39 := f39.u b43
          refine wl_fork2j (m := 1023) (L := 7729) (C := 0) (n := 3) (k1 := 10) (k2 := 11) _ [0, 0, 0, 6, 9, 17, 0, 0, 192, 288, 544, 0, 4095] [0, 0, 0, 6, 15, 31, 0, 0, 192, 511, 1023, 0, 4095] [10, 11, 12] [11, 10, 12] [12] [(.l, 11), (.l, 12)] [(.l, 10), (.l, 12)] [(.l, 12)] (by kernel_rfl) (by kernel_rfl) (by kernel_rfl) (by kernel_rfl) (by kernel_rfl) hj (fun hj => ?_) (fun hj => ?_) <;> dsimp only [inOrder, nthOp]
          · refine wl_call rfl (C_foldN _ f39.to_RI f39_1.to_RKs f39_2.to_RKs f43.to_RBk e3 rfl rfl rfl rfl (by omega) (by omega) (by omega) (by omega) (by omega) (by omega) (by omega)) ?_
            rintro v44 w44 ⟨A44, ⟨c44, ⟨B44, ⟨d44, ⟨C44, ⟨e44, ⟨rfl, ⟨f44, ⟨f44_1, ⟨f44_2, b44⟩⟩⟩⟩⟩⟩⟩⟩⟩⟩
            have qf44 := f44.cap
            have qf44_1 := f44_1.cap
            have qf44_2 := f44_2.cap
            have s44 := b44.size
            replace hw := hw.trans (b44.mono hw.size)
            replace hw1 := hw1.trans (b44.mono hw1.size)
            replace f39 := f39.u b44
            replace f39_1 := f39_1.u b44
            replace f39_2 := f39_2.u b44
            replace f34 := f34.u b44
            replace f34_1 := f34_1.u b44
            replace f24d := f24d.u b44
            replace f24t := f24t.u b44
            replace f := f.u b44
            replace f33 := f33.u b44
            replace f33_1 := f33_1.u b44
            replace f33_2 := f33_2.u b44
            replace f38 := f38.u b44
            replace f43 := f43.u b44
            refine wl_allocg [_, _, _] Tryz.zeroValue31 (by rfl) ?_
            rintro g8 w8 f8 b8 i8 i8_1
            have s8 := b8.size
            replace hw := hw.trans (b8.mono hw.size)
            replace hw1 := hw1.trans (b8.mono hw1.size)
            replace f43 := f43.u b8
            replace f38 := f38.u b8
            replace f33_2 := f33_2.u b8
            replace f33_1 := f33_1.u b8
            replace f33 := f33.u b8
            replace f := f.u b8
            replace f24t := f24t.u b8
            replace f24d := f24d.u b8
            replace f34_1 := f34_1.u b8
            replace f34 := f34.u b8
            replace f39_2 := f39_2.u b8
            replace f39_1 := f39_1.u b8
            replace f39 := f39.u b8
            replace f44_2 := f44_2.u b8
            replace f44_1 := f44_1.u b8
            replace f44 := f44.u b8
            exact wl_tof hj (Fr.le_of (by kernel_rfl) (by kernel_rfl) (by repeat' constructor)) ⟨g8, _, _, _, _, _, _, rfl, f8, by omega, f44.to_RIT, f44_1.to_RKT, f44_2.to_RKT, hw1⟩
          · refine wl_allocg [_, _, _] Tryz.zeroValue31 (by rfl) ?_
            rintro g8 w8 f8 b8 i8 i8_1
            have s8 := b8.size
            replace hw := hw.trans (b8.mono hw.size)
            replace hw1 := hw1.trans (b8.mono hw1.size)
            replace f39 := f39.u b8
            replace f39_1 := f39_1.u b8
            replace f39_2 := f39_2.u b8
            replace f34 := f34.u b8
            replace f34_1 := f34_1.u b8
            replace f24d := f24d.u b8
            replace f24t := f24t.u b8
            replace f := f.u b8
            replace f33 := f33.u b8
            replace f33_1 := f33_1.u b8
            replace f33_2 := f33_2.u b8
            replace f38 := f38.u b8
            replace f43 := f43.u b8
            refine wl_call rfl (C_foldN _ f39.to_RI f39_1.to_RKs f39_2.to_RKs f43.to_RBk e3 rfl rfl rfl rfl (by omega) (by omega) (by omega) (by omega) (by omega) (by omega) (by omega)) ?_
            rintro v44 w44 ⟨A44, ⟨c44, ⟨B44, ⟨d44, ⟨C44, ⟨e44, ⟨rfl, ⟨f44, ⟨f44_1, ⟨f44_2, b44⟩⟩⟩⟩⟩⟩⟩⟩⟩⟩
            have qf44 := f44.cap
            have qf44_1 := f44_1.cap
            have qf44_2 := f44_2.cap
            have s44 := b44.size
            replace hw := hw.trans (b44.mono hw.size)
            replace hw1 := hw1.trans (b44.mono hw1.size)
            replace f43 := f43.u b44
            replace f38 := f38.u b44
            replace f33_2 := f33_2.u b44
            replace f33_1 := f33_1.u b44
            replace f33 := f33.u b44
            replace f := f.u b44
            replace f24t := f24t.u b44
            replace f24d := f24d.u b44
            replace f34_1 := f34_1.u b44
            replace f34 := f34.u b44
            replace f39_2 := f39_2.u b44
            replace f39_1 := f39_1.u b44
            replace f39 := f39.u b44
            replace f8 := f8.u b44
            exact wl_tof hj (Fr.le_of (by kernel_rfl) (by kernel_rfl) (by repeat' constructor)) ⟨g8, _, _, _, _, _, _, rfl, f8, by omega, f44.to_RIT, f44_1.to_RKT, f44_2.to_RKT, hw1⟩
        · refine wl_allocg [_, _, _] Tryz.zeroValue31 (by rfl) ?_
          rintro g8 w8 f8 b8 i8 i8_1
          have s8 := b8.size
          replace hw := hw.trans (b8.mono hw.size)
          replace hw1 := hw1.trans (b8.mono hw1.size)
          replace f38 := f38.u b8
          replace f33_2 := f33_2.u b8
          replace f33_1 := f33_1.u b8
          replace f33 := f33.u b8
          replace f := f.u b8
          replace f24t := f24t.u b8
          replace f24d := f24d.u b8
          replace f34_1 := f34_1.u b8
          replace f34 := f34.u b8
          replace f39_2 := f39_2.u b8
          replace f39_1 := f39_1.u b8
          replace f39 := f39.u b8
          refine wl_call rfl (C_kOwnBlocks _ f24d.to_RBk (by omega) (by omega) (by omega)) ?_
          rintro v43 w43 ⟨A43, ⟨c43, ⟨rfl, ⟨f43, b43⟩⟩⟩⟩
          have qf43 := f43.cap
          have s43 := b43.size
          replace hw := hw.trans (b43.mono hw.size)
          replace hw1 := hw1.trans (b43.mono hw1.size)
          replace f39 := f39.u b43
          replace f39_1 := f39_1.u b43
          replace f39_2 := f39_2.u b43
          replace f34 := f34.u b43
          replace f34_1 := f34_1.u b43
          replace f24d := f24d.u b43
          replace f24t := f24t.u b43
          replace f := f.u b43
          replace f33 := f33.u b43
          replace f33_1 := f33_1.u b43
          replace f33_2 := f33_2.u b43
          replace f38 := f38.u b43
          replace f8 := f8.u b43
          refine wl_call rfl (C_foldN _ f39.to_RI f39_1.to_RKs f39_2.to_RKs f43.to_RBk e3 rfl rfl rfl rfl (by omega) (by omega) (by omega) (by omega) (by omega) (by omega) (by omega)) ?_
          rintro v44 w44 ⟨A44, ⟨c44, ⟨B44, ⟨d44, ⟨C44, ⟨e44, ⟨rfl, ⟨f44, ⟨f44_1, ⟨f44_2, b44⟩⟩⟩⟩⟩⟩⟩⟩⟩⟩
          have qf44 := f44.cap
          have qf44_1 := f44_1.cap
          have qf44_2 := f44_2.cap
          have s44 := b44.size
          replace hw := hw.trans (b44.mono hw.size)
          replace hw1 := hw1.trans (b44.mono hw1.size)
          replace f8 := f8.u b44
          replace f38 := f38.u b44
          replace f33_2 := f33_2.u b44
          replace f33_1 := f33_1.u b44
          replace f33 := f33.u b44
          replace f := f.u b44
          replace f24t := f24t.u b44
          replace f24d := f24d.u b44
          replace f34_1 := f34_1.u b44
          replace f34 := f34.u b44
          replace f39_2 := f39_2.u b44
          replace f39_1 := f39_1.u b44
          replace f39 := f39.u b44
          replace f43 := f43.u b44
          exact wl_tof hj (Fr.le_of (by kernel_rfl) (by kernel_rfl) (by repeat' constructor)) ⟨g8, _, _, _, _, _, _, rfl, f8, by omega, f44.to_RIT, f44_1.to_RKT, f44_2.to_RKT, hw1⟩
      · refine wl_allocg [_, _, _] Tryz.zeroValue31 (by rfl) ?_
        rintro g8 w8 f8 b8 i8 i8_1
        have s8 := b8.size
        replace hw := hw.trans (b8.mono hw.size)
        replace hw1 := hw1.trans (b8.mono hw1.size)
        replace f34 := f34.u b8
        replace f34_1 := f34_1.u b8
        replace f24d := f24d.u b8
        replace f24t := f24t.u b8
        replace f := f.u b8
        replace f33 := f33.u b8
        replace f33_1 := f33_1.u b8
        replace f33_2 := f33_2.u b8
        replace f38 := f38.u b8
        refine wl_call rfl (C_foldN _ (RI.nil_) f34.to_RKs f34_1.to_RKs f38.to_RBk e2 (by rfl) (by rfl) (by rfl) rfl (by simp) (by simp) (by simp) (by simp [LtI]) (by omega) (by omega) (by omega)) ?_
        rintro v39 w39 ⟨A39, ⟨c39, ⟨B39, ⟨d39, ⟨C39, ⟨e39, ⟨rfl, ⟨f39, ⟨f39_1, ⟨f39_2, b39⟩⟩⟩⟩⟩⟩⟩⟩⟩⟩
        have qf39 := f39.cap
        have qf39_1 := f39_1.cap
        have qf39_2 := f39_2.cap
        have s39 := b39.size
        replace hw := hw.trans (b39.mono hw.size)
        replace hw1 := hw1.trans (b39.mono hw1.size)
        replace f38 := f38.u b39
        replace f33_2 := f33_2.u b39
        replace f33_1 := f33_1.u b39
        replace f33 := f33.u b39
        replace f := f.u b39
        replace f24t := f24t.u b39
        replace f24d := f24d.u b39
        replace f34_1 := f34_1.u b39
        replace f34 := f34.u b39
        replace f8 := f8.u b39
        refine wl_call rfl (C_kOwnBlocks _ f24d.to_RBk (by omega) (by omega) (by omega)) ?_
        rintro v43 w43 ⟨A43, ⟨c43, ⟨rfl, ⟨f43, b43⟩⟩⟩⟩
        have qf43 := f43.cap
        have s43 := b43.size
        replace hw := hw.trans (b43.mono hw.size)
        replace hw1 := hw1.trans (b43.mono hw1.size)
        replace f8 := f8.u b43
        replace f34 := f34.u b43
        replace f34_1 := f34_1.u b43
        replace f24d := f24d.u b43
        replace f24t := f24t.u b43
        replace f := f.u b43
        replace f33 := f33.u b43
        replace f33_1 := f33_1.u b43
        replace f33_2 := f33_2.u b43
        replace f38 := f38.u b43
        replace f39_2 := f39_2.u b43
        replace f39_1 := f39_1.u b43
        replace f39 := f39.u b43
        refine wl_call rfl (C_foldN _ f39.to_RI f39_1.to_RKs f39_2.to_RKs f43.to_RBk e3 rfl rfl rfl rfl (by omega) (by omega) (by omega) (by omega) (by omega) (by omega) (by omega)) ?_
        rintro v44 w44 ⟨A44, ⟨c44, ⟨B44, ⟨d44, ⟨C44, ⟨e44, ⟨rfl, ⟨f44, ⟨f44_1, ⟨f44_2, b44⟩⟩⟩⟩⟩⟩⟩⟩⟩⟩
        have qf44 := f44.cap
        have qf44_1 := f44_1.cap
        have qf44_2 := f44_2.cap
        have s44 := b44.size
        replace hw := hw.trans (b44.mono hw.size)
        replace hw1 := hw1.trans (b44.mono hw1.size)
        replace f39 := f39.u b44
        replace f39_1 := f39_1.u b44
        replace f39_2 := f39_2.u b44
        replace f38 := f38.u b44
        replace f33_2 := f33_2.u b44
        replace f33_1 := f33_1.u b44
        replace f33 := f33.u b44
        replace f := f.u b44
        replace f24t := f24t.u b44
        replace f24d := f24d.u b44
        replace f34_1 := f34_1.u b44
        replace f34 := f34.u b44
        replace f8 := f8.u b44
        replace f43 := f43.u b44
        exact wl_tof hj (Fr.le_of (by kernel_rfl) (by kernel_rfl) (by repeat' constructor)) ⟨g8, _, _, _, _, _, _, rfl, f8, by omega, f44.to_RIT, f44_1.to_RKT, f44_2.to_RKT, hw1⟩
    · refine wl_allocg [_, _, _] Tryz.zeroValue31 (by rfl) ?_
      rintro g8 w8 f8 b8 i8 i8_1
      have s8 := b8.size
      replace hw := hw.trans (b8.mono hw.size)
      replace hw1 := hw1.trans (b8.mono hw1.size)
      replace f33_2 := f33_2.u b8
      replace f33_1 := f33_1.u b8
      replace f33 := f33.u b8
      replace f := f.u b8
      replace f24t := f24t.u b8
      replace f24d := f24d.u b8
      replace f34_1 := f34_1.u b8
      replace f34 := f34.u b8
      refine wl_call rfl (C_kOwnBlocks _ f24t.to_RBk (by omega) (by omega) (by omega)) ?_
      rintro v38 w38 ⟨A38, ⟨c38, ⟨rfl, ⟨f38, b38⟩⟩⟩⟩
      have qf38 := f38.cap
      have s38 := b38.size
      replace hw := hw.trans (b38.mono hw.size)
      replace hw1 := hw1.trans (b38.mono hw1.size)
      replace f34 := f34.u b38
      replace f34_1 := f34_1.u b38
      replace f24d := f24d.u b38
      replace f24t := f24t.u b38
      replace f := f.u b38
      replace f33 := f33.u b38
      replace f33_1 := f33_1.u b38
      replace f33_2 := f33_2.u b38
      replace f8 := f8.u b38
      refine wl_call rfl (C_foldN _ (RI.nil_) f34.to_RKs f34_1.to_RKs f38.to_RBk e2 (by rfl) (by rfl) (by rfl) rfl (by simp) (by simp) (by simp) (by simp [LtI]) (by omega) (by omega) (by omega)) ?_
      rintro v39 w39 ⟨A39, ⟨c39, ⟨B39, ⟨d39, ⟨C39, ⟨e39, ⟨rfl, ⟨f39, ⟨f39_1, ⟨f39_2, b39⟩⟩⟩⟩⟩⟩⟩⟩⟩⟩
      have qf39 := f39.cap
      have qf39_1 := f39_1.cap
      have qf39_2 := f39_2.cap
      have s39 := b39.size
      replace hw := hw.trans (b39.mono hw.size)
      replace hw1 := hw1.trans (b39.mono hw1.size)
      replace f8 := f8.u b39
      replace f33_2 := f33_2.u b39
      replace f33_1 := f33_1.u b39
      replace f33 := f33.u b39
      replace f := f.u b39
      replace f24t := f24t.u b39
      replace f24d := f24d.u b39
      replace f34_1 := f34_1.u b39
      replace f34 := f34.u b39
      replace f38 := f38.u b39
      refine wl_call rfl (C_kOwnBlocks _ f24d.to_RBk (by omega) (by omega) (by omega)) ?_
      rintro v43 w43 ⟨A43, ⟨c43, ⟨rfl, ⟨f43, b43⟩⟩⟩⟩
      have qf43 := f43.cap
      have s43 := b43.size
      replace hw := hw.trans (b43.mono hw.size)
      replace hw1 := hw1.trans (b43.mono hw1.size)
      replace f38 := f38.u b43
      replace f34 := f34.u b43
      replace f34_1 := f34_1.u b43
      replace f24d := f24d.u b43
      replace f24t := f24t.u b43
      replace f := f.u b43
      replace f33 := f33.u b43
      replace f33_1 := f33_1.u b43
      replace f33_2 := f33_2.u b43
      replace f8 := f8.u b43
      replace f39_2 := f39_2.u b43
      replace f39_1 := f39_1.u b43
      replace f39 := f39.u b43
      refine wl_call rfl (C_foldN _ f39.to_RI f39_1.to_RKs f39_2.to_RKs f43.to_RBk e3 rfl rfl rfl rfl (by omega) (by omega) (by omega) (by omega) (by omega) (by omega) (by omega)) ?_
      rintro v44 w44 ⟨A44, ⟨c44, ⟨B44, ⟨d44, ⟨C44, ⟨e44, ⟨rfl, ⟨f44, ⟨f44_1, ⟨f44_2, b44⟩⟩⟩⟩⟩⟩⟩⟩⟩⟩
      have qf44 := f44.cap
      have qf44_1 := f44_1.cap
      have qf44_2 := f44_2.cap
      have s44 := b44.size
      replace hw := hw.trans (b44.mono hw.size)
      replace hw1 := hw1.trans (b44.mono hw1.size)
      replace f39 := f39.u b44
      replace f39_1 := f39_1.u b44
      replace f39_2 := f39_2.u b44
      replace f8 := f8.u b44
      replace f33_2 := f33_2.u b44
      replace f33_1 := f33_1.u b44
      replace f33 := f33.u b44
      replace f := f.u b44
      replace f24t := f24t.u b44
      replace f24d := f24d.u b44
      replace f34_1 := f34_1.u b44
      replace f34 := f34.u b44
      replace f38 := f38.u b44
      replace f43 := f43.u b44
      exact wl_tof hj (Fr.le_of (by kernel_rfl) (by kernel_rfl) (by repeat' constructor)) ⟨g8, _, _, _, _, _, _, rfl, f8, by omega, f44.to_RIT, f44_1.to_RKT, f44_2.to_RKT, hw1⟩
  · refine wl_allocg [_, _, _] Tryz.zeroValue31 (by rfl) ?_
    rintro g8 w8 f8 b8 i8 i8_1
    simp only [drew_size] at b8
    simp only [drew_size] at i8
    have s8 := b8.size
    simp only [drew_size] at s8
    replace hw := hw.trans (b8.mono hw.size)
    replace hw1 := hw1.trans (b8.mono hw1.size)
    replace f24d := f24d.u b8
    replace f24t := f24t.u b8
    replace f := f.u b8
    replace f33 := f33.u b8
    replace f33_1 := f33_1.u b8
    replace f33_2 := f33_2.u b8
    refine wl_call rfl (C_alone _) ?_
    rintro v34 w34 ⟨B34, ⟨C34, ⟨rfl, ⟨f34, ⟨f34_1, b34⟩⟩⟩⟩⟩
    have s34 := b34.size
    replace hw := hw.trans (b34.mono hw.size)
    replace hw1 := hw1.trans (b34.mono hw1.size)
    replace f33_2 := f33_2.u b34
    replace f33_1 := f33_1.u b34
    replace f33 := f33.u b34
    replace f := f.u b34
    replace f24t := f24t.u b34
    replace f24d := f24d.u b34
    replace f8 := f8.u b34
    refine wl_call rfl (C_kOwnBlocks _ f24t.to_RBk (by omega) (by omega) (by omega)) ?_
    rintro v38 w38 ⟨A38, ⟨c38, ⟨rfl, ⟨f38, b38⟩⟩⟩⟩
    have qf38 := f38.cap
    have s38 := b38.size
    replace hw := hw.trans (b38.mono hw.size)
    replace hw1 := hw1.trans (b38.mono hw1.size)
    replace f8 := f8.u b38
    replace f24d := f24d.u b38
    replace f24t := f24t.u b38
    replace f := f.u b38
    replace f33 := f33.u b38
    replace f33_1 := f33_1.u b38
    replace f33_2 := f33_2.u b38
    replace f34_1 := f34_1.u b38
    replace f34 := f34.u b38
    refine wl_call rfl (C_foldN _ (RI.nil_) f34.to_RKs f34_1.to_RKs f38.to_RBk e2 (by rfl) (by rfl) (by rfl) rfl (by simp) (by simp) (by simp) (by simp [LtI]) (by omega) (by omega) (by omega)) ?_
    rintro v39 w39 ⟨A39, ⟨c39, ⟨B39, ⟨d39, ⟨C39, ⟨e39, ⟨rfl, ⟨f39, ⟨f39_1, ⟨f39_2, b39⟩⟩⟩⟩⟩⟩⟩⟩⟩⟩
    have qf39 := f39.cap
    have qf39_1 := f39_1.cap
    have qf39_2 := f39_2.cap
    have s39 := b39.size
    replace hw := hw.trans (b39.mono hw.size)
    replace hw1 := hw1.trans (b39.mono hw1.size)
    replace f34 := f34.u b39
    replace f34_1 := f34_1.u b39
    replace f33_2 := f33_2.u b39
    replace f33_1 := f33_1.u b39
    replace f33 := f33.u b39
    replace f := f.u b39
    replace f24t := f24t.u b39
    replace f24d := f24d.u b39
    replace f8 := f8.u b39
    replace f38 := f38.u b39
    refine wl_call rfl (C_kOwnBlocks _ f24d.to_RBk (by omega) (by omega) (by omega)) ?_
    rintro v43 w43 ⟨A43, ⟨c43, ⟨rfl, ⟨f43, b43⟩⟩⟩⟩
    have qf43 := f43.cap
    have s43 := b43.size
    replace hw := hw.trans (b43.mono hw.size)
    replace hw1 := hw1.trans (b43.mono hw1.size)
    replace f38 := f38.u b43
    replace f8 := f8.u b43
    replace f24d := f24d.u b43
    replace f24t := f24t.u b43
    replace f := f.u b43
    replace f33 := f33.u b43
    replace f33_1 := f33_1.u b43
    replace f33_2 := f33_2.u b43
    replace f34_1 := f34_1.u b43
    replace f34 := f34.u b43
    replace f39_2 := f39_2.u b43
    replace f39_1 := f39_1.u b43
    replace f39 := f39.u b43
    refine wl_call rfl (C_foldN _ f39.to_RI f39_1.to_RKs f39_2.to_RKs f43.to_RBk e3 rfl rfl rfl rfl (by omega) (by omega) (by omega) (by omega) (by omega) (by omega) (by omega)) ?_
    rintro v44 w44 ⟨A44, ⟨c44, ⟨B44, ⟨d44, ⟨C44, ⟨e44, ⟨rfl, ⟨f44, ⟨f44_1, ⟨f44_2, b44⟩⟩⟩⟩⟩⟩⟩⟩⟩⟩
    have qf44 := f44.cap
    have qf44_1 := f44_1.cap
    have qf44_2 := f44_2.cap
    have s44 := b44.size
    replace hw := hw.trans (b44.mono hw.size)
    replace hw1 := hw1.trans (b44.mono hw1.size)
    replace f39 := f39.u b44
    replace f39_1 := f39_1.u b44
    replace f39_2 := f39_2.u b44
    replace f34 := f34.u b44
    replace f34_1 := f34_1.u b44
    replace f33_2 := f33_2.u b44
    replace f33_1 := f33_1.u b44
    replace f33 := f33.u b44
    replace f := f.u b44
    replace f24t := f24t.u b44
    replace f24d := f24d.u b44
    replace f8 := f8.u b44
    replace f38 := f38.u b44
    replace f43 := f43.u b44
    exact wl_tof hj (Fr.le_of (by kernel_rfl) (by kernel_rfl) (by repeat' constructor)) ⟨g8, _, _, _, _, _, _, rfl, f8, by omega, f44.to_RIT, f44_1.to_RKT, f44_2.to_RKT, hw1⟩
end Go.Proofs.YtahkeoegbjopfaaGreat
/-
  Arguments of the statements on blocks: deeds, states, ops.
-/
namespace Go.Proofs.YtahkeoegbjopfaaGreat
set_option maxRecDepth 100000
open Go.RowKit
theorem opens_OpB : Opens Tryz.prog 54 gOp :=
  have hb : Opens Tryz.prog 39 gBytes := opens_bytes Tryz.underlying39 Tryz.underlying5 (by kernel_rfl) (by kernel_rfl)
  have hk : Opens Tryz.prog 42 (gArr 32) := opens_arr8 Tryz.underlying42 Tryz.underlying5 (by kernel_rfl) (by kernel_rfl)
  opens_struct Tryz.underlying54 (by kernel_rfl) (.more (opens_int Tryz.underlying3 (by kernel_rfl)) rfl (.more hb rfl (.more hb rfl (.one hk rfl))))
theorem opens_Deed : Opens Tryz.prog 75 gDeed :=
  opens_struct Tryz.underlying75 (by kernel_rfl) (.more (opens_int Tryz.underlying3 (by kernel_rfl)) rfl (.one (opens_slice Tryz.underlying35 (by kernel_rfl) (by decide) opens_OpB) rfl))
--@ arg []headwaterlaw22.Deed arg_Deeds
set_option maxRecDepth 100000 in
theorem arg_Deeds {H : Type} {enc : TypeId × Value → H} {W : World} {base : Nat} {v : Value} {d : DataW H} {p : List MemPlace} (hok : Value.okWide Tryz.prog W .any base 22 v) (h : DataW.Trod enc Tryz.prog W 0 (fun _ => true) true 22 v d p) :
    ∃ (A : Option Addr) (c : Nat) (L : List Ded), v = .slice A L.length c ∧ RDe W A L ∧ L.length ≤ c ∧ c ≤ maxLen := by
  obtain ⟨L, h1⟩ := open_slc (X := GoT.slice 75 gDeed) (opens_slice Tryz.underlying22 (by kernel_rfl) (by decide) opens_Deed) Tryz.underlying22 hok h
  obtain ⟨A, c, e, h2, h3, h4⟩ := slice_RSl h1
  injection e with e
  exact ⟨A, c, L, e, h2, h3, h4⟩
def gStB : GoT Stt := (GoT.slice 94 gItem).pair ((GoT.slice 42 (gArr 32)).pair (GoT.slice 42 (gArr 32)))
theorem opens_StB : Opens Tryz.prog 31 gStB :=
  have hb : Opens Tryz.prog 39 gBytes := opens_bytes Tryz.underlying39 Tryz.underlying5 (by kernel_rfl) (by kernel_rfl)
  have hI : Opens Tryz.prog 94 gItem := opens_struct Tryz.underlying94 (by kernel_rfl) (.more hb rfl (.one hb rfl))
  have hk : Opens Tryz.prog 42 (gArr 32) := opens_arr8 Tryz.underlying42 Tryz.underlying5 (by kernel_rfl) (by kernel_rfl)
  opens_struct Tryz.underlying31 (by kernel_rfl) (.more (opens_slice Tryz.underlying28 (by kernel_rfl) (by decide) hI) rfl (.more (opens_slice Tryz.underlying29 (by kernel_rfl) (by decide) hk) rfl (.one (opens_slice Tryz.underlying29 (by kernel_rfl) (by decide) hk) rfl)))
set_option maxRecDepth 100000 in
theorem arg_StateB {H : Type} {enc : TypeId × Value → H} {W : World} {base : Nat} {v : Value} {d : DataW H} {p : List MemPlace} (hok : Value.okWide Tryz.prog W .any base 31 v) (h : DataW.Trod enc Tryz.prog W 0 (fun _ => true) true 31 v d p) :
    ∃ (I : List (By × By)) (X Y : List Ky) (A : Option Addr) (c : Nat) (B : Option Addr) (d : Nat) (C : Option Addr) (e : Nat), v = .agg #[.slice A I.length c, .slice B X.length d, .slice C Y.length e] ∧ RI W A I ∧ RKs W B X ∧ RKs W C Y := by
  obtain ⟨cs, ⟨I, X, Y⟩, rfl, c1, c2, rfl, h1, c3, c4, rfl, h2, h3⟩ := open_agg opens_StB (.inl ⟨_, Tryz.underlying31⟩) hok h
  obtain ⟨A, c, rfl, hA, _⟩ := slice_RSl h1
  obtain ⟨B, d, rfl, hB, _⟩ := slice_RSl h2
  obtain ⟨C, e, rfl, hC, _⟩ := slice_RSl h3
  exact ⟨I, X, Y, A, c, B, d, C, e, rfl, hA, hB, hC⟩
set_option maxRecDepth 100000 in
theorem arg_OpsB {H : Type} {enc : TypeId × Value → H} {W : World} {base : Nat} {v : Value} {d : DataW H} {p : List MemPlace} (hok : Value.okWide Tryz.prog W .any base 35 v) (h : DataW.Trod enc Tryz.prog W 0 (fun _ => true) true 35 v d p) :
    ∃ (A : Option Addr) (c : Nat) (L : List Opn), v = .slice A L.length c ∧ RO W A L ∧ L.length ≤ c ∧ c ≤ maxLen := by
  obtain ⟨L, h1⟩ := open_slc (X := GoT.slice 54 gOp) (opens_slice Tryz.underlying35 (by kernel_rfl) (by decide) opens_OpB) Tryz.underlying35 hok h
  obtain ⟨A, c, e, h2, h3, h4⟩ := slice_RSl h1
  injection e with e
  exact ⟨A, c, L, e, h2, h3, h4⟩
end Go.Proofs.YtahkeoegbjopfaaGreat
