/-
  Walks of the kit's functions: ops compared and copied, a state copied.
-/
import Derived.Test.YtahkeoegbjopfaaGreatMg9
namespace Go.Proofs.YtahkeoegbjopfaaGreat
set_option maxRecDepth 100000
open Go.RowKit
section
variable {fn : Func} {F : Ending → World → Prop} {N : Nat} {ks : List K} {ops : Array Oper} {tg : Tags} {l : List Oper} {fr : Fr} {w : World} {ty t' : TypeId} {pos : String} {aft : Array Edge} {gd : Option (Nat × Bool)} {g : Nat} {x y : Operand} {k : Int} {K V K' V' : Option Addr} {n c m d n' c' m' d' : Nat} {u : Ky}
theorem wl_stOpK (hx : fr.ev x = some (.pointer (some ⟨g, 0 + 1, none⟩))) (hB : Blk w g t' (opC k K' n' c' V m d u)) (hy : fr.ev y = some (.slice K n c))
  (hk : ∀ w', Blk w' g t' (opC k K n c V m d u) → Grew w w' t' (some g) → w'.heap.size = w.heap.size → WL Tryz.prog fn F N ks ops tg.tail l fr w') (ht : tg.loud = true := by rfl) (hg : onG ops fr gd = true := by rfl) (hq : tg.calm = false ∨ tg.rw.may (some g) := by exact .inl rfl) :
  WL Tryz.prog fn F N ks ops tg (⟨none, .store 39 x y, ty, pos, aft, gd⟩ :: l) fr w :=
 wl_storeg1 Tryz.sizeOf39 hx hy rfl hB (by rw [opC_length]; omega) hk ht hg hq
theorem wl_stOpV (hx : fr.ev x = some (.pointer (some ⟨g, 0 + 2, none⟩))) (hB : Blk w g t' (opC k K n c V' m' d' u)) (hy : fr.ev y = some (.slice V m d))
  (hk : ∀ w', Blk w' g t' (opC k K n c V m d u) → Grew w w' t' (some g) → w'.heap.size = w.heap.size → WL Tryz.prog fn F N ks ops tg.tail l fr w') (ht : tg.loud = true := by rfl) (hg : onG ops fr gd = true := by rfl) (hq : tg.calm = false ∨ tg.rw.may (some g) := by exact .inl rfl) :
  WL Tryz.prog fn F N ks ops tg (⟨none, .store 39 x y, ty, pos, aft, gd⟩ :: l) fr w :=
 wl_storeg1 Tryz.sizeOf39 hx hy rfl hB (by rw [opC_length]; omega) hk ht hg hq
end
end Go.Proofs.YtahkeoegbjopfaaGreat
/-
  Bytes compared as strings.
-/
namespace Go.Proofs.YtahkeoegbjopfaaGreat
set_option maxRecDepth 100000
open Go.RowKit
end Go.Proofs.YtahkeoegbjopfaaGreat
/-
  Walks of package ops: whether ops and states are the same.
-/
namespace Go.Proofs.YtahkeoegbjopfaaGreat
set_option maxRecDepth 100000
open Go.RowKit
end Go.Proofs.YtahkeoegbjopfaaGreat
/-
  The statement OpsNames.
-/
namespace Go.Proofs.YtahkeoegbjopfaaGreat
set_option maxRecDepth 100000
open Go.RowKit
structure BytesR (L : List Opn) (b : By) (e : Nat) : Prop where
 h : bytesO L = (b, e)
structure ReadR (b : By) (L : List Opn) (e : Nat) : Prop where
 h : readO b = (L, e)
theorem C_opsReadN {A : Option Addr} {b : By} {L : List Opn} {e n c : Nat} (w : World) (hr : ReadR b L e) (hA : Rd w A b) (hn : n = b.length) (hl : b.length ≤ 4000000) :
  CallsR Tryz.prog 13 [.slice A n c] w fun v w' => ∃ A' c', v = .tuple #[.slice A' L.length c', .int .i64 (e : Int)] ∧ OwnO w' w.heap.size w'.heap.size A' c' L ∧ Below w.heap.size w w' :=
 C_opsRead w hA hr.h hn hl
end Go.Proofs.YtahkeoegbjopfaaGreat
/-
  Blocks as they lie in memory.
-/
namespace Go.Proofs.YtahkeoegbjopfaaGreat
set_option maxRecDepth 100000
open Go.RowKit
abbrev Bk := Ky × By
structure BkS (M G : List Value) : Prop where
 m : M.length = 33
 g : G.length = 64
 m1 : ∀ v ∈ M, v.oneCell' = true
 g1 : ∀ v ∈ G, v.oneCell' = true
def bkC (u : Ky) (M : List Value) (N : Option Addr) (nc : Nat) (D : Option Addr) (n c : Nat) (G : List Value) : List Value := B8 u.1 ++ (M ++ ([.slice N 0 nc, .slice D n c] ++ G))
section
variable {u : Ky} {M G : List Value} {N D : Option Addr} {nc n c : Nat}
theorem bkC_length (h : BkS M G) : (bkC u M N nc D n c G).length = 131 := by
 simp only [bkC, List.length_append, B8_length, u.2, h.m, h.g, List.length_cons, List.length_nil]
theorem bkC_one (h : BkS M G) : ∀ v ∈ bkC u M N nc D n c G, v.oneCell' = true := by
 intro v hv
 simp only [bkC, List.mem_append, List.mem_cons, List.not_mem_nil, or_false] at hv
 rcases hv with hv | hv | (rfl | rfl) | hv
 ·exact B8_oneCell _ _ hv
 ·exact h.m1 v hv
 ·rfl
 ·rfl
 ·exact h.g1 v hv
theorem bkC_who : ((bkC u M N nc D n c G).drop (0 + 0)).take 32 = B8 u.1 := by
 show (B8 u.1 ++ _).take 32 = _
 rw [List.take_append_of_le_length (by rw [B8_length, u.2]; omega), List.take_of_length_le (by rw [B8_length, u.2]; omega)]
theorem bkC_lnk (h : BkS M G) : (bkC u M N nc D n c G)[0 + 65]? = some (.slice N 0 nc) := by
 unfold bkC
 rw [List.getElem?_append_right (by rw [B8_length, u.2]; omega), B8_length, u.2, List.getElem?_append_right (by rw [h.m]; omega), h.m]
 rfl
theorem bkC_dat (h : BkS M G) : (bkC u M N nc D n c G)[0 + 66]? = some (.slice D n c) := by
 unfold bkC
 rw [List.getElem?_append_right (by rw [B8_length, u.2]; omega), B8_length, u.2, List.getElem?_append_right (by rw [h.m]; omega), h.m]
 rfl
theorem set_mid {A B : List Value} {v x : Value} {i : Nat} (h : A.length = i) : (A ++ x :: B).set i v = A ++ v :: B := by
 subst h
 rw [List.set_append_right _ _ (Nat.le_refl _), Nat.sub_self]
 rfl
theorem bkC_setL (h : BkS M G) {N' : Option Addr} {nc' : Nat} : (bkC u M N nc D n c G).set (0 + 65) (.slice N' 0 nc') = bkC u M N' nc' D n c G := by
 have e : ∀ x : Value, B8 u.1 ++ (M ++ ([x, .slice D n c] ++ G)) = (B8 u.1 ++ M) ++ x :: ([.slice D n c] ++ G) := fun x => by simp
 unfold bkC
 rw [e, e]
 exact set_mid (by rw [List.length_append, B8_length, u.2, h.m])
theorem bkC_setD (h : BkS M G) {D' : Option Addr} {n' c' : Nat} : (bkC u M N nc D n c G).set (0 + 66) (.slice D' n' c') = bkC u M N nc D' n' c' G := by
 have e : ∀ x : Value, B8 u.1 ++ (M ++ ([.slice N 0 nc, x] ++ G)) = (B8 u.1 ++ M ++ [.slice N 0 nc]) ++ x :: G := fun x => by simp
 unfold bkC
 rw [e, e]
 exact set_mid (by rw [List.length_append, List.length_append, B8_length, u.2, h.m]; rfl)
end
def gBk : GoT Bk where
 sz := 131
 tys := [5]
 R w cs a := ∃ M N nc D c G, cs = bkC a.1 M N nc D a.2.length c G ∧ BkS M G ∧ Rd w D a.2 ∧ a.2.length ≤ c ∧ c ≤ maxLen
 T w cs a := ∃ M N nc D c G, cs = bkC a.1 M N nc D a.2.length c G ∧ BkS M G ∧ RdT w D a.2 ∧ a.2.length ≤ c ∧ c ≤ maxLen
 len h := by obtain ⟨M, N, nc, D, c, G, rfl, h, _⟩ := h; exact bkC_length h
 u h hb := by obtain ⟨M, N, nc, D, c, G, e, h0, h1, h2⟩ := h; exact ⟨M, N, nc, D, c, G, e, h0, h1.below hb, h2⟩
 tr h := by obtain ⟨M, N, nc, D, c, G, e, h0, h1, h2⟩ := h; exact ⟨M, N, nc, D, c, G, e, h0, h1.1, h2⟩
 tu h hb := by obtain ⟨M, N, nc, D, c, G, e, h0, h1, h2⟩ := h; exact ⟨M, N, nc, D, c, G, e, h0, h1.u hb, h2⟩
 ty h hg hne := by obtain ⟨M, N, nc, D, c, G, e, h0, h1, h2⟩ := h; exact ⟨M, N, nc, D, c, G, e, h0, h1.y hg (by simpa using hne), h2⟩
 tm h hg := by obtain ⟨M, N, nc, D, c, G, e, h0, h1, h2⟩ := h; exact ⟨M, N, nc, D, c, G, e, h0, h1.m hg, h2⟩
theorem gBk_one (w : World) (cs : List Value) (a : Bk) (h : gBk.T w cs a) : ∀ u ∈ cs, u.oneCell' = true := by
 obtain ⟨M, N, nc, D, c, G, rfl, h0, _⟩ := h
 exact bkC_one h0
def RBk (w : World) (A : Option Addr) (L : List Bk) : Prop := RSl gBk w A L
def RBT (w : World) (A : Option Addr) (L : List Bk) : Prop := RSlT gBk 49 w A L
def OwnB (w : World) (lo hi : Nat) (A : Option Addr) (c : Nat) (L : List Bk) : Prop := OwnS gBk 49 w lo hi A c L
section
variable {w w' : World} {lo hi lo' hi' cp b : Nat} {A : Option Addr} {L : List Bk} {e' : TypeId} {row : Option Nat}
theorem RBk.some_ (h : RBk w A L) (hl : 0 < L.length) : A = some (A.getD ⟨0, 0, none⟩) := RSl.some_ h (show 0 < 131 by decide) hl
theorem RBk.elem (h : RBk w A L) {i : Nat} (hi : i < L.length) : ∃ M N nc D c G, CellsAt w A (i * 131) (bkC L[i].1 M N nc D L[i].2.length c G) ∧ BkS M G ∧ Rd w D L[i].2 ∧ L[i].2.length ≤ c ∧ c ≤ maxLen := by
 obtain ⟨cs, h1, M, N, nc, D, c, G, rfl, h2⟩ := RSl.elem h (show 0 < 131 by decide) hi
 exact ⟨M, N, nc, D, c, G, h1, h2⟩
theorem OwnB.u (h : OwnB w lo hi A cp L) (hb : Below w.heap.size w w') : OwnB w' lo hi A cp L := OwnS.u h hb
theorem OwnB.d (h : OwnB w lo hi A cp L) : OwnB w.drew lo hi A cp L := OwnS.d h
theorem OwnB.y (h : OwnB w lo hi A cp L) (hg : Grew w w' e' row) (hne : e' ∉ 49 :: gBk.tys) : OwnB w' lo hi A cp L := OwnS.y h hg hne
theorem OwnB.q (h : OwnB w lo hi A cp L) (hg : Grew w w' e' row) (ha : Ap row lo hi) (hne : e' ∉ gBk.tys) : OwnB w' lo hi A cp L := OwnS.q h hg ha hne
theorem OwnB.ap (h : OwnB w lo hi A cp L) (hd : hi ≤ lo' ∨ hi' ≤ lo) : Ap (blk A) lo' hi' := OwnS.ap h hd
theorem OwnB.cap (h : OwnB w lo hi A cp L) : L.length ≤ cp := OwnS.cap h
theorem OwnB.nil_ : OwnB w lo hi none 0 [] := OwnS.nil_
theorem OwnB.to_RBT (h : OwnB w lo hi A cp L) : RBT w A L := OwnS.to_RSlT h
theorem OwnB.to_RBk (h : OwnB w lo hi A cp L) : RBk w A L := OwnS.to_RSl h
end
def bkM : List Value := .int .u64 0 :: B8 (List.replicate 32 0)
def bkG : List Value := B8 (List.replicate 64 0)
theorem bkS0 : BkS bkM bkG := ⟨rfl, rfl, by decide, by decide⟩
theorem Tryz.rowBk : RowT Tryz.prog 25 49 (.agg (bkC z32 bkM none 0 none 0 0 bkG).toArray) 131 184 := ⟨Tryz.underlying25, by kernel_rfl, rfl, by omega⟩
section
variable {fn : Func} {F : Ending → World → Prop} {N : Nat} {ks : List K} {ops : Array Oper} {tg : Tags} {l : List Oper} {fr : Fr} {w w0 : World} {ty t' : TypeId} {pos : String} {aft : Array Edge} {gd : Option (Nat × Bool)} {d0 n j o q c nc lo hi g : Nat} {x y : Operand} {A B D L' : Option Addr} {L P : List Bk} {u u' : Ky} {M G M' G' : List Value}
theorem wl_ldBk (hx : fr.ev x = some (.pointer (some (adr A (j * 131))))) (hr : RBk w0 A L) (hb : Below w0.heap.size w0 w) (hj : j < L.length)
  (hk : ∀ M N' nc D c G, BkS M G → Rd w0 D L[j].2 → L[j].2.length ≤ c → c ≤ maxLen → WL Tryz.prog fn F N ks ops tg.tail l ((d0, .agg (bkC L[j].1 M N' nc D L[j].2.length c G).toArray) :: fr) w)
  (ht : tg.reads = true := by rfl) (hg : onG ops fr gd = true := by rfl) (hd : Nat.blt d0 N = true := by rfl) : WL Tryz.prog fn F N ks ops tg (⟨some d0, .load 49 x, ty, pos, aft, gd⟩ :: l) fr w := by
 obtain ⟨M, N', nc, D, c, G, h1, h0, h2, h3, h4⟩ := hr.elem hj
 refine wl_r (o_loadn (cs := bkC L[j].1 M N' nc D L[j].2.length c G) Tryz.isAgg49 (by rw [bkC_length h0]; exact Tryz.sizeOf49) hx (fun i u hu => ?_)) (hk M N' nc D c G h0 h2 h3 h4) ht hg hd
 rw [adr_add]
 exact h1.u hb i u hu
theorem wl_allocBk (hk : ∀ g w', Blk w' g 49 (bkC z32 bkM none 0 none 0 0 bkG) → Below w.heap.size w w' → w.heap.size ≤ g → g < w'.heap.size → WL Tryz.prog fn F N ks ops tg.tail l ((d0, .pointer (some ⟨g, 0, none⟩)) :: fr) w')
  (ht : tg.loud = true := by rfl) (hg : onG ops fr gd = true := by rfl) (hd : Nat.blt d0 N = true := by rfl) : WL Tryz.prog fn F N ks ops tg (⟨some d0, .alloc 49, ty, pos, aft, gd⟩ :: l) fr w :=
 wl_allocg _ Tryz.zeroValue49 rfl hk ht hg hd
theorem wl_stBkB {D' N1 N2 : Option Addr} {n' c' nc' : Nat} (hx : fr.ev x = some (.pointer (some ⟨g, 0, none⟩))) (hB : Blk w g t' (bkC u' M' N2 nc' D' n' c' G')) (hS' : BkS M' G') (hy : fr.ev y = some (.agg (bkC u M N1 nc D n c G).toArray)) (hS : BkS M G)
  (hk : ∀ w', Blk w' g t' (bkC u M N1 nc D n c G) → Grew w w' t' (some g) → w'.heap.size = w.heap.size → WL Tryz.prog fn F N ks ops tg.tail l fr w') (ht : tg.loud = true := by rfl) (hg : onG ops fr gd = true := by rfl) (hq : tg.calm = false ∨ tg.rw.may (some g) := by exact .inl rfl) :
  WL Tryz.prog fn F N ks ops tg (⟨none, .store 49 x y, ty, pos, aft, gd⟩ :: l) fr w :=
 wl_storega Tryz.sizeOf49 hx hy (bkC_length hS) (bkC_one hS) hB (bkC_length hS') hk ht hg hq
theorem o_ldBkA {N1 : Option Addr} (hx : fr.ev x = some (.pointer (some ⟨g, 0, none⟩))) (hB : Blk w g t' (bkC u M N1 nc D n c G)) (hS : BkS M G) : OpV Tryz.prog N fr w (.load 49 x) ty (.agg (bkC u M N1 nc D n c G).toArray) w :=
 o_loadag Tryz.isAgg49 Tryz.sizeOf49 hx hB (bkC_length hS)
theorem o_ldBkW {N1 : Option Addr} (hx : fr.ev x = some (.pointer (some ⟨g, 0 + 0, none⟩))) (hB : Blk w g t' (bkC u M N1 nc D n c G)) : OpV Tryz.prog N fr w (.load 42 x) ty (.agg (B8 u.1).toArray) w :=
 o_loadCut Tryz.isAgg42 Tryz.sizeOf42 hx hB bkC_who (by rw [B8_length, u.2])
theorem o_ldBkDt {N1 : Option Addr} (hx : fr.ev x = some (.pointer (some ⟨g, 0 + 66, none⟩))) (hB : Blk w g t' (bkC u M N1 nc D n c G)) (hS : BkS M G) : OpV Tryz.prog N fr w (.load 39 x) ty (.slice D n c) w :=
 o_loadbg Tryz.isAgg39 hx hB (bkC_dat hS)
theorem o_ldBkL {N1 : Option Addr} (hx : fr.ev x = some (.pointer (some ⟨g, 0 + 65, none⟩))) (hB : Blk w g t' (bkC u M N1 nc D n c G)) (hS : BkS M G) : OpV Tryz.prog N fr w (.load 45 x) ty (.slice N1 0 nc) w :=
 o_loadbg Tryz.isAgg45 hx hB (bkC_lnk hS)
theorem wl_stBkL {N1 N2 : Option Addr} {nc' : Nat} (hx : fr.ev x = some (.pointer (some ⟨g, 0 + 65, none⟩))) (hB : Blk w g t' (bkC u M N1 nc' D n c G)) (hy : fr.ev y = some (.slice N2 0 nc)) (hS : BkS M G)
  (hk : ∀ w', Blk w' g t' (bkC u M N2 nc D n c G) → Grew w w' t' (some g) → w'.heap.size = w.heap.size → WL Tryz.prog fn F N ks ops tg.tail l fr w') (ht : tg.loud = true := by rfl) (hg : onG ops fr gd = true := by rfl) (hq : tg.calm = false ∨ tg.rw.may (some g) := by exact .inl rfl) :
  WL Tryz.prog fn F N ks ops tg (⟨none, .store 45 x y, ty, pos, aft, gd⟩ :: l) fr w :=
 wl_storeg1 Tryz.sizeOf45 hx hy rfl hB (by rw [bkC_length hS]; omega) (fun w' h1 h2 h3 => hk w' (by rwa [bkC_setL hS] at h1) h2 h3) ht hg hq
theorem wl_stBkD {N1 D' : Option Addr} {n' c' : Nat} (hx : fr.ev x = some (.pointer (some ⟨g, 0 + 66, none⟩))) (hB : Blk w g t' (bkC u M N1 nc D' n' c' G)) (hy : fr.ev y = some (.slice D n c)) (hS : BkS M G)
  (hk : ∀ w', Blk w' g t' (bkC u M N1 nc D n c G) → Grew w w' t' (some g) → w'.heap.size = w.heap.size → WL Tryz.prog fn F N ks ops tg.tail l fr w') (ht : tg.loud = true := by rfl) (hg : onG ops fr gd = true := by rfl) (hq : tg.calm = false ∨ tg.rw.may (some g) := by exact .inl rfl) :
  WL Tryz.prog fn F N ks ops tg (⟨none, .store 39 x y, ty, pos, aft, gd⟩ :: l) fr w :=
 wl_storeg1 Tryz.sizeOf39 hx hy rfl hB (by rw [bkC_length hS]; omega) (fun w' h1 h2 h3 => hk w' (by rwa [bkC_setD hS] at h1) h2 h3) ht hg hq
theorem o_bldBk (hx : fr.ev x = some (.agg (B8 u.1).toArray)) (hy : fr.ev y = some (.slice D n c)) : OpV Tryz.prog N fr w (.build 49 #[(0, x), (4, y)]) ty (.agg (bkC u bkM none 0 D n c bkG).toArray) w :=
 o_build (is := [0, 4]) (xs := [x, y]) (vs := [.agg (B8 u.1).toArray, .slice D n c]) (by simp [Fr.evs, hx, hy]) (fun w => ky_cases u (fun u => (Instr.build 49 ([0, 4].zip [.agg (B8 u.1).toArray, .slice D n c]).toArray).run Tryz.prog w = .ok (.agg (bkC u bkM none 0 D n c bkG).toArray) w) (by intros; kernel_rfl))
theorem wl_litBk1 {ps : Array (Nat × Operand)} {xs : List Operand} {p : By} {N1 : Option Addr} (hxs : ps.toList.map Prod.snd = xs) (hx : fr.evs xs = some [.agg (bkC u M N1 nc D n c G).toArray]) (hS : BkS M G) (h1 : RdT w D p) (hn : n = p.length) (h2 : p.length ≤ c) (h3 : c ≤ maxLen) (hps : ps = ((List.range' 0 1).zip xs).toArray)
  (hk : ∀ A w', OwnB w' w.heap.size w'.heap.size A 1 [(u, p)] → Below w.heap.size w w' → WL Tryz.prog fn F N ks ops tg.tail l ((d0, .slice A 1 1) :: fr) w')
  (ht : tg.loud = true := by rfl) (hg : onG ops fr gd = true := by rfl) (hd : Nat.blt d0 N = true := by rfl) : WL Tryz.prog fn F N ks ops tg (⟨some d0, .buildSlice 25 1 ps, ty, pos, aft, gd⟩ :: l) fr w := by
 subst hn
 refine wl_litS (X := gBk) (L := [(u, p)]) Tryz.rowBk Tryz.sizeOf49 Tryz.zeroValue49 hxs hps hx rfl rfl (fun i h => ?_) rfl hk ht hg hd
 obtain rfl : i = 0 := by simp at h; omega
 exact ⟨_, rfl, by show (bkC u M N1 nc D p.length c G).toArray.size = 131; rw [List.size_toArray, bkC_length hS], M, N1, nc, D, c, G, rfl, hS, h1, h2, h3⟩
theorem wl_appBk (hx : fr.ev x = some (.slice A n c)) (hown : OwnB w lo hi A c L) (hn : n = L.length) (hy : fr.ev y = some (.slice B j q)) (hr : RBT w B P) (hj : j = P.length) (hlen : L.length + P.length ≤ 100000) (hB : lo ≤ w.heap.size)
  (h : ∀ A' c' w', OwnB w' lo w'.heap.size A' c' (L ++ P) → Grew w w' 49 (blk A) → Below lo w w' → WL Tryz.prog fn F N ks ops tg.tail l ((d0, .slice A' (L ++ P).length c') :: fr) w')
  (ht : tg.loud = true := by rfl) (hg : onG ops fr gd = true := by rfl) (hd : Nat.blt d0 N = true := by rfl) (hq : tg.calm = false ∨ blk A = none ∨ blk A = tg.row := by exact .inl rfl) :
  WL Tryz.prog fn F N ks ops tg (⟨some d0, .call { callee := .builtin .append, args := #[x, y], argTypes := #[25, 25] }, ty, pos, aft, gd⟩ :: l) fr w :=
 wl_appS (X := gBk) Tryz.rowBk hx hown hn hy hr hj (by simp [gBk]) gBk_one (by have := Nat.mul_le_mul_right 184 hlen; omega) (by omega) hB (fun A' c' w' h1 h2 h3 _ => h A' c' w' h1 h2 h3) ht hg hd hq
end
end Go.Proofs.YtahkeoegbjopfaaGreat
/-
  Walks of the kit's functions: blocks copied.
-/
namespace Go.Proofs.YtahkeoegbjopfaaGreat
set_option maxRecDepth 100000
open Go.RowKit
def OwnD0 (w : World) (lo hi : Nat) (A : Option Addr) : Prop := RowH w lo hi 44 32 A 0 0 []
theorem OwnD0.u {w w' : World} {lo hi : Nat} {A : Option Addr} (h : OwnD0 w lo hi A) (hb : Below w.heap.size w w') : OwnD0 w' lo hi A := RowH.u h hb
theorem Tryz.rowDg : RowT Tryz.prog 45 44 (.agg (B8 z32.1).toArray) 32 32 := ⟨Tryz.underlying45, by kernel_rfl, rfl, by omega⟩
section
variable {fn : Func} {F : Ending → World → Prop} {N : Nat} {ks : List K} {ops : Array Oper} {tg : Tags} {l : List Oper} {fr : Fr} {w w0 : World} {ty t' : TypeId} {pos : String} {aft : Array Edge} {gd : Option (Nat × Bool)} {d n j q c lo hi : Nat} {x y : Operand} {A B : Option Addr}
theorem wl_litDg0 {ps : Array (Nat × Operand)} {xs : List Operand} (hxs : ps.toList.map Prod.snd = xs) (hx : fr.evs xs = some []) (hps : ps = ((List.range' 0 0).zip xs).toArray)
  (hk : ∀ A w', OwnD0 w' w.heap.size w'.heap.size A → Below w.heap.size w w' → WL Tryz.prog fn F N ks ops tg.tail l ((d, .slice A 0 0) :: fr) w')
  (ht : tg.loud = true := by rfl) (hg : onG ops fr gd = true := by rfl) (hd : Nat.blt d N = true := by rfl) : WL Tryz.prog fn F N ks ops tg (⟨some d, .buildSlice 45 0 ps, ty, pos, aft, gd⟩ :: l) fr w :=
 wl_litR Tryz.rowDg Tryz.sizeOf44 Tryz.zeroValue44 hxs hps hx rfl (fun v h => by cases h) rfl hk ht hg hd
theorem wl_appDg0 (hx : fr.ev x = some (.slice A 0 0)) (hown : OwnD0 w lo hi A) (hy : fr.ev y = some (.slice B 0 q)) (hB : lo ≤ w.heap.size)
  (h : ∀ A' c' w', Below w.heap.size w w' → WL Tryz.prog fn F N ks ops tg.tail l ((d, .slice A' 0 c') :: fr) w')
  (ht : tg.loud = true := by rfl) (hg : onG ops fr gd = true := by rfl) (hd : Nat.blt d N = true := by rfl) :
  WL Tryz.prog fn F N ks ops tg (⟨some d, .call { callee := .builtin .append, args := #[x, y], argTypes := #[45, 45] }, ty, pos, aft, gd⟩ :: l) fr w :=
 wl_appR0 Tryz.rowDg hx hown hy (Reads.none_ _ _ _) (fun u hu => by cases hu) (by omega) (by omega) hB (fun A' c' w' _ k2 => h A' c' w' k2) ht hg hd
end
theorem C_kNames0 {A : Option Addr} {c : Nat} (w : World) :
  CallsR Tryz.prog 50 [.slice A 0 c] w fun v w' => ∃ A' c', v = .slice A' 0 c' ∧ Below w.heap.size w w' := by
 refine callsR Tryz.func50 rfl rfl (by kernel_rfl) rfl ?_
 have hw := Below.refl w.heap.size w
 refine rk_seq ?_
 refine rk_region ?_
 refine wl_p (fun _ => o_assign rfl) ?_
 refine wl_nil ?_
 refine rk_seq ?_
 refine rk_region ?_
 refine wl_litDg0 (by rfl) rfl (by rfl) ?_
 rintro A3 w3 f3 b3
 have s3 := b3.size
 replace hw := hw.trans (b3.mono hw.size)
 refine wl_p (fun _ => o_move rfl) ?_
 refine wl_appDg0 rfl f3 rfl hw.size ?_
 rintro A5 c5 w5 b5
 have s5 := b5.size
 replace hw := hw.trans (b5.mono hw.size)
 replace f3 := f3.u b5
 refine wl_p (fun _ => o_assign rfl) ?_
 refine wl_nil ?_
 refine ret1 rfl rfl ?_
 exact ⟨_, _, rfl, hw⟩
theorem C_kOwnBlock {u : Ky} {M G : List Value} {N0 D : Option Addr} {nc n c : Nat} {p : By} (w : World) (hS : BkS M G) (hD : Rd w D p) (hn : n = p.length) (hp : p.length ≤ 4000000000) :
  CallsR Tryz.prog 23 [.agg (bkC u M N0 nc D n c G).toArray] w fun v w' => ∃ N' nc' D' c', v = .agg (bkC u M N' nc' D' p.length c' G).toArray ∧ OwnH w' w.heap.size w'.heap.size D' c' p ∧ Below w.heap.size w w' := by
 subst hn
 refine callsR Tryz.func23 rfl rfl (by kernel_rfl) rfl ?_
 have hw := Below.refl w.heap.size w
 refine rk_seq ?_
 refine rk_region ?_
 refine wl_boxg _ rfl (by rfl) ?_
 rintro g1 w1 f1 b1 i1 i1_1
 have s1 := b1.size
 replace hw := hw.trans (b1.mono hw.size)
 refine wl_allocBk ?_
 rintro g2 w2 f2 b2 i2 i2_1
 have s2 := b2.size
 replace hw := hw.trans (b2.mono hw.size)
 replace f1 := f1.u b2
 refine wl_nil ?_
 refine rk_seq ?_
 refine rk_drawo (id := 1) (none) [0, 1, 2, 0, 8, 20, 31, 127, 255, 511] [0, 1, 3, 0, 8, 31, 31, 127, 255, 511] 676 4 [0, 1, 3, 4, 2, 6, 5, 7, 8, 9] [(.p, 0), (.r, 1), (.p, 3), (.s, 4), (.c, 2), (.p, 6), (.l, 5), (.l, 7), (.p, 8), (.l, 9)] (by kernel_rfl) (by kernel_rfl) (by kernel_rfl) (by kernel_rfl) (by kernel_rfl) ?_
 dsimp only [inOrder, nthOp]
 replace hw := hw.drew
 replace f1 := f1.d
 replace f2 := f2.d
 refine wl_p (fun _ => o_faddr (s := 49) (i := 3) (off := 65) Tryz.underlying49 rfl Tryz.sizeOf45 rfl rfl rfl) ?_
 refine wl_r (o_ldBkL rfl f1 (by omega)) ?_
 refine wl_p (fun _ => o_faddr (s := 49) (i := 4) (off := 66) Tryz.underlying49 rfl Tryz.sizeOf39 rfl rfl rfl) ?_
 refine wl_s (fun _ hk => (o_ldBkDt rfl (f1.u (below_of_grown_none hk)) hS)) ?_
 refine wl_call rfl (C_kNames0 _) ?_ (hq := .inr fun _ _ h => grown_of_below h.choose_spec.choose_spec.2 _)
 rintro v5 w5 ⟨A5, ⟨c5, ⟨rfl, b5⟩⟩⟩
 simp only [drew_size] at b5
 have s5 := b5.size
 simp only [drew_size] at s5
 replace hw := hw.trans (b5.mono hw.size)
 replace f2 := f2.u b5
 replace f1 := f1.u b5
 refine wl_p (fun _ => o_faddr (s := 49) (i := 3) (off := 65) Tryz.underlying49 rfl Tryz.sizeOf45 rfl rfl rfl) ?_
 refine wl_call rfl (C_kOwn _ (hD.u hw) rfl (by omega)) ?_
 rintro v8 w8 ⟨A8, ⟨c8, ⟨rfl, ⟨f8, b8⟩⟩⟩⟩
 have qf8 := f8.cap
 have s8 := b8.size
 replace hw := hw.trans (b8.mono hw.size)
 replace f1 := f1.u b8
 replace f2 := f2.u b8
 refine wl_stBkL rfl f1 rfl (by omega) ?_
 rintro w_1 f g e
 have s := g.size
 replace hw := hw.trans (below_of_grownBy g.g hw.size (by omega))
 replace f2 := f2.k g.g (ap_some (by omega))
 replace f8 := f8.k g.g (ap_some (by omega))
 clear f1
 refine wl_p (fun _ => o_faddr (s := 49) (i := 4) (off := 66) Tryz.underlying49 rfl Tryz.sizeOf39 rfl rfl rfl) ?_
 refine wl_stBkD rfl f rfl (by omega) ?_
 rintro w_2 f_1 g_1 e_1
 have s_1 := g_1.size
 replace hw := hw.trans (below_of_grownBy g_1.g hw.size (by omega))
 replace f8 := f8.k g_1.g (ap_some (by omega))
 replace f2 := f2.k g_1.g (ap_some (by omega))
 clear f
 refine wl_nild ?_
 refine rk_seq ?_
 refine rk_region ?_
 refine wl_r (o_ldBkA rfl f_1 (by omega)) ?_
 refine wl_stBkB rfl f2 bkS0 rfl (by omega) ?_
 rintro w_3 f g_2 e_2
 have s_2 := g_2.size
 replace hw := hw.trans (below_of_grownBy g_2.g hw.size (by omega))
 replace f8 := f8.k g_2.g (ap_some (by omega))
 replace f_1 := f_1.k g_2.g (ap_some (by omega))
 clear f2
 refine wl_nil ?_
 refine ret_cell rfl rfl Tryz.isAgg49 Tryz.sizeOf49 f (bkC_length hS) ?_
 exact ⟨A5, c5, A8, c8, rfl, f8.base (by omega) (by omega), hw⟩
def LtB (L : List Bk) : Prop := ∀ b ∈ L, b.2.length ≤ 4000000
theorem C_kOwnBlocks {A : Option Addr} {L : List Bk} {n c : Nat} (w : World) (hA : RBk w A L) (hn : n = L.length) (hl : L.length ≤ 40000) (hL : LtB L) :
  CallsR Tryz.prog 12 [.slice A n c] w fun v w' => ∃ A' c', v = .slice A' L.length c' ∧ OwnB w' w.heap.size w'.heap.size A' c' L ∧ Below w.heap.size w w' := by
 subst hn
 refine callsR Tryz.func12 rfl rfl (by kernel_rfl) rfl ?_
 have hw := Below.refl w.heap.size w
 refine rk_seq ?_
 refine rk_region ?_
 refine wl_p (fun _ => o_assign rfl) ?_
 refine wl_nil ?_
 refine rk_seq ?_
 refine rk_region ?_
 refine wl_p (fun _ => o_assign rfl) ?_
 refine wl_nil ?_
 refine rk_seq ?_
 refine rk_seq ?_
 refine rk_region ?_
 refine wl_p (fun _ => o_assign rfl) ?_
 refine wl_nil ?_
 refine rk_block ?_
 refine rk_joinf (fun fb fr w3 => ∃ A' c', fr = [(3, .slice A' L.length c')] ++ fb.drop 2 ∧ OwnB w3 w.heap.size w3.heap.size A' c' L ∧ Below w.heap.size w w3) ?_ (fun ks hj => ?_)
 rotate_left
 ·refine rk_loopf (fun fb k fr w3 => ∃ (i : Nat) (v : Int) (A' : Option Addr) (c' : Nat) (J : List Bk), fr = [(4, .int .i64 v), (3, .slice A' J.length c')] ++ fb.drop 2 ∧ v = i ∧ i ≤ L.length ∧ k = L.length - i ∧ J = L.take i ∧ OwnB w3 w.heap.size w3.heap.size A' c' J ∧ Below w.heap.size w w3) (n := L.length) (Fr.le_of (by kernel_rfl) (by kernel_rfl) (by repeat' constructor)) ⟨0, _, none, _, [], rfl, rfl, by omega, rfl, rfl, OwnB.nil_, hw⟩ ?_
  clear hw
  rintro k fr w3 ⟨i, v, A', c', J, rfl, rfl, hi, rfl, hJ, fo, hw⟩
  have shw := hw.size
  have hJl : J.length = i := by rw [hJ, List.length_take]; omega
  first | refine rk_frame (by simp only [List.cons_append, List.nil_append, List.drop_succ_cons, List.drop_zero]; rfl) ?_ | refine wl_frame (by simp only [List.cons_append, List.nil_append, List.drop_succ_cons, List.drop_zero]; rfl) ?_
  refine rk_seq ?_
  refine rk_seq ?_
  refine rk_region ?_
  refine wl_p (fun _ => o_move rfl) ?_
  refine wl_p (fun _ => o_move rfl) ?_
  refine wl_p (fun _ => o_len (t := 25) Tryz.underlying25 rfl) ?_
  refine wl_p (fun _ => o_lt rfl rfl) ?_
  refine wl_nil ?_
  refine rk_if rfl (fun h8 => ?_) (fun h8 => ?_)
  ·have hil : i < L.length := by omega
   have n1 := hL _ (List.getElem_mem hil)
   refine rk_skip ?_
   refine rk_seq ?_
   refine rk_block ?_
   refine rk_region ?_
   refine wl_p (fun _ => o_move rfl) ?_
   refine wl_p (fun _ => o_move rfl) ?_
   refine wl_p (fun _ => o_move rfl) ?_
   refine wl_p (fun _ => (o_iaddrA (i) Tryz.underlying25 Tryz.sizeOf49 rfl rfl rfl (hA.some_ (by omega)) (by omega))) ?_
   refine wl_ldBk rfl hA hw (by omega) ?_
   rintro M15 N15 nc15 D15 c15 G15 i15 f15 i15_1 i15_2
   refine wl_call rfl (C_kOwnBlock _ (by omega) (f15.u hw) rfl (by omega)) ?_
   rintro v16 w16 ⟨N16, ⟨nc16, ⟨D16, ⟨c16, ⟨rfl, ⟨f16, b16⟩⟩⟩⟩⟩⟩
   have qf16 := f16.cap
   have s16 := b16.size
   replace hw := hw.trans (b16.mono hw.size)
   replace fo := fo.u b16
   have m1 := own_max f16
   refine wl_litBk1 (by rfl) rfl (by omega) f16.to_RdT rfl (by omega) (by omega) (by rfl) ?_
   rintro A17 w17 f17 b17
   have qf17 := f17.cap
   have s17 := b17.size
   replace hw := hw.trans (b17.mono hw.size)
   replace fo := fo.u b17
   replace f16 := f16.u b17
   refine wl_appBk rfl fo rfl rfl f17.to_RBT (by rfl) (by omega) hw.size ?_
   rintro A18 c18 w18 f18 g18 b18
   have qf18 := f18.cap
   have s18 := g18.size
   replace hw := hw.trans (b18.mono (by omega))
   replace f16 := f16.y g18 (by decide)
   replace f17 := f17.q g18 (fo.ap (by omega)) (by decide)
   clear fo
   refine wl_p (fun _ => o_assign rfl) ?_
   refine wl_nil ?_
   refine rk_blk ?_
   refine rk_region ?_
   refine wl_p (fun _ => o_move rfl) ?_
   refine wl_p (fun _ => o_add rfl rfl (by omega) (by omega)) ?_
   refine wl_p (fun _ => o_assign rfl) ?_
   refine wl_nil ?_
   exact rk_againf (Fr.le_of (by kernel_rfl) (by kernel_rfl) (by repeat' constructor)) ⟨i + 1, (i : Int) + 1, A18, c18, J ++ [(L[i].1, L[i].2)], rfl, by omega, by omega, rfl, by rw [hJ, List.take_succ_eq_append_getElem hil], f18, hw⟩ (by omega)
  ·refine rk_exit rfl ?_
   obtain rfl : i = L.length := by omega
   rw [List.take_length] at hJ
   subst hJ
   exact rk_tof hj (Fr.le_of (by kernel_rfl) (by kernel_rfl) (by repeat' constructor)) ⟨A', c', rfl, fo, hw⟩
 clear hw
 rintro fr w3 ⟨A', c', rfl, fo, hw⟩
 have shw := hw.size
 first | refine rk_frame (by simp only [List.cons_append, List.nil_append, List.drop_succ_cons, List.drop_zero]; rfl) ?_ | refine wl_frame (by simp only [List.cons_append, List.nil_append, List.drop_succ_cons, List.drop_zero]; rfl) ?_
 refine rk_seq ?_
 refine rk_region ?_
 refine wl_p (fun _ => o_move rfl) ?_
 refine wl_p (fun _ => o_assign rfl) ?_
 refine wl_nil ?_
 refine ret1 rfl rfl ?_
 exact ⟨A', c', rfl, fo, hw⟩
end Go.Proofs.YtahkeoegbjopfaaGreat
/-
  Plain laws of chapter 22: what a step does to a valid state, what Get answers then.
-/
namespace Go.Proofs.YtahkeoegbjopfaaGreat
set_option maxRecDepth 100000
open Go.RowKit
structure StepW (S : Stt) (o : Opn) (T : Stt) : Prop where
 get : ∀ p, p ≠ o.2.1 → ∀ v, (p, v) ∈ T.1 ↔ (p, v) ∈ S.1
 k1 : o.1 = 1 → (o.2.1, o.2.2.1) ∈ T.1
 k2 : o.1 = 2 → o.2.1 ∉ T.1.map Prod.fst ∧ o.2.1 ∈ S.1.map Prod.fst
 k36 : o.1 ≠ 1 → o.1 ≠ 2 → T.1 = S.1
 k3 : o.1 = 3 → o.2.2.2 ∈ T.2.1 ∧ o.2.2.2 ∉ S.2.1
 k4 : o.1 = 4 → o.2.2.2 ∉ T.2.1 ∧ o.2.2.2 ∈ S.2.1
 k5 : o.1 = 5 → o.2.2.2 ∈ T.2.2 ∧ o.2.2.2 ∉ S.2.2 ∧ T.2.2.length = S.2.2.length + 1
 k6 : o.1 ≠ 1 → o.1 ≠ 2 → o.1 ≠ 3 → o.1 ≠ 4 → o.1 ≠ 5 → o.2.2.2 ∉ T.2.2 ∧ o.2.2.2 ∈ S.2.2 ∧ T.2.2.length + 1 = S.2.2.length
theorem delS_mem {I : List (By × By)} {p : By} (h : (delS I p).2 = true) : p ∈ I.map Prod.fst := by
 unfold delS at h
 split at h
 ·assumption
 ·cases h
theorem stepS_spec {S : Stt} {wr : Ky} {o : Opn} (h : OkSt S.1 S.2.1 S.2.2) : OkSt (stepS S wr o).1.1 (stepS S wr o).1.2.1 (stepS S wr o).1.2.2 ∧ ((stepS S wr o).2 = false → (stepS S wr o).1 = S) ∧ ((stepS S wr o).2 = true → StepW S o (stepS S wr o).1) := by
 obtain ⟨I, X, Y⟩ := S
 obtain ⟨k, p, q, u⟩ := o
 obtain ⟨⟨h1, h2⟩, ⟨h3, h4⟩, h5, h6, h7⟩ := id h
 unfold stepS stS
 rw [if_pos h]
 dsimp only at h1 h2 h3 h4 h5 h6 h7 ⊢
 by_cases hm : mayS (I, X, Y) wr k p.length q.length u
 ·rw [if_pos hm]
  obtain ⟨m1, m2, m3⟩ := hm
  unfold okOp at m1
  simp only [Bool.and_eq_true, decide_eq_true_eq] at m1
  obtain ⟨⟨ma, mb⟩, mg⟩ := m1
  unfold doS
  dsimp only
  by_cases e1 : k = 1
  ·subst e1
   obtain ⟨g1, g2, g3, _⟩ := goodS_1 mg
   obtain ⟨p1, p2, p3, p4⟩ := putS_spec (p := p) (q := q) h5 ⟨g1, g2⟩ g3
   rw [if_pos rfl]
   refine ⟨⟨⟨p3 h1, h2⟩, ⟨h3, h4⟩, p1, h6, h7⟩, fun e => by rw [p2 e], fun e => ?_⟩
   obtain ⟨q1, q2⟩ := p4 e
   exact ⟨fun x hx v => q2 x v hx, fun _ => q1, fun e => (by simp at e), fun e => absurd rfl e, fun e => (by simp at e), fun e => (by simp at e), fun e => (by simp at e), fun e => absurd rfl e⟩
  rw [if_neg e1]
  by_cases e2 : k = 2
  ·subst e2
   obtain ⟨p1, p2, p3, p4⟩ := delS_spec (p := p) h5
   rw [if_pos rfl]
   refine ⟨⟨⟨by show (delS I p).1.length ≤ 1024; omega, h2⟩, ⟨h3, h4⟩, p1, h6, h7⟩, fun e => by rw [p2 e], fun e => ?_⟩
   obtain ⟨q1, q2⟩ := p4 e
   exact ⟨fun x hx v => q2 x v hx, fun e => (by simp at e), fun _ => ⟨q1, delS_mem e⟩, fun _ e => absurd rfl e, fun e => (by simp at e), fun e => (by simp at e), fun e => (by simp at e), fun _ e => absurd rfl e⟩
  rw [if_neg e2]
  by_cases e3 : k = 3
  ·subst e3
   obtain ⟨p1, p2, p3⟩ := addS_spec (u := u) (m := 16) h6
   rw [if_pos rfl]
   refine ⟨⟨⟨h1, ?_⟩, ⟨h3, h4⟩, h5, p1, h7⟩, fun e => by rw [p2 e], fun e => ?_⟩
   ·show (addS X u 16).1.length ≤ 16
    cases hb : (addS X u 16).2
    ·rw [p2 hb]; exact h2
    ·have := (p3 hb).2.1; have := (p3 hb).2.2.1; omega
   ·obtain ⟨q1, q2, q3, q4⟩ := p3 e
    exact ⟨fun x hx v => Iff.rfl, fun e => (by simp at e), fun e => (by simp at e), fun _ _ => rfl, fun _ => ⟨(q4 u).2 (.inl rfl), q1⟩, fun e => (by simp at e), fun e => (by simp at e), fun _ _ e => absurd rfl e⟩
  rw [if_neg e3]
  by_cases e4 : k = 4
  ·subst e4
   obtain ⟨p1, p2, p3⟩ := dropS_spec (u := u) (m := 0) h6
   rw [if_pos rfl]
   refine ⟨⟨⟨h1, ?_⟩, ⟨h3, h4⟩, h5, p1, h7⟩, fun e => by rw [p2 e], fun e => ?_⟩
   ·show (dropS X u 0).1.length ≤ 16
    cases hb : (dropS X u 0).2
    ·rw [p2 hb]; exact h2
    ·have := (p3 hb).2.2.1; omega
   ·obtain ⟨q1, q2, q3, q4⟩ := p3 e
    exact ⟨fun x hx v => Iff.rfl, fun e => (by simp at e), fun e => (by simp at e), fun _ _ => rfl, fun e => (by simp at e), fun _ => ⟨fun hu => ((q4 u).1 hu).2 rfl, q1⟩, fun e => (by simp at e), fun _ _ _ e => absurd rfl e⟩
  rw [if_neg e4]
  by_cases e5 : k = 5
  ·subst e5
   obtain ⟨p1, p2, p3⟩ := addS_spec (u := u) (m := 16) h7
   rw [if_pos rfl]
   refine ⟨⟨⟨h1, h2⟩, ?_, h5, h6, p1⟩, fun e => by rw [p2 e], fun e => ?_⟩
   ·show 1 ≤ (addS Y u 16).1.length ∧ (addS Y u 16).1.length ≤ 16
    cases hb : (addS Y u 16).2
    ·rw [p2 hb]; exact ⟨h3, h4⟩
    ·have := (p3 hb).2.1; have := (p3 hb).2.2.1; omega
   ·obtain ⟨q1, q2, q3, q4⟩ := p3 e
    exact ⟨fun x hx v => Iff.rfl, fun e => (by simp at e), fun e => (by simp at e), fun _ _ => rfl, fun e => (by simp at e), fun e => (by simp at e), fun _ => ⟨(q4 u).2 (.inl rfl), q1, q3⟩, fun _ _ _ _ e => absurd rfl e⟩
  rw [if_neg e5]
  obtain ⟨p1, p2, p3⟩ := dropS_spec (u := u) (m := 1) h7
  refine ⟨⟨⟨h1, h2⟩, ?_, h5, h6, p1⟩, fun e => by rw [p2 e], fun e => ?_⟩
  ·show 1 ≤ (dropS Y u 1).1.length ∧ (dropS Y u 1).1.length ≤ 16
   cases hb : (dropS Y u 1).2
   ·rw [p2 hb]; exact ⟨h3, h4⟩
   ·have := (p3 hb).2.1; have := (p3 hb).2.2.1; omega
  ·obtain ⟨q1, q2, q3, q4⟩ := p3 e
   exact ⟨fun x hx v => Iff.rfl, fun e => absurd e e1, fun e => absurd e e2, fun _ _ => rfl, fun e => absurd e e3, fun e => absurd e e4, fun e => absurd e e5, fun _ _ _ _ _ => ⟨fun hu => ((q4 u).1 hu).2 rfl, q1, q3⟩⟩
 ·rw [if_neg hm]
  exact ⟨h, fun _ => rfl, fun e => by cases e⟩
end Go.Proofs.YtahkeoegbjopfaaGreat
/-
  Walks of package ops: Fold, Apply.
-/
namespace Go.Proofs.YtahkeoegbjopfaaGreat
set_option maxRecDepth 100000
open Go.RowKit
def opsS (S : Stt) (u : Ky) (L : List Opn) : Stt := L.foldl (fun T o => (stS T u o).1) S
def blockS (S : Stt) (b : Bk) : Stt := opsS S b.1 (readO b.2).1
def foldS (S : Stt) (L : List Bk) : Stt := L.foldl blockS S
abbrev OkT (S : Stt) : Prop := OkSt S.1 S.2.1 S.2.2
theorem stS_step {S : Stt} (h : OkT S) (u : Ky) (o : Opn) : stS S u o = stepS S u o := by unfold stepS; rw [if_pos h]
theorem stS_ok {S : Stt} (h : OkT S) (u : Ky) (o : Opn) : OkT (stS S u o).1 := by rw [stS_step h]; exact (stepS_spec h).1
theorem opsS_ok {u : Ky} : ∀ (L : List Opn) {S : Stt}, OkT S → OkT (opsS S u L)
 | [], _, h => h
 | o :: L, S, h => opsS_ok L (stS_ok h u o)
theorem blockS_ok {S : Stt} (h : OkT S) (b : Bk) : OkT (blockS S b) := opsS_ok _ h
theorem foldS_ok : ∀ (L : List Bk) {S : Stt}, OkT S → OkT (foldS S L)
 | [], _, h => h
 | b :: L, S, h => foldS_ok L (blockS_ok h b)
theorem opsS_snoc (S : Stt) (u : Ky) (L : List Opn) (o : Opn) : opsS S u (L ++ [o]) = (stS (opsS S u L) u o).1 := by simp [opsS]
theorem foldS_snoc (S : Stt) (L : List Bk) (b : Bk) : foldS S (L ++ [b]) = blockS (foldS S L) b := by simp [foldS]
theorem readO_nil {b : By} {L : List Opn} {e : Nat} (h : readO b = (L, e)) (he : e ≠ 0) : L = [] := by
 unfold readO at h
 repeat' split at h
 all_goals first | (injection h with h1 h2; exact h1.symm) | (injection h with h1 h2; exact absurd h2.symm he)
theorem readO_ok (b : By) : ∀ o ∈ (readO b).1, o.2.1.length ≤ 4000000 ∧ o.2.2.1.length ≤ 4000000 := by
 obtain ⟨⟨L, e⟩, h⟩ : ∃ r, readO b = r := ⟨_, rfl⟩
 rw [h]
 by_cases he : e = 0
 ·subst he
  obtain ⟨_, h2, _⟩ := bytesO_ok (readO_back h)
  intro o ho
  have h4 := h2 o ho
  unfold okO okOp at h4
  simp only [Bool.and_eq_true] at h4
  obtain ⟨h5, h6⟩ := goodS_le h4.2
  omega
 ·rw [readO_nil h he]
  intro o ho
  cases ho
theorem readO_len (b : By) : (readO b).1.length ≤ 8 := by
 obtain ⟨⟨L, e⟩, h⟩ : ∃ r, readO b = r := ⟨_, rfl⟩
 rw [h]
 by_cases he : e = 0
 ·subst he
  exact (bytesO_ok (readO_back h)).1
 ·rw [readO_nil h he]
  exact Nat.zero_le _
theorem OwnO.some_ {w : World} {lo hi cp : Nat} {A : Option Addr} {L : List Opn} (h : OwnO w lo hi A cp L) (hl : 0 < L.length) : A = some (A.getD ⟨0, 0, none⟩) := RO.some_ h.to_RO hl
theorem gOp_T {w : World} {cs : List Value} {o : Opn} (h : gOp.T w cs o) : ∃ K c V d, cs = opC o.1 K o.2.1.length c V o.2.2.1.length d o.2.2.2 ∧ RdT w K o.2.1 ∧ RdT w V o.2.2.1 ∧ o.2.1.length ≤ c ∧ c ≤ maxLen ∧ o.2.2.1.length ≤ d ∧ d ≤ maxLen ∧ (Lit.int .i64 o.1).wf = true := by
 obtain ⟨_, _, rfl, ⟨rfl, hk⟩, _, _, rfl, ⟨K, c, rfl, h1, h2, h3⟩, _, _, rfl, ⟨V, d, rfl, h4, h5, h6⟩, h7⟩ := h
 obtain ⟨rfl⟩ : _ = B8 o.2.2.2.1 := h7
 exact ⟨K, c, V, d, rfl, h1, h4, h2, h3, h5, h6, hk⟩
section
variable {fn : Func} {F : Ending → World → Prop} {N : Nat} {ks : List K} {ops : Array Oper} {tg : Tags} {l : List Oper} {fr : Fr} {w : World} {ty : TypeId} {pos : String} {aft : Array Edge} {gd : Option (Nat × Bool)} {d0 j : Nat} {x : Operand} {A : Option Addr} {L : List Opn}
theorem wl_ldOpT (hx : fr.ev x = some (.pointer (some (adr A (j * 35))))) (hr : ROT w A L) (hj : j < L.length)
  (hk : ∀ K c V d, RdT w K L[j].2.1 → RdT w V L[j].2.2.1 → L[j].2.1.length ≤ c → c ≤ maxLen → L[j].2.2.1.length ≤ d → d ≤ maxLen → (Lit.int .i64 L[j].1).wf = true → WL Tryz.prog fn F N ks ops tg.tail l ((d0, .agg (opC L[j].1 K L[j].2.1.length c V L[j].2.2.1.length d L[j].2.2.2).toArray) :: fr) w)
  (ht : tg.reads = true := by rfl) (hg : onG ops fr gd = true := by rfl) (hd : Nat.blt d0 N = true := by rfl) : WL Tryz.prog fn F N ks ops tg (⟨some d0, .load 54 x, ty, pos, aft, gd⟩ :: l) fr w := by
 obtain ⟨xs, h1, _, h2⟩ := hr
 have hc : CellsAt w A (j * 35) (part xs 35 j) := h1.cellsAt hj (show 0 < 35 by decide)
 obtain ⟨K, c, V, d, e, h3, h4, h5, h6, h7, h8, h9⟩ := gOp_T (h2 j hj)
 have e' : part xs 35 j = _ := e
 rw [e'] at hc
 refine wl_r (o_loadn (cs := opC L[j].1 K L[j].2.1.length c V L[j].2.2.1.length d L[j].2.2.2) Tryz.isAgg54 (by rw [opC_length]; exact Tryz.sizeOf54) hx (fun i u hu => ?_)) (hk K c V d h3 h4 h5 h6 h7 h8 h9) ht hg hd
 rw [adr_add]
 exact hc i u hu
end
set_option maxHeartbeats 4000000 in
set_option maxRecDepth 100000 in
theorem K_fold {A B C D : Option Addr} {S : Stt} {L : List Bk} {n c m d q e r s : Nat} (w : World) (hA : RI w A S.1) (hB : RKs w B S.2.1) (hC : RKs w C S.2.2) (hD : RBk w D L) (hn : n = S.1.length) (hm : m = S.2.1.length) (hq : q = S.2.2.length) (hr : r = L.length) (hl : S.1.length ≤ 400000) (hl2 : S.2.1.length ≤ 400000) (hl3 : S.2.2.length ≤ 400000) (hL : LtI S.1) (hl4 : L.length ≤ 40000) (hLB : LtB L) (hok : OkT S) :
  CallsR Tryz.prog 10 [.agg #[.slice A n c, .slice B m d, .slice C q e], .slice D r s] w fun v w' => ∃ A' c' B' d' C' e', v = .agg #[.slice A' (foldS S L).1.length c', .slice B' (foldS S L).2.1.length d', .slice C' (foldS S L).2.2.length e'] ∧ OwnI w' w.heap.size w'.heap.size A' c' (foldS S L).1 ∧ OwnKs w' w.heap.size w'.heap.size B' d' (foldS S L).2.1 ∧ OwnKs w' w.heap.size w'.heap.size C' e' (foldS S L).2.2 ∧ Below w.heap.size w w' := by
 subst hn; subst hm; subst hq; subst hr
 refine callsR Tryz.func10 rfl rfl (by kernel_rfl) rfl ?_
 have hw := Below.refl w.heap.size w
 refine rk_seq ?_
 refine rk_region ?_
 refine wl_boxg [_, _, _] rfl (by rfl) ?_
 rintro g2 w2 f2 b2 i2 i2_1
 have s2 := b2.size
 replace hw := hw.trans (b2.mono hw.size)
 refine wl_allocg [_, _, _] Tryz.zeroValue31 (by rfl) ?_
 rintro g4 w4 f4 b4 i4 i4_1
 have s4 := b4.size
 replace hw := hw.trans (b4.mono hw.size)
 replace f2 := f2.u b4
 refine wl_nil ?_
 refine rk_seq ?_
 refine rk_region ?_
 refine wl_r (o_loadag Tryz.isAgg31 Tryz.sizeOf31 rfl f2 (by rfl)) ?_
 refine wl_call rfl (C_clone _ (hA.u hw) (hB.u hw) (hC.u hw) rfl rfl rfl (by omega) (by omega) (by omega) (by omega)) ?_
 rintro v12 w12 ⟨A12, ⟨c12, ⟨B12, ⟨d12, ⟨C12, ⟨e12, ⟨m112, ⟨m212, ⟨rfl, ⟨f12, ⟨f12_1, ⟨f12_2, ⟨i12, ⟨i12_1, ⟨i12_2, b12⟩⟩⟩⟩⟩⟩⟩⟩⟩⟩⟩⟩⟩⟩⟩
 have qf12 := f12.cap
 have qf12_1 := f12_1.cap
 have qf12_2 := f12_2.cap
 have s12 := b12.size
 replace hw := hw.trans (b12.mono hw.size)
 replace f2 := f2.u b12
 replace f4 := f4.u b12
 refine wl_storega Tryz.sizeOf31 rfl rfl (by rfl) (oneCell_of (by rfl)) f2 (by rfl) ?_
 rintro w_1 f g e_1
 have s_1 := g.size
 replace hw := hw.trans (below_of_grownBy g.g hw.size (by omega))
 replace f4 := f4.k g.g (ap_some (by omega))
 replace f12_2 := f12_2.y g (by decide)
 replace f12_1 := f12_1.y g (by decide)
 replace f12 := f12.y g (by decide)
 clear f2
 refine wl_nil ?_
 refine rk_seq ?_
 refine rk_seq ?_
 refine rk_region ?_
 refine wl_r (o_loadag Tryz.isAgg31 Tryz.sizeOf31 rfl f (by rfl)) ?_
 refine wl_call rfl (C_checkStateOk _ f12.to_RI f12_1.to_RKs f12_2.to_RKs rfl rfl rfl (by omega) (by omega) (by omega) (by omega) (by omega)) ?_
 rintro v14 w14 ⟨rfl, b14⟩
 have s14 := b14.size
 replace hw := hw.trans (b14.mono hw.size)
 replace f12 := f12.u b14
 replace f12_1 := f12_1.u b14
 replace f12_2 := f12_2.u b14
 replace f4 := f4.u b14
 replace f := f.u b14
 refine wl_p (fun _ => o_ne rfl rfl) ?_
 refine wl_nil ?_
 refine rk_false rfl ?_
 refine rk_skip ?_
 refine rk_seq ?_
 refine rk_seq ?_
 refine rk_region ?_
 refine wl_p (fun _ => o_move rfl) ?_
 refine wl_p (fun _ => o_len (t := 25) Tryz.underlying25 rfl) ?_
 refine wl_p (fun _ => o_move rfl) ?_
 refine wl_nil ?_
 refine rk_block ?_
 have hS0 : StAt w14 w4.heap.size g2 S := ⟨A12, c12, B12, d12, C12, e12, f, f12.base (Nat.le_refl _) (by omega), f12_1.base (by omega) (by omega), f12_2.base (by omega) (by omega), fun k hk e => by
  have x1 := (f12_1.rng k hk).2
  have x2 := (f12_2.rng k e).1
  omega, by omega⟩
 have s40 : w.heap.size ≤ w4.heap.size := by omega
 have s41 : w.heap.size ≤ g2 := by omega
 have s42 : w.heap.size ≤ g4 := by omega
 have s43 : g2 < w4.heap.size := by omega
 have s44 : g4 < w4.heap.size := by omega
 have s45 : g2 < g4 := by omega
 refine rk_joinf (fun fb fr V => fr = [] ++ fb.drop 1 ∧ StAt V w4.heap.size g2 (foldS S L) ∧ Blk V g4 31 [.slice none 0 0, .slice none 0 0, .slice none 0 0] ∧ w14.heap.size ≤ V.heap.size ∧ Below w.heap.size w V) ?_ (fun ks hj => ?_)
 rotate_left
 ·refine rk_loopf (fun fb k fr V => ∃ (i : Nat) (v : Int) (T : Stt), fr = [(19, .int .i64 v)] ++ fb.drop 1 ∧ v = i ∧ i ≤ L.length ∧ k = L.length - i ∧ T = foldS S (L.take i) ∧ StAt V w4.heap.size g2 T ∧ Blk V g4 31 [.slice none 0 0, .slice none 0 0, .slice none 0 0] ∧ w14.heap.size ≤ V.heap.size ∧ Below w.heap.size w V) (n := L.length) (Fr.le_of (by kernel_rfl) (by kernel_rfl) (by repeat' constructor)) ⟨0, _, S, rfl, rfl, by omega, rfl, rfl, hS0, f4, Nat.le_refl _, hw⟩ ?_
  clear hw f12 f12_1 f12_2 f f4 hS0
  rintro k fr V ⟨i, v, T, rfl, rfl, hi, rfl, hT, hS, f4, hsz, hw⟩
  have shw := hw.size
  have hokT : OkT T := by rw [hT]; exact foldS_ok _ hok
  first | refine rk_frame (by simp only [List.cons_append, List.nil_append, List.drop_succ_cons, List.drop_zero]; rfl) ?_ | refine wl_frame (by simp only [List.cons_append, List.nil_append, List.drop_succ_cons, List.drop_zero]; rfl) ?_
  refine rk_seq ?_
  refine rk_region ?_
  refine wl_p (fun _ => o_lt rfl rfl) ?_
  refine wl_nil ?_
  refine rk_seq ?_
  refine rk_if rfl (fun h20 => ?_) (fun h20 => ?_)
  ·have hil : i < L.length := by omega
   have n1 := hLB _ (List.getElem_mem hil)
   obtain ⟨A, ca, A2, c2, A3, c3, f0, f1, f2, f3, q7, q8⟩ := hS.ex
   obtain ⟨⟨U, eU⟩, hU⟩ : ∃ r, readO L[i].2 = r := ⟨_, rfl⟩
   have e1 : ReadR L[i].2 U eU := ⟨hU⟩
   have hUl : U.length ≤ 8 := by have := readO_len L[i].2; rwa [hU] at this
   have hUo : ∀ o ∈ U, o.2.1.length ≤ 4000000 ∧ o.2.2.1.length ≤ 4000000 := by have := readO_ok L[i].2; rwa [hU] at this
   clear hS
   refine rk_skip ?_
   refine rk_seq ?_
   refine rk_block ?_
   refine rk_seq ?_
   refine rk_region ?_
   refine wl_p (fun _ => (o_iaddrA (i) Tryz.underlying25 Tryz.sizeOf49 rfl rfl rfl (hD.some_ (by omega)) (by omega))) ?_
   refine wl_ldBk rfl hD hw (by omega) ?_
   rintro M22 N22 nc22 D22 c22 G22 i22 f22 i22_1 i22_2
   refine wl_allocBk ?_
   rintro g6 w6 f6 b6 i6 i6_1
   have s6 := b6.size
   replace hw := hw.trans (b6.mono hw.size)
   replace f3 := f3.u b6
   replace f2 := f2.u b6
   replace f1 := f1.u b6
   replace f0 := f0.u b6
   replace f4 := f4.u b6
   refine wl_stBkB rfl f6 bkS0 rfl (by omega) ?_
   rintro w_2 f g_1 e_2
   have s_2 := g_1.size
   replace hw := hw.trans (below_of_grownBy g_1.g hw.size (by omega))
   replace f4 := f4.k g_1.g (ap_some (by omega))
   replace f0 := f0.k g_1.g (ap_some (by omega))
   replace f1 := f1.y g_1 (by decide)
   replace f2 := f2.y g_1 (by decide)
   replace f3 := f3.y g_1 (by decide)
   clear f6
   refine wl_nil ?_
   refine rk_seq ?_
   refine rk_region ?_
   refine wl_p (fun _ => o_faddr (s := 49) (i := 4) (off := 66) Tryz.underlying49 rfl Tryz.sizeOf39 rfl rfl rfl) ?_
   refine wl_r (o_ldBkDt rfl f (by omega)) ?_
   refine wl_call rfl (C_opsReadN _ e1 (f22.u hw) rfl (by omega)) ?_
   rintro v26 w26 ⟨A26, ⟨c26, ⟨rfl, ⟨f26, b26⟩⟩⟩⟩
   have qf26 := f26.cap
   have s26 := b26.size
   replace hw := hw.trans (b26.mono hw.size)
   replace f3 := f3.u b26
   replace f2 := f2.u b26
   replace f1 := f1.u b26
   replace f0 := f0.u b26
   replace f4 := f4.u b26
   replace f := f.u b26
   refine wl_p (fun _ => o_move rfl) ?_
   refine wl_p (fun _ => o_ext20 rfl) ?_
   refine wl_p (fun _ => o_ext21 rfl) ?_
   refine wl_p (fun _ => o_assign rfl) ?_
   refine wl_p (fun _ => o_assign rfl) ?_
   refine wl_nil ?_
   refine rk_seq ?_
   refine rk_region ?_
   refine wl_p (fun _ => o_move rfl) ?_
   refine wl_p (fun _ => o_len (t := 35) Tryz.underlying35 rfl) ?_
   refine wl_p (fun _ => o_move rfl) ?_
   refine wl_nil ?_
   refine rk_block ?_
   have s26 : w4.heap.size ≤ w26.heap.size := by omega
   have hg6 : w4.heap.size ≤ g6 := by omega
   have hS1 : StAt w26 w4.heap.size g2 T := ⟨A, ca, A2, c2, A3, c3, f0, f1.base (Nat.le_refl _) (by omega), f2.base (Nat.le_refl _) (by omega), f3.base (Nat.le_refl _) (by omega), q7, by omega⟩
   refine rk_joinf (fun fb fr W => fr = [] ++ fb.drop 1 ∧ StAt W w4.heap.size g2 (opsS T L[i].1 U) ∧ Blk W g4 31 [.slice none 0 0, .slice none 0 0, .slice none 0 0] ∧ w14.heap.size ≤ W.heap.size ∧ Below w.heap.size w W) ?_ (fun ks hj => ?_)
   rotate_left
   ·refine rk_loopf (fun fb k fr W => ∃ (j : Nat) (v : Int) (T' : Stt), fr = [(31, .int .i64 v)] ++ fb.drop 1 ∧ v = j ∧ j ≤ U.length ∧ k = U.length - j ∧ T' = opsS T L[i].1 (U.take j) ∧ StAt W w4.heap.size g2 T' ∧ OwnO W w_2.heap.size w26.heap.size A26 c26 U ∧ Blk W g6 49 (bkC L[i].1 M22 N22 nc22 D22 L[i].2.length c22 G22) ∧ Blk W g4 31 [.slice none 0 0, .slice none 0 0, .slice none 0 0] ∧ w26.heap.size ≤ W.heap.size ∧ Below w.heap.size w W) (n := U.length) (Fr.le_of (by kernel_rfl) (by kernel_rfl) (by repeat' constructor)) ⟨0, _, T, rfl, rfl, by omega, rfl, rfl, hS1, f26, f, f4, Nat.le_refl _, hw⟩ ?_
    clear hw f0 f1 f2 f3 f4 f f26 hS1
    rintro k fr W ⟨j, v, T', rfl, rfl, hjU, rfl, hT', hS, f26, f6, f4, hszW, hw⟩
    have shwW := hw.size
    have hokT' : OkT T' := by rw [hT']; exact opsS_ok _ hokT
    have hwj := Below.refl W.heap.size W
    first | refine rk_frame (by simp only [List.cons_append, List.nil_append, List.drop_succ_cons, List.drop_zero]; rfl) ?_ | refine wl_frame (by simp only [List.cons_append, List.nil_append, List.drop_succ_cons, List.drop_zero]; rfl) ?_
    refine rk_seq ?_
    refine rk_region ?_
    refine wl_p (fun _ => o_lt rfl rfl) ?_
    refine wl_nil ?_
    refine rk_seq ?_
    refine rk_if rfl (fun h32 => ?_) (fun h32 => ?_)
    ·have hjl : j < U.length := by omega
     obtain ⟨n2, n3⟩ := hUo _ (List.getElem_mem hjl)
     obtain ⟨A, ca, A2, c2, A3, c3, f0, f1, f2, f3, q7, q8⟩ := hS.ex
     clear hS
     refine rk_skip ?_
     refine rk_seq ?_
     refine rk_block ?_
     refine rk_seq ?_
     refine rk_region ?_
     refine wl_p (fun _ => (o_iaddrA (j) Tryz.underlying35 Tryz.sizeOf54 rfl rfl rfl (f26.some_ (by omega)) (by omega))) ?_
     refine wl_ldOpT rfl f26.to_ROT (by omega) ?_
     rintro K34 c34 V34 d34 f34 f34_1 i34 i34_1 i34_2 i34_3 e34
     refine wl_allocOp ?_
     rintro g10 w10 f10 b10 i10 i10_1
     have s10 := b10.size
     replace hw := hw.trans (b10.mono hw.size)
     replace hwj := hwj.trans (b10.mono hwj.size)
     replace f34_1 := f34_1.u b10
     replace f34 := f34.u b10
     replace f3 := f3.u b10
     replace f2 := f2.u b10
     replace f1 := f1.u b10
     replace f0 := f0.u b10
     replace f4 := f4.u b10
     replace f6 := f6.u b10
     replace f26 := f26.u b10
     refine wl_stOpB rfl f10 rfl ?_
     rintro w_3 f g_2 e_3
     have s_3 := g_2.size
     replace hw := hw.trans (below_of_grownBy g_2.g hw.size (by omega))
     replace hwj := hwj.trans (below_of_grownBy g_2.g hwj.size (by omega))
     replace f26 := f26.q g_2 (ap_some (by omega)) (by decide)
     replace f6 := f6.k g_2.g (ap_some (by omega))
     replace f4 := f4.k g_2.g (ap_some (by omega))
     replace f0 := f0.k g_2.g (ap_some (by omega))
     replace f1 := f1.y g_2 (by decide)
     replace f2 := f2.y g_2 (by decide)
     replace f3 := f3.y g_2 (by decide)
     replace f34 := f34.y g_2 (by decide)
     replace f34_1 := f34_1.y g_2 (by decide)
     clear f10
     refine wl_nil ?_
     refine rk_region ?_
     refine wl_p (fun _ => o_faddr (s := 49) (i := 0) (off := 0) Tryz.underlying49 rfl Tryz.sizeOf42 rfl rfl rfl) ?_
     refine wl_r (o_ldBkW rfl f6) ?_
     refine wl_r (o_loadag Tryz.isAgg54 Tryz.sizeOf54 rfl f (opC_length ..)) ?_
     have shj := hwj.size
     have hS2 : StAt w_3 w4.heap.size g2 T' := ⟨A, ca, A2, c2, A3, c3, f0, f1.base (Nat.le_refl _) (by omega), f2.base (Nat.le_refl _) (by omega), f3.base (Nat.le_refl _) (by omega), q7, by omega⟩
     refine wl_call rfl (K_step w_3 hS2 hokT'.ok f34.to_Rd f34_1.to_Rd rfl rfl n2 n3) ?_
     rintro _ w38 ⟨rfl, e2, e3⟩
     obtain ⟨x1, x2, r1, r2, y1, y2, y3, t1, t2⟩ := e3.ex
     have s1 := y1.size
     have s2 := y2.size
     have s3 := y3.size
     have f4b := ((f4.y y1 (by decide)).y y2 (by decide)).k y3.g (ap_some (lo := g4) (hi := g4 + 1) (by omega))
     have f6b := ((f6.y y1 (by decide)).y y2 (by decide)).y y3 (by decide)
     have f26b := ((f26.y y1 (by decide)).y y2 (by decide)).y y3 (by decide)
     have hws := hw.size
     have hw2 : Below w.heap.size w w38 := hw.trans (((y1.below hws (fun k hk => by have := t1 k hk; omega)).trans (y2.below (by omega) (fun k hk => by have := t2 k hk; omega))).trans (y3.below (by omega) (fun k hk => by injection hk with hk; omega)))
     clear hw f0 f1 f2 f3 f4 f6 f26 f hwj hS2 e3
     have hw := hw2
     clear hw2
     refine wl_nil ?_
     refine rk_blk ?_
     refine rk_region ?_
     refine wl_p (fun _ => o_add rfl rfl (by omega) (by omega)) ?_
     refine wl_p (fun _ => o_move rfl) ?_
     refine wl_nil ?_
     exact rk_againf (Fr.le_of (by kernel_rfl) (by kernel_rfl) (by repeat' constructor)) ⟨j + 1, (j : Int) + 1, _, rfl, by omega, by omega, rfl, by rw [List.take_succ_eq_append_getElem hjl, opsS_snoc, ← hT'], e2, f26b, f6b, f4b, by omega, hw⟩ (by omega)
    ·refine rk_exit rfl ?_
     obtain rfl : j = U.length := by omega
     rw [List.take_length] at hT'
     subst hT'
     exact rk_tof hj (Fr.le_of (by kernel_rfl) (by kernel_rfl) (by repeat' constructor)) ⟨rfl, hS, f4, by omega, hw⟩
   clear hw f0 f1 f2 f3 f4 f f26 hS1
   rintro fr W ⟨rfl, hS, f4, hszW, hw⟩
   have shwW := hw.size
   first | refine rk_frame (by simp only [List.cons_append, List.nil_append, List.drop_succ_cons, List.drop_zero]; rfl) ?_ | refine wl_frame (by simp only [List.cons_append, List.nil_append, List.drop_succ_cons, List.drop_zero]; rfl) ?_
   refine rk_blk ?_
   refine rk_region ?_
   refine wl_p (fun _ => o_add rfl rfl (by omega) (by omega)) ?_
   refine wl_p (fun _ => o_move rfl) ?_
   refine wl_nil ?_
   exact rk_againf (Fr.le_of (by kernel_rfl) (by kernel_rfl) (by repeat' constructor)) ⟨i + 1, (i : Int) + 1, opsS T L[i].1 U, rfl, by omega, by omega, rfl, by rw [List.take_succ_eq_append_getElem hil, foldS_snoc, ← hT, blockS, hU], hS, f4, by omega, hw⟩ (by omega)
  ·refine rk_exit rfl ?_
   obtain rfl : i = L.length := by omega
   rw [List.take_length] at hT
   subst hT
   exact rk_tof hj (Fr.le_of (by kernel_rfl) (by kernel_rfl) (by repeat' constructor)) ⟨rfl, hS, f4, hsz, hw⟩
 clear hw f12 f12_1 f12_2 f f4 hS0
 rintro fr V ⟨rfl, hS, f4, hsz, hw⟩
 have shw := hw.size
 obtain ⟨A1, a1, A2, a2, A3, a3, z0, z1, z2, z3, z4, z5⟩ := hS.ex
 first | refine rk_frame (by simp only [List.cons_append, List.nil_append, List.drop_succ_cons, List.drop_zero]; rfl) ?_ | refine wl_frame (by simp only [List.cons_append, List.nil_append, List.drop_succ_cons, List.drop_zero]; rfl) ?_
 refine rk_seq ?_
 refine rk_region ?_
 refine wl_r (o_loadag Tryz.isAgg31 Tryz.sizeOf31 rfl z0 (by rfl)) ?_
 refine wl_storega Tryz.sizeOf31 rfl rfl (by rfl) (oneCell_of (by rfl)) f4 (by rfl) ?_
 rintro w_2 f g_1 e_2
 have s_2 := g_1.size
 replace hw := hw.trans (below_of_grownBy g_1.g hw.size (by omega))
 replace z3 := z3.y g_1 (by decide)
 replace z2 := z2.y g_1 (by decide)
 replace z1 := z1.y g_1 (by decide)
 replace z0 := z0.k g_1.g (ap_some (by omega))
 clear f4
 refine wl_nil ?_
 refine ret_cell rfl rfl Tryz.isAgg31 Tryz.sizeOf31 (by assumption) rfl ?_
 exact ⟨A1, a1, A2, a2, A3, a3, rfl, z1.base (by omega) (by omega), z2.base (by omega) (by omega), z3.base (by omega) (by omega), hw⟩
end Go.Proofs.YtahkeoegbjopfaaGreat
/-
  Walk of headwaterkit.Pick.
-/
namespace Go.Proofs.YtahkeoegbjopfaaGreat
set_option maxRecDepth 100000
open Go.RowKit
theorem tmod_neg (n m : Int) (hm : 0 < m) (h : n.tmod m < 0) : n % m = n.tmod m + m := by
 have e := Int.tmod_eq_emod (a := n) (b := m)
 have h1 := Int.emod_nonneg n (b := m) (by omega)
 split at e <;> omega
theorem tmod_pos (n m : Int) (hm : 0 < m) (h : ¬ n.tmod m < 0) : n % m = n.tmod m := by
 have e := Int.tmod_eq_emod (a := n) (b := m)
 have h2 := Int.emod_lt_of_pos n hm
 split at e <;> omega
def pick (n m : Int) : Int := if m < 1 then 0 else n % m
theorem i64_wf {n : Int} (h : -9223372036854775808 ≤ n ∧ n ≤ 9223372036854775807) : (Lit.int .i64 n).wf = true := by
 simp only [Lit.wf, Bool.and_eq_true, decide_eq_true_eq]
 exact h
theorem pick_range (n m : Int) (hm : 1 ≤ m) : 0 ≤ pick n m ∧ pick n m < m := by
 rw [pick, if_neg (by omega)]
 exact ⟨Int.emod_nonneg n (by omega), Int.emod_lt_of_pos n (by omega)⟩
theorem C_Pick (n m : Int) (wn : (Lit.int .i64 n).wf = true) (wm : (Lit.int .i64 m).wf = true) (w : World) :
  CallsR Tryz.prog 9 [.int .i64 n, .int .i64 m] w fun v w' => v = .int .i64 (pick n m) ∧ w' = w := by
 have bn := bounds_i64 wn
 have bm := bounds_i64 wm
 refine callsR Tryz.func9 rfl rfl (by kernel_rfl) rfl ?_
 refine rk_seq ?_
 refine rk_region ?_
 refine wl_p (fun _ => o_assign rfl) ?_
 refine wl_nil ?_
 refine rk_seq ?_
 refine rk_seq ?_
 refine rk_region ?_
 refine wl_p (fun _ => o_move rfl) ?_
 refine wl_p (fun _ => o_lt rfl rfl) ?_
 refine wl_nil ?_
 refine rk_if rfl (fun h => ?_) (fun h => ?_)
 ·refine rk_seq ?_
  refine rk_region ?_
  refine wl_p (fun _ => o_assign rfl) ?_
  refine wl_nil ?_
  refine ret1 rfl rfl ?_
  exact ⟨by rw [pick, if_pos h], rfl⟩
 ·refine rk_skip ?_
  refine rk_seq ?_
  refine rk_region ?_
  refine wl_p (fun _ => o_move rfl) ?_
  refine wl_p (fun _ => o_move rfl) ?_
  refine wl_p (fun _ => o_remz rfl rfl (by omega)) ?_
  refine wl_p (fun _ => o_assign rfl) ?_
  refine wl_nil ?_
  refine rk_seq ?_
  refine rk_seq ?_
  refine rk_region ?_
  refine wl_p (fun _ => o_move rfl) ?_
  refine wl_p (fun _ => o_lt rfl rfl) ?_
  refine wl_nil ?_
  refine rk_if rfl (fun h2 => ?_) (fun h2 => ?_)
  ·have e := tmod_neg n m (by omega) h2
   have e1 := Int.emod_nonneg n (b := m) (by omega)
   have e2 := Int.emod_lt_of_pos n (b := m) (by omega)
   refine rk_region ?_
   refine wl_p (fun _ => o_move rfl) ?_
   refine wl_p (fun _ => o_move rfl) ?_
   refine wl_p (fun _ => o_add rfl rfl (by omega) (by omega)) ?_
   refine wl_p (fun _ => o_assign rfl) ?_
   refine wl_nil ?_
   refine rk_seq ?_
   refine rk_region ?_
   refine wl_p (fun _ => o_move rfl) ?_
   refine wl_p (fun _ => o_assign rfl) ?_
   refine wl_nil ?_
   refine ret1 rfl rfl ?_
   exact ⟨by rw [pick, if_neg h, tmod_neg n m (by omega) h2], rfl⟩
  ·refine rk_skip ?_
   refine rk_seq ?_
   refine rk_region ?_
   refine wl_p (fun _ => o_move rfl) ?_
   refine wl_p (fun _ => o_assign rfl) ?_
   refine wl_nil ?_
   refine ret1 rfl rfl ?_
   exact ⟨by rw [pick, if_neg h, tmod_pos n m (by omega) h2], rfl⟩
theorem C_PickR {n m r : Int} (w : World) (hr : pick n m = r) (wn : (Lit.int .i64 n).wf = true) (wm : (Lit.int .i64 m).wf = true) :
  CallsR Tryz.prog 9 [.int .i64 n, .int .i64 m] w fun v w' => v = .int .i64 r ∧ Below w.heap.size w w' := by
 refine (C_Pick n m wn wm w).mono ?_
 rintro v w' ⟨rfl, rfl⟩
 exact ⟨congrArg _ hr, Below.refl _ _⟩
end Go.Proofs.YtahkeoegbjopfaaGreat
/-
  Contracts of the kit's functions: what is light, by the answer.
-/
namespace Go.Proofs.YtahkeoegbjopfaaGreat
set_option maxRecDepth 100000
open Go.RowKit
theorem C_lightOpsN {A : Option Addr} {L : List Opn} {n c m : Nat} {mi : Int} (w : World) (hL : RO w A L) (hno : ¬LtO L m) (hn : n = L.length) (hm : mi = (m : Int)) (hl : L.length ≤ 9223372036854775807) (hmm : m ≤ 1000) :
  CallsR Tryz.prog 25 [.slice A n c, .int .i64 mi] w fun v w' => v = .bool false ∧ Below w.heap.size w w' := by
 refine CallsR.mono (C_lightOps (c := c) w hL hn hm hl hmm) ?_
 rintro v w' ⟨b, rfl, h1, h2⟩
 cases b
 ·exact ⟨rfl, h2⟩
 ·exact absurd (h1.1 rfl) hno
theorem C_lightOpsY {A : Option Addr} {L : List Opn} {n c m : Nat} {mi : Int} (w : World) (hL : RO w A L) (hyes : LtO L m) (hn : n = L.length) (hm : mi = (m : Int)) (hl : L.length ≤ 9223372036854775807) (hmm : m ≤ 1000) :
  CallsR Tryz.prog 25 [.slice A n c, .int .i64 mi] w fun v w' => v = .bool true ∧ Below w.heap.size w w' := by
 refine CallsR.mono (C_lightOps (c := c) w hL hn hm hl hmm) ?_
 rintro v w' ⟨b, rfl, h1, h2⟩
 rw [h1.2 hyes]
 exact ⟨rfl, h2⟩
theorem C_lightStateN {A B C : Option Addr} {I : List (By × By)} {X Y : List Ky} {n c p d q e m : Nat} {mi : Int} (w : World) (hno : ¬LtS I X Y m) (hA : RI w A I) (hn : n = I.length) (hp : p = X.length) (hq : q = Y.length) (hm : mi = (m : Int)) (hmm : m ≤ 1000) :
  CallsR Tryz.prog 20 [.agg #[.slice A n c, .slice B p d, .slice C q e], .int .i64 mi] w fun v w' => v = .bool false ∧ Below w.heap.size w w' := by
 refine CallsR.mono (C_lightState (B := B) (C := C) (c := c) (d := d) (e := e) w hA hn hp hq hm hmm) ?_
 rintro v w' ⟨b, rfl, h1, h2⟩
 cases b
 ·exact ⟨rfl, h2⟩
 ·exact absurd (h1.1 rfl) hno
theorem C_lightStateY {A B C : Option Addr} {I : List (By × By)} {X Y : List Ky} {n c p d q e m : Nat} {mi : Int} (w : World) (hyes : LtS I X Y m) (hA : RI w A I) (hn : n = I.length) (hp : p = X.length) (hq : q = Y.length) (hm : mi = (m : Int)) (hmm : m ≤ 1000) :
  CallsR Tryz.prog 20 [.agg #[.slice A n c, .slice B p d, .slice C q e], .int .i64 mi] w fun v w' => v = .bool true ∧ Below w.heap.size w w' := by
 refine CallsR.mono (C_lightState (B := B) (C := C) (c := c) (d := d) (e := e) w hA hn hp hq hm hmm) ?_
 rintro v w' ⟨b, rfl, h1, h2⟩
 rw [h1.2 hyes]
 exact ⟨rfl, h2⟩
end Go.Proofs.YtahkeoegbjopfaaGreat
/-
  Deeds: their light, their blocks.
-/
namespace Go.Proofs.YtahkeoegbjopfaaGreat
set_option maxRecDepth 100000
open Go.RowKit
structure FoldR (I : List (By × By)) (X Y : List Ky) (L : List Bk) (I' : List (By × By)) (X' Y' : List Ky) : Prop where
 h : foldS (I, X, Y) L = (I', X', Y')
theorem C_foldN {A B C D : Option Addr} {I I' : List (By × By)} {X Y X' Y' : List Ky} {L : List Bk} {n c m d q e r s : Nat} (w : World) (hA : RI w A I) (hB : RKs w B X) (hC : RKs w C Y) (hD : RBk w D L) (hr0 : FoldR I X Y L I' X' Y') (hn : n = I.length) (hm : m = X.length) (hq : q = Y.length) (hr : r = L.length) (hl : I.length ≤ 400000) (hl2 : X.length ≤ 400000) (hl3 : Y.length ≤ 400000) (hL : LtI I) (hl4 : L.length ≤ 40000) (hLB : LtB L) (hok : OkSt I X Y) :
  CallsR Tryz.prog 10 [.agg #[.slice A n c, .slice B m d, .slice C q e], .slice D r s] w fun v w' => ∃ A' c' B' d' C' e', v = .agg #[.slice A' I'.length c', .slice B' X'.length d', .slice C' Y'.length e'] ∧ OwnI w' w.heap.size w'.heap.size A' c' I' ∧ OwnKs w' w.heap.size w'.heap.size B' d' X' ∧ OwnKs w' w.heap.size w'.heap.size C' e' Y' ∧ Below w.heap.size w w' := by
 have h := K_fold (S := (I, X, Y)) (n := n) (c := c) (m := m) (d := d) (q := q) (e := e) (r := r) (s := s) w hA hB hC hD hn hm hq hr hl hl2 hl3 hL hl4 hLB hok
 rwa [hr0.h] at h
def keyK (n : Int) : Ky := ⟨UInt8.ofNat (1 + (pick n 4).toNat) :: List.replicate 31 0, rfl⟩
section
variable {N : Nat} {fr : Fr} {w : World} {ty : TypeId} {x : Operand} {b : UInt8}
end
theorem C_key22 {n : Int} (w : World) (wn : (Lit.int .i64 n).wf = true) : CallsR Tryz.prog 35 [.int .i64 n] w fun v w' => v = .agg (B8 (keyK n).1).toArray ∧ Below w.heap.size w w' := by
 have hp := pick_range n 4 (by omega)
 obtain ⟨r, hr⟩ : ∃ r, pick n 4 = r := ⟨_, rfl⟩
 have w4 : (Lit.int .i64 4).wf = true := by decide
 rw [hr] at hp
 have e1 : IntKind.u8.wrap (1 + r) = ((UInt8.ofNat (1 + r.toNat)).toNat : Int) := by
  rw [← u8w (n := 1 + r.toNat) (by omega)]
  congr 1
  omega
 refine callsR Tryz.func35 rfl rfl (by kernel_rfl) rfl ?_
 have hw := Below.refl w.heap.size w
 refine rk_seq ?_
 refine rk_region ?_
 refine wl_allocg [_, _, _, _, _, _, _, _, _, _, _, _, _, _, _, _, _, _, _, _, _, _, _, _, _, _, _, _, _, _, _, _] Tryz.zeroValue42 (by rfl) ?_
 rintro g2 w2 f2 b2 i2 i2_1
 have s2 := b2.size
 replace hw := hw.trans (b2.mono hw.size)
 refine wl_nil ?_
 refine rk_seq ?_
 refine rk_region ?_
 refine wl_p (fun _ => o_move rfl) ?_
 refine wl_call rfl (C_PickR _ hr wn w4) ?_
 rintro v4 w4_1 ⟨rfl, b4⟩
 have s4 := b4.size
 replace hw := hw.trans (b4.mono hw.size)
 replace f2 := f2.u b4
 refine wl_p (fun _ => o_add rfl rfl (by omega) (by omega)) ?_
 refine wl_p (fun _ => o_convi (src := 3) (dst := 5) Tryz.underlying3 Tryz.underlying5 rfl) ?_
 refine wl_p (fun _ => (o_buildga [_, _, _, _, _, _, _, _, _, _, _, _, _, _, _, _, _, _, _, _, _, _, _, _, _, _, _, _, _, _, _, _] Tryz.underlying42 Tryz.sizeOf5 Tryz.zeroValue42 (by rfl) (by rfl) rfl (by rfl) (by rfl) (fun _ => by kernel_rfl))) ?_
 refine wl_storega Tryz.sizeOf42 rfl rfl (by rfl) (oneCell_of (by rfl)) f2 (by rfl) ?_
 rintro w_1 f g e
 have s := g.size
 replace hw := hw.trans (below_of_grownBy g.g hw.size (by omega))
 clear f2
 refine wl_nil ?_
 refine ret_cell rfl rfl Tryz.isAgg42 Tryz.sizeOf42 f rfl ?_
 exact ⟨by rw [e1, ← hr]; rfl, hw⟩
abbrev Ded := Int × List Opn
def gDeed : GoT Ded := (gInt .i64).pair (GoT.slice 54 gOp)
def RDe (w : World) (A : Option Addr) (L : List Ded) : Prop := RSl gDeed w A L
section
variable {w w' : World} {A : Option Addr} {L : List Ded}
theorem RDe.u (h : RDe w A L) (hb : Below w.heap.size w w') : RDe w' A L := RSl.u h hb
theorem RDe.some_ (h : RDe w A L) (hl : 0 < L.length) : A = some (A.getD ⟨0, 0, none⟩) := RSl.some_ h (show 0 < 2 by decide) hl
theorem RDe.elem (h : RDe w A L) {i : Nat} (hi : i < L.length) : ∃ A1 c1, CellsAt w A (i * 2) [.int .i64 L[i].1, .slice A1 L[i].2.length c1] ∧ RO w A1 L[i].2 ∧ L[i].2.length ≤ c1 ∧ c1 ≤ maxLen ∧ (Lit.int .i64 L[i].1).wf = true := by
 obtain ⟨cs, h1, x, y, rfl, ⟨rfl, hk⟩, h2⟩ := RSl.elem h (by decide) hi
 obtain ⟨A1, c1, rfl, h3, h4, h5⟩ := slice_RSl h2
 exact ⟨A1, c1, h1, h3, h4, h5, hk⟩
end
section
variable {fn : Func} {F : Ending → World → Prop} {N : Nat} {ks : List K} {ops : Array Oper} {tg : Tags} {l : List Oper} {fr : Fr} {w w0 : World} {ty : TypeId} {pos : String} {aft : Array Edge} {gd : Option (Nat × Bool)} {d0 j o : Nat} {x : Operand} {A : Option Addr} {L : List Ded}
theorem wl_ldDeW (hx : fr.ev x = some (.pointer (some (adr A (j * 2 + o))))) (ho : o = 0) (hr : RDe w0 A L) (hb : Below w0.heap.size w0 w) (hj : j < L.length)
  (hk : (Lit.int .i64 L[j].1).wf = true → WL Tryz.prog fn F N ks ops tg.tail l ((d0, .int .i64 L[j].1) :: fr) w)
  (ht : tg.reads = true := by rfl) (hg : onG ops fr gd = true := by rfl) (hd : Nat.blt d0 N = true := by rfl) : WL Tryz.prog fn F N ks ops tg (⟨some d0, .load 3 x, ty, pos, aft, gd⟩ :: l) fr w := by
 subst ho
 obtain ⟨A1, c1, h1, h2, h3, h4, h5⟩ := hr.elem hj
 exact wl_r (o_load (t := 3) Tryz.isAgg3 hx (h1.u hb 0 _ rfl)) (hk h5) ht hg hd
theorem wl_ldDeO (hx : fr.ev x = some (.pointer (some (adr A (j * 2 + o))))) (ho : o = 1) (hr : RDe w0 A L) (hb : Below w0.heap.size w0 w) (hj : j < L.length)
  (hk : ∀ A1 c1, RO w0 A1 L[j].2 → L[j].2.length ≤ c1 → c1 ≤ maxLen → WL Tryz.prog fn F N ks ops tg.tail l ((d0, .slice A1 L[j].2.length c1) :: fr) w)
  (ht : tg.reads = true := by rfl) (hg : onG ops fr gd = true := by rfl) (hd : Nat.blt d0 N = true := by rfl) : WL Tryz.prog fn F N ks ops tg (⟨some d0, .load 35 x, ty, pos, aft, gd⟩ :: l) fr w := by
 subst ho
 obtain ⟨A1, c1, h1, h2, h3, h4, h5⟩ := hr.elem hj
 exact wl_r (o_load (t := 35) Tryz.isAgg35 hx (h1.u hb 1 _ rfl)) (hk A1 c1 h2 h3 h4) ht hg hd
end
def LtD (L : List Ded) : Prop := L.length ≤ 24 ∧ (∀ d ∈ L, LtO d.2 24) ∧ (L.map fun d => d.2.length).sum ≤ 100
theorem sum_snoc (l : List Nat) (x : Nat) : (l ++ [x]).sum = l.sum + x := by simp
set_option maxHeartbeats 4000000 in
theorem C_light22 {A : Option Addr} {L : List Ded} {n c : Nat} (w : World) (hL : RDe w A L) (hn : n = L.length) (hl : L.length ≤ 9223372036854775807) :
  CallsR Tryz.prog 7 [.slice A n c] w fun v w' => ∃ b, v = .bool b ∧ (b = true ↔ LtD L) ∧ Below w.heap.size w w' := by
 subst hn
 have hmx : maxLen = 9223372036854775807 := rfl
 refine callsR Tryz.func7 rfl rfl (by kernel_rfl) rfl ?_
 have hw := Below.refl w.heap.size w
 refine rk_seq ?_
 refine rk_region ?_
 refine wl_p (fun _ => o_assign rfl) ?_
 refine wl_nil ?_
 refine rk_seq ?_
 refine rk_region ?_
 refine wl_p (fun _ => o_assign rfl) ?_
 refine wl_nil ?_
 refine rk_seq ?_
 refine rk_seq ?_
 refine rk_region ?_
 refine wl_p (fun _ => o_assign rfl) ?_
 refine wl_nil ?_
 refine rk_block ?_
 refine rk_joinf (fun fb fr w2 => ∃ (z : Int), fr = [(3, .int .i64 z)] ++ fb.drop 2 ∧ (L.length ≤ 24 → (∀ d ∈ L, LtO d.2 24) ∧ z = (L.map fun d => d.2.length).sum) ∧ Below w.heap.size w w2) ?_ (fun ks hj => ?_)
 rotate_left
 ·refine rk_loopf (fun fb k fr w2 => ∃ (i : Nat) (v z : Int), fr = [(4, .int .i64 v), (3, .int .i64 z)] ++ fb.drop 2 ∧ v = i ∧ i ≤ L.length ∧ i ≤ 25 ∧ k = L.length - i ∧ (∀ j (h : j < L.length), j < i → LtO L[j].2 24) ∧ z = ((L.take i).map fun d => d.2.length).sum ∧ z ≤ 24 * i ∧ Below w.heap.size w w2) (n := L.length) (Fr.le_of (by kernel_rfl) (by kernel_rfl) (by repeat' constructor)) ⟨0, _, _, rfl, rfl, by omega, by omega, rfl, fun j _ h => absurd h (Nat.not_lt_zero _), rfl, by simp, hw⟩ ?_
  clear hw
  rintro k fr w2 ⟨i, v, z, rfl, rfl, hi, hi25, rfl, hok, hz, hz2, hw⟩
  have shw := hw.size
  have hz0 : 0 ≤ z := by rw [hz]; omega
  first | refine rk_frame (by simp only [List.cons_append, List.nil_append, List.drop_succ_cons, List.drop_zero]; rfl) ?_ | refine wl_frame (by simp only [List.cons_append, List.nil_append, List.drop_succ_cons, List.drop_zero]; rfl) ?_
  by_cases h1 : i < L.length
  ·by_cases h2 : i ≤ 24
   ·have hnx : ((L.take (i + 1)).map fun d => d.2.length).sum = ((L.take i).map fun d => d.2.length).sum + L[i].2.length := by
     rw [List.take_succ_eq_append_getElem h1, List.map_append, List.map_singleton, sum_snoc]
    by_cases h3 : LtO L[i].2 24
    ·have h4 := h3.1
     refine rk_seq ?_
     refine rk_seq ?_
     refine rk_region ?_
     refine wl_p (fun _ => o_move rfl) ?_
     refine wl_p (fun _ => o_move rfl) ?_
     refine wl_p (fun _ => o_len (t := 22) Tryz.underlying22 rfl) ?_
     refine wl_p (fun _ => o_lt rfl rfl) ?_
     refine wl_p (fun _ => o_move rfl) ?_
     refine wl_know 9 true rfl (decide_eq_true (by omega)) ?_
     refine wl_p (fun _ => o_move rfl) ?_
     refine wl_p (fun _ => o_le rfl rfl) ?_
     refine wl_p (fun _ => o_pick_t rfl rfl) ?_
     refine wl_nil ?_
     refine rk_if rfl (fun h12 => ?_) (fun h12 => h12.elim (by omega))
     refine rk_skip ?_
     refine rk_seq ?_
     refine rk_block ?_
     refine rk_seq ?_
     refine rk_region ?_
     refine wl_p (fun _ => o_move rfl) ?_
     refine wl_p (fun _ => o_move rfl) ?_
     refine wl_p (fun _ => o_move rfl) ?_
     refine wl_p (fun _ => (o_iaddrA (i) Tryz.underlying22 Tryz.sizeOf75 rfl rfl rfl (hL.some_ (by omega)) (by omega))) ?_
     refine wl_p (fun _ => (o_faddrR rfl Tryz.underlying75 (by rfl) Tryz.sizeOf35 (by rfl) (by rfl))) ?_
     refine wl_ldDeO rfl (by rfl) hL hw (by omega) ?_
     rintro A120 c120 f20 i20 i20_1
     refine wl_p (fun _ => o_len (t := 35) Tryz.underlying35 rfl) ?_
     refine wl_p (fun _ => o_add rfl rfl (by omega) (by omega)) ?_
     refine wl_p (fun _ => o_assign rfl) ?_
     refine wl_nil ?_
     refine rk_seq ?_
     refine rk_region ?_
     refine wl_p (fun _ => o_move rfl) ?_
     refine wl_p (fun _ => o_move rfl) ?_
     refine wl_p (fun _ => (o_iaddrA (i) Tryz.underlying22 Tryz.sizeOf75 rfl rfl rfl (hL.some_ (by omega)) (by omega))) ?_
     refine wl_p (fun _ => (o_faddrR rfl Tryz.underlying75 (by rfl) Tryz.sizeOf35 (by rfl) (by rfl))) ?_
     refine wl_ldDeO rfl (by rfl) hL hw (by omega) ?_
     rintro A127 c127 f27 i27 i27_1
     refine wl_call rfl (C_lightOpsY _ (f27.u hw) h3 rfl (by rfl) (by omega) (by omega)) ?_
     rintro v28 w28 ⟨rfl, b28⟩
     have s28 := b28.size
     replace hw := hw.trans (b28.mono hw.size)
     refine wl_p (fun _ => o_not rfl) ?_
     refine wl_nil ?_
     refine rk_false rfl ?_
     refine rk_skip ?_
     refine rk_blk ?_
     refine rk_region ?_
     refine wl_p (fun _ => o_move rfl) ?_
     refine wl_p (fun _ => o_add rfl rfl (by omega) (by omega)) ?_
     refine wl_p (fun _ => o_assign rfl) ?_
     refine wl_nil ?_
     exact rk_againf (Fr.le_of (by kernel_rfl) (by kernel_rfl) (by repeat' constructor)) ⟨i + 1, (i : Int) + 1, _, rfl, by omega, by omega, by omega, rfl, fun j hj hji => by
      rcases Nat.lt_or_ge j i with h | h
      ·exact hok j hj h
      ·obtain rfl : j = i := by omega
       exact h3, by rw [hnx]; omega, by omega, hw⟩ (by omega)
    ·have hno : ¬LtD L := fun h => h3 (h.2.1 _ (List.getElem_mem h1))
     by_cases h5 : L[i].2.length ≤ 24
     ·refine rk_seq ?_
      refine rk_seq ?_
      refine rk_region ?_
      refine wl_p (fun _ => o_move rfl) ?_
      refine wl_p (fun _ => o_move rfl) ?_
      refine wl_p (fun _ => o_len (t := 22) Tryz.underlying22 rfl) ?_
      refine wl_p (fun _ => o_lt rfl rfl) ?_
      refine wl_p (fun _ => o_move rfl) ?_
      refine wl_know 9 true rfl (decide_eq_true (by omega)) ?_
      refine wl_p (fun _ => o_move rfl) ?_
      refine wl_p (fun _ => o_le rfl rfl) ?_
      refine wl_p (fun _ => o_pick_t rfl rfl) ?_
      refine wl_nil ?_
      refine rk_if rfl (fun h12 => ?_) (fun h12 => h12.elim (by omega))
      refine rk_skip ?_
      refine rk_seq ?_
      refine rk_block ?_
      refine rk_seq ?_
      refine rk_region ?_
      refine wl_p (fun _ => o_move rfl) ?_
      refine wl_p (fun _ => o_move rfl) ?_
      refine wl_p (fun _ => o_move rfl) ?_
      refine wl_p (fun _ => (o_iaddrA (i) Tryz.underlying22 Tryz.sizeOf75 rfl rfl rfl (hL.some_ (by omega)) (by omega))) ?_
      refine wl_p (fun _ => (o_faddrR rfl Tryz.underlying75 (by rfl) Tryz.sizeOf35 (by rfl) (by rfl))) ?_
      refine wl_ldDeO rfl (by rfl) hL hw (by omega) ?_
      rintro A120 c120 f20 i20 i20_1
      refine wl_p (fun _ => o_len (t := 35) Tryz.underlying35 rfl) ?_
      refine wl_p (fun _ => o_add rfl rfl (by omega) (by omega)) ?_
      refine wl_p (fun _ => o_assign rfl) ?_
      refine wl_nil ?_
      refine rk_seq ?_
      refine rk_region ?_
      refine wl_p (fun _ => o_move rfl) ?_
      refine wl_p (fun _ => o_move rfl) ?_
      refine wl_p (fun _ => (o_iaddrA (i) Tryz.underlying22 Tryz.sizeOf75 rfl rfl rfl (hL.some_ (by omega)) (by omega))) ?_
      refine wl_p (fun _ => (o_faddrR rfl Tryz.underlying75 (by rfl) Tryz.sizeOf35 (by rfl) (by rfl))) ?_
      refine wl_ldDeO rfl (by rfl) hL hw (by omega) ?_
      rintro A127 c127 f27 i27 i27_1
      refine wl_call rfl (C_lightOpsN _ (f27.u hw) h3 rfl (by rfl) (by omega) (by omega)) ?_
      rintro v28 w28 ⟨rfl, b28⟩
      have s28 := b28.size
      replace hw := hw.trans (b28.mono hw.size)
      refine wl_p (fun _ => o_not rfl) ?_
      refine wl_nil ?_
      refine rk_true rfl ?_
      refine rk_seq ?_
      refine rk_region ?_
      refine wl_p (fun _ => o_assign rfl) ?_
      refine wl_nil ?_
      refine ret1 rfl rfl ?_
      exact ⟨false, rfl, ⟨fun h => (by cases h), fun h => absurd h hno⟩, hw⟩
     ·refine rk_seq ?_
      refine rk_seq ?_
      refine rk_region ?_
      refine wl_p (fun _ => o_move rfl) ?_
      refine wl_p (fun _ => o_move rfl) ?_
      refine wl_p (fun _ => o_len (t := 22) Tryz.underlying22 rfl) ?_
      refine wl_p (fun _ => o_lt rfl rfl) ?_
      refine wl_p (fun _ => o_move rfl) ?_
      refine wl_know 9 true rfl (decide_eq_true (by omega)) ?_
      refine wl_p (fun _ => o_move rfl) ?_
      refine wl_p (fun _ => o_le rfl rfl) ?_
      refine wl_p (fun _ => o_pick_t rfl rfl) ?_
      refine wl_nil ?_
      refine rk_if rfl (fun h12 => ?_) (fun h12 => h12.elim (by omega))
      refine rk_skip ?_
      refine rk_seq ?_
      refine rk_block ?_
      refine rk_seq ?_
      refine rk_region ?_
      refine wl_p (fun _ => o_move rfl) ?_
      refine wl_p (fun _ => o_move rfl) ?_
      refine wl_p (fun _ => o_move rfl) ?_
      refine wl_p (fun _ => (o_iaddrA (i) Tryz.underlying22 Tryz.sizeOf75 rfl rfl rfl (hL.some_ (by omega)) (by omega))) ?_
      refine wl_p (fun _ => (o_faddrR rfl Tryz.underlying75 (by rfl) Tryz.sizeOf35 (by rfl) (by rfl))) ?_
      refine wl_ldDeO rfl (by rfl) hL hw (by omega) ?_
      rintro A120 c120 f20 i20 i20_1
      refine wl_p (fun _ => o_len (t := 35) Tryz.underlying35 rfl) ?_
      refine wl_p (fun _ => o_addw rfl rfl) ?_
      refine wl_p (fun _ => o_assign rfl) ?_
      refine wl_nil ?_
      refine rk_seq ?_
      refine rk_region ?_
      refine wl_p (fun _ => o_move rfl) ?_
      refine wl_p (fun _ => o_move rfl) ?_
      refine wl_p (fun _ => (o_iaddrA (i) Tryz.underlying22 Tryz.sizeOf75 rfl rfl rfl (hL.some_ (by omega)) (by omega))) ?_
      refine wl_p (fun _ => (o_faddrR rfl Tryz.underlying75 (by rfl) Tryz.sizeOf35 (by rfl) (by rfl))) ?_
      refine wl_ldDeO rfl (by rfl) hL hw (by omega) ?_
      rintro A127 c127 f27 i27 i27_1
      refine wl_call rfl (C_lightOpsN _ (f27.u hw) h3 rfl (by rfl) (by omega) (by omega)) ?_
      rintro v28 w28 ⟨rfl, b28⟩
      have s28 := b28.size
      replace hw := hw.trans (b28.mono hw.size)
      refine wl_p (fun _ => o_not rfl) ?_
      refine wl_nil ?_
      refine rk_true rfl ?_
      refine rk_seq ?_
      refine rk_region ?_
      refine wl_p (fun _ => o_assign rfl) ?_
      refine wl_nil ?_
      refine ret1 rfl rfl ?_
      exact ⟨false, rfl, ⟨fun h => (by cases h), fun h => absurd h hno⟩, hw⟩
   ·refine rk_seq ?_
    refine rk_seq ?_
    refine rk_region ?_
    refine wl_p (fun _ => o_move rfl) ?_
    refine wl_p (fun _ => o_move rfl) ?_
    refine wl_p (fun _ => o_len (t := 22) Tryz.underlying22 rfl) ?_
    refine wl_p (fun _ => o_lt rfl rfl) ?_
    refine wl_p (fun _ => o_move rfl) ?_
    refine wl_know 9 true rfl (decide_eq_true (by omega)) ?_
    refine wl_p (fun _ => o_move rfl) ?_
    refine wl_p (fun _ => o_le rfl rfl) ?_
    refine wl_p (fun _ => o_pick_t rfl rfl) ?_
    refine wl_nil ?_
    refine rk_if rfl (fun h12 => absurd h12 (by omega)) (fun h12 => ?_)
    refine rk_exit rfl ?_
    exact rk_tof hj (Fr.le_of (by kernel_rfl) (by kernel_rfl) (by repeat' constructor)) ⟨_, rfl, fun h => by omega, hw⟩
  ·refine rk_seq ?_
   refine rk_seq ?_
   refine rk_region ?_
   refine wl_p (fun _ => o_move rfl) ?_
   refine wl_p (fun _ => o_move rfl) ?_
   refine wl_p (fun _ => o_len (t := 22) Tryz.underlying22 rfl) ?_
   refine wl_p (fun _ => o_lt rfl rfl) ?_
   refine wl_p (fun _ => o_move rfl) ?_
   refine wl_know 9 false rfl (decide_eq_false (by omega)) ?_
   refine wl_off ?_
   refine wl_off ?_
   refine wl_p (fun _ => o_pick_f rfl rfl) ?_
   refine wl_nil ?_
   refine rk_false rfl ?_
   refine rk_exit rfl ?_
   have e : i = L.length := by omega
   subst e
   rw [List.take_length] at hz
   exact rk_tof hj (Fr.le_of (by kernel_rfl) (by kernel_rfl) (by repeat' constructor)) ⟨_, rfl, fun h => ⟨fun d hd => by obtain ⟨j, hj, rfl⟩ := List.getElem_of_mem hd; exact hok j hj hj, hz⟩, hw⟩
 clear hw
 rintro fr w2 ⟨z, rfl, hz, hw⟩
 first | refine rk_frame (by simp only [List.cons_append, List.nil_append, List.drop_succ_cons, List.drop_zero]; rfl) ?_ | refine wl_frame (by simp only [List.cons_append, List.nil_append, List.drop_succ_cons, List.drop_zero]; rfl) ?_
 by_cases h1 : L.length ≤ 24
 ·obtain ⟨q1, q2⟩ := hz h1
  refine rk_seq ?_
  refine rk_region ?_
  refine wl_p (fun _ => o_move rfl) ?_
  refine wl_p (fun _ => o_len (t := 22) Tryz.underlying22 rfl) ?_
  refine wl_p (fun _ => o_le rfl rfl) ?_
  refine wl_p (fun _ => o_move rfl) ?_
  refine wl_know 33 true rfl (decide_eq_true (by omega)) ?_
  refine wl_p (fun _ => o_move rfl) ?_
  refine wl_p (fun _ => o_le rfl rfl) ?_
  refine wl_p (fun _ => o_pick_t rfl rfl) ?_
  refine wl_p (fun _ => o_assign rfl) ?_
  refine wl_nil ?_
  refine ret1 rfl rfl ?_
  exact ⟨_, rfl, by rw [decide_eq_true_eq]; exact ⟨fun h => ⟨h1, q1, by omega⟩, fun h => by have := h.2.2; omega⟩, hw⟩
 ·refine rk_seq ?_
  refine rk_region ?_
  refine wl_p (fun _ => o_move rfl) ?_
  refine wl_p (fun _ => o_len (t := 22) Tryz.underlying22 rfl) ?_
  refine wl_p (fun _ => o_le rfl rfl) ?_
  refine wl_p (fun _ => o_move rfl) ?_
  refine wl_know 33 false rfl (decide_eq_false (by omega)) ?_
  refine wl_off ?_
  refine wl_off ?_
  refine wl_p (fun _ => o_pick_f rfl rfl) ?_
  refine wl_p (fun _ => o_assign rfl) ?_
  refine wl_nil ?_
  refine ret1 rfl rfl ?_
  exact ⟨false, rfl, ⟨fun h => (by cases h), fun h => absurd h.1 h1⟩, hw⟩
end Go.Proofs.YtahkeoegbjopfaaGreat
/-
  The blocks of deeds.
-/
namespace Go.Proofs.YtahkeoegbjopfaaGreat
set_option maxRecDepth 100000
open Go.RowKit
def blkOf (d : Ded) : Bk := (keyK d.1, (bytesO d.2).1)
theorem C_r22BytesN {A : Option Addr} {L : List Opn} {b : By} {e n c : Nat} (w : World) (hr : BytesR L b e) (hL : RO w A L) (hn : n = L.length) (hln : L.length ≤ 4000000) (hl : ∀ o ∈ L, o.2.1.length ≤ 4000000 ∧ o.2.2.1.length ≤ 4000000) :
  CallsR Tryz.prog 34 [.slice A n c] w fun v w' => ∃ A' c', v = .tuple #[.slice A' b.length c', .int .i64 (e : Int)] ∧ OwnH w' w.heap.size w'.heap.size A' c' b ∧ Below w.heap.size w w' :=
 K_r22Bytes w hr.h hL hn hln hl
set_option maxHeartbeats 4000000 in
theorem K_blocks22 {A : Option Addr} {L : List Ded} {n c : Nat} (w : World) (hL : RDe w A L) (hn : n = L.length) (hd : LtD L) :
  CallsR Tryz.prog 8 [.slice A n c] w fun v w' => ∃ A' c', v = .slice A' (L.map blkOf).length c' ∧ OwnB w' w.heap.size w'.heap.size A' c' (L.map blkOf) ∧ Below w.heap.size w w' := by
 subst hn
 have hl24 := hd.1
 refine callsR Tryz.func8 rfl rfl (by kernel_rfl) rfl ?_
 have hw := Below.refl w.heap.size w
 refine rk_seq ?_
 refine rk_region ?_
 refine wl_p (fun _ => o_assign rfl) ?_
 refine wl_nil ?_
 refine rk_seq ?_
 refine rk_region ?_
 refine wl_p (fun _ => o_assign rfl) ?_
 refine wl_nil ?_
 refine rk_seq ?_
 refine rk_seq ?_
 refine rk_region ?_
 refine wl_p (fun _ => o_assign rfl) ?_
 refine wl_nil ?_
 refine rk_block ?_
 refine rk_joinf (fun fb fr w3 => ∃ A' c', fr = [(3, .slice A' (L.map blkOf).length c')] ++ fb.drop 2 ∧ OwnB w3 w.heap.size w3.heap.size A' c' (L.map blkOf) ∧ Below w.heap.size w w3) ?_ (fun ks hj => ?_)
 rotate_left
 ·refine rk_loopf (fun fb k fr w3 => ∃ (i : Nat) (v : Int) (A' : Option Addr) (c' : Nat) (J : List Bk), fr = [(4, .int .i64 v), (3, .slice A' J.length c')] ++ fb.drop 2 ∧ v = i ∧ i ≤ L.length ∧ k = L.length - i ∧ J = (L.take i).map blkOf ∧ OwnB w3 w.heap.size w3.heap.size A' c' J ∧ Below w.heap.size w w3) (n := L.length) (Fr.le_of (by kernel_rfl) (by kernel_rfl) (by repeat' constructor)) ⟨0, _, none, _, [], rfl, rfl, by omega, rfl, rfl, OwnB.nil_, hw⟩ ?_
  clear hw
  rintro k fr w3 ⟨i, v, A', c', J, rfl, rfl, hi, rfl, hJ, fo, hw⟩
  have shw := hw.size
  have hJl : J.length = i := by rw [hJ, List.length_map, List.length_take]; omega
  first | refine rk_frame (by simp only [List.cons_append, List.nil_append, List.drop_succ_cons, List.drop_zero]; rfl) ?_ | refine wl_frame (by simp only [List.cons_append, List.nil_append, List.drop_succ_cons, List.drop_zero]; rfl) ?_
  refine rk_seq ?_
  refine rk_seq ?_
  refine rk_region ?_
  refine wl_p (fun _ => o_move rfl) ?_
  refine wl_p (fun _ => o_move rfl) ?_
  refine wl_p (fun _ => o_len (t := 22) Tryz.underlying22 rfl) ?_
  refine wl_p (fun _ => o_lt rfl rfl) ?_
  refine wl_nil ?_
  refine rk_if rfl (fun h10 => ?_) (fun h10 => ?_)
  ·have hil : i < L.length := by omega
   have hlo := hd.2.1 _ (List.getElem_mem hil)
   have hlo1 := hlo.1
   have hlo2 : ∀ o ∈ L[i].2, o.2.1.length ≤ 4000000 ∧ o.2.2.1.length ≤ 4000000 := fun o ho => by have := hlo.2 o ho; omega
   obtain ⟨⟨b, e⟩, hb⟩ : ∃ r, bytesO L[i].2 = r := ⟨_, rfl⟩
   have e1 : BytesR L[i].2 b e := ⟨hb⟩
   refine rk_skip ?_
   refine rk_seq ?_
   refine rk_block ?_
   refine rk_seq ?_
   refine rk_region ?_
   refine wl_p (fun _ => o_move rfl) ?_
   refine wl_p (fun _ => o_move rfl) ?_
   refine wl_p (fun _ => (o_iaddrA (i) Tryz.underlying22 Tryz.sizeOf75 rfl rfl rfl (hL.some_ (by omega)) (by omega))) ?_
   refine wl_p (fun _ => (o_faddrR rfl Tryz.underlying75 (by rfl) Tryz.sizeOf35 (by rfl) (by rfl))) ?_
   refine wl_ldDeO rfl (by rfl) hL hw (by omega) ?_
   rintro A118 c118 f18 i18 i18_1
   refine wl_call rfl (C_r22BytesN _ e1 (f18.u hw) rfl (by omega) (by omega)) ?_
   rintro v19 w19 ⟨A19, ⟨c19, ⟨rfl, ⟨f19, b19⟩⟩⟩⟩
   have qf19 := f19.cap
   have s19 := b19.size
   replace hw := hw.trans (b19.mono hw.size)
   replace fo := fo.u b19
   refine wl_p (fun _ => o_move rfl) ?_
   refine wl_p (fun _ => o_ext20 rfl) ?_
   refine wl_p (fun _ => o_ext21 rfl) ?_
   refine wl_p (fun _ => o_assign rfl) ?_
   refine wl_p (fun _ => o_assign rfl) ?_
   refine wl_nil ?_
   refine rk_region ?_
   refine wl_p (fun _ => o_move rfl) ?_
   refine wl_p (fun _ => o_move rfl) ?_
   refine wl_p (fun _ => o_move rfl) ?_
   refine wl_p (fun _ => (o_iaddrA (i) Tryz.underlying22 Tryz.sizeOf75 rfl rfl rfl (hL.some_ (by omega)) (by omega))) ?_
   refine wl_p (fun _ => (o_faddrR rfl Tryz.underlying75 (by rfl) Tryz.sizeOf3 (by rfl) (by rfl))) ?_
   refine wl_ldDeW rfl (by rfl) hL hw (by omega) ?_
   rintro e27
   refine wl_call rfl (C_key22 _ e27) ?_
   rintro v28 w28 ⟨rfl, b28⟩
   have s28 := b28.size
   replace hw := hw.trans (b28.mono hw.size)
   replace fo := fo.u b28
   replace f19 := f19.u b28
   refine wl_p (fun _ => o_move rfl) ?_
   refine wl_p (fun _ => (o_bldBk rfl rfl)) ?_
   have m1 := own_max f19
   refine wl_litBk1 (by rfl) rfl bkS0 f19.to_RdT rfl (by omega) (by omega) (by rfl) ?_
   rintro A31 w31 f31 b31
   have qf31 := f31.cap
   have s31 := b31.size
   replace hw := hw.trans (b31.mono hw.size)
   replace f19 := f19.u b31
   replace fo := fo.u b31
   refine wl_appBk rfl fo rfl rfl f31.to_RBT (by rfl) (by omega) hw.size ?_
   rintro A32 c32 w32 f32 g32 b32
   have qf32 := f32.cap
   have s32 := g32.size
   replace hw := hw.trans (b32.mono (by omega))
   replace f19 := f19.y g32 (by decide)
   replace f31 := f31.q g32 (fo.ap (by omega)) (by decide)
   clear fo
   refine wl_p (fun _ => o_assign rfl) ?_
   refine wl_nil ?_
   refine rk_blk ?_
   refine rk_region ?_
   refine wl_p (fun _ => o_move rfl) ?_
   refine wl_p (fun _ => o_add rfl rfl (by omega) (by omega)) ?_
   refine wl_p (fun _ => o_assign rfl) ?_
   refine wl_nil ?_
   exact rk_againf (Fr.le_of (by kernel_rfl) (by kernel_rfl) (by repeat' constructor)) ⟨i + 1, (i : Int) + 1, A32, c32, J ++ [(keyK L[i].1, b)], rfl, by omega, by omega, rfl, by rw [hJ, List.take_succ_eq_append_getElem hil, List.map_append, List.map_singleton, blkOf, hb], f32, hw⟩ (by omega)
  ·refine rk_exit rfl ?_
   obtain rfl : i = L.length := by omega
   rw [List.take_length] at hJ
   subst hJ
   exact rk_tof hj (Fr.le_of (by kernel_rfl) (by kernel_rfl) (by repeat' constructor)) ⟨A', c', rfl, fo, hw⟩
 clear hw
 rintro fr w3 ⟨A', c', rfl, fo, hw⟩
 have shw := hw.size
 first | refine rk_frame (by simp only [List.cons_append, List.nil_append, List.drop_succ_cons, List.drop_zero]; rfl) ?_ | refine wl_frame (by simp only [List.cons_append, List.nil_append, List.drop_succ_cons, List.drop_zero]; rfl) ?_
 refine rk_seq ?_
 refine rk_region ?_
 refine wl_p (fun _ => o_move rfl) ?_
 refine wl_p (fun _ => o_assign rfl) ?_
 refine wl_nil ?_
 refine ret1 rfl rfl ?_
 exact ⟨A', c', rfl, fo, hw⟩
theorem C_blocks22R {A : Option Addr} {L : List Ded} {M : List Bk} {n c : Nat} (w : World) (hr : L.map blkOf = M) (hL : RDe w A L) (hn : n = L.length) (hd : LtD L) :
  CallsR Tryz.prog 8 [.slice A n c] w fun v w' => ∃ A' c', v = .slice A' M.length c' ∧ OwnB w' w.heap.size w'.heap.size A' c' M ∧ Below w.heap.size w w' := by
 have h := K_blocks22 (c := c) w hL hn hd
 rwa [hr] at h
end Go.Proofs.YtahkeoegbjopfaaGreat
/-
  Walks of the document's answer for chapter 22: ops read.
-/
namespace Go.Proofs.YtahkeoegbjopfaaGreat
set_option maxRecDepth 100000
open Go.RowKit
def refL : Nat → RS → List Opn × RS
 | 0, s => ([], s)
 | n + 1, s =>
  if s.2 = 0 then
   match readS ((rWord 1 s).1 : Nat) (rWord 1 s).2 with
   | (p, q, u, s') => (((((rWord 1 s).1 : Nat) : Int), p, q, u) :: (refL n s').1, (refL n s').2)
  else ([], s)
theorem refL_readL : ∀ (n : Nat) (s : RS) (L : List Opn) (s' : RS), readL n s = some (L, s') → s.2 = 0 → refL n s = (L, s')
 | 0, s, L, s', h, _ => Option.some.inj h
 | n + 1, s, L, s', h, h0 => by
  unfold readL at h
  unfold refL
  rw [if_pos h0]
  split at h
  ·rename_i h1
   obtain ⟨⟨p, q, u, s2⟩, hrs⟩ : ∃ r, readS ((rWord 1 s).1 : Nat) (rWord 1 s).2 = r := ⟨_, rfl⟩
   rw [hrs] at h ⊢
   dsimp only at h ⊢
   split at h
   ·rename_i h2
    cases h3 : readL n s2 with
    | none => rw [h3] at h; cases h
    | some r =>
     obtain ⟨L2, s3⟩ := r
     rw [h3] at h
     injection h with h
     have := refL_readL n s2 L2 s3 h3 h2.1
     rw [this]
     exact h
   ·cases h
  ·cases h
theorem ref_yes {b : By} {L : List Opn} (h : bytesO L = (b, 0)) : readO b = (L, 0) := readO_bytes h
theorem ref_no {b : By} {r : List Opn × RS} (hr : refL (min (rWord 1 (b, 0)).1 8) (rWord 1 (b, 0)).2 = r) (h : ¬(rEnd r.2 = 0 ∧ bytesO r.1 = (b, 0))) : readO b = ([], 4) := by
 by_cases h1 : readO b = ([], 4)
 ·exact h1
 exfalso
 obtain ⟨⟨L, e⟩, hL⟩ : ∃ x, readO b = x := ⟨_, rfl⟩
 have he : e = 0 := by
  rw [hL] at h1
  unfold readO at hL
  split at hL
  ·exact absurd hL.symm h1
  ·split at hL
   ·exact absurd hL.symm h1
   ·split at hL
    ·injection hL with _ h2; exact h2.symm
    ·exact absurd hL.symm h1
 subst he
 have hb := readO_back hL
 obtain ⟨h2, h3, h4⟩ := bytesO_ok hb
 have hw : rWord 1 (b, 0) = (L.length, (L.flatMap opB, 0)) := by
  rw [h4, rWord_cons, UInt8.toNat_ofNat']
  rw [Nat.mod_eq_of_lt (by omega)]
 rw [hw] at hr
 dsimp only at hr
 rw [Nat.min_eq_left h2] at hr
 have h5 := readL_enc L [] h3
 rw [List.append_nil] at h5
 rw [refL_readL _ _ _ _ h5 rfl] at hr
 subst hr
 exact h ⟨rfl, hb⟩
theorem refL_stop {n : Nat} {s : RS} (h : n = 0 ∨ s.2 ≠ 0) : refL n s = ([], s) := by
 cases n with
 | zero => rfl
 | succ n =>
  unfold refL
  rw [if_neg (h.resolve_left (by omega))]
section
variable {fn : Func} {F : Ending → World → Prop} {N : Nat} {ks : List K} {ops : Array Oper} {tg : Tags} {l : List Oper} {fr : Fr} {w : World} {ty t' : TypeId} {pos : String} {aft : Array Edge} {gd : Option (Nat × Bool)} {g : Nat} {x y : Operand} {k : Int} {K V : Option Addr} {n c m d : Nat} {u u' : Ky} {lb : By} {eb : Nat}
theorem o_ldRfE (hx : fr.ev x = some (.pointer (some ⟨g, 0 + 1, none⟩))) (h : Rfr w g (lb, eb)) : OpV Tryz.prog N fr w (.load 36 x) ty (.int .i64 (eb : Int)) w := by
 obtain ⟨B, cap, A, c, l, hB, _⟩ := h
 exact o_loadbg Tryz.isAgg36 hx hB rfl
theorem o_bldOpk (hx : fr.ev x = some (.int .i64 k)) : OpV Tryz.prog N fr w (.build 54 #[(0, x)]) ty (.agg (opC k none 0 0 none 0 0 z32).toArray) w :=
 o_build (is := [0]) (xs := [x]) (vs := [.int .i64 k]) (by simp [Fr.evs, hx]) (fun _ => by kernel_rfl)
theorem opC_setU : spl (opC k K n c V m d u') (0 + 3) (B8 u.1) = opC k K n c V m d u := by
 unfold spl opC
 rw [List.take_append_of_le_length (by simp), List.take_of_length_le (by simp), List.drop_eq_nil_of_le (by simp [B8_length, u.2, u'.2])]
 simp
theorem wl_stOpU (hx : fr.ev x = some (.pointer (some ⟨g, 0 + 3, none⟩))) (hB : Blk w g t' (opC k K n c V m d u')) (hy : fr.ev y = some (.agg (B8 u.1).toArray))
  (hk : ∀ w', Blk w' g t' (opC k K n c V m d u) → Grew w w' t' (some g) → w'.heap.size = w.heap.size → WL Tryz.prog fn F N ks ops tg.tail l fr w') (ht : tg.loud = true := by rfl) (hg : onG ops fr gd = true := by rfl) (hq : tg.calm = false ∨ tg.rw.may (some g) := by exact .inl rfl) :
  WL Tryz.prog fn F N ks ops tg (⟨none, .store 42 x y, ty, pos, aft, gd⟩ :: l) fr w :=
 wl_storegn (n := 32) Tryz.sizeOf42 hx hy (by rw [B8_length, u.2]) (B8_oneCell _) hB (by rw [opC_length]; omega) (fun w' h1 h2 h3 => hk w' (by rwa [opC_setU] at h1) h2 h3) ht hg hq
end
set_option maxHeartbeats 4000000 in
set_option maxRecDepth 100000 in
theorem C_r22Read {A : Option Addr} {b : By} {L : List Opn} {e n c : Nat} (w : World) (hr : ReadR b L e) (hA : Rd w A b) (hn : n = b.length) (hl : b.length ≤ 4000000) :
  CallsR Tryz.prog 51 [.slice A n c] w fun v w' => ∃ A' c', v = .tuple #[.slice A' L.length c', .int .i64 (e : Int)] ∧ OwnO w' w.heap.size w'.heap.size A' c' L ∧ Below w.heap.size w w' := by
 subst hn
 obtain ⟨hr⟩ := hr
 obtain ⟨⟨n0, l0, e0⟩, hw0⟩ : ∃ s, rWord 1 (b, 0) = s := ⟨_, rfl⟩
 have hle := rWord_255 (b, 0)
 have hrn := @ref_no b
 rw [hw0] at hle hrn
 dsimp only at hle hrn
 have e1 : WordR 1 b 0 n0 l0 e0 := ⟨hw0⟩
 have hl0 : l0.length ≤ 4000000 := by
  have := rWord_rest 1 (b, 0)
  rw [hw0] at this
  exact Nat.le_trans this hl
 refine callsR Tryz.func51 rfl rfl (by kernel_rfl) rfl ?_
 have hw := Below.refl w.heap.size w
 refine rk_seq ?_
 refine rk_region ?_
 refine wl_p (fun _ => o_assign rfl) ?_
 refine wl_p (fun _ => o_assign rfl) ?_
 refine wl_nil ?_
 refine rk_seq ?_
 refine rk_region ?_
 refine wl_p (fun _ => o_move rfl) ?_
 refine wl_call rfl (C_xfRead _ hA rfl (by omega)) ?_
 rintro v12 w12 ⟨g12, ⟨rfl, ⟨i12, ⟨i12_1, ⟨f12, b12⟩⟩⟩⟩⟩
 have s12 := b12.size
 replace hw := hw.trans (b12.mono hw.size)
 refine wl_p (fun _ => o_assign rfl) ?_
 refine wl_nil ?_
 refine rk_seq ?_
 refine rk_region ?_
 refine wl_p (fun _ => o_move rfl) ?_
 refine wl_call rfl (C_xfWord _ f12 e1) ?_
 rintro v14 w14 ⟨rfl, ⟨f14, ⟨g14, g14_1⟩⟩⟩
 have s14 := g14.size
 replace hw := hw.trans (below_of_grownBy g14.g hw.size (by omega))
 clear f12
 refine wl_p (fun _ => o_assign rfl) ?_
 refine wl_nil ?_
 refine rk_seq ?_
 refine rk_region ?_
 refine wl_p (fun _ => o_assign rfl) ?_
 refine wl_nil ?_
 refine rk_seq ?_
 refine rk_seq ?_
 refine rk_region ?_
 refine wl_p (fun _ => o_assign rfl) ?_
 refine wl_nil ?_
 refine rk_block ?_
 obtain ⟨⟨LL, lf, ef⟩, hLL⟩ : ∃ r, refL (min n0 8) (l0, e0) = r := ⟨_, rfl⟩
 have hrn2 := hrn hLL
 dsimp only at hrn2
 refine rk_joinf (fun fb fr w3 => ∃ A' c', fr = [(6, .slice A' LL.length c')] ++ fb.drop 2 ∧ (∀ o ∈ LL, o.2.1.length ≤ 4000000 ∧ o.2.2.1.length ≤ 4000000) ∧ LL.length ≤ 8 ∧ OwnO w3 w.heap.size w3.heap.size A' c' LL ∧ Rfr w3 g12 (lf, ef) ∧ w14.heap.size ≤ w3.heap.size ∧ Below w.heap.size w w3) ?_ (fun ks hj => ?_)
 rotate_left
 ·refine rk_loopf (fun fb m fr w3 => ∃ (i : Nat) (v : Int) (A' : Option Addr) (c' : Nat) (L' : List Opn) (l : By) (e : Nat), fr = [(7, .int .u64 v), (6, .slice A' L'.length c')] ++ fb.drop 2 ∧ v = i ∧ i ≤ min n0 8 ∧ m = min n0 8 - i ∧ L'.length = i ∧ L' ++ (refL (min n0 8 - i) (l, e)).1 = LL ∧ (refL (min n0 8 - i) (l, e)).2 = (lf, ef) ∧ l.length ≤ 4000000 ∧ (∀ o ∈ L', o.2.1.length ≤ 4000000 ∧ o.2.2.1.length ≤ 4000000) ∧ OwnO w3 w.heap.size w3.heap.size A' c' L' ∧ Rfr w3 g12 (l, e) ∧ w14.heap.size ≤ w3.heap.size ∧ Below w.heap.size w w3) (n := min n0 8) (Fr.le_of (by kernel_rfl) (by kernel_rfl) (by repeat' constructor)) ⟨0, _, none, _, [], l0, e0, rfl, rfl, by omega, rfl, rfl, by rw [Nat.sub_zero, hLL]; rfl, by rw [Nat.sub_zero, hLL], hl0, fun o ho => (by cases ho), OwnO.nil_, f14, Nat.le_refl _, hw⟩ ?_
  clear hw f14
  rintro m fr w3 ⟨i, v, A', c', L', l, e, rfl, rfl, hi, rfl, hLl, hrd, hrd2, hll, hLo, fo, f14, hsz, hw⟩
  have shw := hw.size
  first | refine rk_frame (by simp only [List.cons_append, List.nil_append, List.drop_succ_cons, List.drop_zero]; rfl) ?_ | refine wl_frame (by simp only [List.cons_append, List.nil_append, List.drop_succ_cons, List.drop_zero]; rfl) ?_
  by_cases h1 : i < n0
  ·by_cases h2 : i < 8
   ·by_cases h3 : e = 0
    ·subst h3
     obtain ⟨⟨k1, l1, e1⟩, hk1⟩ : ∃ s, rWord 1 (l, 0) = s := ⟨_, rfl⟩
     have e2 : WordR 1 l 0 k1 l1 e1 := ⟨hk1⟩
     have hk1le := rWord_255 (l, 0)
     rw [hk1] at hk1le
     dsimp only at hk1le
     rw [show min n0 8 - i = (min n0 8 - (i + 1)) + 1 by omega, refL, if_pos rfl, hk1] at hrd hrd2
     have hl1 : l1.length ≤ 4000000 := by
      have := rWord_rest 1 (l, 0)
      rw [hk1] at this
      exact Nat.le_trans this hll
     obtain ⟨⟨p, q, u, l2, e3⟩, hrs⟩ : ∃ s, readS (k1 : Nat) (l1, e1) = s := ⟨_, rfl⟩
     rw [hrs] at hrd hrd2
     dsimp only at hrd hrd2
     obtain ⟨n1, n2, n3⟩ := readS_le (k1 : Nat) (l1, e1)
     rw [hrs] at n1 n2 n3
     dsimp only at n1 n2 n3
     unfold readS at hrs
     have wk : (Lit.int .i64 ((k1 : Nat) : Int)).wf = true := i64_wf (by omega)
     by_cases hka : k1 = 1
     ·rw [if_pos (by omega)] at hrs
      obtain ⟨⟨p1, l3, e5⟩, hb1⟩ : ∃ s, rBlock (l1, e1) = s := ⟨_, rfl⟩
      rw [hb1] at hrs
      dsimp only at hrs
      obtain ⟨⟨q1, l4, e6⟩, hb2⟩ : ∃ s, rBlock (l3, e5) = s := ⟨_, rfl⟩
      rw [hb2] at hrs
      injection hrs with x1 hrs
      injection hrs with x2 hrs
      injection hrs with x3 hrs
      injection hrs with x4 x5
      subst x1; subst x2; subst x3; subst x4; subst x5
      have e7 : BlockR l1 e1 p1 l3 e5 := ⟨hb1⟩
      have e8 : BlockR l3 e5 q1 l4 e6 := ⟨hb2⟩
      refine rk_seq ?_
      refine rk_seq ?_
      refine rk_region ?_
      refine wl_p (fun _ => o_move rfl) ?_
      refine wl_p (fun _ => o_move rfl) ?_
      refine wl_p (fun _ => o_lt rfl rfl) ?_
      refine wl_p (fun _ => o_move rfl) ?_
      refine wl_know 18 true rfl (decide_eq_true (by omega)) ?_
      refine wl_p (fun _ => o_move rfl) ?_
      refine wl_p (fun _ => o_lt rfl rfl) ?_
      refine wl_p (fun _ => o_pick_t rfl rfl) ?_
      refine wl_p (fun _ => o_move rfl) ?_
      refine wl_know 22 true rfl (decide_eq_true (by omega)) ?_
      refine wl_p (fun _ => o_move rfl) ?_
      refine wl_p (fun _ => o_nil rfl) ?_
      refine wl_p (fun _ => o_faddr (s := 132) (i := 1) (off := 1) Tryz.underlying132 rfl Tryz.sizeOf36 rfl rfl rfl) ?_
      refine wl_r (o_ldRfE rfl f14) ?_
      refine wl_p (fun _ => o_eq rfl rfl) ?_
      refine wl_p (fun _ => o_pick_t rfl rfl) ?_
      refine wl_nil ?_
      refine rk_true rfl ?_
      refine rk_skip ?_
      refine rk_seq ?_
      refine rk_block ?_
      refine rk_seq ?_
      refine rk_region ?_
      refine wl_p (fun _ => o_move rfl) ?_
      refine wl_call rfl (C_xfWord _ f14 e2) ?_
      rintro v32 w32 ⟨rfl, ⟨f32, ⟨g32, g32_1⟩⟩⟩
      have s32 := g32.size
      replace hw := hw.trans (below_of_grownBy g32.g hw.size (by omega))
      replace fo := fo.y g32 (by decide)
      clear f14
      refine wl_p (fun _ => o_convi64 (src := 43) (dst := 3) Tryz.underlying43 Tryz.underlying3 rfl (by omega) (by omega)) ?_
      refine wl_p (fun _ => (o_bldOpk rfl)) ?_
      refine wl_allocOp ?_
      rintro g8 w8 f8 b8 i8 i8_1
      have s8 := b8.size
      replace hw := hw.trans (b8.mono hw.size)
      replace fo := fo.u b8
      replace f32 := f32.u b8
      refine wl_stOpB rfl f8 rfl ?_
      rintro w_1 f g e_1
      have s := g.size
      replace hw := hw.trans (below_of_grownBy g.g hw.size (by omega))
      replace f32 := f32.y g (by decide)
      replace fo := fo.q g (ap_some (by omega)) (by decide)
      clear f8
      refine wl_nil ?_
      refine rk_seq ?_
      refine rk_seq ?_
      refine rk_region ?_
      refine wl_p (fun _ => o_faddr (s := 54) (i := 0) (off := 0) Tryz.underlying54 rfl Tryz.sizeOf3 rfl rfl rfl) ?_
      refine wl_r (o_loadbg Tryz.isAgg3 rfl f (by rfl)) ?_
      refine wl_nil ?_
      refine rk_block ?_
      refine rk_seq ?_
      refine rk_region ?_
      refine wl_p (fun _ => o_eq rfl rfl) ?_
      refine wl_p (fun _ => o_assign rfl) ?_
      refine wl_nil ?_
      refine rk_if rfl (fun h40 => ?_) (fun h40 => h40.elim (by omega))
      refine rk_seq ?_
      refine rk_region ?_
      refine wl_p (fun _ => o_move rfl) ?_
      refine wl_call rfl (C_xfBlock _ f32 e7) ?_
      rintro v43 w43 ⟨A43, ⟨c43, ⟨rfl, ⟨f43, ⟨f43_1, ⟨g43, g43_1⟩⟩⟩⟩⟩⟩
      have qf43 := f43.cap
      have s43 := g43.size
      replace hw := hw.trans (below_of_grownBy g43.g hw.size (by omega))
      replace fo := fo.y g43 (by decide)
      replace f := f.k g43.g (ap_some (by omega))
      clear f32
      refine wl_p (fun _ => o_faddr (s := 54) (i := 1) (off := 1) Tryz.underlying54 rfl Tryz.sizeOf39 rfl rfl rfl) ?_
      refine wl_stOpK rfl f rfl ?_
      rintro w_2 f_1 g_1 e_2
      have s_1 := g_1.size
      replace hw := hw.trans (below_of_grownBy g_1.g hw.size (by omega))
      replace fo := fo.q g_1 (ap_some (by omega)) (by decide)
      replace f43_1 := f43_1.y g_1 (by decide)
      replace f43 := f43.k g_1.g (ap_some (by omega))
      clear f
      refine wl_nil ?_
      refine rk_region ?_
      refine wl_p (fun _ => o_move rfl) ?_
      refine wl_call rfl (C_xfBlock _ f43_1 e8) ?_
      rintro v46 w46 ⟨A46, ⟨c46, ⟨rfl, ⟨f46, ⟨f46_1, ⟨g46, g46_1⟩⟩⟩⟩⟩⟩
      have qf46 := f46.cap
      have s46 := g46.size
      replace hw := hw.trans (below_of_grownBy g46.g hw.size (by omega))
      replace f43 := f43.k g46.g (ap_some (by omega))
      replace fo := fo.y g46 (by decide)
      replace f_1 := f_1.k g46.g (ap_some (by omega))
      clear f43_1
      refine wl_p (fun _ => o_faddr (s := 54) (i := 2) (off := 2) Tryz.underlying54 rfl Tryz.sizeOf39 rfl rfl rfl) ?_
      refine wl_stOpV rfl f_1 rfl ?_
      rintro w_3 f g_2 e_3
      have s_2 := g_2.size
      replace hw := hw.trans (below_of_grownBy g_2.g hw.size (by omega))
      replace fo := fo.q g_2 (ap_some (by omega)) (by decide)
      replace f43 := f43.k g_2.g (ap_some (by omega))
      replace f46_1 := f46_1.y g_2 (by decide)
      replace f46 := f46.k g_2.g (ap_some (by omega))
      clear f_1
      refine wl_nil ?_
      refine rk_blk ?_
      refine rk_region ?_
      refine wl_p (fun _ => o_move rfl) ?_
      refine wl_r (o_loadag Tryz.isAgg54 Tryz.sizeOf54 rfl f (by rfl)) ?_
      have m43 := own_max f43
      have m46 := own_max f46
      refine wl_litO1 (by rfl) rfl f43.to_RdT f46.to_RdT rfl rfl (by omega) (by omega) (by omega) (by omega) wk (by rfl) ?_
      rintro A55 w55 f55 b55
      have qf55 := f55.cap
      have s55 := b55.size
      replace hw := hw.trans (b55.mono hw.size)
      replace f46 := f46.u b55
      replace f46_1 := f46_1.u b55
      replace f43 := f43.u b55
      replace fo := fo.u b55
      replace f := f.u b55
      refine wl_appO rfl fo rfl rfl f55.to_ROT (by rfl) (by omega) hw.size ?_
      rintro A56 c56 w56 f56 g56 b56
      have qf56 := f56.cap
      have s56 := g56.size
      replace hw := hw.trans (b56.mono (by omega))
      replace f := f.k g56.g (fo.ap (by omega))
      replace f43 := f43.y g56 (by decide)
      replace f46_1 := f46_1.y g56 (by decide)
      replace f46 := f46.y g56 (by decide)
      replace f55 := f55.q g56 (fo.ap (by omega)) (by decide)
      clear fo
      refine wl_p (fun _ => o_assign rfl) ?_
      refine wl_nil ?_
      refine rk_blk ?_
      refine rk_region ?_
      refine wl_p (fun _ => o_move rfl) ?_
      refine wl_p (fun _ => o_addw rfl rfl) ?_
      refine wl_p (fun _ => o_assign rfl) ?_
      refine wl_nil ?_
      have hwi : IntKind.u64.wrap ((i : Int) + 1) = ((i + 1 : Nat) : Int) := wrap_add i 1 (by unfold u64; omega)
      exact rk_againf (Fr.le_of (by kernel_rfl) (by kernel_rfl) (by repeat' constructor)) ⟨i + 1, _, A56, c56, L' ++ [((k1 : Int), p1, q1, z32)], _, _, rfl, hwi, by omega, rfl, by simp [hLl], by rw [List.append_assoc]; exact hrd, hrd2, by omega, fun o ho => by
       rcases List.mem_append.1 ho with h | h
       ·exact hLo o h
       ·rw [List.mem_singleton] at h; subst h; exact ⟨Nat.le_trans n1 hl1, Nat.le_trans n2 hl1⟩, f56.base (by omega) (by omega), by assumption, by omega, hw⟩ (by omega)
     ·rw [if_neg (by omega)] at hrs
      by_cases hkb : k1 = 2
      ·rw [if_pos (by omega)] at hrs
       obtain ⟨⟨p1, l3, e5⟩, hb1⟩ : ∃ s, rBlock (l1, e1) = s := ⟨_, rfl⟩
       rw [hb1] at hrs
       injection hrs with x1 hrs
       injection hrs with x2 hrs
       injection hrs with x3 hrs
       injection hrs with x4 x5
       subst x1; subst x2; subst x3; subst x4; subst x5
       have e7 : BlockR l1 e1 p1 l3 e5 := ⟨hb1⟩
       refine rk_seq ?_
       refine rk_seq ?_
       refine rk_region ?_
       refine wl_p (fun _ => o_move rfl) ?_
       refine wl_p (fun _ => o_move rfl) ?_
       refine wl_p (fun _ => o_lt rfl rfl) ?_
       refine wl_p (fun _ => o_move rfl) ?_
       refine wl_know 18 true rfl (decide_eq_true (by omega)) ?_
       refine wl_p (fun _ => o_move rfl) ?_
       refine wl_p (fun _ => o_lt rfl rfl) ?_
       refine wl_p (fun _ => o_pick_t rfl rfl) ?_
       refine wl_p (fun _ => o_move rfl) ?_
       refine wl_know 22 true rfl (decide_eq_true (by omega)) ?_
       refine wl_p (fun _ => o_move rfl) ?_
       refine wl_p (fun _ => o_nil rfl) ?_
       refine wl_p (fun _ => o_faddr (s := 132) (i := 1) (off := 1) Tryz.underlying132 rfl Tryz.sizeOf36 rfl rfl rfl) ?_
       refine wl_r (o_ldRfE rfl f14) ?_
       refine wl_p (fun _ => o_eq rfl rfl) ?_
       refine wl_p (fun _ => o_pick_t rfl rfl) ?_
       refine wl_nil ?_
       refine rk_true rfl ?_
       refine rk_skip ?_
       refine rk_seq ?_
       refine rk_block ?_
       refine rk_seq ?_
       refine rk_region ?_
       refine wl_p (fun _ => o_move rfl) ?_
       refine wl_call rfl (C_xfWord _ f14 e2) ?_
       rintro v32 w32 ⟨rfl, ⟨f32, ⟨g32, g32_1⟩⟩⟩
       have s32 := g32.size
       replace hw := hw.trans (below_of_grownBy g32.g hw.size (by omega))
       replace fo := fo.y g32 (by decide)
       clear f14
       refine wl_p (fun _ => o_convi64 (src := 43) (dst := 3) Tryz.underlying43 Tryz.underlying3 rfl (by omega) (by omega)) ?_
       refine wl_p (fun _ => (o_bldOpk rfl)) ?_
       refine wl_allocOp ?_
       rintro g8 w8 f8 b8 i8 i8_1
       have s8 := b8.size
       replace hw := hw.trans (b8.mono hw.size)
       replace fo := fo.u b8
       replace f32 := f32.u b8
       refine wl_stOpB rfl f8 rfl ?_
       rintro w_1 f g e_1
       have s := g.size
       replace hw := hw.trans (below_of_grownBy g.g hw.size (by omega))
       replace f32 := f32.y g (by decide)
       replace fo := fo.q g (ap_some (by omega)) (by decide)
       clear f8
       refine wl_nil ?_
       refine rk_seq ?_
       refine rk_seq ?_
       refine rk_region ?_
       refine wl_p (fun _ => o_faddr (s := 54) (i := 0) (off := 0) Tryz.underlying54 rfl Tryz.sizeOf3 rfl rfl rfl) ?_
       refine wl_r (o_loadbg Tryz.isAgg3 rfl f (by rfl)) ?_
       refine wl_nil ?_
       refine rk_block ?_
       refine rk_seq ?_
       refine rk_region ?_
       refine wl_p (fun _ => o_eq rfl rfl) ?_
       refine wl_p (fun _ => o_assign rfl) ?_
       refine wl_nil ?_
       refine rk_if rfl (fun h40 => absurd h40 (by omega)) (fun h40 => ?_)
       refine rk_seq ?_
       refine rk_region ?_
       refine wl_p (fun _ => o_eq rfl rfl) ?_
       refine wl_p (fun _ => o_assign rfl) ?_
       refine wl_nil ?_
       refine rk_if rfl (fun h48 => ?_) (fun h48 => h48.elim (by omega))
       refine rk_region ?_
       refine wl_p (fun _ => o_move rfl) ?_
       refine wl_call rfl (C_xfBlock _ f32 e7) ?_
       rintro v51 w51 ⟨A51, ⟨c51, ⟨rfl, ⟨f51, ⟨f51_1, ⟨g51, g51_1⟩⟩⟩⟩⟩⟩
       have qf51 := f51.cap
       have s51 := g51.size
       replace hw := hw.trans (below_of_grownBy g51.g hw.size (by omega))
       replace fo := fo.y g51 (by decide)
       replace f := f.k g51.g (ap_some (by omega))
       clear f32
       refine wl_p (fun _ => o_faddr (s := 54) (i := 1) (off := 1) Tryz.underlying54 rfl Tryz.sizeOf39 rfl rfl rfl) ?_
       refine wl_stOpK rfl f rfl ?_
       rintro w_2 f_1 g_1 e_2
       have s_1 := g_1.size
       replace hw := hw.trans (below_of_grownBy g_1.g hw.size (by omega))
       replace fo := fo.q g_1 (ap_some (by omega)) (by decide)
       replace f51_1 := f51_1.y g_1 (by decide)
       replace f51 := f51.k g_1.g (ap_some (by omega))
       clear f
       refine wl_nil ?_
       refine rk_blk ?_
       refine rk_region ?_
       refine wl_p (fun _ => o_move rfl) ?_
       refine wl_r (o_loadag Tryz.isAgg54 Tryz.sizeOf54 rfl f_1 (by rfl)) ?_
       have m51 := own_max f51
       refine wl_litO1 (by rfl) rfl f51.to_RdT (RdT.nil_) rfl (by rfl) (by omega) (by omega) (by simp) (by omega) wk (by rfl) ?_
       rintro A55 w55 f55 b55
       have qf55 := f55.cap
       have s55 := b55.size
       replace hw := hw.trans (b55.mono hw.size)
       replace f51 := f51.u b55
       replace f51_1 := f51_1.u b55
       replace fo := fo.u b55
       replace f_1 := f_1.u b55
       refine wl_appO rfl fo rfl rfl f55.to_ROT (by rfl) (by omega) hw.size ?_
       rintro A56 c56 w56 f56 g56 b56
       have qf56 := f56.cap
       have s56 := g56.size
       replace hw := hw.trans (b56.mono (by omega))
       replace f_1 := f_1.k g56.g (fo.ap (by omega))
       replace f51_1 := f51_1.y g56 (by decide)
       replace f51 := f51.y g56 (by decide)
       replace f55 := f55.q g56 (fo.ap (by omega)) (by decide)
       clear fo
       refine wl_p (fun _ => o_assign rfl) ?_
       refine wl_nil ?_
       refine rk_blk ?_
       refine rk_region ?_
       refine wl_p (fun _ => o_move rfl) ?_
       refine wl_p (fun _ => o_addw rfl rfl) ?_
       refine wl_p (fun _ => o_assign rfl) ?_
       refine wl_nil ?_
       have hwi : IntKind.u64.wrap ((i : Int) + 1) = ((i + 1 : Nat) : Int) := wrap_add i 1 (by unfold u64; omega)
       exact rk_againf (Fr.le_of (by kernel_rfl) (by kernel_rfl) (by repeat' constructor)) ⟨i + 1, _, A56, c56, L' ++ [((k1 : Int), p1, [], z32)], _, _, rfl, hwi, by omega, rfl, by simp [hLl], by rw [List.append_assoc]; exact hrd, hrd2, by omega, fun o ho => by
        rcases List.mem_append.1 ho with h | h
        ·exact hLo o h
        ·rw [List.mem_singleton] at h; subst h; exact ⟨Nat.le_trans n1 hl1, Nat.le_trans n2 hl1⟩, f56.base (by omega) (by omega), by assumption, by omega, hw⟩ (by omega)
      ·rw [if_neg (by omega)] at hrs
       obtain ⟨⟨d1, l3, e5⟩, hb1⟩ : ∃ s, rDigest (l1, e1) = s := ⟨_, rfl⟩
       injection hrs with x1 hrs
       injection hrs with x2 hrs
       injection hrs with x3 x4
       rw [hb1] at x4
       injection x4 with x4 x5
       subst x1; subst x2; subst x4; subst x5
       have e7 : DigR l1 e1 u.1 l3 e5 := ⟨by rw [← x3]; exact Prod.ext rfl (by rw [hb1])⟩
       refine rk_seq ?_
       refine rk_seq ?_
       refine rk_region ?_
       refine wl_p (fun _ => o_move rfl) ?_
       refine wl_p (fun _ => o_move rfl) ?_
       refine wl_p (fun _ => o_lt rfl rfl) ?_
       refine wl_p (fun _ => o_move rfl) ?_
       refine wl_know 18 true rfl (decide_eq_true (by omega)) ?_
       refine wl_p (fun _ => o_move rfl) ?_
       refine wl_p (fun _ => o_lt rfl rfl) ?_
       refine wl_p (fun _ => o_pick_t rfl rfl) ?_
       refine wl_p (fun _ => o_move rfl) ?_
       refine wl_know 22 true rfl (decide_eq_true (by omega)) ?_
       refine wl_p (fun _ => o_move rfl) ?_
       refine wl_p (fun _ => o_nil rfl) ?_
       refine wl_p (fun _ => o_faddr (s := 132) (i := 1) (off := 1) Tryz.underlying132 rfl Tryz.sizeOf36 rfl rfl rfl) ?_
       refine wl_r (o_ldRfE rfl f14) ?_
       refine wl_p (fun _ => o_eq rfl rfl) ?_
       refine wl_p (fun _ => o_pick_t rfl rfl) ?_
       refine wl_nil ?_
       refine rk_true rfl ?_
       refine rk_skip ?_
       refine rk_seq ?_
       refine rk_block ?_
       refine rk_seq ?_
       refine rk_region ?_
       refine wl_p (fun _ => o_move rfl) ?_
       refine wl_call rfl (C_xfWord _ f14 e2) ?_
       rintro v32 w32 ⟨rfl, ⟨f32, ⟨g32, g32_1⟩⟩⟩
       have s32 := g32.size
       replace hw := hw.trans (below_of_grownBy g32.g hw.size (by omega))
       replace fo := fo.y g32 (by decide)
       clear f14
       refine wl_p (fun _ => o_convi64 (src := 43) (dst := 3) Tryz.underlying43 Tryz.underlying3 rfl (by omega) (by omega)) ?_
       refine wl_p (fun _ => (o_bldOpk rfl)) ?_
       refine wl_allocOp ?_
       rintro g8 w8 f8 b8 i8 i8_1
       have s8 := b8.size
       replace hw := hw.trans (b8.mono hw.size)
       replace fo := fo.u b8
       replace f32 := f32.u b8
       refine wl_stOpB rfl f8 rfl ?_
       rintro w_1 f g e_1
       have s := g.size
       replace hw := hw.trans (below_of_grownBy g.g hw.size (by omega))
       replace f32 := f32.y g (by decide)
       replace fo := fo.q g (ap_some (by omega)) (by decide)
       clear f8
       refine wl_nil ?_
       refine rk_seq ?_
       refine rk_seq ?_
       refine rk_region ?_
       refine wl_p (fun _ => o_faddr (s := 54) (i := 0) (off := 0) Tryz.underlying54 rfl Tryz.sizeOf3 rfl rfl rfl) ?_
       refine wl_r (o_loadbg Tryz.isAgg3 rfl f (by rfl)) ?_
       refine wl_nil ?_
       refine rk_block ?_
       refine rk_seq ?_
       refine rk_region ?_
       refine wl_p (fun _ => o_eq rfl rfl) ?_
       refine wl_p (fun _ => o_assign rfl) ?_
       refine wl_nil ?_
       refine rk_if rfl (fun h40 => absurd h40 (by omega)) (fun h40 => ?_)
       refine rk_seq ?_
       refine rk_region ?_
       refine wl_p (fun _ => o_eq rfl rfl) ?_
       refine wl_p (fun _ => o_assign rfl) ?_
       refine wl_nil ?_
       refine rk_if rfl (fun h48 => absurd h48 (by omega)) (fun h48 => ?_)
       refine rk_region ?_
       refine wl_p (fun _ => o_move rfl) ?_
       refine wl_call rfl (C_xfDigest _ f32 e7) ?_
       rintro v38 w38 ⟨rfl, ⟨f38, ⟨g38, g38_1⟩⟩⟩
       have s38 := g38.size
       replace hw := hw.trans (below_of_grownBy g38.g hw.size (by omega))
       replace fo := fo.y g38 (by decide)
       replace f := f.k g38.g (ap_some (by omega))
       clear f32
       refine wl_p (fun _ => o_faddr (s := 54) (i := 3) (off := 3) Tryz.underlying54 rfl Tryz.sizeOf42 rfl rfl rfl) ?_
       refine wl_stOpU rfl f rfl ?_
       rintro w_2 f_1 g_1 e_2
       have s_1 := g_1.size
       replace hw := hw.trans (below_of_grownBy g_1.g hw.size (by omega))
       replace fo := fo.q g_1 (ap_some (by omega)) (by decide)
       replace f38 := f38.y g_1 (by decide)
       clear f
       refine wl_nil ?_
       refine rk_blk ?_
       refine rk_region ?_
       refine wl_p (fun _ => o_move rfl) ?_
       refine wl_r (o_loadag Tryz.isAgg54 Tryz.sizeOf54 rfl f_1 (opC_length ..)) ?_
       refine wl_litO1 (by rfl) rfl (RdT.nil_) (RdT.nil_) (by rfl) (by rfl) (by simp) (by omega) (by simp) (by omega) wk (by rfl) ?_
       rintro A55 w55 f55 b55
       have qf55 := f55.cap
       have s55 := b55.size
       replace hw := hw.trans (b55.mono hw.size)
       replace f38 := f38.u b55
       replace fo := fo.u b55
       replace f_1 := f_1.u b55
       refine wl_appO rfl fo rfl rfl f55.to_ROT (by rfl) (by omega) hw.size ?_
       rintro A56 c56 w56 f56 g56 b56
       have qf56 := f56.cap
       have s56 := g56.size
       replace hw := hw.trans (b56.mono (by omega))
       replace f_1 := f_1.k g56.g (fo.ap (by omega))
       replace f38 := f38.y g56 (by decide)
       replace f55 := f55.q g56 (fo.ap (by omega)) (by decide)
       clear fo
       refine wl_p (fun _ => o_assign rfl) ?_
       refine wl_nil ?_
       refine rk_blk ?_
       refine rk_region ?_
       refine wl_p (fun _ => o_move rfl) ?_
       refine wl_p (fun _ => o_addw rfl rfl) ?_
       refine wl_p (fun _ => o_assign rfl) ?_
       refine wl_nil ?_
       have hwi : IntKind.u64.wrap ((i : Int) + 1) = ((i + 1 : Nat) : Int) := wrap_add i 1 (by unfold u64; omega)
       exact rk_againf (Fr.le_of (by kernel_rfl) (by kernel_rfl) (by repeat' constructor)) ⟨i + 1, _, A56, c56, L' ++ [((k1 : Int), [], [], u)], _, _, rfl, hwi, by omega, rfl, by simp [hLl], by rw [List.append_assoc]; exact hrd, hrd2, by omega, fun o ho => by
        rcases List.mem_append.1 ho with h | h
        ·exact hLo o h
        ·rw [List.mem_singleton] at h; subst h; exact ⟨Nat.le_trans n1 hl1, Nat.le_trans n2 hl1⟩, f56.base (by omega) (by omega), by assumption, by omega, hw⟩ (by omega)
    ·refine rk_seq ?_
     refine rk_seq ?_
     refine rk_region ?_
     refine wl_p (fun _ => o_move rfl) ?_
     refine wl_p (fun _ => o_move rfl) ?_
     refine wl_p (fun _ => o_lt rfl rfl) ?_
     refine wl_p (fun _ => o_move rfl) ?_
     refine wl_know 18 true rfl (decide_eq_true (by omega)) ?_
     refine wl_p (fun _ => o_move rfl) ?_
     refine wl_p (fun _ => o_lt rfl rfl) ?_
     refine wl_p (fun _ => o_pick_t rfl rfl) ?_
     refine wl_p (fun _ => o_move rfl) ?_
     refine wl_know 22 true rfl (decide_eq_true (by omega)) ?_
     refine wl_p (fun _ => o_move rfl) ?_
     refine wl_p (fun _ => o_nil rfl) ?_
     refine wl_p (fun _ => o_faddr (s := 132) (i := 1) (off := 1) Tryz.underlying132 rfl Tryz.sizeOf36 rfl rfl rfl) ?_
     refine wl_r (o_ldRfE rfl f14) ?_
     refine wl_p (fun _ => o_eq rfl rfl) ?_
     refine wl_p (fun _ => o_pick_t rfl rfl) ?_
     refine wl_nil ?_
     refine rk_if rfl (fun h28 => absurd h28 (by omega)) (fun h28 => ?_)
     refine rk_exit rfl ?_
     have hst := refL_stop (n := min n0 8 - i) (s := (l, e)) (.inr h3)
     rw [hst] at hrd hrd2
     rw [List.append_nil] at hrd
     injection hrd2 with x1 x2
     subst hrd; subst x1; subst x2
     exact rk_tof hj (Fr.le_of (by kernel_rfl) (by kernel_rfl) (by repeat' constructor)) ⟨A', c', rfl, hLo, by omega, fo, f14, hsz, hw⟩
   ·refine rk_seq ?_
    refine rk_seq ?_
    refine rk_region ?_
    refine wl_p (fun _ => o_move rfl) ?_
    refine wl_p (fun _ => o_move rfl) ?_
    refine wl_p (fun _ => o_lt rfl rfl) ?_
    refine wl_p (fun _ => o_move rfl) ?_
    refine wl_know 18 true rfl (decide_eq_true (by omega)) ?_
    refine wl_p (fun _ => o_move rfl) ?_
    refine wl_p (fun _ => o_lt rfl rfl) ?_
    refine wl_p (fun _ => o_pick_t rfl rfl) ?_
    refine wl_p (fun _ => o_move rfl) ?_
    refine wl_know 22 false rfl (decide_eq_false (by omega)) ?_
    refine wl_off ?_
    refine wl_off ?_
    refine wl_off ?_
    refine wl_off ?_
    refine wl_off ?_
    refine wl_p (fun _ => o_pick_f rfl rfl) ?_
    refine wl_nil ?_
    refine rk_false rfl ?_
    refine rk_exit rfl ?_
    have hst := refL_stop (n := min n0 8 - i) (s := (l, e)) (.inl (by omega))
    rw [hst] at hrd hrd2
    rw [List.append_nil] at hrd
    injection hrd2 with x1 x2
    subst hrd; subst x1; subst x2
    exact rk_tof hj (Fr.le_of (by kernel_rfl) (by kernel_rfl) (by repeat' constructor)) ⟨A', c', rfl, hLo, by omega, fo, f14, hsz, hw⟩
  ·refine rk_seq ?_
   refine rk_seq ?_
   refine rk_region ?_
   refine wl_p (fun _ => o_move rfl) ?_
   refine wl_p (fun _ => o_move rfl) ?_
   refine wl_p (fun _ => o_lt rfl rfl) ?_
   refine wl_p (fun _ => o_move rfl) ?_
   refine wl_know 18 false rfl (decide_eq_false (by omega)) ?_
   refine wl_off ?_
   refine wl_off ?_
   refine wl_p (fun _ => o_pick_f rfl rfl) ?_
   refine wl_p (fun _ => o_move rfl) ?_
   refine wl_off ?_
   refine wl_off ?_
   refine wl_off ?_
   refine wl_off ?_
   refine wl_off ?_
   refine wl_p (fun _ => o_pick_f rfl rfl) ?_
   refine wl_nil ?_
   refine rk_false rfl ?_
   refine rk_exit rfl ?_
   have hst := refL_stop (n := min n0 8 - i) (s := (l, e)) (.inl (by omega))
   rw [hst] at hrd hrd2
   rw [List.append_nil] at hrd
   injection hrd2 with x1 x2
   subst hrd; subst x1; subst x2
   exact rk_tof hj (Fr.le_of (by kernel_rfl) (by kernel_rfl) (by repeat' constructor)) ⟨A', c', rfl, hLo, by omega, fo, f14, hsz, hw⟩
 clear hw f14
 rintro fr w3 ⟨A', c', rfl, hLo, hLl, fo, f14, hsz, hw⟩
 have shw := hw.size
 first | refine rk_frame (by simp only [List.cons_append, List.nil_append, List.drop_succ_cons, List.drop_zero]; rfl) ?_ | refine wl_frame (by simp only [List.cons_append, List.nil_append, List.drop_succ_cons, List.drop_zero]; rfl) ?_
 obtain ⟨⟨bk, ek⟩, hbk⟩ : ∃ r, bytesO LL = r := ⟨_, rfl⟩
 have e4 : BytesR LL bk ek := ⟨hbk⟩
 have wf : (Lit.int .i64 (ek : Int)).wf = true ∨ True := .inr trivial
 by_cases h1 : rEnd (lf, ef) = 0
 ·by_cases h2 : ek = 0
  ·by_cases h3 : bk = b
   ·subst h2; subst h3
    rw [ref_yes hbk] at hr
    injection hr with x1 x2
    subst x1; subst x2
    refine rk_seq ?_
    refine rk_region ?_
    refine wl_p (fun _ => o_move rfl) ?_
    refine wl_call rfl (C_r22BytesN _ e4 fo.to_RO rfl (by omega) (by omega)) ?_
    rintro v59 w59 ⟨A59, ⟨c59, ⟨rfl, ⟨f59, b59⟩⟩⟩⟩
    have qf59 := f59.cap
    have s59 := b59.size
    replace hw := hw.trans (b59.mono hw.size)
    replace f14 := f14.u b59
    replace fo := fo.u b59
    refine wl_p (fun _ => o_move rfl) ?_
    refine wl_p (fun _ => o_ext20 rfl) ?_
    refine wl_p (fun _ => o_ext21 rfl) ?_
    refine wl_p (fun _ => o_assign rfl) ?_
    refine wl_p (fun _ => o_assign rfl) ?_
    refine wl_nil ?_
    refine rk_seq ?_
    refine rk_seq ?_
    refine rk_region ?_
    refine wl_p (fun _ => o_move rfl) ?_
    refine wl_call rfl (C_xfEnd _ f14) ?_
    rintro v63 w63 ⟨rfl, rfl⟩
    refine wl_p (fun _ => o_ne rfl rfl) ?_
    refine wl_p (fun _ => o_move rfl) ?_
    refine wl_know 65 false rfl (decide_eq_false (by omega)) ?_
    refine wl_p (fun _ => o_move rfl) ?_
    refine wl_p (fun _ => o_ne rfl rfl) ?_
    refine wl_p (fun _ => o_pick_f rfl rfl) ?_
    refine wl_p (fun _ => o_move rfl) ?_
    refine wl_p (fun _ => o_move rfl) ?_
    refine wl_r (o_strU Tryz.underlying39 Tryz.underlying5 Tryz.underlying9 rfl f59.to_Rd (Below.refl _ _) rfl) ?_
    refine wl_p (fun _ => o_move rfl) ?_
    refine wl_r (o_strU Tryz.underlying39 Tryz.underlying5 Tryz.underlying9 rfl hA hw rfl) ?_
    refine wl_p (fun _ => o_sne rfl rfl) ?_
    refine wl_p (fun _ => o_pick_f rfl rfl) ?_
    refine wl_nil ?_
    refine rk_cond rfl (fun h75 => by simp at h75) (fun h75 => ?_)
    refine rk_skip ?_
    refine rk_seq ?_
    refine rk_region ?_
    refine wl_p (fun _ => o_move rfl) ?_
    refine wl_p (fun _ => o_assign rfl) ?_
    refine wl_p (fun _ => o_assign rfl) ?_
    refine wl_nil ?_
    refine ret2 rfl rfl rfl ?_
    exact ⟨_, _, rfl, fo.base (by omega) (by omega), hw⟩
   ·have hno := hrn2 (fun h => h3 (by rw [hbk] at h; injection h.2))
    rw [hno] at hr
    injection hr with x1 x2
    subst x1; subst x2
    refine rk_seq ?_
    refine rk_region ?_
    refine wl_p (fun _ => o_move rfl) ?_
    refine wl_call rfl (C_r22BytesN _ e4 fo.to_RO rfl (by omega) (by omega)) ?_
    rintro v59 w59 ⟨A59, ⟨c59, ⟨rfl, ⟨f59, b59⟩⟩⟩⟩
    have qf59 := f59.cap
    have s59 := b59.size
    replace hw := hw.trans (b59.mono hw.size)
    replace f14 := f14.u b59
    replace fo := fo.u b59
    refine wl_p (fun _ => o_move rfl) ?_
    refine wl_p (fun _ => o_ext20 rfl) ?_
    refine wl_p (fun _ => o_ext21 rfl) ?_
    refine wl_p (fun _ => o_assign rfl) ?_
    refine wl_p (fun _ => o_assign rfl) ?_
    refine wl_nil ?_
    refine rk_seq ?_
    refine rk_seq ?_
    refine rk_region ?_
    refine wl_p (fun _ => o_move rfl) ?_
    refine wl_call rfl (C_xfEnd _ f14) ?_
    rintro v63 w63 ⟨rfl, rfl⟩
    refine wl_p (fun _ => o_ne rfl rfl) ?_
    refine wl_p (fun _ => o_move rfl) ?_
    refine wl_know 65 false rfl (decide_eq_false (by omega)) ?_
    refine wl_p (fun _ => o_move rfl) ?_
    refine wl_p (fun _ => o_ne rfl rfl) ?_
    refine wl_p (fun _ => o_pick_f rfl rfl) ?_
    refine wl_p (fun _ => o_move rfl) ?_
    refine wl_know 69 false rfl (decide_eq_false (by omega)) ?_
    refine wl_p (fun _ => o_move rfl) ?_
    refine wl_r (o_strU Tryz.underlying39 Tryz.underlying5 Tryz.underlying9 rfl f59.to_Rd (Below.refl _ _) rfl) ?_
    refine wl_p (fun _ => o_move rfl) ?_
    refine wl_r (o_strU Tryz.underlying39 Tryz.underlying5 Tryz.underlying9 rfl hA hw rfl) ?_
    refine wl_p (fun _ => o_sne rfl rfl) ?_
    refine wl_p (fun _ => o_pick_f rfl rfl) ?_
    refine wl_nil ?_
    refine rk_if rfl (fun h75 => ?_) (fun h75 => h75.elim (by omega))
    refine rk_seq ?_
    refine rk_region ?_
    refine wl_p (fun _ => o_assign rfl) ?_
    refine wl_p (fun _ => o_assign rfl) ?_
    refine wl_nil ?_
    refine ret2 rfl rfl rfl ?_
    exact ⟨_, _, rfl, OwnO.nil_, hw⟩
  ·have hno := hrn2 (fun h => h2 (by rw [hbk] at h; injection h.2))
   rw [hno] at hr
   injection hr with x1 x2
   subst x1; subst x2
   refine rk_seq ?_
   refine rk_region ?_
   refine wl_p (fun _ => o_move rfl) ?_
   refine wl_call rfl (C_r22BytesN _ e4 fo.to_RO rfl (by omega) (by omega)) ?_
   rintro v59 w59 ⟨A59, ⟨c59, ⟨rfl, ⟨f59, b59⟩⟩⟩⟩
   have qf59 := f59.cap
   have s59 := b59.size
   replace hw := hw.trans (b59.mono hw.size)
   replace f14 := f14.u b59
   replace fo := fo.u b59
   refine wl_p (fun _ => o_move rfl) ?_
   refine wl_p (fun _ => o_ext20 rfl) ?_
   refine wl_p (fun _ => o_ext21 rfl) ?_
   refine wl_p (fun _ => o_assign rfl) ?_
   refine wl_p (fun _ => o_assign rfl) ?_
   refine wl_nil ?_
   refine rk_seq ?_
   refine rk_seq ?_
   refine rk_region ?_
   refine wl_p (fun _ => o_move rfl) ?_
   refine wl_call rfl (C_xfEnd _ f14) ?_
   rintro v63 w63 ⟨rfl, rfl⟩
   refine wl_p (fun _ => o_ne rfl rfl) ?_
   refine wl_p (fun _ => o_move rfl) ?_
   refine wl_know 65 false rfl (decide_eq_false (by omega)) ?_
   refine wl_p (fun _ => o_move rfl) ?_
   refine wl_p (fun _ => o_ne rfl rfl) ?_
   refine wl_p (fun _ => o_pick_f rfl rfl) ?_
   refine wl_p (fun _ => o_move rfl) ?_
   refine wl_know 69 true rfl (decide_eq_true (by omega)) ?_
   refine wl_off ?_
   refine wl_off ?_
   refine wl_off ?_
   refine wl_off ?_
   refine wl_off ?_
   refine wl_p (fun _ => o_pick_t rfl rfl) ?_
   refine wl_nil ?_
   refine rk_true rfl ?_
   refine rk_seq ?_
   refine rk_region ?_
   refine wl_p (fun _ => o_assign rfl) ?_
   refine wl_p (fun _ => o_assign rfl) ?_
   refine wl_nil ?_
   refine ret2 rfl rfl rfl ?_
   exact ⟨_, _, rfl, OwnO.nil_, hw⟩
 ·have hno := hrn2 (fun h => h1 h.1)
  rw [hno] at hr
  injection hr with x1 x2
  subst x1; subst x2
  refine rk_seq ?_
  refine rk_region ?_
  refine wl_p (fun _ => o_move rfl) ?_
  refine wl_call rfl (C_r22BytesN _ e4 fo.to_RO rfl (by omega) (by omega)) ?_
  rintro v59 w59 ⟨A59, ⟨c59, ⟨rfl, ⟨f59, b59⟩⟩⟩⟩
  have qf59 := f59.cap
  have s59 := b59.size
  replace hw := hw.trans (b59.mono hw.size)
  replace f14 := f14.u b59
  replace fo := fo.u b59
  refine wl_p (fun _ => o_move rfl) ?_
  refine wl_p (fun _ => o_ext20 rfl) ?_
  refine wl_p (fun _ => o_ext21 rfl) ?_
  refine wl_p (fun _ => o_assign rfl) ?_
  refine wl_p (fun _ => o_assign rfl) ?_
  refine wl_nil ?_
  refine rk_seq ?_
  refine rk_seq ?_
  refine rk_region ?_
  refine wl_p (fun _ => o_move rfl) ?_
  refine wl_call rfl (C_xfEnd _ f14) ?_
  rintro v63 w63 ⟨rfl, rfl⟩
  refine wl_p (fun _ => o_ne rfl rfl) ?_
  refine wl_p (fun _ => o_move rfl) ?_
  refine wl_know 65 true rfl (decide_eq_true (by omega)) ?_
  refine wl_off ?_
  refine wl_off ?_
  refine wl_p (fun _ => o_pick_t rfl rfl) ?_
  refine wl_p (fun _ => o_move rfl) ?_
  refine wl_off ?_
  refine wl_off ?_
  refine wl_off ?_
  refine wl_off ?_
  refine wl_off ?_
  refine wl_p (fun _ => o_pick_t rfl rfl) ?_
  refine wl_nil ?_
  refine rk_true rfl ?_
  refine rk_seq ?_
  refine rk_region ?_
  refine wl_p (fun _ => o_assign rfl) ?_
  refine wl_p (fun _ => o_assign rfl) ?_
  refine wl_nil ?_
  refine ret2 rfl rfl rfl ?_
  exact ⟨_, _, rfl, OwnO.nil_, hw⟩
end Go.Proofs.YtahkeoegbjopfaaGreat
