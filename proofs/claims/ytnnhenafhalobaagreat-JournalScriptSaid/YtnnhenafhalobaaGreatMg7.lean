/-
  The document's disk in memory; its methods.
-/
import Derived.Test.YtnnhenafhalobaaGreatMg6
import Derived.Laws.OwnMore
namespace Go.Proofs.YtnnhenafhalobaaGreat
set_option maxRecDepth 100000
open Go.RowKit
theorem img_set : ∀ (S : List Sec) (i : Nat) (x : Sec), i < S.length → img (S.set i x) = (img S).take (i * 256) ++ x.1 ++ (img S).drop (i * 256 + 256)
 | s :: S, 0, x, _ => by
  have e : (s :: S).set 0 x = x :: S := rfl
  rw [e, img, img, List.flatMap_cons, List.flatMap_cons, Nat.zero_mul, List.take_zero, List.nil_append, Nat.zero_add]
  have h1 : (s.1 ++ List.flatMap Subtype.val S).drop 256 = List.flatMap Subtype.val S := by
   have := List.drop_left (l₁ := s.1) (l₂ := List.flatMap Subtype.val S)
   rwa [s.2] at this
  rw [h1]
 | s :: S, i + 1, x, h => by
  have ih := img_set S i x (by simpa using h)
  have e : (s :: S).set (i + 1) x = s :: S.set i x := rfl
  have e1 : img (s :: S) = s.1 ++ img S := rfl
  have e2 : img (s :: S.set i x) = s.1 ++ img (S.set i x) := rfl
  rw [e, e2, ih, e1, List.take_append, List.drop_append, s.2]
  have h1 : s.1.take ((i + 1) * 256) = s.1 := List.take_of_length_le (by have := s.2; omega)
  have h2 : s.1.drop ((i + 1) * 256 + 256) = [] := List.drop_eq_nil_of_le (by have := s.2; omega)
  have h3 : (i + 1) * 256 - 256 = i * 256 := by omega
  have h5 : (i + 1) * 256 = i * 256 + 256 := Nat.succ_mul i 256
  have h4 : (i + 1) * 256 + 256 - 256 = i * 256 + 256 := (Nat.add_sub_cancel _ _).trans h5
  rw [h1, h2, h3, h4]
  simp
theorem img_at : ∀ (S : List Sec) (i : Nat) (h : i < S.length), ((img S).drop (i * 256)).take 256 = S[i].1
 | s :: S, 0, _ => by
  have e1 : img (s :: S) = s.1 ++ img S := rfl
  rw [Nat.zero_mul, List.drop_zero, e1]
  have := List.take_left (l₁ := s.1) (l₂ := img S)
  rw [s.2] at this
  exact this
 | s :: S, i + 1, h => by
  have ih := img_at S i (by simpa using h)
  have e1 : img (s :: S) = s.1 ++ img S := rfl
  rw [e1, List.drop_append, s.2]
  have h2 : s.1.drop ((i + 1) * 256) = [] := List.drop_eq_nil_of_le (by have := s.2; omega)
  have h3 : (i + 1) * 256 - 256 = i * 256 := by omega
  rw [h2, h3, List.nil_append, ih]
  rfl
theorem img_z (n : Nat) : img (List.replicate n z256) = List.replicate (n * 256) 0 := by
 induction n with
 | zero => rfl
 | succ n ih =>
  rw [List.replicate_succ]
  have e1 : img (z256 :: List.replicate n z256) = z256.1 ++ img (List.replicate n z256) := rfl
  rw [e1, ih]
  show List.replicate 256 0 ++ _ = _
  rw [List.replicate_append_replicate, show 256 + n * 256 = (n + 1) * 256 by omega]
/-! Rows of slices' headers. -/
abbrev Hd := Option Addr × Nat × Nat
def vHd (h : Hd) : Value := .slice h.1 h.2.1 h.2.2
def gHd : GoT Hd := GoT.flat vHd (fun _ => True)
def OwnHd (w : World) (lo hi : Nat) (A : Option Addr) (c : Nat) (H : List Hd) : Prop := OwnS gHd 35 w lo hi A c H
section
variable {w w' : World} {lo hi lo' hi' cp b : Nat} {A : Option Addr} {S : List Hd} {e' : TypeId} {row : Option Nat}
theorem OwnHd.u (h : OwnHd w lo hi A cp S) (hb : Below w.heap.size w w') : OwnHd w' lo hi A cp S := OwnS.u h hb
theorem OwnHd.d (h : OwnHd w lo hi A cp S) : OwnHd w.drew lo hi A cp S := OwnS.d h
theorem OwnHd.y (h : OwnHd w lo hi A cp S) (hg : Grew w w' e' row) (hne : e' ∉ [35]) : OwnHd w' lo hi A cp S := OwnS.y h hg hne
theorem OwnHd.ap (h : OwnHd w lo hi A cp S) (hd : hi ≤ lo' ∨ hi' ≤ lo) : Ap (blk A) lo' hi' := OwnS.ap h hd
theorem OwnHd.cap (h : OwnHd w lo hi A cp S) : S.length ≤ cp := OwnS.cap h
theorem OwnHd.base (h : OwnHd w lo hi A cp S) (h1 : lo' ≤ lo) (h2 : hi ≤ hi') : OwnHd w lo' hi' A cp S := OwnS.base h h1 h2
theorem OwnHd.c (h : OwnHd w lo hi A cp S) (hc : Chg lo' hi' w w') (ha : hi ≤ lo' ∨ hi' ≤ lo) : OwnHd w' lo hi A cp S := OwnS.c0 h (fun h => h) hc ha
theorem OwnHd.some_ (h : OwnHd w lo hi A cp S) (hl : 0 < S.length) : A = some (A.getD ⟨0, 0, none⟩) := RSl.some_ (OwnS.to_RSl h) (show 0 < 1 by decide) hl
theorem OwnHd.rng (h : OwnHd w lo hi A cp S) : ∀ k, blk A = some k → lo ≤ k ∧ k < hi := by obtain ⟨xs, h1, _⟩ := h; exact fun k hk => ⟨(RowH.lt h1 k hk).1, h1.hi k hk⟩
theorem OwnHd.cell (h : OwnHd w lo hi A cp S) {j : Nat} (hj : j < S.length) : w.cell? (adr A j) = some (vHd S[j]) := by
 obtain ⟨cs, h1, h2⟩ := RSl.elem (OwnS.to_RSl h) (show 0 < 1 by decide) hj
 obtain ⟨rfl, _⟩ : cs = [vHd S[j]] ∧ True := h2
 have := h1 0 _ rfl
 rwa [Nat.add_zero, show j * gHd.sz = j from Nat.mul_one j] at this
end
theorem Tryz.rowHd : RowT Tryz.prog 72 35 (.slice none 0 0) 1 24 := ⟨Tryz.underlying72, by kernel_rfl, rfl, by omega⟩
section
variable {fn : Func} {F : Ending → World → Prop} {N : Nat} {ks : List K} {ops : Array Oper} {tg : Tags} {l : List Oper} {fr : Fr} {w : World} {ty t t' : TypeId} {pos : String} {aft : Array Edge} {gd : Option (Nat × Bool)} {k1 k2 : IntKind} {d n j c lo hi : Nat} {x y : Operand} {A : Option Addr} {S : List Hd} {s : Hd}
theorem o_ldHd (hx : fr.ev x = some (.pointer (some (adr A j)))) (hr : OwnHd w lo hi A c S) (hj : j < S.length) : OpV Tryz.prog N fr w (.load 35 x) ty (.slice S[j].1 S[j].2.1 S[j].2.2) w :=
 o_load Tryz.isAgg35 hx (hr.cell hj)
theorem wl_stHd {B : Option Addr} {m q : Nat} (hx : fr.ev x = some (.pointer (some (adr A j)))) (hown : OwnHd w lo hi A c S) (hy : fr.ev y = some (.slice B m q)) (hj : j < S.length)
  (hk : ∀ w', OwnHd w' lo hi A c (S.set j (B, m, q)) → Grew w w' 35 (blk A) → Below lo w w' → w'.heap.size = w.heap.size → WL Tryz.prog fn F N ks ops tg.tail l fr w') (ht : tg.loud = true := by rfl) (hg : onG ops fr gd = true := by rfl) (hq : tg.calm = false ∨ tg.rw.may (blk A) := by exact .inl rfl) :
  WL Tryz.prog fn F N ks ops tg (⟨none, .store 35 x y, ty, pos, aft, gd⟩ :: l) fr w := by
 have hown0 := hown
 obtain ⟨g, w', rfl, hr, e3, e4, e5⟩ := OwnS.put (X := gHd) (a := (B, m, q)) (vs := [.slice B m q]) (P := Tryz.prog) hown hj ⟨rfl, trivial⟩ (by simp [Value.oneCell']) (show 0 < 1 by decide) (by simp [gHd, GoT.flat])
 have hbl : Below lo w w' := by
  obtain ⟨xs, g1, _⟩ := hown0
  have hlt := RowH.lt g1 g rfl
  exact e4.below (by omega) (fun k hk => by have hk' : g = k := (by simpa [blk] using hk); omega)
 have ead : adr (some (⟨g, 0, none⟩ : Addr)) j = ⟨g, j, none⟩ := by simp [adr, add_plain]
 rw [ead] at hx
 have e1 : j * gHd.sz = j := Nat.mul_one j
 rw [e1] at hr
 refine wl_u (w' := w') (fun a ha op hop => ?_) (hk w' e3 e4 hbl e5) ht hg (hq.imp id (Rw.of_may e4.g))
 have hcs : (Value.slice B m q).cells = #[Value.slice B m q] := rfl
 simp [execOp, hop, ha.ev hx, ha.ev hy, Instr.storeAt, Instr.sureAddr, storeVar, hcs, Tryz.sizeOf35, hr]
theorem wl_mkHd {E C : Int} (n : Nat) (hx : fr.ev x = some (.int k1 E)) (hy : fr.ev y = some (.int k2 C)) (hE : E = (n : Int)) (hC : C = (n : Int)) (hn : n ≤ 1000000)
  (hk : ∀ A w', OwnHd w' w.heap.size w'.heap.size A n (List.replicate n (none, 0, 0)) → Below w.heap.size w w' → WL Tryz.prog fn F N ks ops tg.tail l ((d, .slice A n n) :: fr) w')
  (ht : tg.loud = true := by rfl) (hg : onG ops fr gd = true := by rfl) (hd : Nat.blt d N = true := by rfl) : WL Tryz.prog fn F N ks ops tg (⟨some d, .makeSlice 72 x y, ty, pos, aft, gd⟩ :: l) fr w :=
 wl_mkS (X := gHd) Tryz.rowHd hx hy hE hC (by omega) (by omega) (fun _ => ⟨rfl, trivial⟩) hk ht hg hd
theorem o_slneN {e : TypeId} {m q : Nat} (hu : Tryz.prog.underlying t = some (.slice e)) (hx : fr.ev x = some (.slice A m q)) (hy : fr.ev y = some (.slice none 0 0)) : OpV Tryz.prog N fr w (.binOp .neq t x y t') ty (.bool A.isSome) w :=
 o_bin hx hy (fun _ _ => by simp [go_sem]) (by simp only [binOp]; simp [run_equal_slice_nil hu])
end
section
variable {P : Program} {w w' : World} {lo hi e g k n c : Nat} {xs cur vs : List Value}
theorem RowH.spl_ (h : RowH w lo hi e 1 (some ⟨g, 0, none⟩) n c xs) (hB : Blk w g e cur) (hB' : Blk w' g e (spl cur k vs)) (hk : k + vs.length ≤ n) (h0 : 0 < n) : RowH w' lo hi e 1 (some ⟨g, 0, none⟩) n c (spl xs k vs) := by
 have hrd := h.rd.1
 have ho := h.o
 obtain ⟨g', cur', e1, g1, g2, hB2, g3, g4, g5⟩ := h.blk_ h0
 injection e1 with e1
 injection e1 with e1
 subst e1
 have hcc : cur' = cur := by
  unfold Blk at hB hB2
  rw [hB] at hB2
  injection hB2 with hB2
  injection hB2 with hB2
  exact (List.toArray_inj hB2).symm
 subst hcc
 rw [Nat.mul_one] at g4 g5 hrd
 refine ⟨⟨?_, .inr ⟨g, c, (spl cur' k vs).toArray, rfl, g1, hB', g3, ?_, ?_, ?_⟩⟩, h.hi⟩
 ·rw [spl_length (by omega), hrd, Nat.mul_one]
 ·rcases ho.2 with ⟨hv', h0'⟩ | ⟨_, cap, _, hv', _, _, _, h4, _⟩
  ·omega
  ·injection hv' with _ _ e3; rw [e3]; exact h4
 ·rw [List.size_toArray, spl_length (by omega), g4, Nat.mul_one]
 ·show (spl cur' k vs).take (n * 1) = _
  rw [Nat.mul_one]
  apply List.ext_getElem?
  intro q
  rw [List.getElem?_take, getElem_spl (by omega), getElem_spl (by rw [hrd]; omega), ← g5, List.getElem?_take]
  by_cases hq : q < n
  ·rw [if_pos hq, if_pos hq]
  ·rw [if_neg hq, if_neg hq, if_neg (by omega)]
end
section
variable {fn : Func} {F : Ending → World → Prop} {N : Nat} {ks : List K} {ops : Array Oper} {tg : Tags} {l : List Oper} {fr : Fr} {w : World} {ty t t2 : TypeId} {pos : String} {aft : Array Edge} {gd : Option (Nat × Bool)} {d n c c' k j q lo hi : Nat} {x y : Operand} {A B : Option Addr} {s m : By}
theorem wl_cpH (T : U8 Tryz.prog t) (hx : fr.ev x = some (.slice (cutA A c 1 k) n c')) (hown : OwnH w lo hi A c s) (hy : fr.ev y = some (.slice B j q)) (hj : j = m.length) (hr : Rd w B m) (hn : n = s.length - k) (hm : k + m.length ≤ s.length) (h0 : 0 < m.length)
  (hk : ∀ w', OwnH w' lo hi A c (s.take k ++ m ++ s.drop (k + m.length)) → Grew w w' 5 (blk A) → Below lo w w' → w'.heap.size = w.heap.size → WL Tryz.prog fn F N ks ops tg.tail l ((d, .int .i64 (m.length : Nat)) :: fr) w')
  (ht : tg.loud = true := by rfl) (hg : onG ops fr gd = true := by rfl) (hd : Nat.blt d N = true := by rfl) (hq : tg.calm = false ∨ blk A = tg.row := by exact .inl rfl) :
  WL Tryz.prog fn F N ks ops tg (⟨some d, .call { callee := .builtin .copy, args := #[x, y], argTypes := #[t, t2] }, ty, pos, aft, gd⟩ :: l) fr w := by
 have hT := RowH.ty hown
 have hown0 : RowH w lo hi 5 1 A s.length c (B8 s) := hown
 obtain ⟨g, cur, rfl, g1, g2, hB, g3, g4, g5⟩ := hown0.blk_ (by omega)
 rw [Nat.mul_one] at g4 g5
 have hcut : cutA (some (⟨g, 0, none⟩ : Addr)) c 1 k = some ⟨g, k, none⟩ := by
  unfold cutA; rw [if_neg (by omega)]; simp [add_plain]
 rw [hcut] at hx
 have htk : m.take n = m := List.take_of_length_le (by omega)
 refine wl_copy T hx hy hj hr hB (by omega) (fun w' h1 h2 h3 => ?_) ht hg hd (hq.imp id (fun e => e))
 rw [htk] at h1
 have hmin : min j n = m.length := by omega
 rw [hmin]
 have h4 := hown0.spl_ hB h1 (by rw [B8_length]; omega) (by omega)
 have e1 : spl (B8 s) k (B8 m) = B8 (s.take k ++ m ++ s.drop (k + m.length)) := by
  unfold spl
  rw [B8_length]
  simp [B8, List.map_append, List.map_take, List.map_drop]
 have e2 : (s.take k ++ m ++ s.drop (k + m.length)).length = s.length := by
  rw [List.length_append, List.length_append, List.length_take, List.length_drop]; omega
 rw [e1] at h4
 have hlt := RowH.lt hown0 g rfl
 have hgr : Grew w w' 5 (blk (some (⟨g, 0, none⟩ : Addr))) := ⟨h2, hT⟩
 refine hk w' ?_ hgr (hgr.below (by omega) (fun k' hk' => by have hk2 : g = k' := (by simpa [blk] using hk'); omega)) h3
 show RowH w' lo hi 5 1 _ (s.take k ++ m ++ s.drop (k + m.length)).length c _
 rw [e2]
 exact h4
theorem wl_appB00 (hx : fr.ev x = some (.slice A 0 0)) (hown : OwnH w lo hi A 0 []) (hy : fr.ev y = some (.slice B j q)) (hr : Rd w B m) (hj : j = m.length) (hlen : m.length ≤ 4000000000) (hB : lo ≤ w.heap.size)
  (h : ∀ A' c' w', OwnH w' lo w'.heap.size A' c' m → Below w.heap.size w w' → WL Tryz.prog fn F N ks ops tg.tail l ((d, .slice A' m.length c') :: fr) w')
  (ht : tg.loud = true := by rfl) (hg : onG ops fr gd = true := by rfl) (hd : Nat.blt d N = true := by rfl) :
  WL Tryz.prog fn F N ks ops tg (⟨some d, .call { callee := .builtin .append, args := #[x, y], argTypes := #[35, 35] }, ty, pos, aft, gd⟩ :: l) fr w := by
 subst hj
 exact wl_appR0 (hi := hi) Tryz.rowB hx hown hy hr (B8_oneCell m) (by simp only [maxLen]; omega) (by omega) hB (fun A' c' w' k1 k2 => h A' c' w' k1 k2) ht hg hd
end
end Go.Proofs.YtnnhenafhalobaaGreat
namespace Go.Proofs.YtnnhenafhalobaaGreat
set_option maxRecDepth 100000
open Go.RowKit
section
variable {fn : Func} {F : Ending → World → Prop} {N : Nat} {ks : List K} {ops : Array Oper} {tg : Tags} {l : List Oper} {fr : Fr} {w : World} {ty t : TypeId} {pos : String} {aft : Array Edge} {gd : Option (Nat × Bool)} {d lo2 hi2 : Nat} {x y : Operand} {A : Option Addr}
theorem wl_slOwnJ (T : U8 Tryz.prog t) {p : List UInt8} {len cap : Nat} {kl : IntKind} {L : Int} (lo : Nat) (hx : fr.ev x = some (.slice A len cap)) (hy : fr.ev y = some (.int kl L)) (hown : OwnH w lo2 hi2 A cap p) (hlen : len = p.length) (hl : L = (lo : Int)) (h1 : lo ≤ p.length)
  (hk : WL Tryz.prog fn F N ks ops tg.tail l ((d, .slice (cutA A cap 1 lo) (p.length - lo) (cap - lo)) :: fr) w) (hg : onG ops fr gd = true := by rfl) (hd : Nat.blt d N = true := by rfl) :
  WL Tryz.prog fn F N ks ops tg (⟨some d, .slice t x (some y) none none, ty, pos, aft, gd⟩ :: l) fr w := by
 subst hlen
 exact wl_p (fun _ => o_slice_lo T.ht Tryz.sizeOf5 hx hy hl (by have := hown.cap; omega)) hk hg hd
end
theorem C_jSector {x : Int} {t : Nat} (w : World) (hx : x = t) (ht : t ≤ 1000000) : CallsR Tryz.prog 51 [.int .i64 x] w fun v w' => v = .int .i64 ((t / 256 : Nat) : Int) ∧ Below w.heap.size w w' := by
 subst hx
 refine callsR Tryz.func51 rfl rfl (by kernel_rfl) rfl ?_
 have hw := Below.refl w.heap.size w
 refine zs (za rfl (wl_nil (zs (zm rfl ?_))))
 refine zp (o_quo rfl rfl (by omega) (by omega) (by omega)) ?_
 refine za rfl (wl_nil ?_)
 refine ret1 rfl rfl ?_
 exact ⟨congrArg (Value.int .i64) (by omega), hw⟩
set_option maxRecDepth 100000 in
set_option maxHeartbeats 1000000 in
theorem K_jAppend {dl dh gd g c lo hi e a k s n m low tt hgh n0 M r : Nat} {S : List Sec} {C : List (Option Sec)} {L A : Option Addr} {ch b p bs nx TA TB : By} {kd : UInt8} {x : Int} (w : World) (hd : DkAt w dl dh gd S C) (hB : Blk w g 85 (jC (some ⟨g, 0, none⟩) (some ⟨gd, 0, none⟩) a e L b.length c b.length ch k s)) (hL : OwnH w lo hi L c b) (hp : Rd w A p) (hkd : x = (kd.toNat : Int)) (hn : n = p.length) (hl : p.length ≤ 9000) (hch : ch.length = 32) (hO : OkR (kd, p)) (hbs : bytesR ch (kd, p) = bs) (hnx : nextB ch (kd, p) = nx) (ha : 1 ≤ a ∧ a ≤ 256) (he : e < 18446744073709551616) (hfit : b.length + bs.length ≤ a * 256) (hsz : 2 + 2 * a ≤ S.length) (hgd : g < dl ∨ dh ≤ g) (hld : hi ≤ dl ∨ dh ≤ lo) (hlo : lo ≤ hi ∧ hi ≤ w.heap.size) (hkb : k ≤ 1000000) (hlow : b.length / 256 = low) (htt : (b.length : Int) + bs.length - 1 = tt) (hhgh : tt / 256 = hgh) (hn0 : 2 + e % 2 * a = n0) (hM : hgh - low + 1 = M) (hTA : areaB (cur S C) (n0 + low) M = TA) (hr : b.length - 256 * low = r) (hTB : overJ TA r bs = TB) :
  CallsR Tryz.prog 15 [.pointer (some ⟨g, 0, none⟩), .agg #[.int .u8 x, .slice A n m]] w fun v w' => v = .int .i64 0 ∧ ∃ L' c', Blk w' g 85 (jC (some ⟨g, 0, none⟩) (some ⟨gd, 0, none⟩) a e L' (b ++ bs).length c' (b ++ bs).length nx ((k : Int) + 1) s) ∧ OwnH w' lo w'.heap.size L' c' (b ++ bs) ∧ (blk L' = blk L ∨ ∀ k, blk L' = some k → w.heap.size ≤ k) ∧ ∃ w1 w2, DkAt w1 dl dh gd S (wrs C (n0 + low) (secsN M TB)) ∧ Chg dl dh w w1 ∧ Grew w1 w2 5 (blk L) ∧ Grew w2 w' 85 (some g) := by
 subst hn
 have hgw := hB.lt
 refine callsR Tryz.func15 rfl rfl (by kernel_rfl) rfl ?_
 have hcg : Chg dl dh w w := Chg.refl
 have nx32 : nx.length = 32 := by rw [← hnx]; exact nextB_len _ _
 have hb9 : 9 ≤ bs.length := by
  rw [← hbs, bytesR_len, bodyB, List.length_append, List.length_singleton]; omega
 have hga : hgh < a := by omega
 have hlh : low ≤ hgh := by omega
 have hn0b : n0 ≤ 2 + a := by
  rw [← hn0]
  have := Nat.mul_le_mul_right a (show e % 2 ≤ 1 by omega)
  omega
 have hMl : n0 + low + M ≤ S.length := by omega
 have hTl : TA.length = 256 * M := by rw [← hTA]; exact areaB_len (by rw [cur_len]; omega)
 have hrb : r + bs.length ≤ TA.length := by omega
 have hTBl : TB.length = 256 * M := by rw [← hTB, overJ_len hrb, hTl]
 refine zs ?_
 refine wl_boxg [_, _] rfl (by rfl) ?_
 rintro g3 w3 f3 b3 i3 i3_1
 have s3 := b3.size
 replace hcg := hcg.thenB b3
 replace hp := hp.u b3
 replace hL := hL.u b3
 replace hB := hB.u b3
 replace hd := hd.u b3
 refine za rfl (wl_nil (rk_seq (zs (zm rfl ?_))))
 refine wl_call rfl (C_jValid _ hB) ?_
 rintro v15 w15 ⟨rfl, rfl⟩
 refine zp (o_not rfl) ?_
 refine wl_nil ?_
 refine rk_false rfl ?_
 refine rk_skip (rk_seq ?_)
 refine rk_drawo (id := 3) (none) [0, 1, 2, 4, 0, 24, 32, 64, 64, 64, 0, 1279, 3583, 8191] [0, 1, 3, 7, 0, 31, 63, 127, 127, 127, 0, 1279, 3583, 8191] 5152 1024 [0, 1, 2, 3, 4] [(.p, 0), (.p, 1), (.p, 2), (.s, 3), (.s, 4), (.f 31 5152 1024, 9)] (by kernel_rfl) (by kernel_rfl) (by kernel_rfl) (by kernel_rfl) (by kernel_rfl) ?_
 dsimp only [inOrder, nthOp]
 replace hcg := hcg.trans Chg.drew
 replace hd := hd.d
 replace hB := hB.d
 replace hL := hL.d
 replace hp := hp.d
 replace f3 := f3.d
 refine zm rfl ?_
 refine zp (o_nil rfl) ?_
 refine zp (o_faddr (s := 85) (i := 6) (off := 6) Tryz.underlying85 rfl Tryz.sizeOf64 rfl rfl rfl) ?_
 refine wl_s (fun _ hk => (o_ldJch rfl (hB.u (below_of_grown_none hk)) hch)) ?_
 refine wl_s (fun _ hk => (o_loadag Tryz.isAgg37 Tryz.sizeOf37 rfl (f3.u (below_of_grown_none hk)) (by rfl))) ?_
 have hdhi := hd.hi
 simp only [drew_size] at hdhi
 refine wl_conc [⟨5, [(.p, 6), (.p, 7), (.p, 8), (.p, 9)], [26, 25, 24, 17, 23], [], fun vs w' lo hi => ∃ (A24 : Option Addr) (c24 : Nat) (u17 u23 : Value), vs = [.int .i64 0, .agg (B8 nx).toArray, .slice A24 bs.length c24, u17, u23] ∧ OwnH w' lo hi A24 c24 bs⟩, ⟨10, [], [6], [], fun vs w' lo hi => ∃ (g6 : Nat), vs = [.pointer (some ⟨g6, 0, none⟩)] ∧ Blk w' g6 64 (B8 nul32) ∧ lo ≤ g6 ∧ g6 < hi⟩] [0, 1] [0, 1, 2, 4, 0, 24, 32, 64, 64, 64, 0, 1279, 3583, 8191] [0, 1, 3, 7, 0, 31, 63, 127, 127, 127, 0, 1279, 3583, 8191] [11, 12, 13] [(.p, 11), (.l, 12), (.p, 13)] (by kernel_rfl) (by kernel_rfl) (by kernel_rfl) (by kernel_rfl) ⟨fun _ _ _ _ _ h hb => by obtain ⟨A24, c24, u17, u23, e0, g0⟩ := h; exact ⟨A24, c24, u17, u23, e0, g0.u hb⟩, fun _ _ _ _ _ h hb => by obtain ⟨g6, e0, g0, g1, g2⟩ := h; exact ⟨g6, e0, g0.u hb, g1, g2⟩, trivial⟩ ⟨?_, ?_, trivial⟩ ?_
 ·intro wI hbI fo T T2 n2
  intro hk
  dsimp only [Item.idx, inOrder, nthOp, List.map, List.zip_cons_cons, List.zip_nil_right, List.cons_append, List.nil_append]
  have shbI := hbI.size
  simp only [drew_size] at shbI
  replace hcg := hcg.thenB hbI
  replace f3 := f3.u hbI
  replace hp := hp.u hbI
  replace hL := hL.u hbI
  replace hB := hB.u hbI
  replace hd := hd.u hbI
  have hw1 := Below.refl wI.heap.size wI
  refine wl_call rfl (C_RecBytesOk _ hkd hp (by omega) hbs hnx rfl (by omega) hch) ?_
  rintro v23 w23 ⟨A23, ⟨c23, ⟨rfl, ⟨f23, b23⟩⟩⟩⟩
  have qf23 := f23.cap
  have s23 := b23.size
  replace hw1 := hw1.trans (b23.mono hw1.size)
  replace hcg := hcg.thenB b23
  replace hd := hd.u b23
  replace hB := hB.u b23
  replace hL := hL.u b23
  replace hp := hp.u b23
  replace f3 := f3.u b23
  refine zm rfl ?_
  refine zp (o_ext30 rfl) ?_
  refine zp (o_ext31 rfl) ?_
  refine zp (o_ext32 rfl) ?_
  exact hk [_, _, _, _, _] _ ⟨_, _, _, _, rfl, f23⟩ hw1
 ·intro wI hbI fo T T2 n2
  intro hk
  dsimp only [Item.idx, inOrder, nthOp, List.map, List.zip_cons_cons, List.zip_nil_right, List.cons_append, List.nil_append]
  have shbI := hbI.size
  simp only [drew_size] at shbI
  replace hcg := hcg.thenB hbI
  replace f3 := f3.u hbI
  replace hp := hp.u hbI
  replace hL := hL.u hbI
  replace hB := hB.u hbI
  replace hd := hd.u hbI
  have hw1 := Below.refl wI.heap.size wI
  refine wl_allocB Tryz.underlying64 Tryz.zeroValue64 (by rfl) ?_
  rintro g6 w6 f6 b6 i6 i6_1
  have s6 := b6.size
  replace hw1 := hw1.trans (b6.mono hw1.size)
  replace hcg := hcg.thenB b6
  replace hd := hd.u b6
  replace hB := hB.u b6
  replace hL := hL.u b6
  replace hp := hp.u b6
  replace f3 := f3.u b6
  exact hk [_] _ ⟨_, rfl, f6, by omega, by omega⟩ hw1
 intro wE hbE
 rintro _ lo0 hi0 ⟨A24, c24, u17, u23, rfl, f23⟩ ql0 qm0 qh0 -
 rintro _ lo1 hi1 ⟨g6, rfl, f6, f6_1, f6_2⟩ ql1 qm1 qh1 ⟨qa1_0, -⟩
 try dsimp only at ql0 qm0 qh0  ql1 qm1 qh1 qa1_0
 try simp only [drew_size] at ql0 qm0 qh0  ql1 qm1 qh1 qa1_0
 dsimp only [given, Item.idx, inOrder, nthOp, List.map, List.zip_cons_cons, List.zip_nil_right]
 have shbE := hbE.size
 simp only [drew_size] at shbE
 replace hcg := hcg.thenB hbE
 replace f3 := f3.u hbE
 replace hp := hp.u hbE
 replace hL := hL.u hbE
 replace hB := hB.u hbE
 replace hd := hd.u hbE
 have hcE : Chg lo1 hi1 wE wE := Chg.refl
 refine za rfl ?_
 refine wl_stBa Tryz.sizeOf64 rfl f6 rfl nx32 (by rfl) ?_
 rintro w_1 f g_1 e_1
 have s_1 := g_1.size
 replace hcg := hcg.andNew g_1.g (fun _ e => by injection e with e; have := hcg.size; omega)
 replace hcE := hcE.trans (Chg.of_g1 g_1.g (by omega) (by omega))
 replace hd := hd.k g_1.g (ap_some (by omega))
 replace hB := hB.k g_1.g (ap_some (by omega))
 replace hL := hL.k g_1.g (ap_some (by omega))
 replace f3 := f3.k g_1.g (ap_some (by omega))
 replace f23 := f23.k g_1.g (ap_some (by omega))
 clear hp
 clear f6
 refine za rfl ?_
 refine wl_nild ?_
 refine rk_seq (zs (zm rfl ?_))
 refine zp (o_ne rfl rfl) ?_
 refine wl_nil ?_
 refine rk_false rfl ?_
 refine rk_skip (rk_seq (zs (zm rfl ?_)))
 refine zp (o_len (t := 35) Tryz.underlying35 rfl) ?_
 refine zm rfl ?_
 refine wl_call rfl (C_jLeft _ hB (by rfl) (by omega) (by omega)) ?_
 rintro v33 w33 ⟨rfl, b33⟩
 have s33 := b33.size
 replace hcg := hcg.thenB b33
 replace hcE := hcE.thenB b33
 replace f23 := f23.u b33
 replace f3 := f3.u b33
 replace hL := hL.u b33
 replace hB := hB.u b33
 replace hd := hd.u b33
 replace f := f.u b33
 refine zp (o_gt rfl rfl) ?_
 refine wl_nil ?_
 refine rk_if rfl (fun h34 => absurd h34 (by omega)) (fun h34 => ?_)
 refine rk_skip (rk_seq ?_)
 refine rk_draw (id := 8) (none) [0, 1, 2, 4, 0, 16, 32, 64, 0, 256, 640, 15, 4095] [0, 1, 3, 7, 0, 16, 48, 112, 0, 256, 1008, 15, 4095] 0 0 [(.p, 0), (.p, 1), (.p, 2), (.r, 3), (.p, 4), (.p, 5), (.p, 6), (.r, 7), (.p, 8), (.p, 9), (.p, 10), (.p, 11), (.p, 12)] (by kernel_rfl) (by kernel_rfl) (by kernel_rfl) (by kernel_rfl) (by kernel_rfl) ?_
 replace hcg := hcg.trans Chg.drew
 replace hcE := hcE.trans Chg.drew
 replace f := f.d
 replace hd := hd.d
 replace hB := hB.d
 replace hL := hL.d
 replace f3 := f3.d
 replace f23 := f23.d
 refine zm rfl ?_
 refine zp (o_nil rfl) ?_
 refine zp (o_faddr (s := 85) (i := 5) (off := 5) Tryz.underlying85 rfl Tryz.sizeOf80 rfl rfl rfl) ?_
 refine wl_r (o_loadbg Tryz.isAgg80 rfl hB (by rfl)) ?_
 refine zm rfl ?_
 refine zp (o_nil rfl) ?_
 refine zp (o_faddr (s := 85) (i := 5) (off := 5) Tryz.underlying85 rfl Tryz.sizeOf80 rfl rfl rfl) ?_
 refine wl_r (o_loadbg Tryz.isAgg80 rfl hB (by rfl)) ?_
 refine zm rfl ?_
 refine zp (o_len (t := 35) Tryz.underlying35 rfl) ?_
 refine zp (o_add rfl rfl (by omega) (by omega)) ?_
 refine za rfl (za rfl ?_)
 refine wl_nild ?_
 refine zs (zm rfl ?_)
 refine wl_call rfl (C_jSector _ rfl (by omega)) ?_
 rintro v47 w47 ⟨rfl, b47⟩
 simp only [drew_size] at b47
 have s47 := b47.size
 simp only [drew_size] at s47
 replace hcg := hcg.thenB b47
 replace hcE := hcE.thenB b47
 replace f23 := f23.u b47
 replace f3 := f3.u b47
 replace hL := hL.u b47
 replace hB := hB.u b47
 replace hd := hd.u b47
 replace f := f.u b47
 refine zm rfl ?_
 refine zp (o_sub rfl rfl (by omega) (by omega)) ?_
 refine wl_call rfl (C_jSector _ (by omega) (by omega)) ?_
 rintro v50 w50 ⟨rfl, b50⟩
 have s50 := b50.size
 replace hcg := hcg.thenB b50
 replace hcE := hcE.thenB b50
 replace f := f.u b50
 replace hd := hd.u b50
 replace hB := hB.u b50
 replace hL := hL.u b50
 replace f3 := f3.u b50
 replace f23 := f23.u b50
 refine za rfl (za rfl (wl_nil (rk_seq ?_)))
 refine rk_drawo (id := 10) (none) [0, 1, 2, 4, 0, 16, 32, 64, 136, 0, 768, 2047] [0, 1, 3, 7, 0, 16, 48, 112, 255, 0, 1023, 2047] 256 0 [0, 1, 2, 3, 4, 5, 6, 7, 9, 8, 10, 11] [(.p, 0), (.p, 1), (.p, 2), (.r, 3), (.p, 4), (.p, 5), (.p, 6), (.r, 7), (.p, 9), (.l, 8), (.p, 10), (.p, 11)] (by kernel_rfl) (by kernel_rfl) (by kernel_rfl) (by kernel_rfl) (by kernel_rfl) ?_
 dsimp only [inOrder, nthOp]
 replace hcg := hcg.trans Chg.drew
 replace hcE := hcE.trans Chg.drew
 replace f23 := f23.d
 replace f3 := f3.d
 replace hL := hL.d
 replace hB := hB.d
 replace hd := hd.d
 replace f := f.d
 refine zm rfl ?_
 refine zp (o_nil rfl) ?_
 refine zp (o_faddr (s := 85) (i := 3) (off := 3) Tryz.underlying85 rfl Tryz.sizeOf52 rfl rfl rfl) ?_
 refine wl_r (o_loadbg Tryz.isAgg52 rfl hB (by rfl)) ?_
 refine zm rfl ?_
 refine zp (o_nil rfl) ?_
 refine zp (o_faddr (s := 85) (i := 2) (off := 2) Tryz.underlying85 rfl Tryz.sizeOf3 rfl rfl rfl) ?_
 refine wl_r (o_loadbg Tryz.isAgg3 rfl hB (by rfl)) ?_
 refine zm rfl ?_
 refine wl_call rfl (C_jFirst _ rfl rfl hn0 (by omega) (by omega)) ?_
 rintro v59 w59 ⟨rfl, rfl⟩
 refine zp (o_add rfl rfl (by omega) (by omega)) ?_
 refine za rfl ?_
 refine wl_nild ?_
 refine zs (zm rfl ?_)
 refine zp (o_nil rfl) ?_
 refine zp (o_faddr (s := 85) (i := 1) (off := 1) Tryz.underlying85 rfl Tryz.sizeOf26 rfl rfl rfl) ?_
 refine wl_r (o_loadbg Tryz.isAgg26 rfl hB (by rfl)) ?_
 refine zm rfl (zm rfl (zm rfl ?_))
 refine zp (o_sub rfl rfl (by omega) (by omega)) ?_
 refine zp (o_add rfl rfl (by omega) (by omega)) ?_
 rw [hlow, htt]
 have sz50 := hcg.size
 have szE := hcE.size
 try simp only [drew_size] at sz50 szE
 clear hcE
 rw [show ((tt / 256 : Nat) : Int) - low + 1 = (M : Int) by omega]
 refine wl_call rfl (C_jRead _ hd (by omega) rfl hTA (by omega)) ?_
 rintro v71 w71 ⟨A71, ⟨c71, ⟨rfl, ⟨f71, b71⟩⟩⟩⟩
 simp only [drew_size] at f71
 simp only [drew_size] at b71
 have qf71 := f71.cap
 have s71 := b71.size
 simp only [drew_size] at s71
 replace hcg := hcg.thenB b71
 replace f := f.u b71
 replace hd := hd.u b71
 replace hB := hB.u b71
 replace hL := hL.u b71
 replace f3 := f3.u b71
 replace f23 := f23.u b71
 refine za rfl (wl_nil (zs (zm rfl (zm rfl (zm rfl ?_)))))
 refine wl_call rfl (C_jStart _ (by omega)) ?_
 rintro v75 w75 ⟨rfl, b75⟩
 have s75 := b75.size
 replace hcg := hcg.thenB b75
 replace f23 := f23.u b75
 replace f3 := f3.u b75
 replace hL := hL.u b75
 replace hB := hB.u b75
 replace hd := hd.u b75
 replace f := f.u b75
 replace f71 := f71.u b75
 refine zp (o_sub rfl rfl (by omega) (by omega)) ?_
 refine zm rfl ?_
 refine zp (o_len (t := 35) Tryz.underlying35 rfl) ?_
 refine zp (o_min rfl rfl) ?_
 rw [show min ((b.length : Int) - (low : Int) * 256) (TA.length : Int) = (r : Int) by omega]
 refine wl_slOwnJ Tryz.u8 (r) rfl rfl f71 rfl rfl (by omega) ?_
 refine zm rfl ?_
 have hrng : ∀ j, blk A71 = some j → w.heap.size ≤ j := fun j e => by have := (RowH.lt f71 j e).1; omega
 refine wl_cpH (k := r) Tryz.u8 rfl f71 rfl rfl f23.to_RdT.1 rfl hrb (by omega) ?_
 intro w82 f82 g82 b82 z82
 have hcg2 := hcg.andNew g82.g hrng
 have c82 : Chg w50.heap.size w75.heap.size w75 w82 := Chg.of_lo b82 (Nat.le_refl _)
 clear b82 g82
 clear hcg
 have sc82 := c82.size
 replace f := f.c c82 (by omega)
 replace hd := hd.c c82 (by omega)
 replace hB := hB.c c82 (by omega)
 replace hL := hL.c c82 (by omega)
 replace f3 := f3.c c82 (by omega)
 replace f23 := f23.c c82 (by omega)
 clear f71
 have hcg := hcg2
 clear hcg2
 refine wl_nil (zs (zm rfl ?_))
 refine zp (o_nil rfl) ?_
 refine zp (o_faddr (s := 85) (i := 1) (off := 1) Tryz.underlying85 rfl Tryz.sizeOf26 rfl rfl rfl) ?_
 refine wl_r (o_loadbg Tryz.isAgg26 rfl hB (by rfl)) ?_
 refine zm rfl (zm rfl ?_)
 rw [show TA.take r ++ bs ++ TA.drop (r + bs.length) = TB from hTB] at f82
 refine wl_call rfl (C_jWriteH (M := M) (n := n0 + low) _ hd f82 hTBl rfl (by omega) (by omega) (by omega) (.inr (by omega)) (by omega) (by omega) (by omega)) ?_
 rintro _ w89 ⟨rfl, hd89, b89⟩
 have sb89 := b89.size
 replace hcg := hcg.trans (b89.wide (by omega) (by omega))
 replace f23 := f23.c b89 (by omega)
 replace hL := hL.c b89 (by omega)
 replace hB := hB.c b89 (by omega)
 replace f := f.c b89 (by omega)
 replace f82 := f82.c b89 (by omega)
 clear f3
 clear hd
 refine wl_nil (zs (zm rfl (zm rfl ?_)))
 refine wl_r (o_ldBa Tryz.isAgg64 Tryz.sizeOf64 rfl f nx32) ?_
 have sz93 := hcg.size
 refine wl_call rfl (K_jPut _ hB hL f23.to_RdT.1 rfl hch nx32 (by omega) (by omega) (by omega) ⟨by omega, by omega⟩ (by omega)) ?_
 rintro _ w93 ⟨rfl, L', c', hB93, hL93, q0, w92, q1, q2⟩
 refine wl_nil (zs (za rfl (wl_nil ?_)))
 refine ret1 rfl rfl ?_
 exact ⟨rfl, _, _, hB93, hL93, q0.imp id (fun h k hk => by have := h k hk; omega), _, _, hd89, hcg, q1, q2⟩
end Go.Proofs.YtnnhenafhalobaaGreat
namespace Go.Proofs.YtnnhenafhalobaaGreat
set_option maxRecDepth 100000
open Go.RowKit
set_option maxRecDepth 100000 in
set_option maxHeartbeats 1000000 in
theorem K_jAppendFull {dl dh gd g c lo hi e a k s n m low tt hgh n0 M r : Nat} {S : List Sec} {C : List (Option Sec)} {L A : Option Addr} {ch b p bs nx TA TB : By} {kd : UInt8} {x : Int} (w : World) (hd : DkAt w dl dh gd S C) (hB : Blk w g 85 (jC (some ⟨g, 0, none⟩) (some ⟨gd, 0, none⟩) a e L b.length c b.length ch k s)) (hL : OwnH w lo hi L c b) (hp : Rd w A p) (hkd : x = (kd.toNat : Int)) (hn : n = p.length) (hl : p.length ≤ 9000) (hch : ch.length = 32) (hO : OkR (kd, p)) (hbs : bytesR ch (kd, p) = bs) (hnx : nextB ch (kd, p) = nx) (ha : 1 ≤ a ∧ a ≤ 256) (he : e < 18446744073709551616) (hbl : b.length ≤ a * 256) (hfit : a * 256 < b.length + bs.length) (hlo : lo ≤ hi ∧ hi ≤ w.heap.size) :
  CallsR Tryz.prog 15 [.pointer (some ⟨g, 0, none⟩), .agg #[.int .u8 x, .slice A n m]] w fun v w' => v = .int .i64 7 ∧ Below w.heap.size w w' := by
 subst hn
 have hgw := hB.lt
 refine callsR Tryz.func15 rfl rfl (by kernel_rfl) rfl ?_
 have hw := Below.refl w.heap.size w
 have nx32 : nx.length = 32 := by rw [← hnx]; exact nextB_len _ _
 refine zs ?_
 refine wl_boxg [_, _] rfl (by rfl) ?_
 rintro g3 w3 f3 b3 i3 i3_1
 have s3 := b3.size
 replace hw := hw.trans (b3.mono hw.size)
 refine za rfl (wl_nil (rk_seq (zs (zm rfl ?_))))
 refine wl_call rfl (C_jValid _ (hB.u hw)) ?_
 rintro v15 w15 ⟨rfl, rfl⟩
 refine zp (o_not rfl) ?_
 refine wl_nil ?_
 refine rk_false rfl ?_
 refine rk_skip (rk_seq ?_)
 refine rk_drawo (id := 3) (none) [0, 1, 2, 4, 0, 24, 32, 64, 64, 64, 0, 1279, 3583, 8191] [0, 1, 3, 7, 0, 31, 63, 127, 127, 127, 0, 1279, 3583, 8191] 5152 1024 [0, 1, 2, 3, 4] [(.p, 0), (.p, 1), (.p, 2), (.s, 3), (.s, 4), (.f 31 5152 1024, 9)] (by kernel_rfl) (by kernel_rfl) (by kernel_rfl) (by kernel_rfl) (by kernel_rfl) ?_
 dsimp only [inOrder, nthOp]
 replace hw := hw.drew
 replace f3 := f3.d
 refine zm rfl ?_
 refine zp (o_nil rfl) ?_
 refine zp (o_faddr (s := 85) (i := 6) (off := 6) Tryz.underlying85 rfl Tryz.sizeOf64 rfl rfl rfl) ?_
 refine wl_s (fun _ hk => (o_ldJch rfl ((hB.u hw).u (below_of_grown_none hk)) hch)) ?_
 refine wl_s (fun _ hk => (o_loadag Tryz.isAgg37 Tryz.sizeOf37 rfl (f3.u (below_of_grown_none hk)) (by rfl))) ?_
 have hdhi := hd.hi
 try simp only [drew_size] at hdhi
 refine wl_conc [⟨5, [(.p, 6), (.p, 7), (.p, 8), (.p, 9)], [26, 25, 24, 17, 23], [], fun vs w' lo hi => ∃ (A24 : Option Addr) (c24 : Nat) (u17 u23 : Value), vs = [.int .i64 0, .agg (B8 nx).toArray, .slice A24 bs.length c24, u17, u23] ∧ OwnH w' lo hi A24 c24 bs⟩, ⟨10, [], [6], [], fun vs w' lo hi => ∃ (g6 : Nat), vs = [.pointer (some ⟨g6, 0, none⟩)] ∧ Blk w' g6 64 (B8 nul32) ∧ lo ≤ g6 ∧ g6 < hi⟩] [0, 1] [0, 1, 2, 4, 0, 24, 32, 64, 64, 64, 0, 1279, 3583, 8191] [0, 1, 3, 7, 0, 31, 63, 127, 127, 127, 0, 1279, 3583, 8191] [11, 12, 13] [(.p, 11), (.l, 12), (.p, 13)] (by kernel_rfl) (by kernel_rfl) (by kernel_rfl) (by kernel_rfl) ⟨fun _ _ _ _ _ h hb => by obtain ⟨A24, c24, u17, u23, e0, g0⟩ := h; exact ⟨A24, c24, u17, u23, e0, g0.u hb⟩, fun _ _ _ _ _ h hb => by obtain ⟨g6, e0, g0, g1, g2⟩ := h; exact ⟨g6, e0, g0.u hb, g1, g2⟩, trivial⟩ ⟨?_, ?_, trivial⟩ ?_
 ·intro wI hbI fo T T2 n2
  intro hk
  dsimp only [Item.idx, inOrder, nthOp, List.map, List.zip_cons_cons, List.zip_nil_right, List.cons_append, List.nil_append]
  have shbI := hbI.size
  simp only [drew_size] at shbI
  replace hw := hw.trans (hbI.mono hw.size)
  replace f3 := f3.u hbI
  have hw1 := Below.refl wI.heap.size wI
  refine wl_call rfl (C_RecBytesOk _ hkd (hp.u hw) (by omega) hbs hnx rfl (by omega) hch) ?_
  rintro v23 w23 ⟨A23, ⟨c23, ⟨rfl, ⟨f23, b23⟩⟩⟩⟩
  have qf23 := f23.cap
  have s23 := b23.size
  replace hw := hw.trans (b23.mono hw.size)
  replace hw1 := hw1.trans (b23.mono hw1.size)
  replace f3 := f3.u b23
  refine zm rfl ?_
  refine zp (o_ext30 rfl) ?_
  refine zp (o_ext31 rfl) ?_
  refine zp (o_ext32 rfl) ?_
  exact hk [_, _, _, _, _] _ ⟨_, _, _, _, rfl, f23⟩ hw1
 ·intro wI hbI fo T T2 n2
  intro hk
  dsimp only [Item.idx, inOrder, nthOp, List.map, List.zip_cons_cons, List.zip_nil_right, List.cons_append, List.nil_append]
  have shbI := hbI.size
  simp only [drew_size] at shbI
  replace hw := hw.trans (hbI.mono hw.size)
  replace f3 := f3.u hbI
  have hw1 := Below.refl wI.heap.size wI
  refine wl_allocB Tryz.underlying64 Tryz.zeroValue64 (by rfl) ?_
  rintro g6 w6 f6 b6 i6 i6_1
  have s6 := b6.size
  replace hw := hw.trans (b6.mono hw.size)
  replace hw1 := hw1.trans (b6.mono hw1.size)
  replace f3 := f3.u b6
  exact hk [_] _ ⟨_, rfl, f6, by omega, by omega⟩ hw1
 intro wE hbE
 rintro _ lo0 hi0 ⟨A24, c24, u17, u23, rfl, f23⟩ ql0 qm0 qh0 -
 rintro _ lo1 hi1 ⟨g6, rfl, f6, f6_1, f6_2⟩ ql1 qm1 qh1 ⟨qa1_0, -⟩
 try dsimp only at ql0 qm0 qh0  ql1 qm1 qh1 qa1_0
 try simp only [drew_size] at ql0 qm0 qh0  ql1 qm1 qh1 qa1_0
 dsimp only [given, Item.idx, inOrder, nthOp, List.map, List.zip_cons_cons, List.zip_nil_right]
 have shbE := hbE.size
 simp only [drew_size] at shbE
 replace hw := hw.trans (hbE.mono hw.size)
 replace f3 := f3.u hbE
 refine za rfl ?_
 refine wl_stBa Tryz.sizeOf64 rfl f6 rfl nx32 (by rfl) ?_
 rintro w_1 f g_1 e_1
 have s_1 := g_1.size
 replace hw := hw.trans (below_of_grownBy g_1.g hw.size (by omega))
 replace f3 := f3.k g_1.g (ap_some (by omega))
 replace f23 := f23.k g_1.g (ap_some (by omega))
 clear f6
 refine za rfl ?_
 refine wl_nild ?_
 refine rk_seq (zs (zm rfl ?_))
 refine zp (o_ne rfl rfl) ?_
 refine wl_nil ?_
 refine rk_false rfl ?_
 refine rk_skip (rk_seq (zs (zm rfl ?_)))
 refine zp (o_len (t := 35) Tryz.underlying35 rfl) ?_
 refine zm rfl ?_
 refine wl_call rfl (C_jLeft _ (hB.u hw) (by rfl) (by omega) (by omega)) ?_
 rintro v33 w33 ⟨rfl, b33⟩
 have s33 := b33.size
 replace hw := hw.trans (b33.mono hw.size)
 replace f23 := f23.u b33
 replace f3 := f3.u b33
 replace f := f.u b33
 refine zp (o_gt rfl rfl) ?_
 refine wl_nil ?_
 refine rk_if rfl (fun h34 => ?_) (fun h34 => h34.elim (by omega))
 refine zs (za rfl (wl_nil ?_))
 refine ret1 rfl rfl ?_
 exact ⟨rfl, hw⟩
end Go.Proofs.YtnnhenafhalobaaGreat
namespace Go.Proofs.YtnnhenafhalobaaGreat
set_option maxRecDepth 100000
open Go.RowKit
end Go.Proofs.YtnnhenafhalobaaGreat
namespace Go.Proofs.YtnnhenafhalobaaGreat
set_option maxRecDepth 100000
open Go.RowKit
theorem bytesAll_succ (c : By) (R : List Rc) {i : Nat} (hi : i < R.length) : bytesAll c (R.take (i + 1)) = bytesAll c (R.take i) ++ bytesR (chainAll c (R.take i)) R[i] := by
 rw [List.take_succ_eq_append_getElem hi, bytesAll_append]
 congr 1
 simp [bytesAll]
theorem chainAll_succ (c : By) (R : List Rc) {i : Nat} (hi : i < R.length) : chainAll c (R.take (i + 1)) = nextB (chainAll c (R.take i)) R[i] := by
 rw [List.take_succ_eq_append_getElem hi, chainAll_append]
 rfl
theorem bytesAll_take_le (c : By) (R : List Rc) (i : Nat) : (bytesAll c (R.take i)).length ≤ (bytesAll c R).length := by
 conv => rhs; rw [← List.take_append_drop i R, bytesAll_append, List.length_append]
 omega
def szR : List Rc → Nat
 | [] => 0
 | r :: R => ((bodyB r).length + 8) + szR R
theorem bytesAll_sz : ∀ (c : By) (R : List Rc), (bytesAll c R).length = szR R
 | _, [] => rfl
 | c, r :: R => by rw [bytesAll, List.length_append, bytesR_len, bytesAll_sz _ R]; rfl
section
variable {fn : Func} {F : Ending → World → Prop} {N : Nat} {ks : List K} {ops : Array Oper} {tg : Tags} {l : List Oper} {fr : Fr} {w : World} {ty t t2 : TypeId} {pos : String} {aft : Array Edge} {gd : Option (Nat × Bool)} {d n c c' j q lo hi : Nat} {x y : Operand} {A B : Option Addr} {s m r : By}
theorem wl_cpJ (T : U8 Tryz.prog t) (hx : fr.ev x = some (.slice A n c')) (hown : OwnH w lo hi A c s) (hy : fr.ev y = some (.slice B j q)) (hj : j = m.length) (hr : Rd w B m) (hn : n = s.length) (hm : m.length ≤ s.length) (h0 : 0 < s.length) (hres : overJ s 0 m = r)
  (hk : ∀ w', OwnH w' lo hi A c r → Grew w w' 5 (blk A) → Below lo w w' → w'.heap.size = w.heap.size → WL Tryz.prog fn F N ks ops tg.tail l ((d, .int .i64 (m.length : Nat)) :: fr) w')
  (ht : tg.loud = true := by rfl) (hg : onG ops fr gd = true := by rfl) (hd : Nat.blt d N = true := by rfl) (hq : tg.calm = false ∨ blk A = tg.row := by exact .inl rfl) :
  WL Tryz.prog fn F N ks ops tg (⟨some d, .call { callee := .builtin .copy, args := #[x, y], argTypes := #[t, t2] }, ty, pos, aft, gd⟩ :: l) fr w := by
 subst hres
 have hT := RowH.ty hown
 have hown0 : RowH w lo hi 5 1 A s.length c (B8 s) := hown
 obtain ⟨g, cur, rfl, g1, g2, hB, g3, g4, g5⟩ := hown0.blk_ (by omega)
 rw [Nat.mul_one] at g4 g5
 have htk : m.take n = m := List.take_of_length_le (by omega)
 refine wl_copy T hx hy hj hr hB (by omega) (fun w' h1 h2 h3 => ?_) ht hg hd (hq.imp id (fun e => e))
 rw [htk] at h1
 have hmin : min j n = m.length := by omega
 rw [hmin]
 have h4 := hown0.spl_ hB h1 (by rw [B8_length]; omega) (by omega)
 have e1 : spl (B8 s) 0 (B8 m) = B8 (overJ s 0 m) := by
  unfold spl overJ
  rw [B8_length]
  simp [B8, List.map_append, List.map_take, List.map_drop]
 have e2 : (overJ s 0 m).length = s.length := overJ_len (by omega)
 rw [e1] at h4
 have hlt := RowH.lt hown0 g rfl
 have hgr : Grew w w' 5 (blk (some (⟨g, 0, none⟩ : Addr))) := ⟨h2, hT⟩
 refine hk w' ?_ hgr (hgr.below (by omega) (fun k' hk' => by have hk2 : g = k' := (by simpa [blk] using hk'); omega)) h3
 unfold OwnH
 rw [e2]
 exact h4
end
theorem OwnH.top {w : World} {lo hi c : Nat} {A : Option Addr} {l : By} (h : OwnH w lo hi A c l) : OwnH w lo w.heap.size A c l := ⟨RowH.o h, fun k hk => (RowH.lt h k hk).2⟩
theorem C_jFirstB {z a : Int} {e m n : Nat} (w : World) (hz : z = e) (ha : a = m) (hn : 2 + e % 2 * m = n) (he : e < 18446744073709551616) (hm : m ≤ 256) : CallsR Tryz.prog 43 [.int .u64 z, .int .i64 a] w fun v w' => v = .int .i64 (n : Int) ∧ Below w.heap.size w w' := by
 refine (C_jFirst w hz ha hn he hm).mono ?_
 rintro v w' ⟨rfl, rfl⟩
 exact ⟨rfl, Below.refl _ _⟩
set_option maxRecDepth 100000 in
set_option maxHeartbeats 4000000 in
theorem K_jChange {dl dh gd g a e c n n0 c0 nr e1 : Nat} {t k s : Int} {S S1 S2 : List Sec} {C Ca Cb C1 : List (Option Sec)} {L A : Option Addr} {ch b ZA TW hx nx : By} {u : D32} {R : List Rc} (w : World) (hd : DkAt w dl dh gd S C) (hB : Blk w g 85 (jC (some ⟨g, 0, none⟩) (some ⟨gd, 0, none⟩) a e L n c t ch k s)) (hch : ch.length = 32) (hR : RRec w A R) (hnr : nr = R.length) (hRo : ∀ r ∈ R, OkR r) (ha : 1 ≤ a ∧ a ≤ 256) (he : e < 18446744073709551616) (he1 : (e + 1) % 18446744073709551616 = e1) (hu : sumB [wB8 e1] = u.1) (hb : bytesAll u.1 R = b) (hnx : chainAll u.1 R = nx) (hfit : b.length ≤ a * 256) (hsz : 2 + 2 * a ≤ S.length) (hgd : g < dl ∨ dh ≤ g) (hn0 : 2 + e1 % 2 * a = n0) (hZA : List.replicate (a * 256) 0 = ZA) (hTW : overJ ZA 0 b = TW) (hhb : headB e1 a = hx) (h1 : wrs C n0 (secsN a TW) = Ca) (h3 : cur S Ca = S1) (h4 : List.replicate S.length none = C1) (h5 : wrs C1 (e1 % 2) (secsN 1 hx) = Cb) (h6 : cur S1 Cb = S2) :
  CallsR Tryz.prog 58 [.pointer (some ⟨g, 0, none⟩), .slice A nr c0] w fun v w' => v = .tuple #[] ∧ ∃ L' c', Blk w' g 85 (jC (some ⟨g, 0, none⟩) (some ⟨gd, 0, none⟩) a e1 L' b.length c' b.length nx nr nr) ∧ OwnH w' w.heap.size w'.heap.size L' c' b ∧ DkAt w' dl dh gd S2 C1 ∧ ∃ w1, Chg dl dh w w1 ∧ Grew w1 w' 85 (some g) := by
 subst hnr
 have hgw := hB.lt
 have hdh := hd.hi
 have hn32 : nx.length = 32 := by rw [← hnx]; exact chainAll_len u.2 _
 have hZl : ZA.length = a * 256 := by rw [← hZA, List.length_replicate]
 have hTl : TW.length = 256 * a := by rw [← hTW, overJ_len (by omega)]; omega
 have hS1 : S1.length = S.length := by rw [← h3, cur_len]
 have h4b : List.replicate S1.length none = C1 := by rw [hS1, h4]
 have hn0b : n0 ≤ 2 + a := by
  rw [← hn0]
  have := Nat.mul_le_mul_right a (show e1 % 2 ≤ 1 by omega)
  omega
 have hRl : R.length ≤ 65536 := by have := bytesAll_ge u.1 R; rw [hb] at this; omega
 have he2 : e1 < 18446744073709551616 := by omega
 refine callsR Tryz.func58 rfl rfl (by kernel_rfl) rfl ?_
 have hw := Below.refl w.heap.size w
 refine rk_seq ?_
 refine rk_draw (id := 0) (none) [0, 1, 2, 4, 0, 16, 32, 64, 0, 256, 512, 1024, 2048, 4232, 16383] [0, 1, 3, 7, 0, 16, 48, 112, 0, 256, 768, 1792, 3840, 8191, 16383] 8192 0 [(.p, 0), (.p, 1), (.p, 2), (.r, 3), (.p, 4), (.p, 5), (.p, 6), (.r, 7), (.p, 8), (.p, 9), (.p, 10), (.r, 11), (.p, 12), (.l, 13), (.p, 14)] (by kernel_rfl) (by kernel_rfl) (by kernel_rfl) (by kernel_rfl) (by kernel_rfl) ?_
 replace hw := hw.drew
 refine zm rfl ?_
 refine zp (o_nil rfl) ?_
 refine zp (o_faddr (s := 85) (i := 1) (off := 1) Tryz.underlying85 rfl Tryz.sizeOf26 rfl rfl rfl) ?_
 refine wl_r (o_loadbg Tryz.isAgg26 rfl (hB.u hw) (by rfl)) ?_
 refine zm rfl ?_
 refine zp (o_nil rfl) ?_
 refine zp (o_faddr (s := 85) (i := 2) (off := 2) Tryz.underlying85 rfl Tryz.sizeOf3 rfl rfl rfl) ?_
 refine wl_r (o_loadbg Tryz.isAgg3 rfl (hB.u hw) (by rfl)) ?_
 refine zm rfl ?_
 refine zp (o_nil rfl) ?_
 refine zp (o_faddr (s := 85) (i := 3) (off := 3) Tryz.underlying85 rfl Tryz.sizeOf52 rfl rfl rfl) ?_
 refine wl_r (o_loadbg Tryz.isAgg52 rfl (hB.u hw) (by rfl)) ?_
 refine zp (o_addw rfl rfl) ?_
 rw [show IntKind.u64.wrap ((e : Int) + 1) = (e1 : Int) by rw [← he1]; simp [IntKind.wrap, IntKind.signed, IntKind.bits]]
 refine wl_call rfl (C_jMade _ rfl (by omega) hu) ?_
 rintro v24 w24 ⟨g24, ⟨rfl, ⟨f24, ⟨i24, b24⟩⟩⟩⟩
 simp only [drew_size] at i24
 simp only [drew_size] at b24
 have s24 := b24.size
 simp only [drew_size] at s24
 replace hw := hw.trans (b24.mono hw.size)
 refine za rfl ?_
 refine wl_nild ?_
 refine rk_seq (zs (zm rfl ?_))
 refine zp (o_len (t := 44) Tryz.underlying44 rfl) ?_
 refine zm rfl (wl_nil (rk_block ?_))
 have hg24 : w.heap.size ≤ g24 := by omega
 refine rk_joinf (fun fb fr W => ∃ (L' : Option Addr) (c' : Nat), fr = [] ++ fb.drop 1 ∧ Blk W g24 85 (jC (some ⟨g24, 0, none⟩) (some ⟨gd, 0, none⟩) a e1 L' b.length c' b.length nx R.length 0) ∧ OwnH W w.heap.size W.heap.size L' c' b ∧ Below w.heap.size w W) ?_ (fun ks hj => ?_)
 rotate_left
 ·refine rk_loopf (fun fb m fr W => ∃ (i : Nat) (v : Int) (L' : Option Addr) (c' : Nat) (q x : By), fr = [(27, .int .i64 v)] ++ fb.drop 1 ∧ v = i ∧ i ≤ R.length ∧ m = R.length - i ∧ q = bytesAll u.1 (R.take i) ∧ x = chainAll u.1 (R.take i) ∧ Blk W g24 85 (jC (some ⟨g24, 0, none⟩) (some ⟨gd, 0, none⟩) a e1 L' q.length c' q.length x i 0) ∧ OwnH W w.heap.size W.heap.size L' c' q ∧ Below w.heap.size w W) (n := R.length) (Fr.le_of (by kernel_rfl) (by kernel_rfl) (by repeat' constructor)) ⟨0, _, none, 0, [], u.1, rfl, rfl, by omega, rfl, rfl, rfl, f24, OwnH.nil_, hw⟩ ?_
  clear hw f24
  rintro m fr W ⟨i, v, L', c', q, x, rfl, rfl, hi, rfl, hq, hxx, fj, fo, hw⟩
  have shw := hw.size
  have hgj := fj.lt
  have hx32 : x.length = 32 := by rw [hxx]; exact chainAll_len u.2 _
  have hql : q.length ≤ b.length := by rw [hq, ← hb]; exact bytesAll_take_le _ _ _
  first | refine zf ?_ | refine zg ?_
  by_cases hil : i < R.length
  ·have hO := hRo _ (List.getElem_mem hil)
   have e1' := bytesAll_succ u.1 R hil
   have e2' := chainAll_succ u.1 R hil
   have hpl := hO.2
   obtain ⟨bs, hbs⟩ : ∃ bs, bytesR x R[i] = bs := ⟨_, rfl⟩
   obtain ⟨y, hy⟩ : ∃ y, nextB x R[i] = y := ⟨_, rfl⟩
   have hy32 : y.length = 32 := by rw [← hy]; exact nextB_len _ _
   rw [← hq, ← hxx, hbs] at e1'
   rw [← hxx, hy] at e2'
   have hql2 : q.length + bs.length ≤ b.length := by rw [← List.length_append, ← e1', ← hb]; exact bytesAll_take_le _ _ _
   refine zs ?_
   refine zp (o_lt rfl rfl) ?_
   refine wl_nil (rk_seq ?_)
   refine rk_if rfl (fun h28 => ?_) (fun h28 => h28.elim (by omega))
   refine rk_skip (rk_seq (rk_block (zs ?_)))
   refine zp (o_iaddrA (i) Tryz.underlying44 Tryz.sizeOf37 rfl rfl rfl (hR.some_ (by omega)) (by omega)) ?_
   refine wl_ldRec rfl hR hw (by omega) ?_
   rintro A130 c130 f30 i30 i30_1
   refine wl_allocg [_, _] Tryz.zeroValue37 (by rfl) ?_
   rintro g6 w6 f6 b6 i6 i6_1
   have s6 := b6.size
   replace hw := hw.trans (b6.mono hw.size)
   replace fo := fo.u b6
   replace fj := fj.u b6
   refine wl_storega Tryz.sizeOf37 rfl rfl (by rfl) (oneCell_of (by rfl)) f6 (by rfl) ?_
   rintro w_1 f g_1 e_1
   have s_1 := g_1.size
   replace hw := hw.trans (below_of_grownBy g_1.g hw.size (by omega))
   replace fj := fj.k g_1.g (ap_some (by omega))
   replace fo := fo.k g_1.g (ap_some (by omega))
   clear f6
   refine wl_nil (rk_seq ?_)
   refine rk_drawo (id := 4) (none) [0, 1, 2, 4, 0, 24, 32, 64, 64, 64, 0, 1279, 3583, 8191] [0, 1, 3, 7, 0, 31, 63, 127, 127, 127, 0, 1279, 3583, 8191] 5152 1024 [0, 1, 2, 3, 4] [(.p, 0), (.p, 1), (.p, 2), (.s, 3), (.s, 4), (.f 31 5152 1024, 9)] (by kernel_rfl) (by kernel_rfl) (by kernel_rfl) (by kernel_rfl) (by kernel_rfl) ?_
   dsimp only [inOrder, nthOp]
   replace hw := hw.drew
   replace fo := fo.d
   replace fj := fj.d
   replace f := f.d
   refine zm rfl ?_
   refine zp (o_nil rfl) ?_
   refine zp (o_faddr (s := 85) (i := 6) (off := 6) Tryz.underlying85 rfl Tryz.sizeOf64 rfl rfl rfl) ?_
   refine wl_s (fun _ hk => (o_ldJch rfl (fj.u (below_of_grown_none hk)) hx32)) ?_
   refine wl_s (fun _ hk => (o_loadag Tryz.isAgg37 Tryz.sizeOf37 rfl (f.u (below_of_grown_none hk)) (by rfl))) ?_
   refine wl_conc [⟨5, [(.p, 6), (.p, 7), (.p, 8), (.p, 9)], [40, 39, 38, 31, 37], [], fun vs w' lo hi => ∃ (A37 : Option Addr) (c37 : Nat) (u31 u37 : Value), vs = [.int .i64 0, .agg (B8 y).toArray, .slice A37 bs.length c37, u31, u37] ∧ OwnH w' lo hi A37 c37 bs⟩, ⟨10, [], [8], [], fun vs w' lo hi => ∃ (g8 : Nat), vs = [.pointer (some ⟨g8, 0, none⟩)] ∧ Blk w' g8 64 (B8 nul32) ∧ lo ≤ g8 ∧ g8 < hi⟩] [0, 1] [0, 1, 2, 4, 0, 24, 32, 64, 64, 64, 0, 1279, 3583, 8191] [0, 1, 3, 7, 0, 31, 63, 127, 127, 127, 0, 1279, 3583, 8191] [11, 12, 13] [(.p, 11), (.l, 12), (.p, 13)] (by kernel_rfl) (by kernel_rfl) (by kernel_rfl) (by kernel_rfl) ⟨fun _ _ _ _ _ h hb => by obtain ⟨A37, c37, u31, u37, e0, g0⟩ := h; exact ⟨A37, c37, u31, u37, e0, g0.u hb⟩, fun _ _ _ _ _ h hb => by obtain ⟨g8, e0, g0, g1, g2⟩ := h; exact ⟨g8, e0, g0.u hb, g1, g2⟩, trivial⟩ ⟨?_, ?_, trivial⟩ ?_
   ·intro wI hbI fo T T2 n2
    intro hk
    dsimp only [Item.idx, inOrder, nthOp, List.map, List.zip_cons_cons, List.zip_nil_right, List.cons_append, List.nil_append]
    have shbI := hbI.size
    simp only [drew_size] at shbI
    replace hw := hw.trans (hbI.mono hw.size)
    replace f := f.u hbI
    replace fj := fj.u hbI
    have hw1 := Below.refl wI.heap.size wI
    refine wl_call rfl (C_RecBytesOk _ (by rfl) (f30.u hw) (by omega) hbs hy rfl (by omega) hx32) ?_
    rintro v37 w37 ⟨A37, ⟨c37, ⟨rfl, ⟨f37, b37⟩⟩⟩⟩
    have qf37 := f37.cap
    have s37 := b37.size
    replace hw := hw.trans (b37.mono hw.size)
    replace hw1 := hw1.trans (b37.mono hw1.size)
    replace fj := fj.u b37
    replace f := f.u b37
    refine zm rfl ?_
    refine zp (o_ext30 rfl) ?_
    refine zp (o_ext31 rfl) ?_
    refine zp (o_ext32 rfl) ?_
    exact hk [_, _, _, _, _] _ ⟨_, _, _, _, rfl, f37⟩ hw1
   ·intro wI hbI fo T T2 n2
    intro hk
    dsimp only [Item.idx, inOrder, nthOp, List.map, List.zip_cons_cons, List.zip_nil_right, List.cons_append, List.nil_append]
    have shbI := hbI.size
    simp only [drew_size] at shbI
    replace hw := hw.trans (hbI.mono hw.size)
    replace f := f.u hbI
    replace fj := fj.u hbI
    have hw1 := Below.refl wI.heap.size wI
    refine wl_allocB Tryz.underlying64 Tryz.zeroValue64 (by rfl) ?_
    rintro g8 w8 f8 b8 i8 i8_1
    have s8 := b8.size
    replace hw := hw.trans (b8.mono hw.size)
    replace hw1 := hw1.trans (b8.mono hw1.size)
    replace fj := fj.u b8
    replace f := f.u b8
    exact hk [_] _ ⟨_, rfl, f8, by omega, by omega⟩ hw1
   intro wE hbE
   rintro _ lo0 hi0 ⟨A37, c37, u31, u37, rfl, f37⟩ ql0 qm0 qh0 -
   rintro _ lo1 hi1 ⟨g8, rfl, f8, f8_1, f8_2⟩ ql1 qm1 qh1 ⟨qa1_0, -⟩
   try dsimp only at ql0 qm0 qh0  ql1 qm1 qh1 qa1_0
   try simp only [drew_size] at ql0 qm0 qh0  ql1 qm1 qh1 qa1_0
   dsimp only [given, Item.idx, inOrder, nthOp, List.map, List.zip_cons_cons, List.zip_nil_right]
   have shbE := hbE.size
   simp only [drew_size] at shbE
   replace hw := hw.trans (hbE.mono hw.size)
   replace f := f.u hbE
   replace fj := fj.u hbE
   replace fo := fo.u hbE
   refine za rfl ?_
   refine wl_stBa Tryz.sizeOf64 rfl f8 rfl hy32 (by rfl) ?_
   rintro w_2 f_1 g_2 e_2
   have s_2 := g_2.size
   replace hw := hw.trans (below_of_grownBy g_2.g hw.size (by omega))
   replace fo := fo.k g_2.g (ap_some (by omega))
   replace fj := fj.k g_2.g (ap_some (by omega))
   replace f := f.k g_2.g (ap_some (by omega))
   replace f37 := f37.k g_2.g (ap_some (by omega))
   clear f8
   refine za rfl ?_
   refine wl_nild ?_
   refine rk_region (zm rfl (zm rfl ?_))
   refine wl_r (o_ldBa Tryz.isAgg64 Tryz.sizeOf64 rfl f_1 hy32) ?_
   have sw2 := hw.size
   refine wl_call rfl (K_jPut _ fj fo f37.to_RdT.1 rfl hx32 hy32 (by omega) (by omega) (by omega) ⟨by omega, by omega⟩ (by omega)) ?_
   rintro _ w44 ⟨rfl, L2, c2, fj2, fo2, _, w43, q1, q2⟩
   have hw2 := (hw.trans (q1.below (by omega) (fun j e => (RowH.lt fo j e).1))).trans (q2.below (by have := q1.size; omega) (fun j e => by injection e with e; omega))
   clear hw fj fo
   have hw := hw2
   clear hw2
   refine wl_nil ?_
   refine rk_blk ?_
   refine rk_region ?_
   refine zp (o_add rfl rfl (by omega) (by omega)) ?_
   refine zm rfl (wl_nil ?_)
   exact rk_againf (Fr.le_of (by kernel_rfl) (by kernel_rfl) (by repeat' constructor)) ⟨i + 1, (i : Int) + 1, L2, c2, q ++ bs, y, rfl, by omega, by omega, rfl, e1'.symm, e2'.symm, fj2, fo2, hw⟩ (by omega)
  ·refine zs ?_
   refine zp (o_lt rfl rfl) ?_
   refine wl_nil (rk_seq ?_)
   refine rk_if rfl (fun h28 => absurd h28 (by omega)) (fun h28 => ?_)
   refine rk_exit rfl ?_
   obtain rfl : i = R.length := by omega
   rw [List.take_length] at hq hxx
   obtain rfl : q = b := hq.trans hb
   obtain rfl : x = nx := hxx.trans hnx
   exact rk_tof hj (Fr.le_of (by kernel_rfl) (by kernel_rfl) (by repeat' constructor)) ⟨L', c', rfl, fj, fo, hw⟩
 clear hw f24
 rintro fr W ⟨L', c', rfl, fj, fo, hw⟩
 have shw := hw.size
 first | refine zf ?_ | refine zg ?_
 refine zs (zm rfl (zm rfl ?_))
 refine zp (o_nil rfl) ?_
 refine zp (o_faddr (s := 85) (i := 7) (off := 38) Tryz.underlying85 rfl Tryz.sizeOf3 rfl rfl rfl) ?_
 refine wl_r (o_ldJk rfl fj hn32) ?_
 refine zp (o_nil rfl) ?_
 refine zp (o_faddr (s := 85) (i := 8) (off := 39) Tryz.underlying85 rfl Tryz.sizeOf3 rfl rfl rfl) ?_
 refine wl_stJs rfl fj rfl hn32 ?_
 rintro w_1 f g_1 e_1
 have s_1 := g_1.size
 replace hw := hw.trans (below_of_grownBy g_1.g hw.size (by omega))
 replace fo := fo.y g_1 (by decide)
 clear fj
 refine wl_nil (zs (zm rfl ?_))
 refine zp (o_nil rfl) ?_
 refine zp (o_faddr (s := 85) (i := 2) (off := 2) Tryz.underlying85 rfl Tryz.sizeOf3 rfl rfl rfl) ?_
 refine wl_r (o_loadbg Tryz.isAgg3 rfl (hB.u hw) (by rfl)) ?_
 refine wl_call rfl (C_jStart _ (by omega)) ?_
 rintro v57 w57 ⟨rfl, b57⟩
 have s57 := b57.size
 replace hw := hw.trans (b57.mono hw.size)
 replace fo := fo.u b57
 replace f := f.u b57
 have sw57 := hw.size
 refine wl_mkBz (a * 256) rfl rfl (by omega) (by rfl) (by omega) hZA ?_
 rintro A58 w58 f58 b58
 have qf58 := f58.cap
 have s58 := b58.size
 replace hw := hw.trans (b58.mono hw.size)
 replace f := f.u b58
 replace fo := fo.u b58
 refine za rfl (wl_nil (rk_seq ?_))
 refine rk_draw (id := 9) (none) [0, 0, 2, 4, 8, 0, 32, 64, 128, 272, 513] [0, 0, 2, 6, 14, 0, 32, 96, 224, 510, 1023] 1024 0 [(.p, 0), (.p, 1), (.p, 2), (.p, 3), (.r, 4), (.p, 5), (.p, 6), (.p, 7), (.r, 8), (.p, 9), (.l, 10)] (by kernel_rfl) (by kernel_rfl) (by kernel_rfl) (by kernel_rfl) (by kernel_rfl) ?_
 replace hw := hw.drew
 replace fo := fo.d
 replace f := f.d
 replace f58 := f58.d
 refine zm rfl (zm rfl ?_)
 refine zp (o_nil rfl) ?_
 refine zp (o_faddr (s := 85) (i := 4) (off := 4) Tryz.underlying85 rfl Tryz.sizeOf35 rfl rfl rfl) ?_
 refine wl_r (o_loadbg Tryz.isAgg35 rfl f (by rfl)) ?_
 refine zm rfl ?_
 refine zp (o_nil rfl) ?_
 refine zp (o_faddr (s := 85) (i := 5) (off := 5) Tryz.underlying85 rfl Tryz.sizeOf80 rfl rfl rfl) ?_
 refine wl_r (o_loadbg Tryz.isAgg80 rfl f (by rfl)) ?_
 refine wl_slBh Tryz.u8 (List.length b) rfl rfl fo.to_Rd rfl rfl (by omega) fo.cap ?_
 rintro f68
 refine wl_cpJ Tryz.u8 rfl f58 rfl (by simp) f68 (by omega) (by simp; omega) (by omega) (by rfl) ?_
 rintro w69 f69 g69 b69 e69
 simp only [drew_size] at e69
 have qf69 := f69.cap
 have s69 := g69.size
 simp only [drew_size] at s69
 replace hw := hw.trans (b69.mono (by omega))
 replace f := f.y g69 (by decide)
 replace fo := fo.k g69.g (f69.ap (by omega))
 clear f68
 clear f58
 refine wl_nild ?_
 refine rk_seq ?_
 refine rk_drawo (id := 10) (none) [0, 1, 2, 4, 0, 16, 32, 64, 0, 256, 512, 1024, 2176, 0, 12296] [0, 1, 3, 7, 0, 16, 48, 112, 0, 256, 768, 1792, 4080, 0, 16383] 20480 4096 [0, 1, 2, 3, 4, 5, 6, 7, 8, 9, 10, 11, 13, 12, 14] [(.p, 0), (.p, 1), (.p, 2), (.s, 3), (.p, 4), (.p, 5), (.p, 6), (.r, 7), (.p, 8), (.p, 9), (.p, 10), (.r, 11), (.p, 13), (.c, 12), (.l, 14)] (by kernel_rfl) (by kernel_rfl) (by kernel_rfl) (by kernel_rfl) (by kernel_rfl) ?_
 dsimp only [inOrder, nthOp]
 replace hw := hw.drew
 replace fo := fo.d
 replace f := f.d
 replace f69 := f69.d
 refine zm rfl ?_
 refine zp (o_nil rfl) ?_
 refine zp (o_faddr (s := 85) (i := 1) (off := 1) Tryz.underlying85 rfl Tryz.sizeOf26 rfl rfl rfl) ?_
 refine wl_s (fun _ hk => (o_loadbg Tryz.isAgg26 rfl ((hB.u hw).u (below_of_grown_none hk)) (by rfl))) ?_
 refine zm rfl ?_
 refine zp (o_nil rfl) ?_
 refine zp (o_faddr (s := 85) (i := 3) (off := 3) Tryz.underlying85 rfl Tryz.sizeOf52 rfl rfl rfl) ?_
 refine wl_r (o_loadbg Tryz.isAgg52 rfl f (by rfl)) ?_
 refine zm rfl ?_
 refine zp (o_nil rfl) ?_
 refine zp (o_faddr (s := 85) (i := 2) (off := 2) Tryz.underlying85 rfl Tryz.sizeOf3 rfl rfl rfl) ?_
 refine wl_r (o_loadbg Tryz.isAgg3 rfl (hB.u hw) (by rfl)) ?_
 refine zm rfl ?_
 refine wl_call rfl (C_jFirstB _ rfl rfl hn0 (by omega) (by omega)) ?_ (hq := .inr fun _ _ h => grown_of_below h.2 _)
 rintro v82 w82 ⟨rfl, b82⟩
 simp only [drew_size] at b82
 have s82 := b82.size
 simp only [drew_size] at s82
 replace hw := hw.trans (b82.mono hw.size)
 replace f69 := f69.u b82
 replace f := f.u b82
 replace fo := fo.u b82
 rw [List.take_of_length_le (Nat.le_refl _), hTW] at f69
 have hcg : Chg dl dh w w82 := Chg.of_below hw
 have hd2 := hd.u hw
 have hB2 := hB.u hw
 have sw82 := hw.size
 clear hw hd hB
 have hd := hd2
 have hB := hB2
 clear hd2 hB2
 refine wl_call rfl (C_jWriteH (M := a) (n := n0) _ hd f69.top hTl h1 rfl (by omega) (by omega) (.inr (by omega)) (by omega) (by omega) (by omega)) ?_
 rintro _ w84 ⟨rfl, hd84, b84⟩
 have sb84 := b84.size
 replace hcg := hcg.trans (b84.wide (by omega) (by omega))
 replace hB := hB.c b84 (by omega)
 replace fo := fo.c b84 (by omega)
 replace f := f.c b84 (by omega)
 replace f69 := f69.c b84 (by omega)
 clear hd
 refine wl_nild ?_
 refine zs (zm rfl ?_)
 refine zp (o_nil rfl) ?_
 refine zp (o_faddr (s := 85) (i := 1) (off := 1) Tryz.underlying85 rfl Tryz.sizeOf26 rfl rfl rfl) ?_
 refine wl_r (o_loadbg Tryz.isAgg26 rfl hB (by rfl)) ?_
 refine wl_call rfl (C_dFlush _ hd84 h3 h4) ?_
 rintro v89 w89 ⟨rfl, ⟨f89, g89⟩⟩
 have s89 := g89.size
 replace hcg := hcg.trans (g89.wide (by omega) (by omega))
 replace f69 := f69.c g89 (by omega)
 replace f := f.c g89 (by omega)
 replace fo := fo.c g89 (by omega)
 replace hB := hB.c g89 (by omega)
 clear hd84
 refine wl_nil (rk_seq ?_)
 refine rk_draw (id := 12) (none) [0, 1, 2, 4, 0, 16, 32, 64, 128, 256, 0, 1024, 2048, 4096, 0, 16384, 32768, 65536, 139264, 262664] [0, 1, 3, 7, 0, 16, 48, 112, 240, 496, 0, 1024, 3072, 7168, 0, 16384, 49152, 114688, 261120, 524287] 786432 262144 [(.p, 0), (.p, 1), (.p, 2), (.s, 3), (.p, 4), (.p, 5), (.p, 6), (.s, 7), (.p, 8), (.p, 9), (.p, 10), (.p, 11), (.p, 12), (.r, 13), (.p, 14), (.p, 15), (.p, 16), (.r, 17), (.c, 18), (.l, 19)] (by kernel_rfl) (by kernel_rfl) (by kernel_rfl) (by kernel_rfl) (by kernel_rfl) ?_
 replace hcg := hcg.trans Chg.drew
 replace hB := hB.d
 replace fo := fo.d
 replace f := f.d
 replace f69 := f69.d
 replace f89 := f89.d
 refine zm rfl ?_
 refine zp (o_nil rfl) ?_
 refine zp (o_faddr (s := 85) (i := 1) (off := 1) Tryz.underlying85 rfl Tryz.sizeOf26 rfl rfl rfl) ?_
 refine wl_s (fun _ hk => (o_loadbg Tryz.isAgg26 rfl (hB.u (below_of_grown_none hk)) (by rfl))) ?_
 refine zm rfl ?_
 refine zp (o_nil rfl) ?_
 refine zp (o_faddr (s := 85) (i := 3) (off := 3) Tryz.underlying85 rfl Tryz.sizeOf52 rfl rfl rfl) ?_
 refine wl_s (fun _ hk => (o_loadbg Tryz.isAgg52 rfl (f.u (below_of_grown_none hk)) (by rfl))) ?_
 refine zp (o_remu rfl rfl (by omega) (by omega)) ?_
 refine zp (o_convi64 (src := 52) (dst := 3) Tryz.underlying52 Tryz.underlying3 rfl (by omega) (by omega)) ?_
 refine zm rfl ?_
 refine zp (o_nil rfl) ?_
 refine zp (o_faddr (s := 85) (i := 3) (off := 3) Tryz.underlying85 rfl Tryz.sizeOf52 rfl rfl rfl) ?_
 refine wl_r (o_loadbg Tryz.isAgg52 rfl f (by rfl)) ?_
 refine zm rfl ?_
 refine zp (o_nil rfl) ?_
 refine zp (o_faddr (s := 85) (i := 2) (off := 2) Tryz.underlying85 rfl Tryz.sizeOf3 rfl rfl rfl) ?_
 refine wl_r (o_loadbg Tryz.isAgg3 rfl hB (by rfl)) ?_
 refine wl_call rfl (C_headBytes _ rfl rfl hhb (by omega) (by omega)) ?_ (hq := .inr fun _ _ h => grown_of_below h.choose_spec.choose_spec.2.2.2 _)
 rintro v108 w108 ⟨A108, ⟨c108, ⟨rfl, ⟨f108, ⟨e108, b108⟩⟩⟩⟩⟩
 simp only [drew_size] at f108
 simp only [drew_size] at b108
 have qf108 := f108.cap
 have s108 := b108.size
 simp only [drew_size] at s108
 replace hcg := hcg.thenB b108
 replace f89 := f89.u b108
 replace f69 := f69.u b108
 replace f := f.u b108
 replace fo := fo.u b108
 replace hB := hB.u b108
 have sz0 := hcg.size
 have hHl : hx.length = 256 * 1 := by rw [← hhb, headB_len]
 refine wl_call rfl (C_jWriteH (M := 1) (n := e1 % 2) _ f89 f108.top hHl h5 (by omega) (by omega) (by omega) (.inr (by omega)) (by omega) (by omega) (by omega)) ?_
 rintro _ w109 ⟨rfl, hd109, b109⟩
 have sb109 := b109.size
 replace hcg := hcg.trans (b109.wide (by omega) (by omega))
 replace hB := hB.c b109 (by omega)
 replace fo := fo.c b109 (by omega)
 replace f := f.c b109 (by omega)
 replace f69 := f69.c b109 (by omega)
 replace f108 := f108.c b109 (by omega)
 clear f89
 refine wl_nild ?_
 refine zs (zm rfl ?_)
 refine zp (o_nil rfl) ?_
 refine zp (o_faddr (s := 85) (i := 1) (off := 1) Tryz.underlying85 rfl Tryz.sizeOf26 rfl rfl rfl) ?_
 refine wl_r (o_loadbg Tryz.isAgg26 rfl hB (by rfl)) ?_
 refine wl_call rfl (C_dFlush _ hd109 h6 h4b) ?_
 rintro v114 w114 ⟨rfl, ⟨f114, g114⟩⟩
 have s114 := g114.size
 replace hcg := hcg.trans (g114.wide (by omega) (by omega))
 replace f108 := f108.c g114 (by omega)
 replace f69 := f69.c g114 (by omega)
 replace f := f.c g114 (by omega)
 replace fo := fo.c g114 (by omega)
 replace hB := hB.c g114 (by omega)
 clear hd109
 refine wl_nil (zs (zm rfl (zm rfl ?_)))
 refine zp (o_nil rfl) ?_
 refine zp (o_faddr (s := 85) (i := 0) (off := 0) Tryz.underlying85 rfl Tryz.sizeOf31 rfl rfl rfl) ?_
 refine wl_stJself rfl f rfl hn32 ?_
 rintro w_2 f_1 g_2 e_2
 have s_2 := g_2.size
 replace hcg := hcg.andNew g_2.g (fun _ e => by injection e with e; have := hcg.size; omega)
 replace hB := hB.k g_2.g (ap_some (by omega))
 replace fo := fo.y g_2 (by decide)
 replace f69 := f69.y g_2 (by decide)
 replace f108 := f108.y g_2 (by decide)
 replace f114 := f114.k g_2.g (ap_some (by omega))
 clear f
 refine wl_nil ?_
 have keep : ∀ W', Grew w_2 W' 85 (some g) → ∃ w1, Chg dl dh w w1 ∧ Grew w1 W' 85 (some g) := fun W' h => ⟨_, hcg, h⟩
 refine rk_region (zm rfl (zm rfl ?_))
 refine zp (o_nil rfl) ?_
 refine wl_r (o_ldJ rfl f_1 hn32) ?_
 refine zp (o_nil rfl) ?_
 refine wl_stJ rfl rfl hn32 hB hch ?_
 rintro w_3 f g_3 e_3
 have s_3 := g_3.size
 replace f114 := f114.k g_3.g (ap_some (by omega))
 replace f108 := f108.k g_3.g (ap_some (by omega))
 replace f69 := f69.k g_3.g (ap_some (by omega))
 replace fo := fo.k g_3.g (ap_some (by omega))
 replace f_1 := f_1.k g_3.g (ap_some (by omega))
 clear hB
 refine wl_nil ?_
 refine end0 rfl ?_
 exact ⟨rfl, _, _, f, fo.top, f114, keep _ (by assumption)⟩
end Go.Proofs.YtnnhenafhalobaaGreat
namespace Go.Proofs.YtnnhenafhalobaaGreat
set_option maxRecDepth 100000
open Go.RowKit
theorem readR_zeros (d : By) (n : Nat) : (readR d (List.replicate n 0)).2.2.2 ≠ 0 := fun h0 => by
 obtain ⟨⟨r, z, x, e⟩, hr⟩ : ∃ s, readR d (List.replicate n 0) = s := ⟨_, rfl⟩
 rw [hr] at h0
 simp only at h0
 subst h0
 obtain ⟨h1, _, _, q, h4⟩ := readR_back hr
 apply h1.1
 have h5 : (List.replicate n (0 : UInt8)) = r.1 :: (blkB r.2 ++ (nextB d r).take 8 ++ q) := by rw [h4, bytesR, bodyB]; simp
 have h6 : r.1 ∈ List.replicate n (0 : UInt8) := by rw [h5]; simp
 exact (List.mem_replicate.1 h6).2
theorem AllP.zeros {c : By} {R : List Rc} (n : Nat) (hO : ∀ r ∈ R, OkR r) : AllP c (bytesAll c R ++ List.replicate n 0) R := ⟨_, rfl, hO, readR_zeros _ _⟩
theorem allR_own {c : By} {R : List Rc} (hO : ∀ r ∈ R, OkR r) : allR c (bytesAll c R) = R := by
 have := (AllP.zeros (c := c) 0 hO).eq
 rwa [List.replicate_zero, List.append_nil] at this
theorem allR_len {c b : By} : (bytesAll c (allR c b)).length ≤ b.length := by
 obtain ⟨q, h1, _, _⟩ := AllP.fun (c := c) (b := b)
 conv => rhs; rw [h1, List.length_append]
 omega
theorem allR_ok {c b : By} : ∀ r ∈ allR c b, OkR r := by
 obtain ⟨q, _, h, _⟩ := AllP.fun (c := c) (b := b)
 exact h
theorem C_AllXN {A : Option Addr} {b c ch : By} {L : List Rc} {n nb cap : Nat} (w : World) (hr : allR c b = L) (h1 : (bytesAll c L).length = nb) (h2 : chainAll c L = ch) (hb : Rd w A b) (hn : n = b.length) (hcap : b.length ≤ cap) (hc : c.length = 32) (hl : b.length ≤ 400000) :
  CallsR Tryz.prog 54 [.agg (B8 c).toArray, .slice A n cap] w fun v w' => ∃ (A' : Option Addr) (c' : Nat), v = .tuple #[.slice A' L.length c', .int .i64 (nb : Int), .agg (B8 ch).toArray] ∧ OwnRecX (fun k => w.heap.size ≤ k) w' w.heap.size w'.heap.size A' c' L ∧ Below w.heap.size w w' := by
 refine (K_AllX w hb hn hcap hc hl).mono ?_
 rintro v w' ⟨L', A', c', rfl, hA, hO, hw⟩
 obtain rfl : L = L' := by rw [← hr]; exact hA.eq
 rw [h1, h2]
 exact ⟨A', c', rfl, hO, hw⟩
set_option maxRecDepth 100000 in
theorem C_jRecords {g c lo hi e : Nat} {d L : Option Addr} {a k s : Int} {ch b : By} {u : D32} {R : List Rc} (w : World) (hB : Blk w g 85 (jC (some ⟨g, 0, none⟩) d a e L b.length c b.length ch k s)) (hL : OwnH w lo hi L c b) (hb : bytesAll u.1 R = b) (hch : ch.length = 32) (he : e < 18446744073709551616) (hu : sumB [wB8 e] = u.1) (hRo : ∀ r ∈ R, OkR r) (hbl : b.length ≤ 100000) :
  CallsR Tryz.prog 18 [.pointer (some ⟨g, 0, none⟩)] w fun v w' => ∃ A' c', v = .slice A' R.length c' ∧ OwnRecX (fun k => w.heap.size ≤ k) w' w.heap.size w'.heap.size A' c' R ∧ Below w.heap.size w w' := by
 have hR : allR u.1 b = R := by rw [← hb]; exact allR_own hRo
 have hu32 := u.2
 obtain ⟨nx, hnx⟩ : ∃ nx, chainAll u.1 R = nx := ⟨_, rfl⟩
 have hn32 : nx.length = 32 := by rw [← hnx]; exact chainAll_len hu32 _
 obtain ⟨nb, hnb⟩ : ∃ nb, (bytesAll u.1 R).length = nb := ⟨_, rfl⟩
 have hcp := hL.cap
 refine callsR Tryz.func18 rfl rfl (by kernel_rfl) rfl ?_
 have hw := Below.refl w.heap.size w
 refine zs (za rfl (wl_nil (rk_seq (zs (zm rfl ?_)))))
 refine wl_call rfl (C_jValid _ hB) ?_
 rintro v7 w7 ⟨rfl, rfl⟩
 refine zp (o_not rfl) ?_
 refine wl_nil ?_
 refine rk_false rfl ?_
 refine rk_skip (rk_seq ?_)
 refine rk_drawo (id := 3) (none) [0, 1, 2, 4, 8, 0, 32, 64, 128, 0, 512, 1024, 2048, 4352, 8208, 16384, 32768, 32768, 32768, 0, 655359, 1835007, 4194303] [0, 1, 3, 7, 15, 0, 32, 96, 224, 0, 512, 1536, 3584, 8160, 16383, 32767, 65535, 65535, 65535, 0, 655359, 1835007, 4194303] 4734992 524304 [0, 1, 2, 3, 5, 6, 7, 8, 9, 10, 11, 12, 13] [(.p, 0), (.p, 1), (.p, 2), (.s, 3), (.p, 5), (.p, 6), (.p, 7), (.s, 8), (.p, 9), (.p, 10), (.p, 11), (.s, 12), (.p, 13), (.f 16367 4734992 524304, 10)] (by kernel_rfl) (by kernel_rfl) (by kernel_rfl) (by kernel_rfl) (by kernel_rfl) ?_
 dsimp only [inOrder, nthOp]
 replace hw := hw.drew
 refine zm rfl ?_
 refine zp (o_nil rfl) ?_
 refine zp (o_faddr (s := 85) (i := 3) (off := 3) Tryz.underlying85 rfl Tryz.sizeOf52 rfl rfl rfl) ?_
 refine wl_s (fun _ hk => (o_loadbg Tryz.isAgg52 rfl ((hB.u hw).u (below_of_grown_none hk)) (by rfl))) ?_
 refine zm rfl ?_
 refine zp (o_nil rfl) ?_
 refine zp (o_faddr (s := 85) (i := 4) (off := 4) Tryz.underlying85 rfl Tryz.sizeOf35 rfl rfl rfl) ?_
 refine wl_s (fun _ hk => (o_loadbg Tryz.isAgg35 rfl ((hB.u hw).u (below_of_grown_none hk)) (by rfl))) ?_
 refine zm rfl ?_
 refine zp (o_nil rfl) ?_
 refine zp (o_faddr (s := 85) (i := 5) (off := 5) Tryz.underlying85 rfl Tryz.sizeOf80 rfl rfl rfl) ?_
 refine wl_s (fun _ hk => (o_loadbg Tryz.isAgg80 rfl ((hB.u hw).u (below_of_grown_none hk)) (by rfl))) ?_
 refine wl_slBh Tryz.u8 (List.length b) rfl rfl (hL.u hw).to_Rd rfl rfl (by omega) (by omega) ?_
 rintro f23
 rw [List.take_of_length_le (Nat.le_refl _)] at f23
 refine wl_conc [⟨4, [], [14], [], fun vs w' lo hi => vs = [.agg (B8 u.1).toArray]⟩, ⟨14, [(.p, 15), (.p, 16), (.p, 17), (.p, 18)], [27, 26, 25, 9, 24], [0], fun vs w' lo hi => ∃ (A24 : Option Addr) (c24 : Nat) (u9 u24 : Value), vs = [.agg (B8 nx).toArray, .int .i64 (nb : Int), .slice A24 R.length c24, u9, u24] ∧ OwnRecX (fun k => w7.heap.size ≤ k) w' lo hi A24 c24 R⟩, ⟨19, [], [5], [], fun vs w' lo hi => ∃ (g5 : Nat), vs = [.pointer (some ⟨g5, 0, none⟩)] ∧ Blk w' g5 64 (B8 nul32) ∧ lo ≤ g5 ∧ g5 < hi⟩] [0, 1, 2] [0, 1, 2, 4, 8, 0, 32, 64, 128, 0, 512, 1024, 2048, 4352, 8208, 16384, 32768, 32768, 32768, 0, 655359, 1835007, 4194303] [0, 1, 3, 7, 15, 0, 32, 96, 224, 0, 512, 1536, 3584, 8160, 16383, 32767, 65535, 65535, 65535, 0, 655359, 1835007, 4194303] [20, 21, 22] [(.p, 20), (.p, 21), (.l, 22)] (by kernel_rfl) (by kernel_rfl) (by kernel_rfl) (by kernel_rfl) ⟨fun _ _ _ _ _ h _ => h, fun _ _ _ _ _ h hb => by obtain ⟨A24, c24, u9, u24, e0, g0⟩ := h; exact ⟨A24, c24, u9, u24, e0, g0.u hb⟩, fun _ _ _ _ _ h hb => by obtain ⟨g5, e0, g0, g1, g2⟩ := h; exact ⟨g5, e0, g0.u hb, g1, g2⟩, trivial⟩ ⟨?_, ?_, ?_, trivial⟩ ?_
 ·intro wI hbI fo T T2 n2
  intro hk
  dsimp only [Item.idx, inOrder, nthOp, List.map, List.zip_cons_cons, List.zip_nil_right, List.cons_append, List.nil_append]
  have shbI := hbI.size
  simp only [drew_size] at shbI
  replace hw := hw.trans (hbI.mono hw.size)
  replace f23 := f23.u hbI
  have hw1 := Below.refl wI.heap.size wI
  refine wl_call rfl (C_First _ rfl (by omega) hu) ?_ (hq := .inr fun _ _ h => grown_of_below h.2 _)
  rintro v14 w14 ⟨rfl, b14⟩
  have s14 := b14.size
  replace hw := hw.trans (b14.mono hw.size)
  replace hw1 := hw1.trans (b14.mono hw1.size)
  replace f23 := f23.u b14
  exact hk [_] _ rfl hw1
 ·intro wI hbI fo T T2 n2
  rintro _ lo0 hi0 ⟨rfl⟩ ql0 qm0 qh0 -
  try dsimp only at ql0 qm0 qh0 
  try simp only [drew_size] at ql0 qm0 qh0 
  intro hk
  dsimp only [Item.idx, inOrder, nthOp, List.map, List.zip_cons_cons, List.zip_nil_right, List.cons_append, List.nil_append]
  have shbI := hbI.size
  simp only [drew_size] at shbI
  replace hw := hw.trans (hbI.mono hw.size)
  replace f23 := f23.u hbI
  have hw1 := Below.refl wI.heap.size wI
  refine wl_call rfl (C_AllXN _ hR hnb hnx f23 rfl (by omega) hu32 (by omega)) ?_
  rintro v24 w24 ⟨A24, ⟨c24, ⟨rfl, ⟨f24, b24⟩⟩⟩⟩
  have qf24 := f24.cap
  have s24 := b24.size
  replace hw := hw.trans (b24.mono hw.size)
  replace hw1 := hw1.trans (b24.mono hw1.size)
  replace f23 := f23.u b24
  refine zm rfl ?_
  refine zp (o_ext30 rfl) ?_
  refine zp (o_ext31 rfl) ?_
  refine zp (o_ext32 rfl) ?_
  exact hk [_, _, _, _, _] _ ⟨_, _, _, _, rfl, f24.re (fun k h => by omega)⟩ hw1
 ·intro wI hbI fo T T2 n2
  intro hk
  dsimp only [Item.idx, inOrder, nthOp, List.map, List.zip_cons_cons, List.zip_nil_right, List.cons_append, List.nil_append]
  have shbI := hbI.size
  simp only [drew_size] at shbI
  replace hw := hw.trans (hbI.mono hw.size)
  replace f23 := f23.u hbI
  have hw1 := Below.refl wI.heap.size wI
  refine wl_allocB Tryz.underlying64 Tryz.zeroValue64 (by rfl) ?_
  rintro g5 w5 f5 b5 i5 i5_1
  have s5 := b5.size
  replace hw := hw.trans (b5.mono hw.size)
  replace hw1 := hw1.trans (b5.mono hw1.size)
  replace f23 := f23.u b5
  exact hk [_] _ ⟨_, rfl, f5, by omega, by omega⟩ hw1
 intro wE hbE
 rintro _ lo0 hi0 ⟨rfl⟩ ql0 qm0 qh0 -
 rintro _ lo1 hi1 ⟨A24, c24, u9, u24, rfl, f24⟩ ql1 qm1 qh1 ⟨qa1_0, -⟩
 rintro _ lo2 hi2 ⟨g5, rfl, f5, f5_1, f5_2⟩ ql2 qm2 qh2 ⟨qa2_1, qa2_0, -⟩
 try dsimp only at ql0 qm0 qh0  ql1 qm1 qh1 qa1_0 ql2 qm2 qh2 qa2_0 qa2_1
 try simp only [drew_size] at ql0 qm0 qh0  ql1 qm1 qh1 qa1_0 ql2 qm2 qh2 qa2_0 qa2_1
 dsimp only [given, Item.idx, inOrder, nthOp, List.map, List.zip_cons_cons, List.zip_nil_right]
 have shbE := hbE.size
 simp only [drew_size] at shbE
 replace hw := hw.trans (hbE.mono hw.size)
 replace f23 := f23.u hbE
 have hcE : Chg lo1 hi1 wE wE := Chg.refl
 refine za rfl (za rfl ?_)
 refine wl_stBa Tryz.sizeOf64 rfl f5 rfl hn32 (by rfl) ?_
 rintro w f g_1 e_1
 have s_1 := g_1.size
 replace hw := hw.trans (below_of_grownBy g_1.g hw.size (by omega))
 replace f24 := f24.y g_1 (by decide)
 clear f23
 clear f5
 refine wl_nild ?_
 refine zs (zm rfl (za rfl (wl_nil ?_)))
 have szE := hcE.size
 refine ret1 rfl rfl ?_
 exact ⟨_, _, rfl, f24.base (by omega) (by omega), hw⟩
theorem szR_succ : ∀ (R : List Rc) {i : Nat} (hi : i < R.length), szR (R.take (i + 1)) = szR (R.take i) + ((bodyB R[i]).length + 8)
 | r :: R, 0, _ => by simp [szR]
 | r :: R, i + 1, h => by
  have := szR_succ R (i := i) (by simpa using h)
  simp only [List.take_succ_cons, szR, List.getElem_cons_succ, this]
  omega
theorem szR_le : ∀ (R : List Rc) (i : Nat), szR (R.take i) ≤ szR R
 | [], _ => by simp
 | r :: R, 0 => by simp [szR]
 | r :: R, i + 1 => by
  have := szR_le R i
  simp only [List.take_succ_cons, szR]
  omega
theorem C_CheckGood {k : UInt8} {x : Int} {A : Option Addr} {p : By} {n c : Nat} (w : World) (hk : x = (k.toNat : Int)) (hO : OkR (k, p)) (hn : n = p.length) :
  CallsR Tryz.prog 56 [.agg #[.int .u8 x, .slice A n c]] w fun v w' => v = .int .i64 0 ∧ Below w.heap.size w w' := by
 refine (C_CheckZ w hk hn).mono ?_
 rintro v w' ⟨z, rfl, h1, h2, h3⟩
 rw [h2.2 hO]
 exact ⟨rfl, h3⟩
set_option maxRecDepth 100000 in
set_option maxHeartbeats 4000000 in
theorem K_jSwitch {dl dh gd g a e c n n0 c0 nr e1 : Nat} {t k s : Int} {S S1 S2 : List Sec} {C Ca Cb C1 : List (Option Sec)} {L A : Option Addr} {ch b ZA TW hx nx : By} {u : D32} {R : List Rc} (w : World) (hd : DkAt w dl dh gd S C) (hB : Blk w g 85 (jC (some ⟨g, 0, none⟩) (some ⟨gd, 0, none⟩) a e L n c t ch k s)) (hch : ch.length = 32) (hR : RRec w A R) (hnr : nr = R.length) (hRo : ∀ r ∈ R, OkR r) (ha : 1 ≤ a ∧ a ≤ 256) (he : e < 18446744073709551616) (he1 : (e + 1) % 18446744073709551616 = e1) (hu : sumB [wB8 e1] = u.1) (hb : bytesAll u.1 R = b) (hnx : chainAll u.1 R = nx) (hfit : b.length ≤ a * 256) (hsz : 2 + 2 * a ≤ S.length) (hgd : g < dl ∨ dh ≤ g) (hn0 : 2 + e1 % 2 * a = n0) (hZA : List.replicate (a * 256) 0 = ZA) (hTW : overJ ZA 0 b = TW) (hhb : headB e1 a = hx) (h1 : wrs C n0 (secsN a TW) = Ca) (h3 : cur S Ca = S1) (h4 : List.replicate S.length none = C1) (h5 : wrs C1 (e1 % 2) (secsN 1 hx) = Cb) (h6 : cur S1 Cb = S2) :
  CallsR Tryz.prog 19 [.pointer (some ⟨g, 0, none⟩), .slice A nr c0] w fun v w' => v = .int .i64 0 ∧ ∃ L' c', Blk w' g 85 (jC (some ⟨g, 0, none⟩) (some ⟨gd, 0, none⟩) a e1 L' b.length c' b.length nx nr nr) ∧ OwnH w' w.heap.size w'.heap.size L' c' b ∧ DkAt w' dl dh gd S2 C1 ∧ ∃ w1, Chg dl dh w w1 ∧ Grew w1 w' 85 (some g) := by
 subst hnr
 have hgw := hB.lt
 have hbz : b.length = szR R := by rw [← hb, bytesAll_sz]
 have hzr : szR R ≤ 65536 := by omega
 have hRl : R.length ≤ 65536 := by have := bytesAll_ge u.1 R; rw [hb] at this; omega
 refine callsR Tryz.func19 rfl rfl (by kernel_rfl) rfl ?_
 have hw := Below.refl w.heap.size w
 refine zs (za rfl (wl_nil (rk_seq (zs (zm rfl ?_)))))
 refine wl_call rfl (C_jValid _ hB) ?_
 rintro v10 w10 ⟨rfl, rfl⟩
 refine zp (o_not rfl) ?_
 refine wl_nil ?_
 refine rk_false rfl ?_
 refine rk_skip (zs (za rfl (wl_nil (rk_seq (zs (zm rfl ?_))))))
 refine zp (o_len (t := 44) Tryz.underlying44 rfl) ?_
 refine zm rfl (wl_nil (rk_block ?_))
 obtain ⟨w, hww⟩ : ∃ w, w = w10 := ⟨_, rfl⟩
 subst hww
 refine rk_joinf (fun fb fr W => fr = [(5, .int .i64 (szR R : Nat))] ++ fb.drop 8 ∧ Below w.heap.size w W) ?_ (fun ks hj => ?_)
 rotate_left
 ·refine rk_loopf (fun fb m fr W => ∃ (i : Nat) (v z : Int), fr = [(14, .int .i64 v), (13, .int .i64 R.length), (12, .slice A R.length c0), (5, .int .i64 z)] ++ fb.drop 8 ∧ v = i ∧ i ≤ R.length ∧ m = R.length - i ∧ z = (szR (R.take i) : Nat) ∧ Below w.heap.size w W) (n := R.length) (Fr.le_of (by kernel_rfl) (by kernel_rfl) (by repeat' constructor)) ⟨0, _, _, rfl, rfl, by omega, rfl, rfl, hw⟩ ?_
  clear hw
  rintro m fr W ⟨i, v, z, rfl, rfl, hi, rfl, rfl, hw⟩
  have shw := hw.size
  first | refine zf ?_ | refine zg ?_
  by_cases hil : i < R.length
  ·have hO := hRo _ (List.getElem_mem hil)
   have hpl := hO.2
   have hzs := szR_succ R hil
   have hzl := szR_le R (i + 1)
   obtain ⟨y, hy⟩ : ∃ y, (bodyB R[i]).length + 8 = y := ⟨_, rfl⟩
   rw [hy] at hzs
   refine zs ?_
   refine zp (o_lt rfl rfl) ?_
   refine wl_nil (rk_seq ?_)
   refine rk_if rfl (fun h15 => ?_) (fun h15 => h15.elim (by omega))
   refine rk_skip (rk_seq (rk_block (zs ?_)))
   refine zp (o_iaddrA (i) Tryz.underlying44 Tryz.sizeOf37 rfl rfl rfl (hR.some_ (by omega)) (by omega)) ?_
   refine wl_ldRec rfl hR hw (by omega) ?_
   rintro A117 c117 f17 i17 i17_1
   refine wl_allocg [_, _] Tryz.zeroValue37 (by rfl) ?_
   rintro g7 w7 f7 b7 i7 i7_1
   have s7 := b7.size
   replace hw := hw.trans (b7.mono hw.size)
   refine wl_storega Tryz.sizeOf37 rfl rfl (by rfl) (oneCell_of (by rfl)) f7 (by rfl) ?_
   rintro w_1 f g_1 e_1
   have s_1 := g_1.size
   replace hw := hw.trans (below_of_grownBy g_1.g hw.size (by omega))
   clear f7
   refine wl_nil (rk_seq (zs ?_))
   refine wl_r (o_loadag Tryz.isAgg37 Tryz.sizeOf37 rfl f (by rfl)) ?_
   refine wl_call rfl (C_CheckGood _ (by rfl) hO rfl) ?_
   rintro v19 w19 ⟨rfl, b19⟩
   have s19 := b19.size
   replace hw := hw.trans (b19.mono hw.size)
   replace f := f.u b19
   refine za rfl (wl_nil (zs (zm rfl ?_)))
   refine zp (o_ne rfl rfl) ?_
   refine wl_nil ?_
   refine rk_false rfl ?_
   refine rk_skip (rk_region (zm rfl ?_))
   refine wl_r (o_loadag Tryz.isAgg37 Tryz.sizeOf37 rfl f (by rfl)) ?_
   refine wl_call rfl (C_SizeOk _ (f17.u hw) (by rfl) hy (by omega) rfl (by omega)) ?_
   rintro v25 w25 ⟨rfl, b25⟩
   have s25 := b25.size
   replace hw := hw.trans (b25.mono hw.size)
   replace f := f.u b25
   refine zp (o_add rfl rfl (by omega) (by omega)) ?_
   refine za rfl (wl_nil ?_)
   refine rk_blk ?_
   refine rk_region ?_
   refine zp (o_add rfl rfl (by omega) (by omega)) ?_
   refine zm rfl (wl_nil ?_)
   exact rk_againf (Fr.le_of (by kernel_rfl) (by kernel_rfl) (by repeat' constructor)) ⟨i + 1, (i : Int) + 1, _, rfl, by omega, by omega, rfl, by omega, hw⟩ (by omega)
  ·refine zs ?_
   refine zp (o_lt rfl rfl) ?_
   refine wl_nil (rk_seq ?_)
   refine rk_if rfl (fun h15 => absurd h15 (by omega)) (fun h15 => ?_)
   refine rk_exit rfl ?_
   obtain rfl : i = R.length := by omega
   rw [List.take_length]
   exact rk_tof hj (Fr.le_of (by kernel_rfl) (by kernel_rfl) (by repeat' constructor)) ⟨rfl, hw⟩
 clear hw
 rintro fr W ⟨rfl, hw⟩
 have shw := hw.size
 first | refine zf ?_ | refine zg ?_
 refine rk_seq (zs (zm rfl (zm rfl ?_)))
 refine zp (o_nil rfl) ?_
 refine zp (o_faddr (s := 85) (i := 2) (off := 2) Tryz.underlying85 rfl Tryz.sizeOf3 rfl rfl rfl) ?_
 refine wl_r (o_loadbg Tryz.isAgg3 rfl (hB.u hw) (by rfl)) ?_
 refine wl_call rfl (C_jStart _ (by omega)) ?_
 rintro v33 w33 ⟨rfl, b33⟩
 have s33 := b33.size
 replace hw := hw.trans (b33.mono hw.size)
 refine zp (o_gt rfl rfl) ?_
 refine wl_nil ?_
 refine rk_if rfl (fun h34 => absurd h34 (by omega)) (fun h34 => ?_)
 refine rk_skip (zs (zm rfl (zm rfl ?_)))
 have s33 := hw.size
 refine wl_call rfl (K_jChange _ (hd.u hw) (hB.u hw) hch (hR.u hw) rfl hRo ha he he1 hu hb hnx hfit hsz hgd hn0 hZA hTW hhb h1 h3 h4 h5 h6) ?_
 rintro _ w37 ⟨rfl, L', c', q1, q2, q3, w1, q4, q5⟩
 have q6 := (Chg.of_below hw).trans q4
 have q7 := q2.base s33 (Nat.le_refl _)
 clear hw
 refine wl_nil (zs (za rfl (wl_nil ?_)))
 refine ret1 rfl rfl ?_
 exact ⟨rfl, _, _, q1, q7, q3, w1, q6, q5⟩
end Go.Proofs.YtnnhenafhalobaaGreat
namespace Go.Proofs.YtnnhenafhalobaaGreat
set_option maxRecDepth 100000
open Go.RowKit
theorem rk_joinkf {P : Program} {fn : Func} {F : Ending → World → Prop} {N : Nat} {k : K} {ks : List K} {fr : Fr} {w : World} (R : Fr → Fr → World → Prop) (h2 : ∀ fr' w, R fr fr' w → RK P fn F N ks fr' w) (h1 : ∀ ks, (∀ fr' w, R fr fr' w → RK P fn F N ks fr' w) → RK P fn F N (k :: ks) fr w) : RK P fn F N (k :: ks) fr w := h1 ks h2
def headOf (b0 b1 : By) : Option (Nat × Nat) :=
 if HeadOk b1 1 ∧ (¬HeadOk b0 0 ∨ headE b0 < headE b1) then some (headE b1, headA b1)
 else if HeadOk b0 0 then some (headE b0, headA b0) else none
theorem headOf_lt {b0 b1 : By} {e a : Nat} (h : headOf b0 b1 = some (e, a)) : e < 18446744073709551616 ∧ 1 ≤ a ∧ a ≤ 256 := by
 unfold headOf at h
 split at h
 ·rename_i h1
  injection h with h
  injection h with h2 h3
  exact ⟨h2 ▸ headE_lt _, h3 ▸ h1.1.2.1⟩
 ·split at h
  ·rename_i h1
   injection h with h
   injection h with h2 h3
   exact ⟨h2 ▸ headE_lt _, h3 ▸ h1.2.1⟩
  ·cases h
def fstB (n : Nat) : By := sumB [wB8 n]
def swS (S : List Sec) (C : List (Option Sec)) (a e1 : Nat) (b : By) : List Sec :=
 cur (cur S (wrs C (2 + e1 % 2 * a) (secsN a (overJ (List.replicate (a * 256) 0) 0 b)))) (wrs (List.replicate S.length none) (e1 % 2) (secsN 1 (headB e1 a)))
set_option maxRecDepth 100000 in
set_option maxHeartbeats 4000000 in
theorem K_jOpen {dl dh gd : Nat} {S : List Sec} {C : List (Option Sec)} {b0 b1 : By} (w : World) (hd : DkAt w dl dh gd S C) (h0 : rdD S C ((0 : Nat) : Int) = (b0, 0)) (h1 : rdD S C ((1 : Nat) : Int) = (b1, 0)) (l0 : b0.length = 256) (l1 : b1.length = 256) (hS : 2 ≤ S.length) :
  CallsR Tryz.prog 22 [.pointer (some ⟨gd, 0, none⟩)] w fun v w' => (v = .tuple #[.pointer none, .int .i64 4] ∧ Below w.heap.size w w' ∧ ∀ e a, headOf b0 b1 = some (e, a) → S.length < 2 + 2 * a) ∨ ∃ (e a e1 g : Nat) (L' : Option Addr) (c' : Nat) (R : List Rc) (b nx : By), headOf b0 b1 = some (e, a) ∧ 2 + 2 * a ≤ S.length ∧ (e + 1) % 18446744073709551616 = e1 ∧ allR (fstB e) (areaB (cur S C) (2 + e % 2 * a) a) = R ∧ bytesAll (fstB e1) R = b ∧ chainAll (fstB e1) R = nx ∧ v = .tuple #[.pointer (some ⟨g, 0, none⟩), .int .i64 0] ∧ Blk w' g 85 (jC (some ⟨g, 0, none⟩) (some ⟨gd, 0, none⟩) a e1 L' b.length c' b.length nx R.length R.length) ∧ OwnH w' w.heap.size w'.heap.size L' c' b ∧ DkAt w' dl dh gd (swS S C a e1 b) (List.replicate S.length none) ∧ Chg dl dh w w' ∧ w.heap.size ≤ g := by
 have hSl := hd.n2
 refine callsR Tryz.func22 rfl rfl (by kernel_rfl) rfl ?_
 have hw := Below.refl w.heap.size w
 refine zs (za rfl (za rfl (wl_nil (rk_seq (zs (zm rfl ?_))))))
 refine wl_call rfl (C_dSize _ hd) ?_
 rintro v15 w15 ⟨rfl, rfl⟩
 refine zp (o_eq rfl rfl) ?_
 refine wl_nil ?_
 refine rk_if rfl (fun h16 => absurd h16 (by omega)) (fun h16 => ?_)
 refine rk_skip (rk_seq (zs (zm rfl ?_)))
 refine wl_call rfl (C_dSize _ hd) ?_
 rintro v18 w18 ⟨rfl, rfl⟩
 refine zp (o_lt rfl rfl) ?_
 refine wl_nil ?_
 refine rk_if rfl (fun h19 => absurd h19 (by omega)) (fun h19 => ?_)
 refine rk_skip (zs (zm rfl ?_))
 obtain ⟨w, hww⟩ : ∃ w, w = w18 := ⟨_, rfl⟩
 subst hww
 refine wl_call rfl (K_readHead _ hd rfl (by decide) h0 l0) ?_
 rintro _ w22 ⟨x0, y0, rfl, hx0, q0⟩
 have sq0 := q0.size
 replace hw := hw.trans (q0.mono hw.size)
 refine zm rfl ?_
 refine zp (o_ext30 rfl) ?_
 refine zp (o_ext31 rfl) ?_
 refine zp (o_ext32 rfl) ?_
 refine za rfl (za rfl (za rfl (wl_nil (rk_seq (zs (zm rfl ?_))))))
 refine wl_call rfl (K_readHead _ (hd.u hw) rfl (by decide) h1 l1) ?_
 rintro _ w28 ⟨x1, y1, rfl, hx1, q1⟩
 have sq1 := q1.size
 replace hw := hw.trans (q1.mono hw.size)
 refine zm rfl ?_
 refine zp (o_ext30 rfl) ?_
 refine zp (o_ext31 rfl) ?_
 refine zp (o_ext32 rfl) ?_
 refine za rfl (za rfl (za rfl (wl_nil ?_)))
 refine rk_joinkf (fun fb fr W => ∃ (ev : Nat) (av : Int) (fd : Bool), fr = [(6, .bool fd), (5, .int .i64 av), (4, .int .u64 (ev : Int))] ++ fb.drop 18 ∧ fd = (headOf b0 b1).isSome ∧ (∀ e a, headOf b0 b1 = some (e, a) → ev = e ∧ av = a) ∧ Below w.heap.size w W) ?_ (fun ks hj => ?_)
 rotate_left
 ·by_cases k1 : HeadOk b1 1
  ·obtain ⟨rfl, rfl⟩ := hx1 k1
   rw [decide_eq_true k1]
   by_cases k0 : HeadOk b0 0
   ·obtain ⟨rfl, rfl⟩ := hx0 k0
    rw [decide_eq_true k0]
    by_cases hlt : headE b0 < headE b1
    ·have hh : headOf b0 b1 = some (headE b1, headA b1) := by unfold headOf; rw [if_pos ⟨k1, .inr hlt⟩]
     refine zs (zm rfl (zm rfl (zm rfl ?_)))
     refine zp (o_not rfl) ?_
     refine zm rfl (zm rfl (zm rfl ?_))
     refine zp (o_gt rfl rfl) ?_
     refine zp (o_pick_f rfl rfl) ?_
     refine zp (o_pick_t rfl rfl) ?_
     refine wl_nil ?_
     refine rk_if rfl (fun h41 => ?_) (fun h41 => h41.elim (by omega))
     refine rk_region (zm rfl (zm rfl (za rfl (za rfl (za rfl (wl_nil ?_))))))
     exact rk_tof hj (Fr.le_of (by kernel_rfl) (by kernel_rfl) (by repeat' constructor)) ⟨_, _, _, rfl, by rw [hh]; rfl, fun e a h => by rw [hh] at h; injection h with h; injection h with h2 h3; exact ⟨h2, by rw [h3]⟩, hw⟩
    ·have hh : headOf b0 b1 = some (headE b0, headA b0) := by unfold headOf; rw [if_neg (fun h => hlt (h.2.resolve_left (fun h => h k0))), if_pos k0]
     refine zs (zm rfl (zm rfl (zm rfl ?_)))
     refine zp (o_not rfl) ?_
     refine zm rfl (zm rfl (zm rfl ?_))
     refine zp (o_gt rfl rfl) ?_
     refine zp (o_pick_f rfl rfl) ?_
     refine zp (o_pick_t rfl rfl) ?_
     refine wl_nil ?_
     refine rk_if rfl (fun h41 => absurd h41 (by omega)) (fun h41 => ?_)
     refine rk_skip ?_
     exact rk_tof hj (Fr.le_of (by kernel_rfl) (by kernel_rfl) (by repeat' constructor)) ⟨_, _, _, rfl, by rw [hh]; rfl, fun e a h => by rw [hh] at h; injection h with h; injection h with h2 h3; exact ⟨h2, by rw [h3]⟩, hw⟩
   ·have hh : headOf b0 b1 = some (headE b1, headA b1) := by unfold headOf; rw [if_pos ⟨k1, .inl k0⟩]
    rw [decide_eq_false k0]
    refine zs (zm rfl (zm rfl (zm rfl ?_)))
    refine zp (o_not rfl) ?_
    refine zm rfl (wl_off (wl_off (wl_off ?_)))
    refine zp (o_pick_t rfl rfl) ?_
    refine zp (o_pick_t rfl rfl) ?_
    refine wl_nil ?_
    refine rk_true rfl ?_
    refine rk_region (zm rfl (zm rfl (za rfl (za rfl (za rfl (wl_nil ?_))))))
    exact rk_tof hj (Fr.le_of (by kernel_rfl) (by kernel_rfl) (by repeat' constructor)) ⟨_, _, _, rfl, by rw [hh]; rfl, fun e a h => by rw [hh] at h; injection h with h; injection h with h2 h3; exact ⟨h2, by rw [h3]⟩, hw⟩
  ·rw [decide_eq_false k1]
   by_cases k0 : HeadOk b0 0
   ·obtain ⟨rfl, rfl⟩ := hx0 k0
    rw [decide_eq_true k0]
    have hh : headOf b0 b1 = some (headE b0, headA b0) := by unfold headOf; rw [if_neg (fun h => k1 h.1), if_pos k0]
    refine zs (zm rfl (zm rfl (wl_off (wl_off (wl_off (wl_off (wl_off (wl_off (wl_off ?_)))))))))
    refine zp (o_pick_f rfl rfl) ?_
    refine wl_nil ?_
    refine rk_false rfl ?_
    refine rk_skip ?_
    exact rk_tof hj (Fr.le_of (by kernel_rfl) (by kernel_rfl) (by repeat' constructor)) ⟨_, _, _, rfl, by rw [hh]; rfl, fun e a h => by rw [hh] at h; injection h with h; injection h with h2 h3; exact ⟨h2, by rw [h3]⟩, hw⟩
   ·rw [decide_eq_false k0]
    have hh : headOf b0 b1 = none := by unfold headOf; rw [if_neg (fun h => k1 h.1), if_neg k0]
    refine zs (zm rfl (zm rfl (wl_off (wl_off (wl_off (wl_off (wl_off (wl_off (wl_off ?_)))))))))
    refine zp (o_pick_f rfl rfl) ?_
    refine wl_nil ?_
    refine rk_false rfl ?_
    refine rk_skip ?_
    exact rk_tof hj (Fr.le_of (by kernel_rfl) (by kernel_rfl) (by repeat' constructor)) ⟨_, _, _, rfl, by rw [hh]; rfl, fun e a h => (by rw [hh] at h; cases h), hw⟩
 clear hw
 rintro fr W ⟨ev, av, fd, rfl, hfd, hea, hw⟩
 have shw := hw.size
 first | refine zf ?_ | refine zg ?_
 cases hq : headOf b0 b1 with
 | none =>
  rw [hq] at hfd
  obtain rfl : fd = false := hfd
  refine rk_seq (zs (zm rfl ?_))
  refine zp (o_not rfl) ?_
  refine zm rfl (wl_off (wl_off (wl_off (wl_off (wl_off ?_)))))
  refine zp (o_pick_t rfl rfl) ?_
  refine wl_nil ?_
  refine rk_true rfl ?_
  refine zs (za rfl (za rfl (wl_nil ?_)))
  refine ret2 rfl rfl rfl ?_
  exact .inl ⟨rfl, hw, fun e a h => by cases h⟩
 | some q =>
  obtain ⟨e, a⟩ := q
  rw [hq] at hfd
  obtain rfl : fd = true := hfd
  obtain ⟨rfl, rfl⟩ := hea e a hq
  obtain ⟨he, ha⟩ := headOf_lt hq
  have ha2 : 1 ≤ (a : Int) ∧ (a : Int) ≤ 256 := by omega
  by_cases hsz : 2 + 2 * a ≤ S.length
  ·obtain ⟨n0, hn0⟩ : ∃ n0, 2 + ev % 2 * a = n0 := ⟨_, rfl⟩
   have hn0b : n0 ≤ 2 + a := by
    rw [← hn0]
    have := Nat.mul_le_mul_right a (show ev % 2 ≤ 1 by omega)
    omega
   obtain ⟨u, hu⟩ : ∃ u : D32, sumB [wB8 ev] = u.1 := ⟨⟨_, sumB_len _⟩, rfl⟩
   have hu32 := u.2
   obtain ⟨r, hr⟩ : ∃ r, areaB (cur S C) n0 a = r := ⟨_, rfl⟩
   have hrl : r.length = 256 * a := by rw [← hr]; exact areaB_len (by rw [cur_len]; omega)
   obtain ⟨R, hR⟩ : ∃ R, allR u.1 r = R := ⟨_, rfl⟩
   obtain ⟨nb, hnb⟩ : ∃ nb, (bytesAll u.1 R).length = nb := ⟨_, rfl⟩
   obtain ⟨nx, hnx⟩ : ∃ nx, chainAll u.1 R = nx := ⟨_, rfl⟩
   have hn32 : nx.length = 32 := by rw [← hnx]; exact chainAll_len hu32 _
   refine rk_seq (zs (zm rfl ?_))
   refine zp (o_not rfl) ?_
   refine zm rfl (zm rfl ?_)
   refine wl_call rfl (C_dSize _ (hd.u hw)) ?_
   rintro v48 w48 ⟨rfl, rfl⟩
   refine zm rfl ?_
   refine wl_call rfl (C_jSectorsY _ (by omega)) ?_
   rintro v50 w50 ⟨rfl, rfl⟩
   refine zp (o_lt rfl rfl) ?_
   refine zp (o_pick_f rfl rfl) ?_
   refine wl_nil ?_
   refine rk_if rfl (fun h52 => absurd h52 (by omega)) (fun h52 => ?_)
   refine rk_skip (zs (zm rfl (zm rfl (zm rfl ?_))))
   refine wl_call rfl (C_jMade _ rfl (by omega) hu) ?_
   rintro v56 w56 ⟨g56, ⟨rfl, ⟨f56, ⟨i56, b56⟩⟩⟩⟩
   have s56 := b56.size
   replace hw := hw.trans (b56.mono hw.size)
   refine za rfl (wl_nil (rk_seq ?_))
   refine rk_drawo (id := 12) (none) [0, 1, 2, 4, 0, 0, 0, 96, 0, 400, 520, 1024, 2048, 2048, 2048, 0, 40959, 114687, 262143] [0, 1, 3, 7, 0, 0, 0, 96, 0, 496, 1023, 2047, 4095, 4095, 4095, 0, 40959, 114687, 262143] 296576 33408 [0, 1, 2, 3, 4, 5, 6, 8] [(.p, 0), (.p, 1), (.p, 2), (.s, 3), (.p, 4), (.p, 5), (.p, 6), (.p, 8), (.f 383 296576 33408, 11)] (by kernel_rfl) (by kernel_rfl) (by kernel_rfl) (by kernel_rfl) (by kernel_rfl) ?_
   dsimp only [inOrder, nthOp]
   replace hw := hw.drew
   replace f56 := f56.d
   refine zm rfl ?_
   refine zp (o_nil rfl) ?_
   refine zp (o_faddr (s := 85) (i := 6) (off := 6) Tryz.underlying85 rfl Tryz.sizeOf64 rfl rfl rfl) ?_
   refine wl_s (fun _ hk => (o_ldJch rfl (f56.u (below_of_grown_none hk)) hu32)) ?_
   refine zm rfl (zm rfl (zm rfl (zm rfl ?_)))
   have hdhi := hd.hi
   have s56 := hw.size
   simp only [drew_size] at s56
   refine wl_conc [⟨7, [], [65], [], fun vs w' lo hi => vs = [.int .i64 (n0 : Int)]⟩, ⟨9, [], [67], [0], fun vs w' lo hi => ∃ (A67 : Option Addr) (c67 : Nat), vs = [.slice A67 r.length c67] ∧ OwnH w' lo hi A67 c67 r⟩, ⟨10, [(.p, 11), (.p, 12), (.p, 13), (.p, 14)], [71, 70, 69, 57, 68], [0, 1], fun vs w' lo hi => ∃ (A68 : Option Addr) (c68 : Nat) (u57 u68 : Value), vs = [.agg (B8 nx).toArray, .int .i64 (nb : Int), .slice A68 R.length c68, u57, u68] ∧ OwnRec w' lo hi A68 c68 R⟩, ⟨15, [], [13], [], fun vs w' lo hi => ∃ (g13 : Nat), vs = [.pointer (some ⟨g13, 0, none⟩)] ∧ Blk w' g13 64 (B8 nul32) ∧ lo ≤ g13 ∧ g13 < hi⟩] [0, 1, 2, 3] [0, 1, 2, 4, 0, 0, 0, 96, 0, 400, 520, 1024, 2048, 2048, 2048, 0, 40959, 114687, 262143] [0, 1, 3, 7, 0, 0, 0, 96, 0, 496, 1023, 2047, 4095, 4095, 4095, 0, 40959, 114687, 262143] [16, 17, 18] [(.p, 16), (.p, 17), (.l, 18)] (by kernel_rfl) (by kernel_rfl) (by kernel_rfl) (by kernel_rfl) ⟨fun _ _ _ _ _ h _ => h, fun _ _ _ _ _ h hb => by obtain ⟨A67, c67, e0, g0⟩ := h; exact ⟨A67, c67, e0, g0.u hb⟩, fun _ _ _ _ _ h hb => by obtain ⟨A68, c68, u57, u68, e0, g0⟩ := h; exact ⟨A68, c68, u57, u68, e0, g0.u hb⟩, fun _ _ _ _ _ h hb => by obtain ⟨g13, e0, g0, g1, g2⟩ := h; exact ⟨g13, e0, g0.u hb, g1, g2⟩, trivial⟩ ⟨?_, ?_, ?_, ?_, trivial⟩ ?_
   ·intro wI hbI fo T T2 n2
    intro hk
    dsimp only [Item.idx, inOrder, nthOp, List.map, List.zip_cons_cons, List.zip_nil_right, List.cons_append, List.nil_append]
    have shbI := hbI.size
    simp only [drew_size] at shbI
    replace hw := hw.trans (hbI.mono hw.size)
    replace f56 := f56.u hbI
    have hw1 := Below.refl wI.heap.size wI
    refine wl_call rfl (C_jFirstB _ rfl rfl hn0 (by omega) (by omega)) ?_ (hq := .inr fun _ _ h => grown_of_below h.2 _)
    rintro v65 w65 ⟨rfl, b65⟩
    have s65 := b65.size
    replace hw := hw.trans (b65.mono hw.size)
    replace hw1 := hw1.trans (b65.mono hw1.size)
    replace f56 := f56.u b65
    exact hk [_] _ rfl hw1
   ·intro wI hbI fo T T2 n2
    rintro _ lo0 hi0 ⟨rfl⟩ ql0 qm0 qh0 -
    try dsimp only at ql0 qm0 qh0 
    try simp only [drew_size] at ql0 qm0 qh0 
    intro hk
    dsimp only [Item.idx, inOrder, nthOp, List.map, List.zip_cons_cons, List.zip_nil_right, List.cons_append, List.nil_append]
    have shbI := hbI.size
    simp only [drew_size] at shbI
    replace hw := hw.trans (hbI.mono hw.size)
    replace f56 := f56.u hbI
    have hw1 := Below.refl wI.heap.size wI
    refine wl_call rfl (C_jRead _ (hd.u hw) rfl rfl hr (by omega)) ?_ (hq := .inr fun _ _ h => grown_of_below h.choose_spec.choose_spec.2.2 _)
    rintro v67 w67 ⟨A67, ⟨c67, ⟨rfl, ⟨f67, b67⟩⟩⟩⟩
    have qf67 := f67.cap
    have s67 := b67.size
    replace hw := hw.trans (b67.mono hw.size)
    replace hw1 := hw1.trans (b67.mono hw1.size)
    replace f56 := f56.u b67
    exact hk [_] _ ⟨_, _, rfl, f67⟩ hw1
   ·intro wI hbI fo T T2 n2
    rintro _ lo0 hi0 ⟨rfl⟩ ql0 qm0 qh0 -
    rintro _ lo1 hi1 ⟨A67, c67, rfl, f67⟩ ql1 qm1 qh1 ⟨qa1_0, -⟩
    try dsimp only at ql0 qm0 qh0  ql1 qm1 qh1 qa1_0
    try simp only [drew_size] at ql0 qm0 qh0  ql1 qm1 qh1 qa1_0
    intro hk
    dsimp only [Item.idx, inOrder, nthOp, List.map, List.zip_cons_cons, List.zip_nil_right, List.cons_append, List.nil_append]
    have shbI := hbI.size
    simp only [drew_size] at shbI
    replace hw := hw.trans (hbI.mono hw.size)
    replace f56 := f56.u hbI
    have hw1 := Below.refl wI.heap.size wI
    refine wl_call rfl (C_AllN _ hR hnb hnx f67.to_Rd rfl f67.cap hu32 (by omega)) ?_
    rintro v68 w68 ⟨A68, ⟨c68, ⟨rfl, ⟨f68, b68⟩⟩⟩⟩
    have qf68 := f68.cap
    have s68 := b68.size
    replace hw := hw.trans (b68.mono hw.size)
    replace hw1 := hw1.trans (b68.mono hw1.size)
    replace f56 := f56.u b68
    replace f67 := f67.u b68
    refine zm rfl ?_
    refine zp (o_ext30 rfl) ?_
    refine zp (o_ext31 rfl) ?_
    refine zp (o_ext32 rfl) ?_
    exact hk [_, _, _, _, _] _ ⟨_, _, _, _, rfl, f68⟩ hw1
   ·intro wI hbI fo T T2 n2
    intro hk
    dsimp only [Item.idx, inOrder, nthOp, List.map, List.zip_cons_cons, List.zip_nil_right, List.cons_append, List.nil_append]
    have shbI := hbI.size
    simp only [drew_size] at shbI
    replace hw := hw.trans (hbI.mono hw.size)
    replace f56 := f56.u hbI
    have hw1 := Below.refl wI.heap.size wI
    refine wl_allocB Tryz.underlying64 Tryz.zeroValue64 (by rfl) ?_
    rintro g13 w13 f13 b13 i13 i13_1
    have s13 := b13.size
    replace hw := hw.trans (b13.mono hw.size)
    replace hw1 := hw1.trans (b13.mono hw1.size)
    replace f56 := f56.u b13
    exact hk [_] _ ⟨_, rfl, f13, by omega, by omega⟩ hw1
   intro wE hbE
   rintro _ lo0 hi0 ⟨rfl⟩ ql0 qm0 qh0 -
   rintro _ lo1 hi1 ⟨A67, c67, rfl, f67⟩ ql1 qm1 qh1 ⟨qa1_0, -⟩
   rintro _ lo2 hi2 ⟨A68, c68, u57, u68, rfl, f68⟩ ql2 qm2 qh2 ⟨qa2_1, qa2_0, -⟩
   rintro _ lo3 hi3 ⟨g13, rfl, f13, f13_1, f13_2⟩ ql3 qm3 qh3 ⟨qa3_2, qa3_1, qa3_0, -⟩
   try dsimp only at ql0 qm0 qh0  ql1 qm1 qh1 qa1_0 ql2 qm2 qh2 qa2_0 qa2_1 ql3 qm3 qh3 qa3_0 qa3_1 qa3_2
   try simp only [drew_size] at ql0 qm0 qh0  ql1 qm1 qh1 qa1_0 ql2 qm2 qh2 qa2_0 qa2_1 ql3 qm3 qh3 qa3_0 qa3_1 qa3_2
   dsimp only [given, Item.idx, inOrder, nthOp, List.map, List.zip_cons_cons, List.zip_nil_right]
   have shbE := hbE.size
   simp only [drew_size] at shbE
   replace hw := hw.trans (hbE.mono hw.size)
   replace f56 := f56.u hbE
   have hcE : Chg lo1 hi1 wE wE := Chg.refl
   refine za rfl (za rfl ?_)
   refine wl_stBa Tryz.sizeOf64 rfl f13 rfl hn32 (by rfl) ?_
   rintro w_1 f g e
   have s := g.size
   replace hw := hw.trans (below_of_grownBy g.g hw.size (by omega))
   replace f56 := f56.y g (by decide)
   replace f68 := f68.y g (by decide)
   replace f67 := f67.k g.g (ap_some (by omega))
   clear f13
   refine wl_nild ?_
   refine zs (zm rfl (zm rfl ?_))
   have szE := hcE.size
   obtain ⟨e1, he1⟩ : ∃ e1, (ev + 1) % 18446744073709551616 = e1 := ⟨_, rfl⟩
   have hRo : ∀ x ∈ R, OkR x := by rw [← hR]; exact allR_ok
   have hfit : (bytesAll (fstB e1) R).length ≤ a * 256 := by
    have := allR_len (c := u.1) (b := r)
    rw [hR, bytesAll_sz] at this
    rw [bytesAll_sz]; omega
   have sw1 := hw.size
   have hdw := hd.u hw
   refine wl_call rfl (K_jChange (R := R) (u := ⟨fstB e1, sumB_len _⟩) _ hdw f56 hu32 f68.to_RRec rfl hRo ha he he1 rfl rfl rfl hfit hsz (by omega) rfl rfl rfl rfl rfl rfl rfl rfl rfl) ?_
   rintro _ w74 ⟨rfl, L', c', q1, q2, q3, w1, q4, q5⟩
   have q6 := ((Chg.of_below hw : Chg dl dh _ _).trans q4).andNew q5.g (fun j e => by injection e with e; omega)
   have q7 := q2.base sw1 (Nat.le_refl _)
   clear hw q5 q4
   refine wl_nil (zs (zm rfl (za rfl (za rfl (wl_nil ?_)))))
   refine ret2 rfl rfl rfl ?_
   refine .inr ⟨ev, a, e1, g56, L', c', R, _, _, rfl, hsz, he1, ?_, rfl, rfl, rfl, q1, q7, q3, q6, by omega⟩
   rw [← hR, ← hr, ← hu, ← hn0]
   rfl
  ·refine rk_seq ?_
   refine zs (zm rfl ?_)
   refine zp (o_not rfl) ?_
   refine zm rfl (zm rfl ?_)
   refine wl_call rfl (C_dSize _ (hd.u hw)) ?_
   rintro v48 w48 ⟨rfl, rfl⟩
   refine zm rfl ?_
   refine wl_call rfl (C_jSectorsY _ (by omega)) ?_
   rintro v50 w50 ⟨rfl, rfl⟩
   refine zp (o_lt rfl rfl) ?_
   refine zp (o_pick_f rfl rfl) ?_
   refine wl_nil ?_
   refine rk_if rfl (fun h52 => ?_) (fun h52 => h52.elim (by omega))
   refine zs (za rfl (za rfl (wl_nil ?_)))
   refine ret2 rfl rfl rfl ?_
   exact .inl ⟨rfl, hw, fun e1 a1 h => by injection h with h; injection h with h1 h2; omega⟩
theorem C_jOpenBad {dl dh gd : Nat} {S : List Sec} {C : List (Option Sec)} {b0 b1 : By} (w : World) (hd : DkAt w dl dh gd S C) (h0 : rdD S C ((0 : Nat) : Int) = (b0, 0)) (h1 : rdD S C ((1 : Nat) : Int) = (b1, 0)) (hno : ∀ e a, headOf b0 b1 = some (e, a) → S.length < 2 + 2 * a) (l0 : b0.length = 256) (l1 : b1.length = 256) (hS : 2 ≤ S.length) :
  CallsR Tryz.prog 22 [.pointer (some ⟨gd, 0, none⟩)] w fun v w' => v = .tuple #[.pointer none, .int .i64 4] ∧ Below w.heap.size w w' := by
 refine (K_jOpen w hd h0 h1 l0 l1 hS).mono ?_
 rintro v w' (⟨h, h2, _⟩ | ⟨e, a, _, _, _, _, _, _, _, h, h2, _⟩)
 ·exact ⟨h, h2⟩
 ·have := hno e a h; omega
theorem C_jOpenOk {dl dh gd e a e1 : Nat} {S S2 : List Sec} {C C1 : List (Option Sec)} {b0 b1 b nx : By} {R : List Rc} (w : World) (hd : DkAt w dl dh gd S C) (h0 : rdD S C ((0 : Nat) : Int) = (b0, 0)) (h1 : rdD S C ((1 : Nat) : Int) = (b1, 0)) (hh : headOf b0 b1 = some (e, a)) (he1 : (e + 1) % 18446744073709551616 = e1) (hR : allR (fstB e) (areaB (cur S C) (2 + e % 2 * a) a) = R) (hb : bytesAll (fstB e1) R = b) (hnx : chainAll (fstB e1) R = nx) (hS2 : swS S C a e1 b = S2) (hC1 : List.replicate S.length none = C1) (l0 : b0.length = 256) (l1 : b1.length = 256) (hS : 2 ≤ S.length) (hsz : 2 + 2 * a ≤ S.length) :
  CallsR Tryz.prog 22 [.pointer (some ⟨gd, 0, none⟩)] w fun v w' => ∃ (g : Nat) (L' : Option Addr) (c' : Nat), v = .tuple #[.pointer (some ⟨g, 0, none⟩), .int .i64 0] ∧ Blk w' g 85 (jC (some ⟨g, 0, none⟩) (some ⟨gd, 0, none⟩) a e1 L' b.length c' b.length nx R.length R.length) ∧ OwnH w' w.heap.size w'.heap.size L' c' b ∧ DkAt w' dl dh gd S2 C1 ∧ Chg dl dh w w' ∧ w.heap.size ≤ g := by
 refine (K_jOpen w hd h0 h1 l0 l1 hS).mono ?_
 rintro v w' (⟨_, _, h⟩ | ⟨e', a', e1', g, L', c', R', b', nx', k1, k2, k3, k4, k5, k6, k7, k8, k9, k10, k11, k12⟩)
 ·have := h e a hh; omega
 ·rw [hh] at k1
  injection k1 with k1
  injection k1 with k1 k1'
  subst k1; subst k1'
  obtain rfl := he1.symm.trans k3
  obtain rfl := hR.symm.trans k4
  obtain rfl := hb.symm.trans k5
  obtain rfl := hnx.symm.trans k6
  rw [hS2, hC1] at k10
  exact ⟨g, L', c', k7, k8, k9, k10, k11, k12⟩
end Go.Proofs.YtnnhenafhalobaaGreat
namespace Go.Proofs.YtnnhenafhalobaaGreat
set_option maxRecDepth 100000
open Go.RowKit
set_option maxRecDepth 100000 in
set_option maxHeartbeats 1000000 in
theorem K_jAppendBad {g n m : Nat} {e c : Nat} {a t k s : Int} {d L A : Option Addr} {ch p : By} {kd : UInt8} {x : Int} {nl : Nat} (w : World) (hB : Blk w g 85 (jC (some ⟨g, 0, none⟩) d a e L nl c t ch k s)) (hp : Rd w A p) (hkd : x = (kd.toNat : Int)) (hn : n = p.length) (hl : p.length ≤ 9000) (hch : ch.length = 32) (hO : ¬OkR (kd, p)) :
  CallsR Tryz.prog 15 [.pointer (some ⟨g, 0, none⟩), .agg #[.int .u8 x, .slice A n m]] w fun v w' => v = .int .i64 2 ∧ Below w.heap.size w w' := by
 subst hn
 refine callsR Tryz.func15 rfl rfl (by kernel_rfl) rfl ?_
 have hw := Below.refl w.heap.size w
 refine zs ?_
 refine wl_boxg [_, _] rfl (by rfl) ?_
 rintro g3 w3 f3 b3 i3 i3_1
 have s3 := b3.size
 replace hw := hw.trans (b3.mono hw.size)
 refine za rfl (wl_nil (rk_seq (zs (zm rfl ?_))))
 refine wl_call rfl (C_jValid _ (hB.u hw)) ?_
 rintro v15 w15 ⟨rfl, rfl⟩
 refine zp (o_not rfl) ?_
 refine wl_nil ?_
 refine rk_false rfl ?_
 refine rk_skip (rk_seq ?_)
 refine rk_drawo (id := 3) (none) [0, 1, 2, 4, 0, 24, 32, 64, 64, 64, 0, 1279, 3583, 8191] [0, 1, 3, 7, 0, 31, 63, 127, 127, 127, 0, 1279, 3583, 8191] 5152 1024 [0, 1, 2, 3, 4] [(.p, 0), (.p, 1), (.p, 2), (.s, 3), (.s, 4), (.f 31 5152 1024, 9)] (by kernel_rfl) (by kernel_rfl) (by kernel_rfl) (by kernel_rfl) (by kernel_rfl) ?_
 dsimp only [inOrder, nthOp]
 replace hw := hw.drew
 replace f3 := f3.d
 refine zm rfl ?_
 refine zp (o_nil rfl) ?_
 refine zp (o_faddr (s := 85) (i := 6) (off := 6) Tryz.underlying85 rfl Tryz.sizeOf64 rfl rfl rfl) ?_
 refine wl_s (fun _ hk => (o_ldJch rfl ((hB.u hw).u (below_of_grown_none hk)) hch)) ?_
 refine wl_s (fun _ hk => (o_loadag Tryz.isAgg37 Tryz.sizeOf37 rfl (f3.u (below_of_grown_none hk)) (by rfl))) ?_
 refine wl_conc [⟨5, [(.p, 6), (.p, 7), (.p, 8), (.p, 9)], [26, 25, 24, 17, 23], [], fun vs w' lo hi => ∃ (A24 : Option Addr) (n24 c24 : Nat) (y : By) (u17 u23 : Value), vs = [.int .i64 2, .agg (B8 y).toArray, .slice A24 n24 c24, u17, u23] ∧ y.length = 32⟩, ⟨10, [], [6], [], fun vs w' lo hi => ∃ (g6 : Nat), vs = [.pointer (some ⟨g6, 0, none⟩)] ∧ Blk w' g6 64 (B8 nul32) ∧ lo ≤ g6 ∧ g6 < hi⟩] [0, 1] [0, 1, 2, 4, 0, 24, 32, 64, 64, 64, 0, 1279, 3583, 8191] [0, 1, 3, 7, 0, 31, 63, 127, 127, 127, 0, 1279, 3583, 8191] [11, 12, 13] [(.p, 11), (.l, 12), (.p, 13)] (by kernel_rfl) (by kernel_rfl) (by kernel_rfl) (by kernel_rfl) ⟨fun _ _ _ _ _ h hb => by obtain ⟨A24, n24, c24, y, u17, u23, e0, g0⟩ := h; exact ⟨A24, n24, c24, y, u17, u23, e0, g0⟩, fun _ _ _ _ _ h hb => by obtain ⟨g6, e0, g0, g1, g2⟩ := h; exact ⟨g6, e0, g0.u hb, g1, g2⟩, trivial⟩ ⟨?_, ?_, trivial⟩ ?_
 ·intro wI hbI fo T T2 n2
  intro hk
  dsimp only [Item.idx, inOrder, nthOp, List.map, List.zip_cons_cons, List.zip_nil_right, List.cons_append, List.nil_append]
  have shbI := hbI.size
  simp only [drew_size] at shbI
  replace hw := hw.trans (hbI.mono hw.size)
  replace f3 := f3.u hbI
  have hw1 := Below.refl wI.heap.size wI
  refine wl_call rfl (C_RecBytesBad _ hkd (hp.u hw) (by omega) rfl (by omega) hch) ?_
  rintro v23 w23 ⟨A23, ⟨c23, ⟨e23, ⟨rfl, ⟨f23, ⟨e23_1, b23⟩⟩⟩⟩⟩⟩
  have qf23 := f23.cap
  have s23 := b23.size
  replace hw := hw.trans (b23.mono hw.size)
  replace hw1 := hw1.trans (b23.mono hw1.size)
  replace f3 := f3.u b23
  refine zm rfl ?_
  refine zp (o_ext30 rfl) ?_
  refine zp (o_ext31 rfl) ?_
  refine zp (o_ext32 rfl) ?_
  exact hk [_, _, _, _, _] _ ⟨_, _, _, _, _, _, rfl, by assumption⟩ hw1
 ·intro wI hbI fo T T2 n2
  intro hk
  dsimp only [Item.idx, inOrder, nthOp, List.map, List.zip_cons_cons, List.zip_nil_right, List.cons_append, List.nil_append]
  have shbI := hbI.size
  simp only [drew_size] at shbI
  replace hw := hw.trans (hbI.mono hw.size)
  replace f3 := f3.u hbI
  have hw1 := Below.refl wI.heap.size wI
  refine wl_allocB Tryz.underlying64 Tryz.zeroValue64 (by rfl) ?_
  rintro g6 w6 f6 b6 i6 i6_1
  have s6 := b6.size
  replace hw := hw.trans (b6.mono hw.size)
  replace hw1 := hw1.trans (b6.mono hw1.size)
  replace f3 := f3.u b6
  exact hk [_] _ ⟨_, rfl, f6, by omega, by omega⟩ hw1
 intro wE hbE
 rintro _ lo0 hi0 ⟨A24, n24, c24, y, u17, u23, rfl, f23⟩ ql0 qm0 qh0 -
 rintro _ lo1 hi1 ⟨g6, rfl, f6, f6_1, f6_2⟩ ql1 qm1 qh1 ⟨qa1_0, -⟩
 try dsimp only at ql0 qm0 qh0  ql1 qm1 qh1 qa1_0
 try simp only [drew_size] at ql0 qm0 qh0  ql1 qm1 qh1 qa1_0
 dsimp only [given, Item.idx, inOrder, nthOp, List.map, List.zip_cons_cons, List.zip_nil_right]
 have shbE := hbE.size
 simp only [drew_size] at shbE
 replace hw := hw.trans (hbE.mono hw.size)
 replace f3 := f3.u hbE
 refine za rfl ?_
 refine wl_stBa Tryz.sizeOf64 rfl f6 rfl f23 (by rfl) ?_
 rintro w_1 f g_1 e_1
 have s_1 := g_1.size
 replace hw := hw.trans (below_of_grownBy g_1.g hw.size (by omega))
 replace f3 := f3.k g_1.g (ap_some (by omega))
 clear f6
 refine za rfl ?_
 refine wl_nild ?_
 refine rk_seq (zs (zm rfl ?_))
 refine zp (o_ne rfl rfl) ?_
 refine wl_nil ?_
 refine rk_true rfl ?_
 refine zs (zm rfl (za rfl (wl_nil ?_)))
 refine ret1 rfl rfl ?_
 exact ⟨rfl, hw⟩
def fmS (S : List Sec) (C : List (Option Sec)) (a : Nat) : List Sec :=
 cur (cur S (wrs (wrs C 1 (secsN 1 (List.replicate 256 0))) 2 (secsN a (List.replicate (a * 256) 0)))) (wrs (List.replicate S.length none) 0 (secsN 1 (headB 0 a)))
def appC (S : List Sec) (C : List (Option Sec)) (a e n : Nat) (bs : By) : List (Option Sec) :=
 wrs C (2 + e % 2 * a + n / 256) (secsN ((n + bs.length - 1) / 256 - n / 256 + 1) (overJ (areaB (cur S C) (2 + e % 2 * a + n / 256) ((n + bs.length - 1) / 256 - n / 256 + 1)) (n - 256 * (n / 256)) bs))
structure JSt (w : World) (dl dh gd g : Nat) (L : Option Addr) (S : List Sec) (C : List (Option Sec)) (a e : Nat) (R : List Rc) (s : Nat) : Prop where
 ex : ∃ (lo hi c : Nat) (b ch : By), Blk w g 85 (jC (some ⟨g, 0, none⟩) (some ⟨gd, 0, none⟩) a e L b.length c b.length ch R.length s) ∧ OwnH w lo hi L c b ∧ bytesAll (fstB e) R = b ∧ chainAll (fstB e) R = ch ∧ dh ≤ lo ∧ lo ≤ hi ∧ hi ≤ w.heap.size
 dk : DkAt w dl dh gd S C
 ok : ∀ r ∈ R, OkR r
 fit : szR R ≤ a * 256
 ha : 1 ≤ a ∧ a ≤ 256
 he : e < 18446744073709551616
 hg : dh ≤ g
 hS : 2 + 2 * a ≤ S.length
section
variable {w w' : World} {dl dh gd g a e s lo hi : Nat} {L : Option Addr} {S : List Sec} {C : List (Option Sec)} {R : List Rc}
theorem JSt.u (h : JSt w dl dh gd g L S C a e R s) (hb : Below w.heap.size w w') : JSt w' dl dh gd g L S C a e R s := by
 obtain ⟨lo, hi, c, b, ch, h1, h2, h3, h4, h5, h6, h7⟩ := h.ex
 exact ⟨⟨lo, hi, c, b, ch, h1.u hb, h2.u hb, h3, h4, h5, h6, by have := hb.size; omega⟩, h.dk.u hb, h.ok, h.fit, h.ha, h.he, h.hg, h.hS⟩
theorem JSt.d (h : JSt w dl dh gd g L S C a e R s) : JSt w.drew dl dh gd g L S C a e R s := h.u (below_drew w)
theorem JSt.len (h : JSt w dl dh gd g L S C a e R s) : R.length ≤ 65536 := by
 have := bytesAll_ge (fstB e) R
 rw [bytesAll_sz] at this
 have := h.fit
 have := h.ha
 omega
theorem JSt.lt (h : JSt w dl dh gd g L S C a e R s) : g < w.heap.size := by
 obtain ⟨lo, hi, c, b, ch, h1, _⟩ := h.ex
 exact h1.lt
theorem JSt.row (h : JSt w dl dh gd g L S C a e R s) : ∀ k, blk L = some k → dh ≤ k ∧ k < w.heap.size := by
 obtain ⟨lo, hi, c, b, ch, h1, h2, h3, h4, h5, h6, h7⟩ := h.ex
 intro k hk
 have := RowH.lt h2 k hk
 omega
inductive JCh (dl dh g : Nat) (L : Option Addr) : World → World → Prop
 | refl (w : World) : JCh dl dh g L w w
 | chg {w w1 w2 : World} (h : JCh dl dh g L w w1) (k : Chg dl dh w1 w2) : JCh dl dh g L w w2
 | log {w w1 w2 : World} (h : JCh dl dh g L w w1) (k : Grew w1 w2 5 (blk L)) : JCh dl dh g L w w2
 | self {w w1 w2 : World} (h : JCh dl dh g L w w1) (k : Grew w1 w2 85 (some g)) : JCh dl dh g L w w2
theorem JCh.size (h : JCh dl dh g L w w') : w.heap.size ≤ w'.heap.size := by
 induction h with
 | refl => exact Nat.le_refl _
 | chg _ k ih => have := k.size; omega
 | log _ k ih => have := k.size; omega
 | self _ k ih => have := k.size; omega
theorem JCh.block {k : Nat} (h : JCh dl dh g L w w') (hk : k < w.heap.size) (h1 : k < dl ∨ dh ≤ k) (h2 : k ≠ g) (h3 : blk L ≠ some k) : w'.heap[k]? = w.heap[k]? := by
 induction h with
 | refl => rfl
 | chg h q ih => exact (q.block k (by have := h.size; omega) h1).trans ih
 | log h q ih => exact (q.g.block k (by have := h.size; omega) (fun e => h3 e.symm)).trans ih
 | self h q ih => exact (q.g.block k (by have := h.size; omega) (fun e => h2 (by injection e))).trans ih
theorem JCh.bel {B : Nat} (h : JCh dl dh g L w w') (hB : B ≤ w.heap.size) (h1 : B ≤ dl) (h2 : B ≤ g) (h3 : ∀ k, blk L = some k → B ≤ k) : Below B w w' := by
 induction h with
 | refl => exact Below.refl _ _
 | chg h k ih => exact ih.trans (k.below (by have := h.size; omega) h1)
 | log h k ih => exact ih.trans (k.below (by have := h.size; omega) h3)
 | self h k ih => exact ih.trans (k.below (by have := h.size; omega) (fun j e => by injection e with e; omega))
theorem JCh.own {B : Nat} (h : JCh dl dh g L w w') (hs : JSt w dl dh gd g L S C a e R s) (hB : B ≤ dl) : Below B w w' := by
 have h1 := hs.dk.g1
 have h2 := hs.dk.g2
 have h3 := hs.dk.hi
 have h4 := hs.hg
 exact h.bel (by omega) hB (by omega) (fun k hk => by have := hs.row k hk; omega)
end
theorem fst_len (e : Nat) : (fstB e).length = 32 := sumB_len _
theorem C_jsFormat {dl dh gd a : Nat} {S S1 : List Sec} {C C1 : List (Option Sec)} {z : Int} (w : World) (hd : DkAt w dl dh gd S C) (hz : z = a) (h1 : fmS S C a = S1) (h4 : List.replicate S.length none = C1) (ha : 1 ≤ a ∧ a ≤ 256) (hn : 2 + 2 * a ≤ S.length) :
  CallsR Tryz.prog 12 [.pointer (some ⟨gd, 0, none⟩), .int .i64 z] w fun v w' => ∃ g, v = .tuple #[.pointer (some ⟨g, 0, none⟩), .int .i64 0] ∧ JSt w' dl dh gd g none S1 C1 a 0 [] 0 ∧ w.heap.size ≤ g ∧ Chg dl dh w w' := by
 subst h1; subst h4
 have hdh := hd.hi
 refine (K_jFormat (u := ⟨fstB 0, sumB_len _⟩) w hd hz ha hn rfl rfl rfl rfl rfl rfl rfl rfl rfl rfl).mono ?_
 rintro v w' ⟨g, rfl, hB, hg, hD, hC⟩
 have hs := hC.size
 exact ⟨g, rfl, ⟨⟨w'.heap.size, w'.heap.size, 0, [], fstB 0, hB, OwnH.nil_, rfl, rfl, by omega, Nat.le_refl _, Nat.le_refl _⟩, hD, by simp, by simp [szR], ha, by decide, by omega, by rw [fmS, cur_len, cur_len]; exact hn⟩, hg, hC⟩
theorem K_jsAppend {dl dh gd g a e s n m : Nat} {L A : Option Addr} {S : List Sec} {C C1 : List (Option Sec)} {R : List Rc} {p bs : By} {kd : UInt8} {x : Int} (w : World) (h : JSt w dl dh gd g L S C a e R s) (hp : Rd w A p) (hkd : x = (kd.toNat : Int)) (hn : n = p.length) (hO : OkR (kd, p)) (hl : p.length ≤ 9000) (hbs : bytesR (chainAll (fstB e) R) (kd, p) = bs) (hC1 : appC S C a e (szR R) bs = C1) (hfit : szR R + bs.length ≤ a * 256) :
  CallsR Tryz.prog 15 [.pointer (some ⟨g, 0, none⟩), .agg #[.int .u8 x, .slice A n m]] w fun v w' => v = .int .i64 0 ∧ ∃ L', JSt w' dl dh gd g L' S C1 a e (R ++ [(kd, p)]) s ∧ JCh dl dh g L w w' ∧ (blk L' = blk L ∨ ∀ k, blk L' = some k → w.heap.size ≤ k) := by
 obtain ⟨lo, hi, c, b, ch, hB, hL, hb, hch, q1, q2, q3⟩ := h.ex
 have hcl : ch.length = 32 := by rw [← hch]; exact chainAll_len (fst_len e) _
 have hbl : b.length = szR R := by rw [← hb, bytesAll_sz]
 have hgl := h.hg
 have hRl := h.len
 have hdk := h.dk
 have hd1 := hdk.g1
 have hd2 := hdk.g2
 have hbs9 : 9 ≤ bs.length := by
  rw [← hbs, bytesR_len, bodyB, List.length_append, List.length_singleton]; omega
 rw [hch] at hbs
 subst hC1
 refine (K_jAppend (nx := nextB ch (kd, p)) (low := szR R / 256) (tt := szR R + bs.length - 1) (hgh := (szR R + bs.length - 1) / 256) (n0 := 2 + e % 2 * a) (M := (szR R + bs.length - 1) / 256 - szR R / 256 + 1) (r := szR R - 256 * (szR R / 256)) w h.dk hB hL hp hkd hn hl hcl hO hbs rfl h.ha h.he (by rw [hbl]; exact hfit) h.hS (.inr hgl) (.inr q1) ⟨q2, q3⟩ (by omega) (by rw [hbl]) (by rw [hbl]; omega) rfl rfl rfl rfl (by rw [hbl]) rfl).mono ?_
 rintro v w' ⟨rfl, L', c', hB2, hL2, k0, w1, w2, k1, k2, k3, k4⟩
 have e0 : (((R ++ [(kd, p)]).length : Nat) : Int) = (R.length : Int) + 1 := by simp
 have s1 := k2.size
 have s2 := k3.size
 have s3 := k4.size
 have hrL : ∀ k, blk L = some k → dh ≤ k := fun k hk => by have := RowH.lt hL k hk; omega
 have hD2 : DkAt w' dl dh gd S (appC S C a e (szR R) bs) := (k1.k k3.g (fun k hk => .inr (hrL k hk))).k k4.g (fun k hk => by injection hk with hk; omega)
 refine ⟨rfl, L', ⟨⟨lo, w'.heap.size, c', b ++ bs, nextB ch (kd, p), by rw [e0]; exact hB2, hL2, ?_, ?_, q1, by omega, Nat.le_refl _⟩, hD2, ?_, ?_, h.ha, h.he, h.hg, h.hS⟩, ((((JCh.refl w).chg k2).log k3).self k4), ?_⟩
 ·rw [bytesAll_append, hb, hch]
  simp [bytesAll, hbs]
 ·rw [chainAll_append, hch]
  rfl
 ·intro r hr
  rcases List.mem_append.1 hr with hr | hr
  ·exact h.ok r hr
  ·rw [List.mem_singleton] at hr; exact hr ▸ hO
 ·rw [← bytesAll_sz (fstB e), bytesAll_append, List.length_append, hb, hch, hbl]
  simpa [bytesAll, hbs] using hfit
 ·exact k0
theorem C_jsAppendFull {dl dh gd g a e s n m : Nat} {L A : Option Addr} {S : List Sec} {C : List (Option Sec)} {R : List Rc} {p : By} {kd : UInt8} {x : Int} (w : World) (h : JSt w dl dh gd g L S C a e R s) (hp : Rd w A p) (hkd : x = (kd.toNat : Int)) (hn : n = p.length) (hO : OkR (kd, p)) (hl : p.length ≤ 9000) (hfit : a * 256 < szR R + ((bodyB (kd, p)).length + 8)) :
  CallsR Tryz.prog 15 [.pointer (some ⟨g, 0, none⟩), .agg #[.int .u8 x, .slice A n m]] w fun v w' => v = .int .i64 7 ∧ Below w.heap.size w w' := by
 obtain ⟨lo, hi, c, b, ch, hB, hL, hb, hch, q1, q2, q3⟩ := h.ex
 have hbl : b.length = szR R := by rw [← hb, bytesAll_sz]
 exact K_jAppendFull (low := 0) (tt := 0) (hgh := 0) (n0 := 0) (M := 0) (r := 0) (TA := []) (TB := []) w h.dk hB hL hp hkd hn hl (by rw [← hch]; exact chainAll_len (fst_len e) _) hO rfl rfl h.ha h.he (by rw [hbl]; exact h.fit) (by rw [hbl, bytesR_len]; exact hfit) ⟨q2, q3⟩
theorem C_jsAppendBad {dl dh gd g a e s n m : Nat} {L A : Option Addr} {S : List Sec} {C : List (Option Sec)} {R : List Rc} {p : By} {kd : UInt8} {x : Int} (w : World) (h : JSt w dl dh gd g L S C a e R s) (hp : Rd w A p) (hkd : x = (kd.toNat : Int)) (hn : n = p.length) (hO : ¬OkR (kd, p)) (hl : p.length ≤ 9000) :
  CallsR Tryz.prog 15 [.pointer (some ⟨g, 0, none⟩), .agg #[.int .u8 x, .slice A n m]] w fun v w' => v = .int .i64 2 ∧ Below w.heap.size w w' := by
 obtain ⟨lo, hi, c, b, ch, hB, hL, hb, hch, q1, q2, q3⟩ := h.ex
 exact K_jAppendBad w hB hp hkd hn hl (by rw [← hch]; exact chainAll_len (fst_len e) _) hO
theorem C_jsLeft {dl dh gd g a e s : Nat} {L : Option Addr} {S : List Sec} {C : List (Option Sec)} {R : List Rc} {z : Nat} (w : World) (h : JSt w dl dh gd g L S C a e R s) (hz : a * 256 - szR R = z) :
  CallsR Tryz.prog 13 [.pointer (some ⟨g, 0, none⟩)] w fun v w' => v = .int .i64 (z : Int) ∧ Below w.heap.size w w' := by
 obtain ⟨lo, hi, c, b, ch, hB, hL, hb, hch, q1, q2, q3⟩ := h.ex
 have hbl : b.length = szR R := by rw [← hb, bytesAll_sz]
 have hf := h.fit
 have ha := h.ha
 exact C_jLeft w hB (by omega) (by omega) (by omega)
theorem C_jsEpoch {dl dh gd g a e s : Nat} {L : Option Addr} {S : List Sec} {C : List (Option Sec)} {R : List Rc} (w : World) (h : JSt w dl dh gd g L S C a e R s) :
  CallsR Tryz.prog 24 [.pointer (some ⟨g, 0, none⟩)] w fun v w' => v = .int .u64 (e : Int) ∧ Below w.heap.size w w' := by
 obtain ⟨lo, hi, c, b, ch, hB, hL, hb, hch, q1, q2, q3⟩ := h.ex
 exact C_jEpoch w hB
set_option maxRecDepth 100000 in
theorem K_jSync2 {dl dh gd g a e n c t k s : Nat} {S S0 : List Sec} {C C0 : List (Option Sec)} {L : Option Addr} {ch : By} (w : World) (hd : DkAt w dl dh gd S C) (hB : Blk w g 85 (jC (some ⟨g, 0, none⟩) (some ⟨gd, 0, none⟩) a e L n c t ch k s)) (hS0 : cur S C = S0) (hC0 : List.replicate S.length none = C0) (hch : ch.length = 32) (hgd : g < dl ∨ dh ≤ g) :
  CallsR Tryz.prog 26 [.pointer (some ⟨g, 0, none⟩)] w fun v w' => v = .int .i64 0 ∧ Blk w' g 85 (jC (some ⟨g, 0, none⟩) (some ⟨gd, 0, none⟩) a e L n c t ch k k) ∧ DkAt w' dl dh gd S0 C0 ∧ ∃ w1, Grew w w1 85 (some g) ∧ Chg dl dh w1 w' := by
 have hgw := hB.lt
 refine callsR Tryz.func26 rfl rfl (by kernel_rfl) rfl ?_
 have hcg : Chg 0 w.heap.size w w := Chg.refl
 refine zs (za rfl (wl_nil (rk_seq (zs (zm rfl ?_)))))
 refine wl_call rfl (C_jValid _ hB) ?_
 rintro v4 w4 ⟨rfl, rfl⟩
 refine zp (o_not rfl) ?_
 refine wl_nil ?_
 refine rk_false rfl ?_
 refine rk_skip (zs (zm rfl (zm rfl ?_)))
 refine zp (o_nil rfl) ?_
 refine zp (o_faddr (s := 85) (i := 7) (off := 38) Tryz.underlying85 rfl Tryz.sizeOf3 rfl rfl rfl) ?_
 refine wl_r (o_ldJk rfl hB hch) ?_
 refine zp (o_nil rfl) ?_
 refine zp (o_faddr (s := 85) (i := 8) (off := 39) Tryz.underlying85 rfl Tryz.sizeOf3 rfl rfl rfl) ?_
 refine wl_stJs rfl hB rfl hch ?_
 rintro w f g_1 e_1
 have s_1 := g_1.size
 replace hcg := hcg.trans (Chg.of_g1 g_1.g (by omega) (by omega))
 replace hd := hd.k g_1.g (ap_some (by omega))
 clear hB
 refine wl_nil ?_
 have k1 : Grew w4 w 85 (some g) := by assumption
 have k2 : ∀ W, Chg dl dh w W → ∃ w1, Grew w4 w1 85 (some g) ∧ Chg dl dh w1 W := fun W h => ⟨w, k1, h⟩
 clear hcg k1
 have hcg : Chg dl dh w w := Chg.refl
 refine zs (zm rfl ?_)
 refine zp (o_nil rfl) ?_
 refine zp (o_faddr (s := 85) (i := 1) (off := 1) Tryz.underlying85 rfl Tryz.sizeOf26 rfl rfl rfl) ?_
 refine wl_r (o_loadbg Tryz.isAgg26 rfl f (by rfl)) ?_
 refine wl_call rfl (C_dFlush _ hd hS0 hC0) ?_
 rintro v17 w17 ⟨rfl, ⟨f17, g17⟩⟩
 have s17 := g17.size
 replace hcg := hcg.trans (g17.wide (by omega) (by omega))
 replace f := f.c g17 (by omega)
 clear hd
 refine za rfl (wl_nil ?_)
 refine ret1 rfl rfl ?_
 exact ⟨rfl, f, f17, k2 _ hcg⟩
theorem C_jsSynced {dl dh gd g a e s : Nat} {L : Option Addr} {S : List Sec} {C : List (Option Sec)} {R : List Rc} (w : World) (h : JSt w dl dh gd g L S C a e R s) :
  CallsR Tryz.prog 25 [.pointer (some ⟨g, 0, none⟩)] w fun v w' => v = .int .i64 (s : Int) ∧ Below w.heap.size w w' := by
 obtain ⟨lo, hi, c, b, ch, hB, hL, hb, hch, q1, q2, q3⟩ := h.ex
 exact C_jSynced w hB (by rw [← hch]; exact chainAll_len (fst_len e) _)
theorem C_jsRecords {dl dh gd g a e s : Nat} {L : Option Addr} {S : List Sec} {C : List (Option Sec)} {R : List Rc} (w : World) (h : JSt w dl dh gd g L S C a e R s) :
  CallsR Tryz.prog 18 [.pointer (some ⟨g, 0, none⟩)] w fun v w' => ∃ A' c', v = .slice A' R.length c' ∧ OwnRecX (fun k => w.heap.size ≤ k) w' w.heap.size w'.heap.size A' c' R ∧ Below w.heap.size w w' := by
 obtain ⟨lo, hi, c, b, ch, hB, hL, hb, hch, q1, q2, q3⟩ := h.ex
 have hbl : b.length = szR R := by rw [← hb, bytesAll_sz]
 have hf := h.fit
 have ha := h.ha
 exact C_jRecords (u := ⟨fstB e, sumB_len _⟩) w hB hL hb (by rw [← hch]; exact chainAll_len (fst_len e) _) h.he rfl h.ok (by omega)
theorem K_jsSync {dl dh gd g a e s : Nat} {L : Option Addr} {S S0 : List Sec} {C C0 : List (Option Sec)} {R : List Rc} (w : World) (h : JSt w dl dh gd g L S C a e R s) (hS0 : cur S C = S0) (hC0 : List.replicate S.length none = C0) :
  CallsR Tryz.prog 26 [.pointer (some ⟨g, 0, none⟩)] w fun v w' => v = .int .i64 0 ∧ JSt w' dl dh gd g L S0 C0 a e R R.length ∧ JCh dl dh g L w w' := by
 obtain ⟨lo, hi, c, b, ch, hB, hL, hb, hch, q1, q2, q3⟩ := h.ex
 have hcl : ch.length = 32 := by rw [← hch]; exact chainAll_len (fst_len e) _
 have hS0l : S0.length = S.length := by rw [← hS0, cur_len]
 have hgl := h.hg
 refine (K_jSync2 w h.dk hB hS0 hC0 hcl (.inr hgl)).mono ?_
 rintro v w' ⟨rfl, hB2, hD2, w1, k1, k2⟩
 have s1 := k1.size
 have s2 := k2.size
 have hL1 : OwnH w1 lo hi L c b := RowH.y hL k1 (by decide)
 have hL2 : OwnH w' lo hi L c b := hL1.c k2 (.inr q1)
 exact ⟨rfl, ⟨⟨lo, hi, c, b, ch, hB2, hL2, hb, hch, q1, q2, by omega⟩, hD2, h.ok, h.fit, h.ha, h.he, h.hg, by rw [hS0l]; exact h.hS⟩, ((JCh.refl w).self k1).chg k2⟩
theorem K_jsSwitch {dl dh gd g a e s nr c0 e1 : Nat} {L A : Option Addr} {S S2 : List Sec} {C C1 : List (Option Sec)} {R R1 : List Rc} (w : World) (h : JSt w dl dh gd g L S C a e R s) (hR : RRec w A R1) (hnr : nr = R1.length) (hRo : ∀ r ∈ R1, OkR r) (hfit : szR R1 ≤ a * 256) (he1 : (e + 1) % 18446744073709551616 = e1) (hS2 : swS S C a e1 (bytesAll (fstB e1) R1) = S2) (hC1 : List.replicate S.length none = C1) :
  CallsR Tryz.prog 19 [.pointer (some ⟨g, 0, none⟩), .slice A nr c0] w fun v w' => v = .int .i64 0 ∧ ∃ L', JSt w' dl dh gd g L' S2 C1 a e1 R1 R1.length ∧ JCh dl dh g L w w' ∧ ∀ k, blk L' = some k → w.heap.size ≤ k := by
 obtain ⟨lo, hi, c, b, ch, hB, hL, hb, hch, q1, q2, q3⟩ := h.ex
 have hcl : ch.length = 32 := by rw [← hch]; exact chainAll_len (fst_len e) _
 have hdk := h.dk
 have hd1 := hdk.g1
 have hd2 := hdk.g2
 have hd3 := hdk.hi
 have hgl := h.hg
 have hgw := h.lt
 have hbl : (bytesAll (fstB e1) R1).length = szR R1 := bytesAll_sz _ _
 subst hS2; subst hC1
 refine (K_jSwitch (u := ⟨fstB e1, sumB_len _⟩) (R := R1) w h.dk hB hcl hR hnr hRo h.ha h.he he1 rfl rfl rfl (by rw [hbl]; exact hfit) h.hS (.inr hgl) rfl rfl rfl rfl rfl rfl rfl rfl rfl).mono ?_
 rintro v w' ⟨rfl, L', c', hB2, hL2, hD2, w1, k1, k2⟩
 have s1 := k1.size
 have s2 := k2.size
 have he1' : e1 < 18446744073709551616 := by omega
 subst hnr
 exact ⟨rfl, L', ⟨⟨_, _, c', _, _, hB2, hL2, rfl, rfl, by omega, by omega, Nat.le_refl _⟩, hD2, hRo, hfit, h.ha, he1', hgl, by rw [swS, cur_len, cur_len]; exact h.hS⟩, ((JCh.refl w).chg k1).self k2, fun k hk => (RowH.lt hL2 k hk).1⟩
theorem C_jsOpen {dl dh gd e a e1 : Nat} {S S2 : List Sec} {C C1 : List (Option Sec)} {b0 b1 : By} {R : List Rc} (w : World) (hd : DkAt w dl dh gd S C) (h0 : rdD S C ((0 : Nat) : Int) = (b0, 0)) (h1 : rdD S C ((1 : Nat) : Int) = (b1, 0)) (hh : headOf b0 b1 = some (e, a)) (he1 : (e + 1) % 18446744073709551616 = e1) (hR : allR (fstB e) (areaB (cur S C) (2 + e % 2 * a) a) = R) (hS2 : swS S C a e1 (bytesAll (fstB e1) R) = S2) (hC1 : List.replicate S.length none = C1) (l0 : b0.length = 256) (l1 : b1.length = 256) (hS : 2 ≤ S.length) (hsz : 2 + 2 * a ≤ S.length) :
  CallsR Tryz.prog 22 [.pointer (some ⟨gd, 0, none⟩)] w fun v w' => ∃ (g : Nat) (L' : Option Addr), v = .tuple #[.pointer (some ⟨g, 0, none⟩), .int .i64 0] ∧ JSt w' dl dh gd g L' S2 C1 a e1 R R.length ∧ w.heap.size ≤ g ∧ (∀ k, blk L' = some k → w.heap.size ≤ k) ∧ Chg dl dh w w' := by
 have hd3 := hd.hi
 have he1' : e1 < 18446744073709551616 := by omega
 have ha := (headOf_lt hh).2
 have hRo : ∀ x ∈ R, OkR x := by rw [← hR]; exact allR_ok
 have hn0b : 2 + e % 2 * a ≤ 2 + a := by
  have := Nat.mul_le_mul_right a (show e % 2 ≤ 1 by omega)
  omega
 have hfit : szR R ≤ a * 256 := by
  have h1 := allR_len (c := fstB e) (b := areaB (cur S C) (2 + e % 2 * a) a)
  rw [hR, bytesAll_sz, areaB_len (by rw [cur_len]; omega)] at h1
  omega
 refine (C_jOpenOk w hd h0 h1 hh he1 hR rfl rfl hS2 hC1 l0 l1 hS hsz).mono ?_
 rintro v w' ⟨g, L', c', rfl, hB2, hL2, hD2, k1, k2⟩
 have s1 := k1.size
 exact ⟨g, L', rfl, ⟨⟨_, _, c', _, _, hB2, hL2, rfl, rfl, hd3, s1, Nat.le_refl _⟩, hD2, hRo, hfit, ha, he1', by omega, by rw [← hS2, swS, cur_len, cur_len]; exact hsz⟩, k2, fun k hk => (RowH.lt hL2 k hk).1, k1⟩
end Go.Proofs.YtnnhenafhalobaaGreat
namespace Go.Proofs.YtnnhenafhalobaaGreat
set_option maxRecDepth 100000
open Go.RowKit
theorem headE_headB {e a : Nat} (h : e < 18446744073709551616) : headE (headB e a) = e := by
 unfold headE headB hd12
 rw [List.append_assoc, List.append_assoc, List.take_left' (wB8_len e), wB8, leVal_leB]
 exact Nat.mod_eq_of_lt h
theorem headA_headB {e a : Nat} (h : a < 4294967296) : headA (headB e a) = a := by
 unfold headA headB hd12
 rw [List.append_assoc, List.append_assoc, List.drop_left' (wB8_len e), List.take_left' (leB_length 4 a), leVal_leB]
 exact Nat.mod_eq_of_lt h
theorem headOk_headB {e a : Nat} (h : e < 18446744073709551616) (ha : 1 ≤ a ∧ a ≤ 256) : HeadOk (headB e a) (e % 2) := by
 unfold HeadOk
 rw [headE_headB h, headA_headB (by omega)]
 exact ⟨rfl, ha, rfl⟩
theorem headOk_zero (k : Nat) : ¬HeadOk (List.replicate 256 0) k := fun h => by
 have h1 : headA (List.replicate 256 0) = 0 := by
  unfold headA
  rw [List.drop_replicate, List.take_replicate]
  rfl
 have := h.2.1.1
 omega
theorem headOf_first {a : Nat} (ha : 1 ≤ a ∧ a ≤ 256) : headOf (headB 0 a) (List.replicate 256 0) = some (0, a) := by
 unfold headOf
 rw [if_neg (fun h => headOk_zero 1 h.1), if_pos (headOk_headB (by decide) ha), headE_headB (by decide), headA_headB (by omega)]
theorem rdD_of {S : List Sec} {C : List (Option Sec)} {i : Nat} {x : Sec} (h : (cur S C)[i]? = some x) (hc : C.length = S.length) : rdD S C (i : Int) = (x.1, 0) := by
 obtain ⟨h1, h2⟩ := List.getElem?_eq_some_iff.1 h
 rw [cur_len] at h1
 rw [rdD_cur h1 hc, h2]
section
variable {S : List Sec} {C : List (Option Sec)} {a e1 : Nat} {b bs : By}
theorem fmS_eq (hc : C.length = S.length) : fmS S C a = pts (pts (pts (cur S C) 1 (secsN 1 (List.replicate 256 0))) 2 (secsN a (List.replicate (a * 256) 0))) 0 (secsN 1 (headB 0 a)) := by
 unfold fmS
 rw [cur_wrs _ _ _ _ (by rw [List.length_replicate, cur_len]), cur_none, cur_wrs _ _ _ _ (by rw [wrs_len, hc]), cur_wrs _ _ _ _ hc]
theorem secsN_one {l : By} (h : l.length = 256) : secsN 1 l = [⟨l, h⟩] := by
 show [secOf (l.take 256)] = _
 rw [List.take_of_length_le (by omega)]
 congr 1
 exact Subtype.ext (secOf_val h)
theorem fmS_0 (hc : C.length = S.length) (hS : 2 + 2 * a ≤ S.length) : (cur (fmS S C a) (List.replicate S.length none))[0]? = some ⟨headB 0 a, headB_len 0 a⟩ := by
 rw [cur_none, fmS_eq hc, pts_get _ _ _ _ (by rw [pts_len, pts_len, cur_len, secsN_len]; omega), secsN_len, if_pos (by omega), secsN_one (headB_len 0 a)]
 rfl
theorem fmS_1 (hc : C.length = S.length) (hS : 2 + 2 * a ≤ S.length) : (cur (fmS S C a) (List.replicate S.length none))[1]? = some ⟨List.replicate 256 0, List.length_replicate⟩ := by
 rw [cur_none, fmS_eq hc, pts_get _ _ _ _ (by rw [pts_len, pts_len, cur_len, secsN_len]; omega), secsN_len, if_neg (by omega), pts_get _ _ _ _ (by rw [pts_len, cur_len, secsN_len]; omega), secsN_len, if_neg (by omega), pts_get _ _ _ _ (by rw [cur_len, secsN_len]; omega), secsN_len, if_pos (by omega), secsN_one List.length_replicate]
 rfl
theorem fmS_area (hc : C.length = S.length) (hS : 2 + 2 * a ≤ S.length) : areaB (cur (fmS S C a) (List.replicate S.length none)) 2 a = List.replicate (a * 256) 0 := by
 rw [cur_none, fmS_eq hc, areaB_out (by rw [pts_len, pts_len, cur_len, secsN_len]; omega) (.inr (by rw [secsN_len]; omega))]
 conv => lhs; arg 3; rw [← secsN_len a (List.replicate (a * 256) 0)]
 rw [areaB_pts (by rw [pts_len, cur_len, secsN_len]; omega), img_secsN _ _ (by rw [List.length_replicate]; omega)]
theorem mod_le (a e : Nat) : e % 2 * a ≤ a := by
 have := Nat.mul_le_mul_right a (show e % 2 ≤ 1 by omega)
 omega
theorem appC_len {e n : Nat} (hc : C.length = S.length) : (appC S C a e n bs).length = S.length := by rw [appC, wrs_len, hc]
theorem swS_len : (swS S C a e1 b).length = S.length := by rw [swS, cur_len, cur_len]
theorem fmS_len : (fmS S C a).length = S.length := by rw [fmS, cur_len, cur_len]
end
theorem allR_zero (c : By) (n : Nat) : allR c (List.replicate n 0) = [] := by
 have := (AllP.zeros (c := c) (R := []) n (by simp)).eq
 simpa [bytesAll] using this
end Go.Proofs.YtnnhenafhalobaaGreat
namespace Go.Proofs.YtnnhenafhalobaaGreat
set_option maxRecDepth 100000
open Go.RowKit
set_option maxRecDepth 100000 in
theorem C_lives09 (w : World) : CallsR Tryz.prog 7 [] w fun v w' => v = .bool true ∧ Below w.heap.size w w' := by
 obtain ⟨Z, hZ⟩ : ∃ Z : List Sec, List.replicate 6 z256 = Z := ⟨_, rfl⟩
 obtain ⟨Q, hQ⟩ : ∃ Q : List (Option Sec), List.replicate 6 none = Q := ⟨_, rfl⟩
 have hZl : Z.length = 6 := by rw [← hZ, List.length_replicate]
 have hQl : Q.length = 6 := by rw [← hQ, List.length_replicate]
 obtain ⟨S1, hS1⟩ : ∃ S1, fmS Z Q 2 = S1 := ⟨_, rfl⟩
 have hS1l : S1.length = 6 := by rw [← hS1, fmS_len, hZl]
 have hQ1 : List.replicate Z.length none = Q := by rw [hZl, hQ]
 obtain ⟨bs, hbs⟩ : ∃ bs, bytesR (chainAll (fstB 0) []) (1, [97, 98, 99]) = bs := ⟨_, rfl⟩
 have hbl : bs.length = 13 := by rw [← hbs, bytesR_len]; rfl
 obtain ⟨C2, hC2⟩ : ∃ C2, appC S1 Q 2 0 (szR []) bs = C2 := ⟨_, rfl⟩
 have hC2l : C2.length = 6 := by rw [← hC2, appC_len (by omega), hS1l]
 have hlf : 2 * 256 - szR ([] ++ [((1 : UInt8), ([97, 98, 99] : By))]) = 499 := rfl
 have hcr : crash S1 C2 [] = S1 := crash_nil _ _
 have hQ2 : List.replicate S1.length none = Q := by rw [hS1l, hQ]
 have hr0 : rdD S1 Q ((0 : Nat) : Int) = (headB 0 2, 0) := by
  have := fmS_0 (S := Z) (C := Q) (a := 2) (by omega) (by omega)
  rw [hS1, hQ1] at this
  exact rdD_of this (by omega)
 have hr1 : rdD S1 Q ((1 : Nat) : Int) = (List.replicate 256 0, 0) := by
  have := fmS_1 (S := Z) (C := Q) (a := 2) (by omega) (by omega)
  rw [hS1, hQ1] at this
  exact rdD_of this (by omega)
 have har : allR (fstB 0) (areaB (cur S1 Q) (2 + 0 % 2 * 2) 2) = [] := by
  have := fmS_area (S := Z) (C := Q) (a := 2) (by omega) (by omega)
  rw [hS1, hQ1] at this
  rw [show 2 + 0 % 2 * 2 = 2 from rfl, this, allR_zero]
 obtain ⟨S2, hS2⟩ : ∃ S2, swS S1 Q 2 1 (bytesAll (fstB 1) []) = S2 := ⟨_, rfl⟩
 refine callsR Tryz.func7 rfl rfl (by kernel_rfl) rfl ?_
 have hw := Below.refl w.heap.size w
 refine zs (za rfl (wl_nil (zs ?_)))
 refine wl_call rfl (C_dNewOk _ (by omega) hZ hQ (by omega) (by omega)) ?_
 rintro v5 w5 ⟨g5, ⟨rfl, ⟨f5, b5⟩⟩⟩
 have s5 := b5.size
 replace hw := hw.trans (b5.mono hw.size)
 refine zm rfl ?_
 refine zp (o_ext20 rfl) ?_
 refine zp (o_ext21 rfl) ?_
 refine za rfl (za rfl (wl_nil (rk_seq (zs (zm rfl ?_)))))
 refine zp (o_ne rfl rfl) ?_
 refine wl_nil ?_
 refine rk_false rfl ?_
 refine rk_skip (zs (zm rfl ?_))
 refine wl_call rfl (C_jsFormat _ f5 (by omega) hS1 hQ1 (by omega) (by omega)) ?_
 rintro v12 w12 ⟨g12, ⟨rfl, ⟨f12, ⟨i12, g12_1⟩⟩⟩⟩
 have s12 := g12_1.size
 replace hw := hw.trans (g12_1.below hw.size (by omega))
 clear f5
 refine zm rfl ?_
 refine zp (o_ext20 rfl) ?_
 refine zp (o_ext21 rfl) ?_
 refine za rfl (za rfl (wl_nil (rk_seq (zs (zm rfl ?_)))))
 refine zp (o_ne rfl rfl) ?_
 refine zm rfl (zm rfl ?_)
 refine zp (o_peq_nil (t := 31) Tryz.underlying31 rfl rfl) ?_
 refine zp (o_pick_f rfl rfl) ?_
 refine zm rfl (zm rfl ?_)
 refine wl_litC [97, 98, 99] Tryz.u8 Tryz.sizeOf5 Tryz.zeroValue5 (by rfl) rfl rfl (by rfl) (by rfl) (by rfl) ?_
 rintro A23 w23 f23 b23
 have s23 := b23.size
 replace hw := hw.trans (b23.mono hw.size)
 replace f12 := f12.u b23
 refine zp (o_buildg [_, _] Tryz.underlying37 Tryz.zeroValue37 (by rfl) (by rfl) rfl (by rfl) (by rfl) (fun _ => by kernel_rfl)) ?_
 refine wl_know 21 false rfl (by simp) ?_
 refine wl_call rfl (K_jsAppend (kd := 1) (p := [97, 98, 99]) _ f12 f23.to_Rd rfl rfl (by decide) (by decide) hbs hC2 (by rw [hbl]; decide)) ?_
 rintro _ w26 ⟨rfl, L', fJ, hJ, hL⟩
 have hw2 := hw.trans (hJ.own f12 (Nat.le_refl _))
 clear hw f12 f23
 have hw := hw2
 clear hw2 hJ
 refine zp (o_ne rfl rfl) ?_
 refine zp (o_pick_f rfl rfl) ?_
 refine zm rfl (zm rfl ?_)
 refine wl_call rfl (C_jsLeft _ fJ hlf) ?_
 rintro v31 w31 ⟨rfl, b31⟩
 have s31 := b31.size
 replace hw := hw.trans (b31.mono hw.size)
 replace fJ := fJ.u b31
 refine zp (o_ne rfl rfl) ?_
 refine zp (o_pick_f rfl rfl) ?_
 refine wl_nil ?_
 refine rk_false rfl ?_
 refine rk_skip (zs (zm rfl ?_))
 have hd := fJ.dk
 clear fJ
 refine wl_call rfl (C_dCrashNone _ hd hQ2) ?_
 rintro v35 w35 ⟨rfl, ⟨f35, g35⟩⟩
 have s35 := g35.size
 replace hw := hw.trans (g35.below hw.size (by omega))
 clear hd
 refine wl_nil (zs (zm rfl ?_))
 refine wl_call rfl (C_jsOpen (e := 0) (a := 2) (e1 := 1) (S := S1) (C := Q) _ (by assumption) hr0 hr1 (headOf_first (by decide)) rfl har hS2 hQ2 (headB_len _ _) List.length_replicate (by omega) (by omega)) ?_
 rintro _ w38 ⟨g38, L38, rfl, fJ, hg38, hL38, hcO⟩
 have hw2 := hw.trans (hcO.below hw.size (Nat.le_refl _))
 clear hw f35
 have hw := hw2
 clear hw2 hcO
 refine zm rfl ?_
 refine zp (o_ext20 rfl) ?_
 refine zp (o_ext21 rfl) ?_
 refine za rfl (za rfl (wl_nil (zs (zm rfl ?_))))
 refine zp (o_eq rfl rfl) ?_
 refine zm rfl (zm rfl ?_)
 refine zp (o_pne_nil (t := 31) Tryz.underlying31 rfl rfl) ?_
 refine zp (o_pick_t rfl rfl) ?_
 refine zm rfl (zm rfl ?_)
 refine wl_call rfl (C_jsRecords _ fJ) ?_
 rintro v49 w49 ⟨A49, ⟨c49, ⟨rfl, ⟨f49, b49⟩⟩⟩⟩
 have qf49 := f49.cap
 have s49 := b49.size
 replace hw := hw.trans (b49.mono hw.size)
 replace fJ := fJ.u b49
 refine zp (o_len (t := 44) Tryz.underlying44 rfl) ?_
 refine zp (o_eq rfl rfl) ?_
 refine zp (o_pick_t rfl rfl) ?_
 refine zm rfl (zm rfl ?_)
 refine wl_call rfl (C_jsEpoch _ fJ) ?_
 rintro v55 w55 ⟨rfl, b55⟩
 have s55 := b55.size
 replace hw := hw.trans (b55.mono hw.size)
 replace fJ := fJ.u b55
 replace f49 := f49.u b55
 refine zp (o_eq rfl rfl) ?_
 refine zp (o_pick_t rfl rfl) ?_
 refine za rfl (wl_nil ?_)
 refine ret1 rfl rfl ?_
 exact ⟨rfl, hw⟩
end Go.Proofs.YtnnhenafhalobaaGreat
namespace Go.Proofs.YtnnhenafhalobaaGreat
set_option maxRecDepth 100000
open Go.RowKit
abbrev JAct := Int × Rc × Int × List Bool
def gJAct : GoT JAct := (gInt .i64).pair (gRec.pair ((gInt .i64).pair (GoT.slice 4 gBool)))
theorem gJAct_R {w : World} {cs : List Value} {a : JAct} (h : gJAct.R w cs a) : ∃ A c K c2, cs = [.int .i64 a.1, .int .u8 (a.2.1.1.toNat : Int), .slice A a.2.1.2.length c, .int .i64 a.2.2.1, .slice K a.2.2.2.length c2] ∧ Rd w A a.2.1.2 ∧ a.2.1.2.length ≤ c ∧ c ≤ maxLen ∧ RdBo w 0 w.heap.size K a.2.2.2 ∧ a.2.2.2.length ≤ c2 ∧ c2 ≤ maxLen ∧ (Lit.int .i64 a.1).wf = true ∧ (Lit.int .i64 a.2.2.1).wf = true := by
 obtain ⟨c1, c2, rfl, ⟨rfl, w1⟩, c3, c4, rfl, h2, c5, c6, rfl, ⟨rfl, w2⟩, h5⟩ := h
 obtain ⟨A, c, rfl, k2, k3, k4⟩ := gRec_R h2
 obtain ⟨K, cc, rfl, h6, h7, h8⟩ := slice_RSl h5
 exact ⟨A, c, K, cc, rfl, k2, k3, k4, .of (rsl_bools h6), h7, h8, w1, w2⟩
theorem opens_JAct : Opens Tryz.prog 40 gJAct :=
 opens_struct Tryz.underlying40 (by kernel_rfl) (.more (opens_int Tryz.underlying3 (by kernel_rfl)) rfl (.more opens_Rec rfl (.more (opens_int Tryz.underlying3 (by kernel_rfl)) rfl
  (.one (opens_slice Tryz.underlying38 (by kernel_rfl) (by decide) (opens_bool Tryz.underlying4 (by kernel_rfl))) rfl))))
theorem arg_JActs {H : Type} {enc : TypeId × Value → H} {W : World} {base : Nat} {v : Value} {d : DataW H} {p : List MemPlace} (hok : Value.okWide Tryz.prog W .any base 22 v) (h : DataW.Trod enc Tryz.prog W 0 (fun _ => true) true 22 v d p) :
  ∃ (A : Option Addr) (c : Nat) (L : List JAct), v = .slice A L.length c ∧ RSl gJAct W A L ∧ L.length ≤ c ∧ c ≤ maxLen := by
 obtain ⟨L, h1⟩ := open_slc (X := GoT.slice 40 gJAct) (opens_slice Tryz.underlying22 (by kernel_rfl) (by decide) opens_JAct) Tryz.underlying22 hok h
 obtain ⟨A, c, e, h2, h3, h4⟩ := slice_RSl h1
 injection e with e
 exact ⟨A, c, L, e, h2, h3, h4⟩
def RJA (w : World) (A : Option Addr) (L : List JAct) : Prop := RSl gJAct w A L
section
variable {w w' : World} {A : Option Addr} {L : List JAct}
theorem RJA.u (h : RJA w A L) (hb : Below w.heap.size w w') : RJA w' A L := RSl.u h hb
theorem RJA.some_ (h : RJA w A L) (hl : 0 < L.length) : A = some (A.getD ⟨0, 0, none⟩) := RSl.some_ h (show 0 < 5 by decide) hl
theorem RJA.elem (h : RJA w A L) {i : Nat} (hi : i < L.length) : ∃ A1 c1 A2 c2, CellsAt w A (i * 5) [.int .i64 L[i].1, .int .u8 (L[i].2.1.1.toNat : Int), .slice A1 L[i].2.1.2.length c1, .int .i64 L[i].2.2.1, .slice A2 L[i].2.2.2.length c2] ∧ Rd w A1 L[i].2.1.2 ∧ L[i].2.1.2.length ≤ c1 ∧ c1 ≤ maxLen ∧ RdBo w 0 w.heap.size A2 L[i].2.2.2 ∧ L[i].2.2.2.length ≤ c2 ∧ c2 ≤ maxLen ∧
  (Lit.int .i64 L[i].1).wf = true ∧ (Lit.int .i64 L[i].2.2.1).wf = true := by
 obtain ⟨cs, h1, h2⟩ := RSl.elem h (show 0 < 5 by decide) hi
 obtain ⟨A1, c1, A2, c2, rfl, h3⟩ := gJAct_R h2
 exact ⟨A1, c1, A2, c2, h1, h3⟩
end
section
variable {fn : Func} {F : Ending → World → Prop} {N : Nat} {ks : List K} {ops : Array Oper} {tg : Tags} {l : List Oper} {fr : Fr} {w w0 : World} {ty : TypeId} {pos : String} {aft : Array Edge} {gd : Option (Nat × Bool)} {d j : Nat} {x : Operand} {A : Option Addr} {L : List JAct}
theorem wl_ldJKeep (hx : fr.ev x = some (.pointer (some (adr A (j * 5 + 4))))) (hr : RJA w0 A L) (hb : Below w0.heap.size w0 w) (hj : j < L.length)
  (hk : ∀ A1 c1, RdBo w0 0 w0.heap.size A1 L[j].2.2.2 → L[j].2.2.2.length ≤ c1 → c1 ≤ maxLen → WL Tryz.prog fn F N ks ops tg.tail l ((d, .slice A1 L[j].2.2.2.length c1) :: fr) w)
  (ht : tg.reads = true := by rfl) (hg : onG ops fr gd = true := by rfl) (hd : Nat.blt d N = true := by rfl) : WL Tryz.prog fn F N ks ops tg (⟨some d, .load 38 x, ty, pos, aft, gd⟩ :: l) fr w := by
 obtain ⟨A1, c1, A2, c2, h1, h2, h3, h4, h5, h6, h7, _⟩ := hr.elem hj
 exact wl_r (o_load (t := 38) Tryz.isAgg38 hx (h1.u hb 4 _ rfl)) (hk A2 c2 h5 h6 h7) ht hg hd
theorem wl_ldJData (hx : fr.ev x = some (.pointer (some (adr A (j * 5 + 1 + 1))))) (hr : RJA w0 A L) (hb : Below w0.heap.size w0 w) (hj : j < L.length)
  (hk : ∀ A1 c1, Rd w0 A1 L[j].2.1.2 → L[j].2.1.2.length ≤ c1 → c1 ≤ maxLen → WL Tryz.prog fn F N ks ops tg.tail l ((d, .slice A1 L[j].2.1.2.length c1) :: fr) w)
  (ht : tg.reads = true := by rfl) (hg : onG ops fr gd = true := by rfl) (hd : Nat.blt d N = true := by rfl) : WL Tryz.prog fn F N ks ops tg (⟨some d, .load 35 x, ty, pos, aft, gd⟩ :: l) fr w := by
 obtain ⟨A1, c1, A2, c2, h1, h2, h3, h4, h5, h6, h7, _⟩ := hr.elem hj
 exact wl_r (o_load (t := 35) Tryz.isAgg35 hx (h1.u hb 2 _ rfl)) (hk A1 c1 h2 h3 h4) ht hg hd
theorem wl_ldJAct (hx : fr.ev x = some (.pointer (some (adr A (j * 5))))) (hr : RJA w0 A L) (hb : Below w0.heap.size w0 w) (hj : j < L.length)
  (hk : ∀ A1 c1 A2 c2, Rd w0 A1 L[j].2.1.2 → L[j].2.1.2.length ≤ c1 → c1 ≤ maxLen → RdBo w0 0 w0.heap.size A2 L[j].2.2.2 → L[j].2.2.2.length ≤ c2 → c2 ≤ maxLen → (Lit.int .i64 L[j].1).wf = true → (Lit.int .i64 L[j].2.2.1).wf = true →
   WL Tryz.prog fn F N ks ops tg.tail l ((d, .agg #[.int .i64 L[j].1, .int .u8 (L[j].2.1.1.toNat : Int), .slice A1 L[j].2.1.2.length c1, .int .i64 L[j].2.2.1, .slice A2 L[j].2.2.2.length c2]) :: fr) w)
  (ht : tg.reads = true := by rfl) (hg : onG ops fr gd = true := by rfl) (hd : Nat.blt d N = true := by rfl) : WL Tryz.prog fn F N ks ops tg (⟨some d, .load 40 x, ty, pos, aft, gd⟩ :: l) fr w := by
 obtain ⟨A1, c1, A2, c2, h1, h2, h3, h4, h5, h6, h7, h8, h9⟩ := hr.elem hj
 refine wl_r (o_loadn (cs := [.int .i64 L[j].1, .int .u8 (L[j].2.1.1.toNat : Int), .slice A1 L[j].2.1.2.length c1, .int .i64 L[j].2.2.1, .slice A2 L[j].2.2.2.length c2]) Tryz.isAgg40 Tryz.sizeOf40 hx (fun i u hu => ?_)) (hk A1 c1 A2 c2 h2 h3 h4 h5 h6 h7 h8 h9) ht hg hd
 rw [adr_add]
 exact h1.u hb i u hu
end
def smallJ (L : List JAct) : Prop := L.length ≤ 40 ∧ ∀ a ∈ L, a.2.1.2.length ≤ 700 ∧ a.2.2.2.length ≤ 100
set_option maxRecDepth 100000 in
theorem C_small09 {A : Option Addr} {L : List JAct} {n c : Nat} (w : World) (hL : RJA w A L) (hn : n = L.length) (hm : n ≤ maxLen) :
  CallsR Tryz.prog 8 [.slice A n c] w fun v w' => ∃ b, v = .bool b ∧ (b = true ↔ smallJ L) ∧ Below w.heap.size w w' := by
 subst hn
 refine callsR Tryz.func8 rfl rfl (by kernel_rfl) rfl ?_
 have hw := Below.refl w.heap.size w
 refine zs (za rfl (wl_nil (rk_seq (zs (zm rfl ?_)))))
 refine zp (o_len (t := 22) Tryz.underlying22 rfl) ?_
 refine zp (o_gt rfl rfl) ?_
 refine wl_nil ?_
 refine rk_if rfl (fun h6 => ?_) (fun h6 => ?_)
 ·refine zs ?_
  refine za rfl (wl_nil ?_)
  refine ret1 rfl rfl ?_
  exact ⟨false, rfl, ⟨fun h => (by cases h), fun h => by have := h.1; omega⟩, hw⟩
 ·refine rk_skip ?_
  refine rk_seq (zs (za rfl (wl_nil (rk_block ?_))))
  refine rk_joinf (fun fb fr W => fr = [] ++ fb.drop 1 ∧ (∀ a ∈ L, a.2.1.2.length ≤ 700 ∧ a.2.2.2.length ≤ 100) ∧ Below w.heap.size w W) ?_ (fun ks hj => ?_)
  rotate_left
  ·refine rk_loopf (fun fb m fr W => ∃ (i : Nat) (v : Int), fr = [(3, .int .i64 v)] ++ fb.drop 1 ∧ v = i ∧ i ≤ L.length ∧ m = L.length - i ∧ (∀ a ∈ L.take i, a.2.1.2.length ≤ 700 ∧ a.2.2.2.length ≤ 100) ∧ Below w.heap.size w W) (n := L.length) (Fr.le_of (by kernel_rfl) (by kernel_rfl) (by repeat' constructor)) ⟨0, _, rfl, rfl, by omega, rfl, by simp, hw⟩ ?_
   clear hw
   rintro m fr W ⟨i, v, rfl, rfl, hi, rfl, hall, hw⟩
   have shw := hw.size
   by_cases hil : i < L.length
   ·by_cases hb : L[i].2.1.2.length ≤ 700 ∧ L[i].2.2.2.length ≤ 100
    ·first | refine zf ?_ | refine zg ?_
     refine rk_seq (zs (zm rfl (zm rfl ?_)))
     refine zp (o_len (t := 22) Tryz.underlying22 rfl) ?_
     refine zp (o_lt rfl rfl) ?_
     refine wl_nil ?_
     refine rk_if rfl (fun h10 => ?_) (fun h10 => h10.elim (by omega))
     refine rk_skip (rk_seq (rk_block (zs (zm rfl (zm rfl ?_)))))
     refine zp (o_iaddrA (i) Tryz.underlying22 Tryz.sizeOf40 rfl rfl rfl (hL.some_ (by omega)) (by omega)) ?_
     refine zp (o_faddrR rfl Tryz.underlying40 (by rfl) Tryz.sizeOf37 (by rfl) (by rfl)) ?_
     refine zp (o_faddrR rfl Tryz.underlying37 (by rfl) Tryz.sizeOf35 (by rfl) (by rfl)) ?_
     refine wl_ldJData rfl hL hw (by omega) ?_
     rintro A118 c118 f18 i18 i18_1
     refine zp (o_len (t := 35) Tryz.underlying35 rfl) ?_
     refine zp (o_gt rfl rfl) ?_
     refine zm rfl ?_
     refine wl_know 21 false rfl (decide_eq_false (by omega)) ?_
     refine zm rfl (zm rfl ?_)
     refine zp (o_iaddrA (i) Tryz.underlying22 Tryz.sizeOf40 rfl rfl rfl (hL.some_ (by omega)) (by omega)) ?_
     refine zp (o_faddrR rfl Tryz.underlying40 (by rfl) Tryz.sizeOf38 (by rfl) (by rfl)) ?_
     refine wl_ldJKeep rfl hL hw (by omega) ?_
     rintro A126 c126 f26 i26 i26_1
     refine zp (o_len (t := 38) Tryz.underlying38 rfl) ?_
     refine zp (o_gt rfl rfl) ?_
     refine zp (o_pick_f rfl rfl) ?_
     refine wl_nil ?_
     refine rk_if rfl (fun h29 => absurd h29 (by omega)) (fun h29 => ?_)
     refine rk_skip ?_
     refine rk_blk ?_
     refine rk_region (zm rfl ?_)
     refine zp (o_add rfl rfl (by omega) (by omega)) ?_
     refine za rfl (wl_nil ?_)
     refine rk_againf (Fr.le_of (by kernel_rfl) (by kernel_rfl) (by repeat' constructor)) ⟨i + 1, (i : Int) + 1, rfl, by omega, by omega, rfl, ?_, hw⟩ (by omega)
     rw [List.take_succ_eq_append_getElem hil]
     intro a ha
     rcases List.mem_append.1 ha with ha | ha
     ·exact hall a ha
     ·rw [List.mem_singleton] at ha; subst ha; exact hb
    ·have hno : ¬ smallJ L := fun h => hb (h.2 _ (List.getElem_mem hil))
     by_cases hb1 : L[i].2.1.2.length ≤ 700
     ·first | refine zf ?_ | refine zg ?_
      refine rk_seq (zs (zm rfl (zm rfl ?_)))
      refine zp (o_len (t := 22) Tryz.underlying22 rfl) ?_
      refine zp (o_lt rfl rfl) ?_
      refine wl_nil ?_
      refine rk_if rfl (fun h10 => ?_) (fun h10 => h10.elim (by omega))
      refine rk_skip (rk_seq (rk_block (zs (zm rfl (zm rfl ?_)))))
      refine zp (o_iaddrA (i) Tryz.underlying22 Tryz.sizeOf40 rfl rfl rfl (hL.some_ (by omega)) (by omega)) ?_
      refine zp (o_faddrR rfl Tryz.underlying40 (by rfl) Tryz.sizeOf37 (by rfl) (by rfl)) ?_
      refine zp (o_faddrR rfl Tryz.underlying37 (by rfl) Tryz.sizeOf35 (by rfl) (by rfl)) ?_
      refine wl_ldJData rfl hL hw (by omega) ?_
      rintro A118 c118 f18 i18 i18_1
      refine zp (o_len (t := 35) Tryz.underlying35 rfl) ?_
      refine zp (o_gt rfl rfl) ?_
      refine zm rfl ?_
      refine wl_know 21 false rfl (decide_eq_false (by omega)) ?_
      refine zm rfl (zm rfl ?_)
      refine zp (o_iaddrA (i) Tryz.underlying22 Tryz.sizeOf40 rfl rfl rfl (hL.some_ (by omega)) (by omega)) ?_
      refine zp (o_faddrR rfl Tryz.underlying40 (by rfl) Tryz.sizeOf38 (by rfl) (by rfl)) ?_
      refine wl_ldJKeep rfl hL hw (by omega) ?_
      rintro A126 c126 f26 i26 i26_1
      refine zp (o_len (t := 38) Tryz.underlying38 rfl) ?_
      refine zp (o_gt rfl rfl) ?_
      refine zp (o_pick_f rfl rfl) ?_
      refine wl_nil ?_
      refine rk_if rfl (fun h29 => ?_) (fun h29 => h29.elim (by omega))
      refine zs (za rfl (wl_nil ?_))
      refine ret1 rfl rfl ?_
      exact ⟨false, rfl, ⟨fun h => (by cases h), fun h => absurd h hno⟩, hw⟩
     ·first | refine zf ?_ | refine zg ?_
      refine rk_seq (zs (zm rfl (zm rfl ?_)))
      refine zp (o_len (t := 22) Tryz.underlying22 rfl) ?_
      refine zp (o_lt rfl rfl) ?_
      refine wl_nil ?_
      refine rk_if rfl (fun h10 => ?_) (fun h10 => h10.elim (by omega))
      refine rk_skip (rk_seq (rk_block (zs (zm rfl (zm rfl ?_)))))
      refine zp (o_iaddrA (i) Tryz.underlying22 Tryz.sizeOf40 rfl rfl rfl (hL.some_ (by omega)) (by omega)) ?_
      refine zp (o_faddrR rfl Tryz.underlying40 (by rfl) Tryz.sizeOf37 (by rfl) (by rfl)) ?_
      refine zp (o_faddrR rfl Tryz.underlying37 (by rfl) Tryz.sizeOf35 (by rfl) (by rfl)) ?_
      refine wl_ldJData rfl hL hw (by omega) ?_
      rintro A118 c118 f18 i18 i18_1
      refine zp (o_len (t := 35) Tryz.underlying35 rfl) ?_
      refine zp (o_gt rfl rfl) ?_
      refine zm rfl ?_
      refine wl_know 21 true rfl (decide_eq_true (by omega)) ?_
      refine wl_off (wl_off (wl_off (wl_off (wl_off (wl_off (wl_off ?_))))))
      refine zp (o_pick_t rfl rfl) ?_
      refine wl_nil ?_
      refine rk_true rfl ?_
      refine zs (za rfl (wl_nil ?_))
      refine ret1 rfl rfl ?_
      exact ⟨false, rfl, ⟨fun h => (by cases h), fun h => absurd h hno⟩, hw⟩
   ·first | refine zf ?_ | refine zg ?_
    refine rk_seq (zs (zm rfl (zm rfl ?_)))
    refine zp (o_len (t := 22) Tryz.underlying22 rfl) ?_
    refine zp (o_lt rfl rfl) ?_
    refine wl_nil ?_
    refine rk_if rfl (fun h10 => absurd h10 (by omega)) (fun h10 => ?_)
    refine rk_exit rfl ?_
    rw [List.take_of_length_le (by omega)] at hall
    exact rk_tof hj (Fr.le_of (by kernel_rfl) (by kernel_rfl) (by repeat' constructor)) ⟨rfl, hall, hw⟩
  clear hw
  rintro fr W ⟨rfl, hall, hw⟩
  first | refine zf ?_ | refine zg ?_
  refine zs (za rfl (wl_nil ?_))
  refine ret1 rfl rfl ?_
  exact ⟨true, rfl, ⟨fun _ => ⟨by omega, hall⟩, fun _ => rfl⟩, hw⟩
end Go.Proofs.YtnnhenafhalobaaGreat
namespace Go.Proofs.YtnnhenafhalobaaGreat
set_option maxRecDepth 100000
open Go.RowKit
end Go.Proofs.YtnnhenafhalobaaGreat
namespace Go.Proofs.YtnnhenafhalobaaGreat
set_option maxRecDepth 100000
open Go.RowKit
end Go.Proofs.YtnnhenafhalobaaGreat
