/-
  Rows of digests in the form that the recorder's search applies. No function of the program is named here.
-/
import Derived.Test.YtbncaabcddoicaaAuto
import Derived.Test.YtbncaabcddoicaaDig
import Derived.Test.YtbncaabcddoicaaGo
namespace Go.Proofs.Ytbncaabcddoicaa
open Go.RowKit
section
variable {w w' : World} {lo hi c n : Nat} {e' : TypeId} {A : Option Addr} {L : List Dg} {row : Option Nat}
theorem RD.u (h : RD w A L) (hb : Below w.heap.size w w') : RD w' A L := h.below hb
theorem RD.d (h : RD w A L) : RD w.drew A L := h
theorem RD.nil_ : RD w none [] := RD.nil w none
def OwnDH (w : World) (lo hi : Nat) (A : Option Addr) (c : Nat) (L : List Dg) : Prop := RowH w lo hi 50 32 A L.length c (cD L)
theorem OwnDH.u (h : OwnDH w lo hi A c L) (hb : Below w.heap.size w w') : OwnDH w' lo hi A c L := RowH.u h hb
theorem OwnDH.d (h : OwnDH w lo hi A c L) : OwnDH w.drew lo hi A c L := RowH.d h
theorem OwnDH.k (h : OwnDH w lo hi A c L) (hg : w.grownBy w' row) (ha : Ap row lo hi) : OwnDH w' lo hi A c L := RowH.k h hg ha
theorem OwnDH.y (h : OwnDH w lo hi A c L) (hg : Grew w w' e' row) (hne : e' ≠ 50) : OwnDH w' lo hi A c L := RowH.y h hg hne
theorem OwnDH.m {b : Nat} (h : OwnDH w lo hi A c L) (hg : GrewM w w' b) : OwnDH w' lo hi A c L := RowH.m h hg
theorem OwnDH.ap (h : OwnDH w lo hi A c L) {lo' hi' : Nat} (hd : hi ≤ lo' ∨ hi' ≤ lo) : Ap (blk A) lo' hi' := RowH.ap h hd
theorem OwnDH.cap (h : OwnDH w lo hi A c L) : L.length ≤ c := RowH.cap h
theorem OwnDH.to_RD (h : OwnDH w lo hi A c L) : RD w A L := RowH.rd h
theorem OwnDH.to_Reads (h : OwnDH w lo hi A c L) : Reads w 32 A L.length (cD L) := RowH.rd h
theorem RD.to_Reads (h : RD w A L) : Reads w 32 A L.length (cD L) := h
theorem OwnDH.to_OwnD (h : OwnDH w lo hi A c L) : OwnD w lo A c L := h.o
theorem OwnDH.base (h : OwnDH w lo hi A c L) {lo' hi' : Nat} (h1 : lo' ≤ lo) (h2 : hi ≤ hi') : OwnDH w lo' hi' A c L := RowH.base h h1 h2
theorem OwnDH.nil_ : OwnDH w lo hi none 0 [] := RowH.nil _ _ _ _ _
theorem OwnD.h_ (h : OwnD w lo A c L) : OwnDH w lo w.heap.size A c L := ⟨h, fun k hk => (OwnD.lt h k hk).2⟩
end
section
variable {fn : Func} {F : Ending → World → Prop} {N : Nat} {ks : List K} {ops : Array Oper} {tg : Tags} {l : List Oper} {fr : Fr} {w : World} {ty t t' : TypeId} {pos : String} {aft : Array Edge} {gd : Option (Nat × Bool)} {d g n c j q lo hi : Nat} {x y k : Operand} {A X : Option Addr}
--@ rule load r o_loadDR
--@ rule load r o_loadDg
theorem o_loadDg {q : Dg} (hx : fr.ev x = some (.pointer (some ⟨g, 0, none⟩))) (hB : Blk w g t' (B8 q.1)) : OpV Try.prog N fr w (.load 50 x) ty (vD q) w := o_loadDb hx hB rfl
theorem o_loadDR {L : List Dg} (hx : fr.ev x = some (.pointer (some (adr A (j * 32))))) (hr : RD w A L) (hj : j < L.length) : OpV Try.prog N fr w (.load 50 x) ty (vD L[j]) w := by
  obtain ⟨b, o, rfl, hc⟩ := hr.at_ (by intro e; rw [e] at hj; simp at hj)
  refine o_loadD hx (fun i u hu => ?_)
  have := hc j hj i u hu
  simp only [adr, Option.getD_some, add_plain] at this ⊢
  exact this
/-! Parts of slices: what is known of the part. -/
--@ rule slice l wl_slhiD
--@ rule slice l wl_slloD
theorem wl_slhiD {L : List Dg} {len cap : Nat} (hi : Nat) {kh : IntKind} {h : Int} (hx : fr.ev x = some (.slice A len cap)) (hz : fr.ev y = some (.int kh h)) (hr : RD w A L) (hlen : len = L.length) (hh : h = (hi : Int)) (h2 : hi ≤ len) (h3 : len ≤ cap)
    (hk : RD w A (L.take hi) → WL Try.prog fn F N ks ops tg.tail l ((d, .slice A hi cap) :: fr) w) (hg : onG ops fr gd = true := by rfl) (hd : Nat.blt d N = true := by rfl) :
    WL Try.prog fn F N ks ops tg (⟨some d, .slice 23 x none (some y) none, ty, pos, aft, gd⟩ :: l) fr w :=
  wl_p (fun _ => o_slice_hi Try.underlying23 Try.sizeOf50 hx hz hh (by omega)) (hk (hr.take (by omega))) hg hd
theorem wl_slloD {L : List Dg} {len cap : Nat} (lo : Nat) {kl : IntKind} {h : Int} (hx : fr.ev x = some (.slice A len cap)) (hz : fr.ev y = some (.int kl h)) (hr : RD w A L) (hlen : len = L.length) (hh : h = (lo : Int)) (h2 : lo ≤ len) (h3 : len ≤ cap)
    (hk : ∀ A', RD w A' (L.drop lo) → WL Try.prog fn F N ks ops tg.tail l ((d, .slice A' (len - lo) (cap - lo)) :: fr) w) (hg : onG ops fr gd = true := by rfl) (hd : Nat.blt d N = true := by rfl) :
    WL Try.prog fn F N ks ops tg (⟨some d, .slice 23 x (some y) none none, ty, pos, aft, gd⟩ :: l) fr w :=
  wl_p (fun _ => o_slice_lo (lo := lo) Try.underlying23 Try.sizeOf50 hx hz hh h2) (hk _ (hr.cut (by omega) (by omega))) hg hd
--@ rule append l wl_appDH0
theorem wl_appDH0 {M : List Dg} (hx : fr.ev x = some (.slice A 0 0)) (hown : OwnDH w lo hi A 0 []) (hy : fr.ev y = some (.slice X j q)) (hr : RD w X M) (hj : j = M.length) (hlen : M.length ≤ 4000000) (hB : lo ≤ w.heap.size)
    (h : ∀ A' c' w', OwnDH w' lo w'.heap.size A' c' M → Below w.heap.size w w' → WL Try.prog fn F N ks ops tg.tail l ((d, .slice A' M.length c') :: fr) w')
    (ht : tg.loud = true := by rfl) (hg : onG ops fr gd = true := by rfl) (hd : Nat.blt d N = true := by rfl) :
    WL Try.prog fn F N ks ops tg (⟨some d, .call { callee := .builtin .append, args := #[x, y], argTypes := #[23, 23] }, ty, pos, aft, gd⟩ :: l) fr w := by
  subst hj
  exact wl_appR0 Try.rowD hx hown hy hr (cD_oneCell M) (by simp only [maxLen]; omega) (by omega) hB h ht hg hd
--@ rule append l wl_appDH
theorem wl_appDH {L M : List Dg} (hx : fr.ev x = some (.slice A n c)) (hown : OwnDH w lo hi A c L) (hn : n = L.length) (hy : fr.ev y = some (.slice X j q)) (hr : RD w X M) (hj : j = M.length) (hlen : L.length + M.length ≤ 4000000) (hB : lo ≤ w.heap.size)
    (h : ∀ A' c' w', OwnDH w' lo w'.heap.size A' c' (L ++ M) → Grew w w' 50 (blk A) → Below lo w w' → (blk A' = blk A ∨ blk A' = some w.heap.size) → WL Try.prog fn F N ks ops tg.tail l ((d, .slice A' (L ++ M).length c') :: fr) w')
    (ht : tg.loud = true := by rfl) (hg : onG ops fr gd = true := by rfl) (hd : Nat.blt d N = true := by rfl) (hq : tg.calm = false ∨ blk A = none ∨ blk A = tg.row := by exact .inl rfl) :
    WL Try.prog fn F N ks ops tg (⟨some d, .call { callee := .builtin .append, args := #[x, y], argTypes := #[23, 23] }, ty, pos, aft, gd⟩ :: l) fr w :=
  wl_appD hx hn hown.o hy hj hr hlen hB (fun A' c' w' h1 h2 h3 h4 => h A' c' w' h1.h_ ⟨h2, RowH.ty hown⟩ h4 h3) ht hg hd hq
--@ rule buildSlice l wl_litDH
theorem wl_litDH {ps : Array (Nat × Operand)} {xs : List Operand} {vs : List Value} (L : List Dg) (hxs : ps.toList.map Prod.snd = xs) (hx : fr.evs xs = some vs) (hv : vs = L.map vD) (hn : L.length = n) (hps : ps = ((List.range' 0 n).zip xs).toArray) (hm : Nat.ble (n * 32) 1000000 = true)
    (hk : ∀ A w', OwnDH w' w.heap.size w'.heap.size A n L → Below w.heap.size w w' → WL Try.prog fn F N ks ops tg.tail l ((d, .slice A n n) :: fr) w')
    (ht : tg.loud = true := by rfl) (hg : onG ops fr gd = true := by rfl) (hd : Nat.blt d N = true := by rfl) : WL Try.prog fn F N ks ops tg (⟨some d, .buildSlice 23 n ps, ty, pos, aft, gd⟩ :: l) fr w := by
  subst hps; subst hv; subst hn
  exact wl_litD L L.length hx rfl hm (fun w' h1 h2 _ => hk _ w' (h1 _ (Nat.le_refl _)).h_ h2) ht hg hd
end
/-! Slices of digests as arguments. -/
def gDgs : GoT (List Dg) := GoT.slice 50 (gArr 32)
theorem cD_of_parts : ∀ (L : List Dg) (xs : List Value), xs.length = L.length * 32 → (∀ i (h : i < L.length), part xs 32 i = B8 L[i].1) → xs = cD L
  | [], xs, hl, _ => List.eq_nil_of_length_eq_zero (by simpa using hl)
  | d :: L, xs, hl, h => by
    have h0 := h 0 (by simp)
    have hd : xs.drop 32 = cD L := cD_of_parts L (xs.drop 32) (by rw [List.length_drop, hl, List.length_cons]; omega) (fun i hi => by
      have := h (i + 1) (by simp; omega)
      simp only [List.getElem_cons_succ] at this
      rw [← this]
      unfold part
      rw [List.drop_drop]
      congr 2
      omega)
    rw [cD_cons, ← hd, show B8 d.1 = xs.take 32 by rw [← show part xs 32 0 = B8 d.1 from h0]; simp [part], List.take_append_drop]
theorem gDgs_open {w : World} {cs : List Value} {L : List Dg} (h : gDgs.R w cs L) : ∃ A c, cs = [.slice A L.length c] ∧ RD w A L ∧ L.length ≤ c := by
  obtain ⟨A, c, xs, rfl, h1, _, h3, h4⟩ := h
  have e := cD_of_parts L xs h3.1 h4
  subst e
  exact ⟨A, c, rfl, h3, h1⟩
theorem opens_Digest : Opens Try.prog 50 (gArr 32) := opens_arr8 Try.underlying50 Try.underlying5 (by kernel_rfl) (by kernel_rfl)
theorem opens_Digests : Opens Try.prog 23 gDgs := opens_slice Try.underlying23 (by kernel_rfl) (by decide) opens_Digest
end Go.Proofs.Ytbncaabcddoicaa
