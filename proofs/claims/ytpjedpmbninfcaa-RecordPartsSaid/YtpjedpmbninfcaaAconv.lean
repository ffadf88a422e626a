/-
  Literals of bytes that were strings. No function of the program is named here.
-/
import Derived.Test.YtpjedpmbninfcaaGo
import Derived.Lib.SlBytesConst
namespace Go.Proofs.Ytpjedpmbninfcaa
open Go.RowKit
section
variable {P : Program} {fn : Func} {F : Ending → World → Prop} {N : Nat} {ks : List K} {ops : Array Oper} {tg : Tags} {l : List Oper} {fr : Fr} {w : World} {ty ty2 t : TypeId} {pos pos2 : String} {aft aft2 : Array Edge} {gd gd2 : Option (Nat × Bool)} {d d2 n : Nat}
theorem rdT_mark (w : World) (bs : List UInt8) (fr : Nat × Nat) : RdT (w.alloc (.cells (B8 bs).toArray 5 fr)) (some ⟨w.heap.size, 0, none⟩) bs := by
  refine ⟨⟨by simp [B8_length], fun _ => ⟨w.heap.size, 0, rfl, fun j v hj => ?_⟩⟩, fun k hk => ?_⟩
  · rw [Nat.zero_add, World.cell?_alloc_mark]
    simpa using hj
  · obtain rfl : w.heap.size = k := by simpa [blk] using hk
    exact ⟨(B8 bs).toArray, fr, by show (w.heap.push _)[w.heap.size]? = _; simp⟩
--@ rule buildSlice l wl_litC
theorem wl_litC {ps : Array (Nat × Operand)} {xs : List Operand} {vs : List Value} (bs : List UInt8) (T : U8 P t) (hs : ∀ w, (sizeOf 5).run P w = .ok 1 w) (hz : ∀ w, (zeroValue 5).run P w = .ok (.int .u8 0) w) (hxs : ps.toList.map Prod.snd = xs) (hx : fr.evs xs = some vs) (hv : vs = B8 bs) (hn : bs.length = n) (hps : ps = ((List.range' 0 n).zip xs).toArray) (hm : Nat.ble bs.length 1000000 = true)
    (hk : ∀ A w', RdT w' A bs → Below w.heap.size w w' → WL P fn F N ks ops tg.tail.tail l ((d2, .slice A n n) :: (d, .slice A n n) :: fr) w')
    (ht : tg.loud = true := by rfl) (ht2 : tg.tail.loud = true := by rfl) (hg : onG ops fr gd = true := by rfl) (hg2 : ∀ u, onG ops ((d, u) :: fr) gd2 = true := by intro _; rfl) (hd : Nat.blt d N = true := by rfl) (hd2 : Nat.blt d2 N = true := by rfl) (hq : tg.tail.calm = false := by rfl) :
    WL P fn F N ks ops tg (⟨some d, .buildSlice t n ps, ty, pos, aft, gd⟩ :: ⟨some d2, .convert t t (.tmp d), ty2, pos2, aft2, gd2⟩ :: l) fr w := by
  subst hps; subst hv; subst hn
  have hm' : bs.length ≤ 1000000 := by simpa using hm
  have hr := run_lit (P := P) (w := w) T.ht hs hz rfl (B8 bs) (B8_oneCell _) (by rw [B8_length]; omega)
  rw [B8_length] at hr
  refine wl_v (o_lit hx hr) ?_ ht hg hd (.inr (grown_of_below (below_alloc w _) _))
  have hv : Fr.ev ((d, .slice (some ⟨w.heap.size, 0, none⟩) bs.length bs.length) :: fr) (.tmp d) = some (.slice (some ⟨w.heap.size, 0, none⟩) bs.length bs.length) := by simp [Fr.ev, Fr.get]
  refine wl_v (w' := w.alloc (.cells (B8 bs).toArray 5 ((B8 bs).toArray.size, (B8 bs).toArray.size + 1))) (fun a ha o ho _ => ?_) (hk _ _ (rdT_mark w bs _) (below_alloc w _)) ht2 (hg2 _) hd2 (.inl hq)
  have := Lib.run_convert_bytes_const (P := P) w t 5 (B8 bs).toArray bs.length bs.length T.ht T.hu
  simp [execOp, ho, ha.ev hv, this]
end
end Go.Proofs.Ytpjedpmbninfcaa
