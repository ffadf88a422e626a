/-
  From a walk to a law's statement: the law returns true, nothing that was there has changed.
-/
import Derived.Test.YtpjedpmbninfcaaOps3
import Derived.ProofKit
import Derived.OpenShut
import Derived.ChangeSame
import Derived.SizedLaws
namespace Go.Proofs.Ytpjedpmbninfcaa
open Go.ChangeShapes Go.WideShapes Go.ChangeAt Go.RowKit

theorem Try.own : ownKnob Try.prog.godebug = none := by kernel_rfl
theorem Try.laidOut : laidOutB Try.prog = true := by kernel_rfl

section
variable {H : Type} {enc : TypeId × Value → H} {P : Program}
theorem trodAll_stays (hl : laidOutB P = true) {W W' : World} (hb : Below W.heap.size W W') : ∀ (ts : List TypeId) (vs : List Value) (ds : List (DataW H)) (ps : List MemPlace),
    ts.all (fun t => P.readableRec t && decide (t < P.types.size)) = true → DataW.TrodAll enc P W 0 (fun _ => true) true ts vs ds ps → (∀ x ∈ ps, x.block < W.heap.size) → ∀ sp : Nat → Bool, (∀ x ∈ ps, sp x.block = true) →
    DataW.TrodAll enc P W' 0 sp true ts vs ds ps
  | [], [], [], _, _, h, _, _, _ => h
  | t :: ts, v :: vs, d :: ds, ps, hr, h, hlt, sp, hsp => by
    obtain ⟨p, q, h1, h2, rfl⟩ := h
    simp only [List.all_cons, Bool.and_eq_true, decide_eq_true_eq] at hr
    refine ⟨p, q, WideElems.Trod_stays hl hr.1.1 hr.1.2 h1 (fun x hx => hb.same (hlt x (by simp [hx]))) (fun x hx => hsp x (by simp [hx])), ?_, rfl⟩
    exact trodAll_stays hl hb ts vs ds q hr.2 h2 (fun x hx => hlt x (by simp [hx])) sp (fun x hx => hsp x (by simp [hx]))
  | [], [], _ :: _, _, _, h, _, _, _ => h.elim
  | [], _ :: _, _, _, _, h, _, _, _ => h.elim
  | _ :: _, [], _, _, _, h, _, _, _ => h.elim
  | _ :: _, _ :: _, [], _, _, h, _, _, _ => h.elim

theorem post_of_below {f : Func} {s : ChangeSpec} {apart fresh handsOn again : Bool} {W W' : World} {args : Array Value} {v : Value} {ds gs : List (DataW H)} {before pa pv : List MemPlace}
    (hW : DataW.Whole enc P f.params.toList s.vars apart W args.toList ds gs before)
    (hres : ∀ (b : Nat) (sp : Nat → Bool) (hd : Bool), DataW.TrodAll enc P W' b sp hd f.resultTypes.toList (v.resultList f.resultTypes.size) (s.fn H (ds ++ gs)).results [])
    (hargs : ∀ sp : Nat → Bool, (∀ p ∈ before, sp p.block = true) → DataW.TrodAll enc P W' 0 sp true f.params.toList args.toList (s.fn H (ds ++ gs)).args pa)
    (hvars : ∀ sp : Nat → Bool, (∀ p ∈ before, sp p.block = true) → DataW.TrodVars enc P W' sp s.vars (s.fn H (ds ++ gs)).vars pv)
    (hps : before = pa ++ pv) (hb : Below W.heap.size W W')
    (hok : ∀ (j : Nat) (t : TypeId) (r : Value), f.resultTypes[j]? = some t → (v.resultList f.resultTypes.size)[j]? = some r → Value.okWide P W' .any 0 t r) :
    s.post enc P f apart fresh handsOn again W args v W' := by
  have hlt : ∀ p ∈ before, p.block < W.heap.size := fun p hp => hW.lt p hp
  have hold : ∀ p ∈ before, (fun b => decide (b < W.heap.size)) p.block = true := fun p hp => by simpa using hlt p hp
  refine ⟨ds, gs, before, [], pa, pv, hW, hres _ _ _, hargs _ hold, hvars _ hold, World.keptBut_mono (fun p hp => ⟨hp, ?_⟩) (hb.frame (· ∈ before)), fun _ => ?_⟩
  · rw [hps, List.mem_append] at hp
    exact Or.inr hp
  · obtain ⟨_, _, _, _, _, hz, hn⟩ := hW
    refine ⟨hok, _, _, ([] ++ pa) ++ pv, ⟨[] ++ pa, pv, trodAll_append (hargs _ (fun _ _ => rfl)) (hres _ _ _), hvars _ (fun _ _ => rfl), rfl, ?_, ?_⟩, ?_⟩
    · intro b off hp
      have hin : MemPlace.cell b off ∈ before := by rw [hps]; simpa using hp
      rw [hb.frozen (hlt _ hin)]
      exact hz b off hin
    · intro ha
      have := hn ha
      rw [hps] at this
      simpa using this
    · intro p hp _
      rw [hps]
      simpa using hp

/-- A law's end: true is returned, the arguments read as they read. -/
theorem law_post (hl : laidOutB P = true) {f : Func} {s : ChangeSpec} {handsOn again : Bool} {W W' : World} {args : Array Value} {ds : List (DataW H)} {p : List MemPlace} (hrt : f.resultTypes = #[4]) (hu : P.underlying 4 = some .bool) (hvs : s.vars = [])
    (hread : f.params.toList.all (fun t => P.readableRec t && decide (t < P.types.size)) = true)
    (hfn : s.fn H ds = { results := [.lit (.bool true)], args := ds })
    (hW : DataW.Whole enc P f.params.toList s.vars false W args.toList ds [] p) (hA : DataW.TrodAll enc P W 0 (fun _ => true) true f.params.toList args.toList ds p) (hb : Below W.heap.size W W') :
    s.post enc P f false true handsOn again W args (.bool true) W' := by
  have hlt : ∀ x ∈ p, x.block < W.heap.size := fun x hx => hW.lt x hx
  refine post_of_below (pa := p) (pv := []) hW ?_ ?_ ?_ (by simp) hb ?_
  · intro b sp hd
    rw [List.append_nil, hfn, hrt]
    exact trodAll_cons_mk (shut_bool hu true) trodAll_mk0
  · intro sp hsp
    rw [List.append_nil, hfn]
    exact trodAll_stays hl hb _ _ _ _ hread hA hlt sp hsp
  · intro sp _
    rw [List.append_nil, hfn, hvs]
    rfl
  · intro j t r h1 h2
    rw [hrt] at h1 h2
    match j, h1, h2 with
    | 0, h1, h2 =>
      have e1 : t = 4 := by simpa using h1.symm
      have e2 : r = .bool true := by simpa [Value.resultList] using h2.symm
      subst e1; subst e2
      exact okWide_bool_mk hu true
    | j + 1, h1, _ => simp at h1
end

/-! Arguments, opened. -/
theorem spot_of_cell {w : World} {a : Addr} {v : Value} (h : w.cell? a = some v) : a = ⟨a.block, a.off, none⟩ := by
  unfold World.cell? at h
  split at h
  · split at h
    · cases h
    · rename_i hs
      cases a with
      | mk b o s => cases s <;> simp at hs ⊢
  · cases h
theorem reads_of_cells {w : World} {a : Addr} {xs : List Value} (h : ∀ i v, xs[i]? = some v → w.cell? (a.add i) = some v) : Reads w 1 (some a) xs.length xs := by
  refine ⟨by simp, fun hn => ?_⟩
  have h0 : ∃ v, xs[0]? = some v := by
    cases xs with
    | nil => exact absurd rfl hn
    | cons x _ => exact ⟨x, rfl⟩
  obtain ⟨v0, hv0⟩ := h0
  have hc := h 0 v0 hv0
  have ha : a.add 0 = a := by simp [Addr.add]
  rw [ha] at hc
  have hs := spot_of_cell hc
  exact ⟨a.block, a.off, by rw [← hs], fun j u hu => by rw [← add_plain, ← hs]; exact h j u hu⟩

section
variable {H : Type} {enc : TypeId × Value → H} {P : Program} {W : World} {base : Nat}
theorem open_nums {t e : TypeId} {k : IntKind} (hu : P.underlying t = some (.slice e)) (he : P.underlying e = some (.int k)) (hc : P.cellsOf e = 1) {v : Value} {d : DataW H} {p : List MemPlace} (hok : Value.okWide P W .any base t v)
    (h : DataW.Trod enc P W 0 (fun _ => true) true t v d p) : ∃ (A : Option Addr) (c : Nat) (zs : List Int), v = .slice A zs.length c ∧ Reads W 1 A zs.length (zs.map (Value.int k)) ∧ zs.length ≤ c ∧ c ≤ maxLen ∧ ∀ n ∈ zs, (Lit.int k n).wf = true := by
  obtain ⟨a0, len, cap, rfl⟩ := okWide_slice hu hok
  obtain ⟨fuel, hf⟩ := h
  rcases open_ints hu he hc hf with ⟨hcs, hx⟩ | ⟨a, len', cap', zs, hcs, _, hl, hm, hz, hx, hcell, hwz⟩
  · have e : (Value.slice a0 len cap) = .slice none 0 0 := by simpa [Value.cells] using hcs
    injection e with e1 e2 e3
    subst e1; subst e2; subst e3
    exact ⟨none, 0, [], rfl, Reads.none_ _ _ _, Nat.le_refl _, Nat.zero_le _, fun n hn => by cases hn⟩
  · have e : (Value.slice a0 len cap) = .slice (some a) len' cap' := by simpa [Value.cells] using hcs
    injection e with e1 e2 e3
    subst e1; subst e2; subst e3
    have hzl : zs.length = cap := by simpa using hz
    have htl : (zs.take len).length = len := by rw [List.length_take]; omega
    refine ⟨some a, cap, zs.take len, by rw [htl], ?_, by omega, hm, fun n hn => hwz n (List.mem_of_mem_take hn)⟩
    have := reads_of_cells (w := W) (a := a) (xs := (zs.take len).map (Value.int k)) (fun i v hv => by
      have hi : i < (zs.take len).length := by
        rcases Nat.lt_or_ge i (zs.take len).length with h | h
        · exact h
        · rw [List.getElem?_eq_none (by simpa using h)] at hv; cases hv
      rw [hcell i (by omega)]
      have hi2 : i < zs.length := by omega
      rw [List.getElem?_map, List.getElem?_take_of_lt (by omega), List.getElem?_eq_getElem hi2] at hv
      rw [← Option.some.inj hv]
      simp [hi2])
    simpa using this
theorem open_bytes {t : TypeId} (hu : P.underlying t = some (.slice 5)) (he : P.underlying 5 = some (.int .u8)) (hc : P.cellsOf 5 = 1) {v : Value} {d : DataW H} {p : List MemPlace} (hok : Value.okWide P W .any base t v)
    (h : DataW.Trod enc P W 0 (fun _ => true) true t v d p) : ∃ (A : Option Addr) (c : Nat) (l : List UInt8), v = .slice A l.length c ∧ Rd W A l ∧ l.length ≤ c ∧ c ≤ maxLen := by
  obtain ⟨A, c, zs, rfl, hr, hl, hm, hw⟩ := open_nums hu he hc hok h
  have hb : ∀ n ∈ zs, n = (((UInt8.ofNat n.toNat).toNat : Nat) : Int) := fun n hn => by
    have h1 := hw n hn
    have h2 : 0 ≤ n ∧ n ≤ 255 := by
      have := bounds_u8 h1
      omega
    exact byte_of n h2.1 h2.2
  have e : zs.map (Value.int .u8) = B8 (zs.map fun n => UInt8.ofNat n.toNat) := by
    unfold B8
    rw [List.map_map]
    exact List.map_congr_left fun n hn => by simp only [Function.comp]; rw [← hb n hn]
  refine ⟨A, c, zs.map fun n => UInt8.ofNat n.toNat, by simp, ?_, by simpa using hl, hm⟩
  unfold Rd
  rw [← e, List.length_map]
  exact hr
theorem bytes_of_vals : ∀ cs : List Value, (∀ v ∈ cs, ∃ m : Int, v = .int .u8 m ∧ 0 ≤ m ∧ m ≤ 255) → ∃ l : List UInt8, cs = B8 l
  | [], _ => ⟨[], rfl⟩
  | v :: cs, h => by
    obtain ⟨l, rfl⟩ := bytes_of_vals cs fun u hu => h u (by simp [hu])
    obtain ⟨m, rfl, h0, h1⟩ := h _ (List.mem_cons_self ..)
    exact ⟨UInt8.ofNat m.toNat :: l, by simp only [B8, List.map_cons]; rw [← byte_of m h0 h1]⟩
/-- An array of bytes, opened. -/
theorem open_arr8 {t : TypeId} {n : Nat} (hu : P.underlying t = some (.array n 5)) (he : P.underlying 5 = some (.int .u8)) (hct : P.cellTypes P.depth t = some (List.replicate n 5)) (hc : P.cellsOf t = n) {v : Value} (hok : Value.okWide P W .any base t v) :
    ∃ l : List UInt8, v = .agg (B8 l).toArray ∧ l.length = n := by
  simp only [Value.okWide, hu] at hok
  obtain ⟨cs, rfl, hs, ts, hts, -, hcell⟩ := hok
  rw [hct] at hts
  obtain rfl := Option.some.inj hts
  obtain ⟨l, hl⟩ := bytes_of_vals cs.toList (fun v hv => by
    obtain ⟨i, hi, rfl⟩ := List.mem_iff_getElem.1 hv
    have hi' : i < cs.size := by simpa using hi
    obtain ⟨u, hu1, hu2⟩ := hcell i _ (Array.getElem?_eq_getElem hi')
    have h5 : u = 5 := by
      rw [List.getElem?_replicate] at hu1
      split at hu1
      · exact (Option.some.inj hu1).symm
      · cases hu1
    subst h5
    rw [Array.getElem_toList]
    generalize cs[i] = v at hu2 ⊢
    simp only [Cell.okWide, he] at hu2
    cases v <;> simp only [Cell.ok, he] at hu2
    obtain ⟨rfl, h1, h2⟩ := hu2
    exact ⟨_, rfl, h1, h2⟩)
  refine ⟨l, by rw [← hl], ?_⟩
  have := congrArg List.length hl
  rw [B8_length] at this
  rw [← this, ← hc, ← hs]
  simp
end
end Go.Proofs.Ytpjedpmbninfcaa
