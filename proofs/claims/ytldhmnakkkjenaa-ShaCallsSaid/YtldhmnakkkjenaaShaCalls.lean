/-
  The statement 'ShaCalls': it returns true for every input, and changes nothing that it was given.
-/
import Derived.Test.YtldhmnakkkjenaaLaw
import Derived.Test.YtldhmnakkkjenaaShR
namespace Go.Proofs.Ytldhmnakkkjenaa
open Go.ChangeShapes Go.WideShapes Go.ChangeAt Go.RowKit
section
variable {P : Program} {W : World} {base : Nat}
theorem words_of_vals : ∀ cs : List Value, (∀ v ∈ cs, ∃ m : Int, v = .int .u64 m ∧ 0 ≤ m ∧ m ≤ 18446744073709551615) → ∃ l : List UInt64, cs = vU l
  | [], _ => ⟨[], rfl⟩
  | v :: cs, h => by
    obtain ⟨l, rfl⟩ := words_of_vals cs fun u hu => h u (by simp [hu])
    obtain ⟨m, rfl, h0, h1⟩ := h _ (List.mem_cons_self ..)
    refine ⟨UInt64.ofNat m.toNat :: l, ?_⟩
    simp only [vU, List.map_cons]
    rw [UInt64.toNat_ofNat_of_lt' (by show m.toNat < 18446744073709551616; omega), Int.toNat_of_nonneg h0]
/-- An array of words, opened. -/
theorem open_arrU {t e : TypeId} {n : Nat} (hu : P.underlying t = some (.array n e)) (he : P.underlying e = some (.int .u64)) (hct : P.cellTypes P.depth t = some (List.replicate n e)) (hc : P.cellsOf t = n) {v : Value} (hok : Value.okWide P W .any base t v) :
    ∃ l : List UInt64, v = .agg (vU l).toArray ∧ l.length = n := by
  simp only [Value.okWide, hu] at hok
  obtain ⟨cs, rfl, hs, ts, hts, -, hcell⟩ := hok
  rw [hct] at hts
  obtain rfl := Option.some.inj hts
  obtain ⟨l, hl⟩ := words_of_vals cs.toList (fun v hv => by
    obtain ⟨i, hi, rfl⟩ := List.mem_iff_getElem.1 hv
    have hi' : i < cs.size := by simpa using hi
    obtain ⟨u, hu1, hu2⟩ := hcell i _ (Array.getElem?_eq_getElem hi')
    have h5 : u = e := by
      rw [List.getElem?_replicate] at hu1
      split at hu1
      · exact (Option.some.inj hu1).symm
      · cases hu1
    subst h5
    rw [Array.getElem_toList]
    generalize cs[i] = v at hu2 ⊢
    simp only [Cell.okWide, he] at hu2
    cases v <;> simp only [Cell.ok, he] at hu2
    obtain ⟨rfl, h1, h2⟩ := hu2
    exact ⟨_, rfl, h1, h2⟩)
  refine ⟨l, by rw [← hl], ?_⟩
  have := congrArg List.length hl
  rw [vU_length] at this
  rw [← this, ← hc, ← hs]
  simp
end
set_option maxRecDepth 100000 in
theorem shaCalls_lifted (os : Os) (started : os.Started) (H : Type) (enc : TypeId × Value → H) :
    ReturnsInHanded {} Try.checked os 6 .any (Rows.shaCallsSpec.pre6 enc Try.prog Try.f6 Rows.shaCallsRow.domain false) (Rows.shaCallsSpec.post enc Try.prog Try.f6 false true false false) := by
  refine returnsInHanded_of_change (C := Try.checked) Try.own started (by kernel_rfl) Try.func6
    (ChangeSpec.witness6 (enc := enc) (C := Try.checked) false ⟨#[], #[.slice none 0 0, .slice none 0 0, .agg #[.int .u64 0, .int .u64 0, .int .u64 0, .int .u64 0, .int .u64 0, .int .u64 0, .int .u64 0, .int .u64 0], .agg #[.int .u8 0, .int .u8 0, .int .u8 0, .int .u8 0, .int .u8 0, .int .u8 0, .int .u8 0, .int .u8 0, .int .u8 0, .int .u8 0, .int .u8 0, .int .u8 0, .int .u8 0, .int .u8 0, .int .u8 0, .int .u8 0, .int .u8 0, .int .u8 0, .int .u8 0, .int .u8 0, .int .u8 0, .int .u8 0, .int .u8 0, .int .u8 0, .int .u8 0, .int .u8 0, .int .u8 0, .int .u8 0, .int .u8 0, .int .u8 0, .int .u8 0, .int .u8 0, .int .u8 0, .int .u8 0, .int .u8 0, .int .u8 0, .int .u8 0, .int .u8 0, .int .u8 0, .int .u8 0, .int .u8 0, .int .u8 0, .int .u8 0, .int .u8 0, .int .u8 0, .int .u8 0, .int .u8 0, .int .u8 0, .int .u8 0, .int .u8 0, .int .u8 0, .int .u8 0, .int .u8 0, .int .u8 0, .int .u8 0, .int .u8 0, .int .u8 0, .int .u8 0, .int .u8 0, .int .u8 0, .int .u8 0, .int .u8 0, .int .u8 0, .int .u8 0, .int .u8 0, .int .u8 0, .int .u8 0, .int .u8 0, .int .u8 0, .int .u8 0, .int .u8 0, .int .u8 0, .int .u8 0, .int .u8 0, .int .u8 0, .int .u8 0, .int .u8 0, .int .u8 0, .int .u8 0, .int .u8 0, .int .u8 0, .int .u8 0, .int .u8 0, .int .u8 0, .int .u8 0, .int .u8 0, .int .u8 0, .int .u8 0, .int .u8 0, .int .u8 0, .int .u8 0, .int .u8 0, .int .u8 0, .int .u8 0, .int .u8 0, .int .u8 0, .int .u8 0, .int .u8 0, .int .u8 0, .int .u8 0, .int .u8 0, .int .u8 0, .int .u8 0, .int .u8 0, .int .u8 0, .int .u8 0, .int .u8 0, .int .u8 0, .int .u8 0, .int .u8 0, .int .u8 0, .int .u8 0, .int .u8 0, .int .u8 0, .int .u8 0, .int .u8 0, .int .u8 0, .int .u8 0, .int .u8 0, .int .u8 0, .int .u8 0, .int .u8 0, .int .u8 0, .int .u8 0, .int .u8 0, .int .u8 0, .int .u8 0, .int .u8 0]], []⟩ 8 (by kernel_rfl) (by kernel_rfl) (by kernel_rfl) (by kernel_rfl)) ?_
  intro W base args ds gs before hval0 hW hcnd _
  have hval : ∀ (j : Nat) t v, Try.f6.params[j]? = some t → args[j]? = some v → Value.okWide Try.prog W .any base t v := hval0
  have hW' := hW
  obtain ⟨p, q, hA0, hV, rfl, hfz, hnd⟩ := hW
  have hA : DataW.TrodAll enc Try.prog W 0 (fun _ => true) true Try.f6.params.toList args.toList ds p := hA0
  have hA1 := hA
  rw [Try.params6] at hA hval
  obtain ⟨v0, vs0, d0, ds0, p0, q0, hargs, rfl, rfl, h0, r0⟩ := trodAll_cons hA
  obtain ⟨v1, vs1, d1, ds1, p1, q1, rfl, rfl, rfl, h1, r1⟩ := trodAll_cons r0
  obtain ⟨v2, vs2, d2, ds2, p2, q2, rfl, rfl, rfl, h2, r2⟩ := trodAll_cons r1
  obtain ⟨v3, vs3, d3, ds3, p3, q3, rfl, rfl, rfl, h3, r3⟩ := trodAll_cons r2
  obtain ⟨rfl, rfl, rfl⟩ := trodAll_nil r3
  obtain rfl : args = #[v0, v1, v2, v3] := by cases args; simp_all
  obtain ⟨rfl, rfl⟩ := trodVars_none hV
  obtain ⟨A0, c0, l0, rfl, hr0, hc0, hm0⟩ := open_bytes Try.underlying39 Try.underlying5 (by kernel_rfl) (hval 0 39 v0 rfl rfl) h0
  obtain ⟨A1, c1, l1, rfl, hr1, hc1, hm1⟩ := open_bytes Try.underlying39 Try.underlying5 (by kernel_rfl) (hval 1 39 v1 rfl rfl) h1
  obtain ⟨l2, rfl, hl2⟩ := open_arrU Try.underlying28 Try.underlying25 (by kernel_rfl) (by kernel_rfl) (hval 2 28 v2 rfl rfl)
  obtain ⟨l3, rfl, hl3⟩ := open_arr8 Try.underlying41 Try.underlying5 (by kernel_rfl) (by kernel_rfl) (hval 3 41 v3 rfl rfl)
  clear hA0 hval0
  simp only [List.append_nil] at hW' hA1
  refine (C_ShaCalls (w := W) A0 c0 l0 hr0 hc0 hm0 A1 c1 l1 hr1 hc1 hm1 l2 hl2 l3 hl3).2.mono ?_
  rintro e W' ⟨v, rfl, rfl, hb⟩
  exact ⟨_, rfl, law_post Try.laidOut rfl Try.underlying4 rfl (by kernel_rfl) rfl hW' hA1 hb⟩

theorem shaCalls_holds : Rows.ShaCallsSaid :=
  OpenClaim.holds_of_wide 6 Try.f6 rfl rfl rfl rfl rfl rfl rfl ⟨rfl, rfl, rfl, rfl, rfl⟩ rfl rfl rfl rfl rfl (by kernel_rfl) Try.func6 (by kernel_rfl)
    (of_decide_eq_true (by kernel_rfl)) (by unfold Func.isWrapper; first | (rw [if_pos (by decide +kernel)]; kernel_rfl) | (rw [if_neg (by decide +kernel)]; exact ⟨rfl, rfl⟩))
    (fun os started H enc _ => shaCalls_lifted os started H enc)
end Go.Proofs.Ytldhmnakkkjenaa
