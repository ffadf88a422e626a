/-
  The statement ShaPads: what is padded.
-/
import Derived.Test.YtldhmnakkkjenaaShI
namespace Go.Proofs.Ytldhmnakkkjenaa
open Go.RowKit
/-! What is padded, byte by byte. -/
theorem be8_zero (k : Nat) (h : k < (be8 0).length) : (be8 0)[k] = 0 := by
  rw [be8_get]
  unfold shrU
  rw [UInt64.zero_shiftRight]
  rfl
theorem be8_byte {N k : Nat} (hN : N < 4294967296) (hk : k < 8) (h : k < (be8 (UInt64.ofNat N)).length) : (be8 (UInt64.ofNat N))[k].toNat = N / 2 ^ (56 - 8 * k) % 256 := by
  rw [be8_get, UInt64.toNat_toUInt8, shrU_toNat _ (by omega), UInt64.toNat_ofNat_of_lt' (by show N < 18446744073709551616; omega)]
def padT (a : By) : By := [128] ++ List.replicate (zeros a.length) 0 ++ be8 0 ++ be8 (UInt64.ofNat (a.length * 8))
theorem padT_eq (a : By) : padU a = a ++ padT a := by simp [padU, padT]
theorem padT_len (a : By) : (padT a).length = 17 + zeros a.length := by
  simp only [padT, List.length_append, be8_len, List.length_replicate, List.length_singleton]; omega
theorem padU_take (a : By) : (padU a).take a.length = a := by rw [padT_eq, List.take_left]
theorem padU_at (a : By) (h : a.length < (padU a).length) : (padU a)[a.length] = 128 := by
  simp only [padT_eq]
  rw [List.getElem_append_right (Nat.le_refl _)]
  simp [padT]
theorem padT_parts (a : By) : padT a = ((([128] : List UInt8) ++ List.replicate (zeros a.length) (0 : UInt8)) ++ be8 0) ++ be8 (UInt64.ofNat (a.length * 8)) := rfl
theorem padT_zero {a : By} (ha : a.length ≤ 4000) {j : Nat} (h1 : 0 < j) (h2 : j < 13 + zeros a.length) (h : j < (padT a).length) : (padT a)[j] = 0 := by
  have hl1 : (([128] : List UInt8) ++ List.replicate (zeros a.length) (0 : UInt8)).length = 1 + zeros a.length := by
    rw [List.length_append, List.length_singleton, List.length_replicate]
  have hl2 : ((([128] : List UInt8) ++ List.replicate (zeros a.length) (0 : UInt8)) ++ be8 0).length = 9 + zeros a.length := by
    rw [List.length_append, hl1, be8_len]; omega
  simp only [padT_parts]
  rcases Nat.lt_or_ge j (9 + zeros a.length) with h3 | h3
  · rw [List.getElem_append_left (by omega)]
    rcases Nat.lt_or_ge j (1 + zeros a.length) with h4 | h4
    · rw [List.getElem_append_left (by omega), List.getElem_append_right (by simp; omega)]
      simp
    · rw [List.getElem_append_right (by omega)]
      exact be8_zero _ _
  · rw [List.getElem_append_right (by omega)]
    apply UInt8.toNat_inj.1
    rw [be8_byte (by omega) (by omega), hl2]
    have h5 : 2 ^ 32 ≤ 2 ^ (56 - 8 * (j - (9 + zeros a.length))) := Nat.pow_le_pow_right (by decide) (by omega)
    rw [Nat.div_eq_of_lt (by omega)]; rfl
theorem padT_byte {a : By} (ha : a.length ≤ 4000) {k : Nat} (hk : k < 4) (h : 13 + zeros a.length + k < (padT a).length) : (padT a)[13 + zeros a.length + k].toNat = a.length * 8 / 2 ^ (24 - 8 * k) % 256 := by
  have hl2 : ((([128] : List UInt8) ++ List.replicate (zeros a.length) (0 : UInt8)) ++ be8 0).length = 9 + zeros a.length := by
    simp only [List.length_append, be8_len, List.length_replicate, List.length_singleton]; omega
  simp only [padT_parts]
  rw [List.getElem_append_right (by omega)]
  rw [be8_byte (by omega) (by omega), hl2, show 56 - 8 * (13 + zeros a.length + k - (9 + zeros a.length)) = 24 - 8 * k by omega]
theorem padU_zero {a : By} (ha : a.length ≤ 4000) {i : Nat} (h1 : a.length < i) (h2 : i + 4 < (padU a).length) (h : i < (padU a).length) : (padU a)[i] = 0 := by
  have hl := padU_len a
  simp only [padT_eq]
  rw [List.getElem_append_right (by omega)]
  exact padT_zero ha (by omega) (by omega) _
theorem padU_byte {a : By} (ha : a.length ≤ 4000) {i k : Nat} (hk : k < 4) (hi : i + 4 = (padU a).length + k) (h : i < (padU a).length) : (padU a)[i].toNat = a.length * 8 / 2 ^ (24 - 8 * k) % 256 := by
  have hl := padU_len a
  have e : i - a.length = 13 + zeros a.length + k := by omega
  simp only [padT_eq]
  rw [List.getElem_append_right (by omega)]
  simp only [e]
  exact padT_byte ha hk _
theorem padU_inj {a b : By} (ha : a.length ≤ 4000) (hb : b.length ≤ 4000) (h : padU a = padU b) : a = b := by
  have hl : a.length = b.length := by
    have hla := padU_len a
    have hlb := padU_len b
    have hle : (padU a).length = (padU b).length := by rw [h]
    have key : ∀ k, k < 4 → a.length * 8 / 2 ^ (24 - 8 * k) % 256 = b.length * 8 / 2 ^ (24 - 8 * k) % 256 := fun k hk => by
      have h1 := padU_byte ha (i := (padU a).length - 4 + k) hk (by omega) (by omega)
      have h2 := padU_byte hb (i := (padU a).length - 4 + k) hk (by omega) (by omega)
      rw [← h1, ← h2]
      simp only [h]
    have k0 := key 0 (by decide)
    have k1 := key 1 (by decide)
    have k2 := key 2 (by decide)
    have k3 := key 3 (by decide)
    simp only [Nat.mul_zero, Nat.sub_zero, Nat.mul_one, Nat.reduceSub, Nat.reduceMul, Nat.reducePow, Nat.pow_zero] at k0 k1 k2 k3
    omega
  rw [← padU_take a, ← padU_take b, h, hl]
theorem byte_step {n k y : Nat} {u : Int} (hn : n < 4294967296) (hk : k < 4) (hu : u = ((n / 2 ^ (32 - 8 * k) : Nat) : Int)) (hb : y = n / 2 ^ (24 - 8 * k) % 256) : u * 256 + (y : Int) = ((n / 2 ^ (32 - 8 * (k + 1)) : Nat) : Int) := by
  subst hu hb
  have hc : k = 0 ∨ k = 1 ∨ k = 2 ∨ k = 3 := by omega
  rcases hc with rfl | rfl | rfl | rfl
  · show ((n / 4294967296 : Nat) : Int) * 256 + ((n / 16777216 % 256 : Nat) : Int) = ((n / 16777216 : Nat) : Int)
    omega
  · show ((n / 16777216 : Nat) : Int) * 256 + ((n / 65536 % 256 : Nat) : Int) = ((n / 65536 : Nat) : Int)
    omega
  · show ((n / 65536 : Nat) : Int) * 256 + ((n / 256 % 256 : Nat) : Int) = ((n / 256 : Nat) : Int)
    omega
  · show ((n / 256 : Nat) : Int) * 256 + ((n / 1 % 256 : Nat) : Int) = ((n / 1 : Nat) : Int)
    omega
section
variable {P : Program} {N : Nat} {fr : Fr} {w : World} {ty t : TypeId} {x z : Operand} {A : Option Addr} {len cap : Nat} {kh : IntKind} {h : Int}
--@ rule slice p o_slhiB
theorem o_slhiB (hi : Nat) (hu : P.underlying t = some (.slice 5)) (hs : ∀ w, (sizeOf 5).run P w = .ok 1 w) (hx : fr.ev x = some (.slice A len cap)) (hz : fr.ev z = some (.int kh h)) (hh : h = (hi : Int)) (h2 : hi ≤ cap) : OpV P N fr w (.slice t x none (some z) none) ty (.slice A hi cap) w := o_slice_hi hu hs hx hz hh h2
end
theorem rd_take {w : World} {A : Option Addr} {p : By} (h : Rd w A p) (k : Nat) : Rd w A (p.take k) := by
  refine ⟨by rw [B8_length, Nat.mul_one], fun hne => ?_⟩
  have hpne : B8 p ≠ [] := fun e => by
    apply hne
    have : p = [] := by cases p with | nil => rfl | cons a b => cases e
    rw [this]; rw [List.take_nil]; rfl
  obtain ⟨b, o, rfl, hc⟩ := h.2 hpne
  refine ⟨b, o, rfl, fun j u hj => hc j u ?_⟩
  unfold B8 at hj ⊢
  rw [List.getElem?_map] at hj ⊢
  rcases Nat.lt_or_ge j k with h3 | h3
  · rwa [List.getElem?_take_of_lt h3] at hj
  · rw [List.getElem?_eq_none (by rw [List.length_take]; omega)] at hj; cases hj
set_option maxRecDepth 100000 in
set_option maxHeartbeats 1000000 in
theorem C_ShaPads (w : World) (A : Option Addr) (c : Nat) (a : By) (hA : Rd w A a) (_hac : a.length ≤ c) (_hcm : c ≤ maxLen) (B : Option Addr) (d : Nat) (b : By) (hB : Rd w B b) (_hbd : b.length ≤ d) (_hdm : d ≤ maxLen) :
    CallsR Try.prog 8 [.slice A a.length c, .slice B b.length d] w fun v w' => v = .bool true ∧ Below w.heap.size w w' := by
  obtain ⟨p, hp⟩ : ∃ p, padU a = p := ⟨_, rfl⟩
  obtain ⟨q, hq⟩ : ∃ q, padU b = q := ⟨_, rfl⟩
  refine callsR Try.func8 rfl rfl (by kernel_rfl) rfl ?_
  have hw := Below.refl w.heap.size w
  refine rk_seq ?_
  refine rk_region ?_
  refine wl_p (fun _ => o_assign rfl) ?_
  refine wl_nil ?_
  refine rk_seq ?_
  refine rk_seq ?_
  refine rk_region ?_
  refine wl_call rfl (C_lives02 _) ?_
  rintro v10 w10 ⟨rfl, b10⟩
  have s10 := b10.size
  replace hw := hw.trans (b10.mono hw.size)
  refine wl_p (fun _ => o_not rfl) ?_
  refine wl_nil ?_
  refine rk_false rfl ?_
  refine rk_skip ?_
  refine rk_seq ?_
  refine rk_seq ?_
  refine rk_region ?_
  refine wl_p (fun _ => o_move rfl) ?_
  refine wl_p (fun _ => o_len (t := 39) Try.underlying39 rfl) ?_
  refine wl_p (fun _ => o_gt rfl rfl) ?_
  refine wl_p (fun _ => o_move rfl) ?_
  refine wl_bool 15 rfl (fun h15 => ?_) (fun h15 => ?_) <;> try simp only [decide_eq_true_eq, decide_eq_false_iff_not, Bool.not_eq_true', Bool.not_eq_false', Bool.and_eq_true, Bool.and_eq_false_iff, Bool.or_eq_true, Bool.or_eq_false_iff] at h15
  · refine wl_off ?_
    refine wl_off ?_
    refine wl_off ?_
    refine wl_p (fun _ => o_pick_t rfl rfl) ?_
    refine wl_nil ?_
    refine rk_true rfl ?_
    refine rk_seq ?_
    refine rk_region ?_
    refine wl_p (fun _ => o_assign rfl) ?_
    refine wl_nil ?_
    refine ret1 rfl rfl ?_
    exact ⟨rfl, hw⟩
  refine wl_p (fun _ => o_move rfl) ?_
  refine wl_p (fun _ => o_len (t := 39) Try.underlying39 rfl) ?_
  refine wl_p (fun _ => o_gt rfl rfl) ?_
  refine wl_p (fun _ => o_pick_f rfl rfl) ?_
  refine wl_nil ?_
  refine rk_if rfl (fun h19 => ?_) (fun h19 => ?_)
  · refine rk_seq ?_
    refine rk_region ?_
    refine wl_p (fun _ => o_assign rfl) ?_
    refine wl_nil ?_
    refine ret1 rfl rfl ?_
    exact ⟨rfl, hw⟩
  have hpl : p.length = a.length + 17 + zeros a.length := by rw [← hp, padU_len]
  have hzl := zeros_lt a.length
  have hpm : p.length % 128 = 0 := by
    obtain ⟨M, hM⟩ := padU_mul a
    rw [hp] at hM; omega
  have hla : a.length ≤ 2000 := by omega
  have hlb : b.length ≤ 2000 := by omega
  have hpq : (decide (p = q) != decide (a = b)) = false := by
    have : p = q ↔ a = b := ⟨fun h => padU_inj (by omega) (by omega) (by rw [hp, hq, h]), fun h => by rw [← hp, ← hq, h]⟩
    simp [this]
  have hlt : a.length < p.length := by omega
  have hat : p[a.length].toNat = 128 := by
    subst hp; rw [padU_at]; rfl
  refine rk_skip ?_
  refine rk_seq ?_
  refine rk_region ?_
  refine wl_p (fun _ => o_move rfl) ?_
  refine wl_call rfl (C_Own _ (hA.u hw) rfl (by omega)) ?_
  rintro v21 w21 ⟨A21, ⟨c21, ⟨rfl, ⟨f21, ⟨i21, b21⟩⟩⟩⟩⟩
  have qf21 := f21.cap
  have s21 := b21.size
  replace hw := hw.trans (b21.mono hw.size)
  refine wl_call rfl (C_Pad _ f21.to_RdT hp rfl (by omega) (by omega) (by omega)) ?_
  rintro v22 w22 ⟨A22, ⟨c22, ⟨rfl, ⟨f22, b22⟩⟩⟩⟩
  have qf22 := f22.cap
  have s22 := b22.size
  replace hw := hw.trans (b22.mono hw.size)
  replace f21 := f21.u b22
  refine wl_p (fun _ => o_move rfl) ?_
  refine wl_call rfl (C_Own _ (hB.u hw) rfl (by omega)) ?_
  rintro v24 w24 ⟨A24, ⟨c24, ⟨rfl, ⟨f24, ⟨i24, b24⟩⟩⟩⟩⟩
  have qf24 := f24.cap
  have s24 := b24.size
  replace hw := hw.trans (b24.mono hw.size)
  replace f21 := f21.u b24
  replace f22 := f22.u b24
  refine wl_call rfl (C_Pad _ f24.to_RdT hq rfl (by omega) (by omega) (by omega)) ?_
  rintro v25 w25 ⟨A25, ⟨c25, ⟨rfl, ⟨f25, b25⟩⟩⟩⟩
  have qf25 := f25.cap
  have s25 := b25.size
  replace hw := hw.trans (b25.mono hw.size)
  replace f22 := f22.u b25
  replace f21 := f21.u b25
  replace f24 := f24.u b25
  refine wl_p (fun _ => o_assign rfl) ?_
  refine wl_p (fun _ => o_assign rfl) ?_
  refine wl_nil ?_
  refine rk_seq ?_
  refine rk_seq ?_
  refine rk_draw (id := 6) (none) [0, 1, 0, 4, 10, 0, 32, 0, 128, 320, 528, 1024, 2048, 6144, 10240, 18432, 34816, 67584, 131072, 393216, 131072, 1179648, 2752512, 4325376, 8519680, 16908288, 33554432, 100663296, 33554432, 301989888, 704643072, 1107296256, 2181038080, 4328521728, 8589934592, 8589934592, 42949672960, 94489280512, 146028888064, 8589934592, 558345748480, 1382979469312, 2207613190144, 4406636445696, 8796093022208, 8796093022208, 43980465111040, 96757023244288, 149533581377536, 290271069732864, 571746046443520] [0, 1, 0, 4, 15, 0, 32, 0, 128, 480, 1023, 2047, 4095, 8191, 16383, 32767, 65535, 131071, 262143, 524287, 262143, 1310719, 4194303, 8388607, 16777215, 33554431, 67108863, 134217727, 67108863, 335544319, 1073741823, 2147483647, 4294967295, 8589934591, 17179869183, 17179869183, 51539607551, 137438953471, 274877906943, 17179869183, 566935683071, 2199023255551, 4398046511103, 8796093022207, 17592186044415, 17592186044415, 52776558133247, 140737488355327, 281474976710655, 562949953421311, 1125899906842623] 0 0 [(.p, 0), (.r, 1), (.p, 2), (.r, 3), (.p, 4), (.p, 5), (.r, 6), (.p, 7), (.r, 8), (.p, 9), (.p, 10), (.p, 11), (.p, 12), (.p, 13), (.p, 14), (.p, 15), (.p, 16), (.p, 17), (.p, 18), (.p, 19), (.p, 20), (.p, 21), (.p, 22), (.p, 23), (.p, 24), (.p, 25), (.p, 26), (.p, 27), (.p, 28), (.p, 29), (.p, 30), (.p, 31), (.p, 32), (.p, 33), (.p, 34), (.p, 35), (.p, 36), (.p, 37), (.r, 38), (.p, 39), (.r, 40), (.p, 41), (.p, 42), (.p, 43), (.p, 44), (.p, 45), (.p, 46), (.p, 47), (.r, 48), (.p, 49), (.p, 50)] (by kernel_rfl) (by kernel_rfl) (by kernel_rfl) (by kernel_rfl) (by kernel_rfl) ?_
  replace hw := hw.drew
  replace f24 := f24.d
  replace f21 := f21.d
  replace f22 := f22.d
  replace f25 := f25.d
  refine wl_p (fun _ => o_move rfl) ?_
  refine wl_r (o_strU Try.underlying39 Try.underlying5 Try.underlying9 rfl f22.to_Rd (Below.refl _ _) rfl) ?_
  refine wl_p (fun _ => o_move rfl) ?_
  refine wl_r (o_strU Try.underlying39 Try.underlying5 Try.underlying9 rfl f25.to_Rd (Below.refl _ _) rfl) ?_
  refine wl_p (fun _ => o_seq rfl rfl) ?_
  refine wl_p (fun _ => o_move rfl) ?_
  refine wl_r (o_strU Try.underlying39 Try.underlying5 Try.underlying9 rfl hA hw rfl) ?_
  refine wl_p (fun _ => o_move rfl) ?_
  refine wl_r (o_strU Try.underlying39 Try.underlying5 Try.underlying9 rfl hB hw rfl) ?_
  refine wl_p (fun _ => o_seq rfl rfl) ?_
  refine wl_p (fun _ => o_bne (t := 4) Try.underlying4 rfl rfl) ?_
  refine wl_p (fun _ => o_move rfl) ?_
  rw [hpq]
  have hpre := rd_take f22.to_Rd a.length
  rw [show p.take a.length = a by rw [← hp, padU_take]] at hpre
  have hcap := f22.cap
  have hrdp := f22.to_Rd
  refine wl_p (fun _ => o_move rfl) ?_
  refine wl_p (fun _ => o_len (t := 39) Try.underlying39 rfl) ?_
  refine wl_p (fun _ => o_rem rfl rfl (by omega) (by omega)) ?_
  refine wl_p (fun _ => o_ne rfl rfl) ?_
  refine wl_p (fun _ => o_pick_f rfl rfl) ?_
  refine wl_p (fun _ => o_move rfl) ?_
  refine wl_know 43 false rfl (decide_eq_false (by omega)) ?_
  refine wl_p (fun _ => o_move rfl) ?_
  refine wl_p (fun _ => o_len (t := 39) Try.underlying39 rfl) ?_
  refine wl_p (fun _ => o_move rfl) ?_
  refine wl_p (fun _ => o_len (t := 39) Try.underlying39 rfl) ?_
  refine wl_p (fun _ => o_sub rfl rfl (by omega) (by omega)) ?_
  refine wl_p (fun _ => o_lt rfl rfl) ?_
  refine wl_p (fun _ => o_pick_f rfl rfl) ?_
  refine wl_p (fun _ => o_move rfl) ?_
  refine wl_know 51 false rfl (decide_eq_false (by omega)) ?_
  refine wl_p (fun _ => o_move rfl) ?_
  refine wl_p (fun _ => o_len (t := 39) Try.underlying39 rfl) ?_
  refine wl_p (fun _ => o_move rfl) ?_
  refine wl_p (fun _ => o_len (t := 39) Try.underlying39 rfl) ?_
  refine wl_p (fun _ => o_sub rfl rfl (by omega) (by omega)) ?_
  refine wl_p (fun _ => o_gt rfl rfl) ?_
  refine wl_p (fun _ => o_pick_f rfl rfl) ?_
  refine wl_p (fun _ => o_move rfl) ?_
  refine wl_know 59 false rfl (decide_eq_false (by omega)) ?_
  refine wl_p (fun _ => o_move rfl) ?_
  refine wl_p (fun _ => o_move rfl) ?_
  refine wl_p (fun _ => o_len (t := 39) Try.underlying39 rfl) ?_
  refine wl_p (fun _ => (o_slhiB (List.length a) Try.underlying39 Try.sizeOf5 rfl rfl rfl (by omega))) ?_
  refine wl_r (o_strU Try.underlying39 Try.underlying5 Try.underlying9 rfl hpre (Below.refl _ _) rfl) ?_
  refine wl_p (fun _ => o_move rfl) ?_
  refine wl_r (o_strU Try.underlying39 Try.underlying5 Try.underlying9 rfl hA hw rfl) ?_
  refine wl_p (fun _ => o_sne rfl rfl) ?_
  refine wl_p (fun _ => o_pick_f rfl rfl) ?_
  refine wl_p (fun _ => o_move rfl) ?_
  refine wl_know 69 false rfl (by simp) ?_
  refine wl_p (fun _ => o_move rfl) ?_
  refine wl_p (fun _ => o_move rfl) ?_
  refine wl_p (fun _ => o_len (t := 39) Try.underlying39 rfl) ?_
  refine wl_p (fun _ => (o_iaddrA1 (List.length a) Try.underlying39 Try.sizeOf5 rfl rfl rfl (Reads.some_ hrdp.to_Reads (by decide) (by omega)) (by omega))) ?_
  refine wl_r (o_loadB Try.isAgg5 rfl hrdp (by omega)) ?_
  refine wl_p (fun _ => o_ne rfl rfl) ?_
  refine wl_p (fun _ => o_pick_f rfl rfl) ?_
  refine wl_nild ?_
  refine rk_if rfl (fun h76 => absurd h76 (by omega)) (fun h76 => ?_)
  refine rk_skip ?_
  refine rk_seq ?_
  refine rk_region ?_
  refine wl_p (fun _ => o_assign rfl) ?_
  refine wl_nil ?_
  refine rk_seq ?_
  refine rk_seq ?_
  refine rk_region ?_
  refine wl_p (fun _ => o_move rfl) ?_
  refine wl_p (fun _ => o_len (t := 39) Try.underlying39 rfl) ?_
  refine wl_p (fun _ => o_sub rfl rfl (by omega) (by omega)) ?_
  refine wl_p (fun _ => o_assign rfl) ?_
  refine wl_nil ?_
  refine rk_block ?_
  have hbyte : ∀ i k (h : i < p.length), k < 4 → i + 4 = p.length + k → p[i].toNat = a.length * 8 / 2 ^ (24 - 8 * k) % 256 := fun i k h hk hi => by
    subst hp; exact padU_byte (by omega) hk hi h
  have hzero : ∀ i (h : i < p.length), a.length < i → i + 4 < p.length → p[i].toNat = 0 := fun i h h1 h2 => by
    subst hp; rw [padU_zero (by omega) h1 h2 h]; rfl
  refine rk_joinf (fun fb fr w2 => fr = [(7, .int .i64 (8 * (a.length : Int)))] ++ fb.drop 5 ∧ Rd w2 A22 p ∧ Below w.heap.size w w2) ?_ (fun ks hj => ?_)
  rotate_left
  · refine rk_loopf (fun fb m fr w2 => ∃ (k : Nat) (v u : Int), fr = [(8, .int .i64 v), (7, .int .i64 u)] ++ fb.drop 5 ∧ v = (p.length : Int) - 4 + k ∧ k ≤ 4 ∧ m = 4 - k ∧ u = ((a.length * 8 / 2 ^ (32 - 8 * k) : Nat) : Int) ∧ Rd w2 A22 p ∧ Below w.heap.size w w2) (n := 4) (Fr.le_of (by kernel_rfl) (by kernel_rfl) (by repeat' constructor)) ⟨0, _, _, rfl, by omega, by omega, rfl, by rw [Nat.div_eq_of_lt (by omega)]; rfl, hrdp, hw⟩ ?_
    clear hw hrdp hpre f21 f22 f24 f25
    rintro m fr w2 ⟨k, v, u, rfl, rfl, hk, rfl, hu, fo, hw⟩
    have hub : 0 ≤ u ∧ u ≤ 16000 := by
      have h0 := Nat.div_le_self (a.length * 8) (2 ^ (32 - 8 * k))
      rw [hu]
      generalize a.length * 8 / 2 ^ (32 - 8 * k) = y at h0 ⊢
      omega
    first | refine rk_frame (by simp only [List.cons_append, List.nil_append, List.drop_succ_cons, List.drop_zero]; rfl) ?_ | refine wl_frame (by simp only [List.cons_append, List.nil_append, List.drop_succ_cons, List.drop_zero]; rfl) ?_
    refine rk_seq ?_
    refine rk_seq ?_
    refine rk_region ?_
    refine wl_p (fun _ => o_move rfl) ?_
    refine wl_p (fun _ => o_move rfl) ?_
    refine wl_p (fun _ => o_len (t := 39) Try.underlying39 rfl) ?_
    refine wl_p (fun _ => o_lt rfl rfl) ?_
    refine wl_nil ?_
    refine rk_if rfl (fun h83 => ?_) (fun h83 => ?_)
    · have hkl : p.length - 4 + k < p.length := by omega
      have hb := hbyte (p.length - 4 + k) k hkl (by omega) (by omega)
      refine rk_skip ?_
      refine rk_seq ?_
      refine rk_block ?_
      refine rk_region ?_
      refine wl_p (fun _ => o_move rfl) ?_
      refine wl_p (fun _ => o_mul rfl rfl (by omega) (by omega)) ?_
      refine wl_p (fun _ => o_move rfl) ?_
      refine wl_p (fun _ => o_move rfl) ?_
      refine wl_p (fun _ => (o_iaddrA1 (List.length p - 4 + k) Try.underlying39 Try.sizeOf5 rfl rfl (by omega) (Reads.some_ fo.to_Reads (by decide) (by omega)) (by omega))) ?_
      refine wl_r (o_loadB Try.isAgg5 rfl fo (by omega)) ?_
      refine wl_p (fun _ => o_convi64 (src := 5) (dst := 3) Try.underlying5 Try.underlying3 rfl (by omega) (by omega)) ?_
      refine wl_p (fun _ => o_add rfl rfl (by omega) (by omega)) ?_
      refine wl_p (fun _ => o_assign rfl) ?_
      refine wl_nil ?_
      refine rk_blk ?_
      refine rk_region ?_
      refine wl_p (fun _ => o_move rfl) ?_
      refine wl_p (fun _ => o_add rfl rfl (by omega) (by omega)) ?_
      refine wl_p (fun _ => o_assign rfl) ?_
      refine wl_nil ?_
      exact rk_againf (Fr.le_of (by kernel_rfl) (by kernel_rfl) (by repeat' constructor)) ⟨k + 1, (p.length : Int) - 4 + k + 1, u * 256 + (p[p.length - 4 + k].toNat : Int), rfl, by omega, by omega, rfl, byte_step (by omega) (by omega) hu hb, fo, hw⟩ (by omega)
    · refine rk_exit rfl ?_
      obtain rfl : k = 4 := by omega
      obtain rfl : u = 8 * (a.length : Int) := by
        have h0 : a.length * 8 / 2 ^ (32 - 8 * 4) = a.length * 8 := Nat.div_one _
        rw [h0] at hu; omega
      exact rk_tof hj (Fr.le_of (by kernel_rfl) (by kernel_rfl) (by repeat' constructor)) ⟨rfl, fo, hw⟩
  clear hw hrdp hpre f21 f22 f24 f25
  rintro fr w2 ⟨rfl, fo, hw⟩
  first | refine rk_frame (by simp only [List.cons_append, List.nil_append, List.drop_succ_cons, List.drop_zero]; rfl) ?_ | refine wl_frame (by simp only [List.cons_append, List.nil_append, List.drop_succ_cons, List.drop_zero]; rfl) ?_
  refine rk_seq ?_
  refine rk_seq ?_
  refine rk_region ?_
  refine wl_p (fun _ => o_move rfl) ?_
  refine wl_p (fun _ => o_len (t := 39) Try.underlying39 rfl) ?_
  refine wl_p (fun _ => o_add rfl rfl (by omega) (by omega)) ?_
  refine wl_p (fun _ => o_assign rfl) ?_
  refine wl_nil ?_
  refine rk_block ?_
  refine rk_joinf (fun fb fr w3 => fr = [] ++ fb.drop 1 ∧ Below w.heap.size w w3) ?_ (fun ks hj => ?_)
  rotate_left
  · refine rk_loopf (fun fb m fr w3 => ∃ (i : Nat) (v : Int), fr = [(9, .int .i64 v)] ++ fb.drop 1 ∧ v = i ∧ a.length < i ∧ i ≤ p.length - 4 ∧ m = p.length - 4 - i ∧ Rd w3 A22 p ∧ Below w.heap.size w w3) (n := p.length - 4 - (a.length + 1)) (Fr.le_of (by kernel_rfl) (by kernel_rfl) (by repeat' constructor)) ⟨a.length + 1, _, rfl, by omega, by omega, by omega, rfl, fo, hw⟩ ?_
    clear hw fo
    rintro m fr w3 ⟨i, v, rfl, rfl, hi1, hi2, rfl, fo, hw⟩
    first | refine rk_frame (by simp only [List.cons_append, List.nil_append, List.drop_succ_cons, List.drop_zero]; rfl) ?_ | refine wl_frame (by simp only [List.cons_append, List.nil_append, List.drop_succ_cons, List.drop_zero]; rfl) ?_
    refine rk_seq ?_
    refine rk_seq ?_
    refine rk_region ?_
    refine wl_p (fun _ => o_move rfl) ?_
    refine wl_p (fun _ => o_move rfl) ?_
    refine wl_p (fun _ => o_len (t := 39) Try.underlying39 rfl) ?_
    refine wl_p (fun _ => o_sub rfl rfl (by omega) (by omega)) ?_
    refine wl_p (fun _ => o_lt rfl rfl) ?_
    refine wl_nil ?_
    refine rk_if rfl (fun h101 => ?_) (fun h101 => ?_)
    · have hil : i < p.length := by omega
      have hb := hzero i hil hi1 (by omega)
      refine rk_skip ?_
      refine rk_seq ?_
      refine rk_block ?_
      refine rk_seq ?_
      refine rk_region ?_
      refine wl_p (fun _ => o_move rfl) ?_
      refine wl_p (fun _ => o_move rfl) ?_
      refine wl_p (fun _ => (o_iaddrA1 (i) Try.underlying39 Try.sizeOf5 rfl rfl rfl (Reads.some_ fo.to_Reads (by decide) (by omega)) (by omega))) ?_
      refine wl_r (o_loadB Try.isAgg5 rfl fo (by omega)) ?_
      refine wl_p (fun _ => o_ne rfl rfl) ?_
      refine wl_nil ?_
      refine rk_if rfl (fun h108 => absurd h108 (by omega)) (fun h108 => ?_)
      refine rk_skip ?_
      refine rk_blk ?_
      refine rk_region ?_
      refine wl_p (fun _ => o_move rfl) ?_
      refine wl_p (fun _ => o_add rfl rfl (by omega) (by omega)) ?_
      refine wl_p (fun _ => o_assign rfl) ?_
      refine wl_nil ?_
      exact rk_againf (Fr.le_of (by kernel_rfl) (by kernel_rfl) (by repeat' constructor)) ⟨i + 1, (i : Int) + 1, rfl, by omega, by omega, by omega, rfl, fo, hw⟩ (by omega)
    · refine rk_exit rfl ?_
      exact rk_tof hj (Fr.le_of (by kernel_rfl) (by kernel_rfl) (by repeat' constructor)) ⟨rfl, hw⟩
  clear hw fo
  rintro fr w3 ⟨rfl, hw⟩
  first | refine rk_frame (by simp only [List.cons_append, List.nil_append, List.drop_succ_cons, List.drop_zero]; rfl) ?_ | refine wl_frame (by simp only [List.cons_append, List.nil_append, List.drop_succ_cons, List.drop_zero]; rfl) ?_
  refine rk_seq ?_
  refine rk_region ?_
  refine wl_p (fun _ => o_move rfl) ?_
  refine wl_p (fun _ => o_move rfl) ?_
  refine wl_p (fun _ => o_len (t := 39) Try.underlying39 rfl) ?_
  refine wl_p (fun _ => o_mul rfl rfl (by omega) (by omega)) ?_
  refine wl_p (fun _ => o_eq rfl rfl) ?_
  refine wl_p (fun _ => o_assign rfl) ?_
  refine wl_nil ?_
  refine ret1 rfl rfl ?_
  exact ⟨congrArg Value.bool (decide_eq_true (by omega)), hw⟩
end Go.Proofs.Ytldhmnakkkjenaa
