/-
  Numbers as words of 32 bits, and walks of the reference's long numbers: the product, a word, which is above.
-/
import Derived.Test.YtldhmnakkkjenaaShI
import Derived.Test.YtldhmnakkkjenaaW
namespace Go.Proofs.Ytldhmnakkkjenaa
open Go.RowKit
/-! Numbers in words of any size: the value of the first ones. -/
def vn (B : Nat) (l : List Nat) : Nat → Nat
  | 0 => 0
  | n + 1 => vn B l n + l.getD n 0 * B ^ n
theorem getD_lt {B : Nat} {l : List Nat} (hB : 0 < B) (h : ∀ x ∈ l, x < B) (n : Nat) : l.getD n 0 < B := by
  rw [List.getD_eq_getElem?_getD]
  rcases Nat.lt_or_ge n l.length with h1 | h1
  · rw [List.getElem?_eq_getElem h1]; exact h _ (List.getElem_mem h1)
  · rw [List.getElem?_eq_none h1]; exact hB
theorem getD_get {l : List Nat} {n : Nat} (h : n < l.length) : l.getD n 0 = l[n] := by
  rw [List.getD_eq_getElem?_getD, List.getElem?_eq_getElem h]; rfl
theorem getD_zero {l : List Nat} {n : Nat} (h : l.length ≤ n) : l.getD n 0 = 0 := by
  rw [List.getD_eq_getElem?_getD, List.getElem?_eq_none h]; rfl
theorem vn_lt {B : Nat} {l : List Nat} (hB : 0 < B) (h : ∀ x ∈ l, x < B) : ∀ n, vn B l n < B ^ n
  | 0 => by show 0 < 1; decide
  | n + 1 => by
    have ih := vn_lt hB h n
    have h1 : (l.getD n 0 + 1) * B ^ n ≤ B * B ^ n := Nat.mul_le_mul_right _ (getD_lt hB h n)
    rw [Nat.add_mul, Nat.one_mul] at h1
    rw [Nat.pow_succ, Nat.mul_comm]
    show vn B l n + l.getD n 0 * B ^ n < B * B ^ n
    omega
theorem vn_set_ge {B : Nat} {l : List Nat} {j x : Nat} : ∀ n, n ≤ j → vn B (l.set j x) n = vn B l n
  | 0, _ => rfl
  | n + 1, h => by
    have e : (l.set j x).getD n 0 = l.getD n 0 := by
      rw [List.getD_eq_getElem?_getD, List.getD_eq_getElem?_getD, List.getElem?_set_ne (by omega)]
    show vn B (l.set j x) n + _ = vn B l n + _
    rw [vn_set_ge n (by omega), e]
theorem vn_set {B : Nat} {l : List Nat} {j x : Nat} (hj : j < l.length) : ∀ n, j < n → vn B (l.set j x) n + l.getD j 0 * B ^ j = vn B l n + x * B ^ j
  | 0, h => by omega
  | n + 1, h => by
    show vn B (l.set j x) n + (l.set j x).getD n 0 * B ^ n + _ = vn B l n + l.getD n 0 * B ^ n + _
    rcases Nat.lt_or_ge j n with h1 | h1
    · have ih := vn_set (B := B) (x := x) hj n h1
      have e : (l.set j x).getD n 0 = l.getD n 0 := by
        rw [List.getD_eq_getElem?_getD, List.getD_eq_getElem?_getD, List.getElem?_set_ne (by omega)]
      rw [e]; omega
    · obtain rfl : j = n := by omega
      have e : (l.set j x).getD j 0 = x := by
        rw [List.getD_eq_getElem?_getD, List.getElem?_set_self hj]; rfl
      rw [e, vn_set_ge _ (Nat.le_refl _)]; omega
theorem vn_more {B : Nat} {l : List Nat} : ∀ n, l.length ≤ n → vn B l n = vn B l l.length
  | 0, h => by rw [Nat.le_zero.1 h]
  | n + 1, h => by
    rcases Nat.eq_or_lt_of_le h with h1 | h1
    · rw [h1]
    · show vn B l n + _ = _
      rw [getD_zero (by omega), Nat.zero_mul, Nat.add_zero, vn_more n (by omega)]
theorem vn_zeros {B m : Nat} : ∀ n, vn B (List.replicate m 0) n = 0
  | 0 => rfl
  | n + 1 => by
    have e : (List.replicate m 0).getD n 0 = 0 := by
      rw [List.getD_eq_getElem?_getD, List.getElem?_replicate]; split <;> rfl
    show vn B _ n + _ = 0
    rw [vn_zeros n, e, Nat.zero_mul]
/-- Which one is above: by the highest word in which they differ. -/
theorem vn_cmp {B : Nat} {a b : List Nat} (hB : 0 < B) (ha : ∀ x ∈ a, x < B) (hb : ∀ x ∈ b, x < B) {n : Nat} (h : a.getD n 0 ≠ b.getD n 0) : decide (vn B b (n + 1) < vn B a (n + 1)) = decide (b.getD n 0 < a.getD n 0) := by
  have h1 := vn_lt hB ha n
  have h2 := vn_lt hB hb n
  show decide (vn B b n + b.getD n 0 * B ^ n < vn B a n + a.getD n 0 * B ^ n) = _
  apply decide_eq_decide.2
  rcases Nat.lt_or_gt_of_ne h with h3 | h3
  · have h4 : (a.getD n 0 + 1) * B ^ n ≤ b.getD n 0 * B ^ n := Nat.mul_le_mul_right _ h3
    rw [Nat.add_mul] at h4
    omega
  · have h4 : (b.getD n 0 + 1) * B ^ n ≤ a.getD n 0 * B ^ n := Nat.mul_le_mul_right _ h3
    rw [Nat.add_mul] at h4
    omega
/-- One word of a product. -/
theorem mul_word {B i k c a1 b1 o V A W q q' : Nat} (hq : q + c * B ^ (i + k) = A + a1 * B ^ i * V) (hs : q' + o * B ^ (i + k) = q + (c + a1 * b1 + o) % B * B ^ (i + k)) (hW : W = V + b1 * B ^ k) :
    q' + (c + a1 * b1 + o) / B * B ^ (i + (k + 1)) = A + a1 * B ^ i * W := by
  subst hW
  have hd := Nat.div_add_mod (c + a1 * b1 + o) B
  generalize (c + a1 * b1 + o) / B = D at hd ⊢
  generalize (c + a1 * b1 + o) % B = M at hd hs
  have e1 : D * B ^ (i + (k + 1)) = B * D * B ^ (i + k) := by rw [← Nat.add_assoc, Nat.pow_succ]; grind
  have e2 : a1 * B ^ i * (V + b1 * B ^ k) = a1 * B ^ i * V + a1 * b1 * B ^ (i + k) := by rw [Nat.pow_add]; grind
  have e3 : (c + a1 * b1 + o) * B ^ (i + k) = c * B ^ (i + k) + a1 * b1 * B ^ (i + k) + o * B ^ (i + k) := by rw [Nat.add_mul, Nat.add_mul]
  rw [← hd, Nat.add_mul] at e3
  rw [e1, e2]
  omega
theorem word_room {B c a1 b1 o : Nat} (hc : c < B) (ha : a1 < B) (hb : b1 < B) (ho : o < B) : c + a1 * b1 + o < B * B := by
  have h1 : a1 * b1 ≤ (B - 1) * (B - 1) := Nat.mul_le_mul (by omega) (by omega)
  obtain ⟨D, rfl⟩ : ∃ D, B = D + 1 := ⟨B - 1, by omega⟩
  rw [Nat.add_sub_cancel] at h1
  rw [Nat.add_mul, Nat.mul_add]
  omega
theorem wrap_word {c x y o : Nat} (h : c + x * y + o < 4294967296 * 4294967296) : IntKind.u64.wrap (IntKind.u64.wrap ((c : Int) + IntKind.u64.wrap ((x : Int) * (y : Int))) + (o : Int)) = ((c + x * y + o : Nat) : Int) := by
  have hc : ((x * y : Nat) : Int) = (x : Int) * (y : Int) := Int.natCast_mul x y
  simp only [IntKind.wrap_u64, ← hc]
  omega
theorem Try.rowL : RowT Try.prog 57 22 (.int .u32 0) 1 4 := ⟨Try.underlying57, by kernel_rfl, rfl, by omega⟩
section
variable {fn : Func} {F : Ending → World → Prop} {N : Nat} {ks : List K} {ops : Array Oper} {tg : Tags} {l : List Oper} {fr : Fr} {w : World} {ty : TypeId} {k1 k2 : IntKind} {pos : String} {aft : Array Edge} {gd : Option (Nat × Bool)} {d j q lo hi : Nat} {x y : Operand} {A X : Option Addr} {zs : List Nat}
--@ rule makeSlice l wl_mkL
theorem wl_mkL {C E : Int} (n : Nat) (hx : fr.ev x = some (.int k1 E)) (hy : fr.ev y = some (.int k2 C)) (hE : E = (n : Int)) (hC : C = (n : Int)) (hn : n ≤ 1000000)
    (hk : ∀ A w', OwnK .u32 22 w' w.heap.size w'.heap.size A n (List.replicate n 0) → Below w.heap.size w w' → WL Try.prog fn F N ks ops tg.tail l ((d, .slice A n n) :: fr) w')
    (ht : tg.loud = true := by rfl) (hg : onG ops fr gd = true := by rfl) (hd : Nat.blt d N = true := by rfl) : WL Try.prog fn F N ks ops tg (⟨some d, .makeSlice 57 x y, ty, pos, aft, gd⟩ :: l) fr w :=
  wl_mkK Try.rowL (by decide) n hx hy hE hC hn hk ht hg hd
--@ rule buildSlice l wl_litL0
theorem wl_litL0 (hk : ∀ A w', OwnK .u32 22 w' w.heap.size w'.heap.size A 0 [] → Below w.heap.size w w' → WL Try.prog fn F N ks ops tg.tail l ((d, .slice A 0 0) :: fr) w')
    (ht : tg.loud = true := by rfl) (hg : onG ops fr gd = true := by rfl) (hd : Nat.blt d N = true := by rfl) : WL Try.prog fn F N ks ops tg (⟨some d, .buildSlice 57 0 #[], ty, pos, aft, gd⟩ :: l) fr w :=
  wl_litK0 Try.rowL Try.sizeOf22 Try.zeroValue22 hk ht hg hd
--@ rule append l wl_appL0
theorem wl_appL0 (hx : fr.ev x = some (.slice A 0 0)) (hown : OwnK .u32 22 w lo hi A 0 []) (hy : fr.ev y = some (.slice X j q)) (hr : RdK .u32 w X zs) (hj : j = zs.length) (hlen : zs.length ≤ 1000000) (hB : lo ≤ w.heap.size)
    (h : ∀ A' c' w', OwnK .u32 22 w' lo w'.heap.size A' c' zs → Below w.heap.size w w' → WL Try.prog fn F N ks ops tg.tail l ((d, .slice A' zs.length c') :: fr) w')
    (ht : tg.loud = true := by rfl) (hg : onG ops fr gd = true := by rfl) (hd : Nat.blt d N = true := by rfl) :
    WL Try.prog fn F N ks ops tg (⟨some d, .call { callee := .builtin .append, args := #[x, y], argTypes := #[57, 57] }, ty, pos, aft, gd⟩ :: l) fr w :=
  wl_appK0 Try.rowL (by decide) hx hown hy hr hj hlen hB h ht hg hd
end
/-- Words of 32 bits. -/
def L32 (l : List Nat) : Prop := ∀ x ∈ l, x < 4294967296
theorem L32.at_ {l : List Nat} (h : L32 l) (n : Nat) (hn : n < l.length) : l[n] < 4294967296 := h _ (List.getElem_mem hn)
theorem L32.set_ {l : List Nat} (h : L32 l) {j x : Nat} (hx : x < 4294967296) : L32 (l.set j x) := fun y hy => by
  rcases List.mem_or_eq_of_mem_set hy with h1 | h1
  · exact h _ h1
  · rw [h1]; exact hx
set_option maxHeartbeats 1000000 in
theorem C_refmul {a b : List Nat} {c d : Nat} (w : World) (A B : Option Addr) (hA : RdK .u32 w A a) (hB : RdK .u32 w B b) (ha : L32 a) (hb : L32 b) (hla : a.length ≤ 1000) (hlb : b.length ≤ 1000) :
    CallsR Try.prog 43 [.slice A a.length c, .slice B b.length d] w fun v w' => ∃ A' c' q, v = .slice A' q.length c' ∧ q.length = a.length + b.length ∧ L32 q ∧ vn 4294967296 q q.length = vn 4294967296 a a.length * vn 4294967296 b b.length ∧ OwnK .u32 22 w' w.heap.size w'.heap.size A' c' q ∧ Below w.heap.size w w' := by
  refine callsR Try.func43 rfl rfl (by kernel_rfl) rfl ?_
  have hw := Below.refl w.heap.size w
  refine rk_seq ?_
  refine rk_region ?_
  refine wl_p (fun _ => o_assign rfl) ?_
  refine wl_nil ?_
  refine rk_seq ?_
  refine rk_region ?_
  refine wl_p (fun _ => o_move rfl) ?_
  refine wl_p (fun _ => o_len (t := 57) Try.underlying57 rfl) ?_
  refine wl_p (fun _ => o_move rfl) ?_
  refine wl_p (fun _ => o_len (t := 57) Try.underlying57 rfl) ?_
  refine wl_p (fun _ => o_add rfl rfl (by omega) (by omega)) ?_
  refine wl_mkL (a.length + b.length) rfl rfl (by omega) (by rfl) (by omega) ?_
  rintro A14 w14 f14 b14
  have qf14 := f14.cap
  have s14 := b14.size
  replace hw := hw.trans (b14.mono hw.size)
  refine wl_p (fun _ => o_assign rfl) ?_
  refine wl_nil ?_
  refine rk_seq ?_
  refine rk_seq ?_
  refine rk_region ?_
  refine wl_p (fun _ => o_assign rfl) ?_
  refine wl_nil ?_
  refine rk_block ?_
  refine rk_joinf (fun fb fr w2 => ∃ q, fr = [] ++ fb.drop 1 ∧ q.length = a.length + b.length ∧ L32 q ∧ vn 4294967296 q (a.length + b.length) = vn 4294967296 a a.length * vn 4294967296 b b.length ∧ OwnK .u32 22 w2 w.heap.size w2.heap.size A14 (a.length + b.length) q ∧ Below w.heap.size w w2) ?_ (fun ks hj => ?_)
  rotate_left
  · refine rk_loopf (fun fb m fr w2 => ∃ (i : Nat) (v : Int) (q : List Nat), fr = [(6, .int .i64 v)] ++ fb.drop 1 ∧ v = i ∧ i ≤ a.length ∧ m = a.length - i ∧ q.length = a.length + b.length ∧ L32 q ∧ (∀ j, i + b.length ≤ j → q.getD j 0 = 0) ∧ vn 4294967296 q (a.length + b.length) = vn 4294967296 a i * vn 4294967296 b b.length ∧ OwnK .u32 22 w2 w.heap.size w2.heap.size A14 (a.length + b.length) q ∧ Below w.heap.size w w2) (n := a.length) (Fr.le_of (by kernel_rfl) (by kernel_rfl) (by repeat' constructor)) ⟨0, _, _, rfl, rfl, by omega, rfl, List.length_replicate, fun x hx => by rw [List.eq_of_mem_replicate hx]; decide, fun j _ => by rw [List.getD_eq_getElem?_getD, List.getElem?_replicate]; split <;> rfl, by rw [vn_zeros]; show 0 = 0 * _; rw [Nat.zero_mul], f14, hw⟩ ?_
    clear hw f14
    rintro m fr w2 ⟨i, v, q, rfl, rfl, hi, rfl, hql, hqL, hqz, hqv, fo, hw⟩
    have shw := hw.size
    first | refine rk_frame (by simp only [List.cons_append, List.nil_append, List.drop_succ_cons, List.drop_zero]; rfl) ?_ | refine wl_frame (by simp only [List.cons_append, List.nil_append, List.drop_succ_cons, List.drop_zero]; rfl) ?_
    refine rk_seq ?_
    refine rk_seq ?_
    refine rk_region ?_
    refine wl_p (fun _ => o_move rfl) ?_
    refine wl_p (fun _ => o_move rfl) ?_
    refine wl_p (fun _ => o_len (t := 57) Try.underlying57 rfl) ?_
    refine wl_p (fun _ => o_lt rfl rfl) ?_
    refine wl_nil ?_
    refine rk_if rfl (fun h18 => ?_) (fun h18 => ?_)
    · have hil : i < a.length := by omega
      obtain ⟨x, hx⟩ : ∃ x, a[i] = x := ⟨_, rfl⟩
      have hxl : x < 4294967296 := by rw [← hx]; exact ha.at_ i hil
      refine rk_skip ?_
      refine rk_seq ?_
      refine rk_block ?_
      refine rk_seq ?_
      refine rk_region ?_
      refine wl_p (fun _ => o_assign rfl) ?_
      refine wl_nil ?_
      refine rk_seq ?_
      refine rk_seq ?_
      refine rk_region ?_
      refine wl_p (fun _ => o_assign rfl) ?_
      refine wl_nil ?_
      refine rk_block ?_
      refine rk_joinf (fun fb fr w3 => ∃ (cc : Nat) (q' : List Nat), fr = [(7, .int .u64 (cc : Int))] ++ fb.drop 2 ∧ cc < 4294967296 ∧ q'.length = a.length + b.length ∧ L32 q' ∧ (∀ j, i + b.length ≤ j → q'.getD j 0 = 0) ∧ vn 4294967296 q' (a.length + b.length) + cc * 4294967296 ^ (i + b.length) = vn 4294967296 a i * vn 4294967296 b b.length + x * 4294967296 ^ i * vn 4294967296 b b.length ∧ OwnK .u32 22 w3 w.heap.size w3.heap.size A14 (a.length + b.length) q' ∧ w2.heap.size ≤ w3.heap.size ∧ Below w.heap.size w w3) ?_ (fun ks2 hj2 => ?_)
      rotate_left
      · refine rk_loopf (fun fb m fr w3 => ∃ (k cc : Nat) (v : Int) (q' : List Nat), fr = [(8, .int .i64 v), (7, .int .u64 (cc : Int))] ++ fb.drop 2 ∧ v = k ∧ k ≤ b.length ∧ m = b.length - k ∧ cc < 4294967296 ∧ q'.length = a.length + b.length ∧ L32 q' ∧ (∀ j, i + b.length ≤ j → q'.getD j 0 = 0) ∧ vn 4294967296 q' (a.length + b.length) + cc * 4294967296 ^ (i + k) = vn 4294967296 a i * vn 4294967296 b b.length + x * 4294967296 ^ i * vn 4294967296 b k ∧ OwnK .u32 22 w3 w.heap.size w3.heap.size A14 (a.length + b.length) q' ∧ w2.heap.size ≤ w3.heap.size ∧ Below w.heap.size w w3) (n := b.length) (Fr.le_of (by kernel_rfl) (by kernel_rfl) (by repeat' constructor)) ⟨0, 0, _, q, rfl, rfl, by omega, rfl, by decide, hql, hqL, hqz, by rw [hqv, Nat.zero_mul]; rfl, fo, Nat.le_refl _, hw⟩ ?_
        clear hw fo
        rintro m fr w3 ⟨k, cc, v, q', rfl, rfl, hk, rfl, hcc, hql', hqL', hqz', hqv', fo, hsz, hw⟩
        have shw := hw.size
        first | refine rk_frame (by simp only [List.cons_append, List.nil_append, List.drop_succ_cons, List.drop_zero]; rfl) ?_ | refine wl_frame (by simp only [List.cons_append, List.nil_append, List.drop_succ_cons, List.drop_zero]; rfl) ?_
        refine rk_seq ?_
        refine rk_seq ?_
        refine rk_region ?_
        refine wl_p (fun _ => o_move rfl) ?_
        refine wl_p (fun _ => o_move rfl) ?_
        refine wl_p (fun _ => o_len (t := 57) Try.underlying57 rfl) ?_
        refine wl_p (fun _ => o_lt rfl rfl) ?_
        refine wl_nil ?_
        refine rk_if rfl (fun h24 => ?_) (fun h24 => ?_)
        · have hkl : k < b.length := by omega
          have hikl : i + k < q'.length := by omega
          obtain ⟨y, hy⟩ : ∃ y, b[k] = y := ⟨_, rfl⟩
          have hyl : y < 4294967296 := by rw [← hy]; exact hb.at_ k hkl
          obtain ⟨o, ho⟩ : ∃ o, q'[i + k] = o := ⟨_, rfl⟩
          have hol : o < 4294967296 := by rw [← ho]; exact hqL'.at_ _ hikl
          have hroom := word_room hcc hxl hyl hol
          have e1 := wrap_word hroom
          refine rk_skip ?_
          refine rk_seq ?_
          refine rk_block ?_
          refine rk_seq ?_
          refine rk_draw (id := 9) (none) [0, 0, 0, 6, 8, 16, 0, 0, 192, 256, 512, 1056, 2049, 0, 0, 0, 49152, 73728, 131072, 262144, 528384, 2097151] [0, 0, 0, 6, 14, 30, 0, 0, 192, 448, 960, 2046, 4095, 0, 0, 0, 49152, 122880, 253952, 516096, 1048575, 2097151] 0 0 [(.p, 0), (.p, 1), (.p, 2), (.p, 3), (.r, 4), (.p, 5), (.p, 6), (.p, 7), (.p, 8), (.r, 9), (.p, 10), (.p, 11), (.p, 12), (.p, 13), (.p, 14), (.p, 15), (.p, 16), (.p, 17), (.r, 18), (.p, 19), (.p, 20), (.p, 21)] (by kernel_rfl) (by kernel_rfl) (by kernel_rfl) (by kernel_rfl) (by kernel_rfl) ?_
          replace hw := hw.drew
          replace fo := fo.d
          refine wl_p (fun _ => o_move rfl) ?_
          refine wl_p (fun _ => o_move rfl) ?_
          refine wl_p (fun _ => o_move rfl) ?_
          refine wl_p (fun _ => (o_iaddrA1 (i) Try.underlying57 Try.sizeOf22 rfl rfl rfl (hA.some_ (by omega)) (by omega))) ?_
          refine wl_r (o_ldK Try.isAgg22 rfl (hA.u hw) (by omega)) ?_
          refine wl_p (fun _ => o_convu64 (src := 22) (dst := 25) Try.underlying22 Try.underlying25 rfl (by omega) (by omega)) ?_
          refine wl_p (fun _ => o_move rfl) ?_
          refine wl_p (fun _ => o_move rfl) ?_
          refine wl_p (fun _ => (o_iaddrA1 (k) Try.underlying57 Try.sizeOf22 rfl rfl rfl (hB.some_ (by omega)) (by omega))) ?_
          refine wl_r (o_ldK Try.isAgg22 rfl (hB.u hw) (by omega)) ?_
          refine wl_p (fun _ => o_convu64 (src := 22) (dst := 25) Try.underlying22 Try.underlying25 rfl (by omega) (by omega)) ?_
          refine wl_p (fun _ => o_mulw rfl rfl) ?_
          refine wl_p (fun _ => o_addw rfl rfl) ?_
          refine wl_p (fun _ => o_move rfl) ?_
          refine wl_p (fun _ => o_move rfl) ?_
          refine wl_p (fun _ => o_move rfl) ?_
          refine wl_p (fun _ => o_add rfl rfl (by omega) (by omega)) ?_
          refine wl_p (fun _ => (o_iaddrA1 (i + k) Try.underlying57 Try.sizeOf22 rfl rfl (by omega) (fo.some_ (by omega)) (by omega))) ?_
          refine wl_r (o_ldK Try.isAgg22 rfl fo.to_RdK (by omega)) ?_
          refine wl_p (fun _ => o_convu64 (src := 22) (dst := 25) Try.underlying22 Try.underlying25 rfl (by omega) (by omega)) ?_
          refine wl_p (fun _ => o_addw rfl rfl) ?_
          refine wl_p (fun _ => o_assign rfl) ?_
          refine wl_nild ?_
          refine rk_seq ?_
          refine rk_region ?_
          refine wl_p (fun _ => o_move rfl) ?_
          refine wl_p (fun _ => o_move rfl) ?_
          refine wl_p (fun _ => o_move rfl) ?_
          refine wl_p (fun _ => o_add rfl rfl (by omega) (by omega)) ?_
          refine wl_p (fun _ => o_move rfl) ?_
          rw [hx, hy, ho, e1]
          obtain ⟨S, hS⟩ : ∃ S, cc + x * y + o = S := ⟨_, rfl⟩
          rw [hS] at hroom ⊢
          refine wl_p (fun _ => o_remu rfl rfl (by omega) (by omega)) ?_
          refine wl_p (fun _ => o_convi (src := 25) (dst := 22) Try.underlying25 Try.underlying22 rfl) ?_
          refine wl_p (fun _ => (o_iaddrA1 (i + k) Try.underlying57 Try.sizeOf22 rfl rfl (by omega) (fo.some_ (by omega)) (by omega))) ?_
          refine wl_stK Try.sizeOf22 rfl fo rfl (by omega) ?_
          rintro w_1 f g b_1 e
          simp only [drew_size] at e
          have qf := f.cap
          have s := g.size
          simp only [drew_size] at s
          replace hw := hw.trans (b_1.mono (by omega))
          clear fo
          refine wl_nil ?_
          refine rk_region ?_
          refine wl_p (fun _ => o_move rfl) ?_
          refine wl_p (fun _ => o_shr rfl rfl (by omega)) ?_
          refine wl_p (fun _ => o_assign rfl) ?_
          refine wl_nil ?_
          refine rk_blk ?_
          refine rk_region ?_
          refine wl_p (fun _ => o_move rfl) ?_
          refine wl_p (fun _ => o_add rfl rfl (by omega) (by omega)) ?_
          refine wl_p (fun _ => o_assign rfl) ?_
          refine wl_nil ?_
          rw [show S % Int.natAbs 4294967296 % ((2:Int) ^ IntKind.u32.bits).natAbs = S % 4294967296 from by show S % 4294967296 % 4294967296 = _; omega] at f
          rw [show (S : Int) / 2 ^ min (Int.toNat 32) IntKind.u64.bits = ((S / 4294967296 : Nat) : Int) from by show (S : Int) / 4294967296 = _; omega]
          have hst := vn_set (B := 4294967296) (l := q') (j := i + k) (x := (cc + x * y + o) % 4294967296) hikl (a.length + b.length) (by omega)
          rw [getD_get hikl, ho] at hst
          have hW : vn 4294967296 b (k + 1) = vn 4294967296 b k + y * 4294967296 ^ k := by
            show vn 4294967296 b k + b.getD k 0 * 4294967296 ^ k = _
            rw [getD_get hkl, hy]
          have hmw := mul_word hqv' hst hW
          rw [hS] at hmw
          exact rk_againf (Fr.le_of (by kernel_rfl) (by kernel_rfl) (by repeat' constructor)) ⟨k + 1, S / 4294967296, (k : Int) + 1, q'.set (i + k) (S % 4294967296), rfl, by omega, by omega, rfl, by omega, by rw [List.length_set]; exact hql', hqL'.set_ (Nat.mod_lt _ (by decide)), fun j hj => by
            rw [List.getD_eq_getElem?_getD, List.getElem?_set_ne (by omega), ← List.getD_eq_getElem?_getD]; exact hqz' j hj, hmw, by rw [show (w_1.heap.size : Nat) = w3.heap.size from by omega]; exact f, by omega, hw⟩ (by omega)
        · refine rk_exit rfl ?_
          obtain rfl : k = b.length := by omega
          exact rk_tof hj2 (Fr.le_of (by kernel_rfl) (by kernel_rfl) (by repeat' constructor)) ⟨cc, q', rfl, hcc, hql', hqL', hqz', hqv', fo, hsz, hw⟩
      clear hw fo
      rintro fr w3 ⟨cc, q', rfl, hcc, hql', hqL', hqz', hqv', fo, hsz, hw⟩
      have shw := hw.size
      first | refine rk_frame (by simp only [List.cons_append, List.nil_append, List.drop_succ_cons, List.drop_zero]; rfl) ?_ | refine wl_frame (by simp only [List.cons_append, List.nil_append, List.drop_succ_cons, List.drop_zero]; rfl) ?_
      refine rk_region ?_
      refine wl_p (fun _ => o_move rfl) ?_
      refine wl_p (fun _ => o_move rfl) ?_
      refine wl_p (fun _ => o_move rfl) ?_
      refine wl_p (fun _ => o_len (t := 57) Try.underlying57 rfl) ?_
      refine wl_p (fun _ => o_add rfl rfl (by omega) (by omega)) ?_
      refine wl_p (fun _ => o_move rfl) ?_
      refine wl_p (fun _ => o_convi (src := 25) (dst := 22) Try.underlying25 Try.underlying22 rfl) ?_
      refine wl_p (fun _ => (o_iaddrA1 (i + b.length) Try.underlying57 Try.sizeOf22 rfl rfl (by omega) (fo.some_ (by omega)) (by omega))) ?_
      refine wl_stK Try.sizeOf22 rfl fo rfl (by omega) ?_
      rintro w_1 f g b_1 e
      have qf := f.cap
      have s := g.size
      replace hw := hw.trans (b_1.mono (by omega))
      clear fo
      refine wl_nil ?_
      refine rk_blk ?_
      refine rk_region ?_
      refine wl_p (fun _ => o_move rfl) ?_
      refine wl_p (fun _ => o_add rfl rfl (by omega) (by omega)) ?_
      refine wl_p (fun _ => o_assign rfl) ?_
      refine wl_nil ?_
      rw [show cc % ((2:Int) ^ IntKind.u32.bits).natAbs = cc from Nat.mod_eq_of_lt hcc] at f
      have hst := vn_set (B := 4294967296) (l := q') (j := i + b.length) (x := cc) (by omega) (a.length + b.length) (by omega)
      rw [hqz' _ (Nat.le_refl _), Nat.zero_mul, Nat.add_zero] at hst
      exact rk_againf (Fr.le_of (by kernel_rfl) (by kernel_rfl) (by repeat' constructor)) ⟨i + 1, (i : Int) + 1, q'.set (i + b.length) cc, rfl, by omega, by omega, rfl, by rw [List.length_set]; exact hql', hqL'.set_ hcc, fun j hj => by
        rw [List.getD_eq_getElem?_getD, List.getElem?_set_ne (by omega), ← List.getD_eq_getElem?_getD]; exact hqz' j (by omega), by
        rw [hst, hqv']
        show _ = (vn 4294967296 a i + a.getD i 0 * 4294967296 ^ i) * _
        rw [getD_get hil, hx, Nat.add_mul], by rw [show (w_1.heap.size : Nat) = w3.heap.size from by omega]; exact f, hw⟩ (by omega)
    · refine rk_exit rfl ?_
      have hia : i = a.length := by omega
      rw [hia] at hqv
      exact rk_tof hj (Fr.le_of (by kernel_rfl) (by kernel_rfl) (by repeat' constructor)) ⟨q, rfl, hql, hqL, hqv, fo, hw⟩
  clear hw f14
  rintro fr w2 ⟨q, rfl, hql, hqL, hqv, fo, hw⟩
  have shw := hw.size
  first | refine rk_frame (by simp only [List.cons_append, List.nil_append, List.drop_succ_cons, List.drop_zero]; rfl) ?_ | refine wl_frame (by simp only [List.cons_append, List.nil_append, List.drop_succ_cons, List.drop_zero]; rfl) ?_
  refine rk_seq ?_
  refine rk_region ?_
  refine wl_p (fun _ => o_move rfl) ?_
  refine wl_p (fun _ => o_assign rfl) ?_
  refine wl_nil ?_
  rw [← hql]
  refine ret1 rfl rfl ?_
  exact ⟨_, _, q, rfl, rfl, hqL, by rw [hql]; exact hqv, by rw [← hql] at fo; exact fo, hw⟩
theorem C_refmul2 {a b : List Nat} {c d na nb : Nat} (w : World) (A B : Option Addr) (hA : RdK .u32 w A a) (hB : RdK .u32 w B b) (ha : L32 a) (hb : L32 b) (hna : na = a.length) (hnb : nb = b.length) (hla : a.length ≤ 1000) (hlb : b.length ≤ 1000) :
    CallsR Try.prog 43 [.slice A na c, .slice B nb d] w fun v w' => ∃ A' c' q, v = .slice A' q.length c' ∧ q.length = a.length + b.length ∧ L32 q ∧ vn 4294967296 q q.length = vn 4294967296 a a.length * vn 4294967296 b b.length ∧ OwnK .u32 22 w' w.heap.size w'.heap.size A' c' q ∧ Below w.heap.size w w' := by
  subst hna; subst hnb
  exact C_refmul w A B hA hB ha hb hla hlb
/-! A word of a number; which is above. -/
theorem C_refword {a : List Nat} {c i na x : Nat} (w : World) (A : Option Addr) (hA : RdK .u32 w A a) (hr : a.getD i 0 = x) (hna : na = a.length) :
    CallsR Try.prog 49 [.slice A na c, .int .i64 (i : Int)] w fun v w' => v = .int .u32 (x : Int) ∧ Below w.heap.size w w' := by
  subst hna
  refine callsR Try.func49 rfl rfl (by kernel_rfl) rfl ?_
  have hw := Below.refl w.heap.size w
  refine rk_seq ?_
  refine rk_region ?_
  refine wl_p (fun _ => o_assign rfl) ?_
  refine wl_nil ?_
  refine rk_seq ?_
  refine rk_seq ?_
  refine rk_region ?_
  refine wl_p (fun _ => o_move rfl) ?_
  refine wl_p (fun _ => o_move rfl) ?_
  refine wl_p (fun _ => o_len (t := 57) Try.underlying57 rfl) ?_
  refine wl_p (fun _ => o_lt rfl rfl) ?_
  refine wl_nil ?_
  refine rk_if rfl (fun h8 => ?_) (fun h8 => ?_)
  · have hil : i < a.length := by omega
    have hx : a[i] = x := by rw [← hr, getD_get hil]
    refine rk_seq ?_
    refine rk_region ?_
    refine wl_p (fun _ => o_move rfl) ?_
    refine wl_p (fun _ => o_move rfl) ?_
    refine wl_p (fun _ => (o_iaddrA1 (i) Try.underlying57 Try.sizeOf22 rfl rfl rfl (hA.some_ (by omega)) (by omega))) ?_
    refine wl_r (o_ldK Try.isAgg22 rfl hA (by omega)) ?_
    refine wl_p (fun _ => o_assign rfl) ?_
    refine wl_nil ?_
    rw [hx]
    refine ret1 rfl rfl ?_
    exact ⟨rfl, hw⟩
  · have hx : x = 0 := by rw [← hr, getD_zero (by omega)]
    subst hx
    refine rk_skip ?_
    refine rk_seq ?_
    refine rk_region ?_
    refine wl_p (fun _ => o_assign rfl) ?_
    refine wl_nil ?_
    refine ret1 rfl rfl ?_
    exact ⟨rfl, hw⟩
theorem vn_agree {B : Nat} {a b : List Nat} {n : Nat} (h : ∀ j, n ≤ j → a.getD j 0 = b.getD j 0) : ∀ k, decide (vn B b (n + k) < vn B a (n + k)) = decide (vn B b n < vn B a n)
  | 0 => rfl
  | k + 1 => by
    rw [← vn_agree h k]
    apply decide_eq_decide.2
    show vn B b (n + k) + b.getD (n + k) 0 * _ < vn B a (n + k) + a.getD (n + k) 0 * _ ↔ _
    rw [h (n + k) (by omega)]
    omega
theorem C_refabove {a b : List Nat} {c d na nb : Nat} {r : Bool} (w : World) (A B : Option Addr) (hA : RdK .u32 w A a) (hB : RdK .u32 w B b) (hr : decide (vn 4294967296 b b.length < vn 4294967296 a a.length) = r) (ha : L32 a) (hb : L32 b) (hna : na = a.length) (hnb : nb = b.length) (hla : a.length ≤ 1000) (hlb : b.length ≤ 1000) :
    CallsR Try.prog 44 [.slice A na c, .slice B nb d] w fun v w' => v = .bool r ∧ Below w.heap.size w w' := by
  subst hna; subst hnb
  obtain ⟨M, hM⟩ : ∃ M, max a.length b.length = M := ⟨_, rfl⟩
  have hMa : a.length ≤ M := by omega
  have hMb : b.length ≤ M := by omega
  have hMr : decide (vn 4294967296 b M < vn 4294967296 a M) = r := by rw [vn_more M hMa, vn_more M hMb, hr]
  refine callsR Try.func44 rfl rfl (by kernel_rfl) rfl ?_
  have hw := Below.refl w.heap.size w
  refine rk_seq ?_
  refine rk_region ?_
  refine wl_p (fun _ => o_assign rfl) ?_
  refine wl_nil ?_
  refine rk_seq ?_
  refine rk_seq ?_
  refine rk_region ?_
  refine wl_p (fun _ => o_move rfl) ?_
  refine wl_p (fun _ => o_len (t := 57) Try.underlying57 rfl) ?_
  refine wl_p (fun _ => o_move rfl) ?_
  refine wl_p (fun _ => o_len (t := 57) Try.underlying57 rfl) ?_
  refine wl_p (fun _ => o_max rfl rfl) ?_
  refine wl_p (fun _ => o_sub rfl rfl (by omega) (by omega)) ?_
  refine wl_p (fun _ => o_assign rfl) ?_
  refine wl_nil ?_
  refine rk_block ?_
  refine rk_joinf (fun fb fr w2 => fr = [] ++ fb.drop 1 ∧ r = false ∧ Below w.heap.size w w2) ?_ (fun ks hj => ?_)
  rotate_left
  · refine rk_loopf (fun fb m fr w2 => ∃ (k : Nat) (v : Int), fr = [(5, .int .i64 v)] ++ fb.drop 1 ∧ v = (k : Int) - 1 ∧ k ≤ M ∧ m = k ∧ decide (vn 4294967296 b k < vn 4294967296 a k) = r ∧ Below w.heap.size w w2) (n := M) (Fr.le_of (by kernel_rfl) (by kernel_rfl) (by repeat' constructor)) ⟨M, _, rfl, by omega, Nat.le_refl _, rfl, hMr, hw⟩ ?_
    clear hw
    rintro m fr w2 ⟨k, v, rfl, rfl, hk, hm, hkr, hw⟩
    replace hm := hm.symm
    subst hm
    first | refine rk_frame (by simp only [List.cons_append, List.nil_append, List.drop_succ_cons, List.drop_zero]; rfl) ?_ | refine wl_frame (by simp only [List.cons_append, List.nil_append, List.drop_succ_cons, List.drop_zero]; rfl) ?_
    refine rk_seq ?_
    refine rk_seq ?_
    refine rk_region ?_
    refine wl_p (fun _ => o_move rfl) ?_
    refine wl_p (fun _ => o_ge rfl rfl) ?_
    refine wl_nil ?_
    refine rk_if rfl (fun h15 => ?_) (fun h15 => ?_)
    · obtain ⟨k, rfl⟩ : ∃ e, k = e + 1 := ⟨k - 1, by omega⟩
      obtain ⟨x, hx⟩ : ∃ x, a.getD k 0 = x := ⟨_, rfl⟩
      obtain ⟨y, hy⟩ : ∃ y, b.getD k 0 = y := ⟨_, rfl⟩
      have ek : ((k + 1 : Nat) : Int) - 1 = (k : Int) := by omega
      rw [ek]
      refine rk_skip ?_
      refine rk_seq ?_
      refine rk_block ?_
      refine rk_seq ?_
      refine rk_region ?_
      refine wl_p (fun _ => o_move rfl) ?_
      refine wl_p (fun _ => o_move rfl) ?_
      refine wl_call rfl (C_refword _ _ (hA.u hw) hx rfl) ?_
      rintro v20 w20 ⟨rfl, b20⟩
      have s20 := b20.size
      replace hw := hw.trans (b20.mono hw.size)
      refine wl_p (fun _ => o_move rfl) ?_
      refine wl_p (fun _ => o_move rfl) ?_
      refine wl_call rfl (C_refword _ _ (hB.u hw) hy rfl) ?_
      rintro v23 w23 ⟨rfl, b23⟩
      have s23 := b23.size
      replace hw := hw.trans (b23.mono hw.size)
      refine wl_p (fun _ => o_assign rfl) ?_
      refine wl_p (fun _ => o_assign rfl) ?_
      refine wl_nil ?_
      refine rk_seq ?_
      refine rk_region ?_
      refine wl_p (fun _ => o_move rfl) ?_
      refine wl_p (fun _ => o_move rfl) ?_
      refine wl_p (fun _ => o_ne rfl rfl) ?_
      refine wl_nil ?_
      refine rk_if rfl (fun h26 => ?_) (fun h26 => ?_)
      · have hcm := vn_cmp (B := 4294967296) (by decide) ha hb (n := k) (by omega)
        rw [hkr, hx, hy] at hcm
        refine rk_seq ?_
        refine rk_region ?_
        refine wl_p (fun _ => o_move rfl) ?_
        refine wl_p (fun _ => o_move rfl) ?_
        refine wl_p (fun _ => o_gt rfl rfl) ?_
        refine wl_p (fun _ => o_assign rfl) ?_
        refine wl_nil ?_
        refine ret1 rfl rfl ?_
        exact ⟨by rw [hcm]; congr 1; exact decide_eq_decide.2 (by omega), hw⟩
      · have hag : decide (vn 4294967296 b k < vn 4294967296 a k) = r := by
          rw [← hkr]
          apply decide_eq_decide.2
          show _ ↔ vn 4294967296 b k + b.getD k 0 * _ < vn 4294967296 a k + a.getD k 0 * _
          rw [hx, hy, show x = y from by omega]
          omega
        refine rk_skip ?_
        refine rk_blk ?_
        refine rk_region ?_
        refine wl_p (fun _ => o_move rfl) ?_
        refine wl_p (fun _ => o_sub rfl rfl (by omega) (by omega)) ?_
        refine wl_p (fun _ => o_assign rfl) ?_
        refine wl_nil ?_
        exact rk_againf (Fr.le_of (by kernel_rfl) (by kernel_rfl) (by repeat' constructor)) ⟨k, _, rfl, rfl, by omega, rfl, hag, hw⟩ (by omega)
    · refine rk_exit rfl ?_
      obtain rfl : k = 0 := by omega
      exact rk_tof hj (Fr.le_of (by kernel_rfl) (by kernel_rfl) (by repeat' constructor)) ⟨rfl, hkr.symm, hw⟩
  clear hw
  rintro fr w2 ⟨rfl, hr0, hw⟩
  subst hr0
  first | refine rk_frame (by simp only [List.cons_append, List.nil_append, List.drop_succ_cons, List.drop_zero]; rfl) ?_ | refine wl_frame (by simp only [List.cons_append, List.nil_append, List.drop_succ_cons, List.drop_zero]; rfl) ?_
  refine rk_seq ?_
  refine rk_region ?_
  refine wl_p (fun _ => o_assign rfl) ?_
  refine wl_nil ?_
  refine ret1 rfl rfl ?_
  exact ⟨rfl, hw⟩
/-! The powers. -/
theorem bits_or_u32_nat (a b : Nat) (ha : a < 4294967296) (hb : b < 4294967296) : bits .or .u32 (a : Int) (b : Int) = ((a ||| b : Nat) : Int) := by
  have hx : a ||| b < 2 ^ 32 := Nat.or_lt_two_pow (by omega) (by omega)
  have h1 : (BitVec.ofInt 32 (a : Int)).toNat = a := by
    rw [BitVec.ofInt_natCast, BitVec.toNat_ofNat]; exact Nat.mod_eq_of_lt (by omega)
  have h2 : (BitVec.ofInt 32 (b : Int)).toNat = b := by
    rw [BitVec.ofInt_natCast, BitVec.toNat_ofNat]; exact Nat.mod_eq_of_lt (by omega)
  show IntKind.u32.wrap ((BitVec.ofInt 32 (a : Int) ||| BitVec.ofInt 32 (b : Int)).toNat : Int) = _
  rw [BitVec.toNat_or, h1, h2, IntKind.wrap_u32]
  omega
theorem or_bit32 {x b : Nat} (hx : x < 4294967296) (hb : b < 32) (h : x % 2 ^ (b + 1) = 0) (z : Int) (hz : z = b) : bits .or .u32 (x : Int) (IntKind.u32.wrap (1 * 2 ^ min z.toNat IntKind.u32.bits)) = ((x + 2 ^ b : Nat) : Int) := by
  subst hz
  have h1 : 2 ^ b < 4294967296 := Nat.lt_of_lt_of_le (Nat.pow_lt_pow_right (by decide) hb) (by decide : 2 ^ 32 ≤ 4294967296)
  have h2 : IntKind.u32.wrap (1 * 2 ^ min (b : Int).toNat IntKind.u32.bits) = ((2 ^ b : Nat) : Int) := by
    rw [show min (b : Int).toNat IntKind.u32.bits = b by show min (b : Int).toNat 32 = b; omega, IntKind.wrap_u32]
    have : ((2 : Int) ^ b) = ((2 ^ b : Nat) : Int) := by simp
    rw [this]; omega
  rw [h2, bits_or_u32_nat _ _ hx h1, low_bit h]
theorem vn3 (x y z : Nat) : vn 4294967296 [x, y, z] 3 = x + y * 4294967296 + z * 18446744073709551616 := by
  show 0 + x * 1 + y * 4294967296 + z * 18446744073709551616 = _
  omega
theorem word3 {l : List Nat} (hl : l.length = 3) (h : L32 l) {j : Nat} (hj : j < l.length) : l[j] = vn 4294967296 l 3 / 4294967296 ^ j % 4294967296 := by
  match l, hl with
  | [x, y, z], _ =>
    have h1 := h x (by simp)
    have h2 := h y (by simp)
    have h3 := h z (by simp)
    rw [vn3]
    rcases (show j = 0 ∨ j = 1 ∨ j = 2 by simp at hj; omega) with rfl | rfl | rfl
    · show x = (x + y * 4294967296 + z * 18446744073709551616) / 1 % 4294967296; omega
    · show y = (x + y * 4294967296 + z * 18446744073709551616) / 4294967296 % 4294967296; omega
    · show z = (x + y * 4294967296 + z * 18446744073709551616) / 18446744073709551616 % 4294967296; omega
theorem word_bit {l : List Nat} (hl : l.length = 3) (h : L32 l) {b : Nat} (hj : b / 32 < l.length) (h0 : vn 4294967296 l 3 % 2 ^ (b + 1) = 0) : l[b / 32] % 2 ^ (b % 32 + 1) = 0 := by
  rw [word3 hl h hj]
  obtain ⟨q, hq⟩ := Nat.dvd_of_mod_eq_zero h0
  have e1 : 2 ^ (b + 1) = 4294967296 ^ (b / 32) * 2 ^ (b % 32 + 1) := by
    rw [show (4294967296 : Nat) = 2 ^ 32 from rfl, ← Nat.pow_mul, ← Nat.pow_add]; congr 1; omega
  have e2 : 4294967296 = 2 ^ (b % 32 + 1) * 2 ^ (31 - b % 32) := by
    rw [← Nat.pow_add, show b % 32 + 1 + (31 - b % 32) = 32 by omega]
  rw [hq, e1, Nat.mul_assoc, Nat.mul_div_cancel_left _ (Nat.pow_pos (by decide))]
  rw [e2, Nat.mod_mul_right_mod, Nat.mul_mod_right]
theorem set_bit {l : List Nat} (hl : l.length = 3) {b : Nat} (hj : b / 32 < l.length) : vn 4294967296 (l.set (b / 32) (l[b / 32] + 2 ^ (b % 32))) 3 = vn 4294967296 l 3 + 2 ^ b := by
  have h1 := vn_set (B := 4294967296) (x := l[b / 32] + 2 ^ (b % 32)) hj 3 (by omega)
  rw [getD_get hj, Nat.add_mul] at h1
  have e1 : 2 ^ b = 2 ^ (b % 32) * 4294967296 ^ (b / 32) := by
    rw [show (4294967296 : Nat) = 2 ^ 32 from rfl, ← Nat.pow_mul, ← Nat.pow_add]; congr 1; omega
  rw [e1]; omega
theorem bit_room {x b : Nat} (hx : x < 4294967296) (hb : b < 32) (h : x % 2 ^ (b + 1) = 0) : x + 2 ^ b < 4294967296 := by
  have e : 4294967296 = 2 ^ (b + 1) * 2 ^ (31 - b) := by
    rw [← Nat.pow_add, show b + 1 + (31 - b) = 32 by omega]
  obtain ⟨q, hq⟩ := Nat.dvd_of_mod_eq_zero h
  have h4 : 2 ^ (b + 1) * q < 2 ^ (b + 1) * 2 ^ (31 - b) := by rw [← hq, ← e]; exact hx
  have h5 : q < 2 ^ (31 - b) := Nat.lt_of_mul_lt_mul_left h4
  have h6 : 2 ^ (b + 1) * (q + 1) ≤ 2 ^ (b + 1) * 2 ^ (31 - b) := Nat.mul_le_mul_left _ h5
  rw [← e, Nat.mul_add, ← hq] at h6
  have h7 : 2 ^ b < 2 ^ (b + 1) := Nat.pow_lt_pow_right (by decide) (by omega)
  omega
/-- The number that a power is held against. -/
theorem vn_want (k m x : Nat) (hk : k < m) : vn 4294967296 ((List.replicate m 0).set k x) m = x * 4294967296 ^ k := by
  have h1 := vn_set (B := 4294967296) (l := List.replicate m 0) (j := k) (x := x) (by rw [List.length_replicate]; exact hk) m hk
  have e : (List.replicate m 0).getD k 0 = 0 := by rw [List.getD_eq_getElem?_getD, List.getElem?_replicate]; split <;> rfl
  rw [vn_zeros, e] at h1
  omega
theorem greedy_succ (p : Nat → Bool) (e x : Nat) : greedy p (e + 1) x = greedy p e (if p (x + 2 ^ e) then x + 2 ^ e else x) := rfl
theorem C_refpower {n : Nat} (k : Nat) {zk : Int} (w : World) (hn : n < 18446744073709551616) (h2 : 2 ≤ k) (h3 : k ≤ 3) (hz : zk = k) :
    CallsR Try.prog 32 [.int .u64 (n : Int), .int .i64 zk] w fun v w' => v = .int .u64 ((root (n % 4294967296) k % 18446744073709551616 : Nat) : Int) ∧ Below w.heap.size w w' := by
  subst hz
  obtain ⟨r, hr⟩ : ∃ r, n % 4294967296 = r := ⟨_, rfl⟩
  have hr2 : r < 4294967296 := by omega
  rw [hr]
  refine callsR Try.func32 rfl rfl (by kernel_rfl) rfl ?_
  have hw := Below.refl w.heap.size w
  refine rk_seq ?_
  refine rk_region ?_
  refine wl_p (fun _ => o_assign rfl) ?_
  refine wl_nil ?_
  refine rk_seq ?_
  refine rk_region ?_
  refine wl_p (fun _ => o_move rfl) ?_
  refine wl_p (fun _ => o_mul rfl rfl (by omega) (by omega)) ?_
  refine wl_p (fun _ => o_add rfl rfl (by omega) (by omega)) ?_
  refine wl_mkL (2 * k + 2) rfl rfl (by omega) (by rfl) (by omega) ?_
  rintro A14 w14 f14 b14
  have qf14 := f14.cap
  have s14 := b14.size
  replace hw := hw.trans (b14.mono hw.size)
  refine wl_p (fun _ => o_assign rfl) ?_
  refine wl_nil ?_
  refine rk_seq ?_
  refine rk_region ?_
  refine wl_p (fun _ => o_move rfl) ?_
  refine wl_p (fun _ => o_move rfl) ?_
  refine wl_p (fun _ => o_mul rfl rfl (by omega) (by omega)) ?_
  refine wl_p (fun _ => o_move rfl) ?_
  refine wl_p (fun _ => o_remu rfl rfl (by omega) (by omega)) ?_
  refine wl_p (fun _ => o_convi (src := 25) (dst := 22) Try.underlying25 Try.underlying22 rfl) ?_
  rw [show IntKind.u32.wrap ((n : Int) % 4294967296) = (r : Int) from by rw [IntKind.wrap_u32]; omega, show (2 : Int) * (k : Int) = ((2 * k : Nat) : Int) from by omega]
  have hwl : 2 * k < (List.replicate (2 * k + 2) 0).length := by rw [List.length_replicate]; omega
  refine wl_p (fun _ => (o_iaddrA1 (2 * k) Try.underlying57 Try.sizeOf22 rfl rfl rfl (f14.some_ (by omega)) (by omega))) ?_
  refine wl_stK Try.sizeOf22 rfl f14 rfl (by omega) ?_
  rintro w_1 f g b e
  have qf := f.cap
  have s := g.size
  replace hw := hw.trans (b.mono (by omega))
  clear f14
  refine wl_nil ?_
  refine rk_seq ?_
  refine rk_region ?_
  refine wl_mkL (3) rfl rfl (by omega) (by rfl) (by omega) ?_
  rintro A22 w22 f22 b22
  have qf22 := f22.cap
  have s22 := b22.size
  replace hw := hw.trans (b22.mono hw.size)
  replace f := f.u b22
  refine wl_p (fun _ => o_assign rfl) ?_
  refine wl_nil ?_
  refine rk_seq ?_
  refine rk_seq ?_
  refine rk_region ?_
  refine wl_p (fun _ => o_assign rfl) ?_
  refine wl_nil ?_
  refine rk_block ?_
  obtain ⟨q, hq⟩ : ∃ q, (List.replicate (2 * k + 2) 0).set (2 * k) r = q := ⟨_, rfl⟩
  have hql : q.length = 2 * k + 2 := by rw [← hq, List.length_set, List.length_replicate]
  have hqL : L32 q := by
    rw [← hq]
    exact L32.set_ (fun x hx => by rw [List.eq_of_mem_replicate hx]; decide) hr2
  have hqv : vn 4294967296 q q.length = r * 18446744073709551616 ^ k := by
    rw [hql, ← hq, vn_want _ _ _ (by omega), show (18446744073709551616 : Nat) = 4294967296 ^ 2 from by decide, ← Nat.pow_mul]
  rw [hq] at f
  clear hwl
  replace f22 := f22.base (lo' := w.heap.size) (by omega) (Nat.le_refl _)
  refine rk_joinf (fun fb fr w2 => ∃ A c xs, fr = [(6, .slice A 3 c)] ++ fb.drop 2 ∧ xs.length = 3 ∧ L32 xs ∧ vn 4294967296 xs 3 = root r k ∧ OwnK .u32 22 w2 w.heap.size w2.heap.size A c xs ∧ Below w.heap.size w w2) ?_ (fun ks hj => ?_)
  rotate_left
  · refine rk_loopf (fun fb m fr w2 => ∃ (b : Nat) (v : Int) (A : Option Addr) (c : Nat) (xs : List Nat), fr = [(7, .int .i64 v), (6, .slice A 3 c)] ++ fb.drop 2 ∧ v = (b : Int) - 1 ∧ b ≤ 96 ∧ m = b ∧ xs.length = 3 ∧ L32 xs ∧ vn 4294967296 xs 3 % 2 ^ b = 0 ∧ greedy (rootP r k) b (vn 4294967296 xs 3) = root r k ∧ OwnK .u32 22 w2 w.heap.size w2.heap.size A c xs ∧ OwnK .u32 22 w2 w.heap.size w14.heap.size A14 (2 * k + 2) q ∧ w14.heap.size ≤ w2.heap.size ∧ Below w.heap.size w w2) (n := 96) (Fr.le_of (by kernel_rfl) (by kernel_rfl) (by repeat' constructor)) ⟨96, _, _, _, _, rfl, by decide, by decide, rfl, List.length_replicate, fun x hx => by rw [List.eq_of_mem_replicate hx]; decide, by rw [vn_zeros, Nat.zero_mod], by rw [vn_zeros]; exact root_more hr2 h2 (by decide), f22, f, by omega, hw⟩ ?_
    clear hw f f22
    rintro m fr w2 ⟨b, v, A, c, xs, rfl, rfl, hb, hmb, hxl, hxL, hxb, hgr, fx, fq, hsz, hw⟩
    replace hmb := hmb.symm
    subst hmb
    have shw := hw.size
    first | refine rk_frame (by simp only [List.cons_append, List.nil_append, List.drop_succ_cons, List.drop_zero]; rfl) ?_ | refine wl_frame (by simp only [List.cons_append, List.nil_append, List.drop_succ_cons, List.drop_zero]; rfl) ?_
    refine rk_seq ?_
    refine rk_seq ?_
    refine rk_region ?_
    refine wl_p (fun _ => o_move rfl) ?_
    refine wl_p (fun _ => o_ge rfl rfl) ?_
    refine wl_nil ?_
    refine rk_if rfl (fun h24 => ?_) (fun h24 => ?_)
    · obtain ⟨e, rfl⟩ : ∃ e, b = e + 1 := ⟨b - 1, by omega⟩
      have ek : ((e + 1 : Nat) : Int) - 1 = (e : Int) := by omega
      rw [ek]
      have hjl : e / 32 < xs.length := by omega
      obtain ⟨x, hx⟩ : ∃ x, xs[e / 32] = x := ⟨_, rfl⟩
      refine rk_skip ?_
      refine rk_seq ?_
      refine rk_block ?_
      refine rk_seq ?_
      refine rk_region ?_
      refine wl_litL0 ?_
      rintro A27 w27 f27 b27
      have qf27 := f27.cap
      have s27 := b27.size
      replace hw := hw.trans (b27.mono hw.size)
      replace fq := fq.u b27
      replace fx := fx.u b27
      refine wl_p (fun _ => o_move rfl) ?_
      refine wl_appL0 rfl f27 rfl fx.to_RdK (by omega) (by omega) (by omega) ?_
      rintro A29 c29 w29 f29 b29
      have qf29 := f29.cap
      have s29 := b29.size
      replace hw := hw.trans (b29.mono hw.size)
      replace fx := fx.u b29
      replace fq := fq.u b29
      replace f27 := f27.u b29
      refine wl_p (fun _ => o_assign rfl) ?_
      refine wl_nil ?_
      refine rk_seq ?_
      refine rk_region ?_
      refine wl_p (fun _ => o_move rfl) ?_
      refine wl_p (fun _ => o_move rfl) ?_
      refine wl_p (fun _ => o_quo rfl rfl (by omega) (by omega) (by omega)) ?_
      refine wl_p (fun _ => o_move rfl) ?_
      refine wl_p (fun _ => o_move rfl) ?_
      refine wl_p (fun _ => o_quo rfl rfl (by omega) (by omega) (by omega)) ?_
      refine wl_p (fun _ => (o_iaddrA1 (e / 32) Try.underlying57 Try.sizeOf22 rfl rfl (by omega) (f29.some_ (by omega)) (by omega))) ?_
      refine wl_r (o_ldK Try.isAgg22 rfl f29.to_RdK (by omega)) ?_
      rw [hx]
      have hxlt : x < 4294967296 := by rw [← hx]; exact hxL.at_ _ hjl
      have hxm : x % 2 ^ (e % 32 + 1) = 0 := by rw [← hx]; exact word_bit hxl hxL hjl hxb
      have e1 := or_bit32 hxlt (by omega) hxm ((e : Int) % 32) (by omega)
      refine wl_p (fun _ => o_move rfl) ?_
      refine wl_p (fun _ => o_remu rfl rfl (by omega) (by omega)) ?_
      refine wl_p (fun _ => o_convu64 (src := 3) (dst := 35) Try.underlying3 Try.underlying35 rfl (by omega) (by omega)) ?_
      refine wl_p (fun _ => o_shl rfl rfl (by omega)) ?_
      refine wl_p (fun _ => o_or rfl rfl) ?_
      rw [e1]
      refine wl_p (fun _ => (o_iaddrA1 (e / 32) Try.underlying57 Try.sizeOf22 rfl rfl (by omega) (f29.some_ (by omega)) (by omega))) ?_
      refine wl_stK Try.sizeOf22 rfl f29 rfl (by omega) ?_
      rintro w_2 f g_1 b_1 e_1
      have qf := f.cap
      have s_1 := g_1.size
      replace hw := hw.trans (b_1.mono (by omega))
      clear f27
      replace fq := fq.k g_1.g (f.ap (by omega))
      replace fx := fx.k g_1.g (f.ap (by omega))
      clear f29
      refine wl_nil ?_
      refine rk_seq ?_
      refine rk_region ?_
      refine wl_litL0 ?_
      rintro A44 w44 f44 b44
      have qf44 := f44.cap
      have s44 := b44.size
      replace hw := hw.trans (b44.mono hw.size)
      replace fx := fx.u b44
      replace fq := fq.u b44
      replace f := f.u b44
      refine wl_p (fun _ => o_move rfl) ?_
      refine wl_appL0 rfl f44 rfl f.to_RdK (by simp) (by simp; omega) (by omega) ?_
      rintro A46 c46 w46 f46 b46
      have qf46 := f46.cap
      have s46 := b46.size
      replace hw := hw.trans (b46.mono hw.size)
      replace f := f.u b46
      replace fq := fq.u b46
      replace fx := fx.u b46
      replace f44 := f44.u b46
      refine wl_p (fun _ => o_assign rfl) ?_
      refine wl_nil ?_
      refine rk_seq ?_
      refine rk_seq ?_
      refine rk_region ?_
      refine wl_p (fun _ => o_assign rfl) ?_
      refine wl_nil ?_
      refine rk_block ?_
      obtain ⟨ys, hys⟩ : ∃ ys, xs.set (e / 32) (x + 2 ^ (e % 32)) = ys := ⟨_, rfl⟩
      have hyl : ys.length = 3 := by rw [← hys, List.length_set]; exact hxl
      have hyL : L32 ys := by rw [← hys]; exact hxL.set_ (bit_room hxlt (by omega) hxm)
      obtain ⟨Y, hY⟩ : ∃ Y, vn 4294967296 ys 3 = Y := ⟨_, rfl⟩
      have hYX : Y = vn 4294967296 xs 3 + 2 ^ e := by rw [← hY, ← hys, ← hx]; exact set_bit hxl hjl
      rw [hys] at f46 f ⊢
      rw [hxl]
      clear f44
      replace f46 := f46.base (lo' := w29.heap.size) (by omega) (Nat.le_refl _)
      refine rk_joinf (fun fb fr w3 => ∃ P c' ps, fr = [(9, .slice P ps.length c')] ++ fb.drop 2 ∧ ps.length = 3 * k ∧ L32 ps ∧ vn 4294967296 ps ps.length = Y ^ k ∧ OwnK .u32 22 w3 w29.heap.size w3.heap.size P c' ps ∧ OwnK .u32 22 w3 w2.heap.size w29.heap.size A29 c29 ys ∧ OwnK .u32 22 w3 w.heap.size w14.heap.size A14 (2 * k + 2) q ∧ OwnK .u32 22 w3 w.heap.size w2.heap.size A c xs ∧ w29.heap.size ≤ w3.heap.size ∧ Below w.heap.size w w3) ?_ (fun ks2 hj2 => ?_)
      rotate_left
      · refine rk_loopf (fun fb m fr w3 => ∃ (i : Nat) (v : Int) (P : Option Addr) (c' : Nat) (ps : List Nat), fr = [(10, .int .i64 v), (9, .slice P ps.length c')] ++ fb.drop 2 ∧ v = i ∧ 1 ≤ i ∧ i ≤ k ∧ m = k - i ∧ ps.length = 3 * i ∧ L32 ps ∧ vn 4294967296 ps ps.length = Y ^ i ∧ OwnK .u32 22 w3 w29.heap.size w3.heap.size P c' ps ∧ OwnK .u32 22 w3 w2.heap.size w29.heap.size A29 c29 ys ∧ OwnK .u32 22 w3 w.heap.size w14.heap.size A14 (2 * k + 2) q ∧ OwnK .u32 22 w3 w.heap.size w2.heap.size A c xs ∧ w29.heap.size ≤ w3.heap.size ∧ Below w.heap.size w w3) (n := k - 1) (Fr.le_of (by kernel_rfl) (by kernel_rfl) (by repeat' constructor)) ⟨1, _, _, _, ys, rfl, rfl, Nat.le_refl _, by omega, rfl, by omega, hyL, by rw [hyl, hY, Nat.pow_one], f46, f, fq, fx, by omega, hw⟩ ?_
        clear hw f46 f fq fx
        rintro m fr w3 ⟨i, v, P, c', ps, rfl, rfl, hi1, hi, rfl, hpl, hpL, hpv, fp, f, fq, fx, hsz2, hw⟩
        have shw := hw.size
        first | refine rk_frame (by simp only [List.cons_append, List.nil_append, List.drop_succ_cons, List.drop_zero]; rfl) ?_ | refine wl_frame (by simp only [List.cons_append, List.nil_append, List.drop_succ_cons, List.drop_zero]; rfl) ?_
        refine rk_seq ?_
        refine rk_seq ?_
        refine rk_region ?_
        refine wl_p (fun _ => o_move rfl) ?_
        refine wl_p (fun _ => o_move rfl) ?_
        refine wl_p (fun _ => o_lt rfl rfl) ?_
        refine wl_nil ?_
        refine rk_if rfl (fun h49 => ?_) (fun h49 => ?_)
        · refine rk_skip ?_
          refine rk_seq ?_
          refine rk_block ?_
          refine rk_region ?_
          refine wl_p (fun _ => o_move rfl) ?_
          refine wl_p (fun _ => o_move rfl) ?_
          refine wl_call rfl (C_refmul2 _ _ _ fp.to_RdK f.to_RdK (by omega) (by omega) rfl (by omega) (by omega) (by omega)) ?_
          rintro v54 w54 ⟨A54, ⟨c54, ⟨q54, ⟨rfl, ⟨e54, ⟨i54, ⟨e54_1, ⟨f54, b54⟩⟩⟩⟩⟩⟩⟩⟩
          have qf54 := f54.cap
          have s54 := b54.size
          replace hw := hw.trans (b54.mono hw.size)
          replace fx := fx.u b54
          replace fq := fq.u b54
          replace f := f.u b54
          replace fp := fp.u b54
          refine wl_p (fun _ => o_assign rfl) ?_
          refine wl_nil ?_
          refine rk_blk ?_
          refine rk_region ?_
          refine wl_p (fun _ => o_move rfl) ?_
          refine wl_p (fun _ => o_add rfl rfl (by omega) (by omega)) ?_
          refine wl_p (fun _ => o_assign rfl) ?_
          refine wl_nil ?_
          rw [hpv, hyl, hY, ← Nat.pow_succ] at e54_1
          exact rk_againf (Fr.le_of (by kernel_rfl) (by kernel_rfl) (by repeat' constructor)) ⟨i + 1, (i : Int) + 1, A54, c54, q54, rfl, by omega, by omega, by omega, rfl, by omega, i54, e54_1, f54.base (by omega) (Nat.le_refl _), f, fq, fx, by omega, hw⟩ (by omega)
        · refine rk_exit rfl ?_
          obtain rfl : i = k := by omega
          exact rk_tof hj2 (Fr.le_of (by kernel_rfl) (by kernel_rfl) (by repeat' constructor)) ⟨P, c', ps, rfl, hpl, hpL, hpv, fp, f, fq, fx, hsz2, hw⟩
      clear hw f46 f fq fx
      rintro fr w3 ⟨P, c', ps, rfl, hpl, hpL, hpv, fp, f, fq, fx, hsz2, hw⟩
      have shw := hw.size
      first | refine rk_frame (by simp only [List.cons_append, List.nil_append, List.drop_succ_cons, List.drop_zero]; rfl) ?_ | refine wl_frame (by simp only [List.cons_append, List.nil_append, List.drop_succ_cons, List.drop_zero]; rfl) ?_
      obtain ⟨g, hg⟩ : ∃ g, decide (vn 4294967296 q q.length < vn 4294967296 ps ps.length) = g := ⟨_, rfl⟩
      refine rk_seq ?_
      refine rk_region ?_
      refine wl_p (fun _ => o_move rfl) ?_
      refine wl_p (fun _ => o_move rfl) ?_
      refine wl_call rfl (C_refabove _ _ _ fp.to_RdK fq.to_RdK hg (by omega) (by omega) rfl (by omega) (by omega) (by omega)) ?_
      rintro v57 w57 ⟨rfl, b57⟩
      have s57 := b57.size
      replace hw := hw.trans (b57.mono hw.size)
      replace fx := fx.u b57
      replace fq := fq.u b57
      replace f := f.u b57
      replace fp := fp.u b57
      refine wl_p (fun _ => o_not rfl) ?_
      refine wl_nil ?_
      rw [hpv, hqv] at hg
      have hgp : (!g) = rootP r k Y := by
        unfold rootP
        rw [← hg]
        by_cases h : Y ^ k ≤ r * 18446744073709551616 ^ k
        · rw [decide_eq_true h, decide_eq_false (by omega)]; rfl
        · rw [decide_eq_false h, decide_eq_true (by omega)]; rfl
      have hst : greedy (rootP r k) (e + 1) (vn 4294967296 xs 3) = greedy (rootP r k) e (if rootP r k Y then Y else vn 4294967296 xs 3) := by
        rw [greedy_succ, ← hYX]
      obtain ⟨ha1, ha2⟩ := mod_add hxb
      rw [hst] at hgr
      rw [hgp]
      refine rk_if rfl (fun h58 => ?_) (fun h58 => ?_)
      · rw [if_pos (show rootP r k Y = true from decide_eq_true h58)] at hgr
        refine rk_region ?_
        refine wl_p (fun _ => o_move rfl) ?_
        refine wl_p (fun _ => o_assign rfl) ?_
        refine wl_nil ?_
        refine rk_blk ?_
        refine rk_region ?_
        refine wl_p (fun _ => o_move rfl) ?_
        refine wl_p (fun _ => o_sub rfl rfl (by omega) (by omega)) ?_
        refine wl_p (fun _ => o_assign rfl) ?_
        refine wl_nil ?_
        exact rk_againf (Fr.le_of (by kernel_rfl) (by kernel_rfl) (by repeat' constructor)) ⟨e, _, A29, c29, ys, rfl, rfl, by omega, rfl, hyl, hyL, by rw [hY, hYX]; exact ha1, by rw [hY]; exact hgr, f.base (by omega) (by omega), fq, by omega, hw⟩ (by omega)
      · rw [if_neg (by rw [show rootP r k Y = false from decide_eq_false h58]; decide)] at hgr
        refine rk_skip ?_
        refine rk_blk ?_
        refine rk_region ?_
        refine wl_p (fun _ => o_move rfl) ?_
        refine wl_p (fun _ => o_sub rfl rfl (by omega) (by omega)) ?_
        refine wl_p (fun _ => o_assign rfl) ?_
        refine wl_nil ?_
        exact rk_againf (Fr.le_of (by kernel_rfl) (by kernel_rfl) (by repeat' constructor)) ⟨e, _, A, c, xs, rfl, rfl, by omega, rfl, hxl, hxL, ha2, hgr, fx.base (by omega) (by omega), fq, by omega, hw⟩ (by omega)
    · refine rk_exit rfl ?_
      obtain rfl : b = 0 := by omega
      exact rk_tof hj (Fr.le_of (by kernel_rfl) (by kernel_rfl) (by repeat' constructor)) ⟨A, c, xs, rfl, hxl, hxL, hgr, fx, hw⟩
  clear hw f f22
  rintro fr w2 ⟨A, c, xs, rfl, hxl, hxL, hgr, fx, hw⟩
  have shw := hw.size
  obtain ⟨x, hx⟩ : ∃ x, xs[0] = x := ⟨_, rfl⟩
  obtain ⟨y, hy⟩ : ∃ y, xs[1] = y := ⟨_, rfl⟩
  have hxl' : x < 4294967296 := by rw [← hx]; exact hxL.at_ _ (by omega)
  have hyl' : y < 4294967296 := by rw [← hy]; exact hxL.at_ _ (by omega)
  first | refine rk_frame (by simp only [List.cons_append, List.nil_append, List.drop_succ_cons, List.drop_zero]; rfl) ?_ | refine wl_frame (by simp only [List.cons_append, List.nil_append, List.drop_succ_cons, List.drop_zero]; rfl) ?_
  refine rk_seq ?_
  refine rk_draw (id := 16) (none) [0, 1, 2, 4, 0, 16, 32, 64, 128, 264, 1023] [0, 1, 3, 7, 0, 16, 48, 112, 240, 511, 1023] 0 0 [(.p, 0), (.p, 1), (.r, 2), (.p, 3), (.p, 4), (.p, 5), (.r, 6), (.p, 7), (.p, 8), (.p, 9), (.p, 10)] (by kernel_rfl) (by kernel_rfl) (by kernel_rfl) (by kernel_rfl) (by kernel_rfl) ?_
  replace hw := hw.drew
  replace fx := fx.d
  refine wl_p (fun _ => o_move rfl) ?_
  refine wl_p (fun _ => (o_iaddrA1 (0) Try.underlying57 Try.sizeOf22 rfl rfl (by omega) (fx.some_ (by omega)) (by omega))) ?_
  refine wl_r (o_ldK Try.isAgg22 rfl fx.to_RdK (by omega)) ?_
  refine wl_p (fun _ => o_convu64 (src := 22) (dst := 25) Try.underlying22 Try.underlying25 rfl (by omega) (by omega)) ?_
  refine wl_p (fun _ => o_move rfl) ?_
  refine wl_p (fun _ => (o_iaddrA1 (1) Try.underlying57 Try.sizeOf22 rfl rfl (by omega) (fx.some_ (by omega)) (by omega))) ?_
  refine wl_r (o_ldK Try.isAgg22 rfl fx.to_RdK (by omega)) ?_
  refine wl_p (fun _ => o_convu64 (src := 22) (dst := 25) Try.underlying22 Try.underlying25 rfl (by omega) (by omega)) ?_
  refine wl_p (fun _ => o_shl rfl rfl (by omega)) ?_
  refine wl_p (fun _ => o_addw rfl rfl) ?_
  refine wl_p (fun _ => o_assign rfl) ?_
  refine wl_nild ?_
  rw [hx, hy]
  refine ret1 rfl rfl ?_
  refine ⟨?_, hw⟩
  have hx2 := word3 hxl hxL (j := 0) (by omega)
  have hy2 := word3 hxl hxL (j := 1) (by omega)
  rw [hx, hgr, Nat.pow_zero] at hx2
  rw [hy, hgr, Nat.pow_one] at hy2
  congr 1
  show IntKind.u64.wrap ((x : Int) + IntKind.u64.wrap ((y : Int) * 4294967296)) = _
  simp only [IntKind.wrap_u64]
  generalize root r k = R at hx2 hy2 ⊢
  omega
theorem C_refRoot {n : Nat} (w : World) (hn : n < 18446744073709551616) : CallsR Try.prog 14 [.int .u64 (n : Int)] w fun v w' => v = .int .u64 ((root (n % 4294967296) 2 % 18446744073709551616 : Nat) : Int) ∧ Below w.heap.size w w' := by
  refine callsR Try.func14 rfl rfl (by kernel_rfl) rfl ?_
  have hw := Below.refl w.heap.size w
  refine rk_seq ?_
  refine rk_region ?_
  refine wl_p (fun _ => o_assign rfl) ?_
  refine wl_nil ?_
  refine rk_seq ?_
  refine rk_region ?_
  refine wl_p (fun _ => o_move rfl) ?_
  refine wl_call rfl (C_refpower (2) _ (by omega) (by omega) (by omega) (by omega)) ?_
  rintro v4 w4 ⟨rfl, b4⟩
  have s4 := b4.size
  replace hw := hw.trans (b4.mono hw.size)
  refine wl_p (fun _ => o_assign rfl) ?_
  refine wl_nil ?_
  refine ret1 rfl rfl ?_
  exact ⟨rfl, hw⟩
theorem C_refCube {n : Nat} (w : World) (hn : n < 18446744073709551616) : CallsR Try.prog 13 [.int .u64 (n : Int)] w fun v w' => v = .int .u64 ((root (n % 4294967296) 3 % 18446744073709551616 : Nat) : Int) ∧ Below w.heap.size w w' := by
  refine callsR Try.func13 rfl rfl (by kernel_rfl) rfl ?_
  have hw := Below.refl w.heap.size w
  refine rk_seq ?_
  refine rk_region ?_
  refine wl_p (fun _ => o_assign rfl) ?_
  refine wl_nil ?_
  refine rk_seq ?_
  refine rk_region ?_
  refine wl_p (fun _ => o_move rfl) ?_
  refine wl_call rfl (C_refpower (3) _ (by omega) (by omega) (by omega) (by omega)) ?_
  rintro v4 w4 ⟨rfl, b4⟩
  have s4 := b4.size
  replace hw := hw.trans (b4.mono hw.size)
  refine wl_p (fun _ => o_assign rfl) ?_
  refine wl_nil ?_
  refine ret1 rfl rfl ?_
  exact ⟨rfl, hw⟩
end Go.Proofs.Ytldhmnakkkjenaa
