/-
  Records compared; the chapter's examples.
-/
import Derived.Test.YtnnhenafhalobaaGreatMg4
import GoSem.Op.String
import Derived.Shelf.Abstract
namespace Go.Proofs.YtnnhenafhalobaaGreat
set_option maxRecDepth 100000
open Go.RowKit
theorem C_OwnB {A : Option Addr} {p : By} {n c : Nat} (w : World) (hp : Rd w A p) (hn : n = p.length) (hl : p.length ≤ 4000000000) :
  CallsR Tryz.prog 16 [.slice A n c] w fun v w' => ∃ A' c', v = .slice A' p.length c' ∧ OwnH w' w.heap.size w'.heap.size A' c' p ∧ Below w.heap.size w w' := by
 subst hn
 refine callsR Tryz.func16 rfl rfl (by kernel_rfl) rfl ?_
 have hw := Below.refl w.heap.size w
 refine zs (za rfl (wl_nil (zs ?_)))
 refine wl_litB [] Tryz.u8 Tryz.sizeOf5 Tryz.zeroValue5 (by rfl) rfl rfl (by rfl) (by rfl) (by rfl) ?_
 rintro A3 w3 f3 b3
 have qf3 := f3.cap
 have s3 := b3.size
 replace hw := hw.trans (b3.mono hw.size)
 refine zm rfl ?_
 refine wl_appB Tryz.u8 rfl f3 (by rfl) rfl (hp.u hw) rfl (by omega) hw.size ?_
 rintro A5 c5 w5 f5 g5 b5 i5
 have qf5 := f5.cap
 have s5 := g5.size
 replace hw := hw.trans (b5.mono (by omega))
 clear f3
 refine za rfl (wl_nil ?_)
 refine ret1 rfl rfl ?_
 exact ⟨_, _, rfl, f5, hw⟩
theorem C_kRec {k q : UInt8} {A B : Option Addr} {a b : By} {n c m d : Nat} (w : World) (hA : Rd w A a) (hB : Rd w B b) (hn : n = a.length) (hm : m = b.length) :
  CallsR Tryz.prog 61 [.agg #[.int .u8 (k.toNat : Int), .slice A n c], .agg #[.int .u8 (q.toNat : Int), .slice B m d]] w fun v w' => v = .bool (decide ((k, a) = (q, b))) ∧ Below w.heap.size w w' := by
 subst hn; subst hm
 by_cases h0 : (k.toNat : Int) = (q.toNat : Int)
 ·have e0 : k = q := UInt8.toNat_inj.1 (by omega)
  subst e0
  refine callsR Tryz.func61 rfl rfl (by kernel_rfl) rfl ?_
  have hw := Below.refl w.heap.size w
  refine zs ?_
  refine wl_boxg [_, _] rfl (by rfl) ?_
  rintro g2 w2 f2 b2 i2 i2_1
  have s2 := b2.size
  replace hw := hw.trans (b2.mono hw.size)
  refine wl_boxg [_, _] rfl (by rfl) ?_
  rintro g3 w3 f3 b3 i3 i3_1
  have s3 := b3.size
  replace hw := hw.trans (b3.mono hw.size)
  replace f2 := f2.u b3
  refine za rfl (wl_nil (zs ?_))
  refine zp (o_faddr (s := 37) (i := 0) (off := 0) Tryz.underlying37 rfl Tryz.sizeOf5 rfl rfl rfl) ?_
  refine wl_r (o_loadbg Tryz.isAgg5 rfl f2 (by rfl)) ?_
  refine zp (o_faddr (s := 37) (i := 0) (off := 0) Tryz.underlying37 rfl Tryz.sizeOf5 rfl rfl rfl) ?_
  refine wl_r (o_loadbg Tryz.isAgg5 rfl f3 (by rfl)) ?_
  refine zp (o_eq rfl rfl) ?_
  refine zm rfl ?_
  refine wl_know 10 true rfl (decide_eq_true (by omega)) ?_
  refine zp (o_faddr (s := 37) (i := 1) (off := 1) Tryz.underlying37 rfl Tryz.sizeOf35 rfl rfl rfl) ?_
  refine wl_r (o_loadbg Tryz.isAgg35 rfl f2 (by rfl)) ?_
  refine wl_r (o_strU Tryz.underlying35 Tryz.underlying5 Tryz.underlying9 rfl hA hw rfl) ?_
  refine zp (o_faddr (s := 37) (i := 1) (off := 1) Tryz.underlying37 rfl Tryz.sizeOf35 rfl rfl rfl) ?_
  refine wl_r (o_loadbg Tryz.isAgg35 rfl f3 (by rfl)) ?_
  refine wl_r (o_strU Tryz.underlying35 Tryz.underlying5 Tryz.underlying9 rfl hB hw rfl) ?_
  refine zp (o_seq rfl rfl) ?_
  refine zp (o_pick_t rfl rfl) ?_
  refine za rfl (wl_nil ?_)
  rw [decide_eq_true rfl]
  refine ret1 rfl rfl ?_
  exact ⟨congrArg Value.bool (decide_eq_decide.2 ⟨fun h => by rw [h], fun h => (Prod.mk.inj h).2⟩), hw⟩
 ·have e0 : k ≠ q := fun e => h0 (by rw [e])
  refine callsR Tryz.func61 rfl rfl (by kernel_rfl) rfl ?_
  have hw := Below.refl w.heap.size w
  refine zs ?_
  refine wl_boxg [_, _] rfl (by rfl) ?_
  rintro g2 w2 f2 b2 i2 i2_1
  have s2 := b2.size
  replace hw := hw.trans (b2.mono hw.size)
  refine wl_boxg [_, _] rfl (by rfl) ?_
  rintro g3 w3 f3 b3 i3 i3_1
  have s3 := b3.size
  replace hw := hw.trans (b3.mono hw.size)
  replace f2 := f2.u b3
  refine za rfl (wl_nil (zs ?_))
  refine zp (o_faddr (s := 37) (i := 0) (off := 0) Tryz.underlying37 rfl Tryz.sizeOf5 rfl rfl rfl) ?_
  refine wl_r (o_loadbg Tryz.isAgg5 rfl f2 (by rfl)) ?_
  refine zp (o_faddr (s := 37) (i := 0) (off := 0) Tryz.underlying37 rfl Tryz.sizeOf5 rfl rfl rfl) ?_
  refine wl_r (o_loadbg Tryz.isAgg5 rfl f3 (by rfl)) ?_
  refine zp (o_eq rfl rfl) ?_
  refine zm rfl ?_
  refine wl_know 10 false rfl (decide_eq_false (by omega)) ?_
  refine wl_off (wl_off (wl_off (wl_off (wl_off (wl_off (wl_off ?_))))))
  refine zp (o_pick_f rfl rfl) ?_
  refine za rfl (wl_nil ?_)
  rw [decide_eq_false h0]
  refine ret1 rfl rfl ?_
  exact ⟨by rw [decide_eq_false (fun e => e0 (congrArg Prod.fst e))], hw⟩
section
variable {N : Nat} {fr : Fr} {w : World} {ty : TypeId}
theorem o_buildD0 : OpV Tryz.prog N fr w (.build 64 #[]) ty (.agg (B8 nul32).toArray) w := o_build (is := []) (xs := []) (vs := []) rfl (fun _ => by kernel_rfl)
end
theorem C_RecReadN {A : Option Addr} {d b : By} {r : Rc × Nat × By × Nat} {n c : Nat} (w : World) (hr : readR d b = r) (hb : Rd w A b) (hn : n = b.length) (hc : b.length ≤ c) (hd : d.length = 32) (hl : b.length ≤ 400000) :
  CallsR Tryz.prog 107 [.agg (B8 d).toArray, .slice A n c] w fun v w' => ∃ (A' : Option Addr) (c' : Nat), v = .tuple #[.agg #[.int .u8 ((r.1.1).toNat : Int), .slice A' r.1.2.length c'], .int .i64 (r.2.1 : Int), .agg (B8 r.2.2.1).toArray, .int .i64 (r.2.2.2 : Int)] ∧ OwnH w' w.heap.size w'.heap.size A' c' r.1.2 ∧ Below w.heap.size w w' := by
 refine (C_RecRead w hb hn hc hd hl).mono ?_
 rintro v w' ⟨k', p', A', c', z', x', e', rfl, h1, h2, _, h4⟩
 rw [hr] at h2
 subst h2
 exact ⟨_, _, rfl, h1, h4⟩
theorem C_SizeZ {k : UInt8} {x : Int} {A : Option Addr} {p : By} {n c : Nat} (w : World) (hk : x = (k.toNat : Int)) (hn : n = p.length) (hl : p.length ≤ 10000) (hp : Rd w A p) :
  CallsR Tryz.prog 57 [.agg #[.int .u8 x, .slice A n c]] w fun v w' => v = .int .i64 (if OkR (k, p) then ((bodyB (k, p)).length : Int) + 8 else 0) ∧ Below w.heap.size w w' := by
 subst hk
 exact C_Size w hn hl hp
theorem C_CheckZ {k : UInt8} {x : Int} {A : Option Addr} {p : By} {n c : Nat} (w : World) (hk : x = (k.toNat : Int)) (hn : n = p.length) :
  CallsR Tryz.prog 56 [.agg #[.int .u8 x, .slice A n c]] w fun v w' => ∃ z : Int, v = .int .i64 z ∧ (z = 0 ∨ z = 2) ∧ (z = 0 ↔ OkR (k, p)) ∧ Below w.heap.size w w' := by
 subst hk
 exact C_Check w hn
theorem C_RecBytesZ {k : UInt8} {x : Int} {A : Option Addr} {p d : By} {n c : Nat} (w : World) (hk : x = (k.toNat : Int)) (hp : Rd w A p) (hn : n = p.length) (hl : p.length ≤ 9000) (hd : d.length = 32) :
  CallsR Tryz.prog 50 [.agg (B8 d).toArray, .agg #[.int .u8 x, .slice A n c]] w fun v w' => ∃ (A' : Option Addr) (bs : By) (c' : Nat) (e : By) (z : Int), v = .tuple #[.slice A' bs.length c', .agg (B8 e).toArray, .int .i64 z] ∧ OwnH w' w.heap.size w'.heap.size A' c' bs ∧ (z = 0 ∨ z = 2) ∧ (z = 0 ↔ OkR (k, p)) ∧ (z = 0 → bs = bytesR d (k, p) ∧ e = nextB d (k, p)) ∧ (z ≠ 0 → bs = []) ∧ e.length = 32 ∧ Below w.heap.size w w' := by
 subst hk
 exact C_RecBytes w hp hn hl hd
theorem C_RecBytesBad {k : UInt8} {x : Int} {A : Option Addr} {p d : By} {n c : Nat} (w : World) (hk : x = (k.toNat : Int)) (hp : Rd w A p) (hO : ¬ OkR (k, p)) (hn : n = p.length) (hl : p.length ≤ 9000) (hd : d.length = 32) :
  CallsR Tryz.prog 50 [.agg (B8 d).toArray, .agg #[.int .u8 x, .slice A n c]] w fun v w' => ∃ (A' : Option Addr) (c' : Nat) (e : By), v = .tuple #[.slice A' 0 c', .agg (B8 e).toArray, .int .i64 2] ∧ OwnH w' w.heap.size w'.heap.size A' c' [] ∧ e.length = 32 ∧ Below w.heap.size w w' := by
 refine (C_RecBytesZ w hk hp hn hl hd).mono ?_
 rintro v w' ⟨A', bs, c', e, z, rfl, h1, h2, h3, _, h5, h6, h7⟩
 have hz : z ≠ 0 := fun e => hO (h3.1 e)
 obtain rfl := h5 hz
 obtain rfl : z = 2 := by omega
 exact ⟨A', c', e, rfl, h1, h6, h7⟩
theorem C_RecBytesOk {k : UInt8} {x : Int} {A : Option Addr} {p d bs e : By} {n c : Nat} (w : World) (hk : x = (k.toNat : Int)) (hp : Rd w A p) (hO : OkR (k, p)) (hr : bytesR d (k, p) = bs) (hs : nextB d (k, p) = e) (hn : n = p.length) (hl : p.length ≤ 9000) (hd : d.length = 32) :
  CallsR Tryz.prog 50 [.agg (B8 d).toArray, .agg #[.int .u8 x, .slice A n c]] w fun v w' => ∃ (A' : Option Addr) (c' : Nat), v = .tuple #[.slice A' bs.length c', .agg (B8 e).toArray, .int .i64 0] ∧ OwnH w' w.heap.size w'.heap.size A' c' bs ∧ Below w.heap.size w w' := by
 refine (C_RecBytesZ w hk hp hn hl hd).mono ?_
 rintro v w' ⟨A', bs', c', e', z, rfl, h1, h2, h3, h4, h5, h6, h7⟩
 obtain rfl := h3.2 hO
 obtain ⟨rfl, rfl⟩ := h4 rfl
 rw [hr] at h1 ⊢
 rw [hs]
 exact ⟨A', c', rfl, h1, h7⟩
theorem C_kRecZ {k q : UInt8} {x y : Int} {A B : Option Addr} {a b : By} {n c m d : Nat} (w : World) (hk : x = (k.toNat : Int)) (hq : y = (q.toNat : Int)) (hA : Rd w A a) (hB : Rd w B b) (hn : n = a.length) (hm : m = b.length) :
  CallsR Tryz.prog 61 [.agg #[.int .u8 x, .slice A n c], .agg #[.int .u8 y, .slice B m d]] w fun v w' => v = .bool (decide ((k, a) = (q, b))) ∧ Below w.heap.size w w' := by
 subst hk; subst hq
 exact C_kRec w hA hB hn hm
end Go.Proofs.YtnnhenafhalobaaGreat
namespace Go.Proofs.YtnnhenafhalobaaGreat
set_option maxRecDepth 100000

theorem first_nat (n : Nat) (h : n < 18446744073709551616) : (first (room n) n).toNat = 256 - 2 ^ (9 - room n) + n / 256 ^ (room n - 1) := by
 have hk := room_pos n
 have hlt := room_lt n h
 have h5 : 2 ^ (8 - room n) ≤ 2 ^ (9 - room n) := Nat.pow_le_pow_right (by omega) (by omega)
 have h6 : 2 ^ (9 - room n) ≤ 256 := Nat.pow_le_pow_right (show 0 < 2 by omega) (show 9 - room n ≤ 8 by omega)
 unfold first
 rw [UInt8.toNat_ofNat', Nat.mod_eq_of_lt]
 rcases Nat.lt_or_ge (room n) 9 with h9 | h9
 ·have : 2 ^ (9 - room n) = 2 ^ (8 - room n) * 2 := by rw [← Nat.pow_succ]; congr 1; omega
  have := Nat.two_pow_pos (8 - room n)
  omega
 ·have e : room n = 9 := by omega
  rw [e] at hlt ⊢
  simp at hlt
  omega

def over (t n : Nat) : Nat := if n < t then 0 else 1
theorem room_hi (n : Nat) : room n = 9 ∨ n / 2 ^ (7 * room n) = 0 := by
 unfold room
 repeat' split
 all_goals first | (left; rfl) | (right; simp; omega)
theorem room_low (n : Nat) : room n = 1 ∨ n / 2 ^ (7 * (room n - 1)) ≠ 0 := by
 unfold room
 repeat' split
 all_goals first | (left; rfl) | (right; simp; omega)
end Go.Proofs.YtnnhenafhalobaaGreat
namespace Go.Proofs.YtnnhenafhalobaaGreat
set_option maxRecDepth 100000

theorem lead_first (n : Nat) (h : n < 18446744073709551616) : lead (first (room n) n) = room n ∧ (first (room n) n).toNat % 2 ^ (8 - room n) = n / 256 ^ (room n - 1) := by
 have hk := room_pos n
 have hlt := room_lt n h
 have hf := first_nat n h
 unfold lead
 generalize n / 256 ^ (room n - 1) = q at *
 generalize (first (room n) n).toNat = f at *
 generalize room n = k at *
 obtain e | e | e | e | e | e | e | e | e : k = 1 ∨ k = 2 ∨ k = 3 ∨ k = 4 ∨ k = 5 ∨ k = 6 ∨ k = 7 ∨ k = 8 ∨ k = 9 := by omega
 all_goals subst e; simp only [Nat.reduceSub, Nat.reducePow] at *; refine ⟨?_, by omega⟩; (repeat' split) <;> omega

theorem ofNat_byte (q : Nat) : (UInt8.ofNat q).toNat = q % 256 := by rw [UInt8.toNat_ofNat']
theorem mod_pow_succ (n j : Nat) : n % 256 ^ (j + 1) = n % 256 ^ j + 256 ^ j * (n / 256 ^ j % 256) := by rw [Nat.pow_succ, Nat.mod_mul]
theorem beVal_beB : ∀ (j a n : Nat), beVal a (beB j n) = a * 256 ^ j + n % 256 ^ j
 | 0, a, n => by simp [beVal, beB, Nat.mod_one]
 | j + 1, a, n => by
  have e : beVal a (beB (j + 1) n) = beVal (a * 256 + (UInt8.ofNat (n / 256 ^ j)).toNat) (beB j n) := rfl
  rw [e, beVal_beB j, ofNat_byte, mod_pow_succ, Nat.pow_succ, Nat.add_mul, Nat.mul_assoc a 256, Nat.mul_comm 256 (256 ^ j), Nat.mul_comm (n / 256 ^ j % 256), Nat.add_assoc, Nat.add_comm (256 ^ j * (n / 256 ^ j % 256))]

theorem rNumber_enc (n : Nat) (h : n < 18446744073709551616) (t : List UInt8) : rNumber (enc n ++ t, 0) = (n, (t, 0)) := by
 have hk := room_pos n
 obtain ⟨h1, h2⟩ := lead_first n h
 have hv : beVal ((first (room n) n).toNat % 2 ^ (8 - lead (first (room n) n))) ((beB (room n - 1) n ++ t).take (lead (first (room n) n) - 1)) = n := by
  rw [h1, h2, List.take_append_of_le_length (by rw [beB_length]; exact Nat.le_refl _), List.take_of_length_le (by rw [beB_length]; exact Nat.le_refl _), beVal_beB]
  exact Nat.div_add_mod' n _
 show rNumber (first (room n) n :: (beB (room n - 1) n ++ t), 0) = _
 rw [rNumber_ok (by rw [h1, List.length_append, beB_length]; omega) (by rw [hv, h1]), hv, h1]
 rw [List.drop_append_of_le_length (by rw [beB_length]; exact Nat.le_refl _), List.drop_of_length_le (by rw [beB_length]; exact Nat.le_refl _)]
 rfl

theorem leVal_leB : ∀ (k m : Nat), leVal (leB k m) = m % 256 ^ k
 | 0, m => by simp [leB, leVal, Nat.mod_one]
 | k + 1, m => by
  have e : leB (k + 1) m = leB k m ++ [UInt8.ofNat (m / 256 ^ k)] := rfl
  rw [e, leVal_snoc, leVal_leB k, leB_length, ofNat_byte, mod_pow_succ, Nat.mul_comm]

theorem beVal_split : ∀ (l : List UInt8) (a : Nat), beVal a l / 256 ^ l.length = a
 | [], a => by simp [beVal]
 | c :: l, a => by
  have e : beVal a (c :: l) = beVal (a * 256 + c.toNat) l := rfl
  have h := beVal_split l (a * 256 + c.toNat)
  have hc := c.toNat_lt
  rw [e, List.length_cons, Nat.pow_succ, ← Nat.div_div_eq_div_mul, h]
  omega
theorem beB_beVal : ∀ (l : List UInt8) (a : Nat), beB l.length (beVal a l) = l
 | [], _ => rfl
 | c :: l, a => by
  have e : beVal a (c :: l) = beVal (a * 256 + c.toNat) l := rfl
  have hc := c.toNat_lt
  rw [e, List.length_cons, beB, beVal_split, beB_beVal l]
  congr 1
  apply UInt8.toNat_inj.1
  rw [UInt8.toNat_ofNat']
  omega
theorem lead_back (c : UInt8) : 256 - 2 ^ (9 - lead c) + c.toNat % 2 ^ (8 - lead c) = c.toNat := by
 have hc := c.toNat_lt
 unfold lead
 generalize c.toNat = x at *
 repeat' split
 all_goals simp only [Nat.reduceSub, Nat.reducePow]; omega

theorem rNumber_back {b r : List UInt8} {u : Nat} (h : rNumber (b, 0) = (u, (r, 0))) : b = enc u ++ r ∧ u < 18446744073709551616 := by
 cases b with
 | nil => rw [rNumber_nil] at h; simp at h
 | cons c t =>
  by_cases h1 : t.length + 1 < lead c
  ·rw [rNumber_more h1] at h; simp at h
  ·by_cases h2 : room (beVal (c.toNat % 2 ^ (8 - lead c)) (t.take (lead c - 1))) = lead c
   ·rw [rNumber_ok h1 h2] at h
    simp only [Prod.mk.injEq, and_true] at h
    obtain ⟨hu, hr⟩ := h
    have hk := lead_bd c
    have hlen : (t.take (lead c - 1)).length = lead c - 1 := by rw [List.length_take]; omega
    have hu64 := beVal_u64 c (t.take (lead c - 1)) (by omega)
    rw [hu] at h2 hu64
    refine ⟨?_, hu64⟩
    have hdiv : u / 256 ^ (lead c - 1) = c.toNat % 2 ^ (8 - lead c) := by
     have := beVal_split (t.take (lead c - 1)) (c.toNat % 2 ^ (8 - lead c))
     rw [hlen, hu] at this
     exact this
    have hrest : beB (lead c - 1) u = t.take (lead c - 1) := by
     have := beB_beVal (t.take (lead c - 1)) (c.toNat % 2 ^ (8 - lead c))
     rw [hlen, hu] at this
     exact this
    have hf : first (lead c) u = c := by
     apply UInt8.toNat_inj.1
     unfold first
     rw [UInt8.toNat_ofNat', hdiv, lead_back]
     have := c.toNat_lt
     omega
    unfold enc
    rw [h2, hf, hrest, ← hr, List.cons_append, List.take_append_drop]
   ·rw [rNumber_bad h1 h2] at h; simp at h

end Go.Proofs.YtnnhenafhalobaaGreat
namespace Go.Proofs.YtnnhenafhalobaaGreat
set_option maxRecDepth 100000
open Go.RowKit
theorem rWord1_nil : rWord 1 ([], 0) = (0, ([], 5)) := by
 rfl
theorem rWord1_cons (c : UInt8) (t : By) : rWord 1 (c :: t, 0) = (c.toNat, (t, 0)) := by
 have h1 : clampN 1 = 1 := rfl
 have h2 : ¬ (c :: t).length < 1 := by simp
 simp [rWord, rTake, h1, leVal]
theorem startR_nil : startR [] = (0, 0, 0, 5) := by
 unfold startR
 rw [List.take_nil, rWord1_nil]
 simp [rNumber]
theorem startR_cons (c : UInt8) (t : By) : startR (c :: t) =
  if c = 0 then (0, 0, 0, 4) else if (rNumber (t.take 9, 0)).2.2 ≠ 0 then (0, 0, 0, (rNumber (t.take 9, 0)).2.2) else if 8192 < (rNumber (t.take 9, 0)).1 then (0, 0, 0, 4)
  else (c.toNat, 1 + (t.take 9).length - (rNumber (t.take 9, 0)).2.1.length, (rNumber (t.take 9, 0)).1, 0) := by
 unfold startR
 rw [List.take_succ_cons, rWord1_cons]
 have e : (c.toNat = 0) = (c = 0) := by rw [← UInt8.toNat_inj]; rfl
 simp only [true_and, e]
 split
 ·rfl
 split
 ·rfl
 split
 ·rfl
 ·rw [List.length_cons, Nat.add_comm]
theorem rNumber_e (b : By) : (rNumber (b, 0)).2.2 = 0 ∨ (rNumber (b, 0)).2.2 = 4 ∨ (rNumber (b, 0)).2.2 = 5 := by
 cases b with
 | nil => rw [rNumber_nil]; simp
 | cons c t =>
  by_cases h1 : t.length + 1 < lead c
  ·rw [rNumber_more h1]; simp
  ·by_cases h2 : room (beVal (c.toNat % 2 ^ (8 - lead c)) (t.take (lead c - 1))) = lead c
   ·rw [rNumber_ok h1 h2]; simp
   ·rw [rNumber_bad h1 h2]; simp
theorem take_enc (n : Nat) (q : By) : (enc n ++ q).take 9 = enc n ++ q.take (9 - (enc n).length) := by
 rw [List.take_append, List.take_of_length_le (enc_le9 n)]
theorem startR_of {k : UInt8} {n : Nat} {q : By} (hk : k ≠ 0) (hn : n ≤ 8192) : startR (k :: (enc n ++ q)) = (k.toNat, 1 + (enc n).length, n, 0) := by
 rw [startR_cons, if_neg hk, take_enc, rNumber_enc n (by omega)]
 simp only [ne_eq, not_true_eq_false, if_false]
 rw [if_neg (by omega), List.length_append]
 congr 2
 omega
theorem startR_back {b : By} {k f z : Nat} (h : startR b = (k, f, z, 0)) : ∃ (c : UInt8) (q : By), b = c :: (enc z ++ q) ∧ k = c.toNat ∧ c ≠ 0 ∧ z ≤ 8192 ∧ f = 1 + (enc z).length := by
 cases b with
 | nil => rw [startR_nil] at h; simp at h
 | cons c t =>
  rw [startR_cons] at h
  obtain ⟨⟨n, l, e⟩, hx⟩ : ∃ s, rNumber (t.take 9, 0) = s := ⟨_, rfl⟩
  rw [hx] at h
  dsimp only at h
  split at h
  ·simp at h
  rename_i hc
  split at h
  ·rename_i he; simp only [Prod.mk.injEq] at h; exact absurd h.2.2.2 he
  rename_i he
  obtain rfl : e = 0 := by omega
  split at h
  ·simp at h
  rename_i hz
  simp only [Prod.mk.injEq, and_true] at h
  obtain ⟨rfl, rfl, rfl⟩ := h
  obtain ⟨h1, _⟩ := rNumber_back hx
  refine ⟨c, l ++ t.drop 9, ?_, rfl, hc, by omega, ?_⟩
  ·rw [← List.append_assoc, ← h1, List.take_append_drop]
  ·have := congrArg List.length h1
   rw [List.length_append] at this
   omega
theorem startR_e {b : By} {k f z e : Nat} (h : startR b = (k, f, z, e)) : e = 0 ∨ e = 4 ∨ e = 5 := by
 cases b with
 | nil => rw [startR_nil] at h; simp at h; omega
 | cons c t =>
  have hr := rNumber_e (t.take 9)
  rw [startR_cons] at h
  repeat' split at h
  all_goals (simp only [Prod.mk.injEq] at h; omega)
theorem readR_e (d b : By) : (readR d b).2.2.2 = 0 ∨ ((readR d b) = ((0, []), 0, nul32, (readR d b).2.2.2) ∧ ((readR d b).2.2.2 = 4 ∨ (readR d b).2.2.2 = 5)) := by
 unfold readR
 obtain ⟨⟨k, f, z, e⟩, hs⟩ : ∃ s, startR b = s := ⟨_, rfl⟩
 rw [hs]
 have he := startR_e hs
 dsimp only
 split
 ·rename_i h; exact .inr ⟨rfl, by dsimp only; omega⟩
 split
 ·exact .inr ⟨rfl, .inr rfl⟩
 split
 ·exact .inl rfl
 ·exact .inr ⟨rfl, .inl rfl⟩
theorem bytesR_len (d : By) (r : Rc) : (bytesR d r).length = (bodyB r).length + 8 := by
 unfold bytesR
 rw [List.length_append, List.length_take, nextB_len]; rfl
theorem readR_app (c d : By) {r : Rc} (h : OkR r) (q : By) : readR c (bytesR d r ++ q) = if (nextB c r).take 8 = (nextB d r).take 8 then (r, (bytesR d r).length, nextB c r, 0) else ((0, []), 0, nul32, 4) := by
 obtain ⟨k, p⟩ := r
 obtain ⟨hk, hp⟩ := h
 simp only at hk hp
 have e8 : ((nextB d (k, p)).take 8).length = 8 := by rw [List.length_take, nextB_len]; rfl
 obtain ⟨s, hs⟩ : ∃ s, (nextB d (k, p)).take 8 = s := ⟨_, rfl⟩
 have hb : bytesR d (k, p) ++ q = k :: (enc p.length ++ (p ++ (s ++ q))) := by
  simp [bytesR, bodyB, blkB, hs]
 rw [hs] at e8 ⊢
 have hlen : (bytesR d (k, p)).length = 1 + (enc p.length).length + p.length + 8 := by
  rw [bytesR_len]; simp [bodyB, blkB]; omega
 unfold readR
 rw [hb, startR_of hk hp]
 have d1 : (k :: (enc p.length ++ (p ++ (s ++ q)))).drop (1 + (enc p.length).length) = p ++ (s ++ q) := by
  rw [Nat.add_comm, List.drop_succ_cons, List.drop_left]
 have d2 : (k :: (enc p.length ++ (p ++ (s ++ q)))).drop (1 + (enc p.length).length + p.length) = s ++ q := by
  rw [← List.drop_drop, d1, List.drop_left]
 have d3 : (s ++ q).take 8 = s := by rw [← e8, List.take_left]
 dsimp only
 rw [if_neg (by simp), if_neg (by simp; omega), d1, d2, List.take_left, d3, UInt8.ofNat_toNat, hlen]
theorem readR_own (d : By) {r : Rc} (h : OkR r) (q : By) : readR d (bytesR d r ++ q) = (r, (bytesR d r).length, nextB d r, 0) := by
 rw [readR_app d d h, if_pos rfl]
theorem readR_back {d b x : By} {r : Rc} {z : Nat} (h : readR d b = (r, z, x, 0)) : OkR r ∧ z = (bytesR d r).length ∧ x = nextB d r ∧ ∃ q, b = bytesR d r ++ q := by
 unfold readR at h
 obtain ⟨⟨k, f, n, e⟩, hs⟩ : ∃ s, startR b = s := ⟨_, rfl⟩
 rw [hs] at h
 dsimp only at h
 split at h
 ·rename_i he; simp only [Prod.mk.injEq] at h; exact absurd h.2.2.2 he
 rename_i he
 obtain rfl : e = 0 := by omega
 obtain ⟨c, q, rfl, rfl, hc, hn, rfl⟩ := startR_back hs
 split at h
 ·simp at h
 rename_i hl
 have d1 : (c :: (enc n ++ q)).drop (1 + (enc n).length) = q := by rw [Nat.add_comm, List.drop_succ_cons, List.drop_left]
 have hlq : n + 8 ≤ q.length := by
  have := congrArg List.length d1
  rw [List.length_drop] at this; omega
 have d2 : (c :: (enc n ++ q)).drop (1 + (enc n).length + n) = q.drop n := by rw [← List.drop_drop, d1]
 rw [d1, d2, UInt8.ofNat_toNat] at h
 split at h
 ·rename_i ht
  simp only [Prod.mk.injEq, and_true] at h
  obtain ⟨rfl, rfl, rfl⟩ := h
  have hpl : (q.take n).length = n := by rw [List.length_take]; omega
  refine ⟨⟨hc, by simp only; omega⟩, ?_, rfl, q.drop (n + 8), ?_⟩
  ·rw [bytesR_len]; simp [bodyB, blkB, hpl]; omega
  ·unfold bytesR
   rw [ht]
   simp only [bodyB, blkB, hpl, List.append_assoc, List.cons_append, List.nil_append]
   congr 2
   rw [← List.drop_drop, List.take_append_drop, List.take_append_drop]
 ·simp at h
theorem readR_nil (d : By) : readR d [] = ((0, []), 0, nul32, 5) := by
 unfold readR; rw [startR_nil]; simp
/-! Records one after the other. -/
def bytesAll : By → List Rc → By
 | _, [] => []
 | d, r :: l => bytesR d r ++ bytesAll (nextB d r) l
def chainAll : By → List Rc → By
 | d, [] => d
 | d, r :: l => chainAll (nextB d r) l
theorem chainAll_len {d : By} (hd : d.length = 32) : ∀ (l : List Rc), (chainAll d l).length = 32
 | [] => hd
 | r :: l => chainAll_len (nextB_len d r) l
theorem bytesAll_append : ∀ (d : By) (l m : List Rc), bytesAll d (l ++ m) = bytesAll d l ++ bytesAll (chainAll d l) m
 | d, [], m => rfl
 | d, r :: l, m => by simp [bytesAll, chainAll, bytesAll_append (nextB d r) l m]
theorem chainAll_append : ∀ (d : By) (l m : List Rc), chainAll d (l ++ m) = chainAll (chainAll d l) m
 | d, [], m => rfl
 | d, r :: l, m => by simp [chainAll, chainAll_append (nextB d r) l m]
def AllP (d b : By) (l : List Rc) : Prop := ∃ q, b = bytesAll d l ++ q ∧ (∀ r ∈ l, OkR r) ∧ (readR (chainAll d l) q).2.2.2 ≠ 0
theorem AllP.uniq : ∀ {l m : List Rc} {d b : By}, AllP d b l → AllP d b m → l = m
 | [], [], _, _, _, _ => rfl
 | [], r :: m, d, b, ⟨q, hb, _, h⟩, ⟨q', hb', ho, _⟩ => by
  exfalso
  have hq : q = b := by rw [hb]; rfl
  rw [bytesAll, List.append_assoc] at hb'
  rw [chainAll, hq, hb', readR_own d (ho r (by simp))] at h
  exact h rfl
 | r :: m, [], d, b, ⟨q', hb', ho, _⟩, ⟨q, hb, _, h⟩ => by
  exfalso
  have hq : q = b := by rw [hb]; rfl
  rw [bytesAll, List.append_assoc] at hb'
  rw [chainAll, hq, hb', readR_own d (ho r (by simp))] at h
  exact h rfl
 | r :: l, s :: m, d, b, ⟨q, hb, ho, h⟩, ⟨q', hb', ho', h'⟩ => by
  have e1 : readR d b = (r, (bytesR d r).length, nextB d r, 0) := by rw [hb, bytesAll, List.append_assoc, readR_own d (ho r (by simp))]
  have e2 : readR d b = (s, (bytesR d s).length, nextB d s, 0) := by rw [hb', bytesAll, List.append_assoc, readR_own d (ho' s (by simp))]
  rw [e1] at e2
  simp only [Prod.mk.injEq, and_true] at e2
  obtain ⟨rfl, _⟩ := e2
  rw [hb, bytesAll, bytesAll, List.append_assoc, List.append_assoc] at hb'
  have hb2 := List.append_cancel_left hb'
  rw [AllP.uniq (l := l) (m := m) (d := nextB d r) (b := bytesAll (nextB d r) l ++ q) ⟨q, rfl, fun x hx => ho x (by simp [hx]), h⟩ ⟨q', hb2, fun x hx => ho' x (by simp [hx]), h'⟩]
end Go.Proofs.YtnnhenafhalobaaGreat
namespace Go.Proofs.YtnnhenafhalobaaGreat
set_option maxRecDepth 100000
open Go.RowKit
section
variable {N : Nat} {fr : Fr} {w : World} {ty t' : TypeId} {x y : Operand} {p q : List UInt8}
end
end Go.Proofs.YtnnhenafhalobaaGreat
namespace Go.Proofs.YtnnhenafhalobaaGreat
set_option maxRecDepth 100000
open Go.RowKit
def vK (k : IntKind) (l : List Nat) : List Value := l.map fun x : Nat => .int k (x : Int)
theorem vK_length (k : IntKind) (l : List Nat) : (vK k l).length = l.length := List.length_map ..
theorem vK_get {k : IntKind} {l : List Nat} {j : Nat} (h : j < l.length) : (vK k l)[j]? = some (.int k (l[j] : Int)) := by
 unfold vK; rw [List.getElem?_map, List.getElem?_eq_getElem h]; rfl
theorem vK_set (k : IntKind) (l : List Nat) (j a : Nat) : vK k (l.set j a) = (vK k l).set j (.int k (a : Int)) := by
 unfold vK; rw [List.map_set]
def OwnK (k : IntKind) (e : TypeId) (w : World) (lo hi : Nat) (A : Option Addr) (c : Nat) (l : List Nat) : Prop := RowH w lo hi e 1 A l.length c (vK k l)
section
variable {k : IntKind} {w w' : World} {lo hi c b : Nat} {e e' : TypeId} {A : Option Addr} {l : List Nat} {row : Option Nat}
theorem OwnK.at_ (h : OwnK k e w lo hi A c l) (hl : 0 < l.length) : ∃ g, A = some ⟨g, 0, none⟩ ∧ blk A = some g := by
 rcases h.o.2 with ⟨h', h0⟩ | ⟨g, cap, cur, hv, _⟩
 ·omega
 ·injection hv with hv
  exact ⟨g, hv, by rw [hv]; rfl⟩
theorem OwnK.stored {j a : Nat} (h : OwnK k e w lo hi A c l) (hj : j < l.length) :
  OwnK k e (w.setCell (adr A j) (.int k (a : Int))) lo hi A c (l.set j a) ∧ Grew w (w.setCell (adr A j) (.int k (a : Int))) e (blk A) ∧ (w.setCell (adr A j) (.int k (a : Int))).heap.size = w.heap.size ∧ w.frozen? (adr A j) = false ∧ (w.cell? (adr A j)).isSome = true := by
 obtain ⟨g, rfl, hb⟩ := h.at_ (by omega)
 have e1 : adr (some ⟨g, 0, none⟩) j = ⟨g, j, none⟩ := by simp [adr, add_plain]
 rw [e1]
 have h1 := World.ownsRow.stored h.o j (.int k (a : Int))
 refine ⟨⟨?_, h.hi⟩, ⟨by rw [hb]; exact h1.2, RowH.ty h⟩, ?_, World.ownsRow.frozenAt h.o j, ?_⟩
 ·show World.ownsRow _ lo e 1 _ (l.set j a).length _
  rw [List.length_set, vK_set]; exact h1.1
 ·exact Nat.le_antisymm (by simp) h1.2.size
 ·have := (RowH.rd h).adr_ (fun e0 => by have := vK_length k l; rw [e0] at this; simp at this; omega)
  have h2 := this.2 j _ (vK_get (k := k) hj)
  rw [e1] at h2; rw [h2]; rfl
end
section
variable {P : Program} {fn : Func} {F : Ending → World → Prop} {N : Nat} {ks : List K} {ops : Array Oper} {tg : Tags} {l : List Oper} {fr : Fr} {w : World} {ty t e : TypeId} {z : Value} {k k1 k2 : IntKind} {pos : String} {aft : Array Edge} {gd : Option (Nat × Bool)} {d n c a j q lo hi bytes : Nat} {x y : Operand} {A X : Option Addr} {zs ms : List Nat}
theorem wl_stK (hs : ∀ w, (sizeOf t).run P w = .ok 1 w) (hx : fr.ev x = some (.pointer (some (adr A j)))) (hown : OwnK k e w lo hi A c zs) (hy : fr.ev y = some (.int k (a : Int))) (hj : j < zs.length)
  (hk : ∀ w', OwnK k e w' lo hi A c (zs.set j a) → Grew w w' e (blk A) → Below lo w w' → w'.heap.size = w.heap.size → WL P fn F N ks ops tg.tail l fr w') (ht : tg.loud = true := by rfl) (hg : onG ops fr gd = true := by rfl) (hq : tg.calm = false ∨ blk A = tg.row := by exact .inl rfl) :
  WL P fn F N ks ops tg (⟨none, .store t x y, ty, pos, aft, gd⟩ :: l) fr w := by
 obtain ⟨h1, h2, h3, h4, h5⟩ := hown.stored (a := a) hj
 obtain ⟨u, hu⟩ := Option.isSome_iff_exists.1 h5
 obtain ⟨g, e1, e2⟩ := hown.at_ (by omega)
 have eg : adr A j = ⟨g, j, none⟩ := by rw [e1]; simp [adr, add_plain]
 rw [eg] at hx hu h4 h1 h2 h3
 refine wl_u (o_store hs hx hy rfl hu h4) (hk _ h1 h2 ?_ h3) ht hg ?_
 ·exact below_of_grownBy (by rw [← e2]; exact h2.g) (by have := RowH.lt hown g e2; omega) (by have := RowH.lt hown g e2; omega)
 ·rcases hq with hq | hq
  ·exact .inl hq
  ·exact .inr (Rw.of (show w.grownBy _ tg.row by rw [← hq]; exact h2.g))
end
end Go.Proofs.YtnnhenafhalobaaGreat
namespace Go.Proofs.YtnnhenafhalobaaGreat
set_option maxRecDepth 100000
open Go.RowKit
theorem b8_vK (l : List UInt8) : B8 l = vK .u8 (l.map UInt8.toNat) := by
 unfold B8 vK; rw [List.map_map]; rfl
theorem OwnH.to_K {w : World} {lo hi c : Nat} {A : Option Addr} {l : List UInt8} (h : OwnH w lo hi A c l) : OwnK .u8 5 w lo hi A c (l.map UInt8.toNat) := by
 have h' : RowH w lo hi 5 1 A l.length c (B8 l) := h
 rw [b8_vK] at h'
 show RowH w lo hi 5 1 A (l.map UInt8.toNat).length c _
 rw [List.length_map]
 exact h'
theorem OwnK.to_H {w : World} {lo hi c : Nat} {A : Option Addr} {l : List UInt8} (h : OwnK .u8 5 w lo hi A c (l.map UInt8.toNat)) : OwnH w lo hi A c l := by
 have h' : RowH w lo hi 5 1 A (l.map UInt8.toNat).length c (vK .u8 (l.map UInt8.toNat)) := h
 rw [List.length_map, ← b8_vK] at h'
 exact h'
theorem OwnH.some_ {w : World} {lo hi c : Nat} {A : Option Addr} {l : List UInt8} (h : OwnH w lo hi A c l) (hl : 0 < l.length) : A = some (A.getD ⟨0, 0, none⟩) := h.to_Rd.some_ (by decide) (by simpa using hl)
section
variable {P : Program} {fn : Func} {F : Ending → World → Prop} {N : Nat} {ks : List K} {ops : Array Oper} {tg : Tags} {l : List Oper} {fr : Fr} {w : World} {ty t t' : TypeId} {pos : String} {aft : Array Edge} {gd : Option (Nat × Bool)} {c j lo hi : Nat} {x y : Operand} {A : Option Addr} {bs : List UInt8} {u v : UInt8}
theorem wl_stO (hs : ∀ w, (sizeOf t).run P w = .ok 1 w) (hx : fr.ev x = some (.pointer (some (adr A j)))) (hown : OwnH w lo hi A c bs) (hy : fr.ev y = some (.int .u8 (u.toNat : Int))) (hj : j < bs.length)
  (hk : ∀ w', OwnH w' lo hi A c (bs.set j u) → Grew w w' 5 (blk A) → Below lo w w' → w'.heap.size = w.heap.size → WL P fn F N ks ops tg.tail l fr w') (ht : tg.loud = true := by rfl) (hg : onG ops fr gd = true := by rfl) (hq : tg.calm = false ∨ blk A = tg.row := by exact .inl rfl) :
  WL P fn F N ks ops tg (⟨none, .store t x y, ty, pos, aft, gd⟩ :: l) fr w :=
 wl_stK (a := u.toNat) hs hx hown.to_K hy (by rw [List.length_map]; exact hj) (fun w' h1 h2 h3 h4 => hk w' (by
  rw [show (bs.map UInt8.toNat).set j u.toNat = (bs.set j u).map UInt8.toNat from List.map_set.symm] at h1
  exact h1.to_H) h2 h3 h4) ht hg hq
theorem o_loadCut {N g i n : Nat} {fr : Fr} {w : World} {ty t t' : TypeId} {x : Operand} {cs vs : List Value} (ha' : ∀ w, (isAgg t).run P w = .ok true w) (hs : ∀ w, (sizeOf t).run P w = .ok n w) (hx : fr.ev x = some (.pointer (some ⟨g, i, none⟩))) (hB : Blk w g t' cs) (hv : (cs.drop i).take n = vs) (hn : vs.length = n) : OpV P N fr w (.load t x) ty (.agg vs.toArray) w := by
 subst hn
 refine o_loadn ha' hs hx (fun j u hj => ?_)
 rw [add_plain, hB.cell]
 rw [← hv] at hj
 have hj2 : j < vs.length := by
  rcases Nat.lt_or_ge j vs.length with h | h
  ·exact h
  ·rw [List.getElem?_eq_none (by rw [List.length_take]; omega)] at hj; cases hj
 rw [List.getElem?_take_of_lt hj2, List.getElem?_drop] at hj
 exact hj
end
end Go.Proofs.YtnnhenafhalobaaGreat
namespace Go.Proofs.YtnnhenafhalobaaGreat
set_option maxRecDepth 100000
open Go.RowKit
theorem tmod_neg (n m : Int) (hm : 0 < m) (h : n.tmod m < 0) : n % m = n.tmod m + m := by
 have e := Int.tmod_eq_emod (a := n) (b := m)
 have h1 := Int.emod_nonneg n (b := m) (by omega)
 split at e <;> omega
theorem tmod_pos (n m : Int) (hm : 0 < m) (h : ¬ n.tmod m < 0) : n % m = n.tmod m := by
 have e := Int.tmod_eq_emod (a := n) (b := m)
 have h2 := Int.emod_lt_of_pos n hm
 split at e <;> omega
def pick (n m : Int) : Int := if m < 1 then 0 else n % m
theorem i64_wf {n : Int} (h : -9223372036854775808 ≤ n ∧ n ≤ 9223372036854775807) : (Lit.int .i64 n).wf = true := by
 simp only [Lit.wf, Bool.and_eq_true, decide_eq_true_eq]
 exact h
theorem pick_range (n m : Int) (hm : 1 ≤ m) : 0 ≤ pick n m ∧ pick n m < m := by
 rw [pick, if_neg (by omega)]
 exact ⟨Int.emod_nonneg n (by omega), Int.emod_lt_of_pos n (by omega)⟩
theorem C_Pick (n m : Int) (wn : (Lit.int .i64 n).wf = true) (wm : (Lit.int .i64 m).wf = true) (w : World) :
  CallsR Tryz.prog 9 [.int .i64 n, .int .i64 m] w fun v w' => v = .int .i64 (pick n m) ∧ w' = w := by
 have bn := bounds_i64 wn
 have bm := bounds_i64 wm
 refine callsR Tryz.func9 rfl rfl (by kernel_rfl) rfl ?_
 refine zs (za rfl (wl_nil (rk_seq (zs (zm rfl ?_)))))
 refine zp (o_lt rfl rfl) ?_
 refine wl_nil ?_
 refine rk_if rfl (fun h => ?_) (fun h => ?_)
 ·refine zs ?_
  refine za rfl (wl_nil ?_)
  refine ret1 rfl rfl ?_
  exact ⟨by rw [pick, if_pos h], rfl⟩
 ·refine rk_skip ?_
  refine zs (zm rfl (zm rfl ?_))
  refine zp (o_remz rfl rfl (by omega)) ?_
  refine za rfl (wl_nil (rk_seq (zs (zm rfl ?_))))
  refine zp (o_lt rfl rfl) ?_
  refine wl_nil ?_
  refine rk_if rfl (fun h2 => ?_) (fun h2 => ?_)
  ·have e := tmod_neg n m (by omega) h2
   have e1 := Int.emod_nonneg n (b := m) (by omega)
   have e2 := Int.emod_lt_of_pos n (b := m) (by omega)
   refine rk_region (zm rfl (zm rfl ?_))
   refine zp (o_add rfl rfl (by omega) (by omega)) ?_
   refine za rfl (wl_nil (zs (zm rfl (za rfl (wl_nil ?_)))))
   refine ret1 rfl rfl ?_
   exact ⟨by rw [pick, if_neg h, tmod_neg n m (by omega) h2], rfl⟩
  ·refine rk_skip ?_
   refine zs (zm rfl (za rfl (wl_nil ?_)))
   refine ret1 rfl rfl ?_
   exact ⟨by rw [pick, if_neg h, tmod_pos n m (by omega) h2], rfl⟩
theorem C_PickR {n m r : Int} (w : World) (hr : pick n m = r) (wn : (Lit.int .i64 n).wf = true) (wm : (Lit.int .i64 m).wf = true) :
  CallsR Tryz.prog 9 [.int .i64 n, .int .i64 m] w fun v w' => v = .int .i64 r ∧ Below w.heap.size w w' := by
 refine (C_Pick n m wn wm w).mono ?_
 rintro v w' ⟨rfl, rfl⟩
 exact ⟨congrArg _ hr, Below.refl _ _⟩
end Go.Proofs.YtnnhenafhalobaaGreat
namespace Go.Proofs.YtnnhenafhalobaaGreat
set_option maxRecDepth 100000
open Go.RowKit
def gRec : GoT Rc := ((gInt .u8).pair gBytes).map (fun p => (UInt8.ofNat p.1.toNat, p.2))
theorem gRec_R {w : World} {cs : List Value} {r : Rc} (h : gRec.R w cs r) : ∃ A c, cs = [.int .u8 (r.1.toNat : Int), .slice A r.2.length c] ∧ Rd w A r.2 ∧ r.2.length ≤ c ∧ c ≤ maxLen := by
 obtain ⟨⟨x, p⟩, rfl, c1, c2, rfl, ⟨rfl, hx⟩, A, c, rfl, h2, h3, h4⟩ := h
 refine ⟨A, c, ?_, h2, h3, h4⟩
 have hb := bounds_u8 hx
 have e : ((UInt8.ofNat x.toNat).toNat : Int) = x := by
  have hn : x.toNat < 256 := by simp only at hb; omega
  rw [UInt8.toNat_ofNat_of_lt' hn]; simp only at hb; omega
 show _ = [Value.int .u8 ((UInt8.ofNat x.toNat).toNat : Int), _]
 rw [e]; rfl
theorem opens_Rec : Opens Tryz.prog 37 gRec := opens_map (opens_struct Tryz.underlying37 (by kernel_rfl) (.more (opens_int Tryz.underlying5 (by kernel_rfl)) rfl (.one (opens_bytes Tryz.underlying35 Tryz.underlying5 (by kernel_rfl) (by kernel_rfl)) rfl)))
end Go.Proofs.YtnnhenafhalobaaGreat
namespace Go.Proofs.YtnnhenafhalobaaGreat
set_option maxRecDepth 100000
open Go.RowKit
structure Item where
 k : Nat
 ps : List (Tag × Nat)
 ds : List Nat
 pre : List Nat
 φ : List Value → World → Nat → Nat → Prop
def Item.idx (it : Item) : List Nat := it.k :: it.ps.map Prod.snd
def bitsOf : List Nat → Nat
 | [] => 0
 | k :: r => Nat.lor (2 ^ k) (bitsOf r)
def Item.mask (it : Item) : Nat := bitsOf it.idx
def nthI : List Item → Nat → Option Item
 | [], _ => none
 | it :: _, 0 => some it
 | _ :: l, k + 1 => nthI l k
theorem nthI_mem : ∀ {l : List Item} {i : Nat} {it : Item}, nthI l i = some it → it ∈ l
 | _ :: _, 0, _, h => by injection h with h; subst h; simp
 | _ :: l, i + 1, _, h => List.mem_cons_of_mem _ (nthI_mem (l := l) (i := i) h)
theorem nthI_of_mem : ∀ {l : List Item} {it : Item}, it ∈ l → ∃ i, i < l.length ∧ nthI l i = some it
 | x :: l, it, h => by
  rcases List.mem_cons.1 h with h | h
  ·subst h; exact ⟨0, by simp, rfl⟩
  ·obtain ⟨i, h1, h2⟩ := nthI_of_mem h
   exact ⟨i + 1, by simpa using h1, h2⟩
theorem nthI_some : ∀ {l : List Item} {i : Nat}, i < l.length → ∃ it, nthI l i = some it
 | x :: _, 0, _ => ⟨x, rfl⟩
 | _ :: l, i + 1, h => nthI_some (l := l) (i := i) (by simpa using h)
theorem bitsOf_bit {j : Nat} : ∀ {l : List Nat}, (bitsOf l).testBit j = true ↔ j ∈ l
 | [] => by simp [bitsOf]
 | k :: r => by
  show (2 ^ k ||| bitsOf r).testBit j = true ↔ _
  rw [Nat.testBit_or, Bool.or_eq_true, bitsOf_bit (l := r), Nat.testBit_two_pow, List.mem_cons]
  constructor
  ·rintro (h | h)
   ·exact .inl (of_decide_eq_true h).symm
   ·exact .inr h
  ·rintro (h | h)
   ·exact .inl (by simp [h])
   ·exact .inr h
def apartAll : List (Nat × Nat) → Nat → Nat → Prop
 | [], _, _ => True
 | p :: r, lo, hi => (p.2 ≤ lo ∨ hi ≤ p.1) ∧ apartAll r lo hi
def given (its : List Item) (w : World) (B : Nat) : List Nat → List (Nat × Nat) → Fr → (Fr → Prop) → Prop
 | [], _, fr, K => K fr
 | p :: r, seen, fr, K => match nthI its p with
  | none => False
  | some it => ∀ vs lo hi, it.φ vs w lo hi → B ≤ lo → lo ≤ hi → hi ≤ w.heap.size → apartAll seen lo hi → given its w B r ((lo, hi) :: seen) (it.ds.zip vs ++ fr) K
def stables : List Item → Prop
 | [] => True
 | it :: r => (∀ vs w w' lo hi, it.φ vs w lo hi → Below w.heap.size w w' → it.φ vs w' lo hi) ∧ stables r
theorem stables_spec : ∀ {l : List Item}, stables l → ∀ it ∈ l, ∀ vs w w' lo hi, it.φ vs w lo hi → Below w.heap.size w w' → it.φ vs w' lo hi
 | _ :: _, h, it, hi => by
  rcases List.mem_cons.1 hi with e | e
  ·subst e; exact h.1
  ·exact stables_spec h.2 it e

/-! What is checked. -/
def meetN (a b : Nat) : Bool := !Nat.beq (Nat.land a b) 0
theorem meetN_spec {a b : Nat} (h : meetN a b = true) : ∃ i, a.testBit i = true ∧ b.testBit i = true := by
 unfold meetN at h
 refine Classical.byContradiction fun hn => ?_
 have e : Nat.land a b = 0 := Nat.eq_of_testBit_eq fun i => by
  show (a &&& b).testBit i = _
  rw [Nat.testBit_and, Nat.zero_testBit]
  cases h1 : a.testBit i with
  | false => rfl
  | true => cases h2 : b.testBit i with
   | false => rfl
   | true => exact absurd ⟨i, h1, h2⟩ hn
 rw [e] at h
 simp at h
def preMask (its : List Item) : List Nat → Nat
 | [] => 0
 | p :: r => Nat.lor (match nthI its p with | some it => it.mask | none => 0) (preMask its r)
theorem preMask_bit {its : List Item} {i : Nat} : ∀ {ps : List Nat}, (preMask its ps).testBit i = true → ∃ p ∈ ps, ∃ it, nthI its p = some it ∧ i ∈ it.idx
 | p :: r, h => by
  have h' : ((match nthI its p with | some it => it.mask | none => 0) ||| preMask its r).testBit i = true := h
  rw [Nat.testBit_or, Bool.or_eq_true] at h'
  rcases h' with h' | h'
  ·cases hp : nthI its p with
   | none => rw [hp] at h'; simp at h'
   | some it =>
    rw [hp] at h'
    exact ⟨p, by simp, it, hp, bitsOf_bit.1 h'⟩
  ·obtain ⟨q, h1, it, h2, h3⟩ := preMask_bit h'
   exact ⟨q, by simp [h1], it, h2, h3⟩
 | [], h => by simp [preMask] at h
def chkP (ops : Array Oper) (l : List Oper) (D A : List Nat) (L C : Nat) : List (Tag × Nat) → Nat → Bool
 | [], _ => true
 | (.p, k) :: ts, m => (!Nat.testBit L k && (rdyK D m k && freeAt ops l D m k)) && chkP ops l D A L C ts (m ||| 2 ^ k)
 | (.r, k) :: ts, m => (!Nat.testBit L k && (rdyK D m k && (freeAt ops l D m k && crossK L k (A.getD k 0) A 0))) && chkP ops l D A L C ts (m ||| 2 ^ k)
 | (.s, k) :: ts, m => (!Nat.testBit L k && (rdyK D m k && (freeAt ops l D m k && crossK (L ^^^ (L &&& C)) k (A.getD k 0) A 0))) && chkP ops l D A L C ts (m ||| 2 ^ k)
 | _ :: _, _ => false
theorem freeK_mono {ops : Array Oper} {oi : Oper} {m m' k : Nat} (hm : ∀ i, m.testBit i = true → m'.testBit i = true) : ∀ (l : List Oper) (D : List Nat) (j : Nat), freeK ops oi m k l D j = true → freeK ops oi m' k l D j = true
 | [], _, _, _ => by simp [freeK]
 | _ :: _, [], _, _ => by simp [freeK]
 | o :: l, d :: D, j, h => by
  simp only [freeK, Bool.and_eq_true, Bool.or_eq_true] at h ⊢
  refine ⟨?_, freeK_mono hm l D (j + 1) h.2⟩
  rcases h.1 with h | h | h
  ·exact .inl h
  ·exact .inr (.inl (hm _ h))
  ·exact .inr (.inr h)
theorem freeAt_mono {ops : Array Oper} {l : List Oper} {D : List Nat} {m m' k : Nat} (hm : ∀ i, m.testBit i = true → m'.testBit i = true) (h : freeAt ops l D m k = true) : freeAt ops l D m' k = true := by
 unfold freeAt at h ⊢
 split at h
 ·exact freeK_mono hm _ _ _ h
 ·cases h
theorem rdyK_mono {D : List Nat} {m m' k : Nat} (hm : ∀ i, m.testBit i = true → m'.testBit i = true) (hk : m'.testBit k = false) (h : rdyK D m k = true) : rdyK D m' k = true := by
 unfold rdyK at h ⊢
 split at h
 ·simp only [Bool.and_eq_true, Bool.not_eq_true'] at h ⊢
  exact ⟨hk, land_eq.2 fun i hi => hm i (land_eq.1 h.2 i hi)⟩
 ·cases h
theorem bit_lor {m k j : Nat} : (m ||| 2 ^ k).testBit j = true ↔ m.testBit j = true ∨ k = j := by
 rw [Nat.testBit_or, Bool.or_eq_true, Nat.testBit_two_pow]; simp
def maskAfter : List (Tag × Nat) → Nat → Nat
 | [], m => m
 | p :: ts, m => maskAfter ts (m ||| 2 ^ p.2)
theorem maskAfter_bit {j : Nat} : ∀ {ts : List (Tag × Nat)} {m : Nat}, (maskAfter ts m).testBit j = true ↔ m.testBit j = true ∨ j ∈ ts.map Prod.snd
 | [], m => by simp [maskAfter]
 | p :: ts, m => by
  rw [maskAfter, maskAfter_bit (ts := ts), bit_lor, List.map_cons, List.mem_cons]
  constructor
  ·rintro ((h | h) | h)
   ·exact .inl h
   ·exact .inr (.inl h.symm)
   ·exact .inr (.inr h)
  ·rintro (h | h | h)
   ·exact .inl (.inl h)
   ·exact .inl (.inr h.symm)
   ·exact .inr h
theorem chk_of_chkP {ops : Array Oper} {l : List Oper} {D A : List Nat} {L C n T : Nat} : ∀ (ts : List (Tag × Nat)) (m m' : Nat), chkP ops l D A L C ts m = true → (∀ i, m.testBit i = true → m'.testBit i = true) → (∀ i, m'.testBit i = true → T.testBit i = true ∨ m.testBit i = true) → (∀ p ∈ ts, T.testBit p.2 = false) →
  chk ops l D A L C (ts ++ [(.f (maskAfter ts m') L C, n)]) m' = true
 | [], m, m', _, _, _, _ => by simp [chk, maskAfter]
 | (t, k) :: ts, m, m', h, hm, hm2, hT => by
  have hk0 : rdyK D m k = true → m'.testBit k = false := fun hr => by
   have h0 : m.testBit k = false := by
    unfold rdyK at hr
    split at hr
    ·simp only [Bool.and_eq_true, Bool.not_eq_true'] at hr; exact hr.1
    ·cases hr
   cases hb : m'.testBit k with
   | false => rfl
   | true =>
    rcases hm2 k hb with h1 | h1
    ·rw [hT (t, k) (by simp)] at h1; cases h1
    ·rw [h0] at h1; cases h1
  have rest : chkP ops l D A L C ts (m ||| 2 ^ k) = true → chk ops l D A L C (ts ++ [(.f (maskAfter ts (m' ||| 2 ^ k)) L C, n)]) (m' ||| 2 ^ k) = true := fun h2 =>
   chk_of_chkP ts _ _ h2 (fun i hi => by rw [bit_lor] at hi ⊢; exact hi.imp (hm i) id) (fun i hi => by
    rw [bit_lor] at hi ⊢
    rcases hi with hi | hi
    ·rcases hm2 i hi with h1 | h1
     ·exact .inl h1
     ·exact .inr (.inl h1)
    ·exact .inr (.inr hi)) (fun p hp => hT p (by simp [hp]))
  cases t with
  | p =>
   simp only [chkP, Bool.and_eq_true] at h
   obtain ⟨⟨h1, h2, h3⟩, h4⟩ := h
   simp only [List.cons_append, chk, maskAfter, Bool.and_eq_true]
   exact ⟨⟨h1, rdyK_mono hm (hk0 h2) h2, freeAt_mono hm h3⟩, rest h4⟩
  | r =>
   simp only [chkP, Bool.and_eq_true] at h
   obtain ⟨⟨h1, h2, h3, h5⟩, h4⟩ := h
   simp only [List.cons_append, chk, maskAfter, Bool.and_eq_true]
   exact ⟨⟨h1, rdyK_mono hm (hk0 h2) h2, freeAt_mono hm h3, h5⟩, rest h4⟩
  | s =>
   simp only [chkP, Bool.and_eq_true] at h
   obtain ⟨⟨h1, h2, h3, h5⟩, h4⟩ := h
   simp only [List.cons_append, chk, maskAfter, Bool.and_eq_true]
   exact ⟨⟨h1, rdyK_mono hm (hk0 h2) h2, freeAt_mono hm h3, h5⟩, rest h4⟩
  | l => simp [chkP] at h
  | c => simp [chkP] at h
  | f => simp [chkP] at h
  | g => simp [chkP] at h
theorem opsOf_ps {ops : Array Oper} {l : List Oper} {D A : List Nat} {L C n T : Nat} : ∀ (ts : List (Tag × Nat)) (m : Nat), chkP ops l D A L C ts m = true → opsOf ops (ts ++ [(.f T L C, n)]) = ts.map (fun p => ops[p.2]?) ∧ extra (ts ++ [(.f T L C, n)]) = n
 | [], _, _ => ⟨rfl, rfl⟩
 | (t, k) :: ts, m, h => by
  have ih := fun m h => opsOf_ps (ops := ops) (l := l) (D := D) (A := A) (L := L) (C := C) (n := n) (T := T) ts m h
  cases t with
  | p => simp only [chkP, Bool.and_eq_true] at h; have := ih _ h.2; exact ⟨by simp [opsOf, this.1], by simp [extra, this.2]⟩
  | r => simp only [chkP, Bool.and_eq_true] at h; have := ih _ h.2; exact ⟨by simp [opsOf, this.1], by simp [extra, this.2]⟩
  | s => simp only [chkP, Bool.and_eq_true] at h; have := ih _ h.2; exact ⟨by simp [opsOf, this.1], by simp [extra, this.2]⟩
  | l => simp [chkP] at h
  | c => simp [chkP] at h
  | f => simp [chkP] at h
  | g => simp [chkP] at h
def incrN : List Nat → Bool
 | [] => true
 | a :: r => r.all (fun b => Nat.blt a b) && incrN r
theorem incrN_spec : ∀ {l : List Nat}, incrN l = true → l.Pairwise (· < ·)
 | [], _ => .nil
 | a :: r, h => by
  simp only [incrN, Bool.and_eq_true, List.all_eq_true] at h
  exact List.pairwise_cons.2 ⟨fun b hb => by have := h.1 b hb; simpa using this, incrN_spec h.2⟩
def chkI (ops : Array Oper) (l : List Oper) (its : List Item) (D A : List Nat) (L C m : Nat) : List Item → Nat → Bool
 | [], _ => true
 | it :: r, i => (Nat.testBit L it.k && (it.pre.all (fun p => Nat.blt p i && meetN (A.getD it.k 0) (preMask its [p])) && (incrN it.pre && (rdyK D (m ||| preMask its it.pre) it.k && (it.idx.all (fun j => Nat.blt j l.length) && chkP ops l D A L C it.ps (m ||| preMask its it.pre ||| 2 ^ it.k)))))) && chkI ops l its D A L C m r (i + 1)
def disjN : List Item → Nat → Bool
 | [], _ => true
 | it :: r, m => !meetN it.mask m && disjN r (Nat.lor m it.mask)
def disjD : List Item → List Nat → Bool
 | [], _ => true
 | it :: r, ds => it.ds.all (fun d => !inN d ds) && disjD r (it.ds ++ ds)
def chkJ (its : List Item) (D A : List Nat) (m : Nat) : List Nat → Nat → Bool
 | [], _ => true
 | d :: r, j => (Nat.testBit m j || (its.any (fun it => Nat.beq it.k j || (inN j (it.ps.map Prod.snd) && meetN d it.mask)) || its.all (fun it => meetN (A.getD j 0) it.mask && !Nat.testBit it.mask j))) && chkJ its D A m r (j + 1)
def fuelOf (T : Nat) : List Item → Nat
 | [] => 0
 | it :: r => (bif Nat.testBit T it.k then 0 else 1 + it.ps.length) + fuelOf T r
def allMask (m : Nat) : List Item → Nat
 | [] => m
 | it :: r => allMask (Nat.lor m it.mask) r
def chkC (ops : List Oper) (its : List Item) (all : List Nat) (D A : List Nat) (L C m n : Nat) (fr : Fr) (ordR : List Nat) (tsR : List (Tag × Nat)) : Bool :=
 chkI ops.toArray ops its D A L C m its 0 && (disjN its m && (disjD its (fr.map Prod.fst) && (chkJ its D A m D 0 && (incrN all && (all.all (fun p => Nat.blt p its.length) &&
  (Nat.beq n (((inOrder ops ordR).length + extra tsR) + fuelOf m its) && chk ops.toArray ops D A L C tsR (allMask m its)))))))

/-! Frames. -/
theorem Rep.append {N : Nat} {a : Act} {f1 f2 : Fr} (h1 : Rep N a f1) (h2 : Rep N a f2) : Rep N a (f1 ++ f2) := ⟨h1.size, h1.defers, fun t v h => by
 rw [Fr.get_append] at h
 cases hc : f1.get t with
 | some u => rw [hc] at h; exact h1.get t v (hc.trans h)
 | none => rw [hc] at h; exact h2.get t v h⟩
theorem dump_ex {N : Nat} {a : Act} {fr : Fr} (h : Rep N a fr) : ∃ fo : Fr, Rep N a fo ∧ ∀ t v, a.tmps[t]? = some v → fo.get t = some v := by
 have key : ∀ (k : Nat), ∃ fo : Fr, (∀ t v, fo.get t = some v → a.tmps[t]? = some v) ∧ ∀ t v, t < k → a.tmps[t]? = some v → fo.get t = some v := by
  intro k
  induction k with
  | zero => exact ⟨[], (fun t v h => by cases h), fun t v h => absurd h (Nat.not_lt_zero _)⟩
  | succ k ih =>
   obtain ⟨fo, h1, h2⟩ := ih
   cases hk : a.tmps[k]? with
   | none =>
    refine ⟨fo, h1, fun t v ht hv => ?_⟩
    rcases Nat.lt_or_ge t k with h | h
    ·exact h2 t v h hv
    ·obtain rfl : t = k := by omega
     rw [hk] at hv; cases hv
   | some u =>
    refine ⟨(k, u) :: fo, fun t v hv => ?_, fun t v ht hv => ?_⟩
    ·rw [Fr.get_cons] at hv
     by_cases e : k = t
     ·subst e; rw [if_pos rfl] at hv; rw [hk]; exact hv
     ·rw [if_neg e] at hv; exact h1 t v hv
    ·rw [Fr.get_cons]
     by_cases e : k = t
     ·subst e; rw [if_pos rfl, ← hk]; exact hv
     ·rw [if_neg e]; exact h2 t v (by omega) hv
 obtain ⟨fo, h1, h2⟩ := key a.tmps.size
 exact ⟨fo, ⟨h.size, h.defers, h1⟩, fun t v hv => h2 t v (Array.getElem?_eq_some_iff.1 hv).1 hv⟩
theorem zip_get {t : Nat} {v : Value} : ∀ {ds : List Nat} {vs : List Value}, Fr.get (ds.zip vs) t = some v → t ∈ ds
 | [], _, h => by simp [Fr.get] at h
 | _ :: _, [], h => by simp [Fr.get] at h
 | d :: ds, u :: vs, h => by
  rw [List.zip_cons_cons, Fr.get_cons] at h
  by_cases e : d = t
  ·subst e; simp
  ·rw [if_neg e] at h; exact List.mem_cons_of_mem _ (zip_get h)
section
variable {its : List Item} {w : World} {B N : Nat} {a : Act} {lo hi : Nat → Nat} {vv : Nat → List Value}
theorem apartAll_of {l h : Nat} : ∀ {seen : List (Nat × Nat)}, (∀ q ∈ seen, q.2 ≤ l ∨ h ≤ q.1) → apartAll seen l h
 | [], _ => trivial
 | q :: r, hq => ⟨hq q (by simp), apartAll_of (fun q' h' => hq q' (by simp [h']))⟩
theorem given_elim : ∀ (ps : List Nat) (seen : List (Nat × Nat)) (fr : Fr) (K : Fr → Prop), Rep N a fr →
  (∀ p ∈ ps, ∃ it, nthI its p = some it ∧ Rep N a (it.ds.zip (vv p)) ∧ it.φ (vv p) w (lo p) (hi p) ∧ B ≤ lo p ∧ lo p ≤ hi p ∧ hi p ≤ w.heap.size) →
  ps.Pairwise (fun p q => hi p ≤ lo q ∨ hi q ≤ lo p) → (∀ q ∈ seen, ∀ p ∈ ps, q.2 ≤ lo p ∨ hi p ≤ q.1) → given its w B ps seen fr K → ∃ fr', Rep N a fr' ∧ (∀ t, fr'.get t = none → fr.get t = none) ∧ K fr'
 | [], _, fr, K, hr, _, _, _, h => ⟨fr, hr, fun _ h => h, h⟩
 | p :: r, seen, fr, K, hr, hp, hpw, hs, h => by
  obtain ⟨it, h1, h2, h3, h4, h5, h6⟩ := hp p (by simp)
  simp only [given, h1] at h
  have h7 := h (vv p) (lo p) (hi p) h3 h4 h5 h6 (apartAll_of (fun q hq => hs q hq p (by simp)))
  obtain ⟨hpw1, hpw2⟩ := List.pairwise_cons.1 hpw
  obtain ⟨fr', k1, k2, k3⟩ := given_elim r ((lo p, hi p) :: seen) _ K (h2.append hr) (fun q hq => hp q (by simp [hq])) hpw2 (fun q hq p' hp' => by
   rcases List.mem_cons.1 hq with e | e
   ·subst e; exact hpw1 p' hp'
   ·exact hs q e p' (by simp [hp'])) h7
  refine ⟨fr', k1, fun t ht => ?_, k3⟩
  have := k2 t ht
  rw [Fr.get_append] at this
  cases hc : Fr.get (it.ds.zip (vv p)) t with
  | some u => rw [hc] at this; cases this
  | none => rw [hc] at this; exact this
end
theorem allMask_bit {j : Nat} : ∀ {its : List Item} {m : Nat}, (allMask m its).testBit j = true ↔ m.testBit j = true ∨ ∃ it ∈ its, j ∈ it.idx
 | [], m => by simp [allMask]
 | it :: r, m => by
  rw [allMask, allMask_bit (its := r), show (Nat.lor m it.mask).testBit j = (m.testBit j || it.mask.testBit j) from Nat.testBit_or .., Bool.or_eq_true, show it.mask.testBit j = true ↔ j ∈ it.idx from bitsOf_bit]
  constructor
  ·rintro ((h | h) | ⟨x, h1, h2⟩)
   ·exact .inl h
   ·exact .inr ⟨it, by simp, h⟩
   ·exact .inr ⟨x, by simp [h1], h2⟩
  ·rintro (h | ⟨x, h1, h2⟩)
   ·exact .inl (.inl h)
   ·rcases List.mem_cons.1 h1 with e | e
    ·subst e; exact .inl (.inr h2)
    ·exact .inr ⟨x, e, h2⟩
theorem disjN_spec : ∀ {its : List Item} {m : Nat}, disjN its m = true → (∀ it ∈ its, ∀ j ∈ it.idx, m.testBit j = false) ∧ ∀ i i' it it', nthI its i = some it → nthI its i' = some it' → i ≠ i' → ∀ j ∈ it.idx, j ∉ it'.idx
 | [], m, _ => ⟨fun _ h => absurd h (by simp), fun i _ _ _ h => by cases i <;> cases h⟩
 | x :: r, m, h => by
  simp only [disjN, Bool.and_eq_true, Bool.not_eq_true'] at h
  obtain ⟨h1, h2⟩ := h
  obtain ⟨k1, k2⟩ := disjN_spec h2
  have kx : ∀ j ∈ x.idx, m.testBit j = false := fun j hj => by
   cases hb : m.testBit j with
   | false => rfl
   | true =>
    have : meetN x.mask m = true := by
     unfold meetN
     simp only [Bool.not_eq_true']
     cases hz : Nat.beq (Nat.land x.mask m) 0 with
     | false => rfl
     | true =>
      have e := Nat.eq_of_beq_eq_true hz
      have : (x.mask &&& m).testBit j = true := by rw [Nat.testBit_and, hb, show x.mask.testBit j = true from bitsOf_bit.2 hj]; rfl
      rw [show x.mask &&& m = 0 from e] at this
      simp at this
    rw [h1] at this; cases this
  have kr : ∀ it ∈ r, ∀ j ∈ it.idx, m.testBit j = false ∧ j ∉ x.idx := fun it hit j hj => by
   have := k1 it hit j hj
   rw [show (Nat.lor m x.mask).testBit j = (m.testBit j || x.mask.testBit j) from Nat.testBit_or .., Bool.or_eq_false_iff] at this
   refine ⟨this.1, fun hx => ?_⟩
   have h3 : x.mask.testBit j = true := bitsOf_bit.2 hx
   rw [this.2] at h3; cases h3
  refine ⟨fun it hit j hj => ?_, fun i i' it it' hi hi' hne j hj hj' => ?_⟩
  ·rcases List.mem_cons.1 hit with e | e
   ·subst e; exact kx j hj
   ·exact (kr it e j hj).1
  ·cases i with
   | zero =>
    injection hi with hi; subst hi
    cases i' with
    | zero => exact hne rfl
    | succ i' => exact (kr it' (nthI_mem (l := r) (i := i') hi') j hj').2 hj
   | succ i =>
    cases i' with
    | zero => injection hi' with hi'; subst hi'; exact (kr it (nthI_mem (l := r) (i := i) hi) j hj).2 hj'
    | succ i' => exact k2 i i' it it' hi hi' (by omega) j hj hj'
theorem inN_iff {t : Nat} : ∀ {l : List Nat}, inN t l = true ↔ t ∈ l
 | [] => by simp [inN]
 | a :: l => by
  rw [List.mem_cons, ← inN_iff (l := l), inN]
  cases hb : Nat.beq a t with
  | true => simp [(Nat.eq_of_beq_eq_true hb).symm]
  | false => simp [show t ≠ a from fun e => by subst e; simp at hb]
theorem disjD_spec : ∀ {its : List Item} {ds : List Nat}, disjD its ds = true → (∀ it ∈ its, ∀ d ∈ it.ds, d ∉ ds) ∧ ∀ i i' it it', nthI its i = some it → nthI its i' = some it' → i ≠ i' → ∀ d ∈ it.ds, d ∉ it'.ds
 | [], _, _ => ⟨fun _ h => absurd h (by simp), fun i _ _ _ h => by cases i <;> cases h⟩
 | x :: r, ds, h => by
  simp only [disjD, Bool.and_eq_true, List.all_eq_true, Bool.not_eq_true'] at h
  obtain ⟨h1, h2⟩ := h
  obtain ⟨k1, k2⟩ := disjD_spec h2
  have kx : ∀ d ∈ x.ds, d ∉ ds := fun d hd hm => by have := h1 d hd; rw [inN_iff.2 hm] at this; cases this
  have kr : ∀ it ∈ r, ∀ d ∈ it.ds, d ∉ x.ds ∧ d ∉ ds := fun it hit d hd => by
   have := k1 it hit d hd
   rw [List.mem_append, not_or] at this
   exact this
  refine ⟨fun it hit d hd => ?_, fun i i' it it' hi hi' hne d hd hd' => ?_⟩
  ·rcases List.mem_cons.1 hit with e | e
   ·subst e; exact kx d hd
   ·exact (kr it e d hd).2
  ·cases i with
   | zero =>
    injection hi with hi; subst hi
    cases i' with
    | zero => exact hne rfl
    | succ i' => exact (kr it' (nthI_mem (l := r) (i := i') hi') d hd').1 hd
   | succ i =>
    cases i' with
    | zero => injection hi' with hi'; subst hi'; exact (kr it (nthI_mem (l := r) (i := i) hi) d hd).1 hd'
    | succ i' => exact k2 i i' it it' hi hi' (by omega) d hd hd'
theorem nthOp_eq : ∀ (l : List Oper) (k : Nat), nthOp l k = l[k]?
 | [], _ => rfl
 | _ :: _, 0 => rfl
 | _ :: l, k + 1 => by rw [nthOp, nthOp_eq l k]; simp
theorem inOrder_map {ops : List Oper} : ∀ {ks : List Nat}, (∀ j ∈ ks, j < ops.length) → (inOrder ops ks).map some = ks.map (fun k => ops.toArray[k]?)
 | [], _ => rfl
 | k :: ks, h => by
  have hk : k < ops.length := h k (by simp)
  rw [inOrder, nthOp_eq, List.getElem?_eq_getElem hk]
  simp only [List.map_cons]
  rw [inOrder_map (fun j hj => h j (by simp [hj]))]
  simp [hk]
theorem fuel_step {T T2 : Nat} : ∀ {its : List Item} {i : Nat} {it : Item}, nthI its i = some it → T.testBit it.k = false → T2.testBit it.k = true → (∀ i' it', nthI its i' = some it' → i' ≠ i → T2.testBit it'.k = T.testBit it'.k) → fuelOf T its = fuelOf T2 its + (1 + it.ps.length)
 | x :: r, 0, it, h, h1, h2, h3 => by
  injection h with h; subst h
  have hr : ∀ (r : List Item), (∀ y ∈ r, T2.testBit y.k = T.testBit y.k) → fuelOf T r = fuelOf T2 r := fun r hy => by
   induction r with
   | nil => rfl
   | cons y r ih => rw [fuelOf, fuelOf, hy y (by simp), ih (fun z hz => hy z (by simp [hz]))]
  rw [fuelOf, fuelOf, h1, h2, hr r (fun y hy => by obtain ⟨j, _, hj⟩ := nthI_of_mem hy; exact h3 (j + 1) y hj (by omega))]
  simp only [cond_true, cond_false]; omega
 | x :: r, i + 1, it, h, h1, h2, h3 => by
  have := fuel_step (its := r) (i := i) h h1 h2 (fun i' it' hi' hne => h3 (i' + 1) it' hi' (by omega))
  rw [fuelOf, fuelOf, this, h3 0 x rfl (by omega)]; omega
theorem fuel_zero {T : Nat} : ∀ {its : List Item}, (∀ it ∈ its, T.testBit it.k = true) → fuelOf T its = 0
 | [], _ => rfl
 | x :: r, h => by rw [fuelOf, h x (by simp), fuel_zero (fun y hy => h y (by simp [hy]))]; rfl
theorem chkI_spec {ops : Array Oper} {l : List Oper} {its : List Item} {D A : List Nat} {L C m : Nat} : ∀ {r : List Item} {i0 : Nat}, chkI ops l its D A L C m r i0 = true → ∀ i it, nthI r i = some it →
  L.testBit it.k = true ∧ (∀ p ∈ it.pre, p < i0 + i ∧ ∃ j, (A.getD it.k 0).testBit j = true ∧ ∃ x, nthI its p = some x ∧ j ∈ x.idx) ∧ it.pre.Pairwise (· < ·) ∧ rdyK D (m ||| preMask its it.pre) it.k = true ∧ (∀ j ∈ it.idx, j < l.length) ∧ chkP ops l D A L C it.ps (m ||| preMask its it.pre ||| 2 ^ it.k) = true
 | x :: r, i0, h, i, it, hi => by
  simp only [chkI, Bool.and_eq_true, List.all_eq_true] at h
  obtain ⟨⟨h1, h2, h3, h4, h5, h6⟩, h7⟩ := h
  cases i with
  | zero =>
   injection hi with hi; subst hi
   refine ⟨h1, fun p hp => ?_, incrN_spec h3, h4, fun j hj => by have := h5 j hj; simpa using this, h6⟩
   obtain ⟨h8, h9⟩ := h2 p hp
   obtain ⟨j, k1, k2⟩ := meetN_spec h9
   obtain ⟨q, hq, y, hy, hj⟩ := preMask_bit k2
   rw [List.mem_singleton] at hq; subst hq
   exact ⟨by simpa using h8, j, k1, y, hy, hj⟩
  | succ i =>
   have := chkI_spec h7 i it hi
   refine ⟨this.1, fun p hp => ?_, this.2.2⟩
   obtain ⟨k1, k2⟩ := this.2.1 p hp
   exact ⟨by omega, k2⟩
theorem chkJ_spec {its : List Item} {D A : List Nat} {m : Nat} : ∀ {r : List Nat} {j0 : Nat}, chkJ its D A m r j0 = true → ∀ j d, r[j]? = some d →
  m.testBit (j0 + j) = true ∨ (∃ it ∈ its, it.k = j0 + j ∨ (j0 + j ∈ it.ps.map Prod.snd ∧ ∃ b, d.testBit b = true ∧ b ∈ it.idx)) ∨ ∀ it ∈ its, (∃ b, (A.getD (j0 + j) 0).testBit b = true ∧ b ∈ it.idx) ∧ j0 + j ∉ it.idx
 | [], _, _, j, d, hd => by simp at hd
 | d0 :: r, j0, h, j, d, hd => by
  simp only [chkJ, Bool.and_eq_true, Bool.or_eq_true, List.any_eq_true, List.all_eq_true] at h
  cases j with
  | zero =>
   simp only [List.getElem?_cons_zero, Option.some.injEq] at hd
   subst hd
   rw [Nat.add_zero]
   rcases h.1 with h1 | ⟨it, h1, h2⟩ | h1
   ·exact .inl h1
   ·refine .inr (.inl ⟨it, h1, ?_⟩)
    rcases h2 with h2 | ⟨h2, h3⟩
    ·exact .inl (Nat.eq_of_beq_eq_true h2)
    ·obtain ⟨b, k1, k2⟩ := meetN_spec h3
     exact .inr ⟨inN_iff.1 h2, b, k1, bitsOf_bit.1 k2⟩
   ·refine .inr (.inr fun it hit => ?_)
    have h2 := h1 it hit
    simp only [Bool.and_eq_true, Bool.not_eq_true'] at h2
    obtain ⟨b, k1, k2⟩ := meetN_spec h2.1
    refine ⟨⟨b, k1, bitsOf_bit.1 k2⟩, fun hm => ?_⟩
    rw [show it.mask.testBit j0 = true from bitsOf_bit.2 hm] at h2
    cases h2.2
  | succ j =>
   have := chkJ_spec h.2 j d (by simpa using hd)
   rw [show j0 + (j + 1) = j0 + 1 + j by omega]
   exact this
structure ConcSt (its : List Item) (N : Nat) (fr : Fr) (w0 : World) (m T : Nat) (a : Act) (w : World) (lo hi : Nat → Nat) (vv : Nat → List Value) : Prop where
 rep : Rep N a fr
 bel : Below w0.heap.size w0 w
 low : ∀ j, m.testBit j = true → T.testBit j = true
 up : ∀ j, T.testBit j = true → m.testBit j = true ∨ ∃ it ∈ its, j ∈ it.idx
 whole : ∀ it ∈ its, ∀ j ∈ it.idx, T.testBit j = T.testBit it.k
 f : ∀ i it, nthI its i = some it → T.testBit it.k = true → Rep N a (it.ds.zip (vv i)) ∧ it.φ (vv i) w (lo i) (hi i) ∧ w0.heap.size ≤ lo i ∧ lo i ≤ hi i ∧ hi i ≤ w.heap.size
 ap : ∀ i j it it', nthI its i = some it → nthI its j = some it' → T.testBit it.k = true → T.testBit it'.k = true → i ≠ j → hi i ≤ lo j ∨ hi j ≤ lo i
section
variable {P : Program} {fn : Func} {F : Ending → World → Prop} {N : Nat} {ks : List K} {ops : List Oper} {fr : Fr} {w : World} {row : Rw} {L C : Nat}
def stepOf (P : Program) (fn : Func) (F : Ending → World → Prop) (N : Nat) (ks : List K) (ops : List Oper) (fr : Fr) (w : World) (row : Rw) (L C : Nat) (its : List Item) (it : Item) : Prop :=
 ∀ (w' : World), Below w.heap.size w w' → ∀ (fo : Fr) (T T2 n2 : Nat), given its w' w.heap.size it.pre [] (fr ++ fo) fun fr' =>
  (∀ (vs : List Value) (w'' : World), it.φ vs w'' w'.heap.size w''.heap.size → Below w'.heap.size w' w'' → WL P fn F N ks ops.toArray (some (row, [(.f T2 L C, n2)])) [] (it.ds.zip vs ++ fr') w'') →
  WL P fn F N ks ops.toArray (some (row, (.g T L C, it.k) :: (it.ps ++ [(.f T2 L C, n2)]))) (inOrder ops it.idx) fr' w'
def stepsOf (P : Program) (fn : Func) (F : Ending → World → Prop) (N : Nat) (ks : List K) (ops : List Oper) (fr : Fr) (w : World) (row : Rw) (L C : Nat) (its : List Item) : List Item → Prop
 | [] => True
 | it :: r => stepOf P fn F N ks ops fr w row L C its it ∧ stepsOf P fn F N ks ops fr w row L C its r
theorem stepsOf_spec {its : List Item} : ∀ {r : List Item}, stepsOf P fn F N ks ops fr w row L C its r → ∀ it ∈ r, stepOf P fn F N ks ops fr w row L C its it
 | _ :: _, h, it, hi => by
  rcases List.mem_cons.1 hi with e | e
  ·subst e; exact h.1
  ·exact stepsOf_spec h.2 it e
theorem wl_conc {m n : Nat} (its : List Item) (all D A ordR : List Nat) (tsR : List (Tag × Nat)) (hD : ops.map (dmask .any) = D) (hA : ancs .any ops [] = A) (hc : chkC ops its all D A L C m n fr ordR tsR = true)
  (hlR : (inOrder ops ordR).map some = opsOf ops.toArray tsR) (hst : stables its) (hstep : stepsOf P fn F N ks ops fr w row L C its its)
  (hend : ∀ w', Below w.heap.size w w' → given its w' w.heap.size all [] fr fun fr' => WL P fn F N ks ops.toArray (some (row, tsR)) (inOrder ops ordR) fr' w') :
  WL P fn F N ks ops.toArray (some (row, [(.f m L C, n)])) [] fr w := by
 simp only [chkC, Bool.and_eq_true, List.all_eq_true] at hc
 obtain ⟨c1, c2, c3, c4, c5, c6, c8, c9⟩ := hc
 have hI := fun i it hi => chkI_spec c1 i it hi
 have hJ := fun j d hd => chkJ_spec c4 j d hd
 obtain ⟨d1, d2⟩ := disjN_spec c2
 obtain ⟨e1, e2⟩ := disjD_spec c3
 have hstab := stables_spec hst
 have hsteps := stepsOf_spec hstep
 obtain ⟨base, hbase⟩ : ∃ b, (inOrder ops ordR).length + extra tsR = b := ⟨_, rfl⟩
 have hn := Nat.eq_of_beq_eq_true c8
 rw [hbase] at hn
 subst hn
 have hfr : ∀ it ∈ its, ∀ d ∈ it.ds, fr.get d = none := fun it hit d hd => by
  refine (Fr.get_none_iff fr d).2 ?_
  cases hb : inN d (fr.map Prod.fst) with
  | false => rfl
  | true => exact absurd (inN_iff.1 hb) (e1 it hit d hd)
 have main : ∀ (f T : Nat) (a : Act) (w' : World) (lo hi : Nat → Nat) (vv : Nat → List Value), f = fuelOf T its → ConcSt its N fr w m T a w' lo hi vv → Left P (kpost P fn F ks) ops.toArray (some (row, [(.f T L C, base + f)])) [] a w' := by
  intro f
  induction f using Nat.strongRecOn with
  | _ f ih =>
   intro T a w' lo hi vv hf hS
   intro D' A' L' C' listed m' hm _ hchk
   unfold chk at hchk
   simp only [Bool.and_eq_true] at hchk
   obtain ⟨hm1, hL1, hC1⟩ := hchk
   obtain rfl := Nat.eq_of_beq_eq_true hm1
   obtain rfl := Nat.eq_of_beq_eq_true hL1
   obtain rfl := Nat.eq_of_beq_eq_true hC1
   obtain rfl : D' = D := by rw [hm.D, ← hD]
   obtain rfl : A' = A := by rw [hm.A, ← hA]
   show wpMix P .any ops.toArray _ _ _ row (0 + (base + f)) listed a w'
   rw [Nat.zero_add]
   have hbefore : ∀ j i, (A'.getD j 0).testBit i = true → Before .any ops.toArray i j := by
    rw [hm.A]
    exact ancs_spec ops.toArray.toList [] (fun j => by simp) (fun j i hb => by simp at hb)
   -- what is ahead of a ready operation is through
   have hahead : ∀ j ∈ Region.ready .any ops.toArray listed, ∀ b, (A'.getD j 0).testBit b = true → b = j ∨ m'.testBit b = true := fun j hj b hb => by
    by_cases e : b = j
    ·exact .inl e
    ·refine .inr ?_
     have hlt : j < listed.size := by
      have h0 := (mem_ready.1 hj).1
      rcases Nat.lt_or_ge j listed.size with h | h
      ·exact h
      ·simp [Array.getElem?_eq_none h] at h0
     have h1 := hbefore j b hb _ (hm.closed.set hj) (by simp [hlt])
     rw [getD_set_ne false (Ne.symm e)] at h1
     rw [← hm.bits]; exact h1
   by_cases hall : ∀ it ∈ its, m'.testBit it.k = true
   ·-- all through
    have hf0 : f = 0 := by rw [hf, fuel_zero hall]
    subst hf0
    have hT : m' = allMask m its := Nat.eq_of_testBit_eq fun j => by
     cases h1 : m'.testBit j with
     | true => exact (allMask_bit.2 (hS.up j h1)).symm
     | false =>
      cases h2 : (allMask m its).testBit j with
      | false => rfl
      | true =>
       rcases allMask_bit.1 h2 with h3 | ⟨it, h3, h4⟩
       ·rw [hS.low j h3] at h1; cases h1
       ·rw [hS.whole it h3 j h4, hall it h3] at h1; cases h1
    have hpos : ∀ p ∈ all, ∃ it, nthI its p = some it := fun p hp => by
     have hlt : p < its.length := by have := c6 p hp; simpa using this
     exact nthI_some hlt
    obtain ⟨fr', k1, _, k2⟩ := given_elim (its := its) (lo := lo) (hi := hi) (vv := vv) all [] fr _ hS.rep (fun p hp => by
     obtain ⟨it, hit⟩ := hpos p hp
     obtain ⟨h1, h2, h3, h4, h5⟩ := hS.f p it hit (hall it (nthI_mem hit))
     exact ⟨it, hit, h1, h2, h3, h4, h5⟩) (List.Pairwise.imp_of_mem (fun {p q} hp hq hpq => by
      obtain ⟨it, hit⟩ := hpos p hp
      obtain ⟨it', hit'⟩ := hpos q hq
      exact hS.ap p q it it' hit hit' (hall it (nthI_mem hit)) (hall it' (nthI_mem hit')) (by omega)) (incrN_spec c5)) (fun q hq => by cases hq) (hend w' hS.bel)
    have := left_elim (k2 a k1) hm hlR (by rw [hT]; exact c9)
    rw [hbase] at this
    simpa using this
   ·-- the first item that is left is ready
    obtain ⟨i0, it0, hi0, hu0, hmin⟩ : ∃ i it, nthI its i = some it ∧ m'.testBit it.k = false ∧ ∀ j, j < i → ∀ x, nthI its j = some x → m'.testBit x.k = true := by
     refine Classical.byContradiction fun hno => hall fun it hit => ?_
     obtain ⟨i, _, hi'⟩ := nthI_of_mem hit
     have key : ∀ i it, nthI its i = some it → m'.testBit it.k = true := by
      intro i
      induction i using Nat.strongRecOn with
      | _ i ihi =>
       intro it hit
       cases hb : m'.testBit it.k with
       | true => rfl
       | false => exact absurd ⟨i, it, hit, hb, fun j hj x hx => ihi j hj x hx⟩ hno
     exact key i it hi'
    have hsub : ∀ it, it ∈ its → (∀ p ∈ it.pre, ∀ x, nthI its p = some x → m'.testBit x.k = true) → ∀ j, (m ||| preMask its it.pre).testBit j = true → m'.testBit j = true := fun it hit hp j hj => by
     rw [Nat.testBit_or, Bool.or_eq_true] at hj
     rcases hj with hj | hj
     ·exact hS.low j hj
     ·obtain ⟨p, h1, x, h2, h3⟩ := preMask_bit hj
      rw [hS.whole x (nthI_mem h2) j h3]
      exact hp p h1 x h2
    have hrdy0 : it0.k ∈ Region.ready .any ops.toArray listed := hm.ready (rdyK_mono (hsub it0 (nthI_mem hi0) fun p hp x hx => hmin p (by have := ((hI i0 it0 hi0).2.1 p hp).1; omega) x hx) hu0 (hI i0 it0 hi0).2.2.2.1)
    obtain ⟨f', hf'⟩ : ∃ f', f = f' + 1 := by
     have := fuel_step (T := m') (T2 := m' ||| it0.mask) hi0 hu0 (by rw [Nat.testBit_or, show it0.mask.testBit it0.k = true from bitsOf_bit.2 (by simp [Item.idx])]; simp) (fun i' it' hi' hne => by
      rw [Nat.testBit_or]
      cases hb : it0.mask.testBit it'.k with
      | false => simp
      | true => exact absurd (bitsOf_bit.1 hb) (d2 i' i0 it' it0 hi' hi0 hne it'.k (by simp [Item.idx])))
     exact ⟨fuelOf (m' ||| it0.mask) its + it0.ps.length, by omega⟩
    rw [hf', ← Nat.add_assoc]
    refine ⟨fun h => (by rw [h] at hrdy0; cases hrdy0), fun j hj => ?_⟩
    -- which one it is
    obtain ⟨hjun, oj, hoj, hjall⟩ := mem_ready.1 hj
    have hjlt : j < ops.toArray.size := (Array.getElem?_eq_some_iff.1 hoj).1
    have hju : m'.testBit j = false := by rw [← hm.getD hjlt]; exact hjun
    have hDj := hm.dAt hoj
    obtain ⟨i, it, hi', rfl⟩ : ∃ i it, nthI its i = some it ∧ it.k = j := by
     rcases hJ j _ hDj with h1 | ⟨it, h1, h2⟩ | h1
     ·rw [Nat.zero_add] at h1; rw [hS.low j h1] at hju; cases hju
     ·obtain ⟨i, _, hi'⟩ := nthI_of_mem h1
      rw [Nat.zero_add] at h2
      rcases h2 with h2 | ⟨h2, b, h3, h4⟩
      ·exact ⟨i, it, hi', h2⟩
      ·exfalso
       have h5 : m'.testBit b = true := by
        obtain ⟨e, he, hb, rfl⟩ := dmask_bit.1 h3
        rw [← hm.bits]; exact hjall e he hb
       have h6 := hS.whole it h1 b h4
       have h7 := hS.whole it h1 j (by simp [Item.idx, h2])
       rw [h5] at h6; rw [← h6, hju] at h7; cases h7
     ·exfalso
      rw [Nat.zero_add] at h1
      obtain ⟨⟨b, h2, h3⟩, h5⟩ := h1 it0 (nthI_mem hi0)
      rcases hahead j hj b h2 with h4 | h4
      ·subst h4; exact h5 h3
      ·rw [hS.whole it0 (nthI_mem hi0) b h3, hu0] at h4; cases h4
    obtain ⟨q1, q2, q3, q4, q5, q6⟩ := hI i it hi'
    have hit := nthI_mem hi'
    rw [if_pos q1]
    have hpre : ∀ p ∈ it.pre, ∃ x, nthI its p = some x ∧ m'.testBit x.k = true := fun p hp => by
     obtain ⟨h1, b, h2, x, h3, h4⟩ := q2 p hp
     refine ⟨x, h3, ?_⟩
     rcases hahead it.k hj b h2 with h5 | h5
     ·subst h5; exact absurd h4 (d2 i p it x hi' h3 (by omega) _ (by simp [Item.idx]))
     ·rw [← hS.whole x (nthI_mem h3) b h4]; exact h5
    have hsb := hsub it hit (fun p hp x hx => by
     obtain ⟨y, h1, h2⟩ := hpre p hp
     rw [hx] at h1; injection h1 with h1; rw [h1]; exact h2)
    obtain ⟨fo, hfo, hfo2⟩ := dump_ex hS.rep
    obtain ⟨T2, hT2⟩ : ∃ T2, maskAfter it.ps (m' ||| 2 ^ it.k) = T2 := ⟨_, rfl⟩
    have hT2b : ∀ j, T2.testBit j = true ↔ m'.testBit j = true ∨ j ∈ it.idx := fun j => by
     rw [← hT2, maskAfter_bit, bit_lor, Item.idx, List.mem_cons]
     constructor
     ·rintro ((h | h) | h)
      ·exact .inl h
      ·exact .inr (.inl h.symm)
      ·exact .inr (.inr h)
     ·rintro (h | h | h)
      ·exact .inl (.inl h)
      ·exact .inl (.inr h.symm)
      ·exact .inr h
    have hT2k : T2.testBit it.k = true := (hT2b _).2 (.inr (by simp [Item.idx]))
    have hT2o : ∀ i' it', nthI its i' = some it' → i' ≠ i → ∀ j ∈ it'.idx, T2.testBit j = m'.testBit j := fun i' it' hi2 hne j hj => by
     cases hb : m'.testBit j with
     | true => exact (hT2b j).2 (.inl hb)
     | false =>
      cases hb2 : T2.testBit j with
      | false => rfl
      | true =>
       rcases (hT2b j).1 hb2 with h | h
       ·rw [hb] at h; cases h
       ·exact absurd h (d2 i' i it' it hi2 hi' hne j hj)
    have hfuel := fuel_step (T := m') (T2 := T2) hi' hju hT2k (fun i' it' hi2 hne => hT2o i' it' hi2 hne it'.k (by simp [Item.idx]))
    obtain ⟨fr', k1, k2, k3⟩ := given_elim (its := its) (lo := lo) (hi := hi) (vv := vv) it.pre [] (fr ++ fo) _ (hS.rep.append hfo) (fun p hp => by
     obtain ⟨x, hx, hb⟩ := hpre p hp
     obtain ⟨h1, h2, h3, h4, h5⟩ := hS.f p x hx hb
     exact ⟨x, hx, h1, h2, h3, h4, h5⟩) (List.Pairwise.imp_of_mem (fun {p q} hp hq hpq => by
      obtain ⟨x, hx, hb⟩ := hpre p hp
      obtain ⟨y, hy, hb'⟩ := hpre q hq
      exact hS.ap p q x y hx hy hb hb' (by omega)) q3) (fun q hq => by cases hq) (hsteps it hit w' hS.bel fo m' T2 (base + fuelOf T2 its))
    have hkeep : ∀ t v, a.tmps[t]? = some v → fr'.get t = some v := fun t v hv => by
     cases hg : fr'.get t with
     | some u => rw [← hv]; exact (k1.get t u hg).symm
     | none =>
      have h1 := k2 t hg
      rw [Fr.get_append, hfo2 t v hv] at h1
      cases h2 : fr.get t <;> rw [h2] at h1 <;> cases h1
    have hL := k3 (fun vs w'' hφ hb a' ha' => by
     have hkeep' : ∀ t v, a.tmps[t]? = some v → t ∉ it.ds → a'.tmps[t]? = some v := fun t v hv ht => by
      refine ha'.get t v ?_
      rw [Fr.get_append]
      cases hz : Fr.get (it.ds.zip vs) t with
      | some u => exact absurd (zip_get hz) ht
      | none => exact hkeep t v hv
     have hss := hb.size
     have hs0 := hS.bel.size
     refine ih (fuelOf T2 its) (by omega) T2 a' w'' (fun j => if j = i then w'.heap.size else lo j) (fun j => if j = i then w''.heap.size else hi j) (fun j => if j = i then vs else vv j) rfl
      ⟨⟨ha'.size, ha'.defers, fun t v hv => hkeep' t v (hS.rep.get t v hv) (fun hd => by rw [hfr it hit t hd] at hv; cases hv)⟩, hS.bel.trans (hb.mono hs0), fun j hj => (hT2b j).2 (.inl (hS.low j hj)), fun j hj => ?_, fun it' hit' j hj => ?_, fun i' it' hi2 hb2 => ?_, fun i1 i2 x y hx hy hbx hby hne => ?_⟩
     ·rcases (hT2b j).1 hj with h | h
      ·exact hS.up j h
      ·exact .inr ⟨it, hit, h⟩
     ·obtain ⟨i', _, hi2⟩ := nthI_of_mem hit'
      by_cases e : i' = i
      ·subst e
       rw [hi'] at hi2; injection hi2 with hi2; subst hi2
       rw [hT2k, (hT2b j).2 (.inr hj)]
      ·rw [hT2o i' it' hi2 e j hj, hT2o i' it' hi2 e it'.k (by simp [Item.idx])]
       exact hS.whole it' hit' j hj
     ·by_cases e : i' = i
      ·subst e
       rw [hi'] at hi2; injection hi2 with hi2; subst hi2
       simp only [if_true]
       refine ⟨⟨ha'.size, ha'.defers, fun t v hv => ha'.get t v ?_⟩, hφ, by omega, by omega, Nat.le_refl _⟩
       rw [Fr.get_append, hv]
      ·simp only [if_neg e]
       rw [hT2o i' it' hi2 e it'.k (by simp [Item.idx])] at hb2
       obtain ⟨h1, h2, h3, h4, h5⟩ := hS.f i' it' hi2 hb2
       refine ⟨⟨ha'.size, ha'.defers, fun t v hv => hkeep' t v (h1.get t v hv) (fun hd => ?_)⟩, hstab it' (nthI_mem hi2) _ _ _ _ _ h2 hb, h3, h4, by omega⟩
       exact e2 i' i it' it hi2 hi' e t (zip_get hv) hd
     ·by_cases ex : i1 = i
      ·subst ex
       have ey : i2 ≠ i1 := Ne.symm hne
       simp only [if_true, if_neg ey]
       rw [hT2o i2 y hy ey y.k (by simp [Item.idx])] at hby
       have := (hS.f i2 y hy hby).2.2.2.2
       exact .inr this
      ·by_cases ey : i2 = i
       ·subst ey
        simp only [if_true, if_neg ex]
        rw [hT2o i1 x hx ex x.k (by simp [Item.idx])] at hbx
        have := (hS.f i1 x hx hbx).2.2.2.2
        exact .inl this
       ·simp only [if_neg ex, if_neg ey]
        rw [hT2o i1 x hx ex x.k (by simp [Item.idx])] at hbx
        rw [hT2o i2 y hy ey y.k (by simp [Item.idx])] at hby
        exact hS.ap i1 i2 x y hx hy hbx hby hne) a k1
    have hmap := inOrder_map q5
    obtain ⟨o, l', hol⟩ : ∃ o l', inOrder ops it.idx = o :: l' := by
     cases h : inOrder ops it.idx with
     | nil => rw [h] at hmap; simp [Item.idx] at hmap
     | cons o l' => exact ⟨o, l', rfl⟩
    rw [hol] at hmap
    have hmap2 : some o = ops.toArray[it.k]? ∧ l'.map some = (it.ps.map Prod.snd).map (fun k => ops.toArray[k]?) := by
     rw [Item.idx, List.map_cons, List.map_cons] at hmap
     exact List.cons.inj hmap
    obtain ⟨o1, o2⟩ := opsOf_ps (ops := ops.toArray) (l := ops.toArray.toList) (n := base + fuelOf T2 its) (T := T2) it.ps _ q6
    have hl' : l'.length = it.ps.length := by have := congrArg List.length hmap2.2; simpa using this
    have fin := hL D' A' listed o l' hol hm hmap2.1.symm (by rw [hmap2.2, o1, List.map_map]; rfl) hj (by
     rw [← hT2]
     exact chk_of_chkP (T := m') it.ps _ _ q6 (fun i hi => by rw [bit_lor] at hi ⊢; exact hi.imp (hsb i) id) (fun i hi => by
      rw [bit_lor] at hi ⊢
      rcases hi with hi | hi
      ·exact .inl hi
      ·exact .inr (.inr hi)) (fun p hp => by rw [hS.whole it hit p.2 (by simp only [Item.idx, List.mem_cons, List.mem_map]; exact .inr ⟨p, hp, rfl⟩)]; exact hju))
    rw [o2, hl'] at fin
    rw [show base + f' = it.ps.length + (base + fuelOf T2 its) by omega]
    exact fin
 intro a ha
 have h0 : ∀ it ∈ its, m.testBit it.k = false := fun it hit => d1 it hit it.k (by simp [Item.idx])
 exact main _ m a w (fun _ => 0) (fun _ => 0) (fun _ => []) rfl ⟨ha, Below.refl _ _, fun _ h => h, fun _ h => .inl h, fun it hit j hj => by rw [d1 it hit j hj, h0 it hit],
  fun i it hi hb => absurd hb (by rw [h0 it (nthI_mem hi)]; simp), fun i j it it' hi _ hb _ _ => absurd hb (by rw [h0 it (nthI_mem hi)]; simp)⟩
end
end Go.Proofs.YtnnhenafhalobaaGreat
namespace Go.Proofs.YtnnhenafhalobaaGreat
set_option maxRecDepth 100000
open Go.RowKit
theorem OwnH.rng {w : World} {lo hi c : Nat} {A : Option Addr} {l : List UInt8} (h : OwnH w lo hi A c l) : ∀ k, blk A = some k → lo ≤ k ∧ k < hi := fun k hk => ⟨(RowH.lt h k hk).1, h.hi k hk⟩
section
variable {P : Program} {fn : Func} {F : Ending → World → Prop} {N : Nat} {ks : List K} {ops : Array Oper} {tg : Tags} {l : List Oper} {fr : Fr} {w : World} {ty t : TypeId} {pos : String} {aft : Array Edge} {gd : Option (Nat × Bool)} {d n j q c lo hi : Nat} {x y : Operand} {A X : Option Addr}
theorem wl_vR {op : Op} {v : Value} {w' : World} (h : OpV P N fr w op ty v w') (hk : WL P fn F N ks ops tg.tail l ((d, v) :: fr) w') (ht : tg.loud = true := by rfl) (hg : onG ops fr gd = true := by rfl) (hd : Nat.blt d N = true := by rfl) (hq : tg.calm = false ∨ tg.rw.ok w w' := by exact .inl rfl) :
  WL P fn F N ks ops tg (⟨some d, op, ty, pos, aft, gd⟩ :: l) fr w :=
 fun a ha => left_loud ht fun K hK => by
  rw [if_pos (wanted_on (o := ⟨some d, op, ty, pos, aft, gd⟩) ha hg)]
  unfold Oper.wp
  rw [h a ha _ rfl rfl]
  exact hK _ _ hq (hk _ (ha.put hd v))
theorem wl_appBm (T : U8 P t) {s m : List UInt8} (hx : fr.ev x = some (.slice A n c)) (hown : OwnH w lo hi A c s) (hn : n = s.length) (hy : fr.ev y = some (.slice X j q)) (hr : Rd w X m) (hj : j = m.length) (hlen : s.length + m.length ≤ 4000000000) (hB : lo ≤ w.heap.size)
  (h : ∀ A' c' w', OwnH w' lo w'.heap.size A' c' (s ++ m) → Grew w w' 5 (blk A) → Below lo w w' → WL P fn F N ks ops tg.tail l ((d, .slice A' (s ++ m).length c') :: fr) w')
  (ht : tg.loud = true := by rfl) (hg : onG ops fr gd = true := by rfl) (hd : Nat.blt d N = true := by rfl) (hq : tg.calm = false ∨ tg.rw.may (blk A) := by exact .inl rfl) :
  WL P fn F N ks ops tg (⟨some d, .call { callee := .builtin .append, args := #[x, y], argTypes := #[t, t] }, ty, pos, aft, gd⟩ :: l) fr w := by
 subst hn; subst hj
 obtain ⟨A', c', w', hrun, h1, h2, h3, h4⟩ := run_app (P := P) w T (ty := ty) hown.o (k := q) hr (by omega) hB
 exact wl_vR (o_builtin (xs := [x, y]) (vs := [.slice A s.length c, .slice X m.length q]) (by simp [Fr.evs, hx, hy]) (by simp [builtin, hrun]) (by simp)) (h A' c' w' h1.h_ ⟨h2, RowH.ty hown⟩ h4) ht hg hd (hq.imp id fun e => Rw.of_may h2 e)
end
section
variable {P : Program} {fn : Func} {F : Ending → World → Prop} {N : Nat} {ks : List K} {ops : List Oper} {fr : Fr} {w : World} {row : Rw} {L C : Nat}
end
end Go.Proofs.YtnnhenafhalobaaGreat
namespace Go.Proofs.YtnnhenafhalobaaGreat
set_option maxRecDepth 100000
open Go.RowKit
def SeqC {α : Type} (F : Fence) (n : Nat) (P : Program) (g : Nat) (lb : Array Value) (encs : α → Array Value) (Kp Cl : World → World → Prop) (Yd : List α → α → World → Prop) (S : List α → Prop) (w : World) : Prop :=
 ∀ (l : Nat) (J : List α → World → Prop) (W : World), Below w.heap.size w W → (∀ s A B, J s A → Cl A B → J s B) →
  (∀ pre x W1, J pre W1 → Yd pre x W1 → YieldAt F (n - 1) P l (encs x) W1 fun e W' => e = .returned (.bool true) ∧ J (pre ++ [x]) W' ∧ Kp W1 W') →
  J [] W → CallsIn F n P g (#[.func (.yield l) #[] #[]] ++ lb) W fun e W' => (∃ v, e = .returned v) ∧ ∃ xs, S xs ∧ J xs W'
theorem wpIn_rangeC {P : Program} {α : Type} {n : Nat} {g : Operand} {ps : Array Tmp} {assign body : Code} {Q : Exit → Act → World → Prop} {a : Act} {w : World} (h1 : 1 ≤ n) {gf : Nat} {lb : Array Value} (hg : a.eval g = .func (.func gf) #[] lb)
  (eg : ∀ args w, (callFunc gf args).run P w = .ok (.enter gf args) w) {encs : α → Array Value} {Kp Cl : World → World → Prop} {Yd : List α → α → World → Prop} {S : List α → Prop} {w0 : World} (hseq : SeqC Fence.wide (n - 1) P gf lb encs Kp Cl Yd S w0) (hb0 : Below w0.heap.size w0 w)
  (hKt : ∀ {A B C : World}, Kp A B → Kp B C → Kp A C) (hKb : ∀ (W : World) (l : Nat) (o : Obj), w.heap.size ≤ l → Kp W (W.putObj l o)) (hCl : ∀ A B, Cl A B → KeepsOthers A B) (hps : ∀ x, (encs x).size = ps.size)
  (I : List α → World → Prop) (hI : OwnFrom w.heap.size I) (hIC : ∀ s A B, I s A → Cl A B → I s B) (hYd : ∀ pre, OwnFrom w.heap.size (Yd pre)) (h0 : I [] w) (Ax : List α → α → Act → World → Prop) (hAx : ∀ pre x a', OwnFrom w.heap.size (fun (_ : Unit) W => Ax pre x a' W))
  (hassign : ∀ (l : Nat) (pre : List α) (x : α) (W : World), w.heap.size ≤ l → I pre W → Yd pre x W → assign.wpIn (Fence.wide.inRound l) (n - 1 - 1) P (Exit.then (fun a' W' => KeepsOthers W W' ∧ Kp W W' ∧ Ax pre x a' W') (fun _ _ _ => False)) { tmps := (ps.zip (encs x)).foldl (fun t (p, v) => t.setIfInBounds p v) a.tmps, defers := [] } W)
  (hbody : ∀ (l : Nat) (pre : List α) (x : α) (a' : Act) (W : World), w.heap.size ≤ l → Ax pre x a' W → body.wpIn (Fence.wide.inRound l) (n - 1 - 1) P (fun e _ W' => e = .normal ∧ KeepsOthers W W' ∧ Kp W W' ∧ I (pre ++ [x]) W') a' W)
  (hdone : ∀ (D : Nat) (xs : List α) (W : World), w.heap.size ≤ D → S xs → I xs W → W.heap[D]? = some (.deferred (some [])) → Q .normal { a with defers := { target := .collected D, args := #[] } :: a.defers } W) :
  (Code.rangeFunc g ps assign body).wpIn Fence.wide n P Q a w := by
 refine wpIn_rangeFunc fun fn hfn => ?_
 obtain ⟨D, hD⟩ : ∃ D, w.heap.size = D := ⟨_, rfl⟩
 obtain ⟨rc, hrc⟩ : ∃ rc : LoopState → Loop, rc = fun st => { state := st, pending := none, fn, tmps := a.tmps, params := ps, assign, body, defers := D } := ⟨_, rfl⟩
 obtain ⟨W1, hW1⟩ : ∃ W1, (w.alloc (.deferred (some []))).alloc (.loop (rc .ready)) = W1 := ⟨_, rfl⟩
 have hsz : W1.heap.size = D + 2 := by rw [← hW1, ← hD]; simp
 have hl1 : W1.heap[D + 1]? = some (.loop (rc .ready)) := by
  have := World.alloc_heap_new (w.alloc (.deferred (some []))) (.loop (rc .ready))
  rw [World.size_alloc, hD, hW1] at this; exact this
 have hd1 : W1.heap[D]? = some (.deferred (some [])) := by
  rw [← hW1, ← hD]; exact (Below.heap_alloc _ _ _ (by simp)).trans (World.alloc_heap_new w _)
 have hI1 : I [] W1 := by rw [← hW1]; exact hI.alloc _ (hI.alloc _ h0)
 have hb1 : Below w0.heap.size w0 W1 := by
  rw [← hW1]; exact hb0.trans ((((Below.refl _ w).alloc (Nat.le_refl _) _).alloc (by simp) _).mono hb0.size)
 subst hD
 refine ⟨w.heap.size + 1, [{ target := .collected w.heap.size, args := #[] }], W1, { target := .fn (.func gf) lb, args := #[.func (.yield (w.heap.size + 1)) #[] #[]] }, W1, gf, #[.func (.yield (w.heap.size + 1)) #[] #[]] ++ lb, W1, ?_, ?_, ?_, ?_, fun _ => h1, ?_⟩
 ·rw [← hW1, hrc]; exact run_enterLoop_outer _ _ _ _ _
 ·simp only [resolve, hg]
  simp [go_sem]
 ·intro f' hf'; simp [Target.leads] at hf'; subst hf'; exact trivial
 ·simp [invoke, go_sem, eg]
 ·refine (hseq (w.heap.size + 1) (fun pre W => I pre W ∧ W.heap[w.heap.size + 1]? = some (.loop (rc .ready)) ∧ W.heap[w.heap.size]? = some (.deferred (some []))) W1 hb1
   (fun s A B hs hc => ⟨hIC s A B hs.1 hc, (hCl A B hc).same _ _ hs.2.1 rfl, (hCl A B hc).same _ _ hs.2.2 rfl⟩) ?_ ⟨hI1, hl1, hd1⟩).mono ?_
  ·rintro pre x W ⟨hi, hl, hd⟩ hy
   have hlt : w.heap.size + 1 < W.heap.size := (Array.getElem?_eq_some_iff.1 hl).1
   have hyl := run_yield (P := P) (args := encs x) hl (by rw [hrc]; exact hps x)
   rw [hrc] at hyl
   refine ⟨fn, _, assign, body, hyl, roundIn_of_wpIn hfn (wpIn_mono (hassign _ pre x W (by omega) hi hy) ?_)⟩
   rintro e a1 Wa he
   cases e with
   | normal =>
    obtain ⟨k1, k2, k3⟩ := he
    have hla := k1.same _ _ hl rfl
    have hda := k1.same _ _ hd rfl
    have hlta : w.heap.size + 1 < Wa.heap.size := (Array.getElem?_eq_some_iff.1 hla).1
    refine ⟨_, run_beginRound hla (by rw [hrc]), ?_⟩
    have hlb : (Wa.putObj (w.heap.size + 1) (.loop { rc .ready with state := .busy })).heap[w.heap.size + 1]? = some (.loop { rc .ready with state := .busy }) := World.putObj_heap_same hlta
    have hdb : (Wa.putObj (w.heap.size + 1) (.loop { rc .ready with state := .busy })).heap[w.heap.size]? = some (.deferred (some [])) := (World.putObj_heap_other (by omega)).trans hda
    refine wpIn_mono (hbody _ pre x a1 _ (by omega) ((hAx pre x a1).putObj (s := ()) _ k3 (by omega) hla rfl)) ?_
    rintro e a3 W3 ⟨rfl, j1, j2, j3⟩
    have hlc := j1.same _ _ hlb rfl
    have hdc := j1.same _ _ hdb rfl
    have hend := run_endRound (P := P) none hlc
    rw [hrc] at hend
    have e1 : ({ rc .ready with state := .busy } : Loop) = { (rc .ready) with state := .busy } := rfl
    refine ⟨_, _, hend, rfl, ⟨hI.putObj _ j3 (by omega) hlc rfl, ?_, (World.putObj_heap_other (by omega)).trans hdc⟩, hKt k2 (hKt (hKb _ _ _ (by omega)) (hKt j2 (hKb _ _ _ (by omega))))⟩
    rw [hrc]
    exact World.putObj_heap_same (Array.getElem?_eq_some_iff.1 hlc).1
   | ret => exact (he : False).elim
   | panic c => exact (he : False).elim
   | outgrown => exact (he : False).elim
   | exit id => exact (he : False).elim
   | goto t => exact (he : False).elim
  ·rintro e W2 ⟨⟨v, rfl⟩, xs, hS, hi, hl, hd⟩
   refine ⟨none, W2.putObj (w.heap.size + 1) (.loop { rc .ready with state := .exhausted }), ?_, hdone _ xs _ (Nat.le_refl _) hS (hI.putObj _ hi (by omega) hl rfl) ((World.putObj_heap_other (by omega)).trans hd)⟩
   have := run_endLoop (P := P) hl (by rw [hrc]; simp)
   rw [hrc] at this
   rw [this, hrc]
section
variable {P : Program} {fn : Func} {F : Ending → World → Prop} {N n : Nat} {ks : List K} {fr : Fr} {w : World} {ops : Array Oper} {l : List Oper} {ty : TypeId} {pos : String} {aft : Array Edge} {d : Nat} {x : Operand} {gd : Option (Nat × Bool)}
theorem wli_yieldL {lp : Nat} {ts : Array TypeId} {xs : List Operand} {vs : List Value} {R : Ending → World → Prop} (hx : fr.ev x = some (.func (.yield lp) #[] #[])) (hy : fr.evs xs = some vs) (hY : YieldAt Fence.wide (n - 1) P lp vs.toArray w R)
  (hk : ∀ e w', R e w' → ∃ b, e = .returned (.bool b) ∧ WLI P fn F N n ks ops l ((d, .bool b) :: fr) w') (hg : onG ops fr gd = true := by rfl) (hd : Nat.blt d N = true := by rfl) :
  WLI P fn F N n ks ops (⟨some d, .call { callee := .value x, args := xs.toArray, argTypes := ts }, ty, pos, aft, gd⟩ :: l) fr w := fun a ha => by
 obtain ⟨f, tmps, assign, body, h1, h2⟩ := hY
 unfold wpListIn
 rw [if_pos (wanted_on (o := ⟨some d, .call { callee := .value x, args := xs.toArray, argTypes := ts }, ty, pos, aft, gd⟩) ha hg)]
 refine ⟨fun _ _ => trivial, ?_⟩
 have hsem : ∀ o : Oper, o.semAt Fence.wide.round a.eval = execOp a.eval o := fun _ => rfl
 have hargs : Array.map a.eval xs.toArray = vs.toArray := by rw [List.map_toArray, ha.evs hy]
 have hrun : (execOp a.eval ⟨some d, .call { callee := .value x, args := xs.toArray, argTypes := ts }, ty, pos, aft, gd⟩).run P w = .ok (.round lp f tmps assign body) w := by
  simp [execOp, resolve, invoke, Deferred.ofValue, ha.ev hx, hargs, h1]
 rw [hsem, hrun]
 refine ⟨fun e => (by cases e), h2.mono ?_⟩
 intro e w' he
 obtain ⟨b, rfl, hw⟩ := hk e w' he
 exact hw _ (ha.put hd _)
end
/-! Code before, in and behind such a statement. -/
theorem kp_normal {P : Program} {fn : Func} {I : Act → World → Prop} : ∀ {cs : List Code} {e : Exit} {a : Act} {w : World}, kpost P fn noEnd (cs.map K.code ++ [.inv I]) e a w → e = .normal
 | [], _, _, _, h => (kpost_inv h).1
 | c :: cs, e, a, w, h => by
  cases e with
  | normal => rfl
  | ret => exact kp_normal (cs := cs) (show kpost P fn noEnd (cs.map K.code ++ [.inv I]) .ret a w from h)
  | panic ch => exact kp_normal (cs := cs) (show kpost P fn noEnd (cs.map K.code ++ [.inv I]) (.panic ch) a w from h)
  | outgrown => exact kp_normal (cs := cs) (show kpost P fn noEnd (cs.map K.code ++ [.inv I]) .outgrown a w from h)
  | exit id => exact kp_normal (cs := cs) (show kpost P fn noEnd (cs.map K.code ++ [.inv I]) (.exit id) a w from h)
  | goto t => exact kp_normal (cs := cs) (show kpost P fn noEnd (cs.map K.code ++ [.inv I]) (.goto t) a w from h)
section
variable {P : Program} {fn : Func} {N n : Nat} {fr : Fr} {w : World} {I I1 : Act → World → Prop}
theorem seq5_of_rk {x y z v b u : Code} {Q : Exit → Act → World → Prop} {a : Act} (h : RK P fn noEnd N [.code x, .code y, .code z, .code v, .inv I] fr w) (ha : Rep N a fr) (hy : ∀ a w, I a w → b.wpIn Fence.wide n P (Exit.then (fun a w => u.wpIn Fence.wide n P Q a w) Q) a w) :
  (Code.seq x (.seq y (.seq z (.seq (.seq v b) u)))).wpIn Fence.wide n P Q a w := by
 refine wpIn_seq (wpIn_mono (wpIn_wide.2 (show x.wp P (kpost P fn noEnd [.code y, .code z, .code v, .inv I]) a w from h a ha)) (fun e a w he => ?_))
 obtain rfl := kp_normal (cs := [y, z, v]) he
 refine wpIn_seq (wpIn_mono (wpIn_wide.2 (show y.wp P (kpost P fn noEnd [.code z, .code v, .inv I]) a w from he)) (fun e a w he => ?_))
 obtain rfl := kp_normal (cs := [z, v]) he
 refine wpIn_seq (wpIn_mono (wpIn_wide.2 (show z.wp P (kpost P fn noEnd [.code v, .inv I]) a w from he)) (fun e a w he => ?_))
 obtain rfl := kp_normal (cs := [v]) he
 refine wpIn_seq (wpIn_seq (wpIn_mono (wpIn_wide.2 (show v.wp P (kpost P fn noEnd [.inv I]) a w from he)) (fun e a w he => ?_)))
 obtain ⟨rfl, hI⟩ := kpost_inv he
 exact hy a w hI
theorem in_seq {r m : Nat} {x y : Code} (h : RIn P fn N I1 r m x fr w) (hy : ∀ a w, I1 a w → y.wpIn (Fence.wide.inRound r) m P (kpost P fn noEnd [.inv I]) a w) : RIn P fn N I r m (.seq x y) fr w := fun a ha =>
 wpIn_seq (wpIn_mono (h a ha) (fun e a w he => by
  obtain ⟨rfl, hI⟩ := kpost_inv he
  exact hy a w hI))
def dd (d : Deferred) (a : Act) : Act := { a with defers := a.defers ++ [d] }
theorem dd_eval (d : Deferred) (a : Act) : (dd d a).eval = a.eval := by funext x; cases x <;> rfl
theorem dd_put (d : Deferred) (a : Act) (x : Option Nat) (v : Value) : (dd d a).put x v = dd d (a.put x v) := by cases x <;> rfl
theorem dd_of {d : Deferred} {a : Act} (h : a.defers = []) : { a with defers := d :: a.defers } = dd d a := by unfold dd; rw [h]; rfl
theorem operD_of {m : Nat} {d : Deferred} {o : Oper} {a : Act} {w : World} {K K' : Act → World → Prop} {Q Q' : Exit → Act → World → Prop} (hK : ∀ a w, K a w → K' (dd d a) w) (hQ : ∀ c a w, ¬ Q (.panic c) a w) (hO : ¬ LetsOut Q) (h : o.wp P a w K Q) : o.wpIn Fence.wide m P (dd d a) w K' Q' := by
 refine ⟨fun _ _ => trivial, ?_⟩
 show o.uponIn Fence.wide m P (dd d a) K' Q' ((execOp (dd d a).eval o).run P w)
 rw [dd_eval]
 unfold Oper.wp at h
 generalize (execOp a.eval o).run P w = res at h ⊢
 match res, h with
 | .ok (.value v) w', h => show K' ((dd d a).put o.dst v) w'; rw [dd_put]; exact hK _ _ h
 | .ok .skip w', h => show K' ((dd d a).put o.dst undef) w'; rw [dd_put]; exact hK _ _ h
 | .ok (.defer q) w', h =>
  have h' : K ({ a with defers := q :: a.defers }.put o.dst undef) w' := h
  show K' ({ dd d a with defers := q :: (dd d a).defers }.put o.dst undef) w'
  have e : ({ dd d a with defers := q :: (dd d a).defers } : Act) = dd d { a with defers := q :: a.defers } := rfl
  rw [e, dd_put]; exact hK _ _ h'
 | .ok (.enter f args) w', h =>
  refine ⟨fun e => (by cases e), (callsIn_wide.2 (Calls.mono h ?_))⟩
  intro e w'' he
  cases e with
  | returned v => show K' ((dd d a).put o.dst v) w''; rw [dd_put]; exact hK _ _ he
  | panicked c => exact (hQ _ _ _ he).elim
  | outgrown => exact (hO he).elim
 | .ok (.row row args) w', h =>
  refine ⟨fun e => (by cases e), ?_⟩
  have h' : Rows P row args w' fun v w'' => K (a.put o.dst v) w'' := h
  exact fun c cs hr => by
   obtain ⟨v, w'', hR, hs⟩ := h' c cs
   exact ⟨v, w'', (by show K' ((dd d a).put o.dst v) w''; rw [dd_put]; exact hK _ _ hR), (stepsIn_wide (P := P)).2 hs⟩
 | .halt (.panic v) w', h => exact (hQ _ _ _ h).elim
theorem wpAnyD_of {m : Nat} {d : Deferred} {ops : Array Oper} {Q Q' : Exit → Act → World → Prop} (hN : ∀ a w, Q .normal a w → Q' .normal (dd d a) w) (hQ : ∀ c a w, ¬ Q (.panic c) a w) (hout : ¬ LetsOut Q) : ∀ (fuel : Nat) (listed : Array Bool) (a : Act) (w : World), wpAny P .any ops Q fuel listed a w → wpAnyIn Fence.wide m P .any ops Q' fuel listed (dd d a) w
 | 0, _, _, _, h => ⟨h.1, hN _ _ h.2⟩
 | fuel + 1, listed, a, w, h => ⟨fun hr => hN _ _ (h.1 hr), fun i hi => by
  have h2 := h.2 i hi
  unfold wpOp at h2
  unfold wpOpIn
  cases ho : ops[i]? with
  | none =>
   rw [ho] at h2
   exact wpAnyD_of hN hQ hout fuel _ a w h2
  | some o =>
   rw [ho] at h2
   dsimp only at h2 ⊢
   by_cases hw : Region.wanted o (yielded ops a.tmps) = true
   ·rw [if_pos hw] at h2
    rw [if_pos (show Region.wanted o (yielded ops (dd d a).tmps) = true from hw)]
    rcases h2 with h2 | h2
    ·exact operD_of (fun a w h => wpAnyD_of hN hQ hout fuel _ a w h) hQ hout h2
    ·exact absurd h2.2 hout
   ·rw [if_neg hw] at h2
    rw [if_neg (show ¬ Region.wanted o (yielded ops (dd d a).tmps) = true from hw), dd_put]
    exact ⟨fun _ _ => trivial, wpAnyD_of hN hQ hout fuel _ _ _ h2⟩⟩
def RInD (P : Program) (fn : Func) (N : Nat) (I : Act → World → Prop) (d : Deferred) (m : Nat) (c : Code) (fr : Fr) (w : World) : Prop := ∀ a, Rep N a fr → c.wpIn Fence.wide m P (fun e a' w' => ∃ a2, e = .normal ∧ a' = dd d a2 ∧ I a2 w') (dd d a) w
theorem noPanic (c : List PanicEntry) (a : Act) (w : World) : ¬ kpost P fn noEnd [.inv I] (.panic c) a w := fun h => by have := (kpost_inv h).1; cases this
theorem ind_at {m id : Nat} {d : Deferred} {l l' : List Oper} (row : Rw) (D A : List Nat) (L C : Nat) (ts : List (Tag × Nat)) (hm : P.follows .mixedOrders = true) (hD : l.map (dmask .any) = D) (hA : ancs .any l [] = A)
  (hc : (Region.noSelect l.toArray && (Nat.beq (l'.length + extra ts) l.length && chk l.toArray l D A L C ts 0)) = true) (hl : l'.map some = opsOf l.toArray ts)
  (h : WL P fn noEnd N [.inv I] l.toArray (some (row, ts)) l' fr w.drew) : RInD P fn N I d m (.region id l.toArray true) fr w := fun a ha => by
 simp only [Bool.and_eq_true] at hc
 obtain ⟨h1, h2, h3⟩ := hc
 refine wpIn_region_any hm (wpAnyD_of (Q := kpost P fn noEnd [.inv I]) (fun a w h => ⟨a, rfl, rfl, (kpost_inv h).2⟩) noPanic noOut _ _ _ _ (wpAny_of_mix (loud := Nat.testBit L) (calm := Nat.testBit C) (row := row) _ _ _ _ ?_))
 have hno : ∀ j, (Array.replicate l.length false).getD j false = false := fun j => by
  rcases Nat.lt_or_ge j l.length with h' | h'
  ·simp [h']
  ·simp [h']
 have := left_elim (h a ha) (listed := Array.replicate l.length false) (m := 0) ⟨by simp, fun j => by rw [hno j]; simp, hD.symm, hA.symm, h1, fun j oj hj hl => by rw [hno j] at hl; cases hl⟩ hl h3
 rw [Nat.eq_of_beq_eq_true h2] at this
 simpa using this
theorem ind_draw {m id : Nat} {d : Deferred} {l : List Oper} (row : Option Nat) (D A : List Nat) (L C : Nat) (ts : List (Tag × Nat)) (hm : P.follows .mixedOrders = true) (hD : l.map (dmask .any) = D) (hA : ancs .any l [] = A)
  (hc : (Region.noSelect l.toArray && (Nat.beq (l.length + extra ts) l.length && chk l.toArray l D A L C ts 0)) = true) (hl : l.map some = opsOf l.toArray ts) (h : WL P fn noEnd N [.inv I] l.toArray (some ((row, none), ts)) l fr w.drew) :
  RInD P fn N I d m (.region id l.toArray true) fr w := ind_at (row, none) D A L C ts hm hD hA hc hl h
end
end Go.Proofs.YtnnhenafhalobaaGreat
namespace Go.Proofs.YtnnhenafhalobaaGreat
set_option maxRecDepth 100000
open Go.RowKit
theorem list32 {c : By} (h : c.length = 32) : ∃ a0 a1 a2 a3 a4 a5 a6 a7 a8 a9 b0 b1 b2 b3 b4 b5 b6 b7 b8 b9 c0 c1 c2 c3 c4 c5 c6 c7 c8 c9 d0 d1, c = [a0, a1, a2, a3, a4, a5, a6, a7, a8, a9, b0, b1, b2, b3, b4, b5, b6, b7, b8, b9, c0, c1, c2, c3, c4, c5, c6, c7, c8, c9, d0, d1] := by
 have step : ∀ {n : Nat} {l : By}, l.length = n + 1 → ∃ a r, l = a :: r ∧ r.length = n := fun {n l} h => by
  cases l with
  | nil => simp at h
  | cons a r => exact ⟨a, r, rfl, by simpa using h⟩
 obtain ⟨a0, r0, e0, h0⟩ := step h
 obtain ⟨a1, r1, e1, h1⟩ := step h0
 obtain ⟨a2, r2, e2, h2⟩ := step h1
 obtain ⟨a3, r3, e3, h3⟩ := step h2
 obtain ⟨a4, r4, e4, h4⟩ := step h3
 obtain ⟨a5, r5, e5, h5⟩ := step h4
 obtain ⟨a6, r6, e6, h6⟩ := step h5
 obtain ⟨a7, r7, e7, h7⟩ := step h6
 obtain ⟨a8, r8, e8, h8⟩ := step h7
 obtain ⟨a9, r9, e9, h9⟩ := step h8
 obtain ⟨b0, r10, e10, h10⟩ := step h9
 obtain ⟨b1, r11, e11, h11⟩ := step h10
 obtain ⟨b2, r12, e12, h12⟩ := step h11
 obtain ⟨b3, r13, e13, h13⟩ := step h12
 obtain ⟨b4, r14, e14, h14⟩ := step h13
 obtain ⟨b5, r15, e15, h15⟩ := step h14
 obtain ⟨b6, r16, e16, h16⟩ := step h15
 obtain ⟨b7, r17, e17, h17⟩ := step h16
 obtain ⟨b8, r18, e18, h18⟩ := step h17
 obtain ⟨b9, r19, e19, h19⟩ := step h18
 obtain ⟨c0, r20, e20, h20⟩ := step h19
 obtain ⟨c1, r21, e21, h21⟩ := step h20
 obtain ⟨c2, r22, e22, h22⟩ := step h21
 obtain ⟨c3, r23, e23, h23⟩ := step h22
 obtain ⟨c4, r24, e24, h24⟩ := step h23
 obtain ⟨c5, r25, e25, h25⟩ := step h24
 obtain ⟨c6, r26, e26, h26⟩ := step h25
 obtain ⟨c7, r27, e27, h27⟩ := step h26
 obtain ⟨c8, r28, e28, h28⟩ := step h27
 obtain ⟨c9, r29, e29, h29⟩ := step h28
 obtain ⟨d0, r30, e30, h30⟩ := step h29
 obtain ⟨d1, r31, e31, h31⟩ := step h30
 obtain rfl := List.length_eq_zero_iff.1 h31
 subst e31
 subst e30
 subst e29
 subst e28
 subst e27
 subst e26
 subst e25
 subst e24
 subst e23
 subst e22
 subst e21
 subst e20
 subst e19
 subst e18
 subst e17
 subst e16
 subst e15
 subst e14
 subst e13
 subst e12
 subst e11
 subst e10
 subst e9
 subst e8
 subst e7
 subst e6
 subst e5
 subst e4
 subst e3
 subst e2
 subst e1
 subst e0
 exact ⟨_, _, _, _, _, _, _, _, _, _, _, _, _, _, _, _, _, _, _, _, _, _, _, _, _, _, _, _, _, _, _, _, rfl⟩
def cMark (n : Int) (c : By) : List Value := .int .i64 n :: B8 c
theorem cMark_len {n : Int} {c : By} (h : c.length = 32) : (cMark n c).length = 33 := by simp [cMark, B8_length, h]
theorem Tryz.build_mark {c : By} (h : c.length = 32) (n : Int) (w : World) : (Instr.build 121 ([0, 1].zip [Value.int .i64 n, Value.agg (B8 c).toArray]).toArray).run Tryz.prog w = .ok (.agg (cMark n c).toArray) w := by
 obtain ⟨a0, a1, a2, a3, a4, a5, a6, a7, a8, a9, b0, b1, b2, b3, b4, b5, b6, b7, b8, b9, c0, c1, c2, c3, c4, c5, c6, c7, c8, c9, d0, d1, rfl⟩ := list32 h
 kernel_rfl
section
variable {N : Nat} {fr : Fr} {w : World} {ty : TypeId} {x y : Operand} {n : Int} {c : By}
theorem o_buildMark (hx : fr.ev x = some (.int .i64 n)) (hy : fr.ev y = some (.agg (B8 c).toArray)) (hc : c.length = 32) : OpV Tryz.prog N fr w (.build 121 #[(0, x), (1, y)]) ty (.agg (cMark n c).toArray) w :=
 o_build (is := [0, 1]) (xs := [x, y]) (vs := [.int .i64 n, .agg (B8 c).toArray]) (by simp [Fr.evs, hx, hy]) (Tryz.build_mark hc n)
end
abbrev Ev := Rc × (Option Addr × Nat) × (Nat × By)
def encE (x : Ev) : Array Value := #[.agg #[.int .u8 (x.1.1.toNat : Int), .slice x.2.1.1 x.1.2.length x.2.1.2], .agg (cMark x.2.2.1 x.2.2.2).toArray]
def ydE (B : Nat) (pre : List Ev) (x : Ev) (w : World) : Prop := RdT w x.2.1.1 x.1.2 ∧ x.1.2.length ≤ x.2.1.2 ∧ x.2.1.2 ≤ maxLen ∧ x.2.2.2.length = 32 ∧ pre.length ≤ 400000 ∧ ∀ k, blk x.2.1.1 = some k → B ≤ k
theorem bytesAll_ge : ∀ (d : By) (l : List Rc), l.length ≤ (bytesAll d l).length
 | _, [] => Nat.zero_le _
 | d, r :: l => by
  have := bytesAll_ge (nextB d r) l
  rw [bytesAll, List.length_append, bytesR_len, List.length_cons]; omega
def lastE (c : By) (l : List Ev) : Nat × By := ((l.getLast?).map fun x => x.2.2).getD (0, c)
theorem lastE_snoc (c : By) (l : List Ev) (x : Ev) : lastE c (l ++ [x]) = x.2.2 := by simp [lastE]
structure KeepX (B : Nat) (X : Nat → Prop) (w w' : World) : Prop where
 os : w'.os = w.os
 tape : w'.tape = w.tape
 output : w'.output = w.output
 size : w.heap.size ≤ w'.heap.size
 block : ∀ k, k < B → ¬ X k → w'.heap[k]? = w.heap[k]?
theorem KeepX.of {w w' : World} {B : Nat} {X : Nat → Prop} (h : Below B w w') : KeepX B X w w' := ⟨h.os, h.tape, h.output, h.size, fun k hk _ => h.block k hk⟩
theorem KeepX.trans {B : Nat} {X : Nat → Prop} {a b c : World} (h : KeepX B X a b) (k : KeepX B X b c) : KeepX B X a c := ⟨k.os.trans h.os, k.tape.trans h.tape, k.output.trans h.output, Nat.le_trans h.size k.size, fun i hi hn => (k.block i hi hn).trans (h.block i hi hn)⟩
theorem KeepX.grown {B : Nat} {X : Nat → Prop} {w w' : World} {row : Option Nat} (h : w.grownBy w' row) (hB : B ≤ w.heap.size) (hr : ∀ k, row = some k → X k) : KeepX B X w w' := ⟨h.os, h.tape, h.output, h.size, fun k hk hx => h.block k (by omega) (fun e => hx (hr k e.symm))⟩
theorem KeepX.blk {w w' : World} {X : Nat → Prop} {i : Nat} {t : TypeId} {cs : List Value} (h : KeepX w.heap.size X w w') (hB : Blk w i t cs) (hne : ¬ X i) : Blk w' i t cs := (h.block i hB.lt hne).trans hB
theorem KeepX.rd {w w' : World} {X : Nat → Prop} {A : Option Addr} {l : By} (h : KeepX w.heap.size X w w') (hR : Rd w A l) (hne : ∀ k, l ≠ [] → Go.Proofs.YtnnhenafhalobaaGreat.blk A = some k → ¬ X k) : Rd w' A l := by
 by_cases hl : l = []
 ·subst hl; exact ⟨hR.1, fun h => absurd rfl h⟩
 ·obtain ⟨b, o, rfl, hc⟩ := hR.2 (fun e => hl (by cases l with | nil => rfl | cons x y => cases e))
  refine ⟨hR.1, fun _ => ⟨b, o, rfl, fun j u hj => ?_⟩⟩
  have h1 := hc j u hj
  have hlt : b < w.heap.size := block_lt_of_cell h1
  rw [← h1]
  show World.cell? w' _ = World.cell? w _
  unfold World.cell?
  rw [show w'.heap[b]? = w.heap[b]? from h.block b hlt (hne b hl rfl)]
theorem each_seq {A : Option Addr} {b c : By} {cap g h : Nat} (w : World) (hg : Blk w g 64 (B8 c)) (hh : Blk w h 35 [.slice A b.length cap]) (hb : Rd w A b) (hcap : b.length ≤ cap) (hc : c.length = 32) (hl : b.length ≤ 400000) (hgh : h ≠ g) {X : Nat → Prop} (hXg : ¬ X g) (hXh : ¬ X h) (hgb : ∀ k, b ≠ [] → blk A = some k → k ≠ g ∧ ¬ X k) :
  SeqC Fence.wide 2 Tryz.prog 106 #[.pointer (some ⟨g, 0, none⟩), .pointer (some ⟨h, 0, none⟩)] encE (KeepX w.heap.size X) (fun W W' => Grew W W' 64 (some g)) (ydE w.heap.size)
   (fun xs => AllP c b (xs.map Prod.fst) ∧ lastE c xs = ((bytesAll c (xs.map Prod.fst)).length, chainAll c (xs.map Prod.fst))) w := fun l J W hbW hJ hY h0 => by
 have main : CallsR Tryz.prog 106 [.func (.yield l) #[] #[], .pointer (some ⟨g, 0, none⟩), .pointer (some ⟨h, 0, none⟩)] W fun _ w' => ∃ xs, (AllP c b (xs.map Prod.fst) ∧ lastE c xs = ((bytesAll c (xs.map Prod.fst)).length, chainAll c (xs.map Prod.fst))) ∧ J xs w' := by
  have hglt := hg.lt
  have hhlt := hh.lt
  have hsW := hbW.size
  refine callsR Tryz.func106 rfl rfl (by kernel_rfl) rfl ?_
  have hw := hbW
  have fg := hg.under hbW
  have fh := hh.under hbW
  have fb := hb.below hbW
  refine zs (za rfl (wl_nil (rk_block ?_)))
  refine rk_loopf (fun fb m fr w2 => ∃ (xs : List Ev) (l1 : List Rc) (at0 : Nat) (v : Int) (ch : By), fr = [(4, .int .i64 v)] ++ fb.drop 1 ∧ v = at0 ∧ l1 = xs.map Prod.fst ∧ at0 = (bytesAll c l1).length ∧ ch = chainAll c l1 ∧ lastE c xs = (at0, ch) ∧ b = bytesAll c l1 ++ b.drop at0 ∧ (∀ r ∈ l1, OkR r) ∧ m = b.length - at0 ∧ J xs w2 ∧ Blk w2 g 64 (B8 ch) ∧ W.heap.size ≤ w2.heap.size ∧ KeepX w.heap.size (fun k => k = g ∨ X k) w w2) (n := b.length) (Fr.le_of (by kernel_rfl) (by kernel_rfl) (by repeat' constructor)) ⟨[], [], 0, _, c, rfl, rfl, rfl, rfl, rfl, rfl, rfl, by simp, by simp, h0, fg, Nat.le_refl _, KeepX.of hbW⟩ ?_
  clear hw fg fh fb h0
  rintro m fr w2 ⟨xs, l1, at0, v, ch, rfl, rfl, hl1, hat, hch, hlast, hbq, hok, rfl, hJx, fg, hsz, hkg⟩
  first | refine zf ?_ | refine zg ?_
  have fh := hkg.blk hh (fun e => e.elim hgh hXh)
  have fr0 := hkg.rd hb (fun k h1 h2 e => e.elim (hgb k h1 h2).1 (hgb k h1 h2).2)
  have hatb : at0 ≤ b.length := by rw [hbq, List.length_append]; omega
  have hchl : ch.length = 32 := by rw [hch]; exact chainAll_len hc l1
  obtain ⟨bq, hbq2⟩ : ∃ q, b.drop at0 = q := ⟨_, rfl⟩
  obtain ⟨⟨⟨k, p⟩, z, x, e⟩, hR⟩ : ∃ s, readR ch bq = s := ⟨_, rfl⟩
  have hw := Below.refl w2.heap.size w2
  refine rk_block (rk_seq ?_)
  refine rk_drawo (id := 1) (none) [0, 0, 0, 6, 9, 16, 32, 32, 32, 32, 0, 0, 3199, 7423, 15871, 32767] [0, 0, 0, 6, 15, 31, 63, 63, 63, 63, 0, 0, 3199, 7423, 15871, 32767] 23568 3072 [0, 1, 2, 3] [(.s, 0), (.s, 1), (.p, 2), (.p, 3), (.f 15 23568 3072, 12)] (by kernel_rfl) (by kernel_rfl) (by kernel_rfl) (by kernel_rfl) (by kernel_rfl) ?_
  dsimp only [inOrder, nthOp]
  replace hw := hw.drew
  refine wl_s (fun _ hk => (o_ldBa Tryz.isAgg64 Tryz.sizeOf64 rfl ((fg.u hw).u (below_of_grown_none hk)) hchl)) ?_
  refine wl_s (fun _ hk => (o_loadbg Tryz.isAgg35 rfl ((fh.u hw).u (below_of_grown_none hk)) (by rfl))) ?_
  refine zm rfl ?_
  refine wl_slBl Tryz.u8 (at0) rfl rfl (fr0.u hw) rfl rfl (by omega) (by omega) ?_
  rintro A13 c13 f13 i13 i13_1
  rw [hbq2] at f13
  have hqb : bq.length + at0 = b.length := by rw [← hbq2, List.length_drop]; omega
  have hql : b.length - at0 = bq.length := by rw [← hbq2, List.length_drop]
  rw [hql] at *
  have hx32 : x.length = 32 := by
   rcases readR_e ch bq with h | ⟨h, _⟩
   ·rw [hR] at h
    simp only at h
    subst h
    obtain ⟨_, _, h3, _⟩ := readR_back hR
    rw [h3]; exact nextB_len _ _
   ·rw [hR] at h
    simp only [Prod.mk.injEq] at h
    rw [h.2.2.1]; rfl
  refine wl_conc [⟨4, [(.p, 5), (.p, 6), (.p, 7), (.p, 8), (.p, 9)], [18, 17, 16, 15, 9, 14], [], fun vs w' lo hi => ∃ (A14 : Option Addr) (c14 : Nat) (u9 u14 : Value), vs = [.int .i64 (e : Int), .agg (B8 x).toArray, .int .i64 (z : Int), .agg #[.int .u8 (k.toNat : Int), .slice A14 p.length c14], u9, u14] ∧ OwnH w' lo hi A14 c14 p⟩, ⟨10, [], [5], [], fun vs w' lo hi => ∃ (g5 : Nat), vs = [.pointer (some ⟨g5, 0, none⟩)] ∧ Blk w' g5 37 [.int .u8 0, .slice none 0 0] ∧ lo ≤ g5 ∧ g5 < hi⟩, ⟨11, [], [7], [], fun vs w' lo hi => ∃ (g7 : Nat), vs = [.pointer (some ⟨g7, 0, none⟩)] ∧ Blk w' g7 64 (B8 nul32) ∧ lo ≤ g7 ∧ g7 < hi⟩] [0, 1, 2] [0, 0, 0, 6, 9, 16, 32, 32, 32, 32, 0, 0, 3199, 7423, 15871, 32767] [0, 0, 0, 6, 15, 31, 63, 63, 63, 63, 0, 0, 3199, 7423, 15871, 32767] [12, 13, 14, 15] [(.l, 12), (.p, 13), (.l, 14), (.p, 15)] (by kernel_rfl) (by kernel_rfl) (by kernel_rfl) (by kernel_rfl) ⟨fun _ _ _ _ _ h hb => by obtain ⟨A14, c14, u9, u14, e0, g0⟩ := h; exact ⟨A14, c14, u9, u14, e0, g0.u hb⟩, fun _ _ _ _ _ h hb => by obtain ⟨g5, e0, g0, g1, g2⟩ := h; exact ⟨g5, e0, g0.u hb, g1, g2⟩, fun _ _ _ _ _ h hb => by obtain ⟨g7, e0, g0, g1, g2⟩ := h; exact ⟨g7, e0, g0.u hb, g1, g2⟩, trivial⟩ ⟨?_, ?_, ?_, trivial⟩ ?_
  ·intro wI hbI fo T T2 n2
   intro hk
   dsimp only [Item.idx, inOrder, nthOp, List.map, List.zip_cons_cons, List.zip_nil_right, List.cons_append, List.nil_append]
   have shbI := hbI.size
   simp only [drew_size] at shbI
   replace hw := hw.trans (hbI.mono hw.size)
   replace f13 := f13.u hbI
   have hw1 := Below.refl wI.heap.size wI
   refine wl_call rfl (C_RecReadN _ hR f13 rfl (by omega) hchl (by omega)) ?_
   rintro v14 w14 ⟨A14, ⟨c14, ⟨rfl, ⟨f14, b14⟩⟩⟩⟩
   dsimp only at f14
   dsimp only
   have qf14 := f14.cap
   have s14 := b14.size
   replace hw := hw.trans (b14.mono hw.size)
   replace hw1 := hw1.trans (b14.mono hw1.size)
   replace f13 := f13.u b14
   refine zm rfl ?_
   refine zp (o_ext40 rfl) ?_
   refine zp (o_ext41 rfl) ?_
   refine zp (o_ext42 rfl) ?_
   refine zp (o_ext43 rfl) ?_
   exact hk [_, _, _, _, _, _] _ ⟨_, _, _, _, rfl, f14⟩ hw1
  ·intro wI hbI fo T T2 n2
   intro hk
   dsimp only [Item.idx, inOrder, nthOp, List.map, List.zip_cons_cons, List.zip_nil_right, List.cons_append, List.nil_append]
   have shbI := hbI.size
   simp only [drew_size] at shbI
   replace hw := hw.trans (hbI.mono hw.size)
   replace f13 := f13.u hbI
   have hw1 := Below.refl wI.heap.size wI
   refine wl_allocg [_, _] Tryz.zeroValue37 (by rfl) ?_
   rintro g5 w5 f5 b5 i5 i5_1
   have s5 := b5.size
   replace hw := hw.trans (b5.mono hw.size)
   replace hw1 := hw1.trans (b5.mono hw1.size)
   replace f13 := f13.u b5
   exact hk [_] _ ⟨_, rfl, f5, by omega, by omega⟩ hw1
  ·intro wI hbI fo T T2 n2
   intro hk
   dsimp only [Item.idx, inOrder, nthOp, List.map, List.zip_cons_cons, List.zip_nil_right, List.cons_append, List.nil_append]
   have shbI := hbI.size
   simp only [drew_size] at shbI
   replace hw := hw.trans (hbI.mono hw.size)
   replace f13 := f13.u hbI
   have hw1 := Below.refl wI.heap.size wI
   refine wl_allocB Tryz.underlying64 Tryz.zeroValue64 (by rfl) ?_
   rintro g7 w7 f7 b7 i7 i7_1
   have s7 := b7.size
   replace hw := hw.trans (b7.mono hw.size)
   replace hw1 := hw1.trans (b7.mono hw1.size)
   replace f13 := f13.u b7
   exact hk [_] _ ⟨_, rfl, f7, by omega, by omega⟩ hw1
  intro wE hbE
  rintro _ lo0 hi0 ⟨A14, c14, u9, u14, rfl, f14⟩ ql0 qm0 qh0 -
  rintro _ lo1 hi1 ⟨g5, rfl, f5, f5_1, f5_2⟩ ql1 qm1 qh1 ⟨qa1_0, -⟩
  rintro _ lo2 hi2 ⟨g7, rfl, f7, f7_1, f7_2⟩ ql2 qm2 qh2 ⟨qa2_1, qa2_0, -⟩
  try dsimp only at ql0 qm0 qh0  ql1 qm1 qh1 qa1_0 ql2 qm2 qh2 qa2_0 qa2_1
  try simp only [drew_size] at ql0 qm0 qh0  ql1 qm1 qh1 qa1_0 ql2 qm2 qh2 qa2_0 qa2_1
  dsimp only [given, Item.idx, inOrder, nthOp, List.map, List.zip_cons_cons, List.zip_nil_right]
  have shbE := hbE.size
  simp only [drew_size] at shbE
  replace hw := hw.trans (hbE.mono hw.size)
  replace f13 := f13.u hbE
  refine wl_storega Tryz.sizeOf37 rfl rfl (by rfl) (oneCell_of (by rfl)) f5 (by rfl) ?_
  rintro w_1 f g_1 e_1
  have s := g_1.size
  replace hw := hw.trans (below_of_grownBy g_1.g hw.size (by omega))
  replace f7 := f7.k g_1.g (ap_some (by omega))
  replace f14 := f14.k g_1.g (ap_some (by omega))
  clear f13
  clear f5
  refine za rfl ?_
  refine wl_stBa Tryz.sizeOf64 rfl f7 rfl hx32 (by rfl) ?_
  rintro w_2 f_1 g_2 e_2
  have s_1 := g_2.size
  replace hw := hw.trans (below_of_grownBy g_2.g hw.size (by omega))
  replace f14 := f14.k g_2.g (ap_some (by omega))
  replace f := f.k g_2.g (ap_some (by omega))
  clear f7
  refine za rfl ?_
  refine wl_nild ?_
  refine rk_seq (zs (zm rfl ?_))
  refine zp (o_ne rfl rfl) ?_
  refine wl_nil ?_
  have hglt2 := fg.lt
  have fgE := fg.u hw
  have hJE : J xs w_2 := hJ _ _ _ hJx ⟨grown_of_below hw _, fun k hk => by injection hk with hk; subst hk; exact fg.at_⟩
  refine rk_if rfl (fun h20 => ?_) (fun h20 => ?_)
  ·skip
   refine ret0 rfl ?_
   exact ⟨xs, ⟨⟨bq, by rw [← hl1, ← hbq2]; exact hbq, by rw [← hl1]; exact hok, by rw [← hl1, ← hch, hR]; simp only; omega⟩, by rw [← hl1, hlast, hat, hch]⟩, hJE⟩
  ·obtain rfl : e = 0 := by omega
   obtain ⟨hO, hz, hxn, q, hq⟩ := readR_back hR
   have hzq : z ≤ bq.length := by rw [hq, List.length_append]; omega
   have kw := hw
   refine rk_skip (zs (zm rfl (zm rfl ?_)))
   refine zp (o_add rfl rfl (by omega) (by omega)) ?_
   refine za rfl (wl_nil (zs ?_))
   refine wl_r (o_ldBa Tryz.isAgg64 Tryz.sizeOf64 rfl f_1 hx32) ?_
   refine wl_stBa Tryz.sizeOf64 rfl fgE rfl hx32 hchl ?_
   rintro w_3 f_2 g_3 e
   have s_2 := g_3.size
   replace f := f.k g_3.g (ap_some (by omega))
   replace f14 := f14.k g_3.g (ap_some (by omega))
   replace f_1 := f_1.k g_3.g (ap_some (by omega))
   clear fgE
   refine wl_nil ?_
   have hG : Grew w_2 w_3 64 (some g) := by assumption
   have hG2 : Grew w2 w_3 64 (some g) := ⟨grownBy_step (grown_of_below kw _) hG.g, fun k hk => by injection hk with hk; subst hk; exact fg.at_⟩
   have hJ3 : J xs w_3 := hJ _ _ _ hJx hG2
   have hsz3 := hG2.size
   have hcp := f14.cap
   have hyd : ydE w.heap.size xs ((k, p), (A14, c14), (at0 + z, x)) w_3 := ⟨f14.to_RdT, hcp, own_max f14, hx32, by
    have h1 := bytesAll_ge c l1
    rw [← hat, hl1, List.length_map] at h1; omega, fun k hk => by have := (RowH.lt f14 k hk).1; omega⟩
   refine rk_seq ?_
   refine rk_regionI 2 ?_
   refine wli_p (o_move rfl) ?_
   refine wli_p (o_loadag Tryz.isAgg37 Tryz.sizeOf37 rfl f rfl) ?_
   refine wli_p (o_move rfl) ?_
   refine wli_p (o_loadag Tryz.isAgg64 Tryz.sizeOf64 rfl f_2 (by rw [B8_length, hx32])) ?_
   refine wli_p (o_buildMark rfl rfl hx32) ?_
   refine wli_yieldL (xs := [.tmp 26, .tmp 29]) rfl rfl (hY xs ((k, p), (A14, c14), (at0 + z, x)) _ hJ3 hyd) (fun e w3 he => ?_)
   obtain ⟨rfl, hJ4, hkp⟩ := he
   refine ⟨true, rfl, ?_⟩
   refine wli_p (o_not rfl) ?_
   refine wli_nil ?_
   have hsk := hkp.size
   have fg3 : Blk w3 g 64 (B8 x) := (hkp.block g (by omega) hXg).trans f_2
   have hkg3 : KeepX w.heap.size (fun k => k = g ∨ X k) w w3 := hkg.trans ((KeepX.grown hG2.g hkg.size (fun k e => by injection e with e; exact .inl e.symm)).trans ⟨hkp.os, hkp.tape, hkp.output, hkp.size, fun k hk hx => hkp.block k hk (fun e => hx (.inr e))⟩)
   clear f f_1 f_2 f14 hw
   refine rk_false rfl ?_
   refine rk_skip ?_
   refine rk_blk ?_
   have e1 : bytesAll c (l1 ++ [(k, p)]) = bytesAll c l1 ++ bytesR ch (k, p) := by rw [bytesAll_append, ← hch]; simp [bytesAll]
   have e2 : chainAll c (l1 ++ [(k, p)]) = x := by rw [chainAll_append, ← hch, hxn]; rfl
   have e3 : b.drop (at0 + z) = q := by rw [← List.drop_drop, hbq2, hq, hz, List.drop_left]
   have hz0 : 0 < z := by rw [hz, bytesR_len]; omega
   exact rk_againf (Fr.le_of (by kernel_rfl) (by kernel_rfl) (by repeat' constructor)) ⟨xs ++ [((k, p), (A14, c14), (at0 + z, x))], l1 ++ [(k, p)], at0 + z, (at0 : Int) + (z : Int), x, rfl, by omega, by rw [hl1]; simp, by rw [e1, List.length_append, ← hat, ← hz], e2.symm, lastE_snoc _ _ _, by rw [e1, e3, List.append_assoc, ← hq, ← hbq2]; exact hbq, fun r hr => by
    rcases List.mem_append.1 hr with h | h
    ·exact hok r h
    ·rw [List.mem_singleton] at h; subst h; exact hO, rfl, hJ4, fg3, by omega, hkg3⟩ (by omega)
 refine callsIn_wide.2 (main.2.mono ?_)
 rintro e w' ⟨v, rfl, hv⟩
 exact ⟨⟨v, rfl⟩, hv⟩
end Go.Proofs.YtnnhenafhalobaaGreat
