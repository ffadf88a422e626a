/-
  The document's disk: put, Flush, Crash.
-/
import Derived.Test.YtnnhenafhalobaaGreatMg9
namespace Go.Proofs.YtnnhenafhalobaaGreat
set_option maxRecDepth 100000
open Go.RowKit
def putS (S : List Sec) (C : List (Option Sec)) (kp : List Bool) (i : Nat) : List Sec := crash (S.take i) (C.take i) kp ++ S.drop i
def putC (C : List (Option Sec)) (i : Nat) : List (Option Sec) := List.replicate i none ++ C.drop i
section
variable {S : List Sec} {C : List (Option Sec)} {kp : List Bool} {i : Nat}
theorem putS_len (hi : i ≤ S.length) : (putS S C kp i).length = S.length := by
 rw [putS, List.length_append, crash_len, List.length_take, List.length_drop]; omega
theorem putC_len (hi : i ≤ C.length) : (putC C i).length = C.length := by
 rw [putC, List.length_append, List.length_replicate, List.length_drop]; omega
theorem putS_zero : putS S C kp 0 = S := by simp [putS, crash]
theorem putC_zero : putC C 0 = C := by simp [putC]
theorem putS_all (hl : C.length = S.length) : putS S C kp S.length = crash S C kp := by
 rw [putS, List.take_length, List.take_of_length_le (by omega), List.drop_length, List.append_nil]
theorem putC_all (hl : C.length = i) : putC C i = List.replicate i none := by
 rw [putC, List.drop_eq_nil_of_le (by omega), List.append_nil]
theorem putC_get (hi : i < C.length) : (putC C i)[i]'(by rw [putC_len (by omega)]; exact hi) = C[i] := by
 simp [putC, List.getElem_append_right]
theorem putC_step (hi : i < C.length) : putC C (i + 1) = (putC C i).set i none := by
 rw [putC, putC, List.drop_eq_getElem_cons hi, List.replicate_succ', List.append_assoc, List.set_append_right _ _ (by simp), List.length_replicate, Nat.sub_self]
 rfl
theorem putC_none (hi : i < C.length) (h : C[i] = none) : putC C (i + 1) = putC C i := by
 rw [putC, putC, List.drop_eq_getElem_cons hi, List.replicate_succ', List.append_assoc, h]; rfl
theorem putS_step (hl : C.length = S.length) (hi : i < S.length) : putS S C kp (i + 1) = crash (S.take i) (C.take i) kp ++ ((match C[i]'(by omega) with | none => S[i] | some x => if (kp.drop (cnt (C.take i))).headD false then x else S[i]) :: S.drop (i + 1)) := by
 rw [putS, List.take_succ_eq_append_getElem hi, List.take_succ_eq_append_getElem (by omega), crash_snoc _ _ _ _ _ (by rw [List.length_take, List.length_take, hl]), List.append_assoc]; rfl
theorem putS_none (hl : C.length = S.length) (hi : i < S.length) (h : C[i]'(by omega) = none) : putS S C kp (i + 1) = putS S C kp i := by
 rw [putS_step hl hi, h, putS, List.drop_eq_getElem_cons hi]
theorem putS_not {x : Sec} (hl : C.length = S.length) (hi : i < S.length) (h : C[i]'(by omega) = some x) (hk : (kp.drop (cnt (C.take i))).headD false = false) : putS S C kp (i + 1) = putS S C kp i := by
 rw [putS_step hl hi, h, putS, List.drop_eq_getElem_cons hi]
 dsimp only
 rw [hk]; rfl
theorem putS_put {x : Sec} (hl : C.length = S.length) (hi : i < S.length) (h : C[i]'(by omega) = some x) (hk : (kp.drop (cnt (C.take i))).headD false = true) : putS S C kp (i + 1) = (putS S C kp i).set i x := by
 have h1 : (crash (S.take i) (C.take i) kp).length = i := by rw [crash_len, List.length_take]; omega
 rw [putS_step hl hi, h, putS, List.drop_eq_getElem_cons hi]
 dsimp only
 rw [hk, if_pos rfl, List.set_append_right _ _ (by omega), h1, Nat.sub_self]
 rfl
theorem cnt_take_none (hi : i < C.length) (h : C[i] = none) : cnt (C.take (i + 1)) = cnt (C.take i) := by
 rw [List.take_succ_eq_append_getElem hi, h]; simp [cnt]
theorem cnt_take_some {x : Sec} (hi : i < C.length) (h : C[i] = some x) : cnt (C.take (i + 1)) = cnt (C.take i) + 1 := by
 rw [List.take_succ_eq_append_getElem hi, h]; simp [cnt]
theorem headD_drop {l : List Bool} {k : Nat} (h : k < l.length) : (l.drop k).headD false = l[k] := by
 rw [List.drop_eq_getElem_cons h]; rfl
theorem headD_drop0 {l : List Bool} {k : Nat} (h : l.length ≤ k) : (l.drop k).headD false = false := by
 rw [List.drop_eq_nil_of_le h]; rfl
theorem headD_rep {n k : Nat} (h : k < n) : ((List.replicate n true).drop k).headD false = true := by
 rw [headD_drop (by rw [List.length_replicate]; exact h), List.getElem_replicate]
end
section
variable {fn : Func} {F : Ending → World → Prop} {N : Nat} {ks : List K} {ops : Array Oper} {tg : Tags} {l : List Oper} {fr : Fr} {w : World} {ty t : TypeId} {pos : String} {aft : Array Edge} {gd : Option (Nat × Bool)} {d lo2 hi2 : Nat} {x y : Operand} {A : Option Addr}
theorem wl_slOwnQ (T : U8 Tryz.prog t) {p : List UInt8} {len cap : Nat} {kl : IntKind} {L : Int} (lo : Nat) (hx : fr.ev x = some (.slice A len cap)) (hy : fr.ev y = some (.int kl L)) (hown : OwnH w lo2 hi2 A cap p) (hlen : len = p.length) (hl : L = (lo : Int)) (h1 : lo ≤ p.length)
  (hk : WL Tryz.prog fn F N ks ops tg.tail l ((d, .slice (cutA A cap 1 lo) (p.length - lo) (cap - lo)) :: fr) w) (hg : onG ops fr gd = true := by rfl) (hd : Nat.blt d N = true := by rfl) :
  WL Tryz.prog fn F N ks ops tg (⟨some d, .slice t x (some y) none none, ty, pos, aft, gd⟩ :: l) fr w := by
 subst hlen
 exact wl_p (fun _ => o_slice_lo T.ht Tryz.sizeOf5 hx hy hl (by have := hown.cap; omega)) hk hg hd
end
set_option maxRecDepth 100000 in
theorem K_qPut {Q : Nat → Prop} {lo hi lo2 hi2 g n cp : Nat} {S S0 : List Sec} {C C0 : List (Option Sec)} {K : Option Addr} {kp kq : List Bool} {all : Bool} (w : World) (hd : RqAt w lo hi Q g S C) (hk : RdBo w lo2 hi2 K kp) (hq : (if all then List.replicate S.length true else kp) = kq) (hS0 : crash S C kq = S0) (hC0 : List.replicate S.length none = C0) (ha : hi2 ≤ lo ∨ hi ≤ lo2) (hn : n = kp.length) (hm : n ≤ 1000000) :
  CallsR Tryz.prog 69 [.pointer (some ⟨g, 0, none⟩), .slice K n cp, .bool all] w fun v w' => v = .tuple #[] ∧ RqAt w' lo hi Q g S0 C0 ∧ Chg lo hi w w' := by
 subst hn; subst hS0; subst hC0
 refine callsR Tryz.func69 rfl rfl (by kernel_rfl) rfl ?_
 have hcg : Chg lo hi w w := Chg.refl
 have hhi := hd.hi
 have hg1 := hd.g1
 have hg2 := hd.g2
 have hCl := hd.len
 have hn1 := hd.n1
 have hn2 := hd.n2
 have hcl := cnt_le C
 refine zs (za rfl (wl_nil (zs (za rfl (wl_nil (rk_block ?_))))))
 refine rk_joinf (fun fb fr V => fr = [] ++ fb.drop 2 ∧ RqAt V lo hi Q g (crash S C kq) (List.replicate S.length none) ∧ Chg lo hi w V) ?_ (fun ks hj => ?_)
 rotate_left
 ·refine rk_loopf (fun fb m fr V => ∃ (i : Nat) (v u : Int) (S1 : List Sec) (C1 : List (Option Sec)), fr = [(7, .int .i64 v), (6, .int .i64 u)] ++ fb.drop 2 ∧ v = i ∧ i ≤ S.length ∧ m = S.length - i ∧ u = (cnt (C.take i) : Nat) ∧ S1 = putS S C kq i ∧ C1 = putC C i ∧ RqAt V lo hi Q g S1 C1 ∧ RdBo V lo2 hi2 K kp ∧ Chg lo hi w V) (n := S.length) (Fr.le_of (by kernel_rfl) (by kernel_rfl) (by repeat' constructor)) ⟨0, _, _, S, C, rfl, rfl, by omega, rfl, rfl, putS_zero.symm, putC_zero.symm, hd, hk, hcg⟩ ?_
  clear hd hk hcg
  rintro m fr V ⟨i, v, u, S1, C1, rfl, rfl, hi', rfl, rfl, hS1, hC1, hd, hk, hcg⟩
  have hSl : S1.length = S.length := by rw [hS1, putS_len hi']
  have hsz := hcg.size
  first | refine zf ?_ | refine zg ?_
  refine rk_seq (zs (zm rfl (zm rfl ?_)))
  refine wl_call rfl (C_qSize _ hd) ?_
  rintro v10 w10 ⟨rfl, rfl⟩
  refine zp (o_lt rfl rfl) ?_
  refine wl_nil ?_
  refine rk_if rfl (fun h11 => ?_) (fun h11 => ?_)
  ·obtain ⟨A, c, D, q, H, f, fa, fh, fc⟩ := hd.ex
   have hHl := fc.len
   have hC1l := hd.len
   have hhV := hd.hi
   have hiC : i < C.length := by omega
   have hiC1 : i < C1.length := by omega
   have hC1i : C1[i] = C[i] := by subst hC1; exact putC_get hiC
   have h1 := fc.at_ hiC1
   rw [hC1i] at h1
   cases hcc : C[i] with
   | none =>
    rw [hcc] at h1
    have k1 : H[i] = (none, 0, 0) := h1
    refine rk_skip (rk_seq (rk_block (rk_seq (zs (zm rfl ?_)))))
    refine zp (o_nil rfl) ?_
    refine zp (o_faddr (s := 74) (i := 1) (off := 1) Tryz.underlying74 rfl Tryz.sizeOf72 rfl rfl rfl) ?_
    refine wl_r (o_loadbg Tryz.isAgg72 rfl f (by rfl)) ?_
    refine zm rfl ?_
    refine zp (o_iaddrA1 (i) Tryz.underlying72 Tryz.sizeOf35 rfl rfl rfl (fh.some_ (by omega)) (by omega)) ?_
    refine wl_r (o_ldHd rfl fh (by omega)) ?_
    refine zp (o_sleqN Tryz.underlying35 rfl rfl) ?_
    refine wl_nil ?_
    rw [k1]
    simp only [Option.isNone_none]
    refine rk_true rfl ?_
    refine rk_exit rfl ?_
    refine rk_region (zm rfl ?_)
    refine zp (o_add rfl rfl (by omega) (by omega)) ?_
    refine za rfl (wl_nil ?_)
    exact rk_againf (Fr.le_of (by kernel_rfl) (by kernel_rfl) (by repeat' constructor)) ⟨i + 1, (i : Int) + 1, _, S1, C1, rfl, by omega, by omega, rfl, by rw [cnt_take_none hiC hcc], by rw [putS_none hCl (by omega) hcc]; exact hS1, by rw [putC_none hiC hcc]; exact hC1, hd, hk, hcg⟩ (by omega)
   | some x =>
    rw [hcc] at h1
    obtain ⟨k1, k2, k3, k4, k5⟩ := h1
    have k1' : H[i].1.isNone = false := by cases hh : H[i].1 with | none => rw [hh] at k1; cases k1 | some a => rfl
    have hkc : cnt (C.take i) ≤ i := by have := cnt_le (C.take i); rw [List.length_take] at this; omega
    have hks := cnt_take_some hiC hcc
    have hs2 : x.1.length = 256 := x.2
    have him := img_len S1
    have hnot := putS_not (kp := kq) hCl (by omega) hcc
    have hput := putS_put (kp := kq) hCl (by omega) hcc
    have hstep := putC_step hiC
    obtain ⟨k, hkk⟩ : ∃ k, cnt (C.take i) = k := ⟨_, rfl⟩
    rw [hkk] at hkc hks hnot hput
    rw [hkk]
    refine rk_skip (rk_seq (rk_block (rk_seq (zs (zm rfl ?_)))))
    refine zp (o_nil rfl) ?_
    refine zp (o_faddr (s := 74) (i := 1) (off := 1) Tryz.underlying74 rfl Tryz.sizeOf72 rfl rfl rfl) ?_
    refine wl_r (o_loadbg Tryz.isAgg72 rfl f (by rfl)) ?_
    refine zm rfl ?_
    refine zp (o_iaddrA1 (i) Tryz.underlying72 Tryz.sizeOf35 rfl rfl rfl (fh.some_ (by omega)) (by omega)) ?_
    refine wl_r (o_ldHd rfl fh (by omega)) ?_
    refine zp (o_sleqN Tryz.underlying35 rfl rfl) ?_
    refine wl_nil ?_
    rw [k1']
    cases all with
    | true =>
     rw [if_pos rfl] at hq
     have hbit : (kq.drop k).headD false = true := by rw [← hq]; exact headD_rep (by omega)
     refine rk_false rfl ?_
     refine rk_skip (rk_seq (zs (zm rfl (zm rfl (wl_off (wl_off (wl_off (wl_off (wl_off (wl_off (wl_off ?_)))))))))))
     refine wl_off (wl_off (wl_off ?_))
     refine zp (o_pick_t rfl rfl) ?_
     refine wl_nil ?_
     refine rk_true rfl ?_
     refine rk_draw (id := 6) (none) [0, 1, 2, 4, 0, 16, 40, 0, 128, 256, 512, 0, 3072, 4096, 8256] [0, 1, 3, 7, 0, 16, 63, 0, 128, 384, 896, 0, 3968, 8064, 16383] 16384 0 [(.p, 0), (.p, 1), (.p, 2), (.r, 3), (.p, 4), (.p, 5), (.p, 6), (.p, 7), (.p, 8), (.p, 9), (.r, 10), (.p, 11), (.p, 12), (.r, 13), (.l, 14)] (by kernel_rfl) (by kernel_rfl) (by kernel_rfl) (by kernel_rfl) (by kernel_rfl) ?_
     replace hcg := hcg.trans Chg.drew
     replace k4 := k4.d
     replace fc := fc.d
     replace fh := fh.d
     replace fa := fa.d
     replace f := f.d
     replace hk := hk.d
     replace hd := hd.d
     refine zm rfl ?_
     refine zp (o_nil rfl) ?_
     refine zp (o_faddr (s := 74) (i := 0) (off := 0) Tryz.underlying74 rfl Tryz.sizeOf35 rfl rfl rfl) ?_
     refine wl_r (o_loadbg Tryz.isAgg35 rfl f (by rfl)) ?_
     refine zm rfl ?_
     refine zp (o_mul rfl rfl (by omega) (by omega)) ?_
     refine wl_slOwnQ Tryz.u8 (i * 256) rfl rfl fa rfl (by omega) (by omega) ?_
     refine zm rfl ?_
     refine zp (o_nil rfl) ?_
     refine zp (o_faddr (s := 74) (i := 1) (off := 1) Tryz.underlying74 rfl Tryz.sizeOf72 rfl rfl rfl) ?_
     refine wl_r (o_loadbg Tryz.isAgg72 rfl f (by rfl)) ?_
     refine zm rfl ?_
     refine zp (o_iaddrA1 (i) Tryz.underlying72 Tryz.sizeOf35 rfl rfl rfl (fh.some_ (by omega)) (by omega)) ?_
     refine wl_r (o_ldHd rfl fh (by omega)) ?_
     refine wl_cpH Tryz.u8 rfl fa rfl (by omega) k4 rfl (by omega) (by omega) ?_
     rintro w49 f49 g49 b49 e49
     simp only [drew_size] at e49
     have qf49 := f49.cap
     have s49 := g49.size
     simp only [drew_size] at s49
     replace hcg := hcg.trans ((Chg.of_g g49.g f49.rng).wide (by omega) (by omega))
     replace hk := hk.k g49.g (f49.ap (by omega))
     replace f := f.y g49 (by decide)
     replace fh := fh.y g49 (by decide)
     replace fc := fc.k g49.g (f49.ap (by omega))
     clear hd
     clear fa
     clear k4
     refine wl_nild ?_
     refine zs (zm rfl ?_)
     refine zp (o_nil rfl) ?_
     refine zp (o_faddr (s := 74) (i := 1) (off := 1) Tryz.underlying74 rfl Tryz.sizeOf72 rfl rfl rfl) ?_
     refine wl_r (o_loadbg Tryz.isAgg72 rfl f (by rfl)) ?_
     refine zm rfl ?_
     refine zp (o_iaddrA1 (i) Tryz.underlying72 Tryz.sizeOf35 rfl rfl rfl (fh.some_ (by omega)) (by omega)) ?_
     refine wl_stHd rfl fh rfl (by omega) ?_
     rintro w_1 f_1 g_1 b e
     have qf_1 := f_1.cap
     have s := g_1.size
     replace hcg := hcg.trans ((Chg.of_g g_1.g f_1.rng).wide (by omega) (by omega))
     replace fc := fc.y g_1 (by decide)
     replace f := f.y g_1 (by decide)
     replace hk := hk.k g_1.g (f_1.ap (by omega))
     replace f49 := f49.y g_1 (by decide)
     clear fh
     refine wl_nil (rk_region (zm rfl ?_))
     refine zp (o_add rfl rfl (by omega) (by omega)) ?_
     refine za rfl (wl_nil ?_)
     refine rk_blk ?_
     refine rk_region (zm rfl ?_)
     refine zp (o_add rfl rfl (by omega) (by omega)) ?_
     refine za rfl (wl_nil ?_)
     rw [hs2, ← img_set S1 i x (by omega)] at f49
     have e1 : (H.set i ((none, 0, 0) : Hd)).length = H.length := List.length_set ..
     have e2 : (img (S1.set i x)).length = (img S1).length := by rw [img_len, img_len, List.length_set]
     have e3 : (S1.set i x).length = S1.length := List.length_set ..
     have e4 : (C1.set i none).length = C1.length := List.length_set ..
     have hsz2 := hcg.size
     exact rk_againf (Fr.le_of (by kernel_rfl) (by kernel_rfl) (by repeat' constructor)) ⟨i + 1, (i : Int) + 1, (k : Int) + 1, S1.set i x, C1.set i none, rfl, by omega, by omega, rfl, by rw [hks]; rfl, by rw [hput hbit, hS1], by rw [hstep, hC1], ⟨⟨A, c, D, q, H.set i (none, 0, 0), by rw [e1, e2]; exact f, f49, f_1, fc.clear_ i⟩, hg1, hg2, by omega, by rw [e3, e4]; exact hC1l, by rw [e3]; omega, by rw [e3]; omega⟩, hk, hcg⟩ (by omega)
    | false =>
     rw [if_neg (by simp)] at hq
     subst hq
     by_cases hkl : k < kp.length
     ·have hbit := headD_drop hkl
      cases hkb : kp[k] with
      | true =>
       refine rk_false rfl ?_
       refine rk_skip (rk_seq (zs (zm rfl (zm rfl (zm rfl (zm rfl ?_))))))
       refine zp (o_len (t := 38) Tryz.underlying38 rfl) ?_
       refine zp (o_lt rfl rfl) ?_
       refine zm rfl ?_
       refine wl_know 28 true rfl (decide_eq_true (by omega)) ?_
       refine zm rfl (zm rfl ?_)
       refine zp (o_iaddrA1 (k) Tryz.underlying38 Tryz.sizeOf4 rfl rfl rfl (hk.some_ (by omega)) (by omega)) ?_
       refine wl_r (o_ldBo Tryz.isAgg4 rfl hk (by omega)) ?_
       refine zp (o_pick_t rfl rfl) ?_
       refine zp (o_pick_f rfl rfl) ?_
       refine wl_nil ?_
       rw [hkb] at hbit
       rw [hkb]
       refine rk_true rfl ?_
       refine rk_draw (id := 6) (none) [0, 1, 2, 4, 0, 16, 40, 0, 128, 256, 512, 0, 3072, 4096, 8256] [0, 1, 3, 7, 0, 16, 63, 0, 128, 384, 896, 0, 3968, 8064, 16383] 16384 0 [(.p, 0), (.p, 1), (.p, 2), (.r, 3), (.p, 4), (.p, 5), (.p, 6), (.p, 7), (.p, 8), (.p, 9), (.r, 10), (.p, 11), (.p, 12), (.r, 13), (.l, 14)] (by kernel_rfl) (by kernel_rfl) (by kernel_rfl) (by kernel_rfl) (by kernel_rfl) ?_
       replace hcg := hcg.trans Chg.drew
       replace k4 := k4.d
       replace fc := fc.d
       replace fh := fh.d
       replace fa := fa.d
       replace f := f.d
       replace hk := hk.d
       replace hd := hd.d
       refine zm rfl ?_
       refine zp (o_nil rfl) ?_
       refine zp (o_faddr (s := 74) (i := 0) (off := 0) Tryz.underlying74 rfl Tryz.sizeOf35 rfl rfl rfl) ?_
       refine wl_r (o_loadbg Tryz.isAgg35 rfl f (by rfl)) ?_
       refine zm rfl ?_
       refine zp (o_mul rfl rfl (by omega) (by omega)) ?_
       refine wl_slOwnQ Tryz.u8 (i * 256) rfl rfl fa rfl (by omega) (by omega) ?_
       refine zm rfl ?_
       refine zp (o_nil rfl) ?_
       refine zp (o_faddr (s := 74) (i := 1) (off := 1) Tryz.underlying74 rfl Tryz.sizeOf72 rfl rfl rfl) ?_
       refine wl_r (o_loadbg Tryz.isAgg72 rfl f (by rfl)) ?_
       refine zm rfl ?_
       refine zp (o_iaddrA1 (i) Tryz.underlying72 Tryz.sizeOf35 rfl rfl rfl (fh.some_ (by omega)) (by omega)) ?_
       refine wl_r (o_ldHd rfl fh (by omega)) ?_
       refine wl_cpH Tryz.u8 rfl fa rfl (by omega) k4 rfl (by omega) (by omega) ?_
       rintro w49 f49 g49 b49 e49
       simp only [drew_size] at e49
       have qf49 := f49.cap
       have s49 := g49.size
       simp only [drew_size] at s49
       replace hcg := hcg.trans ((Chg.of_g g49.g f49.rng).wide (by omega) (by omega))
       replace hk := hk.k g49.g (f49.ap (by omega))
       replace f := f.y g49 (by decide)
       replace fh := fh.y g49 (by decide)
       replace fc := fc.k g49.g (f49.ap (by omega))
       clear hd
       clear fa
       clear k4
       refine wl_nild ?_
       refine zs (zm rfl ?_)
       refine zp (o_nil rfl) ?_
       refine zp (o_faddr (s := 74) (i := 1) (off := 1) Tryz.underlying74 rfl Tryz.sizeOf72 rfl rfl rfl) ?_
       refine wl_r (o_loadbg Tryz.isAgg72 rfl f (by rfl)) ?_
       refine zm rfl ?_
       refine zp (o_iaddrA1 (i) Tryz.underlying72 Tryz.sizeOf35 rfl rfl rfl (fh.some_ (by omega)) (by omega)) ?_
       refine wl_stHd rfl fh rfl (by omega) ?_
       rintro w_1 f_1 g_1 b e
       have qf_1 := f_1.cap
       have s := g_1.size
       replace hcg := hcg.trans ((Chg.of_g g_1.g f_1.rng).wide (by omega) (by omega))
       replace fc := fc.y g_1 (by decide)
       replace f := f.y g_1 (by decide)
       replace hk := hk.k g_1.g (f_1.ap (by omega))
       replace f49 := f49.y g_1 (by decide)
       clear fh
       refine wl_nil (rk_region (zm rfl ?_))
       refine zp (o_add rfl rfl (by omega) (by omega)) ?_
       refine za rfl (wl_nil ?_)
       refine rk_blk ?_
       refine rk_region (zm rfl ?_)
       refine zp (o_add rfl rfl (by omega) (by omega)) ?_
       refine za rfl (wl_nil ?_)
       rw [hs2, ← img_set S1 i x (by omega)] at f49
       have e1 : (H.set i ((none, 0, 0) : Hd)).length = H.length := List.length_set ..
       have e2 : (img (S1.set i x)).length = (img S1).length := by rw [img_len, img_len, List.length_set]
       have e3 : (S1.set i x).length = S1.length := List.length_set ..
       have e4 : (C1.set i none).length = C1.length := List.length_set ..
       have hsz2 := hcg.size
       exact rk_againf (Fr.le_of (by kernel_rfl) (by kernel_rfl) (by repeat' constructor)) ⟨i + 1, (i : Int) + 1, (k : Int) + 1, S1.set i x, C1.set i none, rfl, by omega, by omega, rfl, by rw [hks]; rfl, by rw [hput hbit, hS1], by rw [hstep, hC1], ⟨⟨A, c, D, q, H.set i (none, 0, 0), by rw [e1, e2]; exact f, f49, f_1, fc.clear_ i⟩, hg1, hg2, by omega, by rw [e3, e4]; exact hC1l, by rw [e3]; omega, by rw [e3]; omega⟩, hk, hcg⟩ (by omega)
      | false =>
       refine rk_false rfl ?_
       refine rk_skip (rk_seq (zs (zm rfl (zm rfl (zm rfl (zm rfl ?_))))))
       refine zp (o_len (t := 38) Tryz.underlying38 rfl) ?_
       refine zp (o_lt rfl rfl) ?_
       refine zm rfl ?_
       refine wl_know 28 true rfl (decide_eq_true (by omega)) ?_
       refine zm rfl (zm rfl ?_)
       refine zp (o_iaddrA1 (k) Tryz.underlying38 Tryz.sizeOf4 rfl rfl rfl (hk.some_ (by omega)) (by omega)) ?_
       refine wl_r (o_ldBo Tryz.isAgg4 rfl hk (by omega)) ?_
       refine zp (o_pick_t rfl rfl) ?_
       refine zp (o_pick_f rfl rfl) ?_
       refine wl_nil ?_
       rw [hkb] at hbit
       rw [hkb]
       refine rk_false rfl ?_
       refine rk_skip (zs (zm rfl ?_))
       refine zp (o_nil rfl) ?_
       refine zp (o_faddr (s := 74) (i := 1) (off := 1) Tryz.underlying74 rfl Tryz.sizeOf72 rfl rfl rfl) ?_
       refine wl_r (o_loadbg Tryz.isAgg72 rfl f (by rfl)) ?_
       refine zm rfl ?_
       refine zp (o_iaddrA1 (i) Tryz.underlying72 Tryz.sizeOf35 rfl rfl rfl (fh.some_ (by omega)) (by omega)) ?_
       refine wl_stHd rfl fh rfl (by omega) ?_
       rintro w_1 f_1 g_1 b e
       have qf_1 := f_1.cap
       have s := g_1.size
       replace hcg := hcg.trans ((Chg.of_g g_1.g f_1.rng).wide (by omega) (by omega))
       replace fc := fc.y g_1 (by decide)
       replace fa := fa.y g_1 (by decide)
       replace f := f.y g_1 (by decide)
       replace hk := hk.k g_1.g (f_1.ap (by omega))
       clear k4
       clear fh
       clear hd
       refine wl_nil (rk_region (zm rfl ?_))
       refine zp (o_add rfl rfl (by omega) (by omega)) ?_
       refine za rfl (wl_nil ?_)
       refine rk_blk ?_
       refine rk_region (zm rfl ?_)
       refine zp (o_add rfl rfl (by omega) (by omega)) ?_
       refine za rfl (wl_nil ?_)
       have e1 : (H.set i ((none, 0, 0) : Hd)).length = H.length := List.length_set ..
       have e4 : (C1.set i none).length = C1.length := List.length_set ..
       have hsz2 := hcg.size
       exact rk_againf (Fr.le_of (by kernel_rfl) (by kernel_rfl) (by repeat' constructor)) ⟨i + 1, (i : Int) + 1, (k : Int) + 1, S1, C1.set i none, rfl, by omega, by omega, rfl, by rw [hks]; rfl, by rw [hnot hbit, hS1], by rw [hstep, hC1], ⟨⟨A, c, D, q, H.set i (none, 0, 0), by rw [e1]; exact f, fa, f_1, fc.clear_ i⟩, hg1, hg2, by omega, by rw [e4]; exact hC1l, by omega, by omega⟩, hk, hcg⟩ (by omega)
     ·have hbit : (kp.drop k).headD false = false := headD_drop0 (by omega)
      refine rk_false rfl ?_
      refine rk_skip (rk_seq (zs (zm rfl (zm rfl (zm rfl (zm rfl ?_))))))
      refine zp (o_len (t := 38) Tryz.underlying38 rfl) ?_
      refine zp (o_lt rfl rfl) ?_
      refine zm rfl ?_
      refine wl_know 28 false rfl (decide_eq_false (by omega)) ?_
      refine wl_off (wl_off (wl_off (wl_off ?_)))
      refine zp (o_pick_f rfl rfl) ?_
      refine zp (o_pick_f rfl rfl) ?_
      refine wl_nil ?_
      refine rk_false rfl ?_
      refine rk_skip (zs (zm rfl ?_))
      refine zp (o_nil rfl) ?_
      refine zp (o_faddr (s := 74) (i := 1) (off := 1) Tryz.underlying74 rfl Tryz.sizeOf72 rfl rfl rfl) ?_
      refine wl_r (o_loadbg Tryz.isAgg72 rfl f (by rfl)) ?_
      refine zm rfl ?_
      refine zp (o_iaddrA1 (i) Tryz.underlying72 Tryz.sizeOf35 rfl rfl rfl (fh.some_ (by omega)) (by omega)) ?_
      refine wl_stHd rfl fh rfl (by omega) ?_
      rintro w_1 f_1 g_1 b e
      have qf_1 := f_1.cap
      have s := g_1.size
      replace hcg := hcg.trans ((Chg.of_g g_1.g f_1.rng).wide (by omega) (by omega))
      replace fc := fc.y g_1 (by decide)
      replace fa := fa.y g_1 (by decide)
      replace f := f.y g_1 (by decide)
      replace hk := hk.k g_1.g (f_1.ap (by omega))
      clear k4
      clear fh
      clear hd
      refine wl_nil (rk_region (zm rfl ?_))
      refine zp (o_add rfl rfl (by omega) (by omega)) ?_
      refine za rfl (wl_nil ?_)
      refine rk_blk ?_
      refine rk_region (zm rfl ?_)
      refine zp (o_add rfl rfl (by omega) (by omega)) ?_
      refine za rfl (wl_nil ?_)
      have e1 : (H.set i ((none, 0, 0) : Hd)).length = H.length := List.length_set ..
      have e4 : (C1.set i none).length = C1.length := List.length_set ..
      have hsz2 := hcg.size
      exact rk_againf (Fr.le_of (by kernel_rfl) (by kernel_rfl) (by repeat' constructor)) ⟨i + 1, (i : Int) + 1, (k : Int) + 1, S1, C1.set i none, rfl, by omega, by omega, rfl, by rw [hks]; rfl, by rw [hnot hbit, hS1], by rw [hstep, hC1], ⟨⟨A, c, D, q, H.set i (none, 0, 0), by rw [e1]; exact f, fa, f_1, fc.clear_ i⟩, hg1, hg2, by omega, by rw [e4]; exact hC1l, by omega, by omega⟩, hk, hcg⟩ (by omega)
  ·refine rk_exit rfl ?_
   obtain rfl : i = S.length := by omega
   rw [putS_all hCl] at hS1
   rw [putC_all hCl] at hC1
   subst hS1; subst hC1
   exact rk_tof hj (Fr.le_of (by kernel_rfl) (by kernel_rfl) (by repeat' constructor)) ⟨rfl, hd, hcg⟩
 clear hd hk hcg
 rintro fr V ⟨rfl, hd, hcg⟩
 first | refine zf ?_ | refine zg ?_
 refine end0 rfl ?_
 exact ⟨rfl, hd, hcg⟩
theorem C_qPutAll {Q : Nat → Prop} {lo hi g : Nat} {S S0 : List Sec} {C C0 : List (Option Sec)} (w : World) (hd : RqAt w lo hi Q g S C) (hS0 : cur S C = S0) (hC0 : List.replicate S.length none = C0) :
  CallsR Tryz.prog 69 [.pointer (some ⟨g, 0, none⟩), .slice none 0 0, .bool true] w fun v w' => v = .tuple #[] ∧ RqAt w' lo hi Q g S0 C0 ∧ Chg lo hi w w' :=
 K_qPut (lo2 := lo) (hi2 := lo) (kp := []) w hd RdBo.nil_ rfl (by rw [if_pos rfl, crash_all S C _ (by have := cnt_le C; have := hd.len; omega)]; exact hS0) hC0 (.inl (Nat.le_refl _)) rfl (by simp)
theorem C_qPutKeep {Q : Nat → Prop} {lo hi lo2 hi2 g n cp : Nat} {S S0 : List Sec} {C C0 : List (Option Sec)} {K : Option Addr} {kp : List Bool} (w : World) (hd : RqAt w lo hi Q g S C) (hk : RdBo w lo2 hi2 K kp) (hS0 : crash S C kp = S0) (hC0 : List.replicate S.length none = C0) (ha : hi2 ≤ lo ∨ hi ≤ lo2) (hn : n = kp.length) (hm : n ≤ 1000000) :
  CallsR Tryz.prog 69 [.pointer (some ⟨g, 0, none⟩), .slice K n cp, .bool false] w fun v w' => v = .tuple #[] ∧ RqAt w' lo hi Q g S0 C0 ∧ Chg lo hi w w' :=
 K_qPut w hd hk (by rw [if_neg (by simp)]) hS0 hC0 ha hn hm
theorem C_qFlush {Q : Nat → Prop} {lo hi g : Nat} {S S0 : List Sec} {C C0 : List (Option Sec)} (w : World) (hd : RqAt w lo hi Q g S C) (hS0 : cur S C = S0) (hC0 : List.replicate S.length none = C0) :
  CallsR Tryz.prog 64 [.pointer (some ⟨g, 0, none⟩)] w fun v w' => v = .int .i64 0 ∧ RqAt w' lo hi Q g S0 C0 ∧ Chg lo hi w w' := by
 refine callsR Tryz.func64 rfl rfl (by kernel_rfl) rfl ?_
 have hcg : Chg lo hi w w := Chg.refl
 refine zs (za rfl (wl_nil (zs (zm rfl ?_))))
 refine wl_call rfl (C_qPutAll _ hd hS0 hC0) ?_
 rintro v4 w4 ⟨rfl, ⟨f4, g4⟩⟩
 have s4 := g4.size
 replace hcg := hcg.trans (g4.wide (by omega) (by omega))
 clear hd
 refine wl_nil (zs (za rfl (wl_nil ?_)))
 refine ret1 rfl rfl ?_
 exact ⟨rfl, by assumption, hcg⟩
theorem C_qCrash {Q : Nat → Prop} {lo hi lo2 hi2 g n cp : Nat} {S S0 : List Sec} {C C0 : List (Option Sec)} {K : Option Addr} {kp : List Bool} (w : World) (hd : RqAt w lo hi Q g S C) (hk : RdBo w lo2 hi2 K kp) (hS0 : crash S C kp = S0) (hC0 : List.replicate S.length none = C0) (ha : hi2 ≤ lo ∨ hi ≤ lo2) (hn : n = kp.length) (hm : n ≤ 1000000) :
  CallsR Tryz.prog 33 [.pointer (some ⟨g, 0, none⟩), .slice K n cp] w fun v w' => v = .int .i64 0 ∧ RqAt w' lo hi Q g S0 C0 ∧ Chg lo hi w w' := by
 refine callsR Tryz.func33 rfl rfl (by kernel_rfl) rfl ?_
 have hcg : Chg lo hi w w := Chg.refl
 refine zs (za rfl (wl_nil (zs (zm rfl (zm rfl ?_)))))
 refine wl_call rfl (C_qPutKeep _ hd hk hS0 hC0 (by omega) hn (by omega)) ?_
 rintro v7 w7 ⟨rfl, ⟨f7, g7⟩⟩
 have s7 := g7.size
 replace hcg := hcg.trans (g7.wide (by omega) (by omega))
 replace hk := hk.c g7 (by omega)
 clear hd
 refine wl_nil (zs (za rfl (wl_nil ?_)))
 refine ret1 rfl rfl ?_
 exact ⟨rfl, by assumption, hcg⟩
end Go.Proofs.YtnnhenafhalobaaGreat
namespace Go.Proofs.YtnnhenafhalobaaGreat
set_option maxRecDepth 100000
open Go.RowKit
theorem overJ_get {b p : By} {n i : Nat} (h : n + p.length ≤ b.length) : (overJ b n p)[i]? = if i < n then b[i]? else if i < n + p.length then p[i - n]? else b[i]? := by
 unfold overJ
 by_cases h1 : i < n
 ·rw [if_pos h1, List.append_assoc, List.getElem?_append_left (by rw [List.length_take]; omega), List.getElem?_take, if_pos h1]
 ·rw [if_neg h1]
  by_cases h2 : i < n + p.length
  ·rw [if_pos h2, List.getElem?_append_left (by rw [List.length_append, List.length_take]; omega), List.getElem?_append_right (by rw [List.length_take]; omega), List.length_take, Nat.min_eq_left (by omega)]
  ·rw [if_neg h2, List.getElem?_append_right (by rw [List.length_append, List.length_take]; omega), List.length_append, List.length_take, Nat.min_eq_left (by omega), List.getElem?_drop, show n + p.length + (i - (n + p.length)) = i by omega]
theorem cut_get {b : By} {j i : Nat} : ((b.drop (256 * j)).take 256)[i]? = if i < 256 then b[256 * j + i]? else none := by
 rw [List.getElem?_take]
 by_cases h : i < 256
 ·rw [if_pos h, if_pos h, List.getElem?_drop]
 ·rw [if_neg h, if_neg h]
def kAt (r j : Nat) : Nat := if j = 0 then 0 else 256 * j - r
theorem put_step {TA bs : By} {r j : Nat} (hr : r < 256) (hl : r + bs.length ≤ TA.length) (hj : kAt r j < bs.length) (hT : 256 * j + 256 ≤ TA.length) :
  overJ ((TA.drop (256 * j)).take 256) ((r + kAt r j) % 256) ((bs.drop (kAt r j)).take (256 - (r + kAt r j) % 256)) = ((overJ TA r bs).drop (256 * j)).take 256 := by
 have hq : (r + kAt r j) % 256 = if j = 0 then r else 0 := by
  unfold kAt
  by_cases h : j = 0
  ·rw [if_pos h, if_pos h, Nat.add_zero, Nat.mod_eq_of_lt hr]
  ·rw [if_neg h, if_neg h, show r + (256 * j - r) = 256 * j by omega, Nat.mul_mod_right]
 have hk : kAt r j + (if j = 0 then r else 0) + (if j = 0 then 0 else r) = 256 * j + (if j = 0 then r else 0) := by
  unfold kAt
  by_cases h : j = 0
  ·subst h; simp
  ·simp only [if_neg h]; omega
 obtain ⟨k, hkk⟩ : ∃ k, kAt r j = k := ⟨_, rfl⟩
 obtain ⟨q, hqq⟩ : ∃ q, (r + kAt r j) % 256 = q := ⟨_, rfl⟩
 rw [hkk] at hk hj hqq ⊢
 rw [hkk] at hq
 rw [hqq] at hq ⊢
 have hcut : ((TA.drop (256 * j)).take 256).length = 256 := by rw [List.length_take, List.length_drop]; omega
 have hm : ((bs.drop k).take (256 - q)).length = min (256 - q) (bs.length - k) := by rw [List.length_take, List.length_drop]
 have hq2 : q < 256 := by rw [hq]; split <;> omega
 apply List.ext_getElem?
 intro i
 rw [overJ_get (by rw [hm, hcut]; omega), cut_get, cut_get, overJ_get hl, hm]
 have hj0 : (j = 0 ∧ q = r ∧ k = 0) ∨ (j ≠ 0 ∧ q = 0 ∧ k + r = 256 * j) := by
  by_cases h : j = 0
  ·left
   simp only [if_pos h] at hq hk
   exact ⟨h, hq, by omega⟩
  ·right
   simp only [if_neg h] at hq hk
   exact ⟨h, hq, by omega⟩
 by_cases h256 : i < 256
 ·rw [if_pos h256]
  simp only [if_pos h256]
  by_cases h1 : i < q
  ·rw [if_pos h1, if_pos (by omega)]
  ·rw [if_neg h1]
   rw [if_neg (show ¬256 * j + i < r by omega)]
   by_cases h2 : i < q + min (256 - q) (bs.length - k)
   ·rw [if_pos h2, if_pos (by omega), List.getElem?_take, if_pos (by omega), List.getElem?_drop, show k + (i - q) = 256 * j + i - r by omega]
   ·rw [if_neg h2, if_neg (by omega)]
 ·rw [if_neg h256]
  simp only [if_neg h256]
  rw [if_neg (by omega), if_neg (by omega)]
theorem wrs_take_succ {ss : List Sec} {C : List (Option Sec)} {n j : Nat} (h : j < ss.length) : wrs C n (ss.take (j + 1)) = (wrs C n (ss.take j)).set (n + j) (some ss[j]) := by
 rw [List.take_succ_eq_append_getElem h, wrs_snoc, List.length_take, Nat.min_eq_left (by omega)]
theorem areaB_get {T : List Sec} {n M j : Nat} (h : n + M ≤ T.length) (hj : j < M) : ((areaB T n M).drop (256 * j)).take 256 = (T[n + j]'(by omega)).1 := by
 have h1 : secsN M (areaB T n M) = (T.drop n).take M := by
  have h2 : ((T.drop n).take M).length = M := by rw [List.length_take, List.length_drop]; omega
  conv => lhs; arg 1; rw [← h2]
  exact secsN_img _
 have h3 : (secsN M (areaB T n M))[j]? = some (T[n + j]'(by omega)) := by
  rw [h1, List.getElem?_take, if_pos hj, List.getElem?_drop, List.getElem?_eq_getElem (by omega)]
 have h4 : (secsN M (areaB T n M))[j]? = some (secOf (((areaB T n M).drop (256 * j)).take 256)) := by
  rw [List.getElem?_eq_getElem (by rw [secsN_len]; exact hj), secsN_get M _ j hj]
 rw [h4] at h3
 injection h3 with h3
 rw [← h3, secOf_val (by rw [List.length_take, List.length_drop, areaB_len h]; omega)]
end Go.Proofs.YtnnhenafhalobaaGreat
namespace Go.Proofs.YtnnhenafhalobaaGreat
set_option maxRecDepth 100000
open Go.RowKit
def rJ (d : Option Addr) (a : Int) (e : Nat) (L : Option Addr) (n c : Nat) (s : Int) (ch : By) (t : Int) : List Value := [.pointer d, .int .i64 a, .int .u64 (e : Int), .slice L n c, .int .i64 s] ++ (B8 ch ++ [.int .i64 t])
section
variable {d L L' : Option Addr} {a t s t' s' : Int} {e e' n c n' c' : Nat} {ch ch' : By}
theorem rJ_length (h : ch.length = 32) : (rJ d a e L n c s ch t).length = 38 := by simp [rJ, B8_length, h]
theorem rJ_ch (h : ch.length = 32) : ((rJ d a e L n c s ch t).drop (0 + 5)).take 32 = B8 ch := by
 show (B8 ch ++ _).take 32 = _
 rw [List.take_left' (by rw [B8_length, h])]
theorem rJ_t (h : ch.length = 32) : (rJ d a e L n c s ch t)[0 + 37]? = some (.int .i64 t) := by
 show (B8 ch ++ [Value.int .i64 t])[32]? = _
 rw [List.getElem?_append_right (by rw [B8_length, h]; omega), B8_length, h]; rfl
theorem rJ_sett (h : ch.length = 32) : (rJ d a e L n c s ch t).set 37 (.int .i64 t') = rJ d a e L n c s ch t' := by
 show _ :: _ :: _ :: _ :: _ :: (B8 ch ++ [Value.int .i64 t]).set 32 _ = _
 rw [List.set_append_right _ _ (by rw [B8_length, h]; omega), B8_length, h]; rfl
theorem rJ_setch (h : ch.length = 32) (h' : ch'.length = 32) : spl (rJ d a e L n c s ch t) 5 (B8 ch') = rJ d a e L n c s ch' t := by
 have e1 : (rJ d a e L n c s ch t).take 5 = [.pointer d, .int .i64 a, .int .u64 (e : Int), .slice L n c, .int .i64 s] := rfl
 have e2 : (rJ d a e L n c s ch t).drop (5 + (B8 ch').length) = [.int .i64 t] := by
  rw [B8_length, h', show 5 + 32 = 37 from rfl]
  show (B8 ch ++ [Value.int .i64 t]).drop 32 = _
  rw [List.drop_left' (by rw [B8_length, h])]
 unfold spl
 rw [e1, e2]
 rfl
end
section
variable {fn : Func} {F : Ending → World → Prop} {N : Nat} {ks : List K} {ops : Array Oper} {tg : Tags} {l : List Oper} {fr : Fr} {w : World} {ty T : TypeId} {pos : String} {aft : Array Edge} {gd : Option (Nat × Bool)} {g : Nat} {x y z q : Operand} {d L L' : Option Addr} {a t s t' s' : Int} {e e' n c n' c' : Nat} {ch ch' : By}
theorem o_ldRch (hx : fr.ev x = some (.pointer (some ⟨g, 0 + 5, none⟩))) (hB : Blk w g T (rJ d a e L n c s ch t)) (h : ch.length = 32) : OpV Tryz.prog N fr w (.load 64 x) ty (.agg (B8 ch).toArray) w :=
 o_loadCut Tryz.isAgg64 Tryz.sizeOf64 hx hB (rJ_ch h) (by rw [B8_length, h])
theorem o_ldRt (hx : fr.ev x = some (.pointer (some ⟨g, 0 + 37, none⟩))) (hB : Blk w g T (rJ d a e L n c s ch t)) (h : ch.length = 32) : OpV Tryz.prog N fr w (.load 3 x) ty (.int .i64 t) w :=
 o_loadbg Tryz.isAgg3 hx hB (rJ_t h)
theorem wl_stRe {v : Int} (hx : fr.ev x = some (.pointer (some ⟨g, 0 + 2, none⟩))) (hB : Blk w g T (rJ d a e L n c s ch t)) (hy : fr.ev y = some (.int .u64 v)) (hv : v = (e' : Int)) (h : ch.length = 32)
  (hk : ∀ w', Blk w' g T (rJ d a e' L n c s ch t) → Grew w w' T (some g) → w'.heap.size = w.heap.size → WL Tryz.prog fn F N ks ops tg.tail l fr w') (ht : tg.loud = true := by rfl) (hg : onG ops fr gd = true := by rfl) (hq : tg.calm = false ∨ tg.rw.may (some g) := by exact .inl rfl) :
  WL Tryz.prog fn F N ks ops tg (⟨none, .store 52 x y, ty, pos, aft, gd⟩ :: l) fr w := by
 subst hv
 exact wl_storeg1 Tryz.sizeOf52 hx hy rfl hB (by rw [rJ_length h]; omega) hk ht hg hq
theorem wl_stRL (hx : fr.ev x = some (.pointer (some ⟨g, 0 + 3, none⟩))) (hB : Blk w g T (rJ d a e L n c s ch t)) (hy : fr.ev y = some (.slice L' n' c')) (h : ch.length = 32)
  (hk : ∀ w', Blk w' g T (rJ d a e L' n' c' s ch t) → Grew w w' T (some g) → w'.heap.size = w.heap.size → WL Tryz.prog fn F N ks ops tg.tail l fr w') (ht : tg.loud = true := by rfl) (hg : onG ops fr gd = true := by rfl) (hq : tg.calm = false ∨ tg.rw.may (some g) := by exact .inl rfl) :
  WL Tryz.prog fn F N ks ops tg (⟨none, .store 44 x y, ty, pos, aft, gd⟩ :: l) fr w :=
 wl_storeg1 Tryz.sizeOf44 hx hy rfl hB (by rw [rJ_length h]; omega) hk ht hg hq
theorem wl_stRs (hx : fr.ev x = some (.pointer (some ⟨g, 0 + 4, none⟩))) (hB : Blk w g T (rJ d a e L n c s ch t)) (hy : fr.ev y = some (.int .i64 s')) (h : ch.length = 32)
  (hk : ∀ w', Blk w' g T (rJ d a e L n c s' ch t) → Grew w w' T (some g) → w'.heap.size = w.heap.size → WL Tryz.prog fn F N ks ops tg.tail l fr w') (ht : tg.loud = true := by rfl) (hg : onG ops fr gd = true := by rfl) (hq : tg.calm = false ∨ tg.rw.may (some g) := by exact .inl rfl) :
  WL Tryz.prog fn F N ks ops tg (⟨none, .store 3 x y, ty, pos, aft, gd⟩ :: l) fr w :=
 wl_storeg1 Tryz.sizeOf3 hx hy rfl hB (by rw [rJ_length h]; omega) hk ht hg hq
theorem wl_stRch (hx : fr.ev x = some (.pointer (some ⟨g, 0 + 5, none⟩))) (hB : Blk w g T (rJ d a e L n c s ch t)) (hy : fr.ev y = some (.agg (B8 ch').toArray)) (h : ch.length = 32) (h' : ch'.length = 32)
  (hk : ∀ w', Blk w' g T (rJ d a e L n c s ch' t) → Grew w w' T (some g) → w'.heap.size = w.heap.size → WL Tryz.prog fn F N ks ops tg.tail l fr w') (ht : tg.loud = true := by rfl) (hg : onG ops fr gd = true := by rfl) (hq : tg.calm = false ∨ tg.rw.may (some g) := by exact .inl rfl) :
  WL Tryz.prog fn F N ks ops tg (⟨none, .store 64 x y, ty, pos, aft, gd⟩ :: l) fr w :=
 wl_storegn (n := 32) Tryz.sizeOf64 hx hy (by rw [B8_length, h']) (B8_oneCell _) hB (by rw [rJ_length h]; omega) (fun w' h1 h2 h3 => hk w' (by rw [show (0 + 5) = 5 from rfl, rJ_setch h h'] at h1; exact h1) h2 h3) ht hg hq
theorem wl_stRt (hx : fr.ev x = some (.pointer (some ⟨g, 0 + 37, none⟩))) (hB : Blk w g T (rJ d a e L n c s ch t)) (hy : fr.ev y = some (.int .i64 t')) (h : ch.length = 32)
  (hk : ∀ w', Blk w' g T (rJ d a e L n c s ch t') → Grew w w' T (some g) → w'.heap.size = w.heap.size → WL Tryz.prog fn F N ks ops tg.tail l fr w') (ht : tg.loud = true := by rfl) (hg : onG ops fr gd = true := by rfl) (hq : tg.calm = false ∨ tg.rw.may (some g) := by exact .inl rfl) :
  WL Tryz.prog fn F N ks ops tg (⟨none, .store 3 x y, ty, pos, aft, gd⟩ :: l) fr w :=
 wl_storeg1 Tryz.sizeOf3 hx hy rfl hB (by rw [rJ_length h]; omega) (fun w' h1 h2 h3 => hk w' (by rw [show (0 + 37) = 37 from rfl, rJ_sett h] at h1; exact h1) h2 h3) ht hg hq
theorem o_bldR0 {u : D32} (hx : fr.ev x = some (.pointer d)) (hy : fr.ev y = some (.int .i64 a)) (hz : fr.ev z = some (.agg (B8 u.1).toArray)) : OpV Tryz.prog N fr w (.build 66 #[(0, x), (1, y), (5, z)]) ty (.agg (rJ d a 0 none 0 0 0 u.1 0).toArray) w :=
 o_build (is := [0, 1, 5]) (xs := [x, y, z]) (vs := [.pointer d, .int .i64 a, .agg (B8 u.1).toArray]) (by simp [Fr.evs, hx, hy, hz]) (fun w => d32_cases u (fun u => (Instr.build 66 ([0, 1, 5].zip [.pointer d, .int .i64 a, .agg (B8 u.1).toArray]).toArray).run Tryz.prog w = .ok (.agg (rJ d a 0 none 0 0 0 u.1 0).toArray) w) (by intros; kernel_rfl))
theorem o_bldR1 {v : Int} (hx : fr.ev x = some (.pointer d)) (hy : fr.ev y = some (.int .i64 a)) (hz : fr.ev z = some (.int .u64 v)) (hv : v = (e : Int)) : OpV Tryz.prog N fr w (.build 66 #[(0, x), (1, y), (2, z)]) ty (.agg (rJ d a e none 0 0 0 nul32 0).toArray) w := by
 subst hv
 exact o_build (is := [0, 1, 2]) (xs := [x, y, z]) (vs := [.pointer d, .int .i64 a, .int .u64 (e : Int)]) (by simp [Fr.evs, hx, hy, hz]) (fun w => by kernel_rfl)
end
theorem C_r9SectorsY {a : Int} (w : World) (h : 1 ≤ a ∧ a ≤ 256) : CallsR Tryz.prog 28 [.int .i64 a] w fun v w' => v = .int .i64 (2 + 2 * a) ∧ Below w.heap.size w w' := by
 refine callsR Tryz.func28 rfl rfl (by kernel_rfl) rfl ?_
 have hw := Below.refl w.heap.size w
 refine zs (za rfl (wl_nil (rk_seq (zs (zm rfl ?_)))))
 refine zp (o_lt rfl rfl) ?_
 refine zm rfl ?_
 refine wl_know 5 false rfl (decide_eq_false (by omega)) ?_
 refine zm rfl ?_
 refine zp (o_gt rfl rfl) ?_
 refine zp (o_pick_f rfl rfl) ?_
 refine wl_nil ?_
 refine rk_if rfl (fun h8 => absurd h8 (by omega)) (fun h8 => ?_)
 refine rk_skip (zs (zm rfl ?_))
 refine zp (o_mul rfl rfl (by omega) (by omega)) ?_
 refine zp (o_add rfl rfl (by omega) (by omega)) ?_
 refine za rfl (wl_nil ?_)
 refine ret1 rfl rfl ?_
 exact ⟨rfl, hw⟩
theorem C_r9SectorsN {a : Int} (w : World) (h : ¬(1 ≤ a ∧ a ≤ 256)) : CallsR Tryz.prog 28 [.int .i64 a] w fun v w' => v = .int .i64 0 ∧ Below w.heap.size w w' := by
 by_cases h1 : 1 ≤ a
 ·refine callsR Tryz.func28 rfl rfl (by kernel_rfl) rfl ?_
  have hw := Below.refl w.heap.size w
  refine zs (za rfl (wl_nil (rk_seq (zs (zm rfl ?_)))))
  refine zp (o_lt rfl rfl) ?_
  refine zm rfl ?_
  refine wl_know 5 false rfl (decide_eq_false (by omega)) ?_
  refine zm rfl ?_
  refine zp (o_gt rfl rfl) ?_
  refine zp (o_pick_f rfl rfl) ?_
  refine wl_nil ?_
  refine rk_if rfl (fun h8 => ?_) (fun h8 => h8.elim (by omega))
  refine zs (za rfl (wl_nil ?_))
  refine ret1 rfl rfl ?_
  exact ⟨rfl, hw⟩
 ·refine callsR Tryz.func28 rfl rfl (by kernel_rfl) rfl ?_
  have hw := Below.refl w.heap.size w
  refine zs (za rfl (wl_nil (rk_seq (zs (zm rfl ?_)))))
  refine zp (o_lt rfl rfl) ?_
  refine zm rfl ?_
  refine wl_know 5 true rfl (decide_eq_true (by omega)) ?_
  refine wl_off (wl_off ?_)
  refine zp (o_pick_t rfl rfl) ?_
  refine wl_nil ?_
  refine rk_true rfl ?_
  refine zs (za rfl (wl_nil ?_))
  refine ret1 rfl rfl ?_
  exact ⟨rfl, hw⟩
theorem C_r9first {z a : Int} {e m n : Nat} (w : World) (hz : z = e) (ha : a = m) (hn : 2 + e % 2 * m = n) (he : e < 18446744073709551616) (hm : m ≤ 256) : CallsR Tryz.prog 68 [.int .u64 z, .int .i64 a] w fun v w' => v = .int .i64 (n : Int) ∧ Below w.heap.size w w' := by
 subst hz; subst ha; subst hn
 refine callsR Tryz.func68 rfl rfl (by kernel_rfl) rfl ?_
 have hw := Below.refl w.heap.size w
 refine zs (za rfl (wl_nil (zs (zm rfl (zm rfl ?_)))))
 refine zp (o_remu rfl rfl (by omega) (by omega)) ?_
 refine zp (o_convi64 (src := 52) (dst := 3) Tryz.underlying52 Tryz.underlying3 rfl (by omega) (by omega)) ?_
 rcases (show e % 2 = 0 ∨ e % 2 = 1 by omega) with h | h
 ·rw [h, show (e : Int) % 2 = 0 by omega]
  refine zp (o_mul rfl rfl (by omega) (by omega)) ?_
  refine zp (o_add rfl rfl (by omega) (by omega)) ?_
  refine za rfl (wl_nil ?_)
  refine ret1 rfl rfl ?_
  exact ⟨congrArg (Value.int .i64) (by omega), hw⟩
 ·rw [h, show (e : Int) % 2 = 1 by omega]
  refine zp (o_mul rfl rfl (by omega) (by omega)) ?_
  refine zp (o_add rfl rfl (by omega) (by omega)) ?_
  refine za rfl (wl_nil ?_)
  refine ret1 rfl rfl ?_
  exact ⟨congrArg (Value.int .i64) (by omega), hw⟩
theorem C_r1Word4 {A : Option Addr} {l r : By} {z k : Int} {n m c : Nat} (w : World) (hA : Rd w A l) (hz : z = n) (hk : k = 4) (hr : l ++ leB 4 n = r) (hn : n < 18446744073709551616) (hm : m = l.length) (hl : l.length ≤ 4000) :
  CallsR Tryz.prog 89 [.slice A m c, .int .u64 z, .int .i64 k] w fun v w' => ∃ A' c', v = .slice A' r.length c' ∧ OwnH w' w.heap.size w'.heap.size A' c' r ∧ Below w.heap.size w w' := by
 subst hz; subst hk; subst hr; subst hm
 refine (C_refWord (A := A) (l := l) c n 4 w hA (by unfold u64; omega) (by omega)).mono ?_
 rintro v w' ⟨A', c', rfl, h, hb⟩
 exact ⟨A', c', rfl, h.h_, hb⟩
set_option maxRecDepth 100000 in
theorem C_r9head {z a : Int} {e m : Nat} {r : By} (w : World) (hz : z = e) (ha : a = m) (hr : headB e m = r) (he : e < 18446744073709551616) (hm : m ≤ 256) :
  CallsR Tryz.prog 65 [.int .u64 z, .int .i64 a] w fun v w' => ∃ A' c', v = .slice A' 256 c' ∧ OwnH w' w.heap.size w'.heap.size A' c' r ∧ r.length = 256 ∧ Below w.heap.size w w' := by
 subst hz; subst ha
 obtain ⟨b8, hb8⟩ : ∃ b, wB8 e = b := ⟨_, rfl⟩
 have l8 : b8.length = 8 := by rw [← hb8, wB8_len]
 obtain ⟨b12, hb12⟩ : ∃ b, b8 ++ leB 4 m = b := ⟨_, rfl⟩
 have l12 : b12.length = 12 := by rw [← hb12, List.length_append, l8, leB_length]
 obtain ⟨s, hs⟩ : ∃ s, sumB [b12] = s := ⟨_, rfl⟩
 have l32 : s.length = 32 := by rw [← hs, sumB_len]
 have hr2 : b12 ++ s.take 8 ++ List.replicate 236 0 = r := by rw [← hr, ← hs, ← hb12, ← hb8]; rfl
 have lr : r.length = 256 := by rw [← hr, headB_len]
 obtain ⟨b20, hb20⟩ : ∃ b, b12 ++ s.take 8 = b := ⟨_, rfl⟩
 have l20 : b20.length = 20 := by rw [← hb20, List.length_append, l12, List.length_take, l32]; rfl
 have hL2 : ∀ x ∈ [b12], x.length ≤ 4000 := by
  intro x hx
  obtain rfl := List.mem_singleton.1 hx; omega
 unfold sumB at hs
 refine callsR Tryz.func65 rfl rfl (by kernel_rfl) rfl ?_
 have hw := Below.refl w.heap.size w
 refine zs (za rfl (wl_nil (zs (zm rfl ?_))))
 refine wl_call rfl (C_r1Word8 _ rfl rfl hb8 (by omega)) ?_
 rintro v8 w8 ⟨A8, ⟨c8, ⟨rfl, ⟨f8, b8_1⟩⟩⟩⟩
 have qf8 := f8.cap
 have s8 := b8_1.size
 replace hw := hw.trans (b8_1.mono hw.size)
 refine zm rfl ?_
 refine zp (o_convu64 (src := 3) (dst := 52) Tryz.underlying3 Tryz.underlying52 rfl (by omega) (by omega)) ?_
 refine wl_call rfl (C_r1Word4 _ f8.to_Rd rfl rfl hb12 (by omega) rfl (by omega)) ?_
 rintro v11 w11 ⟨A11, ⟨c11, ⟨rfl, ⟨f11, b11⟩⟩⟩⟩
 have qf11 := f11.cap
 have s11 := b11.size
 replace hw := hw.trans (b11.mono hw.size)
 replace f8 := f8.u b11
 refine za rfl (wl_nil (zs (zm rfl ?_)))
 refine wl_litK1 (by rfl) rfl f11.to_RdT rfl (by omega) (own_max' (by assumption)) (by rfl) ?_
 rintro A13 w13 f13 b13
 have s13 := b13.size
 replace hw := hw.trans (b13.mono hw.size)
 replace f8 := f8.u b13
 replace f11 := f11.u b13
 refine wl_call rfl (C_refSum _ f13 hs (by rfl) (by simp) (by omega)) ?_
 rintro v14 w14 ⟨rfl, b14⟩
 have s14 := b14.size
 replace hw := hw.trans (b14.mono hw.size)
 replace f11 := f11.u b14
 replace f8 := f8.u b14
 replace f13 := f13.u b14
 refine wl_allocB Tryz.underlying64 Tryz.zeroValue64 (by rfl) ?_
 rintro g6 w6 f6 b6 i6 i6_1
 have s6 := b6.size
 replace hw := hw.trans (b6.mono hw.size)
 replace f13 := f13.u b6
 replace f8 := f8.u b6
 replace f11 := f11.u b6
 refine wl_stBa Tryz.sizeOf64 rfl f6 rfl l32 (by rfl) ?_
 rintro w_1 f g e_1
 have s_1 := g.size
 replace hw := hw.trans (below_of_grownBy g.g hw.size (by omega))
 replace f11 := f11.k g.g (ap_some (by omega))
 replace f8 := f8.k g.g (ap_some (by omega))
 clear f13
 clear f6
 refine wl_nil (zs (zm rfl ?_))
 refine wl_slArrHi (8) Tryz.underlying64 Tryz.sizeOf5 rfl f rfl (by omega) (by omega) ?_
 rintro f16
 refine wl_appB Tryz.u8 rfl f11 rfl rfl f16 (by simp; omega) (by simp; omega) (by omega) ?_
 rintro A17 c17 w17 f17 g17 b17 i17
 have qf17 := f17.cap
 have s17 := g17.size
 replace hw := hw.trans (b17.mono (by omega))
 replace f8 := f8.k g17.g (f11.ap (by omega))
 replace f := f.y g17 (by decide)
 clear f16
 clear f11
 refine za rfl (wl_nil (zs (zm rfl (zm rfl ?_))))
 refine zp (o_len (t := 35) Tryz.underlying35 rfl) ?_
 rw [hb20] at f17 hr2 ⊢
 rw [l20]
 refine zp (o_sub rfl rfl (by omega) (by omega)) ?_
 refine wl_appZj 236 rfl f17 l20.symm rfl (by omega) (by omega) (by omega) (by omega) ?_
 intro A22 c22 w22 f22 g22 b22
 replace hw := hw.trans (b22.mono (by omega))
 rw [hr2] at f22 ⊢
 refine za rfl (wl_nil ?_)
 refine ret1 rfl rfl ?_
 exact ⟨A22, c22, by rw [lr], f22.base (by omega) (by omega), lr, hw⟩
end Go.Proofs.YtnnhenafhalobaaGreat
namespace Go.Proofs.YtnnhenafhalobaaGreat
set_option maxRecDepth 100000
open Go.RowKit
set_option maxRecDepth 100000 in
set_option maxHeartbeats 1000000 in
theorem K_r9heads {Q : Nat → Prop} {lo hi g k : Nat} {S : List Sec} {C : List (Option Sec)} {b : By} {z : Int} (w : World) (hd : RqAt w lo hi Q g S C) (hz : z = k) (hk : k < 2) (hr : rdD S C k = (b, 0)) (hl : b.length = 256) :
  CallsR Tryz.prog 70 [.pointer (some ⟨g, 0, none⟩), .int .i64 z] w fun v w' => v = .tuple #[.int .u64 (headE b : Int), .int .i64 (headA b : Int), .bool (decide (HeadOk b k))] ∧ Below w.heap.size w w' := by
 subst hz
 obtain ⟨e, he⟩ : ∃ e, headE b = e := ⟨_, rfl⟩
 obtain ⟨a, ha⟩ : ∃ a, headA b = a := ⟨_, rfl⟩
 have e1 : WordR 8 b 0 e (b.drop 8) 0 := ⟨by rw [rWord8 (by omega), ← he]; rfl⟩
 have e2 : WordR 4 (b.drop 8) 0 a (b.drop 12) 0 := ⟨by rw [rWord4 (by omega), ← ha]; rfl⟩
 have hel : e < 18446744073709551616 := he ▸ headE_lt b
 have hal : a < 4294967296 := ha ▸ headA_lt b
 have wk : (Lit.int .i64 (k : Int)).wf = true := i64_wf (by omega)
 have hP : HeadOk b k ↔ e % 2 = k ∧ (1 ≤ a ∧ a ≤ 256) ∧ b = headB e a := by unfold HeadOk; rw [he, ha]
 rw [he, ha]
 refine callsR Tryz.func70 rfl rfl (by kernel_rfl) rfl ?_
 have hw := Below.refl w.heap.size w
 refine zs (za rfl (za rfl (za rfl (wl_nil (zs (zm rfl (zm rfl ?_)))))))
 refine wl_call rfl (C_qDkRead _ hd hr wk) ?_
 rintro v15 w15 ⟨A15, ⟨c15, ⟨rfl, ⟨f15, ⟨i15, b15⟩⟩⟩⟩⟩
 dsimp only at f15
 dsimp only at i15
 dsimp only
 have s15 := b15.size
 replace hw := hw.trans (b15.mono hw.size)
 refine zm rfl ?_
 refine zp (o_ext20 rfl) ?_
 refine zp (o_ext21 rfl) ?_
 refine za rfl (za rfl (wl_nil (zs (zm rfl ?_))))
 refine wl_call rfl (C_xfRead _ f15.to_Rd rfl (by omega)) ?_
 rintro v19 w19 ⟨g19, ⟨rfl, ⟨i19, ⟨i19_1, ⟨f19, b19⟩⟩⟩⟩⟩
 have s19 := b19.size
 replace hw := hw.trans (b19.mono hw.size)
 replace f15 := f15.u b19
 refine za rfl (wl_nil (zs (zm rfl ?_)))
 refine wl_call rfl (C_xfWord _ f19 e1) ?_
 rintro v21 w21 ⟨rfl, ⟨f21, ⟨g21, g21_1⟩⟩⟩
 have s21 := g21.size
 replace hw := hw.trans (below_of_grownBy g21.g hw.size (by omega))
 replace f15 := f15.k g21.g (ap_some (by omega))
 clear f19
 refine zm rfl ?_
 refine wl_call rfl (C_xfWord _ f21 e2) ?_
 rintro v23 w23 ⟨rfl, ⟨f23, ⟨g23, g23_1⟩⟩⟩
 have s23 := g23.size
 replace hw := hw.trans (below_of_grownBy g23.g hw.size (by omega))
 replace f15 := f15.k g23.g (ap_some (by omega))
 clear f21
 refine zp (o_convi64 (src := 52) (dst := 3) Tryz.underlying52 Tryz.underlying3 rfl (by omega) (by omega)) ?_
 refine za rfl (za rfl (wl_nil (rk_seq ?_)))
 refine rk_draw (id := 4) (none) [0, 0, 0, 4, 8, 24, 32, 96, 32, 32, 800, 1056, 2208, 4128, 9216, 16384, 49152, 81920, 16384, 409600, 540672, 16385, 2097155, 8388607] [0, 0, 0, 4, 12, 28, 60, 124, 60, 60, 828, 1852, 4092, 8188, 16380, 32764, 65532, 131068, 32764, 524284, 1048572, 32765, 2129919, 8388607] 1032 1024 [(.p, 0), (.p, 1), (.p, 2), (.l, 3), (.p, 4), (.p, 5), (.p, 6), (.s, 7), (.p, 8), (.p, 9), (.c, 10), (.r, 11), (.p, 12), (.p, 13), (.p, 14), (.p, 15), (.p, 16), (.p, 17), (.p, 18), (.p, 19), (.p, 20), (.p, 21), (.p, 22), (.p, 23)] (by kernel_rfl) (by kernel_rfl) (by kernel_rfl) (by kernel_rfl) (by kernel_rfl) ?_
 replace hw := hw.drew
 replace f15 := f15.d
 replace f23 := f23.d
 refine zm rfl (zm rfl (zm rfl ?_))
 by_cases h2 : 1 ≤ a ∧ a ≤ 256
 ·have h3 : 1 ≤ (a : Int) ∧ (a : Int) ≤ 256 := by omega
  obtain ⟨hb, hhb⟩ : ∃ hb, headB e a = hb := ⟨_, rfl⟩
  rw [hhb] at hP
  refine wl_call rfl (C_r9SectorsY _ (by omega)) ?_
  rintro v28 w28 ⟨rfl, b28⟩
  simp only [drew_size] at b28
  have s28 := b28.size
  simp only [drew_size] at s28
  replace hw := hw.trans (b28.mono hw.size)
  replace f23 := f23.u b28
  replace f15 := f15.u b28
  refine zp (o_gt rfl rfl) ?_
  refine zm rfl ?_
  refine wl_know 30 true rfl (decide_eq_true (by omega)) ?_
  refine zm rfl ?_
  refine wl_s (fun _ hk => (o_strU Tryz.underlying35 Tryz.underlying5 Tryz.underlying9 rfl f15.to_Rd (below_of_grown_none hk) rfl)) ?_
  refine zm rfl (zm rfl ?_)
  refine wl_call rfl (C_r9head _ rfl rfl hhb (by omega) (by omega)) ?_ (hq := .inr fun _ _ h => grown_of_below h.choose_spec.choose_spec.2.2.2 _)
  rintro v35 w35 ⟨A35, ⟨c35, ⟨rfl, ⟨f35, ⟨e35, b35⟩⟩⟩⟩⟩
  have qf35 := f35.cap
  have s35 := b35.size
  replace hw := hw.trans (b35.mono hw.size)
  replace f15 := f15.u b35
  replace f23 := f23.u b35
  refine wl_r (o_strU Tryz.underlying35 Tryz.underlying5 Tryz.underlying9 rfl f35.to_Rd (Below.refl _ _) (by omega)) ?_
  refine zp (o_seq rfl rfl) ?_
  refine zp (o_pick_t rfl rfl) ?_
  refine zm rfl ?_
  by_cases hq : b = hb
  ·rw [decide_eq_true hq]
   refine zm rfl ?_
   refine zp (o_remu rfl rfl (by omega) (by omega)) ?_
   refine zp (o_convi64 (src := 52) (dst := 3) Tryz.underlying52 Tryz.underlying3 rfl (by omega) (by omega)) ?_
   refine zm rfl ?_
   refine zp (o_eq rfl rfl) ?_
   refine zp (o_pick_t rfl rfl) ?_
   refine za rfl (za rfl (za rfl ?_))
   refine wl_nild ?_
   refine ret_any (vs := [.int .u64 (e : Int), .int .i64 (a : Int), .bool (decide ((e : Int) % 2 = (k : Int)))]) rfl (.tmp rfl (.tmp rfl (.tmp rfl .nil))) (by simp) ?_
   refine ⟨?_, hw⟩
   rw [decide_eq_decide.2 (show ((e : Int) % 2 = k) ↔ HeadOk b k by rw [hP]; exact ⟨fun h => ⟨by omega, h2, hq⟩, fun h => by have := h.1; omega⟩)]
  ·rw [decide_eq_false hq]
   refine wl_off (wl_off (wl_off (wl_off (wl_off ?_))))
   refine zp (o_pick_f rfl rfl) ?_
   refine za rfl (za rfl (za rfl ?_))
   refine wl_nild ?_
   refine ret_any (vs := [.int .u64 (e : Int), .int .i64 (a : Int), .bool false]) rfl (.tmp rfl (.tmp rfl (.tmp rfl .nil))) (by simp) ?_
   exact ⟨by rw [decide_eq_false (fun h => hq (hP.1 h).2.2)], hw⟩
 ·have h3 : ¬(1 ≤ (a : Int) ∧ (a : Int) ≤ 256) := by omega
  refine wl_call rfl (C_r9SectorsN _ (by omega)) ?_
  rintro v28 w28 ⟨rfl, b28⟩
  simp only [drew_size] at b28
  have s28 := b28.size
  simp only [drew_size] at s28
  replace hw := hw.trans (b28.mono hw.size)
  replace f23 := f23.u b28
  replace f15 := f15.u b28
  refine zp (o_gt rfl rfl) ?_
  refine zm rfl (wl_off (wl_off (wl_off (wl_off (wl_off (wl_off (wl_off ?_)))))))
  refine zp (o_pick_f rfl rfl) ?_
  refine zm rfl (wl_off (wl_off (wl_off (wl_off (wl_off ?_)))))
  refine zp (o_pick_f rfl rfl) ?_
  refine za rfl (za rfl (za rfl ?_))
  refine wl_nild ?_
  refine ret_any (vs := [.int .u64 (e : Int), .int .i64 (a : Int), .bool false]) rfl (.tmp rfl (.tmp rfl (.tmp rfl .nil))) (by simp) ?_
  exact ⟨by rw [decide_eq_false (fun h => h2 (hP.1 h).2.1)], hw⟩
theorem wrC_ok {S : List Sec} {C : List (Option Sec)} {n : Nat} {b : By} (hn : n < S.length) (hb : b.length = 256) : wrC S C (n : Int) b = (wrs C n (secsN 1 b), 0) := by
 unfold wrC
 rw [dif_pos ⟨by omega, hb⟩, secsN_one hb, Int.toNat_natCast]
 rfl
theorem zeros_get {a i : Nat} (hi : i < a) : (secsN a (List.replicate (a * 256) 0))[i]'(by rw [secsN_len]; exact hi) = ⟨List.replicate 256 0, List.length_replicate⟩ := by
 rw [secsN_get _ _ _ hi]
 apply Subtype.ext
 rw [List.drop_replicate, List.take_replicate, Nat.min_eq_left (by omega)]
 exact secOf_val List.length_replicate
set_option maxRecDepth 100000 in
set_option maxHeartbeats 1000000 in
theorem K_r9Format {Q : Nat → Prop} {lo hi gd a : Nat} {S S1 : List Sec} {C C1 : List (Option Sec)} {z : Int} {ZZ hb : By} (w : World) (hd : RqAt w lo hi Q gd S C) (hQ : ∀ k, w.heap.size ≤ k → Q k) (hz : z = a) (ha : 1 ≤ a ∧ a ≤ 256) (hn : 2 + 2 * a ≤ S.length) (hZZ : List.replicate 256 0 = ZZ) (hhb : headB 0 a = hb) (h1 : fmS S C a = S1) (h4 : List.replicate S.length none = C1) :
  CallsR Tryz.prog 29 [.pointer (some ⟨gd, 0, none⟩), .int .i64 z] w fun v w' => ∃ g, v = .tuple #[.pointer (some ⟨g, 0, none⟩), .int .i64 0] ∧ Blk w' g 66 (rJ (some ⟨gd, 0, none⟩) a 0 none 0 0 0 (fstB 0) 0) ∧ w.heap.size ≤ g ∧ RqAt w' lo hi Q gd S1 C1 ∧ Chg lo hi w w' := by
 subst hz
 refine callsR Tryz.func29 rfl rfl (by kernel_rfl) rfl ?_
 have hcg : Chg lo hi w w := Chg.refl
 refine zs (za rfl (za rfl (wl_nil (rk_seq (zs (zm rfl ?_))))))
 refine zp (o_peq_nil (t := 57) Tryz.underlying57 rfl rfl) ?_
 refine wl_nil ?_
 refine rk_false rfl ?_
 refine rk_skip (rk_seq (zs (zm rfl ?_)))
 refine wl_call rfl (C_r9SectorsY _ (by omega)) ?_
 rintro v10 w10 ⟨rfl, b10⟩
 have s10 := b10.size
 replace hcg := hcg.thenB b10
 replace hd := hd.u b10
 refine zp (o_eq rfl rfl) ?_
 refine zm rfl ?_
 refine wl_know 12 false rfl (decide_eq_false (by omega)) ?_
 refine zm rfl ?_
 refine wl_call rfl (C_r9SectorsY _ (by omega)) ?_
 rintro v14 w14 ⟨rfl, b14⟩
 have s14 := b14.size
 replace hcg := hcg.thenB b14
 replace hd := hd.u b14
 refine zm rfl ?_
 refine wl_call rfl (C_qSize _ hd) ?_
 rintro v16 w16 ⟨rfl, rfl⟩
 refine zp (o_gt rfl rfl) ?_
 refine zp (o_pick_f rfl rfl) ?_
 refine wl_nil ?_
 refine rk_if rfl (fun h18 => absurd h18 (by omega)) (fun h18 => ?_)
 refine rk_skip (zs (zm rfl ?_))
 refine wl_mkBz (256) rfl rfl (by omega) (by rfl) (by omega) hZZ ?_
 rintro A20 w20 f20 b20
 have qf20 := f20.cap
 have s20 := b20.size
 replace hcg := hcg.thenB b20
 replace hd := hd.u b20
 have hZl : ZZ.length = 256 := by rw [← hZZ, List.length_replicate]
 obtain ⟨Ca, hCa⟩ : ∃ Ca, wrs C 1 (secsN 1 ZZ) = Ca := ⟨_, rfl⟩
 have hw1 : wrC S C ((1 : Nat) : Int) ZZ = (Ca, 0) := by rw [wrC_ok (by omega) hZl, hCa]
 refine wl_call rfl (C_qWrite (r := (Ca, 0)) _ hd f20.to_RdT.1 hw1 (by decide) hZl.symm (by omega) (by omega) (fun k hk => hQ k (by have := hcg.size; omega))) ?_
 rintro _ w21 ⟨rfl, hd21, b21⟩
 have sb21 := b21.size
 replace hcg := hcg.trans (b21.wide (by omega) (by omega))
 clear hd
 clear f20
 have hCal : Ca.length = C.length := by rw [← hCa, wrs_len]
 obtain ⟨ZS, hZS⟩ : ∃ ZS, secsN a (List.replicate (a * 256) 0) = ZS := ⟨_, rfl⟩
 have hZSl : ZS.length = a := by rw [← hZS, secsN_len]
 have hzg : ∀ i (hi : i < ZS.length), ZS[i] = ⟨ZZ, hZl⟩ := by
  intro i hi
  subst hZS
  rw [zeros_get (by rw [secsN_len] at hi; exact hi)]
  exact Subtype.ext hZZ
 obtain ⟨Cb, hCb⟩ : ∃ Cb, wrs Ca 2 ZS = Cb := ⟨_, rfl⟩
 obtain ⟨Sb, hSb⟩ : ∃ Sb, cur S Cb = Sb := ⟨_, rfl⟩
 have hSbl : Sb.length = S.length := by rw [← hSb, cur_len]
 have hSb4 : List.replicate Sb.length none = C1 := by rw [hSbl, h4]
 have hhl : hb.length = 256 := by rw [← hhb, headB_len]
 obtain ⟨Cc, hCc⟩ : ∃ Cc, wrs C1 0 (secsN 1 hb) = Cc := ⟨_, rfl⟩
 have hw2 : wrC Sb C1 ((0 : Nat) : Int) hb = (Cc, 0) := by rw [wrC_ok (by omega) hhl, hCc]
 have hS1 : cur Sb Cc = S1 := by rw [← h1, fmS, hZZ, hCa, hZS, hCb, hSb, h4, hhb, hCc]
 have hS1l : S1.length = S.length := by rw [← hS1, cur_len, hSbl]
 have hS14 : List.replicate S1.length none = C1 := by rw [hS1l, h4]
 refine wl_nil (rk_seq (zs (za rfl (wl_nil (rk_block ?_)))))
 refine rk_joinf (fun fb fr W => fr = [] ++ fb.drop 1 ∧ RqAt W lo hi Q gd S Cb ∧ Chg lo hi w W) ?_ (fun ks hj => ?_)
 rotate_left
 ·refine rk_loopf (fun fb m fr W => ∃ (i : Nat) (v : Int) (D : List (Option Sec)), fr = [(6, .int .i64 v)] ++ fb.drop 1 ∧ v = i ∧ i ≤ a ∧ m = a - i ∧ wrs Ca 2 (ZS.take i) = D ∧ RqAt W lo hi Q gd S D ∧ Chg lo hi w W) (n := a) (Fr.le_of (by kernel_rfl) (by kernel_rfl) (by repeat' constructor)) ⟨0, _, Ca, rfl, rfl, by omega, rfl, by simp [wrs], hd21, hcg⟩ ?_
  clear hd21 hcg
  rintro m fr W ⟨i, v, D, rfl, rfl, hi, rfl, hD, hd, hcg⟩
  have shw := hcg.size
  first | refine zf ?_ | refine zg ?_
  by_cases hia : i < a
  ·have hst := wrs_take_succ (ss := ZS) (C := Ca) (n := 2) (j := i) (by omega)
   obtain ⟨D2, hD2⟩ : ∃ D2, wrs Ca 2 (ZS.take (i + 1)) = D2 := ⟨_, rfl⟩
   have hw3 : wrC S D ((2 + i : Nat) : Int) ZZ = (D2, 0) := by
    rw [wrC_ok (by omega) hZl, secsN_one hZl, ← hD2, hst, hD, hzg]
    rfl
   refine rk_seq (zs (zm rfl (zm rfl ?_)))
   refine zp (o_lt rfl rfl) ?_
   refine wl_nil ?_
   refine rk_if rfl (fun h24 => ?_) (fun h24 => h24.elim (by omega))
   refine rk_skip (rk_seq (rk_block (rk_region (zm rfl (zm rfl ?_)))))
   refine zp (o_add rfl rfl (by omega) (by omega)) ?_
   refine wl_mkBz (256) rfl rfl (by omega) (by rfl) (by omega) hZZ ?_
   rintro A30 w30 f30 b30
   have qf30 := f30.cap
   have s30 := b30.size
   replace hcg := hcg.thenB b30
   replace hd := hd.u b30
   have hcs := hcg.size
   refine wl_call rfl (C_qWrite (r := (D2, 0)) (n := 256) (cp := 256) (b := ZZ) _ hd f30.to_RdT.1 (by rw [← hw3]; congr 1) (i64_wf (by omega)) hZl.symm (by omega) (by omega) (fun k hk => hQ k (by omega))) ?_
   rintro _ w31 ⟨rfl, hd31, b31⟩
   have sb31 := b31.size
   replace hcg := hcg.trans (b31.wide (by omega) (by omega))
   clear hd
   clear f30
   refine wl_nil ?_
   refine rk_blk ?_
   refine rk_region (zm rfl ?_)
   refine zp (o_add rfl rfl (by omega) (by omega)) ?_
   refine za rfl (wl_nil ?_)
   exact rk_againf (Fr.le_of (by kernel_rfl) (by kernel_rfl) (by repeat' constructor)) ⟨i + 1, (i : Int) + 1, D2, rfl, by omega, by omega, rfl, hD2, hd31, hcg⟩ (by omega)
  ·refine rk_seq ?_
   refine zs (zm rfl (zm rfl ?_))
   refine zp (o_lt rfl rfl) ?_
   refine wl_nil ?_
   refine rk_if rfl (fun h24 => absurd h24 (by omega)) (fun h24 => ?_)
   refine rk_exit rfl ?_
   obtain rfl : i = a := by omega
   rw [List.take_of_length_le (by omega)] at hD
   obtain rfl : D = Cb := hD.symm.trans hCb
   exact rk_tof hj (Fr.le_of (by kernel_rfl) (by kernel_rfl) (by repeat' constructor)) ⟨rfl, hd, hcg⟩
 clear hd21 hcg
 rintro fr W ⟨rfl, hd, hcg⟩
 have shw := hcg.size
 obtain ⟨u, hu⟩ : ∃ u : D32, sumB [wB8 0] = u.1 := ⟨⟨_, sumB_len _⟩, rfl⟩
 have hu32 := u.2
 first | refine zf ?_ | refine zg ?_
 refine zs (zm rfl ?_)
 refine wl_call rfl (C_qFlush _ hd hSb h4) ?_
 rintro v33 w33 ⟨rfl, ⟨f33, g33⟩⟩
 have s33 := g33.size
 replace hcg := hcg.trans (g33.wide (by omega) (by omega))
 clear hd
 refine wl_nil (zs (zm rfl (zm rfl ?_)))
 refine wl_call rfl (C_r9head _ (by omega) rfl hhb (by omega) (by omega)) ?_
 rintro v36 w36 ⟨A36, ⟨c36, ⟨rfl, ⟨f36, ⟨e36, b36⟩⟩⟩⟩⟩
 have qf36 := f36.cap
 have s36 := b36.size
 replace hcg := hcg.thenB b36
 replace f33 := f33.u b36
 have hcs := hcg.size
 refine wl_call rfl (C_qWrite (r := (Cc, 0)) _ f33 f36.to_RdT.1 hw2 (by decide) (by omega) (by have := f36.cap; omega) (by omega) (fun k hk => hQ k (by omega))) ?_
 rintro _ w37 ⟨rfl, hd37, b37⟩
 have sb37 := b37.size
 replace hcg := hcg.trans (b37.wide (by omega) (by omega))
 clear f33
 clear f36
 refine wl_nil (zs (zm rfl ?_))
 refine wl_call rfl (C_qFlush _ hd37 hS1 hSb4) ?_
 rintro v39 w39 ⟨rfl, ⟨f39, g39⟩⟩
 dsimp only
 have s39 := g39.size
 replace hcg := hcg.trans (g39.wide (by omega) (by omega))
 clear hd37
 refine wl_nil (zs (zm rfl (zm rfl ?_)))
 refine wl_call rfl (C_r8First _ (by omega) (by omega) hu) ?_
 rintro v42 w42 ⟨rfl, b42⟩
 have s42 := b42.size
 replace hcg := hcg.thenB b42
 replace f39 := f39.u b42
 refine zp (o_bldR0 rfl rfl rfl) ?_
 refine wl_boxg _ rfl (by rfl) ?_
 rintro g44 w44 f44 b44 i44 i44_1
 have s44 := b44.size
 replace hcg := hcg.thenB b44
 replace f39 := f39.u b44
 refine za rfl (za rfl (wl_nil ?_))
 refine ret2 rfl rfl rfl ?_
 exact ⟨_, rfl, by rw [show fstB 0 = u.1 from hu]; exact f44, by omega, f39, hcg⟩
end Go.Proofs.YtnnhenafhalobaaGreat
namespace Go.Proofs.YtnnhenafhalobaaGreat
set_option maxRecDepth 100000
open Go.RowKit
theorem overJ_snoc {b p : By} {n : Nat} {v : UInt8} (h : n + p.length < b.length) : (overJ b n p).set (n + p.length) v = overJ b n (p ++ [v]) := by
 apply List.ext_getElem?
 intro i
 rw [overJ_get (by rw [List.length_append, List.length_singleton]; omega), List.getElem?_set, overJ_get (by omega), overJ_len (by omega), List.length_append, List.length_singleton]
 by_cases h1 : n + p.length = i
 ·subst h1
  rw [if_pos rfl, if_pos h, if_neg (by omega), if_pos (by omega), Nat.add_sub_cancel_left, List.getElem?_append_right (Nat.le_refl _), Nat.sub_self]
  rfl
 ·rw [if_neg h1]
  by_cases h2 : i < n
  ·rw [if_pos h2, if_pos h2]
  ·rw [if_neg h2, if_neg h2]
   by_cases h3 : i < n + p.length
   ·rw [if_pos h3, if_pos (by omega), List.getElem?_append_left (by omega)]
   ·rw [if_neg h3, if_neg (by omega)]
theorem kAt_succ {r j : Nat} (hr : r < 256) : kAt r (j + 1) = kAt r j + (256 - (r + kAt r j) % 256) := by
 unfold kAt
 rw [if_neg (by omega)]
 by_cases h : j = 0
 ·subst h; simp only [if_true]; omega
 ·rw [if_neg h, show r + (256 * j - r) = 256 * j by omega, Nat.mul_mod_right]; omega
set_option maxRecDepth 100000 in
set_option maxHeartbeats 4000000 in
theorem K_r9put {Q : Nat → Prop} {lo hi gd g a e e0 n c nl at0 cc : Nat} {s t : Int} {S : List Sec} {C C1 : List (Option Sec)} {L A : Option Addr} {ch bs : By} {z y : Int} (w : World) (hd : RqAt w lo hi Q gd S C) (hQ : ∀ k, w.heap.size ≤ k → Q k) (hB : Blk w g 66 (rJ (some ⟨gd, 0, none⟩) a e0 L nl c s ch t)) (hg : hi ≤ g) (hb : RdB w hi w.heap.size A bs) (hn : n = bs.length) (hz : z = e) (hy : y = at0) (he : e < 18446744073709551616) (ha : 1 ≤ a ∧ a ≤ 256) (hS : 2 + 2 * a ≤ S.length) (hb1 : 1 ≤ bs.length) (hfit : at0 + bs.length ≤ a * 256) (hC1 : appC S C a e at0 bs = C1) :
  CallsR Tryz.prog 67 [.pointer (some ⟨g, 0, none⟩), .int .u64 z, .int .i64 y, .slice A n cc] w fun v w' => v = .tuple #[] ∧ RqAt w' lo hi Q gd S C1 ∧ Chg lo hi w w' := by
 subst hz; subst hn; subst hy
 have hCl := hd.len
 have hSl := hd.n2
 have hml := mod_le a e
 obtain ⟨low, hlow⟩ : ∃ l, at0 / 256 = l := ⟨_, rfl⟩
 obtain ⟨r, hr⟩ : ∃ r, at0 - 256 * low = r := ⟨_, rfl⟩
 have hat : at0 = 256 * low + r := by omega
 have hr256 : r < 256 := by omega
 obtain ⟨M, hM⟩ : ∃ M, (at0 + bs.length - 1) / 256 - low + 1 = M := ⟨_, rfl⟩
 have hM1 : 256 * (low + M) < at0 + bs.length + 256 ∧ at0 + bs.length ≤ 256 * (low + M) := by omega
 obtain ⟨n0, hn0⟩ : ∃ n0, 2 + e % 2 * a = n0 := ⟨_, rfl⟩
 obtain ⟨TA, hTA⟩ : ∃ TA, areaB (cur S C) (n0 + low) M = TA := ⟨_, rfl⟩
 have hnM : n0 + low + M ≤ S.length := by omega
 have hTAl : TA.length = 256 * M := by rw [← hTA]; exact areaB_len (by rw [cur_len]; exact hnM)
 have hrb : r + bs.length ≤ TA.length := by omega
 obtain ⟨TB, hTB⟩ : ∃ TB, overJ TA r bs = TB := ⟨_, rfl⟩
 have hTBl : TB.length = 256 * M := by rw [← hTB, overJ_len hrb, hTAl]
 obtain ⟨SS, hSS⟩ : ∃ SS, secsN M TB = SS := ⟨_, rfl⟩
 have hSSl : SS.length = M := by rw [← hSS, secsN_len]
 have hfin : wrs C (n0 + low) SS = C1 := by rw [← hC1, appC, hlow, hn0, hM, hTA, hr, hTB, hSS]
 have hkl : ∀ j, j < M → kAt r j < bs.length := fun j hj => by unfold kAt; split <;> omega
 refine callsR Tryz.func67 rfl rfl (by kernel_rfl) rfl ?_
 have hcg : Chg lo hi w w := Chg.refl
 refine zs (za rfl (wl_nil (rk_block ?_)))
 refine rk_joinf (fun fb fr W => fr = [] ++ fb.drop 1 ∧ RqAt W lo hi Q gd S C1 ∧ Chg lo hi w W) ?_ (fun ks hj => ?_)
 rotate_left
 ·refine rk_loopf (fun fb m fr W => ∃ (j : Nat) (v : Int) (k : Nat) (D : List (Option Sec)), fr = [(8, .int .i64 v)] ++ fb.drop 1 ∧ v = k ∧ j ≤ M ∧ m = M - j ∧ (j < M ∧ k = kAt r j ∨ j = M ∧ bs.length ≤ k ∧ k ≤ bs.length + 1) ∧ wrs C (n0 + low) (SS.take j) = D ∧ RqAt W lo hi Q gd S D ∧ Blk W g 66 (rJ (some ⟨gd, 0, none⟩) a e0 L nl c s ch t) ∧ RdB W hi w.heap.size A bs ∧ Chg lo hi w W) (n := M) (Fr.le_of (by kernel_rfl) (by kernel_rfl) (by repeat' constructor)) ⟨0, _, 0, C, rfl, rfl, by omega, rfl, .inl ⟨by omega, rfl⟩, by simp [wrs], hd, hB, hb, hcg⟩ ?_
  clear hd hB hb hcg
  rintro m fr W ⟨j, v, k, D, rfl, rfl, hj, rfl, hk, hD, hd, hB, hb, hcg⟩
  have shw := hcg.size
  first | refine zf ?_ | refine zg ?_
  rcases hk with ⟨hjM, hk⟩ | ⟨rfl, hk1, hk2⟩
  ·have hkb := hkl j hjM
   rw [← hk] at hkb
   have hdv : (r + k) / 256 = j := by rw [hk]; unfold kAt; split <;> omega
   obtain ⟨q, hq⟩ : ∃ q, (r + k) % 256 = q := ⟨_, rfl⟩
   have hq256 : q < 256 := by omega
   have hDl := hd.len
   have hcD : (cur S D)[n0 + low + j]? = (cur S C)[n0 + low + j]? := by
    rw [← hD, cur_wrs _ _ _ _ hCl, pts_get _ _ _ _ (by rw [cur_len, List.length_take]; omega), List.length_take, if_neg (by omega)]
   have hag := areaB_get (T := cur S C) (n := n0 + low) (M := M) (j := j) (by rw [cur_len]; exact hnM) hjM
   rw [hTA] at hag
   obtain ⟨x0, hx0⟩ : ∃ x, (TA.drop (256 * j)).take 256 = x := ⟨_, rfl⟩
   have hx0l : x0.length = 256 := by rw [← hx0, List.length_take, List.length_drop]; omega
   have hrd : rdD S D ((n0 + low + j : Nat) : Int) = (x0, 0) := by
    rw [rdD_of (x := (cur S C)[n0 + low + j]'(by rw [cur_len]; omega)) (by rw [hcD, List.getElem?_eq_getElem (by rw [cur_len]; omega)]) hDl, ← hag, hx0]
   have hst := put_step (TA := TA) (bs := bs) (r := r) (j := j) hr256 hrb (hkl j hjM) (by omega)
   rw [← hk, hq, hx0, hTB] at hst
   refine rk_seq (zs (zm rfl (zm rfl ?_)))
   refine zp (o_len (t := 35) Tryz.underlying35 rfl) ?_
   refine zp (o_lt rfl rfl) ?_
   refine wl_nil ?_
   refine rk_if rfl (fun h15 => ?_) (fun h15 => h15.elim (by omega))
   refine rk_skip (rk_seq (rk_block (zs (zm rfl (zm rfl ?_)))))
   refine zp (o_nil rfl) ?_
   refine zp (o_faddr (s := 66) (i := 1) (off := 1) Tryz.underlying66 rfl Tryz.sizeOf3 rfl rfl rfl) ?_
   refine wl_r (o_loadbg Tryz.isAgg3 rfl hB (by rfl)) ?_
   refine wl_call rfl (C_r9first _ rfl rfl hn0 (by omega) (by omega)) ?_
   rintro v23 w23 ⟨rfl, b23⟩
   have s23 := b23.size
   replace hcg := hcg.thenB b23
   replace hb := hb.u b23
   replace hB := hB.u b23
   replace hd := hd.u b23
   refine zm rfl (zm rfl ?_)
   refine zp (o_add rfl rfl (by omega) (by omega)) ?_
   refine zp (o_quo rfl rfl (by omega) (by omega) (by omega)) ?_
   refine zp (o_add rfl rfl (by omega) (by omega)) ?_
   refine za rfl (wl_nil (zs (zm rfl ?_)))
   refine zp (o_nil rfl) ?_
   refine zp (o_faddr (s := 66) (i := 0) (off := 0) Tryz.underlying66 rfl Tryz.sizeOf57 rfl rfl rfl) ?_
   refine wl_r (o_loadbg Tryz.isAgg57 rfl hB (by rfl)) ?_
   refine zm rfl ?_
   rw [show ((n0 : Int) + ((at0 : Int) + k) / 256) = ((n0 + low + j : Nat) : Int) by omega]
   have hcs := hcg.size
   have kp : ∀ V, Below w23.heap.size w23 V → RqAt V lo hi Q gd S D ∧ Blk V g 66 (rJ (some ⟨gd, 0, none⟩) a e0 L nl c s ch t) ∧ Chg lo hi w V := fun V h => ⟨hd.u h, hB.u h, hcg.thenB h⟩
   refine wl_call rfl (K_qReadO (r := (x0, 0)) _ hd hrd (i64_wf (by omega))) ?_
   rintro _ w35 ⟨A35, c35, rfl, f35, b35⟩
   replace hb := hb.u b35
   have hw1 := b35
   clear hd hB hcg b35
   simp only at f35
   refine zm rfl ?_
   refine zp (o_ext20 rfl) ?_
   refine zp (o_ext21 rfl) ?_
   refine za rfl (za rfl (wl_nil (rk_seq (rk_block ?_))))
   have q35 := f35.cap
   refine rk_joinf (fun fb fr V => ∃ (k2 : Nat), fr = [(10, .slice A35 x0.length c35), (9, .int .i64 (n0 + low + j : Nat)), (8, .int .i64 (k2 : Int))] ++ fb.drop 28 ∧ (k2 + 1 = kAt r (j + 1) ∧ kAt r (j + 1) ≤ bs.length ∨ k2 = bs.length ∧ bs.length < kAt r (j + 1)) ∧ OwnH V w23.heap.size w35.heap.size A35 c35 ((TB.drop (256 * j)).take 256) ∧ RdB V hi w.heap.size A bs ∧ Below w23.heap.size w23 V) ?_ (fun ks hj2 => ?_)
   rotate_left
   ·refine rk_loopf (fun fb m fr V => ∃ (k2 tt : Nat) (X : By), fr = [(10, .slice A35 x0.length c35), (9, .int .i64 (n0 + low + j : Nat)), (8, .int .i64 (k2 : Int))] ++ fb.drop 28 ∧ k2 = k + tt ∧ tt + q < 256 ∧ k2 ≤ bs.length ∧ m = bs.length - k2 ∧ overJ x0 q ((bs.drop k).take tt) = X ∧ OwnH V w23.heap.size w35.heap.size A35 c35 X ∧ RdB V hi w.heap.size A bs ∧ Below w23.heap.size w23 V) (n := bs.length - k) (Fr.le_of (by kernel_rfl) (by kernel_rfl) (by repeat' constructor)) ⟨k, 0, x0, rfl, rfl, by omega, by omega, rfl, by simp [overJ], f35, hb, hw1⟩ ?_
    clear f35 hb hw1
    rintro m fr V ⟨k2, tt, X, rfl, hk2, htq, hkb2, rfl, hX, f35, hb, hw1⟩
    have shv := hw1.size
    have hXl : X.length = x0.length := by rw [← hX, overJ_len (by rw [List.length_take, List.length_drop]; omega)]
    first | refine zf ?_ | refine zg ?_
    by_cases hkl2 : k2 < bs.length
    ·have htl : ((bs.drop k).take tt).length = tt := by rw [List.length_take, List.length_drop]; omega
     have hix : (at0 + k2) % 256 = q + ((bs.drop k).take tt).length := by rw [htl]; omega
     have hX2 : X.set ((at0 + k2) % 256) bs[k2] = overJ x0 q ((bs.drop k).take (tt + 1)) := by
      rw [hix, ← hX, overJ_snoc (by omega), List.take_succ_eq_append_getElem (by rw [List.length_drop]; omega), List.getElem_drop]
      congr 3
      simp [hk2]
     by_cases hbr : tt + 1 + q = 256
     ·refine rk_seq ?_
      refine zs (zm rfl (zm rfl ?_))
      refine zp (o_len (t := 35) Tryz.underlying35 rfl) ?_
      refine zp (o_lt rfl rfl) ?_
      refine wl_nil ?_
      refine rk_if rfl (fun h41 => ?_) (fun h41 => h41.elim (by omega))
      refine rk_skip (rk_seq (rk_block (zs (zm rfl (zm rfl (zm rfl ?_))))))
      refine zp (o_add rfl rfl (by omega) (by omega)) ?_
      refine zp (o_rem rfl rfl (by omega) (by omega)) ?_
      refine zm rfl (zm rfl ?_)
      refine zp (o_iaddrA1 (k2) Tryz.underlying35 Tryz.sizeOf5 rfl rfl rfl (Reads.some_ hb.to_Reads (by decide) (by omega)) (by omega)) ?_
      refine wl_r (o_loadB Tryz.isAgg5 rfl hb.to_Rd (by omega)) ?_
      refine zp (o_iaddrA1 ((at0 + k2) % 256) Tryz.underlying35 Tryz.sizeOf5 rfl rfl (by omega) (f35.some_ (by omega)) (by omega)) ?_
      refine wl_stO Tryz.sizeOf5 rfl f35 rfl (by omega) ?_
      rintro w_1 f g_1 b e_1
      have qf := f.cap
      have s_1 := g_1.size
      replace hw1 := hw1.trans (b.mono (by omega))
      replace hb := hb.k g_1.g (f.ap (by omega))
      clear f35
      refine wl_nil (zs (zm rfl (zm rfl ?_)))
      refine zp (o_add rfl rfl (by omega) (by omega)) ?_
      refine zp (o_add rfl rfl (by omega) (by omega)) ?_
      refine zp (o_rem rfl rfl (by omega) (by omega)) ?_
      refine zp (o_eq rfl rfl) ?_
      refine wl_nil ?_
      refine rk_if rfl (fun h59 => ?_) (fun h59 => h59.elim (by omega))
      refine rk_exit rfl ?_
      rw [hX2, show tt + 1 = 256 - q by omega, hst] at f
      exact rk_tof hj2 (Fr.le_of (by kernel_rfl) (by kernel_rfl) (by repeat' constructor)) ⟨k2, rfl, .inl ⟨by rw [kAt_succ hr256, ← hk, hq]; omega, by rw [kAt_succ hr256, ← hk, hq]; omega⟩, f, hb, hw1⟩
     ·refine rk_seq ?_
      refine zs (zm rfl (zm rfl ?_))
      refine zp (o_len (t := 35) Tryz.underlying35 rfl) ?_
      refine zp (o_lt rfl rfl) ?_
      refine wl_nil ?_
      refine rk_if rfl (fun h41 => ?_) (fun h41 => h41.elim (by omega))
      refine rk_skip (rk_seq (rk_block (zs (zm rfl (zm rfl (zm rfl ?_))))))
      refine zp (o_add rfl rfl (by omega) (by omega)) ?_
      refine zp (o_rem rfl rfl (by omega) (by omega)) ?_
      refine zm rfl (zm rfl ?_)
      refine zp (o_iaddrA1 (k2) Tryz.underlying35 Tryz.sizeOf5 rfl rfl rfl (Reads.some_ hb.to_Reads (by decide) (by omega)) (by omega)) ?_
      refine wl_r (o_loadB Tryz.isAgg5 rfl hb.to_Rd (by omega)) ?_
      refine zp (o_iaddrA1 ((at0 + k2) % 256) Tryz.underlying35 Tryz.sizeOf5 rfl rfl (by omega) (f35.some_ (by omega)) (by omega)) ?_
      refine wl_stO Tryz.sizeOf5 rfl f35 rfl (by omega) ?_
      rintro w_1 f g_1 b e_1
      have qf := f.cap
      have s_1 := g_1.size
      replace hw1 := hw1.trans (b.mono (by omega))
      replace hb := hb.k g_1.g (f.ap (by omega))
      clear f35
      refine wl_nil (zs (zm rfl (zm rfl ?_)))
      refine zp (o_add rfl rfl (by omega) (by omega)) ?_
      refine zp (o_add rfl rfl (by omega) (by omega)) ?_
      refine zp (o_rem rfl rfl (by omega) (by omega)) ?_
      refine zp (o_eq rfl rfl) ?_
      refine wl_nil ?_
      refine rk_if rfl (fun h59 => absurd h59 (by omega)) (fun h59 => ?_)
      refine rk_skip ?_
      refine rk_blk ?_
      refine rk_region (zm rfl ?_)
      refine zp (o_add rfl rfl (by omega) (by omega)) ?_
      refine za rfl (wl_nil ?_)
      rw [hX2] at f
      exact rk_againf (Fr.le_of (by kernel_rfl) (by kernel_rfl) (by repeat' constructor)) ⟨k2 + 1, tt + 1, _, rfl, by omega, by omega, by omega, rfl, rfl, f, hb, hw1⟩ (by omega)
    ·refine rk_seq ?_
     refine zs (zm rfl (zm rfl ?_))
     refine zp (o_len (t := 35) Tryz.underlying35 rfl) ?_
     refine zp (o_lt rfl rfl) ?_
     refine wl_nil ?_
     refine rk_if rfl (fun h41 => absurd h41 (by omega)) (fun h41 => ?_)
     refine rk_exit rfl ?_
     have hX3 : X = (TB.drop (256 * j)).take 256 := by
      rw [← hX, ← hst]
      congr 1
      rw [List.take_of_length_le (by rw [List.length_drop]; omega), List.take_of_length_le (by rw [List.length_drop]; omega)]
     rw [hX3] at f35
     exact rk_tof hj2 (Fr.le_of (by kernel_rfl) (by kernel_rfl) (by repeat' constructor)) ⟨k2, rfl, .inr ⟨by omega, by rw [kAt_succ hr256, ← hk, hq]; omega⟩, f35, hb, hw1⟩
   clear f35 hb hw1
   rintro fr V ⟨k2, rfl, hk2, f35, hb, hw1⟩
   have shv := hw1.size
   obtain ⟨hd, hB, hcg⟩ := kp V hw1
   have scv := hcg.size
   obtain ⟨X, hX⟩ : ∃ X, (TB.drop (256 * j)).take 256 = X := ⟨_, rfl⟩
   have hXl : X.length = 256 := by rw [← hX, List.length_take, List.length_drop]; omega
   rw [hX] at f35
   have hSj : SS[j]'(by omega) = ⟨X, hXl⟩ := by
    subst hSS
    rw [secsN_get _ _ _ hjM]
    apply Subtype.ext
    rw [hX]
    exact secOf_val hXl
   obtain ⟨D2, hD2⟩ : ∃ D2, wrs C (n0 + low) (SS.take (j + 1)) = D2 := ⟨_, rfl⟩
   have hw3 : wrC S D ((n0 + low + j : Nat) : Int) X = (D2, 0) := by
    rw [wrC_ok (by omega) hXl, secsN_one hXl, ← hD2, wrs_take_succ (by omega), hD, hSj]
    rfl
   refine rk_region (zm rfl ?_)
   refine zp (o_nil rfl) ?_
   refine zp (o_faddr (s := 66) (i := 0) (off := 0) Tryz.underlying66 rfl Tryz.sizeOf57 rfl rfl rfl) ?_
   refine wl_r (o_loadbg Tryz.isAgg57 rfl hB (by rfl)) ?_
   refine zm rfl (zm rfl ?_)
   refine wl_call rfl (C_qWrite (r := (D2, 0)) _ hd f35.to_RdT.1 hw3 (i64_wf (by omega)) (by omega) (by omega) (by omega) (fun k hk => hQ k (by omega))) ?_
   rintro _ w66 ⟨rfl, hd66, b66⟩
   have sb66 := b66.size
   replace hcg := hcg.trans (b66.wide (by omega) (by omega))
   replace hB := hB.c b66 (by omega)
   replace hb := hb.c b66 (by omega)
   clear f35
   clear hd
   clear hw1 kp
   refine wl_nil ?_
   refine rk_blk ?_
   refine rk_region (zm rfl ?_)
   refine zp (o_add rfl rfl (by omega) (by omega)) ?_
   refine za rfl (wl_nil ?_)
   have hkM : kAt r M = 256 * M - r := by unfold kAt; rw [if_neg (by omega)]
   refine rk_againf (Fr.le_of (by kernel_rfl) (by kernel_rfl) (by repeat' constructor)) ⟨j + 1, (k2 : Int) + 1, k2 + 1, D2, rfl, by omega, by omega, rfl, ?_, hD2, hd66, hB, hb, hcg⟩ (by omega)
   by_cases hjj : j + 1 < M
   ·have h4 := hkl (j + 1) hjj
    rcases hk2 with ⟨h5, h6⟩ | ⟨h5, h6⟩
    ·exact .inl ⟨hjj, h5⟩
    ·omega
   ·have e : j + 1 = M := by omega
    rw [e] at hk2
    refine .inr ⟨e, ?_⟩
    rcases hk2 with ⟨h5, h6⟩ | ⟨h5, h6⟩
    ·omega
    ·omega
  ·refine rk_seq ?_
   refine zs (zm rfl (zm rfl ?_))
   refine zp (o_len (t := 35) Tryz.underlying35 rfl) ?_
   refine zp (o_lt rfl rfl) ?_
   refine wl_nil ?_
   refine rk_if rfl (fun h15 => absurd h15 (by omega)) (fun h15 => ?_)
   refine rk_exit rfl ?_
   rw [List.take_of_length_le (by omega)] at hD
   obtain rfl : D = C1 := hD.symm.trans hfin
   exact rk_tof hj (Fr.le_of (by kernel_rfl) (by kernel_rfl) (by repeat' constructor)) ⟨rfl, hd, hcg⟩
 clear hd hB hb hcg
 rintro fr W ⟨rfl, hd, hcg⟩
 first | refine zf ?_ | refine zg ?_
 refine end0 rfl ?_
 exact ⟨rfl, hd, hcg⟩
end Go.Proofs.YtnnhenafhalobaaGreat
namespace Go.Proofs.YtnnhenafhalobaaGreat
set_option maxRecDepth 100000
open Go.RowKit
structure RJt (w : World) (fl fh : Nat) (X : Nat → Prop) (fg rg : Nat) (S : List Sec) (C : List (Option Sec)) (a e : Nat) (R : List Rc) (s : Nat) : Prop where
 ex : ∃ (L : Option Addr) (c : Nat), Blk w rg 66 (rJ (some ⟨fg, 0, none⟩) a e L R.length c s (chainAll (fstB e) R) (szR R)) ∧ RRq X w L R ∧ R.length ≤ c
 dk : RqAt w fl fh X fg S C
 hX : ∀ k, X k → k ≠ rg ∧ fh ≤ k
 hg : fh ≤ rg
structure RCh (fl fh rg : Nat) (w w' : World) : Prop where
 os : w'.os = w.os
 tape : w'.tape = w.tape
 output : w'.output = w.output
 size : w.heap.size ≤ w'.heap.size
 block : ∀ k, k < w.heap.size → (k < fl ∨ fh ≤ k) → k ≠ rg → w'.heap[k]? = w.heap[k]?
section
variable {w w' w'' : World} {fl fh fg rg a e s : Nat} {X : Nat → Prop} {S : List Sec} {C : List (Option Sec)} {R : List Rc}
theorem RCh.of_chg (h : Chg fl fh w w') : RCh fl fh rg w w' := ⟨h.os, h.tape, h.output, h.size, fun k hk ha _ => h.block k hk ha⟩
theorem RCh.of_below (h : Below w.heap.size w w') : RCh fl fh rg w w' := ⟨h.os, h.tape, h.output, h.size, fun k hk _ _ => h.block k hk⟩
theorem RCh.of_self {t : TypeId} (h : Grew w w' t (some rg)) : RCh fl fh rg w w' := ⟨h.g.os, h.g.tape, h.g.output, h.g.size, fun k hk _ hn => h.g.block k hk (fun e => hn (by injection e))⟩
theorem RCh.trans (h : RCh fl fh rg w w') (k : RCh fl fh rg w' w'') : RCh fl fh rg w w'' :=
 ⟨k.os.trans h.os, k.tape.trans h.tape, k.output.trans h.output, Nat.le_trans h.size k.size, fun i hi ha hn => (k.block i (Nat.lt_of_lt_of_le hi h.size) ha hn).trans (h.block i hi ha hn)⟩
theorem RCh.thenB {B : Nat} (h : RCh fl fh rg w w') (b : Below B w' w'') (hB : w.heap.size ≤ B) : RCh fl fh rg w w'' :=
 ⟨b.os.trans h.os, b.tape.trans h.tape, b.output.trans h.output, Nat.le_trans h.size b.size, fun i hi ha hn => (b.block i (by omega)).trans (h.block i hi ha hn)⟩
theorem RCh.below {B : Nat} (h : RCh fl fh rg w w') (hB : B ≤ w.heap.size) (h1 : B ≤ fl) (h2 : B ≤ rg) : Below B w w' := ⟨h.os, h.tape, h.output, h.size, fun k hk => h.block k (by omega) (.inl (by omega)) (by omega)⟩
theorem RJt.keep (h : RJt w fl fh X fg rg S C a e R s) (hk : ∀ k, (fl ≤ k ∧ k < fh ∨ X k ∨ k = rg) → k < w.heap.size → w'.heap[k]? = w.heap[k]?) (hs : w.heap.size ≤ w'.heap.size) : RJt w' fl fh X fg rg S C a e R s := by
 obtain ⟨L, c, h1, h2, h3⟩ := h.ex
 exact ⟨⟨L, c, (hk rg (.inr (.inr rfl)) h1.lt).trans h1, h2.keep (fun k hx hl => hk k (.inr (.inl hx)) hl), h3⟩, h.dk.keep (fun k a b c => hk k (b.imp (fun b => ⟨a, b⟩) .inl) c) hs, h.hX, h.hg⟩
theorem RJt.u (h : RJt w fl fh X fg rg S C a e R s) (hb : Below w.heap.size w w') : RJt w' fl fh X fg rg S C a e R s := h.keep (fun k _ hl => hb.block k hl) hb.size
theorem RJt.lt (h : RJt w fl fh X fg rg S C a e R s) : rg < w.heap.size := by
 obtain ⟨L, c, h1, _⟩ := h.ex
 exact h1.lt
end
theorem szR_snoc : ∀ (R : List Rc) (r : Rc), szR (R ++ [r]) = szR R + ((bodyB r).length + 8)
 | [], r => by simp [szR]
 | a :: R, r => by
  have := szR_snoc R r
  simp only [List.cons_append, szR, this]
  omega
section
variable {fn : Func} {F : Ending → World → Prop} {N : Nat} {ks : List K} {ops : Array Oper} {tg : Tags} {l : List Oper} {fr : Fr} {w w0 : World} {ty : TypeId} {pos : String} {aft : Array Edge} {gd : Option (Nat × Bool)} {d j q lo hi : Nat} {x y : Operand} {A B : Option Addr} {M : List Rc}
theorem wl_litRecQ0 (X : Nat → Prop) {ps : Array (Nat × Operand)} (hps : ps = #[]) (hk : ∀ A w', OwnRecX X w' w.heap.size w'.heap.size A 0 [] → Below w.heap.size w w' → WL Tryz.prog fn F N ks ops tg.tail l ((d, .slice A 0 0) :: fr) w')
  (ht : tg.loud = true := by rfl) (hg : onG ops fr gd = true := by rfl) (hd : Nat.blt d N = true := by rfl) : WL Tryz.prog fn F N ks ops tg (⟨some d, .buildSlice 44 0 ps, ty, pos, aft, gd⟩ :: l) fr w := by
 subst hps
 exact wl_litS (X := gRecX X) (L := []) (xs := []) (vs := []) Tryz.rowRec Tryz.sizeOf37 Tryz.zeroValue37 rfl rfl rfl rfl rfl (fun i h => absurd h (Nat.not_lt_zero _)) rfl hk ht hg hd
theorem wl_appRecQ0 {X : Nat → Prop} (hx : fr.ev x = some (.slice A 0 0)) (hown : OwnRecX X w lo hi A 0 []) (hy : fr.ev y = some (.slice B j q)) (hr : RRq X w B M) (hj : j = M.length) (hlen : M.length ≤ 1000000) (hB : lo ≤ w.heap.size)
  (h : ∀ A' c' w', OwnRecX X w' lo w'.heap.size A' c' M → Below w.heap.size w w' → WL Tryz.prog fn F N ks ops tg.tail l ((d, .slice A' M.length c') :: fr) w')
  (ht : tg.loud = true := by rfl) (hg : onG ops fr gd = true := by rfl) (hd : Nat.blt d N = true := by rfl) :
  WL Tryz.prog fn F N ks ops tg (⟨some d, .call { callee := .builtin .append, args := #[x, y], argTypes := #[44, 44] }, ty, pos, aft, gd⟩ :: l) fr w := by
 subst hj
 obtain ⟨xs, g1, g2⟩ := hown
 obtain ⟨ms, r1, _, r2⟩ := hr.r
 have hx0 : xs = [] := List.length_eq_zero_iff.1 (by have := g1.rd.1; simpa using this)
 subst hx0
 have hl : ms.length = M.length * 2 := r1.1
 exact wl_appR0 Tryz.rowRec hx g1 hy r1 (part_one (X := gRecX X) (show 0 < 2 by decide) r1.1 r2 gRecX_one) (by simp only [maxLen]; omega) (by have := Nat.mul_le_mul_right 32 hlen; omega) hB (fun A' c' w' k1 k2 => h A' c' w' ⟨ms, k1, fun i hi => (gRecX X).tu (r2 i hi) k2⟩ k2) ht hg hd
end
theorem ch_len (e : Nat) (R : List Rc) : (chainAll (fstB e) R).length = 32 := chainAll_len (fst_len e) _
theorem C_r9Left {g : Nat} {d L : Option Addr} {a t s z : Int} {e n c : Nat} {ch : By} (w : World) (hB : Blk w g 66 (rJ d a e L n c s ch t)) (hch : ch.length = 32) (hz : a * 256 - t = z) (ha : 0 ≤ a ∧ a ≤ 256) (ht : 0 ≤ t ∧ t ≤ 100000) :
  CallsR Tryz.prog 35 [.pointer (some ⟨g, 0, none⟩)] w fun v w' => v = .int .i64 z ∧ Below w.heap.size w w' := by
 subst hz
 refine callsR Tryz.func35 rfl rfl (by kernel_rfl) rfl ?_
 have hw := Below.refl w.heap.size w
 refine zs (za rfl (wl_nil (rk_seq ?_)))
 refine rk_draw (id := 1) (none) [0, 1, 2, 4, 8, 0, 32, 64, 128, 272, 1023] [0, 1, 3, 7, 15, 0, 32, 96, 224, 511, 1023] 0 0 [(.p, 0), (.p, 1), (.p, 2), (.r, 3), (.p, 4), (.p, 5), (.p, 6), (.p, 7), (.r, 8), (.p, 9), (.p, 10)] (by kernel_rfl) (by kernel_rfl) (by kernel_rfl) (by kernel_rfl) (by kernel_rfl) ?_
 replace hw := hw.drew
 refine zm rfl ?_
 refine zp (o_nil rfl) ?_
 refine zp (o_faddr (s := 66) (i := 1) (off := 1) Tryz.underlying66 rfl Tryz.sizeOf3 rfl rfl rfl) ?_
 refine wl_r (o_loadbg Tryz.isAgg3 rfl (hB.u hw) (by rfl)) ?_
 refine zp (o_mul rfl rfl (by omega) (by omega)) ?_
 refine zm rfl ?_
 refine zp (o_nil rfl) ?_
 refine zp (o_faddr (s := 66) (i := 6) (off := 37) Tryz.underlying66 rfl Tryz.sizeOf3 rfl rfl rfl) ?_
 refine wl_r (o_ldRt rfl (hB.u hw) hch) ?_
 refine zp (o_sub rfl rfl (by omega) (by omega)) ?_
 refine za rfl ?_
 refine wl_nild ?_
 refine ret1 rfl rfl ?_
 exact ⟨rfl, hw⟩
theorem K_r9Sync {fl fh fg rg a e s : Nat} {X : Nat → Prop} {S S0 : List Sec} {C C0 : List (Option Sec)} {R : List Rc} (w : World) (h : RJt w fl fh X fg rg S C a e R s) (hS0 : cur S C = S0) (hC0 : List.replicate S.length none = C0) :
  CallsR Tryz.prog 31 [.pointer (some ⟨rg, 0, none⟩)] w fun v w' => v = .int .i64 0 ∧ RJt w' fl fh X fg rg S0 C0 a e R R.length ∧ RCh fl fh rg w w' := by
 obtain ⟨L, c, hB, hR, hc⟩ := h.ex
 have hd := h.dk
 have hg := h.hg
 have hX := h.hX
 have hch := ch_len e R
 have kR : ∀ W, Chg fl fh w W → RRq X W L R := fun W h => hR.keep (fun k hx hl => h.block k hl (.inr (hX k hx).2))
 clear hR
 refine callsR Tryz.func31 rfl rfl (by kernel_rfl) rfl ?_
 have hcg : Chg fl fh w w := Chg.refl
 refine zs (za rfl (wl_nil (zs (zm rfl ?_))))
 refine zp (o_nil rfl) ?_
 refine zp (o_faddr (s := 66) (i := 0) (off := 0) Tryz.underlying66 rfl Tryz.sizeOf57 rfl rfl rfl) ?_
 refine wl_r (o_loadbg Tryz.isAgg57 rfl hB (by rfl)) ?_
 refine wl_call rfl (C_qFlush _ hd hS0 hC0) ?_
 rintro v7 w7 ⟨rfl, ⟨f7, g7⟩⟩
 have s7 := g7.size
 replace hcg := hcg.trans (g7.wide (by omega) (by omega))
 replace hB := hB.c g7 (by omega)
 clear hd
 clear h
 refine wl_nil ?_
 have hR7 := kR _ hcg
 have k7 : ∀ W, Grew w7 W 66 (some rg) → RRq X W L R ∧ RCh fl fh rg w W := fun W g => ⟨hR7.keep (fun k hx hl => g.g.block k hl (fun e => (hX k hx).1 (by injection e))), (RCh.of_chg hcg).trans (RCh.of_self g)⟩
 clear hcg hR7
 have hcg : Chg 0 w7.heap.size w7 w7 := Chg.refl
 refine zs (zm rfl (zm rfl ?_))
 refine zp (o_nil rfl) ?_
 refine zp (o_faddr (s := 66) (i := 3) (off := 3) Tryz.underlying66 rfl Tryz.sizeOf44 rfl rfl rfl) ?_
 refine wl_r (o_loadbg Tryz.isAgg44 rfl hB (by rfl)) ?_
 refine zp (o_len (t := 44) Tryz.underlying44 rfl) ?_
 refine zp (o_nil rfl) ?_
 refine zp (o_faddr (s := 66) (i := 4) (off := 4) Tryz.underlying66 rfl Tryz.sizeOf3 rfl rfl rfl) ?_
 refine wl_stRs rfl hB rfl hch ?_
 rintro w_1 f g e_1
 have s_1 := g.size
 replace f7 := f7.y g (by decide)
 clear hB
 have hG : Grew w7 w_1 66 (some rg) := by assumption
 obtain ⟨hR9, hC9⟩ := k7 _ hG
 refine wl_nil (zs (za rfl (wl_nil ?_)))
 refine ret1 rfl rfl ?_
 exact ⟨rfl, ⟨⟨L, c, f, hR9, hc⟩, f7, hX, hg⟩, hC9⟩
set_option maxRecDepth 100000 in
set_option maxHeartbeats 4000000 in
theorem K_r9Append {fl fh fg rg a e s n m : Nat} {A : Option Addr} {X : Nat → Prop} {S : List Sec} {C C1 : List (Option Sec)} {R : List Rc} {p bs : By} {kd : UInt8} {x : Int} {w0 : World} (w : World) (h : RJt w fl fh X fg rg S C a e R s) (hQ : ∀ k, w.heap.size ≤ k → X k) (hp : Rd w0 A p) (hb0 : Below w0.heap.size w0 w) (h0 : w0.heap.size ≤ fl) (hkd : x = (kd.toNat : Int)) (hn : n = p.length) (hm : p.length ≤ m) (hO : OkR (kd, p)) (hl : p.length ≤ 3500) (hbs : bytesR (chainAll (fstB e) R) (kd, p) = bs) (hC1 : appC S C a e (szR R) bs = C1) (hfit : szR R + bs.length ≤ a * 256) (ha : 1 ≤ a ∧ a ≤ 256) (he : e < 18446744073709551616) (hS : 2 + 2 * a ≤ S.length) (hRl : R.length ≤ 65536) :
  CallsR Tryz.prog 30 [.pointer (some ⟨rg, 0, none⟩), .agg #[.int .u8 x, .slice A n m]] w fun v w' => v = .int .i64 0 ∧ RJt w' fl fh X fg rg S C1 a e (R ++ [(kd, p)]) s ∧ RCh fl fh rg w w' := by
 subst hn
 obtain ⟨L, c, hB, hR, hc⟩ := h.ex
 have hd := h.dk
 have hg := h.hg
 have hX := h.hX
 have hch := ch_len e R
 obtain ⟨nx, hnx⟩ : ∃ y, nextB (chainAll (fstB e) R) (kd, p) = y := ⟨_, rfl⟩
 have hn32 : nx.length = 32 := by rw [← hnx]; exact nextB_len _ _
 have hp1 := hp.u hb0
 obtain ⟨chn, hchn⟩ : ∃ c, chainAll (fstB e) R = c := ⟨_, rfl⟩
 rw [hchn] at hB hbs hnx hch
 have hb9 : 9 ≤ bs.length := by
  rw [← hbs, bytesR_len, bodyB, List.length_append, List.length_singleton]; omega
 refine callsR Tryz.func30 rfl rfl (by kernel_rfl) rfl ?_
 have hw := Below.refl w.heap.size w
 refine zs ?_
 refine wl_boxg [_, _] rfl (by rfl) ?_
 rintro g3 w3 f3 b3 i3 i3_1
 have s3 := b3.size
 replace hw := hw.trans (b3.mono hw.size)
 refine za rfl (wl_nil (rk_seq ?_))
 refine rk_drawo (id := 1) (none) [0, 1, 2, 4, 0, 24, 32, 64, 64, 64, 0, 1279, 3583, 8191] [0, 1, 3, 7, 0, 31, 63, 127, 127, 127, 0, 1279, 3583, 8191] 5152 1024 [0, 1, 2, 3, 4] [(.p, 0), (.p, 1), (.p, 2), (.s, 3), (.s, 4), (.f 31 5152 1024, 9)] (by kernel_rfl) (by kernel_rfl) (by kernel_rfl) (by kernel_rfl) (by kernel_rfl) ?_
 dsimp only [inOrder, nthOp]
 replace hw := hw.drew
 replace f3 := f3.d
 refine zm rfl ?_
 refine zp (o_nil rfl) ?_
 refine zp (o_faddr (s := 66) (i := 5) (off := 5) Tryz.underlying66 rfl Tryz.sizeOf64 rfl rfl rfl) ?_
 refine wl_s (fun _ hk => (o_ldRch rfl ((hB.u hw).u (below_of_grown_none hk)) hch)) ?_
 refine wl_s (fun _ hk => (o_loadag Tryz.isAgg37 Tryz.sizeOf37 rfl (f3.u (below_of_grown_none hk)) (by rfl))) ?_
 refine wl_conc [⟨5, [(.p, 6), (.p, 7), (.p, 8), (.p, 9)], [17, 16, 15, 8, 14], [], fun vs w' lo hi => ∃ (A14 : Option Addr) (c14 : Nat) (u8 u14 : Value), vs = [.int .i64 0, .agg (B8 nx).toArray, .slice A14 bs.length c14, u8, u14] ∧ OwnH w' lo hi A14 c14 bs⟩, ⟨10, [], [6], [], fun vs w' lo hi => ∃ (g6 : Nat), vs = [.pointer (some ⟨g6, 0, none⟩)] ∧ Blk w' g6 64 (B8 nul32) ∧ lo ≤ g6 ∧ g6 < hi⟩] [0, 1] [0, 1, 2, 4, 0, 24, 32, 64, 64, 64, 0, 1279, 3583, 8191] [0, 1, 3, 7, 0, 31, 63, 127, 127, 127, 0, 1279, 3583, 8191] [11, 12, 13] [(.p, 11), (.l, 12), (.p, 13)] (by kernel_rfl) (by kernel_rfl) (by kernel_rfl) (by kernel_rfl) ⟨fun _ _ _ _ _ h hb => by obtain ⟨A14, c14, u8, u14, e0, g0⟩ := h; exact ⟨A14, c14, u8, u14, e0, g0.u hb⟩, fun _ _ _ _ _ h hb => by obtain ⟨g6, e0, g0, g1, g2⟩ := h; exact ⟨g6, e0, g0.u hb, g1, g2⟩, trivial⟩ ⟨?_, ?_, trivial⟩ ?_
 ·intro wI hbI fo T T2 n2
  intro hk
  dsimp only [Item.idx, inOrder, nthOp, List.map, List.zip_cons_cons, List.zip_nil_right, List.cons_append, List.nil_append]
  have shbI := hbI.size
  simp only [drew_size] at shbI
  replace hw := hw.trans (hbI.mono hw.size)
  replace f3 := f3.u hbI
  have hw1 := Below.refl wI.heap.size wI
  refine wl_call rfl (C_r8BytesOk _ hkd (hp1.u hw) (by omega) hbs hnx rfl (by omega) hch) ?_
  rintro v14 w14 ⟨A14, ⟨c14, ⟨rfl, ⟨f14, b14⟩⟩⟩⟩
  have qf14 := f14.cap
  have s14 := b14.size
  replace hw := hw.trans (b14.mono hw.size)
  replace hw1 := hw1.trans (b14.mono hw1.size)
  replace f3 := f3.u b14
  refine zm rfl ?_
  refine zp (o_ext30 rfl) ?_
  refine zp (o_ext31 rfl) ?_
  refine zp (o_ext32 rfl) ?_
  exact hk [_, _, _, _, _] _ ⟨_, _, _, _, rfl, f14⟩ hw1
 ·intro wI hbI fo T T2 n2
  intro hk
  dsimp only [Item.idx, inOrder, nthOp, List.map, List.zip_cons_cons, List.zip_nil_right, List.cons_append, List.nil_append]
  have shbI := hbI.size
  simp only [drew_size] at shbI
  replace hw := hw.trans (hbI.mono hw.size)
  replace f3 := f3.u hbI
  have hw1 := Below.refl wI.heap.size wI
  refine wl_allocB Tryz.underlying64 Tryz.zeroValue64 (by rfl) ?_
  rintro g6 w6 f6 b6 i6 i6_1
  have s6 := b6.size
  replace hw := hw.trans (b6.mono hw.size)
  replace hw1 := hw1.trans (b6.mono hw1.size)
  replace f3 := f3.u b6
  exact hk [_] _ ⟨_, rfl, f6, by omega, by omega⟩ hw1
 intro wE hbE
 rintro _ lo0 hi0 ⟨A14, c14, u8, u14, rfl, f14⟩ ql0 qm0 qh0 -
 rintro _ lo1 hi1 ⟨g6, rfl, f6, f6_1, f6_2⟩ ql1 qm1 qh1 ⟨qa1_0, -⟩
 try dsimp only at ql0 qm0 qh0  ql1 qm1 qh1 qa1_0
 try simp only [drew_size] at ql0 qm0 qh0  ql1 qm1 qh1 qa1_0
 dsimp only [given, Item.idx, inOrder, nthOp, List.map, List.zip_cons_cons, List.zip_nil_right]
 have shbE := hbE.size
 simp only [drew_size] at shbE
 replace hw := hw.trans (hbE.mono hw.size)
 replace f3 := f3.u hbE
 refine za rfl ?_
 refine wl_stBa Tryz.sizeOf64 rfl f6 rfl hn32 (by rfl) ?_
 rintro w_1 f g e_1
 have s_1 := g.size
 replace hw := hw.trans (below_of_grownBy g.g hw.size (by omega))
 replace f3 := f3.k g.g (ap_some (by omega))
 replace f14 := f14.k g.g (ap_some (by omega))
 clear f6
 refine za rfl ?_
 refine wl_nild ?_
 refine rk_seq (zs (zm rfl ?_))
 refine zp (o_ne rfl rfl) ?_
 refine wl_nil ?_
 refine rk_false rfl ?_
 refine rk_skip (rk_seq (zs (zm rfl ?_)))
 refine zp (o_len (t := 35) Tryz.underlying35 rfl) ?_
 refine zm rfl ?_
 refine wl_call rfl (C_r9Left _ (hB.u hw) hch (by rfl) (by omega) (by omega)) ?_
 rintro v24 w24 ⟨rfl, b24⟩
 have s24 := b24.size
 replace hw := hw.trans (b24.mono hw.size)
 replace f14 := f14.u b24
 replace f3 := f3.u b24
 replace f := f.u b24
 refine zp (o_gt rfl rfl) ?_
 refine wl_nil ?_
 refine rk_if rfl (fun h25 => absurd h25 (by omega)) (fun h25 => ?_)
 refine rk_skip (rk_seq ?_)
 refine rk_draw (id := 6) (none) [0, 0, 2, 4, 8, 0, 32, 64, 128, 0, 785] [0, 0, 2, 6, 14, 0, 32, 96, 224, 0, 1023] 1024 0 [(.p, 0), (.p, 1), (.p, 2), (.p, 3), (.r, 4), (.p, 5), (.p, 6), (.p, 7), (.r, 8), (.p, 9), (.l, 10)] (by kernel_rfl) (by kernel_rfl) (by kernel_rfl) (by kernel_rfl) (by kernel_rfl) ?_
 replace hw := hw.drew
 replace f := f.d
 replace f3 := f3.d
 replace f14 := f14.d
 refine zm rfl (zm rfl ?_)
 refine zp (o_nil rfl) ?_
 refine zp (o_faddr (s := 66) (i := 2) (off := 2) Tryz.underlying66 rfl Tryz.sizeOf52 rfl rfl rfl) ?_
 refine wl_r (o_loadbg Tryz.isAgg52 rfl (hB.u hw) (by rfl)) ?_
 refine zm rfl ?_
 refine zp (o_nil rfl) ?_
 refine zp (o_faddr (s := 66) (i := 6) (off := 37) Tryz.underlying66 rfl Tryz.sizeOf3 rfl rfl rfl) ?_
 refine wl_r (o_ldRt rfl (hB.u hw) hch) ?_
 refine zm rfl ?_
 have s24 := hw.size
 have hdh := hd.hi
 simp only [drew_size] at s24
 have kR : ∀ W, Chg fl fh w W → RRq X W L R := fun W h => hR.keep (fun k hx hl => h.block k hl (.inr (hX k hx).2))
 have kp : ∀ W, Chg fl fh w W → Rd W A p := fun W h => hp.u (hb0.trans (h.below hb0.size h0))
 have hBw := hB.u hw
 refine wl_call rfl (K_r9put (bs := bs) _ (hd.u hw) (fun k hk => hQ k (by simp only [drew_size] at hk; omega)) hBw hg (f14.top.rdB.base (by omega) (Nat.le_refl _)) rfl rfl rfl he ha hS (by omega) hfit hC1) ?_
 rintro _ w36 ⟨rfl, hd36, b36⟩
 have hcg := (Chg.of_below hw : Chg fl fh w _).trans b36
 replace hB := hBw.c b36 (.inr hg)
 replace f := f.c b36 (.inr (by omega))
 replace f3 := f3.c b36 (.inr (by omega))
 clear hBw hd hw f14 hR hp1 h b36
 have kR36 : ∀ W, Chg rg (rg + 1) w36 W → RRq X W L R := fun W h => (kR _ hcg).keep (fun k hx hl => h.block k hl (by have := (hX k hx).1; omega))
 have kC36 : ∀ W, Chg rg (rg + 1) w36 W → RCh fl fh rg w W := fun W h => (RCh.of_chg hcg).trans ⟨h.os, h.tape, h.output, h.size, fun k hk _ hn => h.block k hk (by omega)⟩
 clear hcg kR kp
 have hcc : Chg rg (rg + 1) w36 w36 := Chg.refl
 refine wl_nild ?_
 refine rk_seq ?_
 refine rk_draw (id := 7) (none) [0, 0, 0, 0, 8, 16, 32, 0, 128, 320, 69, 1093, 2117, 8191, 16383, 24575] [0, 0, 0, 0, 8, 24, 56, 0, 128, 504, 125, 1149, 3197, 8191, 16383, 32767] 36864 0 [(.p, 0), (.p, 1), (.r, 2), (.p, 3), (.p, 4), (.p, 5), (.r, 6), (.p, 7), (.p, 8), (.p, 9), (.p, 10), (.p, 11), (.l, 12), (.p, 13), (.p, 14), (.l, 15)] (by kernel_rfl) (by kernel_rfl) (by kernel_rfl) (by kernel_rfl) (by kernel_rfl) ?_
 replace hcc := hcc.trans Chg.drew
 replace f3 := f3.d
 replace f := f.d
 replace hB := hB.d
 replace hd36 := hd36.d
 refine zm rfl (zm rfl ?_)
 refine wl_r (o_ldBa Tryz.isAgg64 Tryz.sizeOf64 rfl f hn32) ?_
 refine zm rfl ?_
 refine zp (o_nil rfl) ?_
 refine zp (o_faddr (s := 66) (i := 6) (off := 37) Tryz.underlying66 rfl Tryz.sizeOf3 rfl rfl rfl) ?_
 refine wl_r (o_ldRt rfl hB hch) ?_
 refine zm rfl ?_
 refine zp (o_len (t := 35) Tryz.underlying35 rfl) ?_
 refine zp (o_add rfl rfl (by omega) (by omega)) ?_
 refine zp (o_nil rfl) ?_
 refine zp (o_faddr (s := 66) (i := 5) (off := 5) Tryz.underlying66 rfl Tryz.sizeOf64 rfl rfl rfl) ?_
 refine wl_stRch rfl hB rfl hch hn32 ?_
 rintro w_2 f_1 g_1 e_2
 simp only [drew_size] at e_2
 have s_2 := g_1.size
 simp only [drew_size] at s_2
 replace hcc := hcc.trans (Chg.of_g1 g_1.g (by omega) (by omega))
 replace hd36 := hd36.y g_1 (by decide)
 replace f := f.y g_1 (by decide)
 replace f3 := f3.y g_1 (by decide)
 clear hB
 refine zp (o_nil rfl) ?_
 refine zp (o_faddr (s := 66) (i := 6) (off := 37) Tryz.underlying66 rfl Tryz.sizeOf3 rfl rfl rfl) ?_
 refine wl_stRt rfl f_1 rfl hn32 ?_
 rintro w_3 f_2 g_2 e_3
 have s_3 := g_2.size
 replace hcc := hcc.trans (Chg.of_g1 g_2.g (by omega) (by omega))
 replace f3 := f3.y g_2 (by decide)
 replace f := f.y g_2 (by decide)
 replace hd36 := hd36.y g_2 (by decide)
 clear f_1
 refine wl_nild ?_
 refine rk_seq ?_
 refine rk_drawoB (id := 8) (none) [0, 0, 0, 4, 8, 16, 34, 0, 128, 0, 0, 1024, 2624, 4352, 8192, 20544, 65535, 131071, 196607] [0, 0, 0, 4, 12, 28, 62, 0, 128, 0, 0, 1024, 3710, 8190, 16382, 32766, 65535, 131071, 262143] 315970 4674 [0, 2, 3, 4, 5, 7, 8, 10, 11] [(.p, 0), (.p, 2), (.p, 3), (.p, 4), (.s, 5), (.p, 7), (.s, 8), (.p, 10), (.s, 11), (.f 3517 315970 4674, 10)] (by kernel_rfl) (by kernel_rfl) (by kernel_rfl) (by kernel_rfl) (by kernel_rfl) ?_
 dsimp only [inOrder, nthOp]
 replace hcc := hcc.trans Chg.drew
 replace hd36 := hd36.d
 replace f := f.d
 replace f3 := f3.d
 replace f_2 := f_2.d
 refine zm rfl (zm rfl ?_)
 refine zp (o_nil rfl) ?_
 refine zp (o_faddr (s := 66) (i := 3) (off := 3) Tryz.underlying66 rfl Tryz.sizeOf44 rfl rfl rfl) ?_
 refine wl_s (fun _ hk => (o_loadbg Tryz.isAgg44 rfl (f_2.u (below_of_ok hk (Nat.le_refl _) (fun _ e => by cases e))) (by rfl))) ?_
 refine zp (o_faddr (s := 37) (i := 0) (off := 0) Tryz.underlying37 rfl Tryz.sizeOf5 rfl rfl rfl) ?_
 refine wl_s (fun _ hk => (o_loadbg Tryz.isAgg5 rfl (f3.u (below_of_ok hk (Nat.le_refl _) (fun _ e => by cases e))) (by rfl))) ?_
 refine zp (o_faddr (s := 37) (i := 1) (off := 1) Tryz.underlying37 rfl Tryz.sizeOf35 rfl rfl rfl) ?_
 refine wl_s (fun _ hk => (o_loadbg Tryz.isAgg35 rfl (f3.u (below_of_ok hk (Nat.le_refl _) (fun _ e => by cases e))) (by rfl))) ?_
 have hR3 := kR36 _ hcc
 have hC3 := kC36 _ hcc
 have hp3 : Rd w_3.drew A p := hp.u (hb0.trans (hC3.below hb0.size h0 (by have := hd36.g1; have := hd36.g2; omega)))
 have hs3 := hC3.size
 have sx : w36.heap.size ≤ w_3.heap.size := by have := hcc.size; simpa using this
 clear kR36
 simp only [drew_size] at hs3
 refine wl_conc [⟨1, [], [52], [], fun vs w' lo hi => ∃ (A52 : Option Addr), vs = [.slice A52 0 0] ∧ OwnRecX X w' lo hi A52 0 []⟩, ⟨6, [], [57], [0], fun vs w' lo hi => ∃ (A57 : Option Addr) (c57 : Nat), vs = [.slice A57 R.length c57] ∧ OwnRecX X w' w_3.drew.heap.size hi A57 c57 R⟩, ⟨9, [], [60], [], fun vs w' lo hi => ∃ (A60 : Option Addr), vs = [.slice A60 0 0] ∧ OwnH w' lo hi A60 0 []⟩] [0, 1, 2] [0, 0, 0, 4, 8, 16, 34, 0, 128, 0, 0, 1024, 2624, 4352, 8192, 20544, 65535, 131071, 196607] [0, 0, 0, 4, 12, 28, 62, 0, 128, 0, 0, 1024, 3710, 8190, 16382, 32766, 65535, 131071, 262143] [12, 13, 14, 15, 16, 17, 18] [(.c, 12), (.p, 13), (.l, 14), (.l, 15), (.p, 16), (.p, 17), (.l, 18)] (by kernel_rfl) (by kernel_rfl) (by kernel_rfl) (by kernel_rfl) ⟨fun _ _ _ _ _ h hb => by obtain ⟨A52, e0, g0⟩ := h; exact ⟨A52, e0, g0.u hb⟩, fun _ _ _ _ _ h hb => by obtain ⟨A57, c57, e0, g0⟩ := h; exact ⟨A57, c57, e0, g0.u hb⟩, fun _ _ _ _ _ h hb => by obtain ⟨A60, e0, g0⟩ := h; exact ⟨A60, e0, g0.u hb⟩, trivial⟩ ⟨?_, ?_, ?_, trivial⟩ ?_
 ·intro wI hbI fo T T2 n2
  intro hk
  dsimp only [Item.idx, inOrder, nthOp, List.map, List.zip_cons_cons, List.zip_nil_right, List.cons_append, List.nil_append]
  have shbI := hbI.size
  simp only [drew_size] at shbI
  replace hcc := hcc.thenB hbI
  replace hp3 := hp3.u hbI
  replace hR3 := hR3.u hbI
  replace f_2 := f_2.u hbI
  replace f3 := f3.u hbI
  replace f := f.u hbI
  replace hd36 := hd36.u hbI
  have hw1 := Below.refl wI.heap.size wI
  refine wl_litRecQ0 X rfl ?_
  rintro A52 w' f52 b52
  have sb52 := b52.size
  replace hw1 := hw1.trans (b52.mono hw1.size)
  replace hcc := hcc.thenB b52
  replace hd36 := hd36.u b52
  replace f := f.u b52
  replace f3 := f3.u b52
  replace f_2 := f_2.u b52
  replace hR3 := hR3.u b52
  replace hp3 := hp3.u b52
  exact hk [_] _ ⟨_, rfl, f52⟩ hw1
 ·intro wI hbI fo T T2 n2
  rintro _ lo0 hi0 ⟨A52, rfl, f52⟩ ql0 qm0 qh0 -
  try dsimp only at ql0 qm0 qh0 
  try simp only [drew_size] at ql0 qm0 qh0 
  intro hk
  dsimp only [Item.idx, inOrder, nthOp, List.map, List.zip_cons_cons, List.zip_nil_right, List.cons_append, List.nil_append]
  have shbI := hbI.size
  simp only [drew_size] at shbI
  replace hcc := hcc.thenB hbI
  replace hp3 := hp3.u hbI
  replace hR3 := hR3.u hbI
  replace f_2 := f_2.u hbI
  replace f3 := f3.u hbI
  replace f := f.u hbI
  replace hd36 := hd36.u hbI
  have hw1 := Below.refl wI.heap.size wI
  refine wl_appRecQ0 rfl f52 rfl hR3 rfl (by omega) (by omega) ?_
  rintro A57 c57 w57 f57 b57
  have qf57 := f57.cap
  have s57 := b57.size
  replace hw1 := hw1.trans (b57.mono hw1.size)
  replace hcc := hcc.thenB b57
  replace hd36 := hd36.u b57
  replace f := f.u b57
  replace f3 := f3.u b57
  replace f_2 := f_2.u b57
  replace hR3 := hR3.u b57
  replace hp3 := hp3.u b57
  replace f52 := f52.u b57
  exact hk [_] _ ⟨_, _, rfl, f57.base (by simp only [drew_size]; omega) (Nat.le_refl _)⟩ hw1
 ·intro wI hbI fo T T2 n2
  intro hk
  dsimp only [Item.idx, inOrder, nthOp, List.map, List.zip_cons_cons, List.zip_nil_right, List.cons_append, List.nil_append]
  have shbI := hbI.size
  simp only [drew_size] at shbI
  replace hcc := hcc.thenB hbI
  replace hp3 := hp3.u hbI
  replace hR3 := hR3.u hbI
  replace f_2 := f_2.u hbI
  replace f3 := f3.u hbI
  replace f := f.u hbI
  replace hd36 := hd36.u hbI
  have hw1 := Below.refl wI.heap.size wI
  refine wl_litB [] Tryz.u8 Tryz.sizeOf5 Tryz.zeroValue5 (by rfl) rfl rfl (by rfl) (by rfl) (by rfl) ?_
  rintro A60 w60 f60 b60
  have qf60 := f60.cap
  have s60 := b60.size
  replace hw1 := hw1.trans (b60.mono hw1.size)
  replace hcc := hcc.thenB b60
  replace hd36 := hd36.u b60
  replace f := f.u b60
  replace f3 := f3.u b60
  replace f_2 := f_2.u b60
  replace hR3 := hR3.u b60
  replace hp3 := hp3.u b60
  exact hk [_] _ ⟨_, rfl, f60⟩ hw1
 intro wE hbE
 rintro _ lo0 hi0 ⟨A52, rfl, f52⟩ ql0 qm0 qh0 -
 rintro _ lo1 hi1 ⟨A57, c57, rfl, f57⟩ ql1 qm1 qh1 ⟨qa1_0, -⟩
 rintro _ lo2 hi2 ⟨A60, rfl, f60⟩ ql2 qm2 qh2 ⟨qa2_1, qa2_0, -⟩
 try dsimp only at ql0 qm0 qh0  ql1 qm1 qh1 qa1_0 ql2 qm2 qh2 qa2_0 qa2_1
 try simp only [drew_size] at ql0 qm0 qh0  ql1 qm1 qh1 qa1_0 ql2 qm2 qh2 qa2_0 qa2_1
 dsimp only [given, Item.idx, inOrder, nthOp, List.map, List.zip_cons_cons, List.zip_nil_right]
 have shbE_1 := hbE.size
 simp only [drew_size] at shbE_1
 replace hcc := hcc.thenB hbE
 replace hp3 := hp3.u hbE
 replace hR3 := hR3.u hbE
 replace f_2 := f_2.u hbE
 replace f3 := f3.u hbE
 replace f := f.u hbE
 replace hd36 := hd36.u hbE
 refine wl_appB00 rfl f60 rfl hp3 rfl (by omega) (by omega) ?_
 rintro A63 c63 w63 f63 b63
 have qf63 := f63.cap
 have s63 := b63.size
 replace hcc := hcc.thenB b63
 replace hd36 := hd36.u b63
 replace f := f.u b63
 replace f3 := f3.u b63
 replace f_2 := f_2.u b63
 replace hR3 := hR3.u b63
 replace hp3 := hp3.u b63
 replace f60 := f60.u b63
 replace f57 := f57.u b63
 replace f52 := f52.u b63
 refine zp (o_buildg [_, _] Tryz.underlying37 Tryz.zeroValue37 (by rfl) (by rfl) rfl (by rfl) (by rfl) (fun _ => by kernel_rfl)) ?_
 subst hkd
 refine wl_litRecX (X := X) (k1 := kd) (p1 := p) rfl rfl (fun k hk => hQ k (by have := (RowH.lt f63 k hk).1; omega)) f63.to_RdT rfl f63.cap (own_max f63) rfl ?_
 rintro A65 w65 f65 b65
 have sb65 := b65.size
 replace hcc := hcc.thenB b65
 replace f3 := f3.u b65
 replace f52 := f52.u b65
 replace f57 := f57.u b65
 replace f60 := f60.u b65
 replace hp3 := hp3.u b65
 replace hR3 := hR3.u b65
 replace f_2 := f_2.u b65
 replace f := f.u b65
 replace hd36 := hd36.u b65
 replace f63 := f63.u b65
 have hC5 := kC36 _ hcc
 clear hcc kC36
 have kC6 : ∀ W, Below w_3.heap.size w65 W → RCh fl fh rg w W := fun W h => hC5.thenB h hs3
 refine wl_appRecX rfl f57 rfl rfl f65.to_RRecXT (by rfl) (by simp; omega) (by simp; omega) ?_
 rintro A66 c66 w66 f66 g66 b66
 simp only [drew_size] at f66
 simp only [drew_size] at b66
 have qf66 := f66.cap
 have s66 := g66.size
 replace f63 := f63.y g66 (by decide)
 replace hd36 := hd36.y g66 (by decide)
 replace f := f.y g66 (by decide)
 replace f_2 := f_2.y g66 (by decide)
 replace f60 := f60.y g66 (by decide)
 replace f65 := f65.q g66 (f57.ap (by omega)) (by decide)
 clear hR3
 clear hp3
 clear f57
 clear f52
 clear f3
 have hC6 := kC6 _ (by assumption)
 have hcc : Chg rg (rg + 1) w66 w66 := Chg.refl
 refine zp (o_nil rfl) ?_
 refine zp (o_faddr (s := 66) (i := 3) (off := 3) Tryz.underlying66 rfl Tryz.sizeOf44 rfl rfl rfl) ?_
 refine wl_stRL rfl f_2 rfl hn32 ?_
 rintro w_4 f_1 g_3 e_4
 have s_4 := g_3.size
 replace hcc := hcc.trans (Chg.of_g1 g_3.g (by omega) (by omega))
 replace f65 := f65.y g_3 (by decide)
 replace f60 := f60.y g_3 (by decide)
 replace f := f.y g_3 (by decide)
 replace hd36 := hd36.y g_3 (by decide)
 replace f63 := f63.y g_3 (by decide)
 replace f66 := f66.y g_3 (by decide)
 clear f_2
 refine wl_nild ?_
 refine zs (za rfl (wl_nil ?_))
 have hC7 := hC6.trans (⟨hcc.os, hcc.tape, hcc.output, hcc.size, fun k hk _ hn => hcc.block k hk (by omega)⟩ : RCh fl fh rg w66 _)
 refine ret1 rfl rfl ?_
 refine ⟨rfl, ⟨⟨A66, c66, ?_, f66.rrq (fun k hk => hQ k (by omega)), f66.cap⟩, hd36, hX, hg⟩, hC7⟩
 have e1 : chainAll (fstB e) (R ++ [(kd, p)]) = nx := by rw [chainAll_append, hchn, ← hnx]; rfl
 have e2 : ((szR (R ++ [(kd, p)]) : Nat) : Int) = (szR R : Int) + bs.length := by rw [szR_snoc, ← hbs, bytesR_len]; omega
 rw [e1, e2]
 exact f_1
set_option maxRecDepth 100000 in
theorem C_r9AppendFull {fl fh fg rg a e s n m : Nat} {A : Option Addr} {X : Nat → Prop} {S : List Sec} {C : List (Option Sec)} {R : List Rc} {p : By} {kd : UInt8} {x : Int} (w : World) (h : RJt w fl fh X fg rg S C a e R s) (hp : Rd w A p) (hkd : x = (kd.toNat : Int)) (hn : n = p.length) (hm : p.length ≤ m) (hO : OkR (kd, p)) (hl : p.length ≤ 3500) (hfit : a * 256 < szR R + ((bodyB (kd, p)).length + 8)) (ha : 1 ≤ a ∧ a ≤ 256) (hz : szR R ≤ a * 256) (he : e < 18446744073709551616) (hS : 2 + 2 * a ≤ S.length) (hRl : R.length ≤ 65536) :
  CallsR Tryz.prog 30 [.pointer (some ⟨rg, 0, none⟩), .agg #[.int .u8 x, .slice A n m]] w fun v w' => v = .int .i64 7 ∧ Below w.heap.size w w' := by
 subst hn
 obtain ⟨L, c, hB, hR, hc⟩ := h.ex
 have hch := ch_len e R
 obtain ⟨bs, hbs⟩ : ∃ y, bytesR (chainAll (fstB e) R) (kd, p) = y := ⟨_, rfl⟩
 obtain ⟨nx, hnx⟩ : ∃ y, nextB (chainAll (fstB e) R) (kd, p) = y := ⟨_, rfl⟩
 have hn32 : nx.length = 32 := by rw [← hnx]; exact nextB_len _ _
 have hbl : bs.length = (bodyB (kd, p)).length + 8 := by rw [← hbs, bytesR_len]
 obtain ⟨chn, hchn⟩ : ∃ c, chainAll (fstB e) R = c := ⟨_, rfl⟩
 rw [hchn] at hB hbs hnx hch
 rw [← hbl] at hfit
 clear h
 refine callsR Tryz.func30 rfl rfl (by kernel_rfl) rfl ?_
 have hw := Below.refl w.heap.size w
 refine zs ?_
 refine wl_boxg [_, _] rfl (by rfl) ?_
 rintro g3 w3 f3 b3 i3 i3_1
 have s3 := b3.size
 replace hw := hw.trans (b3.mono hw.size)
 refine za rfl (wl_nil (rk_seq ?_))
 refine rk_drawo (id := 1) (none) [0, 1, 2, 4, 0, 24, 32, 64, 64, 64, 0, 1279, 3583, 8191] [0, 1, 3, 7, 0, 31, 63, 127, 127, 127, 0, 1279, 3583, 8191] 5152 1024 [0, 1, 2, 3, 4] [(.p, 0), (.p, 1), (.p, 2), (.s, 3), (.s, 4), (.f 31 5152 1024, 9)] (by kernel_rfl) (by kernel_rfl) (by kernel_rfl) (by kernel_rfl) (by kernel_rfl) ?_
 dsimp only [inOrder, nthOp]
 replace hw := hw.drew
 replace f3 := f3.d
 refine zm rfl ?_
 refine zp (o_nil rfl) ?_
 refine zp (o_faddr (s := 66) (i := 5) (off := 5) Tryz.underlying66 rfl Tryz.sizeOf64 rfl rfl rfl) ?_
 refine wl_s (fun _ hk => (o_ldRch rfl ((hB.u hw).u (below_of_grown_none hk)) hch)) ?_
 refine wl_s (fun _ hk => (o_loadag Tryz.isAgg37 Tryz.sizeOf37 rfl (f3.u (below_of_grown_none hk)) (by rfl))) ?_
 refine wl_conc [⟨5, [(.p, 6), (.p, 7), (.p, 8), (.p, 9)], [17, 16, 15, 8, 14], [], fun vs w' lo hi => ∃ (A14 : Option Addr) (c14 : Nat) (u8 u14 : Value), vs = [.int .i64 0, .agg (B8 nx).toArray, .slice A14 bs.length c14, u8, u14] ∧ OwnH w' lo hi A14 c14 bs⟩, ⟨10, [], [6], [], fun vs w' lo hi => ∃ (g6 : Nat), vs = [.pointer (some ⟨g6, 0, none⟩)] ∧ Blk w' g6 64 (B8 nul32) ∧ lo ≤ g6 ∧ g6 < hi⟩] [0, 1] [0, 1, 2, 4, 0, 24, 32, 64, 64, 64, 0, 1279, 3583, 8191] [0, 1, 3, 7, 0, 31, 63, 127, 127, 127, 0, 1279, 3583, 8191] [11, 12, 13] [(.p, 11), (.l, 12), (.p, 13)] (by kernel_rfl) (by kernel_rfl) (by kernel_rfl) (by kernel_rfl) ⟨fun _ _ _ _ _ h hb => by obtain ⟨A14, c14, u8, u14, e0, g0⟩ := h; exact ⟨A14, c14, u8, u14, e0, g0.u hb⟩, fun _ _ _ _ _ h hb => by obtain ⟨g6, e0, g0, g1, g2⟩ := h; exact ⟨g6, e0, g0.u hb, g1, g2⟩, trivial⟩ ⟨?_, ?_, trivial⟩ ?_
 ·intro wI hbI fo T T2 n2
  intro hk
  dsimp only [Item.idx, inOrder, nthOp, List.map, List.zip_cons_cons, List.zip_nil_right, List.cons_append, List.nil_append]
  have shbI := hbI.size
  simp only [drew_size] at shbI
  replace hw := hw.trans (hbI.mono hw.size)
  replace f3 := f3.u hbI
  have hw1 := Below.refl wI.heap.size wI
  refine wl_call rfl (C_r8BytesOk _ hkd (hp.u hw) (by omega) hbs hnx rfl (by omega) hch) ?_
  rintro v14 w14 ⟨A14, ⟨c14, ⟨rfl, ⟨f14, b14⟩⟩⟩⟩
  have qf14 := f14.cap
  have s14 := b14.size
  replace hw := hw.trans (b14.mono hw.size)
  replace hw1 := hw1.trans (b14.mono hw1.size)
  replace f3 := f3.u b14
  refine zm rfl ?_
  refine zp (o_ext30 rfl) ?_
  refine zp (o_ext31 rfl) ?_
  refine zp (o_ext32 rfl) ?_
  exact hk [_, _, _, _, _] _ ⟨_, _, _, _, rfl, f14⟩ hw1
 ·intro wI hbI fo T T2 n2
  intro hk
  dsimp only [Item.idx, inOrder, nthOp, List.map, List.zip_cons_cons, List.zip_nil_right, List.cons_append, List.nil_append]
  have shbI := hbI.size
  simp only [drew_size] at shbI
  replace hw := hw.trans (hbI.mono hw.size)
  replace f3 := f3.u hbI
  have hw1 := Below.refl wI.heap.size wI
  refine wl_allocB Tryz.underlying64 Tryz.zeroValue64 (by rfl) ?_
  rintro g6 w6 f6 b6 i6 i6_1
  have s6 := b6.size
  replace hw := hw.trans (b6.mono hw.size)
  replace hw1 := hw1.trans (b6.mono hw1.size)
  replace f3 := f3.u b6
  exact hk [_] _ ⟨_, rfl, f6, by omega, by omega⟩ hw1
 intro wE hbE
 rintro _ lo0 hi0 ⟨A14, c14, u8, u14, rfl, f14⟩ ql0 qm0 qh0 -
 rintro _ lo1 hi1 ⟨g6, rfl, f6, f6_1, f6_2⟩ ql1 qm1 qh1 ⟨qa1_0, -⟩
 try dsimp only at ql0 qm0 qh0  ql1 qm1 qh1 qa1_0
 try simp only [drew_size] at ql0 qm0 qh0  ql1 qm1 qh1 qa1_0
 dsimp only [given, Item.idx, inOrder, nthOp, List.map, List.zip_cons_cons, List.zip_nil_right]
 have shbE := hbE.size
 simp only [drew_size] at shbE
 replace hw := hw.trans (hbE.mono hw.size)
 replace f3 := f3.u hbE
 refine za rfl ?_
 refine wl_stBa Tryz.sizeOf64 rfl f6 rfl hn32 (by rfl) ?_
 rintro w_1 f g e_1
 have s_1 := g.size
 replace hw := hw.trans (below_of_grownBy g.g hw.size (by omega))
 replace f3 := f3.k g.g (ap_some (by omega))
 replace f14 := f14.k g.g (ap_some (by omega))
 clear f6
 refine za rfl ?_
 refine wl_nild ?_
 refine rk_seq (zs (zm rfl ?_))
 refine zp (o_ne rfl rfl) ?_
 refine wl_nil ?_
 refine rk_false rfl ?_
 refine rk_skip (rk_seq (zs (zm rfl ?_)))
 refine zp (o_len (t := 35) Tryz.underlying35 rfl) ?_
 refine zm rfl ?_
 refine wl_call rfl (C_r9Left _ (hB.u hw) hch (by rfl) (by omega) (by omega)) ?_
 rintro v24 w24 ⟨rfl, b24⟩
 have s24 := b24.size
 replace hw := hw.trans (b24.mono hw.size)
 replace f14 := f14.u b24
 replace f3 := f3.u b24
 replace f := f.u b24
 refine zp (o_gt rfl rfl) ?_
 refine wl_nil ?_
 refine rk_if rfl (fun h25 => ?_) (fun h25 => h25.elim (by omega))
 refine zs (za rfl (wl_nil ?_))
 refine ret1 rfl rfl ?_
 exact ⟨rfl, hw⟩
set_option maxRecDepth 100000 in
theorem C_r9AppendBad {fl fh fg rg a e s n m : Nat} {A : Option Addr} {X : Nat → Prop} {S : List Sec} {C : List (Option Sec)} {R : List Rc} {p : By} {kd : UInt8} {x : Int} (w : World) (h : RJt w fl fh X fg rg S C a e R s) (hp : Rd w A p) (hkd : x = (kd.toNat : Int)) (hn : n = p.length) (hm : p.length ≤ m) (hO : ¬OkR (kd, p)) (hl : p.length ≤ 3500) (ha : 1 ≤ a ∧ a ≤ 256) (hz : szR R ≤ a * 256) (he : e < 18446744073709551616) (hRl : R.length ≤ 65536) :
  CallsR Tryz.prog 30 [.pointer (some ⟨rg, 0, none⟩), .agg #[.int .u8 x, .slice A n m]] w fun v w' => v = .int .i64 2 ∧ Below w.heap.size w w' := by
 subst hn
 obtain ⟨L, c, hB, hR, hc⟩ := h.ex
 have hch := ch_len e R
 obtain ⟨chn, hchn⟩ : ∃ c, chainAll (fstB e) R = c := ⟨_, rfl⟩
 rw [hchn] at hB hch
 clear h
 refine callsR Tryz.func30 rfl rfl (by kernel_rfl) rfl ?_
 have hw := Below.refl w.heap.size w
 refine zs ?_
 refine wl_boxg [_, _] rfl (by rfl) ?_
 rintro g3 w3 f3 b3 i3 i3_1
 have s3 := b3.size
 replace hw := hw.trans (b3.mono hw.size)
 refine za rfl (wl_nil (rk_seq ?_))
 refine rk_drawo (id := 1) (none) [0, 1, 2, 4, 0, 24, 32, 64, 64, 64, 0, 1279, 3583, 8191] [0, 1, 3, 7, 0, 31, 63, 127, 127, 127, 0, 1279, 3583, 8191] 5152 1024 [0, 1, 2, 3, 4] [(.p, 0), (.p, 1), (.p, 2), (.s, 3), (.s, 4), (.f 31 5152 1024, 9)] (by kernel_rfl) (by kernel_rfl) (by kernel_rfl) (by kernel_rfl) (by kernel_rfl) ?_
 dsimp only [inOrder, nthOp]
 replace hw := hw.drew
 replace f3 := f3.d
 refine zm rfl ?_
 refine zp (o_nil rfl) ?_
 refine zp (o_faddr (s := 66) (i := 5) (off := 5) Tryz.underlying66 rfl Tryz.sizeOf64 rfl rfl rfl) ?_
 refine wl_s (fun _ hk => (o_ldRch rfl ((hB.u hw).u (below_of_grown_none hk)) hch)) ?_
 refine wl_s (fun _ hk => (o_loadag Tryz.isAgg37 Tryz.sizeOf37 rfl (f3.u (below_of_grown_none hk)) (by rfl))) ?_
 refine wl_conc [⟨5, [(.p, 6), (.p, 7), (.p, 8), (.p, 9)], [17, 16, 15, 8, 14], [], fun vs w' lo hi => ∃ (A14 : Option Addr) (n14 c14 : Nat) (y : By) (u8 u14 : Value), vs = [.int .i64 2, .agg (B8 y).toArray, .slice A14 n14 c14, u8, u14] ∧ y.length = 32⟩, ⟨10, [], [6], [], fun vs w' lo hi => ∃ (g6 : Nat), vs = [.pointer (some ⟨g6, 0, none⟩)] ∧ Blk w' g6 64 (B8 nul32) ∧ lo ≤ g6 ∧ g6 < hi⟩] [0, 1] [0, 1, 2, 4, 0, 24, 32, 64, 64, 64, 0, 1279, 3583, 8191] [0, 1, 3, 7, 0, 31, 63, 127, 127, 127, 0, 1279, 3583, 8191] [11, 12, 13] [(.p, 11), (.l, 12), (.p, 13)] (by kernel_rfl) (by kernel_rfl) (by kernel_rfl) (by kernel_rfl) ⟨fun _ _ _ _ _ h hb => by obtain ⟨A14, n14, c14, y, u8, u14, e0, g0⟩ := h; exact ⟨A14, n14, c14, y, u8, u14, e0, g0⟩, fun _ _ _ _ _ h hb => by obtain ⟨g6, e0, g0, g1, g2⟩ := h; exact ⟨g6, e0, g0.u hb, g1, g2⟩, trivial⟩ ⟨?_, ?_, trivial⟩ ?_
 ·intro wI hbI fo T T2 n2
  intro hk
  dsimp only [Item.idx, inOrder, nthOp, List.map, List.zip_cons_cons, List.zip_nil_right, List.cons_append, List.nil_append]
  have shbI := hbI.size
  simp only [drew_size] at shbI
  replace hw := hw.trans (hbI.mono hw.size)
  replace f3 := f3.u hbI
  have hw1 := Below.refl wI.heap.size wI
  refine wl_call rfl (C_r8BytesBad _ hkd hO rfl) ?_
  rintro v14 w14 ⟨rfl, b14⟩
  have s14 := b14.size
  replace hw := hw.trans (b14.mono hw.size)
  replace hw1 := hw1.trans (b14.mono hw1.size)
  replace f3 := f3.u b14
  refine zm rfl ?_
  refine zp (o_ext30 rfl) ?_
  refine zp (o_ext31 rfl) ?_
  refine zp (o_ext32 rfl) ?_
  exact hk [_, _, _, _, _] _ ⟨_, _, _, _, _, _, rfl, rfl⟩ hw1
 ·intro wI hbI fo T T2 n2
  intro hk
  dsimp only [Item.idx, inOrder, nthOp, List.map, List.zip_cons_cons, List.zip_nil_right, List.cons_append, List.nil_append]
  have shbI := hbI.size
  simp only [drew_size] at shbI
  replace hw := hw.trans (hbI.mono hw.size)
  replace f3 := f3.u hbI
  have hw1 := Below.refl wI.heap.size wI
  refine wl_allocB Tryz.underlying64 Tryz.zeroValue64 (by rfl) ?_
  rintro g6 w6 f6 b6 i6 i6_1
  have s6 := b6.size
  replace hw := hw.trans (b6.mono hw.size)
  replace hw1 := hw1.trans (b6.mono hw1.size)
  replace f3 := f3.u b6
  exact hk [_] _ ⟨_, rfl, f6, by omega, by omega⟩ hw1
 intro wE hbE
 rintro _ lo0 hi0 ⟨A14, n14, c14, y, u8, u14, rfl, f14⟩ ql0 qm0 qh0 -
 rintro _ lo1 hi1 ⟨g6, rfl, f6, f6_1, f6_2⟩ ql1 qm1 qh1 ⟨qa1_0, -⟩
 try dsimp only at ql0 qm0 qh0  ql1 qm1 qh1 qa1_0
 try simp only [drew_size] at ql0 qm0 qh0  ql1 qm1 qh1 qa1_0
 dsimp only [given, Item.idx, inOrder, nthOp, List.map, List.zip_cons_cons, List.zip_nil_right]
 have shbE := hbE.size
 simp only [drew_size] at shbE
 replace hw := hw.trans (hbE.mono hw.size)
 replace f3 := f3.u hbE
 refine za rfl ?_
 refine wl_stBa Tryz.sizeOf64 rfl f6 rfl f14 (by rfl) ?_
 rintro w_1 f g e_1
 have s_1 := g.size
 replace hw := hw.trans (below_of_grownBy g.g hw.size (by omega))
 replace f3 := f3.k g.g (ap_some (by omega))
 clear f6
 refine za rfl ?_
 refine wl_nild ?_
 refine rk_seq (zs (zm rfl ?_))
 refine zp (o_ne rfl rfl) ?_
 refine wl_nil ?_
 refine rk_true rfl ?_
 refine zs (zm rfl (za rfl (wl_nil ?_)))
 refine ret1 rfl rfl ?_
 exact ⟨rfl, hw⟩
end Go.Proofs.YtnnhenafhalobaaGreat
