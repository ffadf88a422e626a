/-
  slices.Chunk of padded bytes, and its rounds.
-/
import Derived.Test.YtpjedpmbninfcaaShD
import Derived.Test.YtpjedpmbninfcaaRound
namespace Go.Proofs.Ytpjedpmbninfcaa
open Go.RowKit
section
variable {P : Program} {N : Nat} {fr : Fr} {w : World} {ty t e : TypeId} {x y z u : Operand} {A : Option Addr} {len cap lo hi mx : Nat} {kl kh km : IntKind} {l h m : Int}
theorem o_slice3B (lo hi mx : Nat) (hu : P.underlying t = some (.slice e)) (hs : ∀ w, (sizeOf e).run P w = .ok 1 w) (hx : fr.ev x = some (.slice A len cap)) (hy : fr.ev y = some (.int kl l)) (hz : fr.ev z = some (.int kh h)) (hq : fr.ev u = some (.int km m))
    (hl : l = (lo : Int)) (hh : h = (hi : Int)) (hm : m = (mx : Int)) (h1 : lo ≤ hi) (h2 : hi ≤ mx) (h3 : mx ≤ cap) : OpV P N fr w (.slice t x (some y) (some z) (some u)) ty (.slice (cutA A mx 1 lo) (hi - lo) (mx - lo)) w := fun a ha op hop _ => by
  subst hl; subst hh; subst hm
  simp [execOp, hop, ha.ev hx, ha.ev hy, ha.ev hz, ha.ev hq, Instr.sliceAt, Instr.slice, Instr.sliceBounds, Instr.sliceBound, run_underlying hu, asIntOf, hs, h1, h2, h3, cutA]
--@ rule slice p o_sliceLoB
theorem o_sliceLoB (lo : Nat) (hu : P.underlying t = some (.slice 5)) (hs : ∀ w, (sizeOf 5).run P w = .ok 1 w) (hx : fr.ev x = some (.slice A len cap)) (hy : fr.ev y = some (.int kl l)) (hl : l = (lo : Int)) (h1 : lo ≤ len) : OpV P N fr w (.slice t x (some y) none none) ty (.slice (cutA A cap 1 lo) (len - lo) (cap - lo)) w := o_slice_lo hu hs hx hy hl h1
end
theorem C_Chunk {A : Option Addr} {n c : Nat} (w : World) :
    CallsR Try.prog 43 [.slice A n c, .int .i64 128] w fun v w' => ∃ g h, v = .func (.func 52) #[] #[.pointer (some ⟨g, 0, none⟩), .pointer (some ⟨h, 0, none⟩)] ∧ Blk w' g 26 [.slice A n c] ∧ Blk w' h 3 [.int .i64 128] ∧ w.heap.size ≤ g ∧ g < w'.heap.size ∧ w.heap.size ≤ h ∧ h < w'.heap.size ∧ Below w.heap.size w w' := by
  refine callsR Try.func43 rfl rfl (by kernel_rfl) rfl ?_
  have hw := Below.refl w.heap.size w
  refine rk_seq ?_
  refine rk_region ?_
  refine wl_boxg [_] rfl (by rfl) ?_
  rintro g2 w2 f2 b2 i2 i2_1
  have s2 := b2.size
  replace hw := hw.trans (b2.mono hw.size)
  refine wl_boxg [_] rfl (by rfl) ?_
  rintro g3 w3 f3 b3 i3 i3_1
  have s3 := b3.size
  replace hw := hw.trans (b3.mono hw.size)
  replace f2 := f2.u b3
  refine wl_p (fun _ => o_assign rfl) ?_
  refine wl_nil ?_
  refine rk_seq ?_
  refine rk_seq ?_
  refine rk_region ?_
  refine wl_r (o_loadbg Try.isAgg3 rfl f3 (by rfl)) ?_
  refine wl_p (fun _ => o_lt rfl rfl) ?_
  refine wl_nil ?_
  refine rk_false rfl ?_
  refine rk_skip ?_
  refine rk_seq ?_
  refine rk_region ?_
  refine wl_p (fun _ => o_makeFunc (xs := [.tmp 2, .tmp 3]) rfl) ?_
  refine wl_p (fun _ => o_assign rfl) ?_
  refine wl_nil ?_
  refine ret1 rfl rfl ?_
  exact ⟨_, _, rfl, f2, f3, by omega, by omega, by omega, by omega, hw⟩
/-- What a round keeps of the two boxes. -/
def KpB (g h : Nat) (W W' : World) : Prop := W'.heap[g]? = W.heap[g]? ∧ W'.heap[h]? = W.heap[h]?
theorem KpB.blk1 {g h : Nat} {W W' : World} {t : TypeId} {cs : List Value} (hk : KpB g h W W') (hB : Blk W g t cs) : Blk W' g t cs := hk.1.trans hB
theorem KpB.blk2 {g h : Nat} {W W' : World} {t : TypeId} {cs : List Value} (hk : KpB g h W W') (hB : Blk W h t cs) : Blk W' h t cs := hk.2.trans hB
/-- A piece, as it is handed on. -/
def encs (A : Option Addr) (M : Nat) (x : Fin M) : Array Value := #[.slice (A.map (·.add (128 * x.val))) 128 128]
theorem chunk_stops {A : Option Addr} {M c g h n : Nat} (hn : 1 ≤ n) (w : World) (hg : Blk w g 26 [.slice A (128 * M) c]) (hh : Blk w h 3 [.int .i64 128]) (hc : 128 * M ≤ c) (hM : M ≤ 10000) :
    SeqStopsK Fence.wide n Try.prog 52 #[.pointer (some ⟨g, 0, none⟩), .pointer (some ⟨h, 0, none⟩)] (encs A M) (KpB g h) (fun xs => xs = List.finRange M) (fun _ => True) M w := fun l J Jx W hb hJ hJx hY h0 => by
  have hgW := hg.under hb
  have hhW := hh.under hb
  have main : CallsR Try.prog 52 [.func (.yield l) #[] #[], .pointer (some ⟨g, 0, none⟩), .pointer (some ⟨h, 0, none⟩)] W fun _ w' => (∃ xs, xs = List.finRange M ∧ J xs w') ∨ (∃ pre, True ∧ Jx pre w') := by
    refine callsR Try.func52 rfl rfl (by kernel_rfl) rfl ?_
    refine rk_seq ?_
    refine rk_region ?_
    refine wl_p (fun _ => o_assign rfl) ?_
    refine wl_nil ?_
    refine rk_block ?_
    refine rk_joinf (fun fb fr w2 => fr = [] ++ fb.drop 1 ∧ J (List.finRange M) w2) ?_ (fun ks hj => ?_)
    rotate_left
    · refine rk_loopf (fun fb m fr w2 => ∃ (k : Nat) (v : Int), fr = [(4, .int .i64 v)] ++ fb.drop 1 ∧ v = 128 * (k : Int) ∧ k ≤ M ∧ m = M - k ∧ J ((List.finRange M).take k) w2 ∧ Blk w2 g 26 [.slice A (128 * M) c] ∧ Blk w2 h 3 [.int .i64 128]) (n := M) (Fr.le_of (by kernel_rfl) (by kernel_rfl) (by repeat' constructor)) ⟨0, _, rfl, rfl, by omega, rfl, by rw [List.take_zero]; exact h0, hgW, hhW⟩ ?_
      clear hgW hhW h0 hg hh
      rintro m fr w2 ⟨k, v, rfl, rfl, hk, rfl, hJk, f1, f2⟩
      first | refine rk_frame (by simp only [List.cons_append, List.nil_append, List.drop_succ_cons, List.drop_zero]; rfl) ?_ | refine wl_frame (by simp only [List.cons_append, List.nil_append, List.drop_succ_cons, List.drop_zero]; rfl) ?_
      refine rk_seq ?_
      refine rk_seq ?_
      refine rk_region ?_
      refine wl_p (fun _ => o_move rfl) ?_
      refine wl_r (o_loadbg Try.isAgg26 rfl f1 (by rfl)) ?_
      refine wl_p (fun _ => o_len (t := 26) Try.underlying26 rfl) ?_
      refine wl_p (fun _ => o_lt rfl rfl) ?_
      refine wl_nil ?_
      refine rk_if rfl (fun h9 => ?_) (fun h9 => ?_)
      · have hkM : k < M := by omega
        refine rk_skip ?_
        refine rk_seq ?_
        refine rk_block ?_
        refine rk_seq ?_
        refine rk_draw (id := 3) (none) [0, 0, 0, 6, 8, 17, 63] [0, 0, 0, 6, 14, 31, 63] 0 0 [(.r, 0), (.r, 1), (.p, 2), (.p, 3), (.p, 4), (.p, 5), (.p, 6)] (by kernel_rfl) (by kernel_rfl) (by kernel_rfl) (by kernel_rfl) (by kernel_rfl) ?_
        replace f2 := f2.d
        replace f1 := f1.d
        refine wl_r (o_loadbg Try.isAgg3 rfl f2 (by rfl)) ?_
        refine wl_r (o_loadbg Try.isAgg26 rfl f1 (by rfl)) ?_
        refine wl_p (fun _ => o_move rfl) ?_
        refine wl_p (fun _ => (o_sliceLoB (128 * k) Try.underlying26 Try.sizeOf5 rfl rfl (by omega) (by omega))) ?_
        refine wl_p (fun _ => o_len (t := 26) Try.underlying26 rfl) ?_
        refine wl_p (fun _ => o_min rfl rfl) ?_
        refine wl_p (fun _ => o_assign rfl) ?_
        refine wl_nild ?_
        rw [show min (128 : Int) ((128 * M - 128 * k : Nat) : Int) = 128 by omega]
        have hJd : J ((List.finRange M).take k) w2.drew := hJ _ _ _ none hJk (grownBy_drew w2 none) (fun r e => by cases e)
        have hlen : ((List.finRange M).take k).length < M := by rw [List.length_take, List.length_finRange]; omega
        have hYk := hY _ ⟨k, hkM⟩ _ hJd hlen
        refine rk_seq ?_
        refine rk_regionI n ?_
        refine wli_p (o_move rfl) ?_
        refine wli_p (o_loadbg Try.isAgg26 rfl f1 rfl) ?_
        refine wli_p (o_move rfl) ?_
        refine wli_p (o_move rfl) ?_
        refine wli_p (o_move rfl) ?_
        refine wli_p (o_add rfl rfl (by omega) (by omega)) ?_
        refine wli_p (o_move rfl) ?_
        refine wli_p (o_move rfl) ?_
        refine wli_p (o_add rfl rfl (by omega) (by omega)) ?_
        have hsl : Value.slice (cutA A (128 * k + 128) 1 (128 * k)) (128 * k + 128 - 128 * k) (128 * k + 128 - 128 * k) = .slice (A.map (·.add (128 * k))) 128 128 := by
          rw [show 128 * k + 128 - 128 * k = 128 by omega]
          unfold cutA
          rw [if_neg (by omega), Nat.mul_one]
        refine wli_p (o_as (o_slice3B (128 * k) (128 * k + 128) (128 * k + 128) Try.underlying26 Try.sizeOf5 rfl rfl rfl rfl (by omega) (by omega) (by omega) (by omega) (by omega) (by omega)) hsl) ?_
        refine wli_yield rfl rfl hYk (fun e w3 he => ?_)
        rcases he with ⟨rfl, hJ3, hkp⟩ | ⟨rfl, hx3⟩
        · refine ⟨true, rfl, ?_⟩
          refine wli_p (o_not rfl) ?_
          refine wli_nil ?_
          replace f1 := hkp.blk1 f1
          replace f2 := hkp.blk2 f2
          have hJ4 : J ((List.finRange M).take (k + 1)) w3 := by
            rw [List.take_succ_eq_append_getElem (by rw [List.length_finRange]; omega), List.getElem_finRange]
            exact hJ3
          refine rk_false rfl ?_
          refine rk_skip ?_
          refine rk_blk ?_
          refine rk_region ?_
          refine wl_p (fun _ => o_move rfl) ?_
          refine wl_r (o_loadbg Try.isAgg3 rfl f2 (by rfl)) ?_
          refine wl_p (fun _ => o_add rfl rfl (by omega) (by omega)) ?_
          refine wl_p (fun _ => o_assign rfl) ?_
          refine wl_nil ?_
          exact rk_againf (Fr.le_of (by kernel_rfl) (by kernel_rfl) (by repeat' constructor)) ⟨k + 1, 128 * (k : Int) + 128, rfl, by omega, by omega, rfl, hJ4, f1, f2⟩ (by omega)
        · refine ⟨false, rfl, ?_⟩
          refine wli_p (o_not rfl) ?_
          refine wli_nil ?_
          refine rk_true rfl ?_
          refine ret0 rfl ?_
          exact .inr ⟨_, trivial, hx3⟩
      · refine rk_exit rfl ?_
        obtain rfl : k = M := by omega
        rw [List.take_of_length_le (by rw [List.length_finRange]; omega)] at hJk
        exact rk_tof hj (Fr.le_of (by kernel_rfl) (by kernel_rfl) (by repeat' constructor)) ⟨rfl, hJk⟩
    rintro fr w2 ⟨rfl, hJM⟩
    first | refine rk_frame (by simp only [List.cons_append, List.nil_append, List.drop_succ_cons, List.drop_zero]; rfl) ?_ | refine wl_frame (by simp only [List.cons_append, List.nil_append, List.drop_succ_cons, List.drop_zero]; rfl) ?_
    refine end0 rfl ?_
    exact .inl ⟨_, rfl, hJM⟩
  refine callsIn_wide.2 (main.2.mono ?_)
  rintro e w' ⟨v, rfl, hv⟩
  exact ⟨⟨v, rfl⟩, hv⟩
end Go.Proofs.Ytpjedpmbninfcaa
