/-
  Walks of package octet: the reader.
-/
import Derived.Test.YtpjedpmbninfcaaOctA
import Derived.Test.YtpjedpmbninfcaaOps3
namespace Go.Proofs.Ytpjedpmbninfcaa
open Go.RowKit

/-- The reader at block g: its bytes, its place, its error. -/
def RdrI (w : World) (g : Nat) (l : List UInt8) (p e : Nat) : Prop :=
  ∃ A c, Blk w g 87 [.pointer (some ⟨g, 0, none⟩), .slice A l.length c, .int .i64 p, .int .i64 e] ∧ Own w 0 A c l ∧ l.length ≤ c ∧ p ≤ l.length ∧ l.length ≤ 140737488355328 ∧ e ≤ 100

theorem blk_cutA (A : Option Addr) (c sz k : Nat) : blk (cutA A c sz k) = blk A := by
  unfold cutA blk
  split
  · rfl
  · cases A <;> simp [block_of_add]
theorem Rd.cut {w : World} {A : Option Addr} {l : List UInt8} (h : Rd w A l) {c k : Nat} (hk : k ≤ l.length) (hc : l.length ≤ c) : Rd w (cutA A c 1 k) (l.drop k) := by
  unfold cutA
  rw [Nat.mul_one]
  exact Rd.drop h hk hc

theorem C_made {g : Nat} {vs : List Value} (w : World) (hB : Blk w g 87 (.pointer (some ⟨g, 0, none⟩) :: vs)) :
    CallsR Try.prog 48 [.pointer (some ⟨g, 0, none⟩)] w fun v w' => v = .bool true ∧ w = w' := by
  refine callsR Try.func48 rfl rfl (by kernel_rfl) rfl ?_
  refine rk_seq ?_
  refine rk_region ?_
  refine wl_p (fun _ => o_assign rfl) ?_
  refine wl_nil ?_
  refine rk_seq ?_
  refine rk_region ?_
  refine wl_p (fun _ => o_move rfl) ?_
  refine wl_p (fun _ => o_pne_nil (t := 72) Try.underlying72 rfl rfl) ?_
  refine wl_p (fun _ => o_move rfl) ?_
  refine wl_p (fun _ => o_move rfl) ?_
  refine wl_p (fun _ => o_nil rfl) ?_
  refine wl_p (fun _ => o_faddr (s := 87) (i := 0) (off := 0) Try.underlying87 rfl Try.sizeOf72 rfl rfl rfl) ?_
  refine wl_r (o_loadb (t := 72) Try.isAgg72 rfl hB (by rfl)) ?_
  refine wl_p (fun _ => o_move rfl) ?_
  refine wl_p (fun _ => o_peq_same (t := 72) Try.underlying72 Try.sizeOf87 rfl rfl) ?_
  refine wl_p (fun _ => o_pick_t rfl rfl) ?_
  refine wl_p (fun _ => o_assign rfl) ?_
  refine wl_nil ?_
  refine ret1 rfl rfl ?_
  exact ⟨rfl, rfl⟩
theorem C_made_nil (w : World) : CallsR Try.prog 48 [.pointer none] w fun v w' => v = .bool false ∧ w = w' := by
  refine callsR Try.func48 rfl rfl (by kernel_rfl) rfl ?_
  refine rk_seq ?_
  refine rk_region ?_
  refine wl_p (fun _ => o_assign rfl) ?_
  refine wl_nil ?_
  refine rk_seq ?_
  refine rk_region ?_
  refine wl_p (fun _ => o_move rfl) ?_
  refine wl_p (fun _ => o_pne_nil (t := 72) Try.underlying72 rfl rfl) ?_
  refine wl_p (fun _ => o_move rfl) ?_
  refine wl_off ?_
  refine wl_off ?_
  refine wl_off ?_
  refine wl_off ?_
  refine wl_off ?_
  refine wl_off ?_
  refine wl_p (fun _ => o_pick_f rfl rfl) ?_
  refine wl_p (fun _ => o_assign rfl) ?_
  refine wl_nil ?_
  refine ret1 rfl rfl ?_
  exact ⟨rfl, rfl⟩

theorem C_take {g : Nat} {l : List UInt8} {p e : Nat} {m : Int} (n : Nat) (hm : m = n) (w : World) (hR : RdrI w g l p e) :
    CallsR Try.prog 47 [.pointer (some ⟨g, 0, none⟩), .int .u64 m] w fun v w' => w.grownBy w' (some g) ∧ w'.heap.size = w.heap.size ∧
      ((e = 0 ∧ n ≤ l.length - p ∧ RdrI w' g l (p + n) 0 ∧ ∃ A' c', v = .tuple #[.slice A' n c', .bool true] ∧ n ≤ c' ∧ Rd w' A' ((l.drop p).take n) ∧ blk A' ≠ some g) ∨
       (v = .tuple #[.slice none 0 0, .bool false] ∧ (e = 0 → l.length - p < n) ∧ RdrI w' g l p (if e = 0 then 5 else e))) := by
  subst hm
  have hR0 := hR
  obtain ⟨A, c, hB, ho, hc, hp, hl, he⟩ := hR
  have hr := ho.rd
  have hA := ho.ne hB (by decide)
  refine callsR Try.func47 rfl rfl (by kernel_rfl) rfl ?_
  refine rk_seq ?_
  refine rk_region ?_
  refine wl_p (fun _ => o_assign rfl) ?_
  refine wl_p (fun _ => o_assign rfl) ?_
  refine wl_nil ?_
  refine rk_seq ?_
  refine rk_seq ?_
  refine rk_region ?_
  refine wl_p (fun _ => o_move rfl) ?_
  refine wl_call rfl (C_made w hB) ?_
  rintro _ w8 ⟨rfl, rfl⟩
  refine wl_p (fun _ => o_not rfl) ?_
  refine wl_p (fun _ => o_move rfl) ?_
  refine wl_p (fun _ => o_move rfl) ?_
  refine wl_p (fun _ => o_nil rfl) ?_
  refine wl_p (fun _ => o_faddr (s := 87) (i := 3) (off := 3) Try.underlying87 rfl Try.sizeOf27 rfl rfl rfl) ?_
  refine wl_r (o_loadb (t := 27) Try.isAgg27 rfl hB (by rfl)) ?_
  refine wl_p (fun _ => o_ne rfl rfl) ?_
  refine wl_p (fun _ => o_pick_f rfl rfl) ?_
  refine wl_nil ?_
  refine rk_if rfl (fun h => ?_) (fun h => ?_)
  · refine rk_seq ?_
    refine rk_region ?_
    refine wl_p (fun _ => o_assign rfl) ?_
    refine wl_p (fun _ => o_assign rfl) ?_
    refine wl_nil ?_
    refine ret2 rfl rfl rfl ?_
    have he0 : e ≠ 0 := by intro h0; subst h0; exact h rfl
    exact ⟨World.grownBy.refl _ _, rfl, .inr ⟨rfl, fun h0 => absurd h0 he0, by rw [if_neg he0]; exact hR0⟩⟩
  · have he0 : e = 0 := by omega
    subst he0
    refine rk_skip ?_
    refine rk_seq ?_
    refine rk_seq ?_
    refine rk_draw (id := 3) (none) [0, 0, 2, 4, 8, 16, 0, 64, 128, 256, 544, 1024, 2049] [0, 0, 2, 6, 14, 30, 0, 64, 192, 448, 1022, 2046, 4095] 0 0 [(.p, 0), (.p, 1), (.p, 2), (.p, 3), (.r, 4), (.p, 5), (.p, 6), (.p, 7), (.p, 8), (.r, 9), (.p, 10), (.p, 11), (.p, 12)] (by kernel_rfl) (by kernel_rfl) (by kernel_rfl) (by kernel_rfl) (by kernel_rfl) ?_
    refine wl_p (fun _ => o_move rfl) ?_
    refine wl_p (fun _ => o_move rfl) ?_
    refine wl_p (fun _ => o_nil rfl) ?_
    refine wl_p (fun _ => o_faddr (s := 87) (i := 1) (off := 1) Try.underlying87 rfl Try.sizeOf26 rfl rfl rfl) ?_
    refine wl_r (o_loadb (t := 26) Try.isAgg26 rfl hB (by rfl)) ?_
    refine wl_p (fun _ => o_len (t := 26) Try.underlying26 rfl) ?_
    refine wl_p (fun _ => o_move rfl) ?_
    refine wl_p (fun _ => o_nil rfl) ?_
    refine wl_p (fun _ => o_faddr (s := 87) (i := 2) (off := 2) Try.underlying87 rfl Try.sizeOf3 rfl rfl rfl) ?_
    refine wl_r (o_loadb (t := 3) Try.isAgg3 rfl hB (by rfl)) ?_
    refine wl_p (fun _ => o_sub rfl rfl (by omega) (by omega)) ?_
    refine wl_p (fun _ => o_convu64 (src := 3) (dst := 25) Try.underlying3 Try.underlying25 rfl (by omega) (by omega)) ?_
    refine wl_p (fun _ => o_gt rfl rfl) ?_
    refine wl_nild ?_
    refine rk_if rfl (fun h => ?_) (fun h => ?_)
    · refine rk_seq ?_
      refine rk_region ?_
      refine wl_p (fun _ => o_move rfl) ?_
      refine wl_p (fun _ => o_nil rfl) ?_
      refine wl_p (fun _ => o_faddr (s := 87) (i := 3) (off := 3) Try.underlying87 rfl Try.sizeOf27 rfl rfl rfl) ?_
      refine wl_store1 Try.sizeOf27 rfl rfl rfl hB (by simp) ?_
      intro w1 hB1 hg1 hz1
      refine wl_nil ?_
      refine rk_seq ?_
      refine rk_region ?_
      refine wl_p (fun _ => o_assign rfl) ?_
      refine wl_p (fun _ => o_assign rfl) ?_
      refine wl_nil ?_
      refine ret2 rfl rfl rfl ?_
      have hg := grownBy_trans (grownBy_drew w (some g)) hg1
      exact ⟨hg, hz1, .inr ⟨rfl, fun _ => by omega, A, c, hB1, ho.kept hg (.inr hA), hc, hp, hl, by simp⟩⟩
    · refine rk_skip ?_
      refine rk_seq ?_
      refine rk_region ?_
      refine wl_p (fun _ => o_move rfl) ?_
      refine wl_p (fun _ => o_nil rfl) ?_
      refine wl_p (fun _ => o_faddr (s := 87) (i := 2) (off := 2) Try.underlying87 rfl Try.sizeOf3 rfl rfl rfl) ?_
      refine wl_r (o_loadb (t := 3) Try.isAgg3 rfl hB (by rfl)) ?_
      refine wl_p (fun _ => o_assign rfl) ?_
      refine wl_nil ?_
      refine rk_seq ?_
      refine rk_region ?_
      refine wl_p (fun _ => o_move rfl) ?_
      refine wl_p (fun _ => o_nil rfl) ?_
      refine wl_p (fun _ => o_faddr (s := 87) (i := 2) (off := 2) Try.underlying87 rfl Try.sizeOf3 rfl rfl rfl) ?_
      refine wl_r (o_loadb (t := 3) Try.isAgg3 rfl hB (by rfl)) ?_
      refine wl_p (fun _ => o_move rfl) ?_
      refine wl_p (fun _ => o_convi64 (src := 25) (dst := 3) Try.underlying25 Try.underlying3 rfl (by omega) (by omega)) ?_
      refine wl_p (fun _ => o_add rfl rfl (by omega) (by omega)) ?_
      refine wl_p (fun _ => o_nil rfl) ?_
      refine wl_p (fun _ => o_faddr (s := 87) (i := 2) (off := 2) Try.underlying87 rfl Try.sizeOf3 rfl rfl rfl) ?_
      refine wl_store1 Try.sizeOf3 rfl rfl rfl hB (by simp) ?_
      intro w1 hB1 hg1 hz1
      have hg := grownBy_trans (grownBy_drew w (some g)) hg1
      refine wl_nil ?_
      refine rk_seq ?_
      refine rk_draw (id := 8) (none) [0, 1, 2, 4, 0, 0, 32, 64, 128, 280, 1023, 2047] [0, 1, 3, 7, 0, 0, 32, 96, 224, 511, 1023, 2047] 0 0 [(.p, 0), (.p, 1), (.p, 2), (.r, 3), (.p, 4), (.p, 5), (.p, 6), (.p, 7), (.r, 8), (.p, 9), (.p, 10), (.p, 11)] (by kernel_rfl) (by kernel_rfl) (by kernel_rfl) (by kernel_rfl) (by kernel_rfl) ?_
      refine wl_p (fun _ => o_move rfl) ?_
      refine wl_p (fun _ => o_nil rfl) ?_
      refine wl_p (fun _ => o_faddr (s := 87) (i := 1) (off := 1) Try.underlying87 rfl Try.sizeOf26 rfl rfl rfl) ?_
      refine wl_r (o_loadb (t := 26) Try.isAgg26 rfl hB1 (by rfl)) ?_
      refine wl_p (fun _ => o_move rfl) ?_
      refine wl_p (fun _ => o_move rfl) ?_
      refine wl_p (fun _ => o_nil rfl) ?_
      refine wl_p (fun _ => o_faddr (s := 87) (i := 2) (off := 2) Try.underlying87 rfl Try.sizeOf3 rfl rfl rfl) ?_
      refine wl_r (o_loadb (t := 3) Try.isAgg3 rfl hB1 (by rfl)) ?_
      refine wl_p (fun _ => o_slice (lo := p) (hi := p + n) Try.underlying26 Try.sizeOf5 rfl rfl rfl rfl (by omega) (by omega) (by omega)) ?_
      refine wl_p (fun _ => o_assign rfl) ?_
      refine wl_p (fun _ => o_assign rfl) ?_
      refine wl_nild ?_
      refine ret2 rfl rfl rfl ?_
      have hr1 := ((hr.grown hg (.inr hA)).cut (c := c) hp hc).take (k := n) (by simp; omega)
      exact ⟨grownBy_trans hg (grownBy_drew _ _), hz1, .inl ⟨rfl, by omega, ⟨A, c, by simpa using hB1.drew, (ho.kept hg (.inr hA)).drew, hc, by omega, hl, by simp⟩,
        cutA A c 1 p, c - p, by rw [Nat.add_sub_cancel_left], by omega, hr1.drew, by rw [blk_cutA]; exact hA⟩⟩

theorem C_fail {g : Nat} {l : List UInt8} {p e : Nat} {qi ei : Int} (q e' : Nat) (hqi : qi = q) (hei : ei = e') (w : World) (hR : RdrI w g l p e) (hq : q ≤ l.length) (he' : e' ≤ 100) :
    CallsR Try.prog 50 [.pointer (some ⟨g, 0, none⟩), .int .i64 qi, .int .i64 ei] w fun v w' => v = .tuple #[] ∧ w.grownBy w' (some g) ∧ w'.heap.size = w.heap.size ∧ RdrI w' g l q e' := by
  subst hqi; subst hei
  obtain ⟨A, c, hB, ho, hc, hp, hl, he⟩ := hR
  have hr := ho.rd
  have hA := ho.ne hB (by decide)
  refine callsR Try.func50 rfl rfl (by kernel_rfl) rfl ?_
  refine rk_seq ?_
  refine rk_region ?_
  refine wl_p (fun _ => o_move rfl) ?_
  refine wl_p (fun _ => o_move rfl) ?_
  refine wl_p (fun _ => o_nil rfl) ?_
  refine wl_p (fun _ => o_faddr (s := 87) (i := 2) (off := 2) Try.underlying87 rfl Try.sizeOf3 rfl rfl rfl) ?_
  refine wl_store1 Try.sizeOf3 rfl rfl rfl hB (by simp) ?_
  intro w1 hB1 hg1 hz1
  refine wl_nil ?_
  refine rk_region ?_
  refine wl_p (fun _ => o_move rfl) ?_
  refine wl_p (fun _ => o_move rfl) ?_
  refine wl_p (fun _ => o_nil rfl) ?_
  refine wl_p (fun _ => o_faddr (s := 87) (i := 3) (off := 3) Try.underlying87 rfl Try.sizeOf27 rfl rfl rfl) ?_
  refine wl_store1 Try.sizeOf27 rfl rfl rfl hB1 (by simp) ?_
  intro w2 hB2 hg2 hz2
  have hg := grownBy_trans hg1 hg2
  refine wl_nil ?_
  refine end0 rfl ?_
  exact ⟨rfl, hg, by omega, A, c, by simpa using hB2, ho.kept hg (.inr hA), hc, hq, hl, he'⟩

theorem C_lz8 (c : UInt8) (w : World) : CallsR Try.prog 49 [.int .u8 (bits .xor .u8 255 c.toNat)] w fun v w' => v = .int .i64 (lead c - 1) ∧ w = w' :=
  ⟨⟨_, Try.func49, rfl, by kernel_rfl⟩, by
    have h1 : bits .xor .u8 255 (c.toNat : Int) = ((255 - c.toNat : Nat) : Int) := by
      have : ∀ c : Fin 256, bits .xor .u8 255 (c.val : Int) = ((255 - c.val : Nat) : Int) := by decide +kernel
      exact this ⟨c.toNat, c.toNat_lt⟩
    have h2 : 8 - (Lib.bitLen (255 - c.toNat) : Int) = lead c - 1 := by
      have : ∀ c : Fin 256, 8 - (Lib.bitLen (255 - c.val) : Int) = lead (UInt8.ofNat c.val) - 1 := by decide +kernel
      simpa using this ⟨c.toNat, c.toNat_lt⟩
    rw [h1]
    refine (Try.bits_LeadingZeros8 _ w (by omega) (by omega)).mono fun _ _ h => ⟨_, h.1, ?_, h.2.symm⟩
    rw [show (((255 - c.toNat : Nat) : Int)).toNat = 255 - c.toNat from by omega, h2]⟩

set_option maxHeartbeats 1000000 in
theorem C_RNumber {g : Nat} {l : List UInt8} {p e : Nat} (w : World) (hR : RdrI w g l p e) :
    CallsR Try.prog 38 [.pointer (some ⟨g, 0, none⟩)] w fun v w' => v = .int .u64 (rNumber (l.drop p, e)).1 ∧ w.grownBy w' (some g) ∧
      ∃ p', RdrI w' g l p' (rNumber (l.drop p, e)).2.2 ∧ (rNumber (l.drop p, e)).2.1 = l.drop p' := by
  refine callsR Try.func38 rfl rfl (by kernel_rfl) rfl ?_
  refine rk_seq ?_
  refine rk_region ?_
  refine wl_p (fun _ => o_assign rfl) ?_
  refine wl_nil ?_
  refine rk_seq ?_
  refine rk_region ?_
  refine wl_p (fun _ => o_move rfl) ?_
  refine wl_call rfl (C_take 1 rfl w hR) ?_
  rintro _ w13 ⟨hg13, hz13, h | h⟩
  · obtain ⟨rfl, h1, hR13, A13, c13, rfl, hc13, hr13, hA13⟩ := h
    obtain ⟨c0, t, hdt⟩ : ∃ c0 t, l.drop p = c0 :: t := by
      cases hd : l.drop p with
      | nil => have := congrArg List.length hd; simp at this; omega
      | cons c0 t => exact ⟨c0, t, rfl⟩
    rw [hdt] at hr13 ⊢
    obtain ⟨A, c, hB, ho, hc, hp, hl, he⟩ := hR13
    have hlen : t.length + 1 = l.length - p := by have := congrArg List.length hdt; simpa using this.symm
    have hdt1 : l.drop (p + 1) = t := by rw [← List.drop_drop, hdt]; rfl
    obtain ⟨b, o, rfl, hb, hcell⟩ := hr13.at_ (by simp)
    have hc0 : w13.cell? ⟨b, o + 0, none⟩ = some (.int .u8 c0.toNat) := by simpa using hcell 0 (by simp)
    have hk := lead_bd c0
    refine wl_p (fun _ => o_move rfl) ?_
    refine wl_p (fun _ => o_ext20 rfl) ?_
    refine wl_p (fun _ => o_ext21 rfl) ?_
    refine wl_p (fun _ => o_assign rfl) ?_
    refine wl_p (fun _ => o_assign rfl) ?_
    refine wl_nil ?_
    refine rk_seq ?_
    refine rk_seq ?_
    refine rk_region ?_
    refine wl_p (fun _ => o_move rfl) ?_
    refine wl_p (fun _ => o_not rfl) ?_
    refine wl_nil ?_
    refine rk_false rfl ?_
    refine rk_skip ?_
    refine rk_seq ?_
    refine rk_region ?_
    refine wl_p (fun _ => o_move rfl) ?_
    refine wl_p (fun _ => o_nil rfl) ?_
    refine wl_p (fun _ => o_faddr (s := 87) (i := 2) (off := 2) Try.underlying87 rfl Try.sizeOf3 rfl rfl rfl) ?_
    refine wl_r (o_loadb (t := 3) Try.isAgg3 rfl hB (by rfl)) ?_
    refine wl_p (fun _ => o_sub rfl rfl (by omega) (by omega)) ?_
    refine wl_p (fun _ => o_assign rfl) ?_
    refine wl_nil ?_
    refine rk_seq ?_
    refine rk_region ?_
    refine wl_p (fun _ => o_move rfl) ?_
    refine wl_p (fun _ => o_iaddr1 (j := 0) Try.underlying26 Try.sizeOf5 rfl rfl rfl (by omega)) ?_
    refine wl_r (o_load Try.isAgg5 rfl hc0) ?_
    refine wl_p (fun _ => o_compl8 rfl) ?_
    refine wl_call rfl (C_lz8 c0 w13) ?_
    rintro _ w27 ⟨rfl, rfl⟩
    refine wl_p (fun _ => o_asi (b := (lead c0 : Int)) (o_add rfl rfl (by omega) (by omega)) (by omega)) ?_
    refine wl_p (fun _ => o_assign rfl) ?_
    refine wl_nil ?_
    refine rk_seq ?_
    refine rk_region ?_
    refine wl_p (fun _ => o_move rfl) ?_
    refine wl_p (fun _ => o_move rfl) ?_
    refine wl_p (fun _ => o_sub rfl rfl (by omega) (by omega)) ?_
    refine wl_p (fun _ => o_convu64 (src := 3) (dst := 25) Try.underlying3 Try.underlying25 rfl (by omega) (by omega)) ?_
    refine wl_call rfl (C_take (lead c0 - 1) (by omega) w13 ⟨A, c, hB, ho, hc, hp, hl, he⟩) ?_
    rintro _ w34 ⟨hg34, hz34, h | h⟩
    · obtain ⟨-, h34, hR34, A34, c34, rfl, hc34, hr34, hA34⟩ := h
      rw [hdt1] at hr34
      have htk : (t.take (lead c0 - 1)).length = lead c0 - 1 := by simp; omega
      have hc34' : w34.cell? ⟨b, o + 0, none⟩ = some (.int .u8 c0.toNat) := by
        have := (hr13.grown hg34 (.inr hA13)).at_ (by simp)
        obtain ⟨b', o', e, _, h⟩ := this
        injection e with e; injection e with e1 e2; subst e1; subst e2
        simpa using h 0 (by simp)
      refine wl_p (fun _ => o_move rfl) ?_
      refine wl_p (fun _ => o_ext20 rfl) ?_
      refine wl_p (fun _ => o_ext21 rfl) ?_
      refine wl_p (fun _ => o_assign rfl) ?_
      refine wl_p (fun _ => o_assign rfl) ?_
      refine wl_nil ?_
      refine rk_seq ?_
      refine rk_seq ?_
      refine rk_region ?_
      refine wl_p (fun _ => o_move rfl) ?_
      refine wl_p (fun _ => o_not rfl) ?_
      refine wl_nil ?_
      refine rk_false rfl ?_
      refine rk_skip ?_
      refine rk_seq ?_
      refine rk_draw (id := 10) (none) [0, 1, 2, 0, 8, 20, 32, 127] [0, 1, 3, 0, 8, 31, 63, 127] 0 0 [(.p, 0), (.p, 1), (.r, 2), (.p, 3), (.p, 4), (.p, 5), (.p, 6), (.p, 7)] (by kernel_rfl) (by kernel_rfl) (by kernel_rfl) (by kernel_rfl) (by kernel_rfl) ?_
      refine wl_p (fun _ => o_move rfl) ?_
      refine wl_p (fun _ => o_iaddr1 (j := 0) Try.underlying26 Try.sizeOf5 rfl rfl rfl (by omega)) ?_
      refine wl_r (o_load Try.isAgg5 rfl hc34') ?_
      refine wl_p (fun _ => o_move rfl) ?_
      refine wl_p (fun _ => o_shr rfl rfl (by omega)) ?_
      refine wl_p (fun _ => o_asi (o_and rfl rfl) (mask_byte c0)) ?_
      have hmk : c0.toNat % 2 ^ (8 - lead c0) < 256 := Nat.lt_of_le_of_lt (Nat.mod_le _ _) c0.toNat_lt
      refine wl_p (fun _ => o_convu64 (src := 5) (dst := 25) Try.underlying5 Try.underlying25 rfl (by omega) (by omega)) ?_
      refine wl_p (fun _ => o_assign rfl) ?_
      refine wl_nild ?_
      refine rk_seq ?_
      refine rk_seq ?_
      refine rk_region ?_
      refine wl_p (fun _ => o_move rfl) ?_
      refine wl_p (fun _ => o_len (t := 26) Try.underlying26 rfl) ?_
      refine wl_p (fun _ => o_move rfl) ?_
      refine wl_nil ?_
      refine rk_block ?_
      refine rk_loop (fun m fr w' => ∃ j v q, fr = [(0, .pointer (some ⟨g, 0, none⟩)), (5, .int .i64 q), (6, .int .i64 (lead c0)), (8, .int .u64 v), (53, .slice A34 (lead c0 - 1) c34), (54, .int .i64 (lead c0 - 1 : Nat)), (55, .int .i64 (j : Nat))] ∧
        q = (p : Int) ∧ m + j = lead c0 - 1 ∧ v = (beVal (c0.toNat % 2 ^ (8 - lead c0)) (t.take j) : Int) ∧ w' = w34.drew) (n := lead c0 - 1) (by repeat' constructor) ⟨0, _, _, rfl, by omega, by omega, by simp [beVal], rfl⟩ ?_
      rintro m fr w' ⟨j, v, q, rfl, hq, hm, hv, rfl⟩
      refine rk_seq ?_
      refine rk_region ?_
      refine wl_p (fun _ => o_lt rfl rfl) ?_
      refine wl_nil ?_
      refine rk_seq ?_
      refine rk_if rfl (fun h => ?_) (fun h => ?_)
      · have hjt : j < t.length := by omega
        obtain ⟨b2, o2, rfl, -, hcell2⟩ := hr34.at_ (by intro e; rw [e] at htk; simp at htk; omega)
        have hcj : w34.drew.cell? ⟨b2, o2 + j, none⟩ = some (.int .u8 t[j].toNat) := by
          have := hcell2 j (by omega)
          rw [List.getElem_take] at this
          exact this
        have hlt := beVal_u64 c0 (t.take (j + 1)) (by rw [List.length_take]; omega)
        rw [List.take_succ_eq_append_getElem hjt, beVal_snoc] at hlt
        have h256 := Nat.lt_of_le_of_lt (Nat.le_add_right _ _) hlt
        subst hv
        refine rk_skip ?_
        refine rk_seq ?_
        refine rk_block ?_
        refine rk_seq ?_
        refine rk_region ?_
        refine wl_p (fun _ => o_iaddr1 (j := j) Try.underlying26 Try.sizeOf5 rfl rfl rfl (by omega)) ?_
        refine wl_r (o_load Try.isAgg5 rfl hcj) ?_
        refine wl_p (fun _ => o_assign rfl) ?_
        refine wl_nil ?_
        refine rk_region ?_
        refine wl_p (fun _ => o_move rfl) ?_
        refine wl_p (fun _ => o_shl rfl rfl (by omega)) ?_
        refine wl_p (fun _ => o_move rfl) ?_
        refine wl_p (fun _ => o_convu64 (src := 5) (dst := 25) Try.underlying5 Try.underlying25 rfl (by omega) (by omega)) ?_
        refine wl_p (fun _ => o_asi (o_or rfl rfl) (join_byte _ t[j] h256)) ?_
        refine wl_p (fun _ => o_assign rfl) ?_
        refine wl_nil ?_
        refine rk_blk ?_
        refine rk_region ?_
        refine wl_p (fun _ => o_add rfl rfl (by omega) (by omega)) ?_
        refine wl_p (fun _ => o_move rfl) ?_
        refine wl_nil ?_
        exact rk_again (m := m - 1) (by repeat' constructor) ⟨j + 1, _, _, rfl, hq, by omega, by rw [List.take_succ_eq_append_getElem hjt, beVal_snoc], rfl⟩ (by omega)
      · obtain rfl : j = lead c0 - 1 := by omega
        subst hv
        have hlt := beVal_u64 c0 (t.take (lead c0 - 1)) (by omega)
        have hnl : ¬ t.length + 1 < lead c0 := by omega
        have hg2 := grownBy_trans hg13 (grownBy_trans hg34 (grownBy_drew w34 _))
        refine rk_exit rfl ?_
        refine rk_seq ?_
        refine rk_seq ?_
        refine rk_region ?_
        refine wl_p (fun _ => o_move rfl) ?_
        refine wl_call rfl (C_size _ _ hlt) ?_
        rintro _ w66 ⟨rfl, rfl⟩
        refine wl_p (fun _ => o_move rfl) ?_
        refine wl_p (fun _ => o_ne rfl rfl) ?_
        refine wl_nil ?_
        refine rk_if rfl (fun h => ?_) (fun h => ?_)
        · refine rk_seq ?_
          refine rk_region ?_
          refine wl_p (fun _ => o_move rfl) ?_
          refine wl_p (fun _ => o_move rfl) ?_
          refine wl_call rfl (C_fail p 4 hq rfl _ hR34 (by omega) (by omega)) ?_
          rintro _ w71 ⟨rfl, hg71, hz71, hR71⟩
          refine wl_nil ?_
          refine rk_seq ?_
          refine rk_region ?_
          refine wl_p (fun _ => o_assign rfl) ?_
          refine wl_nil ?_
          refine ret1 rfl rfl ?_
          rw [rNumber_bad hnl (fun e => h (by rw [e]))]
          exact ⟨rfl, grownBy_trans hg2 hg71, p, hR71, hdt.symm⟩
        · refine rk_skip ?_
          refine rk_seq ?_
          refine rk_region ?_
          refine wl_p (fun _ => o_move rfl) ?_
          refine wl_p (fun _ => o_assign rfl) ?_
          refine wl_nil ?_
          refine ret1 rfl rfl ?_
          rw [rNumber_ok hnl (by omega)]
          exact ⟨rfl, hg2, _, hR34, by rw [← List.drop_drop, hdt1]⟩
    · obtain ⟨rfl, h34, hR34⟩ := h
      rw [if_pos rfl] at hR34
      have hR34' := hR34
      obtain ⟨A, c, hB, -⟩ := hR34'
      refine wl_p (fun _ => o_move rfl) ?_
      refine wl_p (fun _ => o_ext20 rfl) ?_
      refine wl_p (fun _ => o_ext21 rfl) ?_
      refine wl_p (fun _ => o_assign rfl) ?_
      refine wl_p (fun _ => o_assign rfl) ?_
      refine wl_nil ?_
      refine rk_seq ?_
      refine rk_seq ?_
      refine rk_region ?_
      refine wl_p (fun _ => o_move rfl) ?_
      refine wl_p (fun _ => o_not rfl) ?_
      refine wl_nil ?_
      refine rk_true rfl ?_
      refine rk_seq ?_
      refine rk_region ?_
      refine wl_p (fun _ => o_move rfl) ?_
      refine wl_p (fun _ => o_move rfl) ?_
      refine wl_p (fun _ => o_move rfl) ?_
      refine wl_p (fun _ => o_nil rfl) ?_
      refine wl_p (fun _ => o_faddr (s := 87) (i := 3) (off := 3) Try.underlying87 rfl Try.sizeOf27 rfl rfl rfl) ?_
      refine wl_r (o_loadb (t := 27) Try.isAgg27 rfl hB (by rfl)) ?_
      refine wl_call rfl (C_fail p 5 (by omega) rfl w34 hR34 (by omega) (by omega)) ?_
      rintro _ w45 ⟨rfl, hg45, hz45, hR45⟩
      refine wl_nil ?_
      refine rk_seq ?_
      refine rk_region ?_
      refine wl_p (fun _ => o_assign rfl) ?_
      refine wl_nil ?_
      refine ret1 rfl rfl ?_
      have := h34 rfl
      rw [rNumber_more (by omega)]
      exact ⟨rfl, grownBy_trans hg13 (grownBy_trans hg34 hg45), p, hR45, hdt.symm⟩
  · obtain ⟨rfl, h1, hR13⟩ := h
    refine wl_p (fun _ => o_move rfl) ?_
    refine wl_p (fun _ => o_ext20 rfl) ?_
    refine wl_p (fun _ => o_ext21 rfl) ?_
    refine wl_p (fun _ => o_assign rfl) ?_
    refine wl_p (fun _ => o_assign rfl) ?_
    refine wl_nil ?_
    refine rk_seq ?_
    refine rk_seq ?_
    refine rk_region ?_
    refine wl_p (fun _ => o_move rfl) ?_
    refine wl_p (fun _ => o_not rfl) ?_
    refine wl_nil ?_
    refine rk_true rfl ?_
    refine rk_seq ?_
    refine rk_region ?_
    refine wl_p (fun _ => o_assign rfl) ?_
    refine wl_nil ?_
    refine ret1 rfl rfl ?_
    by_cases he : e = 0
    · subst he
      have hd : l.drop p = [] := List.drop_eq_nil_of_le (by have := h1 rfl; omega)
      exact ⟨by rw [hd, rNumber_nil]; rfl, hg13, p, by rw [hd, rNumber_nil]; exact hR13, by rw [hd, rNumber_nil]⟩
    · rw [if_neg he] at hR13
      exact ⟨by rw [rNumber_err he]; rfl, hg13, p, by rw [rNumber_err he]; exact hR13, by rw [rNumber_err he]⟩

theorem RdrI.below {w w' : World} {g : Nat} {l : List UInt8} {p e : Nat} (h : RdrI w g l p e) (hb : Below w.heap.size w w') : RdrI w' g l p e := by
  obtain ⟨A, c, hB, ho, h⟩ := h
  exact ⟨A, c, hB.under hb, ho.below hb, h⟩
theorem RdrI.grown {w w' : World} {g k t : Nat} {cs : List Value} {l : List UInt8} {p e : Nat} (h : RdrI w g l p e) (hg : w.grownBy w' (some k)) (hB : Blk w k t cs) (ht : t ≠ 5) (hk : k ≠ g) : RdrI w' g l p e := by
  obtain ⟨A, c, hB', ho, h⟩ := h
  exact ⟨A, c, hB'.grown hg (by intro e; injection e with e; exact hk e.symm), ho.kept hg (.inr (ho.ne hB ht)), h⟩
theorem RdrI.drew {w : World} {g : Nat} {l : List UInt8} {p e : Nat} (h : RdrI w g l p e) : RdrI w.drew g l p e := h
theorem RdrI.blk' {w : World} {g : Nat} {l : List UInt8} {p e : Nat} (h : RdrI w g l p e) : ∃ A c, Blk w g 87 [.pointer (some ⟨g, 0, none⟩), .slice A l.length c, .int .i64 p, .int .i64 e] ∧ p ≤ l.length ∧ l.length ≤ 140737488355328 ∧ e ≤ 100 := by
  obtain ⟨A, c, hB, ho, hc, hp, hl, he⟩ := h
  exact ⟨A, c, hB, hp, hl, he⟩

theorem C_RWord {g : Nat} {l : List UInt8} {p e : Nat} (size : Int) (w : World) (hR : RdrI w g l p e) :
    CallsR Try.prog 36 [.pointer (some ⟨g, 0, none⟩), .int .i64 size] w fun v w' => v = .int .u64 (rWord size (l.drop p, e)).1 ∧ w.grownBy w' (some g) ∧
      ∃ p', RdrI w' g l p' (rWord size (l.drop p, e)).2.2 ∧ (rWord size (l.drop p, e)).2.1 = l.drop p' := by
  obtain ⟨hk1, hk2, hk3⟩ := clampN_bd size
  refine callsR Try.func36 rfl rfl (by kernel_rfl) rfl ?_
  refine rk_seq ?_
  refine rk_region ?_
  refine wl_p (fun _ => o_assign rfl) ?_
  refine wl_nil ?_
  refine rk_seq ?_
  refine rk_region ?_
  refine wl_p (fun _ => o_move rfl) ?_
  refine wl_p (fun _ => o_move rfl) ?_
  refine wl_call rfl (C_clamp size w) ?_
  rintro _ w1 ⟨rfl, rfl⟩
  rw [hk3]
  refine wl_p (fun _ => o_convu64 (src := 3) (dst := 25) Try.underlying3 Try.underlying25 rfl (by omega) (by omega)) ?_
  refine wl_call rfl (C_take (clampN size) rfl w hR) ?_
  rintro _ w3 ⟨hg3, hz3, h | h⟩
  · obtain ⟨rfl, h3, hR3, A3, c3, rfl, hc3, hr3, hA3⟩ := h
    have hb1 : rTake (clampN size) (l.drop p, 0) = ((l.drop p).take (clampN size), ((l.drop p).drop (clampN size), 0)) := by
      unfold rTake
      rw [if_neg (by simp), if_neg (by simp; omega)]
    unfold rWord
    rw [hb1]
    have hlen : ((l.drop p).take (clampN size)).length = clampN size := by simp; omega
    generalize (l.drop p).take (clampN size) = b at *
    refine wl_p (fun _ => o_move rfl) ?_
    refine wl_p (fun _ => o_ext20 rfl) ?_
    refine wl_p (fun _ => o_ext21 rfl) ?_
    refine wl_p (fun _ => o_assign rfl) ?_
    refine wl_p (fun _ => o_assign rfl) ?_
    refine wl_nil ?_
    refine rk_seq ?_
    refine rk_seq ?_
    refine rk_region ?_
    refine wl_p (fun _ => o_move rfl) ?_
    refine wl_p (fun _ => o_not rfl) ?_
    refine wl_nil ?_
    refine rk_false rfl ?_
    refine rk_skip ?_
    refine rk_seq ?_
    refine rk_region ?_
    refine wl_p (fun _ => o_assign rfl) ?_
    refine wl_nil ?_
    refine rk_seq ?_
    refine rk_seq ?_
    refine rk_region ?_
    refine wl_p (fun _ => o_move rfl) ?_
    refine wl_p (fun _ => o_len (t := 26) Try.underlying26 rfl) ?_
    refine wl_p (fun _ => o_move rfl) ?_
    refine wl_nil ?_
    refine rk_block ?_
    refine rk_loop (fun m fr w' => ∃ j v, fr = [(7, .int .u64 v), (20, .slice A3 (clampN size) c3), (21, .int .i64 (clampN size : Nat)), (22, .int .i64 (j : Nat))] ∧ m + j = clampN size ∧ v = leVal (b.take j) ∧ w' = w3) (n := clampN size) (by repeat' constructor)
      ⟨0, _, rfl, by omega, by simp [leVal], rfl⟩ ?_
    rintro m fr w' ⟨j, v, rfl, hm, rfl, rfl⟩
    refine rk_seq ?_
    refine rk_region ?_
    refine wl_p (fun _ => o_lt rfl rfl) ?_
    refine wl_nil ?_
    refine rk_seq ?_
    refine rk_if rfl (fun h => ?_) (fun h => ?_)
    · have hjb : j < b.length := by omega
      obtain ⟨b2, o2, rfl, -, hcell2⟩ := hr3.at_ (by intro e; rw [e] at hlen; simp at hlen; omega)
      have hcj := hcell2 j hjb
      have htl : (b.take j).length = j := by simp; omega
      have hby := b[j].toNat_lt
      refine rk_skip ?_
      refine rk_seq ?_
      refine rk_block ?_
      refine rk_seq ?_
      refine rk_region ?_
      refine wl_p (fun _ => o_move rfl) ?_
      refine wl_p (fun _ => o_iaddr1 (j := j) Try.underlying26 Try.sizeOf5 rfl rfl rfl (by omega)) ?_
      refine wl_r (o_load Try.isAgg5 rfl hcj) ?_
      refine wl_p (fun _ => o_assign rfl) ?_
      refine wl_p (fun _ => o_assign rfl) ?_
      refine wl_nil ?_
      refine rk_region ?_
      refine wl_p (fun _ => o_move rfl) ?_
      refine wl_p (fun _ => o_move rfl) ?_
      refine wl_p (fun _ => o_convu64 (src := 5) (dst := 25) Try.underlying5 Try.underlying25 rfl (by omega) (by omega)) ?_
      refine wl_p (fun _ => o_move rfl) ?_
      refine wl_p (fun _ => o_mul rfl rfl (by omega) (by omega)) ?_
      refine wl_p (fun _ => o_shl rfl rfl (by omega)) ?_
      refine wl_p (fun _ => o_asi (b := (leVal (b.take (j + 1)) : Int)) (o_or rfl rfl) (by
        rw [List.take_succ_eq_append_getElem hjb, ← or_byte (b.take j) b[j] (by omega), htl])) ?_
      refine wl_p (fun _ => o_assign rfl) ?_
      refine wl_nil ?_
      refine rk_blk ?_
      refine rk_region ?_
      refine wl_p (fun _ => o_add rfl rfl (by omega) (by omega)) ?_
      refine wl_p (fun _ => o_move rfl) ?_
      refine wl_nil ?_
      exact rk_again (m := m - 1) (by repeat' constructor) ⟨j + 1, _, rfl, by omega, rfl, rfl⟩ (by omega)
    · obtain rfl : j = clampN size := by omega
      rw [List.take_of_length_le (Nat.le_of_eq hlen)]
      refine rk_exit rfl ?_
      refine rk_seq ?_
      refine rk_region ?_
      refine wl_p (fun _ => o_move rfl) ?_
      refine wl_p (fun _ => o_assign rfl) ?_
      refine wl_nil ?_
      refine ret1 rfl rfl ?_
      exact ⟨rfl, hg3, _, hR3, by rw [List.drop_drop]⟩
  · obtain ⟨rfl, h3, hR3⟩ := h
    have hb1 : rTake (clampN size) (l.drop p, e) = ([], (l.drop p, if e = 0 then 5 else e)) := by
      unfold rTake
      by_cases he : e = 0
      · rw [if_neg (by simp [he]), if_pos (by simp; exact h3 he), if_pos he]
      · rw [if_pos he, if_neg he]
    unfold rWord
    rw [hb1]
    refine wl_p (fun _ => o_move rfl) ?_
    refine wl_p (fun _ => o_ext20 rfl) ?_
    refine wl_p (fun _ => o_ext21 rfl) ?_
    refine wl_p (fun _ => o_assign rfl) ?_
    refine wl_p (fun _ => o_assign rfl) ?_
    refine wl_nil ?_
    refine rk_seq ?_
    refine rk_seq ?_
    refine rk_region ?_
    refine wl_p (fun _ => o_move rfl) ?_
    refine wl_p (fun _ => o_not rfl) ?_
    refine wl_nil ?_
    refine rk_true rfl ?_
    refine rk_seq ?_
    refine rk_region ?_
    refine wl_p (fun _ => o_assign rfl) ?_
    refine wl_nil ?_
    refine ret1 rfl rfl ?_
    exact ⟨rfl, hg3, p, hR3, rfl⟩

theorem C_RErr {g : Nat} {l : List UInt8} {p e : Nat} (w : World) (hR : RdrI w g l p e) :
    CallsR Try.prog 37 [.pointer (some ⟨g, 0, none⟩)] w fun v w' => v = .int .i64 e ∧ w = w' := by
  obtain ⟨A, c, hB, hp, hl, he⟩ := hR.blk'
  refine callsR Try.func37 rfl rfl (by kernel_rfl) rfl ?_
  refine rk_seq ?_
  refine rk_region ?_
  refine wl_p (fun _ => o_assign rfl) ?_
  refine wl_nil ?_
  refine rk_seq ?_
  refine rk_seq ?_
  refine rk_region ?_
  refine wl_p (fun _ => o_move rfl) ?_
  refine wl_call rfl (C_made w hB) ?_
  rintro _ w1 ⟨rfl, rfl⟩
  refine wl_p (fun _ => o_not rfl) ?_
  refine wl_nil ?_
  refine rk_false rfl ?_
  refine rk_skip ?_
  refine rk_seq ?_
  refine rk_region ?_
  refine wl_p (fun _ => o_move rfl) ?_
  refine wl_p (fun _ => o_nil rfl) ?_
  refine wl_p (fun _ => o_faddr (s := 87) (i := 3) (off := 3) Try.underlying87 rfl Try.sizeOf27 rfl rfl rfl) ?_
  refine wl_r (o_loadb (t := 27) Try.isAgg27 rfl hB (by rfl)) ?_
  refine wl_p (fun _ => o_assign rfl) ?_
  refine wl_nil ?_
  refine ret1 rfl rfl ?_
  exact ⟨rfl, rfl⟩

theorem C_RLeft {g : Nat} {l : List UInt8} {p e : Nat} (w : World) (hR : RdrI w g l p e) :
    CallsR Try.prog 39 [.pointer (some ⟨g, 0, none⟩)] w fun v w' => v = .int .i64 (l.drop p).length ∧ w.drew = w' := by
  obtain ⟨A, c, hB, hp, hl, he⟩ := hR.blk'
  refine callsR Try.func39 rfl rfl (by kernel_rfl) rfl ?_
  refine rk_seq ?_
  refine rk_region ?_
  refine wl_p (fun _ => o_assign rfl) ?_
  refine wl_nil ?_
  refine rk_seq ?_
  refine rk_seq ?_
  refine rk_region ?_
  refine wl_p (fun _ => o_move rfl) ?_
  refine wl_call rfl (C_made w hB) ?_
  rintro _ w1 ⟨rfl, rfl⟩
  refine wl_p (fun _ => o_not rfl) ?_
  refine wl_nil ?_
  refine rk_false rfl ?_
  refine rk_skip ?_
  refine rk_seq ?_
  refine rk_draw (id := 3) (none) [0, 1, 2, 4, 8, 0, 32, 64, 128, 272, 1023] [0, 1, 3, 7, 15, 0, 32, 96, 224, 511, 1023] 0 0 [(.p, 0), (.p, 1), (.p, 2), (.r, 3), (.p, 4), (.p, 5), (.p, 6), (.p, 7), (.r, 8), (.p, 9), (.p, 10)] (by kernel_rfl) (by kernel_rfl) (by kernel_rfl) (by kernel_rfl) (by kernel_rfl) ?_
  refine wl_p (fun _ => o_move rfl) ?_
  refine wl_p (fun _ => o_nil rfl) ?_
  refine wl_p (fun _ => o_faddr (s := 87) (i := 1) (off := 1) Try.underlying87 rfl Try.sizeOf26 rfl rfl rfl) ?_
  refine wl_r (o_loadb (t := 26) Try.isAgg26 rfl hB (by rfl)) ?_
  refine wl_p (fun _ => o_len (t := 26) Try.underlying26 rfl) ?_
  refine wl_p (fun _ => o_move rfl) ?_
  refine wl_p (fun _ => o_nil rfl) ?_
  refine wl_p (fun _ => o_faddr (s := 87) (i := 2) (off := 2) Try.underlying87 rfl Try.sizeOf3 rfl rfl rfl) ?_
  refine wl_r (o_loadb (t := 3) Try.isAgg3 rfl hB (by rfl)) ?_
  refine wl_p (fun _ => o_sub rfl rfl (by omega) (by omega)) ?_
  refine wl_p (fun _ => o_assign rfl) ?_
  refine wl_nild ?_
  refine ret1 rfl rfl ?_
  exact ⟨by rw [List.length_drop]; congr 1; omega, rfl⟩

theorem Try.build_Reader (A : Option Addr) (n c : Nat) (w : World) : (Instr.build 87 ([1].zip [Value.slice A n c]).toArray).run Try.prog w = .ok (.agg #[.pointer none, .slice A n c, .int .i64 0, .int .i64 0]) w := by kernel_rfl

theorem C_Read {A : Option Addr} {l : List UInt8} {k : Nat} (c : Nat) (hk : k = l.length) (w : World) (hr : Rd w A l) (hl : l.length ≤ 140737488355328) :
    CallsR Try.prog 35 [.slice A k c] w fun v w' => ∃ g, v = .pointer (some ⟨g, 0, none⟩) ∧ w.heap.size ≤ g ∧ g < w'.heap.size ∧ RdrI w' g l 0 0 ∧ Below w.heap.size w w' := by
  refine callsR Try.func35 rfl rfl (by kernel_rfl) rfl ?_
  refine rk_seq ?_
  refine rk_region ?_
  refine wl_p (fun _ => o_assign rfl) ?_
  refine wl_nil ?_
  refine rk_seq ?_
  refine rk_region ?_
  refine wl_p (fun _ => o_move rfl) ?_
  refine wl_call rfl (C_grown c hk 0 w hr (by omega) (by omega)) ?_
  rintro _ w5 ⟨A5, c5, rfl, hown5, hb5⟩
  refine wl_p (fun _ => o_build (is := [1]) (xs := [.tmp 5]) rfl (fun _ => Try.build_Reader _ _ _ _)) ?_
  refine wl_box [.pointer none, .slice A5 l.length c5, .int .i64 0, .int .i64 0] rfl rfl ?_
  intro w1 hB1 hb1 hz1
  refine wl_p (fun _ => o_assign rfl) ?_
  refine wl_nil ?_
  refine rk_seq ?_
  refine rk_region ?_
  refine wl_p (fun _ => o_move rfl) ?_
  refine wl_p (fun _ => o_move rfl) ?_
  refine wl_p (fun _ => o_nil rfl) ?_
  refine wl_p (fun _ => o_faddr (s := 87) (i := 0) (off := 0) Try.underlying87 rfl Try.sizeOf72 rfl rfl rfl) ?_
  refine wl_store1 Try.sizeOf72 rfl rfl rfl hB1 (by simp) ?_
  intro w6 hB6 hg6 hz6
  refine wl_nil ?_
  refine rk_seq ?_
  refine rk_region ?_
  refine wl_p (fun _ => o_move rfl) ?_
  refine wl_p (fun _ => o_assign rfl) ?_
  refine wl_nil ?_
  refine ret1 rfl rfl ?_
  have hlt := hown5.lt
  have hs5 := hb5.size
  have hb6 : Below w5.heap.size w5 w6 := hb1.trans (below_of_grownBy hg6 (by omega) (Nat.le_refl _))
  have hsz : w6.heap.size = w5.heap.size + 1 := by rw [hz6, hz1]
  have hA5 : blk A5 ≠ some w5.heap.size := fun e => by have := hlt _ e; omega
  have hc5 : l.length ≤ c5 := by
    rcases hown5.2 with ⟨h1, h2⟩ | ⟨g', cap, cur, h1, h2, h3, h4, h5⟩
    · omega
    · injection h1 with _ _ h1; omega
  exact ⟨w5.heap.size, rfl, hs5, by omega, ⟨A5, c5, by simpa using hB6, (hown5.below hb6).base (by omega), hc5, by omega, hl, by omega⟩, hb5.trans (hb6.mono hs5)⟩

/-! A reader that is nil. -/
theorem C_take_nil (n : Int) (w : World) : CallsR Try.prog 47 [.pointer none, .int .u64 n] w fun v w' => v = .tuple #[.slice none 0 0, .bool false] ∧ w = w' := by
  refine callsR Try.func47 rfl rfl (by kernel_rfl) rfl ?_
  refine rk_seq ?_
  refine rk_region ?_
  refine wl_p (fun _ => o_assign rfl) ?_
  refine wl_p (fun _ => o_assign rfl) ?_
  refine wl_nil ?_
  refine rk_seq ?_
  refine rk_seq ?_
  refine rk_region ?_
  refine wl_p (fun _ => o_move rfl) ?_
  refine wl_call rfl (C_made_nil w) ?_
  rintro _ w8 ⟨rfl, rfl⟩
  refine wl_p (fun _ => o_not rfl) ?_
  refine wl_p (fun _ => o_move rfl) ?_
  refine wl_off ?_
  refine wl_off ?_
  refine wl_off ?_
  refine wl_off ?_
  refine wl_off ?_
  refine wl_p (fun _ => o_pick_t rfl rfl) ?_
  refine wl_nil ?_
  refine rk_true rfl ?_
  refine rk_seq ?_
  refine rk_region ?_
  refine wl_p (fun _ => o_assign rfl) ?_
  refine wl_p (fun _ => o_assign rfl) ?_
  refine wl_nil ?_
  refine ret2 rfl rfl rfl ?_
  exact ⟨rfl, rfl⟩
theorem C_RNumber_nil (w : World) : CallsR Try.prog 38 [.pointer none] w fun v w' => v = .int .u64 0 ∧ w = w' := by
  refine callsR Try.func38 rfl rfl (by kernel_rfl) rfl ?_
  refine rk_seq ?_
  refine rk_region ?_
  refine wl_p (fun _ => o_assign rfl) ?_
  refine wl_nil ?_
  refine rk_seq ?_
  refine rk_region ?_
  refine wl_p (fun _ => o_move rfl) ?_
  refine wl_call rfl (C_take_nil 1 w) ?_
  rintro _ w8 ⟨rfl, rfl⟩
  refine wl_p (fun _ => o_move rfl) ?_
  refine wl_p (fun _ => o_ext20 rfl) ?_
  refine wl_p (fun _ => o_ext21 rfl) ?_
  refine wl_p (fun _ => o_assign rfl) ?_
  refine wl_p (fun _ => o_assign rfl) ?_
  refine wl_nil ?_
  refine rk_seq ?_
  refine rk_seq ?_
  refine rk_region ?_
  refine wl_p (fun _ => o_move rfl) ?_
  refine wl_p (fun _ => o_not rfl) ?_
  refine wl_nil ?_
  refine rk_true rfl ?_
  refine rk_seq ?_
  refine rk_region ?_
  refine wl_p (fun _ => o_assign rfl) ?_
  refine wl_nil ?_
  refine ret1 rfl rfl ?_
  exact ⟨rfl, rfl⟩
theorem C_RWord_nil (n : Int) (w : World) : CallsR Try.prog 36 [.pointer none, .int .i64 n] w fun v w' => v = .int .u64 0 ∧ w = w' := by
  obtain ⟨hk1, hk2, hk3⟩ := clampN_bd n
  refine callsR Try.func36 rfl rfl (by kernel_rfl) rfl ?_
  refine rk_seq ?_
  refine rk_region ?_
  refine wl_p (fun _ => o_assign rfl) ?_
  refine wl_nil ?_
  refine rk_seq ?_
  refine rk_region ?_
  refine wl_p (fun _ => o_move rfl) ?_
  refine wl_p (fun _ => o_move rfl) ?_
  refine wl_call rfl (C_clamp n w) ?_
  rintro _ w1 ⟨rfl, rfl⟩
  rw [hk3]
  refine wl_p (fun _ => o_convu64 (src := 3) (dst := 25) Try.underlying3 Try.underlying25 rfl (by omega) (by omega)) ?_
  refine wl_call rfl (C_take_nil _ w) ?_
  rintro _ w8 ⟨rfl, rfl⟩
  refine wl_p (fun _ => o_move rfl) ?_
  refine wl_p (fun _ => o_ext20 rfl) ?_
  refine wl_p (fun _ => o_ext21 rfl) ?_
  refine wl_p (fun _ => o_assign rfl) ?_
  refine wl_p (fun _ => o_assign rfl) ?_
  refine wl_nil ?_
  refine rk_seq ?_
  refine rk_seq ?_
  refine rk_region ?_
  refine wl_p (fun _ => o_move rfl) ?_
  refine wl_p (fun _ => o_not rfl) ?_
  refine wl_nil ?_
  refine rk_true rfl ?_
  refine rk_seq ?_
  refine rk_region ?_
  refine wl_p (fun _ => o_assign rfl) ?_
  refine wl_nil ?_
  refine ret1 rfl rfl ?_
  exact ⟨rfl, rfl⟩
theorem C_RErr_nil (w : World) : CallsR Try.prog 37 [.pointer none] w fun v w' => v = .int .i64 1 ∧ w = w' := by
  refine callsR Try.func37 rfl rfl (by kernel_rfl) rfl ?_
  refine rk_seq ?_
  refine rk_region ?_
  refine wl_p (fun _ => o_assign rfl) ?_
  refine wl_nil ?_
  refine rk_seq ?_
  refine rk_seq ?_
  refine rk_region ?_
  refine wl_p (fun _ => o_move rfl) ?_
  refine wl_call rfl (C_made_nil w) ?_
  rintro _ w8 ⟨rfl, rfl⟩
  refine wl_p (fun _ => o_not rfl) ?_
  refine wl_nil ?_
  refine rk_true rfl ?_
  refine rk_seq ?_
  refine rk_region ?_
  refine wl_p (fun _ => o_assign rfl) ?_
  refine wl_nil ?_
  refine ret1 rfl rfl ?_
  exact ⟨rfl, rfl⟩
theorem C_RLeft_nil (w : World) : CallsR Try.prog 39 [.pointer none] w fun v w' => v = .int .i64 0 ∧ w = w' := by
  refine callsR Try.func39 rfl rfl (by kernel_rfl) rfl ?_
  refine rk_seq ?_
  refine rk_region ?_
  refine wl_p (fun _ => o_assign rfl) ?_
  refine wl_nil ?_
  refine rk_seq ?_
  refine rk_seq ?_
  refine rk_region ?_
  refine wl_p (fun _ => o_move rfl) ?_
  refine wl_call rfl (C_made_nil w) ?_
  rintro _ w8 ⟨rfl, rfl⟩
  refine wl_p (fun _ => o_not rfl) ?_
  refine wl_nil ?_
  refine rk_true rfl ?_
  refine rk_seq ?_
  refine rk_region ?_
  refine wl_p (fun _ => o_assign rfl) ?_
  refine wl_nil ?_
  refine ret1 rfl rfl ?_
  exact ⟨rfl, rfl⟩
theorem B8_zeros (n : Nat) : B8 (nulls n) = List.replicate n (.int .u8 0) := by simp [B8, nulls]

end Go.Proofs.Ytpjedpmbninfcaa
