/-
  Walks of the document's answer for chapter 1: its reader's words and digests.
-/
import Derived.Test.YtifbbbbgefpgkaaOctF
namespace Go.Proofs.Ytifbbbbgefpgkaa
open Go.RowKit

theorem rTake_le (n : Nat) (s : RS) : (rTake n s).1.length ≤ n := by
  unfold rTake
  split
  · simp
  · split
    · simp
    · simp; omega
theorem rTake_all (n : Nat) (s : RS) : (rTake n s).2.2 = 0 → (rTake n s).1.length = n := by
  unfold rTake
  intro h
  split at h <;> rename_i h1
  · exact absurd h h1
  · rw [if_neg h1]
    split at h <;> rename_i h2
    · exact absurd h (by simp)
    · rw [if_neg h2]; simp; omega
theorem rTake_none (n : Nat) (s : RS) (h : (rTake n s).2.2 ≠ 0) : (rTake n s).1 = [] := by
  unfold rTake at h ⊢
  split <;> rename_i h1
  · rfl
  · rw [if_neg h1] at h
    split <;> rename_i h2
    · rfl
    · rw [if_neg h2] at h; exact absurd rfl h

theorem C_refRWord {g : Nat} {s : RS} (size : Int) (w : World) (hR : Rfr w g s) :
    CallsR Try.prog 25 [.pointer (some ⟨g, 0, none⟩), .int .i64 size] w fun v w' => v = .int .u64 (rWord size s).1 ∧ w.grownBy w' (some g) ∧ Rfr w' g (rWord size s).2 := by
  obtain ⟨hk1, hk2, hk3⟩ := clampN_bd size
  have hcl : min (max size 1) 8 = (clampN size : Int) := by omega
  refine callsR Try.func25 rfl rfl (by kernel_rfl) rfl ?_
  repeat (first | refine rk_seq ?_ | refine rk_region ?_ | refine rk_block ?_ | refine rk_blk ?_ | refine rk_skip ?_ | refine rk_label ?_ | refine wl_nil ?_ | refine wl_nild ?_ | refine rk_exit rfl ?_ | refine rk_true rfl ?_ | refine rk_false rfl ?_ | refine wl_p (fun _ => o_assign rfl) ?_ | refine wl_p (fun _ => o_move rfl) ?_ | refine wl_p (fun _ => o_max rfl rfl) ?_ | refine wl_p (fun _ => o_min rfl rfl) ?_ | refine wl_p (fun _ => o_len (t := 24) Try.underlying24 rfl) ?_ | refine wl_p (fun _ => o_sub rfl rfl (by omega) (by omega)) ?_ | refine wl_p (fun _ => o_ge rfl rfl) ?_ | refine wl_p (fun _ => o_mulw rfl rfl) ?_ | refine wl_r (o_loadb (t := 5) Try.isAgg5 rfl hB (by rfl)) ?_ | refine wl_p (fun _ => o_convu64 (src := 5) (dst := 22) Try.underlying5 Try.underlying22 rfl (by omega) (by omega)) ?_ | refine wl_p (fun _ => o_addw rfl rfl) ?_)
  rw [hcl]
  refine wl_call rfl (C_refTake (clampN size) w hR (by omega)) ?_
  rintro _ w1 ⟨⟨A, c, rfl, hown⟩, hg1, hR1⟩
  have hle := rTake_le (clampN size) s
  unfold rWord
  rw [Int.toNat_natCast] at hown hR1 ⊢
  generalize rTake (clampN size) s = y at *
  obtain ⟨b, s2⟩ := y
  simp only at hown hR1 hle ⊢
  repeat (first | refine rk_seq ?_ | refine rk_region ?_ | refine rk_block ?_ | refine rk_blk ?_ | refine rk_skip ?_ | refine rk_label ?_ | refine wl_nil ?_ | refine wl_nild ?_ | refine rk_exit rfl ?_ | refine rk_true rfl ?_ | refine rk_false rfl ?_ | refine wl_p (fun _ => o_assign rfl) ?_ | refine wl_p (fun _ => o_move rfl) ?_ | refine wl_p (fun _ => o_max rfl rfl) ?_ | refine wl_p (fun _ => o_min rfl rfl) ?_ | refine wl_p (fun _ => o_len (t := 24) Try.underlying24 rfl) ?_ | refine wl_p (fun _ => o_sub rfl rfl (by omega) (by omega)) ?_ | refine wl_p (fun _ => o_ge rfl rfl) ?_ | refine wl_p (fun _ => o_mulw rfl rfl) ?_ | refine wl_r (o_loadb (t := 5) Try.isAgg5 rfl hB (by rfl)) ?_ | refine wl_p (fun _ => o_convu64 (src := 5) (dst := 22) Try.underlying5 Try.underlying22 rfl (by omega) (by omega)) ?_ | refine wl_p (fun _ => o_addw rfl rfl) ?_)
  refine rk_joinb (fun fr w' => fr = [(5, .slice A b.length c), (6, .int .u64 (leVal b : Nat))] ∧ w1 = w') ?_ (fun ks hj => ?_)
  rotate_left
  · refine rk_loop (fun m fr w' => ∃ (u v : Int), fr = [(5, .slice A b.length c), (6, .int .u64 u), (7, .int .i64 v)] ∧ u = (leVal (b.drop m) : Nat) ∧ v = (m : Int) - 1 ∧ m ≤ b.length ∧ w1 = w') (n := b.length) (by repeat' constructor)
      ⟨_, _, rfl, by simp [leVal], rfl, Nat.le_refl _, rfl⟩ ?_
    rintro m fr _ ⟨u, v, rfl, rfl, rfl, hm, rfl⟩
    repeat (first | refine rk_seq ?_ | refine rk_region ?_ | refine rk_block ?_ | refine rk_blk ?_ | refine rk_skip ?_ | refine rk_label ?_ | refine wl_nil ?_ | refine wl_nild ?_ | refine rk_exit rfl ?_ | refine rk_true rfl ?_ | refine rk_false rfl ?_ | refine wl_p (fun _ => o_assign rfl) ?_ | refine wl_p (fun _ => o_move rfl) ?_ | refine wl_p (fun _ => o_max rfl rfl) ?_ | refine wl_p (fun _ => o_min rfl rfl) ?_ | refine wl_p (fun _ => o_len (t := 24) Try.underlying24 rfl) ?_ | refine wl_p (fun _ => o_sub rfl rfl (by omega) (by omega)) ?_ | refine wl_p (fun _ => o_ge rfl rfl) ?_ | refine wl_p (fun _ => o_mulw rfl rfl) ?_ | refine wl_r (o_loadb (t := 5) Try.isAgg5 rfl hB (by rfl)) ?_ | refine wl_p (fun _ => o_convu64 (src := 5) (dst := 22) Try.underlying5 Try.underlying22 rfl (by omega) (by omega)) ?_ | refine wl_p (fun _ => o_addw rfl rfl) ?_)
    refine rk_if rfl (fun h => ?_) (fun h => ?_)
    · obtain ⟨j, rfl⟩ : ∃ j, m = j + 1 := ⟨m - 1, by omega⟩
      have hjb : j < b.length := by omega
      have e1 : b.drop j = b[j] :: b.drop (j + 1) := by rw [List.drop_eq_getElem_cons hjb]
      have hlt := leVal_u64 (b.drop j) (by rw [List.length_drop]; omega)
      have hb256 : b[j].toNat < 256 := b[j].toNat_lt
      rw [e1] at hlt
      simp only [leVal] at hlt
      obtain ⟨bb, oo, rfl, hbl, hcell⟩ := hown.rd.at_ (by intro e; rw [e] at hjb; simp at hjb)
      have hcj := hcell j hjb
      repeat (first | refine rk_seq ?_ | refine rk_region ?_ | refine rk_block ?_ | refine rk_blk ?_ | refine rk_skip ?_ | refine rk_label ?_ | refine wl_nil ?_ | refine wl_nild ?_ | refine rk_exit rfl ?_ | refine rk_true rfl ?_ | refine rk_false rfl ?_ | refine wl_p (fun _ => o_assign rfl) ?_ | refine wl_p (fun _ => o_move rfl) ?_ | refine wl_p (fun _ => o_max rfl rfl) ?_ | refine wl_p (fun _ => o_min rfl rfl) ?_ | refine wl_p (fun _ => o_len (t := 24) Try.underlying24 rfl) ?_ | refine wl_p (fun _ => o_sub rfl rfl (by omega) (by omega)) ?_ | refine wl_p (fun _ => o_ge rfl rfl) ?_ | refine wl_r (o_loadb (t := 5) Try.isAgg5 rfl hB (by rfl)) ?_ | refine wl_p (fun _ => o_convu64 (src := 5) (dst := 22) Try.underlying5 Try.underlying22 rfl (by omega) (by omega)) ?_ | refine wl_p (fun _ => o_addw rfl rfl) ?_)
      refine wl_p (fun _ => o_asi (o_mulw rfl rfl) (wrap_nat (leVal (b.drop (j + 1)) * 256) (by unfold u64; omega))) ?_
      repeat (first | refine rk_seq ?_ | refine rk_region ?_ | refine rk_block ?_ | refine rk_blk ?_ | refine rk_skip ?_ | refine rk_label ?_ | refine wl_nil ?_ | refine wl_nild ?_ | refine rk_exit rfl ?_ | refine rk_true rfl ?_ | refine rk_false rfl ?_ | refine wl_p (fun _ => o_assign rfl) ?_ | refine wl_p (fun _ => o_move rfl) ?_ | refine wl_p (fun _ => o_max rfl rfl) ?_ | refine wl_p (fun _ => o_min rfl rfl) ?_ | refine wl_p (fun _ => o_len (t := 24) Try.underlying24 rfl) ?_ | refine wl_p (fun _ => o_sub rfl rfl (by omega) (by omega)) ?_ | refine wl_p (fun _ => o_ge rfl rfl) ?_ | refine wl_p (fun _ => o_mulw rfl rfl) ?_ | refine wl_r (o_loadb (t := 5) Try.isAgg5 rfl hB (by rfl)) ?_ | refine wl_p (fun _ => o_convu64 (src := 5) (dst := 22) Try.underlying5 Try.underlying22 rfl (by omega) (by omega)) ?_ | refine wl_p (fun _ => o_addw rfl rfl) ?_)
      refine wl_p (fun _ => o_iaddr1 (j := j) Try.underlying24 Try.sizeOf5 rfl rfl (by omega) (by omega)) ?_
      refine wl_r (o_load (t := 5) Try.isAgg5 rfl hcj) ?_
      repeat (first | refine rk_seq ?_ | refine rk_region ?_ | refine rk_block ?_ | refine rk_blk ?_ | refine rk_skip ?_ | refine rk_label ?_ | refine wl_nil ?_ | refine wl_nild ?_ | refine rk_exit rfl ?_ | refine rk_true rfl ?_ | refine rk_false rfl ?_ | refine wl_p (fun _ => o_assign rfl) ?_ | refine wl_p (fun _ => o_move rfl) ?_ | refine wl_p (fun _ => o_max rfl rfl) ?_ | refine wl_p (fun _ => o_min rfl rfl) ?_ | refine wl_p (fun _ => o_len (t := 24) Try.underlying24 rfl) ?_ | refine wl_p (fun _ => o_sub rfl rfl (by omega) (by omega)) ?_ | refine wl_p (fun _ => o_ge rfl rfl) ?_ | refine wl_p (fun _ => o_mulw rfl rfl) ?_ | refine wl_r (o_loadb (t := 5) Try.isAgg5 rfl hB (by rfl)) ?_ | refine wl_p (fun _ => o_convu64 (src := 5) (dst := 22) Try.underlying5 Try.underlying22 rfl (by omega) (by omega)) ?_)
      refine wl_p (fun _ => o_asi (o_addw rfl rfl) (wrap_add (leVal (b.drop (j + 1)) * 256) b[j].toNat (by unfold u64; omega))) ?_
      repeat (first | refine rk_seq ?_ | refine rk_region ?_ | refine rk_block ?_ | refine rk_blk ?_ | refine rk_skip ?_ | refine rk_label ?_ | refine wl_nil ?_ | refine wl_nild ?_ | refine rk_exit rfl ?_ | refine rk_true rfl ?_ | refine rk_false rfl ?_ | refine wl_p (fun _ => o_assign rfl) ?_ | refine wl_p (fun _ => o_move rfl) ?_ | refine wl_p (fun _ => o_max rfl rfl) ?_ | refine wl_p (fun _ => o_min rfl rfl) ?_ | refine wl_p (fun _ => o_len (t := 24) Try.underlying24 rfl) ?_ | refine wl_p (fun _ => o_sub rfl rfl (by omega) (by omega)) ?_ | refine wl_p (fun _ => o_ge rfl rfl) ?_ | refine wl_p (fun _ => o_mulw rfl rfl) ?_ | refine wl_r (o_loadb (t := 5) Try.isAgg5 rfl hB (by rfl)) ?_ | refine wl_p (fun _ => o_convu64 (src := 5) (dst := 22) Try.underlying5 Try.underlying22 rfl (by omega) (by omega)) ?_ | refine wl_p (fun _ => o_addw rfl rfl) ?_)
      exact rk_again (by repeat' constructor) ⟨_, _, rfl, by rw [e1]; simp only [leVal]; rw [Nat.mul_comm, Nat.add_comm], by omega, by omega, rfl⟩ (by omega)
    · obtain rfl : m = 0 := by omega
      repeat (first | refine rk_seq ?_ | refine rk_region ?_ | refine rk_block ?_ | refine rk_blk ?_ | refine rk_skip ?_ | refine rk_label ?_ | refine wl_nil ?_ | refine wl_nild ?_ | refine rk_exit rfl ?_ | refine rk_true rfl ?_ | refine rk_false rfl ?_ | refine wl_p (fun _ => o_assign rfl) ?_ | refine wl_p (fun _ => o_move rfl) ?_ | refine wl_p (fun _ => o_max rfl rfl) ?_ | refine wl_p (fun _ => o_min rfl rfl) ?_ | refine wl_p (fun _ => o_len (t := 24) Try.underlying24 rfl) ?_ | refine wl_p (fun _ => o_sub rfl rfl (by omega) (by omega)) ?_ | refine wl_p (fun _ => o_ge rfl rfl) ?_ | refine wl_p (fun _ => o_mulw rfl rfl) ?_ | refine wl_r (o_loadb (t := 5) Try.isAgg5 rfl hB (by rfl)) ?_ | refine wl_p (fun _ => o_convu64 (src := 5) (dst := 22) Try.underlying5 Try.underlying22 rfl (by omega) (by omega)) ?_ | refine wl_p (fun _ => o_addw rfl rfl) ?_)
      exact rk_to hj (fr0 := [(5, .slice A b.length c), (6, .int .u64 (leVal b : Nat))]) (by repeat' constructor) ⟨rfl, rfl⟩
  rintro fr _ ⟨rfl, rfl⟩
  repeat (first | refine rk_seq ?_ | refine rk_region ?_ | refine rk_block ?_ | refine rk_blk ?_ | refine rk_skip ?_ | refine rk_label ?_ | refine wl_nil ?_ | refine wl_nild ?_ | refine rk_exit rfl ?_ | refine rk_true rfl ?_ | refine rk_false rfl ?_ | refine wl_p (fun _ => o_assign rfl) ?_ | refine wl_p (fun _ => o_move rfl) ?_ | refine wl_p (fun _ => o_max rfl rfl) ?_ | refine wl_p (fun _ => o_min rfl rfl) ?_ | refine wl_p (fun _ => o_len (t := 24) Try.underlying24 rfl) ?_ | refine wl_p (fun _ => o_sub rfl rfl (by omega) (by omega)) ?_ | refine wl_p (fun _ => o_ge rfl rfl) ?_ | refine wl_p (fun _ => o_mulw rfl rfl) ?_ | refine wl_r (o_loadb (t := 5) Try.isAgg5 rfl hB (by rfl)) ?_ | refine wl_p (fun _ => o_convu64 (src := 5) (dst := 22) Try.underlying5 Try.underlying22 rfl (by omega) (by omega)) ?_ | refine wl_p (fun _ => o_addw rfl rfl) ?_)
  refine ret1 rfl rfl ?_
  exact ⟨rfl, hg1, hR1⟩

theorem C_refRDigest {g : Nat} {s : RS} (w : World) (hR : Rfr w g s) :
    CallsR Try.prog 29 [.pointer (some ⟨g, 0, none⟩)] w fun v w' => v = .agg (B8 (rDigest s).1).toArray ∧ w.grownBy w' (some g) ∧ Rfr w' g (rDigest s).2 := by
  have hgl := hR.lt
  refine callsR Try.func29 rfl rfl (by kernel_rfl) rfl ?_
  repeat (first | refine rk_seq ?_ | refine rk_region ?_ | refine rk_block ?_ | refine rk_blk ?_ | refine rk_skip ?_ | refine rk_label ?_ | refine wl_nil ?_ | refine wl_nild ?_ | refine rk_exit rfl ?_ | refine rk_true rfl ?_ | refine rk_false rfl ?_ | refine rk_draw (id := 2) (none) [0, 0, 2, 5] [0, 0, 2, 7] 12 0 [(.p, 0), (.p, 1), (.l, 2), (.l, 3)] (by kernel_rfl) (by kernel_rfl) (by kernel_rfl) (by kernel_rfl) (by kernel_rfl) ?_ | refine wl_p (fun _ => o_move rfl) ?_ | refine wl_p (fun _ => o_slice_arr (t := 43) Try.underlying43 Try.sizeOf5 rfl) ?_ | refine wl_r (o_load_all (t := 43) Try.isAgg43 Try.sizeOf43 rfl hB (by rfl)) ?_)
  refine wl_alloc (B8 (zeros 32)) Try.zeroValue43 rfl ?_
  intro w1 hB1 hb1 hz1
  repeat (first | refine rk_seq ?_ | refine rk_region ?_ | refine rk_block ?_ | refine rk_blk ?_ | refine rk_skip ?_ | refine rk_label ?_ | refine wl_nil ?_ | refine wl_nild ?_ | refine rk_exit rfl ?_ | refine rk_true rfl ?_ | refine rk_false rfl ?_ | refine rk_draw (id := 2) (none) [0, 0, 2, 5] [0, 0, 2, 7] 12 0 [(.p, 0), (.p, 1), (.l, 2), (.l, 3)] (by kernel_rfl) (by kernel_rfl) (by kernel_rfl) (by kernel_rfl) (by kernel_rfl) ?_ | refine wl_p (fun _ => o_move rfl) ?_ | refine wl_p (fun _ => o_slice_arr (t := 43) Try.underlying43 Try.sizeOf5 rfl) ?_ | refine wl_r (o_load_all (t := 43) Try.isAgg43 Try.sizeOf43 rfl hB (by rfl)) ?_)
  refine wl_alloc (B8 (zeros 32)) Try.zeroValue43 rfl ?_
  intro w2 hB2 hb2 hz2
  have hR2 := (hR.below hb1).below hb2
  have hB12 := hB1.under hb2
  repeat (first | refine rk_seq ?_ | refine rk_region ?_ | refine rk_block ?_ | refine rk_blk ?_ | refine rk_skip ?_ | refine rk_label ?_ | refine wl_nil ?_ | refine wl_nild ?_ | refine rk_exit rfl ?_ | refine rk_true rfl ?_ | refine rk_false rfl ?_ | refine rk_draw (id := 2) (none) [0, 0, 2, 5] [0, 0, 2, 7] 12 0 [(.p, 0), (.p, 1), (.l, 2), (.l, 3)] (by kernel_rfl) (by kernel_rfl) (by kernel_rfl) (by kernel_rfl) (by kernel_rfl) ?_ | refine wl_p (fun _ => o_move rfl) ?_ | refine wl_p (fun _ => o_slice_arr (t := 43) Try.underlying43 Try.sizeOf5 rfl) ?_ | refine wl_r (o_load_all (t := 43) Try.isAgg43 Try.sizeOf43 rfl hB (by rfl)) ?_)
  refine wl_call rfl (C_refTake 32 w2.drew hR2.drew (by omega)) ?_
  rintro _ w3 ⟨⟨A, c, rfl, hown⟩, hg3, hR3⟩
  replace hg3 : w2.grownBy w3 (some g) := grownBy_trans (grownBy_drew w2 _) hg3
  have hle := rTake_le 32 s
  have hd : rDigest s = (if (rTake 32 s).2.2 ≠ 0 then zeros 32 else (rTake 32 s).1, (rTake 32 s).2) := rfl
  have hall := rTake_all 32 s
  have hnone := rTake_none 32 s
  rw [hd]
  clear hd
  rw [show (32 : Int).toNat = 32 from rfl] at hown hR3 ⊢
  generalize rTake 32 s = y at *
  obtain ⟨b, s2⟩ := y
  simp only at hown hR3 hle hall hnone ⊢
  have hB13 := hB12.grown hg3 (by intro e; injection e with e; omega)
  have hB23 := hB2.grown hg3 (by intro e; injection e with e; omega)
  refine wl_copy Try.u8 rfl rfl rfl hown.rd hB23 (by simp [B8, zeros]) ?_
  intro w4 hB4 hg4 hz4
  have hR4 := hR3.grown hg4 hB23 (by decide) (by omega)
  have hB14 := hB13.grown hg4 (by intro e; injection e with e; omega)
  have hcs : spl (B8 (zeros 32)) 0 (B8 (b.take 32)) = B8 (if s2.2 ≠ 0 then zeros 32 else b) := by
    split <;> rename_i h
    · rw [hnone h]; simp [spl, B8]
    · have hl := hall (by omega)
      rw [List.take_of_length_le (by omega)]
      exact spl_all (by rw [B8_length, hl]; simp [B8, zeros])
  rw [hcs] at hB4
  have hlen : (B8 (if s2.2 ≠ 0 then zeros 32 else b)).length = 32 := by
    rw [B8_length]
    split <;> rename_i h
    · simp [zeros]
    · exact hall (by omega)
  generalize (if s2.2 ≠ 0 then zeros 32 else b) = r at hB4 hlen ⊢
  repeat (first | refine rk_seq ?_ | refine rk_region ?_ | refine rk_block ?_ | refine rk_blk ?_ | refine rk_skip ?_ | refine rk_label ?_ | refine wl_nil ?_ | refine wl_nild ?_ | refine rk_exit rfl ?_ | refine rk_true rfl ?_ | refine rk_false rfl ?_ | refine rk_draw (id := 2) (none) [0, 0, 2, 5] [0, 0, 2, 7] 12 0 [(.p, 0), (.p, 1), (.l, 2), (.l, 3)] (by kernel_rfl) (by kernel_rfl) (by kernel_rfl) (by kernel_rfl) (by kernel_rfl) ?_ | refine wl_p (fun _ => o_move rfl) ?_ | refine wl_p (fun _ => o_slice_arr (t := 43) Try.underlying43 Try.sizeOf5 rfl) ?_ | refine wl_r (o_load_all (t := 43) Try.isAgg43 Try.sizeOf43 rfl hB (by rfl)) ?_)
  refine wl_r (o_loadn (cs := B8 r) Try.isAgg43 (by rw [hlen]; exact Try.sizeOf43) rfl (fun j u hu => by rw [add_plain, hB4.cell, Nat.zero_add]; exact hu)) ?_
  refine wl_store_all Try.sizeOf43 rfl rfl hlen (B8_oneCell' _) hB14 (by simp [B8, zeros]) ?_
  intro w5 hB5 hg5 hz5
  repeat (first | refine rk_seq ?_ | refine rk_region ?_ | refine rk_block ?_ | refine rk_blk ?_ | refine rk_skip ?_ | refine rk_label ?_ | refine wl_nil ?_ | refine wl_nild ?_ | refine rk_exit rfl ?_ | refine rk_true rfl ?_ | refine rk_false rfl ?_ | refine rk_draw (id := 2) (none) [0, 0, 2, 5] [0, 0, 2, 7] 12 0 [(.p, 0), (.p, 1), (.l, 2), (.l, 3)] (by kernel_rfl) (by kernel_rfl) (by kernel_rfl) (by kernel_rfl) (by kernel_rfl) ?_ | refine wl_p (fun _ => o_move rfl) ?_ | refine wl_p (fun _ => o_slice_arr (t := 43) Try.underlying43 Try.sizeOf5 rfl) ?_ | refine wl_r (o_load_all (t := 43) Try.isAgg43 Try.sizeOf43 rfl hB (by rfl)) ?_)
  refine ret_cell rfl rfl Try.isAgg43 Try.sizeOf43 hB5 hlen ?_
  have hg13 : w.grownBy w3 (some g) := grownBy_trans (grownBy_of_below hb1 _) (grownBy_trans (grownBy_of_below hb2 _) hg3)
  exact ⟨rfl, grownBy_new (grownBy_new hg13 hg4 (by omega)) hg5 (by omega), hR4.grown hg5 hB14 (by decide) (by omega)⟩
end Go.Proofs.Ytifbbbbgefpgkaa
