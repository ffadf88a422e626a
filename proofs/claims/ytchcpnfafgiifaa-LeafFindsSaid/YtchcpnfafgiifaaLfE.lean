/-
  Walks of package leaf: the bytes of a node, the chapter's examples.
-/
import Derived.Test.YtchcpnfafgiifaaLfD
import Derived.Test.YtchcpnfafgiifaaRs
import Derived.Test.YtchcpnfafgiifaaAconv
namespace Go.Proofs.Ytchcpnfafgiifaa
open Go.RowKit
--@ side Try.u8
--@ side RZ.nil_
--@ side RKy.nil_
--@ side RI.nil_
--@ side (by simp [LightI])
--@ side (by simp [LightK])
--@ side (by simp [Lit.wf])
/-- A block. -/
def blkB (p : By) : By := enc p.length ++ p
theorem blkB_le {p : By} {n : Nat} (h : p.length ≤ n) (hn : n ≤ 4000000000) : (blkB p).length ≤ n + 9 := by
  have h1 : (enc p.length).length ≤ 9 := by
    rw [enc_length]; unfold room; (repeat' split) <;> omega
  simp only [blkB, List.length_append]; omega
def wB (z : Int) : By := leB 4 z.toNat
theorem wB_len (z : Int) : (wB z).length = 4 := leB_length 4 _
theorem C_BlockN {X : Option Addr} {p : By} {k d : Nat} (w : World) (hp : Rd w X p) (hk : k = p.length) (hl : p.length ≤ 4000000000) :
    CallsR Try.prog 26 [.slice none 0 0, .slice X k d] w fun v w' => ∃ A' c', v = .slice A' (blkB p).length c' ∧ OwnH w' w.heap.size w'.heap.size A' c' (blkB p) ∧ Below w.heap.size w w' := by
  subst hk
  refine (C_Block (A := none) (l := []) 0 d w (Rd.nil _ _) hp (by simp; omega)).mono ?_
  rintro v w' ⟨A', c', rfl, h, hb⟩
  exact ⟨A', c', rfl, h.h_, hb⟩
theorem C_WordN {z : Int} (w : World) (h0 : 0 ≤ z) (h1 : z ≤ 4294967295) :
    CallsR Try.prog 27 [.slice none 0 0, .int .u64 z, .int .i64 4] w fun v w' => ∃ A' c', v = .slice A' (wB z).length c' ∧ OwnH w' w.heap.size w'.heap.size A' c' (wB z) ∧ Below w.heap.size w w' := by
  obtain ⟨n, rfl⟩ : ∃ n : Nat, z = n := ⟨z.toNat, by omega⟩
  refine (C_Word (A := none) (l := []) 0 n 4 w (Rd.nil _ _) (by unfold u64; omega) (by simp)).mono ?_
  rintro v w' ⟨A', c', rfl, h, hb⟩
  exact ⟨A', c', rfl, h.h_, hb⟩

/-- An item's bytes. -/
def itB (x : By × By) : By := blkB x.1 ++ blkB x.2
/-- A node's bytes. -/
def nodeB (items : List (By × By)) (kids : List Int) (keys : List By) : By :=
  if kids.length = 0 then [0, UInt8.ofNat items.length] ++ items.flatMap itB else [1, UInt8.ofNat kids.length] ++ kids.flatMap wB ++ keys.flatMap blkB
theorem C_leafBytes {A K B : Option Addr} {items : List (By × By)} {kids : List Int} {keys : List By} {n q m c e d : Nat} (w : World) (hI : RI w A items) (hZ : RZ w K kids) (hK : RKy w B keys) (hn : n = items.length) (hq : q = kids.length) (hm : m = keys.length) (hl : LightI items) (hlz : kids.length ≤ 4000) (hlk : LightK keys) (hz : ∀ z ∈ kids, (Lit.int .i64 z).wf = true) (he : kids.length ≤ e) :
    CallsR Try.prog 13 [.agg #[.slice A n c, .slice K q e, .slice B m d]] w fun v w' => ∃ (A' : Option Addr) (bs : By) (c' : Nat) (z : Int), v = .tuple #[.slice A' bs.length c', .int .i64 z] ∧ OwnH w' w.heap.size w'.heap.size A' c' bs ∧ (z = 0 ∨ z = 2) ∧ (z = 0 ↔ WholeN items kids keys) ∧ (z = 0 → bs = nodeB items kids keys) ∧ (z ≠ 0 → bs = []) ∧ Below w.heap.size w w' := by
  subst hn; subst hq; subst hm
  refine callsR Try.func13 rfl rfl (by kernel_rfl) rfl ?_
  have hw := Below.refl w.heap.size w
  refine rk_seq ?_
  refine rk_region ?_
  refine wl_boxg [_, _, _] rfl (by rfl) ?_
  rintro g1 w1 f1 b1 i1 i1_1
  have s1 := b1.size
  replace hw := hw.trans (b1.mono hw.size)
  refine wl_p (fun _ => o_assign rfl) ?_
  refine wl_p (fun _ => o_assign rfl) ?_
  refine wl_nil ?_
  refine rk_seq ?_
  refine rk_seq ?_
  refine rk_region ?_
  refine wl_r (o_loadag Try.isAgg26 Try.sizeOf26 rfl f1 (by rfl)) ?_
  refine wl_call rfl (C_leafCheck _ (hI.u hw) (hZ.u hw) (hK.u hw) rfl rfl rfl (by omega) (by omega) (by omega) (by omega) (by omega)) ?_
  rintro v15 w15 ⟨z15, ⟨rfl, ⟨i15, ⟨i15_1, b15⟩⟩⟩⟩
  have s15 := b15.size
  replace hw := hw.trans (b15.mono hw.size)
  replace f1 := f1.u b15
  refine wl_p (fun _ => o_assign rfl) ?_
  refine wl_nil ?_
  refine rk_seq ?_
  refine rk_region ?_
  refine wl_p (fun _ => o_move rfl) ?_
  refine wl_p (fun _ => o_ne rfl rfl) ?_
  refine wl_nil ?_
  refine rk_if rfl (fun h17 => ?_) (fun h17 => ?_)
  · refine rk_seq ?_
    refine rk_region ?_
    refine wl_p (fun _ => o_move rfl) ?_
    refine wl_p (fun _ => o_assign rfl) ?_
    refine wl_p (fun _ => o_assign rfl) ?_
    refine wl_nil ?_
    refine ret2 rfl rfl rfl ?_
    exact ⟨none, [], 0, _, rfl, OwnH.nil_, i15, i15_1, fun h => absurd h h17, fun _ => rfl, hw⟩
  have hW : WholeN items kids keys := i15_1.1 (by omega)
  by_cases hq : kids.length = 0
  · have hW2 : WholeL items keys := by unfold WholeN at hW; rwa [if_pos hq] at hW
    obtain ⟨hW3, hW4, hW5⟩ := hW2
    refine rk_skip ?_
    refine rk_seq ?_
    refine rk_region ?_
    refine wl_p (fun _ => o_assign rfl) ?_
    refine wl_nil ?_
    refine rk_seq ?_
    refine rk_seq ?_
    refine rk_region ?_
    refine wl_r (o_loadag Try.isAgg26 Try.sizeOf26 rfl f1 (by rfl)) ?_
    refine wl_call rfl (C_shapeOfL _ (by omega)) ?_
    rintro v20 w20 ⟨rfl, b20⟩
    have s20 := b20.size
    replace hw := hw.trans (b20.mono hw.size)
    replace f1 := f1.u b20
    refine wl_nil ?_
    refine rk_block ?_
    refine rk_seq ?_
    refine rk_region ?_
    refine wl_p (fun _ => (o_assertYes Try.underlying49 rfl)) ?_
    refine wl_p (fun _ => o_ext21 rfl) ?_
    refine wl_p (fun _ => o_ext20 rfl) ?_
    refine wl_nil ?_
    refine rk_true rfl ?_
    refine rk_seq ?_
    refine rk_region ?_
    refine wl_allocg [_, _] Try.zeroValue49 (by rfl) ?_
    rintro g6 w6 f6 b6 i6 i6_1
    have s6 := b6.size
    replace hw := hw.trans (b6.mono hw.size)
    replace f1 := f1.u b6
    refine wl_storega Try.sizeOf49 rfl rfl (by rfl) (oneCell_of (by rfl)) f6 (by rfl) ?_
    rintro w_1 f g e_1
    have s := g.size
    replace hw := hw.trans (below_of_grownBy g.g hw.size (by omega))
    replace f1 := f1.k g.g (ap_some (by omega))
    clear f6
    refine wl_nil ?_
    refine rk_seq ?_
    refine rk_region ?_
    refine wl_p (fun _ => o_move rfl) ?_
    refine wl_p (fun _ => o_faddr (s := 49) (i := 0) (off := 0) Try.underlying49 rfl Try.sizeOf22 rfl rfl rfl) ?_
    refine wl_r (o_loadbg Try.isAgg22 rfl f (by rfl)) ?_
    refine wl_p (fun _ => o_len (t := 22) Try.underlying22 rfl) ?_
    refine wl_p (fun _ => o_convi (src := 3) (dst := 5) Try.underlying3 Try.underlying5 rfl) ?_
    rw [u8w (n := items.length) (by omega)]
    refine wl_litB [0, UInt8.ofNat items.length] Try.u8 Try.sizeOf5 Try.zeroValue5 (by rfl) rfl rfl (by rfl) (by rfl) (by rfl) ?_
    rintro A29 w29 f29 b29
    have qf29 := f29.cap
    have s29 := b29.size
    replace hw := hw.trans (b29.mono hw.size)
    replace f1 := f1.u b29
    replace f := f.u b29
    refine wl_appB0 rfl rfl f29.to_Rd (by rfl) (by omega) ?_
    rintro A30 c30 w30 f30 b30
    have qf30 := f30.cap
    have s30 := b30.size
    replace hw := hw.trans (b30.mono hw.size)
    replace f := f.u b30
    replace f1 := f1.u b30
    replace f29 := f29.u b30
    refine wl_p (fun _ => o_assign rfl) ?_
    refine wl_nil ?_
    refine rk_seq ?_
    refine rk_region ?_
    refine wl_p (fun _ => o_faddr (s := 49) (i := 0) (off := 0) Try.underlying49 rfl Try.sizeOf22 rfl rfl rfl) ?_
    refine wl_r (o_loadbg Try.isAgg22 rfl f (by rfl)) ?_
    refine wl_p (fun _ => o_len (t := 22) Try.underlying22 rfl) ?_
    refine wl_p (fun _ => o_move rfl) ?_
    refine wl_nil ?_
    refine rk_block ?_
    refine rk_joinf (fun fb fr w3 => ∃ A' c', fr = [(5, .slice A' (nodeB items kids keys).length c')] ++ fb.drop 1 ∧ OwnH w3 w29.heap.size w3.heap.size A' c' (nodeB items kids keys) ∧ Below w.heap.size w w3) ?_ (fun ks hj => ?_)
    rotate_left
    · refine rk_loopf (fun fb m fr w3 => ∃ (i : Nat) (v : Int) (A' : Option Addr) (bs : By) (c' : Nat), fr = [(34, .int .i64 v), (5, .slice A' bs.length c')] ++ fb ∧ v = i ∧ i ≤ items.length ∧ m = items.length - i ∧ bs = [0, UInt8.ofNat items.length] ++ (items.take i).flatMap itB ∧ bs.length ≤ 2 + 66 * i ∧ OwnH w3 w29.heap.size w3.heap.size A' c' bs ∧ w30.heap.size ≤ w3.heap.size ∧ Below w.heap.size w w3) (n := items.length) (Fr.le_of (by kernel_rfl) (by kernel_rfl) (by repeat' constructor)) ⟨0, _, A30, _, c30, rfl, rfl, by omega, rfl, by simp, by simp, f30, Nat.le_refl _, hw⟩ ?_
      clear hw f30 f f1 f29
      rintro m fr w3 ⟨i, v, A', bs, c', rfl, rfl, hi, rfl, hbs, hbl, fo, hsz, hw⟩
      have shw := hw.size
      first | refine rk_frame (by simp only [List.cons_append, List.nil_append, List.drop_succ_cons, List.drop_zero]; rfl) ?_ | refine wl_frame (by simp only [List.cons_append, List.nil_append, List.drop_succ_cons, List.drop_zero]; rfl) ?_
      refine rk_seq ?_
      refine rk_region ?_
      refine wl_p (fun _ => o_lt rfl rfl) ?_
      refine wl_nil ?_
      refine rk_seq ?_
      refine rk_if rfl (fun h35 => ?_) (fun h35 => ?_)
      · have hil : i < items.length := by omega
        obtain ⟨⟨n1, n2⟩, n3, _⟩ := hW5 i hil
        have n4 := blkB_le (p := items[i].1) (n := 16) n2 (by omega)
        have n5 := blkB_le (p := items[i].2) (n := 32) n3 (by omega)
        refine rk_skip ?_
        refine rk_seq ?_
        refine rk_block ?_
        refine rk_seq ?_
        refine rk_region ?_
        refine wl_p (fun _ => (o_iaddrA (i) Try.underlying22 Try.sizeOf31 rfl rfl rfl (hI.some_ (by omega)) (by omega))) ?_
        refine wl_ldItem rfl hI hw (by omega) ?_
        rintro A137 c137 A237 c237 f37 f37_1 i37 i37_1
        refine wl_allocg [_, _] Try.zeroValue31 (by rfl) ?_
        rintro g8 w8 f8 b8 i8 i8_1
        have s8 := b8.size
        replace hw := hw.trans (b8.mono hw.size)
        replace fo := fo.u b8
        refine wl_storega Try.sizeOf31 rfl rfl (by rfl) (oneCell_of (by rfl)) f8 (by rfl) ?_
        rintro w_2 f g_1 e_2
        have s_1 := g_1.size
        replace hw := hw.trans (below_of_grownBy g_1.g hw.size (by omega))
        replace fo := fo.k g_1.g (ap_some (by omega))
        clear f8
        refine wl_nil ?_
        refine rk_seq ?_
        refine rk_region ?_
        refine wl_p (fun _ => o_move rfl) ?_
        refine wl_p (fun _ => o_faddr (s := 31) (i := 0) (off := 0) Try.underlying31 rfl Try.sizeOf27 rfl rfl rfl) ?_
        refine wl_r (o_loadbg Try.isAgg27 rfl f (by rfl)) ?_
        refine wl_call rfl (C_BlockN _ (f37.u hw) rfl (by omega)) ?_
        rintro v41 w41 ⟨A41, ⟨c41, ⟨rfl, ⟨f41, b41⟩⟩⟩⟩
        have qf41 := f41.cap
        have s41 := b41.size
        replace hw := hw.trans (b41.mono hw.size)
        replace fo := fo.u b41
        replace f := f.u b41
        refine wl_appB Try.u8 rfl fo rfl rfl f41.to_Rd rfl (by omega) (by omega) ?_
        rintro A42 c42 w42 f42 g42 b42 i42
        have qf42 := f42.cap
        have s42 := g42.size
        replace hw := hw.trans (b42.mono (by omega))
        replace f := f.y g42 (by decide)
        clear fo
        clear f41
        refine wl_p (fun _ => o_assign rfl) ?_
        refine wl_nil ?_
        refine rk_region ?_
        refine wl_p (fun _ => o_move rfl) ?_
        refine wl_p (fun _ => o_faddr (s := 31) (i := 1) (off := 1) Try.underlying31 rfl Try.sizeOf27 rfl rfl rfl) ?_
        refine wl_r (o_loadbg Try.isAgg27 rfl f (by rfl)) ?_
        refine wl_call rfl (C_BlockN _ (f37_1.u hw) rfl (by omega)) ?_
        rintro v46 w46 ⟨A46, ⟨c46, ⟨rfl, ⟨f46, b46⟩⟩⟩⟩
        have qf46 := f46.cap
        have s46 := b46.size
        replace hw := hw.trans (b46.mono hw.size)
        replace f := f.u b46
        replace f42 := f42.u b46
        refine wl_appB Try.u8 rfl f42 rfl rfl f46.to_Rd rfl (by simp; omega) (by omega) ?_
        rintro A47 c47 w47 f47 g47 b47 i47
        have qf47 := f47.cap
        have s47 := g47.size
        replace hw := hw.trans (b47.mono (by omega))
        clear f42
        replace f := f.y g47 (by decide)
        clear f46
        refine wl_p (fun _ => o_assign rfl) ?_
        refine wl_nil ?_
        refine rk_blk ?_
        refine rk_region ?_
        refine wl_p (fun _ => o_add rfl rfl (by omega) (by omega)) ?_
        refine wl_p (fun _ => o_move rfl) ?_
        refine wl_nil ?_
        exact rk_againf (Fr.le_of (by kernel_rfl) (by kernel_rfl) (by repeat' constructor)) ⟨i + 1, (i : Int) + 1, _, _, _, rfl, by omega, by omega, rfl, by rw [List.take_succ_eq_append_getElem hil]; simp only [hbs, itB, List.flatMap_append, List.flatMap_cons, List.flatMap_nil, List.append_nil, List.append_assoc], by simp only [List.length_append]; omega, f47, by omega, hw⟩ (by omega)
      · refine rk_exit rfl ?_
        have e : bs = nodeB items kids keys := by
          unfold nodeB; rw [if_pos hq, hbs, show i = items.length by omega, List.take_length]
        subst e
        exact rk_tof hj (Fr.le_of (by kernel_rfl) (by kernel_rfl) (by repeat' constructor)) ⟨A', c', rfl, fo, hw⟩
    clear hw f30 f f1 f29
    rintro fr w3 ⟨A', c', rfl, fo, hw⟩
    have shw := hw.size
    first | refine rk_frame (by simp only [List.cons_append, List.nil_append, List.drop_succ_cons, List.drop_zero]; rfl) ?_ | refine wl_frame (by simp only [List.cons_append, List.nil_append, List.drop_succ_cons, List.drop_zero]; rfl) ?_
    refine rk_blk ?_
    refine rk_seq ?_
    refine rk_region ?_
    refine wl_p (fun _ => o_move rfl) ?_
    refine wl_p (fun _ => o_assign rfl) ?_
    refine wl_p (fun _ => o_assign rfl) ?_
    refine wl_nil ?_
    refine ret2 rfl rfl rfl ?_
    exact ⟨A', _, c', _, rfl, fo.base (by omega) (Nat.le_refl _), .inl rfl, ⟨fun _ => hW, fun _ => rfl⟩, fun _ => rfl, fun h => absurd rfl h, hw⟩
  · have hW2 : WholeB items kids keys := by unfold WholeN at hW; rwa [if_neg hq] at hW
    obtain ⟨hW3, hW4, hW5, hW6, hW7, hW8⟩ := hW2
    refine rk_skip ?_
    refine rk_seq ?_
    refine rk_region ?_
    refine wl_p (fun _ => o_assign rfl) ?_
    refine wl_nil ?_
    refine rk_seq ?_
    refine rk_seq ?_
    refine rk_region ?_
    refine wl_r (o_loadag Try.isAgg26 Try.sizeOf26 rfl f1 (by rfl)) ?_
    refine wl_call rfl (C_shapeOfB _ (by omega)) ?_
    rintro v20 w20 ⟨rfl, b20⟩
    have s20 := b20.size
    replace hw := hw.trans (b20.mono hw.size)
    replace f1 := f1.u b20
    refine wl_nil ?_
    refine rk_block ?_
    refine rk_seq ?_
    refine rk_region ?_
    refine wl_p (fun _ => (o_assertNo Try.underlying49 rfl (by simp) Try.zeroValue49)) ?_
    refine wl_p (fun _ => o_ext21 rfl) ?_
    refine wl_p (fun _ => o_ext20 rfl) ?_
    refine wl_nil ?_
    refine rk_false rfl ?_
    refine rk_seq ?_
    refine rk_region ?_
    refine wl_p (fun _ => (o_assertYes Try.underlying51 rfl)) ?_
    refine wl_p (fun _ => o_ext21 rfl) ?_
    refine wl_p (fun _ => o_ext20 rfl) ?_
    refine wl_nil ?_
    refine rk_true rfl ?_
    refine rk_seq ?_
    refine rk_region ?_
    refine wl_allocg [_, _, _] Try.zeroValue51 (by rfl) ?_
    rintro g9 w9 f9 b9 i9 i9_1
    have s9 := b9.size
    replace hw := hw.trans (b9.mono hw.size)
    replace f1 := f1.u b9
    refine wl_storega Try.sizeOf51 rfl rfl (by rfl) (oneCell_of (by rfl)) f9 (by rfl) ?_
    rintro w_1 f g e_1
    have s := g.size
    replace hw := hw.trans (below_of_grownBy g.g hw.size (by omega))
    replace f1 := f1.k g.g (ap_some (by omega))
    clear f9
    refine wl_nil ?_
    refine rk_seq ?_
    refine rk_region ?_
    refine wl_p (fun _ => o_move rfl) ?_
    refine wl_p (fun _ => o_faddr (s := 51) (i := 1) (off := 1) Try.underlying51 rfl Try.sizeOf23 rfl rfl rfl) ?_
    refine wl_r (o_loadbg Try.isAgg23 rfl f (by rfl)) ?_
    refine wl_p (fun _ => o_len (t := 23) Try.underlying23 rfl) ?_
    refine wl_p (fun _ => o_convi (src := 3) (dst := 5) Try.underlying3 Try.underlying5 rfl) ?_
    rw [u8w (n := kids.length) (by omega)]
    refine wl_litB [1, UInt8.ofNat kids.length] Try.u8 Try.sizeOf5 Try.zeroValue5 (by rfl) rfl rfl (by rfl) (by rfl) (by rfl) ?_
    rintro A57 w57 f57 b57
    have qf57 := f57.cap
    have s57 := b57.size
    replace hw := hw.trans (b57.mono hw.size)
    replace f1 := f1.u b57
    replace f := f.u b57
    refine wl_appB0 rfl rfl f57.to_Rd (by rfl) (by omega) ?_
    rintro A58 c58 w58 f58 b58
    have qf58 := f58.cap
    have s58 := b58.size
    replace hw := hw.trans (b58.mono hw.size)
    replace f := f.u b58
    replace f1 := f1.u b58
    replace f57 := f57.u b58
    refine wl_p (fun _ => o_assign rfl) ?_
    refine wl_nil ?_
    refine rk_seq ?_
    refine rk_seq ?_
    refine rk_region ?_
    refine wl_p (fun _ => o_faddr (s := 51) (i := 1) (off := 1) Try.underlying51 rfl Try.sizeOf23 rfl rfl rfl) ?_
    refine wl_r (o_loadbg Try.isAgg23 rfl f (by rfl)) ?_
    refine wl_p (fun _ => o_len (t := 23) Try.underlying23 rfl) ?_
    refine wl_p (fun _ => o_move rfl) ?_
    refine wl_nil ?_
    refine rk_block ?_
    refine rk_joinf (fun fb fr w3 => ∃ A' c' bs, fr = [(5, .slice A' bs.length c')] ++ fb.drop 1 ∧ bs = [1, UInt8.ofNat kids.length] ++ kids.flatMap wB ∧ bs.length ≤ 100 ∧ OwnH w3 w57.heap.size w3.heap.size A' c' bs ∧ w58.heap.size ≤ w3.heap.size ∧ Blk w3 g9 51 [.slice A items.length c, .slice K kids.length e, .slice B keys.length d] ∧ Below w.heap.size w w3) ?_ (fun ks hj => ?_)
    rotate_left
    · refine rk_loopf (fun fb m fr w3 => ∃ (i : Nat) (v : Int) (A' : Option Addr) (bs : By) (c' : Nat), fr = [(62, .int .i64 v), (5, .slice A' bs.length c')] ++ fb ∧ v = i ∧ i ≤ kids.length ∧ m = kids.length - i ∧ bs = [1, UInt8.ofNat kids.length] ++ (kids.take i).flatMap wB ∧ bs.length ≤ 2 + 4 * i ∧ OwnH w3 w57.heap.size w3.heap.size A' c' bs ∧ w58.heap.size ≤ w3.heap.size ∧ Blk w3 g9 51 [.slice A items.length c, .slice K kids.length e, .slice B keys.length d] ∧ Below w.heap.size w w3) (n := kids.length) (Fr.le_of (by kernel_rfl) (by kernel_rfl) (by repeat' constructor)) ⟨0, _, A58, _, c58, rfl, rfl, by omega, rfl, by simp, by simp, f58, Nat.le_refl _, f, hw⟩ ?_
      clear hw f58 f f1 f57
      rintro m fr w3 ⟨i, v, A', bs, c', rfl, rfl, hi, rfl, hbs, hbl, fo, hsz, fs, hw⟩
      have shw := hw.size
      first | refine rk_frame (by simp only [List.cons_append, List.nil_append, List.drop_succ_cons, List.drop_zero]; rfl) ?_ | refine wl_frame (by simp only [List.cons_append, List.nil_append, List.drop_succ_cons, List.drop_zero]; rfl) ?_
      refine rk_seq ?_
      refine rk_region ?_
      refine wl_p (fun _ => o_lt rfl rfl) ?_
      refine wl_nil ?_
      refine rk_seq ?_
      refine rk_if rfl (fun h63 => ?_) (fun h63 => ?_)
      · have hil : i < kids.length := by omega
        obtain ⟨n1, n2, _⟩ := hW7 i hil
        have n3 := wB_len kids[i]
        refine rk_skip ?_
        refine rk_seq ?_
        refine rk_block ?_
        refine rk_seq ?_
        refine rk_region ?_
        refine wl_p (fun _ => (o_iaddrA1 (i) Try.underlying23 Try.sizeOf3 rfl rfl rfl (Reads.some_ hZ.to_Reads (by decide) (by omega)) (by omega))) ?_
        refine wl_r (o_loadZ Try.isAgg3 rfl (hZ.u hw).to_Reads (by omega)) ?_
        refine wl_p (fun _ => o_assign rfl) ?_
        refine wl_nil ?_
        refine rk_region ?_
        refine wl_p (fun _ => o_move rfl) ?_
        refine wl_p (fun _ => o_move rfl) ?_
        refine wl_p (fun _ => o_convu64 (src := 3) (dst := 56) Try.underlying3 Try.underlying56 rfl (by omega) (by omega)) ?_
        refine wl_call rfl (C_WordN _ (by omega) (by omega)) ?_
        rintro v69 w69 ⟨A69, ⟨c69, ⟨rfl, ⟨f69, b69⟩⟩⟩⟩
        have qf69 := f69.cap
        have s69 := b69.size
        replace hw := hw.trans (b69.mono hw.size)
        replace fs := fs.u b69
        replace fo := fo.u b69
        refine wl_appB Try.u8 rfl fo rfl rfl f69.to_Rd rfl (by omega) (by omega) ?_
        rintro A70 c70 w70 f70 g70 b70 i70
        have qf70 := f70.cap
        have s70 := g70.size
        replace hw := hw.trans (b70.mono (by omega))
        clear fo
        replace fs := fs.y g70 (by decide)
        clear f69
        refine wl_p (fun _ => o_assign rfl) ?_
        refine wl_nil ?_
        refine rk_blk ?_
        refine rk_region ?_
        refine wl_p (fun _ => o_add rfl rfl (by omega) (by omega)) ?_
        refine wl_p (fun _ => o_move rfl) ?_
        refine wl_nil ?_
        exact rk_againf (Fr.le_of (by kernel_rfl) (by kernel_rfl) (by repeat' constructor)) ⟨i + 1, (i : Int) + 1, _, _, _, rfl, by omega, by omega, rfl, by rw [List.take_succ_eq_append_getElem hil]; simp only [hbs, List.flatMap_append, List.flatMap_cons, List.flatMap_nil, List.append_nil, List.append_assoc], by simp only [List.length_append]; omega, f70, by omega, fs, hw⟩ (by omega)
      · refine rk_exit rfl ?_
        exact rk_tof hj (Fr.le_of (by kernel_rfl) (by kernel_rfl) (by repeat' constructor)) ⟨A', c', bs, rfl, by rw [hbs, show i = kids.length by omega, List.take_length], by omega, fo, hsz, fs, hw⟩
    clear hw f58 f f1 f57
    rintro fr w3 ⟨A', c', bs, rfl, hbs, hbl, fo, hsz, fs, hw⟩
    have shw := hw.size
    first | refine rk_frame (by simp only [List.cons_append, List.nil_append, List.drop_succ_cons, List.drop_zero]; rfl) ?_ | refine wl_frame (by simp only [List.cons_append, List.nil_append, List.drop_succ_cons, List.drop_zero]; rfl) ?_
    refine rk_seq ?_
    refine rk_region ?_
    refine wl_p (fun _ => o_faddr (s := 51) (i := 2) (off := 2) Try.underlying51 rfl Try.sizeOf24 rfl rfl rfl) ?_
    refine wl_r (o_loadbg Try.isAgg24 rfl fs (by rfl)) ?_
    refine wl_p (fun _ => o_len (t := 24) Try.underlying24 rfl) ?_
    refine wl_p (fun _ => o_move rfl) ?_
    refine wl_nil ?_
    refine rk_block ?_
    refine rk_joinf (fun fb fr w4 => ∃ A' c', fr = [(5, .slice A' (nodeB items kids keys).length c')] ++ fb.drop 1 ∧ OwnH w4 w57.heap.size w4.heap.size A' c' (nodeB items kids keys) ∧ Below w.heap.size w w4) ?_ (fun ks hj => ?_)
    rotate_left
    · refine rk_loopf (fun fb m fr w4 => ∃ (i : Nat) (v : Int) (A' : Option Addr) (bt : By) (c' : Nat), fr = [(75, .int .i64 v), (5, .slice A' bt.length c')] ++ fb ∧ v = i ∧ i ≤ keys.length ∧ m = keys.length - i ∧ bt = bs ++ (keys.take i).flatMap blkB ∧ bt.length ≤ 100 + 25 * i ∧ OwnH w4 w57.heap.size w4.heap.size A' c' bt ∧ w3.heap.size ≤ w4.heap.size ∧ Below w.heap.size w w4) (n := keys.length) (Fr.le_of (by kernel_rfl) (by kernel_rfl) (by repeat' constructor)) ⟨0, _, A', _, c', rfl, rfl, by omega, rfl, by simp, by omega, fo, Nat.le_refl _, hw⟩ ?_
      clear hw fo fs
      rintro m fr w4 ⟨i, v, A', bt, c', rfl, rfl, hi, rfl, hbt, hbl2, fo, hsz2, hw⟩
      have shw2 := hw.size
      first | refine rk_frame (by simp only [List.cons_append, List.nil_append, List.drop_succ_cons, List.drop_zero]; rfl) ?_ | refine wl_frame (by simp only [List.cons_append, List.nil_append, List.drop_succ_cons, List.drop_zero]; rfl) ?_
      refine rk_seq ?_
      refine rk_region ?_
      refine wl_p (fun _ => o_lt rfl rfl) ?_
      refine wl_nil ?_
      refine rk_seq ?_
      refine rk_if rfl (fun h76 => ?_) (fun h76 => ?_)
      · have hil : i < keys.length := by omega
        obtain ⟨⟨n1, n2⟩, _⟩ := hW8 i hil
        have n4 := blkB_le (p := keys[i]) (n := 16) n2 (by omega)
        refine rk_skip ?_
        refine rk_seq ?_
        refine rk_block ?_
        refine rk_seq ?_
        refine rk_region ?_
        refine wl_p (fun _ => (o_iaddrA1 (i) Try.underlying24 Try.sizeOf27 rfl rfl rfl (hK.some_ (by omega)) (by omega))) ?_
        refine wl_ldKy rfl hK hw (by omega) ?_
        rintro A178 c178 f78 i78
        refine wl_p (fun _ => o_assign rfl) ?_
        refine wl_nil ?_
        refine rk_region ?_
        refine wl_p (fun _ => o_move rfl) ?_
        refine wl_p (fun _ => o_move rfl) ?_
        refine wl_call rfl (C_BlockN _ (f78.u hw) rfl (by omega)) ?_
        rintro v81 w81 ⟨A81, ⟨c81, ⟨rfl, ⟨f81, b81⟩⟩⟩⟩
        have qf81 := f81.cap
        have s81 := b81.size
        replace hw := hw.trans (b81.mono hw.size)
        replace fo := fo.u b81
        refine wl_appB Try.u8 rfl fo rfl rfl f81.to_Rd rfl (by omega) (by omega) ?_
        rintro A82 c82 w82 f82 g82 b82 i82
        have qf82 := f82.cap
        have s82 := g82.size
        replace hw := hw.trans (b82.mono (by omega))
        clear fo
        clear f81
        refine wl_p (fun _ => o_assign rfl) ?_
        refine wl_nil ?_
        refine rk_blk ?_
        refine rk_region ?_
        refine wl_p (fun _ => o_add rfl rfl (by omega) (by omega)) ?_
        refine wl_p (fun _ => o_move rfl) ?_
        refine wl_nil ?_
        exact rk_againf (Fr.le_of (by kernel_rfl) (by kernel_rfl) (by repeat' constructor)) ⟨i + 1, (i : Int) + 1, _, _, _, rfl, by omega, by omega, rfl, by rw [List.take_succ_eq_append_getElem hil]; simp only [hbt, List.flatMap_append, List.flatMap_cons, List.flatMap_nil, List.append_nil, List.append_assoc], by simp only [List.length_append]; omega, f82, by omega, hw⟩ (by omega)
      · refine rk_exit rfl ?_
        have e : bt = nodeB items kids keys := by
          unfold nodeB; rw [if_neg hq, hbt, hbs, show i = keys.length by omega, List.take_length]
        subst e
        exact rk_tof hj (Fr.le_of (by kernel_rfl) (by kernel_rfl) (by repeat' constructor)) ⟨A', c', rfl, fo, hw⟩
    clear hw fo fs
    rintro fr w4 ⟨A', c', rfl, fo, hw⟩
    have shw2 := hw.size
    first | refine rk_frame (by simp only [List.cons_append, List.nil_append, List.drop_succ_cons, List.drop_zero]; rfl) ?_ | refine wl_frame (by simp only [List.cons_append, List.nil_append, List.drop_succ_cons, List.drop_zero]; rfl) ?_
    refine rk_blk ?_
    refine rk_seq ?_
    refine rk_region ?_
    refine wl_p (fun _ => o_move rfl) ?_
    refine wl_p (fun _ => o_assign rfl) ?_
    refine wl_p (fun _ => o_assign rfl) ?_
    refine wl_nil ?_
    refine ret2 rfl rfl rfl ?_
    exact ⟨A', _, c', _, rfl, fo.base (by omega) (Nat.le_refl _), .inl rfl, ⟨fun _ => hW, fun _ => rfl⟩, fun _ => rfl, fun h => absurd rfl h, hw⟩

instance (items : List (By × By)) (keys : List By) : Decidable (WholeL items keys) := by unfold WholeL; infer_instance
instance (items : List (By × By)) (kids : List Int) (keys : List By) : Decidable (WholeB items kids keys) := by unfold WholeB; infer_instance
instance (items : List (By × By)) (kids : List Int) (keys : List By) : Decidable (WholeN items kids keys) := by unfold WholeN; infer_instance
theorem KidR.eq {items : List (By × By)} {kids : List Int} {keys : List By} {key : By} {z : Int} (h : KidR items kids keys key z) (hW : WholeN items kids keys) (hk : kids.length ≠ 0) : z = (keys.findIdx fun x => decide (0 < cmpL x key) : Nat) := by
  obtain ⟨k, rfl, h1, h2, h3⟩ := h.1 ⟨hW, hk⟩
  congr 1
  symm
  rcases Nat.lt_or_ge k keys.length with h4 | h4
  · rw [List.findIdx_eq h4]
    exact ⟨by simpa using h3 h4, fun j hj => by have := h2 j (by omega) hj; simp; omega⟩
  · rw [show k = keys.length by omega]
    rw [List.findIdx_eq_length]
    intro x hx
    obtain ⟨j, hj, rfl⟩ := List.getElem_of_mem hx
    have := h2 j hj (by omega)
    simp; omega
section
variable {fn : Func} {F : Ending → World → Prop} {N : Nat} {ks : List K} {ops : Array Oper} {tg : Tags} {l : List Oper} {fr : Fr} {w : World} {ty : TypeId} {pos : String} {aft : Array Edge} {gd : Option (Nat × Bool)} {lo hi : Nat} {A : Option Addr}
theorem Try.rowItem : RowT Try.prog 22 31 (.agg #[.slice none 0 0, .slice none 0 0]) 2 48 := ⟨Try.underlying22, by kernel_rfl, rfl, by omega⟩
theorem Try.rowKey : RowT Try.prog 24 27 (.slice none 0 0) 1 24 := ⟨Try.underlying24, by kernel_rfl, rfl, by omega⟩
def OwnI (w : World) (lo hi : Nat) (A : Option Addr) (c : Nat) (L : List (By × By)) : Prop := OwnS gItem 31 w lo hi A c L
def OwnKy (w : World) (lo hi : Nat) (A : Option Addr) (c : Nat) (L : List By) : Prop := OwnS gBytes 27 w lo hi A c L
theorem OwnI.u {w w' : World} {c : Nat} {L : List (By × By)} (h : OwnI w lo hi A c L) (hb : Below w.heap.size w w') : OwnI w' lo hi A c L := OwnS.u h hb
theorem OwnI.d {c : Nat} {L : List (By × By)} (h : OwnI w lo hi A c L) : OwnI w.drew lo hi A c L := OwnS.d h
theorem OwnI.y {w' : World} {e' : TypeId} {row : Option Nat} {c : Nat} {L : List (By × By)} (h : OwnI w lo hi A c L) (hg : Grew w w' e' row) (hne : e' ∉ 31 :: gItem.tys) : OwnI w' lo hi A c L := OwnS.y h hg hne
theorem OwnI.ap {c lo' hi' : Nat} {L : List (By × By)} (h : OwnI w lo hi A c L) (hd : hi ≤ lo' ∨ hi' ≤ lo) : Ap (blk A) lo' hi' := OwnS.ap h hd
theorem OwnI.cap {c : Nat} {L : List (By × By)} (h : OwnI w lo hi A c L) : L.length ≤ c := OwnS.cap h
theorem OwnI.to_RI {c : Nat} {L : List (By × By)} (h : OwnI w lo hi A c L) : RI w A L := OwnS.to_RSl h
theorem OwnI.nil_ : OwnI w lo hi none 0 [] := OwnS.nil_
theorem OwnKy.u {w w' : World} {c : Nat} {L : List By} (h : OwnKy w lo hi A c L) (hb : Below w.heap.size w w') : OwnKy w' lo hi A c L := OwnS.u h hb
theorem OwnKy.d {c : Nat} {L : List By} (h : OwnKy w lo hi A c L) : OwnKy w.drew lo hi A c L := OwnS.d h
theorem OwnKy.y {w' : World} {e' : TypeId} {row : Option Nat} {c : Nat} {L : List By} (h : OwnKy w lo hi A c L) (hg : Grew w w' e' row) (hne : e' ∉ 27 :: gBytes.tys) : OwnKy w' lo hi A c L := OwnS.y h hg hne
theorem OwnKy.ap {c lo' hi' : Nat} {L : List By} (h : OwnKy w lo hi A c L) (hd : hi ≤ lo' ∨ hi' ≤ lo) : Ap (blk A) lo' hi' := OwnS.ap h hd
theorem OwnKy.cap {c : Nat} {L : List By} (h : OwnKy w lo hi A c L) : L.length ≤ c := OwnS.cap h
theorem OwnKy.to_RKy {c : Nat} {L : List By} (h : OwnKy w lo hi A c L) : RKy w A L := OwnS.to_RSl h
theorem OwnKy.nil_ : OwnKy w lo hi none 0 [] := OwnS.nil_
variable {d : Nat}
--@ rule buildSlice l wl_litI1
theorem wl_litI1 {ps : Array (Nat × Operand)} {xs : List Operand} {A1 A2 : Option Addr} {n1 c1 n2 c2 : Nat} {p1 p2 : By} (hxs : ps.toList.map Prod.snd = xs) (hx : fr.evs xs = some [.agg #[.slice A1 n1 c1, .slice A2 n2 c2]]) (h1 : RdT w A1 p1) (h2 : RdT w A2 p2) (hn1 : n1 = p1.length) (hn2 : n2 = p2.length) (hc1 : p1.length ≤ c1) (hc2 : p2.length ≤ c2) (hm1 : c1 ≤ 4000000000) (hm2 : c2 ≤ 4000000000) (hps : ps = ((List.range' 0 1).zip xs).toArray)
    (hk : ∀ A w', OwnI w' w.heap.size w'.heap.size A 1 [(p1, p2)] → Below w.heap.size w w' → WL Try.prog fn F N ks ops tg.tail l ((d, .slice A 1 1) :: fr) w')
    (ht : tg.loud = true := by rfl) (hg : onG ops fr gd = true := by rfl) (hd : Nat.blt d N = true := by rfl) : WL Try.prog fn F N ks ops tg (⟨some d, .buildSlice 22 1 ps, ty, pos, aft, gd⟩ :: l) fr w := by
  subst hn1; subst hn2
  refine wl_litS (X := gItem) (L := [(p1, p2)]) Try.rowItem Try.sizeOf31 Try.zeroValue31 hxs hps hx rfl rfl (fun i h => ?_) rfl hk ht hg hd
  obtain rfl : i = 0 := by simp at h; omega
  exact ⟨_, rfl, rfl, [.slice A1 p1.length c1], [.slice A2 p2.length c2], rfl, ⟨A1, c1, rfl, h1, hc1, by simp only [maxLen]; omega⟩, ⟨A2, c2, rfl, h2, hc2, by simp only [maxLen]; omega⟩⟩
--@ rule buildSlice l wl_litK2
theorem wl_litK2 {ps : Array (Nat × Operand)} {xs : List Operand} {A1 A2 : Option Addr} {n1 c1 n2 c2 : Nat} {p1 p2 : By} (hxs : ps.toList.map Prod.snd = xs) (hx : fr.evs xs = some [.slice A1 n1 c1, .slice A2 n2 c2]) (h1 : RdT w A1 p1) (h2 : RdT w A2 p2) (hn1 : n1 = p1.length) (hn2 : n2 = p2.length) (hc1 : p1.length ≤ c1) (hc2 : p2.length ≤ c2) (hm1 : c1 ≤ 4000000000) (hm2 : c2 ≤ 4000000000) (hps : ps = ((List.range' 0 2).zip xs).toArray)
    (hk : ∀ A w', OwnKy w' w.heap.size w'.heap.size A 2 [p1, p2] → Below w.heap.size w w' → WL Try.prog fn F N ks ops tg.tail l ((d, .slice A 2 2) :: fr) w')
    (ht : tg.loud = true := by rfl) (hg : onG ops fr gd = true := by rfl) (hd : Nat.blt d N = true := by rfl) : WL Try.prog fn F N ks ops tg (⟨some d, .buildSlice 24 2 ps, ty, pos, aft, gd⟩ :: l) fr w := by
  subst hn1; subst hn2
  refine wl_litS (X := gBytes) (L := [p1, p2]) Try.rowKey Try.sizeOf27 Try.zeroValue27 hxs hps hx rfl rfl (fun i h => ?_) rfl hk ht hg hd
  rcases i with _ | _ | i
  · exact ⟨_, rfl, rfl, A1, c1, rfl, h1, hc1, by simp only [maxLen]; omega⟩
  · exact ⟨_, rfl, rfl, A2, c2, rfl, h2, hc2, by simp only [maxLen]; omega⟩
  · simp at h; omega
end
theorem C_lives11 (w : World) : CallsR Try.prog 5 [] w fun v w' => v = .bool true ∧ Below w.heap.size w w' := by
  refine callsR Try.func5 rfl rfl (by kernel_rfl) rfl ?_
  have hw := Below.refl w.heap.size w
  refine rk_seq ?_
  refine rk_region ?_
  refine wl_p (fun _ => o_assign rfl) ?_
  refine wl_nil ?_
  refine rk_seq ?_
  refine rk_region ?_
  refine wl_litC [97] Try.u8 Try.sizeOf5 Try.zeroValue5 (by rfl) rfl rfl (by rfl) (by rfl) (by rfl) ?_
  rintro A5 w5 f5 b5
  have s5 := b5.size
  replace hw := hw.trans (b5.mono hw.size)
  refine wl_litC [120, 121] Try.u8 Try.sizeOf5 Try.zeroValue5 (by rfl) rfl rfl (by rfl) (by rfl) (by rfl) ?_
  rintro A7 w7 f7 b7
  have s7 := b7.size
  replace hw := hw.trans (b7.mono hw.size)
  replace f5 := f5.u b7
  refine wl_p (fun _ => (o_buildg [_, _] Try.underlying31 Try.zeroValue31 (by rfl) (by rfl) rfl (by rfl) (by rfl) (fun _ => by kernel_rfl))) ?_
  refine wl_litI1 (by rfl) rfl f5 f7 (by rfl) (by rfl) (by simp) (by simp) (by omega) (by omega) (by rfl) ?_
  rintro A10 w10 f10 b10
  have qf10 := f10.cap
  have s10 := b10.size
  replace hw := hw.trans (b10.mono hw.size)
  replace f5 := f5.u b10
  replace f7 := f7.u b10
  refine wl_p (fun _ => (o_buildg [_, _, _] Try.underlying26 Try.zeroValue26 (by rfl) (by rfl) rfl (by rfl) (by rfl) (fun _ => by kernel_rfl))) ?_
  refine wl_call rfl (C_leafBytes _ f10.to_RI (RZ.nil_) (RKy.nil_) (by rfl) (by rfl) (by rfl) (by simp [LightI]) (by simp) (by simp [LightK]) (by simp) (by simp)) ?_
  rintro v12 w12 ⟨A12, ⟨bs12, ⟨c12, ⟨z12, ⟨rfl, ⟨f12, ⟨i12, ⟨i12_1, ⟨i12_2, ⟨i12_3, b12⟩⟩⟩⟩⟩⟩⟩⟩⟩⟩
  have qf12 := f12.cap
  have s12 := b12.size
  replace hw := hw.trans (b12.mono hw.size)
  replace f7 := f7.u b12
  replace f5 := f5.u b12
  replace f10 := f10.u b12
  refine wl_p (fun _ => o_move rfl) ?_
  refine wl_p (fun _ => o_ext20 rfl) ?_
  refine wl_p (fun _ => o_ext21 rfl) ?_
  refine wl_p (fun _ => o_assign rfl) ?_
  refine wl_p (fun _ => o_assign rfl) ?_
  refine wl_nil ?_
  refine rk_seq ?_
  refine rk_region ?_
  refine wl_litZH [1, 2, 3] (by rfl) rfl rfl (by rfl) (by rfl) (by rfl) ?_
  rintro A15 w15 f15 b15
  have qf15 := f15.cap
  have s15 := b15.size
  replace hw := hw.trans (b15.mono hw.size)
  replace f10 := f10.u b15
  replace f5 := f5.u b15
  replace f7 := f7.u b15
  replace f12 := f12.u b15
  refine wl_litC [99] Try.u8 Try.sizeOf5 Try.zeroValue5 (by rfl) rfl rfl (by rfl) (by rfl) (by rfl) ?_
  rintro A16 w16 f16 b16
  have s16 := b16.size
  replace hw := hw.trans (b16.mono hw.size)
  replace f12 := f12.u b16
  replace f7 := f7.u b16
  replace f5 := f5.u b16
  replace f10 := f10.u b16
  replace f15 := f15.u b16
  refine wl_litC [102] Try.u8 Try.sizeOf5 Try.zeroValue5 (by rfl) rfl rfl (by rfl) (by rfl) (by rfl) ?_
  rintro A18 w18 f18 b18
  have s18 := b18.size
  replace hw := hw.trans (b18.mono hw.size)
  replace f15 := f15.u b18
  replace f10 := f10.u b18
  replace f5 := f5.u b18
  replace f7 := f7.u b18
  replace f12 := f12.u b18
  replace f16 := f16.u b18
  refine wl_litK2 (by rfl) rfl f16 f18 (by rfl) (by rfl) (by omega) (by omega) (by omega) (by omega) (by rfl) ?_
  rintro A20 w20 f20 b20
  have qf20 := f20.cap
  have s20 := b20.size
  replace hw := hw.trans (b20.mono hw.size)
  replace f16 := f16.u b20
  replace f12 := f12.u b20
  replace f7 := f7.u b20
  replace f5 := f5.u b20
  replace f10 := f10.u b20
  replace f15 := f15.u b20
  replace f18 := f18.u b20
  refine wl_p (fun _ => (o_buildg [_, _, _] Try.underlying26 Try.zeroValue26 (by rfl) (by rfl) rfl (by rfl) (by rfl) (fun _ => by kernel_rfl))) ?_
  refine wl_allocg [_, _, _] Try.zeroValue26 (by rfl) ?_
  rintro g3 w3 f3 b3 i3 i3_1
  have s3 := b3.size
  replace hw := hw.trans (b3.mono hw.size)
  replace f18 := f18.u b3
  replace f15 := f15.u b3
  replace f10 := f10.u b3
  replace f5 := f5.u b3
  replace f7 := f7.u b3
  replace f12 := f12.u b3
  replace f16 := f16.u b3
  replace f20 := f20.u b3
  refine wl_storega Try.sizeOf26 rfl rfl (by rfl) (oneCell_of (by rfl)) f3 (by rfl) ?_
  rintro w_1 f g e
  have s := g.size
  replace hw := hw.trans (below_of_grownBy g.g hw.size (by omega))
  replace f20 := f20.y g (by decide)
  replace f16 := f16.y g (by decide)
  replace f12 := f12.k g.g (ap_some (by omega))
  replace f7 := f7.y g (by decide)
  replace f5 := f5.y g (by decide)
  replace f10 := f10.y g (by decide)
  replace f15 := f15.k g.g (ap_some (by omega))
  replace f18 := f18.y g (by decide)
  clear f3
  refine wl_nil ?_
  refine rk_seq ?_
  refine rk_region ?_
  refine wl_p (fun _ => o_move rfl) ?_
  refine wl_p (fun _ => o_eq rfl rfl) ?_
  refine wl_p (fun _ => o_move rfl) ?_
  have hW1 : WholeN [([97], [120, 121])] [] [] := by decide
  obtain rfl : z12 = 0 := i12_1.2 hW1
  obtain rfl := i12_2 rfl
  clear i12 i12_1 i12_2 i12_3
  have hW2 : WholeN [] [1, 2, 3] [[99], [102]] := by decide
  refine wl_p (fun _ => o_move rfl) ?_
  refine wl_r (o_strU Try.underlying27 Try.underlying5 Try.underlying9 rfl f12.to_Rd (Below.refl _ _) rfl) ?_
  refine wl_p (fun _ => o_seq rfl rfl) ?_
  refine wl_p (fun _ => o_pick_t rfl rfl) ?_
  refine wl_p (fun _ => o_move rfl) ?_
  refine wl_r (o_loadag Try.isAgg26 Try.sizeOf26 rfl f (by rfl)) ?_
  refine wl_litC [98] Try.u8 Try.sizeOf5 Try.zeroValue5 (by rfl) rfl rfl (by rfl) (by rfl) (by rfl) ?_
  rintro A31 w31 f31 b31
  have s31 := b31.size
  replace hw := hw.trans (b31.mono hw.size)
  replace f12 := f12.u b31
  replace f18 := f18.u b31
  replace f15 := f15.u b31
  replace f10 := f10.u b31
  replace f5 := f5.u b31
  replace f7 := f7.u b31
  replace f16 := f16.u b31
  replace f20 := f20.u b31
  replace f := f.u b31
  refine wl_call rfl (C_leafKid _ (RI.nil_) f15.to_RZ f20.to_RKy f31.to_Rd (by rfl) (by rfl) (by rfl) (by rfl) (by simp [LightI]) (by omega) (by simp [LightK]) (by decide) (by omega) (by simp)) ?_
  rintro v33 w33 ⟨z33, ⟨rfl, ⟨i33, b33⟩⟩⟩
  have s33 := b33.size
  replace hw := hw.trans (b33.mono hw.size)
  replace f := f.u b33
  replace f20 := f20.u b33
  replace f16 := f16.u b33
  replace f7 := f7.u b33
  replace f5 := f5.u b33
  replace f10 := f10.u b33
  replace f15 := f15.u b33
  replace f18 := f18.u b33
  replace f12 := f12.u b33
  replace f31 := f31.u b33
  refine wl_p (fun _ => o_eq rfl rfl) ?_
  refine wl_p (fun _ => o_pick_t rfl rfl) ?_
  refine wl_p (fun _ => o_move rfl) ?_
  obtain rfl : z33 = 0 := (i33.eq hW2 (by decide)).trans (by decide)
  refine wl_r (o_loadag Try.isAgg26 Try.sizeOf26 rfl f (by rfl)) ?_
  refine wl_litC [99] Try.u8 Try.sizeOf5 Try.zeroValue5 (by rfl) rfl rfl (by rfl) (by rfl) (by rfl) ?_
  rintro A38 w38 f38 b38
  have s38 := b38.size
  replace hw := hw.trans (b38.mono hw.size)
  replace f31 := f31.u b38
  replace f12 := f12.u b38
  replace f18 := f18.u b38
  replace f15 := f15.u b38
  replace f10 := f10.u b38
  replace f5 := f5.u b38
  replace f7 := f7.u b38
  replace f16 := f16.u b38
  replace f20 := f20.u b38
  replace f := f.u b38
  refine wl_call rfl (C_leafKid _ (RI.nil_) f15.to_RZ f20.to_RKy f38.to_Rd (by rfl) (by rfl) (by rfl) (by rfl) (by simp [LightI]) (by omega) (by simp [LightK]) (by decide) (by omega) (by simp)) ?_
  rintro v40 w40 ⟨z40, ⟨rfl, ⟨i40, b40⟩⟩⟩
  have s40 := b40.size
  replace hw := hw.trans (b40.mono hw.size)
  replace f := f.u b40
  replace f20 := f20.u b40
  replace f16 := f16.u b40
  replace f7 := f7.u b40
  replace f5 := f5.u b40
  replace f10 := f10.u b40
  replace f15 := f15.u b40
  replace f18 := f18.u b40
  replace f12 := f12.u b40
  replace f31 := f31.u b40
  replace f38 := f38.u b40
  refine wl_p (fun _ => o_eq rfl rfl) ?_
  refine wl_p (fun _ => o_pick_t rfl rfl) ?_
  refine wl_p (fun _ => o_move rfl) ?_
  obtain rfl : z40 = 1 := (i40.eq hW2 (by decide)).trans (by decide)
  refine wl_r (o_loadag Try.isAgg26 Try.sizeOf26 rfl f (by rfl)) ?_
  refine wl_litC [101] Try.u8 Try.sizeOf5 Try.zeroValue5 (by rfl) rfl rfl (by rfl) (by rfl) (by rfl) ?_
  rintro A45 w45 f45 b45
  have s45 := b45.size
  replace hw := hw.trans (b45.mono hw.size)
  replace f38 := f38.u b45
  replace f31 := f31.u b45
  replace f12 := f12.u b45
  replace f18 := f18.u b45
  replace f15 := f15.u b45
  replace f10 := f10.u b45
  replace f5 := f5.u b45
  replace f7 := f7.u b45
  replace f16 := f16.u b45
  replace f20 := f20.u b45
  replace f := f.u b45
  refine wl_call rfl (C_leafKid _ (RI.nil_) f15.to_RZ f20.to_RKy f45.to_Rd (by rfl) (by rfl) (by rfl) (by rfl) (by simp [LightI]) (by omega) (by simp [LightK]) (by decide) (by omega) (by simp)) ?_
  rintro v47 w47 ⟨z47, ⟨rfl, ⟨i47, b47⟩⟩⟩
  have s47 := b47.size
  replace hw := hw.trans (b47.mono hw.size)
  replace f := f.u b47
  replace f20 := f20.u b47
  replace f16 := f16.u b47
  replace f7 := f7.u b47
  replace f5 := f5.u b47
  replace f10 := f10.u b47
  replace f15 := f15.u b47
  replace f18 := f18.u b47
  replace f12 := f12.u b47
  replace f31 := f31.u b47
  replace f38 := f38.u b47
  replace f45 := f45.u b47
  refine wl_p (fun _ => o_eq rfl rfl) ?_
  refine wl_p (fun _ => o_pick_t rfl rfl) ?_
  refine wl_p (fun _ => o_move rfl) ?_
  obtain rfl : z47 = 1 := (i47.eq hW2 (by decide)).trans (by decide)
  refine wl_r (o_loadag Try.isAgg26 Try.sizeOf26 rfl f (by rfl)) ?_
  refine wl_litC [122] Try.u8 Try.sizeOf5 Try.zeroValue5 (by rfl) rfl rfl (by rfl) (by rfl) (by rfl) ?_
  rintro A52 w52 f52 b52
  have s52 := b52.size
  replace hw := hw.trans (b52.mono hw.size)
  replace f45 := f45.u b52
  replace f38 := f38.u b52
  replace f31 := f31.u b52
  replace f12 := f12.u b52
  replace f18 := f18.u b52
  replace f15 := f15.u b52
  replace f10 := f10.u b52
  replace f5 := f5.u b52
  replace f7 := f7.u b52
  replace f16 := f16.u b52
  replace f20 := f20.u b52
  replace f := f.u b52
  refine wl_call rfl (C_leafKid _ (RI.nil_) f15.to_RZ f20.to_RKy f52.to_Rd (by rfl) (by rfl) (by rfl) (by rfl) (by simp [LightI]) (by omega) (by simp [LightK]) (by decide) (by omega) (by simp)) ?_
  rintro v54 w54 ⟨z54, ⟨rfl, ⟨i54, b54⟩⟩⟩
  have s54 := b54.size
  replace hw := hw.trans (b54.mono hw.size)
  replace f := f.u b54
  replace f20 := f20.u b54
  replace f16 := f16.u b54
  replace f7 := f7.u b54
  replace f5 := f5.u b54
  replace f10 := f10.u b54
  replace f15 := f15.u b54
  replace f18 := f18.u b54
  replace f12 := f12.u b54
  replace f31 := f31.u b54
  replace f38 := f38.u b54
  replace f45 := f45.u b54
  replace f52 := f52.u b54
  refine wl_p (fun _ => o_eq rfl rfl) ?_
  refine wl_p (fun _ => o_pick_t rfl rfl) ?_
  refine wl_p (fun _ => o_assign rfl) ?_
  refine wl_nil ?_
  obtain rfl : z54 = 2 := (i54.eq hW2 (by decide)).trans (by decide)
  refine ret1 rfl rfl ?_
  exact ⟨rfl, hw⟩
end Go.Proofs.Ytchcpnfafgiifaa
