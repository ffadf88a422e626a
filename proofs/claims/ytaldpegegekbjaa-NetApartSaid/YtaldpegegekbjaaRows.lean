/-
  No cell of these rows narrows 'for every input' (looked for: loops, veiled, ifaces, maps, wideKeys, modest, calm, conditions, laid).
  DERIVED. THE GIVEN ROWS OF THIS SEAT. 4 by the template 'for every input the law returns true; each argument reads behind the call as it read before'; 0 by the template 'total and deterministic' (their statements: YtaldpegegekbjaaTotals.lean).
  GIVEN WITH THE SEED: the statements are not yours to turn. If you find one false, say at which input.
  Laid BY PROGRAM, IN A SANDBOX (cutbox-rows.mjs): the forced cells as the released guide's own fill.sh prints them over the translation 80025951933d19df… (all of the seat's roots in one cut). By AI agents, Wed Nov 11 2026. No macro, syntax, notation, axiom, sorry.
-/
import Derived.Test.YtaldpegegekbjaaChecked
import GoSem.Claim
import GoSem.ClaimJoined
import GoSem.ClaimMapViews
import Derived.JoinedTies
import Derived.KernelRfl
namespace Go.Proofs.Ytaldpegegekbjaa
/- THE CELL 'sum', in the pinned program and in every row, IS THE sha256 OF THE DUMP (.gsa) THAT YtaldpegegekbjaaProg.lean LOADS. Nothing in Lean hashes anything: it is a label: what it is worth is what the hold of that sum in a sandbox is worth. -/
noncomputable def Try.pinned : Pinned := { name := "ytaldpegegekbjaa", sum := "80025951933d19dfa3faa4e5bd2cc1080e1ce0d60980e4a5517100cc79195bcd", checked := Try.checked }
namespace Rows
def none {H : Type} : Left H := { results := [], args := [] }

/-- 'headwaterlaw28.NetComes': WHATEVER THE INPUT: true; the input reads as it did. -/
def netComesSpec : ChangeSpec := { name := "netComes", fn := fun _ => fun
  | [d1, d2] => { results := [.lit (.bool true)], args := [d1, d2] }
  | _ => none }
def netComesRow : OpenClaim := { program := "ytaldpegegekbjaa", sum := "80025951933d19dfa3faa4e5bd2cc1080e1ce0d60980e4a5517100cc79195bcd", func := "headwater/headwaterlaw28.NetComes", spec := "netComes", inPlace := ["slices.overlaps[headwater/api.Env]"], unfollowed := true, recurses := true, apart := false }
def NetComesSaid : Prop := netComesRow.holds Try.pinned (OpenSpec.ofChange netComesSpec)

/-- ITS FALSE NEIGHBOUR: 'it returns false'. Refute it at one input. -/
def netComesWrong : ChangeSpec := { name := "netComes", fn := fun _ => fun
  | [d1, d2] => { results := [.lit (.bool false)], args := [d1, d2] }
  | _ => none }
def NetComesWrongFalsely : Prop := netComesRow.holds Try.pinned (OpenSpec.ofChange netComesWrong)

/-- 'headwaterlaw28.NetApart': WHATEVER THE INPUT: true; the input reads as it did. -/
def netApartSpec : ChangeSpec := { name := "netApart", fn := fun _ => fun
  | [d1, d2, d3, d4] => { results := [.lit (.bool true)], args := [d1, d2, d3, d4] }
  | _ => none }
def netApartRow : OpenClaim := { program := "ytaldpegegekbjaa", sum := "80025951933d19dfa3faa4e5bd2cc1080e1ce0d60980e4a5517100cc79195bcd", func := "headwater/headwaterlaw28.NetApart", spec := "netApart", inPlace := ["slices.overlaps[headwater/api.Env]"], unfollowed := true, recurses := true, apart := false }
def NetApartSaid : Prop := netApartRow.holds Try.pinned (OpenSpec.ofChange netApartSpec)

/-- ITS FALSE NEIGHBOUR: 'it returns false'. Refute it at one input. -/
def netApartWrong : ChangeSpec := { name := "netApart", fn := fun _ => fun
  | [d1, d2, d3, d4] => { results := [.lit (.bool false)], args := [d1, d2, d3, d4] }
  | _ => none }
def NetApartWrongFalsely : Prop := netApartRow.holds Try.pinned (OpenSpec.ofChange netApartWrong)

/-- 'headwaterlaw28.NetFull': WHATEVER THE INPUT: true; the input reads as it did. -/
def netFullSpec : ChangeSpec := { name := "netFull", fn := fun _ => fun
  | [d] => { results := [.lit (.bool true)], args := [d] }
  | _ => none }
def netFullRow : OpenClaim := { program := "ytaldpegegekbjaa", sum := "80025951933d19dfa3faa4e5bd2cc1080e1ce0d60980e4a5517100cc79195bcd", func := "headwater/headwaterlaw28.NetFull", spec := "netFull", inPlace := ["slices.overlaps[headwater/api.Env]"], unfollowed := true, recurses := true, apart := false }
def NetFullSaid : Prop := netFullRow.holds Try.pinned (OpenSpec.ofChange netFullSpec)

/-- ITS FALSE NEIGHBOUR: 'it returns false'. Refute it at one input. -/
def netFullWrong : ChangeSpec := { name := "netFull", fn := fun _ => fun
  | [d] => { results := [.lit (.bool false)], args := [d] }
  | _ => none }
def NetFullWrongFalsely : Prop := netFullRow.holds Try.pinned (OpenSpec.ofChange netFullWrong)

/-- 'headwaterlaw28.NetNames': WHATEVER THE INPUT: true; the input reads as it did. -/
def netNamesSpec : ChangeSpec := { name := "netNames", fn := fun _ => fun
  | [] => { results := [.lit (.bool true)], args := [] }
  | _ => none }
def netNamesRow : OpenClaim := { program := "ytaldpegegekbjaa", sum := "80025951933d19dfa3faa4e5bd2cc1080e1ce0d60980e4a5517100cc79195bcd", func := "headwater/headwaterlaw28.NetNames", spec := "netNames", inPlace := ["slices.overlaps[headwater/api.Env]"], unfollowed := true, recurses := true, apart := false }
def NetNamesSaid : Prop := netNamesRow.holds Try.pinned (OpenSpec.ofChange netNamesSpec)

/-- ITS FALSE NEIGHBOUR: 'it returns false'. Refute it at one input. -/
def netNamesWrong : ChangeSpec := { name := "netNames", fn := fun _ => fun
  | [] => { results := [.lit (.bool false)], args := [] }
  | _ => none }
def NetNamesWrongFalsely : Prop := netNamesRow.holds Try.pinned (OpenSpec.ofChange netNamesWrong)

/- THE SECOND FORM. 'bulk': how many values and letters a reading holds, each counted each time it is reached (what is shared counts as often as it is met; a slice's spare places count too). A statement '..UptoSaid' is the law's where the arguments, and the package variables that the reading takes, are together of bulk at most 1048576: NARROWER than '..Said'. Prove '..Said' where nothing that the law and all that it calls make is longer than what came in: it says more and counts as full. Else prove '..UptoSaid'. A law counts once. -/
mutual
def uptoBulk {H : Type} : DataW H → Nat
  | .lit (.string bytes) => bytes.length + 1
  | .lit _ => 1
  | .nil => 1
  | .ptr d => uptoBulk d + 1
  | .slice elems spare => uptoBulkAll elems + uptoBulkAll spare + 1
  | .agg parts => uptoBulkAll parts + 1
  | .iface _ d => uptoBulk d + 1
  | .map entries => uptoBulkEntries entries + 1
  | .held _ => 1
def uptoBulkAll {H : Type} : List (DataW H) → Nat
  | [] => 0
  | d :: r => uptoBulk d + uptoBulkAll r
def uptoBulkEntries {H : Type} : List (Lit × DataW H) → Nat
  | [] => 0
  | x :: r => uptoBulkEntry x + uptoBulkEntries r
def uptoBulkEntry {H : Type} : Lit × DataW H → Nat
  | (.string bytes, d) => bytes.length + uptoBulk d + 1
  | (_, d) => uptoBulk d + 1
 end
def uptoSmall : (H : Type) → List (DataW H) → Bool := fun _ ds => decide (uptoBulkAll ds ≤ 1048576)
def OpenSpec.upto (s : _root_.Go.ChangeSpec) : _root_.Go.OpenSpec := { _root_.Go.OpenSpec.ofChange s with cond := some uptoSmall }

/-- 'headwaterlaw28.NetComes', WHERE WHAT IT READS IS OF BULK AT MOST 1048576: true; the input reads as it did. -/
def netComesUptoRow : OpenClaim := { program := "ytaldpegegekbjaa", sum := "80025951933d19dfa3faa4e5bd2cc1080e1ce0d60980e4a5517100cc79195bcd", func := "headwater/headwaterlaw28.NetComes", spec := "netComes", inPlace := ["slices.overlaps[headwater/api.Env]"], unfollowed := true, recurses := true, apart := false, narrowed := true }
def NetComesUptoSaid : Prop := netComesUptoRow.holds Try.pinned (OpenSpec.upto netComesSpec)

/-- 'headwaterlaw28.NetApart', WHERE WHAT IT READS IS OF BULK AT MOST 1048576: true; the input reads as it did. -/
def netApartUptoRow : OpenClaim := { program := "ytaldpegegekbjaa", sum := "80025951933d19dfa3faa4e5bd2cc1080e1ce0d60980e4a5517100cc79195bcd", func := "headwater/headwaterlaw28.NetApart", spec := "netApart", inPlace := ["slices.overlaps[headwater/api.Env]"], unfollowed := true, recurses := true, apart := false, narrowed := true }
def NetApartUptoSaid : Prop := netApartUptoRow.holds Try.pinned (OpenSpec.upto netApartSpec)

/-- 'headwaterlaw28.NetFull', WHERE WHAT IT READS IS OF BULK AT MOST 1048576: true; the input reads as it did. -/
def netFullUptoRow : OpenClaim := { program := "ytaldpegegekbjaa", sum := "80025951933d19dfa3faa4e5bd2cc1080e1ce0d60980e4a5517100cc79195bcd", func := "headwater/headwaterlaw28.NetFull", spec := "netFull", inPlace := ["slices.overlaps[headwater/api.Env]"], unfollowed := true, recurses := true, apart := false, narrowed := true }
def NetFullUptoSaid : Prop := netFullUptoRow.holds Try.pinned (OpenSpec.upto netFullSpec)

/-- 'headwaterlaw28.NetNames', WHERE WHAT IT READS IS OF BULK AT MOST 1048576: true; the input reads as it did. -/
def netNamesUptoRow : OpenClaim := { program := "ytaldpegegekbjaa", sum := "80025951933d19dfa3faa4e5bd2cc1080e1ce0d60980e4a5517100cc79195bcd", func := "headwater/headwaterlaw28.NetNames", spec := "netNames", inPlace := ["slices.overlaps[headwater/api.Env]"], unfollowed := true, recurses := true, apart := false, narrowed := true }
def NetNamesUptoSaid : Prop := netNamesUptoRow.holds Try.pinned (OpenSpec.upto netNamesSpec)

end Rows
end Go.Proofs.Ytaldpegegekbjaa
