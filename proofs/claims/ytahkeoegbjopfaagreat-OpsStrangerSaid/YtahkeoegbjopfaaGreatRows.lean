/-
  No cell of these rows narrows 'for every input' (looked for: loops, veiled, ifaces, maps, wideKeys, modest, calm, conditions, laid).
  DERIVED. THE GIVEN ROWS OF THIS SEAT. 3 by the template 'for every input the law returns true; each argument reads behind the call as it read before'; 0 by the template 'total and deterministic' (their statements: YtahkeoegbjopfaaGreatTotals.lean).
  GIVEN WITH THE SEED: the statements are not yours to turn. If you find one false, say at which input.
  Laid BY PROGRAM, IN A SANDBOX (cutbox-rows.mjs): the forced cells as the released guide's own fill.sh prints them over the translation 3b6e4fac5971a9cb… (all of the seat's roots in one cut). By AI agents, Wed Nov 11 2026. No macro, syntax, notation, axiom, sorry.
-/
import Derived.Test.YtahkeoegbjopfaaGreatChecked
import GoSem.Claim
import GoSem.ClaimJoined
import GoSem.ClaimMapViews
import Derived.JoinedTies
import Derived.KernelRfl
namespace Go.Proofs.YtahkeoegbjopfaaGreat
/- THE CELL 'sum', in the pinned program and in every row, IS THE sha256 OF THE DUMP (.gsa) THAT YtahkeoegbjopfaaGreatProg.lean LOADS. Nothing in Lean hashes anything: it is a label: what it is worth is what the hold of that sum in a sandbox is worth. -/
noncomputable def Tryz.pinned : Pinned := { name := "ytahkeoegbjopfaagreat", sum := "3b6e4fac5971a9cbd49b2870cf6b776bc75acf7c35702f5085e3eb54321df158", checked := Tryz.checked }
namespace Rows
def none {H : Type} : Left H := { results := [], args := [] }

/-- 'headwaterlaw22.OpsParts': WHATEVER THE INPUT: true; the input reads as it did. -/
def opsPartsSpec : ChangeSpec := { name := "opsParts", fn := fun _ => fun
  | [d1, d2] => { results := [.lit (.bool true)], args := [d1, d2] }
  | _ => none }
def opsPartsRow : OpenClaim := { program := "ytahkeoegbjopfaagreat", sum := "3b6e4fac5971a9cbd49b2870cf6b776bc75acf7c35702f5085e3eb54321df158", func := "headwater/headwaterlaw22.OpsParts", spec := "opsParts", inPlace := ["internal/bytealg.Compare", "slices.overlaps[headwater/api.Item]", "slices.overlaps[headwater/api.Key]"], unfollowed := true, recurses := true, apart := false }
def OpsPartsSaid : Prop := opsPartsRow.holds Tryz.pinned (OpenSpec.ofChange opsPartsSpec)

/-- ITS FALSE NEIGHBOUR: 'it returns false'. Refute it at one input. -/
def opsPartsWrong : ChangeSpec := { name := "opsParts", fn := fun _ => fun
  | [d1, d2] => { results := [.lit (.bool false)], args := [d1, d2] }
  | _ => none }
def OpsPartsWrongFalsely : Prop := opsPartsRow.holds Tryz.pinned (OpenSpec.ofChange opsPartsWrong)

/-- 'headwaterlaw22.OpsFolds': WHATEVER THE INPUT: true; the input reads as it did. -/
def opsFoldsSpec : ChangeSpec := { name := "opsFolds", fn := fun _ => fun
  | [d1, d2] => { results := [.lit (.bool true)], args := [d1, d2] }
  | _ => none }
def opsFoldsRow : OpenClaim := { program := "ytahkeoegbjopfaagreat", sum := "3b6e4fac5971a9cbd49b2870cf6b776bc75acf7c35702f5085e3eb54321df158", func := "headwater/headwaterlaw22.OpsFolds", spec := "opsFolds", inPlace := ["internal/bytealg.Compare", "slices.overlaps[headwater/api.Item]", "slices.overlaps[headwater/api.Key]"], unfollowed := true, recurses := true, apart := false }
def OpsFoldsSaid : Prop := opsFoldsRow.holds Tryz.pinned (OpenSpec.ofChange opsFoldsSpec)

/-- ITS FALSE NEIGHBOUR: 'it returns false'. Refute it at one input. -/
def opsFoldsWrong : ChangeSpec := { name := "opsFolds", fn := fun _ => fun
  | [d1, d2] => { results := [.lit (.bool false)], args := [d1, d2] }
  | _ => none }
def OpsFoldsWrongFalsely : Prop := opsFoldsRow.holds Tryz.pinned (OpenSpec.ofChange opsFoldsWrong)

/-- 'headwaterlaw22.OpsStranger': WHATEVER THE INPUT: true; the input reads as it did. -/
def opsStrangerSpec : ChangeSpec := { name := "opsStranger", fn := fun _ => fun
  | [d1, d2, d3] => { results := [.lit (.bool true)], args := [d1, d2, d3] }
  | _ => none }
def opsStrangerRow : OpenClaim := { program := "ytahkeoegbjopfaagreat", sum := "3b6e4fac5971a9cbd49b2870cf6b776bc75acf7c35702f5085e3eb54321df158", func := "headwater/headwaterlaw22.OpsStranger", spec := "opsStranger", inPlace := ["internal/bytealg.Compare", "slices.overlaps[headwater/api.Item]", "slices.overlaps[headwater/api.Key]"], unfollowed := true, recurses := true, apart := false }
def OpsStrangerSaid : Prop := opsStrangerRow.holds Tryz.pinned (OpenSpec.ofChange opsStrangerSpec)

/-- ITS FALSE NEIGHBOUR: 'it returns false'. Refute it at one input. -/
def opsStrangerWrong : ChangeSpec := { name := "opsStranger", fn := fun _ => fun
  | [d1, d2, d3] => { results := [.lit (.bool false)], args := [d1, d2, d3] }
  | _ => none }
def OpsStrangerWrongFalsely : Prop := opsStrangerRow.holds Tryz.pinned (OpenSpec.ofChange opsStrangerWrong)

/- THE SECOND FORM. 'bulk': how many values and letters a reading holds, each counted each time it is reached (what is shared counts as often as it is met; a slice's spare places count too). A statement '..UptoSaid' is the law's where the arguments, and the package variables that the reading takes, are together of bulk at most 1048576: NARROWER than '..Said'. Prove '..Said' where nothing that the law and all that it calls make is longer than what came in: it says more and counts as full. Else prove '..UptoSaid'. A law counts once. -/
mutual
def uptoBulk {H : Type} : DataW H → Nat
  | .lit (.string bytes) => bytes.length + 1
  | .lit _ => 1
  | .nil => 1
  | .ptr d => uptoBulk d + 1
  | .slice elems spare => uptoBulkAll elems + uptoBulkAll spare + 1
  | .agg parts => uptoBulkAll parts + 1
  | .iface _ d => uptoBulk d + 1
  | .map entries => uptoBulkEntries entries + 1
  | .held _ => 1
def uptoBulkAll {H : Type} : List (DataW H) → Nat
  | [] => 0
  | d :: r => uptoBulk d + uptoBulkAll r
def uptoBulkEntries {H : Type} : List (Lit × DataW H) → Nat
  | [] => 0
  | x :: r => uptoBulkEntry x + uptoBulkEntries r
def uptoBulkEntry {H : Type} : Lit × DataW H → Nat
  | (.string bytes, d) => bytes.length + uptoBulk d + 1
  | (_, d) => uptoBulk d + 1
 end
def uptoSmall : (H : Type) → List (DataW H) → Bool := fun _ ds => decide (uptoBulkAll ds ≤ 1048576)
def OpenSpec.upto (s : _root_.Go.ChangeSpec) : _root_.Go.OpenSpec := { _root_.Go.OpenSpec.ofChange s with cond := some uptoSmall }

/-- 'headwaterlaw22.OpsParts', WHERE WHAT IT READS IS OF BULK AT MOST 1048576: true; the input reads as it did. -/
def opsPartsUptoRow : OpenClaim := { program := "ytahkeoegbjopfaagreat", sum := "3b6e4fac5971a9cbd49b2870cf6b776bc75acf7c35702f5085e3eb54321df158", func := "headwater/headwaterlaw22.OpsParts", spec := "opsParts", inPlace := ["internal/bytealg.Compare", "slices.overlaps[headwater/api.Item]", "slices.overlaps[headwater/api.Key]"], unfollowed := true, recurses := true, apart := false, narrowed := true }
def OpsPartsUptoSaid : Prop := opsPartsUptoRow.holds Tryz.pinned (OpenSpec.upto opsPartsSpec)

/-- 'headwaterlaw22.OpsFolds', WHERE WHAT IT READS IS OF BULK AT MOST 1048576: true; the input reads as it did. -/
def opsFoldsUptoRow : OpenClaim := { program := "ytahkeoegbjopfaagreat", sum := "3b6e4fac5971a9cbd49b2870cf6b776bc75acf7c35702f5085e3eb54321df158", func := "headwater/headwaterlaw22.OpsFolds", spec := "opsFolds", inPlace := ["internal/bytealg.Compare", "slices.overlaps[headwater/api.Item]", "slices.overlaps[headwater/api.Key]"], unfollowed := true, recurses := true, apart := false, narrowed := true }
def OpsFoldsUptoSaid : Prop := opsFoldsUptoRow.holds Tryz.pinned (OpenSpec.upto opsFoldsSpec)

/-- 'headwaterlaw22.OpsStranger', WHERE WHAT IT READS IS OF BULK AT MOST 1048576: true; the input reads as it did. -/
def opsStrangerUptoRow : OpenClaim := { program := "ytahkeoegbjopfaagreat", sum := "3b6e4fac5971a9cbd49b2870cf6b776bc75acf7c35702f5085e3eb54321df158", func := "headwater/headwaterlaw22.OpsStranger", spec := "opsStranger", inPlace := ["internal/bytealg.Compare", "slices.overlaps[headwater/api.Item]", "slices.overlaps[headwater/api.Key]"], unfollowed := true, recurses := true, apart := false, narrowed := true }
def OpsStrangerUptoSaid : Prop := opsStrangerUptoRow.holds Tryz.pinned (OpenSpec.upto opsStrangerSpec)

end Rows
end Go.Proofs.YtahkeoegbjopfaaGreat
