/-
  No cell of these rows narrows 'for every input' (looked for: loops, veiled, ifaces, maps, wideKeys, modest, calm, conditions, laid).
  DERIVED. THE GIVEN ROWS OF THIS SEAT. 5 by the template 'for every input the law returns true; each argument reads behind the call as it read before'; 0 by the template 'total and deterministic' (their statements: YtbncaabcddoicaaTotals.lean).
  GIVEN WITH THE SEED: the statements are not yours to turn. If you find one false, say at which input.
  Laid BY PROGRAM, IN A SANDBOX (cutbox-rows.mjs): the forced cells as the released guide's own fill.sh prints them over the translation 8d791460a7362cee… (all of the seat's roots in one cut). By AI agents, Wed Nov 11 2026. No macro, syntax, notation, axiom, sorry.
-/
import Derived.Test.YtbncaabcddoicaaChecked
import GoSem.Claim
import GoSem.ClaimJoined
import GoSem.ClaimMapViews
import Derived.JoinedTies
import Derived.KernelRfl
namespace Go.Proofs.Ytbncaabcddoicaa
/- THE CELL 'sum', in the pinned program and in every row, IS THE sha256 OF THE DUMP (.gsa) THAT YtbncaabcddoicaaProg.lean LOADS. Nothing in Lean hashes anything: it is a label: what it is worth is what the hold of that sum in a sandbox is worth. -/
noncomputable def Try.pinned : Pinned := { name := "ytbncaabcddoicaa", sum := "8d791460a7362cee79fbc8f740451eb45fa1ce8804780e5e6418c2eb8ed3b495", checked := Try.checked }
namespace Rows
def none {H : Type} : Left H := { results := [], args := [] }

/-- 'headwaterlaw18.ReorgLeast': WHATEVER THE INPUT: true; the input reads as it did. -/
def reorgLeastSpec : ChangeSpec := { name := "reorgLeast", fn := fun _ => fun
  | [d1, d2, d3] => { results := [.lit (.bool true)], args := [d1, d2, d3] }
  | _ => none }
def reorgLeastRow : OpenClaim := { program := "ytbncaabcddoicaa", sum := "8d791460a7362cee79fbc8f740451eb45fa1ce8804780e5e6418c2eb8ed3b495", func := "headwater/headwaterlaw18.ReorgLeast", spec := "reorgLeast", unfollowed := true, recurses := true, plainKeys := false, apart := false }
def ReorgLeastSaid : Prop := reorgLeastRow.holds Try.pinned (OpenSpec.ofChange reorgLeastSpec)

/-- ITS FALSE NEIGHBOUR: 'it returns false'. Refute it at one input. -/
def reorgLeastWrong : ChangeSpec := { name := "reorgLeast", fn := fun _ => fun
  | [d1, d2, d3] => { results := [.lit (.bool false)], args := [d1, d2, d3] }
  | _ => none }
def ReorgLeastWrongFalsely : Prop := reorgLeastRow.holds Try.pinned (OpenSpec.ofChange reorgLeastWrong)

/-- 'headwaterlaw18.ReorgTurns': WHATEVER THE INPUT: true; the input reads as it did. -/
def reorgTurnsSpec : ChangeSpec := { name := "reorgTurns", fn := fun _ => fun
  | [d1, d2, d3] => { results := [.lit (.bool true)], args := [d1, d2, d3] }
  | _ => none }
def reorgTurnsRow : OpenClaim := { program := "ytbncaabcddoicaa", sum := "8d791460a7362cee79fbc8f740451eb45fa1ce8804780e5e6418c2eb8ed3b495", func := "headwater/headwaterlaw18.ReorgTurns", spec := "reorgTurns", unfollowed := true, recurses := true, plainKeys := false, apart := false }
def ReorgTurnsSaid : Prop := reorgTurnsRow.holds Try.pinned (OpenSpec.ofChange reorgTurnsSpec)

/-- ITS FALSE NEIGHBOUR: 'it returns false'. Refute it at one input. -/
def reorgTurnsWrong : ChangeSpec := { name := "reorgTurns", fn := fun _ => fun
  | [d1, d2, d3] => { results := [.lit (.bool false)], args := [d1, d2, d3] }
  | _ => none }
def ReorgTurnsWrongFalsely : Prop := reorgTurnsRow.holds Try.pinned (OpenSpec.ofChange reorgTurnsWrong)

/-- 'headwaterlaw18.ReorgLeads': WHATEVER THE INPUT: true; the input reads as it did. -/
def reorgLeadsSpec : ChangeSpec := { name := "reorgLeads", fn := fun _ => fun
  | [d1, d2, d3] => { results := [.lit (.bool true)], args := [d1, d2, d3] }
  | _ => none }
def reorgLeadsRow : OpenClaim := { program := "ytbncaabcddoicaa", sum := "8d791460a7362cee79fbc8f740451eb45fa1ce8804780e5e6418c2eb8ed3b495", func := "headwater/headwaterlaw18.ReorgLeads", spec := "reorgLeads", unfollowed := true, recurses := true, plainKeys := false, apart := false }
def ReorgLeadsSaid : Prop := reorgLeadsRow.holds Try.pinned (OpenSpec.ofChange reorgLeadsSpec)

/-- ITS FALSE NEIGHBOUR: 'it returns false'. Refute it at one input. -/
def reorgLeadsWrong : ChangeSpec := { name := "reorgLeads", fn := fun _ => fun
  | [d1, d2, d3] => { results := [.lit (.bool false)], args := [d1, d2, d3] }
  | _ => none }
def ReorgLeadsWrongFalsely : Prop := reorgLeadsRow.holds Try.pinned (OpenSpec.ofChange reorgLeadsWrong)

/-- 'headwaterlaw18.ReorgNames': WHATEVER THE INPUT: true; the input reads as it did. -/
def reorgNamesSpec : ChangeSpec := { name := "reorgNames", fn := fun _ => fun
  | [] => { results := [.lit (.bool true)], args := [] }
  | _ => none }
def reorgNamesRow : OpenClaim := { program := "ytbncaabcddoicaa", sum := "8d791460a7362cee79fbc8f740451eb45fa1ce8804780e5e6418c2eb8ed3b495", func := "headwater/headwaterlaw18.ReorgNames", spec := "reorgNames", unfollowed := true, recurses := true, plainKeys := false, apart := false }
def ReorgNamesSaid : Prop := reorgNamesRow.holds Try.pinned (OpenSpec.ofChange reorgNamesSpec)

/-- ITS FALSE NEIGHBOUR: 'it returns false'. Refute it at one input. -/
def reorgNamesWrong : ChangeSpec := { name := "reorgNames", fn := fun _ => fun
  | [] => { results := [.lit (.bool false)], args := [] }
  | _ => none }
def ReorgNamesWrongFalsely : Prop := reorgNamesRow.holds Try.pinned (OpenSpec.ofChange reorgNamesWrong)

/-- 'headwaterlaw18.ReorgCalls': WHATEVER THE INPUT: true; the input reads as it did. -/
def reorgCallsSpec : ChangeSpec := { name := "reorgCalls", fn := fun _ => fun
  | [d1, d2, d3, d4, d5] => { results := [.lit (.bool true)], args := [d1, d2, d3, d4, d5] }
  | _ => none }
def reorgCallsRow : OpenClaim := { program := "ytbncaabcddoicaa", sum := "8d791460a7362cee79fbc8f740451eb45fa1ce8804780e5e6418c2eb8ed3b495", func := "headwater/headwaterlaw18.ReorgCalls", spec := "reorgCalls", unfollowed := true, recurses := true, plainKeys := false, apart := false }
def ReorgCallsSaid : Prop := reorgCallsRow.holds Try.pinned (OpenSpec.ofChange reorgCallsSpec)

/-- ITS FALSE NEIGHBOUR: 'it returns false'. Refute it at one input. -/
def reorgCallsWrong : ChangeSpec := { name := "reorgCalls", fn := fun _ => fun
  | [d1, d2, d3, d4, d5] => { results := [.lit (.bool false)], args := [d1, d2, d3, d4, d5] }
  | _ => none }
def ReorgCallsWrongFalsely : Prop := reorgCallsRow.holds Try.pinned (OpenSpec.ofChange reorgCallsWrong)

/- THE SECOND FORM. 'bulk': how many values and letters a reading holds, each counted each time it is reached (what is shared counts as often as it is met; a slice's spare places count too). A statement '..UptoSaid' is the law's where the arguments, and the package variables that the reading takes, are together of bulk at most 1048576: NARROWER than '..Said'. Prove '..Said' where nothing that the law and all that it calls make is longer than what came in: it says more and counts as full. Else prove '..UptoSaid'. A law counts once. -/
mutual
def uptoBulk {H : Type} : DataW H → Nat
  | .lit (.string bytes) => bytes.length + 1
  | .lit _ => 1
  | .nil => 1
  | .ptr d => uptoBulk d + 1
  | .slice elems spare => uptoBulkAll elems + uptoBulkAll spare + 1
  | .agg parts => uptoBulkAll parts + 1
  | .iface _ d => uptoBulk d + 1
  | .map entries => uptoBulkEntries entries + 1
  | .held _ => 1
def uptoBulkAll {H : Type} : List (DataW H) → Nat
  | [] => 0
  | d :: r => uptoBulk d + uptoBulkAll r
def uptoBulkEntries {H : Type} : List (Lit × DataW H) → Nat
  | [] => 0
  | x :: r => uptoBulkEntry x + uptoBulkEntries r
def uptoBulkEntry {H : Type} : Lit × DataW H → Nat
  | (.string bytes, d) => bytes.length + uptoBulk d + 1
  | (_, d) => uptoBulk d + 1
 end
def uptoSmall : (H : Type) → List (DataW H) → Bool := fun _ ds => decide (uptoBulkAll ds ≤ 1048576)
def OpenSpec.upto (s : _root_.Go.ChangeSpec) : _root_.Go.OpenSpec := { _root_.Go.OpenSpec.ofChange s with cond := some uptoSmall }

/-- 'headwaterlaw18.ReorgLeast', WHERE WHAT IT READS IS OF BULK AT MOST 1048576: true; the input reads as it did. -/
def reorgLeastUptoRow : OpenClaim := { program := "ytbncaabcddoicaa", sum := "8d791460a7362cee79fbc8f740451eb45fa1ce8804780e5e6418c2eb8ed3b495", func := "headwater/headwaterlaw18.ReorgLeast", spec := "reorgLeast", unfollowed := true, recurses := true, plainKeys := false, apart := false, narrowed := true }
def ReorgLeastUptoSaid : Prop := reorgLeastUptoRow.holds Try.pinned (OpenSpec.upto reorgLeastSpec)

/-- 'headwaterlaw18.ReorgTurns', WHERE WHAT IT READS IS OF BULK AT MOST 1048576: true; the input reads as it did. -/
def reorgTurnsUptoRow : OpenClaim := { program := "ytbncaabcddoicaa", sum := "8d791460a7362cee79fbc8f740451eb45fa1ce8804780e5e6418c2eb8ed3b495", func := "headwater/headwaterlaw18.ReorgTurns", spec := "reorgTurns", unfollowed := true, recurses := true, plainKeys := false, apart := false, narrowed := true }
def ReorgTurnsUptoSaid : Prop := reorgTurnsUptoRow.holds Try.pinned (OpenSpec.upto reorgTurnsSpec)

/-- 'headwaterlaw18.ReorgLeads', WHERE WHAT IT READS IS OF BULK AT MOST 1048576: true; the input reads as it did. -/
def reorgLeadsUptoRow : OpenClaim := { program := "ytbncaabcddoicaa", sum := "8d791460a7362cee79fbc8f740451eb45fa1ce8804780e5e6418c2eb8ed3b495", func := "headwater/headwaterlaw18.ReorgLeads", spec := "reorgLeads", unfollowed := true, recurses := true, plainKeys := false, apart := false, narrowed := true }
def ReorgLeadsUptoSaid : Prop := reorgLeadsUptoRow.holds Try.pinned (OpenSpec.upto reorgLeadsSpec)

/-- 'headwaterlaw18.ReorgNames', WHERE WHAT IT READS IS OF BULK AT MOST 1048576: true; the input reads as it did. -/
def reorgNamesUptoRow : OpenClaim := { program := "ytbncaabcddoicaa", sum := "8d791460a7362cee79fbc8f740451eb45fa1ce8804780e5e6418c2eb8ed3b495", func := "headwater/headwaterlaw18.ReorgNames", spec := "reorgNames", unfollowed := true, recurses := true, plainKeys := false, apart := false, narrowed := true }
def ReorgNamesUptoSaid : Prop := reorgNamesUptoRow.holds Try.pinned (OpenSpec.upto reorgNamesSpec)

/-- 'headwaterlaw18.ReorgCalls', WHERE WHAT IT READS IS OF BULK AT MOST 1048576: true; the input reads as it did. -/
def reorgCallsUptoRow : OpenClaim := { program := "ytbncaabcddoicaa", sum := "8d791460a7362cee79fbc8f740451eb45fa1ce8804780e5e6418c2eb8ed3b495", func := "headwater/headwaterlaw18.ReorgCalls", spec := "reorgCalls", unfollowed := true, recurses := true, plainKeys := false, apart := false, narrowed := true }
def ReorgCallsUptoSaid : Prop := reorgCallsUptoRow.holds Try.pinned (OpenSpec.upto reorgCallsSpec)

end Rows
end Go.Proofs.Ytbncaabcddoicaa
