/-
  Digests compared.
-/
import Derived.Test.YtpjedpmbninfcaaGo
namespace Go.Proofs.Ytpjedpmbninfcaa
open Go.RowKit
section
variable {N : Nat} {fr : Fr} {w : World} {ty t' : TypeId} {x y : Operand} {p q : List UInt8}
theorem Try.eqg_Digest : Try.prog.eqGuardType Try.prog.depth 23 = false := by kernel_rfl
--@ rule! binOp p o_eqD32
theorem o_eqD32 (hx : fr.ev x = some (.agg (B8 p).toArray)) (hy : fr.ev y = some (.agg (B8 q).toArray)) (hp : p.length = 32) (hq : q.length = 32) : OpV Try.prog N fr w (.binOp .eql 23 x y t') ty (.bool (decide (p = q))) w :=
  o_aeq Try.underlying23 Try.underlying5 Try.sizeOf5 Try.eqg_Digest hx hy hp hq
--@ rule! binOp p o_neD32
theorem o_neD32 (hx : fr.ev x = some (.agg (B8 p).toArray)) (hy : fr.ev y = some (.agg (B8 q).toArray)) (hp : p.length = 32) (hq : q.length = 32) : OpV Try.prog N fr w (.binOp .neq 23 x y t') ty (.bool (decide (p ≠ q))) w :=
  o_ane Try.underlying23 Try.underlying5 Try.sizeOf5 Try.eqg_Digest hx hy hp hq
end
end Go.Proofs.Ytpjedpmbninfcaa
