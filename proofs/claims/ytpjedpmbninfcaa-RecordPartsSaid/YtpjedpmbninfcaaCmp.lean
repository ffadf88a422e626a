/-
  Bytes compared as strings.
-/
import Derived.Test.YtpjedpmbninfcaaGo
import Derived.Test.YtpjedpmbninfcaaStr
namespace Go.Proofs.Ytpjedpmbninfcaa
open Go.RowKit
section
variable {N : Nat} {fr : Fr} {w w0 : World} {ty : TypeId} {x : Operand}
--@ rule convert r o_strS
theorem o_strS {A : Option Addr} {n c : Nat} {l : List UInt8} (hx : fr.ev x = some (.slice A n c)) (hr : Rd w0 A l) (hb : Below w0.heap.size w0 w) (hn : n = l.length) :
    OpV Try.prog N fr w (.convert 26 9 x) ty (.string ⟨l.toArray⟩) w := o_strU Try.underlying26 Try.underlying5 Try.underlying9 hx hr hb hn
end
theorem C_bEqual {A B : Option Addr} {a b : List UInt8} {n m c d : Nat} (w : World) (hA : Rd w A a) (hB : Rd w B b) (hn : n = a.length) (hm : m = b.length) :
    CallsR Try.prog 26 [.slice A n c, .slice B m d] w fun v w' => v = .bool (decide (a = b)) ∧ Below w.heap.size w w' := by
  subst hn; subst hm
  refine callsR Try.func26 rfl rfl (by kernel_rfl) rfl ?_
  have hw := Below.refl w.heap.size w
  refine rk_seq ?_
  refine rk_region ?_
  refine wl_p (fun _ => o_assign rfl) ?_
  refine wl_nil ?_
  refine rk_seq ?_
  refine rk_region ?_
  refine wl_p (fun _ => o_move rfl) ?_
  refine wl_r (o_strU Try.underlying26 Try.underlying5 Try.underlying9 rfl hA hw rfl) ?_
  refine wl_p (fun _ => o_move rfl) ?_
  refine wl_r (o_strU Try.underlying26 Try.underlying5 Try.underlying9 rfl hB hw rfl) ?_
  refine wl_p (fun _ => o_seq rfl rfl) ?_
  refine wl_p (fun _ => o_assign rfl) ?_
  refine wl_nil ?_
  refine ret1 rfl rfl ?_
  exact ⟨rfl, hw⟩
end Go.Proofs.Ytpjedpmbninfcaa
