/-
  Slices of bytes as a type of this seat.
-/
import Derived.Test.YtpjedpmbninfcaaBase
namespace Go.Proofs.Ytpjedpmbninfcaa
theorem Try.u8 : U8 Try.prog 26 := ⟨Try.underlying26, by kernel_rfl, Try.underlying5⟩
--@ side Try.u8
end Go.Proofs.Ytpjedpmbninfcaa
