/- Closed facts on the types of the laws' arguments, written by a program. -/
import Derived.Test.YtoegpalacppllaaFacts
import Derived.Test.YtoegpalacppllaaOpen2
namespace Go.Proofs.Ytoegpalacppllaa
open Pl
theorem tyS26 : TyS Try.prog 26 := ⟨_, _, _, _, _, _, _, Try.underlying26, Try.underlying24, by kernel_rfl, by kernel_rfl, rfl, rfl, rfl, rfl, rfl, rfl, rfl, Try.underlying5, Try.underlying3, Try.underlying3, Try.underlying22, Try.underlying22, Try.underlying22, by kernel_rfl, by kernel_rfl, by kernel_rfl, by kernel_rfl, by kernel_rfl, by kernel_rfl⟩
end Go.Proofs.Ytoegpalacppllaa
