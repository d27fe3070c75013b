/- Facts on this translation's types and functions. -/
import Derived.Test.YtaimbkndebaaiaaMem
import Derived.Test.YtaimbkndebaaiaaProg
import Derived.KernelRfl
namespace Go.Proofs.Ytaimbkndebaaiaa
open Go.Rd
theorem en13 : Enters Try.prog 13 := ⟨Try.f13, Try.func13, by kernel_rfl, by kernel_rfl⟩
theorem en37 : Enters Try.prog 37 := ⟨Try.f37, Try.func37, by kernel_rfl, by kernel_rfl⟩
end Go.Proofs.Ytaimbkndebaaiaa
