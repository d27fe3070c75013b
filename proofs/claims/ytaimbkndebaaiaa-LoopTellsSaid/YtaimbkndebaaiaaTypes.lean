/- Facts on this translation's types and functions. -/
import Derived.Test.YtaimbkndebaaiaaEq
import Derived.Test.YtaimbkndebaaiaaProg
import Derived.KernelRfl
namespace Go.Proofs.Ytaimbkndebaaiaa
open Go.Rd
theorem ag26 : AggT Try.prog 26 7 := ⟨_, Try.underlying26, rfl, by kernel_rfl⟩
theorem ag51 : AggT Try.prog 51 3 := ⟨_, Try.underlying51, rfl, by kernel_rfl⟩
theorem ag54 : AggT Try.prog 54 2 := ⟨_, Try.underlying54, rfl, by kernel_rfl⟩
theorem ag91 : AggT Try.prog 91 2 := ⟨_, Try.underlying91, rfl, by kernel_rfl⟩
theorem ag93 : AggT Try.prog 93 9 := ⟨_, Try.underlying93, rfl, by kernel_rfl⟩
theorem ar24 : ArrayT Try.prog 24 3 1 := ⟨_, Try.underlying24, by kernel_rfl⟩
theorem en13 : Enters Try.prog 13 := ⟨Try.f13, Try.func13, by kernel_rfl, by kernel_rfl⟩
theorem en14 : Enters Try.prog 14 := ⟨Try.f14, Try.func14, by kernel_rfl, by kernel_rfl⟩
theorem en15 : Enters Try.prog 15 := ⟨Try.f15, Try.func15, by kernel_rfl, by kernel_rfl⟩
theorem en16 : Enters Try.prog 16 := ⟨Try.f16, Try.func16, by kernel_rfl, by kernel_rfl⟩
theorem en17 : Enters Try.prog 17 := ⟨Try.f17, Try.func17, by kernel_rfl, by kernel_rfl⟩
theorem en23 : Enters Try.prog 23 := ⟨Try.f23, Try.func23, by kernel_rfl, by kernel_rfl⟩
theorem en24 : Enters Try.prog 24 := ⟨Try.f24, Try.func24, by kernel_rfl, by kernel_rfl⟩
theorem en25 : Enters Try.prog 25 := ⟨Try.f25, Try.func25, by kernel_rfl, by kernel_rfl⟩
theorem en26 : Enters Try.prog 26 := ⟨Try.f26, Try.func26, by kernel_rfl, by kernel_rfl⟩
theorem en27 : Enters Try.prog 27 := ⟨Try.f27, Try.func27, by kernel_rfl, by kernel_rfl⟩
theorem en28 : Enters Try.prog 28 := ⟨Try.f28, Try.func28, by kernel_rfl, by kernel_rfl⟩
theorem en29 : Enters Try.prog 29 := ⟨Try.f29, Try.func29, by kernel_rfl, by kernel_rfl⟩
theorem en30 : Enters Try.prog 30 := ⟨Try.f30, Try.func30, by kernel_rfl, by kernel_rfl⟩
theorem en31 : Enters Try.prog 31 := ⟨Try.f31, Try.func31, by kernel_rfl, by kernel_rfl⟩
theorem en37 : Enters Try.prog 37 := ⟨Try.f37, Try.func37, by kernel_rfl, by kernel_rfl⟩
theorem en44 : Enters Try.prog 44 := ⟨Try.f44, Try.func44, by kernel_rfl, by kernel_rfl⟩
theorem en45 : Enters Try.prog 45 := ⟨Try.f45, Try.func45, by kernel_rfl, by kernel_rfl⟩
theorem en46 : Enters Try.prog 46 := ⟨Try.f46, Try.func46, by kernel_rfl, by kernel_rfl⟩
theorem en47 : Enters Try.prog 47 := ⟨Try.f47, Try.func47, by kernel_rfl, by kernel_rfl⟩
theorem en48 : Enters Try.prog 48 := ⟨Try.f48, Try.func48, by kernel_rfl, by kernel_rfl⟩
theorem en49 : Enters Try.prog 49 := ⟨Try.f49, Try.func49, by kernel_rfl, by kernel_rfl⟩
theorem en50 : Enters Try.prog 50 := ⟨Try.f50, Try.func50, by kernel_rfl, by kernel_rfl⟩
theorem en51 : Enters Try.prog 51 := ⟨Try.f51, Try.func51, by kernel_rfl, by kernel_rfl⟩
theorem en57 : Enters Try.prog 57 := ⟨Try.f57, Try.func57, by kernel_rfl, by kernel_rfl⟩
theorem en58 : Enters Try.prog 58 := ⟨Try.f58, Try.func58, by kernel_rfl, by kernel_rfl⟩
theorem en59 : Enters Try.prog 59 := ⟨Try.f59, Try.func59, by kernel_rfl, by kernel_rfl⟩
theorem eq91 : EqT Try.prog 91 2 := ⟨by kernel_rfl, ⟨_, Try.underlying91⟩, by kernel_rfl, by kernel_rfl⟩
theorem fd26_0 : FieldT Try.prog 26 0 0 := ⟨_, _, 2, Try.underlying26, rfl, rfl, by kernel_rfl⟩
theorem fd26_1 : FieldT Try.prog 26 1 3 := ⟨_, _, 2, Try.underlying26, rfl, rfl, by kernel_rfl⟩
theorem fd26_2 : FieldT Try.prog 26 2 6 := ⟨_, _, 0, Try.underlying26, rfl, rfl, by kernel_rfl⟩
theorem fd51_0 : FieldT Try.prog 51 0 0 := ⟨_, _, 0, Try.underlying51, rfl, rfl, by kernel_rfl⟩
theorem fd51_1 : FieldT Try.prog 51 1 1 := ⟨_, _, 0, Try.underlying51, rfl, rfl, by kernel_rfl⟩
theorem fd51_2 : FieldT Try.prog 51 2 2 := ⟨_, _, 0, Try.underlying51, rfl, rfl, by kernel_rfl⟩
theorem fd54_0 : FieldT Try.prog 54 0 0 := ⟨_, _, 0, Try.underlying54, rfl, rfl, by kernel_rfl⟩
theorem fd54_1 : FieldT Try.prog 54 1 1 := ⟨_, _, 0, Try.underlying54, rfl, rfl, by kernel_rfl⟩
theorem fd91_0 : FieldT Try.prog 91 0 0 := ⟨_, _, 0, Try.underlying91, rfl, rfl, by kernel_rfl⟩
theorem fd91_1 : FieldT Try.prog 91 1 1 := ⟨_, _, 0, Try.underlying91, rfl, rfl, by kernel_rfl⟩
theorem fd93_0 : FieldT Try.prog 93 0 0 := ⟨_, _, 0, Try.underlying93, rfl, rfl, by kernel_rfl⟩
theorem fd93_1 : FieldT Try.prog 93 1 1 := ⟨_, _, 1, Try.underlying93, rfl, rfl, by kernel_rfl⟩
theorem fd93_2 : FieldT Try.prog 93 2 3 := ⟨_, _, 1, Try.underlying93, rfl, rfl, by kernel_rfl⟩
theorem fd93_3 : FieldT Try.prog 93 3 5 := ⟨_, _, 0, Try.underlying93, rfl, rfl, by kernel_rfl⟩
theorem fd93_4 : FieldT Try.prog 93 4 6 := ⟨_, _, 0, Try.underlying93, rfl, rfl, by kernel_rfl⟩
theorem fd93_5 : FieldT Try.prog 93 5 7 := ⟨_, _, 0, Try.underlying93, rfl, rfl, by kernel_rfl⟩
theorem fd93_6 : FieldT Try.prog 93 6 8 := ⟨_, _, 0, Try.underlying93, rfl, rfl, by kernel_rfl⟩
theorem pl2 : Plain Try.prog 2 := ⟨_, Try.underlying2, rfl⟩
theorem pl3 : Plain Try.prog 3 := ⟨_, Try.underlying3, rfl⟩
theorem pl48 : Plain Try.prog 48 := ⟨_, Try.underlying48, rfl⟩
theorem pl49 : Plain Try.prog 49 := ⟨_, Try.underlying49, rfl⟩
theorem pl52 : Plain Try.prog 52 := ⟨_, Try.underlying52, rfl⟩
theorem pl57 : Plain Try.prog 57 := ⟨_, Try.underlying57, rfl⟩
theorem sl48 : SliceT Try.prog 48 3 1 := ⟨Try.underlying48, by kernel_rfl⟩
theorem sl49 : SliceT Try.prog 49 93 9 := ⟨Try.underlying49, by kernel_rfl⟩
theorem sl52 : SliceT Try.prog 52 57 1 := ⟨Try.underlying52, by kernel_rfl⟩
theorem sl96 : SliceT Try.prog 96 91 2 := ⟨Try.underlying96, by kernel_rfl⟩
theorem sz91 : SizeT Try.prog 91 2 := by unfold SizeT; kernel_rfl
theorem sz93 : SizeT Try.prog 93 9 := by unfold SizeT; kernel_rfl
theorem sz_96 : SliceZ Try.prog 96 91 2 [.int .i64 0, .int .i64 0] := ⟨Try.underlying96, by kernel_rfl⟩
theorem ze91 : ZeroT Try.prog 91 [.int .i64 0, .int .i64 0] := by unfold ZeroT; kernel_rfl
theorem ze93 : ZeroT Try.prog 93 [.int .i64 0, .int .i64 0, .int .i64 0, .int .i64 0, .int .i64 0, .int .i64 0, .int .i64 0, .int .i64 0, .int .i64 0] := by unfold ZeroT; kernel_rfl
end Go.Proofs.Ytaimbkndebaaiaa
