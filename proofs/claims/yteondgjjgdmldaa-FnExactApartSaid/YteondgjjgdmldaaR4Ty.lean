/- R4Ty -/
import Derived.Test.YteondgjjgdmldaaBaseE
import Derived.Test.YteondgjjgdmldaaBaseD
import Derived.Test.YteondgjjgdmldaaProg
import Derived.KernelRfl
set_option linter.unusedSimpArgs false
set_option linter.unusedVariables false
set_option linter.unnecessarySimpa false
namespace Go.Tw
open Go.Proofs
theorem mixed : Try.prog.follows .mixedOrders = true := by kernel_rfl
theorem fk31 : fieldKinds Try.prog 31 = some [true, true, true, true, true] := by kernel_rfl
theorem fk33 : fieldKinds Try.prog 33 = some [true, true, true, true, true] := by kernel_rfl
theorem fk57 : fieldKinds Try.prog 57 = some [true, true, true, true, true] := by kernel_rfl
theorem fk59 : fieldKinds Try.prog 59 = some [true, true, true, true, true] := by kernel_rfl
theorem fk112 : fieldKinds Try.prog 112 = some [true, true] := by kernel_rfl
theorem fw26 : fieldsKnown Try.prog 26 = true := by kernel_rfl
theorem fw31 : fieldsKnown Try.prog 31 = true := by kernel_rfl
theorem fw33 : fieldsKnown Try.prog 33 = true := by kernel_rfl
theorem fw51 : fieldsKnown Try.prog 51 = true := by kernel_rfl
theorem fw57 : fieldsKnown Try.prog 57 = true := by kernel_rfl
theorem fw59 : fieldsKnown Try.prog 59 = true := by kernel_rfl
theorem fw112 : fieldsKnown Try.prog 112 = true := by kernel_rfl
theorem fw124 : fieldsKnown Try.prog 124 = true := by kernel_rfl
theorem fw129 : fieldsKnown Try.prog 129 = true := by kernel_rfl
theorem ty2 : tyOf Try.prog 2 = ⟨.int .i64, 1, 8, [.t (.int .i64 0)], true, [0], [.int .i64 0]⟩ := by kernel_rfl
theorem ty3 : tyOf Try.prog 3 = ⟨.int .i64, 1, 8, [.t (.int .i64 0)], true, [0], [.int .i64 0]⟩ := by kernel_rfl
theorem ty4 : tyOf Try.prog 4 = ⟨.bool, 1, 1, [.t (.bool false)], true, [0], [.bool false]⟩ := by kernel_rfl
theorem ty5 : tyOf Try.prog 5 = ⟨.int .u8, 1, 1, [.t (.int .u8 0)], true, [0], [.int .u8 0]⟩ := by kernel_rfl
theorem ty9 : tyOf Try.prog 9 = ⟨.str, 1, 16, [.t (.str ByteArray.empty)], true, [0], [.str ByteArray.empty]⟩ := by kernel_rfl
theorem ty21 : tyOf Try.prog 21 = ⟨.int .i32, 1, 4, [.t (.int .i32 0)], true, [0], [.int .i32 0]⟩ := by kernel_rfl
theorem ty22 : tyOf Try.prog 22 = ⟨.sl 5, 1, 24, [.nil], true, [1], [.sl 1 []]⟩ := by kernel_rfl
theorem ty24 : tyOf Try.prog 24 = ⟨.sl 3, 1, 24, [.nil], true, [1], [.sl 1 []]⟩ := by kernel_rfl
theorem ty26 : tyOf Try.prog 26 = ⟨.st [(0, 1, false), (1, 1, false), (2, 1, false)], 3, 40, [.nil, .t (.int .i64 0), .t (.int .i64 0)], true, [1, 0, 0], [.sl 1 [], .int .i64 0, .int .i64 0]⟩ := by kernel_rfl
theorem ty31 : tyOf Try.prog 31 = ⟨.st [(0, 1, false), (1, 1, false), (2, 1, false), (3, 1, false), (4, 1, false)], 5, 40, [.t (.int .i64 0), .t (.int .i64 0), .t (.int .i64 0), .t (.int .i64 0), .t (.int .i64 0)], true, [0, 0, 0, 0, 0], [.int .i64 0, .int .i64 0, .int .i64 0, .int .i64 0, .int .i64 0]⟩ := by kernel_rfl
theorem ty33 : tyOf Try.prog 33 = ⟨.st [(0, 1, false), (1, 1, false), (2, 1, false), (3, 1, false), (4, 1, false)], 5, 40, [.t (.int .i64 0), .t (.int .i64 0), .t (.int .i64 0), .t (.int .i64 0), .t (.int .i64 0)], true, [0, 0, 0, 0, 0], [.int .i64 0, .int .i64 0, .int .i64 0, .int .i64 0, .int .i64 0]⟩ := by kernel_rfl
theorem ty44 : tyOf Try.prog 44 = ⟨.sl 31, 1, 24, [.nil], true, [5], [.sl 5 []]⟩ := by kernel_rfl
theorem ty47 : tyOf Try.prog 47 = ⟨.sl 33, 1, 24, [.nil], true, [5], [.sl 5 []]⟩ := by kernel_rfl
theorem ty51 : tyOf Try.prog 51 = ⟨.st [(0, 1, false), (1, 1, false), (2, 1, false)], 3, 40, [.nil, .t (.int .i64 0), .t (.int .i64 0)], true, [1, 0, 0], [.sl 1 [], .int .i64 0, .int .i64 0]⟩ := by kernel_rfl
theorem ty57 : tyOf Try.prog 57 = ⟨.st [(0, 1, false), (1, 1, false), (2, 1, false), (3, 1, false), (4, 1, false)], 5, 40, [.t (.int .i64 0), .t (.int .i64 0), .t (.int .i64 0), .t (.int .i64 0), .t (.int .i64 0)], true, [0, 0, 0, 0, 0], [.int .i64 0, .int .i64 0, .int .i64 0, .int .i64 0, .int .i64 0]⟩ := by kernel_rfl
theorem ty59 : tyOf Try.prog 59 = ⟨.st [(0, 1, false), (1, 1, false), (2, 1, false), (3, 1, false), (4, 1, false)], 5, 40, [.t (.int .i64 0), .t (.int .i64 0), .t (.int .i64 0), .t (.int .i64 0), .t (.int .i64 0)], true, [0, 0, 0, 0, 0], [.int .i64 0, .int .i64 0, .int .i64 0, .int .i64 0, .int .i64 0]⟩ := by kernel_rfl
theorem ty62 : tyOf Try.prog 62 = ⟨.sl 24, 1, 24, [.nil], true, [1], [.sl 1 []]⟩ := by kernel_rfl
theorem ty68 : tyOf Try.prog 68 = ⟨.sl 112, 1, 24, [.nil], true, [2], [.sl 2 []]⟩ := by kernel_rfl
theorem ty92 : tyOf Try.prog 92 = ⟨.sl 9, 1, 24, [.nil], true, [1], [.sl 1 []]⟩ := by kernel_rfl
theorem ty112 : tyOf Try.prog 112 = ⟨.st [(0, 1, false), (1, 1, false)], 2, 16, [.t (.int .i64 0), .t (.int .i64 0)], true, [0, 0], [.int .i64 0, .int .i64 0]⟩ := by kernel_rfl
theorem ty124 : tyOf Try.prog 124 = ⟨.st [(0, 1, false), (1, 1, false), (2, 1, false)], 3, 40, [.nil, .t (.int .i64 0), .t (.int .i64 0)], true, [1, 0, 0], [.sl 1 [], .int .i64 0, .int .i64 0]⟩ := by kernel_rfl
theorem ty129 : tyOf Try.prog 129 = ⟨.st [(0, 1, false), (1, 1, false)], 2, 32, [.npt, .nil], true, [0, 1], [.hole, .sl 1 []]⟩ := by kernel_rfl
theorem ty143 : tyOf Try.prog 143 = ⟨.sl 59, 1, 24, [.nil], true, [5], [.sl 5 []]⟩ := by kernel_rfl
theorem ty147 : tyOf Try.prog 147 = ⟨.int .u64, 1, 8, [.t (.int .u64 0)], true, [0], [.int .u64 0]⟩ := by kernel_rfl
end Go.Tw
