/- R7Ty -/
import Derived.Test.YtgcjdkgddnnlpaaBaseE
import Derived.Test.YtgcjdkgddnnlpaaBaseF
import Derived.Test.YtgcjdkgddnnlpaaBaseD
import Derived.Test.YtgcjdkgddnnlpaaProg
import Derived.KernelRfl
set_option linter.unusedSimpArgs false
set_option linter.unusedVariables false
set_option linter.unnecessarySimpa false
namespace Go.Tw
open Go.Proofs
theorem mixed : Try.prog.follows .mixedOrders = true := by kernel_rfl
theorem fk52 : fieldKinds Try.prog 52 = some [true, true, true, true, true] := by kernel_rfl
theorem fk54 : fieldKinds Try.prog 54 = some [true, true, true, true, true] := by kernel_rfl
theorem fk66 : fieldKinds Try.prog 66 = some [true, true, true, true, true] := by kernel_rfl
theorem fk68 : fieldKinds Try.prog 68 = some [true, true, true, true, true] := by kernel_rfl
theorem fk94 : fieldKinds Try.prog 94 = some [true, false] := by kernel_rfl
theorem fk218 : fieldKinds Try.prog 218 = some [true] := by kernel_rfl
theorem fw26 : fieldsKnown Try.prog 26 = true := by kernel_rfl
theorem fw29 : fieldsKnown Try.prog 29 = true := by kernel_rfl
theorem fw52 : fieldsKnown Try.prog 52 = true := by kernel_rfl
theorem fw54 : fieldsKnown Try.prog 54 = true := by kernel_rfl
theorem fw58 : fieldsKnown Try.prog 58 = true := by kernel_rfl
theorem fw61 : fieldsKnown Try.prog 61 = true := by kernel_rfl
theorem fw66 : fieldsKnown Try.prog 66 = true := by kernel_rfl
theorem fw68 : fieldsKnown Try.prog 68 = true := by kernel_rfl
theorem fw94 : fieldsKnown Try.prog 94 = true := by kernel_rfl
theorem fw97 : fieldsKnown Try.prog 97 = true := by kernel_rfl
theorem fw103 : fieldsKnown Try.prog 103 = true := by kernel_rfl
theorem fw107 : fieldsKnown Try.prog 107 = true := by kernel_rfl
theorem fw163 : fieldsKnown Try.prog 163 = true := by kernel_rfl
theorem fw174 : fieldsKnown Try.prog 174 = true := by kernel_rfl
theorem fw189 : fieldsKnown Try.prog 189 = true := by kernel_rfl
theorem fw191 : fieldsKnown Try.prog 191 = true := by kernel_rfl
theorem fw198 : fieldsKnown Try.prog 198 = true := by kernel_rfl
theorem fw210 : fieldsKnown Try.prog 210 = true := by kernel_rfl
theorem fw215 : fieldsKnown Try.prog 215 = true := by kernel_rfl
theorem fw218 : fieldsKnown Try.prog 218 = true := by kernel_rfl
theorem ty2 : tyOf Try.prog 2 = ⟨.int .i64, 1, 8, [.t (.int .i64 0)], true, [0], [.int .i64 0]⟩ := by kernel_rfl
theorem ty3 : tyOf Try.prog 3 = ⟨.int .i64, 1, 8, [.t (.int .i64 0)], true, [0], [.int .i64 0]⟩ := by kernel_rfl
theorem ty4 : tyOf Try.prog 4 = ⟨.bool, 1, 1, [.t (.bool false)], true, [0], [.bool false]⟩ := by kernel_rfl
theorem ty5 : tyOf Try.prog 5 = ⟨.int .u8, 1, 1, [.t (.int .u8 0)], true, [0], [.int .u8 0]⟩ := by kernel_rfl
theorem ty9 : tyOf Try.prog 9 = ⟨.str, 1, 16, [.t (.str ByteArray.empty)], true, [0], [.str ByteArray.empty]⟩ := by kernel_rfl
theorem ty21 : tyOf Try.prog 21 = ⟨.int .i32, 1, 4, [.t (.int .i32 0)], true, [0], [.int .i32 0]⟩ := by kernel_rfl
theorem ty22 : tyOf Try.prog 22 = ⟨.sl 3, 1, 24, [.nil], true, [1], [.sl 1 []]⟩ := by kernel_rfl
theorem ty23 : tyOf Try.prog 23 = ⟨.sl 103, 1, 24, [.nil], true, [5], [.sl 5 []]⟩ := by kernel_rfl
theorem ty24 : tyOf Try.prog 24 = ⟨.sl 191, 1, 24, [.nil], true, [8], [.sl 8 []]⟩ := by kernel_rfl
theorem ty26 : tyOf Try.prog 26 = ⟨.st [(0, 1, false), (1, 1, false), (2, 1, false)], 3, 56, [.t (.int .i64 0), .nil, .nil], true, [0, 5, 8], [.int .i64 0, .sl 5 [], .sl 8 []]⟩ := by kernel_rfl
theorem ty27 : tyOf Try.prog 27 = ⟨.sl 107, 1, 24, [.nil], true, [4], [.sl 4 []]⟩ := by kernel_rfl
theorem ty29 : tyOf Try.prog 29 = ⟨.st [(0, 3, true), (3, 1, false)], 4, 80, [.t (.int .i64 0), .nil, .nil, .nil], true, [0, 5, 8, 4], [.int .i64 0, .sl 5 [], .sl 8 [], .sl 4 []]⟩ := by kernel_rfl
theorem ty38 : tyOf Try.prog 38 = ⟨.sl 52, 1, 24, [.nil], true, [5], [.sl 5 []]⟩ := by kernel_rfl
theorem ty41 : tyOf Try.prog 41 = ⟨.sl 54, 1, 24, [.nil], true, [5], [.sl 5 []]⟩ := by kernel_rfl
theorem ty45 : tyOf Try.prog 45 = ⟨.sl 22, 1, 24, [.nil], true, [1], [.sl 1 []]⟩ := by kernel_rfl
theorem ty52 : tyOf Try.prog 52 = ⟨.st [(0, 1, false), (1, 1, false), (2, 1, false), (3, 1, false), (4, 1, false)], 5, 40, [.t (.int .i64 0), .t (.int .i64 0), .t (.int .i64 0), .t (.int .i64 0), .t (.int .i64 0)], true, [0, 0, 0, 0, 0], [.int .i64 0, .int .i64 0, .int .i64 0, .int .i64 0, .int .i64 0]⟩ := by kernel_rfl
theorem ty54 : tyOf Try.prog 54 = ⟨.st [(0, 1, false), (1, 1, false), (2, 1, false), (3, 1, false), (4, 1, false)], 5, 40, [.t (.int .i64 0), .t (.int .i64 0), .t (.int .i64 0), .t (.int .i64 0), .t (.int .i64 0)], true, [0, 0, 0, 0, 0], [.int .i64 0, .int .i64 0, .int .i64 0, .int .i64 0, .int .i64 0]⟩ := by kernel_rfl
theorem ty58 : tyOf Try.prog 58 = ⟨.st [(0, 1, false), (1, 1, false), (2, 1, false)], 3, 40, [.nil, .t (.int .i64 0), .t (.int .i64 0)], true, [1, 0, 0], [.sl 1 [], .int .i64 0, .int .i64 0]⟩ := by kernel_rfl
theorem ty61 : tyOf Try.prog 61 = ⟨.st [(0, 1, false), (1, 1, false), (2, 1, false)], 3, 40, [.nil, .t (.int .i64 0), .t (.int .i64 0)], true, [1, 0, 0], [.sl 1 [], .int .i64 0, .int .i64 0]⟩ := by kernel_rfl
theorem ty66 : tyOf Try.prog 66 = ⟨.st [(0, 1, false), (1, 1, false), (2, 1, false), (3, 1, false), (4, 1, false)], 5, 40, [.t (.int .i64 0), .t (.int .i64 0), .t (.int .i64 0), .t (.int .i64 0), .t (.int .i64 0)], true, [0, 0, 0, 0, 0], [.int .i64 0, .int .i64 0, .int .i64 0, .int .i64 0, .int .i64 0]⟩ := by kernel_rfl
theorem ty68 : tyOf Try.prog 68 = ⟨.st [(0, 1, false), (1, 1, false), (2, 1, false), (3, 1, false), (4, 1, false)], 5, 40, [.t (.int .i64 0), .t (.int .i64 0), .t (.int .i64 0), .t (.int .i64 0), .t (.int .i64 0)], true, [0, 0, 0, 0, 0], [.int .i64 0, .int .i64 0, .int .i64 0, .int .i64 0, .int .i64 0]⟩ := by kernel_rfl
theorem ty71 : tyOf Try.prog 71 = ⟨.sl 5, 1, 24, [.nil], true, [1], [.sl 1 []]⟩ := by kernel_rfl
theorem ty73 : tyOf Try.prog 73 = ⟨.sl 61, 1, 24, [.nil], true, [3], [.sl 3 []]⟩ := by kernel_rfl
theorem ty92 : tyOf Try.prog 92 = ⟨.sl 4, 1, 24, [.nil], true, [1], [.sl 1 []]⟩ := by kernel_rfl
theorem ty94 : tyOf Try.prog 94 = ⟨.st [(0, 1, false), (1, 1, false)], 2, 16, [.t (.int .i64 0), .t (.bool false)], true, [0, 0], [.int .i64 0, .bool false]⟩ := by kernel_rfl
theorem ty95 : tyOf Try.prog 95 = ⟨.sl 94, 1, 24, [.nil], true, [2], [.sl 2 []]⟩ := by kernel_rfl
theorem ty97 : tyOf Try.prog 97 = ⟨.st [(0, 1, false), (1, 1, false), (2, 1, false), (3, 1, false), (4, 2, true), (6, 1, false), (7, 1, false)], 8, 112, [.nil, .t (.int .i64 0), .nil, .t (.bool false), .t (.int .i64 0), .t (.bool false), .t (.int .i64 0), .nil], true, [1, 0, 1, 0, 0, 0, 0, 2], [.sl 1 [], .int .i64 0, .sl 1 [], .bool false, .int .i64 0, .bool false, .int .i64 0, .sl 2 []]⟩ := by kernel_rfl
theorem ty98 : tyOf Try.prog 98 = ⟨.sl 210, 1, 24, [.nil], true, [3], [.sl 3 []]⟩ := by kernel_rfl
theorem ty99 : tyOf Try.prog 99 = ⟨.sl 97, 1, 24, [.nil], true, [8], [.sl 8 []]⟩ := by kernel_rfl
theorem ty100 : tyOf Try.prog 100 = ⟨.sl 215, 1, 24, [.nil], true, [2], [.sl 2 []]⟩ := by kernel_rfl
theorem ty101 : tyOf Try.prog 101 = ⟨.sl 218, 1, 24, [.nil], true, [1], [.sl 1 []]⟩ := by kernel_rfl
theorem ty103 : tyOf Try.prog 103 = ⟨.st [(0, 1, false), (1, 1, false), (2, 1, false), (3, 1, false), (4, 1, false)], 5, 104, [.t (.int .i64 0), .nil, .nil, .nil, .nil], true, [0, 3, 8, 2, 1], [.int .i64 0, .sl 3 [], .sl 8 [], .sl 2 [], .sl 1 []]⟩ := by kernel_rfl
theorem ty105 : tyOf Try.prog 105 = ⟨.sl 198, 1, 24, [.nil], true, [2], [.sl 2 []]⟩ := by kernel_rfl
theorem ty107 : tyOf Try.prog 107 = ⟨.st [(0, 3, true), (3, 1, false)], 4, 64, [.nil, .t (.int .i64 0), .t (.int .i64 0), .nil], true, [1, 0, 0, 2], [.sl 1 [], .int .i64 0, .int .i64 0, .sl 2 []]⟩ := by kernel_rfl
theorem ty122 : tyOf Try.prog 122 = ⟨.sl 9, 1, 24, [.nil], true, [1], [.sl 1 []]⟩ := by kernel_rfl
theorem ty163 : tyOf Try.prog 163 = ⟨.st [(0, 1, false), (1, 1, false)], 2, 32, [.npt, .nil], true, [0, 1], [.hole, .sl 1 []]⟩ := by kernel_rfl
theorem ty174 : tyOf Try.prog 174 = ⟨.st [(0, 1, false), (1, 1, false), (2, 1, false)], 3, 40, [.nil, .t (.int .i64 0), .t (.int .i64 0)], true, [1, 0, 0], [.sl 1 [], .int .i64 0, .int .i64 0]⟩ := by kernel_rfl
theorem ty179 : tyOf Try.prog 179 = ⟨.sl 68, 1, 24, [.nil], true, [5], [.sl 5 []]⟩ := by kernel_rfl
theorem ty189 : tyOf Try.prog 189 = ⟨.st [(0, 1, false), (1, 1, false), (2, 1, false), (3, 1, false)], 4, 48, [.t (.int .i64 0), .t (.int .i64 0), .t (.bool false), .nil], true, [0, 0, 0, 1], [.int .i64 0, .int .i64 0, .bool false, .sl 1 []]⟩ := by kernel_rfl
theorem ty191 : tyOf Try.prog 191 = ⟨.st [(0, 1, false), (1, 1, false), (2, 1, false), (3, 1, false), (4, 4, true)], 8, 80, [.t (.int .i64 0), .t (.int .i64 0), .t (.bool false), .t (.int .i64 0), .t (.int .i64 0), .t (.int .i64 0), .t (.bool false), .nil], true, [0, 0, 0, 0, 0, 0, 0, 1], [.int .i64 0, .int .i64 0, .bool false, .int .i64 0, .int .i64 0, .int .i64 0, .bool false, .sl 1 []]⟩ := by kernel_rfl
theorem ty198 : tyOf Try.prog 198 = ⟨.st [(0, 1, false), (1, 1, false)], 2, 32, [.t (.int .i64 0), .nil], true, [0, 5], [.int .i64 0, .sl 5 []]⟩ := by kernel_rfl
theorem ty201 : tyOf Try.prog 201 = ⟨.int .u64, 1, 8, [.t (.int .u64 0)], true, [0], [.int .u64 0]⟩ := by kernel_rfl
theorem ty210 : tyOf Try.prog 210 = ⟨.st [(0, 1, false), (1, 1, false), (2, 1, false)], 3, 40, [.t (.int .i64 0), .nil, .t (.bool false)], true, [0, 1, 0], [.int .i64 0, .sl 1 [], .bool false]⟩ := by kernel_rfl
theorem ty213 : tyOf Try.prog 213 = ⟨.sl 189, 1, 24, [.nil], true, [4], [.sl 4 []]⟩ := by kernel_rfl
theorem ty215 : tyOf Try.prog 215 = ⟨.st [(0, 1, false), (1, 1, false)], 2, 32, [.t (.int .i64 0), .nil], true, [0, 4], [.int .i64 0, .sl 4 []]⟩ := by kernel_rfl
theorem ty218 : tyOf Try.prog 218 = ⟨.st [(0, 1, false)], 1, 8, [.t (.int .i64 0)], true, [0], [.int .i64 0]⟩ := by kernel_rfl
end Go.Tw
