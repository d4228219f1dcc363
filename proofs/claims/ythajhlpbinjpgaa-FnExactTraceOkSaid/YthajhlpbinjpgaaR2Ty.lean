import Derived.Test.YthajhlpbinjpgaaM3
import Derived.Test.YthajhlpbinjpgaaProg
import Derived.KernelRfl
set_option linter.unusedSimpArgs false
set_option linter.unusedVariables false
namespace Go.Tw
open Go.Proofs
theorem mixed : Try.prog.follows .mixedOrders = true := by kernel_rfl
theorem fk31 : fieldKinds Try.prog 31 = some [true, true, true, true, true] := by kernel_rfl
theorem fk33 : fieldKinds Try.prog 33 = some [true, true, true, true, true] := by kernel_rfl
theorem fk63 : fieldKinds Try.prog 63 = some [true, true, true, true, true] := by kernel_rfl
theorem fk65 : fieldKinds Try.prog 65 = some [true, true, true, true, true] := by kernel_rfl
theorem fk111 : fieldKinds Try.prog 111 = some [true, true] := by kernel_rfl
theorem ty2 : tyOf Try.prog 2 = ⟨.int .i64, 1, 8, [.t (.int .i64 0)], true, [0], [.int .i64 0]⟩ := by kernel_rfl
theorem ty3 : tyOf Try.prog 3 = ⟨.int .i64, 1, 8, [.t (.int .i64 0)], true, [0], [.int .i64 0]⟩ := by kernel_rfl
theorem ty4 : tyOf Try.prog 4 = ⟨.bool, 1, 1, [.t (.bool false)], true, [0], [.bool false]⟩ := by kernel_rfl
theorem ty5 : tyOf Try.prog 5 = ⟨.int .u8, 1, 1, [.t (.int .u8 0)], true, [0], [.int .u8 0]⟩ := by kernel_rfl
theorem ty9 : tyOf Try.prog 9 = ⟨.str, 1, 16, [.t (.str ByteArray.empty)], true, [0], [.str ByteArray.empty]⟩ := by kernel_rfl
theorem ty21 : tyOf Try.prog 21 = ⟨.int .i32, 1, 4, [.t (.int .i32 0)], true, [0], [.int .i32 0]⟩ := by kernel_rfl
theorem ty22 : tyOf Try.prog 22 = ⟨.sl 5, 1, 24, [.nil], true, [1], [.sl 1 []]⟩ := by kernel_rfl
theorem ty24 : tyOf Try.prog 24 = ⟨.sl 3, 1, 24, [.nil], true, [1], [.sl 1 []]⟩ := by kernel_rfl
theorem ty26 : tyOf Try.prog 26 = ⟨.st [(0, 1, false), (1, 1, false), (2, 1, false)], 3, 40, [.nil, .t (.int .i64 0), .t (.int .i64 0)], true, [1, 0, 0], [.sl 1 [], .int .i64 0, .int .i64 0]⟩ := by kernel_rfl
theorem ty31 : tyOf Try.prog 31 = ⟨.st [(0, 1, false), (1, 1, false), (2, 1, false), (3, 1, false), (4, 1, false)], 5, 40, [.t (.int .i64 0), .t (.int .i64 0), .t (.int .i64 0), .t (.int .i64 0), .t (.int .i64 0)], true, [0, 0, 0, 0, 0], [.int .i64 0, .int .i64 0, .int .i64 0, .int .i64 0, .int .i64 0]⟩ := by kernel_rfl
theorem ty33 : tyOf Try.prog 33 = ⟨.st [(0, 1, false), (1, 1, false), (2, 1, false), (3, 1, false), (4, 1, false)], 5, 40, [.t (.int .i64 0), .t (.int .i64 0), .t (.int .i64 0), .t (.int .i64 0), .t (.int .i64 0)], true, [0, 0, 0, 0, 0], [.int .i64 0, .int .i64 0, .int .i64 0, .int .i64 0, .int .i64 0]⟩ := by kernel_rfl
theorem ty44 : tyOf Try.prog 44 = ⟨.sl 31, 1, 24, [.nil], true, [5], [.sl 5 []]⟩ := by kernel_rfl
theorem ty48 : tyOf Try.prog 48 = ⟨.sl 33, 1, 24, [.nil], true, [5], [.sl 5 []]⟩ := by kernel_rfl
theorem ty57 : tyOf Try.prog 57 = ⟨.st [(0, 1, false), (1, 1, false), (2, 1, false)], 3, 40, [.nil, .t (.int .i64 0), .t (.int .i64 0)], true, [1, 0, 0], [.sl 1 [], .int .i64 0, .int .i64 0]⟩ := by kernel_rfl
theorem ty63 : tyOf Try.prog 63 = ⟨.st [(0, 1, false), (1, 1, false), (2, 1, false), (3, 1, false), (4, 1, false)], 5, 40, [.t (.int .i64 0), .t (.int .i64 0), .t (.int .i64 0), .t (.int .i64 0), .t (.int .i64 0)], true, [0, 0, 0, 0, 0], [.int .i64 0, .int .i64 0, .int .i64 0, .int .i64 0, .int .i64 0]⟩ := by kernel_rfl
theorem ty65 : tyOf Try.prog 65 = ⟨.st [(0, 1, false), (1, 1, false), (2, 1, false), (3, 1, false), (4, 1, false)], 5, 40, [.t (.int .i64 0), .t (.int .i64 0), .t (.int .i64 0), .t (.int .i64 0), .t (.int .i64 0)], true, [0, 0, 0, 0, 0], [.int .i64 0, .int .i64 0, .int .i64 0, .int .i64 0, .int .i64 0]⟩ := by kernel_rfl
theorem ty68 : tyOf Try.prog 68 = ⟨.sl 24, 1, 24, [.nil], true, [1], [.sl 1 []]⟩ := by kernel_rfl
theorem ty73 : tyOf Try.prog 73 = ⟨.sl 111, 1, 24, [.nil], true, [2], [.sl 2 []]⟩ := by kernel_rfl
theorem ty89 : tyOf Try.prog 89 = ⟨.sl 9, 1, 24, [.nil], true, [1], [.sl 1 []]⟩ := by kernel_rfl
theorem ty111 : tyOf Try.prog 111 = ⟨.st [(0, 1, false), (1, 1, false)], 2, 16, [.t (.int .i64 0), .t (.int .i64 0)], true, [0, 0], [.int .i64 0, .int .i64 0]⟩ := by kernel_rfl
theorem ty116 : tyOf Try.prog 116 = ⟨.st [(0, 1, false), (1, 1, false), (2, 1, false)], 3, 40, [.nil, .t (.int .i64 0), .t (.int .i64 0)], true, [1, 0, 0], [.sl 1 [], .int .i64 0, .int .i64 0]⟩ := by kernel_rfl
theorem ty122 : tyOf Try.prog 122 = ⟨.st [(0, 1, false), (1, 1, false)], 2, 32, [.npt, .nil], true, [0, 1], [.hole, .sl 1 []]⟩ := by kernel_rfl
theorem ty137 : tyOf Try.prog 137 = ⟨.int .u64, 1, 8, [.t (.int .u64 0)], true, [0], [.int .u64 0]⟩ := by kernel_rfl
end Go.Tw
