/- R6Ty -/
import Derived.Test.YtfjoibkopjdomaaBaseD
import Derived.Test.YtfjoibkopjdomaaBaseE
import Derived.Test.YtfjoibkopjdomaaProg
import Derived.KernelRfl
set_option linter.unusedSimpArgs false
set_option linter.unusedVariables false
set_option linter.unnecessarySimpa false
namespace Go.Tw
open Go.Proofs
theorem mixed : Try.prog.follows .mixedOrders = true := by kernel_rfl
theorem fk45 : fieldKinds Try.prog 45 = some [true, true, true, true, true] := by kernel_rfl
theorem fk69 : fieldKinds Try.prog 69 = some [true, true, true, true, true] := by kernel_rfl
theorem fk143 : fieldKinds Try.prog 143 = some [true, false] := by kernel_rfl
theorem fk227 : fieldKinds Try.prog 227 = some [true] := by kernel_rfl
theorem fw26 : fieldsKnown Try.prog 26 = true := by kernel_rfl
theorem fw45 : fieldsKnown Try.prog 45 = true := by kernel_rfl
theorem fw62 : fieldsKnown Try.prog 62 = true := by kernel_rfl
theorem fw69 : fieldsKnown Try.prog 69 = true := by kernel_rfl
theorem fw87 : fieldsKnown Try.prog 87 = true := by kernel_rfl
theorem fw90 : fieldsKnown Try.prog 90 = true := by kernel_rfl
theorem fw130 : fieldsKnown Try.prog 130 = true := by kernel_rfl
theorem fw143 : fieldsKnown Try.prog 143 = true := by kernel_rfl
theorem fw146 : fieldsKnown Try.prog 146 = true := by kernel_rfl
theorem fw151 : fieldsKnown Try.prog 151 = true := by kernel_rfl
theorem fw154 : fieldsKnown Try.prog 154 = true := by kernel_rfl
theorem fw160 : fieldsKnown Try.prog 160 = true := by kernel_rfl
theorem fw178 : fieldsKnown Try.prog 178 = true := by kernel_rfl
theorem fw204 : fieldsKnown Try.prog 204 = true := by kernel_rfl
theorem fw206 : fieldsKnown Try.prog 206 = true := by kernel_rfl
theorem fw224 : fieldsKnown Try.prog 224 = true := by kernel_rfl
theorem fw227 : fieldsKnown Try.prog 227 = true := by kernel_rfl
theorem ty2 : tyOf Try.prog 2 = ⟨.int .i64, 1, 8, [.t (.int .i64 0)], true, [0], [.int .i64 0]⟩ := by kernel_rfl
theorem ty3 : tyOf Try.prog 3 = ⟨.int .i64, 1, 8, [.t (.int .i64 0)], true, [0], [.int .i64 0]⟩ := by kernel_rfl
theorem ty4 : tyOf Try.prog 4 = ⟨.bool, 1, 1, [.t (.bool false)], true, [0], [.bool false]⟩ := by kernel_rfl
theorem ty5 : tyOf Try.prog 5 = ⟨.int .u8, 1, 1, [.t (.int .u8 0)], true, [0], [.int .u8 0]⟩ := by kernel_rfl
theorem ty9 : tyOf Try.prog 9 = ⟨.str, 1, 16, [.t (.str ByteArray.empty)], true, [0], [.str ByteArray.empty]⟩ := by kernel_rfl
theorem ty21 : tyOf Try.prog 21 = ⟨.int .i32, 1, 4, [.t (.int .i32 0)], true, [0], [.int .i32 0]⟩ := by kernel_rfl
theorem ty22 : tyOf Try.prog 22 = ⟨.sl 5, 1, 24, [.nil], true, [1], [.sl 1 []]⟩ := by kernel_rfl
theorem ty24 : tyOf Try.prog 24 = ⟨.sl 3, 1, 24, [.nil], true, [1], [.sl 1 []]⟩ := by kernel_rfl
theorem ty26 : tyOf Try.prog 26 = ⟨.st [(0, 1, false), (1, 1, false), (2, 1, false)], 3, 40, [.nil, .t (.int .i64 0), .t (.int .i64 0)], true, [1, 0, 0], [.sl 1 [], .int .i64 0, .int .i64 0]⟩ := by kernel_rfl
theorem ty33 : tyOf Try.prog 33 = ⟨.sl 26, 1, 24, [.nil], true, [3], [.sl 3 []]⟩ := by kernel_rfl
theorem ty42 : tyOf Try.prog 42 = ⟨.sl 45, 1, 24, [.nil], true, [5], [.sl 5 []]⟩ := by kernel_rfl
theorem ty45 : tyOf Try.prog 45 = ⟨.st [(0, 1, false), (1, 1, false), (2, 1, false), (3, 1, false), (4, 1, false)], 5, 40, [.t (.int .i64 0), .t (.int .i64 0), .t (.int .i64 0), .t (.int .i64 0), .t (.int .i64 0)], true, [0, 0, 0, 0, 0], [.int .i64 0, .int .i64 0, .int .i64 0, .int .i64 0, .int .i64 0]⟩ := by kernel_rfl
theorem ty56 : tyOf Try.prog 56 = ⟨.sl 62, 1, 24, [.nil], true, [2], [.sl 2 []]⟩ := by kernel_rfl
theorem ty60 : tyOf Try.prog 60 = ⟨.sl 69, 1, 24, [.nil], true, [5], [.sl 5 []]⟩ := by kernel_rfl
theorem ty62 : tyOf Try.prog 62 = ⟨.st [(0, 1, false), (1, 1, false)], 2, 32, [.t (.int .i64 0), .nil], true, [0, 5], [.int .i64 0, .sl 5 []]⟩ := by kernel_rfl
theorem ty69 : tyOf Try.prog 69 = ⟨.st [(0, 1, false), (1, 1, false), (2, 1, false), (3, 1, false), (4, 1, false)], 5, 40, [.t (.int .i64 0), .t (.int .i64 0), .t (.int .i64 0), .t (.int .i64 0), .t (.int .i64 0)], true, [0, 0, 0, 0, 0], [.int .i64 0, .int .i64 0, .int .i64 0, .int .i64 0, .int .i64 0]⟩ := by kernel_rfl
theorem ty72 : tyOf Try.prog 72 = ⟨.sl 130, 1, 24, [.nil], true, [3], [.sl 3 []]⟩ := by kernel_rfl
theorem ty84 : tyOf Try.prog 84 = ⟨.sl 151, 1, 24, [.nil], true, [5], [.sl 5 []]⟩ := by kernel_rfl
theorem ty85 : tyOf Try.prog 85 = ⟨.sl 206, 1, 24, [.nil], true, [8], [.sl 8 []]⟩ := by kernel_rfl
theorem ty87 : tyOf Try.prog 87 = ⟨.st [(0, 1, false), (1, 1, false), (2, 1, false)], 3, 56, [.t (.int .i64 0), .nil, .nil], true, [0, 5, 8], [.int .i64 0, .sl 5 [], .sl 8 []]⟩ := by kernel_rfl
theorem ty88 : tyOf Try.prog 88 = ⟨.sl 154, 1, 24, [.nil], true, [4], [.sl 4 []]⟩ := by kernel_rfl
theorem ty90 : tyOf Try.prog 90 = ⟨.st [(0, 3, true), (3, 1, false)], 4, 80, [.t (.int .i64 0), .nil, .nil, .nil], true, [0, 5, 8, 4], [.int .i64 0, .sl 5 [], .sl 8 [], .sl 4 []]⟩ := by kernel_rfl
theorem ty130 : tyOf Try.prog 130 = ⟨.st [(0, 1, false), (1, 1, false), (2, 1, false)], 3, 40, [.t (.int .i64 0), .nil, .t (.bool false)], true, [0, 1, 0], [.int .i64 0, .sl 1 [], .bool false]⟩ := by kernel_rfl
theorem ty136 : tyOf Try.prog 136 = ⟨.sl 9, 1, 24, [.nil], true, [1], [.sl 1 []]⟩ := by kernel_rfl
theorem ty141 : tyOf Try.prog 141 = ⟨.sl 4, 1, 24, [.nil], true, [1], [.sl 1 []]⟩ := by kernel_rfl
theorem ty143 : tyOf Try.prog 143 = ⟨.st [(0, 1, false), (1, 1, false)], 2, 16, [.t (.int .i64 0), .t (.bool false)], true, [0, 0], [.int .i64 0, .bool false]⟩ := by kernel_rfl
theorem ty144 : tyOf Try.prog 144 = ⟨.sl 143, 1, 24, [.nil], true, [2], [.sl 2 []]⟩ := by kernel_rfl
theorem ty146 : tyOf Try.prog 146 = ⟨.st [(0, 1, false), (1, 1, false), (2, 1, false), (3, 1, false), (4, 2, true), (6, 1, false), (7, 1, false)], 8, 112, [.nil, .t (.int .i64 0), .nil, .t (.bool false), .t (.int .i64 0), .t (.bool false), .t (.int .i64 0), .nil], true, [1, 0, 1, 0, 0, 0, 0, 2], [.sl 1 [], .int .i64 0, .sl 1 [], .bool false, .int .i64 0, .bool false, .int .i64 0, .sl 2 []]⟩ := by kernel_rfl
theorem ty147 : tyOf Try.prog 147 = ⟨.sl 146, 1, 24, [.nil], true, [8], [.sl 8 []]⟩ := by kernel_rfl
theorem ty148 : tyOf Try.prog 148 = ⟨.sl 224, 1, 24, [.nil], true, [2], [.sl 2 []]⟩ := by kernel_rfl
theorem ty149 : tyOf Try.prog 149 = ⟨.sl 227, 1, 24, [.nil], true, [1], [.sl 1 []]⟩ := by kernel_rfl
theorem ty151 : tyOf Try.prog 151 = ⟨.st [(0, 1, false), (1, 1, false), (2, 1, false), (3, 1, false), (4, 1, false)], 5, 104, [.t (.int .i64 0), .nil, .nil, .nil, .nil], true, [0, 3, 8, 2, 1], [.int .i64 0, .sl 3 [], .sl 8 [], .sl 2 [], .sl 1 []]⟩ := by kernel_rfl
theorem ty154 : tyOf Try.prog 154 = ⟨.st [(0, 3, true), (3, 1, false)], 4, 64, [.nil, .t (.int .i64 0), .t (.int .i64 0), .nil], true, [1, 0, 0, 2], [.sl 1 [], .int .i64 0, .int .i64 0, .sl 2 []]⟩ := by kernel_rfl
theorem ty160 : tyOf Try.prog 160 = ⟨.st [(0, 1, false), (1, 1, false), (2, 1, false)], 3, 40, [.nil, .t (.int .i64 0), .t (.int .i64 0)], true, [1, 0, 0], [.sl 1 [], .int .i64 0, .int .i64 0]⟩ := by kernel_rfl
theorem ty178 : tyOf Try.prog 178 = ⟨.st [(0, 1, false), (1, 1, false)], 2, 32, [.npt, .nil], true, [0, 1], [.hole, .sl 1 []]⟩ := by kernel_rfl
theorem ty195 : tyOf Try.prog 195 = ⟨.int .u64, 1, 8, [.t (.int .u64 0)], true, [0], [.int .u64 0]⟩ := by kernel_rfl
theorem ty196 : tyOf Try.prog 196 = ⟨.sl 24, 1, 24, [.nil], true, [1], [.sl 1 []]⟩ := by kernel_rfl
theorem ty204 : tyOf Try.prog 204 = ⟨.st [(0, 1, false), (1, 1, false), (2, 1, false), (3, 1, false)], 4, 48, [.t (.int .i64 0), .t (.int .i64 0), .t (.bool false), .nil], true, [0, 0, 0, 1], [.int .i64 0, .int .i64 0, .bool false, .sl 1 []]⟩ := by kernel_rfl
theorem ty206 : tyOf Try.prog 206 = ⟨.st [(0, 1, false), (1, 1, false), (2, 1, false), (3, 1, false), (4, 4, true)], 8, 80, [.t (.int .i64 0), .t (.int .i64 0), .t (.bool false), .t (.int .i64 0), .t (.int .i64 0), .t (.int .i64 0), .t (.bool false), .nil], true, [0, 0, 0, 0, 0, 0, 0, 1], [.int .i64 0, .int .i64 0, .bool false, .int .i64 0, .int .i64 0, .int .i64 0, .bool false, .sl 1 []]⟩ := by kernel_rfl
theorem ty222 : tyOf Try.prog 222 = ⟨.sl 204, 1, 24, [.nil], true, [4], [.sl 4 []]⟩ := by kernel_rfl
theorem ty224 : tyOf Try.prog 224 = ⟨.st [(0, 1, false), (1, 1, false)], 2, 32, [.t (.int .i64 0), .nil], true, [0, 4], [.int .i64 0, .sl 4 []]⟩ := by kernel_rfl
theorem ty227 : tyOf Try.prog 227 = ⟨.st [(0, 1, false)], 1, 8, [.t (.int .i64 0)], true, [0], [.int .i64 0]⟩ := by kernel_rfl
end Go.Tw
