/- ZTy -/
import Derived.Test.YtafocmjoejchbaaGreatBaseD
import Derived.Test.YtafocmjoejchbaaGreatBaseE
import Derived.Test.YtafocmjoejchbaaGreatProg
import Derived.KernelRfl
set_option linter.unusedSimpArgs false
set_option linter.unusedVariables false
set_option linter.unnecessarySimpa false
namespace Go.Tw
open Go.Proofs
theorem mixed : Tryz.prog.follows .mixedOrders = true := by kernel_rfl
theorem fk108 : fieldKinds Tryz.prog 108 = some [true, false] := by kernel_rfl
theorem fk120 : fieldKinds Tryz.prog 120 = some [true, false] := by kernel_rfl
theorem fk129 : fieldKinds Tryz.prog 129 = some [true] := by kernel_rfl
theorem fk143 : fieldKinds Tryz.prog 143 = some [true] := by kernel_rfl
theorem fk154 : fieldKinds Tryz.prog 154 = some [true, true, true, true, true] := by kernel_rfl
theorem fk213 : fieldKinds Tryz.prog 213 = some [true, true, true, true, true] := by kernel_rfl
theorem fw24 : fieldsKnown Tryz.prog 24 = true := by kernel_rfl
theorem fw27 : fieldsKnown Tryz.prog 27 = true := by kernel_rfl
theorem fw33 : fieldsKnown Tryz.prog 33 = true := by kernel_rfl
theorem fw37 : fieldsKnown Tryz.prog 37 = true := by kernel_rfl
theorem fw40 : fieldsKnown Tryz.prog 40 = true := by kernel_rfl
theorem fw47 : fieldsKnown Tryz.prog 47 = true := by kernel_rfl
theorem fw55 : fieldsKnown Tryz.prog 55 = true := by kernel_rfl
theorem fw61 : fieldsKnown Tryz.prog 61 = true := by kernel_rfl
theorem fw101 : fieldsKnown Tryz.prog 101 = true := by kernel_rfl
theorem fw104 : fieldsKnown Tryz.prog 104 = true := by kernel_rfl
theorem fw108 : fieldsKnown Tryz.prog 108 = true := by kernel_rfl
theorem fw111 : fieldsKnown Tryz.prog 111 = true := by kernel_rfl
theorem fw115 : fieldsKnown Tryz.prog 115 = true := by kernel_rfl
theorem fw118 : fieldsKnown Tryz.prog 118 = true := by kernel_rfl
theorem fw120 : fieldsKnown Tryz.prog 120 = true := by kernel_rfl
theorem fw123 : fieldsKnown Tryz.prog 123 = true := by kernel_rfl
theorem fw127 : fieldsKnown Tryz.prog 127 = true := by kernel_rfl
theorem fw129 : fieldsKnown Tryz.prog 129 = true := by kernel_rfl
theorem fw133 : fieldsKnown Tryz.prog 133 = true := by kernel_rfl
theorem fw143 : fieldsKnown Tryz.prog 143 = true := by kernel_rfl
theorem fw154 : fieldsKnown Tryz.prog 154 = true := by kernel_rfl
theorem fw161 : fieldsKnown Tryz.prog 161 = true := by kernel_rfl
theorem fw163 : fieldsKnown Tryz.prog 163 = true := by kernel_rfl
theorem fw165 : fieldsKnown Tryz.prog 165 = true := by kernel_rfl
theorem fw167 : fieldsKnown Tryz.prog 167 = true := by kernel_rfl
theorem fw213 : fieldsKnown Tryz.prog 213 = true := by kernel_rfl
theorem ty3 : tyOf Tryz.prog 3 = ⟨.int .i64, 1, 8, [.t (.int .i64 0)], true, [0], [.int .i64 0]⟩ := by kernel_rfl
theorem ty4 : tyOf Tryz.prog 4 = ⟨.bool, 1, 1, [.t (.bool false)], true, [0], [.bool false]⟩ := by kernel_rfl
theorem ty5 : tyOf Tryz.prog 5 = ⟨.int .u8, 1, 1, [.t (.int .u8 0)], true, [0], [.int .u8 0]⟩ := by kernel_rfl
theorem ty9 : tyOf Tryz.prog 9 = ⟨.str, 1, 16, [.t (.str ByteArray.empty)], true, [0], [.str ByteArray.empty]⟩ := by kernel_rfl
theorem ty22 : tyOf Tryz.prog 22 = ⟨.sl 3, 1, 24, [.nil], true, [1], [.sl 1 []]⟩ := by kernel_rfl
theorem ty24 : tyOf Tryz.prog 24 = ⟨.st [(0, 1, false), (1, 1, false), (2, 1, false)], 3, 40, [.nil, .t (.int .i64 0), .t (.int .i64 0)], true, [1, 0, 0], [.sl 1 [], .int .i64 0, .int .i64 0]⟩ := by kernel_rfl
theorem ty25 : tyOf Tryz.prog 25 = ⟨.sl 101, 1, 24, [.nil], true, [2], [.sl 2 []]⟩ := by kernel_rfl
theorem ty27 : tyOf Tryz.prog 27 = ⟨.st [(0, 3, true), (3, 1, false)], 4, 64, [.nil, .t (.int .i64 0), .t (.int .i64 0), .nil], true, [1, 0, 0, 2], [.sl 1 [], .int .i64 0, .int .i64 0, .sl 2 []]⟩ := by kernel_rfl
theorem ty28 : tyOf Tryz.prog 28 = ⟨.sl 104, 1, 24, [.nil], true, [3], [.sl 3 []]⟩ := by kernel_rfl
theorem ty29 : tyOf Tryz.prog 29 = ⟨.sl 111, 1, 24, [.nil], true, [8], [.sl 8 []]⟩ := by kernel_rfl
theorem ty30 : tyOf Tryz.prog 30 = ⟨.sl 115, 1, 24, [.nil], true, [2], [.sl 2 []]⟩ := by kernel_rfl
theorem ty31 : tyOf Tryz.prog 31 = ⟨.sl 143, 1, 24, [.nil], true, [1], [.sl 1 []]⟩ := by kernel_rfl
theorem ty33 : tyOf Tryz.prog 33 = ⟨.st [(0, 1, false), (1, 1, false), (2, 1, false), (3, 1, false), (4, 1, false)], 5, 104, [.t (.int .i64 0), .nil, .nil, .nil, .nil], true, [0, 3, 8, 2, 1], [.int .i64 0, .sl 3 [], .sl 8 [], .sl 2 [], .sl 1 []]⟩ := by kernel_rfl
theorem ty37 : tyOf Tryz.prog 37 = ⟨.st [(0, 1, false), (1, 1, false), (2, 1, false)], 3, 40, [.nil, .t (.int .i64 0), .t (.int .i64 0)], true, [1, 0, 0], [.sl 1 [], .int .i64 0, .int .i64 0]⟩ := by kernel_rfl
theorem ty38 : tyOf Tryz.prog 38 = ⟨.sl 133, 1, 24, [.nil], true, [2], [.sl 2 []]⟩ := by kernel_rfl
theorem ty40 : tyOf Tryz.prog 40 = ⟨.st [(0, 3, true), (3, 1, false)], 4, 64, [.nil, .t (.int .i64 0), .t (.int .i64 0), .nil], true, [1, 0, 0, 2], [.sl 1 [], .int .i64 0, .int .i64 0, .sl 2 []]⟩ := by kernel_rfl
theorem ty42 : tyOf Tryz.prog 42 = ⟨.sl 118, 1, 24, [.nil], true, [3], [.sl 3 []]⟩ := by kernel_rfl
theorem ty43 : tyOf Tryz.prog 43 = ⟨.sl 123, 1, 24, [.nil], true, [8], [.sl 8 []]⟩ := by kernel_rfl
theorem ty44 : tyOf Tryz.prog 44 = ⟨.sl 127, 1, 24, [.nil], true, [2], [.sl 2 []]⟩ := by kernel_rfl
theorem ty45 : tyOf Tryz.prog 45 = ⟨.sl 129, 1, 24, [.nil], true, [1], [.sl 1 []]⟩ := by kernel_rfl
theorem ty47 : tyOf Tryz.prog 47 = ⟨.st [(0, 1, false), (1, 1, false), (2, 1, false), (3, 1, false), (4, 1, false)], 5, 104, [.t (.int .i64 0), .nil, .nil, .nil, .nil], true, [0, 3, 8, 2, 1], [.int .i64 0, .sl 3 [], .sl 8 [], .sl 2 [], .sl 1 []]⟩ := by kernel_rfl
theorem ty52 : tyOf Tryz.prog 52 = ⟨.sl 33, 1, 24, [.nil], true, [5], [.sl 5 []]⟩ := by kernel_rfl
theorem ty53 : tyOf Tryz.prog 53 = ⟨.sl 163, 1, 24, [.nil], true, [8], [.sl 8 []]⟩ := by kernel_rfl
theorem ty55 : tyOf Tryz.prog 55 = ⟨.st [(0, 1, false), (1, 1, false), (2, 1, false)], 3, 56, [.t (.int .i64 0), .nil, .nil], true, [0, 5, 8], [.int .i64 0, .sl 5 [], .sl 8 []]⟩ := by kernel_rfl
theorem ty58 : tyOf Tryz.prog 58 = ⟨.sl 47, 1, 24, [.nil], true, [5], [.sl 5 []]⟩ := by kernel_rfl
theorem ty59 : tyOf Tryz.prog 59 = ⟨.sl 167, 1, 24, [.nil], true, [8], [.sl 8 []]⟩ := by kernel_rfl
theorem ty61 : tyOf Tryz.prog 61 = ⟨.st [(0, 1, false), (1, 1, false), (2, 1, false)], 3, 56, [.t (.int .i64 0), .nil, .nil], true, [0, 5, 8], [.int .i64 0, .sl 5 [], .sl 8 []]⟩ := by kernel_rfl
theorem ty99 : tyOf Tryz.prog 99 = ⟨.sl 213, 1, 24, [.nil], true, [5], [.sl 5 []]⟩ := by kernel_rfl
theorem ty101 : tyOf Tryz.prog 101 = ⟨.st [(0, 1, false), (1, 1, false)], 2, 32, [.t (.int .i64 0), .nil], true, [0, 5], [.int .i64 0, .sl 5 []]⟩ := by kernel_rfl
theorem ty104 : tyOf Tryz.prog 104 = ⟨.st [(0, 1, false), (1, 1, false), (2, 1, false)], 3, 40, [.t (.int .i64 0), .nil, .t (.bool false)], true, [0, 1, 0], [.int .i64 0, .sl 1 [], .bool false]⟩ := by kernel_rfl
theorem ty106 : tyOf Tryz.prog 106 = ⟨.sl 4, 1, 24, [.nil], true, [1], [.sl 1 []]⟩ := by kernel_rfl
theorem ty108 : tyOf Tryz.prog 108 = ⟨.st [(0, 1, false), (1, 1, false)], 2, 16, [.t (.int .i64 0), .t (.bool false)], true, [0, 0], [.int .i64 0, .bool false]⟩ := by kernel_rfl
theorem ty109 : tyOf Tryz.prog 109 = ⟨.sl 108, 1, 24, [.nil], true, [2], [.sl 2 []]⟩ := by kernel_rfl
theorem ty111 : tyOf Tryz.prog 111 = ⟨.st [(0, 1, false), (1, 1, false), (2, 1, false), (3, 1, false), (4, 2, true), (6, 1, false), (7, 1, false)], 8, 112, [.nil, .t (.int .i64 0), .nil, .t (.bool false), .t (.int .i64 0), .t (.bool false), .t (.int .i64 0), .nil], true, [1, 0, 1, 0, 0, 0, 0, 2], [.sl 1 [], .int .i64 0, .sl 1 [], .bool false, .int .i64 0, .bool false, .int .i64 0, .sl 2 []]⟩ := by kernel_rfl
theorem ty113 : tyOf Tryz.prog 113 = ⟨.sl 161, 1, 24, [.nil], true, [4], [.sl 4 []]⟩ := by kernel_rfl
theorem ty115 : tyOf Tryz.prog 115 = ⟨.st [(0, 1, false), (1, 1, false)], 2, 32, [.t (.int .i64 0), .nil], true, [0, 4], [.int .i64 0, .sl 4 []]⟩ := by kernel_rfl
theorem ty118 : tyOf Tryz.prog 118 = ⟨.st [(0, 1, false), (1, 1, false), (2, 1, false)], 3, 40, [.t (.int .i64 0), .nil, .t (.bool false)], true, [0, 1, 0], [.int .i64 0, .sl 1 [], .bool false]⟩ := by kernel_rfl
theorem ty120 : tyOf Tryz.prog 120 = ⟨.st [(0, 1, false), (1, 1, false)], 2, 16, [.t (.int .i64 0), .t (.bool false)], true, [0, 0], [.int .i64 0, .bool false]⟩ := by kernel_rfl
theorem ty121 : tyOf Tryz.prog 121 = ⟨.sl 120, 1, 24, [.nil], true, [2], [.sl 2 []]⟩ := by kernel_rfl
theorem ty123 : tyOf Tryz.prog 123 = ⟨.st [(0, 1, false), (1, 1, false), (2, 1, false), (3, 1, false), (4, 2, true), (6, 1, false), (7, 1, false)], 8, 112, [.nil, .t (.int .i64 0), .nil, .t (.bool false), .t (.int .i64 0), .t (.bool false), .t (.int .i64 0), .nil], true, [1, 0, 1, 0, 0, 0, 0, 2], [.sl 1 [], .int .i64 0, .sl 1 [], .bool false, .int .i64 0, .bool false, .int .i64 0, .sl 2 []]⟩ := by kernel_rfl
theorem ty125 : tyOf Tryz.prog 125 = ⟨.sl 165, 1, 24, [.nil], true, [4], [.sl 4 []]⟩ := by kernel_rfl
theorem ty127 : tyOf Tryz.prog 127 = ⟨.st [(0, 1, false), (1, 1, false)], 2, 32, [.t (.int .i64 0), .nil], true, [0, 4], [.int .i64 0, .sl 4 []]⟩ := by kernel_rfl
theorem ty129 : tyOf Tryz.prog 129 = ⟨.st [(0, 1, false)], 1, 8, [.t (.int .i64 0)], true, [0], [.int .i64 0]⟩ := by kernel_rfl
theorem ty131 : tyOf Tryz.prog 131 = ⟨.sl 154, 1, 24, [.nil], true, [5], [.sl 5 []]⟩ := by kernel_rfl
theorem ty133 : tyOf Tryz.prog 133 = ⟨.st [(0, 1, false), (1, 1, false)], 2, 32, [.t (.int .i64 0), .nil], true, [0, 5], [.int .i64 0, .sl 5 []]⟩ := by kernel_rfl
theorem ty143 : tyOf Tryz.prog 143 = ⟨.st [(0, 1, false)], 1, 8, [.t (.int .i64 0)], true, [0], [.int .i64 0]⟩ := by kernel_rfl
theorem ty154 : tyOf Tryz.prog 154 = ⟨.st [(0, 1, false), (1, 1, false), (2, 1, false), (3, 1, false), (4, 1, false)], 5, 40, [.t (.int .i64 0), .t (.int .i64 0), .t (.int .i64 0), .t (.int .i64 0), .t (.int .i64 0)], true, [0, 0, 0, 0, 0], [.int .i64 0, .int .i64 0, .int .i64 0, .int .i64 0, .int .i64 0]⟩ := by kernel_rfl
theorem ty161 : tyOf Tryz.prog 161 = ⟨.st [(0, 1, false), (1, 1, false), (2, 1, false), (3, 1, false)], 4, 48, [.t (.int .i64 0), .t (.int .i64 0), .t (.bool false), .nil], true, [0, 0, 0, 1], [.int .i64 0, .int .i64 0, .bool false, .sl 1 []]⟩ := by kernel_rfl
theorem ty163 : tyOf Tryz.prog 163 = ⟨.st [(0, 1, false), (1, 1, false), (2, 1, false), (3, 1, false), (4, 4, true)], 8, 80, [.t (.int .i64 0), .t (.int .i64 0), .t (.bool false), .t (.int .i64 0), .t (.int .i64 0), .t (.int .i64 0), .t (.bool false), .nil], true, [0, 0, 0, 0, 0, 0, 0, 1], [.int .i64 0, .int .i64 0, .bool false, .int .i64 0, .int .i64 0, .int .i64 0, .bool false, .sl 1 []]⟩ := by kernel_rfl
theorem ty165 : tyOf Tryz.prog 165 = ⟨.st [(0, 1, false), (1, 1, false), (2, 1, false), (3, 1, false)], 4, 48, [.t (.int .i64 0), .t (.int .i64 0), .t (.bool false), .nil], true, [0, 0, 0, 1], [.int .i64 0, .int .i64 0, .bool false, .sl 1 []]⟩ := by kernel_rfl
theorem ty167 : tyOf Tryz.prog 167 = ⟨.st [(0, 1, false), (1, 1, false), (2, 1, false), (3, 1, false), (4, 4, true)], 8, 80, [.t (.int .i64 0), .t (.int .i64 0), .t (.bool false), .t (.int .i64 0), .t (.int .i64 0), .t (.int .i64 0), .t (.bool false), .nil], true, [0, 0, 0, 0, 0, 0, 0, 1], [.int .i64 0, .int .i64 0, .bool false, .int .i64 0, .int .i64 0, .int .i64 0, .bool false, .sl 1 []]⟩ := by kernel_rfl
theorem ty213 : tyOf Tryz.prog 213 = ⟨.st [(0, 1, false), (1, 1, false), (2, 1, false), (3, 1, false), (4, 1, false)], 5, 40, [.t (.int .i64 0), .t (.int .i64 0), .t (.int .i64 0), .t (.int .i64 0), .t (.int .i64 0)], true, [0, 0, 0, 0, 0], [.int .i64 0, .int .i64 0, .int .i64 0, .int .i64 0, .int .i64 0]⟩ := by kernel_rfl
end Go.Tw
