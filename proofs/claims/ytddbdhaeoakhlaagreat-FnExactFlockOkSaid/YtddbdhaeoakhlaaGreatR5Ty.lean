/- R5Ty -/
import Derived.Test.YtddbdhaeoakhlaaGreatBaseD
import Derived.Test.YtddbdhaeoakhlaaGreatBaseE
import Derived.Test.YtddbdhaeoakhlaaGreatProg
import Derived.KernelRfl
set_option linter.unusedSimpArgs false
set_option linter.unusedVariables false
namespace Go.Tw
open Go.Proofs
theorem mixed : Tryz.prog.follows .mixedOrders = true := by kernel_rfl
theorem fk104 : fieldKinds Tryz.prog 104 = some [true, false] := by kernel_rfl
theorem fk113 : fieldKinds Tryz.prog 113 = some [true] := by kernel_rfl
theorem fk137 : fieldKinds Tryz.prog 137 = some [true, true, true, true, true] := by kernel_rfl
theorem fk179 : fieldKinds Tryz.prog 179 = some [true, false] := by kernel_rfl
theorem fk194 : fieldKinds Tryz.prog 194 = some [true] := by kernel_rfl
theorem fk215 : fieldKinds Tryz.prog 215 = some [true, true, true, true, true] := by kernel_rfl
theorem fw25 : fieldsKnown Tryz.prog 25 = true := by kernel_rfl
theorem fw28 : fieldsKnown Tryz.prog 28 = true := by kernel_rfl
theorem fw34 : fieldsKnown Tryz.prog 34 = true := by kernel_rfl
theorem fw37 : fieldsKnown Tryz.prog 37 = true := by kernel_rfl
theorem fw47 : fieldsKnown Tryz.prog 47 = true := by kernel_rfl
theorem fw50 : fieldsKnown Tryz.prog 50 = true := by kernel_rfl
theorem fw56 : fieldsKnown Tryz.prog 56 = true := by kernel_rfl
theorem fw64 : fieldsKnown Tryz.prog 64 = true := by kernel_rfl
theorem fw67 : fieldsKnown Tryz.prog 67 = true := by kernel_rfl
theorem fw72 : fieldsKnown Tryz.prog 72 = true := by kernel_rfl
theorem fw74 : fieldsKnown Tryz.prog 74 = true := by kernel_rfl
theorem fw91 : fieldsKnown Tryz.prog 91 = true := by kernel_rfl
theorem fw93 : fieldsKnown Tryz.prog 93 = true := by kernel_rfl
theorem fw95 : fieldsKnown Tryz.prog 95 = true := by kernel_rfl
theorem fw100 : fieldsKnown Tryz.prog 100 = true := by kernel_rfl
theorem fw104 : fieldsKnown Tryz.prog 104 = true := by kernel_rfl
theorem fw107 : fieldsKnown Tryz.prog 107 = true := by kernel_rfl
theorem fw111 : fieldsKnown Tryz.prog 111 = true := by kernel_rfl
theorem fw113 : fieldsKnown Tryz.prog 113 = true := by kernel_rfl
theorem fw118 : fieldsKnown Tryz.prog 118 = true := by kernel_rfl
theorem fw137 : fieldsKnown Tryz.prog 137 = true := by kernel_rfl
theorem fw151 : fieldsKnown Tryz.prog 151 = true := by kernel_rfl
theorem fw177 : fieldsKnown Tryz.prog 177 = true := by kernel_rfl
theorem fw179 : fieldsKnown Tryz.prog 179 = true := by kernel_rfl
theorem fw182 : fieldsKnown Tryz.prog 182 = true := by kernel_rfl
theorem fw186 : fieldsKnown Tryz.prog 186 = true := by kernel_rfl
theorem fw194 : fieldsKnown Tryz.prog 194 = true := by kernel_rfl
theorem fw215 : fieldsKnown Tryz.prog 215 = true := by kernel_rfl
theorem ty3 : tyOf Tryz.prog 3 = ⟨.int .i64, 1, 8, [.t (.int .i64 0)], true, [0], [.int .i64 0]⟩ := by kernel_rfl
theorem ty4 : tyOf Tryz.prog 4 = ⟨.bool, 1, 1, [.t (.bool false)], true, [0], [.bool false]⟩ := by kernel_rfl
theorem ty5 : tyOf Tryz.prog 5 = ⟨.int .u8, 1, 1, [.t (.int .u8 0)], true, [0], [.int .u8 0]⟩ := by kernel_rfl
theorem ty9 : tyOf Tryz.prog 9 = ⟨.str, 1, 16, [.t (.str ByteArray.empty)], true, [0], [.str ByteArray.empty]⟩ := by kernel_rfl
theorem ty22 : tyOf Tryz.prog 22 = ⟨.sl 91, 1, 24, [.nil], true, [5], [.sl 5 []]⟩ := by kernel_rfl
theorem ty23 : tyOf Tryz.prog 23 = ⟨.sl 95, 1, 24, [.nil], true, [8], [.sl 8 []]⟩ := by kernel_rfl
theorem ty25 : tyOf Tryz.prog 25 = ⟨.st [(0, 1, false), (1, 1, false), (2, 1, false)], 3, 56, [.t (.int .i64 0), .nil, .nil], true, [0, 5, 8], [.int .i64 0, .sl 5 [], .sl 8 []]⟩ := by kernel_rfl
theorem ty26 : tyOf Tryz.prog 26 = ⟨.sl 67, 1, 24, [.nil], true, [4], [.sl 4 []]⟩ := by kernel_rfl
theorem ty28 : tyOf Tryz.prog 28 = ⟨.st [(0, 3, true), (3, 1, false)], 4, 80, [.t (.int .i64 0), .nil, .nil, .nil], true, [0, 5, 8, 4], [.int .i64 0, .sl 5 [], .sl 8 [], .sl 4 []]⟩ := by kernel_rfl
theorem ty31 : tyOf Tryz.prog 31 = ⟨.sl 56, 1, 24, [.nil], true, [5], [.sl 5 []]⟩ := by kernel_rfl
theorem ty32 : tyOf Tryz.prog 32 = ⟨.sl 74, 1, 24, [.nil], true, [8], [.sl 8 []]⟩ := by kernel_rfl
theorem ty34 : tyOf Tryz.prog 34 = ⟨.st [(0, 1, false), (1, 1, false), (2, 1, false)], 3, 56, [.t (.int .i64 0), .nil, .nil], true, [0, 5, 8], [.int .i64 0, .sl 5 [], .sl 8 []]⟩ := by kernel_rfl
theorem ty35 : tyOf Tryz.prog 35 = ⟨.sl 50, 1, 24, [.nil], true, [4], [.sl 4 []]⟩ := by kernel_rfl
theorem ty37 : tyOf Tryz.prog 37 = ⟨.st [(0, 3, true), (3, 1, false)], 4, 80, [.t (.int .i64 0), .nil, .nil, .nil], true, [0, 5, 8, 4], [.int .i64 0, .sl 5 [], .sl 8 [], .sl 4 []]⟩ := by kernel_rfl
theorem ty45 : tyOf Tryz.prog 45 = ⟨.sl 3, 1, 24, [.nil], true, [1], [.sl 1 []]⟩ := by kernel_rfl
theorem ty47 : tyOf Tryz.prog 47 = ⟨.st [(0, 1, false), (1, 1, false), (2, 1, false)], 3, 40, [.nil, .t (.int .i64 0), .t (.int .i64 0)], true, [1, 0, 0], [.sl 1 [], .int .i64 0, .int .i64 0]⟩ := by kernel_rfl
theorem ty48 : tyOf Tryz.prog 48 = ⟨.sl 118, 1, 24, [.nil], true, [2], [.sl 2 []]⟩ := by kernel_rfl
theorem ty50 : tyOf Tryz.prog 50 = ⟨.st [(0, 3, true), (3, 1, false)], 4, 64, [.nil, .t (.int .i64 0), .t (.int .i64 0), .nil], true, [1, 0, 0, 2], [.sl 1 [], .int .i64 0, .int .i64 0, .sl 2 []]⟩ := by kernel_rfl
theorem ty51 : tyOf Tryz.prog 51 = ⟨.sl 100, 1, 24, [.nil], true, [3], [.sl 3 []]⟩ := by kernel_rfl
theorem ty52 : tyOf Tryz.prog 52 = ⟨.sl 107, 1, 24, [.nil], true, [8], [.sl 8 []]⟩ := by kernel_rfl
theorem ty53 : tyOf Tryz.prog 53 = ⟨.sl 111, 1, 24, [.nil], true, [2], [.sl 2 []]⟩ := by kernel_rfl
theorem ty54 : tyOf Tryz.prog 54 = ⟨.sl 113, 1, 24, [.nil], true, [1], [.sl 1 []]⟩ := by kernel_rfl
theorem ty56 : tyOf Tryz.prog 56 = ⟨.st [(0, 1, false), (1, 1, false), (2, 1, false), (3, 1, false), (4, 1, false)], 5, 104, [.t (.int .i64 0), .nil, .nil, .nil, .nil], true, [0, 3, 8, 2, 1], [.int .i64 0, .sl 3 [], .sl 8 [], .sl 2 [], .sl 1 []]⟩ := by kernel_rfl
theorem ty64 : tyOf Tryz.prog 64 = ⟨.st [(0, 1, false), (1, 1, false), (2, 1, false)], 3, 40, [.nil, .t (.int .i64 0), .t (.int .i64 0)], true, [1, 0, 0], [.sl 1 [], .int .i64 0, .int .i64 0]⟩ := by kernel_rfl
theorem ty65 : tyOf Tryz.prog 65 = ⟨.sl 151, 1, 24, [.nil], true, [2], [.sl 2 []]⟩ := by kernel_rfl
theorem ty67 : tyOf Tryz.prog 67 = ⟨.st [(0, 3, true), (3, 1, false)], 4, 64, [.nil, .t (.int .i64 0), .t (.int .i64 0), .nil], true, [1, 0, 0, 2], [.sl 1 [], .int .i64 0, .int .i64 0, .sl 2 []]⟩ := by kernel_rfl
theorem ty72 : tyOf Tryz.prog 72 = ⟨.st [(0, 1, false), (1, 1, false), (2, 1, false), (3, 1, false)], 4, 48, [.t (.int .i64 0), .t (.int .i64 0), .t (.bool false), .nil], true, [0, 0, 0, 1], [.int .i64 0, .int .i64 0, .bool false, .sl 1 []]⟩ := by kernel_rfl
theorem ty74 : tyOf Tryz.prog 74 = ⟨.st [(0, 1, false), (1, 1, false), (2, 1, false), (3, 1, false), (4, 4, true)], 8, 80, [.t (.int .i64 0), .t (.int .i64 0), .t (.bool false), .t (.int .i64 0), .t (.int .i64 0), .t (.int .i64 0), .t (.bool false), .nil], true, [0, 0, 0, 0, 0, 0, 0, 1], [.int .i64 0, .int .i64 0, .bool false, .int .i64 0, .int .i64 0, .int .i64 0, .bool false, .sl 1 []]⟩ := by kernel_rfl
theorem ty86 : tyOf Tryz.prog 86 = ⟨.sl 177, 1, 24, [.nil], true, [3], [.sl 3 []]⟩ := by kernel_rfl
theorem ty87 : tyOf Tryz.prog 87 = ⟨.sl 182, 1, 24, [.nil], true, [8], [.sl 8 []]⟩ := by kernel_rfl
theorem ty88 : tyOf Tryz.prog 88 = ⟨.sl 186, 1, 24, [.nil], true, [2], [.sl 2 []]⟩ := by kernel_rfl
theorem ty89 : tyOf Tryz.prog 89 = ⟨.sl 194, 1, 24, [.nil], true, [1], [.sl 1 []]⟩ := by kernel_rfl
theorem ty91 : tyOf Tryz.prog 91 = ⟨.st [(0, 1, false), (1, 1, false), (2, 1, false), (3, 1, false), (4, 1, false)], 5, 104, [.t (.int .i64 0), .nil, .nil, .nil, .nil], true, [0, 3, 8, 2, 1], [.int .i64 0, .sl 3 [], .sl 8 [], .sl 2 [], .sl 1 []]⟩ := by kernel_rfl
theorem ty93 : tyOf Tryz.prog 93 = ⟨.st [(0, 1, false), (1, 1, false), (2, 1, false), (3, 1, false)], 4, 48, [.t (.int .i64 0), .t (.int .i64 0), .t (.bool false), .nil], true, [0, 0, 0, 1], [.int .i64 0, .int .i64 0, .bool false, .sl 1 []]⟩ := by kernel_rfl
theorem ty95 : tyOf Tryz.prog 95 = ⟨.st [(0, 1, false), (1, 1, false), (2, 1, false), (3, 1, false), (4, 4, true)], 8, 80, [.t (.int .i64 0), .t (.int .i64 0), .t (.bool false), .t (.int .i64 0), .t (.int .i64 0), .t (.int .i64 0), .t (.bool false), .nil], true, [0, 0, 0, 0, 0, 0, 0, 1], [.int .i64 0, .int .i64 0, .bool false, .int .i64 0, .int .i64 0, .int .i64 0, .bool false, .sl 1 []]⟩ := by kernel_rfl
theorem ty100 : tyOf Tryz.prog 100 = ⟨.st [(0, 1, false), (1, 1, false), (2, 1, false)], 3, 40, [.t (.int .i64 0), .nil, .t (.bool false)], true, [0, 1, 0], [.int .i64 0, .sl 1 [], .bool false]⟩ := by kernel_rfl
theorem ty102 : tyOf Tryz.prog 102 = ⟨.sl 4, 1, 24, [.nil], true, [1], [.sl 1 []]⟩ := by kernel_rfl
theorem ty104 : tyOf Tryz.prog 104 = ⟨.st [(0, 1, false), (1, 1, false)], 2, 16, [.t (.int .i64 0), .t (.bool false)], true, [0, 0], [.int .i64 0, .bool false]⟩ := by kernel_rfl
theorem ty105 : tyOf Tryz.prog 105 = ⟨.sl 104, 1, 24, [.nil], true, [2], [.sl 2 []]⟩ := by kernel_rfl
theorem ty107 : tyOf Tryz.prog 107 = ⟨.st [(0, 1, false), (1, 1, false), (2, 1, false), (3, 1, false), (4, 2, true), (6, 1, false), (7, 1, false)], 8, 112, [.nil, .t (.int .i64 0), .nil, .t (.bool false), .t (.int .i64 0), .t (.bool false), .t (.int .i64 0), .nil], true, [1, 0, 1, 0, 0, 0, 0, 2], [.sl 1 [], .int .i64 0, .sl 1 [], .bool false, .int .i64 0, .bool false, .int .i64 0, .sl 2 []]⟩ := by kernel_rfl
theorem ty109 : tyOf Tryz.prog 109 = ⟨.sl 72, 1, 24, [.nil], true, [4], [.sl 4 []]⟩ := by kernel_rfl
theorem ty111 : tyOf Tryz.prog 111 = ⟨.st [(0, 1, false), (1, 1, false)], 2, 32, [.t (.int .i64 0), .nil], true, [0, 4], [.int .i64 0, .sl 4 []]⟩ := by kernel_rfl
theorem ty113 : tyOf Tryz.prog 113 = ⟨.st [(0, 1, false)], 1, 8, [.t (.int .i64 0)], true, [0], [.int .i64 0]⟩ := by kernel_rfl
theorem ty116 : tyOf Tryz.prog 116 = ⟨.sl 137, 1, 24, [.nil], true, [5], [.sl 5 []]⟩ := by kernel_rfl
theorem ty118 : tyOf Tryz.prog 118 = ⟨.st [(0, 1, false), (1, 1, false)], 2, 32, [.t (.int .i64 0), .nil], true, [0, 5], [.int .i64 0, .sl 5 []]⟩ := by kernel_rfl
theorem ty137 : tyOf Tryz.prog 137 = ⟨.st [(0, 1, false), (1, 1, false), (2, 1, false), (3, 1, false), (4, 1, false)], 5, 40, [.t (.int .i64 0), .t (.int .i64 0), .t (.int .i64 0), .t (.int .i64 0), .t (.int .i64 0)], true, [0, 0, 0, 0, 0], [.int .i64 0, .int .i64 0, .int .i64 0, .int .i64 0, .int .i64 0]⟩ := by kernel_rfl
theorem ty149 : tyOf Tryz.prog 149 = ⟨.sl 215, 1, 24, [.nil], true, [5], [.sl 5 []]⟩ := by kernel_rfl
theorem ty151 : tyOf Tryz.prog 151 = ⟨.st [(0, 1, false), (1, 1, false)], 2, 32, [.t (.int .i64 0), .nil], true, [0, 5], [.int .i64 0, .sl 5 []]⟩ := by kernel_rfl
theorem ty177 : tyOf Tryz.prog 177 = ⟨.st [(0, 1, false), (1, 1, false), (2, 1, false)], 3, 40, [.t (.int .i64 0), .nil, .t (.bool false)], true, [0, 1, 0], [.int .i64 0, .sl 1 [], .bool false]⟩ := by kernel_rfl
theorem ty179 : tyOf Tryz.prog 179 = ⟨.st [(0, 1, false), (1, 1, false)], 2, 16, [.t (.int .i64 0), .t (.bool false)], true, [0, 0], [.int .i64 0, .bool false]⟩ := by kernel_rfl
theorem ty180 : tyOf Tryz.prog 180 = ⟨.sl 179, 1, 24, [.nil], true, [2], [.sl 2 []]⟩ := by kernel_rfl
theorem ty182 : tyOf Tryz.prog 182 = ⟨.st [(0, 1, false), (1, 1, false), (2, 1, false), (3, 1, false), (4, 2, true), (6, 1, false), (7, 1, false)], 8, 112, [.nil, .t (.int .i64 0), .nil, .t (.bool false), .t (.int .i64 0), .t (.bool false), .t (.int .i64 0), .nil], true, [1, 0, 1, 0, 0, 0, 0, 2], [.sl 1 [], .int .i64 0, .sl 1 [], .bool false, .int .i64 0, .bool false, .int .i64 0, .sl 2 []]⟩ := by kernel_rfl
theorem ty184 : tyOf Tryz.prog 184 = ⟨.sl 93, 1, 24, [.nil], true, [4], [.sl 4 []]⟩ := by kernel_rfl
theorem ty186 : tyOf Tryz.prog 186 = ⟨.st [(0, 1, false), (1, 1, false)], 2, 32, [.t (.int .i64 0), .nil], true, [0, 4], [.int .i64 0, .sl 4 []]⟩ := by kernel_rfl
theorem ty194 : tyOf Tryz.prog 194 = ⟨.st [(0, 1, false)], 1, 8, [.t (.int .i64 0)], true, [0], [.int .i64 0]⟩ := by kernel_rfl
theorem ty215 : tyOf Tryz.prog 215 = ⟨.st [(0, 1, false), (1, 1, false), (2, 1, false), (3, 1, false), (4, 1, false)], 5, 40, [.t (.int .i64 0), .t (.int .i64 0), .t (.int .i64 0), .t (.int .i64 0), .t (.int .i64 0)], true, [0, 0, 0, 0, 0], [.int .i64 0, .int .i64 0, .int .i64 0, .int .i64 0, .int .i64 0]⟩ := by kernel_rfl
end Go.Tw
