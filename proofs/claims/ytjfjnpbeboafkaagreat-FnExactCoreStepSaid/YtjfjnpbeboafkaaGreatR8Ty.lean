/- R8Ty -/
import Derived.Test.YtjfjnpbeboafkaaGreatBaseG
import Derived.Test.YtjfjnpbeboafkaaGreatProg
import Derived.KernelRfl
set_option linter.unusedSimpArgs false
set_option linter.unusedVariables false
set_option linter.unnecessarySimpa false
namespace Go.Tw
open Go.Proofs
theorem mixed : Tryz.prog.follows .mixedOrders = true := by kernel_rfl
theorem fk68 : fieldKinds Tryz.prog 68 = some [true, true, true, true, true] := by kernel_rfl
theorem fk115 : fieldKinds Tryz.prog 115 = some [true, false] := by kernel_rfl
theorem fk129 : fieldKinds Tryz.prog 129 = some [true, false] := by kernel_rfl
theorem fk153 : fieldKinds Tryz.prog 153 = some [true] := by kernel_rfl
theorem fk155 : fieldKinds Tryz.prog 155 = some [true] := by kernel_rfl
theorem fk209 : fieldKinds Tryz.prog 209 = some [true, true, true, true, true] := by kernel_rfl
theorem fw24 : fieldsKnown Tryz.prog 24 = true := by kernel_rfl
theorem fw27 : fieldsKnown Tryz.prog 27 = true := by kernel_rfl
theorem fw33 : fieldsKnown Tryz.prog 33 = true := by kernel_rfl
theorem fw36 : fieldsKnown Tryz.prog 36 = true := by kernel_rfl
theorem fw39 : fieldsKnown Tryz.prog 39 = true := by kernel_rfl
theorem fw45 : fieldsKnown Tryz.prog 45 = true := by kernel_rfl
theorem fw65 : fieldsKnown Tryz.prog 65 = true := by kernel_rfl
theorem fw68 : fieldsKnown Tryz.prog 68 = true := by kernel_rfl
theorem fw74 : fieldsKnown Tryz.prog 74 = true := by kernel_rfl
theorem fw109 : fieldsKnown Tryz.prog 109 = true := by kernel_rfl
theorem fw111 : fieldsKnown Tryz.prog 111 = true := by kernel_rfl
theorem fw115 : fieldsKnown Tryz.prog 115 = true := by kernel_rfl
theorem fw118 : fieldsKnown Tryz.prog 118 = true := by kernel_rfl
theorem fw122 : fieldsKnown Tryz.prog 122 = true := by kernel_rfl
theorem fw129 : fieldsKnown Tryz.prog 129 = true := by kernel_rfl
theorem fw132 : fieldsKnown Tryz.prog 132 = true := by kernel_rfl
theorem fw136 : fieldsKnown Tryz.prog 136 = true := by kernel_rfl
theorem fw153 : fieldsKnown Tryz.prog 153 = true := by kernel_rfl
theorem fw155 : fieldsKnown Tryz.prog 155 = true := by kernel_rfl
theorem fw159 : fieldsKnown Tryz.prog 159 = true := by kernel_rfl
theorem fw207 : fieldsKnown Tryz.prog 207 = true := by kernel_rfl
theorem fw209 : fieldsKnown Tryz.prog 209 = true := by kernel_rfl
theorem ty2 : tyOf Tryz.prog 2 = ⟨.int .i64, 1, 8, [.t (.int .i64 0)], true, [0], [.int .i64 0]⟩ := by kernel_rfl
theorem ty3 : tyOf Tryz.prog 3 = ⟨.int .i64, 1, 8, [.t (.int .i64 0)], true, [0], [.int .i64 0]⟩ := by kernel_rfl
theorem ty4 : tyOf Tryz.prog 4 = ⟨.bool, 1, 1, [.t (.bool false)], true, [0], [.bool false]⟩ := by kernel_rfl
theorem ty5 : tyOf Tryz.prog 5 = ⟨.int .u8, 1, 1, [.t (.int .u8 0)], true, [0], [.int .u8 0]⟩ := by kernel_rfl
theorem ty9 : tyOf Tryz.prog 9 = ⟨.str, 1, 16, [.t (.str ByteArray.empty)], true, [0], [.str ByteArray.empty]⟩ := by kernel_rfl
theorem ty22 : tyOf Tryz.prog 22 = ⟨.sl 3, 1, 24, [.nil], true, [1], [.sl 1 []]⟩ := by kernel_rfl
theorem ty24 : tyOf Tryz.prog 24 = ⟨.st [(0, 1, false), (1, 1, false), (2, 1, false)], 3, 40, [.nil, .t (.int .i64 0), .t (.int .i64 0)], true, [1, 0, 0], [.sl 1 [], .int .i64 0, .int .i64 0]⟩ := by kernel_rfl
theorem ty25 : tyOf Tryz.prog 25 = ⟨.sl 109, 1, 24, [.nil], true, [2], [.sl 2 []]⟩ := by kernel_rfl
theorem ty27 : tyOf Tryz.prog 27 = ⟨.st [(0, 3, true), (3, 1, false)], 4, 64, [.nil, .t (.int .i64 0), .t (.int .i64 0), .nil], true, [1, 0, 0, 2], [.sl 1 [], .int .i64 0, .int .i64 0, .sl 2 []]⟩ := by kernel_rfl
theorem ty28 : tyOf Tryz.prog 28 = ⟨.sl 111, 1, 24, [.nil], true, [3], [.sl 3 []]⟩ := by kernel_rfl
theorem ty29 : tyOf Tryz.prog 29 = ⟨.sl 118, 1, 24, [.nil], true, [8], [.sl 8 []]⟩ := by kernel_rfl
theorem ty30 : tyOf Tryz.prog 30 = ⟨.sl 122, 1, 24, [.nil], true, [2], [.sl 2 []]⟩ := by kernel_rfl
theorem ty31 : tyOf Tryz.prog 31 = ⟨.sl 155, 1, 24, [.nil], true, [1], [.sl 1 []]⟩ := by kernel_rfl
theorem ty33 : tyOf Tryz.prog 33 = ⟨.st [(0, 1, false), (1, 1, false), (2, 1, false), (3, 1, false), (4, 1, false)], 5, 104, [.t (.int .i64 0), .nil, .nil, .nil, .nil], true, [0, 3, 8, 2, 1], [.int .i64 0, .sl 3 [], .sl 8 [], .sl 2 [], .sl 1 []]⟩ := by kernel_rfl
theorem ty36 : tyOf Tryz.prog 36 = ⟨.st [(0, 1, false), (1, 1, false), (2, 1, false)], 3, 40, [.nil, .t (.int .i64 0), .t (.int .i64 0)], true, [1, 0, 0], [.sl 1 [], .int .i64 0, .int .i64 0]⟩ := by kernel_rfl
theorem ty37 : tyOf Tryz.prog 37 = ⟨.sl 74, 1, 24, [.nil], true, [2], [.sl 2 []]⟩ := by kernel_rfl
theorem ty39 : tyOf Tryz.prog 39 = ⟨.st [(0, 3, true), (3, 1, false)], 4, 64, [.nil, .t (.int .i64 0), .t (.int .i64 0), .nil], true, [1, 0, 0, 2], [.sl 1 [], .int .i64 0, .int .i64 0, .sl 2 []]⟩ := by kernel_rfl
theorem ty40 : tyOf Tryz.prog 40 = ⟨.sl 65, 1, 24, [.nil], true, [3], [.sl 3 []]⟩ := by kernel_rfl
theorem ty41 : tyOf Tryz.prog 41 = ⟨.sl 132, 1, 24, [.nil], true, [8], [.sl 8 []]⟩ := by kernel_rfl
theorem ty42 : tyOf Tryz.prog 42 = ⟨.sl 136, 1, 24, [.nil], true, [2], [.sl 2 []]⟩ := by kernel_rfl
theorem ty43 : tyOf Tryz.prog 43 = ⟨.sl 153, 1, 24, [.nil], true, [1], [.sl 1 []]⟩ := by kernel_rfl
theorem ty45 : tyOf Tryz.prog 45 = ⟨.st [(0, 1, false), (1, 1, false), (2, 1, false), (3, 1, false), (4, 1, false)], 5, 104, [.t (.int .i64 0), .nil, .nil, .nil, .nil], true, [0, 3, 8, 2, 1], [.int .i64 0, .sl 3 [], .sl 8 [], .sl 2 [], .sl 1 []]⟩ := by kernel_rfl
theorem ty65 : tyOf Tryz.prog 65 = ⟨.st [(0, 1, false), (1, 1, false), (2, 1, false)], 3, 40, [.t (.int .i64 0), .nil, .t (.bool false)], true, [0, 1, 0], [.int .i64 0, .sl 1 [], .bool false]⟩ := by kernel_rfl
theorem ty68 : tyOf Tryz.prog 68 = ⟨.st [(0, 1, false), (1, 1, false), (2, 1, false), (3, 1, false), (4, 1, false)], 5, 40, [.t (.int .i64 0), .t (.int .i64 0), .t (.int .i64 0), .t (.int .i64 0), .t (.int .i64 0)], true, [0, 0, 0, 0, 0], [.int .i64 0, .int .i64 0, .int .i64 0, .int .i64 0, .int .i64 0]⟩ := by kernel_rfl
theorem ty72 : tyOf Tryz.prog 72 = ⟨.sl 68, 1, 24, [.nil], true, [5], [.sl 5 []]⟩ := by kernel_rfl
theorem ty74 : tyOf Tryz.prog 74 = ⟨.st [(0, 1, false), (1, 1, false)], 2, 32, [.t (.int .i64 0), .nil], true, [0, 5], [.int .i64 0, .sl 5 []]⟩ := by kernel_rfl
theorem ty107 : tyOf Tryz.prog 107 = ⟨.sl 209, 1, 24, [.nil], true, [5], [.sl 5 []]⟩ := by kernel_rfl
theorem ty109 : tyOf Tryz.prog 109 = ⟨.st [(0, 1, false), (1, 1, false)], 2, 32, [.t (.int .i64 0), .nil], true, [0, 5], [.int .i64 0, .sl 5 []]⟩ := by kernel_rfl
theorem ty111 : tyOf Tryz.prog 111 = ⟨.st [(0, 1, false), (1, 1, false), (2, 1, false)], 3, 40, [.t (.int .i64 0), .nil, .t (.bool false)], true, [0, 1, 0], [.int .i64 0, .sl 1 [], .bool false]⟩ := by kernel_rfl
theorem ty113 : tyOf Tryz.prog 113 = ⟨.sl 4, 1, 24, [.nil], true, [1], [.sl 1 []]⟩ := by kernel_rfl
theorem ty115 : tyOf Tryz.prog 115 = ⟨.st [(0, 1, false), (1, 1, false)], 2, 16, [.t (.int .i64 0), .t (.bool false)], true, [0, 0], [.int .i64 0, .bool false]⟩ := by kernel_rfl
theorem ty116 : tyOf Tryz.prog 116 = ⟨.sl 115, 1, 24, [.nil], true, [2], [.sl 2 []]⟩ := by kernel_rfl
theorem ty118 : tyOf Tryz.prog 118 = ⟨.st [(0, 1, false), (1, 1, false), (2, 1, false), (3, 1, false), (4, 2, true), (6, 1, false), (7, 1, false)], 8, 112, [.nil, .t (.int .i64 0), .nil, .t (.bool false), .t (.int .i64 0), .t (.bool false), .t (.int .i64 0), .nil], true, [1, 0, 1, 0, 0, 0, 0, 2], [.sl 1 [], .int .i64 0, .sl 1 [], .bool false, .int .i64 0, .bool false, .int .i64 0, .sl 2 []]⟩ := by kernel_rfl
theorem ty120 : tyOf Tryz.prog 120 = ⟨.sl 207, 1, 24, [.nil], true, [4], [.sl 4 []]⟩ := by kernel_rfl
theorem ty122 : tyOf Tryz.prog 122 = ⟨.st [(0, 1, false), (1, 1, false)], 2, 32, [.t (.int .i64 0), .nil], true, [0, 4], [.int .i64 0, .sl 4 []]⟩ := by kernel_rfl
theorem ty129 : tyOf Tryz.prog 129 = ⟨.st [(0, 1, false), (1, 1, false)], 2, 16, [.t (.int .i64 0), .t (.bool false)], true, [0, 0], [.int .i64 0, .bool false]⟩ := by kernel_rfl
theorem ty130 : tyOf Tryz.prog 130 = ⟨.sl 129, 1, 24, [.nil], true, [2], [.sl 2 []]⟩ := by kernel_rfl
theorem ty132 : tyOf Tryz.prog 132 = ⟨.st [(0, 1, false), (1, 1, false), (2, 1, false), (3, 1, false), (4, 2, true), (6, 1, false), (7, 1, false)], 8, 112, [.nil, .t (.int .i64 0), .nil, .t (.bool false), .t (.int .i64 0), .t (.bool false), .t (.int .i64 0), .nil], true, [1, 0, 1, 0, 0, 0, 0, 2], [.sl 1 [], .int .i64 0, .sl 1 [], .bool false, .int .i64 0, .bool false, .int .i64 0, .sl 2 []]⟩ := by kernel_rfl
theorem ty134 : tyOf Tryz.prog 134 = ⟨.sl 159, 1, 24, [.nil], true, [4], [.sl 4 []]⟩ := by kernel_rfl
theorem ty136 : tyOf Tryz.prog 136 = ⟨.st [(0, 1, false), (1, 1, false)], 2, 32, [.t (.int .i64 0), .nil], true, [0, 4], [.int .i64 0, .sl 4 []]⟩ := by kernel_rfl
theorem ty153 : tyOf Tryz.prog 153 = ⟨.st [(0, 1, false)], 1, 8, [.t (.int .i64 0)], true, [0], [.int .i64 0]⟩ := by kernel_rfl
theorem ty155 : tyOf Tryz.prog 155 = ⟨.st [(0, 1, false)], 1, 8, [.t (.int .i64 0)], true, [0], [.int .i64 0]⟩ := by kernel_rfl
theorem ty159 : tyOf Tryz.prog 159 = ⟨.st [(0, 1, false), (1, 1, false), (2, 1, false), (3, 1, false)], 4, 48, [.t (.int .i64 0), .t (.int .i64 0), .t (.bool false), .nil], true, [0, 0, 0, 1], [.int .i64 0, .int .i64 0, .bool false, .sl 1 []]⟩ := by kernel_rfl
theorem ty207 : tyOf Tryz.prog 207 = ⟨.st [(0, 1, false), (1, 1, false), (2, 1, false), (3, 1, false)], 4, 48, [.t (.int .i64 0), .t (.int .i64 0), .t (.bool false), .nil], true, [0, 0, 0, 1], [.int .i64 0, .int .i64 0, .bool false, .sl 1 []]⟩ := by kernel_rfl
theorem ty209 : tyOf Tryz.prog 209 = ⟨.st [(0, 1, false), (1, 1, false), (2, 1, false), (3, 1, false), (4, 1, false)], 5, 40, [.t (.int .i64 0), .t (.int .i64 0), .t (.int .i64 0), .t (.int .i64 0), .t (.int .i64 0)], true, [0, 0, 0, 0, 0], [.int .i64 0, .int .i64 0, .int .i64 0, .int .i64 0, .int .i64 0]⟩ := by kernel_rfl
end Go.Tw
