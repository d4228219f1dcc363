/- R3Ty -/
import Derived.Test.YtafocmjoejchbaaBaseD
import Derived.Test.YtafocmjoejchbaaBaseE
import Derived.Test.YtafocmjoejchbaaProg
import Derived.KernelRfl
set_option linter.unusedSimpArgs false
set_option linter.unusedVariables false
namespace Go.Tw
open Go.Proofs
theorem mixed : Try.prog.follows .mixedOrders = true := by kernel_rfl
theorem fk47 : fieldKinds Try.prog 47 = some [true, true, true, true, true] := by kernel_rfl
theorem fk123 : fieldKinds Try.prog 123 = some [true, true, true, true, true] := by kernel_rfl
theorem fk164 : fieldKinds Try.prog 164 = some [true, false] := by kernel_rfl
theorem fk178 : fieldKinds Try.prog 178 = some [true, true, true, true, true] := by kernel_rfl
theorem fk240 : fieldKinds Try.prog 240 = some [true] := by kernel_rfl
theorem fk242 : fieldKinds Try.prog 242 = some [true, false] := by kernel_rfl
theorem fk253 : fieldKinds Try.prog 253 = some [true] := by kernel_rfl
theorem fw25 : fieldsKnown Try.prog 25 = true := by kernel_rfl
theorem fw33 : fieldsKnown Try.prog 33 = true := by kernel_rfl
theorem fw44 : fieldsKnown Try.prog 44 = true := by kernel_rfl
theorem fw47 : fieldsKnown Try.prog 47 = true := by kernel_rfl
theorem fw51 : fieldsKnown Try.prog 51 = true := by kernel_rfl
theorem fw77 : fieldsKnown Try.prog 77 = true := by kernel_rfl
theorem fw79 : fieldsKnown Try.prog 79 = true := by kernel_rfl
theorem fw83 : fieldsKnown Try.prog 83 = true := by kernel_rfl
theorem fw86 : fieldsKnown Try.prog 86 = true := by kernel_rfl
theorem fw96 : fieldsKnown Try.prog 96 = true := by kernel_rfl
theorem fw99 : fieldsKnown Try.prog 99 = true := by kernel_rfl
theorem fw105 : fieldsKnown Try.prog 105 = true := by kernel_rfl
theorem fw108 : fieldsKnown Try.prog 108 = true := by kernel_rfl
theorem fw123 : fieldsKnown Try.prog 123 = true := by kernel_rfl
theorem fw139 : fieldsKnown Try.prog 139 = true := by kernel_rfl
theorem fw141 : fieldsKnown Try.prog 141 = true := by kernel_rfl
theorem fw164 : fieldsKnown Try.prog 164 = true := by kernel_rfl
theorem fw167 : fieldsKnown Try.prog 167 = true := by kernel_rfl
theorem fw172 : fieldsKnown Try.prog 172 = true := by kernel_rfl
theorem fw178 : fieldsKnown Try.prog 178 = true := by kernel_rfl
theorem fw206 : fieldsKnown Try.prog 206 = true := by kernel_rfl
theorem fw209 : fieldsKnown Try.prog 209 = true := by kernel_rfl
theorem fw212 : fieldsKnown Try.prog 212 = true := by kernel_rfl
theorem fw237 : fieldsKnown Try.prog 237 = true := by kernel_rfl
theorem fw240 : fieldsKnown Try.prog 240 = true := by kernel_rfl
theorem fw242 : fieldsKnown Try.prog 242 = true := by kernel_rfl
theorem fw245 : fieldsKnown Try.prog 245 = true := by kernel_rfl
theorem fw249 : fieldsKnown Try.prog 249 = true := by kernel_rfl
theorem fw253 : fieldsKnown Try.prog 253 = true := by kernel_rfl
theorem ty3 : tyOf Try.prog 3 = ⟨.int .i64, 1, 8, [.t (.int .i64 0)], true, [0], [.int .i64 0]⟩ := by kernel_rfl
theorem ty4 : tyOf Try.prog 4 = ⟨.bool, 1, 1, [.t (.bool false)], true, [0], [.bool false]⟩ := by kernel_rfl
theorem ty5 : tyOf Try.prog 5 = ⟨.int .u8, 1, 1, [.t (.int .u8 0)], true, [0], [.int .u8 0]⟩ := by kernel_rfl
theorem ty9 : tyOf Try.prog 9 = ⟨.str, 1, 16, [.t (.str ByteArray.empty)], true, [0], [.str ByteArray.empty]⟩ := by kernel_rfl
theorem ty22 : tyOf Try.prog 22 = ⟨.sl 25, 1, 24, [.nil], true, [2], [.sl 2 []]⟩ := by kernel_rfl
theorem ty23 : tyOf Try.prog 23 = ⟨.sl 178, 1, 24, [.nil], true, [5], [.sl 5 []]⟩ := by kernel_rfl
theorem ty25 : tyOf Try.prog 25 = ⟨.st [(0, 1, false), (1, 1, false)], 2, 32, [.t (.int .i64 0), .nil], true, [0, 5], [.int .i64 0, .sl 5 []]⟩ := by kernel_rfl
theorem ty28 : tyOf Try.prog 28 = ⟨.sl 33, 1, 24, [.nil], true, [2], [.sl 2 []]⟩ := by kernel_rfl
theorem ty31 : tyOf Try.prog 31 = ⟨.sl 123, 1, 24, [.nil], true, [5], [.sl 5 []]⟩ := by kernel_rfl
theorem ty33 : tyOf Try.prog 33 = ⟨.st [(0, 1, false), (1, 1, false)], 2, 32, [.t (.int .i64 0), .nil], true, [0, 5], [.int .i64 0, .sl 5 []]⟩ := by kernel_rfl
theorem ty42 : tyOf Try.prog 42 = ⟨.sl 3, 1, 24, [.nil], true, [1], [.sl 1 []]⟩ := by kernel_rfl
theorem ty44 : tyOf Try.prog 44 = ⟨.st [(0, 1, false), (1, 1, false), (2, 1, false)], 3, 40, [.nil, .t (.int .i64 0), .t (.int .i64 0)], true, [1, 0, 0], [.sl 1 [], .int .i64 0, .int .i64 0]⟩ := by kernel_rfl
theorem ty47 : tyOf Try.prog 47 = ⟨.st [(0, 1, false), (1, 1, false), (2, 1, false), (3, 1, false), (4, 1, false)], 5, 40, [.t (.int .i64 0), .t (.int .i64 0), .t (.int .i64 0), .t (.int .i64 0), .t (.int .i64 0)], true, [0, 0, 0, 0, 0], [.int .i64 0, .int .i64 0, .int .i64 0, .int .i64 0, .int .i64 0]⟩ := by kernel_rfl
theorem ty51 : tyOf Try.prog 51 = ⟨.st [(0, 1, false), (1, 1, false), (2, 1, false)], 3, 40, [.nil, .t (.int .i64 0), .t (.int .i64 0)], true, [1, 0, 0], [.sl 1 [], .int .i64 0, .int .i64 0]⟩ := by kernel_rfl
theorem ty57 : tyOf Try.prog 57 = ⟨.sl 139, 1, 24, [.nil], true, [3], [.sl 3 []]⟩ := by kernel_rfl
theorem ty60 : tyOf Try.prog 60 = ⟨.sl 141, 1, 24, [.nil], true, [3], [.sl 3 []]⟩ := by kernel_rfl
theorem ty64 : tyOf Try.prog 64 = ⟨.sl 44, 1, 24, [.nil], true, [3], [.sl 3 []]⟩ := by kernel_rfl
theorem ty66 : tyOf Try.prog 66 = ⟨.sl 47, 1, 24, [.nil], true, [5], [.sl 5 []]⟩ := by kernel_rfl
theorem ty68 : tyOf Try.prog 68 = ⟨.sl 51, 1, 24, [.nil], true, [3], [.sl 3 []]⟩ := by kernel_rfl
theorem ty77 : tyOf Try.prog 77 = ⟨.st [(0, 3, true), (3, 1, false)], 4, 64, [.nil, .t (.int .i64 0), .t (.int .i64 0), .nil], true, [1, 0, 0, 2], [.sl 1 [], .int .i64 0, .int .i64 0, .sl 2 []]⟩ := by kernel_rfl
theorem ty79 : tyOf Try.prog 79 = ⟨.st [(0, 1, false), (1, 1, false), (2, 1, false), (3, 1, false)], 4, 48, [.t (.int .i64 0), .t (.int .i64 0), .t (.bool false), .nil], true, [0, 0, 0, 1], [.int .i64 0, .int .i64 0, .bool false, .sl 1 []]⟩ := by kernel_rfl
theorem ty83 : tyOf Try.prog 83 = ⟨.st [(0, 3, true), (3, 1, false)], 4, 64, [.nil, .t (.int .i64 0), .t (.int .i64 0), .nil], true, [1, 0, 0, 2], [.sl 1 [], .int .i64 0, .int .i64 0, .sl 2 []]⟩ := by kernel_rfl
theorem ty86 : tyOf Try.prog 86 = ⟨.st [(0, 1, false), (1, 1, false), (2, 1, false), (3, 1, false)], 4, 48, [.t (.int .i64 0), .t (.int .i64 0), .t (.bool false), .nil], true, [0, 0, 0, 1], [.int .i64 0, .int .i64 0, .bool false, .sl 1 []]⟩ := by kernel_rfl
theorem ty93 : tyOf Try.prog 93 = ⟨.sl 206, 1, 24, [.nil], true, [5], [.sl 5 []]⟩ := by kernel_rfl
theorem ty94 : tyOf Try.prog 94 = ⟨.sl 209, 1, 24, [.nil], true, [8], [.sl 8 []]⟩ := by kernel_rfl
theorem ty96 : tyOf Try.prog 96 = ⟨.st [(0, 1, false), (1, 1, false), (2, 1, false)], 3, 56, [.t (.int .i64 0), .nil, .nil], true, [0, 5, 8], [.int .i64 0, .sl 5 [], .sl 8 []]⟩ := by kernel_rfl
theorem ty97 : tyOf Try.prog 97 = ⟨.sl 77, 1, 24, [.nil], true, [4], [.sl 4 []]⟩ := by kernel_rfl
theorem ty99 : tyOf Try.prog 99 = ⟨.st [(0, 3, true), (3, 1, false)], 4, 80, [.t (.int .i64 0), .nil, .nil, .nil], true, [0, 5, 8, 4], [.int .i64 0, .sl 5 [], .sl 8 [], .sl 4 []]⟩ := by kernel_rfl
theorem ty102 : tyOf Try.prog 102 = ⟨.sl 172, 1, 24, [.nil], true, [5], [.sl 5 []]⟩ := by kernel_rfl
theorem ty103 : tyOf Try.prog 103 = ⟨.sl 212, 1, 24, [.nil], true, [8], [.sl 8 []]⟩ := by kernel_rfl
theorem ty105 : tyOf Try.prog 105 = ⟨.st [(0, 1, false), (1, 1, false), (2, 1, false)], 3, 56, [.t (.int .i64 0), .nil, .nil], true, [0, 5, 8], [.int .i64 0, .sl 5 [], .sl 8 []]⟩ := by kernel_rfl
theorem ty106 : tyOf Try.prog 106 = ⟨.sl 83, 1, 24, [.nil], true, [4], [.sl 4 []]⟩ := by kernel_rfl
theorem ty108 : tyOf Try.prog 108 = ⟨.st [(0, 3, true), (3, 1, false)], 4, 80, [.t (.int .i64 0), .nil, .nil, .nil], true, [0, 5, 8, 4], [.int .i64 0, .sl 5 [], .sl 8 [], .sl 4 []]⟩ := by kernel_rfl
theorem ty123 : tyOf Try.prog 123 = ⟨.st [(0, 1, false), (1, 1, false), (2, 1, false), (3, 1, false), (4, 1, false)], 5, 40, [.t (.int .i64 0), .t (.int .i64 0), .t (.int .i64 0), .t (.int .i64 0), .t (.int .i64 0)], true, [0, 0, 0, 0, 0], [.int .i64 0, .int .i64 0, .int .i64 0, .int .i64 0, .int .i64 0]⟩ := by kernel_rfl
theorem ty139 : tyOf Try.prog 139 = ⟨.st [(0, 1, false), (1, 1, false), (2, 1, false)], 3, 40, [.t (.int .i64 0), .nil, .t (.bool false)], true, [0, 1, 0], [.int .i64 0, .sl 1 [], .bool false]⟩ := by kernel_rfl
theorem ty141 : tyOf Try.prog 141 = ⟨.st [(0, 1, false), (1, 1, false), (2, 1, false)], 3, 40, [.t (.int .i64 0), .nil, .t (.bool false)], true, [0, 1, 0], [.int .i64 0, .sl 1 [], .bool false]⟩ := by kernel_rfl
theorem ty162 : tyOf Try.prog 162 = ⟨.sl 4, 1, 24, [.nil], true, [1], [.sl 1 []]⟩ := by kernel_rfl
theorem ty164 : tyOf Try.prog 164 = ⟨.st [(0, 1, false), (1, 1, false)], 2, 16, [.t (.int .i64 0), .t (.bool false)], true, [0, 0], [.int .i64 0, .bool false]⟩ := by kernel_rfl
theorem ty165 : tyOf Try.prog 165 = ⟨.sl 164, 1, 24, [.nil], true, [2], [.sl 2 []]⟩ := by kernel_rfl
theorem ty167 : tyOf Try.prog 167 = ⟨.st [(0, 1, false), (1, 1, false), (2, 1, false), (3, 1, false), (4, 2, true), (6, 1, false), (7, 1, false)], 8, 112, [.nil, .t (.int .i64 0), .nil, .t (.bool false), .t (.int .i64 0), .t (.bool false), .t (.int .i64 0), .nil], true, [1, 0, 1, 0, 0, 0, 0, 2], [.sl 1 [], .int .i64 0, .sl 1 [], .bool false, .int .i64 0, .bool false, .int .i64 0, .sl 2 []]⟩ := by kernel_rfl
theorem ty168 : tyOf Try.prog 168 = ⟨.sl 167, 1, 24, [.nil], true, [8], [.sl 8 []]⟩ := by kernel_rfl
theorem ty169 : tyOf Try.prog 169 = ⟨.sl 237, 1, 24, [.nil], true, [2], [.sl 2 []]⟩ := by kernel_rfl
theorem ty170 : tyOf Try.prog 170 = ⟨.sl 240, 1, 24, [.nil], true, [1], [.sl 1 []]⟩ := by kernel_rfl
theorem ty172 : tyOf Try.prog 172 = ⟨.st [(0, 1, false), (1, 1, false), (2, 1, false), (3, 1, false), (4, 1, false)], 5, 104, [.t (.int .i64 0), .nil, .nil, .nil, .nil], true, [0, 3, 8, 2, 1], [.int .i64 0, .sl 3 [], .sl 8 [], .sl 2 [], .sl 1 []]⟩ := by kernel_rfl
theorem ty178 : tyOf Try.prog 178 = ⟨.st [(0, 1, false), (1, 1, false), (2, 1, false), (3, 1, false), (4, 1, false)], 5, 40, [.t (.int .i64 0), .t (.int .i64 0), .t (.int .i64 0), .t (.int .i64 0), .t (.int .i64 0)], true, [0, 0, 0, 0, 0], [.int .i64 0, .int .i64 0, .int .i64 0, .int .i64 0, .int .i64 0]⟩ := by kernel_rfl
theorem ty202 : tyOf Try.prog 202 = ⟨.sl 245, 1, 24, [.nil], true, [8], [.sl 8 []]⟩ := by kernel_rfl
theorem ty203 : tyOf Try.prog 203 = ⟨.sl 249, 1, 24, [.nil], true, [2], [.sl 2 []]⟩ := by kernel_rfl
theorem ty204 : tyOf Try.prog 204 = ⟨.sl 253, 1, 24, [.nil], true, [1], [.sl 1 []]⟩ := by kernel_rfl
theorem ty206 : tyOf Try.prog 206 = ⟨.st [(0, 1, false), (1, 1, false), (2, 1, false), (3, 1, false), (4, 1, false)], 5, 104, [.t (.int .i64 0), .nil, .nil, .nil, .nil], true, [0, 3, 8, 2, 1], [.int .i64 0, .sl 3 [], .sl 8 [], .sl 2 [], .sl 1 []]⟩ := by kernel_rfl
theorem ty209 : tyOf Try.prog 209 = ⟨.st [(0, 1, false), (1, 1, false), (2, 1, false), (3, 1, false), (4, 4, true)], 8, 80, [.t (.int .i64 0), .t (.int .i64 0), .t (.bool false), .t (.int .i64 0), .t (.int .i64 0), .t (.int .i64 0), .t (.bool false), .nil], true, [0, 0, 0, 0, 0, 0, 0, 1], [.int .i64 0, .int .i64 0, .bool false, .int .i64 0, .int .i64 0, .int .i64 0, .bool false, .sl 1 []]⟩ := by kernel_rfl
theorem ty212 : tyOf Try.prog 212 = ⟨.st [(0, 1, false), (1, 1, false), (2, 1, false), (3, 1, false), (4, 4, true)], 8, 80, [.t (.int .i64 0), .t (.int .i64 0), .t (.bool false), .t (.int .i64 0), .t (.int .i64 0), .t (.int .i64 0), .t (.bool false), .nil], true, [0, 0, 0, 0, 0, 0, 0, 1], [.int .i64 0, .int .i64 0, .bool false, .int .i64 0, .int .i64 0, .int .i64 0, .bool false, .sl 1 []]⟩ := by kernel_rfl
theorem ty235 : tyOf Try.prog 235 = ⟨.sl 86, 1, 24, [.nil], true, [4], [.sl 4 []]⟩ := by kernel_rfl
theorem ty237 : tyOf Try.prog 237 = ⟨.st [(0, 1, false), (1, 1, false)], 2, 32, [.t (.int .i64 0), .nil], true, [0, 4], [.int .i64 0, .sl 4 []]⟩ := by kernel_rfl
theorem ty240 : tyOf Try.prog 240 = ⟨.st [(0, 1, false)], 1, 8, [.t (.int .i64 0)], true, [0], [.int .i64 0]⟩ := by kernel_rfl
theorem ty242 : tyOf Try.prog 242 = ⟨.st [(0, 1, false), (1, 1, false)], 2, 16, [.t (.int .i64 0), .t (.bool false)], true, [0, 0], [.int .i64 0, .bool false]⟩ := by kernel_rfl
theorem ty243 : tyOf Try.prog 243 = ⟨.sl 242, 1, 24, [.nil], true, [2], [.sl 2 []]⟩ := by kernel_rfl
theorem ty245 : tyOf Try.prog 245 = ⟨.st [(0, 1, false), (1, 1, false), (2, 1, false), (3, 1, false), (4, 2, true), (6, 1, false), (7, 1, false)], 8, 112, [.nil, .t (.int .i64 0), .nil, .t (.bool false), .t (.int .i64 0), .t (.bool false), .t (.int .i64 0), .nil], true, [1, 0, 1, 0, 0, 0, 0, 2], [.sl 1 [], .int .i64 0, .sl 1 [], .bool false, .int .i64 0, .bool false, .int .i64 0, .sl 2 []]⟩ := by kernel_rfl
theorem ty247 : tyOf Try.prog 247 = ⟨.sl 79, 1, 24, [.nil], true, [4], [.sl 4 []]⟩ := by kernel_rfl
theorem ty249 : tyOf Try.prog 249 = ⟨.st [(0, 1, false), (1, 1, false)], 2, 32, [.t (.int .i64 0), .nil], true, [0, 4], [.int .i64 0, .sl 4 []]⟩ := by kernel_rfl
theorem ty253 : tyOf Try.prog 253 = ⟨.st [(0, 1, false)], 1, 8, [.t (.int .i64 0)], true, [0], [.int .i64 0]⟩ := by kernel_rfl
end Go.Tw
