/- Walks of functions. -/
import Derived.Test.YtfajbeoajomljaaGreatBaseE
import Derived.Test.YtfajbeoajomljaaGreatProg
import Derived.KernelRfl
set_option linter.unusedSimpArgs false
set_option linter.unusedVariables false
set_option linter.unnecessarySimpa false
set_option maxRecDepth 100000
set_option maxHeartbeats 4000000
namespace Go.Tw
open Go.Proofs
theorem mixed:Tryz.prog.follows .mixedOrders = true:=by kernel_rfl
theorem fk48:fieldKinds Tryz.prog 48 = some [true,true,true,true]:=by kernel_rfl
theorem lK:fieldKinds Tryz.prog 75 = some [true,true,true,true,true]:=by kernel_rfl
theorem fk109:fieldKinds Tryz.prog 109 = some [true,true,true,true]:=by kernel_rfl
theorem fk123:fieldKinds Tryz.prog 123 = some [true,false]:=by kernel_rfl
theorem fk151:fieldKinds Tryz.prog 151 = some [true]:=by kernel_rfl
theorem fw39:fieldsKnown Tryz.prog 39 = true:=by kernel_rfl
theorem fw42:fieldsKnown Tryz.prog 42 = true:=by kernel_rfl
theorem fw48:fieldsKnown Tryz.prog 48 = true:=by kernel_rfl
theorem fw51:fieldsKnown Tryz.prog 51 = true:=by kernel_rfl
theorem fw54:fieldsKnown Tryz.prog 54 = true:=by kernel_rfl
theorem fw60:fieldsKnown Tryz.prog 60 = true:=by kernel_rfl
theorem fw69:fieldsKnown Tryz.prog 69 = true:=by kernel_rfl
theorem fw75:fieldsKnown Tryz.prog 75 = true:=by kernel_rfl
theorem fw79:fieldsKnown Tryz.prog 79 = true:=by kernel_rfl
theorem fw99:fieldsKnown Tryz.prog 99 = true:=by kernel_rfl
theorem fw109:fieldsKnown Tryz.prog 109 = true:=by kernel_rfl
theorem fw123:fieldsKnown Tryz.prog 123 = true:=by kernel_rfl
theorem fw126:fieldsKnown Tryz.prog 126 = true:=by kernel_rfl
theorem fw134:fieldsKnown Tryz.prog 134 = true:=by kernel_rfl
theorem fw151:fieldsKnown Tryz.prog 151 = true:=by kernel_rfl
theorem fw173:fieldsKnown Tryz.prog 173 = true:=by kernel_rfl
theorem fw188:fieldsKnown Tryz.prog 188 = true:=by kernel_rfl
theorem fw269:fieldsKnown Tryz.prog 269 = true:=by kernel_rfl
theorem fw275:fieldsKnown Tryz.prog 275 = true:=by kernel_rfl
theorem fw280:fieldsKnown Tryz.prog 280 = true:=by kernel_rfl
theorem ty2:tyOf Tryz.prog 2 = ⟨.int .i64,1,8,[.t (.int .i64 0)],true,[0],[.int .i64 0]⟩:=by kernel_rfl
theorem ty3:tyOf Tryz.prog 3 = ⟨.int .i64,1,8,[.t (.int .i64 0)],true,[0],[.int .i64 0]⟩:=by kernel_rfl
theorem ty4:tyOf Tryz.prog 4 = ⟨.bool,1,1,[.t (.bool false)],true,[0],[.bool false]⟩:=by kernel_rfl
theorem ty5:tyOf Tryz.prog 5 = ⟨.int .u8,1,1,[.t (.int .u8 0)],true,[0],[.int .u8 0]⟩:=by kernel_rfl
theorem ty9:tyOf Tryz.prog 9 = ⟨.str,1,16,[.t (.str ByteArray.empty)],true,[0],[.str ByteArray.empty]⟩:=by kernel_rfl
theorem ty22:tyOf Tryz.prog 22 = ⟨.sl 3,1,24,[.nil],true,[1],[.sl 1 []]⟩:=by kernel_rfl
theorem ty23:tyOf Tryz.prog 23 = ⟨.sl 109,1,24,[.nil],true,[4],[.sl 4 []]⟩:=by kernel_rfl
theorem ty27:tyOf Tryz.prog 27 = ⟨.sl 48,1,24,[.nil],true,[4],[.sl 4 []]⟩:=by kernel_rfl
theorem ty32:tyOf Tryz.prog 32 = ⟨.sl 5,1,24,[.nil],true,[1],[.sl 1 []]⟩:=by kernel_rfl
theorem ty36:tyOf Tryz.prog 36 = ⟨.sl 60,1,24,[.nil],true,[5],[.sl 5 []]⟩:=by kernel_rfl
theorem ty37:tyOf Tryz.prog 37 = ⟨.sl 173,1,24,[.nil],true,[8],[.sl 8 []]⟩:=by kernel_rfl
theorem ty39:tyOf Tryz.prog 39 = ⟨.st [(0,1,false),(1,1,false),(2,1,false)],3,56,[.t (.int .i64 0),.nil,.nil],true,[0,5,8],[.int .i64 0,.sl 5 [],.sl 8 []]⟩:=by kernel_rfl
theorem ty40:tyOf Tryz.prog 40 = ⟨.sl 54,1,24,[.nil],true,[4],[.sl 4 []]⟩:=by kernel_rfl
theorem ty42:tyOf Tryz.prog 42 = ⟨.st [(0,3,true),(3,1,false)],4,80,[.t (.int .i64 0),.nil,.nil,.nil],true,[0,5,8,4],[.int .i64 0,.sl 5 [],.sl 8 [],.sl 4 []]⟩:=by kernel_rfl
theorem ty48:tyOf Tryz.prog 48 = ⟨.st [(0,1,false),(1,1,false),(2,1,false),(3,1,false)],4,32,[.t (.int .i64 0),.t (.int .i64 0),.t (.int .i64 0),.t (.int .i64 0)],true,[0,0,0,0],[.int .i64 0,.int .i64 0,.int .i64 0,.int .i64 0]⟩:=by kernel_rfl
theorem ty51:tyOf Tryz.prog 51 = ⟨.st [(0,1,false),(1,1,false),(2,1,false)],3,40,[.nil,.t (.int .i64 0),.t (.int .i64 0)],true,[1,0,0],[.sl 1 [],.int .i64 0,.int .i64 0]⟩:=by kernel_rfl
theorem ty52:tyOf Tryz.prog 52 = ⟨.sl 134,1,24,[.nil],true,[2],[.sl 2 []]⟩:=by kernel_rfl
theorem ty54:tyOf Tryz.prog 54 = ⟨.st [(0,3,true),(3,1,false)],4,64,[.nil,.t (.int .i64 0),.t (.int .i64 0),.nil],true,[1,0,0,2],[.sl 1 [],.int .i64 0,.int .i64 0,.sl 2 []]⟩:=by kernel_rfl
theorem ty55:tyOf Tryz.prog 55 = ⟨.sl 79,1,24,[.nil],true,[3],[.sl 3 []]⟩:=by kernel_rfl
theorem ty56:tyOf Tryz.prog 56 = ⟨.sl 126,1,24,[.nil],true,[8],[.sl 8 []]⟩:=by kernel_rfl
theorem ty57:tyOf Tryz.prog 57 = ⟨.sl 99,1,24,[.nil],true,[2],[.sl 2 []]⟩:=by kernel_rfl
theorem ty58:tyOf Tryz.prog 58 = ⟨.sl 151,1,24,[.nil],true,[1],[.sl 1 []]⟩:=by kernel_rfl
theorem ty60:tyOf Tryz.prog 60 = ⟨.st [(0,1,false),(1,1,false),(2,1,false),(3,1,false),(4,1,false)],5,104,[.t (.int .i64 0),.nil,.nil,.nil,.nil],true,[0,3,8,2,1],[.int .i64 0,.sl 3 [],.sl 8 [],.sl 2 [],.sl 1 []]⟩:=by kernel_rfl
theorem ty69:tyOf Tryz.prog 69 = ⟨.st [(0,1,false),(1,1,false),(2,1,false),(3,1,false)],4,48,[.t (.int .i64 0),.t (.int .i64 0),.t (.bool false),.nil],true,[0,0,0,1],[.int .i64 0,.int .i64 0,.bool false,.sl 1 []]⟩:=by kernel_rfl
theorem ty75:tyOf Tryz.prog 75 = ⟨.st [(0,1,false),(1,1,false),(2,1,false),(3,1,false),(4,1,false)],5,40,[.t (.int .i64 0),.t (.int .i64 0),.t (.int .i64 0),.t (.int .i64 0),.t (.int .i64 0)],true,[0,0,0,0,0],[.int .i64 0,.int .i64 0,.int .i64 0,.int .i64 0,.int .i64 0]⟩:=by kernel_rfl
theorem ty79:tyOf Tryz.prog 79 = ⟨.st [(0,1,false),(1,1,false),(2,1,false)],3,40,[.t (.int .i64 0),.nil,.t (.bool false)],true,[0,1,0],[.int .i64 0,.sl 1 [],.bool false]⟩:=by kernel_rfl
theorem ty90:tyOf Tryz.prog 90 = ⟨.sl 51,1,24,[.nil],true,[3],[.sl 3 []]⟩:=by kernel_rfl
theorem ty97:tyOf Tryz.prog 97 = ⟨.sl 69,1,24,[.nil],true,[4],[.sl 4 []]⟩:=by kernel_rfl
theorem ty99:tyOf Tryz.prog 99 = ⟨.st [(0,1,false),(1,1,false)],2,32,[.t (.int .i64 0),.nil],true,[0,4],[.int .i64 0,.sl 4 []]⟩:=by kernel_rfl
theorem ty109:tyOf Tryz.prog 109 = ⟨.st [(0,1,false),(1,1,false),(2,1,false),(3,1,false)],4,32,[.t (.int .i64 0),.t (.int .i64 0),.t (.int .i64 0),.t (.int .i64 0)],true,[0,0,0,0],[.int .i64 0,.int .i64 0,.int .i64 0,.int .i64 0]⟩:=by kernel_rfl
theorem ty121:tyOf Tryz.prog 121 = ⟨.sl 4,1,24,[.nil],true,[1],[.sl 1 []]⟩:=by kernel_rfl
theorem ty123:tyOf Tryz.prog 123 = ⟨.st [(0,1,false),(1,1,false)],2,16,[.t (.int .i64 0),.t (.bool false)],true,[0,0],[.int .i64 0,.bool false]⟩:=by kernel_rfl
theorem ty124:tyOf Tryz.prog 124 = ⟨.sl 123,1,24,[.nil],true,[2],[.sl 2 []]⟩:=by kernel_rfl
theorem ty126:tyOf Tryz.prog 126 = ⟨.st [(0,1,false),(1,1,false),(2,1,false),(3,1,false),(4,2,true),(6,1,false),(7,1,false)],8,112,[.nil,.t (.int .i64 0),.nil,.t (.bool false),.t (.int .i64 0),.t (.bool false),.t (.int .i64 0),.nil],true,[1,0,1,0,0,0,0,2],[.sl 1 [],.int .i64 0,.sl 1 [],.bool false,.int .i64 0,.bool false,.int .i64 0,.sl 2 []]⟩:=by kernel_rfl
theorem ty132:tyOf Tryz.prog 132 = ⟨.sl 75,1,24,[.nil],true,[5],[.sl 5 []]⟩:=by kernel_rfl
theorem ty134:tyOf Tryz.prog 134 = ⟨.st [(0,1,false),(1,1,false)],2,32,[.t (.int .i64 0),.nil],true,[0,5],[.int .i64 0,.sl 5 []]⟩:=by kernel_rfl
theorem ty151:tyOf Tryz.prog 151 = ⟨.st [(0,1,false)],1,8,[.t (.int .i64 0)],true,[0],[.int .i64 0]⟩:=by kernel_rfl
theorem ty173:tyOf Tryz.prog 173 = ⟨.st [(0,1,false),(1,1,false),(2,1,false),(3,1,false),(4,4,true)],8,80,[.t (.int .i64 0),.t (.int .i64 0),.t (.bool false),.t (.int .i64 0),.t (.int .i64 0),.t (.int .i64 0),.t (.bool false),.nil],true,[0,0,0,0,0,0,0,1],[.int .i64 0,.int .i64 0,.bool false,.int .i64 0,.int .i64 0,.int .i64 0,.bool false,.sl 1 []]⟩:=by kernel_rfl
theorem ty188:tyOf Tryz.prog 188 = ⟨.st [(0,1,false),(1,1,false),(2,1,false)],3,40,[.nil,.t (.int .i64 0),.t (.int .i64 0)],true,[1,0,0],[.sl 1 [],.int .i64 0,.int .i64 0]⟩:=by kernel_rfl
theorem ty259:tyOf Tryz.prog 259 = ⟨.int .u64,1,8,[.t (.int .u64 0)],true,[0],[.int .u64 0]⟩:=by kernel_rfl
theorem ty265:tyOf Tryz.prog 265 = ⟨.sl 269,1,24,[.nil],true,[5],[.sl 5 []]⟩:=by kernel_rfl
theorem ty269:tyOf Tryz.prog 269 = ⟨.st [(0,1,false),(1,4,true)],5,56,[.t (.int .i64 0),.t (.int .i64 0),.t (.int .i64 0),.t (.bool false),.nil],true,[0,0,0,0,1],[.int .i64 0,.int .i64 0,.int .i64 0,.bool false,.sl 1 []]⟩:=by kernel_rfl
theorem ty275:tyOf Tryz.prog 275 = ⟨.st [(0,8,true),(8,1,false),(9,1,false)],10,144,[.nil,.t (.int .i64 0),.nil,.t (.bool false),.t (.int .i64 0),.t (.bool false),.t (.int .i64 0),.nil,.t (.int .i64 0),.nil],true,[1,0,1,0,0,0,0,2,0,5],[.sl 1 [],.int .i64 0,.sl 1 [],.bool false,.int .i64 0,.bool false,.int .i64 0,.sl 2 [],.int .i64 0,.sl 5 []]⟩:=by kernel_rfl
theorem ty280:tyOf Tryz.prog 280 = ⟨.st [(0,8,true),(8,1,false),(9,1,false)],10,144,[.nil,.t (.int .i64 0),.nil,.t (.bool false),.t (.int .i64 0),.t (.bool false),.t (.int .i64 0),.nil,.t (.int .i64 0),.nil],true,[1,0,1,0,0,0,0,2,0,5],[.sl 1 [],.int .i64 0,.sl 1 [],.bool false,.int .i64 0,.bool false,.int .i64 0,.sl 2 [],.int .i64 0,.sl 5 []]⟩:=by kernel_rfl
attribute [go_sem] fw39 fw42 fw48 fw51 fw54 fw60 fw69 fw75 fw79 fw99 fw109 fw123 fw126 fw134 fw151 fw173 fw188 fw269 fw275 fw280 ty2 ty3 ty4 ty5 ty9 ty22 ty23 ty27 ty32 ty36 ty37 ty39 ty40 ty42 ty48 ty51 ty52 ty54 ty55 ty56 ty57 ty58 ty60 ty69 ty75 ty79 ty90 ty97 ty99 ty109 ty121 ty123 ty124 ty126 ty132 ty134 ty151 ty173 ty188 ty259 ty265 ty269 ty275 ty280
end Go.Tw
