/- Part of the proof. -/
import Derived.Test.YtafjkbbiaopemaaGreatDoorBax23
set_option linter.all false
set_option maxRecDepth 100000
set_option maxHeartbeats 0
namespace Go.Proofs.YtafjkbbiaopemaaGreatDoor.Tr
open Go.RowKit
theorem hdSr:(Tryz.prog.info? 26).map (·.size)=some 2:=by kernel_rfl
theorem agSlt(w:World):(isAgg 24).run Tryz.prog w=.ok false w:=by kernel_rfl
theorem szSlt(w:World):(sizeOf 24).run Tryz.prog w=.ok 1 w:=by kernel_rfl
theorem zpn{gp gs:Nat}{A:Option Addr}{n c:Nat}{ts:List Lx.Tok}{s:PS}{w:World}(cx:Cx gp gs A n ts)(h:PSt gp gs A n c ts s w):Calls Tryz.prog 23 #[.pointer (some ⟨gp,0,none⟩),.int .i64 6] w fun e w'=>e=.returned (.bool (kindIs ts 6 s))∧Below w.heap.size w w':=zgn cx h 6
end Go.Proofs.YtafjkbbiaopemaaGreatDoor.Tr
