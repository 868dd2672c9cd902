/- Part of the proof. -/
import Derived.Test.YtafjkbbiaopemaaGreatDoorBax36
set_option linter.all false
set_option maxRecDepth 100000
set_option maxHeartbeats 0
namespace Go.Proofs.YtafjkbbiaopemaaGreatDoor.Tr
open Go.RowKit
section
section
variable{w w':World}
theorem zap(E:ByteArray):({ data:=#[] } : ByteArray)++E=E:=by apply ByteArray.ext;simp
theorem zhm:bytesOf [] = { data:=#[] }:=rfl
end
end
section
theorem agRfs(w:World):(isAgg 40).run Tryz.prog w=.ok false w:=by kernel_rfl
section
variable{w w':World}
attribute [local go_sem ↓] zfh
end
end
end Go.Proofs.YtafjkbbiaopemaaGreatDoor.Tr
