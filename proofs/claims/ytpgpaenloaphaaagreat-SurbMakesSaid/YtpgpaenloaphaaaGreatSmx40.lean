/- Part of the proof. -/
import Derived.Test.YtpgpaenloaphaaaGreatSmx23
import Derived.Test.YtpgpaenloaphaaaGreatSmx39
set_option maxRecDepth 100000
set_option maxHeartbeats 0
namespace Go.Proofs.YtpgpaenloaphaaaGreat
open Go.RowKit
section
theorem szU8r(w:World):(sizeOf 5).run Tryz.prog w=.ok 1 w:=by kernel_rfl
attribute [local go_sem ↓] zcg
end
end Go.Proofs.YtpgpaenloaphaaaGreat
