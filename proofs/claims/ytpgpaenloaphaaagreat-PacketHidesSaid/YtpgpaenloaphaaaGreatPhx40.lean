/- Part of the proof: Rdc. -/
import Derived.Test.YtpgpaenloaphaaaGreatPhx24
import Derived.Test.YtpgpaenloaphaaaGreatPhx37
set_option maxRecDepth 100000
set_option maxHeartbeats 16000000
namespace Go.Proofs.YtpgpaenloaphaaaGreat
open Go.RowKit
section
theorem szU8r(w:World):(sizeOf 5).run Tryz.prog w=.ok 1 w:=by kernel_rfl
attribute [local go_sem ↓] zcg
end
end Go.Proofs.YtpgpaenloaphaaaGreat
