/- Part of the proof. -/
import Derived.Test.YtpgpaenloaphaaaGreatSmx16
set_option maxRecDepth 100000
set_option maxHeartbeats 0
namespace Go.Proofs.YtpgpaenloaphaaaGreat
open Go.RowKit
theorem zfg(a b:List UInt8)(o:Nat):splice (u8s a) o (u8s b)=u8s (splice a o b):=by
 unfold splice
 rw[zaz,zaa,zbd,←zae,←zae]
end Go.Proofs.YtpgpaenloaphaaaGreat
