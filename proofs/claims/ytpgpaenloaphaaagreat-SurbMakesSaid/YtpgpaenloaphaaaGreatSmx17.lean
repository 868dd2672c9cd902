/- Part of the proof. -/
import Derived.IntWalk
import Derived.Test.YtpgpaenloaphaaaGreatSmx04
import Derived.Test.YtpgpaenloaphaaaGreatSmx10
import Derived.Test.YtpgpaenloaphaaaGreatSmx12
set_option maxRecDepth 100000
set_option maxHeartbeats 0
namespace Go.Proofs.YtpgpaenloaphaaaGreat
open Go.RowKit
theorem zul{b:List UInt8}{i:Nat}(h:i<b.length):b[i]? = some (b.getD i 0):=by
 rw[gd9,ge9 h]
 rfl
theorem Rd.get{w:World}{bb bo n:Nat}{l:List UInt8}(h:Rd w (some ⟨bb,bo,none⟩) n (u8s l)){i:Nat}(hi:i<n):w.cell? ⟨bb,bo+i,none⟩=some (.int .u8 (l.getD i 0).toNat):=by
 obtain⟨b,off,x,e,_,HX,hc⟩:=h.u8 hi
 injection e with e
 injection e with e1 e2
 subst e1;subst e2;rw[hc];have:=HX.out;rw[zul (by rw[h.len];exact hi)]at this
 injection this with this
 rw[this]
end Go.Proofs.YtpgpaenloaphaaaGreat
