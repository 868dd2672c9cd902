/- Part of the proof: Frm1. -/
import Derived.Test.YtpgpaenloaphaaaGreatPhx16
set_option maxRecDepth 100000
set_option maxHeartbeats 16000000
namespace Go.Proofs.YtpgpaenloaphaaaGreat
open Go.RowKit
theorem zk4(k i c:UInt8):(((rep 480 (0:UInt8)).set 16 k).set 17 i).set 18 c=(Ch.zeros 16++[k,i,c,0])++rep 8 0++rep 452 0:=rfl
theorem zhx(k i c:UInt8)(b8 b2 d:List UInt8)(h8:b8.length=8)(h2:b2.length=2)(hd:d.length≤450):
 splice (splice (splice ((((rep 480 (0:UInt8)).set 16 k).set 17 i).set 18 c) 20 b8) 28 b2) 30 d=Ch.zeros 16++([k,i,c,0]++(b8++(b2++(d++Ch.zeros (450-d.length))))):=by
 rw[zk4];have e1:=zdp (Ch.zeros 16++[k,i,c,0]) (rep 8 0) b8 (rep 452 0) (by rw[h8];rfl);rw[show(Ch.zeros 16++[k,i,c,0]).length=20 from rfl]at e1;rw[e1];have e2:=zdp ((Ch.zeros 16++[k,i,c,0])++b8) (rep 2 0) b2 (rep 450 0) (by rw[h2];rfl);rw[show((Ch.zeros 16++[k,i,c,0])++b8).length=28 by rw[la9,h8];rfl,show(Ch.zeros 16++[k,i,c,0])++b8++rep 2 0++rep 450 0=(Ch.zeros 16++[k,i,c,0])++b8++rep 452 0 by rw[List.append_assoc,←zls]]at e2;rw[e2];have e3:=zdp (((Ch.zeros 16++[k,i,c,0])++b8)++b2) (rep d.length 0) d (rep (450-d.length) 0) (by rw[zav]);rw[show(((Ch.zeros 16++[k,i,c,0])++b8)++b2).length=30 by rw[la9,la9,h8,h2];rfl,show(Ch.zeros 16++[k,i,c,0])++b8++b2++rep d.length 0++rep (450-d.length) 0=(Ch.zeros 16++[k,i,c,0])++b8++b2++rep 450 0 by rw[List.append_assoc (((Ch.zeros 16++[k,i,c,0])++b8)++b2),←zls,show d.length+(450-d.length)=450 by omega]]at e3;rw[e3];simp only[List.append_assoc]
 rfl
theorem zcl(a b:List UInt8)(o:Nat):splice (u8s a) o (u8s b)=u8s (splice a o b):=by
 unfold splice
 rw[zay,zaa,zbf,←zae,←zae]
end Go.Proofs.YtpgpaenloaphaaaGreat
