/- Part of the proof. -/
import Derived.Great.BuildSlice
import Derived.Deep.DeepCutAuto
import Derived.Test.YtadopcjppijgiaaGreatSkp19
set_option linter.all false
set_option maxRecDepth 100000
set_option maxHeartbeats 0
namespace Go.Proofs.YtadopcjppijgiaaGreat
open Go.RowKit
def fadd(a b:Nat):Nat:=(a+b)%pr
def fsub(a b:Nat):Nat:=(a+(pr-b%pr))%pr
def fmul(a b:Nat):Nat:=a*b%pr
theorem zcc(a b:Nat):fadd a b<pr:=zdc _
theorem zb4(a b:Nat):fsub a b<pr:=zdc _
theorem zbd(a b:Nat):fmul a b<pr:=zdc _
theorem sum2(a b:Nat):sumT [a,b] 2%pr=fadd a b:=by simp[sumT,fadd]
theorem prod2(a b:Nat):prodT [a,b] 2%pr=fmul a b:=by simp[prodT,fmul]
structure LS where
 x2:Nat
 z2:Nat
 x3:Nat
 z3:Nat
def LS.swap(s:LS):LS:=⟨s.x3,s.z3,s.x2,s.z2⟩
def LS.a(s:LS):Nat:=fadd s.x2 s.z2
def LS.b(s:LS):Nat:=fsub s.x2 s.z2
def LS.c(s:LS):Nat:=fadd s.x3 s.z3
def LS.d(s:LS):Nat:=fsub s.x3 s.z3
def LS.aa(s:LS):Nat:=fmul s.a s.a
def LS.bb(s:LS):Nat:=fmul s.b s.b
def LS.e(s:LS):Nat:=fsub s.aa s.bb
def LS.da(s:LS):Nat:=fmul s.d s.a
def LS.cb(s:LS):Nat:=fmul s.c s.b
def LS.step(x1:Nat)(s:LS):LS :=
 ⟨fmul s.aa s.bb,fmul s.e (fadd s.aa (fmul 121665 s.e)),fmul (fadd s.da s.cb) (fadd s.da s.cb),fmul x1 (fmul (fsub s.da s.cb) (fsub s.da s.cb))⟩
def LS.turn(b:Bool)(s:LS):LS:=if b then s.swap else s
def LS.round(x1:Nat)(b:Bool)(s:LS):LS:=((s.turn b).step x1).turn b
def kbit(n:List UInt8)(t:Nat):Bool:=(n.getD (t/8) 0).toNat/2^(t%8)%2 == 1
def LS.start(x1:Nat):LS:=⟨1,0,x1,1⟩
def ladT(x1:Nat)(f:Nat→Bool):Nat→LS
 | 0=>LS.start x1
 | k+1=>(ladT x1 f k).round x1 (f (254-k))
def LS.Ok(s:LS):Prop:=s.x2<pr∧s.z2<pr∧s.x3<pr∧s.z3<pr
theorem LS.Ok.swap{s:LS}(h:s.Ok):s.swap.Ok:=⟨h.2.2.1,h.2.2.2,h.1,h.2.1⟩
theorem LS.Ok.turn{s:LS}(h:s.Ok)(b:Bool):(s.turn b).Ok:=by
 cases b
 · exact h
 · exact h.swap
theorem LS.step_ok(x1:Nat)(s:LS):(s.step x1).Ok:=⟨zbd _ _,zbd _ _,zbd _ _,zbd _ _⟩
theorem zkb(x1:Nat)(hx:x1<pr)(f:Nat→Bool)(k:Nat):(ladT x1 f k).Ok:=by
 cases k with
 | zero=>exact⟨by simp[ladT,LS.start,pr],by simp[ladT,LS.start,pr],hx,by simp[ladT,LS.start,pr]⟩
 | succ k=>exact(LS.step_ok _ _).turn _
def clampB(k:List UInt8):List UInt8:=(k.set 0 (k.getD 0 0 &&& 248)).set 31 (k.getD 31 0 &&& 127 ||| 64)
def readN(u:List UInt8):Nat:=leN u%57896044618658097711785492504343953926634992332820282019728792003956564819968%pr
noncomputable def multN(k u:List UInt8):Nat:=let s:=ladT (readN u) (kbit (clampB k)) 255;fmul s.x2 (s.z2^pE%pr)
section
theorem zj7(us:List UInt8)(i:Nat)(hi:i<us.length):leN (us.take (i+1))=leN (us.take i)+(us.getD i 0).toNat*256^i:=by
 have h:=zbp 256 (us.map (·.toNat)) i (by simpa using hi);simp only[leN,List.map_take];rw[h]
 congr 2
 simp only[List.getD_eq_getElem?_getD,List.getElem?_map,ge9 hi]
 rfl
theorem zi6(us:List UInt8):leN us<256^us.length:=by
 have h:=zfv 256 (us.map (·.toNat)) (by intro x hx;obtain⟨c,_,rfl⟩:=List.mem_map.1 hx;exact c.toNat_lt);rw[List.length_map]at h;exact h
theorem l4c{a b c d a' b' c' d':Nat}(h0:a=a')(h1:b=b')(h2:c=c')(h3:d=d'):l4 a b c d=l4 a' b' c' d':=by subst h0;subst h1;subst h2;subst h3;rfl
theorem zzf(V m c q:Nat)(hq:q<4)(hV:V<18446744073709551616^q*c)(hm:m+c≤18446744073709551616):
 (elc V).set q (.int .u64 ((limb V q+m:Nat):Int))=elc (V+18446744073709551616^q*m):=by
 rcases q with _|_|_|_|q
 · simp only[limb,Nat.pow_zero,Nat.one_mul,Nat.div_one]at *
   refine l4c ?_ ?_ ?_ ?_ <;> omega
 · simp only[limb,Nat.zero_add,Nat.reducePow]at *
   refine l4c ?_ ?_ ?_ ?_ <;> omega
 · simp only[limb,Nat.zero_add,Nat.reducePow,Nat.reduceAdd]at *
   refine l4c ?_ ?_ ?_ ?_ <;> omega
 · simp only[limb,Nat.zero_add,Nat.reducePow,Nat.reduceAdd]at *
   refine l4c ?_ ?_ ?_ ?_ <;> omega
 · omega
theorem zze(V:Nat):(elc V).set 3 (.int .u64 ((limb V 3%9223372036854775808:Nat):Int))=elc (V%57896044618658097711785492504343953926634992332820282019728792003956564819968):=by
 simp only[limb,Nat.reducePow];refine l4c ?_ ?_ ?_ ?_ <;> omega
theorem or_low(L x s:Nat)(hL:L<2^s)(hx:x<256)(hs:s≤56):bits .or .u64 (L:Int) ((x*2^s:Nat):Int)=((L+x*2^s:Nat):Int):=by
 have h1:2^s≤2^56:=Nat.pow_le_pow_right om hs;have h2:x*2^s≤255*2^s:=Nat.mul_le_mul_right _ om;rw[show(2:Nat)^56=72057594037927936 by rfl]at h1;rw[bits_or_u64_nat _ _ om om,Nat.or_comm,Nat.mul_comm x,←Nat.two_pow_add_eq_or_of_lt hL,Nat.add_comm]
attribute [local go_sem ↓] zc3
theorem zrq(A:Option Addr)(n c:Nat)(us:List UInt8)(w:World)(h:Rd w A n (u8s us))(hn:n=32):
 Calls Tryz.prog 72 #[.slice A n c] w fun e w'=>e=.returned (.tuple #[.agg (elc (readN us)).toArray,.int .i64 0])∧Below w.heap.size w w':=by
 have HR:=qh h;have HL:=qh h.len
 have G:Hid (Blk ((w.alloc (.cells (l4 0 0 0 0).toArray 146)).alloc (.cells (l4 0 0 0 0).toArray 146)) w.heap.size 146 (l4 0 0 0 0)∧Blk ((w.alloc (.cells (l4 0 0 0 0).toArray 146)).alloc (.cells (l4 0 0 0 0).toArray 146)) (w.heap.size+1) 146 (elc 0)∧Below w.heap.size w ((w.alloc (.cells (l4 0 0 0 0).toArray 146)).alloc (.cells (l4 0 0 0 0).toArray 146))) :=
  ⟨(Blk.new w _ _).alloc _,Blk.new' sy rfl,((Below.refl _ w).alloc lr _).alloc sy _⟩
 have d4:(n:Int)=32:=om;clear h
 go_enter Tryz.func72, Tryz.ntmps72
 go_wp2
 go_loopg [13] 32 (fun kk q wr=>∃i:Nat,kk=32-i∧q=.int .i64 (i:Int)∧i≤32∧Blk wr w.heap.size 146 (l4 0 0 0 0)∧Blk wr (w.heap.size+1) 146 (elc (leN (us.take i)))∧Below w.heap.size w wr)
 case atStart=>exact⟨0,rfl,rfl,by omega,G.o.1,by rw[List.take_zero];exact G.o.2.1,G.o.2.2⟩
 case round =>
  clear G;obtain⟨i,U,rfl,hi,hZ,hS,hE⟩:=hrel
  rcases Nat.lt_or_ge i 32 with b2|d0
  · have a9:(i:Int)<32:=om
    have M:i<us.length:=by rw[HL.o,hn];exact b2
    obtain⟨b,b5,x,rfl,a5,a4,a2⟩:=HR.o.u8 (k:=i) om;have b1:wr.cell? ⟨b,b5+i,none⟩=some (.int .u8 ((x.toNat:Nat):Int)):=(hE.cell a5).trans a2;obtain⟨q,hq⟩:=ex9 (i/8);obtain⟨r,hr⟩:=ex9 (i%8);obtain⟨s,hs⟩:=ex9 (8*r);obtain⟨V,hV⟩:=ex9 (leN (us.take i));rw[←hV]at hS;obtain⟨L,hL⟩:=ex9 (limb V q)
    have E:V<18446744073709551616^q*2^s:=by
     have h1:=zi6 (us.take i);rw[List.length_take,Nat.min_eq_left (Nat.le_of_lt M),←hV]at h1
     have h2:(256:Nat)^i=18446744073709551616^q*2^s:=by
      rw[hq,hs,hr,show(256:Nat)=2^8 by rfl,show(18446744073709551616:Nat)=2^64 by rfl,←Nat.pow_mul,←Nat.pow_mul,←Nat.pow_add]
      congr 1
      omega
     rw[←h2];exact h1
    have a3:L<2^s:=by
     rw[hL,limb];exact Nat.lt_of_le_of_lt (Nat.mod_le _ _) (Nat.div_lt_of_lt_mul E)
    have a7:=x.toNat_lt;have D:s≤56:=om;have cl:wr.cell? ⟨w.heap.size+1,q,none⟩=some (.int .u64 (L:Int)):=(hS.cell q).trans (hL ▸ zkj V q om);have ff:wr.frozen? ⟨w.heap.size+1,q,none⟩=false:=hS.frozen q;have d3:(i:Int)/8=(q:Int):=om;have c5:(i:Int)%8=(r:Int):=om;have c1:(8:Int)*(r:Int)=(s:Int):=om;have c4:(q:Int)<4:=om;have c6:(r:Int)<8:=om;have c0:(s:Int)<64:=om;obtain⟨X,hX⟩:=ex9 (x.toNat);rw[←hX]at b1 a7;obtain⟨m,hm⟩:=ex9 (X*2^s);have c9:(X:Int)*2^s=(m:Int):=by rw[hm];push_cast;rfl
    have c7:bits .or .u64 (L:Int) (m:Int)=((L+m:Nat):Int):=by rw[hm];exact or_low L X s a3 a7 D
    have Y:Hid (leN (us.take (i+1))=V+18446744073709551616^q*m):=by
     show _=_
     have h2:(256:Nat)^i=18446744073709551616^q*2^s:=by
      rw[hq,hs,hr,show(256:Nat)=2^8 by rfl,show(18446744073709551616:Nat)=2^64 by rfl,←Nat.pow_mul,←Nat.pow_mul,←Nat.pow_add]
      congr 1
      omega
     rw[zj7 us i M,←hV,gd9,a4,h2,hm,hX,Nat.mul_left_comm]
     rfl
    have I:Hid ((elc V).set q (.int .u64 ((L+m:Nat):Int))=elc (V+18446744073709551616^q*m)):=by
     show _=_
     rw[hL];refine zzf V m (2^s) q om E ?_;have h1:2^s≤2^56:=Nat.pow_le_pow_right om D;have h2:X*2^s≤255*2^s:=Nat.mul_le_mul_right _ om;rw[show(2:Nat)^56=72057594037927936 by rfl]at h1;omega
    have c8:m<18446744073709551616:=by
     have h1:2^s≤2^56:=Nat.pow_le_pow_right om D;have h2:X*2^s≤255*2^s:=Nat.mul_le_mul_right _ om;rw[show(2:Nat)^56=72057594037927936 by rfl]at h1;omega
    have b3:=qh U;have HZ:=qh (hZ.far (p:=⟨w.heap.size+1,q,none⟩) sy (.int .u64 ((L+m:Nat):Int)))
    have HS:Hid (Blk (wr.setCell ⟨w.heap.size+1,q,none⟩ (.int .u64 ((L+m:Nat):Int))) (w.heap.size+1) 146 (elc (leN (us.take (i+1))))):=by
     rw[Y.o,←I.o];exact hS.set_ q _
    have HE:=qh (hE.setCell (p:=⟨w.heap.size+1,q,none⟩) (Nat.le_succ _) (.int .u64 ((L+m:Nat):Int)));have c2:(X:Int)%18446744073709551616=(X:Int):=om;clear hZ hS hE U hm hL hs hr hq hX a2 a4 hV E a3 Y I M a5;go_wp2;go_roundg (32-(i+1))
    case measure=>have:=b3.o;omega
    case rel=>exact⟨i+1,rfl,by go_num,by omega,HZ.o,HS.o,HE.o⟩
  · obtain rfl:i=32:=om
    have a9:¬((32:Nat):Int)<32:=om;rw[tk (by rw[HL.o,hn];exact lr)]at hS;obtain⟨V,hV⟩:=ex9 (leN us);rw[←hV]at hS
    have E:V<115792089237316195423570985008687907853269984665640564039457584007913129639936:=by
     have:=zi6 us;rw[HL.o,hn,←hV]at this;exact this
    obtain⟨L,hL⟩:=ex9 (limb V 3);have a1:L<18446744073709551616:=by rw[hL];exact Nat.mod_lt _ om
    have cl:wr.cell? ⟨w.heap.size+1,3,none⟩=some (.int .u64 (L:Int)):=(hS.cell 3).trans (hL ▸ zkj V 3 om);have ff:wr.frozen? ⟨w.heap.size+1,3,none⟩=false:=hS.frozen 3;have b9:=and63 L a1;have HS:=hS.set_ 3 (.int .u64 ((L:Int)%9223372036854775808));rw[show(elc V).set 3 (.int .u64 ((L:Int)%9223372036854775808))=elc (V%57896044618658097711785492504343953926634992332820282019728792003956564819968) by rw[show(L:Int)%9223372036854775808=((L%9223372036854775808:Nat):Int) by omega,hL];exact zze V]at HS;have HS:=qh HS;have HZ:=qh (hZ.far (p:=⟨w.heap.size+1,3,none⟩) sy (.int .u64 ((L:Int)%9223372036854775808)));have HE:=qh (hE.setCell (p:=⟨w.heap.size+1,3,none⟩) (Nat.le_succ _) (.int .u64 ((L:Int)%9223372036854775808)));have c3:=zbj HS.o;have HN:=qh (fun W=>zj2 (V%57896044618658097711785492504343953926634992332820282019728792003956564819968) om W);have HV:=qh hV;clear hZ hS hE U hL hV E
    go_wp2_with (first
     | ((with_reducible refine(HN.o _).mono ?_);rintro e w4 ⟨rfl,J⟩;have b4:=qbl HZ J;have a6:=qtr HE J;clear J)
     | (refine zab rfl 146 (.tmp 2) (.tmp 37) rfl w.heap.size (elc (V%57896044618658097711785492504343953926634992332820282019728792003956564819968%pr)) rr rr 146 _ b4.o (by exact hdEl) (za3 _) rfl ?_;intro w5 a8 a0;have b7:=qh a8;have b6:=qh (a0.below a6.o lr a6.o.size);clear a8 a0))
    exact bodyPost_ret (zak rfl _ _ _ _ rfl b7.o _ Tryz.underlying146 rfl (by exact hdEl)) rfl ⟨by rw[readN,HV.o];rfl,b6.o⟩
end
section
section
variable{F:Type}[Lean.Grind.CommRing F]
structure EdK(d i:F)(iv:F→F):Prop where
 one:(1:F)≠0
 two:(2:F)≠0
 dom:∀a b:F,a*b=0→a=0∨b=0
 inv:∀a:F,a≠0→a*iv a=1
 sq:i*i=-1
 non:∀s:F,s*s≠d
variable{d i:F}{iv:F→F}
theorem EdK.ne(K:EdK d i iv){a b:F}(ha:a≠0)(hb:b≠0):a*b≠0:=fun h=>(K.dom a b h).elim ha hb
theorem EdK.cancel(K:EdK d i iv){a b c:F}(ha:a≠0)(h:b*a=c*a):b=c:=by
 have h1:(b-c)*a=0:=by grind
 rcases K.dom _ _ h1 with h2|h2
 · grind
 · exact absurd h2 ha
def OnC(d x y:F):Prop:=d*x*x*y*y+1+x*x-y*y=0
theorem EdK.full(K:EdK d i iv){x1 y1 x2 y2 e:F}(h1:OnC d x1 y1)(h2:OnC d x2 y2)(he:e=d*(x1*x2*y1*y2))(hs:e*e=1):False:=by
 unfold OnC at h1 h2
 have hi:=K.sq
 have k1:(i*x1+e*y1)*(i*x1+e*y1)=d*((x1*y1*(i*x2+y2))*(x1*y1*(i*x2+y2))):=by
  have a1:(i*x1+e*y1)*(i*x1+e*y1)=(i*i)*(x1*x1)+(e*e)*(y1*y1)+2*i*e*(x1*y1):=by grind
  have a2:d*((x1*y1*(i*x2+y2))*(x1*y1*(i*x2+y2)))=d*x1*x1*y1*y1*((i*i)*(x2*x2)+y2*y2)+2*i*(x1*y1)*(d*(x1*x2*y1*y2)):=by grind
  have a3:d*x1*x1*y1*y1*(-1*(x2*x2)+y2*y2)=d*x1*x1*y1*y1+e*e:=by rw[he];grind
  rw[a1,a2,←he,hi,hs,a3,hs]
  grind
 have k2:(i*x1-e*y1)*(i*x1-e*y1)=d*((x1*y1*(i*x2-y2))*(x1*y1*(i*x2-y2))):=by
  have a1:(i*x1-e*y1)*(i*x1-e*y1)=(i*i)*(x1*x1)+(e*e)*(y1*y1)-2*i*e*(x1*y1):=by grind
  have a2:d*((x1*y1*(i*x2-y2))*(x1*y1*(i*x2-y2)))=d*x1*x1*y1*y1*((i*i)*(x2*x2)+y2*y2)-2*i*(x1*y1)*(d*(x1*x2*y1*y2)):=by grind
  have a3:d*x1*x1*y1*y1*(-1*(x2*x2)+y2*y2)=d*x1*x1*y1*y1+e*e:=by rw[he];grind
  rw[a1,a2,←he,hi,hs,a3,hs]
  grind
 have no:∀A W:F,A*A=d*(W*W)→W=0:=by
  intro A W h
  by_cases hw:W=0
  · exact hw
  · exfalso
    have hv:=K.inv W hw;refine K.non (A*iv W) ?_
    have:A*iv W*(A*iv W)=d*((W*iv W)*(W*iv W)):=by
     have:A*iv W*(A*iv W)=(A*A)*(iv W*iv W):=by grind
     rw[this,h];grind
    rw[this,hv];grind
 have w1:=no _ _ k1;have w2:=no _ _ k2
 have w3:2*i*e=0:=by
  have:2*i*e=d*y2*(x1*y1*(i*x2+y2)+x1*y1*(i*x2-y2)):=by rw[he];grind
  rw[this,w1,w2];grind
 have w4:(2:F)=0:=by
  have:(2:F)=-(2*i*e)*(i*e):=by
   have : -(2*i*e)*(i*e)=-2*((i*i)*(e*e)):=by grind
   rw[this,hi,hs];grind
  rw[this,w3];grind
 exact K.two w4
theorem EdK.den(K:EdK d i iv){x1 y1 x2 y2:F}(h1:OnC d x1 y1)(h2:OnC d x2 y2):1+d*(x1*x2*y1*y2)≠0∧1-d*(x1*x2*y1*y2)≠0:=by
 constructor
 · intro h
   have e:d*(x1*x2*y1*y2)=-1:=by grind
   exact K.full h1 h2 rfl (by rw[e];grind)
 · intro h
   have e:d*(x1*x2*y1*y2)=1:=by grind
   exact K.full h1 h2 rfl (by rw[e];grind)
structure Pt(d:F) where
 x:F
 y:F
 on:OnC d x y
theorem Pt.eq_of{P Q:Pt d}(hx:P.x=Q.x)(hy:P.y=Q.y):P=Q:=by
 cases P;cases Q;cases hx;cases hy;rfl
def Pt.O:Pt d:=⟨0,1,by unfold OnC;grind⟩
theorem EdK.closed(K:EdK d i iv){x1 y1 x2 y2 X Y:F}(h1:OnC d x1 y1)(h2:OnC d x2 y2)(hX:X*(1+d*(x1*x2*y1*y2))=x1*y2+y1*x2)(hY:Y*(1-d*(x1*x2*y1*y2))=y1*y2+x1*x2):OnC d X Y:=by
 obtain⟨n1,n2⟩:=K.den h1 h2;have h:=id_c x1 y1 x2 y2 d h1 h2;rw[←hX,←hY]at h;generalize 1+d*(x1*x2*y1*y2)=a at h n1;generalize 1-d*(x1*x2*y1*y2)=b at h n2
 unfold OnC
 have h3:(d*X*X*Y*Y+1+X*X-Y*Y)*(a*a*(b*b))=0:=by grind
 rcases K.dom _ _ h3 with h4|h4
 · exact h4
 · exact absurd h4 (K.ne (K.ne n1 n1) (K.ne n2 n2))
def addX(d:F)(iv:F→F)(x1 y1 x2 y2:F):F:=(x1*y2+y1*x2)*iv (1+d*(x1*x2*y1*y2))
def addY(d:F)(iv:F→F)(x1 y1 x2 y2:F):F:=(y1*y2+x1*x2)*iv (1-d*(x1*x2*y1*y2))
theorem EdK.addX_eq(K:EdK d i iv){x1 y1 x2 y2:F}(h1:OnC d x1 y1)(h2:OnC d x2 y2):addX d iv x1 y1 x2 y2*(1+d*(x1*x2*y1*y2))=x1*y2+y1*x2:=by
 have h:=K.inv _ (K.den h1 h2).1
 unfold addX
 generalize iv (1+d*(x1*x2*y1*y2))=v at h;generalize 1+d*(x1*x2*y1*y2)=a at h
 grind
theorem EdK.addY_eq(K:EdK d i iv){x1 y1 x2 y2:F}(h1:OnC d x1 y1)(h2:OnC d x2 y2):addY d iv x1 y1 x2 y2*(1-d*(x1*x2*y1*y2))=y1*y2+x1*x2:=by
 have h:=K.inv _ (K.den h1 h2).2
 unfold addY
 generalize iv (1-d*(x1*x2*y1*y2))=v at h;generalize 1-d*(x1*x2*y1*y2)=a at h
 grind
def Pt.add(K:EdK d i iv)(P Q:Pt d):Pt d:=⟨addX d iv P.x P.y Q.x Q.y,addY d iv P.x P.y Q.x Q.y,K.closed P.on Q.on (K.addX_eq P.on Q.on) (K.addY_eq P.on Q.on)⟩
theorem Pt.add_x(K:EdK d i iv)(P Q:Pt d):(P.add K Q).x*(1+d*(P.x*Q.x*P.y*Q.y))=P.x*Q.y+P.y*Q.x:=K.addX_eq P.on Q.on
theorem Pt.add_y(K:EdK d i iv)(P Q:Pt d):(P.add K Q).y*(1-d*(P.x*Q.x*P.y*Q.y))=P.y*Q.y+P.x*Q.x:=K.addY_eq P.on Q.on
theorem Pt.add_comm(K:EdK d i iv)(P Q:Pt d):P.add K Q=Q.add K P:=by
 refine Pt.eq_of (K.cancel (K.den P.on Q.on).1 ?_) (K.cancel (K.den P.on Q.on).2 ?_)
 · rw[Pt.add_x,show 1+d*(P.x*Q.x*P.y*Q.y)=1+d*(Q.x*P.x*Q.y*P.y) by grind,Pt.add_x];grind
 · rw[Pt.add_y,show 1-d*(P.x*Q.x*P.y*Q.y)=1-d*(Q.x*P.x*Q.y*P.y) by grind,Pt.add_y];grind
theorem Pt.add_O(K:EdK d i iv)(P:Pt d):P.add K Pt.O=P:=by
 refine Pt.eq_of (K.cancel (K.den P.on Pt.O.on).1 ?_) (K.cancel (K.den P.on Pt.O.on).2 ?_)
 · rw[Pt.add_x];simp only[Pt.O];grind
 · rw[Pt.add_y];simp only[Pt.O];grind
theorem Pt.O_add(K:EdK d i iv)(P:Pt d):Pt.O.add K P=P:=by rw[Pt.add_comm,Pt.add_O]
def Pt.neg(P:Pt d):Pt d:=⟨0-P.x,P.y,by have:=P.on;unfold OnC at this ⊢;grind⟩
theorem Pt.add_neg(K:EdK d i iv)(P:Pt d):P.add K P.neg=Pt.O:=by
 have h:=P.on
 unfold OnC at h
 refine Pt.eq_of (K.cancel (K.den P.on P.neg.on).1 ?_) (K.cancel (K.den P.on P.neg.on).2 ?_)
 · rw[Pt.add_x];simp only[Pt.O,Pt.neg];grind
 · rw[Pt.add_y];simp only[Pt.O,Pt.neg];grind
theorem zwy{L R D E u v:F}(h:L*D*u*(E*v)=R*E*v*(D*u)):L*(D*E*u*v)=R*(D*E*u*v):=by grind
theorem EdK.assocX(K:EdK d i iv){x1 y1 x2 y2 x3 y3 X Y X' Y' L R:F}(h1:OnC d x1 y1)(h2:OnC d x2 y2)(h3:OnC d x3 y3)
 (hX:X*(1+d*(x1*x2*y1*y2))=x1*y2+y1*x2) (hY:Y*(1-d*(x1*x2*y1*y2))=y1*y2+x1*x2)
 (hX':X'*(1+d*(x2*x3*y2*y3))=x2*y3+y2*x3) (hY':Y'*(1-d*(x2*x3*y2*y3))=y2*y3+x2*x3)
 (hL:L*(1+d*(X*x3*Y*y3))=X*y3+Y*x3) (hR:R*(1+d*(x1*X'*y1*Y'))=x1*Y'+y1*X'):L=R:=by
 obtain⟨n1,n2⟩:=K.den h1 h2;obtain⟨n3,n4⟩:=K.den h2 h3;have n5:=(K.den (K.closed h1 h2 hX hY) h3).1;have n6:=(K.den h1 (K.closed h2 h3 hX' hY')).1;have h:=id_x x1 y1 x2 y2 x3 y3 d h1 h2 h3;rw[←hX,←hY,←hX',←hY']at h;generalize 1+d*(x1*x2*y1*y2)=a at *;generalize 1-d*(x1*x2*y1*y2)=b at *;generalize 1+d*(x2*x3*y2*y3)=a' at *;generalize 1-d*(x2*x3*y2*y3)=b' at *;have e1:(X*a*b*y3+Y*b*a*x3)=L*(1+d*(X*x3*Y*y3))*(a*b):=by rw[hL];grind
 have e2:(x1*(Y'*b')*a'+y1*(X'*a')*b')=R*(1+d*(x1*X'*y1*Y'))*(a'*b'):=by rw[hR];grind
 have e3:a'*b'+d*x1*y1*(X'*a')*(Y'*b')=(1+d*(x1*X'*y1*Y'))*(a'*b'):=by grind
 have e4:a*b+d*x3*y3*(X*a)*(Y*b)=(1+d*(X*x3*Y*y3))*(a*b):=by grind
 rw[e1,e2,e3,e4]at h;generalize 1+d*(X*x3*Y*y3)=D at *;generalize 1+d*(x1*X'*y1*Y')=E at *;refine K.cancel (a:=D*E*(a*b)*(a'*b')) (K.ne (K.ne (K.ne n5 n6) (K.ne n1 n2)) (K.ne n3 n4)) (zwy h)
theorem EdK.assocY(K:EdK d i iv){x1 y1 x2 y2 x3 y3 X Y X' Y' L R:F}(h1:OnC d x1 y1)(h2:OnC d x2 y2)(h3:OnC d x3 y3)
 (hX:X*(1+d*(x1*x2*y1*y2))=x1*y2+y1*x2) (hY:Y*(1-d*(x1*x2*y1*y2))=y1*y2+x1*x2)
 (hX':X'*(1+d*(x2*x3*y2*y3))=x2*y3+y2*x3) (hY':Y'*(1-d*(x2*x3*y2*y3))=y2*y3+x2*x3)
 (hL:L*(1-d*(X*x3*Y*y3))=Y*y3+X*x3) (hR:R*(1-d*(x1*X'*y1*Y'))=y1*Y'+x1*X'):L=R:=by
 obtain⟨n1,n2⟩:=K.den h1 h2;obtain⟨n3,n4⟩:=K.den h2 h3;have n5:=(K.den (K.closed h1 h2 hX hY) h3).2;have n6:=(K.den h1 (K.closed h2 h3 hX' hY')).2;have h:=id_y x1 y1 x2 y2 x3 y3 d h1 h2 h3;rw[←hX,←hY,←hX',←hY']at h;generalize 1+d*(x1*x2*y1*y2)=a at *;generalize 1-d*(x1*x2*y1*y2)=b at *;generalize 1+d*(x2*x3*y2*y3)=a' at *;generalize 1-d*(x2*x3*y2*y3)=b' at *;have e1:(Y*b*a*y3+X*a*b*x3)=L*(1-d*(X*x3*Y*y3))*(a*b):=by rw[hL];grind
 have e2:(y1*(Y'*b')*a'+x1*(X'*a')*b')=R*(1-d*(x1*X'*y1*Y'))*(a'*b'):=by rw[hR];grind
 have e3:a'*b'-d*x1*y1*(X'*a')*(Y'*b')=(1-d*(x1*X'*y1*Y'))*(a'*b'):=by grind
 have e4:a*b-d*x3*y3*(X*a)*(Y*b)=(1-d*(X*x3*Y*y3))*(a*b):=by grind
 rw[e1,e2,e3,e4]at h;generalize 1-d*(X*x3*Y*y3)=D at *;generalize 1-d*(x1*X'*y1*Y')=E at *;refine K.cancel (a:=D*E*(a*b)*(a'*b')) (K.ne (K.ne (K.ne n5 n6) (K.ne n1 n2)) (K.ne n3 n4)) (zwy h)
theorem Pt.assoc(K:EdK d i iv)(P Q R:Pt d):(P.add K Q).add K R=P.add K (Q.add K R) :=
 Pt.eq_of (K.assocX P.on Q.on R.on (Pt.add_x K P Q) (Pt.add_y K P Q) (Pt.add_x K Q R) (Pt.add_y K Q R) (Pt.add_x K (P.add K Q) R) (Pt.add_x K P (Q.add K R)))
   (K.assocY P.on Q.on R.on (Pt.add_x K P Q) (Pt.add_y K P Q) (Pt.add_x K Q R) (Pt.add_y K Q R) (Pt.add_y K (P.add K Q) R) (Pt.add_y K P (Q.add K R)))
def Pt.mul(K:EdK d i iv)(P:Pt d):Nat→Pt d
 | 0=>Pt.O
 | n+1=>(Pt.mul K P n).add K P
theorem Pt.mul_one(K:EdK d i iv)(P:Pt d):P.mul K 1=P:=Pt.O_add K P
theorem Pt.mul_add(K:EdK d i iv)(P:Pt d)(m:Nat):∀n,P.mul K (m+n)=(P.mul K m).add K (P.mul K n)
 | 0=>(Pt.add_O K _).symm
 | n+1=>by
  show(P.mul K (m+n)).add K P=_
  rw[Pt.mul_add K P m n,Pt.assoc];rfl
theorem Pt.mul_mul(K:EdK d i iv)(P:Pt d)(m:Nat):∀n,P.mul K (m*n)=(P.mul K m).mul K n
 | 0=>rfl
 | n+1=>by
  rw[Nat.mul_succ,Pt.mul_add,Pt.mul_mul K P m n];rfl
theorem Pt.mul_O(K:EdK d i iv):∀n,(Pt.O (d:=d)).mul K n=Pt.O
 | 0=>rfl
 | n+1=>by
  show((Pt.O (d:=d)).mul K n).add K Pt.O=_
  rw[Pt.mul_O K n,Pt.add_O]
end
end
section
section
variable{F:Type}[Lean.Grind.CommRing F]{d i:F}{iv:F→F}
def Rep(Q:Pt d)(x z:F):Prop:=∃l:F,l≠0∧x=l*(1+Q.y)∧z=l*(1-Q.y)
theorem EdK.one_d(K:EdK d i iv):1+d≠0:=fun h=>K.non i (by rw[K.sq];grind)
theorem EdK.dyy(K:EdK d i iv)(y:F):1+d*(y*y)≠0:=by
 intro h
 by_cases hy:y=0
 · rw[hy]at h
   exact K.one (by grind)
 · have hv:=K.inv y hy
   refine K.non (i*iv y) ?_;have e:d=d*((y*iv y)*(y*iv y)):=by rw[hv];grind
   have e2:d*((y*iv y)*(y*iv y))=(d*(y*y))*(iv y*iv y):=by grind
   have e3:i*iv y*(i*iv y)=(i*i)*(iv y*iv y):=by grind
   have e4:d*(y*y)=-1:=by grind
   rw[e3,K.sq,e,e2,e4]
theorem EdK.sq0(K:EdK d i iv){a:F}(h:a*a=0):a=0:=(K.dom a a h).elim id id
theorem EdK.four(K:EdK d i iv):(4:F)≠0:=by
 have:=K.ne K.two K.two;intro h;exact this ((by grind:(2:F)*2=4).trans h)
theorem EdK.eight(K:EdK d i iv):(8:F)≠0:=by
 have:=K.ne K.two K.four;intro h;exact this ((by grind:(2:F)*4=8).trans h)
theorem EdK.sixteen(K:EdK d i iv):(16:F)≠0:=by
 have:=K.ne K.four K.four;intro h;exact this ((by grind:(4:F)*4=16).trans h)
theorem cv1{d u y:F}(h:d*u*u*y*y+1+u*u-y*y=0):1-d*(u*u*y*y)+(y*y+u*u)=2+2*(u*u):=by grind
theorem cv2{d u y:F}(h:d*u*u*y*y+1+u*u-y*y=0):1-d*(u*u*y*y)-(y*y+u*u)=0-2*(u*u)*(1+d*(y*y)):=by grind
theorem cv4{d u y:F}(h:d*u*u*y*y+1+u*u-y*y=0):1-y*y=0-u*u*(1+d*(y*y)):=by grind
theorem cv3{d u y:F}(h:d*u*u*y*y+1+u*u-y*y=0):(1+d*(y*y))*(1+u*u)=(1+d)*(y*y):=by grind
theorem dbl_x{l x y Y c g:F}(e1:c*(1+Y)=2+2*(x*x))(e3:121666*g*(1+x*x)=y*y):
 (l*(1+y)+l*(1-y))*(l*(1+y)+l*(1-y))*((l*(1+y)-l*(1-y))*(l*(1+y)-l*(1-y)))=8*(l*l*(l*l))*(121666*g)*c*(1+Y):=by
 have h1:(l*(1+y)+l*(1-y))*(l*(1+y)+l*(1-y))*((l*(1+y)-l*(1-y))*(l*(1+y)-l*(1-y)))=16*(l*l*(l*l))*(y*y):=by grind
 have h2:8*(l*l*(l*l))*(121666*g)*c*(1+Y)=8*(l*l*(l*l))*(121666*g)*(c*(1+Y)):=by grind
 rw[h1,h2,e1,←e3]
 grind
theorem dbl_z{l x y Y c g:F}(e2:c*(1-Y)=0-2*(x*x)*g)(e4:1-y*y=0-x*x*g)(e5:1+121665*(1-y*y)=121666*g):
 ((l*(1+y)+l*(1-y))*(l*(1+y)+l*(1-y))-(l*(1+y)-l*(1-y))*(l*(1+y)-l*(1-y)))*((l*(1+y)+l*(1-y))*(l*(1+y)+l*(1-y))+121665*((l*(1+y)+l*(1-y))*(l*(1+y)+l*(1-y))-(l*(1+y)-l*(1-y))*(l*(1+y)-l*(1-y))))=8*(l*l*(l*l))*(121666*g)*c*(1-Y):=by
 have h1:(l*(1+y)+l*(1-y))*(l*(1+y)+l*(1-y))=4*(l*l):=by grind
 have h2:(l*(1+y)-l*(1-y))*(l*(1+y)-l*(1-y))=4*(l*l)*(y*y):=by grind
 have h3:8*(l*l*(l*l))*(121666*g)*c*(1-Y)=8*(l*l*(l*l))*(121666*g)*(c*(1-Y)):=by grind
 have h4:4*(l*l)-4*(l*l)*(y*y)=4*(l*l)*(1-y*y):=by grind
 have h5:4*(l*l)+121665*(4*(l*l)*(1-y*y))=4*(l*l)*(1+121665*(1-y*y)):=by grind
 rw[h1,h2,h3,e2,h4,h5,e5,e4]
 grind
theorem zrl(K:EdK d i iv)(hd:121666*d=-121665){Q:Pt d}{x z:F}(h:Rep Q x z):
 Rep (Q.add K Q) ((x+z)*(x+z)*((x-z)*(x-z))) (((x+z)*(x+z)-(x-z)*(x-z))*((x+z)*(x+z)+121665*((x+z)*(x+z)-(x-z)*(x-z)))):=by
 obtain⟨l,hl,rfl,rfl⟩:=h;have hY:=Pt.add_y K Q Q;have hc:=(K.den Q.on Q.on).2;have hq:=Q.on
 unfold OnC at hq
 have hg:=K.dyy Q.y
 unfold Rep
 generalize (Q.add K Q).y=Y at *;generalize Q.y=y at *;generalize Q.x=u at *;obtain⟨c,A⟩:=ex9 (1-d*(u*u*y*y));obtain⟨g,r⟩:=ex9 (1+d*(y*y));rw[←A]at hY hc;rw[←r]at hg
 have h6:(121666:F)≠0:=by
  intro h;have:(121666:F)*(1+d)=1:=by grind
  rw[h]at this;exact K.one (by grind)
 have e1:c*(1+Y)=2+2*(u*u):=by
  have:c*(1+Y)=c+Y*c:=by grind
  rw[this,hY,A];exact cv1 hq
 have e2:c*(1-Y)=0-2*(u*u)*g:=by
  have:c*(1-Y)=c-Y*c:=by grind
  rw[this,hY,A,r];exact cv2 hq
 have e4:1-y*y=0-u*u*g:=by rw[r];exact cv4 hq
 have e5:1+121665*(1-y*y)=121666*g:=by
  have:121666*g=121666+(121666*d)*(y*y):=by rw[r];grind
  rw[this,hd];grind
 have e3:121666*g*(1+u*u)=y*y:=by
  have h1:g*(1+u*u)=(1+d)*(y*y):=by rw[r];exact cv3 hq
  have h2:121666*g*(1+u*u)=(121666+121666*d)*(y*y):=by
   have:121666*g*(1+u*u)=121666*(g*(1+u*u)):=by grind
   rw[this,h1];grind
  rw[h2,hd];grind
 refine⟨8*(l*l*(l*l))*(121666*g)*c,?_,dbl_x e1 e3,dbl_z e2 e4 e5⟩;exact K.ne (K.ne (K.ne K.eight (K.ne (K.ne hl hl) (K.ne hl hl))) (K.ne h6 hg)) hc
theorem Pt.diff(K:EdK d i iv){P Q R:Pt d}(h:R=Q.add K P):R.add K Q.neg=P:=by
 rw[h,Pt.add_comm K Q P,Pt.assoc,Pt.add_neg,Pt.add_O]
theorem cancel2(K:EdK d i iv){a b s t:F}(ha:a≠0)(hb:b≠0)(h:s*a*b=t*a*b):s=t:=by
 refine K.cancel (K.ne ha hb) ?_
 grind
theorem add_fx{l m y1 y2 k v w yS:F}(hv:w*v=1)(h:(y2+y1)*(y2+y1)*w=k*(1+yS)):
 ((m*(1+y2)-m*(1-y2))*(l*(1+y1)+l*(1-y1))+(m*(1+y2)+m*(1-y2))*(l*(1+y1)-l*(1-y1)))*((m*(1+y2)-m*(1-y2))*(l*(1+y1)+l*(1-y1))+(m*(1+y2)+m*(1-y2))*(l*(1+y1)-l*(1-y1)))=16*(l*l*(m*m))*k*v*(1+yS):=by
 have h1:16*(l*l*(m*m))*k*v*(1+yS)=16*(l*l*(m*m))*v*(k*(1+yS)):=by grind
 have h2:16*(l*l*(m*m))*v*((y2+y1)*(y2+y1)*w)=16*(l*l*(m*m))*((y2+y1)*(y2+y1))*(w*v):=by grind
 rw[h1,←h,h2,hv]
 grind
theorem add_fz{l m y1 y2 k v w yS yP u:F}(hv:w*v=1)(hu:u*w=1+yP)(h:(y2-y1)*(y2-y1)*(1+yP)=k*(1-yS)):
 u*(((m*(1+y2)-m*(1-y2))*(l*(1+y1)+l*(1-y1))-(m*(1+y2)+m*(1-y2))*(l*(1+y1)-l*(1-y1)))*((m*(1+y2)-m*(1-y2))*(l*(1+y1)+l*(1-y1))-(m*(1+y2)+m*(1-y2))*(l*(1+y1)-l*(1-y1))))=16*(l*l*(m*m))*k*v*(1-yS):=by
 have h1:16*(l*l*(m*m))*k*v*(1-yS)=16*(l*l*(m*m))*v*(k*(1-yS)):=by grind
 have h2:16*(l*l*(m*m))*v*((y2-y1)*(y2-y1)*(u*w))=16*(l*l*(m*m))*((y2-y1)*(y2-y1))*u*(w*v):=by grind
 rw[h1,←h,←hu,h2,hv]
 grind
theorem pf{yP d s1 s2 y1 y2:F}(h:yP*(1-d*(s2*(0-s1)*y2*y1))=y2*y1+s2*(0-s1)):yP*(1+d*(s1*s2*y1*y2))=y1*y2-s1*s2:=by grind
theorem znu(K:EdK d i iv){P Q R:Pt d}(hR:R=Q.add K P)(A:1-P.y≠0)(D:1+P.y≠0){u:F}(hu:u*(1-P.y)=1+P.y){x2 z2 x3 z3:F}(h1:Rep Q x2 z2)(h2:Rep R x3 z3):
 Rep (Q.add K R) (((x3-z3)*(x2+z2)+(x3+z3)*(x2-z2))*((x3-z3)*(x2+z2)+(x3+z3)*(x2-z2))) (u*(((x3-z3)*(x2+z2)-(x3+z3)*(x2-z2))*((x3-z3)*(x2+z2)-(x3+z3)*(x2-z2)))):=by
 obtain⟨l,hl,rfl,rfl⟩:=h1;obtain⟨m,hm,rfl,rfl⟩:=h2;have hP:=Pt.add_y K R Q.neg;rw[Pt.diff K hR]at hP;have hS:=Pt.add_y K Q R;obtain⟨na,nb⟩:=K.den Q.on R.on;have ip:=id_p Q.x Q.y R.x R.y d Q.on R.on;have im:=id_m Q.x Q.y R.x R.y d Q.on R.on;have q1:=Q.on;have q2:=R.on
 unfold OnC at q1 q2
 simp only[Pt.neg]at hP
 unfold Rep
 generalize (Q.add K R).y=yS at *;clear hR;generalize P.y=yP at *;generalize Q.y=y1 at *;generalize Q.x=s1 at *;generalize R.y=y2 at *;generalize R.x=s2 at *;have r:yP*(1+d*(s1*s2*y1*y2))=y1*y2-s1*s2:=pf hP;obtain⟨k,hk⟩:=ex9 (y2*y2+y1*y1-2*yP*(y1*y2));rw[←r,←hS]at ip im;clear hP;obtain⟨a,ha⟩:=ex9 (1+d*(s1*s2*y1*y2));obtain⟨b,hb⟩:=ex9 (1-d*(s1*s2*y1*y2));rw[←ha]at ip im r na;rw[←hb]at ip im hS nb
 have e1:(y2+y1)*(y2+y1)*(1-yP)=k*(1+yS):=by
  refine cancel2 K na nb ?_;rw[hk];clear r hS q1 q2 hu hk ha hb im
  grind
 have e2:(y2-y1)*(y2-y1)*(1+yP)=k*(1-yS):=by
  refine cancel2 K na nb ?_;rw[hk];clear r hS q1 q2 hu hk ha hb ip
  grind
 have hv:=K.inv _ A;refine⟨16*(l*l*(m*m))*k*iv (1-yP),?_,add_fx hv e1,add_fz hv hu e2⟩
 have E:k≠0:=by
  intro h0;rw[h0]at e1 e2
  have f1:y2+y1=0:=by
   rcases K.dom _ _ (show(y2+y1)*(y2+y1)*(1-yP)=0 by rw[e1];grind)with h|h
   · exact K.sq0 h
   · exact absurd h A
  have f2:y2-y1=0:=by
   rcases K.dom _ _ (show(y2-y1)*(y2-y1)*(1+yP)=0 by rw[e2];grind)with h|h
   · exact K.sq0 h
   · exact absurd h D
  have g2:y2=0:=by
   rcases K.dom 2 y2 (by grind)with h|h
   · exact absurd h K.two
   · exact h
  have g1:y1=0:=by grind
  rw[g1,g2]at r;rw[g1]at q1;rw[g2]at q2;have c1:a=1:=by rw[ha,g1];grind
  have c2:yP=0-s1*s2:=by rw[c1]at r;grind
  have c3:(1-yP)*(1+yP)=0:=by
   have:(1-yP)*(1+yP)=1-(s1*s1)*(s2*s2):=by rw[c2];grind
   have r1:s1*s1=-1:=by grind
   have r2:s2*s2=-1:=by grind
   rw[this,r1,r2];grind
  exact(K.dom _ _ c3).elim A D
 have G:iv (1-yP)≠0:=by
  intro h0;rw[h0]at hv;exact K.one (by grind)
 exact K.ne (K.ne (K.ne K.sixteen (K.ne (K.ne hl hl) (K.ne hm hm))) E) G
theorem zrm(K:EdK d i iv){P Q R:Pt d}(hR:R=Q.add K P)(r:1-P.y≠0)(A:1+P.y≠0){u:F}(hu:u*(1-P.y)=1+P.y){x2 z2 x3 z3:F}(h1:Rep R x2 z2)(h2:Rep Q x3 z3):
 Rep (Q.add K R) (((x3-z3)*(x2+z2)+(x3+z3)*(x2-z2))*((x3-z3)*(x2+z2)+(x3+z3)*(x2-z2))) (u*(((x3-z3)*(x2+z2)-(x3+z3)*(x2-z2))*((x3-z3)*(x2+z2)-(x3+z3)*(x2-z2)))):=by
 obtain⟨l,hl,e1,e2⟩:=znu K hR r A hu h2 h1;refine⟨l,hl,?_,?_⟩
 · rw[←e1];grind
 · rw[←e2];grind
theorem Rep.start(K:EdK d i iv):Rep (Pt.O (d:=d)) 1 0:=by
 have h:=K.inv _ K.two;refine⟨iv 2,fun h0=>?_,?_,?_⟩
 · rw[h0]at h;exact K.one (by grind)
 · simp only[Pt.O];grind
 · simp only[Pt.O];grind
theorem Rep.self(K:EdK d i iv){P:Pt d}(r:1-P.y≠0){u:F}(hu:u*(1-P.y)=1+P.y):Rep P u 1:=by
 have h:=K.inv _ r;refine⟨iv (1-P.y),fun h0=>?_,?_,?_⟩
 · rw[h0]at h;exact K.one (by grind)
 · rw[←hu]
   have:iv (1-P.y)*(u*(1-P.y))=u*((1-P.y)*iv (1-P.y)):=by grind
   rw[this,h];grind
 · rw[←h];grind
end
end
theorem pE_num:pE=pr-2:=pE_eq.symm.trans eP_num
instance:NeZero pr:=⟨by unfold pr;decide⟩
abbrev Fp:=Fin pr
def toF(n:Nat):Fp:=Fin.ofNat pr n
theorem zd0{a b:Nat}(h:Nat.beq a b=false):a≠b:=fun e=>by rw[e,Nat.beq_refl]at h;cases h
theorem zql(n:Nat):(toF n).val=n%pr:=rfl
theorem zif{a b:Nat}(h:a%pr=b%pr):toF a=toF b:=Fin.ext h
theorem zl4{a b:Nat}(h:toF a=toF b):a%pr=b%pr:=congrArg Fin.val h
theorem zej(a b:Nat):toF (a+b)=toF a+toF b:=Fin.ext (Nat.add_mod a b pr)
theorem zfq(a b:Nat):toF (a*b)=toF a*toF b:=Fin.ext (Nat.mul_mod a b pr)
theorem zgz(a:Nat):toF (a%pr)=toF a:=zif (Nat.mod_mod a pr)
theorem zjk:toF 0=0:=rfl
theorem zgy:toF 1=1:=rfl
theorem ze8(a:Fp):toF a.val=a:=Fin.ext (Nat.mod_eq_of_lt a.isLt)
theorem zqm{a:Nat}(h:a%pr≠0):toF a≠0:=fun e=>h (zl4 (b:=0) e)
theorem zfr{a:Nat}(h:a%pr=0):toF a=0:=zif (b:=0) h
theorem zgj(a b:Nat):toF (fadd a b)=toF a+toF b:=by rw[fadd,zgz,zej]
theorem ze9(a b:Nat):toF (fmul a b)=toF a*toF b:=by rw[fmul,zgz,zfq]
theorem zgi(a b:Nat):toF (fsub a b)=toF a-toF b:=by
 rw[fsub,zgz,zej]
 have h:toF (pr-b%pr)+toF b=0:=by
  rw[←zgz b,←zej,Nat.sub_add_cancel (Nat.le_of_lt (zdc b))];exact zfr (Nat.mod_self pr)
 grind
noncomputable def ivF(a:Fp):Fp:=toF (a.val^pE)
theorem toF_iv(z:Nat):toF (z^pE%pr)=ivF (toF z):=by
 rw[zgz,ivF,zql];exact zif (Nat.pow_mod z pE pr)
def dF:Fp:=toF 37095705934669439343138083508754565189542113879843219016388785533085940283555
def iF:Fp:=toF 19681161376707505956807079304988542015446066515923890162744021073123829784752
theorem nonsq(D E:Nat)(hE:2*E=pr-1)(hb:E<2^256)(h:powm pr 256 D E≠1)(h0:D%pr≠0)(v:Nat)(hv:v*v%pr=D%pr):False:=by
 have hn:¬pr ∣ v:=by
  intro hx;have:=Nat.mod_eq_zero_of_dvd (Nat.dvd_mul_right_of_dvd hx v);omega
 have h1:=fermat' zrz v hn;rw[zmm _ _ _ _ hb]at h
 apply h
 rw[Nat.pow_mod,←hv,←Nat.pow_mod,←Nat.pow_two,←Nat.pow_mul,hE,h1]
theorem zwp:2≤pr:=Nat.le_of_ble_eq_true kr
theorem edK:EdK dF iF ivF where
 one:=zqm (a:=1) (zd0 kr)
 two:=zqm (a:=2) (zd0 kr)
 dom a b h:=by
  have h1:(a.val*b.val)%pr=0:=congrArg Fin.val h
  rcases zrz.2 _ _ (Nat.dvd_of_mod_eq_zero h1)with h2|h2
  · left
    rw[←ze8 a];exact zfr (Nat.mod_eq_zero_of_dvd h2)
  · right
    rw[←ze8 b];exact zfr (Nat.mod_eq_zero_of_dvd h2)
 inv a ha:=by
  have hn:¬pr ∣ a.val:=by
   intro hx
   apply ha
   rw[←ze8 a];exact zfr (Nat.mod_eq_zero_of_dvd hx)
  have h1:=fermat' zrz a.val hn;have h2:=zwp;rw[ivF,pE_num]
  have e:a*toF (a.val^(pr-2))=toF (a.val^(pr-1)):=by
   rw[show pr-1=pr-2+1 by omega,Nat.pow_succ,zfq,ze8]
   grind
  rw[e];exact zif (b:=1) (by rw[h1,Nat.mod_eq_of_lt om])
 sq:=by
  have h:iF*iF+1=0:=by
   rw[iF,←zgy,←zfq,←zej];exact zfr kr
  grind
 non s h:=by
  refine nonsq 37095705934669439343138083508754565189542113879843219016388785533085940283555 28948022309329048855892746252171976963317496166410141009864396001978282409974 kr (Nat.le_of_ble_eq_true kr) (zd0 kr) (zd0 kr) s.val ?_;have h1:=congrArg Fin.val h;rw[dF,zql]at h1;exact h1
theorem hdF:(121666:Fp)*dF=-121665:=by
 have h:(121666:Fp)*dF+121665=0:=by
  rw[show(121666:Fp)=toF 121666 from rfl,show(121665:Fp)=toF 121665 from rfl,dF,←zfq,←zej];exact zfr kr
 grind
def xB:Nat:=15112221349535400772501151409588531511454012693041857206046113283949847762202
def yB:Nat:=46316835694926478169428394003475163141307993866256225615783033603165251855960
def ptB:Pt dF:=⟨toF xB,toF yB,by
 unfold OnC
 have h:dF*toF xB*toF xB*toF yB*toF yB+1+toF xB*toF xB=toF yB*toF yB:=by
  rw[dF,←zgy];simp only[←zfq,←zej];exact zif kr
 rw[h];grind⟩
section
section
variable{F:Type}[Lean.Grind.CommRing F]
theorem zqc(x:F)(h:x=0):0-x=x:=by grind
theorem zms:(1:F)-1=0:=by grind
end
def RepL(P:Pt dF)(m:Nat)(s:LS):Prop:=Rep (P.mul edK m) (toF s.x2) (toF s.z2)∧Rep (P.mul edK (m+1)) (toF s.x3) (toF s.z3)
def HasU(P:Pt dF)(n:Nat):Prop:=n<pr∧1-P.y≠0∧toF n*(1-P.y)=1+P.y
theorem zt5{P:Pt dF}{n:Nat}(hU:HasU P n)(r:1+P.y≠0){m:Nat}{s:LS}(h:RepL P m s):RepL P (2*m) (s.step n):=by
 have h1:=zrl edK hdF h.1;have h2:=znu edK (P:=P) (Q:=P.mul edK m) (R:=P.mul edK (m+1)) rfl hU.2.1 r hU.2.2 h.1 h.2;rw[←Pt.mul_add]at h1 h2;refine⟨?_,?_⟩
 · rw[show 2*m=m+m by omega]
   simp only[LS.step,LS.aa,LS.bb,LS.a,LS.b,LS.e,ze9,zgj,zgi];exact h1
 · rw[show 2*m+1=m+(m+1) by omega]
   simp only[LS.step,LS.da,LS.cb,LS.a,LS.b,LS.c,LS.d,ze9,zgj,zgi];exact h2
theorem zqs{P:Pt dF}{n:Nat}(hU:HasU P n)(r:1+P.y≠0){m:Nat}{s:LS}(h:RepL P m s):RepL P (2*m+1) ((s.swap.step n).swap):=by
 have h1:=zrl edK hdF h.2;have h2:=zrm edK (P:=P) (Q:=P.mul edK m) (R:=P.mul edK (m+1)) rfl hU.2.1 r hU.2.2 h.2 h.1;rw[←Pt.mul_add]at h1 h2;refine⟨?_,?_⟩
 · rw[show 2*m+1=m+(m+1) by omega]
   simp only[LS.swap,LS.step,LS.da,LS.cb,LS.a,LS.b,LS.c,LS.d,ze9,zgj,zgi];exact h2
 · rw[show 2*m+1+1=m+1+(m+1) by omega]
   simp only[LS.swap,LS.step,LS.aa,LS.bb,LS.a,LS.b,LS.e,ze9,zgj,zgi];exact h1
def nf(f:Nat→Bool):Nat→Nat
 | 0=>0
 | k+1=>2*nf f k+(f (254-k)).toNat
theorem zmz{P:Pt dF}{n:Nat}(hU:HasU P n)(r:1+P.y≠0)(f:Nat→Bool):∀k,RepL P (nf f k) (ladT n f k)
 | 0=>⟨by simp only[ladT,LS.start,zgy,zjk];exact Rep.start edK,by
  simp only[ladT,LS.start,zgy,nf,Nat.zero_add];rw[Pt.mul_one]
  exact Rep.self edK hU.2.1 hU.2.2⟩
 | k+1=>by
  have ih:=zmz hU r f k;rw[ladT,nf,LS.round]
  cases f (254-k)
  · exact zt5 hU r ih
  · exact zqs hU r ih
theorem nf_of(K:Nat)(f:Nat→Bool)(hf:∀t,t<255→(f t).toNat=K/2^t%2):∀k,k≤255→nf f k=K/2^(255-k)%2^k
 | 0,_=>by rw[nf,Nat.pow_zero,Nat.mod_one]
 | k+1,h=>by
  have ih:=nf_of K f hf k om;rw[nf,ih,hf (254-k) om,show 255-k=254-k+1 by omega,show 255-(k+1)=254-k by omega,Nat.pow_succ,←Nat.div_div_eq_div_mul,Nat.pow_succ,Nat.mul_comm (2^k) 2,Nat.mod_mul];omega
theorem zi9{P:Pt dF}{m n:Nat}(h1:HasU P m)(h2:HasU P n):m=n:=by
 have e:toF m=toF n:=edK.cancel h1.2.1 (h1.2.2.trans h2.2.2.symm);have:=zl4 e
 rwa [Nat.mod_eq_of_lt h1.1,Nat.mod_eq_of_lt h2.1]at this
theorem zy3{P:Pt dF}{n:Nat}(hU:HasU P n)(A:1+P.y≠0)(f:Nat→Bool)(r:1-(P.mul edK (nf f 255)).y≠0):
 HasU (P.mul edK (nf f 255)) (fmul (ladT n f 255).x2 ((ladT n f 255).z2^pE%pr)):=by
 obtain⟨l,hl,hx,hz⟩:=(zmz hU A f 255).1;refine⟨zbd _ _,r,?_⟩;rw[ze9,toF_iv,hx,hz];have hv:=edK.inv _ (edK.ne hl r);generalize ivF (l*(1-(P.mul edK (nf f 255)).y))=v at *;generalize (P.mul edK (nf f 255)).y=y at *;have:l*(1+y)*v*(1-y)=(1+y)*(l*(1-y)*v):=by grind
 rw[this,hv];grind
theorem y_one{P:Pt dF}(h:1-P.y=0):P=Pt.O:=by
 have hy:P.y=1:=by grind
 have ho:=P.on
 unfold OnC at ho
 rw[hy]at ho;have h2:(1+dF)*(P.x*P.x)=0:=by grind
 refine Pt.eq_of ?_ hy
 rcases edK.dom _ _ h2 with h3|h3
 · exact absurd h3 edK.one_d
 · exact edK.sq0 h3
theorem y_neg{P:Pt dF}(h:1+P.y=0):P.add edK P=Pt.O:=by
 have hy:P.y=-1:=by grind
 have ho:=P.on
 unfold OnC at ho
 rw[hy]at ho;have h2:(1+dF)*(P.x*P.x)=0:=by grind
 have hx:P.x=0:=by
  rcases edK.dom _ _ h2 with h3|h3
  · exact absurd h3 edK.one_d
  · exact edK.sq0 h3
 have hn:P.neg=P:=Pt.eq_of (zqc P.x hx) rfl;have:=Pt.add_neg edK P
 rwa [hn]at this
theorem hasB:HasU ptB 9:=by
 refine⟨Nat.le_of_ble_eq_true kr,?_,?_⟩
 · intro h
   have h2:toF yB=toF 1:=by
    have h3:ptB.y=1:=by grind
    exact h3
   exact absurd (zl4 h2) (zd0 kr)
 · have h:toF 9=1+toF yB+toF 9*toF yB:=by
    rw[←zgy];simp only[←zfq,←zej];exact zif kr
   show toF 9*(1-toF yB)=1+toF yB
   grind
theorem negB:1+ptB.y≠0:=by
 have h:1+ptB.y=toF (1+yB):=by rw[zej];rfl
 rw[h];exact zqm (zd0 kr)
def ordF(t:Nat):Bool:=Nat.beq (ordB/2^t%2) 1
theorem zzo(x:Nat):(Nat.beq (x%2) 1).toNat=x%2:=by
 rcases Nat.mod_two_eq_zero_or_one x with h|h <;> rw[h] <;> rfl
theorem zym:(ladT 9 ordF 255).z2=0:=by kernel_rfl
theorem ord_lt:Nat.ble (ordB+1) (2^255)=true:=by kernel_rfl
theorem zyl:nf ordF 255=ordB:=by
 rw[nf_of ordB ordF (fun t _=>zzo _) 255 lr];simp only[Nat.sub_self,Nat.pow_zero,Nat.div_one];exact Nat.mod_eq_of_lt (Nat.le_of_ble_eq_true ord_lt)
theorem ord_O:ptB.mul edK ordB=Pt.O:=by
 obtain⟨l,hl,hx,hz⟩:=(zmz hasB negB ordF 255).1;rw[zym,zyl,zjk]at hz
 apply y_one
 rcases edK.dom _ _ hz.symm with h|h
 · exact absurd h hl
 · exact h
theorem B_ne:ptB≠Pt.O:=by
 intro h
 apply hasB.2.1
 rw[h];exact zms (F:=Fp)
theorem zyr(j:Nat):ptB.mul edK (ordB*j)=Pt.O:=by rw[Pt.mul_mul,ord_O,Pt.mul_O]
theorem zsc{k:Nat}(h:ptB.mul edK k=Pt.O):ordB ∣ k:=by
 by_cases hd:ordB ∣ k
 · exact hd
 · exfalso
   rcases Nat.lt_or_ge k 2 with h1|h1
   · have:k=0∨k=1:=om
     rcases this with rfl|rfl
     · exact hd (Nat.dvd_zero _)
     · rw[Pt.mul_one]at h;exact B_ne h
   · obtain⟨u,v,e⟩:=bez ordB k h1 (zml zmr k hd)
     have h2:ptB.mul edK (u*ordB)=Pt.O:=by rw[Nat.mul_comm,zyr]
     rw[e,Pt.mul_add,Nat.mul_comm v k,Pt.mul_mul,h,Pt.mul_O,Pt.O_add,Pt.mul_one]at h2;exact B_ne h2
theorem ord_y{k:Nat}(hk:¬ordB ∣ k):1-(ptB.mul edK k).y≠0∧1+(ptB.mul edK k).y≠0:=by
 constructor
 · intro h
   exact hk (zsc (y_one h))
 · intro h
   have h2:=y_neg h;rw[←Pt.mul_add]at h2;have h3:=zsc h2
   rcases zmr.2 2 k (by rw[show 2*k=k+k by omega];exact h3)with h4|h4
   · have:=Nat.le_of_dvd om h4
     exact absurd this (by have h5:Nat.ble 3 ordB=true:=by kernel_rfl
                           have:=Nat.le_of_ble_eq_true h5
                           omega)
   · exact hk h4
noncomputable def uB(j:Nat):Nat:=((1+(ptB.mul edK j).y)*ivF (1-(ptB.mul edK j).y)).val
theorem zok{j:Nat}(hj:¬ordB ∣ j):HasU (ptB.mul edK j) (uB j):=by
 have h:=(ord_y hj).1;refine⟨((1+(ptB.mul edK j).y)*ivF (1-(ptB.mul edK j).y)).isLt,h,?_⟩;rw[uB,ze8];have hv:=edK.inv _ h;generalize ivF (1-(ptB.mul edK j).y)=v at *;generalize (ptB.mul edK j).y=y at *;have:(1+y)*v*(1-y)=(1+y)*((1-y)*v):=by grind
 rw[this,hv];grind
theorem uB_one:uB 1=9:=by
 have h1:¬ordB ∣ 1:=by
  intro h;have:=Nat.le_of_dvd om h;have h5:Nat.ble 3 ordB=true:=by kernel_rfl
  have:=Nat.le_of_ble_eq_true h5;omega
 have h:=zok h1;rw[Pt.mul_one]at h;exact zi9 h hasB
theorem uB_ne{j:Nat}(hj:¬ordB ∣ j):uB j≠0:=by
 intro h;have h2:=(zok hj).2.2;rw[h,zjk]at h2;exact(ord_y hj).2 (by grind)
theorem uB_lt(j:Nat):uB j<pr:=((1+(ptB.mul edK j).y)*ivF (1-(ptB.mul edK j).y)).isLt
theorem lad_uB{j:Nat}(hj:¬ordB ∣ j)(f:Nat→Bool)(c:Nat)(hc:nf f 255=c)(r:¬ordB ∣ j*c):
 fmul (ladT (uB j) f 255).x2 ((ladT (uB j) f 255).z2^pE%pr)=uB (j*c):=by
 have h:=zy3 (zok hj) (ord_y hj).2 f (by rw[hc,←Pt.mul_mul];exact(ord_y r).1);rw[hc,←Pt.mul_mul]at h;exact zi9 h (zok r)
def Clm(c:Nat):Prop:=8 ∣ c∧2^254≤c∧c<2^255
theorem zyj:Nat.ble (2^255) (8*ordB)=true:=by kernel_rfl
theorem zyk:ordB%2=1:=by kernel_rfl
theorem Clm.ord{c:Nat}(h:Clm c):¬ordB ∣ c:=by
 intro hd;obtain⟨e,he⟩:=hd;have h1:=Nat.le_of_ble_eq_true zyj;obtain⟨⟨m,hm⟩,h2,h3⟩:=h
 have A:e<8:=by
  rcases Nat.lt_or_ge e 8 with h4|h4
  · exact h4
  · have:ordB*8≤ordB*e:=Nat.mul_le_mul_left _ h4
    omega
 have ho:=zyk
 have r:e≠0:=by
  intro h0;rw[h0,Nat.mul_zero]at he;rw[he]at h2;exact absurd h2 sy
 obtain⟨L,hL⟩:=ex9 (ordB);rw[←hL]at ho he;clear h1 h2 h3 hL;have:e=1∨e=2∨e=3∨e=4∨e=5∨e=6∨e=7:=om
 rcases this with rfl|rfl|rfl|rfl|rfl|rfl|rfl <;> omega
theorem zjy{j c:Nat}(hj:¬ordB ∣ j)(hc:Clm c):¬ordB ∣ j*c:=fun h=>(zmr.2 _ _ h).elim hj hc.ord
end
theorem zsu(n:Nat):∀k,leN ((List.range k).map fun i=>UInt8.ofNat (n/256^i))=n%256^k
 | 0=>by simp[leN,numL,Nat.mod_one]
 | k+1=>by
  have ih:=zsu n k;have h:=zj7 ((List.range (k+1)).map fun i=>UInt8.ofNat (n/256^i)) k sy;rw[tk sy]at h;rw[h,←List.map_take,List.take_range,Nat.min_eq_left (Nat.le_succ k),ih,Nat.pow_succ,Nat.mod_mul]
  congr 1
  rw[gd9,List.getElem?_map,List.getElem?_range (Nat.lt_succ_self k)]
  show(UInt8.ofNat (n/256^k)).toNat*256^k=_
  rw[UInt8.toNat_ofNat',Nat.mul_comm]
theorem zhs(n:Nat):(leB n).length=32:=by simp[leB]
theorem zsv{n:Nat}(h:n<115792089237316195423570985008687907853269984665640564039457584007913129639936):leN (leB n)=n:=by
 rw[leB,zsu];exact Nat.mod_eq_of_lt h
theorem zrr{n:Nat}(h:n<pr):readN (leB n)=n:=by
 have h2:=h;simp only[pr]at h2;rw[readN,zsv om,Nat.mod_eq_of_lt (a:=n) (b:=57896044618658097711785492504343953926634992332820282019728792003956564819968) om,Nat.mod_eq_of_lt h]
theorem zvd(l:List UInt8)(q:Nat):leN l/256^q%256=(l.getD q 0).toNat:=by
 rcases Nat.lt_or_ge q l.length with h|h
 · have h1:leN l=leN (l.take q)+256^q*leN (l.drop q):=by
    have:=zfh 256 (l.map (·.toNat)) q (by simp;omega)
    simpa only[leN,List.map_take,List.map_drop] using this
   have h2:=zi6 (l.take q);rw[List.length_take,Nat.min_eq_left (Nat.le_of_lt h)]at h2;rw[h1,Nat.add_mul_div_left _ _ (by exact Nat.pow_pos om),Nat.div_eq_of_lt h2,Nat.zero_add,zj8 l q h];have:=(l.getD q 0).toNat_lt;omega
 · have h1:=zi6 l
   have h2:256^l.length≤256^q:=Nat.pow_le_pow_right om h;rw[Nat.div_eq_of_lt om,gd9,List.getElem?_eq_none h]
   rfl
theorem zs0(l:List UInt8)(t:Nat):(kbit l t).toNat=leN l/2^t%2:=by
 have h:=zvd l (t/8)
 have h1:(2:Nat)^t=256^(t/8)*2^(t%8):=by
  rw[show(256:Nat)=2^8 by rfl,←Nat.pow_mul,←Nat.pow_add]
  congr 1
  omega
 rw[h1,←Nat.div_div_eq_div_mul,kbit,←h];obtain⟨m,hm⟩:=ex9 (leN l/256^(t/8));rw[←hm];have h2:t%8<8:=Nat.mod_lt _ om;obtain⟨r,hr⟩:=ex9 (t%8);rw[←hr]at h2 ⊢
 have e:m%256/2^r%2=m/2^r%2:=by
  have:r=0∨r=1∨r=2∨r=3∨r=4∨r=5∨r=6∨r=7:=om
  rcases this with rfl|rfl|rfl|rfl|rfl|rfl|rfl|rfl <;> simp <;> omega
 rw[e]
 rcases Nat.mod_two_eq_zero_or_one (m/2^r)with h3|h3 <;> rw[h3] <;> rfl
def clN(k:List UInt8):Nat:=leN (clampB k)
theorem zd3(k:List UInt8):(clampB k).length=k.length:=by simp[clampB]
theorem cl_lo:∀n,n<256→(n &&& 248)%8=0:=by decide
theorem cl_hi:∀n,n<256→64≤(n &&& 127 ||| 64)∧(n &&& 127 ||| 64)<128:=by decide
theorem clm{k:List UInt8}(hk:k.length=32):Clm (clN k):=by
 have hl:=zd3 k;rw[hk]at hl
 have h0:(clampB k).getD 0 0=k.getD 0 0 &&& 248:=by
  rw[clampB,gd9,List.getElem?_set_ne om,List.getElem?_set_self om];rfl
 have r:(clampB k).getD 31 0=k.getD 31 0 &&& 127 ||| 64:=by
  rw[clampB,gd9,List.getElem?_set_self (by simp;omega)];rfl
 have e1:=zj8 (clampB k) 0 om;rw[List.drop_zero,h0]at e1;have e2:=zj7 (clampB k) 31 om;rw[tk om,r]at e2;have e3:=zi6 ((clampB k).take 31);rw[List.length_take,hl]at e3;have b0:=cl_lo (k.getD 0 0).toNat (k.getD 0 0).toNat_lt;have A:=cl_hi (k.getD 31 0).toNat (k.getD 31 0).toNat_lt;rw[UInt8.toNat_and]at e1;rw[UInt8.toNat_or,UInt8.toNat_and]at e2
 change leN (clampB k)=_+((k.getD 0 0).toNat &&& 248)at e1
 change leN (clampB k)=_+((k.getD 31 0).toNat &&& 127 ||| 64)*256^31 at e2
 obtain⟨x,hx⟩:=ex9 ((k.getD 0 0).toNat &&& 248);obtain⟨y,hy⟩:=ex9 ((k.getD 31 0).toNat &&& 127 ||| 64);rw[←hx]at b0 e1;rw[←hy]at A e2;simp only[Nat.reducePow,show min 31 32=31 by rfl]at e2 e3
 unfold Clm clN
 simp only[Nat.reducePow];refine⟨⟨leN (clampB k)/8,?_⟩,?_,?_⟩
 · omega
 · omega
 · omega
theorem zsj{j:Nat}(hj:¬ordB ∣ j){k:List UInt8}(hk:k.length=32):multN k (leB (uB j))=uB (j*clN k):=by
 have hc:=clm hk
 show fmul (ladT (readN (leB (uB j))) (kbit (clampB k)) 255).x2 ((ladT (readN (leB (uB j))) (kbit (clampB k)) 255).z2^pE%pr)=_
 rw[zrr (uB_lt j)];refine lad_uB hj (kbit (clampB k)) (clN k) ?_ (zjy hj hc);rw[nf_of (clN k) (kbit (clampB k)) (fun t _=>zs0 _ _) 255 lr];simp only[Nat.sub_self,Nat.pow_zero,Nat.div_one];exact Nat.mod_eq_of_lt hc.2.2
section
structure Flt where
 j:Nat
 d:Tmp
 ty:TypeId
 Z:List Value
 v:Nat→Value
def setJ(L:Array Bool):List Nat→Array Bool
 | []=>L
 | j :: r=>setJ (L.setIfInBounds j true) r
def doneJ:List (Flt × Option Nat)→List Nat
 | []=>[]
 | (_,none) :: r=>doneJ r
 | (f,some _) :: r=>f.j :: doneJ r
def putF(a:Act):List (Flt × Option Nat)→Act
 | []=>a
 | (_,none) :: r=>putF a r
 | (f,some g) :: r=>putF (a.put (some f.d) (f.v g)) r
def leftN:List (Flt × Option Nat)→Nat
 | []=>0
 | (_,none) :: r=>leftN r+1
 | (_,some _) :: r=>leftN r
def okF(B:Nat)(W:World):List (Flt × Option Nat)→Prop
 | []=>True
 | (_,none) :: r=>okF B W r
 | (f,some g) :: r=>(B≤g∧Blk W g f.ty f.Z∧∀x∈r,x.2≠some g)∧okF B W r
def subs:List Nat→List (List Nat)
 | []=>[[]]
 | j :: r=>subs r++(subs r).map (j :: ·)
theorem zd2:∀F:List (Flt × Option Nat),doneJ F∈subs (F.map (·.1.j))
 | []=>by simp[doneJ,subs]
 | (f,none) :: r=>by
  simp only[doneJ,List.map_cons,subs,List.mem_append];exact .inl (zd2 r)
 | (f,some g) :: r=>by
  simp only[doneJ,List.map_cons,subs,List.mem_append,List.mem_map];exact .inr ⟨_,zd2 r,rfl⟩
theorem zt9(L:Array Bool)(i j:Nat):(L.setIfInBounds i true).setIfInBounds j true=(L.setIfInBounds j true).setIfInBounds i true:=by
 by_cases h:i=j
 · rw[h]
 · exact Array.setIfInBounds_comm _ _ h
theorem zgk:∀(S:List Nat) (L:Array Bool) (i:Nat),(setJ L S).setIfInBounds i true=setJ (L.setIfInBounds i true) S
 | [],_,_=>rfl
 | j :: r,L,i=>by rw[setJ,zgk r,setJ,zt9]
theorem zl8(L:Array Bool)(f:Flt)(g:Nat)(post:List (Flt × Option Nat)):∀pre,(setJ L (doneJ (pre++(f,none) :: post))).setIfInBounds f.j true=setJ L (doneJ (pre++(f,some g) :: post))
 | []=>by simp only[List.nil_append,doneJ,setJ];rw[zgk]
 | (h,none) :: pre=>by
  simp only[List.cons_append,doneJ];exact zl8 L f g post pre
 | (h,some k) :: pre=>by
  simp only[List.cons_append,doneJ,setJ];exact zl8 (L.setIfInBounds h.j true) f g post pre
theorem zfe:∀(F:List (Flt × Option Nat)) (a:Act) (d:Tmp) (v:Value),(∀x∈F,x.1.d≠d)→(putF a F).put (some d) v=putF (a.put (some d) v) F
 | [],_,_,_,_=>rfl
 | (f,none) :: r,a,d,v,h=>zfe r a d v fun x hx=>h x (List.mem_cons_of_mem _ hx)
 | (f,some g) :: r,a,d,v,h=>by
  have A:=h (f,some g) List.mem_cons_self;rw[putF,zfe r _ d v fun x hx=>h x (List.mem_cons_of_mem _ hx),putF]
  congr 1
  exact(Act.put_comm a _ _ (fun e h1 h2=>A (by injection h1 with h1;injection h2 with h2;rw[h1,h2]))).symm
theorem zmj(f:Flt)(g:Nat)(post:List (Flt × Option Nat))(r:∀x∈post,x.1.d≠f.d):∀(A:List (Flt × Option Nat)) (a:Act),(putF a (A++(f,none) :: post)).put (some f.d) (f.v g)=putF a (A++(f,some g) :: post)
 | [],a=>by simp only[List.nil_append,putF];exact zfe post a f.d (f.v g) r
 | (h,none) :: A,a=>by
  simp only[List.cons_append,putF];exact zmj f g post r A a
 | (h,some k) :: A,a=>by
  simp only[List.cons_append,putF];exact zmj f g post r A _
theorem zj6(f:Flt)(g:Nat)(post:List (Flt × Option Nat)):∀pre,leftN (pre++(f,none) :: post)=leftN (pre++(f,some g) :: post)+1
 | []=>rfl
 | (h,none) :: pre=>by simp only[List.cons_append,leftN];rw[zj6 f g post pre]
 | (h,some k) :: pre=>by simp only[List.cons_append,leftN];rw[zj6 f g post pre]
theorem zgo{B:Nat}{W W':World}(hB:Below W.heap.size W W'):∀F,okF B W F→okF B W' F
 | [],_=>trivial
 | (_,none) :: r,h=>zgo hB r h
 | (_,some _) :: r,h=>⟨⟨h.1.1,h.1.2.1.below hB h.1.2.1.lt,h.1.2.2⟩,zgo hB r h.2⟩
theorem zse{B:Nat}{W:World}: ∀F,okF B W F→∀x∈F,∀g,x.2=some g→g<W.heap.size
 | [],_,x,hx,_,_=>by cases hx
 | (_,none) :: r,h,x,hx,g,hg=>by
  rcases List.mem_cons.1 hx with rfl|hx
  · cases hg
  · exact zse r h x hx g hg
 | (_,some k) :: r,h,x,hx,g,hg=>by
  rcases List.mem_cons.1 hx with rfl|hx
  · injection hg with hg;subst hg;exact h.1.2.1.lt
  · exact zse r h.2 x hx g hg
theorem zsd{B:Nat}{W:World}(f:Flt)(post:List (Flt × Option Nat))(hB:B≤W.heap.size):∀pre,okF B W (pre++(f,none) :: post)→okF B (W.alloc (.cells f.Z.toArray f.ty)) (pre++(f,some W.heap.size) :: post)
 | [],h=>by
  refine⟨⟨hB,Blk.new _ _ _,fun x hx he=>?_⟩,zgo ((Below.refl _ _).alloc lr _) post h⟩;exact absurd (zse post h x hx _ he) om
 | (_,none) :: pre,h=>zsd f post hB pre h
 | (y,some k) :: pre,h=>by
  refine⟨⟨h.1.1,h.1.2.1.alloc _,fun x hx he=>?_⟩,zsd f post hB pre h.2⟩
  rcases List.mem_append.1 hx with hx|hx
  · exact h.1.2.2 x (List.mem_append_left _ hx) he
  · rcases List.mem_cons.1 hx with rfl|hx
    · injection he with he
      have:=h.1.2.1.lt;omega
    · exact h.1.2.2 x (List.mem_append_right _ (List.mem_cons_of_mem _ hx)) he
theorem zm8(f:Flt)(g:Nat)(post:List (Flt × Option Nat))(x:Nat):∀pre,x∈doneJ (pre++(f,none) :: post)→x∈doneJ (pre++(f,some g) :: post)
 | [],h=>List.mem_cons_of_mem _ h
 | (_,none) :: pre,h=>zm8 f g post x pre h
 | (_,some _) :: pre,h=>by
  simp only[List.cons_append,doneJ,List.mem_cons]at h ⊢
  rcases h with h|h
  · exact .inl h
  · exact .inr (zm8 f g post x pre h)
theorem zsi{r:List Nat}{F F':List (Flt × Option Nat)}(h:r.all (doneJ F).contains=true)(hg:∀x∈doneJ F,x∈doneJ F'):r.all (doneJ F').contains=true:=by
 rw[List.all_eq_true]at h ⊢;intro x hx;have:=h x hx;simp only[List.contains_iff_mem]at this ⊢;exact hg x this
theorem zfn(x:Nat):∀F:List (Flt × Option Nat),x∈F.map (·.1.j)→x ∉ doneJ F→∃D f A,F=D++(f,none) :: A∧f.j=x
 | [],h,_=>by cases h
 | (f,none) :: r,h,hn=>by
  by_cases e:f.j=x
  · exact⟨[],f,r,rfl,e⟩
  · simp only[List.map_cons,List.mem_cons]at h
    rcases h with h|h
    · exact absurd h.symm e
    · obtain⟨D,f',A,rfl,e'⟩:=zfn x r h hn
      exact⟨(f,none) :: D,f',A,rfl,e'⟩
 | (f,some g) :: r,h,hn=>by
  simp only[doneJ,List.mem_cons,not_or]at hn;simp only[List.map_cons,List.mem_cons]at h
  rcases h with h|h
  · exact absurd h hn.1
  · obtain⟨D,f',A,rfl,e'⟩:=zfn x r h hn.2
    exact⟨(f,some g) :: D,f',A,rfl,e'⟩
section
variable{P:Program}{ops:Array Oper}{Q:Exit→Act→World→Prop}{md:Region.Mode}{T:World→Prop}{k:Nat}{B:Nat}{fs:List Flt}
def AnyG(P:Program)(md:Region.Mode)(ops:Array Oper)(Q:Exit→Act→World→Prop)(k:Nat)(T:World→Prop)(B:Nat)(fs:List Flt)(must:List Nat)(fuel:Nat)(listed:Array Bool)(a:Act)(R:World→Prop):Prop :=
 ∀F W,F.map (·.1)=fs→R W→okF B W F→must.all (doneJ F).contains=true→AnyK P md ops Q k T (fuel+leftN F) (setJ listed (doneJ F)) (putF a F) W
def FltRun(P:Program)(ops:Array Oper)(fs:List Flt)(a:Act)(f:Flt):Prop :=
 ∃oj,ops[f.j]? = some oj∧oj.dst=some f.d∧oj.guard=none∧∀F W,F.map (·.1)=fs→(execOp (putF a F).eval oj).run P W=.ok (.value (f.v W.heap.size)) (W.alloc (.cells f.Z.toArray f.ty))
theorem zij:∀fs:List Flt,doneJ (fs.map fun f=>(f,none))=[]
 | []=>rfl
 | _ :: r=>zij r
theorem zk2(a:Act):∀fs:List Flt,putF a (fs.map fun f=>(f,none))=a
 | []=>rfl
 | _ :: r=>zk2 a r
theorem zii:∀fs:List Flt,leftN (fs.map fun f=>(f,none))=fs.length
 | []=>rfl
 | _ :: r=>congrArg (· + 1) (zii r)
theorem znq(W:World):∀fs:List Flt,okF B W (fs.map fun f=>(f,none))
 | []=>trivial
 | _ :: r=>znq W r
theorem AnyG.start{fuel:Nat}{r:Array Bool}{a:Act}{w:World}(B:Nat)(fs:List Flt)(R:World→Prop)(A:Nat)(hf:fuel=A+fs.length)(hR:R w)(h:AnyG P md ops Q k T B fs [] A r a R):AnyK P md ops Q k T fuel r a w:=by
 have:=h (fs.map fun f=>(f,none)) w (by rw[List.map_map];exact List.map_id _) hR (znq w fs) rfl;rw[zij,zk2,zii,←hf]at this;exact this
def okStep(md:Region.Mode)(ops:Array Oper)(listed:Array Bool)(js:List Nat)(must must':List Nat)(i:Nat):Bool :=
 (subs js).all fun S=>(!(must.all S.contains))|| ((!(Region.ready md ops (setJ listed S)).isEmpty) && (Region.ready md ops (setJ listed S)).all fun x=>(x == i && must'.all S.contains)|| (js.contains x && !S.contains x))
theorem zmt{r:Array Bool}{i:Nat}{D A:List Nat}(h:okStep md ops r (fs.map (·.j)) D A i=true){F:List (Flt × Option Nat)}(hF:F.map (·.1)=fs)(hm:D.all (doneJ F).contains=true):
 Region.ready md ops (setJ r (doneJ F))≠[]∧∀x∈Region.ready md ops (setJ r (doneJ F)),(x=i∧A.all (doneJ F).contains=true)∨∃pre f post,F=pre++(f,none) :: post∧f.j=x:=by
 have e:F.map (·.1.j)=fs.map (·.j):=by rw[←hF,List.map_map];rfl
 have h1:=List.all_eq_true.1 h (doneJ F) (e ▸ zd2 F);rw[hm,Bool.not_true,Bool.false_or,Bool.and_eq_true]at h1;refine⟨fun h2=>by rw[h2]at h1;simp at h1,fun x hx=>?_⟩;have h2:=List.all_eq_true.1 h1.2 x hx;rw[Bool.or_eq_true,Bool.and_eq_true,Bool.and_eq_true]at h2
 rcases h2 with ⟨h2,h3⟩|⟨h2,h3⟩
 · exact .inl ⟨by simpa using h2,h3⟩
 · exact .inr (zfn x F (e ▸ (by simpa using h2)) (by simpa using h3))
theorem AnyG.one{fuel:Nat}{A:Array Bool}{a:Act}{R:World→Prop}(hd:(fs.map (·.d)).Nodup)(M:∀f∈fs,FltRun P ops fs a f)(G:∀W o,R W→R (W.alloc o))(I:∀W,R W→B≤W.heap.size)(hT:∀W,R W→T W)
 {F:List (Flt × Option Nat)} {W:World} (hF:F.map (·.1)=fs) (hR:R W) (hok:okF B W F) {x:Nat} (hx:∃D f r,F=D++(f,none) :: r∧f.j=x) {n:Nat} (hn:fuel+leftN F=n+1)
 (ih:∀F' W',F'.map (·.1)=fs→R W'→okF B W' F'→leftN F'<leftN F→(∀y∈doneJ F,y∈doneJ F')→AnyK P md ops Q k T (fuel+leftN F') (setJ A (doneJ F')) (putF a F') W'):
 wpOp P ops Q x (fun a' w'=>(((setJ A (doneJ F)).setIfInBounds x true).getD k true=false→T w')∧AnyK P md ops Q k T n ((setJ A (doneJ F)).setIfInBounds x true) a' w') (putF a F) W:=by
 obtain⟨D,f,r,rfl,rfl⟩:=hx;have J:f∈fs:=by rw[←hF];simp
 obtain⟨oj,h1,h2,h3,h4⟩:=M f J
 unfold wpOp
 simp only[h1];rw[if_pos (by simp[Region.wanted,h3])];refine .inl ?_
 unfold Oper.wp
 rw[h4 _ W hF,Oper.upon_value,h2]
 have E:∀y∈r,y.1.d≠f.d:=by
  intro y hy he;rw[←hF]at hd;simp only[List.map_append,List.map_cons,List.nodup_append,List.nodup_cons]at hd;exact hd.2.1.1 (List.mem_map.2 ⟨y.1,List.mem_map.2 ⟨y,hy,rfl⟩,he⟩)
 rw[zl8 A f W.heap.size r D,zmj f W.heap.size r E D a];have hl:=zj6 f W.heap.size r D;refine⟨fun _=>hT _ (G _ _ hR),?_⟩;have h5:=ih (D++(f,some W.heap.size) :: r) (W.alloc (.cells f.Z.toArray f.ty)) (by rw[←hF];simp) (G _ _ hR) (zsd f r (I W hR) D hok) om (fun y hy=>zm8 f _ r y D hy);rw[show fuel+leftN (D++(f,some W.heap.size) :: r)=n by omega]at h5;exact h5
theorem AnyG.step{fuel:Nat}{r:Array Bool}{a:Act}{R:World→Prop}(i:Nat){oi:Oper}{di:Tmp}{X:Type}{A:List Nat}(D:List Nat)(v:X→Value)(R':X→World→Prop)(hi:ops[i]? = some oi)(V:oi.guard=none)(U:∀f∈fs,f.d≠di)(hd:(fs.map (·.d)).Nodup)
 (chk:okStep md ops r (fs.map (·.j)) A D i=true)
 (hmain:∀F W,F.map (·.1)=fs→R W→okF B W F→(Region.ready md ops (setJ r (doneJ F))).contains i=true→∀K:Act→World→Prop,(∀x w',R' x w'→Below W.heap.size W w'→K ((putF a F).put (some di) (v x)) w')→oi.wp P (putF a F) W K Q)
 (hfl:∀f∈fs,FltRun P ops fs a f) (hRa:∀W o,R W→R (W.alloc o)) (hRB:∀W,R W→B≤W.heap.size) (hT:∀W,R W→T W) (hT':∀x W,R' x W→T W)
 (h:∀x,AnyG P md ops Q k T B fs D fuel (r.setIfInBounds i true) (a.put (some di) (v x)) (R' x)):AnyG P md ops Q k T B fs A (fuel+1) r a R:=by
 have M:∀n F W,leftN F=n→F.map (·.1)=fs→R W→okF B W F→A.all (doneJ F).contains=true→AnyK P md ops Q k T (fuel+1+leftN F) (setJ r (doneJ F)) (putF a F) W:=by
  intro n
  induction n using Nat.strongRecOn with
  | _ n ih =>
   intro F W hn hF hR E hm;obtain⟨J,G⟩:=zmt chk hF hm;rw[show fuel+1+leftN F=(fuel+leftN F)+1 by omega];refine⟨fun h0=>absurd h0 J,fun x hx=>?_⟩
   rcases G x hx with ⟨rfl,I⟩|hx
   · unfold wpOp
     simp only[hi];rw[if_pos (by simp[Region.wanted,V])];refine .inl (hmain F W hF hR E (by simpa using hx) _ fun y w' hR' hB=>?_);refine⟨fun _=>hT' y w' hR',?_⟩;have h2:=h y F w' hF hR' (zgo hB F E) I;rw[←zgk,←zfe F a di (v y) (fun z hz=>U z.1 (by rw[←hF];exact List.mem_map.2 ⟨z,hz,rfl⟩))]at h2;exact h2
   · exact AnyG.one (fuel:=fuel+1) hd hfl hRa hRB hT hF hR E hx om fun F' W' h1 h2 h3 h4 h5=>ih (leftN F') om F' W' rfl h1 h2 h3 (zsi hm h5)
 exact fun F W hF hR E hm=>M _ F W rfl hF hR E hm
def okEnd(md:Region.Mode)(ops:Array Oper)(listed:Array Bool)(js must:List Nat):Bool :=
 (subs js).all fun S=>(!(must.all S.contains))|| (S.length == js.length)|| ((!(Region.ready md ops (setJ listed S)).isEmpty) && (Region.ready md ops (setJ listed S)).all fun x=>js.contains x && !S.contains x)
theorem zh2:∀F:List (Flt × Option Nat),(doneJ F).length+leftN F=F.length
 | []=>rfl
 | (_,none) :: r=>by have:=zh2 r;simp only[doneJ,leftN,List.length_cons];omega
 | (_,some _) :: r=>by have:=zh2 r;simp only[doneJ,leftN,List.length_cons];omega
theorem AnyG.fin{fuel:Nat}{r:Array Bool}{a:Act}{R:World→Prop}(hd:(fs.map (·.d)).Nodup){A:List Nat}(chk:okEnd md ops r (fs.map (·.j)) A=true)
 (hfl:∀f∈fs,FltRun P ops fs a f) (hRa:∀W o,R W→R (W.alloc o)) (hRB:∀W,R W→B≤W.heap.size) (hT:∀W,R W→T W)
 (h:∀F W,F.map (·.1)=fs→leftN F=0→R W→okF B W F→AnyK P md ops Q k T fuel (setJ r (doneJ F)) (putF a F) W):AnyG P md ops Q k T B fs A fuel r a R:=by
 have E:∀n F W,leftN F=n→F.map (·.1)=fs→R W→okF B W F→A.all (doneJ F).contains=true→AnyK P md ops Q k T (fuel+leftN F) (setJ r (doneJ F)) (putF a F) W:=by
  intro n
  induction n using Nat.strongRecOn with
  | _ n ih =>
   intro F W hn hF hR D hm
   rcases Nat.eq_zero_or_pos (leftN F)with h0|h0
   · rw[h0]
     exact h F W hF h0 hR D
   · have e:F.map (·.1.j)=fs.map (·.j):=by rw[←hF,List.map_map];rfl
     have h1:=List.all_eq_true.1 chk (doneJ F) (e ▸ zd2 F);have hl:=zh2 F;have G:F.length=(fs.map (·.j)).length:=by rw[←e,List.length_map]
     rw[hm,Bool.not_true,Bool.false_or,Bool.or_eq_true,Bool.and_eq_true]at h1
     rcases h1 with h1|h1
     · have:(doneJ F).length=(fs.map (·.j)).length:=by simpa using h1
       omega
     · rw[show fuel+leftN F=(fuel+leftN F-1)+1 by omega]
       refine⟨fun h2=>by rw[h2]at h1;simp at h1,fun x hx=>?_⟩;have h2:=List.all_eq_true.1 h1.2 x hx;rw[Bool.and_eq_true]at h2;refine AnyG.one (fuel:=fuel) hd hfl hRa hRB hT hF hR D (zfn x F (e ▸ (by simpa using h2.1)) (by simpa using h2.2)) om fun F' W' h1 h2 h3 h4 h5=>ih (leftN F') om F' W' rfl h1 h2 h3 (zsi hm h5)
 exact fun F W hF hR D hm=>E _ F W rfl hF hR D hm
end
section
variable{P:Program}{ops:Array Oper}{a:Act}
theorem flt1{f:Flt}(h:FltRun P ops [f] a f):∀g∈[f],FltRun P ops [f] a g:=by
 intro g hg;rw[List.mem_singleton]at hg;subst hg;exact h
theorem flt2{f1 f2:Flt}(h1:FltRun P ops [f1,f2] a f1)(h2:FltRun P ops [f1,f2] a f2):∀g∈[f1,f2],FltRun P ops [f1,f2] a g:=by
 intro g hg;simp only[List.mem_cons,List.not_mem_nil,or_false]at hg
 rcases hg with rfl|rfl
 · exact h1
 · exact h2
end
end
section
section
variable{P:Program}{w:World}{o:Oper}{a:Act}{K:Act→World→Prop}{Q:Exit→Act→World→Prop}
theorem zbb{f:FuncId}{args:Array Value}(r:(execOp a.eval o).run P w=.ok (.enter f args) w)(h:Calls P f args w fun e w'=>∃v,e=.returned v∧K (a.put o.dst v) w'):o.wp P a w K Q:=by
 unfold Oper.wp
 rw[r];refine Calls.mono h ?_;rintro e w' ⟨v,rfl,h2⟩;exact h2
end
section
variable{P:Program}{ops:Array Oper}{Q:Exit→Act→World→Prop}{md:Region.Mode}{T:World→Prop}{k:Nat}
theorem AnyK.storeAt{fuel:Nat}{r:Array Bool}{a:Act}{w:World}(i:Nat){oi:Oper}{t:TypeId}{x y:Operand}(g off:Nat)(cs:List Value)(t':TypeId)(Z Z':List Value)(hi:ops[i]? = some oi)(E:oi.dst=none)(hg:oi.guard=none)(ho:oi.op=.store t x y)(hr:Region.ready md ops r=[i])
 (hx:a.eval x=.pointer (some ⟨g,off,none⟩)) (hy:a.eval y=.agg cs.toArray) (hb:Blk w g t' Z) (hsz:(P.info? t).map (·.size)=some cs.length) (hone:∀v∈cs,v.oneCell'=true) (hlen:off+cs.length≤Z.length) (hZ:splice Z off cs=Z')
 (hT:∀w',Blk w' g t' Z'→Only w w' g→(r.setIfInBounds i true).getD k true=false→T w')
 (h:∀w',Blk w' g t' Z'→Only w w' g→AnyK P md ops Q k T fuel (r.setIfInBounds i true) (a.put none undef) w'):AnyK P md ops Q k T (fuel+1) r a w:=by
 subst hZ;refine AnyK.one i hi hr hg ?_;refine zge t x y ho g off cs hx hy t' Z hb hsz hone om ?_;intro w' A D;rw[E];exact⟨hT w' A D,h w' A D⟩
theorem AnyK.main{fuel:Nat}{r:Array Bool}{a:Act}{w:World}(i:Nat){oi:Oper}(hi:ops[i]? = some oi)(hr:Region.ready md ops r=[i])(hg:oi.guard=none)
 (h:∀K:Act→World→Prop,(∀a' w',((r.setIfInBounds i true).getD k true=false→T w')∧AnyK P md ops Q k T fuel (r.setIfInBounds i true) a' w'→K a' w')→oi.wp P a w K Q):AnyK P md ops Q k T (fuel+1) r a w :=
 AnyK.one i hi hr hg (h _ fun _ _ h=>h)
end
theorem ze7{f1 f2:Flt}{F:List (Flt × Option Nat)}(h:F.map (·.1)=[f1,f2]):∃s1 s2,F=[(f1,s1),(f2,s2)]:=by
 rcases F with _|⟨⟨a,s1⟩,_|⟨⟨b,s2⟩,_|⟨c,r⟩⟩⟩
 · cases h
 · cases h
 · simp only[List.map_cons,List.map_nil,List.cons.injEq]at h
   obtain⟨rfl,rfl,_⟩:=h;exact⟨s1,s2,rfl⟩
 · simp at h
theorem zdk{f1 f2 f3:Flt}{F:List (Flt × Option Nat)}(h:F.map (·.1)=[f1,f2,f3]):∃s1 s2 s3,F=[(f1,s1),(f2,s2),(f3,s3)]:=by
 rcases F with _|⟨⟨a,s1⟩,_|⟨⟨b,s2⟩,_|⟨⟨c,s3⟩,_|⟨d,r⟩⟩⟩⟩
 · cases h
 · cases h
 · cases h
 · simp only[List.map_cons,List.map_nil,List.cons.injEq]at h
   obtain⟨rfl,rfl,rfl,_⟩:=h;exact⟨s1,s2,s3,rfl⟩
 · simp at h
theorem zl3{f1 f2:Flt}{F:List (Flt × Option Nat)}(h:F.map (·.1)=[f1,f2])(h0:leftN F=0):∃g1 g2,F=[(f1,some g1),(f2,some g2)]:=by
 obtain⟨s1,s2,rfl⟩:=ze7 h
 rcases s1 with _|g1
 · simp[leftN]at h0
 rcases s2 with _|g2
 · simp[leftN]at h0
 exact⟨g1,g2,rfl⟩
theorem zqn{f1 f2 f3:Flt}{F:List (Flt × Option Nat)}(h:F.map (·.1)=[f1,f2,f3])(h0:leftN F=0):∃g1 g2 g3,F=[(f1,some g1),(f2,some g2),(f3,some g3)]:=by
 obtain⟨s1,s2,s3,rfl⟩:=zdk h
 rcases s1 with _|g1
 · simp[leftN]at h0
 rcases s2 with _|g2
 · simp[leftN]at h0
 rcases s3 with _|g3
 · simp[leftN]at h0
 exact⟨g1,g2,g3,rfl⟩
section
variable{P:Program}{w:World}{o:Oper}{a:Act}
theorem ex_two(t e:TypeId)(x y:Operand)(ho:o.op=.buildSlice t 2 #[(0,x),(1,y)])(cs ds:List Value)(hx:a.eval x=.agg cs.toArray)(hy:a.eval y=.agg ds.toArray)(hu:P.underlying t=some (.slice e))(hi:(P.info? e).map (fun i=>((i.zero.map (fun z=>z.cells.size)),i.size))=some (some cs.length,cs.length))(hl:ds.length=cs.length)(D:0<cs.length)(E:cs.length≤1000000):
 (execOp a.eval o).run P w=.ok (.value (.slice (some ⟨w.heap.size,0,none⟩) 2 2)) (w.alloc (.cells (cs++ds).toArray e)):=by
 cases hie:P.info? e with
 | none=>simp[hie]at hi
 | some ie =>
  cases hz:ie.zero with
  | none=>simp[hie,hz]at hi
  | some z =>
   simp only[hie,hz,Option.map_some,Option.some.injEq,Prod.mk.injEq]at hi;have h1:(#[(0,x),(1,y)].map fun(p:Nat × Operand)=>(p.1,a.eval p.2)).toList=[(0,.agg cs.toArray),(1,.agg ds.toArray)]:=by simp[hx,hy]
   have h2:∃Z:List Value,((Array.range (2*ie.size)).map (z.cells[· % z.cells.size]!))=Z.toArray∧Z.length=cs.length+ds.length:=⟨((Array.range (2*ie.size)).map (z.cells[· % z.cells.size]!)).toList,Array.toArray_toList.symm,by simp[hi.2];omega⟩;obtain⟨Z,hZ,A⟩:=h2
   have r:Instr.fill (fun i=>some (i*ie.size,ie.size)) ((Array.range (2*ie.size)).map (z.cells[· % z.cells.size]!)) (#[(0,x),(1,y)].map fun(p:Nat × Operand)=>(p.1,a.eval p.2)).toList=some (cs++ds).toArray:=by
    rw[h1,hZ,zat (cs:=cs) (off:=0) rfl (by simp[hi.2]) om,zat (cs:=ds) (off:=cs.length) rfl (by simp[hi.2,hl]) (by simp[splice];omega),zo2 Z cs ds cs.length rfl A]
    rfl
   have h:=run_buildSlice (P:=P) w t e 2 (#[(0,x),(1,y)].map fun(p:Nat × Operand)=>(p.1,a.eval p.2)) (cs++ds).toArray ie z hu hie hz (by rw[hi.2];omega) (by rw[hi.2];omega) r
   unfold execOp
   simp only[ho];simp only[Sem.run_bind,h,Result.andThen_ok]
   rfl
end
theorem zbv{o:Oper}{a:Act}{w:World}{x y:Operand}(m n:Nat)(ho:o.op=.buildSlice 228 2 #[(0,x),(1,y)])(hx:a.eval x=.agg (elc m).toArray)(hy:a.eval y=.agg (elc n).toArray):
 (execOp a.eval o).run Tryz.prog w=.ok (.value (.slice (some ⟨w.heap.size,0,none⟩) 2 2)) (w.alloc (.cells (elc m++elc n).toArray 146)) :=
 ex_two 228 146 x y ho (elc m) (elc n) hx hy Tryz.underlying228 kr rfl (by simp[elc,l4]) (by simp[elc,l4])
theorem lt2{x y:Nat}(hx:x<pr)(hy:y<pr):∀z∈[x,y],z<115792089237316195423570985008687907853269984665640564039457584007913129639936:=by
 intro z hz;simp only[pr]at hx hy;simp only[List.mem_cons,List.not_mem_nil,or_false]at hz
 rcases hz with rfl|rfl <;> omega
theorem rd2{w:World}{g:Nat}{t:TypeId}{x y:Nat}(h:Blk w g t (elc x++elc y)):RdS 4 w (some ⟨g,0,none⟩) 2 ([x,y].flatMap elc):=by
 refine⟨by simp[elc,l4],fun _=>⟨g,0,rfl,h.lt,fun j v hv=>?_⟩⟩;rw[Nat.zero_add,h.cell]
 simpa using hv
theorem zjn{W:World}{g:Nat}{t:TypeId}{x y:Nat}(h:Blk W g t (elc x++elc y))(hx:x<pr)(hy:y<pr):
 Calls Tryz.prog 118 #[.slice (some ⟨g,0,none⟩) 2 2] W fun e w'=>e=.returned (.agg (elc (fadd x y)).toArray)∧Below W.heap.size W w':=by
 have h1:=sum_el (some ⟨g,0,none⟩) 2 2 [x,y] W om (rd2 h) rfl (lt2 hx hy);rw[sum2]at h1;exact h1
theorem zc4{W:World}{g:Nat}{t:TypeId}{x y:Nat}(h:Blk W g t (elc x++elc y))(hx:x<pr)(hy:y<pr):
 Calls Tryz.prog 121 #[.slice (some ⟨g,0,none⟩) 2 2] W fun e w'=>e=.returned (.agg (elc (fmul x y)).toArray)∧Below W.heap.size W w':=by
 have h1:=zx6 (some ⟨g,0,none⟩) 2 2 [x,y] W om om om (rd2 h) rfl (lt2 hx hy);rw[prod2]at h1;exact h1
theorem zkf{W:World}{x y:Nat}(hx:x<pr)(hy:y<pr):
 Calls Tryz.prog 119 #[.agg (elc x).toArray,.agg (elc y).toArray] W fun e w'=>e=.returned (.agg (elc (fsub x y)).toArray)∧Below W.heap.size W w' :=
 sub_el x y (by simp only[pr]at hx;omega) (by simp only[pr]at hy;omega) W
theorem zol{W:World}{x:Nat}(hx:x<pr):
 Calls Tryz.prog 120 #[.agg (elc x).toArray] W fun e w'=>e=.returned (.agg (elc (fmul x x)).toArray)∧Below W.heap.size W w' :=
 sq_el x (by simp only[pr]at hx;omega) W
def lcs(x1:Nat)(s:LS):List Value:=elc x1++elc s.x2++elc s.z2++elc s.x3++elc s.z3
end
section
theorem zcy{w:World}{g:Nat}{t:TypeId}{cs:List Value}(hb:Blk w g t cs)(o n:Nat)(hd:(cs.drop o).take 4=elc n):(ldAt 146 (.pointer (some ⟨g,o,none⟩))).run Tryz.prog w=.ok (.agg (elc n).toArray) w :=
 zal hb 146 o (elc n) hd _ Tryz.underlying146 rfl (by exact hdEl)
attribute [local go_sem ↓] zc3
theorem val_el(x y:Nat)(w:World)(hx:x<115792089237316195423570985008687907853269984665640564039457584007913129639936)(hy:y<115792089237316195423570985008687907853269984665640564039457584007913129639936):
 Calls Tryz.prog 98 #[.agg (elc x++elc y).toArray] w fun e w'=>e=.returned (.agg (elc (x*(y^pE%pr)%pr)).toArray)∧Below w.heap.size w w':=by
 have r:Hid (Blk ((w.alloc (.cells (elc x++elc y).toArray 178)).alloc (.cells (l4 0 0 0 0).toArray 146)) w.heap.size 178 (elc x++elc y)∧Blk ((w.alloc (.cells (elc x++elc y).toArray 178)).alloc (.cells (l4 0 0 0 0).toArray 146)) (w.heap.size+1) 146 (l4 0 0 0 0)∧Below w.heap.size w ((w.alloc (.cells (elc x++elc y).toArray 178)).alloc (.cells (l4 0 0 0 0).toArray 146))) :=
  ⟨(Blk.new w _ _).alloc _,Blk.new' sy rfl,((Below.refl _ w).alloc lr _).alloc sy _⟩
 go_enter Tryz.func98, Tryz.ntmps98
 go_wp2;refine zcf kr 6 (fun w'=>Blk w' w.heap.size 178 (elc x++elc y)) ?_;have HT:=qh r.o.1.drew;refine AnyK.pure 0 (v:=.pointer (some ⟨w.heap.size,0,none⟩)) rfl kr (fun _ _ _ h=>h) rfl (fun _=>kr) (fun _=>HT.o) ?_;refine AnyK.load 1 (v:=.agg (elc x).toArray) rfl kr kr kr (fun _ _ _ h=>h) rfl (fun w' hw'=>zaf (x:=.tmp 3) rr kr (zcy hw' 0 x rfl)) HT.o ?_;refine AnyK.pure 2 (v:=.pointer (some ⟨w.heap.size,4,none⟩)) rfl kr (fun _ _ _ h=>h) rfl (fun _=>kr) (fun _=>HT.o) ?_;refine AnyK.load 3 (v:=.agg (elc y).toArray) rfl kr kr kr (fun _ _ _ h=>h) rfl (fun w' hw'=>zaf (x:=.tmp 5) rr kr (zcy hw' 4 y rfl)) HT.o ?_;refine AnyK.enter 4 (d:=some 7) (f:=123) (args:=#[.agg (elc y).toArray]) rr kr kr ?_;refine(inv_el y _ hy).mono ?_;rintro e w2 ⟨rfl,A⟩;have V:=qbl HT A;have E:=r.o.2.1.drew.below A r.o.2.1.drew.lt;have I:=r.o.2.2.drew.trans (A.mono r.o.2.2.drew.size);refine⟨_,rfl,fun _=>V.o,?_⟩;refine AnyK.enter 5 (d:=some 8) (f:=122) (args:=#[.agg (elc x).toArray,.agg (elc (y^pE%pr)).toArray]) rr kr kr ?_;refine(zob x (y^pE%pr) hx (pr_lt _) _).mono ?_;rintro e w3 ⟨rfl,D⟩;have a0:=qbl V D;have M:=E.below D E.lt;have G:=I.trans (D.mono I.size);refine⟨_,rfl,fun _=>a0.o,?_⟩;refine AnyK.storeAll 6 (w.heap.size+1) (elc (x*(y^pE%pr)%pr)) 146 _ rfl rfl rfl rr kr kr kr M (by exact hdEl) (za3 _) rfl (fun _ _ _ h=>(by cases h)) ?_;intro w6 U J;refine AnyK.done kr ?_;have Y:=qh (J.below G om G.size);have X:=qh U;clear U J M G I E A D;go_wp2;exact bodyPost_ret (zan rfl _ _ _ _ rfl X.o _ Tryz.underlying146 rfl (by exact hdEl)) rfl ⟨rfl,Y.o⟩
end
section
theorem zwh(x:UInt8)(n:Nat)(hn:n<256):bits .and .u8 (x.toNat:Int) (n:Int)=((x &&& UInt8.ofNat n).toNat:Int):=by
 rw[u8_and_nat x.toNat n x.toNat_lt hn,UInt8.toNat_and,UInt8.toNat_ofNat',Nat.mod_eq_of_lt hn]
theorem u8_or(x:UInt8)(n:Nat)(hn:n<256):bits .or .u8 (x.toNat:Int) (n:Int)=((x ||| UInt8.ofNat n).toNat:Int):=by
 have h:=w8_or x (UInt8.ofNat n);rw[UInt8.toNat_ofNat',Nat.mod_eq_of_lt hn]at h;exact h
attribute [local go_sem ↓] zb0
theorem ztd(A:Option Addr)(n c:Nat)(ks:List UInt8)(w:World)(h:Rd w A n (u8s ks))(hn:n=32):
 Calls Tryz.prog 95 #[.slice A n c] w fun e w'=>e=.returned (.tuple #[.agg (u8s (clampB ks)).toArray,.int .i64 0])∧Below w.heap.size w w':=by
 have HR:=qh h;have HL:=qh h.len
 have G:Hid (Blk ((w.alloc (.cells (u8s (List.replicate 32 0)).toArray 27)).alloc (.cells (u8s (List.replicate 32 0)).toArray 27)) w.heap.size 27 (u8s (List.replicate 32 0))∧Blk ((w.alloc (.cells (u8s (List.replicate 32 0)).toArray 27)).alloc (.cells (u8s (List.replicate 32 0)).toArray 27)) (w.heap.size+1) 27 (u8s (List.replicate 32 0))∧Below w.heap.size w ((w.alloc (.cells (u8s (List.replicate 32 0)).toArray 27)).alloc (.cells (u8s (List.replicate 32 0)).toArray 27))) :=
  ⟨(Blk.new w _ _).alloc _,Blk.new' sy rfl,((Below.refl _ w).alloc lr _).alloc sy _⟩
 have c1:(n:Int)=32:=om;clear h
 go_enter Tryz.func95, Tryz.ntmps95
 go_upto_region 5 with (refine zav rfl (.tmp 9) (.tmp 10) 22 rfl 5 Tryz.underlying22 zbk (w.heap.size+1) 0 32 32 rr A _ c rr 27 _ (by exact G.o.2.1) (u8s ks) (by first|exact(HR.o.alloc _).alloc _|exact hn ▸ (HR.o.alloc _).alloc _) (zac _) (by simp[zaa]) ?_;intro w2 a1 a3)
 have E:ks.length=32:=by rw[HL.o,hn]
 have b2:splice (u8s (List.replicate 32 0)) 0 ((u8s ks).take 32)=u8s ks:=by
  rw[tk (by rw[zaa];omega),zap _ _ (by rw[zaa,zaa,E];rfl)]
 rw[b2]at a1;have HZ:=qh (a3.blk G.o.1 om);have HE:=qh (a3.below G.o.2.2 om G.o.2.2.size);have J:=qh E;have HB:=qh a1;clear b2 E a1 a3 G HR hn;obtain⟨x,hx⟩:=ex9 (ks.getD 0 0);obtain⟨y,hy⟩:=ex9 (ks.getD 31 0)
 have hc:w2.cell? ⟨w.heap.size+1,0,none⟩=some (.int .u8 ((x.toNat:Nat):Int)):=by
  refine(HB.o.cell 0).trans ?_;rw[u8s_getElem?,hx,gd9,ge9 (by rw[J.o];omega)];rfl
 have hf:w2.frozen? ⟨w.heap.size+1,0,none⟩=false:=HB.o.frozen 0;obtain⟨x2,V⟩:=ex9 (x &&& UInt8.ofNat 248);have ha:bits .and .u8 (x.toNat:Int) 248=(x2.toNat:Int):=V ▸ zwh x 248 om;have b5:=qh V;clear V;have HX:=qh hx;have HY:=qh hy;clear hx hy
 go_upto_region 6 with (fail)
 obtain⟨w3,D⟩:=ex9 (w2.setCell ⟨w.heap.size+1,0,none⟩ (.int .u8 (x2.toNat:Int)));have M:Hid (Blk w3 (w.heap.size+1) 27 (u8s (ks.set 0 x2))):=D ▸ (za5 ks 0 x2) ▸ HB.o.set_ 0 _;have a5:Hid (Blk w3 w.heap.size 27 (u8s (List.replicate 32 0))):=D ▸ HZ.o.far (by show w.heap.size≠w.heap.size+1;omega) _;have a8:Hid (Below w.heap.size w w3):=D ▸ HE.o.setCell (by show w.heap.size≤w.heap.size+1;omega) _;rw[←D];clear D hc hf ha HB HZ HE
 have hc:w3.cell? ⟨w.heap.size+1,31,none⟩=some (.int .u8 ((y.toNat:Nat):Int)):=by
  refine(M.o.cell 31).trans ?_;rw[u8s_getElem?,List.getElem?_set_ne om,HY.o,gd9,ge9 (by rw[J.o];omega)];rfl
 have hf:w3.frozen? ⟨w.heap.size+1,31,none⟩=false:=M.o.frozen 31;obtain⟨y2,X⟩:=ex9 (y &&& UInt8.ofNat 127);have ha:bits .and .u8 (y.toNat:Int) 127=(y2.toNat:Int):=X ▸ zwh y 127 om;have b4:=qh X;clear X
 go_upto_region 7 with (fail)
 obtain⟨w4,r⟩:=ex9 (w3.setCell ⟨w.heap.size+1,31,none⟩ (.int .u8 (y2.toNat:Int)));have U:Hid (Blk w4 (w.heap.size+1) 27 (u8s ((ks.set 0 x2).set 31 y2))):=r ▸ (za5 _ 31 y2) ▸ M.o.set_ 31 _;have a7:Hid (Blk w4 w.heap.size 27 (u8s (List.replicate 32 0))):=r ▸ a5.o.far (by show w.heap.size≠w.heap.size+1;omega) _;have b1:Hid (Below w.heap.size w w4):=r ▸ a8.o.setCell (by show w.heap.size≤w.heap.size+1;omega) _;rw[←r];clear r hc hf ha M a5 a8
 have hc:w4.cell? ⟨w.heap.size+1,31,none⟩=some (.int .u8 (y2.toNat:Int)):=by
  refine(U.o.cell 31).trans ?_;rw[u8s_getElem?,List.getElem?_set_self (by rw[List.length_set,J.o];omega)];rfl
 have hf:w4.frozen? ⟨w.heap.size+1,31,none⟩=false:=U.o.frozen 31;obtain⟨y3,Y⟩:=ex9 (y2 ||| UInt8.ofNat 64);have ha:bits .or .u8 (y2.toNat:Int) 64=(y3.toNat:Int):=Y ▸ u8_or y2 64 om;have b9:=qh Y;clear Y
 go_upto_region 8 with (fail)
 obtain⟨w5,I⟩:=ex9 (w4.setCell ⟨w.heap.size+1,31,none⟩ (.int .u8 (y3.toNat:Int)))
 have b6:Hid (Blk w5 (w.heap.size+1) 27 (u8s (clampB ks))):=by
  have h1:=U.o.set_ 31 (.int .u8 (y3.toNat:Int));rw[←I,za5,List.set_set,b9.o,b4.o,b5.o,HX.o,HY.o]at h1;exact h1
 have b7:Hid (Blk w5 w.heap.size 27 (u8s (List.replicate 32 0))):=I ▸ a7.o.far (by show w.heap.size≠w.heap.size+1;omega) _;have a9:Hid (Below w.heap.size w w5):=I ▸ b1.o.setCell (by show w.heap.size≤w.heap.size+1;omega) _;rw[←I];clear I hc hf ha U a7 b1;have a2:(clampB ks).length=32:=by rw[zd3,J.o]
 have c2:(ldAt 27 (.pointer (some ⟨w.heap.size+1,0,none⟩))).run Tryz.prog w5=.ok (.agg (u8s (clampB ks)).toArray) w5:=zal b6.o 27 0 (u8s (clampB ks)) (by rw[List.drop_zero];exact tk lr) _ Tryz.underlying27 rfl (by rw[zaa,a2];exact hd32);have a0:=qh a2;clear a2
 go_wp2_with (refine zab rfl 27 (.tmp 2) (.tmp 24) rfl w.heap.size (u8s (clampB ks)) rr rr 27 _ b7.o (by rw[zaa,a0.o];exact hd32) (zac _) (by rw[zaa,zaa,a0.o];rfl) ?_;intro w6 a6 a4;have b3:=qh a6;have c0:=qh (a4.below a9.o lr a9.o.size);clear a6 a4)
 exact bodyPost_ret (zak rfl _ _ _ _ rfl b3.o _ Tryz.underlying27 rfl (by rw[zaa,a0.o];exact hd32)) rfl ⟨rfl,c0.o⟩
end
