/- Part of the proof. -/
import Derived.Test.YtpgpaenloaphaaaGreatSmx05
set_option maxRecDepth 100000
set_option maxHeartbeats 0
namespace Go.Proofs.YtpgpaenloaphaaaGreat
open Go.RowKit
def padI(Z N i:Nat):List UInt8:=128 :: (List.replicate (Z+8-i) 0++(Sh.beBytes N 8).drop (8-i))
theorem zm6(Z N i:Nat)(h:i≤8):(padI Z N i).length=Z+9:=by simp[padI,Sh.beBytes_len];omega
theorem zhr(N:Nat):∀(k j:Nat),j<k→(Sh.beBytes N k)[k-1-j]? = some (UInt8.ofNat (N/256^j))
 | 0,j,h=>by omega
 | k+1,j,h=>by
  rw[Sh.beBytes]
  by_cases e:j=k
  · subst e;simp
  · rw[show k+1-1-j=(k-1-j)+1 by omega,List.getElem?_cons_succ]
    exact zhr N k j om
theorem zq9(Z N i:Nat)(h:i<8):(padI Z N i).set (Z+8-i) (UInt8.ofNat (N/256^i))=padI Z N (i+1):=by
 unfold padI
 obtain⟨k,hk⟩:∃k,Z+8-i=k+1:=⟨Z+7-i,by omega⟩
 have hd:(Sh.beBytes N 8).drop (8-(i+1))=UInt8.ofNat (N/256^i) :: (Sh.beBytes N 8).drop (8-i):=by
  have hl:=Sh.beBytes_len N 8;have:=zhr N 8 i h;rw[List.drop_eq_getElem_cons om,show 8-(i+1)+1=8-i by omega]
  congr 1
  rw[ge9 om]at this
  injection this with this
  rw[←this]
  congr 1
  omega
 rw[hd,hk,show Z+8-(i+1)=k by omega,List.set_cons_succ,List.replicate_succ',as9,List.set_append_right _ _ sy]
 simp
theorem ztv(Z N:Nat):padI Z N 8=128 :: (List.replicate Z 0++Sh.beBytes N 8):=by simp[padI]
theorem zut(N i:Nat):((N:Int)/2^(8*i))%(256:Int)=((UInt8.ofNat (N/256^i)).toNat:Int):=by
 rw[UInt8.toNat_ofNat',show(256:Nat)^i=2^(8*i) by rw[Nat.pow_mul]]
 simp
theorem zlv(n:Nat)(w:World)(hn:n≤1099511627776):
 Calls Tryz.prog 188 #[.int .u64 n] w fun e w'=>e=.returned (.slice (some ⟨w.heap.size,0,none⟩) (Sh.pad n).length (Sh.pad n).length)∧Blk w' w.heap.size 5 (u8s (Sh.pad n))∧Below w.heap.size w w':=by
 obtain⟨Z,hZ⟩:∃Z,(119-n%64)%64=Z:=⟨_,rfl⟩;have hZ2:Z<64:=om;have hzi:(119-(n:Int)%64)%64=(Z:Int):=om
 have HPD:Hid (padI Z (8*n) 8=Sh.pad n):=by
  show _=_
  rw[ztv,Sh.pad,hZ,Nat.mod_eq_of_lt (show 8*n<18446744073709551616 by omega)]
 clear hZ
 go_enter Tryz.func188, Tryz.ntmps188
 go_wp2_with (refine zao rfl (.tmp 13) (.tmp 13) 22 rfl 5 (.int .u8 0) 1 Tryz.underlying22 iU8 rfl .i64 .i64 _ _ rr rr (Z+9) (Z+9) ?c1 ?c2 lr om om ?_)
 case c1=>omega
 case c2=>omega
 intro w1 hb1 hg1 hs1;have hz0:rep (Z+9) (.int .u8 0)=u8s (List.replicate (Z+9) 0):=by simp[rep,u8s,u8]
 rw[hz0]at hb1;have c0:w1.cell? ⟨w.heap.size,0,none⟩=some (.int .u8 0):=by rw[hb1.cell,u8s_getElem?];simp[u8]
 have f0:=hb1.frozen 0;have hBw1:Below w.heap.size w w1:=zaf hg1
 have hb2:Hid (Blk (w1.setCell ⟨w.heap.size,0,none⟩ (.int .u8 128)) w.heap.size 5 (u8s (padI Z (8*n) 0))):=by
  have:=hb1.set_ 0 (.int .u8 128)
  have e:(u8s (List.replicate (Z+9) 0)).set 0 (.int .u8 128)=u8s (padI Z (8*n) 0):=by
   have h8:(Sh.beBytes (8*n) 8).drop (8-0)=[]:=List.drop_of_length_le (by rw[Sh.beBytes_len];omega)
   unfold padI
   rw[h8,List.append_nil,show Z+9=(Z+8)+1 by omega,List.replicate_succ]
   simp[u8s,u8]
  rw[e]at this;exact this
 have hB2:=qh (hBw1.setCell (p:=⟨w.heap.size,0,none⟩) lr (.int .u8 128));have hZ0:(0:Int)<(Z:Int)+9:=om;clear hz0 hb1 hg1 hs1
 go_wp2_with fail
 go_loopg [5] 8 (fun k q wr=>∃i:Nat,i≤8∧k=8-i∧q=.int .i64 i∧Blk wr w.heap.size 5 (u8s (padI Z (8*n) i))∧Below w.heap.size w wr)
 case atStart=>exact⟨0,by omega,rfl,rfl,hb2.out,hB2.out⟩
 case round =>
  clear hb2 hB2 c0 f0;obtain⟨i,hi,hgk,rfl,hb,hB⟩:=hrel;have HGK:=qh hgk;clear hgk
  by_cases hlt:i<8
  · have hpl:=zm6 Z (8*n) i om
    obtain⟨x,hx⟩:∃x,(padI Z (8*n) i)[Z+8-i]? = some x:=⟨_,ge9 om⟩;have c1:wr.cell? ⟨w.heap.size,Z+8-i,none⟩=some (.int .u8 x.toNat):=by rw[hb.cell,u8s_getElem?,hx];rfl
    have f1:=hb.frozen (Z+8-i);have hgl:=hb.lt;have HBS:Hid (8*(n:Int)/2^(8*i)%(256:Int)=((UInt8.ofNat (8*n/256^i)).toNat:Int)):=by have:=zut (8*n) i;rw[Int.natCast_mul]at this;exact this
    have HPS:=qh (zq9 Z (8*n) i hlt);clear hx hpl
    go_wp2_with fail
    rw[HBS.out]
    have hb3:Hid (Blk (wr.setCell ⟨w.heap.size,Z+8-i,none⟩ (.int .u8 (UInt8.ofNat (8*n/256^i)).toNat)) w.heap.size 5 (u8s (padI Z (8*n) (i+1)))):=by
     have:=hb.set_ (Z+8-i) (.int .u8 (UInt8.ofNat (8*n/256^i)).toNat);have e:(u8s (padI Z (8*n) i)).set (Z+8-i) (.int .u8 (UInt8.ofNat (8*n/256^i)).toNat)=u8s (padI Z (8*n) (i+1)):=by rw[←HPS.out];simp[u8s,List.map_set,u8]
     rw[e]at this;exact this
    have hB3:=qh (hB.setCell (p:=⟨w.heap.size,Z+8-i,none⟩) lr (.int .u8 (UInt8.ofNat (8*n/256^i)).toNat));go_roundg (8-(i+1))
    case measure=>have:=HGK.out;omega
    case rel=>exact⟨i+1,by omega,rfl,by go_num,hb3.out,hB3.out⟩
  · obtain rfl:i=8:=om
    rw[HPD.out]at hb;have hpl:(Sh.pad n).length=Z+9:=by rw[←HPD.out];exact zm6 Z (8*n) 8 om
    have HPL:=qh hpl;clear HPD hpl
    go_wp2_with fail
    go_ret;exact⟨by rw[HPL.out];rfl,hb,hB⟩
def SlX(w:World)(g:Nat)(v:Value)(l:List UInt8):Prop:=∃A n c,v=.slice A n c∧n≤c∧Rd w A n (u8s l)∧(0<n→∀ad:Addr,A=some ad→ad.block≠g)
def RdX(w:World)(g:Nat)(A:Option Addr)(n:Nat)(ls:List (List UInt8)):Prop :=
 ∃vs:List Value,Rd w A n vs∧(0<n→∀ad:Addr,A=some ad→ad.block≠g)∧ls.length=n∧∀(i:Nat) (v:Value),vs[i]? = some v→∃l,ls[i]? = some l∧SlX w g v l
theorem SlX.wrote{w w':World}{g:Nat}{v:Value}{l:List UInt8}(h:SlX w g v l)(hw:Wrote g w w'):SlX w' g v l:=by
 obtain⟨A,n,c,e,h1,h2,h3⟩:=h;exact⟨A,n,c,e,h1,h2.wrote hw h3,h3⟩
theorem RdX.wrote{w w':World}{g:Nat}{A:Option Addr}{n:Nat}{ls:List (List UInt8)}(h:RdX w g A n ls)(hw:Wrote g w w'):RdX w' g A n ls:=by
 obtain⟨vs,h1,h2,h3,h4⟩:=h;exact⟨vs,h1.wrote hw h2,h2,h3,fun i v hi=>let ⟨l,a,b⟩:=h4 i v hi;⟨l,a,b.wrote hw⟩⟩
theorem RdX.at_{w:World}{g:Nat}{A:Option Addr}{n:Nat}{ls:List (List UInt8)}(h:RdX w g A n ls){k:Nat}(hk:k<n):
 ∃b off A1 n1 c1 l,A=some ⟨b,off,none⟩∧Hid (ls[k]? = some l)∧w.cell? ⟨b,off+k,none⟩=some (.slice A1 n1 c1)∧n1≤c1∧Rd w A1 n1 (u8s l)∧(0<n1→∀ad:Addr,A1=some ad→ad.block≠g):=by
 obtain⟨vs,hr,_,hl,hv⟩:=h;obtain⟨b,off,u,rfl,hb,hu,hc⟩:=hr.at_ hk;obtain⟨l,h1,A1,n1,c1,rfl,h2,h3,h4⟩:=hv k u hu.out;exact⟨b,off,A1,n1,c1,l,rfl,h1,hc,h2,h3,h4⟩
theorem RdX.of{w:World}{g:Nat}{A:Option Addr}{n:Nat}{ls:List (List UInt8)}(h:RdB w A n ls)(hg:w.heap.size≤g):RdX w g A n ls:=by
 obtain⟨vs,h1,h2,h3⟩:=h;refine⟨vs,h1,h1.apart hg,h2,fun i v hi=>?_⟩;obtain⟨l,a,A1,n1,c1,rfl,b1,b2⟩:=h3 i v hi;exact⟨l,a,A1,n1,c1,rfl,b1,b2,b2.apart hg⟩
theorem SlX.below{w w':World}{g:Nat}{v:Value}{l:List UInt8}(h:SlX w g v l)(hb:Below w.heap.size w w'):SlX w' g v l:=by
 obtain⟨A,n,c,e,h1,h2,h3⟩:=h;exact⟨A,n,c,e,h1,h2.below hb,h3⟩
theorem RdX.below{w w':World}{g:Nat}{A:Option Addr}{n:Nat}{ls:List (List UInt8)}(h:RdX w g A n ls)(hb:Below w.heap.size w w'):RdX w' g A n ls:=by
 obtain⟨vs,h1,h2,h3,h4⟩:=h;exact⟨vs,h1.below hb,h2,h3,fun i v hi=>let ⟨l,a,b⟩:=h4 i v hi;⟨l,a,b.below hb⟩⟩
theorem zgi(g:Nat)(T:TypeId)(post:List Value)(l:List UInt8)(A:Option Addr)(n c:Nat)(ls:List (List UInt8))(w:World)(h:HashIn w g T post l)(hr:RdX w g A n ls)(hn:n≤1000000)(hl:l.length+ls.flatten.length≤1099511627776):
 Calls Tryz.prog 156 #[.pointer (some ⟨g,0,none⟩),.slice A n c] w fun e w'=>e=.returned (.pointer (some ⟨g,0,none⟩))∧HashIn w' g T post (l++ls.flatten)∧Wrote g w w':=by
 have HLS:Hid (ls.length=n):=by obtain⟨_,_,_,h,_⟩:=hr;exact h
 have HA:=qh (zsr g T post)
 go_enter Tryz.func156, Tryz.ntmps156
 go_wp2_with fail
 go_loopg [9] n (fun k q wr=>∃i:Nat,i≤n∧k=n-i∧q=.int .i64 i∧HashIn wr g T post (l++(ls.take i).flatten)∧Wrote g w wr)
 case atStart=>exact⟨0,by omega,rfl,rfl,by simpa using h,Wrote.refl _ _⟩
 case round =>
  clear h;obtain⟨i,hi,hgk,rfl,hin,hW⟩:=hrel;have HGK:=qh hgk;clear hgk
  by_cases hlt:i<n
  · obtain⟨b,off,A1,n1,c1,x,rfl,HX,hc,hn1,hr1,hA1⟩:=(hr.wrote hW).at_ hlt
    have hx:x.length=n1:=hr1.len;have hfl:=zcs ls i x HX.out
    have hle:(l++(ls.take i).flatten).length+n1≤1099511627776:=by
     have h1:=zb5 ls (i+1);rw[hfl,la9,hx]at h1;rw[la9];omega
    have HC:Hid (Calls Tryz.prog 176 #[.pointer (some ⟨g,0,none⟩),.slice A1 n1 c1] wr fun e w'=>e=.returned (.tuple #[])∧HashIn w' g T post (l++(ls.take i).flatten++x)∧Wrote g wr w'):=HA.out _ x A1 n1 c1 wr hin hr1 hn1 hA1 hle;have HFL:=qh hfl;have i0:(0:Int)≤(i:Int):=om;have i1:(i:Int)<(n:Int):=om;clear hx hfl hle hr1 hA1 hin
    go_wp2_with (go_at_call 176;(with_reducible refine HC.out.mono ?_);rintro e w2 ⟨rfl,hin2,hW2⟩;have HI2:=qh hin2;clear hin2)
    go_roundg (n-(i+1))
    case measure=>have:=HGK.out;omega
    case rel=>exact⟨i+1,by omega,rfl,by go_num,by rw[HFL.out,←as9];exact HI2.out,hW.trans hW2⟩
  · have HE:Hid (ls.take i=ls):=tk (by rw[HLS.out];omega)
    rw[HE.out]at hin
    go_wp2_with fail
    go_ret;exact⟨rfl,hin,hW⟩
theorem hd147:(Tryz.prog.info? 240).map (·.size)=some 73:=by kernel_rfl
theorem hd24:(Tryz.prog.info? 23).map (·.size)=some 32:=by kernel_rfl
theorem zc147:Tryz.zeroCells240 = (hCells [0,0,0,0,0,0,0,0] (List.replicate 64 0) 0 []).toArray:=by kernel_rfl
def outI(st:List UInt32)(i:Nat):List UInt8:=(st.take i).flatMap Sh.wordBytes++List.replicate (32-4*i) 0
theorem zeo(l:List UInt32):(l.flatMap Sh.wordBytes).length=4*l.length:=by
 induction l with
 | nil=>rfl
 | cons a l ih=>rw[List.flatMap_cons,la9,ih,List.length_cons];show 4+_=_;omega
theorem set4{α:Type}(P R:List α)(a b c d a' b' c' d':α)(k:Nat)(hk:P.length=k):((((P++a :: b :: c :: d :: R).set k a').set (k+1) b').set (k+2) c').set (k+3) d'=P++a' :: b' :: c' :: d' :: R:=by
 subst hk;rw[List.set_append_right _ _ lr,Nat.sub_self,List.set_append_right _ _ om,List.set_append_right _ _ om,List.set_append_right _ _ om,show P.length+1-P.length=1 by omega,show P.length+2-P.length=2 by omega,show P.length+3-P.length=3 by omega]
 rfl
theorem zrb{st:List UInt32}{i:Nat}{x:UInt32}(h8:st.length=8)(hx:st[i]? = some x):
 ((((u8s (outI st i)).set (4*i) (.int .u8 (x >>> 24).toUInt8.toNat)).set (4*i+1) (.int .u8 (x >>> 16).toUInt8.toNat)).set (4*i+2) (.int .u8 (x >>> 8).toUInt8.toNat)).set (4*i+3) (.int .u8 x.toUInt8.toNat)=u8s (outI st (i+1)):=by
 have hi:i<8:=by have:=(gi9.1 hx).1;omega
 have e1:outI st (i+1)=(st.take i).flatMap Sh.wordBytes++(x >>> 24).toUInt8 :: (x >>> 16).toUInt8 :: (x >>> 8).toUInt8 :: x.toUInt8 :: List.replicate (28-4*i) 0:=by
  unfold outI
  rw[List.take_add_one,hx,show 32-4*(i+1)=28-4*i by omega]
  simp[Sh.wordBytes]
 have e2:outI st i=(st.take i).flatMap Sh.wordBytes++0 :: 0 :: 0 :: 0 :: List.replicate (28-4*i) 0:=by
  unfold outI
  rw[show 32-4*i=(28-4*i)+4 by omega]
  rfl
 rw[e1,e2,zae,zae];have hl:(u8s ((st.take i).flatMap Sh.wordBytes)).length=4*i:=by rw[zaa,zeo,List.length_take];omega
 exact set4 _ _ _ _ _ _ _ _ _ _ _ hl
theorem b24(x:UInt32):n32 x/(16777216:Int)%(256:Int)=((x >>> 24).toUInt8.toNat:Int):=by
 unfold n32
 rw[show(x.toNat:Int)/(16777216:Int)=((x >>> 24).toNat:Int) from zgl x 24 om,UInt32.toNat_toUInt8];omega
theorem b16(x:UInt32):n32 x/(65536:Int)%(256:Int)=((x >>> 16).toUInt8.toNat:Int):=by
 unfold n32
 rw[show(x.toNat:Int)/(65536:Int)=((x >>> 16).toNat:Int) from zgl x 16 om,UInt32.toNat_toUInt8];omega
theorem b8(x:UInt32):n32 x/(256:Int)%(256:Int)=((x >>> 8).toUInt8.toNat:Int):=by
 unfold n32
 rw[show(x.toNat:Int)/(256:Int)=((x >>> 8).toNat:Int) from zgl x 8 om,UInt32.toNat_toUInt8];omega
theorem b0(x:UInt32):n32 x%(256:Int)=(x.toUInt8.toNat:Int):=by
 unfold n32
 rw[UInt32.toNat_toUInt8];omega
theorem zui(s0 s1 s2 s3 s4 s5 s6 s7:UInt32)(W:World):(Instr.index 195 (.agg #[.int .u32 (n32 s0),.int .u32 (n32 s1),.int .u32 (n32 s2),.int .u32 (n32 s3),.int .u32 (n32 s4),.int .u32 (n32 s5),.int .u32 (n32 s6),.int .u32 (n32 s7)]) (.int .i64 ((0:Nat):Int))).run Tryz.prog W=.ok (.int .u32 (n32 s0)) W:=by kernel_rfl
theorem zuh(s0 s1 s2 s3 s4 s5 s6 s7:UInt32)(W:World):(Instr.index 195 (.agg #[.int .u32 (n32 s0),.int .u32 (n32 s1),.int .u32 (n32 s2),.int .u32 (n32 s3),.int .u32 (n32 s4),.int .u32 (n32 s5),.int .u32 (n32 s6),.int .u32 (n32 s7)]) (.int .i64 ((1:Nat):Int))).run Tryz.prog W=.ok (.int .u32 (n32 s1)) W:=by kernel_rfl
theorem zug(s0 s1 s2 s3 s4 s5 s6 s7:UInt32)(W:World):(Instr.index 195 (.agg #[.int .u32 (n32 s0),.int .u32 (n32 s1),.int .u32 (n32 s2),.int .u32 (n32 s3),.int .u32 (n32 s4),.int .u32 (n32 s5),.int .u32 (n32 s6),.int .u32 (n32 s7)]) (.int .i64 ((2:Nat):Int))).run Tryz.prog W=.ok (.int .u32 (n32 s2)) W:=by kernel_rfl
theorem zuf(s0 s1 s2 s3 s4 s5 s6 s7:UInt32)(W:World):(Instr.index 195 (.agg #[.int .u32 (n32 s0),.int .u32 (n32 s1),.int .u32 (n32 s2),.int .u32 (n32 s3),.int .u32 (n32 s4),.int .u32 (n32 s5),.int .u32 (n32 s6),.int .u32 (n32 s7)]) (.int .i64 ((3:Nat):Int))).run Tryz.prog W=.ok (.int .u32 (n32 s3)) W:=by kernel_rfl
theorem zue(s0 s1 s2 s3 s4 s5 s6 s7:UInt32)(W:World):(Instr.index 195 (.agg #[.int .u32 (n32 s0),.int .u32 (n32 s1),.int .u32 (n32 s2),.int .u32 (n32 s3),.int .u32 (n32 s4),.int .u32 (n32 s5),.int .u32 (n32 s6),.int .u32 (n32 s7)]) (.int .i64 ((4:Nat):Int))).run Tryz.prog W=.ok (.int .u32 (n32 s4)) W:=by kernel_rfl
theorem zud(s0 s1 s2 s3 s4 s5 s6 s7:UInt32)(W:World):(Instr.index 195 (.agg #[.int .u32 (n32 s0),.int .u32 (n32 s1),.int .u32 (n32 s2),.int .u32 (n32 s3),.int .u32 (n32 s4),.int .u32 (n32 s5),.int .u32 (n32 s6),.int .u32 (n32 s7)]) (.int .i64 ((5:Nat):Int))).run Tryz.prog W=.ok (.int .u32 (n32 s5)) W:=by kernel_rfl
theorem zuc(s0 s1 s2 s3 s4 s5 s6 s7:UInt32)(W:World):(Instr.index 195 (.agg #[.int .u32 (n32 s0),.int .u32 (n32 s1),.int .u32 (n32 s2),.int .u32 (n32 s3),.int .u32 (n32 s4),.int .u32 (n32 s5),.int .u32 (n32 s6),.int .u32 (n32 s7)]) (.int .i64 ((6:Nat):Int))).run Tryz.prog W=.ok (.int .u32 (n32 s6)) W:=by kernel_rfl
theorem zub(s0 s1 s2 s3 s4 s5 s6 s7:UInt32)(W:World):(Instr.index 195 (.agg #[.int .u32 (n32 s0),.int .u32 (n32 s1),.int .u32 (n32 s2),.int .u32 (n32 s3),.int .u32 (n32 s4),.int .u32 (n32 s5),.int .u32 (n32 s6),.int .u32 (n32 s7)]) (.int .i64 ((7:Nat):Int))).run Tryz.prog W=.ok (.int .u32 (n32 s7)) W:=by kernel_rfl
theorem idx144(s0 s1 s2 s3 s4 s5 s6 s7 x:UInt32)(i:Nat)(h:[s0,s1,s2,s3,s4,s5,s6,s7][i]? = some x)(W:World):(Instr.index 195 (.agg #[.int .u32 (n32 s0),.int .u32 (n32 s1),.int .u32 (n32 s2),.int .u32 (n32 s3),.int .u32 (n32 s4),.int .u32 (n32 s5),.int .u32 (n32 s6),.int .u32 (n32 s7)]) (.int .i64 i)).run Tryz.prog W=.ok (.int .u32 (n32 x)) W:=by
 have hi:i<8:=(gi9.1 h).1;have hc:i=0∨i=1∨i=2∨i=3∨i=4∨i=5∨i=6∨i=7:=om
 rcases hc with rfl|rfl|rfl|rfl|rfl|rfl|rfl|rfl
 · have e:s0=x:=by simpa using h
   subst e;exact zui _ _ _ _ _ _ _ _ W
 · have e:s1=x:=by simpa using h
   subst e;exact zuh _ _ _ _ _ _ _ _ W
 · have e:s2=x:=by simpa using h
   subst e;exact zug _ _ _ _ _ _ _ _ W
 · have e:s3=x:=by simpa using h
   subst e;exact zuf _ _ _ _ _ _ _ _ W
 · have e:s4=x:=by simpa using h
   subst e;exact zue _ _ _ _ _ _ _ _ W
 · have e:s5=x:=by simpa using h
   subst e;exact zud _ _ _ _ _ _ _ _ W
 · have e:s6=x:=by simpa using h
   subst e;exact zuc _ _ _ _ _ _ _ _ W
 · have e:s7=x:=by simpa using h
   subst e;exact zub _ _ _ _ _ _ _ _ W
theorem zd4{w:World}{g o:Nat}{cs:List Value}(h:w.rangeAt g o cs)(ob:Obj):(w.alloc ob).rangeAt g o cs:=fun j v hv=>by
 have:=h j v hv;rw[World.cell?_alloc_lt w ob ⟨g,o+j,none⟩ (World.block_lt_of_cell? w _ this)];exact this
theorem Blk.rdAll{w:World}{g:Nat}{t:TypeId}{l:List UInt8}(h:Blk w g t (u8s l)):Rd w (some ⟨g,0,none⟩) l.length (u8s l):=by
 have:=h.rd 0 l.length (by rw[zaa];omega)
 rwa [List.drop_zero,tk (by rw[zaa];exact lr)]at this
theorem eight{st:List UInt32}(h:st.length=8):∃s0 s1 s2 s3 s4 s5 s6 s7,st=[s0,s1,s2,s3,s4,s5,s6,s7]:=by
 match st,h with
 | [a,b,c,d,e,f,g,k],_=>exact⟨a,b,c,d,e,f,g,k,rfl⟩
theorem znn(g:Nat)(T:TypeId)(post:List Value)(l:List UInt8)(w:World)(h:HashIn w g T post l)(hl:l.length≤1000000000000):
 Calls Tryz.prog 177 #[.pointer (some ⟨g,0,none⟩)] w fun e w'=>e=.returned (.agg (u8s (Sh.sha l)).toArray)∧Below w.heap.size w w':=by
 obtain⟨st,op,hb,hst⟩:=h;obtain⟨N,hN⟩:∃N,l.length=N:=⟨_,rfl⟩;rw[hN]at hb;have HI1:Hid ((Tryz.prog.info? 240).map (·.size)=some (hCells st op N []).length):=by rw[zb9 hst.len hst.olen];exact hd147
 have HO1:Hid (∀v∈hCells st op N [],v.oneCell'=true):=by
  intro v hv
  unfold hCells at hv
  rcases List.mem_append.1 hv with hv|hv
  · exact zba _ v hv
  · rcases List.mem_append.1 hv with hv|hv
    · exact zac _ v hv
    · simp at hv;subst hv;rfl
 have HR1:Hid (w.rangeAt g 0 (hCells st op N [])):=hb.mid 0 _ (fun j v hv=>by
  have:hCells st op N post=hCells st op N []++post:=by unfold hCells;simp
  rw[Nat.zero_add,this]
  rwa [ll9 (gi9.1 hv).1])
 have HL1:Hid ((hCells st op N []).length=(hCells [0,0,0,0,0,0,0,0] (List.replicate 64 0) 0 []).length):=by show _=_;rw[zb9 hst.len hst.olen];rfl
 have c72:=(hb.cell 72).trans (zdn hst.len hst.olen);have hgl:=hb.lt;have hN2:N≤1000000000000:=om;have HPA:=qh (fun W=>zlv N W om);have HPL:Hid ((Sh.pad N).length≤128):=by show _≤_;simp[Sh.pad,Sh.beBytes_len];omega
 have HN:=qh hN;have HST:=qh hst;have HBK:=qh hb;obtain⟨H,hH⟩:=ex9 (hCells st op N []);rw[←hH]at HI1 HO1 HR1 HL1;have HH:=qh hH;clear hN hst hH hb
 go_enter Tryz.func177, Tryz.ntmps177
 go_wp2_with (first
  | refine wpList_load_mid rfl 240 (.tmp 8) rfl g 0 rr H _ (by exact zd4 HR1.out _) Tryz.underlying240 rfl HI1.out ?_
  | (refine zab rfl 240 (.tmp 3) (.tmp 9) rfl (w.heap.size+1) H rr rr 240 _ (by exact Blk.new' sy zc147) HI1.out HO1.out HL1.out ?_;intro w3 hb3 ho3;have hg3:w3.cell? ⟨g,72,none⟩=some (.int .i64 N):=((ho3.blk ((HBK.out.alloc _).alloc _) om).cell 72).trans (zdn HST.out.len HST.out.olen);have hs3:w.heap.size+1<w3.heap.size:=by have:=hb3.lt;omega
     have HH3:Hid (HashIn w3 (w.heap.size+1) 240 [] l):=⟨st,op,by rw[HN.out,←HH.out];exact hb3,HST.out⟩;have HB3:Hid (Below w.heap.size w w3):=ho3.below (((Below.refl _ _).alloc lr _).alloc sy _) om (by simp;omega);have HZ3:Hid (Blk w3 w.heap.size 23 (u8s (List.replicate 32 0))):=ho3.blk ((Blk.new' rfl rfl).alloc _) om
     clear ho3 hb3)
  | (go_at_call 188;(with_reducible refine(HPA.out _).mono ?_);rintro e w4 ⟨rfl,hb4,hB4⟩;have HH4:=qh (HH3.out.below hB4);have hl4:=HH3.out.lt)
  | (go_at_call 176;refine(zsr (w.heap.size+1) 240 [] l (Sh.pad N) _ _ _ _ HH4.out (by exact hb4.rdAll) lr (fun _ ad e=>by injection e with e;subst e;show w3.heap.size≠w.heap.size+1;omega) (by rw[HN.out];have:=HPL.out;omega)).mono ?_;rintro e w5 ⟨rfl,hin5,hW5⟩;obtain⟨st5,op5,hb5,hst5⟩:=hin5;have HSM:Hid (st5.flatMap Sh.wordBytes=Sh.sha l):=by { have h6:=hst5;rw[←HN.out]at h6;exact h6.sum }
     have HL5:=qh hst5.len;obtain⟨s0,s1,s2,s3,s4,s5,s6,s7,e8⟩:=eight hst5.len;rw[e8]at hb5 HSM HL5;have hl5:=hb5.lt;have d0:w5.cell? ⟨w.heap.size+1,0,none⟩=some (.int .u32 (n32 s0)):=hb5.cell 0;have d1:w5.cell? ⟨w.heap.size+1,1,none⟩=some (.int .u32 (n32 s1)):=hb5.cell 1;have d2:w5.cell? ⟨w.heap.size+1,2,none⟩=some (.int .u32 (n32 s2)):=hb5.cell 2;have d3:w5.cell? ⟨w.heap.size+1,3,none⟩=some (.int .u32 (n32 s3)):=hb5.cell 3;have d4:w5.cell? ⟨w.heap.size+1,4,none⟩=some (.int .u32 (n32 s4)):=hb5.cell 4;have d5:w5.cell? ⟨w.heap.size+1,5,none⟩=some (.int .u32 (n32 s5)):=hb5.cell 5;have d6:w5.cell? ⟨w.heap.size+1,6,none⟩=some (.int .u32 (n32 s6)):=hb5.cell 6;have d7:w5.cell? ⟨w.heap.size+1,7,none⟩=some (.int .u32 (n32 s7)):=hb5.cell 7;have hwr:Below w3.heap.size w3 w4:=hB4;have HB5:Hid (Below w.heap.size w w5):=by { have h7:=HB3.out.trans (hB4.mono HB3.out.size);exact Wrote.below hW5 h7 om h7.size }
     have HZ5:Hid (Blk w5 w.heap.size 23 (u8s (List.replicate 32 0))):=Blk.wrote (HZ3.out.below hB4 om) hW5 om
     clear hb5 hst5 e8 hW5 hb4 hB4 hwr))
 have HB6:Hid (Below w.heap.size w (w5.alloc (.cells (u8s (outI [s0,s1,s2,s3,s4,s5,s6,s7] 0)).toArray 23))):=HB5.out.alloc HB5.out.size _;clear d0 d1 d2 d3 d4 d5 d6 d7 hg3 c72
 go_loopg [19] 8 (fun k q wr=>∃i:Nat,i≤8∧k=8-i∧q=.int .i64 i∧Blk wr w5.heap.size 23 (u8s (outI [s0,s1,s2,s3,s4,s5,s6,s7] i))∧Blk wr w.heap.size 23 (u8s (List.replicate 32 0))∧Below w.heap.size w wr)
 case atStart=>exact⟨0,by omega,rfl,rfl,Blk.new' rfl rfl,HZ5.out.alloc _,HB6.out⟩
 case round =>
  obtain⟨i,hi,hgk,rfl,hb,hz,hB⟩:=hrel;have HGK:=qh hgk;clear hgk
  by_cases hlt:i<8
  · obtain⟨x,hx⟩:∃x,[s0,s1,s2,s3,s4,s5,s6,s7][i]? = some x:=⟨_,ge9 (by exact hlt)⟩
    have hidx:=idx144 s0 s1 s2 s3 s4 s5 s6 s7 x i hx;have HOS:=qh (zrb (st:=[s0,s1,s2,s3,s4,s5,s6,s7]) rfl hx);have hol:(outI [s0,s1,s2,s3,s4,s5,s6,s7] i).length=32:=by unfold outI;rw[la9,zeo,List.length_take,lp9];show 4*min i 8+_=_;omega
    obtain⟨O,hO⟩:=ex9 (outI [s0,s1,s2,s3,s4,s5,s6,s7] i);rw[←hO]at hb HOS hol;clear hx hO;have hgl6:=hb.lt;obtain⟨y0,hy0⟩:∃y,O[4*i]? = some y:=⟨_,ge9 om⟩;have q0:wr.cell? ⟨w5.heap.size,4*i,none⟩=some (.int .u8 y0.toNat):=by rw[hb.cell,u8s_getElem?,hy0];rfl
    have f0:=hb.frozen (4*i);clear hy0;obtain⟨y1,hy1⟩:∃y,O[4*i+1]? = some y:=⟨_,ge9 om⟩;have q1:wr.cell? ⟨w5.heap.size,4*i+1,none⟩=some (.int .u8 y1.toNat):=by rw[hb.cell,u8s_getElem?,hy1];rfl
    have f1:=hb.frozen (4*i+1);clear hy1;obtain⟨y2,hy2⟩:∃y,O[4*i+2]? = some y:=⟨_,ge9 om⟩;have q2:wr.cell? ⟨w5.heap.size,4*i+2,none⟩=some (.int .u8 y2.toNat):=by rw[hb.cell,u8s_getElem?,hy2];rfl
    have f2:=hb.frozen (4*i+2);clear hy2;obtain⟨y3,hy3⟩:∃y,O[4*i+3]? = some y:=⟨_,ge9 om⟩;have q3:wr.cell? ⟨w5.heap.size,4*i+3,none⟩=some (.int .u8 y3.toNat):=by rw[hb.cell,u8s_getElem?,hy3];rfl
    have f3:=hb.frozen (4*i+3);clear hy3;have z24:=b24 x;have z16:=b16 x;have z8:=b8 x;have z0:=b0 x;have HZ4:=qh (And.intro z24 (And.intro z16 (And.intro z8 z0)));clear z24 z16 z8 z0
    go_wp2_with fail
    rw[HZ4.out.1,HZ4.out.2.1,HZ4.out.2.2.1,HZ4.out.2.2.2];have hb7:=qh ((((hb.set_ (4*i) (.int .u8 (x >>> 24).toUInt8.toNat)).set_ (4*i+1) (.int .u8 (x >>> 16).toUInt8.toNat)).set_ (4*i+2) (.int .u8 (x >>> 8).toUInt8.toNat)).set_ (4*i+3) (.int .u8 x.toUInt8.toNat));rw[HOS.out]at hb7;have hne:w.heap.size≠w5.heap.size:=om;have hz7:=qh ((((hz.far (p:=⟨w5.heap.size,4*i,none⟩) hne (.int .u8 (x >>> 24).toUInt8.toNat)).far (p:=⟨w5.heap.size,4*i+1,none⟩) hne (.int .u8 (x >>> 16).toUInt8.toNat)).far (p:=⟨w5.heap.size,4*i+2,none⟩) hne (.int .u8 (x >>> 8).toUInt8.toNat)).far (p:=⟨w5.heap.size,4*i+3,none⟩) hne (.int .u8 x.toUInt8.toNat));have hle:w.heap.size≤w5.heap.size:=om;have hB7:=qh ((((hB.setCell (p:=⟨w5.heap.size,4*i,none⟩) hle (.int .u8 (x >>> 24).toUInt8.toNat)).setCell (p:=⟨w5.heap.size,4*i+1,none⟩) hle (.int .u8 (x >>> 16).toUInt8.toNat)).setCell (p:=⟨w5.heap.size,4*i+2,none⟩) hle (.int .u8 (x >>> 8).toUInt8.toNat)).setCell (p:=⟨w5.heap.size,4*i+3,none⟩) hle (.int .u8 x.toUInt8.toNat));go_roundg (8-(i+1))
    case measure=>have:=HGK.out;omega
    case rel=>exact⟨i+1,by omega,rfl,by go_num,hb7.out,hz7.out,hB7.out⟩
  · obtain rfl:i=8:=om
    have hE:outI [s0,s1,s2,s3,s4,s5,s6,s7] 8=Sh.sha l:=by rw[←HSM.out];unfold outI;simp
    rw[hE]at hb;have HIO:Hid ((Tryz.prog.info? 23).map (·.size)=some (u8s (Sh.sha l)).length):=by rw[zaa,Sh.sha_len];exact hd24
    have HLO:Hid ((u8s (Sh.sha l)).length=(u8s (List.replicate 32 0)).length):=by show _=_;rw[zaa,Sh.sha_len];rfl
    clear hE HSM
    go_wp2_with (first
     | refine wpList_load_mid rfl 23 (.tmp 4) rfl w5.heap.size 0 rr (u8s (Sh.sha l)) _ hb.range Tryz.underlying23 rfl HIO.out ?_
     | (refine zab rfl 23 (.tmp 2) (.tmp 50) rfl w.heap.size (u8s (Sh.sha l)) rr rr 23 _ hz HIO.out (zac _) HLO.out ?_;intro w8 hb8 ho8))
    exact bodyPost_ret (zam rfl _ w.heap.size _ _ rfl hb8 _ Tryz.underlying23 rfl HIO.out) rfl ⟨rfl,ho8.below hB lr hB.size⟩
theorem zpo(A:Option Addr)(n c:Nat)(ls:List (List UInt8))(w:World)(h:RdB w A n ls)(hn:n≤1000000)(hl:ls.flatten.length≤1000000000):
 Calls Tryz.prog 178 #[.slice A n c] w fun e w'=>e=.returned (.agg (u8s (Sh.sha ls.flatten)).toArray)∧Below w.heap.size w w':=by
 have HX:Hid (RdX ((w.alloc (.cells (u8s (List.replicate 32 0)).toArray 23)).alloc (.cells Tryz.zeroCells240 240)) (w.heap.size+1) A n ls):=((RdX.of (g:=w.heap.size+1) h om).below (((Below.refl _ _).alloc lr _).alloc sy _));have HH:Hid (HashIn ((w.alloc (.cells (u8s (List.replicate 32 0)).toArray 23)).alloc (.cells Tryz.zeroCells240 240)) (w.heap.size+1) 240 [] []):=⟨_,_,Blk.new' sy zc147,Sh.hst_nil _ _ rfl sy⟩;have HB:Hid (Below w.heap.size w ((w.alloc (.cells (u8s (List.replicate 32 0)).toArray 23)).alloc (.cells Tryz.zeroCells240 240))):=((Below.refl _ _).alloc lr _).alloc sy _;have HZ:Hid (Blk ((w.alloc (.cells (u8s (List.replicate 32 0)).toArray 23)).alloc (.cells Tryz.zeroCells240 240)) w.heap.size 23 (u8s (List.replicate 32 0))):=(Blk.new w _ _).alloc _;have HWR:=qh (zgi (w.heap.size+1) 240 [] [] A n c ls _ HH.out HX.out hn (by rw[List.length_nil];omega));have HIO:Hid ((Tryz.prog.info? 23).map (·.size)=some (u8s (Sh.sha ls.flatten)).length):=by rw[zaa,Sh.sha_len];exact hd24
 have HLO:Hid ((u8s (Sh.sha ls.flatten)).length=(u8s (List.replicate 32 0)).length):=by show _=_;rw[zaa,Sh.sha_len];rfl
 have HSH:=qh (fun W (hin:HashIn W (w.heap.size+1) 240 [] ls.flatten)=>znn (w.heap.size+1) 240 [] ls.flatten W hin om)
 go_enter Tryz.func178, Tryz.ntmps178
 go_wp2_with (first
  | (go_at_call 156;refine HWR.out.mono ?_;rintro e w2 ⟨rfl,hin2,hW2⟩;have HI2:=qh hin2;have HB2:Hid (Below w.heap.size w w2):=Wrote.below hW2 HB.out om HB.out.size;have HZ2:Hid (Blk w2 w.heap.size 23 (u8s (List.replicate 32 0))):=Blk.wrote HZ.out hW2 om;clear hin2 hW2)
  | (go_at_call 177;refine(HSH.out _ HI2.out).mono ?_;rintro e w3 ⟨rfl,hB3⟩;have HZ3:Hid (Blk w3 w.heap.size 23 (u8s (List.replicate 32 0))):=HZ2.out.below hB3 HZ2.out.lt;have HB3:Hid (Below w.heap.size w w3):=HB2.out.trans (hB3.mono HB2.out.size);clear hB3)
  | (refine zab rfl 23 (.tmp 2) (.tmp 6) rfl w.heap.size (u8s (Sh.sha ls.flatten)) rr rr 23 _ HZ3.out HIO.out (zac _) HLO.out ?_;intro w8 hb8 ho8))
 exact bodyPost_ret (zam rfl _ w.heap.size _ _ rfl hb8 _ Tryz.underlying23 rfl HIO.out) rfl ⟨rfl,ho8.below HB3.out lr HB3.out.size⟩
def beNat(l:List UInt8):Nat:=l.foldl (fun n c=>n*256+c.toNat) 0
theorem zft(l:List UInt8)(c:UInt8):beNat (l++[c])=beNat l*256+c.toNat:=by simp[beNat]
theorem zix(l:List UInt8):∀n,l.foldl (fun n c=>n*256+c.toNat) n=n*256^l.length+beNat l:=by
 induction l with
 | nil=>intro n;simp[beNat]
 | cons c l ih =>
  intro n;have h1:=ih (n*256+c.toNat);have h2:=ih (0*256+c.toNat);simp only[List.foldl_cons,List.length_cons,beNat]at h1 h2 ⊢;rw[h1,h2,Nat.pow_succ,Nat.add_mul,Nat.zero_mul,Nat.zero_add,Nat.mul_assoc,Nat.mul_comm 256,Nat.add_assoc]
theorem ziy(c:UInt8)(l:List UInt8):beNat (c :: l)=c.toNat*256^l.length+beNat l:=by
 have:=zix l (0*256+c.toNat);rw[Nat.zero_mul,Nat.zero_add]at this;rw[←this]
 simp[beNat]
theorem zj6(l:List UInt8):beNat l<256^l.length:=by
 induction l with
 | nil=>simp[beNat]
 | cons c l ih =>
  rw[ziy,List.length_cons,Nat.pow_succ];have h:=c.toNat_lt;have:c.toNat*256^l.length≤255*256^l.length:=Nat.mul_le_mul_right _ om;omega
theorem zw4(m:Nat)(x:UInt8)(h:m<72057594037927936):bits .or .u64 (IntKind.u64.wrap ((m:Int)*256)) (IntKind.u64.wrap (x.toNat:Int))=((m*256+x.toNat:Nat):Int):=by
 have hx:=x.toNat_lt
 rw [show IntKind.u64.wrap ((m:Int)*256)=((m*256:Nat):Int) from by rw[IntKind.wrap_u64];omega,show IntKind.u64.wrap (x.toNat:Int)=((x.toNat:Nat):Int) from by rw[IntKind.wrap_u64];omega,
   bits_or_u64_nat _ _ om om]
 have:=Nat.two_pow_add_eq_or_of_lt (b:=x.toNat) (i:=8) om m;rw[Nat.mul_comm m 256];exact congrArg Int.ofNat (by simpa using this.symm)
theorem zkl{j k:Nat}(h:j<k)(h2:k≤8):256^j≤72057594037927936:=by
 have:256^j≤256^7:=Nat.pow_le_pow_right om om
 simpa using this
theorem zvr(n:Int)(h1:1≤n)(h2:n≤8)(w:World):Calls Tryz.prog 108 #[.int .i64 2,.int .i64 n] w fun e w'=>e=.returned (.bool true)∧w=w':=by
 have e1:decide (1≤n)=true:=by simpa using h1
 have e2:decide (n≤8)=true:=by simpa using h2
 go_enter Tryz.func108, Tryz.ntmps108
 go_wp2;go_ret;exact⟨by simp,rfl⟩
theorem get_2(A:Option Addr)(n c at_ k:Nat)(l:List UInt8)(w:World)(h:Rd w A n (u8s l))(hn:n≤140737488355328)(h1:1≤k)(h2:k≤8)(h3:at_+k≤n):
 Calls Tryz.prog 74 #[.int .i64 2,.slice A n c,.int .i64 at_,.int .i64 k] w fun e w'=>e=.returned (.tuple #[.int .u64 (beNat ((l.drop at_).take k)),.int .i64 0])∧w=w':=by
 have hl:=h.len;have HL:=qh hl;clear hl;have e1:decide ((at_:Int)<0)=false:=by simp
 have e2:decide ((n:Int)<(at_:Int))=false:=by simp;omega
 have e3:decide ((n:Int)-(at_:Int)<(k:Int))=false:=by simp;omega
 go_enter Tryz.func74, Tryz.ntmps74
 go_wp2_with (go_at_call 108;refine(zvr _ om om _).mono ?_;rintro e w' ⟨rfl,rfl⟩)
 go_loop [10,11] (fun m i=>∃j:Nat,j≤k∧i=.int .i64 j∧m=.int .u64 (beNat ((l.drop at_).take j))) (fun _ i=>k-(intOf i).toNat)
 case atStart=>exact⟨0,Nat.zero_le _,rfl,rfl⟩
 case round =>
  obtain⟨j,hj,rfl,rfl⟩:=hrel
  by_cases hlt:j<k
  · obtain⟨b,off,x,rfl,hb,HX,hc⟩:=h.u8 (k:=at_+j) om
    have hbd:=zj6 ((l.drop at_).take j)
    have hs:beNat ((l.drop at_).take (j+1))=beNat ((l.drop at_).take j)*256+x.toNat:=by
     rw[List.take_add_one,List.getElem?_drop,HX.out];exact zft _ _
    have HS:=qh hs;have HBD:=qh hbd;have i0:(0:Int)≤(at_:Int)+(j:Int):=om;have i1:(at_:Int)+(j:Int)<(n:Int):=om;clear hs hbd;generalize beNat ((l.drop at_).take j)=m at *;have hm:m<72057594037927936:=Nat.lt_of_lt_of_le HBD.out (Nat.le_trans (Nat.pow_le_pow_right om (List.length_take_le _ _)) (zkl hlt h2));have hor:=zw4 m x hm;have HO:=qh hor;clear hor HBD hm;go_wp2
    go_round
    case rel=>exact⟨j+1,by omega,by go_num,by rw[HO.out,HS.out]⟩
    case measure=>simp[intOf];omega
  · have:j=k:=om
    subst this;go_wp2;go_ret2;exact⟨rfl,rfl⟩
theorem zqi(j m:Nat)(x:UInt8)(hj:j≤7)(hm:m<256^j):
 IntKind.u64.wrap (((256^j%18446744073709551616:Nat):Int)*256)=((256^(j+1)%18446744073709551616:Nat):Int) ∧
 IntKind.u64.wrap ((m:Int)+IntKind.u64.wrap (((256^j%18446744073709551616:Nat):Int)*IntKind.u64.wrap (x.toNat:Int)))=((m+256^j*x.toNat:Nat):Int):=by
 have hp:256^j≤72057594037927936:=zkl (k:=8) om om;have hx:=x.toNat_lt;rw[Nat.pow_succ];generalize 256^j=P at *;have hmul:P*x.toNat≤P*255:=Nat.mul_le_mul_left _ om;have e1:P%18446744073709551616=P:=Nat.mod_eq_of_lt om;rw[e1];have e2:IntKind.u64.wrap (x.toNat:Int)=(x.toNat:Int):=by rw[IntKind.wrap_u64];omega
 rw[e2];have e3:(P:Int)*(x.toNat:Int)=((P*x.toNat:Nat):Int):=by simp
 rw[e3];generalize P*x.toNat=Y at *
 constructor
 · rw[IntKind.wrap_u64];omega
 · rw[IntKind.wrap_u64,IntKind.wrap_u64];omega
theorem beBytes_len(n k:Nat):(Sh.beBytes n k).length=k:=by
 induction k with
 | zero=>rfl
 | succ k ih=>simp[Sh.beBytes,ih]
theorem zek(n i:Nat):(n:Int)/2^(8*i)%256=((UInt8.ofNat (n/256^i)).toNat:Int):=by
 have e1:(n:Int)/2^(8*i)=((n/256^i:Nat):Int):=by
  have:((2:Int)^(8*i))=((256^i:Nat):Int):=by rw[Int.pow_mul];simp
  rw[this];rfl
 rw[e1,UInt8.toNat_ofNat'];omega
def putI(n k i:Nat):List UInt8:=List.replicate (k-i) 0++Sh.beBytes n i
theorem zjb(n k i:Nat)(h:i≤k):(putI n k i).length=k:=by simp[putI,beBytes_len];omega
theorem zja(n k i p:Nat)(h:i<k)(hp:p=k-1-i):(putI n k i).set p (UInt8.ofNat (n/256^i))=putI n k (i+1):=by
 subst hp
 unfold putI
 rw[show k-i=(k-(i+1))+1 by omega,List.replicate_succ',as9,List.set_append_right _ _ (by simp;omega)]
 simp[Sh.beBytes,show k-1-i-(k-(i+1))=0 by omega]
theorem put_4(n:Nat)(w:World)(_hn:n<18446744073709551616)(hf:n<4294967296):
 Calls Tryz.prog 102 #[.int .i64 2,.int .i64 4,.int .u64 (n:Int)] w fun e w'=>e=.returned (.tuple #[.slice (some ⟨w.heap.size,0,none⟩) 4 4,.int .i64 0])∧Blk w' w.heap.size 5 (u8s (Sh.beBytes n 4))∧Below w.heap.size w w':=by
 have hz:((n:Int)/4294967296 != 0)=false:=by rw[bne_eq_false_iff_eq];omega
 go_enter Tryz.func102, Tryz.ntmps102
 go_wp2_with (first
  | (go_at_call 108;go_in)
  | (refine zao rfl (.tmp 25) (.tmp 25) 22 rfl 5 (.int .u8 0) 1 Tryz.underlying22 iU8 rfl .i64 .i64 4 4 rr rr 4 4 rfl rfl om om om ?_;intro w1 hb1 hg1 hs1;have HB1:Hid (Blk w1 w.heap.size 5 (u8s (putI n 4 0))):=hb1;have HE1:Hid (Below w.heap.size w w1):=zaf hg1;clear hb1 hg1 hs1))
 go_loopg [29] 4 (fun kk q wr=>∃i:Nat,i≤4∧kk=4-i∧q=.int .i64 i∧Blk wr w.heap.size 5 (u8s (putI n 4 i))∧Below w.heap.size w wr)
 case atStart=>exact⟨0,by omega,rfl,rfl,HB1.out,HE1.out⟩
 case round =>
  clear HB1 HE1;obtain⟨i,hi,hgk,rfl,hb,hB⟩:=hrel;have HGK:=qh hgk;clear hgk
  by_cases hlt:i<4
  · have hlt2:(i:Int)<4:=om
    obtain⟨p,hp⟩:=ex9 (4-1-i);have hpi:(3:Int)-(i:Int)=(p:Int):=om;have hp0:(0:Int)≤(p:Int):=om;have hp1:(p:Int)<4:=om;have HS:=qh (zja n 4 i p hlt hp);have hpl:=zjb n 4 i hi;obtain⟨x,hx⟩:∃x,(putI n 4 i)[p]? = some x:=⟨_,ge9 om⟩;have cx:wr.cell? ⟨w.heap.size,p,none⟩=some (.int .u8 x.toNat):=by rw[hb.cell,u8s_getElem?,hx];rfl
    have fx:=hb.frozen p;have HSB:=qh (zek n i);have hb2:=qh (hb.set_ p (.int .u8 (UInt8.ofNat (n/256^i)).toNat));rw[zbc,HS.out]at hb2;have hB2:=qh (hB.setCell (p:=⟨w.heap.size,p,none⟩) lr (.int .u8 (UInt8.ofNat (n/256^i)).toNat));have hgl:=hb.lt;clear hx hpl hb hp
    go_wp2_with fail
    rw[HSB.out];go_roundg (4-(i+1))
    case measure=>have:=HGK.out;omega
    case rel=>exact⟨i+1,by omega,rfl,by go_num,hb2.out,hB2.out⟩
  · obtain rfl:i=4:=om
    have hlt2:¬((4:Nat):Int)<4:=om;have HB:=qh hb;rw[show putI n 4 4=Sh.beBytes n 4 from rfl]at HB;clear hb
    go_wp2_with fail
    go_ret2;exact⟨rfl,HB.out,hB⟩
theorem put_8(n:Nat)(w:World)(_hn:n<18446744073709551616):
 Calls Tryz.prog 102 #[.int .i64 2,.int .i64 8,.int .u64 (n:Int)] w fun e w'=>e=.returned (.tuple #[.slice (some ⟨w.heap.size,0,none⟩) 8 8,.int .i64 0])∧Blk w' w.heap.size 5 (u8s (Sh.beBytes n 8))∧Below w.heap.size w w':=by
 go_enter Tryz.func102, Tryz.ntmps102
 go_wp2_with (first
  | (go_at_call 108;go_in)
  | (refine zao rfl (.tmp 25) (.tmp 25) 22 rfl 5 (.int .u8 0) 1 Tryz.underlying22 iU8 rfl .i64 .i64 8 8 rr rr 8 8 rfl rfl om om om ?_;intro w1 hb1 hg1 hs1;have HB1:Hid (Blk w1 w.heap.size 5 (u8s (putI n 8 0))):=hb1;have HE1:Hid (Below w.heap.size w w1):=zaf hg1;clear hb1 hg1 hs1))
 go_loopg [29] 8 (fun kk q wr=>∃i:Nat,i≤8∧kk=8-i∧q=.int .i64 i∧Blk wr w.heap.size 5 (u8s (putI n 8 i))∧Below w.heap.size w wr)
 case atStart=>exact⟨0,by omega,rfl,rfl,HB1.out,HE1.out⟩
 case round =>
  clear HB1 HE1;obtain⟨i,hi,hgk,rfl,hb,hB⟩:=hrel;have HGK:=qh hgk;clear hgk
  by_cases hlt:i<8
  · have hlt2:(i:Int)<8:=om
    obtain⟨p,hp⟩:=ex9 (8-1-i);have hpi:(7:Int)-(i:Int)=(p:Int):=om;have hp0:(0:Int)≤(p:Int):=om;have hp1:(p:Int)<8:=om;have HS:=qh (zja n 8 i p hlt hp);have hpl:=zjb n 8 i hi;obtain⟨x,hx⟩:∃x,(putI n 8 i)[p]? = some x:=⟨_,ge9 om⟩;have cx:wr.cell? ⟨w.heap.size,p,none⟩=some (.int .u8 x.toNat):=by rw[hb.cell,u8s_getElem?,hx];rfl
    have fx:=hb.frozen p;have HSB:=qh (zek n i);have hb2:=qh (hb.set_ p (.int .u8 (UInt8.ofNat (n/256^i)).toNat));rw[zbc,HS.out]at hb2;have hB2:=qh (hB.setCell (p:=⟨w.heap.size,p,none⟩) lr (.int .u8 (UInt8.ofNat (n/256^i)).toNat));have hgl:=hb.lt;clear hx hpl hb hp
    go_wp2_with fail
    rw[HSB.out];go_roundg (8-(i+1))
    case measure=>have:=HGK.out;omega
    case rel=>exact⟨i+1,by omega,rfl,by go_num,hb2.out,hB2.out⟩
  · obtain rfl:i=8:=om
    have hlt2:¬((8:Nat):Int)<8:=om;have HB:=qh hb;rw[show putI n 8 8=Sh.beBytes n 8 from rfl]at HB;clear hb
    go_wp2_with fail
    go_ret2;exact⟨rfl,HB.out,hB⟩
end Go.Proofs.YtpgpaenloaphaaaGreat
