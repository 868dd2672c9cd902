/- Part of the proof. -/
import Derived.Deep.LoopGhost
import Derived.Laws.BytesString
import Derived.Deep.RegionLaw
import Derived.StillTailTactics
import Derived.Test.YtafjkbbiaopemaaGreatDoorBax03
set_option linter.all false
set_option maxRecDepth 100000
set_option maxHeartbeats 0
namespace Go.Proofs.YtafjkbbiaopemaaGreatDoor
open Go.RowKit
theorem zbd(t:List UInt8):(bytesOf t).size=t.length:=by show t.toArray.size=_;simp
theorem zi2(t:List UInt8)(k:Nat)(x:UInt8)(h:t[k]? = some x):Lx.numOf (t.take (k+1))=10*Lx.numOf (t.take k)+(x.toNat-48):=by
 rw[List.take_add_one,h];simp[Lx.numOf]
theorem zh2(t:List UInt8):(∀c∈t,Lx.digit c=true)→Lx.numOf t<10^t.length:=by
 intro h
 have key:∀(l:List UInt8) (n:Nat),(∀c∈l,Lx.digit c=true)→l.foldl (fun n c=>10*n+(c.toNat-48)) n<(n+1)*10^l.length:=by
  intro l
  induction l with
  | nil=>intro n _;simp
  | cons c l ih =>
   intro n hc;have h1:=ih (10*n+(c.toNat-48)) (fun d hd=>hc d (List.mem_cons_of_mem _ hd));have h2:=hc c (List.mem_cons_self ..);rw[zed]at h2
   simp at h2
   have h3:(10*n+(c.toNat-48)+1)*10^l.length≤((n+1)*10)*10^l.length:=Nat.mul_le_mul_right _ om;rw[List.foldl_cons,List.length_cons,Nat.pow_succ,Nat.mul_comm (10^l.length),←Nat.mul_assoc];omega
 have:=key t 0 h
 simpa[Lx.numOf] using this
theorem zit{p:UInt8→Bool}(l:List UInt8):∀c∈l.takeWhile p,p c=true:=by
 induction l with
 | nil=>simp
 | cons a l ih =>
  by_cases h:p a=true
  · simp[h];exact ih
  · simp[h]
theorem zi1(B g:Nat)(s:ByteArray)(i E:Nat)(t:List UInt8)(ts:List Lx.Tok)(w:World)(h:St w B g s i ts)(hi:i<s.size)(hs:s.size≤8000)
 (ht:t=(s.data.toList.drop i).takeWhile Lx.digit) (hE:E=i+t.length) (x:UInt8) (hx:s.data.toList[i]? = some x) (hd:Lx.digit x=true) (hbig:t.length>9∨(t.length>1∧x=48)):
 Calls Tryz.prog 108 #[.pointer (some ⟨g,0,none⟩)] w fun e w'=>e=.returned (.int .i64 i)∧∃q,w'=w.drewN q:=by
 have c0:=h.c0;have c1:=h.c1;obtain⟨hEs,hiE,hEl,hext,hrun⟩:=zcn false h om hs ht hE;have HRUN:=qh hrun;have HEL:=qh hEl;have ht0:t[0]? = some x:=by rw[ht,zai hx];simp[hd]
 have hsz:=zbd t;have j0:(0:Int)≤(i:Int):=om;have j1:(i:Int)≤(E:Int):=om;have j2:(E:Int)≤(s.size:Int):=om;have hgl:t.length≤8000:=om;generalize hT:bytesOf t=T at *
 have hxT:∀(hh:0<T.size),T[0]=x:=fun hh=>by
  subst hT;have:=zb7 (bytesOf t) 0 hh;rw[za2,ht0]at this
  injection this with this
  exact this.symm
 generalize hL:t.length=L at *;clear hrun ht hE hEl ht0 hT hx
 rcases Nat.lt_or_ge 9 L with h9|h9
 · have e1:decide ((9:Int)<(T.size:Int))=true:=by rw[hsz];simp;omega
   go_enter Tryz.func108, Tryz.ntmps108
   go_wp2_with (go_at_call 126;refine HRUN.out.mono ?_;rintro e w' ⟨rfl,rfl⟩)
   go_quiet (fail)
   have c0':(w.drewN nq).cell? ⟨g,0,none⟩=some (.string s):=c0;have c1':(w.drewN nq).cell? ⟨g,1,none⟩=some (.int .i64 i):=c1
   go_wp2_with fail
   go_ret;exact⟨rfl,nq,rfl⟩
 · obtain⟨h1,rfl⟩:L>1∧x=48:=by
    rcases hbig with hh|hh
    · omega
    · exact hh
   have e1:decide ((9:Int)<(T.size:Int))=false:=by rw[hsz];simp;omega
   have e2:decide ((1:Int)<(T.size:Int))=true:=by rw[hsz];simp;omega
   have hT0:0<T.size:=om;have hx0:=hxT hT0;clear hxT
   go_enter Tryz.func108, Tryz.ntmps108
   go_wp2_with (go_at_call 126;refine HRUN.out.mono ?_;rintro e w' ⟨rfl,rfl⟩)
   go_quiet (fail)
   have c0':(w.drewN nq).cell? ⟨g,0,none⟩=some (.string s):=c0;have c1':(w.drewN nq).cell? ⟨g,1,none⟩=some (.int .i64 i):=c1
   go_wp2_with fail
   go_ret;exact⟨rfl,nq,rfl⟩
theorem zi0(B g:Nat)(s:ByteArray)(i E:Nat)(t:List UInt8)(ts:List Lx.Tok)(w:World)(h:St w B g s i ts)(hi:i<s.size)(hs:s.size≤8000)
 (ht:t=(s.data.toList.drop i).takeWhile Lx.digit) (hE:E=i+t.length) (x:UInt8) (hx:s.data.toList[i]? = some x) (hd:Lx.digit x=true) (hbig:¬(t.length>9∨(t.length>1∧x=48)))
 (y:UInt8) (hy:s.data.toList[E]? = some y) (hl:Lx.letter y=true):
 Calls Tryz.prog 108 #[.pointer (some ⟨g,0,none⟩)] w fun e w'=>e=.returned (.int .i64 E)∧∃q,w'=w.drewN q:=by
 have c0:=h.c0;have c1:=h.c1;obtain⟨hEs,hiE,hEl,hext,hrun⟩:=zcn false h om hs ht hE;have HRUN:=qh hrun;have HEL:=qh hEl;have ht0:t[0]? = some x:=by rw[ht,zai hx];simp[hd]
 have ht1:0<t.length:=(gi9.1 ht0).1;have hsz:=zbd t;have j0:(0:Int)≤(i:Int):=om;have j1:(i:Int)≤(E:Int):=om;have j2:(E:Int)≤(s.size:Int):=om;have hgl:t.length≤8000:=om;have hE2:E<s.size:=by have:=(gi9.1 hy).1;simpa using this
 have hyy:s[E]=y:=by
  have:=zb7 s E hE2;rw[hy]at this
  injection this with this
  exact this.symm
 have j3:(E:Int)<(s.size:Int):=om;have j4:(0:Int)≤(E:Int):=om;generalize hT:bytesOf t=T at *
 have hxT:∀(hh:0<T.size),T[0]=x:=fun hh=>by
  subst hT;have:=zb7 (bytesOf t) 0 hh;rw[za2,ht0]at this
  injection this with this
  exact this.symm
 generalize hL:t.length=L at *;have hT0:0<T.size:=om;have hx0:=hxT hT0;have hc9:¬L>9∧(L>1→x≠48):=⟨fun hh=>hbig (.inl hh),fun hh e=>hbig (.inr ⟨hh,e⟩)⟩;obtain⟨h9,h48⟩:=hc9;clear hrun ht hE hEl ht0 hT hx hxT hbig hy;have e1:decide ((9:Int)<(T.size:Int))=false:=by rw[hsz];simp;omega
 by_cases h1:L>1
 · have e2:decide ((1:Int)<(T.size:Int))=true:=by rw[hsz];simp;omega
   have e3:((x.toNat:Int) == 48)=false:=za7 (k:=48) (h48 h1);clear h48
   go_enter Tryz.func108, Tryz.ntmps108
   go_wp2_with (go_at_call 126;refine HRUN.out.mono ?_;rintro e w' ⟨rfl,rfl⟩)
   go_quiet (fail)
   have c0':(w.drewN nq).cell? ⟨g,0,none⟩=some (.string s):=c0;have c1':(w.drewN nq).cell? ⟨g,1,none⟩=some (.int .i64 i):=c1
   go_wp2_with (go_at_call 105;refine(zbw _ _).mono ?_;rintro e w' ⟨rfl,rfl⟩)
   go_ret;exact⟨rfl,nq,rfl⟩
 · have e2:decide ((1:Int)<(T.size:Int))=false:=by rw[hsz];simp;omega
   clear h48
   go_enter Tryz.func108, Tryz.ntmps108
   go_wp2_with (go_at_call 126;refine HRUN.out.mono ?_;rintro e w' ⟨rfl,rfl⟩)
   go_quiet (fail)
   have c0':(w.drewN nq).cell? ⟨g,0,none⟩=some (.string s):=c0;have c1':(w.drewN nq).cell? ⟨g,1,none⟩=some (.int .i64 i):=c1
   go_wp2_with (go_at_call 105;refine(zbw _ _).mono ?_;rintro e w' ⟨rfl,rfl⟩)
   go_ret;exact⟨rfl,nq,rfl⟩
theorem zgl(B g:Nat)(s:ByteArray)(i E:Nat)(t:List UInt8)(ts:List Lx.Tok)(w:World)(h:St w B g s i ts)(hn:ts.length≤100000)(hi:i<s.size)(hs:s.size≤8000)
 (ht:t=(s.data.toList.drop i).takeWhile Lx.digit) (hE:E=i+t.length) (x:UInt8) (hx:s.data.toList[i]? = some x) (hd:Lx.digit x=true) (hbig:¬(t.length>9∨(t.length>1∧x=48)))
 (hy:∀y,s.data.toList[E]? = some y→Lx.letter y=false):
 Calls Tryz.prog 108 #[.pointer (some ⟨g,0,none⟩)] w fun e w'=>e=.returned (.int .i64 (-1))∧St w' B g s E (ts++[⟨3,t,Lx.numOf t,i⟩])∧Below B w w':=by
 have c0:=h.c0;have c1:=h.c1;obtain⟨hEs,hiE,hEl,hext,hrun⟩:=zcn false h om hs ht hE;have HRUN:=qh hrun;have HEL:=qh hEl;have ht0:t[0]? = some x:=by rw[ht,zai hx];simp[hd]
 have ht1:0<t.length:=(gi9.1 ht0).1;have hsz:=zbd t;have HDG:Hid (∀c∈t,Lx.digit c=true):=by show ∀c∈t,_;rw[ht];exact zit _
 have j0:(0:Int)≤(i:Int):=om;have j1:(i:Int)≤(E:Int):=om;have j2:(E:Int)≤(s.size:Int):=om
 have hxT:∀k (hh:k<(bytesOf t).size),∃y,(bytesOf t)[k]=y∧t[k]? = some y:=fun k hh=>by
  have:=zb7 (bytesOf t) k hh;rw[za2]at this;exact⟨_,rfl,this⟩
 have HXT:=qh hxT;have hT0:0<(bytesOf t).size:=om;obtain⟨y0,hx0,hy0⟩:=hxT 0 hT0;have hxy:y0=x:=by rw[ht0]at hy0;injection hy0 with hy0;exact hy0.symm
 subst hxy;have hc9:¬t.length>9∧(t.length>1→y0≠48):=⟨fun hh=>hbig (.inl hh),fun hh e=>hbig (.inr ⟨hh,e⟩)⟩;obtain⟨h9,h48⟩:=hc9;have e1:decide ((9:Int)<((bytesOf t).size:Int))=false:=by rw[hsz];simp;omega
 have hcase:(decide ((1:Int)<((bytesOf t).size:Int))=true∧((y0.toNat:Int) == 48)=false)∨decide ((1:Int)<((bytesOf t).size:Int))=false:=by
  by_cases h1:t.length>1
  · exact .inl ⟨by rw[hsz];simp;omega,za7 (k:=48) (h48 h1)⟩
  · exact .inr (by rw[hsz];simp;omega)
 have hcase2:(∃y,∃hh:E<s.size,s[E]=y∧Lx.letter y=false∧(E:Int)<(s.size:Int))∨s.size≤E:=by
  by_cases h1:E<s.size
  · exact .inl ⟨_,h1,rfl,hy _ (zb7 s E h1),by omega⟩
  · exact .inr om
 have HH:=qh h;have HSZ:=qh hsz;have hTl:(bytesOf t).size≤9:=om;clear hrun ht hE hEl ht0 hx hxT hbig hy h48 h9 hy0 hsz h;generalize hT:bytesOf t=T at *;have HT:=qh hT;clear hT;have j4:(0:Int)≤(E:Int):=om;have fin:∀(w1:World),w1.cell? ⟨g,0,none⟩=some (.string s)→True:=fun _ _=>trivial
 rcases hcase with ⟨e2,e3⟩|e2
 all_goals
   rcases hcase2 with ⟨y,hEE,hyy,hly,e4⟩|e4
 all_goals
   go_enter Tryz.func108, Tryz.ntmps108
   go_wp2_with (go_at_call 126;refine HRUN.out.mono ?_;rintro e w' ⟨rfl,rfl⟩)
   go_quiet (fail)
   have c0':(w.drewN nq).cell? ⟨g,0,none⟩=some (.string s):=c0;have c1':(w.drewN nq).cell? ⟨g,1,none⟩=some (.int .i64 i):=c1
   go_wp2_with (go_at_call 105;refine(zbw _ _).mono ?_;rintro e w' ⟨rfl,rfl⟩)
   go_loop [5,59] (fun v q=>∃k:Nat,k≤T.size∧q=.int .i64 k∧v=.int .i64 (Lx.numOf (t.take k))) (fun _ q=>T.size-(intOf q).toNat)
   case atStart=>exact⟨0,Nat.zero_le _,rfl,rfl⟩
   case round =>
    obtain⟨k,hk,rfl,rfl⟩:=hrel
    by_cases hlt:k<T.size
    · obtain⟨z,hz,hz'⟩:=HXT.out k hlt
      have hzd:=HDG.out z (mg9 hz');rw[zed]at hzd;simp only[Bool.and_eq_true,decide_eq_true_eq]at hzd;obtain⟨z1,z2⟩:=hzd;have hnb:=zh2 (t.take k) (fun c hc=>HDG.out c (List.mem_of_mem_take hc))
      have hpw:10^(t.take k).length≤100000000:=by
       have:(10:Nat)^(t.take k).length≤10^8:=Nat.pow_le_pow_right om (by simp;omega)
       simpa using this
      have HST:=qh (zi2 t k z hz');have hnl:Lx.numOf (t.take k)<100000000:=om;have k0:(0:Int)≤(k:Int):=om;have k1:(k:Int)<(T.size:Int):=om;clear hnb hpw hz';generalize Lx.numOf (t.take k)=N at *
      go_wp2_with fail
      go_round
      case rel=>exact⟨k+1,by omega,by go_num,by rw[HST.out];congr 1;omega⟩
      case measure=>simp[intOf];omega
    · have hkk:t.take k=t:=tk (by have:=HSZ.out;omega)
      rw[hkk];have HTT:=HT.out;subst HTT;have hadd:=ze6 B g s i E ts 3 t (Lx.numOf t) (w.drewN nq) (HH.out.drewN nq) hn;have HADD:=qh hadd;clear hadd hkk;generalize hNN:Lx.numOf t=N at *;have HNN:=qh hNN;clear hNN
      go_wp2_with (go_at_call 80;refine HADD.out.mono ?_;rintro e w2 ⟨rfl,h2,hB2⟩)
      go_ret;rw[HNN.out];exact⟨rfl,h2,(below_drewN (Below.refl _ _) _).trans hB2⟩
def escB(r:List UInt8):UInt8:=match Lx.esc r with|some (m,_)=>m|none=>0
def escN(r:List UInt8):Nat:=match Lx.esc r with|some (_,k)=>k|none=>0
theorem zoa(x:UInt8):Lib.indexByte Lx.hexDigits x=hexI x:=by
 have h:∀n:Fin 256,Lib.indexByte Lx.hexDigits (UInt8.ofNat n.val)=hexI (UInt8.ofNat n.val):=by decide +kernel
 have:=h ⟨x.toNat,x.toNat_lt⟩
 simpa using this
theorem zev{x:UInt8}{v:Nat}(h:Lx.hexV x=some v):hexI x=v:=by unfold hexI;rw[h]
theorem zgs{x:UInt8}(h:Lx.hexV x=none):hexI x=-1:=by unfold hexI;rw[h]
theorem zk3{x:UInt8}{v:Nat}(h:Lx.hexV x=some v):v<16:=by
 have h1:=zev h;rw[zpu]at h1
 split at h1
 · omega
 · split at h1
   · omega
   · omega
theorem bget(l:List UInt8)(k:Nat)(x:UInt8)(hk:k<(bytesOf l).size)(h:l[k]? = some x):(bytesOf l)[k]=x:=by
 have:=zb7 (bytesOf l) k hk;rw[za2,h]at this
 injection this with this
 exact this.symm
theorem zjd(g:Nat)(s:ByteArray)(i:Nat)(r:List UInt8)(w:World)(c0:w.cell? ⟨g,0,none⟩=some (.string s))(hi:i<s.size)(hs:s.size≤8000)(hr:r=s.data.toList.drop (i+1)):
 Calls Tryz.prog 128 #[.pointer (some ⟨g,0,none⟩),.int .i64 i] w fun e w'=>e=.returned (.tuple #[.int .u8 (escB r).toNat,.int .i64 (escN r)])∧∃q,w'=w.drewN q:=by
 have hext:s.extract (i+1) s.size=bytesOf r:=by
  rw[zdx,hr,tk sy]
 have hsz:=zbd r;have hrl:r.length≤8000:=by rw[hr];simp;omega
 have j0:(0:Int)≤(i:Int)+1:=om;have j1:(i:Int)+1≤(s.size:Int):=om;clear hr;have htl:(bytesOf r).toList=r:=by rw[ByteArray.toList_eq,za2]
 cases r with
 | nil =>
  have hem:(bytesOf []).toList.isEmpty=true:=by rw[htl];rfl
  have HV:Hid (escB []=0∧escN []=0):=⟨rfl,rfl⟩;clear htl;generalize bytesOf []=T at *
  go_enter Tryz.func128, Tryz.ntmps128
  go_wp2_with fail
  go_ret2;exact⟨by rw[HV.out.1,HV.out.2];rfl,0,rfl⟩
 | cons c r' =>
  have hem:(bytesOf (c :: r')).toList.isEmpty=false:=by rw[htl];rfl
  have hp0:0<(bytesOf (c :: r')).size:=by rw[hsz];simp
  have hT0:(bytesOf (c :: r'))[0]'hp0=c:=bget _ 0 c hp0 rfl
  by_cases h34:c=34
  · have HV:Hid (escB (c :: r')=c∧escN (c :: r')=2):=by subst h34;exact⟨rfl,rfl⟩
    have e1:((c.toNat:Int) == 34)=true:=by rw[h34];rfl
    clear htl h34 hsz;generalize bytesOf (c :: r')=T at *
    go_enter Tryz.func128, Tryz.ntmps128
    go_wp2_with fail
    go_ret2;exact⟨by rw[HV.out.1,HV.out.2];rfl,0,rfl⟩
  · have e1:((c.toNat:Int) == 34)=false:=za7 (k:=34) h34
    by_cases h92:c=92
    · have HV:Hid (escB (c :: r')=c∧escN (c :: r')=2):=by subst h92;exact⟨rfl,rfl⟩
      have e2:((c.toNat:Int) == 92)=true:=by rw[h92];rfl
      clear htl h34 h92 hsz;generalize bytesOf (c :: r')=T at *
      go_enter Tryz.func128, Tryz.ntmps128
      go_wp2_with fail
      go_ret2;exact⟨by rw[HV.out.1,HV.out.2];rfl,0,rfl⟩
    · have e2:((c.toNat:Int) == 92)=false:=za7 (k:=92) h92
      by_cases h110:c=110
      · have HV:Hid (escB (c :: r')=10∧escN (c :: r')=2):=by subst h110;exact⟨rfl,rfl⟩
        have e3:((c.toNat:Int) == 110)=true:=by rw[h110];rfl
        clear htl h34 h92 h110 hsz;generalize bytesOf (c :: r')=T at *
        go_enter Tryz.func128, Tryz.ntmps128
        go_wp2_with fail
        go_ret2;exact⟨by rw[HV.out.1,HV.out.2];rfl,0,rfl⟩
      · have e3:((c.toNat:Int) == 110)=false:=za7 (k:=110) h110
        by_cases h120:c=120
        · have e4:((c.toNat:Int) == 120)=true:=by rw[h120];rfl
          match r' with
          | [] =>
           have HV:Hid (escB (c :: [])=0∧escN (c :: [])=0):=by subst h120;exact⟨rfl,rfl⟩
           have hs1:(bytesOf (c :: [])).size=1:=hsz;clear htl h34 h92 h110 h120 hsz;generalize bytesOf (c :: [])=T at *
           go_enter Tryz.func128, Tryz.ntmps128
           go_wp2_with fail
           go_ret2;exact⟨by rw[HV.out.1,HV.out.2];rfl,0,rfl⟩
          | [a] =>
           have HV:Hid (escB (c :: [a])=0∧escN (c :: [a])=0):=by subst h120;exact⟨rfl,rfl⟩
           have hs1:(bytesOf (c :: [a])).size=2:=hsz;clear htl h34 h92 h110 h120 hsz;generalize bytesOf (c :: [a])=T at *
           go_enter Tryz.func128, Tryz.ntmps128
           go_wp2_with fail
           go_ret2;exact⟨by rw[HV.out.1,HV.out.2];rfl,0,rfl⟩
          | a :: b :: r2 =>
           have hp2:2<(bytesOf (c :: a :: b :: r2)).size:=by rw[hsz];simp
           have hT1:(bytesOf (c :: a :: b :: r2))[1]'(Nat.lt_trans (by decide:1<2) hp2)=a:=bget _ 1 a (Nat.lt_trans (by decide:1<2) hp2) rfl;have hT2:(bytesOf (c :: a :: b :: r2))[2]'hp2=b:=bget _ 2 b hp2 rfl;have hsb:(bytesOf (c :: a :: b :: r2)).size≤8000:=by rw[hsz];exact hrl
           have hia:=zoa a;have hib:=zoa b
           unfold Lx.hexDigits at hia hib
           have HV:Hid (escB (c :: a :: b :: r2)=(match Lx.hexV a,Lx.hexV b with|some x,some y=>UInt8.ofNat (16*x+y)| _,_=>0)∧escN (c :: a :: b :: r2)=(match Lx.hexV a,Lx.hexV b with|some _,some _=>4|_,_=>0)):=by
            subst h120
            show _∧_
            have hesc:Lx.esc (120 :: a :: b :: r2)=(match Lx.hexV a,Lx.hexV b with|some x,some y=>some (UInt8.ofNat (16*x+y),4)| _,_=>none):=by rfl
            unfold escB escN
            rw[hesc]
            cases Lx.hexV a <;> cases Lx.hexV b <;> exact⟨rfl,rfl⟩
           clear htl h34 h92 h110 h120 hsz;generalize bytesOf (c :: a :: b :: r2)=T at *
           cases ha:Lx.hexV a with
           | none =>
            rw[zgs ha]at hia;have HV2:Hid (escB (c :: a :: b :: r2)=0∧escN (c :: a :: b :: r2)=0):=by have:=HV.out;rw[ha]at this;exact this
            clear HV ha;generalize hexI b=vb at *
            go_enter Tryz.func128, Tryz.ntmps128
            go_wp2_with fail
            go_quiet ((go_at_call 104;exact Calls.quiet_of_same (za1 _ _ _)))
            go_wp2_with fail
            go_ret2;exact⟨by rw[HV2.out.1,HV2.out.2];rfl,nq,rfl⟩
           | some va =>
            rw[zev ha]at hia;have hva:=zk3 ha
            cases hb:Lx.hexV b with
            | none =>
             rw[zgs hb]at hib;have HV2:Hid (escB (c :: a :: b :: r2)=0∧escN (c :: a :: b :: r2)=0):=by have:=HV.out;rw[ha,hb]at this;exact this
             clear HV ha hb
             go_enter Tryz.func128, Tryz.ntmps128
             go_wp2_with fail
             go_quiet ((go_at_call 104;exact Calls.quiet_of_same (za1 _ _ _)))
             go_wp2_with fail
             go_ret2;exact⟨by rw[HV2.out.1,HV2.out.2];rfl,nq,rfl⟩
            | some vb =>
             rw[zev hb]at hib;have hvb:=zk3 hb;have HV2:Hid (escB (c :: a :: b :: r2)=UInt8.ofNat (16*va+vb)∧escN (c :: a :: b :: r2)=4):=by have:=HV.out;rw[ha,hb]at this;exact this
             have hof:((UInt8.ofNat (16*va+vb)).toNat:Int)=16*(va:Int)+vb:=by simp;omega
             have HOF:=qh hof;clear HV ha hb hof
             go_enter Tryz.func128, Tryz.ntmps128
             go_wp2_with fail
             go_quiet ((go_at_call 104;exact Calls.quiet_of_same (za1 _ _ _)))
             go_wp2_with fail
             go_ret2;refine⟨?_,nq,rfl⟩;rw[HV2.out.1,HV2.out.2,HOF.out]
             rfl
        · have e4:((c.toNat:Int) == 120)=false:=za7 (k:=120) h120
          have HV:Hid (escB (c :: r')=0∧escN (c :: r')=0):=by
           have:Lx.esc (c :: r')=none:=by simp[Lx.esc,h34,h92,h110,h120]
           show _∧_
           unfold escB escN
           rw[this];exact⟨rfl,rfl⟩
          clear htl h34 h92 h110 h120 hsz;generalize bytesOf (c :: r')=T at *
          go_enter Tryz.func128, Tryz.ntmps128
          go_wp2_with fail
          go_ret2;exact⟨by rw[HV.out.1,HV.out.2];rfl,0,rfl⟩
section
theorem zf0{r:List UInt8}{m:UInt8}{k:Nat}(he:Lx.esc r=some (m,k)):2≤k∧k≤r.length+1:=by
 unfold Lx.esc at he
 cases r with
 | nil=>cases he
 | cons d r =>
  simp only[]at he
  split at he
  · injection he with he;injection he with _ he;simp;omega
  · split at he
    · injection he with he;injection he with _ he;simp;omega
    · split at he
      · split at he
        · split at he
          · injection he with he;injection he with _ he;simp;omega
          · cases he
        · cases he
      · cases he
theorem zjn:∀(f:Nat) (r acc:List UInt8),r.length<f→∀g,r.length<g→Lx.text f r acc=Lx.text g r acc:=by
 intro f
 induction f with
 | zero=>intro r acc h;omega
 | succ f ih =>
  intro r acc h g hg;obtain⟨g,rfl⟩:∃g',g=g'+1:=⟨g-1,by omega⟩
  cases r with
  | nil=>rfl
  | cons c r =>
   simp only[List.length_cons]at h hg
   unfold Lx.text
   simp only[]
   split
   · rfl
   · split
     · cases he:Lx.esc r with
       | none=>rfl
       | some p =>
        obtain⟨m,k⟩:=p;simp only[];have hk:=zf0 he;exact ih _ _ (by simp;omega) g (by simp;omega)
     · split
       · rfl
       · exact ih _ _ om g om
theorem zix(l:List UInt8):∀s:ByteArray,((l.map fun c=>((c.toNat:Nat):Int)).foldl (fun r n=>r.push (UInt8.ofNat n.toNat)) s).data=s.data++l.toArray:=by
 induction l with
 | nil=>intro s;simp
 | cons c l ih =>
  intro s;rw[List.map_cons,List.foldl_cons,ih]
  apply Array.toList_inj.1
  simp[ByteArray.push]
theorem zou{P:Program}{w:World}{src dst e:TypeId}{A:Option Addr}{n c:Nat}{l:List UInt8}(hs:P.underlying src=some (.slice e))(he:P.underlying e=some (.int .u8))(hd:P.underlying dst=some .string)(hr:Rd w A n (u8s l)):
 (convert src dst (.slice A n c)).run P w=.ok (.string (bytesOf l)) w:=by
 rw[run_convert_bytes_string w src dst e A n c hs he hd];have hl:=hr.len
 rcases Nat.eq_zero_or_pos n with h0|h0
 · subst h0
   have:l=[]:=List.eq_nil_of_length_eq_zero hl;subst this
   cases A with
   | none=>simp[Conv.bytesToString,bytesOf];rfl
   | some a =>
    have:=run_bytesToString (P:=P) w a 0 c [] (by simp[loadCells,loadCellsFrom]);rw[this]
    rfl
 · obtain⟨b,off,rfl,hb,hc⟩:=hr.2 h0
   have hload:=run_loadCells_list (P:=P) w ⟨b,off,none⟩ (u8s l) (fun j v hv=>by rw[Addr.add_mid];exact hc j v hv);rw[zfb,hl]at hload;have:=run_bytesToString (P:=P) w ⟨b,off,none⟩ n c (l.map fun c=>((c.toNat:Nat):Int)) (by rw[hload];simp[u8s,u8]);rw[this]
   congr 2
   apply ByteArray.ext
   rw[zix]
   simp[bytesOf]
section
variable{P:Program}{w:World}{ops:Array Oper}{rest:List Oper}{o:Oper}{a:Act}{K:Act→World→Prop}{Q:Exit→Act→World→Prop}
theorem wp_str(src dst:TypeId)(x:Operand)(ho:o.op=.convert src dst x)(e:TypeId)(hs:P.underlying src=some (.slice e))(he:P.underlying e=some (.int .u8))(hd:P.underlying dst=some .string)
 (A:Option Addr) (n c:Nat) (hx:a.eval x=.slice A n c) (l:List UInt8) (hr:Rd w A n (u8s l)) (h:K (a.put o.dst (.string (bytesOf l))) w):o.wp P a w K Q:=by
 refine zbz (v:=.string (bytesOf l)) ?_ h
 unfold execOp
 simp only[ho,hx,Sem.run_bind,zou hs he hd hr,Sem.run_pure,Result.andThen_ok]
theorem zbs(hgd:o.guard=none)(src dst:TypeId)(x:Operand)(ho:o.op=.convert src dst x)(e:TypeId)(hs:P.underlying src=some (.slice e))(he:P.underlying e=some (.int .u8))(hd:P.underlying dst=some .string)
 (A:Option Addr) (n c:Nat) (hx:a.eval x=.slice A n c) (l:List UInt8) (hr:Rd w A n (u8s l)) (h:wpList P ops Q rest (a.put o.dst (.string (bytesOf l))) w):wpList P ops Q (o :: rest) a w :=
 zcj hgd fun _ hK=>wp_str src dst x ho e hs he hd A n c hx l hr (hK _ _ h)
end
theorem zoe(c:UInt8):(c<32 || c>126)=(decide ((c.toNat:Int)<32)|| decide (126<(c.toNat:Int))):=by
 rw[Bool.eq_iff_iff];simp[UInt8.lt_iff_toNat_lt];omega
theorem zhk{c:UInt8}(h:(c<32 || c>126)=true):decide ((c.toNat:Int)<32)=true∨(decide ((c.toNat:Int)<32)=false∧decide ((126:Int)<(c.toNat:Int))=true):=by
 rw[zoe]at h
 revert h
 cases decide ((c.toNat:Int)<32) <;> cases decide ((126:Int)<(c.toNat:Int)) <;> simp
theorem zld{c:UInt8}(h:(c<32 || c>126)=false):decide ((c.toNat:Int)<32)=false∧decide ((126:Int)<(c.toNat:Int))=false:=by
 rw[zoe]at h
 revert h
 cases decide ((c.toNat:Int)<32) <;> cases decide ((126:Int)<(c.toNat:Int)) <;> simp
theorem zll(B g:Nat)(s:ByteArray)(i j:Nat)(ts:List Lx.Tok)(k:Nat)(t:List UInt8)(m:Nat)(w:World){J:Int}(hJ:(.int .i64 J:Value)=.int .i64 (j:Int))(h:St w B g s i ts)(hn:ts.length≤100000):
 Calls Tryz.prog 80 #[.pointer (some ⟨g,0,none⟩),.int .i64 k,.string (bytesOf t),.int .i64 m,.int .i64 J] w fun e w' =>
  e=.returned (.tuple #[])∧St w' B g s j (ts++[⟨k,t,m,i⟩])∧Below B w w':=by
 rw[hJ];exact ze6 B g s i j ts k t m w h hn
def TextPost(B g:Nat)(s:ByteArray)(i:Nat)(ts:List Lx.Tok)(w:World)(R:Sum (List UInt8) (List UInt8 × List UInt8))(e:Ending)(w':World):Prop :=
 match R with
 | .inl x=>e=.returned (.int .i64 ((s.size-x.length:Nat):Int))∧Below B w w'
 | .inr (b,x)=>e=.returned (.int .i64 (-1))∧St w' B g s (s.size-x.length) (ts++[⟨4,b,0,i⟩])∧Below B w w'
theorem St.lt{w:World}{B g:Nat}{s:ByteArray}{i:Nat}{ts:List Lx.Tok}(h:St w B g s i ts):g<w.heap.size:=by
 obtain⟨⟨A,c,h1,h2⟩,hle⟩:=h;exact h1.lt
theorem eU8b:ElemIs Tryz.prog 5 1 1:=ElemIs.of (z:=.int .u8 0) kr rfl om
theorem zil{l:List UInt8}{m:Nat}{acc:List UInt8}(h:l[m]? = some 34):Lx.text (l.drop m).length.succ (l.drop m) acc=.inr (acc,l.drop (m+1)):=by
 rw[zai h];rfl
theorem zf6{l:List UInt8}{m:Nat}{acc:List UInt8}(h:l[m]? = some 92)(he:escN (l.drop (m+1))=0):Lx.text (l.drop m).length.succ (l.drop m) acc=.inl (l.drop m):=by
 have:Lx.esc (l.drop (m+1))=none:=by
  unfold escN at he
  cases hq:Lx.esc (l.drop (m+1))with
  | none=>rfl
  | some p =>
   exfalso
   obtain⟨x,k⟩:=p;rw[hq]at he;simp only[]at he;have:=zf0 hq;omega
 rw[zai h]
 unfold Lx.text
 simp[this]
theorem zlu{l:List UInt8}{m:Nat}{acc:List UInt8}(h:l[m]? = some 92)(he:escN (l.drop (m+1))≠0):Lx.text (l.drop m).length.succ (l.drop m) acc=Lx.text (l.drop (m+escN (l.drop (m+1)))).length.succ (l.drop (m+escN (l.drop (m+1)))) (acc++[escB (l.drop (m+1))]):=by
 cases hq:Lx.esc (l.drop (m+1))with
 | none=>exact absurd (by unfold escN;rw[hq]) he
 | some p =>
  obtain⟨x,k⟩:=p;have h1:escN (l.drop (m+1))=k:=by unfold escN;rw[hq]
  have h2:escB (l.drop (m+1))=x:=by unfold escB;rw[hq]
  have hk:=zf0 hq;rw[h1,h2];have hm:m<l.length:=(gi9.1 h).1
  conv=>lhs;rw[zai h];unfold Lx.text
  simp only[hq];rw[show((92:UInt8) == 34)=false from rfl,show((92:UInt8) == 92)=true from rfl];simp only[Bool.false_eq_true,if_false,if_true];rw[←zai h,List.drop_drop];exact zjn _ _ _ (by simp;omega) _ om
theorem zlw{l:List UInt8}{m:Nat}{acc:List UInt8}{c:UInt8}(h:l[m]? = some c)(h1:c≠34)(h2:c≠92)(h3:(c<32 || c>126)=true):Lx.text (l.drop m).length.succ (l.drop m) acc=.inl (l.drop m):=by
 have e1:(c == 34)=false:=by simpa using h1
 have e2:(c == 92)=false:=by simpa using h2
 rw[zai h]
 unfold Lx.text
 simp only[e1,e2,h3]
 rfl
theorem zim{l:List UInt8}{m:Nat}{acc:List UInt8}{c:UInt8}(h:l[m]? = some c)(h1:c≠34)(h2:c≠92)(h3:(c<32 || c>126)=false):Lx.text (l.drop m).length.succ (l.drop m) acc=Lx.text (l.drop (m+1)).length.succ (l.drop (m+1)) (acc++[c]):=by
 have e1:(c == 34)=false:=by simpa using h1
 have e2:(c == 92)=false:=by simpa using h2
 conv=>lhs;rw[zai h];unfold Lx.text
 simp only[e1,e2,h3]
 rfl
theorem zlv{l:List UInt8}{m:Nat}{acc:List UInt8}(h:l.length≤m):Lx.text (l.drop m).length.succ (l.drop m) acc=.inl []:=by
 rw[List.drop_eq_nil_of_le h];rfl
theorem zhq(B g:Nat)(s:ByteArray)(i:Nat)(ts:List Lx.Tok)(w:World)(h:St w B g s i ts)(hn:ts.length≤100000)(hi:i<s.size)(hs:s.size≤8000)(R:Sum (List UInt8) (List UInt8 × List UInt8))
 (hR:R=Lx.text (s.data.toList.drop (i+1)).length.succ (s.data.toList.drop (i+1)) []):
 Calls Tryz.prog 109 #[.pointer (some ⟨g,0,none⟩)] w (TextPost B g s i ts w R):=by
 have HR:=qh hR;clear hR;have c1:=h.c1
 go_enter Tryz.func109, Tryz.ntmps109
 go_wp2_with fail
 go_loopg [3,4] (s.size-(i+1)) (fun k o q wr=>∃(m:Nat) (acc:List UInt8) (A:Option Addr) (c:Nat),i+1≤m∧m≤s.size∧k=s.size-m∧q=.int .i64 m∧o=.slice A acc.length c∧acc.length≤m ∧
   wr.ownsRow w.heap.size 5 1 (.slice A acc.length c) acc.length (u8s acc)∧Below w.heap.size w wr∧Hid (R=Lx.text (s.data.toList.drop m).length.succ (s.data.toList.drop m) acc))
 case atStart=>exact⟨i+1,[],none,0,lr,by omega,rfl,by go_num,rfl,by simp,World.ownsRow_nil _ _ _ _,Below.refl _ _,HR.out⟩
 case round =>
  obtain⟨m,acc,A,c,him,hm,hgk,rfl,rfl,hacc,hown,hBr,HT⟩:=hrel;have HGK:=qh hgk;clear hgk;have hst:St wr B g s i ts:=h.below hBr (fun k _ hk=>hk);have hBB:Below B w wr:=hBr.mono (Nat.le_trans h.le (Nat.le_of_lt h.lt));have c0:=hst.c0
  by_cases hlt:m<s.size
  · have hx:=zb7 s m hlt
    have i0:(0:Int)≤(m:Int):=om;have i1:(m:Int)<(s.size:Int):=om;generalize hxx:s[m]=x at hx;have HX:=qh hx;clear hx
    by_cases h34:x=34
    · have e1:((x.toNat:Int) == 34)=true:=by rw[h34];rfl
      have HTQ:=qh (HT.out.trans (zil (by have:=HX.out;rw[h34]at this;exact this)));clear h34
      go_wp2_with (first
       | (refine zbs rfl 83 9 (.tmp 36) rfl 5 Tryz.underlying83 Tryz.underlying5 Tryz.underlying9 A acc.length c rr acc (Rd.of_own hown) ?_)
       | (go_at_call 80;refine(zll B g s i (m+1) ts 4 acc 0 _ (by go_num) hst hn).mono ?_;rintro e w2 ⟨rfl,h2,hB2⟩))
      refine bodyPost_ret (results_tmp rfl _ _ _) rfl ?_
      unfold TextPost
      rw[HTQ.out];refine⟨rfl,?_,hBB.trans hB2⟩;rw[show s.size-(s.data.toList.drop (m+1)).length=m+1 from by simp;omega];exact h2
    · have e1:((x.toNat:Int) == 34)=false:=za7 (k:=34) h34
      have H34:=qh h34;clear h34;have hdm:s.size-(s.data.toList.drop m).length=m:=by simp;omega
      have HDM:=qh hdm;clear hdm
      by_cases h92:x=92
      · have e2:((x.toNat:Int) == 92)=true:=by rw[h92];rfl
        have HX92:Hid (s.data.toList[m]? = some 92):=by have:=HX.out;rw[h92]at this;exact this
        clear h92;have hesc:=zjd g s m (s.data.toList.drop (m+1)) wr c0 hlt hs rfl;have HTB:=fun he=>qh (HT.out.trans (zf6 HX92.out he))
        have HTO:=fun he=>qh (HT.out.trans (zlu HX92.out he))
        have hel:escN (s.data.toList.drop (m+1))≤(s.data.toList.drop (m+1)).length+1∧escN (s.data.toList.drop (m+1))≤8001:=by
         cases hq:Lx.esc (s.data.toList.drop (m+1))with
         | none=>unfold escN;rw[hq];simp
         | some p =>
          obtain⟨a,b⟩:=p;have:=zf0 hq;have hl:(s.data.toList.drop (m+1)).length≤8000:=by simp;omega
          unfold escN
          rw[hq];simp only[];omega
        have hel2:m+escN (s.data.toList.drop (m+1))≤s.size:=by
         have:=hel.1
         simp at this
         omega
        clear hel;generalize hEB:escB (s.data.toList.drop (m+1))=EB at *;generalize hEN:escN (s.data.toList.drop (m+1))=EN at *;have HESC:=qh hesc;clear hesc hEB hEN
        by_cases hz:EN=0
        · subst hz
          have HTQ:=HTB rfl;clear HTB HTO
          go_wp2_with (go_at_call 128;refine HESC.out.mono ?_;rintro e w2 ⟨rfl,q2,rfl⟩)
          refine bodyPost_ret (results_tmp rfl _ _ _) rfl ?_
          unfold TextPost
          rw[HTQ.out];simp only[];rw[HDM.out];exact⟨rfl,below_drewN hBB _⟩
        · have HTQ:=HTO hz
          have e3:((EN:Int) == 0)=false:=by simpa using hz
          have hpos:0<EN:=om;clear HTB HTO hz
          go_wp2_with (first
           | (go_at_call 128;refine HESC.out.mono ?_;rintro e w2 ⟨rfl,q2,rfl⟩)
           | (at_builtin;refine zas rfl (.tmp 53) (.tmp 55) _ rfl w.heap.size 5 1 1 Tryz.underlying83 eU8b (.slice A acc.length c) acc.length (u8s acc) rr (by exact hown.alloc _) (some ⟨wr.heap.size,0,none⟩) 1 1 [.int .u8 EB.toNat] rr (by exact RdS.new wr _ [.int .u8 EB.toNat] 1 rfl) (by simp[Value.oneCell']) om om (by exact Nat.le_trans hBr.size sy) ?_))
          intro A2 c2 w3 hown2 hc2 hg2 hat2;have hB3:Below w.heap.size w w3:=(below_drewN (hBr.alloc hBr.size _) q2).grown hg2 (Nat.le_trans hBr.size sy) (fun k hk=>(hown.lt k hk).1)
          have hown3:w3.ownsRow w.heap.size 5 1 (.slice A2 (acc++[EB]).length c2) (acc++[EB]).length (u8s (acc++[EB])):=by
           rw[zbc,la9];exact hown2
          clear hg2 hat2 hown2 hown hBr hst hBB c0
          go_wp2_with fail
          go_roundg (s.size-(m+EN))
          case measure=>have:=HGK.out;omega
          case rel=>exact⟨m+EN,acc++[EB],A2,c2,by omega,by omega,rfl,by go_num,by rw[la9];rfl,by rw[la9];simp;omega,hown3,hB3,HTQ.out⟩
      · have e2:((x.toNat:Int) == 92)=false:=za7 (k:=92) h92
        have H92:=qh h92;clear h92
        by_cases hct:(x<32 || x>126)=true
        · have HTQ:=qh (HT.out.trans (zlw HX.out H34.out H92.out hct))
          have hcase:=zhk hct;clear hct
          rcases hcase with a1|⟨a1,a2⟩
          all_goals
            go_wp2_with fail
            refine bodyPost_ret (results_tmp rfl _ _ _) rfl ?_
            unfold TextPost
            rw[HTQ.out];simp only[];rw[HDM.out];exact⟨rfl,hBB⟩
        · have hct':(x<32 || x>126)=false:=by simpa using hct
          have HTQ:=qh (HT.out.trans (zim HX.out H34.out H92.out hct'));obtain⟨a1,a2⟩:=zld hct';clear hct hct'
          go_wp2_with (at_builtin;refine zas rfl (.tmp 26) (.tmp 28) _ rfl w.heap.size 5 1 1 Tryz.underlying83 eU8b (.slice A acc.length c) acc.length (u8s acc) rr (by exact hown.alloc _) (some ⟨wr.heap.size,0,none⟩) 1 1 [.int .u8 x.toNat] rr (by exact RdS.new wr _ [.int .u8 x.toNat] 1 rfl) (by simp[Value.oneCell']) om om (by exact Nat.le_trans hBr.size sy) ?_)
          intro A2 c2 w3 hown2 hc2 hg2 hat2;have hB3:Below w.heap.size w w3:=(hBr.alloc hBr.size _).grown hg2 (Nat.le_trans hBr.size sy) (fun k hk=>(hown.lt k hk).1)
          have hown3:w3.ownsRow w.heap.size 5 1 (.slice A2 (acc++[x]).length c2) (acc++[x]).length (u8s (acc++[x])):=by
           rw[zbc,la9];exact hown2
          clear hg2 hat2 hown2 hown hBr hst hBB c0
          go_wp2_with fail
          go_roundg (s.size-(m+1))
          case measure=>have:=HGK.out;omega
          case rel=>exact⟨m+1,acc++[x],A2,c2,by omega,by omega,rfl,by go_num,by rw[la9];rfl,by rw[la9];simp;omega,hown3,hB3,HTQ.out⟩
  · have hge:s.size≤m:=om
    have HTQ:=qh (HT.out.trans (zlv (by simpa using hge)))
    go_wp2_with fail
    refine bodyPost_ret (results_tmp rfl _ _ _) rfl ?_
    unfold TextPost
    rw[HTQ.out];exact⟨rfl,hBB⟩
end
theorem zbj(x:UInt8)(w:World):Calls Tryz.prog 105 #[.int .u8 x.toNat] w fun e w'=>e=.returned (.bool (Lx.letter x))∧w=w':=(zbw x w).mono fun _ _ ⟨a,b⟩=>⟨a,b.symm⟩
theorem zb6(x:UInt8)(w:World):Calls Tryz.prog 107 #[.int .u8 x.toNat] w fun e w'=>e=.returned (.bool (Lx.digit x))∧w=w':=(ze0 x w).mono fun _ _ ⟨a,b⟩=>⟨a,b.symm⟩
theorem ib_s(s:ByteArray)(x:UInt8)(w:World):Calls Tryz.prog 104 #[.string s,.int .u8 x.toNat] w fun e w'=>e=.returned (.int .i64 (Lib.indexByte s.data.toList x))∧w=w':=(za1 s x w).mono fun _ _ ⟨a,b⟩=>⟨a,b.symm⟩
def TokPost(B g:Nat)(s:ByteArray)(i:Nat)(ts:List Lx.Tok)(w:World)(R:Sum (List UInt8) (Nat × List UInt8 × Nat × List UInt8))(e:Ending)(w':World):Prop :=
 match R with
 | .inl x=>e=.returned (.int .i64 ((s.size-x.length:Nat):Int))∧Below B w w'
 | .inr (k,t,m,x)=>e=.returned (.int .i64 (-1))∧St w' B g s (s.size-x.length) (ts++[⟨k,t,m,i⟩])∧Below B w w'
theorem zps(x:UInt8):decide (0≤Lib.indexByte [59,44,123,125,40,41,61,62,64,33,43,45,42] x)=Lx.mark x:=by
 rw[zgq];rfl
theorem zfk(s:ByteArray)(i:Nat)(h:i≤s.size):s.size-(s.data.toList.drop i).length=i:=by simp;omega
theorem zij{l:List UInt8}{i:Nat}{x:UInt8}(hx:l[i]? = some x)(hl:Lx.letter x=true):
 Lx.token (l.drop i)=if ((l.drop i).takeWhile Lx.alnum).length>16 then .inl (l.drop i) else .inr (if Lx.reserved ((l.drop i).takeWhile Lx.alnum) then 2 else 1,(l.drop i).takeWhile Lx.alnum,0,l.drop (i+((l.drop i).takeWhile Lx.alnum).length)):=by
 rw[←List.drop_drop,zai hx];simp only[Lx.token,hl,if_true]
theorem zjm{l:List UInt8}{i:Nat}{x:UInt8}(hx:l[i]? = some x)(hl:Lx.letter x=false)(hd:Lx.digit x=true):
 Lx.token (l.drop i)=if ((l.drop i).takeWhile Lx.digit).length>9 || (((l.drop i).takeWhile Lx.digit).length>1 && x == 48) then .inl (l.drop i)
   else if (l.drop (i+((l.drop i).takeWhile Lx.digit).length)).head?.any Lx.letter then .inl (l.drop (i+((l.drop i).takeWhile Lx.digit).length))
   else .inr (3,(l.drop i).takeWhile Lx.digit,Lx.numOf ((l.drop i).takeWhile Lx.digit),l.drop (i+((l.drop i).takeWhile Lx.digit).length)):=by
 rw[←List.drop_drop,zai hx];simp only[Lx.token,hl,hd,if_true,Bool.false_eq_true,if_false]
theorem zlp{l:List UInt8}{i:Nat}{x:UInt8}(hx:l[i]? = some x)(hq:x=34):
 Lx.token (l.drop i)=match Lx.text (l.drop (i+1)).length.succ (l.drop (i+1)) []with | .inl y=>.inl y | .inr (b,y)=>.inr (4,b,0,y):=by
 subst hq;rw[zai hx]
 rfl
theorem zlr{l:List UInt8}{i:Nat}{x:UInt8}(hx:l[i]? = some x)(hl:Lx.letter x=false)(hd:Lx.digit x=false)(hq:x≠34)(hm:Lx.mark x=true):
 Lx.token (l.drop i)=.inr (5,[x],0,l.drop (i+1)):=by
 have e:(x == 34)=false:=by simpa using hq
 rw[zai hx];simp only[Lx.token,hl,hd,e,hm,if_true,Bool.false_eq_true,if_false]
theorem zlq{l:List UInt8}{i:Nat}{x:UInt8}(hx:l[i]? = some x)(hl:Lx.letter x=false)(hd:Lx.digit x=false)(hq:x≠34)(hm:Lx.mark x=false):
 Lx.token (l.drop i)=.inl (l.drop i):=by
 have e:(x == 34)=false:=by simpa using hq
 rw[zai hx];simp only[Lx.token,hl,hd,e,hm,Bool.false_eq_true,if_false]
theorem zk5{l:List UInt8}{i:Nat}: (l.drop i).head? = l[i]?:=by
 rw[List.head?_drop]
theorem zjl(B g:Nat)(s:ByteArray)(i:Nat)(ts:List Lx.Tok)(w:World)(h:St w B g s i ts)(hn:ts.length≤100000)(hi:i<s.size)(hs:s.size≤8000)(R:Sum (List UInt8) (Nat × List UInt8 × Nat × List UInt8))
 (hR:R=Lx.token (s.data.toList.drop i)):
 Calls Tryz.prog 79 #[.pointer (some ⟨g,0,none⟩)] w (TokPost B g s i ts w R):=by
 have HR:=qh hR;clear hR;have c0:=h.c0;have c1:=h.c1;have hx:=zb7 s i hi;have i0:(0:Int)≤(i:Int):=om;have i1:(i:Int)<(s.size:Int):=om;generalize hxx:s[i]=x at hx;have HX:=qh hx;have HD:=qh (zfk s i om);clear hx
 by_cases hl:Lx.letter x=true
 · have hT:=HR.out.trans (zij HX.out hl)
   by_cases hb:((s.data.toList.drop i).takeWhile Lx.alnum).length>16
   · rw[if_pos hb]at hT
     have HT:=qh hT;clear hT
     go_enter Tryz.func79, Tryz.ntmps79
     go_wp2_with fail
     go_quiet (fail)
     have h1:=h.drewN nq;have hB1:Below B w (w.drewN nq):=below_drewN (Below.refl _ _) _;clear c0 c1 h;generalize w.drewN nq=w1 at *
     go_wp2_with (first
      | (go_at_call 105;refine(zbj _ _).mono ?_;rintro e w' ⟨rfl,rfl⟩)
      | (go_at_call 107;refine(zb6 _ _).mono ?_;rintro e w' ⟨rfl,rfl⟩)
      | (go_at_call 104;refine(ib_s _ _ _).mono ?_;rintro e w' ⟨rfl,rfl⟩)
      | (go_at_call 106;refine(znc B g s i _ _ ts _ h1 om hs rfl rfl hb).mono ?_;rintro e w2 ⟨rfl,rfl⟩))
     refine bodyPost_ret (results_tmp rfl _ _ _) rfl ?_
     unfold TokPost
     rw[HT.out];simp only[];rw[HD.out];exact⟨rfl,hB1⟩
   · rw[if_neg hb]at hT
     have HT:=qh hT;have HE:=qh (zfk s (i+((s.data.toList.drop i).takeWhile Lx.alnum).length) (by have:=zjy (p:=Lx.alnum) (l:=s.data.toList) (i:=i) (by simp;omega);simpa using this));clear hT
     go_enter Tryz.func79, Tryz.ntmps79
     go_wp2_with fail
     go_quiet (fail)
     have h1:=h.drewN nq;have hB1:Below B w (w.drewN nq):=below_drewN (Below.refl _ _) _;clear c0 c1 h;generalize w.drewN nq=w1 at *
     go_wp2_with (first
      | (go_at_call 105;refine(zbj _ _).mono ?_;rintro e w' ⟨rfl,rfl⟩)
      | (go_at_call 107;refine(zb6 _ _).mono ?_;rintro e w' ⟨rfl,rfl⟩)
      | (go_at_call 104;refine(ib_s _ _ _).mono ?_;rintro e w' ⟨rfl,rfl⟩)
      | (go_at_call 106;refine(zpi B g s i _ _ ts _ h1 hn om hs rfl rfl hb).mono ?_;rintro e w2 ⟨rfl,h2,hB2⟩))
     refine bodyPost_ret (results_tmp rfl _ _ _) rfl ?_
     unfold TokPost
     rw[HT.out];simp only[];rw[HE.out];exact⟨rfl,h2,hB1.trans hB2⟩
 · have hl':Lx.letter x=false:=by simpa using hl
   clear hl
   by_cases hd:Lx.digit x=true
   · have hT:=HR.out.trans (zjm HX.out hl' hd)
     have hEl:i+((s.data.toList.drop i).takeWhile Lx.digit).length≤s.size:=by have:=zjy (p:=Lx.digit) (l:=s.data.toList) (i:=i) (by simp;omega);simpa using this
     have HE:=qh (zfk s (i+((s.data.toList.drop i).takeWhile Lx.digit).length) hEl)
     by_cases hb:((s.data.toList.drop i).takeWhile Lx.digit).length>9∨(((s.data.toList.drop i).takeWhile Lx.digit).length>1∧x=48)
     · rw[if_pos (by simpa using hb)]at hT
       have HT:=qh hT;clear hT hEl
       go_enter Tryz.func79, Tryz.ntmps79
       go_wp2_with fail
       go_quiet (fail)
       have h1:=h.drewN nq;have hB1:Below B w (w.drewN nq):=below_drewN (Below.refl _ _) _;clear c0 c1 h;generalize w.drewN nq=w1 at *
       go_wp2_with (first
        | (go_at_call 105;refine(zbj _ _).mono ?_;rintro e w' ⟨rfl,rfl⟩)
        | (go_at_call 107;refine(zb6 _ _).mono ?_;rintro e w' ⟨rfl,rfl⟩)
        | (go_at_call 104;refine(ib_s _ _ _).mono ?_;rintro e w' ⟨rfl,rfl⟩)
        | (go_at_call 108;refine(zi1 B g s i _ _ ts _ h1 hi hs rfl rfl x HX.out hd hb).mono ?_;rintro e w2 ⟨rfl,q2,rfl⟩))
       refine bodyPost_ret (results_tmp rfl _ _ _) rfl ?_
       unfold TokPost
       rw[HT.out];simp only[];rw[HD.out];exact⟨rfl,below_drewN hB1 _⟩
     · rw[if_neg (by simpa using hb),zk5]at hT
       cases hy:s.data.toList[i+((s.data.toList.drop i).takeWhile Lx.digit).length]? with
       | none =>
        rw[hy]at hT;have HT:Hid (R=.inr (3,(s.data.toList.drop i).takeWhile Lx.digit,Lx.numOf ((s.data.toList.drop i).takeWhile Lx.digit),s.data.toList.drop (i+((s.data.toList.drop i).takeWhile Lx.digit).length))):=by show R=_;simpa using hT
        have hyy:∀y,s.data.toList[i+((s.data.toList.drop i).takeWhile Lx.digit).length]? = some y→Lx.letter y=false:=fun y hh=>by rw[hy]at hh;cases hh
        have HYY:=qh hyy;clear hT hEl hy hyy
        go_enter Tryz.func79, Tryz.ntmps79
        go_wp2_with fail
        go_quiet (fail)
        have h1:=h.drewN nq;have hB1:Below B w (w.drewN nq):=below_drewN (Below.refl _ _) _;clear c0 c1 h;generalize w.drewN nq=w1 at *
        go_wp2_with (first
         | (go_at_call 105;refine(zbj _ _).mono ?_;rintro e w' ⟨rfl,rfl⟩)
         | (go_at_call 107;refine(zb6 _ _).mono ?_;rintro e w' ⟨rfl,rfl⟩)
         | (go_at_call 104;refine(ib_s _ _ _).mono ?_;rintro e w' ⟨rfl,rfl⟩)
         | (go_at_call 108;refine(zgl B g s i _ _ ts _ h1 hn hi hs rfl rfl x HX.out hd hb HYY.out).mono ?_;rintro e w2 ⟨rfl,h2,hB2⟩))
        refine bodyPost_ret (results_tmp rfl _ _ _) rfl ?_
        unfold TokPost
        rw[HT.out];simp only[];rw[HE.out];exact⟨rfl,h2,hB1.trans hB2⟩
       | some y =>
        rw[hy]at hT;have HY:=qh hy
        by_cases hly:Lx.letter y=true
        · have HT:Hid (R=.inl (s.data.toList.drop (i+((s.data.toList.drop i).takeWhile Lx.digit).length))):=by show R=_;simpa[hly] using hT
          clear hT hEl hy
          go_enter Tryz.func79, Tryz.ntmps79
          go_wp2_with fail
          go_quiet (fail)
          have h1:=h.drewN nq;have hB1:Below B w (w.drewN nq):=below_drewN (Below.refl _ _) _;clear c0 c1 h;generalize w.drewN nq=w1 at *
          go_wp2_with (first
           | (go_at_call 105;refine(zbj _ _).mono ?_;rintro e w' ⟨rfl,rfl⟩)
           | (go_at_call 107;refine(zb6 _ _).mono ?_;rintro e w' ⟨rfl,rfl⟩)
           | (go_at_call 104;refine(ib_s _ _ _).mono ?_;rintro e w' ⟨rfl,rfl⟩)
           | (go_at_call 108;refine(zi0 B g s i _ _ ts _ h1 hi hs rfl rfl x HX.out hd hb y HY.out hly).mono ?_;rintro e w2 ⟨rfl,q2,rfl⟩))
          refine bodyPost_ret (results_tmp rfl _ _ _) rfl ?_
          unfold TokPost
          rw[HT.out];simp only[];rw[HE.out];exact⟨rfl,below_drewN hB1 _⟩
        · have hly':Lx.letter y=false:=by simpa using hly
          have HT:Hid (R=.inr (3,(s.data.toList.drop i).takeWhile Lx.digit,Lx.numOf ((s.data.toList.drop i).takeWhile Lx.digit),s.data.toList.drop (i+((s.data.toList.drop i).takeWhile Lx.digit).length))):=by show R=_;simpa[hly'] using hT
          have hyy:∀y,s.data.toList[i+((s.data.toList.drop i).takeWhile Lx.digit).length]? = some y→Lx.letter y=false:=fun y hh=>by rw[hy]at hh;injection hh with hh;rw[←hh];exact hly'
          have HYY:=qh hyy;clear hT hEl hy hyy hly hly'
          go_enter Tryz.func79, Tryz.ntmps79
          go_wp2_with fail
          go_quiet (fail)
          have h1:=h.drewN nq;have hB1:Below B w (w.drewN nq):=below_drewN (Below.refl _ _) _;clear c0 c1 h;generalize w.drewN nq=w1 at *
          go_wp2_with (first
           | (go_at_call 105;refine(zbj _ _).mono ?_;rintro e w' ⟨rfl,rfl⟩)
           | (go_at_call 107;refine(zb6 _ _).mono ?_;rintro e w' ⟨rfl,rfl⟩)
           | (go_at_call 104;refine(ib_s _ _ _).mono ?_;rintro e w' ⟨rfl,rfl⟩)
           | (go_at_call 108;refine(zgl B g s i _ _ ts _ h1 hn hi hs rfl rfl x HX.out hd hb HYY.out).mono ?_;rintro e w2 ⟨rfl,h2,hB2⟩))
          refine bodyPost_ret (results_tmp rfl _ _ _) rfl ?_
          unfold TokPost
          rw[HT.out];simp only[];rw[HE.out];exact⟨rfl,h2,hB1.trans hB2⟩
   · have hd':Lx.digit x=false:=by simpa using hd
     clear hd
     by_cases h34:x=34
     · have hT:=HR.out.trans (zlp HX.out h34)
       have e1:((x.toNat:Int) == 34)=true:=by rw[h34];rfl
       clear h34
       cases hq:Lx.text (s.data.toList.drop (i+1)).length.succ (s.data.toList.drop (i+1)) []with
       | inl y =>
        rw[hq]at hT;have HT:=qh hT;have HQ:=qh hq;clear hT hq
        go_enter Tryz.func79, Tryz.ntmps79
        go_wp2_with fail
        go_quiet (fail)
        have h1:=h.drewN nq;have hB1:Below B w (w.drewN nq):=below_drewN (Below.refl _ _) _;clear c0 c1 h;generalize w.drewN nq=w1 at *
        go_wp2_with (first
         | (go_at_call 105;refine(zbj _ _).mono ?_;rintro e w' ⟨rfl,rfl⟩)
         | (go_at_call 107;refine(zb6 _ _).mono ?_;rintro e w' ⟨rfl,rfl⟩)
         | (go_at_call 104;refine(ib_s _ _ _).mono ?_;rintro e w' ⟨rfl,rfl⟩)
         | (go_at_call 109;refine(zhq B g s i ts _ h1 hn hi hs _ HQ.out.symm).mono ?_;rintro e w2 ⟨rfl,hB2⟩))
        refine bodyPost_ret (results_tmp rfl _ _ _) rfl ?_
        unfold TokPost
        rw[HT.out];simp only[];exact⟨rfl,hB1.trans hB2⟩
       | inr p =>
        obtain⟨b,y⟩:=p;rw[hq]at hT;have HT:=qh hT;have HQ:=qh hq;clear hT hq
        go_enter Tryz.func79, Tryz.ntmps79
        go_wp2_with fail
        go_quiet (fail)
        have h1:=h.drewN nq;have hB1:Below B w (w.drewN nq):=below_drewN (Below.refl _ _) _;clear c0 c1 h;generalize w.drewN nq=w1 at *
        go_wp2_with (first
         | (go_at_call 105;refine(zbj _ _).mono ?_;rintro e w' ⟨rfl,rfl⟩)
         | (go_at_call 107;refine(zb6 _ _).mono ?_;rintro e w' ⟨rfl,rfl⟩)
         | (go_at_call 104;refine(ib_s _ _ _).mono ?_;rintro e w' ⟨rfl,rfl⟩)
         | (go_at_call 109;refine(zhq B g s i ts _ h1 hn hi hs _ HQ.out.symm).mono ?_;rintro e w2 ⟨rfl,h2,hB2⟩))
        refine bodyPost_ret (results_tmp rfl _ _ _) rfl ?_
        unfold TokPost
        rw[HT.out];simp only[];exact⟨rfl,h2,hB1.trans hB2⟩
     · have e1:((x.toNat:Int) == 34)=false:=za7 (k:=34) h34
       have hib:=zps x
       by_cases hm:Lx.mark x=true
       · have HT:=qh (HR.out.trans (zlr HX.out hl' hd' h34 hm))
         have HE:=qh (zfk s (i+1) om);rw[hm]at hib;have hib':decide (0≤Lib.indexByte [59,44,123,125,40,41,61,62,64,33,43,45,42] x)=true:=hib
         have hext:s.extract i (i+1)=bytesOf [x]:=by
          rw[zdx,zai HX.out,Nat.add_sub_cancel_left]
          rfl
         clear hib hm h34
         go_enter Tryz.func79, Tryz.ntmps79
         go_wp2_with fail
         go_quiet (fail)
         have h1:=h.drewN nq;have hB1:Below B w (w.drewN nq):=below_drewN (Below.refl _ _) _;clear c0 c1 h;generalize w.drewN nq=w1 at *
         go_wp2_with (first
          | (go_at_call 105;refine(zbj _ _).mono ?_;rintro e w' ⟨rfl,rfl⟩)
          | (go_at_call 107;refine(zb6 _ _).mono ?_;rintro e w' ⟨rfl,rfl⟩)
          | (go_at_call 104;refine(ib_s _ _ _).mono ?_;rintro e w' ⟨rfl,rfl⟩))
         have c0:=h1.c0;have c1:=h1.c1;have i2:(i:Int)+1≤(s.size:Int):=om;have h1d:St w1.drew B g s i ts:=h1.drewN 1;have hB1d:Below B w w1.drew:=hB1.drew;have k0:(0:Int)≤(i:Int)+1:=om;have k1:(i:Int)≤(i:Int)+1:=om;have k2:((i:Int)+1).toNat=i+1:=om;have k3:IntKind.i64.wrap ((i:Int)+1)=(i:Int)+1:=IntWalk.i64_in _ om
         go_still_tail 20,kr
         go_wp2_with (go_at_call 80;refine(zll B g s i (i+1) ts 5 [x] 0 _ (by go_num) h1d hn).mono ?_;rintro e w2 ⟨rfl,h2,hB2⟩)
         clear k0 k1 k2 k3;refine bodyPost_ret (results_tmp rfl _ _ _) rfl ?_
         unfold TokPost
         rw[HT.out];simp only[];rw[HE.out];exact⟨rfl,h2,hB1d.trans hB2⟩
       · have hm':Lx.mark x=false:=by simpa using hm
         have HT:=qh (HR.out.trans (zlq HX.out hl' hd' h34 hm'));rw[hm']at hib;have hib':decide (0≤Lib.indexByte [59,44,123,125,40,41,61,62,64,33,43,45,42] x)=false:=hib;clear hib hm hm' h34
         go_enter Tryz.func79, Tryz.ntmps79
         go_wp2_with fail
         go_quiet (fail)
         have h1:=h.drewN nq;have hB1:Below B w (w.drewN nq):=below_drewN (Below.refl _ _) _;clear c0 c1 h;generalize w.drewN nq=w1 at *;have c0:=h1.c0;have c1:=h1.c1
         go_wp2_with (first
          | (go_at_call 105;refine(zbj _ _).mono ?_;rintro e w' ⟨rfl,rfl⟩)
          | (go_at_call 107;refine(zb6 _ _).mono ?_;rintro e w' ⟨rfl,rfl⟩)
          | (go_at_call 104;refine(ib_s _ _ _).mono ?_;rintro e w' ⟨rfl,rfl⟩))
         refine bodyPost_ret (results_tmp rfl _ _ _) rfl ?_
         unfold TokPost
         rw[HT.out];simp only[];rw[HD.out];exact⟨rfl,hB1⟩
end Go.Proofs.YtafjkbbiaopemaaGreatDoor
