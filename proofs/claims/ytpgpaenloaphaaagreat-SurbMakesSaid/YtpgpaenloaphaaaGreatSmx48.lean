/- Part of the proof. -/
import Derived.Lib.AppendZerosOnto
import Derived.Test.YtpgpaenloaphaaaGreatSmx40
import Derived.Test.YtpgpaenloaphaaaGreatSmx47
set_option maxRecDepth 100000
set_option maxHeartbeats 0
namespace Go.Proofs.YtpgpaenloaphaaaGreat
open Go.RowKit
theorem zm7{w:World}{base n c:Nat}{e:TypeId}{A:Option Addr}{xs:List Value}(h:w.ownsRow base e 1 (.slice A n c) n xs)(hn:0<n):
 ∃g cs,A=some ⟨g,0,none⟩∧base≤g∧Blk w g e (xs++cs)∧xs.length=n∧(xs++cs).length=c∧c≤maxLen:=by
 obtain⟨h1,h2⟩:=h
 rcases h2 with ⟨_,h0⟩|⟨g,cap,cur,hv,hb,hg,hnc,hm,hsz,hxs⟩
 · omega
 · injection hv with hA hn' hc
   subst hc;have hx:cur.toList.take n=xs:=by simpa using hxs
   refine⟨g,cur.toList.drop n,hA,hb,?_,by simpa using h1,?_,?_⟩
   · rw[←hx,List.take_append_drop]
     exact hg
   · rw[←hx,List.take_append_drop]
     simpa using hsz
   · exact hm
theorem zmj(a b:List UInt8)(i:Nat)(ha:i<a.length)(hb:i<b.length):(Ch.xor a b)[i]? = some (a.getD i 0 ^^^ b.getD i 0):=by
 simp[Ch.xor,List.getElem?_zipWith,List.getD_eq_getElem?_getD,ha,hb]
theorem znp(X S:List UInt8)(i:Nat)(v:UInt8)(hX:X[i]? = some v)(hS:i<S.length):(X.take i++S.drop i).set i v=X.take (i+1)++S.drop (i+1):=by
 have hi:i<X.length:=(gi9.1 hX).1;rw[List.set_append_right _ _ (by simp;omega),List.length_take,Nat.min_eq_left om,Nat.sub_self,List.drop_eq_getElem_cons hS,List.set_cons_zero,List.take_add_one,hX,as9]
 rfl
theorem zgv(key:List UInt8)(hk:key.length=32)(B:Option Addr)(n d:Nat)(bs:List UInt8)(w:World)(h:Rd w B n (u8s bs))(h0:0<n)(hn:n≤1000000):
 Calls Tryz.prog 46 #[.agg (u8s key).toArray,.int .i64 0,.slice B n d] w fun e w'=>∃A' c',e=.returned (.slice A' n c')∧n≤c'∧w'.ownsRow w.heap.size 5 1 (.slice A' n c') n (u8s (Ch.turn key bs))∧Below w.heap.size w w':=by
 have HR:=qh h;have HBL:=qh h.len;have HK:Hid (Blk (w.alloc (.cells (u8s key).toArray 23)) w.heap.size 23 (u8s key)):=Blk.new _ _ _;have HE:Hid (Below w.heap.size w (w.alloc (.cells (u8s key).toArray 23))):=(Below.refl _ w).alloc lr _
 have HY:Hid (Calls Tryz.prog 77 #[.slice (some ⟨w.heap.size,0,none⟩) 32 32,.int .i64 0,.int .i64 n] (w.alloc (.cells (u8s key).toArray 23)) fun e w'=>∃g cs c',e=.returned (.slice (some ⟨g,0,none⟩) n c')∧(u8s (Ch.piece key 0 n)++cs).length=c'∧n≤c'∧c'≤maxLen∧w.heap.size+1≤g∧Blk w' g 5 (u8s (Ch.piece key 0 n)++cs)∧Below (w.alloc (.cells (u8s key).toArray 23)).heap.size (w.alloc (.cells (u8s key).toArray 23)) w'):=by
  refine(zon (some ⟨w.heap.size,0,none⟩) 32 key n _ (HK.out.rdA hk) h0 hn).mono ?_;rintro e w' ⟨A',c',rfl,hc',ho,hB⟩;obtain⟨g,cs,rfl,hg,hb,hl,hcl,hm⟩:=zm7 ho h0;exact⟨g,cs,c',rfl,hcl,hc',hm,by simpa using hg,hb,hB⟩
 obtain⟨S,hS⟩:=ex9 (Ch.piece key 0 n);have HSL:Hid (S.length=n):=(by show _=_;rw[hS,Ch.piece_len]);have HX:Hid (Ch.turn key bs=Ch.xor bs S):=(by show _=_;rw[Ch.turn,hS,h.len]);rw[←hS]at HY;rw[HX.out];have HXL:Hid ((Ch.xor bs S).length=n):=(by show _=_;rw[Ch.xor_len _ _ (by rw[HSL.out];exact h.len),h.len]);have HXG:Hid (∀i,i<n→(Ch.xor bs S)[i]? = some (bs.getD i 0 ^^^ S.getD i 0)):=fun i hi=>zmj bs S i (by rw[HBL.out];exact hi) (by rw[HSL.out];exact hi)
 generalize Ch.xor bs S=X at *;have hn0:(n:Int)≤1000000:=om;clear hS h HX HK
 go_enter Tryz.func46, Tryz.ntmps46
 go_wp2_with (go_at_call 77;(with_reducible refine HY.out.mono ?_);rintro e w1 ⟨g,cs,cc,rfl,hcl,hnc,hcm,hg,hb,hB⟩;have HCC:=qh hcl;have HS1:=qh hb;have HE1:=qtr HE hB;have HG:=qh hg;have HNC:=qh hnc;have HCM:=qh hcm;clear hb hB hg hnc hcm hcl)
 go_loopg [8] n (fun kk q wr=>∃i:Nat,kk=n-i∧q=.int .i64 (i:Int)∧i≤n∧Blk wr g 5 (u8s (X.take i++S.drop i)++cs)∧Below w.heap.size w wr)
 case atStart=>exact⟨0,rfl,rfl,by omega,by rw[List.take_zero,List.drop_zero,List.nil_append];exact HS1.out,HE1.out⟩
 case round =>
  clear HS1 HE1 HY HE;obtain⟨i,hgk,rfl,hi,hA,hE⟩:=hrel
  rcases Nat.lt_or_ge i n with hlt|hge
  · have hlt2:(i:Int)<(n:Int):=om
    obtain⟨b,off,y,rfl,hbw,huy,hcw⟩:=HR.out.u8 (k:=i) hlt;have cy:wr.cell? ⟨b,off+i,none⟩=some (.int .u8 (y.toNat:Int)):=(hE.cell hbw).trans hcw;obtain⟨x,hx⟩:=ex9 (S.getD i 0);have hyd:y=bs.getD i 0:=by rw[gd9,huy];rfl
    have hxl:(u8s (X.take i++S.drop i)++cs)[i]? = some (.int .u8 (x.toNat:Int)):=by
     rw[ll9 (by rw[zaa,la9,List.length_take,List.length_drop,HXL.out,HSL.out];omega),u8s_getElem?,ar9 (by rw[List.length_take,HXL.out];omega),List.length_take,HXL.out,Nat.min_eq_left om,Nat.sub_self,List.getElem?_drop,Nat.add_zero,ge9 (by rw[HSL.out];exact hlt),hx,gd9,ge9 (by rw[HSL.out];exact hlt)]
     rfl
    have cx:wr.cell? ⟨g,i,none⟩=some (.int .u8 (x.toNat:Int)):=(hA.cell i).trans hxl;have fx:wr.drew.frozen? ⟨g,i,none⟩=false:=hA.drew.frozen i;obtain⟨v,hv⟩:=ex9 (x ^^^ y);have hvi:bits .xor .u8 (x.toNat:Int) (y.toNat:Int)=(v.toNat:Int):=by rw[hv];exact zh1 x y
    have HXI:Hid (X[i]? = some v):=(by show _=_;rw[HXG.out i hlt,hv,hx,hyd,UInt8.xor_comm])
    have HAx:Hid (Blk (wr.drew.setCell ⟨g,i,none⟩ (.int .u8 (v.toNat:Int))) g 5 (u8s (X.take (i+1)++S.drop (i+1))++cs)):=by
     have h1:=hA.drew.set_ i (.int .u8 (v.toNat:Int));rw[List.set_append_left _ _ (by rw[zaa,la9,List.length_take,List.length_drop,HXL.out,HSL.out];omega),zbc,znp X S i v HXI.out (by rw[HSL.out];exact hlt)]at h1;exact h1
    have HEx:=qh (hE.drew.setCell (p:=⟨g,i,none⟩) (by have:=HG.out;show w.heap.size≤g;omega) (.int .u8 (v.toNat:Int)));have HGK:=qh hgk;have HLT:=qh hlt;have hT:wr.drew.cell? ⟨g,i,none⟩=some (.int .u8 (x.toNat:Int))∧wr.drew.cell? ⟨b,off+i,none⟩=some (.int .u8 (y.toNat:Int)):=⟨cx,cy⟩;clear hA hE hgk cx cy hxl hx hyd hv huy hcw hbw;go_wp2;refine kgo kr 12 (fun w'=>w'.cell? ⟨g,i,none⟩=some (.int .u8 (x.toNat:Int))∧w'.cell? ⟨b,off+i,none⟩=some (.int .u8 (y.toNat:Int))) hT (fun _ _ _ _ _ h=>h) ?_;refine kp 0 (.slice (some ⟨g,0,none⟩) n cc) rfl kr (fun _=>kr) ?_;refine kp 1 (.int .i64 (i:Int)) rfl kr (fun _=>kr) ?_;refine kp 2 (.slice (some ⟨g,0,none⟩) n cc) rfl kr (fun _=>kr) ?_;refine kp 3 (.int .i64 (i:Int)) rfl kr (fun _=>kr) ?_;refine kp 4 (.pointer (some ⟨g,i,none⟩)) rfl kr (fun _=>(zbn (t:=22) (e:=5) (x:=.tmp 22) (y:=.tmp 23) (g:=g) (off:=0) (n:=n) (c:=cc) (p:=i) (sz:=1) rr kr kr hlt kr szU8r).trans (by rw[Nat.mul_one,Nat.zero_add])) ?_;refine kl 5 (.int .u8 (x.toNat:Int)) rfl kr (fun w' hw'=>zca (t:=5) (x:=.tmp 24) (p:=⟨g,i,none⟩) rr kr agU8 hw'.1) ?_;refine kp 6 (.slice (some ⟨b,off,none⟩) n d) rfl kr (fun _=>kr) ?_;refine kp 7 (.int .i64 (i:Int)) rfl kr (fun _=>kr) ?_;refine kp 8 (.pointer (some ⟨b,off+i,none⟩)) rfl kr (fun _=>(zbn (t:=22) (e:=5) (x:=.tmp 26) (y:=.tmp 27) (g:=b) (off:=off) (n:=n) (c:=d) (p:=i) (sz:=1) rr kr kr hlt kr szU8r).trans (by rw[Nat.mul_one])) ?_;refine kl 9 (.int .u8 (y.toNat:Int)) rfl kr (fun w' hw'=>zca (t:=5) (x:=.tmp 28) (p:=⟨b,off+i,none⟩) rr kr agU8 hw'.2) ?_;refine kp 10 (.int .u8 (v.toNat:Int)) rfl kr (fun _=>Eq.trans (b:=.ok (.value (.int .u8 (bits .xor .u8 (x.toNat:Int) (y.toNat:Int)))) _) kr (by rw[hvi])) ?_;refine kp 11 (.pointer (some ⟨g,i,none⟩)) rfl kr (fun _=>(zbn (t:=22) (e:=5) (x:=.tmp 20) (y:=.tmp 21) (g:=g) (off:=0) (n:=n) (c:=cc) (p:=i) (sz:=1) rr kr kr hlt kr szU8r).trans (by rw[Nat.mul_one,Nat.zero_add])) ?_;intro q8 q9;clear q8 q9;refine AnyK.store 12 (d:=none) (op:=.store 5 (.tmp 31) (.tmp 30)) kr (fun o ho=>zgf (p:=⟨g,i,none⟩) (k:=.u8) (n:=(v.toNat:Int)) ho kr kr szU8r hT.1 fx) kr (fun h=>(by cases h)) ?_;refine AnyK.done kr ?_;clear hT fx hvi;go_wp2;go_roundg (n-(i+1))
    case measure=>have:=HGK.out;have:=HLT.out;omega
    case rel=>exact⟨i+1,rfl,by go_num,by have:=HLT.out;omega,HAx.out,HEx.out⟩
  · obtain rfl:i=n:=om
    have hlt2:¬(i:Int)<(i:Int):=om;rw[tk (by rw[HXL.out];exact lr),List.drop_of_length_le (by rw[HSL.out];exact lr),List.append_nil]at hA;have hlc:(u8s X++cs).length=cc:=by rw[←HCC.out,la9,la9,zaa,zaa,HXL.out,HSL.out]
    have HOW:Hid (wr.ownsRow w.heap.size 5 1 (.slice (some ⟨g,0,none⟩) i cc) i (u8s X)):=by
     refine⟨by rw[zaa,HXL.out,Nat.mul_one],.inr ⟨g,cc,(u8s X++cs).toArray,rfl,(by have:=HG.out;omega),hA,HNC.out,HCM.out,by simpa using hlc,?_⟩⟩;rw[Nat.mul_one,List.toList_toArray,List.take_append_of_le_length (by rw[zaa,HXL.out];exact lr),tk (by rw[zaa,HXL.out];exact lr)]
    have HEx:=qh hE;clear hA hE hgk hlc;go_wp2;go_ret;exact⟨_,_,rfl,HNC.out,HOW.out,HEx.out⟩
theorem zq1(key:List UInt8)(q i:Nat):Ch.piece key (64*q) (64*i+64)=Ch.piece key (64*q) (64*i)++Ch.block key (Ch.zeros 12) (UInt32.ofNat (q+i)):=by
 have h:=zfm key (64*q) (64*i) 64 om;rw[h,show(64*q+64*i)/64=q+i by omega,show(64*q+64*i)%64=0 by omega,List.drop_zero,tk (Nat.le_of_eq (Ch.block_len _ _ _))]
theorem zkn(key:List UInt8)(p L r n:Nat)(h:r+n≤L):((Ch.piece key p L).drop r).take n=Ch.piece key (p+r) n:=by
 have e:Ch.piece key p L=Ch.piece key p r++(Ch.piece key (p+r) n++Ch.piece key (p+r+n) (L-r-n)):=by rw[←Ch.piece_add,←Ch.piece_add,show r+(n+(L-r-n))=L by omega]
 rw[e,List.drop_left' (Ch.piece_len _ _ _),List.take_left' (Ch.piece_len _ _ _)]
theorem zou(key:List UInt8)(p L r:Nat)(h:r≤L):(Ch.piece key p L).drop r=Ch.piece key (p+r) (L-r):=by
 rw[←zkn key p L r (L-r) om,tk (by rw[List.length_drop,Ch.piece_len];exact lr)]
theorem zqs(A:Option Addr)(c:Nat)(key:List UInt8)(p n q r:Nat)(w:World)(h:Rd w A 32 (u8s key))(h0:0<n)(hn:n≤1000000)(hp:p=64*q+r)(hr:r<64)(hq:q≤1000000):
 Calls Tryz.prog 77 #[.slice A 32 c,.int .i64 p,.int .i64 n] w fun e w'=>∃A' c',e=.returned (.slice A' n c')∧n≤c'∧w'.ownsRow w.heap.size 5 1 (.slice A' n c') n (u8s (Ch.piece key p n))∧Below w.heap.size w w':=by
 have HR:=qh h;clear h;obtain⟨N,hN⟩:=ex9 (n+r);obtain⟨M,hM⟩:=ex9 ((N+63)/64);have hM1:N≤64*M:=om;have hM2:64*M<N+64:=om;have pi1:(p:Int)/64=(q:Int):=om;have pi2:(p:Int)%64=(r:Int):=om;have ni1:(n:Int)+(r:Int)=(N:Int):=om;have ni2:(r:Int)+(n:Int)=(N:Int):=om;have HPQ:=qh hp;have HNN:=qh hN;have hp0:p≤64000063:=om;have hN0:N≤1000063:=om;have hrN:(r:Int)≤(N:Int):=om;clear hM hp hN
 go_enter Tryz.func77, Tryz.ntmps77
 go_wp2_with fail
 go_loopg [7,8] M (fun kk v qv wr=>∃i j L:Nat,i≤M∧j=q+i∧kk=M-i∧L=64*i∧qv=.int .i64 j∧(∃A' c',v=.slice A' L c'∧L≤c'∧wr.ownsRow w.heap.size 5 1 (.slice A' L c') L (u8s (Ch.piece key (64*q) L)))∧Below w.heap.size w wr)
 case atStart=>exact⟨0,q,0,by omega,rfl,rfl,rfl,rfl,⟨_,_,rfl,by omega,⟨rfl,.inl ⟨rfl,rfl⟩⟩⟩,Below.refl _ _⟩
 case round =>
  obtain⟨i,j,L,hi,hj,hgk,hL,rfl,⟨A',c',rfl,hc',hown⟩,hB⟩:=hrel;have HGK:=qh hgk;have HL:=qh hL;have HJ:=qh hj
  by_cases hlt:L<N
  · have hlt2:(L:Int)<(N:Int):=om
    have hk32:j<4294967296:=om;have hi2:j≤2000000:=om;have hi3:i<M:=om;have hL2:L≤1000000:=om
    have HBL:Hid (∀W B,Rd W A 32 (u8s key)→Rd W B 12 (u8s (Ch.zeros 12))→Calls Tryz.prog 117 #[.slice A 32 c,.slice B 12 12,.int .u32 (j:Int)] W fun e w'=>∃A' c',e=.returned (.slice A' 64 c')∧64≤c'∧w'.ownsRow W.heap.size 5 1 (.slice A' 64 c') 64 (u8s (Ch.block key (Ch.zeros 12) (UInt32.ofNat j)))∧Below W.heap.size W w'):=fun W B h1 h2=>by
     have:=zg2 A B c 12 key (Ch.zeros 12) (UInt32.ofNat j) W h1 h2;rw[zg8 j hk32]at this;exact this
    have HST:Hid (Ch.piece key (64*q) (L+64)=Ch.piece key (64*q) L++Ch.block key (Ch.zeros 12) (UInt32.ofNat j)):=by show _=_;rw[hL,hj];exact zq1 key q i
    have hbl:=Ch.block_len key (Ch.zeros 12) (UInt32.ofNat j);obtain⟨bl,hbe⟩:=ex9 (Ch.block key (Ch.zeros 12) (UInt32.ofNat j));rw[←hbe]at HBL HST hbl;have HLEN:=qh hbl;have HBE:=qh hB;have HOW:=qh hown;clear hbe hbl hgk hL hB hown hj hi
    go_wp2_with (first
     | (refine zao rfl (.const (.int .i64 12)) (.const (.int .i64 12)) 22 rfl 5 (.int .u8 0) 1 Tryz.underlying22 iU8 rfl .i64 .i64 12 12 rr rr 12 12 rfl rfl om om om ?_;intro w1 hb1 hg1 hs1;have HB1:=qh (zaf hg1);have HZ1:Hid (Rd w1 (some ⟨wr.heap.size,0,none⟩) 12 (u8s (Ch.zeros 12))):=hb1.rdAll;have HE1:=qh (HBE.out.trans (HB1.out.mono HBE.out.size));have HO1:=qh (zau HOW.out HB1.out);clear hb1 hg1 hs1)
     | (go_at_call 117;(with_reducible refine(HBL.out w1 _ (by exact HR.out.below HE1.out) (by exact HZ1.out)).mono ?_);rintro e w3 ⟨A3,c3,rfl,hc3,hown3,hB3⟩;have HR3:=qh (Rd.of_own hown3);have HE3:=qtr HE1 hB3;have HO3:=qh (zau HO1.out hB3);clear hown3 hB3)
     | (at_builtin;refine zah rfl (.tmp 20) (.tmp 25) 22 rfl w.heap.size 5 1 1 Tryz.underlying22 eU8 (.slice A' L c') L (u8s (Ch.piece key (64*q) L)) rr (by exact HO3.out) A3 64 c3 (u8s bl) rr (by exact HR3.out.toS) (zac _) om om HE3.out.size ?_;intro A4 c4 w4 hown4 hc4 hg4 hat4;have HO4:=qh hown4;rw[←zae,←HST.out]at HO4;have HE4:=qh (HE3.out.grown hg4 HE3.out.size (fun k hk=>(HO3.out.lt k hk).1));clear hown4 hg4 hat4))
    go_roundg (M-(i+1))
    case measure=>have:=HGK.out;omega
    case rel=>exact⟨i+1,j+1,L+64,by omega,by have:=HJ.out;omega,rfl,by have:=HL.out;omega,by go_num,⟨A4,c4,rfl,by omega,HO4.out⟩,HE4.out⟩
  · have hlt2:¬(L:Int)<(N:Int):=om
    have hLb:L≤2000000:=om;have hnL:(N:Int)≤(L:Int):=om;have hnc:(N:Int)≤(c':Int):=om;have hrc:¬c'=r:=by have:=HNN.out;omega
    have hrc2:(r:Int)≤(c':Int):=om;have hNr:N-r=n:=by have:=HNN.out;omega
    obtain⟨g,rfl,hg,_,hr⟩:=zcl hown (by have:=HNN.out;omega);have hr2:=zg1 hr r n (by have:=HNN.out;omega);rw[Nat.zero_add,zkn _ _ _ _ _ (by have:=HNN.out;omega),←HPQ.out]at hr2;have HC:Hid (∀W,Rd W (some ⟨g,r,none⟩) n (u8s (Ch.piece key p n))→Calls Tryz.prog 12 #[.slice (some ⟨g,r,none⟩) n (c'-r)] W fun e w'=>∃A' c',e=.returned (.slice A' n c')∧n≤c'∧w'.ownsRow W.heap.size 5 1 (.slice A' n c') n (u8s (Ch.piece key p n))∧Below W.heap.size W w'):=fun W h1=>zbs _ n (c'-r) _ W h1 om
    have HR2:=qh hr2;have HBE:=qh hB;clear hown hr hr2 hB hgk hL hj
    go_wp2_with ((go_at_call 12;(with_reducible refine(HC.out _ (by exact HR2.out)).mono ?_);rintro e w3 ⟨A3,c3,rfl,hc3,hown3,hB3⟩
                  have HO3:=qh (zbj hown3 HBE.out.size);have HE3:=qtr HBE hB3
                  clear hown3 hB3))
    go_ret;exact⟨A3,c3,rfl,hc3,HO3.out,HE3.out⟩
theorem zob(key:List UInt8)(hk:key.length=32)(p q r:Nat)(hp:p=64*q+r)(hr:r<64)(hq:q≤1000000)(B:Option Addr)(n d:Nat)(bs:List UInt8)(w:World)(h:Rd w B n (u8s bs))(h0:0<n)(hn:n≤1000000):
 Calls Tryz.prog 46 #[.agg (u8s key).toArray,.int .i64 p,.slice B n d] w fun e w'=>∃A' c',e=.returned (.slice A' n c')∧n≤c'∧w'.ownsRow w.heap.size 5 1 (.slice A' n c') n (u8s (Ch.xor bs (Ch.piece key p n)))∧Below w.heap.size w w':=by
 have HR:=qh h;have HBL:=qh h.len;have HK:Hid (Blk (w.alloc (.cells (u8s key).toArray 23)) w.heap.size 23 (u8s key)):=Blk.new _ _ _;have HE:Hid (Below w.heap.size w (w.alloc (.cells (u8s key).toArray 23))):=(Below.refl _ w).alloc lr _
 have HY:Hid (Calls Tryz.prog 77 #[.slice (some ⟨w.heap.size,0,none⟩) 32 32,.int .i64 p,.int .i64 n] (w.alloc (.cells (u8s key).toArray 23)) fun e w'=>∃g cs c',e=.returned (.slice (some ⟨g,0,none⟩) n c')∧(u8s (Ch.piece key p n)++cs).length=c'∧n≤c'∧c'≤maxLen∧w.heap.size+1≤g∧Blk w' g 5 (u8s (Ch.piece key p n)++cs)∧Below (w.alloc (.cells (u8s key).toArray 23)).heap.size (w.alloc (.cells (u8s key).toArray 23)) w'):=by
  refine(zqs (some ⟨w.heap.size,0,none⟩) 32 key p n q r _ (HK.out.rdA hk) h0 hn hp hr hq).mono ?_;rintro e w' ⟨A',c',rfl,hc',ho,hB⟩;obtain⟨g,cs,rfl,hg,hb,hl,hcl,hm⟩:=zm7 ho h0;exact⟨g,cs,c',rfl,hcl,hc',hm,by simpa using hg,hb,hB⟩
 obtain⟨S,hS⟩:=ex9 (Ch.piece key p n);have HSL:Hid (S.length=n):=(by show _=_;rw[hS,Ch.piece_len]);rw[←hS]at HY ⊢;have HXL:Hid ((Ch.xor bs S).length=n):=(by show _=_;rw[Ch.xor_len _ _ (by rw[HSL.out];exact h.len),h.len]);have HXG:Hid (∀i,i<n→(Ch.xor bs S)[i]? = some (bs.getD i 0 ^^^ S.getD i 0)):=fun i hi=>zmj bs S i (by rw[HBL.out];exact hi) (by rw[HSL.out];exact hi)
 generalize Ch.xor bs S=X at *;have hn0:(n:Int)≤1000000:=om;have hp0:p≤64000063:=om;clear hS h HK hp hr hq
 go_enter Tryz.func46, Tryz.ntmps46
 go_wp2_with (go_at_call 77;(with_reducible refine HY.out.mono ?_);rintro e w1 ⟨g,cs,cc,rfl,hcl,hnc,hcm,hg,hb,hB⟩;have HCC:=qh hcl;have HS1:=qh hb;have HE1:=qtr HE hB;have HG:=qh hg;have HNC:=qh hnc;have HCM:=qh hcm;clear hb hB hg hnc hcm hcl)
 go_loopg [8] n (fun kk q wr=>∃i:Nat,kk=n-i∧q=.int .i64 (i:Int)∧i≤n∧Blk wr g 5 (u8s (X.take i++S.drop i)++cs)∧Below w.heap.size w wr)
 case atStart=>exact⟨0,rfl,rfl,by omega,by rw[List.take_zero,List.drop_zero,List.nil_append];exact HS1.out,HE1.out⟩
 case round =>
  clear HS1 HE1 HY HE;obtain⟨i,hgk,rfl,hi,hA,hE⟩:=hrel
  rcases Nat.lt_or_ge i n with hlt|hge
  · have hlt2:(i:Int)<(n:Int):=om
    obtain⟨b,off,y,rfl,hbw,huy,hcw⟩:=HR.out.u8 (k:=i) hlt;have cy:wr.cell? ⟨b,off+i,none⟩=some (.int .u8 (y.toNat:Int)):=(hE.cell hbw).trans hcw;obtain⟨x,hx⟩:=ex9 (S.getD i 0);have hyd:y=bs.getD i 0:=by rw[gd9,huy];rfl
    have hxl:(u8s (X.take i++S.drop i)++cs)[i]? = some (.int .u8 (x.toNat:Int)):=by
     rw[ll9 (by rw[zaa,la9,List.length_take,List.length_drop,HXL.out,HSL.out];omega),u8s_getElem?,ar9 (by rw[List.length_take,HXL.out];omega),List.length_take,HXL.out,Nat.min_eq_left om,Nat.sub_self,List.getElem?_drop,Nat.add_zero,ge9 (by rw[HSL.out];exact hlt),hx,gd9,ge9 (by rw[HSL.out];exact hlt)]
     rfl
    have cx:wr.cell? ⟨g,i,none⟩=some (.int .u8 (x.toNat:Int)):=(hA.cell i).trans hxl;have fx:wr.drew.frozen? ⟨g,i,none⟩=false:=hA.drew.frozen i;obtain⟨v,hv⟩:=ex9 (x ^^^ y);have hvi:bits .xor .u8 (x.toNat:Int) (y.toNat:Int)=(v.toNat:Int):=by rw[hv];exact zh1 x y
    have HXI:Hid (X[i]? = some v):=(by show _=_;rw[HXG.out i hlt,hv,hx,hyd,UInt8.xor_comm])
    have HAx:Hid (Blk (wr.drew.setCell ⟨g,i,none⟩ (.int .u8 (v.toNat:Int))) g 5 (u8s (X.take (i+1)++S.drop (i+1))++cs)):=by
     have h1:=hA.drew.set_ i (.int .u8 (v.toNat:Int));rw[List.set_append_left _ _ (by rw[zaa,la9,List.length_take,List.length_drop,HXL.out,HSL.out];omega),zbc,znp X S i v HXI.out (by rw[HSL.out];exact hlt)]at h1;exact h1
    have HEx:=qh (hE.drew.setCell (p:=⟨g,i,none⟩) (by have:=HG.out;show w.heap.size≤g;omega) (.int .u8 (v.toNat:Int)));have HGK:=qh hgk;have HLT:=qh hlt;have hT:wr.drew.cell? ⟨g,i,none⟩=some (.int .u8 (x.toNat:Int))∧wr.drew.cell? ⟨b,off+i,none⟩=some (.int .u8 (y.toNat:Int)):=⟨cx,cy⟩;clear hA hE hgk cx cy hxl hx hyd hv huy hcw hbw;go_wp2;refine kgo kr 12 (fun w'=>w'.cell? ⟨g,i,none⟩=some (.int .u8 (x.toNat:Int))∧w'.cell? ⟨b,off+i,none⟩=some (.int .u8 (y.toNat:Int))) hT (fun _ _ _ _ _ h=>h) ?_;refine kp 0 (.slice (some ⟨g,0,none⟩) n cc) rfl kr (fun _=>kr) ?_;refine kp 1 (.int .i64 (i:Int)) rfl kr (fun _=>kr) ?_;refine kp 2 (.slice (some ⟨g,0,none⟩) n cc) rfl kr (fun _=>kr) ?_;refine kp 3 (.int .i64 (i:Int)) rfl kr (fun _=>kr) ?_;refine kp 4 (.pointer (some ⟨g,i,none⟩)) rfl kr (fun _=>(zbn (t:=22) (e:=5) (x:=.tmp 22) (y:=.tmp 23) (g:=g) (off:=0) (n:=n) (c:=cc) (p:=i) (sz:=1) rr kr kr hlt kr szU8r).trans (by rw[Nat.mul_one,Nat.zero_add])) ?_;refine kl 5 (.int .u8 (x.toNat:Int)) rfl kr (fun w' hw'=>zca (t:=5) (x:=.tmp 24) (p:=⟨g,i,none⟩) rr kr agU8 hw'.1) ?_;refine kp 6 (.slice (some ⟨b,off,none⟩) n d) rfl kr (fun _=>kr) ?_;refine kp 7 (.int .i64 (i:Int)) rfl kr (fun _=>kr) ?_;refine kp 8 (.pointer (some ⟨b,off+i,none⟩)) rfl kr (fun _=>(zbn (t:=22) (e:=5) (x:=.tmp 26) (y:=.tmp 27) (g:=b) (off:=off) (n:=n) (c:=d) (p:=i) (sz:=1) rr kr kr hlt kr szU8r).trans (by rw[Nat.mul_one])) ?_;refine kl 9 (.int .u8 (y.toNat:Int)) rfl kr (fun w' hw'=>zca (t:=5) (x:=.tmp 28) (p:=⟨b,off+i,none⟩) rr kr agU8 hw'.2) ?_;refine kp 10 (.int .u8 (v.toNat:Int)) rfl kr (fun _=>Eq.trans (b:=.ok (.value (.int .u8 (bits .xor .u8 (x.toNat:Int) (y.toNat:Int)))) _) kr (by rw[hvi])) ?_;refine kp 11 (.pointer (some ⟨g,i,none⟩)) rfl kr (fun _=>(zbn (t:=22) (e:=5) (x:=.tmp 20) (y:=.tmp 21) (g:=g) (off:=0) (n:=n) (c:=cc) (p:=i) (sz:=1) rr kr kr hlt kr szU8r).trans (by rw[Nat.mul_one,Nat.zero_add])) ?_;intro q8 q9;clear q8 q9;refine AnyK.store 12 (d:=none) (op:=.store 5 (.tmp 31) (.tmp 30)) kr (fun o ho=>zgf (p:=⟨g,i,none⟩) (k:=.u8) (n:=(v.toNat:Int)) ho kr kr szU8r hT.1 fx) kr (fun h=>(by cases h)) ?_;refine AnyK.done kr ?_;clear hT fx hvi;go_wp2;go_roundg (n-(i+1))
    case measure=>have:=HGK.out;have:=HLT.out;omega
    case rel=>exact⟨i+1,rfl,by go_num,by have:=HLT.out;omega,HAx.out,HEx.out⟩
  · obtain rfl:i=n:=om
    have hlt2:¬(i:Int)<(i:Int):=om;rw[tk (by rw[HXL.out];exact lr),List.drop_of_length_le (by rw[HSL.out];exact lr),List.append_nil]at hA;have hlc:(u8s X++cs).length=cc:=by rw[←HCC.out,la9,la9,zaa,zaa,HXL.out,HSL.out]
    have HOW:Hid (wr.ownsRow w.heap.size 5 1 (.slice (some ⟨g,0,none⟩) i cc) i (u8s X)):=by
     refine⟨by rw[zaa,HXL.out,Nat.mul_one],.inr ⟨g,cc,(u8s X++cs).toArray,rfl,(by have:=HG.out;omega),hA,HNC.out,HCM.out,by simpa using hlc,?_⟩⟩;rw[Nat.mul_one,List.toList_toArray,List.take_append_of_le_length (by rw[zaa,HXL.out];exact lr),tk (by rw[zaa,HXL.out];exact lr)]
    have HEx:=qh hE;clear hA hE hgk hlc;go_wp2;go_ret;exact⟨_,_,rfl,HNC.out,HOW.out,HEx.out⟩
section
def za48:List Value:=u8s (List.replicate 48 0)
theorem zmi:za48.length=48:=rfl
theorem zca48:Builtin.zeroCells (Value.int .u8 0).cells 48=za48.toArray:=by kernel_rfl
theorem zct{P:Program}(w:World)(t tn ty e:TypeId)(i:TypeInfo)(z:Value)(kq kn:IntKind)(ht:P.underlying t=some (.slice e))(htn:P.underlying tn=some (.int kn))(hi:P.info? e=some i)(hz:i.zero=some z)
 (g sLen sCap:Nat) (cur:Array Value) (hgc:w.heap[g]? = some (.cells cur e (0,0)))
 (k:Nat) (h0:0<k) (hs:0<i.size) (news:List Value) (hnews:Builtin.zeroCells z.cells k=news.toArray) (h1:∀u∈news,u.oneCell'=true) (hroom:sLen+k≤sCap) (hfit:sLen*i.size+news.length≤cur.size) (h63:(k:Int)≤9223372036854775807) (h48:k*i.bytes≤281474976710656):
 (Builtin.append_ #[t,tn] ty #[.slice (some ⟨g,0,none⟩) sLen sCap,.int kq k]).run P w =
   .ok (.slice (some ⟨g,0,none⟩) (sLen+k) sCap) (w.setRow g (cur.toList.take (sLen*i.size)++news++cur.toList.drop (sLen*i.size+news.length)).toArray):=by
 have hk:k≠0:=om;have hw:IntKind.i64.wrap (k:Int)=k:=by rw[IntKind.wrap_i64];omega
 have h48i:¬(281474976710656<(k:Int)*(i.bytes:Int)):=by
  rw[←Int.natCast_mul];omega
 have hneg:¬((k:Int)<0):=om;have hns:¬(k*i.size=0):=Nat.mul_ne_zero hk om;have hst:=run_storeCells_at P g (sLen*i.size) e news 0 cur w hgc (by simpa using hfit) h1;simp only[Nat.add_zero]at hst
 simp[Builtin.append_,run_underlying ht,run_underlying htn,sizeOf,typeInfo,zeroValue,hi,hz,asInt,asIntOf,hw,hroom,hneg,hns,h48i,hnews,Addr.add_lit,hst]
theorem zi3{P:Program}(w:World)(base:Nat)(t tn ty e:TypeId)(kn:IntKind)(ht:P.underlying t=some (.slice e))(htn:P.underlying tn=some (.int kn))(i:TypeInfo)(hi:P.info? e=some i)(hz:i.zero=some (.int .u8 0))(hsi:i.size=1)(hby:i.bytes=1)
 (v:Value) (n:Nat) (xs:List Value) (hown:w.ownsRow base e 1 v n xs) (hn:n≤100000) (hbase:base≤w.heap.size):
 ∃v' w',(Builtin.append_ #[t,tn] ty #[v,.int .i64 48]).run P w=.ok v' w'∧w'.ownsRow base e 1 v' (n+48) (xs++za48)∧w.grownBy w' v.ownBlock∧(v'.ownBlock=v.ownBlock∨v'.ownBlock=some w.heap.size):=by
 have hlen:(xs++za48).length=(n+48)*1:=by rw[la9,hown.1,zmi];omega
 have grown:∀(old:Nat),old<n+48→∀(row:Option Nat),
     (w.drew.alloc (.cells (xs.toArray++Builtin.zeroCells (Value.int .u8 0).cells 48++Builtin.zeroCells (Value.int .u8 0).cells (grownCap w (n+48) old e-(n+48))) e)).ownsRow base e 1
       (.slice (some ⟨w.heap.size,0,none⟩) (n+48) (grownCap w (n+48) old e)) (n+48) (xs++za48) ∧
     w.grownBy (w.drew.alloc (.cells (xs.toArray++Builtin.zeroCells (Value.int .u8 0).cells 48++Builtin.zeroCells (Value.int .u8 0).cells (grownCap w (n+48) old e-(n+48))) e)) row:=by
  intro old ho row;have hge:=grownCap_ge w (n+48) old e;have hcm:grownCap w (n+48) old e≤maxLen:=grownCap_le_maxLen w (n+48) old e (by simp only[maxLen];omega);refine⟨⟨hlen,.inr ⟨w.heap.size,_,_,rfl,hbase,heap_alloc_new w.drew _,hge,hcm,?_,?_⟩⟩,⟨rfl,rfl,rfl,by simp,fun k hk _=>heap_alloc_old w.drew _ hk⟩⟩
  · simp only[Array.size_append,List.size_toArray,size_zeroCells,hown.1]
    simp[Value.cells]
    omega
  · rw[zca48]
    simp only[Array.toList_append,List.append_assoc];rw[←as9,←hlen];exact List.take_left
 have h63':((n+48:Nat):Int)≤9223372036854775807:=om
 rcases hown.2 with ⟨rfl,rfl⟩|⟨g,cap,cur,rfl,hbg,hg,hnc,hcm,hcs,htake⟩
 · have hx:xs=[]:=List.eq_nil_of_length_eq_zero (by simpa using hown.1)
   subst hx;have hr:=Lib.run_append_grow_zeros (P:=P) w t tn ty e i (.int .u8 0) .i64 kn ht htn hi hz none 0 0 [] (run_firstCells_none w.drew i.size 0 0 0) 48 om om om h63' om (growslice_fits om (by rw[hby];omega));have hgr:=grown 0 om (Value.ownBlock (.slice none 0 0));exact⟨_,_,hr,hgr.1,hgr.2,Or.inr rfl⟩
 · by_cases hroom:n+48≤cap
   · have hfit:n*i.size+za48.length≤cur.size:=by rw[zmi,hsi,hcs];omega
     have hr:=zct (P:=P) w t tn ty e i (.int .u8 0) .i64 kn ht htn hi hz g n cap cur hg 48 om om za48 zca48 (zac _) hroom hfit om om;refine⟨_,_,hr,⟨hlen,.inr ⟨g,cap,_,rfl,hbg,setRow_heap w g cur _ e _ hg,hroom,hcm,?_,?_⟩⟩,⟨rfl,rfl,rfl,by simp,fun k _ hk=>setRow_other w g k _ (fun e=>hk (by simp[Value.ownBlock,e]))⟩,Or.inl rfl⟩
     · simp only[List.size_toArray,List.length_append,List.length_take,List.length_drop,Array.length_toList]
       omega
     · rw[hsi,htake,←hlen]
       exact List.take_left
   · have holds:∀j u,xs[j]? = some u→w.cell? ((⟨g,0,none⟩:Addr).add j)=some u:=hown.cells (g:=g) rfl
     have hold:(Builtin.firstCells i.size n (.slice (some ⟨g,0,none⟩) n cap)).run P w.drew=.ok xs.toArray w.drew:=run_firstCells_some w.drew i.size n _ n cap xs (by rw[hsi];exact hown.1) (by simpa using holds);have hr:=Lib.run_append_grow_zeros (P:=P) w t tn ty e i (.int .u8 0) .i64 kn ht htn hi hz (some ⟨g,0,none⟩) n cap xs hold 48 om om om h63' om (growslice_fits om (by rw[hby];omega));have hgr:=grown cap om (Value.ownBlock (.slice (some ⟨g,0,none⟩) n cap));exact⟨_,_,hr,hgr.1,hgr.2,Or.inr rfl⟩
theorem info8m:∃i,Tryz.prog.info? 5 = some i∧i.zero=some (.int .u8 0)∧i.size=1∧i.bytes=1:=by
 have h:(Tryz.prog.info? 5).map (fun i=>(i.zero,i.size,i.bytes))=some (some (.int .u8 0),1,1):=by kernel_rfl
 cases hq:Tryz.prog.info? 5 with
 | none=>simp[hq]at h
 | some i=>simp[hq]at h;exact⟨i,rfl,h.1,h.2.1,h.2.2⟩
section
variable{w:World}{ops:Array Oper}{rest:List Oper}{o:Oper}{a:Act}{K:Act→World→Prop}{Q:Exit→Act→World→Prop}
theorem zka(s:Operand)(ho:o.op=.call { callee:=.builtin .append,args:=#[s,.const (.int .i64 48)],argTypes:=#[22,3] })
 (base:Nat) (v:Value) (n:Nat) (xs:List Value) (hs:a.eval s=v) (hown:w.ownsRow base 5 1 v n xs) (hn:n≤100000) (hbase:base≤w.heap.size)
 (h:∀A' c' w',w'.ownsRow base 5 1 (.slice A' (n+48) c') (n+48) (xs++za48)→n+48≤c'→w.grownBy w' v.ownBlock→(Value.ownBlock (.slice A' (n+48) c')=v.ownBlock∨Value.ownBlock (.slice A' (n+48) c')=some w.heap.size)→K (a.put o.dst (.slice A' (n+48) c')) w'):o.wp Tryz.prog a w K Q:=by
 obtain⟨i,hi,hz,hsi,hby⟩:=info8m;obtain⟨v',w',hrun,h2,h3,h4⟩:=zi3 (P:=Tryz.prog) w base 22 3 o.type 5 .i64 Tryz.underlying22 Tryz.underlying3 i hi hz hsi hby v n xs hown hn hbase;have hev : #[s,.const (.int .i64 48)].map a.eval=#[v,.int .i64 48]:=by simp only[List.map_toArray,List.map_cons,List.map_nil,hs];rfl
 obtain⟨A',c',rfl,hc⟩:=zjd h2;refine zci (zcw .append #[s,.const (.int .i64 48)] #[22,3] ho hev fun cs=>?_) (h A' c' w' h2 hc h3 h4);simp only[builtin,Sem.run_bind,hrun,Sem.run_pure,Result.andThen_ok]
end
end
section
theorem zwk(w:World):Rd w none 0 (u8s []):=⟨rfl,fun h=>absurd h om⟩
section
variable{w:World}{ops:Array Oper}{rest:List Oper}{o:Oper}{a:Act}{Q:Exit→Act→World→Prop}
theorem zf4(hgd:o.guard=none)(s:Operand)(ho:o.op=.call { callee:=.builtin .append,args:=#[s,.const (.int .i64 48)],argTypes:=#[22,3] })
 (base:Nat) (v:Value) (n:Nat) (xs:List Value) (hs:a.eval s=v) (hown:w.ownsRow base 5 1 v n xs) (hn:n≤100000) (hbase:base≤w.heap.size)
 (h:∀A' c' w',w'.ownsRow base 5 1 (.slice A' (n+48) c') (n+48) (xs++za48)→n+48≤c'→w.grownBy w' v.ownBlock→(Value.ownBlock (.slice A' (n+48) c')=v.ownBlock∨Value.ownBlock (.slice A' (n+48) c')=some w.heap.size)→wpList Tryz.prog ops Q rest (a.put o.dst (.slice A' (n+48) c')) w'):wpList Tryz.prog ops Q (o :: rest) a w :=
 zb1 hgd fun _ hK=>zka s ho base v n xs hs hown hn hbase fun A' c' w' h1 h2 h3 h4=>hK _ _ (h A' c' w' h1 h2 h3 h4)
end
theorem zlk(A:Option Addr)(m c:Nat)(ss:List Sp)(w:World)(h:RdS 192 w A (m+1) (ss.flatMap Sp.cells))(hs:∀s∈ss,s.ok)(hl:ss.length=m+1)(hm:m≤4):
 Calls Tryz.prog 96 #[.slice A (m+1) c] w fun e w'=>∃A' c',e=.returned (.tuple #[.slice A' (48*m) c',.int .i64 0])∧48*m≤c'∧Rd w' A' (48*m) (u8s (fil ss m))∧Below w.heap.size w w':=by
 have HR:=qh h;have HS:=qh hs;have HL:=qh hl;obtain⟨b,off,rfl,hb,_⟩:=h.2 om;have h1:¬((m:Int)+1=0):=om;have h5:¬((m:Int)+1>5):=om;clear h hs hl hb
 go_enter Tryz.func96, Tryz.ntmps96
 go_wp2_with fail
 go_loopg [4,5] m (fun kk v q wr=>∃k:Nat,k≤m∧kk=m-k∧q=.int .i64 k∧(∃A' c',v=.slice A' (48*k) c'∧48*k≤c'∧Hid (Rd wr A' (48*k) (u8s (fil ss k))))∧Hid (Below w.heap.size w wr))
 case atStart=>exact⟨0,by omega,rfl,rfl,⟨none,0,rfl,by omega,zwk _⟩,Below.refl _ _⟩
 case round =>
  obtain⟨k,hk,hgk,rfl,⟨A',c',rfl,hc',HF⟩,HE⟩:=hrel;have HGK:=qh hgk;clear hgk
  by_cases hlt:k<m
  · have hlt2:(k:Int)<(m:Int):=om
    obtain⟨s,hsi⟩:∃s,ss[k]? = some s:=⟨_,ge9 (by rw[HL.out];omega)⟩;have hok:=HS.out s (mg9 hsi)
    have HRG:Hid (∀W,Below w.heap.size w W→W.rangeAt b (off+k*192+32) (u8s s.stream)):=fun W hW=>by
     obtain⟨b2,o2,e2,hb2,hrg⟩:=ze2 (HR.out.bel hW lr) HS.out hsi om
     injection e2 with e2
     injection e2 with e2 e3
     subst e2;subst e3;intro j v hv
     have h5:=hrg (32+j) v (by
      rw[←Sp.at_stream hok,u8s_getElem?,List.getElem?_take]at hv
      split at hv
      · rw[Sp.cells,u8s_getElem?];rwa [List.getElem?_drop]at hv
      · cases hv)
     rwa [←Nat.add_assoc]at h5
    have HSTL:=qh hok.2.1;obtain⟨L,hL⟩:=ex9 (48*k+48);obtain⟨D,hD⟩:=ex9 (288-L);have hDI:(288:Int)-(L:Int)=(D:Int):=om;have hDI2:(288:Int)-(48*(k:Int)+48)=(D:Int):=om
    have HNX:Hid (Ch.xor (fil ss k++List.replicate 48 0) (Ch.piece s.stream D L)=fil ss (k+1)):=by
     show _=_
     rw[zns hsi,←hL,←hD,zou _ _ _ _ om,Nat.zero_add,show 288-D=L by omega]
    have HTU:Hid (∀W A3 c3,Rd W A3 (48*k+48) (u8s (fil ss k)++za48)→Calls Tryz.prog 46 #[.agg (u8s s.stream).toArray,.int .i64 D,.slice A3 (48*k+48) c3] W fun e w'=>∃A' c',e=.returned (.slice A' L c')∧L≤c'∧Rd w' A' L (u8s (fil ss (k+1)))∧Below W.heap.size W w'):=fun W A3 c3 h3=>by
     rw[←hL]at h3 ⊢;refine(zob s.stream hok.2.1 D (D/64) (D%64) om om om A3 L c3 (fil ss k++List.replicate 48 0) W (by rw[zae];exact h3) om om).mono ?_;rintro e w' ⟨A',c',rfl,hc',ho,hB⟩;rw[HNX.out]at ho;exact⟨A',c',rfl,hc',Rd.of_own ho,hB⟩
    have HCP:Hid (∀W,Rd W A' (48*k) (u8s (fil ss k))→Calls Tryz.prog 12 #[.slice A' (48*k) c'] W fun e w'=>∃A' c',e=.returned (.slice A' (48*k) c')∧48*k≤c'∧w'.ownsRow W.heap.size 5 1 (.slice A' (48*k) c') (48*k) (u8s (fil ss k))∧Below W.heap.size W w'):=fun W hW=>zbs _ _ c' _ W hW om
    have HLL:Hid (L=48*k+48):=hL;generalize fil ss k=FK at *;have hd32s:(Tryz.prog.info? 23).map (·.size)=some (u8s s.stream).length:=by rw[zaa,HSTL.out];exact hd32
    generalize u8s s.stream=KS at *;clear hsi hok hL hD
    go_wp2_with (first
     | (go_at_call 12;(with_reducible refine(HCP.out _ (by exact HF.out)).mono ?_);rintro e w2 ⟨A2,c2,rfl,hc2,hown2,hB2⟩;have HO2:=qh hown2;have HE2:=qtr HE hB2;have hs2:=hB2.size;clear hown2 hB2)
     | (refine zf4 rfl (.tmp 23) rfl wr.heap.size (.slice A2 (48*k) c2) (48*k) _ rr (by exact HO2.out) om (by exact hs2) ?_;intro A3 c3 w3 hown3 hc3 hg3 hat3;have HE3:=qh (HE2.out.grown hg3 HE2.out.size (fun g hg=>Nat.le_trans HE.out.size (HO2.out.lt g hg).1));have HR3:=qh (Rd.of_own hown3);have hr3:=HRG.out _ HE3.out;clear hown3 hg3 hat3)
     | (refine wpList_load_mid rfl 23 (.tmp 29) rfl b (off+k*192+32) rr KS _ hr3 Tryz.underlying23 rfl hd32s ?_)
     | (go_at_call 46;(with_reducible refine(HTU.out _ _ _ (by exact HR3.out)).mono ?_);rintro e w4 ⟨A4,c4,rfl,hc4,hr4,hB4⟩;have HE4:=qtr HE3 hB4;have HR4:=qh hr4;clear hr4 hB4))
    go_roundg (m-(k+1))
    case measure=>have:=HGK.out;omega
    case rel=>exact⟨k+1,by omega,rfl,by go_num,⟨A4,c4,by rw[HLL.out];rfl,by have:=HLL.out;omega,by have h9:=HR4.out;rw[HLL.out]at h9;exact h9⟩,HE4⟩
  · obtain rfl:k=m:=om
    have hlt2:¬(k:Int)<(k:Int):=om
    go_wp2_with fail
    go_ret2;exact⟨A',c',rfl,hc',HF.out,HE.out⟩
end
end Go.Proofs.YtpgpaenloaphaaaGreat
