/- Part of the proof. -/
import Derived.StillTailTactics
import Derived.Test.YtpgpaenloaphaaaGreatSmx08
import Derived.Test.YtpgpaenloaphaaaGreatSmx23
set_option maxRecDepth 100000
set_option maxHeartbeats 0
namespace Go.Proofs.YtpgpaenloaphaaaGreat
open Go.RowKit
theorem zng(m:Nat):(m:Int)%256=((UInt8.ofNat m).toNat:Int):=by rw[UInt8.toNat_ofNat'];omega
theorem zu7(n:Nat)(w:World)(hn:n<18446744073709551616):
 Calls Tryz.prog 61 #[.int .i64 2,.int .i64 8,.int .u64 (n:Int)] w fun e w'=>e=.returned (.tuple #[.slice (some ⟨w.heap.size,0,none⟩) 8 8,.int .i64 0])∧Blk w' w.heap.size 5 (u8s (Sh.beBytes n 8))∧Below w.heap.size w w':=by
 go_enter Tryz.func61, Tryz.ntmps61
 go_wp2_with (first
  | (go_at_call 97;go_in)
  | (refine zao rfl (.tmp 15) (.tmp 15) 22 rfl 5 (.int .u8 0) 1 Tryz.underlying22 iU8 rfl .i64 .i64 8 8 rr rr 8 8 rfl rfl om om om ?_;intro w1 hb1 hg1 hs1;have HB1:Hid (Blk w1 w.heap.size 5 (u8s (putI n 8 0))):=hb1;have HE1:Hid (Below w.heap.size w w1):=zaf hg1;clear hb1 hg1 hs1))
 go_loopg [2,9] 8 (fun kk qn q wr=>∃i m:Nat,i≤8∧kk=8-i∧m=n/256^i∧m<18446744073709551616∧qn=.int .u64 (m:Int)∧q=.int .i64 i∧Blk wr w.heap.size 5 (u8s (putI n 8 i))∧Below w.heap.size w wr)
 case atStart=>exact⟨0,n,by omega,rfl,by simp,hn,rfl,rfl,HB1.out,HE1.out⟩
 case round =>
  clear HB1 HE1;obtain⟨i,m,hi,hgk,hm,hm2,rfl,rfl,hb,hB⟩:=hrel;have HGK:=qh hgk;have HM:=qh hm;clear hgk hm
  by_cases hlt:i<8
  · have hlt2:(i:Int)<8:=om
    obtain⟨p,hp⟩:=ex9 (8-1-i);have hpi:(7:Int)-(i:Int)=(p:Int):=om;have hp0:(0:Int)≤(p:Int):=om;have hp1:(p:Int)<8:=om;have HS:=qh (zja n 8 i p hlt hp);have hpl:=zjb n 8 i hi;obtain⟨x,hx⟩:∃x,(putI n 8 i)[p]? = some x:=⟨_,ge9 om⟩;have cx:wr.cell? ⟨w.heap.size,p,none⟩=some (.int .u8 x.toNat):=by rw[hb.cell,u8s_getElem?,hx];rfl
    have fx:=hb.frozen p;have HSB:=qh (zng m);have hb2:=qh (hb.set_ p (.int .u8 (UInt8.ofNat m).toNat));rw[zbc,HM.out,HS.out,←HM.out]at hb2;have hB2:=qh (hB.setCell (p:=⟨w.heap.size,p,none⟩) lr (.int .u8 (UInt8.ofNat m).toNat));have hgl:=hb.lt;have hm0:(0:Int)≤(m:Int):=om;clear hx hpl hb hp
    go_wp2_with fail
    rw[HSB.out];go_roundg (8-(i+1))
    case measure=>have:=HGK.out;omega
    case rel=>exact⟨i+1,m/256,by omega,rfl,by rw[HM.out,Nat.pow_succ,Nat.div_div_eq_div_mul],by omega,by go_num,by go_num,hb2.out,hB2.out⟩
  · obtain rfl:i=8:=om
    have hlt2:¬((8:Nat):Int)<8:=om;have hm0:m=0:=by rw[HM.out];exact Nat.div_eq_of_lt hn
    subst hm0;have HB:=qh hb;rw[show putI n 8 8=Sh.beBytes n 8 from rfl]at HB;clear hb
    go_wp2_with fail
    go_ret2;exact⟨rfl,HB.out,hB⟩
theorem zkj(n:Nat)(w:World)(hn:n≤1000000000000):
 Calls Tryz.prog 179 #[.int .i64 n] w fun e w'=>∃A' c',e=.returned (.slice A' (Sh.pad n).length c')∧(Sh.pad n).length≤c'∧w'.ownsRow w.heap.size 5 1 (.slice A' (Sh.pad n).length c') (Sh.pad n).length (u8s (Sh.pad n))∧Below w.heap.size w w':=by
 obtain⟨z,hz⟩:=ex9 ((119-n%64)%64);have hz64:z<64:=om
 have HPD:Hid (Sh.pad n=128 :: (List.replicate z 0++Sh.beBytes (8*n) 8)):=by
  show _=_
  unfold Sh.pad
  rw[←hz,Nat.mod_eq_of_lt (show 8*n<18446744073709551616 by omega)]
 have HPL:Hid ((Sh.pad n).length=z+9):=by show _=_;rw[HPD.out];simp[beBytes_len]
 have HZ:=qh hz
 have HP8:Hid (∀W,Calls Tryz.prog 61 #[.int .i64 2,.int .i64 8,.int .u64 ((n:Int)*8)] W fun e w'=>e=.returned (.tuple #[.slice (some ⟨W.heap.size,0,none⟩) 8 8,.int .i64 0])∧Blk w' W.heap.size 5 (u8s (Sh.beBytes (8*n) 8))∧Below W.heap.size W w'):=fun W=>by
  have:=zu7 (8*n) W om;rw[show((8*n:Nat):Int)=(n:Int)*8 by omega]at this;exact this
 rw[HPL.out];clear hz;have HO0:=qh (show(w.alloc (.cells #[.int .u8 128] 5)).ownsRow w.heap.size 5 1 (.slice (some ⟨w.heap.size,0,none⟩) 1 1) 1 (u8s (128 :: List.replicate 0 0)) from zbi (cs:=u8s [128]) (Blk.new' rfl rfl) lr 1 1 1 om rfl om);have HE0:Hid (Below w.heap.size w (w.alloc (.cells #[.int .u8 128] 5))):=(Below.refl _ _).alloc lr _
 go_enter Tryz.func179, Tryz.ntmps179
 go_wp2_with fail
 go_loopg [3] z (fun kk v wr=>∃j:Nat,j≤z∧kk=z-j∧(∃A' c',v=.slice A' (j+1) c'∧j+1≤c'∧wr.ownsRow w.heap.size 5 1 (.slice A' (j+1) c') (j+1) (u8s (128 :: List.replicate j 0)))∧Below w.heap.size w wr)
 case atStart=>exact⟨0,by omega,rfl,⟨_,_,rfl,by omega,HO0.out⟩,HE0.out⟩
 case round =>
  clear HO0 HE0;obtain⟨j,hj,hgk,⟨A',c',rfl,hc',hown⟩,hB⟩:=hrel;have HGK:=qh hgk;clear hgk;have hjz:(n+(j+1)+8)%64=0 ↔ j=z:=by have:=HZ.out;omega
  obtain⟨u,hu⟩:=ex9 (n+(j+1)+8);have hui:(n:Int)+((j+1:Nat):Int)+8=(u:Int):=om;have hui2:(n:Int)+((j:Int)+1)+8=(u:Int):=om;rw[←hu]at hjz
  by_cases hlt:j<z
  · have hne:((u:Int)%64 != 0)=true:=by rw[bne_iff_ne];omega
    have HOW:=qh hown;have HBE:=qh hB;have hbs:=hB.size;have HNW:Hid (RdS 1 (wr.alloc (.cells #[.int .u8 0] 5)) (some ⟨wr.heap.size,0,none⟩) 1 (u8s [0])):=RdS.new wr 5 (u8s [0]) 1 rfl;have HAP:Hid (u8s (128 :: List.replicate j 0)++u8s [0]=u8s (128 :: List.replicate (j+1) 0)):=by show _=_;rw[←zae,List.replicate_succ'];rfl
    clear hown hB hjz hu
    go_wp2_with (at_builtin;refine zah rfl (.tmp 14) (.tmp 15) 22 rfl w.heap.size 5 1 1 Tryz.underlying22 eU8 (.slice A' (j+1) c') (j+1) (u8s (128 :: List.replicate j 0)) rr (by exact HOW.out.alloc _) (some ⟨wr.heap.size,0,none⟩) 1 1 (u8s [0]) rr (by exact HNW.out) (zac _) om om (by simp;omega) ?_;intro A2 c2 w2 hown2 hc2 hg2 hat2;have HO2:=qh hown2;rw[HAP.out]at HO2;have HE2:=qh ((HBE.out.alloc HBE.out.size _).grown hg2 (Nat.le_trans HBE.out.size sy) (fun k hk=>(HOW.out.lt k hk).1));clear hown2 hg2 hat2)
    go_roundg (z-(j+1))
    case measure=>have:=HGK.out;omega
    case rel=>exact⟨j+1,by omega,rfl,⟨A2,c2,rfl,by omega,HO2.out⟩,HE2.out⟩
  · obtain rfl:j=z:=om
    have hne:((u:Int)%64 != 0)=false:=by rw[bne_eq_false_iff_eq];omega
    have HOW:=qh hown;have HBE:=qh hB;have hbs:=hB.size;have HAP:Hid (u8s (128 :: List.replicate j 0)++u8s (Sh.beBytes (8*n) 8)=u8s (Sh.pad n)):=by show _=_;rw[HPD.out,←zae];rfl
    have HL8:Hid ((Sh.beBytes (8*n) 8).length=8):=beBytes_len _ _;clear hown hB hjz hu
    go_wp2_with (first
     | (go_at_call 61;(with_reducible refine(HP8.out _).mono ?_);rintro e w2 ⟨rfl,hb2,hB2⟩;have HO2:=qh (zau HOW.out hB2);have HE2:=qtr HBE hB2;have HR2:Hid (Rd w2 (some ⟨wr.heap.size,0,none⟩) 8 (u8s (Sh.beBytes (8*n) 8))):=(by have h6:=hb2.rdAll;rw[HL8.out]at h6;exact h6);clear hb2 hB2)
     | (at_builtin;refine zah rfl (.tmp 24) (.tmp 25) 22 rfl w.heap.size 5 1 1 Tryz.underlying22 eU8 (.slice A' (j+1) c') (j+1) (u8s (128 :: List.replicate j 0)) rr (by exact HO2.out) (some ⟨wr.heap.size,0,none⟩) 8 8 (u8s (Sh.beBytes (8*n) 8)) rr (by exact HR2.out.toS) (zac _) om om (by exact HE2.out.size) ?_;intro A3 c3 w3 hown3 hc3 hg3 hat3;have HO3:=qh hown3;rw[HAP.out]at HO3;have HE3:=qh (HE2.out.grown hg3 HE2.out.size (fun k hk=>(HO2.out.lt k hk).1));clear hown3 hg3 hat3))
    go_ret;exact⟨A3,c3,rfl,by omega,HO3.out,HE3.out⟩
section
attribute [local go_sem ↓] zcg
theorem zmg(n:Nat):∀(k j:Nat),j<k→(Sh.beBytes n k).take (j+1)=(Sh.beBytes n k).take j++[UInt8.ofNat (n/256^(k-1-j))]
 | 0,j,h=>by omega
 | k+1,0,_=>by simp[Sh.beBytes]
 | k+1,j+1,h=>by
  rw[Sh.beBytes,List.take_succ_cons,List.take_succ_cons,zmg n k j om,show k+1-1-(j+1)=k-1-j by omega]
  rfl
theorem ztj(c:Cm)(hc:c.ok)(h0:c.check=0)(w:World):
 Calls Tryz.prog 95 #[.agg c.cells.toArray] w fun e w'=>∃A' c',e=.returned (.tuple #[.slice A' 32 c',.int .i64 0])∧32≤c'∧w'.ownsRow w.heap.size 5 1 (.slice A' 32 c') 32 (u8s c.enc)∧Below w.heap.size w w':=by
 have HCK:Hid (∀W,Calls Tryz.prog 78 #[.agg c.cells.toArray] W fun e w'=>e=.returned (.int .i64 0)∧Below W.heap.size W w'):=fun W=>by
  have h5:=zol c hc W
  rwa [h0]at h5
 have hl:=Cm.cells_len hc;have HML:=qh hc.2.2;obtain⟨N,hN⟩:=ex9 (c.n);obtain⟨D,hD⟩:=ex9 (c.d);have HEN:Hid (u8s ([c.k,c.f]++(Sh.beBytes D 4++Sh.beBytes N 8))++u8s c.m++u8s [0,0]=u8s c.enc):=by show _=_;rw[←zae,←zae,hN,hD];simp[Cm.enc]
 obtain⟨C,hC⟩:=ex9 (c.cells);have HB0:Hid (Blk (w.alloc (.cells C.toArray 47)) w.heap.size 47 C):=Blk.new w _ _;have HE0:Hid (Below w.heap.size w (w.alloc (.cells C.toArray 47))):=(Below.refl _ w).alloc lr _;rw[←hC]at hl HCK ⊢;have hld:(ldAt 47 (.pointer (some ⟨w.heap.size,0,none⟩))).run Tryz.prog (w.alloc (.cells C.toArray 47))=.ok (.agg C.toArray) (w.alloc (.cells C.toArray 47)):=cm_ld HB0.out hl;have HC0:Hid (C[0]? = some (.int .u8 c.k.toNat)):=by rw[hC];rfl
 have HC1:Hid (C[1]? = some (.int .u8 c.f.toNat)):=by rw[hC];rfl
 have HC2:Hid (C[2]? = some (.int .u32 (D:Int))):=by rw[hC,hD];rfl
 have HC3:Hid (C[3]? = some (.int .u64 (N:Int))):=by rw[hC,hN];rfl
 have HC4:Hid (C.drop 4=u8s c.m):=by rw[hC];rfl
 have HCL:=qh hl;obtain⟨k0,hk0⟩:=ex9 (c.k);obtain⟨f0,hf0⟩:=ex9 (c.f);obtain⟨m0,hm0⟩:=ex9 (c.m);rw[←hk0,←hf0,←hm0]at HEN;rw[←hk0]at HC0;rw[←hf0]at HC1;rw[←hm0]at HC4 HML;generalize u8s c.enc=EN at *;clear hl hC h0 hc hN hD hk0 hf0 hm0
 go_enter Tryz.func95, Tryz.ntmps95
 go_wp2_with (first
  | (go_at_call 78;(with_reducible refine(HCK.out _).mono ?_);rintro e w1 ⟨rfl,hB1⟩;have HE1:=qtr HE0 hB1;have HB1:=qbl HB0 hB1;have c0:w1.cell? ⟨w.heap.size,0,none⟩=some (.int .u8 k0.toNat):=by rw[HB1.out.cell];exact HC0.out
     have c1:w1.cell? ⟨w.heap.size,1,none⟩=some (.int .u8 f0.toNat):=by rw[HB1.out.cell];exact HC1.out
     clear hB1 HB0 HE0 hld HCK))
 have HO1:Hid ((w1.alloc (.cells #[.int .u8 k0.toNat,.int .u8 f0.toNat] 5)).ownsRow (w.heap.size+1) 5 1 (.slice (some ⟨w1.heap.size,0,none⟩) 2 2) 2 (u8s ([k0,f0]++(Sh.beBytes D 4).take 0))):=zbi (cs:=u8s [k0,f0]) (Blk.new' rfl rfl) (Nat.succ_le_of_lt HB1.out.lt) 2 2 1 om rfl om;have HE2:Hid (Below w.heap.size w (w1.alloc (.cells #[.int .u8 k0.toNat,.int .u8 f0.toNat] 5))):=HE1.out.alloc HE1.out.size _;have HB2:Hid (Blk (w1.alloc (.cells #[.int .u8 k0.toNat,.int .u8 f0.toNat] 5)) w.heap.size 47 C):=HB1.out.alloc _
 go_loopg [5,6] 4 (fun kk v q wr=>∃j L:Nat,j≤4∧kk=4-j∧Hid (L=2+j)∧q=.int .i64 ((3:Int)-(j:Int))∧(∃A' c',v=.slice A' L c'∧L≤c'∧Hid (wr.ownsRow (w.heap.size+1) 5 1 (.slice A' L c') L (u8s ([k0,f0]++(Sh.beBytes D 4).take j))))∧Hid (Blk wr w.heap.size 47 C)∧Hid (Below w.heap.size w wr))
 case atStart=>exact⟨0,2,by omega,rfl,rfl,rfl,⟨_,_,rfl,lr,HO1⟩,HB2,HE2⟩
 case round =>
  clear HO1 HB2 HE2;obtain⟨j,L,hj,hgk,HLL,rfl,⟨A',c',rfl,hc',HOW⟩,HB,HE⟩:=hrel;have HGK:=qh hgk;have hL20:L≤32:=by have:=HLL.out;omega
  clear hgk
  by_cases hlj:j<4
  · obtain⟨i,hi⟩:=ex9 (4-1-j)
    rw[show(3:Int)-(j:Int)=(i:Int) by omega];have hi0:(0:Int)≤(i:Int):=om;have hi8:i≤3:=om;have cx:wr.cell? ⟨w.heap.size,2,none⟩=some (.int .u32 (D:Int)):=by rw[HB.out.cell];exact HC2.out
    have HNW:Hid (RdS 1 (wr.alloc (.cells #[.int .u8 ((D:Int)/2^(8*i)%256)] 5)) (some ⟨wr.heap.size,0,none⟩) 1 (u8s [UInt8.ofNat (D/256^i)])):=by
     rw[zek];exact RdS.new wr 5 (u8s [UInt8.ofNat (D/256^i)]) 1 rfl
    have HAP:Hid (u8s ([k0,f0]++(Sh.beBytes D 4).take j)++u8s [UInt8.ofNat (D/256^i)]=u8s ([k0,f0]++(Sh.beBytes D 4).take (j+1))):=by show _=_;rw[zmg _ _ _ hlj,←hi,←zae];simp
    have HIJ:Hid (i=4-1-j):=hi;clear hi
    go_wp2_with (at_builtin;refine zah rfl (.tmp 22) (.tmp 29) 22 rfl (w.heap.size+1) 5 1 1 Tryz.underlying22 eU8 (.slice A' L c') L _ rr (by exact zau HOW.out ((Below.refl _ _).alloc lr _)) (some ⟨wr.heap.size,0,none⟩) 1 1 (u8s [UInt8.ofNat (D/256^i)]) rr (by exact HNW.out) (zac _) om om (by have:=HB.out.lt;simp;omega) ?_;intro A2 c2 w2 hown2 hc2 hg2 hat2;rw[HAP.out]at hown2;have HO2:=qh hown2;have HE2:=qh ((HE.out.alloc HE.out.size _).grown hg2 (Nat.le_trans HE.out.size sy) (fun g hg=>by have h1:=(HOW.out.lt g hg).1;omega));have HB2:=qh ((HB.out.alloc _).grown hg2 (fun e=>by have h1:=(HOW.out.lt _ e.symm).1;omega));clear hown2 hg2 hat2)
    go_roundg (4-(j+1))
    case measure=>have:=HGK.out;omega
    case rel=>exact⟨j+1,L+1,by omega,rfl,(by have:=HLL.out;show _=_;omega),by have:=HIJ.out;congr 1;omega,⟨A2,c2,rfl,hc2,HO2⟩,HB2,HE2⟩
  · obtain rfl:j=4:=om
    rw[show(3:Int)-((4:Nat):Int)=-1 from rfl];have hL6:L=6:=HLL.out;subst hL6;have HTK:Hid (u8s ([k0,f0]++(Sh.beBytes D 4).take 4)=u8s ([k0,f0]++Sh.beBytes D 4++(Sh.beBytes N 8).take 0)):=by show _=_;rw[tk (by rw[beBytes_len];exact lr)];simp
    rw[HTK.out]at HOW;clear HTK;go_wp2
    go_loopg [5,7] 8 (fun kk v q wr=>∃j L:Nat,j≤8∧kk=8-j∧Hid (L=6+j)∧q=.int .i64 ((7:Int)-(j:Int))∧(∃A' c',v=.slice A' L c'∧L≤c'∧Hid (wr.ownsRow (w.heap.size+1) 5 1 (.slice A' L c') L (u8s ([k0,f0]++Sh.beBytes D 4++(Sh.beBytes N 8).take j))))∧Hid (Blk wr w.heap.size 47 C)∧Hid (Below w.heap.size w wr))
    case atStart=>exact⟨0,6,by omega,rfl,rfl,rfl,⟨A',c',rfl,hc',HOW⟩,HB,HE⟩
    case round =>
     clear HOW HB HE HLL HGK;obtain⟨j,L,hj,hgk,HLL,rfl,⟨A',c',rfl,hc',HOW⟩,HB,HE⟩:=hrel;have HGK:=qh hgk;have hL20:L≤32:=by have:=HLL.out;omega
     clear hgk
     by_cases hlj:j<8
     · obtain⟨i,hi⟩:=ex9 (8-1-j)
       rw[show(7:Int)-(j:Int)=(i:Int) by omega];have hi0:(0:Int)≤(i:Int):=om;have hi8:i≤7:=om;have cx:wr.cell? ⟨w.heap.size,3,none⟩=some (.int .u64 (N:Int)):=by rw[HB.out.cell];exact HC3.out
       have HNW:Hid (RdS 1 (wr.alloc (.cells #[.int .u8 ((N:Int)/2^(8*i)%256)] 5)) (some ⟨wr.heap.size,0,none⟩) 1 (u8s [UInt8.ofNat (N/256^i)])):=by
        rw[zek];exact RdS.new wr 5 (u8s [UInt8.ofNat (N/256^i)]) 1 rfl
       have HAP:Hid (u8s ([k0,f0]++Sh.beBytes D 4++(Sh.beBytes N 8).take j)++u8s [UInt8.ofNat (N/256^i)]=u8s ([k0,f0]++Sh.beBytes D 4++(Sh.beBytes N 8).take (j+1))):=by show _=_;rw[zmg _ _ _ hlj,←hi,←zae];simp
       have HIJ:Hid (i=8-1-j):=hi;clear hi
       go_wp2_with (at_builtin;refine zah rfl (.tmp 35) (.tmp 42) 22 rfl (w.heap.size+1) 5 1 1 Tryz.underlying22 eU8 (.slice A' L c') L _ rr (by exact zau HOW.out ((Below.refl _ _).alloc lr _)) (some ⟨wr.heap.size,0,none⟩) 1 1 (u8s [UInt8.ofNat (N/256^i)]) rr (by exact HNW.out) (zac _) om om (by have:=HB.out.lt;simp;omega) ?_;intro A2 c2 w2 hown2 hc2 hg2 hat2;rw[HAP.out]at hown2;have HO2:=qh hown2;have HE2:=qh ((HE.out.alloc HE.out.size _).grown hg2 (Nat.le_trans HE.out.size sy) (fun g hg=>by have h1:=(HOW.out.lt g hg).1;omega));have HB2:=qh ((HB.out.alloc _).grown hg2 (fun e=>by have h1:=(HOW.out.lt _ e.symm).1;omega));clear hown2 hg2 hat2)
       go_roundg (8-(j+1))
       case measure=>have:=HGK.out;omega
       case rel=>exact⟨j+1,L+1,by omega,rfl,(by have:=HLL.out;show _=_;omega),by have:=HIJ.out;congr 1;omega,⟨A2,c2,rfl,hc2,HO2⟩,HB2,HE2⟩
     · obtain rfl:j=8:=om
       rw[show(7:Int)-((8:Nat):Int)=-1 from rfl];obtain⟨m2,hm2⟩:∃m2:Nat,m2=30:=⟨_,rfl⟩;have hL14:L=14:=HLL.out;subst hL14;clear hm2 m2
       have HM1:Hid (∀W,Blk W w.heap.size 47 C→RdS 1 W (some ⟨w.heap.size,4,none⟩) 16 (u8s m0)):=fun W hb=>by
        have h5:=hb.rd 4 16 (by rw[HCL.out];omega);rw[HC4.out,tk (by rw[zaa,HML.out];exact lr)]at h5;exact h5.toS
       have HTK:Hid (u8s ([k0,f0]++Sh.beBytes D 4++(Sh.beBytes N 8).take 8)=u8s ([k0,f0]++(Sh.beBytes D 4++Sh.beBytes N 8))):=by show _=_;rw[tk (by rw[beBytes_len];exact lr),as9]
       rw[HTK.out]at HOW
       go_wp2_with (first
        | (at_builtin;refine zah rfl (.tmp 44) (.tmp 46) 22 rfl (w.heap.size+1) 5 1 1 Tryz.underlying22 eU8 (.slice A' 14 c') 14 _ rr (by exact HOW.out) (some ⟨w.heap.size,4,none⟩) 16 16 (u8s m0) rr (by exact HM1.out _ HB.out) (zac _) om om (by have:=HB.out.lt;omega) ?_;intro A2 c2 w2 hown2 hc2 hg2 hat2;have HO2:=qh hown2;have HE2:=qh (HE.out.grown hg2 HE.out.size (fun g hg=>by have h1:=(HOW.out.lt g hg).1;omega));have HB2:=qh (HB.out.grown hg2 (fun e=>by have h1:=(HOW.out.lt _ e.symm).1;omega));clear hown2 hg2 hat2)
        | (at_builtin;refine zah rfl (.tmp 48) (.tmp 49) 22 rfl (w.heap.size+1) 5 1 1 Tryz.underlying22 eU8 (.slice A2 30 c2) 30 _ rr (by exact zau HO2.out ((Below.refl _ _).alloc lr _)) (some ⟨w2.heap.size,0,none⟩) 2 2 (u8s [0,0]) rr (by exact(Blk.new' rfl rfl:Blk (w2.alloc (.cells #[.int .u8 0,.int .u8 0] 5)) w2.heap.size 5 (u8s [0,0])).rdAll.toS) (zac _) om om (by have:=HB2.out.lt;simp;omega) ?_;intro A3 c3 w3 hown3 hc3 hg3 hat3;rw[HEN.out]at hown3;have HO3:=qh (zbj hown3 (Nat.le_succ _));have HE3:=qh ((HE2.out.alloc HE2.out.size _).grown hg3 (Nat.le_trans HE2.out.size sy) (fun g hg=>by have h1:=(HO2.out.lt g hg).1;omega));clear hown3 hg3 hat3))
       go_ret2;exact⟨A3,c3,rfl,hc3,HO3.out,HE3.out⟩
end
theorem zus(s:Sh.St)(q r:Nat)(x:UInt32)(hr:r<4)(hx:s.list[q]? = some x):s.bytes[4*q+r]? = (Sh.wordBytes x)[r]?:=by
 have hq:q<8:=(gi9.1 hx).1;obtain⟨a,b,c,d,e,f,g,h⟩:=s;obtain rfl|rfl|rfl|rfl|rfl|rfl|rfl|rfl:q=0∨q=1∨q=2∨q=3∨q=4∨q=5∨q=6∨q=7:=om
 all_goals
   simp only[Sh.St.list,List.getElem?_cons_zero,List.getElem?_cons_succ,Option.some.injEq]at hx;subst hx;obtain rfl|rfl|rfl|rfl:r=0∨r=1∨r=2∨r=3:=om
   all_goals rfl
theorem zww(n:Nat):(n+(Sh.pad n).length)%64=0:=by
 have:(Sh.pad n).length=(119-n%64)%64+9:=by simp[Sh.pad,beBytes_len]
 omega
theorem pad_ge(n:Nat):9≤(Sh.pad n).length:=by
 have:(Sh.pad n).length=(119-n%64)%64+9:=by simp[Sh.pad,beBytes_len]
 omega
theorem pad_le(n:Nat):(Sh.pad n).length≤72:=by
 have:(Sh.pad n).length=(119-n%64)%64+9:=by simp[Sh.pad,beBytes_len]
 omega
theorem zi5(A:Option Addr)(n c:Nat)(l:List UInt8)(w:World)(h:Rd w A n (u8s l))(hn:n≤100000000):
 Calls Tryz.prog 159 #[.slice A n c] w fun e w'=>e=.returned (.agg (u8s (Sh.sha l)).toArray)∧Below w.heap.size w w':=by
 have hll:l.length=n:=h.len;obtain⟨P,hP⟩:=ex9 ((Sh.pad n).length);have hp1:=zww n;have hp2:=pad_le n;have hp3:=pad_ge n;rw[←hP]at hp1 hp2 hp3;obtain⟨K,hK⟩:∃K,n+P=64*K:=⟨(n+P)/64,by omega⟩;obtain⟨L,hL⟩:=ex9 (l++Sh.pad n);have hLl:L.length=n+P:=by rw[hL,la9,hll,hP]
 have HSH:Hid (Sh.sha l=(Sh.fold L K).bytes):=by
  show _=_
  unfold Sh.sha
  rw[hll,←hL,hLl,hK,Nat.mul_div_cancel_left _ om]
 have HCP:=qh (fun W (hr:Rd W A n (u8s l))=>zbs A n c l W hr om);have HPA:=qh (fun W=>zkj n W om);rw[←hP]at HPA;have HFI:=qh zoj;have HRC:=qh zi8;have HLE:Hid (u8s l++u8s (Sh.pad n)=u8s L):=by show _=_;rw[hL,zae]
 have HLL:=qh hLl;have HKN:=qh hK;have HS1:Hid (∀v∈u32s Sh.start.list,v.oneCell'=true):=zba _;have HSI:Hid ((Tryz.prog.info? 195).map (·.size)=some (u32s Sh.start.list).length):=hd144;have HSL:Hid ((u32s Sh.start.list).length=8):=rfl;obtain⟨U0,hU0⟩:=ex9 (u32s Sh.start.list);rw[←hU0]at HFI HS1 HSI HSL;have HU0:Hid (U0=st8 (Sh.fold L 0)):=hU0;have HM:=qh h;clear hll hP hL hLl hK hU0 h hp1
 go_enter Tryz.func159, Tryz.ntmps159
 go_wp2_with (first
  | (go_at_call 12;(with_reducible refine(HCP.out _ (by exact HM.out.alloc _)).mono ?_);rintro e w1 ⟨A1,c1,rfl,hc1,hown1,hB1⟩;have HE1:=qh (((Below.refl _ w).alloc lr _).trans (hB1.mono sy));have HZ1:=qh ((Blk.new' (w:=w) (cs:=u8s (List.replicate 32 0)) (t:=23) rfl rfl).below hB1 sy);have HO1:=qh (zbj hown1 (base':=w.heap.size+1) sy);clear hown1 hB1)
  | (go_at_call 179;(with_reducible refine(HPA.out _).mono ?_);rintro e w2 ⟨A2,c2,rfl,hc2,hown2,hB2⟩;have HE2:=qtr HE1 hB2;have HZ2:=qbl HZ1 hB2;have HO2:=qh (zau HO1.out hB2);have HR2:=qh (Rd.of_own hown2);have hs2:=HZ2.out.lt;clear hown2 hB2)
  | (at_builtin;refine zah rfl (.tmp 9) (.tmp 12) 22 rfl (w.heap.size+1) 5 1 1 Tryz.underlying22 eU8 (.slice A1 n c1) n (u8s l) rr (by exact HO2.out) A2 P c2 (u8s (Sh.pad n)) rr (by exact HR2.out.toS) (zac _) om om om ?_;intro A3 c3 w3 hown3 hc3 hg3 hat3;have HO3:=qh hown3;rw[HLE.out]at HO3;have HE3:=qh (HE2.out.grown hg3 HE2.out.size (fun k hk=>by have:=(HO2.out.lt k hk).1;omega));have HZ3:=qh (HZ2.out.grown hg3 (fun e=>by have:=(HO2.out.lt _ e.symm).1;omega));clear hown3 hg3 hat3)
  | (go_at_call 180;(with_reducible refine(HFI.out _).mono ?_);rintro e w4 ⟨rfl,hB4⟩;have HE4:=qtr HE3 hB4;have HZ4:=qbl HZ3 hB4;have HO4:=qh (zau HO3.out hB4);clear hB4)
  | (refine zab rfl 195 (.tmp 4) (.tmp 14) rfl w4.heap.size U0 rr rr 195 (u32s [0,0,0,0,0,0,0,0]) (by exact Blk.new' rfl rfl) HSI.out HS1.out (by rw[HSL.out];rfl) ?_;intro w5 hb5 ho5;have HE5:=qh (ho5.below (HE4.out.alloc HE4.out.size _) HE4.out.size (Nat.le_trans HE4.out.size sy));have HZ5:=qal ho5 HZ4 (by have:=HZ4.out.lt;omega);have HO5:=qh (zau HO4.out ((Below.refl _ w4).alloc lr (.cells (u32s [0,0,0,0,0,0,0,0]).toArray 195)));have HR4:=qh (Rd.of_own HO5.out);have HS5:Hid (Blk w5 w4.heap.size 195 (st8 (Sh.fold L 0))):=(by rw[←HU0.out];exact hb5)))
 obtain⟨g3,hA3,hg3,hg3l,hr3⟩:=zcl HO4.out om;subst hA3;have HR5:Hid (Rd w5 (some ⟨g3,0,none⟩) (n+P) (u8s L)):=ho5.rd (hr3.alloc _) (fun ad e=>by injection e with e;subst e;show g3≠w4.heap.size;omega);have hz4:=HZ4.out.lt;clear HO3 HO2 HO1 HO4 HO5 HR4 HR2 hr3 hb5 ho5 HE1 HE2 HE3 HE4 HZ1 HZ2 HZ3 HZ4 hs2;obtain⟨N,hN⟩:=ex9 (n+P);rw[←hN]at HR5 HKN HLL hc3 ⊢;have hNb:N≤100000072:=om;clear hN;generalize w4.heap.size=g4 at *
 go_loopg [5] K (fun kk q wr=>∃j m:Nat,j≤K∧kk=K-j∧m=64*j∧q=.int .i64 m∧Blk wr g4 195 (st8 (Sh.fold L j))∧Rd wr (some ⟨g3,0,none⟩) N (u8s L)∧Blk wr w.heap.size 23 (u8s (List.replicate 32 0))∧Below w.heap.size w wr)
 case atStart=>exact⟨0,0,by omega,rfl,rfl,rfl,HS5.out,HR5.out,HZ5.out,HE5.out⟩
 case round =>
  clear HS5 HR5 HZ5 HE5;obtain⟨j,m,hj,hgk,hm,rfl,hs,hr,hz,hB⟩:=hrel;have HGK:=qh hgk;have hK:=HKN.out
  by_cases hlt:j<K
  · have hmN:m+64≤N:=om
    have q1:(m:Int)<(N:Int):=om;have q2:(m:Int)+64≤(c3:Int):=om;have q3:¬c3=m:=om;have q4:(m:Int)+64≤(N:Int):=om;have HFS:Hid (Sh.fold L (j+1)=Sh.comp (Sh.fold L j) ((L.drop m).take 64)):=by show _=_;rw[hm];rfl
    have HMJ:Hid (m+64=64*(j+1)):=by show _=_;omega
    have HRM:Hid (∀W,Rd W (some ⟨g3,0,none⟩) N (u8s L)→Rd W (some ⟨g3,m,none⟩) 64 (u8s ((L.drop m).take 64))):=fun W h5=>by
     have h6:=zg1 h5 m 64 hmN;rw[Nat.zero_add]at h6;exact h6
    obtain⟨S,hS⟩:=ex9 (Sh.fold L j);rw[←hS]at hs HFS
    have hrc:∀W,Rd W (some ⟨g3,m,none⟩) 64 (u8s ((L.drop m).take 64))→Calls Tryz.prog 181 #[.agg #[.int .u32 (n32 S.a),.int .u32 (n32 S.b),.int .u32 (n32 S.c),.int .u32 (n32 S.d),.int .u32 (n32 S.e),.int .u32 (n32 S.f),.int .u32 (n32 S.g),.int .u32 (n32 S.h)],.slice (some ⟨g3,m,none⟩) 64 (c3-m)] W fun e w'=>e=.returned (.agg (st8 (Sh.fold L (j+1))).toArray)∧Below W.heap.size W w':=fun W h5=>by
     have h6:=HRC.out S (some ⟨g3,m,none⟩) (c3-m) _ W h5;rw[HFS.out];exact h6
    have HRCw:=qh hrc;have HVI:Hid ((Tryz.prog.info? 195).map (·.size)=some (st8 (Sh.fold L (j+1))).length):=hd144;have HV1:Hid (∀v∈st8 (Sh.fold L (j+1)),v.oneCell'=true):=by rw[zdk];exact zba _
    have HVL:Hid ((st8 (Sh.fold L (j+1))).length=8):=rfl;have HSL8:Hid ((st8 S).length=8):=rfl;obtain⟨V,hV⟩:=ex9 (st8 (Sh.fold L (j+1)));rw[←hV]at HRCw HVI HV1 HVL;have HVE:=qh hV;have s0:=hs.cell 0;have s1:=hs.cell 1;have s2:=hs.cell 2;have s3:=hs.cell 3;have s4:=hs.cell 4;have s5:=hs.cell 5;have s6:=hs.cell 6;have s7:=hs.cell 7;simp only[st8,List.getElem?_cons_zero,List.getElem?_cons_succ]at s0 s1 s2 s3 s4 s5 s6 s7;have HSS:=qh hs;have HRR:=qh hr;have HZ:=qh hz;have HBE:=qh hB;clear hrc hS hV hs hr hz hB hgk hm hK hj
    go_wp2_with fail
    have p1:(0:Int)≤(m:Int)+64:=om;have p2:((m:Int)+64).toNat=m+64:=om;have p3:(0:Int)≤(m:Int):=om;have p4:(m:Int)≤(m:Int)+64:=om;have p64:IntKind.i64.wrap ((m:Int)+64)=(m:Int)+64:=IntWalk.i64_in _ om
    go_still_tail 6,kr
    clear p1 p2 p3 p4 p64 s0 s1 s2 s3 s4 s5 s6 s7
    go_wp2_with (first
     | (go_at_call 181;(with_reducible refine(HRCw.out _ (by exact HRM.out _ HRR.out.drew)).mono ?_);rintro e w6 ⟨rfl,hB6⟩;have HS6:=qh (HSS.out.drew.below hB6 HSS.out.lt);have HR6:=qh (HRR.out.drew.below hB6);have HZ6:=qh (HZ.out.drew.below hB6 HZ.out.lt);have HE6:=qh (HBE.out.drew.trans (hB6.mono HBE.out.size));clear hB6)
     | (refine zab rfl 195 (.tmp 4) (.tmp 27) rfl g4 V rr rr 195 _ HS6.out HVI.out HV1.out (by rw[HVL.out,HSL8.out]) ?_;intro w7 hb7 ho7;have HS7:=qh hb7;rw[HVE.out]at HS7;have HR7:=qh (ho7.rd HR6.out (fun ad e=>by injection e with e;subst e;show g3≠g4;omega));have HZ7:=qh (ho7.blk HZ6.out om);have HE7:=qh (ho7.below HE6.out om HE6.out.size);clear hb7 ho7))
    go_roundg (K-(j+1))
    case measure=>have:=HGK.out;omega
    case rel=>exact⟨j+1,m+64,by omega,rfl,HMJ.out,by go_num,HS7.out,HR7.out,HZ7.out,HE7.out⟩
  · obtain rfl:j=K:=om
    have q1:¬(m:Int)<(N:Int):=om;obtain⟨F,hF⟩:=ex9 (Sh.fold L j);rw[←hF]at hs HSH;obtain⟨B,hBy⟩:=ex9 (F.bytes);have hBl:B.length=32:=by rw[hBy];simp[Sh.St.bytes,Sh.St.list,Sh.wordBytes]
    rw[←hBy]at HSH;have HBY:=qh hBy;have HBL:=qh hBl;have HSS:=qh hs;have HZ:=qh hz;have HBE:=qh hB;have hg4l:=hs.lt;clear hF hBy hBl hs hr hz hB hgk hm hK hj HGK hlt
    go_wp2_with fail
    have HO0:Hid (Blk (wr.alloc (.cells (u8s (List.replicate 32 0)).toArray 23)) wr.heap.size 23 (u8s (B.take 0++rep (32-0) 0))):=Blk.new' rfl rfl;have HSS0:=qh (HSS.out.alloc (.cells (u8s (List.replicate 32 0)).toArray 23));have HZ0:=qh (HZ.out.alloc (.cells (u8s (List.replicate 32 0)).toArray 23));have HE0:=qh (HBE.out.alloc HBE.out.size (.cells (u8s (List.replicate 32 0)).toArray 23));have hwr:=HBE.out.size;clear HSS HZ HBE;generalize wr.heap.size=g6 at *
    go_loopg [7] 32 (fun kk q wr=>∃i:Nat,i≤32∧kk=32-i∧q=.int .i64 i∧Blk wr g6 23 (u8s (B.take i++rep (32-i) 0))∧Blk wr g4 195 (st8 F)∧Blk wr w.heap.size 23 (u8s (List.replicate 32 0))∧Below w.heap.size w wr)
    case atStart=>exact⟨0,by omega,rfl,rfl,HO0.out,HSS0.out,HZ0.out,HE0.out⟩
    case round =>
     clear HO0 HSS0 HZ0 HE0;obtain⟨i,hi,hgk,rfl,ho,hs,hz,hB⟩:=hrel;have HGK2:=qh hgk;clear hgk
     by_cases hlt:i<32
     · have hlt3:(i:Int)<32:=om
       have hi0:(0:Int)≤(i:Int):=om;obtain⟨q,hq⟩:=ex9 (i/4);have hqi:(i:Int)/4=(q:Int):=om;have hq0:(0:Int)≤(q:Int):=om;have hq8:(q:Int)<8:=om;obtain⟨x,hx⟩:∃x,F.list[q]? = some x:=⟨_,ge9 (by simp[Sh.St.list];omega)⟩;have cx:wr.cell? ⟨g4,q,none⟩=some (.int .u32 (n32 x)):=(hs.cell q).trans (by rw[zdk];exact zbw hx);have HBT:Hid (∀r,r<4→B[4*q+r]? = (Sh.wordBytes x)[r]?):=fun r hr=>by rw[HBY.out];exact zus F q r x hr hx
       obtain⟨z,hzz⟩:∃z,(u8s (B.take i++rep (32-i) 0))[i]? = some z:=⟨_,ge9 (by rw[zaa,la9,List.length_take,zar,HBL.out];omega)⟩;have cz:=(ho.cell i).trans hzz;have fz:=ho.frozen i;have hgl:=ho.lt;clear hx hzz;obtain⟨r,hr⟩:=ex9 (i%4);have hir:i=4*q+r:=om;have hr4:r<4:=om;clear hq hr;obtain rfl|rfl|rfl|rfl:r=0∨r=1∨r=2∨r=3:=om
       · have hr4:(i:Int)%4=0:=om
         have hy:B[i]? = some (x >>> 24).toUInt8:=by rw[hir,HBT.out 0 om];rfl
         have HST:=qh (zgu B 0 _ i 32 hlt hy);have HS2:=qh (ho.set_ i (.int .u8 ((x >>> 24).toUInt8).toNat));rw[zbc,HST.out]at HS2;have HV2:=qh (hs.far (p:=⟨g6,i,none⟩) (by show g4≠g6;omega) (.int .u8 ((x >>> 24).toUInt8).toNat));have HZ2:=qh (hz.far (p:=⟨g6,i,none⟩) (by show w.heap.size≠g6;omega) (.int .u8 ((x >>> 24).toUInt8).toNat));have HB2:=qh (hB.setCell (p:=⟨g6,i,none⟩) (by show w.heap.size≤g6;omega) (.int .u8 ((x >>> 24).toUInt8).toNat));have HLM:=qh (b24 x);clear hs ho hz hB hy hir
         go_wp2_with fail
         rw[HLM.out];go_roundg (32-(i+1))
         case measure=>have:=HGK2.out;omega
         case rel=>exact⟨i+1,by omega,rfl,by go_num,HS2.out,HV2.out,HZ2.out,HB2.out⟩
       · have hr4:(i:Int)%4=1:=om
         have hy:B[i]? = some (x >>> 16).toUInt8:=by rw[hir,HBT.out 1 om];rfl
         have HST:=qh (zgu B 0 _ i 32 hlt hy);have HS2:=qh (ho.set_ i (.int .u8 ((x >>> 16).toUInt8).toNat));rw[zbc,HST.out]at HS2;have HV2:=qh (hs.far (p:=⟨g6,i,none⟩) (by show g4≠g6;omega) (.int .u8 ((x >>> 16).toUInt8).toNat));have HZ2:=qh (hz.far (p:=⟨g6,i,none⟩) (by show w.heap.size≠g6;omega) (.int .u8 ((x >>> 16).toUInt8).toNat));have HB2:=qh (hB.setCell (p:=⟨g6,i,none⟩) (by show w.heap.size≤g6;omega) (.int .u8 ((x >>> 16).toUInt8).toNat));have HLM:=qh (b16 x);clear hs ho hz hB hy hir
         go_wp2_with fail
         rw[HLM.out];go_roundg (32-(i+1))
         case measure=>have:=HGK2.out;omega
         case rel=>exact⟨i+1,by omega,rfl,by go_num,HS2.out,HV2.out,HZ2.out,HB2.out⟩
       · have hr4:(i:Int)%4=2:=om
         have hy:B[i]? = some (x >>> 8).toUInt8:=by rw[hir,HBT.out 2 om];rfl
         have HST:=qh (zgu B 0 _ i 32 hlt hy);have HS2:=qh (ho.set_ i (.int .u8 ((x >>> 8).toUInt8).toNat));rw[zbc,HST.out]at HS2;have HV2:=qh (hs.far (p:=⟨g6,i,none⟩) (by show g4≠g6;omega) (.int .u8 ((x >>> 8).toUInt8).toNat));have HZ2:=qh (hz.far (p:=⟨g6,i,none⟩) (by show w.heap.size≠g6;omega) (.int .u8 ((x >>> 8).toUInt8).toNat));have HB2:=qh (hB.setCell (p:=⟨g6,i,none⟩) (by show w.heap.size≤g6;omega) (.int .u8 ((x >>> 8).toUInt8).toNat));have HLM:=qh (b8 x);clear hs ho hz hB hy hir
         go_wp2_with fail
         rw[HLM.out];go_roundg (32-(i+1))
         case measure=>have:=HGK2.out;omega
         case rel=>exact⟨i+1,by omega,rfl,by go_num,HS2.out,HV2.out,HZ2.out,HB2.out⟩
       · have hr4:(i:Int)%4=3:=om
         have hy:B[i]? = some x.toUInt8:=by rw[hir,HBT.out 3 om];rfl
         have HST:=qh (zgu B 0 _ i 32 hlt hy);have HS2:=qh (ho.set_ i (.int .u8 (x.toUInt8).toNat));rw[zbc,HST.out]at HS2;have HV2:=qh (hs.far (p:=⟨g6,i,none⟩) (by show g4≠g6;omega) (.int .u8 (x.toUInt8).toNat));have HZ2:=qh (hz.far (p:=⟨g6,i,none⟩) (by show w.heap.size≠g6;omega) (.int .u8 (x.toUInt8).toNat));have HB2:=qh (hB.setCell (p:=⟨g6,i,none⟩) (by show w.heap.size≤g6;omega) (.int .u8 (x.toUInt8).toNat));have HLM:=qh (b0 x);clear hs ho hz hB hy hir
         go_wp2_with fail
         rw[HLM.out];go_roundg (32-(i+1))
         case measure=>have:=HGK2.out;omega
         case rel=>exact⟨i+1,by omega,rfl,by go_num,HS2.out,HV2.out,HZ2.out,HB2.out⟩
     · obtain rfl:i=32:=om
       have hlt3:¬((32:Nat):Int)<32:=om;have hse:B.take 32++rep (32-32) 0=Sh.sha l:=by rw[HSH.out,tk (by rw[HBL.out];exact lr)];simp[rep]
       rw[hse]at ho;have HRI:Hid ((Tryz.prog.info? 23).map (·.size)=some (u8s (Sh.sha l)).length):=by rw[zaa,Sh.sha_len];exact hd24
       have HR1:Hid (∀v∈u8s (Sh.sha l),v.oneCell'=true):=zac _;have HRL:Hid ((u8s (Sh.sha l)).length=(u8s (List.replicate 32 0)).length):=by show _=_;rw[zaa,Sh.sha_len];rfl
       obtain⟨U,hU⟩:=ex9 (u8s (Sh.sha l));rw[←hU]at ho HRI HR1 HRL;have HUE:=qh hU;clear hse hU HGK2 hlt hi
       go_wp2_with (first
        | refine wpList_load_mid rfl 23 (.tmp 6) rfl g6 0 rr U _ ho.range Tryz.underlying23 rfl HRI.out ?_
        | (refine zab rfl 23 (.tmp 2) (.tmp 44) rfl w.heap.size U rr rr 23 _ hz HRI.out HR1.out HRL.out ?_;intro w8 hb8 ho8))
       exact bodyPost_ret (zam rfl _ w.heap.size _ U rfl hb8 _ Tryz.underlying23 rfl HRI.out) rfl ⟨by rw[HUE.out],ho8.below hB lr hB.size⟩
def maskI(K:List UInt8)(m:UInt8)(i:Nat):List UInt8:=Mc.mask (K.take i) m++K.drop i
theorem zkw(K:List UInt8)(m:UInt8)(i:Nat)(h:i<K.length):(maskI K m i)[i]? = K[i]?:=by
 unfold maskI
 have hl:(Mc.mask (K.take i) m).length=i:=by rw[Mc.mask_len,List.length_take];omega
 rw[ar9 om,hl,Nat.sub_self,List.getElem?_drop,Nat.add_zero]
theorem zkv(K:List UInt8)(m:UInt8)(i:Nat)(x:UInt8)(hx:K[i]? = some x):(maskI K m i).set i (x ^^^ m)=maskI K m (i+1):=by
 have hi:=(gi9.1 hx).1
 unfold maskI
 have hl:(Mc.mask (K.take i) m).length=i:=by rw[Mc.mask_len,List.length_take];omega
 have hd:K.drop i=x :: K.drop (i+1):=by
  rw[List.drop_eq_getElem_cons hi];congr 1;exact(gi9.1 hx).2
 rw[List.set_append_right _ _ om,hl,Nat.sub_self,hd,List.set_cons_zero,List.take_add_one,hx]
 simp[Mc.mask]
theorem zkx(K:List UInt8)(m:UInt8)(h:K.length=64):maskI K m 64=Mc.mask K m:=by
 unfold maskI
 rw[tk om,List.drop_of_length_le om,List.append_nil]
theorem zkk(A:Option Addr)(n c:Nat)(k:List UInt8)(m:UInt8)(w:World)(h:Rd w A n (u8s k))(hn:n≤64):
 Calls Tryz.prog 160 #[.slice A n c,.int .u8 m.toNat] w fun e w'=>e=.returned (.slice (some ⟨w.heap.size,0,none⟩) 64 64)∧Blk w' w.heap.size 5 (u8s (Mc.mask (Mc.key64 k) m))∧Below w.heap.size w w':=by
 have hkl:k.length=n:=h.len;have hK:Mc.key64 k=Mc.padded k:=by unfold Mc.key64;rw[if_neg om]
 have HSP:=qh (zej k om);rw[←hK]at HSP;have HKL:Hid ((Mc.key64 k).length=64):=Mc.key64_len k;obtain⟨K,hKK⟩:=ex9 (Mc.key64 k);rw[←hKK]at HSP HKL ⊢;have HR:=qh h;have e64:¬(64:Int)<(n:Int):=om;clear hkl hK hKK h
 go_enter Tryz.func160, Tryz.ntmps160
 go_wp2_with (first
  | (refine zao rfl (.const (.int .i64 64)) (.const (.int .i64 64)) 22 rfl 5 (.int .u8 0) 1 Tryz.underlying22 iU8 rfl .i64 .i64 64 64 rr rr 64 64 rfl rfl om om om ?_;intro w1 hb1 hg1 hs1;have HB1:Hid (Blk w1 w.heap.size 5 (u8s (List.replicate 64 0))):=hb1;have HE1:Hid (Below w.heap.size w w1):=zaf hg1;clear hb1 hg1 hs1)
  | (refine za7 rfl (.tmp 17) (.tmp 18) 22 rfl 5 Tryz.underlying22 zbz w.heap.size 0 64 64 rr A n c rr 5 _ HB1.out (u8s k) (by exact HR.out.below HE1.out) (zac _) (by rw[zaa];exact lr) ?_;intro w2 hb2 ho2;rw[HSP.out]at hb2;have HK0:Hid (Blk w2 w.heap.size 5 (u8s (maskI K m 0))):=hb2;have HE0:=qh (ho2.below HE1.out lr HE1.out.size);clear hb2 ho2))
 go_loopg [7] 64 (fun kk q wr=>∃i:Nat,i≤64∧kk=64-i∧q=.int .i64 i∧Blk wr w.heap.size 5 (u8s (maskI K m i))∧Below w.heap.size w wr)
 case atStart=>exact⟨0,by omega,rfl,rfl,HK0.out,HE0.out⟩
 case round =>
  clear HK0 HE0;obtain⟨i,hi,hgk,rfl,hb,hB⟩:=hrel;have HGK:=qh hgk;clear hgk
  by_cases hlt:i<64
  · have hlt2:(i:Int)<64:=om
    have hi0:(0:Int)≤(i:Int):=om;obtain⟨x,hx⟩:∃x,K[i]? = some x:=⟨_,ge9 (by rw[HKL.out];exact hlt)⟩;have cx:wr.cell? ⟨w.heap.size,i,none⟩=some (.int .u8 x.toNat):=by rw[hb.cell,u8s_getElem?,zkw K m i (by rw[HKL.out];exact hlt),hx];rfl
    have fx:=hb.frozen i;have HST:=qh (zkv K m i x hx);have HXR:=qh (zh1 x m);have hb2:=qh (hb.set_ i (.int .u8 (x ^^^ m).toNat));rw[zbc,HST.out]at hb2;have hB2:=qh (hB.setCell (p:=⟨w.heap.size,i,none⟩) lr (.int .u8 (x ^^^ m).toNat));have hgl:=hb.lt;clear hb hB hx
    go_wp2_with fail
    rw[HXR.out];go_roundg (64-(i+1))
    case measure=>have:=HGK.out;omega
    case rel=>exact⟨i+1,by omega,rfl,by go_num,hb2.out,hB2.out⟩
  · obtain rfl:i=64:=om
    have hlt2:¬((64:Nat):Int)<64:=om;have HB:=qh hb;rw[zkx K m HKL.out]at HB;clear hb
    go_wp2_with fail
    go_ret;exact⟨rfl,HB.out,hB⟩
theorem zoo(A:Option Addr)(n c:Nat)(k:List UInt8)(m:UInt8)(w:World)(h:Rd w A n (u8s k))(hn:64<n)(hn2:n≤100000000):
 Calls Tryz.prog 160 #[.slice A n c,.int .u8 m.toNat] w fun e w'=>e=.returned (.slice (some ⟨w.heap.size,0,none⟩) 64 64)∧Blk w' w.heap.size 5 (u8s (Mc.mask (Mc.key64 k) m))∧Below w.heap.size w w':=by
 have hkl:k.length=n:=h.len;have hK:Mc.key64 k=Mc.padded (Sh.sha k):=by unfold Mc.key64;rw[if_pos om]
 have hsl:=Sh.sha_len k;have HSP:=qh (zej (Sh.sha k) om);rw[←hK]at HSP;have HKL:Hid ((Mc.key64 k).length=64):=Mc.key64_len k;have HSU:=qh (fun W (hr:Rd W A n (u8s k))=>zi5 A n c k W hr hn2);have HI2:Hid ((Tryz.prog.info? 23).map (·.size)=some (u8s (Sh.sha k)).length):=by rw[zaa,hsl];exact hd24
 have HL2:Hid ((u8s (Sh.sha k)).length=(u8s (List.replicate 32 0)).length):=by show _=_;rw[zaa,hsl];rfl
 have HO2:Hid (∀v∈u8s (Sh.sha k),v.oneCell'=true):=zac _;have HSL:=qh hsl;obtain⟨X,hX⟩:=ex9 (Sh.sha k);rw[←hX]at HSP HSU HI2 HL2 HO2 HSL;obtain⟨U,hU⟩:=ex9 (u8s X);rw[←hU]at HSU HI2 HL2 HO2;have HUE:=qh hU;obtain⟨K,hKK⟩:=ex9 (Mc.key64 k);rw[←hKK]at HSP HKL ⊢;have HR:=qh h;have e64:(64:Int)<(n:Int):=om;clear hkl hK hKK h hsl hX hU
 go_enter Tryz.func160, Tryz.ntmps160
 go_wp2_with (first
  | (refine zao rfl (.const (.int .i64 64)) (.const (.int .i64 64)) 22 rfl 5 (.int .u8 0) 1 Tryz.underlying22 iU8 rfl .i64 .i64 64 64 rr rr 64 64 rfl rfl om om om ?_;intro w1 hb1 hg1 hs1;have HB1:Hid (Blk w1 w.heap.size 5 (u8s (List.replicate 64 0))):=hb1;have HE1:Hid (Below w.heap.size w w1):=zaf hg1;clear hb1 hg1 hs1)
  | (go_at_call 159;(with_reducible refine(HSU.out _ (by exact HR.out.below HE1.out)).mono ?_);rintro e w2 ⟨rfl,hB2⟩;have HB2:=qbl HB1 hB2;have HE2:=qtr HE1 hB2;clear hB2)
  | (refine zab rfl 23 (.tmp 6) (.tmp 13) rfl w2.heap.size U rr rr 23 (u8s (List.replicate 32 0)) (by exact Blk.new' rfl rfl) HI2.out HO2.out HL2.out ?_;intro w3 hb3 ho3;have hl2:=HB2.out.lt;have HB3:=qh (ho3.blk (HB2.out.alloc _) om);have HE3:=qh (ho3.below (HE2.out.alloc HE2.out.size _) HE2.out.size (Nat.le_trans HE2.out.size sy));have HX3:Hid (Rd w3 (some ⟨w2.heap.size,0,none⟩) 32 (u8s X)):=(by have h5:=hb3;rw[HUE.out]at h5;have h6:=h5.rdAll;rw[HSL.out]at h6;exact h6);clear hb3 ho3)
  | (refine za7 rfl (.tmp 14) (.tmp 15) 22 rfl 5 Tryz.underlying22 zbz w.heap.size 0 64 64 rr (some ⟨w2.heap.size,0,none⟩) 32 32 rr 5 _ HB3.out (u8s X) (by exact HX3.out) (zac _) (by rw[zaa];exact lr) ?_;intro w4 hb4 ho4;rw[HSP.out]at hb4;have HK0:Hid (Blk w4 w.heap.size 5 (u8s (maskI K m 0))):=hb4;have HE0:=qh (ho4.below HE3.out lr HE3.out.size);clear hb4 ho4))
 go_loopg [7] 64 (fun kk q wr=>∃i:Nat,i≤64∧kk=64-i∧q=.int .i64 i∧Blk wr w.heap.size 5 (u8s (maskI K m i))∧Below w.heap.size w wr)
 case atStart=>exact⟨0,by omega,rfl,rfl,HK0.out,HE0.out⟩
 case round =>
  clear HK0 HE0;obtain⟨i,hi,hgk,rfl,hb,hB⟩:=hrel;have HGK:=qh hgk;clear hgk
  by_cases hlt:i<64
  · have hlt2:(i:Int)<64:=om
    have hi0:(0:Int)≤(i:Int):=om;obtain⟨x,hx⟩:∃x,K[i]? = some x:=⟨_,ge9 (by rw[HKL.out];exact hlt)⟩;have cx:wr.cell? ⟨w.heap.size,i,none⟩=some (.int .u8 x.toNat):=by rw[hb.cell,u8s_getElem?,zkw K m i (by rw[HKL.out];exact hlt),hx];rfl
    have fx:=hb.frozen i;have HST:=qh (zkv K m i x hx);have HXR:=qh (zh1 x m);have hb2:=qh (hb.set_ i (.int .u8 (x ^^^ m).toNat));rw[zbc,HST.out]at hb2;have hB2:=qh (hB.setCell (p:=⟨w.heap.size,i,none⟩) lr (.int .u8 (x ^^^ m).toNat));have hgl:=hb.lt;clear hb hB hx
    go_wp2_with fail
    rw[HXR.out];go_roundg (64-(i+1))
    case measure=>have:=HGK.out;omega
    case rel=>exact⟨i+1,by omega,rfl,by go_num,hb2.out,hB2.out⟩
  · obtain rfl:i=64:=om
    have hlt2:¬((64:Nat):Int)<64:=om;have HB:=qh hb;rw[zkx K m HKL.out]at HB;clear hb
    go_wp2_with fail
    go_ret;exact⟨rfl,HB.out,hB⟩
theorem zih(A:Option Addr)(n c:Nat)(k:List UInt8)(m:UInt8)(w:World)(h:Rd w A n (u8s k))(hn2:n≤100000000):
 Calls Tryz.prog 160 #[.slice A n c,.int .u8 m.toNat] w fun e w'=>e=.returned (.slice (some ⟨w.heap.size,0,none⟩) 64 64)∧Blk w' w.heap.size 5 (u8s (Mc.mask (Mc.key64 k) m))∧Below w.heap.size w w':=by
 rcases Nat.lt_or_ge 64 n with h1|h1
 · exact zoo A n c k m w h h1 hn2
 · exact zkk A n c k m w h h1
section
theorem zlj(A:Option Addr)(n c:Nat)(k:List UInt8)(A2:Option Addr)(n2 c2:Nat)(l:List UInt8)(w:World)(h:Rd w A n (u8s k))(hn:n≤100000000)(h2:Rd w A2 n2 (u8s l))(hn2:n2≤10000000):
 Calls Tryz.prog 158 #[.slice A n c,.slice A2 n2 c2] w fun e w'=>e=.returned (.agg (u8s (Sh.sha (Mc.mask (Mc.key64 k) 54++l))).toArray)∧Below w.heap.size w w':=by
 have hml:(Mc.mask (Mc.key64 k) 54).length=64:=by rw[Mc.mask_len,Mc.key64_len]
 have hbk:=zih A n c k 54 (w.alloc (.cells (u8s (List.replicate 32 0)).toArray 23)) (h.alloc _) hn;have e1:(w.alloc (.cells (u8s (List.replicate 32 0)).toArray 23)).heap.size=w.heap.size+1:=by simp
 rw[e1]at hbk;have HBK:Hid (Calls Tryz.prog 160 #[.slice A n c,.int .u8 54] (w.alloc (.cells #[.int .u8 0,.int .u8 0,.int .u8 0,.int .u8 0,.int .u8 0,.int .u8 0,.int .u8 0,.int .u8 0,.int .u8 0,.int .u8 0,.int .u8 0,.int .u8 0,.int .u8 0,.int .u8 0,.int .u8 0,.int .u8 0,.int .u8 0,.int .u8 0,.int .u8 0,.int .u8 0,.int .u8 0,.int .u8 0,.int .u8 0,.int .u8 0,.int .u8 0,.int .u8 0,.int .u8 0,.int .u8 0,.int .u8 0,.int .u8 0,.int .u8 0,.int .u8 0] 23)) fun e w'=>e=.returned (.slice (some ⟨w.heap.size+1,0,none⟩) 64 64)∧Blk w' (w.heap.size+1) 5 (u8s (Mc.mask (Mc.key64 k) 54))∧Below (w.heap.size+1) (w.alloc (.cells (u8s (List.replicate 32 0)).toArray 23)) w'):=hbk;obtain⟨M,hM⟩:=ex9 (Mc.mask (Mc.key64 k) 54);rw[←hM]at HBK hml ⊢;have HML:Hid ((u8s M).length=64):=by show _=_;rw[zaa,hml]
 have HSU:=qh (fun W A3 c3 (hr:Rd W A3 (64+n2) (u8s (M++l)))=>zi5 A3 (64+n2) c3 (M++l) W hr om);have HI2:Hid ((Tryz.prog.info? 23).map (·.size)=some (u8s (Sh.sha (M++l))).length):=by rw[zaa,Sh.sha_len];exact hd24
 have HL2:Hid ((u8s (Sh.sha (M++l))).length=(u8s (List.replicate 32 0)).length):=by show _=_;rw[zaa,Sh.sha_len];rfl
 have HO2:Hid (∀v∈u8s (Sh.sha (M++l)),v.oneCell'=true):=zac _;obtain⟨U,hU⟩:=ex9 (u8s (Sh.sha (M++l)));rw[←hU]at HSU HI2 HL2 HO2 ⊢;have HR2:=qh h2;clear hM hU h h2 hml hbk e1
 go_enter Tryz.func158, Tryz.ntmps158
 go_wp2_with (first
  | (go_at_call 160;(with_reducible refine HBK.out.mono ?_);rintro e w1 ⟨rfl,hb1,hB1⟩;have HE1:=qh (((Below.refl _ w).alloc lr (.cells (u8s (List.replicate 32 0)).toArray 23)).trans (hB1.mono (Nat.le_succ _)));have HZ1:=qh ((Blk.new' (w:=w) (cs:=u8s (List.replicate 32 0)) (t:=23) rfl rfl).below hB1 (Nat.lt_succ_self _));have HO1:=qh (show w1.ownsRow (w.heap.size+1) 5 1 (.slice (some ⟨w.heap.size+1,0,none⟩) 64 64) 64 (u8s M) from (by have h5:=zbi hb1 lr 64 64 1 om (by rw[HML.out]) om;rw[tk (by rw[HML.out];omega)]at h5;exact h5));have hl1:=hb1.lt;clear hb1 hB1)
  | (at_builtin;refine zah rfl (.tmp 6) (.tmp 7) 22 rfl (w.heap.size+1) 5 1 1 Tryz.underlying22 eU8 (.slice (some ⟨w.heap.size+1,0,none⟩) 64 64) 64 (u8s M) rr (by exact HO1.out) A2 n2 c2 (u8s l) rr (by exact(HR2.out.below HE1.out).toS) (zac _) om om om ?_;intro A3 c3 w3 hown3 hc3 hg3 hat3;have HR3:=qh (Rd.of_own hown3);rw[←zae]at HR3;have HE3:=qh (HE1.out.grown hg3 HE1.out.size (fun k hk=>by have:=(HO1.out.lt k hk).1;omega));have HZ3:=qh (HZ1.out.grown hg3 (fun e=>by have:=(HO1.out.lt _ e.symm).1;omega));clear hown3 hg3 hat3)
  | (go_at_call 159;(with_reducible refine(HSU.out _ _ _ HR3.out).mono ?_);rintro e w4 ⟨rfl,hB4⟩;have HE4:=qtr HE3 hB4;have HZ4:=qbl HZ3 hB4;clear hB4)
  | (refine zab rfl 23 (.tmp 4) (.tmp 9) rfl w.heap.size U rr rr 23 _ HZ4.out HI2.out HO2.out HL2.out ?_;intro w8 hb8 ho8))
 exact bodyPost_ret (zam rfl _ w.heap.size _ U rfl hb8 _ Tryz.underlying23 rfl HI2.out) rfl ⟨rfl,ho8.below HE4.out lr HE4.out.size⟩
theorem zvu(p v:Value):Instr.storeAt 23 p v=stAt 23 p v:=rfl
section
attribute [local go_sem ↓] zvu
theorem zi4(A:Option Addr)(n c:Nat)(k:List UInt8)(A2:Option Addr)(n2 c2:Nat)(l:List UInt8)(w:World)(h:Rd w A n (u8s k))(hn:n≤100000000)(h2:Rd w A2 n2 (u8s l))(hn2:n2≤10000000):
 Calls Tryz.prog 128 #[.slice A n c,.slice A2 n2 c2] w fun e w'=>e=.returned (.agg (u8s (Mc.tag k l)).toArray)∧Below w.heap.size w w':=by
 have HIN:=qh (fun W (h1:Rd W A n (u8s k)) (h2:Rd W A2 n2 (u8s l))=>zlj A n c k A2 n2 c2 l W h1 hn h2 hn2);have HBK:Hid (∀W:World,Rd W A n (u8s k)→Calls Tryz.prog 160 #[.slice A n c,.int .u8 92] W.drew fun e w'=>e=.returned (.slice (some ⟨W.heap.size,0,none⟩) 64 64)∧Blk w' W.heap.size 5 (u8s (Mc.mask (Mc.key64 k) 92))∧Below W.heap.size W.drew w'):=fun W h1=>zih A n c k 92 W.drew h1.drew hn
 have hml:(Mc.mask (Mc.key64 k) 92).length=64:=by rw[Mc.mask_len,Mc.key64_len]
 have HT:Hid (Mc.tag k l=Sh.sha (Mc.mask (Mc.key64 k) 92++Sh.sha (Mc.mask (Mc.key64 k) 54++l))):=rfl;obtain⟨M,hM⟩:=ex9 (Mc.mask (Mc.key64 k) 92);obtain⟨I,hI⟩:=ex9 (Sh.sha (Mc.mask (Mc.key64 k) 54++l));have hil:I.length=32:=by rw[hI];exact Sh.sha_len _
 rw[←hM]at HBK hml HT;rw[←hI]at HIN HT;have HML:Hid ((u8s M).length=64):=by show _=_;rw[zaa,hml]
 have HIL:=qh hil;have HII:Hid ((Tryz.prog.info? 23).map (·.size)=some (u8s I).length):=by rw[zaa,hil];exact hd24
 have HIJ:Hid ((u8s I).length=(u8s (List.replicate 32 0)).length):=by show _=_;rw[zaa,hil];rfl
 have HIO:Hid (∀v∈u8s I,v.oneCell'=true):=zac _;have HSU:=qh (fun W A3 c3 (hr:Rd W A3 (64+32) (u8s (M++I)))=>zi5 A3 (64+32) c3 (M++I) W hr om);rw[HT.out];have HI2:Hid ((Tryz.prog.info? 23).map (·.size)=some (u8s (Sh.sha (M++I))).length):=by rw[zaa,Sh.sha_len];exact hd24
 have HL2:Hid ((u8s (Sh.sha (M++I))).length=(u8s (List.replicate 32 0)).length):=by show _=_;rw[zaa,Sh.sha_len];rfl
 have HO2:Hid (∀v∈u8s (Sh.sha (M++I)),v.oneCell'=true):=zac _;obtain⟨U,hU⟩:=ex9 (u8s (Sh.sha (M++I)));rw[←hU]at HSU HI2 HL2 HO2 ⊢;obtain⟨IU,hIU⟩:=ex9 (u8s I);rw[←hIU]at HIN HII HIJ HIO;have HIUE:=qh hIU;have HR:=qh h;have HR2:=qh h2;clear hM hI hil hml hU hIU h h2 HT
 go_enter Tryz.func128, Tryz.ntmps128
 go_wp2_with (first
  | (go_at_call 158;(with_reducible refine(HIN.out _ (by exact HR.out.alloc _) (by exact HR2.out.alloc _)).mono ?_);rintro e w1 ⟨rfl,hB1⟩;have HE1:=qh (((Below.refl _ w).alloc lr _).trans (hB1.mono sy));have HZ1:=qh ((Blk.new' (w:=w) (cs:=u8s (List.replicate 32 0)) (t:=23) rfl rfl).below hB1 sy);clear hB1)
  | (refine zab rfl 23 (.tmp 5) (.tmp 8) rfl w1.heap.size IU rr rr 23 (u8s (List.replicate 32 0)) (by exact Blk.new' rfl rfl) HII.out HIO.out HIJ.out ?_;intro w2 hb2 ho2;have hl1:=HZ1.out.lt;have HE2:=qh (ho2.below (HE1.out.alloc HE1.out.size _) HE1.out.size (Nat.le_trans HE1.out.size sy));have HZ2:=qh (ho2.blk (HZ1.out.alloc _) om);have HX2:Hid (Blk w2 w1.heap.size 23 (u8s I)):=(by rw[←HIUE.out];exact hb2);clear hb2 ho2))
 have HRk:=qh (HR.out.below HE2.out);have hl2:=HZ2.out.lt;have hx2:=HX2.out.lt
 go_region_held3 (fun _=>True) (trivial) (first
  | (go_at_call 160;(with_reducible refine(HBK.out w2 HRk.out).mono ?_);rintro e w3 ⟨rfl,hb3,hB3⟩;have HE3:=qh (HE2.out.drew.trans (hB3.mono HE2.out.size));have HZ3:=qh (HZ2.out.drew.below hB3 HZ2.out.lt);have HX3:Hid (Rd w3 (some ⟨w1.heap.size,0,none⟩) 32 (u8s I)):=(by have h6:=(HX2.out.drew.below hB3 HX2.out.lt).rdAll;rw[HIL.out]at h6;exact h6);have HO3:=qh (show w3.ownsRow w2.heap.size 5 1 (.slice (some ⟨w2.heap.size,0,none⟩) 64 64) 64 (u8s M) from (by have h5:=zbi hb3 lr 64 64 1 om (by rw[HML.out]) om;rw[tk (by rw[HML.out];omega)]at h5;exact h5));have hl3:w2.heap.size≤w3.heap.size:=Nat.le_of_lt hb3.lt;clear hb3 hB3)
  | (go_at_call 159;(with_reducible refine(HSU.out _ _ _ HR4.out).mono ?_);rintro e w5 ⟨rfl,hB5⟩;have HE5:=qtr HE4 hB5;have HZ5:=qbl HZ4 hB5;have hst5:=zco (P:=Tryz.prog) HZ5.out 23 0 U (by rw[HL2.out];exact Nat.le_of_eq (Nat.zero_add _)) HO2.out HI2.out;have ht5:w5.there w.heap.size 0 U.length:=HZ5.out.there 0 U.length (by rw[HL2.out];exact Nat.le_of_eq (Nat.zero_add _));clear hB5)
  | ((refine zms rfl (.tmp 10) (.tmp 11) 22 rfl w2.heap.size 5 1 1 Tryz.underlying22 eU8 (.slice (some ⟨w2.heap.size,0,none⟩) 64 64) 64 (u8s M) rr (by exact HO3.out) (some ⟨w1.heap.size,0,none⟩) 32 32 (u8s I) rr (by exact HX3.out.toS) (zac _) om om hl3 ?_;intro A4 c4 w4 hown4 hc4 hg4 hat4;have HR4:=qh (Rd.of_own hown4);rw[←zae]at HR4;have HE4:=qh (HE3.out.grown hg4 HE3.out.size (fun k hk=>by have:=(HO3.out.lt k hk).1;have:=HE2.out.size;omega));have HZ4:=qh (HZ3.out.grown hg4 (fun e=>by have:=(HO3.out.lt _ e.symm).1;omega));clear hown4 hg4 hat4)))
 have hb8:=za0 w.heap.size _ U 0 _ w5 HZ5.out (by rw[HL2.out];exact Nat.le_of_eq (Nat.zero_add _));rw[zap _ _ HL2.out]at hb8;have HB8:=qh hb8;have HE8:=qh (zbq w.heap.size w.heap.size w U 0 w5 HE5.out lr);clear hb8 hst5 ht5
 go_wp2_with fail
 exact bodyPost_ret (zam rfl _ w.heap.size _ U rfl HB8.out _ Tryz.underlying23 rfl HI2.out) rfl ⟨rfl,HE8.out⟩
end
end
end Go.Proofs.YtpgpaenloaphaaaGreat
