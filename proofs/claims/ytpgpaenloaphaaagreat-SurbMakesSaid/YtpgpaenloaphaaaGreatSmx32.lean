/- Part of the proof. -/
import Derived.Test.YtpgpaenloaphaaaGreatSmx29
set_option maxRecDepth 100000
set_option maxHeartbeats 0
namespace Go.Proofs.YtpgpaenloaphaaaGreat
open Go.RowKit
section
attribute [local go_sem ↓] zcg zr2
theorem zuw(A B:Option Addr)(k c d:Nat)(cs:List Cm)(ss:List Sp)(w:World)(h1:RdS 20 w A (k+1) (cs.flatMap Cm.cells))(h2:RdS 192 w B (k+1) (ss.flatMap Sp.cells))(hcs:∀c∈cs,c.ok)(hss:∀s∈ss,s.ok)
 (hcl:cs.length=k+1) (hsl:ss.length=k+1) (hd:k+1≤d) (he:berr cs (k+1)=0):
 Calls Tryz.prog 51 #[.slice A (k+1) c,.slice B (k+1) d] w fun e w'=>e=.returned (.tuple #[.agg (u8s (hst cs ss (k+1) (k+1))).toArray,.int .i64 0])∧Below w.heap.size w w':=by
 obtain⟨hj1,hk5,hj2,hck⟩:=zk6 he;have hk:k≤4:=om
 have HBE:Hid (∀W,Below w.heap.size w W→Calls Tryz.prog 83 #[.slice A (k+1) c,.int .i64 ((k:Int)+1)] W fun e w'=>e=.returned (.int .i64 0)∧Below W.heap.size W w'):=fun W hB=>by
  have h5:=zux A (k+1) c (k+1) cs W (h1.bel hB lr) hcs hcl om om;rw[he]at h5;exact h5
 obtain⟨L,hL⟩:=ex9 (48*k)
 have HFI:Hid (∀W,Below w.heap.size w W→Calls Tryz.prog 84 #[.slice B (k+1) d] W fun e w'=>∃A' c',e=.returned (.tuple #[.slice A' L c',.int .i64 0])∧L≤c'∧w'.ownsRow W.heap.size 5 1 (.slice A' L c') L (u8s (fil ss k))∧Below W.heap.size W w'):=fun W hB=>by
  rw[hL];exact zo5 B k d ss W (h2.bel hB lr) hss hsl hk hd
 have HCK:=qh hck;have HCS:=qh hcs;have HSS:=qh hss;have HCL:=qh hcl;have HSL:=qh hsl;have HR1:=qh h1;have HR2:=qh h2;have HFL:=qh (zjw ss k om);have HHL:=qh (fun m hm=>zfq (n:=k+1) hcs hss hcl hsl hk5 m hm);have HE0:Hid (Below w.heap.size w (w.alloc (.cells Tryz.zeroCells32 32))):=(Below.refl _ w).alloc lr _;have HG0:Hid (Blk (w.alloc (.cells Tryz.zeroCells32 32)) w.heap.size 32 (u8s z288)):=Blk.new' rfl zc34';have h10:¬((k:Int)+1<1):=om;have HLL:=qh hL;have hL2:L≤192:=om;clear h1 h2 hcs hss hcl hsl hck he hj1 hj2 hL
 go_enter Tryz.func51, Tryz.ntmps51
 go_wp2_with (first|(go_at_call 83;(with_reducible refine(HBE.out _ (by exact HE0.out)).mono ?_);rintro e w1 ⟨rfl,hB1⟩;have HE1:=qh (HE0.out.trans (hB1.mono sy));have HG1:=qbl HG0 hB1;clear hB1)| (go_at_call 84;(with_reducible refine(HFI.out _ (by exact HE1.out)).mono ?_);rintro e w3 ⟨A7,c7,rfl,hc7,hown3,hB3⟩;have HE3:=qtr HE1 hB3;have HG3:=qbl HG1 hB3;have HF3:=qh (Rd.of_own hown3);clear hown3 hB3))
 obtain⟨W9,hW9⟩:=ex9 (w3.alloc (.cells Tryz.zeroCells32 32));have hs3:=HE3.out.size;have hg30:=HG3.out.lt;have HE9:Hid (Below w.heap.size w W9):=by rw[hW9];exact HE3.out.alloc hs3 _
 have HG9:Hid (Blk W9 w.heap.size 32 (u8s z288)):=by rw[hW9];exact HG3.out.alloc _
 have HP9:Hid (Blk W9 w3.heap.size 32 (u8s (hst cs ss (k+1) 0))):=by rw[hW9];exact Blk.new' rfl zc34'
 have HF9:Hid (Rd W9 A7 L (u8s (fil ss k))):=by rw[hW9];exact HF3.out.alloc _
 have HFA:Hid (0<L→∀ad:Addr,A7=some ad→ad.block≠w3.heap.size):=HF3.out.apart lr;rw[←hW9]
 have HKP:Hid (∀W,Wrote w3.heap.size W9 W→Below w.heap.size w W∧Blk W w.heap.size 32 (u8s z288)∧Rd W A7 L (u8s (fil ss k))∧RdS 20 W A (k+1) (cs.flatMap Cm.cells)∧RdS 192 W B (k+1) (ss.flatMap Sp.cells)):=fun W hW=>by
  have hB:Below w.heap.size w W:=hW.below HE9.out hs3 HE9.out.size;exact⟨hB,HG9.out.wrote hW om,HF9.out.wrote hW HFA.out,HR1.out.bel hB lr,HR2.out.bel hB lr⟩
 clear hW9 HF3 HG3 HE3 HE1 HG1 HBE HFI HE0 HG0 HF9 HFA HG9 HE9 HR1 HR2 h10
 go_loopg [10] (k+1) (fun kk q wr=>∃m:Nat,m≤k+1∧kk=k+1-m∧q=.int .i64 ((k:Int)-(m:Int))∧Blk wr w3.heap.size 32 (u8s (hst cs ss (k+1) m))∧Wrote w3.heap.size W9 wr)
 case atStart=>exact⟨0,by omega,rfl,by go_num,HP9.out,Wrote.refl _ _⟩
 case round =>
  clear HP9;obtain⟨m,hm,hgk,rfl,hb,hW⟩:=hrel;have HGK:=qh hgk;clear hgk
  by_cases hlt:m<k+1
  · obtain⟨i,hi⟩:=ex9 (k-m)
    rw[show(k:Int)-(m:Int)=(i:Int) by omega];have hi0:(0:Int)≤(i:Int):=om;have hik:(i:Int)<(k:Int)+1:=om;obtain⟨cm,hci⟩:∃c,cs[i]? = some c:=⟨_,ge9 (by rw[HCL.out];omega)⟩;obtain⟨s,hsi⟩:∃s,ss[i]? = some s:=⟨_,ge9 (by rw[HSL.out];omega)⟩;have hcok:=HCS.out cm (mg9 hci);have hsok:=HSS.out s (mg9 hsi);have hch:=(HCK.out i cm hci).1;obtain⟨q1,q2,q3,q4,q5⟩:=HKP.out wr hW;obtain⟨b,off,rfl,hbl,hrg⟩:=zj0 q4 HCS.out hci om;obtain⟨b2,off2,rfl,_,_⟩:=ze2 q5 HSS.out hsi om
    have HSR:Hid (∀W,Wrote w3.heap.size W9 W→b2<W.heap.size∧W.rangeAt b2 (off2+i*192) s.cells):=fun W hW=>by
     obtain⟨_,_,_,_,p5⟩:=HKP.out W hW;obtain⟨b3,off3,e3,h3,h4⟩:=ze2 p5 HSS.out hsi om
     injection e3 with e3
     injection e3 with e4 e5
     subst e4;subst e5;exact⟨h3,h4⟩
    have HKM:Hid (∀W,Wrote w3.heap.size W9 W→Rd W (some ⟨b2,off2+i*192,none⟩) 32 (u8s s.mac)):=fun W hW=>by
     have h5:=zet (HSR.out W hW).2 (HSR.out W hW).1 0 32 (by rw[Sp.bytes_len hsok];omega)
     rwa [Sp.at_mac hsok,Nat.add_zero]at h5
    have HKS:Hid (∀W,Wrote w3.heap.size W9 W→Rd W (some ⟨b2,off2+i*192+32,none⟩) 32 (u8s s.stream)):=fun W hW=>by
     have h5:=zet (HSR.out W hW).2 (HSR.out W hW).1 32 32 (by rw[Sp.bytes_len hsok];omega)
     rwa [Sp.at_stream hsok]at h5
    have HKA:Hid (∀W,Wrote w3.heap.size W9 W→W.rangeAt b2 (off2+i*192+128) (u8s s.alpha)):=fun W hW j v hv=>by
     have h5:=(HSR.out W hW).2 (128+j) v (by
      rw[←Sp.at_alpha hsok,u8s_getElem?,List.getElem?_take]at hv
      split at hv
      · rw[Sp.cells,u8s_getElem?];rwa [List.getElem?_drop]at hv
      · cases hv)
     rwa [←Nat.add_assoc]at h5
    have hld:(ldAt 47 (.pointer (some ⟨b,off+i*20,none⟩))).run Tryz.prog wr=.ok (.agg cm.cells.toArray) wr:=run_loadAt_mid wr b (off+i*20) 47 cm.cells _ hrg Tryz.underlying47 rfl (by rw[Cm.cells_len hcok];exact hd76c)
    have HEN:Hid (∀W,Calls Tryz.prog 85 #[.agg cm.cells.toArray] W fun e w'=>∃g c',e=.returned (.tuple #[.slice (some ⟨g,0,none⟩) 32 c',.int .i64 0])∧32≤c'∧W.heap.size≤g∧Rd w' (some ⟨g,0,none⟩) 32 (u8s cm.enc)∧Below W.heap.size W w'):=fun W=>by
     refine(zxn cm hcok hch W).mono ?_;rintro e w' ⟨A',c',rfl,hc',ho,hB⟩;obtain⟨g,rfl,hg,_,hr⟩:=zcl ho om;exact⟨g,c',rfl,hc',hg,hr,hB⟩
    have HNX:=qh (zge (cs:=cs) (ss:=ss) (n:=k+1) (m:=m) (i:=i) om hci hsi);have hPl:=HHL.out m hm;have hel:=Cm.enc_len hcok;have hfl:=HFL.out;obtain⟨F,hF⟩:=ex9 (fil ss k);rw[show k+1-1=k from rfl,←hF]at HNX;rw[←hF]at HKP hfl;obtain⟨P,hPP⟩:=ex9 (hst cs ss (k+1) m);rw[←hPP]at hb hPl HNX;have hal:=hsok.2.2.2.2.1;have hbtl:=ziv (s:=s) (m:=m) (f:=F) (P:=P) hcok (by have:=HLL.out;omega) hPl;have HBT:Hid (betaOf cm s F m P=if m=0 then Ch.turn s.stream (cm.enc++List.replicate (240-F.length-32) 0)++F else Ch.turn s.stream (cm.enc++((P.drop 32).take 16++(P.drop 48).take 192))):=rfl;have HNX2:Hid (hst cs ss (k+1) (m+1)=s.alpha++((Mc.tag s.mac (s.alpha++betaOf cm s F m P)).take 16++betaOf cm s F m P)):=HNX.out;obtain⟨BT,hBT⟩:=ex9 (betaOf cm s F m P);rw[←hBT]at HBT HNX2 hbtl;have hFl2:F.length=L:=by rw[hfl,HLL.out]
    have HS1:=qh (zvn (P:=P) hal);have HS2:=qh (w_beta (b:=BT) hPl hal hbtl);have HS3:=qh (w_tag (t0:=(P.drop 32).take 16) (t:=(Mc.tag s.mac (s.alpha++BT)).take 16) (b:=BT) hal (by simp[hPl]) (by rw[List.length_take,Mc.tag_len];rfl));have hx2l:(s.alpha++((P.drop 32).take 16++BT)).length=288:=by simp[hal,hPl,hbtl]
    have HSH:Hid (∀(W:World) (gl:Nat),Wrote w3.heap.size W9 W→Blk W gl 22 [.slice (some ⟨w3.heap.size,0,none⟩) 32 32,.slice (some ⟨w3.heap.size,48,none⟩) 240 240]→Blk W w3.heap.size 32 (u8s (s.alpha++((P.drop 32).take 16++BT)))→Calls Tryz.prog 81 #[.slice (some ⟨b2,off2+i*192,none⟩) 32 32,.slice (some ⟨gl,0,none⟩) 2 2] W fun e w'=>∃g,e=.returned (.slice (some ⟨g,0,none⟩) 16 16)∧W.heap.size≤g∧Blk w' g 5 (u8s ((Mc.tag s.mac (s.alpha++BT)).take 16))∧Below W.heap.size W w'):=fun W gl hW h1 h2=>by
     have e1:((u8s (s.alpha++((P.drop 32).take 16++BT))).drop 0).take 32=u8s s.alpha:=by rw[List.drop_zero,zaz,List.take_left' hal]
     have e2:((u8s (s.alpha++((P.drop 32).take 16++BT))).drop 48).take 240=u8s BT:=by
      rw[zbd,zaz,←as9,List.drop_left' (by simp[hal,hPl]),tk (by rw[hbtl];exact lr)]
     have h5:=zpx (some ⟨b2,off2+i*192,none⟩) 32 32 s.mac (some ⟨gl,0,none⟩) 2 2 [s.alpha,BT] W (HKM.out W hW) om om (RdB.of_blk h1 ⟨.of_blk h2 0 32 32 s.alpha (by rw[zaa,hx2l];omega) om e1,.of_blk h2 48 240 240 BT (by rw[zaa,hx2l];omega) om e2,trivial⟩) om (by simp[hal,hbtl]);rw[show [s.alpha,BT].flatten=s.alpha++BT by simp]at h5;exact h5
    have HAL:=qh hal;have HX2:=qh hx2l;have HTL:Hid ((u8s ((Mc.tag s.mac (s.alpha++BT)).take 16)).length=16):=by show _=_;rw[zaa,List.length_take,Mc.tag_len];rfl
    have HBL:=qh hbtl;have HPL:=qh hPl;have HP:=qh hb;have HW:=qh hW;have HEL:=qh hel;have HFL2:=qh hFl2;have HI:Hid (i+m=k):=by show _=_;omega
    clear hci hsi hcok hsok hch q1 q2 q3 q4 q5 hrg hPl hel hfl hF hPP hal hbtl hBT hFl2 hx2l hb hW HNX hi
    by_cases hm0:m=0
    · subst hm0
      obtain rfl:i=k:=HI.out;have heq:((i:Int) == (i:Int))=true:=by simp
      rw[if_pos rfl]at HBT;obtain⟨Z,hZ⟩:=ex9 (240-L-32);have hZI:(240:Int)-(L:Int)-32=(Z:Int):=om;obtain⟨M,hM⟩:=ex9 (240-L);have HML:Hid (M+L=240):=by show _=_;omega
      have hM240:M≤240:=om;have hM0:32≤M:=om;have hZ2:Z≤240:=om;have HZM:Hid (32+Z=M):=by show _=_;omega
      rw[HFL2.out,←hZ]at HBT
      have HT:Hid (∀(W:World) (gl g1 gz c1:Nat),Wrote w3.heap.size W9 W→Blk W gl 22 [.slice (some ⟨g1,0,none⟩) 32 c1,.slice (some ⟨gz,0,none⟩) Z Z]→Rd W (some ⟨g1,0,none⟩) 32 (u8s cm.enc)→32≤c1→Blk W gz 5 (u8s (List.replicate Z 0))→Calls Tryz.prog 43 #[.slice (some ⟨b2,off2+i*192+32,none⟩) 32 32,.slice (some ⟨gl,0,none⟩) 2 2] W fun e w'=>∃g c',e=.returned (.tuple #[.slice (some ⟨g,0,none⟩) M c',.int .i64 0])∧M≤c'∧W.heap.size≤g∧Rd w' (some ⟨g,0,none⟩) M (u8s (Ch.turn s.stream (cm.enc++List.replicate Z 0)))∧Below W.heap.size W w'):=fun W gl g1 gz c1 hW h1 h2 h3 h4=>by
       refine(zpk (some ⟨b2,off2+i*192+32,none⟩) 32 s.stream (some ⟨gl,0,none⟩) 2 2 [cm.enc,List.replicate Z 0] (cm.enc++List.replicate Z 0) M W (HKS.out W hW) (RdB.of_blk h1 ⟨.of_rd h2 h3,.of_blk h4 0 Z Z _ (by rw[zaa,lp9];omega) lr (by rw[List.drop_zero,tk (by rw[zaa,lp9];omega)]),trivial⟩) om sy (by rw[la9,HEL.out,lp9];exact HZM.out) om).mono ?_;rintro e w' ⟨A',c',rfl,hc',ho,hB⟩;obtain⟨g,rfl,hg,_,hr⟩:=zcl ho om;exact⟨g,c',rfl,hc',hg,hr,hB⟩
      have HJ:Hid (∀(W:World) (gl g2 c2:Nat),Blk W gl 22 [.slice (some ⟨g2,0,none⟩) M c2,.slice A7 L c7]→Rd W (some ⟨g2,0,none⟩) M (u8s (Ch.turn s.stream (cm.enc++List.replicate Z 0)))→M≤c2→Rd W A7 L (u8s F)→Calls Tryz.prog 42 #[.slice (some ⟨gl,0,none⟩) 2 2] W fun e w'=>∃g c',e=.returned (.slice (some ⟨g,0,none⟩) 240 c')∧W.heap.size≤g∧Rd w' (some ⟨g,0,none⟩) 240 (u8s BT)∧Below W.heap.size W w'):=fun W gl g2 c2 h1 h2 h3 h4=>by
       refine(zev _ 2 2 [Ch.turn s.stream (cm.enc++List.replicate Z 0),F] W (RdB.of_blk h1 ⟨.of_rd h2 h3,.of_rd h4 hc7,trivial⟩) om BT 240 (by rw[HBT.out];simp) HBL.out om).mono ?_;rintro e w' ⟨A',c',rfl,hc',ho,hB⟩;obtain⟨g,rfl,hg,_,hr⟩:=zcl ho om;exact⟨g,c',rfl,hg,hr,hB⟩
      have hg3:=HP.out.lt;clear hZ hM
      go_upto_region 20 with (first
       | (go_at_call 85;(with_reducible refine(HEN.out _).mono ?_);rintro e w1 ⟨g1,c1,rfl,hc1,hg1,hr1,hB1⟩;have HR1:=qh hr1;have HW1:=qh (HW.out.then hB1);have HP1:=qbl HP hB1;have hs1:=hB1.size;clear hr1 hB1)
       | (refine zao rfl (.tmp 61) (.tmp 61) 22 rfl 5 (.int .u8 0) 1 Tryz.underlying22 iU8 rfl .i64 .i64 (Z:Int) (Z:Int) rr rr Z Z rfl rfl om om om ?_;intro w2 hb2 hgr2 hs2;have HZ2:Hid (Blk w2 w1.heap.size 5 (u8s (List.replicate Z 0))):=(by show Blk _ _ _ _;rw[show u8s (List.replicate Z 0)=rep Z (.int .u8 0) from zkc Z];exact hb2);have hB2:=zaf hgr2;have HW2:=qh (HW1.out.then hB2);have HP2:=qbl HP1 hB2;have HR2:=qh (HR1.out.below hB2);have hs2a:=Nat.le_of_eq hs2.symm;clear hb2 hgr2 hB2 hs2)
       | (go_at_call 43;(with_reducible refine(HT.out _ _ _ _ _ (by exact HW2.out.alloc _) (by exact Blk.new' rfl rfl) (by exact HR2.out.alloc _) (by exact hc1) (by exact HZ2.out.alloc _)).mono ?_);rintro e w4 ⟨g4,c4,rfl,hc4,hg4,hr4,hB4⟩;have HW4:=qh ((HW2.out.alloc _).then hB4);have HP4:=qh ((HP2.out.alloc _).below hB4 (by simp;have:=HP2.out.lt;omega));have HR4:=qh hr4;have hs4:=hB4.size;have HF4:=qh (HKP.out _ HW4.out).2.2.1;clear hr4 hB4)
       | (go_at_call 42;(with_reducible refine(HJ.out _ _ _ _ (by exact Blk.new' rfl rfl) (by exact HR4.out.alloc _) (by exact hc4) (by exact HF4.out.alloc _)).mono ?_);rintro e w5 ⟨g5,c5,rfl,hg5,hr5,hB5⟩;have HWT:=qh ((HW4.out.alloc _).then hB5);have HPT:=qh ((HP4.out.alloc _).below hB5 (by simp;have:=HP4.out.lt;omega));have HBTR:=qh hr5;have hg5w:w3.heap.size<g5:=(by have:=HP4.out.lt;simp at hg5;omega);clear hr5 hB5))
      go_wp2_with (first
       | refine wpList_load_mid rfl 23 (.tmp 103) rfl b2 (off2+i*192+128) rr (u8s s.alpha) _ (HKA.out _ HWT.out) Tryz.underlying23 rfl (by rw[zaa,HAL.out];exact hd24) ?_
       | (refine zbv rfl 23 (.tmp 105) (.tmp 104) rfl w3.heap.size 0 (u8s s.alpha) rr rr 32 (u8s P) HPT.out (by rw[zaa,HAL.out];exact hd24) (zac _) (by rw[zaa,zaa,HAL.out,HPL.out];omega) ?_;intro w6 hb6 ho6;rw[HS1.out]at hb6;have HP6:=qh hb6;have HW6:=qh (HWT.out.only ho6);have HB6:=qh (ho6.rd HBTR.out (fun ad e=>by injection e with e;subst e;show g5≠w3.heap.size;omega));clear hb6 ho6)
       | (refine za7 rfl (.tmp 107) (.tmp 108) 22 rfl 5 Tryz.underlying22 zbz w3.heap.size 48 240 240 rr (some ⟨g5,0,none⟩) 240 c5 rr 32 _ HP6.out (u8s BT) HB6.out (zac _) (by rw[zaa,la9,List.length_drop,HAL.out,HPL.out];exact lr) ?_;intro w7 hb7 ho7;rw[HS2.out]at hb7;have HP7:=qh hb7;have HW7:=qh (HW6.out.only ho7);clear hb7 ho7))
      have hg7:=HP7.out.lt
      go_region_held3 (fun _=>True) (trivial) ((first|(go_at_call 81;(refine(HSH.out _ _ (by repeat (first|exact HW7.out|apply Wrote.drew|apply Wrote.alloc)) (by repeat (first|exact Blk.new' sy rfl|apply Blk.drew|apply Blk.alloc)) (by repeat (first|exact HP7.out|apply Blk.drew|apply Blk.alloc))).mono ?_);rintro e w8 ⟨g8,rfl,hg8,hb8,hB8⟩;have HB8:=qh hb8;have HW8:Wrote w3.heap.size W9 w8:=Wrote.then (by repeat (first|exact HW7.out|apply Wrote.drew|apply Wrote.alloc)) hB8;have HP8:Hid (Blk w8 w3.heap.size 32 (u8s (s.alpha++((P.drop 32).take 16++BT)))):=Blk.below (by repeat (first|exact HP7.out|apply Blk.drew|apply Blk.alloc)) hB8 (by simp;omega))| (refine zbx rfl (.tmp 111) (.tmp 123) 22 rfl 5 Tryz.underlying22 zbz w3.heap.size 32 16 16 rr (some ⟨g8,0,none⟩) 16 16 rr 32 _ HP8.out (u8s ((Mc.tag s.mac (s.alpha++BT)).take 16)) (by have h9:=HB8.out.rdAll;rw[List.length_take,Mc.tag_len]at h9;exact h9) (zac _) (by rw[zaa,HX2.out];omega) ?_;intro w10 hb10 ho10)))
      rw[HS3.out]at hb10;have HP10:=qh hb10;have HW10:=qh (HW8.only ho10);clear hb10 ho10
      go_wp2_with fail
      go_roundg (i+1-(0+1))
      case measure=>have:=HGK.out;omega
      case rel=>exact⟨0+1,by have:=HI.out;omega,rfl,by have:=HI.out;first|go_num|(congr 1;omega),by rw[HNX2.out];exact HP10.out,HW10.out⟩
    · have heq:((i:Int) == (k:Int))=false:=by have:=HI.out;rw[beq_eq_false_iff_ne];omega
      rw[if_neg hm0]at HBT
      have HT:Hid (∀(W:World) (gl g1 c1:Nat),Wrote w3.heap.size W9 W→Blk W gl 22 [.slice (some ⟨g1,0,none⟩) 32 c1,.slice (some ⟨w3.heap.size,32,none⟩) 16 16,.slice (some ⟨w3.heap.size,48,none⟩) 192 240]→Rd W (some ⟨g1,0,none⟩) 32 (u8s cm.enc)→32≤c1→Blk W w3.heap.size 32 (u8s P)→Calls Tryz.prog 43 #[.slice (some ⟨b2,off2+i*192+32,none⟩) 32 32,.slice (some ⟨gl,0,none⟩) 3 3] W fun e w'=>∃g c',e=.returned (.tuple #[.slice (some ⟨g,0,none⟩) 240 c',.int .i64 0])∧W.heap.size≤g∧Rd w' (some ⟨g,0,none⟩) 240 (u8s BT)∧Below W.heap.size W w'):=fun W gl g1 c1 hW h1 h2 h3 h4=>by
       rw[HBT.out];refine(zpk (some ⟨b2,off2+i*192+32,none⟩) 32 s.stream (some ⟨gl,0,none⟩) 3 3 [cm.enc,(P.drop 32).take 16,(P.drop 48).take 192] (cm.enc++((P.drop 32).take 16++(P.drop 48).take 192)) 240 W (HKS.out W hW) (RdB.of_blk h1 ⟨.of_rd h2 h3,.of_blk h4 32 16 16 _ (by rw[zaa,HPL.out];omega) om (by rw[zbd,zaz]),.of_blk h4 48 192 240 _ (by rw[zaa,HPL.out];omega) om (by rw[zbd,zaz]),trivial⟩) om sy (by simp[HEL.out,HPL.out]) om).mono ?_;rintro e w' ⟨A',c',rfl,hc',ho,hB⟩;obtain⟨g,rfl,hg,_,hr⟩:=zcl ho om;exact⟨g,c',rfl,hg,hr,hB⟩
      have hg3:=HP.out.lt
      go_upto_region 19 with (first|(go_at_call 85;(with_reducible refine(HEN.out _).mono ?_);rintro e w1 ⟨g1,c1,rfl,hc1,hg1,hr1,hB1⟩;have HR1:=qh hr1;have HW1:=qh (HW.out.then hB1);have HP1:=qbl HP hB1;have hs1:=hB1.size;clear hr1 hB1))
      go_region_held3 (fun _=>True) (trivial) ((go_at_call 43;(refine(HT.out _ _ _ _ (by repeat (first|exact HW1.out|apply Wrote.drew|apply Wrote.alloc)) (by repeat (first|exact Blk.new' sy rfl|apply Blk.drew|apply Blk.alloc)) (by repeat (first|exact HR1.out|apply Rd.drew|apply Rd.alloc)) (by exact hc1) (by repeat (first|exact HP1.out|apply Blk.drew|apply Blk.alloc))).mono ?_);rintro e w5 ⟨g5,c5,rfl,hg5,hr5,hB5⟩;have HWT0:Wrote w3.heap.size W9 w5:=Wrote.then (by repeat (first|exact HW1.out|apply Wrote.drew|apply Wrote.alloc)) hB5;have HPT0:Blk w5 w3.heap.size 32 (u8s P):=Blk.below (by repeat (first|exact HP1.out|apply Blk.drew|apply Blk.alloc)) hB5 (by have:=HP1.out.lt;simp;omega);have hg5w:w3.heap.size<g5:=(by have:=HP1.out.lt;simp at hg5;omega)))
      have HWT:=qh HWT0;have HPT:=qh HPT0;have HBTR:=qh hr5;clear HWT0 HPT0 hr5 hB5
      go_wp2_with (first
       | refine wpList_load_mid rfl 23 (.tmp 103) rfl b2 (off2+i*192+128) rr (u8s s.alpha) _ (HKA.out _ HWT.out) Tryz.underlying23 rfl (by rw[zaa,HAL.out];exact hd24) ?_
       | (refine zbv rfl 23 (.tmp 105) (.tmp 104) rfl w3.heap.size 0 (u8s s.alpha) rr rr 32 (u8s P) HPT.out (by rw[zaa,HAL.out];exact hd24) (zac _) (by rw[zaa,zaa,HAL.out,HPL.out];omega) ?_;intro w6 hb6 ho6;rw[HS1.out]at hb6;have HP6:=qh hb6;have HW6:=qh (HWT.out.only ho6);have HB6:=qh (ho6.rd HBTR.out (fun ad e=>by injection e with e;subst e;show g5≠w3.heap.size;omega));clear hb6 ho6)
       | (refine za7 rfl (.tmp 107) (.tmp 108) 22 rfl 5 Tryz.underlying22 zbz w3.heap.size 48 240 240 rr (some ⟨g5,0,none⟩) 240 c5 rr 32 _ HP6.out (u8s BT) HB6.out (zac _) (by rw[zaa,la9,List.length_drop,HAL.out,HPL.out];exact lr) ?_;intro w7 hb7 ho7;rw[HS2.out]at hb7;have HP7:=qh hb7;have HW7:=qh (HW6.out.only ho7);clear hb7 ho7))
      have hg7:=HP7.out.lt
      go_region_held3 (fun _=>True) (trivial) ((first|(go_at_call 81;(refine(HSH.out _ _ (by repeat (first|exact HW7.out|apply Wrote.drew|apply Wrote.alloc)) (by repeat (first|exact Blk.new' sy rfl|apply Blk.drew|apply Blk.alloc)) (by repeat (first|exact HP7.out|apply Blk.drew|apply Blk.alloc))).mono ?_);rintro e w8 ⟨g8,rfl,hg8,hb8,hB8⟩;have HB8:=qh hb8;have HW8:Wrote w3.heap.size W9 w8:=Wrote.then (by repeat (first|exact HW7.out|apply Wrote.drew|apply Wrote.alloc)) hB8;have HP8:Hid (Blk w8 w3.heap.size 32 (u8s (s.alpha++((P.drop 32).take 16++BT)))):=Blk.below (by repeat (first|exact HP7.out|apply Blk.drew|apply Blk.alloc)) hB8 (by simp;omega))| (refine zbx rfl (.tmp 111) (.tmp 123) 22 rfl 5 Tryz.underlying22 zbz w3.heap.size 32 16 16 rr (some ⟨g8,0,none⟩) 16 16 rr 32 _ HP8.out (u8s ((Mc.tag s.mac (s.alpha++BT)).take 16)) (by have h9:=HB8.out.rdAll;rw[List.length_take,Mc.tag_len]at h9;exact h9) (zac _) (by rw[zaa,HX2.out];omega) ?_;intro w10 hb10 ho10)))
      rw[HS3.out]at hb10;have HP10:=qh hb10;have HW10:=qh (HW8.only ho10);clear hb10 ho10
      go_wp2_with fail
      go_roundg (k+1-(m+1))
      case measure=>have:=HGK.out;omega
      case rel=>exact⟨m+1,by have:=HI.out;omega,rfl,by have:=HI.out;first|go_num|(congr 1;omega),by rw[HNX2.out];exact HP10.out,HW10.out⟩
  · obtain rfl:m=k+1:=om
    rw[show(k:Int)-((k+1:Nat):Int)=-1 by omega];have HP:=qh hb;obtain⟨q1,q2,_,_,_⟩:=HKP.out wr hW;have HQ1:=qh q1;have HQ2:=qh q2;have HLN:=qh (HHL.out (k+1) lr);obtain⟨P,hPP⟩:=ex9 (hst cs ss (k+1) (k+1));have HPE:=qh hPP;rw[←hPP]at hb HLN HP;have hPl:(u8s P).length=288:=by rw[zaa,HLN.out]
    have hld:=hd_ld hb hPl;have HPL:=qh hPl;clear hb hW q1 q2 hPl hlt hPP
    go_wp2_with (refine zab rfl 32 (.tmp 4) (.tmp 125) rfl w.heap.size (u8s P) rr rr 32 _ HQ2.out (by rw[HPL.out];exact hd34) (zac _) (by rw[HPL.out,zst]) ?_;intro w8 hb8 ho8;have HB8:=qh hb8;have HE8:=qh (ho8.below HQ1.out lr HQ1.out.size);clear hb8 ho8)
    exact bodyPost_ret (zak rfl _ _ _ _ rfl HB8.out _ Tryz.underlying32 rfl (by rw[HPL.out];exact hd34)) rfl ⟨by rw[HPE.out];rfl,HE8.out⟩
end
end Go.Proofs.YtpgpaenloaphaaaGreat
