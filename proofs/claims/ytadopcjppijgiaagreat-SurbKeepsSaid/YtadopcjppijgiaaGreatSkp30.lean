/- Part of the proof. -/
import Derived.Test.YtadopcjppijgiaaGreatSkp29
set_option linter.all false
set_option maxRecDepth 100000
set_option maxHeartbeats 0
namespace Go.Proofs.YtadopcjppijgiaaGreat
open Go.RowKit
section
attribute [local go_sem ↓] zch zsy
theorem zv8(A B:Option Addr)(k c d:Nat)(cs:List Cm)(ss:List Sp)(w:World)(h1:RdS 20 w A (k+1) (cs.flatMap Cm.cells))(h2:RdS 192 w B (k+1) (ss.flatMap Sp.cells))(f0:∀c∈cs,c.ok)(e9:∀s∈ss,s.ok)
 (hcl:cs.length=k+1) (hsl:ss.length=k+1) (hd:k+1≤d) (he:berr cs (k+1)=0):
 Calls Tryz.prog 22 #[.slice A (k+1) c,.slice B (k+1) d] w fun e w'=>e=.returned (.tuple #[.agg (u8s (hst cs ss (k+1) (k+1))).toArray,.int .i64 0])∧Below w.heap.size w w':=by
 obtain⟨n3,o5,p8,j8⟩:=zl1 he;have hk:k≤4:=om
 have l3:Hid (∀W,Below w.heap.size w W→Calls Tryz.prog 46 #[.slice A (k+1) c,.int .i64 ((k:Int)+1)] W fun e w'=>e=.returned (.int .i64 0)∧Below W.heap.size W w'):=fun W hB=>by
  have h5:=zv9 A (k+1) c (k+1) cs W (h1.bel hB lr) f0 hcl om om;rw[he]at h5;exact h5
 obtain⟨L,hL⟩:=ex9 (48*k)
 have l6:Hid (∀W,Below w.heap.size w W→Calls Tryz.prog 47 #[.slice B (k+1) d] W fun e w'=>∃A' c',e=.returned (.tuple #[.slice A' L c',.int .i64 0])∧L≤c'∧w'.ownsRow W.heap.size 5 1 (.slice A' L c') L (u8s (fil ss k))∧Below W.heap.size W w'):=fun W hB=>by
  rw[hL];exact zp0 B k d ss W (h2.bel hB lr) e9 hsl hk hd
 have m7:=qh j8;have l5:=qh f0;have i2:=qh e9;have p6:=qh hcl;have p3:=qh hsl;have a8:=qh h1;have e7:=qh h2;have n9:=qh (zkh ss k om);have l1:=qh (fun m hm=>zfy (n:=k+1) f0 e9 hcl hsl o5 m hm);have f9:Hid (Below w.heap.size w (w.alloc (.cells Tryz.zeroCells31 31))):=(Below.refl _ w).alloc lr _;have l7:Hid (Blk (w.alloc (.cells Tryz.zeroCells31 31)) w.heap.size 31 (u8s z288)):=Blk.new' rfl zc34';have n5:¬((k:Int)+1<1):=om;have m1:=qh hL;have r0:L≤192:=om;clear h1 h2 f0 e9 hcl hsl j8 he n3 p8 hL
 go_enter Tryz.func22, Tryz.ntmps22
 go_wp2_with (first|(go_at_call 46;(with_reducible refine(l3.o _ (by exact f9.o)).mono ?_);rintro e w1 ⟨rfl,D⟩;have i1:=qh (f9.o.trans (D.mono sy));have m6:=qbl l7 D;clear D)| (go_at_call 47;(with_reducible refine(l6.o _ (by exact i1.o)).mono ?_);rintro e w3 ⟨A7,c7,rfl,m9,c0,g0⟩;have i0:=qtr i1 g0;have i3:=qbl m6 g0;have i4:=qh (Rd.of_own c0);clear c0 g0))
 obtain⟨W9,b1⟩:=ex9 (w3.alloc (.cells Tryz.zeroCells31 31));have i7:=i0.o.size;have p9:=i3.o.lt;have f8:Hid (Below w.heap.size w W9):=by rw[b1];exact i0.o.alloc i7 _
 have m3:Hid (Blk W9 w.heap.size 31 (u8s z288)):=by rw[b1];exact i3.o.alloc _
 have i6:Hid (Blk W9 w3.heap.size 31 (u8s (hst cs ss (k+1) 0))):=by rw[b1];exact Blk.new' rfl zc34'
 have k7:Hid (Rd W9 A7 L (u8s (fil ss k))):=by rw[b1];exact i4.o.alloc _
 have m0:Hid (0<L→∀ad:Addr,A7=some ad→ad.block≠w3.heap.size):=i4.o.apart lr;rw[←b1]
 have e0:Hid (∀W,Wrote w3.heap.size W9 W→Below w.heap.size w W∧Blk W w.heap.size 31 (u8s z288)∧Rd W A7 L (u8s (fil ss k))∧RdS 20 W A (k+1) (cs.flatMap Cm.cells)∧RdS 192 W B (k+1) (ss.flatMap Sp.cells)):=fun W hW=>by
  have hB:Below w.heap.size w W:=hW.below f8.o i7 f8.o.size;exact⟨hB,m3.o.wrote hW om,k7.o.wrote hW m0.o,a8.o.bel hB lr,e7.o.bel hB lr⟩
 clear b1 i4 i3 i0 i1 m6 l3 l6 f9 l7 k7 m0 m3 f8 a8 e7 n5
 go_loopg [10] (k+1) (fun kk q wr=>∃m:Nat,m≤k+1∧kk=k+1-m∧q=.int .i64 ((k:Int)-(m:Int))∧Blk wr w3.heap.size 31 (u8s (hst cs ss (k+1) m))∧Wrote w3.heap.size W9 wr)
 case atStart=>exact⟨0,by omega,rfl,by go_num,i6.o,Wrote.refl _ _⟩
 case round =>
  clear i6;obtain⟨m,hm,m4,rfl,hb,hW⟩:=hrel;have k1:=qh m4;clear m4
  by_cases hlt:m<k+1
  · obtain⟨i,hi⟩:=ex9 (k-m)
    rw[show(k:Int)-(m:Int)=(i:Int) by omega];have r4:(0:Int)≤(i:Int):=om;have r7:(i:Int)<(k:Int)+1:=om;obtain⟨cm,c9⟩:∃c,cs[i]? = some c:=⟨_,ge9 (by rw[p6.o];omega)⟩;obtain⟨s,b7⟩:∃s,ss[i]? = some s:=⟨_,ge9 (by rw[p3.o];omega)⟩;have X:=l5.o cm (mg9 c9);have G:=i2.o s (mg9 b7);have l8:=(m7.o i cm c9).1;obtain⟨q1,q2,q3,q4,q5⟩:=e0.o wr hW;obtain⟨b,k5,rfl,r2,m5⟩:=zkm q4 l5.o c9 om;obtain⟨b2,r,rfl,_,_⟩:=zfa q5 i2.o b7 om
    have d8:Hid (∀W,Wrote w3.heap.size W9 W→b2<W.heap.size∧W.rangeAt b2 (r+i*192) s.cells):=fun W hW=>by
     obtain⟨_,_,_,_,p5⟩:=e0.o W hW;obtain⟨b3,q0,e3,h3,h4⟩:=zfa p5 i2.o b7 om
     injection e3 with e3
     injection e3 with e4 e5
     subst e4;subst e5;exact⟨h3,h4⟩
    have n1:Hid (∀W,Wrote w3.heap.size W9 W→Rd W (some ⟨b2,r+i*192,none⟩) 32 (u8s s.mac)):=fun W hW=>by
     have h5:=zez (d8.o W hW).2 (d8.o W hW).1 0 32 (by rw[Sp.bytes_len G];omega)
     rwa [Sp.at_mac G,Nat.add_zero]at h5
    have j5:Hid (∀W,Wrote w3.heap.size W9 W→Rd W (some ⟨b2,r+i*192+32,none⟩) 32 (u8s s.stream)):=fun W hW=>by
     have h5:=zez (d8.o W hW).2 (d8.o W hW).1 32 32 (by rw[Sp.bytes_len G];omega)
     rwa [Sp.at_stream G]at h5
    have j2:Hid (∀W,Wrote w3.heap.size W9 W→W.rangeAt b2 (r+i*192+128) (u8s s.alpha)):=fun W hW j v hv=>by
     have h5:=(d8.o W hW).2 (128+j) v (by
      rw[←Sp.at_alpha G,u8s_getElem?,List.getElem?_take]at hv
      split at hv
      · rw[Sp.cells,u8s_getElem?];rwa [List.getElem?_drop]at hv
      · cases hv)
     rwa [←Nat.add_assoc]at h5
    have n2:(ldAt 63 (.pointer (some ⟨b,k5+i*20,none⟩))).run Tryz.prog wr=.ok (.agg cm.cells.toArray) wr:=run_loadAt_mid wr b (k5+i*20) 63 cm.cells _ m5 Tryz.underlying63 rfl (by rw[Cm.cells_len X];exact hd76c)
    have k2:Hid (∀W,Calls Tryz.prog 48 #[.agg cm.cells.toArray] W fun e w'=>∃g c',e=.returned (.tuple #[.slice (some ⟨g,0,none⟩) 32 c',.int .i64 0])∧32≤c'∧W.heap.size≤g∧Rd w' (some ⟨g,0,none⟩) 32 (u8s cm.enc)∧Below W.heap.size W w'):=fun W=>by
     refine(zzd cm X l8 W).mono ?_;rintro e w' ⟨A',c',rfl,c3,ho,hB⟩;obtain⟨g,rfl,hg,_,hr⟩:=zco ho om;exact⟨g,c',rfl,c3,hg,hr,hB⟩
    have f1:=qh (zgr (cs:=cs) (ss:=ss) (n:=k+1) (m:=m) (i:=i) om c9 b7);have E:=l1.o m hm;have l0:=Cm.enc_len X;have h6:=n9.o;obtain⟨F,hF⟩:=ex9 (fil ss k);rw[show k+1-1=k from rfl,←hF]at f1;rw[←hF]at e0 h6;obtain⟨P,a9⟩:=ex9 (hst cs ss (k+1) m);rw[←a9]at hb E f1;have V:=G.2.2.2.2.1;have I:=zjf (s:=s) (m:=m) (f:=F) (P:=P) X (by have:=m1.o;omega) E;have b4:Hid (betaOf cm s F m P=if m=0 then Ch.turn s.stream (cm.enc++List.replicate (240-F.length-32) 0)++F else Ch.turn s.stream (cm.enc++((P.drop 32).take 16++(P.drop 48).take 192))):=rfl;have d9:Hid (hst cs ss (k+1) (m+1)=s.alpha++((Mc.tag s.mac (s.alpha++betaOf cm s F m P)).take 16++betaOf cm s F m P)):=f1.o;obtain⟨BT,k9⟩:=ex9 (betaOf cm s F m P);rw[←k9]at b4 d9 I;have f6:F.length=L:=by rw[h6,m1.o]
    have i9:=qh (zw1 (P:=P) V);have k0:=qh (w_beta (b:=BT) E V I);have k4:=qh (w_tag (t0:=(P.drop 32).take 16) (t:=(Mc.tag s.mac (s.alpha++BT)).take 16) (b:=BT) V (by simp[E]) (by rw[List.length_take,Mc.tag_len];rfl));have a6:(s.alpha++((P.drop 32).take 16++BT)).length=288:=by simp[V,E,I]
    have l2:Hid (∀(W:World) (gl:Nat),Wrote w3.heap.size W9 W→Blk W gl 22 [.slice (some ⟨w3.heap.size,0,none⟩) 32 32,.slice (some ⟨w3.heap.size,48,none⟩) 240 240]→Blk W w3.heap.size 31 (u8s (s.alpha++((P.drop 32).take 16++BT)))→Calls Tryz.prog 50 #[.slice (some ⟨b2,r+i*192,none⟩) 32 32,.slice (some ⟨gl,0,none⟩) 2 2] W fun e w'=>∃g,e=.returned (.slice (some ⟨g,0,none⟩) 16 16)∧W.heap.size≤g∧Blk w' g 5 (u8s ((Mc.tag s.mac (s.alpha++BT)).take 16))∧Below W.heap.size W w'):=fun W gl hW h1 h2=>by
     have e1:((u8s (s.alpha++((P.drop 32).take 16++BT))).drop 0).take 32=u8s s.alpha:=by rw[List.drop_zero,zay,List.take_left' V]
     have e2:((u8s (s.alpha++((P.drop 32).take 16++BT))).drop 48).take 240=u8s BT:=by
      rw[za9,zay,←as9,List.drop_left' (by simp[V,E]),tk (by rw[I];exact lr)]
     have h5:=zqx (some ⟨b2,r+i*192,none⟩) 32 32 s.mac (some ⟨gl,0,none⟩) 2 2 [s.alpha,BT] W (n1.o W hW) om om (RdB.of_blk h1 ⟨.of_blk h2 0 32 32 s.alpha (by rw[zaa,a6];omega) om e1,.of_blk h2 48 240 240 BT (by rw[zaa,a6];omega) om e2,trivial⟩) om (by simp[V,I]);rw[show [s.alpha,BT].flatten=s.alpha++BT by simp]at h5;exact h5
    have Y:=qh V;have m2:=qh a6;have r5:Hid ((u8s ((Mc.tag s.mac (s.alpha++BT)).take 16)).length=16):=by show _=_;rw[zaa,List.length_take,Mc.tag_len];rfl
    have o0:=qh I;have J:=qh E;have HP:=qh hb;have HW:=qh hW;have k3:=qh l0;have j0:=qh f6;have HI:Hid (i+m=k):=by show _=_;omega
    clear c9 b7 X G l8 q1 q2 q3 q4 q5 m5 E l0 h6 hF a9 V I k9 f6 a6 hb hW f1 hi
    by_cases hm0:m=0
    · subst hm0
      obtain rfl:i=k:=HI.o;have o3:((i:Int) == (i:Int))=true:=by simp
      rw[if_pos rfl]at b4;obtain⟨Z,hZ⟩:=ex9 (240-L-32);have q8:(240:Int)-(L:Int)-32=(Z:Int):=om;obtain⟨M,hM⟩:=ex9 (240-L);have r1:Hid (M+L=240):=by show _=_;omega
      have o9:M≤240:=om;have q9:32≤M:=om;have q7:Z≤240:=om;have o2:Hid (32+Z=M):=by show _=_;omega
      rw[j0.o,←hZ]at b4
      have HT:Hid (∀(W:World) (gl g1 gz c1:Nat),Wrote w3.heap.size W9 W→Blk W gl 22 [.slice (some ⟨g1,0,none⟩) 32 c1,.slice (some ⟨gz,0,none⟩) Z Z]→Rd W (some ⟨g1,0,none⟩) 32 (u8s cm.enc)→32≤c1→Blk W gz 5 (u8s (List.replicate Z 0))→Calls Tryz.prog 49 #[.slice (some ⟨b2,r+i*192+32,none⟩) 32 32,.slice (some ⟨gl,0,none⟩) 2 2] W fun e w'=>∃g c',e=.returned (.tuple #[.slice (some ⟨g,0,none⟩) M c',.int .i64 0])∧M≤c'∧W.heap.size≤g∧Rd w' (some ⟨g,0,none⟩) M (u8s (Ch.turn s.stream (cm.enc++List.replicate Z 0)))∧Below W.heap.size W w'):=fun W gl g1 gz c1 hW h1 h2 h3 h4=>by
       refine(zqj (some ⟨b2,r+i*192+32,none⟩) 32 s.stream (some ⟨gl,0,none⟩) 2 2 [cm.enc,List.replicate Z 0] (cm.enc++List.replicate Z 0) M W (j5.o W hW) (RdB.of_blk h1 ⟨.of_rd h2 h3,.of_blk h4 0 Z Z _ (by rw[zaa,lp9];omega) lr (by rw[List.drop_zero,tk (by rw[zaa,lp9];omega)]),trivial⟩) om sy (by rw[la9,k3.o,lp9];exact o2.o) om).mono ?_;rintro e w' ⟨A',c',rfl,c3,ho,hB⟩;obtain⟨g,rfl,hg,_,hr⟩:=zco ho om;exact⟨g,c',rfl,c3,hg,hr,hB⟩
      have HJ:Hid (∀(W:World) (gl g2 c2:Nat),Blk W gl 22 [.slice (some ⟨g2,0,none⟩) M c2,.slice A7 L c7]→Rd W (some ⟨g2,0,none⟩) M (u8s (Ch.turn s.stream (cm.enc++List.replicate Z 0)))→M≤c2→Rd W A7 L (u8s F)→Calls Tryz.prog 36 #[.slice (some ⟨gl,0,none⟩) 2 2] W fun e w'=>∃g c',e=.returned (.slice (some ⟨g,0,none⟩) 240 c')∧W.heap.size≤g∧Rd w' (some ⟨g,0,none⟩) 240 (u8s BT)∧Below W.heap.size W w'):=fun W gl g2 c2 h1 h2 h3 h4=>by
       refine(zef _ 2 2 [Ch.turn s.stream (cm.enc++List.replicate Z 0),F] W (RdB.of_blk h1 ⟨.of_rd h2 h3,.of_rd h4 m9,trivial⟩) om BT 240 (by rw[b4.o];simp) o0.o om).mono ?_;rintro e w' ⟨A',c',rfl,c3,ho,hB⟩;obtain⟨g,rfl,hg,_,hr⟩:=zco ho om;exact⟨g,c',rfl,hg,hr,hB⟩
      have n4:=HP.o.lt;clear hZ hM
      go_upto_region 20 with (first
       | (go_at_call 48;(with_reducible refine(k2.o _).mono ?_);rintro e w1 ⟨g1,c1,rfl,g9,n7,b9,D⟩;have a8:=qh b9;have f2:=qh (HW.o.then D);have b5:=qbl HP D;have o7:=D.size;clear b9 D)
       | (refine zaj rfl (.tmp 61) (.tmp 61) 22 rfl 5 (.int .u8 0) 1 Tryz.underlying22 iU8 rfl .i64 .i64 (Z:Int) (Z:Int) rr rr Z Z rfl rfl om om om ?_;intro w2 k6 f3 j3;have n6:Hid (Blk w2 w1.heap.size 5 (u8s (List.replicate Z 0))):=(by show Blk _ _ _ _;rw[show u8s (List.replicate Z 0)=rep Z (.int .u8 0) from zk0 Z];exact k6);have e8:=zad f3;have j1:=qh (f2.o.then e8);have j7:=qbl b5 e8;have e7:=qh (a8.o.below e8);have q6:=Nat.le_of_eq j3.symm;clear k6 f3 e8 j3)
       | (go_at_call 49;(with_reducible refine(HT.o _ _ _ _ _ (by exact j1.o.alloc _) (by exact Blk.new' rfl rfl) (by exact e7.o.alloc _) (by exact g9) (by exact n6.o.alloc _)).mono ?_);rintro e w4 ⟨g4,c4,rfl,o1,r6,l9,e6⟩;have j6:=qh ((j1.o.alloc _).then e6);have g7:=qh ((j7.o.alloc _).below e6 (by simp;have:=j7.o.lt;omega));have n0:=qh l9;have r3:=e6.size;have o6:=qh (e0.o _ j6.o).2.2.1;clear l9 e6)
       | (go_at_call 36;(with_reducible refine(HJ.o _ _ _ _ (by exact Blk.new' rfl rfl) (by exact n0.o.alloc _) (by exact o1) (by exact o6.o.alloc _)).mono ?_);rintro e w5 ⟨g5,c5,rfl,i5,d3,a4⟩;have d0:=qh ((j6.o.alloc _).then a4);have h7:=qh ((g7.o.alloc _).below a4 (by simp;have:=g7.o.lt;omega));have d5:=qh d3;have j9:w3.heap.size<g5:=(by have:=g7.o.lt;simp at i5;omega);clear d3 a4))
      go_wp2_with (first
       | refine wpList_load_mid rfl 27 (.tmp 103) rfl b2 (r+i*192+128) rr (u8s s.alpha) _ (j2.o _ d0.o) Tryz.underlying27 rfl (by rw[zaa,Y.o];exact hd24) ?_
       | (refine zbw rfl 27 (.tmp 105) (.tmp 104) rfl w3.heap.size 0 (u8s s.alpha) rr rr 31 (u8s P) h7.o (by rw[zaa,Y.o];exact hd24) (zac _) (by rw[zaa,zaa,Y.o,J.o];omega) ?_;intro w6 a3 a2;rw[i9.o]at a3;have h0:=qh a3;have h8:=qh (d0.o.only a2);have g3:=qh (a2.rd d5.o (fun ad e=>by injection e with e;subst e;show g5≠w3.heap.size;omega));clear a3 a2)
       | (refine zav rfl (.tmp 107) (.tmp 108) 22 rfl 5 Tryz.underlying22 zbk w3.heap.size 48 240 240 rr (some ⟨g5,0,none⟩) 240 c5 rr 31 _ h0.o (u8s BT) g3.o (zac _) (by rw[zaa,la9,List.length_drop,Y.o,J.o];exact lr) ?_;intro w7 a5 c6;rw[k0.o]at a5;have a1:=qh a5;have b6:=qh (h8.o.only c6);clear a5 c6))
      have o4:=a1.o.lt
      go_region_held3 (fun _=>True) (trivial) ((first|(go_at_call 50;(refine(l2.o _ _ (by repeat (first|exact b6.o|apply Wrote.drew|apply Wrote.alloc)) (by repeat (first|exact Blk.new' sy rfl|apply Blk.drew|apply Blk.alloc)) (by repeat (first|exact a1.o|apply Blk.drew|apply Blk.alloc))).mono ?_);rintro e w8 ⟨g8,rfl,p7,a7,d7⟩;have d4:=qh a7;have g6:Wrote w3.heap.size W9 w8:=Wrote.then (by repeat (first|exact b6.o|apply Wrote.drew|apply Wrote.alloc)) d7;have f7:Hid (Blk w8 w3.heap.size 31 (u8s (s.alpha++((P.drop 32).take 16++BT)))):=Blk.below (by repeat (first|exact a1.o|apply Blk.drew|apply Blk.alloc)) d7 (by simp;omega))| (refine zbs rfl (.tmp 111) (.tmp 123) 22 rfl 5 Tryz.underlying22 zbk w3.heap.size 32 16 16 rr (some ⟨g8,0,none⟩) 16 16 rr 31 _ f7.o (u8s ((Mc.tag s.mac (s.alpha++BT)).take 16)) (by have h9:=d4.o.rdAll;rw[List.length_take,Mc.tag_len]at h9;exact h9) (zac _) (by rw[zaa,m2.o];omega) ?_;intro p0 U a0)))
      rw[k4.o]at U;have d6:=qh U;have c8:=qh (g6.only a0);clear U a0
      go_wp2_with fail
      go_roundg (i+1-(0+1))
      case measure=>have:=k1.o;omega
      case rel=>exact⟨0+1,by have:=HI.o;omega,rfl,by have:=HI.o;first|go_num|(congr 1;omega),by rw[d9.o];exact d6.o,c8.o⟩
    · have o3:((i:Int) == (k:Int))=false:=by have:=HI.o;rw[beq_eq_false_iff_ne];omega
      rw[if_neg hm0]at b4
      have HT:Hid (∀(W:World) (gl g1 c1:Nat),Wrote w3.heap.size W9 W→Blk W gl 22 [.slice (some ⟨g1,0,none⟩) 32 c1,.slice (some ⟨w3.heap.size,32,none⟩) 16 16,.slice (some ⟨w3.heap.size,48,none⟩) 192 240]→Rd W (some ⟨g1,0,none⟩) 32 (u8s cm.enc)→32≤c1→Blk W w3.heap.size 31 (u8s P)→Calls Tryz.prog 49 #[.slice (some ⟨b2,r+i*192+32,none⟩) 32 32,.slice (some ⟨gl,0,none⟩) 3 3] W fun e w'=>∃g c',e=.returned (.tuple #[.slice (some ⟨g,0,none⟩) 240 c',.int .i64 0])∧W.heap.size≤g∧Rd w' (some ⟨g,0,none⟩) 240 (u8s BT)∧Below W.heap.size W w'):=fun W gl g1 c1 hW h1 h2 h3 h4=>by
       rw[b4.o];refine(zqj (some ⟨b2,r+i*192+32,none⟩) 32 s.stream (some ⟨gl,0,none⟩) 3 3 [cm.enc,(P.drop 32).take 16,(P.drop 48).take 192] (cm.enc++((P.drop 32).take 16++(P.drop 48).take 192)) 240 W (j5.o W hW) (RdB.of_blk h1 ⟨.of_rd h2 h3,.of_blk h4 32 16 16 _ (by rw[zaa,J.o];omega) om (by rw[za9,zay]),.of_blk h4 48 192 240 _ (by rw[zaa,J.o];omega) om (by rw[za9,zay]),trivial⟩) om sy (by simp[k3.o,J.o]) om).mono ?_;rintro e w' ⟨A',c',rfl,c3,ho,hB⟩;obtain⟨g,rfl,hg,_,hr⟩:=zco ho om;exact⟨g,c',rfl,hg,hr,hB⟩
      have n4:=HP.o.lt
      go_upto_region 19 with (first|(go_at_call 48;(with_reducible refine(k2.o _).mono ?_);rintro e w1 ⟨g1,c1,rfl,g9,n7,b9,D⟩;have a8:=qh b9;have f2:=qh (HW.o.then D);have b5:=qbl HP D;have o7:=D.size;clear b9 D))
      go_region_held3 (fun _=>True) (trivial) ((go_at_call 49;(refine(HT.o _ _ _ _ (by repeat (first|exact f2.o|apply Wrote.drew|apply Wrote.alloc)) (by repeat (first|exact Blk.new' sy rfl|apply Blk.drew|apply Blk.alloc)) (by repeat (first|exact a8.o|apply Rd.drew|apply Rd.alloc)) (by exact g9) (by repeat (first|exact b5.o|apply Blk.drew|apply Blk.alloc))).mono ?_);rintro e w5 ⟨g5,c5,rfl,i5,d3,a4⟩;have f4:Wrote w3.heap.size W9 w5:=Wrote.then (by repeat (first|exact f2.o|apply Wrote.drew|apply Wrote.alloc)) a4;have f5:Blk w5 w3.heap.size 31 (u8s P):=Blk.below (by repeat (first|exact b5.o|apply Blk.drew|apply Blk.alloc)) a4 (by have:=b5.o.lt;simp;omega);have j9:w3.heap.size<g5:=(by have:=b5.o.lt;simp at i5;omega)))
      have d0:=qh f4;have h7:=qh f5;have d5:=qh d3;clear f4 f5 d3 a4
      go_wp2_with (first
       | refine wpList_load_mid rfl 27 (.tmp 103) rfl b2 (r+i*192+128) rr (u8s s.alpha) _ (j2.o _ d0.o) Tryz.underlying27 rfl (by rw[zaa,Y.o];exact hd24) ?_
       | (refine zbw rfl 27 (.tmp 105) (.tmp 104) rfl w3.heap.size 0 (u8s s.alpha) rr rr 31 (u8s P) h7.o (by rw[zaa,Y.o];exact hd24) (zac _) (by rw[zaa,zaa,Y.o,J.o];omega) ?_;intro w6 a3 a2;rw[i9.o]at a3;have h0:=qh a3;have h8:=qh (d0.o.only a2);have g3:=qh (a2.rd d5.o (fun ad e=>by injection e with e;subst e;show g5≠w3.heap.size;omega));clear a3 a2)
       | (refine zav rfl (.tmp 107) (.tmp 108) 22 rfl 5 Tryz.underlying22 zbk w3.heap.size 48 240 240 rr (some ⟨g5,0,none⟩) 240 c5 rr 31 _ h0.o (u8s BT) g3.o (zac _) (by rw[zaa,la9,List.length_drop,Y.o,J.o];exact lr) ?_;intro w7 a5 c6;rw[k0.o]at a5;have a1:=qh a5;have b6:=qh (h8.o.only c6);clear a5 c6))
      have o4:=a1.o.lt
      go_region_held3 (fun _=>True) (trivial) ((first|(go_at_call 50;(refine(l2.o _ _ (by repeat (first|exact b6.o|apply Wrote.drew|apply Wrote.alloc)) (by repeat (first|exact Blk.new' sy rfl|apply Blk.drew|apply Blk.alloc)) (by repeat (first|exact a1.o|apply Blk.drew|apply Blk.alloc))).mono ?_);rintro e w8 ⟨g8,rfl,p7,a7,d7⟩;have d4:=qh a7;have g6:Wrote w3.heap.size W9 w8:=Wrote.then (by repeat (first|exact b6.o|apply Wrote.drew|apply Wrote.alloc)) d7;have f7:Hid (Blk w8 w3.heap.size 31 (u8s (s.alpha++((P.drop 32).take 16++BT)))):=Blk.below (by repeat (first|exact a1.o|apply Blk.drew|apply Blk.alloc)) d7 (by simp;omega))| (refine zbs rfl (.tmp 111) (.tmp 123) 22 rfl 5 Tryz.underlying22 zbk w3.heap.size 32 16 16 rr (some ⟨g8,0,none⟩) 16 16 rr 31 _ f7.o (u8s ((Mc.tag s.mac (s.alpha++BT)).take 16)) (by have h9:=d4.o.rdAll;rw[List.length_take,Mc.tag_len]at h9;exact h9) (zac _) (by rw[zaa,m2.o];omega) ?_;intro p0 U a0)))
      rw[k4.o]at U;have d6:=qh U;have c8:=qh (g6.only a0);clear U a0
      go_wp2_with fail
      go_roundg (k+1-(m+1))
      case measure=>have:=k1.o;omega
      case rel=>exact⟨m+1,by have:=HI.o;omega,rfl,by have:=HI.o;first|go_num|(congr 1;omega),by rw[d9.o];exact d6.o,c8.o⟩
  · obtain rfl:m=k+1:=om
    rw[show(k:Int)-((k+1:Nat):Int)=-1 by omega];have HP:=qh hb;obtain⟨q1,q2,_,_,_⟩:=e0.o wr hW;have j4:=qh q1;have p4:=qh q2;have k8:=qh (l1.o (k+1) lr);obtain⟨P,a9⟩:=ex9 (hst cs ss (k+1) (k+1));have p1:=qh a9;rw[←a9]at hb k8 HP;have E:(u8s P).length=288:=by rw[zaa,k8.o]
    have n2:=hd_ld hb E;have J:=qh E;clear hb hW q1 q2 E hlt a9
    go_wp2_with (refine zab rfl 31 (.tmp 4) (.tmp 125) rfl w.heap.size (u8s P) rr rr 31 _ p4.o (by rw[J.o];exact hd34) (zac _) (by rw[J.o,ztt]) ?_;intro w8 a7 i8;have d4:=qh a7;have m8:=qh (i8.below j4.o lr j4.o.size);clear a7 i8)
    exact bodyPost_ret (zak rfl _ _ _ _ rfl d4.o _ Tryz.underlying31 rfl (by rw[J.o];exact hd34)) rfl ⟨by rw[p1.o];rfl,m8.o⟩
end
