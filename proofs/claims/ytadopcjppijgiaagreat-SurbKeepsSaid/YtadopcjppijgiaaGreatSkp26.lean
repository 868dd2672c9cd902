/- Part of the proof. -/
import Derived.Lib.AppendZerosOnto
import Derived.Test.YtadopcjppijgiaaGreatSkp25
set_option linter.all false
set_option maxRecDepth 100000
set_option maxHeartbeats 0
namespace Go.Proofs.YtadopcjppijgiaaGreat
open Go.RowKit
theorem agI64(w:World):(isAgg 3).run Tryz.prog w=.ok false w:=by kernel_rfl
def flC(key:List UInt8)(used:Int):List Value:=u8s key++[.int .i64 used]
theorem zvy(A:Option Addr)(c:Nat)(r:List UInt8)(w:World)(h:Rd w A 32 (u8s r)):
 Calls Tryz.prog 79 #[.slice A 32 c] w fun e w'=>e=.returned (.tuple #[.pointer (some ⟨w.heap.size,0,none⟩),.int .i64 0])∧Blk w' w.heap.size 181 (flC r 0)∧Below w.heap.size w w':=by
 have HR:=qh h;have HT:Hid ((u8s r).take 32=u8s r):=tk (by rw[zaa,h.len];exact lr)
 have G:Hid (splice (flC (List.replicate 32 0) 0) 0 (u8s r)=flC r 0):=by
  show _=_
  unfold flC
  unfold splice
  rw[List.take_zero,List.nil_append,Nat.zero_add,List.drop_left' (by rw[zaa,zaa,h.len,lp9])]
 clear h
 go_enter Tryz.func79, Tryz.ntmps79
 go_wp2_with (refine zav rfl (.tmp 13) (.tmp 14) 22 rfl 5 Tryz.underlying22 zbk w.heap.size 0 32 32 rr A 32 c rr 181 (flC (List.replicate 32 0) 0) (by exact Blk.new' rfl rfl) (u8s r) (by exact HR.o.alloc _) (zac _) (by exact Nat.le_of_ble_eq_true rfl) ?_;intro w2 D E;rw[HT.o,G.o]at D;have J:=qh D;have I:=qh (E.below ((Below.refl _ _).alloc lr _) lr sy);clear D E)
 go_ret2;exact⟨rfl,J.o,I.o⟩
theorem zkg(r:List UInt8)(u:Int)(hk:r.length=32):(flC r u)[32]? = some (.int .i64 u):=by
 unfold flC
 rw[ar9 (by rw[zaa,hk];exact lr),zaa,hk]
 rfl
theorem zy7(r:List UInt8)(u v:Int)(hk:r.length=32):(flC r u).set 32 (.int .i64 v)=flC r v:=by
 unfold flC
 rw[List.set_append_right _ _ (by rw[zaa,hk];exact lr),zaa,hk]
 rfl
theorem zy9(r:List UInt8)(u:Int)(hk:r.length=32):((flC r u).drop 0).take 32=u8s r:=by
 unfold flC
 rw[List.drop_zero,List.take_append_of_le_length (by rw[zaa,hk];exact lr),tk (by rw[zaa,hk];exact lr)]
theorem zy8(r:List UInt8)(u:Int)(hk:r.length=32):(flC r u).length=33:=by
 unfold flC
 rw[la9,zaa,hk]
 rfl
theorem zs7(g:Nat)(A:List UInt8)(r n:Nat)(w:World)(hb:Blk w g 181 (flC A (r:Int)))(hk:A.length=32)(Y:r+n≤65536):
 Calls Tryz.prog 100 #[.pointer (some ⟨g,0,none⟩),.int .i64 n] w fun e w'=>∃A' c',e=.returned (.tuple #[.slice A' n c',.int .i64 0])∧n≤c'∧w'.ownsRow w.heap.size 5 1 (.slice A' n c') n (u8s (Ch.piece A r n))∧Blk w' g 181 (flC A ((r+n:Nat):Int))∧Wrote g w w':=by
 have HB:=qh hb;have HK:=qh hk;have I:w.cell? ⟨g,32,none⟩=some (.int .i64 r):=by rw[hb.cell];exact zkg A _ hk
 have HP:Hid (∀W,Rd W (some ⟨g,0,none⟩) 32 (u8s A)→Calls Tryz.prog 99 #[.slice (some ⟨g,0,none⟩) 32 32,.int .i64 r,.int .i64 n] W fun e w'=>∃A' c',e=.returned (.slice A' n c')∧n≤c'∧w'.ownsRow W.heap.size 5 1 (.slice A' n c') n (u8s (Ch.piece A r n))∧Below W.heap.size W w'):=fun W h=>zld _ 32 A r n W h om om
 have HR:Hid (∀W,Blk W g 181 (flC A r)→Rd W (some ⟨g,0,none⟩) 32 (u8s A)):=fun W h=>by
  have h6:=h.rd 0 32 (by rw[zy8 _ _ hk];omega)
  rwa [zy9 _ _ hk]at h6
 have a1:¬(n:Int)<0:=om;have V:¬(65536:Int)<(n:Int):=om;have X:¬(65536:Int)-(r:Int)<(n:Int):=om;clear hb hk
 go_enter Tryz.func100, Tryz.ntmps100
 go_wp2_with fail
 have hT:w.drew.cell? ⟨g,32,none⟩=some (.int .i64 r):=I;refine kgo kr 9 (fun w'=>w'.cell? ⟨g,32,none⟩=some (.int .i64 r)) hT (fun _ _ _ _ _ h=>h) ?_;refine kp 0 (.pointer (some ⟨g,0,none⟩)) rfl kr (fun _=>kr) ?_;refine kp 1 (.pointer (some ⟨g,0,none⟩)) rfl kr (fun _=>kr) ?_;refine kp 2 (.pointer (some ⟨g,0,none⟩)) rfl kr (fun _=>kr) ?_;refine kp 3 (.slice (some ⟨g,0,none⟩) 32 32) rfl kr (fun _=>kr) ?_;refine kp 4 (.pointer (some ⟨g,0,none⟩)) rfl kr (fun _=>kr) ?_;refine kp 5 (.pointer (some ⟨g,0,none⟩)) rfl kr (fun _=>kr) ?_;refine kp 6 (.pointer (some ⟨g,32,none⟩)) rfl kr (fun _=>kr) ?_;refine kl 7 (.int .i64 r) rfl kr (fun w' hw'=>za0 (t:=3) (x:=.tmp 26) (p:=⟨g,32,none⟩) rr kr agI64 hw') ?_;refine kp 8 (.int .i64 n) rfl kr (fun _=>kr) ?_;intro q8 q9;clear q8 q9;refine AnyK.enter 9 (d:=some 29) (f:=99) (args:=#[.slice (some ⟨g,0,none⟩) 32 32,.int .i64 r,.int .i64 n]) rr kr kr ?_;refine(HP.o _ (HR.o _ HB.o.drew)).mono ?_;rintro e w1 ⟨A',c',rfl,J,E,hB⟩;refine⟨_,rfl,fun h=>(by cases h),?_⟩;refine AnyK.val 10 (v:=.slice A' n c') rfl kr rfl kr (fun h=>(by cases h)) ?_;refine AnyK.done kr ?_;have D:Blk w1 g 181 (flC A r):=HB.o.drew.below hB HB.o.drew.lt;have a2:w1.cell? ⟨g,32,none⟩=some (.int .i64 r):=by rw[D.cell];exact zkg A _ HK.o
 have a0:=D.frozen 32;have M:=qh D;have G:=qh E;have U:Hid (Below w.heap.size w w1):=(Below.refl _ w).drew.trans hB;clear hT D E hB
 go_wp2_with fail
 go_ret2;have h5:=M.o.set_ 32 (.int .i64 ((r+n:Nat):Int));rw[zy7 _ _ _ HK.o]at h5;have h6:=zc5 G.o (Only.of_setCells w1 g 32 [.int .i64 ((r+n:Nat):Int)]) (fun k hk=>by have h9:w.heap.size≤k:=(G.o.lt k hk).1;have:=HB.o.lt;omega);have h7:=(Wrote.of_below (g:=g) U.o).setCell 32 (.int .i64 ((r+n:Nat):Int));exact⟨A',c',rfl,J,h6,h5,h7⟩
theorem zqe(x:List UInt8):Ch.xor (Ch.zeros x.length) x=x:=by
 unfold Ch.xor Ch.zeros
 induction x with
 | nil=>rfl
 | cons a x ih=>simp[List.replicate_succ,ih]
theorem zk0(n:Nat):u8s (Ch.zeros n)=rep n (.int .u8 0):=by simp[u8s,Ch.zeros,rep,u8]
def acc2(n:Nat)(x y:List UInt8):Nat→List UInt8
 | 0=>Ch.zeros n
 | 1=>x
 | _=>Ch.xor x y
theorem zts{n:Nat}{x y l:List UInt8}{i:Nat}(hx:x.length=n)(h:[x,y][i]? = some l):Ch.xor (acc2 n x y i) l=acc2 n x y (i+1):=by
 match i with
 | 0=>simp at h;subst h;subst hx;exact zqe _
 | 1=>simp at h;subst h;rfl
 | i+2=>simp at h
theorem zwf{n:Nat}{x y:List UInt8}(hx:x.length=n)(hy:y.length=n)(i:Nat):(acc2 n x y i).length=n:=by
 match i with
 | 0=>simp[acc2,Ch.zeros]
 | 1=>exact hx
 | i+2=>show(Ch.xor x y).length=n;rw[Ch.xor_len _ _ om,hx]
theorem znx(A:Option Addr)(c n:Nat)(x y:List UInt8)(w:World)(h:RdB w A 2 [x,y])(hx:x.length=n)(hy:y.length=n)(hn:n≤1000000):
 Calls Tryz.prog 78 #[.slice A 2 c] w fun e w'=>∃A' c',e=.returned (.tuple #[.slice A' n c',.int .i64 0])∧n≤c'∧w'.ownsRow w.heap.size 5 1 (.slice A' n c') n (u8s (Ch.xor x y))∧Below w.heap.size w w':=by
 have HX:=qh hx;have HY:=qh hy;have HR:=qh h;have d4:((2:Nat):Int)=2:=rfl;clear h hx hy
 go_enter Tryz.func78, Tryz.ntmps78
 go_wp2_with fail
 go_loopg [16] 2 (fun kk q wr=>∃i:Nat,i≤2∧kk=2-i∧q=.int .i64 i∧w=wr)
 case atStart=>exact⟨0,by omega,rfl,rfl,rfl⟩
 case round =>
  obtain⟨i,hi,b9,rfl,rfl⟩:=hrel;have a5:=qh b9;clear b9;obtain⟨b,a8,A1,n1,c1,l,rfl,hb,HL,d0,d6,M⟩:=HR.o.at_ (k:=0) om;have hl:l=x:=by have:=HL.o;simp at this;exact this.symm
  subst hl;obtain rfl:n1=n:=by rw[←M.len,HX.o]
  rw[Nat.add_zero]at d0;obtain rfl|rfl|rfl:i=0∨i=1∨i=2:=om
  · have a1:((0:Nat):Int)<((2:Nat):Int):=om
    clear HL M
    go_wp2_with fail
    go_roundg (2-(0+1))
    case measure=>have:=a5.o;omega
    case rel=>exact⟨0+1,by omega,rfl,by go_num,rfl⟩
  · have a1:((1:Nat):Int)<((2:Nat):Int):=om
    have d7:((1:Nat):Int)=1:=rfl;obtain⟨b2,a9,A2,n2,c2,l2,e2,_,E,I,_,D⟩:=HR.o.at_ (k:=1) om
    injection e2 with e2
    injection e2 with e2 e3
    subst e2;subst e3;have hl:l2=y:=by have:=E.o;simp at this;exact this.symm
    subst hl;obtain rfl:n2=n1:=by rw[←D.len,HY.o]
    clear HL M E D
    go_wp2_with fail
    go_roundg (2-(1+1))
    case measure=>have:=a5.o;omega
    case rel=>exact⟨1+1,by omega,rfl,by go_num,rfl⟩
  · have a1:¬((2:Nat):Int)<((2:Nat):Int):=om
    clear HL M
    go_wp2_with (refine zaj rfl (.tmp 31) (.tmp 31) 22 rfl 5 (.int .u8 0) 1 Tryz.underlying22 iU8 rfl .i64 .i64 (n1:Int) (n1:Int) rr rr n1 n1 rfl rfl om om om ?_;intro w2 V c0 c4;have a6:Hid (w2.ownsRow w.heap.size 5 1 (.slice (some ⟨w.heap.size,0,none⟩) n1 n1) n1 (u8s (acc2 n1 l y 0))):=(by have h5:=zbg V lr n1 n1 1 lr (by simp[zao]) om;rw[tk (by simp[zao])]at h5;rw[show u8s (acc2 n1 l y 0)=rep n1 (.int .u8 0) from zk0 n1];exact h5);have b1:Hid (Below w.heap.size w w2):=zad c0;clear V c0 c4)
    go_loopg [35] 2 (fun kk q wr=>∃i:Nat,i≤2∧kk=2-i∧q=.int .i64 i∧wr.ownsRow w.heap.size 5 1 (.slice (some ⟨w.heap.size,0,none⟩) n1 n1) n1 (u8s (acc2 n1 l y i))∧Below w.heap.size w wr)
    case atStart=>exact⟨0,by omega,rfl,rfl,a6.o,b1.o⟩
    case round =>
     clear a6 b1;obtain⟨i,hi,a0,rfl,r,hB⟩:=hrel;have b3:=qh a0;clear a0
     by_cases hlt:i<2
     · have b7:(i:Int)<2:=om
       obtain⟨b2,a9,A2,n2,c2,l2,e2,V,E,I,_,D⟩:=HR.o.at_ (k:=i) hlt
       injection e2 with e2
       injection e2 with e2 e3
       subst e2;subst e3;have G:=qh (zts (n:=n1) HX.o E.o);have U:=zwf HX.o HY.o i
       have J:l2.length=n1:=by
        have h6:=E.o;obtain rfl|rfl:i=0∨i=1:=om
        · simp at h6;rw[←h6];exact HX.o
        · simp at h6;rw[←h6];exact HY.o
       obtain rfl:n2=n1:=by rw[←D.len,J]
       obtain⟨X,a7⟩:=ex9 (acc2 n2 l y i);rw[←a7]at r U G;have Y:Hid (X.length=l2.length):=by show _=_;rw[U,J]
       have a2:=qh U;have b5:Hid (wr.ownsRow w.heap.size 5 1 (.slice (some ⟨w.heap.size,0,none⟩) n2 n2) n2 (u8s (mixed X l2 0))):=by show World.ownsRow _ _ _ _ _ _ _;rw[zyx];exact r
       have c9:Hid (mixed X l2 n2=acc2 n2 l y (i+1)):=by show _=_;rw[←G.o,←a2.o];exact zlo X l2 Y.o
       have a4:wr.cell? ⟨b,a8+i,none⟩=some (.slice A2 n2 c2):=(hB.cell (p:=⟨b,a8+i,none⟩) V).trans I;have b4:=qh hB;have c5:=qh D;clear E I D a7 r U G hB J
       go_wp2_with fail
       go_loopg [41] n2 (fun kk q wr=>∃j:Nat,j≤n2∧kk=n2-j∧q=.int .i64 j∧wr.ownsRow w.heap.size 5 1 (.slice (some ⟨w.heap.size,0,none⟩) n2 n2) n2 (u8s (mixed X l2 j))∧Below w.heap.size w wr)
       case atStart=>exact⟨0,by omega,rfl,rfl,b5.o,b4.o⟩
       case round =>
        clear b5 b4 a4;obtain⟨j,hj,a3,rfl,r,hB⟩:=hrel;have c8:=qh a3;clear a3
        by_cases hlt4:j<n2
        · have b6:(j:Int)<(n2:Int):=om
          obtain⟨g5,o5,v,rfl,d5,HV,cv⟩:=(c5.o.below hB).u8 hlt4;obtain⟨u,hu⟩:∃u,X[j]? = some u:=⟨_,ge9 (by rw[a2.o];exact hlt4)⟩;have HU:=qh hu;have c6:=zlm X l2 j Y.o;have cu:wr.cell? ⟨w.heap.size,j,none⟩=some (.int .u8 u.toNat):=(r.cellAt j om).trans (by rw[u8s_getElem?,zln X l2 j Y.o (by rw[a2.o];exact hlt4),hu];rfl);have fu:=r.frozenAt j;have hst:=(r.stored j (.int .u8 (u ^^^ v).toNat)).1;rw[za5,zll X l2 j Y.o hu HV.o]at hst;have d3:=qh hst;have c7:=qh (hB.setCell (p:=⟨w.heap.size,j,none⟩) lr (.int .u8 (u ^^^ v).toNat));have c3:=qh (zgw u v);clear hst r c6 hu hB
          go_wp2_with fail
          rw[c3.o];go_roundg (n2-(j+1))
          case measure=>have:=c8.o;omega
          case rel=>exact⟨j+1,by omega,rfl,by go_num,d3.o,c7.o⟩
        · obtain rfl:j=n2:=om
          have b6:¬(j:Int)<(j:Int):=om;rw[c9.o]at r;have HO:=qh r;clear r
          go_wp2_with fail
          go_roundg (2-(i+1))
          case measure=>have:=b3.o;omega
          case rel=>exact⟨i+1,by omega,rfl,by go_num,HO.o,hB⟩
     · obtain rfl:i=2:=om
       have b7:¬((2:Nat):Int)<2:=om;have HO:Hid (wr.ownsRow w.heap.size 5 1 (.slice (some ⟨w.heap.size,0,none⟩) n1 n1) n1 (u8s (Ch.xor l y))):=r;clear r
       go_wp2_with fail
       go_ret2;exact⟨_,_,rfl,lr,HO.o,hB⟩
theorem zs5(g:Nat)(D:List UInt8)(r:Nat)(A:Option Addr)(n c:Nat)(ls:List (List UInt8))(N:Nat)(w:World)(hb:Blk w g 181 (flC D (r:Int)))(hk:D.length=32)
 (hp:∀w',Wrote g w w'→RdB w' A n ls) (hn:n≤1000000) (hN:ls.flatten.length=N) (hun:r+N≤65536):
 Calls Tryz.prog 80 #[.pointer (some ⟨g,0,none⟩),.slice A n c] w fun e w'=>∃A' c',e=.returned (.tuple #[.slice A' N c',.int .i64 0])∧N≤c'∧w'.ownsRow w.heap.size 5 1 (.slice A' N c') N (u8s (Ch.xor ls.flatten (Ch.piece D r N)))∧Blk w' g 181 (flC D ((r+N:Nat):Int))∧Wrote g w w':=by
 have HK:=qh hk;have HP:=qh hp;have HN:=qh hN;have HR:=qh (hp w (Wrote.refl _ _));have c7:w.cell? ⟨g,32,none⟩=some (.int .i64 r):=by rw[hb.cell];exact zkg D _ hk
 have a3:=qh (zs7 g D r N w hb hk hun);have d5:g<w.heap.size:=hb.lt;have a4:=Ch.piece_len D r N;have a2:ls.length=n:=by obtain⟨_,_,h,_⟩:=HR.o;exact h
 have b4:=qh a2;obtain⟨S,hS⟩:=ex9 (Ch.piece D r N);rw[←hS]at a3 a4 ⊢;obtain⟨F,hF⟩:=ex9 (ls.flatten);have HF:=qh hF.symm;have a0:F.length=N:=by rw[hF];exact hN
 rw[←hF];have HX:Hid (∀W B,RdB W (some ⟨B,0,none⟩) 2 [F,S]→Calls Tryz.prog 78 #[.slice (some ⟨B,0,none⟩) 2 2] W fun e w'=>∃A' c',e=.returned (.tuple #[.slice A' N c',.int .i64 0])∧N≤c'∧w'.ownsRow W.heap.size 5 1 (.slice A' N c') N (u8s (Ch.xor F S))∧Below W.heap.size W w'):=fun W B h=>znx _ 2 N F S W h a0 a4 om
 clear hb hk hp hN hS hF a2;have V:=qh a0;clear a0
 go_enter Tryz.func80, Tryz.ntmps80
 go_wp2_with fail
 go_loop [6,13] (fun t i=>∃k:Nat,k≤n∧i=.int .i64 k∧t=.int .i64 ((ls.take k).flatten.length)) (fun _ i=>n-(intOf i).toNat)
 case atStart=>exact⟨0,Nat.zero_le _,rfl,rfl⟩
 case round =>
  obtain⟨k,a1,rfl,rfl⟩:=hrel;have b1:=zb5 ls k
  by_cases hlt:k<n
  · have a9:(k:Int)<(n:Int):=om
    obtain⟨b,d3,A1,n1,c1,l,rfl,hb,a5,hc,c8,a8⟩:=HR.o.at_ hlt;have hs:=zcu ls k l a5.o;have a7:=zb5 ls (k+1);have M:(ls.take (k+1)).flatten.length=(ls.take k).flatten.length+n1:=by rw[hs,la9,a8.len]
    have HS:=qh M;have Y:r+((ls.take k).flatten.length+n1)≤65536:=by have:=V.o;have:=congrArg List.length HF.o;omega
    clear hs M a7 b1;generalize hT:(ls.take k).flatten.length=T at *;have HT:=qh hT;clear hT;have c9:¬(65536:Int)-(r:Int)-(T:Int)<(n1:Int):=om;clear a8 a5
    go_wp2_with fail
    go_round
    case rel=>exact⟨k+1,by omega,by go_num,by rw[HS.o];go_num⟩
    case measure=>simp[intOf];omega
  · have a1:k=n:=om
    subst a1;have a9:¬(k:Int)<(k:Int):=om;rw[show(ls.take k).flatten.length=N by rw[tk (by rw[b4.o];exact lr),HF.o,V.o]];clear hlt b1
    go_wp2_with (first
     | (go_at_call 100;(with_reducible refine a3.o.mono ?_);rintro e w1 ⟨A1,c1,rfl,b7,I,Y,J⟩;have b9:=qh (HP.o w1 J);have c4:=qh I;have c5:=qh Y;have c6:=qh J;have d0:=J.size;clear I Y J)
     | (go_at_call 36;(with_reducible refine(zef A k c ls w1 (by exact b9.o) om F N (by exact HF.o) (by exact V.o) om).mono ?_);rintro e w2 ⟨A2,c2,rfl,c0,G,U⟩;have b5:=qh G;have X:=qh U;have d4:=U.size;have HQ:Hid (RdB (w2.alloc (.cells #[.slice A2 N c2,.slice A1 N c1] 22)) (some ⟨w2.heap.size,0,none⟩) 2 [F,S]):=RdB.of_blk (Blk.new w2 22 [.slice A2 N c2,.slice A1 N c1]) ⟨.of_rd ((Rd.of_own b5.o).alloc _) c0,.of_rd (((Rd.of_own c4.o).below X.o).alloc _) b7,trivial⟩;clear G U)
     | (go_at_call 78;(with_reducible refine(HX.o _ _ (by exact HQ.o)).mono ?_);rintro e w3 ⟨A3,c3,rfl,b3,E,b2⟩;have b6:=qh (zbi E (base':=w.heap.size) (by simp;omega));have a6:=qh (X.o.trans ((((Below.refl _ w2).alloc lr _).trans (b2.mono sy)).mono X.o.size));clear E b2))
    go_ret2;exact⟨A3,c3,rfl,b3,b6.o,c5.o.below a6.o om,c6.o.then a6.o⟩
theorem zqj(B:Option Addr)(d:Nat)(r:List UInt8)(A:Option Addr)(n c:Nat)(ls:List (List UInt8))(F:List UInt8)(N:Nat)(w:World)(hk:Rd w B 32 (u8s r))(h:RdB w A n ls)(hn:n≤1000000)(hF:ls.flatten=F)(hN:F.length=N)(a2:N≤65536):
 Calls Tryz.prog 49 #[.slice B 32 d,.slice A n c] w fun e w'=>∃A' c',e=.returned (.tuple #[.slice A' N c',.int .i64 0])∧N≤c'∧w'.ownsRow w.heap.size 5 1 (.slice A' N c') N (u8s (Ch.turn r F))∧Below w.heap.size w w':=by
 subst hF;have U:=qh (zvy B d r w hk);have E:=hk.len
 have HT:Hid (∀W,Blk W w.heap.size 181 (flC r 0)→Below w.heap.size w W→Calls Tryz.prog 80 #[.pointer (some ⟨w.heap.size,0,none⟩),.slice A n c] W fun e w'=>∃A' c',e=.returned (.tuple #[.slice A' N c',.int .i64 0])∧N≤c'∧w'.ownsRow W.heap.size 5 1 (.slice A' N c') N (u8s (Ch.turn r ls.flatten))∧Below w.heap.size w w'):=fun W hb hB=>by
  refine(zs5 w.heap.size r 0 A n c ls N W hb E (fun w' hw=>h.below (hw.below hB lr hB.size)) hn hN om).mono ?_;rintro e w' ⟨A',c',rfl,V,ho,_,hw⟩;refine⟨A',c',rfl,V,?_,hw.below hB lr hB.size⟩
  unfold Ch.turn
  rw[hN];exact ho
 clear hk h hN E
 go_enter Tryz.func49, Tryz.ntmps49
 go_wp2_with (first
  | (go_at_call 79;(with_reducible refine U.o.mono ?_);rintro e w1 ⟨rfl,J,G⟩;have a1:=qh J;have M:=qh G;clear J G)
  | (go_at_call 80;(with_reducible refine(HT.o w1 (by exact a1.o) (by exact M.o)).mono ?_);rintro e w2 ⟨A2,c2,rfl,a0,D,I⟩;have X:=qh (zbi D (base':=w.heap.size) M.o.size);have Y:=qh I;clear D I))
 go_ret2;exact⟨A2,c2,rfl,a0,X.o,Y.o⟩
theorem zu1{w:World}{base n c:Nat}{e:TypeId}{A:Option Addr}{xs:List Value}(h:w.ownsRow base e 1 (.slice A n c) n xs)(hn:0<n):
 ∃g cs,A=some ⟨g,0,none⟩∧base≤g∧Blk w g e (xs++cs)∧xs.length=n∧(xs++cs).length=c∧c≤maxLen:=by
 obtain⟨h1,h2⟩:=h
 rcases h2 with ⟨_,h0⟩|⟨g,G,r,hv,hb,hg,I,hm,E,D⟩
 · omega
 · injection hv with hA hn' hc
   subst hc;have hx:r.toList.take n=xs:=by simpa using D
   refine⟨g,r.toList.drop n,hA,hb,?_,by simpa using h1,?_,?_⟩
   · rw[←hx,List.take_append_drop]
     exact hg
   · rw[←hx,List.take_append_drop]
     simpa using E
   · exact hm
theorem ztu(a b:List UInt8)(i:Nat)(ha:i<a.length)(hb:i<b.length):(Ch.xor a b)[i]? = some (a.getD i 0 ^^^ b.getD i 0):=by
 simp[Ch.xor,List.getElem?_zipWith,List.getD_eq_getElem?_getD,ha,hb]
theorem zvt(X S:List UInt8)(i:Nat)(v:UInt8)(hX:X[i]? = some v)(hS:i<S.length):(X.take i++S.drop i).set i v=X.take (i+1)++S.drop (i+1):=by
 have hi:i<X.length:=(gi9.1 hX).1;rw[List.set_append_right _ _ (by simp;omega),List.length_take,Nat.min_eq_left om,Nat.sub_self,List.drop_eq_getElem_cons hS,List.set_cons_zero,List.take_add_one,hX,as9]
 rfl
section
def za48:List Value:=u8s (List.replicate 48 0)
theorem zne:za48.length=48:=rfl
theorem zca48:Builtin.zeroCells (Value.int .u8 0).cells 48=za48.toArray:=by kernel_rfl
theorem zcv{P:Program}(w:World)(t tn ty e:TypeId)(i:TypeInfo)(z:Value)(kq kn:IntKind)(ht:P.underlying t=some (.slice e))(E:P.underlying tn=some (.int kn))(hi:P.info? e=some i)(hz:i.zero=some z)
 (g sLen sCap:Nat) (cur:Array Value) (hgc:w.heap[g]? = some (.cells cur e (0,0)))
 (k:Nat) (h0:0<k) (hs:0<i.size) (news:List Value) (hnews:Builtin.zeroCells z.cells k=news.toArray) (h1:∀u∈news,u.oneCell'=true) (hroom:sLen+k≤sCap) (hfit:sLen*i.size+news.length≤cur.size) (h63:(k:Int)≤9223372036854775807) (h48:k*i.bytes≤281474976710656):
 (Builtin.append_ #[t,tn] ty #[.slice (some ⟨g,0,none⟩) sLen sCap,.int kq k]).run P w =
   .ok (.slice (some ⟨g,0,none⟩) (sLen+k) sCap) (w.setRow g (cur.toList.take (sLen*i.size)++news++cur.toList.drop (sLen*i.size+news.length)).toArray):=by
 have hk:k≠0:=om;have hw:IntKind.i64.wrap (k:Int)=k:=by rw[IntKind.wrap_i64];omega
 have A:¬(281474976710656<(k:Int)*(i.bytes:Int)):=by
  rw[←Int.natCast_mul];omega
 have r:¬((k:Int)<0):=om;have D:¬(k*i.size=0):=Nat.mul_ne_zero hk om;have hst:=run_storeCells_at P g (sLen*i.size) e news 0 cur w hgc (by simpa using hfit) h1;simp only[Nat.add_zero]at hst
 simp[Builtin.append_,run_underlying ht,run_underlying E,sizeOf,typeInfo,zeroValue,hi,hz,asInt,asIntOf,hw,hroom,r,D,A,hnews,Addr.add_lit,hst]
theorem zjp{P:Program}(w:World)(base:Nat)(t tn ty e:TypeId)(kn:IntKind)(ht:P.underlying t=some (.slice e))(M:P.underlying tn=some (.int kn))(i:TypeInfo)(hi:P.info? e=some i)(hz:i.zero=some (.int .u8 0))(X:i.size=1)(a2:i.bytes=1)
 (v:Value) (n:Nat) (xs:List Value) (hown:w.ownsRow base e 1 v n xs) (hn:n≤100000) (hbase:base≤w.heap.size):
 ∃v' w',(Builtin.append_ #[t,tn] ty #[v,.int .i64 48]).run P w=.ok v' w'∧w'.ownsRow base e 1 v' (n+48) (xs++za48)∧w.grownBy w' v.ownBlock∧(v'.ownBlock=v.ownBlock∨v'.ownBlock=some w.heap.size):=by
 have D:(xs++za48).length=(n+48)*1:=by rw[la9,hown.1,zne];omega
 have E:∀(r:Nat),r<n+48→∀(a3:Option Nat),
     (w.drew.alloc (.cells (xs.toArray++Builtin.zeroCells (Value.int .u8 0).cells 48++Builtin.zeroCells (Value.int .u8 0).cells (grownCap w (n+48) r e-(n+48))) e)).ownsRow base e 1
       (.slice (some ⟨w.heap.size,0,none⟩) (n+48) (grownCap w (n+48) r e)) (n+48) (xs++za48) ∧
     w.grownBy (w.drew.alloc (.cells (xs.toArray++Builtin.zeroCells (Value.int .u8 0).cells 48++Builtin.zeroCells (Value.int .u8 0).cells (grownCap w (n+48) r e-(n+48))) e)) a3:=by
  intro r ho a3;have a4:=grownCap_ge w (n+48) r e;have J:grownCap w (n+48) r e≤maxLen:=grownCap_le_maxLen w (n+48) r e (by simp only[maxLen];omega);refine⟨⟨D,.inr ⟨w.heap.size,_,_,rfl,hbase,heap_alloc_new w.drew _,a4,J,?_,?_⟩⟩,⟨rfl,rfl,rfl,by simp,fun k hk _=>heap_alloc_old w.drew _ hk⟩⟩
  · simp only[Array.size_append,List.size_toArray,size_zeroCells,hown.1]
    simp[Value.cells]
    omega
  · rw[zca48]
    simp only[Array.toList_append,List.append_assoc];rw[←as9,←D];exact List.take_left
 have I:((n+48:Nat):Int)≤9223372036854775807:=om
 rcases hown.2 with ⟨rfl,rfl⟩|⟨g,A,V,rfl,a5,hg,a7,J,a6,Y⟩
 · have hx:xs=[]:=List.eq_nil_of_length_eq_zero (by simpa using hown.1)
   subst hx;have hr:=Lib.run_append_grow_zeros (P:=P) w t tn ty e i (.int .u8 0) .i64 kn ht M hi hz none 0 0 [] (run_firstCells_none w.drew i.size 0 0 0) 48 om om om I om (growslice_fits om (by rw[a2];omega));have G:=E 0 om (Value.ownBlock (.slice none 0 0));exact⟨_,_,hr,G.1,G.2,Or.inr rfl⟩
 · by_cases hroom:n+48≤A
   · have a1:n*i.size+za48.length≤V.size:=by rw[zne,X,a6];omega
     have hr:=zcv (P:=P) w t tn ty e i (.int .u8 0) .i64 kn ht M hi hz g n A V hg 48 om om za48 zca48 (zac _) hroom a1 om om;refine⟨_,_,hr,⟨D,.inr ⟨g,A,_,rfl,a5,setRow_heap w g V _ e _ hg,hroom,J,?_,?_⟩⟩,⟨rfl,rfl,rfl,by simp,fun k _ hk=>setRow_other w g k _ (fun e=>hk (by simp[Value.ownBlock,e]))⟩,Or.inl rfl⟩
     · simp only[List.size_toArray,List.length_append,List.length_take,List.length_drop,Array.length_toList]
       omega
     · rw[X,Y,←D]
       exact List.take_left
   · have U:∀j u,xs[j]? = some u→w.cell? ((⟨g,0,none⟩:Addr).add j)=some u:=hown.cells (g:=g) rfl
     have a0:(Builtin.firstCells i.size n (.slice (some ⟨g,0,none⟩) n A)).run P w.drew=.ok xs.toArray w.drew:=run_firstCells_some w.drew i.size n _ n A xs (by rw[X];exact hown.1) (by simpa using U);have hr:=Lib.run_append_grow_zeros (P:=P) w t tn ty e i (.int .u8 0) .i64 kn ht M hi hz (some ⟨g,0,none⟩) n A xs a0 48 om om om I om (growslice_fits om (by rw[a2];omega));have G:=E A om (Value.ownBlock (.slice (some ⟨g,0,none⟩) n A));exact⟨_,_,hr,G.1,G.2,Or.inr rfl⟩
theorem info8m:∃i,Tryz.prog.info? 5 = some i∧i.zero=some (.int .u8 0)∧i.size=1∧i.bytes=1:=by
 have h:(Tryz.prog.info? 5).map (fun i=>(i.zero,i.size,i.bytes))=some (some (.int .u8 0),1,1):=by kernel_rfl
 cases hq:Tryz.prog.info? 5 with
 | none=>simp[hq]at h
 | some i=>simp[hq]at h;exact⟨i,rfl,h.1,h.2.1,h.2.2⟩
section
variable{w:World}{ops:Array Oper}{rest:List Oper}{o:Oper}{a:Act}{K:Act→World→Prop}{Q:Exit→Act→World→Prop}
theorem zkx(s:Operand)(ho:o.op=.call { callee:=.builtin .append,args:=#[s,.const (.int .i64 48)],argTypes:=#[22,3] })
 (base:Nat) (v:Value) (n:Nat) (xs:List Value) (hs:a.eval s=v) (hown:w.ownsRow base 5 1 v n xs) (hn:n≤100000) (hbase:base≤w.heap.size)
 (h:∀A' c' w',w'.ownsRow base 5 1 (.slice A' (n+48) c') (n+48) (xs++za48)→n+48≤c'→w.grownBy w' v.ownBlock→(Value.ownBlock (.slice A' (n+48) c')=v.ownBlock∨Value.ownBlock (.slice A' (n+48) c')=some w.heap.size)→K (a.put o.dst (.slice A' (n+48) c')) w'):o.wp Tryz.prog a w K Q:=by
 obtain⟨i,hi,hz,D,A⟩:=info8m;obtain⟨v',w',r,h2,h3,h4⟩:=zjp (P:=Tryz.prog) w base 22 3 o.type 5 .i64 Tryz.underlying22 Tryz.underlying3 i hi hz D A v n xs hown hn hbase;have E : #[s,.const (.int .i64 48)].map a.eval=#[v,.int .i64 48]:=by simp only[List.map_toArray,List.map_cons,List.map_nil,hs];rfl
 obtain⟨A',c',rfl,hc⟩:=zeq h2;refine zck (zcd .append #[s,.const (.int .i64 48)] #[22,3] ho E fun cs=>?_) (h A' c' w' h2 hc h3 h4);simp only[builtin,Sem.run_bind,r,Sem.run_pure,Result.andThen_ok]
end
end
def spr(n:Nat):Nat→List UInt8
 | 0=>[]
 | k+1=>spr n k++[UInt8.ofNat (160+(n+k)%31)]
theorem zda(n k:Nat):(spr n k).length=k:=by
 induction k with
 | zero=>rfl
 | succ k ih=>simp[spr,ih]
theorem zxa(n k i:Nat)(h:i<k):(spr n k)[i]? = some (UInt8.ofNat (160+(n+i)%31)):=by
 induction k with
 | zero=>omega
 | succ k ih =>
  unfold spr
  by_cases hik:i<k
  · rw[ll9 (by rw[zda];exact hik)]
    exact ih hik
  · obtain rfl:i=k:=om
    rw[ar9 (by rw[zda];exact lr),zda,Nat.sub_self]
    rfl
def spU(l:List UInt8)(n k:Nat):List UInt8:=l++(spr n k++List.replicate (40-k) 0)
theorem zxc(l:List UInt8)(n k:Nat)(h:k≤40):(spU l n k).length=l.length+40:=by simp[spU,zda];omega
theorem zxb(l:List UInt8)(n k:Nat)(hl:l.length=n)(h:k<40):(spU l n k).set (n+k) (UInt8.ofNat (160+(n+k)%31))=spU l n (k+1):=by
 unfold spU
 rw [List.set_append_right _ _ om,hl,Nat.add_sub_cancel_left,List.set_append_right _ _ (by rw[zda];exact lr),zda,Nat.sub_self,
   show 40-k=(40-(k+1))+1 by omega,List.replicate_succ,List.set_cons_zero,spr,as9]
 rfl
theorem zt6(l:List UInt8)(n:Nat):spU l n 0=l++List.replicate 40 0:=by simp[spU,spr]
theorem zxd(l:List UInt8)(n:Nat):spU l n 40=l++spr n 40:=by simp[spU]
theorem zg5(A:Option Addr)(n c:Nat)(l:List UInt8)(w:World)(h:Rd w A n (u8s l))(hn:n≤140737488351232):
 Calls Tryz.prog 5 #[.slice A n c] w fun e w'=>e=.returned (.tuple #[.slice (some ⟨w.heap.size,0,none⟩) n (n+40),.slice (some ⟨w.heap.size,0,none⟩) (n+40) (n+40)])∧Blk w' w.heap.size 5 (u8s (l++spr n 40))∧Below w.heap.size w w':=by
 have hl:=h.len;have HR:=qh h;have HL:=qh hl
 have a4:Hid (splice (rep (n+40) (.int .u8 0)) 0 ((u8s l).take (n+40))=u8s (spU l n 0)):=by
  show _=_
  rw[tk (by rw[zaa];omega),zt6,zae]
  unfold splice rep
  rw[List.take_zero,List.nil_append,Nat.zero_add,zaa,hl,List.drop_replicate,show n+40-n=40 by omega]
  simp[u8s,u8]
 clear h hl
 go_enter Tryz.func5, Tryz.ntmps5
 go_wp2_with (first
  | (at_make;refine zaj rfl (.tmp 8) (.tmp 8) 22 rfl 5 (.int .u8 0) 1 Tryz.underlying22 iU8 rfl .i64 .i64 ((n:Int)+40) ((n:Int)+40) rr rr (n+40) (n+40) rfl rfl om om om ?_;intro w1 Y J M;have U:=qh Y;have E:=qh (zad J);have a6:=Nat.le_of_eq M.symm;clear Y J M)
  | (refine zav rfl (.tmp 10) (.tmp 11) 22 rfl 5 Tryz.underlying22 zbk w.heap.size 0 (n+40) (n+40) rr A n c rr 5 _ U.o (u8s l) (by exact HR.o.below E.o) (zac _) (by rw[zao];omega) ?_;intro w2 D a0;rw[a4.o]at D;have V:=qh D;have G:=qh (a0.below E.o lr E.o.size);clear D a0))
 go_loopg [5] 40 (fun kk q wr=>∃k:Nat,k≤40∧kk=40-k∧q=.int .i64 ((n+k:Nat):Int)∧Blk wr w.heap.size 5 (u8s (spU l n k))∧Below w.heap.size w wr)
 case atStart=>exact⟨0,by omega,rfl,rfl,V.o,G.o⟩
 case round =>
  clear U E V G;obtain⟨k,hk,I,rfl,hb,hB⟩:=hrel;have a2:=qh I;clear I
  by_cases hlt:k<40
  · obtain⟨i,hi⟩:=ex9 (n+k)
    rw[←hi];have X:(i:Int)<(n:Int)+40:=om;obtain⟨r,hr⟩:=ex9 (i%31);have b1:(i:Int)%31=(r:Int):=om;have a7:(0:Int)≤(r:Int):=om;have a8:(r:Int)<31:=om;have a9:(0:Int)≤(i:Int):=om;have a1:=qh (zxb l n k HL.o hlt);rw[←hi,←hr]at a1;have a3:Hid ((160:Int)+(r:Int)=((UInt8.ofNat (160+r)).toNat:Int)):=by show _=_;rw[UInt8.toNat_ofNat'];omega
    obtain⟨x,hx⟩:∃x,(spU l n k)[i]? = some x:=⟨_,ge9 (by rw[zxc _ _ _ hk,HL.o];omega)⟩;have cx:wr.cell? ⟨w.heap.size,i,none⟩=some (.int .u8 x.toNat):=by rw[hb.cell,u8s_getElem?,hx];rfl
    have fx:=hb.frozen i;have D:=qh (hb.set_ i (.int .u8 (UInt8.ofNat (160+r)).toNat));rw[za5,a1.o]at D;have G:=qh (hB.setCell (p:=⟨w.heap.size,i,none⟩) lr (.int .u8 (UInt8.ofNat (160+r)).toNat));have a5:=qh hi;clear hx hb hB hr hi
    go_wp2_with fail
    rw[a3.o];go_roundg (40-(k+1))
    case measure=>have:=a2.o;omega
    case rel=>exact⟨k+1,by omega,rfl,by have:=a5.o;first|go_num|(congr 1;omega),D.o,G.o⟩
  · obtain rfl:k=40:=om
    have X:¬((n+40:Nat):Int)<(n:Int)+40:=om;rw[zxd]at hb
    go_wp2_with fail
    go_ret2;exact⟨rfl,hb,hB⟩
theorem zkc(A B:Option Addr)(n c d:Nat)(l:List UInt8)(w:World)(h:Rd w A (n+40) (u8s (l++spr n 40)))(h2:Rd w B n (u8s l))(hn:n≤140737488351232):
 Calls Tryz.prog 10 #[.slice A (n+40) c,.slice B n d] w fun e w'=>e=.returned (.bool true)∧∃q,w'=w.drewN q:=by
 have hl:=h2.len;have HR:=qh h;have HB:=qh h2;have HL:=qh hl;clear h h2 hl
 go_enter Tryz.func10, Tryz.ntmps10
 go_wp2_with fail
 go_loopg [5] (n+40) (fun kk q wr=>∃i qq:Nat,i≤n+40∧kk=n+40-i∧q=.int .i64 (i:Int)∧wr=w.drewN qq)
 case atStart=>exact⟨0,0,by omega,rfl,rfl,rfl⟩
 case round =>
  obtain⟨i,qq,hi,E,rfl,rfl⟩:=hrel;have D:=qh E;clear E
  by_cases hlt:i<n+40
  · have I:(i:Int)<(n:Int)+40:=om
    have a1:(0:Int)≤(i:Int):=om;obtain⟨b1,o1,x,rfl,a4,HX,cx⟩:=HR.o.u8 hlt
    by_cases hin:i<n
    · have J:(i:Int)<(n:Int):=om
      obtain⟨b2,o2,y,rfl,a3,HY,cy⟩:=HB.o.u8 hin
      have X:y=x:=by
       have h5:=HX.o;rw[ll9 (by rw[HL.o];exact hin),HY.o]at h5
       injection h5
      subst X;have e1:((y.toNat:Int) != (y.toNat:Int))=false:=by simp
      have M:¬(n:Int)≤(i:Int):=om;have U:decide (n≤i)=false:=decide_eq_false om;have a0:(w.drewN qq).cell? ⟨b1,o1+i,none⟩=some (.int .u8 y.toNat):=cx;have a2:(w.drewN qq).cell? ⟨b2,o2+i,none⟩=some (.int .u8 y.toNat):=cy
      go_wp2_with fail
      go_quiet (fail)
      go_wp2_with fail
      go_roundg (n+40-(i+1))
      case measure=>have:=D.o;omega
      case rel=>exact⟨i+1,qq+nq,by omega,rfl,by go_num,by first|rfl|rw[World.drewN_drewN]⟩
    · have J:¬(i:Int)<(n:Int):=om
      have M:(n:Int)≤(i:Int):=om;have U:decide (n≤i)=true:=decide_eq_true om;obtain⟨r,hr⟩:=ex9 (i%31)
      have hx:x=UInt8.ofNat (160+r):=by
       have h5:=HX.o;rw[ar9 (by rw[HL.o];omega),HL.o,zxa n 40 _ om,show n+(i-n)=i by omega]at h5
       injection h5 with h5
       rw[hr];exact h5.symm
      have G:((x.toNat:Nat):Int)=160+(r:Int):=by rw[hx,UInt8.toNat_ofNat'];omega
      have hm:(i:Int).tmod 31=(r:Int):=by rw[Int.tmod_eq_emod_of_nonneg a1];omega
      have Y:IntKind.i64.wrap ((160:Int)+(r:Int))=160+(r:Int):=IntWalk.i64_in _ om;have V:IntKind.u8.wrap ((160:Int)+(r:Int))=160+(r:Int):=by rw[IntKind.wrap_u8];omega
      rw[G]at cx;have a0:(w.drewN qq).cell? ⟨b1,o1+i,none⟩=some (.int .u8 (160+(r:Int))):=cx;have e1:((160+(r:Int)) != (160+(r:Int)))=false:=by simp
      clear hx G hr
      go_wp2_with fail
      go_quiet (fail)
      clear hm Y V
      go_wp2_with fail
      go_roundg (n+40-(i+1))
      case measure=>have:=D.o;omega
      case rel=>exact⟨i+1,qq+nq,by omega,rfl,by go_num,by first|rfl|rw[World.drewN_drewN]⟩
  · obtain rfl:i=n+40:=om
    have I:¬((n+40:Nat):Int)<(n:Int)+40:=om
    go_wp2_with fail
    go_ret;exact⟨rfl,qq,rfl⟩
