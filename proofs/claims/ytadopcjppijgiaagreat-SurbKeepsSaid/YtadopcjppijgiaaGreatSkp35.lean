/- Part of the proof. -/
import Derived.Test.YtadopcjppijgiaaGreatSkp31
import Derived.Test.YtadopcjppijgiaaGreatSkp33
set_option linter.all false
set_option maxRecDepth 100000
set_option maxHeartbeats 0
namespace Go.Proofs.YtadopcjppijgiaaGreat
open Go.RowKit
theorem zr2(r:List UInt8)(q i:Nat):Ch.piece r (64*q) (64*i+64)=Ch.piece r (64*q) (64*i)++Ch.block r (Ch.zeros 12) (UInt32.ofNat (q+i)):=by
 have h:=zi1 r (64*q) (64*i) 64 om;rw[h,show(64*q+64*i)/64=q+i by omega,show(64*q+64*i)%64=0 by omega,List.drop_zero,tk (Nat.le_of_eq (Ch.block_len _ _ _))]
theorem zlc(A:List UInt8)(p L r n:Nat)(h:r+n≤L):((Ch.piece A p L).drop r).take n=Ch.piece A (p+r) n:=by
 have e:Ch.piece A p L=Ch.piece A p r++(Ch.piece A (p+r) n++Ch.piece A (p+r+n) (L-r-n)):=by rw[←Ch.piece_add,←Ch.piece_add,show r+(n+(L-r-n))=L by omega]
 rw[e,List.drop_left' (Ch.piece_len _ _ _),List.take_left' (Ch.piece_len _ _ _)]
theorem zpn(A:List UInt8)(p L r:Nat)(h:r≤L):(Ch.piece A p L).drop r=Ch.piece A (p+r) (L-r):=by
 rw[←zlc A p L r (L-r) om,tk (by rw[List.length_drop,Ch.piece_len];exact lr)]
theorem zrt(A:Option Addr)(c:Nat)(D:List UInt8)(p n q r:Nat)(w:World)(h:Rd w A 32 (u8s D))(h0:0<n)(hn:n≤1000000)(hp:p=64*q+r)(hr:r<64)(hq:q≤1000000):
 Calls Tryz.prog 92 #[.slice A 32 c,.int .i64 p,.int .i64 n] w fun e w'=>∃A' c',e=.returned (.slice A' n c')∧n≤c'∧w'.ownsRow w.heap.size 5 1 (.slice A' n c') n (u8s (Ch.piece D p n))∧Below w.heap.size w w':=by
 have HR:=qh h;clear h;obtain⟨N,hN⟩:=ex9 (n+r);obtain⟨M,hM⟩:=ex9 ((N+63)/64);have d4:N≤64*M:=om;have e8:64*M<N+64:=om;have e6:(p:Int)/64=(q:Int):=om;have e5:(p:Int)%64=(r:Int):=om;have d8:(n:Int)+(r:Int)=(N:Int):=om;have e7:(r:Int)+(n:Int)=(N:Int):=om;have b9:=qh hp;have X:=qh hN;have e9:p≤64000063:=om;have d6:N≤1000063:=om;have d5:(r:Int)≤(N:Int):=om;clear hM hp hN
 go_enter Tryz.func92, Tryz.ntmps92
 go_wp2_with fail
 go_loopg [7,8] M (fun kk v qv wr=>∃i j L:Nat,i≤M∧j=q+i∧kk=M-i∧L=64*i∧qv=.int .i64 j∧(∃A' c',v=.slice A' L c'∧L≤c'∧wr.ownsRow w.heap.size 5 1 (.slice A' L c') L (u8s (Ch.piece D (64*q) L)))∧Below w.heap.size w wr)
 case atStart=>exact⟨0,q,0,by omega,rfl,rfl,rfl,rfl,⟨_,_,rfl,by omega,⟨rfl,.inl ⟨rfl,rfl⟩⟩⟩,Below.refl _ _⟩
 case round =>
  obtain⟨i,j,L,hi,hj,a2,hL,rfl,⟨A',c',rfl,d9,G⟩,hB⟩:=hrel;have c0:=qh a2;have HL:=qh hL;have HJ:=qh hj
  by_cases hlt:L<N
  · have b3:(L:Int)<(N:Int):=om
    have a4:j<4294967296:=om;have d3:j≤2000000:=om;have f0:i<M:=om;have e1:L≤1000000:=om
    have a6:Hid (∀W B,Rd W A 32 (u8s D)→Rd W B 12 (u8s (Ch.zeros 12))→Calls Tryz.prog 116 #[.slice A 32 c,.slice B 12 12,.int .u32 (j:Int)] W fun e w'=>∃A' c',e=.returned (.slice A' 64 c')∧64≤c'∧w'.ownsRow W.heap.size 5 1 (.slice A' 64 c') 64 (u8s (Ch.block D (Ch.zeros 12) (UInt32.ofNat j)))∧Below W.heap.size W w'):=fun W B h1 h2=>by
     have:=zmh A B c 12 D (Ch.zeros 12) (UInt32.ofNat j) W h1 h2;rw[zli j a4]at this;exact this
    have b6:Hid (Ch.piece D (64*q) (L+64)=Ch.piece D (64*q) L++Ch.block D (Ch.zeros 12) (UInt32.ofNat j)):=by show _=_;rw[hL,hj];exact zr2 D q i
    have a1:=Ch.block_len D (Ch.zeros 12) (UInt32.ofNat j);obtain⟨bl,b5⟩:=ex9 (Ch.block D (Ch.zeros 12) (UInt32.ofNat j));rw[←b5]at a6 b6 a1;have d0:=qh a1;have V:=qh hB;have c7:=qh G;clear b5 a1 a2 hL hB G hj hi
    go_wp2_with (first
     | (refine zaj rfl (.const (.int .i64 12)) (.const (.int .i64 12)) 22 rfl 5 (.int .u8 0) 1 Tryz.underlying22 iU8 rfl .i64 .i64 12 12 rr rr 12 12 rfl rfl om om om ?_;intro w1 b4 a5 c5;have a9:=qh (zad a5);have c8:Hid (Rd w1 (some ⟨wr.heap.size,0,none⟩) 12 (u8s (Ch.zeros 12))):=b4.rdAll;have b1:=qh (V.o.trans (a9.o.mono V.o.size));have b7:=qh (zas c7.o a9.o);clear b4 a5 c5)
     | (go_at_call 116;(with_reducible refine(a6.o w1 _ (by exact HR.o.below b1.o) (by exact c8.o)).mono ?_);rintro e w3 ⟨A3,c3,rfl,a8,E,I⟩;have c2:=qh (Rd.of_own E);have U:=qtr b1 I;have Y:=qh (zas b7.o I);clear E I)
     | (at_builtin;refine zah rfl (.tmp 20) (.tmp 25) 22 rfl w.heap.size 5 1 1 Tryz.underlying22 eU8 (.slice A' L c') L (u8s (Ch.piece D (64*q) L)) rr (by exact Y.o) A3 64 c3 (u8s bl) rr (by exact c2.o.toS) (zac _) om om U.o.size ?_;intro A4 c4 w4 J e0 b2 a3;have a7:=qh J;rw[←zae,←b6.o]at a7;have c6:=qh (U.o.grown b2 U.o.size (fun k hk=>(Y.o.lt k hk).1));clear J b2 a3))
    go_roundg (M-(i+1))
    case measure=>have:=c0.o;omega
    case rel=>exact⟨i+1,j+1,L+64,by omega,by have:=HJ.o;omega,rfl,by have:=HL.o;omega,by go_num,⟨A4,c4,rfl,by omega,a7.o⟩,c6.o⟩
  · have b3:¬(L:Int)<(N:Int):=om
    have e3:L≤2000000:=om;have d7:(N:Int)≤(L:Int):=om;have e4:(N:Int)≤(c':Int):=om;have e2:¬c'=r:=by have:=X.o;omega
    have c9:(r:Int)≤(c':Int):=om;have f1:N-r=n:=by have:=X.o;omega
    obtain⟨g,rfl,hg,_,hr⟩:=zco G (by have:=X.o;omega);have a0:=zix hr r n (by have:=X.o;omega);rw[Nat.zero_add,zlc _ _ _ _ _ (by have:=X.o;omega),←b9.o]at a0;have HC:Hid (∀W,Rd W (some ⟨g,r,none⟩) n (u8s (Ch.piece D p n))→Calls Tryz.prog 28 #[.slice (some ⟨g,r,none⟩) n (c'-r)] W fun e w'=>∃A' c',e=.returned (.slice A' n c')∧n≤c'∧w'.ownsRow W.heap.size 5 1 (.slice A' n c') n (u8s (Ch.piece D p n))∧Below W.heap.size W w'):=fun W h1=>zb1 _ n (c'-r) _ W h1 om
    have c1:=qh a0;have V:=qh hB;clear G hr a0 hB a2 hL hj
    go_wp2_with ((go_at_call 28;(with_reducible refine(HC.o _ (by exact c1.o)).mono ?_);rintro e w3 ⟨A3,c3,rfl,a8,E,I⟩
                  have Y:=qh (zbi E V.o.size);have U:=qtr V I
                  clear E I))
    go_ret;exact⟨A3,c3,rfl,a8,Y.o,U.o⟩
theorem zir(A:List UInt8)(hk:A.length=32)(p q r:Nat)(hp:p=64*q+r)(hr:r<64)(hq:q≤1000000)(B:Option Addr)(n d:Nat)(bs:List UInt8)(w:World)(h:Rd w B n (u8s bs))(h0:0<n)(hn:n≤1000000):
 Calls Tryz.prog 64 #[.agg (u8s A).toArray,.int .i64 p,.slice B n d] w fun e w'=>∃A' c',e=.returned (.slice A' n c')∧n≤c'∧w'.ownsRow w.heap.size 5 1 (.slice A' n c') n (u8s (Ch.xor bs (Ch.piece A p n)))∧Below w.heap.size w w':=by
 have HR:=qh h;have b4:=qh h.len;have HK:Hid (Blk (w.alloc (.cells (u8s A).toArray 27)) w.heap.size 27 (u8s A)):=Blk.new _ _ _;have HE:Hid (Below w.heap.size w (w.alloc (.cells (u8s A).toArray 27))):=(Below.refl _ w).alloc lr _
 have HY:Hid (Calls Tryz.prog 92 #[.slice (some ⟨w.heap.size,0,none⟩) 32 32,.int .i64 p,.int .i64 n] (w.alloc (.cells (u8s A).toArray 27)) fun e w'=>∃g cs c',e=.returned (.slice (some ⟨g,0,none⟩) n c')∧(u8s (Ch.piece A p n)++cs).length=c'∧n≤c'∧c'≤maxLen∧w.heap.size+1≤g∧Blk w' g 5 (u8s (Ch.piece A p n)++cs)∧Below (w.alloc (.cells (u8s A).toArray 27)).heap.size (w.alloc (.cells (u8s A).toArray 27)) w'):=by
  refine(zrt (some ⟨w.heap.size,0,none⟩) 32 A p n q r _ (HK.o.rdA hk) h0 hn hp hr hq).mono ?_;rintro e w' ⟨A',c',rfl,b2,ho,hB⟩;obtain⟨g,cs,rfl,hg,hb,hl,I,hm⟩:=zu1 ho h0;exact⟨g,cs,c',rfl,I,b2,hm,by simpa using hg,hb,hB⟩
 obtain⟨S,hS⟩:=ex9 (Ch.piece A p n);have G:Hid (S.length=n):=(by show _=_;rw[hS,Ch.piece_len]);rw[←hS]at HY ⊢;have D:Hid ((Ch.xor bs S).length=n):=(by show _=_;rw[Ch.xor_len _ _ (by rw[G.o];exact h.len),h.len]);have c0:Hid (∀i,i<n→(Ch.xor bs S)[i]? = some (bs.getD i 0 ^^^ S.getD i 0)):=fun i hi=>ztu bs S i (by rw[b4.o];exact hi) (by rw[G.o];exact hi)
 generalize Ch.xor bs S=X at *;have c2:(n:Int)≤1000000:=om;have c4:p≤64000063:=om;clear hS h HK hp hr hq
 go_enter Tryz.func64, Tryz.ntmps64
 go_wp2_with (go_at_call 92;(with_reducible refine HY.o.mono ?_);rintro e w1 ⟨g,cs,cc,rfl,I,a8,a5,hg,hb,hB⟩;have b5:=qh I;have U:=qh hb;have a9:=qtr HE hB;have HG:=qh hg;have V:=qh a8;have c1:=qh a5;clear hb hB hg a8 a5 I)
 go_loopg [8] n (fun kk q wr=>∃i:Nat,kk=n-i∧q=.int .i64 (i:Int)∧i≤n∧Blk wr g 5 (u8s (X.take i++S.drop i)++cs)∧Below w.heap.size w wr)
 case atStart=>exact⟨0,rfl,rfl,by omega,by rw[List.take_zero,List.drop_zero,List.nil_append];exact U.o,a9.o⟩
 case round =>
  clear U a9 HY HE;obtain⟨i,J,rfl,hi,hA,hE⟩:=hrel
  rcases Nat.lt_or_ge i n with E|c3
  · have b1:(i:Int)<(n:Int):=om
    obtain⟨b,off,y,rfl,a7,a0,a2⟩:=HR.o.u8 (k:=i) E;have cy:wr.cell? ⟨b,off+i,none⟩=some (.int .u8 (y.toNat:Int)):=(hE.cell a7).trans a2;obtain⟨x,hx⟩:=ex9 (S.getD i 0);have a6:y=bs.getD i 0:=by rw[gd9,a0];rfl
    have Y:(u8s (X.take i++S.drop i)++cs)[i]? = some (.int .u8 (x.toNat:Int)):=by
     rw[ll9 (by rw[zaa,la9,List.length_take,List.length_drop,D.o,G.o];omega),u8s_getElem?,ar9 (by rw[List.length_take,D.o];omega),List.length_take,D.o,Nat.min_eq_left om,Nat.sub_self,List.getElem?_drop,Nat.add_zero,ge9 (by rw[G.o];exact E),hx,gd9,ge9 (by rw[G.o];exact E)]
     rfl
    have cx:wr.cell? ⟨g,i,none⟩=some (.int .u8 (x.toNat:Int)):=(hA.cell i).trans Y;have fx:wr.drew.frozen? ⟨g,i,none⟩=false:=hA.drew.frozen i;obtain⟨v,hv⟩:=ex9 (x ^^^ y);have a3:bits .xor .u8 (x.toNat:Int) (y.toNat:Int)=(v.toNat:Int):=by rw[hv];exact zgw x y
    have b9:Hid (X[i]? = some v):=(by show _=_;rw[c0.o i E,hv,hx,a6,UInt8.xor_comm])
    have b6:Hid (Blk (wr.drew.setCell ⟨g,i,none⟩ (.int .u8 (v.toNat:Int))) g 5 (u8s (X.take (i+1)++S.drop (i+1))++cs)):=by
     have h1:=hA.drew.set_ i (.int .u8 (v.toNat:Int));rw[List.set_append_left _ _ (by rw[zaa,la9,List.length_take,List.length_drop,D.o,G.o];omega),za5,zvt X S i v b9.o (by rw[G.o];exact E)]at h1;exact h1
    have M:=qh (hE.drew.setCell (p:=⟨g,i,none⟩) (by have:=HG.o;show w.heap.size≤g;omega) (.int .u8 (v.toNat:Int)));have b3:=qh J;have a1:=qh E;have hT:wr.drew.cell? ⟨g,i,none⟩=some (.int .u8 (x.toNat:Int))∧wr.drew.cell? ⟨b,off+i,none⟩=some (.int .u8 (y.toNat:Int)):=⟨cx,cy⟩;clear hA hE J cx cy Y hx a6 hv a0 a2 a7;go_wp2;refine kgo kr 12 (fun w'=>w'.cell? ⟨g,i,none⟩=some (.int .u8 (x.toNat:Int))∧w'.cell? ⟨b,off+i,none⟩=some (.int .u8 (y.toNat:Int))) hT (fun _ _ _ _ _ h=>h) ?_;refine kp 0 (.slice (some ⟨g,0,none⟩) n cc) rfl kr (fun _=>kr) ?_;refine kp 1 (.int .i64 (i:Int)) rfl kr (fun _=>kr) ?_;refine kp 2 (.slice (some ⟨g,0,none⟩) n cc) rfl kr (fun _=>kr) ?_;refine kp 3 (.int .i64 (i:Int)) rfl kr (fun _=>kr) ?_;refine kp 4 (.pointer (some ⟨g,i,none⟩)) rfl kr (fun _=>(zby (t:=22) (e:=5) (x:=.tmp 22) (y:=.tmp 23) (g:=g) (off:=0) (n:=n) (c:=cc) (p:=i) (sz:=1) rr kr kr E kr szU8r).trans (by rw[Nat.mul_one,Nat.zero_add])) ?_;refine kl 5 (.int .u8 (x.toNat:Int)) rfl kr (fun w' hw'=>zci (t:=5) (x:=.tmp 24) (p:=⟨g,i,none⟩) rr kr agU8 hw'.1) ?_;refine kp 6 (.slice (some ⟨b,off,none⟩) n d) rfl kr (fun _=>kr) ?_;refine kp 7 (.int .i64 (i:Int)) rfl kr (fun _=>kr) ?_;refine kp 8 (.pointer (some ⟨b,off+i,none⟩)) rfl kr (fun _=>(zby (t:=22) (e:=5) (x:=.tmp 26) (y:=.tmp 27) (g:=b) (off:=off) (n:=n) (c:=d) (p:=i) (sz:=1) rr kr kr E kr szU8r).trans (by rw[Nat.mul_one])) ?_;refine kl 9 (.int .u8 (y.toNat:Int)) rfl kr (fun w' hw'=>zci (t:=5) (x:=.tmp 28) (p:=⟨b,off+i,none⟩) rr kr agU8 hw'.2) ?_;refine kp 10 (.int .u8 (v.toNat:Int)) rfl kr (fun _=>Eq.trans (b:=.ok (.value (.int .u8 (bits .xor .u8 (x.toNat:Int) (y.toNat:Int)))) _) kr (by rw[a3])) ?_;refine kp 11 (.pointer (some ⟨g,i,none⟩)) rfl kr (fun _=>(zby (t:=22) (e:=5) (x:=.tmp 20) (y:=.tmp 21) (g:=g) (off:=0) (n:=n) (c:=cc) (p:=i) (sz:=1) rr kr kr E kr szU8r).trans (by rw[Nat.mul_one,Nat.zero_add])) ?_;intro q8 q9;clear q8 q9;refine AnyK.store 12 (d:=none) (op:=.store 5 (.tmp 31) (.tmp 30)) kr (fun o ho=>zki (p:=⟨g,i,none⟩) (k:=.u8) (n:=(v.toNat:Int)) ho kr kr szU8r hT.1 fx) kr (fun h=>(by cases h)) ?_;refine AnyK.done kr ?_;clear hT fx a3;go_wp2;go_roundg (n-(i+1))
    case measure=>have:=b3.o;have:=a1.o;omega
    case rel=>exact⟨i+1,rfl,by go_num,by have:=a1.o;omega,b6.o,M.o⟩
  · obtain rfl:i=n:=om
    have b1:¬(i:Int)<(i:Int):=om;rw[tk (by rw[D.o];exact lr),List.drop_of_length_le (by rw[G.o];exact lr),List.append_nil]at hA;have a4:(u8s X++cs).length=cc:=by rw[←b5.o,la9,la9,zaa,zaa,D.o,G.o]
    have b7:Hid (wr.ownsRow w.heap.size 5 1 (.slice (some ⟨g,0,none⟩) i cc) i (u8s X)):=by
     refine⟨by rw[zaa,D.o,Nat.mul_one],.inr ⟨g,cc,(u8s X++cs).toArray,rfl,(by have:=HG.o;omega),hA,V.o,c1.o,by simpa using a4,?_⟩⟩;rw[Nat.mul_one,List.toList_toArray,List.take_append_of_le_length (by rw[zaa,D.o];exact lr),tk (by rw[zaa,D.o];exact lr)]
    have M:=qh hE;clear hA hE J a4;go_wp2;go_ret;exact⟨_,_,rfl,V.o,b7.o,M.o⟩
theorem zk5(r:List UInt8)(hk:r.length=32)(B:Option Addr)(n d:Nat)(bs:List UInt8)(w:World)(h:Rd w B n (u8s bs))(h0:0<n)(hn:n≤1000000):
 Calls Tryz.prog 64 #[.agg (u8s r).toArray,.int .i64 0,.slice B n d] w fun e w'=>∃A' c',e=.returned (.slice A' n c')∧n≤c'∧w'.ownsRow w.heap.size 5 1 (.slice A' n c') n (u8s (Ch.turn r bs))∧Below w.heap.size w w':=by
 have h5:=zir r hk 0 0 0 rfl om om B n d bs w h h0 hn;rw[←h.len]at h5 ⊢;exact h5
theorem zo9(A:Option Addr)(n c:Nat)(k:List UInt8)(A2:Option Addr)(n2 c2:Nat)(l:List UInt8)(w:World)(h:Rd w A n (u8s k))(hn:n≤100000000)(h2:Rd w A2 n2 (u8s l))(a2:n2≤10000000):
 Calls Tryz.prog 93 #[.slice A n c,.slice A2 n2 c2] w fun e w'=>∃A' c',e=.returned (.slice A' 16 c')∧16≤c'∧w'.ownsRow w.heap.size 5 1 (.slice A' 16 c') 16 (u8s ((Mc.tag k l).take 16))∧Below w.heap.size w w':=by
 have HT:=qh (zjq A n c k A2 n2 c2 l w h hn h2 a2);have D:=Mc.tag_len k l;generalize Mc.tag k l=T at *;have I:Hid ((u8s T).length=32):=by show _=_;rw[zaa,D]
 have HR:Hid (∀W g,Blk W g 27 (u8s T)→Rd W (some ⟨g,0,none⟩) 16 (u8s (T.take 16))):=fun W g hb=>by
  have h6:=hb.rd 0 16 (by rw[zaa,D];omega)
  rwa [List.drop_zero,zay]at h6
 clear h h2 D
 go_enter Tryz.func93, Tryz.ntmps93
 go_wp2_with (first
  | (go_at_call 114;(with_reducible refine HT.o.mono ?_);rintro e w1 ⟨rfl,G⟩;have X:=qh G;clear G)
  | (refine zab rfl 27 (.tmp 5) (.tmp 8) rfl w1.heap.size (u8s T) rr rr 27 (u8s (List.replicate 32 0)) (by exact Blk.new' rfl rfl) (by rw[I.o];exact hd24) (zac _) (by rw[I.o];rfl) ?_;intro w2 M U;have E:=X.o.size;have J:=qh (U.below (X.o.alloc E _) E (Nat.le_trans E sy));have Y:=qh (HR.o _ _ M);clear M U)
  | (go_at_call 28;(with_reducible refine(zb1 _ _ _ _ _ (by exact Y.o) om).mono ?_);rintro e w3 ⟨A3,c3,rfl,a3,r,V⟩;have a0:=qh (zbi r J.o.size);have a1:=qtr J V;clear r V))
 go_ret;exact⟨A3,c3,rfl,a3,a0.o,a1.o⟩
theorem zis(r:List UInt8)(hk:r.length=32)(A:Option Addr)(n c:Nat)(a:List UInt8)(B:Option Addr)(m d:Nat)(b:List UInt8)(w:World)(h:Rd w A n (u8s a))(h2:Rd w B m (u8s b))(hn:n≤1000000)(hm:m≤1000000):
 Calls Tryz.prog 65 #[.agg (u8s r).toArray,.slice A n c,.slice B m d] w fun e w'=>∃A' c',e=.returned (.slice A' 16 c')∧16≤c'∧w'.ownsRow w.heap.size 5 1 (.slice A' 16 c') 16 (u8s ((Mc.tag r (a++b)).take 16))∧Below w.heap.size w w':=by
 have HA:=qh h;have HB:=qh h2
 have a4:Hid (∀W A3 c3,Blk W w.heap.size 27 (u8s r)→Rd W A3 (n+m) (u8s (a++b))→Calls Tryz.prog 93 #[.slice (some ⟨w.heap.size,0,none⟩) 32 32,.slice A3 (n+m) c3] W fun e w'=>∃A' c',e=.returned (.slice A' 16 c')∧16≤c'∧w'.ownsRow W.heap.size 5 1 (.slice A' 16 c') 16 (u8s ((Mc.tag r (a++b)).take 16))∧Below W.heap.size W w'):=fun W A3 c3 hb hr=>by
  refine zo9 _ 32 32 r A3 (n+m) c3 (a++b) W ?_ om hr om;have h6:=hb.rd 0 32 (by rw[zaa,hk];omega)
  rwa [List.drop_zero,tk (by rw[zaa,hk];omega)]at h6
 have a0:Hid (Below w.heap.size w (w.alloc (.cells (u8s r).toArray 27)).drew):=((Below.refl _ w).alloc lr _).drew;have a7:Hid (Blk (w.alloc (.cells (u8s r).toArray 27)).drew w.heap.size 27 (u8s r)):=(Blk.new w _ _).drew;clear h h2 hk
 go_enter Tryz.func65, Tryz.ntmps65
 go_wp2_with fail
 go_region_held3 (fun _=>True) (trivial) ((first
  | (go_at_call 28;(refine(zb1 A n c a _ (by exact HA.o.below a0.o) om).mono ?_);rintro e w1 ⟨A1,c1,rfl,b1,G,I⟩;have U:=qtr a0 I;have X:=qbl a7 I;have M:=qh G;clear G I)
  | (refine zno rfl (.tmp 9) (.tmp 10) 22 rfl (w.alloc (.cells (u8s r).toArray 27)).drew.heap.size 5 1 1 Tryz.underlying22 eU8 (.slice A1 n c1) n (u8s a) rr M.o B m d (u8s b) rr (by exact(HB.o.below U.o).toS) (zac _) om om (by have h9:=X.o.lt;simp;omega) ?_;intro A2 c2 w2 D a9 J V;rw[←zae]at D;have Y:=qh (U.o.grown J U.o.size (fun k hk=>by have h9:=(M.o.lt k hk).1;simp at h9;omega));have a6:=qh (X.o.grown J (fun e=>by have h9:=(M.o.lt _ e.symm).1;simp at h9;omega));have a2:=qh (Rd.of_own D);clear D J V)
  | (go_at_call 93;(refine(a4.o _ _ _ (by exact a6.o) (by exact a2.o)).mono ?_);rintro e w3 ⟨A3,c3,rfl,a8,E,a1⟩;have a3:=qh (zbi E Y.o.size);have a5:=qtr Y a1;clear E a1)))
 go_wp2_with fail
 go_ret;exact⟨A3,c3,rfl,a8,a3.o,a5.o⟩
section
theorem hd27:(Tryz.prog.info? 106).map (·.size)=some 192:=by kernel_rfl
theorem zww(v:Value):Instr.loadAt 106 v=ldAt 106 v:=rfl
theorem zwk{w:World}{g:Nat}{t:TypeId}{C:List Value}(hb:Blk w g t C)(hl:C.length=192):(ldAt 106 (.pointer (some ⟨g,0,none⟩))).run Tryz.prog w=.ok (.agg C.toArray) w :=
 zal hb _ 0 C (by rw[List.drop_zero,tk lr]) _ Tryz.underlying106 rfl (by rw[hl];exact hd27)
attribute [local go_sem ↓] zb0 zww
end
section
theorem zx3(w:World):Rd w none 0 (u8s []):=⟨rfl,fun h=>absurd h om⟩
section
variable{w:World}{ops:Array Oper}{rest:List Oper}{o:Oper}{a:Act}{Q:Exit→Act→World→Prop}
theorem zgd(r:o.guard=none)(s:Operand)(ho:o.op=.call { callee:=.builtin .append,args:=#[s,.const (.int .i64 48)],argTypes:=#[22,3] })
 (base:Nat) (v:Value) (n:Nat) (xs:List Value) (hs:a.eval s=v) (hown:w.ownsRow base 5 1 v n xs) (hn:n≤100000) (hbase:base≤w.heap.size)
 (h:∀A' c' w',w'.ownsRow base 5 1 (.slice A' (n+48) c') (n+48) (xs++za48)→n+48≤c'→w.grownBy w' v.ownBlock→(Value.ownBlock (.slice A' (n+48) c')=v.ownBlock∨Value.ownBlock (.slice A' (n+48) c')=some w.heap.size)→wpList Tryz.prog ops Q rest (a.put o.dst (.slice A' (n+48) c')) w'):wpList Tryz.prog ops Q (o :: rest) a w :=
 zb2 r fun _ hK=>zkx s ho base v n xs hs hown hn hbase fun A' c' w' h1 h2 h3 h4=>hK _ _ (h A' c' w' h1 h2 h3 h4)
end
theorem zmd(A:Option Addr)(m c:Nat)(ss:List Sp)(w:World)(h:RdS 192 w A (m+1) (ss.flatMap Sp.cells))(hs:∀s∈ss,s.ok)(hl:ss.length=m+1)(hm:m≤4):
 Calls Tryz.prog 63 #[.slice A (m+1) c] w fun e w'=>∃A' c',e=.returned (.tuple #[.slice A' (48*m) c',.int .i64 0])∧48*m≤c'∧Rd w' A' (48*m) (u8s (fil ss m))∧Below w.heap.size w w':=by
 have HR:=qh h;have HS:=qh hs;have HL:=qh hl;obtain⟨b,a2,rfl,hb,_⟩:=h.2 om;have h1:¬((m:Int)+1=0):=om;have h5:¬((m:Int)+1>5):=om;clear h hs hl hb
 go_enter Tryz.func63, Tryz.ntmps63
 go_wp2_with fail
 go_loopg [4,5] m (fun kk v q wr=>∃k:Nat,k≤m∧kk=m-k∧q=.int .i64 k∧(∃A' c',v=.slice A' (48*k) c'∧48*k≤c'∧Hid (Rd wr A' (48*k) (u8s (fil ss k))))∧Hid (Below w.heap.size w wr))
 case atStart=>exact⟨0,by omega,rfl,rfl,⟨none,0,rfl,by omega,zx3 _⟩,Below.refl _ _⟩
 case round =>
  obtain⟨k,hk,a6,rfl,⟨A',c',rfl,J,HF⟩,HE⟩:=hrel;have b4:=qh a6;clear a6
  by_cases hlt:k<m
  · have a8:(k:Int)<(m:Int):=om
    obtain⟨s,G⟩:∃s,ss[k]? = some s:=⟨_,ge9 (by rw[HL.o];omega)⟩;have I:=HS.o s (mg9 G)
    have c1:Hid (∀W,Below w.heap.size w W→W.rangeAt b (a2+k*192+32) (u8s s.stream)):=fun W hW=>by
     obtain⟨b2,o2,e2,c9,c5⟩:=zfa (HR.o.bel hW lr) HS.o G om
     injection e2 with e2
     injection e2 with e2 e3
     subst e2;subst e3;intro j v hv
     have h5:=c5 (32+j) v (by
      rw[←Sp.at_stream I,u8s_getElem?,List.getElem?_take]at hv
      split at hv
      · rw[Sp.cells,u8s_getElem?];rwa [List.getElem?_drop]at hv
      · cases hv)
     rwa [←Nat.add_assoc]at h5
    have X:=qh I.2.1;obtain⟨L,hL⟩:=ex9 (48*k+48);obtain⟨D,hD⟩:=ex9 (288-L);have d3:(288:Int)-(L:Int)=(D:Int):=om;have c6:(288:Int)-(48*(k:Int)+48)=(D:Int):=om
    have b7:Hid (Ch.xor (fil ss k++List.replicate 48 0) (Ch.piece s.stream D L)=fil ss (k+1)):=by
     show _=_
     rw[zon G,←hL,←hD,zpn _ _ _ _ om,Nat.zero_add,show 288-D=L by omega]
    have a9:Hid (∀W A3 c3,Rd W A3 (48*k+48) (u8s (fil ss k)++za48)→Calls Tryz.prog 64 #[.agg (u8s s.stream).toArray,.int .i64 D,.slice A3 (48*k+48) c3] W fun e w'=>∃A' c',e=.returned (.slice A' L c')∧L≤c'∧Rd w' A' L (u8s (fil ss (k+1)))∧Below W.heap.size W w'):=fun W A3 c3 h3=>by
     rw[←hL]at h3 ⊢;refine(zir s.stream I.2.1 D (D/64) (D%64) om om om A3 L c3 (fil ss k++List.replicate 48 0) W (by rw[zae];exact h3) om om).mono ?_;rintro e w' ⟨A',c',rfl,J,ho,hB⟩;rw[b7.o]at ho;exact⟨A',c',rfl,J,Rd.of_own ho,hB⟩
    have b5:Hid (∀W,Rd W A' (48*k) (u8s (fil ss k))→Calls Tryz.prog 28 #[.slice A' (48*k) c'] W fun e w'=>∃A' c',e=.returned (.slice A' (48*k) c')∧48*k≤c'∧w'.ownsRow W.heap.size 5 1 (.slice A' (48*k) c') (48*k) (u8s (fil ss k))∧Below W.heap.size W w'):=fun W hW=>zb1 _ _ c' _ W hW om
    have V:Hid (L=48*k+48):=hL;generalize fil ss k=FK at *;have M:(Tryz.prog.info? 27).map (·.size)=some (u8s s.stream).length:=by rw[zaa,X.o];exact hd32
    generalize u8s s.stream=KS at *;clear G I hL hD
    go_wp2_with (first
     | (go_at_call 28;(with_reducible refine(b5.o _ (by exact HF.o)).mono ?_);rintro e w2 ⟨A2,c2,rfl,c8,r,U⟩;have a1:=qh r;have a7:=qtr HE U;have b1:=U.size;clear r U)
     | (refine zgd rfl (.tmp 23) rfl wr.heap.size (.slice A2 (48*k) c2) (48*k) _ rr (by exact a1.o) om (by exact b1) ?_;intro A3 c3 w3 E d0 Y a3;have a4:=qh (a7.o.grown Y a7.o.size (fun g hg=>Nat.le_trans HE.o.size (a1.o.lt g hg).1));have b9:=qh (Rd.of_own E);have b6:=c1.o _ a4.o;clear E Y a3)
     | (refine wpList_load_mid rfl 27 (.tmp 29) rfl b (a2+k*192+32) rr KS _ b6 Tryz.underlying27 rfl M ?_)
     | (go_at_call 64;(with_reducible refine(a9.o _ _ _ (by exact b9.o)).mono ?_);rintro e w4 ⟨A4,c4,rfl,c7,a5,a0⟩;have c0:=qtr a4 a0;have b3:=qh a5;clear a5 a0))
    go_roundg (m-(k+1))
    case measure=>have:=b4.o;omega
    case rel=>exact⟨k+1,by omega,rfl,by go_num,⟨A4,c4,by rw[V.o];rfl,by have:=V.o;omega,by have h9:=b3.o;rw[V.o]at h9;exact h9⟩,c0⟩
  · obtain rfl:k=m:=om
    have a8:¬(k:Int)<(k:Int):=om
    go_wp2_with fail
    go_ret2;exact⟨A',c',rfl,J,HF.o,HE.o⟩
end
theorem bldN9(w:World):(Instr.build 166 [(0,(.int .u32 9:Value))].toArray).run Tryz.prog w=.ok (.agg (n8 9).toArray) w:=by kernel_rfl
theorem zma(A:Option Addr)(c:Nat)(ks:List UInt8)(w:World)(hk:Rd w A 32 (u8s ks)):
 Calls Tryz.prog 58 #[.slice A 32 c] w fun e w'=>e=.returned (.tuple #[.agg (u8s (pubB ks)).toArray,.int .i64 0])∧Below w.heap.size w w':=by
 have HK:=qh hk;have HE:Hid ((mE ks nine:Int)=0):=by show _=_;rw[show mE ks nine=0 from zwn hk.len];rfl
 have HM:Hid (∀W B d,Rd W A 32 (u8s ks)→Rd W B 32 (u8s nine)→Calls Tryz.prog 88 #[.slice A 32 c,.slice B 32 d] W fun e w'=>e=.returned (.tuple #[.agg (u8s (pubB ks)).toArray,.int .i64 0])∧Below W.heap.size W w'):=fun W B d h1 h2=>by
  have h5:=zha A B c d ks nine W h1 h2;rw[HE.o]at h5;exact h5
 have HY:Hid (∀W,Calls Tryz.prog 87 #[.agg (n8 9).toArray] W fun e w'=>e=.returned (.agg (u8s nine).toArray)∧Below W.heap.size W w'):=fun W=>zjw 9 W om
 have r:Hid ((u8s nine).length=32):=by show _=_;rw[zaa,zfl.len]
 have a4:Hid (∀v∈u8s nine,v.oneCell'=true):=zac _;have J:Hid ((u8s (pubB ks)).length=32):=by show _=_;rw[zaa,pubB,zfk]
 have a7:Hid (∀v∈u8s (pubB ks),v.oneCell'=true):=zac _;have Y:Hid (Blk (w.alloc (.cells o32.toArray 27)) w.heap.size 27 o32):=Blk.new _ _ _;have a9:Hid (Below w.heap.size w (w.alloc (.cells o32.toArray 27))):=(Below.refl _ w).alloc lr _;generalize u8s (pubB ks)=PB at *;generalize u8s nine=NI at *;have a0:=qh bldN9;generalize n8 9=E9 at *;clear hk HE
 go_enter Tryz.func58, Tryz.ntmps58
 go_wp2_with (first
  | (refine zai rfl 166 [(0,.const (.int .u32 9))] rfl _ rr (.agg E9.toArray) (a0.o _) ?_)
  | (go_at_call 87;(with_reducible refine(HY.o _).mono ?_);rintro e w2 ⟨rfl,I⟩;have D:=qtr a9 I;have V:=qbl Y I;clear I)
  | (refine zab rfl 27 (.tmp 4) (.tmp 6) rfl w2.heap.size NI rr rr 27 o32 (by exact Blk.new' rfl rfl) (by rw[r.o];exact hd24) a4.o (by rw[r.o];rfl) ?_;intro w3 X E;have M:=qh (E.below (D.o.alloc D.o.size _) D.o.size (Nat.le_trans D.o.size sy));have a1:=qal E V (by have:=V.o.lt;omega);have a5:Hid (Rd w3 (some ⟨w2.heap.size,0,none⟩) 32 NI):=by have:=X.rd 0 32 (by rw[r.o];exact lr);rwa [List.drop_zero,tk (by rw[r.o];exact lr)]at this
     clear X E)
  | (go_at_call 88;(with_reducible refine(HM.o _ _ _ (by exact HK.o.below M.o) (by exact a5.o)).mono ?_);rintro e w4 ⟨rfl,G⟩;have U:=qtr M G;have a8:=qbl a1 G;clear G)
  | (refine zab rfl 27 (.tmp 2) (.tmp 10) rfl w.heap.size PB rr rr 27 o32 (by exact a8.o) (by rw[J.o];exact hd24) a7.o (by rw[J.o];rfl) ?_;intro w5 a3 a2;have a6:=qh (a2.below U.o lr U.o.size)))
 exact bodyPost_ret (zak rfl _ _ _ _ rfl a3 _ Tryz.underlying27 rfl (by rw[J.o];exact hd24)) rfl ⟨rfl,a6.o⟩
section
attribute [local go_sem ↓] zb0 zeh
theorem zph(A C:Option Addr)(c m d:Nat)(us:List UInt8)(G:List (List UInt8))(w:World)(hu:Rd w A 32 (u8s us))(hk:RdB w C m G)(f3:∀k∈G,k.length=32)(hm:m≤1000):
 Calls Tryz.prog 59 #[.slice A 32 c,.slice C m d] w fun e w'=>e=.returned (.tuple #[.agg (u8s (chV (nrm us) G).1).toArray,.int .i64 ((chV (nrm us) G).2:Int)])∧Below w.heap.size w w':=by
 have d7:=zf0 G (nrm us) (zec us);obtain⟨R,hR⟩:=ex9 (chV (nrm us) G);rw[←hR]at d7 ⊢;have g4:Hid (chV (nrm us) G=R):=hR.symm;have HU:=qh hu;have HK:=qh hk;have d9:=qh f3;have f0:Hid (G.length=m):=by obtain⟨_,_,h,_⟩:=hk;exact h
 have e5:Hid (∀W,Rd W A 32 (u8s us)→Calls Tryz.prog 89 #[.slice A 32 c] W fun e w'=>e=.returned (.tuple #[.agg (n8 (readN us)).toArray,.int .i64 0])∧Below W.heap.size W w'):=fun W h=>zrc A c us W h
 have HY:Hid (∀W,Calls Tryz.prog 87 #[.agg (n8 (readN us)).toArray] W fun e w'=>e=.returned (.agg (u8s (nrm us)).toArray)∧Below W.heap.size W w'):=fun W=>zjw (readN us) W (Nat.lt_trans (znv us) (Nat.le_of_ble_eq_true rfl))
 have d0:Hid ((u8s (nrm us)).length=32):=by show _=_;rw[zaa,zec]
 have g8:Hid ((u8s R.1).length=32):=by show _=_;rw[zaa,d7]
 have f1:Hid (Blk (w.alloc (.cells o32.toArray 27)) w.heap.size 27 o32):=Blk.new _ _ _;have e3:Hid (Below w.heap.size w (w.alloc (.cells o32.toArray 27))):=(Below.refl _ w).alloc lr _;have c8:Hid ((n8 (readN us)).length=8):=zar _;have g0:=qh (za7 (readN us));generalize n8 (readN us)=X at *;clear hu hk f3 hR d7
 go_enter Tryz.func59, Tryz.ntmps59
 go_upto_region 4 with (first
  | (go_at_call 89;(refine(e5.o _ (by exact HU.o.alloc _)).mono ?_);rintro e w1 ⟨rfl,c6⟩;have b2:=qtr e3 c6;have d5:=qbl f1 c6;clear c6)
  | (refine zab rfl 166 (.tmp 6) (.tmp 14) rfl w1.heap.size X rr rr 166 o8 (by exact Blk.new' rfl rfl) (by rw[c8.o];exact hdN8 8 rfl) g0.o (by rw[c8.o];rfl) ?_;intro w2 e8 c9;have d6:=qh (c9.below (b2.o.alloc b2.o.size _) b2.o.size (Nat.le_trans b2.o.size sy));have e7:=qal c9 d5 (by have:=d5.o.lt;omega);have f8:=qh e8;clear e8 c9))
 have d3:=qh (HK.o.below d6.o);have a8:=f0.o;clear e5 b2 d5 HU e3 f1 a8;go_wp2
 go_loop [8] (fun q=>∃k:Nat,k≤m∧q=.int .i64 k) (fun q=>m-(intOf q).toNat)
 case atStart=>exact⟨0,Nat.zero_le _,rfl⟩
 case round =>
  obtain⟨k,h5,rfl⟩:=hrel
  by_cases hlt:k<m
  · have g2:(k:Int)<(m:Int):=om
    obtain⟨b,J,A1,n1,c1,l,rfl,hb,a5,hc,g6,a2⟩:=d3.o.at_ hlt;have hl:=a2.len;rw[d9.o l (mg9 a5.o)]at hl;subst hl;clear a2 a5;go_wp2
    go_round
    case rel=>exact⟨k+1,by omega,by go_num⟩
    case measure=>simp[intOf];omega
  · obtain rfl:k=m:=om
    have g2:¬(k:Int)<(k:Int):=om;have d8:(ldAt 166 (.pointer (some ⟨w1.heap.size,0,none⟩))).run Tryz.prog w2=.ok (.agg X.toArray) w2:=zal f8.o _ 0 X (by rw[List.drop_zero,tk lr]) _ Tryz.underlying166 rfl (by rw[c8.o];exact hdN8 8 rfl)
    go_wp2_with (first
     | (go_at_call 87;(refine(HY.o _).mono ?_);rintro e w3 ⟨rfl,b9⟩;have a3:=qtr d6 b9;have c0:=qbl e7 b9;have f6:=qh (d3.o.below b9);clear b9)
     | (refine zab rfl 27 (.tmp 9) (.tmp 34) rfl w3.heap.size (u8s (nrm us)) rr rr 27 o32 (by exact Blk.new' rfl rfl) (by rw[d0.o];exact hd24) (zac _) (by rw[d0.o];rfl) ?_;intro w4 g5 c3;have f4:=qh (c3.below (a3.o.alloc a3.o.size _) a3.o.size (Nat.le_trans a3.o.size sy));have f5:=qal c3 c0 (by have:=c0.o.lt;omega);have h3:=qh (f6.o.only_new c3);have HG:Hid (w.heap.size≠w3.heap.size):=by have:=c0.o.lt;show _≠_;omega
        have f2:=qh a3.o.size;have e4:=qh g5
        clear g5 c3))
    have c4:Hid ((nrm us).length=32):=zec us;clear d6 e7 d3 f8 d8 a3 c0 f6
    go_loopg [10] k (fun kk q wr=>∃(j:Nat) (D:List UInt8),j≤k∧kk=k-j∧q=.int .i64 j∧Hid (chV D (G.drop j)=R)∧Hid (D.length=32)∧Hid (Blk wr w3.heap.size 27 (u8s D))∧Hid (Blk wr w.heap.size 27 o32)∧Hid (Below w.heap.size w wr))
    case atStart=>exact⟨0,nrm us,Nat.zero_le _,rfl,rfl,by rw[List.drop_zero];exact g4,c4,e4,f5,f4⟩
    case round =>
     clear f4 f5 h3 e4 HY c4 g4 d0;obtain⟨j,D,h6,g1,rfl,HV,b5,a4,b3,Y⟩:=hrel;have h0:=qh (HK.o.below Y.o);have g7:=qh g1;clear g1
     by_cases hlt3:j<k
     · have e2:(j:Int)<(k:Int):=om
       obtain⟨b,J,A1,n1,c1,l,rfl,hb,a5,hc,g6,a2⟩:=h0.o.at_ hlt3;have hl:=a2.len;rw[d9.o l (mg9 a5.o)]at hl;subst hl;have e6:=qh a2
       have g3:G.drop j=l :: G.drop (j+1):=by
        obtain⟨hj,he⟩:=gi9.1 a5.o;rw[List.drop_eq_getElem_cons hj,he]
       have hv:=HV.o;rw[g3,chV]at hv;have hM:=fun W h1 h2=>zha A1 (some ⟨w3.heap.size,0,none⟩) c1 32 l D W h1 h2
       have a8:=zfk l D;generalize mB l D=MB at *;have HM:=qh hM;have a1:Hid ((u8s MB).length=32):=by show _=_;rw[zaa,a8]
       have e1:=qh a8;have b6:=qh hv
       have f7:Hid (Rd wr (some ⟨w3.heap.size,0,none⟩) 32 (u8s D)):=by
        have:=a4.o.rd 0 32 (by rw[zaa,b5.o];exact lr)
        rwa [List.drop_zero,tk (by rw[zaa,b5.o];exact lr)]at this
       have I:Hid ((u8s D).length=32):=by show _=_;rw[zaa,b5.o]
       clear a2 a5 g3 hv hM a8 HV
       by_cases he:mE l D=0
       · have e9:(mE l D:Int)=0:=by rw[he];rfl
         have hv:=b6.o;rw[if_pos he]at hv;have U:=qh hv;generalize (mE l D:Int)=E at *;subst e9;clear he hv b6;have M:Hid (Below wr.heap.size wr { wr with drawn:=wr.drawn+1 }):=(Below.refl _ wr).drew;have b1:({ wr with drawn:=wr.drawn+1 } : World).cell? ⟨b,J+j,none⟩=some (.slice A1 32 c1):=hc;go_wp2;refine kgo kr 9 (fun W'=>W'.cell? ⟨b,J+j,none⟩=some (.slice A1 32 c1)) b1 (fun _ _ _ _ _ h=>h) ?_;refine kp 0 (.slice (some ⟨b,J,none⟩) k d) rfl kr (fun _=>kr) ?_;refine kp 1 (.int .i64 (j:Int)) rfl kr (fun _=>kr) ?_;refine kp 2 (.pointer (some ⟨b,J+j,none⟩)) rfl kr (fun _=>(zby (t:=57) (e:=22) (x:=.tmp 42) (y:=.tmp 43) (n:=k) (c:=d) (sz:=1) rr kr kr hlt3 Tryz.underlying57 szSl).trans (by rw[Nat.mul_one])) ?_;refine kl 3 (.slice A1 32 c1) rfl kr (fun w' hw'=>za0 (t:=22) (x:=.tmp 44) rr kr agSl hw') ?_;refine kp 4 (.slice (some ⟨w3.heap.size,0,none⟩) 32 32) rfl kr (fun _=>kr) ?_;intro q8 q9;clear q8 q9;refine AnyK.enter 5 (d:=some 47) (f:=88) (args:=#[.slice A1 32 c1,.slice (some ⟨w3.heap.size,0,none⟩) 32 32]) rr kr kr ?_;refine(HM.o _ (e6.o.below M.o) (f7.o.below M.o)).mono ?_;rintro e w6 ⟨rfl,a9⟩;have r:Below wr.heap.size wr w6:=M.o.trans a9;refine⟨_,rfl,fun _=>(r.cell hb).trans hc,?_⟩;have a0:=qh (Y.o.trans (r.mono Y.o.size));have a7:=qh (b3.o.below r b3.o.lt);have a6:=qh (a4.o.below r a4.o.lt);refine AnyK.pure 6 (v:=.tuple #[.agg (u8s MB).toArray,.int .i64 0]) rfl kr (fun _ _ _ h=>h) rfl (fun _=>kr) (fun _=>(r.cell hb).trans hc) ?_;refine AnyK.pure 7 (v:=.agg (u8s MB).toArray) rfl kr (fun _ _ _ h=>h) rfl (fun _=>kr) (fun _=>(r.cell hb).trans hc) ?_;refine AnyK.pure 8 (v:=.int .i64 0) rfl kr (fun _ _ _ h=>h) rfl (fun _=>kr) (fun _=>(r.cell hb).trans hc) ?_;refine AnyK.storeAll 9 w3.heap.size (u8s MB) 27 (u8s D) rr rfl rfl rr kr kr kr a6.o (by rw[a1.o];exact hd24) (zac _) (by rw[a1.o,I.o]) (fun _ _ _ h=>(by cases h)) ?_;intro w7 b4 V;have c2:=qh (V.below a0.o f2.o a0.o.size);have d4:=qon V a7 HG;have e0:=qh b4;refine AnyK.val 10 (v:=.int .i64 0) rr kr rfl kr (fun h=>(by cases h)) ?_;refine AnyK.done kr ?_;clear a9 r b4 V a6 a7 a0 M b1;go_wp2;go_roundg (k-(j+1))
         case measure=>have:=g7.o;omega
         case rel=>exact⟨j+1,MB,by omega,rfl,by go_num,U,e1,e0,d4,c2⟩
       · have e9:¬(mE l D:Int)=0:=om
         have hv:=b6.o;rw[if_neg he]at hv;have U:=qh hv;generalize mE l D=E at *;have f9:Hid (o32=u8s R.1):=by show _=_;rw[←U.o];rfl
         have g9:Hid (R.2=E):=by show _=_;rw[←U.o]
         clear he hv b6 U;have M:Hid (Below wr.heap.size wr { wr with drawn:=wr.drawn+1 }):=(Below.refl _ wr).drew;have b1:({ wr with drawn:=wr.drawn+1 } : World).cell? ⟨b,J+j,none⟩=some (.slice A1 32 c1):=hc;go_wp2;refine kgo kr 9 (fun W'=>W'.cell? ⟨b,J+j,none⟩=some (.slice A1 32 c1)) b1 (fun _ _ _ _ _ h=>h) ?_;refine kp 0 (.slice (some ⟨b,J,none⟩) k d) rfl kr (fun _=>kr) ?_;refine kp 1 (.int .i64 (j:Int)) rfl kr (fun _=>kr) ?_;refine kp 2 (.pointer (some ⟨b,J+j,none⟩)) rfl kr (fun _=>(zby (t:=57) (e:=22) (x:=.tmp 42) (y:=.tmp 43) (n:=k) (c:=d) (sz:=1) rr kr kr hlt3 Tryz.underlying57 szSl).trans (by rw[Nat.mul_one])) ?_;refine kl 3 (.slice A1 32 c1) rfl kr (fun w' hw'=>za0 (t:=22) (x:=.tmp 44) rr kr agSl hw') ?_;refine kp 4 (.slice (some ⟨w3.heap.size,0,none⟩) 32 32) rfl kr (fun _=>kr) ?_;intro q8 q9;clear q8 q9;refine AnyK.enter 5 (d:=some 47) (f:=88) (args:=#[.slice A1 32 c1,.slice (some ⟨w3.heap.size,0,none⟩) 32 32]) rr kr kr ?_;refine(HM.o _ (e6.o.below M.o) (f7.o.below M.o)).mono ?_;rintro e w6 ⟨rfl,a9⟩;have r:Below wr.heap.size wr w6:=M.o.trans a9;refine⟨_,rfl,fun _=>(r.cell hb).trans hc,?_⟩;have a0:=qh (Y.o.trans (r.mono Y.o.size));have a7:=qh (b3.o.below r b3.o.lt);have a6:=qh (a4.o.below r a4.o.lt);refine AnyK.pure 6 (v:=.tuple #[.agg (u8s MB).toArray,.int .i64 (E:Int)]) rfl kr (fun _ _ _ h=>h) rfl (fun _=>kr) (fun _=>(r.cell hb).trans hc) ?_;refine AnyK.pure 7 (v:=.agg (u8s MB).toArray) rfl kr (fun _ _ _ h=>h) rfl (fun _=>kr) (fun _=>(r.cell hb).trans hc) ?_;refine AnyK.pure 8 (v:=.int .i64 (E:Int)) rfl kr (fun _ _ _ h=>h) rfl (fun _=>kr) (fun _=>(r.cell hb).trans hc) ?_;refine AnyK.storeAll 9 w3.heap.size (u8s MB) 27 (u8s D) rr rfl rfl rr kr kr kr a6.o (by rw[a1.o];exact hd24) (zac _) (by rw[a1.o,I.o]) (fun _ _ _ h=>(by cases h)) ?_;intro w7 b4 V;have c2:=qh (V.below a0.o f2.o a0.o.size);have d4:=qon V a7 HG;have e0:=qh b4;refine AnyK.val 10 (v:=.int .i64 (E:Int)) rr kr rfl kr (fun h=>(by cases h)) ?_;refine AnyK.done kr ?_;clear a9 r b4 V a6 a7 a0 M b1
         go_wp2_with (first
          | (refine zai rfl 27 [] rfl [] rr (.agg o32.toArray) (ztn _) ?_)
          | (refine zab rfl 27 (.tmp 4) (.tmp 52) rfl w.heap.size o32 rr rr 27 o32 (by exact d4.o) (by exact hd24) (zac _) rfl ?_;intro w8 b7 c5;have c7:=qh (c5.below c2.o lr c2.o.size)))
         rw[f9.o]at b7;exact bodyPost_ret (zak rfl _ _ _ _ rfl b7 _ Tryz.underlying27 rfl (by rw[g8.o];exact hd24)) rfl ⟨by rw[g9.o];rfl,c7.o⟩
     · obtain rfl:j=k:=om
       have e2:¬(j:Int)<(j:Int):=om;have hv:=HV.o;rw[List.drop_eq_nil_of_le (by rw[f0.o];exact lr),chV]at hv;have I:Hid ((u8s D).length=32):=by show _=_;rw[zaa,b5.o]
       have h4:=zev a4.o I.o;have U:=qh hv;clear hv HV
       go_wp2_with (first
        | (refine zab rfl 27 (.tmp 4) (.tmp 54) rfl w.heap.size (u8s D) rr rr 27 o32 (by exact b3.o) (by rw[I.o];exact hd24) (zac _) (by rw[I.o];rfl) ?_;intro w8 b7 c5;have c7:=qh (c5.below Y.o lr Y.o.size)))
       exact bodyPost_ret (zak rfl _ _ _ _ rfl b7 _ Tryz.underlying27 rfl (by rw[I.o];exact hd24)) rfl ⟨by rw[←U.o];rfl,c7.o⟩
end
theorem zrg(s:Sp)(hs:s.ok)(w:World):
 Calls Tryz.prog 61 #[.agg s.cells.toArray] w fun e w'=>e=.returned (.tuple #[.agg (u8s (mB s.blind s.alpha)).toArray,.int .i64 (mE s.blind s.alpha:Int)])∧Below w.heap.size w w':=by
 obtain⟨C,hC⟩:=ex9 (s.cells);have Y:Hid (C.length=192):=(by show _=_;rw[hC];exact Sp.cells_len hs)
 have HM:Hid (∀W,Blk W w.heap.size 106 C→Calls Tryz.prog 88 #[.slice (some ⟨w.heap.size,96,none⟩) 32 32,.slice (some ⟨w.heap.size,128,none⟩) 32 32] W fun e w'=>e=.returned (.tuple #[.agg (u8s (mB s.blind s.alpha)).toArray,.int .i64 (mE s.blind s.alpha:Int)])∧Below W.heap.size W w'):=fun W h=>by
  rw[hC]at h;exact zha _ _ 32 32 s.blind s.alpha W (Sp.rd h hs 96 s.blind om (Sp.at_blind hs)) (Sp.rd h hs 128 s.alpha om (Sp.at_alpha hs))
 have A:=qh (zfk s.blind s.alpha);rw[←hC];generalize mB s.blind s.alpha=M at *;generalize (mE s.blind s.alpha:Int)=E at *;clear hC hs
 have r:Hid (Blk ((w.alloc (.cells C.toArray 106)).alloc (.cells o32.toArray 27)) w.heap.size 106 C∧Blk ((w.alloc (.cells C.toArray 106)).alloc (.cells o32.toArray 27)) (w.heap.size+1) 27 o32∧Below w.heap.size w ((w.alloc (.cells C.toArray 106)).alloc (.cells o32.toArray 27))) :=
  ⟨(Blk.new w _ _).alloc _,Blk.new' sy rfl,((Below.refl _ w).alloc lr _).alloc sy _⟩
 go_enter Tryz.func61, Tryz.ntmps61
 go_wp2;refine kgo kr 8 (fun w'=>True) trivial (fun _ _ _ _ _ h=>h) ?_;refine kp 0 (.pointer (some ⟨w.heap.size,0,none⟩)) rfl kr (fun _=>kr) ?_;refine kp 1 (.pointer (some ⟨w.heap.size,96,none⟩)) rfl kr (fun _=>kr) ?_;refine kp 2 (.slice (some ⟨w.heap.size,96,none⟩) 32 32) rfl kr (fun _=>kr) ?_;refine kp 3 (.pointer (some ⟨w.heap.size,128,none⟩)) rfl kr (fun _=>kr) ?_;refine kp 4 (.slice (some ⟨w.heap.size,128,none⟩) 32 32) rfl kr (fun _=>kr) ?_;intro q8 q9;clear q8 q9;refine AnyK.enter 5 (d:=some 9) (f:=88) (args:=#[.slice (some ⟨w.heap.size,96,none⟩) 32 32,.slice (some ⟨w.heap.size,128,none⟩) 32 32]) rr kr kr ?_;refine(HM.o _ (by exact r.o.1.drew)).mono ?_;rintro e w2 ⟨rfl,hB⟩;refine⟨_,rfl,fun _=>trivial,?_⟩;have D:Below ((w.alloc (.cells C.toArray 106)).alloc (.cells o32.toArray 27)).drew.heap.size ((w.alloc (.cells C.toArray 106)).alloc (.cells o32.toArray 27)).drew w2:=hB;have J:=r.o.2.1.drew.below D r.o.2.1.drew.lt;have G:=r.o.2.2.drew.trans (D.mono r.o.2.2.drew.size);refine AnyK.pure 6 (v:=.agg (u8s M).toArray) rfl kr (fun _ _ _ h=>h) rfl (fun _=>kr) (fun _=>trivial) ?_;refine AnyK.pure 7 (v:=.int .i64 E) rfl kr (fun _ _ _ h=>h) rfl (fun _=>kr) (fun _=>trivial) ?_;refine AnyK.storeAll 8 (w.heap.size+1) (u8s M) 27 o32 rr rfl rfl rr kr kr kr J (by rw[zaa,A.o];exact hd32) (zac _) (by rw[zaa,A.o];rfl) (fun _ _ _ _=>trivial) ?_;intro w3 U I;have X:=qh (I.below G om G.size);refine AnyK.val 9 (v:=.int .i64 E) rr kr rfl kr (fun _=>trivial) ?_;refine AnyK.done kr ?_;have V:=qh U;clear U I J G hB D;go_wp2;exact bodyPost_ret (zak (p:=2) (u:=3) (ty:=27) rfl _ (w.heap.size+1) 27 (u8s M) kr V.o _ Tryz.underlying27 rfl (by rw[zaa,A.o];exact hd32)) rfl ⟨by kernel_rfl,X.o⟩
section
attribute [local go_sem ↓] zww zb0 zog zqr
theorem Two.fresh2{B G T:Nat}{w:World}{r A:Value}{E D:Nat}{I:List Value}{sc:List (List UInt8)}(h:Two B G T w r A E D I sc)(hG:G<w.heap.size){b:Nat}(hb:w.heap.size≤b):b≠G∧r.ownBlock≠some b∧A.ownBlock≠some b:=by
 obtain⟨vs,h1,h2,_⟩:=h;refine⟨by omega,fun e2=>?_,fun e2=>?_⟩
 · have:=(h1.lt _ e2).2;omega
 · have:=(h2.lt _ e2).2;omega
theorem zcSrz:Tryz.zeroCells106 = (u8s (List.replicate 192 0)).toArray:=by kernel_rfl
theorem iSr:(Tryz.prog.info? 106).map (fun i=>(i.zero,i.size,i.bytes))=some (some (.agg (u8s (List.replicate 192 0)).toArray),192,192):=by kernel_rfl
theorem eSrz:ElemIs Tryz.prog 106 192 192:=ElemIs.of iSr (by show(u8s (List.replicate 192 0)).toArray.size=192;rw[List.size_toArray,zaa,lp9]) om
theorem z1sr:(Tryz.prog.info? 106).map (fun i=>((i.zero.map (fun z=>z.cells.size)),i.size))=some (some 192,192):=by kernel_rfl
theorem pl72(r:Array Field)(h:Tryz.prog.underlying 106 = some (.struct r))(w:World):(r.mapM (fun f=>do pure (f.offset,←sizeOf f.type)):Sem (Array (Nat × Nat))).run Tryz.prog w=.ok places69 w:=by
 rw[Tryz.underlying106]at h
 injection h with h
 injection h with h
 subst h
 kernel_rfl
theorem zzj(s:Sp)(h:s.ok)(w:World):(Instr.build 106 #[(0,.agg (u8s s.keys).toArray),(1,.agg (u8s s.alpha).toArray),(2,.agg (u8s s.secret).toArray)]).run Tryz.prog w=.ok (.agg s.cells.toArray) w:=by
 have e0:(u8s s.keys).length=128:=by rw[zaa,Sp.keys_len h]
 have e1:(u8s s.alpha).length=32:=by rw[zaa,h.2.2.2.2.1]
 have e2:(u8s s.secret).length=32:=by rw[zaa,h.2.2.2.2.2]
 refine zbt Tryz.zeroValue106 Tryz.underlying106 (pl72 _ Tryz.underlying106) ?_ w;rw[zcSrz]
 show Instr.fill _ _ [(0,_),(1,_),(2,_)]=_
 rw [zat (cs:=u8s s.keys) rfl (by rw[e0];rfl) (by rw[e0,zaa,lp9];omega),
   zat (cs:=u8s s.alpha) rfl (by rw[e1];rfl) (by rw[length_splice _ _ _ (by rw[e0,zaa,lp9];omega),e1,zaa,lp9];omega),
   zat (cs:=u8s s.secret) rfl (by rw[e2];rfl) (by rw[length_splice _ _ _ (by rw[length_splice _ _ _ (by rw[e0,zaa,lp9];omega),e1,zaa,lp9];omega),length_splice _ _ _ (by rw[e0,zaa,lp9];omega),e2,zaa,lp9];omega)]
 have:splice (splice (splice (u8s (List.replicate 192 0)) 0 (u8s s.keys)) 128 (u8s s.alpha)) 160 (u8s s.secret)=s.cells:=by
  rw[splice_splice_splice _ _ _ _ 128 32 e0 e1 (by rw[zaa,lp9,e2])];rw[Sp.cells,Sp.bytes_is,zae,zae]
 rw[this]
 rfl
theorem zq4(A C:Option Addr)(n c m d:Nat)(w:World)(h:n≠32∨m<1∨5<m):
 Calls Tryz.prog 30 #[.slice A n c,.slice C m d] w fun e w'=>e=.returned (.tuple #[.slice none 0 0,.int .i64 2])∧w=w':=by
 rcases Decidable.em (n=32)with h1|h1
 · subst h1
   rcases Nat.lt_or_ge m 1 with h2|h2
   · obtain rfl:m=0:=om
     clear h
     go_enter Tryz.func30, Tryz.ntmps30
     go_wp2;go_ret2;exact⟨rfl,rfl⟩
   · have h3:¬(m:Int)=0:=om
     have h4:(m:Int)>5:=om;clear h
     go_enter Tryz.func30, Tryz.ntmps30
     go_wp2;go_ret2;exact⟨rfl,rfl⟩
 · have hn:((n:Int) != 32)=true:=by rw[bne_iff_ne];omega
   clear h h1
   go_enter Tryz.func30, Tryz.ntmps30
   go_wp2;go_ret2;exact⟨rfl,rfl⟩
theorem zpa(A C:Option Addr)(c m d:Nat)(xs:List UInt8)(r:List (List UInt8))(w:World)(hx:Rd w A 32 (u8s xs))(hc:32≤c)(hp:RdB w C m r)(n7:∀p∈r,p.length=32)(s7:1≤m)(hm:m≤5):
 Calls Tryz.prog 30 #[.slice A 32 c,.slice C m d] w fun e w'=>∃A' n' c',e=.returned (.tuple #[.slice A' n' c',.int .i64 ((sch [] [xs] (pubB xs) r).2:Int)])∧n'≤c'∧RdS 192 w' A' n' ((sch [] [xs] (pubB xs) r).1.flatMap Sp.cells)∧(sch [] [xs] (pubB xs) r).1.length=n'∧Below w.heap.size w w':=by
 obtain⟨R,hR⟩:=ex9 (sch [] [xs] (pubB xs) r);rw[←hR];have p9:Hid (sch [] [xs] (pubB xs) r=R):=hR.symm;have HX:=qh hx;have q9:=qh hx.len;have n4:=qh hp;have j1:=qh n7;have r5:Hid (r.length=m):=by obtain⟨_,_,h,_⟩:=hp;exact h
 have HC:=qh hc;have s9:=qh (hx.blk_lt om);have m1:¬(m:Int)=0:=om;have m5:¬(m:Int)>5:=om;have f3:Hid (∀W,Rd W A 32 (u8s xs)→Calls Tryz.prog 58 #[.slice A 32 c] W fun e w'=>e=.returned (.tuple #[.agg (u8s (pubB xs)).toArray,.int .i64 0])∧Below W.heap.size W w'):=fun W h=>zma A c xs W h
 have m4:Hid (∀W,Rd W A 32 (u8s xs)→Calls Tryz.prog 28 #[.slice A 32 c] W fun e w'=>∃A' c',e=.returned (.slice A' 32 c')∧32≤c'∧w'.ownsRow W.heap.size 5 1 (.slice A' 32 c') 32 (u8s xs)∧Below W.heap.size W w'):=fun W h=>zb1 A 32 c xs W h om
 have i7:Hid (Good (pubB xs)):=znz hx.len;have h3:Hid ((u8s (pubB xs)).length=32):=by show _=_;rw[zaa,i7.o.len]
 clear hx hp n7 hR hc
 go_enter Tryz.func30, Tryz.ntmps30
 go_wp2
 go_loop [6] (fun q=>∃k:Nat,k≤m∧q=.int .i64 k) (fun q=>m-(intOf q).toNat)
 case atStart=>exact⟨0,Nat.zero_le _,rfl⟩
 case round =>
  obtain⟨k,s5,rfl⟩:=hrel
  by_cases hlt:k<m
  · have p7:(k:Int)<(m:Int):=om
    obtain⟨b,r3,A1,n1,c1,l,rfl,hb,b6,hc,q7,b3⟩:=n4.o.at_ hlt;have hl:=b3.len;rw[j1.o l (mg9 b6.o)]at hl;subst hl;clear b3 b6;go_wp2
    go_round
    case rel=>exact⟨k+1,by omega,by go_num⟩
    case measure=>simp[intOf];omega
  · obtain rfl:k=m:=om
    have p7:¬(k:Int)<(k:Int):=om
    go_wp2_with (first
     | (go_at_call 58;(refine(f3.o _ (by exact HX.o)).mono ?_);rintro e w1 ⟨rfl,j0⟩;have b5:=qh j0;clear j0)
     | (refine zab rfl 27 (.tmp 7) (.tmp 45) rfl w1.heap.size (u8s (pubB xs)) rr rr 27 o32 (by exact Blk.new' rfl rfl) (by rw[h3.o];exact hd24) (zac _) (by rw[h3.o];rfl) ?_;intro w2 m6 m9;have i5:=qh (m9.below (b5.o.alloc b5.o.size _) b5.o.size (Nat.le_trans b5.o.size sy));have g4:=qh m6;clear m6 m9)
     | (go_at_call 28;(refine(m4.o _ (by exact HX.o.below i5.o)).mono ?_);rintro e w3 ⟨A3,c3,rfl,n0,c2,d7⟩;have h4:=qtr i5 d7;have g3:=qbl g4 d7;have i4:=qh c2;have q0:=qh n0;have r8:=qh d7.size;clear d7 c2 n0))
    have h0:=qh b5.o.size
    have q2:Hid (Two (w1.heap.size+1) w1.heap.size 106 (w3.alloc (.cells #[.slice A3 32 c3] 22)) (.slice none 0 0) (.slice (some ⟨w3.heap.size,0,none⟩) 1 1) 0 1 ([].flatMap Sp.cells) [xs]):=by
     refine⟨[.slice A3 32 c3],World.ownsRow_nil _ _ _ _,zbg (Blk.new w3 22 [.slice A3 32 c3]) (by have:=g3.o.lt;omega) 1 1 1 lr rfl om,rfl,fun b hb=>(by cases hb),fun i v hv=>?_⟩
     have hi:i=0:=by
      have:=(gi9.1 hv).1
      simpa using this
     subst hi;simp only[List.getElem?_cons_zero,Option.some.injEq]at hv;subst hv;refine⟨xs,A3,c3,rfl,q0.o,rfl,(Rd.of_own i4.o).alloc _,fun ad e=>?_⟩;have h1:=i4.o.lt ad.block (by rw[e];rfl);have h2:=g4.o.lt;refine⟨by simp;omega,by omega,fun e2=>(by cases e2),fun e2=>?_⟩;simp only[Value.ownBlock]at e2
     injection e2 with e2
     omega
    have k2:Hid (Blk (w3.alloc (.cells #[.slice A3 32 c3] 22)) w1.heap.size 27 (u8s (pubB xs))):=g3.o.alloc _;have o1:Hid (Below w.heap.size w (w3.alloc (.cells #[.slice A3 32 c3] 22))):=h4.o.alloc h4.o.size _;have f4:Hid (∀s∈[xs],s.length=32):=by intro s hs;simp at hs;rw[hs];exact q9.o
    clear b5 i5 g4 i4 h4 g3 f3 m4 r8
    go_loopg [10,9,11] k (fun kk q10 q11 q wr=>∃(j:Nat) (D:List Sp) (sc:List (List UInt8)) (al:List UInt8) (c5 U:Option Addr) (b2 a3:Nat),j≤k∧kk=k-j∧q=.int .i64 j∧q10=.slice c5 j b2∧q11=.slice U (j+1) a3∧j≤b2∧Hid (sch D sc al (r.drop j)=R)∧Hid (D.length=j)∧Hid (Good al)∧Hid (∀s∈sc,s.length=32)∧Hid (Two (w1.heap.size+1) w1.heap.size 106 wr (.slice c5 j b2) (.slice U (j+1) a3) j (j+1) (D.flatMap Sp.cells) sc)∧Hid (Blk wr w1.heap.size 27 (u8s al))∧Hid (Below w.heap.size w wr))
    case atStart=>exact⟨0,[],[xs],pubB xs,_,_,_,_,Nat.zero_le _,rfl,rfl,rfl,rfl,Nat.zero_le _,by rw[List.drop_zero];exact p9,rfl,i7,f4,q2,k2,o1⟩
    case round =>
     clear k2 o1 q2 f4 i7 h3 p9;obtain⟨j,D,sc,al,c5,U,b2,a3,s6,p3,rfl,rfl,rfl,j8,HV,l9,f9,p4,HT,o0,c7⟩:=hrel;have r1:=qh p3;clear p3
     by_cases hjk2:j<k
     · skip
       have j9:(j:Int)<(k:Int):=om;obtain⟨b,r3,A1,n1,c1,l,rfl,hb,b6,hc,q7,b3⟩:=(n4.o.below c7.o).at_ hjk2;have hl:=b3.len;rw[j1.o l (mg9 b6.o)]at hl;subst hl;have m3:=qh b3;have q6:Hid (∀b,(Value.slice U (j+1) a3).ownBlock=some b→b<wr.heap.size):=fun b hb=>by obtain⟨us,hu⟩:=HT.o.own11;exact(hu.lt b hb).2
       have p8:r.drop j=l :: r.drop (j+1):=by
        obtain⟨hj,he⟩:=gi9.1 b6.o;rw[List.drop_eq_getElem_cons hj,he]
       have hv:=HV.o;rw[p8,sch]at hv;have e4:=zf0 sc (nrm l) (zec l);obtain⟨V,hV⟩:=ex9 (chV (nrm l) sc)
       have k8:Hid (∀W,Rd W A1 32 (u8s l)→RdB W U (j+1) sc→Calls Tryz.prog 59 #[.slice A1 32 c1,.slice U (j+1) a3] W fun e w'=>e=.returned (.tuple #[.agg (u8s V.1).toArray,.int .i64 (V.2:Int)])∧Below W.heap.size W w'):=fun W h1 h2=>by
        rw[hV];exact zph A1 U c1 (j+1) a3 l sc W h1 h2 p4.o om
       rw[←hV]at hv e4;have a6:Hid ((u8s V.1).length=32):=by show _=_;rw[zaa,e4]
       have d6:=qh hv;have q8:=qh e4;have e6:Hid ((u8s al).length=32):=by show _=_;rw[zaa,f9.o.len]
       clear b3 b6 p8 hv e4 hV HV
       by_cases he:V.2=0
       · have hv:=d6.o
         rw[if_pos he]at hv;have m8:(V.2:Int)=0:=by rw[he];rfl
         generalize (V.2:Int)=VE at *;subst m8;have b4:=znm f9.o.len q8.o;have r6:Hid (∀W A,Rd W A 32 (u8s V.1)→Calls Tryz.prog 60 #[.slice A 32 32] W fun e w'=>e=.returned (.tuple #[.agg (u8s (kys V.1)).toArray,.int .i64 0])∧Below W.heap.size W w'):=fun W A h=>zmb A 32 V.1 W h
         have h7:Hid ((u8s (kys V.1)).length=128):=by show _=_;rw[zaa,zhv]
         have r0:Hid (∀v∈u8s (kys V.1),v.oneCell'=true):=zac _
         have g1:Hid (∀W,(Instr.build 106 [(0,(.agg (u8s (kys V.1)).toArray:Value)),(1,.agg (u8s al).toArray),(2,.agg (u8s V.1).toArray)].toArray).run Tryz.prog W=.ok (.agg (stp al V.1).cells.toArray) W):=fun W=>by
          have:=zzj (stp al V.1) b4 W
          rwa [znn]at this
         have f7:Hid (D.flatMap Sp.cells++(stp al V.1).cells=(D++[stp al V.1]).flatMap Sp.cells):=by show _=_;simp
         have E:Hid ((stp al V.1).cells.length=192):=Sp.cells_len b4;have d5:Hid (∀v∈(stp al V.1).cells,v.oneCell'=true):=Sp.cells_one _;have g7:Hid ((Tryz.prog.info? 106).map (fun i=>((i.zero.map (fun z=>z.cells.size)),i.size))=some (some (stp al V.1).cells.length,(stp al V.1).cells.length)):=by rw[E.o];exact z1sr
         have g9:Hid (∀W,Calls Tryz.prog 61 #[.agg (stp al V.1).cells.toArray] W fun e w'=>e=.returned (.tuple #[.agg (u8s (mB (stp al V.1).blind al)).toArray,.int .i64 (mE (stp al V.1).blind al:Int)])∧Below W.heap.size W w'):=fun W=>zrg (stp al V.1) b4 W
         have p1:Hid (Good (mB (stp al V.1).blind al)):=f9.o.mB b4.2.2.2.1;have m2:Hid ((stp al V.1).blind.length=32):=b4.2.2.2.1
         have r4:Hid (∀W G,Blk W G 81 (u8s (kys V.1))→Rd W (some ⟨G,96,none⟩) 32 (u8s (stp al V.1).blind)):=fun W G hb=>by
          have h5:=hb.rd 96 32 (by rw[zaa,zhv];omega)
          have h6:((kys V.1).drop 96).take 32=(stp al V.1).blind:=by
           rw[zoh,←as9,←as9,List.drop_left' (by simp[Wd.derive_len])];exact tk (by rw[Wd.derive_len];exact lr)
          rwa [za9,zay,h6]at h5
         have o9:sch (D++[stp al V.1]) (sc++[(stp al V.1).blind]) (mB (stp al V.1).blind al) (r.drop (j+1))=R:=hv;have i9:=qh o9;clear hv o9 he d6 b4;generalize (stp al V.1).blind=BL at *;obtain⟨ST,j3⟩:=ex9 (stp al V.1);rw[←j3]at f7 E d5 g7 g9 g1 i9;obtain⟨CS,n2⟩:=ex9 (ST.cells);rw[←n2]at f7 E d5 g7 g9 g1;generalize mB BL al=NA at *;generalize (mE BL al:Int)=NE at *;generalize u8s (kys V.1)=KK at *;have s4:Hid ((u8s BL).length=32):=by show _=_;rw[zaa,m2.o]
         have p5:Hid ((u8s NA).length=32):=by show _=_;rw[zaa,p1.o.len]
         have k0:Hid ((D++[ST]).length=j+1):=by show _=_;rw[la9,l9.o];rfl
         have j4:Hid (∀s∈sc++[BL],s.length=32):=by
          intro s hs
          rcases List.mem_append.1 hs with h|h
          · exact p4.o s h
          · simp at h;rw[h];exact m2.o
         clear j3 n2
         go_upto_region 20 with (first
         | (go_at_call 59;(refine(k8.o _ (by exact m3.o) (by exact HT.o.rdB)).mono ?_);rintro e w6 ⟨rfl,a0⟩;have a5:=qtr c7 a0;have q3:=qh (HT.o.below a0);have k7:=qbl o0 a0;have r2:=qh a0.size;clear a0)
         | (refine zab rfl 27 (.tmp 12) (.tmp 63) rfl w6.heap.size (u8s V.1) rr rr 27 o32 (by exact Blk.new' rfl rfl) (by rw[a6.o];exact hd24) (zac _) (by rw[a6.o];rfl) ?_;intro w7 e3 d9;have d3:Below w6.heap.size w6 w7:=d9.below ((Below.refl _ _).alloc lr _) lr sy;have e0:=qtr a5 d3;have o2:=qh (q3.o.below d3);have j2:=qbl k7 d3;have s2:=qh (Nat.le_trans r2.o d3.size);have k9:=qh e3;have e9:Hid (Rd w7 (some ⟨w6.heap.size,0,none⟩) 32 (u8s V.1)):=by have h5:=e3.rd 0 32 (by have:=a6.o;omega);rwa [List.drop_zero,tk (by have:=a6.o;omega)]at h5
            clear e3 d9 d3)
         | (go_at_call 60;(refine(r6.o _ _ (by exact e9.o)).mono ?_);rintro e w8 ⟨rfl,b7⟩;have j6:=qtr e0 b7;have l7:=qh (o2.o.below b7);have o4:=qbl j2 b7;have g0:=qbl k9 b7;have o6:=qh (Nat.le_trans s2.o b7.size);clear b7)
         | (refine zab rfl 81 (.tmp 14) (.tmp 71) rfl w8.heap.size KK rr rr 81 (u8s (List.replicate 128 0)) (by exact Blk.new' rfl zc67) (by rw[h7.o];exact hd67) r0.o (by rw[h7.o,zaa,lp9]) ?_;intro w9 g2 o5;have b9:Below w8.heap.size w8 w9:=o5.below ((Below.refl _ _).alloc lr _) lr sy;have k1:=qtr j6 b9;have n6:=qh (l7.o.below b9);have f8:=qbl o4 b9;have p6:=qh (Nat.le_trans o6.o b9.size);have n9:=qh g2;have l1:(ldAt 81 (.pointer (some ⟨w8.heap.size,0,none⟩))).run Tryz.prog w9=.ok (.agg KK.toArray) w9:=zal g2 _ 0 KK (by rw[List.drop_zero,tk lr]) _ Tryz.underlying81 rfl (by rw[h7.o];exact hd67);have l2:=zev f8.o e6.o;have l3:=zev (g0.o.below b9 g0.o.lt) a6.o;clear g2 o5 b9)
         | (refine zai rfl 106 [(0,.tmp 73),(1,.tmp 74),(2,.tmp 75)] rfl _ rr (.agg CS.toArray) (g1.o _) ?_)
         | (refine zab rfl 106 (.tmp 16) (.tmp 76) rfl w9.heap.size CS rr rr 106 (u8s (List.replicate 192 0)) (by exact Blk.new' rfl zcSrz) (by rw[E.o];exact hd72) d5.o (by rw[E.o];rfl) ?_;intro i0 c9 J;have Y:Below w9.heap.size w9 i0:=J.below ((Below.refl _ _).alloc lr _) lr sy;have b1:=qtr k1 Y;have a8:=qh (n6.o.below Y);have d4:=qbl f8 Y;have f1:=qbl n9 Y;have c8:=qh c9;have l4:=zwk c9 E.o;clear c9 J Y l1 l2 l3)
         | (refine zb6 rfl 96 106 (.tmp 78) rfl CS rr Tryz.underlying96 g7.o (by rw[E.o];omega) (by rw[E.o];omega) ?_)
         | (at_builtin;refine zah rfl (.tmp 77) (.tmp 79) 96 rfl (w1.heap.size+1) 106 192 192 Tryz.underlying96 eSrz (.slice c5 j b2) j (D.flatMap Sp.cells) rr (by exact zas a8.o.own10 ((Below.refl _ _).alloc lr _)) (some ⟨i0.heap.size,0,none⟩) 1 1 CS rr (by exact RdS.new i0 _ CS 192 E.o) d5.o om om (by have:=d4.o.lt;simp;omega) ?_;intro i2 g6 t1 X f6 I c0;have J:=a8.o.own10;have a4:=HT.o.own10;have k5:=qh ((b1.o.alloc b1.o.size _).grown I (Nat.le_trans b1.o.size sy) (fun k hk=>by have h1:=(J.lt k hk).1;have h2:=h0.o;omega));rw[f7.o]at X;have e8:=qh ((a8.o.below ((Below.refl _ _).alloc lr _)).app10 X I (by simpa using c0));have f5:=qh ((d4.o.alloc _).grown I (fun e=>by have h1:=(J.lt _ e.symm).1;omega));have k4:=qh ((f1.o.alloc _).grown I (fun e=>by have h1:=(a4.lt _ e.symm).2;have h2:=o6.o;omega));have i1:=qh ((c8.o.alloc _).grown I (fun e=>by have h1:=(a4.lt _ e.symm).2;have h2:=p6.o;omega));have i3:=qh f6;clear X f6 I c0 J a4 l4))
         clear a5 q3 k7 e0 o2 j2 k9 e9 j6 l7 o4 g0 k1 n6 f8 n9 b1 a8 d4 f1 c8 HT o0 c7
         go_wp2_with (first
         | (go_at_call 28;(refine(zb1 (some ⟨w8.heap.size,96,none⟩) 32 32 BL _ (by exact r4.o _ _ k4.o) om).mono ?_);rintro e h8 ⟨e1,i6,rfl,f2,M,a2⟩;have c4:=qtr k5 a2;have q5:=qh (e8.o.below a2);have e7:=qbl f5 a2;have i8:=qbl i1 a2;have l6:=qh (Rd.of_own M);have g5:=qh f2;have r9:Hid (∀ad:Addr,e1=some ad→ad.block≠w1.heap.size∧(Value.slice i2 (j+1) g6).ownBlock≠some ad.block∧(Value.slice U (j+1) a3).ownBlock≠some ad.block):=fun ad e=>e8.o.fresh2 f5.o.lt ((M.lt ad.block (by rw[e];rfl)).1)
            obtain⟨vs,p0⟩:=q5.o.below ((Below.refl _ h8).alloc lr (.cells #[.slice e1 32 i6] 22));have d8:=qh p0
            clear a2 M f2 p0)
         | (at_builtin;refine zah rfl (.tmp 81) (.tmp 85) 57 rfl (w1.heap.size+1) 22 1 24 Tryz.underlying57 eSl (.slice U (j+1) a3) (j+1) vs rr (by exact d8.o.2.1) (some ⟨h8.heap.size,0,none⟩) 1 1 [.slice e1 32 i6] rr (by exact RdS.new h8 _ [.slice e1 32 i6] 1 rfl) (by intro v hv;simp at hv;rw[hv];rfl) om om (by have:=e7.o.lt;simp;omega) ?_;intro n5 n3 s0 a9 j5 a1 d0;have j7:=qh ((c4.o.alloc c4.o.size _).grown a1 (Nat.le_trans c4.o.size sy) (fun k hk=>by have h1:=(d8.o.2.1.lt k hk).1;have h2:=h0.o;omega));have o3:=qh ((e7.o.alloc _).grown a1 (fun e=>by have h1:=(d8.o.2.1.lt _ e.symm).1;omega));have g8:=qh ((i8.o.alloc _).grown a1 (fun e=>by have h1:=(q6.o _ e.symm);have h2:=p6.o;omega));have l8:Hid (Two (w1.heap.size+1) w1.heap.size 106 s0 (.slice i2 (j+1) g6) (.slice n5 (j+1+1) n3) (j+1) (j+1+1) ((D++[ST]).flatMap Sp.cells) (sc++[BL])):=Two.app11 d8.o a9 a1 (by simpa using d0) g5.o (l6.o.alloc _) r9.o;have l5:=zwk g8.o E.o;clear a9 j5 a1 d0)
         | (go_at_call 61;(refine(g9.o _).mono ?_);rintro e t2 ⟨rfl,a7⟩;have e5:=qtr j7 a7;have k6:=qh (l8.o.below a7);have m0:=qbl o3 a7;obtain⟨s8,s3,c6,f0⟩:=st32 m0.o e6.o p5.o (zac _);have k3:=qh (c6.below e5.o h0.o e5.o.size);have m7:=qh (k6.o.only c6 (Nat.lt_succ_self _));have o7:=qh f0;clear f0 c6 a7 l5))
         go_roundg (k-(j+1))
         case measure=>have:=r1.o;omega
         case rel=>exact⟨j+1,D++[ST],sc++[BL],NA,i2,n5,g6,n3,by omega,rfl,by go_num,rfl,rfl,i3.o,i9,k0,p1,j4,m7,o7,k3⟩
       · have m8:¬(V.2:Int)=0:=om
         have hv:=d6.o;rw[if_neg he]at hv;have l0:Hid (R.1=[]):=by show _=_;rw[←hv]
         have s1:Hid ((R.2:Int)=(V.2:Int)):=by show _=_;rw[←hv]
         clear he hv d6
         go_wp2_with (first
          | (go_at_call 59;(refine(k8.o _ (by exact m3.o) (by exact HT.o.rdB)).mono ?_);rintro e w6 ⟨rfl,a0⟩;have a5:=qtr c7 a0;clear a0)
          | (refine zab rfl 27 (.tmp 12) (.tmp 63) rfl w6.heap.size (u8s V.1) rr rr 27 o32 (by exact Blk.new' rfl rfl) (by rw[a6.o];exact hd24) (zac _) (by rw[a6.o];rfl) ?_;intro w7 e3 d9;have e0:=qh (d9.below (a5.o.alloc a5.o.size _) a5.o.size (Nat.le_trans a5.o.size sy))))
         go_ret2;exact⟨none,0,0,by rw[s1.o];rfl,lr,by rw[l0.o];exact⟨rfl,fun h=>absurd h om⟩,by rw[l0.o];rfl,e0.o⟩
     · obtain rfl:j=k:=om
       have j9:¬(j:Int)<(j:Int):=om;have hv:=HV.o;rw[List.drop_eq_nil_of_le (by rw[r5.o];exact lr),sch]at hv;have h9:Hid (R.1=D∧R.2=0):=by show _∧_;rw[←hv];exact⟨rfl,rfl⟩
       have r7:=qh HT.o.own10;clear hv HV;go_wp2;go_ret2;exact⟨c5,j,b2,by rw[h9.o.2];rfl,j8,by rw[h9.o.1];exact RdS.ofOwn2 r7.o,by rw[h9.o.1];exact l9.o,c7.o⟩
end
