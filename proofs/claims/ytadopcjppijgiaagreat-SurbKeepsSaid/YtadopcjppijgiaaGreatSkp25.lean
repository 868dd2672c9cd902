/- Part of the proof. -/
import Derived.Test.YtadopcjppijgiaaGreatSkp24
set_option linter.all false
set_option maxRecDepth 100000
set_option maxHeartbeats 0
namespace Go.Proofs.YtadopcjppijgiaaGreat
open Go.RowKit
section
def sigmaB:List UInt8:=[101,120,112,97,110,100,32,51,50,45,98,121,116,101,32,107]
theorem zl7:Ch.words sigmaB 4=Ch.sigma:=by decide
def place:Nat→Nat × Nat × Nat × Nat
 | 0=>(0,4,8,12)
 | 1=>(1,5,9,13)
 | 2=>(2,6,10,14)
 | 3=>(3,7,11,15)
 | 4=>(0,5,10,15)
 | 5=>(1,6,11,12)
 | 6=>(2,7,8,13)
 | _=>(3,4,9,14)
def rstep(s:List UInt32)(r:Nat):List UInt32:=Ch.round s (place r).1 (place r).2.1 (place r).2.2.1 (place r).2.2.2
def rsteps(s:List UInt32):Nat→List UInt32
 | 0=>s
 | i+1=>rstep (rsteps s i) (i%8)
theorem zo8(s:List UInt32)(i:Nat):(rsteps s i).length=s.length:=by
 induction i with
 | zero=>rfl
 | succ i ih=>rw[rsteps,rstep,Ch.round_len,ih]
theorem zjs(s:List UInt32)(k:Nat):rsteps s (8*k)=Ch.rounds s k:=by
 induction k with
 | zero=>rfl
 | succ k ih =>
  have e:rsteps s (8*(k+1))=rstep (rstep (rstep (rstep (rstep (rstep (rstep (rstep (rsteps s (8*k)) ((8*k)%8)) ((8*k+1)%8)) ((8*k+2)%8)) ((8*k+3)%8)) ((8*k+4)%8)) ((8*k+5)%8)) ((8*k+6)%8)) ((8*k+7)%8):=rfl;rw[e,ih,show 8*k%8=0 by omega,show(8*k+1)%8=1 by omega,show(8*k+2)%8=2 by omega,show(8*k+3)%8=3 by omega,show(8*k+4)%8=4 by omega,show(8*k+5)%8=5 by omega,show(8*k+6)%8=6 by omega,show(8*k+7)%8=7 by omega]
  rfl
def placesC:List Value:=([0,4,8,12,1,5,9,13,2,6,10,14,3,7,11,15,0,5,10,15,1,6,11,12,2,7,8,13,3,4,9,14]:List Int).map (Value.int .i64)
theorem zr1(r:Nat)(h:r<8):placesC[r*4]? = some (.int .i64 ((place r).1:Int))∧placesC[r*4+1]? = some (.int .i64 ((place r).2.1:Int))∧placesC[r*4+2]? = some (.int .i64 ((place r).2.2.1:Int))∧placesC[r*4+3]? = some (.int .i64 ((place r).2.2.2:Int)):=by
 obtain rfl|rfl|rfl|rfl|rfl|rfl|rfl|rfl:r=0∨r=1∨r=2∨r=3∨r=4∨r=5∨r=6∨r=7:=om
 all_goals exact⟨rfl,rfl,rfl,rfl⟩
theorem zuw(r:Nat)(h:r<8):(place r).1<16∧(place r).2.1<16∧(place r).2.2.1<16∧(place r).2.2.2<16:=by
 obtain rfl|rfl|rfl|rfl|rfl|rfl|rfl|rfl:r=0∨r=1∨r=2∨r=3∨r=4∨r=5∨r=6∨r=7:=om
 all_goals decide
theorem zd6{s:List UInt32}(h:s.length=16)(rest:List Value)(i:Nat)(hi:i<16):(u32s s++rest)[i]? = some (.int .u32 (n32 (s.getD i 0))):=by
 rw[ll9 (by rw[za4];omega)];exact zd7 h i hi
theorem zxj{s:List UInt32}(rest:List Value)(i:Nat)(x:UInt32)(hi:i<s.length):(u32s s++rest).set i (.int .u32 (n32 x))=u32s (s.set i x)++rest:=by
 rw[List.set_append_left _ _ (by rw[za4];exact hi),zce]
def pk(p:Nat × Nat × Nat × Nat):Nat→Nat
 | 0=>p.1
 | 1=>p.2.1
 | 2=>p.2.2.1
 | _=>p.2.2.2
def yk(y:Q4):Nat→UInt32
 | 0=>y.1
 | 1=>y.2.1
 | 2=>y.2.2.1
 | _=>y.2.2.2
def setk(s:List UInt32)(p:Nat × Nat × Nat × Nat)(y:Q4):Nat→List UInt32
 | 0=>s
 | k+1=>(setk s p y k).set (pk p k) (yk y k)
theorem zt8(s:List UInt32)(p:Nat × Nat × Nat × Nat)(y:Q4)(k:Nat):(setk s p y k).length=s.length:=by
 induction k with
 | zero=>rfl
 | succ k ih=>rw[setk,List.length_set,ih]
theorem pk_lt{p:Nat × Nat × Nat × Nat}(h0:p.1<16)(h1:p.2.1<16)(h2:p.2.2.1<16)(h3:p.2.2.2<16)(k:Nat):pk p k<16:=by
 match k with
 | 0=>exact h0
 | 1=>exact h1
 | 2=>exact h2
 | k+3=>exact h3
theorem zyb(a b c d k:Nat)(hk:k<4):([.int .i64 (a:Int),.int .i64 (b:Int),.int .i64 (c:Int),.int .i64 (d:Int)]:List Value)[k]? = some (.int .i64 (pk (a,b,c,d) k:Int)):=by
 obtain rfl|rfl|rfl|rfl:k=0∨k=1∨k=2∨k=3:=om
 all_goals rfl
theorem zwz(y:Q4)(k:Nat)(hk:k<4):(q4s y)[k]? = some (.int .u32 (n32 (yk y k))):=by
 obtain rfl|rfl|rfl|rfl:k=0∨k=1∨k=2∨k=3:=om
 all_goals rfl
theorem szInt(w:World):(sizeOf 3).run Tryz.prog w=.ok 1 w:=by kernel_rfl
theorem build191(w:World):(Instr.build 223 #[(0,.agg #[.int .i64 0,.int .i64 4,.int .i64 8,.int .i64 12]),(1,.agg #[.int .i64 1,.int .i64 5,.int .i64 9,.int .i64 13]),(2,.agg #[.int .i64 2,.int .i64 6,.int .i64 10,.int .i64 14]),(3,.agg #[.int .i64 3,.int .i64 7,.int .i64 11,.int .i64 15]),(4,.agg #[.int .i64 0,.int .i64 5,.int .i64 10,.int .i64 15]),(5,.agg #[.int .i64 1,.int .i64 6,.int .i64 11,.int .i64 12]),(6,.agg #[.int .i64 2,.int .i64 7,.int .i64 8,.int .i64 13]),(7,.agg #[.int .i64 3,.int .i64 4,.int .i64 9,.int .i64 14])]).run Tryz.prog w=.ok (.agg placesC.toArray) w:=by kernel_rfl
theorem hd191:(Tryz.prog.info? 223).map (·.size)=some placesC.length:=by kernel_rfl
theorem zpm:∀v∈placesC,v.oneCell'=true:=by
 intro v hv;obtain⟨c,_,rfl⟩:=List.mem_map.1 hv
 rfl
attribute [local go_sem] zee zem
theorem zmh(A B:Option Addr)(c d:Nat)(I D:List UInt8)(G:UInt32)(w:World)(h:Rd w A 32 (u8s I))(h2:Rd w B 12 (u8s D)):
 Calls Tryz.prog 116 #[.slice A 32 c,.slice B 12 d,.int .u32 (n32 G)] w fun e w'=>∃A' c',e=.returned (.slice A' 64 c')∧64≤c'∧w'.ownsRow w.heap.size 5 1 (.slice A' 64 c') 64 (u8s (Ch.block I D G))∧Below w.heap.size w w':=by
 have j0:=zfu (some ⟨w.heap.size,0,none⟩) 16 16 4 sigmaB (w.alloc (.cells (u8s sigmaB).toArray 5 (16,17))) (zhg w 5 (u8s sigmaB) (16,17)) om om;have g2:(w.alloc (.cells (u8s sigmaB).toArray 5 (16,17))).heap.size=w.heap.size+1:=by simp
 rw[g2,zl7]at j0;have e8:Hid (Calls Tryz.prog 137 #[.slice (some ⟨w.heap.size,0,none⟩) 16 16] (w.alloc (.cells #[.int .u8 101,.int .u8 120,.int .u8 112,.int .u8 97,.int .u8 110,.int .u8 100,.int .u8 32,.int .u8 51,.int .u8 50,.int .u8 45,.int .u8 98,.int .u8 121,.int .u8 116,.int .u8 101,.int .u8 32,.int .u8 107] 5 (16,17))) fun e w'=>∃A' c',e=.returned (.slice A' 4 c')∧4≤c'∧w'.ownsRow (w.heap.size+1) 61 1 (.slice A' 4 c') 4 (u32s Ch.sigma)∧Below (w.heap.size+1) (w.alloc (.cells (u8s sigmaB).toArray 5 (16,17))) w'):=j0;have n1:=qh (fun W (hr:Rd W A 32 (u8s I))=>zfu A 32 c 8 I W hr om om);have o1:=qh (fun W (hr:Rd W B 12 (u8s D))=>zfu B 12 d 3 D W hr om om);have HK:=qh h;have HN:=qh h2;have i2:Hid (u32s Ch.sigma++u32s (Ch.words I 8)++u32s [G]++u32s (Ch.words D 3)=u32s (Ch.initial I D G)):=by show _=_;simp[u32s,Ch.initial]
 have e2:=Ch.initial_len I D G;have o4:Hid (Ch.block I D G=Ch.final (Ch.rounds (Ch.initial I D G) 10) (Ch.initial I D G) 16):=rfl;obtain⟨s0,m3⟩:=ex9 (Ch.initial I D G);rw[←m3]at i2 e2 o4;have l1:=qh e2;have kc:=fun(w:World) (C:Array Value) (n c:Nat)=>Lib.run_convert_bytes_const (P:=Tryz.prog) w 22 5 C n c Tryz.underlying22 Tryz.underlying5
 clear h h2 m3 e2 j0 g2
 go_enter Tryz.func116, Tryz.ntmps116
 go_wp2_with (first
  | (go_at_call 137;(with_reducible refine e8.o.mono ?_);rintro e w1 ⟨A1,c1,rfl,x8,d7,j8⟩;have j2:=qh (((Below.refl _ w).alloc lr (.cells (u8s sigmaB).toArray 5 (16,17))).trans (j8.mono (Nat.le_succ _)));have l2:=qh (zbi d7 (base':=w.heap.size) (Nat.le_succ _));clear d7 j8 kc)
  | (go_at_call 137;(with_reducible refine(n1.o w1 (by exact HK.o.below j2.o)).mono ?_);rintro e w2 ⟨A2,c2,rfl,v9,b9,h4⟩;have f4:=qtr j2 h4;have d5:=qh (zas l2.o h4);have m8:=qh (Rd.of_own b9);clear b9 h4)
  | (at_builtin;refine zah rfl (.tmp 21) (.tmp 23) 220 rfl w.heap.size 61 1 4 Tryz.underlying220 eU32 (.slice A1 4 c1) 4 (u32s Ch.sigma) rr (by exact d5.o) A2 8 c2 (u32s (Ch.words I 8)) rr (by exact m8.o.toS) (zbc _) om om f4.o.size ?_;intro A3 c3 w3 d3 x1 m5 n7;have e1:=qh (f4.o.grown m5 f4.o.size (fun g hg=>(d5.o.lt g hg).1));have j4:=qh d3;have m1:Hid (RdS 1 (w3.alloc (.cells #[.int .u32 (n32 G)] 61)) (some ⟨w3.heap.size,0,none⟩) 1 (u32s [G])):=RdS.new w3 61 (u32s [G]) 1 rfl;clear d3 m5 n7)
  | (at_builtin;refine zah rfl (.tmp 25) (.tmp 27) 220 rfl w.heap.size 61 1 4 Tryz.underlying220 eU32 (.slice A3 12 c3) 12 (u32s Ch.sigma++u32s (Ch.words I 8)) rr (by exact j4.o.alloc _) (some ⟨w3.heap.size,0,none⟩) 1 1 (u32s [G]) rr (by exact m1.o) (zbc _) om om (Nat.le_trans e1.o.size sy) ?_;intro A4 c4 w4 U s3 a8 d4;have i8:=qh ((e1.o.alloc e1.o.size _).grown a8 (Nat.le_trans e1.o.size sy) (fun g hg=>(j4.o.lt g hg).1));have d9:=qh U;clear U a8 d4)
  | (go_at_call 137;(with_reducible refine(o1.o w4 (by exact HN.o.below i8.o)).mono ?_);rintro e w5 ⟨A5,c5,rfl,x5,e4,J⟩;have f3:=qtr i8 J;have d0:=qh (zas d9.o J);have p5:=qh (Rd.of_own e4);clear e4 J)
  | (at_builtin;refine zah rfl (.tmp 29) (.tmp 31) 220 rfl w.heap.size 61 1 4 Tryz.underlying220 eU32 (.slice A4 13 c4) 13 (u32s Ch.sigma++u32s (Ch.words I 8)++u32s [G]) rr (by exact d0.o) A5 3 c5 (u32s (Ch.words D 3)) rr (by exact p5.o.toS) (zbc _) om om f3.o.size ?_;intro A6 c6 w6 c8 x0 o5 k8;have i5:=qh (f3.o.grown o5 f3.o.size (fun g hg=>(d0.o.lt g hg).1));have b4:=qh c8;rw[i2.o]at b4;obtain⟨gs,rest,r6,n2,o0⟩:=zmq b4.o om;subst r6;have b3:=qh o0;have k9:=qh (Rd.of_own b4.o);have q0:Hid ((w6.alloc (.cells #[] 61)).ownsRow w6.heap.size 61 1 (.slice (some ⟨w6.heap.size,0,none⟩) 0 0) 0 []):=⟨rfl,.inr ⟨w6.heap.size,0,#[],rfl,lr,heap_alloc_new w6 _,lr,by simp[maxLen],rfl,rfl⟩⟩;clear c8 o5 k8 o0 b4)
  | (at_builtin;refine zah rfl (.tmp 33) (.tmp 34) 220 rfl w6.heap.size 61 1 4 Tryz.underlying220 eU32 (.slice (some ⟨w6.heap.size,0,none⟩) 0 0) 0 [] rr (by exact q0.o) (some ⟨gs,0,none⟩) 16 c6 (u32s s0) rr (by exact(k9.o.alloc _).toS) (zbc _) om om sy ?_;intro A7 c7 w7 e0 v5 n6 q7;have i4:Hid (Below w6.heap.size w6 w7):=((Below.refl _ _).alloc lr _).grown n6 sy (by intro k hk;simp[Value.ownBlock]at hk;omega);have e3:=qh (i5.o.trans (i4.o.mono i5.o.size));have i6:=qh (b3.o.below i4.o b3.o.lt);obtain⟨go,V,s5,t8,q6⟩:=zmq e0 om;subst s5;have h6:Hid (Blk w7 go 61 (u32s s0++V)):=q6;have t9:gs<go:=by have:=b3.o.lt;omega
     clear e0 n6 q7 q6)
  | refine zai rfl 223 [(0,.tmp 36),(1,.tmp 37),(2,.tmp 38),(3,.tmp 39),(4,.tmp 40),(5,.tmp 41),(6,.tmp 42),(7,.tmp 43)] rfl _ rr (.agg placesC.toArray) (build191 _) ?_
  | (refine zab rfl 223 (.tmp 9) (.tmp 44) rfl w7.heap.size placesC rr rr 223 (List.replicate 32 (.int .i64 0)) (by exact Blk.new' rfl rfl) hd191 zpm rfl ?_;intro w8 l5 f0;have s8:=i6.o.lt;have o6:=h6.o.lt;have k4:=qh l5;have n4:=qh (f0.blk (i6.o.alloc _) om);have k5:=qh (f0.blk (h6.o.alloc _) om);have l0:=qh (f0.below (e3.o.alloc e3.o.size _) e3.o.size (Nat.le_trans e3.o.size sy));clear l5 f0))
 clear b3 k9 q0 i5 i4 e3 i6 h6 j2 l2 f4 d5 m8 e1 j4 m1 i8 d9 f3 d0 p5 e8 n1 o1 HK HN i2;have x2:go<w7.heap.size:=o6;have s6:w.heap.size≤gs:=n2;have o9:Hid (Blk w8 gs 61 (u32s (rsteps s0 0)++rest)):=n4.o;clear s8 o6 n4 n2 t8;generalize w7.heap.size=gp at *
 go_loopg [10] 80 (fun kk q wr=>∃(i:Nat) (S:List UInt32),i≤80∧kk=80-i∧q=.int .i64 i∧S=rsteps s0 i∧Blk wr gs 61 (u32s S++rest)∧Blk wr go 61 (u32s s0++V)∧Blk wr gp 223 placesC∧Below w.heap.size w wr)
 case atStart=>exact⟨0,_,by omega,rfl,rfl,rfl,o9.o,k5.o,k4.o,l0.o⟩
 case round =>
  clear o9 k5 k4 l0;obtain⟨i,S,hi,p6,rfl,hS,hb,ho,hp,hB⟩:=hrel;have s1:=qh p6;clear p6;have a9:S.length=16:=by rw[hS,zo8];exact l1.o
  have p4:=qh a9
  by_cases hlt:i<80
  · have q5:(i:Int)<80:=om
    obtain⟨r,hr⟩:=ex9 (i%8);have v6:(i:Int)%8=(r:Int):=om;have x3:(0:Int)≤(r:Int):=om;have v8:(r:Int)<8:=om;have g0:r<8:=om;have s7:Hid (rsteps s0 (i+1)=rstep S r):=by show _=_;rw[hS,hr];rfl
    have n5:=zr1 r g0;have j7:=zuw r g0;have h1:Hid (rstep S r=setk S (place r) (qst (S.getD (place r).1 0,S.getD (place r).2.1 0,S.getD (place r).2.2.1 0,S.getD (place r).2.2.2 0) 4) 4):=rfl
    rcases hpe:place r with ⟨p0,p1,p2,p3⟩
    rw[hpe]at h1 n5 j7;obtain⟨j5,j3,i3,g9⟩:=j7;obtain⟨k0,k1,k2,k3⟩:=n5;have t0:=(hp.cell (r*4)).trans k0;have t1:=(hp.cell (r*4+1)).trans k1;have t2:=(hp.cell (r*4+2)).trans k2;have t3:=(hp.cell (r*4+3)).trans k3;have a0:=(hb.cell p0).trans (zd6 a9 rest p0 j5);have a1:=(hb.cell p1).trans (zd6 a9 rest p1 j3);have a2:=(hb.cell p2).trans (zd6 a9 rest p2 i3);have a3:=(hb.cell p3).trans (zd6 a9 rest p3 g9);have i9:=qh a0;have h0:=qh a1;have h9:=qh a2;have i0:=qh a3;have l6:=qh j5;have p9:=qh j3;have l7:=qh i3;have m6:=qh g9;have HB:=qh hb;have HO:=qh ho;have f2:=qh hp;have M:=qh hB;have r5:=hp.lt;have c0:=qh (fun W=>zk6 (S.getD p0 0,S.getD p1 0,S.getD p2 0,S.getD p3 0) W);have m9:Hid (q4s (S.getD p0 0,S.getD p1 0,S.getD p2 0,S.getD p3 0)=[.int .u32 (n32 (S.getD p0 0)),.int .u32 (n32 (S.getD p1 0)),.int .u32 (n32 (S.getD p2 0)),.int .u32 (n32 (S.getD p3 0))]):=rfl;obtain⟨Y,hY⟩:=ex9 (qst (S.getD p0 0,S.getD p1 0,S.getD p2 0,S.getD p3 0) 4);rw[←hY]at c0 h1;rw[m9.o]at c0;obtain⟨xa,h5⟩:=ex9 (S.getD p0 0);obtain⟨xb,i7⟩:=ex9 (S.getD p1 0);obtain⟨xc,j6⟩:=ex9 (S.getD p2 0);obtain⟨xd,g7⟩:=ex9 (S.getD p3 0);rw[←h5,←i7,←j6,←g7]at c0;rw[←h5]at i9;rw[←i7]at h0;rw[←j6]at h9;rw[←g7]at i0;have a7:Hid (Blk (wr.alloc (.cells #[.int .i64 p0,.int .i64 p1,.int .i64 p2,.int .i64 p3] 222)) wr.heap.size 222 [.int .i64 p0,.int .i64 p1,.int .i64 p2,.int .i64 p3]):=Blk.new' rfl rfl;have X:Hid (Below wr.heap.size wr (wr.alloc (.cells #[.int .i64 p0,.int .i64 p1,.int .i64 p2,.int .i64 p3] 222))):=(Below.refl _ _).alloc lr _;have e9:w.heap.size≤wr.heap.size:=hB.size;clear h5 i7 j6 g7 hY m9 hb ho hp hB a0 a1 a2 a3 k0 k1 k2 k3 j5 j3 i3 g9 hpe a9 hr
    go_wp2_with fail
    obtain⟨w9,g8⟩:=ex9 (wr.alloc (.cells #[.int .i64 p0,.int .i64 p1,.int .i64 p2,.int .i64 p3] 222));rw[←g8]at a7 X ⊢;have x6:wr.heap.size<w9.heap.size:=by rw[g8];simp
    have E:=HB.o.lt;have b1:=HO.o.lt;have h3:=qh (HB.o.below X.o E);have f1:=qh (HO.o.below X.o b1);have b2:=qh (f2.o.below X.o r5);have b6:=qh (M.o.trans (X.o.mono e9));have f7:=qh ((X.o.cell (p:=⟨gs,p0,none⟩) E).trans i9.o);have g1:=qh ((X.o.cell (p:=⟨gs,p1,none⟩) E).trans h0.o);have g3:=qh ((X.o.cell (p:=⟨gs,p2,none⟩) E).trans h9.o);have g5:=qh ((X.o.cell (p:=⟨gs,p3,none⟩) E).trans i0.o);clear g8 t0 t1 t2 t3 HB HO f2 M X i9 h0 h9 i0;generalize wr.heap.size=gq at *;have b7:=a7.o.lt;have a6:=h3.o.lt
    have hT:w9.drew.cell? ⟨gq,0,none⟩=some (.int .i64 p0)∧w9.drew.cell? ⟨gq,1,none⟩=some (.int .i64 p1)∧w9.drew.cell? ⟨gq,2,none⟩=some (.int .i64 p2)∧w9.drew.cell? ⟨gq,3,none⟩=some (.int .i64 p3)∧w9.drew.cell? ⟨gs,p0,none⟩=some (.int .u32 (n32 xa))∧w9.drew.cell? ⟨gs,p1,none⟩=some (.int .u32 (n32 xb))∧w9.drew.cell? ⟨gs,p2,none⟩=some (.int .u32 (n32 xc))∧w9.drew.cell? ⟨gs,p3,none⟩=some (.int .u32 (n32 xd)) :=
     ⟨(a7.o.cell 0).trans rfl,(a7.o.cell 1).trans rfl,(a7.o.cell 2).trans rfl,(a7.o.cell 3).trans rfl,f7.o,g1.o,g3.o,g5.o⟩
    have m0:Hid (∀W,Below w9.drew.heap.size w9.drew W→W.cell? ⟨gq,0,none⟩=some (.int .i64 p0)∧W.cell? ⟨gq,1,none⟩=some (.int .i64 p1)∧W.cell? ⟨gq,2,none⟩=some (.int .i64 p2)∧W.cell? ⟨gq,3,none⟩=some (.int .i64 p3)∧W.cell? ⟨gs,p0,none⟩=some (.int .u32 (n32 xa))∧W.cell? ⟨gs,p1,none⟩=some (.int .u32 (n32 xb))∧W.cell? ⟨gs,p2,none⟩=some (.int .u32 (n32 xc))∧W.cell? ⟨gs,p3,none⟩=some (.int .u32 (n32 xd))):=fun W hW =>
     ⟨(hW.cell (p:=⟨gq,0,none⟩) b7).trans hT.1,(hW.cell (p:=⟨gq,1,none⟩) b7).trans hT.2.1,(hW.cell (p:=⟨gq,2,none⟩) b7).trans hT.2.2.1,(hW.cell (p:=⟨gq,3,none⟩) b7).trans hT.2.2.2.1,(hW.cell (p:=⟨gs,p0,none⟩) a6).trans hT.2.2.2.2.1,(hW.cell (p:=⟨gs,p1,none⟩) a6).trans hT.2.2.2.2.2.1,(hW.cell (p:=⟨gs,p2,none⟩) a6).trans hT.2.2.2.2.2.2.1,(hW.cell (p:=⟨gs,p3,none⟩) a6).trans hT.2.2.2.2.2.2.2⟩
    refine kgo kr 23 (fun w'=>w'.cell? ⟨gq,0,none⟩=some (.int .i64 p0)∧w'.cell? ⟨gq,1,none⟩=some (.int .i64 p1)∧w'.cell? ⟨gq,2,none⟩=some (.int .i64 p2)∧w'.cell? ⟨gq,3,none⟩=some (.int .i64 p3)∧w'.cell? ⟨gs,p0,none⟩=some (.int .u32 (n32 xa))∧w'.cell? ⟨gs,p1,none⟩=some (.int .u32 (n32 xb))∧w'.cell? ⟨gs,p2,none⟩=some (.int .u32 (n32 xc))∧w'.cell? ⟨gs,p3,none⟩=some (.int .u32 (n32 xd))) hT (fun _ _ _ _ _ h=>h) ?_;refine kp 0 (.slice (some ⟨gs,0,none⟩) 16 c6) rfl kr (fun _=>kr) ?_;refine kp 1 (.pointer (some ⟨gq,0,none⟩)) rfl kr (fun _=>kr) ?_;refine kl 2 (.int .i64 p0) rfl kr (fun w' hw'=>za0 (t:=3) (x:=.tmp 54) (p:=⟨gq,0,none⟩) rr kr agInt hw'.1) ?_;refine kp 3 (.pointer (some ⟨gs,0+p0,none⟩)) rfl kr (fun _=>zeo (t:=220) (x:=.tmp 53) (y:=.tmp 55) (g:=gs) (off:=0) (n:=16) (c:=c6) (p:=p0) rr kr kr l6.o Tryz.underlying220 szU32) ?_;refine kl 4 (.int .u32 (n32 xa)) rfl kr (fun w' hw'=>za0 (t:=61) (x:=.tmp 56) (p:=⟨gs,0+p0,none⟩) rr kr agU32 (by rw[Nat.zero_add];exact hw'.2.2.2.2.1)) ?_;refine kp 5 (.slice (some ⟨gs,0,none⟩) 16 c6) rfl kr (fun _=>kr) ?_;refine kp 6 (.pointer (some ⟨gq,1,none⟩)) rfl kr (fun _=>kr) ?_;refine kl 7 (.int .i64 p1) rfl kr (fun w' hw'=>za0 (t:=3) (x:=.tmp 59) (p:=⟨gq,1,none⟩) rr kr agInt hw'.2.1) ?_;refine kp 8 (.pointer (some ⟨gs,0+p1,none⟩)) rfl kr (fun _=>zeo (t:=220) (x:=.tmp 58) (y:=.tmp 60) (g:=gs) (off:=0) (n:=16) (c:=c6) (p:=p1) rr kr kr p9.o Tryz.underlying220 szU32) ?_;refine kl 9 (.int .u32 (n32 xb)) rfl kr (fun w' hw'=>za0 (t:=61) (x:=.tmp 61) (p:=⟨gs,0+p1,none⟩) rr kr agU32 (by rw[Nat.zero_add];exact hw'.2.2.2.2.2.1)) ?_;refine kp 10 (.slice (some ⟨gs,0,none⟩) 16 c6) rfl kr (fun _=>kr) ?_;refine kp 11 (.pointer (some ⟨gq,2,none⟩)) rfl kr (fun _=>kr) ?_;refine kl 12 (.int .i64 p2) rfl kr (fun w' hw'=>za0 (t:=3) (x:=.tmp 64) (p:=⟨gq,2,none⟩) rr kr agInt hw'.2.2.1) ?_;refine kp 13 (.pointer (some ⟨gs,0+p2,none⟩)) rfl kr (fun _=>zeo (t:=220) (x:=.tmp 63) (y:=.tmp 65) (g:=gs) (off:=0) (n:=16) (c:=c6) (p:=p2) rr kr kr l7.o Tryz.underlying220 szU32) ?_;refine kl 14 (.int .u32 (n32 xc)) rfl kr (fun w' hw'=>za0 (t:=61) (x:=.tmp 66) (p:=⟨gs,0+p2,none⟩) rr kr agU32 (by rw[Nat.zero_add];exact hw'.2.2.2.2.2.2.1)) ?_;refine kp 15 (.slice (some ⟨gs,0,none⟩) 16 c6) rfl kr (fun _=>kr) ?_;refine kp 16 (.pointer (some ⟨gq,3,none⟩)) rfl kr (fun _=>kr) ?_;refine kl 17 (.int .i64 p3) rfl kr (fun w' hw'=>za0 (t:=3) (x:=.tmp 69) (p:=⟨gq,3,none⟩) rr kr agInt hw'.2.2.2.1) ?_;refine kp 18 (.pointer (some ⟨gs,0+p3,none⟩)) rfl kr (fun _=>zeo (t:=220) (x:=.tmp 68) (y:=.tmp 70) (g:=gs) (off:=0) (n:=16) (c:=c6) (p:=p3) rr kr kr m6.o Tryz.underlying220 szU32) ?_;refine kl 19 (.int .u32 (n32 xd)) rfl kr (fun w' hw'=>za0 (t:=61) (x:=.tmp 71) (p:=⟨gs,0+p3,none⟩) rr kr agU32 (by rw[Nat.zero_add];exact hw'.2.2.2.2.2.2.2)) ?_;refine kp 20 (.agg #[.int .u32 (n32 xa),.int .u32 (n32 xb),.int .u32 (n32 xc),.int .u32 (n32 xd)]) rfl kr (fun _=>kr) ?_;intro q8 q9;clear q8 q9;refine AnyK.call_alloc 21 22 23 (d1:=74) (d2:=12) (by decide) (f:=138) (args:=#[.agg #[.int .u32 (n32 xa),.int .u32 (n32 xb),.int .u32 (n32 xc),.int .u32 (n32 xd)]]) (ty:=224) (q4s Y) (q4s (0,0,0,0)) rfl rfl rfl (fun _ _=>⟨by kernel_rfl,by kernel_rfl⟩) rfl rfl rfl (fun _ _=>by kernel_rfl) rfl rfl rfl rfl (fun _ _=>by kernel_rfl) (fun _ _=>by kernel_rfl) kr kr kr kr (fun W _=>c0.o W) hd192 (zbc _) rfl (fun W hW=>m0.o W hW) ?_;intro gy x4 p8 n0 a4;refine AnyK.done kr ?_;have v1:w9.heap.size≤gy:=p8;have d8:=qh (a7.o.drew.below a4 b7);have g4:=qh (h3.o.drew.below a4 a6);have f9:=qh (f1.o.drew.below a4 f1.o.lt);have c9:=qh (b2.o.drew.below a4 b2.o.lt);have e7:=qh (b6.o.drew.trans (a4.mono b6.o.size));have e5:=qh n0;have r4:=b2.o.lt;have r2:=f1.o.lt;have v0:gs<gq:=E;clear hT m0 a4 n0 a7 h3 f1 b2 b6 f7 g1 g3 g5 p8 c0
    go_wp2_with fail
    go_loopg [13] 4 (fun kk q w2=>∃k:Nat,k≤4∧kk=4-k∧q=.int .i64 k∧Blk w2 gs 61 (u32s (setk S (p0,p1,p2,p3) Y k)++rest)∧Blk w2 go 61 (u32s s0++V)∧Blk w2 gp 223 placesC∧Blk w2 gq 222 [.int .i64 p0,.int .i64 p1,.int .i64 p2,.int .i64 p3]∧Blk w2 gy 224 (q4s Y)∧Below w.heap.size w w2)
    case atStart=>exact⟨0,by omega,rfl,rfl,g4.o,f9.o,c9.o,d8.o,e5.o,e7.o⟩
    case round =>
     clear g4 f9 c9 d8 e5 e7;obtain⟨k,hk,k6,rfl,hb,ho,hp,hq,hy,hB⟩:=hrel;have r0:=qh k6;clear k6
     by_cases hk4:k<4
     · have n9:(k:Int)<4:=om
       have j1:=qh (pk_lt (p:=(p0,p1,p2,p3)) l6.o p9.o l7.o m6.o k);have l8:=(hq.cell k).trans (zyb p0 p1 p2 p3 k hk4);have m7:=(hy.cell k).trans (zwz Y k hk4);have g6:=qh ((zt8 S (p0,p1,p2,p3) Y k).trans p4.o);obtain⟨v,hv⟩:∃v,(u32s (setk S (p0,p1,p2,p3) Y k)++rest)[pk (p0,p1,p2,p3) k]? = some v:=⟨_,zd6 g6.o rest _ j1.o⟩;have t6:=qh ((hb.cell (pk (p0,p1,p2,p3) k)).trans hv);have r1:=qh (hb.frozen (pk (p0,p1,p2,p3) k));have h7:=(hb.drew).set_ (pk (p0,p1,p2,p3) k) (.int .u32 (n32 (yk Y k)));rw[zxj rest _ _ (by rw[g6.o];exact j1.o)]at h7;have s4:Hid (Blk (wr.drew.setCell ⟨gs,pk (p0,p1,p2,p3) k,none⟩ (.int .u32 (n32 (yk Y k)))) gs 61 (u32s (setk S (p0,p1,p2,p3) Y (k+1))++rest)):=h7;have d5:=qh (ho.drew.far (p:=⟨gs,pk (p0,p1,p2,p3) k,none⟩) (by show go≠gs;omega) (.int .u32 (n32 (yk Y k))));have l3:=qh (hp.drew.far (p:=⟨gs,pk (p0,p1,p2,p3) k,none⟩) (by show gp≠gs;omega) (.int .u32 (n32 (yk Y k))));have t7:=qh (hq.drew.far (p:=⟨gs,pk (p0,p1,p2,p3) k,none⟩) (by show gq≠gs;omega) (.int .u32 (n32 (yk Y k))));have s9:=qh (hy.drew.far (p:=⟨gs,pk (p0,p1,p2,p3) k,none⟩) (by show gy≠gs;omega) (.int .u32 (n32 (yk Y k))));have n3:=qh (hB.drew.setCell (p:=⟨gs,pk (p0,p1,p2,p3) k,none⟩) s6 (.int .u32 (n32 (yk Y k))));have r3:=qh l8;have f6:=qh m7;clear hb ho hp hq hy hB hv h7 l8 m7;generalize pk (p0,p1,p2,p3) k=pp at *;generalize yk Y k=yy at *
       go_wp2_with fail
       have hT:wr.drew.cell? ⟨gq,k,none⟩=some (.int .i64 (pp:Int))∧wr.drew.cell? ⟨gy,k,none⟩=some (.int .u32 (n32 yy)):=⟨r3.o,f6.o⟩;refine kgo kr 8 (fun w'=>w'.cell? ⟨gq,k,none⟩=some (.int .i64 (pp:Int))∧w'.cell? ⟨gy,k,none⟩=some (.int .u32 (n32 yy))) hT (fun _ _ _ _ _ h=>h) ?_;refine kp 0 (.slice (some ⟨gs,0,none⟩) 16 c6) rfl kr (fun _=>kr) ?_;refine kp 1 (.int .i64 k) rfl kr (fun _=>kr) ?_;refine kp 2 (.pointer (some ⟨gq,0+k,none⟩)) rfl kr (fun _=>zdu (t:=222) (x:=.tmp 11) (y:=.tmp 80) (g:=gq) (off:=0) (m:=4) (p:=k) rr kr kr hk4 Tryz.underlying222 szInt) ?_;refine kl 3 (.int .i64 (pp:Int)) rfl kr (fun w' hw'=>za0 (t:=3) (x:=.tmp 81) (p:=⟨gq,0+k,none⟩) rr kr agInt (by rw[Nat.zero_add];exact hw'.1)) ?_;refine kp 4 (.int .i64 k) rfl kr (fun _=>kr) ?_;refine kp 5 (.pointer (some ⟨gy,0+k,none⟩)) rfl kr (fun _=>zdu (t:=224) (x:=.tmp 12) (y:=.tmp 83) (g:=gy) (off:=0) (m:=4) (p:=k) rr kr kr hk4 Tryz.underlying224 szU32) ?_;refine kl 6 (.int .u32 (n32 yy)) rfl kr (fun w' hw'=>za0 (t:=61) (x:=.tmp 84) (p:=⟨gy,0+k,none⟩) rr kr agU32 (by rw[Nat.zero_add];exact hw'.2)) ?_;refine kp 7 (.pointer (some ⟨gs,0+pp,none⟩)) rfl kr (fun _=>zeo (t:=220) (x:=.tmp 79) (y:=.tmp 82) (g:=gs) (off:=0) (n:=16) (c:=c6) (p:=pp) rr kr kr j1.o Tryz.underlying220 szU32) ?_;intro q8 q9;clear q8 q9;refine AnyK.store 8 (d:=none) (op:=.store 61 (.tmp 86) (.tmp 85)) kr (fun o ho=>zc6 (p:=⟨gs,0+pp,none⟩) (k:=.u32) (n:=n32 yy) ho kr kr szU32 (by rw[Nat.zero_add];exact t6.o) (by rw[Nat.zero_add];exact r1.o)) kr (fun h=>(by cases h)) ?_;refine AnyK.done kr ?_;rw[Nat.zero_add];clear hT
       go_wp2_with fail
       go_roundg (4-(k+1))
       case measure=>have:=r0.o;omega
       case rel=>exact⟨k+1,by omega,rfl,by go_num,s4.o,d5.o,l3.o,t7.o,s9.o,n3.o⟩
     · obtain rfl:k=4:=om
       have n9:¬((4:Nat):Int)<4:=om;have HB:=qh hb;clear hb hq hy;have HO:=qh ho;have f2:=qh hp;have M:=qh hB;clear ho hp hB
       go_wp2_with fail
       go_roundg (80-(i+1))
       case measure=>have:=s1.o;omega
       case rel=>exact⟨i+1,_,by omega,rfl,by go_num,by rw[s7.o,h1.o],HB.o,HO.o,f2.o,M.o⟩
  · obtain rfl:i=80:=om
    have q5:¬((80:Nat):Int)<80:=om;have o3:S=Ch.rounds s0 10:=by rw[hS];exact zjs s0 10
    have r8:=qh o3;have m4:=hb.lt;have q3:=ho.lt;have HB:=qh hb;have HO:=qh ho;have M:=qh hB;have q2:=hB.size;obtain⟨W0,i1⟩:=ex9 (wr.heap.size);rw[←i1]at m4 q3 q2;have e8:Hid (W0≤wr.heap.size):=Nat.le_of_eq i1;clear hb ho hB hS o3 hp i1 a9
    go_wp2_with fail
    go_loopg [14,15] 16 (fun kk v q w2=>∃i:Nat,i≤16∧kk=16-i∧q=.int .i64 i∧(∃A' c',v=.slice A' (4*i) c'∧4*i≤c'∧w2.ownsRow W0 5 1 (.slice A' (4*i) c') (4*i) (u8s (Ch.final S s0 i)))∧Blk w2 gs 61 (u32s S++rest)∧Blk w2 go 61 (u32s s0++V)∧Below w.heap.size w w2∧W0≤w2.heap.size)
    case atStart=>exact⟨0,by omega,rfl,rfl,⟨_,_,rfl,by omega,⟨rfl,.inl ⟨rfl,rfl⟩⟩⟩,HB.o,HO.o,M.o,e8.o⟩
    case round =>
     clear HB HO M e8;obtain⟨i,hi,m2,rfl,⟨A',c',rfl,r9,a5⟩,hb,ho,hB,v2⟩:=hrel;have t4:=qh m2;clear m2
     by_cases hlt:i<16
     · have o7:(i:Int)<16:=om
       have cx:=(hb.cell i).trans (zd6 p4.o rest i hlt);have cy:=(ho.cell i).trans (zd6 l1.o V i hlt);have f5:Hid (Ch.final S s0 (i+1)=Ch.final S s0 i++Ch.leBytes (S.getD i 0+s0.getD i 0)):=rfl;have s2:=qh (Ch.final_len S s0 i);obtain⟨x,hx⟩:=ex9 (S.getD i 0);obtain⟨y,hy⟩:=ex9 (s0.getD i 0);rw[←hx,←hy]at f5;rw[←hx]at cx;rw[←hy]at cy
       have h8:Hid (∀W:World,Calls Tryz.prog 34 #[.int .i64 1,.int .i64 4,.int .u64 (IntKind.u64.wrap (IntKind.u32.wrap (n32 x+n32 y)))] W fun e w'=>e=.returned (.tuple #[.slice (some ⟨W.heap.size,0,none⟩) 4 4,.int .i64 0])∧Blk w' W.heap.size 5 (u8s (Ch.leBytes (x+y)))∧Below W.heap.size W w'):=fun W=>by
        rw[zem,show IntKind.u64.wrap (n32 (x+y))=n32 (x+y) by have:=zfj (x+y);rw[IntKind.wrap_u64];omega];exact rput_w (x+y) W
       obtain⟨F,hF⟩:=ex9 (Ch.final S s0 i);obtain⟨z,hz⟩:=ex9 (x+y);rw[←hF]at f5 s2 a5;rw[←hz]at f5 h8;have j9:=qh cx;have f6:=qh cy;have HB:=qh hb;have HO:=qh ho;have M:=qh hB;have e6:=qh a5;have E:=hb.lt;have b1:=ho.lt;have e9:=hB.size;clear cx cy hx hy hF hz hb ho hB a5;have r7:Hid ((Ch.leBytes z).length=4):=rfl
       go_wp2_with fail
       have hT:wr.drew.cell? ⟨gs,i,none⟩=some (.int .u32 (n32 x))∧wr.drew.cell? ⟨go,i,none⟩=some (.int .u32 (n32 y)):=⟨j9.o,f6.o⟩;refine kgo kr 15 (fun w'=>w'.cell? ⟨gs,i,none⟩=some (.int .u32 (n32 x))∧w'.cell? ⟨go,i,none⟩=some (.int .u32 (n32 y))) hT (fun _ _ _ _ _ h=>h) ?_;refine kp 0 (.slice (some ⟨gs,0,none⟩) 16 c6) rfl kr (fun _=>kr) ?_;refine kp 1 (.int .i64 i) rfl kr (fun _=>kr) ?_;refine kp 2 (.pointer (some ⟨gs,0+i,none⟩)) rfl kr (fun _=>zeo (t:=220) (x:=.tmp 92) (y:=.tmp 93) (g:=gs) (off:=0) (n:=16) (c:=c6) (p:=i) rr kr kr hlt Tryz.underlying220 szU32) ?_;refine kl 3 (.int .u32 (n32 x)) rfl kr (fun w' hw'=>za0 (t:=61) (x:=.tmp 94) (p:=⟨gs,0+i,none⟩) rr kr agU32 (by rw[Nat.zero_add];exact hw'.1)) ?_;refine kp 4 (.slice (some ⟨go,0,none⟩) 16 c7) rfl kr (fun _=>kr) ?_;refine kp 5 (.int .i64 i) rfl kr (fun _=>kr) ?_;refine kp 6 (.pointer (some ⟨go,0+i,none⟩)) rfl kr (fun _=>zeo (t:=220) (x:=.tmp 96) (y:=.tmp 97) (g:=go) (off:=0) (n:=16) (c:=c7) (p:=i) rr kr kr hlt Tryz.underlying220 szU32) ?_;refine kl 7 (.int .u32 (n32 y)) rfl kr (fun w' hw'=>za0 (t:=61) (x:=.tmp 98) (p:=⟨go,0+i,none⟩) rr kr agU32 (by rw[Nat.zero_add];exact hw'.2)) ?_;refine kp 8 (.int .u32 (IntKind.u32.wrap (n32 x+n32 y))) rfl kr (fun _=>kr) ?_;refine kp 9 (.int .u64 (IntKind.u64.wrap (IntKind.u32.wrap (n32 x+n32 y)))) rfl kr (fun _=>kr) ?_;intro q8 q9;clear q8 q9;refine AnyK.enter 10 (d:=some 102) (f:=34) (args:=#[.int .i64 1,.int .i64 4,.int .u64 (IntKind.u64.wrap (IntKind.u32.wrap (n32 x+n32 y)))]) kr kr kr ?_;refine(h8.o _).mono ?_;rintro e w5 ⟨rfl,p7,J⟩;have b5:w5.cell? ⟨gs,i,none⟩=some (.int .u32 (n32 x))∧w5.cell? ⟨go,i,none⟩=some (.int .u32 (n32 y)):=⟨(J.cell (p:=⟨gs,i,none⟩) E).trans hT.1,(J.cell (p:=⟨go,i,none⟩) b1).trans hT.2⟩;refine⟨_,rfl,fun _=>b5,?_⟩;refine AnyK.pure 11 (v:=.tuple #[.slice (some ⟨wr.heap.size,0,none⟩) 4 4,.int .i64 0]) rfl kr (fun _ _ _ h=>h) rfl (fun _=>kr) (fun _=>b5) ?_;refine AnyK.pure 12 (v:=.slice (some ⟨wr.heap.size,0,none⟩) 4 4) rfl kr (fun _ _ _ h=>h) rfl (fun _=>kr) (fun _=>b5) ?_;refine AnyK.pure 13 (v:=.int .i64 0) rfl kr (fun _ _ _ h=>h) rfl (fun _=>kr) (fun _=>b5) ?_;refine AnyK.pure 14 (v:=.slice (some ⟨wr.heap.size,0,none⟩) 4 4) rfl kr (fun _ _ _ h=>h) rfl (fun _=>kr) (fun _=>b5) ?_;refine AnyK.val 15 (v:=.int .i64 0) rfl kr rfl kr (fun h=>(by cases h)) ?_;refine AnyK.done kr ?_;have t5:=qh (HB.o.drew.below J E);have d0:=qh (HO.o.drew.below J b1);have f8:=qh (M.o.drew.trans (J.mono e9));have l9:=qh (zas e6.o.drew J);have v7:wr.heap.size≤w5.heap.size:=J.size;have k7:=qh p7.rdAll;rw[r7.o]at k7;have d6:=qh (fun k hk=>(e6.o.lt k hk));have x7:4*i+4≤64:=om;clear hT b5 p7 J j9 f6 h8 HB HO M e6
       go_wp2_with (at_builtin;refine zah rfl (.tmp 105) (.tmp 106) 22 rfl W0 5 1 1 Tryz.underlying22 eU8 (.slice A' (4*i) c') (4*i) (u8s F) rr (by exact l9.o) (some ⟨wr.heap.size,0,none⟩) 4 4 (u8s (Ch.leBytes z)) rr (by exact k7.o.toS) (zac _) om om om ?_;intro A4 c4 w6 U s3 a8 d4;have d9:=qh U;rw[←zae,←f5.o]at d9;have b3:=qh (t5.o.grown a8 (fun e=>by have:=(d6.o _ e.symm).1;omega));have b4:=qh (d0.o.grown a8 (fun e=>by have:=(d6.o _ e.symm).1;omega));have o2:=qh (f8.o.grown a8 f8.o.size (fun k hk=>by have:=(d6.o _ hk).1;omega));have v3:w5.heap.size≤w6.heap.size:=a8.size;clear U a8 d4)
       go_roundg (16-(i+1))
       case measure=>have:=t4.o;omega
       case rel=>exact⟨i+1,by omega,rfl,by go_num,⟨A4,c4,rfl,by omega,d9.o⟩,b3.o,b4.o,o2.o,by omega⟩
     · obtain rfl:i=16:=om
       have o7:¬((16:Nat):Int)<16:=om;rw[r8.o,←o4.o]at a5;have e6:=qh (zbi a5 (base':=w.heap.size) q2);clear a5 hb ho;have M:=qh hB;clear hB
       go_wp2_with fail
       go_ret;exact⟨A',c',rfl,r9,e6.o,M.o⟩
end

