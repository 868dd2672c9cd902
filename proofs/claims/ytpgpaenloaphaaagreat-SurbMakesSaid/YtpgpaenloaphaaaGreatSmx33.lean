/- Part of the proof. -/
import Derived.Test.YtpgpaenloaphaaaGreatSmx30
set_option maxRecDepth 100000
set_option maxHeartbeats 0
namespace Go.Proofs.YtpgpaenloaphaaaGreat
open Go.RowKit
section
def sigmaB:List UInt8:=[101,120,112,97,110,100,32,51,50,45,98,121,116,101,32,107]
theorem zle:Ch.words sigmaB 4=Ch.sigma:=by decide
def place:Nat→Nat × Nat × Nat × Nat
 | 0=>(0,4,8,12)
 | 1=>(1,5,9,13)
 | 2=>(2,6,10,14)
 | 3=>(3,7,11,15)
 | 4=>(0,5,10,15)
 | 5=>(1,6,11,12)
 | 6=>(2,7,8,13)
 | _=>(3,4,9,14)
def rstep(s:List UInt32)(r:Nat):List UInt32:=Ch.round s (place r).1 (place r).2.1 (place r).2.2.1 (place r).2.2.2
def rsteps(s:List UInt32):Nat→List UInt32
 | 0=>s
 | i+1=>rstep (rsteps s i) (i%8)
theorem zod(s:List UInt32)(i:Nat):(rsteps s i).length=s.length:=by
 induction i with
 | zero=>rfl
 | succ i ih=>rw[rsteps,rstep,Ch.round_len,ih]
theorem zi6(s:List UInt32)(k:Nat):rsteps s (8*k)=Ch.rounds s k:=by
 induction k with
 | zero=>rfl
 | succ k ih =>
  have e:rsteps s (8*(k+1))=rstep (rstep (rstep (rstep (rstep (rstep (rstep (rstep (rsteps s (8*k)) ((8*k)%8)) ((8*k+1)%8)) ((8*k+2)%8)) ((8*k+3)%8)) ((8*k+4)%8)) ((8*k+5)%8)) ((8*k+6)%8)) ((8*k+7)%8):=rfl;rw[e,ih,show 8*k%8=0 by omega,show(8*k+1)%8=1 by omega,show(8*k+2)%8=2 by omega,show(8*k+3)%8=3 by omega,show(8*k+4)%8=4 by omega,show(8*k+5)%8=5 by omega,show(8*k+6)%8=6 by omega,show(8*k+7)%8=7 by omega]
  rfl
def placesC:List Value:=([0,4,8,12,1,5,9,13,2,6,10,14,3,7,11,15,0,5,10,15,1,6,11,12,2,7,8,13,3,4,9,14]:List Int).map (Value.int .i64)
theorem zq0(r:Nat)(h:r<8):placesC[r*4]? = some (.int .i64 ((place r).1:Int))∧placesC[r*4+1]? = some (.int .i64 ((place r).2.1:Int))∧placesC[r*4+2]? = some (.int .i64 ((place r).2.2.1:Int))∧placesC[r*4+3]? = some (.int .i64 ((place r).2.2.2:Int)):=by
 obtain rfl|rfl|rfl|rfl|rfl|rfl|rfl|rfl:r=0∨r=1∨r=2∨r=3∨r=4∨r=5∨r=6∨r=7:=om
 all_goals exact⟨rfl,rfl,rfl,rfl⟩
theorem ztr(r:Nat)(h:r<8):(place r).1<16∧(place r).2.1<16∧(place r).2.2.1<16∧(place r).2.2.2<16:=by
 obtain rfl|rfl|rfl|rfl|rfl|rfl|rfl|rfl:r=0∨r=1∨r=2∨r=3∨r=4∨r=5∨r=6∨r=7:=om
 all_goals decide
theorem zd1{s:List UInt32}(h:s.length=16)(rest:List Value)(i:Nat)(hi:i<16):(u32s s++rest)[i]? = some (.int .u32 (n32 (s.getD i 0))):=by
 rw[ll9 (by rw[za2];omega)];exact zd2 h i hi
theorem zv0{s:List UInt32}(rest:List Value)(i:Nat)(x:UInt32)(hi:i<s.length):(u32s s++rest).set i (.int .u32 (n32 x))=u32s (s.set i x)++rest:=by
 rw[List.set_append_left _ _ (by rw[za2];exact hi),zce]
def pk(p:Nat × Nat × Nat × Nat):Nat→Nat
 | 0=>p.1
 | 1=>p.2.1
 | 2=>p.2.2.1
 | _=>p.2.2.2
def yk(y:Q4):Nat→UInt32
 | 0=>y.1
 | 1=>y.2.1
 | 2=>y.2.2.1
 | _=>y.2.2.2
def setk(s:List UInt32)(p:Nat × Nat × Nat × Nat)(y:Q4):Nat→List UInt32
 | 0=>s
 | k+1=>(setk s p y k).set (pk p k) (yk y k)
theorem zs4(s:List UInt32)(p:Nat × Nat × Nat × Nat)(y:Q4)(k:Nat):(setk s p y k).length=s.length:=by
 induction k with
 | zero=>rfl
 | succ k ih=>rw[setk,List.length_set,ih]
theorem pk_lt{p:Nat × Nat × Nat × Nat}(h0:p.1<16)(h1:p.2.1<16)(h2:p.2.2.1<16)(h3:p.2.2.2<16)(k:Nat):pk p k<16:=by
 match k with
 | 0=>exact h0
 | 1=>exact h1
 | 2=>exact h2
 | k+3=>exact h3
theorem zws(a b c d k:Nat)(hk:k<4):([.int .i64 (a:Int),.int .i64 (b:Int),.int .i64 (c:Int),.int .i64 (d:Int)]:List Value)[k]? = some (.int .i64 (pk (a,b,c,d) k:Int)):=by
 obtain rfl|rfl|rfl|rfl:k=0∨k=1∨k=2∨k=3:=om
 all_goals rfl
theorem zvl(y:Q4)(k:Nat)(hk:k<4):(q4s y)[k]? = some (.int .u32 (n32 (yk y k))):=by
 obtain rfl|rfl|rfl|rfl:k=0∨k=1∨k=2∨k=3:=om
 all_goals rfl
theorem szInt(w:World):(sizeOf 3).run Tryz.prog w=.ok 1 w:=by kernel_rfl
theorem build191(w:World):(Instr.build 224 #[(0,.agg #[.int .i64 0,.int .i64 4,.int .i64 8,.int .i64 12]),(1,.agg #[.int .i64 1,.int .i64 5,.int .i64 9,.int .i64 13]),(2,.agg #[.int .i64 2,.int .i64 6,.int .i64 10,.int .i64 14]),(3,.agg #[.int .i64 3,.int .i64 7,.int .i64 11,.int .i64 15]),(4,.agg #[.int .i64 0,.int .i64 5,.int .i64 10,.int .i64 15]),(5,.agg #[.int .i64 1,.int .i64 6,.int .i64 11,.int .i64 12]),(6,.agg #[.int .i64 2,.int .i64 7,.int .i64 8,.int .i64 13]),(7,.agg #[.int .i64 3,.int .i64 4,.int .i64 9,.int .i64 14])]).run Tryz.prog w=.ok (.agg placesC.toArray) w:=by kernel_rfl
theorem hd191:(Tryz.prog.info? 224).map (·.size)=some placesC.length:=by kernel_rfl
theorem zos:∀v∈placesC,v.oneCell'=true:=by
 intro v hv;obtain⟨c,_,rfl⟩:=List.mem_map.1 hv
 rfl
attribute [local go_sem] zd9 zeg
theorem zg2(A B:Option Addr)(c d:Nat)(key nonce:List UInt8)(ctr:UInt32)(w:World)(h:Rd w A 32 (u8s key))(h2:Rd w B 12 (u8s nonce)):
 Calls Tryz.prog 117 #[.slice A 32 c,.slice B 12 d,.int .u32 (n32 ctr)] w fun e w'=>∃A' c',e=.returned (.slice A' 64 c')∧64≤c'∧w'.ownsRow w.heap.size 5 1 (.slice A' 64 c') 64 (u8s (Ch.block key nonce ctr))∧Below w.heap.size w w':=by
 have hw0:=zfl (some ⟨w.heap.size,0,none⟩) 16 16 4 sigmaB (w.alloc (.cells (u8s sigmaB).toArray 5 (16,17))) (zg0 w 5 (u8s sigmaB) (16,17)) om om;have hsz0:(w.alloc (.cells (u8s sigmaB).toArray 5 (16,17))).heap.size=w.heap.size+1:=by simp
 rw[hsz0,zle]at hw0;have HW0:Hid (Calls Tryz.prog 148 #[.slice (some ⟨w.heap.size,0,none⟩) 16 16] (w.alloc (.cells #[.int .u8 101,.int .u8 120,.int .u8 112,.int .u8 97,.int .u8 110,.int .u8 100,.int .u8 32,.int .u8 51,.int .u8 50,.int .u8 45,.int .u8 98,.int .u8 121,.int .u8 116,.int .u8 101,.int .u8 32,.int .u8 107] 5 (16,17))) fun e w'=>∃A' c',e=.returned (.slice A' 4 c')∧4≤c'∧w'.ownsRow (w.heap.size+1) 44 1 (.slice A' 4 c') 4 (u32s Ch.sigma)∧Below (w.heap.size+1) (w.alloc (.cells (u8s sigmaB).toArray 5 (16,17))) w'):=hw0;have HWK:=qh (fun W (hr:Rd W A 32 (u8s key))=>zfl A 32 c 8 key W hr om om);have HWN:=qh (fun W (hr:Rd W B 12 (u8s nonce))=>zfl B 12 d 3 nonce W hr om om);have HK:=qh h;have HN:=qh h2;have HIN:Hid (u32s Ch.sigma++u32s (Ch.words key 8)++u32s [ctr]++u32s (Ch.words nonce 3)=u32s (Ch.initial key nonce ctr)):=by show _=_;simp[u32s,Ch.initial]
 have hl16:=Ch.initial_len key nonce ctr;have HBK:Hid (Ch.block key nonce ctr=Ch.final (Ch.rounds (Ch.initial key nonce ctr) 10) (Ch.initial key nonce ctr) 16):=rfl;obtain⟨s0,hs0⟩:=ex9 (Ch.initial key nonce ctr);rw[←hs0]at HIN hl16 HBK;have H16:=qh hl16;have kc:=fun(w:World) (C:Array Value) (n c:Nat)=>Lib.run_convert_bytes_const (P:=Tryz.prog) w 22 5 C n c Tryz.underlying22 Tryz.underlying5
 clear h h2 hs0 hl16 hw0 hsz0
 go_enter Tryz.func117, Tryz.ntmps117
 go_wp2_with (first
  | (go_at_call 148;(with_reducible refine HW0.out.mono ?_);rintro e w1 ⟨A1,c1,rfl,hc1,hown1,hB1⟩;have HE1:=qh (((Below.refl _ w).alloc lr (.cells (u8s sigmaB).toArray 5 (16,17))).trans (hB1.mono (Nat.le_succ _)));have HO1:=qh (zbj hown1 (base':=w.heap.size) (Nat.le_succ _));clear hown1 hB1 kc)
  | (go_at_call 148;(with_reducible refine(HWK.out w1 (by exact HK.out.below HE1.out)).mono ?_);rintro e w2 ⟨A2,c2,rfl,hc2,hown2,hB2⟩;have HE2:=qtr HE1 hB2;have HO2:=qh (zau HO1.out hB2);have HR2:=qh (Rd.of_own hown2);clear hown2 hB2)
  | (at_builtin;refine zah rfl (.tmp 21) (.tmp 23) 221 rfl w.heap.size 44 1 4 Tryz.underlying221 eU32 (.slice A1 4 c1) 4 (u32s Ch.sigma) rr (by exact HO2.out) A2 8 c2 (u32s (Ch.words key 8)) rr (by exact HR2.out.toS) (zba _) om om HE2.out.size ?_;intro A3 c3 w3 hown3 hc3 hg3 hat3;have HE3:=qh (HE2.out.grown hg3 HE2.out.size (fun g hg=>(HO2.out.lt g hg).1));have HO3:=qh hown3;have HN4:Hid (RdS 1 (w3.alloc (.cells #[.int .u32 (n32 ctr)] 44)) (some ⟨w3.heap.size,0,none⟩) 1 (u32s [ctr])):=RdS.new w3 44 (u32s [ctr]) 1 rfl;clear hown3 hg3 hat3)
  | (at_builtin;refine zah rfl (.tmp 25) (.tmp 27) 221 rfl w.heap.size 44 1 4 Tryz.underlying221 eU32 (.slice A3 12 c3) 12 (u32s Ch.sigma++u32s (Ch.words key 8)) rr (by exact HO3.out.alloc _) (some ⟨w3.heap.size,0,none⟩) 1 1 (u32s [ctr]) rr (by exact HN4.out) (zba _) om om (Nat.le_trans HE3.out.size sy) ?_;intro A4 c4 w4 hown4 hc4 hg4 hat4;have HE4:=qh ((HE3.out.alloc HE3.out.size _).grown hg4 (Nat.le_trans HE3.out.size sy) (fun g hg=>(HO3.out.lt g hg).1));have HO4:=qh hown4;clear hown4 hg4 hat4)
  | (go_at_call 148;(with_reducible refine(HWN.out w4 (by exact HN.out.below HE4.out)).mono ?_);rintro e w5 ⟨A5,c5,rfl,hc5,hown5,hB5⟩;have HE5:=qtr HE4 hB5;have HO5:=qh (zau HO4.out hB5);have HR5:=qh (Rd.of_own hown5);clear hown5 hB5)
  | (at_builtin;refine zah rfl (.tmp 29) (.tmp 31) 221 rfl w.heap.size 44 1 4 Tryz.underlying221 eU32 (.slice A4 13 c4) 13 (u32s Ch.sigma++u32s (Ch.words key 8)++u32s [ctr]) rr (by exact HO5.out) A5 3 c5 (u32s (Ch.words nonce 3)) rr (by exact HR5.out.toS) (zba _) om om HE5.out.size ?_;intro A6 c6 w6 hown6 hc6 hg6 hat6;have HE6:=qh (HE5.out.grown hg6 HE5.out.size (fun g hg=>(HO5.out.lt g hg).1));have HO6:=qh hown6;rw[HIN.out]at HO6;obtain⟨gs,rest,hA6,hgs,hb6⟩:=zra HO6.out om;subst hA6;have HB6:=qh hb6;have HR6:=qh (Rd.of_own HO6.out);have HZ6:Hid ((w6.alloc (.cells #[] 44)).ownsRow w6.heap.size 44 1 (.slice (some ⟨w6.heap.size,0,none⟩) 0 0) 0 []):=⟨rfl,.inr ⟨w6.heap.size,0,#[],rfl,lr,heap_alloc_new w6 _,lr,by simp[maxLen],rfl,rfl⟩⟩;clear hown6 hg6 hat6 hb6 HO6)
  | (at_builtin;refine zah rfl (.tmp 33) (.tmp 34) 221 rfl w6.heap.size 44 1 4 Tryz.underlying221 eU32 (.slice (some ⟨w6.heap.size,0,none⟩) 0 0) 0 [] rr (by exact HZ6.out) (some ⟨gs,0,none⟩) 16 c6 (u32s s0) rr (by exact(HR6.out.alloc _).toS) (zba _) om om sy ?_;intro A7 c7 w7 hown7 hc7 hg7 hat7;have HX7:Hid (Below w6.heap.size w6 w7):=((Below.refl _ _).alloc lr _).grown hg7 sy (by intro k hk;simp[Value.ownBlock]at hk;omega);have HE7:=qh (HE6.out.trans (HX7.out.mono HE6.out.size));have HB7:=qh (HB6.out.below HX7.out HB6.out.lt);obtain⟨go,rest2,hA7,hgo,hb7⟩:=zra hown7 om;subst hA7;have HO7:Hid (Blk w7 go 44 (u32s s0++rest2)):=hb7;have hgl7:gs<go:=by have:=HB6.out.lt;omega
     clear hown7 hg7 hat7 hb7)
  | refine zai rfl 224 [(0,.tmp 36),(1,.tmp 37),(2,.tmp 38),(3,.tmp 39),(4,.tmp 40),(5,.tmp 41),(6,.tmp 42),(7,.tmp 43)] rfl _ rr (.agg placesC.toArray) (build191 _) ?_
  | (refine zab rfl 224 (.tmp 9) (.tmp 44) rfl w7.heap.size placesC rr rr 224 (List.replicate 32 (.int .i64 0)) (by exact Blk.new' rfl rfl) hd191 zos rfl ?_;intro w8 hb8 ho8;have hl6:=HB7.out.lt;have hl7:=HO7.out.lt;have HP8:=qh hb8;have HB8:=qh (ho8.blk (HB7.out.alloc _) om);have HO8:=qh (ho8.blk (HO7.out.alloc _) om);have HE8:=qh (ho8.below (HE7.out.alloc HE7.out.size _) HE7.out.size (Nat.le_trans HE7.out.size sy));clear hb8 ho8))
 clear HB6 HR6 HZ6 HE6 HX7 HE7 HB7 HO7 HE1 HO1 HE2 HO2 HR2 HE3 HO3 HN4 HE4 HO4 HE5 HO5 HR5 HW0 HWK HWN HK HN HIN;have hgp:go<w7.heap.size:=hl7;have hws:w.heap.size≤gs:=hgs;have HS8:Hid (Blk w8 gs 44 (u32s (rsteps s0 0)++rest)):=HB8.out;clear hl6 hl7 HB8 hgs hgo;generalize w7.heap.size=gp at *
 go_loopg [10] 80 (fun kk q wr=>∃(i:Nat) (S:List UInt32),i≤80∧kk=80-i∧q=.int .i64 i∧S=rsteps s0 i∧Blk wr gs 44 (u32s S++rest)∧Blk wr go 44 (u32s s0++rest2)∧Blk wr gp 224 placesC∧Below w.heap.size w wr)
 case atStart=>exact⟨0,_,by omega,rfl,rfl,rfl,HS8.out,HO8.out,HP8.out,HE8.out⟩
 case round =>
  clear HS8 HO8 HP8 HE8;obtain⟨i,S,hi,hgk,rfl,hS,hb,ho,hp,hB⟩:=hrel;have HGK:=qh hgk;clear hgk;have hSl:S.length=16:=by rw[hS,zod];exact H16.out
  have HSL:=qh hSl
  by_cases hlt:i<80
  · have hlt2:(i:Int)<80:=om
    obtain⟨r,hr⟩:=ex9 (i%8);have hri:(i:Int)%8=(r:Int):=om;have hr0:(0:Int)≤(r:Int):=om;have hr8:(r:Int)<8:=om;have hr8n:r<8:=om;have HNX:Hid (rsteps s0 (i+1)=rstep S r):=by show _=_;rw[hS,hr];rfl
    have hpl:=zq0 r hr8n;have hpb:=ztr r hr8n;have HRS:Hid (rstep S r=setk S (place r) (qst (S.getD (place r).1 0,S.getD (place r).2.1 0,S.getD (place r).2.2.1 0,S.getD (place r).2.2.2 0) 4) 4):=rfl
    rcases hpe:place r with ⟨p0,p1,p2,p3⟩
    rw[hpe]at HRS hpl hpb;obtain⟨hp0,hp1,hp2,hp3⟩:=hpb;obtain⟨k0,k1,k2,k3⟩:=hpl;have t0:=(hp.cell (r*4)).trans k0;have t1:=(hp.cell (r*4+1)).trans k1;have t2:=(hp.cell (r*4+2)).trans k2;have t3:=(hp.cell (r*4+3)).trans k3;have a0:=(hb.cell p0).trans (zd1 hSl rest p0 hp0);have a1:=(hb.cell p1).trans (zd1 hSl rest p1 hp1);have a2:=(hb.cell p2).trans (zd1 hSl rest p2 hp2);have a3:=(hb.cell p3).trans (zd1 hSl rest p3 hp3);have HA0:=qh a0;have HA1:=qh a1;have HA2:=qh a2;have HA3:=qh a3;have HP0:=qh hp0;have HP1:=qh hp1;have HP2:=qh hp2;have HP3:=qh hp3;have HB:=qh hb;have HO:=qh ho;have HPL:=qh hp;have HBE:=qh hB;have hgl:=hp.lt;have HQY:=qh (fun W=>zkh (S.getD p0 0,S.getD p1 0,S.getD p2 0,S.getD p3 0) W);have HYE:Hid (q4s (S.getD p0 0,S.getD p1 0,S.getD p2 0,S.getD p3 0)=[.int .u32 (n32 (S.getD p0 0)),.int .u32 (n32 (S.getD p1 0)),.int .u32 (n32 (S.getD p2 0)),.int .u32 (n32 (S.getD p3 0))]):=rfl;obtain⟨Y,hY⟩:=ex9 (qst (S.getD p0 0,S.getD p1 0,S.getD p2 0,S.getD p3 0) 4);rw[←hY]at HQY HRS;rw[HYE.out]at HQY;obtain⟨xa,hxa⟩:=ex9 (S.getD p0 0);obtain⟨xb,hxb⟩:=ex9 (S.getD p1 0);obtain⟨xc,hxc⟩:=ex9 (S.getD p2 0);obtain⟨xd,hxd⟩:=ex9 (S.getD p3 0);rw[←hxa,←hxb,←hxc,←hxd]at HQY;rw[←hxa]at HA0;rw[←hxb]at HA1;rw[←hxc]at HA2;rw[←hxd]at HA3;have HBQ:Hid (Blk (wr.alloc (.cells #[.int .i64 p0,.int .i64 p1,.int .i64 p2,.int .i64 p3] 223)) wr.heap.size 223 [.int .i64 p0,.int .i64 p1,.int .i64 p2,.int .i64 p3]):=Blk.new' rfl rfl;have HBA:Hid (Below wr.heap.size wr (wr.alloc (.cells #[.int .i64 p0,.int .i64 p1,.int .i64 p2,.int .i64 p3] 223))):=(Below.refl _ _).alloc lr _;have hwsz:w.heap.size≤wr.heap.size:=hB.size;clear hxa hxb hxc hxd hY HYE hb ho hp hB a0 a1 a2 a3 k0 k1 k2 k3 hp0 hp1 hp2 hp3 hpe hSl hr
    go_wp2_with fail
    obtain⟨w9,hw9⟩:=ex9 (wr.alloc (.cells #[.int .i64 p0,.int .i64 p1,.int .i64 p2,.int .i64 p3] 223));rw[←hw9]at HBQ HBA ⊢;have hs9:wr.heap.size<w9.heap.size:=by rw[hw9];simp
    have hgsl:=HB.out.lt;have hgol:=HO.out.lt;have HB9:=qh (HB.out.below HBA.out hgsl);have HO9:=qh (HO.out.below HBA.out hgol);have HPL9:=qh (HPL.out.below HBA.out hgl);have HBE9:=qh (HBE.out.trans (HBA.out.mono hwsz));have HA09:=qh ((HBA.out.cell (p:=⟨gs,p0,none⟩) hgsl).trans HA0.out);have HA19:=qh ((HBA.out.cell (p:=⟨gs,p1,none⟩) hgsl).trans HA1.out);have HA29:=qh ((HBA.out.cell (p:=⟨gs,p2,none⟩) hgsl).trans HA2.out);have HA39:=qh ((HBA.out.cell (p:=⟨gs,p3,none⟩) hgsl).trans HA3.out);clear hw9 t0 t1 t2 t3 HB HO HPL HBE HBA HA0 HA1 HA2 HA3;generalize wr.heap.size=gq at *;have hgq:=HBQ.out.lt;have hgs9:=HB9.out.lt
    have hT:w9.drew.cell? ⟨gq,0,none⟩=some (.int .i64 p0)∧w9.drew.cell? ⟨gq,1,none⟩=some (.int .i64 p1)∧w9.drew.cell? ⟨gq,2,none⟩=some (.int .i64 p2)∧w9.drew.cell? ⟨gq,3,none⟩=some (.int .i64 p3)∧w9.drew.cell? ⟨gs,p0,none⟩=some (.int .u32 (n32 xa))∧w9.drew.cell? ⟨gs,p1,none⟩=some (.int .u32 (n32 xb))∧w9.drew.cell? ⟨gs,p2,none⟩=some (.int .u32 (n32 xc))∧w9.drew.cell? ⟨gs,p3,none⟩=some (.int .u32 (n32 xd)) :=
     ⟨(HBQ.out.cell 0).trans rfl,(HBQ.out.cell 1).trans rfl,(HBQ.out.cell 2).trans rfl,(HBQ.out.cell 3).trans rfl,HA09.out,HA19.out,HA29.out,HA39.out⟩
    have HTW:Hid (∀W,Below w9.drew.heap.size w9.drew W→W.cell? ⟨gq,0,none⟩=some (.int .i64 p0)∧W.cell? ⟨gq,1,none⟩=some (.int .i64 p1)∧W.cell? ⟨gq,2,none⟩=some (.int .i64 p2)∧W.cell? ⟨gq,3,none⟩=some (.int .i64 p3)∧W.cell? ⟨gs,p0,none⟩=some (.int .u32 (n32 xa))∧W.cell? ⟨gs,p1,none⟩=some (.int .u32 (n32 xb))∧W.cell? ⟨gs,p2,none⟩=some (.int .u32 (n32 xc))∧W.cell? ⟨gs,p3,none⟩=some (.int .u32 (n32 xd))):=fun W hW =>
     ⟨(hW.cell (p:=⟨gq,0,none⟩) hgq).trans hT.1,(hW.cell (p:=⟨gq,1,none⟩) hgq).trans hT.2.1,(hW.cell (p:=⟨gq,2,none⟩) hgq).trans hT.2.2.1,(hW.cell (p:=⟨gq,3,none⟩) hgq).trans hT.2.2.2.1,(hW.cell (p:=⟨gs,p0,none⟩) hgs9).trans hT.2.2.2.2.1,(hW.cell (p:=⟨gs,p1,none⟩) hgs9).trans hT.2.2.2.2.2.1,(hW.cell (p:=⟨gs,p2,none⟩) hgs9).trans hT.2.2.2.2.2.2.1,(hW.cell (p:=⟨gs,p3,none⟩) hgs9).trans hT.2.2.2.2.2.2.2⟩
    refine kgo kr 23 (fun w'=>w'.cell? ⟨gq,0,none⟩=some (.int .i64 p0)∧w'.cell? ⟨gq,1,none⟩=some (.int .i64 p1)∧w'.cell? ⟨gq,2,none⟩=some (.int .i64 p2)∧w'.cell? ⟨gq,3,none⟩=some (.int .i64 p3)∧w'.cell? ⟨gs,p0,none⟩=some (.int .u32 (n32 xa))∧w'.cell? ⟨gs,p1,none⟩=some (.int .u32 (n32 xb))∧w'.cell? ⟨gs,p2,none⟩=some (.int .u32 (n32 xc))∧w'.cell? ⟨gs,p3,none⟩=some (.int .u32 (n32 xd))) hT (fun _ _ _ _ _ h=>h) ?_;refine kp 0 (.slice (some ⟨gs,0,none⟩) 16 c6) rfl kr (fun _=>kr) ?_;refine kp 1 (.pointer (some ⟨gq,0,none⟩)) rfl kr (fun _=>kr) ?_;refine kl 2 (.int .i64 p0) rfl kr (fun w' hw'=>za5 (t:=3) (x:=.tmp 54) (p:=⟨gq,0,none⟩) rr kr agInt hw'.1) ?_;refine kp 3 (.pointer (some ⟨gs,0+p0,none⟩)) rfl kr (fun _=>zei (t:=221) (x:=.tmp 53) (y:=.tmp 55) (g:=gs) (off:=0) (n:=16) (c:=c6) (p:=p0) rr kr kr HP0.out Tryz.underlying221 szU32) ?_;refine kl 4 (.int .u32 (n32 xa)) rfl kr (fun w' hw'=>za5 (t:=44) (x:=.tmp 56) (p:=⟨gs,0+p0,none⟩) rr kr agU32 (by rw[Nat.zero_add];exact hw'.2.2.2.2.1)) ?_;refine kp 5 (.slice (some ⟨gs,0,none⟩) 16 c6) rfl kr (fun _=>kr) ?_;refine kp 6 (.pointer (some ⟨gq,1,none⟩)) rfl kr (fun _=>kr) ?_;refine kl 7 (.int .i64 p1) rfl kr (fun w' hw'=>za5 (t:=3) (x:=.tmp 59) (p:=⟨gq,1,none⟩) rr kr agInt hw'.2.1) ?_;refine kp 8 (.pointer (some ⟨gs,0+p1,none⟩)) rfl kr (fun _=>zei (t:=221) (x:=.tmp 58) (y:=.tmp 60) (g:=gs) (off:=0) (n:=16) (c:=c6) (p:=p1) rr kr kr HP1.out Tryz.underlying221 szU32) ?_;refine kl 9 (.int .u32 (n32 xb)) rfl kr (fun w' hw'=>za5 (t:=44) (x:=.tmp 61) (p:=⟨gs,0+p1,none⟩) rr kr agU32 (by rw[Nat.zero_add];exact hw'.2.2.2.2.2.1)) ?_;refine kp 10 (.slice (some ⟨gs,0,none⟩) 16 c6) rfl kr (fun _=>kr) ?_;refine kp 11 (.pointer (some ⟨gq,2,none⟩)) rfl kr (fun _=>kr) ?_;refine kl 12 (.int .i64 p2) rfl kr (fun w' hw'=>za5 (t:=3) (x:=.tmp 64) (p:=⟨gq,2,none⟩) rr kr agInt hw'.2.2.1) ?_;refine kp 13 (.pointer (some ⟨gs,0+p2,none⟩)) rfl kr (fun _=>zei (t:=221) (x:=.tmp 63) (y:=.tmp 65) (g:=gs) (off:=0) (n:=16) (c:=c6) (p:=p2) rr kr kr HP2.out Tryz.underlying221 szU32) ?_;refine kl 14 (.int .u32 (n32 xc)) rfl kr (fun w' hw'=>za5 (t:=44) (x:=.tmp 66) (p:=⟨gs,0+p2,none⟩) rr kr agU32 (by rw[Nat.zero_add];exact hw'.2.2.2.2.2.2.1)) ?_;refine kp 15 (.slice (some ⟨gs,0,none⟩) 16 c6) rfl kr (fun _=>kr) ?_;refine kp 16 (.pointer (some ⟨gq,3,none⟩)) rfl kr (fun _=>kr) ?_;refine kl 17 (.int .i64 p3) rfl kr (fun w' hw'=>za5 (t:=3) (x:=.tmp 69) (p:=⟨gq,3,none⟩) rr kr agInt hw'.2.2.2.1) ?_;refine kp 18 (.pointer (some ⟨gs,0+p3,none⟩)) rfl kr (fun _=>zei (t:=221) (x:=.tmp 68) (y:=.tmp 70) (g:=gs) (off:=0) (n:=16) (c:=c6) (p:=p3) rr kr kr HP3.out Tryz.underlying221 szU32) ?_;refine kl 19 (.int .u32 (n32 xd)) rfl kr (fun w' hw'=>za5 (t:=44) (x:=.tmp 71) (p:=⟨gs,0+p3,none⟩) rr kr agU32 (by rw[Nat.zero_add];exact hw'.2.2.2.2.2.2.2)) ?_;refine kp 20 (.agg #[.int .u32 (n32 xa),.int .u32 (n32 xb),.int .u32 (n32 xc),.int .u32 (n32 xd)]) rfl kr (fun _=>kr) ?_;intro q8 q9;clear q8 q9;refine AnyK.call_alloc 21 22 23 (d1:=74) (d2:=12) (by decide) (f:=149) (args:=#[.agg #[.int .u32 (n32 xa),.int .u32 (n32 xb),.int .u32 (n32 xc),.int .u32 (n32 xd)]]) (ty:=225) (q4s Y) (q4s (0,0,0,0)) rfl rfl rfl (fun _ _=>⟨by kernel_rfl,by kernel_rfl⟩) rfl rfl rfl (fun _ _=>by kernel_rfl) rfl rfl rfl rfl (fun _ _=>by kernel_rfl) (fun _ _=>by kernel_rfl) kr kr kr kr (fun W _=>HQY.out W) hd192 (zba _) rfl (fun W hW=>HTW.out W hW) ?_;intro gy w10 hgy hby hB10;refine AnyK.done kr ?_;have hgy2:w9.heap.size≤gy:=hgy;have HBQ10:=qh (HBQ.out.drew.below hB10 hgq);have HB10:=qh (HB9.out.drew.below hB10 hgs9);have HO10:=qh (HO9.out.drew.below hB10 HO9.out.lt);have HPL10:=qh (HPL9.out.drew.below hB10 HPL9.out.lt);have HBE10:=qh (HBE9.out.drew.trans (hB10.mono HBE9.out.size));have HBY10:=qh hby;have hgpl9:=HPL9.out.lt;have hgol9:=HO9.out.lt;have hgqs:gs<gq:=hgsl;clear hT HTW hB10 hby HBQ HB9 HO9 HPL9 HBE9 HA09 HA19 HA29 HA39 hgy HQY
    go_wp2_with fail
    go_loopg [13] 4 (fun kk q w2=>∃k:Nat,k≤4∧kk=4-k∧q=.int .i64 k∧Blk w2 gs 44 (u32s (setk S (p0,p1,p2,p3) Y k)++rest)∧Blk w2 go 44 (u32s s0++rest2)∧Blk w2 gp 224 placesC∧Blk w2 gq 223 [.int .i64 p0,.int .i64 p1,.int .i64 p2,.int .i64 p3]∧Blk w2 gy 225 (q4s Y)∧Below w.heap.size w w2)
    case atStart=>exact⟨0,by omega,rfl,rfl,HB10.out,HO10.out,HPL10.out,HBQ10.out,HBY10.out,HBE10.out⟩
    case round =>
     clear HB10 HO10 HPL10 HBQ10 HBY10 HBE10;obtain⟨k,hk,hkk,rfl,hb,ho,hp,hq,hy,hB⟩:=hrel;have HKK:=qh hkk;clear hkk
     by_cases hk4:k<4
     · have hk4i:(k:Int)<4:=om
       have HPP:=qh (pk_lt (p:=(p0,p1,p2,p3)) HP0.out HP1.out HP2.out HP3.out k);have hck:=(hq.cell k).trans (zws p0 p1 p2 p3 k hk4);have hcy:=(hy.cell k).trans (zvl Y k hk4);have HSL2:=qh ((zs4 S (p0,p1,p2,p3) Y k).trans HSL.out);obtain⟨v,hv⟩:∃v,(u32s (setk S (p0,p1,p2,p3) Y k)++rest)[pk (p0,p1,p2,p3) k]? = some v:=⟨_,zd1 HSL2.out rest _ HPP.out⟩;have HSC:=qh ((hb.cell (pk (p0,p1,p2,p3) k)).trans hv);have HSF:=qh (hb.frozen (pk (p0,p1,p2,p3) k));have hb2:=(hb.drew).set_ (pk (p0,p1,p2,p3) k) (.int .u32 (n32 (yk Y k)));rw[zv0 rest _ _ (by rw[HSL2.out];exact HPP.out)]at hb2;have HB2:Hid (Blk (wr.drew.setCell ⟨gs,pk (p0,p1,p2,p3) k,none⟩ (.int .u32 (n32 (yk Y k)))) gs 44 (u32s (setk S (p0,p1,p2,p3) Y (k+1))++rest)):=hb2;have HO2:=qh (ho.drew.far (p:=⟨gs,pk (p0,p1,p2,p3) k,none⟩) (by show go≠gs;omega) (.int .u32 (n32 (yk Y k))));have HP2':=qh (hp.drew.far (p:=⟨gs,pk (p0,p1,p2,p3) k,none⟩) (by show gp≠gs;omega) (.int .u32 (n32 (yk Y k))));have HQ2:=qh (hq.drew.far (p:=⟨gs,pk (p0,p1,p2,p3) k,none⟩) (by show gq≠gs;omega) (.int .u32 (n32 (yk Y k))));have HY2:=qh (hy.drew.far (p:=⟨gs,pk (p0,p1,p2,p3) k,none⟩) (by show gy≠gs;omega) (.int .u32 (n32 (yk Y k))));have HBE2:=qh (hB.drew.setCell (p:=⟨gs,pk (p0,p1,p2,p3) k,none⟩) hws (.int .u32 (n32 (yk Y k))));have HCK:=qh hck;have HCY:=qh hcy;clear hb ho hp hq hy hB hv hb2 hck hcy;generalize pk (p0,p1,p2,p3) k=pp at *;generalize yk Y k=yy at *
       go_wp2_with fail
       have hT:wr.drew.cell? ⟨gq,k,none⟩=some (.int .i64 (pp:Int))∧wr.drew.cell? ⟨gy,k,none⟩=some (.int .u32 (n32 yy)):=⟨HCK.out,HCY.out⟩;refine kgo kr 8 (fun w'=>w'.cell? ⟨gq,k,none⟩=some (.int .i64 (pp:Int))∧w'.cell? ⟨gy,k,none⟩=some (.int .u32 (n32 yy))) hT (fun _ _ _ _ _ h=>h) ?_;refine kp 0 (.slice (some ⟨gs,0,none⟩) 16 c6) rfl kr (fun _=>kr) ?_;refine kp 1 (.int .i64 k) rfl kr (fun _=>kr) ?_;refine kp 2 (.pointer (some ⟨gq,0+k,none⟩)) rfl kr (fun _=>zdq (t:=223) (x:=.tmp 11) (y:=.tmp 80) (g:=gq) (off:=0) (m:=4) (p:=k) rr kr kr hk4 Tryz.underlying223 szInt) ?_;refine kl 3 (.int .i64 (pp:Int)) rfl kr (fun w' hw'=>za5 (t:=3) (x:=.tmp 81) (p:=⟨gq,0+k,none⟩) rr kr agInt (by rw[Nat.zero_add];exact hw'.1)) ?_;refine kp 4 (.int .i64 k) rfl kr (fun _=>kr) ?_;refine kp 5 (.pointer (some ⟨gy,0+k,none⟩)) rfl kr (fun _=>zdq (t:=225) (x:=.tmp 12) (y:=.tmp 83) (g:=gy) (off:=0) (m:=4) (p:=k) rr kr kr hk4 Tryz.underlying225 szU32) ?_;refine kl 6 (.int .u32 (n32 yy)) rfl kr (fun w' hw'=>za5 (t:=44) (x:=.tmp 84) (p:=⟨gy,0+k,none⟩) rr kr agU32 (by rw[Nat.zero_add];exact hw'.2)) ?_;refine kp 7 (.pointer (some ⟨gs,0+pp,none⟩)) rfl kr (fun _=>zei (t:=221) (x:=.tmp 79) (y:=.tmp 82) (g:=gs) (off:=0) (n:=16) (c:=c6) (p:=pp) rr kr kr HPP.out Tryz.underlying221 szU32) ?_;intro q8 q9;clear q8 q9;refine AnyK.store 8 (d:=none) (op:=.store 44 (.tmp 86) (.tmp 85)) kr (fun o ho=>zc4 (p:=⟨gs,0+pp,none⟩) (k:=.u32) (n:=n32 yy) ho kr kr szU32 (by rw[Nat.zero_add];exact HSC.out) (by rw[Nat.zero_add];exact HSF.out)) kr (fun h=>(by cases h)) ?_;refine AnyK.done kr ?_;rw[Nat.zero_add];clear hT
       go_wp2_with fail
       go_roundg (4-(k+1))
       case measure=>have:=HKK.out;omega
       case rel=>exact⟨k+1,by omega,rfl,by go_num,HB2.out,HO2.out,HP2'.out,HQ2.out,HY2.out,HBE2.out⟩
     · obtain rfl:k=4:=om
       have hk4i:¬((4:Nat):Int)<4:=om;have HB:=qh hb;clear hb hq hy;have HO:=qh ho;have HPL:=qh hp;have HBE:=qh hB;clear ho hp hB
       go_wp2_with fail
       go_roundg (80-(i+1))
       case measure=>have:=HGK.out;omega
       case rel=>exact⟨i+1,_,by omega,rfl,by go_num,by rw[HNX.out,HRS.out],HB.out,HO.out,HPL.out,HBE.out⟩
  · obtain rfl:i=80:=om
    have hlt2:¬((80:Nat):Int)<80:=om;have hS2:S=Ch.rounds s0 10:=by rw[hS];exact zi6 s0 10
    have HS2:=qh hS2;have hgsw:=hb.lt;have hgow:=ho.lt;have HB:=qh hb;have HO:=qh ho;have HBE:=qh hB;have hwB:=hB.size;obtain⟨W0,hW0⟩:=ex9 (wr.heap.size);rw[←hW0]at hgsw hgow hwB;have HW0:Hid (W0≤wr.heap.size):=Nat.le_of_eq hW0;clear hb ho hB hS hS2 hp hW0 hSl
    go_wp2_with fail
    go_loopg [14,15] 16 (fun kk v q w2=>∃i:Nat,i≤16∧kk=16-i∧q=.int .i64 i∧(∃A' c',v=.slice A' (4*i) c'∧4*i≤c'∧w2.ownsRow W0 5 1 (.slice A' (4*i) c') (4*i) (u8s (Ch.final S s0 i)))∧Blk w2 gs 44 (u32s S++rest)∧Blk w2 go 44 (u32s s0++rest2)∧Below w.heap.size w w2∧W0≤w2.heap.size)
    case atStart=>exact⟨0,by omega,rfl,rfl,⟨_,_,rfl,by omega,⟨rfl,.inl ⟨rfl,rfl⟩⟩⟩,HB.out,HO.out,HBE.out,HW0.out⟩
    case round =>
     clear HB HO HBE HW0;obtain⟨i,hi,hjk,rfl,⟨A',c',rfl,hc',hown⟩,hb,ho,hB,hsz⟩:=hrel;have HJK:=qh hjk;clear hjk
     by_cases hlt:i<16
     · have hlt3:(i:Int)<16:=om
       have cx:=(hb.cell i).trans (zd1 HSL.out rest i hlt);have cy:=(ho.cell i).trans (zd1 H16.out rest2 i hlt);have HFN:Hid (Ch.final S s0 (i+1)=Ch.final S s0 i++Ch.leBytes (S.getD i 0+s0.getD i 0)):=rfl;have HFL:=qh (Ch.final_len S s0 i);obtain⟨x,hx⟩:=ex9 (S.getD i 0);obtain⟨y,hy⟩:=ex9 (s0.getD i 0);rw[←hx,←hy]at HFN;rw[←hx]at cx;rw[←hy]at cy
       have HPT:Hid (∀W:World,Calls Tryz.prog 61 #[.int .i64 1,.int .i64 4,.int .u64 (IntKind.u64.wrap (IntKind.u32.wrap (n32 x+n32 y)))] W fun e w'=>e=.returned (.tuple #[.slice (some ⟨W.heap.size,0,none⟩) 4 4,.int .i64 0])∧Blk w' W.heap.size 5 (u8s (Ch.leBytes (x+y)))∧Below W.heap.size W w'):=fun W=>by
        rw[zeg,show IntKind.u64.wrap (n32 (x+y))=n32 (x+y) by have:=zfb (x+y);rw[IntKind.wrap_u64];omega];exact rput_w (x+y) W
       obtain⟨F,hF⟩:=ex9 (Ch.final S s0 i);obtain⟨z,hz⟩:=ex9 (x+y);rw[←hF]at HFN HFL hown;rw[←hz]at HFN HPT;have HCX:=qh cx;have HCY:=qh cy;have HB:=qh hb;have HO:=qh ho;have HBE:=qh hB;have HOW:=qh hown;have hgsl:=hb.lt;have hgol:=ho.lt;have hwsz:=hB.size;clear cx cy hx hy hF hz hb ho hB hown;have HLZ:Hid ((Ch.leBytes z).length=4):=rfl
       go_wp2_with fail
       have hT:wr.drew.cell? ⟨gs,i,none⟩=some (.int .u32 (n32 x))∧wr.drew.cell? ⟨go,i,none⟩=some (.int .u32 (n32 y)):=⟨HCX.out,HCY.out⟩;refine kgo kr 15 (fun w'=>w'.cell? ⟨gs,i,none⟩=some (.int .u32 (n32 x))∧w'.cell? ⟨go,i,none⟩=some (.int .u32 (n32 y))) hT (fun _ _ _ _ _ h=>h) ?_;refine kp 0 (.slice (some ⟨gs,0,none⟩) 16 c6) rfl kr (fun _=>kr) ?_;refine kp 1 (.int .i64 i) rfl kr (fun _=>kr) ?_;refine kp 2 (.pointer (some ⟨gs,0+i,none⟩)) rfl kr (fun _=>zei (t:=221) (x:=.tmp 92) (y:=.tmp 93) (g:=gs) (off:=0) (n:=16) (c:=c6) (p:=i) rr kr kr hlt Tryz.underlying221 szU32) ?_;refine kl 3 (.int .u32 (n32 x)) rfl kr (fun w' hw'=>za5 (t:=44) (x:=.tmp 94) (p:=⟨gs,0+i,none⟩) rr kr agU32 (by rw[Nat.zero_add];exact hw'.1)) ?_;refine kp 4 (.slice (some ⟨go,0,none⟩) 16 c7) rfl kr (fun _=>kr) ?_;refine kp 5 (.int .i64 i) rfl kr (fun _=>kr) ?_;refine kp 6 (.pointer (some ⟨go,0+i,none⟩)) rfl kr (fun _=>zei (t:=221) (x:=.tmp 96) (y:=.tmp 97) (g:=go) (off:=0) (n:=16) (c:=c7) (p:=i) rr kr kr hlt Tryz.underlying221 szU32) ?_;refine kl 7 (.int .u32 (n32 y)) rfl kr (fun w' hw'=>za5 (t:=44) (x:=.tmp 98) (p:=⟨go,0+i,none⟩) rr kr agU32 (by rw[Nat.zero_add];exact hw'.2)) ?_;refine kp 8 (.int .u32 (IntKind.u32.wrap (n32 x+n32 y))) rfl kr (fun _=>kr) ?_;refine kp 9 (.int .u64 (IntKind.u64.wrap (IntKind.u32.wrap (n32 x+n32 y)))) rfl kr (fun _=>kr) ?_;intro q8 q9;clear q8 q9;refine AnyK.enter 10 (d:=some 102) (f:=61) (args:=#[.int .i64 1,.int .i64 4,.int .u64 (IntKind.u64.wrap (IntKind.u32.wrap (n32 x+n32 y)))]) kr kr kr ?_;refine(HPT.out _).mono ?_;rintro e w5 ⟨rfl,hb5,hB5⟩;have hT5:w5.cell? ⟨gs,i,none⟩=some (.int .u32 (n32 x))∧w5.cell? ⟨go,i,none⟩=some (.int .u32 (n32 y)):=⟨(hB5.cell (p:=⟨gs,i,none⟩) hgsl).trans hT.1,(hB5.cell (p:=⟨go,i,none⟩) hgol).trans hT.2⟩;refine⟨_,rfl,fun _=>hT5,?_⟩;refine AnyK.pure 11 (v:=.tuple #[.slice (some ⟨wr.heap.size,0,none⟩) 4 4,.int .i64 0]) rfl kr (fun _ _ _ h=>h) rfl (fun _=>kr) (fun _=>hT5) ?_;refine AnyK.pure 12 (v:=.slice (some ⟨wr.heap.size,0,none⟩) 4 4) rfl kr (fun _ _ _ h=>h) rfl (fun _=>kr) (fun _=>hT5) ?_;refine AnyK.pure 13 (v:=.int .i64 0) rfl kr (fun _ _ _ h=>h) rfl (fun _=>kr) (fun _=>hT5) ?_;refine AnyK.pure 14 (v:=.slice (some ⟨wr.heap.size,0,none⟩) 4 4) rfl kr (fun _ _ _ h=>h) rfl (fun _=>kr) (fun _=>hT5) ?_;refine AnyK.val 15 (v:=.int .i64 0) rfl kr rfl kr (fun h=>(by cases h)) ?_;refine AnyK.done kr ?_;have HB5:=qh (HB.out.drew.below hB5 hgsl);have HO5:=qh (HO.out.drew.below hB5 hgol);have HBE5:=qh (HBE.out.drew.trans (hB5.mono hwsz));have HOW5:=qh (zau HOW.out.drew hB5);have hs5:wr.heap.size≤w5.heap.size:=hB5.size;have HRN:=qh hb5.rdAll;rw[HLZ.out]at HRN;have HLT5:=qh (fun k hk=>(HOW.out.lt k hk));have hb4:4*i+4≤64:=om;clear hT hT5 hb5 hB5 HCX HCY HPT HB HO HBE HOW
       go_wp2_with (at_builtin;refine zah rfl (.tmp 105) (.tmp 106) 22 rfl W0 5 1 1 Tryz.underlying22 eU8 (.slice A' (4*i) c') (4*i) (u8s F) rr (by exact HOW5.out) (some ⟨wr.heap.size,0,none⟩) 4 4 (u8s (Ch.leBytes z)) rr (by exact HRN.out.toS) (zac _) om om om ?_;intro A4 c4 w6 hown4 hc4 hg4 hat4;have HO4:=qh hown4;rw[←zae,←HFN.out]at HO4;have HB6:=qh (HB5.out.grown hg4 (fun e=>by have:=(HLT5.out _ e.symm).1;omega));have HO6:=qh (HO5.out.grown hg4 (fun e=>by have:=(HLT5.out _ e.symm).1;omega));have HBE6:=qh (HBE5.out.grown hg4 HBE5.out.size (fun k hk=>by have:=(HLT5.out _ hk).1;omega));have hs6:w5.heap.size≤w6.heap.size:=hg4.size;clear hown4 hg4 hat4)
       go_roundg (16-(i+1))
       case measure=>have:=HJK.out;omega
       case rel=>exact⟨i+1,by omega,rfl,by go_num,⟨A4,c4,rfl,by omega,HO4.out⟩,HB6.out,HO6.out,HBE6.out,by omega⟩
     · obtain rfl:i=16:=om
       have hlt3:¬((16:Nat):Int)<16:=om;rw[HS2.out,←HBK.out]at hown;have HOW:=qh (zbj hown (base':=w.heap.size) hwB);clear hown hb ho;have HBE:=qh hB;clear hB
       go_wp2_with fail
       go_ret;exact⟨A',c',rfl,hc',HOW.out,HBE.out⟩
end
theorem zot(key:List UInt8)(n m:Nat)(h:n≤m):(Ch.piece key 0 m).take n=Ch.piece key 0 n:=by
 have e:Ch.piece key 0 m=Ch.piece key 0 n++Ch.piece key (0+n) (m-n):=by rw[←Ch.piece_add,show n+(m-n)=m by omega]
 rw[e,List.take_left' (Ch.piece_len _ _ _)]
theorem zts(key:List UInt8)(i:Nat):Ch.piece key 0 (64*i+64)=Ch.piece key 0 (64*i)++Ch.block key (Ch.zeros 12) (UInt32.ofNat i):=by
 have h:=zfm key 0 (64*i) 64 om;rw[h,show(0+64*i)/64=i by omega,show(0+64*i)%64=0 by omega,List.drop_zero,tk (Nat.le_of_eq (Ch.block_len _ _ _))]
theorem zon(A:Option Addr)(c:Nat)(key:List UInt8)(n:Nat)(w:World)(h:Rd w A 32 (u8s key))(h0:0<n)(hn:n≤1000000):
 Calls Tryz.prog 77 #[.slice A 32 c,.int .i64 0,.int .i64 n] w fun e w'=>∃A' c',e=.returned (.slice A' n c')∧n≤c'∧w'.ownsRow w.heap.size 5 1 (.slice A' n c') n (u8s (Ch.piece key 0 n))∧Below w.heap.size w w':=by
 have HR:=qh h;clear h;obtain⟨M,hM⟩:=ex9 ((n+63)/64);have hM1:n≤64*M:=om;have hM2:64*M<n+64:=om;clear hM
 go_enter Tryz.func77, Tryz.ntmps77
 go_wp2_with fail
 go_loopg [7,8] M (fun kk v q wr=>∃i L:Nat,i≤M∧kk=M-i∧L=64*i∧q=.int .i64 i∧(∃A' c',v=.slice A' L c'∧L≤c'∧wr.ownsRow w.heap.size 5 1 (.slice A' L c') L (u8s (Ch.piece key 0 L)))∧Below w.heap.size w wr)
 case atStart=>exact⟨0,0,by omega,rfl,rfl,rfl,⟨_,_,rfl,by omega,⟨rfl,.inl ⟨rfl,rfl⟩⟩⟩,Below.refl _ _⟩
 case round =>
  obtain⟨i,L,hi,hgk,hL,rfl,⟨A',c',rfl,hc',hown⟩,hB⟩:=hrel;have HGK:=qh hgk;have HL:=qh hL
  by_cases hlt:L<n
  · have hlt2:(L:Int)<(n:Int):=om
    have hk32:i<4294967296:=om;have hi2:i≤1000000:=om;have hi3:i<M:=om;have hL2:L≤1000000:=om
    have HBL:Hid (∀W B,Rd W A 32 (u8s key)→Rd W B 12 (u8s (Ch.zeros 12))→Calls Tryz.prog 117 #[.slice A 32 c,.slice B 12 12,.int .u32 (i:Int)] W fun e w'=>∃A' c',e=.returned (.slice A' 64 c')∧64≤c'∧w'.ownsRow W.heap.size 5 1 (.slice A' 64 c') 64 (u8s (Ch.block key (Ch.zeros 12) (UInt32.ofNat i)))∧Below W.heap.size W w'):=fun W B h1 h2=>by
     have:=zg2 A B c 12 key (Ch.zeros 12) (UInt32.ofNat i) W h1 h2;rw[zg8 i hk32]at this;exact this
    have HST:Hid (Ch.piece key 0 (L+64)=Ch.piece key 0 L++Ch.block key (Ch.zeros 12) (UInt32.ofNat i)):=by show _=_;rw[hL];exact zts key i
    have hbl:=Ch.block_len key (Ch.zeros 12) (UInt32.ofNat i);obtain⟨bl,hbe⟩:=ex9 (Ch.block key (Ch.zeros 12) (UInt32.ofNat i));rw[←hbe]at HBL HST hbl;have HLEN:=qh hbl;have HBE:=qh hB;have HOW:=qh hown;clear hbe hbl hgk hL hB hown
    go_wp2_with (first
     | (refine zao rfl (.const (.int .i64 12)) (.const (.int .i64 12)) 22 rfl 5 (.int .u8 0) 1 Tryz.underlying22 iU8 rfl .i64 .i64 12 12 rr rr 12 12 rfl rfl om om om ?_;intro w1 hb1 hg1 hs1;have HB1:=qh (zaf hg1);have HZ1:Hid (Rd w1 (some ⟨wr.heap.size,0,none⟩) 12 (u8s (Ch.zeros 12))):=hb1.rdAll;have HE1:=qh (HBE.out.trans (HB1.out.mono HBE.out.size));have HO1:=qh (zau HOW.out HB1.out);clear hb1 hg1 hs1)
     | (go_at_call 117;(with_reducible refine(HBL.out w1 _ (by exact HR.out.below HE1.out) (by exact HZ1.out)).mono ?_);rintro e w3 ⟨A3,c3,rfl,hc3,hown3,hB3⟩;have HR3:=qh (Rd.of_own hown3);have HE3:=qtr HE1 hB3;have HO3:=qh (zau HO1.out hB3);clear hown3 hB3)
     | (at_builtin;refine zah rfl (.tmp 20) (.tmp 25) 22 rfl w.heap.size 5 1 1 Tryz.underlying22 eU8 (.slice A' L c') L (u8s (Ch.piece key 0 L)) rr (by exact HO3.out) A3 64 c3 (u8s bl) rr (by exact HR3.out.toS) (zac _) om om HE3.out.size ?_;intro A4 c4 w4 hown4 hc4 hg4 hat4;have HO4:=qh hown4;rw[←zae,←HST.out]at HO4;have HE4:=qh (HE3.out.grown hg4 HE3.out.size (fun k hk=>(HO3.out.lt k hk).1));clear hown4 hg4 hat4))
    go_roundg (M-(i+1))
    case measure=>have:=HGK.out;omega
    case rel=>exact⟨i+1,L+64,by omega,rfl,by have:=HL.out;omega,by go_num,⟨A4,c4,rfl,by omega,HO4.out⟩,HE4.out⟩
  · have hlt2:¬(L:Int)<(n:Int):=om
    have hLb:L≤2000000:=om;have hnL:(n:Int)≤(L:Int):=om;have hnc:(n:Int)≤(c':Int):=om;obtain⟨g,rfl,hg,_,hr⟩:=zcl hown om;have hr2:=zg1 hr 0 n om;rw[List.drop_zero,zot _ _ _ om]at hr2;have HC:Hid (∀W,Rd W (some ⟨g,0,none⟩) n (u8s (Ch.piece key 0 n))→Calls Tryz.prog 12 #[.slice (some ⟨g,0,none⟩) n c'] W fun e w'=>∃A' c',e=.returned (.slice A' n c')∧n≤c'∧w'.ownsRow W.heap.size 5 1 (.slice A' n c') n (u8s (Ch.piece key 0 n))∧Below W.heap.size W w'):=fun W h1=>zbs _ n c' _ W h1 om
    have HR2:=qh hr2;have HBE:=qh hB;clear hown hr hr2 hB hgk hL
    go_wp2_with ((go_at_call 12;(with_reducible refine(HC.out _ (by exact HR2.out)).mono ?_);rintro e w3 ⟨A3,c3,rfl,hc3,hown3,hB3⟩
                  have HO3:=qh (zbj hown3 HBE.out.size);have HE3:=qtr HBE hB3
                  clear hown3 hB3))
    go_ret;exact⟨A3,c3,rfl,hc3,HO3.out,HE3.out⟩
end Go.Proofs.YtpgpaenloaphaaaGreat
