/- Part of the proof. -/
import Derived.Test.YtadopcjppijgiaaGreatSkp23
set_option linter.all false
set_option maxRecDepth 100000
set_option maxHeartbeats 0
namespace Go.Proofs.YtadopcjppijgiaaGreat
open Go.RowKit
theorem zuf(x:UInt32)(w:World):Calls Tryz.prog 153 #[.int .u32 (n32 x),.int .i64 16] w fun e w'=>e=.returned (.int .u32 (n32 (Sh.rotr x 16)))∧∃q,w'=w.drewN q:=by
 have HR:Hid (bits .or .u32 (n32 x*65536%(4294967296:Int)) (n32 x/65536)=n32 (Sh.rotr x 16)):=zho x 16 om om
 go_enter Tryz.func153, Tryz.ntmps153
 go_wp2_with fail
 go_quiet (fail)
 go_wp2_with fail
 go_ret;exact⟨by rw[←HR.o];rfl,_,rfl⟩
theorem zug(x:UInt32)(w:World):Calls Tryz.prog 153 #[.int .u32 (n32 x),.int .i64 12] w fun e w'=>e=.returned (.int .u32 (n32 (Sh.rotr x 20)))∧∃q,w'=w.drewN q:=by
 have HR:Hid (bits .or .u32 (n32 x*4096%(4294967296:Int)) (n32 x/1048576)=n32 (Sh.rotr x 20)):=zho x 12 om om
 go_enter Tryz.func153, Tryz.ntmps153
 go_wp2_with fail
 go_quiet (fail)
 go_wp2_with fail
 go_ret;exact⟨by rw[←HR.o];rfl,_,rfl⟩
theorem zxw(x:UInt32)(w:World):Calls Tryz.prog 153 #[.int .u32 (n32 x),.int .i64 8] w fun e w'=>e=.returned (.int .u32 (n32 (Sh.rotr x 24)))∧∃q,w'=w.drewN q:=by
 have HR:Hid (bits .or .u32 (n32 x*256%(4294967296:Int)) (n32 x/16777216)=n32 (Sh.rotr x 24)):=zho x 8 om om
 go_enter Tryz.func153, Tryz.ntmps153
 go_wp2_with fail
 go_quiet (fail)
 go_wp2_with fail
 go_ret;exact⟨by rw[←HR.o];rfl,_,rfl⟩
theorem zxx(x:UInt32)(w:World):Calls Tryz.prog 153 #[.int .u32 (n32 x),.int .i64 7] w fun e w'=>e=.returned (.int .u32 (n32 (Sh.rotr x 25)))∧∃q,w'=w.drewN q:=by
 have HR:Hid (bits .or .u32 (n32 x*128%(4294967296:Int)) (n32 x/33554432)=n32 (Sh.rotr x 25)):=zho x 7 om om
 go_enter Tryz.func153, Tryz.ntmps153
 go_wp2_with fail
 go_quiet (fail)
 go_wp2_with fail
 go_ret;exact⟨by rw[←HR.o];rfl,_,rfl⟩
def leNat(l:List UInt8):Nat:=beNat l.reverse
theorem zpr(l:List UInt8)(c:UInt8):leNat (l++[c])=leNat l+256^l.length*c.toNat:=by
 unfold leNat
 rw[List.reverse_append]
 show beNat (c :: l.reverse)=_
 rw[zji,List.length_reverse,Nat.mul_comm,Nat.add_comm]
theorem zod(l:List UInt8):leNat l<256^l.length:=by
 have:=zkt l.reverse
 rwa [List.length_reverse]at this
theorem zxh(n:Int)(h1:1≤n)(h2:n≤8)(w:World):Calls Tryz.prog 66 #[.int .i64 1,.int .i64 n] w fun e w'=>e=.returned (.bool true)∧w=w':=by
 have e1:decide (1≤n)=true:=by simpa using h1
 have e2:decide (n≤8)=true:=by simpa using h2
 go_enter Tryz.func66, Tryz.ntmps66
 go_wp2;go_ret;exact⟨by simp,rfl⟩
theorem zwm(A:Option Addr)(n c at_ k:Nat)(l:List UInt8)(w:World)(h:Rd w A n (u8s l))(hn:n≤140737488355328)(h1:1≤k)(h2:k≤8)(h3:at_+k≤n):
 Calls Tryz.prog 113 #[.int .i64 1,.slice A n c,.int .i64 at_,.int .i64 k] w fun e w'=>e=.returned (.tuple #[.int .u64 (leNat ((l.drop at_).take k)),.int .i64 0])∧w=w':=by
 have hl:=h.len;have HL:=qh hl;clear hl;have e1:decide ((at_:Int)<0)=false:=by simp
 have e2:decide ((n:Int)<(k:Int))=false:=by simp;omega
 have e3:decide ((n:Int)-(k:Int)<(at_:Int))=false:=by simp;omega
 go_enter Tryz.func113, Tryz.ntmps113
 go_wp2_with (go_at_call 66;refine(zxh _ om om _).mono ?_;rintro e w' ⟨rfl,rfl⟩)
 go_loop [10,11,12] (fun m p i=>∃j:Nat,j≤k∧i=.int .i64 j∧p=.int .u64 ((256^j%18446744073709551616:Nat):Int)∧m=.int .u64 (leNat ((l.drop at_).take j))) (fun _ _ i=>k-(intOf i).toNat)
 case atStart=>exact⟨0,Nat.zero_le _,rfl,rfl,rfl⟩
 case round =>
  obtain⟨j,hj,rfl,rfl,rfl⟩:=hrel
  by_cases hlt:j<k
  · obtain⟨b,G,x,rfl,hb,HX,hc⟩:=h.u8 (k:=at_+j) om
    have D:=zod ((l.drop at_).take j)
    have hs:leNat ((l.drop at_).take (j+1))=leNat ((l.drop at_).take j)+256^j*x.toNat:=by
     rw[List.take_add_one,List.getElem?_drop,HX.o]
     show leNat (_++[x])=_
     rw[zpr,List.length_take,List.length_drop,HL.o,Nat.min_eq_left om]
    have HS:=qh hs;have r:=qh D;have i0:(0:Int)≤(at_:Int)+(j:Int):=om;have i1:(at_:Int)+(j:Int)<(n:Int):=om;clear hs D;generalize leNat ((l.drop at_).take j)=m at *;have hm:m<256^j:=Nat.lt_of_lt_of_le r.o (Nat.pow_le_pow_right om (List.length_take_le _ _));have hst:=zrj j m x om hm;have E:=qh hst;clear hst hm r;generalize hp:256^j%18446744073709551616=p at *;have HP:=qh hp;clear hp;go_wp2
    go_round
    case rel=>exact⟨j+1,by omega,by go_num,by rw[E.o.1],by rw[E.o.2,HS.o]⟩
    case measure=>simp[intOf];omega
  · have:j=k:=om
    subst this;go_wp2;go_ret2;exact⟨rfl,rfl⟩
def leBz(n:Nat):Nat→List UInt8
 | 0=>[]
 | i+1=>leBz n i++[UInt8.ofNat (n/256^i)]
theorem zj9(n i:Nat):(leBz n i).length=i:=by
 induction i with
 | zero=>rfl
 | succ i ih=>simp[leBz,ih]
def lePut(n k i:Nat):List UInt8:=leBz n i++List.replicate (k-i) 0
theorem zss(n k i:Nat)(h:i≤k):(lePut n k i).length=k:=by simp[lePut,zj9];omega
theorem zsr(n k i:Nat)(h:i<k):(lePut n k i).set i (UInt8.ofNat (n/256^i))=lePut n k (i+1):=by
 unfold lePut
 rw[List.set_append_right _ _ (by rw[zj9];exact lr),zj9,Nat.sub_self,show k-i=(k-(i+1))+1 by omega,List.replicate_succ,List.set_cons_zero,leBz]
 simp
theorem zvg(z:UInt32):leBz z.toNat 4=Ch.leBytes z:=by
 have e0:=b0 z;have e8:=b8 z;have A:=b16 z;have r:=b24 z
 unfold n32 at e0 e8 A r
 simp only[leBz,Ch.leBytes,List.nil_append,List.cons_append,List.cons.injEq,and_true];refine⟨?_,?_,?_,?_⟩ <;> (apply UInt8.toNat_inj.1;rw[UInt8.toNat_ofNat'];simp only[Nat.pow_zero,Nat.div_one,Nat.reducePow];omega)
theorem rput_w(z:UInt32)(w:World):
 Calls Tryz.prog 34 #[.int .i64 1,.int .i64 4,.int .u64 (n32 z)] w fun e w'=>e=.returned (.tuple #[.slice (some ⟨w.heap.size,0,none⟩) 4 4,.int .i64 0])∧Blk w' w.heap.size 5 (u8s (Ch.leBytes z))∧Below w.heap.size w w':=by
 obtain⟨n,r⟩:=ex9 (z.toNat);have hn:n<4294967296:=by rw[r];exact z.toNat_lt
 have M:Hid (Ch.leBytes z=leBz n 4):=by show _=_;rw[r,zvg]
 rw[show n32 z=(n:Int) by rw[r];rfl,M.o];clear r M
 go_enter Tryz.func34, Tryz.ntmps34
 go_wp2_with (first
  | (go_at_call 66;go_in)
  | (refine zaj rfl (.tmp 15) (.tmp 15) 22 rfl 5 (.int .u8 0) 1 Tryz.underlying22 iU8 rfl .i64 .i64 4 4 rr rr 4 4 rfl rfl om om om ?_;intro w1 U E a1;have G:Hid (Blk w1 w.heap.size 5 (u8s (lePut n 4 0))):=U;have V:Hid (Below w.heap.size w w1):=zad E;clear U E a1))
 go_loopg [2,9] 4 (fun kk qn q wr=>∃i m:Nat,i≤4∧kk=4-i∧m=n/256^i∧m<4294967296∧qn=.int .u64 (m:Int)∧q=.int .i64 i∧Blk wr w.heap.size 5 (u8s (lePut n 4 i))∧Below w.heap.size w wr)
 case atStart=>exact⟨0,n,by omega,rfl,by simp,hn,rfl,rfl,G.o,V.o⟩
 case round =>
  clear G V;obtain⟨i,m,hi,D,hm,a3,rfl,rfl,hb,hB⟩:=hrel;have a0:=qh D;have HM:=qh hm;clear D hm
  by_cases hlt:i<4
  · have J:(i:Int)<4:=om
    have a4:(0:Int)≤(i:Int):=om;have HS:=qh (zsr n 4 i hlt);have Y:=zss n 4 i hi;obtain⟨x,hx⟩:∃x,(lePut n 4 i)[i]? = some x:=⟨_,ge9 om⟩;have cx:wr.cell? ⟨w.heap.size,i,none⟩=some (.int .u8 x.toNat):=by rw[hb.cell,u8s_getElem?,hx];rfl
    have fx:=hb.frozen i;have X:=qh (zoc m);have I:=qh (hb.set_ i (.int .u8 (UInt8.ofNat m).toNat));rw[za5,HM.o,HS.o,←HM.o]at I;have a2:=qh (hB.setCell (p:=⟨w.heap.size,i,none⟩) lr (.int .u8 (UInt8.ofNat m).toNat));have a5:=hb.lt;have A:(0:Int)≤(m:Int):=om;clear hx Y hb
    go_wp2_with fail
    rw[X.o];go_roundg (4-(i+1))
    case measure=>have:=a0.o;omega
    case rel=>exact⟨i+1,m/256,by omega,rfl,by rw[HM.o,Nat.pow_succ,Nat.div_div_eq_div_mul],by omega,by go_num,by go_num,I.o,a2.o⟩
  · obtain rfl:i=4:=om
    have J:¬((4:Nat):Int)<4:=om;have A:m=0:=by rw[HM.o];exact Nat.div_eq_of_lt hn
    subst A;have HB:=qh hb;rw[show lePut n 4 4=leBz n 4 from by unfold lePut;simp]at HB;clear hb
    go_wp2_with fail
    go_ret2;exact⟨rfl,HB.o,hB⟩
section
abbrev Q4:=UInt32 × UInt32 × UInt32 × UInt32
def qturn:Nat→UInt32
 | 0=>16
 | 1=>20
 | 2=>24
 | _=>25
def qstep(v:Q4)(i:Nat):Q4 :=
 if i%2=0 then (v.1+v.2.1,v.2.1,v.2.2.1,Sh.rotr (v.2.2.2 ^^^ (v.1+v.2.1)) (qturn i))
 else (v.1,Sh.rotr (v.2.1 ^^^ (v.2.2.1+v.2.2.2)) (qturn i),v.2.2.1+v.2.2.2,v.2.2.2)
def qst(v:Q4):Nat→Q4
 | 0=>v
 | i+1=>qstep (qst v i) i
def q4s(q:Q4):List Value:=u32s [q.1,q.2.1,q.2.2.1,q.2.2.2]
theorem agInt(w:World):(isAgg 3).run Tryz.prog w=.ok false w:=by kernel_rfl
theorem hd192:(Tryz.prog.info? 224).map (·.size)=some 4:=by kernel_rfl
attribute [local go_sem] zee zem
theorem zk6(x:Q4)(w:World):
 Calls Tryz.prog 138 #[.agg (q4s x).toArray] w fun e w'=>e=.returned (.agg (q4s (qst x 4)).toArray)∧Below w.heap.size w w':=by
 have e0:q4s x=[.int .u32 (n32 x.1),.int .u32 (n32 x.2.1),.int .u32 (n32 x.2.2.1),.int .u32 (n32 x.2.2.2)]:=rfl;have a1:Hid (Blk (((w.alloc (.cells #[.int .u32 (n32 x.1),.int .u32 (n32 x.2.1),.int .u32 (n32 x.2.2.1),.int .u32 (n32 x.2.2.2)] 224)).alloc (.cells #[.int .u32 0,.int .u32 0,.int .u32 0,.int .u32 0] 224)).alloc (.cells #[.int .i64 16,.int .i64 12,.int .i64 8,.int .i64 7] 222)) w.heap.size 224 (q4s (qst x 0))):=((Blk.new' rfl rfl).alloc _).alloc _;have a4:Hid (Blk (((w.alloc (.cells #[.int .u32 (n32 x.1),.int .u32 (n32 x.2.1),.int .u32 (n32 x.2.2.1),.int .u32 (n32 x.2.2.2)] 224)).alloc (.cells #[.int .u32 0,.int .u32 0,.int .u32 0,.int .u32 0] 224)).alloc (.cells #[.int .i64 16,.int .i64 12,.int .i64 8,.int .i64 7] 222)) (w.heap.size+1) 224 (q4s (0,0,0,0))):=(Blk.new' sy rfl).alloc _;have a2:Hid (Blk (((w.alloc (.cells #[.int .u32 (n32 x.1),.int .u32 (n32 x.2.1),.int .u32 (n32 x.2.2.1),.int .u32 (n32 x.2.2.2)] 224)).alloc (.cells #[.int .u32 0,.int .u32 0,.int .u32 0,.int .u32 0] 224)).alloc (.cells #[.int .i64 16,.int .i64 12,.int .i64 8,.int .i64 7] 222)) (w.heap.size+1+1) 222 [.int .i64 16,.int .i64 12,.int .i64 8,.int .i64 7]):=Blk.new' sy rfl;have a5:Hid (Below w.heap.size w (((w.alloc (.cells #[.int .u32 (n32 x.1),.int .u32 (n32 x.2.1),.int .u32 (n32 x.2.2.1),.int .u32 (n32 x.2.2.2)] 224)).alloc (.cells #[.int .u32 0,.int .u32 0,.int .u32 0,.int .u32 0] 224)).alloc (.cells #[.int .i64 16,.int .i64 12,.int .i64 8,.int .i64 7] 222))):=(((Below.refl _ _).alloc lr _).alloc sy _).alloc (by simp;omega) _;rw[e0];clear e0
 go_enter Tryz.func138, Tryz.ntmps138
 go_wp2_with fail
 go_loopg [4] 4 (fun kk q wr=>∃i:Nat,∃y:Q4,i≤4∧kk=4-i∧q=.int .i64 i∧y=qst x i∧Blk wr w.heap.size 224 (q4s y)∧Blk wr (w.heap.size+1) 224 (q4s (0,0,0,0))∧Blk wr (w.heap.size+1+1) 222 [.int .i64 16,.int .i64 12,.int .i64 8,.int .i64 7]∧Below w.heap.size w wr)
 case atStart=>exact⟨0,x,by omega,rfl,rfl,rfl,a1.o,a4.o,a2.o,a5.o⟩
 case round =>
  clear a1 a4 a2 a5;obtain⟨i,⟨a,b,c,d⟩,hi,a3,rfl,hy,hq,hz,ht,hB⟩:=hrel;have Y:=qh a3;have HY:=qh hy;clear a3 hy
  by_cases hlt:i<4
  · obtain rfl|rfl|rfl|rfl:i=0∨i=1∨i=2∨i=3:=om
    · have X:((0:Nat):Int)<4:=om
      have c0:wr.cell? ⟨w.heap.size,0,none⟩=some (.int .u32 (n32 a)):=(hq.cell 0).trans rfl;have c1:wr.cell? ⟨w.heap.size,1,none⟩=some (.int .u32 (n32 b)):=(hq.cell 1).trans rfl;have c2:wr.cell? ⟨w.heap.size,2,none⟩=some (.int .u32 (n32 c)):=(hq.cell 2).trans rfl;have c3:wr.cell? ⟨w.heap.size,3,none⟩=some (.int .u32 (n32 d)):=(hq.cell 3).trans rfl;have f0:=hq.frozen 0;have a0:=hq.lt;have r:Hid (Blk (wr.setCell ⟨w.heap.size,0,none⟩ (.int .u32 (n32 (a+b)))) w.heap.size 224 (q4s (a+b,b,c,d))):=hq.set_ 0 (.int .u32 (n32 (a+b)));have G:=qh (hz.far (p:=⟨w.heap.size,0,none⟩) (by show w.heap.size+1≠w.heap.size;omega) (.int .u32 (n32 (a+b))));have A:=qh (ht.far (p:=⟨w.heap.size,0,none⟩) (by show w.heap.size+1+1≠w.heap.size;omega) (.int .u32 (n32 (a+b))));have E:=qh (hB.setCell (p:=⟨w.heap.size,0,none⟩) lr (.int .u32 (n32 (a+b))));have HL:Hid (∀W:World,Calls Tryz.prog 153 #[.int .u32 (bits .xor .u32 (n32 d) (n32 (a+b))),.int .i64 16] W fun e w'=>e=.returned (.int .u32 (n32 (Sh.rotr (d ^^^ (a+b)) 16)))∧∃q,w'=W.drewN q):=fun W=>by rw[zed];exact zuf _ W
      clear hq hz ht hB
      go_wp2_with fail
      obtain⟨w1,D⟩:=ex9 (wr.setCell ⟨w.heap.size,0,none⟩ (.int .u32 (n32 (a+b))));rw[←D]at r G A E ⊢;clear D c0 c1 c2 c3 f0;have hT:w1.drew.cell? ⟨w.heap.size,3,none⟩=some (.int .u32 (n32 d))∧w1.drew.cell? ⟨w.heap.size,0,none⟩=some (.int .u32 (n32 (a+b)))∧w1.drew.cell? ⟨w.heap.size+1+1,0,none⟩=some (.int .i64 16):=⟨(r.o.cell 3).trans rfl,(r.o.cell 0).trans rfl,(A.o.cell 0).trans rfl⟩;refine kgo kr 10 (fun w'=>w'.cell? ⟨w.heap.size,3,none⟩=some (.int .u32 (n32 d))∧w'.cell? ⟨w.heap.size,0,none⟩=some (.int .u32 (n32 (a+b)))∧w'.cell? ⟨w.heap.size+1+1,0,none⟩=some (.int .i64 16)) hT (fun _ _ _ _ _ h=>h) ?_;refine kp 0 (.pointer (some ⟨w.heap.size,3,none⟩)) rfl kr (fun _=>kr) ?_;refine kl 1 (.int .u32 (n32 d)) rfl kr (fun w' hw'=>za0 (t:=61) (x:=.tmp 19) (p:=⟨w.heap.size,3,none⟩) rr kr agU32 hw'.1) ?_;refine kp 2 (.pointer (some ⟨w.heap.size,0,none⟩)) rfl kr (fun _=>kr) ?_;refine kl 3 (.int .u32 (n32 (a+b))) rfl kr (fun w' hw'=>za0 (t:=61) (x:=.tmp 21) (p:=⟨w.heap.size,0,none⟩) rr kr agU32 hw'.2.1) ?_;refine kp 4 (.int .u32 (bits .xor .u32 (n32 d) (n32 (a+b)))) rfl kr (fun _=>kr) ?_;refine kp 5 (.int .i64 0) rfl kr (fun _=>kr) ?_;refine kp 6 (.pointer (some ⟨w.heap.size+1+1,0,none⟩)) rfl kr (fun _=>kr) ?_;refine kl 7 (.int .i64 16) rfl kr (fun w' hw'=>za0 (t:=3) (x:=.tmp 25) (p:=⟨w.heap.size+1+1,0,none⟩) rr kr agInt hw'.2.2) ?_;intro q8 q9;clear q8 q9;refine AnyK.enter 8 (d:=some 27) (f:=153) (args:=#[.int .u32 (bits .xor .u32 (n32 d) (n32 (a+b))),.int .i64 16]) kr kr kr ?_;refine(HL.o _).mono ?_;rintro e w2 ⟨rfl,nq,rfl⟩;refine⟨_,rfl,fun _=>hT,?_⟩;refine AnyK.pure 9 (v:=.pointer (some ⟨w.heap.size,3,none⟩)) rfl kr (fun _ _ _ h=>h) rfl (fun _=>kr) (fun _=>hT) ?_;refine AnyK.store 10 (d:=none) (op:=.store 61 (.tmp 28) (.tmp 27)) kr (fun o ho=>zc6 (p:=⟨w.heap.size,3,none⟩) (k:=.u32) (n:=n32 (Sh.rotr (d ^^^ (a+b)) 16)) ho kr kr szU32 hT.1 (r.o.frozen 3)) kr (fun h=>(by cases h)) ?_;refine AnyK.done kr ?_;have J:Hid (Blk ((w1.drew.drewN nq).setCell ⟨w.heap.size,3,none⟩ (.int .u32 (n32 (Sh.rotr (d ^^^ (a+b)) 16)))) w.heap.size 224 (q4s (a+b,b,c,Sh.rotr (d ^^^ (a+b)) 16))):=(r.o.drew.drewN nq).set_ 3 (.int .u32 (n32 (Sh.rotr (d ^^^ (a+b)) 16)));have I:=qh ((G.o.drew.drewN nq).far (p:=⟨w.heap.size,3,none⟩) (by show w.heap.size+1≠w.heap.size;omega) (.int .u32 (n32 (Sh.rotr (d ^^^ (a+b)) 16))));have V:=qh ((A.o.drew.drewN nq).far (p:=⟨w.heap.size,3,none⟩) (by show w.heap.size+1+1≠w.heap.size;omega) (.int .u32 (n32 (Sh.rotr (d ^^^ (a+b)) 16))));have M:=qh ((Below.drewM E.o (1+nq)).setCell (p:=⟨w.heap.size,3,none⟩) lr (.int .u32 (n32 (Sh.rotr (d ^^^ (a+b)) 16))));clear hT
      go_wp2_with fail
      go_roundg (4-(0+1))
      case measure=>have:=Y.o;omega
      case rel=>exact⟨0+1,(a+b,b,c,Sh.rotr (d ^^^ (a+b)) 16),by omega,rfl,by go_num,by show _=qstep (qst x 0) 0;rw[←HY.o];rfl,J.o,I.o,V.o,M.o⟩
    · have X:((1:Nat):Int)<4:=om
      have c0:wr.cell? ⟨w.heap.size,0,none⟩=some (.int .u32 (n32 a)):=(hq.cell 0).trans rfl;have c1:wr.cell? ⟨w.heap.size,1,none⟩=some (.int .u32 (n32 b)):=(hq.cell 1).trans rfl;have c2:wr.cell? ⟨w.heap.size,2,none⟩=some (.int .u32 (n32 c)):=(hq.cell 2).trans rfl;have c3:wr.cell? ⟨w.heap.size,3,none⟩=some (.int .u32 (n32 d)):=(hq.cell 3).trans rfl;have f0:=hq.frozen 2;have a0:=hq.lt;have r:Hid (Blk (wr.setCell ⟨w.heap.size,2,none⟩ (.int .u32 (n32 (c+d)))) w.heap.size 224 (q4s (a,b,c+d,d))):=hq.set_ 2 (.int .u32 (n32 (c+d)));have G:=qh (hz.far (p:=⟨w.heap.size,2,none⟩) (by show w.heap.size+1≠w.heap.size;omega) (.int .u32 (n32 (c+d))));have A:=qh (ht.far (p:=⟨w.heap.size,2,none⟩) (by show w.heap.size+1+1≠w.heap.size;omega) (.int .u32 (n32 (c+d))));have E:=qh (hB.setCell (p:=⟨w.heap.size,2,none⟩) lr (.int .u32 (n32 (c+d))));have HL:Hid (∀W:World,Calls Tryz.prog 153 #[.int .u32 (bits .xor .u32 (n32 b) (n32 (c+d))),.int .i64 12] W fun e w'=>e=.returned (.int .u32 (n32 (Sh.rotr (b ^^^ (c+d)) 20)))∧∃q,w'=W.drewN q):=fun W=>by rw[zed];exact zug _ W
      clear hq hz ht hB
      go_wp2_with fail
      obtain⟨w1,D⟩:=ex9 (wr.setCell ⟨w.heap.size,2,none⟩ (.int .u32 (n32 (c+d))));rw[←D]at r G A E ⊢;clear D c0 c1 c2 c3 f0;have hT:w1.drew.cell? ⟨w.heap.size,1,none⟩=some (.int .u32 (n32 b))∧w1.drew.cell? ⟨w.heap.size,2,none⟩=some (.int .u32 (n32 (c+d)))∧w1.drew.cell? ⟨w.heap.size+1+1,1,none⟩=some (.int .i64 12):=⟨(r.o.cell 1).trans rfl,(r.o.cell 2).trans rfl,(A.o.cell 1).trans rfl⟩;refine kgo kr 10 (fun w'=>w'.cell? ⟨w.heap.size,1,none⟩=some (.int .u32 (n32 b))∧w'.cell? ⟨w.heap.size,2,none⟩=some (.int .u32 (n32 (c+d)))∧w'.cell? ⟨w.heap.size+1+1,1,none⟩=some (.int .i64 12)) hT (fun _ _ _ _ _ h=>h) ?_;refine kp 0 (.pointer (some ⟨w.heap.size,1,none⟩)) rfl kr (fun _=>kr) ?_;refine kl 1 (.int .u32 (n32 b)) rfl kr (fun w' hw'=>za0 (t:=61) (x:=.tmp 35) (p:=⟨w.heap.size,1,none⟩) rr kr agU32 hw'.1) ?_;refine kp 2 (.pointer (some ⟨w.heap.size,2,none⟩)) rfl kr (fun _=>kr) ?_;refine kl 3 (.int .u32 (n32 (c+d))) rfl kr (fun w' hw'=>za0 (t:=61) (x:=.tmp 37) (p:=⟨w.heap.size,2,none⟩) rr kr agU32 hw'.2.1) ?_;refine kp 4 (.int .u32 (bits .xor .u32 (n32 b) (n32 (c+d)))) rfl kr (fun _=>kr) ?_;refine kp 5 (.int .i64 1) rfl kr (fun _=>kr) ?_;refine kp 6 (.pointer (some ⟨w.heap.size+1+1,1,none⟩)) rfl kr (fun _=>kr) ?_;refine kl 7 (.int .i64 12) rfl kr (fun w' hw'=>za0 (t:=3) (x:=.tmp 41) (p:=⟨w.heap.size+1+1,1,none⟩) rr kr agInt hw'.2.2) ?_;intro q8 q9;clear q8 q9;refine AnyK.enter 8 (d:=some 43) (f:=153) (args:=#[.int .u32 (bits .xor .u32 (n32 b) (n32 (c+d))),.int .i64 12]) kr kr kr ?_;refine(HL.o _).mono ?_;rintro e w2 ⟨rfl,nq,rfl⟩;refine⟨_,rfl,fun _=>hT,?_⟩;refine AnyK.pure 9 (v:=.pointer (some ⟨w.heap.size,1,none⟩)) rfl kr (fun _ _ _ h=>h) rfl (fun _=>kr) (fun _=>hT) ?_;refine AnyK.store 10 (d:=none) (op:=.store 61 (.tmp 44) (.tmp 43)) kr (fun o ho=>zc6 (p:=⟨w.heap.size,1,none⟩) (k:=.u32) (n:=n32 (Sh.rotr (b ^^^ (c+d)) 20)) ho kr kr szU32 hT.1 (r.o.frozen 1)) kr (fun h=>(by cases h)) ?_;refine AnyK.done kr ?_;have J:Hid (Blk ((w1.drew.drewN nq).setCell ⟨w.heap.size,1,none⟩ (.int .u32 (n32 (Sh.rotr (b ^^^ (c+d)) 20)))) w.heap.size 224 (q4s (a,Sh.rotr (b ^^^ (c+d)) 20,c+d,d))):=(r.o.drew.drewN nq).set_ 1 (.int .u32 (n32 (Sh.rotr (b ^^^ (c+d)) 20)));have I:=qh ((G.o.drew.drewN nq).far (p:=⟨w.heap.size,1,none⟩) (by show w.heap.size+1≠w.heap.size;omega) (.int .u32 (n32 (Sh.rotr (b ^^^ (c+d)) 20))));have V:=qh ((A.o.drew.drewN nq).far (p:=⟨w.heap.size,1,none⟩) (by show w.heap.size+1+1≠w.heap.size;omega) (.int .u32 (n32 (Sh.rotr (b ^^^ (c+d)) 20))));have M:=qh ((Below.drewM E.o (1+nq)).setCell (p:=⟨w.heap.size,1,none⟩) lr (.int .u32 (n32 (Sh.rotr (b ^^^ (c+d)) 20))));clear hT
      go_wp2_with fail
      go_roundg (4-(1+1))
      case measure=>have:=Y.o;omega
      case rel=>exact⟨1+1,(a,Sh.rotr (b ^^^ (c+d)) 20,c+d,d),by omega,rfl,by go_num,by show _=qstep (qst x 1) 1;rw[←HY.o];rfl,J.o,I.o,V.o,M.o⟩
    · have X:((2:Nat):Int)<4:=om
      have c0:wr.cell? ⟨w.heap.size,0,none⟩=some (.int .u32 (n32 a)):=(hq.cell 0).trans rfl;have c1:wr.cell? ⟨w.heap.size,1,none⟩=some (.int .u32 (n32 b)):=(hq.cell 1).trans rfl;have c2:wr.cell? ⟨w.heap.size,2,none⟩=some (.int .u32 (n32 c)):=(hq.cell 2).trans rfl;have c3:wr.cell? ⟨w.heap.size,3,none⟩=some (.int .u32 (n32 d)):=(hq.cell 3).trans rfl;have f0:=hq.frozen 0;have a0:=hq.lt;have r:Hid (Blk (wr.setCell ⟨w.heap.size,0,none⟩ (.int .u32 (n32 (a+b)))) w.heap.size 224 (q4s (a+b,b,c,d))):=hq.set_ 0 (.int .u32 (n32 (a+b)));have G:=qh (hz.far (p:=⟨w.heap.size,0,none⟩) (by show w.heap.size+1≠w.heap.size;omega) (.int .u32 (n32 (a+b))));have A:=qh (ht.far (p:=⟨w.heap.size,0,none⟩) (by show w.heap.size+1+1≠w.heap.size;omega) (.int .u32 (n32 (a+b))));have E:=qh (hB.setCell (p:=⟨w.heap.size,0,none⟩) lr (.int .u32 (n32 (a+b))));have HL:Hid (∀W:World,Calls Tryz.prog 153 #[.int .u32 (bits .xor .u32 (n32 d) (n32 (a+b))),.int .i64 8] W fun e w'=>e=.returned (.int .u32 (n32 (Sh.rotr (d ^^^ (a+b)) 24)))∧∃q,w'=W.drewN q):=fun W=>by rw[zed];exact zxw _ W
      clear hq hz ht hB
      go_wp2_with fail
      obtain⟨w1,D⟩:=ex9 (wr.setCell ⟨w.heap.size,0,none⟩ (.int .u32 (n32 (a+b))));rw[←D]at r G A E ⊢;clear D c0 c1 c2 c3 f0;have hT:w1.drew.cell? ⟨w.heap.size,3,none⟩=some (.int .u32 (n32 d))∧w1.drew.cell? ⟨w.heap.size,0,none⟩=some (.int .u32 (n32 (a+b)))∧w1.drew.cell? ⟨w.heap.size+1+1,2,none⟩=some (.int .i64 8):=⟨(r.o.cell 3).trans rfl,(r.o.cell 0).trans rfl,(A.o.cell 2).trans rfl⟩;refine kgo kr 10 (fun w'=>w'.cell? ⟨w.heap.size,3,none⟩=some (.int .u32 (n32 d))∧w'.cell? ⟨w.heap.size,0,none⟩=some (.int .u32 (n32 (a+b)))∧w'.cell? ⟨w.heap.size+1+1,2,none⟩=some (.int .i64 8)) hT (fun _ _ _ _ _ h=>h) ?_;refine kp 0 (.pointer (some ⟨w.heap.size,3,none⟩)) rfl kr (fun _=>kr) ?_;refine kl 1 (.int .u32 (n32 d)) rfl kr (fun w' hw'=>za0 (t:=61) (x:=.tmp 19) (p:=⟨w.heap.size,3,none⟩) rr kr agU32 hw'.1) ?_;refine kp 2 (.pointer (some ⟨w.heap.size,0,none⟩)) rfl kr (fun _=>kr) ?_;refine kl 3 (.int .u32 (n32 (a+b))) rfl kr (fun w' hw'=>za0 (t:=61) (x:=.tmp 21) (p:=⟨w.heap.size,0,none⟩) rr kr agU32 hw'.2.1) ?_;refine kp 4 (.int .u32 (bits .xor .u32 (n32 d) (n32 (a+b)))) rfl kr (fun _=>kr) ?_;refine kp 5 (.int .i64 2) rfl kr (fun _=>kr) ?_;refine kp 6 (.pointer (some ⟨w.heap.size+1+1,2,none⟩)) rfl kr (fun _=>kr) ?_;refine kl 7 (.int .i64 8) rfl kr (fun w' hw'=>za0 (t:=3) (x:=.tmp 25) (p:=⟨w.heap.size+1+1,2,none⟩) rr kr agInt hw'.2.2) ?_;intro q8 q9;clear q8 q9;refine AnyK.enter 8 (d:=some 27) (f:=153) (args:=#[.int .u32 (bits .xor .u32 (n32 d) (n32 (a+b))),.int .i64 8]) kr kr kr ?_;refine(HL.o _).mono ?_;rintro e w2 ⟨rfl,nq,rfl⟩;refine⟨_,rfl,fun _=>hT,?_⟩;refine AnyK.pure 9 (v:=.pointer (some ⟨w.heap.size,3,none⟩)) rfl kr (fun _ _ _ h=>h) rfl (fun _=>kr) (fun _=>hT) ?_;refine AnyK.store 10 (d:=none) (op:=.store 61 (.tmp 28) (.tmp 27)) kr (fun o ho=>zc6 (p:=⟨w.heap.size,3,none⟩) (k:=.u32) (n:=n32 (Sh.rotr (d ^^^ (a+b)) 24)) ho kr kr szU32 hT.1 (r.o.frozen 3)) kr (fun h=>(by cases h)) ?_;refine AnyK.done kr ?_;have J:Hid (Blk ((w1.drew.drewN nq).setCell ⟨w.heap.size,3,none⟩ (.int .u32 (n32 (Sh.rotr (d ^^^ (a+b)) 24)))) w.heap.size 224 (q4s (a+b,b,c,Sh.rotr (d ^^^ (a+b)) 24))):=(r.o.drew.drewN nq).set_ 3 (.int .u32 (n32 (Sh.rotr (d ^^^ (a+b)) 24)));have I:=qh ((G.o.drew.drewN nq).far (p:=⟨w.heap.size,3,none⟩) (by show w.heap.size+1≠w.heap.size;omega) (.int .u32 (n32 (Sh.rotr (d ^^^ (a+b)) 24))));have V:=qh ((A.o.drew.drewN nq).far (p:=⟨w.heap.size,3,none⟩) (by show w.heap.size+1+1≠w.heap.size;omega) (.int .u32 (n32 (Sh.rotr (d ^^^ (a+b)) 24))));have M:=qh ((Below.drewM E.o (1+nq)).setCell (p:=⟨w.heap.size,3,none⟩) lr (.int .u32 (n32 (Sh.rotr (d ^^^ (a+b)) 24))));clear hT
      go_wp2_with fail
      go_roundg (4-(2+1))
      case measure=>have:=Y.o;omega
      case rel=>exact⟨2+1,(a+b,b,c,Sh.rotr (d ^^^ (a+b)) 24),by omega,rfl,by go_num,by show _=qstep (qst x 2) 2;rw[←HY.o];rfl,J.o,I.o,V.o,M.o⟩
    · have X:((3:Nat):Int)<4:=om
      have c0:wr.cell? ⟨w.heap.size,0,none⟩=some (.int .u32 (n32 a)):=(hq.cell 0).trans rfl;have c1:wr.cell? ⟨w.heap.size,1,none⟩=some (.int .u32 (n32 b)):=(hq.cell 1).trans rfl;have c2:wr.cell? ⟨w.heap.size,2,none⟩=some (.int .u32 (n32 c)):=(hq.cell 2).trans rfl;have c3:wr.cell? ⟨w.heap.size,3,none⟩=some (.int .u32 (n32 d)):=(hq.cell 3).trans rfl;have f0:=hq.frozen 2;have a0:=hq.lt;have r:Hid (Blk (wr.setCell ⟨w.heap.size,2,none⟩ (.int .u32 (n32 (c+d)))) w.heap.size 224 (q4s (a,b,c+d,d))):=hq.set_ 2 (.int .u32 (n32 (c+d)));have G:=qh (hz.far (p:=⟨w.heap.size,2,none⟩) (by show w.heap.size+1≠w.heap.size;omega) (.int .u32 (n32 (c+d))));have A:=qh (ht.far (p:=⟨w.heap.size,2,none⟩) (by show w.heap.size+1+1≠w.heap.size;omega) (.int .u32 (n32 (c+d))));have E:=qh (hB.setCell (p:=⟨w.heap.size,2,none⟩) lr (.int .u32 (n32 (c+d))));have HL:Hid (∀W:World,Calls Tryz.prog 153 #[.int .u32 (bits .xor .u32 (n32 b) (n32 (c+d))),.int .i64 7] W fun e w'=>e=.returned (.int .u32 (n32 (Sh.rotr (b ^^^ (c+d)) 25)))∧∃q,w'=W.drewN q):=fun W=>by rw[zed];exact zxx _ W
      clear hq hz ht hB
      go_wp2_with fail
      obtain⟨w1,D⟩:=ex9 (wr.setCell ⟨w.heap.size,2,none⟩ (.int .u32 (n32 (c+d))));rw[←D]at r G A E ⊢;clear D c0 c1 c2 c3 f0;have hT:w1.drew.cell? ⟨w.heap.size,1,none⟩=some (.int .u32 (n32 b))∧w1.drew.cell? ⟨w.heap.size,2,none⟩=some (.int .u32 (n32 (c+d)))∧w1.drew.cell? ⟨w.heap.size+1+1,3,none⟩=some (.int .i64 7):=⟨(r.o.cell 1).trans rfl,(r.o.cell 2).trans rfl,(A.o.cell 3).trans rfl⟩;refine kgo kr 10 (fun w'=>w'.cell? ⟨w.heap.size,1,none⟩=some (.int .u32 (n32 b))∧w'.cell? ⟨w.heap.size,2,none⟩=some (.int .u32 (n32 (c+d)))∧w'.cell? ⟨w.heap.size+1+1,3,none⟩=some (.int .i64 7)) hT (fun _ _ _ _ _ h=>h) ?_;refine kp 0 (.pointer (some ⟨w.heap.size,1,none⟩)) rfl kr (fun _=>kr) ?_;refine kl 1 (.int .u32 (n32 b)) rfl kr (fun w' hw'=>za0 (t:=61) (x:=.tmp 35) (p:=⟨w.heap.size,1,none⟩) rr kr agU32 hw'.1) ?_;refine kp 2 (.pointer (some ⟨w.heap.size,2,none⟩)) rfl kr (fun _=>kr) ?_;refine kl 3 (.int .u32 (n32 (c+d))) rfl kr (fun w' hw'=>za0 (t:=61) (x:=.tmp 37) (p:=⟨w.heap.size,2,none⟩) rr kr agU32 hw'.2.1) ?_;refine kp 4 (.int .u32 (bits .xor .u32 (n32 b) (n32 (c+d)))) rfl kr (fun _=>kr) ?_;refine kp 5 (.int .i64 3) rfl kr (fun _=>kr) ?_;refine kp 6 (.pointer (some ⟨w.heap.size+1+1,3,none⟩)) rfl kr (fun _=>kr) ?_;refine kl 7 (.int .i64 7) rfl kr (fun w' hw'=>za0 (t:=3) (x:=.tmp 41) (p:=⟨w.heap.size+1+1,3,none⟩) rr kr agInt hw'.2.2) ?_;intro q8 q9;clear q8 q9;refine AnyK.enter 8 (d:=some 43) (f:=153) (args:=#[.int .u32 (bits .xor .u32 (n32 b) (n32 (c+d))),.int .i64 7]) kr kr kr ?_;refine(HL.o _).mono ?_;rintro e w2 ⟨rfl,nq,rfl⟩;refine⟨_,rfl,fun _=>hT,?_⟩;refine AnyK.pure 9 (v:=.pointer (some ⟨w.heap.size,1,none⟩)) rfl kr (fun _ _ _ h=>h) rfl (fun _=>kr) (fun _=>hT) ?_;refine AnyK.store 10 (d:=none) (op:=.store 61 (.tmp 44) (.tmp 43)) kr (fun o ho=>zc6 (p:=⟨w.heap.size,1,none⟩) (k:=.u32) (n:=n32 (Sh.rotr (b ^^^ (c+d)) 25)) ho kr kr szU32 hT.1 (r.o.frozen 1)) kr (fun h=>(by cases h)) ?_;refine AnyK.done kr ?_;have J:Hid (Blk ((w1.drew.drewN nq).setCell ⟨w.heap.size,1,none⟩ (.int .u32 (n32 (Sh.rotr (b ^^^ (c+d)) 25)))) w.heap.size 224 (q4s (a,Sh.rotr (b ^^^ (c+d)) 25,c+d,d))):=(r.o.drew.drewN nq).set_ 1 (.int .u32 (n32 (Sh.rotr (b ^^^ (c+d)) 25)));have I:=qh ((G.o.drew.drewN nq).far (p:=⟨w.heap.size,1,none⟩) (by show w.heap.size+1≠w.heap.size;omega) (.int .u32 (n32 (Sh.rotr (b ^^^ (c+d)) 25))));have V:=qh ((A.o.drew.drewN nq).far (p:=⟨w.heap.size,1,none⟩) (by show w.heap.size+1+1≠w.heap.size;omega) (.int .u32 (n32 (Sh.rotr (b ^^^ (c+d)) 25))));have M:=qh ((Below.drewM E.o (1+nq)).setCell (p:=⟨w.heap.size,1,none⟩) lr (.int .u32 (n32 (Sh.rotr (b ^^^ (c+d)) 25))));clear hT
      go_wp2_with fail
      go_roundg (4-(3+1))
      case measure=>have:=Y.o;omega
      case rel=>exact⟨3+1,(a,Sh.rotr (b ^^^ (c+d)) 25,c+d,d),by omega,rfl,by go_num,by show _=qstep (qst x 3) 3;rw[←HY.o];rfl,J.o,I.o,V.o,M.o⟩
  · obtain rfl:i=4:=om
    have X:¬((4:Nat):Int)<4:=om;rw[HY.o]at hq;obtain⟨U,hU⟩:=ex9 (q4s (qst x 4));have HI:Hid ((Tryz.prog.info? 224).map (·.size)=some (q4s (qst x 4)).length):=hd192;have H1:Hid (∀v∈q4s (qst x 4),v.oneCell'=true):=zbc _;have HL:Hid ((q4s (qst x 4)).length=4):=rfl;rw[←hU]at hq HI H1 HL;have HU:=qh hU;clear hU HY
    go_wp2_with (first
     | refine wpList_load_mid rfl 224 (.tmp 1) rfl w.heap.size 0 rr U _ hq.range Tryz.underlying224 rfl HI.o ?_
     | (refine zab rfl 224 (.tmp 2) (.tmp 45) rfl (w.heap.size+1) U rr rr 224 _ hz HI.o H1.o (by rw[HL.o];rfl) ?_;intro w8 a7 a6))
    exact bodyPost_ret (zan rfl _ (w.heap.size+1) _ U rfl a7 _ Tryz.underlying224 rfl HI.o) rfl ⟨by rw[HU.o],a6.below hB om hB.size⟩
end
theorem eU32:ElemIs Tryz.prog 61 1 4:=ElemIs.of (z:=.int .u32 0) kr rfl om
theorem leNat4(a b c d:UInt8):(leNat [a,b,c,d]:Int)=n32 (Ch.le32 a b c d):=by
 have ha:=a.toNat_lt;have hb:=b.toNat_lt;have hc:=c.toNat_lt;have hd:=d.toNat_lt
 unfold n32 Ch.le32 Sh.be32 leNat beNat
 simp only[List.reverse_cons,List.reverse_nil,List.nil_append,List.cons_append,List.foldl_cons,List.foldl_nil,Nat.zero_mul,Nat.zero_add];rw[UInt32.toNat_ofNat']
 congr 1
 omega
theorem zpq(l:List UInt8)(k:Nat)(h:4*k+4≤l.length):(leNat ((l.drop (4*k)).take 4):Int)=n32 (Ch.word l k):=by
 have e:(l.drop (4*k)).take 4=[l.getD (4*k) 0,l.getD (4*k+1) 0,l.getD (4*k+2) 0,l.getD (4*k+3) 0]:=by
  apply List.ext_getElem?
  intro i;rw[List.getElem?_take]
  by_cases hi:i<4
  · rw[if_pos hi,List.getElem?_drop]
    obtain rfl|rfl|rfl|rfl:i=0∨i=1∨i=2∨i=3:=om
    all_goals (simp only[List.getD_eq_getElem?_getD,Nat.add_zero,List.getElem?_cons_zero,List.getElem?_cons_succ];rw[ge9 om];rfl)
  · rw[if_neg hi]
    rw[List.getElem?_eq_none (by simp;omega)]
 rw[e,leNat4]
 rfl
theorem zfu(A:Option Addr)(n c m:Nat)(l:List UInt8)(w:World)(h:Rd w A n (u8s l))(hn:n=4*m)(hb:n≤1000000):
 Calls Tryz.prog 137 #[.slice A n c] w fun e w'=>∃A' c',e=.returned (.slice A' m c')∧m≤c'∧w'.ownsRow w.heap.size 61 1 (.slice A' m c') m (u32s (Ch.words l m))∧Below w.heap.size w w':=by
 have hl:l.length=n:=h.len
 have HG:=qh (fun(W:World) (k a:Nat) (hk:4*k+4≤n) (ha:a=4*k) (hr:Rd W A n (u8s l))=>(show Calls Tryz.prog 113 #[.int .i64 1,.slice A n c,.int .i64 a,.int .i64 4] W fun e w'=>e=.returned (.tuple #[.int .u64 (n32 (Ch.word l k)),.int .i64 0])∧W=w' from by
  have h5:=zwm A n c a 4 l W hr om om om om;rw[ha,zpq l k om]at h5;rw[ha]
  exact h5))
 have HR:=qh h;clear h hl
 go_enter Tryz.func137, Tryz.ntmps137
 go_wp2_with fail
 go_loopg [3,4] m (fun kk v q wr=>∃i a:Nat,i≤m∧kk=m-i∧a=4*i∧q=.int .i64 a∧(∃A' c',v=.slice A' i c'∧i≤c'∧wr.ownsRow w.heap.size 61 1 (.slice A' i c') i (u32s (Ch.words l i)))∧Below w.heap.size w wr)
 case atStart=>exact⟨0,0,by omega,rfl,rfl,rfl,⟨_,_,rfl,by omega,⟨rfl,.inl ⟨rfl,rfl⟩⟩⟩,Below.refl _ _⟩
 case round =>
  obtain⟨i,a,hi,M,ha,rfl,⟨A',c',rfl,a0,r⟩,hB⟩:=hrel;have a1:=qh M;have HA:=qh ha;clear M
  by_cases hlt:i<m
  · have V:(a:Int)+3<(n:Int):=om
    have U:=qh (fun(hr:Rd wr A n (u8s l))=>HG.o wr i a om ha hr);obtain⟨x,hx⟩:=ex9 (Ch.word l i);rw[←hx]at U;have Y:Hid (u32s (Ch.words l (i+1))=u32s (Ch.words l i)++u32s [x]):=by show _=_;rw[Ch.words,←hx];simp[u32s]
    have a6:IntKind.u32.wrap (n32 x)=n32 x:=by have:=zfj x;rw[IntKind.wrap_u32];omega
    have a3:n32 x%4294967296=n32 x:=by have:=zfj x;omega
    have D:=qh hB;have G:=qh r;have a7:a+4≤1000000:=om;have a4:i≤1000000:=om;clear hx r hB ha hn
    go_wp2_with (first
     | (go_at_call 113;(with_reducible refine(U.o (by exact HR.o.below D.o)).mono ?_);rintro e w1 ⟨rfl,rfl⟩)
     | (at_builtin;refine zah rfl (.tmp 20) (.tmp 23) 220 rfl w.heap.size 61 1 4 Tryz.underlying220 eU32 (.slice A' i c') i (u32s (Ch.words l i)) rr (by exact G.o.alloc _) (some ⟨wr.heap.size,0,none⟩) 1 1 (u32s [x]) rr (by exact RdS.new wr 61 (u32s [x]) 1 rfl) (zbc _) om om (Nat.le_trans D.o.size sy) ?_;intro A4 c4 w4 E a5 J I;have a2:=qh ((D.o.alloc D.o.size _).grown J (Nat.le_trans D.o.size sy) (fun g hg=>(G.o.lt g hg).1));have X:=qh E;rw[←Y.o]at X;clear E J I))
    go_roundg (m-(i+1))
    case measure=>have:=a1.o;omega
    case rel=>exact⟨i+1,a+4,by omega,rfl,by have:=HA.o;omega,by go_num,⟨A4,c4,rfl,by omega,X.o⟩,a2.o⟩
  · obtain rfl:i=m:=om
    have V:¬(a:Int)+3<(n:Int):=om;have G:=qh r;clear r
    go_wp2_with fail
    go_ret;exact⟨A',c',rfl,a0,G.o,hB⟩
section
attribute [local go_sem ↓] zeh zb0
theorem rinv_n(a:Nat)(w:World)(ha:a<115792089237316195423570985008687907853269984665640564039457584007913129639936):
 Calls Tryz.prog 112 #[.agg (n8 a).toArray] w fun e w'=>e=.returned (.agg (n8 (a^pE%pr)).toArray)∧Below w.heap.size w w':=by
 have V:Hid (∀W,(Instr.makeSlice 22 (.int .i64 32) (.int .i64 32)).run Tryz.prog W=.ok (.slice (some ⟨W.heap.size,0,none⟩) 32 32) (W.alloc (.cells (u8s (fz 0)).toArray 5))):=fun W=>by kernel_rfl
 obtain⟨W1,D⟩:=ex9 (((w.alloc (.cells (n8 a).toArray 166)).alloc (.cells o8.toArray 166)).alloc (.cells (u8s (fz 0)).toArray 5))
 have I:Hid (Blk W1 w.heap.size 166 (n8 a)∧Blk W1 (w.heap.size+1) 166 o8∧Blk W1 (w.heap.size+2) 5 (u8s (fz 0))∧Below w.heap.size w W1) :=
  D ▸ ⟨((Blk.new w _ _).alloc _).alloc _,(Blk.new' sy rfl).alloc _,Blk.new' sy rfl,(((Below.refl _ w).alloc lr _).alloc sy _).alloc (by simp <;> omega) _⟩
 have a2:=V.o
 go_enter Tryz.func112, Tryz.ntmps112
 go_wp2
 go_loopg [4] 32 (fun kk q wr=>∃i:Nat,kk=32-i∧q=.int .i64 (i:Int)∧i≤32∧Blk wr w.heap.size 166 (n8 a)∧Blk wr (w.heap.size+1) 166 o8∧Blk wr (w.heap.size+2) 5 (u8s (fz i))∧Below w.heap.size w wr)
 case atStart=>exact⟨0,rfl,rfl,by omega,D ▸ I.o⟩
 case round =>
  clear I D;obtain⟨i,a0,rfl,hi,hA,hZ,hS,hE⟩:=hrel
  rcases Nat.lt_or_ge i 32 with U|a3
  · have M:(i:Int)<32:=om
    have cc:wr.cell? ⟨w.heap.size+1+1,i,none⟩=some (.int .u8 (((fz i).getD i 0).toNat:Int)):=by
     refine(hS.cell i).trans ?_;rw[u8s_getElem?,gd9,ge9 (by rw[zlv];exact U)]
     rfl
    have ff:wr.frozen? ⟨w.heap.size+1+1,i,none⟩=false:=hS.frozen i;have HA:=qh (hA.far (p:=⟨w.heap.size+2,i,none⟩) sy (.int .u8 255));have HZ:=qh (hZ.far (p:=⟨w.heap.size+2,i,none⟩) sy (.int .u8 255));have HS:Hid (Blk (wr.setCell ⟨w.heap.size+2,i,none⟩ (.int .u8 255)) (w.heap.size+2) 5 (u8s (fz (i+1)))):=(za5 (fz i) i 255) ▸ hS.set_ i (.int .u8 255);have HE:=qh (hE.setCell (p:=⟨w.heap.size+2,i,none⟩) (Nat.le_add_right _ _) (.int .u8 255));clear hA hZ hS hE;go_wp2;go_roundg (32-(i+1))
    case measure=>omega
    case rel=>exact⟨i+1,rfl,by go_num,by omega,HA.o,HZ.o,HS.o,HE.o⟩
  · obtain rfl:i=32:=om
    have M:¬(32:Int)<32:=om;have a4:wr.cell? ⟨w.heap.size+1+1,0,none⟩=some (.int .u8 255):=(hS.cell 0).trans rfl;have a6:wr.frozen? ⟨w.heap.size+1+1,0,none⟩=false:=hS.frozen 0;have r:=hS.set_ 0 (.int .u8 235);have a5:(wr.setCell ⟨w.heap.size+1+1,0,none⟩ (.int .u8 235)).cell? ⟨w.heap.size+1+1,31,none⟩=some (.int .u8 255):=(r.cell 31).trans rfl;have a8:(wr.setCell ⟨w.heap.size+1+1,0,none⟩ (.int .u8 235)).frozen? ⟨w.heap.size+1+1,31,none⟩=false:=r.frozen 31;have HS:Hid (Blk ((wr.setCell ⟨w.heap.size+1+1,0,none⟩ (.int .u8 235)).setCell ⟨w.heap.size+1+1,31,none⟩ (.int .u8 127)) (w.heap.size+2) 5 (u8s eP)):=r.set_ 31 (.int .u8 127);have HA:Hid (Blk ((wr.setCell ⟨w.heap.size+1+1,0,none⟩ (.int .u8 235)).setCell ⟨w.heap.size+1+1,31,none⟩ (.int .u8 127)) w.heap.size 166 (n8 a)):=(hA.far (p:=⟨w.heap.size+2,0,none⟩) sy (.int .u8 235)).far (p:=⟨w.heap.size+2,31,none⟩) sy (.int .u8 127);have HZ:Hid (Blk ((wr.setCell ⟨w.heap.size+1+1,0,none⟩ (.int .u8 235)).setCell ⟨w.heap.size+1+1,31,none⟩ (.int .u8 127)) (w.heap.size+1) 166 o8):=(hZ.far (p:=⟨w.heap.size+2,0,none⟩) sy (.int .u8 235)).far (p:=⟨w.heap.size+2,31,none⟩) sy (.int .u8 127);have HE:Hid (Below w.heap.size w ((wr.setCell ⟨w.heap.size+1+1,0,none⟩ (.int .u8 235)).setCell ⟨w.heap.size+1+1,31,none⟩ (.int .u8 127))):=(hE.setCell (p:=⟨w.heap.size+2,0,none⟩) (Nat.le_add_right _ _) (.int .u8 235)).setCell (p:=⟨w.heap.size+2,31,none⟩) (Nat.le_add_right _ _) (.int .u8 127)
    have HP:Hid (∀c,Calls Tryz.prog 133 #[.agg (n8 a).toArray,.slice (some ⟨w.heap.size+1+1,0,none⟩) 32 c] ((wr.setCell ⟨w.heap.size+1+1,0,none⟩ (.int .u8 235)).setCell ⟨w.heap.size+1+1,31,none⟩ (.int .u8 127)) fun e w'=>e=.returned (.agg (n8 (a^pE%pr)).toArray)∧Below ((wr.setCell ⟨w.heap.size+1+1,0,none⟩ (.int .u8 235)).setCell ⟨w.heap.size+1+1,31,none⟩ (.int .u8 127)).heap.size ((wr.setCell ⟨w.heap.size+1+1,0,none⟩ (.int .u8 235)).setCell ⟨w.heap.size+1+1,31,none⟩ (.int .u8 127)) w'):=fun c =>
     pE_eq ▸ rpow_n a _ c eP ((wr.setCell ⟨w.heap.size+1+1,0,none⟩ (.int .u8 235)).setCell ⟨w.heap.size+1+1,31,none⟩ (.int .u8 127)) ha (HS.o.rdA (by rw[eP,List.length_set,List.length_set,zlv]))
    have a7:=zaw HA.o;clear hA hZ hS hE r a0 a2
    go_wp2_with (first
     | (go_at_call 133;(with_reducible refine(HP.o _).mono ?_);rintro e w4 ⟨rfl,A⟩;have Y:=qbl HZ A;have J:=qtr HE A;clear A)
     | (refine zab rfl 166 (.tmp 2) (.tmp 19) rfl (w.heap.size+1) (n8 (a^pE%pr)) rr rr 166 _ Y.o (by exact hdN8' _) (za7 _) (by rw[zar];rfl) ?_;intro w5 G E;have X:=qh G;have a1:=qh (E.below J.o om J.o.size);clear G E))
    exact bodyPost_ret (zan rfl _ _ _ _ rfl X.o _ Tryz.underlying166 rfl (by exact hdN8' _)) rfl ⟨rfl,a1.o⟩
theorem zkl:∀(k n q:Nat),q<k→(dig k n).getD q 0=n/4294967296^q%4294967296
 | 0,_,_,h=>by omega
 | k+1,n,0,_=>by simp[dig]
 | k+1,n,q+1,h=>by
  have ih:=zkl k (n/4294967296) q om;rw[dig,List.getD_cons_succ,ih,Nat.div_div_eq_div_mul,Nat.pow_succ,Nat.mul_comm]
theorem zv1(n i:Nat):n/4294967296^(i/4)%4294967296/2^(8*(i%4))%256=n/256^i%256:=by
 have h1:(256:Nat)^i=4294967296^(i/4)*2^(8*(i%4)):=by
  rw[show(256:Nat)=2^8 by rfl,show(4294967296:Nat)=2^32 by rfl,←Nat.pow_mul,←Nat.pow_mul,←Nat.pow_add]
  congr 1
  omega
 rw[h1,←Nat.div_div_eq_div_mul];obtain⟨m,hm⟩:=ex9 (n/4294967296^(i/4));rw[←hm];have h2:i%4<4:=Nat.mod_lt _ om;obtain⟨r,hr⟩:=ex9 (i%4);rw[←hr]at h2 ⊢;have:r=0∨r=1∨r=2∨r=3:=om
 rcases this with rfl|rfl|rfl|rfl <;> simp <;> omega
theorem zjw(n:Nat)(w:World)(hn:n<115792089237316195423570985008687907853269984665640564039457584007913129639936):
 Calls Tryz.prog 87 #[.agg (n8 n).toArray] w fun e w'=>e=.returned (.agg (u8s (leB (n%pr))).toArray)∧Below w.heap.size w w':=by
 have A:Hid (Blk ((w.alloc (.cells (n8 n).toArray 166)).alloc (.cells (u8s (List.replicate 32 0)).toArray 27)) w.heap.size 166 (n8 n)∧Blk ((w.alloc (.cells (n8 n).toArray 166)).alloc (.cells (u8s (List.replicate 32 0)).toArray 27)) (w.heap.size+1) 27 (u8s (List.replicate 32 0))∧Below w.heap.size w ((w.alloc (.cells (n8 n).toArray 166)).alloc (.cells (u8s (List.replicate 32 0)).toArray 27))) :=
  ⟨(Blk.new w _ _).alloc _,Blk.new' sy rfl,((Below.refl _ w).alloc lr _).alloc sy _⟩
 have a9:∀o,(ldAt 166 (.pointer (some ⟨w.heap.size,0,none⟩))).run Tryz.prog ((w.alloc (.cells (n8 n).toArray 166)).alloc o)=.ok (.agg (n8 n).toArray) ((w.alloc (.cells (n8 n).toArray 166)).alloc o):=fun o=>zaw ((Blk.new w _ _).alloc o)
 have HN:=qh (fun W=>zek n hn W);obtain⟨V,hV⟩:=ex9 (n%pr);rw[←hV]at HN ⊢;clear hV hn
 go_enter Tryz.func87, Tryz.ntmps87
 go_upto_region 2 with (first
  | (go_at_call 107;(with_reducible refine(HN.o _).mono ?_);rintro e w1 ⟨rfl,hB⟩;have a1:=qh (A.o.1.below hB A.o.1.lt);have a6:=qh (A.o.2.1.below hB A.o.2.1.lt);have M:=qh (A.o.2.2.trans (hB.mono A.o.2.2.size));clear hB)
  | (refine zab rfl 166 (.tmp 1) (.tmp 6) rfl w.heap.size (n8 V) rr rr 166 _ a1.o (by exact hdN8' _) (za7 _) (by rw[zar,zar]) ?_;intro w2 a4 J))
 have a7:=qh a4;have E:=qh (J.blk a6.o om);have I:=qh (J.below M.o lr M.o.size);have HG:Hid (w.heap.size+1<w2.heap.size):=E.o.lt;have Y:Hid (Blk (w2.alloc (.cells (u8s (List.replicate 32 0)).toArray 27)) w2.heap.size 27 (u8s (leBi V 0))):=Blk.new _ _ _;have U:=qh (a7.o.alloc (.cells (u8s (List.replicate 32 0)).toArray 27));have X:=qh (E.o.alloc (.cells (u8s (List.replicate 32 0)).toArray 27));have a3:=qh (I.o.alloc I.o.size (.cells (u8s (List.replicate 32 0)).toArray 27));clear a4 J a9 A a1 a6 M HN a7 E I;go_wp2
 go_loopg [4] 32 (fun kk q wr=>∃i:Nat,kk=32-i∧q=.int .i64 (i:Int)∧i≤32∧Blk wr w.heap.size 166 (n8 V)∧Blk wr (w.heap.size+1) 27 (u8s (List.replicate 32 0))∧Blk wr w2.heap.size 27 (u8s (leBi V i))∧Below w.heap.size w wr)
 case atStart=>exact⟨0,rfl,rfl,by omega,U.o,X.o,Y.o,a3.o⟩
 case round =>
  clear U X a3 Y;obtain⟨i,G,rfl,hi,hA,hZ,hS,hE⟩:=hrel
  rcases Nat.lt_or_ge i 32 with a8|b5
  · have a5:(i:Int)<32:=om
    have cc:wr.cell? ⟨w2.heap.size,i,none⟩=some (.int .u8 (((leBi V i).getD i 0).toNat:Int)):=by
     refine(hS.cell i).trans ?_;rw[u8s_getElem?,gd9,ge9 (by rw[zgq];exact a8)]
     rfl
    have ff:wr.frozen? ⟨w2.heap.size,i,none⟩=false:=hS.frozen i;obtain⟨q,hq⟩:=ex9 (i/4);obtain⟨r,hr⟩:=ex9 (i%4);obtain⟨s,hs⟩:=ex9 (8*r);obtain⟨L,hL⟩:=ex9 (V/4294967296^q%4294967296);have cl:wr.cell? ⟨w.heap.size,q,none⟩=some (.int .u32 (L:Int)):=(hA.cell q).trans ((zb7 (by rw[zcj];omega)).trans (by rw[zkl 8 V q om,←hL]));have c0:(i:Int)/4=(q:Int):=om;have c2:(i:Int)%4=(r:Int):=om;have b7:(8:Int)*(r:Int)=(s:Int):=om;have b9:(q:Int)<8:=om;have b6:(r:Int)<4:=om;have b4:(s:Int)<32:=om;obtain⟨y,D⟩:=ex9 (L/2^s);have hy:(L:Int)/2^s=(y:Int):=by rw[D];push_cast;rfl
    have HY:Hid (UInt8.ofNat (V/256^i)=UInt8.ofNat y):=by
     show _=_
     apply UInt8.toNat_inj.1
     rw[UInt8.toNat_ofNat',UInt8.toNat_ofNat',D,hL,hs,hr,hq];exact(zv1 V i).symm
    have b2:=qh G;have hg:=HG.o;have HA:=qh (hA.far (p:=⟨w2.heap.size,i,none⟩) (by show w.heap.size≠w2.heap.size;omega) (.int .u8 ((y:Int)%256)));have HZ:=qh (hZ.far (p:=⟨w2.heap.size,i,none⟩) (by show w.heap.size+1≠w2.heap.size;omega) (.int .u8 ((y:Int)%256)))
    have HS:Hid (Blk (wr.setCell ⟨w2.heap.size,i,none⟩ (.int .u8 ((y:Int)%256))) w2.heap.size 27 (u8s (leBi V (i+1)))):=by
     have h1:=hS.set_ i (.int .u8 ((y:Int)%256));rw[show((y:Int)%256)=((UInt8.ofNat (V/256^i)).toNat:Int) by rw[HY.o,UInt8.toNat_ofNat'];omega,za5]at h1;rw[show((y:Int)%256)=((UInt8.ofNat (V/256^i)).toNat:Int) by rw[HY.o,UInt8.toNat_ofNat'];omega];exact h1
    have HE:=qh (hE.setCell (p:=⟨w2.heap.size,i,none⟩) (by show w.heap.size≤w2.heap.size;omega) (.int .u8 ((y:Int)%256)));clear hA hZ hS hE G D hL hs hr hq hg;go_wp2;go_roundg (32-(i+1))
    case measure=>have:=b2.o;omega
    case rel=>exact⟨i+1,rfl,by go_num,by omega,HA.o,HZ.o,HS.o,HE.o⟩
  · obtain rfl:i=32:=om
    have a5:¬((32:Nat):Int)<32:=om;rw[zoe]at hS;have c1:(ldAt 27 (.pointer (some ⟨w2.heap.size,0,none⟩))).run Tryz.prog wr=.ok (.agg (u8s (leB V)).toArray) wr:=zal hS 27 0 (u8s (leB V)) rfl _ Tryz.underlying27 rfl (by exact hd32);have HZ:=qh hZ;have HE:=qh hE;clear hA hZ hS hE G
    go_wp2_with (refine zab rfl 27 (.tmp 2) (.tmp 22) rfl (w.heap.size+1) (u8s (leB V)) rr rr 27 _ HZ.o (by exact hd32) (zac _) rr ?_;intro w5 a2 a0;have b1:=qh a2;have b3:=qh (a0.below HE.o (Nat.le_succ _) HE.o.size);clear a2 a0)
    exact bodyPost_ret (zan rfl _ _ _ _ rfl b1.o _ Tryz.underlying27 rfl (by exact hd32)) rfl ⟨rfl,b3.o⟩
end
section
theorem zst(l:List UInt8):leNat l=leN l:=by
 induction l with
 | nil=>rfl
 | cons c l ih =>
  have h1:leN (c :: l)=c.toNat+256*leN l:=rfl;rw[h1,←ih]
  unfold leNat
  rw[List.reverse_cons]
  have:∀(m:List UInt8) (x:UInt8),beNat (m++[x])=beNat m*256+x.toNat:=by
   intro m x
   simp[beNat]
  rw[this];omega
theorem zvc(us:List UInt8)(i:Nat)(h:4*i+4≤us.length):leN (us.take (4*(i+1)))=leN (us.take (4*i))+leN ((us.drop (4*i)).take 4)*4294967296^i:=by
 have h1:us.take (4*(i+1))=us.take (4*i)++(us.drop (4*i)).take 4:=by
  rw[show 4*(i+1)=4*i+4 by omega,List.take_add]
 have h2:leN (us.take (4*i)++(us.drop (4*i)).take 4)=leN (us.take (4*i))+256^(us.take (4*i)).length*leN ((us.drop (4*i)).take 4):=by
  have:=zfh 256 ((us.take (4*i)++(us.drop (4*i)).take 4).map (·.toNat)) (us.take (4*i)).length sy;simp only[leN];rw[this,←List.map_take,←List.map_drop,List.take_left,List.drop_left]
 rw[h1,h2,List.length_take,Nat.min_eq_left om,Nat.mul_comm (256^(4*i)),Nat.pow_mul]
theorem n8_cut(V:Nat):(dig 8 V).set 7 ((dig 8 V).getD 7 0%2147483648)=dig 8 (V%57896044618658097711785492504343953926634992332820282019728792003956564819968):=by
 rw[zkl 8 V 7 om];simp only[dig,List.set_cons_succ,List.set_cons_zero,List.cons.injEq,and_true,Nat.reducePow];refine⟨?_,?_,?_,?_,?_,?_,?_,?_⟩ <;> omega
attribute [local go_sem ↓] zeh
theorem zrc(A:Option Addr)(c:Nat)(us:List UInt8)(w:World)(h:Rd w A 32 (u8s us)):
 Calls Tryz.prog 89 #[.slice A 32 c] w fun e w'=>e=.returned (.tuple #[.agg (n8 (readN us)).toArray,.int .i64 0])∧Below w.heap.size w w':=by
 have HR:=qh h;have HL:=qh h.len
 have M:Hid (Blk ((w.alloc (.cells o8.toArray 166)).alloc (.cells o8.toArray 166)) w.heap.size 166 o8∧Blk ((w.alloc (.cells o8.toArray 166)).alloc (.cells o8.toArray 166)) (w.heap.size+1) 166 (u32d ([]++List.replicate (8-0) 0))∧Below w.heap.size w ((w.alloc (.cells o8.toArray 166)).alloc (.cells o8.toArray 166))) :=
  ⟨(Blk.new w _ _).alloc _,Blk.new' sy rfl,((Below.refl _ w).alloc lr _).alloc sy _⟩
 clear h
 go_enter Tryz.func89, Tryz.ntmps89
 go_wp2
 go_loopg [5] 8 (fun kk q wr=>∃(i:Nat) (ds:List Nat),kk=8-i∧q=.int .i64 (i:Int)∧i≤8∧ds.length=i∧(∀x∈ds,x<4294967296)∧numL 4294967296 ds=leN (us.take (4*i))∧Blk wr w.heap.size 166 o8∧Blk wr (w.heap.size+1) 166 (u32d (ds++List.replicate (8-i) 0))∧Below w.heap.size w wr)
 case atStart=>exact⟨0,[],rfl,rfl,by omega,rfl,by simp,by rw[Nat.mul_zero,List.take_zero];rfl,M.o⟩
 case round =>
  clear M;obtain⟨i,ds,J,rfl,hi,D,G,r,hZ,hO,hE⟩:=hrel
  rcases Nat.lt_or_ge i 8 with a1|b1
  · have a0:(i:Int)<8:=om
    obtain⟨k,hk⟩:=ex9 (4*i);have b2:(4:Int)*(i:Int)=(k:Int):=om;obtain⟨d,hd⟩:=ex9 (leNat ((us.drop k).take 4))
    have hd32:d<4294967296:=by
     have h1:=zod ((us.drop k).take 4);rw[List.length_take,List.length_drop,HL.o,show min 4 (32-k)=4 by omega]at h1;rw[hd];exact h1
    have HG:Hid (Calls Tryz.prog 113 #[.int .i64 1,.slice A 32 c,.int .i64 (k:Int),.int .i64 4] wr fun e w'=>e=.returned (.tuple #[.int .u64 (d:Int),.int .i64 0])∧wr=w'):=hd ▸ zwm A 32 c k 4 us wr (HR.o.below hE) om om om om;have cz:wr.cell? ⟨w.heap.size+1,i,none⟩=some (.int .u32 (((ds++List.replicate (8-i) 0).getD i 0:Nat):Int)):=(hO.cell i).trans (zb7 (by simp;omega));have fz:wr.frozen? ⟨w.heap.size+1,i,none⟩=false:=hO.frozen i;have b3:(d:Int)%4294967296=(d:Int):=om
    have a9:Hid (numL 4294967296 (ds++[d])=leN (us.take (4*(i+1)))):=(by
     show _=_
     rw[zdg,D,r,zvc us i (by rw[HL.o];omega),hd,zst,hk])
    have a8:=qh (zft G hd32);have a7:Hid ((ds++[d]).length=i+1):=by show _=_;simp[D]
    have a4:=qh J;have HZ:=qh (hZ.far (p:=⟨w.heap.size+1,i,none⟩) (by show w.heap.size≠w.heap.size+1;omega) (.int .u32 (d:Int)))
    have HO:Hid (Blk (wr.setCell ⟨w.heap.size+1,i,none⟩ (.int .u32 (d:Int))) (w.heap.size+1) 166 (u32d ((ds++[d])++List.replicate (8-(i+1)) 0))):=by
     have h1:=hO.set_ i (.int .u32 (d:Int));rw[zgh,ze0 ds i 8 d D a1]at h1;exact h1
    have HE:=qh (hE.setCell (p:=⟨w.heap.size+1,i,none⟩) (by show w.heap.size≤w.heap.size+1;omega) (.int .u32 (d:Int)));clear hZ hO hE J r D G hd hk
    go_wp2_with (go_at_call 113;(with_reducible refine HG.o.mono ?_);rintro e w1 ⟨rfl,rfl⟩)
    go_roundg (8-(i+1))
    case measure=>have:=a4.o;omega
    case rel=>exact⟨i+1,ds++[d],rfl,by go_num,by omega,a7.o,a8.o,a9.o,HZ.o,HO.o,HE.o⟩
  · obtain rfl:i=8:=om
    have a0:¬((8:Nat):Int)<8:=om;rw[tk (by rw[HL.o];omega)]at r;rw[show 8-8=0 by omega,List.replicate_zero,List.append_nil,n8_of D G,r]at hO;obtain⟨V,hV⟩:=ex9 (leN us);rw[←hV]at hO;obtain⟨d7,E⟩:=ex9 ((dig 8 V).getD 7 0);have c7:wr.cell? ⟨w.heap.size+1,7,none⟩=some (.int .u32 (d7:Int)):=(hO.cell 7).trans (E ▸ zb7 (by rw[zcj];omega));have f7:wr.frozen? ⟨w.heap.size+1,7,none⟩=false:=hO.frozen 7
    have HO:Hid (Blk (wr.setCell ⟨w.heap.size+1,7,none⟩ (.int .u32 ((d7:Int)%2147483648))) (w.heap.size+1) 166 (n8 (V%57896044618658097711785492504343953926634992332820282019728792003956564819968))):=by
     have h1:=hO.set_ 7 (.int .u32 ((d7:Int)%2147483648));rw[n8,show(d7:Int)%2147483648=((d7%2147483648:Nat):Int) by omega,zgh,E,n8_cut V]at h1;rw[show(d7:Int)%2147483648=((d7%2147483648:Nat):Int) by omega,E];exact h1
    have HZ:=qh (hZ.far (p:=⟨w.heap.size+1,7,none⟩) (by show w.heap.size≠w.heap.size+1;omega) (.int .u32 ((d7:Int)%2147483648)));have HE:=qh (hE.setCell (p:=⟨w.heap.size+1,7,none⟩) (by show w.heap.size≤w.heap.size+1;omega) (.int .u32 ((d7:Int)%2147483648)));have b4:=zaw HO.o;have a2:=qh (fun W=>zek (V%57896044618658097711785492504343953926634992332820282019728792003956564819968) om W);have HV:=qh hV;clear hZ hO hE J r D G hV E
    go_wp2_with (first
     | (go_at_call 107;(with_reducible refine(a2.o _).mono ?_);rintro e w4 ⟨rfl,I⟩;have a5:=qbl HZ I;have Y:=qtr HE I;clear I)
     | (refine zab rfl 166 (.tmp 2) (.tmp 32) rfl w.heap.size (n8 (V%57896044618658097711785492504343953926634992332820282019728792003956564819968%pr)) rr rr 166 _ a5.o (by exact hdN8' _) (za7 _) (by rw[zar];rfl) ?_;intro w5 X U;have a3:=qh X;have a6:=qh (U.below Y.o lr Y.o.size);clear X U))
    exact bodyPost_ret (zak rfl _ _ _ _ rfl a3.o _ Tryz.underlying166 rfl (by exact hdN8' _)) rfl ⟨by rw[readN,HV.o];rfl,a6.o⟩
end
section
theorem cl_q:∀n,n<256→(n &&& 248)=n/8*8:=by decide
theorem cl_r:∀n,n<256→(n &&& 127 ||| 64)=n%64+64:=by decide
attribute [local go_sem ↓] zb0
theorem zur(A:Option Addr)(n c:Nat)(ks:List UInt8)(w:World)(h:Rd w A n (u8s ks))(hn:n=32):
 Calls Tryz.prog 108 #[.slice A n c] w fun e w'=>e=.returned (.tuple #[.agg (u8s (clampB ks)).toArray,.int .i64 0])∧Below w.heap.size w w':=by
 have HR:=qh h;have HL:=qh h.len
 have E:Hid (Blk ((w.alloc (.cells (u8s (List.replicate 32 0)).toArray 27)).alloc (.cells (u8s (List.replicate 32 0)).toArray 27)) w.heap.size 27 (u8s (List.replicate 32 0))∧Blk ((w.alloc (.cells (u8s (List.replicate 32 0)).toArray 27)).alloc (.cells (u8s (List.replicate 32 0)).toArray 27)) (w.heap.size+1) 27 (u8s (List.replicate 32 0))∧Below w.heap.size w ((w.alloc (.cells (u8s (List.replicate 32 0)).toArray 27)).alloc (.cells (u8s (List.replicate 32 0)).toArray 27))) :=
  ⟨(Blk.new w _ _).alloc _,Blk.new' sy rfl,((Below.refl _ w).alloc lr _).alloc sy _⟩
 have c3:(n:Int)=32:=om;clear h
 go_enter Tryz.func108, Tryz.ntmps108
 go_upto_region 5 with (refine zav rfl (.tmp 9) (.tmp 10) 22 rfl 5 Tryz.underlying22 zbk (w.heap.size+1) 0 32 32 rr A _ c rr 27 _ (by exact E.o.2.1) (u8s ks) (by first|exact(HR.o.alloc _).alloc _|exact hn ▸ (HR.o.alloc _).alloc _) (zac _) (by simp[zaa]) ?_;intro w2 X a0)
 have D:ks.length=32:=by rw[HL.o,hn]
 have a6:splice (u8s (List.replicate 32 0)) 0 ((u8s ks).take 32)=u8s ks:=by
  rw[tk (by rw[zaa];omega),zap _ _ (by rw[zaa,zaa,D];rfl)]
 rw[a6]at X;have HZ:=qh (a0.blk E.o.1 om);have HE:=qh (a0.below E.o.2.2 om E.o.2.2.size);have M:=qh D;have HB:=qh X;clear a6 D X a0 E HR hn;obtain⟨x,hx⟩:=ex9 (ks.getD 0 0);obtain⟨y,hy⟩:=ex9 (ks.getD 31 0)
 have hc:w2.cell? ⟨w.heap.size+1,0,none⟩=some (.int .u8 ((x.toNat:Nat):Int)):=by
  refine(HB.o.cell 0).trans ?_;rw[u8s_getElem?,hx,gd9,ge9 (by rw[M.o];omega)];rfl
 have hf:w2.frozen? ⟨w.heap.size+1,0,none⟩=false:=HB.o.frozen 0;obtain⟨x2,J⟩:=ex9 (x &&& UInt8.ofNat 248);obtain⟨d8,c0⟩:=ex9 (x.toNat/8);have b7:(x.toNat:Int)/8=(d8:Int):=om
 have c2:(d8:Int)*8=(x2.toNat:Int):=by
  have h1:x2.toNat=x.toNat/8*8:=by rw[J,UInt8.toNat_and];exact cl_q x.toNat x.toNat_lt
  omega
 have c1:(x2.toNat:Int)<256:=by have:=x2.toNat_lt;omega
 have b2:=qh J;clear J c0;have HX:=qh hx;have HY:=qh hy;clear hx hy
 go_upto_region 6 with (fail)
 obtain⟨w3,r⟩:=ex9 (w2.setCell ⟨w.heap.size+1,0,none⟩ (.int .u8 (x2.toNat:Int)));have I:Hid (Blk w3 (w.heap.size+1) 27 (u8s (ks.set 0 x2))):=r ▸ (za5 ks 0 x2) ▸ HB.o.set_ 0 _;have a2:Hid (Blk w3 w.heap.size 27 (u8s (List.replicate 32 0))):=r ▸ HZ.o.far (by show w.heap.size≠w.heap.size+1;omega) _;have a4:Hid (Below w.heap.size w w3):=r ▸ HE.o.setCell (by show w.heap.size≤w.heap.size+1;omega) _;rw[←r];clear r hc hf b7 c2 c1 HB HZ HE
 have hc:w3.cell? ⟨w.heap.size+1,31,none⟩=some (.int .u8 ((y.toNat:Nat):Int)):=by
  refine(I.o.cell 31).trans ?_;rw[u8s_getElem?,List.getElem?_set_ne om,HY.o,gd9,ge9 (by rw[M.o];omega)];rfl
 have hf:w3.frozen? ⟨w.heap.size+1,31,none⟩=false:=I.o.frozen 31;obtain⟨y3,U⟩:=ex9 (y &&& UInt8.ofNat 127 ||| UInt8.ofNat 64);obtain⟨r6,b4⟩:=ex9 (y.toNat%64);have a9:(y.toNat:Int)%64=(r6:Int):=om
 have a8:(r6:Int)+64=(y3.toNat:Int):=by
  have h1:y3.toNat=y.toNat%64+64:=by rw[U,UInt8.toNat_or,UInt8.toNat_and];exact cl_r y.toNat y.toNat_lt
  omega
 have b1:(y3.toNat:Int)<256:=by have:=y3.toNat_lt;omega
 have b6:=qh U;clear U b4
 go_upto_region 7 with (fail)
 obtain⟨w5,G⟩:=ex9 (w3.setCell ⟨w.heap.size+1,31,none⟩ (.int .u8 (y3.toNat:Int)))
 have b3:Hid (Blk w5 (w.heap.size+1) 27 (u8s (clampB ks))):=by
  have h1:=I.o.set_ 31 (.int .u8 (y3.toNat:Int));rw[←G,za5,b6.o,b2.o,HX.o,HY.o]at h1;exact h1
 have b5:Hid (Blk w5 w.heap.size 27 (u8s (List.replicate 32 0))):=G ▸ a2.o.far (by show w.heap.size≠w.heap.size+1;omega) _;have a5:Hid (Below w.heap.size w w5):=G ▸ a4.o.setCell (by show w.heap.size≤w.heap.size+1;omega) _;rw[←G];clear G hc hf a9 a8 b1 I a2 a4;have Y:(clampB ks).length=32:=by rw[zd3,M.o]
 have c4:(ldAt 27 (.pointer (some ⟨w.heap.size+1,0,none⟩))).run Tryz.prog w5=.ok (.agg (u8s (clampB ks)).toArray) w5:=zal b3.o 27 0 (u8s (clampB ks)) (by rw[List.drop_zero];exact tk lr) _ Tryz.underlying27 rfl (by rw[zaa,Y];exact hd32);have V:=qh Y;clear Y
 go_wp2_with (refine zab rfl 27 (.tmp 2) (.tmp 22) rfl w.heap.size (u8s (clampB ks)) rr rr 27 _ b5.o (by rw[zaa,V.o];exact hd32) (zac _) (by rw[zaa,zaa,V.o];rfl) ?_;intro w6 a3 a1;have a7:=qh a3;have b9:=qh (a1.below a5.o lr a5.o.size);clear a3 a1)
 exact bodyPost_ret (zak rfl _ _ _ _ rfl a7.o _ Tryz.underlying27 rfl (by rw[zaa,V.o];exact hd32)) rfl ⟨rfl,b9.o⟩
end
