/- Part of the proof. -/
import Derived.Test.YtpgpaenloaphaaaGreatSmx27
set_option maxRecDepth 100000
set_option maxHeartbeats 0
namespace Go.Proofs.YtpgpaenloaphaaaGreat
open Go.RowKit
theorem zta(x:UInt32)(w:World):Calls Tryz.prog 171 #[.int .u32 (n32 x),.int .i64 16] w fun e w'=>e=.returned (.int .u32 (n32 (Sh.rotr x 16)))∧∃q,w'=w.drewN q:=by
 have HR:Hid (bits .or .u32 (n32 x*65536%(4294967296:Int)) (n32 x/65536)=n32 (Sh.rotr x 16)):=zhb x 16 om om
 go_enter Tryz.func171, Tryz.ntmps171
 go_wp2_with fail
 go_quiet (fail)
 go_wp2_with fail
 go_ret;exact⟨by rw[←HR.out];rfl,_,rfl⟩
theorem ztb(x:UInt32)(w:World):Calls Tryz.prog 171 #[.int .u32 (n32 x),.int .i64 12] w fun e w'=>e=.returned (.int .u32 (n32 (Sh.rotr x 20)))∧∃q,w'=w.drewN q:=by
 have HR:Hid (bits .or .u32 (n32 x*4096%(4294967296:Int)) (n32 x/1048576)=n32 (Sh.rotr x 20)):=zhb x 12 om om
 go_enter Tryz.func171, Tryz.ntmps171
 go_wp2_with fail
 go_quiet (fail)
 go_wp2_with fail
 go_ret;exact⟨by rw[←HR.out];rfl,_,rfl⟩
theorem zwd(x:UInt32)(w:World):Calls Tryz.prog 171 #[.int .u32 (n32 x),.int .i64 8] w fun e w'=>e=.returned (.int .u32 (n32 (Sh.rotr x 24)))∧∃q,w'=w.drewN q:=by
 have HR:Hid (bits .or .u32 (n32 x*256%(4294967296:Int)) (n32 x/16777216)=n32 (Sh.rotr x 24)):=zhb x 8 om om
 go_enter Tryz.func171, Tryz.ntmps171
 go_wp2_with fail
 go_quiet (fail)
 go_wp2_with fail
 go_ret;exact⟨by rw[←HR.out];rfl,_,rfl⟩
theorem zwe(x:UInt32)(w:World):Calls Tryz.prog 171 #[.int .u32 (n32 x),.int .i64 7] w fun e w'=>e=.returned (.int .u32 (n32 (Sh.rotr x 25)))∧∃q,w'=w.drewN q:=by
 have HR:Hid (bits .or .u32 (n32 x*128%(4294967296:Int)) (n32 x/33554432)=n32 (Sh.rotr x 25)):=zhb x 7 om om
 go_enter Tryz.func171, Tryz.ntmps171
 go_wp2_with fail
 go_quiet (fail)
 go_wp2_with fail
 go_ret;exact⟨by rw[←HR.out];rfl,_,rfl⟩
def leNat(l:List UInt8):Nat:=beNat l.reverse
theorem zoy(l:List UInt8)(c:UInt8):leNat (l++[c])=leNat l+256^l.length*c.toNat:=by
 unfold leNat
 rw[List.reverse_append]
 show beNat (c :: l.reverse)=_
 rw[ziy,List.length_reverse,Nat.mul_comm,Nat.add_comm]
theorem znh(l:List UInt8):leNat l<256^l.length:=by
 have:=zj6 l.reverse
 rwa [List.length_reverse]at this
theorem zvy(n:Int)(h1:1≤n)(h2:n≤8)(w:World):Calls Tryz.prog 97 #[.int .i64 1,.int .i64 n] w fun e w'=>e=.returned (.bool true)∧w=w':=by
 have e1:decide (1≤n)=true:=by simpa using h1
 have e2:decide (n≤8)=true:=by simpa using h2
 go_enter Tryz.func97, Tryz.ntmps97
 go_wp2;go_ret;exact⟨by simp,rfl⟩
theorem zu8(A:Option Addr)(n c at_ k:Nat)(l:List UInt8)(w:World)(h:Rd w A n (u8s l))(hn:n≤140737488355328)(h1:1≤k)(h2:k≤8)(h3:at_+k≤n):
 Calls Tryz.prog 150 #[.int .i64 1,.slice A n c,.int .i64 at_,.int .i64 k] w fun e w'=>e=.returned (.tuple #[.int .u64 (leNat ((l.drop at_).take k)),.int .i64 0])∧w=w':=by
 have hl:=h.len;have HL:=qh hl;clear hl;have e1:decide ((at_:Int)<0)=false:=by simp
 have e2:decide ((n:Int)<(k:Int))=false:=by simp;omega
 have e3:decide ((n:Int)-(k:Int)<(at_:Int))=false:=by simp;omega
 go_enter Tryz.func150, Tryz.ntmps150
 go_wp2_with (go_at_call 97;refine(zvy _ om om _).mono ?_;rintro e w' ⟨rfl,rfl⟩)
 go_loop [10,11,12] (fun m p i=>∃j:Nat,j≤k∧i=.int .i64 j∧p=.int .u64 ((256^j%18446744073709551616:Nat):Int)∧m=.int .u64 (leNat ((l.drop at_).take j))) (fun _ _ i=>k-(intOf i).toNat)
 case atStart=>exact⟨0,Nat.zero_le _,rfl,rfl,rfl⟩
 case round =>
  obtain⟨j,hj,rfl,rfl,rfl⟩:=hrel
  by_cases hlt:j<k
  · obtain⟨b,off,x,rfl,hb,HX,hc⟩:=h.u8 (k:=at_+j) om
    have hbd:=znh ((l.drop at_).take j)
    have hs:leNat ((l.drop at_).take (j+1))=leNat ((l.drop at_).take j)+256^j*x.toNat:=by
     rw[List.take_add_one,List.getElem?_drop,HX.out]
     show leNat (_++[x])=_
     rw[zoy,List.length_take,List.length_drop,HL.out,Nat.min_eq_left om]
    have HS:=qh hs;have HBD:=qh hbd;have i0:(0:Int)≤(at_:Int)+(j:Int):=om;have i1:(at_:Int)+(j:Int)<(n:Int):=om;clear hs hbd;generalize leNat ((l.drop at_).take j)=m at *;have hm:m<256^j:=Nat.lt_of_lt_of_le HBD.out (Nat.pow_le_pow_right om (List.length_take_le _ _));have hst:=zqi j m x om hm;have HST:=qh hst;clear hst hm HBD;generalize hp:256^j%18446744073709551616=p at *;have HP:=qh hp;clear hp;go_wp2
    go_round
    case rel=>exact⟨j+1,by omega,by go_num,by rw[HST.out.1],by rw[HST.out.2,HS.out]⟩
    case measure=>simp[intOf];omega
  · have:j=k:=om
    subst this;go_wp2;go_ret2;exact⟨rfl,rfl⟩
def leBz(n:Nat):Nat→List UInt8
 | 0=>[]
 | i+1=>leBz n i++[UInt8.ofNat (n/256^i)]
theorem zjp(n i:Nat):(leBz n i).length=i:=by
 induction i with
 | zero=>rfl
 | succ i ih=>simp[leBz,ih]
def lePut(n k i:Nat):List UInt8:=leBz n i++List.replicate (k-i) 0
theorem zrw(n k i:Nat)(h:i≤k):(lePut n k i).length=k:=by simp[lePut,zjp];omega
theorem zrv(n k i:Nat)(h:i<k):(lePut n k i).set i (UInt8.ofNat (n/256^i))=lePut n k (i+1):=by
 unfold lePut
 rw[List.set_append_right _ _ (by rw[zjp];exact lr),zjp,Nat.sub_self,show k-i=(k-(i+1))+1 by omega,List.replicate_succ,List.set_cons_zero,leBz]
 simp
theorem zt8(z:UInt32):leBz z.toNat 4=Ch.leBytes z:=by
 have e0:=b0 z;have e8:=b8 z;have e16:=b16 z;have e24:=b24 z
 unfold n32 at e0 e8 e16 e24
 simp only[leBz,Ch.leBytes,List.nil_append,List.cons_append,List.cons.injEq,and_true];refine⟨?_,?_,?_,?_⟩ <;> (apply UInt8.toNat_inj.1;rw[UInt8.toNat_ofNat'];simp only[Nat.pow_zero,Nat.div_one,Nat.reducePow];omega)
theorem rput_w(z:UInt32)(w:World):
 Calls Tryz.prog 61 #[.int .i64 1,.int .i64 4,.int .u64 (n32 z)] w fun e w'=>e=.returned (.tuple #[.slice (some ⟨w.heap.size,0,none⟩) 4 4,.int .i64 0])∧Blk w' w.heap.size 5 (u8s (Ch.leBytes z))∧Below w.heap.size w w':=by
 obtain⟨n,hnz⟩:=ex9 (z.toNat);have hn:n<4294967296:=by rw[hnz];exact z.toNat_lt
 have HLB:Hid (Ch.leBytes z=leBz n 4):=by show _=_;rw[hnz,zt8]
 rw[show n32 z=(n:Int) by rw[hnz];rfl,HLB.out];clear hnz HLB
 go_enter Tryz.func61, Tryz.ntmps61
 go_wp2_with (first
  | (go_at_call 97;go_in)
  | (refine zao rfl (.tmp 15) (.tmp 15) 22 rfl 5 (.int .u8 0) 1 Tryz.underlying22 iU8 rfl .i64 .i64 4 4 rr rr 4 4 rfl rfl om om om ?_;intro w1 hb1 hg1 hs1;have HB1:Hid (Blk w1 w.heap.size 5 (u8s (lePut n 4 0))):=hb1;have HE1:Hid (Below w.heap.size w w1):=zaf hg1;clear hb1 hg1 hs1))
 go_loopg [2,9] 4 (fun kk qn q wr=>∃i m:Nat,i≤4∧kk=4-i∧m=n/256^i∧m<4294967296∧qn=.int .u64 (m:Int)∧q=.int .i64 i∧Blk wr w.heap.size 5 (u8s (lePut n 4 i))∧Below w.heap.size w wr)
 case atStart=>exact⟨0,n,by omega,rfl,by simp,hn,rfl,rfl,HB1.out,HE1.out⟩
 case round =>
  clear HB1 HE1;obtain⟨i,m,hi,hgk,hm,hm2,rfl,rfl,hb,hB⟩:=hrel;have HGK:=qh hgk;have HM:=qh hm;clear hgk hm
  by_cases hlt:i<4
  · have hlt2:(i:Int)<4:=om
    have hp0:(0:Int)≤(i:Int):=om;have HS:=qh (zrv n 4 i hlt);have hpl:=zrw n 4 i hi;obtain⟨x,hx⟩:∃x,(lePut n 4 i)[i]? = some x:=⟨_,ge9 om⟩;have cx:wr.cell? ⟨w.heap.size,i,none⟩=some (.int .u8 x.toNat):=by rw[hb.cell,u8s_getElem?,hx];rfl
    have fx:=hb.frozen i;have HSB:=qh (zng m);have hb2:=qh (hb.set_ i (.int .u8 (UInt8.ofNat m).toNat));rw[zbc,HM.out,HS.out,←HM.out]at hb2;have hB2:=qh (hB.setCell (p:=⟨w.heap.size,i,none⟩) lr (.int .u8 (UInt8.ofNat m).toNat));have hgl:=hb.lt;have hm0:(0:Int)≤(m:Int):=om;clear hx hpl hb
    go_wp2_with fail
    rw[HSB.out];go_roundg (4-(i+1))
    case measure=>have:=HGK.out;omega
    case rel=>exact⟨i+1,m/256,by omega,rfl,by rw[HM.out,Nat.pow_succ,Nat.div_div_eq_div_mul],by omega,by go_num,by go_num,hb2.out,hB2.out⟩
  · obtain rfl:i=4:=om
    have hlt2:¬((4:Nat):Int)<4:=om;have hm0:m=0:=by rw[HM.out];exact Nat.div_eq_of_lt hn
    subst hm0;have HB:=qh hb;rw[show lePut n 4 4=leBz n 4 from by unfold lePut;simp]at HB;clear hb
    go_wp2_with fail
    go_ret2;exact⟨rfl,HB.out,hB⟩
section
abbrev Q4:=UInt32 × UInt32 × UInt32 × UInt32
def qturn:Nat→UInt32
 | 0=>16
 | 1=>20
 | 2=>24
 | _=>25
def qstep(v:Q4)(i:Nat):Q4 :=
 if i%2=0 then (v.1+v.2.1,v.2.1,v.2.2.1,Sh.rotr (v.2.2.2 ^^^ (v.1+v.2.1)) (qturn i))
 else (v.1,Sh.rotr (v.2.1 ^^^ (v.2.2.1+v.2.2.2)) (qturn i),v.2.2.1+v.2.2.2,v.2.2.2)
def qst(v:Q4):Nat→Q4
 | 0=>v
 | i+1=>qstep (qst v i) i
def q4s(q:Q4):List Value:=u32s [q.1,q.2.1,q.2.2.1,q.2.2.2]
theorem agInt(w:World):(isAgg 3).run Tryz.prog w=.ok false w:=by kernel_rfl
theorem hd192:(Tryz.prog.info? 225).map (·.size)=some 4:=by kernel_rfl
attribute [local go_sem] zd9 zeg
theorem zkh(x:Q4)(w:World):
 Calls Tryz.prog 149 #[.agg (q4s x).toArray] w fun e w'=>e=.returned (.agg (q4s (qst x 4)).toArray)∧Below w.heap.size w w':=by
 have e0:q4s x=[.int .u32 (n32 x.1),.int .u32 (n32 x.2.1),.int .u32 (n32 x.2.2.1),.int .u32 (n32 x.2.2.2)]:=rfl;have HQ0:Hid (Blk (((w.alloc (.cells #[.int .u32 (n32 x.1),.int .u32 (n32 x.2.1),.int .u32 (n32 x.2.2.1),.int .u32 (n32 x.2.2.2)] 225)).alloc (.cells #[.int .u32 0,.int .u32 0,.int .u32 0,.int .u32 0] 225)).alloc (.cells #[.int .i64 16,.int .i64 12,.int .i64 8,.int .i64 7] 223)) w.heap.size 225 (q4s (qst x 0))):=((Blk.new' rfl rfl).alloc _).alloc _;have HZ0:Hid (Blk (((w.alloc (.cells #[.int .u32 (n32 x.1),.int .u32 (n32 x.2.1),.int .u32 (n32 x.2.2.1),.int .u32 (n32 x.2.2.2)] 225)).alloc (.cells #[.int .u32 0,.int .u32 0,.int .u32 0,.int .u32 0] 225)).alloc (.cells #[.int .i64 16,.int .i64 12,.int .i64 8,.int .i64 7] 223)) (w.heap.size+1) 225 (q4s (0,0,0,0))):=(Blk.new' sy rfl).alloc _;have HT0:Hid (Blk (((w.alloc (.cells #[.int .u32 (n32 x.1),.int .u32 (n32 x.2.1),.int .u32 (n32 x.2.2.1),.int .u32 (n32 x.2.2.2)] 225)).alloc (.cells #[.int .u32 0,.int .u32 0,.int .u32 0,.int .u32 0] 225)).alloc (.cells #[.int .i64 16,.int .i64 12,.int .i64 8,.int .i64 7] 223)) (w.heap.size+1+1) 223 [.int .i64 16,.int .i64 12,.int .i64 8,.int .i64 7]):=Blk.new' sy rfl;have HE0:Hid (Below w.heap.size w (((w.alloc (.cells #[.int .u32 (n32 x.1),.int .u32 (n32 x.2.1),.int .u32 (n32 x.2.2.1),.int .u32 (n32 x.2.2.2)] 225)).alloc (.cells #[.int .u32 0,.int .u32 0,.int .u32 0,.int .u32 0] 225)).alloc (.cells #[.int .i64 16,.int .i64 12,.int .i64 8,.int .i64 7] 223))):=(((Below.refl _ _).alloc lr _).alloc sy _).alloc (by simp;omega) _;rw[e0];clear e0
 go_enter Tryz.func149, Tryz.ntmps149
 go_wp2_with fail
 go_loopg [4] 4 (fun kk q wr=>∃i:Nat,∃y:Q4,i≤4∧kk=4-i∧q=.int .i64 i∧y=qst x i∧Blk wr w.heap.size 225 (q4s y)∧Blk wr (w.heap.size+1) 225 (q4s (0,0,0,0))∧Blk wr (w.heap.size+1+1) 223 [.int .i64 16,.int .i64 12,.int .i64 8,.int .i64 7]∧Below w.heap.size w wr)
 case atStart=>exact⟨0,x,by omega,rfl,rfl,rfl,HQ0.out,HZ0.out,HT0.out,HE0.out⟩
 case round =>
  clear HQ0 HZ0 HT0 HE0;obtain⟨i,⟨a,b,c,d⟩,hi,hgk,rfl,hy,hq,hz,ht,hB⟩:=hrel;have HGK:=qh hgk;have HY:=qh hy;clear hgk hy
  by_cases hlt:i<4
  · obtain rfl|rfl|rfl|rfl:i=0∨i=1∨i=2∨i=3:=om
    · have hlt2:((0:Nat):Int)<4:=om
      have c0:wr.cell? ⟨w.heap.size,0,none⟩=some (.int .u32 (n32 a)):=(hq.cell 0).trans rfl;have c1:wr.cell? ⟨w.heap.size,1,none⟩=some (.int .u32 (n32 b)):=(hq.cell 1).trans rfl;have c2:wr.cell? ⟨w.heap.size,2,none⟩=some (.int .u32 (n32 c)):=(hq.cell 2).trans rfl;have c3:wr.cell? ⟨w.heap.size,3,none⟩=some (.int .u32 (n32 d)):=(hq.cell 3).trans rfl;have f0:=hq.frozen 0;have hgl:=hq.lt;have HQ1:Hid (Blk (wr.setCell ⟨w.heap.size,0,none⟩ (.int .u32 (n32 (a+b)))) w.heap.size 225 (q4s (a+b,b,c,d))):=hq.set_ 0 (.int .u32 (n32 (a+b)));have HZ1:=qh (hz.far (p:=⟨w.heap.size,0,none⟩) (by show w.heap.size+1≠w.heap.size;omega) (.int .u32 (n32 (a+b))));have HT1:=qh (ht.far (p:=⟨w.heap.size,0,none⟩) (by show w.heap.size+1+1≠w.heap.size;omega) (.int .u32 (n32 (a+b))));have HB1:=qh (hB.setCell (p:=⟨w.heap.size,0,none⟩) lr (.int .u32 (n32 (a+b))));have HL:Hid (∀W:World,Calls Tryz.prog 171 #[.int .u32 (bits .xor .u32 (n32 d) (n32 (a+b))),.int .i64 16] W fun e w'=>e=.returned (.int .u32 (n32 (Sh.rotr (d ^^^ (a+b)) 16)))∧∃q,w'=W.drewN q):=fun W=>by rw[zd8];exact zta _ W
      clear hq hz ht hB
      go_wp2_with fail
      obtain⟨w1,hw1⟩:=ex9 (wr.setCell ⟨w.heap.size,0,none⟩ (.int .u32 (n32 (a+b))));rw[←hw1]at HQ1 HZ1 HT1 HB1 ⊢;clear hw1 c0 c1 c2 c3 f0;have hT:w1.drew.cell? ⟨w.heap.size,3,none⟩=some (.int .u32 (n32 d))∧w1.drew.cell? ⟨w.heap.size,0,none⟩=some (.int .u32 (n32 (a+b)))∧w1.drew.cell? ⟨w.heap.size+1+1,0,none⟩=some (.int .i64 16):=⟨(HQ1.out.cell 3).trans rfl,(HQ1.out.cell 0).trans rfl,(HT1.out.cell 0).trans rfl⟩;refine kgo kr 10 (fun w'=>w'.cell? ⟨w.heap.size,3,none⟩=some (.int .u32 (n32 d))∧w'.cell? ⟨w.heap.size,0,none⟩=some (.int .u32 (n32 (a+b)))∧w'.cell? ⟨w.heap.size+1+1,0,none⟩=some (.int .i64 16)) hT (fun _ _ _ _ _ h=>h) ?_;refine kp 0 (.pointer (some ⟨w.heap.size,3,none⟩)) rfl kr (fun _=>kr) ?_;refine kl 1 (.int .u32 (n32 d)) rfl kr (fun w' hw'=>za5 (t:=44) (x:=.tmp 19) (p:=⟨w.heap.size,3,none⟩) rr kr agU32 hw'.1) ?_;refine kp 2 (.pointer (some ⟨w.heap.size,0,none⟩)) rfl kr (fun _=>kr) ?_;refine kl 3 (.int .u32 (n32 (a+b))) rfl kr (fun w' hw'=>za5 (t:=44) (x:=.tmp 21) (p:=⟨w.heap.size,0,none⟩) rr kr agU32 hw'.2.1) ?_;refine kp 4 (.int .u32 (bits .xor .u32 (n32 d) (n32 (a+b)))) rfl kr (fun _=>kr) ?_;refine kp 5 (.int .i64 0) rfl kr (fun _=>kr) ?_;refine kp 6 (.pointer (some ⟨w.heap.size+1+1,0,none⟩)) rfl kr (fun _=>kr) ?_;refine kl 7 (.int .i64 16) rfl kr (fun w' hw'=>za5 (t:=3) (x:=.tmp 25) (p:=⟨w.heap.size+1+1,0,none⟩) rr kr agInt hw'.2.2) ?_;intro q8 q9;clear q8 q9;refine AnyK.enter 8 (d:=some 27) (f:=171) (args:=#[.int .u32 (bits .xor .u32 (n32 d) (n32 (a+b))),.int .i64 16]) kr kr kr ?_;refine(HL.out _).mono ?_;rintro e w2 ⟨rfl,nq,rfl⟩;refine⟨_,rfl,fun _=>hT,?_⟩;refine AnyK.pure 9 (v:=.pointer (some ⟨w.heap.size,3,none⟩)) rfl kr (fun _ _ _ h=>h) rfl (fun _=>kr) (fun _=>hT) ?_;refine AnyK.store 10 (d:=none) (op:=.store 44 (.tmp 28) (.tmp 27)) kr (fun o ho=>zc4 (p:=⟨w.heap.size,3,none⟩) (k:=.u32) (n:=n32 (Sh.rotr (d ^^^ (a+b)) 16)) ho kr kr szU32 hT.1 (HQ1.out.frozen 3)) kr (fun h=>(by cases h)) ?_;refine AnyK.done kr ?_;have HQ2:Hid (Blk ((w1.drew.drewN nq).setCell ⟨w.heap.size,3,none⟩ (.int .u32 (n32 (Sh.rotr (d ^^^ (a+b)) 16)))) w.heap.size 225 (q4s (a+b,b,c,Sh.rotr (d ^^^ (a+b)) 16))):=(HQ1.out.drew.drewN nq).set_ 3 (.int .u32 (n32 (Sh.rotr (d ^^^ (a+b)) 16)));have HZ2:=qh ((HZ1.out.drew.drewN nq).far (p:=⟨w.heap.size,3,none⟩) (by show w.heap.size+1≠w.heap.size;omega) (.int .u32 (n32 (Sh.rotr (d ^^^ (a+b)) 16))));have HT2:=qh ((HT1.out.drew.drewN nq).far (p:=⟨w.heap.size,3,none⟩) (by show w.heap.size+1+1≠w.heap.size;omega) (.int .u32 (n32 (Sh.rotr (d ^^^ (a+b)) 16))));have HB2:=qh ((Below.drewM HB1.out (1+nq)).setCell (p:=⟨w.heap.size,3,none⟩) lr (.int .u32 (n32 (Sh.rotr (d ^^^ (a+b)) 16))));clear hT
      go_wp2_with fail
      go_roundg (4-(0+1))
      case measure=>have:=HGK.out;omega
      case rel=>exact⟨0+1,(a+b,b,c,Sh.rotr (d ^^^ (a+b)) 16),by omega,rfl,by go_num,by show _=qstep (qst x 0) 0;rw[←HY.out];rfl,HQ2.out,HZ2.out,HT2.out,HB2.out⟩
    · have hlt2:((1:Nat):Int)<4:=om
      have c0:wr.cell? ⟨w.heap.size,0,none⟩=some (.int .u32 (n32 a)):=(hq.cell 0).trans rfl;have c1:wr.cell? ⟨w.heap.size,1,none⟩=some (.int .u32 (n32 b)):=(hq.cell 1).trans rfl;have c2:wr.cell? ⟨w.heap.size,2,none⟩=some (.int .u32 (n32 c)):=(hq.cell 2).trans rfl;have c3:wr.cell? ⟨w.heap.size,3,none⟩=some (.int .u32 (n32 d)):=(hq.cell 3).trans rfl;have f0:=hq.frozen 2;have hgl:=hq.lt;have HQ1:Hid (Blk (wr.setCell ⟨w.heap.size,2,none⟩ (.int .u32 (n32 (c+d)))) w.heap.size 225 (q4s (a,b,c+d,d))):=hq.set_ 2 (.int .u32 (n32 (c+d)));have HZ1:=qh (hz.far (p:=⟨w.heap.size,2,none⟩) (by show w.heap.size+1≠w.heap.size;omega) (.int .u32 (n32 (c+d))));have HT1:=qh (ht.far (p:=⟨w.heap.size,2,none⟩) (by show w.heap.size+1+1≠w.heap.size;omega) (.int .u32 (n32 (c+d))));have HB1:=qh (hB.setCell (p:=⟨w.heap.size,2,none⟩) lr (.int .u32 (n32 (c+d))));have HL:Hid (∀W:World,Calls Tryz.prog 171 #[.int .u32 (bits .xor .u32 (n32 b) (n32 (c+d))),.int .i64 12] W fun e w'=>e=.returned (.int .u32 (n32 (Sh.rotr (b ^^^ (c+d)) 20)))∧∃q,w'=W.drewN q):=fun W=>by rw[zd8];exact ztb _ W
      clear hq hz ht hB
      go_wp2_with fail
      obtain⟨w1,hw1⟩:=ex9 (wr.setCell ⟨w.heap.size,2,none⟩ (.int .u32 (n32 (c+d))));rw[←hw1]at HQ1 HZ1 HT1 HB1 ⊢;clear hw1 c0 c1 c2 c3 f0;have hT:w1.drew.cell? ⟨w.heap.size,1,none⟩=some (.int .u32 (n32 b))∧w1.drew.cell? ⟨w.heap.size,2,none⟩=some (.int .u32 (n32 (c+d)))∧w1.drew.cell? ⟨w.heap.size+1+1,1,none⟩=some (.int .i64 12):=⟨(HQ1.out.cell 1).trans rfl,(HQ1.out.cell 2).trans rfl,(HT1.out.cell 1).trans rfl⟩;refine kgo kr 10 (fun w'=>w'.cell? ⟨w.heap.size,1,none⟩=some (.int .u32 (n32 b))∧w'.cell? ⟨w.heap.size,2,none⟩=some (.int .u32 (n32 (c+d)))∧w'.cell? ⟨w.heap.size+1+1,1,none⟩=some (.int .i64 12)) hT (fun _ _ _ _ _ h=>h) ?_;refine kp 0 (.pointer (some ⟨w.heap.size,1,none⟩)) rfl kr (fun _=>kr) ?_;refine kl 1 (.int .u32 (n32 b)) rfl kr (fun w' hw'=>za5 (t:=44) (x:=.tmp 35) (p:=⟨w.heap.size,1,none⟩) rr kr agU32 hw'.1) ?_;refine kp 2 (.pointer (some ⟨w.heap.size,2,none⟩)) rfl kr (fun _=>kr) ?_;refine kl 3 (.int .u32 (n32 (c+d))) rfl kr (fun w' hw'=>za5 (t:=44) (x:=.tmp 37) (p:=⟨w.heap.size,2,none⟩) rr kr agU32 hw'.2.1) ?_;refine kp 4 (.int .u32 (bits .xor .u32 (n32 b) (n32 (c+d)))) rfl kr (fun _=>kr) ?_;refine kp 5 (.int .i64 1) rfl kr (fun _=>kr) ?_;refine kp 6 (.pointer (some ⟨w.heap.size+1+1,1,none⟩)) rfl kr (fun _=>kr) ?_;refine kl 7 (.int .i64 12) rfl kr (fun w' hw'=>za5 (t:=3) (x:=.tmp 41) (p:=⟨w.heap.size+1+1,1,none⟩) rr kr agInt hw'.2.2) ?_;intro q8 q9;clear q8 q9;refine AnyK.enter 8 (d:=some 43) (f:=171) (args:=#[.int .u32 (bits .xor .u32 (n32 b) (n32 (c+d))),.int .i64 12]) kr kr kr ?_;refine(HL.out _).mono ?_;rintro e w2 ⟨rfl,nq,rfl⟩;refine⟨_,rfl,fun _=>hT,?_⟩;refine AnyK.pure 9 (v:=.pointer (some ⟨w.heap.size,1,none⟩)) rfl kr (fun _ _ _ h=>h) rfl (fun _=>kr) (fun _=>hT) ?_;refine AnyK.store 10 (d:=none) (op:=.store 44 (.tmp 44) (.tmp 43)) kr (fun o ho=>zc4 (p:=⟨w.heap.size,1,none⟩) (k:=.u32) (n:=n32 (Sh.rotr (b ^^^ (c+d)) 20)) ho kr kr szU32 hT.1 (HQ1.out.frozen 1)) kr (fun h=>(by cases h)) ?_;refine AnyK.done kr ?_;have HQ2:Hid (Blk ((w1.drew.drewN nq).setCell ⟨w.heap.size,1,none⟩ (.int .u32 (n32 (Sh.rotr (b ^^^ (c+d)) 20)))) w.heap.size 225 (q4s (a,Sh.rotr (b ^^^ (c+d)) 20,c+d,d))):=(HQ1.out.drew.drewN nq).set_ 1 (.int .u32 (n32 (Sh.rotr (b ^^^ (c+d)) 20)));have HZ2:=qh ((HZ1.out.drew.drewN nq).far (p:=⟨w.heap.size,1,none⟩) (by show w.heap.size+1≠w.heap.size;omega) (.int .u32 (n32 (Sh.rotr (b ^^^ (c+d)) 20))));have HT2:=qh ((HT1.out.drew.drewN nq).far (p:=⟨w.heap.size,1,none⟩) (by show w.heap.size+1+1≠w.heap.size;omega) (.int .u32 (n32 (Sh.rotr (b ^^^ (c+d)) 20))));have HB2:=qh ((Below.drewM HB1.out (1+nq)).setCell (p:=⟨w.heap.size,1,none⟩) lr (.int .u32 (n32 (Sh.rotr (b ^^^ (c+d)) 20))));clear hT
      go_wp2_with fail
      go_roundg (4-(1+1))
      case measure=>have:=HGK.out;omega
      case rel=>exact⟨1+1,(a,Sh.rotr (b ^^^ (c+d)) 20,c+d,d),by omega,rfl,by go_num,by show _=qstep (qst x 1) 1;rw[←HY.out];rfl,HQ2.out,HZ2.out,HT2.out,HB2.out⟩
    · have hlt2:((2:Nat):Int)<4:=om
      have c0:wr.cell? ⟨w.heap.size,0,none⟩=some (.int .u32 (n32 a)):=(hq.cell 0).trans rfl;have c1:wr.cell? ⟨w.heap.size,1,none⟩=some (.int .u32 (n32 b)):=(hq.cell 1).trans rfl;have c2:wr.cell? ⟨w.heap.size,2,none⟩=some (.int .u32 (n32 c)):=(hq.cell 2).trans rfl;have c3:wr.cell? ⟨w.heap.size,3,none⟩=some (.int .u32 (n32 d)):=(hq.cell 3).trans rfl;have f0:=hq.frozen 0;have hgl:=hq.lt;have HQ1:Hid (Blk (wr.setCell ⟨w.heap.size,0,none⟩ (.int .u32 (n32 (a+b)))) w.heap.size 225 (q4s (a+b,b,c,d))):=hq.set_ 0 (.int .u32 (n32 (a+b)));have HZ1:=qh (hz.far (p:=⟨w.heap.size,0,none⟩) (by show w.heap.size+1≠w.heap.size;omega) (.int .u32 (n32 (a+b))));have HT1:=qh (ht.far (p:=⟨w.heap.size,0,none⟩) (by show w.heap.size+1+1≠w.heap.size;omega) (.int .u32 (n32 (a+b))));have HB1:=qh (hB.setCell (p:=⟨w.heap.size,0,none⟩) lr (.int .u32 (n32 (a+b))));have HL:Hid (∀W:World,Calls Tryz.prog 171 #[.int .u32 (bits .xor .u32 (n32 d) (n32 (a+b))),.int .i64 8] W fun e w'=>e=.returned (.int .u32 (n32 (Sh.rotr (d ^^^ (a+b)) 24)))∧∃q,w'=W.drewN q):=fun W=>by rw[zd8];exact zwd _ W
      clear hq hz ht hB
      go_wp2_with fail
      obtain⟨w1,hw1⟩:=ex9 (wr.setCell ⟨w.heap.size,0,none⟩ (.int .u32 (n32 (a+b))));rw[←hw1]at HQ1 HZ1 HT1 HB1 ⊢;clear hw1 c0 c1 c2 c3 f0;have hT:w1.drew.cell? ⟨w.heap.size,3,none⟩=some (.int .u32 (n32 d))∧w1.drew.cell? ⟨w.heap.size,0,none⟩=some (.int .u32 (n32 (a+b)))∧w1.drew.cell? ⟨w.heap.size+1+1,2,none⟩=some (.int .i64 8):=⟨(HQ1.out.cell 3).trans rfl,(HQ1.out.cell 0).trans rfl,(HT1.out.cell 2).trans rfl⟩;refine kgo kr 10 (fun w'=>w'.cell? ⟨w.heap.size,3,none⟩=some (.int .u32 (n32 d))∧w'.cell? ⟨w.heap.size,0,none⟩=some (.int .u32 (n32 (a+b)))∧w'.cell? ⟨w.heap.size+1+1,2,none⟩=some (.int .i64 8)) hT (fun _ _ _ _ _ h=>h) ?_;refine kp 0 (.pointer (some ⟨w.heap.size,3,none⟩)) rfl kr (fun _=>kr) ?_;refine kl 1 (.int .u32 (n32 d)) rfl kr (fun w' hw'=>za5 (t:=44) (x:=.tmp 19) (p:=⟨w.heap.size,3,none⟩) rr kr agU32 hw'.1) ?_;refine kp 2 (.pointer (some ⟨w.heap.size,0,none⟩)) rfl kr (fun _=>kr) ?_;refine kl 3 (.int .u32 (n32 (a+b))) rfl kr (fun w' hw'=>za5 (t:=44) (x:=.tmp 21) (p:=⟨w.heap.size,0,none⟩) rr kr agU32 hw'.2.1) ?_;refine kp 4 (.int .u32 (bits .xor .u32 (n32 d) (n32 (a+b)))) rfl kr (fun _=>kr) ?_;refine kp 5 (.int .i64 2) rfl kr (fun _=>kr) ?_;refine kp 6 (.pointer (some ⟨w.heap.size+1+1,2,none⟩)) rfl kr (fun _=>kr) ?_;refine kl 7 (.int .i64 8) rfl kr (fun w' hw'=>za5 (t:=3) (x:=.tmp 25) (p:=⟨w.heap.size+1+1,2,none⟩) rr kr agInt hw'.2.2) ?_;intro q8 q9;clear q8 q9;refine AnyK.enter 8 (d:=some 27) (f:=171) (args:=#[.int .u32 (bits .xor .u32 (n32 d) (n32 (a+b))),.int .i64 8]) kr kr kr ?_;refine(HL.out _).mono ?_;rintro e w2 ⟨rfl,nq,rfl⟩;refine⟨_,rfl,fun _=>hT,?_⟩;refine AnyK.pure 9 (v:=.pointer (some ⟨w.heap.size,3,none⟩)) rfl kr (fun _ _ _ h=>h) rfl (fun _=>kr) (fun _=>hT) ?_;refine AnyK.store 10 (d:=none) (op:=.store 44 (.tmp 28) (.tmp 27)) kr (fun o ho=>zc4 (p:=⟨w.heap.size,3,none⟩) (k:=.u32) (n:=n32 (Sh.rotr (d ^^^ (a+b)) 24)) ho kr kr szU32 hT.1 (HQ1.out.frozen 3)) kr (fun h=>(by cases h)) ?_;refine AnyK.done kr ?_;have HQ2:Hid (Blk ((w1.drew.drewN nq).setCell ⟨w.heap.size,3,none⟩ (.int .u32 (n32 (Sh.rotr (d ^^^ (a+b)) 24)))) w.heap.size 225 (q4s (a+b,b,c,Sh.rotr (d ^^^ (a+b)) 24))):=(HQ1.out.drew.drewN nq).set_ 3 (.int .u32 (n32 (Sh.rotr (d ^^^ (a+b)) 24)));have HZ2:=qh ((HZ1.out.drew.drewN nq).far (p:=⟨w.heap.size,3,none⟩) (by show w.heap.size+1≠w.heap.size;omega) (.int .u32 (n32 (Sh.rotr (d ^^^ (a+b)) 24))));have HT2:=qh ((HT1.out.drew.drewN nq).far (p:=⟨w.heap.size,3,none⟩) (by show w.heap.size+1+1≠w.heap.size;omega) (.int .u32 (n32 (Sh.rotr (d ^^^ (a+b)) 24))));have HB2:=qh ((Below.drewM HB1.out (1+nq)).setCell (p:=⟨w.heap.size,3,none⟩) lr (.int .u32 (n32 (Sh.rotr (d ^^^ (a+b)) 24))));clear hT
      go_wp2_with fail
      go_roundg (4-(2+1))
      case measure=>have:=HGK.out;omega
      case rel=>exact⟨2+1,(a+b,b,c,Sh.rotr (d ^^^ (a+b)) 24),by omega,rfl,by go_num,by show _=qstep (qst x 2) 2;rw[←HY.out];rfl,HQ2.out,HZ2.out,HT2.out,HB2.out⟩
    · have hlt2:((3:Nat):Int)<4:=om
      have c0:wr.cell? ⟨w.heap.size,0,none⟩=some (.int .u32 (n32 a)):=(hq.cell 0).trans rfl;have c1:wr.cell? ⟨w.heap.size,1,none⟩=some (.int .u32 (n32 b)):=(hq.cell 1).trans rfl;have c2:wr.cell? ⟨w.heap.size,2,none⟩=some (.int .u32 (n32 c)):=(hq.cell 2).trans rfl;have c3:wr.cell? ⟨w.heap.size,3,none⟩=some (.int .u32 (n32 d)):=(hq.cell 3).trans rfl;have f0:=hq.frozen 2;have hgl:=hq.lt;have HQ1:Hid (Blk (wr.setCell ⟨w.heap.size,2,none⟩ (.int .u32 (n32 (c+d)))) w.heap.size 225 (q4s (a,b,c+d,d))):=hq.set_ 2 (.int .u32 (n32 (c+d)));have HZ1:=qh (hz.far (p:=⟨w.heap.size,2,none⟩) (by show w.heap.size+1≠w.heap.size;omega) (.int .u32 (n32 (c+d))));have HT1:=qh (ht.far (p:=⟨w.heap.size,2,none⟩) (by show w.heap.size+1+1≠w.heap.size;omega) (.int .u32 (n32 (c+d))));have HB1:=qh (hB.setCell (p:=⟨w.heap.size,2,none⟩) lr (.int .u32 (n32 (c+d))));have HL:Hid (∀W:World,Calls Tryz.prog 171 #[.int .u32 (bits .xor .u32 (n32 b) (n32 (c+d))),.int .i64 7] W fun e w'=>e=.returned (.int .u32 (n32 (Sh.rotr (b ^^^ (c+d)) 25)))∧∃q,w'=W.drewN q):=fun W=>by rw[zd8];exact zwe _ W
      clear hq hz ht hB
      go_wp2_with fail
      obtain⟨w1,hw1⟩:=ex9 (wr.setCell ⟨w.heap.size,2,none⟩ (.int .u32 (n32 (c+d))));rw[←hw1]at HQ1 HZ1 HT1 HB1 ⊢;clear hw1 c0 c1 c2 c3 f0;have hT:w1.drew.cell? ⟨w.heap.size,1,none⟩=some (.int .u32 (n32 b))∧w1.drew.cell? ⟨w.heap.size,2,none⟩=some (.int .u32 (n32 (c+d)))∧w1.drew.cell? ⟨w.heap.size+1+1,3,none⟩=some (.int .i64 7):=⟨(HQ1.out.cell 1).trans rfl,(HQ1.out.cell 2).trans rfl,(HT1.out.cell 3).trans rfl⟩;refine kgo kr 10 (fun w'=>w'.cell? ⟨w.heap.size,1,none⟩=some (.int .u32 (n32 b))∧w'.cell? ⟨w.heap.size,2,none⟩=some (.int .u32 (n32 (c+d)))∧w'.cell? ⟨w.heap.size+1+1,3,none⟩=some (.int .i64 7)) hT (fun _ _ _ _ _ h=>h) ?_;refine kp 0 (.pointer (some ⟨w.heap.size,1,none⟩)) rfl kr (fun _=>kr) ?_;refine kl 1 (.int .u32 (n32 b)) rfl kr (fun w' hw'=>za5 (t:=44) (x:=.tmp 35) (p:=⟨w.heap.size,1,none⟩) rr kr agU32 hw'.1) ?_;refine kp 2 (.pointer (some ⟨w.heap.size,2,none⟩)) rfl kr (fun _=>kr) ?_;refine kl 3 (.int .u32 (n32 (c+d))) rfl kr (fun w' hw'=>za5 (t:=44) (x:=.tmp 37) (p:=⟨w.heap.size,2,none⟩) rr kr agU32 hw'.2.1) ?_;refine kp 4 (.int .u32 (bits .xor .u32 (n32 b) (n32 (c+d)))) rfl kr (fun _=>kr) ?_;refine kp 5 (.int .i64 3) rfl kr (fun _=>kr) ?_;refine kp 6 (.pointer (some ⟨w.heap.size+1+1,3,none⟩)) rfl kr (fun _=>kr) ?_;refine kl 7 (.int .i64 7) rfl kr (fun w' hw'=>za5 (t:=3) (x:=.tmp 41) (p:=⟨w.heap.size+1+1,3,none⟩) rr kr agInt hw'.2.2) ?_;intro q8 q9;clear q8 q9;refine AnyK.enter 8 (d:=some 43) (f:=171) (args:=#[.int .u32 (bits .xor .u32 (n32 b) (n32 (c+d))),.int .i64 7]) kr kr kr ?_;refine(HL.out _).mono ?_;rintro e w2 ⟨rfl,nq,rfl⟩;refine⟨_,rfl,fun _=>hT,?_⟩;refine AnyK.pure 9 (v:=.pointer (some ⟨w.heap.size,1,none⟩)) rfl kr (fun _ _ _ h=>h) rfl (fun _=>kr) (fun _=>hT) ?_;refine AnyK.store 10 (d:=none) (op:=.store 44 (.tmp 44) (.tmp 43)) kr (fun o ho=>zc4 (p:=⟨w.heap.size,1,none⟩) (k:=.u32) (n:=n32 (Sh.rotr (b ^^^ (c+d)) 25)) ho kr kr szU32 hT.1 (HQ1.out.frozen 1)) kr (fun h=>(by cases h)) ?_;refine AnyK.done kr ?_;have HQ2:Hid (Blk ((w1.drew.drewN nq).setCell ⟨w.heap.size,1,none⟩ (.int .u32 (n32 (Sh.rotr (b ^^^ (c+d)) 25)))) w.heap.size 225 (q4s (a,Sh.rotr (b ^^^ (c+d)) 25,c+d,d))):=(HQ1.out.drew.drewN nq).set_ 1 (.int .u32 (n32 (Sh.rotr (b ^^^ (c+d)) 25)));have HZ2:=qh ((HZ1.out.drew.drewN nq).far (p:=⟨w.heap.size,1,none⟩) (by show w.heap.size+1≠w.heap.size;omega) (.int .u32 (n32 (Sh.rotr (b ^^^ (c+d)) 25))));have HT2:=qh ((HT1.out.drew.drewN nq).far (p:=⟨w.heap.size,1,none⟩) (by show w.heap.size+1+1≠w.heap.size;omega) (.int .u32 (n32 (Sh.rotr (b ^^^ (c+d)) 25))));have HB2:=qh ((Below.drewM HB1.out (1+nq)).setCell (p:=⟨w.heap.size,1,none⟩) lr (.int .u32 (n32 (Sh.rotr (b ^^^ (c+d)) 25))));clear hT
      go_wp2_with fail
      go_roundg (4-(3+1))
      case measure=>have:=HGK.out;omega
      case rel=>exact⟨3+1,(a,Sh.rotr (b ^^^ (c+d)) 25,c+d,d),by omega,rfl,by go_num,by show _=qstep (qst x 3) 3;rw[←HY.out];rfl,HQ2.out,HZ2.out,HT2.out,HB2.out⟩
  · obtain rfl:i=4:=om
    have hlt2:¬((4:Nat):Int)<4:=om;rw[HY.out]at hq;obtain⟨U,hU⟩:=ex9 (q4s (qst x 4));have HI:Hid ((Tryz.prog.info? 225).map (·.size)=some (q4s (qst x 4)).length):=hd192;have H1:Hid (∀v∈q4s (qst x 4),v.oneCell'=true):=zba _;have HL:Hid ((q4s (qst x 4)).length=4):=rfl;rw[←hU]at hq HI H1 HL;have HU:=qh hU;clear hU HY
    go_wp2_with (first
     | refine wpList_load_mid rfl 225 (.tmp 1) rfl w.heap.size 0 rr U _ hq.range Tryz.underlying225 rfl HI.out ?_
     | (refine zab rfl 225 (.tmp 2) (.tmp 45) rfl (w.heap.size+1) U rr rr 225 _ hz HI.out H1.out (by rw[HL.out];rfl) ?_;intro w8 hb8 ho8))
    exact bodyPost_ret (zam rfl _ (w.heap.size+1) _ U rfl hb8 _ Tryz.underlying225 rfl HI.out) rfl ⟨by rw[HU.out],ho8.below hB om hB.size⟩
end
theorem eU32:ElemIs Tryz.prog 44 1 4:=ElemIs.of (z:=.int .u32 0) kr rfl om
theorem leNat4(a b c d:UInt8):(leNat [a,b,c,d]:Int)=n32 (Ch.le32 a b c d):=by
 have ha:=a.toNat_lt;have hb:=b.toNat_lt;have hc:=c.toNat_lt;have hd:=d.toNat_lt
 unfold n32 Ch.le32 Sh.be32 leNat beNat
 simp only[List.reverse_cons,List.reverse_nil,List.nil_append,List.cons_append,List.foldl_cons,List.foldl_nil,Nat.zero_mul,Nat.zero_add];rw[UInt32.toNat_ofNat']
 congr 1
 omega
theorem zox(l:List UInt8)(k:Nat)(h:4*k+4≤l.length):(leNat ((l.drop (4*k)).take 4):Int)=n32 (Ch.word l k):=by
 have e:(l.drop (4*k)).take 4=[l.getD (4*k) 0,l.getD (4*k+1) 0,l.getD (4*k+2) 0,l.getD (4*k+3) 0]:=by
  apply List.ext_getElem?
  intro i;rw[List.getElem?_take]
  by_cases hi:i<4
  · rw[if_pos hi,List.getElem?_drop]
    obtain rfl|rfl|rfl|rfl:i=0∨i=1∨i=2∨i=3:=om
    all_goals (simp only[List.getD_eq_getElem?_getD,Nat.add_zero,List.getElem?_cons_zero,List.getElem?_cons_succ];rw[ge9 om];rfl)
  · rw[if_neg hi]
    rw[List.getElem?_eq_none (by simp;omega)]
 rw[e,leNat4]
 rfl
theorem zfl(A:Option Addr)(n c m:Nat)(l:List UInt8)(w:World)(h:Rd w A n (u8s l))(hn:n=4*m)(hb:n≤1000000):
 Calls Tryz.prog 148 #[.slice A n c] w fun e w'=>∃A' c',e=.returned (.slice A' m c')∧m≤c'∧w'.ownsRow w.heap.size 44 1 (.slice A' m c') m (u32s (Ch.words l m))∧Below w.heap.size w w':=by
 have hl:l.length=n:=h.len
 have HG:=qh (fun(W:World) (k a:Nat) (hk:4*k+4≤n) (ha:a=4*k) (hr:Rd W A n (u8s l))=>(show Calls Tryz.prog 150 #[.int .i64 1,.slice A n c,.int .i64 a,.int .i64 4] W fun e w'=>e=.returned (.tuple #[.int .u64 (n32 (Ch.word l k)),.int .i64 0])∧W=w' from by
  have h5:=zu8 A n c a 4 l W hr om om om om;rw[ha,zox l k om]at h5;rw[ha]
  exact h5))
 have HR:=qh h;clear h hl
 go_enter Tryz.func148, Tryz.ntmps148
 go_wp2_with fail
 go_loopg [3,4] m (fun kk v q wr=>∃i a:Nat,i≤m∧kk=m-i∧a=4*i∧q=.int .i64 a∧(∃A' c',v=.slice A' i c'∧i≤c'∧wr.ownsRow w.heap.size 44 1 (.slice A' i c') i (u32s (Ch.words l i)))∧Below w.heap.size w wr)
 case atStart=>exact⟨0,0,by omega,rfl,rfl,rfl,⟨_,_,rfl,by omega,⟨rfl,.inl ⟨rfl,rfl⟩⟩⟩,Below.refl _ _⟩
 case round =>
  obtain⟨i,a,hi,hgk,ha,rfl,⟨A',c',rfl,hc',hown⟩,hB⟩:=hrel;have HGK:=qh hgk;have HA:=qh ha;clear hgk
  by_cases hlt:i<m
  · have hlt2:(a:Int)+3<(n:Int):=om
    have HGW:=qh (fun(hr:Rd wr A n (u8s l))=>HG.out wr i a om ha hr);obtain⟨x,hx⟩:=ex9 (Ch.word l i);rw[←hx]at HGW;have HWS:Hid (u32s (Ch.words l (i+1))=u32s (Ch.words l i)++u32s [x]):=by show _=_;rw[Ch.words,←hx];simp[u32s]
    have hw1:IntKind.u32.wrap (n32 x)=n32 x:=by have:=zfb x;rw[IntKind.wrap_u32];omega
    have hw2:n32 x%4294967296=n32 x:=by have:=zfb x;omega
    have HBE:=qh hB;have HOW:=qh hown;have ha2:a+4≤1000000:=om;have hib:i≤1000000:=om;clear hx hown hB ha hn
    go_wp2_with (first
     | (go_at_call 150;(with_reducible refine(HGW.out (by exact HR.out.below HBE.out)).mono ?_);rintro e w1 ⟨rfl,rfl⟩)
     | (at_builtin;refine zah rfl (.tmp 20) (.tmp 23) 221 rfl w.heap.size 44 1 4 Tryz.underlying221 eU32 (.slice A' i c') i (u32s (Ch.words l i)) rr (by exact HOW.out.alloc _) (some ⟨wr.heap.size,0,none⟩) 1 1 (u32s [x]) rr (by exact RdS.new wr 44 (u32s [x]) 1 rfl) (zba _) om om (Nat.le_trans HBE.out.size sy) ?_;intro A4 c4 w4 hown4 hc4 hg4 hat4;have HE4:=qh ((HBE.out.alloc HBE.out.size _).grown hg4 (Nat.le_trans HBE.out.size sy) (fun g hg=>(HOW.out.lt g hg).1));have HO4:=qh hown4;rw[←HWS.out]at HO4;clear hown4 hg4 hat4))
    go_roundg (m-(i+1))
    case measure=>have:=HGK.out;omega
    case rel=>exact⟨i+1,a+4,by omega,rfl,by have:=HA.out;omega,by go_num,⟨A4,c4,rfl,by omega,HO4.out⟩,HE4.out⟩
  · obtain rfl:i=m:=om
    have hlt2:¬(a:Int)+3<(n:Int):=om;have HOW:=qh hown;clear hown
    go_wp2_with fail
    go_ret;exact⟨A',c',rfl,hc',HOW.out,hB⟩
end Go.Proofs.YtpgpaenloaphaaaGreat
