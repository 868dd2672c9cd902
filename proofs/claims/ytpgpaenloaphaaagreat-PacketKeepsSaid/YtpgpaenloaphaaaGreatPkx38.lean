/- Part of the proof. -/
import Derived.Test.YtpgpaenloaphaaaGreatPkx27
import Derived.Test.YtpgpaenloaphaaaGreatPkx36
set_option maxRecDepth 100000
set_option maxHeartbeats 0
namespace Go.Proofs.YtpgpaenloaphaaaGreat
open Go.RowKit
theorem zs4(x:UInt32)(w:World):Calls Tryz.prog 171 #[.int .u32 (n32 x),.int .i64 16] w fun e w'=>e=.returned (.int .u32 (n32 (Sh.rotr x 16)))∧∃q,w'=w.drewN q:=by
 have HR:Hid (bits .or .u32 (n32 x*65536%(4294967296:Int)) (n32 x/65536)=n32 (Sh.rotr x 16)):=zhh x 16 om om
 go_enter Tryz.func171, Tryz.ntmps171
 go_wp2_with fail
 go_quiet (fail)
 go_wp2_with fail
 go_ret;exact⟨by rw[←HR.out];rfl,_,rfl⟩
theorem zs5(x:UInt32)(w:World):Calls Tryz.prog 171 #[.int .u32 (n32 x),.int .i64 12] w fun e w'=>e=.returned (.int .u32 (n32 (Sh.rotr x 20)))∧∃q,w'=w.drewN q:=by
 have HR:Hid (bits .or .u32 (n32 x*4096%(4294967296:Int)) (n32 x/1048576)=n32 (Sh.rotr x 20)):=zhh x 12 om om
 go_enter Tryz.func171, Tryz.ntmps171
 go_wp2_with fail
 go_quiet (fail)
 go_wp2_with fail
 go_ret;exact⟨by rw[←HR.out];rfl,_,rfl⟩
theorem zwg(x:UInt32)(w:World):Calls Tryz.prog 171 #[.int .u32 (n32 x),.int .i64 8] w fun e w'=>e=.returned (.int .u32 (n32 (Sh.rotr x 24)))∧∃q,w'=w.drewN q:=by
 have HR:Hid (bits .or .u32 (n32 x*256%(4294967296:Int)) (n32 x/16777216)=n32 (Sh.rotr x 24)):=zhh x 8 om om
 go_enter Tryz.func171, Tryz.ntmps171
 go_wp2_with fail
 go_quiet (fail)
 go_wp2_with fail
 go_ret;exact⟨by rw[←HR.out];rfl,_,rfl⟩
theorem zwh(x:UInt32)(w:World):Calls Tryz.prog 171 #[.int .u32 (n32 x),.int .i64 7] w fun e w'=>e=.returned (.int .u32 (n32 (Sh.rotr x 25)))∧∃q,w'=w.drewN q:=by
 have HR:Hid (bits .or .u32 (n32 x*128%(4294967296:Int)) (n32 x/33554432)=n32 (Sh.rotr x 25)):=zhh x 7 om om
 go_enter Tryz.func171, Tryz.ntmps171
 go_wp2_with fail
 go_quiet (fail)
 go_wp2_with fail
 go_ret;exact⟨by rw[←HR.out];rfl,_,rfl⟩
def leNat(l:List UInt8):Nat:=beNat l.reverse
theorem zox(l:List UInt8)(c:UInt8):leNat (l++[c])=leNat l+256^l.length*c.toNat:=by
 unfold leNat
 rw[List.reverse_append]
 show beNat (c :: l.reverse)=_
 rw[zi8,List.length_reverse,Nat.mul_comm,Nat.add_comm]
theorem zni(l:List UInt8):leNat l<256^l.length:=by
 have:=zu0 l.reverse
 rwa [List.length_reverse]at this
theorem zv1(n:Int)(h1:1≤n)(h2:n≤8)(w:World):Calls Tryz.prog 97 #[.int .i64 1,.int .i64 n] w fun e w'=>e=.returned (.bool true)∧w=w':=by
 have e1:decide (1≤n)=true:=by simpa using h1
 have e2:decide (n≤8)=true:=by simpa using h2
 go_enter Tryz.func97, Tryz.ntmps97
 go_wp2;go_ret;exact⟨by simp,rfl⟩
theorem zva(A:Option Addr)(n c at_ k:Nat)(l:List UInt8)(w:World)(h:Rd w A n (u8s l))(hn:n≤140737488355328)(h1:1≤k)(h2:k≤8)(h3:at_+k≤n):
 Calls Tryz.prog 150 #[.int .i64 1,.slice A n c,.int .i64 at_,.int .i64 k] w fun e w'=>e=.returned (.tuple #[.int .u64 (leNat ((l.drop at_).take k)),.int .i64 0])∧w=w':=by
 have hl:=h.len;have HL:=qh hl;clear hl;have e1:decide ((at_:Int)<0)=false:=by simp
 have e2:decide ((n:Int)<(k:Int))=false:=by simp;omega
 have e3:decide ((n:Int)-(k:Int)<(at_:Int))=false:=by simp;omega
 go_enter Tryz.func150, Tryz.ntmps150
 go_wp2_with (go_at_call 97;refine(zv1 _ om om _).mono ?_;rintro e w' ⟨rfl,rfl⟩)
 go_loop [10,11,12] (fun m p i=>∃j:Nat,j≤k∧i=.int .i64 j∧p=.int .u64 ((256^j%18446744073709551616:Nat):Int)∧m=.int .u64 (leNat ((l.drop at_).take j))) (fun _ _ i=>k-(intOf i).toNat)
 case atStart=>exact⟨0,Nat.zero_le _,rfl,rfl,rfl⟩
 case round =>
  obtain⟨j,hj,rfl,rfl,rfl⟩:=hrel
  by_cases hlt:j<k
  · obtain⟨b,off,x,rfl,hb,HX,hc⟩:=h.u8 (k:=at_+j) om
    have hbd:=zni ((l.drop at_).take j)
    have hs:leNat ((l.drop at_).take (j+1))=leNat ((l.drop at_).take j)+256^j*x.toNat:=by
     rw[List.take_add_one,List.getElem?_drop,HX.out]
     show leNat (_++[x])=_
     rw[zox,List.length_take,List.length_drop,HL.out,Nat.min_eq_left om]
    have HS:=qh hs;have HBD:=qh hbd;have i0:(0:Int)≤(at_:Int)+(j:Int):=om;have i1:(at_:Int)+(j:Int)<(n:Int):=om;clear hs hbd;generalize leNat ((l.drop at_).take j)=m at *;have hm:m<256^j:=Nat.lt_of_lt_of_le HBD.out (Nat.pow_le_pow_right om (List.length_take_le _ _));have hst:=zqc j m x om hm;have HST:=qh hst;clear hst hm HBD;generalize hp:256^j%18446744073709551616=p at *;have HP:=qh hp;clear hp;go_wp2
    go_round
    case rel=>exact⟨j+1,by omega,by go_num,by rw[HST.out.1],by rw[HST.out.2,HS.out]⟩
    case measure=>simp[intOf];omega
  · have:j=k:=om
    subst this;go_wp2;go_ret2;exact⟨rfl,rfl⟩
def leBz(n:Nat):Nat→List UInt8
 | 0=>[]
 | i+1=>leBz n i++[UInt8.ofNat (n/256^i)]
theorem zjz(n i:Nat):(leBz n i).length=i:=by
 induction i with
 | zero=>rfl
 | succ i ih=>simp[leBz,ih]
def lePut(n k i:Nat):List UInt8:=leBz n i++List.replicate (k-i) 0
theorem zrm(n k i:Nat)(h:i≤k):(lePut n k i).length=k:=by simp[lePut,zjz];omega
theorem zrl(n k i:Nat)(h:i<k):(lePut n k i).set i (UInt8.ofNat (n/256^i))=lePut n k (i+1):=by
 unfold lePut
 rw[List.set_append_right _ _ (by rw[zjz];exact lr),zjz,Nat.sub_self,show k-i=(k-(i+1))+1 by omega,List.replicate_succ,List.set_cons_zero,leBz]
 simp
theorem zt5(z:UInt32):leBz z.toNat 4=Ch.leBytes z:=by
 have e0:=b0 z;have e8:=b8 z;have e16:=b16 z;have e24:=b24 z
 unfold n32 at e0 e8 e16 e24
 simp only[leBz,Ch.leBytes,List.nil_append,List.cons_append,List.cons.injEq,and_true];refine⟨?_,?_,?_,?_⟩ <;> (apply UInt8.toNat_inj.1;rw[UInt8.toNat_ofNat'];simp only[Nat.pow_zero,Nat.div_one,Nat.reducePow];omega)
theorem rput_w(z:UInt32)(w:World):
 Calls Tryz.prog 61 #[.int .i64 1,.int .i64 4,.int .u64 (n32 z)] w fun e w'=>e=.returned (.tuple #[.slice (some ⟨w.heap.size,0,none⟩) 4 4,.int .i64 0])∧Blk w' w.heap.size 5 (u8s (Ch.leBytes z))∧Below w.heap.size w w':=by
 obtain⟨n,hnz⟩:=ex9 (z.toNat);have hn:n<4294967296:=by rw[hnz];exact z.toNat_lt
 have HLB:Hid (Ch.leBytes z=leBz n 4):=by show _=_;rw[hnz,zt5]
 rw[show n32 z=(n:Int) by rw[hnz];rfl,HLB.out];clear hnz HLB
 go_enter Tryz.func61, Tryz.ntmps61
 go_wp2_with (first
  | (go_at_call 97;go_in)
  | (refine zak rfl (.tmp 15) (.tmp 15) 22 rfl 5 (.int .u8 0) 1 Tryz.underlying22 iU8 rfl .i64 .i64 4 4 rr rr 4 4 rfl rfl om om om ?_;intro w1 hb1 hg1 hs1;have HB1:Hid (Blk w1 w.heap.size 5 (u8s (lePut n 4 0))):=hb1;have HE1:Hid (Below w.heap.size w w1):=zae hg1;clear hb1 hg1 hs1))
 go_loopg [2,9] 4 (fun kk qn q wr=>∃i m:Nat,i≤4∧kk=4-i∧m=n/256^i∧m<4294967296∧qn=.int .u64 (m:Int)∧q=.int .i64 i∧Blk wr w.heap.size 5 (u8s (lePut n 4 i))∧Below w.heap.size w wr)
 case atStart=>exact⟨0,n,by omega,rfl,by simp,hn,rfl,rfl,HB1.out,HE1.out⟩
 case round =>
  clear HB1 HE1;obtain⟨i,m,hi,hgk,hm,hm2,rfl,rfl,hb,hB⟩:=hrel;have HGK:=qh hgk;have HM:=qh hm;clear hgk hm
  by_cases hlt:i<4
  · have hlt2:(i:Int)<4:=om
    have hp0:(0:Int)≤(i:Int):=om;have HS:=qh (zrl n 4 i hlt);have hpl:=zrm n 4 i hi;obtain⟨x,hx⟩:∃x,(lePut n 4 i)[i]? = some x:=⟨_,ge9 om⟩;have cx:wr.cell? ⟨w.heap.size,i,none⟩=some (.int .u8 x.toNat):=by rw[hb.cell,u8s_getElem?,hx];rfl
    have fx:=hb.frozen i;have HSB:=qh (znh m);have hb2:=qh (hb.set_ i (.int .u8 (UInt8.ofNat m).toNat));rw[zbg,HM.out,HS.out,←HM.out]at hb2;have hB2:=qh (hB.setCell (p:=⟨w.heap.size,i,none⟩) lr (.int .u8 (UInt8.ofNat m).toNat));have hgl:=hb.lt;have hm0:(0:Int)≤(m:Int):=om;clear hx hpl hb
    go_wp2_with fail
    rw[HSB.out];go_roundg (4-(i+1))
    case measure=>have:=HGK.out;omega
    case rel=>exact⟨i+1,m/256,by omega,rfl,by rw[HM.out,Nat.pow_succ,Nat.div_div_eq_div_mul],by omega,by go_num,by go_num,hb2.out,hB2.out⟩
  · obtain rfl:i=4:=om
    have hlt2:¬((4:Nat):Int)<4:=om;have hm0:m=0:=by rw[HM.out];exact Nat.div_eq_of_lt hn
    subst hm0;have HB:=qh hb;rw[show lePut n 4 4=leBz n 4 from by unfold lePut;simp]at HB;clear hb
    go_wp2_with fail
    go_ret2;exact⟨rfl,HB.out,hB⟩
section
abbrev Q4:=UInt32 × UInt32 × UInt32 × UInt32
def qturn:Nat→UInt32
 | 0=>16
 | 1=>20
 | 2=>24
 | _=>25
def qstep(v:Q4)(i:Nat):Q4 :=
 if i%2=0 then (v.1+v.2.1,v.2.1,v.2.2.1,Sh.rotr (v.2.2.2 ^^^ (v.1+v.2.1)) (qturn i))
 else (v.1,Sh.rotr (v.2.1 ^^^ (v.2.2.1+v.2.2.2)) (qturn i),v.2.2.1+v.2.2.2,v.2.2.2)
def qst(v:Q4):Nat→Q4
 | 0=>v
 | i+1=>qstep (qst v i) i
def q4s(q:Q4):List Value:=u32s [q.1,q.2.1,q.2.2.1,q.2.2.2]
theorem agInt(w:World):(isAgg 3).run Tryz.prog w=.ok false w:=by kernel_rfl
theorem hd192:(Tryz.prog.info? 225).map (·.size)=some 4:=by kernel_rfl
attribute [local go_sem] zd1 zeb
theorem zkn(x:Q4)(w:World):
 Calls Tryz.prog 149 #[.agg (q4s x).toArray] w fun e w'=>e=.returned (.agg (q4s (qst x 4)).toArray)∧Below w.heap.size w w':=by
 have e0:q4s x=[.int .u32 (n32 x.1),.int .u32 (n32 x.2.1),.int .u32 (n32 x.2.2.1),.int .u32 (n32 x.2.2.2)]:=rfl;have HQ0:Hid (Blk (((w.alloc (.cells #[.int .u32 (n32 x.1),.int .u32 (n32 x.2.1),.int .u32 (n32 x.2.2.1),.int .u32 (n32 x.2.2.2)] 225)).alloc (.cells #[.int .u32 0,.int .u32 0,.int .u32 0,.int .u32 0] 225)).alloc (.cells #[.int .i64 16,.int .i64 12,.int .i64 8,.int .i64 7] 223)) w.heap.size 225 (q4s (qst x 0))):=((Blk.new' rfl rfl).alloc _).alloc _;have HZ0:Hid (Blk (((w.alloc (.cells #[.int .u32 (n32 x.1),.int .u32 (n32 x.2.1),.int .u32 (n32 x.2.2.1),.int .u32 (n32 x.2.2.2)] 225)).alloc (.cells #[.int .u32 0,.int .u32 0,.int .u32 0,.int .u32 0] 225)).alloc (.cells #[.int .i64 16,.int .i64 12,.int .i64 8,.int .i64 7] 223)) (w.heap.size+1) 225 (q4s (0,0,0,0))):=(Blk.new' sy rfl).alloc _;have HT0:Hid (Blk (((w.alloc (.cells #[.int .u32 (n32 x.1),.int .u32 (n32 x.2.1),.int .u32 (n32 x.2.2.1),.int .u32 (n32 x.2.2.2)] 225)).alloc (.cells #[.int .u32 0,.int .u32 0,.int .u32 0,.int .u32 0] 225)).alloc (.cells #[.int .i64 16,.int .i64 12,.int .i64 8,.int .i64 7] 223)) (w.heap.size+1+1) 223 [.int .i64 16,.int .i64 12,.int .i64 8,.int .i64 7]):=Blk.new' sy rfl;have HE0:Hid (Below w.heap.size w (((w.alloc (.cells #[.int .u32 (n32 x.1),.int .u32 (n32 x.2.1),.int .u32 (n32 x.2.2.1),.int .u32 (n32 x.2.2.2)] 225)).alloc (.cells #[.int .u32 0,.int .u32 0,.int .u32 0,.int .u32 0] 225)).alloc (.cells #[.int .i64 16,.int .i64 12,.int .i64 8,.int .i64 7] 223))):=(((Below.refl _ _).alloc lr _).alloc sy _).alloc (by simp;omega) _;rw[e0];clear e0
 go_enter Tryz.func149, Tryz.ntmps149
 go_wp2_with fail
 go_loopg [4] 4 (fun kk q wr=>∃i:Nat,∃y:Q4,i≤4∧kk=4-i∧q=.int .i64 i∧y=qst x i∧Blk wr w.heap.size 225 (q4s y)∧Blk wr (w.heap.size+1) 225 (q4s (0,0,0,0))∧Blk wr (w.heap.size+1+1) 223 [.int .i64 16,.int .i64 12,.int .i64 8,.int .i64 7]∧Below w.heap.size w wr)
 case atStart=>exact⟨0,x,by omega,rfl,rfl,rfl,HQ0.out,HZ0.out,HT0.out,HE0.out⟩
 case round =>
  clear HQ0 HZ0 HT0 HE0;obtain⟨i,⟨a,b,c,d⟩,hi,hgk,rfl,hy,hq,hz,ht,hB⟩:=hrel;have HGK:=qh hgk;have HY:=qh hy;clear hgk hy
  by_cases hlt:i<4
  · obtain rfl|rfl|rfl|rfl:i=0∨i=1∨i=2∨i=3:=om
    · have hlt2:((0:Nat):Int)<4:=om
      have c0:wr.cell? ⟨w.heap.size,0,none⟩=some (.int .u32 (n32 a)):=(hq.cell 0).trans rfl;have c1:wr.cell? ⟨w.heap.size,1,none⟩=some (.int .u32 (n32 b)):=(hq.cell 1).trans rfl;have c2:wr.cell? ⟨w.heap.size,2,none⟩=some (.int .u32 (n32 c)):=(hq.cell 2).trans rfl;have c3:wr.cell? ⟨w.heap.size,3,none⟩=some (.int .u32 (n32 d)):=(hq.cell 3).trans rfl;have f0:=hq.frozen 0;have hgl:=hq.lt;have HQ1:Hid (Blk (wr.setCell ⟨w.heap.size,0,none⟩ (.int .u32 (n32 (a+b)))) w.heap.size 225 (q4s (a+b,b,c,d))):=hq.set_ 0 (.int .u32 (n32 (a+b)));have HZ1:=qh (hz.far (p:=⟨w.heap.size,0,none⟩) (by show w.heap.size+1≠w.heap.size;omega) (.int .u32 (n32 (a+b))));have HT1:=qh (ht.far (p:=⟨w.heap.size,0,none⟩) (by show w.heap.size+1+1≠w.heap.size;omega) (.int .u32 (n32 (a+b))));have HB1:=qh (hB.setCell (p:=⟨w.heap.size,0,none⟩) lr (.int .u32 (n32 (a+b))));have HL:Hid (∀W:World,Calls Tryz.prog 171 #[.int .u32 (bits .xor .u32 (n32 d) (n32 (a+b))),.int .i64 16] W fun e w'=>e=.returned (.int .u32 (n32 (Sh.rotr (d ^^^ (a+b)) 16)))∧∃q,w'=W.drewN q):=fun W=>by rw[zd0];exact zs4 _ W
      clear hq hz ht hB
      go_wp2_with fail
      obtain⟨w1,hw1⟩:=ex9 (wr.setCell ⟨w.heap.size,0,none⟩ (.int .u32 (n32 (a+b))));rw[←hw1]at HQ1 HZ1 HT1 HB1 ⊢;clear hw1 c0 c1 c2 c3 f0;have hT:w1.drew.cell? ⟨w.heap.size,3,none⟩=some (.int .u32 (n32 d))∧w1.drew.cell? ⟨w.heap.size,0,none⟩=some (.int .u32 (n32 (a+b)))∧w1.drew.cell? ⟨w.heap.size+1+1,0,none⟩=some (.int .i64 16):=⟨(HQ1.out.cell 3).trans rfl,(HQ1.out.cell 0).trans rfl,(HT1.out.cell 0).trans rfl⟩;refine kgo kr 10 (fun w'=>w'.cell? ⟨w.heap.size,3,none⟩=some (.int .u32 (n32 d))∧w'.cell? ⟨w.heap.size,0,none⟩=some (.int .u32 (n32 (a+b)))∧w'.cell? ⟨w.heap.size+1+1,0,none⟩=some (.int .i64 16)) hT (fun _ _ _ _ _ h=>h) ?_;refine kp 0 (.pointer (some ⟨w.heap.size,3,none⟩)) rfl kr (fun _=>kr) ?_;refine kl 1 (.int .u32 (n32 d)) rfl kr (fun w' hw'=>zaz (t:=44) (x:=.tmp 19) (p:=⟨w.heap.size,3,none⟩) rr kr agU32 hw'.1) ?_;refine kp 2 (.pointer (some ⟨w.heap.size,0,none⟩)) rfl kr (fun _=>kr) ?_;refine kl 3 (.int .u32 (n32 (a+b))) rfl kr (fun w' hw'=>zaz (t:=44) (x:=.tmp 21) (p:=⟨w.heap.size,0,none⟩) rr kr agU32 hw'.2.1) ?_;refine kp 4 (.int .u32 (bits .xor .u32 (n32 d) (n32 (a+b)))) rfl kr (fun _=>kr) ?_;refine kp 5 (.int .i64 0) rfl kr (fun _=>kr) ?_;refine kp 6 (.pointer (some ⟨w.heap.size+1+1,0,none⟩)) rfl kr (fun _=>kr) ?_;refine kl 7 (.int .i64 16) rfl kr (fun w' hw'=>zaz (t:=3) (x:=.tmp 25) (p:=⟨w.heap.size+1+1,0,none⟩) rr kr agInt hw'.2.2) ?_;intro q8 q9;clear q8 q9;refine AnyK.enter 8 (d:=some 27) (f:=171) (args:=#[.int .u32 (bits .xor .u32 (n32 d) (n32 (a+b))),.int .i64 16]) kr kr kr ?_;refine(HL.out _).mono ?_;rintro e w2 ⟨rfl,nq,rfl⟩;refine⟨_,rfl,fun _=>hT,?_⟩;refine AnyK.pure 9 (v:=.pointer (some ⟨w.heap.size,3,none⟩)) rfl kr (fun _ _ _ h=>h) rfl (fun _=>kr) (fun _=>hT) ?_;refine AnyK.store 10 (d:=none) (op:=.store 44 (.tmp 28) (.tmp 27)) kr (fun o ho=>zct (p:=⟨w.heap.size,3,none⟩) (k:=.u32) (n:=n32 (Sh.rotr (d ^^^ (a+b)) 16)) ho kr kr szU32 hT.1 (HQ1.out.frozen 3)) kr (fun h=>(by cases h)) ?_;refine AnyK.done kr ?_;have HQ2:Hid (Blk ((w1.drew.drewN nq).setCell ⟨w.heap.size,3,none⟩ (.int .u32 (n32 (Sh.rotr (d ^^^ (a+b)) 16)))) w.heap.size 225 (q4s (a+b,b,c,Sh.rotr (d ^^^ (a+b)) 16))):=(HQ1.out.drew.drewN nq).set_ 3 (.int .u32 (n32 (Sh.rotr (d ^^^ (a+b)) 16)));have HZ2:=qh ((HZ1.out.drew.drewN nq).far (p:=⟨w.heap.size,3,none⟩) (by show w.heap.size+1≠w.heap.size;omega) (.int .u32 (n32 (Sh.rotr (d ^^^ (a+b)) 16))));have HT2:=qh ((HT1.out.drew.drewN nq).far (p:=⟨w.heap.size,3,none⟩) (by show w.heap.size+1+1≠w.heap.size;omega) (.int .u32 (n32 (Sh.rotr (d ^^^ (a+b)) 16))));have HB2:=qh ((Below.drewM HB1.out (1+nq)).setCell (p:=⟨w.heap.size,3,none⟩) lr (.int .u32 (n32 (Sh.rotr (d ^^^ (a+b)) 16))));clear hT
      go_wp2_with fail
      go_roundg (4-(0+1))
      case measure=>have:=HGK.out;omega
      case rel=>exact⟨0+1,(a+b,b,c,Sh.rotr (d ^^^ (a+b)) 16),by omega,rfl,by go_num,by show _=qstep (qst x 0) 0;rw[←HY.out];rfl,HQ2.out,HZ2.out,HT2.out,HB2.out⟩
    · have hlt2:((1:Nat):Int)<4:=om
      have c0:wr.cell? ⟨w.heap.size,0,none⟩=some (.int .u32 (n32 a)):=(hq.cell 0).trans rfl;have c1:wr.cell? ⟨w.heap.size,1,none⟩=some (.int .u32 (n32 b)):=(hq.cell 1).trans rfl;have c2:wr.cell? ⟨w.heap.size,2,none⟩=some (.int .u32 (n32 c)):=(hq.cell 2).trans rfl;have c3:wr.cell? ⟨w.heap.size,3,none⟩=some (.int .u32 (n32 d)):=(hq.cell 3).trans rfl;have f0:=hq.frozen 2;have hgl:=hq.lt;have HQ1:Hid (Blk (wr.setCell ⟨w.heap.size,2,none⟩ (.int .u32 (n32 (c+d)))) w.heap.size 225 (q4s (a,b,c+d,d))):=hq.set_ 2 (.int .u32 (n32 (c+d)));have HZ1:=qh (hz.far (p:=⟨w.heap.size,2,none⟩) (by show w.heap.size+1≠w.heap.size;omega) (.int .u32 (n32 (c+d))));have HT1:=qh (ht.far (p:=⟨w.heap.size,2,none⟩) (by show w.heap.size+1+1≠w.heap.size;omega) (.int .u32 (n32 (c+d))));have HB1:=qh (hB.setCell (p:=⟨w.heap.size,2,none⟩) lr (.int .u32 (n32 (c+d))));have HL:Hid (∀W:World,Calls Tryz.prog 171 #[.int .u32 (bits .xor .u32 (n32 b) (n32 (c+d))),.int .i64 12] W fun e w'=>e=.returned (.int .u32 (n32 (Sh.rotr (b ^^^ (c+d)) 20)))∧∃q,w'=W.drewN q):=fun W=>by rw[zd0];exact zs5 _ W
      clear hq hz ht hB
      go_wp2_with fail
      obtain⟨w1,hw1⟩:=ex9 (wr.setCell ⟨w.heap.size,2,none⟩ (.int .u32 (n32 (c+d))));rw[←hw1]at HQ1 HZ1 HT1 HB1 ⊢;clear hw1 c0 c1 c2 c3 f0;have hT:w1.drew.cell? ⟨w.heap.size,1,none⟩=some (.int .u32 (n32 b))∧w1.drew.cell? ⟨w.heap.size,2,none⟩=some (.int .u32 (n32 (c+d)))∧w1.drew.cell? ⟨w.heap.size+1+1,1,none⟩=some (.int .i64 12):=⟨(HQ1.out.cell 1).trans rfl,(HQ1.out.cell 2).trans rfl,(HT1.out.cell 1).trans rfl⟩;refine kgo kr 10 (fun w'=>w'.cell? ⟨w.heap.size,1,none⟩=some (.int .u32 (n32 b))∧w'.cell? ⟨w.heap.size,2,none⟩=some (.int .u32 (n32 (c+d)))∧w'.cell? ⟨w.heap.size+1+1,1,none⟩=some (.int .i64 12)) hT (fun _ _ _ _ _ h=>h) ?_;refine kp 0 (.pointer (some ⟨w.heap.size,1,none⟩)) rfl kr (fun _=>kr) ?_;refine kl 1 (.int .u32 (n32 b)) rfl kr (fun w' hw'=>zaz (t:=44) (x:=.tmp 35) (p:=⟨w.heap.size,1,none⟩) rr kr agU32 hw'.1) ?_;refine kp 2 (.pointer (some ⟨w.heap.size,2,none⟩)) rfl kr (fun _=>kr) ?_;refine kl 3 (.int .u32 (n32 (c+d))) rfl kr (fun w' hw'=>zaz (t:=44) (x:=.tmp 37) (p:=⟨w.heap.size,2,none⟩) rr kr agU32 hw'.2.1) ?_;refine kp 4 (.int .u32 (bits .xor .u32 (n32 b) (n32 (c+d)))) rfl kr (fun _=>kr) ?_;refine kp 5 (.int .i64 1) rfl kr (fun _=>kr) ?_;refine kp 6 (.pointer (some ⟨w.heap.size+1+1,1,none⟩)) rfl kr (fun _=>kr) ?_;refine kl 7 (.int .i64 12) rfl kr (fun w' hw'=>zaz (t:=3) (x:=.tmp 41) (p:=⟨w.heap.size+1+1,1,none⟩) rr kr agInt hw'.2.2) ?_;intro q8 q9;clear q8 q9;refine AnyK.enter 8 (d:=some 43) (f:=171) (args:=#[.int .u32 (bits .xor .u32 (n32 b) (n32 (c+d))),.int .i64 12]) kr kr kr ?_;refine(HL.out _).mono ?_;rintro e w2 ⟨rfl,nq,rfl⟩;refine⟨_,rfl,fun _=>hT,?_⟩;refine AnyK.pure 9 (v:=.pointer (some ⟨w.heap.size,1,none⟩)) rfl kr (fun _ _ _ h=>h) rfl (fun _=>kr) (fun _=>hT) ?_;refine AnyK.store 10 (d:=none) (op:=.store 44 (.tmp 44) (.tmp 43)) kr (fun o ho=>zct (p:=⟨w.heap.size,1,none⟩) (k:=.u32) (n:=n32 (Sh.rotr (b ^^^ (c+d)) 20)) ho kr kr szU32 hT.1 (HQ1.out.frozen 1)) kr (fun h=>(by cases h)) ?_;refine AnyK.done kr ?_;have HQ2:Hid (Blk ((w1.drew.drewN nq).setCell ⟨w.heap.size,1,none⟩ (.int .u32 (n32 (Sh.rotr (b ^^^ (c+d)) 20)))) w.heap.size 225 (q4s (a,Sh.rotr (b ^^^ (c+d)) 20,c+d,d))):=(HQ1.out.drew.drewN nq).set_ 1 (.int .u32 (n32 (Sh.rotr (b ^^^ (c+d)) 20)));have HZ2:=qh ((HZ1.out.drew.drewN nq).far (p:=⟨w.heap.size,1,none⟩) (by show w.heap.size+1≠w.heap.size;omega) (.int .u32 (n32 (Sh.rotr (b ^^^ (c+d)) 20))));have HT2:=qh ((HT1.out.drew.drewN nq).far (p:=⟨w.heap.size,1,none⟩) (by show w.heap.size+1+1≠w.heap.size;omega) (.int .u32 (n32 (Sh.rotr (b ^^^ (c+d)) 20))));have HB2:=qh ((Below.drewM HB1.out (1+nq)).setCell (p:=⟨w.heap.size,1,none⟩) lr (.int .u32 (n32 (Sh.rotr (b ^^^ (c+d)) 20))));clear hT
      go_wp2_with fail
      go_roundg (4-(1+1))
      case measure=>have:=HGK.out;omega
      case rel=>exact⟨1+1,(a,Sh.rotr (b ^^^ (c+d)) 20,c+d,d),by omega,rfl,by go_num,by show _=qstep (qst x 1) 1;rw[←HY.out];rfl,HQ2.out,HZ2.out,HT2.out,HB2.out⟩
    · have hlt2:((2:Nat):Int)<4:=om
      have c0:wr.cell? ⟨w.heap.size,0,none⟩=some (.int .u32 (n32 a)):=(hq.cell 0).trans rfl;have c1:wr.cell? ⟨w.heap.size,1,none⟩=some (.int .u32 (n32 b)):=(hq.cell 1).trans rfl;have c2:wr.cell? ⟨w.heap.size,2,none⟩=some (.int .u32 (n32 c)):=(hq.cell 2).trans rfl;have c3:wr.cell? ⟨w.heap.size,3,none⟩=some (.int .u32 (n32 d)):=(hq.cell 3).trans rfl;have f0:=hq.frozen 0;have hgl:=hq.lt;have HQ1:Hid (Blk (wr.setCell ⟨w.heap.size,0,none⟩ (.int .u32 (n32 (a+b)))) w.heap.size 225 (q4s (a+b,b,c,d))):=hq.set_ 0 (.int .u32 (n32 (a+b)));have HZ1:=qh (hz.far (p:=⟨w.heap.size,0,none⟩) (by show w.heap.size+1≠w.heap.size;omega) (.int .u32 (n32 (a+b))));have HT1:=qh (ht.far (p:=⟨w.heap.size,0,none⟩) (by show w.heap.size+1+1≠w.heap.size;omega) (.int .u32 (n32 (a+b))));have HB1:=qh (hB.setCell (p:=⟨w.heap.size,0,none⟩) lr (.int .u32 (n32 (a+b))));have HL:Hid (∀W:World,Calls Tryz.prog 171 #[.int .u32 (bits .xor .u32 (n32 d) (n32 (a+b))),.int .i64 8] W fun e w'=>e=.returned (.int .u32 (n32 (Sh.rotr (d ^^^ (a+b)) 24)))∧∃q,w'=W.drewN q):=fun W=>by rw[zd0];exact zwg _ W
      clear hq hz ht hB
      go_wp2_with fail
      obtain⟨w1,hw1⟩:=ex9 (wr.setCell ⟨w.heap.size,0,none⟩ (.int .u32 (n32 (a+b))));rw[←hw1]at HQ1 HZ1 HT1 HB1 ⊢;clear hw1 c0 c1 c2 c3 f0;have hT:w1.drew.cell? ⟨w.heap.size,3,none⟩=some (.int .u32 (n32 d))∧w1.drew.cell? ⟨w.heap.size,0,none⟩=some (.int .u32 (n32 (a+b)))∧w1.drew.cell? ⟨w.heap.size+1+1,2,none⟩=some (.int .i64 8):=⟨(HQ1.out.cell 3).trans rfl,(HQ1.out.cell 0).trans rfl,(HT1.out.cell 2).trans rfl⟩;refine kgo kr 10 (fun w'=>w'.cell? ⟨w.heap.size,3,none⟩=some (.int .u32 (n32 d))∧w'.cell? ⟨w.heap.size,0,none⟩=some (.int .u32 (n32 (a+b)))∧w'.cell? ⟨w.heap.size+1+1,2,none⟩=some (.int .i64 8)) hT (fun _ _ _ _ _ h=>h) ?_;refine kp 0 (.pointer (some ⟨w.heap.size,3,none⟩)) rfl kr (fun _=>kr) ?_;refine kl 1 (.int .u32 (n32 d)) rfl kr (fun w' hw'=>zaz (t:=44) (x:=.tmp 19) (p:=⟨w.heap.size,3,none⟩) rr kr agU32 hw'.1) ?_;refine kp 2 (.pointer (some ⟨w.heap.size,0,none⟩)) rfl kr (fun _=>kr) ?_;refine kl 3 (.int .u32 (n32 (a+b))) rfl kr (fun w' hw'=>zaz (t:=44) (x:=.tmp 21) (p:=⟨w.heap.size,0,none⟩) rr kr agU32 hw'.2.1) ?_;refine kp 4 (.int .u32 (bits .xor .u32 (n32 d) (n32 (a+b)))) rfl kr (fun _=>kr) ?_;refine kp 5 (.int .i64 2) rfl kr (fun _=>kr) ?_;refine kp 6 (.pointer (some ⟨w.heap.size+1+1,2,none⟩)) rfl kr (fun _=>kr) ?_;refine kl 7 (.int .i64 8) rfl kr (fun w' hw'=>zaz (t:=3) (x:=.tmp 25) (p:=⟨w.heap.size+1+1,2,none⟩) rr kr agInt hw'.2.2) ?_;intro q8 q9;clear q8 q9;refine AnyK.enter 8 (d:=some 27) (f:=171) (args:=#[.int .u32 (bits .xor .u32 (n32 d) (n32 (a+b))),.int .i64 8]) kr kr kr ?_;refine(HL.out _).mono ?_;rintro e w2 ⟨rfl,nq,rfl⟩;refine⟨_,rfl,fun _=>hT,?_⟩;refine AnyK.pure 9 (v:=.pointer (some ⟨w.heap.size,3,none⟩)) rfl kr (fun _ _ _ h=>h) rfl (fun _=>kr) (fun _=>hT) ?_;refine AnyK.store 10 (d:=none) (op:=.store 44 (.tmp 28) (.tmp 27)) kr (fun o ho=>zct (p:=⟨w.heap.size,3,none⟩) (k:=.u32) (n:=n32 (Sh.rotr (d ^^^ (a+b)) 24)) ho kr kr szU32 hT.1 (HQ1.out.frozen 3)) kr (fun h=>(by cases h)) ?_;refine AnyK.done kr ?_;have HQ2:Hid (Blk ((w1.drew.drewN nq).setCell ⟨w.heap.size,3,none⟩ (.int .u32 (n32 (Sh.rotr (d ^^^ (a+b)) 24)))) w.heap.size 225 (q4s (a+b,b,c,Sh.rotr (d ^^^ (a+b)) 24))):=(HQ1.out.drew.drewN nq).set_ 3 (.int .u32 (n32 (Sh.rotr (d ^^^ (a+b)) 24)));have HZ2:=qh ((HZ1.out.drew.drewN nq).far (p:=⟨w.heap.size,3,none⟩) (by show w.heap.size+1≠w.heap.size;omega) (.int .u32 (n32 (Sh.rotr (d ^^^ (a+b)) 24))));have HT2:=qh ((HT1.out.drew.drewN nq).far (p:=⟨w.heap.size,3,none⟩) (by show w.heap.size+1+1≠w.heap.size;omega) (.int .u32 (n32 (Sh.rotr (d ^^^ (a+b)) 24))));have HB2:=qh ((Below.drewM HB1.out (1+nq)).setCell (p:=⟨w.heap.size,3,none⟩) lr (.int .u32 (n32 (Sh.rotr (d ^^^ (a+b)) 24))));clear hT
      go_wp2_with fail
      go_roundg (4-(2+1))
      case measure=>have:=HGK.out;omega
      case rel=>exact⟨2+1,(a+b,b,c,Sh.rotr (d ^^^ (a+b)) 24),by omega,rfl,by go_num,by show _=qstep (qst x 2) 2;rw[←HY.out];rfl,HQ2.out,HZ2.out,HT2.out,HB2.out⟩
    · have hlt2:((3:Nat):Int)<4:=om
      have c0:wr.cell? ⟨w.heap.size,0,none⟩=some (.int .u32 (n32 a)):=(hq.cell 0).trans rfl;have c1:wr.cell? ⟨w.heap.size,1,none⟩=some (.int .u32 (n32 b)):=(hq.cell 1).trans rfl;have c2:wr.cell? ⟨w.heap.size,2,none⟩=some (.int .u32 (n32 c)):=(hq.cell 2).trans rfl;have c3:wr.cell? ⟨w.heap.size,3,none⟩=some (.int .u32 (n32 d)):=(hq.cell 3).trans rfl;have f0:=hq.frozen 2;have hgl:=hq.lt;have HQ1:Hid (Blk (wr.setCell ⟨w.heap.size,2,none⟩ (.int .u32 (n32 (c+d)))) w.heap.size 225 (q4s (a,b,c+d,d))):=hq.set_ 2 (.int .u32 (n32 (c+d)));have HZ1:=qh (hz.far (p:=⟨w.heap.size,2,none⟩) (by show w.heap.size+1≠w.heap.size;omega) (.int .u32 (n32 (c+d))));have HT1:=qh (ht.far (p:=⟨w.heap.size,2,none⟩) (by show w.heap.size+1+1≠w.heap.size;omega) (.int .u32 (n32 (c+d))));have HB1:=qh (hB.setCell (p:=⟨w.heap.size,2,none⟩) lr (.int .u32 (n32 (c+d))));have HL:Hid (∀W:World,Calls Tryz.prog 171 #[.int .u32 (bits .xor .u32 (n32 b) (n32 (c+d))),.int .i64 7] W fun e w'=>e=.returned (.int .u32 (n32 (Sh.rotr (b ^^^ (c+d)) 25)))∧∃q,w'=W.drewN q):=fun W=>by rw[zd0];exact zwh _ W
      clear hq hz ht hB
      go_wp2_with fail
      obtain⟨w1,hw1⟩:=ex9 (wr.setCell ⟨w.heap.size,2,none⟩ (.int .u32 (n32 (c+d))));rw[←hw1]at HQ1 HZ1 HT1 HB1 ⊢;clear hw1 c0 c1 c2 c3 f0;have hT:w1.drew.cell? ⟨w.heap.size,1,none⟩=some (.int .u32 (n32 b))∧w1.drew.cell? ⟨w.heap.size,2,none⟩=some (.int .u32 (n32 (c+d)))∧w1.drew.cell? ⟨w.heap.size+1+1,3,none⟩=some (.int .i64 7):=⟨(HQ1.out.cell 1).trans rfl,(HQ1.out.cell 2).trans rfl,(HT1.out.cell 3).trans rfl⟩;refine kgo kr 10 (fun w'=>w'.cell? ⟨w.heap.size,1,none⟩=some (.int .u32 (n32 b))∧w'.cell? ⟨w.heap.size,2,none⟩=some (.int .u32 (n32 (c+d)))∧w'.cell? ⟨w.heap.size+1+1,3,none⟩=some (.int .i64 7)) hT (fun _ _ _ _ _ h=>h) ?_;refine kp 0 (.pointer (some ⟨w.heap.size,1,none⟩)) rfl kr (fun _=>kr) ?_;refine kl 1 (.int .u32 (n32 b)) rfl kr (fun w' hw'=>zaz (t:=44) (x:=.tmp 35) (p:=⟨w.heap.size,1,none⟩) rr kr agU32 hw'.1) ?_;refine kp 2 (.pointer (some ⟨w.heap.size,2,none⟩)) rfl kr (fun _=>kr) ?_;refine kl 3 (.int .u32 (n32 (c+d))) rfl kr (fun w' hw'=>zaz (t:=44) (x:=.tmp 37) (p:=⟨w.heap.size,2,none⟩) rr kr agU32 hw'.2.1) ?_;refine kp 4 (.int .u32 (bits .xor .u32 (n32 b) (n32 (c+d)))) rfl kr (fun _=>kr) ?_;refine kp 5 (.int .i64 3) rfl kr (fun _=>kr) ?_;refine kp 6 (.pointer (some ⟨w.heap.size+1+1,3,none⟩)) rfl kr (fun _=>kr) ?_;refine kl 7 (.int .i64 7) rfl kr (fun w' hw'=>zaz (t:=3) (x:=.tmp 41) (p:=⟨w.heap.size+1+1,3,none⟩) rr kr agInt hw'.2.2) ?_;intro q8 q9;clear q8 q9;refine AnyK.enter 8 (d:=some 43) (f:=171) (args:=#[.int .u32 (bits .xor .u32 (n32 b) (n32 (c+d))),.int .i64 7]) kr kr kr ?_;refine(HL.out _).mono ?_;rintro e w2 ⟨rfl,nq,rfl⟩;refine⟨_,rfl,fun _=>hT,?_⟩;refine AnyK.pure 9 (v:=.pointer (some ⟨w.heap.size,1,none⟩)) rfl kr (fun _ _ _ h=>h) rfl (fun _=>kr) (fun _=>hT) ?_;refine AnyK.store 10 (d:=none) (op:=.store 44 (.tmp 44) (.tmp 43)) kr (fun o ho=>zct (p:=⟨w.heap.size,1,none⟩) (k:=.u32) (n:=n32 (Sh.rotr (b ^^^ (c+d)) 25)) ho kr kr szU32 hT.1 (HQ1.out.frozen 1)) kr (fun h=>(by cases h)) ?_;refine AnyK.done kr ?_;have HQ2:Hid (Blk ((w1.drew.drewN nq).setCell ⟨w.heap.size,1,none⟩ (.int .u32 (n32 (Sh.rotr (b ^^^ (c+d)) 25)))) w.heap.size 225 (q4s (a,Sh.rotr (b ^^^ (c+d)) 25,c+d,d))):=(HQ1.out.drew.drewN nq).set_ 1 (.int .u32 (n32 (Sh.rotr (b ^^^ (c+d)) 25)));have HZ2:=qh ((HZ1.out.drew.drewN nq).far (p:=⟨w.heap.size,1,none⟩) (by show w.heap.size+1≠w.heap.size;omega) (.int .u32 (n32 (Sh.rotr (b ^^^ (c+d)) 25))));have HT2:=qh ((HT1.out.drew.drewN nq).far (p:=⟨w.heap.size,1,none⟩) (by show w.heap.size+1+1≠w.heap.size;omega) (.int .u32 (n32 (Sh.rotr (b ^^^ (c+d)) 25))));have HB2:=qh ((Below.drewM HB1.out (1+nq)).setCell (p:=⟨w.heap.size,1,none⟩) lr (.int .u32 (n32 (Sh.rotr (b ^^^ (c+d)) 25))));clear hT
      go_wp2_with fail
      go_roundg (4-(3+1))
      case measure=>have:=HGK.out;omega
      case rel=>exact⟨3+1,(a,Sh.rotr (b ^^^ (c+d)) 25,c+d,d),by omega,rfl,by go_num,by show _=qstep (qst x 3) 3;rw[←HY.out];rfl,HQ2.out,HZ2.out,HT2.out,HB2.out⟩
  · obtain rfl:i=4:=om
    have hlt2:¬((4:Nat):Int)<4:=om;rw[HY.out]at hq;obtain⟨U,hU⟩:=ex9 (q4s (qst x 4));have HI:Hid ((Tryz.prog.info? 225).map (·.size)=some (q4s (qst x 4)).length):=hd192;have H1:Hid (∀v∈q4s (qst x 4),v.oneCell'=true):=zbb _;have HL:Hid ((q4s (qst x 4)).length=4):=rfl;rw[←hU]at hq HI H1 HL;have HU:=qh hU;clear hU HY
    go_wp2_with (first
     | refine wpList_load_mid rfl 225 (.tmp 1) rfl w.heap.size 0 rr U _ hq.range Tryz.underlying225 rfl HI.out ?_
     | (refine zab rfl 225 (.tmp 2) (.tmp 45) rfl (w.heap.size+1) U rr rr 225 _ hz HI.out H1.out (by rw[HL.out];rfl) ?_;intro w8 hb8 ho8))
    exact bodyPost_ret (zam rfl _ (w.heap.size+1) _ U rfl hb8 _ Tryz.underlying225 rfl HI.out) rfl ⟨by rw[HU.out],ho8.below hB om hB.size⟩
end
theorem eU32:ElemIs Tryz.prog 44 1 4:=ElemIs.of (z:=.int .u32 0) kr rfl om
theorem leNat4(a b c d:UInt8):(leNat [a,b,c,d]:Int)=n32 (Ch.le32 a b c d):=by
 have ha:=a.toNat_lt;have hb:=b.toNat_lt;have hc:=c.toNat_lt;have hd:=d.toNat_lt
 unfold n32 Ch.le32 Sh.be32 leNat beNat
 simp only[List.reverse_cons,List.reverse_nil,List.nil_append,List.cons_append,List.foldl_cons,List.foldl_nil,Nat.zero_mul,Nat.zero_add];rw[UInt32.toNat_ofNat']
 congr 1
 omega
theorem zow(l:List UInt8)(k:Nat)(h:4*k+4≤l.length):(leNat ((l.drop (4*k)).take 4):Int)=n32 (Ch.word l k):=by
 have e:(l.drop (4*k)).take 4=[l.getD (4*k) 0,l.getD (4*k+1) 0,l.getD (4*k+2) 0,l.getD (4*k+3) 0]:=by
  apply List.ext_getElem?
  intro i;rw[List.getElem?_take]
  by_cases hi:i<4
  · rw[if_pos hi,List.getElem?_drop]
    obtain rfl|rfl|rfl|rfl:i=0∨i=1∨i=2∨i=3:=om
    all_goals (simp only[List.getD_eq_getElem?_getD,Nat.add_zero,List.getElem?_cons_zero,List.getElem?_cons_succ];rw[ge9 om];rfl)
  · rw[if_neg hi]
    rw[List.getElem?_eq_none (by simp;omega)]
 rw[e,leNat4]
 rfl
theorem zfn(A:Option Addr)(n c m:Nat)(l:List UInt8)(w:World)(h:Rd w A n (u8s l))(hn:n=4*m)(hb:n≤1000000):
 Calls Tryz.prog 148 #[.slice A n c] w fun e w'=>∃A' c',e=.returned (.slice A' m c')∧m≤c'∧w'.ownsRow w.heap.size 44 1 (.slice A' m c') m (u32s (Ch.words l m))∧Below w.heap.size w w':=by
 have hl:l.length=n:=h.len
 have HG:=qh (fun(W:World) (k a:Nat) (hk:4*k+4≤n) (ha:a=4*k) (hr:Rd W A n (u8s l))=>(show Calls Tryz.prog 150 #[.int .i64 1,.slice A n c,.int .i64 a,.int .i64 4] W fun e w'=>e=.returned (.tuple #[.int .u64 (n32 (Ch.word l k)),.int .i64 0])∧W=w' from by
  have h5:=zva A n c a 4 l W hr om om om om;rw[ha,zow l k om]at h5;rw[ha]
  exact h5))
 have HR:=qh h;clear h hl
 go_enter Tryz.func148, Tryz.ntmps148
 go_wp2_with fail
 go_loopg [3,4] m (fun kk v q wr=>∃i a:Nat,i≤m∧kk=m-i∧a=4*i∧q=.int .i64 a∧(∃A' c',v=.slice A' i c'∧i≤c'∧wr.ownsRow w.heap.size 44 1 (.slice A' i c') i (u32s (Ch.words l i)))∧Below w.heap.size w wr)
 case atStart=>exact⟨0,0,by omega,rfl,rfl,rfl,⟨_,_,rfl,by omega,⟨rfl,.inl ⟨rfl,rfl⟩⟩⟩,Below.refl _ _⟩
 case round =>
  obtain⟨i,a,hi,hgk,ha,rfl,⟨A',c',rfl,hc',hown⟩,hB⟩:=hrel;have HGK:=qh hgk;have HA:=qh ha;clear hgk
  by_cases hlt:i<m
  · have hlt2:(a:Int)+3<(n:Int):=om
    have HGW:=qh (fun(hr:Rd wr A n (u8s l))=>HG.out wr i a om ha hr);obtain⟨x,hx⟩:=ex9 (Ch.word l i);rw[←hx]at HGW;have HWS:Hid (u32s (Ch.words l (i+1))=u32s (Ch.words l i)++u32s [x]):=by show _=_;rw[Ch.words,←hx];simp[u32s]
    have hw1:IntKind.u32.wrap (n32 x)=n32 x:=by have:=zfc x;rw[IntKind.wrap_u32];omega
    have hw2:n32 x%4294967296=n32 x:=by have:=zfc x;omega
    have HBE:=qh hB;have HOW:=qh hown;have ha2:a+4≤1000000:=om;have hib:i≤1000000:=om;clear hx hown hB ha hn
    go_wp2_with (first
     | (go_at_call 150;(with_reducible refine(HGW.out (by exact HR.out.below HBE.out)).mono ?_);rintro e w1 ⟨rfl,rfl⟩)
     | (at_builtin;refine zah rfl (.tmp 20) (.tmp 23) 221 rfl w.heap.size 44 1 4 Tryz.underlying221 eU32 (.slice A' i c') i (u32s (Ch.words l i)) rr (by exact HOW.out.alloc _) (some ⟨wr.heap.size,0,none⟩) 1 1 (u32s [x]) rr (by exact RdS.new wr 44 (u32s [x]) 1 rfl) (zbb _) om om (Nat.le_trans HBE.out.size sy) ?_;intro A4 c4 w4 hown4 hc4 hg4 hat4;have HE4:=qh ((HBE.out.alloc HBE.out.size _).grown hg4 (Nat.le_trans HBE.out.size sy) (fun g hg=>(HOW.out.lt g hg).1));have HO4:=qh hown4;rw[←HWS.out]at HO4;clear hown4 hg4 hat4))
    go_roundg (m-(i+1))
    case measure=>have:=HGK.out;omega
    case rel=>exact⟨i+1,a+4,by omega,rfl,by have:=HA.out;omega,by go_num,⟨A4,c4,rfl,by omega,HO4.out⟩,HE4.out⟩
  · obtain rfl:i=m:=om
    have hlt2:¬(a:Int)+3<(n:Int):=om;have HOW:=qh hown;clear hown
    go_wp2_with fail
    go_ret;exact⟨A',c',rfl,hc',HOW.out,hB⟩
section
attribute [local go_sem ↓] zd5 zcg
theorem rinv_n(a:Nat)(w:World)(ha:a<115792089237316195423570985008687907853269984665640564039457584007913129639936):
 Calls Tryz.prog 123 #[.agg (n8 a).toArray] w fun e w'=>e=.returned (.agg (n8 (a^pE%pr)).toArray)∧Below w.heap.size w w':=by
 have HMK:Hid (∀W,(Instr.makeSlice 22 (.int .i64 32) (.int .i64 32)).run Tryz.prog W=.ok (.slice (some ⟨W.heap.size,0,none⟩) 32 32) (W.alloc (.cells (u8s (fz 0)).toArray 5))):=fun W=>by kernel_rfl
 obtain⟨W1,hW1⟩:=ex9 (((w.alloc (.cells (n8 a).toArray 196)).alloc (.cells o8.toArray 196)).alloc (.cells (u8s (fz 0)).toArray 5))
 have HM0:Hid (Blk W1 w.heap.size 196 (n8 a)∧Blk W1 (w.heap.size+1) 196 o8∧Blk W1 (w.heap.size+2) 5 (u8s (fz 0))∧Below w.heap.size w W1) :=
  hW1 ▸ ⟨((Blk.new w _ _).alloc _).alloc _,(Blk.new' sy rfl).alloc _,Blk.new' sy rfl,(((Below.refl _ w).alloc lr _).alloc sy _).alloc (by simp <;> omega) _⟩
 have hmk:=HMK.out
 go_enter Tryz.func123, Tryz.ntmps123
 go_wp2
 go_loopg [4] 32 (fun kk q wr=>∃i:Nat,kk=32-i∧q=.int .i64 (i:Int)∧i≤32∧Blk wr w.heap.size 196 (n8 a)∧Blk wr (w.heap.size+1) 196 o8∧Blk wr (w.heap.size+2) 5 (u8s (fz i))∧Below w.heap.size w wr)
 case atStart=>exact⟨0,rfl,rfl,by omega,hW1 ▸ HM0.out⟩
 case round =>
  clear HM0 hW1;obtain⟨i,hgk,rfl,hi,hA,hZ,hS,hE⟩:=hrel
  rcases Nat.lt_or_ge i 32 with hlt|hge
  · have hlt2:(i:Int)<32:=om
    have cc:wr.cell? ⟨w.heap.size+1+1,i,none⟩=some (.int .u8 (((fz i).getD i 0).toNat:Int)):=by
     refine(hS.cell i).trans ?_;rw[u8s_getElem?,gd9,ge9 (by rw[zk3];exact hlt)]
     rfl
    have ff:wr.frozen? ⟨w.heap.size+1+1,i,none⟩=false:=hS.frozen i;have HA:=qh (hA.far (p:=⟨w.heap.size+2,i,none⟩) sy (.int .u8 255));have HZ:=qh (hZ.far (p:=⟨w.heap.size+2,i,none⟩) sy (.int .u8 255));have HS:Hid (Blk (wr.setCell ⟨w.heap.size+2,i,none⟩ (.int .u8 255)) (w.heap.size+2) 5 (u8s (fz (i+1)))):=(zbg (fz i) i 255) ▸ hS.set_ i (.int .u8 255);have HE:=qh (hE.setCell (p:=⟨w.heap.size+2,i,none⟩) (Nat.le_add_right _ _) (.int .u8 255));clear hA hZ hS hE;go_wp2;go_roundg (32-(i+1))
    case measure=>omega
    case rel=>exact⟨i+1,rfl,by go_num,by omega,HA.out,HZ.out,HS.out,HE.out⟩
  · obtain rfl:i=32:=om
    have hlt2:¬(32:Int)<32:=om;have cc0:wr.cell? ⟨w.heap.size+1+1,0,none⟩=some (.int .u8 255):=(hS.cell 0).trans rfl;have ff0:wr.frozen? ⟨w.heap.size+1+1,0,none⟩=false:=hS.frozen 0;have hS1:=hS.set_ 0 (.int .u8 235);have cc1:(wr.setCell ⟨w.heap.size+1+1,0,none⟩ (.int .u8 235)).cell? ⟨w.heap.size+1+1,31,none⟩=some (.int .u8 255):=(hS1.cell 31).trans rfl;have ff1:(wr.setCell ⟨w.heap.size+1+1,0,none⟩ (.int .u8 235)).frozen? ⟨w.heap.size+1+1,31,none⟩=false:=hS1.frozen 31;have HS:Hid (Blk ((wr.setCell ⟨w.heap.size+1+1,0,none⟩ (.int .u8 235)).setCell ⟨w.heap.size+1+1,31,none⟩ (.int .u8 127)) (w.heap.size+2) 5 (u8s eP)):=hS1.set_ 31 (.int .u8 127);have HA:Hid (Blk ((wr.setCell ⟨w.heap.size+1+1,0,none⟩ (.int .u8 235)).setCell ⟨w.heap.size+1+1,31,none⟩ (.int .u8 127)) w.heap.size 196 (n8 a)):=(hA.far (p:=⟨w.heap.size+2,0,none⟩) sy (.int .u8 235)).far (p:=⟨w.heap.size+2,31,none⟩) sy (.int .u8 127);have HZ:Hid (Blk ((wr.setCell ⟨w.heap.size+1+1,0,none⟩ (.int .u8 235)).setCell ⟨w.heap.size+1+1,31,none⟩ (.int .u8 127)) (w.heap.size+1) 196 o8):=(hZ.far (p:=⟨w.heap.size+2,0,none⟩) sy (.int .u8 235)).far (p:=⟨w.heap.size+2,31,none⟩) sy (.int .u8 127);have HE:Hid (Below w.heap.size w ((wr.setCell ⟨w.heap.size+1+1,0,none⟩ (.int .u8 235)).setCell ⟨w.heap.size+1+1,31,none⟩ (.int .u8 127))):=(hE.setCell (p:=⟨w.heap.size+2,0,none⟩) (Nat.le_add_right _ _) (.int .u8 235)).setCell (p:=⟨w.heap.size+2,31,none⟩) (Nat.le_add_right _ _) (.int .u8 127)
    have HP:Hid (∀c,Calls Tryz.prog 154 #[.agg (n8 a).toArray,.slice (some ⟨w.heap.size+1+1,0,none⟩) 32 c] ((wr.setCell ⟨w.heap.size+1+1,0,none⟩ (.int .u8 235)).setCell ⟨w.heap.size+1+1,31,none⟩ (.int .u8 127)) fun e w'=>e=.returned (.agg (n8 (a^pE%pr)).toArray)∧Below ((wr.setCell ⟨w.heap.size+1+1,0,none⟩ (.int .u8 235)).setCell ⟨w.heap.size+1+1,31,none⟩ (.int .u8 127)).heap.size ((wr.setCell ⟨w.heap.size+1+1,0,none⟩ (.int .u8 235)).setCell ⟨w.heap.size+1+1,31,none⟩ (.int .u8 127)) w'):=fun c =>
     pE_eq ▸ rpow_n a _ c eP ((wr.setCell ⟨w.heap.size+1+1,0,none⟩ (.int .u8 235)).setCell ⟨w.heap.size+1+1,31,none⟩ (.int .u8 127)) ha (HS.out.rdA (by rw[eP,List.length_set,List.length_set,zk3]))
    have hld:=zas HA.out;clear hA hZ hS hE hS1 hgk hmk
    go_wp2_with (first
     | (go_at_call 154;(with_reducible refine(HP.out _).mono ?_);rintro e w4 ⟨rfl,hB1⟩;have HZ4:=qbl HZ hB1;have HE4:=qtr HE hB1;clear hB1)
     | (refine zab rfl 196 (.tmp 2) (.tmp 19) rfl (w.heap.size+1) (n8 (a^pE%pr)) rr rr 196 _ HZ4.out (by exact hdN8' _) (za3 _) (by rw[zap];rfl) ?_;intro w5 hb5 ho5;have HB5:=qh hb5;have HE5:=qh (ho5.below HE4.out om HE4.out.size);clear hb5 ho5))
    exact bodyPost_ret (zam rfl _ _ _ _ rfl HB5.out _ Tryz.underlying196 rfl (by exact hdN8' _)) rfl ⟨rfl,HE5.out⟩
theorem zj7:∀(k n q:Nat),q<k→(dig k n).getD q 0=n/4294967296^q%4294967296
 | 0,_,_,h=>by omega
 | k+1,n,0,_=>by simp[dig]
 | k+1,n,q+1,h=>by
  have ih:=zj7 k (n/4294967296) q om;rw[dig,List.getD_cons_succ,ih,Nat.div_div_eq_div_mul,Nat.pow_succ,Nat.mul_comm]
theorem zus(n i:Nat):n/4294967296^(i/4)%4294967296/2^(8*(i%4))%256=n/256^i%256:=by
 have h1:(256:Nat)^i=4294967296^(i/4)*2^(8*(i%4)):=by
  rw[show(256:Nat)=2^8 by rfl,show(4294967296:Nat)=2^32 by rfl,←Nat.pow_mul,←Nat.pow_mul,←Nat.pow_add]
  congr 1
  omega
 rw[h1,←Nat.div_div_eq_div_mul];obtain⟨m,hm⟩:=ex9 (n/4294967296^(i/4));rw[←hm];have h2:i%4<4:=Nat.mod_lt _ om;obtain⟨r,hr⟩:=ex9 (i%4);rw[←hr]at h2 ⊢;have:r=0∨r=1∨r=2∨r=3:=om
 rcases this with rfl|rfl|rfl|rfl <;> simp <;> omega
theorem zjl(n:Nat)(w:World)(hn:n<115792089237316195423570985008687907853269984665640564039457584007913129639936):
 Calls Tryz.prog 124 #[.agg (n8 n).toArray] w fun e w'=>e=.returned (.agg (u8s (leB (n%pr))).toArray)∧Below w.heap.size w w':=by
 have HB0:Hid (Blk ((w.alloc (.cells (n8 n).toArray 196)).alloc (.cells (u8s (List.replicate 32 0)).toArray 23)) w.heap.size 196 (n8 n)∧Blk ((w.alloc (.cells (n8 n).toArray 196)).alloc (.cells (u8s (List.replicate 32 0)).toArray 23)) (w.heap.size+1) 23 (u8s (List.replicate 32 0))∧Below w.heap.size w ((w.alloc (.cells (n8 n).toArray 196)).alloc (.cells (u8s (List.replicate 32 0)).toArray 23))) :=
  ⟨(Blk.new w _ _).alloc _,Blk.new' sy rfl,((Below.refl _ w).alloc lr _).alloc sy _⟩
 have hl0:∀o,(ldAt 196 (.pointer (some ⟨w.heap.size,0,none⟩))).run Tryz.prog ((w.alloc (.cells (n8 n).toArray 196)).alloc o)=.ok (.agg (n8 n).toArray) ((w.alloc (.cells (n8 n).toArray 196)).alloc o):=fun o=>zas ((Blk.new w _ _).alloc o)
 have HN:=qh (fun W=>zd9 n hn W);obtain⟨V,hV⟩:=ex9 (n%pr);rw[←hV]at HN ⊢;clear hV hn
 go_enter Tryz.func124, Tryz.ntmps124
 go_upto_region 2 with (first
  | (go_at_call 151;(with_reducible refine(HN.out _).mono ?_);rintro e w1 ⟨rfl,hB⟩;have HA1:=qh (HB0.out.1.below hB HB0.out.1.lt);have HZ1:=qh (HB0.out.2.1.below hB HB0.out.2.1.lt);have HE1:=qh (HB0.out.2.2.trans (hB.mono HB0.out.2.2.size));clear hB)
  | (refine zab rfl 196 (.tmp 1) (.tmp 6) rfl w.heap.size (n8 V) rr rr 196 _ HA1.out (by exact hdN8' _) (za3 _) (by rw[zap,zap]) ?_;intro w2 hb2 ho2))
 have HA2:=qh hb2;have HZ2:=qh (ho2.blk HZ1.out om);have HE2:=qh (ho2.below HE1.out lr HE1.out.size);have HG:Hid (w.heap.size+1<w2.heap.size):=HZ2.out.lt;have HS2:Hid (Blk (w2.alloc (.cells (u8s (List.replicate 32 0)).toArray 23)) w2.heap.size 23 (u8s (leBi V 0))):=Blk.new _ _ _;have HA3:=qh (HA2.out.alloc (.cells (u8s (List.replicate 32 0)).toArray 23));have HZ3:=qh (HZ2.out.alloc (.cells (u8s (List.replicate 32 0)).toArray 23));have HE3:=qh (HE2.out.alloc HE2.out.size (.cells (u8s (List.replicate 32 0)).toArray 23));clear hb2 ho2 hl0 HB0 HA1 HZ1 HE1 HN HA2 HZ2 HE2;go_wp2
 go_loopg [4] 32 (fun kk q wr=>∃i:Nat,kk=32-i∧q=.int .i64 (i:Int)∧i≤32∧Blk wr w.heap.size 196 (n8 V)∧Blk wr (w.heap.size+1) 23 (u8s (List.replicate 32 0))∧Blk wr w2.heap.size 23 (u8s (leBi V i))∧Below w.heap.size w wr)
 case atStart=>exact⟨0,rfl,rfl,by omega,HA3.out,HZ3.out,HS2.out,HE3.out⟩
 case round =>
  clear HA3 HZ3 HE3 HS2;obtain⟨i,hgk,rfl,hi,hA,hZ,hS,hE⟩:=hrel
  rcases Nat.lt_or_ge i 32 with hlt|hge
  · have hlt2:(i:Int)<32:=om
    have cc:wr.cell? ⟨w2.heap.size,i,none⟩=some (.int .u8 (((leBi V i).getD i 0).toNat:Int)):=by
     refine(hS.cell i).trans ?_;rw[u8s_getElem?,gd9,ge9 (by rw[zgl];exact hlt)]
     rfl
    have ff:wr.frozen? ⟨w2.heap.size,i,none⟩=false:=hS.frozen i;obtain⟨q,hq⟩:=ex9 (i/4);obtain⟨r,hr⟩:=ex9 (i%4);obtain⟨s,hs⟩:=ex9 (8*r);obtain⟨L,hL⟩:=ex9 (V/4294967296^q%4294967296);have cl:wr.cell? ⟨w.heap.size,q,none⟩=some (.int .u32 (L:Int)):=(hA.cell q).trans ((zb3 (by rw[zch];omega)).trans (by rw[zj7 8 V q om,←hL]));have hqi:(i:Int)/4=(q:Int):=om;have hri:(i:Int)%4=(r:Int):=om;have hsi:(8:Int)*(r:Int)=(s:Int):=om;have hq8:(q:Int)<8:=om;have hr4:(r:Int)<4:=om;have hs32:(s:Int)<32:=om;obtain⟨y,hyd⟩:=ex9 (L/2^s);have hy:(L:Int)/2^s=(y:Int):=by rw[hyd];push_cast;rfl
    have HY:Hid (UInt8.ofNat (V/256^i)=UInt8.ofNat y):=by
     show _=_
     apply UInt8.toNat_inj.1
     rw[UInt8.toNat_ofNat',UInt8.toNat_ofNat',hyd,hL,hs,hr,hq];exact(zus V i).symm
    have HGK:=qh hgk;have hg:=HG.out;have HA:=qh (hA.far (p:=⟨w2.heap.size,i,none⟩) (by show w.heap.size≠w2.heap.size;omega) (.int .u8 ((y:Int)%256)));have HZ:=qh (hZ.far (p:=⟨w2.heap.size,i,none⟩) (by show w.heap.size+1≠w2.heap.size;omega) (.int .u8 ((y:Int)%256)))
    have HS:Hid (Blk (wr.setCell ⟨w2.heap.size,i,none⟩ (.int .u8 ((y:Int)%256))) w2.heap.size 23 (u8s (leBi V (i+1)))):=by
     have h1:=hS.set_ i (.int .u8 ((y:Int)%256));rw[show((y:Int)%256)=((UInt8.ofNat (V/256^i)).toNat:Int) by rw[HY.out,UInt8.toNat_ofNat'];omega,zbg]at h1;rw[show((y:Int)%256)=((UInt8.ofNat (V/256^i)).toNat:Int) by rw[HY.out,UInt8.toNat_ofNat'];omega];exact h1
    have HE:=qh (hE.setCell (p:=⟨w2.heap.size,i,none⟩) (by show w.heap.size≤w2.heap.size;omega) (.int .u8 ((y:Int)%256)));clear hA hZ hS hE hgk hyd hL hs hr hq hg;go_wp2;go_roundg (32-(i+1))
    case measure=>have:=HGK.out;omega
    case rel=>exact⟨i+1,rfl,by go_num,by omega,HA.out,HZ.out,HS.out,HE.out⟩
  · obtain rfl:i=32:=om
    have hlt2:¬((32:Nat):Int)<32:=om;rw[znj]at hS;have hld:(ldAt 23 (.pointer (some ⟨w2.heap.size,0,none⟩))).run Tryz.prog wr=.ok (.agg (u8s (leB V)).toArray) wr:=zat hS 23 0 (u8s (leB V)) rfl _ Tryz.underlying23 rfl (by exact hd32);have HZ:=qh hZ;have HE:=qh hE;clear hA hZ hS hE hgk
    go_wp2_with (refine zab rfl 23 (.tmp 2) (.tmp 22) rfl (w.heap.size+1) (u8s (leB V)) rr rr 23 _ HZ.out (by exact hd32) (zac _) rr ?_;intro w5 hb5 ho5;have HB5:=qh hb5;have HE5:=qh (ho5.below HE.out (Nat.le_succ _) HE.out.size);clear hb5 ho5)
    exact bodyPost_ret (zam rfl _ _ _ _ rfl HB5.out _ Tryz.underlying23 rfl (by exact hd32)) rfl ⟨rfl,HE5.out⟩
end
section
theorem zrn(l:List UInt8):leNat l=leN l:=by
 induction l with
 | nil=>rfl
 | cons c l ih =>
  have h1:leN (c :: l)=c.toNat+256*leN l:=rfl;rw[h1,←ih]
  unfold leNat
  rw[List.reverse_cons]
  have:∀(m:List UInt8) (x:UInt8),beNat (m++[x])=beNat m*256+x.toNat:=by
   intro m x
   simp[beNat]
  rw[this];omega
theorem zt1(us:List UInt8)(i:Nat)(h:4*i+4≤us.length):leN (us.take (4*(i+1)))=leN (us.take (4*i))+leN ((us.drop (4*i)).take 4)*4294967296^i:=by
 have h1:us.take (4*(i+1))=us.take (4*i)++(us.drop (4*i)).take 4:=by
  rw[show 4*(i+1)=4*i+4 by omega,List.take_add]
 have h2:leN (us.take (4*i)++(us.drop (4*i)).take 4)=leN (us.take (4*i))+256^(us.take (4*i)).length*leN ((us.drop (4*i)).take 4):=by
  have:=zfa 256 ((us.take (4*i)++(us.drop (4*i)).take 4).map (·.toNat)) (us.take (4*i)).length sy;simp only[leN];rw[this,←List.map_take,←List.map_drop,List.take_left,List.drop_left]
 rw[h1,h2,List.length_take,Nat.min_eq_left om,Nat.mul_comm (256^(4*i)),Nat.pow_mul]
theorem n8_cut(V:Nat):(dig 8 V).set 7 ((dig 8 V).getD 7 0%2147483648)=dig 8 (V%57896044618658097711785492504343953926634992332820282019728792003956564819968):=by
 rw[zj7 8 V 7 om];simp only[dig,List.set_cons_succ,List.set_cons_zero,List.cons.injEq,and_true,Nat.reducePow];refine⟨?_,?_,?_,?_,?_,?_,?_,?_⟩ <;> omega
attribute [local go_sem ↓] zd5
theorem zp7(A:Option Addr)(c:Nat)(us:List UInt8)(w:World)(h:Rd w A 32 (u8s us)):
 Calls Tryz.prog 119 #[.slice A 32 c] w fun e w'=>e=.returned (.tuple #[.agg (n8 (readN us)).toArray,.int .i64 0])∧Below w.heap.size w w':=by
 have HR:=qh h;have HL:=qh h.len
 have HB0:Hid (Blk ((w.alloc (.cells o8.toArray 196)).alloc (.cells o8.toArray 196)) w.heap.size 196 o8∧Blk ((w.alloc (.cells o8.toArray 196)).alloc (.cells o8.toArray 196)) (w.heap.size+1) 196 (u32d ([]++List.replicate (8-0) 0))∧Below w.heap.size w ((w.alloc (.cells o8.toArray 196)).alloc (.cells o8.toArray 196))) :=
  ⟨(Blk.new w _ _).alloc _,Blk.new' sy rfl,((Below.refl _ w).alloc lr _).alloc sy _⟩
 clear h
 go_enter Tryz.func119, Tryz.ntmps119
 go_wp2
 go_loopg [5] 8 (fun kk q wr=>∃(i:Nat) (ds:List Nat),kk=8-i∧q=.int .i64 (i:Int)∧i≤8∧ds.length=i∧(∀x∈ds,x<4294967296)∧numL 4294967296 ds=leN (us.take (4*i))∧Blk wr w.heap.size 196 o8∧Blk wr (w.heap.size+1) 196 (u32d (ds++List.replicate (8-i) 0))∧Below w.heap.size w wr)
 case atStart=>exact⟨0,[],rfl,rfl,by omega,rfl,by simp,by rw[Nat.mul_zero,List.take_zero];rfl,HB0.out⟩
 case round =>
  clear HB0;obtain⟨i,ds,hgk,rfl,hi,hds,hdl,hnum,hZ,hO,hE⟩:=hrel
  rcases Nat.lt_or_ge i 8 with hlt|hge
  · have hlt2:(i:Int)<8:=om
    obtain⟨k,hk⟩:=ex9 (4*i);have hki:(4:Int)*(i:Int)=(k:Int):=om;obtain⟨d,hd⟩:=ex9 (leNat ((us.drop k).take 4))
    have hd32:d<4294967296:=by
     have h1:=zni ((us.drop k).take 4);rw[List.length_take,List.length_drop,HL.out,show min 4 (32-k)=4 by omega]at h1;rw[hd];exact h1
    have HG:Hid (Calls Tryz.prog 150 #[.int .i64 1,.slice A 32 c,.int .i64 (k:Int),.int .i64 4] wr fun e w'=>e=.returned (.tuple #[.int .u64 (d:Int),.int .i64 0])∧wr=w'):=hd ▸ zva A 32 c k 4 us wr (HR.out.below hE) om om om om;have cz:wr.cell? ⟨w.heap.size+1,i,none⟩=some (.int .u32 (((ds++List.replicate (8-i) 0).getD i 0:Nat):Int)):=(hO.cell i).trans (zb3 (by simp;omega));have fz:wr.frozen? ⟨w.heap.size+1,i,none⟩=false:=hO.frozen i;have hdm:(d:Int)%4294967296=(d:Int):=om
    have HST:Hid (numL 4294967296 (ds++[d])=leN (us.take (4*(i+1)))):=(by
     show _=_
     rw[zdd,hds,hnum,zt1 us i (by rw[HL.out];omega),hd,zrn,hk])
    have HDL:=qh (zfm hdl hd32);have HDS:Hid ((ds++[d]).length=i+1):=by show _=_;simp[hds]
    have HGK:=qh hgk;have HZ:=qh (hZ.far (p:=⟨w.heap.size+1,i,none⟩) (by show w.heap.size≠w.heap.size+1;omega) (.int .u32 (d:Int)))
    have HO:Hid (Blk (wr.setCell ⟨w.heap.size+1,i,none⟩ (.int .u32 (d:Int))) (w.heap.size+1) 196 (u32d ((ds++[d])++List.replicate (8-(i+1)) 0))):=by
     have h1:=hO.set_ i (.int .u32 (d:Int));rw[zgb,zet ds i 8 d hds hlt]at h1;exact h1
    have HE:=qh (hE.setCell (p:=⟨w.heap.size+1,i,none⟩) (by show w.heap.size≤w.heap.size+1;omega) (.int .u32 (d:Int)));clear hZ hO hE hgk hnum hds hdl hd hk
    go_wp2_with (go_at_call 150;(with_reducible refine HG.out.mono ?_);rintro e w1 ⟨rfl,rfl⟩)
    go_roundg (8-(i+1))
    case measure=>have:=HGK.out;omega
    case rel=>exact⟨i+1,ds++[d],rfl,by go_num,by omega,HDS.out,HDL.out,HST.out,HZ.out,HO.out,HE.out⟩
  · obtain rfl:i=8:=om
    have hlt2:¬((8:Nat):Int)<8:=om;rw[tk (by rw[HL.out];omega)]at hnum;rw[show 8-8=0 by omega,List.replicate_zero,List.append_nil,n8_of hds hdl,hnum]at hO;obtain⟨V,hV⟩:=ex9 (leN us);rw[←hV]at hO;obtain⟨d7,hd7⟩:=ex9 ((dig 8 V).getD 7 0);have c7:wr.cell? ⟨w.heap.size+1,7,none⟩=some (.int .u32 (d7:Int)):=(hO.cell 7).trans (hd7 ▸ zb3 (by rw[zch];omega));have f7:wr.frozen? ⟨w.heap.size+1,7,none⟩=false:=hO.frozen 7
    have HO:Hid (Blk (wr.setCell ⟨w.heap.size+1,7,none⟩ (.int .u32 ((d7:Int)%2147483648))) (w.heap.size+1) 196 (n8 (V%57896044618658097711785492504343953926634992332820282019728792003956564819968))):=by
     have h1:=hO.set_ 7 (.int .u32 ((d7:Int)%2147483648));rw[n8,show(d7:Int)%2147483648=((d7%2147483648:Nat):Int) by omega,zgb,hd7,n8_cut V]at h1;rw[show(d7:Int)%2147483648=((d7%2147483648:Nat):Int) by omega,hd7];exact h1
    have HZ:=qh (hZ.far (p:=⟨w.heap.size+1,7,none⟩) (by show w.heap.size≠w.heap.size+1;omega) (.int .u32 ((d7:Int)%2147483648)));have HE:=qh (hE.setCell (p:=⟨w.heap.size+1,7,none⟩) (by show w.heap.size≤w.heap.size+1;omega) (.int .u32 ((d7:Int)%2147483648)));have hld:=zas HO.out;have HNO:=qh (fun W=>zd9 (V%57896044618658097711785492504343953926634992332820282019728792003956564819968) om W);have HV:=qh hV;clear hZ hO hE hgk hnum hds hdl hV hd7
    go_wp2_with (first
     | (go_at_call 151;(with_reducible refine(HNO.out _).mono ?_);rintro e w4 ⟨rfl,hB1⟩;have HZ4:=qbl HZ hB1;have HE4:=qtr HE hB1;clear hB1)
     | (refine zab rfl 196 (.tmp 2) (.tmp 32) rfl w.heap.size (n8 (V%57896044618658097711785492504343953926634992332820282019728792003956564819968%pr)) rr rr 196 _ HZ4.out (by exact hdN8' _) (za3 _) (by rw[zap];rfl) ?_;intro w5 hb5 ho5;have HB5:=qh hb5;have HE5:=qh (ho5.below HE4.out lr HE4.out.size);clear hb5 ho5))
    exact bodyPost_ret (zaj rfl _ _ _ _ rfl HB5.out _ Tryz.underlying196 rfl (by exact hdN8' _)) rfl ⟨by rw[readN,HV.out];rfl,HE5.out⟩
end
section
theorem cl_q:∀n,n<256→(n &&& 248)=n/8*8:=by decide
theorem cl_r:∀n,n<256→(n &&& 127 ||| 64)=n%64+64:=by decide
attribute [local go_sem ↓] zcg
theorem zth(A:Option Addr)(n c:Nat)(ks:List UInt8)(w:World)(h:Rd w A n (u8s ks))(hn:n=32):
 Calls Tryz.prog 118 #[.slice A n c] w fun e w'=>e=.returned (.tuple #[.agg (u8s (clampB ks)).toArray,.int .i64 0])∧Below w.heap.size w w':=by
 have HR:=qh h;have HL:=qh h.len
 have HM0:Hid (Blk ((w.alloc (.cells (u8s (List.replicate 32 0)).toArray 23)).alloc (.cells (u8s (List.replicate 32 0)).toArray 23)) w.heap.size 23 (u8s (List.replicate 32 0))∧Blk ((w.alloc (.cells (u8s (List.replicate 32 0)).toArray 23)).alloc (.cells (u8s (List.replicate 32 0)).toArray 23)) (w.heap.size+1) 23 (u8s (List.replicate 32 0))∧Below w.heap.size w ((w.alloc (.cells (u8s (List.replicate 32 0)).toArray 23)).alloc (.cells (u8s (List.replicate 32 0)).toArray 23))) :=
  ⟨(Blk.new w _ _).alloc _,Blk.new' sy rfl,((Below.refl _ w).alloc lr _).alloc sy _⟩
 have hn2:(n:Int)=32:=om;clear h
 go_enter Tryz.func118, Tryz.ntmps118
 go_upto_region 5 with (refine za6 rfl (.tmp 9) (.tmp 10) 22 rfl 5 Tryz.underlying22 zbv (w.heap.size+1) 0 32 32 rr A _ c rr 23 _ (by exact HM0.out.2.1) (u8s ks) (by first|exact(HR.out.alloc _).alloc _|exact hn ▸ (HR.out.alloc _).alloc _) (zac _) (by simp[zaa]) ?_;intro w2 hb2 ho2)
 have hlen:ks.length=32:=by rw[HL.out,hn]
 have hsp:splice (u8s (List.replicate 32 0)) 0 ((u8s ks).take 32)=u8s ks:=by
  rw[tk (by rw[zaa];omega),zao _ _ (by rw[zaa,zaa,hlen];rfl)]
 rw[hsp]at hb2;have HZ:=qh (ho2.blk HM0.out.1 om);have HE:=qh (ho2.below HM0.out.2.2 om HM0.out.2.2.size);have HLn:=qh hlen;have HB:=qh hb2;clear hsp hlen hb2 ho2 HM0 HR hn;obtain⟨x,hx⟩:=ex9 (ks.getD 0 0);obtain⟨y,hy⟩:=ex9 (ks.getD 31 0)
 have hc:w2.cell? ⟨w.heap.size+1,0,none⟩=some (.int .u8 ((x.toNat:Nat):Int)):=by
  refine(HB.out.cell 0).trans ?_;rw[u8s_getElem?,hx,gd9,ge9 (by rw[HLn.out];omega)];rfl
 have hf:w2.frozen? ⟨w.heap.size+1,0,none⟩=false:=HB.out.frozen 0;obtain⟨x2,hx2⟩:=ex9 (x &&& UInt8.ofNat 248);obtain⟨d8,hd8⟩:=ex9 (x.toNat/8);have hq8:(x.toNat:Int)/8=(d8:Int):=om
 have hm8:(d8:Int)*8=(x2.toNat:Int):=by
  have h1:x2.toNat=x.toNat/8*8:=by rw[hx2,UInt8.toNat_and];exact cl_q x.toNat x.toNat_lt
  omega
 have hx8:(x2.toNat:Int)<256:=by have:=x2.toNat_lt;omega
 have HX2:=qh hx2;clear hx2 hd8;have HX:=qh hx;have HY:=qh hy;clear hx hy
 go_upto_region 6 with (fail)
 obtain⟨w3,hw3⟩:=ex9 (w2.setCell ⟨w.heap.size+1,0,none⟩ (.int .u8 (x2.toNat:Int)));have HB3:Hid (Blk w3 (w.heap.size+1) 23 (u8s (ks.set 0 x2))):=hw3 ▸ (zbg ks 0 x2) ▸ HB.out.set_ 0 _;have HZ3:Hid (Blk w3 w.heap.size 23 (u8s (List.replicate 32 0))):=hw3 ▸ HZ.out.far (by show w.heap.size≠w.heap.size+1;omega) _;have HE3:Hid (Below w.heap.size w w3):=hw3 ▸ HE.out.setCell (by show w.heap.size≤w.heap.size+1;omega) _;rw[←hw3];clear hw3 hc hf hq8 hm8 hx8 HB HZ HE
 have hc:w3.cell? ⟨w.heap.size+1,31,none⟩=some (.int .u8 ((y.toNat:Nat):Int)):=by
  refine(HB3.out.cell 31).trans ?_;rw[u8s_getElem?,List.getElem?_set_ne om,HY.out,gd9,ge9 (by rw[HLn.out];omega)];rfl
 have hf:w3.frozen? ⟨w.heap.size+1,31,none⟩=false:=HB3.out.frozen 31;obtain⟨y3,hy3⟩:=ex9 (y &&& UInt8.ofNat 127 ||| UInt8.ofNat 64);obtain⟨r6,hr6⟩:=ex9 (y.toNat%64);have hq6:(y.toNat:Int)%64=(r6:Int):=om
 have hm6:(r6:Int)+64=(y3.toNat:Int):=by
  have h1:y3.toNat=y.toNat%64+64:=by rw[hy3,UInt8.toNat_or,UInt8.toNat_and];exact cl_r y.toNat y.toNat_lt
  omega
 have hy8:(y3.toNat:Int)<256:=by have:=y3.toNat_lt;omega
 have HY3:=qh hy3;clear hy3 hr6
 go_upto_region 7 with (fail)
 obtain⟨w5,hw5⟩:=ex9 (w3.setCell ⟨w.heap.size+1,31,none⟩ (.int .u8 (y3.toNat:Int)))
 have HB5:Hid (Blk w5 (w.heap.size+1) 23 (u8s (clampB ks))):=by
  have h1:=HB3.out.set_ 31 (.int .u8 (y3.toNat:Int));rw[←hw5,zbg,HY3.out,HX2.out,HX.out,HY.out]at h1;exact h1
 have HZ5:Hid (Blk w5 w.heap.size 23 (u8s (List.replicate 32 0))):=hw5 ▸ HZ3.out.far (by show w.heap.size≠w.heap.size+1;omega) _;have HE5:Hid (Below w.heap.size w w5):=hw5 ▸ HE3.out.setCell (by show w.heap.size≤w.heap.size+1;omega) _;rw[←hw5];clear hw5 hc hf hq6 hm6 hy8 HB3 HZ3 HE3;have hcl:(clampB ks).length=32:=by rw[zdt,HLn.out]
 have hld:(ldAt 23 (.pointer (some ⟨w.heap.size+1,0,none⟩))).run Tryz.prog w5=.ok (.agg (u8s (clampB ks)).toArray) w5:=zat HB5.out 23 0 (u8s (clampB ks)) (by rw[List.drop_zero];exact tk lr) _ Tryz.underlying23 rfl (by rw[zaa,hcl];exact hd32);have HCL:=qh hcl;clear hcl
 go_wp2_with (refine zab rfl 23 (.tmp 2) (.tmp 22) rfl w.heap.size (u8s (clampB ks)) rr rr 23 _ HZ5.out (by rw[zaa,HCL.out];exact hd32) (zac _) (by rw[zaa,zaa,HCL.out];rfl) ?_;intro w6 hb6 ho6;have HB6:=qh hb6;have HE6:=qh (ho6.below HE5.out lr HE5.out.size);clear hb6 ho6)
 exact bodyPost_ret (zaj rfl _ _ _ _ rfl HB6.out _ Tryz.underlying23 rfl (by rw[zaa,HCL.out];exact hd32)) rfl ⟨rfl,HE6.out⟩
end
end Go.Proofs.YtpgpaenloaphaaaGreat
