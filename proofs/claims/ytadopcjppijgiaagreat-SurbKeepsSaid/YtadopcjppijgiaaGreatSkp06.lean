/- Part of the proof. -/
import Derived.Test.YtadopcjppijgiaaGreatSkp04
set_option linter.all false
set_option maxRecDepth 100000
set_option maxHeartbeats 0
namespace Go.Proofs.YtadopcjppijgiaaGreat
open Go.RowKit
section
theorem zxu(x:UInt32)(w:World):Calls Tryz.prog 163 #[.int .u32 (n32 x),.int .i64 16] w fun e w'=>e=.returned (.int .u32 (n32 (Sh.rotr x 16)))∧w=w':=zfd x 16 16 w (by decide) om om
theorem zxv(x:UInt32)(w:World):Calls Tryz.prog 163 #[.int .u32 (n32 x),.int .i64 12] w fun e w'=>e=.returned (.int .u32 (n32 (Sh.rotr x 20)))∧w=w':=zfd x 12 12 w (by decide) om om
theorem rotl_8(x:UInt32)(w:World):Calls Tryz.prog 163 #[.int .u32 (n32 x),.int .i64 8] w fun e w'=>e=.returned (.int .u32 (n32 (Sh.rotr x 24)))∧w=w':=zfd x 8 8 w (by decide) om om
theorem rotl_7(x:UInt32)(w:World):Calls Tryz.prog 163 #[.int .u32 (n32 x),.int .i64 7] w fun e w'=>e=.returned (.int .u32 (n32 (Sh.rotr x 25)))∧w=w':=zfd x 7 7 w (by decide) om om
def q4(q:UInt32 × UInt32 × UInt32 × UInt32):Value:=.tuple #[.int .u32 (n32 q.1),.int .u32 (n32 q.2.1),.int .u32 (n32 q.2.2.1),.int .u32 (n32 q.2.2.2)]
attribute [local go_sem] zed zj4 zoa zee zem
theorem zmi(a b c d:UInt32)(w:World):
 Calls Tryz.prog 156 #[.int .u32 (n32 a),.int .u32 (n32 b),.int .u32 (n32 c),.int .u32 (n32 d)] w fun e w'=>e=.returned (q4 (Ch.quarter a b c d))∧w=w':=by
 go_enter Tryz.func156, Tryz.ntmps156
 go_wp2_with (go_at_call 163;(first|(with_reducible refine(zxu _ _).mono ?_)| (with_reducible refine(zxv _ _).mono ?_)| (with_reducible refine(rotl_8 _ _).mono ?_)| (with_reducible refine(rotl_7 _ _).mono ?_));rintro e w' ⟨rfl,rfl⟩)
 exact bodyPost_ret (v:=q4 (Ch.quarter a b c d)) (by simp[results,Tryz.results156,go_sem];rfl) rfl ⟨rfl,rfl⟩
theorem zy1(a b c d:UInt8):bits .or .u32 (bits .or .u32 (bits .or .u32 (a.toNat:Int) ((b.toNat:Int)*256)) ((c.toNat:Int)*65536)) ((d.toNat:Int)*16777216)=n32 (Ch.le32 a b c d):=by
 have ha:=a.toNat_lt;have hb:=b.toNat_lt;have hc:=c.toNat_lt;have hd:=d.toNat_lt
 have e1:bits .or .u32 (a.toNat:Int) ((b.toNat:Int)*256)=((b.toNat*256+a.toNat:Nat):Int):=by
  refine(u32_or_nat (a.toNat) (b.toNat*256) om om).trans ?_;rw[Nat.or_comm,nat_join 8 _ _ om om]
 have e2:bits .or .u32 ((b.toNat*256+a.toNat:Nat):Int) ((c.toNat:Int)*65536)=((c.toNat*65536+(b.toNat*256+a.toNat):Nat):Int):=by
  refine(u32_or_nat (b.toNat*256+a.toNat) (c.toNat*65536) om om).trans ?_;rw[Nat.or_comm,nat_join 16 _ _ om om]
 rw[e1,e2];refine(u32_or_nat (c.toNat*65536+(b.toNat*256+a.toNat)) (d.toNat*16777216) om om).trans ?_;rw[Nat.or_comm,nat_join 24 _ _ om om]
 unfold n32 Ch.le32 Sh.be32
 rw[UInt32.toNat_ofNat']
 congr 1
 omega
theorem znh(A:Option Addr)(n c:Nat)(l:List UInt8)(k:Nat)(w:World)(h:Rd w A n (u8s l))(hk:4*k+4≤n)(hn:n≤1000000):
 Calls Tryz.prog 155 #[.slice A n c,.int .i64 (4*(k:Int))] w fun e w'=>e=.returned (.int .u32 (n32 (Ch.word l k)))∧∃q,w'=w.drewN q:=by
 obtain⟨b,M,x0,rfl,J,G,c0⟩:=h.u8 (k:=4*k) om;obtain⟨_,_,x1,e1,_,I,c1⟩:=h.u8 (k:=4*k+1) om
 cases e1
 obtain⟨_,_,x2,e2,_,E,c2⟩:=h.u8 (k:=4*k+2) om
 cases e2
 obtain⟨_,_,x3,e3,_,D,c3⟩:=h.u8 (k:=4*k+3) om
 cases e3
 have b0:=x0.toNat_lt;have b1:=x1.toNat_lt;have b2:=x2.toNat_lt;have b3:=x3.toNat_lt;have HE:=qh (zy1 x0 x1 x2 x3)
 have HW:Hid (Ch.word l k=Ch.le32 x0 x1 x2 x3):=by
  show _=_
  unfold Ch.word
  simp only[List.getD_eq_getElem?_getD,G.o,I.o,E.o,D.o,Option.getD_some]
 have HR:=qh h;obtain⟨m,hm⟩:=ex9 (4*k);have r:4*(k:Int)=(m:Int):=om;rw[←hm]at c0 c1 c2 c3 hk;rw[r];clear hm r h
 go_enter Tryz.func155, Tryz.ntmps155
 go_wp2_with fail
 go_quiet (fail)
 go_wp2_with fail
 go_ret;exact⟨by rw[HW.o,←HE.o];rfl,_,rfl⟩
end
theorem hd184:(Tryz.prog.info? 232).map (·.size)=some 16:=by kernel_rfl
theorem Below.drewM{B:Nat}{w w':World}(h:Below B w w')(n:Nat):Below B w (w'.drewN n):=⟨h.os,h.tape,h.output,h.size,h.block⟩
theorem zg9{l:List UInt32}{N k:Nat}(hk:k<N)(hl:l.length≤N):∃v,(row32 l N)[k]? = some v:=⟨_,ge9 (by rw[zfc _ _ hl];exact hk)⟩
theorem zm1(A B:Option Addr)(c d:Nat)(D r:List UInt8)(E:UInt32)(w:World)(h:Rd w A 32 (u8s D))(h2:Rd w B 12 (u8s r)):
 Calls Tryz.prog 144 #[.slice A 32 c,.slice B 12 d,.int .u32 (n32 E)] w fun e w'=>e=.returned (.agg (u32s (Ch.initial D r E)).toArray)∧Below w.heap.size w w':=by
 have HI:Hid ((Tryz.prog.info? 232).map (·.size)=some (u32s (Ch.initial D r E)).length):=by rw[za4,Ch.initial_len];exact hd184
 have HL:Hid ((u32s (Ch.initial D r E)).length=16):=by show _=_;rw[za4,Ch.initial_len]
 have H1:Hid (∀v∈u32s (Ch.initial D r E),v.oneCell'=true):=zbc _
 go_enter Tryz.func144, Tryz.ntmps144
 go_wp2_with fail
 go_loopg [8] 8 (fun k q wr=>∃i:Nat,i≤8∧k=8-i∧q=.int .i64 i∧Blk wr (w.heap.size+1) 232 (row32 (Ch.sigma++Ch.words D i) 16)∧Blk wr w.heap.size 232 (row32 [] 16)∧Below w.heap.size w wr)
 case atStart=>exact⟨0,by omega,rfl,rfl,Blk.new' sy rfl,(Blk.new' rfl rfl).alloc _,((Below.refl _ _).alloc lr _).alloc sy _⟩
 case round =>
  obtain⟨i,hi,a1,rfl,hb,hz,hB⟩:=hrel;have Y:=qh a1;clear a1
  by_cases hlt:i<8
  · have HW:=qh (fun W (hr:Rd W A 32 (u8s D))=>znh A 32 c D i W hr om om)
    have V:(Ch.sigma++Ch.words D i).length=4+i:=by rw[la9,Ch.words_len];rfl
    obtain⟨v,hv⟩:=zg9 (l:=Ch.sigma++Ch.words D i) (N:=16) (k:=4+i) om om;have HV:=qh hv
    have a0:Hid ((row32 (Ch.sigma++Ch.words D i) 16).set (4+i) (.int .u32 (n32 (Ch.word D i)))=row32 (Ch.sigma++Ch.words D (i+1)) 16):=by
     have:=zdz (Ch.sigma++Ch.words D i) 16 (Ch.word D i) om;rw[V,as9]at this;exact this
    have HB:=qh hb;have HZ:=qh hz;have G:=qh hB;have i0:(0:Int)≤4+(i:Int):=om;have i1:(4+(i:Int))<16:=om;have c0:=(hb.cell (4+i)).trans hv;have f0:=hb.frozen (4+i);have X:=hb.lt;clear hb hz hB hv V
    go_wp2_with (go_at_call 155;(with_reducible refine(HW.o _ (by exact h.below G.o)).mono ?_);rintro e w2 ⟨rfl,q,rfl⟩)
    have I:=qh (HB.o.set_ (4+i) (.int .u32 (n32 (Ch.word D i))));rw[a0.o]at I;have J:=qh (HZ.o.far (p:=⟨w.heap.size+1,4+i,none⟩) (by show w.heap.size≠w.heap.size+1;omega) (.int .u32 (n32 (Ch.word D i))));have M:=qh (G.o.setCell (p:=⟨w.heap.size+1,4+i,none⟩) (by show w.heap.size≤w.heap.size+1;omega) (.int .u32 (n32 (Ch.word D i))));go_roundg (8-(i+1))
    case measure=>have:=Y.o;omega
    case rel=>exact⟨i+1,by omega,rfl,by go_num,I.o.drewN q,J.o.drewN q,Below.drewM M.o q⟩
  · obtain rfl:i=8:=om
    clear Y hlt hi;obtain⟨v,hv⟩:=zg9 (l:=Ch.sigma++Ch.words D 8) (N:=16) (k:=12) om (by rw[la9,Ch.words_len];decide);have c0:=(hb.cell 12).trans hv;have f0:=hb.frozen 12;have X:=hb.lt;have I:=hb.set_ 12 (.int .u32 (n32 E));have J:=hz.far (p:=⟨w.heap.size+1,12,none⟩) (by show w.heap.size≠w.heap.size+1;omega) (.int .u32 (n32 E));have M:=hB.setCell (p:=⟨w.heap.size+1,12,none⟩) (by show w.heap.size≤w.heap.size+1;omega) (.int .u32 (n32 E))
    have a4:(row32 (Ch.sigma++Ch.words D 8) 16).set 12 (.int .u32 (n32 E))=row32 (Ch.sigma++(Ch.words D 8++(E :: Ch.words r 0))) 16:=by
     have:=zdz (Ch.sigma++Ch.words D 8) 16 E (by rw[la9,Ch.words_len];decide);rw[show(Ch.sigma++Ch.words D 8).length=12 by rw[la9,Ch.words_len];rfl,as9]at this;exact this
    rw[a4]at I;have HB:=qh I;have HZ:=qh J;have G:=qh M;clear hv hb hz hB I J M a4
    go_wp2_with fail
    clear c0 f0 X;obtain⟨w5,a3⟩:=ex9 (wr.setCell ⟨w.heap.size+1,12,none⟩ (.int .u32 (n32 E)));rw[←a3]at HB HZ G ⊢;clear a3
    go_loopg [9] 3 (fun k q wr=>∃i:Nat,i≤3∧k=3-i∧q=.int .i64 i∧Blk wr (w.heap.size+1) 232 (row32 (Ch.sigma++(Ch.words D 8++(E :: Ch.words r i))) 16)∧Blk wr w.heap.size 232 (row32 [] 16)∧Below w.heap.size w wr)
    case atStart=>exact⟨0,by omega,rfl,rfl,HB.o,HZ.o,G.o⟩
    case round =>
     clear HB HZ G;obtain⟨i,hi,a1,rfl,hb,hz,hB⟩:=hrel;have Y:=qh a1;clear a1
     by_cases hlt:i<3
     · have HW:=qh (fun W (hr:Rd W B 12 (u8s r))=>znh B 12 d r i W hr om om)
       have V:(Ch.sigma++(Ch.words D 8++(E :: Ch.words r i))).length=13+i:=by simp[Ch.words_len,Ch.sigma];omega
       obtain⟨v,hv⟩:=zg9 (l:=Ch.sigma++(Ch.words D 8++(E :: Ch.words r i))) (N:=16) (k:=13+i) om om
       have a0:Hid ((row32 (Ch.sigma++(Ch.words D 8++(E :: Ch.words r i))) 16).set (13+i) (.int .u32 (n32 (Ch.word r i)))=row32 (Ch.sigma++(Ch.words D 8++(E :: Ch.words r (i+1)))) 16):=by
        have:=zdz (Ch.sigma++(Ch.words D 8++(E :: Ch.words r i))) 16 (Ch.word r i) om;rw[V,as9,as9,List.cons_append]at this;exact this
       have HB:=qh hb;have HZ:=qh hz;have G:=qh hB;have i0:(0:Int)≤13+(i:Int):=om;have i1:(13+(i:Int))<16:=om;have c0:=(hb.cell (13+i)).trans hv;have f0:=hb.frozen (13+i);have X:=hb.lt;clear hb hz hB hv V
       go_wp2_with (go_at_call 155;(with_reducible refine(HW.o _ (by exact h2.below G.o)).mono ?_);rintro e w2 ⟨rfl,q,rfl⟩)
       have I:=qh (HB.o.set_ (13+i) (.int .u32 (n32 (Ch.word r i))));rw[a0.o]at I;have J:=qh (HZ.o.far (p:=⟨w.heap.size+1,13+i,none⟩) (by show w.heap.size≠w.heap.size+1;omega) (.int .u32 (n32 (Ch.word r i))));have M:=qh (G.o.setCell (p:=⟨w.heap.size+1,13+i,none⟩) (by show w.heap.size≤w.heap.size+1;omega) (.int .u32 (n32 (Ch.word r i))));go_roundg (3-(i+1))
       case measure=>have:=Y.o;omega
       case rel=>exact⟨i+1,by omega,rfl,by go_num,I.o.drewN q,J.o.drewN q,Below.drewM M.o q⟩
     · obtain rfl:i=3:=om
       have a2:row32 (Ch.sigma++(Ch.words D 8++(E :: Ch.words r 3))) 16=u32s (Ch.initial D r E):=by
        unfold row32
        have:=Ch.initial_len D r E
        unfold Ch.initial at this ⊢
        rw[this]
        simp[rep]
       rw[a2]at hb;obtain⟨U,hU⟩:=ex9 (u32s (Ch.initial D r E));rw[←hU]at hb HI HL H1;have a6:=qh hU;have a8:=hz.lt;clear Y hlt hi a2 hU
       go_wp2_with (first
        | refine wpList_load_mid rfl 232 (.tmp 7) rfl (w.heap.size+1) 0 rr U _ hb.range Tryz.underlying232 rfl HI.o ?_
        | (refine zab rfl 232 (.tmp 6) (.tmp 35) rfl w.heap.size U rr rr 232 _ hz HI.o H1.o (by rw[HL.o];rfl) ?_;intro w8 a7 a5))
       exact bodyPost_ret (zan rfl _ w.heap.size _ U rfl a7 _ Tryz.underlying232 rfl HI.o) rfl ⟨by rw[a6.o],a5.below hB lr hB.size⟩
