/- Part of the proof. -/
import Derived.Deep.LoopGhost
import Derived.Test.YtadopcjppijgiaaGreatSkp02
import Derived.Test.YtadopcjppijgiaaGreatSkp03
set_option linter.all false
set_option maxRecDepth 100000
set_option maxHeartbeats 0
namespace Go.Proofs.YtadopcjppijgiaaGreat
open Go.RowKit
theorem zw3(x:UInt32)(s:Nat)(h1:1≤s)(h2:s≤31):bits .or .u32 ((x.toNat:Int)*2^s%(4294967296:Int)) ((x.toNat:Int)/2^(32-s))=((Sh.rotr x (UInt32.ofNat (32-s))).toNat:Int):=by
 have hx:=x.toNat_lt;have e1:(x.toNat:Int)*2^s%4294967296=((x.toNat*2^s%4294967296:Nat):Int):=by simp
 have e2:(x.toNat:Int)/2^(32-s)=((x.toNat/2^(32-s):Nat):Int):=by simp
 have r:x.toNat/2^(32-s)<4294967296:=Nat.lt_of_le_of_lt (Nat.div_le_self _ _) hx;rw[e1,e2,u32_or_nat _ _ (Nat.mod_lt _ om) r];have m1:(UInt32.ofNat (32-s)).toNat=32-s:=by rw[UInt32.toNat_ofNat'];omega
 have m2:(32-UInt32.ofNat (32-s)).toNat=s:=by
  rw[UInt32.toNat_sub,m1]
  simp
  omega
 unfold Sh.rotr
 rw[UInt32.toNat_or,UInt32.toNat_shiftRight,UInt32.toNat_shiftLeft,m1,m2,Nat.mod_eq_of_lt (show 32-s<32 by omega),Nat.mod_eq_of_lt (show s<32 by omega),Nat.shiftLeft_eq,Nat.shiftRight_eq_div_pow,Nat.or_comm]
theorem zho(x:UInt32)(s:Nat)(h1:1≤s)(h2:s≤31):bits .or .u32 (n32 x*2^s%(4294967296:Int)) (n32 x/2^(32-s))=n32 (Sh.rotr x (UInt32.ofNat (32-s))):=zw3 x s h1 h2
theorem zfd(x:UInt32)(n:Int)(s:Nat)(w:World)(hn:bits .and .u64 (IntKind.u64.wrap n) 31=(s:Int))(h1:1≤s)(h2:s≤31):
 Calls Tryz.prog 163 #[.int .u32 (n32 x),.int .i64 n] w fun e w'=>e=.returned (.int .u32 (n32 (Sh.rotr x (UInt32.ofNat (32-s)))))∧w=w':=by
 have HR:=qh (zho x s h1 h2)
 go_enter Tryz.func163, Tryz.ntmps163
 go_wp2;go_ret;exact⟨by rw[HR.o];rfl,rfl⟩
theorem zca(x:UInt32)(n:Nat)(w:World)(h1:1≤n)(h2:n≤31):
 Calls Tryz.prog 159 #[.int .u32 (n32 x),.int .i64 n] w fun e w'=>e=.returned (.int .u32 (n32 (Sh.rotr x (UInt32.ofNat n))))∧w=w':=by
 have HC:Hid (Calls Tryz.prog 163 #[.int .u32 (n32 x),.int .i64 (-(n:Int))] w fun e w'=>e=.returned (.int .u32 (n32 (Sh.rotr x (UInt32.ofNat n))))∧w=w'):=by
  have:=zfd x (-(n:Int)) (32-n) w (by
   rw[IntKind.wrap_u64,show -(n:Int)%18446744073709551616=((18446744073709551616-n:Nat):Int) by omega];have:=u64_and_nat (18446744073709551616-n) 31 om om;refine this.trans ?_;rw[show(31:Nat)=2^5-1 by rfl,Nat.and_two_pow_sub_one_eq_mod]
   omega) om om
  rwa [show 32-(32-n)=n by omega]at this
 go_enter Tryz.func159, Tryz.ntmps159
 go_wp2_with (go_at_call 163;refine HC.o.mono ?_;rintro e w' ⟨rfl,rfl⟩)
 go_ret;exact⟨rfl,rfl⟩
theorem zx0(x:UInt32)(w:World):Calls Tryz.prog 159 #[.int .u32 (n32 x),.int .i64 2] w fun e w'=>e=.returned (.int .u32 (n32 (Sh.rotr x 2)))∧w=w':=zca x 2 w om om
theorem zxz(x:UInt32)(w:World):Calls Tryz.prog 159 #[.int .u32 (n32 x),.int .i64 6] w fun e w'=>e=.returned (.int .u32 (n32 (Sh.rotr x 6)))∧w=w':=zca x 6 w om om
theorem zxy(x:UInt32)(w:World):Calls Tryz.prog 159 #[.int .u32 (n32 x),.int .i64 7] w fun e w'=>e=.returned (.int .u32 (n32 (Sh.rotr x 7)))∧w=w':=zca x 7 w om om
theorem zun(x:UInt32)(w:World):Calls Tryz.prog 159 #[.int .u32 (n32 x),.int .i64 11] w fun e w'=>e=.returned (.int .u32 (n32 (Sh.rotr x 11)))∧w=w':=zca x 11 w om om
theorem zum(x:UInt32)(w:World):Calls Tryz.prog 159 #[.int .u32 (n32 x),.int .i64 13] w fun e w'=>e=.returned (.int .u32 (n32 (Sh.rotr x 13)))∧w=w':=zca x 13 w om om
theorem zul(x:UInt32)(w:World):Calls Tryz.prog 159 #[.int .u32 (n32 x),.int .i64 17] w fun e w'=>e=.returned (.int .u32 (n32 (Sh.rotr x 17)))∧w=w':=zca x 17 w om om
theorem zuk(x:UInt32)(w:World):Calls Tryz.prog 159 #[.int .u32 (n32 x),.int .i64 18] w fun e w'=>e=.returned (.int .u32 (n32 (Sh.rotr x 18)))∧w=w':=zca x 18 w om om
theorem zuj(x:UInt32)(w:World):Calls Tryz.prog 159 #[.int .u32 (n32 x),.int .i64 19] w fun e w'=>e=.returned (.int .u32 (n32 (Sh.rotr x 19)))∧w=w':=zca x 19 w om om
theorem zui(x:UInt32)(w:World):Calls Tryz.prog 159 #[.int .u32 (n32 x),.int .i64 22] w fun e w'=>e=.returned (.int .u32 (n32 (Sh.rotr x 22)))∧w=w':=zca x 22 w om om
theorem zuh(x:UInt32)(w:World):Calls Tryz.prog 159 #[.int .u32 (n32 x),.int .i64 25] w fun e w'=>e=.returned (.int .u32 (n32 (Sh.rotr x 25)))∧w=w':=zca x 25 w om om
section
def u32(x:UInt32):Value:=.int .u32 (n32 x)
def u32s(l:List UInt32):List Value:=l.map u32
theorem za4(l:List UInt32):(u32s l).length=l.length:=by simp[u32s]
theorem zbx{l:List UInt32}{k:Nat}{x:UInt32}(h:l[k]? = some x):(u32s l)[k]? = some (.int .u32 (n32 x)):=by simp[u32s,h,u32]
theorem zbc(l:List UInt32):∀v∈u32s l,v.oneCell'=true:=by
 intro v hv;obtain⟨c,_,rfl⟩:=List.mem_map.1 hv
 rfl
def row32(l:List UInt32)(N:Nat):List Value:=u32s l++rep (N-l.length) (.int .u32 0)
theorem zfc(l:List UInt32)(N:Nat)(h:l.length≤N):(row32 l N).length=N:=by simp[row32,za4,zao];omega
theorem zdz(l:List UInt32)(N:Nat)(x:UInt32)(h:l.length<N):(row32 l N).set l.length (.int .u32 (n32 x))=row32 (l++[x]) N:=by
 unfold row32
 rw[List.set_append_right _ _ (by rw[za4];exact lr),za4,Nat.sub_self];obtain⟨k,hk⟩:∃k,N-l.length=k+1:=⟨N-l.length-1,by omega⟩;rw[hk,la9,List.length_singleton,show N-(l.length+1)=k by omega]
 simp[u32s,rep,List.replicate_succ,u32]
theorem zbz(l:List UInt32)(N k:Nat)(x:UInt32)(h:l[k]? = some x):(row32 l N)[k]? = some (.int .u32 (n32 x)):=by
 unfold row32
 have:=(gi9.1 h).1;rw[ll9 (by rw[za4];exact this)];exact zbx h
theorem hd199:(Tryz.prog.info? 249).map (·.size)=some 64:=by kernel_rfl
theorem zzq(a b c d:UInt8):bits .or .u32 (bits .or .u32 (bits .or .u32 ((a.toNat:Int)*16777216) ((b.toNat:Int)*65536)) ((c.toNat:Int)*256)) (d.toNat:Int)=n32 (Sh.be32 a b c d):=by
 have ha:=a.toNat_lt;have hb:=b.toNat_lt;have hc:=c.toNat_lt;have hd:=d.toNat_lt
 have e1:bits .or .u32 ((a.toNat:Int)*16777216) ((b.toNat:Int)*65536)=((a.toNat*16777216+b.toNat*65536:Nat):Int):=by
  refine(u32_or_nat (a.toNat*16777216) (b.toNat*65536) om om).trans ?_;rw[nat_join 24 _ _ om om]
 have e2:bits .or .u32 ((a.toNat*16777216+b.toNat*65536:Nat):Int) ((c.toNat:Int)*256)=((a.toNat*16777216+b.toNat*65536+c.toNat*256:Nat):Int):=by
  refine(u32_or_nat (a.toNat*16777216+b.toNat*65536) (c.toNat*256) om om).trans ?_;rw[nat_join 16 _ _ om om]
 rw[e1,e2,u32_or_nat _ _ om om,nat_join 8 _ _ om om]
 unfold n32 Sh.be32
 rw[UInt32.toNat_ofNat']
 congr 1
 omega
theorem zoy{l:List UInt8}{i:Nat}(hi:i<16){a b c d:UInt8}(h0:l[4*i]? = some a)(h1:l[4*i+1]? = some b)(h2:l[4*i+2]? = some c)(h3:l[4*i+3]? = some d):Sh.words l (i+1)=Sh.words l i++[Sh.be32 a b c d]:=by
 rw[Sh.words];simp only[if_pos hi,List.getD_eq_getElem?_getD,h0,h1,h2,h3,Option.getD_some]
theorem zie{l:List UInt8}{i:Nat}(hi:16≤i){a b c d:UInt32}(h0:(Sh.words l i)[i-2]? = some a)(h1:(Sh.words l i)[i-7]? = some b)(h2:(Sh.words l i)[i-15]? = some c)(h3:(Sh.words l i)[i-16]? = some d):Sh.words l (i+1)=Sh.words l i++[Sh.sm1 a+b+Sh.sm0 c+d]:=by
 rw[Sh.words];simp only[if_neg (show ¬i<16 by omega),List.getD_eq_getElem?_getD,h0,h1,h2,h3,Option.getD_some]
theorem zcp(l:List UInt8)(i k:Nat)(h:k<i):∃x,(Sh.words l i)[k]? = some x:=⟨_,ge9 (by rw[Sh.words_len];exact h)⟩
theorem zhu(v:Value):Instr.loadAt 249 v=ldAt 249 v:=rfl
theorem zg1(p v:Value):Instr.storeAt 249 p v=stAt 249 p v:=rfl
attribute [local go_sem ↓] zhu zg1
attribute [local go_sem] zed zj4 zoa zee zem zn9 zlk
theorem zq0(A:Option Addr)(c:Nat)(l:List UInt8)(w:World)(h:Rd w A 64 (u8s l)):
 Calls Tryz.prog 157 #[.slice A 64 c] w fun e w'=>e=.returned (.agg (u32s (Sh.words l 64)).toArray)∧Below w.heap.size w w':=by
 have HL:=qh h.len
 go_enter Tryz.func157, Tryz.ntmps157
 go_wp2_with fail
 go_loopg [4] 16 (fun k q wr=>∃i:Nat,i≤16∧k=16-i∧q=.int .i64 i∧Blk wr (w.heap.size+1) 249 (row32 (Sh.words l i) 64)∧Blk wr w.heap.size 249 (row32 [] 64)∧Below w.heap.size w wr)
 case atStart=>exact⟨0,by omega,rfl,rfl,Blk.new' sy rfl,(Blk.new' rfl rfl).alloc _,((Below.refl _ _).alloc lr _).alloc sy _⟩
 case round =>
  obtain⟨i,hi,D,rfl,hb,hz,hB⟩:=hrel;have r:=qh D;clear D
  by_cases hlt:i<16
  · obtain⟨b,c4,x0,rfl,b9,a7,c0⟩:=(h.below hB).u8 (k:=4*i) om
    obtain⟨_,_,x1,e1,_,b6,c1⟩:=(h.below hB).u8 (k:=4*i+1) om
    cases e1
    obtain⟨_,_,x2,e2,_,a6,c2⟩:=(h.below hB).u8 (k:=4*i+2) om
    cases e2
    obtain⟨_,_,x3,e3,_,a5,c3⟩:=(h.below hB).u8 (k:=4*i+3) om
    cases e3
    have b0:=x0.toNat_lt;have b1:=x1.toNat_lt;have b2:=x2.toNat_lt;have b3:=x3.toNat_lt;have hc:=hb.cell i;rw[ge9 (by rw[zfc _ _ (by rw[Sh.words_len];omega)];omega)]at hc;have hf:=hb.frozen i;have a1:=hb.lt;have HE:=qh (zzq x0 x1 x2 x3);have HW:=qh (zoy hlt a7.o b6.o a6.o a5.o)
    go_wp2_with fail
    go_region
    rw[HE.o]
    have a0:Hid (Blk (wr.setCell ⟨w.heap.size+1,i,none⟩ (.int .u32 (n32 (Sh.be32 x0 x1 x2 x3)))).drew (w.heap.size+1) 249 (row32 (Sh.words l (i+1)) 64)):=by
     have:=(hb.set_ i (.int .u32 (n32 (Sh.be32 x0 x1 x2 x3)))).drew;have e:=zdz (Sh.words l i) 64 (Sh.be32 x0 x1 x2 x3) (by rw[Sh.words_len];omega);rw[Sh.words_len]at e;rw[e,←HW.o]at this;exact this
    have X:=qh ((hz.far (p:=⟨w.heap.size+1,i,none⟩) (by show w.heap.size≠w.heap.size+1;omega) (.int .u32 (n32 (Sh.be32 x0 x1 x2 x3)))).drew);have Y:=qh ((hB.setCell (p:=⟨w.heap.size+1,i,none⟩) (by show w.heap.size≤w.heap.size+1;omega) (.int .u32 (n32 (Sh.be32 x0 x1 x2 x3)))).drew);clear hb hz hB c0 c1 c2 c3 hc hf;generalize (wr.setCell ⟨w.heap.size+1,i,none⟩ (.int .u32 (n32 (Sh.be32 x0 x1 x2 x3)))).drew=w2 at *
    go_wp2_with fail
    go_roundg (16-(i+1))
    case measure=>have:=r.o;omega
    case rel=>exact⟨i+1,by omega,rfl,by go_num,a0.o,X.o,Y.o⟩
  · obtain rfl:i=16:=om
    clear r hlt hi
    go_wp2_with fail
    go_loopg [5] 48 (fun k q wr=>∃i:Nat,16≤i∧i≤64∧k=64-i∧q=.int .i64 i∧Blk wr (w.heap.size+1) 249 (row32 (Sh.words l i) 64)∧Blk wr w.heap.size 249 (row32 [] 64)∧Below w.heap.size w wr)
    case atStart=>exact⟨16,by omega,by omega,rfl,rfl,hb,hz,hB⟩
    case round =>
     clear hb hz hB;obtain⟨i,hi,a8,D,rfl,hb,hz,hB⟩:=hrel;have r:=qh D;clear D
     by_cases hlt:i<64
     · obtain⟨x2,h2⟩:=zcp l i (i-2) om
       obtain⟨x7,h7⟩:=zcp l i (i-7) om;obtain⟨E,M⟩:=zcp l i (i-15) om;obtain⟨a4,V⟩:=zcp l i (i-16) om;have c2:=(hb.cell (i-2)).trans (zbz _ 64 _ _ h2);have c7:=(hb.cell (i-7)).trans (zbz _ 64 _ _ h7);have b4:=(hb.cell (i-15)).trans (zbz _ 64 _ _ M);have b7:=(hb.cell (i-16)).trans (zbz _ 64 _ _ V);have hc:=hb.cell i;rw[ge9 (by rw[zfc _ _ (by rw[Sh.words_len];omega)];omega)]at hc;have hf:=hb.frozen i;have a1:=hb.lt;have HW:=qh (zie hi h2 h7 M V);clear h2 h7 M V
       go_wp2_with fail
       go_region
       go_wp2_with (go_at_call 159;(first|(with_reducible refine(zxy _ _).mono ?_)| (with_reducible refine(zuk _ _).mono ?_)| (with_reducible refine(zul _ _).mono ?_)| (with_reducible refine(zuj _ _).mono ?_));rintro e w' ⟨rfl,rfl⟩)
       go_region
       obtain⟨v,hv⟩:=ex9 (Sh.sm1 x2+x7+Sh.sm0 E+a4)
       have a0:Hid (Blk (wr.setCell ⟨w.heap.size+1,i,none⟩ (.int .u32 (n32 v))).drew.drew (w.heap.size+1) 249 (row32 (Sh.words l (i+1)) 64)):=by
        have:=(hb.set_ i (.int .u32 (n32 v))).drew.drew;have e:=zdz (Sh.words l i) 64 v (by rw[Sh.words_len];omega);rw[Sh.words_len]at e;rw[e,hv,←HW.o,←hv]at this;exact this
       have X:=qh ((hz.far (p:=⟨w.heap.size+1,i,none⟩) (by show w.heap.size≠w.heap.size+1;omega) (.int .u32 (n32 v))).drew.drew);have Y:=qh ((hB.setCell (p:=⟨w.heap.size+1,i,none⟩) (by show w.heap.size≤w.heap.size+1;omega) (.int .u32 (n32 v))).drew.drew);have a2:v=(Sh.rotr x2 17 ^^^ Sh.rotr x2 19 ^^^ x2 >>> 10)+x7+(Sh.rotr E 7 ^^^ Sh.rotr E 18 ^^^ E >>> 3)+a4:=hv;rw[←a2];clear hb hz hB c2 c7 b4 b7 hc hf hv a2;generalize (wr.setCell ⟨w.heap.size+1,i,none⟩ (.int .u32 (n32 v))).drew.drew=w2 at *
       go_wp2_with fail
       go_roundg (64-(i+1))
       case measure=>have:=r.o;omega
       case rel=>exact⟨i+1,by omega,by omega,rfl,by go_num,a0.o,X.o,Y.o⟩
     · obtain rfl:i=64:=om
       clear r hlt hi a8;have I:row32 (Sh.words l 64) 64=u32s (Sh.words l 64):=by unfold row32;rw[Sh.words_len];simp[rep]
       have J:(u32s (Sh.words l 64)).length=64:=by rw[za4,Sh.words_len]
       rw[I]at hb;have HU:=qh J;have HI:Hid ((Tryz.prog.info? 249).map (·.size)=some (u32s (Sh.words l 64)).length):=by rw[J];exact hd199
       have c6:=hz.lt;clear I J;have G:Hid (∀v∈u32s (Sh.words l 64),v.oneCell'=true):=zbc _;obtain⟨U,hU⟩:=ex9 (u32s (Sh.words l 64));rw[←hU]at hb HU HI G;have b5:=qh hU;clear hU;have c5:(ldAt 249 (.pointer (some ⟨w.heap.size+1,0,none⟩))).run Tryz.prog wr=.ok (.agg U.toArray) wr:=zal hb _ 0 U (by rw[List.drop_zero,List.take_length]) _ Tryz.underlying249 rfl HI.o;have hst:(stAt 249 (.pointer (some ⟨w.heap.size,0,none⟩)) (.agg U.toArray)).run Tryz.prog wr=.ok () (wr.setCells w.heap.size 0 U):=zcr hz _ 0 U (by rw[HU.o];exact lr) G.o HI.o;have a3:=qh (za2 w.heap.size _ U 0 _ wr hz (by rw[HU.o];exact lr));rw[zap _ _ (by rw[HU.o];rfl)]at a3;have a9:=qh (zbq w.heap.size w.heap.size w U 0 wr hB lr)
       go_wp2_with fail
       exact bodyPost_ret (zan rfl _ w.heap.size 249 U rfl a3.o _ Tryz.underlying249 rfl HI.o) rfl ⟨by rw[b5.o],a9.o⟩
end
section
theorem hd144:(Tryz.prog.info? 165).map (·.size)=some 8:=by kernel_rfl
theorem zqu(w:World):Calls Tryz.prog 160 #[] w fun e w'=>e=.returned (.agg (u32s Sh.start.list).toArray)∧Below w.heap.size w w':=by
 go_enter Tryz.func160, Tryz.ntmps160
 go_wp2_with fail
 exact bodyPost_ret (zan rfl _ w.heap.size 165 (u32s Sh.start.list) rfl (Blk.new' rfl rfl) _ Tryz.underlying165 rfl hd144) rfl ⟨rfl,(Below.refl _ _).alloc lr _⟩
attribute [local go_sem ↓] zhu zg1
theorem zp6(w:World):Calls Tryz.prog 158 #[] w fun e w'=>e=.returned (.agg (u32s Sh.ks).toArray)∧Below w.heap.size w w':=by
 have HI:Hid ((Tryz.prog.info? 249).map (·.size)=some (u32s Sh.ks).length):=hd199;have HL:Hid ((u32s Sh.ks).length=64):=rfl;have r:Hid (∀v∈u32s Sh.ks,v.oneCell'=true):=zbc _;have HE:Hid ((u32s Sh.ks).toArray=#[.int .u32 1116352408,.int .u32 1899447441,.int .u32 3049323471,.int .u32 3921009573,.int .u32 961987163,.int .u32 1508970993,.int .u32 2453635748,.int .u32 2870763221,.int .u32 3624381080,.int .u32 310598401,.int .u32 607225278,.int .u32 1426881987,.int .u32 1925078388,.int .u32 2162078206,.int .u32 2614888103,.int .u32 3248222580,.int .u32 3835390401,.int .u32 4022224774,.int .u32 264347078,.int .u32 604807628,.int .u32 770255983,.int .u32 1249150122,.int .u32 1555081692,.int .u32 1996064986,.int .u32 2554220882,.int .u32 2821834349,.int .u32 2952996808,.int .u32 3210313671,.int .u32 3336571891,.int .u32 3584528711,.int .u32 113926993,.int .u32 338241895,.int .u32 666307205,.int .u32 773529912,.int .u32 1294757372,.int .u32 1396182291,.int .u32 1695183700,.int .u32 1986661051,.int .u32 2177026350,.int .u32 2456956037,.int .u32 2730485921,.int .u32 2820302411,.int .u32 3259730800,.int .u32 3345764771,.int .u32 3516065817,.int .u32 3600352804,.int .u32 4094571909,.int .u32 275423344,.int .u32 430227734,.int .u32 506948616,.int .u32 659060556,.int .u32 883997877,.int .u32 958139571,.int .u32 1322822218,.int .u32 1537002063,.int .u32 1747873779,.int .u32 1955562222,.int .u32 2024104815,.int .u32 2227730452,.int .u32 2361852424,.int .u32 2428436474,.int .u32 2756734187,.int .u32 3204031479,.int .u32 3329325298]):=rfl;obtain⟨U,hU⟩:=ex9 (u32s Sh.ks);rw[←hU]at HI r HL HE;have D:=qh hU;clear hU;have hz:Blk (w.alloc (.cells #[.int .u32 0,.int .u32 0,.int .u32 0,.int .u32 0,.int .u32 0,.int .u32 0,.int .u32 0,.int .u32 0,.int .u32 0,.int .u32 0,.int .u32 0,.int .u32 0,.int .u32 0,.int .u32 0,.int .u32 0,.int .u32 0,.int .u32 0,.int .u32 0,.int .u32 0,.int .u32 0,.int .u32 0,.int .u32 0,.int .u32 0,.int .u32 0,.int .u32 0,.int .u32 0,.int .u32 0,.int .u32 0,.int .u32 0,.int .u32 0,.int .u32 0,.int .u32 0,.int .u32 0,.int .u32 0,.int .u32 0,.int .u32 0,.int .u32 0,.int .u32 0,.int .u32 0,.int .u32 0,.int .u32 0,.int .u32 0,.int .u32 0,.int .u32 0,.int .u32 0,.int .u32 0,.int .u32 0,.int .u32 0,.int .u32 0,.int .u32 0,.int .u32 0,.int .u32 0,.int .u32 0,.int .u32 0,.int .u32 0,.int .u32 0,.int .u32 0,.int .u32 0,.int .u32 0,.int .u32 0,.int .u32 0,.int .u32 0,.int .u32 0,.int .u32 0] 249)) w.heap.size 249 (row32 [] 64):=Blk.new w _ _;have hB:Below w.heap.size w (w.alloc (.cells #[.int .u32 0,.int .u32 0,.int .u32 0,.int .u32 0,.int .u32 0,.int .u32 0,.int .u32 0,.int .u32 0,.int .u32 0,.int .u32 0,.int .u32 0,.int .u32 0,.int .u32 0,.int .u32 0,.int .u32 0,.int .u32 0,.int .u32 0,.int .u32 0,.int .u32 0,.int .u32 0,.int .u32 0,.int .u32 0,.int .u32 0,.int .u32 0,.int .u32 0,.int .u32 0,.int .u32 0,.int .u32 0,.int .u32 0,.int .u32 0,.int .u32 0,.int .u32 0,.int .u32 0,.int .u32 0,.int .u32 0,.int .u32 0,.int .u32 0,.int .u32 0,.int .u32 0,.int .u32 0,.int .u32 0,.int .u32 0,.int .u32 0,.int .u32 0,.int .u32 0,.int .u32 0,.int .u32 0,.int .u32 0,.int .u32 0,.int .u32 0,.int .u32 0,.int .u32 0,.int .u32 0,.int .u32 0,.int .u32 0,.int .u32 0,.int .u32 0,.int .u32 0,.int .u32 0,.int .u32 0,.int .u32 0,.int .u32 0,.int .u32 0,.int .u32 0] 249)):=(Below.refl _ _).alloc lr _;have hst:=zcr (P:=Tryz.prog) hz 249 0 U (by rw[HL.o];exact lr) r.o HI.o;have A:=qh (za2 w.heap.size _ U 0 _ _ hz (by rw[HL.o];exact lr));rw[zap _ _ (by rw[HL.o];rfl)]at A;have E:=qh (zbq w.heap.size w.heap.size w U 0 _ hB lr);rw[HE.o]at hst;clear hz hB
 go_enter Tryz.func158, Tryz.ntmps158
 go_wp2_with fail
 exact bodyPost_ret (zan rfl _ w.heap.size 249 U rfl A.o _ Tryz.underlying249 rfl HI.o) rfl ⟨by rw[D.o],E.o⟩
end
section
theorem zgv(l:List UInt8)(t:Nat):∀i,t<i→(Sh.words l i)[t]? = (Sh.words l (t+1))[t]?:=by
 intro i
 induction i with
 | zero=>intro h;omega
 | succ i ih =>
  intro h
  by_cases e:t=i
  · rw[e]
  · have:(Sh.words l (i+1))[t]? = (Sh.words l i)[t]?:=by
     conv=>lhs;rw[Sh.words]
     exact ll9 (by rw[Sh.words_len];omega)
    rw[this];exact ih om
theorem zey{l:List UInt8}{s R:Sh.St}{t:Nat}(hR:Sh.rounds l s t=R)(ht:t<64){k x:UInt32}(hk:Sh.ks[t]? = some k)(hx:(Sh.words l 64)[t]? = some x):Sh.rounds l s (t+1)=Sh.rnd R k x:=by
 rw[Sh.rounds,hR,gd9,gd9,hk,←zgv l t 64 ht,hx]
 rfl
def st8(s:Sh.St):List Value:=[.int .u32 (n32 s.a),.int .u32 (n32 s.b),.int .u32 (n32 s.c),.int .u32 (n32 s.d),.int .u32 (n32 s.e),.int .u32 (n32 s.f),.int .u32 (n32 s.g),.int .u32 (n32 s.h)]
theorem zdl(s:Sh.St):st8 s=u32s s.list:=rfl
theorem zl6(p v:Value):Instr.storeAt 165 p v=stAt 165 p v:=rfl
attribute [local go_sem ↓] zhu zg1 zl6
attribute [local go_sem] zed zj4 zoa zee zem zhp
theorem zu7(d a b k x:UInt32):(n32 d+(n32 a+n32 b+n32 k+n32 x))%(4294967296:Int)=n32 (d+(a+b+k+x)):=by
 unfold n32;simp only[UInt32.toNat_add];omega
theorem zu8(a b k x y:UInt32):(n32 a+n32 b+n32 k+n32 x+n32 y)%(4294967296:Int)=n32 (a+b+k+x+y):=by
 unfold n32;simp only[UInt32.toNat_add];omega
structure CIn(w:World)(s:Sh.St)(U V:List Value)(g:Nat)(wr:World):Prop where
 us:Blk wr g 249 U
 vs:Blk wr (g+1) 249 V
 st:Blk wr w.heap.size 165 (st8 s)
 o:Blk wr (w.heap.size+1) 165 (u32s [0,0,0,0,0,0,0,0])
 bel:Below w.heap.size w wr
theorem CIn.drew{w:World}{s:Sh.St}{U V:List Value}{g:Nat}{wr:World}(h:CIn w s U V g wr):CIn w s U V g wr.drew:=⟨h.us.drew,h.vs.drew,h.st.drew,h.o.drew,h.bel.drew⟩
theorem Below.drewN'{B:Nat}{w w':World}(h:Below B w w')(n:Nat):Below B w (w'.drewN n):=⟨h.os,h.tape,h.output,h.size,h.block⟩
theorem CIn.drewN{w:World}{s:Sh.St}{U V:List Value}{g:Nat}{wr:World}(h:CIn w s U V g wr)(n:Nat):CIn w s U V g (wr.drewN n):=⟨h.us.drewN n,h.vs.drewN n,h.st.drewN n,h.o.drewN n,Below.drewN' h.bel n⟩
theorem CIn.cells{w:World}{s:Sh.St}{U V:List Value}{g:Nat}{wr:World}(h:CIn w s U V g wr):wr.cell? ⟨w.heap.size,0,none⟩=some (.int .u32 (n32 s.a))∧wr.cell? ⟨w.heap.size,1,none⟩=some (.int .u32 (n32 s.b))∧wr.cell? ⟨w.heap.size,2,none⟩=some (.int .u32 (n32 s.c))∧wr.cell? ⟨w.heap.size,3,none⟩=some (.int .u32 (n32 s.d)) ∧
 wr.cell? ⟨w.heap.size,4,none⟩=some (.int .u32 (n32 s.e))∧wr.cell? ⟨w.heap.size,5,none⟩=some (.int .u32 (n32 s.f))∧wr.cell? ⟨w.heap.size,6,none⟩=some (.int .u32 (n32 s.g))∧wr.cell? ⟨w.heap.size,7,none⟩=some (.int .u32 (n32 s.h)) :=
 ⟨h.st.cell 0,h.st.cell 1,h.st.cell 2,h.st.cell 3,h.st.cell 4,h.st.cell 5,h.st.cell 6,h.st.cell 7⟩
theorem zga(s:Sh.St)(A:Option Addr)(c:Nat)(l:List UInt8)(w:World)(h:Rd w A 64 (u8s l)):
 Calls Tryz.prog 146 #[.agg (st8 s).toArray,.slice A 64 c] w fun e w'=>e=.returned (.tuple #[.agg (st8 (Sh.comp s l)).toArray,.int .i64 0])∧Below w.heap.size w w':=by
 have a9:=qh (fun W (h:Rd W A 64 (u8s l))=>zq0 A c l W h);have a2:=qh zp6;have J:Hid ((u32s (Sh.words l 64)).length=64):=by show _=_;rw[za4,Sh.words_len]
 have X:Hid ((u32s Sh.ks).length=64):=rfl;have a8:Hid (∀v∈u32s (Sh.words l 64),v.oneCell'=true):=zbc _;have Y:Hid (∀v∈u32s Sh.ks,v.oneCell'=true):=zbc _;obtain⟨U,hU⟩:=ex9 (u32s (Sh.words l 64));obtain⟨V,hV⟩:=ex9 (u32s Sh.ks);rw[←hU]at J a8 a9;rw[←hV]at X Y a2;have a4:=qh hU;have a0:=qh hV;have b5:Hid ((Tryz.prog.info? 249).map (·.size)=some U.length):=by rw[J.o];exact hd199
 have b9:Hid ((Tryz.prog.info? 249).map (·.size)=some V.length):=by rw[X.o];exact hd199
 have HR:=qh h;clear hU hV h
 unfold st8
 go_enter Tryz.func146, Tryz.ntmps146
 go_wp2_with (first
  | (go_at_call 157;(with_reducible refine(a9.o _ (by exact(HR.o.alloc _).alloc _)).mono ?_);rintro e w3 ⟨rfl,D⟩)
  | (go_at_call 158;(with_reducible refine(a2.o _).mono ?_);rintro e w4 ⟨rfl,E⟩)
  | (refine zab rfl 249 (.tmp 6) (.tmp 26) rfl w4.heap.size U rr rr 249 (row32 [] 64) (by exact(Blk.new' rfl rfl).alloc _) b5.o a8.o (by rw[J.o];rfl) ?_;intro w5 a7 I)
  | (refine zab rfl 249 (.tmp 7) (.tmp 27) rfl (w4.heap.size+1) V rr rr 249 (row32 [] 64) (by exact I.blk (Blk.new' sy rfl) om) b9.o Y.o (by rw[X.o];rfl) ?_;intro w6 M G))
 have HM:Hid (CIn w s U V w4.heap.size w6):=by
  have r:Below w.heap.size w w4:=((((Below.refl _ w).alloc lr _).alloc sy _).trans (D.mono (by simp;omega))).trans (E.mono (by have:=D.size;simp at this;omega));have b2:=D.size;have c2:=E.size
  simp at b2
  have b4:=I.below ((r.alloc r.size _).alloc (Nat.le_trans r.size sy) _) r.size (Nat.le_trans r.size (by simp;omega));refine⟨G.blk a7 om,M,?_,?_,G.below b4 om (by have:=M.lt;have:=G.size;omega)⟩
  · exact G.blk (I.blk (((((Blk.new w _ _).alloc _).below D (by simp;omega)).below E om).alloc _ |>.alloc _) om) om
  · exact G.blk (I.blk (((((Blk.new' sy rfl:Blk _ (w.heap.size+1) _ (u32s [0,0,0,0,0,0,0,0])).below D sy).below E om).alloc _).alloc _) om) om
 have c0:w.heap.size+1<w4.heap.size:=by have:=D.size;have:=E.size;simp at *;omega
 generalize w4.heap.size=g at *;clear a7 I M G D E;obtain⟨d0,d1,d2,d3,d4,d5,d6,d7⟩:=HM.o.cells
 go_quiet (fail)
 go_wp2_with fail
 go_quiet (fail)
 have a5:Hid (∀n m,CIn w s U V g ((w6.drewN n).drewN m)):=fun n m=>(HM.o.drewN n).drewN m
 clear d0 d1 d2 d3 d4 d5 d6 d7 HM
 go_wp2_with fail
 go_loopg [8,9,10,11,12,13,14,15,16] 64 (fun k qa qb qc qd qe qf qg qh q wr=>∃(t:Nat) (R:Sh.St),t≤64∧k=64-t∧q=.int .i64 t∧Hid (Sh.rounds l s t=R)∧CIn w s U V g wr ∧
   qa=.int .u32 (n32 R.a)∧qb=.int .u32 (n32 R.b)∧qc=.int .u32 (n32 R.c)∧qd=.int .u32 (n32 R.d)∧qe=.int .u32 (n32 R.e)∧qf=.int .u32 (n32 R.f)∧qg=.int .u32 (n32 R.g)∧qh=.int .u32 (n32 R.h))
 case atStart=>exact⟨0,s,by omega,rfl,rfl,rfl,a5.o _ _,rfl,rfl,rfl,rfl,rfl,rfl,rfl,rfl⟩
 case round =>
  obtain⟨t,R,ht,a6,rfl,b1,hM,rfl,rfl,rfl,rfl,rfl,rfl,rfl,rfl⟩:=hrel;have b3:=qh a6;have HM:=qh hM;clear a6 hM a5
  by_cases hlt:t<64
  · obtain⟨k,hk⟩:∃k,Sh.ks[t]? = some k:=⟨_,ge9 (by exact hlt)⟩
    obtain⟨x,hx⟩:∃x,(Sh.words l 64)[t]? = some x:=⟨_,ge9 (by rw[Sh.words_len];exact hlt)⟩;have HS:=qh (zey b1.o hlt hk hx);have c6:wr.cell? ⟨g,t,none⟩=some (.int .u32 (n32 x)):=by rw[HM.o.us.cell,a4.o];exact zbx hx
    have c7:wr.cell? ⟨g+1,t,none⟩=some (.int .u32 (n32 k)):=by rw[HM.o.vs.cell,a0.o];exact zbx hk
    clear hk hx;obtain⟨a,b,c',d,e,f,g',h'⟩:=R
    go_wp2_with (go_at_call 159;(first|(with_reducible refine(zxz _ _).mono ?_)| (with_reducible refine(zun _ _).mono ?_)| (with_reducible refine(zuh _ _).mono ?_));rintro e w' ⟨rfl,rfl⟩)
    go_quiet (fail)
    go_wp2_with (go_at_call 159;(first|(with_reducible refine(zx0 _ _).mono ?_)| (with_reducible refine(zum _ _).mono ?_)| (with_reducible refine(zui _ _).mono ?_));rintro e w' ⟨rfl,rfl⟩)
    have b7:Hid (∀n,CIn w s U V g (wr.drewN n)):=fun n=>HM.o.drewN n
    go_roundg (64-(t+1))
    case measure=>have:=b3.o;omega
    case rel=>exact⟨t+1,_,by omega,rfl,by go_num,HS.o,b7.o _,(by rw[zu8];rfl),rfl,rfl,rfl,(by rw[zu7];rfl),rfl,rfl,rfl⟩
  · obtain rfl:t=64:=om
    have HE:Hid (Sh.comp s l=⟨s.a+R.a,s.b+R.b,s.c+R.c,s.d+R.d,s.e+R.e,s.f+R.f,s.g+R.g,s.h+R.h⟩):=by show _=_;rw[←b1.o];rfl
    obtain⟨d0,d1,d2,d3,d4,d5,d6,d7⟩:=HM.o.cells;obtain⟨a,b,c',d,e,f,g',h'⟩:=R;have ho:=qh HM.o.o;have c1:=HM.o.o.lt;have hB:=qh HM.o.bel;have a3:Hid ((Tryz.prog.info? 165).map (·.size)=some 8):=hd144;obtain⟨N,hN⟩:∃N:List Value,N=[.int .u32 (n32 (s.a+a)),.int .u32 (n32 (s.b+b)),.int .u32 (n32 (s.c+c')),.int .u32 (n32 (s.d+d)),.int .u32 (n32 (s.e+e)),.int .u32 (n32 (s.f+f)),.int .u32 (n32 (s.g+g')),.int .u32 (n32 (s.h+h'))]:=⟨_,rfl⟩
    have hst:(stAt 165 (.pointer (some ⟨w.heap.size+1,0,none⟩)) (.agg #[.int .u32 (n32 (s.a+a)),.int .u32 (n32 (s.b+b)),.int .u32 (n32 (s.c+c')),.int .u32 (n32 (s.d+d)),.int .u32 (n32 (s.e+e)),.int .u32 (n32 (s.f+f)),.int .u32 (n32 (s.g+g')),.int .u32 (n32 (s.h+h'))])).run Tryz.prog wr=.ok () (wr.setCells (w.heap.size+1) 0 N):=by
     have:=zcr (P:=Tryz.prog) ho.o 165 0 N (by rw[hN];exact Nat.le_refl 8) (by rw[hN];exact zbc [s.a+a,s.b+b,s.c+c',s.d+d,s.e+e,s.f+f,s.g+g',s.h+h']) (by rw[hN];exact a3.o);rw[hN]at this ⊢;exact this
    have a1:=qh (za2 (w.heap.size+1) _ N 0 _ _ ho.o (by rw[hN];exact Nat.le_refl 8));rw[zap _ _ (by rw[hN];rfl)]at a1;have b6:=qh (zbq (w.heap.size+1) w.heap.size w N 0 _ hB.o (Nat.le_succ _));have HN:=qh hN;clear HM a4 a0 hN
    go_wp2_with fail
    exact bodyPost_ret (zak rfl _ (w.heap.size+1) _ N rfl a1.o _ Tryz.underlying165 rfl (by rw[HN.o];exact a3.o)) rfl ⟨by rw[HE.o,HN.o];rfl,b6.o⟩
end
