/- Part of the proof. -/
import Derived.Test.YtafjkbbiaopemaaGreatDoorPrx10
import Derived.Test.YtafjkbbiaopemaaGreatDoorPrx28
set_option linter.all false
set_option maxRecDepth 100000
set_option maxHeartbeats 0
namespace Go.Proofs.YtafjkbbiaopemaaGreatDoor.Tr
open Go.RowKit
section
def rxR(e:Ex)(i:Nat):ByteArray:=bytesOf (par ((decide (2≤i) && e.sum)|| (decide (3≤i) && e.prod)) (prE e))
def RxK(e:Ex)(a:Option Addr × Nat)(F:Nat→Prop):Prop:=∀(i:Nat) (w:World),i≤3→(prE e).length+10≤1000000000→ArgsIn F w a.1 e.args→Calls Tryz.prog 37 #[.agg (exC e a).toArray,.int .i64 i] w fun r w'=>r=.returned (.string (rxR e i))∧Below w.heap.size w w'
theorem zaw(T:ByteArray):bytesOf (tx T)=T:=by unfold bytesOf tx;rfl
theorem zab(a b:List UInt8):bytesOf a++bytesOf b=bytesOf (a++b):=by
 apply ByteArray.ext
 simp[bytesOf]
theorem conv_c(w:World)(T:ByteArray):∃(c:Nat) (w':World),(convert 9 83 (.string T)).run Tryz.prog w=.ok (.slice (some ⟨w.heap.size,0,none⟩) T.size c) w'∧T.size≤c∧Hid (Rd w' (some ⟨w.heap.size,0,none⟩) T.size (u8s T.data.toList))∧Hid (Below w.heap.size w w'):=by
 obtain⟨c,w',h1,h2,h3⟩:=zps w T;have h4:=Lib.run_convert_string_bytes w _ _ _ T Tryz.underlying9 Tryz.underlying83 Tryz.underlying5;rw[h1]at h4
 injection h4 with h4 _
 injection h4 with _ _ h4
 exact⟨c,w',h1,h4 ▸ grownCap_ge _ _ _ _,h2,h3⟩
theorem sz_b(l:List UInt8):(bytesOf l).size=l.length:=by simp[bytesOf,ByteArray.size]
theorem zak{P:Program}{w:World}{a:Act}{o:Oper}{t t':TypeId}{x y:Operand}{p q:ByteArray}(ho:o.op=.binOp .add t x y t')(hx:a.eval x=.string p)(hy:a.eval y=.string q)(hs:p.size+q.size≤9223372036854775807):(execOp a.eval o).run P w=.ok (.value (.string (p++q))) w:=by
 unfold execOp
 simp[ho,hx,hy,binOp,eqGuard,run_string_add_sum _ _ _ hs]
theorem szz1:({ data:=#[32] } : ByteArray).size=1:=rfl
theorem szz3:({ data:=#[32,42,32] } : ByteArray).size=3:=rfl
theorem zfj(b:Bool)(l:List UInt8):l.length≤(par b l).length:=by unfold par;split <;> simp <;> omega
section
variable{w w':World}
theorem zko(num:Int)(text:ByteArray)(at_:Int)(args:List Ex)(a:Option Addr × Nat)(i:Nat)(w:World)(h0:0≤num)(h1:num≤9223372036854775807):Calls Tryz.prog 37 #[.agg (exC (.mk k_number num text at_ args) a).toArray,.int .i64 i] w fun r w'=>r=.returned (.string (rxR (.mk k_number num text at_ args) i))∧Below w.heap.size w w':=by
 have HP:Hid (rxR (.mk k_number num text at_ args) i=⟨(Lib.itoa num).toArray⟩):=(by show _=_;unfold rxR;rw[prE];unfold prB;rw[if_pos rfl];simp[par,Ex.sum,Ex.prod,Ex.op];rfl);rw[HP.out];have HB0:Hid (Below w.heap.size w (w.alloc (.cells (exC (.mk k_number num text at_ args) a).toArray 39))):=(Below.refl _ _).alloc lr _;obtain⟨n,rfl⟩:∃n:Nat,num=n:=⟨num.toNat,by omega⟩;have HD:=qh (fun W=>zo2 n om W);clear HP h0 h1
 unfold exC at *
 dsimp only [Ex.op,Ex.num,Ex.text,Ex.at_,Ex.args]at *;generalize args.length=m at *
 go_enter Tryz.func37, Tryz.ntmps37
 go_wp2_with (go_at_call 75;(refine(HD.out _).mono ?_);rintro r w2 ⟨rfl,hB2⟩;have H2:Hid (Below w.heap.size w w2):=HB0.out.trans (hB2.mono HB0.out.size);clear hB2)
 go_ret;exact⟨rfl,H2.out⟩
theorem zp9(num:Int)(text:ByteArray)(at_:Int)(args:List Ex)(a:Option Addr × Nat)(i:Nat)(w:World):Calls Tryz.prog 37 #[.agg (exC (.mk k_name num text at_ args) a).toArray,.int .i64 i] w fun r w'=>r=.returned (.string (rxR (.mk k_name num text at_ args) i))∧Below w.heap.size w w':=by
 have HP:Hid (rxR (.mk k_name num text at_ args) i=text):=(by show _=_;unfold rxR;rw[prE];unfold prB;rw[if_neg (by decide),if_pos rfl];simp[par,Ex.sum,Ex.prod,Ex.op];exact zaw text);rw[HP.out];have HB0:Hid (Below w.heap.size w (w.alloc (.cells (exC (.mk k_name num text at_ args) a).toArray 39))):=(Below.refl _ _).alloc lr _;clear HP
 unfold exC at *
 dsimp only [Ex.op,Ex.num,Ex.text,Ex.at_,Ex.args]at *;generalize args.length=m at *
 go_enter Tryz.func37, Tryz.ntmps37
 go_wp2;go_ret;exact⟨rfl,HB0.out⟩
theorem zp6(num:Int)(text:ByteArray)(at_:Int)(args:List Ex)(a:Option Addr × Nat)(i:Nat)(w:World)(h2:text.size≤100000):Calls Tryz.prog 37 #[.agg (exC (.mk k_text num text at_ args) a).toArray,.int .i64 i] w fun r w'=>r=.returned (.string (rxR (.mk k_text num text at_ args) i))∧Below w.heap.size w w':=by
 have HP:Hid (rxR (.mk k_text num text at_ args) i=bytesOf (Lx.quote (tx text))):=(by show _=_;unfold rxR;rw[prE];unfold prB;rw[if_neg (by decide),if_neg (by decide),if_pos rfl];simp[par,Ex.sum,Ex.prod,Ex.op]);rw[HP.out];have HB0:Hid (Below w.heap.size w (w.alloc (.cells (exC (.mk k_text num text at_ args) a).toArray 39))):=(Below.refl _ _).alloc lr _;clear HP
 unfold exC at *
 dsimp only [Ex.op,Ex.num,Ex.text,Ex.at_,Ex.args]at *;generalize args.length=m at *;obtain⟨cc,wc,hconv,hcc,hrd,hbc⟩:=conv_c (w.alloc (.cells #[.string k_text,.int .i64 num,.string text,.int .i64 at_,.slice a.1 m a.2] 39)) text;have e7:(w.alloc (.cells #[.string k_text,.int .i64 num,.string text,.int .i64 at_,.slice a.1 m a.2] 39)).heap.size=w.heap.size+1:=by simp
 have H1:Hid (Below w.heap.size w wc):=HB0.out.trans (hbc.out.mono HB0.out.size);rw[e7]at hrd;have H2T:=qh (And.intro h2 hcc);clear h2 e7 hcc
 go_enter Tryz.func37, Tryz.ntmps37
 go_wp2_with (go_at_call 76;(refine(zjj _ _ _ (tx text) _ (by exact hrd.out) (by have:=H2T.out.1;omega) H2T.out.2).mono ?_);rintro r w2 ⟨rfl,hB2⟩;have H2:Hid (Below w.heap.size w w2):=H1.out.trans (hB2.mono H1.out.size);clear hB2)
 go_ret;exact⟨rfl,H2.out⟩
theorem rx_bad(op:ByteArray)(hop:op=m_plus∨op=m_minus∨op=m_star)(num:Int)(text:ByteArray)(at_:Int)(args:List Ex)(a:Option Addr × Nat)(i:Nat)(w:World)(hn:args.length≠2):Calls Tryz.prog 37 #[.agg (exC (.mk op num text at_ args) a).toArray,.int .i64 i] w fun r w'=>r=.returned (.string (rxR (.mk op num text at_ args) i))∧Below w.heap.size w w':=by
 have HP:Hid (rxR (.mk op num text at_ args) i = { data:=#[63] }):=(by show _=_;unfold rxR;rw[prE,zla hop hn];simp[par,Ex.sum,Ex.prod,Ex.args,hn];rfl);rw[HP.out];have HB0:Hid (Below w.heap.size w (w.alloc (.cells (exC (.mk op num text at_ args) a).toArray 39))):=(Below.refl _ _).alloc lr _;have hm:(args.length:Int)≠2:=om;clear HP hn
 unfold exC at *
 dsimp only [Ex.op,Ex.num,Ex.text,Ex.at_,Ex.args]at *;generalize args.length=m at *;have x4:((m:Int) == 2)=false:=by rw[beq_eq_false_iff_ne];exact hm
 rcases hop with rfl|rfl|rfl
 all_goals
   go_enter Tryz.func37, Tryz.ntmps37
   go_wp2;go_ret;exact⟨rfl,HB0.out⟩
theorem zp8(op:ByteArray)(h1:op≠k_number)(h2:op≠k_name)(h3:op≠k_text)(h4:op≠k_join)(h5:op≠m_plus)(h6:op≠m_minus)(h7:op≠m_star)(num:Int)(text:ByteArray)(at_:Int)(args:List Ex)(a:Option Addr × Nat)(i:Nat)(w:World):Calls Tryz.prog 37 #[.agg (exC (.mk op num text at_ args) a).toArray,.int .i64 i] w fun r w'=>r=.returned (.string (rxR (.mk op num text at_ args) i))∧Below w.heap.size w w':=by
 have HP:Hid (rxR (.mk op num text at_ args) i = { data:=#[63] }):=(by show _=_;unfold rxR;rw[prE];unfold prB;rw[if_neg h1,if_neg h2,if_neg h3,if_neg h4,if_neg (by rintro (h|h|h);exact h5 h;exact h6 h;exact h7 h)];simp[par,Ex.sum,Ex.prod,Ex.op,h5,h6,h7];rfl);rw[HP.out];have HB0:Hid (Below w.heap.size w (w.alloc (.cells (exC (.mk op num text at_ args) a).toArray 39))):=(Below.refl _ _).alloc lr _;have x1:(op.toList == [110,117,109,98,101,114])=false:=strl h1;have x2:(op.toList == [110,97,109,101])=false:=strl h2;have x3:(op.toList == [116,101,120,116])=false:=strl h3;have x4:(op.toList == [106,111,105,110])=false:=strl h4;have x5:(op.toList == [43])=false:=strl h5;have x6:(op.toList == [45])=false:=strl h6;have x7:(op.toList == [42])=false:=strl h7;clear HP h1 h2 h3 h4 h5 h6 h7
 unfold exC at *
 dsimp only [Ex.op,Ex.num,Ex.text,Ex.at_,Ex.args]at *;generalize args.length=m at *
 go_enter Tryz.func37, Tryz.ntmps37
 go_wp2;go_ret;exact⟨rfl,HB0.out⟩
theorem zqa{F:Nat→Prop}(num:Int)(text:ByteArray)(at_:Int)(args:List Ex)(a:Option Addr × Nat)(i:Nat)(w:World)(hn:args.length≤1000000)(hx:∀e∈args,∀a,RxK e a F)(hl:(prE (.mk k_join num text at_ args)).length+10≤1000000000)(hA:ArgsIn F w a.1 args):Calls Tryz.prog 37 #[.agg (exC (.mk k_join num text at_ args) a).toArray,.int .i64 i] w fun r w'=>r=.returned (.string (rxR (.mk k_join num text at_ args) i))∧Below w.heap.size w w':=by
 obtain⟨A,ca⟩:=a;have HP:Hid (rxR (.mk k_join num text at_ args) i=bytesOf ([106,111,105,110,40]++sepB [44,32] (prL args)++[41])):=(by show _=_;unfold rxR;rw[prE];unfold prB;rw[if_neg (by decide),if_neg (by decide),if_neg (by decide),if_pos rfl];simp[par,Ex.sum,Ex.prod,Ex.op]);obtain⟨V,hV⟩:=ex9 (rxR (.mk k_join num text at_ args) i);rw[←hV]at HP ⊢;clear hV;have hpl:(prL args).length=args.length:=by rw[zct];simp
 have hj:prE (.mk k_join num text at_ args)=[106,111,105,110,40]++sepB [44,32] (prL args)++[41]:=by rw[prE];unfold prB;rw[if_neg (by decide),if_neg (by decide),if_neg (by decide),if_pos rfl]
 rw[hj]at hl
 have HSL:Hid (∀i,i≤args.length→(bytesOf ([106,111,105,110,40]++sepB [44,32] ((prL args).take i))).size≤1000000000):=fun i hi=>by
  have h1:=zd5 [44,32] (prL args) (args.length-i) i om;rw[sz_b];simp only[List.length_append,List.length_cons,List.length_nil]at hl ⊢;omega
 have hpi:∀i (hi:i<args.length),(prL args)[i]? = some (prE args[i]):=fun i hi=>by rw[zct,List.getElem?_map,ge9 hi];rfl
 have HS1:Hid (∀i (hi:i<args.length),0<i→sepB [44,32] ((prL args).take (i+1))=sepB [44,32] ((prL args).take i)++[44,32]++prE args[i]):=fun i hi h0=>zbx h0 (hpi i hi)
 have HS0:Hid (∀(hi:0<args.length),sepB [44,32] ((prL args).take 1)=prE args[0]):=fun hi=>zdb (hpi 0 hi)
 have HSN:Hid (sepB [44,32] ((prL args).take args.length)=sepB [44,32] (prL args)):=(by show _=_;rw[tk om])
 have HXA:Hid (∀i (hi:i<args.length) (p:Option Addr × Nat) W,ArgsIn F W p.1 args[i].args→Calls Tryz.prog 37 #[.agg (exC args[i] p).toArray,.int .i64 0] W fun r w'=>r=.returned (.string (bytesOf (prE args[i])))∧Below W.heap.size W w'):=fun i hi p W h4=>by
  have:=hx _ (List.getElem_mem hi) p 0 W om (by
   have h1:=zd5 [44,32] (prL args) (args.length-(i+1)) (i+1) om
   have h2:(prE args[i]).length≤(sepB [44,32] ((prL args).take (i+1))).length:=by
    by_cases h0:i=0
    · subst h0;rw[zdb (hpi 0 hi)];exact lr
    · rw[zbx om (hpi i hi)];simp only[List.length_append];omega
   simp only[List.length_append,List.length_cons,List.length_nil]at hl
   omega) h4
  unfold rxR at this
  simpa[par] using this
 have HZ:Hid (∀W,W=w.alloc (.cells (exC (.mk k_join num text at_ args) (A,ca)).toArray 39)→ArgsIn F W A args∧Blk W w.heap.size 39 (exC (.mk k_join num text at_ args) (A,ca))∧Below w.heap.size w W):=by
  rintro W rfl;exact⟨hA.keep (zey _),Blk.new _ _ _,(Below.refl _ _).alloc lr _⟩
 clear hA hx hpi hpl hl hj;have hn8:(args.length:Int)≤1000000:=om
 unfold exC at HZ ⊢
 dsimp only [Ex.op,Ex.num,Ex.text,Ex.at_,Ex.args]at HZ ⊢
 go_enter Tryz.func37, Tryz.ntmps37
 go_wp2
 go_loopg [5,6] args.length (fun kk v5 v6 wr=>∃(i:Nat) (S:ByteArray),v6=.int .i64 i∧v5=.string S∧S=bytesOf ([106,111,105,110,40]++sepB [44,32] ((prL args).take i))∧kk+i=args.length∧ArgsIn F wr A args∧Blk wr w.heap.size 39 [.string k_join,.int .i64 num,.string text,.int .i64 at_,.slice A args.length ca]∧Below w.heap.size w wr)
 case atStart=>exact⟨0,_,rfl,rfl,by simp[sepB];rfl,rfl,HZ.out _ rfl⟩
 case round =>
  obtain⟨i,S,rfl,rfl,hS,hk,hA,hb,hB⟩:=hrel;have hSz:S.size≤1000000000:=by rw[hS];exact HSL.out i om
  have HS:=qh hS;clear hS;have HW:=qh (And.intro hA (And.intro hb hB));have n4:wr.cell? ⟨w.heap.size,4,none⟩=some (.slice A args.length ca):=hb.cell 4;have n5:=hb.lt;clear HZ hb hB
  by_cases hi:i<args.length
  · obtain⟨b0,off,p,rfl,hb0,hc,hpa⟩:=za7 hA i hi
    have hii:(i:Int)<(args.length:Int):=om;obtain⟨E,hE⟩:=ex9 (bytesOf (prE args[i]));have HXI:=qh (HXA.out i hi p wr hpa);rw[←hE]at HXI
    have hEz:E.size≤1000000000:=by
     have h1:=HSL.out (i+1) hi;rw[sz_b]at h1;rw[hE,sz_b]
     by_cases h0:i=0
     · subst h0
       rw[HS0.out hi]at h1;simp only[List.length_append]at h1;omega
     · rw[HS1.out i hi om]at h1
       simp only[List.length_append]at h1;omega
    have HE:=qh hE;clear hE;have HSI:=qh (HS1.out i hi);have HS00:=HS0.out om;have hget:i=0→args[0]'om=args[i]:=fun h=>by subst h;rfl
    generalize args[i]=e at *;have c0:wr.cell? ⟨b0,off+i*5,none⟩=some (.string e.op):=hc 0 _ rfl;have c1:wr.cell? ⟨b0,off+i*5+1,none⟩=some (.int .i64 e.num):=by have:=hc 1 _ rfl;rw[←Nat.add_assoc]at this;exact this
    have c2:wr.cell? ⟨b0,off+i*5+2,none⟩=some (.string e.text):=by have:=hc 2 _ rfl;rw[←Nat.add_assoc]at this;exact this
    have c3:wr.cell? ⟨b0,off+i*5+3,none⟩=some (.int .i64 e.at_):=by have:=hc 3 _ rfl;rw[←Nat.add_assoc]at this;exact this
    have c4:wr.cell? ⟨b0,off+i*5+4,none⟩=some (.slice p.1 e.args.length p.2):=by have:=hc 4 _ rfl;rw[←Nat.add_assoc]at this;exact this
    clear hc hpa HXA HS1 HS0 hA HSL
    by_cases h0:i=0
    · have HE1:Hid (sepB [44,32] ((prL args).take 1)=prE e):=HS00.trans (by rw[hget h0])
      clear HS00 hget;subst h0;simp only[Nat.zero_mul,Nat.add_zero]at c0 c1 c2 c3 c4
      go_wp2_with (go_at_call 37;(refine(HXI.out).mono ?_);rintro r w5 ⟨rfl,hB5⟩;have H5:Hid (ArgsIn F w5 (some ⟨b0,off,none⟩) args∧Blk w5 w.heap.size 39 [.string k_join,.int .i64 num,.string text,.int .i64 at_,.slice (some ⟨b0,off,none⟩) args.length ca]∧Below w.heap.size w w5):=⟨HW.out.1.keep (Keep.of_below hB5 _),HW.out.2.1.below hB5 HW.out.2.1.lt,HW.out.2.2.trans (hB5.mono HW.out.2.2.size)⟩;clear hB5)
      go_roundg (args.length-1)
      case measure=>omega
      case rel=>exact⟨1,_,by simp,rfl,by rw[HE1.out,HS.out,HE.out,zab];simp[sepB],by omega,H5.out⟩
    · have hi0:(0:Int)<(i:Int):=om
      clear HS00 hget
      go_wp2_with (go_at_call 37;(refine(HXI.out).mono ?_);rintro r w5 ⟨rfl,hB5⟩;have H5:Hid (ArgsIn F w5 (some ⟨b0,off,none⟩) args∧Blk w5 w.heap.size 39 [.string k_join,.int .i64 num,.string text,.int .i64 at_,.slice (some ⟨b0,off,none⟩) args.length ca]∧Below w.heap.size w w5):=⟨HW.out.1.keep (Keep.of_below hB5 _),HW.out.2.1.below hB5 HW.out.2.1.lt,HW.out.2.2.trans (hB5.mono HW.out.2.2.size)⟩;clear hB5)
      go_roundg (args.length-(i+1))
      case measure=>omega
      case rel=>exact⟨i+1,_,by simp,rfl,by rw[HSI.out om,HS.out,HE.out];rw[show({ data:=#[44,32] } : ByteArray)=bytesOf [44,32] from rfl,zab,zab];simp[List.append_assoc],by omega,H5.out⟩
  · have hii:¬(i:Int)<(args.length:Int):=om
    obtain rfl:i=args.length:=om;clear HXA HS0 HS1 hA HSL;go_wp2;go_ret;exact⟨by rw[HP.out,←HSN.out,←zab,←HS.out];rfl,HW.out.2.2⟩
theorem rx_pm{F:Nat→Prop}(K:ByteArray)(hK:K=m_plus∨K=m_minus)(num:Int)(text:ByteArray)(at_:Int)(x y:Ex)(a:Option Addr × Nat)(i:Nat)(w:World)(hi:i≤3)(hx:∀a,RxK x a F)(hy:∀a,RxK y a F)(hl:(prE (.mk K num text at_ [x,y])).length+10≤1000000000)(hA:ArgsIn F w a.1 [x,y]):Calls Tryz.prog 37 #[.agg (exC (.mk K num text at_ [x,y]) a).toArray,.int .i64 i] w fun r w'=>r=.returned (.string (rxR (.mk K num text at_ [x,y]) i))∧Below w.heap.size w w':=by
 obtain⟨A,ca⟩:=a;obtain⟨b0,off,p1,rfl,hb0,hc1,hpa1⟩:=za7 hA 0 sy;obtain⟨b0',off',p2,e2,_,hc2,hpa2⟩:=za7 hA 1 sy;obtain⟨rfl,rfl⟩:b0=b0'∧off=off':=by simpa using e2
 obtain⟨AX,hAX⟩:=ex9 (prE x);obtain⟨AY,hAY⟩:=ex9 (par y.sum (prE y));have HP:Hid (rxR (.mk K num text at_ [x,y]) i=bytesOf (par (decide (2≤i)) (AX++[32]++tx K++[32]++AY))):=(by show _=_;unfold rxR;rw[zcd _ _ _ _ _ _ (hK.elim .inl fun h=>.inr (.inl h)),show decide (K=m_star)=false by rcases hK with h|h <;> rw[h] <;> decide,show(Ex.mk K num text at_ [x,y]).sum=true by rcases hK with h|h <;> rw[h] <;> simp[Ex.sum,Ex.op,Ex.args],show(Ex.mk K num text at_ [x,y]).prod=false by rcases hK with h|h <;> rw[h] <;> simp[Ex.prod,Ex.op,Ex.args]];subst hAX hAY;simp[par_f,List.append_assoc]);obtain⟨V,hV⟩:=ex9 (rxR (.mk K num text at_ [x,y]) i);rw[←hV]at HP ⊢;clear hV
 have HLA:Hid ((prE x).length+10≤1000000000∧(prE y).length+10≤1000000000∧AX.length+AY.length+10≤1000000000):=by
  rw[zcd _ _ _ _ _ _ (hK.elim .inl fun h=>.inr (.inl h)),show decide (K=m_star)=false by rcases hK with h|h <;> rw[h] <;> decide]at hl;have h1:=zfj x.sum (prE x);have h2:=zfj y.sum (prE y);have h3:=zfj (y.sum || y.prod) (prE y);subst hAX hAY;refine⟨?_,?_,?_⟩ <;> (simp[par_f]at hl ⊢ <;> omega)
 have HX1:Hid (∀W,Below w.heap.size w W→Calls Tryz.prog 37 #[.agg (exC x p1).toArray,.int .i64 1] W fun r w'=>r=.returned (.string (bytesOf AX))∧Below W.heap.size W w'):=fun W hW=>by
  have h1:=hx p1 1 W om HLA.out.1 (hpa1.keep (Keep.of_below hW F))
  unfold rxR at h1
  subst hAX
  simpa[par_f] using h1
 have HX2:Hid (∀W,Below w.heap.size w W→Calls Tryz.prog 37 #[.agg (exC y p2).toArray,.int .i64 2] W fun r w'=>r=.returned (.string (bytesOf AY))∧Below W.heap.size W w'):=fun W hW=>by
  have h1:=hy p2 2 W om HLA.out.2.1 (hpa2.keep (Keep.of_below hW F))
  unfold rxR at h1
  subst hAY
  simpa[par_f] using h1
 have HC:Hid (∀W,Below w.heap.size w W→W.rangeAt b0 (off+0*5) (exC x p1)∧W.rangeAt b0 (off+1*5) (exC y p2)):=fun W hW=>⟨fun q v hv=>(World.cell?_of_block (a:=⟨b0,off+0*5+q,none⟩) (hW.block b0 hb0)).trans (by have:=hc1 q v hv;rw[←Nat.add_assoc]at this;exact this),fun q v hv=>(World.cell?_of_block (a:=⟨b0,off+1*5+q,none⟩) (hW.block b0 hb0)).trans (by have:=hc2 q v hv;rw[←Nat.add_assoc]at this;exact this)⟩
 clear hA hx hy hl hc1 hc2 hpa1 hpa2 e2 hAX hAY;obtain⟨CX,hCX⟩:=ex9 (exC x p1);obtain⟨CY,hCY⟩:=ex9 (exC y p2);rw[←hCX]at HX1 HC;rw[←hCY]at HX2 HC;have HCC:Hid (CX.length=5∧CY.length=5):=⟨hCX ▸ rfl,hCY ▸ rfl⟩;clear hCX hCY
 unfold exC
 dsimp only [Ex.op,Ex.num,Ex.text,Ex.at_,Ex.args,List.length];have x1:(K.toList == [110,117,109,98,101,114])=false:=strl (by rcases hK with h|h <;> rw[h] <;> decide);have x2:(K.toList == [110,97,109,101])=false:=strl (by rcases hK with h|h <;> rw[h] <;> decide);have x3:(K.toList == [116,101,120,116])=false:=strl (by rcases hK with h|h <;> rw[h] <;> decide);have x4:(K.toList == [106,111,105,110])=false:=strl (by rcases hK with h|h <;> rw[h] <;> decide)
 have hpm:(K.toList == [43])=true∨((K.toList == [43])=false∧(K.toList == [45])=true):=by
  rcases hK with h|h
  · left;rw[h];kernel_rfl
  · right;exact⟨strl (by rw[h];decide),by rw[h];kernel_rfl⟩
 have szK:K.size=1:=by rcases hK with h|h <;> rw[h] <;> rfl
 clear hK
 go_enter Tryz.func37, Tryz.ntmps37
 rcases hpm with xp|⟨xp,xm⟩
 all_goals go_upto_region 20 with fail
 all_goals
   obtain⟨W0,hW0⟩:=ex9 (w.alloc (.cells #[.string K,.int .i64 num,.string text,.int .i64 at_,.slice (some ⟨b0,off,none⟩) 2 ca] 39))
   have HZ0:Hid (Below w.heap.size w W0∧Blk W0 w.heap.size 39 [.string K,.int .i64 num,.string text,.int .i64 at_,.slice (some ⟨b0,off,none⟩) 2 ca]∧W0.heap.size=w.heap.size+1):=by
    subst hW0;exact⟨(Below.refl _ _).alloc lr _,Blk.new _ _ _,by simp⟩
   rw[←hW0];clear hW0;have hT:Below W0.heap.size W0 W0.drew:=Below.drew (Below.refl _ _);have HSLC:Hid (∀W,Below W0.heap.size W0 W→W.cell? ⟨w.heap.size,4,none⟩=some (.slice (some ⟨b0,off,none⟩) 2 ca)∧W.rangeAt b0 (off+0*5) CX∧W.rangeAt b0 (off+1*5) CY∧W.cell? ⟨w.heap.size,0,none⟩=some (.string K)∧Below w.heap.size w W):=fun W hW=>⟨(HZ0.out.2.1.below hW HZ0.out.2.1.lt).cell 4,(HC.out W (HZ0.out.1.trans (hW.mono (by have:=HZ0.out.2.2;omega)))).1,(HC.out W (HZ0.out.1.trans (hW.mono (by have:=HZ0.out.2.2;omega)))).2,(HZ0.out.2.1.below hW HZ0.out.2.1.lt).cell 0,HZ0.out.1.trans (hW.mono (by have:=HZ0.out.2.2;omega))⟩
   refine kgo kr 16 (fun W=>Below W0.heap.size W0 W) hT (fun _ _ _ _ _ h=>h) ?_;refine kp 0 (.pointer (some ⟨w.heap.size,4,none⟩)) rfl kr (fun _=>kr) ?_;refine kl 1 (.slice (some ⟨b0,off,none⟩) 2 ca) rfl kr (fun w' hw'=>zaj (t:=37) (x:=.tmp 56) rr kr agSlx (HSLC.out w' hw').1) ?_;refine kp 2 (.pointer (some ⟨b0,off+0*5,none⟩)) rfl kr (fun _=>za0 (t:=37) (x:=.tmp 57) (y:=.const (.int .i64 0)) (g:=b0) (off:=off) (n:=2) (c:=ca) (p:=0) rr kr kr om Tryz.underlying37 szEx5) ?_;refine kl 3 (.agg CX.toArray) rfl kr (fun w' hw'=>zae rfl kr (run_loadAt_mid w' b0 (off+0*5) 39 CX _ (HSLC.out w' hw').2.1 Tryz.underlying39 rfl (by rw[HCC.out.1];exact hdEx))) ?_;refine kp 6 (.pointer (some ⟨w.heap.size,0,none⟩)) rfl kr (fun _=>kr) ?_;refine kl 7 (.string K) rfl kr (fun w' hw'=>zaj (t:=9) (x:=.tmp 62) rr kr agStr (HSLC.out w' hw').2.2.2.1) ?_;refine kp 10 (.pointer (some ⟨w.heap.size,4,none⟩)) rfl kr (fun _=>kr) ?_;refine kl 11 (.slice (some ⟨b0,off,none⟩) 2 ca) rfl kr (fun w' hw'=>zaj (t:=37) (x:=.tmp 66) rr kr agSlx (HSLC.out w' hw').1) ?_;refine kp 12 (.pointer (some ⟨b0,off+1*5,none⟩)) rfl kr (fun _=>za0 (t:=37) (x:=.tmp 67) (y:=.const (.int .i64 1)) (g:=b0) (off:=off) (n:=2) (c:=ca) (p:=1) rr kr kr om Tryz.underlying37 szEx5) ?_;refine kl 13 (.agg CY.toArray) rfl kr (fun w' hw'=>zae rfl kr (run_loadAt_mid w' b0 (off+1*5) 39 CY _ (HSLC.out w' hw').2.2.1 Tryz.underlying39 rfl (by rw[HCC.out.2];exact hdEx))) ?_;intro q8 q9;clear q8 q9;refine AnyK.enter 4 (d:=some 60) (f:=37) (args:=#[.agg CX.toArray,.int .i64 1]) rr kr kr ?_;refine(HX1.out _ (HSLC.out _ hT).2.2.2.2).mono ?_;rintro r w1 ⟨rfl,hB1⟩;have hT1:Below W0.heap.size W0 w1:=hT.trans hB1;refine⟨_,rfl,fun _=>hT1,?_⟩
   have HCT:Hid ((bytesOf AX).size+({ data:=#[32] } : ByteArray).size≤9223372036854775807∧(bytesOf AX++{ data:=#[32] }).size+K.size≤9223372036854775807∧(bytesOf AX++{ data:=#[32] }++K).size+({ data:=#[32] } : ByteArray).size≤9223372036854775807∧(bytesOf AX++{ data:=#[32] }++K++{ data:=#[32] }).size+(bytesOf AY).size≤9223372036854775807∧True):=by
    have h1:=HLA.out.2.2;refine⟨?_,?_,?_,?_,trivial⟩ <;> (simp only[ByteArray.size_append,sz_b,szz1,szK];omega)
   refine AnyK.pure 5 (v:=.string (bytesOf AX++{ data:=#[32] })) rfl kr (fun _ _ _ h=>h) rfl (fun _=>zak rr kr kr HCT.out.1) (fun _=>hT1) ?_;refine AnyK.pure 8 (v:=.string (bytesOf AX++{ data:=#[32] }++K)) rfl kr (fun _ _ _ h=>h) rfl (fun _=>zak rr kr kr HCT.out.2.1) (fun _=>hT1) ?_;refine AnyK.pure 9 (v:=.string (bytesOf AX++{ data:=#[32] }++K++{ data:=#[32] })) rfl kr (fun _ _ _ h=>h) rfl (fun _=>zak rr kr kr HCT.out.2.2.1) (fun _=>hT1) ?_;refine AnyK.enter 14 (d:=some 70) (f:=37) (args:=#[.agg CY.toArray,.int .i64 2]) rr kr kr ?_;refine(HX2.out _ (HSLC.out _ hT1).2.2.2.2).mono ?_;rintro r w2 ⟨rfl,hB2⟩;have hT2:Below W0.heap.size W0 w2:=hT1.trans (hB2.mono hT1.size);refine⟨_,rfl,fun _=>hT2,?_⟩;obtain⟨S,hS⟩:=ex9 (bytesOf AX++{ data:=#[32] }++K++{ data:=#[32] }++bytesOf AY)
   have hSz:S.size≤1000000100:=by
    have h1:=HLA.out.2.2;rw[hS];simp only[ByteArray.size_append,sz_b,szz1,szK];omega
   refine AnyK.pure 15 (v:=.string S) rfl kr (fun _ _ _ h=>h) rfl (fun _=>by rw[hS];exact zak rr kr kr HCT.out.2.2.2.1) (fun _=>hT2) ?_;refine AnyK.val 16 (v:=.string S) rr kr rfl kr (fun h=>(by cases h)) ?_;have HEQ:Hid (S=bytesOf (AX++[32]++tx K++[32]++AY)):=(by show _=_;rw[hS,show({ data:=#[32] } : ByteArray)=bytesOf [32] from rfl,show K=bytesOf (tx K) from (zaw _).symm,zab,zab,zab,zab];simp[tx,bytesOf,List.append_assoc]);have HB9:Hid (Below w.heap.size w w2):=(HSLC.out _ hT2).2.2.2.2;refine AnyK.done ?_ ?_
   · kernel_rfl
   clear hS HCT hT hT1 hT2 HSLC HC HX1 HX2 hB1 hB2
   by_cases hb:2≤i
   · have hbi:(2:Int)≤(i:Int):=om
     go_wp2;go_ret;refine⟨?_,HB9.out⟩;rw[HP.out,decide_eq_true hb,par_t,show ∀L:List UInt8,(40 :: (L++[41]):List UInt8)=[40]++L++[41] from fun _=>rfl,←zab,←zab,←HEQ.out]
     rfl
   · have hbi:¬(2:Int)≤(i:Int):=om
     go_wp2;go_ret;refine⟨?_,HB9.out⟩;rw[HP.out,decide_eq_false hb,par_f,←HEQ.out]
     rfl
theorem zp7{F:Nat→Prop}(num:Int)(text:ByteArray)(at_:Int)(x y:Ex)(a:Option Addr × Nat)(i:Nat)(w:World)(hi:i≤3)(hx:∀a,RxK x a F)(hy:∀a,RxK y a F)(hl:(prE (.mk m_star num text at_ [x,y])).length+10≤1000000000)(hA:ArgsIn F w a.1 [x,y]):Calls Tryz.prog 37 #[.agg (exC (.mk m_star num text at_ [x,y]) a).toArray,.int .i64 i] w fun r w'=>r=.returned (.string (rxR (.mk m_star num text at_ [x,y]) i))∧Below w.heap.size w w':=by
 obtain⟨A,ca⟩:=a;obtain⟨b0,off,p1,rfl,hb0,hc1,hpa1⟩:=za7 hA 0 sy;obtain⟨b0',off',p2,e2,_,hc2,hpa2⟩:=za7 hA 1 sy;obtain⟨rfl,rfl⟩:b0=b0'∧off=off':=by simpa using e2
 obtain⟨AX,hAX⟩:=ex9 (par x.sum (prE x));obtain⟨AY,hAY⟩:=ex9 (par (y.sum || y.prod) (prE y));have HP:Hid (rxR (.mk m_star num text at_ [x,y]) i=bytesOf (par (decide (3≤i)) (AX++[32]++tx m_star++[32]++AY))):=(by show _=_;unfold rxR;rw[zcd _ _ _ _ _ _ sy];subst hAX hAY;simp[Ex.sum,Ex.prod,Ex.op,Ex.args,par_f,List.append_assoc]);obtain⟨V,hV⟩:=ex9 (rxR (.mk m_star num text at_ [x,y]) i);rw[←hV]at HP ⊢;clear hV
 have HLA:Hid ((prE x).length+10≤1000000000∧(prE y).length+10≤1000000000∧AX.length+AY.length+10≤1000000000):=by
  rw[zcd _ _ _ _ _ _ sy]at hl;have h1:=zfj x.sum (prE x);have h2:=zfj y.sum (prE y);have h3:=zfj (y.sum || y.prod) (prE y);subst hAX hAY;refine⟨?_,?_,?_⟩ <;> (simp[par_f]at hl ⊢ <;> omega)
 have HX1:Hid (∀W,Below w.heap.size w W→Calls Tryz.prog 37 #[.agg (exC x p1).toArray,.int .i64 2] W fun r w'=>r=.returned (.string (bytesOf AX))∧Below W.heap.size W w'):=fun W hW=>by
  have h1:=hx p1 2 W om HLA.out.1 (hpa1.keep (Keep.of_below hW F))
  unfold rxR at h1
  subst hAX
  simpa[par_f] using h1
 have HX2:Hid (∀W,Below w.heap.size w W→Calls Tryz.prog 37 #[.agg (exC y p2).toArray,.int .i64 3] W fun r w'=>r=.returned (.string (bytesOf AY))∧Below W.heap.size W w'):=fun W hW=>by
  have h1:=hy p2 3 W om HLA.out.2.1 (hpa2.keep (Keep.of_below hW F))
  unfold rxR at h1
  subst hAY
  simpa[par_f] using h1
 have HC:Hid (∀W,Below w.heap.size w W→W.rangeAt b0 (off+0*5) (exC x p1)∧W.rangeAt b0 (off+1*5) (exC y p2)):=fun W hW=>⟨fun q v hv=>(World.cell?_of_block (a:=⟨b0,off+0*5+q,none⟩) (hW.block b0 hb0)).trans (by have:=hc1 q v hv;rw[←Nat.add_assoc]at this;exact this),fun q v hv=>(World.cell?_of_block (a:=⟨b0,off+1*5+q,none⟩) (hW.block b0 hb0)).trans (by have:=hc2 q v hv;rw[←Nat.add_assoc]at this;exact this)⟩
 clear hA hx hy hl hc1 hc2 hpa1 hpa2 e2 hAX hAY;obtain⟨CX,hCX⟩:=ex9 (exC x p1);obtain⟨CY,hCY⟩:=ex9 (exC y p2);rw[←hCX]at HX1 HC;rw[←hCY]at HX2 HC;have HCC:Hid (CX.length=5∧CY.length=5):=⟨hCX ▸ rfl,hCY ▸ rfl⟩;clear hCX hCY
 unfold exC
 dsimp only [Ex.op,Ex.num,Ex.text,Ex.at_,Ex.args,List.length]
 go_enter Tryz.func37, Tryz.ntmps37
 go_upto_region 26 with fail
 obtain⟨W0,hW0⟩:=ex9 (w.alloc (.cells #[.string m_star,.int .i64 num,.string text,.int .i64 at_,.slice (some ⟨b0,off,none⟩) 2 ca] 39))
 have HZ0:Hid (Below w.heap.size w W0∧Blk W0 w.heap.size 39 [.string m_star,.int .i64 num,.string text,.int .i64 at_,.slice (some ⟨b0,off,none⟩) 2 ca]∧W0.heap.size=w.heap.size+1):=by
  subst hW0;exact⟨(Below.refl _ _).alloc lr _,Blk.new _ _ _,by simp⟩
 rw[←hW0];clear hW0;have hT:Below W0.heap.size W0 W0.drew:=Below.drew (Below.refl _ _);have HSLC:Hid (∀W,Below W0.heap.size W0 W→W.cell? ⟨w.heap.size,4,none⟩=some (.slice (some ⟨b0,off,none⟩) 2 ca)∧W.rangeAt b0 (off+0*5) CX∧W.rangeAt b0 (off+1*5) CY∧W.cell? ⟨w.heap.size,0,none⟩=some (.string m_star)∧Below w.heap.size w W):=fun W hW=>⟨(HZ0.out.2.1.below hW HZ0.out.2.1.lt).cell 4,(HC.out W (HZ0.out.1.trans (hW.mono (by have:=HZ0.out.2.2;omega)))).1,(HC.out W (HZ0.out.1.trans (hW.mono (by have:=HZ0.out.2.2;omega)))).2,(HZ0.out.2.1.below hW HZ0.out.2.1.lt).cell 0,HZ0.out.1.trans (hW.mono (by have:=HZ0.out.2.2;omega))⟩
 refine kgo kr 12 (fun W=>Below W0.heap.size W0 W) hT (fun _ _ _ _ _ h=>h) ?_;refine kp 0 (.pointer (some ⟨w.heap.size,4,none⟩)) rfl kr (fun _=>kr) ?_;refine kl 1 (.slice (some ⟨b0,off,none⟩) 2 ca) rfl kr (fun w' hw'=>zaj (t:=37) (x:=.tmp 84) rr kr agSlx (HSLC.out w' hw').1) ?_;refine kp 2 (.pointer (some ⟨b0,off+0*5,none⟩)) rfl kr (fun _=>za0 (t:=37) (x:=.tmp 85) (y:=.const (.int .i64 0)) (g:=b0) (off:=off) (n:=2) (c:=ca) (p:=0) rr kr kr om Tryz.underlying37 szEx5) ?_;refine kl 3 (.agg CX.toArray) rfl kr (fun w' hw'=>zae rfl kr (run_loadAt_mid w' b0 (off+0*5) 39 CX _ (HSLC.out w' hw').2.1 Tryz.underlying39 rfl (by rw[HCC.out.1];exact hdEx))) ?_;refine kp 6 (.pointer (some ⟨w.heap.size,4,none⟩)) rfl kr (fun _=>kr) ?_;refine kl 7 (.slice (some ⟨b0,off,none⟩) 2 ca) rfl kr (fun w' hw'=>zaj (t:=37) (x:=.tmp 90) rr kr agSlx (HSLC.out w' hw').1) ?_;refine kp 8 (.pointer (some ⟨b0,off+1*5,none⟩)) rfl kr (fun _=>za0 (t:=37) (x:=.tmp 91) (y:=.const (.int .i64 1)) (g:=b0) (off:=off) (n:=2) (c:=ca) (p:=1) rr kr kr om Tryz.underlying37 szEx5) ?_;refine kl 9 (.agg CY.toArray) rfl kr (fun w' hw'=>zae rfl kr (run_loadAt_mid w' b0 (off+1*5) 39 CY _ (HSLC.out w' hw').2.2.1 Tryz.underlying39 rfl (by rw[HCC.out.2];exact hdEx))) ?_;intro q8 q9;clear q8 q9;refine AnyK.enter 4 (d:=some 88) (f:=37) (args:=#[.agg CX.toArray,.int .i64 2]) rr kr kr ?_;refine(HX1.out _ (HSLC.out _ hT).2.2.2.2).mono ?_;rintro r w1 ⟨rfl,hB1⟩;have hT1:Below W0.heap.size W0 w1:=hT.trans hB1;refine⟨_,rfl,fun _=>hT1,?_⟩
 have HCT:Hid ((bytesOf AX).size+({ data:=#[32,42,32] } : ByteArray).size≤9223372036854775807∧(bytesOf AX++{ data:=#[32,42,32] }).size+(bytesOf AY).size≤9223372036854775807∧True):=by
  have h1:=HLA.out.2.2;refine⟨?_,?_,trivial⟩ <;> (simp only[ByteArray.size_append,sz_b,szz3];omega)
 refine AnyK.pure 5 (v:=.string (bytesOf AX++{ data:=#[32,42,32] })) rfl kr (fun _ _ _ h=>h) rfl (fun _=>zak rr kr kr HCT.out.1) (fun _=>hT1) ?_;refine AnyK.enter 10 (d:=some 94) (f:=37) (args:=#[.agg CY.toArray,.int .i64 3]) rr kr kr ?_;refine(HX2.out _ (HSLC.out _ hT1).2.2.2.2).mono ?_;rintro r w2 ⟨rfl,hB2⟩;have hT2:Below W0.heap.size W0 w2:=hT1.trans (hB2.mono hT1.size);refine⟨_,rfl,fun _=>hT2,?_⟩;obtain⟨S,hS⟩:=ex9 (bytesOf AX++{ data:=#[32,42,32] }++bytesOf AY)
 have hSz:S.size≤1000000100:=by
  have h1:=HLA.out.2.2;rw[hS];simp only[ByteArray.size_append,sz_b,szz3];omega
 refine AnyK.pure 11 (v:=.string S) rfl kr (fun _ _ _ h=>h) rfl (fun _=>by rw[hS];exact zak rr kr kr HCT.out.2.1) (fun _=>hT2) ?_;refine AnyK.val 12 (v:=.string S) rr kr rfl kr (fun h=>(by cases h)) ?_;have HEQ:Hid (S=bytesOf (AX++[32]++tx m_star++[32]++AY)):=(by show _=_;rw[hS,show({ data:=#[32,42,32] } : ByteArray)=bytesOf [32,42,32] from rfl,zab,zab];simp[tx,bytesOf,List.append_assoc]);have HB9:Hid (Below w.heap.size w w2):=(HSLC.out _ hT2).2.2.2.2;refine AnyK.done ?_ ?_
 · kernel_rfl
 clear hS HCT hT hT1 hT2 HSLC HC HX1 HX2 hB1 hB2
 by_cases hb:3≤i
 · have hbi:(3:Int)≤(i:Int):=om
   go_wp2;go_ret;refine⟨?_,HB9.out⟩;rw[HP.out,decide_eq_true hb,par_t,show ∀L:List UInt8,(40 :: (L++[41]):List UInt8)=[40]++L++[41] from fun _=>rfl,←zab,←zab,←HEQ.out]
   rfl
 · have hbi:¬(3:Int)≤(i:Int):=om
   go_wp2;go_ret;refine⟨?_,HB9.out⟩;rw[HP.out,decide_eq_false hb,par_f,←HEQ.out]
   rfl
theorem zci{F:Nat→Prop}{e:Ex}(h:ExOk e):∀a,RxK e a F:=by
 induction h with
 | mk op num text at_ args h0 h1 h2 h3 hi ih =>
  intro a i w hi3 hl hA
  by_cases e1:op=k_number
  · subst e1;exact zko num text at_ args a i w h0 h1
  by_cases e2:op=k_name
  · subst e2;exact zp9 num text at_ args a i w
  by_cases e3:op=k_text
  · subst e3;exact zp6 num text at_ args a i w h2
  by_cases e4:op=k_join
  · subst e4;exact zqa num text at_ args a i w h3 ih hl hA
  by_cases e5:op=m_plus∨op=m_minus∨op=m_star
  · by_cases hn:args.length=2
    · match args,hn,ih,hA with
      | [x,y],_,ih,hA =>
       have hx:=ih x sy;have hy:=ih y sy
       rcases e5 with h5|h5|rfl
       · exact rx_pm op (.inl h5) num text at_ x y a i w hi3 hx hy hl hA
       · exact rx_pm op (.inr h5) num text at_ x y a i w hi3 hx hy hl hA
       · exact zp7 num text at_ x y a i w hi3 hx hy hl hA
    · exact rx_bad op e5 num text at_ args a i w hn
  · exact zp8 op e1 e2 e3 e4 (fun h=>e5 (.inl h)) (fun h=>e5 (.inr (.inl h))) (fun h=>e5 (.inr (.inr h))) num text at_ args a i w
end
end
section
theorem zgs(v:Value):Instr.loadAt 39 v=ldAt 39 v:=rfl
def RW(w:World)(f:FuncId)(vs:List Value)(X:ByteArray):Prop:=∀W,Below w.heap.size w W→Calls Tryz.prog f vs.toArray W fun r w'=>r=.returned (.string X)∧Below W.heap.size W w'
def rHd(s:St):List UInt8 :=
 if s.kind=k_after then [97,102,116,101,114,32]++prE s.ea
 else if s.kind=k_repeat then [114,101,112,101,97,116,32]++tx s.name.name++[32]++prE s.ea
 else if s.kind=k_if then [105,102,32,97,99,107,101,100,32]++tx s.tag.name
 else prLine s.kind s.name s.ea s.eb s.ec s.routes s.block s.tag
def isB(s:St):Bool:=decide (s.kind=k_after)|| decide (s.kind=k_repeat)|| decide (s.kind=k_if)
structure LIn(F:Nat→Prop)(w:World)(s:St)(p:StA):Prop where
 a:ArgsIn F w p.a.1 s.ea.args
 b:ArgsIn F w p.b.1 s.eb.args
 c:ArgsIn F w p.c.1 s.ec.args
 r:RfsIn F w p.r.1 s.routes
 oa:ExOk s.ea
 ob:ExOk s.eb
 oc:ExOk s.ec
 hr:s.routes.length≤1000000
section
variable(s:St)(p:StA)
theorem stC_a(j:Nat)(v:Value)(h:(exC s.ea p.a)[j]? = some v):(stC s p)[4+j]? = some v:=by
 have hj:=(gi9.1 h).1;rw[show(exC s.ea p.a).length=5 from rfl]at hj
 match j,hj with
 | 0,_=>exact h
 | 1,_=>exact h
 | 2,_=>exact h
 | 3,_=>exact h
 | 4,_=>exact h
theorem stC_b(j:Nat)(v:Value)(h:(exC s.eb p.b)[j]? = some v):(stC s p)[9+j]? = some v:=by
 have hj:=(gi9.1 h).1;rw[show(exC s.eb p.b).length=5 from rfl]at hj
 match j,hj with
 | 0,_=>exact h
 | 1,_=>exact h
 | 2,_=>exact h
 | 3,_=>exact h
 | 4,_=>exact h
theorem stC_c(j:Nat)(v:Value)(h:(exC s.ec p.c)[j]? = some v):(stC s p)[14+j]? = some v:=by
 have hj:=(gi9.1 h).1;rw[show(exC s.ec p.c).length=5 from rfl]at hj
 match j,hj with
 | 0,_=>exact h
 | 1,_=>exact h
 | 2,_=>exact h
 | 3,_=>exact h
 | 4,_=>exact h
theorem stC_w(j:Nat)(v:Value)(h:(rfC s.block)[j]? = some v):(stC s p)[20+j]? = some v:=by
 have hj:=(gi9.1 h).1;rw[show(rfC s.block).length=2 from rfl]at hj
 match j,hj with
 | 0,_=>exact h
 | 1,_=>exact h
theorem stC_t(j:Nat)(v:Value)(h:(rfC s.tag)[j]? = some v):(stC s p)[22+j]? = some v:=by
 have hj:=(gi9.1 h).1;rw[show(rfC s.tag).length=2 from rfl]at hj
 match j,hj with
 | 0,_=>exact h
 | 1,_=>exact h
end
theorem zgh(kind:ByteArray)(at_:Int)(name:Rf)(a b c:Ex)(routes:List Rf)(block tag:Rf)(body els:List St):rHd (.mk kind at_ name a b c routes block tag body els)=if kind=k_after then [97,102,116,101,114,32]++prE a else if kind=k_repeat then [114,101,112,101,97,116,32]++tx name.name++[32]++prE a else if kind=k_if then [105,102,32,97,99,107,101,100,32]++tx tag.name else prLine kind name a b c routes block tag:=rfl
theorem zgv(kind:ByteArray)(at_:Int)(name:Rf)(a b c:Ex)(routes:List Rf)(block tag:Rf)(body els:List St):isB (.mk kind at_ name a b c routes block tag body els)=(decide (kind=k_after)|| decide (kind=k_repeat)|| decide (kind=k_if)):=rfl
theorem isB_k{K:ByteArray}{at_:Int}{name:Rf}{a b c:Ex}{routes:List Rf}{block tag:Rf}{body els:List St}(h:(decide (K=k_after)|| decide (K=k_repeat)|| decide (K=k_if))=false):isB (.mk K at_ name a b c routes block tag body els)=false:=h
theorem isB_t{s:St}(h:s.kind=k_after∨s.kind=k_repeat∨s.kind=k_if):isB s=true:=by
 unfold isB
 rcases h with h|h|h
 · rw[decide_eq_true h];rfl
 · rw[decide_eq_true h,Bool.or_true];rfl
 · rw[decide_eq_true h,Bool.or_true]
theorem zgj{s:St}(d:Nat)(h:isB s=false):prSt s d=rHd s++[59,10]:=by
 obtain⟨kind,at_,name,a,b,c,routes,block,tag,body,els⟩:=s;rw[zgv,Bool.or_eq_false_iff,Bool.or_eq_false_iff]at h;have h1:¬kind=k_after:=of_decide_eq_false h.1.1;have h2:¬kind=k_repeat:=of_decide_eq_false h.1.2;have h3:¬kind=k_if:=of_decide_eq_false h.2;rw[prSt,if_neg h1,if_neg h2,if_neg h3,zgh,if_neg h1,if_neg h2,if_neg h3,as9]
 rfl
theorem zcs{s:St}(d:Nat)(h:isB s=true)(he:s.kind=k_if→s.els=[]):prSt s d=rHd s++prBody d (prSs s.body (d+1))++[10]:=by
 obtain⟨kind,at_,name,a,b,c,routes,block,tag,body,els⟩:=s;rw[zgv,Bool.or_eq_true,Bool.or_eq_true]at h;dsimp only [St.kind,St.els]at he
 by_cases h1:kind=k_after
 · rw[prSt,if_pos h1,zgh,if_pos h1]
   rfl
 · by_cases h2:kind=k_repeat
   · rw[prSt,if_neg h1,if_pos h2,zgh,if_neg h1,if_pos h2]
     rfl
   · have h3:kind=k_if:=by rcases h with (h|h)| h;exact absurd (of_decide_eq_true h) h1;exact absurd (of_decide_eq_true h) h2;exact of_decide_eq_true h
     have h4:=he h3;subst h4;rw[prSt,if_neg h1,if_neg h2,if_pos h3,zgh,if_neg h1,if_neg h2,if_pos h3]
     simp[St.body]
theorem zgk{s:St}(d:Nat)(h3:s.kind=k_if)(he:s.els≠[]):prSt s d=rHd s++prBody d (prSs s.body (d+1))++([32,101,108,115,101]++prBody d (prSs s.els (d+1)))++[10]:=by
 obtain⟨kind,at_,name,a,b,c,routes,block,tag,body,els⟩:=s;dsimp only [St.kind,St.els]at h3 he;have h1:¬kind=k_after:=by rw[h3];decide
 have h2:¬kind=k_repeat:=by rw[h3];decide
 rw[prSt,if_neg h1,if_neg h2,if_pos h3,zgh,if_neg h1,if_neg h2,if_pos h3]
 cases els with
 | nil=>exact absurd rfl he
 | cons x l=>simp only[List.isEmpty_cons,Bool.false_eq_true,if_false,St.body,St.els,List.append_assoc]
theorem zeq(d:Nat)(ss:List St)(i:Nat)(hi:i<ss.length):prSs (ss.take (i+1)) d=prSs (ss.take i) d++(ind d++prSt ss[i] d):=by
 rw[List.take_add_one,ge9 hi]
 show prSs (ss.take i++[ss[i]]) d=_
 rw[zed,zfz]
theorem zhj(d:Nat)(ss:List St)(i:Nat):(prSs (ss.take i) d).length≤(prSs ss d).length:=by
 have h:=zed d (ss.take i) (ss.drop i);rw[List.take_append_drop]at h;rw[h,la9];omega
theorem WfS.kinds{ts:List Lx.Tok}{s:St}(h:WfS ts s):isB s=false∨(s.kind=k_after∧s.els=[])∨(s.kind=k_repeat∧s.els=[])∨s.kind=k_if:=by
 cases h with
 | after=>exact .inr (.inl ⟨rfl,rfl⟩)
 | repeat_=>exact .inr (.inr (.inl ⟨rfl,rfl⟩))
 | if_=>exact .inr (.inr (.inr rfl))
 | _=>exact .inl (isB_k (by decide))
theorem LIn.keep{F G:Nat→Prop}{w w':World}(hk:Keep F G w w'){s:St}{p:StA}(h:LIn F w s p):LIn G w' s p:=⟨h.a.keep hk,h.b.keep hk,h.c.keep hk,h.r.keep hk,h.oa,h.ob,h.oc,h.hr⟩
theorem LIn.of{F:Nat→Prop}{w:World}{ts:List Lx.Tok}(hT:TkOk ts){s:St}(h:WfS ts s){p:StA}(hin:StIn F w s p):LIn F w s p:=by
 cases h.ok hT with
 | mk _ _ _ _ _ _ _ _ _ _ _ ha hb hc hr _ _ _ _=>exact⟨hin.1.1,hin.1.2.1,hin.1.2.2.1,hin.1.2.2.2,ha,hb,hc,hr⟩
theorem WfS.kinds2{ts:List Lx.Tok}{s:St}(h:WfS ts s):isB s=false∨(isB s=true∧s.kind≠k_if)∨s.kind=k_if:=by
 rcases h.kinds with h|h|h|h
 · exact .inl h
 · exact .inr (.inl ⟨isB_t (.inl h.1),by rw[h.1];decide⟩)
 · exact .inr (.inl ⟨isB_t (.inr (.inl h.1)),by rw[h.1];decide⟩)
 · exact .inr (.inr h)
end
end Go.Proofs.YtafjkbbiaopemaaGreatDoor.Tr
