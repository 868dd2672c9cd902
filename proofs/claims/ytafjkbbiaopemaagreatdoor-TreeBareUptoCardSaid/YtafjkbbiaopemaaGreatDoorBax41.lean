/- Part of the proof. -/
import Derived.Deep.DeepCutAuto
import Derived.Test.YtafjkbbiaopemaaGreatDoorBax36
set_option linter.all false
set_option maxRecDepth 100000
set_option maxHeartbeats 0
namespace Go.Proofs.YtafjkbbiaopemaaGreatDoor.Tr
open Go.RowKit
section
section
variable{w w':World}
theorem zje(n:Nat)(h1n:1≤n)(hn:n≤9223372036854775808)(w:World):Calls Tryz.prog 75 #[.int .i64 (-(n:Int))] w fun e w'=>e=.returned (.string ⟨(45 :: Lib.decDigits n).toArray⟩)∧Below w.heap.size w w':=by
 have hlen0:(Lib.decDigits n).length≤21:=by rw[Lib.decDigits_length];exact Nat.le_trans (Lib.nDigits_le20 n om) om
 generalize hR:Lib.decDigits n=R at *;have HR:=qh hR;have HLN:=qh hlen0;clear hR hlen0;have hneg:(-(n:Int))<0:=om;have hn0:0<n:=h1n
 go_enter Tryz.func75, Tryz.ntmps75
 go_wp2;clear hneg
 go_loopg [0,3,5] n (fun kk v0 v3 v5 wr=>∃(v:Nat) (acc:List UInt8) (A':Option Addr) (c':Nat),v0=.int .i64 (-(v:Int))∧v3=.slice A' acc.length c'∧v≤kk∧v≤n∧wr.ownsRow w.heap.size 5 1 (.slice A' acc.length c') acc.length (u8s acc)∧Below w.heap.size w wr∧Hid (R=Lib.decDigits v++acc))
 case atStart=>exact⟨n,[],none,0,rfl,rfl,lr,lr,World.ownsRow_nil _ _ _ _,Below.refl _ _,by show _=_;rw[HR.out];simp⟩
 case round =>
  obtain⟨v,acc,A',c',rfl,rfl,hk,hvn,hown,hB,HA⟩:=hrel;have hm:Int.tmod (-(v:Int)) 10=-((v:Int)%10):=by rw[Int.neg_tmod,Int.tmod_eq_emod_of_nonneg om]
  have hq:Int.tdiv (-(v:Int)) 10=-((v:Int)/10):=by rw[Int.neg_tdiv,Int.tdiv_eq_ediv_of_nonneg om]
  have hdm:((v:Int)%10=0)∨(0<(v:Int)%10):=om;obtain⟨x,hx⟩:∃x:UInt8,x=UInt8.ofNat (48+v%10):=⟨_,rfl⟩
  have hxn:(x.toNat:Int)=48+(v:Int)%10:=by
   rw[hx,UInt8.toNat_ofNat',Nat.mod_eq_of_lt om];omega
  have HX:=qh (And.intro hx hxn)
  have hal:acc.length≤21:=by
   have h1:=congrArg List.length HA.out;have h2:=HLN.out;simp only[List.length_append]at h1;omega
  have hacc2:R=(if v<10 then [] else Lib.decDigits (v/10))++(x :: acc):=by
   rw[HA.out,zic,hx]
   simp[List.append_assoc]
  have HA2:=qh hacc2;clear hacc2 hx HA;have HXN:Hid ([.int .u8 (48+(v:Int)%10)]++u8s acc=u8s (x :: acc)):=(by show _=_;rw[←hxn];rfl);clear hxn;have HOW:=qh (And.intro hown hB)
  go_upto_region 4 with fail
  go_cut [11] (fun v11 wx=>v11=.bool (decide (0<(v:Int)%10))∧wr=wx)
  case first =>
   go_wp2
   go_meet
   simp
  case rest =>
   obtain⟨rfl,rfl⟩:=hcut
   go_step
   go_cut [5] (fun v5 wx=>v5=.int .i64 ((v:Int)%10)∧wr=wx)
   case first =>
    rcases hdm with hz|hz
    · go_wp2
      go_meet
      exact⟨by rw[hz];rfl,rfl⟩
    · go_wp2
      go_meet
      exact⟨rfl,rfl⟩
   case rest =>
    obtain⟨rfl,rfl⟩:=hcut;clear hdm hm
    by_cases h10:v<10
    · have h0 : -((v:Int)/10)=0:=om
      have hsz2:¬9223372036854775807<1+(bytesOf (x :: acc)).size:=by
       have h9:(bytesOf (x :: acc)).size=acc.length+1:=by simp[bytesOf,ByteArray.size]
       omega
      have HA3:Hid (R=x :: acc):=(by have:=HA2.out;rw[if_pos h10]at this;exact this);clear hown hB
      go_wp2_with (first
       | (at_builtin;refine zas rfl (.tmp 17) (.tmp 18) _ rfl w.heap.size 5 1 1 Tryz.underlying83 eU8b (.slice (some ⟨wr.heap.size,0,none⟩) 1 1) 1 [.int .u8 (48+(v:Int)%10)] rr (by exact zbu (cs:=[.int .u8 (48+(v:Int)%10)]) (Blk.new' rfl rfl) HOW.out.2.size 1 1 1 lr rfl om) A' acc.length c' (u8s acc) rr (by exact(Rd.of_own (HOW.out.1.alloc _)).toS) (by intro u hu;simp only[u8s,List.mem_map]at hu;obtain⟨_,_,rfl⟩:=hu;rfl) om om (Nat.le_trans HOW.out.2.size sy) ?_;intro A5 c5 w5 hown5 hc5 hg5 hat5;have HO5:Hid (w5.ownsRow w.heap.size 5 1 (.slice A5 (1+acc.length) c5) (1+acc.length) (u8s (x :: acc))∧Below w.heap.size w w5):=⟨HXN.out ▸ hown5,(HOW.out.2.alloc HOW.out.2.size _).grown hg5 (Nat.le_trans HOW.out.2.size sy) (fun k hk=>by injection hk with hk;rw[←hk];exact HOW.out.2.size)⟩;clear hown5 hc5 hg5 hat5)
       | (refine zbs rfl 83 9 (.tmp 25) rfl 5 Tryz.underlying83 Tryz.underlying5 Tryz.underlying9 A5 (1+acc.length) c5 rr (x :: acc) (Rd.of_own HO5.out.1) ?_))
      go_ret;rw[HA3.out];exact⟨by rw[show({ data:=#[45] } : ByteArray)++bytesOf (x :: acc)=⟨(45 :: x :: acc).toArray⟩ from (by apply ByteArray.ext;simp[bytesOf])];rfl,HO5.out.2⟩
    · have h0:¬(-((v:Int)/10)=0):=om
      have HA3:Hid (R=Lib.decDigits (v/10)++(x :: acc)):=(by have:=HA2.out;rw[if_neg h10]at this;exact this);clear hown hB
      go_wp2_with (at_builtin;refine zas rfl (.tmp 17) (.tmp 18) _ rfl w.heap.size 5 1 1 Tryz.underlying83 eU8b (.slice (some ⟨wr.heap.size,0,none⟩) 1 1) 1 [.int .u8 (48+(v:Int)%10)] rr (by exact zbu (cs:=[.int .u8 (48+(v:Int)%10)]) (Blk.new' rfl rfl) HOW.out.2.size 1 1 1 lr rfl om) A' acc.length c' (u8s acc) rr (by exact(Rd.of_own (HOW.out.1.alloc _)).toS) (by intro u hu;simp only[u8s,List.mem_map]at hu;obtain⟨_,_,rfl⟩:=hu;rfl) om om (Nat.le_trans HOW.out.2.size sy) ?_;intro A5 c5 w5 hown5 hc5 hg5 hat5;have HO5:Hid (w5.ownsRow w.heap.size 5 1 (.slice A5 (1+acc.length) c5) (1+acc.length) (u8s (x :: acc))∧Below w.heap.size w w5):=⟨HXN.out ▸ hown5,(HOW.out.2.alloc HOW.out.2.size _).grown hg5 (Nat.le_trans HOW.out.2.size sy) (fun k hk=>by injection hk with hk;rw[←hk];exact HOW.out.2.size)⟩;clear hown5 hc5 hg5 hat5)
      have e5:(x :: acc).length=1+acc.length:=by simp;omega
      go_roundg (v/10)
      case measure=>omega
      case rel=>exact⟨v/10,x :: acc,A5,c5,by simp,by rw[e5],lr,by omega,by rw[e5];exact HO5.out.1,HO5.out.2,HA3⟩
theorem zjf(n:Int)(h0 : -9223372036854775808≤n)(h1:n≤9223372036854775807)(w:World):Calls Tryz.prog 75 #[.int .i64 n] w fun e w'=>e=.returned (.string ⟨(Lib.itoa n).toArray⟩)∧Below w.heap.size w w':=by
 rcases (by omega:n<0∨0≤n)with h|h
 · obtain⟨m,rfl⟩:∃m:Nat,n=-(m:Int):=⟨n.natAbs,by omega⟩
   have hd:=zje m om om w;rw[Lib.itoa_neg m om];exact hd
 · obtain⟨m,rfl⟩:∃m:Nat,n=m:=⟨n.toNat,by omega⟩
   exact znr m om w
end
end
section
inductive ExAn:Ex→Prop
 | mk (op:ByteArray) (num:Int) (text:ByteArray) (at_:Int) (args:List Ex) (h0 : -9223372036854775808≤num) (h1:num≤9223372036854775807) (h2:text.size≤2000000) (h3:args.length≤2000000) (hi:∀e∈args,ExAn e):ExAn (.mk op num text at_ args)
def RxA(e:Ex)(a:Option Addr × Nat)(F:Nat→Prop):Prop:=∀(i:Nat) (w:World),i≤3→(prE e).length+10≤1000000000000000→ArgsIn F w a.1 e.args→Calls Tryz.prog 37 #[.agg (exC e a).toArray,.int .i64 i] w fun r w'=>r=.returned (.string (rxR e i))∧Below w.heap.size w w'
section
variable{w w':World}
theorem zis(num:Int)(text:ByteArray)(at_:Int)(args:List Ex)(a:Option Addr × Nat)(i:Nat)(w:World)(h0 : -9223372036854775808≤num)(h1:num≤9223372036854775807):Calls Tryz.prog 37 #[.agg (exC (.mk k_number num text at_ args) a).toArray,.int .i64 i] w fun r w'=>r=.returned (.string (rxR (.mk k_number num text at_ args) i))∧Below w.heap.size w w':=by
 have HP:Hid (rxR (.mk k_number num text at_ args) i=⟨(Lib.itoa num).toArray⟩):=(by show _=_;unfold rxR;rw[prE];unfold prB;rw[if_pos rfl];simp[par,Ex.sum,Ex.prod,Ex.op];rfl);rw[HP.out];have HB0:Hid (Below w.heap.size w (w.alloc (.cells (exC (.mk k_number num text at_ args) a).toArray 39))):=(Below.refl _ _).alloc lr _;have HD:=qh (fun W=>zjf num h0 h1 W);clear HP h0 h1
 unfold exC at *
 dsimp only [Ex.op,Ex.num,Ex.text,Ex.at_,Ex.args]at *;generalize args.length=m at *
 go_enter Tryz.func37, Tryz.ntmps37
 go_wp2_with (go_at_call 75;(refine(HD.out _).mono ?_);rintro r w2 ⟨rfl,hB2⟩;have H2:Hid (Below w.heap.size w w2):=HB0.out.trans (hB2.mono HB0.out.size);clear hB2)
 go_ret;exact⟨rfl,H2.out⟩
theorem zmf(num:Int)(text:ByteArray)(at_:Int)(args:List Ex)(a:Option Addr × Nat)(i:Nat)(w:World):Calls Tryz.prog 37 #[.agg (exC (.mk k_name num text at_ args) a).toArray,.int .i64 i] w fun r w'=>r=.returned (.string (rxR (.mk k_name num text at_ args) i))∧Below w.heap.size w w':=by
 have HP:Hid (rxR (.mk k_name num text at_ args) i=text):=(by show _=_;unfold rxR;rw[prE];unfold prB;rw[if_neg (by decide),if_pos rfl];simp[par,Ex.sum,Ex.prod,Ex.op];exact zaz text);rw[HP.out];have HB0:Hid (Below w.heap.size w (w.alloc (.cells (exC (.mk k_name num text at_ args) a).toArray 39))):=(Below.refl _ _).alloc lr _;clear HP
 unfold exC at *
 dsimp only [Ex.op,Ex.num,Ex.text,Ex.at_,Ex.args]at *;generalize args.length=m at *
 go_enter Tryz.func37, Tryz.ntmps37
 go_wp2;go_ret;exact⟨rfl,HB0.out⟩
theorem zmc(num:Int)(text:ByteArray)(at_:Int)(args:List Ex)(a:Option Addr × Nat)(i:Nat)(w:World)(h2:text.size≤2000000):Calls Tryz.prog 37 #[.agg (exC (.mk k_text num text at_ args) a).toArray,.int .i64 i] w fun r w'=>r=.returned (.string (rxR (.mk k_text num text at_ args) i))∧Below w.heap.size w w':=by
 have HP:Hid (rxR (.mk k_text num text at_ args) i=bytesOf (Lx.quote (tx text))):=(by show _=_;unfold rxR;rw[prE];unfold prB;rw[if_neg (by decide),if_neg (by decide),if_pos rfl];simp[par,Ex.sum,Ex.prod,Ex.op]);rw[HP.out];have HB0:Hid (Below w.heap.size w (w.alloc (.cells (exC (.mk k_text num text at_ args) a).toArray 39))):=(Below.refl _ _).alloc lr _;clear HP
 unfold exC at *
 dsimp only [Ex.op,Ex.num,Ex.text,Ex.at_,Ex.args]at *;generalize args.length=m at *;obtain⟨cc,wc,hconv,hcc,hrd,hbc⟩:=conv_c (w.alloc (.cells #[.string k_text,.int .i64 num,.string text,.int .i64 at_,.slice a.1 m a.2] 39)) text;have e7:(w.alloc (.cells #[.string k_text,.int .i64 num,.string text,.int .i64 at_,.slice a.1 m a.2] 39)).heap.size=w.heap.size+1:=by simp
 have H1:Hid (Below w.heap.size w wc):=HB0.out.trans (hbc.out.mono HB0.out.size);rw[e7]at hrd;have H2T:=qh (And.intro h2 hcc);clear h2 e7 hcc
 go_enter Tryz.func37, Tryz.ntmps37
 go_wp2_with (go_at_call 76;(refine(ziv _ _ _ (tx text) _ (by exact hrd.out) (by have:=H2T.out.1;omega) H2T.out.2).mono ?_);rintro r w2 ⟨rfl,hB2⟩;have H2:Hid (Below w.heap.size w w2):=H1.out.trans (hB2.mono H1.out.size);clear hB2)
 go_ret;exact⟨rfl,H2.out⟩
theorem zot(op:ByteArray)(hop:op=m_plus∨op=m_minus∨op=m_star)(num:Int)(text:ByteArray)(at_:Int)(args:List Ex)(a:Option Addr × Nat)(i:Nat)(w:World)(hn:args.length≠2):Calls Tryz.prog 37 #[.agg (exC (.mk op num text at_ args) a).toArray,.int .i64 i] w fun r w'=>r=.returned (.string (rxR (.mk op num text at_ args) i))∧Below w.heap.size w w':=by
 have HP:Hid (rxR (.mk op num text at_ args) i = { data:=#[63] }):=(by show _=_;unfold rxR;rw[prE,zkh hop hn];simp[par,Ex.sum,Ex.prod,Ex.args,hn];rfl);rw[HP.out];have HB0:Hid (Below w.heap.size w (w.alloc (.cells (exC (.mk op num text at_ args) a).toArray 39))):=(Below.refl _ _).alloc lr _;have hm:(args.length:Int)≠2:=om;clear HP hn
 unfold exC at *
 dsimp only [Ex.op,Ex.num,Ex.text,Ex.at_,Ex.args]at *;generalize args.length=m at *;have x4:((m:Int) == 2)=false:=by rw[beq_eq_false_iff_ne];exact hm
 rcases hop with rfl|rfl|rfl
 all_goals
   go_enter Tryz.func37, Tryz.ntmps37
   go_wp2;go_ret;exact⟨rfl,HB0.out⟩
theorem zme(op:ByteArray)(h1:op≠k_number)(h2:op≠k_name)(h3:op≠k_text)(h4:op≠k_join)(h5:op≠m_plus)(h6:op≠m_minus)(h7:op≠m_star)(num:Int)(text:ByteArray)(at_:Int)(args:List Ex)(a:Option Addr × Nat)(i:Nat)(w:World):Calls Tryz.prog 37 #[.agg (exC (.mk op num text at_ args) a).toArray,.int .i64 i] w fun r w'=>r=.returned (.string (rxR (.mk op num text at_ args) i))∧Below w.heap.size w w':=by
 have HP:Hid (rxR (.mk op num text at_ args) i = { data:=#[63] }):=(by show _=_;unfold rxR;rw[prE];unfold prB;rw[if_neg h1,if_neg h2,if_neg h3,if_neg h4,if_neg (by rintro (h|h|h);exact h5 h;exact h6 h;exact h7 h)];simp[par,Ex.sum,Ex.prod,Ex.op,h5,h6,h7];rfl);rw[HP.out];have HB0:Hid (Below w.heap.size w (w.alloc (.cells (exC (.mk op num text at_ args) a).toArray 39))):=(Below.refl _ _).alloc lr _;have x1:(op.toList == [110,117,109,98,101,114])=false:=strl h1;have x2:(op.toList == [110,97,109,101])=false:=strl h2;have x3:(op.toList == [116,101,120,116])=false:=strl h3;have x4:(op.toList == [106,111,105,110])=false:=strl h4;have x5:(op.toList == [43])=false:=strl h5;have x6:(op.toList == [45])=false:=strl h6;have x7:(op.toList == [42])=false:=strl h7;clear HP h1 h2 h3 h4 h5 h6 h7
 unfold exC at *
 dsimp only [Ex.op,Ex.num,Ex.text,Ex.at_,Ex.args]at *;generalize args.length=m at *
 go_enter Tryz.func37, Tryz.ntmps37
 go_wp2;go_ret;exact⟨rfl,HB0.out⟩
theorem zmg{F:Nat→Prop}(num:Int)(text:ByteArray)(at_:Int)(args:List Ex)(a:Option Addr × Nat)(i:Nat)(w:World)(hn:args.length≤2000000)(hx:∀e∈args,∀a,RxA e a F)(hl:(prE (.mk k_join num text at_ args)).length+10≤1000000000000000)(hA:ArgsIn F w a.1 args):Calls Tryz.prog 37 #[.agg (exC (.mk k_join num text at_ args) a).toArray,.int .i64 i] w fun r w'=>r=.returned (.string (rxR (.mk k_join num text at_ args) i))∧Below w.heap.size w w':=by
 obtain⟨A,ca⟩:=a;have HP:Hid (rxR (.mk k_join num text at_ args) i=bytesOf ([106,111,105,110,40]++sepB [44,32] (prL args)++[41])):=(by show _=_;unfold rxR;rw[prE];unfold prB;rw[if_neg (by decide),if_neg (by decide),if_neg (by decide),if_pos rfl];simp[par,Ex.sum,Ex.prod,Ex.op]);obtain⟨V,hV⟩:=ex9 (rxR (.mk k_join num text at_ args) i);rw[←hV]at HP ⊢;clear hV;have hpl:(prL args).length=args.length:=by rw[zcq];simp
 have hj:prE (.mk k_join num text at_ args)=[106,111,105,110,40]++sepB [44,32] (prL args)++[41]:=by rw[prE];unfold prB;rw[if_neg (by decide),if_neg (by decide),if_neg (by decide),if_pos rfl]
 rw[hj]at hl
 have HSL:Hid (∀i,i≤args.length→(bytesOf ([106,111,105,110,40]++sepB [44,32] ((prL args).take i))).size≤1000000000000000):=fun i hi=>by
  have h1:=zd0 [44,32] (prL args) (args.length-i) i om;rw[sz_b];simp only[List.length_append,List.length_cons,List.length_nil]at hl ⊢;omega
 have hpi:∀i (hi:i<args.length),(prL args)[i]? = some (prE args[i]):=fun i hi=>by rw[zcq,List.getElem?_map,ge9 hi];rfl
 have HS1:Hid (∀i (hi:i<args.length),0<i→sepB [44,32] ((prL args).take (i+1))=sepB [44,32] ((prL args).take i)++[44,32]++prE args[i]):=fun i hi h0=>zb4 h0 (hpi i hi)
 have HS0:Hid (∀(hi:0<args.length),sepB [44,32] ((prL args).take 1)=prE args[0]):=fun hi=>zdc (hpi 0 hi)
 have HSN:Hid (sepB [44,32] ((prL args).take args.length)=sepB [44,32] (prL args)):=(by show _=_;rw[tk om])
 have HXA:Hid (∀i (hi:i<args.length) (p:Option Addr × Nat) W,ArgsIn F W p.1 args[i].args→Calls Tryz.prog 37 #[.agg (exC args[i] p).toArray,.int .i64 0] W fun r w'=>r=.returned (.string (bytesOf (prE args[i])))∧Below W.heap.size W w'):=fun i hi p W h4=>by
  have:=hx _ (List.getElem_mem hi) p 0 W om (by
   have h1:=zd0 [44,32] (prL args) (args.length-(i+1)) (i+1) om
   have h2:(prE args[i]).length≤(sepB [44,32] ((prL args).take (i+1))).length:=by
    by_cases h0:i=0
    · subst h0;rw[zdc (hpi 0 hi)];exact lr
    · rw[zb4 om (hpi i hi)];simp only[List.length_append];omega
   simp only[List.length_append,List.length_cons,List.length_nil]at hl
   omega) h4
  unfold rxR at this
  simpa[par] using this
 have HZ:Hid (∀W,W=w.alloc (.cells (exC (.mk k_join num text at_ args) (A,ca)).toArray 39)→ArgsIn F W A args∧Blk W w.heap.size 39 (exC (.mk k_join num text at_ args) (A,ca))∧Below w.heap.size w W):=by
  rintro W rfl;exact⟨hA.keep (zeu _),Blk.new _ _ _,(Below.refl _ _).alloc lr _⟩
 clear hA hx hpi hpl hl hj;have hn8:(args.length:Int)≤2000000:=om
 unfold exC at HZ ⊢
 dsimp only [Ex.op,Ex.num,Ex.text,Ex.at_,Ex.args]at HZ ⊢
 go_enter Tryz.func37, Tryz.ntmps37
 go_wp2
 go_loopg [5,6] args.length (fun kk v5 v6 wr=>∃(i:Nat) (S:ByteArray),v6=.int .i64 i∧v5=.string S∧S=bytesOf ([106,111,105,110,40]++sepB [44,32] ((prL args).take i))∧kk+i=args.length∧ArgsIn F wr A args∧Blk wr w.heap.size 39 [.string k_join,.int .i64 num,.string text,.int .i64 at_,.slice A args.length ca]∧Below w.heap.size w wr)
 case atStart=>exact⟨0,_,rfl,rfl,by simp[sepB];rfl,rfl,HZ.out _ rfl⟩
 case round =>
  obtain⟨i,S,rfl,rfl,hS,hk,hA,hb,hB⟩:=hrel;have hSz:S.size≤1000000000000000:=by rw[hS];exact HSL.out i om
  have HS:=qh hS;clear hS;have HW:=qh (And.intro hA (And.intro hb hB));have n4:wr.cell? ⟨w.heap.size,4,none⟩=some (.slice A args.length ca):=hb.cell 4;have n5:=hb.lt;clear HZ hb hB
  by_cases hi:i<args.length
  · obtain⟨b0,off,p,rfl,hb0,hc,hpa⟩:=za4 hA i hi
    have hii:(i:Int)<(args.length:Int):=om;obtain⟨E,hE⟩:=ex9 (bytesOf (prE args[i]));have HXI:=qh (HXA.out i hi p wr hpa);rw[←hE]at HXI
    have hEz:E.size≤1000000000000000:=by
     have h1:=HSL.out (i+1) hi;rw[sz_b]at h1;rw[hE,sz_b]
     by_cases h0:i=0
     · subst h0
       rw[HS0.out hi]at h1;simp only[List.length_append]at h1;omega
     · rw[HS1.out i hi om]at h1
       simp only[List.length_append]at h1;omega
    have HE:=qh hE;clear hE;have HSI:=qh (HS1.out i hi);have HS00:=HS0.out om;have hget:i=0→args[0]'om=args[i]:=fun h=>by subst h;rfl
    generalize args[i]=e at *;have c0:wr.cell? ⟨b0,off+i*5,none⟩=some (.string e.op):=hc 0 _ rfl;have c1:wr.cell? ⟨b0,off+i*5+1,none⟩=some (.int .i64 e.num):=by have:=hc 1 _ rfl;rw[←Nat.add_assoc]at this;exact this
    have c2:wr.cell? ⟨b0,off+i*5+2,none⟩=some (.string e.text):=by have:=hc 2 _ rfl;rw[←Nat.add_assoc]at this;exact this
    have c3:wr.cell? ⟨b0,off+i*5+3,none⟩=some (.int .i64 e.at_):=by have:=hc 3 _ rfl;rw[←Nat.add_assoc]at this;exact this
    have c4:wr.cell? ⟨b0,off+i*5+4,none⟩=some (.slice p.1 e.args.length p.2):=by have:=hc 4 _ rfl;rw[←Nat.add_assoc]at this;exact this
    clear hc hpa HXA HS1 HS0 hA HSL
    by_cases h0:i=0
    · have HE1:Hid (sepB [44,32] ((prL args).take 1)=prE e):=HS00.trans (by rw[hget h0])
      clear HS00 hget;subst h0;simp only[Nat.zero_mul,Nat.add_zero]at c0 c1 c2 c3 c4
      go_wp2_with (go_at_call 37;(refine(HXI.out).mono ?_);rintro r w5 ⟨rfl,hB5⟩;have H5:Hid (ArgsIn F w5 (some ⟨b0,off,none⟩) args∧Blk w5 w.heap.size 39 [.string k_join,.int .i64 num,.string text,.int .i64 at_,.slice (some ⟨b0,off,none⟩) args.length ca]∧Below w.heap.size w w5):=⟨HW.out.1.keep (Keep.of_below hB5 _),HW.out.2.1.below hB5 HW.out.2.1.lt,HW.out.2.2.trans (hB5.mono HW.out.2.2.size)⟩;clear hB5)
      go_roundg (args.length-1)
      case measure=>omega
      case rel=>exact⟨1,_,by simp,rfl,by rw[HE1.out,HS.out,HE.out,zab];simp[sepB],by omega,H5.out⟩
    · have hi0:(0:Int)<(i:Int):=om
      clear HS00 hget
      go_wp2_with (go_at_call 37;(refine(HXI.out).mono ?_);rintro r w5 ⟨rfl,hB5⟩;have H5:Hid (ArgsIn F w5 (some ⟨b0,off,none⟩) args∧Blk w5 w.heap.size 39 [.string k_join,.int .i64 num,.string text,.int .i64 at_,.slice (some ⟨b0,off,none⟩) args.length ca]∧Below w.heap.size w w5):=⟨HW.out.1.keep (Keep.of_below hB5 _),HW.out.2.1.below hB5 HW.out.2.1.lt,HW.out.2.2.trans (hB5.mono HW.out.2.2.size)⟩;clear hB5)
      go_roundg (args.length-(i+1))
      case measure=>omega
      case rel=>exact⟨i+1,_,by simp,rfl,by rw[HSI.out om,HS.out,HE.out];rw[show({ data:=#[44,32] } : ByteArray)=bytesOf [44,32] from rfl,zab,zab];simp[List.append_assoc],by omega,H5.out⟩
  · have hii:¬(i:Int)<(args.length:Int):=om
    obtain rfl:i=args.length:=om;clear HXA HS0 HS1 hA HSL;go_wp2;go_ret;exact⟨by rw[HP.out,←HSN.out,←zab,←HS.out];rfl,HW.out.2.2⟩
theorem zn0{F:Nat→Prop}(K:ByteArray)(hK:K=m_plus∨K=m_minus)(num:Int)(text:ByteArray)(at_:Int)(x y:Ex)(a:Option Addr × Nat)(i:Nat)(w:World)(hi:i≤3)(hx:∀a,RxA x a F)(hy:∀a,RxA y a F)(hl:(prE (.mk K num text at_ [x,y])).length+10≤1000000000000000)(hA:ArgsIn F w a.1 [x,y]):Calls Tryz.prog 37 #[.agg (exC (.mk K num text at_ [x,y]) a).toArray,.int .i64 i] w fun r w'=>r=.returned (.string (rxR (.mk K num text at_ [x,y]) i))∧Below w.heap.size w w':=by
 obtain⟨A,ca⟩:=a;obtain⟨b0,off,p1,rfl,hb0,hc1,hpa1⟩:=za4 hA 0 sy;obtain⟨b0',off',p2,e2,_,hc2,hpa2⟩:=za4 hA 1 sy;obtain⟨rfl,rfl⟩:b0=b0'∧off=off':=by simpa using e2
 obtain⟨AX,hAX⟩:=ex9 (prE x);obtain⟨AY,hAY⟩:=ex9 (par y.sum (prE y));have HP:Hid (rxR (.mk K num text at_ [x,y]) i=bytesOf (par (decide (2≤i)) (AX++[32]++tx K++[32]++AY))):=(by show _=_;unfold rxR;rw[zcr _ _ _ _ _ _ (hK.elim .inl fun h=>.inr (.inl h)),show decide (K=m_star)=false by rcases hK with h|h <;> rw[h] <;> decide,show(Ex.mk K num text at_ [x,y]).sum=true by rcases hK with h|h <;> rw[h] <;> simp[Ex.sum,Ex.op,Ex.args],show(Ex.mk K num text at_ [x,y]).prod=false by rcases hK with h|h <;> rw[h] <;> simp[Ex.prod,Ex.op,Ex.args]];subst hAX hAY;simp[par_f,List.append_assoc]);obtain⟨V,hV⟩:=ex9 (rxR (.mk K num text at_ [x,y]) i);rw[←hV]at HP ⊢;clear hV
 have HLA:Hid ((prE x).length+10≤1000000000000000∧(prE y).length+10≤1000000000000000∧AX.length+AY.length+10≤1000000000000000):=by
  rw[zcr _ _ _ _ _ _ (hK.elim .inl fun h=>.inr (.inl h)),show decide (K=m_star)=false by rcases hK with h|h <;> rw[h] <;> decide]at hl;have h1:=zfg x.sum (prE x);have h2:=zfg y.sum (prE y);have h3:=zfg (y.sum || y.prod) (prE y);subst hAX hAY;refine⟨?_,?_,?_⟩ <;> (simp[par_f]at hl ⊢ <;> omega)
 have HX1:Hid (∀W,Below w.heap.size w W→Calls Tryz.prog 37 #[.agg (exC x p1).toArray,.int .i64 1] W fun r w'=>r=.returned (.string (bytesOf AX))∧Below W.heap.size W w'):=fun W hW=>by
  have h1:=hx p1 1 W om HLA.out.1 (hpa1.keep (Keep.of_below hW F))
  unfold rxR at h1
  subst hAX
  simpa[par_f] using h1
 have HX2:Hid (∀W,Below w.heap.size w W→Calls Tryz.prog 37 #[.agg (exC y p2).toArray,.int .i64 2] W fun r w'=>r=.returned (.string (bytesOf AY))∧Below W.heap.size W w'):=fun W hW=>by
  have h1:=hy p2 2 W om HLA.out.2.1 (hpa2.keep (Keep.of_below hW F))
  unfold rxR at h1
  subst hAY
  simpa[par_f] using h1
 have HC:Hid (∀W,Below w.heap.size w W→W.rangeAt b0 (off+0*5) (exC x p1)∧W.rangeAt b0 (off+1*5) (exC y p2)):=fun W hW=>⟨fun q v hv=>(World.cell?_of_block (a:=⟨b0,off+0*5+q,none⟩) (hW.block b0 hb0)).trans (by have:=hc1 q v hv;rw[←Nat.add_assoc]at this;exact this),fun q v hv=>(World.cell?_of_block (a:=⟨b0,off+1*5+q,none⟩) (hW.block b0 hb0)).trans (by have:=hc2 q v hv;rw[←Nat.add_assoc]at this;exact this)⟩
 clear hA hx hy hl hc1 hc2 hpa1 hpa2 e2 hAX hAY;obtain⟨CX,hCX⟩:=ex9 (exC x p1);obtain⟨CY,hCY⟩:=ex9 (exC y p2);rw[←hCX]at HX1 HC;rw[←hCY]at HX2 HC;have HCC:Hid (CX.length=5∧CY.length=5):=⟨hCX ▸ rfl,hCY ▸ rfl⟩;clear hCX hCY
 unfold exC
 dsimp only [Ex.op,Ex.num,Ex.text,Ex.at_,Ex.args,List.length];have x1:(K.toList == [110,117,109,98,101,114])=false:=strl (by rcases hK with h|h <;> rw[h] <;> decide);have x2:(K.toList == [110,97,109,101])=false:=strl (by rcases hK with h|h <;> rw[h] <;> decide);have x3:(K.toList == [116,101,120,116])=false:=strl (by rcases hK with h|h <;> rw[h] <;> decide);have x4:(K.toList == [106,111,105,110])=false:=strl (by rcases hK with h|h <;> rw[h] <;> decide)
 have hpm:(K.toList == [43])=true∨((K.toList == [43])=false∧(K.toList == [45])=true):=by
  rcases hK with h|h
  · left;rw[h];kernel_rfl
  · right;exact⟨strl (by rw[h];decide),by rw[h];kernel_rfl⟩
 have szK:K.size=1:=by rcases hK with h|h <;> rw[h] <;> rfl
 clear hK
 go_enter Tryz.func37, Tryz.ntmps37
 rcases hpm with xp|⟨xp,xm⟩
 all_goals go_upto_region 20 with fail
 all_goals
   obtain⟨W0,hW0⟩:=ex9 (w.alloc (.cells #[.string K,.int .i64 num,.string text,.int .i64 at_,.slice (some ⟨b0,off,none⟩) 2 ca] 39))
   have HZ0:Hid (Below w.heap.size w W0∧Blk W0 w.heap.size 39 [.string K,.int .i64 num,.string text,.int .i64 at_,.slice (some ⟨b0,off,none⟩) 2 ca]∧W0.heap.size=w.heap.size+1):=by
    subst hW0;exact⟨(Below.refl _ _).alloc lr _,Blk.new _ _ _,by simp⟩
   rw[←hW0];clear hW0;have hT:Below W0.heap.size W0 W0.drew:=Below.drew (Below.refl _ _);have HSLC:Hid (∀W,Below W0.heap.size W0 W→W.cell? ⟨w.heap.size,4,none⟩=some (.slice (some ⟨b0,off,none⟩) 2 ca)∧W.rangeAt b0 (off+0*5) CX∧W.rangeAt b0 (off+1*5) CY∧W.cell? ⟨w.heap.size,0,none⟩=some (.string K)∧Below w.heap.size w W):=fun W hW=>⟨(HZ0.out.2.1.below hW HZ0.out.2.1.lt).cell 4,(HC.out W (HZ0.out.1.trans (hW.mono (by have:=HZ0.out.2.2;omega)))).1,(HC.out W (HZ0.out.1.trans (hW.mono (by have:=HZ0.out.2.2;omega)))).2,(HZ0.out.2.1.below hW HZ0.out.2.1.lt).cell 0,HZ0.out.1.trans (hW.mono (by have:=HZ0.out.2.2;omega))⟩
   refine kgo kr 16 (fun W=>Below W0.heap.size W0 W) hT (fun _ _ _ _ _ h=>h) ?_;refine kp 0 (.pointer (some ⟨w.heap.size,4,none⟩)) rfl kr (fun _=>kr) ?_;refine kl 1 (.slice (some ⟨b0,off,none⟩) 2 ca) rfl kr (fun w' hw'=>zah (t:=37) (x:=.tmp 56) rr kr agSlx (HSLC.out w' hw').1) ?_;refine kp 2 (.pointer (some ⟨b0,off+0*5,none⟩)) rfl kr (fun _=>zay (t:=37) (x:=.tmp 57) (y:=.const (.int .i64 0)) (g:=b0) (off:=off) (n:=2) (c:=ca) (p:=0) rr kr kr om Tryz.underlying37 szEx5) ?_;refine kl 3 (.agg CX.toArray) rfl kr (fun w' hw'=>zac rfl kr (run_loadAt_mid w' b0 (off+0*5) 39 CX _ (HSLC.out w' hw').2.1 Tryz.underlying39 rfl (by rw[HCC.out.1];exact hdEx))) ?_;refine kp 6 (.pointer (some ⟨w.heap.size,0,none⟩)) rfl kr (fun _=>kr) ?_;refine kl 7 (.string K) rfl kr (fun w' hw'=>zah (t:=9) (x:=.tmp 62) rr kr agStr (HSLC.out w' hw').2.2.2.1) ?_;refine kp 10 (.pointer (some ⟨w.heap.size,4,none⟩)) rfl kr (fun _=>kr) ?_;refine kl 11 (.slice (some ⟨b0,off,none⟩) 2 ca) rfl kr (fun w' hw'=>zah (t:=37) (x:=.tmp 66) rr kr agSlx (HSLC.out w' hw').1) ?_;refine kp 12 (.pointer (some ⟨b0,off+1*5,none⟩)) rfl kr (fun _=>zay (t:=37) (x:=.tmp 67) (y:=.const (.int .i64 1)) (g:=b0) (off:=off) (n:=2) (c:=ca) (p:=1) rr kr kr om Tryz.underlying37 szEx5) ?_;refine kl 13 (.agg CY.toArray) rfl kr (fun w' hw'=>zac rfl kr (run_loadAt_mid w' b0 (off+1*5) 39 CY _ (HSLC.out w' hw').2.2.1 Tryz.underlying39 rfl (by rw[HCC.out.2];exact hdEx))) ?_;intro q8 q9;clear q8 q9;refine AnyK.enter 4 (d:=some 60) (f:=37) (args:=#[.agg CX.toArray,.int .i64 1]) rr kr kr ?_;refine(HX1.out _ (HSLC.out _ hT).2.2.2.2).mono ?_;rintro r w1 ⟨rfl,hB1⟩;have hT1:Below W0.heap.size W0 w1:=hT.trans hB1;refine⟨_,rfl,fun _=>hT1,?_⟩
   have HCT:Hid ((bytesOf AX).size+({ data:=#[32] } : ByteArray).size≤9223372036854775807∧(bytesOf AX++{ data:=#[32] }).size+K.size≤9223372036854775807∧(bytesOf AX++{ data:=#[32] }++K).size+({ data:=#[32] } : ByteArray).size≤9223372036854775807∧(bytesOf AX++{ data:=#[32] }++K++{ data:=#[32] }).size+(bytesOf AY).size≤9223372036854775807∧True):=by
    have h1:=HLA.out.2.2;refine⟨?_,?_,?_,?_,trivial⟩ <;> (simp only[ByteArray.size_append,sz_b,szz1,szK];omega)
   refine AnyK.pure 5 (v:=.string (bytesOf AX++{ data:=#[32] })) rfl kr (fun _ _ _ h=>h) rfl (fun _=>zan rr kr kr HCT.out.1) (fun _=>hT1) ?_;refine AnyK.pure 8 (v:=.string (bytesOf AX++{ data:=#[32] }++K)) rfl kr (fun _ _ _ h=>h) rfl (fun _=>zan rr kr kr HCT.out.2.1) (fun _=>hT1) ?_;refine AnyK.pure 9 (v:=.string (bytesOf AX++{ data:=#[32] }++K++{ data:=#[32] })) rfl kr (fun _ _ _ h=>h) rfl (fun _=>zan rr kr kr HCT.out.2.2.1) (fun _=>hT1) ?_;refine AnyK.enter 14 (d:=some 70) (f:=37) (args:=#[.agg CY.toArray,.int .i64 2]) rr kr kr ?_;refine(HX2.out _ (HSLC.out _ hT1).2.2.2.2).mono ?_;rintro r w2 ⟨rfl,hB2⟩;have hT2:Below W0.heap.size W0 w2:=hT1.trans (hB2.mono hT1.size);refine⟨_,rfl,fun _=>hT2,?_⟩;obtain⟨S,hS⟩:=ex9 (bytesOf AX++{ data:=#[32] }++K++{ data:=#[32] }++bytesOf AY)
   have hSz:S.size≤1000000000000100:=by
    have h1:=HLA.out.2.2;rw[hS];simp only[ByteArray.size_append,sz_b,szz1,szK];omega
   refine AnyK.pure 15 (v:=.string S) rfl kr (fun _ _ _ h=>h) rfl (fun _=>by rw[hS];exact zan rr kr kr HCT.out.2.2.2.1) (fun _=>hT2) ?_;refine AnyK.val 16 (v:=.string S) rr kr rfl kr (fun h=>(by cases h)) ?_;have HEQ:Hid (S=bytesOf (AX++[32]++tx K++[32]++AY)):=(by show _=_;rw[hS,show({ data:=#[32] } : ByteArray)=bytesOf [32] from rfl,show K=bytesOf (tx K) from (zaz _).symm,zab,zab,zab,zab];simp[tx,bytesOf,List.append_assoc]);have HB9:Hid (Below w.heap.size w w2):=(HSLC.out _ hT2).2.2.2.2;refine AnyK.done ?_ ?_
   · kernel_rfl
   clear hS HCT hT hT1 hT2 HSLC HC HX1 HX2 hB1 hB2
   by_cases hb:2≤i
   · have hbi:(2:Int)≤(i:Int):=om
     go_wp2;go_ret;refine⟨?_,HB9.out⟩;rw[HP.out,decide_eq_true hb,par_t,show ∀L:List UInt8,(40 :: (L++[41]):List UInt8)=[40]++L++[41] from fun _=>rfl,←zab,←zab,←HEQ.out]
     rfl
   · have hbi:¬(2:Int)≤(i:Int):=om
     go_wp2;go_ret;refine⟨?_,HB9.out⟩;rw[HP.out,decide_eq_false hb,par_f,←HEQ.out]
     rfl
theorem zmd{F:Nat→Prop}(num:Int)(text:ByteArray)(at_:Int)(x y:Ex)(a:Option Addr × Nat)(i:Nat)(w:World)(hi:i≤3)(hx:∀a,RxA x a F)(hy:∀a,RxA y a F)(hl:(prE (.mk m_star num text at_ [x,y])).length+10≤1000000000000000)(hA:ArgsIn F w a.1 [x,y]):Calls Tryz.prog 37 #[.agg (exC (.mk m_star num text at_ [x,y]) a).toArray,.int .i64 i] w fun r w'=>r=.returned (.string (rxR (.mk m_star num text at_ [x,y]) i))∧Below w.heap.size w w':=by
 obtain⟨A,ca⟩:=a;obtain⟨b0,off,p1,rfl,hb0,hc1,hpa1⟩:=za4 hA 0 sy;obtain⟨b0',off',p2,e2,_,hc2,hpa2⟩:=za4 hA 1 sy;obtain⟨rfl,rfl⟩:b0=b0'∧off=off':=by simpa using e2
 obtain⟨AX,hAX⟩:=ex9 (par x.sum (prE x));obtain⟨AY,hAY⟩:=ex9 (par (y.sum || y.prod) (prE y));have HP:Hid (rxR (.mk m_star num text at_ [x,y]) i=bytesOf (par (decide (3≤i)) (AX++[32]++tx m_star++[32]++AY))):=(by show _=_;unfold rxR;rw[zcr _ _ _ _ _ _ sy];subst hAX hAY;simp[Ex.sum,Ex.prod,Ex.op,Ex.args,par_f,List.append_assoc]);obtain⟨V,hV⟩:=ex9 (rxR (.mk m_star num text at_ [x,y]) i);rw[←hV]at HP ⊢;clear hV
 have HLA:Hid ((prE x).length+10≤1000000000000000∧(prE y).length+10≤1000000000000000∧AX.length+AY.length+10≤1000000000000000):=by
  rw[zcr _ _ _ _ _ _ sy]at hl;have h1:=zfg x.sum (prE x);have h2:=zfg y.sum (prE y);have h3:=zfg (y.sum || y.prod) (prE y);subst hAX hAY;refine⟨?_,?_,?_⟩ <;> (simp[par_f]at hl ⊢ <;> omega)
 have HX1:Hid (∀W,Below w.heap.size w W→Calls Tryz.prog 37 #[.agg (exC x p1).toArray,.int .i64 2] W fun r w'=>r=.returned (.string (bytesOf AX))∧Below W.heap.size W w'):=fun W hW=>by
  have h1:=hx p1 2 W om HLA.out.1 (hpa1.keep (Keep.of_below hW F))
  unfold rxR at h1
  subst hAX
  simpa[par_f] using h1
 have HX2:Hid (∀W,Below w.heap.size w W→Calls Tryz.prog 37 #[.agg (exC y p2).toArray,.int .i64 3] W fun r w'=>r=.returned (.string (bytesOf AY))∧Below W.heap.size W w'):=fun W hW=>by
  have h1:=hy p2 3 W om HLA.out.2.1 (hpa2.keep (Keep.of_below hW F))
  unfold rxR at h1
  subst hAY
  simpa[par_f] using h1
 have HC:Hid (∀W,Below w.heap.size w W→W.rangeAt b0 (off+0*5) (exC x p1)∧W.rangeAt b0 (off+1*5) (exC y p2)):=fun W hW=>⟨fun q v hv=>(World.cell?_of_block (a:=⟨b0,off+0*5+q,none⟩) (hW.block b0 hb0)).trans (by have:=hc1 q v hv;rw[←Nat.add_assoc]at this;exact this),fun q v hv=>(World.cell?_of_block (a:=⟨b0,off+1*5+q,none⟩) (hW.block b0 hb0)).trans (by have:=hc2 q v hv;rw[←Nat.add_assoc]at this;exact this)⟩
 clear hA hx hy hl hc1 hc2 hpa1 hpa2 e2 hAX hAY;obtain⟨CX,hCX⟩:=ex9 (exC x p1);obtain⟨CY,hCY⟩:=ex9 (exC y p2);rw[←hCX]at HX1 HC;rw[←hCY]at HX2 HC;have HCC:Hid (CX.length=5∧CY.length=5):=⟨hCX ▸ rfl,hCY ▸ rfl⟩;clear hCX hCY
 unfold exC
 dsimp only [Ex.op,Ex.num,Ex.text,Ex.at_,Ex.args,List.length]
 go_enter Tryz.func37, Tryz.ntmps37
 go_upto_region 26 with fail
 obtain⟨W0,hW0⟩:=ex9 (w.alloc (.cells #[.string m_star,.int .i64 num,.string text,.int .i64 at_,.slice (some ⟨b0,off,none⟩) 2 ca] 39))
 have HZ0:Hid (Below w.heap.size w W0∧Blk W0 w.heap.size 39 [.string m_star,.int .i64 num,.string text,.int .i64 at_,.slice (some ⟨b0,off,none⟩) 2 ca]∧W0.heap.size=w.heap.size+1):=by
  subst hW0;exact⟨(Below.refl _ _).alloc lr _,Blk.new _ _ _,by simp⟩
 rw[←hW0];clear hW0;have hT:Below W0.heap.size W0 W0.drew:=Below.drew (Below.refl _ _);have HSLC:Hid (∀W,Below W0.heap.size W0 W→W.cell? ⟨w.heap.size,4,none⟩=some (.slice (some ⟨b0,off,none⟩) 2 ca)∧W.rangeAt b0 (off+0*5) CX∧W.rangeAt b0 (off+1*5) CY∧W.cell? ⟨w.heap.size,0,none⟩=some (.string m_star)∧Below w.heap.size w W):=fun W hW=>⟨(HZ0.out.2.1.below hW HZ0.out.2.1.lt).cell 4,(HC.out W (HZ0.out.1.trans (hW.mono (by have:=HZ0.out.2.2;omega)))).1,(HC.out W (HZ0.out.1.trans (hW.mono (by have:=HZ0.out.2.2;omega)))).2,(HZ0.out.2.1.below hW HZ0.out.2.1.lt).cell 0,HZ0.out.1.trans (hW.mono (by have:=HZ0.out.2.2;omega))⟩
 refine kgo kr 12 (fun W=>Below W0.heap.size W0 W) hT (fun _ _ _ _ _ h=>h) ?_;refine kp 0 (.pointer (some ⟨w.heap.size,4,none⟩)) rfl kr (fun _=>kr) ?_;refine kl 1 (.slice (some ⟨b0,off,none⟩) 2 ca) rfl kr (fun w' hw'=>zah (t:=37) (x:=.tmp 84) rr kr agSlx (HSLC.out w' hw').1) ?_;refine kp 2 (.pointer (some ⟨b0,off+0*5,none⟩)) rfl kr (fun _=>zay (t:=37) (x:=.tmp 85) (y:=.const (.int .i64 0)) (g:=b0) (off:=off) (n:=2) (c:=ca) (p:=0) rr kr kr om Tryz.underlying37 szEx5) ?_;refine kl 3 (.agg CX.toArray) rfl kr (fun w' hw'=>zac rfl kr (run_loadAt_mid w' b0 (off+0*5) 39 CX _ (HSLC.out w' hw').2.1 Tryz.underlying39 rfl (by rw[HCC.out.1];exact hdEx))) ?_;refine kp 6 (.pointer (some ⟨w.heap.size,4,none⟩)) rfl kr (fun _=>kr) ?_;refine kl 7 (.slice (some ⟨b0,off,none⟩) 2 ca) rfl kr (fun w' hw'=>zah (t:=37) (x:=.tmp 90) rr kr agSlx (HSLC.out w' hw').1) ?_;refine kp 8 (.pointer (some ⟨b0,off+1*5,none⟩)) rfl kr (fun _=>zay (t:=37) (x:=.tmp 91) (y:=.const (.int .i64 1)) (g:=b0) (off:=off) (n:=2) (c:=ca) (p:=1) rr kr kr om Tryz.underlying37 szEx5) ?_;refine kl 9 (.agg CY.toArray) rfl kr (fun w' hw'=>zac rfl kr (run_loadAt_mid w' b0 (off+1*5) 39 CY _ (HSLC.out w' hw').2.2.1 Tryz.underlying39 rfl (by rw[HCC.out.2];exact hdEx))) ?_;intro q8 q9;clear q8 q9;refine AnyK.enter 4 (d:=some 88) (f:=37) (args:=#[.agg CX.toArray,.int .i64 2]) rr kr kr ?_;refine(HX1.out _ (HSLC.out _ hT).2.2.2.2).mono ?_;rintro r w1 ⟨rfl,hB1⟩;have hT1:Below W0.heap.size W0 w1:=hT.trans hB1;refine⟨_,rfl,fun _=>hT1,?_⟩
 have HCT:Hid ((bytesOf AX).size+({ data:=#[32,42,32] } : ByteArray).size≤9223372036854775807∧(bytesOf AX++{ data:=#[32,42,32] }).size+(bytesOf AY).size≤9223372036854775807∧True):=by
  have h1:=HLA.out.2.2;refine⟨?_,?_,trivial⟩ <;> (simp only[ByteArray.size_append,sz_b,szz3];omega)
 refine AnyK.pure 5 (v:=.string (bytesOf AX++{ data:=#[32,42,32] })) rfl kr (fun _ _ _ h=>h) rfl (fun _=>zan rr kr kr HCT.out.1) (fun _=>hT1) ?_;refine AnyK.enter 10 (d:=some 94) (f:=37) (args:=#[.agg CY.toArray,.int .i64 3]) rr kr kr ?_;refine(HX2.out _ (HSLC.out _ hT1).2.2.2.2).mono ?_;rintro r w2 ⟨rfl,hB2⟩;have hT2:Below W0.heap.size W0 w2:=hT1.trans (hB2.mono hT1.size);refine⟨_,rfl,fun _=>hT2,?_⟩;obtain⟨S,hS⟩:=ex9 (bytesOf AX++{ data:=#[32,42,32] }++bytesOf AY)
 have hSz:S.size≤1000000000000100:=by
  have h1:=HLA.out.2.2;rw[hS];simp only[ByteArray.size_append,sz_b,szz3];omega
 refine AnyK.pure 11 (v:=.string S) rfl kr (fun _ _ _ h=>h) rfl (fun _=>by rw[hS];exact zan rr kr kr HCT.out.2.1) (fun _=>hT2) ?_;refine AnyK.val 12 (v:=.string S) rr kr rfl kr (fun h=>(by cases h)) ?_;have HEQ:Hid (S=bytesOf (AX++[32]++tx m_star++[32]++AY)):=(by show _=_;rw[hS,show({ data:=#[32,42,32] } : ByteArray)=bytesOf [32,42,32] from rfl,zab,zab];simp[tx,bytesOf,List.append_assoc]);have HB9:Hid (Below w.heap.size w w2):=(HSLC.out _ hT2).2.2.2.2;refine AnyK.done ?_ ?_
 · kernel_rfl
 clear hS HCT hT hT1 hT2 HSLC HC HX1 HX2 hB1 hB2
 by_cases hb:3≤i
 · have hbi:(3:Int)≤(i:Int):=om
   go_wp2;go_ret;refine⟨?_,HB9.out⟩;rw[HP.out,decide_eq_true hb,par_t,show ∀L:List UInt8,(40 :: (L++[41]):List UInt8)=[40]++L++[41] from fun _=>rfl,←zab,←zab,←HEQ.out]
   rfl
 · have hbi:¬(3:Int)≤(i:Int):=om
   go_wp2;go_ret;refine⟨?_,HB9.out⟩;rw[HP.out,decide_eq_false hb,par_f,←HEQ.out]
   rfl
theorem zbn{F:Nat→Prop}{e:Ex}(h:ExAn e):∀a,RxA e a F:=by
 induction h with
 | mk op num text at_ args h0 h1 h2 h3 hi ih =>
  intro a i w hi3 hl hA
  by_cases e1:op=k_number
  · subst e1;exact zis num text at_ args a i w h0 h1
  by_cases e2:op=k_name
  · subst e2;exact zmf num text at_ args a i w
  by_cases e3:op=k_text
  · subst e3;exact zmc num text at_ args a i w h2
  by_cases e4:op=k_join
  · subst e4;exact zmg num text at_ args a i w h3 ih hl hA
  by_cases e5:op=m_plus∨op=m_minus∨op=m_star
  · by_cases hn:args.length=2
    · match args,hn,ih,hA with
      | [x,y],_,ih,hA =>
       have hx:=ih x sy;have hy:=ih y sy
       rcases e5 with h5|h5|rfl
       · exact zn0 op (.inl h5) num text at_ x y a i w hi3 hx hy hl hA
       · exact zn0 op (.inr h5) num text at_ x y a i w hi3 hx hy hl hA
       · exact zmd num text at_ x y a i w hi3 hx hy hl hA
    · exact zot op e5 num text at_ args a i w hn
  · exact zme op e1 e2 e3 e4 (fun h=>e5 (.inl h)) (fun h=>e5 (.inr (.inl h))) (fun h=>e5 (.inr (.inr h))) num text at_ args a i w
end
end
end Go.Proofs.YtafjkbbiaopemaaGreatDoor.Tr
