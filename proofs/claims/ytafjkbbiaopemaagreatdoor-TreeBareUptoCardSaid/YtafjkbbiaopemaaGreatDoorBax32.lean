/- Part of the proof. -/
import Derived.Lib.ItoaLen
import Derived.Test.YtafjkbbiaopemaaGreatDoorBax28
import Derived.Test.YtafjkbbiaopemaaGreatDoorBax31
set_option linter.all false
set_option maxRecDepth 100000
set_option maxHeartbeats 0
namespace Go.Proofs.YtafjkbbiaopemaaGreatDoor.Tr
open Go.RowKit
section
theorem zcm(s p:List UInt8):∀l:List (List UInt8),l≠[]→sepB s (l++[p])=sepB s l++s++p
 | [],h=>absurd rfl h
 | [a],_=>by simp[sepB]
 | a :: b :: l,_=>by
  have h:=zcm s p (b :: l) sy;simp only[List.cons_append]at h ⊢;rw[sepB,sepB,h]
  simp[List.append_assoc]
theorem zdc{s p:List UInt8}{ps:List (List UInt8)}(h:ps[0]? = some p):sepB s (ps.take 1)=p:=by
 cases ps with
 | nil=>simp at h
 | cons x l=>simp at h;subst h;simp[sepB]
theorem zb4{s p:List UInt8}{ps:List (List UInt8)}{i:Nat}(hi:0<i)(h:ps[i]? = some p):sepB s (ps.take (i+1))=sepB s (ps.take i)++s++p:=by
 have hl:=(gi9.1 h).1;rw[List.take_add_one,h];exact zcm s p _ (by intro e;have:=congrArg List.length e;simp only[List.length_take,List.length_nil]at this;omega)
theorem zd0(s:List UInt8)(ps:List (List UInt8)):∀k:Nat,∀i,i+k=ps.length→(sepB s (ps.take i)).length≤(sepB s ps).length
 | 0,i,h=>by rw[tk om];exact lr
 | k+1,i,h=>by
  refine Nat.le_trans ?_ (zd0 s ps k (i+1) om);obtain⟨p,hp⟩:∃p,ps[i]? = some p:=⟨_,ge9 om⟩
  rcases Nat.eq_zero_or_pos i with h0|h0
  · subst h0;simp[sepB]
  · rw[zb4 h0 hp];simp
theorem zeu{F:Nat→Prop}{w:World}(o:Obj):Keep F F w (w.alloc o):=⟨((Below.refl w.heap.size w).alloc lr o).size,fun k _ hk=>Below.heap_alloc w o k hk,fun _ h _=>h⟩
section
variable{w w' w0:World}{b B g:Nat}{l l':List UInt8}
theorem zo4{F:Nat→Prop}(num:Int)(text:ByteArray)(at_:Int)(args:List Ex)(a:Option Addr × Nat)(hn:args.length≤1000000)(hx:∀e∈args,∀a,PxK e a F)(h:IsP B b l w)(hB:B≤w.heap.size)(hl:l.length+(prE (.mk k_join num text at_ args)).length≤1000000000)(hF:∀k,F k→k<B)(hA:ArgsIn F w a.1 args)(hT:Tab B w):
 Calls Tryz.prog 71 #[.pointer (some ⟨b,0,none⟩),.agg (exC (.mk k_join num text at_ args) a).toArray] w fun r w'=>PrE B b w (l++prE (.mk k_join num text at_ args)) r w':=by
 obtain⟨A,ca⟩:=a;have H0:=qh ((PrS.start h hB).al (.cells (exC (.mk k_join num text at_ args) (A,ca)).toArray 39));have HP:Hid (prE (.mk k_join num text at_ args)=[106,111,105,110,40]++sepB [44,32] (prL args)++[41]):=(by show _=_;rw[prE];unfold prB;rw[if_neg (by decide),if_neg (by decide),if_neg (by decide),if_pos rfl]);rw[HP.out]at hl ⊢;have hpl:(prL args).length=args.length:=by rw[zcq];simp
 have hpi:∀i (hi:i<args.length),(prL args)[i]? = some (prE args[i]):=fun i hi=>by rw[zcq,List.getElem?_map,ge9 hi];rfl
 have HSL:Hid (∀i,i≤args.length→l.length+5+(sepB [44,32] ((prL args).take i)).length+1≤1000000000):=fun i hi=>by
  have h1:=zd0 [44,32] (prL args) (args.length-i) i om;simp only[List.length_append,List.length_cons,List.length_nil]at hl;omega
 have HS1:Hid (∀i (hi:i<args.length),0<i→sepB [44,32] ((prL args).take (i+1))=sepB [44,32] ((prL args).take i)++[44,32]++prE args[i]):=fun i hi h0=>zb4 h0 (hpi i hi)
 have HS0:Hid (∀(hi:0<args.length),sepB [44,32] ((prL args).take 1)=prE args[0]):=fun hi=>zdc (hpi 0 hi)
 have HSN:Hid (sepB [44,32] ((prL args).take args.length)=sepB [44,32] (prL args)):=(by show _=_;rw[tk om])
 have HXA:Hid (∀i (hi:i<args.length) (p:Option Addr × Nat) (l':List UInt8) W,IsP B b l' W→B≤W.heap.size→l'.length+(prE args[i]).length≤1000000000→Below B w W→ArgsIn F W p.1 args[i].args→Calls Tryz.prog 71 #[.pointer (some ⟨b,0,none⟩),.agg (exC args[i] p).toArray] W fun r w'=>PrE B b W (l'++prE args[i]) r w'):=fun i hi p l' W h1 h2 h3 hW h4 =>
  hx _ (List.getElem_mem hi) p B b l' W h1 h2 h3 hF h4 (hT.mv hW)
 have HAW:Hid (∀W,Below B w W→ArgsIn F W A args):=fun W hW=>hA.keep ⟨hW.size,fun k hk _=>hW.block k (hF k hk),fun _ h _=>h⟩
 have HFF:Hid (∀k,F k→k<B):=hF;have hbw:=h.lt;clear h hA hx hl hT hpi HP
 unfold exC at H0 ⊢
 dsimp only [Ex.op,Ex.num,Ex.text,Ex.at_,Ex.args]at H0 ⊢;have hn8:(args.length:Int)≤1000000:=om
 go_enter Tryz.func71, Tryz.ntmps71
 go_upto_region 11 with (go_at_call 70;(refine(zad H0.out _ sy [{ data:=#[106,111,105,110,40] }] 1 rfl (by decide) (by have:=HSL.out 0 (Nat.zero_le _);simp[flatS];omega)).mono ?_);rintro r w3 h3;have H3:=qh ((H0.out.al _).st h3);have HZ3:Hid (Blk w3 w.heap.size 39 [.string k_join,.int .i64 num,.string text,.int .i64 at_,.slice A args.length ca]):=h3.2.2.2.blk ((Blk.new w _ _).alloc _) om (by decide);have n4:w3.cell? ⟨w.heap.size,4,none⟩=some (.slice A args.length ca):=HZ3.out.cell 4;have n5:=HZ3.out.lt;obtain⟨rfl,_⟩:=h3)
 have H4:Hid (PrS B b w (l++[106,111,105,110,40]++sepB [44,32] ((prL args).take 0)) w3):=by
  have h6:=H3.out;rw[show l++flatS [{ data:=#[106,111,105,110,40] }]=l++[106,111,105,110,40]++sepB [44,32] ((prL args).take 0) by simp[flatS,sepB]]at h6;exact h6
 clear H3 H0;go_wp2;clear n4 n5 HZ3
 go_loopg [4,5,45] args.length (fun kk v4 v5 v45 wr=>∃i:Nat,v45=.int .i64 i∧kk+i=args.length∧PrS B b w (l++[106,111,105,110,40]++sepB [44,32] ((prL args).take i)) wr)
 case atStart=>exact⟨0,rfl,rfl,H4.out⟩
 case round =>
  clear H4;obtain⟨i,rfl,hk,hS⟩:=hrel;have HS:=qh hS;clear hS
  by_cases hi:i<args.length
  · obtain⟨b0,off,p,rfl,hb0,hc,hpa⟩:=za4 (HAW.out wr HS.out.bl) i hi
    have hii:(i:Int)<(args.length:Int):=om;have HPA:=qh hpa;have HXI:=qh (HXA.out i hi p);have HSI:=qh (And.intro (HSL.out (i+1) om) (HS1.out i hi));have HS00:=HS0.out om;have hget:i=0→args[0]'om=args[i]:=fun h=>by subst h;rfl
    generalize args[i]=e at *;have c0:wr.cell? ⟨b0,off+i*5,none⟩=some (.string e.op):=hc 0 _ rfl;have c1:wr.cell? ⟨b0,off+i*5+1,none⟩=some (.int .i64 e.num):=by have:=hc 1 _ rfl;rw[←Nat.add_assoc]at this;exact this
    have c2:wr.cell? ⟨b0,off+i*5+2,none⟩=some (.string e.text):=by have:=hc 2 _ rfl;rw[←Nat.add_assoc]at this;exact this
    have c3:wr.cell? ⟨b0,off+i*5+3,none⟩=some (.int .i64 e.at_):=by have:=hc 3 _ rfl;rw[←Nat.add_assoc]at this;exact this
    have c4:wr.cell? ⟨b0,off+i*5+4,none⟩=some (.slice p.1 e.args.length p.2):=by have:=hc 4 _ rfl;rw[←Nat.add_assoc]at this;exact this
    have HZ1:Hid (Blk (wr.alloc (.cells (exC e p).toArray 39)) wr.heap.size 39 (exC e p)∧b<wr.heap.size):=⟨Blk.new _ _ _,HS.out.p.lt⟩;have HS2:=qh (HS.out.al (.cells (exC e p).toArray 39));clear hc hpa HXA HAW
    by_cases h0:i=0
    · have HE1:Hid (sepB [44,32] ((prL args).take 1)=prE e):=HS00.trans (by rw[hget h0])
      clear HS00 hget;subst h0;simp only[Nat.zero_mul,Nat.add_zero]at c0 c1 c2 c3 c4
      unfold exC at HS2 HZ1
      go_wp2_with (go_at_call 71;(refine(HXI.out _ _ (by exact HS2.out.p) (by exact Nat.le_trans HS2.out.hB HS2.out.bl.size) (by have:=HSI.out.1;rw[HE1.out]at this;simp[sepB];omega) (by exact HS2.out.bl) (by exact HPA.out.keep (zeu _))).mono ?_);rintro r w5 h5;have H5:=qh (HS2.out.st h5);obtain⟨rfl,_⟩:=h5)
      have H6:Hid (PrS B b w (l++[106,111,105,110,40]++sepB [44,32] ((prL args).take 1)) w5):=by
       have h6:=H5.out
       show PrS B b w _ w5
       rw[HE1.out]
       simpa[sepB] using h6
      go_roundg (args.length-1)
      case measure=>omega
      case rel=>exact⟨1,by simp,by omega,H6.out⟩
    · have hi0:(0:Int)<(i:Int):=om
      clear HS00 hget
      unfold exC at HS2 HZ1
      go_wp2_with (first
       | (go_at_call 71;(refine(HXI.out _ _ (by exact H4.out.p) (by exact Nat.le_trans H4.out.hB H4.out.bl.size) (by have h7:=HSI.out.1;rw[HSI.out.2 om]at h7;simp[flatS]at h7 ⊢;omega) (by exact H4.out.bl) (by exact HP4.out)).mono ?_);rintro r w5 h5;have H5:=qh (H4.out.st h5);obtain⟨rfl,_⟩:=h5)
       | (go_at_call 70;(refine(zad HS2.out _ sy [{ data:=#[44,32] }] 1 rfl (by decide) (by have h7:=HSI.out.1;rw[HSI.out.2 om]at h7;simp[flatS]at h7 ⊢;omega)).mono ?_);rintro r w4 h4;have H4:=qh ((HS2.out.al _).st h4);have HZ4:=qh (h4.2.2.2.blk (HZ1.out.1.alloc _) (by have:=HZ1.out.2;omega) (by decide));obtain⟨n0,n1,n2,n3,n4⟩:=Blk.five HZ4.out;have n5:=HZ4.out.lt;have HP4:Hid (ArgsIn F w4 p.1 e.args):=HPA.out.keep ⟨by have:=h4.2.2.1.size;simp at this;omega,fun k hk hlt=>(h4.2.2.1.block k (HFF.out k hk)).trans (((Below.refl wr.heap.size wr).alloc lr _).alloc sy _ |>.block k hlt),fun _ h _=>h⟩;obtain⟨rfl,_⟩:=h4))
      have H6:Hid (PrS B b w (l++[106,111,105,110,40]++sepB [44,32] ((prL args).take (i+1))) w5):=by
       have h6:=H5.out;rw[HSI.out.2 om];rw[show l++[106,111,105,110,40]++(sepB [44,32] ((prL args).take i)++[44,32]++prE e)=l++[106,111,105,110,40]++sepB [44,32] ((prL args).take i)++flatS [{ data:=#[44,32] }]++prE e by simp[flatS,List.append_assoc]];exact h6
      go_roundg (args.length-(i+1))
      case measure=>omega
      case rel=>exact⟨i+1,by simp,by omega,H6.out⟩
  · have hii:¬(i:Int)<(args.length:Int):=om
    obtain rfl:i=args.length:=om;have hSN:=HSN.out;clear HXA HAW HS0 HS1
    go_wp2_with (go_at_call 70;(refine(zad HS.out _ sy [{ data:=#[41] }] 1 rfl (by decide) (by have:=HSL.out args.length lr;simp[flatS];omega)).mono ?_);rintro r w6 h6;have H6:=qh ((HS.out.al _).st h6);obtain⟨rfl,_⟩:=h6)
    first|go_end0|refine bodyPost_ret (results_none rfl _ _ _) rfl ?_
    have h7:=H6.out.fin;rw[hSN,show l++[106,111,105,110,40]++sepB [44,32] (prL args)++flatS [{ data:=#[41] }]=l++([106,111,105,110,40]++sepB [44,32] (prL args)++[41]) by simp[flatS,List.append_assoc]]at h7;exact h7
end
end
section
section
variable{P:Program}{ops:Array Oper}{Q:Exit→Act→World→Prop}{md:Region.Mode}{T:World→Prop}{k:Nat}
theorem AnyK.skipW{fuel:Nat}{listed:Array Bool}{a:Act}{w:World}(i:Nat){oi:Oper}(hi:ops[i]? = some oi)(hd:takeB md ops listed k i=true)
 (hQ:∀c a w,Q (.panic c) (a.put oi.dst undef) w→Q (.panic c) a w) (hg:Region.wanted oi (yielded ops a.tmps)=false) (hT:listed.getD k true=false→T w)
 (h:AnyK P md ops Q k T fuel (listed.setIfInBounds i true) (a.put oi.dst undef) w):AnyK P md ops Q k T (fuel+1) listed a w:=by
 simp only[takeB,Bool.and_eq_true,decide_eq_true_eq]at hd;obtain⟨⟨⟨h1,h2⟩,h3⟩,h4⟩:=hd;exact AnyK.first (S:=fun _=>True) hi h1 (Region.noSelect_spec h2) hQ (.inl fun _=>trivial) fuel listed a w (Region.free_spec hi h3) (by simpa using h4) (.inr ⟨hg,rfl⟩) trivial hT (.inl fun _=>trivial) h
theorem AnyK.skip1{fuel:Nat}{listed:Array Bool}{a:Act}{w:World}(i:Nat){oi:Oper}(hi:ops[i]? = some oi)(hr:Region.ready md ops listed=[i])(hg:Region.wanted oi (yielded ops a.tmps)=false)
 (hT:(listed.setIfInBounds i true).getD k true=false→T w) (h:AnyK P md ops Q k T fuel (listed.setIfInBounds i true) (a.put oi.dst undef) w):AnyK P md ops Q k T (fuel+1) listed a w:=by
 refine⟨fun h0=>(by rw[hr]at h0;cases h0),fun j hj=>?_⟩;rw[hr]at hj;obtain rfl:j=i:=by simpa using hj
 unfold wpOp
 simp only[hi];rw[if_neg (by rw[hg];simp)];exact⟨hT,h⟩
end
theorem zla{P:Program}{w:World}{a:Act}{o:Oper}{t t':TypeId}{x y:Operand}{p:ByteArray}{l:List UInt8}(ho:o.op=.binOp .eql t x y t')(hx:a.eval x=.string p)(hy:a.eval y=.string ⟨l.toArray⟩)(h:p≠⟨l.toArray⟩):(execOp a.eval o).run P w=.ok (.value (.bool false)) w:=by
 unfold execOp
 have h2:p.toList≠l:=beq_eq_false_iff_ne.1 (strl h)
 simp[ho,hx,hy,eqGuard,binOp_string_eql,h2]
theorem agStr(w:World):(isAgg 9).run Tryz.prog w=.ok false w:=by kernel_rfl
theorem szEx5(w:World):(sizeOf 39).run Tryz.prog w=.ok 5 w:=by kernel_rfl
section
variable{w w' w0:World}{b B g:Nat}{l l':List UInt8}
theorem zcr(op:ByteArray)(num:Int)(text:ByteArray)(at_:Int)(x y:Ex)(h:op=m_plus∨op=m_minus∨op=m_star):prE (.mk op num text at_ [x,y])=par (decide (op=m_star) && x.sum) (prE x)++[32]++tx op++[32]++par (y.sum || (decide (op=m_star) && y.prod)) (prE y):=by
 rw[prE]
 unfold prB
 rw[if_neg (by rcases h with h|h|h <;> rw[h] <;> decide),if_neg (by rcases h with h|h|h <;> rw[h] <;> decide),if_neg (by rcases h with h|h|h <;> rw[h] <;> decide),if_neg (by rcases h with h|h|h <;> rw[h] <;> decide),if_pos h]
 rfl
theorem px_pm{F:Nat→Prop}(K:ByteArray)(hK:K=m_plus∨K=m_minus)(num:Int)(text:ByteArray)(at_:Int)(x y:Ex)(a:Option Addr × Nat)(hx:∀a,PxK x a F)(hy:∀a,PxK y a F)(h:IsP B b l w)(hB:B≤w.heap.size)(hl:l.length+(prE (.mk K num text at_ [x,y])).length≤1000000000)(hF:∀k,F k→k<B)(hA:ArgsIn F w a.1 [x,y])(hT:Tab B w):
 Calls Tryz.prog 71 #[.pointer (some ⟨b,0,none⟩),.agg (exC (.mk K num text at_ [x,y]) a).toArray] w fun r w'=>PrE B b w (l++prE (.mk K num text at_ [x,y])) r w':=by
 obtain⟨A,ca⟩:=a;obtain⟨b0,off,p1,rfl,hb0,hc1,hpa1⟩:=za4 hA 0 sy;obtain⟨b0',off',p2,e2,_,hc2,hpa2⟩:=za4 hA 1 sy;obtain⟨rfl,rfl⟩:b0=b0'∧off=off':=by simpa using e2
 have H0:=qh ((PrS.start h hB).al (.cells (exC (.mk K num text at_ [x,y]) (some ⟨b0,off,none⟩,ca)).toArray 39));have HP:Hid (prE (.mk K num text at_ [x,y])=par false (prE x)++[32]++tx K++[32]++par y.sum (prE y)):=(by show _=_;rw[zcr _ _ _ _ _ _ (by rcases hK with h|h;exact .inl h;exact .inr (.inl h)),show decide (K=m_star)=false by rcases hK with h|h <;> rw[h] <;> decide];simp);rw[HP.out]at hl ⊢;have HL:Hid (l.length+(par false (prE x)).length+(tx K).length+2+(par y.sum (prE y)).length≤1000000000):=(by show _≤_;simp only[List.length_append,List.length_cons,List.length_nil]at hl;omega);have hkl:(tx K).length=1:=by rcases hK with h|h <;> rw[h] <;> rfl
 have HA2:Hid (∀W,Below B w W→ArgsIn F W p1.1 x.args∧ArgsIn F W p2.1 y.args):=fun W hW=>⟨hpa1.keep ⟨hW.size,fun k hk _=>hW.block k (hF k hk),fun _ h _=>h⟩,hpa2.keep ⟨hW.size,fun k hk _=>hW.block k (hF k hk),fun _ h _=>h⟩⟩
 have HO1:Hid (∀(q:Bool) (l':List UInt8) W,IsP B b l' W→B≤W.heap.size→l'.length+(par q (prE x)).length≤1000000000→Below B w W→Calls Tryz.prog 95 #[.pointer (some ⟨b,0,none⟩),.agg (exC x p1).toArray,.bool q] W fun r w'=>PrE B b W (l'++par q (prE x)) r w'):=fun q l' W h1 h2 h3 hW=>zcv x p1 (hx p1) q h1 h2 h3 hF (HA2.out W hW).1 (hT.mv hW)
 have HO2:Hid (∀(q:Bool) (l':List UInt8) W,IsP B b l' W→B≤W.heap.size→l'.length+(par q (prE y)).length≤1000000000→Below B w W→Calls Tryz.prog 95 #[.pointer (some ⟨b,0,none⟩),.agg (exC y p2).toArray,.bool q] W fun r w'=>PrE B b W (l'++par q (prE y)) r w'):=fun q l' W h1 h2 h3 hW=>zcv y p2 (hy p2) q h1 h2 h3 hF (HA2.out W hW).2 (hT.mv hW)
 have HS1:=qh (sum_c x p1);have HS2:=qh (sum_c y p2);have HPR:=qh (zge y p2);have HC:Hid (∀W,Below w.heap.size w W→W.rangeAt b0 (off+0*5) (exC x p1)∧W.rangeAt b0 (off+1*5) (exC y p2)):=fun W hW=>⟨fun q v hv=>(World.cell?_of_block (a:=⟨b0,off+0*5+q,none⟩) (hW.block b0 hb0)).trans (by have:=hc1 q v hv;rw[←Nat.add_assoc]at this;exact this),fun q v hv=>(World.cell?_of_block (a:=⟨b0,off+1*5+q,none⟩) (hW.block b0 hb0)).trans (by have:=hc2 q v hv;rw[←Nat.add_assoc]at this;exact this)⟩
 have hbw:=h.lt;have HBW:=qh hB;clear h hA hx hy hl hT HP hc1 hc2 hpa1 hpa2 HA2 e2;generalize hpx:prE x=px at *;generalize hpy:prE y=py at *;generalize x.sum=sx at *;generalize y.prod=dy at *;generalize y.sum=ys at *;obtain⟨CX,hCX⟩:=ex9 (exC x p1);obtain⟨CY,hCY⟩:=ex9 (exC y p2);rw[←hCX]at HO1 HS1 HC;rw[←hCY]at HO2 HS2 HPR HC;have HCC:Hid ((∀v∈CX,v.oneCell'=true)∧(∀v∈CY,v.oneCell'=true)∧CX.length=5∧CY.length=5):=⟨hCX ▸ zau _ _,hCY ▸ zau _ _,hCX ▸ rfl,hCY ▸ rfl⟩;clear hCX hCY hpx hpy
 unfold exC at H0 ⊢
 dsimp only [Ex.op,Ex.num,Ex.text,Ex.at_,Ex.args,List.length]at H0 ⊢;have x1:(K.toList == [110,117,109,98,101,114])=false:=strl (by rcases hK with h|h <;> rw[h] <;> decide);have x2:(K.toList == [110,97,109,101])=false:=strl (by rcases hK with h|h <;> rw[h] <;> decide);have x3:(K.toList == [116,101,120,116])=false:=strl (by rcases hK with h|h <;> rw[h] <;> decide);have x4:(K.toList == [106,111,105,110])=false:=strl (by rcases hK with h|h <;> rw[h] <;> decide)
 have hpm:(K.toList == [43])=true∨((K.toList == [43])=false∧(K.toList == [45])=true):=by
  rcases hK with h|h
  · left;rw[h];kernel_rfl
  · right;exact⟨strl (by rw[h];decide),by rw[h];kernel_rfl⟩
 have hks:K≠m_star:=by rcases hK with h|h <;> rw[h] <;> decide
 clear hK
 go_enter Tryz.func71, Tryz.ntmps71
 rcases hpm with xp|⟨xp,xm⟩
 all_goals go_upto_region 24 with fail
 all_goals
   obtain⟨W0,hW0⟩:=ex9 (w.alloc (.cells #[.string K,.int .i64 num,.string text,.int .i64 at_,.slice (some ⟨b0,off,none⟩) 2 ca] 39))
   have HZ0:Hid (Below w.heap.size w W0∧Blk W0 w.heap.size 39 [.string K,.int .i64 num,.string text,.int .i64 at_,.slice (some ⟨b0,off,none⟩) 2 ca]∧W0.heap.size=w.heap.size+1):=by
    subst hW0;exact⟨(Below.refl _ _).alloc lr _,Blk.new _ _ _,by simp⟩
   rw[←hW0]at H0;rw[←hW0];clear hW0;have hT:Below W0.heap.size W0 W0.drew:=Below.drew (Below.refl _ _);have HSLC:Hid (∀W,Below W0.heap.size W0 W→W.cell? ⟨w.heap.size,4,none⟩=some (.slice (some ⟨b0,off,none⟩) 2 ca)∧W.rangeAt b0 (off+0*5) CX∧W.rangeAt b0 (off+1*5) CY):=fun W hW=>⟨(HZ0.out.2.1.below hW HZ0.out.2.1.lt).cell 4,HC.out W (HZ0.out.1.trans (hW.mono (by have:=HZ0.out.2.2;omega)))⟩
   refine kgo kr 11 (fun W=>Below W0.heap.size W0 W) hT (fun _ _ _ _ _ h=>h) ?_;refine kp 0 (.pointer (some ⟨w.heap.size,4,none⟩)) rfl kr (fun _=>kr) ?_;refine kl 1 (.slice (some ⟨b0,off,none⟩) 2 ca) rfl kr (fun w' hw'=>zah (t:=37) (x:=.tmp 73) rr kr agSlx (HSLC.out w' hw').1) ?_;refine kp 2 (.pointer (some ⟨b0,off+0*5,none⟩)) rfl kr (fun _=>zay (t:=37) (x:=.tmp 74) (y:=.const (.int .i64 0)) (g:=b0) (off:=off) (n:=2) (c:=ca) (p:=0) rr kr kr om Tryz.underlying37 szEx5) ?_;refine kl 3 (.agg CX.toArray) rfl kr (fun w' hw'=>zac rfl kr (run_loadAt_mid w' b0 (off+0*5) 39 CX _ (HSLC.out w' hw').2.1 Tryz.underlying39 rfl (by rw[HCC.out.2.2.1];exact hdEx))) ?_;refine kp 4 (.pointer (some ⟨w.heap.size,4,none⟩)) rfl kr (fun _=>kr) ?_;refine kl 5 (.slice (some ⟨b0,off,none⟩) 2 ca) rfl kr (fun w' hw'=>zah (t:=37) (x:=.tmp 77) rr kr agSlx (HSLC.out w' hw').1) ?_;refine kp 6 (.pointer (some ⟨b0,off+1*5,none⟩)) rfl kr (fun _=>zay (t:=37) (x:=.tmp 78) (y:=.const (.int .i64 1)) (g:=b0) (off:=off) (n:=2) (c:=ca) (p:=1) rr kr kr om Tryz.underlying37 szEx5) ?_;refine kl 7 (.agg CY.toArray) rfl kr (fun w' hw'=>zac rfl kr (run_loadAt_mid w' b0 (off+1*5) 39 CY _ (HSLC.out w' hw').2.2 Tryz.underlying39 rfl (by rw[HCC.out.2.2.2];exact hdEx))) ?_;intro q8 q9;clear q8 q9;refine AnyK.two_new 8 9 10 11 (d1:=6) (d2:=7) (e1:=76) (e2:=80) (by decide) 39 zEc CX CY rfl rfl rfl (fun _ _=>by kernel_rfl) rfl rfl rfl (fun _ _=>by kernel_rfl) rfl rfl rfl rfl rfl rfl rfl rfl (fun _ _=>by kernel_rfl) (fun _ _=>by kernel_rfl) (fun _ _=>by kernel_rfl) (fun _ _=>by kernel_rfl) kr kr kr kr kr kr hdEx HCC.out.1 HCC.out.2.2.1 HCC.out.2.1 HCC.out.2.2.2 (fun W hW=>hT.trans hW) ?_;intro g1 g2 w8 hg1 hg2 hk1 hk2 hB8;have hg1':W0.heap.size≤g1:=hg1;have hg2':W0.heap.size≤g2:=hg2;have H8:Hid (PrS B b w l w8∧Blk w8 w.heap.size 39 [.string K,.int .i64 num,.string text,.int .i64 at_,.slice (some ⟨b0,off,none⟩) 2 ca]∧Blk w8 g1 39 CX∧Blk w8 g2 39 CY∧b≠g1∧b≠g2∧Below W0.heap.size W0 w8):=⟨H0.out.bo (hT.trans hB8) (Oth.of_below (hT.trans hB8)),HZ0.out.2.1.below (hT.trans hB8) HZ0.out.2.1.lt,hk1,hk2,by have:=HZ0.out.2.2;omega,by have:=HZ0.out.2.2;omega,hT.trans hB8⟩;clear hk1 hk2 hB8 hT HSLC H0 HZ0 HC hg1 hg2 hg1' hg2';go_wp2;simp only[List.getElem_toArray,List.getElem_cons_zero,List.getElem_cons_succ,Act.put,List.setIfInBounds_toArray,List.set_cons_succ,List.set_cons_zero];have hT:Below w8.heap.size w8 w8.drew:=Below.drew (Below.refl _ _);have HLD:Hid (∀W,Below w8.heap.size w8 W→W.rangeAt g1 0 CX∧W.rangeAt g2 0 CY∧W.cell? ⟨w.heap.size,0,none⟩=some (.string K)):=fun W hW=>⟨fun q v hv=>by rw[Nat.zero_add];exact((H8.out.2.2.1.below hW H8.out.2.2.1.lt).cell q).trans hv,fun q v hv=>by rw[Nat.zero_add];exact((H8.out.2.2.2.1.below hW H8.out.2.2.2.1.lt).cell q).trans hv,(H8.out.2.1.below hW H8.out.2.1.lt).cell 0⟩
   refine kgo kr 9 (fun W=>Below w8.heap.size w8 W) hT (fun _ _ _ _ _ h=>h) ?_;refine kp 0 (.pointer (some ⟨b,0,none⟩)) rfl kr (fun _=>kr) ?_;refine kl 1 (.agg CX.toArray) rfl kr (fun w' hw'=>zac rfl kr (run_loadAt_mid w' g1 0 39 CX _ (HLD.out w' hw').1 Tryz.underlying39 rfl (by rw[HCC.out.2.2.1];exact hdEx))) ?_;refine kp 2 (.pointer (some ⟨w.heap.size,0,none⟩)) rfl kr (fun _=>kr) ?_;intro q8 q9;clear q8 q9;refine AnyK.loadP 3 [4,5,8,9] (v:=.string K) rfl kr kr (fun _ _ _ h=>h) kr (fun w' hw'=>zah (t:=9) (x:=.tmp 83) rr kr agStr (HLD.out w' hw').2.2) hT ?_;refine AnyK.pure 4 (v:=.bool false) rfl kr (fun _ _ _ h=>h) rfl (fun _=>zla (p:=K) (l:=[42]) rr kr kr hks) (fun _=>hT) ?_;refine AnyK.pure 5 (v:=.bool false) rfl kr (fun _ _ _ h=>h) rfl (fun _=>kr) (fun _=>hT) ?_;refine AnyK.skipW 6 rfl kr (fun _ _ _ h=>h) kr (fun _=>hT) ?_;refine AnyK.skip1 7 rfl kr kr (fun _=>hT) ?_;refine AnyK.pure 8 (v:=.bool false) rfl kr (fun _ _ _ h=>h) rfl (fun _=>kr) (fun _=>hT) ?_;obtain⟨wz,hwz⟩:=ex9 (w8.drew);have hT2:Below w8.heap.size w8 wz:=hwz ▸ hT;rw[show({ heap:=w8.heap,tape:=w8.tape,drawn:=w8.drawn+1,os:=w8.os,output:=w8.output } : World)=wz from hwz.symm];clear hwz;have HZ9:Hid (PrS B b w l wz∧Blk wz w.heap.size 39 [.string K,.int .i64 num,.string text,.int .i64 at_,.slice (some ⟨b0,off,none⟩) 2 ca]∧Blk wz g2 39 CY):=⟨H8.out.1.bo hT2 (Oth.of_below hT2),H8.out.2.1.below hT2 H8.out.2.1.lt,H8.out.2.2.2.1.below hT2 H8.out.2.2.2.1.lt⟩;refine AnyK.enter 9 (d:=some 90) (f:=95) (args:=#[.pointer (some ⟨b,0,none⟩),.agg CX.toArray,.bool false]) rr kr kr ?_;refine(HO1.out _ l _ HZ9.out.1.p (Nat.le_trans HZ9.out.1.hB HZ9.out.1.bl.size) (by have:=HL.out;omega) HZ9.out.1.bl).mono ?_;rintro r w9 h9;have H9:Hid (PrS B b w (l++par false px) w9∧Blk w9 w.heap.size 39 [.string K,.int .i64 num,.string text,.int .i64 at_,.slice (some ⟨b0,off,none⟩) 2 ca]∧Blk w9 g2 39 CY):=⟨HZ9.out.1.st h9,h9.2.2.2.blk HZ9.out.2.1 om (by decide),h9.2.2.2.blk HZ9.out.2.2 (by have:=H8.out.2.2.2.2.2.1;omega) (by decide)⟩;obtain⟨rfl,_⟩:=h9;refine⟨_,rfl,fun h=>(by cases h),?_⟩;refine AnyK.done ?_ ?_
   · kernel_rfl
   have k0:w9.cell? ⟨w.heap.size,0,none⟩=some (.string K):=H9.out.2.1.cell 0;have k1:=H9.out.2.1.lt;clear hT hT2 HLD HZ9
   go_upto_region 26 with fail
   go_upto_region 27 with (go_at_call 70;(refine(zad H9.out.1 _ sy [{ data:=#[32] },K,{ data:=#[32] }] 3 rfl (by decide) (by have:=HL.out;simp[flatS,tx]at this ⊢;omega)).mono ?_);rintro r wa ha;have HA:Hid (PrS B b w (l++par false px++flatS [{ data:=#[32] },K,{ data:=#[32] }]) wa∧Blk wa w.heap.size 39 [.string K,.int .i64 num,.string text,.int .i64 at_,.slice (some ⟨b0,off,none⟩) 2 ca]∧Blk wa g2 39 CY):=⟨(H9.out.1.al _).st ha,ha.2.2.2.blk (H9.out.2.1.alloc _) om (by decide),ha.2.2.2.blk (H9.out.2.2.alloc _) (by have:=H8.out.2.2.2.2.2.1;omega) (by decide)⟩;obtain⟨rfl,_⟩:=ha)
   clear k0 k1 H9;have hT:Below wa.heap.size wa wa.drew:=Below.drew (Below.refl _ _);have HLD:Hid (∀W,Below wa.heap.size wa W→W.rangeAt g2 0 CY∧W.cell? ⟨w.heap.size,0,none⟩=some (.string K)):=fun W hW=>⟨fun q v hv=>by rw[Nat.zero_add];exact((HA.out.2.2.below hW HA.out.2.2.lt).cell q).trans hv,(HA.out.2.1.below hW HA.out.2.1.lt).cell 0⟩
   refine kgo kr 13 (fun W=>Below wa.heap.size wa W) hT (fun _ _ _ _ _ h=>h) ?_;refine kp 0 (.pointer (some ⟨b,0,none⟩)) rfl kr (fun _=>kr) ?_;refine kl 1 (.agg CY.toArray) rfl kr (fun w' hw'=>zac rfl kr (run_loadAt_mid w' g2 0 39 CY _ (HLD.out w' hw').1 Tryz.underlying39 rfl (by rw[HCC.out.2.2.2];exact hdEx))) ?_;intro q8 q9;clear q8 q9;refine AnyK.loadP 2 [3,4,12,13] (v:=.agg CY.toArray) rfl kr kr (fun _ _ _ h=>h) kr (fun w' hw'=>zac rfl kr (run_loadAt_mid w' g2 0 39 CY _ (HLD.out w' hw').1 Tryz.underlying39 rfl (by rw[HCC.out.2.2.2];exact hdEx))) hT ?_;refine AnyK.enter 3 (d:=some 99) (f:=96) (args:=#[.agg CY.toArray]) rr kr kr ?_;refine(HS2.out _).mono ?_;rintro r ws ⟨rfl,rfl⟩;have hT2:Below wa.heap.size wa (wa.drew.alloc (.cells CY.toArray 39)):=hT.alloc lr _;refine⟨_,rfl,fun _=>hT2,?_⟩;refine AnyK.pure 4 (v:=.bool ys) rfl kr (fun _ _ _ h=>h) rfl (fun _=>kr) (fun _=>hT2) ?_
   cases ys
   · refine AnyK.pureW 5 (v:=.pointer (some ⟨w.heap.size,0,none⟩)) rfl kr (fun _ _ _ h=>h) kr (fun _=>kr) (fun _=>hT2) ?_
     refine AnyK.loadP 6 [7,8,11,12,13] (v:=.string K) rfl kr kr (fun _ _ _ h=>h) kr (fun w' hw'=>zah (t:=9) (x:=.tmp 101) rr kr agStr (HLD.out w' hw').2) hT2 ?_;refine AnyK.pureW 7 (v:=.bool false) rfl kr (fun _ _ _ h=>h) kr (fun _=>zla (p:=K) (l:=[42]) rr kr kr hks) (fun _=>hT2) ?_;refine AnyK.pureW 8 (v:=.bool false) rfl kr (fun _ _ _ h=>h) kr (fun _=>kr) (fun _=>hT2) ?_;refine AnyK.skipW 9 rfl kr (fun _ _ _ h=>h) kr (fun _=>hT2) ?_;refine AnyK.skip1 10 rfl kr kr (fun _=>hT2) ?_;refine AnyK.pureW 11 (v:=.bool false) rfl kr (fun _ _ _ h=>h) kr (fun _=>kr) (fun _=>hT2) ?_;refine AnyK.pure 12 (v:=.bool false) rfl kr (fun _ _ _ h=>h) rfl (fun _=>kr) (fun _=>hT2) ?_;have HB:=qh (HA.out.1.bo hT2 (Oth.of_below hT2));refine AnyK.enter 13 (d:=some 109) (f:=95) (args:=#[.pointer (some ⟨b,0,none⟩),.agg CY.toArray,.bool false]) rr kr kr ?_;refine(HO2.out _ _ _ HB.out.p (Nat.le_trans HB.out.hB HB.out.bl.size) (by have:=HL.out;simp[flatS,tx]at this ⊢;omega) HB.out.bl).mono ?_;rintro r wc hc;have HE:=qh (HB.out.st hc);obtain⟨rfl,_⟩:=hc;refine⟨_,rfl,fun h=>(by cases h),?_⟩;refine AnyK.done ?_ ?_
     · kernel_rfl
     clear hT hT2 HLD;go_wp2
     first|go_end0|refine bodyPost_ret (results_none rfl _ _ _) rfl ?_
     have h7:=HE.out.fin;rw[show l++par false px++flatS [{ data:=#[32] },K,{ data:=#[32] }]++par false py=l++(par false px++[32]++tx K++[32]++par false py) by simp[flatS,tx,List.append_assoc]]at h7;exact h7
   · refine AnyK.skipW 5 rfl kr (fun _ _ _ h=>h) kr (fun _=>hT2) ?_
     refine AnyK.skipW 6 rfl kr (fun _ _ _ h=>h) kr (fun _=>hT2) ?_;refine AnyK.skipW 7 rfl kr (fun _ _ _ h=>h) kr (fun _=>hT2) ?_;refine AnyK.skipW 8 rfl kr (fun _ _ _ h=>h) kr (fun _=>hT2) ?_;refine AnyK.skipW 9 rfl kr (fun _ _ _ h=>h) kr (fun _=>hT2) ?_;refine AnyK.skip1 10 rfl kr kr (fun _=>hT2) ?_;refine AnyK.skipW 11 rfl kr (fun _ _ _ h=>h) kr (fun _=>hT2) ?_;refine AnyK.pure 12 (v:=.bool true) rfl kr (fun _ _ _ h=>h) rfl (fun _=>kr) (fun _=>hT2) ?_;have HB:=qh (HA.out.1.bo hT2 (Oth.of_below hT2));refine AnyK.enter 13 (d:=some 109) (f:=95) (args:=#[.pointer (some ⟨b,0,none⟩),.agg CY.toArray,.bool true]) rr kr kr ?_;refine(HO2.out _ _ _ HB.out.p (Nat.le_trans HB.out.hB HB.out.bl.size) (by have:=HL.out;simp[flatS,tx]at this ⊢;omega) HB.out.bl).mono ?_;rintro r wc hc;have HE:=qh (HB.out.st hc);obtain⟨rfl,_⟩:=hc;refine⟨_,rfl,fun h=>(by cases h),?_⟩;refine AnyK.done ?_ ?_
     · kernel_rfl
     clear hT hT2 HLD;go_wp2
     first|go_end0|refine bodyPost_ret (results_none rfl _ _ _) rfl ?_
     have h7:=HE.out.fin;rw[show l++par false px++flatS [{ data:=#[32] },K,{ data:=#[32] }]++par true py=l++(par false px++[32]++tx K++[32]++par true py) by simp[flatS,tx,List.append_assoc]]at h7;exact h7
theorem zo1{F:Nat→Prop}(num:Int)(text:ByteArray)(at_:Int)(x y:Ex)(a:Option Addr × Nat)(hx:∀a,PxK x a F)(hy:∀a,PxK y a F)(h:IsP B b l w)(hB:B≤w.heap.size)(hl:l.length+(prE (.mk m_star num text at_ [x,y])).length≤1000000000)(hF:∀k,F k→k<B)(hA:ArgsIn F w a.1 [x,y])(hT:Tab B w):
 Calls Tryz.prog 71 #[.pointer (some ⟨b,0,none⟩),.agg (exC (.mk m_star num text at_ [x,y]) a).toArray] w fun r w'=>PrE B b w (l++prE (.mk m_star num text at_ [x,y])) r w':=by
 obtain⟨A,ca⟩:=a;obtain⟨b0,off,p1,rfl,hb0,hc1,hpa1⟩:=za4 hA 0 sy;obtain⟨b0',off',p2,e2,_,hc2,hpa2⟩:=za4 hA 1 sy;obtain⟨rfl,rfl⟩:b0=b0'∧off=off':=by simpa using e2
 have H0:=qh ((PrS.start h hB).al (.cells (exC (.mk m_star num text at_ [x,y]) (some ⟨b0,off,none⟩,ca)).toArray 39));have HP:Hid (prE (.mk m_star num text at_ [x,y])=par x.sum (prE x)++[32]++tx m_star++[32]++par (y.sum || y.prod) (prE y)):=(by show _=_;rw[zcr _ _ _ _ _ _ sy];simp);rw[HP.out]at hl ⊢;have HL:Hid (l.length+(par x.sum (prE x)).length+(tx m_star).length+2+(par (y.sum || y.prod) (prE y)).length≤1000000000):=(by show _≤_;simp only[List.length_append,List.length_cons,List.length_nil]at hl;omega);have hkl:(tx m_star).length=1:=rfl;have HA2:Hid (∀W,Below B w W→ArgsIn F W p1.1 x.args∧ArgsIn F W p2.1 y.args):=fun W hW=>⟨hpa1.keep ⟨hW.size,fun k hk _=>hW.block k (hF k hk),fun _ h _=>h⟩,hpa2.keep ⟨hW.size,fun k hk _=>hW.block k (hF k hk),fun _ h _=>h⟩⟩
 have HO1:Hid (∀(q:Bool) (l':List UInt8) W,IsP B b l' W→B≤W.heap.size→l'.length+(par q (prE x)).length≤1000000000→Below B w W→Calls Tryz.prog 95 #[.pointer (some ⟨b,0,none⟩),.agg (exC x p1).toArray,.bool q] W fun r w'=>PrE B b W (l'++par q (prE x)) r w'):=fun q l' W h1 h2 h3 hW=>zcv x p1 (hx p1) q h1 h2 h3 hF (HA2.out W hW).1 (hT.mv hW)
 have HO2:Hid (∀(q:Bool) (l':List UInt8) W,IsP B b l' W→B≤W.heap.size→l'.length+(par q (prE y)).length≤1000000000→Below B w W→Calls Tryz.prog 95 #[.pointer (some ⟨b,0,none⟩),.agg (exC y p2).toArray,.bool q] W fun r w'=>PrE B b W (l'++par q (prE y)) r w'):=fun q l' W h1 h2 h3 hW=>zcv y p2 (hy p2) q h1 h2 h3 hF (HA2.out W hW).2 (hT.mv hW)
 have HS1:=qh (sum_c x p1);have HS2:=qh (sum_c y p2);have HPR:=qh (zge y p2);have HC:Hid (∀W,Below w.heap.size w W→W.rangeAt b0 (off+0*5) (exC x p1)∧W.rangeAt b0 (off+1*5) (exC y p2)):=fun W hW=>⟨fun q v hv=>(World.cell?_of_block (a:=⟨b0,off+0*5+q,none⟩) (hW.block b0 hb0)).trans (by have:=hc1 q v hv;rw[←Nat.add_assoc]at this;exact this),fun q v hv=>(World.cell?_of_block (a:=⟨b0,off+1*5+q,none⟩) (hW.block b0 hb0)).trans (by have:=hc2 q v hv;rw[←Nat.add_assoc]at this;exact this)⟩
 have hbw:=h.lt;have HBW:=qh hB;clear h hA hx hy hl hT HP hc1 hc2 hpa1 hpa2 HA2 e2;generalize hpx:prE x=px at *;generalize hpy:prE y=py at *;generalize x.sum=sx at *;generalize y.prod=dy at *;generalize y.sum=ys at *;obtain⟨CX,hCX⟩:=ex9 (exC x p1);obtain⟨CY,hCY⟩:=ex9 (exC y p2);rw[←hCX]at HO1 HS1 HC;rw[←hCY]at HO2 HS2 HPR HC;have HCC:Hid ((∀v∈CX,v.oneCell'=true)∧(∀v∈CY,v.oneCell'=true)∧CX.length=5∧CY.length=5):=⟨hCX ▸ zau _ _,hCY ▸ zau _ _,hCX ▸ rfl,hCY ▸ rfl⟩;clear hCX hCY hpx hpy
 unfold exC at H0 ⊢
 dsimp only [Ex.op,Ex.num,Ex.text,Ex.at_,Ex.args,List.length]at H0 ⊢
 go_enter Tryz.func71, Tryz.ntmps71
 go_upto_region 24 with fail
 obtain⟨W0,hW0⟩:=ex9 (w.alloc (.cells #[.string m_star,.int .i64 num,.string text,.int .i64 at_,.slice (some ⟨b0,off,none⟩) 2 ca] 39))
 have HZ0:Hid (Below w.heap.size w W0∧Blk W0 w.heap.size 39 [.string m_star,.int .i64 num,.string text,.int .i64 at_,.slice (some ⟨b0,off,none⟩) 2 ca]∧W0.heap.size=w.heap.size+1):=by
  subst hW0;exact⟨(Below.refl _ _).alloc lr _,Blk.new _ _ _,by simp⟩
 rw[←hW0]at H0;rw[←hW0];clear hW0;have hT:Below W0.heap.size W0 W0.drew:=Below.drew (Below.refl _ _);have HSLC:Hid (∀W,Below W0.heap.size W0 W→W.cell? ⟨w.heap.size,4,none⟩=some (.slice (some ⟨b0,off,none⟩) 2 ca)∧W.rangeAt b0 (off+0*5) CX∧W.rangeAt b0 (off+1*5) CY):=fun W hW=>⟨(HZ0.out.2.1.below hW HZ0.out.2.1.lt).cell 4,HC.out W (HZ0.out.1.trans (hW.mono (by have:=HZ0.out.2.2;omega)))⟩
 refine kgo kr 11 (fun W=>Below W0.heap.size W0 W) hT (fun _ _ _ _ _ h=>h) ?_;refine kp 0 (.pointer (some ⟨w.heap.size,4,none⟩)) rfl kr (fun _=>kr) ?_;refine kl 1 (.slice (some ⟨b0,off,none⟩) 2 ca) rfl kr (fun w' hw'=>zah (t:=37) (x:=.tmp 73) rr kr agSlx (HSLC.out w' hw').1) ?_;refine kp 2 (.pointer (some ⟨b0,off+0*5,none⟩)) rfl kr (fun _=>zay (t:=37) (x:=.tmp 74) (y:=.const (.int .i64 0)) (g:=b0) (off:=off) (n:=2) (c:=ca) (p:=0) rr kr kr om Tryz.underlying37 szEx5) ?_;refine kl 3 (.agg CX.toArray) rfl kr (fun w' hw'=>zac rfl kr (run_loadAt_mid w' b0 (off+0*5) 39 CX _ (HSLC.out w' hw').2.1 Tryz.underlying39 rfl (by rw[HCC.out.2.2.1];exact hdEx))) ?_;refine kp 4 (.pointer (some ⟨w.heap.size,4,none⟩)) rfl kr (fun _=>kr) ?_;refine kl 5 (.slice (some ⟨b0,off,none⟩) 2 ca) rfl kr (fun w' hw'=>zah (t:=37) (x:=.tmp 77) rr kr agSlx (HSLC.out w' hw').1) ?_;refine kp 6 (.pointer (some ⟨b0,off+1*5,none⟩)) rfl kr (fun _=>zay (t:=37) (x:=.tmp 78) (y:=.const (.int .i64 1)) (g:=b0) (off:=off) (n:=2) (c:=ca) (p:=1) rr kr kr om Tryz.underlying37 szEx5) ?_;refine kl 7 (.agg CY.toArray) rfl kr (fun w' hw'=>zac rfl kr (run_loadAt_mid w' b0 (off+1*5) 39 CY _ (HSLC.out w' hw').2.2 Tryz.underlying39 rfl (by rw[HCC.out.2.2.2];exact hdEx))) ?_;intro q8 q9;clear q8 q9;refine AnyK.two_new 8 9 10 11 (d1:=6) (d2:=7) (e1:=76) (e2:=80) (by decide) 39 zEc CX CY rfl rfl rfl (fun _ _=>by kernel_rfl) rfl rfl rfl (fun _ _=>by kernel_rfl) rfl rfl rfl rfl rfl rfl rfl rfl (fun _ _=>by kernel_rfl) (fun _ _=>by kernel_rfl) (fun _ _=>by kernel_rfl) (fun _ _=>by kernel_rfl) kr kr kr kr kr kr hdEx HCC.out.1 HCC.out.2.2.1 HCC.out.2.1 HCC.out.2.2.2 (fun W hW=>hT.trans hW) ?_;intro g1 g2 w8 hg1 hg2 hk1 hk2 hB8;have hg1':W0.heap.size≤g1:=hg1;have hg2':W0.heap.size≤g2:=hg2;have H8:Hid (PrS B b w l w8∧Blk w8 w.heap.size 39 [.string m_star,.int .i64 num,.string text,.int .i64 at_,.slice (some ⟨b0,off,none⟩) 2 ca]∧Blk w8 g1 39 CX∧Blk w8 g2 39 CY∧b≠g1∧b≠g2∧Below W0.heap.size W0 w8):=⟨H0.out.bo (hT.trans hB8) (Oth.of_below (hT.trans hB8)),HZ0.out.2.1.below (hT.trans hB8) HZ0.out.2.1.lt,hk1,hk2,by have:=HZ0.out.2.2;omega,by have:=HZ0.out.2.2;omega,hT.trans hB8⟩;clear hk1 hk2 hB8 hT HSLC H0 HZ0 HC hg1 hg2 hg1' hg2';go_wp2;simp only[List.getElem_toArray,List.getElem_cons_zero,List.getElem_cons_succ,Act.put,List.setIfInBounds_toArray,List.set_cons_succ,List.set_cons_zero];have hT:Below w8.heap.size w8 w8.drew:=Below.drew (Below.refl _ _);have HLD:Hid (∀W,Below w8.heap.size w8 W→W.rangeAt g1 0 CX∧W.rangeAt g2 0 CY∧W.cell? ⟨w.heap.size,0,none⟩=some (.string m_star)):=fun W hW=>⟨fun q v hv=>by rw[Nat.zero_add];exact((H8.out.2.2.1.below hW H8.out.2.2.1.lt).cell q).trans hv,fun q v hv=>by rw[Nat.zero_add];exact((H8.out.2.2.2.1.below hW H8.out.2.2.2.1.lt).cell q).trans hv,(H8.out.2.1.below hW H8.out.2.1.lt).cell 0⟩
 refine kgo kr 9 (fun W=>Below w8.heap.size w8 W) hT (fun _ _ _ _ _ h=>h) ?_;refine kp 0 (.pointer (some ⟨b,0,none⟩)) rfl kr (fun _=>kr) ?_;refine kl 1 (.agg CX.toArray) rfl kr (fun w' hw'=>zac rfl kr (run_loadAt_mid w' g1 0 39 CX _ (HLD.out w' hw').1 Tryz.underlying39 rfl (by rw[HCC.out.2.2.1];exact hdEx))) ?_;refine kp 2 (.pointer (some ⟨w.heap.size,0,none⟩)) rfl kr (fun _=>kr) ?_;intro q8 q9;clear q8 q9;refine AnyK.loadP 3 [4,5,8,9] (v:=.string m_star) rfl kr kr (fun _ _ _ h=>h) kr (fun w' hw'=>zah (t:=9) (x:=.tmp 83) rr kr agStr (HLD.out w' hw').2.2) hT ?_;refine AnyK.pure 4 (v:=.bool true) rfl kr (fun _ _ _ h=>h) rfl (fun _=>kr) (fun _=>hT) ?_;refine AnyK.pure 5 (v:=.bool true) rfl kr (fun _ _ _ h=>h) rfl (fun _=>kr) (fun _=>hT) ?_;refine AnyK.loadP 6 [7,9] (v:=.agg CX.toArray) rfl kr kr (fun _ _ _ h=>h) kr (fun w' hw'=>zac rfl kr (run_loadAt_mid w' g1 0 39 CX _ (HLD.out w' hw').1 Tryz.underlying39 rfl (by rw[HCC.out.2.2.1];exact hdEx))) hT ?_;refine AnyK.enterW 7 (d:=some 88) (f:=96) (args:=#[.agg CX.toArray]) rfl rfl kr kr kr ?_;refine(HS1.out _).mono ?_;rintro r ws ⟨rfl,rfl⟩;have hT2:Below w8.heap.size w8 (w8.drew.alloc (.cells CX.toArray 39)):=hT.alloc lr _;refine⟨_,rfl,fun _=>hT2,?_⟩;refine AnyK.pure 8 (v:=.bool sx) rfl kr (fun _ _ _ h=>h) rfl (fun _=>kr) (fun _=>hT2) ?_;obtain⟨wz,hwz⟩:=ex9 (w8.drew.alloc (.cells CX.toArray 39));rw[←hwz]at hT2;rw[show(({ heap:=w8.heap,tape:=w8.tape,drawn:=w8.drawn+1,os:=w8.os,output:=w8.output } : World).alloc (.cells CX.toArray 39))=wz from hwz.symm];clear hwz;have HZ9:Hid (PrS B b w l wz∧Blk wz w.heap.size 39 [.string m_star,.int .i64 num,.string text,.int .i64 at_,.slice (some ⟨b0,off,none⟩) 2 ca]∧Blk wz g2 39 CY):=⟨H8.out.1.bo hT2 (Oth.of_below hT2),H8.out.2.1.below hT2 H8.out.2.1.lt,H8.out.2.2.2.1.below hT2 H8.out.2.2.2.1.lt⟩;refine AnyK.enter 9 (d:=some 90) (f:=95) (args:=#[.pointer (some ⟨b,0,none⟩),.agg CX.toArray,.bool sx]) rr kr kr ?_;refine(HO1.out _ l _ HZ9.out.1.p (Nat.le_trans HZ9.out.1.hB HZ9.out.1.bl.size) (by have:=HL.out;omega) HZ9.out.1.bl).mono ?_;rintro r w9 h9;have H9:Hid (PrS B b w (l++par sx px) w9∧Blk w9 w.heap.size 39 [.string m_star,.int .i64 num,.string text,.int .i64 at_,.slice (some ⟨b0,off,none⟩) 2 ca]∧Blk w9 g2 39 CY):=⟨HZ9.out.1.st h9,h9.2.2.2.blk HZ9.out.2.1 om (by decide),h9.2.2.2.blk HZ9.out.2.2 (by have:=H8.out.2.2.2.2.2.1;omega) (by decide)⟩;obtain⟨rfl,_⟩:=h9;refine⟨_,rfl,fun h=>(by cases h),?_⟩;refine AnyK.done ?_ ?_
 · kernel_rfl
 have k0:w9.cell? ⟨w.heap.size,0,none⟩=some (.string m_star):=H9.out.2.1.cell 0;have k1:=H9.out.2.1.lt;clear hT hT2 HLD HZ9
 go_upto_region 26 with fail
 go_upto_region 27 with (go_at_call 70;(refine(zad H9.out.1 _ sy [{ data:=#[32] },m_star,{ data:=#[32] }] 3 rfl (by decide) (by have:=HL.out;simp[flatS,tx]at this ⊢;omega)).mono ?_);rintro r wa ha;have HA:Hid (PrS B b w (l++par sx px++flatS [{ data:=#[32] },m_star,{ data:=#[32] }]) wa∧Blk wa w.heap.size 39 [.string m_star,.int .i64 num,.string text,.int .i64 at_,.slice (some ⟨b0,off,none⟩) 2 ca]∧Blk wa g2 39 CY):=⟨(H9.out.1.al _).st ha,ha.2.2.2.blk (H9.out.2.1.alloc _) om (by decide),ha.2.2.2.blk (H9.out.2.2.alloc _) (by have:=H8.out.2.2.2.2.2.1;omega) (by decide)⟩;obtain⟨rfl,_⟩:=ha)
 clear k0 k1 H9;have hT:Below wa.heap.size wa wa.drew:=Below.drew (Below.refl _ _);have HLD:Hid (∀W,Below wa.heap.size wa W→W.rangeAt g2 0 CY∧W.cell? ⟨w.heap.size,0,none⟩=some (.string m_star)):=fun W hW=>⟨fun q v hv=>by rw[Nat.zero_add];exact((HA.out.2.2.below hW HA.out.2.2.lt).cell q).trans hv,(HA.out.2.1.below hW HA.out.2.1.lt).cell 0⟩
 refine kgo kr 13 (fun W=>Below wa.heap.size wa W) hT (fun _ _ _ _ _ h=>h) ?_;refine kp 0 (.pointer (some ⟨b,0,none⟩)) rfl kr (fun _=>kr) ?_;refine kl 1 (.agg CY.toArray) rfl kr (fun w' hw'=>zac rfl kr (run_loadAt_mid w' g2 0 39 CY _ (HLD.out w' hw').1 Tryz.underlying39 rfl (by rw[HCC.out.2.2.2];exact hdEx))) ?_;intro q8 q9;clear q8 q9;refine AnyK.loadP 2 [3,4,12,13] (v:=.agg CY.toArray) rfl kr kr (fun _ _ _ h=>h) kr (fun w' hw'=>zac rfl kr (run_loadAt_mid w' g2 0 39 CY _ (HLD.out w' hw').1 Tryz.underlying39 rfl (by rw[HCC.out.2.2.2];exact hdEx))) hT ?_;refine AnyK.enter 3 (d:=some 99) (f:=96) (args:=#[.agg CY.toArray]) rr kr kr ?_;refine(HS2.out _).mono ?_;rintro r ws ⟨rfl,rfl⟩;have hT2:Below wa.heap.size wa (wa.drew.alloc (.cells CY.toArray 39)):=hT.alloc lr _;refine⟨_,rfl,fun _=>hT2,?_⟩;refine AnyK.pure 4 (v:=.bool ys) rfl kr (fun _ _ _ h=>h) rfl (fun _=>kr) (fun _=>hT2) ?_
 cases ys
 · simp only[Bool.true_or,Bool.false_or]at HL
   refine AnyK.pureW 5 (v:=.pointer (some ⟨w.heap.size,0,none⟩)) rfl kr (fun _ _ _ h=>h) kr (fun _=>kr) (fun _=>hT2) ?_;refine AnyK.loadP 6 [7,8,11,12,13] (v:=.string m_star) rfl kr kr (fun _ _ _ h=>h) kr (fun w' hw'=>zah (t:=9) (x:=.tmp 101) rr kr agStr (HLD.out w' hw').2) hT2 ?_;refine AnyK.pureW 7 (v:=.bool true) rfl kr (fun _ _ _ h=>h) kr (fun _=>kr) (fun _=>hT2) ?_;refine AnyK.pureW 8 (v:=.bool true) rfl kr (fun _ _ _ h=>h) kr (fun _=>kr) (fun _=>hT2) ?_;refine AnyK.loadP 9 [10,13] (v:=.agg CY.toArray) rfl kr kr (fun _ _ _ h=>h) kr (fun w' hw'=>zac rfl kr (run_loadAt_mid w' g2 0 39 CY _ (HLD.out w' hw').1 Tryz.underlying39 rfl (by rw[HCC.out.2.2.2];exact hdEx))) hT2 ?_;refine AnyK.enterW 10 (d:=some 106) (f:=97) (args:=#[.agg CY.toArray]) rfl rfl kr kr kr ?_;refine(HPR.out _).mono ?_;rintro r wt ⟨rfl,rfl⟩;have hT3:Below wa.heap.size wa ((wa.drew.alloc (.cells CY.toArray 39)).alloc (.cells CY.toArray 39)):=hT2.alloc hT2.size _;refine⟨_,rfl,fun _=>hT3,?_⟩;refine AnyK.pureW 11 (v:=.bool dy) rfl kr (fun _ _ _ h=>h) kr (fun _=>kr) (fun _=>hT3) ?_;refine AnyK.pure 12 (v:=.bool dy) rfl kr (fun _ _ _ h=>h) rfl (fun _=>kr) (fun _=>hT3) ?_;have HB:=qh (HA.out.1.bo hT3 (Oth.of_below hT3));refine AnyK.enter 13 (d:=some 109) (f:=95) (args:=#[.pointer (some ⟨b,0,none⟩),.agg CY.toArray,.bool dy]) rr kr kr ?_;refine(HO2.out _ _ _ HB.out.p (Nat.le_trans HB.out.hB HB.out.bl.size) (by have:=HL.out;simp[flatS,tx]at this ⊢;omega) HB.out.bl).mono ?_;rintro r wc hc;have HE:=qh (HB.out.st hc);obtain⟨rfl,_⟩:=hc;refine⟨_,rfl,fun h=>(by cases h),?_⟩;refine AnyK.done ?_ ?_
   · kernel_rfl
   clear hT hT2 HLD;go_wp2
   first|go_end0|refine bodyPost_ret (results_none rfl _ _ _) rfl ?_
   have h7:=HE.out.fin;rw[show l++par sx px++flatS [{ data:=#[32] },m_star,{ data:=#[32] }]++par dy py=l++(par sx px++[32]++tx m_star++[32]++par dy py) by simp[flatS,tx,List.append_assoc]]at h7;exact h7
 · simp only[Bool.true_or,Bool.false_or]at HL
   refine AnyK.skipW 5 rfl kr (fun _ _ _ h=>h) kr (fun _=>hT2) ?_;refine AnyK.skipW 6 rfl kr (fun _ _ _ h=>h) kr (fun _=>hT2) ?_;refine AnyK.skipW 7 rfl kr (fun _ _ _ h=>h) kr (fun _=>hT2) ?_;refine AnyK.skipW 8 rfl kr (fun _ _ _ h=>h) kr (fun _=>hT2) ?_;refine AnyK.skipW 9 rfl kr (fun _ _ _ h=>h) kr (fun _=>hT2) ?_;refine AnyK.skip1 10 rfl kr kr (fun _=>hT2) ?_;refine AnyK.skipW 11 rfl kr (fun _ _ _ h=>h) kr (fun _=>hT2) ?_;refine AnyK.pure 12 (v:=.bool true) rfl kr (fun _ _ _ h=>h) rfl (fun _=>kr) (fun _=>hT2) ?_;have HB:=qh (HA.out.1.bo hT2 (Oth.of_below hT2));refine AnyK.enter 13 (d:=some 109) (f:=95) (args:=#[.pointer (some ⟨b,0,none⟩),.agg CY.toArray,.bool true]) rr kr kr ?_;refine(HO2.out _ _ _ HB.out.p (Nat.le_trans HB.out.hB HB.out.bl.size) (by have:=HL.out;simp[flatS,tx]at this ⊢;omega) HB.out.bl).mono ?_;rintro r wc hc;have HE:=qh (HB.out.st hc);obtain⟨rfl,_⟩:=hc;refine⟨_,rfl,fun h=>(by cases h),?_⟩;refine AnyK.done ?_ ?_
   · kernel_rfl
   clear hT hT2 HLD;go_wp2
   first|go_end0|refine bodyPost_ret (results_none rfl _ _ _) rfl ?_
   have h7:=HE.out.fin;rw[show l++par sx px++flatS [{ data:=#[32] },m_star,{ data:=#[32] }]++par true py=l++(par sx px++[32]++tx m_star++[32]++par true py) by simp[flatS,tx,List.append_assoc]]at h7;exact h7
end
end
section
def TkOk(ts:List Lx.Tok):Prop:=∀i,(tokAt ts i).text.length≤8000∧(tokAt ts i).num≤1000000000
inductive WfE (ts:List Lx.Tok):Ex→Prop
 | number (i:Nat) (a:Int) (h:(tokAt ts i).kind=3):WfE ts (.mk k_number ((tokAt ts i).num:Int) zs a [])
 | name (i:Nat) (a:Int) (h:(tokAt ts i).kind=1):WfE ts (.mk k_name 0 (bytesOf (tokAt ts i).text) a [])
 | text (i:Nat) (a:Int) (h:(tokAt ts i).kind=4):WfE ts (.mk k_text 0 (bytesOf (tokAt ts i).text) a [])
 | join (a:Int) (args:List Ex) (h0:args≠[]) (hl:args.length≤10000) (hi:∀e∈args,WfE ts e):WfE ts (.mk k_join 0 zs a args)
 | two (o:ByteArray) (a:Int) (x y:Ex) (ho:o=m_plus∨o=m_minus∨o=m_star) (hx:WfE ts x) (hy:WfE ts y):WfE ts (.mk o 0 zs a [x,y])
def ndB(op:ByteArray)(args:List Ex)(ns:List Nat):Nat :=
 if op=k_join then 1+ns.foldr max 0
 else match args,ns with
  | [x,y],[a,b]=>max (a+(if decide (op=m_star) && x.sum then 1 else 0)) (b+(if y.sum || (decide (op=m_star) && y.prod) then 1 else 0))
  | _,_=>0
mutual
def nd:Ex→Nat
 | .mk op _ _ _ args=>ndB op args (ndL args)
def ndL:List Ex→List Nat
 | []=>[]
 | e :: es=>nd e :: ndL es
end
theorem zku:∀l:List Ex,ndL l=l.map nd
 | []=>rfl
 | e :: es=>by rw[ndL,zku es];rfl
theorem max_le{l:List Nat}{n:Nat}(h:∀x∈l,x≤n):l.foldr max 0≤n:=by
 induction l with
 | nil=>simp
 | cons a l ih =>
  rw[List.foldr_cons];exact Nat.max_le.2 ⟨h a sy,ih fun x hx=>h x (by simp[hx])⟩
theorem zph{a n:Int}{t:ByteArray}{args:List Ex}{k:Nat}(h:∀e∈args,nd e≤k):nd (.mk k_join n t a args)≤1+k:=by
 rw[nd]
 unfold ndB
 rw[if_pos rfl,zku];exact Nat.add_le_add_left (max_le fun x hx=>by obtain⟨e,he,rfl⟩:=List.mem_map.1 hx;exact h e he) 1
theorem zn7{a n:Int}{o t:ByteArray}{x y:Ex}(ho:o≠k_join):nd (.mk o n t a [x,y])=max (nd x+(if decide (o=m_star) && x.sum then 1 else 0)) (nd y+(if y.sum || (decide (o=m_star) && y.prod) then 1 else 0)):=by
 rw[nd]
 unfold ndB
 rw[if_neg ho]
 rfl
theorem zhc{a n:Int}{o t:ByteArray}(ho:o≠k_join):nd (.mk o n t a [])=0:=by
 rw[nd]
 unfold ndB
 rw[if_neg ho]
theorem WfE.ok{ts:List Lx.Tok}(hT:TkOk ts){e:Ex}(h:WfE ts e):ExOk e:=by
 induction h with
 | number i a h=>exact .mk _ _ _ _ _ om (by have:=(hT i).2;omega) (by decide) sy sy
 | name i a h=>exact .mk _ _ _ _ _ om om (by have:=(hT i).1;simp[bytesOf,ByteArray.size];omega) sy sy
 | text i a h=>exact .mk _ _ _ _ _ om om (by have:=(hT i).1;simp[bytesOf,ByteArray.size];omega) sy sy
 | join a args h0 hl hi ih=>exact .mk _ _ _ _ _ om om (by decide) om ih
 | two o a x y ho hx hy ihx ihy =>
  refine .mk _ _ _ _ _ om om (by decide) sy (fun e he=>?_);simp only[List.mem_cons,List.not_mem_nil,or_false]at he
  rcases he with rfl|rfl
  · exact ihx
  · exact ihy
theorem ExOk.zE:ExOk zE:=.mk _ _ _ _ _ om om (by decide) sy sy
section
variable{ts:List Lx.Tok}
theorem zex{e:Int}{s:PS}(he:e≠0):(failP ts e s).ok=false:=by
 unfold failP
 cases h:s.ok with
 | true=>simp[PS.ok,he]
 | false=>simp[h]
theorem zef{T:ByteArray}{s:PS}(h:(takeP ts T s).ok=true):s.ok=true∧isOf (pk ts s) [T]=true∧takeP ts T s=nxt s:=by
 unfold takeP at h ⊢
 cases hs:s.ok with
 | false=>simp[hs]at h
 | true =>
  cases hi:isOf (pk ts s) [T]with
  | false=>rw[if_pos hs,hi,if_neg (by decide)]at h;cases h
  | true=>simp
theorem ref_ok{s:PS}(h:(refP ts s).2.ok=true):s.ok=true∧(pk ts s).kind=1∧refP ts s=(⟨bytesOf (pk ts s).text,((pk ts s).at_:Int)⟩,nxt s):=by
 unfold refP at h ⊢
 cases hk:kindIs ts 1 s with
 | false=>rw[hk]at h;simp[zex (ts:=ts) (s:=s) (e:=9) (by decide)]at h
 | true=>have:=hk;unfold kindIs at this;simp at this;exact⟨this.1,this.2,by simp⟩
theorem zkq{s:PS}(h:(openP ts s).ok=true):s.ok=true∧s.pa≠12∧isOf (pk ts s) [m_lpar]=true∧openP ts s = { nxt s with pa:=s.pa+1 }:=by
 unfold openP at h ⊢
 dsimp only at h ⊢
 by_cases h1:(sees ts [m_lpar] s && s.pa == 12)=true
 · rw[if_pos h1]at h
   have h2:=(zef (ts:=ts) (s:=failP ts 11 s) (T:=m_lpar) h).1;rw[zex (by decide)]at h2
   cases h2
 · rw[if_neg h1]at h ⊢
   obtain⟨h2,h3,h4⟩:=zef (ts:=ts) (s:=s) (T:=m_lpar) h;refine⟨h2,fun h5=>h1 ?_,h3,by rw[h4];rfl⟩
   unfold sees
   rw[h2,h3,h5];rfl
theorem zju{s:PS}(h:(shutP ts s).ok=true):s.ok=true∧isOf (pk ts s) [m_rpar]=true∧shutP ts s = { nxt s with pa:=s.pa-1 }:=by
 unfold shutP at h ⊢
 dsimp only at h ⊢;obtain⟨h2,h3,h4⟩:=zef (ts:=ts) (s:=s) (T:=m_rpar) h;exact⟨h2,h3,by rw[h4];rfl⟩
def Ec(ts:List Lx.Tok)(c:Ex→Nat)(s:PS)(e:Ex)(s':PS):Prop:=s'.ok=true→WfE ts e∧(nd e:Int)+(c e:Int)+s.pa≤12∧(prE e).length+60000*s.i≤60000*s'.i
def c0(_:Ex):Nat:=0
def c2(e:Ex):Nat:=if e.sum then 1 else 0
def c3(e:Ex):Nat:=if e.sum || e.prod then 1 else 0
def c4(e:Ex):Nat:=if e.op=k_number∨e.op=k_name then 0 else 1
theorem c4_le(e:Ex):c4 e≤1:=by unfold c4;split <;> omega
theorem c3_le(e:Ex):c3 e≤c4 e:=by
 unfold c3 c4
 split
 · rename_i h
   rw[if_neg]
   · exact Nat.le_refl 1
   · unfold Ex.sum Ex.prod at h
     rintro (h1|h1) <;> rw[h1]at h <;> simp at h
 · exact Nat.zero_le _
theorem c2_le(e:Ex):c2 e≤c3 e:=by unfold c2 c3;cases e.sum <;> cases e.prod <;> simp
variable(HT:Ends ts)(hT:TkOk ts)
section
variable{ex:PS→Ex × PS}(HX:∀s,Pg ts s (ex s).2){q:Int}(hx:∀s,s.pa=q+1→s.pa≤12→Ec ts c0 s (ex s).1 (ex s).2)
theorem zcu(b:Bool)(l:List UInt8):(par b l).length≤l.length+2:=by unfold par;split <;> simp
include HT hT HX hx
omit HT in
theorem zlk(s:PS)(hq:s.pa=q)(hp:s.pa≤12):Ec ts c4 s (atomP ts ex s).1 (atomP ts ex s).2:=by
 unfold atomP
 split
 · rename_i hk
   intro _;have hk':=hk
   unfold kindIs at hk'
   simp at hk'
   refine⟨WfE.number s.i _ hk'.2,?_,?_⟩
   · rw[zhc (by decide)]
     simp[c4,Ex.op]
     omega
   · have h1:(prE (.mk k_number ((pk ts s).num:Int) zs ((pk ts s).at_:Int) [])).length≤21:=by
      rw[prE]
      unfold prB
      rw[if_pos rfl];exact Lib.itoa_length_le _ om (by have:=(hT s.i).2;unfold pk;omega)
     have hi:(nxt s).i=s.i+1:=rfl;dsimp only;omega
 · split
   · rename_i hk
     intro _;have hk':=hk
     unfold kindIs at hk'
     simp at hk'
     refine⟨WfE.name s.i _ hk'.2,?_,?_⟩
     · rw[zhc (by decide)]
       simp[c4,Ex.op]
       omega
     · have h1:(prE (.mk k_name 0 (bytesOf (pk ts s).text) ((pk ts s).at_:Int) [])).length≤8000:=by
        rw[prE]
        unfold prB
        rw[if_neg (by decide),if_pos rfl];have:=(hT s.i).1
        simpa[tx,bytesOf,pk] using this
       have hi:(nxt s).i=s.i+1:=rfl;dsimp only;omega
   · split
     · intro h
       obtain⟨h1,_,h3⟩:=zju h;have hg:=HX (openP ts s);obtain⟨_,h5,_,h6⟩:=zkq (hg.okof h1);have hpa:(openP ts s).pa=s.pa+1:=by rw[h6]
       have hi:(openP ts s).i=s.i+1:=by rw[h6];rfl
       obtain⟨w1,w2,w3⟩:=hx (openP ts s) om om h1;dsimp only at w1 w2 w3 ⊢;refine⟨w1,?_,?_⟩
       · have:=c4_le (ex (openP ts s)).1
         simp only[c0]at w2;omega
       · rw[h3]
         show _≤60000*((ex (openP ts s)).2.i+1)
         omega
     · intro h
       rw[zex (by decide)]at h
       cases h
omit hT in
theorem zk0:∀(k:Nat) (l:List Ex) (s:PS),l≠[]→s.pa=q+1→s.pa≤12→(∀e∈l,WfE ts e∧(nd e:Int)+s.pa≤12)→(joinLoop ts ex k l s).2.ok=true →
 (joinLoop ts ex k l s).1≠[]∧(joinLoop ts ex k l s).1.length≤l.length+k∧(∀e∈(joinLoop ts ex k l s).1,WfE ts e∧(nd e:Int)+s.pa≤12)∧(sepB [44,32] (prL (joinLoop ts ex k l s).1)).length+60000*s.i≤(sepB [44,32] (prL l)).length+60000*(joinLoop ts ex k l s).2.i
 | 0,l,s,h0,_,_,hl,_=>⟨h0,by simp[joinLoop],hl,by simp[joinLoop]⟩
 | k+1,l,s,h0,hq,hp,hl,h=>by
  rw[joinLoop]at h ⊢
  split at h
  · rename_i hs
    rw[if_pos hs];have hg:=zc6 HT HX k (l++[(ex (nxt s)).1]) (ex (nxt s)).2;have hk1:=hg.okof h;obtain⟨w1,w2,w3⟩:=hx (nxt s) hq hp hk1;have hpa:(ex (nxt s)).2.pa=s.pa:=(HX (nxt s)).pa;have hi:(nxt s).i=s.i+1:=rfl;have hpn:(nxt s).pa=s.pa:=rfl
    obtain⟨r1,r2,r3,r4⟩:=zk0 k (l++[(ex (nxt s)).1]) (ex (nxt s)).2 sy om om (fun e he=>by
     rcases List.mem_append.1 he with he|he
     · have:=hl e he
       exact⟨this.1,by omega⟩
     · rw[List.mem_singleton.1 he]
       simp only[c0]at w2
       exact⟨w1,by omega⟩) h
    refine⟨r1,by rw[la9,List.length_singleton]at r2;omega,fun e he=>?_,?_⟩
    · have:=r3 e he
      exact⟨this.1,by omega⟩
    · have e1:prL (l++[(ex (nxt s)).1])=prL l++[prE (ex (nxt s)).1]:=by simp[zcq]
      rw[e1,zcm _ _ _ (by rw[zcq];simpa using h0)]at r4;simp only[List.length_append,List.length_cons,List.length_nil]at r4;omega
  · rename_i hs
    rw[if_neg hs];exact⟨h0,by dsimp only;omega,hl,by dsimp only;omega⟩
theorem zgu(hn:ts.length≤9000)(s:PS)(hq:s.pa=q)(hp:s.pa≤12):Ec ts c3 s (factorP ts ex s).1 (factorP ts ex s).2:=by
 unfold factorP
 split
 · rename_i hk
   intro _;have hk':=hk
   unfold kindIs at hk'
   simp at hk'
   refine⟨WfE.text s.i _ hk'.2,?_,?_⟩
   · rw[zhc (by decide)]
     simp[c3,Ex.sum,Ex.prod,Ex.op]
     omega
   · have h1:(prE (.mk k_text 0 (bytesOf (pk ts s).text) ((pk ts s).at_:Int) [])).length≤32002:=by
      rw[prE]
      unfold prB
      rw[if_neg (by decide),if_neg (by decide),if_pos rfl];have h2:=(hT s.i).1;have h3:=(Lx.quote_len (tx (bytesOf (pk ts s).text))).2;have h4:(tx (bytesOf (pk ts s).text)).length=(tokAt ts s.i).text.length:=by simp[tx,bytesOf,pk]
      omega
     have hi:(nxt s).i=s.i+1:=rfl;dsimp only;omega
 · split
   · rename_i hj
     dsimp only;intro h;obtain⟨h1,_,h3⟩:=zju h;have hg:=zc6 HT HX (ts.length+1) [(ex (openP ts (nxt s))).1] (ex (openP ts (nxt s))).2;have hk1:=hg.okof h1;have hg2:=HX (openP ts (nxt s));obtain⟨_,h5,_,h6⟩:=zkq (hg2.okof hk1);have hpn:(nxt s).pa=s.pa:=rfl;have hpa:(openP ts (nxt s)).pa=s.pa+1:=by rw[h6];rfl
     have hi:(openP ts (nxt s)).i=s.i+2:=by rw[h6];rfl
     obtain⟨w1,w2,w3⟩:=hx (openP ts (nxt s)) om om hk1;have hpb:(ex (openP ts (nxt s))).2.pa=s.pa+1:=by rw[hg2.pa,hpa]
     simp only[c0]at w2
     obtain⟨r1,r2,r3,r4⟩:=zk0 HT HX hx (ts.length+1) [(ex (openP ts (nxt s))).1] (ex (openP ts (nxt s))).2 sy om om (fun e he=>by
      rw[List.mem_singleton.1 he]
      exact⟨w1,by omega⟩) h1
     refine⟨WfE.join _ _ r1 (Nat.le_trans r2 (by simp;omega)) (fun e he=>(r3 e he).1),?_,?_⟩
     · obtain⟨k,hk⟩:∃k:Nat,(k:Int)=12-(s.pa+1):=⟨(12-(s.pa+1)).toNat,by omega⟩
       have h8:=zph (n:=0) (t:=zs) (a:=((pk ts s).at_:Int)) (k:=k) (fun e he=>by have:=(r3 e he).2;omega:∀e∈(joinLoop ts ex (ts.length+1) [(ex (openP ts (nxt s))).1] (ex (openP ts (nxt s))).2).1,nd e≤k);have h9:c3 (Ex.mk k_join 0 zs ((pk ts s).at_:Int) (joinLoop ts ex (ts.length+1) [(ex (openP ts (nxt s))).1] (ex (openP ts (nxt s))).2).1)=0:=by simp[c3,Ex.sum,Ex.prod,Ex.op]
       rw[h9];omega
     · rw[h3]
       rw[prE]
       unfold prB
       rw[if_neg (by decide),if_neg (by decide),if_neg (by decide),if_pos rfl];have h10:(sepB [44,32] (prL [(ex (openP ts (nxt s))).1])).length=(prE (ex (openP ts (nxt s))).1).length:=by simp[prL,sepB]
       simp only[List.length_append,List.length_cons,List.length_nil]
       show _≤60000*((joinLoop ts ex (ts.length+1) [(ex (openP ts (nxt s))).1] (ex (openP ts (nxt s))).2).2.i+1)
       omega
   · intro h
     obtain⟨w1,w2,w3⟩:=zlk hT HX hx s hq hp h;have:=c3_le (atomP ts ex s).1;exact⟨w1,by omega,w3⟩
theorem zhr(hn:ts.length≤9000):∀(k:Nat) (e:Ex) (s s0:PS),s.pa=q→s.pa≤12→s0.pa=s.pa→Ec ts c2 s0 e s→Ec ts c2 s0 (termLoop ts ex k e s).1 (termLoop ts ex k e s).2
 | 0,_,_,_,_,_,_,h=>h
 | k+1,e,s,s0,hq,hp,h0,h=>by
  rw[termLoop]
  split
  · rename_i hs
    have hpn:(nxt s).pa=s.pa:=rfl;have hpa:(factorP ts ex (nxt s)).2.pa=s.pa:=(zdr HT HX (nxt s)).pa;refine zhr hn k _ _ s0 om om om (fun hk=>?_);obtain⟨w1,w2,w3⟩:=zgu HT hT HX hx hn (nxt s) om om hk;obtain⟨v1,v2,v3⟩:=h (zag hs);refine⟨WfE.two _ _ _ _ (.inr (.inr rfl)) v1 w1,?_,?_⟩
    · rw[zn7 (by decide)]
      have h9:c2 (Ex.mk m_star 0 zs e.at_ [e,(factorP ts ex (nxt s)).1])=0:=by simp[c2,Ex.sum,Ex.op]
      have h10:(if (decide (m_star=m_star) && e.sum)=true then 1 else 0)=c2 e:=by simp[c2]
      have h11:(if ((factorP ts ex (nxt s)).1.sum || (decide (m_star=m_star) && (factorP ts ex (nxt s)).1.prod))=true then 1 else 0)=c3 (factorP ts ex (nxt s)).1:=by simp[c3]
      rw[h9,h10,h11];omega
    · rw[zcr _ _ _ _ _ _ (.inr (.inr rfl))]
      have hi:(nxt s).i=s.i+1:=rfl;have p1:=zcu (decide (m_star=m_star) && e.sum) (prE e);have p2:=zcu ((factorP ts ex (nxt s)).1.sum || (decide (m_star=m_star) && (factorP ts ex (nxt s)).1.prod)) (prE (factorP ts ex (nxt s)).1);have p3:(tx m_star).length=1:=rfl;generalize par (decide (m_star=m_star) && e.sum) (prE e)=PA at p1 ⊢;generalize par ((factorP ts ex (nxt s)).1.sum || (decide (m_star=m_star) && (factorP ts ex (nxt s)).1.prod)) (prE (factorP ts ex (nxt s)).1)=PB at p2 ⊢;simp only[List.length_append,List.length_cons,List.length_nil];omega
  · exact h
theorem zjo(hn:ts.length≤9000)(s:PS)(hq:s.pa=q)(hp:s.pa≤12):Ec ts c2 s (termP ts ex s).1 (termP ts ex s).2:=by
 have hpa:(factorP ts ex s).2.pa=s.pa:=(zdr HT HX s).pa;refine zhr HT hT HX hx hn _ _ _ s om om om (fun hk=>?_);obtain⟨w1,w2,w3⟩:=zgu HT hT HX hx hn s hq hp hk;have:=c2_le (factorP ts ex s).1;exact⟨w1,by omega,w3⟩
theorem zia(hn:ts.length≤9000):∀(k:Nat) (e:Ex) (s s0:PS),s.pa=q→s.pa≤12→s0.pa=s.pa→Ec ts c0 s0 e s→Ec ts c0 s0 (exprLoop ts ex k e s).1 (exprLoop ts ex k e s).2
 | 0,_,_,_,_,_,_,h=>h
 | k+1,e,s,s0,hq,hp,h0,h=>by
  rw[exprLoop]
  split
  · rename_i hs
    have hpn:(nxt s).pa=s.pa:=rfl;have hpa:(termP ts ex (nxt s)).2.pa=s.pa:=(zf7 HT HX (nxt s)).pa;refine zia hn k _ _ s0 om om om (fun hk=>?_);obtain⟨w1,w2,w3⟩:=zjo HT hT HX hx hn (nxt s) om om hk;obtain⟨v1,v2,v3⟩:=h (zag hs)
    have ho:bytesOf (pk ts s).text=m_plus∨bytesOf (pk ts s).text=m_minus:=by
     unfold sees isOf at hs
     simp only[Bool.and_eq_true,zcf]at hs
     simpa using hs.2.2
    have hs0:bytesOf (pk ts s).text≠m_star:=by rcases ho with h|h <;> rw[h] <;> decide
    refine⟨WfE.two _ _ _ _ (by rcases ho with h|h;exact .inl h;exact .inr (.inl h)) v1 w1,?_,?_⟩
    · rw[zn7 (by rcases ho with h|h <;> rw[h] <;> decide)]
      have h10:(if (decide (bytesOf (pk ts s).text=m_star) && e.sum)=true then 1 else 0)=0:=by simp[hs0]
      have h11:(if ((termP ts ex (nxt s)).1.sum || (decide (bytesOf (pk ts s).text=m_star) && (termP ts ex (nxt s)).1.prod))=true then 1 else 0)=c2 (termP ts ex (nxt s)).1:=by simp[c2,hs0]
      rw[h10,h11];simp only[c0]at v2 ⊢;omega
    · rw[zcr _ _ _ _ _ _ (by rcases ho with h|h;exact .inl h;exact .inr (.inl h))]
      have hi:(nxt s).i=s.i+1:=rfl;have p1:=zcu (decide (bytesOf (pk ts s).text=m_star) && e.sum) (prE e);have p2:=zcu ((termP ts ex (nxt s)).1.sum || (decide (bytesOf (pk ts s).text=m_star) && (termP ts ex (nxt s)).1.prod)) (prE (termP ts ex (nxt s)).1);have p3:(tx (bytesOf (pk ts s).text)).length=1:=by rcases ho with h|h <;> rw[h] <;> rfl
      simp only[List.length_append,List.length_cons,List.length_nil];omega
  · exact h
theorem zno(hn:ts.length≤9000)(s:PS)(hq:s.pa=q)(hp:s.pa≤12):Ec ts c0 s (exprG ts ex s).1 (exprG ts ex s).2:=by
 have hpa:(termP ts ex s).2.pa=s.pa:=(zf7 HT HX s).pa;refine zia HT hT HX hx hn _ _ _ s om om om (fun hk=>?_);obtain⟨w1,w2,w3⟩:=zjo HT hT HX hx hn s hq hp hk;exact⟨w1,by simp only[c0];omega,w3⟩
end
include HT hT in
theorem zhi(hn:ts.length≤9000):∀(d:Nat) (s:PS),14≤s.pa+d→s.pa≤12→Ec ts c0 s (exprP ts d s).1 (exprP ts d s).2
 | 0,s,h,h2=>by omega
 | d+1,s,h,h2=>zno (q:=s.pa) HT hT (zaw HT d) (fun s' h3 h4=>zhi hn d s' om h4) hn s rfl h2
end
end
end Go.Proofs.YtafjkbbiaopemaaGreatDoor.Tr
