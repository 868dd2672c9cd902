/- Part of the proof. -/
import Derived.Lib.AtoiErrMem
import Derived.Test.YtafjkbbiaopemaaGreatDoorBax12
import Derived.Test.YtafjkbbiaopemaaGreatDoorBax22
import Derived.Test.YtafjkbbiaopemaaGreatDoorBax30
set_option linter.all false
set_option maxRecDepth 100000
set_option maxHeartbeats 0
namespace Go.Proofs.YtafjkbbiaopemaaGreatDoor.Tr
open Go.RowKit
section
def Tab(B:Nat)(w:World):Prop:=∀(n:Int) (W:World),0≤n→n≤9223372036854775807→Below B w W→Calls Tryz.prog 93 #[.int .i64 n] W fun e w'=>e=.returned (.string ⟨(Lib.itoa n).toArray⟩)∧Below W.heap.size W w'∧∀(b:Nat),Oth b W w'
section
variable{w w' w0:World}{b B g:Nat}{l l':List UInt8}
theorem sum_c(e:Ex)(a:Option Addr × Nat)(w:World):Calls Tryz.prog 96 #[.agg (exC e a).toArray] w fun r w'=>r=.returned (.bool e.sum)∧w'=w.alloc (.cells (exC e a).toArray 39):=by
 obtain⟨op,num,text,at_,args⟩:=e
 by_cases h1:op=m_plus
 · subst h1
   by_cases h3:args.length=2
   · have HR:Hid ((Ex.mk m_plus num text at_ args).sum=true):=(by show _=_;simp[Ex.sum,Ex.prod,Ex.op,Ex.args,h3])
     rw[HR.out]
     unfold exC
     dsimp only [Ex.op,Ex.num,Ex.text,Ex.at_,Ex.args];generalize args.length=m at *;subst h3
     go_enter Tryz.func96, Tryz.ntmps96
     go_wp2;go_ret;exact⟨rfl,rfl⟩
   · have HR:Hid ((Ex.mk m_plus num text at_ args).sum=false):=(by show _=_;simp[Ex.sum,Ex.prod,Ex.op,Ex.args,h3])
     rw[HR.out]
     unfold exC
     dsimp only [Ex.op,Ex.num,Ex.text,Ex.at_,Ex.args];generalize args.length=m at *;have x4:((m:Int) == 2)=false:=by rw[beq_eq_false_iff_ne];omega
     clear h3
     go_enter Tryz.func96, Tryz.ntmps96
     go_wp2;go_ret;exact⟨rfl,rfl⟩
 · have x1:(op.toList == [43])=false:=strl h1
   by_cases h2:op=m_minus
   · subst h2
     by_cases h3:args.length=2
     · have HR:Hid ((Ex.mk m_minus num text at_ args).sum=true):=(by show _=_;simp[Ex.sum,Ex.prod,Ex.op,Ex.args,h3])
       rw[HR.out]
       unfold exC
       dsimp only [Ex.op,Ex.num,Ex.text,Ex.at_,Ex.args];generalize args.length=m at *;subst h3
       go_enter Tryz.func96, Tryz.ntmps96
       go_wp2;go_ret;exact⟨rfl,rfl⟩
     · have HR:Hid ((Ex.mk m_minus num text at_ args).sum=false):=(by show _=_;simp[Ex.sum,Ex.prod,Ex.op,Ex.args,h3])
       rw[HR.out]
       unfold exC
       dsimp only [Ex.op,Ex.num,Ex.text,Ex.at_,Ex.args];generalize args.length=m at *;have x4:((m:Int) == 2)=false:=by rw[beq_eq_false_iff_ne];omega
       clear h3
       go_enter Tryz.func96, Tryz.ntmps96
       go_wp2;go_ret;exact⟨rfl,rfl⟩
   · have x2:(op.toList == [45])=false:=strl h2
     have HR:Hid ((Ex.mk op num text at_ args).sum=false):=(by show _=_;simp[Ex.sum,Ex.prod,Ex.op,h1,h2]);rw[HR.out]
     unfold exC
     dsimp only [Ex.op,Ex.num,Ex.text,Ex.at_,Ex.args];generalize args.length=m at *
     go_enter Tryz.func96, Tryz.ntmps96
     go_wp2;go_ret;exact⟨rfl,rfl⟩
theorem zge(e:Ex)(a:Option Addr × Nat)(w:World):Calls Tryz.prog 97 #[.agg (exC e a).toArray] w fun r w'=>r=.returned (.bool e.prod)∧w'=w.alloc (.cells (exC e a).toArray 39):=by
 obtain⟨op,num,text,at_,args⟩:=e
 by_cases h1:op=m_star
 · subst h1
   by_cases h3:args.length=2
   · have HR:Hid ((Ex.mk m_star num text at_ args).prod=true):=(by show _=_;simp[Ex.sum,Ex.prod,Ex.op,Ex.args,h3])
     rw[HR.out]
     unfold exC
     dsimp only [Ex.op,Ex.num,Ex.text,Ex.at_,Ex.args];generalize args.length=m at *;subst h3
     go_enter Tryz.func97, Tryz.ntmps97
     go_wp2;go_ret;exact⟨rfl,rfl⟩
   · have HR:Hid ((Ex.mk m_star num text at_ args).prod=false):=(by show _=_;simp[Ex.sum,Ex.prod,Ex.op,Ex.args,h3])
     rw[HR.out]
     unfold exC
     dsimp only [Ex.op,Ex.num,Ex.text,Ex.at_,Ex.args];generalize args.length=m at *;have x4:((m:Int) == 2)=false:=by rw[beq_eq_false_iff_ne];omega
     clear h3
     go_enter Tryz.func97, Tryz.ntmps97
     go_wp2;go_ret;exact⟨rfl,rfl⟩
 · have x1:(op.toList == [42])=false:=strl h1
   have HR:Hid ((Ex.mk op num text at_ args).prod=false):=(by show _=_;simp[Ex.sum,Ex.prod,Ex.op,h1]);rw[HR.out]
   unfold exC
   dsimp only [Ex.op,Ex.num,Ex.text,Ex.at_,Ex.args];generalize args.length=m at *
   go_enter Tryz.func97, Tryz.ntmps97
   go_wp2;go_ret;exact⟨rfl,rfl⟩
theorem Tab.mv(h:Tab B w)(hW:Below B w w'):Tab B w':=fun n W h0 h1 hB=>h n W h0 h1 (hW.trans hB)
def PxK(e:Ex)(a:Option Addr × Nat)(F:Nat→Prop):Prop :=
 ∀(B b:Nat) (l:List UInt8) (w:World),IsP B b l w→B≤w.heap.size→l.length+(prE e).length≤1000000000→(∀k,F k→k<B)→ArgsIn F w a.1 e.args→Tab B w→Calls Tryz.prog 71 #[.pointer (some ⟨b,0,none⟩),.agg (exC e a).toArray] w fun r w'=>PrE B b w (l++prE e) r w'
theorem par_t(l:List UInt8):par true l=40 :: (l++[41]):=rfl
theorem par_f(l:List UInt8):par false l=l:=rfl
theorem zcv{F:Nat→Prop}(e:Ex)(a:Option Addr × Nat)(hx:PxK e a F)(q:Bool)(h:IsP B b l w)(hB:B≤w.heap.size)(hl:l.length+(par q (prE e)).length≤1000000000)(hF:∀k,F k→k<B)(hA:ArgsIn F w a.1 e.args)(hT:Tab B w):
 Calls Tryz.prog 95 #[.pointer (some ⟨b,0,none⟩),.agg (exC e a).toArray,.bool q] w fun r w'=>PrE B b w (l++par q (prE e)) r w':=by
 have H0:=qh ((PrS.start h hB).al (.cells (exC e a).toArray 39))
 have HX:Hid (∀(l:List UInt8) W,IsP B b l W→B≤W.heap.size→l.length+(prE e).length≤1000000000→Below B w W→Calls Tryz.prog 71 #[.pointer (some ⟨b,0,none⟩),.agg (exC e a).toArray] W fun r w'=>PrE B b W (l++prE e) r w'):=fun l W h1 h2 h3 hW =>
  hx B b l W h1 h2 h3 hF (hA.keep ⟨hW.size,fun k hk _=>hW.block k (hF k hk),fun _ h _=>h⟩) (hT.mv hW)
 have HZ:Hid (Blk (w.alloc (.cells (exC e a).toArray 39)) w.heap.size 39 (exC e a)∧b<w.heap.size):=⟨Blk.new _ _ _,h.lt⟩;have HL:=qh hl;clear h hA hx hl hT;generalize prE e=p at *
 unfold exC at *
 cases q
 · rw[par_f]at HL ⊢
   go_enter Tryz.func95, Tryz.ntmps95
   go_wp2_with (go_at_call 71;(refine(HX.out l _ (by exact H0.out.p) (by exact Nat.le_trans H0.out.hB H0.out.bl.size) HL.out (by exact H0.out.bl)).mono ?_);rintro r w3 h3;have H3:=qh (H0.out.st h3);obtain⟨rfl,_⟩:=h3)
   first|go_end0|refine bodyPost_ret (results_none rfl _ _ _) rfl ?_
   exact H3.out.fin
 · rw[par_t]at HL ⊢
   have hl2:l.length+p.length+2≤1000000000:=by have:=HL.out;simp at this;omega
   go_enter Tryz.func95, Tryz.ntmps95
   go_wp2_with (first
    | (go_at_call 70;(refine(zad H4.out _ sy [{ data:=#[41] }] 1 rfl (by decide) (by simp[flatS];omega)).mono ?_);rintro r w5 h5;have H5:=qh ((H4.out.al _).st h5);obtain⟨rfl,_⟩:=h5)
    | (go_at_call 71;(refine(HX.out _ _ (by exact H3.out.p) (by exact Nat.le_trans H3.out.hB H3.out.bl.size) (by simp[flatS];omega) (by exact H3.out.bl)).mono ?_);rintro r w4 h4;have H4:=qh (H3.out.st h4);obtain⟨rfl,_⟩:=h4)
    | (go_at_call 70;(refine(zad H0.out _ sy [{ data:=#[40] }] 1 rfl (by decide) (by simp[flatS];omega)).mono ?_);rintro r w3 h3;have H3:=qh ((H0.out.al _).st h3);have HZ3:=qh (h3.2.2.2.blk (HZ.out.1.alloc _) (by have:=HZ.out.2;omega) (by decide));obtain⟨n0,n1,n2,n3,n4⟩:=Blk.five HZ3.out;have n5:=HZ3.out.lt;obtain⟨rfl,_⟩:=h3))
   first|go_end0|refine bodyPost_ret (results_none rfl _ _ _) rfl ?_
   have h6:=H5.out.fin;rw[show l++flatS [{ data:=#[40] }]++p++flatS [{ data:=#[41] }]=l++(40 :: (p++[41])) by simp[flatS]]at h6;exact h6
end
end
section
inductive ExOk:Ex→Prop
 | mk (op:ByteArray) (num:Int) (text:ByteArray) (at_:Int) (args:List Ex) (h0:0≤num) (h1:num≤9223372036854775807) (h2:text.size≤100000) (h3:args.length≤1000000) (hi:∀e∈args,ExOk e):ExOk (.mk op num text at_ args)
section
variable{w w' w0:World}{b B g:Nat}{l l':List UInt8}
theorem IsP.bo(h:IsP B b l w)(hW:Below w.heap.size w w'):IsP B b l w':=by
 obtain⟨h1,p,v,h2,h3,h4,h5⟩:=h;refine⟨h1,p,v,h2,h3.below hW h3.lt,?_,h5⟩;exact zav h4 (fun k _ hk _=>hW.block k hk)
theorem PrS.bo(h:PrS B b w0 l w)(hW:Below w.heap.size w w')(ho:Oth b w w'):PrS B b w0 l w':=⟨h.p.bo hW,h.bl.trans (hW.mono (Nat.le_trans h.hB h.bl.size)),h.ot.trans ho,h.hB⟩
theorem Oth.of_below(h:Below w.heap.size w w'):Oth b w w':=⟨h.size,fun k o h1 _ _=>(h.block k (Array.getElem?_eq_some_iff.1 h1).1).trans h1⟩
theorem zkf(num:Int)(text:ByteArray)(at_:Int)(args:List Ex)(a:Option Addr × Nat)(h0:0≤num)(h1:num≤9223372036854775807)(h:IsP B b l w)(hB:B≤w.heap.size)(hl:l.length+(prE (.mk k_number num text at_ args)).length≤1000000000)(hT:Tab B w):
 Calls Tryz.prog 71 #[.pointer (some ⟨b,0,none⟩),.agg (exC (.mk k_number num text at_ args) a).toArray] w fun r w'=>PrE B b w (l++prE (.mk k_number num text at_ args)) r w':=by
 have H0:=qh ((PrS.start h hB).al (.cells (exC (.mk k_number num text at_ args) a).toArray 39));have HP:Hid (prE (.mk k_number num text at_ args)=Lib.itoa num):=(by show _=_;rw[prE];unfold prB;rw[if_pos rfl]);rw[HP.out]at hl ⊢;have HI:=qh (fun W hW=>hT num W h0 h1 hW);have hlen:(⟨(Lib.itoa num).toArray⟩:ByteArray).data.toList=Lib.itoa num:=by simp
 have HL:=qh (And.intro hlen hl);clear h hT hl hlen h0 h1 HP;generalize Lib.itoa num=p at *
 unfold exC at *
 dsimp only [Ex.op,Ex.num,Ex.text,Ex.at_,Ex.args]at *;generalize args.length=m at *
 go_enter Tryz.func71, Tryz.ntmps71
 go_wp2_with (first
  | (go_at_call 93;(refine(HI.out _ (by exact H0.out.bl)).mono ?_);rintro r w2 ⟨rfl,hB2,hO2⟩;have H2:=qh (H0.out.bo hB2 (hO2 b));clear hB2 hO2)
  | (go_at_call 70;(refine(zad H2.out _ sy [⟨p.toArray⟩] 1 rfl (by decide) (by simp[flatS];have:=HL.out.2;omega)).mono ?_);rintro r w3 h3;have H3:=qh ((H2.out.al _).st h3);obtain⟨rfl,_⟩:=h3))
 first|go_end0|refine bodyPost_ret (results_none rfl _ _ _) rfl ?_
 have h6:=H3.out.fin;rw[show l++flatS [⟨p.toArray⟩]=l++p by simp[flatS]]at h6;exact h6
theorem zo3(num:Int)(text:ByteArray)(at_:Int)(args:List Ex)(a:Option Addr × Nat)(h:IsP B b l w)(hB:B≤w.heap.size)(hl:l.length+(prE (.mk k_name num text at_ args)).length≤1000000000):
 Calls Tryz.prog 71 #[.pointer (some ⟨b,0,none⟩),.agg (exC (.mk k_name num text at_ args) a).toArray] w fun r w'=>PrE B b w (l++prE (.mk k_name num text at_ args)) r w':=by
 have H0:=qh ((PrS.start h hB).al (.cells (exC (.mk k_name num text at_ args) a).toArray 39));have HP:Hid (prE (.mk k_name num text at_ args)=tx text):=(by show _=_;rw[prE];unfold prB;rw[if_neg (by decide),if_pos rfl]);rw[HP.out]at hl ⊢;have HL:=qh hl;clear h hl HP
 unfold exC at *
 dsimp only [Ex.op,Ex.num,Ex.text,Ex.at_,Ex.args]at *;generalize args.length=m at *
 go_enter Tryz.func71, Tryz.ntmps71
 go_wp2_with (go_at_call 70;(refine(zad H0.out _ sy [text] 1 rfl (by decide) (by have:=HL.out;simp[flatS];unfold tx at this;simp at this;omega)).mono ?_);rintro r w3 h3;have H3:=qh ((H0.out.al _).st h3);obtain⟨rfl,_⟩:=h3)
 first|go_end0|refine bodyPost_ret (results_none rfl _ _ _) rfl ?_
 have h6:=H3.out.fin;rw[show l++flatS [text]=l++tx text by simp[flatS,tx]]at h6;exact h6
end
end
section
section
variable{w w' w0:World}{b B g:Nat}{l l':List UInt8}
theorem zof(w:World)(T:ByteArray):∃(c:Nat) (w':World),(convert 9 83 (.string T)).run Tryz.prog w=.ok (.slice (some ⟨w.heap.size,0,none⟩) T.size c) w'∧Hid (Rd w' (some ⟨w.heap.size,0,none⟩) T.size (u8s T.data.toList))∧Hid (Below w.heap.size w w'):=by
 refine⟨_,_,Lib.run_convert_string_bytes w _ _ _ T Tryz.underlying9 Tryz.underlying83 Tryz.underlying5,?_,Lib.bytesWorld_below _ _ _⟩;refine⟨by simp[u8s],fun h=>⟨w.heap.size,0,rfl,by rw[Lib.bytesWorld_size];omega,fun j u hu=>?_⟩⟩;rw[u8s_getElem?]at hu;rw[Option.map_eq_some_iff]at hu;obtain⟨x,hx,rfl⟩:=hu;have hj:j<T.size:=by have:=(gi9.1 hx).1;simpa using this
 rw[Nat.zero_add,Lib.bytesWorld_cell w _ T j hj];rw[gd9,hx]
 rfl
theorem zo0(num:Int)(text:ByteArray)(at_:Int)(args:List Ex)(a:Option Addr × Nat)(h2:text.size≤100000)(h:IsP B b l w)(hB:B≤w.heap.size)(hl:l.length+(prE (.mk k_text num text at_ args)).length≤1000000000):
 Calls Tryz.prog 71 #[.pointer (some ⟨b,0,none⟩),.agg (exC (.mk k_text num text at_ args) a).toArray] w fun r w'=>PrE B b w (l++prE (.mk k_text num text at_ args)) r w':=by
 have H0:=qh ((PrS.start h hB).al (.cells (exC (.mk k_text num text at_ args) a).toArray 39));have HP:Hid (prE (.mk k_text num text at_ args)=Lx.quote (tx text)):=(by show _=_;rw[prE];unfold prB;rw[if_neg (by decide),if_neg (by decide),if_pos rfl]);rw[HP.out]at hl ⊢;have HL:=qh hl;clear h hl HP
 unfold exC at *
 dsimp only [Ex.op,Ex.num,Ex.text,Ex.at_,Ex.args]at *;generalize args.length=m at *;obtain⟨cc,wc,hconv,hrd,hbc⟩:=zof (w.alloc (.cells #[.string k_text,.int .i64 num,.string text,.int .i64 at_,.slice a.1 m a.2] 39)) text;have e7:(w.alloc (.cells #[.string k_text,.int .i64 num,.string text,.int .i64 at_,.slice a.1 m a.2] 39)).heap.size=w.heap.size+1:=by simp
 have H1:=qh (H0.out.bo hbc.out (Oth.of_below hbc.out));rw[e7]at hrd;clear e7;have H2T:=qh h2;clear h2
 go_enter Tryz.func71, Tryz.ntmps71
 go_wp2_with (first
  | (go_at_call 94;(refine(zkd _ _ _ (tx text) _ (by exact hrd.out) (by have:=H2T.out;omega)).mono ?_);rintro r w2 ⟨rfl,hB2⟩;have H2:=qh (H1.out.bo hB2 (Oth.of_below hB2));clear hB2)
  | (go_at_call 70;(refine(zad H2.out _ sy [bytesOf (Lx.quote (tx text))] 1 rfl (by decide) (by have:=HL.out;simp[flatS,bytesOf];omega)).mono ?_);rintro r w3 h3;have H3:=qh ((H2.out.al _).st h3);obtain⟨rfl,_⟩:=h3))
 first|go_end0|refine bodyPost_ret (results_none rfl _ _ _) rfl ?_
 have h6:=H3.out.fin;rw[show l++flatS [bytesOf (Lx.quote (tx text))]=l++Lx.quote (tx text) by simp[flatS,bytesOf]]at h6;exact h6
end
end
end Go.Proofs.YtafjkbbiaopemaaGreatDoor.Tr
