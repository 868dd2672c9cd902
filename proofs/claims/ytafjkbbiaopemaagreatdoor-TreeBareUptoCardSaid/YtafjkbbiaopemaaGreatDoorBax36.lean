/- Part of the proof. -/
import Derived.Test.YtafjkbbiaopemaaGreatDoorBax14
import Derived.Test.YtafjkbbiaopemaaGreatDoorBax34
set_option linter.all false
set_option maxRecDepth 100000
set_option maxHeartbeats 0
namespace Go.Proofs.YtafjkbbiaopemaaGreatDoor.Tr
open Go.RowKit
section
def rxR(e:Ex)(i:Nat):ByteArray:=bytesOf (par ((decide (2≤i) && e.sum)|| (decide (3≤i) && e.prod)) (prE e))
theorem zaz(T:ByteArray):bytesOf (tx T)=T:=by unfold bytesOf tx;rfl
theorem zab(a b:List UInt8):bytesOf a++bytesOf b=bytesOf (a++b):=by
 apply ByteArray.ext
 simp[bytesOf]
theorem conv_c(w:World)(T:ByteArray):∃(c:Nat) (w':World),(convert 9 83 (.string T)).run Tryz.prog w=.ok (.slice (some ⟨w.heap.size,0,none⟩) T.size c) w'∧T.size≤c∧Hid (Rd w' (some ⟨w.heap.size,0,none⟩) T.size (u8s T.data.toList))∧Hid (Below w.heap.size w w'):=by
 obtain⟨c,w',h1,h2,h3⟩:=zof w T;have h4:=Lib.run_convert_string_bytes w _ _ _ T Tryz.underlying9 Tryz.underlying83 Tryz.underlying5;rw[h1]at h4
 injection h4 with h4 _
 injection h4 with _ _ h4
 exact⟨c,w',h1,h4 ▸ grownCap_ge _ _ _ _,h2,h3⟩
theorem sz_b(l:List UInt8):(bytesOf l).size=l.length:=by simp[bytesOf,ByteArray.size]
theorem zan{P:Program}{w:World}{a:Act}{o:Oper}{t t':TypeId}{x y:Operand}{p q:ByteArray}(ho:o.op=.binOp .add t x y t')(hx:a.eval x=.string p)(hy:a.eval y=.string q)(hs:p.size+q.size≤9223372036854775807):(execOp a.eval o).run P w=.ok (.value (.string (p++q))) w:=by
 unfold execOp
 simp[ho,hx,hy,binOp,eqGuard,run_string_add_sum _ _ _ hs]
theorem szz1:({ data:=#[32] } : ByteArray).size=1:=rfl
theorem szz3:({ data:=#[32,42,32] } : ByteArray).size=3:=rfl
theorem zfg(b:Bool)(l:List UInt8):l.length≤(par b l).length:=by unfold par;split <;> simp <;> omega
section
variable{w w':World}
end
end
section
theorem zfh(v:Value):Instr.loadAt 39 v=ldAt 39 v:=rfl
def RW(w:World)(f:FuncId)(vs:List Value)(X:ByteArray):Prop:=∀W,Below w.heap.size w W→Calls Tryz.prog f vs.toArray W fun r w'=>r=.returned (.string X)∧Below W.heap.size W w'
def rHd(s:St):List UInt8 :=
 if s.kind=k_after then [97,102,116,101,114,32]++prE s.ea
 else if s.kind=k_repeat then [114,101,112,101,97,116,32]++tx s.name.name++[32]++prE s.ea
 else if s.kind=k_if then [105,102,32,97,99,107,101,100,32]++tx s.tag.name
 else prLine s.kind s.name s.ea s.eb s.ec s.routes s.block s.tag
def isB(s:St):Bool:=decide (s.kind=k_after)|| decide (s.kind=k_repeat)|| decide (s.kind=k_if)
structure LIn(F:Nat→Prop)(w:World)(s:St)(p:StA):Prop where
 a:ArgsIn F w p.a.1 s.ea.args
 b:ArgsIn F w p.b.1 s.eb.args
 c:ArgsIn F w p.c.1 s.ec.args
 r:RfsIn F w p.r.1 s.routes
 oa:ExOk s.ea
 ob:ExOk s.eb
 oc:ExOk s.ec
 hr:s.routes.length≤1000000
section
variable(s:St)(p:StA)
theorem stC_a(j:Nat)(v:Value)(h:(exC s.ea p.a)[j]? = some v):(stC s p)[4+j]? = some v:=by
 have hj:=(gi9.1 h).1;rw[show(exC s.ea p.a).length=5 from rfl]at hj
 match j,hj with
 | 0,_=>exact h
 | 1,_=>exact h
 | 2,_=>exact h
 | 3,_=>exact h
 | 4,_=>exact h
theorem stC_b(j:Nat)(v:Value)(h:(exC s.eb p.b)[j]? = some v):(stC s p)[9+j]? = some v:=by
 have hj:=(gi9.1 h).1;rw[show(exC s.eb p.b).length=5 from rfl]at hj
 match j,hj with
 | 0,_=>exact h
 | 1,_=>exact h
 | 2,_=>exact h
 | 3,_=>exact h
 | 4,_=>exact h
theorem stC_c(j:Nat)(v:Value)(h:(exC s.ec p.c)[j]? = some v):(stC s p)[14+j]? = some v:=by
 have hj:=(gi9.1 h).1;rw[show(exC s.ec p.c).length=5 from rfl]at hj
 match j,hj with
 | 0,_=>exact h
 | 1,_=>exact h
 | 2,_=>exact h
 | 3,_=>exact h
 | 4,_=>exact h
theorem stC_w(j:Nat)(v:Value)(h:(rfC s.block)[j]? = some v):(stC s p)[20+j]? = some v:=by
 have hj:=(gi9.1 h).1;rw[show(rfC s.block).length=2 from rfl]at hj
 match j,hj with
 | 0,_=>exact h
 | 1,_=>exact h
theorem stC_t(j:Nat)(v:Value)(h:(rfC s.tag)[j]? = some v):(stC s p)[22+j]? = some v:=by
 have hj:=(gi9.1 h).1;rw[show(rfC s.tag).length=2 from rfl]at hj
 match j,hj with
 | 0,_=>exact h
 | 1,_=>exact h
end
theorem zgd(kind:ByteArray)(at_:Int)(name:Rf)(a b c:Ex)(routes:List Rf)(block tag:Rf)(body els:List St):rHd (.mk kind at_ name a b c routes block tag body els)=if kind=k_after then [97,102,116,101,114,32]++prE a else if kind=k_repeat then [114,101,112,101,97,116,32]++tx name.name++[32]++prE a else if kind=k_if then [105,102,32,97,99,107,101,100,32]++tx tag.name else prLine kind name a b c routes block tag:=rfl
theorem zgp(kind:ByteArray)(at_:Int)(name:Rf)(a b c:Ex)(routes:List Rf)(block tag:Rf)(body els:List St):isB (.mk kind at_ name a b c routes block tag body els)=(decide (kind=k_after)|| decide (kind=k_repeat)|| decide (kind=k_if)):=rfl
theorem isB_k{K:ByteArray}{at_:Int}{name:Rf}{a b c:Ex}{routes:List Rf}{block tag:Rf}{body els:List St}(h:(decide (K=k_after)|| decide (K=k_repeat)|| decide (K=k_if))=false):isB (.mk K at_ name a b c routes block tag body els)=false:=h
theorem isB_f{s:St}(h1:s.kind≠k_after)(h2:s.kind≠k_repeat)(h3:s.kind≠k_if):isB s=false:=by unfold isB;rw[decide_eq_false h1,decide_eq_false h2,decide_eq_false h3];rfl
theorem isB_t{s:St}(h:s.kind=k_after∨s.kind=k_repeat∨s.kind=k_if):isB s=true:=by
 unfold isB
 rcases h with h|h|h
 · rw[decide_eq_true h];rfl
 · rw[decide_eq_true h,Bool.or_true];rfl
 · rw[decide_eq_true h,Bool.or_true]
theorem zgf{s:St}(d:Nat)(h:isB s=false):prSt s d=rHd s++[59,10]:=by
 obtain⟨kind,at_,name,a,b,c,routes,block,tag,body,els⟩:=s;rw[zgp,Bool.or_eq_false_iff,Bool.or_eq_false_iff]at h;have h1:¬kind=k_after:=of_decide_eq_false h.1.1;have h2:¬kind=k_repeat:=of_decide_eq_false h.1.2;have h3:¬kind=k_if:=of_decide_eq_false h.2;rw[prSt,if_neg h1,if_neg h2,if_neg h3,zgd,if_neg h1,if_neg h2,if_neg h3,as9]
 rfl
theorem zcp{s:St}(d:Nat)(h:isB s=true)(he:s.kind=k_if→s.els=[]):prSt s d=rHd s++prBody d (prSs s.body (d+1))++[10]:=by
 obtain⟨kind,at_,name,a,b,c,routes,block,tag,body,els⟩:=s;rw[zgp,Bool.or_eq_true,Bool.or_eq_true]at h;dsimp only [St.kind,St.els]at he
 by_cases h1:kind=k_after
 · rw[prSt,if_pos h1,zgd,if_pos h1]
   rfl
 · by_cases h2:kind=k_repeat
   · rw[prSt,if_neg h1,if_pos h2,zgd,if_neg h1,if_pos h2]
     rfl
   · have h3:kind=k_if:=by rcases h with (h|h)| h;exact absurd (of_decide_eq_true h) h1;exact absurd (of_decide_eq_true h) h2;exact of_decide_eq_true h
     have h4:=he h3;subst h4;rw[prSt,if_neg h1,if_neg h2,if_pos h3,zgd,if_neg h1,if_neg h2,if_pos h3]
     simp[St.body]
theorem zgg{s:St}(d:Nat)(h3:s.kind=k_if)(he:s.els≠[]):prSt s d=rHd s++prBody d (prSs s.body (d+1))++([32,101,108,115,101]++prBody d (prSs s.els (d+1)))++[10]:=by
 obtain⟨kind,at_,name,a,b,c,routes,block,tag,body,els⟩:=s;dsimp only [St.kind,St.els]at h3 he;have h1:¬kind=k_after:=by rw[h3];decide
 have h2:¬kind=k_repeat:=by rw[h3];decide
 rw[prSt,if_neg h1,if_neg h2,if_pos h3,zgd,if_neg h1,if_neg h2,if_pos h3]
 cases els with
 | nil=>exact absurd rfl he
 | cons x l=>simp only[List.isEmpty_cons,Bool.false_eq_true,if_false,St.body,St.els,List.append_assoc]
theorem zek(d:Nat)(ss:List St)(i:Nat)(hi:i<ss.length):prSs (ss.take (i+1)) d=prSs (ss.take i) d++(ind d++prSt ss[i] d):=by
 rw[List.take_add_one,ge9 hi]
 show prSs (ss.take i++[ss[i]]) d=_
 rw[zea,zfu]
theorem zha(d:Nat)(ss:List St)(i:Nat):(prSs (ss.take i) d).length≤(prSs ss d).length:=by
 have h:=zea d (ss.take i) (ss.drop i);rw[List.take_append_drop]at h;rw[h,la9];omega
theorem LIn.keep{F G:Nat→Prop}{w w':World}(hk:Keep F G w w'){s:St}{p:StA}(h:LIn F w s p):LIn G w' s p:=⟨h.a.keep hk,h.b.keep hk,h.c.keep hk,h.r.keep hk,h.oa,h.ob,h.oc,h.hr⟩
theorem LIn.of{F:Nat→Prop}{w:World}{ts:List Lx.Tok}(hT:TkOk ts){s:St}(h:WfS ts s){p:StA}(hin:StIn F w s p):LIn F w s p:=by
 cases h.ok hT with
 | mk _ _ _ _ _ _ _ _ _ _ _ ha hb hc hr _ _ _ _=>exact⟨hin.1.1,hin.1.2.1,hin.1.2.2.1,hin.1.2.2.2,ha,hb,hc,hr⟩
end
end Go.Proofs.YtafjkbbiaopemaaGreatDoor.Tr
