/- Part of the proof. -/
import Derived.Test.YtafjkbbiaopemaaGreatDoorBax22
import Derived.Test.YtafjkbbiaopemaaGreatDoorBax26
set_option linter.all false
set_option maxRecDepth 100000
set_option maxHeartbeats 0
namespace Go.Proofs.YtafjkbbiaopemaaGreatDoor
open Go.RowKit
section
section
variable{P:Program}{ops:Array Oper}{Q:Exit→Act→World→Prop}{md:Region.Mode}{T:World→Prop}{k:Nat}
theorem AnyK.pureW{fuel:Nat}{listed:Array Bool}{a:Act}{w:World}(i:Nat){oi:Oper}{v:Value}(hi:ops[i]? = some oi)(hd:takeB md ops listed k i=true)
 (hQ:∀c a w,Q (.panic c) (a.put oi.dst v) w→Q (.panic c) a w) (hg:Region.wanted oi (yielded ops a.tmps)=true) (hy:∀w,(execOp a.eval oi).run P w=.ok (.value v) w) (hT:listed.getD k true=false→T w)
 (h:AnyK P md ops Q k T fuel (listed.setIfInBounds i true) (a.put oi.dst v) w):AnyK P md ops Q k T (fuel+1) listed a w:=by
 simp only[takeB,Bool.and_eq_true,decide_eq_true_eq]at hd;obtain⟨⟨⟨h1,h2⟩,h3⟩,h4⟩:=hd;exact AnyK.first (S:=fun _=>True) hi h1 (Region.noSelect_spec h2) hQ (.inl fun _=>trivial) fuel listed a w (Region.free_spec hi h3) (by simpa using h4) (.inl ⟨hg,fun w _=>hy w⟩) trivial hT (.inl fun _=>trivial) h
theorem AnyK.loadW{fuel:Nat}{listed:Array Bool}{a:Act}{w:World}(i:Nat){oi:Oper}{v:Value}(hi:ops[i]? = some oi)(hd:takeB md ops listed k i=true)(hk:awaits md ops k i=true)(hl:listed.getD k true=false)
 (hQ:∀c a w,Q (.panic c) (a.put oi.dst v) w→Q (.panic c) a w) (hg:Region.wanted oi (yielded ops a.tmps)=true) (hy:∀w,T w→(execOp a.eval oi).run P w=.ok (.value v) w) (hT:T w)
 (h:AnyK P md ops Q k T fuel (listed.setIfInBounds i true) (a.put oi.dst v) w):AnyK P md ops Q k T (fuel+1) listed a w:=by
 simp only[takeB,Bool.and_eq_true,decide_eq_true_eq]at hd;obtain⟨⟨⟨h1,h2⟩,h3⟩,h4⟩:=hd;exact AnyK.first (S:=T) hi h1 (Region.noSelect_spec h2) hQ (.inr ⟨fun _ h=>h,zdg hk⟩) fuel listed a w (Region.free_spec hi h3) (by simpa using h4) (.inl ⟨hg,hy⟩) hT (fun _=>hT) (.inr hl) h
theorem AnyK.turn{k':Nat}{T':World→Prop}: ∀(fuel:Nat) (listed:Array Bool) (a:Act) (w:World),listed.getD k true=true→AnyK P md ops Q k' T' fuel listed a w→AnyK P md ops Q k T fuel listed a w
 | 0,_,_,_,_,h=>h
 | fuel+1,listed,a,w,hl,h=>by
  refine⟨h.1,fun i hi=>wpOp_mono (fun a' w' h'=>?_) (h.2 i hi)⟩
  have hl':(listed.setIfInBounds i true).getD k true=true:=by
   by_cases hik:i=k
   · subst hik
     rcases Nat.lt_or_ge i listed.size with h' | h'
     · simp[h']
     · simp
   · rw[Go.getD_set_ne true hik];exact hl
  exact⟨fun h0=>(by rw[hl']at h0;cases h0),AnyK.turn fuel _ a' w' hl' h'.2⟩
theorem AnyK.oneW{fuel:Nat}{listed:Array Bool}{a:Act}{w:World}(i:Nat){oi:Oper}(hi:ops[i]? = some oi)(hr:Region.ready md ops listed=[i])(hg:Region.wanted oi (yielded ops a.tmps)=true)
 (h:oi.wp P a w (fun a' w'=>((listed.setIfInBounds i true).getD k true=false→T w')∧AnyK P md ops Q k T fuel (listed.setIfInBounds i true) a' w') Q):AnyK P md ops Q k T (fuel+1) listed a w:=by
 refine⟨fun h0=>(by rw[hr]at h0;cases h0),fun j hj=>?_⟩;rw[hr]at hj;obtain rfl:j=i:=by simpa using hj
 unfold wpOp
 simp only[hi];rw[if_pos hg];exact .inl h
theorem AnyK.enterW{fuel:Nat}{listed:Array Bool}{a:Act}{w:World}(i:Nat){d:Option Tmp}{f:FuncId}{args:Array Value}{oi:Oper}(hi:ops[i]? = some oi)(hd:oi.dst=d)(hg:Region.wanted oi (yielded ops a.tmps)=true)(hrun:(execOp a.eval oi).run P w=.ok (.enter f args) w)(hr:Region.ready md ops listed=[i])
 (h:Calls P f args w fun e w'=>∃v,e=.returned v∧((listed.setIfInBounds i true).getD k true=false→T w')∧AnyK P md ops Q k T fuel (listed.setIfInBounds i true) (a.put d v) w'):AnyK P md ops Q k T (fuel+1) listed a w:=by
 subst hd;refine AnyK.oneW i hi hr hg ?_
 unfold Oper.wp
 rw[hrun];refine Calls.mono h ?_;rintro e w' ⟨v,rfl,h1,h2⟩;exact⟨h1,h2⟩
theorem AnyK.valW{fuel:Nat}{listed:Array Bool}{a:Act}{w:World}(i:Nat){oi:Oper}{v:Value}(hi:ops[i]? = some oi)(hr:Region.ready md ops listed=[i])(hg:Region.wanted oi (yielded ops a.tmps)=true)(hy:(execOp a.eval oi).run P w=.ok (.value v) w)
 (hT:(listed.setIfInBounds i true).getD k true=false→T w) (h:AnyK P md ops Q k T fuel (listed.setIfInBounds i true) (a.put oi.dst v) w):AnyK P md ops Q k T (fuel+1) listed a w:=by
 refine AnyK.oneW i hi hr hg ?_
 unfold Oper.wp
 rw[hy,Oper.upon_value];exact⟨hT,h⟩
end
end
end Go.Proofs.YtafjkbbiaopemaaGreatDoor
namespace Go.Proofs.YtafjkbbiaopemaaGreatDoor.Tr
open Go.RowKit
section
def DcSm(l:List Dc):Prop:=l.length≤140737488355328∧∀d∈l,ExSm d.value.args∧d.places.length≤140737488355328∧∀p∈d.places,ExSm p.delay.args∧ExSm p.flags.args
theorem zgm(v:Value):Instr.loadAt 45 v=ldAt 45 v:=rfl
theorem szDm(w:World):(sizeOf 45).run Tryz.prog w=.ok 9 w:=by kernel_rfl
theorem zc8{w:World}{F:Nat→Prop}{A:Option Addr}{ss:List Dc}(h:DcsIn F w A ss)(i:Nat)(hi:i<ss.length):∃b off p,A=some ⟨b,off,none⟩∧b<w.heap.size∧w.rangeAt b (off+i*9) (dcC ss[i] p)∧DcIn F w ss[i] p:=by
 obtain⟨sl,hl,hr,he⟩:=h;obtain⟨b,off,rfl,hb,hc⟩:=hr.1.2 om;have h1:ss[i]? = some ss[i]:=ge9 hi;have h2:sl[i]? = some (sl[i]'om):=ge9 _;exact⟨b,off,sl[i]'om,rfl,hb,fun j v hv=>(by rw[Nat.add_assoc];exact hc _ v (zdh dcC 9 (fun _ _=>rfl) ss sl i _ _ j v h1 h2 hv)),he i _ _ h1 h2⟩
theorem zc4{w:World}{F:Nat→Prop}{A:Option Addr}{ss:List Pl}(h:PlsIn F w A ss)(i:Nat)(hi:i<ss.length):∃b off p,A=some ⟨b,off,none⟩∧b<w.heap.size∧w.rangeAt b (off+i*12) (plC ss[i] p)∧PlIn F w ss[i] p:=by
 obtain⟨sl,hl,hr,he⟩:=h;obtain⟨b,off,rfl,hb,hc⟩:=hr.1.2 om;have h1:ss[i]? = some ss[i]:=ge9 hi;have h2:sl[i]? = some (sl[i]'om):=ge9 _;exact⟨b,off,sl[i]'om,rfl,hb,fun j v hv=>(by rw[Nat.add_assoc];exact hc _ v (zdh plC 12 (fun _ _=>rfl) ss sl i _ _ j v h1 h2 hv)),he i _ _ h1 h2⟩
theorem zca{w W:World}{b off:Nat}{cs:List Value}(h:w.rangeAt b off cs)(hb:b<w.heap.size)(hW:Below w.heap.size w W):W.rangeAt b off cs:=fun q v hv=>(World.cell?_of_block (a:=⟨b,off+q,none⟩) (hW.block b hb)).trans (h q v hv)
theorem szPm(w:World):(sizeOf 80).run Tryz.prog w=.ok 12 w:=by kernel_rfl
theorem zbf{w:World}{b off:Nat}{cs ds:List Value}(h:w.rangeAt b off cs)(o n:Nat)(hd:(cs.drop o).take n=ds):w.rangeAt b (off+o) ds:=fun j v hv=>by
 rw[←hd,List.getElem?_take]at hv
 split at hv
 · rw[List.getElem?_drop]at hv
   rw[Nat.add_assoc];exact h _ v hv
 · cases hv
section
variable{w w':World}
attribute [local go_sem ↓] zgm
end
end
section
section
variable{ts:List Lx.Tok}(hN:ts.length+5≤140737488355328)
abbrev exS(e:Ex):Prop:=ExSm e.args
section
variable{ex:PS→Ex × PS}(hx:∀s,exS (ex s).1)
include hx
end
include hN
abbrev stS(s:St):Prop:=(ExSm s.ea.args∧ExSm s.eb.args∧ExSm s.ec.args∧s.routes.length≤140737488355328)∧StSm s.body∧StSm s.els
omit hN in
theorem StSm.nil:StSm []:=.mk _ sy (fun _ h=>by simp at h) (fun _ h=>by simp at h) (fun _ h=>by simp at h)
omit hN in
theorem StSm.of{l:List St}(h:∀s∈l,stS s)(hl:l.length≤140737488355328):StSm l:=.mk l hl (fun s hs=>(h s hs).1) (fun s hs=>(h s hs).2.1) (fun s hs=>(h s hs).2.2)
section
variable{st:PS→St × PS}(hs:∀s,stS (st s).1)
include hs
end
end
end
end Go.Proofs.YtafjkbbiaopemaaGreatDoor.Tr
