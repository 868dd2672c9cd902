/- Part of the proof. -/
import Derived.Test.YtafjkbbiaopemaaGreatDoorPrx17
import Derived.Test.YtafjkbbiaopemaaGreatDoorPrx21
set_option linter.all false
set_option maxRecDepth 100000
set_option maxHeartbeats 0
namespace Go.Proofs.YtafjkbbiaopemaaGreatDoor
open Go.RowKit
section
section
variable{P:Program}{ops:Array Oper}{Q:Exit→Act→World→Prop}{md:Region.Mode}{T:World→Prop}{k:Nat}
theorem AnyK.pureW{fuel:Nat}{listed:Array Bool}{a:Act}{w:World}(i:Nat){oi:Oper}{v:Value}(hi:ops[i]? = some oi)(hd:takeB md ops listed k i=true)
 (hQ:∀c a w,Q (.panic c) (a.put oi.dst v) w→Q (.panic c) a w) (hg:Region.wanted oi (yielded ops a.tmps)=true) (hy:∀w,(execOp a.eval oi).run P w=.ok (.value v) w) (hT:listed.getD k true=false→T w)
 (h:AnyK P md ops Q k T fuel (listed.setIfInBounds i true) (a.put oi.dst v) w):AnyK P md ops Q k T (fuel+1) listed a w:=by
 simp only[takeB,Bool.and_eq_true,decide_eq_true_eq]at hd;obtain⟨⟨⟨h1,h2⟩,h3⟩,h4⟩:=hd;exact AnyK.first (S:=fun _=>True) hi h1 (Region.noSelect_spec h2) hQ (.inl fun _=>trivial) fuel listed a w (Region.free_spec hi h3) (by simpa using h4) (.inl ⟨hg,fun w _=>hy w⟩) trivial hT (.inl fun _=>trivial) h
theorem AnyK.loadW{fuel:Nat}{listed:Array Bool}{a:Act}{w:World}(i:Nat){oi:Oper}{v:Value}(hi:ops[i]? = some oi)(hd:takeB md ops listed k i=true)(hk:awaits md ops k i=true)(hl:listed.getD k true=false)
 (hQ:∀c a w,Q (.panic c) (a.put oi.dst v) w→Q (.panic c) a w) (hg:Region.wanted oi (yielded ops a.tmps)=true) (hy:∀w,T w→(execOp a.eval oi).run P w=.ok (.value v) w) (hT:T w)
 (h:AnyK P md ops Q k T fuel (listed.setIfInBounds i true) (a.put oi.dst v) w):AnyK P md ops Q k T (fuel+1) listed a w:=by
 simp only[takeB,Bool.and_eq_true,decide_eq_true_eq]at hd;obtain⟨⟨⟨h1,h2⟩,h3⟩,h4⟩:=hd;exact AnyK.first (S:=T) hi h1 (Region.noSelect_spec h2) hQ (.inr ⟨fun _ h=>h,zdf hk⟩) fuel listed a w (Region.free_spec hi h3) (by simpa using h4) (.inl ⟨hg,hy⟩) hT (fun _=>hT) (.inr hl) h
theorem AnyK.turn{k':Nat}{T':World→Prop}: ∀(fuel:Nat) (listed:Array Bool) (a:Act) (w:World),listed.getD k true=true→AnyK P md ops Q k' T' fuel listed a w→AnyK P md ops Q k T fuel listed a w
 | 0,_,_,_,_,h=>h
 | fuel+1,listed,a,w,hl,h=>by
  refine⟨h.1,fun i hi=>wpOp_mono (fun a' w' h'=>?_) (h.2 i hi)⟩
  have hl':(listed.setIfInBounds i true).getD k true=true:=by
   by_cases hik:i=k
   · subst hik
     rcases Nat.lt_or_ge i listed.size with h' | h'
     · simp[h']
     · simp
   · rw[Go.getD_set_ne true hik];exact hl
  exact⟨fun h0=>(by rw[hl']at h0;cases h0),AnyK.turn fuel _ a' w' hl' h'.2⟩
theorem AnyK.oneW{fuel:Nat}{listed:Array Bool}{a:Act}{w:World}(i:Nat){oi:Oper}(hi:ops[i]? = some oi)(hr:Region.ready md ops listed=[i])(hg:Region.wanted oi (yielded ops a.tmps)=true)
 (h:oi.wp P a w (fun a' w'=>((listed.setIfInBounds i true).getD k true=false→T w')∧AnyK P md ops Q k T fuel (listed.setIfInBounds i true) a' w') Q):AnyK P md ops Q k T (fuel+1) listed a w:=by
 refine⟨fun h0=>(by rw[hr]at h0;cases h0),fun j hj=>?_⟩;rw[hr]at hj;obtain rfl:j=i:=by simpa using hj
 unfold wpOp
 simp only[hi];rw[if_pos hg];exact .inl h
theorem AnyK.enterW{fuel:Nat}{listed:Array Bool}{a:Act}{w:World}(i:Nat){d:Option Tmp}{f:FuncId}{args:Array Value}{oi:Oper}(hi:ops[i]? = some oi)(hd:oi.dst=d)(hg:Region.wanted oi (yielded ops a.tmps)=true)(hrun:(execOp a.eval oi).run P w=.ok (.enter f args) w)(hr:Region.ready md ops listed=[i])
 (h:Calls P f args w fun e w'=>∃v,e=.returned v∧((listed.setIfInBounds i true).getD k true=false→T w')∧AnyK P md ops Q k T fuel (listed.setIfInBounds i true) (a.put d v) w'):AnyK P md ops Q k T (fuel+1) listed a w:=by
 subst hd;refine AnyK.oneW i hi hr hg ?_
 unfold Oper.wp
 rw[hrun];refine Calls.mono h ?_;rintro e w' ⟨v,rfl,h1,h2⟩;exact⟨h1,h2⟩
theorem AnyK.valW{fuel:Nat}{listed:Array Bool}{a:Act}{w:World}(i:Nat){oi:Oper}{v:Value}(hi:ops[i]? = some oi)(hr:Region.ready md ops listed=[i])(hg:Region.wanted oi (yielded ops a.tmps)=true)(hy:(execOp a.eval oi).run P w=.ok (.value v) w)
 (hT:(listed.setIfInBounds i true).getD k true=false→T w) (h:AnyK P md ops Q k T fuel (listed.setIfInBounds i true) (a.put oi.dst v) w):AnyK P md ops Q k T (fuel+1) listed a w:=by
 refine AnyK.oneW i hi hr hg ?_
 unfold Oper.wp
 rw[hy,Oper.upon_value];exact⟨hT,h⟩
end
end
end Go.Proofs.YtafjkbbiaopemaaGreatDoor
namespace Go.Proofs.YtafjkbbiaopemaaGreatDoor.Tr
open Go.RowKit
section
def DcSm(l:List Dc):Prop:=l.length≤140737488355328∧∀d∈l,ExSm d.value.args∧d.places.length≤140737488355328∧∀p∈d.places,ExSm p.delay.args∧ExSm p.flags.args
theorem zls(v:Value):Instr.loadAt 45 v=ldAt 45 v:=rfl
theorem szDm(w:World):(sizeOf 45).run Tryz.prog w=.ok 9 w:=by kernel_rfl
theorem zei{w:World}{F:Nat→Prop}{A:Option Addr}{ss:List Dc}(h:DcsIn F w A ss)(i:Nat)(hi:i<ss.length):∃b off p,A=some ⟨b,off,none⟩∧b<w.heap.size∧w.rangeAt b (off+i*9) (dcC ss[i] p)∧DcIn F w ss[i] p:=by
 obtain⟨sl,hl,hr,he⟩:=h;obtain⟨b,off,rfl,hb,hc⟩:=hr.1.2 om;have h1:ss[i]? = some ss[i]:=ge9 hi;have h2:sl[i]? = some (sl[i]'om):=ge9 _;exact⟨b,off,sl[i]'om,rfl,hb,fun j v hv=>(by rw[Nat.add_assoc];exact hc _ v (zdg dcC 9 (fun _ _=>rfl) ss sl i _ _ j v h1 h2 hv)),he i _ _ h1 h2⟩
theorem zef{w:World}{F:Nat→Prop}{A:Option Addr}{ss:List Pl}(h:PlsIn F w A ss)(i:Nat)(hi:i<ss.length):∃b off p,A=some ⟨b,off,none⟩∧b<w.heap.size∧w.rangeAt b (off+i*12) (plC ss[i] p)∧PlIn F w ss[i] p:=by
 obtain⟨sl,hl,hr,he⟩:=h;obtain⟨b,off,rfl,hb,hc⟩:=hr.1.2 om;have h1:ss[i]? = some ss[i]:=ge9 hi;have h2:sl[i]? = some (sl[i]'om):=ge9 _;exact⟨b,off,sl[i]'om,rfl,hb,fun j v hv=>(by rw[Nat.add_assoc];exact hc _ v (zdg plC 12 (fun _ _=>rfl) ss sl i _ _ j v h1 h2 hv)),he i _ _ h1 h2⟩
theorem zb5{w W:World}{b off:Nat}{cs:List Value}(h:w.rangeAt b off cs)(hb:b<w.heap.size)(hW:Below w.heap.size w W):W.rangeAt b off cs:=fun q v hv=>(World.cell?_of_block (a:=⟨b,off+q,none⟩) (hW.block b hb)).trans (h q v hv)
theorem szPm(w:World):(sizeOf 80).run Tryz.prog w=.ok 12 w:=by kernel_rfl
theorem zb4{w:World}{b off:Nat}{cs ds:List Value}(h:w.rangeAt b off cs)(o n:Nat)(hd:(cs.drop o).take n=ds):w.rangeAt b (off+o) ds:=fun j v hv=>by
 rw[←hd,List.getElem?_take]at hv
 split at hv
 · rw[List.getElem?_drop]at hv
   rw[Nat.add_assoc];exact h _ v hv
 · cases hv
section
variable{w w':World}
attribute [local go_sem ↓] zls
end
end
section
section
variable{ts:List Lx.Tok}(hN:ts.length+5≤140737488355328)
abbrev exS(e:Ex):Prop:=ExSm e.args
section
variable{ex:PS→Ex × PS}(hx:∀s,exS (ex s).1)
include hx
theorem zhy(s:PS):exS (atomP ts ex s).1:=by
 unfold atomP
 repeat' split
 all_goals first|exact ExSm.nil|exact hx _
theorem zlu:∀(k:Nat) (l:List Ex) (s:PS),(∀e∈l,exS e)→(∀e∈(joinLoop ts ex k l s).1,exS e)∧(joinLoop ts ex k l s).1.length≤l.length+k
 | 0,l,s,h=>⟨h,by simp[joinLoop]⟩
 | k+1,l,s,h=>by
  rw[joinLoop]
  split
  · obtain⟨h1,h2⟩:=zlu k (l++[(ex (nxt s)).1]) (ex (nxt s)).2 (fun e he=>by
     rcases List.mem_append.1 he with he|he
     · exact h e he
     · rw[List.mem_singleton.1 he];exact hx _)
    exact⟨h1,by rw[la9]at h2;simp at h2;omega⟩
  · exact⟨h,by dsimp only;omega⟩
include hN
theorem zg0(s:PS):exS (factorP ts ex s).1:=by
 unfold factorP
 repeat' split
 · exact ExSm.nil
 · obtain⟨h1,h2⟩:=zlu hx (ts:=ts) (ts.length+1) [(ex (openP ts (nxt s))).1] (ex (openP ts (nxt s))).2 (fun e he=>by rw[List.mem_singleton.1 he];exact hx _)
   exact ExSm.mk _ (Nat.le_trans h2 (by simp only[List.length_cons,List.length_nil];omega)) h1
 · exact zhy hx s
omit hN hx in
theorem zo9(o t:ByteArray)(n a:Int){e f:Ex}(he:exS e)(hf:exS f):exS (.mk o n t a [e,f]):=by
 show ExSm [e,f]
 refine ExSm.mk [e,f] sy (fun x h=>?_);simp only[List.mem_cons,List.not_mem_nil,or_false]at h
 rcases h with rfl|rfl
 · exact he
 · exact hf
theorem zh4:∀(k:Nat) (e:Ex) (s:PS),exS e→exS (termLoop ts ex k e s).1
 | 0,_,_,h=>h
 | k+1,e,s,h=>by
  rw[termLoop]
  split
  · exact zh4 k _ _ (zo9 _ _ _ _ h (zg0 hN hx _))
  · exact h
theorem zkb(s:PS):exS (termP ts ex s).1:=zh4 hN hx _ _ _ (zg0 hN hx s)
theorem ziv:∀(k:Nat) (e:Ex) (s:PS),exS e→exS (exprLoop ts ex k e s).1
 | 0,_,_,h=>h
 | k+1,e,s,h=>by
  rw[exprLoop]
  split
  · exact ziv k _ _ (zo9 _ _ _ _ h (zkb hN hx _))
  · exact h
theorem zoy(s:PS):exS (exprG ts ex s).1:=ziv hN hx _ _ _ (zkb hN hx s)
end
include hN
theorem zcf:∀(d:Nat) (s:PS),exS (exprP ts d s).1
 | 0,_=>ExSm.nil
 | d+1,s=>zoy hN (fun s=>zcf d s) s
abbrev plS(p:Pl):Prop:=ExSm p.delay.args∧ExSm p.flags.args
theorem zif(s:PS):plS (placeP ts s).1:=by
 unfold placeP
 dsimp only
 constructor
 · show ExSm (if sees ts [m_at] (refP ts s).2=true then atomP ts (exprP ts 14) (nxt (refP ts s).2) else (zE,(refP ts s).2)).1.args
   split
   · exact zhy (zcf hN 14) _
   · exact ExSm.nil
 · dsimp only
   generalize (if sees ts [m_at] (refP ts s).2=true then atomP ts (exprP ts 14) (nxt (refP ts s).2) else (zE,(refP ts s).2))=q
   split
   · exact zhy (zcf hN 14) _
   · exact ExSm.nil
theorem zgl:∀(k:Nat) (l:List Pl) (s:PS),(∀e∈l,plS e)→(∀e∈(placeLoop ts k l s).1,plS e)∧(placeLoop ts k l s).1.length≤l.length+k
 | 0,l,s,h=>⟨h,by simp[placeLoop]⟩
 | k+1,l,s,h=>by
  rw[placeLoop]
  split
  · obtain⟨h1,h2⟩:=zgl k (l++[(placeP ts (nxt s)).1]) (placeP ts (nxt s)).2 (fun e he=>by
     rcases List.mem_append.1 he with he|he
     · exact h e he
     · rw[List.mem_singleton.1 he];exact zif hN _)
    exact⟨h1,by rw[la9]at h2;simp at h2;omega⟩
  · exact⟨h,by dsimp only;omega⟩
abbrev dcS(d:Dc):Prop:=ExSm d.value.args∧d.places.length≤140737488355328∧∀p∈d.places,ExSm p.delay.args∧ExSm p.flags.args
theorem zrj(s:PS):dcS (declP ts s).1:=by
 unfold declP
 dsimp only
 split
 · exact⟨zcf hN 14 _,by simp,fun _ h=>by simp at h⟩
 · obtain⟨h1,h2⟩:=zgl hN (ts.length+1) [(placeP ts (takeP ts m_eq (refP ts (nxt s)).2)).1] (placeP ts (takeP ts m_eq (refP ts (nxt s)).2)).2 (fun e he=>by rw[List.mem_singleton.1 he];exact zif hN _)
   exact⟨ExSm.nil,by simp at h2;dsimp only;omega,h1⟩
theorem zix:∀(k:Nat) (l:List Dc) (s:PS),(∀e∈l,dcS e)→(∀e∈(declLoop ts k l s).1,dcS e)∧(declLoop ts k l s).1.length≤l.length+k
 | 0,l,s,h=>⟨h,by simp[declLoop]⟩
 | k+1,l,s,h=>by
  rw[declLoop]
  split
  · obtain⟨h1,h2⟩:=zix k (l++[(declP ts s).1]) (declP ts s).2 (fun e he=>by
     rcases List.mem_append.1 he with he|he
     · exact h e he
     · rw[List.mem_singleton.1 he];exact zrj hN _)
    exact⟨h1,by rw[la9]at h2;simp at h2;omega⟩
  · exact⟨h,by dsimp only;omega⟩
omit hN in
theorem zky:∀(k:Nat) (l:List Rf) (s:PS),(refLoop ts k l s).1.length≤l.length+k
 | 0,l,s=>by simp[refLoop]
 | k+1,l,s=>by
  rw[refLoop]
  split
  · have h2:=zky k (l++[(refP ts (nxt s)).1]) (refP ts (nxt s)).2
    rw[la9]at h2;simp at h2;omega
  · dsimp only;omega
theorem via_sm(m:Bool)(s:PS):(viaP ts m s).1.length≤140737488355328:=by
 unfold viaP
 dsimp only
 split
 · have h2:=zky (ts:=ts) (ts.length+1) [(refP ts (takeP ts k_via s)).1] (refP ts (takeP ts k_via s)).2
   simp at h2;omega
 · simp
abbrev stS(s:St):Prop:=(ExSm s.ea.args∧ExSm s.eb.args∧ExSm s.ec.args∧s.routes.length≤140737488355328)∧StSm s.body∧StSm s.els
omit hN in
theorem StSm.nil:StSm []:=.mk _ sy (fun _ h=>by simp at h) (fun _ h=>by simp at h) (fun _ h=>by simp at h)
theorem zq5(k:ByteArray)(a:Int)(s:PS):stS (lineP ts k a s).1:=by
 unfold lineP
 dsimp only
 repeat' split
 all_goals exact⟨⟨by first|exact ExSm.nil|exact zcf hN 14 _,by first|exact ExSm.nil|exact zcf hN 14 _,by first|exact ExSm.nil|exact zcf hN 14 _,by first|exact via_sm hN _ _|(simp[St.routes])⟩,StSm.nil,StSm.nil⟩
omit hN in
theorem StSm.of{l:List St}(h:∀s∈l,stS s)(hl:l.length≤140737488355328):StSm l:=.mk l hl (fun s hs=>(h s hs).1) (fun s hs=>(h s hs).2.1) (fun s hs=>(h s hs).2.2)
section
variable{st:PS→St × PS}(hs:∀s,stS (st s).1)
include hs
omit hN in
theorem zi1:∀(k:Nat) (l:List St) (s:PS),(∀e∈l,stS e)→(∀e∈(bodyLoop ts st k l s).1,stS e)∧(bodyLoop ts st k l s).1.length≤l.length+k
 | 0,l,s,h=>⟨h,by simp[bodyLoop]⟩
 | k+1,l,s,h=>by
  rw[bodyLoop]
  split
  · obtain⟨h1,h2⟩:=zi1 k (l++[(st s).1]) (st s).2 (fun e he=>by
     rcases List.mem_append.1 he with he|he
     · exact h e he
     · rw[List.mem_singleton.1 he];exact hs _)
    exact⟨h1,by rw[la9]at h2;simp at h2;omega⟩
  · exact⟨h,by dsimp only;omega⟩
theorem zf7(s:PS):StSm (bodyP ts st s).1:=by
 unfold bodyP
 dsimp only;obtain⟨h1,h2⟩:=zi1 (ts:=ts) hs (ts.length+2) [] { takeP ts m_lbr (if (sees ts [m_lbr] s && s.bo == 12)=true then failP ts 11 s else s)with bo:=(takeP ts m_lbr (if (sees ts [m_lbr] s && s.bo == 12)=true then failP ts 11 s else s)).bo+1 } (fun _ h=>by simp at h);exact StSm.of h1 (Nat.le_trans h2 (by simp only[List.length_nil];omega))
theorem zm3(s:PS):stS (stmtG ts st s).1:=by
 unfold stmtG
 dsimp only
 split
 · split
   · exact⟨⟨zcf hN 14 _,ExSm.nil,ExSm.nil,by simp[St.routes]⟩,zf7 hN hs _,StSm.nil⟩
   · split
     · exact⟨⟨zcf hN 14 _,ExSm.nil,ExSm.nil,by simp[St.routes]⟩,zf7 hN hs _,StSm.nil⟩
     · split
       · refine⟨⟨ExSm.nil,ExSm.nil,ExSm.nil,by simp[St.routes]⟩,zf7 hN hs _,?_⟩
         dsimp only [St.els]
         split
         · exact zf7 hN hs _
         · exact StSm.nil
       · exact zq5 hN _ _ _
 · exact⟨⟨ExSm.nil,ExSm.nil,ExSm.nil,by simp[zT,St.routes]⟩,StSm.nil,StSm.nil⟩
end
theorem zkf:∀(d:Nat) (s:PS),stS (stmtP ts d s).1
 | 0,_=>⟨⟨ExSm.nil,ExSm.nil,ExSm.nil,by simp[stmtP,zT,St.routes]⟩,StSm.nil,StSm.nil⟩
 | d+1,s=>zm3 hN (fun s=>zkf d s) s
theorem zj4:∀(k:Nat) (l:List St) (s:PS),(∀e∈l,stS e)→(∀e∈(topLoop ts k l s).1,stS e)∧(topLoop ts k l s).1.length≤l.length+k
 | 0,l,s,h=>⟨h,by simp[topLoop]⟩
 | k+1,l,s,h=>by
  rw[topLoop]
  split
  · obtain⟨h1,h2⟩:=zj4 k (l++[(stmtP ts 14 s).1]) (stmtP ts 14 s).2 (fun e he=>by
     rcases List.mem_append.1 he with he|he
     · exact h e he
     · rw[List.mem_singleton.1 he];exact zkf hN 14 _)
    exact⟨h1,by rw[la9]at h2;simp at h2;omega⟩
  · exact⟨h,by dsimp only;omega⟩
theorem zlg:DcSm (parseT ts).1.decls∧StSm (parseT ts).1.body:=by
 unfold parseT
 dsimp only;obtain⟨h1,h2⟩:=zix hN (ts.length+1) [] s0 (fun _ h=>by simp at h);obtain⟨h3,h4⟩:=zj4 hN (ts.length+2) [] (declLoop ts (ts.length+1) [] s0).2 (fun _ h=>by simp at h)
 split
 · exact⟨⟨Nat.le_trans h2 (by simp only[List.length_nil];omega),h1⟩,StSm.of h3 (Nat.le_trans h4 (by simp only[List.length_nil];omega))⟩
 · exact⟨⟨by simp,fun _ h=>by simp at h⟩,StSm.nil⟩
end
theorem zok(s:List UInt8):DcSm (parse s).1.decls∧StSm (parse s).1.body:=by
 rcases hR:Lx.scan s with ⟨⟨p,q⟩,ts⟩
 unfold parse
 rw[hR];dsimp only
 split
 · rename_i hp
   subst hp
   have hq:q=0:=by
    rcases Lx.scan_cases s with ⟨p',q',h1,h2⟩|⟨us,h1,_⟩
    · rw[hR]at h1
      injection h1 with h3
      injection h3 with h3 h4
      omega
    · rw[hR]at h1
      injection h1 with h3
      injection h3
   subst hq;obtain⟨_,_,hn,_⟩:=zem hR;exact zlg om
 · exact⟨⟨by simp,fun _ h=>by simp at h⟩,StSm.nil⟩
end
end Go.Proofs.YtafjkbbiaopemaaGreatDoor.Tr
