/- Part of the proof. -/
import Derived.Test.YtafjkbbiaopemaaGreatDoorOpx25
set_option linter.all false
set_option maxRecDepth 100000
set_option maxHeartbeats 0
namespace Go.Proofs.YtafjkbbiaopemaaGreatDoor.Tr
open Go.RowKit
section
section
variable{w w' w0:World}{b B g:Nat}{l l':List UInt8}
theorem znh{op:ByteArray}{num:Int}{text:ByteArray}{args:List Ex}(h:op=m_plus∨op=m_minus∨op=m_star)(hn:args.length≠2)(ps:List (List UInt8)):prB op num text args ps=[63]:=by
 unfold prB
 rw[if_neg (by rcases h with h|h|h <;> rw[h] <;> decide),if_neg (by rcases h with h|h|h <;> rw[h] <;> decide),if_neg (by rcases h with h|h|h <;> rw[h] <;> decide),if_neg (by rcases h with h|h|h <;> rw[h] <;> decide),if_pos h]
 split
 · simp at hn
 · rfl
theorem px_bad(op:ByteArray)(hop:op=m_plus∨op=m_minus∨op=m_star)(num:Int)(text:ByteArray)(at_:Int)(args:List Ex)(a:Option Addr × Nat)(hn:args.length≠2)(h:IsP B b l w)(hB:B≤w.heap.size)(hl:l.length+(prE (.mk op num text at_ args)).length≤1000000000):
 Calls Tryz.prog 71 #[.pointer (some ⟨b,0,none⟩),.agg (exC (.mk op num text at_ args) a).toArray] w fun r w'=>PrE B b w (l++prE (.mk op num text at_ args)) r w':=by
 have H0:=qh ((PrS.start h hB).al (.cells (exC (.mk op num text at_ args) a).toArray 39));have HP:Hid (prE (.mk op num text at_ args)=[63]):=(by show _=_;rw[prE];exact znh hop hn _);rw[HP.out]at hl ⊢;have HL:=qh hl;have hm:(args.length:Int)≠2:=om;clear h hl HP hn
 unfold exC at *
 dsimp only [Ex.op,Ex.num,Ex.text,Ex.at_,Ex.args]at *;generalize args.length=m at *;have x4:((m:Int) == 2)=false:=by rw[beq_eq_false_iff_ne];exact hm
 rcases hop with rfl|rfl|rfl
 all_goals
   go_enter Tryz.func71, Tryz.ntmps71
   go_wp2_with (go_at_call 70;(refine(zae H0.out _ sy [{ data:=#[63] }] 1 rfl (by decide) (by have:=HL.out;simp[flatS]at this ⊢;omega)).mono ?_);rintro r w3 h3;have H3:=qh ((H0.out.al _).st h3);obtain⟨rfl,_⟩:=h3)
   go_end0
   have h6:=H3.out.fin;rw[show l++flatS [{ data:=#[63] }]=l++[63] by simp[flatS]]at h6;exact h6
theorem zr0(op:ByteArray)(h1:op≠k_number)(h2:op≠k_name)(h3:op≠k_text)(h4:op≠k_join)(h5:op≠m_plus)(h6:op≠m_minus)(h7:op≠m_star)(num:Int)(text:ByteArray)(at_:Int)(args:List Ex)(a:Option Addr × Nat)(h:IsP B b l w)(hB:B≤w.heap.size)(hl:l.length+(prE (.mk op num text at_ args)).length≤1000000000):
 Calls Tryz.prog 71 #[.pointer (some ⟨b,0,none⟩),.agg (exC (.mk op num text at_ args) a).toArray] w fun r w'=>PrE B b w (l++prE (.mk op num text at_ args)) r w':=by
 have H0:=qh ((PrS.start h hB).al (.cells (exC (.mk op num text at_ args) a).toArray 39));have HP:Hid (prE (.mk op num text at_ args)=[63]):=(by show _=_;rw[prE];unfold prB;rw[if_neg h1,if_neg h2,if_neg h3,if_neg h4,if_neg (by rintro (h|h|h);exact h5 h;exact h6 h;exact h7 h)]);rw[HP.out]at hl ⊢;have HL:=qh hl;have x1:(op.toList == [110,117,109,98,101,114])=false:=strl h1;have x2:(op.toList == [110,97,109,101])=false:=strl h2;have x3:(op.toList == [116,101,120,116])=false:=strl h3;have x4:(op.toList == [106,111,105,110])=false:=strl h4;have x5:(op.toList == [43])=false:=strl h5;have x6:(op.toList == [45])=false:=strl h6;have x7:(op.toList == [42])=false:=strl h7;clear h hl HP h1 h2 h3 h4 h5 h6 h7
 unfold exC at *
 dsimp only [Ex.op,Ex.num,Ex.text,Ex.at_,Ex.args]at *;generalize args.length=m at *
 go_enter Tryz.func71, Tryz.ntmps71
 go_wp2_with (go_at_call 70;(refine(zae H0.out _ sy [{ data:=#[63] }] 1 rfl (by decide) (by have:=HL.out;simp[flatS]at this ⊢;omega)).mono ?_);rintro r w3 h3;have H3:=qh ((H0.out.al _).st h3);obtain⟨rfl,_⟩:=h3)
 go_end0
 have h6:=H3.out.fin;rw[show l++flatS [{ data:=#[63] }]=l++[63] by simp[flatS]]at h6;exact h6
theorem zc6{F:Nat→Prop}{e:Ex}(h:ExOk e):∀a,PxK e a F:=by
 induction h with
 | mk op num text at_ args h0 h1 h2 h3 hi ih =>
  intro a B b l w hp hB hl hF hA hT
  by_cases e1:op=k_number
  · subst e1;exact znf num text at_ args a h0 h1 hp hB hl hT
  by_cases e2:op=k_name
  · subst e2;exact zr1 num text at_ args a hp hB hl
  by_cases e3:op=k_text
  · subst e3;exact zry num text at_ args a h2 hp hB hl
  by_cases e4:op=k_join
  · subst e4;exact zr2 num text at_ args a h3 ih hp hB hl hF hA hT
  by_cases e5:op=m_plus∨op=m_minus∨op=m_star
  · by_cases hn:args.length=2
    · match args,hn,ih,hA,hl with
      | [x,y],_,ih,hA,hl =>
       have hx:=ih x sy;have hy:=ih y sy
       rcases e5 with h5|h5|rfl
       · exact px_pm op (.inl h5) num text at_ x y a hx hy hp hB hl hF hA hT
       · exact px_pm op (.inr h5) num text at_ x y a hx hy hp hB hl hF hA hT
       · exact zrz num text at_ x y a hx hy hp hB hl hF hA hT
    · exact px_bad op e5 num text at_ args a hn hp hB hl
  · exact zr0 op e1 e2 e3 e4 (fun h=>e5 (.inl h)) (fun h=>e5 (.inr (.inl h))) (fun h=>e5 (.inr (.inr h))) num text at_ args a hp hB hl
end
end
section
def ind(d:Nat):List UInt8:=List.replicate (2*d) 32
def nmd(w:List UInt8)(r:Rf):List UInt8:=if r.name=zs then [] else w++tx r.name
def prR(l:List Rf):List UInt8:=sepB [44,32] (l.map fun r=>tx r.name)
@[reducible] def t_via:List UInt8:=[32,118,105,97,32]
@[reducible] def t_with:List UInt8:=[32,119,105,116,104,32]
@[reducible] def t_as:List UInt8:=[32,97,115,32]
def prLine(kind:ByteArray)(name:Rf)(a b c:Ex)(routes:List Rf)(block tag:Rf):List UInt8 :=
 if kind=k_send then [115,101,110,100,32]++prE a++t_via++prR routes++nmd t_with block++nmd t_as tag
 else if kind=k_split then [115,112,108,105,116,32]++prE a++t_via++prR routes++nmd t_as tag
 else if kind=k_cover then [99,111,118,101,114,32]++prR routes
 else if kind=k_wait then [119,97,105,116,32]++prE a
 else if kind=k_block then [98,108,111,99,107,32]++tx name.name++t_via++prR routes
 else if kind=k_retry then [114,101,116,114,121,32]++prE a++[32,101,118,101,114,121,32]++prE b++[32,115,101,110,100,32]++prE c++t_via++prR routes++nmd t_as tag
 else if kind=k_every then [101,118,101,114,121,32]++prE a++[32,116,105,109,101,115,32]++prE b++[32,99,111,118,101,114,32]++prR routes
 else [63]
def prBody(d:Nat)(p:List UInt8):List UInt8:=[32,123,10]++p++ind d++[125]
mutual
def prSt:St→Nat→List UInt8
 | .mk kind _ name a b c routes block tag body els,d =>
  (if kind=k_after then [97,102,116,101,114,32]++prE a++prBody d (prSs body (d+1))
  else if kind=k_repeat then [114,101,112,101,97,116,32]++tx name.name++[32]++prE a++prBody d (prSs body (d+1))
  else if kind=k_if then [105,102,32,97,99,107,101,100,32]++tx tag.name++prBody d (prSs body (d+1))++(if els.isEmpty then [] else [32,101,108,115,101]++prBody d (prSs els (d+1)))
  else prLine kind name a b c routes block tag++[59])++[10]
def prSs:List St→Nat→List UInt8
 | [],_=>[]
 | s :: l,d=>ind d++prSt s d++prSs l d
end
def prAt(m:UInt8)(e:Ex):List UInt8:=if e.op=zs then [] else m :: par (!(decide (e.op=k_number)|| decide (e.op=k_name))) (prE e)
def prPl(p:Pl):List UInt8:=tx p.node.name++prAt 64 p.delay++prAt 33 p.flags
def prDc(d:Dc):List UInt8 :=
 (if d.kind=k_let then [108,101,116,32]++tx d.name.name++[32,61,32]++prE d.value
 else if d.kind=k_route then [114,111,117,116,101,32]++tx d.name.name++[32,61,32]++sepB [32,62,32] (d.places.map prPl)
 else [63])++[59,10]
def prTop(t:Sr):List UInt8:=t.decls.flatMap prDc++prSs t.body 0
theorem zgo(d:Nat):∀l:List St,prSs l d=l.flatMap fun s=>ind d++prSt s d
 | []=>by rw[prSs];rfl
 | s :: l=>by rw[prSs,zgo d l];simp
theorem zer(d:Nat)(l m:List St):prSs (l++m) d=prSs l d++prSs m d:=by simp[zgo]
theorem zgn(d:Nat)(s:St):prSs [s] d=ind d++prSt s d:=by simp[zgo]
mutual
def bd:St→Nat
 | .mk kind _ _ _ _ _ _ _ _ body els=>if kind=k_after∨kind=k_repeat∨kind=k_if then 1+max (bdL body) (bdL els) else 0
def bdL:List St→Nat
 | []=>0
 | s :: l=>max (bd s) (bdL l)
end
theorem zof{n:Nat}: ∀ {l:List St},(∀s∈l,bd s≤n)→bdL l≤n
 | [],_=>by rw[bdL];omega
 | s :: l,h=>by
  rw[bdL];exact Nat.max_le.2 ⟨h s sy,zof fun x hx=>h x (by simp[hx])⟩
def NmOk(ts:List Lx.Tok)(t:ByteArray):Prop:=∃i,(tokAt ts i).kind=1∧t=bytesOf (tokAt ts i).text
abbrev WE(ts:List Lx.Tok)(e:Ex):Prop:=WfE ts e∧nd e≤12
def OptN(ts:List Lx.Tok)(r:Rf):Prop:=r=zR∨NmOk ts r.name
def OptE(ts:List Lx.Tok)(e:Ex):Prop:=e=zE∨(WfE ts e∧nd e+c4 e≤12)
def WfP(ts:List Lx.Tok)(p:Pl):Prop:=NmOk ts p.node.name∧OptE ts p.delay∧OptE ts p.flags
def WfD(ts:List Lx.Tok)(d:Dc):Prop:=NmOk ts d.name.name∧((d.kind=k_let∧WE ts d.value∧d.places=[])∨(d.kind=k_route∧d.value=zE∧d.places≠[]∧d.places.length≤10000∧∀p∈d.places,WfP ts p))
inductive WfS (ts:List Lx.Tok):St→Prop
 | send (at_:Int) (a:Ex) (r b t:Rf) (h1:WE ts a) (h2:NmOk ts r.name) (h3:OptN ts b) (h4:OptN ts t):WfS ts (.mk k_send at_ zR a zE zE [r] b t [] [])
 | split (at_:Int) (a:Ex) (rs:List Rf) (t:Rf) (h1:WE ts a) (h0:rs≠[]) (hl:rs.length≤10000) (h2:∀r∈rs,NmOk ts r.name) (h4:OptN ts t):WfS ts (.mk k_split at_ zR a zE zE rs zR t [] [])
 | cover (at_:Int) (r:Rf) (h2:NmOk ts r.name):WfS ts (.mk k_cover at_ zR zE zE zE [r] zR zR [] [])
 | wait (at_:Int) (a:Ex) (h1:WE ts a):WfS ts (.mk k_wait at_ zR a zE zE [] zR zR [] [])
 | block (at_:Int) (n r:Rf) (h1:NmOk ts n.name) (h2:NmOk ts r.name):WfS ts (.mk k_block at_ n zE zE zE [r] zR zR [] [])
 | retry (at_:Int) (a b c:Ex) (r t:Rf) (h1:WE ts a) (h2:WE ts b) (h3:WE ts c) (h4:NmOk ts r.name) (h5:OptN ts t):WfS ts (.mk k_retry at_ zR a b c [r] zR t [] [])
 | every (at_:Int) (a b:Ex) (r:Rf) (h1:WE ts a) (h2:WE ts b) (h4:NmOk ts r.name):WfS ts (.mk k_every at_ zR a b zE [r] zR zR [] [])
 | after (at_:Int) (a:Ex) (y:List St) (h1:WE ts a) (hl:y.length≤10000) (hy:∀s∈y,WfS ts s):WfS ts (.mk k_after at_ zR a zE zE [] zR zR y [])
 | repeat_ (at_:Int) (n:Rf) (a:Ex) (y:List St) (h1:NmOk ts n.name) (h2:WE ts a) (hl:y.length≤10000) (hy:∀s∈y,WfS ts s):WfS ts (.mk k_repeat at_ n a zE zE [] zR zR y [])
 | if_ (at_:Int) (t:Rf) (y z:List St) (h1:NmOk ts t.name) (hl:y.length≤10000) (hm:z.length≤10000) (hy:∀s∈y,WfS ts s) (hz:∀s∈z,WfS ts s):WfS ts (.mk k_if at_ zR zE zE zE [] zR t y z)
inductive StOk:St→Prop
 | mk (kind:ByteArray) (at_:Int) (name:Rf) (a b c:Ex) (routes:List Rf) (block tag:Rf) (body els:List St) (ha:ExOk a) (hb:ExOk b) (hc:ExOk c) (hr:routes.length≤1000000) (hl:body.length≤1000000) (hm:els.length≤1000000)
     (hy:∀s∈body,StOk s) (hz:∀s∈els,StOk s):StOk (.mk kind at_ name a b c routes block tag body els)
def DcOk(d:Dc):Prop:=ExOk d.value∧d.places.length≤1000000∧∀p∈d.places,ExOk p.delay∧ExOk p.flags
section
variable{ts:List Lx.Tok}
theorem WfS.ok(hT:TkOk ts){s:St}(h:WfS ts s):StOk s:=by
 induction h with
 | send at_ a r b t h1 h2 h3 h4=>exact .mk _ _ _ _ _ _ _ _ _ _ _ (h1.1.ok hT) ExOk.zE ExOk.zE sy sy sy sy sy
 | split at_ a rs t h1 h0 hl h2 h4=>exact .mk _ _ _ _ _ _ _ _ _ _ _ (h1.1.ok hT) ExOk.zE ExOk.zE om sy sy sy sy
 | cover at_ r h2=>exact .mk _ _ _ _ _ _ _ _ _ _ _ ExOk.zE ExOk.zE ExOk.zE sy sy sy sy sy
 | wait at_ a h1=>exact .mk _ _ _ _ _ _ _ _ _ _ _ (h1.1.ok hT) ExOk.zE ExOk.zE sy sy sy sy sy
 | block at_ n r h1 h2=>exact .mk _ _ _ _ _ _ _ _ _ _ _ ExOk.zE ExOk.zE ExOk.zE sy sy sy sy sy
 | retry at_ a b c r t h1 h2 h3 h4 h5=>exact .mk _ _ _ _ _ _ _ _ _ _ _ (h1.1.ok hT) (h2.1.ok hT) (h3.1.ok hT) sy sy sy sy sy
 | every at_ a b r h1 h2 h4=>exact .mk _ _ _ _ _ _ _ _ _ _ _ (h1.1.ok hT) (h2.1.ok hT) ExOk.zE sy sy sy sy sy
 | after at_ a y h1 hl hy ih=>exact .mk _ _ _ _ _ _ _ _ _ _ _ (h1.1.ok hT) ExOk.zE ExOk.zE sy om sy ih sy
 | repeat_ at_ n a y h1 h2 hl hy ih=>exact .mk _ _ _ _ _ _ _ _ _ _ _ (h2.1.ok hT) ExOk.zE ExOk.zE sy om sy ih sy
 | if_ at_ t y z h1 hl hm hy hz ihy ihz=>exact .mk _ _ _ _ _ _ _ _ _ _ _ ExOk.zE ExOk.zE ExOk.zE sy om om ihy ihz
theorem OptE.ok(hT:TkOk ts){e:Ex}(h:OptE ts e):ExOk e:=by
 rcases h with rfl|h
 · exact ExOk.zE
 · exact h.1.ok hT
theorem WfD.ok(hT:TkOk ts){d:Dc}(h:WfD ts d):DcOk d:=by
 rcases h.2 with ⟨_,h1,h2⟩|⟨_,h1,_,h2,h3⟩
 · exact⟨h1.1.ok hT,by rw[h2];simp,by rw[h2];simp⟩
 · exact⟨by rw[h1];exact ExOk.zE,by omega,fun p hp=>⟨(h3 p hp).2.1.ok hT,(h3 p hp).2.2.ok hT⟩⟩
variable(HT:Ends ts)(hT:TkOk ts)
include hT
theorem zc4{s:PS}(h:(refP ts s).2.ok=true):NmOk ts (refP ts s).1.name∧(tx (refP ts s).1.name).length+50000+60000*s.i≤60000*(refP ts s).2.i:=by
 obtain⟨_,h1,h2⟩:=ref_ok h;rw[h2];refine⟨⟨s.i,h1,rfl⟩,?_⟩;have h3:=(hT s.i).1;have h4:(tx (bytesOf (pk ts s).text)).length=(tokAt ts s.i).text.length:=by simp[tx,bytesOf,pk]
 have hi:(nxt s).i=s.i+1:=rfl;dsimp only;omega
omit hT in
theorem zbv{T:ByteArray}{s:PS}(h:(takeP ts T s).ok=true):s.ok=true∧60000+60000*s.i≤60000*(takeP ts T s).i:=by
 obtain⟨h1,_,h3⟩:=zey h;rw[h3];have hi:(nxt s).i=s.i+1:=rfl;exact⟨h1,by omega⟩
omit hT in
theorem nmd_le{w:List UInt8}(hw:w.length≤10){r:Rf}: (nmd w r).length≤10+(tx r.name).length:=by unfold nmd;split <;> simp <;> omega
theorem zkh{T:ByteArray}{w:List UInt8}(hw:w.length≤10){s:PS}(h:(if sees ts [T] s then refP ts (nxt s) else (zR,s)).2.ok=true):OptN ts (if sees ts [T] s then refP ts (nxt s) else (zR,s)).1∧(nmd w (if sees ts [T] s then refP ts (nxt s) else (zR,s)).1).length+60000*s.i≤60000*(if sees ts [T] s then refP ts (nxt s) else (zR,s)).2.i:=by
 split at h
 · rename_i h1
   rw[if_pos h1];obtain⟨h2,h3⟩:=zc4 hT h;have hi:(nxt s).i=s.i+1:=rfl;have:=nmd_le hw (r:=(refP ts (nxt s)).1);exact⟨.inr h2,by omega⟩
 · rename_i h1
   rw[if_neg h1];exact⟨.inl rfl,by simp[nmd,zR]⟩
include HT
theorem zm6:∀(k:Nat) (l:List Rf) (s:PS),l≠[]→(∀r∈l,NmOk ts r.name)→(refLoop ts k l s).2.ok=true →
 (refLoop ts k l s).1≠[]∧(refLoop ts k l s).1.length≤l.length+k∧(∀r∈(refLoop ts k l s).1,NmOk ts r.name)∧(prR (refLoop ts k l s).1).length+60000*s.i≤(prR l).length+60000*(refLoop ts k l s).2.i
 | 0,l,s,h0,hl,_=>⟨h0,by simp[refLoop],hl,by simp[refLoop]⟩
 | k+1,l,s,h0,hl,h=>by
  rw[refLoop]at h ⊢
  split at h
  · rename_i hs
    rw[if_pos hs];obtain⟨w1,w2⟩:=zc4 hT ((zd4 HT k (l++[(refP ts (nxt s)).1]) (refP ts (nxt s)).2).okof h);have hi:(nxt s).i=s.i+1:=rfl
    obtain⟨r1,r2,r3,r4⟩:=zm6 k (l++[(refP ts (nxt s)).1]) (refP ts (nxt s)).2 sy (fun e he=>by
     rcases List.mem_append.1 he with he|he
     · exact hl e he
     · rw[List.mem_singleton.1 he];exact w1) h
    refine⟨r1,by rw[la9,List.length_singleton]at r2;omega,r3,?_⟩
    have e1:prR (l++[(refP ts (nxt s)).1])=prR l++[44,32]++tx (refP ts (nxt s)).1.name:=by
     unfold prR
     rw[List.map_append];exact zdc _ _ _ (by simpa using h0)
    rw[e1]at r4;simp only[List.length_append,List.length_cons,List.length_nil]at r4;omega
  · rename_i hs
    rw[if_neg hs];exact⟨h0,by dsimp only;omega,hl,by dsimp only;omega⟩
theorem zjg(hn:ts.length≤9000)(m:Bool){s:PS}(h:(viaP ts m s).2.ok=true):(viaP ts m s).1≠[]∧(viaP ts m s).1.length≤10000∧(∀r∈(viaP ts m s).1,NmOk ts r.name)∧(m=false→∃r,(viaP ts m s).1=[r])∧(prR (viaP ts m s).1).length+100000+60000*s.i≤60000*(viaP ts m s).2.i:=by
 unfold viaP at h ⊢
 dsimp only at h ⊢
 cases m with
 | false =>
  simp only[Bool.false_eq_true,if_false]at h ⊢;obtain⟨h1,h2⟩:=zc4 hT h;obtain⟨h3,h4⟩:=zbv ((ref_g HT _).okof h);exact⟨by simp,by simp,by simpa using h1,fun _=>⟨_,rfl⟩,by simp[prR,sepB];omega⟩
 | true =>
  simp only[if_true]at h ⊢;have hk:=(zd4 HT _ _ _).okof h;obtain⟨h1,h2⟩:=zc4 hT hk;obtain⟨h3,h4⟩:=zbv ((ref_g HT _).okof hk);obtain⟨r1,r2,r3,r4⟩:=zm6 HT hT _ _ _ sy (by simpa using h1) h;refine⟨r1,Nat.le_trans r2 (by simp;omega),r3,fun h=>by simp at h,?_⟩;have e1:(prR [(refP ts (takeP ts k_via s)).1]).length=(tx (refP ts (takeP ts k_via s)).1.name).length:=by simp[prR,sepB]
  omega
theorem EX_ec(hn:ts.length≤9000){s:PS}(h:(EX ts s).2.ok=true)(hp:s.pa=0):WE ts (EX ts s).1∧(prE (EX ts s).1).length+60000*s.i≤60000*(EX ts s).2.i:=by
 obtain⟨h1,h2,h3⟩:=zi9 HT hT hn 14 s om om h;simp only[c0]at h2
 show WE ts (exprP ts 14 s).1∧(prE (exprP ts 14 s).1).length+60000*s.i≤60000*(exprP ts 14 s).2.i
 exact⟨⟨h1,by omega⟩,h3⟩
def Sc(ts:List Lx.Tok)(s:PS)(x:St)(s':PS):Prop:=s'.ok=true→WfS ts x∧(bd x:Int)+s.bo≤12∧∀d:Nat,(d:Int)=s.bo→(ind d++prSt x d).length+60000*s.i≤60000*s'.i
omit HT hT in
theorem zcl(d:Nat):(ind d).length=2*d:=by simp[ind]
end
end
section
def PW(B b:Nat)(w:World)(f:FuncId)(vs:List Value)(out:List UInt8):Prop:=∀(l':List UInt8) W,IsP B b l' W→B≤W.heap.size→l'.length+out.length≤1000000000→Below B w W→Calls Tryz.prog f (.pointer (some ⟨b,0,none⟩) :: vs).toArray W fun r w'=>PrE B b W (l'++out) r w'
section
variable{w w' w0:World}{b B g:Nat}{l l':List UInt8}
theorem hp_sp(A:ByteArray)(hA:A.size=128)(hx:A.extract 0 2 = { data:=#[32,32] })(w:World):Calls Tryz.prog 118 #[.string A,.string { data:=#[32,32] }] w fun e w'=>e=.returned (.bool true)∧w=w':=by
 have h1:(2:Int)≤(A.size:Int):=om;have h2:2≤A.size:=om
 go_enter Tryz.func118, Tryz.ntmps118
 go_wp2;go_ret
 first
  | exact⟨by rw[hx];rfl,rfl⟩
  | exact⟨by simp[hx],rfl⟩
theorem zpl(w:World):Calls Tryz.prog 98 #[.string { data:=#[32,32] },.int .i64 1] w fun e w'=>e=.returned (.string { data:=#[32,32] })∧w=w':=by
 go_enter Tryz.func98, Tryz.ntmps98
 go_wp2;go_ret;exact⟨rfl,rfl⟩
theorem mul_2(w:World):Calls Tryz.prog 117 #[.int .u64 2,.int .u64 2] w fun e w'=>e=.returned (.tuple #[.int .u64 0,.int .u64 4])∧w=w':=by
 go_enter Tryz.func117, Tryz.ntmps117
 go_wp2;refine bodyPost_ret (results_tmp2 rfl _ _ _) rfl ?_;exact⟨by kernel_rfl,rfl⟩
theorem zpk(w:World):Calls Tryz.prog 98 #[.string { data:=#[32,32] },.int .i64 2] w fun e w'=>e=.returned (.string { data:=#[32,32,32,32] })∧w=w':=by
 go_enter Tryz.func98, Tryz.ntmps98
 go_wp2_with (first|(go_at_call 117;(refine(mul_2 _).mono ?_);rintro e w2 ⟨rfl,rfl⟩)| (go_at_call 118;(refine(hp_sp _ kr kr _).mono ?_);rintro e w3 ⟨rfl,rfl⟩))
 go_ret;exact⟨by kernel_rfl,rfl⟩
theorem mul_3(w:World):Calls Tryz.prog 117 #[.int .u64 2,.int .u64 3] w fun e w'=>e=.returned (.tuple #[.int .u64 0,.int .u64 6])∧w=w':=by
 go_enter Tryz.func117, Tryz.ntmps117
 go_wp2;refine bodyPost_ret (results_tmp2 rfl _ _ _) rfl ?_;exact⟨by kernel_rfl,rfl⟩
theorem zpj(w:World):Calls Tryz.prog 98 #[.string { data:=#[32,32] },.int .i64 3] w fun e w'=>e=.returned (.string { data:=#[32,32,32,32,32,32] })∧w=w':=by
 go_enter Tryz.func98, Tryz.ntmps98
 go_wp2_with (first|(go_at_call 117;(refine(mul_3 _).mono ?_);rintro e w2 ⟨rfl,rfl⟩)| (go_at_call 118;(refine(hp_sp _ kr kr _).mono ?_);rintro e w3 ⟨rfl,rfl⟩))
 go_ret;exact⟨by kernel_rfl,rfl⟩
theorem mul_4(w:World):Calls Tryz.prog 117 #[.int .u64 2,.int .u64 4] w fun e w'=>e=.returned (.tuple #[.int .u64 0,.int .u64 8])∧w=w':=by
 go_enter Tryz.func117, Tryz.ntmps117
 go_wp2;refine bodyPost_ret (results_tmp2 rfl _ _ _) rfl ?_;exact⟨by kernel_rfl,rfl⟩
theorem zpi(w:World):Calls Tryz.prog 98 #[.string { data:=#[32,32] },.int .i64 4] w fun e w'=>e=.returned (.string { data:=#[32,32,32,32,32,32,32,32] })∧w=w':=by
 go_enter Tryz.func98, Tryz.ntmps98
 go_wp2_with (first|(go_at_call 117;(refine(mul_4 _).mono ?_);rintro e w2 ⟨rfl,rfl⟩)| (go_at_call 118;(refine(hp_sp _ kr kr _).mono ?_);rintro e w3 ⟨rfl,rfl⟩))
 go_ret;exact⟨by kernel_rfl,rfl⟩
theorem mul_5(w:World):Calls Tryz.prog 117 #[.int .u64 2,.int .u64 5] w fun e w'=>e=.returned (.tuple #[.int .u64 0,.int .u64 10])∧w=w':=by
 go_enter Tryz.func117, Tryz.ntmps117
 go_wp2;refine bodyPost_ret (results_tmp2 rfl _ _ _) rfl ?_;exact⟨by kernel_rfl,rfl⟩
theorem zph(w:World):Calls Tryz.prog 98 #[.string { data:=#[32,32] },.int .i64 5] w fun e w'=>e=.returned (.string { data:=#[32,32,32,32,32,32,32,32,32,32] })∧w=w':=by
 go_enter Tryz.func98, Tryz.ntmps98
 go_wp2_with (first|(go_at_call 117;(refine(mul_5 _).mono ?_);rintro e w2 ⟨rfl,rfl⟩)| (go_at_call 118;(refine(hp_sp _ kr kr _).mono ?_);rintro e w3 ⟨rfl,rfl⟩))
 go_ret;exact⟨by kernel_rfl,rfl⟩
theorem mul_6(w:World):Calls Tryz.prog 117 #[.int .u64 2,.int .u64 6] w fun e w'=>e=.returned (.tuple #[.int .u64 0,.int .u64 12])∧w=w':=by
 go_enter Tryz.func117, Tryz.ntmps117
 go_wp2;refine bodyPost_ret (results_tmp2 rfl _ _ _) rfl ?_;exact⟨by kernel_rfl,rfl⟩
theorem zpg(w:World):Calls Tryz.prog 98 #[.string { data:=#[32,32] },.int .i64 6] w fun e w'=>e=.returned (.string { data:=#[32,32,32,32,32,32,32,32,32,32,32,32] })∧w=w':=by
 go_enter Tryz.func98, Tryz.ntmps98
 go_wp2_with (first|(go_at_call 117;(refine(mul_6 _).mono ?_);rintro e w2 ⟨rfl,rfl⟩)| (go_at_call 118;(refine(hp_sp _ kr kr _).mono ?_);rintro e w3 ⟨rfl,rfl⟩))
 go_ret;exact⟨by kernel_rfl,rfl⟩
theorem mul_7(w:World):Calls Tryz.prog 117 #[.int .u64 2,.int .u64 7] w fun e w'=>e=.returned (.tuple #[.int .u64 0,.int .u64 14])∧w=w':=by
 go_enter Tryz.func117, Tryz.ntmps117
 go_wp2;refine bodyPost_ret (results_tmp2 rfl _ _ _) rfl ?_;exact⟨by kernel_rfl,rfl⟩
theorem zpf(w:World):Calls Tryz.prog 98 #[.string { data:=#[32,32] },.int .i64 7] w fun e w'=>e=.returned (.string { data:=#[32,32,32,32,32,32,32,32,32,32,32,32,32,32] })∧w=w':=by
 go_enter Tryz.func98, Tryz.ntmps98
 go_wp2_with (first|(go_at_call 117;(refine(mul_7 _).mono ?_);rintro e w2 ⟨rfl,rfl⟩)| (go_at_call 118;(refine(hp_sp _ kr kr _).mono ?_);rintro e w3 ⟨rfl,rfl⟩))
 go_ret;exact⟨by kernel_rfl,rfl⟩
theorem mul_8(w:World):Calls Tryz.prog 117 #[.int .u64 2,.int .u64 8] w fun e w'=>e=.returned (.tuple #[.int .u64 0,.int .u64 16])∧w=w':=by
 go_enter Tryz.func117, Tryz.ntmps117
 go_wp2;refine bodyPost_ret (results_tmp2 rfl _ _ _) rfl ?_;exact⟨by kernel_rfl,rfl⟩
theorem zpe(w:World):Calls Tryz.prog 98 #[.string { data:=#[32,32] },.int .i64 8] w fun e w'=>e=.returned (.string { data:=#[32,32,32,32,32,32,32,32,32,32,32,32,32,32,32,32] })∧w=w':=by
 go_enter Tryz.func98, Tryz.ntmps98
 go_wp2_with (first|(go_at_call 117;(refine(mul_8 _).mono ?_);rintro e w2 ⟨rfl,rfl⟩)| (go_at_call 118;(refine(hp_sp _ kr kr _).mono ?_);rintro e w3 ⟨rfl,rfl⟩))
 go_ret;exact⟨by kernel_rfl,rfl⟩
theorem mul_9(w:World):Calls Tryz.prog 117 #[.int .u64 2,.int .u64 9] w fun e w'=>e=.returned (.tuple #[.int .u64 0,.int .u64 18])∧w=w':=by
 go_enter Tryz.func117, Tryz.ntmps117
 go_wp2;refine bodyPost_ret (results_tmp2 rfl _ _ _) rfl ?_;exact⟨by kernel_rfl,rfl⟩
theorem zpd(w:World):Calls Tryz.prog 98 #[.string { data:=#[32,32] },.int .i64 9] w fun e w'=>e=.returned (.string { data:=#[32,32,32,32,32,32,32,32,32,32,32,32,32,32,32,32,32,32] })∧w=w':=by
 go_enter Tryz.func98, Tryz.ntmps98
 go_wp2_with (first|(go_at_call 117;(refine(mul_9 _).mono ?_);rintro e w2 ⟨rfl,rfl⟩)| (go_at_call 118;(refine(hp_sp _ kr kr _).mono ?_);rintro e w3 ⟨rfl,rfl⟩))
 go_ret;exact⟨by kernel_rfl,rfl⟩
theorem mul_10(w:World):Calls Tryz.prog 117 #[.int .u64 2,.int .u64 10] w fun e w'=>e=.returned (.tuple #[.int .u64 0,.int .u64 20])∧w=w':=by
 go_enter Tryz.func117, Tryz.ntmps117
 go_wp2;refine bodyPost_ret (results_tmp2 rfl _ _ _) rfl ?_;exact⟨by kernel_rfl,rfl⟩
theorem zm3(w:World):Calls Tryz.prog 98 #[.string { data:=#[32,32] },.int .i64 10] w fun e w'=>e=.returned (.string { data:=#[32,32,32,32,32,32,32,32,32,32,32,32,32,32,32,32,32,32,32,32] })∧w=w':=by
 go_enter Tryz.func98, Tryz.ntmps98
 go_wp2_with (first|(go_at_call 117;(refine(mul_10 _).mono ?_);rintro e w2 ⟨rfl,rfl⟩)| (go_at_call 118;(refine(hp_sp _ kr kr _).mono ?_);rintro e w3 ⟨rfl,rfl⟩))
 go_ret;exact⟨by kernel_rfl,rfl⟩
theorem mul_11(w:World):Calls Tryz.prog 117 #[.int .u64 2,.int .u64 11] w fun e w'=>e=.returned (.tuple #[.int .u64 0,.int .u64 22])∧w=w':=by
 go_enter Tryz.func117, Tryz.ntmps117
 go_wp2;refine bodyPost_ret (results_tmp2 rfl _ _ _) rfl ?_;exact⟨by kernel_rfl,rfl⟩
theorem zm2(w:World):Calls Tryz.prog 98 #[.string { data:=#[32,32] },.int .i64 11] w fun e w'=>e=.returned (.string { data:=#[32,32,32,32,32,32,32,32,32,32,32,32,32,32,32,32,32,32,32,32,32,32] })∧w=w':=by
 go_enter Tryz.func98, Tryz.ntmps98
 go_wp2_with (first|(go_at_call 117;(refine(mul_11 _).mono ?_);rintro e w2 ⟨rfl,rfl⟩)| (go_at_call 118;(refine(hp_sp _ kr kr _).mono ?_);rintro e w3 ⟨rfl,rfl⟩))
 go_ret;exact⟨by kernel_rfl,rfl⟩
theorem mul_12(w:World):Calls Tryz.prog 117 #[.int .u64 2,.int .u64 12] w fun e w'=>e=.returned (.tuple #[.int .u64 0,.int .u64 24])∧w=w':=by
 go_enter Tryz.func117, Tryz.ntmps117
 go_wp2;refine bodyPost_ret (results_tmp2 rfl _ _ _) rfl ?_;exact⟨by kernel_rfl,rfl⟩
theorem zm1(w:World):Calls Tryz.prog 98 #[.string { data:=#[32,32] },.int .i64 12] w fun e w'=>e=.returned (.string { data:=#[32,32,32,32,32,32,32,32,32,32,32,32,32,32,32,32,32,32,32,32,32,32,32,32] })∧w=w':=by
 go_enter Tryz.func98, Tryz.ntmps98
 go_wp2_with (first|(go_at_call 117;(refine(mul_12 _).mono ?_);rintro e w2 ⟨rfl,rfl⟩)| (go_at_call 118;(refine(hp_sp _ kr kr _).mono ?_);rintro e w3 ⟨rfl,rfl⟩))
 go_ret;exact⟨by kernel_rfl,rfl⟩
theorem zpc(d:Nat)(hd:d≤12)(w:World):Calls Tryz.prog 98 #[.string { data:=#[32,32] },.int .i64 d] w fun e w'=>e=.returned (.string (bytesOf (ind d)))∧w=w':=by
 rcases (by omega:d=0∨d=1∨d=2∨d=3∨d=4∨d=5∨d=6∨d=7∨d=8∨d=9∨d=10∨d=11∨d=12)with rfl|rfl|rfl|rfl|rfl|rfl|rfl|rfl|rfl|rfl|rfl|rfl|rfl
 · exact zpm w
 · exact zpl w
 · exact zpk w
 · exact zpj w
 · exact zpi w
 · exact zph w
 · exact zpg w
 · exact zpf w
 · exact zpe w
 · exact zpd w
 · exact zm3 w
 · exact zm2 w
 · exact zm1 w
theorem zhy(d:Nat)(hd:d≤12)(h:IsP B b l w)(hB:B≤w.heap.size)(hl:l.length+(ind d).length≤1000000000):Calls Tryz.prog 73 #[.pointer (some ⟨b,0,none⟩),.int .i64 d] w fun e w'=>PrE B b w (l++ind d) e w':=by
 have H0:=qh (PrS.start h hB);have HI:=qh (zpc d hd);have HX:Hid (flatS [bytesOf (ind d)]=ind d):=by show _=_;simp[flatS,bytesOf]
 clear h hd;generalize ind d=D at *
 go_enter Tryz.func73, Tryz.ntmps73
 go_wp2_with (first
  | (go_at_call 98;(refine(HI.out _).mono ?_);rintro e w2 ⟨rfl,rfl⟩)
  | (go_at_call 70;(refine(zae H0.out _ sy [bytesOf D] 1 rfl (by decide) (by rw[HX.out];omega)).mono ?_);rintro e w3 h3;have H3:=qh ((H0.out.al _).st h3);obtain⟨rfl,_⟩:=h3))
 go_end0
 have h6:=H3.out.fin;rw[HX.out]at h6;exact h6
theorem zes(T:ByteArray)(r:Rf)(h:IsP B b l w)(hB:B≤w.heap.size)(hl:l.length+(nmd (tx T) r).length≤1000000000):Calls Tryz.prog 122 #[.pointer (some ⟨b,0,none⟩),.string T,.agg (rfC r).toArray] w fun e w'=>PrE B b w (l++nmd (tx T) r) e w':=by
 obtain⟨nm,at_⟩:=r
 unfold rfC
 dsimp only;have H0:=qh ((PrS.start h hB).al (.cells #[.string nm,.int .i64 at_] 36));clear h
 by_cases h:nm=zs
 · subst h
   have HV:Hid (nmd (tx T) ⟨zs,at_⟩=[]):=by show _=_;simp[nmd]
   rw[HV.out,List.append_nil];clear hl HV
   go_enter Tryz.func122, Tryz.ntmps122
   go_wp2
   go_end0
   exact H0.out.fin
 · have h2:(nm.toList == [])=false:=strl (by exact h)
   have HV:Hid (nmd (tx T) ⟨nm,at_⟩=flatS [T,nm]):=by show _=_;simp[nmd,flatS,h,tx]
   rw[HV.out]at hl ⊢;have HL:=qh hl;clear hl h HV
   go_enter Tryz.func122, Tryz.ntmps122
   go_wp2_with (go_at_call 70;(refine(zae H0.out _ sy [T,nm] 2 rfl (by decide) (by have:=HL.out;omega)).mono ?_);rintro e w3 h3;have H3:=qh ((H0.out.al _).st h3);obtain⟨rfl,_⟩:=h3)
   go_end0
   exact H3.out.fin
theorem ze9{F:Nat→Prop}(A:Option Addr)(rs:List Rf)(n ca:Nat)(hn:rs.length=n)(hn8:n≤1000000)(h:IsP B b l w)(hB:B≤w.heap.size)(hl:l.length+(prR rs).length≤1000000000)(hF:∀k,F k→k<B)(hA:RfsIn F w A rs):Calls Tryz.prog 123 #[.pointer (some ⟨b,0,none⟩),.slice A n ca] w fun e w'=>PrE B b w (l++prR rs) e w':=by
 have H0:=qh (PrS.start h hB);have HA:Hid (∀W,Below B w W→RfsIn F W A rs):=fun W hW=>hA.keep ⟨hW.size,fun k hk _=>hW.block k (hF k hk),fun _ h _=>h⟩
 have HN:=qh hn;have hpi:∀i (hi:i<rs.length),(rs.map fun r=>tx r.name)[i]? = some (tx rs[i].name):=fun i hi=>by rw[List.getElem?_map,ge9 hi];rfl
 have HSL:Hid (∀i,i≤n→l.length+(sepB [44,32] ((rs.map fun r=>tx r.name).take i)).length≤1000000000):=fun i hi=>by
  have h1:=zek [44,32] (rs.map fun r=>tx r.name) (n-i) i (by simp;omega)
  unfold prR at hl
  omega
 have HS1:Hid (∀i (hi:i<rs.length),0<i→sepB [44,32] ((rs.map fun r=>tx r.name).take (i+1))=sepB [44,32] ((rs.map fun r=>tx r.name).take i)++[44,32]++tx rs[i].name):=fun i hi h0=>zcm h0 (hpi i hi)
 have HS0:Hid (∀(hi:0<rs.length),sepB [44,32] ((rs.map fun r=>tx r.name).take 1)=tx rs[0].name):=fun hi=>zdq (hpi 0 hi)
 have HSN:Hid (sepB [44,32] ((rs.map fun r=>tx r.name).take n)=prR rs):=(by show _=_;rw[tk (by simp;omega)];rfl);clear h hA hn hl hpi;have hn9:(n:Int)≤1000000:=om
 go_enter Tryz.func123, Tryz.ntmps123
 go_wp2
 go_loopg [8] n (fun kk q wr=>∃i:Nat,i≤n∧kk=n-i∧q=.int .i64 (i:Int)∧Hid (PrS B b w (l++sepB [44,32] ((rs.map fun r=>tx r.name).take i)) wr))
 case atStart=>exact⟨0,by omega,by omega,rfl,by show PrS _ _ _ _ _;simpa[sepB] using H0.out⟩
 case round =>
  clear H0;obtain⟨i,hik,hk,rfl,HS⟩:=hrel
  by_cases hi:i<n
  · have hil:i<rs.length:=by have:=HN.out;omega
    obtain⟨b1,o1,rfl,hb1,x1,y1⟩:=zep (HA.out wr HS.out.bl) i hil;have hii:(i:Int)<(n:Int):=om;have HSI:=qh (HS1.out i hil);have HS00:=HS0.out om;have hget:i=0→rs[0]'om=rs[i]:=fun h=>by subst h;rfl
    have HLI:=qh (HSL.out (i+1) hi);generalize rs[i]=r at *;obtain⟨E,E2⟩:=r;dsimp only at *;have HZ1:Hid (Blk (wr.alloc (.cells #[.string E,.int .i64 E2] 36)) wr.heap.size 36 [.string E,.int .i64 E2]∧b<wr.heap.size):=⟨Blk.new _ _ _,HS.out.p.lt⟩;have HS2:=qh (HS.out.al (.cells #[.string E,.int .i64 E2] 36))
    by_cases h0:i=0
    · have HE1:Hid (sepB [44,32] ((rs.map fun r=>tx r.name).take 1)=tx E):=HS00.trans (by rw[hget h0])
      clear HS00 hget HA HS0 HS1 HSL;subst h0;simp only[Nat.zero_mul,Nat.add_zero,Nat.zero_add]at x1 y1
      go_wp2_with (go_at_call 70;(refine(zae HS2.out _ sy [E] 1 rfl (by decide) (by have:=HLI.out;rw[HE1.out]at this;simp[flatS,sepB,tx]at this ⊢;omega)).mono ?_);rintro e w3 h3;have H3:=qh ((HS2.out.al _).st h3);obtain⟨rfl,_⟩:=h3)
      have H6:Hid (PrS B b w (l++sepB [44,32] ((rs.map fun r=>tx r.name).take 1)) w3):=by
       have h6:=H3.out
       show PrS B b w _ w3
       rw[HE1.out]
       simpa[sepB,flatS,tx] using h6
      go_roundg (n-1)
      case measure=>omega
      case rel=>exact⟨1,by omega,by omega,by simp,H6⟩
    · have hi0:(0:Int)<(i:Int):=om
      clear HS00 hget HA HS0 HS1 HSL;rw[←Nat.add_assoc]at y1
      go_wp2_with (first
       | (go_at_call 70;(refine(zae H4.out _ sy [E] 1 rfl (by decide) (by have h7:=HLI.out;rw[HSI.out om]at h7;simp[flatS,tx]at h7 ⊢;omega)).mono ?_);rintro r w5 h5;have H5:=qh ((H4.out.al _).st h5);obtain⟨rfl,_⟩:=h5)
       | (go_at_call 70;(refine(zae HS2.out _ sy [{ data:=#[44,32] }] 1 rfl (by decide) (by have h7:=HLI.out;rw[HSI.out om]at h7;simp[flatS]at h7 ⊢;omega)).mono ?_);rintro r w4 h4;have H4:=qh ((HS2.out.al _).st h4);have HZ4:=qh (h4.2.2.2.blk (HZ1.out.1.alloc _) (by have:=HZ1.out.2;omega) (by decide));have n0:w4.cell? ⟨wr.heap.size,0,none⟩=some (.string E):=HZ4.out.cell 0;have n5:=HZ4.out.lt;obtain⟨rfl,_⟩:=h4))
      have H6:Hid (PrS B b w (l++sepB [44,32] ((rs.map fun r=>tx r.name).take (i+1))) w5):=by
       have h6:=H5.out
       show PrS B b w _ w5
       rw[HSI.out om];rw[show l++(sepB [44,32] ((rs.map fun r=>tx r.name).take i)++[44,32]++tx E)=l++sepB [44,32] ((rs.map fun r=>tx r.name).take i)++flatS [{ data:=#[44,32] }]++flatS [E] by simp[flatS,tx,List.append_assoc]];exact h6
      go_roundg (n-(i+1))
      case measure=>omega
      case rel=>exact⟨i+1,by omega,by omega,by simp,H6⟩
  · have hii:¬(i:Int)<(n:Int):=om
    obtain rfl:i=n:=om;clear HA HS0 HS1 HSL;go_wp2
    go_end0
    have h7:=HS.out.fin;rw[HSN.out]at h7;exact h7
theorem zkb{F:Nat→Prop}(A:Option Addr)(rs:List Rf)(n ca:Nat)(hn:rs.length=n)(hn8:n≤1000000)(h:IsP B b l w)(hB:B≤w.heap.size)(hl:l.length+(t_via++prR rs).length≤1000000000)(hF:∀k,F k→k<B)(hA:RfsIn F w A rs):Calls Tryz.prog 121 #[.pointer (some ⟨b,0,none⟩),.slice A n ca] w fun e w'=>PrE B b w (l++(t_via++prR rs)) e w':=by
 have H0:=qh (PrS.start h hB)
 have HR:Hid (∀W,PrS B b w (l++flatS [{ data:=#[32,118,105,97,32] }]) W→Calls Tryz.prog 123 #[.pointer (some ⟨b,0,none⟩),.slice A n ca] W fun e w'=>PrE B b W (l++flatS [{ data:=#[32,118,105,97,32] }]++prR rs) e w'):=fun W hW =>
  ze9 A rs n ca hn hn8 hW.p (Nat.le_trans hW.hB hW.bl.size) (by simp[flatS]at hl ⊢;omega) hF (hA.keep ⟨hW.bl.size,fun k hk _=>hW.bl.block k (hF k hk),fun _ h _=>h⟩)
 have HL:=qh hl;clear h hA hn hl
 go_enter Tryz.func121, Tryz.ntmps121
 go_wp2_with (first
  | (go_at_call 123;(refine(HR.out _ H3.out).mono ?_);rintro e w4 h4;have H4:=qh (H3.out.st h4);obtain⟨rfl,_⟩:=h4)
  | (go_at_call 70;(refine(zae H0.out _ sy [{ data:=#[32,118,105,97,32] }] 1 rfl (by decide) (by have:=HL.out;simp[flatS]at this ⊢;omega)).mono ?_);rintro e w3 h3;have H3:=qh ((H0.out.al _).st h3);obtain⟨rfl,_⟩:=h3))
 go_end0
 have h6:=H4.out.fin;rw[show l++flatS [{ data:=#[32,118,105,97,32] }]++prR rs=l++(t_via++prR rs) by simp[flatS,List.append_assoc]]at h6;exact h6
theorem za3{F:Nat→Prop}(hF:∀k,F k→k<B)(hW:Below B w w'):Keep F F w w':=⟨hW.size,fun k hk _=>hW.block k (hF k hk),fun _ h _=>h⟩
theorem znk{F:Nat→Prop}{e:Ex}(hx:ExOk e)(M:ByteArray)(m:UInt8)(hM:tx M=[m])(a:Option Addr × Nat)(h:IsP B b l w)(hB:B≤w.heap.size)(hl:l.length+(prAt m e).length≤1000000000)(hF:∀k,F k→k<B)(hA:ArgsIn F w a.1 e.args)(hT:Tab B w):
 Calls Tryz.prog 72 #[.pointer (some ⟨b,0,none⟩),.string M,.agg (exC e a).toArray] w fun r w'=>PrE B b w (l++prAt m e) r w':=by
 have H0:=qh ((PrS.start h hB).al (.cells (exC e a).toArray 39))
 have HX:Hid (∀(q:Bool) (l:List UInt8) W,IsP B b l W→B≤W.heap.size→l.length+(par q (prE e)).length≤1000000000→Below B w W→Calls Tryz.prog 95 #[.pointer (some ⟨b,0,none⟩),.agg (exC e a).toArray,.bool q] W fun r w'=>PrE B b W (l++par q (prE e)) r w'):=fun q l W h1 h2 h3 hW =>
  zdi e a (zc6 hx a) q h1 h2 h3 hF (hA.keep (za3 hF hW)) (hT.mv hW)
 have HZ:Hid (Blk (w.alloc (.cells (exC e a).toArray 39)) w.heap.size 39 (exC e a)∧b<w.heap.size):=⟨Blk.new _ _ _,h.lt⟩;have HM:Hid (flatS [M]=[m]):=by show _=_;rw[←hM];simp[flatS,tx]
 clear h hA hx hT hM
 unfold prAt at *
 generalize hp:prE e=P at *;clear hp
 unfold exC at *
 generalize e.op=op at *;generalize e.args.length=q at *;generalize e.num=n1 at *;generalize e.text=n2 at *;generalize e.at_=n3 at *
 by_cases h0:op=zs
 · subst h0
   rw[if_pos rfl,List.append_nil];clear hl HX HZ HM
   go_enter Tryz.func72, Tryz.ntmps72
   go_wp2
   go_end0
   exact H0.out.fin
 rw[if_neg h0]at hl ⊢;have s0:(op.toList == [])=false:=strl h0
 by_cases h1:op=k_number
 · subst h1
   simp only[decide_true,Bool.true_or,Bool.not_true]at hl ⊢;have HL:=qh hl;clear hl
   go_enter Tryz.func72, Tryz.ntmps72
   go_wp2_with (first
    | (go_at_call 95;(refine(HX.out false _ _ (by exact H3.out.p) (by exact Nat.le_trans H3.out.hB H3.out.bl.size) (by have:=HL.out;rw[HM.out];simp at this ⊢;omega) (by exact H3.out.bl)).mono ?_);rintro r w4 h4;have H4:=qh (H3.out.st h4);obtain⟨rfl,_⟩:=h4)
    | (go_at_call 70;(refine(zae H0.out _ sy [M] 1 rfl (by decide) (by have:=HL.out;rw[HM.out];simp at this ⊢;omega)).mono ?_);rintro r w3 h3;have H3:=qh ((H0.out.al _).st h3);have HZ3:=qh (h3.2.2.2.blk (HZ.out.1.alloc _) (by have:=HZ.out.2;omega) (by decide));obtain⟨n0,n1,n2,n3,n4⟩:=Blk.five HZ3.out;have n5:=HZ3.out.lt;obtain⟨rfl,_⟩:=h3))
   go_end0
   have h6:=H4.out.fin;rw[show l++flatS [M]++par false P=l++(m :: par false P) by rw[HM.out];simp[List.append_assoc]]at h6;exact h6
 · have s1:(op.toList == [110,117,109,98,101,114])=false:=strl h1
   by_cases h2:op=k_name
   · subst h2
     have HD:Hid ((!(decide ((k_name:ByteArray)=k_number)|| decide ((k_name:ByteArray)=k_name)))=false):=by show _=_;decide
     rw[HD.out]at hl ⊢;clear HD h1;have HL:=qh hl;clear hl
     go_enter Tryz.func72, Tryz.ntmps72
     go_wp2_with (first
      | (go_at_call 95;(refine(HX.out false _ _ (by exact H3.out.p) (by exact Nat.le_trans H3.out.hB H3.out.bl.size) (by have:=HL.out;rw[HM.out];simp at this ⊢;omega) (by exact H3.out.bl)).mono ?_);rintro r w4 h4;have H4:=qh (H3.out.st h4);obtain⟨rfl,_⟩:=h4)
      | (go_at_call 70;(refine(zae H0.out _ sy [M] 1 rfl (by decide) (by have:=HL.out;rw[HM.out];simp at this ⊢;omega)).mono ?_);rintro r w3 h3;have H3:=qh ((H0.out.al _).st h3);have HZ3:=qh (h3.2.2.2.blk (HZ.out.1.alloc _) (by have:=HZ.out.2;omega) (by decide));obtain⟨n0,n1,n2,n3,n4⟩:=Blk.five HZ3.out;have n5:=HZ3.out.lt;obtain⟨rfl,_⟩:=h3))
     go_end0
     have h6:=H4.out.fin;rw[show l++flatS [M]++par false P=l++(m :: par false P) by rw[HM.out];simp[List.append_assoc]]at h6;exact h6
   · have s2:(op.toList == [110,97,109,101])=false:=strl h2
     have HD:Hid ((!(decide (op=k_number)|| decide (op=k_name)))=true):=by show _=_;simp[h1,h2]
     rw[HD.out]at hl ⊢;clear HD h1 h2;have HL:=qh hl;clear hl
     go_enter Tryz.func72, Tryz.ntmps72
     go_wp2_with (first
      | (go_at_call 95;(refine(HX.out true _ _ (by exact H3.out.p) (by exact Nat.le_trans H3.out.hB H3.out.bl.size) (by have:=HL.out;rw[HM.out];simp at this ⊢;omega) (by exact H3.out.bl)).mono ?_);rintro r w4 h4;have H4:=qh (H3.out.st h4);obtain⟨rfl,_⟩:=h4)
      | (go_at_call 70;(refine(zae H0.out _ sy [M] 1 rfl (by decide) (by have:=HL.out;rw[HM.out];simp at this ⊢;omega)).mono ?_);rintro r w3 h3;have H3:=qh ((H0.out.al _).st h3);have HZ3:=qh (h3.2.2.2.blk (HZ.out.1.alloc _) (by have:=HZ.out.2;omega) (by decide));obtain⟨n0,n1,n2,n3,n4⟩:=Blk.five HZ3.out;have n5:=HZ3.out.lt;obtain⟨rfl,_⟩:=h3))
     go_end0
     have h6:=H4.out.fin;rw[show l++flatS [M]++par true P=l++(m :: par true P) by rw[HM.out];simp[List.append_assoc]]at h6;exact h6
end
end
section
section
variable{ts:List Lx.Tok}(HT:Ends ts)(hT:TkOk ts)(hn:ts.length≤9000)
include HT hT hn
theorem zsj{kind:ByteArray}{at_:Int}{s:PS}(hk:kind∈[k_send,k_split,k_cover,k_wait,k_block,k_retry,k_every])(hp:s.pa=0)(h:(lineP ts kind at_ s).2.ok=true):
 WfS ts (lineP ts kind at_ s).1∧bd (lineP ts kind at_ s).1=0∧∀d,(prSt (lineP ts kind at_ s).1 d).length+60000*s.i≤60000*(lineP ts kind at_ s).2.i+200:=by
 simp only[List.mem_cons,List.not_mem_nil,or_false]at hk
 unfold lineP at h ⊢
 rcases hk with rfl|rfl|rfl|rfl|rfl|rfl|rfl
 · rw[if_pos rfl]at h ⊢
   dsimp only at h ⊢;have g1:=tag_g (ts:=ts) HT (withP ts (viaP ts false (EX ts s).2).2).2;have g2:=zl0 (ts:=ts) HT (viaP ts false (EX ts s).2).2;have g3:=via_g (ts:=ts) HT false (EX ts s).2;have k1:=g1.okof h;have k2:=g2.okof k1;have k3:=g3.okof k2;obtain⟨e1,e2⟩:=EX_ec HT hT hn k3 hp;obtain⟨v1,v2,v3,v4,v5⟩:=zjg HT hT hn false k2;obtain⟨r,hr⟩:=v4 rfl;obtain⟨w1,w2⟩:=zkh hT (T:=k_with) (w:=t_with) (by decide) k1;obtain⟨t1,t2⟩:=zkh hT (T:=k_as) (w:=t_as) (by decide) h
   change OptN ts (withP ts (viaP ts false (EX ts s).2).2).1 at w1
   change OptN ts (tagP ts (withP ts (viaP ts false (EX ts s).2).2).2).1 at t1
   change (nmd t_with (withP ts (viaP ts false (EX ts s).2).2).1).length+60000*(viaP ts false (EX ts s).2).2.i≤60000*(withP ts (viaP ts false (EX ts s).2).2).2.i at w2
   change (nmd t_as (tagP ts (withP ts (viaP ts false (EX ts s).2).2).2).1).length+60000*(withP ts (viaP ts false (EX ts s).2).2).2.i≤60000*(tagP ts (withP ts (viaP ts false (EX ts s).2).2).2).2.i at t2
   refine⟨?_,?_,fun d=>?_⟩
   · rw[hr]at v3 ⊢
     exact .send _ _ _ _ _ e1 (v3 r sy) w1 t1
   · rw[bd,if_neg (by decide)]
   · rw[prSt,if_neg (by decide),if_neg (by decide),if_neg (by decide)]
     unfold prLine
     rw[if_pos rfl];simp only[List.length_append,List.length_cons,List.length_nil];omega
 · rw[if_neg (by decide),if_pos rfl]at h ⊢
   dsimp only at h ⊢;have g1:=tag_g (ts:=ts) HT (viaP ts true (EX ts s).2).2;have g3:=via_g (ts:=ts) HT true (EX ts s).2;have k2:=g1.okof h;have k3:=g3.okof k2;obtain⟨e1,e2⟩:=EX_ec HT hT hn k3 hp;obtain⟨v1,v2,v3,_,v5⟩:=zjg HT hT hn true k2;obtain⟨t1,t2⟩:=zkh hT (T:=k_as) (w:=t_as) (by decide) h
   change OptN ts (tagP ts (viaP ts true (EX ts s).2).2).1 at t1
   change (nmd t_as (tagP ts (viaP ts true (EX ts s).2).2).1).length+60000*(viaP ts true (EX ts s).2).2.i≤60000*(tagP ts (viaP ts true (EX ts s).2).2).2.i at t2
   refine⟨.split _ _ _ _ e1 v1 v2 v3 t1,?_,fun d=>?_⟩
   · rw[bd,if_neg (by decide)]
   · rw[prSt,if_neg (by decide),if_neg (by decide),if_neg (by decide)]
     unfold prLine
     rw[if_neg (by decide),if_pos rfl];simp only[List.length_append,List.length_cons,List.length_nil];omega
 · rw[if_neg (by decide),if_neg (by decide),if_pos rfl]at h ⊢
   dsimp only at h ⊢;obtain⟨v1,v2⟩:=zc4 hT h;refine⟨.cover _ _ v1,?_,fun d=>?_⟩
   · rw[bd,if_neg (by decide)]
   · rw[prSt,if_neg (by decide),if_neg (by decide),if_neg (by decide)]
     unfold prLine
     rw[if_neg (by decide),if_neg (by decide),if_pos rfl];simp only[prR,sepB,List.map_cons,List.map_nil,List.length_append,List.length_cons,List.length_nil];omega
 · rw[if_neg (by decide),if_neg (by decide),if_neg (by decide),if_pos rfl]at h ⊢
   dsimp only at h ⊢;obtain⟨e1,e2⟩:=EX_ec HT hT hn h hp;refine⟨.wait _ _ e1,?_,fun d=>?_⟩
   · rw[bd,if_neg (by decide)]
   · rw[prSt,if_neg (by decide),if_neg (by decide),if_neg (by decide)]
     unfold prLine
     rw[if_neg (by decide),if_neg (by decide),if_neg (by decide),if_pos rfl];simp only[List.length_append,List.length_cons,List.length_nil];omega
 · rw[if_neg (by decide),if_neg (by decide),if_neg (by decide),if_neg (by decide),if_pos rfl]at h ⊢
   dsimp only at h ⊢;have g3:=via_g (ts:=ts) HT false (refP ts s).2;have k3:=g3.okof h;obtain⟨n1,n2⟩:=zc4 hT k3;obtain⟨v1,v2,v3,v4,v5⟩:=zjg HT hT hn false h;obtain⟨r,hr⟩:=v4 rfl;refine⟨?_,?_,fun d=>?_⟩
   · rw[hr]at v3 ⊢
     exact .block _ _ _ n1 (v3 r sy)
   · rw[bd,if_neg (by decide)]
   · rw[prSt,if_neg (by decide),if_neg (by decide),if_neg (by decide)]
     unfold prLine
     rw[if_neg (by decide),if_neg (by decide),if_neg (by decide),if_neg (by decide),if_pos rfl];simp only[List.length_append,List.length_cons,List.length_nil];omega
 · rw[if_neg (by decide),if_neg (by decide),if_neg (by decide),if_neg (by decide),if_neg (by decide),if_pos rfl]at h ⊢
   dsimp only at h ⊢;generalize hA:EX ts s=A at h ⊢;generalize hB:EX ts (takeP ts k_every A.2)=B at h ⊢;generalize hC:EX ts (takeP ts k_send B.2)=C at h ⊢;generalize hV:viaP ts false C.2=V at h ⊢;have k1:=(tag_g (ts:=ts) HT V.2).okof h;rw[←hV]at k1;have k2:=(via_g (ts:=ts) HT false C.2).okof k1;rw[←hC]at k2;have k3:=(za1 (ts:=ts) HT 14 (takeP ts k_send B.2)).okof k2;obtain⟨k4,x1⟩:=zbv k3;rw[←hB]at k4;have k5:=(za1 (ts:=ts) HT 14 (takeP ts k_every A.2)).okof k4;obtain⟨k6,x2⟩:=zbv k5;have pa1:(takeP ts k_every A.2).pa=0:=by rw[(zas (ts:=ts) HT _ _).pa,←hA,(za1 (ts:=ts) HT 14 s).pa,hp]
   have pa2:(takeP ts k_send B.2).pa=0:=by rw[(zas (ts:=ts) HT _ _).pa,←hB,(za1 (ts:=ts) HT 14 _).pa,pa1]
   rw[←hA]at k6;obtain⟨a1,a2⟩:=EX_ec HT hT hn k6 hp;obtain⟨b1,b2⟩:=EX_ec HT hT hn k4 pa1;obtain⟨c1,c2⟩:=EX_ec HT hT hn k2 pa2;obtain⟨v1,v2,v3,v4,v5⟩:=zjg HT hT hn false k1;rw[hA]at a1 a2;rw[hB]at b1 b2;rw[hC]at c1 c2;rw[hV]at v1 v2 v3 v4 v5;obtain⟨r,hr⟩:=v4 rfl;obtain⟨t1,t2⟩:=zkh hT (T:=k_as) (w:=t_as) (by decide) h
   change OptN ts (tagP ts V.2).1 at t1
   change (nmd t_as (tagP ts V.2).1).length+60000*V.2.i≤60000*(tagP ts V.2).2.i at t2
   refine⟨?_,?_,fun d=>?_⟩
   · rw[hr]at v3 ⊢
     exact .retry _ _ _ _ _ _ a1 b1 c1 (v3 r sy) t1
   · rw[bd,if_neg (by decide)]
   · rw[prSt,if_neg (by decide),if_neg (by decide),if_neg (by decide)]
     unfold prLine
     rw[if_neg (by decide),if_neg (by decide),if_neg (by decide),if_neg (by decide),if_neg (by decide),if_pos rfl];simp only[List.length_append,List.length_cons,List.length_nil];omega
 · rw[if_neg (by decide),if_neg (by decide),if_neg (by decide),if_neg (by decide),if_neg (by decide),if_neg (by decide),if_pos rfl]at h ⊢
   dsimp only at h ⊢;generalize hA:EX ts s=A at h ⊢;generalize hB:EX ts (takeP ts k_times A.2)=B at h ⊢;obtain⟨v1,v2⟩:=zc4 hT h;have k3:=(ref_g (ts:=ts) HT (takeP ts k_cover B.2)).okof h;obtain⟨k4,x1⟩:=zbv k3;rw[←hB]at k4;have k5:=(za1 (ts:=ts) HT 14 (takeP ts k_times A.2)).okof k4;obtain⟨k6,x2⟩:=zbv k5;have pa1:(takeP ts k_times A.2).pa=0:=by rw[(zas (ts:=ts) HT _ _).pa,←hA,(za1 (ts:=ts) HT 14 s).pa,hp]
   rw[←hA]at k6;obtain⟨a1,a2⟩:=EX_ec HT hT hn k6 hp;obtain⟨b1,b2⟩:=EX_ec HT hT hn k4 pa1;rw[hA]at a1 a2;rw[hB]at b1 b2;refine⟨.every _ _ _ _ a1 b1 v1,?_,fun d=>?_⟩
   · rw[bd,if_neg (by decide)]
   · rw[prSt,if_neg (by decide),if_neg (by decide),if_neg (by decide)]
     unfold prLine
     rw[if_neg (by decide),if_neg (by decide),if_neg (by decide),if_neg (by decide),if_neg (by decide),if_neg (by decide),if_pos rfl];simp only[prR,sepB,List.map_cons,List.map_nil,List.length_append,List.length_cons,List.length_nil];omega
end
section
variable{ts:List Lx.Tok}(HT:Ends ts)(hT:TkOk ts)(hn:ts.length≤9000){st:PS→St × PS}(HS:∀s,Pg ts s (st s).2){q:Int}(hs:∀s,s.pa=0→s.bo=q+1→s.bo≤12→Sc ts s (st s).1 (st s).2)
include HS hs
theorem zkv:∀(k:Nat) (l:List St) (s:PS),s.pa=0→s.bo=q+1→s.bo≤12→(∀x∈l,WfS ts x∧(bd x:Int)+s.bo≤12)→(bodyLoop ts st k l s).2.ok=true →
 (bodyLoop ts st k l s).1.length≤l.length+k∧(∀x∈(bodyLoop ts st k l s).1,WfS ts x∧(bd x:Int)+s.bo≤12)∧∀d:Nat,(d:Int)=s.bo→(prSs (bodyLoop ts st k l s).1 d).length+60000*s.i≤(prSs l d).length+60000*(bodyLoop ts st k l s).2.i
 | 0,l,s,_,_,_,hl,_=>⟨by simp[bodyLoop],hl,fun d _=>by simp[bodyLoop]⟩
 | k+1,l,s,hp,hb,hb2,hl,h=>by
  rw[bodyLoop]at h ⊢
  split at h
  · rename_i h1
    rw[if_pos h1];have hk:=(zdn HS k (l++[(st s).1]) (st s).2).okof h;obtain⟨w1,w2,w3⟩:=hs s hp hb hb2 hk;have hbo:=(HS s).bo;have hpa:=(HS s).pa
    obtain⟨r2,r3,r4⟩:=zkv k (l++[(st s).1]) (st s).2 om om om (fun e he=>by
     rcases List.mem_append.1 he with he|he
     · have:=hl e he
       exact⟨this.1,by omega⟩
     · rw[List.mem_singleton.1 he];exact⟨w1,by omega⟩) h
    refine⟨by rw[la9,List.length_singleton]at r2;omega,fun e he=>⟨(r3 e he).1,by have:=(r3 e he).2;omega⟩,fun d hd=>?_⟩;have r5:=r4 d om;have w4:=w3 d hd;rw[zer,zgn,la9]at r5;omega
  · rename_i h1
    rw[if_neg h1];exact⟨by dsimp only;omega,hl,fun d _=>by dsimp only;omega⟩
include hn
theorem zgx{s:PS}(hp:s.pa=0)(hb:s.bo=q)(hb2:s.bo≤12)(h:(bodyP ts st s).2.ok=true):
 s.ok=true∧(bodyP ts st s).1.length≤10000∧(∀x∈(bodyP ts st s).1,WfS ts x)∧(bdL (bodyP ts st s).1:Int)+1+s.bo≤12∧∀d:Nat,(d:Int)=s.bo→(prSs (bodyP ts st s).1 (d+1)).length+120000+60000*s.i≤60000*(bodyP ts st s).2.i:=by
 unfold bodyP at h ⊢
 dsimp only at h ⊢
 change (takeP ts m_rbr _).ok=true at h
 obtain⟨h1,h2⟩:=zbv h;have h3:=(zdn HS _ _ _).okof h1
 change (takeP ts m_lbr _).ok=true at h3
 obtain⟨h4,h5⟩:=zbv h3;obtain⟨_,h6,h7⟩:=zey h3
 have hne:¬(sees ts [m_lbr] s && s.bo == 12)=true:=fun hc=>by
  rw[if_pos hc,zfk (by decide)]at h4
  cases h4
 rw[if_neg hne]at h1 h2 h3 h4 h5 h6 h7 ⊢;have hb12:s.bo≠12:=fun h5=>hne (by unfold sees;rw[h4,h6,h5];rfl)
 have hX0:(takeP ts m_lbr s).bo=s.bo∧(takeP ts m_lbr s).pa=0:=by rw[h7];exact⟨rfl,hp⟩
 obtain⟨X,hX⟩:∃X:PS,X = { takeP ts m_lbr s with bo:=(takeP ts m_lbr s).bo+1 }:=⟨_,rfl⟩;have hXb:X.bo=s.bo+1:=by rw[hX,←hX0.1]
 have hXp:X.pa=0:=by rw[hX];exact hX0.2
 have hXi:X.i=(takeP ts m_lbr s).i:=by rw[hX]
 rw[←hX]at h1 h2 ⊢;clear hX;obtain⟨r2,r3,r4⟩:=zkv HS hs (ts.length+2) [] X hXp om om sy h1;refine⟨h4,Nat.le_trans r2 (by simp;omega),fun x hx=>(r3 x hx).1,?_,fun d hd=>?_⟩
 · obtain⟨k,hk⟩:∃k:Nat,(k:Int)=12-(s.bo+1):=⟨(12-(s.bo+1)).toNat,by omega⟩
   have h8:=zof (n:=k) (fun x hx=>by have:=(r3 x hx).2;omega:∀x∈(bodyLoop ts st (ts.length+2) [] X).1,bd x≤k);omega
 · have r5:=r4 (d+1) om
   rw[show prSs [] (d+1)=[] by rw[prSs]]at r5;simp only[List.length_nil]at r5;omega
omit hn HS hs in
theorem zcv(d:Nat)(p:List UInt8):(prBody d p).length=p.length+2*d+4:=by simp[prBody,zcl];omega
include HT hT
theorem zou(s:PS)(hp:s.pa=0)(hb:s.bo=q)(hb2:s.bo≤12):Sc ts s (stmtG ts st s).1 (stmtG ts st s).2:=by
 unfold stmtG
 split
 · rename_i hten
   dsimp only
   have hin:bytesOf (pk ts s).text∈ten:=by
    unfold sees isOf at hten
    simp only[Bool.and_eq_true,zbz]at hten;exact hten.2.2
   generalize bytesOf (pk ts s).text=kind at hin ⊢;have hi:(nxt s).i=s.i+1:=rfl;have hpn:(nxt s).pa=0:=hp;have hbn:(nxt s).bo=s.bo:=rfl
   by_cases e1:kind=k_after
   · subst e1
     rw[if_pos rfl];dsimp only;intro h;have ga:=za1 (ts:=ts) HT 14 (nxt s);obtain⟨b1,b2,b3,b4,b5⟩:=zgx hn HS hs (by rw[ga.pa,hpn]) (by rw[ga.bo,hbn,hb]) (by rw[ga.bo,hbn];exact hb2) h;obtain⟨a1,a2⟩:=EX_ec HT hT hn b1 hpn;have hbo:(EX ts (nxt s)).2.bo=s.bo:=ga.bo;refine⟨.after _ _ _ a1 b2 b3,?_,fun d hd=>?_⟩
     · rw[bd,if_pos (.inl rfl),bdL]
       omega
     · have b6:=b5 d om
       rw[prSt,if_pos rfl];simp only[List.length_append,List.length_cons,List.length_nil,zcv,zcl];omega
   by_cases e2:kind=k_repeat
   · subst e2
     rw[if_neg (by decide),if_pos rfl];dsimp only;intro h;generalize hN:refP ts (nxt s)=N at h ⊢;have gn:=ref_g (ts:=ts) HT (nxt s);rw[hN]at gn;have ga:=za1 (ts:=ts) HT 14 N.2;have hNp:N.2.pa=0:=by rw[gn.pa,hpn]
     have hNb:N.2.bo=s.bo:=by rw[gn.bo,hbn]
     obtain⟨b1,b2,b3,b4,b5⟩:=zgx hn HS hs (by rw[ga.pa,hNp]) (by rw[ga.bo,hNb,hb]) (by rw[ga.bo,hNb];exact hb2) h;obtain⟨a1,a2⟩:=EX_ec HT hT hn b1 hNp;have k1:=ga.okof b1;rw[←hN]at k1;obtain⟨n1,n2⟩:=zc4 hT k1;rw[hN]at n1 n2;have hbo:(EX ts N.2).2.bo=s.bo:=by rw[←hNb];exact ga.bo
     refine⟨.repeat_ _ _ _ _ n1 a1 b2 b3,?_,fun d hd=>?_⟩
     · rw[bd,if_pos (.inr (.inl rfl)),bdL]
       omega
     · have b6:=b5 d om
       rw[prSt,if_neg (by decide),if_pos rfl];simp only[List.length_append,List.length_cons,List.length_nil,zcv,zcl];omega
   by_cases e3:kind=k_if
   · subst e3
     rw[if_neg (by decide),if_neg (by decide),if_pos rfl];dsimp only;intro h;generalize hN:refP ts (takeP ts k_acked (nxt s))=N at h ⊢;generalize hY:bodyP ts st N.2=Y at h ⊢;have gt:=zas (ts:=ts) HT k_acked (nxt s);have gn:=ref_g (ts:=ts) HT (takeP ts k_acked (nxt s));have gy:=zf8 (ts:=ts) HT HS N.2;rw[hN]at gn;rw[hY]at gy;have hNp:N.2.pa=0:=by rw[gn.pa,gt.pa,hpn]
     have hNb:N.2.bo=s.bo:=by rw[gn.bo,gt.bo,hbn]
     have hYp:Y.2.pa=0:=by rw[gy.pa,hNp]
     have hYb:Y.2.bo=s.bo:=by rw[gy.bo,hNb]
     have hYk:Y.2.ok=true:=by
      split at h
      · rename_i h9;exact zaj h9
      · exact h
     rw[←hY]at hYk;obtain⟨b1,b2,b3,b4,b5⟩:=zgx hn HS hs hNp (by rw[hNb,hb]) (by rw[hNb];exact hb2) hYk;rw[←hN]at b1;obtain⟨n1,n2⟩:=zc4 hT b1;obtain⟨_,n3⟩:=zbv ((ref_g (ts:=ts) HT _).okof b1);rw[hN]at n1 n2;rw[hY]at b2 b3 b4 b5
     by_cases h9:sees ts [k_else] Y.2=true
     · rw[if_pos h9]at h ⊢
       obtain⟨d1,d2,d3,d4,d5⟩:=zgx hn HS hs (s:=nxt Y.2) hYp (by show Y.2.bo=_;rw[hYb,hb]) (by show Y.2.bo≤_;rw[hYb];exact hb2) h;have hiY:(nxt Y.2).i=Y.2.i+1:=rfl;have hbY:(nxt Y.2).bo=s.bo:=hYb;refine⟨.if_ _ _ _ _ n1 b2 d2 b3 d3,?_,fun d hd=>?_⟩
       · rw[bd,if_pos (.inr (.inr rfl))]
         omega
       · have b6:=b5 d om
         have d6:=d5 d om;rw[prSt,if_neg (by decide),if_neg (by decide),if_pos rfl]
         have d7:(if (bodyP ts st (nxt Y.2)).1.isEmpty then [] else [32,101,108,115,101]++prBody d (prSs (bodyP ts st (nxt Y.2)).1 (d+1)):List UInt8).length≤9+2*d+(prSs (bodyP ts st (nxt Y.2)).1 (d+1)).length:=by
          split
          · simp
          · simp[zcv];omega
         simp only[List.length_append,List.length_cons,List.length_nil,zcv,zcl];omega
     · rw[if_neg h9]
       refine⟨.if_ _ _ _ _ n1 b2 sy b3 sy,?_,fun d hd=>?_⟩
       · rw[bd,if_pos (.inr (.inr rfl)),bdL]
         omega
       · have b6:=b5 d om
         rw[prSt,if_neg (by decide),if_neg (by decide),if_pos rfl];simp only[List.isEmpty_nil,if_true,List.length_append,List.length_cons,List.length_nil,zcv,zcl];omega
   · rw[if_neg e1,if_neg e2,if_neg e3]
     intro h;obtain⟨k1,k2⟩:=zbv h
     have hk:kind∈[k_send,k_split,k_cover,k_wait,k_block,k_retry,k_every]:=by
      unfold ten at hin
      simp only[List.mem_cons,List.not_mem_nil,or_false]at hin ⊢
      rcases hin with h|h|h|h|h|h|h|h|h|h <;> simp_all
     obtain⟨l1,l2,l3⟩:=zsj HT hT hn hk hpn k1;refine⟨l1,by rw[l2];omega,fun d hd=>?_⟩;have l4:=l3 d;dsimp only;rw[la9,zcl];omega
 · intro h
   rw[zfk (by decide)]at h
   cases h
end
section
variable{ts:List Lx.Tok}(HT:Ends ts)(hT:TkOk ts)(hn:ts.length≤9000)
include HT hT hn
theorem zmc:∀(k:Nat) (s:PS),s.pa=0→s.bo+k=14→s.bo≤12→Sc ts s (stmtP ts k s).1 (stmtP ts k s).2
 | 0,s,_,h,h2=>by omega
 | k+1,s,hp,h,h2=>zou (q:=13-(k:Int)) HT hT hn (zdo HT k) (fun s' h3 h4 h5=>zmc k s' h3 om h5) s hp om h2
theorem zl3:∀(k:Nat) (l:List St) (s:PS),s.pa=0→s.bo=0→(∀x∈l,WfS ts x∧bd x≤12)→(topLoop ts k l s).2.ok=true →
 (topLoop ts k l s).1.length≤l.length+k∧(∀x∈(topLoop ts k l s).1,WfS ts x∧bd x≤12)∧(prSs (topLoop ts k l s).1 0).length+60000*s.i≤(prSs l 0).length+60000*(topLoop ts k l s).2.i
 | 0,l,s,_,_,hl,_=>⟨by simp[topLoop],hl,by simp[topLoop]⟩
 | k+1,l,s,hp,hb,hl,h=>by
  rw[topLoop]at h ⊢
  split at h
  · rename_i h1
    rw[if_pos h1];have hk:=(zda HT k (l++[(stmtP ts 14 s).1]) (stmtP ts 14 s).2).okof h;obtain⟨w1,w2,w3⟩:=zmc HT hT hn 14 s hp om om hk;have g:=zdo (ts:=ts) HT 14 s;have hbo:=g.bo;have hpa:=g.pa
    obtain⟨r2,r3,r4⟩:=zl3 k (l++[(stmtP ts 14 s).1]) (stmtP ts 14 s).2 om om (fun e he=>by
     rcases List.mem_append.1 he with he|he
     · exact hl e he
     · rw[List.mem_singleton.1 he];exact⟨w1,by omega⟩) h
    refine⟨by rw[la9,List.length_singleton]at r2;omega,r3,?_⟩;have w4:=w3 0 om;rw[zer,zgn,la9]at r4;omega
  · rename_i h1
    rw[if_neg h1];exact⟨by dsimp only;omega,hl,by dsimp only;omega⟩
theorem znq{T:ByteArray}{m:UInt8}{s:PS}(hp:s.pa=0)(h:(if sees ts [T] s then atomP ts (exprP ts 14) (nxt s) else (zE,s)).2.ok=true):OptE ts (if sees ts [T] s then atomP ts (exprP ts 14) (nxt s) else (zE,s)).1∧(prAt m (if sees ts [T] s then atomP ts (exprP ts 14) (nxt s) else (zE,s)).1).length+60000*s.i≤60000*(if sees ts [T] s then atomP ts (exprP ts 14) (nxt s) else (zE,s)).2.i:=by
 split at h
 · rename_i h1
   rw[if_pos h1];have hi:(nxt s).i=s.i+1:=rfl;obtain⟨w1,w2,w3⟩:=zoh (q:=0) hT (za1 HT 14) (fun s' h3 h4=>zi9 HT hT hn 14 s' om h4) (nxt s) hp (by show s.pa≤12;omega) h
   · refine⟨.inr ⟨w1,by have:(nxt s).pa=0:=hp;omega⟩,?_⟩
     have h5:∀e,(prAt m e).length≤3+(prE e).length:=fun e=>by
      unfold prAt
      split
      · simp
      · have:=zfc (!(decide (e.op=k_number)|| decide (e.op=k_name))) (prE e)
        simp only[List.length_cons];omega
     have:=h5 (atomP ts (exprP ts 14) (nxt s)).1;omega
 · rename_i h1
   rw[if_neg h1];exact⟨.inl rfl,by simp[prAt,zE,Ex.op]⟩
theorem zkd{s:PS}(hp:s.pa=0)(h:(placeP ts s).2.ok=true):WfP ts (placeP ts s).1∧(prPl (placeP ts s).1).length+50000+60000*s.i≤60000*(placeP ts s).2.i:=by
 unfold placeP at h ⊢
 dsimp only at h ⊢;have gr:=ref_g (ts:=ts) HT s;generalize hR:refP ts s=R at h gr ⊢;have hRp:R.2.pa=0:=by rw[gr.pa,hp]
 generalize hD:(if sees ts [m_at] R.2=true then atomP ts (exprP ts 14) (nxt R.2) else (zE,R.2))=D at h ⊢
 have gd:Pg ts R.2 D.2:=by
  rw[←hD]
  split
  · rename_i h1
    exact(nxt_g (zan HT h1) (zaj h1)).trans (zif HT (za1 HT 14) _)
  · exact Pg.refl _
 have hDp:D.2.pa=0:=by rw[gd.pa,hRp]
 obtain⟨f1,f2⟩:=znq HT hT hn (m:=33) hDp h
 have hDk:D.2.ok=true:=by
  split at h
  · rename_i h9;exact zaj h9
  · exact h
 rw[←hD]at hDk;obtain⟨d1,d2⟩:=znq HT hT hn (m:=64) hRp hDk
 have hRk:R.2.ok=true:=by
  split at hDk
  · rename_i h9;exact zaj h9
  · exact hDk
 rw[←hR]at hRk;obtain⟨r1,r2⟩:=zc4 hT hRk;rw[hR]at r1 r2;rw[hD]at d1 d2;refine⟨⟨r1,d1,f1⟩,?_⟩
 unfold prPl
 simp only[List.length_append];omega
theorem zhx:∀(k:Nat) (l:List Pl) (s:PS),s.pa=0→l≠[]→(∀x∈l,WfP ts x)→(placeLoop ts k l s).2.ok=true →
 (placeLoop ts k l s).1≠[]∧(placeLoop ts k l s).1.length≤l.length+k∧(∀x∈(placeLoop ts k l s).1,WfP ts x)∧(sepB [32,62,32] ((placeLoop ts k l s).1.map prPl)).length+60000*s.i≤(sepB [32,62,32] (l.map prPl)).length+60000*(placeLoop ts k l s).2.i
 | 0,l,s,_,h0,hl,_=>⟨h0,by simp[placeLoop],hl,by simp[placeLoop]⟩
 | k+1,l,s,hp,h0,hl,h=>by
  rw[placeLoop]at h ⊢
  split at h
  · rename_i h1
    rw[if_pos h1];have hk:=(zbs HT k (l++[(placeP ts (nxt s)).1]) (placeP ts (nxt s)).2).okof h;have hpn:(nxt s).pa=0:=hp;have hi:(nxt s).i=s.i+1:=rfl;obtain⟨w1,w2⟩:=zkd HT hT hn hpn hk;have hpa:=(zb9 (ts:=ts) HT (nxt s)).pa
    obtain⟨r1,r2,r3,r4⟩:=zhx k (l++[(placeP ts (nxt s)).1]) (placeP ts (nxt s)).2 om sy (fun e he=>by
     rcases List.mem_append.1 he with he|he
     · exact hl e he
     · rw[List.mem_singleton.1 he];exact w1) h
    refine⟨r1,by rw[la9,List.length_singleton]at r2;omega,r3,?_⟩;rw[List.map_append,show [(placeP ts (nxt s)).1].map prPl=[prPl (placeP ts (nxt s)).1] from rfl,zdc _ _ _ (by simpa using h0)]at r4;simp only[List.length_append,List.length_cons,List.length_nil]at r4;omega
  · rename_i h1
    rw[if_neg h1];exact⟨h0,by dsimp only;omega,hl,by dsimp only;omega⟩
theorem zsv{s:PS}(hp:s.pa=0)(hk:sees ts [k_let,k_route] s=true)(h:(declP ts s).2.ok=true):WfD ts (declP ts s).1∧(prDc (declP ts s).1).length+60000*s.i≤60000*(declP ts s).2.i:=by
 have hkind:bytesOf (pk ts s).text=k_let∨bytesOf (pk ts s).text=k_route:=by
  unfold sees isOf at hk
  simp only[Bool.and_eq_true,zbz]at hk
  simpa using hk.2.2
 unfold declP at h ⊢
 dsimp only at h ⊢;have gr:=ref_g (ts:=ts) HT (nxt s);have hpn:(nxt s).pa=0:=hp;have hi:(nxt s).i=s.i+1:=rfl;generalize hR:refP ts (nxt s)=R at h gr ⊢;have gt:=zas (ts:=ts) HT m_eq R.2;have hTp:(takeP ts m_eq R.2).pa=0:=by rw[gt.pa,gr.pa,hpn]
 generalize bytesOf (pk ts s).text=kind at hkind h ⊢
 rcases hkind with rfl|rfl
 · rw[if_pos rfl]at h ⊢
   dsimp only at h ⊢;obtain⟨k1,k2⟩:=zbv h;obtain⟨e1,e2⟩:=EX_ec HT hT hn k1 hTp;have k3:=(za1 (ts:=ts) HT 14 (takeP ts m_eq R.2)).okof k1;obtain⟨k4,k5⟩:=zbv k3;rw[←hR]at k4;obtain⟨r1,r2⟩:=zc4 hT k4;rw[hR]at r1 r2;rw[show EX ts (takeP ts m_eq R.2)=exprP ts 14 (takeP ts m_eq R.2) from rfl]at e2;refine⟨⟨r1,.inl ⟨rfl,e1,rfl⟩⟩,?_⟩
   unfold prDc
   rw[if_pos rfl];simp only[List.length_append,List.length_cons,List.length_nil];omega
 · rw[if_neg (by decide)]at h ⊢
   dsimp only at h ⊢;obtain⟨k1,k2⟩:=zbv h;generalize hP:placeP ts (takeP ts m_eq R.2)=P at h k1 k2 ⊢;have gp:=zb9 (ts:=ts) HT (takeP ts m_eq R.2);rw[hP]at gp;have hPp:P.2.pa=0:=by rw[gp.pa,hTp]
   have k3:=(zbs (ts:=ts) HT _ _ _).okof k1;rw[←hP]at k3;obtain⟨p1,p2⟩:=zkd HT hT hn hTp k3;rw[hP]at p1 p2;obtain⟨q1,q2,q3,q4⟩:=zhx HT hT hn (ts.length+1) [P.1] P.2 hPp sy (by simpa using p1) k1;have k6:=gp.okof (by rw[←hP];exact k3);obtain⟨k4,k5⟩:=zbv k6;rw[←hR]at k4;obtain⟨r1,r2⟩:=zc4 hT k4;rw[hR]at r1 r2;refine⟨⟨r1,.inr ⟨rfl,rfl,q1,Nat.le_trans q2 (by simp;omega),q3⟩⟩,?_⟩
   unfold prDc
   dsimp only;rw[if_neg (by decide),if_pos rfl];have q5:(sepB [32,62,32] ([P.1].map prPl)).length=(prPl P.1).length:=by simp[sepB]
   simp only[List.length_append,List.length_cons,List.length_nil];omega
theorem zks:∀(k:Nat) (l:List Dc) (s:PS),s.pa=0→s.bo=0→(∀x∈l,WfD ts x)→(declLoop ts k l s).2.ok=true →
 (declLoop ts k l s).2.pa=0∧(declLoop ts k l s).2.bo=0∧(declLoop ts k l s).1.length≤l.length+k∧(∀x∈(declLoop ts k l s).1,WfD ts x)∧((declLoop ts k l s).1.flatMap prDc).length+60000*s.i≤(l.flatMap prDc).length+60000*(declLoop ts k l s).2.i
 | 0,l,s,hp,hb,hl,_=>⟨hp,hb,by simp[declLoop],hl,by simp[declLoop]⟩
 | k+1,l,s,hp,hb,hl,h=>by
  rw[declLoop]at h ⊢
  split at h
  · rename_i h1
    rw[if_pos h1];have hk:=(zdm HT k (l++[(declP ts s).1]) (declP ts s).2).okof h;obtain⟨w1,w2⟩:=zsv HT hT hn hp h1 hk;have g:=zob (ts:=ts) HT s (zan HT h1) (zaj h1)
    obtain⟨r0,r1,r2,r3,r4⟩:=zks k (l++[(declP ts s).1]) (declP ts s).2 (by rw[g.pa,hp]) (by rw[g.bo,hb]) (fun e he=>by
     rcases List.mem_append.1 he with he|he
     · exact hl e he
     · rw[List.mem_singleton.1 he];exact w1) h
    refine⟨r0,r1,by rw[la9,List.length_singleton]at r2;omega,r3,?_⟩;rw[List.flatMap_append,la9,show [(declP ts s).1].flatMap prDc=prDc (declP ts s).1 by simp]at r4;omega
  · rename_i h1
    rw[if_neg h1];exact⟨hp,hb,by dsimp only;omega,hl,by dsimp only;omega⟩
theorem znn(h0:0<ts.length):(∀d∈(parseT ts).1.decls,WfD ts d)∧(∀x∈(parseT ts).1.body,WfS ts x∧bd x≤12)∧(parseT ts).1.decls.length≤10000∧(parseT ts).1.body.length≤10000∧(prTop (parseT ts).1).length≤60000*ts.length:=by
 unfold parseT
 dsimp only
 split
 · rename_i h
   have gd:=zdm (ts:=ts) HT (ts.length+1) [] s0;have gt:=zda (ts:=ts) HT (ts.length+2) [] (declLoop ts (ts.length+1) [] s0).2;have k1:=gt.okof h;obtain⟨r0,r1,r2,r3,r4⟩:=zks HT hT hn (ts.length+1) [] s0 rfl rfl sy k1;obtain⟨t1,t2,t3⟩:=zl3 HT hT hn (ts.length+2) [] _ r0 r1 sy h;refine⟨r3,t2,Nat.le_trans r2 (by simp;omega),Nat.le_trans t1 (by simp;omega),?_⟩;have hlt:=gt.lt (gd.lt h0);have e0:(prSs [] 0).length=0:=by rw[prSs];rfl
   have e1:s0.i=0:=rfl
   unfold prTop
   simp only[List.flatMap_nil,List.length_nil]at r4;rw[la9];dsimp only;omega
 · exact⟨by simp,by simp,by simp,by simp,by simp[prTop,prSs]⟩
end
end
end Go.Proofs.YtafjkbbiaopemaaGreatDoor.Tr
namespace Go.Proofs.YtafjkbbiaopemaaGreatDoor.Lx
open Go.RowKit
theorem zk0:∀(f:Nat) (r acc:List UInt8) (b x:List UInt8),text f r acc=.inr (b,x)→b.length≤acc.length+r.length:=by
 intro f
 induction f with
 | zero=>intro r acc b x h;cases h
 | succ f ih =>
  intro r acc b x h
  unfold text at h
  cases r with
  | nil=>cases h
  | cons c r =>
   simp only[]at h
   split at h
   · injection h with h;injection h with h _;subst h;simp
   · split at h
     · split at h
       · cases h
       · have:=ih _ _ _ _ h
         rename_i m k hm
         have hk:1≤k:=by
          unfold esc at hm
          repeat' split at hm
          all_goals first|(injection hm with hm;injection hm with _ hm;omega)| cases hm
         simp at this ⊢
         omega
     · split at h
       · cases h
       · have:=ih _ _ _ _ h
         simp at this ⊢
         omega
theorem zdb{p:UInt8→Bool}: ∀l:List UInt8,(l.takeWhile p).length≤l.length
 | []=>by simp
 | c :: l=>by
  rw[List.takeWhile_cons]
  split
  · have:=zdb (p:=p) l
    simp only[List.length_cons];omega
  · simp
theorem zec{p:UInt8→Bool}: ∀l:List UInt8,∀c∈l.takeWhile p,p c=true
 | []=>by simp
 | a :: l=>by
  intro c hc;rw[List.takeWhile_cons]at hc
  split at hc
  · rcases List.mem_cons.1 hc with rfl|h
    · assumption
    · exact zec l c h
  · simp at hc
theorem zig{c:UInt8}{r:List UInt8}{k:Nat}{t:List UInt8}{m:Nat}{x:List UInt8}(h:token (c :: r)=.inr (k,t,m,x)):t.length≤(c :: r).length∧m≤1000000000:=by
 unfold token at h
 simp only[]at h
 split at h
 · split at h
   · cases h
   · injection h with h;injection h with _ h;injection h with h h2;injection h2 with h2 _
     subst h h2;exact⟨zdb _,by omega⟩
 · split at h
   · split at h
     · cases h
     · rename_i h9
       split at h
       · cases h
       · injection h with h;injection h with _ h;injection h with h h2;injection h2 with h2 _
         subst h h2;refine⟨zdb _,?_⟩;have h3:=zgp ((c :: r).takeWhile digit) (zec _)
         have h4:((c :: r).takeWhile digit).length≤9:=by
          simp only[Bool.or_eq_true,not_or]at h9;have:=h9.1;simp only[decide_eq_true_eq]at this;omega
         have h5:10^((c :: r).takeWhile digit).length≤10^9:=Nat.pow_le_pow_right om h4;have h6:(10:Nat)^9=1000000000:=by decide
         omega
   · split at h
     · split at h
       · cases h
       · rename_i b y hy
         injection h with h;injection h with _ h;injection h with h h2;injection h2 with h2 _
         subst h h2;have:=zk0 _ _ _ _ _ hy
         simp at this ⊢
         omega
     · split at h
       · injection h with h;injection h with _ h;injection h with h h2;injection h2 with h2 _
         subst h h2
         simp
       · cases h
theorem zil{n N f:Nat}{r:List UInt8}{acc out:List Tok}(hr:r.length≤N)(ha:∀t∈acc,t.text.length≤N∧t.num≤1000000000)(h:scanF n f r acc=.inr out):∀t∈out,t.text.length≤N∧t.num≤1000000000:=by
 induction f generalizing r acc with
 | zero=>simp[scanF]at h
 | succ f ih =>
  unfold scanF at h
  split at h
  · injection h with h
    subst h;intro t ht
    rcases List.mem_append.1 ht with ht|ht
    · exact ha t ht
    · rw[List.mem_singleton.1 ht]
      exact⟨Nat.zero_le _,Nat.zero_le _⟩
  · rename_i c r1 hsk
    split at h
    · cases h
    · rename_i k t m x htok
      have h1:=skip_len false r;rw[hsk]at h1;have h2:=token_len htok;obtain⟨h3,h4⟩:=zig htok;refine ih om (fun u hu=>?_) h
      rcases List.mem_append.1 hu with hu|hu
      · exact ha u hu
      · simp at hu
        subst hu;exact⟨by dsimp only;omega,h4⟩
theorem scan_short{s:List UInt8}{ts:List Tok}(h:scan s=((0,0),ts)):∀t∈ts,t.text.length≤8000∧t.num≤1000000000:=by
 unfold scan at h
 split at h
 · injection h with h;injection h with h;omega
 · rename_i h8
   split at h
   · injection h with h;injection h with h;omega
   · rename_i us hs
     injection h with _ h
     subst h;exact zil om sy hs
end Go.Proofs.YtafjkbbiaopemaaGreatDoor.Lx
namespace Go.Proofs.YtafjkbbiaopemaaGreatDoor.Tr
open Go.RowKit
theorem tk_ok{s:List UInt8}{ts:List Lx.Tok}(h:Lx.scan s=((0,0),ts)):TkOk ts:=by
 intro i
 unfold tokAt
 rcases Nat.lt_or_ge i ts.length with h1|h1
 · rw[ge9 h1]
   exact Lx.scan_short h _ (List.getElem_mem h1)
 · rw[List.getElem?_eq_none h1]
   exact⟨Nat.zero_le _,Nat.zero_le _⟩
theorem zke(s:List UInt8):∃ts,TkOk ts∧(∀d∈(parse s).1.decls,WfD ts d)∧(∀x∈(parse s).1.body,WfS ts x∧bd x≤12)∧(parse s).1.decls.length≤10000∧(parse s).1.body.length≤10000∧(prTop (parse s).1).length≤500000000:=by
 rcases hR:Lx.scan s with ⟨⟨p,q⟩,ts⟩
 have hZ:∃ts,TkOk ts∧(∀d∈(⟨[],[]⟩:Sr).decls,WfD ts d)∧(∀x∈(⟨[],[]⟩:Sr).body,WfS ts x∧bd x≤12)∧(⟨[],[]⟩:Sr).decls.length≤10000∧(⟨[],[]⟩:Sr).body.length≤10000∧(prTop (⟨[],[]⟩:Sr)).length≤500000000 :=
  ⟨[],fun i=>⟨Nat.zero_le _,Nat.zero_le _⟩,by simp,by simp,by simp,by simp,by simp[prTop,prSs]⟩
 unfold parse
 rw[hR];dsimp only
 split
 · rename_i hp
   subst hp
   have hq:q=0:=by
    rcases Lx.scan_cases s with ⟨p',q',h1,h2⟩|⟨us,h1,_⟩
    · rw[hR]at h1
      injection h1 with h3
      injection h3 with h3 h4
      omega
    · rw[hR]at h1
      injection h1 with h3
      injection h3
   subst hq;obtain⟨hE,h0,hn,_⟩:=zee hR;have hT:=tk_ok hR;obtain⟨r1,r2,r3,r4,r5⟩:=znn hE hT om h0;exact⟨ts,hT,r1,r2,r3,r4,by omega⟩
 · exact hZ
end Go.Proofs.YtafjkbbiaopemaaGreatDoor.Tr
