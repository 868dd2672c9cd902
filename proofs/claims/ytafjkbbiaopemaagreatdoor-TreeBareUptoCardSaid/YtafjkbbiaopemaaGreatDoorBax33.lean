/- Part of the proof. -/
import Derived.Test.YtafjkbbiaopemaaGreatDoorBax32
set_option linter.all false
set_option maxRecDepth 100000
set_option maxHeartbeats 0
namespace Go.Proofs.YtafjkbbiaopemaaGreatDoor.Tr
open Go.RowKit
section
def ind(d:Nat):List UInt8:=List.replicate (2*d) 32
def nmd(w:List UInt8)(r:Rf):List UInt8:=if r.name=zs then [] else w++tx r.name
def prR(l:List Rf):List UInt8:=sepB [44,32] (l.map fun r=>tx r.name)
@[reducible] def t_via:List UInt8:=[32,118,105,97,32]
@[reducible] def t_with:List UInt8:=[32,119,105,116,104,32]
@[reducible] def t_as:List UInt8:=[32,97,115,32]
def prLine(kind:ByteArray)(name:Rf)(a b c:Ex)(routes:List Rf)(block tag:Rf):List UInt8 :=
 if kind=k_send then [115,101,110,100,32]++prE a++t_via++prR routes++nmd t_with block++nmd t_as tag
 else if kind=k_split then [115,112,108,105,116,32]++prE a++t_via++prR routes++nmd t_as tag
 else if kind=k_cover then [99,111,118,101,114,32]++prR routes
 else if kind=k_wait then [119,97,105,116,32]++prE a
 else if kind=k_block then [98,108,111,99,107,32]++tx name.name++t_via++prR routes
 else if kind=k_retry then [114,101,116,114,121,32]++prE a++[32,101,118,101,114,121,32]++prE b++[32,115,101,110,100,32]++prE c++t_via++prR routes++nmd t_as tag
 else if kind=k_every then [101,118,101,114,121,32]++prE a++[32,116,105,109,101,115,32]++prE b++[32,99,111,118,101,114,32]++prR routes
 else [63]
def prBody(d:Nat)(p:List UInt8):List UInt8:=[32,123,10]++p++ind d++[125]
mutual
def prSt:St→Nat→List UInt8
 | .mk kind _ name a b c routes block tag body els,d =>
  (if kind=k_after then [97,102,116,101,114,32]++prE a++prBody d (prSs body (d+1))
  else if kind=k_repeat then [114,101,112,101,97,116,32]++tx name.name++[32]++prE a++prBody d (prSs body (d+1))
  else if kind=k_if then [105,102,32,97,99,107,101,100,32]++tx tag.name++prBody d (prSs body (d+1))++(if els.isEmpty then [] else [32,101,108,115,101]++prBody d (prSs els (d+1)))
  else prLine kind name a b c routes block tag++[59])++[10]
def prSs:List St→Nat→List UInt8
 | [],_=>[]
 | s :: l,d=>ind d++prSt s d++prSs l d
end
def prAt(m:UInt8)(e:Ex):List UInt8:=if e.op=zs then [] else m :: par (!(decide (e.op=k_number)|| decide (e.op=k_name))) (prE e)
def prPl(p:Pl):List UInt8:=tx p.node.name++prAt 64 p.delay++prAt 33 p.flags
def prDc(d:Dc):List UInt8 :=
 (if d.kind=k_let then [108,101,116,32]++tx d.name.name++[32,61,32]++prE d.value
 else if d.kind=k_route then [114,111,117,116,101,32]++tx d.name.name++[32,61,32]++sepB [32,62,32] (d.places.map prPl)
 else [63])++[59,10]
def prTop(t:Sr):List UInt8:=t.decls.flatMap prDc++prSs t.body 0
theorem zd9(d:Nat):∀l:List St,prSs l d=l.flatMap fun s=>ind d++prSt s d
 | []=>by rw[prSs];rfl
 | s :: l=>by rw[prSs,zd9 d l];simp
theorem zea(d:Nat)(l m:List St):prSs (l++m) d=prSs l d++prSs m d:=by simp[zd9]
theorem zfu(d:Nat)(s:St):prSs [s] d=ind d++prSt s d:=by simp[zd9]
mutual
def bd:St→Nat
 | .mk kind _ _ _ _ _ _ _ _ body els=>if kind=k_after∨kind=k_repeat∨kind=k_if then 1+max (bdL body) (bdL els) else 0
def bdL:List St→Nat
 | []=>0
 | s :: l=>max (bd s) (bdL l)
end
theorem zlg{n:Nat}: ∀ {l:List St},(∀s∈l,bd s≤n)→bdL l≤n
 | [],_=>by rw[bdL];omega
 | s :: l,h=>by
  rw[bdL];exact Nat.max_le.2 ⟨h s sy,zlg fun x hx=>h x (by simp[hx])⟩
def NmOk(ts:List Lx.Tok)(t:ByteArray):Prop:=∃i,(tokAt ts i).kind=1∧t=bytesOf (tokAt ts i).text
abbrev WE(ts:List Lx.Tok)(e:Ex):Prop:=WfE ts e∧nd e≤12
def OptN(ts:List Lx.Tok)(r:Rf):Prop:=r=zR∨NmOk ts r.name
def OptE(ts:List Lx.Tok)(e:Ex):Prop:=e=zE∨(WfE ts e∧nd e+c4 e≤12)
def WfP(ts:List Lx.Tok)(p:Pl):Prop:=NmOk ts p.node.name∧OptE ts p.delay∧OptE ts p.flags
def WfD(ts:List Lx.Tok)(d:Dc):Prop:=NmOk ts d.name.name∧((d.kind=k_let∧WE ts d.value∧d.places=[])∨(d.kind=k_route∧d.value=zE∧d.places≠[]∧d.places.length≤10000∧∀p∈d.places,WfP ts p))
inductive WfS (ts:List Lx.Tok):St→Prop
 | send (at_:Int) (a:Ex) (r b t:Rf) (h1:WE ts a) (h2:NmOk ts r.name) (h3:OptN ts b) (h4:OptN ts t):WfS ts (.mk k_send at_ zR a zE zE [r] b t [] [])
 | split (at_:Int) (a:Ex) (rs:List Rf) (t:Rf) (h1:WE ts a) (h0:rs≠[]) (hl:rs.length≤10000) (h2:∀r∈rs,NmOk ts r.name) (h4:OptN ts t):WfS ts (.mk k_split at_ zR a zE zE rs zR t [] [])
 | cover (at_:Int) (r:Rf) (h2:NmOk ts r.name):WfS ts (.mk k_cover at_ zR zE zE zE [r] zR zR [] [])
 | wait (at_:Int) (a:Ex) (h1:WE ts a):WfS ts (.mk k_wait at_ zR a zE zE [] zR zR [] [])
 | block (at_:Int) (n r:Rf) (h1:NmOk ts n.name) (h2:NmOk ts r.name):WfS ts (.mk k_block at_ n zE zE zE [r] zR zR [] [])
 | retry (at_:Int) (a b c:Ex) (r t:Rf) (h1:WE ts a) (h2:WE ts b) (h3:WE ts c) (h4:NmOk ts r.name) (h5:OptN ts t):WfS ts (.mk k_retry at_ zR a b c [r] zR t [] [])
 | every (at_:Int) (a b:Ex) (r:Rf) (h1:WE ts a) (h2:WE ts b) (h4:NmOk ts r.name):WfS ts (.mk k_every at_ zR a b zE [r] zR zR [] [])
 | after (at_:Int) (a:Ex) (y:List St) (h1:WE ts a) (hl:y.length≤10000) (hy:∀s∈y,WfS ts s):WfS ts (.mk k_after at_ zR a zE zE [] zR zR y [])
 | repeat_ (at_:Int) (n:Rf) (a:Ex) (y:List St) (h1:NmOk ts n.name) (h2:WE ts a) (hl:y.length≤10000) (hy:∀s∈y,WfS ts s):WfS ts (.mk k_repeat at_ n a zE zE [] zR zR y [])
 | if_ (at_:Int) (t:Rf) (y z:List St) (h1:NmOk ts t.name) (hl:y.length≤10000) (hm:z.length≤10000) (hy:∀s∈y,WfS ts s) (hz:∀s∈z,WfS ts s):WfS ts (.mk k_if at_ zR zE zE zE [] zR t y z)
inductive StOk:St→Prop
 | mk (kind:ByteArray) (at_:Int) (name:Rf) (a b c:Ex) (routes:List Rf) (block tag:Rf) (body els:List St) (ha:ExOk a) (hb:ExOk b) (hc:ExOk c) (hr:routes.length≤1000000) (hl:body.length≤1000000) (hm:els.length≤1000000)
     (hy:∀s∈body,StOk s) (hz:∀s∈els,StOk s):StOk (.mk kind at_ name a b c routes block tag body els)
def DcOk(d:Dc):Prop:=ExOk d.value∧d.places.length≤1000000∧∀p∈d.places,ExOk p.delay∧ExOk p.flags
section
variable{ts:List Lx.Tok}
theorem WfS.ok(hT:TkOk ts){s:St}(h:WfS ts s):StOk s:=by
 induction h with
 | send at_ a r b t h1 h2 h3 h4=>exact .mk _ _ _ _ _ _ _ _ _ _ _ (h1.1.ok hT) ExOk.zE ExOk.zE sy sy sy sy sy
 | split at_ a rs t h1 h0 hl h2 h4=>exact .mk _ _ _ _ _ _ _ _ _ _ _ (h1.1.ok hT) ExOk.zE ExOk.zE om sy sy sy sy
 | cover at_ r h2=>exact .mk _ _ _ _ _ _ _ _ _ _ _ ExOk.zE ExOk.zE ExOk.zE sy sy sy sy sy
 | wait at_ a h1=>exact .mk _ _ _ _ _ _ _ _ _ _ _ (h1.1.ok hT) ExOk.zE ExOk.zE sy sy sy sy sy
 | block at_ n r h1 h2=>exact .mk _ _ _ _ _ _ _ _ _ _ _ ExOk.zE ExOk.zE ExOk.zE sy sy sy sy sy
 | retry at_ a b c r t h1 h2 h3 h4 h5=>exact .mk _ _ _ _ _ _ _ _ _ _ _ (h1.1.ok hT) (h2.1.ok hT) (h3.1.ok hT) sy sy sy sy sy
 | every at_ a b r h1 h2 h4=>exact .mk _ _ _ _ _ _ _ _ _ _ _ (h1.1.ok hT) (h2.1.ok hT) ExOk.zE sy sy sy sy sy
 | after at_ a y h1 hl hy ih=>exact .mk _ _ _ _ _ _ _ _ _ _ _ (h1.1.ok hT) ExOk.zE ExOk.zE sy om sy ih sy
 | repeat_ at_ n a y h1 h2 hl hy ih=>exact .mk _ _ _ _ _ _ _ _ _ _ _ (h2.1.ok hT) ExOk.zE ExOk.zE sy om sy ih sy
 | if_ at_ t y z h1 hl hm hy hz ihy ihz=>exact .mk _ _ _ _ _ _ _ _ _ _ _ ExOk.zE ExOk.zE ExOk.zE sy om om ihy ihz
theorem OptE.ok(hT:TkOk ts){e:Ex}(h:OptE ts e):ExOk e:=by
 rcases h with rfl|h
 · exact ExOk.zE
 · exact h.1.ok hT
theorem WfD.ok(hT:TkOk ts){d:Dc}(h:WfD ts d):DcOk d:=by
 rcases h.2 with ⟨_,h1,h2⟩|⟨_,h1,_,h2,h3⟩
 · exact⟨h1.1.ok hT,by rw[h2];simp,by rw[h2];simp⟩
 · exact⟨by rw[h1];exact ExOk.zE,by omega,fun p hp=>⟨(h3 p hp).2.1.ok hT,(h3 p hp).2.2.ok hT⟩⟩
variable(HT:Ends ts)(hT:TkOk ts)
include hT
theorem zcg{s:PS}(h:(refP ts s).2.ok=true):NmOk ts (refP ts s).1.name∧(tx (refP ts s).1.name).length+50000+60000*s.i≤60000*(refP ts s).2.i:=by
 obtain⟨_,h1,h2⟩:=ref_ok h;rw[h2];refine⟨⟨s.i,h1,rfl⟩,?_⟩;have h3:=(hT s.i).1;have h4:(tx (bytesOf (pk ts s).text)).length=(tokAt ts s.i).text.length:=by simp[tx,bytesOf,pk]
 have hi:(nxt s).i=s.i+1:=rfl;dsimp only;omega
omit hT in
theorem zbe{T:ByteArray}{s:PS}(h:(takeP ts T s).ok=true):s.ok=true∧60000+60000*s.i≤60000*(takeP ts T s).i:=by
 obtain⟨h1,_,h3⟩:=zef h;rw[h3];have hi:(nxt s).i=s.i+1:=rfl;exact⟨h1,by omega⟩
omit hT in
theorem zkt{w:List UInt8}(hw:w.length≤10){r:Rf}: (nmd w r).length≤10+(tx r.name).length:=by unfold nmd;split <;> simp <;> omega
theorem zh1{T:ByteArray}{w:List UInt8}(hw:w.length≤10){s:PS}(h:(if sees ts [T] s then refP ts (nxt s) else (zR,s)).2.ok=true):OptN ts (if sees ts [T] s then refP ts (nxt s) else (zR,s)).1∧(nmd w (if sees ts [T] s then refP ts (nxt s) else (zR,s)).1).length+60000*s.i≤60000*(if sees ts [T] s then refP ts (nxt s) else (zR,s)).2.i:=by
 split at h
 · rename_i h1
   rw[if_pos h1];obtain⟨h2,h3⟩:=zcg hT h;have hi:(nxt s).i=s.i+1:=rfl;have:=zkt hw (r:=(refP ts (nxt s)).1);exact⟨.inr h2,by omega⟩
 · rename_i h1
   rw[if_neg h1];exact⟨.inl rfl,by simp[nmd,zR]⟩
include HT
theorem zka:∀(k:Nat) (l:List Rf) (s:PS),l≠[]→(∀r∈l,NmOk ts r.name)→(refLoop ts k l s).2.ok=true →
 (refLoop ts k l s).1≠[]∧(refLoop ts k l s).1.length≤l.length+k∧(∀r∈(refLoop ts k l s).1,NmOk ts r.name)∧(prR (refLoop ts k l s).1).length+60000*s.i≤(prR l).length+60000*(refLoop ts k l s).2.i
 | 0,l,s,h0,hl,_=>⟨h0,by simp[refLoop],hl,by simp[refLoop]⟩
 | k+1,l,s,h0,hl,h=>by
  rw[refLoop]at h ⊢
  split at h
  · rename_i hs
    rw[if_pos hs];obtain⟨w1,w2⟩:=zcg hT ((zdm HT k (l++[(refP ts (nxt s)).1]) (refP ts (nxt s)).2).okof h);have hi:(nxt s).i=s.i+1:=rfl
    obtain⟨r1,r2,r3,r4⟩:=zka k (l++[(refP ts (nxt s)).1]) (refP ts (nxt s)).2 sy (fun e he=>by
     rcases List.mem_append.1 he with he|he
     · exact hl e he
     · rw[List.mem_singleton.1 he];exact w1) h
    refine⟨r1,by rw[la9,List.length_singleton]at r2;omega,r3,?_⟩
    have e1:prR (l++[(refP ts (nxt s)).1])=prR l++[44,32]++tx (refP ts (nxt s)).1.name:=by
     unfold prR
     rw[List.map_append];exact zcm _ _ _ (by simpa using h0)
    rw[e1]at r4;simp only[List.length_append,List.length_cons,List.length_nil]at r4;omega
  · rename_i hs
    rw[if_neg hs];exact⟨h0,by dsimp only;omega,hl,by dsimp only;omega⟩
theorem zhp(hn:ts.length≤9000)(m:Bool){s:PS}(h:(viaP ts m s).2.ok=true):(viaP ts m s).1≠[]∧(viaP ts m s).1.length≤10000∧(∀r∈(viaP ts m s).1,NmOk ts r.name)∧(m=false→∃r,(viaP ts m s).1=[r])∧(prR (viaP ts m s).1).length+100000+60000*s.i≤60000*(viaP ts m s).2.i:=by
 unfold viaP at h ⊢
 dsimp only at h ⊢
 cases m with
 | false =>
  simp only[Bool.false_eq_true,if_false]at h ⊢;obtain⟨h1,h2⟩:=zcg hT h;obtain⟨h3,h4⟩:=zbe ((ref_g HT _).okof h);exact⟨by simp,by simp,by simpa using h1,fun _=>⟨_,rfl⟩,by simp[prR,sepB];omega⟩
 | true =>
  simp only[if_true]at h ⊢;have hk:=(zdm HT _ _ _).okof h;obtain⟨h1,h2⟩:=zcg hT hk;obtain⟨h3,h4⟩:=zbe ((ref_g HT _).okof hk);obtain⟨r1,r2,r3,r4⟩:=zka HT hT _ _ _ sy (by simpa using h1) h;refine⟨r1,Nat.le_trans r2 (by simp;omega),r3,fun h=>by simp at h,?_⟩;have e1:(prR [(refP ts (takeP ts k_via s)).1]).length=(tx (refP ts (takeP ts k_via s)).1.name).length:=by simp[prR,sepB]
  omega
theorem EX_ec(hn:ts.length≤9000){s:PS}(h:(EX ts s).2.ok=true)(hp:s.pa=0):WE ts (EX ts s).1∧(prE (EX ts s).1).length+60000*s.i≤60000*(EX ts s).2.i:=by
 obtain⟨h1,h2,h3⟩:=zhi HT hT hn 14 s om om h;simp only[c0]at h2
 show WE ts (exprP ts 14 s).1∧(prE (exprP ts 14 s).1).length+60000*s.i≤60000*(exprP ts 14 s).2.i
 exact⟨⟨h1,by omega⟩,h3⟩
def Sc(ts:List Lx.Tok)(s:PS)(x:St)(s':PS):Prop:=s'.ok=true→WfS ts x∧(bd x:Int)+s.bo≤12∧∀d:Nat,(d:Int)=s.bo→(ind d++prSt x d).length+60000*s.i≤60000*s'.i
omit HT hT in
theorem zbh(d:Nat):(ind d).length=2*d:=by simp[ind]
end
end
section
section
variable{ts:List Lx.Tok}(HT:Ends ts)(hT:TkOk ts)(hn:ts.length≤9000)
include HT hT hn
theorem zpl{kind:ByteArray}{at_:Int}{s:PS}(hk:kind∈[k_send,k_split,k_cover,k_wait,k_block,k_retry,k_every])(hp:s.pa=0)(h:(lineP ts kind at_ s).2.ok=true):
 WfS ts (lineP ts kind at_ s).1∧bd (lineP ts kind at_ s).1=0∧∀d,(prSt (lineP ts kind at_ s).1 d).length+60000*s.i≤60000*(lineP ts kind at_ s).2.i+200:=by
 simp only[List.mem_cons,List.not_mem_nil,or_false]at hk
 unfold lineP at h ⊢
 rcases hk with rfl|rfl|rfl|rfl|rfl|rfl|rfl
 · rw[if_pos rfl]at h ⊢
   dsimp only at h ⊢;have g1:=tag_g (ts:=ts) HT (withP ts (viaP ts false (EX ts s).2).2).2;have g2:=znx (ts:=ts) HT (viaP ts false (EX ts s).2).2;have g3:=via_g (ts:=ts) HT false (EX ts s).2;have k1:=g1.okof h;have k2:=g2.okof k1;have k3:=g3.okof k2;obtain⟨e1,e2⟩:=EX_ec HT hT hn k3 hp;obtain⟨v1,v2,v3,v4,v5⟩:=zhp HT hT hn false k2;obtain⟨r,hr⟩:=v4 rfl;obtain⟨w1,w2⟩:=zh1 hT (T:=k_with) (w:=t_with) (by decide) k1;obtain⟨t1,t2⟩:=zh1 hT (T:=k_as) (w:=t_as) (by decide) h
   change OptN ts (withP ts (viaP ts false (EX ts s).2).2).1 at w1
   change OptN ts (tagP ts (withP ts (viaP ts false (EX ts s).2).2).2).1 at t1
   change (nmd t_with (withP ts (viaP ts false (EX ts s).2).2).1).length+60000*(viaP ts false (EX ts s).2).2.i≤60000*(withP ts (viaP ts false (EX ts s).2).2).2.i at w2
   change (nmd t_as (tagP ts (withP ts (viaP ts false (EX ts s).2).2).2).1).length+60000*(withP ts (viaP ts false (EX ts s).2).2).2.i≤60000*(tagP ts (withP ts (viaP ts false (EX ts s).2).2).2).2.i at t2
   refine⟨?_,?_,fun d=>?_⟩
   · rw[hr]at v3 ⊢
     exact .send _ _ _ _ _ e1 (v3 r sy) w1 t1
   · rw[bd,if_neg (by decide)]
   · rw[prSt,if_neg (by decide),if_neg (by decide),if_neg (by decide)]
     unfold prLine
     rw[if_pos rfl];simp only[List.length_append,List.length_cons,List.length_nil];omega
 · rw[if_neg (by decide),if_pos rfl]at h ⊢
   dsimp only at h ⊢;have g1:=tag_g (ts:=ts) HT (viaP ts true (EX ts s).2).2;have g3:=via_g (ts:=ts) HT true (EX ts s).2;have k2:=g1.okof h;have k3:=g3.okof k2;obtain⟨e1,e2⟩:=EX_ec HT hT hn k3 hp;obtain⟨v1,v2,v3,_,v5⟩:=zhp HT hT hn true k2;obtain⟨t1,t2⟩:=zh1 hT (T:=k_as) (w:=t_as) (by decide) h
   change OptN ts (tagP ts (viaP ts true (EX ts s).2).2).1 at t1
   change (nmd t_as (tagP ts (viaP ts true (EX ts s).2).2).1).length+60000*(viaP ts true (EX ts s).2).2.i≤60000*(tagP ts (viaP ts true (EX ts s).2).2).2.i at t2
   refine⟨.split _ _ _ _ e1 v1 v2 v3 t1,?_,fun d=>?_⟩
   · rw[bd,if_neg (by decide)]
   · rw[prSt,if_neg (by decide),if_neg (by decide),if_neg (by decide)]
     unfold prLine
     rw[if_neg (by decide),if_pos rfl];simp only[List.length_append,List.length_cons,List.length_nil];omega
 · rw[if_neg (by decide),if_neg (by decide),if_pos rfl]at h ⊢
   dsimp only at h ⊢;obtain⟨v1,v2⟩:=zcg hT h;refine⟨.cover _ _ v1,?_,fun d=>?_⟩
   · rw[bd,if_neg (by decide)]
   · rw[prSt,if_neg (by decide),if_neg (by decide),if_neg (by decide)]
     unfold prLine
     rw[if_neg (by decide),if_neg (by decide),if_pos rfl];simp only[prR,sepB,List.map_cons,List.map_nil,List.length_append,List.length_cons,List.length_nil];omega
 · rw[if_neg (by decide),if_neg (by decide),if_neg (by decide),if_pos rfl]at h ⊢
   dsimp only at h ⊢;obtain⟨e1,e2⟩:=EX_ec HT hT hn h hp;refine⟨.wait _ _ e1,?_,fun d=>?_⟩
   · rw[bd,if_neg (by decide)]
   · rw[prSt,if_neg (by decide),if_neg (by decide),if_neg (by decide)]
     unfold prLine
     rw[if_neg (by decide),if_neg (by decide),if_neg (by decide),if_pos rfl];simp only[List.length_append,List.length_cons,List.length_nil];omega
 · rw[if_neg (by decide),if_neg (by decide),if_neg (by decide),if_neg (by decide),if_pos rfl]at h ⊢
   dsimp only at h ⊢;have g3:=via_g (ts:=ts) HT false (refP ts s).2;have k3:=g3.okof h;obtain⟨n1,n2⟩:=zcg hT k3;obtain⟨v1,v2,v3,v4,v5⟩:=zhp HT hT hn false h;obtain⟨r,hr⟩:=v4 rfl;refine⟨?_,?_,fun d=>?_⟩
   · rw[hr]at v3 ⊢
     exact .block _ _ _ n1 (v3 r sy)
   · rw[bd,if_neg (by decide)]
   · rw[prSt,if_neg (by decide),if_neg (by decide),if_neg (by decide)]
     unfold prLine
     rw[if_neg (by decide),if_neg (by decide),if_neg (by decide),if_neg (by decide),if_pos rfl];simp only[List.length_append,List.length_cons,List.length_nil];omega
 · rw[if_neg (by decide),if_neg (by decide),if_neg (by decide),if_neg (by decide),if_neg (by decide),if_pos rfl]at h ⊢
   dsimp only at h ⊢;generalize hA:EX ts s=A at h ⊢;generalize hB:EX ts (takeP ts k_every A.2)=B at h ⊢;generalize hC:EX ts (takeP ts k_send B.2)=C at h ⊢;generalize hV:viaP ts false C.2=V at h ⊢;have k1:=(tag_g (ts:=ts) HT V.2).okof h;rw[←hV]at k1;have k2:=(via_g (ts:=ts) HT false C.2).okof k1;rw[←hC]at k2;have k3:=(zaw (ts:=ts) HT 14 (takeP ts k_send B.2)).okof k2;obtain⟨k4,x1⟩:=zbe k3;rw[←hB]at k4;have k5:=(zaw (ts:=ts) HT 14 (takeP ts k_every A.2)).okof k4;obtain⟨k6,x2⟩:=zbe k5;have pa1:(takeP ts k_every A.2).pa=0:=by rw[(zar (ts:=ts) HT _ _).pa,←hA,(zaw (ts:=ts) HT 14 s).pa,hp]
   have pa2:(takeP ts k_send B.2).pa=0:=by rw[(zar (ts:=ts) HT _ _).pa,←hB,(zaw (ts:=ts) HT 14 _).pa,pa1]
   rw[←hA]at k6;obtain⟨a1,a2⟩:=EX_ec HT hT hn k6 hp;obtain⟨b1,b2⟩:=EX_ec HT hT hn k4 pa1;obtain⟨c1,c2⟩:=EX_ec HT hT hn k2 pa2;obtain⟨v1,v2,v3,v4,v5⟩:=zhp HT hT hn false k1;rw[hA]at a1 a2;rw[hB]at b1 b2;rw[hC]at c1 c2;rw[hV]at v1 v2 v3 v4 v5;obtain⟨r,hr⟩:=v4 rfl;obtain⟨t1,t2⟩:=zh1 hT (T:=k_as) (w:=t_as) (by decide) h
   change OptN ts (tagP ts V.2).1 at t1
   change (nmd t_as (tagP ts V.2).1).length+60000*V.2.i≤60000*(tagP ts V.2).2.i at t2
   refine⟨?_,?_,fun d=>?_⟩
   · rw[hr]at v3 ⊢
     exact .retry _ _ _ _ _ _ a1 b1 c1 (v3 r sy) t1
   · rw[bd,if_neg (by decide)]
   · rw[prSt,if_neg (by decide),if_neg (by decide),if_neg (by decide)]
     unfold prLine
     rw[if_neg (by decide),if_neg (by decide),if_neg (by decide),if_neg (by decide),if_neg (by decide),if_pos rfl];simp only[List.length_append,List.length_cons,List.length_nil];omega
 · rw[if_neg (by decide),if_neg (by decide),if_neg (by decide),if_neg (by decide),if_neg (by decide),if_neg (by decide),if_pos rfl]at h ⊢
   dsimp only at h ⊢;generalize hA:EX ts s=A at h ⊢;generalize hB:EX ts (takeP ts k_times A.2)=B at h ⊢;obtain⟨v1,v2⟩:=zcg hT h;have k3:=(ref_g (ts:=ts) HT (takeP ts k_cover B.2)).okof h;obtain⟨k4,x1⟩:=zbe k3;rw[←hB]at k4;have k5:=(zaw (ts:=ts) HT 14 (takeP ts k_times A.2)).okof k4;obtain⟨k6,x2⟩:=zbe k5;have pa1:(takeP ts k_times A.2).pa=0:=by rw[(zar (ts:=ts) HT _ _).pa,←hA,(zaw (ts:=ts) HT 14 s).pa,hp]
   rw[←hA]at k6;obtain⟨a1,a2⟩:=EX_ec HT hT hn k6 hp;obtain⟨b1,b2⟩:=EX_ec HT hT hn k4 pa1;rw[hA]at a1 a2;rw[hB]at b1 b2;refine⟨.every _ _ _ _ a1 b1 v1,?_,fun d=>?_⟩
   · rw[bd,if_neg (by decide)]
   · rw[prSt,if_neg (by decide),if_neg (by decide),if_neg (by decide)]
     unfold prLine
     rw[if_neg (by decide),if_neg (by decide),if_neg (by decide),if_neg (by decide),if_neg (by decide),if_neg (by decide),if_pos rfl];simp only[prR,sepB,List.map_cons,List.map_nil,List.length_append,List.length_cons,List.length_nil];omega
end
section
variable{ts:List Lx.Tok}(HT:Ends ts)(hT:TkOk ts)(hn:ts.length≤9000){st:PS→St × PS}(HS:∀s,Pg ts s (st s).2){q:Int}(hs:∀s,s.pa=0→s.bo=q+1→s.bo≤12→Sc ts s (st s).1 (st s).2)
include HS hs
theorem zie:∀(k:Nat) (l:List St) (s:PS),s.pa=0→s.bo=q+1→s.bo≤12→(∀x∈l,WfS ts x∧(bd x:Int)+s.bo≤12)→(bodyLoop ts st k l s).2.ok=true →
 (bodyLoop ts st k l s).1.length≤l.length+k∧(∀x∈(bodyLoop ts st k l s).1,WfS ts x∧(bd x:Int)+s.bo≤12)∧∀d:Nat,(d:Int)=s.bo→(prSs (bodyLoop ts st k l s).1 d).length+60000*s.i≤(prSs l d).length+60000*(bodyLoop ts st k l s).2.i
 | 0,l,s,_,_,_,hl,_=>⟨by simp[bodyLoop],hl,fun d _=>by simp[bodyLoop]⟩
 | k+1,l,s,hp,hb,hb2,hl,h=>by
  rw[bodyLoop]at h ⊢
  split at h
  · rename_i h1
    rw[if_pos h1];have hk:=(zc9 HS k (l++[(st s).1]) (st s).2).okof h;obtain⟨w1,w2,w3⟩:=hs s hp hb hb2 hk;have hbo:=(HS s).bo;have hpa:=(HS s).pa
    obtain⟨r2,r3,r4⟩:=zie k (l++[(st s).1]) (st s).2 om om om (fun e he=>by
     rcases List.mem_append.1 he with he|he
     · have:=hl e he
       exact⟨this.1,by omega⟩
     · rw[List.mem_singleton.1 he];exact⟨w1,by omega⟩) h
    refine⟨by rw[la9,List.length_singleton]at r2;omega,fun e he=>⟨(r3 e he).1,by have:=(r3 e he).2;omega⟩,fun d hd=>?_⟩;have r5:=r4 d om;have w4:=w3 d hd;rw[zea,zfu,la9]at r5;omega
  · rename_i h1
    rw[if_neg h1];exact⟨by dsimp only;omega,hl,fun d _=>by dsimp only;omega⟩
include hn
theorem zf3{s:PS}(hp:s.pa=0)(hb:s.bo=q)(hb2:s.bo≤12)(h:(bodyP ts st s).2.ok=true):
 s.ok=true∧(bodyP ts st s).1.length≤10000∧(∀x∈(bodyP ts st s).1,WfS ts x)∧(bdL (bodyP ts st s).1:Int)+1+s.bo≤12∧∀d:Nat,(d:Int)=s.bo→(prSs (bodyP ts st s).1 (d+1)).length+120000+60000*s.i≤60000*(bodyP ts st s).2.i:=by
 unfold bodyP at h ⊢
 dsimp only at h ⊢
 change (takeP ts m_rbr _).ok=true at h
 obtain⟨h1,h2⟩:=zbe h;have h3:=(zc9 HS _ _ _).okof h1
 change (takeP ts m_lbr _).ok=true at h3
 obtain⟨h4,h5⟩:=zbe h3;obtain⟨_,h6,h7⟩:=zef h3
 have hne:¬(sees ts [m_lbr] s && s.bo == 12)=true:=fun hc=>by
  rw[if_pos hc,zex (by decide)]at h4
  cases h4
 rw[if_neg hne]at h1 h2 h3 h4 h5 h6 h7 ⊢;have hb12:s.bo≠12:=fun h5=>hne (by unfold sees;rw[h4,h6,h5];rfl)
 have hX0:(takeP ts m_lbr s).bo=s.bo∧(takeP ts m_lbr s).pa=0:=by rw[h7];exact⟨rfl,hp⟩
 obtain⟨X,hX⟩:∃X:PS,X = { takeP ts m_lbr s with bo:=(takeP ts m_lbr s).bo+1 }:=⟨_,rfl⟩;have hXb:X.bo=s.bo+1:=by rw[hX,←hX0.1]
 have hXp:X.pa=0:=by rw[hX];exact hX0.2
 have hXi:X.i=(takeP ts m_lbr s).i:=by rw[hX]
 rw[←hX]at h1 h2 ⊢;clear hX;obtain⟨r2,r3,r4⟩:=zie HS hs (ts.length+2) [] X hXp om om sy h1;refine⟨h4,Nat.le_trans r2 (by simp;omega),fun x hx=>(r3 x hx).1,?_,fun d hd=>?_⟩
 · obtain⟨k,hk⟩:∃k:Nat,(k:Int)=12-(s.bo+1):=⟨(12-(s.bo+1)).toNat,by omega⟩
   have h8:=zlg (n:=k) (fun x hx=>by have:=(r3 x hx).2;omega:∀x∈(bodyLoop ts st (ts.length+2) [] X).1,bd x≤k);omega
 · have r5:=r4 (d+1) om
   rw[show prSs [] (d+1)=[] by rw[prSs]]at r5;simp only[List.length_nil]at r5;omega
omit hn HS hs in
theorem zcb(d:Nat)(p:List UInt8):(prBody d p).length=p.length+2*d+4:=by simp[prBody,zbh];omega
include HT hT
theorem zl3(s:PS)(hp:s.pa=0)(hb:s.bo=q)(hb2:s.bo≤12):Sc ts s (stmtG ts st s).1 (stmtG ts st s).2:=by
 unfold stmtG
 split
 · rename_i hten
   dsimp only
   have hin:bytesOf (pk ts s).text∈ten:=by
    unfold sees isOf at hten
    simp only[Bool.and_eq_true,zcf]at hten;exact hten.2.2
   generalize bytesOf (pk ts s).text=kind at hin ⊢;have hi:(nxt s).i=s.i+1:=rfl;have hpn:(nxt s).pa=0:=hp;have hbn:(nxt s).bo=s.bo:=rfl
   by_cases e1:kind=k_after
   · subst e1
     rw[if_pos rfl];dsimp only;intro h;have ga:=zaw (ts:=ts) HT 14 (nxt s);obtain⟨b1,b2,b3,b4,b5⟩:=zf3 hn HS hs (by rw[ga.pa,hpn]) (by rw[ga.bo,hbn,hb]) (by rw[ga.bo,hbn];exact hb2) h;obtain⟨a1,a2⟩:=EX_ec HT hT hn b1 hpn;have hbo:(EX ts (nxt s)).2.bo=s.bo:=ga.bo;refine⟨.after _ _ _ a1 b2 b3,?_,fun d hd=>?_⟩
     · rw[bd,if_pos (.inl rfl),bdL]
       omega
     · have b6:=b5 d om
       rw[prSt,if_pos rfl];simp only[List.length_append,List.length_cons,List.length_nil,zcb,zbh];omega
   by_cases e2:kind=k_repeat
   · subst e2
     rw[if_neg (by decide),if_pos rfl];dsimp only;intro h;generalize hN:refP ts (nxt s)=N at h ⊢;have gn:=ref_g (ts:=ts) HT (nxt s);rw[hN]at gn;have ga:=zaw (ts:=ts) HT 14 N.2;have hNp:N.2.pa=0:=by rw[gn.pa,hpn]
     have hNb:N.2.bo=s.bo:=by rw[gn.bo,hbn]
     obtain⟨b1,b2,b3,b4,b5⟩:=zf3 hn HS hs (by rw[ga.pa,hNp]) (by rw[ga.bo,hNb,hb]) (by rw[ga.bo,hNb];exact hb2) h;obtain⟨a1,a2⟩:=EX_ec HT hT hn b1 hNp;have k1:=ga.okof b1;rw[←hN]at k1;obtain⟨n1,n2⟩:=zcg hT k1;rw[hN]at n1 n2;have hbo:(EX ts N.2).2.bo=s.bo:=by rw[←hNb];exact ga.bo
     refine⟨.repeat_ _ _ _ _ n1 a1 b2 b3,?_,fun d hd=>?_⟩
     · rw[bd,if_pos (.inr (.inl rfl)),bdL]
       omega
     · have b6:=b5 d om
       rw[prSt,if_neg (by decide),if_pos rfl];simp only[List.length_append,List.length_cons,List.length_nil,zcb,zbh];omega
   by_cases e3:kind=k_if
   · subst e3
     rw[if_neg (by decide),if_neg (by decide),if_pos rfl];dsimp only;intro h;generalize hN:refP ts (takeP ts k_acked (nxt s))=N at h ⊢;generalize hY:bodyP ts st N.2=Y at h ⊢;have gt:=zar (ts:=ts) HT k_acked (nxt s);have gn:=ref_g (ts:=ts) HT (takeP ts k_acked (nxt s));have gy:=zid (ts:=ts) HT HS N.2;rw[hN]at gn;rw[hY]at gy;have hNp:N.2.pa=0:=by rw[gn.pa,gt.pa,hpn]
     have hNb:N.2.bo=s.bo:=by rw[gn.bo,gt.bo,hbn]
     have hYp:Y.2.pa=0:=by rw[gy.pa,hNp]
     have hYb:Y.2.bo=s.bo:=by rw[gy.bo,hNb]
     have hYk:Y.2.ok=true:=by
      split at h
      · rename_i h9;exact zag h9
      · exact h
     rw[←hY]at hYk;obtain⟨b1,b2,b3,b4,b5⟩:=zf3 hn HS hs hNp (by rw[hNb,hb]) (by rw[hNb];exact hb2) hYk;rw[←hN]at b1;obtain⟨n1,n2⟩:=zcg hT b1;obtain⟨_,n3⟩:=zbe ((ref_g (ts:=ts) HT _).okof b1);rw[hN]at n1 n2;rw[hY]at b2 b3 b4 b5
     by_cases h9:sees ts [k_else] Y.2=true
     · rw[if_pos h9]at h ⊢
       obtain⟨d1,d2,d3,d4,d5⟩:=zf3 hn HS hs (s:=nxt Y.2) hYp (by show Y.2.bo=_;rw[hYb,hb]) (by show Y.2.bo≤_;rw[hYb];exact hb2) h;have hiY:(nxt Y.2).i=Y.2.i+1:=rfl;have hbY:(nxt Y.2).bo=s.bo:=hYb;refine⟨.if_ _ _ _ _ n1 b2 d2 b3 d3,?_,fun d hd=>?_⟩
       · rw[bd,if_pos (.inr (.inr rfl))]
         omega
       · have b6:=b5 d om
         have d6:=d5 d om;rw[prSt,if_neg (by decide),if_neg (by decide),if_pos rfl]
         have d7:(if (bodyP ts st (nxt Y.2)).1.isEmpty then [] else [32,101,108,115,101]++prBody d (prSs (bodyP ts st (nxt Y.2)).1 (d+1)):List UInt8).length≤9+2*d+(prSs (bodyP ts st (nxt Y.2)).1 (d+1)).length:=by
          split
          · simp
          · simp[zcb];omega
         simp only[List.length_append,List.length_cons,List.length_nil,zcb,zbh];omega
     · rw[if_neg h9]
       refine⟨.if_ _ _ _ _ n1 b2 sy b3 sy,?_,fun d hd=>?_⟩
       · rw[bd,if_pos (.inr (.inr rfl)),bdL]
         omega
       · have b6:=b5 d om
         rw[prSt,if_neg (by decide),if_neg (by decide),if_pos rfl];simp only[List.isEmpty_nil,if_true,List.length_append,List.length_cons,List.length_nil,zcb,zbh];omega
   · rw[if_neg e1,if_neg e2,if_neg e3]
     intro h;obtain⟨k1,k2⟩:=zbe h
     have hk:kind∈[k_send,k_split,k_cover,k_wait,k_block,k_retry,k_every]:=by
      unfold ten at hin
      simp only[List.mem_cons,List.not_mem_nil,or_false]at hin ⊢
      rcases hin with h|h|h|h|h|h|h|h|h|h <;> simp_all
     obtain⟨l1,l2,l3⟩:=zpl HT hT hn hk hpn k1;refine⟨l1,by rw[l2];omega,fun d hd=>?_⟩;have l4:=l3 d;dsimp only;rw[la9,zbh];omega
 · intro h
   rw[zex (by decide)]at h
   cases h
end
section
variable{ts:List Lx.Tok}(HT:Ends ts)(hT:TkOk ts)(hn:ts.length≤9000)
include HT hT hn
theorem zjs:∀(k:Nat) (s:PS),s.pa=0→s.bo+k=14→s.bo≤12→Sc ts s (stmtP ts k s).1 (stmtP ts k s).2
 | 0,s,_,h,h2=>by omega
 | k+1,s,hp,h,h2=>zl3 (q:=13-(k:Int)) HT hT hn (zdz HT k) (fun s' h3 h4 h5=>zjs k s' h3 om h5) s hp om h2
theorem zjk:∀(k:Nat) (l:List St) (s:PS),s.pa=0→s.bo=0→(∀x∈l,WfS ts x∧bd x≤12)→(topLoop ts k l s).2.ok=true →
 (topLoop ts k l s).1.length≤l.length+k∧(∀x∈(topLoop ts k l s).1,WfS ts x∧bd x≤12)∧(prSs (topLoop ts k l s).1 0).length+60000*s.i≤(prSs l 0).length+60000*(topLoop ts k l s).2.i
 | 0,l,s,_,_,hl,_=>⟨by simp[topLoop],hl,by simp[topLoop]⟩
 | k+1,l,s,hp,hb,hl,h=>by
  rw[topLoop]at h ⊢
  split at h
  · rename_i h1
    rw[if_pos h1];have hk:=(zee HT k (l++[(stmtP ts 14 s).1]) (stmtP ts 14 s).2).okof h;obtain⟨w1,w2,w3⟩:=zjs HT hT hn 14 s hp om om hk;have g:=zdz (ts:=ts) HT 14 s;have hbo:=g.bo;have hpa:=g.pa
    obtain⟨r2,r3,r4⟩:=zjk k (l++[(stmtP ts 14 s).1]) (stmtP ts 14 s).2 om om (fun e he=>by
     rcases List.mem_append.1 he with he|he
     · exact hl e he
     · rw[List.mem_singleton.1 he];exact⟨w1,by omega⟩) h
    refine⟨by rw[la9,List.length_singleton]at r2;omega,r3,?_⟩;have w4:=w3 0 om;rw[zea,zfu,la9]at r4;omega
  · rename_i h1
    rw[if_neg h1];exact⟨by dsimp only;omega,hl,by dsimp only;omega⟩
theorem zkp{T:ByteArray}{m:UInt8}{s:PS}(hp:s.pa=0)(h:(if sees ts [T] s then atomP ts (exprP ts 14) (nxt s) else (zE,s)).2.ok=true):OptE ts (if sees ts [T] s then atomP ts (exprP ts 14) (nxt s) else (zE,s)).1∧(prAt m (if sees ts [T] s then atomP ts (exprP ts 14) (nxt s) else (zE,s)).1).length+60000*s.i≤60000*(if sees ts [T] s then atomP ts (exprP ts 14) (nxt s) else (zE,s)).2.i:=by
 split at h
 · rename_i h1
   rw[if_pos h1];have hi:(nxt s).i=s.i+1:=rfl;obtain⟨w1,w2,w3⟩:=zlk (q:=0) hT (zaw HT 14) (fun s' h3 h4=>zhi HT hT hn 14 s' om h4) (nxt s) hp (by show s.pa≤12;omega) h
   · refine⟨.inr ⟨w1,by have:(nxt s).pa=0:=hp;omega⟩,?_⟩
     have h5:∀e,(prAt m e).length≤3+(prE e).length:=fun e=>by
      unfold prAt
      split
      · simp
      · have:=zcu (!(decide (e.op=k_number)|| decide (e.op=k_name))) (prE e)
        simp only[List.length_cons];omega
     have:=h5 (atomP ts (exprP ts 14) (nxt s)).1;omega
 · rename_i h1
   rw[if_neg h1];exact⟨.inl rfl,by simp[prAt,zE,Ex.op]⟩
theorem zhz{s:PS}(hp:s.pa=0)(h:(placeP ts s).2.ok=true):WfP ts (placeP ts s).1∧(prPl (placeP ts s).1).length+50000+60000*s.i≤60000*(placeP ts s).2.i:=by
 unfold placeP at h ⊢
 dsimp only at h ⊢;have gr:=ref_g (ts:=ts) HT s;generalize hR:refP ts s=R at h gr ⊢;have hRp:R.2.pa=0:=by rw[gr.pa,hp]
 generalize hD:(if sees ts [m_at] R.2=true then atomP ts (exprP ts 14) (nxt R.2) else (zE,R.2))=D at h ⊢
 have gd:Pg ts R.2 D.2:=by
  rw[←hD]
  split
  · rename_i h1
    exact(nxt_g (zam HT h1) (zag h1)).trans (zig HT (zaw HT 14) _)
  · exact Pg.refl _
 have hDp:D.2.pa=0:=by rw[gd.pa,hRp]
 obtain⟨f1,f2⟩:=zkp HT hT hn (m:=33) hDp h
 have hDk:D.2.ok=true:=by
  split at h
  · rename_i h9;exact zag h9
  · exact h
 rw[←hD]at hDk;obtain⟨d1,d2⟩:=zkp HT hT hn (m:=64) hRp hDk
 have hRk:R.2.ok=true:=by
  split at hDk
  · rename_i h9;exact zag h9
  · exact hDk
 rw[←hR]at hRk;obtain⟨r1,r2⟩:=zcg hT hRk;rw[hR]at r1 r2;rw[hD]at d1 d2;refine⟨⟨r1,d1,f1⟩,?_⟩
 unfold prPl
 simp only[List.length_append];omega
theorem zgi:∀(k:Nat) (l:List Pl) (s:PS),s.pa=0→l≠[]→(∀x∈l,WfP ts x)→(placeLoop ts k l s).2.ok=true →
 (placeLoop ts k l s).1≠[]∧(placeLoop ts k l s).1.length≤l.length+k∧(∀x∈(placeLoop ts k l s).1,WfP ts x)∧(sepB [32,62,32] ((placeLoop ts k l s).1.map prPl)).length+60000*s.i≤(sepB [32,62,32] (l.map prPl)).length+60000*(placeLoop ts k l s).2.i
 | 0,l,s,_,h0,hl,_=>⟨h0,by simp[placeLoop],hl,by simp[placeLoop]⟩
 | k+1,l,s,hp,h0,hl,h=>by
  rw[placeLoop]at h ⊢
  split at h
  · rename_i h1
    rw[if_pos h1];have hk:=(zb3 HT k (l++[(placeP ts (nxt s)).1]) (placeP ts (nxt s)).2).okof h;have hpn:(nxt s).pa=0:=hp;have hi:(nxt s).i=s.i+1:=rfl;obtain⟨w1,w2⟩:=zhz HT hT hn hpn hk;have hpa:=(zcs (ts:=ts) HT (nxt s)).pa
    obtain⟨r1,r2,r3,r4⟩:=zgi k (l++[(placeP ts (nxt s)).1]) (placeP ts (nxt s)).2 om sy (fun e he=>by
     rcases List.mem_append.1 he with he|he
     · exact hl e he
     · rw[List.mem_singleton.1 he];exact w1) h
    refine⟨r1,by rw[la9,List.length_singleton]at r2;omega,r3,?_⟩;rw[List.map_append,show [(placeP ts (nxt s)).1].map prPl=[prPl (placeP ts (nxt s)).1] from rfl,zcm _ _ _ (by simpa using h0)]at r4;simp only[List.length_append,List.length_cons,List.length_nil]at r4;omega
  · rename_i h1
    rw[if_neg h1];exact⟨h0,by dsimp only;omega,hl,by dsimp only;omega⟩
theorem zpw{s:PS}(hp:s.pa=0)(hk:sees ts [k_let,k_route] s=true)(h:(declP ts s).2.ok=true):WfD ts (declP ts s).1∧(prDc (declP ts s).1).length+60000*s.i≤60000*(declP ts s).2.i:=by
 have hkind:bytesOf (pk ts s).text=k_let∨bytesOf (pk ts s).text=k_route:=by
  unfold sees isOf at hk
  simp only[Bool.and_eq_true,zcf]at hk
  simpa using hk.2.2
 unfold declP at h ⊢
 dsimp only at h ⊢;have gr:=ref_g (ts:=ts) HT (nxt s);have hpn:(nxt s).pa=0:=hp;have hi:(nxt s).i=s.i+1:=rfl;generalize hR:refP ts (nxt s)=R at h gr ⊢;have gt:=zar (ts:=ts) HT m_eq R.2;have hTp:(takeP ts m_eq R.2).pa=0:=by rw[gt.pa,gr.pa,hpn]
 generalize bytesOf (pk ts s).text=kind at hkind h ⊢
 rcases hkind with rfl|rfl
 · rw[if_pos rfl]at h ⊢
   dsimp only at h ⊢;obtain⟨k1,k2⟩:=zbe h;obtain⟨e1,e2⟩:=EX_ec HT hT hn k1 hTp;have k3:=(zaw (ts:=ts) HT 14 (takeP ts m_eq R.2)).okof k1;obtain⟨k4,k5⟩:=zbe k3;rw[←hR]at k4;obtain⟨r1,r2⟩:=zcg hT k4;rw[hR]at r1 r2;rw[show EX ts (takeP ts m_eq R.2)=exprP ts 14 (takeP ts m_eq R.2) from rfl]at e2;refine⟨⟨r1,.inl ⟨rfl,e1,rfl⟩⟩,?_⟩
   unfold prDc
   rw[if_pos rfl];simp only[List.length_append,List.length_cons,List.length_nil];omega
 · rw[if_neg (by decide)]at h ⊢
   dsimp only at h ⊢;obtain⟨k1,k2⟩:=zbe h;generalize hP:placeP ts (takeP ts m_eq R.2)=P at h k1 k2 ⊢;have gp:=zcs (ts:=ts) HT (takeP ts m_eq R.2);rw[hP]at gp;have hPp:P.2.pa=0:=by rw[gp.pa,hTp]
   have k3:=(zb3 (ts:=ts) HT _ _ _).okof k1;rw[←hP]at k3;obtain⟨p1,p2⟩:=zhz HT hT hn hTp k3;rw[hP]at p1 p2;obtain⟨q1,q2,q3,q4⟩:=zgi HT hT hn (ts.length+1) [P.1] P.2 hPp sy (by simpa using p1) k1;have k6:=gp.okof (by rw[←hP];exact k3);obtain⟨k4,k5⟩:=zbe k6;rw[←hR]at k4;obtain⟨r1,r2⟩:=zcg hT k4;rw[hR]at r1 r2;refine⟨⟨r1,.inr ⟨rfl,rfl,q1,Nat.le_trans q2 (by simp;omega),q3⟩⟩,?_⟩
   unfold prDc
   dsimp only;rw[if_neg (by decide),if_pos rfl];have q5:(sepB [32,62,32] ([P.1].map prPl)).length=(prPl P.1).length:=by simp[sepB]
   simp only[List.length_append,List.length_cons,List.length_nil];omega
theorem zib:∀(k:Nat) (l:List Dc) (s:PS),s.pa=0→s.bo=0→(∀x∈l,WfD ts x)→(declLoop ts k l s).2.ok=true →
 (declLoop ts k l s).2.pa=0∧(declLoop ts k l s).2.bo=0∧(declLoop ts k l s).1.length≤l.length+k∧(∀x∈(declLoop ts k l s).1,WfD ts x)∧((declLoop ts k l s).1.flatMap prDc).length+60000*s.i≤(l.flatMap prDc).length+60000*(declLoop ts k l s).2.i
 | 0,l,s,hp,hb,hl,_=>⟨hp,hb,by simp[declLoop],hl,by simp[declLoop]⟩
 | k+1,l,s,hp,hb,hl,h=>by
  rw[declLoop]at h ⊢
  split at h
  · rename_i h1
    rw[if_pos h1];have hk:=(zdy HT k (l++[(declP ts s).1]) (declP ts s).2).okof h;obtain⟨w1,w2⟩:=zpw HT hT hn hp h1 hk;have g:=zlb (ts:=ts) HT s (zam HT h1) (zag h1)
    obtain⟨r0,r1,r2,r3,r4⟩:=zib k (l++[(declP ts s).1]) (declP ts s).2 (by rw[g.pa,hp]) (by rw[g.bo,hb]) (fun e he=>by
     rcases List.mem_append.1 he with he|he
     · exact hl e he
     · rw[List.mem_singleton.1 he];exact w1) h
    refine⟨r0,r1,by rw[la9,List.length_singleton]at r2;omega,r3,?_⟩;rw[List.flatMap_append,la9,show [(declP ts s).1].flatMap prDc=prDc (declP ts s).1 by simp]at r4;omega
  · rename_i h1
    rw[if_neg h1];exact⟨hp,hb,by dsimp only;omega,hl,by dsimp only;omega⟩
theorem zkn(h0:0<ts.length):(∀d∈(parseT ts).1.decls,WfD ts d)∧(∀x∈(parseT ts).1.body,WfS ts x∧bd x≤12)∧(parseT ts).1.decls.length≤10000∧(parseT ts).1.body.length≤10000∧(prTop (parseT ts).1).length≤60000*ts.length:=by
 unfold parseT
 dsimp only
 split
 · rename_i h
   have gd:=zdy (ts:=ts) HT (ts.length+1) [] s0;have gt:=zee (ts:=ts) HT (ts.length+2) [] (declLoop ts (ts.length+1) [] s0).2;have k1:=gt.okof h;obtain⟨r0,r1,r2,r3,r4⟩:=zib HT hT hn (ts.length+1) [] s0 rfl rfl sy k1;obtain⟨t1,t2,t3⟩:=zjk HT hT hn (ts.length+2) [] _ r0 r1 sy h;refine⟨r3,t2,Nat.le_trans r2 (by simp;omega),Nat.le_trans t1 (by simp;omega),?_⟩;have hlt:=gt.lt (gd.lt h0);have e0:(prSs [] 0).length=0:=by rw[prSs];rfl
   have e1:s0.i=0:=rfl
   unfold prTop
   simp only[List.flatMap_nil,List.length_nil]at r4;rw[la9];dsimp only;omega
 · exact⟨by simp,by simp,by simp,by simp,by simp[prTop,prSs]⟩
end
end
end Go.Proofs.YtafjkbbiaopemaaGreatDoor.Tr
namespace Go.Proofs.YtafjkbbiaopemaaGreatDoor.Lx
open Go.RowKit
theorem zik:∀(f:Nat) (r acc:List UInt8) (b x:List UInt8),text f r acc=.inr (b,x)→b.length≤acc.length+r.length:=by
 intro f
 induction f with
 | zero=>intro r acc b x h;cases h
 | succ f ih =>
  intro r acc b x h
  unfold text at h
  cases r with
  | nil=>cases h
  | cons c r =>
   simp only[]at h
   split at h
   · injection h with h;injection h with h _;subst h;simp
   · split at h
     · split at h
       · cases h
       · have:=ih _ _ _ _ h
         rename_i m k hm
         have hk:1≤k:=by
          unfold esc at hm
          repeat' split at hm
          all_goals first|(injection hm with hm;injection hm with _ hm;omega)| cases hm
         simp at this ⊢
         omega
     · split at h
       · cases h
       · have:=ih _ _ _ _ h
         simp at this ⊢
         omega
theorem zcl{p:UInt8→Bool}: ∀l:List UInt8,(l.takeWhile p).length≤l.length
 | []=>by simp
 | c :: l=>by
  rw[List.takeWhile_cons]
  split
  · have:=zcl (p:=p) l
    simp only[List.length_cons];omega
  · simp
theorem zdu{p:UInt8→Bool}: ∀l:List UInt8,∀c∈l.takeWhile p,p c=true
 | []=>by simp
 | a :: l=>by
  intro c hc;rw[List.takeWhile_cons]at hc
  split at hc
  · rcases List.mem_cons.1 hc with rfl|h
    · assumption
    · exact zdu l c h
  · simp at hc
theorem zgz{c:UInt8}{r:List UInt8}{k:Nat}{t:List UInt8}{m:Nat}{x:List UInt8}(h:token (c :: r)=.inr (k,t,m,x)):t.length≤(c :: r).length∧m≤1000000000:=by
 unfold token at h
 simp only[]at h
 split at h
 · split at h
   · cases h
   · injection h with h;injection h with _ h;injection h with h h2;injection h2 with h2 _
     subst h h2;exact⟨zcl _,by omega⟩
 · split at h
   · split at h
     · cases h
     · rename_i h9
       split at h
       · cases h
       · injection h with h;injection h with _ h;injection h with h h2;injection h2 with h2 _
         subst h h2;refine⟨zcl _,?_⟩;have h3:=zh2 ((c :: r).takeWhile digit) (zdu _)
         have h4:((c :: r).takeWhile digit).length≤9:=by
          simp only[Bool.or_eq_true,not_or]at h9;have:=h9.1;simp only[decide_eq_true_eq]at this;omega
         have h5:10^((c :: r).takeWhile digit).length≤10^9:=Nat.pow_le_pow_right om h4;have h6:(10:Nat)^9=1000000000:=by decide
         omega
   · split at h
     · split at h
       · cases h
       · rename_i b y hy
         injection h with h;injection h with _ h;injection h with h h2;injection h2 with h2 _
         subst h h2;have:=zik _ _ _ _ _ hy
         simp at this ⊢
         omega
     · split at h
       · injection h with h;injection h with _ h;injection h with h h2;injection h2 with h2 _
         subst h h2
         simp
       · cases h
theorem zg4{n N f:Nat}{r:List UInt8}{acc out:List Tok}(hr:r.length≤N)(ha:∀t∈acc,t.text.length≤N∧t.num≤1000000000)(h:scanF n f r acc=.inr out):∀t∈out,t.text.length≤N∧t.num≤1000000000:=by
 induction f generalizing r acc with
 | zero=>simp[scanF]at h
 | succ f ih =>
  unfold scanF at h
  split at h
  · injection h with h
    subst h;intro t ht
    rcases List.mem_append.1 ht with ht|ht
    · exact ha t ht
    · rw[List.mem_singleton.1 ht]
      exact⟨Nat.zero_le _,Nat.zero_le _⟩
  · rename_i c r1 hsk
    split at h
    · cases h
    · rename_i k t m x htok
      have h1:=skip_len false r;rw[hsk]at h1;have h2:=token_len htok;obtain⟨h3,h4⟩:=zgz htok;refine ih om (fun u hu=>?_) h
      rcases List.mem_append.1 hu with hu|hu
      · exact ha u hu
      · simp at hu
        subst hu;exact⟨by dsimp only;omega,h4⟩
theorem scan_short{s:List UInt8}{ts:List Tok}(h:scan s=((0,0),ts)):∀t∈ts,t.text.length≤8000∧t.num≤1000000000:=by
 unfold scan at h
 split at h
 · injection h with h;injection h with h;omega
 · rename_i h8
   split at h
   · injection h with h;injection h with h;omega
   · rename_i us hs
     injection h with _ h
     subst h;exact zg4 om sy hs
end Go.Proofs.YtafjkbbiaopemaaGreatDoor.Lx
namespace Go.Proofs.YtafjkbbiaopemaaGreatDoor.Tr
open Go.RowKit
theorem tk_ok{s:List UInt8}{ts:List Lx.Tok}(h:Lx.scan s=((0,0),ts)):TkOk ts:=by
 intro i
 unfold tokAt
 rcases Nat.lt_or_ge i ts.length with h1|h1
 · rw[ge9 h1]
   exact Lx.scan_short h _ (List.getElem_mem h1)
 · rw[List.getElem?_eq_none h1]
   exact⟨Nat.zero_le _,Nat.zero_le _⟩
theorem zm8(s:List UInt8):∃ts,TkOk ts∧(∀d∈(parse s).1.decls,WfD ts d)∧(∀x∈(parse s).1.body,WfS ts x∧bd x≤12)∧(parse s).1.decls.length≤10000∧(parse s).1.body.length≤10000∧(prTop (parse s).1).length≤500000000:=by
 rcases hR:Lx.scan s with ⟨⟨p,q⟩,ts⟩
 have hZ:∃ts,TkOk ts∧(∀d∈(⟨[],[]⟩:Sr).decls,WfD ts d)∧(∀x∈(⟨[],[]⟩:Sr).body,WfS ts x∧bd x≤12)∧(⟨[],[]⟩:Sr).decls.length≤10000∧(⟨[],[]⟩:Sr).body.length≤10000∧(prTop (⟨[],[]⟩:Sr)).length≤500000000 :=
  ⟨[],fun i=>⟨Nat.zero_le _,Nat.zero_le _⟩,by simp,by simp,by simp,by simp,by simp[prTop,prSs]⟩
 unfold parse
 rw[hR];dsimp only
 split
 · rename_i hp
   subst hp
   have hq:q=0:=by
    rcases Lx.scan_cases s with ⟨p',q',h1,h2⟩|⟨us,h1,_⟩
    · rw[hR]at h1
      injection h1 with h3
      injection h3 with h3 h4
      omega
    · rw[hR]at h1
      injection h1 with h3
      injection h3
   subst hq;obtain⟨hE,h0,hn,_⟩:=zjw hR;have hT:=tk_ok hR;obtain⟨r1,r2,r3,r4,r5⟩:=zkn hE hT om h0;exact⟨ts,hT,r1,r2,r3,r4,by omega⟩
 · exact hZ
end Go.Proofs.YtafjkbbiaopemaaGreatDoor.Tr
