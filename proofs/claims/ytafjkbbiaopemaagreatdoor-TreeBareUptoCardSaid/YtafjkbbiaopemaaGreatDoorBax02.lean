/- Part of the proof. -/
import Derived.OrdersHeld
import Derived.Shelf.Strings.Search1
import Derived.Shelf.Small.Strs
import Derived.Test.YtafjkbbiaopemaaGreatDoorBax01
set_option linter.all false
set_option maxRecDepth 100000
set_option maxHeartbeats 0
namespace Go.Proofs.YtafjkbbiaopemaaGreatDoor
open Go.RowKit
def Wrote(g:Nat)(w w':World):Prop:=w.grownBy w' (some g)
theorem Below.wrote{w w1 w2:World}{g:Nat}(hb:Below w.heap.size w w1)(h:Wrote g w1 w2):Wrote g w w2 :=
 ⟨h.os.trans hb.os,h.tape.trans hb.tape,h.output.trans hb.output,Nat.le_trans hb.size h.size,fun k hk hne=>(h.block k (Nat.lt_of_lt_of_le hk hb.size) hne).trans (hb.block k hk)⟩
theorem Wrote.trans{w w1 w2:World}{g:Nat}(hb:Wrote g w w1)(h:Wrote g w1 w2):Wrote g w w2 :=
 ⟨h.os.trans hb.os,h.tape.trans hb.tape,h.output.trans hb.output,Nat.le_trans hb.size h.size,fun k hk hne=>(h.block k (Nat.lt_of_lt_of_le hk hb.size) hne).trans (hb.block k hk hne)⟩
theorem Wrote.of_below{w w1:World}{g:Nat}(hb:Below w.heap.size w w1):Wrote g w w1:=⟨hb.os,hb.tape,hb.output,hb.size,fun k hk _=>hb.block k hk⟩
theorem Wrote.refl(w:World)(g:Nat):Wrote g w w:=Wrote.of_below (Below.refl _ _)
theorem Wrote.then{w w1 w2:World}{g:Nat}(hb:Wrote g w w1)(h:Below w1.heap.size w1 w2):Wrote g w w2:=hb.trans (Wrote.of_below h)
theorem Wrote.only{w w1 w2:World}{g:Nat}(hb:Wrote g w w1)(h:Only w1 w2 g):Wrote g w w2:=hb.trans h.grown
theorem Wrote.setCell{w w1:World}{g:Nat}(hb:Wrote g w w1)(i:Nat)(u:Value):Wrote g w (w1.setCell ⟨g,i,none⟩ u) :=
 ⟨hb.os,hb.tape,hb.output,by have:=hb.size;simpa[World.setCell] using this,fun k hk hne=>(Below.heap_setCell w1 ⟨g,i,none⟩ u k (fun e=>hne (by rw[e]))).trans (hb.block k hk hne)⟩
theorem Wrote.setNew{w w1:World}{g:Nat}(hb:Wrote g w w1){p:Addr}(hp:w.heap.size≤p.block)(u:Value):Wrote g w (w1.setCell p u) :=
 ⟨hb.os,hb.tape,hb.output,by have:=hb.size;simpa[World.setCell] using this,fun k hk hne=>(Below.heap_setCell w1 p u k om).trans (hb.block k hk hne)⟩
theorem Wrote.alloc{w w1:World}{g:Nat}(hb:Wrote g w w1)(o:Obj):Wrote g w (w1.alloc o):=hb.then ((Below.refl _ _).alloc lr o)
theorem Wrote.drew{w w1:World}{g:Nat}(hb:Wrote g w w1):Wrote g w w1.drew:=hb.then (Below.refl _ _).drew
theorem Wrote.below{B g:Nat}{w0 w w':World}(h:Wrote g w w')(hb:Below B w0 w)(hg:B≤g)(hB:B≤w.heap.size):Below B w0 w' :=
 hb.grown h hB (fun k hk=>by injection hk with hk;omega)
theorem Rd.wrote{w w':World}{A:Option Addr}{n g:Nat}{xs:List Value}(h:Rd w A n xs)(hw:Wrote g w w')(hA:0<n→∀ad:Addr,A=some ad→ad.block≠g):Rd w' A n xs :=
 ⟨h.1,fun hn=>by
  obtain⟨b,off,e,hbl,hc⟩:=h.2 hn
  exact⟨b,off,e,Nat.lt_of_lt_of_le hbl hw.size,fun j u hu=>(World.grownBy.cell_far hw ⟨b,off+j,none⟩ hbl (fun e'=>hA hn _ e (by injection e'))).trans (hc j u hu)⟩⟩
theorem Rd.apart{w:World}{A:Option Addr}{n g:Nat}{xs:List Value}(h:Rd w A n xs)(hg:w.heap.size≤g):0<n→∀ad:Addr,A=some ad→ad.block≠g:=fun hn ad e=>by
 obtain⟨b,off,e',hbl,_⟩:=h.2 hn;rw[e]at e'
 injection e' with e'
 subst e'
 show b≠g
 omega
theorem Blk.wrote{w w':World}{g g':Nat}{t:TypeId}{cs:List Value}(h:Blk w g' t cs)(hw:Wrote g w w')(hne:g'≠g):Blk w' g' t cs:=h.grown hw (fun e=>hne (by injection e))
section
section
variable{P:Program}{ops:Array Oper}{Q:Exit→Act→World→Prop}{md:Region.Mode}{T:World→Prop}{k:Nat}
def AnyK(P:Program)(md:Region.Mode)(ops:Array Oper)(Q:Exit→Act→World→Prop)(k:Nat)(T:World→Prop):Nat→Array Bool→Act→World→Prop
 | 0,listed,a,w=>Region.ready md ops listed=[]∧Q .normal a w
 | fuel+1,listed,a,w =>
  (Region.ready md ops listed=[]→Q .normal a w) ∧
  ∀i∈Region.ready md ops listed,wpOp P ops Q i (fun a' w'=>((listed.setIfInBounds i true).getD k true=false→T w')∧AnyK P md ops Q k T fuel (listed.setIfInBounds i true) a' w') a w
theorem AnyK.any:∀(fuel:Nat) (listed:Array Bool) (a:Act) (w:World),AnyK P md ops Q k T fuel listed a w→wpAny P md ops Q fuel listed a w
 | 0,_,_,_,h=>h
 | fuel+1,_,_,_,h=>⟨h.1,fun i hi=>wpOp_mono (fun a' w' h'=>AnyK.any fuel _ a' w' h'.2) (h.2 i hi)⟩
theorem zd7{id:Nat}{a:Act}{w:World}(hm:P.follows .mixedOrders=true)(k:Nat)(T:World→Prop)
 (h:AnyK P .any ops Q k T ops.size (Array.replicate ops.size false) a { w with drawn:=w.drawn+1 }):(Code.region id ops true).wp P Q a w :=
 wp_region_any hm (AnyK.any _ _ _ _ h)
theorem AnyK.first{i:Nat}{oi:Oper}{v:Value}{S:World→Prop}(hi:ops[i]? = some oi)(hik:i≠k)(hsel:∀(j:Nat) (o:Oper) cs b,ops[j]? = some o→o.op≠.select cs b)
 (hQ:∀c a w,Q (.panic c) (a.put oi.dst v) w→Q (.panic c) a w)
 (hS:(∀w,S w)∨((∀w,T w→S w)∧∃ok,ops[k]? = some ok∧∃e∈ok.after,Region.binds md e=true∧e.on=i)):
 ∀(fuel:Nat) (listed:Array Bool) (a:Act) (w:World),
   (∀j oj,ops[j]? = some oj→j≠i→listed.getD j true=false→(∀e∈oj.after,Region.binds md e=true→e.on≠i)→oi.apart ops oj=true) →
   i∈Region.ready md ops listed→YieldsIf P ops S oi v a→S w→(listed.getD k true=false→T w)→((∀w,S w)∨listed.getD k true=false) →
   AnyK P md ops Q k T fuel (listed.setIfInBounds i true) (a.put oi.dst v) w→AnyK P md ops Q k T (fuel+1) listed a w:=by
 have hset:∀(L:Array Bool),(L.setIfInBounds i true).getD k true=L.getD k true:=fun L=>getD_set_ne true hik
 intro fuel
 induction fuel with
 | zero =>
  intro listed a w _ hr hy hSw hT _ H;refine⟨fun h=>(by rw[h]at hr;cases hr),fun j hj=>?_⟩
  by_cases hji:j=i
  · subst hji;exact hy.wpOp hi hSw ⟨fun h=>hT (by rwa [hset]at h),H⟩
  · have:=ready_mono hj hji
    rw[H.1]at this
    cases this
 | succ fuel ih =>
  intro listed a w hfree hr hy hSw hT hl H;refine⟨fun h=>(by rw[h]at hr;cases hr),fun j hj=>?_⟩
  by_cases hji:j=i
  · subst hji;exact hy.wpOp hi hSw ⟨fun h=>hT (by rwa [hset]at h),H⟩
  · have h1:=H.2 j (ready_mono hj hji)
    obtain⟨hjun,oj,hoj,hall⟩:=mem_ready.1 hj
    have hnot:∀e∈oj.after,Region.binds md e=true→e.on≠i:=fun e he hb heq=>by
     have h1:=hall e he hb;have h0:=(mem_ready.1 hr).1;rw[heq]at h1
     rcases Nat.lt_or_ge i listed.size with h' | h'
     · simp[h']at h0 h1;rw[h0]at h1;cases h1
     · simp[Array.getElem?_eq_none h']at h1
    have h2:=wpOp_putIf hoj (hfree j oj hoj hji hjun hnot) (fun cs b=>hsel i oi cs b hi) (fun cs b=>hsel j oj cs b hoj) hQ hy h1
    have hfree':∀k ok,ops[k]? = some ok→k≠i→(listed.setIfInBounds j true).getD k true=false →
        (∀e∈ok.after,Region.binds md e=true→e.on≠i)→oi.apart ops ok=true:=fun k ok hk hki hun hno=>by
     refine hfree k ok hk hki ?_ hno
     by_cases hjk:j=k
     · subst hjk;exact hjun
     · rw[getD_set_ne true hjk]at hun;exact hun
    have hkj:(∀w,S w)∨(listed.setIfInBounds j true).getD k true=false:=by
     rcases hS with hS|⟨_,ok,hok,e,he,hb,hei⟩
     · exact .inl hS
     · rcases hl with hl|hl
       · exact .inl hl
       · have hjk:j≠k:=by
          rintro rfl;rw[hok]at hoj
          injection hoj with hoj
          subst hoj;exact hnot e he hb hei
         exact .inr (by rw[getD_set_ne true hjk];exact hl)
    refine wpOp_mono (fun a' w' h3=>?_) h2;have hT':(listed.setIfInBounds j true).getD k true=false→T w':=fun h=>h3.2.1 (by rw[Array.setIfInBounds_comm _ _ (Ne.symm hji),hset];exact h)
    refine⟨hT',ih (listed.setIfInBounds j true) a' w' hfree' (ready_mono hr (Ne.symm hji)) h3.1 ?_ hT' hkj ?_⟩
    · rcases hkj with hkj|hkj
      · exact hkj w'
      · rcases hS with hS|⟨hS,_⟩
        · exact hS w'
        · exact hS w' (hT' hkj)
    · rw[Array.setIfInBounds_comm _ _ hji]
      exact h3.2.2
def awaits(md:Region.Mode)(ops:Array Oper)(k i:Nat):Bool:=match ops[k]? with|some ok=>ok.after.any fun e=>Region.binds md e && e.on == i|none=>false
theorem zdg{i:Nat}(h:awaits md ops k i=true):∃ok,ops[k]? = some ok∧∃e∈ok.after,Region.binds md e=true∧e.on=i:=by
 unfold awaits at h
 split at h
 · rename_i ok hk
   obtain⟨e,he,hb⟩:=Array.any_eq_true'.1 h;simp only[Bool.and_eq_true,beq_iff_eq]at hb;exact⟨ok,hk,e,he,hb.1,hb.2⟩
 · cases h
def takeB(md:Region.Mode)(ops:Array Oper)(listed:Array Bool)(k i:Nat):Bool:=decide (i≠k) && Region.noSelect ops && Region.free md ops listed i && (Region.ready md ops listed).contains i
theorem AnyK.pure{fuel:Nat}{listed:Array Bool}{a:Act}{w:World}(i:Nat){oi:Oper}{v:Value}(hi:ops[i]? = some oi)(hd:takeB md ops listed k i=true)
 (hQ:∀c a w,Q (.panic c) (a.put oi.dst v) w→Q (.panic c) a w) (hg:oi.guard=none) (hy:∀w,(execOp a.eval oi).run P w=.ok (.value v) w) (hT:listed.getD k true=false→T w)
 (h:AnyK P md ops Q k T fuel (listed.setIfInBounds i true) (a.put oi.dst v) w):AnyK P md ops Q k T (fuel+1) listed a w:=by
 simp only[takeB,Bool.and_eq_true,decide_eq_true_eq]at hd;obtain⟨⟨⟨h1,h2⟩,h3⟩,h4⟩:=hd;exact AnyK.first (S:=fun _=>True) hi h1 (Region.noSelect_spec h2) hQ (.inl fun _=>trivial) fuel listed a w (Region.free_spec hi h3) (by simpa using h4) (.inl ⟨by simp[Region.wanted,hg],fun w _=>hy w⟩) trivial hT (.inl fun _=>trivial) h
theorem AnyK.load{fuel:Nat}{listed:Array Bool}{a:Act}{w:World}(i:Nat){oi:Oper}{v:Value}(hi:ops[i]? = some oi)(hd:takeB md ops listed k i=true)(hk:awaits md ops k i=true)(hl:listed.getD k true=false)
 (hQ:∀c a w,Q (.panic c) (a.put oi.dst v) w→Q (.panic c) a w) (hg:oi.guard=none) (hy:∀w,T w→(execOp a.eval oi).run P w=.ok (.value v) w) (hT:T w)
 (h:AnyK P md ops Q k T fuel (listed.setIfInBounds i true) (a.put oi.dst v) w):AnyK P md ops Q k T (fuel+1) listed a w:=by
 simp only[takeB,Bool.and_eq_true,decide_eq_true_eq]at hd;obtain⟨⟨⟨h1,h2⟩,h3⟩,h4⟩:=hd;exact AnyK.first (S:=T) hi h1 (Region.noSelect_spec h2) hQ (.inr ⟨fun _ h=>h,zdg hk⟩) fuel listed a w (Region.free_spec hi h3) (by simpa using h4) (.inl ⟨by simp[Region.wanted,hg],hy⟩) hT (fun _=>hT) (.inr hl) h
theorem AnyK.one{fuel:Nat}{listed:Array Bool}{a:Act}{w:World}(i:Nat){oi:Oper}(hi:ops[i]? = some oi)(hr:Region.ready md ops listed=[i])(hg:oi.guard=none)
 (h:oi.wp P a w (fun a' w'=>((listed.setIfInBounds i true).getD k true=false→T w')∧AnyK P md ops Q k T fuel (listed.setIfInBounds i true) a' w') Q):AnyK P md ops Q k T (fuel+1) listed a w:=by
 refine⟨fun h0=>(by rw[hr]at h0;cases h0),fun j hj=>?_⟩;rw[hr]at hj;obtain rfl:j=i:=by simpa using hj
 unfold wpOp
 simp only[hi];rw[if_pos (by simp[Region.wanted,hg])];exact .inl h
theorem AnyK.enter{fuel:Nat}{listed:Array Bool}{a:Act}{w:World}(i:Nat){d:Option Tmp}{f:FuncId}{args:Array Value}(hi:(ops[i]?).map (fun o=>(o.dst,o.guard))=some (d,none))(hrun:(ops[i]?).map (fun o=>(execOp a.eval o).run P w)=some (.ok (.enter f args) w))(hr:Region.ready md ops listed=[i])
 (h:Calls P f args w fun e w'=>∃v,e=.returned v∧((listed.setIfInBounds i true).getD k true=false→T w')∧AnyK P md ops Q k T fuel (listed.setIfInBounds i true) (a.put d v) w'):AnyK P md ops Q k T (fuel+1) listed a w:=by
 cases ho:ops[i]? with
 | none=>simp[ho]at hi
 | some o =>
  simp only[ho,Option.map_some,Option.some.injEq,Prod.mk.injEq]at hi hrun;obtain⟨rfl,hg⟩:=hi;refine AnyK.one i ho hr hg ?_
  unfold Oper.wp
  rw[hrun];refine Calls.mono h ?_;rintro e w' ⟨v,rfl,h1,h2⟩;exact⟨h1,h2⟩
theorem AnyK.store{fuel:Nat}{listed:Array Bool}{a:Act}{w w':World}(i:Nat){d:Option Tmp}{op:Op}(hi:(ops[i]?).map (fun o=>(o.dst,o.op,o.guard))=some (d,op,none))(hrun:∀o:Oper,o.op=op→(execOp a.eval o).run P w=.ok .skip w')(hr:Region.ready md ops listed=[i])
 (h1:(listed.setIfInBounds i true).getD k true=false→T w') (h:AnyK P md ops Q k T fuel (listed.setIfInBounds i true) (a.put d undef) w'):AnyK P md ops Q k T (fuel+1) listed a w:=by
 cases ho:ops[i]? with
 | none=>simp[ho]at hi
 | some o =>
  simp only[ho,Option.map_some,Option.some.injEq,Prod.mk.injEq]at hi;obtain⟨rfl,hop,hg⟩:=hi;refine AnyK.one i ho hr hg ?_
  unfold Oper.wp
  rw[hrun o hop];exact⟨h1,h⟩
theorem AnyK.done{fuel:Nat}{listed:Array Bool}{a:Act}{w:World}(hr:Region.ready md ops listed=[])(h:Q .normal a w):AnyK P md ops Q k T fuel listed a w:=by
 cases fuel with
 | zero=>exact⟨hr,h⟩
 | succ fuel=>exact⟨fun _=>h,by rw[hr];simp⟩
end
end
section
section
variable{P:Program}{ops:Array Oper}{Q:Exit→Act→World→Prop}{md:Region.Mode}{T:World→Prop}{k:Nat}
theorem AnyK.fork{fuel:Nat}{listed:Array Bool}{a:Act}{w:World}(i j:Nat){oi oj:Oper}(hi:ops[i]? = some oi)(hj:ops[j]? = some oj)(hr:Region.ready md ops listed=[i,j])(hg:oi.guard=none)(hg':oj.guard=none)
 (h:oi.wp P a w (fun a' w'=>((listed.setIfInBounds i true).getD k true=false→T w')∧AnyK P md ops Q k T fuel (listed.setIfInBounds i true) a' w') Q)
 (h':oj.wp P a w (fun a' w'=>((listed.setIfInBounds j true).getD k true=false→T w')∧AnyK P md ops Q k T fuel (listed.setIfInBounds j true) a' w') Q):AnyK P md ops Q k T (fuel+1) listed a w:=by
 refine⟨fun h0=>(by rw[hr]at h0;cases h0),fun x hx=>?_⟩;rw[hr]at hx;have hx':x=i∨x=j:=by simpa using hx
 rcases hx' with rfl|rfl
 · unfold wpOp
   simp only[hi];rw[if_pos (by simp[Region.wanted,hg])];exact .inl h
 · unfold wpOp
   simp only[hj];rw[if_pos (by simp[Region.wanted,hg'])];exact .inl h'
theorem AnyK.val{fuel:Nat}{listed:Array Bool}{a:Act}{w:World}(i:Nat){oi:Oper}{v:Value}(hi:ops[i]? = some oi)(hr:Region.ready md ops listed=[i])(hg:oi.guard=none)(hy:(execOp a.eval oi).run P w=.ok (.value v) w)
 (h1:(listed.setIfInBounds i true).getD k true=false→T w) (h:AnyK P md ops Q k T fuel (listed.setIfInBounds i true) (a.put oi.dst v) w):AnyK P md ops Q k T (fuel+1) listed a w:=by
 refine AnyK.one i hi hr hg ?_
 unfold Oper.wp
 rw[hy,Oper.upon_value];exact⟨h1,h⟩
end
end
def ldAt(ty:TypeId)(v:Value):Sem Value:=Instr.loadAt ty v
theorem zbg{P:Program}{w:World}{g:Nat}{t:TypeId}{cs:List Value}(hB:Blk w g t cs)(ty:TypeId)(o:Nat)(ds:List Value)(hd:(cs.drop o).take ds.length=ds)(d:TypeDesc)(hu:P.underlying ty=some d)(hr:d.isRow=true)(hi:(P.info? ty).map (·.size)=some ds.length):
 (ldAt ty (.pointer (some ⟨g,o,none⟩))).run P w=.ok (.agg ds.toArray) w :=
 run_loadAt_mid w g o ty ds d (hB.mid o ds fun j v hv=>by
  rw[←hd,List.getElem?_take]at hv
  split at hv
  · simpa using hv
  · cases hv) hu hr hi
theorem Blk.set_{w:World}{g:Nat}{t:TypeId}{cs:List Value}(h:Blk w g t cs)(i:Nat)(u:Value):Blk (w.setCell ⟨g,i,none⟩ u) g t (cs.set i u):=by
 unfold Blk at h ⊢
 simp[World.setCell,Array.getElem?_modify,h]
section
section
variable{P:Program}{ops:Array Oper}{Q:Exit→Act→World→Prop}{md:Region.Mode}{T:World→Prop}{k:Nat}
def fAct(a:Act)(d:Tmp):Option Nat→Act
 | none=>a
 | some g=>a.put (some d) (.pointer (some ⟨g,0,none⟩))
def fSet(L:Array Bool)(j:Nat):Option Nat→Array Bool
 | none=>L
 | some _=>L.setIfInBounds j true
def fWorld(B:Nat)(ty:TypeId)(Z:List Value)(W:World):Option Nat→Prop
 | none=>True
 | some g=>B≤g∧Blk W g ty Z
def fFuel(fuel:Nat):Option Nat→Nat
 | none=>fuel+1
 | some _=>fuel
def AnyF(P:Program)(md:Region.Mode)(ops:Array Oper)(Q:Exit→Act→World→Prop)(k:Nat)(T:World→Prop)(j:Nat)(d:Tmp)(B:Nat)(ty:TypeId)(Z:List Value)(fuel:Nat)(listed:Array Bool)(a:Act)(R:World→Prop):Prop :=
 ∀st W,R W→fWorld B ty Z W st→AnyK P md ops Q k T (fFuel fuel st) (fSet listed j st) (fAct a d st) W
variable{j:Nat}{d:Tmp}{B:Nat}{ty:TypeId}{Z:List Value}
theorem AnyF.start{fuel:Nat}{listed:Array Bool}{a:Act}{w:World}(j:Nat)(d:Tmp)(B:Nat)(ty:TypeId)(Z:List Value)(R:World→Prop)(hR:R w)(h:AnyF P md ops Q k T j d B ty Z fuel listed a R):AnyK P md ops Q k T (fuel+1) listed a w:=h none w hR trivial
theorem zcx(L:Array Bool)(i j:Nat)(h:i≠j)(st:Option Nat):(fSet L j st).setIfInBounds i true=fSet (L.setIfInBounds i true) j st:=by
 cases st with
 | none=>rfl
 | some g=>exact Array.setIfInBounds_comm _ _ (Ne.symm h)
theorem zcy(a:Act)(d:Tmp)(x:Option Tmp)(v:Value)(h:x≠some d)(st:Option Nat):(fAct a d st).put x v=fAct (a.put x v) d st:=by
 cases st with
 | none=>rfl
 | some g=>exact(Act.put_comm a _ _ (fun e h1 h2=>h (by rw[h1];exact h2.symm ▸ rfl))).symm
theorem AnyF.pure{fuel:Nat}{listed:Array Bool}{a:Act}{R:World→Prop}(i:Nat){oi:Oper}{v:Value}(hi:ops[i]? = some oi)(hij:i≠j)(hd:∀g,takeB md ops (fSet listed j g) k i=true)
 (hQ:∀c a w,Q (.panic c) (a.put oi.dst v) w→Q (.panic c) a w) (hg:oi.guard=none) (hod:oi.dst≠some d) (hy:∀st w,(execOp (fAct a d st).eval oi).run P w=.ok (.value v) w) (hT:∀W,R W→T W)
 (h:AnyF P md ops Q k T j d B ty Z fuel (listed.setIfInBounds i true) (a.put oi.dst v) R):AnyF P md ops Q k T j d B ty Z (fuel+1) listed a R:=by
 intro st W hR hF;have e:fFuel (fuel+1) st=fFuel fuel st+1:=by cases st <;> rfl
 rw[e];refine AnyK.pure i hi (hd st) hQ hg (hy st) (fun _=>hT W hR) ?_;rw[zcx _ _ _ hij,zcy _ _ _ _ hod];exact h st W hR hF
theorem AnyF.load{fuel:Nat}{listed:Array Bool}{a:Act}{R:World→Prop}(i:Nat){oi:Oper}{v:Value}(hi:ops[i]? = some oi)(hij:i≠j)(hd:∀g,takeB md ops (fSet listed j g) k i=true)(hk:awaits md ops k i=true)(hl:∀g,(fSet listed j g).getD k true=false)
 (hQ:∀c a w,Q (.panic c) (a.put oi.dst v) w→Q (.panic c) a w) (hg:oi.guard=none) (hod:oi.dst≠some d) (hy:∀st w,T w→(execOp (fAct a d st).eval oi).run P w=.ok (.value v) w) (hT:∀W,R W→T W)
 (h:AnyF P md ops Q k T j d B ty Z fuel (listed.setIfInBounds i true) (a.put oi.dst v) R):AnyF P md ops Q k T j d B ty Z (fuel+1) listed a R:=by
 intro st W hR hF;have e:fFuel (fuel+1) st=fFuel fuel st+1:=by cases st <;> rfl
 rw[e];refine AnyK.load i hi (hd st) hk (hl st) hQ hg (hy st) (hT W hR) ?_;rw[zcx _ _ _ hij,zcy _ _ _ _ hod];exact h st W hR hF
theorem AnyF.call{fuel:Nat}{listed:Array Bool}{a:Act}{R:World→Prop}(i:Nat){d1:Tmp}{f:FuncId}{args:Array Value}{oi oj:Oper}{X:Type}(v:X→Value)(R':X→World→Prop)
 (hi:ops[i]? = some oi) (hid:oi.dst=some d1) (hig:oi.guard=none) (hij:i≠j) (hdd:some d1≠some d) (hirun:∀st w,(execOp (fAct a d st).eval oi).run P w=.ok (.enter f args) w)
 (hj:ops[j]? = some oj) (hjd:oj.dst=some d) (hjg:oj.guard=none) (hjrun:∀(b:Act) w,(execOp b.eval oj).run P w=.ok (.value (.pointer (some ⟨w.heap.size,0,none⟩))) (w.alloc (.cells Z.toArray ty)))
 (hr0:Region.ready md ops listed=[i,j]∨Region.ready md ops listed=[j,i]) (hr1:Region.ready md ops (listed.setIfInBounds j true)=[i])
 (hRa:∀W o,R W→R (W.alloc o)) (hRB:∀W,R W→B≤W.heap.size) (hT:∀W,R W→T W) (hT':∀x W,R' x W→T W)
 (hcall:∀W,R W→Calls P f args W fun e w'=>∃x,e=.returned (v x)∧R' x w'∧Below W.heap.size W w')
 (h:∀x,AnyF P md ops Q k T j d B ty Z fuel (listed.setIfInBounds i true) (a.put (some d1) (v x)) (R' x)):AnyF P md ops Q k T j d B ty Z (fuel+1) listed a R:=by
 have some_:∀g W,R W→B≤g→Blk W g ty Z→AnyK P md ops Q k T (fuel+1) (listed.setIfInBounds j true) (a.put (some d) (.pointer (some ⟨g,0,none⟩))) W:=fun g W hR hg hb=>by
  refine AnyK.one i hi hr1 hig ?_
  unfold Oper.wp
  rw[show(execOp (a.put (some d) (.pointer (some ⟨g,0,none⟩))).eval oi).run P W=_ from hirun (some g) W];refine Calls.mono (hcall W hR) ?_;rintro e w' ⟨x,rfl,hR',hB⟩;refine⟨fun _=>hT' x w' hR',?_⟩;rw[hid];have h2:=h x (some g) w' hR' ⟨hg,hb.below hB hb.lt⟩;rw[←zcx _ _ _ hij,←zcy _ _ _ _ hdd]at h2;exact h2
 intro st W hR hF
 cases st with
 | some g=>exact some_ g W hR hF.1 hF.2
 | none =>
  have b1:oi.wp P a W (fun a' w'=>((listed.setIfInBounds i true).getD k true=false→T w')∧AnyK P md ops Q k T (fuel+1) (listed.setIfInBounds i true) a' w') Q:=by
   unfold Oper.wp
   rw[show(execOp a.eval oi).run P W=_ from hirun none W];refine Calls.mono (hcall W hR) ?_;rintro e w' ⟨x,rfl,hR',hB⟩;refine⟨fun _=>hT' x w' hR',?_⟩;rw[hid];exact h x none w' hR' trivial
  have b2:oj.wp P a W (fun a' w'=>((listed.setIfInBounds j true).getD k true=false→T w')∧AnyK P md ops Q k T (fuel+1) (listed.setIfInBounds j true) a' w') Q:=by
   unfold Oper.wp
   rw[hjrun];rw[Oper.upon_value,hjd];exact⟨fun _=>hT _ (hRa _ _ hR),some_ _ _ (hRa _ _ hR) (hRB _ hR) (Blk.new _ _ _)⟩
  rcases hr0 with hr0|hr0
  · exact AnyK.fork i j hi hj hr0 hig hjg b1 b2
  · exact AnyK.fork j i hj hi hr0 hjg hig b2 b1
theorem AnyF.fin{fuel:Nat}{listed:Array Bool}{a:Act}{R:World→Prop}{oj:Oper}
 (hj:ops[j]? = some oj) (hjd:oj.dst=some d) (hjg:oj.guard=none) (hjrun:∀(b:Act) w,(execOp b.eval oj).run P w=.ok (.value (.pointer (some ⟨w.heap.size,0,none⟩))) (w.alloc (.cells Z.toArray ty)))
 (hr0:Region.ready md ops listed=[j]) (hRa:∀W o,R W→R (W.alloc o)) (hRB:∀W,R W→B≤W.heap.size) (hT:∀W,R W→T W)
 (h:∀g W,B≤g→Blk W g ty Z→R W→AnyK P md ops Q k T fuel (listed.setIfInBounds j true) (a.put (some d) (.pointer (some ⟨g,0,none⟩))) W):AnyF P md ops Q k T j d B ty Z fuel listed a R:=by
 intro st W hR hF
 cases st with
 | some g=>exact h g W hF.1 hF.2 hR
 | none =>
  refine AnyK.one j hj hr0 hjg ?_
  unfold Oper.wp
  rw[hjrun,Oper.upon_value,hjd];exact⟨fun _=>hT _ (hRa _ _ hR),h _ _ (hRB _ hR) (Blk.new _ _ _) (hRa _ _ hR)⟩
theorem AnyK.storeAll{fuel:Nat}{listed:Array Bool}{a:Act}{w:World}(i:Nat){oi:Oper}{t:TypeId}{x y:Operand}(g:Nat)(cs:List Value)(t':TypeId)(Z:List Value)(hi:ops[i]? = some oi)(hid:oi.dst=none)(hg:oi.guard=none)(ho:oi.op=.store t x y)(hr:Region.ready md ops listed=[i])
 (hx:a.eval x=.pointer (some ⟨g,0,none⟩)) (hy:a.eval y=.agg cs.toArray) (hb:Blk w g t' Z) (hsz:(P.info? t).map (·.size)=some cs.length) (hone:∀v∈cs,v.oneCell'=true) (hlen:cs.length=Z.length)
 (hT:∀w',Blk w' g t' cs→Only w w' g→(listed.setIfInBounds i true).getD k true=false→T w')
 (h:∀w',Blk w' g t' cs→Only w w' g→AnyK P md ops Q k T fuel (listed.setIfInBounds i true) (a.put none undef) w'):AnyK P md ops Q k T (fuel+1) listed a w:=by
 refine AnyK.one i hi hr hg ?_;refine zdi t x y ho g 0 cs hx hy t' Z hb hsz hone om ?_;intro w' hb' ho';rw[zbl _ _ hlen]at hb';rw[hid];exact⟨hT w' hb' ho',h w' hb' ho'⟩
end
section
variable{P:Program}{w:World}{o:Oper}{a:Act}
theorem zac{t:TypeId}{x:Operand}{p:Addr}{v:Value}(ho:o.op=.load t x)(hx:a.eval x=.pointer (some p))(h:(ldAt t (.pointer (some p))).run P w=.ok v w):(execOp a.eval o).run P w=.ok (.value v) w:=by
 unfold execOp
 have h2:(Instr.loadAt t (.pointer (some p))).run P w=.ok v w:=h
 simp[ho,hx,h2]
end
section
variable{P:Program}{ops:Array Oper}{Q:Exit→Act→World→Prop}{md:Region.Mode}{T:World→Prop}{k:Nat}
def AnyR(P:Program)(md:Region.Mode)(ops:Array Oper)(Q:Exit→Act→World→Prop)(k:Nat)(T:World→Prop)(fuel:Nat)(listed:Array Bool)(a:Act)(w:World):Prop :=
 (∀c (a:Act) w (d:Tmp) v,Q (.panic c) (a.put (some d) v) w→Q (.panic c) a w)→(listed.getD k true=false→T w)→AnyK P md ops Q k T fuel listed a w
theorem kgo{id:Nat}{a:Act}{w:World}(hm:P.follows .mixedOrders=true)(k:Nat)(T:World→Prop)(hT:T { w with drawn:=w.drawn+1 })(hQ:∀c (a:Act) w (d:Tmp) v,Q (.panic c) (a.put (some d) v) w→Q (.panic c) a w)
 (h:AnyR P .any ops Q k T ops.size (Array.replicate ops.size false) a { w with drawn:=w.drawn+1 }):(Code.region id ops true).wp P Q a w:=zd7 hm k T (h hQ fun _=>hT)
theorem kp{fuel:Nat}{listed:Array Bool}{a:Act}{w:World}(i:Nat)(v:Value){oi:Oper}(hi:ops[i]? = some oi)(hd:(takeB md ops listed k i && oi.guard.isNone && oi.dst.isSome)=true)(hy:∀w,(execOp a.eval oi).run P w=.ok (.value v) w)
 (h:AnyR P md ops Q k T fuel (listed.setIfInBounds i true) (a.put oi.dst v) w):AnyR P md ops Q k T (fuel+1) listed a w:=by
 intro hQ hT;simp only[Bool.and_eq_true,Option.isNone_iff_eq_none]at hd;obtain⟨⟨h1,h2⟩,h3⟩:=hd;obtain⟨t,ht⟩:=Option.isSome_iff_exists.1 h3;refine AnyK.pure i hi h1 (fun c a w hq=>hQ c a w t v (ht ▸ hq)) h2 hy hT (h hQ fun hl=>hT ?_);simp only[takeB,Bool.and_eq_true,decide_eq_true_eq]at h1
 rwa [getD_set_ne true h1.1.1.1]at hl
theorem kl{fuel:Nat}{listed:Array Bool}{a:Act}{w:World}(i:Nat)(v:Value){oi:Oper}(hi:ops[i]? = some oi)(hd:(takeB md ops listed k i && awaits md ops k i && !listed.getD k true && oi.guard.isNone && oi.dst.isSome)=true)(hy:∀w,T w→(execOp a.eval oi).run P w=.ok (.value v) w)
 (h:AnyR P md ops Q k T fuel (listed.setIfInBounds i true) (a.put oi.dst v) w):AnyR P md ops Q k T (fuel+1) listed a w:=by
 intro hQ hT;simp only[Bool.and_eq_true,Option.isNone_iff_eq_none,Bool.not_eq_true']at hd;obtain⟨⟨⟨⟨h1,h2⟩,h3⟩,h4⟩,h5⟩:=hd;obtain⟨t,ht⟩:=Option.isSome_iff_exists.1 h5;refine AnyK.load i hi h1 h2 h3 (fun c a w hq=>hQ c a w t v (ht ▸ hq)) h4 hy (hT h3) (h hQ fun _=>hT h3)
end
section
variable{P:Program}{ops:Array Oper}{Q:Exit→Act→World→Prop}{md:Region.Mode}{T:World→Prop}{k:Nat}
theorem AnyK.pu{fuel:Nat}{listed:Array Bool}{a:Act}{w:World}(i:Nat){oi:Oper}{v:Value}(hT:listed.getD k true=false→T w)
 (h:AnyK P md ops Q k T fuel (listed.setIfInBounds i true) (a.put oi.dst v) w) (hi:ops[i]? = some oi:=by rfl) (hd:takeB md ops listed k i=true:=by kernel_rfl)
 (hQ:∀c a w,Q (.panic c) (a.put oi.dst v) w→Q (.panic c) a w:=by exact fun _ _ _ h=>h) (hg:oi.guard=none:=by rfl) (hy:∀w,(execOp a.eval oi).run P w=.ok (.value v) w:=by exact fun _=>by kernel_rfl):AnyK P md ops Q k T (fuel+1) listed a w:=AnyK.pure i hi hd hQ hg hy hT h
theorem AnyK.lo{fuel:Nat}{listed:Array Bool}{a:Act}{w:World}(i:Nat){oi:Oper}{v:Value}(hi:ops[i]? = some oi)(hy:∀w,T w→(execOp a.eval oi).run P w=.ok (.value v) w)(hT:T w)
 (h:AnyK P md ops Q k T fuel (listed.setIfInBounds i true) (a.put oi.dst v) w) (hd:takeB md ops listed k i=true:=by kernel_rfl) (hk:awaits md ops k i=true:=by kernel_rfl) (hl:listed.getD k true=false:=by kernel_rfl)
 (hQ:∀c a w,Q (.panic c) (a.put oi.dst v) w→Q (.panic c) a w:=by exact fun _ _ _ h=>h) (hg:oi.guard=none:=by rfl):AnyK P md ops Q k T (fuel+1) listed a w:=AnyK.load i hi hd hk hl hQ hg hy hT h
end
end
end Go.Proofs.YtafjkbbiaopemaaGreatDoor
namespace Go.Proofs.YtafjkbbiaopemaaGreatDoor.Lx
open Go.RowKit
structure Tok where
 kind:Nat
 text:List UInt8
 num:Nat
 at_:Nat
def letter(c:UInt8):Bool:=97≤c && c≤122
def digit(c:UInt8):Bool:=48≤c && c≤57
def alnum(c:UInt8):Bool:=digit c || letter c
def blank(c:UInt8):Bool:=c == 32 || c == 9 || c == 10
def marks:List UInt8:=[59,44,123,125,40,41,61,62,64,33,43,45,42]
def mark(c:UInt8):Bool:=marks.contains c
def words:List (List UInt8) :=
 [[97,99,107,101,100],[97,102,116,101,114],[97,115],[98,108,111,99,107],[99,111,118,101,114],[101,108,115,101],[101,118,101,114,121],[105,102],[106,111,105,110],[108,101,116],
  [114,101,112,101,97,116],[114,101,116,114,121],[114,111,117,116,101],[115,101,110,100],[115,112,108,105,116],[116,105,109,101,115],[118,105,97],[119,97,105,116],[119,105,116,104]]
def reserved(t:List UInt8):Bool:=words.contains t
def hexDigits:List UInt8:=[48,49,50,51,52,53,54,55,56,57,97,98,99,100,101,102]
def hexV(c:UInt8):Option Nat:=if digit c then some (c.toNat-48) else if 97≤c && c≤102 then some (c.toNat-87) else none
def skip(com:Bool):List UInt8→List UInt8
 | []=>[]
 | c :: r=>if com then (if c == 10 then skip false r else skip true r) else if blank c then skip false r else if c == 35 then skip true r else c :: r
def esc:List UInt8→Option (UInt8 × Nat)
 | []=>none
 | c :: r =>
  if c == 34 || c == 92 then some (c,2)
  else if c == 110 then some (10,2)
  else if c == 120 then
   match r with
   | h :: l :: _=>match hexV h,hexV l with
    | some a,some b=>some (UInt8.ofNat (16*a+b),4)
    | _,_=>none
   | _=>none
  else none
def text:Nat→List UInt8→List UInt8→Sum (List UInt8) (List UInt8 × List UInt8)
 | 0,r,_=>.inl r
 | f+1,r,acc =>
  match r with
  | []=>.inl []
  | c :: r' =>
   if c == 34 then .inr (acc,r')
   else if c == 92 then
    match esc r' with
    | none=>.inl r
    | some (m,k)=>text f (r.drop k) (acc++[m])
   else if c<32 || c>126 then .inl r
   else text f r' (acc++[c])
def numOf(t:List UInt8):Nat:=t.foldl (fun n c=>10*n+(c.toNat-48)) 0
def token(r:List UInt8):Sum (List UInt8) (Nat × List UInt8 × Nat × List UInt8) :=
 match r with
 | []=>.inl []
 | c :: r' =>
  if letter c then
   let t:=r.takeWhile alnum
   if t.length>16 then .inl r else .inr (if reserved t then 2 else 1,t,0,r.drop t.length)
  else if digit c then
   let t:=r.takeWhile digit
   if t.length>9 || (t.length>1 && c == 48) then .inl r
   else if (r.drop t.length).head?.any letter then .inl (r.drop t.length)
   else .inr (3,t,numOf t,r.drop t.length)
  else if c == 34 then
   match text r'.length.succ r' []with
   | .inl x=>.inl x
   | .inr (b,x)=>.inr (4,b,0,x)
  else if mark c then .inr (5,[c],0,r')
  else .inl r
def scanF(n:Nat):Nat→List UInt8→List Tok→Sum (List UInt8) (List Tok)
 | 0,r,_=>.inl r
 | f+1,r,acc =>
  match skip false r with
  | []=>.inr (acc++[⟨6,[],0,n⟩])
  | c :: r1 =>
   match token (c :: r1)with
   | .inl x=>.inl x
   | .inr (k,t,m,x)=>scanF n f x (acc++[⟨k,t,m,n-(c :: r1).length⟩])
def scan(s:List UInt8):(Nat × Nat) × List Tok :=
 if s.length>8000 then ((2,0),[])
 else match scanF s.length (s.length+1) s []with
  | .inl x=>((9,s.length-x.length),[])
  | .inr ts=>((0,0),ts)
end Go.Proofs.YtafjkbbiaopemaaGreatDoor.Lx
namespace Go.Proofs.YtafjkbbiaopemaaGreatDoor
open Go.RowKit
def Tryz.lays137_ren:Go.Shelf.Ren:=⟨fun|137=>104 | 217=>125 | 266=>135 | n=>n,fun|9=>9 | 5=>5 | 3=>3 | n=>n,fun|n=>n⟩
theorem Tryz.lays137:Go.Proofs.Lays.n137 Tryz.prog Tryz.lays137_ren:={
 mixed:=by kernel_rfl
 f137:=Tryz.func104.trans (congrArg some kr)
 f217:=Tryz.func125.trans (congrArg some kr)
 f266:=Tryz.func135.trans (congrArg some kr)
 t3:=Tryz.underlying3
 a3:=Tryz.isAgg3
 z3:=Tryz.sizeOf3
 v3:=Tryz.zeroValue3
 t5:=Tryz.underlying5
 a5:=Tryz.isAgg5
 z5:=Tryz.sizeOf5
 v5:=Tryz.zeroValue5
 t9:=Tryz.underlying9
 a9:=Tryz.isAgg9
 z9:=Tryz.sizeOf9
 v9:=Tryz.zeroValue9 }
theorem za1(s:ByteArray)(x:UInt8)(w:World):
 Calls Tryz.prog 104 #[.string s,.int .u8 x.toNat] w fun e w'=>e=.returned (.int .i64 (Lib.indexByte s.data.toList x))∧w'=w:=by
 have:=Any.strings_IndexByte Tryz.lays137 s (x.toNat:Int) w;simp only[Int.toNat_natCast,Nat.toUInt8_eq,UInt8.ofNat_toNat]at this;exact this
theorem zd6{a b:Bool}(h:a=b):Ending.returned (.bool a)=.returned (.bool b):=by rw[h]
theorem zkx(x:UInt8):Lx.letter x=(decide (97≤(x.toNat:Int)) && decide ((x.toNat:Int)≤122)):=by
 rw[Bool.eq_iff_iff];simp[Lx.letter,UInt8.le_iff_toNat_le];omega
theorem zed(x:UInt8):Lx.digit x=(decide (48≤(x.toNat:Int)) && decide ((x.toNat:Int)≤57)):=by
 rw[Bool.eq_iff_iff];simp[Lx.digit,UInt8.le_iff_toNat_le];omega
theorem zbw(x:UInt8)(w:World):Calls Tryz.prog 105 #[.int .u8 x.toNat] w fun e w'=>e=.returned (.bool (Lx.letter x))∧w'=w:=by
 go_enter Tryz.func105, Tryz.ntmps105
 go_wp2
 all_goals
   go_ret;refine⟨zd6 ?_,rfl⟩;rw[zkx]
   simp[*]
   try omega
theorem ze0(x:UInt8)(w:World):Calls Tryz.prog 107 #[.int .u8 x.toNat] w fun e w'=>e=.returned (.bool (Lx.digit x))∧w'=w:=by
 go_enter Tryz.func107, Tryz.ntmps107
 go_wp2
 all_goals
   go_ret;refine⟨zd6 ?_,rfl⟩;rw[zed]
   simp[*]
   try omega
theorem zgc(s:ByteArray)(w:World):Calls Tryz.prog 127 #[.string s] w fun e w'=>e=.returned (.bool (Lx.reserved s.data.toList))∧w'=w:=by
 rw[←ByteArray.toList_eq]
 go_enter Tryz.func127, Tryz.ntmps127
 go_wp2
 all_goals first
  | (exfalso;simp_all;done)
  | (go_ret;refine⟨zd6 ?_,rfl⟩;generalize s.toList=t at *
     unfold Lx.reserved Lx.words
     simp only[List.contains_cons,List.contains_nil,Bool.or_false]
     simp[*])
def hexI(x:UInt8):Int:=match Lx.hexV x with|some v=>v|none=>-1
theorem zpu(x:UInt8):hexI x=if 48≤(x.toNat:Int)∧(x.toNat:Int)≤57 then (x.toNat:Int)-48 else if 97≤(x.toNat:Int)∧(x.toNat:Int)≤102 then (x.toNat:Int)-87 else -1:=by
 have h1:Lx.digit x=true ↔ 48≤(x.toNat:Int)∧(x.toNat:Int)≤57:=by rw[zed];simp
 have h2:(97≤x && x≤102)=true ↔ 97≤(x.toNat:Int)∧(x.toNat:Int)≤102:=by simp[UInt8.le_iff_toNat_le];omega
 unfold hexI Lx.hexV
 by_cases a:Lx.digit x=true
 · have a':=h1.1 a
   simp only[a,if_true,if_pos a'];omega
 · have a':¬(48≤(x.toNat:Int)∧(x.toNat:Int)≤57):=fun h=>a (h1.2 h)
   rw[if_neg a,if_neg a']
   by_cases b:(97≤x && x≤102)=true
   · have b':=h2.1 b
     rw[if_pos b,if_pos b'];simp only;omega
   · have b':¬(97≤(x.toNat:Int)∧(x.toNat:Int)≤102):=fun h=>b (h2.2 h)
     rw[if_neg b,if_neg b']
theorem zft{k:IntKind}{a b:Int}(h:a=b):Ending.returned (.int k a)=.returned (.int k b):=by rw[h]
theorem zmi{p:UInt8→Bool}{l:List UInt8}{i:Nat}{x:UInt8}(hx:l[i]? = some x)(hp:p x=true):((l.drop i).takeWhile p).length=((l.drop (i+1)).takeWhile p).length+1:=by
 have hi:i<l.length:=(gi9.1 hx).1;rw[List.drop_eq_getElem_cons hi];have:l[i]=x:=(gi9.1 hx).2
 simp[this,hp]
theorem zmh{p:UInt8→Bool}{l:List UInt8}{i:Nat}{x:UInt8}(hx:l[i]? = some x)(hp:p x=false):((l.drop i).takeWhile p).length=0:=by
 have hi:i<l.length:=(gi9.1 hx).1;rw[List.drop_eq_getElem_cons hi];have:l[i]=x:=(gi9.1 hx).2
 simp[this,hp]
theorem zov{p:UInt8→Bool}{l:List UInt8}{i:Nat}(hi:l.length≤i):((l.drop i).takeWhile p).length=0:=by
 rw[List.drop_eq_nil_of_le hi];simp
theorem zjy{p:UInt8→Bool}{l:List UInt8}{i:Nat}(hi:i≤l.length):i+((l.drop i).takeWhile p).length≤l.length:=by
 have:=(List.takeWhile_prefix p (l:=l.drop i)).length_le
 simp at this
 omega
def runP(letters:Bool):UInt8→Bool:=if letters then Lx.alnum else Lx.digit
theorem zb7(s:ByteArray)(i:Nat)(h:i<s.size):s.data.toList[i]? = some s[i]:=by
 rw[ge9 (by simpa using h)]
 rfl
def strs(l:List ByteArray):List Value:=l.map Value.string
theorem zlz{l:List ByteArray}{k:Nat}{u:Value}(h:(strs l)[k]? = some u):∃x,l[k]? = some x∧u=.string x:=by
 simp only[strs,List.getElem?_map,Option.map_eq_some_iff]at h;obtain⟨x,h1,h2⟩:=h;exact⟨x,h1,h2.symm⟩
theorem str_ne{T x:ByteArray}(h:T≠x):(T.toList == x.toList)=false:=by
 rw[ByteArray.toList_eq,ByteArray.toList_eq,beq_eq_false_iff_ne];exact fun e=>h (ByteArray.ext (Array.toList_inj.1 e))
def bmem(T:ByteArray)(l:List ByteArray):Bool:=(l.map (·.data.toList)).contains T.data.toList
theorem zcf{T:ByteArray}{l:List ByteArray}: bmem T l=true ↔ T∈l:=by
 unfold bmem
 rw[List.contains_iff_mem,List.mem_map]
 constructor
 · rintro ⟨x,hx,e⟩
   have:x=T:=ByteArray.ext (Array.toList_inj.1 e);exact this ▸ hx
 · exact fun h=>⟨T,h,rfl⟩
def IdxPost(T:ByteArray)(l:List ByteArray)(w:World)(e:Ending)(w':World):Prop:=∃z:Int,e=.returned (.int .i64 z)∧decide (0≤z)=bmem T l∧w=w'
theorem zk2(A:Option Addr)(n c:Nat)(l:List ByteArray)(T:ByteArray)(w:World)(h:Rd w A n (strs l))(hn:n≤140737488355328):
 Calls Tryz.prog 110 #[.slice A n c,.string T] w (IdxPost T l w):=by
 have hl:l.length=n:=by have:=h.1;simpa[strs] using this
 have HL:=qh hl;clear hl
 go_enter Tryz.func110, Tryz.ntmps110
 go_wp2_with fail
 go_loop [8] (fun q=>∃k:Nat,k≤n∧q=.int .i64 k∧Hid (∀j x,j<k→l[j]? = some x→T≠x)) (fun q=>n-(intOf q).toNat)
 case atStart=>exact⟨0,Nat.zero_le _,rfl,fun j x hj=>by omega⟩
 case round =>
  obtain⟨k,hk,rfl,HK⟩:=hrel
  by_cases hlt:k<n
  · obtain⟨b,off,u,rfl,hb,HU,hc⟩:=h.at_ hlt
    obtain⟨x,hx,rfl⟩:=zlz HU.out;have HX:=qh hx;have i0:(0:Int)≤(k:Int):=om;have i1:(k:Int)<(n:Int):=om;clear hx HU
    by_cases hT:T=x
    · subst hT
      go_wp2_with fail
      go_ret
      exact⟨k,rfl,by
       have hm:T∈l:=mg9 HX.out
       rw[zcf.2 hm];simp,rfl⟩
    · have e1:(T.toList == x.toList)=false:=str_ne hT
      have HK':Hid (∀j x,j<k+1→l[j]? = some x→T≠x):=fun j y hj hy=>by
       rcases Nat.lt_or_ge j k with h|h
       · exact HK.out j y h hy
       · obtain rfl:j=k:=om
         rw[HX.out]at hy
         injection hy with hy
         rw[←hy];exact hT
      have HT:=qh hT;clear hT
      go_wp2_with fail
      go_round
      case rel=>exact⟨k+1,by omega,by go_num,HK'.out⟩
      case measure=>simp[intOf];omega
  · go_wp2_with fail
    go_ret;refine⟨-1,rfl,?_,rfl⟩
    have hm:T ∉ l:=fun hm=>by
     obtain⟨j,hj,e⟩:=List.mem_iff_getElem.1 hm;exact HK.out j T (by have:=HL.out;omega) (by rw[ge9 hj,e]) rfl
    rw[Bool.eq_false_iff.2 (fun h=>hm (zcf.1 h))]
    rfl
theorem zgw(A:Option Addr)(n c:Nat)(l:List ByteArray)(T:ByteArray)(w:World)(h:Rd w A n (strs l))(hn:n≤140737488355328):
 Calls Tryz.prog 81 #[.slice A n c,.string T] w fun e w'=>e=.returned (.bool (bmem T l))∧w=w':=by
 have HI:=qh (zk2 A n c l T w h hn);clear h
 go_enter Tryz.func81, Tryz.ntmps81
 go_wp2_with (go_at_call 110;refine HI.out.mono ?_;rintro e w' ⟨z,rfl,hz,rfl⟩;have HZ:=qh hz;clear hz)
 go_ret;exact⟨by rw[←HZ.out];rfl,rfl⟩
section
structure Flt where
 j:Nat
 d:Tmp
 ty:TypeId
 Z:List Value
 v:Nat→Value
def setJ(L:Array Bool):List Nat→Array Bool
 | []=>L
 | j :: r=>setJ (L.setIfInBounds j true) r
def doneJ:List (Flt × Option Nat)→List Nat
 | []=>[]
 | (_,none) :: r=>doneJ r
 | (f,some _) :: r=>f.j :: doneJ r
def putF(a:Act):List (Flt × Option Nat)→Act
 | []=>a
 | (_,none) :: r=>putF a r
 | (f,some g) :: r=>putF (a.put (some f.d) (f.v g)) r
def leftN:List (Flt × Option Nat)→Nat
 | []=>0
 | (_,none) :: r=>leftN r+1
 | (_,some _) :: r=>leftN r
def okF(B:Nat)(W:World):List (Flt × Option Nat)→Prop
 | []=>True
 | (_,none) :: r=>okF B W r
 | (f,some g) :: r=>(B≤g∧Blk W g f.ty f.Z∧∀x∈r,x.2≠some g)∧okF B W r
def subs:List Nat→List (List Nat)
 | []=>[[]]
 | j :: r=>subs r++(subs r).map (j :: ·)
theorem zc7:∀F:List (Flt × Option Nat),doneJ F∈subs (F.map (·.1.j))
 | []=>by simp[doneJ,subs]
 | (f,none) :: r=>by
  simp only[doneJ,List.map_cons,subs,List.mem_append];exact .inl (zc7 r)
 | (f,some g) :: r=>by
  simp only[doneJ,List.map_cons,subs,List.mem_append,List.mem_map];exact .inr ⟨_,zc7 r,rfl⟩
theorem zl6(L:Array Bool)(i j:Nat):(L.setIfInBounds i true).setIfInBounds j true=(L.setIfInBounds j true).setIfInBounds i true:=by
 by_cases h:i=j
 · rw[h]
 · exact Array.setIfInBounds_comm _ _ h
theorem zfn:∀(S:List Nat) (L:Array Bool) (i:Nat),(setJ L S).setIfInBounds i true=setJ (L.setIfInBounds i true) S
 | [],_,_=>rfl
 | j :: r,L,i=>by rw[setJ,zfn r,setJ,zl6]
theorem zg3(L:Array Bool)(f:Flt)(g:Nat)(post:List (Flt × Option Nat)):∀pre,(setJ L (doneJ (pre++(f,none) :: post))).setIfInBounds f.j true=setJ L (doneJ (pre++(f,some g) :: post))
 | []=>by simp only[List.nil_append,doneJ,setJ];rw[zfn]
 | (h,none) :: pre=>by
  simp only[List.cons_append,doneJ];exact zg3 L f g post pre
 | (h,some k) :: pre=>by
  simp only[List.cons_append,doneJ,setJ];exact zg3 (L.setIfInBounds h.j true) f g post pre
theorem zd8:∀(F:List (Flt × Option Nat)) (a:Act) (d:Tmp) (v:Value),(∀x∈F,x.1.d≠d)→(putF a F).put (some d) v=putF (a.put (some d) v) F
 | [],_,_,_,_=>rfl
 | (f,none) :: r,a,d,v,h=>zd8 r a d v fun x hx=>h x (List.mem_cons_of_mem _ hx)
 | (f,some g) :: r,a,d,v,h=>by
  have hne:=h (f,some g) List.mem_cons_self;rw[putF,zd8 r _ d v fun x hx=>h x (List.mem_cons_of_mem _ hx),putF]
  congr 1
  exact(Act.put_comm a _ _ (fun e h1 h2=>hne (by injection h1 with h1;injection h2 with h2;rw[h1,h2]))).symm
theorem zg9(f:Flt)(g:Nat)(post:List (Flt × Option Nat))(hpost:∀x∈post,x.1.d≠f.d):∀(pre:List (Flt × Option Nat)) (a:Act),(putF a (pre++(f,none) :: post)).put (some f.d) (f.v g)=putF a (pre++(f,some g) :: post)
 | [],a=>by simp only[List.nil_append,putF];exact zd8 post a f.d (f.v g) hpost
 | (h,none) :: pre,a=>by
  simp only[List.cons_append,putF];exact zg9 f g post hpost pre a
 | (h,some k) :: pre,a=>by
  simp only[List.cons_append,putF];exact zg9 f g post hpost pre _
theorem zfw(f:Flt)(g:Nat)(post:List (Flt × Option Nat)):∀pre,leftN (pre++(f,none) :: post)=leftN (pre++(f,some g) :: post)+1
 | []=>rfl
 | (h,none) :: pre=>by simp only[List.cons_append,leftN];rw[zfw f g post pre]
 | (h,some k) :: pre=>by simp only[List.cons_append,leftN];rw[zfw f g post pre]
theorem zec{B:Nat}{W W':World}(hB:Below W.heap.size W W'):∀F,okF B W F→okF B W' F
 | [],_=>trivial
 | (_,none) :: r,h=>zec hB r h
 | (_,some _) :: r,h=>⟨⟨h.1.1,h.1.2.1.below hB h.1.2.1.lt,h.1.2.2⟩,zec hB r h.2⟩
theorem zks{B:Nat}{W:World}: ∀F,okF B W F→∀x∈F,∀g,x.2=some g→g<W.heap.size
 | [],_,x,hx,_,_=>by cases hx
 | (_,none) :: r,h,x,hx,g,hg=>by
  rcases List.mem_cons.1 hx with rfl|hx
  · cases hg
  · exact zks r h x hx g hg
 | (_,some k) :: r,h,x,hx,g,hg=>by
  rcases List.mem_cons.1 hx with rfl|hx
  · injection hg with hg;subst hg;exact h.1.2.1.lt
  · exact zks r h.2 x hx g hg
theorem zkr{B:Nat}{W:World}(f:Flt)(post:List (Flt × Option Nat))(hB:B≤W.heap.size):∀pre,okF B W (pre++(f,none) :: post)→okF B (W.alloc (.cells f.Z.toArray f.ty)) (pre++(f,some W.heap.size) :: post)
 | [],h=>by
  refine⟨⟨hB,Blk.new _ _ _,fun x hx he=>?_⟩,zec ((Below.refl _ _).alloc lr _) post h⟩;exact absurd (zks post h x hx _ he) om
 | (_,none) :: pre,h=>zkr f post hB pre h
 | (y,some k) :: pre,h=>by
  refine⟨⟨h.1.1,h.1.2.1.alloc _,fun x hx he=>?_⟩,zkr f post hB pre h.2⟩
  rcases List.mem_append.1 hx with hx|hx
  · exact h.1.2.2 x (List.mem_append_left _ hx) he
  · rcases List.mem_cons.1 hx with rfl|hx
    · injection he with he
      have:=h.1.2.1.lt;omega
    · exact h.1.2.2 x (List.mem_append_right _ (List.mem_cons_of_mem _ hx)) he
theorem zhj(f:Flt)(g:Nat)(post:List (Flt × Option Nat))(x:Nat):∀pre,x∈doneJ (pre++(f,none) :: post)→x∈doneJ (pre++(f,some g) :: post)
 | [],h=>List.mem_cons_of_mem _ h
 | (_,none) :: pre,h=>zhj f g post x pre h
 | (_,some _) :: pre,h=>by
  simp only[List.cons_append,doneJ,List.mem_cons]at h ⊢
  rcases h with h|h
  · exact .inl h
  · exact .inr (zhj f g post x pre h)
theorem zkv{must:List Nat}{F F':List (Flt × Option Nat)}(h:must.all (doneJ F).contains=true)(hg:∀x∈doneJ F,x∈doneJ F'):must.all (doneJ F').contains=true:=by
 rw[List.all_eq_true]at h ⊢;intro x hx;have:=h x hx;simp only[List.contains_iff_mem]at this ⊢;exact hg x this
theorem zdq(x:Nat):∀F:List (Flt × Option Nat),x∈F.map (·.1.j)→x ∉ doneJ F→∃pre f post,F=pre++(f,none) :: post∧f.j=x
 | [],h,_=>by cases h
 | (f,none) :: r,h,hn=>by
  by_cases e:f.j=x
  · exact⟨[],f,r,rfl,e⟩
  · simp only[List.map_cons,List.mem_cons]at h
    rcases h with h|h
    · exact absurd h.symm e
    · obtain⟨pre,f',post,rfl,e'⟩:=zdq x r h hn
      exact⟨(f,none) :: pre,f',post,rfl,e'⟩
 | (f,some g) :: r,h,hn=>by
  simp only[doneJ,List.mem_cons,not_or]at hn;simp only[List.map_cons,List.mem_cons]at h
  rcases h with h|h
  · exact absurd h hn.1
  · obtain⟨pre,f',post,rfl,e'⟩:=zdq x r h hn.2
    exact⟨(f,some g) :: pre,f',post,rfl,e'⟩
section
variable{P:Program}{ops:Array Oper}{Q:Exit→Act→World→Prop}{md:Region.Mode}{T:World→Prop}{k:Nat}{B:Nat}{fs:List Flt}
def AnyG(P:Program)(md:Region.Mode)(ops:Array Oper)(Q:Exit→Act→World→Prop)(k:Nat)(T:World→Prop)(B:Nat)(fs:List Flt)(must:List Nat)(fuel:Nat)(listed:Array Bool)(a:Act)(R:World→Prop):Prop :=
 ∀F W,F.map (·.1)=fs→R W→okF B W F→must.all (doneJ F).contains=true→AnyK P md ops Q k T (fuel+leftN F) (setJ listed (doneJ F)) (putF a F) W
def FltRun(P:Program)(ops:Array Oper)(fs:List Flt)(a:Act)(f:Flt):Prop :=
 ∃oj,ops[f.j]? = some oj∧oj.dst=some f.d∧oj.guard=none∧∀F W,F.map (·.1)=fs→(execOp (putF a F).eval oj).run P W=.ok (.value (f.v W.heap.size)) (W.alloc (.cells f.Z.toArray f.ty))
theorem zfe:∀fs:List Flt,doneJ (fs.map fun f=>(f,none))=[]
 | []=>rfl
 | _ :: r=>zfe r
theorem zf9(a:Act):∀fs:List Flt,putF a (fs.map fun f=>(f,none))=a
 | []=>rfl
 | _ :: r=>zf9 a r
theorem zfd:∀fs:List Flt,leftN (fs.map fun f=>(f,none))=fs.length
 | []=>rfl
 | _ :: r=>congrArg (· + 1) (zfd r)
theorem zhu(W:World):∀fs:List Flt,okF B W (fs.map fun f=>(f,none))
 | []=>trivial
 | _ :: r=>zhu W r
theorem AnyG.start{fuel:Nat}{listed:Array Bool}{a:Act}{w:World}(B:Nat)(fs:List Flt)(R:World→Prop)(fuel':Nat)(hf:fuel=fuel'+fs.length)(hR:R w)(h:AnyG P md ops Q k T B fs [] fuel' listed a R):AnyK P md ops Q k T fuel listed a w:=by
 have:=h (fs.map fun f=>(f,none)) w (by rw[List.map_map];exact List.map_id _) hR (zhu w fs) rfl;rw[zfe,zf9,zfd,←hf]at this;exact this
def okStep(md:Region.Mode)(ops:Array Oper)(listed:Array Bool)(js:List Nat)(must must':List Nat)(i:Nat):Bool :=
 (subs js).all fun S=>(!(must.all S.contains))|| ((!(Region.ready md ops (setJ listed S)).isEmpty) && (Region.ready md ops (setJ listed S)).all fun x=>(x == i && must'.all S.contains)|| (js.contains x && !S.contains x))
theorem zhb{listed:Array Bool}{i:Nat}{must must':List Nat}(h:okStep md ops listed (fs.map (·.j)) must must' i=true){F:List (Flt × Option Nat)}(hF:F.map (·.1)=fs)(hm:must.all (doneJ F).contains=true):
 Region.ready md ops (setJ listed (doneJ F))≠[]∧∀x∈Region.ready md ops (setJ listed (doneJ F)),(x=i∧must'.all (doneJ F).contains=true)∨∃pre f post,F=pre++(f,none) :: post∧f.j=x:=by
 have e:F.map (·.1.j)=fs.map (·.j):=by rw[←hF,List.map_map];rfl
 have h1:=List.all_eq_true.1 h (doneJ F) (e ▸ zc7 F);rw[hm,Bool.not_true,Bool.false_or,Bool.and_eq_true]at h1;refine⟨fun h2=>by rw[h2]at h1;simp at h1,fun x hx=>?_⟩;have h2:=List.all_eq_true.1 h1.2 x hx;rw[Bool.or_eq_true,Bool.and_eq_true,Bool.and_eq_true]at h2
 rcases h2 with ⟨h2,h3⟩|⟨h2,h3⟩
 · exact .inl ⟨by simpa using h2,h3⟩
 · exact .inr (zdq x F (e ▸ (by simpa using h2)) (by simpa using h3))
theorem AnyG.one{fuel:Nat}{listed:Array Bool}{a:Act}{R:World→Prop}(hd:(fs.map (·.d)).Nodup)(hfl:∀f∈fs,FltRun P ops fs a f)(hRa:∀W o,R W→R (W.alloc o))(hRB:∀W,R W→B≤W.heap.size)(hT:∀W,R W→T W)
 {F:List (Flt × Option Nat)} {W:World} (hF:F.map (·.1)=fs) (hR:R W) (hok:okF B W F) {x:Nat} (hx:∃pre f post,F=pre++(f,none) :: post∧f.j=x) {n:Nat} (hn:fuel+leftN F=n+1)
 (ih:∀F' W',F'.map (·.1)=fs→R W'→okF B W' F'→leftN F'<leftN F→(∀y∈doneJ F,y∈doneJ F')→AnyK P md ops Q k T (fuel+leftN F') (setJ listed (doneJ F')) (putF a F') W'):
 wpOp P ops Q x (fun a' w'=>(((setJ listed (doneJ F)).setIfInBounds x true).getD k true=false→T w')∧AnyK P md ops Q k T n ((setJ listed (doneJ F)).setIfInBounds x true) a' w') (putF a F) W:=by
 obtain⟨pre,f,post,rfl,rfl⟩:=hx;have hfs:f∈fs:=by rw[←hF];simp
 obtain⟨oj,h1,h2,h3,h4⟩:=hfl f hfs
 unfold wpOp
 simp only[h1];rw[if_pos (by simp[Region.wanted,h3])];refine .inl ?_
 unfold Oper.wp
 rw[h4 _ W hF,Oper.upon_value,h2]
 have hpost:∀y∈post,y.1.d≠f.d:=by
  intro y hy he;rw[←hF]at hd;simp only[List.map_append,List.map_cons,List.nodup_append,List.nodup_cons]at hd;exact hd.2.1.1 (List.mem_map.2 ⟨y.1,List.mem_map.2 ⟨y,hy,rfl⟩,he⟩)
 rw[zg3 listed f W.heap.size post pre,zg9 f W.heap.size post hpost pre a];have hl:=zfw f W.heap.size post pre;refine⟨fun _=>hT _ (hRa _ _ hR),?_⟩;have h5:=ih (pre++(f,some W.heap.size) :: post) (W.alloc (.cells f.Z.toArray f.ty)) (by rw[←hF];simp) (hRa _ _ hR) (zkr f post (hRB W hR) pre hok) om (fun y hy=>zhj f _ post y pre hy);rw[show fuel+leftN (pre++(f,some W.heap.size) :: post)=n by omega]at h5;exact h5
theorem AnyG.step{fuel:Nat}{listed:Array Bool}{a:Act}{R:World→Prop}(i:Nat){oi:Oper}{di:Tmp}{X:Type}{must:List Nat}(must':List Nat)(v:X→Value)(R':X→World→Prop)(hi:ops[i]? = some oi)(hig:oi.guard=none)(hdi:∀f∈fs,f.d≠di)(hd:(fs.map (·.d)).Nodup)
 (chk:okStep md ops listed (fs.map (·.j)) must must' i=true)
 (hmain:∀F W,F.map (·.1)=fs→R W→okF B W F→(Region.ready md ops (setJ listed (doneJ F))).contains i=true→∀K:Act→World→Prop,(∀x w',R' x w'→Below W.heap.size W w'→K ((putF a F).put (some di) (v x)) w')→oi.wp P (putF a F) W K Q)
 (hfl:∀f∈fs,FltRun P ops fs a f) (hRa:∀W o,R W→R (W.alloc o)) (hRB:∀W,R W→B≤W.heap.size) (hT:∀W,R W→T W) (hT':∀x W,R' x W→T W)
 (h:∀x,AnyG P md ops Q k T B fs must' fuel (listed.setIfInBounds i true) (a.put (some di) (v x)) (R' x)):AnyG P md ops Q k T B fs must (fuel+1) listed a R:=by
 have key:∀n F W,leftN F=n→F.map (·.1)=fs→R W→okF B W F→must.all (doneJ F).contains=true→AnyK P md ops Q k T (fuel+1+leftN F) (setJ listed (doneJ F)) (putF a F) W:=by
  intro n
  induction n using Nat.strongRecOn with
  | _ n ih =>
   intro F W hn hF hR hok hm;obtain⟨hne,hall⟩:=zhb chk hF hm;rw[show fuel+1+leftN F=(fuel+leftN F)+1 by omega];refine⟨fun h0=>absurd h0 hne,fun x hx=>?_⟩
   rcases hall x hx with ⟨rfl,hm'⟩|hx
   · unfold wpOp
     simp only[hi];rw[if_pos (by simp[Region.wanted,hig])];refine .inl (hmain F W hF hR hok (by simpa using hx) _ fun y w' hR' hB=>?_);refine⟨fun _=>hT' y w' hR',?_⟩;have h2:=h y F w' hF hR' (zec hB F hok) hm';rw[←zfn,←zd8 F a di (v y) (fun z hz=>hdi z.1 (by rw[←hF];exact List.mem_map.2 ⟨z,hz,rfl⟩))]at h2;exact h2
   · exact AnyG.one (fuel:=fuel+1) hd hfl hRa hRB hT hF hR hok hx om fun F' W' h1 h2 h3 h4 h5=>ih (leftN F') om F' W' rfl h1 h2 h3 (zkv hm h5)
 exact fun F W hF hR hok hm=>key _ F W rfl hF hR hok hm
def okEnd(md:Region.Mode)(ops:Array Oper)(listed:Array Bool)(js must:List Nat):Bool :=
 (subs js).all fun S=>(!(must.all S.contains))|| (S.length == js.length)|| ((!(Region.ready md ops (setJ listed S)).isEmpty) && (Region.ready md ops (setJ listed S)).all fun x=>js.contains x && !S.contains x)
theorem zez:∀F:List (Flt × Option Nat),(doneJ F).length+leftN F=F.length
 | []=>rfl
 | (_,none) :: r=>by have:=zez r;simp only[doneJ,leftN,List.length_cons];omega
 | (_,some _) :: r=>by have:=zez r;simp only[doneJ,leftN,List.length_cons];omega
theorem AnyG.fin{fuel:Nat}{listed:Array Bool}{a:Act}{R:World→Prop}(hd:(fs.map (·.d)).Nodup){must:List Nat}(chk:okEnd md ops listed (fs.map (·.j)) must=true)
 (hfl:∀f∈fs,FltRun P ops fs a f) (hRa:∀W o,R W→R (W.alloc o)) (hRB:∀W,R W→B≤W.heap.size) (hT:∀W,R W→T W)
 (h:∀F W,F.map (·.1)=fs→leftN F=0→R W→okF B W F→AnyK P md ops Q k T fuel (setJ listed (doneJ F)) (putF a F) W):AnyG P md ops Q k T B fs must fuel listed a R:=by
 have key:∀n F W,leftN F=n→F.map (·.1)=fs→R W→okF B W F→must.all (doneJ F).contains=true→AnyK P md ops Q k T (fuel+leftN F) (setJ listed (doneJ F)) (putF a F) W:=by
  intro n
  induction n using Nat.strongRecOn with
  | _ n ih =>
   intro F W hn hF hR hok hm
   rcases Nat.eq_zero_or_pos (leftN F)with h0|h0
   · rw[h0]
     exact h F W hF h0 hR hok
   · have e:F.map (·.1.j)=fs.map (·.j):=by rw[←hF,List.map_map];rfl
     have h1:=List.all_eq_true.1 chk (doneJ F) (e ▸ zc7 F);have hl:=zez F;have hl2:F.length=(fs.map (·.j)).length:=by rw[←e,List.length_map]
     rw[hm,Bool.not_true,Bool.false_or,Bool.or_eq_true,Bool.and_eq_true]at h1
     rcases h1 with h1|h1
     · have:(doneJ F).length=(fs.map (·.j)).length:=by simpa using h1
       omega
     · rw[show fuel+leftN F=(fuel+leftN F-1)+1 by omega]
       refine⟨fun h2=>by rw[h2]at h1;simp at h1,fun x hx=>?_⟩;have h2:=List.all_eq_true.1 h1.2 x hx;rw[Bool.and_eq_true]at h2;refine AnyG.one (fuel:=fuel) hd hfl hRa hRB hT hF hR hok (zdq x F (e ▸ (by simpa using h2.1)) (by simpa using h2.2)) om fun F' W' h1 h2 h3 h4 h5=>ih (leftN F') om F' W' rfl h1 h2 h3 (zkv hm h5)
 exact fun F W hF hR hok hm=>key _ F W rfl hF hR hok hm
end
section
variable{P:Program}{ops:Array Oper}{a:Act}
theorem flt1{f:Flt}(h:FltRun P ops [f] a f):∀g∈[f],FltRun P ops [f] a g:=by
 intro g hg;rw[List.mem_singleton]at hg;subst hg;exact h
theorem flt2{f1 f2:Flt}(h1:FltRun P ops [f1,f2] a f1)(h2:FltRun P ops [f1,f2] a f2):∀g∈[f1,f2],FltRun P ops [f1,f2] a g:=by
 intro g hg;simp only[List.mem_cons,List.not_mem_nil,or_false]at hg
 rcases hg with rfl|rfl
 · exact h1
 · exact h2
end
end
end Go.Proofs.YtafjkbbiaopemaaGreatDoor
