/- Part of the proof. -/
import Derived.OrdersHeld
import Derived.ChangeKeysEq
import Derived.Test.YtadopcjppijgiaaGreatSkp01
set_option linter.all false
set_option maxRecDepth 100000
set_option maxHeartbeats 0
namespace Go.Proofs.YtadopcjppijgiaaGreat
open Go.RowKit
def Wrote(g:Nat)(w w':World):Prop:=w.grownBy w' (some g)
theorem Below.wrote{w w1 w2:World}{g:Nat}(hb:Below w.heap.size w w1)(h:Wrote g w1 w2):Wrote g w w2 :=
 ⟨h.os.trans hb.os,h.tape.trans hb.tape,h.output.trans hb.output,Nat.le_trans hb.size h.size,fun k hk hne=>(h.block k (Nat.lt_of_lt_of_le hk hb.size) hne).trans (hb.block k hk)⟩
theorem Wrote.trans{w w1 w2:World}{g:Nat}(hb:Wrote g w w1)(h:Wrote g w1 w2):Wrote g w w2 :=
 ⟨h.os.trans hb.os,h.tape.trans hb.tape,h.output.trans hb.output,Nat.le_trans hb.size h.size,fun k hk hne=>(h.block k (Nat.lt_of_lt_of_le hk hb.size) hne).trans (hb.block k hk hne)⟩
theorem Wrote.of_below{w w1:World}{g:Nat}(hb:Below w.heap.size w w1):Wrote g w w1:=⟨hb.os,hb.tape,hb.output,hb.size,fun k hk _=>hb.block k hk⟩
theorem Wrote.refl(w:World)(g:Nat):Wrote g w w:=Wrote.of_below (Below.refl _ _)
theorem Wrote.then{w w1 w2:World}{g:Nat}(hb:Wrote g w w1)(h:Below w1.heap.size w1 w2):Wrote g w w2:=hb.trans (Wrote.of_below h)
theorem Wrote.only{w w1 w2:World}{g:Nat}(hb:Wrote g w w1)(h:Only w1 w2 g):Wrote g w w2:=hb.trans h.grown
theorem Wrote.setCell{w w1:World}{g:Nat}(hb:Wrote g w w1)(i:Nat)(u:Value):Wrote g w (w1.setCell ⟨g,i,none⟩ u) :=
 ⟨hb.os,hb.tape,hb.output,by have:=hb.size;simpa[World.setCell] using this,fun k hk hne=>(Below.heap_setCell w1 ⟨g,i,none⟩ u k (fun e=>hne (by rw[e]))).trans (hb.block k hk hne)⟩
theorem Wrote.alloc{w w1:World}{g:Nat}(hb:Wrote g w w1)(o:Obj):Wrote g w (w1.alloc o):=hb.then ((Below.refl _ _).alloc lr o)
theorem Wrote.drew{w w1:World}{g:Nat}(hb:Wrote g w w1):Wrote g w w1.drew:=hb.then (Below.refl _ _).drew
theorem Wrote.below{B g:Nat}{w0 w w':World}(h:Wrote g w w')(hb:Below B w0 w)(hg:B≤g)(hB:B≤w.heap.size):Below B w0 w' :=
 hb.grown h hB (fun k hk=>by injection hk with hk;omega)
theorem Rd.wrote{w w':World}{A:Option Addr}{n g:Nat}{xs:List Value}(h:Rd w A n xs)(hw:Wrote g w w')(hA:0<n→∀ad:Addr,A=some ad→ad.block≠g):Rd w' A n xs :=
 ⟨h.1,fun hn=>by
  obtain⟨b,D,e,r,hc⟩:=h.2 hn
  exact⟨b,D,e,Nat.lt_of_lt_of_le r hw.size,fun j u hu=>(World.grownBy.cell_far hw ⟨b,D+j,none⟩ r (fun e'=>hA hn _ e (by injection e'))).trans (hc j u hu)⟩⟩
theorem Rd.apart{w:World}{A:Option Addr}{n g:Nat}{xs:List Value}(h:Rd w A n xs)(hg:w.heap.size≤g):0<n→∀ad:Addr,A=some ad→ad.block≠g:=fun hn ad e=>by
 obtain⟨b,D,e',r,_⟩:=h.2 hn;rw[e]at e'
 injection e' with e'
 subst e'
 show b≠g
 omega
theorem Blk.wrote{w w':World}{g g':Nat}{t:TypeId}{cs:List Value}(h:Blk w g' t cs)(hw:Wrote g w w')(r:g'≠g):Blk w' g' t cs:=h.grown hw (fun e=>r (by injection e))
section
section
variable{P:Program}{ops:Array Oper}{Q:Exit→Act→World→Prop}{md:Region.Mode}{T:World→Prop}{k:Nat}
def AnyK(P:Program)(md:Region.Mode)(ops:Array Oper)(Q:Exit→Act→World→Prop)(k:Nat)(T:World→Prop):Nat→Array Bool→Act→World→Prop
 | 0,listed,a,w=>Region.ready md ops listed=[]∧Q .normal a w
 | fuel+1,listed,a,w =>
  (Region.ready md ops listed=[]→Q .normal a w) ∧
  ∀i∈Region.ready md ops listed,wpOp P ops Q i (fun a' w'=>((listed.setIfInBounds i true).getD k true=false→T w')∧AnyK P md ops Q k T fuel (listed.setIfInBounds i true) a' w') a w
theorem AnyK.any:∀(fuel:Nat) (r:Array Bool) (a:Act) (w:World),AnyK P md ops Q k T fuel r a w→wpAny P md ops Q fuel r a w
 | 0,_,_,_,h=>h
 | fuel+1,_,_,_,h=>⟨h.1,fun i hi=>wpOp_mono (fun a' w' h'=>AnyK.any fuel _ a' w' h'.2) (h.2 i hi)⟩
theorem zcf{id:Nat}{a:Act}{w:World}(hm:P.follows .mixedOrders=true)(k:Nat)(T:World→Prop)
 (h:AnyK P .any ops Q k T ops.size (Array.replicate ops.size false) a { w with drawn:=w.drawn+1 }):(Code.region id ops true).wp P Q a w :=
 wp_region_any hm (AnyK.any _ _ _ _ h)
theorem AnyK.first{i:Nat}{oi:Oper}{v:Value}{S:World→Prop}(hi:ops[i]? = some oi)(a2:i≠k)(X:∀(j:Nat) (o:Oper) cs b,ops[j]? = some o→o.op≠.select cs b)
 (hQ:∀c a w,Q (.panic c) (a.put oi.dst v) w→Q (.panic c) a w)
 (hS:(∀w,S w)∨((∀w,T w→S w)∧∃ok,ops[k]? = some ok∧∃e∈ok.after,Region.binds md e=true∧e.on=i)):
 ∀(A:Nat) (r:Array Bool) (a:Act) (w:World),
   (∀j oj,ops[j]? = some oj→j≠i→r.getD j true=false→(∀e∈oj.after,Region.binds md e=true→e.on≠i)→oi.apart ops oj=true) →
   i∈Region.ready md ops r→YieldsIf P ops S oi v a→S w→(r.getD k true=false→T w)→((∀w,S w)∨r.getD k true=false) →
   AnyK P md ops Q k T A (r.setIfInBounds i true) (a.put oi.dst v) w→AnyK P md ops Q k T (A+1) r a w:=by
 have I:∀(L:Array Bool),(L.setIfInBounds i true).getD k true=L.getD k true:=fun L=>getD_set_ne true a2
 intro A
 induction A with
 | zero =>
  intro r a w _ hr hy a0 hT _ H;refine⟨fun h=>(by rw[h]at hr;cases hr),fun j hj=>?_⟩
  by_cases hji:j=i
  · subst hji;exact hy.wpOp hi a0 ⟨fun h=>hT (by rwa [I]at h),H⟩
  · have:=ready_mono hj hji
    rw[H.1]at this
    cases this
 | succ A ih =>
  intro r a w G hr hy a0 hT hl H;refine⟨fun h=>(by rw[h]at hr;cases hr),fun j hj=>?_⟩
  by_cases hji:j=i
  · subst hji;exact hy.wpOp hi a0 ⟨fun h=>hT (by rwa [I]at h),H⟩
  · have h1:=H.2 j (ready_mono hj hji)
    obtain⟨U,oj,D,a1⟩:=mem_ready.1 hj
    have V:∀e∈oj.after,Region.binds md e=true→e.on≠i:=fun e he hb heq=>by
     have h1:=a1 e he hb;have h0:=(mem_ready.1 hr).1;rw[heq]at h1
     rcases Nat.lt_or_ge i r.size with h' | h'
     · simp[h']at h0 h1;rw[h0]at h1;cases h1
     · simp[Array.getElem?_eq_none h']at h1
    have h2:=wpOp_putIf D (G j oj D hji U V) (fun cs b=>X i oi cs b hi) (fun cs b=>X j oj cs b D) hQ hy h1
    have J:∀k ok,ops[k]? = some ok→k≠i→(r.setIfInBounds j true).getD k true=false →
        (∀e∈ok.after,Region.binds md e=true→e.on≠i)→oi.apart ops ok=true:=fun k ok hk hki hun hno=>by
     refine G k ok hk hki ?_ hno
     by_cases M:j=k
     · subst M;exact U
     · rw[getD_set_ne true M]at hun;exact hun
    have E:(∀w,S w)∨(r.setIfInBounds j true).getD k true=false:=by
     rcases hS with hS|⟨_,ok,a3,e,he,hb,a4⟩
     · exact .inl hS
     · rcases hl with hl|hl
       · exact .inl hl
       · have M:j≠k:=by
          rintro rfl;rw[a3]at D
          injection D with D
          subst D;exact V e he hb a4
         exact .inr (by rw[getD_set_ne true M];exact hl)
    refine wpOp_mono (fun a' w' h3=>?_) h2;have Y:(r.setIfInBounds j true).getD k true=false→T w':=fun h=>h3.2.1 (by rw[Array.setIfInBounds_comm _ _ (Ne.symm hji),I];exact h)
    refine⟨Y,ih (r.setIfInBounds j true) a' w' J (ready_mono hr (Ne.symm hji)) h3.1 ?_ Y E ?_⟩
    · rcases E with E|E
      · exact E w'
      · rcases hS with hS|⟨hS,_⟩
        · exact hS w'
        · exact hS w' (Y E)
    · rw[Array.setIfInBounds_comm _ _ hji]
      exact h3.2.2
def awaits(md:Region.Mode)(ops:Array Oper)(k i:Nat):Bool:=match ops[k]? with|some ok=>ok.after.any fun e=>Region.binds md e && e.on == i|none=>false
theorem zh5{i:Nat}(h:awaits md ops k i=true):∃ok,ops[k]? = some ok∧∃e∈ok.after,Region.binds md e=true∧e.on=i:=by
 unfold awaits at h
 split at h
 · rename_i ok hk
   obtain⟨e,he,hb⟩:=Array.any_eq_true'.1 h;simp only[Bool.and_eq_true,beq_iff_eq]at hb;exact⟨ok,hk,e,he,hb.1,hb.2⟩
 · cases h
def takeB(md:Region.Mode)(ops:Array Oper)(listed:Array Bool)(k i:Nat):Bool:=decide (i≠k) && Region.noSelect ops && Region.free md ops listed i && (Region.ready md ops listed).contains i
theorem AnyK.pure{fuel:Nat}{r:Array Bool}{a:Act}{w:World}(i:Nat){oi:Oper}{v:Value}(hi:ops[i]? = some oi)(hd:takeB md ops r k i=true)
 (hQ:∀c a w,Q (.panic c) (a.put oi.dst v) w→Q (.panic c) a w) (hg:oi.guard=none) (hy:∀w,(execOp a.eval oi).run P w=.ok (.value v) w) (hT:r.getD k true=false→T w)
 (h:AnyK P md ops Q k T fuel (r.setIfInBounds i true) (a.put oi.dst v) w):AnyK P md ops Q k T (fuel+1) r a w:=by
 simp only[takeB,Bool.and_eq_true,decide_eq_true_eq]at hd;obtain⟨⟨⟨h1,h2⟩,h3⟩,h4⟩:=hd;exact AnyK.first (S:=fun _=>True) hi h1 (Region.noSelect_spec h2) hQ (.inl fun _=>trivial) fuel r a w (Region.free_spec hi h3) (by simpa using h4) (.inl ⟨by simp[Region.wanted,hg],fun w _=>hy w⟩) trivial hT (.inl fun _=>trivial) h
theorem AnyK.load{fuel:Nat}{r:Array Bool}{a:Act}{w:World}(i:Nat){oi:Oper}{v:Value}(hi:ops[i]? = some oi)(hd:takeB md ops r k i=true)(hk:awaits md ops k i=true)(hl:r.getD k true=false)
 (hQ:∀c a w,Q (.panic c) (a.put oi.dst v) w→Q (.panic c) a w) (hg:oi.guard=none) (hy:∀w,T w→(execOp a.eval oi).run P w=.ok (.value v) w) (hT:T w)
 (h:AnyK P md ops Q k T fuel (r.setIfInBounds i true) (a.put oi.dst v) w):AnyK P md ops Q k T (fuel+1) r a w:=by
 simp only[takeB,Bool.and_eq_true,decide_eq_true_eq]at hd;obtain⟨⟨⟨h1,h2⟩,h3⟩,h4⟩:=hd;exact AnyK.first (S:=T) hi h1 (Region.noSelect_spec h2) hQ (.inr ⟨fun _ h=>h,zh5 hk⟩) fuel r a w (Region.free_spec hi h3) (by simpa using h4) (.inl ⟨by simp[Region.wanted,hg],hy⟩) hT (fun _=>hT) (.inr hl) h
theorem AnyK.one{fuel:Nat}{r:Array Bool}{a:Act}{w:World}(i:Nat){oi:Oper}(hi:ops[i]? = some oi)(hr:Region.ready md ops r=[i])(hg:oi.guard=none)
 (h:oi.wp P a w (fun a' w'=>((r.setIfInBounds i true).getD k true=false→T w')∧AnyK P md ops Q k T fuel (r.setIfInBounds i true) a' w') Q):AnyK P md ops Q k T (fuel+1) r a w:=by
 refine⟨fun h0=>(by rw[hr]at h0;cases h0),fun j hj=>?_⟩;rw[hr]at hj;obtain rfl:j=i:=by simpa using hj
 unfold wpOp
 simp only[hi];rw[if_pos (by simp[Region.wanted,hg])];exact .inl h
theorem AnyK.enter{fuel:Nat}{r:Array Bool}{a:Act}{w:World}(i:Nat){d:Option Tmp}{f:FuncId}{args:Array Value}(hi:(ops[i]?).map (fun o=>(o.dst,o.guard))=some (d,none))(A:(ops[i]?).map (fun o=>(execOp a.eval o).run P w)=some (.ok (.enter f args) w))(hr:Region.ready md ops r=[i])
 (h:Calls P f args w fun e w'=>∃v,e=.returned v∧((r.setIfInBounds i true).getD k true=false→T w')∧AnyK P md ops Q k T fuel (r.setIfInBounds i true) (a.put d v) w'):AnyK P md ops Q k T (fuel+1) r a w:=by
 cases ho:ops[i]? with
 | none=>simp[ho]at hi
 | some o =>
  simp only[ho,Option.map_some,Option.some.injEq,Prod.mk.injEq]at hi A;obtain⟨rfl,hg⟩:=hi;refine AnyK.one i ho hr hg ?_
  unfold Oper.wp
  rw[A];refine Calls.mono h ?_;rintro e w' ⟨v,rfl,h1,h2⟩;exact⟨h1,h2⟩
theorem AnyK.store{fuel:Nat}{r:Array Bool}{a:Act}{w w':World}(i:Nat){d:Option Tmp}{op:Op}(hi:(ops[i]?).map (fun o=>(o.dst,o.op,o.guard))=some (d,op,none))(A:∀o:Oper,o.op=op→(execOp a.eval o).run P w=.ok .skip w')(hr:Region.ready md ops r=[i])
 (h1:(r.setIfInBounds i true).getD k true=false→T w') (h:AnyK P md ops Q k T fuel (r.setIfInBounds i true) (a.put d undef) w'):AnyK P md ops Q k T (fuel+1) r a w:=by
 cases ho:ops[i]? with
 | none=>simp[ho]at hi
 | some o =>
  simp only[ho,Option.map_some,Option.some.injEq,Prod.mk.injEq]at hi;obtain⟨rfl,D,hg⟩:=hi;refine AnyK.one i ho hr hg ?_
  unfold Oper.wp
  rw[A o D];exact⟨h1,h⟩
theorem AnyK.done{fuel:Nat}{r:Array Bool}{a:Act}{w:World}(hr:Region.ready md ops r=[])(h:Q .normal a w):AnyK P md ops Q k T fuel r a w:=by
 cases fuel with
 | zero=>exact⟨hr,h⟩
 | succ fuel=>exact⟨fun _=>h,by rw[hr];simp⟩
end
end
section
section
variable{P:Program}{ops:Array Oper}{Q:Exit→Act→World→Prop}{md:Region.Mode}{T:World→Prop}{k:Nat}
theorem AnyK.fork{fuel:Nat}{r:Array Bool}{a:Act}{w:World}(i j:Nat){oi oj:Oper}(hi:ops[i]? = some oi)(hj:ops[j]? = some oj)(hr:Region.ready md ops r=[i,j])(hg:oi.guard=none)(D:oj.guard=none)
 (h:oi.wp P a w (fun a' w'=>((r.setIfInBounds i true).getD k true=false→T w')∧AnyK P md ops Q k T fuel (r.setIfInBounds i true) a' w') Q)
 (h':oj.wp P a w (fun a' w'=>((r.setIfInBounds j true).getD k true=false→T w')∧AnyK P md ops Q k T fuel (r.setIfInBounds j true) a' w') Q):AnyK P md ops Q k T (fuel+1) r a w:=by
 refine⟨fun h0=>(by rw[hr]at h0;cases h0),fun x hx=>?_⟩;rw[hr]at hx;have A:x=i∨x=j:=by simpa using hx
 rcases A with rfl|rfl
 · unfold wpOp
   simp only[hi];rw[if_pos (by simp[Region.wanted,hg])];exact .inl h
 · unfold wpOp
   simp only[hj];rw[if_pos (by simp[Region.wanted,D])];exact .inl h'
theorem AnyK.val{fuel:Nat}{r:Array Bool}{a:Act}{w:World}(i:Nat){oi:Oper}{v:Value}(hi:ops[i]? = some oi)(hr:Region.ready md ops r=[i])(hg:oi.guard=none)(hy:(execOp a.eval oi).run P w=.ok (.value v) w)
 (h1:(r.setIfInBounds i true).getD k true=false→T w) (h:AnyK P md ops Q k T fuel (r.setIfInBounds i true) (a.put oi.dst v) w):AnyK P md ops Q k T (fuel+1) r a w:=by
 refine AnyK.one i hi hr hg ?_
 unfold Oper.wp
 rw[hy,Oper.upon_value];exact⟨h1,h⟩
theorem AnyK.call_alloc{fuel:Nat}{r:Array Bool}{a:Act}{w:World}(i j s:Nat){d1 d2:Tmp}(hd:d1≠d2){f:FuncId}{args:Array Value}{ty:TypeId}(cs Z:List Value){oi oj os:Oper}
 (hi:ops[i]? = some oi) (hid:oi.dst=some d1) (hig:oi.guard=none) (hirun:∀w p,(execOp a.eval oi).run P w=.ok (.enter f args) w∧(execOp (a.put (some d2) p).eval oi).run P w=.ok (.enter f args) w)
 (hj:ops[j]? = some oj) (hjd:oj.dst=some d2) (hjg:oj.guard=none) (hjrun:∀(b:Act) w,(execOp b.eval oj).run P w=.ok (.value (.pointer (some ⟨w.heap.size,0,none⟩))) (w.alloc (.cells Z.toArray ty)))
 (hs:ops[s]? = some os) (hsd:os.dst=none) (hsg:os.guard=none) (hso:os.op=.store ty (.tmp d2) (.tmp d1))
 (he1:∀(x y:Value),((a.put (some d1) x).put (some d2) y).eval (.tmp d1)=x) (he2:∀(x y:Value),((a.put (some d1) x).put (some d2) y).eval (.tmp d2)=y)
 (hr0:Region.ready md ops r=[i,j]) (hri:Region.ready md ops (r.setIfInBounds i true)=[j]) (hrj:Region.ready md ops (r.setIfInBounds j true)=[i]) (hrs:Region.ready md ops ((r.setIfInBounds i true).setIfInBounds j true)=[s])
 (hcall:∀W,Below w.heap.size w W→Calls P f args W fun e w'=>e=.returned (.agg cs.toArray)∧Below W.heap.size W w')
 (hsz:(P.info? ty).map (·.size)=some cs.length) (hone:∀v∈cs,v.oneCell'=true) (hlen:cs.length=Z.length)
 (hT:∀W,Below w.heap.size w W→T W)
 (hcont:∀g W,w.heap.size≤g→Blk W g ty cs→Below w.heap.size w W→AnyK P md ops Q k T fuel (((r.setIfInBounds i true).setIfInBounds j true).setIfInBounds s true) (((a.put (some d1) (.agg cs.toArray)).put (some d2) (.pointer (some ⟨g,0,none⟩))).put none undef) W):
 AnyK P md ops Q k T (fuel+3) r a w:=by
 have M:i≠j:=by
  rintro rfl;rw[hi]at hj
  injection hj with hj
  subst hj;rw[hid]at hjd
  injection hjd with hjd
  exact hd hjd
 have E:∀g W,w.heap.size≤g→Blk W g ty Z→Below w.heap.size w W→AnyK P md ops Q k T (fuel+1) ((r.setIfInBounds i true).setIfInBounds j true) ((a.put (some d1) (.agg cs.toArray)).put (some d2) (.pointer (some ⟨g,0,none⟩))) W:=fun g W hg hb hB=>by
  refine AnyK.one s hs hrs hsg ?_;refine zge ty (.tmp d2) (.tmp d1) hso g 0 cs (he2 _ _) (he1 _ _) ty Z hb hsz hone om ?_;intro w' I U;rw[zap _ _ hlen]at I;have G:=U.below hB hg hB.size;rw[hsd];exact⟨fun _=>hT _ G,hcont g w' hg I G⟩
 refine AnyK.fork i j hi hj hr0 hig hjg ?_ ?_
 · unfold Oper.wp
   rw[(hirun w undef).1];refine Calls.mono (hcall w (Below.refl _ _)) ?_;rintro e w1 ⟨rfl,A⟩;refine⟨fun _=>hT _ A,?_⟩;rw[hid];refine AnyK.one j hj hri hjg ?_
   unfold Oper.wp
   rw[hjrun];have D:=A.alloc A.size (.cells Z.toArray ty);rw[Oper.upon_value,hjd];exact⟨fun _=>hT _ D,E _ _ A.size (Blk.new _ _ _) D⟩
 · unfold Oper.wp
   rw[hjrun];have D:=(Below.refl w.heap.size w).alloc lr (.cells Z.toArray ty);rw[Oper.upon_value,hjd];refine⟨fun _=>hT _ D,?_⟩;refine AnyK.one i hi hrj hig ?_
   unfold Oper.wp
   rw[(hirun _ _).2];refine Calls.mono (hcall _ D) ?_;rintro e w1 ⟨rfl,A⟩;have J:=D.trans (A.mono D.size);refine⟨fun _=>hT _ J,?_⟩;rw[hid,Array.setIfInBounds_comm _ _ (Ne.symm M),Act.put_comm a _ _ (fun d h1 h2=>hd (by injection h1 with h1;injection h2 with h2;rw[h1,h2]))];exact E _ _ lr ((Blk.new w ty Z).below A sy) J
end
end
def ldAt(ty:TypeId)(v:Value):Sem Value:=Instr.loadAt ty v
def stAt(ty:TypeId)(p v:Value):Sem Unit:=Instr.storeAt ty p v
def eqAt(ty:TypeId)(x y:Value):Sem Value:=binOp .eql ty x y
def neAt(ty:TypeId)(x y:Value):Sem Value:=binOp .neq ty x y
theorem zal{P:Program}{w:World}{g:Nat}{t:TypeId}{cs:List Value}(hB:Blk w g t cs)(ty:TypeId)(o:Nat)(ds:List Value)(hd:(cs.drop o).take ds.length=ds)(d:TypeDesc)(hu:P.underlying ty=some d)(hr:d.isRow=true)(hi:(P.info? ty).map (·.size)=some ds.length):
 (ldAt ty (.pointer (some ⟨g,o,none⟩))).run P w=.ok (.agg ds.toArray) w :=
 run_loadAt_mid w g o ty ds d (hB.mid o ds fun j v hv=>by
  rw[←hd,List.getElem?_take]at hv
  split at hv
  · simpa using hv
  · cases hv) hu hr hi
theorem zcr{P:Program}{w:World}{g:Nat}{t:TypeId}{cs:List Value}(hB:Blk w g t cs)(ty:TypeId)(o:Nat)(ds:List Value)(r:o+ds.length≤cs.length)(h1:∀v∈ds,v.oneCell'=true)(hi:(P.info? ty).map (·.size)=some ds.length):
 (stAt ty (.pointer (some ⟨g,o,none⟩)) (.agg ds.toArray)).run P w=.ok () (w.setCells g o ds):=by
 have h:=run_storeAt_mid (P:=P) w g o ty ds.toArray (by simpa using hB.there o ds.length r) (by simpa using hi) (all_oneCell_toArray h1);exact h
theorem Blk.set_{w:World}{g:Nat}{t:TypeId}{cs:List Value}(h:Blk w g t cs)(i:Nat)(u:Value):Blk (w.setCell ⟨g,i,none⟩ u) g t (cs.set i u):=by
 unfold Blk at h ⊢
 simp[World.setCell,Array.getElem?_modify,h]
theorem za5(l:List UInt8)(i:Nat)(c:UInt8):(u8s l).set i (.int .u8 c.toNat)=u8s (l.set i c):=by unfold u8s;rw[List.map_set];rfl
theorem zg8{α:Type}(l:List α)(z x:α)(k n:Nat)(hk:k<n)(hx:l[k]? = some x):(l.take k++rep (n-k) z).set k x=l.take (k+1)++rep (n-(k+1)) z:=by
 have hl:k<l.length:=(gi9.1 hx).1;have h1:(l.take k).length=k:=by simp;omega
 have e:rep (n-k) z=z :: rep (n-(k+1)) z:=by
  unfold rep
  rw[show n-k=(n-(k+1))+1 from by omega,List.replicate_succ]
 rw[e,List.set_append_right _ _ om,h1,Nat.sub_self,List.set_cons_zero,List.take_add_one,hx]
 simp
section
section
variable{P:Program}{ops:Array Oper}{Q:Exit→Act→World→Prop}{md:Region.Mode}{T:World→Prop}{k:Nat}
def fAct(a:Act)(d:Tmp):Option Nat→Act
 | none=>a
 | some g=>a.put (some d) (.pointer (some ⟨g,0,none⟩))
def fSet(L:Array Bool)(j:Nat):Option Nat→Array Bool
 | none=>L
 | some _=>L.setIfInBounds j true
def fWorld(B:Nat)(ty:TypeId)(Z:List Value)(W:World):Option Nat→Prop
 | none=>True
 | some g=>B≤g∧Blk W g ty Z
def fFuel(fuel:Nat):Option Nat→Nat
 | none=>fuel+1
 | some _=>fuel
def AnyF(P:Program)(md:Region.Mode)(ops:Array Oper)(Q:Exit→Act→World→Prop)(k:Nat)(T:World→Prop)(j:Nat)(d:Tmp)(B:Nat)(ty:TypeId)(Z:List Value)(fuel:Nat)(listed:Array Bool)(a:Act)(R:World→Prop):Prop :=
 ∀st W,R W→fWorld B ty Z W st→AnyK P md ops Q k T (fFuel fuel st) (fSet listed j st) (fAct a d st) W
variable{j:Nat}{d:Tmp}{B:Nat}{ty:TypeId}{Z:List Value}
theorem AnyF.start{fuel:Nat}{r:Array Bool}{a:Act}{w:World}(j:Nat)(d:Tmp)(B:Nat)(ty:TypeId)(Z:List Value)(R:World→Prop)(hR:R w)(h:AnyF P md ops Q k T j d B ty Z fuel r a R):AnyK P md ops Q k T (fuel+1) r a w:=h none w hR trivial
theorem zh0(L:Array Bool)(i j:Nat)(h:i≠j)(st:Option Nat):(fSet L j st).setIfInBounds i true=fSet (L.setIfInBounds i true) j st:=by
 cases st with
 | none=>rfl
 | some g=>exact Array.setIfInBounds_comm _ _ (Ne.symm h)
theorem zh1(a:Act)(d:Tmp)(x:Option Tmp)(v:Value)(h:x≠some d)(st:Option Nat):(fAct a d st).put x v=fAct (a.put x v) d st:=by
 cases st with
 | none=>rfl
 | some g=>exact(Act.put_comm a _ _ (fun e h1 h2=>h (by rw[h1];exact h2.symm ▸ rfl))).symm
theorem AnyF.pure{fuel:Nat}{r:Array Bool}{a:Act}{R:World→Prop}(i:Nat){oi:Oper}{v:Value}(hi:ops[i]? = some oi)(A:i≠j)(hd:∀g,takeB md ops (fSet r j g) k i=true)
 (hQ:∀c a w,Q (.panic c) (a.put oi.dst v) w→Q (.panic c) a w) (hg:oi.guard=none) (hod:oi.dst≠some d) (hy:∀st w,(execOp (fAct a d st).eval oi).run P w=.ok (.value v) w) (hT:∀W,R W→T W)
 (h:AnyF P md ops Q k T j d B ty Z fuel (r.setIfInBounds i true) (a.put oi.dst v) R):AnyF P md ops Q k T j d B ty Z (fuel+1) r a R:=by
 intro st W hR hF;have e:fFuel (fuel+1) st=fFuel fuel st+1:=by cases st <;> rfl
 rw[e];refine AnyK.pure i hi (hd st) hQ hg (hy st) (fun _=>hT W hR) ?_;rw[zh0 _ _ _ A,zh1 _ _ _ _ hod];exact h st W hR hF
theorem AnyF.load{fuel:Nat}{r:Array Bool}{a:Act}{R:World→Prop}(i:Nat){oi:Oper}{v:Value}(hi:ops[i]? = some oi)(A:i≠j)(hd:∀g,takeB md ops (fSet r j g) k i=true)(hk:awaits md ops k i=true)(hl:∀g,(fSet r j g).getD k true=false)
 (hQ:∀c a w,Q (.panic c) (a.put oi.dst v) w→Q (.panic c) a w) (hg:oi.guard=none) (hod:oi.dst≠some d) (hy:∀st w,T w→(execOp (fAct a d st).eval oi).run P w=.ok (.value v) w) (hT:∀W,R W→T W)
 (h:AnyF P md ops Q k T j d B ty Z fuel (r.setIfInBounds i true) (a.put oi.dst v) R):AnyF P md ops Q k T j d B ty Z (fuel+1) r a R:=by
 intro st W hR hF;have e:fFuel (fuel+1) st=fFuel fuel st+1:=by cases st <;> rfl
 rw[e];refine AnyK.load i hi (hd st) hk (hl st) hQ hg (hy st) (hT W hR) ?_;rw[zh0 _ _ _ A,zh1 _ _ _ _ hod];exact h st W hR hF
theorem AnyF.call{fuel:Nat}{r:Array Bool}{a:Act}{R:World→Prop}(i:Nat){d1:Tmp}{f:FuncId}{args:Array Value}{oi oj:Oper}{X:Type}(v:X→Value)(R':X→World→Prop)
 (hi:ops[i]? = some oi) (hid:oi.dst=some d1) (hig:oi.guard=none) (hij:i≠j) (hdd:some d1≠some d) (hirun:∀st w,(execOp (fAct a d st).eval oi).run P w=.ok (.enter f args) w)
 (hj:ops[j]? = some oj) (hjd:oj.dst=some d) (hjg:oj.guard=none) (hjrun:∀(b:Act) w,(execOp b.eval oj).run P w=.ok (.value (.pointer (some ⟨w.heap.size,0,none⟩))) (w.alloc (.cells Z.toArray ty)))
 (E:Region.ready md ops r=[i,j]∨Region.ready md ops r=[j,i]) (hr1:Region.ready md ops (r.setIfInBounds j true)=[i])
 (hRa:∀W o,R W→R (W.alloc o)) (hRB:∀W,R W→B≤W.heap.size) (hT:∀W,R W→T W) (hT':∀x W,R' x W→T W)
 (hcall:∀W,R W→Calls P f args W fun e w'=>∃x,e=.returned (v x)∧R' x w'∧Below W.heap.size W w')
 (h:∀x,AnyF P md ops Q k T j d B ty Z fuel (r.setIfInBounds i true) (a.put (some d1) (v x)) (R' x)):AnyF P md ops Q k T j d B ty Z (fuel+1) r a R:=by
 have D:∀g W,R W→B≤g→Blk W g ty Z→AnyK P md ops Q k T (fuel+1) (r.setIfInBounds j true) (a.put (some d) (.pointer (some ⟨g,0,none⟩))) W:=fun g W hR hg hb=>by
  refine AnyK.one i hi hr1 hig ?_
  unfold Oper.wp
  rw[show(execOp (a.put (some d) (.pointer (some ⟨g,0,none⟩))).eval oi).run P W=_ from hirun (some g) W];refine Calls.mono (hcall W hR) ?_;rintro e w' ⟨x,rfl,A,hB⟩;refine⟨fun _=>hT' x w' A,?_⟩;rw[hid];have h2:=h x (some g) w' A ⟨hg,hb.below hB hb.lt⟩;rw[←zh0 _ _ _ hij,←zh1 _ _ _ _ hdd]at h2;exact h2
 intro st W hR hF
 cases st with
 | some g=>exact D g W hR hF.1 hF.2
 | none =>
  have b1:oi.wp P a W (fun a' w'=>((r.setIfInBounds i true).getD k true=false→T w')∧AnyK P md ops Q k T (fuel+1) (r.setIfInBounds i true) a' w') Q:=by
   unfold Oper.wp
   rw[show(execOp a.eval oi).run P W=_ from hirun none W];refine Calls.mono (hcall W hR) ?_;rintro e w' ⟨x,rfl,A,hB⟩;refine⟨fun _=>hT' x w' A,?_⟩;rw[hid];exact h x none w' A trivial
  have b2:oj.wp P a W (fun a' w'=>((r.setIfInBounds j true).getD k true=false→T w')∧AnyK P md ops Q k T (fuel+1) (r.setIfInBounds j true) a' w') Q:=by
   unfold Oper.wp
   rw[hjrun];rw[Oper.upon_value,hjd];exact⟨fun _=>hT _ (hRa _ _ hR),D _ _ (hRa _ _ hR) (hRB _ hR) (Blk.new _ _ _)⟩
  rcases E with E|E
  · exact AnyK.fork i j hi hj E hig hjg b1 b2
  · exact AnyK.fork j i hj hi E hjg hig b2 b1
theorem AnyF.fin{fuel:Nat}{r:Array Bool}{a:Act}{R:World→Prop}{oj:Oper}
 (hj:ops[j]? = some oj) (hjd:oj.dst=some d) (hjg:oj.guard=none) (hjrun:∀(b:Act) w,(execOp b.eval oj).run P w=.ok (.value (.pointer (some ⟨w.heap.size,0,none⟩))) (w.alloc (.cells Z.toArray ty)))
 (hr0:Region.ready md ops r=[j]) (hRa:∀W o,R W→R (W.alloc o)) (hRB:∀W,R W→B≤W.heap.size) (hT:∀W,R W→T W)
 (h:∀g W,B≤g→Blk W g ty Z→R W→AnyK P md ops Q k T fuel (r.setIfInBounds j true) (a.put (some d) (.pointer (some ⟨g,0,none⟩))) W):AnyF P md ops Q k T j d B ty Z fuel r a R:=by
 intro st W hR hF
 cases st with
 | some g=>exact h g W hF.1 hF.2 hR
 | none =>
  refine AnyK.one j hj hr0 hjg ?_
  unfold Oper.wp
  rw[hjrun,Oper.upon_value,hjd];exact⟨fun _=>hT _ (hRa _ _ hR),h _ _ (hRB _ hR) (Blk.new _ _ _) (hRa _ _ hR)⟩
theorem AnyK.storeAll{fuel:Nat}{r:Array Bool}{a:Act}{w:World}(i:Nat){oi:Oper}{t:TypeId}{x y:Operand}(g:Nat)(cs:List Value)(t':TypeId)(Z:List Value)(hi:ops[i]? = some oi)(E:oi.dst=none)(hg:oi.guard=none)(ho:oi.op=.store t x y)(hr:Region.ready md ops r=[i])
 (hx:a.eval x=.pointer (some ⟨g,0,none⟩)) (hy:a.eval y=.agg cs.toArray) (hb:Blk w g t' Z) (hsz:(P.info? t).map (·.size)=some cs.length) (hone:∀v∈cs,v.oneCell'=true) (hlen:cs.length=Z.length)
 (hT:∀w',Blk w' g t' cs→Only w w' g→(r.setIfInBounds i true).getD k true=false→T w')
 (h:∀w',Blk w' g t' cs→Only w w' g→AnyK P md ops Q k T fuel (r.setIfInBounds i true) (a.put none undef) w'):AnyK P md ops Q k T (fuel+1) r a w:=by
 refine AnyK.one i hi hr hg ?_;refine zge t x y ho g 0 cs hx hy t' Z hb hsz hone om ?_;intro w' A D;rw[zap _ _ hlen]at A;rw[E];exact⟨hT w' A D,h w' A D⟩
end
section
variable{P:Program}{w:World}{o:Oper}{a:Act}
theorem zdp{t:TypeId}{x:Operand}{p:Addr}{v:Value}(ho:o.op=.load t x)(hx:a.eval x=.pointer (some p))(h:(ldAt t (.pointer (some p))).run P w=.ok v w):(execOp a.eval o).run P w=.ok (.value v) w:=by
 unfold execOp
 have h2:(Instr.loadAt t (.pointer (some p))).run P w=.ok v w:=h
 simp[ho,hx,h2]
end
section
variable{P:Program}{ops:Array Oper}{Q:Exit→Act→World→Prop}{md:Region.Mode}{T:World→Prop}{k:Nat}
def AnyR(P:Program)(md:Region.Mode)(ops:Array Oper)(Q:Exit→Act→World→Prop)(k:Nat)(T:World→Prop)(fuel:Nat)(listed:Array Bool)(a:Act)(w:World):Prop :=
 (∀c (a:Act) w (d:Tmp) v,Q (.panic c) (a.put (some d) v) w→Q (.panic c) a w)→(listed.getD k true=false→T w)→AnyK P md ops Q k T fuel listed a w
theorem kgo{id:Nat}{a:Act}{w:World}(hm:P.follows .mixedOrders=true)(k:Nat)(T:World→Prop)(hT:T { w with drawn:=w.drawn+1 })(hQ:∀c (a:Act) w (d:Tmp) v,Q (.panic c) (a.put (some d) v) w→Q (.panic c) a w)
 (h:AnyR P .any ops Q k T ops.size (Array.replicate ops.size false) a { w with drawn:=w.drawn+1 }):(Code.region id ops true).wp P Q a w:=zcf hm k T (h hQ fun _=>hT)
theorem kp{fuel:Nat}{r:Array Bool}{a:Act}{w:World}(i:Nat)(v:Value){oi:Oper}(hi:ops[i]? = some oi)(hd:(takeB md ops r k i && oi.guard.isNone && oi.dst.isSome)=true)(hy:∀w,(execOp a.eval oi).run P w=.ok (.value v) w)
 (h:AnyR P md ops Q k T fuel (r.setIfInBounds i true) (a.put oi.dst v) w):AnyR P md ops Q k T (fuel+1) r a w:=by
 intro hQ hT;simp only[Bool.and_eq_true,Option.isNone_iff_eq_none]at hd;obtain⟨⟨h1,h2⟩,h3⟩:=hd;obtain⟨t,ht⟩:=Option.isSome_iff_exists.1 h3;refine AnyK.pure i hi h1 (fun c a w hq=>hQ c a w t v (ht ▸ hq)) h2 hy hT (h hQ fun hl=>hT ?_);simp only[takeB,Bool.and_eq_true,decide_eq_true_eq]at h1
 rwa [getD_set_ne true h1.1.1.1]at hl
theorem kl{fuel:Nat}{r:Array Bool}{a:Act}{w:World}(i:Nat)(v:Value){oi:Oper}(hi:ops[i]? = some oi)(hd:(takeB md ops r k i && awaits md ops k i && !r.getD k true && oi.guard.isNone && oi.dst.isSome)=true)(hy:∀w,T w→(execOp a.eval oi).run P w=.ok (.value v) w)
 (h:AnyR P md ops Q k T fuel (r.setIfInBounds i true) (a.put oi.dst v) w):AnyR P md ops Q k T (fuel+1) r a w:=by
 intro hQ hT;simp only[Bool.and_eq_true,Option.isNone_iff_eq_none,Bool.not_eq_true']at hd;obtain⟨⟨⟨⟨h1,h2⟩,h3⟩,h4⟩,h5⟩:=hd;obtain⟨t,ht⟩:=Option.isSome_iff_exists.1 h5;refine AnyK.load i hi h1 h2 h3 (fun c a w hq=>hQ c a w t v (ht ▸ hq)) h4 hy (hT h3) (h hQ fun _=>hT h3)
end
section
variable{P:Program}{ops:Array Oper}{Q:Exit→Act→World→Prop}{md:Region.Mode}{T:World→Prop}{k:Nat}
theorem AnyK.pu{fuel:Nat}{r:Array Bool}{a:Act}{w:World}(i:Nat){oi:Oper}{v:Value}(hT:r.getD k true=false→T w)
 (h:AnyK P md ops Q k T fuel (r.setIfInBounds i true) (a.put oi.dst v) w) (hi:ops[i]? = some oi:=by rfl) (hd:takeB md ops r k i=true:=by kernel_rfl)
 (hQ:∀c a w,Q (.panic c) (a.put oi.dst v) w→Q (.panic c) a w:=by exact fun _ _ _ h=>h) (hg:oi.guard=none:=by rfl) (hy:∀w,(execOp a.eval oi).run P w=.ok (.value v) w:=by exact fun _=>by kernel_rfl):AnyK P md ops Q k T (fuel+1) r a w:=AnyK.pure i hi hd hQ hg hy hT h
theorem AnyK.lo{fuel:Nat}{r:Array Bool}{a:Act}{w:World}(i:Nat){oi:Oper}{v:Value}(hi:ops[i]? = some oi)(hy:∀w,T w→(execOp a.eval oi).run P w=.ok (.value v) w)(hT:T w)
 (h:AnyK P md ops Q k T fuel (r.setIfInBounds i true) (a.put oi.dst v) w) (hd:takeB md ops r k i=true:=by kernel_rfl) (hk:awaits md ops k i=true:=by kernel_rfl) (hl:r.getD k true=false:=by kernel_rfl)
 (hQ:∀c a w,Q (.panic c) (a.put oi.dst v) w→Q (.panic c) a w:=by exact fun _ _ _ h=>h) (hg:oi.guard=none:=by rfl):AnyK P md ops Q k T (fuel+1) r a w:=AnyK.load i hi hd hk hl hQ hg hy hT h
end
end
section
section
variable{P:Program}
theorem zfo(d:Nat)(e:TypeId)(he:P.plainKey e=true)(hu:P.underlying e=some (.int .u8))(a b:List UInt8)(hl:a.length=b.length)(w:World):
 ∀(k i:Nat),i+k=a.length→(Op.eqItems (d+1) e 1 (u8s a).toArray (u8s b).toArray (List.range' i k)).run P w=.ok (decide (a.drop i=b.drop i)) w:=by
 intro k
 induction k with
 | zero =>
  intro i hi;rw[List.drop_eq_nil_of_le om,List.drop_eq_nil_of_le om]
  simp[Op.eqItems]
 | succ k ih =>
  intro i hi;have r:i<a.length:=om;have A:i<b.length:=om
  have ha:(u8s a).toArray[i*1]? = some (.int .u8 (a[i].toNat:Int)):=by
   rw[Nat.mul_one,List.getElem?_toArray,u8s_getElem?,ge9 r]
   rfl
  have hb:(u8s b).toArray[i*1]? = some (.int .u8 (b[i].toNat:Int)):=by
   rw[Nat.mul_one,List.getElem?_toArray,u8s_getElem?,ge9 A]
   rfl
  have e1:a.drop i=a[i] :: a.drop (i+1):=List.drop_eq_getElem_cons r;have e2:b.drop i=b[i] :: b.drop (i+1):=List.drop_eq_getElem_cons A;rw[e1,e2,List.range'_succ];simp only[Op.eqItems,Sem.run_bind,run_part_plain w he ha,run_part_plain w he hb,Result.andThen_ok,run_equalIn_int w d e .u8 .u8 _ _ hu]
  by_cases hx:a[i]=b[i]
  · rw[hx]
    simp only[beq_self_eq_true,Bool.not_true,Bool.false_eq_true,if_false];rw[ih (i+1) om];have h2:(a.drop (i+1)=b.drop (i+1)) ↔ (b[i] :: a.drop (i+1)=b[i] :: b.drop (i+1)):=by simp only[List.cons.injEq,true_and]
    exact congrArg (fun x=>Result.ok x w) (decide_eq_decide.2 h2)
  · have:(((a[i].toNat:Int)) == ((b[i].toNat:Int)))=false:=by
     rw[beq_eq_false_iff_ne];intro h;exact hx (UInt8.toNat_inj.1 om)
    rw[this,decide_eq_false (fun h=>hx (List.cons.inj h).1)]
    simp
theorem zoq{t e:TypeId}{n:Nat}{i:TypeInfo}(hu:P.underlying t=some (.array n e))(hi:P.info? e=some i)(hc:P.cellsOf e=1)(he:P.plainKey e=true)(r:P.underlying e=some (.int .u8))(a b:List UInt8)(ha:a.length=n)(hb:b.length=n)(w:World):
 (eqAt t (.agg (u8s a).toArray) (.agg (u8s b).toArray)).run P w=.ok (.bool (decide (a=b))) w:=by
 unfold eqAt
 rw[run_eql_struct,run_equalIn_array w 9999 _ _ hu hi,hc,List.range_eq_range',←ha,zfo 9998 e he r a b om w a.length 0 om]
 simp
end
theorem eq16(a b:List UInt8)(ha:a.length=16)(hb:b.length=16)(w:World):(eqAt 28 (.agg (u8s a).toArray) (.agg (u8s b).toArray)).run Tryz.prog w=.ok (.bool (decide (a=b))) w:=by
 obtain⟨i,hi⟩:∃i,Tryz.prog.info? 5 = some i:=by
  have h:(Tryz.prog.info? 5).isSome=true:=by kernel_rfl
  exact Option.isSome_iff_exists.1 h
 exact zoq Tryz.underlying28 hi kr kr Tryz.underlying5 a b ha hb w
end
def beNat(l:List UInt8):Nat:=l.foldl (fun n c=>n*256+c.toNat) 0
theorem zf1(l:List UInt8)(c:UInt8):beNat (l++[c])=beNat l*256+c.toNat:=by simp[beNat]
theorem zjh(l:List UInt8):∀n,l.foldl (fun n c=>n*256+c.toNat) n=n*256^l.length+beNat l:=by
 induction l with
 | nil=>intro n;simp[beNat]
 | cons c l ih =>
  intro n;have h1:=ih (n*256+c.toNat);have h2:=ih (0*256+c.toNat);simp only[List.foldl_cons,List.length_cons,beNat]at h1 h2 ⊢;rw[h1,h2,Nat.pow_succ,Nat.add_mul,Nat.zero_mul,Nat.zero_add,Nat.mul_assoc,Nat.mul_comm 256,Nat.add_assoc]
theorem zji(c:UInt8)(l:List UInt8):beNat (c :: l)=c.toNat*256^l.length+beNat l:=by
 have:=zjh l (0*256+c.toNat);rw[Nat.zero_mul,Nat.zero_add]at this;rw[←this]
 simp[beNat]
theorem zkt(l:List UInt8):beNat l<256^l.length:=by
 induction l with
 | nil=>simp[beNat]
 | cons c l ih =>
  rw[zji,List.length_cons,Nat.pow_succ];have h:=c.toNat_lt;have:c.toNat*256^l.length≤255*256^l.length:=Nat.mul_le_mul_right _ om;omega
theorem zyn(m:Nat)(x:UInt8)(h:m<72057594037927936):bits .or .u64 (IntKind.u64.wrap ((m:Int)*256)) (IntKind.u64.wrap (x.toNat:Int))=((m*256+x.toNat:Nat):Int):=by
 have hx:=x.toNat_lt
 rw [show IntKind.u64.wrap ((m:Int)*256)=((m*256:Nat):Int) from by rw[IntKind.wrap_u64];omega,show IntKind.u64.wrap (x.toNat:Int)=((x.toNat:Nat):Int) from by rw[IntKind.wrap_u64];omega,
   bits_or_u64_nat _ _ om om]
 have:=Nat.two_pow_add_eq_or_of_lt (b:=x.toNat) (i:=8) om m;rw[Nat.mul_comm m 256];exact congrArg Int.ofNat (by simpa using this.symm)
theorem zla{j k:Nat}(h:j<k)(h2:k≤8):256^j≤72057594037927936:=by
 have:256^j≤256^7:=Nat.pow_le_pow_right om om
 simpa using this
theorem zw5(n:Int)(h1:1≤n)(h2:n≤8)(w:World):Calls Tryz.prog 67 #[.int .i64 2,.int .i64 n] w fun e w'=>e=.returned (.bool true)∧w=w':=by
 have e1:decide (1≤n)=true:=by simpa using h1
 have e2:decide (n≤8)=true:=by simpa using h2
 go_enter Tryz.func67, Tryz.ntmps67
 go_wp2;go_ret;exact⟨by simp,rfl⟩
theorem get_2(A:Option Addr)(n c at_ k:Nat)(l:List UInt8)(w:World)(h:Rd w A n (u8s l))(hn:n≤140737488355328)(h1:1≤k)(h2:k≤8)(h3:at_+k≤n):
 Calls Tryz.prog 38 #[.int .i64 2,.slice A n c,.int .i64 at_,.int .i64 k] w fun e w'=>e=.returned (.tuple #[.int .u64 (beNat ((l.drop at_).take k)),.int .i64 0])∧w=w':=by
 have hl:=h.len;have HL:=qh hl;clear hl;have e1:decide ((at_:Int)<0)=false:=by simp
 have e2:decide ((n:Int)<(at_:Int))=false:=by simp;omega
 have e3:decide ((n:Int)-(at_:Int)<(k:Int))=false:=by simp;omega
 go_enter Tryz.func38, Tryz.ntmps38
 go_wp2_with (go_at_call 67;refine(zw5 _ om om _).mono ?_;rintro e w' ⟨rfl,rfl⟩)
 go_loop [10,11] (fun m i=>∃j:Nat,j≤k∧i=.int .i64 j∧m=.int .u64 (beNat ((l.drop at_).take j))) (fun _ i=>k-(intOf i).toNat)
 case atStart=>exact⟨0,Nat.zero_le _,rfl,rfl⟩
 case round =>
  obtain⟨j,hj,rfl,rfl⟩:=hrel
  by_cases hlt:j<k
  · obtain⟨b,G,x,rfl,hb,HX,hc⟩:=h.u8 (k:=at_+j) om
    have E:=zkt ((l.drop at_).take j)
    have hs:beNat ((l.drop at_).take (j+1))=beNat ((l.drop at_).take j)*256+x.toNat:=by
     rw[List.take_add_one,List.getElem?_drop,HX.o];exact zf1 _ _
    have HS:=qh hs;have r:=qh E;have i0:(0:Int)≤(at_:Int)+(j:Int):=om;have i1:(at_:Int)+(j:Int)<(n:Int):=om;clear hs E;generalize beNat ((l.drop at_).take j)=m at *;have hm:m<72057594037927936:=Nat.lt_of_lt_of_le r.o (Nat.le_trans (Nat.pow_le_pow_right om (List.length_take_le _ _)) (zla hlt h2));have D:=zyn m x hm;have HO:=qh D;clear D r hm;go_wp2
    go_round
    case rel=>exact⟨j+1,by omega,by go_num,by rw[HO.o,HS.o]⟩
    case measure=>simp[intOf];omega
  · have:j=k:=om
    subst this;go_wp2;go_ret2;exact⟨rfl,rfl⟩
theorem zrj(j m:Nat)(x:UInt8)(hj:j≤7)(hm:m<256^j):
 IntKind.u64.wrap (((256^j%18446744073709551616:Nat):Int)*256)=((256^(j+1)%18446744073709551616:Nat):Int) ∧
 IntKind.u64.wrap ((m:Int)+IntKind.u64.wrap (((256^j%18446744073709551616:Nat):Int)*IntKind.u64.wrap (x.toNat:Int)))=((m+256^j*x.toNat:Nat):Int):=by
 have hp:256^j≤72057594037927936:=zla (k:=8) om om;have hx:=x.toNat_lt;rw[Nat.pow_succ];generalize 256^j=P at *;have r:P*x.toNat≤P*255:=Nat.mul_le_mul_left _ om;have e1:P%18446744073709551616=P:=Nat.mod_eq_of_lt om;rw[e1];have e2:IntKind.u64.wrap (x.toNat:Int)=(x.toNat:Int):=by rw[IntKind.wrap_u64];omega
 rw[e2];have e3:(P:Int)*(x.toNat:Int)=((P*x.toNat:Nat):Int):=by simp
 rw[e3];generalize P*x.toNat=Y at *
 constructor
 · rw[IntKind.wrap_u64];omega
 · rw[IntKind.wrap_u64,IntKind.wrap_u64];omega
section
section
variable{P:Program}{w:World}{o:Oper}{a:Act}
theorem zci{t:TypeId}{x:Operand}{p:Addr}{v:Value}(ho:o.op=.load t x)(hx:a.eval x=.pointer (some p))(hn:∀w,(isAgg t).run P w=.ok false w)(hc:w.cell? p=some v):(execOp a.eval o).run P w=.ok (.value v) w:=by
 unfold execOp
 simp[ho,hx,Instr.loadAt,Instr.sureAddr,loadVar,hn,hc]
theorem zki{t:TypeId}{x y:Operand}{p:Addr}{u:Value}{k:IntKind}{n:Int}(ho:o.op=.store t x y)(hx:a.eval x=.pointer (some p))(hy:a.eval y=.int k n)(hz:∀w,(sizeOf t).run P w=.ok 1 w)(hc:w.cell? p=some u)(hf:w.frozen? p=false):(execOp a.eval o).run P w=.ok .skip (w.setCell p (.int k n)):=by
 unfold execOp
 simp[ho,hx,hy,Instr.storeAt,Instr.sureAddr,storeVar,hz,Value.cells,storeCells,store,Addr.add,Sem.run,hc,hf]
theorem zc1{t e:TypeId}{x y:Operand}{g off m p:Nat}(ho:o.op=.indexAddr t x y)(hx:a.eval x=.pointer (some ⟨g,off,none⟩))(hy:a.eval y=.int .i64 (p:Int))(hp:p<m)(hu:P.underlying t=some (.array m e))(hz:∀w,(sizeOf e).run P w=.ok 1 w):(execOp a.eval o).run P w=.ok (.value (.pointer (some ⟨g,off+p,none⟩))) w:=by
 unfold execOp
 simp[ho,hx,hy,Instr.indexAt,asIntOf,run_underlying hu,hz,hp,Addr.add,Instr.sureAddr]
theorem zaf{t:TypeId}{x:Operand}{p v:Value}(ho:o.op=.load t x)(hx:a.eval x=p)(hr:(Instr.loadAt t p).run P w=.ok v w):(execOp a.eval o).run P w=.ok (.value v) w:=by
 unfold execOp
 simp[ho,hx,hr]
end
end
theorem zcq:(Tryz.prog.info? 5).map (·.size)=some 1:=by kernel_rfl
theorem hd34:(Tryz.prog.info? 31).map (·.size)=some 288:=by kernel_rfl
theorem zc34:Tryz.zeroCells31 = (List.replicate 288 (.int .u8 0)).toArray:=by kernel_rfl
theorem zpt(A:Option Addr)(c:Nat)(l:List UInt8)(w:World)(h:Rd w A 288 (u8s l))(hc:288≤c):
 Calls Tryz.prog 39 #[.slice A 288 c] w fun e w'=>e=.returned (.tuple #[.agg (u8s l).toArray,.int .i64 0])∧Below w.heap.size w w':=by
 have hl:=h.len;obtain⟨b,r,rfl,hb,E⟩:=h.2 om;obtain⟨Z,hZ⟩:∃Z:List Value,Tryz.zeroCells31 = Z.toArray:=⟨_,zc34⟩;have a6:Z.length=288:=by have:=Tryz.zeroCells31_size;rw[hZ]at this;simpa using this
 have HZ:=qh hZ;have D:=qh a6;have Hl:=qh hl;have Hc:=qh E;clear hZ a6 hl E
 go_enter Tryz.func39, Tryz.ntmps39
 go_wp2_with (refine zav rfl (.tmp 10) (.tmp 11) 22 rfl 5 Tryz.underlying22 zcq (w.heap.size+1) 0 32 32 rr (some ⟨b,r,none⟩) 288 c rr 31 Z ?c1 (u8s l) ?c2 (zac _) ?c3 ?_)
 case c1=>exact Blk.new' sy HZ.o
 case c2=>exact(h.alloc _).alloc _
 case c3=>rw[D.o];omega
 intro w1 b1 V;have G:Below w.heap.size w w1:=V.below (((Below.refl _ _).alloc lr _).alloc sy _) sy (by simp;omega);have a2:Blk w1 w.heap.size 31 Z:=V.blk ((Blk.new' rfl HZ.o).alloc _) om;have a5:Rd w1 (some ⟨b,r,none⟩) 288 (u8s l):=h.below G;have M:∀cs o (xs:List Value) n,o+n≤288→cs.length=288→(splice cs o (xs.take n)).length=288:=fun cs o xs n hn hc=>by rw[length_splice _ _ _ (by simp;omega)];exact hc
 have HL:=qh M
 have hcut:∀W k m,Rd W (some ⟨b,r,none⟩) 288 (u8s l)→k+m=288→0<m→Rd W (some ⟨b,r+k,none⟩) m (u8s (l.drop k)):=fun W k m h hkm hm=>by
  have:=h.cut (A':=some ⟨b,r+k,none⟩) (m:=288) (k:=k) lr om (fun _ b' off' e=>by injection e with e;injection e with e1 e2;subst e1;subst e2;rfl);rw[tk (by rw[zaa,Hl.o];exact lr),za9,show 288-k=m from by omega]at this;exact this
 have HC:=qh hcut;clear V M hcut;go_wp2;have n32:¬c=32:=om;have b7:¬c=48:=om;have a8:32+16≤(splice Z 0 (List.take 32 (u8s l))).length:=by rw[HL.o _ _ _ _ om D.o];omega
 go_region_held3 (fun _=>True) (trivial) ((refine zbs rfl (.tmp 14) (.tmp 16) 22 rfl 5 Tryz.underlying22 zcq (w.heap.size+1) 32 16 16 rr (some ⟨b,r+32,none⟩) 256 (c-32) rr 31 _ (by exact b1) (u8s (l.drop 32)) (HC.o _ 32 256 a5.drew rfl om) (zac _) a8 ?_;intro w2 a4 Y))
 have I:Below w.heap.size w w2:=Y.below G.drew om G.size;have a3:Blk w2 w.heap.size 31 Z:=Y.blk a2.drew om;have a0:Rd w2 (some ⟨b,r,none⟩) 288 (u8s l):=h.below I;have a1:48+240≤(splice (splice Z 0 (List.take 32 (u8s l))) 32 (List.take 16 (u8s (l.drop 32)))).length:=by rw[HL.o _ _ _ _ om (HL.o _ _ _ _ om D.o)];omega
 clear Y a8 G a2 a5 b1;go_wp2
 go_region_held3 (fun _=>True) (trivial) ((refine zbs rfl (.tmp 19) (.tmp 21) 22 rfl 5 Tryz.underlying22 zcq (w.heap.size+1) 48 240 240 rr (some ⟨b,r+48,none⟩) 240 (c-48) rr 31 _ (by exact a4) (u8s (l.drop 48)) (HC.o _ 48 240 a0.drew rfl om) (zac _) a1 ?_;intro w3 b2 U))
 have b3:Below w.heap.size w w3:=U.below I.drew om I.size;have b6:Blk w3 w.heap.size 31 Z:=U.blk a3.drew om
 have HF:splice (splice (splice Z 0 (List.take 32 (u8s l))) 32 (List.take 16 (u8s (l.drop 32)))) 48 (List.take 240 (u8s (l.drop 48)))=u8s l:=by
  have hZ:=D.o;have hl:=Hl.o;rw[splice_splice_splice Z _ _ _ 32 16 (by simp[zaa];omega) (by simp[zaa];omega) (by simp[zaa];omega),zay,zay,zay,←zae,←zae]
  congr 1
  rw[tk (l:=l.drop 48) (by simp;omega),show l.drop 48=(l.drop 32).drop 16 from by simp,List.take_append_drop,List.take_append_drop]
 rw[HF]at b2;have J:(Tryz.prog.info? 31).map (·.size)=some (u8s l).length:=by rw[zaa,Hl.o];exact hd34
 have a9:0+(u8s l).length≤Z.length:=by rw[zaa,Hl.o,D.o];omega
 have X:=qh J;clear U I a3 a0 a4 HF a1 J
 go_wp2_with (first
  | refine wpList_load_mid rfl 31 (.tmp 4) rfl (w.heap.size+1) 0 rr (u8s l) _ b2.range Tryz.underlying31 rfl X.o ?_
  | (refine zbw rfl 31 (.tmp 2) (.tmp 23) rfl w.heap.size 0 (u8s l) rr rr 31 Z b6 X.o (zac _) a9 ?_;intro w4 a7 b5))
 have b4:Below w.heap.size w w4:=b5.below b3 lr b3.size;rw[show splice Z 0 (u8s l)=u8s l from by unfold splice;rw[List.drop_eq_nil_of_le (by rw[D.o,zaa,Hl.o];omega)];simp]at a7;exact bodyPost_ret (zak rfl _ _ _ _ rfl a7 _ Tryz.underlying31 rfl X.o) rfl ⟨rfl,b4⟩
theorem zpw(l:List UInt8)(w:World)(hl:l.length=288):
 Calls Tryz.prog 37 #[.agg (u8s l).toArray] w fun e w'=>∃A' c',e=.returned (.slice A' 288 c')∧288≤c'∧w'.ownsRow w.heap.size 5 1 (.slice A' 288 c') 288 (u8s l)∧Below w.heap.size w w':=by
 have Hl:=qh hl;clear hl
 go_enter Tryz.func37, Tryz.ntmps37
 have hq:∀W,Blk W w.heap.size 31 (u8s l)→Blk W (w.heap.size+1) 22 [.slice (some ⟨w.heap.size,0,none⟩) 32 32,.slice (some ⟨w.heap.size,32,none⟩) 16 16,.slice (some ⟨w.heap.size,48,none⟩) 240 240] →
     RdB W (some ⟨w.heap.size+1,0,none⟩) 3 [l.take 32,(l.drop 32).take 16,(l.drop 48).take 240]:=fun W h1 h2 =>
  RdB.of_blk h2 ⟨.of_blk h1 0 32 32 _ (by rw[zaa,Hl.o];omega) om (by rw[za9,zay];rfl),.of_blk h1 32 16 16 _ (by rw[zaa,Hl.o];omega) om (by rw[za9,zay]),
    .of_blk h1 48 240 240 _ (by rw[zaa,Hl.o];omega) om (by rw[za9,zay]),trivial⟩
 have D:[l.take 32,(l.drop 32).take 16,(l.drop 48).take 240].flatten=l:=by
  have hl:=Hl.o
  simp
  rw[tk (l:=l.drop 48) (by simp;omega),show l.drop 48=(l.drop 32).drop 16 from by simp,List.take_append_drop,List.take_append_drop]
 have HQ:=qh hq;have J:=qh D;clear hq D
 go_wp2_with fail
 go_region_held3 (fun _=>True) (trivial) ((go_at_call 36;refine(zef _ 3 3 _ _ (HQ.o _ (by exact((Blk.new w _ _).alloc _).drew) (by exact(Blk.new' sy rfl).drew)) om l 288 J.o Hl.o om).mono ?_;rintro e w1 ⟨A1,c1,rfl,I,r,E⟩))
 have G:Below w.heap.size w w1:=((((Below.refl _ _).alloc lr _).alloc sy _).drew).trans (E.mono (by simp;omega));have A:=zbi r (base':=w.heap.size) (by simp;omega);clear r E;go_wp2;go_ret;exact⟨A1,c1,rfl,I,A,G⟩
section
theorem hd76:(Tryz.prog.info? 45).map (·.size)=some 768:=by kernel_rfl
theorem zc76:Tryz.zeroCells45 = (u8s (List.replicate 768 0)).toArray:=by kernel_rfl
theorem zc34':Tryz.zeroCells31 = (u8s (List.replicate 288 0)).toArray:=by kernel_rfl
def places76:Array (Nat × Nat):=#[(0,288),(288,480)]
theorem pl76(r:Array Field)(h:Tryz.prog.underlying 45 = some (.struct r))(w:World):(r.mapM (fun f=>do pure (f.offset,←sizeOf f.type)):Sem (Array (Nat × Nat))).run Tryz.prog w=.ok places76 w:=by
 rw[Tryz.underlying45]at h
 injection h with h
 injection h with h
 subst h
 kernel_rfl
theorem zsy(v:Value):Instr.loadAt 31 v=ldAt 31 v:=rfl
attribute [local go_sem ↓] zsy
end
theorem zc7{α:Type}(A B C B':List α)(k:Nat)(hk:A.length=k)(hb:B'.length=B.length):splice (A++(B++C)) k B'=A++(B'++C):=by
 subst hk
 unfold splice
 rw[List.take_left,hb,←as9 A B C,show A.length+B.length=(A++B).length from by simp,List.drop_left]
theorem zdm{α:Type}(A B A':List α)(h:A'.length=A.length):splice (A++B) 0 A'=A'++B:=by
 have:=zc7 ([]:List α) A B A' 0 rfl h
 simpa using this
theorem zex{α:Type}(A B B':List α)(k:Nat)(hk:A.length=k)(h:B'.length=B.length):splice (A++B) k B'=A++B':=by
 have:=zc7 A B [] B' k hk h
 simpa using this
theorem Blk.all{w:World}{g:Nat}{t:TypeId}{l:List UInt8}{n:Nat}(h:Blk w g t (u8s l))(hn:l.length=n):Rd w (some ⟨g,0,none⟩) n (u8s l):=by
 have:=h.rd 0 n (by rw[zaa,hn];omega)
 rwa [List.drop_zero,tk (by rw[zaa,hn];omega)]at this
section
theorem hd37:(Tryz.prog.info? 34).map (·.size)=some 321:=by kernel_rfl
def z37:List Value:=u8s (rep 288 0)++([.int .u64 0]++u8s (rep 32 0))
theorem zdq:z37.length=321:=by simp[z37,zaa,zao]
theorem zc37:Tryz.zeroCells34 = z37.toArray:=by kernel_rfl
theorem zc34r:Tryz.zeroCells31 = (u8s (rep 288 0)).toArray:=by kernel_rfl
theorem zqd:∀v∈z37,v.oneCell'=true:=by
 intro v hv;simp only[z37,List.mem_append,List.mem_singleton]at hv
 rcases hv with hv|hv|hv
 · exact zac _ v hv
 · subst hv;rfl
 · exact zac _ v hv
def blkCells(l:List UInt8):List Value:=u8s ((l.drop 8).take 288)++([.int .u64 (beNat (l.take 8))]++u8s (l.drop 296))
theorem zbe(l:List UInt8)(h:l.length=328):(blkCells l).length=321:=by simp[blkCells,zaa,h]
theorem zcz(l:List UInt8):∀v∈blkCells l,v.oneCell'=true:=by
 intro v hv;simp only[blkCells,List.mem_append,List.mem_singleton]at hv
 rcases hv with hv|hv|hv
 · exact zac _ v hv
 · subst hv;rfl
 · exact zac _ v hv
def places37:Array (Nat × Nat):=#[(0,288),(288,1),(289,32)]
theorem pl37(r:Array Field)(h:Tryz.prog.underlying 34 = some (.struct r))(w:World):(r.mapM (fun f=>do pure (f.offset,←sizeOf f.type)):Sem (Array (Nat × Nat))).run Tryz.prog w=.ok places37 w:=by
 rw[Tryz.underlying34]at h
 injection h with h
 injection h with h
 subst h
 kernel_rfl
theorem zlz(w:World):(Instr.build 34 #[]).run Tryz.prog w=.ok (.agg z37.toArray) w:=by rw[←zc37];kernel_rfl
theorem zi7(v:Value):Instr.loadAt 34 v=ldAt 34 v:=rfl
theorem zih(p v:Value):Instr.storeAt 34 p v=stAt 34 p v:=rfl
theorem zht(v:Value):Instr.loadAt 31 v=ldAt 31 v:=rfl
theorem zg0(p v:Value):Instr.storeAt 31 p v=stAt 31 p v:=rfl
attribute [local go_sem ↓] zi7 zih zht zg0
def halfCells(l:List UInt8):List Value:=u8s ((l.drop 8).take 288)++([.int .u64 (beNat (l.take 8))]++u8s (rep 32 0))
theorem zke(l:List UInt8)(h:l.length=328):(halfCells l).length=321:=by simp[halfCells,zaa,h,zao]
theorem zkd(l:List UInt8):∀v∈halfCells l,v.oneCell'=true:=by
 intro v hv;simp only[halfCells,List.mem_append,List.mem_singleton]at hv
 rcases hv with hv|hv|hv
 · exact zac _ v hv
 · subst hv;rfl
 · exact zac _ v hv
theorem ztk(l:List UInt8)(h:l.length=328)(w:World):(Instr.build 34 #[(0,.agg (u8s ((l.drop 8).take 288)).toArray),(1,.int .u64 (beNat (l.take 8)))]).run Tryz.prog w=.ok (.agg (halfCells l).toArray) w:=by
 have e0:(u8s ((l.drop 8).take 288)).length=288:=by simp[zaa,h]
 refine zbt Tryz.zeroValue34 Tryz.underlying34 (pl37 _ Tryz.underlying34) ?_ w;rw[zc37]
 show Instr.fill _ _ [(0,_),(1,_)]=_
 rw [zat (cs:=u8s ((l.drop 8).take 288)) rfl (by rw[e0];rfl) (by rw[e0,zdq];omega),z37,zdm _ _ _ (by rw[e0,zaa,zao]),
   zat (cs:=[.int .u64 (beNat (l.take 8))]) rfl rfl (by simp[zaa,zao,h]),zc7 _ [.int .u64 0] _ [.int .u64 (beNat (l.take 8))] 288 e0 sy]
 rfl
theorem zo3(A:Option Addr)(c:Nat)(l:List UInt8)(w:World)(h:Rd w A 328 (u8s l))(hc:328≤c)(h0:beNat (l.take 8)≠0):
 Calls Tryz.prog 17 #[.slice A 328 c] w fun e w'=>e=.returned (.tuple #[.agg (blkCells l).toArray,.int .i64 0])∧Below w.heap.size w w':=by
 have hl:=h.len;obtain⟨b,r,rfl,hb,a1⟩:=h.2 om;have Hl:=qh hl;clear hl a1;have hg:=get_2 (some ⟨b,r,none⟩) 328 c 0 8 l (w.alloc (.cells Tryz.zeroCells34 34)) (h.alloc _) om om om om;rw[List.drop_zero]at hg;have b5:=qh (ztk l Hl.o);obtain⟨X,HX,U,d4⟩:∃X:List Value,Hid (X=halfCells l)∧Hid (X.length=321)∧Hid (∀v∈X,v.oneCell'=true):=⟨_,rfl,zke l Hl.o,zkd l⟩;have V:=b5.o;rw[←HX.o]at V;have a9:=qh V;clear V b5;have c4:((beNat (l.take 8):Int) == 0)=false:=by simpa using h0
 generalize beNat (l.take 8)=F at hg a9 c4;have HG:=qh hg;clear hg h0;have hh:((l.drop 8).take 288).length=288:=by rw[List.length_take,List.length_drop,Hl.o];rfl
 have c0:∀W,Rd W (some ⟨b,r,none⟩) 328 (u8s l)→Rd W (some ⟨b,r+8,none⟩) 288 (u8s ((l.drop 8).take 288)):=fun W h=>by
  have:=h.cut (A':=some ⟨b,r+8,none⟩) (m:=296) (k:=8) om om (fun _ b' off' e=>by injection e with e;injection e with e1 e2;subst e1;subst e2;rfl);rw[zay,za9,List.drop_take]at this;exact this
 have a6:∀W,Rd W (some ⟨b,r,none⟩) 328 (u8s l)→Rd W (some ⟨b,r+296,none⟩) 32 (u8s (l.drop 296)):=fun W h=>by
  have:=h.cut (A':=some ⟨b,r+296,none⟩) (m:=328) (k:=296) om om (fun _ b' off' e=>by injection e with e;injection e with e1 e2;subst e1;subst e2;rfl)
  rwa [tk (by rw[zaa,Hl.o];omega),za9]at this
 have HR:=qh c0;have d3:=qh a6;have E:(Tryz.prog.info? 31).map (·.size)=some (u8s ((l.drop 8).take 288)).length:=by rw[zaa,hh];exact hd34
 have b1:=qh E;have M:(u8s ((l.drop 8).take 288)).length=(u8s (rep 288 0)).length:=by rw[zaa,hh,zaa,zao]
 have b7:=qh M;have I:(Tryz.prog.info? 34).map (·.size)=some X.length:=by rw[U.o];exact hd37
 have d0:=qh I;have G:X.length=z37.length:=by rw[U.o,zdq]
 have c2:=qh G;have n8:¬c=8:=om;have d5:¬c=296:=om;clear hh c0 a6 E M I G
 go_enter Tryz.func17, Tryz.ntmps17
 go_wp2_with (first
  | (go_at_call 38;refine HG.o.mono ?_;rintro e w0 ⟨rfl,rfl⟩)
  | (go_at_call 39;refine(zpt _ (c-8) ((l.drop 8).take 288) _ (HR.o _ (h.alloc _)) om).mono ?_;rintro e w1 ⟨rfl,Y⟩)
  | (refine zab rfl 31 (.tmp 6) (.tmp 28) rfl w1.heap.size (u8s ((l.drop 8).take 288)) rr rr 31 (u8s (rep 288 0)) (Blk.new' rfl zc34r) b1.o (zac _) b7.o ?_;intro w2 b2 b9;have a2:w.heap.size+1≤w1.heap.size:=by have:=Y.size;simp at this;omega
     have a3:Below (w.heap.size+1) (w.alloc (.cells Tryz.zeroCells34 34)) w2:=b9.below ((Y.mono sy).alloc a2 _) a2 (by simp;omega);have a4:w.heap.size+1≤w2.heap.size:=by have:=a3.size;simp at this;omega
     clear b9 Y a2)
  | (refine wpList_load_mid rfl 31 (.tmp 6) rfl _ 0 rr (u8s ((l.drop 8).take 288)) _ b2.range Tryz.underlying31 rfl b1.o ?_)
  | (refine zai rfl 34 [(0,.tmp 34),(1,.tmp 35)] rfl _ rr (.agg X.toArray) (a9.o _) ?_)
  | (refine zab rfl 34 (.tmp 7) (.tmp 36) rfl w2.heap.size X rr rr 34 z37 (Blk.new' rfl zc37) d0.o d4.o c2.o ?_;intro w3 c1 a5;have D:Below (w.heap.size+1) (w.alloc (.cells Tryz.zeroCells34 34)) w3:=a5.below (a3.alloc a4 _) a4 (by simp;omega);have c3:w.heap.size+1≤w3.heap.size:=by have:=D.size;simp at this;omega
     clear a5 a3 b2))
 have J:Below w.heap.size w w3:=((Below.refl _ _).alloc lr _).trans (D.mono om);have a7:=qh (d3.o _ ((h.below J).drew));have b3:289+32≤X.length:=by rw[U.o];omega
 have b4:Blk w3 w.heap.size 34 z37:=(Blk.new' (g:=w.heap.size) rfl zc37).below D om;have d6:w.heap.size<w2.heap.size:=om;clear J
 go_frame
 go_region_held3 (fun _=>True) (trivial) ((refine zbs rfl (.tmp 38) (.tmp 40) 22 rfl 5 Tryz.underlying22 zcq w2.heap.size 289 32 32 rr (some ⟨b,r+296,none⟩) 32 (c-296) rr 34 X (by exact c1) (u8s (l.drop 296)) a7.o (zac _) b3 ?_;intro w4 b6 a0))
 have a8:Below (w.heap.size+1) (w.alloc (.cells Tryz.zeroCells34 34)) w4:=a0.below D.drew a4 c3;have c6:Blk w4 w.heap.size 34 z37:=a0.blk b4.drew om
 have HF:splice X 289 (List.take 32 (u8s (l.drop 296)))=blkCells l:=by
  have hl:=Hl.o;rw[HX.o,tk (by rw[zaa,List.length_drop,hl];omega),halfCells,←as9,zex _ _ _ _ (by simp[zaa,hl]) (by simp[zaa,hl,zao]),blkCells,as9]
 rw[HF]at b6;have HI:Hid ((Tryz.prog.info? 34).map (·.size)=some (blkCells l).length):=by show _=_;rw[zbe l Hl.o];exact hd37
 have c7:Hid ((blkCells l).length=z37.length):=by show _=_;rw[zbe l Hl.o,zdq]
 clear a0 D c1 b4 HF a7 b3
 go_wp2_with (first
  | refine wpList_load_mid rfl 34 (.tmp 7) rfl w2.heap.size 0 rr (blkCells l) _ b6.range Tryz.underlying34 rfl HI.o ?_
  | (refine zab rfl 34 (.tmp 2) (.tmp 42) rfl w.heap.size (blkCells l) rr rr 34 z37 c6 HI.o (zcz l) c7.o ?_;intro w5 c9 c5))
 have c8:Below w.heap.size w w5:=c5.below (((Below.refl _ _).alloc lr _).trans (a8.mono om)) lr (by have:=a8.size;simp at this;omega);exact bodyPost_ret (zak rfl _ _ _ _ rfl c9 _ Tryz.underlying34 rfl HI.o) rfl ⟨rfl,c8⟩
end
section
attribute [local go_sem ↓] zi7 zih zht zg0
theorem zl2(a b:List UInt8):beNat (a++b)=beNat a*256^b.length+beNat b:=by
 rw[←zjh]
 simp[beNat]
theorem zp9(l:List UInt8)(k:Nat)(x:UInt8)(hk:k<8)(hl:8≤l.length)(hx:l[k]? = some x):(beNat (l.take 8):Int)/2^(8*(7-k))%256=(x.toNat:Int):=by
 have e:l.take 8=l.take (k+1)++(l.take 8).drop (k+1):=by
  have:=(List.take_append_drop (k+1) (l.take 8)).symm
  rwa [List.take_take,Nat.min_eq_left om]at this
 have r:((l.take 8).drop (k+1)).length=7-k:=by simp;omega
 have h1:=zl2 (l.take (k+1)) ((l.take 8).drop (k+1));rw[←e,r]at h1;have h2:=zkt ((l.take 8).drop (k+1));rw[r]at h2;have h3:beNat (l.take (k+1))=beNat (l.take k)*256+x.toNat:=by rw[List.take_add_one,hx];exact zf1 _ _
 have h4:(2:Nat)^(8*(7-k))=256^(7-k):=by rw[Nat.pow_mul]
 have h5:beNat (l.take 8)/2^(8*(7-k))=beNat (l.take k)*256+x.toNat:=by
  rw[h1,h4,h3,Nat.mul_comm,Nat.mul_add_div (Nat.pos_of_ne_zero sy),Nat.div_eq_of_lt h2,Nat.add_zero]
 have h6:((beNat (l.take 8)/2^(8*(7-k))%256:Nat):Int)=(x.toNat:Int):=by
  rw[h5];have:=x.toNat_lt;omega
 simpa using h6
theorem ziq(l:List UInt8)(w:World)(hl:l.length=328):
 Calls Tryz.prog 16 #[.agg (blkCells l).toArray] w fun e w'=>∃A' c',e=.returned (.slice A' 328 c')∧328≤c'∧w'.ownsRow w.heap.size 5 1 (.slice A' 328 c') 328 (u8s l)∧Below w.heap.size w w':=by
 have Hl:=qh hl;clear hl
 go_enter Tryz.func16, Tryz.ntmps16
 have a3:(blkCells l)[288]? = some (.int .u64 (beNat (l.take 8))):=by
  unfold blkCells
  rw[ar9 (by simp[zaa];omega)]
  simp[zaa,Hl.o]
 have a2:=qh a3;clear a3;generalize hF:beNat (l.take 8)=F at a2;have HF:=qh hF;clear hF
 go_wp2_with fail
 go_loopw [5] (fun i wr=>∃k:Nat,k≤8∧i=.int .i64 k∧Blk wr (w.heap.size+1) 108 (u8s (l.take k++rep (8-k) 0))∧Blk wr w.heap.size 34 (blkCells l)∧Below w.heap.size w wr) (fun i _=>8-(intOf i).toNat)
 case atStart=>exact⟨0,by omega,rfl,Blk.new' sy rfl,(Blk.new w _ _).alloc _,((Below.refl _ _).alloc lr _).alloc sy _⟩
 case round =>
  obtain⟨k,hk,rfl,J,G,a1⟩:=hrel
  by_cases hlt:k<8
  · have b4:wr.cell? ⟨w.heap.size,288,none⟩=some (.int .u64 F):=by rw[G.cell];exact a2.o
    have D:∃u,wr.cell? ⟨w.heap.size+1,k,none⟩=some u:=by
     rw[J.cell];exact⟨_,ge9 (by simp[zaa,zao,Hl.o];omega)⟩
    obtain⟨u,D⟩:=D;have b7:wr.frozen? ⟨w.heap.size+1,k,none⟩=false:=J.frozen k;have i0:(0:Int)≤(k:Int):=om;have i1:(k:Int)<8:=om;have hx:l[k]? = some (l[k]'(by rw[Hl.o];omega)):=ge9 _;generalize l[k]'(by rw[Hl.o];omega)=x at hx;have Y:=zp9 l k x hlt (by rw[Hl.o];omega) hx;rw[HF.o]at Y;have a7:=qh Y;have HX:=qh hx;clear hx Y;go_wp2
    go_roundw
    case rel =>
     rw[a7.o];refine⟨k+1,by omega,by go_num,?_,G.far sy _,a1.setCell sy _⟩;have:=J.set_ k (.int .u8 x.toNat)
     rwa [za5,zg8 l 0 x k 8 hlt HX.o]at this
    case measure=>simp[intOf];omega
  · have:k=8:=om
    subst this;clear hlt hk;have a0:Blk wr (w.heap.size+1) 108 (u8s (l.take 8)):=by have:=J;rwa [Nat.sub_self,show l.take 8++rep 0 0=l.take 8 from by simp[rep]]at this
    have hh:((l.drop 8).take 288).length=288:=by rw[List.length_take,List.length_drop,Hl.o];rfl
    have HH:=qh hh;obtain⟨cs,X⟩:∃cs,Hid (cs=u8s ((l.drop 8).take 288)):=⟨_,rfl⟩
    have b2:∀W,Blk W w.heap.size 34 (blkCells l)→(ldAt 31 (.pointer (some ⟨w.heap.size,0,none⟩))).run Tryz.prog W=.ok (.agg cs.toArray) W:=fun W hb =>
     zal hb _ 0 cs (by rw[X.o,List.drop_zero,blkCells,List.take_left]) _ Tryz.underlying31 rfl (by rw[X.o,zaa,HH.o];exact hd34)
    have a5:[l.take 8,(l.drop 8).take 288,l.drop 296].flatten=l:=by
     simp only[List.flatten_cons,List.flatten_nil,List.append_nil];rw[show l.drop 296=(l.drop 8).drop 288 from by simp,List.take_append_drop,List.take_append_drop]
    have a9:=qh a5
    have hq:∀(w1:World) A1 c1,288≤c1→Blk w1 w.heap.size 34 (blkCells l)→Blk w1 (w.heap.size+1) 108 (u8s (l.take 8))→Rd w1 A1 288 (u8s ((l.drop 8).take 288)) →
        RdB (w1.alloc (.cells #[.slice (some ⟨w.heap.size+1,0,none⟩) 8 8,.slice A1 288 c1,.slice (some ⟨w.heap.size,289,none⟩) 32 32] 22)) (some ⟨w1.heap.size,0,none⟩) 3 [l.take 8,(l.drop 8).take 288,l.drop 296]:=fun w1 A1 c1 D A r hr1 =>
     RdB.of_blk (Blk.new w1 22 [.slice (some ⟨w.heap.size+1,0,none⟩) 8 8,.slice A1 288 c1,.slice (some ⟨w.heap.size,289,none⟩) 32 32])
       ⟨.of_blk (r.alloc _) 0 8 8 _ (by rw[zaa,List.length_take,Hl.o];omega) om (by rw[List.drop_zero,tk (by rw[zaa,List.length_take];omega)]),.of_rd (hr1.alloc _) D,
        .of_blk (A.alloc _) 289 32 32 _ (by rw[zbe l Hl.o];omega) om (by
         rw[blkCells,←as9,List.drop_append_of_le_length (by simp[zaa,Hl.o]),List.drop_eq_nil_of_le (by simp[zaa,Hl.o]),List.nil_append,tk (by simp[zaa,Hl.o])]),trivial⟩
    have HQ:=qh hq;clear a5 hq hh J
    go_wp2_with fail
    go_region_held3 (fun w'=>Blk w' w.heap.size 34 (blkCells l)∧Blk w' (w.heap.size+1) 108 (u8s (l.take 8)))
      (first|exact⟨G.drew,a0.drew⟩|exact⟨A,r⟩|exact⟨A.alloc _,r.alloc _⟩|exact⟨a6,a4⟩) (first
      | (go_at_call 37;rw[X.o];refine(zpw ((l.drop 8).take 288) _ HH.o).mono ?_;rintro e w1 ⟨A1,c1,rfl,D,I,M⟩;have A:Blk w1 w.heap.size 34 (blkCells l):=G.drew.below M G.lt;have r:Blk w1 (w.heap.size+1) 108 (u8s (l.take 8)):=a0.drew.below M a0.lt)
      | (go_at_call 36;refine(zef _ 3 3 _ _ (HQ.o w1 A1 c1 D A r (Rd.of_own I)) om l 328 a9.o Hl.o om).mono ?_;rintro e w2 ⟨A2,c2,rfl,b1,E,U⟩;have b5:w.heap.size<w1.heap.size:=A.lt;have b6:w.heap.size+1<w1.heap.size:=r.lt;have a6:Blk w2 w.heap.size 34 (blkCells l):=(A.alloc _).below U (by simp;omega);have a4:Blk w2 (w.heap.size+1) 108 (u8s (l.take 8)):=(r.alloc _).below U (by simp;omega)))
    have a8:=a1.size;have b3:Below w.heap.size w w2:=((a1.drew).trans (M.mono a8)).trans ((((Below.refl _ _).alloc om _)).trans (U.mono (by simp;omega)));have V:=zbi E (base':=w.heap.size) (by simp;omega);clear E U I M A r a6 a4 b2 HQ;go_wp2;go_ret;exact⟨A2,c2,rfl,b1,V,b3⟩
end
section
attribute [local go_sem ↓] zi7 zih zht zg0
def fixed16:List UInt8:=((((((rep 328 (0:UInt8)).set 7 9).set 8 1).set 40 2).set 56 3).set 296 4)
theorem zdh:fixed16.length=328:=by unfold fixed16;simp only[List.length_set];exact zao _ _
theorem awake16(w:World):Calls Tryz.prog 4 #[] w fun e w'=>e=.returned (.bool true)∧Below w.heap.size w w':=by
 go_enter Tryz.func4, Tryz.ntmps4
 go_wp2_with (at_make;refine zaj rfl _ _ 22 rfl 5 (.int .u8 0) 1 Tryz.underlying22 iU8 rfl _ _ _ _ rfl rfl 328 328 rfl rfl om om om ?_)
 intro w1 I a4 a5;have a0:Below w.heap.size w w1:=zad a4;have hf:∀i,w1.frozen? ⟨w.heap.size,i,none⟩=false:=fun i=>I.frozen i
 have r:∀i,i<328→w1.cell? ⟨w.heap.size,i,none⟩=some (.int .u8 0):=fun i hi=>by rw[I.cell,zhc hi]
 have c0:=r 7 om;have c1:=r 8 om;have c2:=r 40 om;have c3:=r 56 om;have c4:=r 296 om;clear r a4;have HS:=qh a5;clear a5
 have E:Blk (((((w1.setCell ⟨w.heap.size,7,none⟩ (.int .u8 9)).setCell ⟨w.heap.size,8,none⟩ (.int .u8 1)).setCell ⟨w.heap.size,40,none⟩ (.int .u8 2)).setCell ⟨w.heap.size,56,none⟩ (.int .u8 3)).setCell ⟨w.heap.size,296,none⟩ (.int .u8 4)) w.heap.size 5 (u8s fixed16):=by
  have h5:=((((I.set_ 7 (.int .u8 9)).set_ 8 (.int .u8 1)).set_ 40 (.int .u8 2)).set_ 56 (.int .u8 3)).set_ 296 (.int .u8 4);have e0:rep 328 (Value.int .u8 0)=u8s (rep 328 0):=zx2 328 0;rw[e0]at h5
  rw [show(Value.int .u8 9)=.int .u8 ((9:UInt8).toNat) from rfl,za5,show(Value.int .u8 1)=.int .u8 ((1:UInt8).toNat) from rfl,za5,show(Value.int .u8 2)=.int .u8 ((2:UInt8).toNat) from rfl,za5,
    show(Value.int .u8 3)=.int .u8 ((3:UInt8).toNat) from rfl,za5,show(Value.int .u8 4)=.int .u8 ((4:UInt8).toNat) from rfl,za5]at h5
  exact h5
 have U:Below w.heap.size w (((((w1.setCell ⟨w.heap.size,7,none⟩ (.int .u8 9)).setCell ⟨w.heap.size,8,none⟩ (.int .u8 1)).setCell ⟨w.heap.size,40,none⟩ (.int .u8 2)).setCell ⟨w.heap.size,56,none⟩ (.int .u8 3)).setCell ⟨w.heap.size,296,none⟩ (.int .u8 4)) :=
  ((((a0.setCell lr _).setCell lr _).setCell lr _).setCell lr _).setCell lr _
 clear I a0;have HI:Hid ((Tryz.prog.info? 34).map (·.size)=some (blkCells fixed16).length):=by show _=_;rw[zbe _ zdh];exact hd37
 have b2:Hid ((blkCells fixed16).length=z37.length):=by show _=_;rw[zbe _ zdh,zdq]
 have a7:(blkCells fixed16)[288]? = some (.int .u64 9):=by kernel_rfl
 have a3:(blkCells fixed16)[0]? = some (.int .u8 1):=by kernel_rfl
 have Y:(blkCells fixed16)[32]? = some (.int .u8 2):=by kernel_rfl
 have X:(blkCells fixed16)[48]? = some (.int .u8 3):=by kernel_rfl
 have a2:(blkCells fixed16)[289]? = some (.int .u8 4):=by kernel_rfl
 have b1:=qh a7;have b5:=qh a3;have a9:=qh Y;have a8:=qh X;have b6:=qh a2;clear a7 a3 Y X a2
 go_wp2_with (first
  | (go_at_call 17;refine(zo3 _ 328 fixed16 _ (E.all zdh) om (by decide +kernel)).mono ?_;rintro e w2 ⟨rfl,G⟩)
  | (refine zab rfl 34 (.tmp 2) (.tmp 18) rfl w2.heap.size (blkCells fixed16) rr rr 34 z37 (Blk.new' rfl zc37) HI.o (zcz _) b2.o ?_;intro w3 D M;have A:Below w.heap.size w w2:=U.trans (G.mono U.size);have b7:w.heap.size<w2.heap.size:=Nat.lt_of_lt_of_le E.lt G.size;have J:Below w.heap.size w w3:=M.below (A.alloc A.size _) A.size (by simp;omega);have a6:Blk w3 w.heap.size 5 (u8s fixed16):=M.blk ((E.below G E.lt).alloc _) om;have d0:w3.cell? ⟨w2.heap.size,288,none⟩=some (.int .u64 9):=by rw[D.cell];exact b1.o
     have d1:w3.cell? ⟨w2.heap.size,0,none⟩=some (.int .u8 1):=by rw[D.cell];exact b5.o
     have d2:w3.cell? ⟨w2.heap.size,32,none⟩=some (.int .u8 2):=by rw[D.cell];exact a9.o
     have d3:w3.cell? ⟨w2.heap.size,48,none⟩=some (.int .u8 3):=by rw[D.cell];exact a8.o
     have d4:w3.cell? ⟨w2.heap.size,289,none⟩=some (.int .u8 4):=by rw[D.cell];exact b6.o
     have b4:(ldAt 34 (.pointer (some ⟨w2.heap.size,0,none⟩))).run Tryz.prog w3=.ok (.agg (blkCells fixed16).toArray) w3:=zal D _ 0 (blkCells fixed16) (by rw[List.drop_zero,tk lr]) _ Tryz.underlying34 rfl HI.o
     clear M G E U A c0 c1 c2 c3 c4 hf)
  | (go_at_call 16;refine(ziq fixed16 _ zdh).mono ?_;rintro e w4 ⟨A4,c4,rfl,b9,V,a1⟩;have b3:=a6.below a1 a6.lt;clear d0 d1 d2 d3 d4 b4)
  | (go_at_call 11;refine(zly A4 (some ⟨w.heap.size,0,none⟩) 328 328 c4 328 fixed16 fixed16 _ (Rd.of_own V) (b3.all zdh) om om).mono ?_;rintro e w5 ⟨rfl,q5,rfl⟩))
 go_ret;refine⟨by simp,?_⟩;have h4:Below w.heap.size w w4:=J.trans (a1.mono J.size);exact below_drewN h4 _
end
def i64(n:Int):Value:=.int .i64 n
def i64s(l:List Int):List Value:=l.map i64
theorem ze2(l:List Int):(i64s l).length=l.length:=by simp[i64s]
theorem Rd.i64{w:World}{A:Option Addr}{n:Nat}{l:List Int}(h:Rd w A n (i64s l)){k:Nat}(hk:k<n):
 ∃b r x,A=some ⟨b,r,none⟩∧b<w.heap.size∧Hid (l[k]? = some x)∧w.cell? ⟨b,r+k,none⟩=some (.int .i64 x):=by
 obtain⟨b,r,e,hb,hc⟩:=h.2 om;have hl:k<l.length:=by have:=h.1;rw[ze2]at this;omega
 exact⟨b,r,l[k],e,hb,ge9 hl,hc k _ (by simp[i64s,ge9 hl,Proofs.YtadopcjppijgiaaGreat.i64])⟩
def least1(m e:Int):Int:=if e≠0∧(m=0∨e<m) then e else m
def leastOf(l:List Int):Int:=l.foldl least1 0
theorem zf6(l:List Int)(k:Nat)(x:Int)(h:l[k]? = some x):leastOf (l.take (k+1))=least1 (leastOf (l.take k)) x:=by
 rw[List.take_add_one,h];simp[leastOf]
theorem zls(A:Option Addr)(n c:Nat)(l:List Int)(w:World)(h:Rd w A n (i64s l))(hn:n≤140737488355328):
 Calls Tryz.prog 19 #[.slice A n c] w fun e w'=>e=.returned (.int .i64 (leastOf l))∧w=w':=by
 have hl:l.length=n:=by rw[←ze2];exact h.1
 have HL:=qh hl;clear hl
 go_enter Tryz.func19, Tryz.ntmps19
 go_wp2
 go_loop [3,8] (fun m i=>∃k:Nat,k≤n∧i=.int .i64 k∧m=.int .i64 (leastOf (l.take k))) (fun _ i=>n-(intOf i).toNat)
 case atStart=>exact⟨0,Nat.zero_le _,rfl,rfl⟩
 case round =>
  obtain⟨k,hk,rfl,rfl⟩:=hrel
  by_cases hlt:k<n
  · obtain⟨b,r,x,rfl,hb,HX,hc⟩:=h.i64 hlt
    have hs:=zf6 l k x HX.o;generalize leastOf (l.take k)=m at *;have HS:=qh hs;clear hs;go_wp2
    all_goals
      go_round
      case rel=>exact⟨k+1,by omega,by go_num,by rw[HS.o];first|(simp_all [least1];done)| (simp_all [least1];omega)⟩
      case measure=>simp[intOf];omega
  · have:k=n:=om
    subst this;go_wp2;go_ret;rw[tk (by rw[HL.o];omega)];exact⟨rfl,rfl⟩
theorem zpd(A:Option Addr)(n c:Nat)(l:List Int)(w:World)(h:Rd w A n (i64s l))(hn:n≤140737488355328):
 Calls Tryz.prog 32 #[.slice A n c] w fun e w'=>e=.returned (.int .i64 (leastOf l))∧w=w':=by
 have hl:l.length=n:=by rw[←ze2];exact h.1
 have HL:=qh hl;clear hl
 go_enter Tryz.func32, Tryz.ntmps32
 go_wp2
 go_loop [3,4] (fun m i=>∃k:Nat,k≤n∧i=.int .i64 k∧m=.int .i64 (leastOf (l.take k))) (fun _ i=>n-(intOf i).toNat)
 case atStart=>exact⟨0,Nat.zero_le _,rfl,rfl⟩
 case round =>
  obtain⟨k,hk,rfl,rfl⟩:=hrel
  by_cases hlt:k<n
  · obtain⟨b,r,x,rfl,hb,HX,hc⟩:=h.i64 hlt
    have hs:=zf6 l k x HX.o;generalize leastOf (l.take k)=m at *;have HS:=qh hs;clear hs;go_wp2
    all_goals
      go_round
      case rel=>exact⟨k+1,by omega,by go_num,by rw[HS.o];first|(simp_all [least1];done)| (simp_all [least1];omega)⟩
      case measure=>simp[intOf];omega
  · have:k=n:=om
    subst this;go_wp2;go_ret;rw[tk (by rw[HL.o];omega)];exact⟨rfl,rfl⟩
section
section
variable{P:Program}{ops:Array Oper}{Q:Exit→Act→World→Prop}{md:Region.Mode}{T:World→Prop}{k:Nat}
theorem AnyK.pureW{fuel:Nat}{r:Array Bool}{a:Act}{w:World}(i:Nat){oi:Oper}{v:Value}(hi:ops[i]? = some oi)(hd:takeB md ops r k i=true)
 (hQ:∀c a w,Q (.panic c) (a.put oi.dst v) w→Q (.panic c) a w) (hg:Region.wanted oi (yielded ops a.tmps)=true) (hy:∀w,(execOp a.eval oi).run P w=.ok (.value v) w) (hT:r.getD k true=false→T w)
 (h:AnyK P md ops Q k T fuel (r.setIfInBounds i true) (a.put oi.dst v) w):AnyK P md ops Q k T (fuel+1) r a w:=by
 simp only[takeB,Bool.and_eq_true,decide_eq_true_eq]at hd;obtain⟨⟨⟨h1,h2⟩,h3⟩,h4⟩:=hd;exact AnyK.first (S:=fun _=>True) hi h1 (Region.noSelect_spec h2) hQ (.inl fun _=>trivial) fuel r a w (Region.free_spec hi h3) (by simpa using h4) (.inl ⟨hg,fun w _=>hy w⟩) trivial hT (.inl fun _=>trivial) h
theorem AnyK.loadW{fuel:Nat}{r:Array Bool}{a:Act}{w:World}(i:Nat){oi:Oper}{v:Value}(hi:ops[i]? = some oi)(hd:takeB md ops r k i=true)(hk:awaits md ops k i=true)(hl:r.getD k true=false)
 (hQ:∀c a w,Q (.panic c) (a.put oi.dst v) w→Q (.panic c) a w) (hg:Region.wanted oi (yielded ops a.tmps)=true) (hy:∀w,T w→(execOp a.eval oi).run P w=.ok (.value v) w) (hT:T w)
 (h:AnyK P md ops Q k T fuel (r.setIfInBounds i true) (a.put oi.dst v) w):AnyK P md ops Q k T (fuel+1) r a w:=by
 simp only[takeB,Bool.and_eq_true,decide_eq_true_eq]at hd;obtain⟨⟨⟨h1,h2⟩,h3⟩,h4⟩:=hd;exact AnyK.first (S:=T) hi h1 (Region.noSelect_spec h2) hQ (.inr ⟨fun _ h=>h,zh5 hk⟩) fuel r a w (Region.free_spec hi h3) (by simpa using h4) (.inl ⟨hg,hy⟩) hT (fun _=>hT) (.inr hl) h
theorem AnyK.turn{k':Nat}{T':World→Prop}: ∀(fuel:Nat) (r:Array Bool) (a:Act) (w:World),r.getD k true=true→AnyK P md ops Q k' T' fuel r a w→AnyK P md ops Q k T fuel r a w
 | 0,_,_,_,_,h=>h
 | fuel+1,r,a,w,hl,h=>by
  refine⟨h.1,fun i hi=>wpOp_mono (fun a' w' h'=>?_) (h.2 i hi)⟩
  have A:(r.setIfInBounds i true).getD k true=true:=by
   by_cases hik:i=k
   · subst hik
     rcases Nat.lt_or_ge i r.size with h' | h'
     · simp[h']
     · simp
   · rw[Go.getD_set_ne true hik];exact hl
  exact⟨fun h0=>(by rw[A]at h0;cases h0),AnyK.turn fuel _ a' w' A h'.2⟩
theorem AnyK.oneW{fuel:Nat}{r:Array Bool}{a:Act}{w:World}(i:Nat){oi:Oper}(hi:ops[i]? = some oi)(hr:Region.ready md ops r=[i])(hg:Region.wanted oi (yielded ops a.tmps)=true)
 (h:oi.wp P a w (fun a' w'=>((r.setIfInBounds i true).getD k true=false→T w')∧AnyK P md ops Q k T fuel (r.setIfInBounds i true) a' w') Q):AnyK P md ops Q k T (fuel+1) r a w:=by
 refine⟨fun h0=>(by rw[hr]at h0;cases h0),fun j hj=>?_⟩;rw[hr]at hj;obtain rfl:j=i:=by simpa using hj
 unfold wpOp
 simp only[hi];rw[if_pos hg];exact .inl h
theorem AnyK.enterW{fuel:Nat}{r:Array Bool}{a:Act}{w:World}(i:Nat){d:Option Tmp}{f:FuncId}{args:Array Value}{oi:Oper}(hi:ops[i]? = some oi)(hd:oi.dst=d)(hg:Region.wanted oi (yielded ops a.tmps)=true)(A:(execOp a.eval oi).run P w=.ok (.enter f args) w)(hr:Region.ready md ops r=[i])
 (h:Calls P f args w fun e w'=>∃v,e=.returned v∧((r.setIfInBounds i true).getD k true=false→T w')∧AnyK P md ops Q k T fuel (r.setIfInBounds i true) (a.put d v) w'):AnyK P md ops Q k T (fuel+1) r a w:=by
 subst hd;refine AnyK.oneW i hi hr hg ?_
 unfold Oper.wp
 rw[A];refine Calls.mono h ?_;rintro e w' ⟨v,rfl,h1,h2⟩;exact⟨h1,h2⟩
theorem AnyK.valW{fuel:Nat}{r:Array Bool}{a:Act}{w:World}(i:Nat){oi:Oper}{v:Value}(hi:ops[i]? = some oi)(hr:Region.ready md ops r=[i])(hg:Region.wanted oi (yielded ops a.tmps)=true)(hy:(execOp a.eval oi).run P w=.ok (.value v) w)
 (hT:(r.setIfInBounds i true).getD k true=false→T w) (h:AnyK P md ops Q k T fuel (r.setIfInBounds i true) (a.put oi.dst v) w):AnyK P md ops Q k T (fuel+1) r a w:=by
 refine AnyK.oneW i hi hr hg ?_
 unfold Oper.wp
 rw[hy,Oper.upon_value];exact⟨hT,h⟩
end
end
