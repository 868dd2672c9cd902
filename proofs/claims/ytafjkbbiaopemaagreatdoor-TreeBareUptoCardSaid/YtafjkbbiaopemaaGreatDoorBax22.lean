/- Part of the proof. -/
import Derived.Test.YtafjkbbiaopemaaGreatDoorBax20
set_option linter.all false
set_option maxRecDepth 100000
set_option maxHeartbeats 0
namespace Go.Proofs.YtafjkbbiaopemaaGreatDoor
open Go.RowKit
section
section
variable{P:Program}{ops:Array Oper}{Q:Exit→Act→World→Prop}{md:Region.Mode}{T:World→Prop}{k:Nat}
theorem AnyK.two_new{fuel:Nat}{listed:Array Bool}{a:Act}{w:World}(i j s t:Nat){d1 d2 e1 e2:Tmp}(hd:d1≠d2)(ty:TypeId)(Z C1 C2:List Value){oi oj os ot:Oper}
 (hi:ops[i]? = some oi) (hid:oi.dst=some d1) (hig:oi.guard=none) (hirun:∀(b:Act) w,(execOp b.eval oi).run P w=.ok (.value (.pointer (some ⟨w.heap.size,0,none⟩))) (w.alloc (.cells Z.toArray ty)))
 (hj:ops[j]? = some oj) (hjd:oj.dst=some d2) (hjg:oj.guard=none) (hjrun:∀(b:Act) w,(execOp b.eval oj).run P w=.ok (.value (.pointer (some ⟨w.heap.size,0,none⟩))) (w.alloc (.cells Z.toArray ty)))
 (hs:ops[s]? = some os) (hsd:os.dst=none) (hsg:os.guard=none) (hso:os.op=.store ty (.tmp d1) (.tmp e1))
 (ht:ops[t]? = some ot) (htd:ot.dst=none) (htg:ot.guard=none) (hto:ot.op=.store ty (.tmp d2) (.tmp e2))
 (he1:∀(x y:Value),((a.put (some d1) x).put (some d2) y).eval (.tmp d1)=x)
 (he3:∀(x y:Value),((a.put (some d1) x).put (some d2) y).eval (.tmp e1)=.agg C1.toArray) (he4:∀(x y:Value),(((a.put (some d1) x).put (some d2) y).put none undef).eval (.tmp e2)=.agg C2.toArray) (he5:∀(x y:Value),(((a.put (some d1) x).put (some d2) y).put none undef).eval (.tmp d2)=y)
 (hr0:Region.ready md ops listed=[i,j]) (hri:Region.ready md ops (listed.setIfInBounds i true)=[j]) (hrj:Region.ready md ops (listed.setIfInBounds j true)=[i]) (hrs:Region.ready md ops ((listed.setIfInBounds i true).setIfInBounds j true)=[s])
 (hrt:Region.ready md ops (((listed.setIfInBounds i true).setIfInBounds j true).setIfInBounds s true)=[t]) (hrd:Region.ready md ops ((((listed.setIfInBounds i true).setIfInBounds j true).setIfInBounds s true).setIfInBounds t true)=[])
 (hsz:(P.info? ty).map (·.size)=some Z.length) (hone1:∀v∈C1,v.oneCell'=true) (hlen1:C1.length=Z.length) (hone2:∀v∈C2,v.oneCell'=true) (hlen2:C2.length=Z.length)
 (hT:∀W,Below w.heap.size w W→T W)
 (hcont:∀g1 g2 W,w.heap.size≤g1→w.heap.size≤g2→Blk W g1 ty C1→Blk W g2 ty C2→Below w.heap.size w W→Q .normal ((((a.put (some d1) (.pointer (some ⟨g1,0,none⟩))).put (some d2) (.pointer (some ⟨g2,0,none⟩))).put none undef).put none undef) W):
 AnyK P md ops Q k T (fuel+4) listed a w:=by
 have hij:i≠j:=by
  rintro rfl;rw[hi]at hj
  injection hj with hj
  subst hj;rw[hid]at hjd
  injection hjd with hjd
  exact hd hjd
 have fin:∀g1 g2 W,w.heap.size≤g1→w.heap.size≤g2→g1≠g2→Blk W g1 ty Z→Blk W g2 ty Z→Below w.heap.size w W→AnyK P md ops Q k T (fuel+2) ((listed.setIfInBounds i true).setIfInBounds j true) ((a.put (some d1) (.pointer (some ⟨g1,0,none⟩))).put (some d2) (.pointer (some ⟨g2,0,none⟩))) W:=fun g1 g2 W hg1 hg2 hne hb1 hb2 hB=>by
  refine AnyK.one s hs hrs hsg ?_;refine zdi ty (.tmp d1) (.tmp e1) hso g1 0 C1 (he1 _ _) (he3 _ _) ty Z hb1 (by rw[hlen1];exact hsz) hone1 om ?_;intro w' hb' ho';rw[zbl _ _ hlen1]at hb';have hB':=ho'.below hB hg1 hB.size;rw[hsd];refine⟨fun _=>hT _ hB',?_⟩;refine AnyK.one t ht hrt htg ?_;refine zdi ty (.tmp d2) (.tmp e2) hto g2 0 C2 (he5 _ _) (he4 _ _) ty Z (ho'.blk hb2 (Ne.symm hne)) (by rw[hlen2];exact hsz) hone2 om ?_;intro w2 hb2' ho2;rw[zbl _ _ hlen2]at hb2';have hB2:=ho2.below hB' hg2 hB'.size;rw[htd];refine⟨fun _=>hT _ hB2,?_⟩;exact AnyK.done hrd (hcont g1 g2 w2 hg1 hg2 (ho2.blk hb' hne) hb2' hB2)
 refine AnyK.fork i j hi hj hr0 hig hjg ?_ ?_
 · unfold Oper.wp
   rw[hirun];have hB2:=(Below.refl w.heap.size w).alloc lr (.cells Z.toArray ty);rw[Oper.upon_value,hid];refine⟨fun _=>hT _ hB2,?_⟩;refine AnyK.one j hj hri hjg ?_
   unfold Oper.wp
   rw[hjrun];have hB3:=hB2.alloc hB2.size (.cells Z.toArray ty);rw[Oper.upon_value,hjd];exact⟨fun _=>hT _ hB3,fin _ _ _ lr sy sy ((Blk.new w ty Z).alloc _) (Blk.new _ _ _) hB3⟩
 · unfold Oper.wp
   rw[hjrun];have hB2:=(Below.refl w.heap.size w).alloc lr (.cells Z.toArray ty);rw[Oper.upon_value,hjd];refine⟨fun _=>hT _ hB2,?_⟩;refine AnyK.one i hi hrj hig ?_
   unfold Oper.wp
   rw[hirun];have hB3:=hB2.alloc hB2.size (.cells Z.toArray ty);rw[Oper.upon_value,hid,Array.setIfInBounds_comm _ _ (Ne.symm hij),Act.put_comm a _ _ (fun d h1 h2=>hd (by injection h1 with h1;injection h2 with h2;rw[h1,h2]))];exact⟨fun _=>hT _ hB3,fin _ _ _ sy lr sy (Blk.new _ _ _) ((Blk.new w ty Z).alloc _) hB3⟩
def chained(md:Region.Mode)(ops:Array Oper):Nat→List Nat→Bool
 | _,[]=>true
 | i,m :: l=>awaits md ops m i && chained md ops m l
theorem zeo{j:Nat}{listed:Array Bool}(hj:j∈Region.ready md ops listed):∀(i:Nat) (path:List Nat),chained md ops i path=true→listed.getD i true=false→(∀m∈path,listed.getD m true=false)→∀m∈path,j≠m
 | _,[],_,_,_,m,hm=>by cases hm
 | i,p :: l,hc,hi,hl,m,hm=>by
  simp only[chained,Bool.and_eq_true]at hc
  rcases List.mem_cons.1 hm with rfl|hm
  · rintro rfl
    obtain⟨oj,hoj,hall⟩:=(mem_ready.1 hj).2;obtain⟨ok,hok,e,he,hb,hei⟩:=zdg hc.1;rw[hok]at hoj
    injection hoj with hoj
    subst hoj;have h1:=hall e he hb;rw[hei]at h1
    rcases Nat.lt_or_ge i listed.size with h' | h'
    · simp[h']at hi h1;rw[hi]at h1;cases h1
    · simp[Array.getElem?_eq_none h']at h1
  · exact zeo hj p l hc.2 (hl p (List.mem_cons_self ..)) (fun m hm=>hl m (List.mem_cons_of_mem _ hm)) m hm
theorem AnyK.firstP{i:Nat}{path:List Nat}{oi:Oper}{v:Value}{S:World→Prop}(hi:ops[i]? = some oi)(hik:i≠k)(hsel:∀(j:Nat) (o:Oper) cs b,ops[j]? = some o→o.op≠.select cs b)
 (hQ:∀c a w,Q (.panic c) (a.put oi.dst v) w→Q (.panic c) a w)
 (hS:∀w,T w→S w) (hch:chained md ops i path=true) (hkp:k∈path) (hip:i ∉ path):
 ∀(fuel:Nat) (listed:Array Bool) (a:Act) (w:World),
   (∀j oj,ops[j]? = some oj→j≠i→listed.getD j true=false→(∀e∈oj.after,Region.binds md e=true→e.on≠i)→oi.apart ops oj=true) →
   i∈Region.ready md ops listed→YieldsIf P ops S oi v a→S w→(listed.getD k true=false→T w)→(∀m∈path,listed.getD m true=false) →
   AnyK P md ops Q k T fuel (listed.setIfInBounds i true) (a.put oi.dst v) w→AnyK P md ops Q k T (fuel+1) listed a w:=by
 have hset:∀(L:Array Bool),(L.setIfInBounds i true).getD k true=L.getD k true:=fun L=>getD_set_ne true hik
 intro fuel
 induction fuel with
 | zero =>
  intro listed a w _ hr hy hSw hT _ H;refine⟨fun h=>(by rw[h]at hr;cases hr),fun j hj=>?_⟩
  by_cases hji:j=i
  · subst hji;exact hy.wpOp hi hSw ⟨fun h=>hT (by rwa [hset]at h),H⟩
  · have:=ready_mono hj hji
    rw[H.1]at this
    cases this
 | succ fuel ih =>
  intro listed a w hfree hr hy hSw hT hl H;refine⟨fun h=>(by rw[h]at hr;cases hr),fun j hj=>?_⟩
  by_cases hji:j=i
  · subst hji;exact hy.wpOp hi hSw ⟨fun h=>hT (by rwa [hset]at h),H⟩
  · have h1:=H.2 j (ready_mono hj hji)
    obtain⟨hjun,oj,hoj,hall⟩:=mem_ready.1 hj
    have hnot:∀e∈oj.after,Region.binds md e=true→e.on≠i:=fun e he hb heq=>by
     have h1:=hall e he hb;have h0:=(mem_ready.1 hr).1;rw[heq]at h1
     rcases Nat.lt_or_ge i listed.size with h' | h'
     · simp[h']at h0 h1;rw[h0]at h1;cases h1
     · simp[Array.getElem?_eq_none h']at h1
    have h2:=wpOp_putIf hoj (hfree j oj hoj hji hjun hnot) (fun cs b=>hsel i oi cs b hi) (fun cs b=>hsel j oj cs b hoj) hQ hy h1
    have hfree':∀k ok,ops[k]? = some ok→k≠i→(listed.setIfInBounds j true).getD k true=false →
        (∀e∈ok.after,Region.binds md e=true→e.on≠i)→oi.apart ops ok=true:=fun k ok hk hki hun hno=>by
     refine hfree k ok hk hki ?_ hno
     by_cases hjk:j=k
     · subst hjk;exact hjun
     · rw[getD_set_ne true hjk]at hun;exact hun
    have hkj:∀m∈path,(listed.setIfInBounds j true).getD m true=false:=fun m hm=>by
     rw[getD_set_ne true (zeo hj i path hch (mem_ready.1 hr).1 hl m hm)];exact hl m hm
    refine wpOp_mono (fun a' w' h3=>?_) h2;have hT':(listed.setIfInBounds j true).getD k true=false→T w':=fun h=>h3.2.1 (by rw[Array.setIfInBounds_comm _ _ (Ne.symm hji),hset];exact h)
    refine⟨hT',ih (listed.setIfInBounds j true) a' w' hfree' (ready_mono hr (Ne.symm hji)) h3.1 ?_ hT' hkj ?_⟩
    · exact hS w' (hT' (hkj k hkp))
    · rw[Array.setIfInBounds_comm _ _ hji]
      exact h3.2.2
theorem AnyK.loadP{fuel:Nat}{listed:Array Bool}{a:Act}{w:World}(i:Nat)(path:List Nat){oi:Oper}{v:Value}(hi:ops[i]? = some oi)(hd:takeB md ops listed k i=true)(hk:(chained md ops i path && path.contains k && !path.contains i && path.all fun m=>!listed.getD m true)=true)
 (hQ:∀c a w,Q (.panic c) (a.put oi.dst v) w→Q (.panic c) a w) (hg:Region.wanted oi (yielded ops a.tmps)=true) (hy:∀w,T w→(execOp a.eval oi).run P w=.ok (.value v) w) (hT:T w)
 (h:AnyK P md ops Q k T fuel (listed.setIfInBounds i true) (a.put oi.dst v) w):AnyK P md ops Q k T (fuel+1) listed a w:=by
 simp only[takeB,Bool.and_eq_true,decide_eq_true_eq]at hd;obtain⟨⟨⟨h1,h2⟩,h3⟩,h4⟩:=hd;simp only[Bool.and_eq_true,List.all_eq_true,Bool.not_eq_true',List.contains_eq_mem,decide_eq_true_eq,decide_eq_false_iff_not]at hk;obtain⟨⟨⟨k1,k2⟩,k3⟩,k4⟩:=hk;exact AnyK.firstP (S:=T) (path:=path) hi h1 (Region.noSelect_spec h2) hQ (fun _ h=>h) k1 k2 k3 fuel listed a w (Region.free_spec hi h3) (by simpa using h4) (.inl ⟨hg,hy⟩) hT (fun _=>hT) k4 h
theorem za9{w:World}{a:Act}{o:Oper}{t:TypeId}{x:Operand}{p:Addr}{v:Value}(ho:o.op=.load t x)(hx:a.eval x=.pointer (some p))(hn:∀w,(isAgg t).run P w=.ok false w)(hc:w.cell? p=some v):(execOp a.eval o).run P w=.ok (.value v) w:=by
 unfold execOp
 simp[ho,hx,Instr.loadAt,Instr.sureAddr,loadVar,hn,hc]
theorem zay{w:World}{a:Act}{o:Oper}{t e:TypeId}{x y:Operand}{g off n c p sz:Nat}(ho:o.op=.indexAddr t x y)(hx:a.eval x=.slice (some ⟨g,off,none⟩) n c)(hy:a.eval y=.int .i64 (p:Int))(hp:p<n)(hu:P.underlying t=some (.slice e))(hz:∀w,(sizeOf e).run P w=.ok sz w):(execOp a.eval o).run P w=.ok (.value (.pointer (some ⟨g,off+p*sz,none⟩))) w:=by
 unfold execOp
 simp[ho,hx,hy,Instr.indexAt,asIntOf,run_underlying hu,hz,hp,Addr.add]
end
end
end Go.Proofs.YtafjkbbiaopemaaGreatDoor
namespace Go.Proofs.YtafjkbbiaopemaaGreatDoor.Tr
open Go.RowKit
section
inductive StSm:List St→Prop
 | mk (ss:List St) (hl:ss.length≤140737488355328) (he:∀s∈ss,ExSm s.ea.args∧ExSm s.eb.args∧ExSm s.ec.args∧s.routes.length≤140737488355328) (hy:∀s∈ss,StSm s.body) (hz:∀s∈ss,StSm s.els):StSm ss
theorem zes(v:Value):Instr.loadAt 42 v=ldAt 42 v:=rfl
theorem szSm(w:World):(sizeOf 42).run Tryz.prog w=.ok 26 w:=by kernel_rfl
theorem zbr{w:World}{F:Nat→Prop}{A:Option Addr}{ss:List St}(h:BodyIn F w A ss)(i:Nat)(hi:i<ss.length):∃b off p,A=some ⟨b,off,none⟩∧b<w.heap.size∧w.rangeAt b (off+i*26) (stC ss[i] p)∧StIn F w ss[i] p:=by
 cases h with
 | mk _ _ sl hl hr he hy hz =>
  obtain⟨b,off,rfl,hb,hc⟩:=hr.1.2 om;have h1:ss[i]? = some ss[i]:=ge9 hi;have h2:sl[i]? = some (sl[i]'om):=ge9 _;exact⟨b,off,sl[i]'om,rfl,hb,fun j v hv=>(by rw[Nat.add_assoc];exact hc _ v (zdh stC 26 (fun _ _=>rfl) ss sl i _ _ j v h1 h2 hv)),he i _ _ h1 h2,hy i _ _ h1 h2,hz i _ _ h1 h2⟩
section
variable{w w':World}
attribute [local go_sem ↓] zes
end
end
end Go.Proofs.YtafjkbbiaopemaaGreatDoor.Tr
