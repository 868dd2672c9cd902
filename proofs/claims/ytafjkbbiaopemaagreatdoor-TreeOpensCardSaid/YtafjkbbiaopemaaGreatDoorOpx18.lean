/- Part of the proof. -/
import Derived.Test.YtafjkbbiaopemaaGreatDoorOpx16
set_option linter.all false
set_option maxRecDepth 100000
set_option maxHeartbeats 0
namespace Go.Proofs.YtafjkbbiaopemaaGreatDoor
open Go.RowKit
section
section
variable{P:Program}{ops:Array Oper}{Q:Exit→Act→World→Prop}{md:Region.Mode}{T:World→Prop}{k:Nat}
theorem AnyK.two_new{fuel:Nat}{listed:Array Bool}{a:Act}{w:World}(i j s t:Nat){d1 d2 e1 e2:Tmp}(hd:d1≠d2)(ty:TypeId)(Z C1 C2:List Value){oi oj os ot:Oper}
 (hi:ops[i]? = some oi) (hid:oi.dst=some d1) (hig:oi.guard=none) (hirun:∀(b:Act) w,(execOp b.eval oi).run P w=.ok (.value (.pointer (some ⟨w.heap.size,0,none⟩))) (w.alloc (.cells Z.toArray ty)))
 (hj:ops[j]? = some oj) (hjd:oj.dst=some d2) (hjg:oj.guard=none) (hjrun:∀(b:Act) w,(execOp b.eval oj).run P w=.ok (.value (.pointer (some ⟨w.heap.size,0,none⟩))) (w.alloc (.cells Z.toArray ty)))
 (hs:ops[s]? = some os) (hsd:os.dst=none) (hsg:os.guard=none) (hso:os.op=.store ty (.tmp d1) (.tmp e1))
 (ht:ops[t]? = some ot) (htd:ot.dst=none) (htg:ot.guard=none) (hto:ot.op=.store ty (.tmp d2) (.tmp e2))
 (he1:∀(x y:Value),((a.put (some d1) x).put (some d2) y).eval (.tmp d1)=x)
 (he3:∀(x y:Value),((a.put (some d1) x).put (some d2) y).eval (.tmp e1)=.agg C1.toArray) (he4:∀(x y:Value),(((a.put (some d1) x).put (some d2) y).put none undef).eval (.tmp e2)=.agg C2.toArray) (he5:∀(x y:Value),(((a.put (some d1) x).put (some d2) y).put none undef).eval (.tmp d2)=y)
 (hr0:Region.ready md ops listed=[i,j]) (hri:Region.ready md ops (listed.setIfInBounds i true)=[j]) (hrj:Region.ready md ops (listed.setIfInBounds j true)=[i]) (hrs:Region.ready md ops ((listed.setIfInBounds i true).setIfInBounds j true)=[s])
 (hrt:Region.ready md ops (((listed.setIfInBounds i true).setIfInBounds j true).setIfInBounds s true)=[t]) (hrd:Region.ready md ops ((((listed.setIfInBounds i true).setIfInBounds j true).setIfInBounds s true).setIfInBounds t true)=[])
 (hsz:(P.info? ty).map (·.size)=some Z.length) (hone1:∀v∈C1,v.oneCell'=true) (hlen1:C1.length=Z.length) (hone2:∀v∈C2,v.oneCell'=true) (hlen2:C2.length=Z.length)
 (hT:∀W,Below w.heap.size w W→T W)
 (hcont:∀g1 g2 W,w.heap.size≤g1→w.heap.size≤g2→Blk W g1 ty C1→Blk W g2 ty C2→Below w.heap.size w W→Q .normal ((((a.put (some d1) (.pointer (some ⟨g1,0,none⟩))).put (some d2) (.pointer (some ⟨g2,0,none⟩))).put none undef).put none undef) W):
 AnyK P md ops Q k T (fuel+4) listed a w:=by
 have hij:i≠j:=by
  rintro rfl;rw[hi]at hj
  injection hj with hj
  subst hj;rw[hid]at hjd
  injection hjd with hjd
  exact hd hjd
 have fin:∀g1 g2 W,w.heap.size≤g1→w.heap.size≤g2→g1≠g2→Blk W g1 ty Z→Blk W g2 ty Z→Below w.heap.size w W→AnyK P md ops Q k T (fuel+2) ((listed.setIfInBounds i true).setIfInBounds j true) ((a.put (some d1) (.pointer (some ⟨g1,0,none⟩))).put (some d2) (.pointer (some ⟨g2,0,none⟩))) W:=fun g1 g2 W hg1 hg2 hne hb1 hb2 hB=>by
  refine AnyK.one s hs hrs hsg ?_;refine zdw ty (.tmp d1) (.tmp e1) hso g1 0 C1 (he1 _ _) (he3 _ _) ty Z hb1 (by rw[hlen1];exact hsz) hone1 om ?_;intro w' hb' ho';rw[zb5 _ _ hlen1]at hb';have hB':=ho'.below hB hg1 hB.size;rw[hsd];refine⟨fun _=>hT _ hB',?_⟩;refine AnyK.one t ht hrt htg ?_;refine zdw ty (.tmp d2) (.tmp e2) hto g2 0 C2 (he5 _ _) (he4 _ _) ty Z (ho'.blk hb2 (Ne.symm hne)) (by rw[hlen2];exact hsz) hone2 om ?_;intro w2 hb2' ho2;rw[zb5 _ _ hlen2]at hb2';have hB2:=ho2.below hB' hg2 hB'.size;rw[htd];refine⟨fun _=>hT _ hB2,?_⟩;exact AnyK.done hrd (hcont g1 g2 w2 hg1 hg2 (ho2.blk hb' hne) hb2' hB2)
 refine AnyK.fork i j hi hj hr0 hig hjg ?_ ?_
 · unfold Oper.wp
   rw[hirun];have hB2:=(Below.refl w.heap.size w).alloc lr (.cells Z.toArray ty);rw[Oper.upon_value,hid];refine⟨fun _=>hT _ hB2,?_⟩;refine AnyK.one j hj hri hjg ?_
   unfold Oper.wp
   rw[hjrun];have hB3:=hB2.alloc hB2.size (.cells Z.toArray ty);rw[Oper.upon_value,hjd];exact⟨fun _=>hT _ hB3,fin _ _ _ lr sy sy ((Blk.new w ty Z).alloc _) (Blk.new _ _ _) hB3⟩
 · unfold Oper.wp
   rw[hjrun];have hB2:=(Below.refl w.heap.size w).alloc lr (.cells Z.toArray ty);rw[Oper.upon_value,hjd];refine⟨fun _=>hT _ hB2,?_⟩;refine AnyK.one i hi hrj hig ?_
   unfold Oper.wp
   rw[hirun];have hB3:=hB2.alloc hB2.size (.cells Z.toArray ty);rw[Oper.upon_value,hid,Array.setIfInBounds_comm _ _ (Ne.symm hij),Act.put_comm a _ _ (fun d h1 h2=>hd (by injection h1 with h1;injection h2 with h2;rw[h1,h2]))];exact⟨fun _=>hT _ hB3,fin _ _ _ sy lr sy (Blk.new _ _ _) ((Blk.new w ty Z).alloc _) hB3⟩
def chained(md:Region.Mode)(ops:Array Oper):Nat→List Nat→Bool
 | _,[]=>true
 | i,m :: l=>awaits md ops m i && chained md ops m l
theorem zfe{j:Nat}{listed:Array Bool}(hj:j∈Region.ready md ops listed):∀(i:Nat) (path:List Nat),chained md ops i path=true→listed.getD i true=false→(∀m∈path,listed.getD m true=false)→∀m∈path,j≠m
 | _,[],_,_,_,m,hm=>by cases hm
 | i,p :: l,hc,hi,hl,m,hm=>by
  simp only[chained,Bool.and_eq_true]at hc
  rcases List.mem_cons.1 hm with rfl|hm
  · rintro rfl
    obtain⟨oj,hoj,hall⟩:=(mem_ready.1 hj).2;obtain⟨ok,hok,e,he,hb,hei⟩:=zdu hc.1;rw[hok]at hoj
    injection hoj with hoj
    subst hoj;have h1:=hall e he hb;rw[hei]at h1
    rcases Nat.lt_or_ge i listed.size with h' | h'
    · simp[h']at hi h1;rw[hi]at h1;cases h1
    · simp[Array.getElem?_eq_none h']at h1
  · exact zfe hj p l hc.2 (hl p (List.mem_cons_self ..)) (fun m hm=>hl m (List.mem_cons_of_mem _ hm)) m hm
theorem AnyK.firstP{i:Nat}{path:List Nat}{oi:Oper}{v:Value}{S:World→Prop}(hi:ops[i]? = some oi)(hik:i≠k)(hsel:∀(j:Nat) (o:Oper) cs b,ops[j]? = some o→o.op≠.select cs b)
 (hQ:∀c a w,Q (.panic c) (a.put oi.dst v) w→Q (.panic c) a w)
 (hS:∀w,T w→S w) (hch:chained md ops i path=true) (hkp:k∈path) (hip:i ∉ path):
 ∀(fuel:Nat) (listed:Array Bool) (a:Act) (w:World),
   (∀j oj,ops[j]? = some oj→j≠i→listed.getD j true=false→(∀e∈oj.after,Region.binds md e=true→e.on≠i)→oi.apart ops oj=true) →
   i∈Region.ready md ops listed→YieldsIf P ops S oi v a→S w→(listed.getD k true=false→T w)→(∀m∈path,listed.getD m true=false) →
   AnyK P md ops Q k T fuel (listed.setIfInBounds i true) (a.put oi.dst v) w→AnyK P md ops Q k T (fuel+1) listed a w:=by
 have hset:∀(L:Array Bool),(L.setIfInBounds i true).getD k true=L.getD k true:=fun L=>getD_set_ne true hik
 intro fuel
 induction fuel with
 | zero =>
  intro listed a w _ hr hy hSw hT _ H;refine⟨fun h=>(by rw[h]at hr;cases hr),fun j hj=>?_⟩
  by_cases hji:j=i
  · subst hji;exact hy.wpOp hi hSw ⟨fun h=>hT (by rwa [hset]at h),H⟩
  · have:=ready_mono hj hji
    rw[H.1]at this
    cases this
 | succ fuel ih =>
  intro listed a w hfree hr hy hSw hT hl H;refine⟨fun h=>(by rw[h]at hr;cases hr),fun j hj=>?_⟩
  by_cases hji:j=i
  · subst hji;exact hy.wpOp hi hSw ⟨fun h=>hT (by rwa [hset]at h),H⟩
  · have h1:=H.2 j (ready_mono hj hji)
    obtain⟨hjun,oj,hoj,hall⟩:=mem_ready.1 hj
    have hnot:∀e∈oj.after,Region.binds md e=true→e.on≠i:=fun e he hb heq=>by
     have h1:=hall e he hb;have h0:=(mem_ready.1 hr).1;rw[heq]at h1
     rcases Nat.lt_or_ge i listed.size with h' | h'
     · simp[h']at h0 h1;rw[h0]at h1;cases h1
     · simp[Array.getElem?_eq_none h']at h1
    have h2:=wpOp_putIf hoj (hfree j oj hoj hji hjun hnot) (fun cs b=>hsel i oi cs b hi) (fun cs b=>hsel j oj cs b hoj) hQ hy h1
    have hfree':∀k ok,ops[k]? = some ok→k≠i→(listed.setIfInBounds j true).getD k true=false →
        (∀e∈ok.after,Region.binds md e=true→e.on≠i)→oi.apart ops ok=true:=fun k ok hk hki hun hno=>by
     refine hfree k ok hk hki ?_ hno
     by_cases hjk:j=k
     · subst hjk;exact hjun
     · rw[getD_set_ne true hjk]at hun;exact hun
    have hkj:∀m∈path,(listed.setIfInBounds j true).getD m true=false:=fun m hm=>by
     rw[getD_set_ne true (zfe hj i path hch (mem_ready.1 hr).1 hl m hm)];exact hl m hm
    refine wpOp_mono (fun a' w' h3=>?_) h2;have hT':(listed.setIfInBounds j true).getD k true=false→T w':=fun h=>h3.2.1 (by rw[Array.setIfInBounds_comm _ _ (Ne.symm hji),hset];exact h)
    refine⟨hT',ih (listed.setIfInBounds j true) a' w' hfree' (ready_mono hr (Ne.symm hji)) h3.1 ?_ hT' hkj ?_⟩
    · exact hS w' (hT' (hkj k hkp))
    · rw[Array.setIfInBounds_comm _ _ hji]
      exact h3.2.2
theorem AnyK.loadP{fuel:Nat}{listed:Array Bool}{a:Act}{w:World}(i:Nat)(path:List Nat){oi:Oper}{v:Value}(hi:ops[i]? = some oi)(hd:takeB md ops listed k i=true)(hk:(chained md ops i path && path.contains k && !path.contains i && path.all fun m=>!listed.getD m true)=true)
 (hQ:∀c a w,Q (.panic c) (a.put oi.dst v) w→Q (.panic c) a w) (hg:Region.wanted oi (yielded ops a.tmps)=true) (hy:∀w,T w→(execOp a.eval oi).run P w=.ok (.value v) w) (hT:T w)
 (h:AnyK P md ops Q k T fuel (listed.setIfInBounds i true) (a.put oi.dst v) w):AnyK P md ops Q k T (fuel+1) listed a w:=by
 simp only[takeB,Bool.and_eq_true,decide_eq_true_eq]at hd;obtain⟨⟨⟨h1,h2⟩,h3⟩,h4⟩:=hd;simp only[Bool.and_eq_true,List.all_eq_true,Bool.not_eq_true',List.contains_eq_mem,decide_eq_true_eq,decide_eq_false_iff_not]at hk;obtain⟨⟨⟨k1,k2⟩,k3⟩,k4⟩:=hk;exact AnyK.firstP (S:=T) (path:=path) hi h1 (Region.noSelect_spec h2) hQ (fun _ h=>h) k1 k2 k3 fuel listed a w (Region.free_spec hi h3) (by simpa using h4) (.inl ⟨hg,hy⟩) hT (fun _=>hT) k4 h
theorem zco{w:World}{a:Act}{o:Oper}{t:TypeId}{x:Operand}{p:Addr}{v:Value}(ho:o.op=.load t x)(hx:a.eval x=.pointer (some p))(hn:∀w,(isAgg t).run P w=.ok false w)(hc:w.cell? p=some v):(execOp a.eval o).run P w=.ok (.value v) w:=by
 unfold execOp
 simp[ho,hx,Instr.loadAt,Instr.sureAddr,loadVar,hn,hc]
theorem zbh{w:World}{a:Act}{o:Oper}{t e:TypeId}{x y:Operand}{g off n c p sz:Nat}(ho:o.op=.indexAddr t x y)(hx:a.eval x=.slice (some ⟨g,off,none⟩) n c)(hy:a.eval y=.int .i64 (p:Int))(hp:p<n)(hu:P.underlying t=some (.slice e))(hz:∀w,(sizeOf e).run P w=.ok sz w):(execOp a.eval o).run P w=.ok (.value (.pointer (some ⟨g,off+p*sz,none⟩))) w:=by
 unfold execOp
 simp[ho,hx,hy,Instr.indexAt,asIntOf,run_underlying hu,hz,hp,Addr.add]
end
end
end Go.Proofs.YtafjkbbiaopemaaGreatDoor
namespace Go.Proofs.YtafjkbbiaopemaaGreatDoor.Tr
open Go.RowKit
section
inductive StSm:List St→Prop
 | mk (ss:List St) (hl:ss.length≤140737488355328) (he:∀s∈ss,ExSm s.ea.args∧ExSm s.eb.args∧ExSm s.ec.args∧s.routes.length≤140737488355328) (hy:∀s∈ss,StSm s.body) (hz:∀s∈ss,StSm s.els):StSm ss
theorem zq0(v:Value):Instr.loadAt 42 v=ldAt 42 v:=rfl
theorem szSm(w:World):(sizeOf 42).run Tryz.prog w=.ok 26 w:=by kernel_rfl
theorem zdy{w:World}{F:Nat→Prop}{A:Option Addr}{ss:List St}(h:BodyIn F w A ss)(i:Nat)(hi:i<ss.length):∃b off p,A=some ⟨b,off,none⟩∧b<w.heap.size∧w.rangeAt b (off+i*26) (stC ss[i] p)∧StIn F w ss[i] p:=by
 cases h with
 | mk _ _ sl hl hr he hy hz =>
  obtain⟨b,off,rfl,hb,hc⟩:=hr.1.2 om;have h1:ss[i]? = some ss[i]:=ge9 hi;have h2:sl[i]? = some (sl[i]'om):=ge9 _;exact⟨b,off,sl[i]'om,rfl,hb,fun j v hv=>(by rw[Nat.add_assoc];exact hc _ v (zdv stC 26 (fun _ _=>rfl) ss sl i _ _ j v h1 h2 hv)),he i _ _ h1 h2,hy i _ _ h1 h2,hz i _ _ h1 h2⟩
section
variable{w w':World}
attribute [local go_sem ↓] zq0
theorem zim{ss:List St}(h:StSm ss):∀ {F G:Nat→Prop} (A B:Option Addr) (n a b:Nat) (_:ss.length=n) (w:World) (_:BodyIn F w A ss) (_:BodyIn G w B ss),
 Calls Tryz.prog 33 #[.slice A n a,.slice B n b,.bool true] w fun e w'=>e=.returned (.bool true)∧Below w.heap.size w w':=by
 induction h with
 | mk ss hl he hy hz ihy ihz =>
  intro F G A B n a b hn w hA hB;have HY:=qh ihy;have HZ:=qh ihz;have HE:=qh he;have HN:=qh hn;have HA:=qh hA;have HB:=qh hB;have hn8:n≤140737488355328:=om;clear ihy ihz hl he hy hz hn hA hB
  go_enter Tryz.func33, Tryz.ntmps33
  go_wp2
  go_loopg [7] n (fun kk q wr=>∃j:Nat,j≤n∧kk=n-j∧q=.int .i64 (j:Int)∧Hid (Below w.heap.size w wr))
  case atStart=>exact⟨0,by omega,by omega,rfl,qh (Below.refl _ _)⟩
  case round =>
   obtain⟨j,hj,hk,rfl,HR⟩:=hrel
   rcases Nat.eq_or_lt_of_le hj with rfl|hlt
   · have hnl:¬(j:Int)<(j:Int):=om
     clear hk hj;go_wp2;go_ret;exact⟨rfl,HR.out⟩
   · have hlt2:(j:Int)<(n:Int):=om
     have hjl:j<ss.length:=by have:=HN.out;omega
     obtain⟨b1,o1,sp,rfl,hb1,x1,k1⟩:=zdy (HA.out.keep (Keep.of_below HR.out F)) j hjl;obtain⟨b2,o2,tp,rfl,hb2,x2,k2⟩:=zdy (HB.out.keep (Keep.of_below HR.out G)) j hjl;have HYj:Hid (∀(F G:Nat→Prop) (A B:Option Addr) (n a b:Nat),ss[j].body.length=n→∀w:World,BodyIn F w A ss[j].body→BodyIn G w B ss[j].body→Calls Tryz.prog 33 #[.slice A n a,.slice B n b,.bool true] w fun e w'=>e=.returned (.bool true)∧Below w.heap.size w w'):=fun F G=>HY.out ss[j] (List.getElem_mem _)
     have HZj:Hid (∀(F G:Nat→Prop) (A B:Option Addr) (n a b:Nat),ss[j].els.length=n→∀w:World,BodyIn F w A ss[j].els→BodyIn G w B ss[j].els→Calls Tryz.prog 33 #[.slice A n a,.slice B n b,.bool true] w fun e w'=>e=.returned (.bool true)∧Below w.heap.size w w'):=fun F G=>HZ.out ss[j] (List.getElem_mem _)
     have HEj:=qh (HE.out ss[j] (List.getElem_mem _));clear HY HZ HE HA HB;generalize ss[j]=E at *;have HK:Hid (StIn F wr E sp∧StIn G wr E tp):=⟨k1,k2⟩;have HX:Hid (wr.rangeAt b1 (o1+j*26) (stC E sp)∧wr.rangeAt b2 (o2+j*26) (stC E tp)):=⟨x1,x2⟩;have HCO:Hid ((∀v∈stC E sp,v.oneCell'=true)∧(∀v∈stC E tp,v.oneCell'=true)):=⟨zal _ _,zal _ _⟩;have HCL:Hid ((stC E sp).length=26∧(stC E tp).length=26):=⟨rfl,rfl⟩;clear k1 k2 x1 x2;obtain⟨CA,hCA⟩:=ex9 (stC E sp);obtain⟨CB,hCB⟩:=ex9 (stC E tp);rw[←hCA,←hCB]at HX HCO HCL;have HCC:Hid (CA=stC E sp∧CB=stC E tp):=⟨hCA,hCB⟩;clear hCA hCB
     go_upto_region 6 with fail
     have hT:Below wr.heap.size wr wr.drew:=Below.drew (Below.refl _ _);refine kgo kr 11 (fun W=>Below wr.heap.size wr W) hT (fun _ _ _ _ _ h=>h) ?_;refine kp 0 (.slice (some ⟨b1,o1,none⟩) n a) rfl kr (fun _=>kr) ?_;refine kp 1 (.int .i64 j) rfl kr (fun _=>kr) ?_;refine kp 2 (.pointer (some ⟨b1,o1+j*26,none⟩)) rfl kr (fun _=>zbh (t:=24) (x:=.tmp 21) (y:=.tmp 22) (g:=b1) (off:=o1) (n:=n) (c:=a) (p:=j) rr kr kr hlt Tryz.underlying24 szSm) ?_;refine kl 3 (.agg CA.toArray) rfl kr (fun w' hw'=>zak rfl kr (run_loadAt_mid w' b1 (o1+j*26) 42 CA _ (fun q v hv=>(World.cell?_of_block (a:=⟨b1,o1+j*26+q,none⟩) (hw'.block b1 hb1)).trans (HX.out.1 q v hv)) Tryz.underlying42 rfl (by rw[HCL.out.1];exact hdSt))) ?_;refine kp 4 (.slice (some ⟨b2,o2,none⟩) n b) rfl kr (fun _=>kr) ?_;refine kp 5 (.int .i64 j) rfl kr (fun _=>kr) ?_;refine kp 6 (.pointer (some ⟨b2,o2+j*26,none⟩)) rfl kr (fun _=>zbh (t:=24) (x:=.tmp 25) (y:=.tmp 26) (g:=b2) (off:=o2) (n:=n) (c:=b) (p:=j) rr kr kr hlt Tryz.underlying24 szSm) ?_;refine kl 7 (.agg CB.toArray) rfl kr (fun w' hw'=>zak rfl kr (run_loadAt_mid w' b2 (o2+j*26) 42 CB _ (fun q v hv=>(World.cell?_of_block (a:=⟨b2,o2+j*26+q,none⟩) (hw'.block b2 hb2)).trans (HX.out.2 q v hv)) Tryz.underlying42 rfl (by rw[HCL.out.2];exact hdSt))) ?_;intro q8 q9;clear q8 q9;refine AnyK.two_new 8 9 10 11 (d1:=8) (d2:=9) (e1:=24) (e2:=28) (by decide) 42 (stC zT pA0) CA CB rfl rfl rfl (fun _ _=>by kernel_rfl) rfl rfl rfl (fun _ _=>by kernel_rfl) rfl rfl rfl rfl rfl rfl rfl rfl (fun _ _=>by kernel_rfl) (fun _ _=>by kernel_rfl) (fun _ _=>by kernel_rfl) (fun _ _=>by kernel_rfl) kr kr kr kr kr kr hdSt HCO.out.1 HCL.out.1 HCO.out.2 HCL.out.2 (fun W hW=>hT.trans hW) ?_;intro g1 g2 w8 hg1 hg2 hk1 hk2 hB8;rw[HCC.out.1]at hk1;rw[HCC.out.2]at hk2;have H0:Hid (Blk w8 g1 42 (stC E sp)∧Blk w8 g2 42 (stC E tp)∧Below wr.heap.size wr w8):=⟨hk1,hk2,hT.trans hB8⟩;clear hk1 hk2 hB8 hT HX HCO HCL;obtain⟨kd,at_,⟨nm,na⟩,⟨ao,an,ax,aa,ea⟩,⟨bo,bn,bx,ba,eb⟩,⟨co,cn,cx,ca,ec⟩,rt,⟨kn,ka⟩,⟨tn,ta⟩,bd,el⟩:=E;have HSR:=qh ze2;have c0s:w8.cell? ⟨g1,0,none⟩=some (.string kd):=H0.out.1.cell 0;have c0t:w8.cell? ⟨g2,0,none⟩=some (.string kd):=H0.out.2.1.cell 0;have c1s:w8.cell? ⟨g1,1,none⟩=some (.int .i64 at_):=H0.out.1.cell 1;have c1t:w8.cell? ⟨g2,1,none⟩=some (.int .i64 at_):=H0.out.2.1.cell 1;have c2s:w8.cell? ⟨g1,2,none⟩=some (.string nm):=H0.out.1.cell 2;have c2t:w8.cell? ⟨g2,2,none⟩=some (.string nm):=H0.out.2.1.cell 2;have c3s:w8.cell? ⟨g1,3,none⟩=some (.int .i64 na):=H0.out.1.cell 3;have c3t:w8.cell? ⟨g2,3,none⟩=some (.int .i64 na):=H0.out.2.1.cell 3
     go_wp2_with (first
      | (go_at_call 33;have _:=H8;(refine(HZj.out F G _ _ _ _ _ rfl _ (HK.out.1.2.2.keep (Keep.of_below H8.out.2.2 F)) (HK.out.2.2.2.keep (Keep.of_below H8.out.2.2 G))).mono ?_);rintro e v9 ⟨rfl,hB8⟩;have H9:Hid (Blk v9 g1 42 (stC (.mk kd at_ ⟨nm,na⟩ (.mk ao an ax aa ea) (.mk bo bn bx ba eb) (.mk co cn cx ca ec) rt ⟨kn,ka⟩ ⟨tn,ta⟩ bd el) sp)∧Blk v9 g2 42 (stC (.mk kd at_ ⟨nm,na⟩ (.mk ao an ax aa ea) (.mk bo bn bx ba eb) (.mk co cn cx ca ec) rt ⟨kn,ka⟩ ⟨tn,ta⟩ bd el) tp)∧Below wr.heap.size wr v9):=⟨H8.out.1.below hB8 H8.out.1.lt,H8.out.2.1.below hB8 H8.out.2.1.lt,H8.out.2.2.trans (hB8.mono H8.out.2.2.size)⟩;clear hB8)
      | (go_at_call 33;have _:=H7;(refine(HYj.out F G _ _ _ _ _ rfl _ (HK.out.1.2.1.keep (Keep.of_below H7.out.2.2 F)) (HK.out.2.2.1.keep (Keep.of_below H7.out.2.2 G))).mono ?_);rintro e v8 ⟨rfl,hB7⟩;have H8:Hid (Blk v8 g1 42 (stC (.mk kd at_ ⟨nm,na⟩ (.mk ao an ax aa ea) (.mk bo bn bx ba eb) (.mk co cn cx ca ec) rt ⟨kn,ka⟩ ⟨tn,ta⟩ bd el) sp)∧Blk v8 g2 42 (stC (.mk kd at_ ⟨nm,na⟩ (.mk ao an ax aa ea) (.mk bo bn bx ba eb) (.mk co cn cx ca ec) rt ⟨kn,ka⟩ ⟨tn,ta⟩ bd el) tp)∧Below wr.heap.size wr v8):=⟨H7.out.1.below hB7 H7.out.1.lt,H7.out.2.1.below hB7 H7.out.2.1.lt,H7.out.2.2.trans (hB7.mono H7.out.2.2.size)⟩;have d7_25s:v8.cell? ⟨g1,25,none⟩=some (.slice sp.z.1 el.length sp.z.2):=H8.out.1.cell 25;have d7_25t:v8.cell? ⟨g2,25,none⟩=some (.slice tp.z.1 el.length tp.z.2):=H8.out.2.1.cell 25;clear hB7)
      | (go_at_call 69;have _:=H6;(refine(zk5 (F:=F) (G:=G) _ _ _ _ _ _ rfl HEj.out.2.2.2 _ (HK.out.1.1.2.2.2.keep (Keep.of_below H6.out.2.2 F)) (HK.out.2.1.2.2.2.keep (Keep.of_below H6.out.2.2 G))).mono ?_);rintro e v7 ⟨rfl,hB6⟩;have H7:Hid (Blk v7 g1 42 (stC (.mk kd at_ ⟨nm,na⟩ (.mk ao an ax aa ea) (.mk bo bn bx ba eb) (.mk co cn cx ca ec) rt ⟨kn,ka⟩ ⟨tn,ta⟩ bd el) sp)∧Blk v7 g2 42 (stC (.mk kd at_ ⟨nm,na⟩ (.mk ao an ax aa ea) (.mk bo bn bx ba eb) (.mk co cn cx ca ec) rt ⟨kn,ka⟩ ⟨tn,ta⟩ bd el) tp)∧Below wr.heap.size wr v7):=⟨H6.out.1.below hB6 H6.out.1.lt,H6.out.2.1.below hB6 H6.out.2.1.lt,H6.out.2.2.trans (hB6.mono H6.out.2.2.size)⟩;have d6_24s:v7.cell? ⟨g1,24,none⟩=some (.slice sp.y.1 bd.length sp.y.2):=H7.out.1.cell 24;have d6_24t:v7.cell? ⟨g2,24,none⟩=some (.slice tp.y.1 bd.length tp.y.2):=H7.out.2.1.cell 24;clear hB6)
      | (go_at_call 32;have _:=H5;(refine(zce HEj.out.2.2.1 (F:=F) (G:=G) _ _ _ _ _ _ _ _ _ rfl _ (HK.out.1.1.2.2.1.keep (Keep.of_below H5.out.2.2 F)) (HK.out.2.1.2.2.1.keep (Keep.of_below H5.out.2.2 G))).mono ?_);rintro e v6 ⟨rfl,hB5⟩;have H6:Hid (Blk v6 g1 42 (stC (.mk kd at_ ⟨nm,na⟩ (.mk ao an ax aa ea) (.mk bo bn bx ba eb) (.mk co cn cx ca ec) rt ⟨kn,ka⟩ ⟨tn,ta⟩ bd el) sp)∧Blk v6 g2 42 (stC (.mk kd at_ ⟨nm,na⟩ (.mk ao an ax aa ea) (.mk bo bn bx ba eb) (.mk co cn cx ca ec) rt ⟨kn,ka⟩ ⟨tn,ta⟩ bd el) tp)∧Below wr.heap.size wr v6):=⟨H5.out.1.below hB5 H5.out.1.lt,H5.out.2.1.below hB5 H5.out.2.1.lt,H5.out.2.2.trans (hB5.mono H5.out.2.2.size)⟩;have d5_19s:v6.cell? ⟨g1,19,none⟩=some (.slice sp.r.1 rt.length sp.r.2):=H6.out.1.cell 19;have d5_19t:v6.cell? ⟨g2,19,none⟩=some (.slice tp.r.1 rt.length tp.r.2):=H6.out.2.1.cell 19;clear hB5)
      | (go_at_call 32;have _:=H4;(refine(zce HEj.out.2.1 (F:=F) (G:=G) _ _ _ _ _ _ _ _ _ rfl _ (HK.out.1.1.2.1.keep (Keep.of_below H4.out.2.2 F)) (HK.out.2.1.2.1.keep (Keep.of_below H4.out.2.2 G))).mono ?_);rintro e v5 ⟨rfl,hB4⟩;have H5:Hid (Blk v5 g1 42 (stC (.mk kd at_ ⟨nm,na⟩ (.mk ao an ax aa ea) (.mk bo bn bx ba eb) (.mk co cn cx ca ec) rt ⟨kn,ka⟩ ⟨tn,ta⟩ bd el) sp)∧Blk v5 g2 42 (stC (.mk kd at_ ⟨nm,na⟩ (.mk ao an ax aa ea) (.mk bo bn bx ba eb) (.mk co cn cx ca ec) rt ⟨kn,ka⟩ ⟨tn,ta⟩ bd el) tp)∧Below wr.heap.size wr v5):=⟨H4.out.1.below hB4 H4.out.1.lt,H4.out.2.1.below hB4 H4.out.2.1.lt,H4.out.2.2.trans (hB4.mono H4.out.2.2.size)⟩;have d4_14s:v5.cell? ⟨g1,14,none⟩=some (.string co):=H5.out.1.cell 14;have d4_14t:v5.cell? ⟨g2,14,none⟩=some (.string co):=H5.out.2.1.cell 14;have d4_15s:v5.cell? ⟨g1,15,none⟩=some (.int .i64 cn):=H5.out.1.cell 15;have d4_15t:v5.cell? ⟨g2,15,none⟩=some (.int .i64 cn):=H5.out.2.1.cell 15;have d4_16s:v5.cell? ⟨g1,16,none⟩=some (.string cx):=H5.out.1.cell 16;have d4_16t:v5.cell? ⟨g2,16,none⟩=some (.string cx):=H5.out.2.1.cell 16;have d4_17s:v5.cell? ⟨g1,17,none⟩=some (.int .i64 ca):=H5.out.1.cell 17;have d4_17t:v5.cell? ⟨g2,17,none⟩=some (.int .i64 ca):=H5.out.2.1.cell 17;have d4_18s:v5.cell? ⟨g1,18,none⟩=some (.slice sp.c.1 ec.length sp.c.2):=H5.out.1.cell 18;have d4_18t:v5.cell? ⟨g2,18,none⟩=some (.slice tp.c.1 ec.length tp.c.2):=H5.out.2.1.cell 18;clear hB4)
      | (go_at_call 32;have _:=H3;(refine(zce HEj.out.1 (F:=F) (G:=G) _ _ _ _ _ _ _ _ _ rfl _ (HK.out.1.1.1.keep (Keep.of_below H3.out.2.2 F)) (HK.out.2.1.1.keep (Keep.of_below H3.out.2.2 G))).mono ?_);rintro e v4 ⟨rfl,hB3⟩;have H4:Hid (Blk v4 g1 42 (stC (.mk kd at_ ⟨nm,na⟩ (.mk ao an ax aa ea) (.mk bo bn bx ba eb) (.mk co cn cx ca ec) rt ⟨kn,ka⟩ ⟨tn,ta⟩ bd el) sp)∧Blk v4 g2 42 (stC (.mk kd at_ ⟨nm,na⟩ (.mk ao an ax aa ea) (.mk bo bn bx ba eb) (.mk co cn cx ca ec) rt ⟨kn,ka⟩ ⟨tn,ta⟩ bd el) tp)∧Below wr.heap.size wr v4):=⟨H3.out.1.below hB3 H3.out.1.lt,H3.out.2.1.below hB3 H3.out.2.1.lt,H3.out.2.2.trans (hB3.mono H3.out.2.2.size)⟩;have d3_9s:v4.cell? ⟨g1,9,none⟩=some (.string bo):=H4.out.1.cell 9;have d3_9t:v4.cell? ⟨g2,9,none⟩=some (.string bo):=H4.out.2.1.cell 9;have d3_10s:v4.cell? ⟨g1,10,none⟩=some (.int .i64 bn):=H4.out.1.cell 10;have d3_10t:v4.cell? ⟨g2,10,none⟩=some (.int .i64 bn):=H4.out.2.1.cell 10;have d3_11s:v4.cell? ⟨g1,11,none⟩=some (.string bx):=H4.out.1.cell 11;have d3_11t:v4.cell? ⟨g2,11,none⟩=some (.string bx):=H4.out.2.1.cell 11;have d3_12s:v4.cell? ⟨g1,12,none⟩=some (.int .i64 ba):=H4.out.1.cell 12;have d3_12t:v4.cell? ⟨g2,12,none⟩=some (.int .i64 ba):=H4.out.2.1.cell 12;have d3_13s:v4.cell? ⟨g1,13,none⟩=some (.slice sp.b.1 eb.length sp.b.2):=H4.out.1.cell 13;have d3_13t:v4.cell? ⟨g2,13,none⟩=some (.slice tp.b.1 eb.length tp.b.2):=H4.out.2.1.cell 13;clear hB3)
      | (go_at_call 31;have _:=H2;(refine(HSR.out ⟨tn,ta⟩ _).mono ?_);rintro e v3 ⟨rfl,hB2⟩;have H3:Hid (Blk v3 g1 42 (stC (.mk kd at_ ⟨nm,na⟩ (.mk ao an ax aa ea) (.mk bo bn bx ba eb) (.mk co cn cx ca ec) rt ⟨kn,ka⟩ ⟨tn,ta⟩ bd el) sp)∧Blk v3 g2 42 (stC (.mk kd at_ ⟨nm,na⟩ (.mk ao an ax aa ea) (.mk bo bn bx ba eb) (.mk co cn cx ca ec) rt ⟨kn,ka⟩ ⟨tn,ta⟩ bd el) tp)∧Below wr.heap.size wr v3):=⟨H2.out.1.below hB2 H2.out.1.lt,H2.out.2.1.below hB2 H2.out.2.1.lt,H2.out.2.2.trans (hB2.mono H2.out.2.2.size)⟩;have d2_4s:v3.cell? ⟨g1,4,none⟩=some (.string ao):=H3.out.1.cell 4;have d2_4t:v3.cell? ⟨g2,4,none⟩=some (.string ao):=H3.out.2.1.cell 4;have d2_5s:v3.cell? ⟨g1,5,none⟩=some (.int .i64 an):=H3.out.1.cell 5;have d2_5t:v3.cell? ⟨g2,5,none⟩=some (.int .i64 an):=H3.out.2.1.cell 5;have d2_6s:v3.cell? ⟨g1,6,none⟩=some (.string ax):=H3.out.1.cell 6;have d2_6t:v3.cell? ⟨g2,6,none⟩=some (.string ax):=H3.out.2.1.cell 6;have d2_7s:v3.cell? ⟨g1,7,none⟩=some (.int .i64 aa):=H3.out.1.cell 7;have d2_7t:v3.cell? ⟨g2,7,none⟩=some (.int .i64 aa):=H3.out.2.1.cell 7;have d2_8s:v3.cell? ⟨g1,8,none⟩=some (.slice sp.a.1 ea.length sp.a.2):=H3.out.1.cell 8;have d2_8t:v3.cell? ⟨g2,8,none⟩=some (.slice tp.a.1 ea.length tp.a.2):=H3.out.2.1.cell 8;clear hB2)
      | (go_at_call 31;have _:=H1;(refine(HSR.out ⟨kn,ka⟩ _).mono ?_);rintro e v2 ⟨rfl,hB1⟩;have H2:Hid (Blk v2 g1 42 (stC (.mk kd at_ ⟨nm,na⟩ (.mk ao an ax aa ea) (.mk bo bn bx ba eb) (.mk co cn cx ca ec) rt ⟨kn,ka⟩ ⟨tn,ta⟩ bd el) sp)∧Blk v2 g2 42 (stC (.mk kd at_ ⟨nm,na⟩ (.mk ao an ax aa ea) (.mk bo bn bx ba eb) (.mk co cn cx ca ec) rt ⟨kn,ka⟩ ⟨tn,ta⟩ bd el) tp)∧Below wr.heap.size wr v2):=⟨H1.out.1.below hB1 H1.out.1.lt,H1.out.2.1.below hB1 H1.out.2.1.lt,H1.out.2.2.trans (hB1.mono H1.out.2.2.size)⟩;have d1_22s:v2.cell? ⟨g1,22,none⟩=some (.string tn):=H2.out.1.cell 22;have d1_22t:v2.cell? ⟨g2,22,none⟩=some (.string tn):=H2.out.2.1.cell 22;have d1_23s:v2.cell? ⟨g1,23,none⟩=some (.int .i64 ta):=H2.out.1.cell 23;have d1_23t:v2.cell? ⟨g2,23,none⟩=some (.int .i64 ta):=H2.out.2.1.cell 23;clear hB1)
      | (go_at_call 31;have _:=H0;(refine(HSR.out ⟨nm,na⟩ _).mono ?_);rintro e v1 ⟨rfl,hB0⟩;have H1:Hid (Blk v1 g1 42 (stC (.mk kd at_ ⟨nm,na⟩ (.mk ao an ax aa ea) (.mk bo bn bx ba eb) (.mk co cn cx ca ec) rt ⟨kn,ka⟩ ⟨tn,ta⟩ bd el) sp)∧Blk v1 g2 42 (stC (.mk kd at_ ⟨nm,na⟩ (.mk ao an ax aa ea) (.mk bo bn bx ba eb) (.mk co cn cx ca ec) rt ⟨kn,ka⟩ ⟨tn,ta⟩ bd el) tp)∧Below wr.heap.size wr v1):=⟨H0.out.1.below hB0 H0.out.1.lt,H0.out.2.1.below hB0 H0.out.2.1.lt,H0.out.2.2.trans (hB0.mono H0.out.2.2.size)⟩;have d0_20s:v1.cell? ⟨g1,20,none⟩=some (.string kn):=H1.out.1.cell 20;have d0_20t:v1.cell? ⟨g2,20,none⟩=some (.string kn):=H1.out.2.1.cell 20;have d0_21s:v1.cell? ⟨g1,21,none⟩=some (.int .i64 ka):=H1.out.1.cell 21;have d0_21t:v1.cell? ⟨g2,21,none⟩=some (.int .i64 ka):=H1.out.2.1.cell 21;clear hB0))
     go_roundg (gk-1)
     case measure=>omega
     case rel=>exact⟨j+1,by omega,by omega,by simp,qh (HR.out.trans (H9.out.2.2.mono HR.out.size))⟩
end
end
end Go.Proofs.YtafjkbbiaopemaaGreatDoor.Tr
namespace Go.Proofs.YtafjkbbiaopemaaGreatDoor
open Go.RowKit
section
section
variable{P:Program}{ops:Array Oper}{Q:Exit→Act→World→Prop}{md:Region.Mode}{T:World→Prop}{k:Nat}
theorem AnyK.pureW{fuel:Nat}{listed:Array Bool}{a:Act}{w:World}(i:Nat){oi:Oper}{v:Value}(hi:ops[i]? = some oi)(hd:takeB md ops listed k i=true)
 (hQ:∀c a w,Q (.panic c) (a.put oi.dst v) w→Q (.panic c) a w) (hg:Region.wanted oi (yielded ops a.tmps)=true) (hy:∀w,(execOp a.eval oi).run P w=.ok (.value v) w) (hT:listed.getD k true=false→T w)
 (h:AnyK P md ops Q k T fuel (listed.setIfInBounds i true) (a.put oi.dst v) w):AnyK P md ops Q k T (fuel+1) listed a w:=by
 simp only[takeB,Bool.and_eq_true,decide_eq_true_eq]at hd;obtain⟨⟨⟨h1,h2⟩,h3⟩,h4⟩:=hd;exact AnyK.first (S:=fun _=>True) hi h1 (Region.noSelect_spec h2) hQ (.inl fun _=>trivial) fuel listed a w (Region.free_spec hi h3) (by simpa using h4) (.inl ⟨hg,fun w _=>hy w⟩) trivial hT (.inl fun _=>trivial) h
theorem AnyK.loadW{fuel:Nat}{listed:Array Bool}{a:Act}{w:World}(i:Nat){oi:Oper}{v:Value}(hi:ops[i]? = some oi)(hd:takeB md ops listed k i=true)(hk:awaits md ops k i=true)(hl:listed.getD k true=false)
 (hQ:∀c a w,Q (.panic c) (a.put oi.dst v) w→Q (.panic c) a w) (hg:Region.wanted oi (yielded ops a.tmps)=true) (hy:∀w,T w→(execOp a.eval oi).run P w=.ok (.value v) w) (hT:T w)
 (h:AnyK P md ops Q k T fuel (listed.setIfInBounds i true) (a.put oi.dst v) w):AnyK P md ops Q k T (fuel+1) listed a w:=by
 simp only[takeB,Bool.and_eq_true,decide_eq_true_eq]at hd;obtain⟨⟨⟨h1,h2⟩,h3⟩,h4⟩:=hd;exact AnyK.first (S:=T) hi h1 (Region.noSelect_spec h2) hQ (.inr ⟨fun _ h=>h,zdu hk⟩) fuel listed a w (Region.free_spec hi h3) (by simpa using h4) (.inl ⟨hg,hy⟩) hT (fun _=>hT) (.inr hl) h
theorem AnyK.turn{k':Nat}{T':World→Prop}: ∀(fuel:Nat) (listed:Array Bool) (a:Act) (w:World),listed.getD k true=true→AnyK P md ops Q k' T' fuel listed a w→AnyK P md ops Q k T fuel listed a w
 | 0,_,_,_,_,h=>h
 | fuel+1,listed,a,w,hl,h=>by
  refine⟨h.1,fun i hi=>wpOp_mono (fun a' w' h'=>?_) (h.2 i hi)⟩
  have hl':(listed.setIfInBounds i true).getD k true=true:=by
   by_cases hik:i=k
   · subst hik
     rcases Nat.lt_or_ge i listed.size with h' | h'
     · simp[h']
     · simp
   · rw[Go.getD_set_ne true hik];exact hl
  exact⟨fun h0=>(by rw[hl']at h0;cases h0),AnyK.turn fuel _ a' w' hl' h'.2⟩
theorem AnyK.oneW{fuel:Nat}{listed:Array Bool}{a:Act}{w:World}(i:Nat){oi:Oper}(hi:ops[i]? = some oi)(hr:Region.ready md ops listed=[i])(hg:Region.wanted oi (yielded ops a.tmps)=true)
 (h:oi.wp P a w (fun a' w'=>((listed.setIfInBounds i true).getD k true=false→T w')∧AnyK P md ops Q k T fuel (listed.setIfInBounds i true) a' w') Q):AnyK P md ops Q k T (fuel+1) listed a w:=by
 refine⟨fun h0=>(by rw[hr]at h0;cases h0),fun j hj=>?_⟩;rw[hr]at hj;obtain rfl:j=i:=by simpa using hj
 unfold wpOp
 simp only[hi];rw[if_pos hg];exact .inl h
theorem AnyK.enterW{fuel:Nat}{listed:Array Bool}{a:Act}{w:World}(i:Nat){d:Option Tmp}{f:FuncId}{args:Array Value}{oi:Oper}(hi:ops[i]? = some oi)(hd:oi.dst=d)(hg:Region.wanted oi (yielded ops a.tmps)=true)(hrun:(execOp a.eval oi).run P w=.ok (.enter f args) w)(hr:Region.ready md ops listed=[i])
 (h:Calls P f args w fun e w'=>∃v,e=.returned v∧((listed.setIfInBounds i true).getD k true=false→T w')∧AnyK P md ops Q k T fuel (listed.setIfInBounds i true) (a.put d v) w'):AnyK P md ops Q k T (fuel+1) listed a w:=by
 subst hd;refine AnyK.oneW i hi hr hg ?_
 unfold Oper.wp
 rw[hrun];refine Calls.mono h ?_;rintro e w' ⟨v,rfl,h1,h2⟩;exact⟨h1,h2⟩
theorem AnyK.valW{fuel:Nat}{listed:Array Bool}{a:Act}{w:World}(i:Nat){oi:Oper}{v:Value}(hi:ops[i]? = some oi)(hr:Region.ready md ops listed=[i])(hg:Region.wanted oi (yielded ops a.tmps)=true)(hy:(execOp a.eval oi).run P w=.ok (.value v) w)
 (hT:(listed.setIfInBounds i true).getD k true=false→T w) (h:AnyK P md ops Q k T fuel (listed.setIfInBounds i true) (a.put oi.dst v) w):AnyK P md ops Q k T (fuel+1) listed a w:=by
 refine AnyK.oneW i hi hr hg ?_
 unfold Oper.wp
 rw[hy,Oper.upon_value];exact⟨hT,h⟩
end
end
end Go.Proofs.YtafjkbbiaopemaaGreatDoor
namespace Go.Proofs.YtafjkbbiaopemaaGreatDoor.Tr
open Go.RowKit
section
def DcSm(l:List Dc):Prop:=l.length≤140737488355328∧∀d∈l,ExSm d.value.args∧d.places.length≤140737488355328∧∀p∈d.places,ExSm p.delay.args∧ExSm p.flags.args
theorem zq1(v:Value):Instr.loadAt 45 v=ldAt 45 v:=rfl
theorem szDm(w:World):(sizeOf 45).run Tryz.prog w=.ok 9 w:=by kernel_rfl
theorem zex{w:World}{F:Nat→Prop}{A:Option Addr}{ss:List Dc}(h:DcsIn F w A ss)(i:Nat)(hi:i<ss.length):∃b off p,A=some ⟨b,off,none⟩∧b<w.heap.size∧w.rangeAt b (off+i*9) (dcC ss[i] p)∧DcIn F w ss[i] p:=by
 obtain⟨sl,hl,hr,he⟩:=h;obtain⟨b,off,rfl,hb,hc⟩:=hr.1.2 om;have h1:ss[i]? = some ss[i]:=ge9 hi;have h2:sl[i]? = some (sl[i]'om):=ge9 _;exact⟨b,off,sl[i]'om,rfl,hb,fun j v hv=>(by rw[Nat.add_assoc];exact hc _ v (zdv dcC 9 (fun _ _=>rfl) ss sl i _ _ j v h1 h2 hv)),he i _ _ h1 h2⟩
theorem zet{w:World}{F:Nat→Prop}{A:Option Addr}{ss:List Pl}(h:PlsIn F w A ss)(i:Nat)(hi:i<ss.length):∃b off p,A=some ⟨b,off,none⟩∧b<w.heap.size∧w.rangeAt b (off+i*12) (plC ss[i] p)∧PlIn F w ss[i] p:=by
 obtain⟨sl,hl,hr,he⟩:=h;obtain⟨b,off,rfl,hb,hc⟩:=hr.1.2 om;have h1:ss[i]? = some ss[i]:=ge9 hi;have h2:sl[i]? = some (sl[i]'om):=ge9 _;exact⟨b,off,sl[i]'om,rfl,hb,fun j v hv=>(by rw[Nat.add_assoc];exact hc _ v (zdv plC 12 (fun _ _=>rfl) ss sl i _ _ j v h1 h2 hv)),he i _ _ h1 h2⟩
theorem zcu{w W:World}{b off:Nat}{cs:List Value}(h:w.rangeAt b off cs)(hb:b<w.heap.size)(hW:Below w.heap.size w W):W.rangeAt b off cs:=fun q v hv=>(World.cell?_of_block (a:=⟨b,off+q,none⟩) (hW.block b hb)).trans (h q v hv)
theorem szPm(w:World):(sizeOf 80).run Tryz.prog w=.ok 12 w:=by kernel_rfl
theorem zct{w:World}{b off:Nat}{cs ds:List Value}(h:w.rangeAt b off cs)(o n:Nat)(hd:(cs.drop o).take n=ds):w.rangeAt b (off+o) ds:=fun j v hv=>by
 rw[←hd,List.getElem?_take]at hv
 split at hv
 · rw[List.getElem?_drop]at hv
   rw[Nat.add_assoc];exact h _ v hv
 · cases hv
section
variable{w w':World}
attribute [local go_sem ↓] zq1
theorem zqu{F G:Nat→Prop}(T:Sr)(hd:DcSm T.decls)(hb:StSm T.body)(A B C D:Option Addr)(a b c d:Nat)(w:World)(hA:DcsIn F w A T.decls)(hB:BodyIn F w B T.body)(hC:DcsIn G w C T.decls)(hD:BodyIn G w D T.body):
 Calls Tryz.prog 11 #[.agg #[.slice A T.decls.length a,.slice B T.body.length b],.agg #[.slice C T.decls.length c,.slice D T.body.length d],.bool true] w fun e w'=>e=.returned (.bool true)∧Below w.heap.size w w':=by
 obtain⟨ds,bs⟩:=T;dsimp only at hd hb hA hB hC hD ⊢;have HBS:=qh (zim hb (F:=F) (G:=G));have hn8:ds.length≤140737488355328:=hd.1;have HDS:=qh hd.2;generalize hm:bs.length=m at *;generalize hn:ds.length=n at *;have HN:=qh hn;have HM:=qh hm
 have HW:Hid (∀W,W=(w.alloc (.cells #[.slice A n a,.slice B m b] 26)).alloc (.cells #[.slice C n c,.slice D m d] 26)→Below w.heap.size w W∧Blk W w.heap.size 26 [.slice A n a,.slice B m b]∧Blk W (w.heap.size+1) 26 [.slice C n c,.slice D m d]∧DcsIn F W A ds∧BodyIn F W B bs∧DcsIn G W C ds∧BodyIn G W D bs):=by
  rintro W rfl;have hb2:Below w.heap.size w ((w.alloc (.cells #[.slice A n a,.slice B m b] 26)).alloc (.cells #[.slice C n c,.slice D m d] 26)):=((Below.refl _ _).alloc lr _).alloc sy _;exact⟨hb2,(Blk.new _ _ _).alloc _,Blk.new' sy rfl,hA.keep (Keep.of_below hb2 F),hB.keep (Keep.of_below hb2 F),hC.keep (Keep.of_below hb2 G),hD.keep (Keep.of_below hb2 G)⟩
 have HSR:=qh ze2;clear hd hb hA hB hC hD hn hm
 go_enter Tryz.func11, Tryz.ntmps11
 go_wp2;obtain⟨h1,hh1⟩:=ex9 (w.heap.size);obtain⟨h2,hh2⟩:=ex9 (w.heap.size+1);obtain⟨W1,hW1⟩:=ex9 (((w.alloc (.cells #[.slice A n a,.slice B m b] 26)).alloc (.cells #[.slice C n c,.slice D m d] 26)));have HX:=qh (HW.out W1 hW1);rw[←hW1];have HX2:Hid (Blk W1 h1 26 [.slice A n a,.slice B m b]∧Blk W1 h2 26 [.slice C n c,.slice D m d]):=by subst hh1 hh2;exact⟨HX.out.2.1,HX.out.2.2.1⟩
 rw[←hh2,←hh1];have HBW:Hid (∀W,Below W1.heap.size W1 W→Below w.heap.size w W):=fun W hW=>HX.out.1.trans (hW.mono HX.out.1.size)
 clear HW hW1 hh2 hh1
 go_loopg [7] n (fun kk q wr=>∃j:Nat,j≤n∧kk=n-j∧q=.int .i64 (j:Int)∧Hid (Below W1.heap.size W1 wr))
 case atStart=>exact⟨0,by omega,by omega,rfl,qh (Below.refl _ _)⟩
 case round =>
  obtain⟨j,hj,hk,rfl,HR⟩:=hrel;obtain⟨KO,hKO⟩:=ex9 (gk);have f1:wr.cell? ⟨h1,0,none⟩=some (.slice A n a):=(HX2.out.1.below HR.out HX2.out.1.lt).cell 0;have f2:wr.cell? ⟨h2,0,none⟩=some (.slice C n c):=(HX2.out.2.below HR.out HX2.out.2.lt).cell 0
  rcases Nat.eq_or_lt_of_le hj with rfl|hlt
  · have hnl:¬(j:Int)<(j:Int):=om
    clear hk hj;have f3:wr.cell? ⟨h1,1,none⟩=some (.slice B m b):=(HX2.out.1.below HR.out HX2.out.1.lt).cell 1;have f4:wr.cell? ⟨h2,1,none⟩=some (.slice D m d):=(HX2.out.2.below HR.out HX2.out.2.lt).cell 1
    go_wp2_with (go_at_call 33;(refine(HBS.out B D m b d rfl _ (HX.out.2.2.2.2.1.keep (Keep.of_below HR.out F)) (HX.out.2.2.2.2.2.2.keep (Keep.of_below HR.out G))).mono ?_);rintro e w2 ⟨rfl,hB2⟩)
    go_ret;exact⟨rfl,HBW.out _ (HR.out.trans (hB2.mono HR.out.size))⟩
  · have hlt2:(j:Int)<(n:Int):=om
    have hjl:j<ds.length:=by have:=HN.out;omega
    obtain⟨b1,o1,sp,rfl,hb1,x1,k1⟩:=zex (HX.out.2.2.2.1.keep (Keep.of_below HR.out F)) j hjl;obtain⟨b2,o2,tp,rfl,hb2,x2,k2⟩:=zex (HX.out.2.2.2.2.2.1.keep (Keep.of_below HR.out G)) j hjl;have HEj:=qh (HDS.out ds[j] (List.getElem_mem _));generalize ds[j]=E at *;have HK:Hid (DcIn F wr E sp∧DcIn G wr E tp):=⟨k1,k2⟩;have HX':Hid (wr.rangeAt b1 (o1+j*9) (dcC E sp)∧wr.rangeAt b2 (o2+j*9) (dcC E tp)):=⟨x1,x2⟩;have HCO:Hid ((∀v∈dcC E sp,v.oneCell'=true)∧(∀v∈dcC E tp,v.oneCell'=true)):=⟨zby _ _,zby _ _⟩;have HCL:Hid ((dcC E sp).length=9∧(dcC E tp).length=9):=⟨rfl,rfl⟩;clear k1 k2 x1 x2;obtain⟨CA,hCA⟩:=ex9 (dcC E sp);obtain⟨CB,hCB⟩:=ex9 (dcC E tp);rw[←hCA,←hCB]at HX' HCO HCL;have HCC:Hid (CA=dcC E sp∧CB=dcC E tp):=⟨hCA,hCB⟩;clear hCA hCB
    go_upto_region 6 with fail
    have hT:Below wr.heap.size wr wr.drew:=Below.drew (Below.refl _ _);have hf:h1<wr.heap.size∧h2<wr.heap.size:=⟨Nat.lt_of_lt_of_le HX2.out.1.lt HR.out.size,Nat.lt_of_lt_of_le HX2.out.2.lt HR.out.size⟩;refine kgo kr 13 (fun W=>Below wr.heap.size wr W) hT (fun _ _ _ _ _ h=>h) ?_;refine kp 0 (.pointer (some ⟨h1,0,none⟩)) rfl kr (fun _=>kr) ?_;refine kl 1 (.slice (some ⟨b1,o1,none⟩) n a) rfl kr (fun w' hw'=>zco (t:=23) (x:=.tmp 25) rr kr (fun _=>kr) ((World.cell?_of_block (a:=⟨h1,0,none⟩) (hw'.block h1 hf.1)).trans f1)) ?_;refine kp 2 (.int .i64 j) rfl kr (fun _=>kr) ?_;refine kp 3 (.pointer (some ⟨b1,o1+j*9,none⟩)) rfl kr (fun _=>zbh (t:=23) (x:=.tmp 26) (y:=.tmp 27) (g:=b1) (off:=o1) (n:=n) (c:=a) (p:=j) rr kr kr hlt Tryz.underlying23 szDm) ?_;refine kl 4 (.agg CA.toArray) rfl kr (fun w' hw'=>zak rfl kr (run_loadAt_mid w' b1 (o1+j*9) 45 CA _ (fun q v hv=>(World.cell?_of_block (a:=⟨b1,o1+j*9+q,none⟩) (hw'.block b1 hb1)).trans (HX'.out.1 q v hv)) Tryz.underlying45 rfl (by rw[HCL.out.1];exact hdDc))) ?_;refine kp 5 (.pointer (some ⟨h2,0,none⟩)) rfl kr (fun _=>kr) ?_;refine kl 6 (.slice (some ⟨b2,o2,none⟩) n c) rfl kr (fun w' hw'=>zco (t:=23) (x:=.tmp 30) rr kr (fun _=>kr) ((World.cell?_of_block (a:=⟨h2,0,none⟩) (hw'.block h2 hf.2)).trans f2)) ?_;refine kp 7 (.int .i64 j) rfl kr (fun _=>kr) ?_;refine kp 8 (.pointer (some ⟨b2,o2+j*9,none⟩)) rfl kr (fun _=>zbh (t:=23) (x:=.tmp 31) (y:=.tmp 32) (g:=b2) (off:=o2) (n:=n) (c:=c) (p:=j) rr kr kr hlt Tryz.underlying23 szDm) ?_;refine kl 9 (.agg CB.toArray) rfl kr (fun w' hw'=>zak rfl kr (run_loadAt_mid w' b2 (o2+j*9) 45 CB _ (fun q v hv=>(World.cell?_of_block (a:=⟨b2,o2+j*9+q,none⟩) (hw'.block b2 hb2)).trans (HX'.out.2 q v hv)) Tryz.underlying45 rfl (by rw[HCL.out.2];exact hdDc))) ?_;intro q8 q9;clear q8 q9;refine AnyK.two_new 10 11 12 13 (d1:=8) (d2:=9) (e1:=29) (e2:=34) (by decide) 45 (dcC zDc pl0) CA CB rfl rfl rfl (fun _ _=>by kernel_rfl) rfl rfl rfl (fun _ _=>by kernel_rfl) rfl rfl rfl rfl rfl rfl rfl rfl (fun _ _=>by kernel_rfl) (fun _ _=>by kernel_rfl) (fun _ _=>by kernel_rfl) (fun _ _=>by kernel_rfl) kr kr kr kr kr kr hdDc HCO.out.1 HCL.out.1 HCO.out.2 HCL.out.2 (fun W hW=>hT.trans hW) ?_;intro g1 g2 w8 hg1 hg2 hk1 hk2 hB8;rw[HCC.out.1]at hk1;rw[HCC.out.2]at hk2;have H0:Hid (Blk w8 g1 45 (dcC E sp)∧Blk w8 g2 45 (dcC E tp)∧Below wr.heap.size wr w8):=⟨hk1,hk2,hT.trans hB8⟩;clear hk1 hk2 hB8 hT HX' HCO HCL f1 f2;obtain⟨kd,⟨nm,na⟩,⟨vo,vn,vx,va,vl⟩,pls⟩:=E;have c0s:w8.cell? ⟨g1,0,none⟩=some (.string kd):=H0.out.1.cell 0;have c0t:w8.cell? ⟨g2,0,none⟩=some (.string kd):=H0.out.2.1.cell 0;have c1s:w8.cell? ⟨g1,1,none⟩=some (.string nm):=H0.out.1.cell 1;have c1t:w8.cell? ⟨g2,1,none⟩=some (.string nm):=H0.out.2.1.cell 1;have c2s:w8.cell? ⟨g1,2,none⟩=some (.int .i64 na):=H0.out.1.cell 2;have c2t:w8.cell? ⟨g2,2,none⟩=some (.int .i64 na):=H0.out.2.1.cell 2
    go_wp2_with (first
     | (go_at_call 32;have _:=H1;(refine(zce HEj.out.1 (F:=F) (G:=G) _ _ _ _ _ _ _ _ _ rfl _ (HK.out.1.1.keep (Keep.of_below H1.out.2.2 F)) (HK.out.2.1.keep (Keep.of_below H1.out.2.2 G))).mono ?_);rintro e v2 ⟨rfl,hB1⟩;have H2:Hid (Blk v2 g1 45 (dcC ⟨kd,⟨nm,na⟩,.mk vo vn vx va vl,pls⟩ sp)∧Blk v2 g2 45 (dcC ⟨kd,⟨nm,na⟩,.mk vo vn vx va vl,pls⟩ tp)∧Below wr.heap.size wr v2):=⟨H1.out.1.below hB1 H1.out.1.lt,H1.out.2.1.below hB1 H1.out.2.1.lt,H1.out.2.2.trans (hB1.mono H1.out.2.2.size)⟩;have d8s:v2.cell? ⟨g1,8,none⟩=some (.slice sp.2.1 pls.length sp.2.2):=H2.out.1.cell 8;have d8t:v2.cell? ⟨g2,8,none⟩=some (.slice tp.2.1 pls.length tp.2.2):=H2.out.2.1.cell 8;clear hB1)
     | (go_at_call 31;(refine(HSR.out ⟨nm,na⟩ _).mono ?_);rintro e v1 ⟨rfl,hB0⟩;have H1:Hid (Blk v1 g1 45 (dcC ⟨kd,⟨nm,na⟩,.mk vo vn vx va vl,pls⟩ sp)∧Blk v1 g2 45 (dcC ⟨kd,⟨nm,na⟩,.mk vo vn vx va vl,pls⟩ tp)∧Below wr.heap.size wr v1):=⟨H0.out.1.below hB0 H0.out.1.lt,H0.out.2.1.below hB0 H0.out.2.1.lt,H0.out.2.2.trans (hB0.mono H0.out.2.2.size)⟩;have d3s:v1.cell? ⟨g1,3,none⟩=some (.string vo):=H1.out.1.cell 3;have d3t:v1.cell? ⟨g2,3,none⟩=some (.string vo):=H1.out.2.1.cell 3;have d4s:v1.cell? ⟨g1,4,none⟩=some (.int .i64 vn):=H1.out.1.cell 4;have d4t:v1.cell? ⟨g2,4,none⟩=some (.int .i64 vn):=H1.out.2.1.cell 4;have d5s:v1.cell? ⟨g1,5,none⟩=some (.string vx):=H1.out.1.cell 5;have d5t:v1.cell? ⟨g2,5,none⟩=some (.string vx):=H1.out.2.1.cell 5;have d6s:v1.cell? ⟨g1,6,none⟩=some (.int .i64 va):=H1.out.1.cell 6;have d6t:v1.cell? ⟨g2,6,none⟩=some (.int .i64 va):=H1.out.2.1.cell 6;have d7s:v1.cell? ⟨g1,7,none⟩=some (.slice sp.1.1 vl.length sp.1.2):=H1.out.1.cell 7;have d7t:v1.cell? ⟨g2,7,none⟩=some (.slice tp.1.1 vl.length tp.1.2):=H1.out.2.1.cell 7;clear hB0))
    have HPL:=qh HEj.out.2;have HKP:Hid (PlsIn F v2 sp.2.1 pls∧PlsIn G v2 tp.2.1 pls):=⟨HK.out.1.2.keep (Keep.of_below H2.out.2.2 F),HK.out.2.2.keep (Keep.of_below H2.out.2.2 G)⟩;have hp8:pls.length≤140737488355328:=HPL.out.1;generalize hu:pls.length=u at *;have HU:=qh hu;clear hu
    go_loopg [10] u (fun kk q ws=>∃k:Nat,k≤u∧kk=u-k∧q=.int .i64 (k:Int)∧Hid (Below v2.heap.size v2 ws))
    case atStart=>exact⟨0,by omega,by omega,rfl,qh (Below.refl _ _)⟩
    case round =>
     obtain⟨k,hk',hkk,rfl,HS⟩:=hrel
     rcases Nat.eq_or_lt_of_le hk' with rfl|hkl
     · have hnl:¬(k:Int)<(k:Int):=om
       have e8s:wr.cell? ⟨g1,8,none⟩=some (.slice sp.2.1 k sp.2.2):=by have:=(H2.out.1.below HS.out H2.out.1.lt).cell 8;rw[this];show some (Value.slice _ pls.length _)=_;rw[HU.out]
       have e8t:wr.cell? ⟨g2,8,none⟩=some (.slice tp.2.1 k tp.2.2):=by have:=(H2.out.2.1.below HS.out H2.out.2.1.lt).cell 8;rw[this];show some (Value.slice _ pls.length _)=_;rw[HU.out]
       clear hkk hk';go_wp2;go_roundg (KO-1)
       case measure=>omega
       case rel=>exact⟨j+1,by omega,by omega,by simp,qh ((HR.out.trans (H2.out.2.2.mono HR.out.size)).trans (HS.out.mono (Nat.le_trans HR.out.size H2.out.2.2.size)))⟩
     · have hkl2:(k:Int)<(u:Int):=om
       have hkp:k<pls.length:=by have:=HU.out;omega
       obtain⟨b3,o3,sq,hq3,hb3,x3,k3⟩:=zet (HKP.out.1.keep (Keep.of_below HS.out F)) k hkp;obtain⟨b4,o4,tq,hq4,hb4,x4,k4⟩:=zet (HKP.out.2.keep (Keep.of_below HS.out G)) k hkp;have HEp:=qh (HPL.out.2 pls[k] (List.getElem_mem _))
       have HE8:Hid (Blk wr g1 45 [.string kd,.string nm,.int .i64 na,.string vo,.int .i64 vn,.string vx,.int .i64 va,.slice sp.1.1 vl.length sp.1.2,.slice (some ⟨b3,o3,none⟩) u sp.2.2]∧Blk wr g2 45 [.string kd,.string nm,.int .i64 na,.string vo,.int .i64 vn,.string vx,.int .i64 va,.slice tp.1.1 vl.length tp.1.2,.slice (some ⟨b4,o4,none⟩) u tp.2.2]):=by
        have y1:=H2.out.1.below HS.out H2.out.1.lt;have y2:=H2.out.2.1.below HS.out H2.out.2.1.lt;simp only[dcC,exC,Ex.op,Ex.num,Ex.text,Ex.at_,Ex.args,List.cons_append,List.nil_append,HU.out,hq3,hq4]at y1 y2;exact⟨y1,y2⟩
       have X3:Hid (wr.rangeAt b3 (o3+k*12) (plC pls[k] sq)∧wr.rangeAt b4 (o4+k*12) (plC pls[k] tq)∧b3<wr.heap.size∧b4<wr.heap.size):=⟨x3,x4,hb3,hb4⟩;have K3:Hid (PlIn F wr pls[k] sq∧PlIn G wr pls[k] tq):=⟨k3,k4⟩;clear x3 x4 k3 k4 hq3 hq4;generalize pls[k]=L at *;obtain⟨⟨pn,pa⟩,⟨dlo,dn,dx,da,dl⟩,⟨fo,fnn,fx,fa,fl⟩⟩:=L;have l3:=X3.out.2.2.1;have l4:=X3.out.2.2.2
       have HLD:Hid (∀W,Below wr.heap.size wr W→(W.cell? ⟨g1,8,none⟩=some (.slice (some ⟨b3,o3,none⟩) u sp.2.2)∧W.cell? ⟨g2,8,none⟩=some (.slice (some ⟨b4,o4,none⟩) u tp.2.2))∧(W.rangeAt b3 (o3+k*12) [.string pn,.int .i64 pa]∧W.rangeAt b4 (o4+k*12) [.string pn,.int .i64 pa])∧(W.rangeAt b3 (o3+k*12+2) [.string dlo,.int .i64 dn,.string dx,.int .i64 da,.slice sq.1.1 dl.length sq.1.2]∧W.rangeAt b4 (o4+k*12+2) [.string dlo,.int .i64 dn,.string dx,.int .i64 da,.slice tq.1.1 dl.length tq.1.2])∧(W.rangeAt b3 (o3+k*12+7) [.string fo,.int .i64 fnn,.string fx,.int .i64 fa,.slice sq.2.1 fl.length sq.2.2]∧W.rangeAt b4 (o4+k*12+7) [.string fo,.int .i64 fnn,.string fx,.int .i64 fa,.slice tq.2.1 fl.length tq.2.2])):=fun W hW =>
        ⟨⟨(HE8.out.1.below hW HE8.out.1.lt).cell 8,(HE8.out.2.below hW HE8.out.2.lt).cell 8⟩,⟨zct (zcu X3.out.1 X3.out.2.2.1 hW) 0 2 rr,zct (zcu X3.out.2.1 X3.out.2.2.2 hW) 0 2 rr⟩,⟨zct (zcu X3.out.1 X3.out.2.2.1 hW) 2 5 rr,zct (zcu X3.out.2.1 X3.out.2.2.2 hW) 2 5 rr⟩,⟨zct (zcu X3.out.1 X3.out.2.2.1 hW) 7 5 rr,zct (zcu X3.out.2.1 X3.out.2.2.2 hW) 7 5 rr⟩⟩
       have e8s:=(HLD.out wr (Below.refl _ _)).1.1;have e8t:=(HLD.out wr (Below.refl _ _)).1.2
       go_upto_region 12 with fail
       have hT:Below wr.heap.size wr wr.drew:=Below.drew (Below.refl _ _);refine zj8 kr 13 (fun W=>Below wr.heap.size wr W) ?_;refine AnyK.pureW 0 (v:=.pointer (some ⟨g1,8,none⟩)) rfl kr (fun _ _ _ h=>h) kr (fun _=>kr) (fun _=>hT) ?_;refine AnyK.loadP 1 [3,4,5,13] (v:=.slice (some ⟨b3,o3,none⟩) u sp.2.2) rfl kr kr (fun _ _ _ h=>h) kr (fun w' hw'=>zco (t:=43) (x:=.tmp 74) rr kr (fun _=>kr) (HLD.out w' hw').1.1) hT ?_;refine AnyK.pureW 2 (v:=.int .i64 k) rfl kr (fun _ _ _ h=>h) kr (fun _=>kr) (fun _=>hT) ?_;refine AnyK.pureW 3 (v:=.pointer (some ⟨b3,o3+k*12,none⟩)) rfl kr (fun _ _ _ h=>h) kr (fun _=>zbh (t:=43) (x:=.tmp 75) (y:=.tmp 76) (g:=b3) (off:=o3) (n:=u) (c:=sp.2.2) (p:=k) rr kr kr hkl Tryz.underlying43 szPm) (fun _=>hT) ?_;refine AnyK.pureW 4 (v:=.pointer (some ⟨b3,o3+k*12,none⟩)) rfl kr (fun _ _ _ h=>h) kr (fun _=>kr) (fun _=>hT) ?_;refine AnyK.loadW 5 (v:=.agg ([.string pn,.int .i64 pa]:List Value).toArray) rfl kr kr kr (fun _ _ _ h=>h) kr (fun w' hw'=>zak rfl kr (run_loadAt_mid w' b3 (o3+k*12) 36 [.string pn,.int .i64 pa] _ (HLD.out w' hw').2.1.1 Tryz.underlying36 rfl hdRf)) hT ?_;refine AnyK.pureW 6 (v:=.pointer (some ⟨g2,8,none⟩)) rfl kr (fun _ _ _ h=>h) kr (fun _=>kr) (fun _=>hT) ?_;refine AnyK.loadP 7 [9,10,11,13] (v:=.slice (some ⟨b4,o4,none⟩) u tp.2.2) rfl kr kr (fun _ _ _ h=>h) kr (fun w' hw'=>zco (t:=43) (x:=.tmp 80) rr kr (fun _=>kr) (HLD.out w' hw').1.2) hT ?_;refine AnyK.pureW 8 (v:=.int .i64 k) rfl kr (fun _ _ _ h=>h) kr (fun _=>kr) (fun _=>hT) ?_;refine AnyK.pureW 9 (v:=.pointer (some ⟨b4,o4+k*12,none⟩)) rfl kr (fun _ _ _ h=>h) kr (fun _=>zbh (t:=43) (x:=.tmp 81) (y:=.tmp 82) (g:=b4) (off:=o4) (n:=u) (c:=tp.2.2) (p:=k) rr kr kr hkl Tryz.underlying43 szPm) (fun _=>hT) ?_;refine AnyK.pureW 10 (v:=.pointer (some ⟨b4,o4+k*12,none⟩)) rfl kr (fun _ _ _ h=>h) kr (fun _=>kr) (fun _=>hT) ?_;refine AnyK.loadW 11 (v:=.agg ([.string pn,.int .i64 pa]:List Value).toArray) rfl kr kr kr (fun _ _ _ h=>h) kr (fun w' hw'=>zak rfl kr (run_loadAt_mid w' b4 (o4+k*12) 36 [.string pn,.int .i64 pa] _ (HLD.out w' hw').2.1.2 Tryz.underlying36 rfl hdRf)) hT ?_;refine AnyK.pureW 12 (v:=.bool true) rfl kr (fun _ _ _ h=>h) kr (fun _=>kr) (fun _=>hT) ?_;refine AnyK.enterW 13 (d:=some 87) (f:=31) (args:=#[.agg ([.string pn,.int .i64 pa]:List Value).toArray,.agg ([.string pn,.int .i64 pa]:List Value).toArray,.bool true]) rfl rfl kr kr kr ((HSR.out ⟨pn,pa⟩ _).mono ?_);rintro e y1 ⟨rfl,hB1⟩;have Y1:Hid (Below wr.heap.size wr y1):=qh (hT.trans (hB1.mono hT.size));refine⟨_,rfl,fun _=>Y1.out,?_⟩;refine AnyK.valW 14 (v:=.bool false) rfl kr kr kr (fun _=>Y1.out) ?_;refine AnyK.valW 15 (v:=.bool false) rfl kr kr kr (fun _=>Y1.out) ?_;refine AnyK.turn (k':=29) (T':=fun W=>Below wr.heap.size wr W) _ _ _ _ kr ?_;refine AnyK.pureW 16 (v:=.pointer (some ⟨g1,8,none⟩)) rfl kr (fun _ _ _ h=>h) kr (fun _=>kr) (fun _=>Y1.out) ?_;refine AnyK.loadP 17 [19,20,21,29] (v:=.slice (some ⟨b3,o3,none⟩) u sp.2.2) rfl kr kr (fun _ _ _ h=>h) kr (fun w' hw'=>zco (t:=43) (x:=.tmp 90) rr kr (fun _=>kr) (HLD.out w' hw').1.1) Y1.out ?_;refine AnyK.pureW 18 (v:=.int .i64 k) rfl kr (fun _ _ _ h=>h) kr (fun _=>kr) (fun _=>Y1.out) ?_;refine AnyK.pureW 19 (v:=.pointer (some ⟨b3,o3+k*12,none⟩)) rfl kr (fun _ _ _ h=>h) kr (fun _=>zbh (t:=43) (x:=.tmp 91) (y:=.tmp 92) (g:=b3) (off:=o3) (n:=u) (c:=sp.2.2) (p:=k) rr kr kr hkl Tryz.underlying43 szPm) (fun _=>Y1.out) ?_;refine AnyK.pureW 20 (v:=.pointer (some ⟨b3,o3+k*12+2,none⟩)) rfl kr (fun _ _ _ h=>h) kr (fun _=>kr) (fun _=>Y1.out) ?_;refine AnyK.loadW 21 (v:=.agg ([.string dlo,.int .i64 dn,.string dx,.int .i64 da,.slice sq.1.1 dl.length sq.1.2]:List Value).toArray) rfl kr kr kr (fun _ _ _ h=>h) kr (fun w' hw'=>zak rfl kr (run_loadAt_mid w' b3 (o3+k*12+2) 39 [.string dlo,.int .i64 dn,.string dx,.int .i64 da,.slice sq.1.1 dl.length sq.1.2] _ (HLD.out w' hw').2.2.1.1 Tryz.underlying39 rfl hdEx)) Y1.out ?_;refine AnyK.pureW 22 (v:=.pointer (some ⟨g2,8,none⟩)) rfl kr (fun _ _ _ h=>h) kr (fun _=>kr) (fun _=>Y1.out) ?_;refine AnyK.loadP 23 [25,26,27,29] (v:=.slice (some ⟨b4,o4,none⟩) u tp.2.2) rfl kr kr (fun _ _ _ h=>h) kr (fun w' hw'=>zco (t:=43) (x:=.tmp 96) rr kr (fun _=>kr) (HLD.out w' hw').1.2) Y1.out ?_;refine AnyK.pureW 24 (v:=.int .i64 k) rfl kr (fun _ _ _ h=>h) kr (fun _=>kr) (fun _=>Y1.out) ?_;refine AnyK.pureW 25 (v:=.pointer (some ⟨b4,o4+k*12,none⟩)) rfl kr (fun _ _ _ h=>h) kr (fun _=>zbh (t:=43) (x:=.tmp 97) (y:=.tmp 98) (g:=b4) (off:=o4) (n:=u) (c:=tp.2.2) (p:=k) rr kr kr hkl Tryz.underlying43 szPm) (fun _=>Y1.out) ?_;refine AnyK.pureW 26 (v:=.pointer (some ⟨b4,o4+k*12+2,none⟩)) rfl kr (fun _ _ _ h=>h) kr (fun _=>kr) (fun _=>Y1.out) ?_;refine AnyK.loadW 27 (v:=.agg ([.string dlo,.int .i64 dn,.string dx,.int .i64 da,.slice tq.1.1 dl.length tq.1.2]:List Value).toArray) rfl kr kr kr (fun _ _ _ h=>h) kr (fun w' hw'=>zak rfl kr (run_loadAt_mid w' b4 (o4+k*12+2) 39 [.string dlo,.int .i64 dn,.string dx,.int .i64 da,.slice tq.1.1 dl.length tq.1.2] _ (HLD.out w' hw').2.2.1.2 Tryz.underlying39 rfl hdEx)) Y1.out ?_;refine AnyK.pureW 28 (v:=.bool true) rfl kr (fun _ _ _ h=>h) kr (fun _=>kr) (fun _=>Y1.out) ?_;refine AnyK.enterW 29 (d:=some 103) (f:=32) (args:=#[.agg ([.string dlo,.int .i64 dn,.string dx,.int .i64 da,.slice sq.1.1 dl.length sq.1.2]:List Value).toArray,.agg ([.string dlo,.int .i64 dn,.string dx,.int .i64 da,.slice tq.1.1 dl.length tq.1.2]:List Value).toArray,.bool true]) rfl rfl kr kr kr ((zce HEp.out.1 (F:=F) (G:=G) _ _ _ _ _ _ _ _ _ rfl _ (K3.out.1.1.keep (Keep.of_below Y1.out F)) (K3.out.2.1.keep (Keep.of_below Y1.out G))).mono ?_);rintro e y2 ⟨rfl,hB2⟩;have Y2:Hid (Below wr.heap.size wr y2):=qtr Y1 hB2;refine⟨_,rfl,fun _=>Y2.out,?_⟩;refine AnyK.valW 30 (v:=.bool false) rfl kr kr kr (fun _=>Y2.out) ?_;refine AnyK.valW 31 (v:=.bool false) rfl kr kr kr (fun _=>Y2.out) ?_;refine AnyK.valW 32 (v:=.bool false) rfl kr kr kr (fun _=>Y2.out) ?_;refine AnyK.turn (k':=46) (T':=fun W=>Below wr.heap.size wr W) _ _ _ _ kr ?_;refine AnyK.pureW 33 (v:=.pointer (some ⟨g1,8,none⟩)) rfl kr (fun _ _ _ h=>h) kr (fun _=>kr) (fun _=>Y2.out) ?_;refine AnyK.loadP 34 [36,37,38,46] (v:=.slice (some ⟨b3,o3,none⟩) u sp.2.2) rfl kr kr (fun _ _ _ h=>h) kr (fun w' hw'=>zco (t:=43) (x:=.tmp 107) rr kr (fun _=>kr) (HLD.out w' hw').1.1) Y2.out ?_;refine AnyK.pureW 35 (v:=.int .i64 k) rfl kr (fun _ _ _ h=>h) kr (fun _=>kr) (fun _=>Y2.out) ?_;refine AnyK.pureW 36 (v:=.pointer (some ⟨b3,o3+k*12,none⟩)) rfl kr (fun _ _ _ h=>h) kr (fun _=>zbh (t:=43) (x:=.tmp 108) (y:=.tmp 109) (g:=b3) (off:=o3) (n:=u) (c:=sp.2.2) (p:=k) rr kr kr hkl Tryz.underlying43 szPm) (fun _=>Y2.out) ?_;refine AnyK.pureW 37 (v:=.pointer (some ⟨b3,o3+k*12+7,none⟩)) rfl kr (fun _ _ _ h=>h) kr (fun _=>kr) (fun _=>Y2.out) ?_;refine AnyK.loadW 38 (v:=.agg ([.string fo,.int .i64 fnn,.string fx,.int .i64 fa,.slice sq.2.1 fl.length sq.2.2]:List Value).toArray) rfl kr kr kr (fun _ _ _ h=>h) kr (fun w' hw'=>zak rfl kr (run_loadAt_mid w' b3 (o3+k*12+7) 39 [.string fo,.int .i64 fnn,.string fx,.int .i64 fa,.slice sq.2.1 fl.length sq.2.2] _ (HLD.out w' hw').2.2.2.1 Tryz.underlying39 rfl hdEx)) Y2.out ?_;refine AnyK.pureW 39 (v:=.pointer (some ⟨g2,8,none⟩)) rfl kr (fun _ _ _ h=>h) kr (fun _=>kr) (fun _=>Y2.out) ?_;refine AnyK.loadP 40 [42,43,44,46] (v:=.slice (some ⟨b4,o4,none⟩) u tp.2.2) rfl kr kr (fun _ _ _ h=>h) kr (fun w' hw'=>zco (t:=43) (x:=.tmp 113) rr kr (fun _=>kr) (HLD.out w' hw').1.2) Y2.out ?_;refine AnyK.pureW 41 (v:=.int .i64 k) rfl kr (fun _ _ _ h=>h) kr (fun _=>kr) (fun _=>Y2.out) ?_;refine AnyK.pureW 42 (v:=.pointer (some ⟨b4,o4+k*12,none⟩)) rfl kr (fun _ _ _ h=>h) kr (fun _=>zbh (t:=43) (x:=.tmp 114) (y:=.tmp 115) (g:=b4) (off:=o4) (n:=u) (c:=tp.2.2) (p:=k) rr kr kr hkl Tryz.underlying43 szPm) (fun _=>Y2.out) ?_;refine AnyK.pureW 43 (v:=.pointer (some ⟨b4,o4+k*12+7,none⟩)) rfl kr (fun _ _ _ h=>h) kr (fun _=>kr) (fun _=>Y2.out) ?_;refine AnyK.loadW 44 (v:=.agg ([.string fo,.int .i64 fnn,.string fx,.int .i64 fa,.slice tq.2.1 fl.length tq.2.2]:List Value).toArray) rfl kr kr kr (fun _ _ _ h=>h) kr (fun w' hw'=>zak rfl kr (run_loadAt_mid w' b4 (o4+k*12+7) 39 [.string fo,.int .i64 fnn,.string fx,.int .i64 fa,.slice tq.2.1 fl.length tq.2.2] _ (HLD.out w' hw').2.2.2.2 Tryz.underlying39 rfl hdEx)) Y2.out ?_;refine AnyK.pureW 45 (v:=.bool true) rfl kr (fun _ _ _ h=>h) kr (fun _=>kr) (fun _=>Y2.out) ?_;refine AnyK.enterW 46 (d:=some 120) (f:=32) (args:=#[.agg ([.string fo,.int .i64 fnn,.string fx,.int .i64 fa,.slice sq.2.1 fl.length sq.2.2]:List Value).toArray,.agg ([.string fo,.int .i64 fnn,.string fx,.int .i64 fa,.slice tq.2.1 fl.length tq.2.2]:List Value).toArray,.bool true]) rfl rfl kr kr kr ((zce HEp.out.2 (F:=F) (G:=G) _ _ _ _ _ _ _ _ _ rfl _ (K3.out.1.2.keep (Keep.of_below Y2.out F)) (K3.out.2.2.keep (Keep.of_below Y2.out G))).mono ?_);rintro e y3 ⟨rfl,hB3⟩;have Y3:Hid (Below wr.heap.size wr y3):=qtr Y2 hB3;refine⟨_,rfl,fun _=>Y3.out,?_⟩;refine AnyK.valW 47 (v:=.bool false) rfl kr kr kr (fun _=>Y3.out) ?_;refine AnyK.valW 48 (v:=.bool false) rfl kr kr kr (fun _=>Y3.out) ?_;refine AnyK.done kr ?_;clear hT;simp only[List.getElem_toArray,List.getElem_cons_zero,List.getElem_cons_succ,Act.put,List.setIfInBounds_toArray,List.set_cons_succ,List.set_cons_zero]
       repeat (first|go_values|go_skip|go_guarded|go_step|go_upon|go_back)
       go_roundg (gk-1)
       case measure=>omega
       case rel=>exact⟨k+1,by omega,by omega,by simp,qh (HS.out.trans (Y3.out.mono HS.out.size))⟩
end
end
end Go.Proofs.YtafjkbbiaopemaaGreatDoor.Tr
