/- Part of the proof. -/
import Derived.Test.YtafjkbbiaopemaaGreatDoorBax47
set_option linter.all false
set_option maxRecDepth 100000
set_option maxHeartbeats 0
namespace Go.Proofs.YtafjkbbiaopemaaGreatDoor
open Go.RowKit
section
section
variable{P:Program}{ops:Array Oper}{Q:Exit→Act→World→Prop}{md:Region.Mode}{T:World→Prop}{k:Nat}
def AnyFS(P:Program)(md:Region.Mode)(ops:Array Oper)(Q:Exit→Act→World→Prop)(k:Nat)(T:World→Prop)(j:Nat)(d:Tmp)(B:Nat)(ty:TypeId)(Z:List Value)(fuel:Nat)(listed:Array Bool)(a:Act)(R:Option Nat→World→Prop):Prop :=
 ∀st W,R st W→fWorld B ty Z W st→AnyK P md ops Q k T (fFuel fuel st) (fSet listed j st) (fAct a d st) W
variable{j:Nat}{d:Tmp}{B:Nat}{ty:TypeId}{Z:List Value}
theorem AnyF.ofS{fuel:Nat}{listed:Array Bool}{a:Act}{R:World→Prop}(h:AnyFS P md ops Q k T j d B ty Z fuel listed a (fun _=>R)):AnyF P md ops Q k T j d B ty Z fuel listed a R:=h
theorem AnyFS.pure{fuel:Nat}{listed:Array Bool}{a:Act}{R:Option Nat→World→Prop}(i:Nat){oi:Oper}{v:Value}(hi:ops[i]? = some oi)(hij:i≠j)(hd:∀g,takeB md ops (fSet listed j g) k i=true)
 (hQ:∀c a w,Q (.panic c) (a.put oi.dst v) w→Q (.panic c) a w) (hg:oi.guard=none) (hod:oi.dst≠some d) (hy:∀st w,(execOp (fAct a d st).eval oi).run P w=.ok (.value v) w) (hT:∀st W,R st W→T W)
 (h:AnyFS P md ops Q k T j d B ty Z fuel (listed.setIfInBounds i true) (a.put oi.dst v) R):AnyFS P md ops Q k T j d B ty Z (fuel+1) listed a R:=by
 intro st W hR hF;have e:fFuel (fuel+1) st=fFuel fuel st+1:=by cases st <;> rfl
 rw[e];refine AnyK.pure i hi (hd st) hQ hg (hy st) (fun _=>hT st W hR) ?_;rw[zcx _ _ _ hij,zcy _ _ _ _ hod];exact h st W hR hF
theorem AnyFS.call{fuel:Nat}{listed:Array Bool}{a:Act}{R:Option Nat→World→Prop}(i:Nat){d1:Tmp}{f:FuncId}{args:Array Value}{oi oj:Oper}{X:Type}(v:X→Value)(R':X→Option Nat→World→Prop)
 (hi:ops[i]? = some oi) (hid:oi.dst=some d1) (hig:oi.guard=none) (hij:i≠j) (hdd:some d1≠some d) (hirun:∀st w,(execOp (fAct a d st).eval oi).run P w=.ok (.enter f args) w)
 (hj:ops[j]? = some oj) (hjd:oj.dst=some d) (hjg:oj.guard=none) (hjrun:∀(b:Act) w,(execOp b.eval oj).run P w=.ok (.value (.pointer (some ⟨w.heap.size,0,none⟩))) (w.alloc (.cells Z.toArray ty)))
 (hr0:Region.ready md ops listed=[i,j]∨Region.ready md ops listed=[j,i]) (hr1:Region.ready md ops (listed.setIfInBounds j true)=[i])
 (hRa:∀W o,R none W→R (some W.heap.size) (W.alloc o)) (hRB:∀W,R none W→B≤W.heap.size) (hT:∀st W,R st W→T W) (hT':∀x st W,R' x st W→T W)
 (hcall:∀st W,R st W→fWorld B ty Z W st→Calls P f args W fun e w'=>∃x,e=.returned (v x)∧R' x st w'∧Below W.heap.size W w')
 (h:∀x,AnyFS P md ops Q k T j d B ty Z fuel (listed.setIfInBounds i true) (a.put (some d1) (v x)) (R' x)):AnyFS P md ops Q k T j d B ty Z (fuel+1) listed a R:=by
 have some_:∀g W,R (some g) W→B≤g→Blk W g ty Z→AnyK P md ops Q k T (fuel+1) (listed.setIfInBounds j true) (a.put (some d) (.pointer (some ⟨g,0,none⟩))) W:=fun g W hR hg hb=>by
  refine AnyK.one i hi hr1 hig ?_
  unfold Oper.wp
  rw[show(execOp (a.put (some d) (.pointer (some ⟨g,0,none⟩))).eval oi).run P W=_ from hirun (some g) W];refine Calls.mono (hcall (some g) W hR ⟨hg,hb⟩) ?_;rintro e w' ⟨x,rfl,hR',hB⟩;refine⟨fun _=>hT' x (some g) w' hR',?_⟩;rw[hid];have h2:=h x (some g) w' hR' ⟨hg,hb.below hB hb.lt⟩;rw[←zcx _ _ _ hij,←zcy _ _ _ _ hdd]at h2;exact h2
 intro st W hR hF
 cases st with
 | some g=>exact some_ g W hR hF.1 hF.2
 | none =>
  have b1:oi.wp P a W (fun a' w'=>((listed.setIfInBounds i true).getD k true=false→T w')∧AnyK P md ops Q k T (fuel+1) (listed.setIfInBounds i true) a' w') Q:=by
   unfold Oper.wp
   rw[show(execOp a.eval oi).run P W=_ from hirun none W];refine Calls.mono (hcall none W hR trivial) ?_;rintro e w' ⟨x,rfl,hR',hB⟩;refine⟨fun _=>hT' x none w' hR',?_⟩;rw[hid];exact h x none w' hR' trivial
  have b2:oj.wp P a W (fun a' w'=>((listed.setIfInBounds j true).getD k true=false→T w')∧AnyK P md ops Q k T (fuel+1) (listed.setIfInBounds j true) a' w') Q:=by
   unfold Oper.wp
   rw[hjrun];rw[Oper.upon_value,hjd];exact⟨fun _=>hT _ _ (hRa _ _ hR),some_ _ _ (hRa _ _ hR) (hRB _ hR) (Blk.new _ _ _)⟩
  rcases hr0 with hr0|hr0
  · exact AnyK.fork i j hi hj hr0 hig hjg b1 b2
  · exact AnyK.fork j i hj hi hr0 hjg hig b2 b1
theorem AnyFS.fin{fuel:Nat}{listed:Array Bool}{a:Act}{R:Option Nat→World→Prop}{oj:Oper}
 (hj:ops[j]? = some oj) (hjd:oj.dst=some d) (hjg:oj.guard=none) (hjrun:∀(b:Act) w,(execOp b.eval oj).run P w=.ok (.value (.pointer (some ⟨w.heap.size,0,none⟩))) (w.alloc (.cells Z.toArray ty)))
 (hr0:Region.ready md ops listed=[j]) (hRa:∀W o,R none W→R (some W.heap.size) (W.alloc o)) (hRB:∀W,R none W→B≤W.heap.size) (hT:∀st W,R st W→T W)
 (h:∀g W,B≤g→Blk W g ty Z→R (some g) W→AnyK P md ops Q k T fuel (listed.setIfInBounds j true) (a.put (some d) (.pointer (some ⟨g,0,none⟩))) W):AnyFS P md ops Q k T j d B ty Z fuel listed a R:=by
 intro st W hR hF
 cases st with
 | some g=>exact h g W hF.1 hF.2 hR
 | none =>
  refine AnyK.one j hj hr0 hjg ?_
  unfold Oper.wp
  rw[hjrun,Oper.upon_value,hjd];exact⟨fun _=>hT _ _ (hRa _ _ hR),h _ _ (hRB _ hR) (Blk.new _ _ _) (hRa _ _ hR)⟩
end
end
end Go.Proofs.YtafjkbbiaopemaaGreatDoor
namespace Go.Proofs.YtafjkbbiaopemaaGreatDoor.Tr
open Go.RowKit
section
def DcSq(l:List Dc):Prop:=l.length≤2000000∧∀d∈l,ExSq d.value.args∧d.places.length≤2000000∧∀p∈d.places,ExSq p.delay.args∧ExSq p.flags.args
theorem DcSq.sm{l:List Dc}(h:DcSq l):DcSm l:=⟨by have:=h.1;omega,fun d hd=>⟨(h.2 d hd).1.sm,by have:=(h.2 d hd).2.1;omega,fun p hp=>⟨((h.2 d hd).2.2 p hp).1.sm,((h.2 d hd).2.2 p hp).2.sm⟩⟩⟩
theorem zel(F G:Nat→Prop)(w w':World)(e:Pl)(a:(Option Addr × Nat) × (Option Addr × Nat))(hk:Keep F G w w')(h:PlIn F w e a):PlIn G w' e a:=h.keep hk
theorem ze1(F G:Nat→Prop)(w w':World)(e:Dc)(a:(Option Addr × Nat) × (Option Addr × Nat))(hk:Keep F G w w')(h:DcIn F w e a):DcIn G w' e a:=h.keep hk
theorem PlsIn.gr{B n c:Nat}{l:List Pl}{sl:List ((Option Addr × Nat) × (Option Addr × Nat))}{A:Option Addr}{w:World}(h:Gr 80 12 plC PlIn B l sl (.slice A n c) w)(hn:n=l.length):PlsIn (Fr B) w A l :=
 ⟨sl,h.nl,h.rdf hn,fun i e a h1 h2=>(h.ar i e a h1 h2).keep (Fo.keep w)⟩
theorem DcsIn.gr{B n c:Nat}{l:List Dc}{sl:List ((Option Addr × Nat) × (Option Addr × Nat))}{A:Option Addr}{w:World}(h:Gr 45 9 dcC DcIn B l sl (.slice A n c) w)(hn:n=l.length):DcsIn (Fr B) w A l :=
 ⟨sl,h.nl,h.rdf hn,fun i e a h1 h2=>(h.ar i e a h1 h2).keep (Fo.keep w)⟩
def Fst(B:Nat)(st:Option Nat)(k:Nat):Prop:=B≤k∧st≠some k
theorem fst_of{B:Nat}{ty:TypeId}{Z:List Value}{W:World}{st:Option Nat}(h:fWorld B ty Z W st)(hB:B≤W.heap.size)(w':World):Keep (Fr W.heap.size) (Fst B st) w' w' :=
 ⟨lr,fun _ _ _=>rfl,fun k hk _=>⟨by unfold Fr at hk;omega,fun e=>by subst e;have:=h.2.lt;unfold Fr at hk;omega⟩⟩
theorem zk6{B:Nat}(W:World)(o:Obj):Keep (Fst B none) (Fst B (some W.heap.size)) W (W.alloc o) :=
 ⟨by simp,fun k _ hk=>Below.heap_alloc W o k hk,fun k hk hl=>⟨hk.1,fun e=>by injection e with e;omega⟩⟩
theorem znl{B g:Nat}{w w':World}(h:Only w w' g):Keep (Fst B (some g)) (Fst B (some g)) w w':=⟨Nat.le_of_eq h.size.symm,fun k hk hkl=>h.grown.block k hkl (fun e=>hk.2 (by rw[e])),fun _ h _=>h⟩
theorem Ot.keepF{B g:Nat}{w w':World}(h:Ot g w w'):Keep (Fst B (some g)) (Fst B (some g)) w w':=⟨h.1,fun k hk hkl=>h.2 k hkl (fun e=>hk.2 (by rw[e])),fun _ h _=>h⟩
theorem zpm(v:Value):Instr.loadAt 80 v=ldAt 80 v:=rfl
section
variable{w w':World}
attribute [local go_sem ↓] zgm zpm
theorem zp1{F:Nat→Prop}(T:Sr)(hd:DcSq T.decls)(hb:StSq T.body)(D A:Option Addr)(cd ca:Nat)(w:World)(hD:DcsIn F w D T.decls)(hA:BodyIn F w A T.body):
 Calls Tryz.prog 16 #[.agg #[.slice D T.decls.length cd,.slice A T.body.length ca]] w fun e w'=>∃D' cd' A' ca',e=.returned (.agg #[.slice D' T.decls.length cd',.slice A' T.body.length ca'])∧DcsIn (Fr w.heap.size) w' D' (bareT T).decls∧BodyIn (Fr w.heap.size) w' A' (bareT T).body∧Below w.heap.size w w':=by
 obtain⟨ds,bs⟩:=T
 unfold bareT
 dsimp only at *;have HBS:Hid (∀W,Below w.heap.size w W→Calls Tryz.prog 44 #[.slice A bs.length ca] W fun e w'=>∃A' c',e=.returned (.slice A' bs.length c')∧BodyIn (Fr W.heap.size) w' A' (bareSs bs)∧Below W.heap.size W w'):=fun W hW=>zhn hb A _ _ rfl W (hA.keep (Keep.of_below hW F))
 have hn8:ds.length≤2000000:=hd.1;have HDS:=qh hd.2;have HDD:=qh hD;generalize bs.length=m at *;obtain⟨n,hn⟩:=ex9 (ds.length);have HN:=qh hn;rw[←hn]at hn8 ⊢
 have HW:Hid (∀W,W=((w.alloc (.cells #[.slice D n cd,.slice A m ca] 26)).alloc (.cells #[.slice none 0 0,.slice none 0 0] 26)).alloc (.cells #[.slice none 0 0,.slice none 0 0] 26)→Below w.heap.size w W∧Blk W w.heap.size 26 [.slice D n cd,.slice A m ca]∧Blk W (w.heap.size+1) 26 [.slice none 0 0,.slice none 0 0]∧Blk W (w.heap.size+1+1) 26 [.slice none 0 0,.slice none 0 0]∧W.heap.size=w.heap.size+3):=by
  rintro W rfl;exact⟨(((Below.refl _ _).alloc lr _).alloc sy _).alloc (by simp;omega) _,((Blk.new _ _ _).alloc _).alloc _,(Blk.new' sy rfl).alloc _,Blk.new' sy rfl,by simp⟩
 clear hd hb hD hA hn
 go_enter Tryz.func16, Tryz.ntmps16
 go_upto_region 2 with fail
 obtain⟨W1,hW1⟩:=ex9 (((w.alloc (.cells #[.slice D n cd,.slice A m ca] 26)).alloc (.cells #[.slice none 0 0,.slice none 0 0] 26)).alloc (.cells #[.slice none 0 0,.slice none 0 0] 26));have HX:=qh (HW.out W1 hW1);rw[←hW1];obtain⟨gP,hgP⟩:=ex9 (w.heap.size);obtain⟨gR,hgR⟩:=ex9 (gP+1);obtain⟨gO,hgO⟩:=ex9 (gP+1+1);rw[←hgP]at HX ⊢;rw[←hgO,←hgR]at HX ⊢;have HG:Hid (gP=w.heap.size∧gR=gP+1∧gO=gP+1+1):=⟨hgP,hgR,hgO⟩;have HBW:Hid (∀W,Below gP w W→Below w.heap.size w W):=by subst hgP;exact fun W h=>h
 rw[←hgP]at HBS;clear HW hW1 hgP hgR hgO;have c0:W1.cell? ⟨gP,0,none⟩=some (.slice D n cd):=HX.out.2.1.cell 0;go_wp2;clear c0
 go_loopg [12] n (fun kk q wr=>∃(j:Nat) (sl:List ((Option Addr × Nat) × (Option Addr × Nat))) (A1:Option Addr) (c1:Nat),j≤n∧kk=n-j∧q=.int .i64 (j:Int)∧Hid (Below gP w wr)∧Hid (Blk wr gP 26 [.slice D n cd,.slice A m ca])∧Hid (Blk wr gR 26 [.slice none 0 0,.slice none 0 0])∧Hid (Blk wr gO 26 [.slice A1 j c1,.slice none 0 0])∧Hid (Gr 45 9 dcC DcIn (gP+3) ((ds.take j).map bareD) sl (.slice A1 j c1) wr)∧Hid (gP+3≤wr.heap.size))
 case atStart=>exact⟨0,[],none,0,by omega,by omega,rfl,qh HX.out.1,qh HX.out.2.1,qh HX.out.2.2.1,qh HX.out.2.2.2.1,qh Gr.nil,qh (by have:=HX.out.2.2.2.2;have:=HG.out.1;omega)⟩
 case round =>
  obtain⟨j,sl,A1,c1,hj,hk,rfl,HR,HZP,HZ,HO,HGR,HSZ⟩:=hrel;obtain⟨KO,hKO⟩:=ex9 (gk);clear HX;have hg1:gP<gR:=by have:=HG.out;omega
  have hg2:gR<gO:=by have:=HG.out;omega
  have hg3:gO<gP+3:=by have:=HG.out;omega
  have hg4:gP+3≤wr.heap.size:=HSZ.out
  rcases Nat.eq_or_lt_of_le hj with rfl|hlt
  · have hnl:¬(j:Int)<(j:Int):=om
    have HL:Hid (((ds.take j).map bareD).length=j∧ds.take j=ds):=by
     have:=HN.out;exact⟨by rw[List.length_map,List.length_take];omega,tk om⟩
    have p1:wr.cell? ⟨gP,1,none⟩=some (.slice A m ca):=HZP.out.cell 1;clear hk hj
    go_wp2_with (first
     | (go_at_call 44;(refine(HBS.out _ HR.out).mono ?_);rintro e w2 ⟨A7,c7,rfl,hy,hb2⟩;have H2:Hid (Below wr.heap.size wr w2∧BodyIn (Fr wr.heap.size) w2 A7 (bareSs bs)∧Blk w2 gO 26 [.slice A1 j c1,.slice none 0 0]∧Blk w2 gR 26 [.slice none 0 0,.slice none 0 0]):=⟨hb2,hy,HO.out.below hb2 HO.out.lt,HZ.out.below hb2 HZ.out.lt⟩;obtain⟨o0,o1,q0,q1⟩:=Blk.two H2.out.2.2.1;obtain⟨r0,r1,s0,s1⟩:=Blk.two H2.out.2.2.2;have ol:=H2.out.2.2.1.lt;have rl:=H2.out.2.2.2.lt;have hne:¬gR=gO:=om;have hne2:¬gO=gR:=om;clear hy hb2))
    refine bodyPost_ret (res_c rfl _ gR 26 [.slice A1 j c1,.slice A7 m c7] rfl ((((H2.out.2.2.2.far (p:=⟨gO,1,none⟩) (by dsimp only;omega) _).set_ 0 _).set_ 1 _)) _ Tryz.underlying26 rfl hdSr) rfl ⟨A1,c1,A7,c7,rfl,?_,?_,?_⟩
    · have h1:=DcsIn.gr HGR.out HL.out.1.symm
      rw[HL.out.2]at h1
      have hk1:Keep (Fr (gP+3)) (Fr w.heap.size) wr (((w2.setCell ⟨gO,1,none⟩ (.slice A7 m c7)).setCell ⟨gR,0,none⟩ (.slice A1 j c1)).setCell ⟨gR,1,none⟩ (.slice A7 m c7)):=by
       have hw:w.heap.size=gP:=HG.out.1.symm;exact kk2 (kk4 (Keep.of_below H2.out.1 _) (zak (p:=⟨gO,1,none⟩) (by dsimp only;omega) _) (zak (p:=⟨gR,0,none⟩) (by dsimp only;omega) _) (zak (p:=⟨gR,1,none⟩) (by dsimp only;omega) _)) (za0 om)
      exact h1.keep hk1
    · have hk2:Keep (Fr wr.heap.size) (Fr w.heap.size) w2 (((w2.setCell ⟨gO,1,none⟩ (.slice A7 m c7)).setCell ⟨gR,0,none⟩ (.slice A1 j c1)).setCell ⟨gR,1,none⟩ (.slice A7 m c7)):=by
       have hw:w.heap.size=gP:=HG.out.1.symm;exact kk4 (zak (p:=⟨gO,1,none⟩) (by dsimp only;omega) _) (zak (p:=⟨gR,0,none⟩) (by dsimp only;omega) _) (zak (p:=⟨gR,1,none⟩) (by dsimp only;omega) _) (za0 om)
      rw[←zal];exact H2.out.2.1.keep hk2
    · have hw:w.heap.size=gP:=HG.out.1.symm
      exact(((HBW.out _ (HR.out.trans (H2.out.1.mono om))).setCell (by dsimp only;omega) _).setCell (by dsimp only;omega) _).setCell (by dsimp only;omega) _
  · have hlt2:(j:Int)<(n:Int):=om
    have hjl:j<ds.length:=by have:=HN.out;omega
    obtain⟨b1,o1,sp,rfl,hb1,x1,k1⟩:=zc8 (HDD.out.keep (Keep.of_below (HBW.out _ HR.out) F)) j hjl;have HEj:=qh (HDS.out ds[j] (List.getElem_mem _))
    have HS1:Hid ((ds.take (j+1)).map bareD=(ds.take j).map bareD++[bareD ds[j]]):=by
     show _=_
     rw[List.take_add_one,ge9 hjl,List.map_append];rfl
    have HLL:Hid (((ds.take j).map bareD).length=j):=by show _=_;rw[List.length_map,List.length_take];omega
    generalize ds[j]=E at *;have HK:=qh k1;have HCL:=qh (zce E sp);have HCO:=qh (zbq E sp);obtain⟨C,hC⟩:=ex9 (dcC E sp);have HCC:=qh hC;rw[←hC]at x1 HCL HCO;have hld:=run_loadAt_mid wr b1 (o1+j*9) 45 C _ x1 Tryz.underlying45 rfl (by rw[HCL.out];exact hdDc);have hld2:(ldAt 45 (.pointer (some ⟨b1,o1+j*9,none⟩))).run Tryz.prog wr=.ok (.agg C.toArray) wr:=hld;clear hld x1 k1 hC
    go_upto_region 5 with (refine zaa rfl 45 (.tmp 5) (.tmp 15) rfl wr.heap.size C rr rr 45 (dcC zDc pl0) (by exact Blk.new' rfl rfl) (by rw[HCL.out];exact hdDc) HCO.out HCL.out ?_;intro w1 hb1' ho1;have H1:Hid (Below wr.heap.size wr w1∧Blk w1 wr.heap.size 45 C∧w1.heap.size=wr.heap.size+1):=⟨ho1.below ((Below.refl _ wr).alloc lr _) lr sy,hb1',by rw[ho1.size];simp⟩;clear hb1' ho1)
    obtain⟨G,hG⟩:=ex9 (wr.heap.size);have H1:Hid (Below wr.heap.size wr w1∧Blk w1 G 45 (dcC E sp)∧w1.heap.size=G+1):=by subst hG;rw[←HCC.out];exact H1.out
    rw[←hG];have HGG:Hid (G=wr.heap.size):=hG;clear hG hld2 HCL HCO HCC;obtain⟨kd,⟨nm,na⟩,⟨vo,vn,vx,va,vl⟩,pls⟩:=E;have HBR:=qh zds;have Q4:Hid (∀W,Below wr.heap.size wr W→Calls Tryz.prog 43 #[.agg #[.string vo,.int .i64 vn,.string vx,.int .i64 va,.slice sp.1.1 vl.length sp.1.2]] W fun e w'=>∃A' c',e=.returned (.agg #[.string vo,.int .i64 vn,.string vx,.int .i64 0,.slice A' vl.length c'])∧ArgsIn (Fr W.heap.size) w' A' (bareL vl)∧Below W.heap.size W w'):=fun W hW=>zbx HEj.out.1 _ _ _ _ _ _ _ rfl W (HK.out.1.keep (Keep.of_below hW F))
    have HPL:Hid (PlsIn F wr sp.2.1 pls∧pls.length≤2000000∧∀p∈pls,ExSq p.delay.args∧ExSq p.flags.args):=⟨HK.out.2,HEj.out.2.1,HEj.out.2.2⟩;clear HEj HK;have hR0:Below wr.heap.size wr w1.drew∧Blk w1.drew G 45 (dcC ⟨kd,⟨nm,na⟩,.mk vo vn vx va vl,pls⟩ sp)∧G+1≤w1.drew.heap.size:=⟨Below.drew H1.out.1,H1.out.2.1.drew,Nat.le_of_eq H1.out.2.2.symm⟩;obtain⟨SC,hSC⟩:=ex9 (dcC ⟨kd,⟨nm,na⟩,.mk vo vn vx va vl,pls⟩ sp)
    have HSC:Hid (∀W,Blk W G 45 SC→W.cell? ⟨G,0,none⟩=some (.string kd)∧W.rangeAt G 1 [.string nm,.int .i64 na]∧W.rangeAt G 3 [.string vo,.int .i64 vn,.string vx,.int .i64 va,.slice sp.1.1 vl.length sp.1.2]∧W.cell? ⟨G,8,none⟩=some (.slice sp.2.1 pls.length sp.2.2)):=fun W hW=>by
     rw[hSC]at hW;have hr:=hW.range;have hm:∀(o n:Nat) (ds:List Value),((dcC ⟨kd,⟨nm,na⟩,.mk vo vn vx va vl,pls⟩ sp).drop o).take n=ds→W.rangeAt G o ds:=fun o n ds h=>by have:=zbf hr o n h;rwa [Nat.zero_add]at this
     exact⟨hW.cell 0,hm 1 2 _ rfl,hm 3 5 _ rfl,hW.cell 8⟩
    rw[←hSC]at hR0;clear hSC H1;refine zd7 kr 10 (fun W=>Blk W G 45 SC) ?_;refine AnyF.start 9 6 (G+1) 45 (dcC zDc pl0) (fun W=>Below wr.heap.size wr W∧Blk W G 45 SC∧G+1≤W.heap.size) hR0 ?_;refine AnyF.pure 0 (v:=.pointer (some ⟨G,0,none⟩)) rfl (by decide) (fun g=>by cases g <;> kernel_rfl) (fun _ _ _ h=>h) rfl (by decide) (fun st _=>by cases st <;> kernel_rfl) (fun _ h=>h.2.1) ?_;refine AnyF.load 1 (v:=.string kd) rfl (by decide) (fun g=>by cases g <;> kernel_rfl) kr (fun g=>by cases g <;> kernel_rfl) (fun _ _ _ h=>h) rfl (by decide) (fun st w' hw'=>zah (p:=⟨G,0,none⟩) rfl (by cases st <;> kernel_rfl) agStr (HSC.out w' hw').1) (fun _ h=>h.2.1) ?_;refine AnyF.pure 2 (v:=.pointer (some ⟨G,1,none⟩)) rfl (by decide) (fun g=>by cases g <;> kernel_rfl) (fun _ _ _ h=>h) rfl (by decide) (fun st _=>by cases st <;> kernel_rfl) (fun _ h=>h.2.1) ?_;refine AnyF.load 3 (v:=.agg #[.string nm,.int .i64 na]) rfl (by decide) (fun g=>by cases g <;> kernel_rfl) kr (fun g=>by cases g <;> kernel_rfl) (fun _ _ _ h=>h) rfl (by decide) (fun st w' hw'=>zac rfl (by cases st <;> kernel_rfl) (run_loadAt_mid w' G 1 36 [.string nm,.int .i64 na] _ (HSC.out w' hw').2.1 Tryz.underlying36 rfl hdRf)) (fun _ h=>h.2.1) ?_;refine AnyF.pure 5 (v:=.pointer (some ⟨G,3,none⟩)) rfl (by decide) (fun g=>by cases g <;> kernel_rfl) (fun _ _ _ h=>h) rfl (by decide) (fun st _=>by cases st <;> kernel_rfl) (fun _ h=>h.2.1) ?_;refine AnyF.load 6 (v:=.agg #[.string vo,.int .i64 vn,.string vx,.int .i64 va,.slice sp.1.1 vl.length sp.1.2]) rfl (by decide) (fun g=>by cases g <;> kernel_rfl) kr (fun g=>by cases g <;> kernel_rfl) (fun _ _ _ h=>h) rfl (by decide) (fun st w' hw'=>zac rfl (by cases st <;> kernel_rfl) (run_loadAt_mid w' G 3 39 [.string vo,.int .i64 vn,.string vx,.int .i64 va,.slice sp.1.1 vl.length sp.1.2] _ (HSC.out w' hw').2.2.1 Tryz.underlying39 rfl hdEx)) (fun _ h=>h.2.1) ?_;refine AnyF.call 4 (d1:=20) (f:=42) (args:=#[.agg #[.string nm,.int .i64 na]]) (X:=Unit) (fun _=>.agg #[.string nm,.int .i64 0]) (fun _ W=>Below wr.heap.size wr W∧Blk W G 45 SC∧G+1≤W.heap.size) rfl rfl rfl (by decide) (by decide) (fun st _=>by cases st <;> kernel_rfl) rfl rfl rfl (fun _ _=>by kernel_rfl) (by first|(left;kernel_rfl)| (right;kernel_rfl)) kr (fun _ o h=>⟨h.1.alloc h.1.size o,h.2.1.alloc o,Nat.le_trans h.2.2 sy⟩) (fun _ h=>h.2.2) (fun _ h=>h.2.1) (fun _ _ h=>h.2.1) (fun W hW=>(HBR.out nm na W).mono fun e w' h=>⟨(),h.1,⟨hW.1.trans (h.2.mono hW.1.size),hW.2.1.below h.2 hW.2.1.lt,Nat.le_trans hW.2.2 h.2.size⟩,h.2⟩) ?_;intro _;refine AnyF.ofS ?_;refine AnyFS.call 7 (d1:=23) (f:=43) (args:=#[.agg #[.string vo,.int .i64 vn,.string vx,.int .i64 va,.slice sp.1.1 vl.length sp.1.2]]) (X:=Option Addr × Nat) (fun x=>.agg #[.string vo,.int .i64 vn,.string vx,.int .i64 0,.slice x.1 vl.length x.2]) (fun x st W=>(Below wr.heap.size wr W∧Blk W G 45 SC∧G+1≤W.heap.size)∧ArgsIn (Fst (G+1) st) W x.1 (bareL vl)) rfl rfl rfl (by decide) (by decide) (fun st _=>by cases st <;> kernel_rfl) rfl rfl rfl (fun _ _=>by kernel_rfl) (by first|(left;kernel_rfl)| (right;kernel_rfl)) kr (fun _ o h=>⟨h.1.alloc h.1.size o,h.2.1.alloc o,Nat.le_trans h.2.2 sy⟩) (fun _ h=>h.2.2) (fun _ _ h=>h.2.1) (fun _ _ _ h=>h.1.2.1) (fun st W hW hst=>(Q4.out W hW.1).mono fun e w' ⟨A',c',he,hy,hbb⟩=>⟨(A',c'),he,⟨⟨hW.1.trans (hbb.mono hW.1.size),hW.2.1.below hbb hW.2.1.lt,Nat.le_trans hW.2.2 hbb.size⟩,hy.keep (fst_of hst hW.2.2 w')⟩,hbb⟩) ?_;intro xa;refine AnyFS.pure 8 (v:=.agg #[.string kd,.string nm,.int .i64 0,.string vo,.int .i64 vn,.string vx,.int .i64 0,.slice xa.1 vl.length xa.2,.slice none 0 0]) rfl (by decide) (fun g=>by cases g <;> kernel_rfl) (fun _ _ _ h=>h) rfl (by decide) (fun st _=>by cases st <;> kernel_rfl) (fun _ _ h=>h.1.2.1) ?_;refine AnyFS.fin rfl rfl rfl (fun _ _=>by kernel_rfl) kr (fun W o h=>⟨⟨h.1.1.alloc h.1.1.size o,h.1.2.1.alloc o,Nat.le_trans h.1.2.2 sy⟩,h.2.keep (zk6 W o)⟩) (fun _ h=>h.1.2.2) (fun _ _ h=>h.1.2.1) ?_;intro gB w7 hgB hp7 hU7;refine AnyK.storeAll 10 (t:=45) (x:=.tmp 6) (y:=.tmp 24) gB [.string kd,.string nm,.int .i64 0,.string vo,.int .i64 vn,.string vx,.int .i64 0,.slice xa.1 vl.length xa.2,.slice none 0 0] 45 (dcC zDc pl0) rfl rfl rfl rfl kr kr kr hp7 hdDc (by intro v hv;simp only[List.mem_cons,List.not_mem_nil,or_false]at hv;rcases hv with rfl|rfl|rfl|rfl|rfl|rfl|rfl|rfl|rfl <;> rfl) rfl (fun w' hb' ho'=>fun h=>(by cases h)) ?_;intro w8 hb8 ho8;refine AnyK.done kr ?_;have hgBl:=hgB;have HK1:Hid (Below wr.heap.size wr w8∧Blk w8 G 45 SC∧Blk w8 gB 45 [.string kd,.string nm,.int .i64 0,.string vo,.int .i64 vn,.string vx,.int .i64 0,.slice xa.1 vl.length xa.2,.slice none 0 0]∧ArgsIn (Fst (G+1) (some gB)) w8 xa.1 (bareL vl)):=⟨ho8.below hU7.1.1 (by have:=HGG.out;omega) hU7.1.1.size,ho8.blk hU7.1.2.1 om,hb8,hU7.2.keep (znl ho8)⟩;have HGB:Hid (G+1≤gB∧gB<w8.heap.size):=⟨hgB,hb8.lt⟩;clear hb8 ho8 hU7 hp7 hR0 hgB HBR Q4;simp only[List.getElem_toArray,List.getElem_cons_zero,List.getElem_cons_succ,Act.put,List.setIfInBounds_toArray,List.set_cons_succ,List.set_cons_zero];have c8:=(HSC.out _ HK1.out.2.1).2.2.2;have hu8:pls.length≤2000000:=HPL.out.2.1;obtain⟨u,hu⟩:=ex9 (pls.length);have HU:=qh hu;have HLR:Hid (∀k,k≤u→((pls.take k).map bareP).length=k):=fun k hk=>by rw[List.length_map,List.length_take];omega
    rw[←hu]at hu8 c8;clear hu HSC;generalize sp.2.1=Ap at *;go_wp2;clear c8;have hgg:G<gB:=hgBl;have hgw:wr.heap.size≤G:=by have:=HGG.out;omega
    have hgv:gB<w8.heap.size:=HGB.out.2;clear hgBl
    go_loopg [28] u (fun kk q ws=>∃(k:Nat) (slP:List ((Option Addr × Nat) × (Option Addr × Nat))) (A2:Option Addr) (c2:Nat),k≤u∧kk=u-k∧q=.int .i64 (k:Int)∧Hid (Below wr.heap.size wr ws)∧Hid (Blk ws gB 45 [.string kd,.string nm,.int .i64 0,.string vo,.int .i64 vn,.string vx,.int .i64 0,.slice xa.1 vl.length xa.2,.slice A2 k c2])∧Hid (Gr 80 12 plC PlIn w8.heap.size ((pls.take k).map bareP) slP (.slice A2 k c2) ws)∧Hid (Ot gB w8 ws))
    case atStart=>exact⟨0,[],none,0,by omega,by omega,rfl,qh HK1.out.1,qh HK1.out.2.2.1,qh Gr.nil,Lib.hid ⟨lr,fun _ _ _=>rfl⟩⟩
    case round =>
     rename World=>ws
     obtain⟨k,slP,A2,c2,hk',hkk,rfl,HSb,HSB,HGk,HOt⟩:=hrel
     rcases Nat.eq_or_lt_of_le hk' with rfl|hkl
     · have hnl:¬(k:Int)<(k:Int):=om
       have HTK:Hid (pls.take k=pls∧(pls.map bareP).length=k):=by have:=HU.out;exact⟨tk om,by rw[List.length_map];omega⟩
       have hX5:DcIn (Fo (gP+3) (.slice A1 j c1)) ws (bareD ⟨kd,⟨nm,na⟩,.mk vo vn vx va vl,pls⟩) (xa,(A2,c2)):=by
        have fo:Keep (Fr G) (Fo (gP+3) (.slice A1 j c1)) ws ws:=HGR.out.fresh hg4 hgw ws;have f1:Keep (Fst (G+1) (some gB)) (Fr G) ws ws:=⟨lr,fun _ _ _=>rfl,fun k hk _=>by have:=hk.1;unfold Fr;omega⟩;have hp:=PlsIn.gr HGk.out (HLR.out k om).symm;rw[HTK.out.1]at hp
        unfold bareD
        rw[bare];exact⟨((HK1.out.2.2.2.keep HOt.out.keepF).keep f1).keep fo,(hp.keep (za0 om)).keep fo⟩
       have hEC:[.string kd,.string nm,.int .i64 0,.string vo,.int .i64 vn,.string vx,.int .i64 0,.slice xa.1 vl.length xa.2,.slice A2 k c2]=dcC (bareD ⟨kd,⟨nm,na⟩,.mk vo vn vx va vl,pls⟩) (xa,(A2,c2)):=by
        unfold bareD
        rw[bare];simp only[dcC,exC,Ex.op,Ex.num,Ex.text,Ex.at_,Ex.args,bareR,zaj,List.length_map,HTK.out.2,List.cons_append,List.nil_append]
       have h5b:=HSB.out;rw[hEC]at h5b;have HX5:Hid (DcIn (Fo (gP+3) (.slice A1 j c1)) ws (bareD ⟨kd,⟨nm,na⟩,.mk vo vn vx va vl,pls⟩) (xa,(A2,c2))∧Below wr.heap.size wr ws):=⟨hX5,HSb.out⟩;obtain⟨X,hX⟩:=ex9 (bareD ⟨kd,⟨nm,na⟩,.mk vo vn vx va vl,pls⟩);obtain⟨y,hyy⟩:∃y:(Option Addr × Nat) × (Option Addr × Nat),y=(xa,(A2,c2)):=⟨_,rfl⟩;rw[←hX,←hyy]at HX5 h5b;rw[←hX]at HS1;have hldB:=run_loadAt_mid ws gB 0 45 (dcC X y) _ h5b.range Tryz.underlying45 rfl (by rw[zce];exact hdDc);have hldB2:(ldAt 45 (.pointer (some ⟨gB,0,none⟩))).run Tryz.prog ws=.ok (.agg (dcC X y).toArray) ws:=hldB;have hs5:wr.heap.size≤ws.heap.size:=HX5.out.2.size;have HG5:=qh (Gr.call ze1 HGR.out HX5.out.2);have hown5:ws.ownsRow (gP+3) 45 9 (.slice A1 j c1) j (zipC dcC ((ds.take j).map bareD) sl):=by have:=HG5.out.own;rw[HLL.out]at this;exact this
       have HO5:=qh hown5;have HBO:Hid (Blk ws gO 26 [.slice A1 j c1,.slice none 0 0]∧Blk ws gR 26 [.slice none 0 0,.slice none 0 0]∧Blk ws gP 26 [.slice (some ⟨b1,o1,none⟩) n cd,.slice A m ca]):=⟨HO.out.below HSb.out HO.out.lt,HZ.out.below HSb.out HZ.out.lt,HZP.out.below HSb.out HZP.out.lt⟩;obtain⟨q0,_,_,_⟩:=Blk.two HBO.out.1;clear hX5 hEC h5b hX hyy hldB hown5 hkk hk' HK1 HSb HSB HGk HOt HPL HGB HTK HU HLR;have hj8:j≤2000000:=om
       go_wp2_with (first
        | (at_builtin;refine zas rfl (.tmp 49) (.tmp 51) _ rfl (gP+3) 45 9 136 Tryz.underlying23 eDc (.slice A1 j c1) j (zipC dcC ((ds.take j).map bareD) sl) rr (by exact zav HO5.out (fun m _ hm _=>Below.heap_alloc ws _ m hm)) (some ⟨ws.heap.size,0,none⟩) 1 1 (dcC X y) rr (RdS.new ws _ (dcC X y) 9 rfl) (zbq _ _) om om (by simp;omega) ?_;intro A7 c7 w7 hown7 hc7 hg7 hat7
           have HP7:Hid (Gr 45 9 dcC DcIn (gP+3) ((ds.take (j+1)).map bareD) (sl++[y]) (.slice A7 (j+1) c7) w7∧Below gP w w7∧Blk w7 gO 26 [.slice A1 j c1,.slice none 0 0]∧Blk w7 gR 26 [.slice none 0 0,.slice none 0 0]∧Blk w7 gP 26 [.slice (some ⟨b1,o1,none⟩) n cd,.slice A m ca]∧gP+3≤w7.heap.size):=by
            have hnot:∀g,g<gP+3→some g≠(Value.slice A1 j c1).ownBlock:=fun g hg e=>by have:=(HO5.out.lt g e.symm).1;omega
            have hsz7:=hg7.size;refine⟨?_,((HR.out.trans (HX5.out.2.mono om)).alloc om _).grown hg7 (by simp;omega) (fun m hm=>by have:=(HO5.out.lt m hm).1;omega),(HBO.out.1.alloc _).grown hg7 (hnot _ hg3),(HBO.out.2.1.alloc _).grown hg7 (hnot _ om),(HBO.out.2.2.alloc _).grown hg7 (hnot _ om),by simp at hsz7;omega⟩;rw[HS1.out];exact Gr.push ze1 HG5.out om HX5.out.1 hg7 (by rw[HLL.out];exact hown7) hat7
           obtain⟨t0,_,t2,_⟩:=Blk.two HP7.out.2.2.1;have ol7:=HP7.out.2.2.1.lt
           clear hown7 hc7 hg7 hat7)
        | (refine zdb rfl 23 45 (.tmp 50) rfl (dcC X y) rr Tryz.underlying23 (by exact oneDc X y) (by rw[zce];omega) (by rw[zce];omega) ?_))
       go_roundg (KO-1)
       case measure=>omega
       case rel=>exact⟨j+1,sl++[y],A7,c7,by omega,by omega,by simp,qh (HP7.out.2.1.setCell (by dsimp only;omega) _),qh (HP7.out.2.2.2.2.1.far (by dsimp only;omega) _),qh (HP7.out.2.2.2.1.far (by dsimp only;omega) _),qh (HP7.out.2.2.1.set_ 0 _),qh (Gr.set ze1 HP7.out.1 (by dsimp only;omega) _),qh (by have:=HP7.out.2.2.2.2.2;simp[World.setCell];omega)⟩
     · have hkl2:(k:Int)<(u:Int):=om
       have hkp:k<pls.length:=by have:=HU.out;omega
       obtain⟨b3,o3,sq,rfl,hb3,x3,y3⟩:=zc4 (HPL.out.1.keep (Keep.of_below HSb.out F)) k hkp;have HEp:=qh (HPL.out.2.2 pls[k] (List.getElem_mem _))
       have HR1:Hid ((pls.take (k+1)).map bareP=(pls.take k).map bareP++[bareP pls[k]]):=by
        show _=_
        rw[List.take_add_one,ge9 hkp,List.map_append];rfl
       generalize pls[k]=L at *;have HY3:=qh y3;obtain⟨CP,hCP⟩:=ex9 (plC L sq);have HCP:=qh hCP;have HPO:Hid ((∀v∈CP,v.oneCell'=true)∧CP.length=12):=by rw[hCP];exact⟨zbp _ _,rfl⟩
       rw[←hCP]at x3;have hld:=run_loadAt_mid ws b3 (o3+k*12) 80 CP _ x3 Tryz.underlying80 rfl (by rw[HPO.out.2];exact hdPl);have hld2:(ldAt 80 (.pointer (some ⟨b3,o3+k*12,none⟩))).run Tryz.prog ws=.ok (.agg CP.toArray) ws:=hld;clear hld x3 y3 hCP
       go_upto_region 9 with (refine zaa rfl 80 (.tmp 8) (.tmp 31) rfl ws.heap.size CP rr rr 80 (plC zPl pl0) (by exact Blk.new' rfl rfl) (by rw[HPO.out.2];exact hdPl) HPO.out.1 HPO.out.2 ?_;intro w3 hb3' ho3;have H3:Hid (Below ws.heap.size ws w3∧Blk w3 ws.heap.size 80 CP):=⟨ho3.below ((Below.refl _ ws).alloc lr _) lr sy,hb3'⟩;clear hb3' ho3)
       obtain⟨gX,hgX⟩:=ex9 (ws.heap.size);have HGX:Hid (gX=ws.heap.size):=hgX;have h3:Below ws.heap.size ws w3∧Blk w3 gX 80 (plC L sq):=by rw[hgX,←HCP.out];exact H3.out
       rw[←hgX];have H3:=qh h3;clear hgX h3 hld2 HCP HPO;obtain⟨⟨pn,pa⟩,⟨dlo,dn,dx,da,dl⟩,⟨fo,fnn,fx,fa,fl⟩⟩:=L;have Q5:Hid (∀W,Below ws.heap.size ws W→Calls Tryz.prog 43 #[.agg #[.string dlo,.int .i64 dn,.string dx,.int .i64 da,.slice sq.1.1 dl.length sq.1.2]] W fun e w'=>∃A' c',e=.returned (.agg #[.string dlo,.int .i64 dn,.string dx,.int .i64 0,.slice A' dl.length c'])∧ArgsIn (Fr W.heap.size) w' A' (bareL dl)∧Below W.heap.size W w'):=fun W hW=>zbx HEp.out.1 _ _ _ _ _ _ _ rfl W (HY3.out.1.keep (Keep.of_below hW F))
       have Q6:Hid (∀W,Below ws.heap.size ws W→Calls Tryz.prog 43 #[.agg #[.string fo,.int .i64 fnn,.string fx,.int .i64 fa,.slice sq.2.1 fl.length sq.2.2]] W fun e w'=>∃A' c',e=.returned (.agg #[.string fo,.int .i64 fnn,.string fx,.int .i64 0,.slice A' fl.length c'])∧ArgsIn (Fr W.heap.size) w' A' (bareL fl)∧Below W.heap.size W w'):=fun W hW=>zbx HEp.out.2 _ _ _ _ _ _ _ rfl W (HY3.out.2.keep (Keep.of_below hW F))
       have HPC:Hid (∀W,Blk W gX 80 (plC ⟨⟨pn,pa⟩,.mk dlo dn dx da dl,.mk fo fnn fx fa fl⟩ sq)→W.rangeAt gX 0 [.string pn,.int .i64 pa]∧W.rangeAt gX 2 [.string dlo,.int .i64 dn,.string dx,.int .i64 da,.slice sq.1.1 dl.length sq.1.2]∧W.rangeAt gX 7 [.string fo,.int .i64 fnn,.string fx,.int .i64 fa,.slice sq.2.1 fl.length sq.2.2]):=fun W hW=>by
        have hr:=hW.range;have hm:∀(o n:Nat) (ds:List Value),((plC ⟨⟨pn,pa⟩,.mk dlo dn dx da dl,.mk fo fnn fx fa fl⟩ sq).drop o).take n=ds→W.rangeAt gX o ds:=fun o n ds h=>by have:=zbf hr o n h;rwa [Nat.zero_add]at this
        exact⟨hm 0 2 _ rfl,hm 2 5 _ rfl,hm 7 5 _ rfl⟩
       generalize plC ⟨⟨pn,pa⟩,.mk dlo dn dx da dl,.mk fo fnn fx fa fl⟩ sq=PC at *;have HD3:Hid (Below ws.heap.size ws w3.drew):=qh (Below.drew H3.out.1);have hT:Blk w3.drew gB 45 [.string kd,.string nm,.int .i64 0,.string vo,.int .i64 vn,.string vx,.int .i64 0,.slice xa.1 vl.length xa.2,.slice A2 k c2]∧Blk w3.drew gX 80 PC:=⟨HSB.out.below HD3.out HSB.out.lt,H3.out.2.drew⟩;refine kgo kr 15 (fun W=>Blk W gB 45 [.string kd,.string nm,.int .i64 0,.string vo,.int .i64 vn,.string vx,.int .i64 0,.slice xa.1 vl.length xa.2,.slice A2 k c2]∧Blk W gX 80 PC) hT (fun _ _ _ _ _ h=>h) ?_;refine kp 0 (.pointer (some ⟨gB,8,none⟩)) rfl kr (fun _=>kr) ?_;refine kl 1 (.slice A2 k c2) rfl kr (fun w' hw'=>zah (t:=43) (x:=.tmp 32) rr kr agSpl (hw'.1.cell 8)) ?_;refine kp 2 (.pointer (some ⟨gX,0,none⟩)) rfl kr (fun _=>kr) ?_;refine kl 3 (.agg #[.string pn,.int .i64 pa]) rfl kr (fun w' hw'=>zac rfl kr (run_loadAt_mid w' gX 0 36 [.string pn,.int .i64 pa] _ (HPC.out w' hw'.2).1 Tryz.underlying36 rfl hdRf)) ?_;refine kp 5 (.pointer (some ⟨gX,2,none⟩)) rfl kr (fun _=>kr) ?_;refine kl 6 (.agg #[.string dlo,.int .i64 dn,.string dx,.int .i64 da,.slice sq.1.1 dl.length sq.1.2]) rfl kr (fun w' hw'=>zac rfl kr (run_loadAt_mid w' gX 2 39 [.string dlo,.int .i64 dn,.string dx,.int .i64 da,.slice sq.1.1 dl.length sq.1.2] _ (HPC.out w' hw'.2).2.1 Tryz.underlying39 rfl hdEx)) ?_;refine kp 8 (.pointer (some ⟨gX,7,none⟩)) rfl kr (fun _=>kr) ?_;refine kl 9 (.agg #[.string fo,.int .i64 fnn,.string fx,.int .i64 fa,.slice sq.2.1 fl.length sq.2.2]) rfl kr (fun w' hw'=>zac rfl kr (run_loadAt_mid w' gX 7 39 [.string fo,.int .i64 fnn,.string fx,.int .i64 fa,.slice sq.2.1 fl.length sq.2.2] _ (HPC.out w' hw'.2).2.2 Tryz.underlying39 rfl hdEx)) ?_;intro q8 q9;clear q8 q9;refine AnyK.enter 4 (d:=some 36) (f:=42) (args:=#[.agg #[.string pn,.int .i64 pa]]) rr kr kr ?_;refine(zds pn pa _).mono ?_;rintro e y1 ⟨rfl,hb1⟩;have D1:Below ws.heap.size ws y1:=HD3.out.trans (hb1.mono HD3.out.size);have T1:=And.intro (hT.1.below hb1 hT.1.lt) (hT.2.below hb1 hT.2.lt);refine⟨_,rfl,fun _=>T1,?_⟩;refine AnyK.enter 7 (d:=some 39) (f:=43) (args:=#[.agg #[.string dlo,.int .i64 dn,.string dx,.int .i64 da,.slice sq.1.1 dl.length sq.1.2]]) rr kr kr ?_;refine(Q5.out _ D1).mono ?_;rintro e y2 ⟨Ad,cd1,rfl,hy2,hb2⟩;have D2:Below ws.heap.size ws y2:=D1.trans (hb2.mono D1.size);have T2:=And.intro (T1.1.below hb2 T1.1.lt) (T1.2.below hb2 T1.2.lt);refine⟨_,rfl,fun _=>T2,?_⟩;refine AnyK.enter 10 (d:=some 42) (f:=43) (args:=#[.agg #[.string fo,.int .i64 fnn,.string fx,.int .i64 fa,.slice sq.2.1 fl.length sq.2.2]]) rr kr kr ?_;refine(Q6.out _ D2).mono ?_;rintro e w4 ⟨Af,cf1,rfl,hy4,hb4⟩;have H4:Hid (Below ws.heap.size ws w4):=qh (D2.trans (hb4.mono D2.size));have hT4:=And.intro (T2.1.below hb4 T2.1.lt) (T2.2.below hb4 T2.2.lt);have G4:=qh (Gr.call zel HGk.out H4.out);have hv3s:w8.heap.size≤ws.heap.size:=HOt.out.1;have hsz4:ws.heap.size≤w4.heap.size:=H4.out.size
       have hYY:PlIn (Fo w8.heap.size (.slice A2 k c2)) w4 (bareP ⟨⟨pn,pa⟩,.mk dlo dn dx da dl,.mk fo fnn fx fa fl⟩) ((Ad,cd1),(Af,cf1)):=by
        unfold bareP
        rw[bare,bare];exact⟨(hy2.keep (Keep.of_below hb4 _)).keep (HGk.out.fresh hv3s D1.size w4),hy4.keep (HGk.out.fresh hv3s D2.size w4)⟩
       have HYY:=qh hYY
       have HEC:Hid (plC (bareP ⟨⟨pn,pa⟩,.mk dlo dn dx da dl,.mk fo fnn fx fa fl⟩) ((Ad,cd1),(Af,cf1))=[.string pn,.int .i64 0,.string dlo,.int .i64 dn,.string dx,.int .i64 0,.slice Ad dl.length cd1,.string fo,.int .i64 fnn,.string fx,.int .i64 0,.slice Af fl.length cf1]):=by
        show _=_
        unfold bareP
        rw[bare,bare];simp only[plC,exC,Ex.op,Ex.num,Ex.text,Ex.at_,Ex.args,bareR,zaj,List.length_map,List.cons_append,List.nil_append]
       have hown4:w4.ownsRow w8.heap.size 80 12 (.slice A2 k c2) k (zipC plC ((pls.take k).map bareP) slP):=by have:=G4.out.own;rw[HLR.out k om]at this;exact this
       have hog:(Value.slice A2 k c2).ownBlock≠some gB∧(Value.slice A2 k c2).ownBlock≠some gX:=by
        have hx:=HGX.out;have h7:=HGk.out.own;exact⟨fun e=>by have:=(h7.lt gB e).1;omega,fun e=>by have:=(h7.lt gX e).2;omega⟩
       have hk8:k≤2000000:=om;refine⟨_,rfl,fun _=>hT4,?_⟩;refine AnyK.val 11 (v:=.agg #[.string pn,.int .i64 0,.string dlo,.int .i64 dn,.string dx,.int .i64 0,.slice Ad dl.length cd1,.string fo,.int .i64 fnn,.string fx,.int .i64 0,.slice Af fl.length cf1]) rr kr rfl kr (fun _=>hT4) ?_;refine AnyK.main 12 rr kr rfl (fun K hK=>zbz (zb5 43 80 (.tmp 43) rr [.string pn,.int .i64 0,.string dlo,.int .i64 dn,.string dx,.int .i64 0,.slice Ad dl.length cd1,.string fo,.int .i64 fnn,.string fx,.int .i64 0,.slice Af fl.length cf1] kr Tryz.underlying43 kr sy sy) (hK _ _ ⟨fun _=>⟨hT4.1.alloc _,hT4.2.alloc _⟩,?_⟩));refine AnyK.main 13 rr kr rfl (fun K hK=>zci (.tmp 33) (.tmp 44) 43 rr w8.heap.size 80 12 168 Tryz.underlying43 ePl (.slice A2 k c2) k (zipC plC ((pls.take k).map bareP) slP) kr (zav hown4 (fun m _ hm _=>Below.heap_alloc w4 _ m hm)) (some ⟨w4.heap.size,0,none⟩) 1 1 [.string pn,.int .i64 0,.string dlo,.int .i64 dn,.string dx,.int .i64 0,.slice Ad dl.length cd1,.string fo,.int .i64 fnn,.string fx,.int .i64 0,.slice Af fl.length cf1] kr (RdS.new w4 _ [.string pn,.int .i64 0,.string dlo,.int .i64 dn,.string dx,.int .i64 0,.slice Ad dl.length cd1,.string fo,.int .i64 fnn,.string fx,.int .i64 0,.slice Af fl.length cf1] 12 rfl) (by intro v hv;simp only[List.mem_cons,List.not_mem_nil,or_false]at hv;rcases hv with rfl|rfl|rfl|rfl|rfl|rfl|rfl|rfl|rfl|rfl|rfl|rfl <;> rfl) om om (by simp;omega) (fun A7 c7 w7 hown7 hc7 hg7 hat7=>hK _ _ ⟨fun _=>⟨(hT4.1.alloc _).grown hg7 (fun e=>hog.1 e.symm),(hT4.2.alloc _).grown hg7 (fun e=>hog.2 e.symm)⟩,?_⟩));have hb7:=(hT4.1.alloc (.cells #[.string pn,.int .i64 0,.string dlo,.int .i64 dn,.string dx,.int .i64 0,.slice Ad dl.length cd1,.string fo,.int .i64 fnn,.string fx,.int .i64 0,.slice Af fl.length cf1] 80)).grown hg7 (fun e=>hog.1 e.symm);refine AnyK.val 14 (v:=.pointer (some ⟨gB,8,none⟩)) rr kr rfl kr (fun _=>⟨hb7,(hT4.2.alloc _).grown hg7 (fun e=>hog.2 e.symm)⟩) ?_;have hP:=Gr.push zel G4.out om HYY.out (w5:=w7) (v':=.slice A7 (k+1) c7) (by rw[HEC.out];exact hg7) (by rw[HLR.out k om,HEC.out];exact hown7) (by rw[HEC.out];exact hat7)
       have HP7:Hid (Gr 80 12 plC PlIn w8.heap.size ((pls.take (k+1)).map bareP) (slP++[((Ad,cd1),(Af,cf1))]) (.slice A7 (k+1) c7) (w7.setCell ⟨gB,8,none⟩ (.slice A7 (k+1) c7))):=by
        show Gr _ _ _ _ _ _ _ _ _
        rw[HR1.out];exact Gr.set zel hP (by dsimp only;omega) _
       have hb47:Below w8.heap.size ws w7:=((H4.out.mono om).alloc (Nat.le_trans hv3s hsz4) _).grown hg7 (by simp;omega) (fun m hm=>by have:=(hown4.lt m hm).1;omega)
       have HW8:Hid (Below wr.heap.size wr (w7.setCell ⟨gB,8,none⟩ (.slice A7 (k+1) c7))∧Blk (w7.setCell ⟨gB,8,none⟩ (.slice A7 (k+1) c7)) gB 45 [.string kd,.string nm,.int .i64 0,.string vo,.int .i64 vn,.string vx,.int .i64 0,.slice xa.1 vl.length xa.2,.slice A7 (k+1) c7]∧Ot gB w8 (w7.setCell ⟨gB,8,none⟩ (.slice A7 (k+1) c7))):=by
        have h7:=hg7.size;have hs7:=hb47.size;refine⟨(HSb.out.trans (hb47.mono om)).setCell (by dsimp only;omega) _,hb7.set_ 8 _,by simp[World.setCell];omega,fun m hm hmg=>?_⟩;rw[Below.heap_setCell w7 ⟨gB,8,none⟩ _ m hmg,hb47.block m hm];exact HOt.out.2 m hm hmg
       refine AnyK.store 15 (d:=none) (w':=w7.setCell ⟨gB,8,none⟩ (.slice A7 (k+1) c7)) rr (fun o ho=>za6 ho kr kr szSpl (hb7.cell 8) (hb7.frozen 8)) kr (fun h=>(by cases h)) ?_;refine AnyK.done kr ?_;clear hb7 hown7 hg7 hat7 hT hT4 hown4 hog hb47 hP hb4 D1 D2 T1 T2 hb1 hb2 hy2 hy4 hYY;simp only[List.getElem_toArray,List.getElem_cons_zero,List.getElem_cons_succ,Act.put,List.setIfInBounds_toArray,List.set_cons_succ,List.set_cons_zero];go_wp2;go_roundg (gk-1)
       case measure=>omega
       case rel=>exact⟨k+1,slP++[((Ad,cd1),(Af,cf1))],A7,c7,by omega,by omega,by simp,qh HW8.out.1,qh HW8.out.2.1,HP7,qh HW8.out.2.2⟩
end
end
end Go.Proofs.YtafjkbbiaopemaaGreatDoor.Tr
