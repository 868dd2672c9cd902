/- TreeBare: a tree without its places is the same tree, and statements are counted in all bodies: for every tree of bulk at most 1048576 the law returns true. -/
import Derived.Test.YtafjkbbiaopemaaGreatDoorTie
import Derived.Test.YtafjkbbiaopemaaGreatDoorCards
import Derived.Deep.DeepHandedRow
import Derived.LaidMore
import Derived.LaidHandle
import Derived.ChangeSame
import Derived.SevenTiedAt
import Derived.LaidSub
import Derived.MakeChecks
import Derived.Test.YtafjkbbiaopemaaGreatDoorBax44
import Derived.Test.YtafjkbbiaopemaaGreatDoorBax51
set_option linter.all false
set_option maxRecDepth 100000
set_option maxHeartbeats 0
namespace Go.Proofs.YtafjkbbiaopemaaGreatDoor.Tr
open Go.RowKit
section
section
variable{w w':World}
attribute [local go_sem ↓] zgm
theorem zgh{F:Nat→Prop}(T:Sr)(hd:DcSm T.decls)(hb:StSm T.body)(D A:Option Addr)(cd ca:Nat)(w:World)(hD:DcsIn F w D T.decls)(hA:BodyIn F w A T.body):
 Calls Tryz.prog 15 #[.agg #[.slice D T.decls.length cd,.slice A T.body.length ca]] w fun e w'=>e=.returned (.bool (plT T))∧Below w.heap.size w w':=by
 obtain⟨ds,bs⟩:=T
 unfold plT
 dsimp only at *;have HBS:Hid (∀W,Below w.heap.size w W→Calls Tryz.prog 41 #[.slice A bs.length ca] W fun e w'=>e=.returned (.bool (plSs bs))∧Below W.heap.size W w'):=fun W hW=>zfv hb A _ _ rfl W (hA.keep (Keep.of_below hW F))
 have hn8:ds.length≤140737488355328:=hd.1;have HDS:=qh hd.2;have HF:Hid ((ds.take ds.length).any plD=ds.any plD):=by show _=_;rw[tk lr]
 generalize bs.length=m at *;obtain⟨n,hn⟩:=ex9 (ds.length);have HN:=qh hn;rw[←hn]at hn8 HF ⊢
 have HW:Hid (∀W,W=w.alloc (.cells #[.slice D n cd,.slice A m ca] 26)→Below w.heap.size w W∧Blk W w.heap.size 26 [.slice D n cd,.slice A m ca]∧DcsIn F W D ds):=by
  rintro W rfl;have hb2:Below w.heap.size w (w.alloc (.cells #[.slice D n cd,.slice A m ca] 26)):=(Below.refl _ _).alloc lr _;exact⟨hb2,Blk.new _ _ _,hD.keep (Keep.of_below hb2 F)⟩
 clear hd hb hD hA hn
 go_enter Tryz.func15, Tryz.ntmps15
 go_wp2;obtain⟨g1,hg1⟩:=ex9 (w.heap.size);obtain⟨W1,hW1⟩:=ex9 (w.alloc (.cells #[.slice D n cd,.slice A m ca] 26));have HX:=qh (HW.out W1 hW1);rw[←hW1];have HX2:Hid (Blk W1 g1 26 [.slice D n cd,.slice A m ca]):=by subst hg1;exact HX.out.2.1
 rw[←hg1];have HBW:Hid (∀W,Below W1.heap.size W1 W→Below w.heap.size w W):=fun W hW=>HX.out.1.trans (hW.mono HX.out.1.size)
 clear HW hW1 hg1
 go_loopg [3] n (fun kk q wr=>∃j:Nat,j≤n∧kk=n-j∧q=.int .i64 (j:Int)∧Hid (Below W1.heap.size W1 wr)∧Hid ((ds.take j).any plD=false))
 case atStart=>exact⟨0,by omega,by omega,rfl,qh (Below.refl _ _),qh rfl⟩
 case round =>
  obtain⟨j,hj,hk,rfl,HR,HP⟩:=hrel;obtain⟨KO,hKO⟩:=ex9 (gk);have f0:wr.cell? ⟨g1,0,none⟩=some (.slice D n cd):=(HX2.out.below HR.out HX2.out.lt).cell 0
  rcases Nat.eq_or_lt_of_le hj with rfl|hlt
  · have hnl:¬(j:Int)<(j:Int):=om
    have f1:wr.cell? ⟨g1,1,none⟩=some (.slice A m ca):=(HX2.out.below HR.out HX2.out.lt).cell 1;have hr0:Below w.heap.size w wr:=HBW.out _ HR.out;have HR0:=qh hr0;clear hk hj hr0
    go_wp2_with (go_at_call 41;(refine(HBS.out _ HR0.out).mono ?_);rintro e w2 ⟨rfl,hB2⟩;have H2:=qh hB2;clear hB2)
    go_ret;exact⟨by rw[←HF.out,HP.out,Bool.false_or];rfl,HR0.out.trans (H2.out.mono HR0.out.size)⟩
  · have hlt2:(j:Int)<(n:Int):=om
    have hjl:j<ds.length:=by have:=HN.out;omega
    obtain⟨b1,o1,sp,rfl,hb1,x1,k1⟩:=zc8 (HX.out.2.2.keep (Keep.of_below HR.out F)) j hjl;have HEj:=qh (HDS.out ds[j] (List.getElem_mem _));have HS1:=qh (zdt (p:=plD) hjl);have HSA:=qh (ze5 (p:=plD) hjl);generalize ds[j]=E at *;have HK:=qh k1;have HCL:=qh (zce E sp);have HCO:=qh (zbq E sp);obtain⟨C,hC⟩:=ex9 (dcC E sp);have HC:=qh hC;rw[←hC]at x1 HCL HCO;have hld:=run_loadAt_mid wr b1 (o1+j*9) 45 C _ x1 Tryz.underlying45 rfl (by rw[HCL.out];exact hdDc);have hld2:(ldAt 45 (.pointer (some ⟨b1,o1+j*9,none⟩))).run Tryz.prog wr=.ok (.agg C.toArray) wr:=hld;clear hld x1 k1 hC
    go_upto_region 5 with (refine zaa rfl 45 (.tmp 4) (.tmp 17) rfl wr.heap.size C rr rr 45 (dcC zDc pl0) (by exact Blk.new' rfl rfl) (by rw[HCL.out];exact hdDc) HCO.out HCL.out ?_;intro w1 hb1' ho1;have H1:Hid (Below wr.heap.size wr w1∧Blk w1 wr.heap.size 45 C):=⟨ho1.below ((Below.refl _ wr).alloc lr _) lr sy,hb1'⟩;clear hb1' ho1)
    obtain⟨G,hG⟩:=ex9 (wr.heap.size);have H1:Hid (Below wr.heap.size wr w1∧Blk w1 G 45 (dcC E sp)):=by subst hG;rw[←HC.out];exact H1.out
    rw[←hG];clear hG hld2 HCL HCO HC;obtain⟨kd,⟨nm,na⟩,⟨vo,vn,vx,va,vl⟩,pls⟩:=E;have HPD:Hid (plD ⟨kd,⟨nm,na⟩,.mk vo vn vx va vl,pls⟩=((nz na || (nz va || plL vl))|| pls.any plP)):=by show _=_;unfold plD;dsimp only;rw[plE];rfl
    rw[HPD.out]at HS1 HSA;have Q4:Hid (∀W,Below wr.heap.size wr W→Calls Tryz.prog 40 #[.agg #[.string vo,.int .i64 vn,.string vx,.int .i64 va,.slice sp.1.1 vl.length sp.1.2]] W fun e w'=>e=.returned (.bool (nz va || plL vl))∧Below W.heap.size W w'):=fun W hW=>zc3 HEj.out.1 _ _ _ _ _ _ _ rfl W (HK.out.1.keep (Keep.of_below hW F))
    have HRT:Hid (PlsIn F wr sp.2.1 pls∧pls.length≤140737488355328∧∀p∈pls,ExSm p.delay.args∧ExSm p.flags.args):=⟨HK.out.2,HEj.out.2.1,HEj.out.2.2⟩;clear HEj HK HPD;generalize (nz va || plL vl)=p4 at *;have c2:w1.cell? ⟨G,2,none⟩=some (.int .i64 na):=H1.out.2.cell 2;have c3:w1.cell? ⟨G,3,none⟩=some (.string vo):=H1.out.2.cell 3;have c4:w1.cell? ⟨G,4,none⟩=some (.int .i64 vn):=H1.out.2.cell 4;have c5:w1.cell? ⟨G,5,none⟩=some (.string vx):=H1.out.2.cell 5;have c6:w1.cell? ⟨G,6,none⟩=some (.int .i64 va):=H1.out.2.cell 6;have c7:w1.cell? ⟨G,7,none⟩=some (.slice sp.1.1 vl.length sp.1.2):=H1.out.2.cell 7;simp only[List.getElem_toArray,List.getElem_cons_zero,List.getElem_cons_succ,Act.put,List.setIfInBounds_toArray,List.set_cons_succ,List.set_cons_zero]
    go_cut [26] (fun v wx=>v=.bool (nz na || p4)∧Hid (Below wr.heap.size wr wx∧Blk wx G 45 (dcC ⟨kd,⟨nm,na⟩,.mk vo vn vx va vl,pls⟩ sp)))
    case first =>
     have HZ0:Hid (nz na=(na != 0)):=rfl
     rcases (by cases (na != 0) <;> simp:(na != 0)=true∨(na != 0)=false)with z0|z0
     all_goals
       go_wp2_with (go_at_call 40;(refine(Q4.out _ H1.out.1).mono ?_);rintro e w5 ⟨rfl,hB⟩;have H1:Hid (Below wr.heap.size wr w5∧Blk w5 G 45 (dcC ⟨kd,⟨nm,na⟩,.mk vo vn vx va vl,pls⟩ sp)):=⟨H1.out.1.trans (hB.mono H1.out.1.size),H1.out.2.below hB H1.out.2.lt⟩;clear hB)
       go_meet
       exact⟨(by rw[HZ0.out];(try simp only[z0]);(try rfl)),H1⟩
    case rest =>
     rename World=>wx
     obtain⟨rfl,H2⟩:=hcut;clear H1 Q4 c2 c3 c4 c5 c6 c7;generalize (nz na || p4)=z at *
     cases z with
     | true =>
      have HSB:=qh (HSA.out rfl);clear HSA;go_wp2;go_ret;exact⟨by rw[HSB.out];rfl,HBW.out _ (HR.out.trans (H2.out.1.mono HR.out.size))⟩
     | false =>
      have HS2:Hid ((ds.take (j+1)).any plD=pls.any plP):=by show _=_;rw[HS1.out,HP.out];rfl
      have HSA2:Hid (pls.any plP=true→ds.any plD=true):=fun h=>HSA.out (by rw[h];rfl)
      clear HS1 HSA;have hu8:pls.length≤140737488355328:=HRT.out.2.1;have HFR:Hid ((pls.take pls.length).any plP=pls.any plP):=by show _=_;rw[tk lr]
      have HCG:Hid (∀W,Below wx.heap.size wx W→W.cell? ⟨G,8,none⟩=some (.slice sp.2.1 pls.length sp.2.2)∧Below wr.heap.size wr W):=fun W hW=>⟨(H2.out.2.below hW H2.out.2.lt).cell 8,H2.out.1.trans (hW.mono H2.out.1.size)⟩
      obtain⟨u,hu⟩:=ex9 (pls.length);have HU:=qh hu;rw[←hu]at hu8 HFR HCG;clear hu;go_wp2
      go_loopg [5] u (fun kk q ws=>∃k:Nat,k≤u∧kk=u-k∧q=.int .i64 (k:Int)∧Hid (Below wx.heap.size wx ws)∧Hid ((pls.take k).any plP=false))
      case atStart=>exact⟨0,by omega,by omega,rfl,qh (Below.refl _ _),qh rfl⟩
      case round =>
       rename World=>ws
       obtain⟨k,hk',hkk,rfl,HS,HPK⟩:=hrel;have c8:=(HCG.out ws HS.out).1
       rcases Nat.eq_or_lt_of_le hk' with rfl|hkl
       · have hnl:¬(k:Int)<(k:Int):=om
         clear hkk hk';go_wp2;go_roundg (KO-1)
         case measure=>omega
         case rel=>exact⟨j+1,by omega,by omega,by simp,qh (HR.out.trans ((HCG.out ws HS.out).2.mono HR.out.size)),qh (by rw[HS2.out,←HFR.out,HPK.out])⟩
       · have hkl2:(k:Int)<(u:Int):=om
         have hkp:k<pls.length:=by have:=HU.out;omega
         obtain⟨b3,o3,sq,hq3,hb3,x3,y3⟩:=zc4 (HRT.out.1.keep (Keep.of_below (HCG.out ws HS.out).2 F)) k hkp;have HEp:=qh (HRT.out.2.2 pls[k] (List.getElem_mem _));have HR1:=qh (zdt (p:=plP) hkp);have HRA:=qh (ze5 (p:=plP) hkp);generalize pls[k]=L at *;obtain⟨⟨pn,pa⟩,⟨dlo,dn,dx,da,dl⟩,⟨fo,fnn,fx,fa,fl⟩⟩:=L;have Q5:Hid (∀W,Below ws.heap.size ws W→Calls Tryz.prog 40 #[.agg #[.string dlo,.int .i64 dn,.string dx,.int .i64 da,.slice sq.1.1 dl.length sq.1.2]] W fun e w'=>e=.returned (.bool (nz da || plL dl))∧Below W.heap.size W w'):=fun W hW=>zc3 HEp.out.1 _ _ _ _ _ _ _ rfl W (y3.1.keep (Keep.of_below hW F))
         have Q6:Hid (∀W,Below ws.heap.size ws W→Calls Tryz.prog 40 #[.agg #[.string fo,.int .i64 fnn,.string fx,.int .i64 fa,.slice sq.2.1 fl.length sq.2.2]] W fun e w'=>e=.returned (.bool (nz fa || plL fl))∧Below W.heap.size W w'):=fun W hW=>zc3 HEp.out.2 _ _ _ _ _ _ _ rfl W (y3.2.keep (Keep.of_below hW F))
         have HPP:Hid (plP ⟨⟨pn,pa⟩,.mk dlo dn dx da dl,.mk fo fnn fx fa fl⟩=((pa != 0)|| (nz da || plL dl)|| (nz fa || plL fl))):=by show _=_;unfold plP;dsimp only;rw[plE,plE];rfl
         rw[HPP.out]at HR1 HRA;have HX3:Hid (∀W,Below ws.heap.size ws W→W.cell? ⟨G,8,none⟩=some (.slice (some ⟨b3,o3,none⟩) u sp.2.2)∧∀q v,(plC ⟨⟨pn,pa⟩,.mk dlo dn dx da dl,.mk fo fnn fx fa fl⟩ sq)[q]? = some v→W.cell? ⟨b3,o3+k*12+q,none⟩=some v):=fun W hW=>⟨by rw[←hq3];exact(HCG.out W (HS.out.trans (hW.mono HS.out.size))).1,fun q v hv=>(World.cell?_of_block (a:=⟨b3,o3+k*12+q,none⟩) (hW.block b3 hb3)).trans (x3 q v hv)⟩
         rw[hq3]at c8;have e1:ws.cell? ⟨b3,o3+k*12+1,none⟩=some (.int .i64 pa):=x3 1 _ rfl;have e2:ws.cell? ⟨b3,o3+k*12+2,none⟩=some (.string dlo):=x3 2 _ rfl;have e3:ws.cell? ⟨b3,o3+k*12+3,none⟩=some (.int .i64 dn):=x3 3 _ rfl;have e4:ws.cell? ⟨b3,o3+k*12+4,none⟩=some (.string dx):=x3 4 _ rfl;have e5:ws.cell? ⟨b3,o3+k*12+5,none⟩=some (.int .i64 da):=x3 5 _ rfl;have e6:ws.cell? ⟨b3,o3+k*12+6,none⟩=some (.slice sq.1.1 dl.length sq.1.2):=x3 6 _ rfl;clear y3 x3 hq3 HPP HEp;generalize (nz da || plL dl)=p5 at *;generalize (nz fa || plL fl)=p6 at *;have H3:Hid (Below ws.heap.size ws ws):=Below.refl _ _
         go_upto_region 10 with fail
         go_cut [59] (fun v wy=>v=.bool ((pa != 0)|| p5 || p6)∧Hid (Below ws.heap.size ws wy))
         case first =>
          rcases (by cases (pa != 0) <;> cases p5 <;> simp:(pa != 0)=true∨((pa != 0)=false∧p5=true)∨((pa != 0)=false∧p5=false))with z0|⟨z0,rfl⟩|⟨z0,rfl⟩
          all_goals
            go_wp2_with (first
             | (go_at_call 40;have _:=M5;(refine(Q6.out _ H3.out).mono ?_);rintro e w6 ⟨rfl,hB⟩;have H3:Hid (Below ws.heap.size ws w6):=H3.out.trans (hB.mono H3.out.size);clear hB)
             | (go_at_call 40;(refine(Q5.out _ H3.out).mono ?_);rintro e w5 ⟨rfl,hB⟩;have H3:Hid (Below ws.heap.size ws w5):=H3.out.trans (hB.mono H3.out.size);have M5:=qh True.intro;have a8:=(HX3.out w5 H3.out).1;have a7:w5.cell? ⟨b3,o3+k*12+7,none⟩=some (.string fo):=(HX3.out w5 H3.out).2 7 _ rfl;have a9:w5.cell? ⟨b3,o3+k*12+7+1,none⟩=some (.int .i64 fnn):=(HX3.out w5 H3.out).2 8 _ rfl;have a10:w5.cell? ⟨b3,o3+k*12+7+2,none⟩=some (.string fx):=(HX3.out w5 H3.out).2 9 _ rfl;have a11:w5.cell? ⟨b3,o3+k*12+7+3,none⟩=some (.int .i64 fa):=(HX3.out w5 H3.out).2 10 _ rfl;have a12:w5.cell? ⟨b3,o3+k*12+7+4,none⟩=some (.slice sq.2.1 fl.length sq.2.2):=(HX3.out w5 H3.out).2 11 _ rfl;clear hB))
            go_meet
            exact⟨(by(try simp only[z0]);(try rfl)),H3⟩
         case rest =>
          rename World=>wy
          obtain⟨rfl,H4⟩:=hcut;clear H3 e1 e2 e3 e4 e5 e6 c8 Q5 Q6;generalize ((pa != 0)|| p5 || p6)=zz at *
          cases zz with
          | true =>
           have HRB:=qh (HRA.out rfl);clear HRA HR1;go_wp2;go_ret;exact⟨by rw[HSA2.out HRB.out];rfl,HBW.out _ (HR.out.trans (((HCG.out ws HS.out).2.trans (H4.out.mono (HCG.out ws HS.out).2.size)).mono HR.out.size))⟩
          | false =>
           have HRC:Hid ((pls.take (k+1)).any plP=false):=by show _=_;rw[HR1.out,HPK.out];rfl
           clear HRA HR1;go_wp2;go_roundg (gk-1)
           case measure=>omega
           case rel=>exact⟨k+1,by omega,by omega,by simp,qh (HS.out.trans (H4.out.mono HS.out.size)),HRC⟩
end
end
section
theorem ex_eqi{P:Program}{w:World}{a:Act}{o:Oper}{t t':TypeId}{x y:Operand}{k:IntKind}{p:Int}(ho:o.op=.binOp .eql t x y t')(hx:a.eval x=.int k p)(hy:a.eval y=.int k p):(execOp a.eval o).run P w=.ok (.value (.bool true)) w:=by
 unfold execOp
 simp[ho,hx,hy,eqGuard,binOp,Op.intCmp]
theorem ze4(e:Ex):(bare e).args=bareL e.args:=by obtain⟨op,num,text,a,args⟩:=e;rw[bare];rfl
theorem ExSm.bare{es:List Ex}(h:ExSm es):ExSm (bareL es):=by
 induction h with
 | mk es hl hi ih =>
  rw[zaj];exact .mk _ (by rw[List.length_map];exact hl) (fun e he=>by obtain⟨x,hx,rfl⟩:=List.mem_map.1 he;rw[ze4];exact ih x hx)
theorem StSm.bare{ss:List St}(h:StSm ss):StSm (bareSs ss):=by
 induction h with
 | mk ss hl he hy hz ihy ihz =>
  have hb:∀s:St,(bareS s).ea=Tr.bare s.ea∧(bareS s).eb=Tr.bare s.eb∧(bareS s).ec=Tr.bare s.ec∧(bareS s).routes=s.routes.map bareR∧(bareS s).body=bareSs s.body∧(bareS s).els=bareSs s.els:=fun s=>by
   obtain⟨kind,a0,name,a,b,c,routes,block,tag,body,els⟩:=s;rw[bareS];exact⟨rfl,rfl,rfl,rfl,rfl,rfl⟩
  rw[zal];refine .mk _ (by rw[List.length_map];exact hl) (fun e hm=>?_) (fun e hm=>?_) (fun e hm=>?_) <;> (obtain⟨x,hx,rfl⟩:=List.mem_map.1 hm;obtain⟨b1,b2,b3,b4,b5,b6⟩:=hb x)
  · rw[b1,b2,b3,b4,ze4,ze4,ze4,List.length_map]
    obtain⟨e1,e2,e3,e4⟩:=he x hx;exact⟨e1.bare,e2.bare,e3.bare,e4⟩
  · rw[b5];exact ihy x hx
  · rw[b6];exact ihz x hx
theorem DcSm.bare{l:List Dc}(h:DcSm l):DcSm (l.map bareD):=⟨by rw[List.length_map];exact h.1,fun d hd=>by
 obtain⟨x,hx,rfl⟩:=List.mem_map.1 hd;obtain⟨e1,e2,e3⟩:=h.2 x hx;refine⟨by show ExSm (Tr.bare x.value).args;rw[ze4];exact e1.bare,by show(x.places.map bareP).length≤_;rw[List.length_map];exact e2,fun p hp=>?_⟩;obtain⟨y,hy,rfl⟩:=List.mem_map.1 (show p∈x.places.map bareP from hp)
 exact⟨by show ExSm (Tr.bare y.delay).args;rw[ze4];exact(e3 y hy).1.bare,by show ExSm (Tr.bare y.flags).args;rw[ze4];exact(e3 y hy).2.bare⟩⟩
section
variable{w w':World}
theorem treeBare_c(T:Sr)(hd:∀d∈T.decls,ND d)(hs:NS T.body)(hm:mT T≤2000000)(D A:Option Addr)(cd ca:Nat)(w:World)(hD:DcsIn An w D T.decls)(hA:BodyIn An w A T.body)(hT:Tab w.heap.size w):
 Calls Tryz.prog 7 #[.agg #[.slice D T.decls.length cd,.slice A T.body.length ca]] w fun e w'=>e=.returned (.bool true)∧Below w.heap.size w w':=by
 have hmd:(T.decls.map mD).sum≤2000000:=by unfold mT at hm;omega
 have hms:mSs T.body≤2000000:=by unfold mT at hm;omega
 have hdx:∀d∈T.decls,DX d:=fun d h=>(hd d h).dx (by have:=zep mD h;omega)
 have hdl:T.decls.length≤2000000:=by have:=zer mD mD_pos T.decls;omega
 have hsq:=(hs.an hms).sq;have hdq:=dcs_sq hdx hdl;have hcn:cnSs T.body≤1000000000000:=by have:=cnSs_mS T.body;omega
 have up:∀W,Below w.heap.size w W→DcsIn An W D T.decls∧BodyIn An W A T.body:=fun W hW=>⟨hD.keep (Keep.of_below hW An),hA.keep (Keep.of_below hW An)⟩
 have e1:(bareT T).decls.length=T.decls.length:=by show(T.decls.map bareD).length=_;rw[List.length_map]
 have e2:(bareT T).body.length=T.body.length:=by show(T.body.map bareS).length=_;rw[List.length_map]
 have hAw:Hid (∀W,Below w.heap.size w W→Calls Tryz.prog 8 #[] W fun e w'=>e=.returned (.bool true)∧Below W.heap.size W w'):=fun W hW=>zp4 W (hT.up hW)
 have HPL:Hid (∀W,Below w.heap.size w W→Calls Tryz.prog 15 #[.agg #[.slice D T.decls.length cd,.slice A T.body.length ca]] W fun e w'=>e=.returned (.bool (plT T))∧Below W.heap.size W w'):=fun W hW=>zgh T hdq.sm hsq.sm D A cd ca W (up W hW).1 (up W hW).2
 have HPR:Hid (∀W,Below w.heap.size w W→Calls Tryz.prog 13 #[.agg #[.slice D T.decls.length cd,.slice A T.body.length ca]] W fun e w'=>e=.returned (.string (bytesOf (prTop T)))∧Below W.heap.size W w'):=fun W hW=>zg8 T hdx hdl (zg7 (hs.an hms)) A D ca cd W (up W hW).1 (up W hW).2 (zok hd hs hm)
 have HBT:Hid (∀W,Below w.heap.size w W→Calls Tryz.prog 16 #[.agg #[.slice D T.decls.length cd,.slice A T.body.length ca]] W fun e w'=>∃D' cd' A' ca',e=.returned (.agg #[.slice D' T.decls.length cd',.slice A' T.body.length ca'])∧DcsIn (Fr W.heap.size) w' D' (bareT T).decls∧BodyIn (Fr W.heap.size) w' A' (bareT T).body∧Below W.heap.size W w'):=fun W hW=>zp1 T hdq hsq D A cd ca W (up W hW).1 (up W hW).2
 have HSM:Hid (∀(F:Nat→Prop) (D' A':Option Addr) (cd' ca':Nat) W,Below w.heap.size w W→DcsIn F W D' (bareT T).decls→BodyIn F W A' (bareT T).body→Calls Tryz.prog 11 #[.agg #[.slice D' T.decls.length cd',.slice A' T.body.length ca'],.agg #[.slice D T.decls.length cd,.slice A T.body.length ca],.bool false] W fun e w'=>e=.returned (.bool true)∧Below W.heap.size W w'):=fun F D' A' cd' ca' W hW h1 h2=>by
  have h:=same_f (F:=F) (G:=An) (bareT T) T (zp2 T).symm hdq.sm.bare (by show StSm (T.body.map bareS);rw[←zal];exact hsq.sm.bare) D' A' D A cd' ca' cd ca W h1 h2 (up W hW).1 (up W hW).2;rw[e1,e2]at h;exact h
 have HPB:Hid (∀(F:Nat→Prop) (D' A':Option Addr) (cd' ca':Nat) W,DcsIn F W D' (bareT T).decls→BodyIn F W A' (bareT T).body→Calls Tryz.prog 15 #[.agg #[.slice D' T.decls.length cd',.slice A' T.body.length ca']] W fun e w'=>e=.returned (.bool false)∧Below W.heap.size W w'):=fun F D' A' cd' ca' W h1 h2=>by
  have h:=zgh (F:=F) (bareT T) hdq.sm.bare (by show StSm (T.body.map bareS);rw[←zal];exact hsq.sm.bare) D' A' cd' ca' W h1 h2;rw[e1,e2,plT_b]at h;exact h
 have HCN:Hid (∀W,Below w.heap.size w W→Calls Tryz.prog 17 #[.slice A T.body.length ca] W fun e w'=>e=.returned (.int .i64 (cnSs T.body:Int))∧Below W.heap.size W w'):=fun W hW=>zpy hsq.sm A _ ca rfl W (up W hW).2 hcn
 have HRC:Hid (∀W,Below w.heap.size w W→Calls Tryz.prog 18 #[.slice A T.body.length ca] W fun e w'=>e=.returned (.int .i64 (cnSs T.body:Int))∧Below W.heap.size W w'):=fun W hW=>zmy hsq.sm A _ ca rfl W (up W hW).2 hcn
 clear hdx hdl hsq hdq hcn hmd hms hm hd hs hT hD hA up e1 e2;generalize (bareT T).decls=DB at *;generalize (bareT T).body=BB at *;generalize bytesOf (prTop T)=X at *;generalize plT T=pb at *;generalize cnSs T.body=cn at *;generalize T.decls.length=n at *;generalize T.body.length=m at *
 go_enter Tryz.func7, Tryz.ntmps7
 go_upto_region 3 with (go_at_call 8;(refine(hAw.out _ (by exact(Below.refl _ _).alloc lr _)).mono ?_);rintro e w1 ⟨rfl,hB1⟩;have H1:Hid (Below w.heap.size w w1∧Blk w1 w.heap.size 26 [.slice D n cd,.slice A m ca]):=⟨((Below.refl _ _).alloc lr _).trans (hB1.mono sy),(Blk.new _ _ _).below hB1 sy⟩;clear hB1)
 obtain⟨gS,hgS⟩:=ex9 (w.heap.size)
 have HC:Hid (∀W,Below w1.heap.size w1 W→Blk W gS 26 [.slice D n cd,.slice A m ca]∧Below w.heap.size w W∧W.cell? ⟨gS,0,none⟩=some (.slice D n cd)∧W.cell? ⟨gS,1,none⟩=some (.slice A m ca)∧gS<W.heap.size):=fun W hW=>by
  have h1:=H1.out.2.below hW H1.out.2.lt;rw[←hgS]at h1;exact⟨h1,H1.out.1.trans (hW.mono H1.out.1.size),h1.cell 0,h1.cell 1,h1.lt⟩
 rw[←hgS];clear hgS;obtain⟨_,_,n0,n1,ln⟩:=HC.out w1 (Below.refl _ _)
 go_upto_region 6 with (first
  | (go_at_call 16;(refine(HBT.out _ (HC.out _ (by first|exact H3.out|exact Below.drew H3.out)).2.1).mono ?_);rintro e w4 ⟨D',cd',A',ca',rfl,hD4,hA4,hB4⟩;have H4:Hid (Below w1.heap.size w1 w4∧DcsIn (Fr w3.heap.size) w4 D' DB∧BodyIn (Fr w3.heap.size) w4 A' BB):=⟨(by first|exact H3.out.trans (hB4.mono H3.out.size)| exact(Below.drew H3.out).trans (hB4.mono (Below.drew H3.out).size)),hD4,hA4⟩;clear n0 n1 ln hD4 hA4 hB4)
  | (go_at_call 13;(refine(HPR.out _ (HC.out _ (by first|exact H2.out|exact Below.drew H2.out)).2.1).mono ?_);rintro e w3 ⟨rfl,hB3⟩;have H3:Hid (Below w1.heap.size w1 w3):=(by first|exact H2.out.trans (hB3.mono H2.out.size)| exact(Below.drew H2.out).trans (hB3.mono (Below.drew H2.out).size));clear n0 n1 ln hB3;obtain⟨_,_,n0,n1,ln⟩:=HC.out w3 H3.out)
  | (go_at_call 15;(refine(HPL.out _ (HC.out _ (by first|exact Below.refl _ _|exact Below.drew (Below.refl _ _))).2.1).mono ?_);rintro e w2 ⟨rfl,hB2⟩;have H2:Hid (Below w1.heap.size w1 w2):=(by first|exact hB2|exact(Below.drew (Below.refl _ _)).trans (hB2.mono (Below.drew (Below.refl _ _)).size));clear n0 n1 ln hB2;obtain⟨_,_,n0,n1,ln⟩:=HC.out w2 H2.out))
 have hw5:Below w1.heap.size w1 (w4.alloc (.cells #[.slice D' n cd',.slice A' m ca'] 26)):=H4.out.1.alloc H4.out.1.size _
 have H5:Hid (∀W,W=w4.alloc (.cells #[.slice D' n cd',.slice A' m ca'] 26)→Below w1.heap.size w1 W∧Blk W w4.heap.size 26 [.slice D' n cd',.slice A' m ca']∧DcsIn (Fr w3.heap.size) W D' DB∧BodyIn (Fr w3.heap.size) W A' BB):=by
  rintro W rfl;have hk:Keep (Fr w3.heap.size) (Fr w3.heap.size) w4 (w4.alloc (.cells #[.slice D' n cd',.slice A' m ca'] 26)):=Keep.of_below ((Below.refl _ _).alloc lr _) _;exact⟨hw5,Blk.new _ _ _,H4.out.2.1.keep hk,H4.out.2.2.keep hk⟩
 obtain⟨w5,hw⟩:=ex9 (w4.alloc (.cells #[.slice D' n cd',.slice A' m ca'] 26));have H6:=qh (H5.out w5 hw);rw[←hw];obtain⟨gB,hgB⟩:=ex9 (w4.heap.size);rw[←hgB]at H6 ⊢;clear hw5 H5 hw hgB
 have HQ:Hid (∀W,Below w5.heap.size w5 W→Below w.heap.size w W∧W.rangeAt gB 0 [.slice D' n cd',.slice A' m ca']∧W.rangeAt gS 0 [.slice D n cd,.slice A m ca]∧W.cell? ⟨gS,1,none⟩=some (.slice A m ca)∧DcsIn (Fr w3.heap.size) W D' DB∧BodyIn (Fr w3.heap.size) W A' BB):=fun W hW=>by
  have h1:Below w1.heap.size w1 W:=H6.out.1.trans (hW.mono H6.out.1.size);obtain⟨c1,c2,c3,c4,c5⟩:=HC.out W h1;exact⟨c2,(H6.out.2.1.below hW H6.out.2.1.lt).range,c1.range,c4,H6.out.2.2.1.keep (Keep.of_below hW _),H6.out.2.2.2.keep (Keep.of_below hW _)⟩
 have hT:Below w5.heap.size w5 w5.drew:=Below.drew (Below.refl _ _);have LB:∀W,Below w5.heap.size w5 W→(ldAt 26 (.pointer (some ⟨gB,0,none⟩))).run Tryz.prog W=.ok (.agg #[.slice D' n cd',.slice A' m ca']) W:=fun W hW=>run_loadAt_mid W gB 0 26 [.slice D' n cd',.slice A' m ca'] _ (HQ.out W hW).2.1 Tryz.underlying26 rfl hdSr
 have LS:∀W,Below w5.heap.size w5 W→(ldAt 26 (.pointer (some ⟨gS,0,none⟩))).run Tryz.prog W=.ok (.agg #[.slice D n cd,.slice A m ca]) W:=fun W hW=>run_loadAt_mid W gS 0 26 [.slice D n cd,.slice A m ca] _ (HQ.out W hW).2.2.1 Tryz.underlying26 rfl hdSr
 refine kgo kr 2 (fun W=>Below w5.heap.size w5 W) hT (fun _ _ _ _ _ h=>h) ?_;refine kl 0 (.agg #[.slice D' n cd',.slice A' m ca']) rfl kr (fun w' hw'=>zac rfl kr (LB w' hw')) ?_;refine kl 1 (.agg #[.slice D n cd,.slice A m ca]) rfl kr (fun w' hw'=>zac rfl kr (LS w' hw')) ?_;intro q8 q9;clear q8 q9;refine AnyK.enter 2 (d:=some 16) (f:=11) (args:=#[.agg #[.slice D' n cd',.slice A' m ca'],.agg #[.slice D n cd,.slice A m ca],.bool false]) rr kr kr ?_;refine(HSM.out (Fr w3.heap.size) D' A' cd' ca' _ (HQ.out _ hT).1 (HQ.out _ hT).2.2.2.2.1 (HQ.out _ hT).2.2.2.2.2).mono ?_;rintro e y1 ⟨rfl,hb1⟩;have T1:Below w5.heap.size w5 y1:=hT.trans (hb1.mono hT.size);refine⟨_,rfl,fun _=>T1,?_⟩;refine AnyK.val 3 (v:=.bool true) rr kr rfl kr (fun _=>T1) ?_;refine AnyK.valW 4 (v:=.agg #[.slice D' n cd',.slice A' m ca']) rfl kr kr (zac rfl kr (LB _ T1)) (fun _=>T1) ?_;refine AnyK.enterW 5 (d:=some 19) (f:=15) (args:=#[.agg #[.slice D' n cd',.slice A' m ca']]) rfl rfl kr kr kr ((HPB.out (Fr w3.heap.size) D' A' cd' ca' _ (HQ.out _ T1).2.2.2.2.1 (HQ.out _ T1).2.2.2.2.2).mono ?_);rintro e y2 ⟨rfl,hb2⟩;have T2:Below w5.heap.size w5 y2:=T1.trans (hb2.mono T1.size);refine⟨_,rfl,fun _=>T2,?_⟩;refine AnyK.valW 6 (v:=.bool true) rfl kr kr kr (fun _=>T2) ?_;refine AnyK.val 7 (v:=.bool true) rr kr rfl kr (fun _=>T2) ?_;refine AnyK.val 8 (v:=.bool true) rr kr rfl kr (fun _=>T2) ?_;refine AnyK.pureW 11 (v:=.bool pb) rfl kr (fun _ _ _ h=>h) kr (fun _=>kr) (fun _=>T2) ?_;refine AnyK.valW 9 (v:=.agg #[.slice D n cd,.slice A m ca]) rfl kr kr (zac rfl kr (LS _ T2)) (fun _=>T2) ?_;refine AnyK.enterW 10 (d:=some 24) (f:=15) (args:=#[.agg #[.slice D n cd,.slice A m ca]]) rfl rfl kr kr kr ((HPL.out _ (HQ.out _ T2).1).mono ?_);rintro e y3 ⟨rfl,hb3⟩;have T3:Below w5.heap.size w5 y3:=T2.trans (hb3.mono T2.size);refine⟨_,rfl,fun _=>T3,?_⟩;refine AnyK.valW 12 (v:=.bool true) rfl kr kr (by cases pb <;> kernel_rfl) (fun _=>T3) ?_;refine AnyK.val 13 (v:=.bool true) rr kr rfl kr (fun _=>T3) ?_;refine AnyK.val 14 (v:=.bool true) rr kr rfl kr (fun _=>T3) ?_;refine AnyK.pureW 17 (v:=.string X) rfl kr (fun _ _ _ h=>h) kr (fun _=>kr) (fun _=>T3) ?_;refine AnyK.valW 15 (v:=.agg #[.slice D n cd,.slice A m ca]) rfl kr kr (zac rfl kr (LS _ T3)) (fun _=>T3) ?_;refine AnyK.enterW 16 (d:=some 30) (f:=13) (args:=#[.agg #[.slice D n cd,.slice A m ca]]) rfl rfl kr kr kr ((HPR.out _ (HQ.out _ T3).1).mono ?_);rintro e y4 ⟨rfl,hb4⟩;have T4:Below w5.heap.size w5 y4:=T3.trans (hb4.mono T3.size);refine⟨_,rfl,fun _=>T4,?_⟩;refine AnyK.valW 18 (v:=.bool true) rfl kr kr (ex_eql (p:=X) rfl kr kr) (fun _=>T4) ?_;refine AnyK.val 19 (v:=.bool true) rr kr rfl kr (fun _=>T4) ?_;refine AnyK.val 20 (v:=.bool true) rr kr rfl kr (fun _=>T4) ?_;refine AnyK.turn (k':=26) (T':=fun W=>Below w5.heap.size w5 W) _ _ _ _ kr ?_;refine AnyK.pureW 21 (v:=.pointer (some ⟨gS,1,none⟩)) rfl kr (fun _ _ _ h=>h) kr (fun _=>kr) (fun _=>T4) ?_;refine AnyK.pureW 24 (v:=.pointer (some ⟨gS,1,none⟩)) rfl kr (fun _ _ _ h=>h) kr (fun _=>kr) (fun _=>T4) ?_;refine AnyK.loadW 25 (v:=.slice A m ca) rfl kr kr kr (fun _ _ _ h=>h) kr (fun w' hw'=>zah (t:=24) (x:=.tmp 38) rr kr agSlt (HQ.out w' hw').2.2.2.1) T4 ?_;refine AnyK.valW 22 (v:=.slice A m ca) rfl kr kr (zah (t:=24) (x:=.tmp 35) rr kr agSlt (HQ.out _ T4).2.2.2.1) (fun _=>T4) ?_;refine AnyK.enterW 23 (d:=some 37) (f:=17) (args:=#[.slice A m ca]) rfl rfl kr kr kr ((HCN.out _ (HQ.out _ T4).1).mono ?_);rintro e y5 ⟨rfl,hb5⟩;have T5:Below w5.heap.size w5 y5:=T4.trans (hb5.mono T4.size);refine⟨_,rfl,fun _=>T5,?_⟩;refine AnyK.enterW 26 (d:=some 40) (f:=18) (args:=#[.slice A m ca]) rfl rfl kr kr kr ((HRC.out _ (HQ.out _ T5).1).mono ?_);rintro e y6 ⟨rfl,hb6⟩;have T6:Below w5.heap.size w5 y6:=T5.trans (hb6.mono T5.size);refine⟨_,rfl,fun _=>T6,?_⟩;refine AnyK.valW 27 (v:=.bool true) rfl kr kr (ex_eqi (k:=.i64) (p:=(cn:Int)) rfl kr kr) (fun _=>T6) ?_;refine AnyK.val 28 (v:=.bool true) rr kr rfl kr (fun _=>T6) ?_;refine AnyK.val 29 (v:=.bool true) rr kr rfl kr (fun _=>T6) ?_;refine AnyK.done kr ?_;have H9:=qh (HQ.out _ T6).1;clear LB LS T1 T2 T3 T4 T5 T6 hb1 hb2 hb3 hb4 hb5 hb6 hT;simp only[List.getElem_toArray,List.getElem_cons_zero,List.getElem_cons_succ,Act.put,List.setIfInBounds_toArray,List.set_cons_succ,List.set_cons_zero];go_wp2;go_ret;exact⟨rfl,H9.out⟩
end
end
end Go.Proofs.YtafjkbbiaopemaaGreatDoor.Tr
namespace Go.Proofs.YtafjkbbiaopemaaGreatDoor.treeBare
open Go.RowKit
section
open Go.ChangeShapes Go.WideShapes Go.ChangeAt Go.RowKit
open Go.ChangeMaps (open_string shut_string)
set_option linter.unusedVariables false
noncomputable def lst:List (String × DataW Unit):=[("math/bits.deBruijn32tab",Rows.laid_math_bits_deBruijn32tab),("math/bits.deBruijn64tab",Rows.laid_math_bits_deBruijn64tab),("internal/strconv.uint64pow10",Rows.laid_internal_strconv_uint64pow10)]
theorem znq(os:Os)(args:Array Value):laidMetH Tryz.prog lst ((World.doorLaid Tryz.prog 24 os).forCall (fun _ _=>0) ⟨#[],args,[]⟩).memory :=
 laidMetH_of_parts (laidMet_of_run' 65 kr kr) kr
theorem zon{W:World}(h:laidMetH Tryz.prog lst W):Lib.TabIs Tryz.prog W "internal/strconv.uint64pow10" .u64 Lib.pow10Tab:=by
 have h1:=h.filter (fun x=>decide (x.1 = "internal/strconv.uint64pow10"))
 rw[show(lst.filter fun x=>decide (x.1 = "internal/strconv.uint64pow10"))=[("internal/strconv.uint64pow10",Lib.tabData .u64 Lib.pow10Tab)] by rfl,Go.MakeChecks.laidMetH_plain _ _ _ rr]at h1
 exact Lib.tabIs_of_head (n:=20) (e:=159) (g:=(Tryz.prog.globalNamed "internal/strconv.uint64pow10").getD 0) kr rfl kr kr kr kr h1
theorem lifted(os:Os)(started:os.Started)(H:Type)(enc:TypeId × Value→H)(F:Stop.Interp):
 ReturnsInHanded {} Tryz.checked os 7 .any ((Rows.OpenSpec.upto Rows.treeBareSpec).preRow enc Tryz.prog Tryz.f7 [] false lst)
   (((Rows.OpenSpec.upto Rows.treeBareSpec).at F).post enc Tryz.prog Tryz.f7 false true false false):=by
 refine returnsInHanded_of_row (C:=Tryz.checked) (s:=Rows.OpenSpec.upto Rows.treeBareSpec) (laid:=lst) own started kr Tryz.func7
   (witness_row_at (enc:=enc) (C:=Tryz.checked) (s:=Rows.OpenSpec.upto Rows.treeBareSpec) false (World.doorLaid Tryz.prog 24 os) #[.agg #[.slice none 0 0,.slice none 0 0]] rfl kr kr kr ?_) ?_
 · exact⟨⟨(OpenSpec.pre_some (s:=Rows.OpenSpec.upto Rows.treeBareSpec) (k:=Rows.uptoSmall) rfl [] false _ _).2 ⟨[.agg [.nil,.nil]],[],[],DataW.Whole_of_whole (fuel:=8) (x:=([.agg [.nil,.nil]],[],[])) kr,rfl,by kernel_rfl⟩,znq os _⟩,sizedMet_of_sizedB (fuel:=8) kr⟩
 intro W base args ds gs before hval0 hW _ hk0 hsz0 hlaid _ _;have hval:∀(j:Nat) t v,Tryz.f7.params[j]? = some t→args[j]? = some v→Value.okWide Tryz.prog W .any base t v:=hval0;have hk:Rows.uptoBulkAll (ds++gs)≤1048576:=of_decide_eq_true (hk0 _ rfl);have hW':=hW;obtain⟨p,q,hA0,hV,rfl,hfz,hnd⟩:=hW;have hA:DataW.TrodAll enc Tryz.prog W 0 (fun _=>true) true Tryz.f7.params.toList args.toList ds p:=hA0;rw[Tryz.params7]at hA hval;obtain⟨v0,vs0,d0,ds0,p0,q0,hargs,rfl,rfl,h0,r0⟩:=trodAll_cons hA;obtain⟨rfl,rfl,rfl⟩:=trodAll_nil r0;obtain rfl:args=#[v0]:=by cases args;simp_all
 obtain⟨rfl,rfl⟩:=trodVars_none hV;simp only[List.append_nil,Rows.uptoBulkAll]at hk;have k0:=h0;have lt0:∀x∈p0,x.block<W.heap.size:=by obtain⟨m,hm⟩:=k0;exact DataW.trod_lt m _ _ _ hm
 obtain⟨fuel0,hf0⟩:=h0;obtain⟨a0,e0,q0',m0⟩:=(Tr.readsM_sr (fuel0+1)).opens (Nat.lt_succ_self _) hf0;obtain⟨cs0,rfl,hcs0⟩:=okWide_struct Tryz.underlying26 (hval 0 26 v0 rfl rfl);have e0':cs0.toList=_:=e0;obtain⟨cs0⟩:=cs0;simp only at e0';subst e0';clear hA0 hval0;obtain⟨T,⟨D,cd⟩,⟨A,ca⟩⟩:=a0;have m0':Tr.mT T≤2000000:=by have h:Tr.mT T≤Rows.uptoBulk d0:=m0;omega
 refine(Tr.treeBare_c T q0'.2.2.1 q0'.2.2.2 m0' D A cd ca W q0'.1 q0'.2.1 (Tr.tab_of (zon hlaid))).mono fun e W' ⟨he,bel⟩=>?_
 subst he;exact⟨_,rfl,_,_,_,[],_,[],hW',trodAll_mk1 (shut_bool Tryz.underlying4 _),(trodAll_cons_mk (Below.trod laidOut kr (of_decide_eq_true kr) k0 bel lt0) trodAll_mk0),rfl,bel.frame _,fun h=>by cases h⟩
theorem over:Rows.treeBareUptoRow.holds Tryz.pinned (Rows.OpenSpec.upto Rows.treeBareSpec) :=
 OpenClaim.holds_of_cond 7 Tryz.f7 rfl rfl rfl rfl rfl rfl rfl ⟨rfl,rfl,rfl,rfl,rfl⟩ rfl rfl rfl rfl rfl kr Tryz.func7 kr
   (of_decide_eq_true kr) (by unfold Func.isWrapper;first|(rw[if_pos (by decide +kernel)];kernel_rfl)| (rw[if_neg (by decide +kernel)];exact⟨rfl,rfl⟩))
   (fun os started H enc _ F=>by rw[OpenClaim.pre_eq_preRow];exact lifted os started H enc F)
theorem card:Rows.TreeBareUptoCardSaid :=
 Claim7.holds_tied_plain_at .later [] [.data,.data,.data] true (true,"4698a40335d6db5cd93e67fa4c54c93c99b7f9c93088d6c4b341a6a6b11f3b45") false
   over (fun _ h=>by cases h) kr (fun _ h=>by cases h) treeBareUpto_row_tie rfl ⟨rfl,rfl⟩ kr rfl
   (fun f fn hf hfn=>by
    obtain rfl:f=7:=Option.some.inj ((show Tryz.prog.funcNamed "shallot/shallotlaw22.TreeBare" = some 7 by kernel_rfl).symm.trans hf)|>.symm
    obtain rfl:fn=Tryz.f7:=(Option.some.inj (Tryz.func7.symm.trans hfn)).symm
    exact⟨by kernel_rfl,fun j t ht=>by
     rw[Tryz.params7]at ht;have hm:t∈[26]:=by simpa using Array.mem_of_getElem? ht
     have hall:([26].all fun u=>!Tryz.prog.wantsStandIn u)=true:=by kernel_rfl
     exact(show Tryz.prog.wantsStandIn t=false by simpa using List.all_eq_true.1 hall t hm)⟩)
   kr
theorem proved:Rows.TreeBareUptoCardSaid:=card
end
end Go.Proofs.YtafjkbbiaopemaaGreatDoor.treeBare
