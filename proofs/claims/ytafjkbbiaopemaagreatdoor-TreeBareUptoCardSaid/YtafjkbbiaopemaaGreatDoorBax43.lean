/- Part of the proof. -/
import Derived.Deep.DeepCutAuto
import Derived.Test.YtafjkbbiaopemaaGreatDoorBax40
set_option linter.all false
set_option maxRecDepth 100000
set_option maxHeartbeats 0
namespace Go.Proofs.YtafjkbbiaopemaaGreatDoor.Tr
open Go.RowKit
section
def nz(a:Int):Bool:=a != 0
mutual
def plE:Ex→Bool
 | .mk _ _ _ a args=>nz a || plL args
def plL:List Ex→Bool
 | []=>false
 | e :: l=>plE e || plL l
end
theorem zki:∀l:List Ex,plL l=l.any plE
 | []=>by rw[plL];rfl
 | e :: es=>by rw[plL,zki es];rfl
mutual
theorem plE_b:∀e,plE (bare e)=false
 | .mk op num text a args=>by rw[bare,plE,plL_b args];rfl
theorem plL_b:∀l,plL (bareL l)=false
 | []=>by rw[bareL,plL]
 | e :: l=>by rw[bareL,plL,plE_b e,plL_b l];rfl
end
def plR(r:Rf):Bool:=nz r.at_
mutual
def plSt:St→Bool
 | .mk _ at_ name a b c routes block tag body els=>nz at_ || plR name || plR block || plR tag || plE a || plE b || plE c || plSs body || plSs els || routes.any plR
def plSs:List St→Bool
 | []=>false
 | s :: l=>plSt s || plSs l
end
theorem zh0:∀l:List St,plSs l=l.any plSt
 | []=>by rw[plSs];rfl
 | e :: es=>by rw[plSs,zh0 es];rfl
theorem zn1:∀l:List Rf,(l.map bareR).any plR=false
 | []=>rfl
 | r :: l=>by rw[List.map_cons,List.any_cons,zn1 l];rfl
mutual
theorem plSt_b:∀s,plSt (bareS s)=false
 | .mk kind at_ name a b c routes block tag body els=>by rw[bareS,plSt,plE_b,plE_b,plE_b,plSs_b body,plSs_b els,zn1];rfl
theorem plSs_b:∀l,plSs (bareSs l)=false
 | []=>by rw[bareSs,plSs]
 | s :: l=>by rw[bareSs,plSs,plSt_b s,plSs_b l];rfl
end
def plP(p:Pl):Bool:=plR p.node || plE p.delay || plE p.flags
def plD(d:Dc):Bool:=plR d.name || plE d.value || d.places.any plP
def plT(t:Sr):Bool:=t.decls.any plD || plSs t.body
theorem zn2:∀l:List Pl,(l.map bareP).any plP=false
 | []=>rfl
 | r :: l=>by
  rw[List.map_cons,List.any_cons,zn2 l]
  unfold plP bareP
  dsimp only;rw[plE_b,plE_b];rfl
theorem zn3:∀l:List Dc,(l.map bareD).any plD=false
 | []=>rfl
 | r :: l=>by
  rw[List.map_cons,List.any_cons,zn3 l]
  unfold plD bareD
  dsimp only;rw[plE_b,zn2];rfl
theorem plT_b(t:Sr):plT (bareT t)=false:=by
 unfold plT bareT
 dsimp only;rw[zn3,←zal,plSs_b];rfl
mutual
theorem ze3:∀e,bare (bare e)=bare e
 | .mk op num text a args=>by rw[bare,bare,bareL_b args]
theorem bareL_b:∀l,bareL (bareL l)=bareL l
 | []=>by rw[bareL,bareL]
 | e :: l=>by rw[bareL,bareL,ze3 e,bareL_b l]
end
theorem zp3(l:List Rf):(l.map bareR).map bareR=l.map bareR:=by rw[List.map_map];rfl
mutual
theorem zlj:∀s,bareS (bareS s)=bareS s
 | .mk kind at_ name a b c routes block tag body els=>by
  rw[bareS,bareS,ze3,ze3,ze3,bareSs_b body,bareSs_b els,zp3];rfl
theorem bareSs_b:∀l,bareSs (bareSs l)=bareSs l
 | []=>by rw[bareSs,bareSs]
 | s :: l=>by rw[bareSs,bareSs,zlj s,bareSs_b l]
end
theorem zp2(t:Sr):bareT (bareT t)=bareT t:=by
 have hp:∀p:Pl,bareP (bareP p)=bareP p:=fun p=>by unfold bareP;dsimp only;rw[ze3,ze3];rfl
 have hd:∀d:Dc,bareD (bareD d)=bareD d:=fun d=>by
  unfold bareD
  dsimp only;rw[ze3,List.map_map,show bareP ∘ bareP=bareP from funext hp];rfl
 unfold bareT
 dsimp only;rw[List.map_map,List.map_map,show bareD ∘ bareD=bareD from funext hd,show bareS ∘ bareS=bareS from funext zlj]
theorem zdt{α:Type}{p:α→Bool}{l:List α}{i:Nat}(hi:i<l.length):(l.take (i+1)).any p=((l.take i).any p || p l[i]):=by
 rw[List.take_add_one,ge9 hi,List.any_append]
 simp
theorem ze5{α:Type}{p:α→Bool}{l:List α}{i:Nat}(hi:i<l.length)(h:p l[i]=true):l.any p=true:=List.any_eq_true.2 ⟨_,List.getElem_mem hi,h⟩
section
variable{w w':World}
theorem zc3{es:List Ex}(h:ExSm es):∀ {F:Nat→Prop} (A:Option Addr) (op text:ByteArray) (num at_:Int) (n a:Nat) (_:es.length=n) (w:World) (_:ArgsIn F w A es),
 Calls Tryz.prog 40 #[.agg #[.string op,.int .i64 num,.string text,.int .i64 at_,.slice A n a]] w fun e w'=>e=.returned (.bool (nz at_ || plL es))∧Below w.heap.size w w':=by
 induction h with
 | mk es hl hi ih =>
  intro F A op text num at_ n a hn w hA;rw[zki];have HI:=qh ih;have HN:=qh hn;have hn8:n≤140737488355328:=om
  have HW:Hid (∀W,W=w.alloc (.cells #[.string op,.int .i64 num,.string text,.int .i64 at_,.slice A n a] 39)→Below w.heap.size w W∧Blk W w.heap.size 39 [.string op,.int .i64 num,.string text,.int .i64 at_,.slice A n a]∧ArgsIn F W A es):=by
   rintro W rfl;have hb2:Below w.heap.size w (w.alloc (.cells #[.string op,.int .i64 num,.string text,.int .i64 at_,.slice A n a] 39)):=(Below.refl _ _).alloc lr _;exact⟨hb2,Blk.new _ _ _,hA.keep (Keep.of_below hb2 F)⟩
  have HF:Hid ((es.take n).any plE=es.any plE):=by show _=_;rw[←hn,tk lr]
  clear ih hl hi hn hA
  cases hz:nz at_ with
  | true =>
   have hz':(at_ != 0)=true:=hz;clear hz
   go_enter Tryz.func40, Tryz.ntmps40
   go_wp2;go_ret;exact⟨rfl,(HW.out _ rfl).1⟩
  | false =>
   have hz':(at_ != 0)=false:=hz;clear hz
   go_enter Tryz.func40, Tryz.ntmps40
   go_wp2;obtain⟨g1,hg1⟩:=ex9 (w.heap.size);obtain⟨W1,hW1⟩:=ex9 (w.alloc (.cells #[.string op,.int .i64 num,.string text,.int .i64 at_,.slice A n a] 39));have HX:=qh (HW.out W1 hW1);rw[←hW1];have HX2:Hid (Blk W1 g1 39 [.string op,.int .i64 num,.string text,.int .i64 at_,.slice A n a]):=by subst hg1;exact HX.out.2.1
   rw[←hg1];have HBW:Hid (∀W,Below W1.heap.size W1 W→Below w.heap.size w W):=fun W hW=>HX.out.1.trans (hW.mono HX.out.1.size)
   clear HW hW1 hg1
   go_loopg [3] n (fun kk q wr=>∃j:Nat,j≤n∧kk=n-j∧q=.int .i64 (j:Int)∧Hid (Below W1.heap.size W1 wr)∧Hid ((es.take j).any plE=false))
   case atStart=>exact⟨0,by omega,by omega,rfl,qh (Below.refl _ _),qh rfl⟩
   case round =>
    obtain⟨j,hj,hk,rfl,HR,HP⟩:=hrel;have f1:wr.cell? ⟨g1,4,none⟩=some (.slice A n a):=(HX2.out.below HR.out HX2.out.lt).cell 4
    rcases Nat.eq_or_lt_of_le hj with rfl|hlt
    · have hnl:¬(j:Int)<(j:Int):=om
      clear hk hj;go_wp2;go_ret;exact⟨by rw[←HF.out,HP.out];rfl,HBW.out _ HR.out⟩
    · have hlt2:(j:Int)<(n:Int):=om
      have hjl:j<es.length:=by have:=HN.out;omega
      obtain⟨b1,o1,p1,rfl,hb1,x1,k1⟩:=za4 (HX.out.2.2.keep (Keep.of_below HR.out F)) j hjl;have hSC:=qh (fun W (hW:Below wr.heap.size wr W)=>HI.out es[j] (List.getElem_mem _) p1.1 es[j].op es[j].text es[j].num es[j].at_ es[j].args.length p1.2 rfl W (k1.keep (Keep.of_below hW F)));have HS1:=qh (zdt (p:=plE) hjl);have HSA:=qh (ze5 (p:=plE) hjl);clear k1 HI;generalize es[j]=E at *;obtain⟨op',num',text',at',args'⟩:=E;obtain⟨q1,c1⟩:=p1;have u0:wr.cell? ⟨b1,o1+j*5,none⟩=some (.string op'):=x1 0 _ rfl;have u1:wr.cell? ⟨b1,o1+j*5+1,none⟩=some (.int .i64 num'):=x1 1 _ rfl;have u2:wr.cell? ⟨b1,o1+j*5+2,none⟩=some (.string text'):=x1 2 _ rfl;have u3:wr.cell? ⟨b1,o1+j*5+3,none⟩=some (.int .i64 at'):=x1 3 _ rfl;have u4:wr.cell? ⟨b1,o1+j*5+4,none⟩=some (.slice q1 args'.length c1):=x1 4 _ rfl;clear x1;dsimp only [Ex.op,Ex.num,Ex.text,Ex.at_,Ex.args]at hSC;rw[plE]at HS1 HSA;generalize hv:(nz at' || plL args')=v at *;clear hv;generalize args'.length=m at *;have hr0:Below wr.heap.size wr wr:=Below.refl _ _
      cases v with
      | true =>
       have HSB:=qh (HSA.out rfl);clear HSA
       go_wp2_with (go_at_call 40;(refine(hSC.out _ (by first|exact hr0|exact Below.drew hr0)).mono ?_);rintro e w2 ⟨rfl,hB2⟩;have H2:Hid (Below W1.heap.size W1 w2):=(by first|exact HR.out.trans (hB2.mono (by exact HR.out.size))| exact(Below.drew HR.out).trans (hB2.mono (by exact HR.out.size)));clear hB2)
       go_ret;exact⟨by rw[HSB.out];rfl,HBW.out _ H2.out⟩
      | false =>
       go_wp2_with (go_at_call 40;(refine(hSC.out _ (by first|exact hr0|exact Below.drew hr0)).mono ?_);rintro e w2 ⟨rfl,hB2⟩;have H2:Hid (Below W1.heap.size W1 w2):=(by first|exact HR.out.trans (hB2.mono (by exact HR.out.size))| exact(Below.drew HR.out).trans (hB2.mono (by exact HR.out.size)));clear hB2)
       go_roundg (gk-1)
       case measure=>omega
       case rel=>exact⟨j+1,by omega,by omega,by simp,H2,qh (by rw[HS1.out,HP.out];rfl)⟩
end
end
section
theorem zpb(kd:ByteArray)(at_:Int)(nm:ByteArray)(na:Int)(ao:ByteArray)(an:Int)(ax:ByteArray)(aa:Int)(ea:List Ex)(bo:ByteArray)(bn:Int)(bx:ByteArray)(ba:Int)(eb:List Ex)(co:ByteArray)(cn:Int)(cx:ByteArray)(ca:Int)(ec:List Ex)(rt:List Rf)(kn:ByteArray)(ka:Int)(tn:ByteArray)(ta:Int)(bd el:List St):
 plSt (.mk kd at_ ⟨nm,na⟩ (.mk ao an ax aa ea) (.mk bo bn bx ba eb) (.mk co cn cx ca ec) rt ⟨kn,ka⟩ ⟨tn,ta⟩ bd el)=((nz at_ || nz na || nz ka || nz ta || (nz aa || plL ea)|| (nz ba || plL eb)|| (nz ca || plL ec)|| plSs bd || plSs el)|| rt.any plR):=by
 rw[plSt,plE,plE,plE];rfl
section
variable{w w':World}
attribute [local go_sem ↓] zes
theorem zfv{ss:List St}(h:StSm ss):∀ {F:Nat→Prop} (A:Option Addr) (n a:Nat) (_:ss.length=n) (w:World) (_:BodyIn F w A ss),
 Calls Tryz.prog 41 #[.slice A n a] w fun e w'=>e=.returned (.bool (plSs ss))∧Below w.heap.size w w':=by
 induction h with
 | mk ss hl he hy hz ihy ihz =>
  intro F A n a hn w hA;rw[zh0];have HY:=qh ihy;have HZ:=qh ihz;have HE:=qh he;have HN:=qh hn;have HA:=qh hA;have HF:Hid ((ss.take n).any plSt=ss.any plSt):=by show _=_;rw[←hn,tk lr]
  have hn8:n≤140737488355328:=om;clear ihy ihz hl he hy hz hn hA
  go_enter Tryz.func41, Tryz.ntmps41
  go_wp2
  go_loopg [3] n (fun kk q wr=>∃j:Nat,j≤n∧kk=n-j∧q=.int .i64 (j:Int)∧Hid (Below w.heap.size w wr)∧Hid ((ss.take j).any plSt=false))
  case atStart=>exact⟨0,by omega,by omega,rfl,qh (Below.refl _ _),qh rfl⟩
  case round =>
   obtain⟨j,hj,hk,rfl,HR,HP⟩:=hrel;obtain⟨KO,hKO⟩:=ex9 (gk)
   rcases Nat.eq_or_lt_of_le hj with rfl|hlt
   · have hnl:¬(j:Int)<(j:Int):=om
     clear hk hj;go_wp2;go_ret;exact⟨by rw[←HF.out,HP.out];rfl,HR.out⟩
   · have hlt2:(j:Int)<(n:Int):=om
     have hjl:j<ss.length:=by have:=HN.out;omega
     obtain⟨b1,o1,sp,rfl,hb1,x1,k1⟩:=zbr (HA.out.keep (Keep.of_below HR.out F)) j hjl;have HYj:=qh (fun(A:Option Addr) (n a:Nat)=>HY.out ss[j] (List.getElem_mem _) (F:=F) A n a);have HZj:=qh (fun(A:Option Addr) (n a:Nat)=>HZ.out ss[j] (List.getElem_mem _) (F:=F) A n a);have HEj:=qh (HE.out ss[j] (List.getElem_mem _));have HS1:=qh (zdt (p:=plSt) hjl);have HSA:=qh (ze5 (p:=plSt) hjl);clear HY HZ HE HA;generalize ss[j]=E at *;have HK:=qh k1;have HCL:=qh (zba E sp);have HCO:=qh (zax E sp);obtain⟨C,hC⟩:=ex9 (stC E sp);have HC:=qh hC;rw[←hC]at x1 HCL HCO;have hld:=run_loadAt_mid wr b1 (o1+j*26) 42 C _ x1 Tryz.underlying42 rfl (by rw[HCL.out];exact hdSt);have hld2:(ldAt 42 (.pointer (some ⟨b1,o1+j*26,none⟩))).run Tryz.prog wr=.ok (.agg C.toArray) wr:=hld;clear hld x1 k1 hC
     go_upto_region 5 with (refine zaa rfl 42 (.tmp 4) (.tmp 15) rfl wr.heap.size C rr rr 42 (stC zT pA0) (by exact Blk.new' rfl rfl) (by rw[HCL.out];exact hdSt) HCO.out HCL.out ?_;intro w1 hb1' ho1;have H1:Hid (Below wr.heap.size wr w1∧Blk w1 wr.heap.size 42 C):=⟨ho1.below ((Below.refl _ wr).alloc lr _) lr sy,hb1'⟩;clear hb1' ho1)
     obtain⟨G,hG⟩:=ex9 (wr.heap.size);have H1:Hid (Below wr.heap.size wr w1∧Blk w1 G 42 (stC E sp)):=by subst hG;rw[←HC.out];exact H1.out
     rw[←hG];have HGW:Hid (G=wr.heap.size):=hG;clear hG hld2 HCL HCO HC;obtain⟨kd,at_,⟨nm,na⟩,⟨ao,an,ax,aa,ea⟩,⟨bo,bn,bx,ba,eb⟩,⟨co,cn,cx,ca,ec⟩,rt,⟨kn,ka⟩,⟨tn,ta⟩,bd,el⟩:=E;rw[zpb]at HS1 HSA;have Q4:Hid (∀W,Below wr.heap.size wr W→Calls Tryz.prog 40 #[.agg #[.string ao,.int .i64 an,.string ax,.int .i64 aa,.slice sp.a.1 ea.length sp.a.2]] W fun e w'=>e=.returned (.bool (nz aa || plL ea))∧Below W.heap.size W w'):=fun W hW=>zc3 HEj.out.1 _ _ _ _ _ _ _ rfl W (HK.out.1.1.keep (Keep.of_below hW F))
     have Q5:Hid (∀W,Below wr.heap.size wr W→Calls Tryz.prog 40 #[.agg #[.string bo,.int .i64 bn,.string bx,.int .i64 ba,.slice sp.b.1 eb.length sp.b.2]] W fun e w'=>e=.returned (.bool (nz ba || plL eb))∧Below W.heap.size W w'):=fun W hW=>zc3 HEj.out.2.1 _ _ _ _ _ _ _ rfl W (HK.out.1.2.1.keep (Keep.of_below hW F))
     have Q6:Hid (∀W,Below wr.heap.size wr W→Calls Tryz.prog 40 #[.agg #[.string co,.int .i64 cn,.string cx,.int .i64 ca,.slice sp.c.1 ec.length sp.c.2]] W fun e w'=>e=.returned (.bool (nz ca || plL ec))∧Below W.heap.size W w'):=fun W hW=>zc3 HEj.out.2.2.1 _ _ _ _ _ _ _ rfl W (HK.out.1.2.2.1.keep (Keep.of_below hW F))
     have Q7:Hid (∀W,Below wr.heap.size wr W→Calls Tryz.prog 41 #[.slice sp.y.1 bd.length sp.y.2] W fun e w'=>e=.returned (.bool (plSs bd))∧Below W.heap.size W w'):=fun W hW=>HYj.out _ _ _ rfl W (HK.out.2.1.keep (Keep.of_below hW F))
     have Q8:Hid (∀W,Below wr.heap.size wr W→Calls Tryz.prog 41 #[.slice sp.z.1 el.length sp.z.2] W fun e w'=>e=.returned (.bool (plSs el))∧Below W.heap.size W w'):=fun W hW=>HZj.out _ _ _ rfl W (HK.out.2.2.keep (Keep.of_below hW F))
     have HRT:Hid (RfsIn F wr sp.r.1 rt∧rt.length≤140737488355328):=⟨HK.out.1.2.2.2,HEj.out.2.2.2⟩;clear HYj HZj HEj HK;generalize (nz aa || plL ea)=p4 at *;generalize (nz ba || plL eb)=p5 at *;generalize (nz ca || plL ec)=p6 at *;generalize plSs bd=p7 at *;generalize plSs el=p8 at *;have c1:w1.cell? ⟨G,1,none⟩=some (.int .i64 at_):=H1.out.2.cell 1;have c3:w1.cell? ⟨G,3,none⟩=some (.int .i64 na):=H1.out.2.cell 3;have c21:w1.cell? ⟨G,21,none⟩=some (.int .i64 ka):=H1.out.2.cell 21;have c23:w1.cell? ⟨G,23,none⟩=some (.int .i64 ta):=H1.out.2.cell 23;have c4:w1.cell? ⟨G,4,none⟩=some (.string ao):=H1.out.2.cell 4;have c5:w1.cell? ⟨G,5,none⟩=some (.int .i64 an):=H1.out.2.cell 5;have c6:w1.cell? ⟨G,6,none⟩=some (.string ax):=H1.out.2.cell 6;have c7:w1.cell? ⟨G,7,none⟩=some (.int .i64 aa):=H1.out.2.cell 7;have c8:w1.cell? ⟨G,8,none⟩=some (.slice sp.a.1 ea.length sp.a.2):=H1.out.2.cell 8;simp only[List.getElem_toArray,List.getElem_cons_zero,List.getElem_cons_succ,Act.put,List.setIfInBounds_toArray,List.set_cons_succ,List.set_cons_zero]
     go_cut [61] (fun v wx=>v=.bool (nz at_ || nz na || nz ka || nz ta || p4 || p5 || p6 || p7 || p8)∧Hid (Below wr.heap.size wr wx∧Blk wx G 42 (stC (.mk kd at_ ⟨nm,na⟩ (.mk ao an ax aa ea) (.mk bo bn bx ba eb) (.mk co cn cx ca ec) rt ⟨kn,ka⟩ ⟨tn,ta⟩ bd el) sp)))
     case first =>
      have HSP:((at_ != 0)=true)∨((at_ != 0)=false∧(na != 0)=true)∨((at_ != 0)=false∧(na != 0)=false∧(ka != 0)=true)∨((at_ != 0)=false∧(na != 0)=false∧(ka != 0)=false∧(ta != 0)=true)∨((at_ != 0)=false∧(na != 0)=false∧(ka != 0)=false∧(ta != 0)=false∧p4=true)∨((at_ != 0)=false∧(na != 0)=false∧(ka != 0)=false∧(ta != 0)=false∧p4=false∧p5=true)∨((at_ != 0)=false∧(na != 0)=false∧(ka != 0)=false∧(ta != 0)=false∧p4=false∧p5=false∧p6=true)∨((at_ != 0)=false∧(na != 0)=false∧(ka != 0)=false∧(ta != 0)=false∧p4=false∧p5=false∧p6=false∧p7=true)∨((at_ != 0)=false∧(na != 0)=false∧(ka != 0)=false∧(ta != 0)=false∧p4=false∧p5=false∧p6=false∧p7=false):=by
       cases (at_ != 0) <;> cases (na != 0) <;> cases (ka != 0) <;> cases (ta != 0) <;> cases p4 <;> cases p5 <;> cases p6 <;> cases p7 <;> simp
      have HZ0:Hid (nz at_=(at_ != 0)∧nz na=(na != 0)∧nz ka=(ka != 0)∧nz ta=(ta != 0)):=⟨rfl,rfl,rfl,rfl⟩
      rcases HSP with z0|⟨z0,z1⟩|⟨z0,z1,z2⟩|⟨z0,z1,z2,z3⟩|⟨z0,z1,z2,z3,rfl⟩|⟨z0,z1,z2,z3,rfl,rfl⟩|⟨z0,z1,z2,z3,rfl,rfl,rfl⟩|⟨z0,z1,z2,z3,rfl,rfl,rfl,rfl⟩|⟨z0,z1,z2,z3,rfl,rfl,rfl,rfl⟩
      all_goals
        go_wp2_with (first
        | (go_at_call 41;have _:=M7;(refine(Q8.out _ H1.out.1).mono ?_);rintro e v9 ⟨rfl,hB⟩;have H1:Hid (Below wr.heap.size wr v9∧Blk v9 G 42 (stC (.mk kd at_ ⟨nm,na⟩ (.mk ao an ax aa ea) (.mk bo bn bx ba eb) (.mk co cn cx ca ec) rt ⟨kn,ka⟩ ⟨tn,ta⟩ bd el) sp)):=⟨H1.out.1.trans (hB.mono H1.out.1.size),H1.out.2.below hB H1.out.2.lt⟩;have M8:=qh True.intro;clear hB)
        | (go_at_call 41;have _:=M6;(refine(Q7.out _ H1.out.1).mono ?_);rintro e v8 ⟨rfl,hB⟩;have H1:Hid (Below wr.heap.size wr v8∧Blk v8 G 42 (stC (.mk kd at_ ⟨nm,na⟩ (.mk ao an ax aa ea) (.mk bo bn bx ba eb) (.mk co cn cx ca ec) rt ⟨kn,ka⟩ ⟨tn,ta⟩ bd el) sp)):=⟨H1.out.1.trans (hB.mono H1.out.1.size),H1.out.2.below hB H1.out.2.lt⟩;have M7:=qh True.intro;have c25:v8.cell? ⟨G,25,none⟩=some (.slice sp.z.1 el.length sp.z.2):=H1.out.2.cell 25;clear hB)
        | (go_at_call 40;have _:=M5;(refine(Q6.out _ H1.out.1).mono ?_);rintro e v7 ⟨rfl,hB⟩;have H1:Hid (Below wr.heap.size wr v7∧Blk v7 G 42 (stC (.mk kd at_ ⟨nm,na⟩ (.mk ao an ax aa ea) (.mk bo bn bx ba eb) (.mk co cn cx ca ec) rt ⟨kn,ka⟩ ⟨tn,ta⟩ bd el) sp)):=⟨H1.out.1.trans (hB.mono H1.out.1.size),H1.out.2.below hB H1.out.2.lt⟩;have M6:=qh True.intro;have c24:v7.cell? ⟨G,24,none⟩=some (.slice sp.y.1 bd.length sp.y.2):=H1.out.2.cell 24;clear hB)
        | (go_at_call 40;have _:=M4;(refine(Q5.out _ H1.out.1).mono ?_);rintro e v6 ⟨rfl,hB⟩;have H1:Hid (Below wr.heap.size wr v6∧Blk v6 G 42 (stC (.mk kd at_ ⟨nm,na⟩ (.mk ao an ax aa ea) (.mk bo bn bx ba eb) (.mk co cn cx ca ec) rt ⟨kn,ka⟩ ⟨tn,ta⟩ bd el) sp)):=⟨H1.out.1.trans (hB.mono H1.out.1.size),H1.out.2.below hB H1.out.2.lt⟩;have M5:=qh True.intro;have c14:v6.cell? ⟨G,14,none⟩=some (.string co):=H1.out.2.cell 14;have c15:v6.cell? ⟨G,15,none⟩=some (.int .i64 cn):=H1.out.2.cell 15;have c16:v6.cell? ⟨G,16,none⟩=some (.string cx):=H1.out.2.cell 16;have c17:v6.cell? ⟨G,17,none⟩=some (.int .i64 ca):=H1.out.2.cell 17;have c18:v6.cell? ⟨G,18,none⟩=some (.slice sp.c.1 ec.length sp.c.2):=H1.out.2.cell 18;clear hB)
        | (go_at_call 40;(refine(Q4.out _ H1.out.1).mono ?_);rintro e v5 ⟨rfl,hB⟩;have H1:Hid (Below wr.heap.size wr v5∧Blk v5 G 42 (stC (.mk kd at_ ⟨nm,na⟩ (.mk ao an ax aa ea) (.mk bo bn bx ba eb) (.mk co cn cx ca ec) rt ⟨kn,ka⟩ ⟨tn,ta⟩ bd el) sp)):=⟨H1.out.1.trans (hB.mono H1.out.1.size),H1.out.2.below hB H1.out.2.lt⟩;have M4:=qh True.intro;have c9:v5.cell? ⟨G,9,none⟩=some (.string bo):=H1.out.2.cell 9;have c10:v5.cell? ⟨G,10,none⟩=some (.int .i64 bn):=H1.out.2.cell 10;have c11:v5.cell? ⟨G,11,none⟩=some (.string bx):=H1.out.2.cell 11;have c12:v5.cell? ⟨G,12,none⟩=some (.int .i64 ba):=H1.out.2.cell 12;have c13:v5.cell? ⟨G,13,none⟩=some (.slice sp.b.1 eb.length sp.b.2):=H1.out.2.cell 13;clear hB)
        )
        go_meet
        exact⟨(by rw[HZ0.out.1,HZ0.out.2.1,HZ0.out.2.2.1,HZ0.out.2.2.2];(try simp only[z0]);(try simp only[z1]);(try simp only[z2]);(try simp only[z3]);(try rfl)),H1⟩
     case rest =>
      rename World=>wx
      obtain⟨rfl,H2⟩:=hcut;clear H1 Q4 Q5 Q6 Q7 Q8 c1 c3 c21 c23 c4 c5 c6 c7 c8;generalize (nz at_ || nz na || nz ka || nz ta || p4 || p5 || p6 || p7 || p8)=z at *
      cases z with
      | true =>
       have HSB:=qh (HSA.out rfl);clear HSA;go_wp2;go_ret;exact⟨by rw[HSB.out];rfl,HR.out.trans (H2.out.1.mono HR.out.size)⟩
      | false =>
       have HS2:Hid ((ss.take (j+1)).any plSt=rt.any plR):=by show _=_;rw[HS1.out,HP.out];rfl
       have HSA2:Hid (rt.any plR=true→ss.any plSt=true):=fun h=>HSA.out (by rw[h];rfl)
       clear HS1 HSA;have hu8:rt.length≤140737488355328:=HRT.out.2;have HFR:Hid ((rt.take rt.length).any plR=rt.any plR):=by show _=_;rw[tk lr]
       have HCG:Hid (∀W,Below wx.heap.size wx W→W.cell? ⟨G,19,none⟩=some (.slice sp.r.1 rt.length sp.r.2)∧Below wr.heap.size wr W):=fun W hW=>⟨(H2.out.2.below hW H2.out.2.lt).cell 19,H2.out.1.trans (hW.mono H2.out.1.size)⟩
       obtain⟨u,hu⟩:=ex9 (rt.length);have HU:=qh hu;rw[←hu]at hu8 HFR HCG;clear hu;go_wp2
       go_loopg [5] u (fun kk q ws=>∃k:Nat,k≤u∧kk=u-k∧q=.int .i64 (k:Int)∧Hid (Below wx.heap.size wx ws)∧Hid ((rt.take k).any plR=false))
       case atStart=>exact⟨0,by omega,by omega,rfl,qh (Below.refl _ _),qh rfl⟩
       case round =>
        rename World=>ws
        obtain⟨k,hk',hkk,rfl,HS,HPK⟩:=hrel;have c19:=(HCG.out ws HS.out).1
        rcases Nat.eq_or_lt_of_le hk' with rfl|hkl
        · have hnl:¬(k:Int)<(k:Int):=om
          clear hkk hk';go_wp2;go_roundg (KO-1)
          case measure=>omega
          case rel=>exact⟨j+1,by omega,by omega,by simp,qh (HR.out.trans ((HCG.out ws HS.out).2.mono HR.out.size)),qh (by rw[HS2.out,←HFR.out,HPK.out])⟩
        · have hkl2:(k:Int)<(u:Int):=om
          have hkp:k<rt.length:=by have:=HU.out;omega
          obtain⟨b3,o3,hq3,hb3,x3,y3⟩:=zc1 (HRT.out.1.keep (Keep.of_below (HCG.out ws HS.out).2 F)) k hkp;have HR1:=qh (zdt (p:=plR) hkp);have HRA:=qh (ze5 (p:=plR) hkp);generalize rt[k]=R at *;obtain⟨rn,ra⟩:=R;rw[hq3]at c19;have y3':ws.cell? ⟨b3,o3+k*2+1,none⟩=some (.int .i64 ra):=y3;clear y3 x3 hq3;have HZR:Hid (plR ⟨rn,ra⟩=(ra != 0)):=qh rfl
          cases hz:(ra != 0)with
          | true =>
           have HRB:=qh (HRA.out (by rw[HZR.out];exact hz));clear HRA HR1;go_wp2;go_ret;exact⟨by rw[HSA2.out HRB.out];rfl,HR.out.trans ((HCG.out ws HS.out).2.mono HR.out.size)⟩
          | false =>
           have HRC:Hid ((rt.take (k+1)).any plR=false):=by show _=_;rw[HR1.out,HPK.out,HZR.out,hz];rfl
           clear HRA HR1;go_wp2;go_roundg (gk-1)
           case measure=>omega
           case rel=>exact⟨k+1,by omega,by omega,by simp,HS,HRC⟩
end
end
end Go.Proofs.YtafjkbbiaopemaaGreatDoor.Tr
