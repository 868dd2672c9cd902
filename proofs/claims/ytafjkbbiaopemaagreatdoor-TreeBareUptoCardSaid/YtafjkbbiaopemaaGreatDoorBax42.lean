/- Part of the proof. -/
import Derived.Test.YtafjkbbiaopemaaGreatDoorBax38
set_option linter.all false
set_option maxRecDepth 100000
set_option maxHeartbeats 0
namespace Go.Proofs.YtafjkbbiaopemaaGreatDoor.Tr
open Go.RowKit
theorem zfz{α:Type}(f:α→List UInt8)(l:List α)(i:Nat)(hi:i<l.length):(l.take (i+1)).flatMap f=(l.take i).flatMap f++f l[i]:=by
 rw[List.take_add_one,ge9 hi,List.flatMap_append]
 show _++[l[i]].flatMap f=_
 rw[List.flatMap_cons,List.flatMap_nil,List.append_nil]
theorem fm_le{α:Type}(f:α→List UInt8)(l:List α)(i:Nat):((l.take i).flatMap f).length≤(l.flatMap f).length:=by
 have h:=congrArg (List.flatMap f) (List.take_append_drop i l);rw[List.flatMap_append]at h;rw[←h,la9];omega
theorem dcC_v(d:Dc)(p)(j:Nat)(v:Value)(h:(exC d.value p.1)[j]? = some v):(dcC d p)[3+j]? = some v:=by
 have hj:=(gi9.1 h).1;rw[show(exC d.value p.1).length=5 from rfl]at hj
 match j,hj with
 | 0,_=>exact h
 | 1,_=>exact h
 | 2,_=>exact h
 | 3,_=>exact h
 | 4,_=>exact h
theorem plC_d(d:Pl)(p)(j:Nat)(v:Value)(h:(exC d.delay p.1)[j]? = some v):(plC d p)[2+j]? = some v:=by
 have hj:=(gi9.1 h).1;rw[show(exC d.delay p.1).length=5 from rfl]at hj
 match j,hj with
 | 0,_=>exact h
 | 1,_=>exact h
 | 2,_=>exact h
 | 3,_=>exact h
 | 4,_=>exact h
theorem plC_f(d:Pl)(p)(j:Nat)(v:Value)(h:(exC d.flags p.2)[j]? = some v):(plC d p)[7+j]? = some v:=by
 have hj:=(gi9.1 h).1;rw[show(exC d.flags p.2).length=5 from rfl]at hj
 match j,hj with
 | 0,_=>exact h
 | 1,_=>exact h
 | 2,_=>exact h
 | 3,_=>exact h
 | 4,_=>exact h
section
section
variable{w w' w0:World}{b B g d:Nat}{l l':List UInt8}
attribute [local go_sem ↓] zh5 zn9 zfh
theorem zpd{F:Nat→Prop}(s:Dc)(p:plA)(hk:s.kind=k_let)(hx:ExOk s.value)(hin:DcIn F w s p)(h:IsP B b l w)(hB:B≤w.heap.size)(hl:l.length+(prDc s).length≤1000000000)(hF:∀k,F k→k<B)(hT:Tab B w):Calls Tryz.prog 34 #[.pointer (some ⟨b,0,none⟩),.agg (dcC s p).toArray] w fun r w'=>PrE B b w (l++prDc s) r w':=by
 have HD:prDc s=[108,101,116,32]++tx s.name.name++[32,61,32]++prE s.value++[59,10]:=by unfold prDc;rw[if_pos hk]
 rw[HD]at hl ⊢;clear HD;have HX:Hid (PW B b w 71 [.agg (exC s.value p.1).toArray] (prE s.value)):=fun l' W h1 h2 h3 hW=>zch hx p.1 B b l' W h1 h2 h3 hF (hin.1.keep (zat hF hW)) (hT.mv hW)
 obtain⟨XN,hXN⟩:=ex9 (s.name.name);have HC0:Hid ((dcC s p)[0]? = some (.string k_let)):=by show _=_;rw[←hk];rfl
 have HC1:Hid ((dcC s p)[1]? = some (.string XN)):=by show _=_;rw[hXN];rfl
 have HKE:Hid (∀j v,(exC s.value p.1)[j]? = some v→(dcC s p)[3+j]? = some v):=dcC_v s p;have HLE:Hid ((exC s.value p.1).length=5):=rfl;rw[←hXN]at hl ⊢;have HBL:=qh h.lt;have H0:=qh ((PrS.start h hB).al (.cells (dcC s p).toArray 45));have HL:=qh hl;have HD0:Hid (Blk (w.alloc (.cells (dcC s p).toArray 45)) w.heap.size 45 (dcC s p)):=Blk.new _ _ _;clear hl h hin hk hT hXN hx;generalize dcC s p=C at *;generalize exC s.value p.1=CE at *;have c0:(w.alloc (.cells C.toArray 45)).cell? ⟨w.heap.size,0,none⟩=some (.string k_let):=(HD0.out.cell 0).trans HC0.out;have c1:(w.alloc (.cells C.toArray 45)).cell? ⟨w.heap.size,1,none⟩=some (.string XN):=(HD0.out.cell 1).trans HC1.out
 go_enter Tryz.func34, Tryz.ntmps34
 go_wp2_with (first
  | (go_at_call 70;(refine(zad H2.out _ sy [{ data:=#[59,10] }] 1 rfl (by decide) (by have:=HL.out;simp[flatS,tx]at this ⊢;omega)).mono ?_);rintro e w3 h3;have H3:=qh ((H2.out.al _).st h3);obtain⟨rfl,_⟩:=h3)
  | (go_at_call 71;(refine(HX.out _ _ (by exact H1.out.p) (by exact Nat.le_trans H1.out.hB H1.out.bl.size) (by have:=HL.out;simp[flatS,tx]at this ⊢;omega) (by exact H1.out.bl)).mono ?_);rintro e w2 h2;have H2:=qh (H1.out.st h2);clear ld3;obtain⟨rfl,_⟩:=h2)
  | (go_at_call 70;(refine(zad H0.out _ sy [{ data:=#[108,101,116,32] },XN,{ data:=#[32,61,32] }] 3 rfl (by decide) (by have:=HL.out;simp[flatS,tx]at this ⊢;omega)).mono ?_);rintro e w1 h1;have H1:=qh ((H0.out.al _).st h1);have HD1:Hid (Blk w1 w.heap.size 45 C):=h1.2.2.2.blk (HD0.out.alloc _) (by have:=HBL.out;omega) (by decide);have ld3:(ldAt 39 (.pointer (some ⟨w.heap.size,3,none⟩))).run Tryz.prog w1=.ok (.agg CE.toArray) w1:=run_loadAt_mid w1 w.heap.size 3 39 CE _ (HD1.out.mid 3 _ HKE.out) Tryz.underlying39 rfl (by rw[HLE.out];exact hdEx);obtain⟨rfl,_⟩:=h1))
 go_end0
 have h6:=H3.out.fin;rw[show l++flatS [{ data:=#[108,101,116,32] },XN,{ data:=#[32,61,32] }]++prE s.value++flatS [{ data:=#[59,10] }]=l++([108,101,116,32]++tx XN++[32,61,32]++prE s.value++[59,10]) by simp[flatS,tx,List.append_assoc]]at h6;exact h6
theorem zkj{F:Nat→Prop}(s:Dc)(p:plA)(hk:s.kind=k_route)(hpl:s.places.length≤1000000)(hx:∀q∈s.places,ExOk q.delay∧ExOk q.flags)(hin:DcIn F w s p)(h:IsP B b l w)(hB:B≤w.heap.size)(hl:l.length+(prDc s).length≤1000000000)(hF:∀k,F k→k<B)(hT:Tab B w):Calls Tryz.prog 34 #[.pointer (some ⟨b,0,none⟩),.agg (dcC s p).toArray] w fun r w'=>PrE B b w (l++prDc s) r w':=by
 have HD:prDc s=[114,111,117,116,101,32]++tx s.name.name++[32,61,32]++sepB [32,62,32] (s.places.map prPl)++[59,10]:=by unfold prDc;rw[if_neg (by rw[hk];decide),if_pos hk]
 rw[HD]at hl ⊢;clear HD;obtain⟨XN,hXN⟩:=ex9 (s.name.name);have HC0:Hid ((dcC s p)[0]? = some (.string k_route)):=by show _=_;rw[←hk];rfl
 have HC1:Hid ((dcC s p)[1]? = some (.string XN)):=by show _=_;rw[hXN];rfl
 have HC8:Hid ((dcC s p)[8]? = some (.slice p.2.1 s.places.length p.2.2)):=rfl;rw[←hXN]at hl ⊢;have HPI:Hid (∀W,Below B w W→PlsIn F W p.2.1 s.places):=fun W hW=>hin.2.keep (zat hF hW)
 have HTB:Hid (∀W,Below B w W→Tab B W):=fun W hW=>hT.mv hW
 have HFF:=qh hF;obtain⟨T0,hT0⟩:=ex9 (l++([114,111,117,116,101,32]++tx XN++[32,61,32]));have hTl:T0.length=l.length+6+(tx XN).length+3:=by rw[hT0];simp only[List.length_append,List.length_cons,List.length_nil];omega
 have HTF:Hid (l++flatS [{ data:=#[114,111,117,116,101,32] },XN,{ data:=#[32,61,32] }]=T0):=by show _=_;rw[hT0];simp[flatS,tx]
 have HVE:Hid (l++([114,111,117,116,101,32]++tx XN++[32,61,32]++sepB [32,62,32] (s.places.map prPl)++[59,10])=T0++sepB [32,62,32] (s.places.map prPl)++flatS [{ data:=#[59,10] }]):=by show _=_;rw[hT0];simp[flatS,List.append_assoc]
 rw[HVE.out];simp only[List.length_append,List.length_cons,List.length_nil]at hl;have HTL:Hid (T0.length≤1000000000):=by show _≤_;omega
 have HSEP:Hid (∀k,k≤s.places.length→T0.length+(sepB [32,62,32] ((s.places.map prPl).take k)).length+2≤1000000000):=fun k hk=>by
  have h1:=zd0 [32,62,32] (s.places.map prPl) (s.places.length-k) k (by simp;omega);omega
 have hpi:∀k (hk:k<s.places.length),(s.places.map prPl)[k]? = some (prPl s.places[k]):=fun k hk=>by rw[List.getElem?_map,ge9 hk];rfl
 have HPS:Hid (∀k (hk:k<s.places.length),0<k→sepB [32,62,32] ((s.places.map prPl).take (k+1))=sepB [32,62,32] ((s.places.map prPl).take k)++[32,62,32]++prPl s.places[k]):=fun k hk h0=>zb4 h0 (hpi k hk)
 have HP0:Hid (∀(hk:0<s.places.length),sepB [32,62,32] ((s.places.map prPl).take 1)=prPl s.places[0]):=fun hk=>zdc (hpi 0 hk)
 have HPN:Hid (sepB [32,62,32] ((s.places.map prPl).take s.places.length)=sepB [32,62,32] (s.places.map prPl)):=(by show _=_;rw[tk sy]);have HPW:Hid (∀k (hk:k<s.places.length),ExOk s.places[k].delay∧ExOk s.places[k].flags):=fun k hk=>hx _ (List.getElem_mem hk)
 have HBL:=qh h.lt;have H0:=qh ((PrS.start h hB).al (.cells (dcC s p).toArray 45));have HD0:Hid (Blk (w.alloc (.cells (dcC s p).toArray 45)) w.heap.size 45 (dcC s p)):=Blk.new _ _ _;clear hl h hin hk hT hXN hx hpi hTl hT0 hF;obtain⟨PA,PB,pd⟩:=p;dsimp only at HC8 HPI;generalize dcC s (PA,(PB,pd))=C at *;generalize s.places=ps at *;obtain⟨m,hm⟩:=ex9 (ps.length);have HM:=qh hm;rw[←hm]at HC8 HPN hpl HSEP;clear hm;have hm9:(m:Int)≤1000000:=om;have c0:(w.alloc (.cells C.toArray 45)).cell? ⟨w.heap.size,0,none⟩=some (.string k_route):=(HD0.out.cell 0).trans HC0.out;have c1:(w.alloc (.cells C.toArray 45)).cell? ⟨w.heap.size,1,none⟩=some (.string XN):=(HD0.out.cell 1).trans HC1.out
 go_enter Tryz.func34, Tryz.ntmps34
 go_upto_region 8 with (go_at_call 70;(refine(zad H0.out _ sy [{ data:=#[114,111,117,116,101,32] },XN,{ data:=#[32,61,32] }] 3 rfl (by decide) (by rw[←la9,HTF.out];have:=HTL.out;omega)).mono ?_);rintro e w1 h1;have H1:=qh ((H0.out.al _).st h1);have HD1:Hid (Blk w1 w.heap.size 45 C):=h1.2.2.2.blk (HD0.out.alloc _) (by have:=HBL.out;omega) (by decide);have c8:w1.cell? ⟨w.heap.size,8,none⟩=some (.slice PB m pd):=(HD1.out.cell 8).trans HC8.out;clear c0 c1;obtain⟨rfl,_⟩:=h1)
 rw[HTF.out]at H1;clear HTF HC0 HC1 HC8 HD0 H0 HTL HVE;go_wp2;clear c8 HD1
 go_loopg [34] m (fun kk q wr=>∃k:Nat,k≤m∧kk=m-k∧q=.int .i64 (k:Int)∧Hid (PrS B b w (T0++sepB [32,62,32] ((ps.map prPl).take k)) wr))
 case atStart=>exact⟨0,by omega,by omega,rfl,by show PrS _ _ _ _ _;simpa[sepB] using H1.out⟩
 case round =>
  clear H1;obtain⟨k,hkm,hkk,rfl,HS⟩:=hrel
  by_cases hlt:k<m
  · have hkl:k<ps.length:=by have:=HM.out;omega
    obtain⟨pb,po,pp,rfl,hpb,hpr,hpin⟩:=zc4 (HPI.out wr HS.out.bl) k hkl;have hii:(k:Int)<(m:Int):=om;have HQI:=qh hpin;have HXW:=qh (HPW.out k hkl);have HK1:=qh (HPS.out k hkl);have HK00:=HP0.out om;have hget:k=0→ps[0]'om=ps[k]:=fun h=>by subst h;rfl
    have HLK:=qh (HSEP.out (k+1) om);have HTW:=qh (HTB.out wr HS.out.bl);clear HPS HP0 HPW HPI hpin HSEP HTB;generalize ps[k]=q at *;have HXD:Hid (PW B b wr 72 [.string { data:=#[64] },.agg (exC q.delay pp.1).toArray] (prAt 64 q.delay)):=fun l' W h1 h2 h3 hW=>zkk HXW.out.1 { data:=#[64] } 64 rfl pp.1 h1 h2 h3 HFF.out (HQI.out.1.keep (zat HFF.out hW)) (HTW.out.mv hW)
    have HXF:Hid (PW B b wr 72 [.string { data:=#[33] },.agg (exC q.flags pp.2).toArray] (prAt 33 q.flags)):=fun l' W h1 h2 h3 hW=>zkk HXW.out.2 { data:=#[33] } 33 rfl pp.2 h1 h2 h3 HFF.out (HQI.out.2.keep (zat HFF.out hW)) (HTW.out.mv hW)
    obtain⟨EN,hEN⟩:=ex9 (q.node.name);have HPD:Hid (prPl q=tx EN++prAt 64 q.delay++prAt 33 q.flags):=by show _=_;rw[hEN];rfl
    have HP0:Hid ((plC q pp)[0]? = some (.string EN)):=by show _=_;rw[hEN];rfl
    have HKD:Hid (∀j v,(exC q.delay pp.1)[j]? = some v→(plC q pp)[2+j]? = some v):=plC_d q pp;have HKF:Hid (∀j v,(exC q.flags pp.2)[j]? = some v→(plC q pp)[7+j]? = some v):=plC_f q pp;have HL5:Hid ((exC q.delay pp.1).length=5∧(exC q.flags pp.2).length=5):=⟨rfl,rfl⟩;have HCL:=qh (zem q pp);have HCO:=qh (zbp q pp);clear hEN HQI HXW HTW;generalize exC q.delay pp.1=CD at *;generalize exC q.flags pp.2=CF at *;generalize plC q pp=CP at *;generalize prAt 64 q.delay=AD at *;generalize prAt 33 q.flags=AF at *;have hld:=run_loadAt_mid wr pb (po+k*12) 80 CP _ hpr Tryz.underlying80 rfl (by rw[HCL.out];exact hdPl);have hld2:(ldAt 80 (.pointer (some ⟨pb,po+k*12,none⟩))).run Tryz.prog wr=.ok (.agg CP.toArray) wr:=hld;have HBW:=qh HS.out.p.lt;clear hld hpr
    by_cases h0:k=0
    · have HE1:Hid (sepB [32,62,32] ((ps.map prPl).take 1)=tx EN++AD++AF):=HK00.trans (by rw[hget h0];exact HPD.out)
      clear HK00 hget HK1 HPD;subst h0;simp only[Nat.zero_mul,Nat.add_zero,Nat.zero_add]at hld2
      go_wp2_with (first
       | (go_at_call 72;(have hz:=H3.out.hB;clear hz);(refine(HXF.out _ _ (by exact H3.out.p) (by exact Nat.le_trans H3.out.hB H3.out.bl.size) (by have:=HLK.out;simp only[Nat.zero_add]at this;rw[HE1.out]at this;simp[flatS,sepB,tx]at this ⊢;omega) (by exact HQ3.out.1)).mono ?_);rintro e w4 h4;have H4:=qh (H3.out.st h4);have HQ4:Hid (Below B wr w4∧Blk w4 wr.heap.size 80 CP):=⟨HQ3.out.1.trans (h4.2.2.1),h4.2.2.2.blk (HQ3.out.2) (by have:=HBW.out;omega) (by decide)⟩;clear ld7;obtain⟨rfl,_⟩:=h4)
       | (go_at_call 72;(have hz:=H2.out.hB;clear hz);(refine(HXD.out _ _ (by exact H2.out.p) (by exact Nat.le_trans H2.out.hB H2.out.bl.size) (by have:=HLK.out;simp only[Nat.zero_add]at this;rw[HE1.out]at this;simp[flatS,sepB,tx]at this ⊢;omega) (by exact HQ2.out.1)).mono ?_);rintro e w3 h3;have H3:=qh (H2.out.st h3);have HQ3:Hid (Below B wr w3∧Blk w3 wr.heap.size 80 CP):=⟨HQ2.out.1.trans (h3.2.2.1),h3.2.2.2.blk (HQ2.out.2) (by have:=HBW.out;omega) (by decide)⟩;clear ld2;have ld7:(ldAt 39 (.pointer (some ⟨wr.heap.size,7,none⟩))).run Tryz.prog w3=.ok (.agg CF.toArray) w3:=run_loadAt_mid w3 wr.heap.size 7 39 CF _ (HQ3.out.2.mid 7 _ HKF.out) Tryz.underlying39 rfl (by rw[HL5.out.2];exact hdEx);obtain⟨rfl,_⟩:=h3)
       | (go_at_call 70;(refine(zad H1.out _ sy [EN] 1 rfl (by decide) (by have:=HLK.out;simp only[Nat.zero_add]at this;rw[HE1.out]at this;simp[flatS,sepB,tx]at this ⊢;omega)).mono ?_);rintro e w2 h2;have H2:=qh ((H1.out.al _).st h2);have HQ2:Hid (Below B wr w2∧Blk w2 wr.heap.size 80 CP):=⟨HQ1.out.1.trans (((Below.refl B w1).alloc (Nat.le_trans H1.out.hB H1.out.bl.size) _).trans h2.2.2.1),h2.2.2.2.blk (HQ1.out.2.alloc _) (by have:=HBW.out;omega) (by decide)⟩;clear p0;have ld2:(ldAt 39 (.pointer (some ⟨wr.heap.size,2,none⟩))).run Tryz.prog w2=.ok (.agg CD.toArray) w2:=run_loadAt_mid w2 wr.heap.size 2 39 CD _ (HQ2.out.2.mid 2 _ HKD.out) Tryz.underlying39 rfl (by rw[HL5.out.1];exact hdEx);obtain⟨rfl,_⟩:=h2)
       | (refine zaa rfl 80 (.tmp 5) (.tmp 38) rfl wr.heap.size CP rr rr 80 (plC zPl pl0) (by exact Blk.new' rfl rfl) (by rw[HCL.out];exact hdPl) HCO.out HCL.out ?_;intro w1 hb1 ho1;have hbw:Below B wr w1:=ho1.below ((Below.refl B wr).alloc (Nat.le_trans HS.out.hB HS.out.bl.size) _) (Nat.le_trans HS.out.hB HS.out.bl.size) (by have:=Nat.le_trans HS.out.hB HS.out.bl.size;simp;omega);have HQ1:Hid (Below B wr w1∧Blk w1 wr.heap.size 80 CP):=⟨hbw,hb1⟩;have H1:Hid (PrS B b w (T0++sepB [32,62,32] ((ps.map prPl).take 0)) w1):=⟨HS.out.p.fresh ho1,HS.out.bl.trans hbw,HS.out.ot.trans (Oth.fresh ho1),HS.out.hB⟩;have p0:w1.cell? ⟨wr.heap.size,0,none⟩=some (.string EN):=(HQ1.out.2.cell 0).trans HP0.out;clear hb1 ho1 hbw))
      have H9:Hid (PrS B b w (T0++sepB [32,62,32] ((ps.map prPl).take (0+1))) w4):=by
       have h6:=H4.out
       show PrS B b w _ w4
       rw[Nat.zero_add,HE1.out]
       simpa[flatS,sepB,tx,List.append_assoc] using h6
      go_roundg (m-(0+1))
      case measure=>omega
      case rel=>exact⟨0+1,by omega,by omega,by simp,H9⟩
    · have hi0:(0:Int)<(k:Int):=om
      have HE1:Hid (sepB [32,62,32] ((ps.map prPl).take (k+1))=sepB [32,62,32] ((ps.map prPl).take k)++[32,62,32]++(tx EN++AD++AF)):=(HK1.out om).trans (by rw[HPD.out]);clear HK00 hget HK1 HPD
      go_wp2_with (first
       | (go_at_call 72;(have hz:=H4.out.hB;clear hz);(refine(HXF.out _ _ (by exact H4.out.p) (by exact Nat.le_trans H4.out.hB H4.out.bl.size) (by have:=HLK.out;rw[HE1.out]at this;simp[flatS,tx]at this ⊢;omega) (by exact HQ4.out.1)).mono ?_);rintro e w5 h5;have H5:=qh (H4.out.st h5);have HQ5:Hid (Below B wr w5∧Blk w5 wr.heap.size 80 CP):=⟨HQ4.out.1.trans (h5.2.2.1),h5.2.2.2.blk (HQ4.out.2) (by have:=HBW.out;omega) (by decide)⟩;clear ld7;obtain⟨rfl,_⟩:=h5)
       | (go_at_call 72;(have hz:=H3.out.hB;clear hz);(refine(HXD.out _ _ (by exact H3.out.p) (by exact Nat.le_trans H3.out.hB H3.out.bl.size) (by have:=HLK.out;rw[HE1.out]at this;simp[flatS,tx]at this ⊢;omega) (by exact HQ3.out.1)).mono ?_);rintro e w4 h4;have H4:=qh (H3.out.st h4);have HQ4:Hid (Below B wr w4∧Blk w4 wr.heap.size 80 CP):=⟨HQ3.out.1.trans (h4.2.2.1),h4.2.2.2.blk (HQ3.out.2) (by have:=HBW.out;omega) (by decide)⟩;clear ld2;have ld7:(ldAt 39 (.pointer (some ⟨wr.heap.size,7,none⟩))).run Tryz.prog w4=.ok (.agg CF.toArray) w4:=run_loadAt_mid w4 wr.heap.size 7 39 CF _ (HQ4.out.2.mid 7 _ HKF.out) Tryz.underlying39 rfl (by rw[HL5.out.2];exact hdEx);obtain⟨rfl,_⟩:=h4)
       | (go_at_call 70;(refine(zad H2.out _ sy [EN] 1 rfl (by decide) (by have:=HLK.out;rw[HE1.out]at this;simp[flatS,tx]at this ⊢;omega)).mono ?_);rintro e w3 h3;have H3:=qh ((H2.out.al _).st h3);have HQ3:Hid (Below B wr w3∧Blk w3 wr.heap.size 80 CP):=⟨HQ2.out.1.trans (((Below.refl B w2).alloc (Nat.le_trans H2.out.hB H2.out.bl.size) _).trans h3.2.2.1),h3.2.2.2.blk (HQ2.out.2.alloc _) (by have:=HBW.out;omega) (by decide)⟩;clear p0;have ld2:(ldAt 39 (.pointer (some ⟨wr.heap.size,2,none⟩))).run Tryz.prog w3=.ok (.agg CD.toArray) w3:=run_loadAt_mid w3 wr.heap.size 2 39 CD _ (HQ3.out.2.mid 2 _ HKD.out) Tryz.underlying39 rfl (by rw[HL5.out.1];exact hdEx);obtain⟨rfl,_⟩:=h3)
       | (go_at_call 70;(refine(zad H1.out _ sy [{ data:=#[32,62,32] }] 1 rfl (by decide) (by have:=HLK.out;rw[HE1.out]at this;simp[flatS,tx]at this ⊢;omega)).mono ?_);rintro e w2 h2;have H2:=qh ((H1.out.al _).st h2);have HQ2:Hid (Below B wr w2∧Blk w2 wr.heap.size 80 CP):=⟨HQ1.out.1.trans (((Below.refl B w1).alloc (Nat.le_trans H1.out.hB H1.out.bl.size) _).trans h2.2.2.1),h2.2.2.2.blk (HQ1.out.2.alloc _) (by have:=HBW.out;omega) (by decide)⟩;have p0:w2.cell? ⟨wr.heap.size,0,none⟩=some (.string EN):=(HQ2.out.2.cell 0).trans HP0.out;obtain⟨rfl,_⟩:=h2)
       | (refine zaa rfl 80 (.tmp 5) (.tmp 38) rfl wr.heap.size CP rr rr 80 (plC zPl pl0) (by exact Blk.new' rfl rfl) (by rw[HCL.out];exact hdPl) HCO.out HCL.out ?_;intro w1 hb1 ho1;have hbw:Below B wr w1:=ho1.below ((Below.refl B wr).alloc (Nat.le_trans HS.out.hB HS.out.bl.size) _) (Nat.le_trans HS.out.hB HS.out.bl.size) (by have:=Nat.le_trans HS.out.hB HS.out.bl.size;simp;omega);have HQ1:Hid (Below B wr w1∧Blk w1 wr.heap.size 80 CP):=⟨hbw,hb1⟩;have H1:Hid (PrS B b w (T0++sepB [32,62,32] ((ps.map prPl).take k)) w1):=⟨HS.out.p.fresh ho1,HS.out.bl.trans hbw,HS.out.ot.trans (Oth.fresh ho1),HS.out.hB⟩;clear hb1 ho1 hbw))
      have H9:Hid (PrS B b w (T0++sepB [32,62,32] ((ps.map prPl).take (k+1))) w5):=by
       have h6:=H5.out
       show PrS B b w _ w5
       rw[HE1.out]
       simpa[flatS,sepB,tx,List.append_assoc] using h6
      go_roundg (m-(k+1))
      case measure=>omega
      case rel=>exact⟨k+1,by omega,by omega,by simp,H9⟩
  · have hii:¬(k:Int)<(m:Int):=om
    obtain rfl:k=m:=om;have HZ:Hid (T0.length+(sepB [32,62,32] ((ps.map prPl).take k)).length+2≤1000000000):=HSEP.out k lr;clear HPI HPS HP0 HPW HSEP HTB
    go_wp2_with (go_at_call 70;(refine(zad HS.out _ sy [{ data:=#[59,10] }] 1 rfl (by decide) (by have:=HZ.out;simp[flatS]at this ⊢;omega)).mono ?_);rintro e w6 h6;have H6:=qh ((HS.out.al _).st h6);obtain⟨rfl,_⟩:=h6)
    go_end0
    have h7:=H6.out.fin;rw[HPN.out]at h7;exact h7
theorem zpe{F:Nat→Prop}{ts:List Lx.Tok}(hTk:TkOk ts)(s:Dc)(p:plA)(hw:WfD ts s)(hin:DcIn F w s p)(h:IsP B b l w)(hB:B≤w.heap.size)(hl:l.length+(prDc s).length≤1000000000)(hF:∀k,F k→k<B)(hT:Tab B w):Calls Tryz.prog 34 #[.pointer (some ⟨b,0,none⟩),.agg (dcC s p).toArray] w fun r w'=>PrE B b w (l++prDc s) r w':=by
 have hok:=hw.ok hTk
 rcases hw.2 with ⟨hk,hv,_⟩|⟨hk,_,_,hpl,_⟩
 · exact zpd s p hk hok.1 hin h hB hl hF hT
 · exact zkj s p hk om hok.2.2 hin h hB hl hF hT
theorem zo7(d:Dc):prDc d≠[]:=by unfold prDc;simp
theorem zo5(ss:List St)(d:Nat)(h:ss≠[]):prSs ss d≠[]:=by
 cases ss with
 | nil=>exact absurd rfl h
 | cons s l =>
  obtain⟨kind,at_,name,a,b,c,routes,block,tag,body,els⟩:=s;rw[prSs,prSt]
  simp
theorem zm1{t:Sr}(h:t.decls≠[]∨t.body≠[]):prTop t≠[]:=by
 unfold prTop
 intro e;rw[List.append_eq_nil_iff]at e
 rcases h with h|h
 · cases hd:t.decls with
   | nil=>exact h hd
   | cons d l=>rw[hd]at e;have:=e.1;simp at this;exact zo7 d this.1
 · exact zo5 _ _ h e.2
theorem zln{F:Nat→Prop}{ts:List Lx.Tok}(hTk:TkOk ts)(t:Sr)(hd:∀d∈t.decls,WfD ts d)(hdl:t.decls.length≤1000000)(hs:∀s∈t.body,WfS ts s)(hbl:t.body.length≤1000000)(hbd:bdL t.body≤12)(hne:t.decls≠[]∨t.body≠[])(A D:Option Addr)(ca cd:Nat)(w:World)(hD:DcsIn F w D t.decls)(hA:BodyIn F w A t.body)(hl:(prTop t).length≤1000000000)(hF:∀k,F k→k<w.heap.size)(hT:Tab w.heap.size w):Calls Tryz.prog 12 #[.agg #[.slice D t.decls.length cd,.slice A t.body.length ca]] w fun r w'=>r=.returned (.string ⟨(prTop t).toArray⟩)∧Below w.heap.size w w':=by
 have HNE:Hid (prTop t≠[]):=zm1 hne;obtain⟨ds,bs⟩:=t;dsimp only at *
 have HP0:Hid (∀W,W=(w.alloc (.cells #[.slice D ds.length cd,.slice A bs.length ca] 26)).alloc (.cells #[.pointer none,.slice none 0 0] 87)→IsP w.heap.size (w.heap.size+1) [] W∧Below w.heap.size w W∧Blk W w.heap.size 26 [.slice D ds.length cd,.slice A bs.length ca]):=by
  rintro W rfl;exact⟨⟨by omega,none,_,.inl rfl,Blk.new' sy rfl,World.ownsRow_nil _ _ _ _,by simp[Value.ownBlock]⟩,((Below.refl _ _).alloc lr _).alloc sy _,(Blk.new _ _ _).alloc _⟩
 have HTP:Hid (prTop ⟨ds,bs⟩=ds.flatMap prDc++prSs bs 0):=rfl;rw[HTP.out]at hl HNE ⊢;have HLL:=qh hl;rw[la9]at hl;have HS1:Hid (∀i (hi:i<ds.length),(ds.take (i+1)).flatMap prDc=(ds.take i).flatMap prDc++prDc ds[i]):=fun i hi=>zfz prDc ds i hi
 have HLB:Hid (∀i (hi:i<ds.length),((ds.take i).flatMap prDc).length+(prDc ds[i]).length≤1000000000):=fun i hi=>by
  have h1:=fm_le prDc ds (i+1);rw[zfz prDc ds i hi,la9]at h1;omega
 have HSN:Hid (ds.take ds.length=ds):=tk lr;have HXX:Hid (∀i (hi:i<ds.length),WfD ts ds[i]):=fun i hi=>hd _ (List.getElem_mem hi)
 obtain⟨n,hn⟩:=ex9 (ds.length);have HN:=qh hn;rw[←hn]at HSN hdl HP0 ⊢;have HQQ:Hid (∀W,Below w.heap.size w W→DcsIn F W D ds∧BodyIn F W A bs∧Tab w.heap.size W):=fun W hW=>⟨hD.keep (zat hF hW),hA.keep (zat hF hW),hT.mv hW⟩
 have HMS:Hid (∀B b (l:List UInt8) W A,IsP B b l W→B≤W.heap.size→l.length+(prSs bs 0).length≤1000000000→(∀k,F k→k<B)→BodyIn F W A bs→Tab B W→Calls Tryz.prog 35 #[.pointer (some ⟨b,0,none⟩),.slice A bs.length ca,.int .i64 0] W fun r w'=>PrE B b W (l++prSs bs 0) r w'):=fun B b l W A h1 h2 h3 h4 h5 h6 =>
  zff (d:=0) bs (fun s hm=>ps_all hTk (hs s hm)) A _ ca rfl hbl om h1 h2 h3 h4 h5 h6
 have HFF:=qh hF;have HTK:=qh hTk;clear hd hD hA hl hn hT hs hbd hne HTP hTk hF;have hn9:(n:Int)≤1000000:=om
 go_enter Tryz.func12, Tryz.ntmps12
 go_upto_region 2 with fail
 obtain⟨W2,hW2⟩:=ex9 ((w.alloc (.cells #[.slice D n cd,.slice A bs.length ca] 26)).alloc (.cells #[.pointer none,.slice none 0 0] 87));rw[←hW2];have HQ:=qh (HP0.out W2 hW2);clear HP0 hW2;obtain⟨G,hG⟩:=ex9 (w.heap.size);rw[←hG]at HQ HQQ HFF ⊢;have HGG:Hid (∀W,Below G w W→Below w.heap.size w W):=by subst hG;exact fun W h=>h
 have HS0:Hid (PrS G (G+1) W2 [] W2):=PrS.start HQ.out.1 (by have:=HQ.out.2.1.size;omega);have HB2:Hid (Blk W2 G 26 [.slice D n cd,.slice A bs.length ca]):=HQ.out.2.2;have HBW:Hid (∀W,Below G W2 W→Below G w W):=fun W hW=>HQ.out.2.1.trans hW
 clear HQ hG;have s0:W2.cell? ⟨G,0,none⟩=some (.slice D n cd):=HB2.out.cell 0;have s9:=HB2.out.lt;go_wp2;clear s0 s9
 go_loopg [9] n (fun kk q wr=>∃i:Nat,i≤n∧kk=n-i∧q=.int .i64 (i:Int)∧Hid (PrS G (G+1) W2 ((ds.take i).flatMap prDc) wr))
 case atStart=>exact⟨0,by omega,by omega,rfl,HS0⟩
 case round =>
  clear HS0;obtain⟨i,hik,hk,rfl,HS⟩:=hrel
  by_cases hi:i<n
  · have hil:i<ds.length:=by have:=HN.out;omega
    obtain⟨gb,ob,p,rfl,hgb,hrg,hst⟩:=zc8 (HQQ.out wr (HBW.out wr HS.out.bl)).1 i hil;have hii:(i:Int)<(n:Int):=om;have HST:=qh hst;have HXI:=qh (HXX.out i hil);have HSI:=qh (HS1.out i hil);have HLI:=qh (HLB.out i hil);have HTW:=qh (HQQ.out wr (HBW.out wr HS.out.bl)).2.2;clear hst HXX HS1 HLB HQQ HMS HLL HNE;generalize ds[i]=s at *;have HDC:Hid (∀(l':List UInt8) W,IsP G (G+1) l' W→G≤W.heap.size→l'.length+(prDc s).length≤1000000000→Below G wr W→Calls Tryz.prog 34 #[.pointer (some ⟨G+1,0,none⟩),.agg (dcC s p).toArray] W fun r w'=>PrE G (G+1) W (l'++prDc s) r w'):=fun l' W h1 h2 h3 hW=>zpe HTK.out s p HXI.out (HST.out.keep (zat HFF.out hW)) h1 h2 h3 HFF.out (HTW.out.mv hW)
    have HCL:=qh (zce s p);have HCO:=qh (zbq s p);clear HST HXI HTW;generalize dcC s p=cells at *;have hld:=run_loadAt_mid wr gb (ob+i*9) 45 cells _ hrg Tryz.underlying45 rfl (by rw[HCL.out];exact hdDc);have hld2:(ldAt 45 (.pointer (some ⟨gb,ob+i*9,none⟩))).run Tryz.prog wr=.ok (.agg cells.toArray) wr:=hld;clear hld hrg
    go_wp2_with (first
     | (go_at_call 34;(refine(HDC.out _ _ (by exact H1.out.p) (by exact Nat.le_trans H1.out.hB H1.out.bl.size) HLI.out (by exact HT1.out)).mono ?_);rintro e w3 h3;have H3:=qh (H1.out.st h3);obtain⟨rfl,_⟩:=h3)
     | (refine zaa rfl 45 (.tmp 5) (.tmp 12) rfl wr.heap.size cells rr rr 45 (dcC zDc pl0) (by exact Blk.new' rfl rfl) (by rw[HCL.out];exact hdDc) HCO.out HCL.out ?_;intro w1 hb1 ho1;have hbw:Below G wr w1:=ho1.below ((Below.refl G wr).alloc (Nat.le_trans HS.out.hB HS.out.bl.size) _) (Nat.le_trans HS.out.hB HS.out.bl.size) (by have:=Nat.le_trans HS.out.hB HS.out.bl.size;simp;omega);have H1:Hid (PrS G (G+1) W2 ((ds.take i).flatMap prDc) w1):=⟨HS.out.p.fresh ho1,HS.out.bl.trans hbw,HS.out.ot.trans (Oth.fresh ho1),HS.out.hB⟩;have HT1:Hid (Below G wr w1):=hbw;have hl2:=zbg hb1 45 0 cells sy _ Tryz.underlying45 rfl (by rw[HCL.out];exact hdDc);clear hb1 ho1 hbw))
    have H6:Hid (PrS G (G+1) W2 ((ds.take (i+1)).flatMap prDc) w3):=by
     show PrS _ _ _ _ w3
     rw[HSI.out];exact H3.out
    go_roundg (n-(i+1))
    case measure=>omega
    case rel=>exact⟨i+1,by omega,by omega,by simp,H6⟩
  · have hii:¬(i:Int)<(n:Int):=om
    obtain rfl:i=n:=om;rw[HSN.out]at HS;have hb3:=HS.out.ot.blk HB2.out om (by decide);have s1:wr.cell? ⟨G,1,none⟩=some (.slice A bs.length ca):=hb3.cell 1;have s9:=hb3.lt;have HQR:=qh (HQQ.out wr (HBW.out wr HS.out.bl)).2;have HMM:=qh (HMS.out G (G+1) (ds.flatMap prDc) wr A HS.out.p (Nat.le_trans HS.out.hB HS.out.bl.size) (by have:=HLL.out;rw[la9]at this;exact this) HFF.out HQR.out.1 HQR.out.2);clear hb3 HXX HS1 HLB HQQ HMS HLL HQR;generalize bs.length=bn at *;generalize hP:prSs bs 0=P at *;generalize hQ:ds.flatMap prDc=Q at *
    go_wp2_with (first
     | (go_at_call 36;(refine(str_c H4.out.p HNE.out).mono ?_);rintro e w5 ⟨rfl,hB5⟩;have H5:Hid (Below G w w5):=HBW.out _ (H4.out.bl.trans hB5);clear hB5)
     | (go_at_call 35;(refine HMM.out.mono ?_);rintro e w4 h4;have H4:=qh (HS.out.st h4);clear s1 s9;obtain⟨rfl,_⟩:=h4))
    first|go_ret|go_end0
    exact⟨by rw[hP,hQ];rfl,HGG.out _ H5.out⟩
theorem ziy(A:Option Addr)(ca:Nat)(w:World)(b:Nat):Calls Tryz.prog 35 #[.pointer (some ⟨b,0,none⟩),.slice A 0 ca,.int .i64 0] w fun r w'=>r=.returned (.tuple #[])∧w=w':=by
 go_enter Tryz.func35, Tryz.ntmps35
 go_wp2
 go_loopg [10] 0 (fun kk q wr=>q=.int .i64 0∧w=wr)
 case atStart=>exact⟨rfl,rfl⟩
 case round =>
  obtain⟨rfl,rfl⟩:=hrel;go_wp2
  go_end0
  exact⟨rfl,rfl⟩
theorem zoo(hb:Blk w b 87 [.pointer none,.slice none 0 0])(hB:w.heap.size≤w.heap.size):Calls Tryz.prog 36 #[.pointer (some ⟨b,0,none⟩)] w fun e w'=>e=.returned (.string { data:=#[] })∧Below w.heap.size w w':=by
 have c1:w.drew.cell? ⟨b,1,none⟩=some (.slice none 0 0):=hb.cell 1;have hSD:(Builtin.unsafeSliceData_ #[83] 118 #[.slice none 0 0]).run Tryz.prog w.drew=.ok (.pointer none) w.drew:=Lib.run_unsafeSliceData_nil _ _ _ _ _;have hUS:(Builtin.unsafeString_ #[118,3] 9 #[.pointer none,.int .i64 0]).run Tryz.prog w.drew=.ok (.string .empty) w.drew:=Lib.run_unsafeString_none _ _ _ _ _;clear hb;have mixed:Tryz.prog.follows .mixedOrders=true:=by kernel_rfl
 go_enter Tryz.func36, Tryz.ntmps36
 go_wp2
 go_region_o
 all_goals (go_wp2;go_ret;exact⟨rfl,Below.drew (Below.refl _ w)⟩)
theorem zih(A D:Option Addr)(ca cd:Nat)(w:World):Calls Tryz.prog 12 #[.agg #[.slice D 0 cd,.slice A 0 ca]] w fun r w'=>r=.returned (.string { data:=#[] })∧Below w.heap.size w w':=by
 have HP0:Hid (∀W,W=(w.alloc (.cells #[.slice D 0 cd,.slice A 0 ca] 26)).alloc (.cells #[.pointer none,.slice none 0 0] 87)→Below w.heap.size w W∧Blk W (w.heap.size+1) 87 [.pointer none,.slice none 0 0]∧Blk W w.heap.size 26 [.slice D 0 cd,.slice A 0 ca]):=by
  rintro W rfl;exact⟨((Below.refl _ _).alloc lr _).alloc sy _,Blk.new' sy rfl,(Blk.new _ _ _).alloc _⟩
 have HN1:=qh ziy
 go_enter Tryz.func12, Tryz.ntmps12
 go_upto_region 2 with fail
 obtain⟨W2,hW2⟩:=ex9 ((w.alloc (.cells #[.slice D 0 cd,.slice A 0 ca] 26)).alloc (.cells #[.pointer none,.slice none 0 0] 87));rw[←hW2];have HQ:=qh (HP0.out W2 hW2);clear HP0 hW2;obtain⟨G,hG⟩:=ex9 (w.heap.size);rw[←hG]at HQ ⊢;have HGG:Hid (∀W,Below G w W→Below w.heap.size w W):=by subst hG;exact fun W h=>h
 clear hG;have s0:W2.cell? ⟨G,0,none⟩=some (.slice D 0 cd):=HQ.out.2.2.cell 0;have s1:W2.cell? ⟨G,1,none⟩=some (.slice A 0 ca):=HQ.out.2.2.cell 1;have s9:=HQ.out.2.2.lt;go_wp2
 go_loopg [9] 0 (fun kk q wr=>q=.int .i64 0∧W2=wr)
 case atStart=>exact⟨rfl,rfl⟩
 case round =>
  obtain⟨rfl,rfl⟩:=hrel
  go_wp2_with (first
   | (go_at_call 36;(refine(zoo HQ.out.2.1 lr).mono ?_);rintro e w5 ⟨rfl,hB5⟩;have H5:Hid (Below G w w5):=HQ.out.1.trans (hB5.mono (Nat.le_of_lt s9));clear hB5)
   | (go_at_call 35;(refine(HN1.out _ _ _ _).mono ?_);rintro e w4 ⟨rfl,rfl⟩))
  first|go_ret|go_end0
  exact⟨rfl,HGG.out _ H5.out⟩
theorem zii{F:Nat→Prop}{ts:List Lx.Tok}(hTk:TkOk ts)(t:Sr)(hd:∀d∈t.decls,WfD ts d)(hdl:t.decls.length≤1000000)(hs:∀s∈t.body,WfS ts s)(hbl:t.body.length≤1000000)(hbd:bdL t.body≤12)(A D:Option Addr)(ca cd:Nat)(w:World)(hD:DcsIn F w D t.decls)(hA:BodyIn F w A t.body)(hl:(prTop t).length≤1000000000)(hF:∀k,F k→k<w.heap.size)(hT:Tab w.heap.size w):Calls Tryz.prog 12 #[.agg #[.slice D t.decls.length cd,.slice A t.body.length ca]] w fun r w'=>r=.returned (.string (bytesOf (prTop t)))∧Below w.heap.size w w':=by
 by_cases hne:t.decls≠[]∨t.body≠[]
 · exact zln hTk t hd hdl hs hbl hbd hne A D ca cd w hD hA hl hF hT
 · have h1:t.decls=[]:=by by_cases h:t.decls=[];exact h;exact absurd (.inl h) hne
   have h2:t.body=[]:=by by_cases h:t.body=[];exact h;exact absurd (.inr h) hne
   obtain⟨ds,bs⟩:=t;dsimp only at h1 h2;subst h1;subst h2;have h3:=zih A D ca cd w;exact h3
end
end
end Go.Proofs.YtafjkbbiaopemaaGreatDoor.Tr
