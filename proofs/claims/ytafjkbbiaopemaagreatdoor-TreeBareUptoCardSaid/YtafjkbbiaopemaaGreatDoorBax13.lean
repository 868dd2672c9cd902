/- Part of the proof. -/
import Derived.Test.YtafjkbbiaopemaaGreatDoorBax11
set_option linter.all false
set_option maxRecDepth 100000
set_option maxHeartbeats 0
namespace Go.Proofs.YtafjkbbiaopemaaGreatDoor.Tr
open Go.RowKit
section
theorem Rd.two'{w:World}{t:TypeId}{T U:ByteArray}{g:Nat}(hg:g=w.heap.size):Rd (w.alloc (.cells #[.string T,.string U] t)) (some ⟨g,0,none⟩) 2 (strs [T,U]):=by
 subst hg;have hb:Blk (w.alloc (.cells #[.string T,.string U] t)) w.heap.size t [.string T,.string U]:=Blk.new' rfl rfl;exact⟨rfl,fun _=>⟨w.heap.size,0,rfl,hb.lt,fun j u hu=>by rw[Nat.zero_add,hb.cell];exact hu⟩⟩
section
variable{gp gs:Nat}{A:Option Addr}{n c:Nat}{ts:List Lx.Tok}{s q q':PS}{w w' w0:World}{g:Nat}{E:Ex}{a:Option Addr × Nat}
theorem expr_c(cx:Cx gp gs A n ts)(ex:PS→Ex × PS)(d:Nat)(hf:ExK gp gs A n c ts 83 (termP ts ex) (Q d))(hg:∀s,Pg ts s (termP ts ex s).2):ExK gp gs A n c ts 50 (exprG ts ex) (Q d):=by
 intro s w h hq;have HF:=qh (fun s W (h:PSt gp gs A n c ts s W) hq=>hf s W h hq);have HA:=qh (fun q W A1 (h:PSt gp gs A n c ts q W) (hl:Rd W A1 2 (strs [m_plus,m_minus]))=>zb1 cx h [m_plus,m_minus] A1 2 2 hl om);have c0:∀W q,PSt gp gs A n c ts q W→W.cell? ⟨gp,0,none⟩=some (.pointer (some ⟨gs,0,none⟩)):=fun W q h=>h.par.cell 0
 have HC0:=qh c0;clear c0;have HH:=qh (h.alloc (.cells #[.string { data:=#[] },.int .i64 0,.string { data:=#[] },.int .i64 0,.slice none 0 0] 39));have HE:Hid (Wr [gp,gs] w (w.alloc (.cells #[.string { data:=#[] },.int .i64 0,.string { data:=#[] },.int .i64 0,.slice none 0 0] 39))):=(Wr.refl _ _).alloc _;have HB:Hid (Blk (w.alloc (.cells #[.string { data:=#[] },.int .i64 0,.string { data:=#[] },.int .i64 0,.slice none 0 0] 39)) w.heap.size 39 zEc):=Blk.new' rfl rfl;have HLO:=qh (h.lo cx);have HQ:=qh hq;have HQ1:=qh (hq.pg (hg s));have HT:Hid (exprG ts ex s=exprLoop ts ex (ts.length+1) (termP ts ex s).1 (termP ts ex s).2):=rfl;rw[HT.out];have HF1:=qh (HF.out s _ HH.out hq);clear h hq HT;generalize (termP ts ex s).1=E1 at *;generalize (termP ts ex s).2=q1 at *;generalize hR:exprLoop ts ex (ts.length+1) E1 q1=R at *;have HR:=qh hR;clear hR
 unfold exC at HF1
 go_enter Tryz.func50, Tryz.ntmps50
 go_wp2_with (go_at_call 83;(refine(HF1.out).mono ?_);rintro e w1 ⟨a1,rfl,ha1,h1,hW1⟩;have HS1:Hid (TmS gp gs A n c ts w w1.heap.size E1 q1 a1 (w1.alloc (.cells (exC E1 a1).toArray 39))):=⟨h1.alloc _,(HE.out.trans hW1).alloc _,(Blk.wr HB.out hW1 HLO.out lr).alloc _,Blk.new' rfl rfl,(ha1.keep (zh6 HB.out.lt rfl)).keep (zdo _),(Blk.wr HB.out hW1 HLO.out lr).lt,HLO.out⟩;clear ha1 h1 hW1)
 have hzl:w.heap.size<w1.heap.size:=HS1.out.lt;have HTL:=qh (fun(kk:Nat) (E:Ex) (q:PS)=>(⟨fun h=>(by rw[exprLoop,if_neg (by rw[h];simp)]),fun h=>(by rw[exprLoop,if_pos h])⟩:(sees ts [m_plus,m_minus] q=false→exprLoop ts ex (kk+1) E q=(E,q))∧(sees ts [m_plus,m_minus] q=true→exprLoop ts ex (kk+1) E q=exprLoop ts ex kk (.mk (bytesOf (pk ts q).text) 0 zs E.at_ [E,(termP ts ex (nxt q)).1]) (termP ts ex (nxt q)).2)));clear HH HE HB HF1
 go_loopg [4] ts.length (fun kk q4 wr=>∃(E:Ex) (q:PS) (a:Option Addr × Nat),TmS gp gs A n c ts w w1.heap.size E q a wr∧ts.length≤kk+q.i∧exprLoop ts ex (kk+1) E q=R∧Q d q)
 case atStart=>exact⟨E1,q1,a1,HS1.out,by omega,HR.out,HQ1.out⟩
 case round =>
  clear HS1 HR HQ1 HQ;obtain⟨E,q,a,hS,hk,hT,hQ⟩:=hrel
  cases hs:sees ts [m_plus,m_minus] q
  · have HS:=qh hS
    have HRR:Hid (R=(E,q)):=hT.symm.trans ((HTL.out gk E q).1 hs);have HALL:=qh (fun W A1 h1 h2=>hs ▸ HA.out q W A1 h1 h2);clear hS hk hT hQ hs HTL HA
    go_wp2_with (go_at_call 20;(refine(HALL.out _ _ (by exact HS.out.st.alloc _) (by exact Rd.two' rfl)).mono ?_);rintro e w2 ⟨rfl,hB2⟩;have HS2:=qh (HS.out.call ((HS.out.st.alloc _).below hB2) (((Wr.refl _ _).alloc _).trans (Wr.of_below hB2)));have he2:=HS2.out.e;obtain⟨n0,n1,n2,n3,n4⟩:=Blk.five he2;obtain⟨z0,z1,z2,z3,z4⟩:=Blk.five HS2.out.z;obtain⟨f0,f1,f2,f3,f4⟩:=Blk.fro5 HS2.out.z;clear hB2 he2)
    refine bodyPost_ret (res_c rfl _ w.heap.size 39 (exC E a) rfl (by exact((((HS2.out.z.set_ 0 _).set_ 1 _).set_ 2 _).set_ 3 _).set_ 4 _) _ Tryz.underlying39 rfl hdEx) rfl ?_;rw[HRR.out];refine⟨a,rfl,?_,?_,?_⟩
    · exact(((((HS2.out.ar.keep (zaq _)).keep (zaq _)).keep (zaq _)).keep (zaq _)).keep (zaq _)).keep zcw
    · exact((((HS2.out.st.setNew HLO.out lr _).setNew HLO.out lr _).setNew HLO.out lr _).setNew HLO.out lr _).setNew HLO.out lr _
    · exact((((HS2.out.wr.setNew lr _).setNew lr _).setNew lr _).setNew lr _).setNew lr _
  · have HS:=qh hS
    have hk6:(tokAt ts q.i).kind≠6:=fun e=>by have h2:=hs;unfold sees isOf pk at h2;rw[e]at h2;simp at h2
    have HNX:=qh (fun W (h:PSt gp gs A n c ts q W)=>zcc cx h hk6);have HALL:=qh (fun W A1 h1 h2=>hs ▸ HA.out q W A1 h1 h2);have hlt:=zam cx.ends hs;have hQ2:Q d (nxt q):=hQ.pg (nxt_g hlt (zag hs));have HFX:=qh (fun W (h:PSt gp gs A n c ts (nxt q) W)=>HF.out (nxt q) W h hQ2);have HQ3:=qh (hQ2.pg (hg (nxt q)));have HI3:Hid (q.i+1≤(termP ts ex (nxt q)).2.i):=(hg (nxt q)).le;have HT2:=qh (((HTL.out gk E q).2 hs).symm.trans hT);have HKL:=qh (And.intro hk hlt);clear hS hk hT hQ hs HTL hlt hQ2 hk6 HA;generalize (termP ts ex (nxt q)).1=X at *;generalize (termP ts ex (nxt q)).2=q3 at *
    unfold pk at *
    generalize tokAt ts q.i=t at *
    unfold tokCells at HNX
    have hf:=fld1 (.int .i64 t.kind) (.string (bytesOf t.text)) (.int .i64 t.num) (.int .i64 t.at_)
    go_wp2_with (first
     | (go_at_call 20;(refine(HALL.out _ _ (by exact HS.out.st.alloc _) (by exact Rd.two' rfl)).mono ?_);rintro e w4 ⟨rfl,hB4⟩;have HS4:=qh (HS.out.call ((HS.out.st.alloc _).below hB4) (((Wr.refl _ _).alloc _).trans (Wr.of_below hB4)));have c4:=HC0.out _ _ HS4.out.st;clear hB4)
     | (go_at_call 47;(refine(HNX.out _ (by exact HS4.out.st)).mono ?_);rintro e w2 ⟨rfl,h2,hW2⟩;have HS2:=qh (HS4.out.call h2 hW2);clear h2 hW2))
    have HB0:Hid (Blk w2.drew w1.heap.size 39 (exC E a)):=HS2.out.e.drew;refine kgo kr 8 (fun W'=>Blk W' w1.heap.size 39 (exC E a)) HB0.out (fun _ _ _ _ _ h=>h) ?_;refine kp 0 (.string (bytesOf t.text)) rfl kr (fun _=>kr) ?_;refine kp 1 (.pointer (some ⟨w1.heap.size,3,none⟩)) rfl kr (fun _=>kr) ?_;refine kl 2 (.int .i64 E.at_) rfl kr (fun w' hw'=>zah (t:=3) (x:=.tmp 17) rr kr agIn (hw'.cell 3)) ?_;refine kl 3 (.agg (exC E a).toArray) rfl kr (fun w' hw'=>zh9 (x:=.tmp 3) rr kr (HS2.out.ld hw')) ?_;refine kp 4 (.pointer (some ⟨gp,0,none⟩)) rfl kr (fun _=>kr) ?_;intro q8 q9;clear q8 q9;have HD2:Hid (TmS gp gs A n c ts w w1.heap.size E (nxt q) a w2.drew):=HS2.out.call (HS2.out.st.below ((Below.refl _ _).drew)) (Wr.of_below ((Below.refl _ _).drew));refine AnyK.enter 5 (d:=some 21) (f:=83) (args:=#[.pointer (some ⟨gp,0,none⟩)]) rr kr kr ?_;refine(HFX.out _ HD2.out.st).mono ?_;rintro e w3 ⟨y,rfl,hy3,h3,hW3⟩;have hl2:=HD2.out.e.lt;have HS3:=qh (HD2.out.call h3 hW3);have HY3:=qh (hy3.keep (zkz (g:=w1.heap.size) (Nat.lt_trans hzl hl2) hl2));clear hy3 h3 hW3;refine⟨_,rfl,fun _=>HS3.out.e,?_⟩;refine AnyK.main 6 rr kr rfl (fun K hK=>zbz (zoc 37 39 (.tmp 19) (.tmp 21) rr (exC E a) (exC X y) kr kr Tryz.underlying37 kr rfl (by rw[zcz];omega) (by rw[zcz];omega)) (hK _ _ ⟨fun _=>HS3.out.e.alloc _,?_⟩));refine AnyK.val 7 (v:=.agg (exC (.mk (bytesOf t.text) 0 zs E.at_ [E,X]) (some ⟨w3.heap.size,0,none⟩,2)).toArray) rr kr rfl (zod 39 [(0,.tmp 16),(3,.tmp 18),(4,.tmp 22)] rr [(0,.string (bytesOf t.text)),(3,.int .i64 E.at_),(4,.slice (some ⟨w3.heap.size,0,none⟩) 2 2)] kr kr) (fun _=>HS3.out.e.alloc _) ?_;refine AnyK.storeAll 8 w1.heap.size (exC (.mk (bytesOf t.text) 0 zs E.at_ [E,X]) (some ⟨w3.heap.size,0,none⟩,2)) 39 (exC E a) rr rfl rfl rr kr kr kr (HS3.out.e.alloc _) hdEx (zau _ _) rfl (fun _ _ _ h=>(by cases h)) ?_;intro w5 hb5 ho5;have HS5:=qh (HS3.out.grow HY3.out hb5 ho5);refine AnyK.done kr ?_;clear hb5 ho5;go_wp2;have hk5:=HKL.out;have hi5:=HI3.out;go_roundg (gk-1)
    case measure=>omega
    case rel=>exact⟨_,q3,_,HS5.out,by omega,by rw[show gk-1+1=gk by omega];exact HT2.out,HQ3.out⟩
end
end
end Go.Proofs.YtafjkbbiaopemaaGreatDoor.Tr
