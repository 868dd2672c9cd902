/- Part of the proof. -/
import Derived.Test.YtafjkbbiaopemaaGreatDoorBax15
set_option linter.all false
set_option maxRecDepth 100000
set_option maxHeartbeats 0
namespace Go.Proofs.YtafjkbbiaopemaaGreatDoor.Tr
open Go.RowKit
section
section
variable{gp gs:Nat}{A:Option Addr}{n c:Nat}{ts:List Lx.Tok}{s:PS}{w:World}
theorem tag_c(cx:Cx gp gs A n ts)(h:PSt gp gs A n c ts s w):Calls Tryz.prog 86 #[.pointer (some ⟨gp,0,none⟩)] w fun e w'=>e=.returned (.agg (rfC (tagP ts s).1).toArray)∧PSt gp gs A n c ts (tagP ts s).2 w'∧Wr [gp,gs] w w':=by
 have HAL:=qh (fun W (h:PSt gp gs A n c ts s W)=>zda cx h k_as);have HH:=qh (h.alloc (.cells #[.string { data:=#[] },.int .i64 0] 36));have HE:Hid (Wr [gp,gs] w (w.alloc (.cells #[.string { data:=#[] },.int .i64 0] 36))):=(Wr.refl _ _).alloc _;have HB:Hid (Blk (w.alloc (.cells #[.string { data:=#[] },.int .i64 0] 36)) w.heap.size 36 [.string { data:=#[] },.int .i64 0]):=Blk.new' rfl rfl;have HLO:=qh (h.lo cx)
 cases hs:sees ts [k_as] s
 · have HT:Hid (tagP ts s=(zR,s)):=(by show _=_;unfold tagP;rw[hs];rfl)
   have hA:alsoP ts k_as s=s:=by unfold alsoP;rw[hs];rfl
   rw[hs,hA]at HAL;rw[HT.out];clear h hs hA
   go_enter Tryz.func86, Tryz.ntmps86
   go_wp2_with (go_at_call 52;(refine(HAL.out _ (by exact HH.out)).mono ?_);rintro e w2 ⟨rfl,h2,hW2⟩;have H2:=qh h2;have HE2:=qh (HE.out.trans hW2);have HB2:Hid (Blk w2 w.heap.size 36 [.string { data:=#[] },.int .i64 0]):=Blk.wr HB.out hW2 HLO.out lr;obtain⟨z0,z1,f0,f1⟩:=HB2.out.two;clear h2 hW2)
   refine bodyPost_ret (res_c rfl _ w.heap.size 36 [.string { data:=#[] },.int .i64 0] rfl (by exact(HB2.out.set_ 0 _).set_ 1 _) _ Tryz.underlying36 rfl hdRf) rfl ⟨rfl,?_,?_⟩
   · exact(H2.out.setNew HLO.out lr _).setNew HLO.out lr _
   · exact(HE2.out.setNew lr _).setNew lr _
 · have HT:Hid (tagP ts s=refP ts (nxt s)):=(by show _=_;unfold tagP;rw[hs];rfl)
   have hA:alsoP ts k_as s=nxt s:=by unfold alsoP;rw[hs];rfl
   have HRF:=qh (fun W (h:PSt gp gs A n c ts (nxt s) W)=>ref_c cx h);rw[hs,hA]at HAL;rw[HT.out];generalize (refP ts (nxt s)).1=R at *;generalize (refP ts (nxt s)).2=q at *
   unfold rfC at HRF
   clear h hs hA HT
   go_enter Tryz.func86, Tryz.ntmps86
   go_wp2_with (first
    | (go_at_call 52;(refine(HAL.out _ (by exact HH.out)).mono ?_);rintro e w2 ⟨rfl,h2,hW2⟩;have H2:=qh h2;have HE2:=qh (HE.out.trans hW2);have HB2:Hid (Blk w2 w.heap.size 36 [.string { data:=#[] },.int .i64 0]):=Blk.wr HB.out hW2 HLO.out lr;clear h2 hW2)
    | (go_at_call 48;(refine(HRF.out _ (by exact H2.out)).mono ?_);rintro e w3 ⟨rfl,h3,hW3⟩;have H3:=qh h3;have HE3:=qh (HE2.out.trans hW3);have HB3:Hid (Blk w3 w.heap.size 36 [.string { data:=#[] },.int .i64 0]):=Blk.wr HB2.out hW3 HLO.out lr;obtain⟨z0,z1,f0,f1⟩:=HB3.out.two;clear h3 hW3))
   refine bodyPost_ret (res_c rfl _ w.heap.size 36 [.string R.name,.int .i64 R.at_] rfl (by exact(HB3.out.set_ 0 _).set_ 1 _) _ Tryz.underlying36 rfl hdRf) rfl ⟨rfl,?_,?_⟩
   · exact(H3.out.setNew HLO.out lr _).setNew HLO.out lr _
   · exact(HE3.out.setNew lr _).setNew lr _
end
end
section
theorem eRf:ElemIs Tryz.prog 36 2 24:=ElemIs.of (z:=.agg #[.string ByteArray.empty,.int .i64 0]) kr rfl om
theorem zbo(r:Rf):∀v∈rfC r,v.oneCell'=true:=by intro v hv;simp only[rfC,List.mem_cons,List.not_mem_nil,or_false]at hv;rcases hv with rfl|rfl <;> rfl
theorem zoz(r:Rf):(rfC r).length=2:=rfl
structure ViS(gp gs:Nat)(A:Option Addr)(n c:Nat)(ts:List Lx.Tok)(w0:World)(l:List Rf)(v:Value)(q:PS)(w:World):Prop where
 st:PSt gp gs A n c ts q w
 wr:Wr [gp,gs] w0 w
 own:w.ownsRow w0.heap.size 36 2 v l.length (l.flatMap rfC)
 lo:PLo gp gs A w0.heap.size
section
variable{gp gs:Nat}{A:Option Addr}{n c:Nat}{ts:List Lx.Tok}{s q q':PS}{w w' w0:World}{l:List Rf}{v v':Value}{X:Rf}
theorem ViS.call(h:ViS gp gs A n c ts w0 l v q w)(hs:PSt gp gs A n c ts q' w')(hW:Wr [gp,gs] w w'):ViS gp gs A n c ts w0 l v q' w' :=
 ⟨hs,h.wr.trans hW,zav h.own (fun k hk hlt _=>hW.block k hlt (fun hm=>by
  have h1:=h.lo.1;have h2:=h.lo.2.1;simp only[List.mem_cons,List.not_mem_nil,or_false]at hm
  omega)),h.lo⟩
theorem ViS.push(h:ViS gp gs A n c ts w0 l v q w){w5:World}(hg:(w.alloc (.cells (rfC X).toArray 36)).grownBy w5 v.ownBlock)
 (ho:w5.ownsRow w0.heap.size 36 2 v' (l.length+1) (l.flatMap rfC++rfC X)):ViS gp gs A n c ts w0 (l++[X]) v' q w5:=by
 have hB5:Below w0.heap.size w w5:=((Below.refl _ w).alloc h.wr.size _).grown hg (Nat.le_trans h.wr.size sy) (fun k hk=>(h.own.lt k hk).1);refine⟨h.st.belowB h.lo hB5,h.wr.thenb hB5,?_,h.lo⟩;rw[la9,List.flatMap_append]
 simpa using ho
theorem ViS.fin(h:ViS gp gs A n c ts w0 l v q w):∃A' c',v=.slice A' l.length c'∧RfsIn (Fr w0.heap.size) w A' l:=by
 obtain⟨A',c',rfl,hc⟩:=zc5 h.own;refine⟨A',c',rfl,RdS.ofOwn3 h.own,fun hn ad e=>?_⟩;subst e;have h5:=h.own
 rcases h5.2 with ⟨h6,h0⟩|⟨g,cap,cur,hv,hb,_⟩
 · omega
 · injection hv with hA
   injection hA with hA
   subst hA;exact⟨hb,zdw h5 rfl⟩
def viL(ts:List Lx.Tok)(b:Bool)(kk:Nat)(l:List Rf)(q:PS):List Rf × PS:=if b=true then refLoop ts kk l q else (l,q)
theorem via_c(cx:Cx gp gs A n ts)(h:PSt gp gs A n c ts s w)(b:Bool):Calls Tryz.prog 85 #[.pointer (some ⟨gp,0,none⟩),.bool b] w fun e w'=>∃A' c',e=.returned (.slice A' (viaP ts b s).1.length c')∧RfsIn (Fr w.heap.size) w' A' (viaP ts b s).1∧PSt gp gs A n c ts (viaP ts b s).2 w'∧Wr [gp,gs] w w':=by
 have HTK:=qh (fun W (h:PSt gp gs A n c ts s W)=>zbk cx h k_via);have HRF:=qh (fun q W (h:PSt gp gs A n c ts q W)=>ref_c cx h);have HAL:=qh (fun q W (h:PSt gp gs A n c ts q W)=>zda cx h m_comma);have HT:Hid (viaP ts b s=viL ts b (ts.length+1) [(refP ts (takeP ts k_via s)).1] (refP ts (takeP ts k_via s)).2):=(by show _=_;unfold viaP viL;cases b <;> rfl);rw[HT.out];have HLO:=qh (h.lo cx);have HH:=qh h;have HRF1:=qh (fun W (h:PSt gp gs A n c ts (takeP ts k_via s) W)=>HRF.out _ W h);generalize (refP ts (takeP ts k_via s)).1=X0 at *;generalize (refP ts (takeP ts k_via s)).2=q1 at *;generalize takeP ts k_via s=q0 at *;generalize hR:viL ts b (ts.length+1) [X0] q1=R at *;have HR:=qh hR
 unfold rfC at HRF1
 clear h hR HT
 go_enter Tryz.func85, Tryz.ntmps85
 go_wp2_with (first
  | (go_at_call 49;(refine(HTK.out _ (by exact HH.out)).mono ?_);rintro e w2 ⟨rfl,h2,hW2⟩;have H2:=qh h2;have HE2:=qh hW2;clear h2 hW2)
  | (go_at_call 48;(refine(HRF1.out _ (by exact H2.out)).mono ?_);rintro e w3 ⟨rfl,h3,hW3⟩
     have HV0:Hid (ViS gp gs A n c ts w [X0] (.slice (some ⟨w3.heap.size,0,none⟩) 1 1) q1 (w3.alloc (.cells (rfC X0).toArray 36))) :=
      ⟨h3.alloc _,(HE2.out.trans hW3).alloc _,zbu (cs:=rfC X0) (Blk.new' rfl rfl) (HE2.out.trans hW3).size 1 1 2 om (by simp[zoz]) om,HLO.out⟩
     clear h3 hW3))
 have HTL:=qh (fun(kk:Nat) (l:List Rf) (q:PS)=>(⟨rfl,fun h=>(by rw[viL,if_pos rfl,refLoop,if_neg (by rw[h];simp)]),fun h=>(by rw[viL,if_pos rfl,viL,if_pos rfl,refLoop,if_pos h])⟩:(viL ts false (kk+1) l q=(l,q))∧(sees ts [m_comma] q=false→viL ts true (kk+1) l q=(l,q))∧(sees ts [m_comma] q=true→viL ts true (kk+1) l q=viL ts true kk (l++[(refP ts (nxt q)).1]) (refP ts (nxt q)).2)));have HRG:Hid (∀q,Pg ts q (refP ts q).2):=fun q=>ref_g cx.ends q
 clear HTK HRF1 HH
 go_loopg [5] ts.length (fun kk v wr=>∃(l:List Rf) (q:PS),ViS gp gs A n c ts w l v q wr∧ts.length≤kk+q.i∧viL ts b (kk+1) l q=R∧l.length≤q.i+1)
 case atStart=>exact⟨[X0],q1,HV0.out,by omega,HR.out,by simp⟩
 case round =>
  clear HV0 HR;obtain⟨l,q,hV,hk,hT,hl⟩:=hrel
  cases b
  · have HF:=qh hV
    have HRR:Hid (R=(l,q)):=hT.symm.trans (HTL.out gk l q).1;obtain⟨A9,c9,rfl,hr9⟩:=hV.fin;have HR9:=qh hr9;clear hV hT hk hl hr9
    go_wp2_with fail
    go_ret;rw[HRR.out];exact⟨A9,c9,rfl,HR9.out,HF.out.st,HF.out.wr⟩
  · cases hs:sees ts [m_comma] q
    · have HAL1:=HAL.out q _ hV.st
      have hA:alsoP ts m_comma q=q:=by unfold alsoP;rw[hs];rfl
      rw[hs,hA]at HAL1;have HAL1:=qh HAL1;have HRR:Hid (R=(l,q)):=hT.symm.trans ((HTL.out gk l q).2.1 hs);have HS:=qh hV;obtain⟨A9,c9,rfl,_⟩:=hV.fin;clear hV hT hk hl hs hA
      go_wp2_with (go_at_call 52;(refine(HAL1.out).mono ?_);rintro e w2 ⟨rfl,h2,hW2⟩;have HS2:=qh (HS.out.call h2 hW2);clear h2 hW2)
      obtain⟨A8,c8,e8,hr8⟩:=HS2.out.fin
      injection e8 with e8 _ e9
      subst e8 e9;go_ret;rw[HRR.out];exact⟨A9,c9,rfl,hr8,HS2.out.st,HS2.out.wr⟩
    · have HAL1:=HAL.out q _ hV.st
      have hA:alsoP ts m_comma q=nxt q:=by unfold alsoP;rw[hs];rfl
      rw[hs,hA]at HAL1;have HAL1:=qh HAL1;have hlt:=zam cx.ends hs;have HI3:Hid (q.i+1≤(refP ts (nxt q)).2.i):=(HRG.out (nxt q)).le;have HT2:=qh (((HTL.out gk l q).2.2 hs).symm.trans hT);have HKL:=qh (And.intro hk (And.intro hlt hl));have HX:=qh (fun W (h:PSt gp gs A n c ts (nxt q) W)=>HRF.out _ W h);have HS:=qh hV;have hl8:l.length≤100000:=by have:=cx.hn;have:=cx.hn8;omega
      obtain⟨A9,c9,rfl,_⟩:=hV.fin;generalize (refP ts (nxt q)).1=X at *;generalize (refP ts (nxt q)).2=q3 at *;clear hV hT hk hl hs hA hlt
      unfold rfC at HX
      go_wp2_with (first
       | (go_at_call 52;(refine(HAL1.out).mono ?_);rintro e w2 ⟨rfl,h2,hW2⟩;have HS2:=qh (HS.out.call h2 hW2);clear h2 hW2)
       | (go_at_call 48;(refine(HX.out _ (by exact HS2.out.st)).mono ?_);rintro e w3 ⟨rfl,h3,hW3⟩;have HS3:=qh (HS2.out.call h3 hW3);clear h3 hW3)
       | (at_builtin;refine zas rfl (.tmp 16) (.tmp 19) 40 rfl w.heap.size 36 2 24 Tryz.underlying40 eRf (.slice A9 l.length c9) l.length (l.flatMap rfC) rr (by exact HS3.out.own.alloc _) (some ⟨w3.heap.size,0,none⟩) 1 1 (rfC X) rr (by exact RdS.new w3 _ (rfC X) 2 rfl) (zbo X) om om (by have:=HS3.out.wr.size;simp;omega) ?_;intro A5 c5 w5 hown5 hc5 hg5 hat5;have HS5:=qh (HS3.out.push (by exact hg5) hown5);clear hown5 hc5 hg5 hat5))
      have hk5:=HKL.out;have hi5:=HI3.out;have e5:(l++[X]).length=l.length+1:=by simp
      go_roundg (gk-1)
      case measure=>omega
      case rel=>exact⟨l++[X],q3,HS5.out,by omega,by rw[show gk-1+1=gk by omega];exact HT2.out,by omega⟩
end
end
end Go.Proofs.YtafjkbbiaopemaaGreatDoor.Tr
