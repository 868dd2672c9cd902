/- Part of the proof. -/
import Derived.Test.YtafjkbbiaopemaaGreatDoorOpx22
set_option linter.all false
set_option maxRecDepth 100000
set_option maxHeartbeats 0
namespace Go.Proofs.YtafjkbbiaopemaaGreatDoor.Tr
open Go.RowKit
section
structure RQS(d:Nat)(s:RS):Prop where
 q:RQ 14 s
 b0:0≤s.bo
 b1:s.bo≤13
 d1:1≤d
 ok:s.bad=false→s.bo≤12∧14≤(d:Int)+s.bo
section
variable{ts:List Lx.Tok}{s q:RS}{d:Nat}
theorem RP.okof(h:RP s q)(hq:q.bad=false):s.bad=false:=by
 cases hb:s.bad
 · rfl
 · rw[(h.st hb).1]at hq;cases hq
theorem RQS.rp(h:RQS d s)(k:RP s q):RQS d q:=⟨h.q.rp k,by rw[k.bo];exact h.b0,by rw[k.bo];exact h.b1,h.d1,fun hq=>by rw[k.bo];exact h.ok (k.okof hq)⟩
theorem RQ.bo{d:Nat}(h:RQ d s)(b:Int):RQ d { s with bo:=b }:=⟨h.p0,h.p1,h.d1,h.ok⟩
theorem rbo_ok(h:(rbo ts s).bad=false):s.bad=false∧s.bo≠12:=by
 have h1:=ziy (ts:=ts) s;refine⟨h1.okof h,fun h12=>?_⟩
 cases hi:rIs ts m_lbr s
 · have hh:(rbo ts s).bad=(rneed ts m_lbr s).bad:=by unfold rbo;dsimp only;rw[hi];rfl
   rw[hh,zms hi]at h
   cases h
 · have hh:(rbo ts s).bad=(rneed ts m_lbr (rstop ts 11 s)).bad:=by unfold rbo;dsimp only;rw[if_pos (by rw[hi,h12];rfl)]
   rw[hh,((za2 m_lbr (rstop ts 11 s)).st (zgi _ _)).1]at h
   cases h
theorem RQS.down(hq:RQS (d+1) s)(h:(rbo ts s).bad=false):RQS d (rbo ts s):=by
 obtain⟨h1,h2⟩:=rbo_ok h;obtain⟨h3,h4⟩:=hq.ok h1;have h5:(rbo ts s).bo=s.bo+1:=rfl;have h6:=hq.b0;exact⟨(hq.q.rp (ziy (ts:=ts) s)).bo _,by omega,by omega,by omega,fun _=>by omega⟩
end
def RStK(gp:Nat)(A:Option Addr)(n c:Nat)(ts:List Lx.Tok)(P:RS→St × RS)(R:RS→Prop):Prop :=
 ∀(s:RS) (w:World),RSt gp A n c ts s w→R s→rbegins ts s=true→Calls Tryz.prog 68 #[.pointer (some ⟨gp,0,none⟩)] w fun e w'=>∃p:StA,e=.returned (.agg (stC (P s).1 p).toArray)∧StIn (Fr w.heap.size) w' (P s).1 p∧RSt gp A n c ts (P s).2 w'∧Wr [gp] w w'
def RBoK(gp:Nat)(A:Option Addr)(n c:Nat)(ts:List Lx.Tok)(f:FuncId)(P:RS→List St × RS)(R:RS→Prop):Prop :=
 ∀(s:RS) (w:World),RSt gp A n c ts s w→R s→Calls Tryz.prog f #[.pointer (some ⟨gp,0,none⟩)] w fun e w'=>∃A' c',e=.returned (.slice A' (P s).1.length c')∧BodyIn (Fr w.heap.size) w' A' (P s).1∧RSt gp A n c ts (P s).2 w'∧Wr [gp] w w'
end
section
section
variable{ts:List Lx.Tok}{s:RS}
theorem zkj{t:Lx.Tok}: isOf t ten=(isOf t [k_send] || (isOf t [k_split] || (isOf t [k_cover] || (isOf t [k_wait] || (isOf t [k_block] || (isOf t [k_after] || (isOf t [k_repeat] || (isOf t [k_retry] || (isOf t [k_every] || isOf t [k_if]))))))))):=by
 unfold isOf bmem ten
 simp only[List.map_cons,List.map_nil,List.contains_cons,List.contains_nil,Bool.or_false];generalize (decide (t.kind=2)|| decide (t.kind=5))=z
 cases z
 · rfl
 · simp only[Bool.true_and]
theorem rb_yes{j:Nat}(hj:j<10)(h:rIs ts (ten.getD j zs) s=true):rbegins ts s=true:=by
 unfold rIs at h
 unfold rbegins
 simp only[Bool.and_eq_true]at h ⊢;refine⟨h.1,?_⟩;rw[zkj];have h2:=h.2
 match j,hj with
 | 0,_=>rw[show isOf (rk ts s) [k_send]=true from h2];rfl
 | 1,_=>rw[show isOf (rk ts s) [k_split]=true from h2];simp
 | 2,_=>rw[show isOf (rk ts s) [k_cover]=true from h2];simp
 | 3,_=>rw[show isOf (rk ts s) [k_wait]=true from h2];simp
 | 4,_=>rw[show isOf (rk ts s) [k_block]=true from h2];simp
 | 5,_=>rw[show isOf (rk ts s) [k_after]=true from h2];simp
 | 6,_=>rw[show isOf (rk ts s) [k_repeat]=true from h2];simp
 | 7,_=>rw[show isOf (rk ts s) [k_retry]=true from h2];simp
 | 8,_=>rw[show isOf (rk ts s) [k_every]=true from h2];simp
 | 9,_=>rw[show isOf (rk ts s) [k_if]=true from h2];simp
theorem rb_no(h:∀j,j<10→rIs ts (ten.getD j zs) s=false):rbegins ts s=false:=by
 cases hb:s.bad
 · have e:∀T,rIs ts T s=isOf (rk ts s) [T]:=fun T=>by unfold rIs;rw[hb];rfl
   unfold rbegins
   rw[hb,zkj];have h0:=h 0 om;have h1:=h 1 om;have h2:=h 2 om;have h3:=h 3 om;have h4:=h 4 om;have h5:=h 5 om;have h6:=h 6 om;have h7:=h 7 om;have h8:=h 8 om;have h9:=h 9 om;rw[e]at h0 h1 h2 h3 h4 h5 h6 h7 h8 h9;rw[show isOf (rk ts s) [k_send]=false from h0,show isOf (rk ts s) [k_split]=false from h1,show isOf (rk ts s) [k_cover]=false from h2,show isOf (rk ts s) [k_wait]=false from h3,show isOf (rk ts s) [k_block]=false from h4,show isOf (rk ts s) [k_after]=false from h5,show isOf (rk ts s) [k_repeat]=false from h6,show isOf (rk ts s) [k_retry]=false from h7,show isOf (rk ts s) [k_every]=false from h8,show isOf (rk ts s) [k_if]=false from h9]
   rfl
 · unfold rbegins;rw[hb];rfl
end
section
variable{gp:Nat}{A:Option Addr}{n c:Nat}{ts:List Lx.Tok}{s:RS}{w w':World}
theorem zqk(cx:RCx gp A n ts)(h:RSt gp A n c ts s w):Calls Tryz.prog 67 #[.pointer (some ⟨gp,0,none⟩)] w fun e w'=>e=.returned (.bool (rbegins ts s))∧Below w.heap.size w w':=by
 have HI:=qh (fun T W (h:RSt gp A n c ts s W)=>is_c T cx h);have HW0:Hid (RSt gp A n c ts s (w.alloc (.cells (strs ten).toArray 132))∧Blk (w.alloc (.cells (strs ten).toArray 132)) w.heap.size 132 (strs ten)∧Below w.heap.size w (w.alloc (.cells (strs ten).toArray 132))):=⟨h.alloc _,Blk.new _ _ _,(Below.refl _ _).alloc lr _⟩;have HY:=qh (fun j hj h=>@rb_yes ts s j hj h);have HN:=qh (fun h=>@rb_no ts s h)
 have HG:Hid (∀(W:World) j,j<10→Blk W w.heap.size 132 (strs ten)→W.cell? ⟨w.heap.size,j,none⟩=some (.string (ten.getD j zs))∧w.heap.size<W.heap.size):=fun W j hj hb=>by
  refine⟨?_,hb.lt⟩;rw[hb.cell]
  match j,hj with
  | 0,_=>rfl
  | 1,_=>rfl
  | 2,_=>rfl
  | 3,_=>rfl
  | 4,_=>rfl
  | 5,_=>rfl
  | 6,_=>rfl
  | 7,_=>rfl
  | 8,_=>rfl
  | 9,_=>rfl
 clear h cx
 go_enter Tryz.func67, Tryz.ntmps67
 go_wp2
 go_loopg [4] 10 (fun kk v wr=>∃j:Nat,v=.int .i64 j∧kk+j=10∧(∀k,k<j→rIs ts (ten.getD k zs) s=false)∧RSt gp A n c ts s wr∧Blk wr w.heap.size 132 (strs ten)∧Below w.heap.size w wr)
 case atStart=>exact⟨0,rfl,rfl,fun k hk=>absurd hk om,HW0.out⟩
 case round =>
  obtain⟨j,rfl,hk,hno,hS,hb,hB⟩:=hrel;have HS:=qh (And.intro hS (And.intro hb hB));have HNO:=qh hno;clear hno hB hS HW0
  by_cases hj:j<10
  · obtain⟨hc,hgl⟩:=HG.out wr j hj hb
    have hj2:(j:Int)<10:=om;have HIJ:=qh (HI.out (ten.getD j zs) wr HS.out.1)
    have HNO1:=qh (fun hh:rIs ts (ten.getD j zs) s=false=>(fun k (hk:k<j+1)=>(by
     rcases Nat.lt_or_ge k j with h5|h5
     · exact HNO.out k h5
     · rw[show k=j by omega];exact hh):∀k,k<j+1→rIs ts (ten.getD k zs) s=false))
    have HYJ:=qh (HY.out j hj);clear hb HY HN HI HNO HG;generalize ten.getD j zs=T at *
    cases hz:rIs ts T s
    · rw[hz]at HIJ
      have HNO2:=qh (HNO1.out hz);clear hz HNO1 HYJ
      go_wp2_with (go_at_call 26;(refine(HIJ.out).mono ?_);rintro e1 w2 ⟨rfl,hB2⟩;have H2:Hid (RSt gp A n c ts s w2∧Blk w2 w.heap.size 132 (strs ten)∧Below w.heap.size w w2):=⟨HS.out.1.below hB2,HS.out.2.1.below hB2 HS.out.2.1.lt,HS.out.2.2.trans (hB2.mono HS.out.2.2.size)⟩;clear hB2)
      go_roundg (gk-1)
      case measure=>omega
      case rel=>exact⟨j+1,by simp,by omega,HNO2.out,H2.out⟩
    · rw[hz]at HIJ
      have HRT:Hid (rbegins ts s=true):=HYJ.out hz;clear hz HNO1 HYJ
      go_wp2_with (go_at_call 26;(refine(HIJ.out).mono ?_);rintro e1 w2 ⟨rfl,hB2⟩;have H2:Hid (Below w.heap.size w w2):=HS.out.2.2.trans (hB2.mono HS.out.2.2.size);clear hB2)
      go_ret;rw[HRT.out];exact⟨rfl,H2.out⟩
  · have hj2:¬(j:Int)<10:=om
    have HRF:Hid (rbegins ts s=false):=HN.out (fun k hk=>HNO.out k om);clear hb;go_wp2;go_ret;rw[HRF.out];exact⟨rfl,HS.out.2.2⟩
def rviL(ts:List Lx.Tok)(b:Bool)(kk:Nat)(l:List Rf)(q:RS):List Rf × RS:=if b=true then rrefLoop ts kk l q else (l,q)
theorem zbw(cx:RCx gp A n ts)(h:RSt gp A n c ts s w)(b:Bool):Calls Tryz.prog 90 #[.pointer (some ⟨gp,0,none⟩),.bool b] w fun e w'=>∃A' c',e=.returned (.slice A' (rroutes ts b s).1.length c')∧RfsIn (Fr w.heap.size) w' A' (rroutes ts b s).1∧RSt gp A n c ts (rroutes ts b s).2 w'∧Wr [gp] w w':=by
 have HRF:=qh (fun q W (h:RSt gp A n c ts q W)=>zcy cx h);have HAL:=qh (fun q W (h:RSt gp A n c ts q W)=>zbp m_comma cx h);have HT:Hid (rroutes ts b s=rviL ts b (ts.length+1) [(rname ts s).1] (rname ts s).2):=(by show _=_;unfold rroutes rviL;cases b <;> rfl);rw[HT.out];have HLO:=qh (h.lo cx);have HH:=qh h;have HRF1:=qh (fun W (h:RSt gp A n c ts s W)=>HRF.out _ W h);generalize (rname ts s).1=X0 at *;generalize (rname ts s).2=q1 at *;generalize hR:rviL ts b (ts.length+1) [X0] q1=R at *;have HR:=qh hR;have HCX:=qh cx;clear h hR HT cx
 go_enter Tryz.func90, Tryz.ntmps90
 go_wp2_with (go_at_call 62;(refine(HRF1.out _ (by exact HH.out)).mono ?_);rintro e w3 ⟨rfl,h3,hW3⟩
              have HV0:Hid (RVi gp A n c ts w [X0] (.slice (some ⟨w3.heap.size,0,none⟩) 1 1) q1 (w3.alloc (.cells (rfC X0).toArray 36))) :=
               ⟨h3.alloc _,hW3.alloc _,zcw (cs:=rfC X0) (Blk.new' rfl rfl) hW3.size 1 1 2 om (by simp[zm0]) om,HLO.out⟩
              clear h3 hW3)
 have HTL:=qh (fun(kk:Nat) (l:List Rf) (q:RS)=>(⟨rfl,fun h=>(by rw[rviL,if_pos rfl,rrefLoop,if_neg (by rw[h];simp)]),fun h=>(by rw[rviL,if_pos rfl,rviL,if_pos rfl,rrefLoop,if_pos h])⟩:(rviL ts false (kk+1) l q=(l,q))∧(rIs ts m_comma q=false→rviL ts true (kk+1) l q=(l,q))∧(rIs ts m_comma q=true→rviL ts true (kk+1) l q=rviL ts true kk (l++[(rname ts (rnx q)).1]) (rname ts (rnx q)).2)));clear HRF1 HH
 go_loopg [5] ts.length (fun kk v wr=>∃(l:List Rf) (q:RS),RVi gp A n c ts w l v q wr∧ts.length≤kk+q.i∧rviL ts b (kk+1) l q=R∧l.length≤q.i+1)
 case atStart=>exact⟨[X0],q1,HV0.out,by omega,HR.out,by simp⟩
 case round =>
  clear HV0 HR;obtain⟨l,q,hV,hk,hT,hl⟩:=hrel
  cases b
  · have HF:=qh hV
    have HRR:Hid (R=(l,q)):=hT.symm.trans (HTL.out gk l q).1;obtain⟨A9,c9,rfl,hr9⟩:=hV.fin;have HR9:=qh hr9;clear hV hT hk hl hr9
    go_wp2_with fail
    go_ret;rw[HRR.out];exact⟨A9,c9,rfl,HR9.out,HF.out.st,HF.out.wr⟩
  · cases hs:rIs ts m_comma q
    · have HAL1:=HAL.out q _ hV.st
      have hA:rover ts m_comma q=q:=by unfold rover;rw[hs];rfl
      rw[hs,hA]at HAL1;have HAL1:=qh HAL1;have HRR:Hid (R=(l,q)):=hT.symm.trans ((HTL.out gk l q).2.1 hs);have HS:=qh hV;obtain⟨A9,c9,rfl,_⟩:=hV.fin;clear hV hT hk hl hs hA
      go_wp2_with (go_at_call 65;(refine(HAL1.out).mono ?_);rintro e w2 ⟨rfl,h2,hW2⟩;have HS2:=qh (HS.out.call h2 hW2);clear h2 hW2)
      obtain⟨A8,c8,e8,hr8⟩:=HS2.out.fin
      injection e8 with e8 _ e9
      subst e8 e9;go_ret;rw[HRR.out];exact⟨A9,c9,rfl,hr8,HS2.out.st,HS2.out.wr⟩
    · have HAL1:=HAL.out q _ hV.st
      have hA:rover ts m_comma q=rnx q:=by unfold rover;rw[hs];rfl
      rw[hs,hA]at HAL1;have HAL1:=qh HAL1;have hlt:=zc5 HCX.out hs;have HI3:Hid (q.i+1≤(rname ts (rnx q)).2.i):=(zbj (ts:=ts) (rnx q)).le;have HT2:=qh (((HTL.out gk l q).2.2 hs).symm.trans hT);have HKL:=qh (And.intro hk (And.intro hlt hl));have HX:=qh (fun W (h:RSt gp A n c ts (rnx q) W)=>HRF.out _ W h);have HS:=qh hV;have hl8:l.length≤100000:=by have:=HCX.out.hn;have:=HCX.out.hn8;omega
      obtain⟨A9,c9,rfl,_⟩:=hV.fin;generalize (rname ts (rnx q)).1=X at *;generalize (rname ts (rnx q)).2=q3 at *;clear hV hT hk hl hs hA hlt
      go_wp2_with (first
       | (go_at_call 65;(refine(HAL1.out).mono ?_);rintro e w2 ⟨rfl,h2,hW2⟩;have HS2:=qh (HS.out.call h2 hW2);clear h2 hW2)
       | (go_at_call 62;(refine(HX.out _ (by exact HS2.out.st)).mono ?_);rintro e w3 ⟨rfl,h3,hW3⟩;have HS3:=qh (HS2.out.call h3 hW3);clear h3 hW3)
       | (at_builtin;refine zaf rfl (.tmp 14) (.tmp 17) 40 rfl w.heap.size 36 2 24 Tryz.underlying40 eRf (.slice A9 l.length c9) l.length (l.flatMap rfC) rr (by exact HS3.out.own.alloc _) (some ⟨w3.heap.size,0,none⟩) 1 1 (rfC X) rr (by exact RdS.new w3 _ (rfC X) 2 rfl) (za4 X) om om (by have:=HS3.out.wr.size;simp;omega) ?_;intro A5 c5 w5 hown5 hc5 hg5 hat5;have HS5:=qh (HS3.out.push (by exact hg5) hown5);clear hown5 hc5 hg5 hat5))
      have hk5:=HKL.out;have hi5:=HI3.out;have e5:(l++[X]).length=l.length+1:=by simp
      go_roundg (gk-1)
      case measure=>omega
      case rel=>exact⟨l++[X],q3,HS5.out,by omega,by rw[show gk-1+1=gk by omega];exact HT2.out,by omega⟩
theorem zl9(cx:RCx gp A n ts)(st:RS→St × RS)(d:Nat)(hst:RStK gp A n c ts st (RQS d))(hg:∀s,RP s (st s).2)(hcs:∀s,RQS d s→rbegins ts s=true→s.i+1≤(st s).2.i):RBoK gp A n c ts 29 (rstmts ts st) (fun s=>s.bad=false→RQS d s):=by
 intro s w h hq;have HBG:=qh (fun q W (h:RSt gp A n c ts q W)=>zqk cx h);have HLO:=qh (h.lo cx);have HCX:=qh cx;have HST:=qh (fun q W (h:RSt gp A n c ts q W) (hq:RQS d q) (hb:rbegins ts q=true)=>hst q W h hq hb);have HQS:Hid (∀q,RP s q→q.bad=false→RQS d q):=fun q k hb=>(hq (k.okof hb)).rp k
 have HBS:Hid (RBd gp A n c ts w [] [] (.slice none 0 0) s w):=⟨h,Wr.refl _ _,World.ownsRow_nil _ _ _ _,rfl,fun i s p h=>by simp at h,h.lo cx⟩;generalize hR:rstmts ts st s=R;have HR:Hid (rstmtsLoop ts st (ts.length+1) [] s=R):=hR;have HBL:=qh (fun(kk:Nat) (l:List St) (q:RS)=>(⟨fun h=>(by rw[rstmtsLoop,if_neg (by rw[h];simp)]),fun h=>(by rw[rstmtsLoop,if_pos h])⟩:(rbegins ts q=false→rstmtsLoop ts st (kk+1) l q=(l,q))∧(rbegins ts q=true→rstmtsLoop ts st (kk+1) l q=rstmtsLoop ts st kk (l++[(st q).1]) (st q).2)));clear h hq hR cx
 go_enter Tryz.func29, Tryz.ntmps29
 go_wp2
 go_loopg [3] ts.length (fun kk v wr=>∃(l:List St) (sl:List StA) (q:RS),RBd gp A n c ts w l sl v q wr∧ts.length≤kk+q.i∧rstmtsLoop ts st (kk+1) l q=R∧l.length≤q.i∧RP s q)
 case atStart=>exact⟨[],[],s,HBS.out,by omega,HR.out,by simp,RP.refl _⟩
 case round =>
  clear HBS HR;obtain⟨l,sl,q,hB,hk,hT,hl,hpg⟩:=hrel;have HB:=qh hB;obtain⟨A9,c9,rfl,_⟩:=hB.fin;have HBQ:=qh (fun W h=>HBG.out q W h)
  cases hs:rbegins ts q
  · rw[hs]at HBQ
    have HRR:Hid (R=(l,q)):=hT.symm.trans ((HBL.out gk l q).1 hs);clear hB hk hT hl hpg hs HBL HBG HST HQS
    go_wp2_with (go_at_call 67;(refine(HBQ.out _ (by exact HB.out.st)).mono ?_);rintro e w2 ⟨rfl,hB2⟩;have HB2:=qh (HB.out.call (HB.out.st.below hB2) (Wr.of_below hB2));clear hB2)
    go_ret;rw[HRR.out];obtain⟨A8,c8,e8,hr8⟩:=HB2.out.fin
    injection e8 with e8 _ e9
    subst e8 e9;exact⟨A9,c9,rfl,hr8,HB2.out.st,HB2.out.wr⟩
  · rw[hs]at HBQ
    have hlt:=hB.st.lt;have HS1:=qh (fun W (h:RSt gp A n c ts q W)=>HST.out q W h (HQS.out q hpg (zf3 hs)) hs);have HT3:=qh (((HBL.out gk l q).2 hs).symm.trans hT);have HI3:Hid (q.i+1≤(st q).2.i):=hcs q (HQS.out q hpg (zf3 hs)) hs;have HP3:=qh (hpg.trans (hg q));have HK3:=qh (And.intro hk (And.intro hl hlt));have hl8:l.length≤100000:=by have:=HCX.out.hn;have:=HCX.out.hn8;omega
    generalize (st q).1=X at *;generalize (st q).2=q3 at *;clear hB hk hT hl hpg hs HBL HBG HST HQS hlt
    go_wp2_with (first
     | (go_at_call 67;(refine(HBQ.out _ (by exact HB.out.st)).mono ?_);rintro e w2 ⟨rfl,hB2⟩;have HB2:=qh (HB.out.call (HB.out.st.below hB2) (Wr.of_below hB2));clear hB2)
     | (go_at_call 68;(refine(HS1.out _ (by exact HB2.out.st)).mono ?_);rintro e w8 ⟨y,rfl,hy,h8,hW8⟩;have HY8:=qh (HB2.out.fr lr hy);have HB8:=qh (HB2.out.call h8 hW8);clear hy h8 hW8)
     | (refine za9 rfl 24 42 (.tmp 8) rfl (stC X y) rr Tryz.underlying24 (by exact oneSt X y) (by rw[zb8];omega) (by rw[zb8];omega) ?_)
     | (at_builtin;refine zaf rfl (.tmp 6) (.tmp 9) 24 rfl w.heap.size 42 26 384 Tryz.underlying24 eSt (.slice A9 l.length c9) l.length (zipC stC l sl) rr (by exact HB8.out.own.alloc _) (some ⟨w8.heap.size,0,none⟩) 1 1 (stC X y) rr (by exact RdS.new w8 _ (stC X y) 26 rfl) (zal X y) om om (by have:=HB8.out.wr.size;simp;omega) ?_;intro A5 c5 w9 hown5 hc5 hg5 hat5;have HB9:=qh (HB8.out.push HY8.out hg5 hown5 hat5);clear hown5 hc5 hg5 hat5))
    have hk5:=HK3.out;have hi5:=HI3.out;have e5:(l++[X]).length=l.length+1:=by simp
    go_roundg (gk-1)
    case measure=>omega
    case rel=>exact⟨l++[X],sl++[y],q3,HB9.out,by omega,by rw[show gk-1+1=gk by omega];exact HT3.out,by omega,HP3.out⟩
end
def RsC(gp:Nat)(A:Option Addr)(n c:Nat)(ts:List Lx.Tok)(st:RS→St × RS)(s:RS)(w:World):Prop :=
 Calls Tryz.prog 68 #[.pointer (some ⟨gp,0,none⟩)] w fun e w'=>∃p:StA,e=.returned (.agg (stC (rstmtG ts st s).1 p).toArray)∧StIn (Fr w.heap.size) w' (rstmtG ts st s).1 p∧RSt gp A n c ts (rstmtG ts st s).2 w'∧Wr [gp] w w'
theorem zbc{gp:Nat}{A:Option Addr}{n c:Nat}{ts:List Lx.Tok}{s:RS}{w:World}(cx:RCx gp A n ts)(h:RSt gp A n c ts s w):
 Hid (RSt gp A n c ts s (w.alloc (.cells (stC zT pA0).toArray 42)))∧Hid (Wr [gp] w (w.alloc (.cells (stC zT pA0).toArray 42)))∧Hid (Blk (w.alloc (.cells (stC zT pA0).toArray 42)) w.heap.size 42 (stC zT pA0))∧Hid (∀W,RSt gp A n c ts s W→W.cell? ⟨gp,1,none⟩=some (.int .i64 s.i)∧W.frozen? ⟨gp,1,none⟩=false∧gp<W.heap.size)∧s.i<100000 :=
 ⟨qh (h.alloc _),(Wr.refl _ _).alloc _,Blk.new _ _ _,fun W h=>⟨h.b.cell 1,h.b.frozen 1,h.b.lt⟩,by have:=h.lt;have:=cx.hn;have:=cx.hn8;omega⟩
end
section
section
variable{gp:Nat}{A:Option Addr}{n c:Nat}{ts:List Lx.Tok}{s q q':RS}{w w' w0:World}
theorem zlb(cx:RCx gp A n ts)(ex:RS→Ex × RS)(h:RSt gp A n c ts s w)(hk4:rKind ts 4 s=true):Calls Tryz.prog 114 #[.pointer (some ⟨gp,0,none⟩)] w fun e w'=>∃a:Option Addr × Nat,e=.returned (.agg (exC (rfactor ts ex s).1 a).toArray)∧ArgsIn (Fr w.heap.size) w' a.1 (rfactor ts ex s).1.args∧RSt gp A n c ts (rfactor ts ex s).2 w'∧Wr [gp] w w':=by
 have HR:Hid (rfactor ts ex s=(.mk k_text 0 (bytesOf (rk ts s).text) ((rk ts s).at_:Int) [],rnx s)):=(by show _=_;unfold rfactor;rw[if_pos hk4]);rw[HR.out];have hkk:s.bad=false∧(rk ts s).kind=4:=by unfold rKind at hk4;simpa using hk4
 have HLT:=qh (cx.ends s.i (fun e=>by have:=hkk.2;unfold rk at this;omega));have H0:=qh h;have HCX:=qh cx;have HN:=qh (now_c cx (h.alloc (.cells zEc.toArray 39)));have HZ:Hid (∀W,Below (w.alloc (.cells zEc.toArray 39)).heap.size (w.alloc (.cells zEc.toArray 39)) W→Blk W w.heap.size 39 zEc∧RSt gp A n c ts s W∧Wr [gp] w W):=fun W hW=>⟨(Blk.new w _ _).below hW sy,(h.alloc _).below hW,((Wr.refl [gp] w).alloc _).trans (Wr.of_below hW)⟩
 have hgl:=h.b.lt;have hi8:s.i<100000:=by have:=h.lt;have:=cx.hn;have:=cx.hn8;omega
 have HOA:Hid (∀ad:Addr,A=some ad→ad.block≠w.heap.size):=fun ad e=>by have:=h.old cx ad e;omega
 have HB:Hid (∀W,RSt gp A n c ts s W→W.cell? ⟨gp,4,none⟩=some (.bool s.bad)∧gp<W.heap.size∧W.cell? ⟨gp,1,none⟩=some (.int .i64 s.i)∧W.frozen? ⟨gp,1,none⟩=false):=fun W hW=>⟨hW.b.cell 4,hW.b.lt,hW.b.cell 1,hW.b.frozen 1⟩
 unfold tokCells at HN
 obtain⟨hb,hk⟩:=hkk;rw[hb]at HB;have hk':((rk ts s).kind:Int)=4:=om;rw[hk']at HN;clear h cx hb HR hk hk' hk4;generalize rk ts s=t at *
 go_enter Tryz.func114, Tryz.ntmps114
 go_wp2_with (first
  | (go_at_call 27;(refine HN.out.mono ?_);rintro e1 w2 ⟨rfl,hB2⟩;have H2:=qh (HZ.out w2 hB2);obtain⟨k4,l4,k1,j1⟩:=HB.out w2 H2.out.2.1;have hgg:w.heap.size<w2.heap.size:=H2.out.1.lt;have hgt:gp<w2.heap.size:=l4;obtain⟨z0,z1,z2,z3,z4⟩:=Blk.five H2.out.1;obtain⟨f0,f1,f2,f3,f4⟩:=Blk.fro5 H2.out.1;clear hB2))
 have hne:gp≠w.heap.size:=om;have H3:=H2.out.2.1.next HCX.out HLT.out;have H4:=H2.out.1.far (p:=⟨gp,1,none⟩) (Ne.symm hne) (.int .i64 ((s.i:Int)+1));refine bodyPost_ret (res_c rfl _ w.heap.size 39 [.string k_text,.int .i64 0,.string (bytesOf t.text),.int .i64 t.at_,.slice none 0 0] rfl (by exact(zax H4).1.alloc _) _ Tryz.underlying39 rfl hdEx) rfl ⟨(none,0),rfl,ArgsIn.nil _ _ _,(H3.1.far' (zax H4).2 hne HOA.out).alloc _,((((((H2.out.2.2.trans H3.2).setNew lr _).setNew lr _).setNew lr _).setNew lr _).setNew lr _).alloc _⟩
theorem not4(hk4:rKind ts 4 s=false):s.bad=true∨(s.bad=false∧((rk ts s).kind:Int)≠4):=by
 cases hb:s.bad
 · right
   unfold rKind at hk4
   rw[hb]at hk4
   simp at hk4
   exact⟨rfl,by omega⟩
 · exact .inl rfl
theorem zld(cx:RCx gp A n ts)(ex:RS→Ex × RS)(d:Nat)(hat:RExK gp A n c ts 66 (ratom ts ex) (RQ d))(h:RSt gp A n c ts s w)(hq:RQ d s)(hk4:rKind ts 4 s=false)(hkj:rIs ts k_join s=false):Calls Tryz.prog 114 #[.pointer (some ⟨gp,0,none⟩)] w fun e w'=>∃a:Option Addr × Nat,e=.returned (.agg (exC (rfactor ts ex s).1 a).toArray)∧ArgsIn (Fr w.heap.size) w' a.1 (rfactor ts ex s).1.args∧RSt gp A n c ts (rfactor ts ex s).2 w'∧Wr [gp] w w':=by
 have HR:Hid (rfactor ts ex s=ratom ts ex s):=(by show _=_;unfold rfactor;rw[if_neg (by rw[hk4];simp),if_neg (by rw[hkj];simp)]);rw[HR.out];have hor:=not4 hk4;have HAT:=qh (fun W (h:RSt gp A n c ts s W)=>hat s W h hq);have HOV:=qh (fun W (h:RSt gp A n c ts s W)=>zbp k_join cx h);have HAP:rover ts k_join s=s:=by unfold rover;rw[hkj];rfl
 rw[hkj,HAP]at HOV;have H0:=qh h;have HCX:=qh cx;have HN:=qh (now_c cx (h.alloc (.cells zEc.toArray 39)));have HZ:Hid (∀W,Below (w.alloc (.cells zEc.toArray 39)).heap.size (w.alloc (.cells zEc.toArray 39)) W→Blk W w.heap.size 39 zEc∧RSt gp A n c ts s W∧Wr [gp] w W):=fun W hW=>⟨(Blk.new w _ _).below hW sy,(h.alloc _).below hW,((Wr.refl [gp] w).alloc _).trans (Wr.of_below hW)⟩
 have hgl:=h.b.lt;have hi8:s.i<100000:=by have:=h.lt;have:=cx.hn;have:=cx.hn8;omega
 have HOA:Hid (∀ad:Addr,A=some ad→ad.block≠w.heap.size):=fun ad e=>by have:=h.old cx ad e;omega
 have HB:Hid (∀W,RSt gp A n c ts s W→W.cell? ⟨gp,4,none⟩=some (.bool s.bad)∧gp<W.heap.size∧W.cell? ⟨gp,1,none⟩=some (.int .i64 s.i)∧W.frozen? ⟨gp,1,none⟩=false):=fun W hW=>⟨hW.b.cell 4,hW.b.lt,hW.b.cell 1,hW.b.frozen 1⟩
 unfold tokCells at HN
 clear h cx HR hk4 hkj hat hq HAP;generalize rk ts s=t at *;generalize s.bad=bd at *;generalize (ratom ts ex s).1=E at *;generalize (ratom ts ex s).2=q at *
 unfold exC at HAT
 rcases hor with rfl|⟨rfl,hk⟩
 all_goals
  go_enter Tryz.func114, Tryz.ntmps114
  go_wp2_with (first
   | (go_at_call 66;(refine(HAT.out _ (by exact H3.out.2.1)).mono ?_);rintro e w5 ⟨⟨a1,a2⟩,rfl,ha5,h5,hW5⟩;have hlt4:w.heap.size<w3.heap.size:=H3.out.1.lt;have HA5:=qh ha5;have H5:Hid (Blk w5 w.heap.size 39 zEc∧RSt gp A n c ts q w5∧Wr [gp] w w5):=⟨(hW5.block _ H3.out.1.lt (by simp;omega)).trans H3.out.1,h5,H3.out.2.2.trans hW5⟩;have h55:=h5.b.lt;obtain⟨z0,z1,z2,z3,z4⟩:=Blk.five H5.out.1;obtain⟨f0,f1,f2,f3,f4⟩:=Blk.fro5 H5.out.1;clear h5 ha5 hW5)
   | (go_at_call 65;(refine(HOV.out _ (by exact H2.out.2.1.alloc _)).mono ?_);rintro e2 w3 ⟨rfl,h3,hW3⟩;have H3:Hid (Blk w3 w.heap.size 39 zEc∧RSt gp A n c ts s w3∧Wr [gp] w w3):=⟨(hW3.block _ (by have:=H2.out.1.lt;simp;omega) (by simp;omega)).trans (H2.out.1.alloc _),h3,(H2.out.2.2.alloc _).trans hW3⟩;have h33:=h3.b.lt;clear h3 hW3)
   | (go_at_call 27;(refine HN.out.mono ?_);rintro e1 w2 ⟨rfl,hB2⟩;have H2:=qh (HZ.out w2 hB2);obtain⟨k4,l4,k1,j1⟩:=HB.out w2 H2.out.2.1;have hgg:w.heap.size<w2.heap.size:=H2.out.1.lt;have hgt:gp<w2.heap.size:=l4;clear hB2))
  have hne:gp≠w.heap.size:=om;refine bodyPost_ret (res_c rfl _ w.heap.size 39 (exC E (a1,a2)) rfl (by exact(zax H5.out.1).1) _ Tryz.underlying39 rfl hdEx) rfl ⟨(a1,a2),rfl,?_,H5.out.2.1.far' (zax H5.out.1).2 hne HOA.out,((((H5.out.2.2.setNew lr _).setNew lr _).setNew lr _).setNew lr _).setNew lr _⟩;exact(((((HA5.out.keep (zam hlt4 _)).keep (zam hlt4 _)).keep (zam hlt4 _)).keep (zam hlt4 _)).keep (zam hlt4 _)).keep (zar (Nat.le_of_lt hlt4))
theorem zlc(cx:RCx gp A n ts)(ex:RS→Ex × RS)(d:Nat)(hex:RExK gp A n c ts 64 ex (RQ d))(hg:∀s,RP s (ex s).2)(h:RSt gp A n c ts s w)(hq:RQ (d+1) s)(hk4:rKind ts 4 s=false)(hkj:rIs ts k_join s=true):Calls Tryz.prog 114 #[.pointer (some ⟨gp,0,none⟩)] w fun e w'=>∃a:Option Addr × Nat,e=.returned (.agg (exC (rfactor ts ex s).1 a).toArray)∧ArgsIn (Fr w.heap.size) w' a.1 (rfactor ts ex s).1.args∧RSt gp A n c ts (rfactor ts ex s).2 w'∧Wr [gp] w w':=by
 have hbb:s.bad=false:=by unfold rIs at hkj;simp at hkj;exact hkj.1
 have hk:((rk ts s).kind:Int)≠4:=by rcases not4 hk4 with h1|⟨_,h1⟩;rw[hbb]at h1;cases h1;exact h1
 have HR:Hid (rfactor ts ex s=(.mk k_join 0 zs ((rk ts s).at_:Int) (rjoinLoop ts ex (ts.length+2) [] (rparen ts (rnx s))).1,rshut ts (rjoinLoop ts ex (ts.length+2) [] (rparen ts (rnx s))).2)):=(by show _=_;unfold rfactor;rw[if_neg (by rw[hk4];simp),if_pos hkj]);rw[HR.out];have HOV:=qh (fun W (h:RSt gp A n c ts s W)=>zbp k_join cx h);have HAP:rover ts k_join s=rnx s:=by unfold rover;rw[hkj];rfl
 rw[hkj,HAP]at HOV;have hq1:RQ (d+1) (rnx s):=hq.rp rnx_p;have HPN:=qh (fun W (h:RSt gp A n c ts (rnx s) W)=>znp cx h ⟨hq1.p0,by have:=hq1.p1;omega⟩);have HPA:Hid (0≤s.pa∧s.pa≤14∧(rparen ts (rnx s)).pa=s.pa+1):=⟨hq.p0,hq.p1,(zd2 (ts:=ts) (rnx s)).1⟩
 have HQQ:Hid (∀q,RP (rparen ts (rnx s)) q→q.bad=false→RQ d q):=fun q k hb=>by
  have hb0:(rparen ts (rnx s)).bad=false:=by
   cases h5:(rparen ts (rnx s)).bad
   · rfl
   · rw[(k.st h5).1]at hb;cases hb
  exact(hq1.down hb0).rp k
 have HEX:=qh (fun q W (h:RSt gp A n c ts q W) (hq:RQ d q)=>hex q W h hq);have HOC:=qh (fun q W (h:RSt gp A n c ts q W)=>zbp m_comma cx h);have HND0:=qh (fun q W (h:RSt gp A n c ts q W)=>zaw m_rpar cx h);have HLO:=qh (h.lo cx);have H0:=qh h;have HCX:=qh cx;have HN:=qh (now_c cx (h.alloc (.cells zEc.toArray 39)));have HZ:Hid (∀W,Below (w.alloc (.cells zEc.toArray 39)).heap.size (w.alloc (.cells zEc.toArray 39)) W→Blk W w.heap.size 39 zEc∧RSt gp A n c ts s W∧Wr [gp] w W):=fun W hW=>⟨(Blk.new w _ _).below hW sy,(h.alloc _).below hW,((Wr.refl [gp] w).alloc _).trans (Wr.of_below hW)⟩
 have hgl:=h.b.lt;have hi8:s.i<100000:=by have:=h.lt;have:=cx.hn;have:=cx.hn8;omega
 have HOA:Hid (∀ad:Addr,A=some ad→ad.block≠w.heap.size):=fun ad e=>by have:=h.old cx ad e;omega
 have HB:Hid (∀W,RSt gp A n c ts s W→W.cell? ⟨gp,4,none⟩=some (.bool s.bad)∧gp<W.heap.size∧W.cell? ⟨gp,1,none⟩=some (.int .i64 s.i)∧W.frozen? ⟨gp,1,none⟩=false):=fun W hW=>⟨hW.b.cell 4,hW.b.lt,hW.b.cell 1,hW.b.frozen 1⟩
 unfold tokCells at HN
 rw[hbb]at HB;clear h cx HR hk4 hkj hex hq hq1 HAP hbb;generalize rk ts s=t at *;generalize rparen ts (rnx s)=q1 at *;generalize rnx s=q0 at *;generalize hRR:rjoinLoop ts ex (ts.length+2) [] q1=R at *;have HRR:=qh hRR;clear hRR;obtain⟨p,hp⟩:∃p:Int,p=(t.at_:Int):=⟨_,rfl⟩;rw[←hp];rw[←hp]at HN;clear hp;have HTL:=qh (fun(kk:Nat) (l:List Ex) (q:RS)=>(⟨fun h=>(by rw[rjoinLoop,if_pos h]),fun h h2=>(by rw[rjoinLoop,if_neg (by rw[h];simp),if_neg (by rw[h2];simp)]),fun h h2=>(by rw[rjoinLoop,if_neg (by rw[h];simp),if_pos h2])⟩:(q.bad=true→rjoinLoop ts ex (kk+1) l q=(l,q))∧(q.bad=false→rIs ts m_comma (ex q).2=false→rjoinLoop ts ex (kk+1) l q=(l++[(ex q).1],(ex q).2))∧(q.bad=false→rIs ts m_comma (ex q).2=true→rjoinLoop ts ex (kk+1) l q=rjoinLoop ts ex kk (l++[(ex q).1]) (rnx (ex q).2))))
 have HSH:Hid (∀q:RS,rshut ts q = { rneed ts m_rpar q with pa:=q.pa-1 }∧(rneed ts m_rpar q).pa=q.pa):=fun q=>by
  have h5:=(zb2 (ts:=ts) m_rpar q).1;exact⟨by unfold rshut;dsimp only;rw[h5],h5⟩
 go_enter Tryz.func114, Tryz.ntmps114
 go_wp2_with (first
  | (go_at_call 89;(refine(HPN.out _ (by exact HJ3.out.st)).mono ?_);rintro e3 w5 ⟨rfl,h5,hW5⟩;have J5:=qh (HJ3.out.call h5 hW5);clear h5 hW5)
  | (go_at_call 65;(refine(HOV.out _ (by exact H2.out.2.1.alloc _)).mono ?_);rintro e2 w3 ⟨rfl,h3,hW3⟩;have H3:Hid (Blk w3 w.heap.size 39 zEc∧RSt gp A n c ts q0 w3∧Wr [gp] w w3):=⟨(hW3.block _ (by have:=H2.out.1.lt;simp;omega) (by simp;omega)).trans (H2.out.1.alloc _),h3,(H2.out.2.2.alloc _).trans hW3⟩;have HTK:Hid (Blk w3 w2.heap.size 72 [.int .i64 t.kind,.string (bytesOf t.text),.int .i64 t.num,.int .i64 p]):=(hW3.block _ sy (by simp;omega)).trans (Blk.new _ _ _);have m3:w3.cell? ⟨w2.heap.size,3,none⟩=some (.int .i64 p):=HTK.out.cell 3;have HJ3:Hid (RJn gp A n c ts w w3.heap.size p [] [] (.slice none 0 0) q0 (w3.alloc (.cells #[.string k_join,.int .i64 0,.string zs,.int .i64 p,.slice none 0 0] 39))):=⟨h3.alloc _,H3.out.2.2.alloc _,H3.out.1.alloc _,Blk.new' rfl rfl,World.ownsRow_nil _ _ _ _,rfl,fun k hk=>(by cases hk),fun i e a h1 _=>(by simp at h1),H3.out.1.lt,HLO.out⟩;have h33:=h3.b.lt;clear h3 hW3)
  | (go_at_call 27;(refine HN.out.mono ?_);rintro e1 w2 ⟨rfl,hB2⟩;have H2:=qh (HZ.out w2 hB2);obtain⟨k4,l4,k1,j1⟩:=HB.out w2 H2.out.2.1;have hgg:w.heap.size<w2.heap.size:=H2.out.1.lt;have hgt:gp<w2.heap.size:=l4;clear hB2))
 generalize w3.heap.size=G at *;clear HOV HPN HN HZ HB H2 H3 HTK HJ3 H0 HOA k4 k1 j1 m3
 go_loopg [] (ts.length+1) (fun kk wr=>∃(l:List Ex) (sl:List (Option Addr × Nat)) (A1:Option Addr) (c1:Nat) (q:RS),RJn gp A n c ts w G p l sl (.slice A1 l.length c1) q wr∧ts.length≤kk+q.i∧l.length≤q.i∧rjoinLoop ts ex (kk+1) l q=R∧RP q1 q)
 case atStart=>exact⟨[],[],none,0,q1,J5.out,by omega,by simp,HRR.out,RP.refl _⟩
 case round =>
  clear J5 HRR;obtain⟨l,sl,A1,c1,q,hS,hk,hll,hT,hQ⟩:=hrel;have hpa:0≤q.pa∧q.pa≤100:=by have h5:=HPA.out;rcases hQ.pa with h|⟨_,h⟩ <;> omega
  have g4:wr.cell? ⟨gp,4,none⟩=some (.bool q.bad):=hS.st.b.cell 4;have gl4:=hS.st.b.lt
  cases hs:q.bad
  · have HS:=qh hS
    rw[hs]at g4;have hQ2:RQ d q:=HQQ.out q hQ hs;have hlt:=hS.st.lt;have hl9:l.length≤100000:=by have h1:=HCX.out.hn;have h2:=HCX.out.hn8;omega
    have HFX:=qh (fun W (h:RSt gp A n c ts q W)=>HEX.out q W h hQ2);have HQ3:=qh (hQ.trans (hg q));have HI3:Hid (q.i≤(ex q).2.i):=(hg q).le;have HOC2:=qh (fun W (h:RSt gp A n c ts (ex q).2 W)=>HOC.out (ex q).2 W h);have HT1:=qh (fun h2=>((HTL.out gk l q).2.1 hs h2).symm.trans hT);have HT2:=qh (fun h2=>((HTL.out gk l q).2.2 hs h2).symm.trans hT);have HKL:=qh (And.intro hk (And.intro hlt hll));clear hS hk hll hT hQ hs HTL HEX HOC HQQ hlt hQ2 hpa;generalize (ex q).1=X9 at *;generalize (ex q).2=q3 at *;go_wp2;have HD9:Hid (RJn gp A n c ts w G p l sl (.slice A1 l.length c1) q wr.drew):=HS.out.call (HS.out.st.below ((Below.refl _ _).drew)) (Wr.of_below ((Below.refl _ _).drew));refine kgo kr 7 (fun W'=>Blk W' G 39 [.string k_join,.int .i64 0,.string zs,.int .i64 p,.slice A1 l.length c1]) HD9.out.e (fun _ _ _ _ _ h=>h) ?_;refine kp 0 (.pointer (some ⟨G,4,none⟩)) rfl kr (fun _=>kr) ?_;refine kl 1 (.slice A1 l.length c1) rfl kr (fun w' hw'=>zaq (t:=37) (x:=.tmp 44) rr kr agSlx (hw'.cell 4)) ?_;refine kp 2 (.pointer (some ⟨gp,0,none⟩)) rfl kr (fun _=>kr) ?_;intro q8 q9;clear q8 q9;refine AnyK.enter 3 (d:=some 47) (f:=64) (args:=#[.pointer (some ⟨gp,0,none⟩)]) rr kr kr ?_;refine(HFX.out _ HD9.out.st).mono ?_;rintro e wx ⟨y,rfl,hy,hx,hWx⟩;have HX9:=qh (HD9.out.call hx hWx);have HY9:Hid (ArgsIn (Fj w.heap.size G (.slice A1 l.length c1)) wx y.1 X9.args):=HD9.out.fr lr hy;have hl9:=HX9.out.lt;have hm9:=HX9.out.e.lt;clear hy hx hWx;refine⟨_,rfl,fun _=>HX9.out.e,?_⟩;refine AnyK.main 4 rr kr rfl (fun K hK=>zca (zcp 37 39 (.tmp 47) rr (exC X9 y) kr Tryz.underlying37 kr (by rw[zbn];omega) (by rw[zbn];omega)) (hK _ _ ⟨fun _=>HX9.out.e.alloc _,?_⟩));refine AnyK.main 5 rr kr rfl (fun K hK=>zc8 (.tmp 45) (.tmp 48) 37 rr (w.heap.size+1) 39 5 72 Tryz.underlying37 eEx (.slice A1 l.length c1) l.length (zipC exC l sl) kr (HX9.out.own.alloc _) (some ⟨wx.heap.size,0,none⟩) 1 1 (exC X9 y) kr (RdS.new wx _ (exC X9 y) 5 rfl) (zai _ _) om om (by simp;omega) (fun A7 c7 w7 hown7 hc7 hg7 hat7=>hK _ _ ⟨fun _=>(HX9.out.e.alloc _).grown hg7 (fun e=>HX9.out.ob _ e.symm rfl),?_⟩));have hb7:=(HX9.out.e.alloc (.cells (exC X9 y).toArray 39)).grown hg7 (fun e=>HX9.out.ob _ e.symm rfl);refine AnyK.val 6 (v:=.pointer (some ⟨G,4,none⟩)) rr kr rfl kr (fun _=>hb7) ?_;have HP9:=qh (HX9.out.push HY9.out hg7 hown7 hat7);refine AnyK.store 7 (d:=none) (w':=w7.setCell ⟨G,4,none⟩ (.slice A7 (l.length+1) c7)) rr (fun o ho=>zbx ho kr kr szSlx (hb7.cell 4) (hb7.frozen 4)) kr (fun h=>(by cases h)) ?_;refine AnyK.done kr ?_;clear hb7 hown7 hg7 hat7;have hpa:0≤q3.pa∧q3.pa≤100:=by have h5:=HPA.out;rcases HQ3.out.pa with h|⟨_,h⟩ <;> omega
    cases hs2:rIs ts m_comma q3
    · have hap:rover ts m_comma q3=q3:=by unfold rover;rw[hs2];rfl
      rw[hs2,hap]at HOC2;have HRE:Hid (R=(l++[X9],q3)):=(HT1.out hs2).symm;obtain⟨hsh,hp3⟩:=HSH.out q3;have HND:=qh (fun W (h:RSt gp A n c ts q3 W)=>HND0.out q3 W h);have HSE:Hid (rshut ts R.2 = { rneed ts m_rpar q3 with pa:=q3.pa-1 }):=(by show _=_;rw[HRE.out];exact hsh);have HP3:=qh hp3;have hlen:(l++[X9]).length=l.length+1:=by simp
      have HP9':Hid (RJn gp A n c ts w G p (l++[X9]) (sl++[y]) (.slice A7 (l++[X9]).length c7) q3 (w7.setCell ⟨G,4,none⟩ (.slice A7 (l.length+1) c7))):=by rw[hlen];exact HP9.out
      clear hsh hp3 hs2 hap HT1 HT2 HND0 HSH HP9 HX9 HY9 HD9 HS HFX;generalize hqn:rneed ts m_rpar q3=qn at *;clear hqn;generalize hqe:q3=qe at *;clear hqe
      go_wp2_with (first
      | (go_at_call 63;(refine(HND.out _ (by exact HS8.out.st)).mono ?_);rintro e w9 ⟨rfl,h9,hW9⟩;have HS9:=qh (HS8.out.call h9 hW9);have g3:w9.cell? ⟨gp,3,none⟩=some (.int .i64 qe.pa):=HP3.out ▸ h9.b.cell 3;have gf:=h9.b.frozen 3;have gl:=h9.b.lt;have hgG:w.heap.size<G:=HS9.out.lt;have hpG:gp<w.heap.size:=HLO.out.1;obtain⟨n0,n1,n2,n3,n4⟩:=Blk.five HS9.out.e;obtain⟨z0,z1,z2,z3,z4⟩:=Blk.five HS9.out.z;obtain⟨f0,f1,f2,f3,f4⟩:=Blk.fro5 HS9.out.z;clear h9 hW9)
      | (go_at_call 65;(refine(HOC2.out _ (by exact HP9'.out.st)).mono ?_);rintro e w8 ⟨rfl,h8,hW8⟩;have HS8:=qh (HP9'.out.call h8 hW8);clear h8 hW8))
      have H6:=RSt.upd (s':={ qn with pa:=qe.pa-1 }) HCX.out HS9.out.st ((Only.refl w9 gp).setCell 3 _) (HS9.out.st.b.set_ 3 (.int .i64 (qe.pa-1))) HS9.out.st.lt;have hng:gp≠w.heap.size:=by have:=HLO.out.1;omega
      have H7:=HS9.out.z.far (p:=⟨gp,3,none⟩) (Ne.symm hng) (.int .i64 (qe.pa-1));refine bodyPost_ret (res_c rfl _ w.heap.size 39 (exC (.mk k_join 0 zs p (l++[X9])) (A7,c7)) rfl ((by rw[show exC (.mk k_join 0 zs p (l++[X9])) (A7,c7)=[.string k_join,.int .i64 0,.string zs,.int .i64 p,.slice A7 (l.length+1) c7] by simp[exC,Ex.op,Ex.num,Ex.text,Ex.at_,Ex.args]];exact(zax H7).1)) _ Tryz.underlying39 rfl hdEx) rfl ?_;rw[HSE.out,HRE.out];refine⟨(A7,c7),rfl,?_,H6.1.only HLO.out lr (zax H7).2,((((((HS9.out.wr.trans H6.2).setNew lr _).setNew lr _).setNew lr _).setNew lr _).setNew lr _)⟩;exact(((((((ArgsIn.rjn HS9.out).keep (zb6 H6.2 HLO.out.all)).keep (zag _)).keep (zag _)).keep (zag _)).keep (zag _)).keep (zag _)).keep zbk
    · have hap:rover ts m_comma q3=rnx q3:=by unfold rover;rw[hs2];rfl
      rw[hs2,hap]at HOC2;have hlt3:=zc5 HCX.out hs2;have HT3:=qh (HT2.out hs2);have HQ4:Hid (RP q1 (rnx q3)):=HQ3.out.trans rnx_p;clear hs2 hap HT1 HT2 HND0 HSH
      go_wp2_with (go_at_call 65;(refine(HOC2.out _ (by exact HP9.out.st)).mono ?_);rintro e w8 ⟨rfl,h8,hW8⟩;have HS8:=qh (HP9.out.call h8 hW8);clear h8 hW8)
      have hk5:=HKL.out;have hi5:=HI3.out;have hi6:(rnx q3).i=q3.i+1:=rfl;go_roundg (gk-1)
      case measure=>omega
      case rel=>exact⟨l++[X9],sl++[y],A7,c7,rnx q3,by rw[la9];exact HS8.out,by omega,by rw[la9,List.length_singleton];omega,by rw[show gk-1+1=gk by omega];exact HT3.out,HQ4.out⟩
  · have HS:=qh hS
    rw[hs]at g4;have HRE:Hid (R=(l,q)):=hT.symm.trans ((HTL.out gk l q).1 hs);obtain⟨hsh,hp3⟩:=HSH.out q;have HND:=qh (fun W (h:RSt gp A n c ts q W)=>HND0.out q W h);have HSE:Hid (rshut ts R.2 = { rneed ts m_rpar q with pa:=q.pa-1 }):=(by show _=_;rw[HRE.out];exact hsh);have HP3:=qh hp3;clear hsh hp3 hs HND0 HSH HTL HEX HOC HQQ hS hk hll hT hQ;generalize hqn:rneed ts m_rpar q=qn at *;clear hqn;generalize hqe:q=qe at *;clear hqe
    go_wp2_with (first
     | (go_at_call 63;(refine(HND.out _ (by exact HS.out.st)).mono ?_);rintro e w9 ⟨rfl,h9,hW9⟩;have HS9:=qh (HS.out.call h9 hW9);have g3:w9.cell? ⟨gp,3,none⟩=some (.int .i64 qe.pa):=HP3.out ▸ h9.b.cell 3;have gf:=h9.b.frozen 3;have gl:=h9.b.lt;have hgG:w.heap.size<G:=HS9.out.lt;have hpG:gp<w.heap.size:=HLO.out.1;obtain⟨n0,n1,n2,n3,n4⟩:=Blk.five HS9.out.e;obtain⟨z0,z1,z2,z3,z4⟩:=Blk.five HS9.out.z;obtain⟨f0,f1,f2,f3,f4⟩:=Blk.fro5 HS9.out.z;clear h9 hW9))
    have H6:=RSt.upd (s':={ qn with pa:=qe.pa-1 }) HCX.out HS9.out.st ((Only.refl w9 gp).setCell 3 _) (HS9.out.st.b.set_ 3 (.int .i64 (qe.pa-1))) HS9.out.st.lt;have hng:gp≠w.heap.size:=by have:=HLO.out.1;omega
    have H7:=HS9.out.z.far (p:=⟨gp,3,none⟩) (Ne.symm hng) (.int .i64 (qe.pa-1));refine bodyPost_ret (res_c rfl _ w.heap.size 39 (exC (.mk k_join 0 zs p l) (A1,c1)) rfl ((by exact(zax H7).1)) _ Tryz.underlying39 rfl hdEx) rfl ?_;rw[HSE.out,HRE.out];refine⟨(A1,c1),rfl,?_,H6.1.only HLO.out lr (zax H7).2,((((((HS9.out.wr.trans H6.2).setNew lr _).setNew lr _).setNew lr _).setNew lr _).setNew lr _)⟩;exact(((((((ArgsIn.rjn HS9.out).keep (zb6 H6.2 HLO.out.all)).keep (zag _)).keep (zag _)).keep (zag _)).keep (zag _)).keep (zag _)).keep zbk
theorem zmz(cx:RCx gp A n ts)(d:Nat)(hex:RExK gp A n c ts 64 (rexpr ts d) (RQ d)):RExK gp A n c ts 114 (rfactor ts (rexpr ts d)) (RQ (d+1)):=by
 intro s w h hq
 cases hk4:rKind ts 4 s
 · cases hkj:rIs ts k_join s
   · exact zld cx (rexpr ts d) (d+1) (znc cx d hex) h hq hk4 hkj
   · exact zlc cx (rexpr ts d) d hex (fun s=>zdr d s) h hq hk4 hkj
 · exact zlb cx (rexpr ts d) h hk4
theorem zau(cx:RCx gp A n ts):∀d:Nat,RExK gp A n c ts 64 (rexpr ts d) (RQ d)
 | 0=>fun _ _ _ hq=>absurd hq.d1 om
 | d+1=>zrv cx (rexpr ts d) (d+1) (zrs cx (rexpr ts d) (d+1) (zmz cx d (zau cx d)) (fun s=>ze5 (fun s=>zdr d s) s)) (fun s=>zip (fun s=>zdr d s) s)
theorem znd(cx:RCx gp A n ts)(d:Nat):RExK gp A n c ts 66 (ratom ts (rexpr ts d)) (RQ (d+1)):=znc cx d (zau cx d)
end
end
section
attribute [local go_sem ↓] zff
section
variable{gp:Nat}{A:Option Addr}{n c:Nat}{ts:List Lx.Tok}
theorem zk7(cx:RCx gp A n ts)(st:RS→St × RS)(d:Nat)(hbo:RBoK gp A n c ts 91 (rbody ts st) (RQS d))(hg:∀s,RP s (st s).2)(s:RS)(w:World)(h:RSt gp A n c ts s w)(hq:RQS d s)(hs:rbegins ts s=true)(hK:bytesOf (rk ts s).text=k_wait):RsC gp A n c ts st s w:=by
 unfold RsC
 have HT:Hid (rstmtG ts st s=(.mk k_wait ((rk ts s).at_:Int) zR (REX ts (rnx s)).1 zE zE [] zR zR [] [],(rneed ts m_semi (REX ts (rnx s)).2))):=(by show _=_;unfold rstmtG;dsimp only;rw[hK];rw[if_neg (by decide),if_neg (by decide),if_neg (by decide),if_neg (by decide),if_pos rfl]);rw[HT.out];have HNW:=qh (fun W (h:RSt gp A n c ts s W)=>now_c cx h);obtain⟨HH,HE,HB,HX,hi8⟩:=zbc cx h;have HLO:=qh (h.lo cx);have hltt:=zaz cx.ends hs;have HNX:=qh (fun W (h:RSt gp A n c ts s W)=>RSt.next cx h hltt)
 unfold tokCells at HNW
 have C1:=qh (fun W (h:RSt gp A n c ts (rnx s) W)=>zau cx 14 (rnx s) W h (hq.q.rp (rnx_p)));have C2:=qh (fun W (h:RSt gp A n c ts (REX ts (rnx s)).2 W)=>zaw m_semi cx h);clear h hq hs hltt HT hbo ;generalize rnx s=q0 at *;generalize (REX ts q0).1=X1 at *;generalize (REX ts q0).2=q1 at *;generalize (rneed ts m_semi q1)=q2 at *;rw[hK]at HNW;generalize ((rk ts s).at_:Int)=at_ at *;generalize ((rk ts s).kind:Int)=tk at *;generalize (rk ts s).num=tn at *;clear hK cx hg;have hf1:=fld1 (.int .i64 tk) (.string k_wait) (.int .i64 tn) (.int .i64 at_);have hf3:=fld3 (.int .i64 tk) (.string k_wait) (.int .i64 tn) (.int .i64 at_)
 go_enter Tryz.func68, Tryz.ntmps68
 go_upto_region 2 with (first
  | (go_at_call 27;(refine(HNW.out _ (by exact H2.out)).mono ?_);rintro e w3 ⟨rfl,hB3⟩;have H3:=qh (H2.out.below hB3);have HE3:=qh (HE2.out.trans (Wr.of_below hB3));have HB3:=qbl HB2 hB3;clear hB3)
  | (go_at_call 27;(refine(HNW.out _ (by exact HH.out)).mono ?_);rintro e w2 ⟨rfl,hB2⟩;have H2:=qh (HH.out.below hB2);have HE2:=qh (HE.out.trans (Wr.of_below hB2));have HB2:=qbl HB hB2;clear hB2)
  | refine zad rfl 42 [(0,.tmp 6),(1,.tmp 9)] rfl _ rr _ (zbq _ _ _) ?_
  | (refine zaa rfl 42 (.tmp 3) (.tmp 10) rfl w3.heap.size (stC (kT k_wait at_) pA0) rr rr 42 (stC zT pA0) (by exact Blk.new' sy rfl) hdSt (zal _ _) rfl ?_;intro w6 hb6 ho6;have hz3:=HB3.out.lt;have hgt:Hid (w.heap.size<w3.heap.size):=(by show _<_;omega);have HS6:Hid (RLn gp w3.heap.size A n c ts w6 (kT k_wait at_) pA0 s w6):=⟨(H3.out.alloc _).only (HLO.out.mono om) lr ho6,Wr.refl _ _,hb6,StIn.zero _ _ _ _,HLO.out.mono om,hb6.lt⟩;have HW6:Hid (Wr [gp] w w6):=(HE3.out.alloc _).thenb (ho6.below (Below.refl _ _) om (by have:=HE3.out.size;simp;omega));have HB6:Hid (Blk w6 w.heap.size 42 (stC zT pA0)):=ho6.blk (HB3.out.alloc _) om;obtain⟨k1,j1,l1⟩:=HX.out w6 HS6.out.st;clear hb6 ho6 hz3))
 obtain⟨gt,hgx⟩:=ex9 (w3.heap.size);rw[←hgx]at hgt HS6;rw[←hgx];clear hgx H2 HE2 HB2 H3 HE3 HB3 HNW HH HE HB
 go_upto_region 3 with fail
 have HS0:Hid (RLn gp gt A n c ts w6 (kT k_wait at_) pA0 q0 (w6.setCell ⟨gp,1,none⟩ (.int .i64 ((s.i:Int)+1)))):=HS6.out.call (HNX.out w6 HS6.out.st).1 (HNX.out w6 HS6.out.st).2;generalize w6.setCell ⟨gp,1,none⟩ (.int .i64 ((s.i:Int)+1))=w7 at *;have hc0:w7.cell? ⟨gt,0,none⟩=some (.string k_wait):=HS0.out.e.cell 0;clear HX HNX k1 j1 l1 HS6
 go_wp2_with (first
  | (refine zaa rfl 42 (.tmp 2) (.tmp 168) rfl w.heap.size (stC (.mk k_wait at_ zR X1 zE zE [] zR zR [] []) ⟨a1,pA0.b,pA0.c,pA0.r,pA0.y,pA0.z⟩) rr rr 42 (stC zT pA0) (by exact HZ8.out) hdSt (zal _ _) rfl ?_;intro w9_ hb9 ho9)
  | (go_at_call 63;(with_reducible refine(C2.out _ (by exact HS2.out.st)).mono ?_);rintro e v3 ⟨rfl,h2,hW2⟩;have HS3:=qh (HS2.out.call h2 hW2);have kk3:v3.cell? ⟨gt,0,none⟩=some (.string k_wait):=HS3.out.e.cell 0;have hl8:=sd_ld HS3.out.e;have HZ8:=qh (HS3.out.res HB6.out hgt.out HLO.out);clear h2 hW2)
  | (refine zab rfl 39 (.tmp 73) (.tmp 72) rfl gt 4 (exC X1 a1) rr rr 42 (stC (.mk k_wait at_ zR zE zE zE [] zR zR [] []) ⟨pA0.a,pA0.b,pA0.c,pA0.r,pA0.y,pA0.z⟩) (by exact HS1.out.e) hdEx (zai X1 a1) (by show 4+5≤26;omega) ?_;intro v2 hb3 ho3;have HS2:Hid (RLn gp gt A n c ts w6 (.mk k_wait at_ zR X1 zE zE [] zR zR [] []) ⟨a1,pA0.b,pA0.c,pA0.r,pA0.y,pA0.z⟩ q1 v2):=HS1.out.put ho3 (by exact hb3) ⟨⟨HA1.out,HS1.out.ar.1.2⟩,HS1.out.ar.2⟩;have kk2:v2.cell? ⟨gt,0,none⟩=some (.string k_wait):=HS2.out.e.cell 0;clear hb3 ho3)
  | (go_at_call 64;(refine(C1.out _ (by exact HS0.out.st)).mono ?_);rintro e v1 ⟨a1,rfl,ha,h2,hW2⟩;have HA1:=qh (ArgsIn.rup HS0.out ha);have HS1:=qh (HS0.out.call h2 hW2);clear ha h2 hW2))
 obtain⟨e1,e2,e3⟩:=RStE HS3.out HW6.out hgt.out HLO.out ho9;refine bodyPost_ret (res_c rfl _ w.heap.size 42 (stC (.mk k_wait at_ zR X1 zE zE [] zR zR [] []) ⟨a1,pA0.b,pA0.c,pA0.r,pA0.y,pA0.z⟩) rfl hb9 _ Tryz.underlying42 rfl hdSt) rfl ⟨⟨a1,pA0.b,pA0.c,pA0.r,pA0.y,pA0.z⟩,rfl,e1,e2,e3⟩
theorem zir(cx:RCx gp A n ts)(st:RS→St × RS)(d:Nat)(hbo:RBoK gp A n c ts 91 (rbody ts st) (RQS d))(hg:∀s,RP s (st s).2)(s:RS)(w:World)(h:RSt gp A n c ts s w)(hq:RQS d s)(hs:rbegins ts s=true)(hK:bytesOf (rk ts s).text=k_cover):RsC gp A n c ts st s w:=by
 unfold RsC
 have HT:Hid (rstmtG ts st s=(.mk k_cover ((rk ts s).at_:Int) zR zE zE zE (rroutes ts false (rnx s)).1 zR zR [] [],(rneed ts m_semi (rroutes ts false (rnx s)).2))):=(by show _=_;unfold rstmtG;dsimp only;rw[hK];rw[if_neg (by decide),if_neg (by decide),if_neg (by decide),if_pos rfl]);rw[HT.out];have HNW:=qh (fun W (h:RSt gp A n c ts s W)=>now_c cx h);obtain⟨HH,HE,HB,HX,hi8⟩:=zbc cx h;have HLO:=qh (h.lo cx);have hltt:=zaz cx.ends hs;have HNX:=qh (fun W (h:RSt gp A n c ts s W)=>RSt.next cx h hltt)
 unfold tokCells at HNW
 have C1:=qh (fun W (h:RSt gp A n c ts (rnx s) W)=>zbw cx h false);have C2:=qh (fun W (h:RSt gp A n c ts (rroutes ts false (rnx s)).2 W)=>zaw m_semi cx h);clear h hq hs hltt HT hbo ;generalize rnx s=q0 at *;generalize (rroutes ts false q0).1=X1 at *;generalize (rroutes ts false q0).2=q1 at *;generalize (rneed ts m_semi q1)=q2 at *;rw[hK]at HNW;generalize ((rk ts s).at_:Int)=at_ at *;generalize ((rk ts s).kind:Int)=tk at *;generalize (rk ts s).num=tn at *;clear hK cx hg;have hf1:=fld1 (.int .i64 tk) (.string k_cover) (.int .i64 tn) (.int .i64 at_);have hf3:=fld3 (.int .i64 tk) (.string k_cover) (.int .i64 tn) (.int .i64 at_)
 go_enter Tryz.func68, Tryz.ntmps68
 go_upto_region 2 with (first
  | (go_at_call 27;(refine(HNW.out _ (by exact H2.out)).mono ?_);rintro e w3 ⟨rfl,hB3⟩;have H3:=qh (H2.out.below hB3);have HE3:=qh (HE2.out.trans (Wr.of_below hB3));have HB3:=qbl HB2 hB3;clear hB3)
  | (go_at_call 27;(refine(HNW.out _ (by exact HH.out)).mono ?_);rintro e w2 ⟨rfl,hB2⟩;have H2:=qh (HH.out.below hB2);have HE2:=qh (HE.out.trans (Wr.of_below hB2));have HB2:=qbl HB hB2;clear hB2)
  | refine zad rfl 42 [(0,.tmp 6),(1,.tmp 9)] rfl _ rr _ (zbq _ _ _) ?_
  | (refine zaa rfl 42 (.tmp 3) (.tmp 10) rfl w3.heap.size (stC (kT k_cover at_) pA0) rr rr 42 (stC zT pA0) (by exact Blk.new' sy rfl) hdSt (zal _ _) rfl ?_;intro w6 hb6 ho6;have hz3:=HB3.out.lt;have hgt:Hid (w.heap.size<w3.heap.size):=(by show _<_;omega);have HS6:Hid (RLn gp w3.heap.size A n c ts w6 (kT k_cover at_) pA0 s w6):=⟨(H3.out.alloc _).only (HLO.out.mono om) lr ho6,Wr.refl _ _,hb6,StIn.zero _ _ _ _,HLO.out.mono om,hb6.lt⟩;have HW6:Hid (Wr [gp] w w6):=(HE3.out.alloc _).thenb (ho6.below (Below.refl _ _) om (by have:=HE3.out.size;simp;omega));have HB6:Hid (Blk w6 w.heap.size 42 (stC zT pA0)):=ho6.blk (HB3.out.alloc _) om;obtain⟨k1,j1,l1⟩:=HX.out w6 HS6.out.st;clear hb6 ho6 hz3))
 obtain⟨gt,hgx⟩:=ex9 (w3.heap.size);rw[←hgx]at hgt HS6;rw[←hgx];clear hgx H2 HE2 HB2 H3 HE3 HB3 HNW HH HE HB
 go_upto_region 3 with fail
 have HS0:Hid (RLn gp gt A n c ts w6 (kT k_cover at_) pA0 q0 (w6.setCell ⟨gp,1,none⟩ (.int .i64 ((s.i:Int)+1)))):=HS6.out.call (HNX.out w6 HS6.out.st).1 (HNX.out w6 HS6.out.st).2;generalize w6.setCell ⟨gp,1,none⟩ (.int .i64 ((s.i:Int)+1))=w7 at *;have hc0:w7.cell? ⟨gt,0,none⟩=some (.string k_cover):=HS0.out.e.cell 0;clear HX HNX k1 j1 l1 HS6
 go_wp2_with (first
  | (refine zaa rfl 42 (.tmp 2) (.tmp 168) rfl w.heap.size (stC (.mk k_cover at_ zR zE zE zE X1 zR zR [] []) ⟨pA0.a,pA0.b,pA0.c,(A1,c1),pA0.y,pA0.z⟩) rr rr 42 (stC zT pA0) (by exact HZ8.out) hdSt (zal _ _) rfl ?_;intro w9_ hb9 ho9)
  | (go_at_call 63;(with_reducible refine(C2.out _ (by exact HS1_.out.st)).mono ?_);rintro e v2 ⟨rfl,h2,hW2⟩;have HS2:=qh (HS1_.out.call h2 hW2);have kk2:v2.cell? ⟨gt,0,none⟩=some (.string k_cover):=HS2.out.e.cell 0;have hl8:=sd_ld HS2.out.e;have HZ8:=qh (HS2.out.res HB6.out hgt.out HLO.out);clear h2 hW2)
  | (go_at_call 90;(refine(C1.out _ (by exact HS0.out.st)).mono ?_);rintro e v1 ⟨A1,c1,rfl,hr,h2,hW2⟩;have HR:=qh (RfsIn.rup HS0.out hr);have HS1:=qh (HS0.out.call h2 hW2);have c19_:v1.cell? ⟨gt,19,none⟩=some (.slice none 0 0):=HS1.out.e.cell 19;have f19_:=HS1.out.e.frozen 19;have lt19:=HS1.out.e.lt;have HS1_:Hid (RLn gp gt A n c ts w6 (.mk k_cover at_ zR zE zE zE X1 zR zR [] []) ⟨pA0.a,pA0.b,pA0.c,(A1,c1),pA0.y,pA0.z⟩ q1 (v1.setCell ⟨gt,19,none⟩ (.slice A1 X1.length c1))):=HS1.out.one 19 _ rfl ⟨⟨HS1.out.ar.1.1,HS1.out.ar.1.2.1,HS1.out.ar.1.2.2.1,HR.out⟩,HS1.out.ar.2⟩;have kk1:v1.cell? ⟨gt,0,none⟩=some (.string k_cover):=HS1.out.e.cell 0;clear hr h2 hW2))
 obtain⟨e1,e2,e3⟩:=RStE HS2.out HW6.out hgt.out HLO.out ho9;refine bodyPost_ret (res_c rfl _ w.heap.size 42 (stC (.mk k_cover at_ zR zE zE zE X1 zR zR [] []) ⟨pA0.a,pA0.b,pA0.c,(A1,c1),pA0.y,pA0.z⟩) rfl hb9 _ Tryz.underlying42 rfl hdSt) rfl ⟨⟨pA0.a,pA0.b,pA0.c,(A1,c1),pA0.y,pA0.z⟩,rfl,e1,e2,e3⟩
theorem zis(cx:RCx gp A n ts)(st:RS→St × RS)(d:Nat)(hbo:RBoK gp A n c ts 91 (rbody ts st) (RQS d))(hg:∀s,RP s (st s).2)(s:RS)(w:World)(h:RSt gp A n c ts s w)(hq:RQS d s)(hs:rbegins ts s=true)(hK:bytesOf (rk ts s).text=k_block):RsC gp A n c ts st s w:=by
 unfold RsC
 have HT:Hid (rstmtG ts st s=(.mk k_block ((rk ts s).at_:Int) (rname ts (rnx s)).1 zE zE zE (rroutes ts false (rneed ts k_via (rname ts (rnx s)).2)).1 zR zR [] [],(rneed ts m_semi (rroutes ts false (rneed ts k_via (rname ts (rnx s)).2)).2))):=(by show _=_;unfold rstmtG;dsimp only;rw[hK];rw[if_neg (by decide),if_neg (by decide),if_neg (by decide),if_neg (by decide),if_neg (by decide),if_pos rfl]);rw[HT.out];have HNW:=qh (fun W (h:RSt gp A n c ts s W)=>now_c cx h);obtain⟨HH,HE,HB,HX,hi8⟩:=zbc cx h;have HLO:=qh (h.lo cx);have hltt:=zaz cx.ends hs;have HNX:=qh (fun W (h:RSt gp A n c ts s W)=>RSt.next cx h hltt)
 unfold tokCells at HNW
 have C1:=qh (fun W (h:RSt gp A n c ts (rnx s) W)=>zcy cx h);have C2:=qh (fun W (h:RSt gp A n c ts (rname ts (rnx s)).2 W)=>zaw k_via cx h);have C3:=qh (fun W (h:RSt gp A n c ts (rneed ts k_via (rname ts (rnx s)).2) W)=>zbw cx h false);have C4:=qh (fun W (h:RSt gp A n c ts (rroutes ts false (rneed ts k_via (rname ts (rnx s)).2)).2 W)=>zaw m_semi cx h);clear h hq hs hltt HT hbo ;generalize rnx s=q0 at *;generalize (rname ts q0).1=X1 at *;generalize (rname ts q0).2=q1 at *;generalize (rneed ts k_via q1)=q2 at *;generalize (rroutes ts false q2).1=X3 at *;generalize (rroutes ts false q2).2=q3 at *;generalize (rneed ts m_semi q3)=q4 at *;rw[hK]at HNW;generalize ((rk ts s).at_:Int)=at_ at *;generalize ((rk ts s).kind:Int)=tk at *;generalize (rk ts s).num=tn at *;clear hK cx hg;have hf1:=fld1 (.int .i64 tk) (.string k_block) (.int .i64 tn) (.int .i64 at_);have hf3:=fld3 (.int .i64 tk) (.string k_block) (.int .i64 tn) (.int .i64 at_)
 go_enter Tryz.func68, Tryz.ntmps68
 go_upto_region 2 with (first
  | (go_at_call 27;(refine(HNW.out _ (by exact H2.out)).mono ?_);rintro e w3 ⟨rfl,hB3⟩;have H3:=qh (H2.out.below hB3);have HE3:=qh (HE2.out.trans (Wr.of_below hB3));have HB3:=qbl HB2 hB3;clear hB3)
  | (go_at_call 27;(refine(HNW.out _ (by exact HH.out)).mono ?_);rintro e w2 ⟨rfl,hB2⟩;have H2:=qh (HH.out.below hB2);have HE2:=qh (HE.out.trans (Wr.of_below hB2));have HB2:=qbl HB hB2;clear hB2)
  | refine zad rfl 42 [(0,.tmp 6),(1,.tmp 9)] rfl _ rr _ (zbq _ _ _) ?_
  | (refine zaa rfl 42 (.tmp 3) (.tmp 10) rfl w3.heap.size (stC (kT k_block at_) pA0) rr rr 42 (stC zT pA0) (by exact Blk.new' sy rfl) hdSt (zal _ _) rfl ?_;intro w6 hb6 ho6;have hz3:=HB3.out.lt;have hgt:Hid (w.heap.size<w3.heap.size):=(by show _<_;omega);have HS6:Hid (RLn gp w3.heap.size A n c ts w6 (kT k_block at_) pA0 s w6):=⟨(H3.out.alloc _).only (HLO.out.mono om) lr ho6,Wr.refl _ _,hb6,StIn.zero _ _ _ _,HLO.out.mono om,hb6.lt⟩;have HW6:Hid (Wr [gp] w w6):=(HE3.out.alloc _).thenb (ho6.below (Below.refl _ _) om (by have:=HE3.out.size;simp;omega));have HB6:Hid (Blk w6 w.heap.size 42 (stC zT pA0)):=ho6.blk (HB3.out.alloc _) om;obtain⟨k1,j1,l1⟩:=HX.out w6 HS6.out.st;clear hb6 ho6 hz3))
 obtain⟨gt,hgx⟩:=ex9 (w3.heap.size);rw[←hgx]at hgt HS6;rw[←hgx];clear hgx H2 HE2 HB2 H3 HE3 HB3 HNW HH HE HB
 go_upto_region 3 with fail
 have HS0:Hid (RLn gp gt A n c ts w6 (kT k_block at_) pA0 q0 (w6.setCell ⟨gp,1,none⟩ (.int .i64 ((s.i:Int)+1)))):=HS6.out.call (HNX.out w6 HS6.out.st).1 (HNX.out w6 HS6.out.st).2;generalize w6.setCell ⟨gp,1,none⟩ (.int .i64 ((s.i:Int)+1))=w7 at *;have hc0:w7.cell? ⟨gt,0,none⟩=some (.string k_block):=HS0.out.e.cell 0;clear HX HNX k1 j1 l1 HS6
 go_wp2_with (first
  | (refine zaa rfl 42 (.tmp 2) (.tmp 168) rfl w.heap.size (stC (.mk k_block at_ X1 zE zE zE X3 zR zR [] []) ⟨pA0.a,pA0.b,pA0.c,(A3,c3),pA0.y,pA0.z⟩) rr rr 42 (stC zT pA0) (by exact HZ8.out) hdSt (zal _ _) rfl ?_;intro w9_ hb9 ho9)
  | (go_at_call 63;(with_reducible refine(C4.out _ (by exact HS4_.out.st)).mono ?_);rintro e v5 ⟨rfl,h2,hW2⟩;have HS5:=qh (HS4_.out.call h2 hW2);have kk5:v5.cell? ⟨gt,0,none⟩=some (.string k_block):=HS5.out.e.cell 0;have hl8:=sd_ld HS5.out.e;have HZ8:=qh (HS5.out.res HB6.out hgt.out HLO.out);clear h2 hW2)
  | (go_at_call 90;(refine(C3.out _ (by exact HS3.out.st)).mono ?_);rintro e v4 ⟨A3,c3,rfl,hr,h2,hW2⟩;have HR:=qh (RfsIn.rup HS3.out hr);have HS4:=qh (HS3.out.call h2 hW2);have c19_:v4.cell? ⟨gt,19,none⟩=some (.slice none 0 0):=HS4.out.e.cell 19;have f19_:=HS4.out.e.frozen 19;have lt19:=HS4.out.e.lt;have HS4_:Hid (RLn gp gt A n c ts w6 (.mk k_block at_ X1 zE zE zE X3 zR zR [] []) ⟨pA0.a,pA0.b,pA0.c,(A3,c3),pA0.y,pA0.z⟩ q3 (v4.setCell ⟨gt,19,none⟩ (.slice A3 X3.length c3))):=HS4.out.one 19 _ rfl ⟨⟨HS4.out.ar.1.1,HS4.out.ar.1.2.1,HS4.out.ar.1.2.2.1,HR.out⟩,HS4.out.ar.2⟩;have kk4:v4.cell? ⟨gt,0,none⟩=some (.string k_block):=HS4.out.e.cell 0;clear hr h2 hW2)
  | (go_at_call 63;(with_reducible refine(C2.out _ (by exact HS2.out.st)).mono ?_);rintro e v3 ⟨rfl,h2,hW2⟩;have HS3:=qh (HS2.out.call h2 hW2);have kk3:v3.cell? ⟨gt,0,none⟩=some (.string k_block):=HS3.out.e.cell 0;clear h2 hW2)
  | (refine zab rfl 36 (.tmp 78) (.tmp 77) rfl gt 2 (rfC X1) rr rr 42 (stC (.mk k_block at_ zR zE zE zE [] zR zR [] []) ⟨pA0.a,pA0.b,pA0.c,pA0.r,pA0.y,pA0.z⟩) (by exact HS1.out.e) hdRf (za4 X1) (by show 2+2≤26;omega) ?_;intro v2 hb3 ho3;have HS2:Hid (RLn gp gt A n c ts w6 (.mk k_block at_ X1 zE zE zE [] zR zR [] []) ⟨pA0.a,pA0.b,pA0.c,pA0.r,pA0.y,pA0.z⟩ q1 v2):=HS1.out.put ho3 (by exact hb3) HS1.out.ar;have kk2:v2.cell? ⟨gt,0,none⟩=some (.string k_block):=HS2.out.e.cell 0;clear hb3 ho3)
  | (go_at_call 62;(with_reducible refine(C1.out _ (by exact HS0.out.st)).mono ?_);rintro e v1 ⟨rfl,h2,hW2⟩;have HS1:=qh (HS0.out.call h2 hW2);clear h2 hW2))
 obtain⟨e1,e2,e3⟩:=RStE HS5.out HW6.out hgt.out HLO.out ho9;refine bodyPost_ret (res_c rfl _ w.heap.size 42 (stC (.mk k_block at_ X1 zE zE zE X3 zR zR [] []) ⟨pA0.a,pA0.b,pA0.c,(A3,c3),pA0.y,pA0.z⟩) rfl hb9 _ Tryz.underlying42 rfl hdSt) rfl ⟨⟨pA0.a,pA0.b,pA0.c,(A3,c3),pA0.y,pA0.z⟩,rfl,e1,e2,e3⟩
theorem zit(cx:RCx gp A n ts)(st:RS→St × RS)(d:Nat)(hbo:RBoK gp A n c ts 91 (rbody ts st) (RQS d))(hg:∀s,RP s (st s).2)(s:RS)(w:World)(h:RSt gp A n c ts s w)(hq:RQS d s)(hs:rbegins ts s=true)(hK:bytesOf (rk ts s).text=k_after):RsC gp A n c ts st s w:=by
 unfold RsC
 have HT:Hid (rstmtG ts st s=(.mk k_after ((rk ts s).at_:Int) zR (REX ts (rnx s)).1 zE zE [] zR zR (rbody ts st (REX ts (rnx s)).2).1 [],(rbody ts st (REX ts (rnx s)).2).2)):=(by show _=_;unfold rstmtG;dsimp only;rw[hK];rw[if_neg (by decide),if_neg (by decide),if_neg (by decide),if_neg (by decide),if_neg (by decide),if_neg (by decide),if_neg (by decide),if_pos rfl]);rw[HT.out];have HNW:=qh (fun W (h:RSt gp A n c ts s W)=>now_c cx h);obtain⟨HH,HE,HB,HX,hi8⟩:=zbc cx h;have HLO:=qh (h.lo cx);have hltt:=zaz cx.ends hs;have HNX:=qh (fun W (h:RSt gp A n c ts s W)=>RSt.next cx h hltt)
 unfold tokCells at HNW
 have C1:=qh (fun W (h:RSt gp A n c ts (rnx s) W)=>zau cx 14 (rnx s) W h (hq.q.rp (rnx_p)));have C2:=qh (fun W (h:RSt gp A n c ts (REX ts (rnx s)).2 W)=>hbo (REX ts (rnx s)).2 W h (hq.rp ((rnx_p).trans (REX_p (rnx s)))));clear h hq hs hltt HT hbo ;generalize rnx s=q0 at *;generalize (REX ts q0).1=X1 at *;generalize (REX ts q0).2=q1 at *;generalize (rbody ts st q1).1=X2 at *;generalize (rbody ts st q1).2=q2 at *;rw[hK]at HNW;generalize ((rk ts s).at_:Int)=at_ at *;generalize ((rk ts s).kind:Int)=tk at *;generalize (rk ts s).num=tn at *;clear hK cx hg;have hf1:=fld1 (.int .i64 tk) (.string k_after) (.int .i64 tn) (.int .i64 at_);have hf3:=fld3 (.int .i64 tk) (.string k_after) (.int .i64 tn) (.int .i64 at_)
 go_enter Tryz.func68, Tryz.ntmps68
 go_upto_region 2 with (first
  | (go_at_call 27;(refine(HNW.out _ (by exact H2.out)).mono ?_);rintro e w3 ⟨rfl,hB3⟩;have H3:=qh (H2.out.below hB3);have HE3:=qh (HE2.out.trans (Wr.of_below hB3));have HB3:=qbl HB2 hB3;clear hB3)
  | (go_at_call 27;(refine(HNW.out _ (by exact HH.out)).mono ?_);rintro e w2 ⟨rfl,hB2⟩;have H2:=qh (HH.out.below hB2);have HE2:=qh (HE.out.trans (Wr.of_below hB2));have HB2:=qbl HB hB2;clear hB2)
  | refine zad rfl 42 [(0,.tmp 6),(1,.tmp 9)] rfl _ rr _ (zbq _ _ _) ?_
  | (refine zaa rfl 42 (.tmp 3) (.tmp 10) rfl w3.heap.size (stC (kT k_after at_) pA0) rr rr 42 (stC zT pA0) (by exact Blk.new' sy rfl) hdSt (zal _ _) rfl ?_;intro w6 hb6 ho6;have hz3:=HB3.out.lt;have hgt:Hid (w.heap.size<w3.heap.size):=(by show _<_;omega);have HS6:Hid (RLn gp w3.heap.size A n c ts w6 (kT k_after at_) pA0 s w6):=⟨(H3.out.alloc _).only (HLO.out.mono om) lr ho6,Wr.refl _ _,hb6,StIn.zero _ _ _ _,HLO.out.mono om,hb6.lt⟩;have HW6:Hid (Wr [gp] w w6):=(HE3.out.alloc _).thenb (ho6.below (Below.refl _ _) om (by have:=HE3.out.size;simp;omega));have HB6:Hid (Blk w6 w.heap.size 42 (stC zT pA0)):=ho6.blk (HB3.out.alloc _) om;obtain⟨k1,j1,l1⟩:=HX.out w6 HS6.out.st;clear hb6 ho6 hz3))
 obtain⟨gt,hgx⟩:=ex9 (w3.heap.size);rw[←hgx]at hgt HS6;rw[←hgx];clear hgx H2 HE2 HB2 H3 HE3 HB3 HNW HH HE HB
 go_upto_region 3 with fail
 have HS0:Hid (RLn gp gt A n c ts w6 (kT k_after at_) pA0 q0 (w6.setCell ⟨gp,1,none⟩ (.int .i64 ((s.i:Int)+1)))):=HS6.out.call (HNX.out w6 HS6.out.st).1 (HNX.out w6 HS6.out.st).2;generalize w6.setCell ⟨gp,1,none⟩ (.int .i64 ((s.i:Int)+1))=w7 at *;have hc0:w7.cell? ⟨gt,0,none⟩=some (.string k_after):=HS0.out.e.cell 0;clear HX HNX k1 j1 l1 HS6
 go_wp2_with (first
  | (refine zaa rfl 42 (.tmp 2) (.tmp 168) rfl w.heap.size (stC (.mk k_after at_ zR X1 zE zE [] zR zR X2 []) ⟨a1,pA0.b,pA0.c,pA0.r,(A2,c2),pA0.z⟩) rr rr 42 (stC zT pA0) (by exact HZ8.out) hdSt (zal _ _) rfl ?_;intro w9_ hb9 ho9)
  | (go_at_call 91;(with_reducible refine(C2.out _ (by exact HS2.out.st)).mono ?_);rintro e v3 ⟨A2,c2,rfl,hr,h2,hW2⟩;have HR:=hr.keep (zar HS2.out.wr.size);have HS3:=qh (HS2.out.call h2 hW2);have c24_:v3.cell? ⟨gt,24,none⟩=some (.slice none 0 0):=HS3.out.e.cell 24;have f24_:=HS3.out.e.frozen 24;have lt24:=HS3.out.e.lt;have HS3_:Hid (RLn gp gt A n c ts w6 (.mk k_after at_ zR X1 zE zE [] zR zR X2 []) ⟨a1,pA0.b,pA0.c,pA0.r,(A2,c2),pA0.z⟩ q2 (v3.setCell ⟨gt,24,none⟩ (.slice A2 X2.length c2))):=HS3.out.one 24 _ rfl ⟨HS3.out.ar.1,HR,HS3.out.ar.2.2⟩;have kk3:v3.cell? ⟨gt,0,none⟩=some (.string k_after):=HS3.out.e.cell 0;have hl8:=sd_ld HS3_.out.e;have HZ8:=qh (HS3_.out.res HB6.out hgt.out HLO.out);clear hr h2 hW2 HR)
  | (refine zab rfl 39 (.tmp 103) (.tmp 102) rfl gt 4 (exC X1 a1) rr rr 42 (stC (.mk k_after at_ zR zE zE zE [] zR zR [] []) ⟨pA0.a,pA0.b,pA0.c,pA0.r,pA0.y,pA0.z⟩) (by exact HS1.out.e) hdEx (zai X1 a1) (by show 4+5≤26;omega) ?_;intro v2 hb3 ho3;have HS2:Hid (RLn gp gt A n c ts w6 (.mk k_after at_ zR X1 zE zE [] zR zR [] []) ⟨a1,pA0.b,pA0.c,pA0.r,pA0.y,pA0.z⟩ q1 v2):=HS1.out.put ho3 (by exact hb3) ⟨⟨HA1.out,HS1.out.ar.1.2⟩,HS1.out.ar.2⟩;have kk2:v2.cell? ⟨gt,0,none⟩=some (.string k_after):=HS2.out.e.cell 0;clear hb3 ho3)
  | (go_at_call 64;(refine(C1.out _ (by exact HS0.out.st)).mono ?_);rintro e v1 ⟨a1,rfl,ha,h2,hW2⟩;have HA1:=qh (ArgsIn.rup HS0.out ha);have HS1:=qh (HS0.out.call h2 hW2);clear ha h2 hW2))
 obtain⟨e1,e2,e3⟩:=RStE HS3_.out HW6.out hgt.out HLO.out ho9;refine bodyPost_ret (res_c rfl _ w.heap.size 42 (stC (.mk k_after at_ zR X1 zE zE [] zR zR X2 []) ⟨a1,pA0.b,pA0.c,pA0.r,(A2,c2),pA0.z⟩) rfl hb9 _ Tryz.underlying42 rfl hdSt) rfl ⟨⟨a1,pA0.b,pA0.c,pA0.r,(A2,c2),pA0.z⟩,rfl,e1,e2,e3⟩
end
end
section
attribute [local go_sem ↓] zff
section
variable{gp:Nat}{A:Option Addr}{n c:Nat}{ts:List Lx.Tok}
theorem ziq(cx:RCx gp A n ts)(st:RS→St × RS)(d:Nat)(hbo:RBoK gp A n c ts 91 (rbody ts st) (RQS d))(hg:∀s,RP s (st s).2)(s:RS)(w:World)(h:RSt gp A n c ts s w)(hq:RQS d s)(hs:rbegins ts s=true)(hK:bytesOf (rk ts s).text=k_every):RsC gp A n c ts st s w:=by
 unfold RsC
 have HT:Hid (rstmtG ts st s=(.mk k_every ((rk ts s).at_:Int) zR (REX ts (rnx s)).1 (REX ts (rneed ts k_times (REX ts (rnx s)).2)).1 zE (rroutes ts false (rneed ts k_cover (REX ts (rneed ts k_times (REX ts (rnx s)).2)).2)).1 zR zR [] [],(rneed ts m_semi (rroutes ts false (rneed ts k_cover (REX ts (rneed ts k_times (REX ts (rnx s)).2)).2)).2))):=(by show _=_;unfold rstmtG;dsimp only;rw[hK];rw[if_neg (by decide),if_neg (by decide),if_neg (by decide),if_neg (by decide),if_neg (by decide),if_neg (by decide),if_pos rfl]);rw[HT.out];have HNW:=qh (fun W (h:RSt gp A n c ts s W)=>now_c cx h);obtain⟨HH,HE,HB,HX,hi8⟩:=zbc cx h;have HLO:=qh (h.lo cx);have hltt:=zaz cx.ends hs;have HNX:=qh (fun W (h:RSt gp A n c ts s W)=>RSt.next cx h hltt)
 unfold tokCells at HNW
 have C1:=qh (fun W (h:RSt gp A n c ts (rnx s) W)=>zau cx 14 (rnx s) W h (hq.q.rp (rnx_p)));have C2:=qh (fun W (h:RSt gp A n c ts (REX ts (rnx s)).2 W)=>zaw k_times cx h);have C3:=qh (fun W (h:RSt gp A n c ts (rneed ts k_times (REX ts (rnx s)).2) W)=>zau cx 14 (rneed ts k_times (REX ts (rnx s)).2) W h (hq.q.rp (((rnx_p).trans (REX_p (rnx s))).trans (za2 k_times (REX ts (rnx s)).2))));have C4:=qh (fun W (h:RSt gp A n c ts (REX ts (rneed ts k_times (REX ts (rnx s)).2)).2 W)=>zaw k_cover cx h);have C5:=qh (fun W (h:RSt gp A n c ts (rneed ts k_cover (REX ts (rneed ts k_times (REX ts (rnx s)).2)).2) W)=>zbw cx h false);have C6:=qh (fun W (h:RSt gp A n c ts (rroutes ts false (rneed ts k_cover (REX ts (rneed ts k_times (REX ts (rnx s)).2)).2)).2 W)=>zaw m_semi cx h);clear h hq hs hltt HT hbo ;generalize rnx s=q0 at *;generalize (REX ts q0).1=X1 at *;generalize (REX ts q0).2=q1 at *;generalize (rneed ts k_times q1)=q2 at *;generalize (REX ts q2).1=X3 at *;generalize (REX ts q2).2=q3 at *;generalize (rneed ts k_cover q3)=q4 at *;generalize (rroutes ts false q4).1=X5 at *;generalize (rroutes ts false q4).2=q5 at *;generalize (rneed ts m_semi q5)=q6 at *;rw[hK]at HNW;generalize ((rk ts s).at_:Int)=at_ at *;generalize ((rk ts s).kind:Int)=tk at *;generalize (rk ts s).num=tn at *;clear hK cx hg;have hf1:=fld1 (.int .i64 tk) (.string k_every) (.int .i64 tn) (.int .i64 at_);have hf3:=fld3 (.int .i64 tk) (.string k_every) (.int .i64 tn) (.int .i64 at_)
 go_enter Tryz.func68, Tryz.ntmps68
 go_upto_region 2 with (first
  | (go_at_call 27;(refine(HNW.out _ (by exact H2.out)).mono ?_);rintro e w3 ⟨rfl,hB3⟩;have H3:=qh (H2.out.below hB3);have HE3:=qh (HE2.out.trans (Wr.of_below hB3));have HB3:=qbl HB2 hB3;clear hB3)
  | (go_at_call 27;(refine(HNW.out _ (by exact HH.out)).mono ?_);rintro e w2 ⟨rfl,hB2⟩;have H2:=qh (HH.out.below hB2);have HE2:=qh (HE.out.trans (Wr.of_below hB2));have HB2:=qbl HB hB2;clear hB2)
  | refine zad rfl 42 [(0,.tmp 6),(1,.tmp 9)] rfl _ rr _ (zbq _ _ _) ?_
  | (refine zaa rfl 42 (.tmp 3) (.tmp 10) rfl w3.heap.size (stC (kT k_every at_) pA0) rr rr 42 (stC zT pA0) (by exact Blk.new' sy rfl) hdSt (zal _ _) rfl ?_;intro w6 hb6 ho6;have hz3:=HB3.out.lt;have hgt:Hid (w.heap.size<w3.heap.size):=(by show _<_;omega);have HS6:Hid (RLn gp w3.heap.size A n c ts w6 (kT k_every at_) pA0 s w6):=⟨(H3.out.alloc _).only (HLO.out.mono om) lr ho6,Wr.refl _ _,hb6,StIn.zero _ _ _ _,HLO.out.mono om,hb6.lt⟩;have HW6:Hid (Wr [gp] w w6):=(HE3.out.alloc _).thenb (ho6.below (Below.refl _ _) om (by have:=HE3.out.size;simp;omega));have HB6:Hid (Blk w6 w.heap.size 42 (stC zT pA0)):=ho6.blk (HB3.out.alloc _) om;obtain⟨k1,j1,l1⟩:=HX.out w6 HS6.out.st;clear hb6 ho6 hz3))
 obtain⟨gt,hgx⟩:=ex9 (w3.heap.size);rw[←hgx]at hgt HS6;rw[←hgx];clear hgx H2 HE2 HB2 H3 HE3 HB3 HNW HH HE HB
 go_upto_region 3 with fail
 have HS0:Hid (RLn gp gt A n c ts w6 (kT k_every at_) pA0 q0 (w6.setCell ⟨gp,1,none⟩ (.int .i64 ((s.i:Int)+1)))):=HS6.out.call (HNX.out w6 HS6.out.st).1 (HNX.out w6 HS6.out.st).2;generalize w6.setCell ⟨gp,1,none⟩ (.int .i64 ((s.i:Int)+1))=w7 at *;have hc0:w7.cell? ⟨gt,0,none⟩=some (.string k_every):=HS0.out.e.cell 0;clear HX HNX k1 j1 l1 HS6
 go_wp2_with (first
  | (refine zaa rfl 42 (.tmp 2) (.tmp 168) rfl w.heap.size (stC (.mk k_every at_ zR X1 X3 zE X5 zR zR [] []) ⟨a1,a3,pA0.c,(A5,c5),pA0.y,pA0.z⟩) rr rr 42 (stC zT pA0) (by exact HZ8.out) hdSt (zal _ _) rfl ?_;intro w9_ hb9 ho9)
  | (go_at_call 63;(with_reducible refine(C6.out _ (by exact HS7_.out.st)).mono ?_);rintro e v8 ⟨rfl,h2,hW2⟩;have HS8:=qh (HS7_.out.call h2 hW2);have kk8:v8.cell? ⟨gt,0,none⟩=some (.string k_every):=HS8.out.e.cell 0;have hl8:=sd_ld HS8.out.e;have HZ8:=qh (HS8.out.res HB6.out hgt.out HLO.out);clear h2 hW2)
  | (go_at_call 90;(refine(C5.out _ (by exact HS6.out.st)).mono ?_);rintro e v7 ⟨A5,c5,rfl,hr,h2,hW2⟩;have HR:=qh (RfsIn.rup HS6.out hr);have HS7:=qh (HS6.out.call h2 hW2);have c19_:v7.cell? ⟨gt,19,none⟩=some (.slice none 0 0):=HS7.out.e.cell 19;have f19_:=HS7.out.e.frozen 19;have lt19:=HS7.out.e.lt;have HS7_:Hid (RLn gp gt A n c ts w6 (.mk k_every at_ zR X1 X3 zE X5 zR zR [] []) ⟨a1,a3,pA0.c,(A5,c5),pA0.y,pA0.z⟩ q5 (v7.setCell ⟨gt,19,none⟩ (.slice A5 X5.length c5))):=HS7.out.one 19 _ rfl ⟨⟨HS7.out.ar.1.1,HS7.out.ar.1.2.1,HS7.out.ar.1.2.2.1,HR.out⟩,HS7.out.ar.2⟩;have kk7:v7.cell? ⟨gt,0,none⟩=some (.string k_every):=HS7.out.e.cell 0;clear hr h2 hW2)
  | (go_at_call 63;(with_reducible refine(C4.out _ (by exact HS5.out.st)).mono ?_);rintro e v6 ⟨rfl,h2,hW2⟩;have HS6:=qh (HS5.out.call h2 hW2);have kk6:v6.cell? ⟨gt,0,none⟩=some (.string k_every):=HS6.out.e.cell 0;clear h2 hW2)
  | (refine zab rfl 39 (.tmp 93) (.tmp 92) rfl gt 9 (exC X3 a3) rr rr 42 (stC (.mk k_every at_ zR X1 zE zE [] zR zR [] []) ⟨a1,pA0.b,pA0.c,pA0.r,pA0.y,pA0.z⟩) (by exact HS4.out.e) hdEx (zai X3 a3) (by show 9+5≤26;omega) ?_;intro v5 hb3 ho3;have HS5:Hid (RLn gp gt A n c ts w6 (.mk k_every at_ zR X1 X3 zE [] zR zR [] []) ⟨a1,a3,pA0.c,pA0.r,pA0.y,pA0.z⟩ q3 v5):=HS4.out.put ho3 (by exact hb3) ⟨⟨HS4.out.ar.1.1,HA3.out,HS4.out.ar.1.2.2⟩,HS4.out.ar.2⟩;have kk5:v5.cell? ⟨gt,0,none⟩=some (.string k_every):=HS5.out.e.cell 0;clear hb3 ho3)
  | (go_at_call 64;(refine(C3.out _ (by exact HS3.out.st)).mono ?_);rintro e v4 ⟨a3,rfl,ha,h2,hW2⟩;have HA3:=qh (ArgsIn.rup HS3.out ha);have HS4:=qh (HS3.out.call h2 hW2);clear ha h2 hW2)
  | (go_at_call 63;(with_reducible refine(C2.out _ (by exact HS2.out.st)).mono ?_);rintro e v3 ⟨rfl,h2,hW2⟩;have HS3:=qh (HS2.out.call h2 hW2);have kk3:v3.cell? ⟨gt,0,none⟩=some (.string k_every):=HS3.out.e.cell 0;clear h2 hW2)
  | (refine zab rfl 39 (.tmp 88) (.tmp 87) rfl gt 4 (exC X1 a1) rr rr 42 (stC (.mk k_every at_ zR zE zE zE [] zR zR [] []) ⟨pA0.a,pA0.b,pA0.c,pA0.r,pA0.y,pA0.z⟩) (by exact HS1.out.e) hdEx (zai X1 a1) (by show 4+5≤26;omega) ?_;intro v2 hb3 ho3;have HS2:Hid (RLn gp gt A n c ts w6 (.mk k_every at_ zR X1 zE zE [] zR zR [] []) ⟨a1,pA0.b,pA0.c,pA0.r,pA0.y,pA0.z⟩ q1 v2):=HS1.out.put ho3 (by exact hb3) ⟨⟨HA1.out,HS1.out.ar.1.2⟩,HS1.out.ar.2⟩;have kk2:v2.cell? ⟨gt,0,none⟩=some (.string k_every):=HS2.out.e.cell 0;clear hb3 ho3)
  | (go_at_call 64;(refine(C1.out _ (by exact HS0.out.st)).mono ?_);rintro e v1 ⟨a1,rfl,ha,h2,hW2⟩;have HA1:=qh (ArgsIn.rup HS0.out ha);have HS1:=qh (HS0.out.call h2 hW2);clear ha h2 hW2))
 obtain⟨e1,e2,e3⟩:=RStE HS8.out HW6.out hgt.out HLO.out ho9;refine bodyPost_ret (res_c rfl _ w.heap.size 42 (stC (.mk k_every at_ zR X1 X3 zE X5 zR zR [] []) ⟨a1,a3,pA0.c,(A5,c5),pA0.y,pA0.z⟩) rfl hb9 _ Tryz.underlying42 rfl hdSt) rfl ⟨⟨a1,a3,pA0.c,(A5,c5),pA0.y,pA0.z⟩,rfl,e1,e2,e3⟩
theorem zhi(cx:RCx gp A n ts)(st:RS→St × RS)(d:Nat)(hbo:RBoK gp A n c ts 91 (rbody ts st) (RQS d))(hg:∀s,RP s (st s).2)(s:RS)(w:World)(h:RSt gp A n c ts s w)(hq:RQS d s)(hs:rbegins ts s=true)(hK:bytesOf (rk ts s).text=k_repeat):RsC gp A n c ts st s w:=by
 unfold RsC
 have HT:Hid (rstmtG ts st s=(.mk k_repeat ((rk ts s).at_:Int) (rname ts (rnx s)).1 (REX ts (rname ts (rnx s)).2).1 zE zE [] zR zR (rbody ts st (REX ts (rname ts (rnx s)).2).2).1 [],(rbody ts st (REX ts (rname ts (rnx s)).2).2).2)):=(by show _=_;unfold rstmtG;dsimp only;rw[hK];rw[if_neg (by decide),if_neg (by decide),if_neg (by decide),if_neg (by decide),if_neg (by decide),if_neg (by decide),if_neg (by decide),if_neg (by decide),if_pos rfl]);rw[HT.out];have HNW:=qh (fun W (h:RSt gp A n c ts s W)=>now_c cx h);obtain⟨HH,HE,HB,HX,hi8⟩:=zbc cx h;have HLO:=qh (h.lo cx);have hltt:=zaz cx.ends hs;have HNX:=qh (fun W (h:RSt gp A n c ts s W)=>RSt.next cx h hltt)
 unfold tokCells at HNW
 have C1:=qh (fun W (h:RSt gp A n c ts (rnx s) W)=>zcy cx h);have C2:=qh (fun W (h:RSt gp A n c ts (rname ts (rnx s)).2 W)=>zau cx 14 (rname ts (rnx s)).2 W h (hq.q.rp ((rnx_p).trans (zbj (rnx s)))));have C3:=qh (fun W (h:RSt gp A n c ts (REX ts (rname ts (rnx s)).2).2 W)=>hbo (REX ts (rname ts (rnx s)).2).2 W h (hq.rp (((rnx_p).trans (zbj (rnx s))).trans (REX_p (rname ts (rnx s)).2))));clear h hq hs hltt HT hbo ;generalize rnx s=q0 at *;generalize (rname ts q0).1=X1 at *;generalize (rname ts q0).2=q1 at *;generalize (REX ts q1).1=X2 at *;generalize (REX ts q1).2=q2 at *;generalize (rbody ts st q2).1=X3 at *;generalize (rbody ts st q2).2=q3 at *;rw[hK]at HNW;generalize ((rk ts s).at_:Int)=at_ at *;generalize ((rk ts s).kind:Int)=tk at *;generalize (rk ts s).num=tn at *;clear hK cx hg;have hf1:=fld1 (.int .i64 tk) (.string k_repeat) (.int .i64 tn) (.int .i64 at_);have hf3:=fld3 (.int .i64 tk) (.string k_repeat) (.int .i64 tn) (.int .i64 at_)
 go_enter Tryz.func68, Tryz.ntmps68
 go_upto_region 2 with (first
  | (go_at_call 27;(refine(HNW.out _ (by exact H2.out)).mono ?_);rintro e w3 ⟨rfl,hB3⟩;have H3:=qh (H2.out.below hB3);have HE3:=qh (HE2.out.trans (Wr.of_below hB3));have HB3:=qbl HB2 hB3;clear hB3)
  | (go_at_call 27;(refine(HNW.out _ (by exact HH.out)).mono ?_);rintro e w2 ⟨rfl,hB2⟩;have H2:=qh (HH.out.below hB2);have HE2:=qh (HE.out.trans (Wr.of_below hB2));have HB2:=qbl HB hB2;clear hB2)
  | refine zad rfl 42 [(0,.tmp 6),(1,.tmp 9)] rfl _ rr _ (zbq _ _ _) ?_
  | (refine zaa rfl 42 (.tmp 3) (.tmp 10) rfl w3.heap.size (stC (kT k_repeat at_) pA0) rr rr 42 (stC zT pA0) (by exact Blk.new' sy rfl) hdSt (zal _ _) rfl ?_;intro w6 hb6 ho6;have hz3:=HB3.out.lt;have hgt:Hid (w.heap.size<w3.heap.size):=(by show _<_;omega);have HS6:Hid (RLn gp w3.heap.size A n c ts w6 (kT k_repeat at_) pA0 s w6):=⟨(H3.out.alloc _).only (HLO.out.mono om) lr ho6,Wr.refl _ _,hb6,StIn.zero _ _ _ _,HLO.out.mono om,hb6.lt⟩;have HW6:Hid (Wr [gp] w w6):=(HE3.out.alloc _).thenb (ho6.below (Below.refl _ _) om (by have:=HE3.out.size;simp;omega));have HB6:Hid (Blk w6 w.heap.size 42 (stC zT pA0)):=ho6.blk (HB3.out.alloc _) om;obtain⟨k1,j1,l1⟩:=HX.out w6 HS6.out.st;clear hb6 ho6 hz3))
 obtain⟨gt,hgx⟩:=ex9 (w3.heap.size);rw[←hgx]at hgt HS6;rw[←hgx];clear hgx H2 HE2 HB2 H3 HE3 HB3 HNW HH HE HB
 go_upto_region 3 with fail
 have HS0:Hid (RLn gp gt A n c ts w6 (kT k_repeat at_) pA0 q0 (w6.setCell ⟨gp,1,none⟩ (.int .i64 ((s.i:Int)+1)))):=HS6.out.call (HNX.out w6 HS6.out.st).1 (HNX.out w6 HS6.out.st).2;generalize w6.setCell ⟨gp,1,none⟩ (.int .i64 ((s.i:Int)+1))=w7 at *;have hc0:w7.cell? ⟨gt,0,none⟩=some (.string k_repeat):=HS0.out.e.cell 0;clear HX HNX k1 j1 l1 HS6
 go_wp2_with (first
  | (refine zaa rfl 42 (.tmp 2) (.tmp 168) rfl w.heap.size (stC (.mk k_repeat at_ X1 X2 zE zE [] zR zR X3 []) ⟨a2,pA0.b,pA0.c,pA0.r,(A3,c3),pA0.z⟩) rr rr 42 (stC zT pA0) (by exact HZ8.out) hdSt (zal _ _) rfl ?_;intro w9_ hb9 ho9)
  | (go_at_call 91;(with_reducible refine(C3.out _ (by exact HS4.out.st)).mono ?_);rintro e v5 ⟨A3,c3,rfl,hr,h2,hW2⟩;have HR:=hr.keep (zar HS4.out.wr.size);have HS5:=qh (HS4.out.call h2 hW2);have c24_:v5.cell? ⟨gt,24,none⟩=some (.slice none 0 0):=HS5.out.e.cell 24;have f24_:=HS5.out.e.frozen 24;have lt24:=HS5.out.e.lt;have HS5_:Hid (RLn gp gt A n c ts w6 (.mk k_repeat at_ X1 X2 zE zE [] zR zR X3 []) ⟨a2,pA0.b,pA0.c,pA0.r,(A3,c3),pA0.z⟩ q3 (v5.setCell ⟨gt,24,none⟩ (.slice A3 X3.length c3))):=HS5.out.one 24 _ rfl ⟨HS5.out.ar.1,HR,HS5.out.ar.2.2⟩;have kk5:v5.cell? ⟨gt,0,none⟩=some (.string k_repeat):=HS5.out.e.cell 0;have hl8:=sd_ld HS5_.out.e;have HZ8:=qh (HS5_.out.res HB6.out hgt.out HLO.out);clear hr h2 hW2 HR)
  | (refine zab rfl 39 (.tmp 114) (.tmp 113) rfl gt 4 (exC X2 a2) rr rr 42 (stC (.mk k_repeat at_ X1 zE zE zE [] zR zR [] []) ⟨pA0.a,pA0.b,pA0.c,pA0.r,pA0.y,pA0.z⟩) (by exact HS3.out.e) hdEx (zai X2 a2) (by show 4+5≤26;omega) ?_;intro v4 hb3 ho3;have HS4:Hid (RLn gp gt A n c ts w6 (.mk k_repeat at_ X1 X2 zE zE [] zR zR [] []) ⟨a2,pA0.b,pA0.c,pA0.r,pA0.y,pA0.z⟩ q2 v4):=HS3.out.put ho3 (by exact hb3) ⟨⟨HA2.out,HS3.out.ar.1.2⟩,HS3.out.ar.2⟩;have kk4:v4.cell? ⟨gt,0,none⟩=some (.string k_repeat):=HS4.out.e.cell 0;clear hb3 ho3)
  | (go_at_call 64;(refine(C2.out _ (by exact HS2.out.st)).mono ?_);rintro e v3 ⟨a2,rfl,ha,h2,hW2⟩;have HA2:=qh (ArgsIn.rup HS2.out ha);have HS3:=qh (HS2.out.call h2 hW2);clear ha h2 hW2)
  | (refine zab rfl 36 (.tmp 111) (.tmp 110) rfl gt 2 (rfC X1) rr rr 42 (stC (.mk k_repeat at_ zR zE zE zE [] zR zR [] []) ⟨pA0.a,pA0.b,pA0.c,pA0.r,pA0.y,pA0.z⟩) (by exact HS1.out.e) hdRf (za4 X1) (by show 2+2≤26;omega) ?_;intro v2 hb3 ho3;have HS2:Hid (RLn gp gt A n c ts w6 (.mk k_repeat at_ X1 zE zE zE [] zR zR [] []) ⟨pA0.a,pA0.b,pA0.c,pA0.r,pA0.y,pA0.z⟩ q1 v2):=HS1.out.put ho3 (by exact hb3) HS1.out.ar;have kk2:v2.cell? ⟨gt,0,none⟩=some (.string k_repeat):=HS2.out.e.cell 0;clear hb3 ho3)
  | (go_at_call 62;(with_reducible refine(C1.out _ (by exact HS0.out.st)).mono ?_);rintro e v1 ⟨rfl,h2,hW2⟩;have HS1:=qh (HS0.out.call h2 hW2);clear h2 hW2))
 obtain⟨e1,e2,e3⟩:=RStE HS5_.out HW6.out hgt.out HLO.out ho9;refine bodyPost_ret (res_c rfl _ w.heap.size 42 (stC (.mk k_repeat at_ X1 X2 zE zE [] zR zR X3 []) ⟨a2,pA0.b,pA0.c,pA0.r,(A3,c3),pA0.z⟩) rfl hb9 _ Tryz.underlying42 rfl hdSt) rfl ⟨⟨a2,pA0.b,pA0.c,pA0.r,(A3,c3),pA0.z⟩,rfl,e1,e2,e3⟩
theorem zmj(cx:RCx gp A n ts)(st:RS→St × RS)(d:Nat)(hbo:RBoK gp A n c ts 91 (rbody ts st) (RQS d))(hg:∀s,RP s (st s).2)(s:RS)(w:World)(h:RSt gp A n c ts s w)(hq:RQS d s)(hs:rbegins ts s=true)(hK:bytesOf (rk ts s).text=k_if)(hw:rIs ts k_else (rbody ts st (rname ts (rneed ts k_acked (rnx s))).2).2=false):RsC gp A n c ts st s w:=by
 unfold RsC
 have HT:Hid (rstmtG ts st s=(.mk k_if ((rk ts s).at_:Int) zR zE zE zE [] zR (rname ts (rneed ts k_acked (rnx s))).1 (rbody ts st (rname ts (rneed ts k_acked (rnx s))).2).1 [],(rbody ts st (rname ts (rneed ts k_acked (rnx s))).2).2)):=(by show _=_;unfold rstmtG;dsimp only;rw[hK];rw[if_neg (c:=k_if=k_send) (by decide),if_neg (c:=k_if=k_split) (by decide),if_neg (c:=k_if=k_retry) (by decide),if_neg (c:=k_if=k_cover) (by decide),if_neg (c:=k_if=k_wait) (by decide),if_neg (c:=k_if=k_block) (by decide),if_neg (c:=k_if=k_every) (by decide),if_neg (c:=k_if=k_after) (by decide),if_neg (c:=k_if=k_repeat) (by decide),if_pos (c:=k_if=k_if) rfl];rw[hw];rfl);rw[HT.out];have HNW:=qh (fun W (h:RSt gp A n c ts s W)=>now_c cx h);obtain⟨HH,HE,HB,HX,hi8⟩:=zbc cx h;have HLO:=qh (h.lo cx);have hltt:=zaz cx.ends hs;have HNX:=qh (fun W (h:RSt gp A n c ts s W)=>RSt.next cx h hltt)
 unfold tokCells at HNW
 have C1:=qh (fun W (h:RSt gp A n c ts (rnx s) W)=>zaw k_acked cx h);have C2:=qh (fun W (h:RSt gp A n c ts (rneed ts k_acked (rnx s)) W)=>zcy cx h);have C3:=qh (fun W (h:RSt gp A n c ts (rname ts (rneed ts k_acked (rnx s))).2 W)=>hbo (rname ts (rneed ts k_acked (rnx s))).2 W h (hq.rp (((rnx_p).trans (za2 k_acked (rnx s))).trans (zbj (rneed ts k_acked (rnx s))))));have C4:=qh (fun W (h:RSt gp A n c ts (rbody ts st (rname ts (rneed ts k_acked (rnx s))).2).2 W)=>zbp k_else cx h);rw[hw,show rover ts k_else (rbody ts st (rname ts (rneed ts k_acked (rnx s))).2).2=(rbody ts st (rname ts (rneed ts k_acked (rnx s))).2).2 by unfold rover;rw[hw];rfl]at C4;clear h hq hs hltt HT hbo hw;generalize rnx s=q0 at *;generalize (rneed ts k_acked q0)=q1 at *;generalize (rname ts q1).1=X2 at *;generalize (rname ts q1).2=q2 at *;generalize (rbody ts st q2).1=X3 at *;generalize (rbody ts st q2).2=q3 at *;rw[hK]at HNW;generalize ((rk ts s).at_:Int)=at_ at *;generalize ((rk ts s).kind:Int)=tk at *;generalize (rk ts s).num=tn at *;clear hK cx hg;have hf1:=fld1 (.int .i64 tk) (.string k_if) (.int .i64 tn) (.int .i64 at_);have hf3:=fld3 (.int .i64 tk) (.string k_if) (.int .i64 tn) (.int .i64 at_)
 go_enter Tryz.func68, Tryz.ntmps68
 go_upto_region 2 with (first
  | (go_at_call 27;(refine(HNW.out _ (by exact H2.out)).mono ?_);rintro e w3 ⟨rfl,hB3⟩;have H3:=qh (H2.out.below hB3);have HE3:=qh (HE2.out.trans (Wr.of_below hB3));have HB3:=qbl HB2 hB3;clear hB3)
  | (go_at_call 27;(refine(HNW.out _ (by exact HH.out)).mono ?_);rintro e w2 ⟨rfl,hB2⟩;have H2:=qh (HH.out.below hB2);have HE2:=qh (HE.out.trans (Wr.of_below hB2));have HB2:=qbl HB hB2;clear hB2)
  | refine zad rfl 42 [(0,.tmp 6),(1,.tmp 9)] rfl _ rr _ (zbq _ _ _) ?_
  | (refine zaa rfl 42 (.tmp 3) (.tmp 10) rfl w3.heap.size (stC (kT k_if at_) pA0) rr rr 42 (stC zT pA0) (by exact Blk.new' sy rfl) hdSt (zal _ _) rfl ?_;intro w6 hb6 ho6;have hz3:=HB3.out.lt;have hgt:Hid (w.heap.size<w3.heap.size):=(by show _<_;omega);have HS6:Hid (RLn gp w3.heap.size A n c ts w6 (kT k_if at_) pA0 s w6):=⟨(H3.out.alloc _).only (HLO.out.mono om) lr ho6,Wr.refl _ _,hb6,StIn.zero _ _ _ _,HLO.out.mono om,hb6.lt⟩;have HW6:Hid (Wr [gp] w w6):=(HE3.out.alloc _).thenb (ho6.below (Below.refl _ _) om (by have:=HE3.out.size;simp;omega));have HB6:Hid (Blk w6 w.heap.size 42 (stC zT pA0)):=ho6.blk (HB3.out.alloc _) om;obtain⟨k1,j1,l1⟩:=HX.out w6 HS6.out.st;clear hb6 ho6 hz3))
 obtain⟨gt,hgx⟩:=ex9 (w3.heap.size);rw[←hgx]at hgt HS6;rw[←hgx];clear hgx H2 HE2 HB2 H3 HE3 HB3 HNW HH HE HB
 go_upto_region 3 with fail
 have HS0:Hid (RLn gp gt A n c ts w6 (kT k_if at_) pA0 q0 (w6.setCell ⟨gp,1,none⟩ (.int .i64 ((s.i:Int)+1)))):=HS6.out.call (HNX.out w6 HS6.out.st).1 (HNX.out w6 HS6.out.st).2;generalize w6.setCell ⟨gp,1,none⟩ (.int .i64 ((s.i:Int)+1))=w7 at *;have hc0:w7.cell? ⟨gt,0,none⟩=some (.string k_if):=HS0.out.e.cell 0;clear HX HNX k1 j1 l1 HS6
 go_wp2_with (first
  | (refine zaa rfl 42 (.tmp 2) (.tmp 168) rfl w.heap.size (stC (.mk k_if at_ zR zE zE zE [] zR X2 X3 []) ⟨pA0.a,pA0.b,pA0.c,pA0.r,(A3,c3),pA0.z⟩) rr rr 42 (stC zT pA0) (by exact HZ8.out) hdSt (zal _ _) rfl ?_;intro w9_ hb9 ho9)
  | (go_at_call 65;(with_reducible refine(C4.out _ (by exact HS4_.out.st)).mono ?_);rintro e v5 ⟨rfl,h2,hW2⟩;have HS5:=qh (HS4_.out.call h2 hW2);have kk5:v5.cell? ⟨gt,0,none⟩=some (.string k_if):=HS5.out.e.cell 0;have hl8:=sd_ld HS5.out.e;have HZ8:=qh (HS5.out.res HB6.out hgt.out HLO.out);clear h2 hW2)
  | (go_at_call 91;(with_reducible refine(C3.out _ (by exact HS3.out.st)).mono ?_);rintro e v4 ⟨A3,c3,rfl,hr,h2,hW2⟩;have HR:=hr.keep (zar HS3.out.wr.size);have HS4:=qh (HS3.out.call h2 hW2);have c24_:v4.cell? ⟨gt,24,none⟩=some (.slice none 0 0):=HS4.out.e.cell 24;have f24_:=HS4.out.e.frozen 24;have lt24:=HS4.out.e.lt;have HS4_:Hid (RLn gp gt A n c ts w6 (.mk k_if at_ zR zE zE zE [] zR X2 X3 []) ⟨pA0.a,pA0.b,pA0.c,pA0.r,(A3,c3),pA0.z⟩ q3 (v4.setCell ⟨gt,24,none⟩ (.slice A3 X3.length c3))):=HS4.out.one 24 _ rfl ⟨HS4.out.ar.1,HR,HS4.out.ar.2.2⟩;have kk4:v4.cell? ⟨gt,0,none⟩=some (.string k_if):=HS4.out.e.cell 0;clear hr h2 hW2 HR)
  | (refine zab rfl 36 (.tmp 124) (.tmp 123) rfl gt 22 (rfC X2) rr rr 42 (stC (.mk k_if at_ zR zE zE zE [] zR zR [] []) ⟨pA0.a,pA0.b,pA0.c,pA0.r,pA0.y,pA0.z⟩) (by exact HS2.out.e) hdRf (za4 X2) (by show 22+2≤26;omega) ?_;intro v3 hb3 ho3;have HS3:Hid (RLn gp gt A n c ts w6 (.mk k_if at_ zR zE zE zE [] zR X2 [] []) ⟨pA0.a,pA0.b,pA0.c,pA0.r,pA0.y,pA0.z⟩ q2 v3):=HS2.out.put ho3 (by exact hb3) HS2.out.ar;have kk3:v3.cell? ⟨gt,0,none⟩=some (.string k_if):=HS3.out.e.cell 0;clear hb3 ho3)
  | (go_at_call 62;(with_reducible refine(C2.out _ (by exact HS1.out.st)).mono ?_);rintro e v2 ⟨rfl,h2,hW2⟩;have HS2:=qh (HS1.out.call h2 hW2);clear h2 hW2)
  | (go_at_call 63;(with_reducible refine(C1.out _ (by exact HS0.out.st)).mono ?_);rintro e v1 ⟨rfl,h2,hW2⟩;have HS1:=qh (HS0.out.call h2 hW2);have kk1:v1.cell? ⟨gt,0,none⟩=some (.string k_if):=HS1.out.e.cell 0;clear h2 hW2))
 obtain⟨e1,e2,e3⟩:=RStE HS5.out HW6.out hgt.out HLO.out ho9;refine bodyPost_ret (res_c rfl _ w.heap.size 42 (stC (.mk k_if at_ zR zE zE zE [] zR X2 X3 []) ⟨pA0.a,pA0.b,pA0.c,pA0.r,(A3,c3),pA0.z⟩) rfl hb9 _ Tryz.underlying42 rfl hdSt) rfl ⟨⟨pA0.a,pA0.b,pA0.c,pA0.r,(A3,c3),pA0.z⟩,rfl,e1,e2,e3⟩
theorem zmi(cx:RCx gp A n ts)(st:RS→St × RS)(d:Nat)(hbo:RBoK gp A n c ts 91 (rbody ts st) (RQS d))(hg:∀s,RP s (st s).2)(s:RS)(w:World)(h:RSt gp A n c ts s w)(hq:RQS d s)(hs:rbegins ts s=true)(hK:bytesOf (rk ts s).text=k_if)(hw:rIs ts k_else (rbody ts st (rname ts (rneed ts k_acked (rnx s))).2).2=true):RsC gp A n c ts st s w:=by
 unfold RsC
 have HT:Hid (rstmtG ts st s=(.mk k_if ((rk ts s).at_:Int) zR zE zE zE [] zR (rname ts (rneed ts k_acked (rnx s))).1 (rbody ts st (rname ts (rneed ts k_acked (rnx s))).2).1 (rbody ts st (rnx (rbody ts st (rname ts (rneed ts k_acked (rnx s))).2).2)).1,(rbody ts st (rnx (rbody ts st (rname ts (rneed ts k_acked (rnx s))).2).2)).2)):=(by show _=_;unfold rstmtG;dsimp only;rw[hK];rw[if_neg (c:=k_if=k_send) (by decide),if_neg (c:=k_if=k_split) (by decide),if_neg (c:=k_if=k_retry) (by decide),if_neg (c:=k_if=k_cover) (by decide),if_neg (c:=k_if=k_wait) (by decide),if_neg (c:=k_if=k_block) (by decide),if_neg (c:=k_if=k_every) (by decide),if_neg (c:=k_if=k_after) (by decide),if_neg (c:=k_if=k_repeat) (by decide),if_pos (c:=k_if=k_if) rfl];rw[hw];rfl);rw[HT.out];have HNW:=qh (fun W (h:RSt gp A n c ts s W)=>now_c cx h);obtain⟨HH,HE,HB,HX,hi8⟩:=zbc cx h;have HLO:=qh (h.lo cx);have hltt:=zaz cx.ends hs;have HNX:=qh (fun W (h:RSt gp A n c ts s W)=>RSt.next cx h hltt)
 unfold tokCells at HNW
 have C1:=qh (fun W (h:RSt gp A n c ts (rnx s) W)=>zaw k_acked cx h);have C2:=qh (fun W (h:RSt gp A n c ts (rneed ts k_acked (rnx s)) W)=>zcy cx h);have C3:=qh (fun W (h:RSt gp A n c ts (rname ts (rneed ts k_acked (rnx s))).2 W)=>hbo (rname ts (rneed ts k_acked (rnx s))).2 W h (hq.rp (((rnx_p).trans (za2 k_acked (rnx s))).trans (zbj (rneed ts k_acked (rnx s))))));have C4:=qh (fun W (h:RSt gp A n c ts (rbody ts st (rname ts (rneed ts k_acked (rnx s))).2).2 W)=>zbp k_else cx h);rw[hw,show rover ts k_else (rbody ts st (rname ts (rneed ts k_acked (rnx s))).2).2=(rnx (rbody ts st (rname ts (rneed ts k_acked (rnx s))).2).2) by unfold rover;rw[hw];rfl]at C4;have C5:=qh (fun W (h:RSt gp A n c ts (rnx (rbody ts st (rname ts (rneed ts k_acked (rnx s))).2).2) W)=>hbo (rnx (rbody ts st (rname ts (rneed ts k_acked (rnx s))).2).2) W h (hq.rp (((((rnx_p).trans (za2 k_acked (rnx s))).trans (zbj (rneed ts k_acked (rnx s)))).trans (zix hg (rname ts (rneed ts k_acked (rnx s))).2)).trans rnx_p)));clear h hq hs hltt HT hbo hw;generalize rnx s=q0 at *;generalize (rneed ts k_acked q0)=q1 at *;generalize (rname ts q1).1=X2 at *;generalize (rname ts q1).2=q2 at *;generalize (rbody ts st q2).1=X3 at *;generalize (rbody ts st q2).2=q3 at *;generalize (rnx q3)=q4 at *;generalize (rbody ts st q4).1=X5 at *;generalize (rbody ts st q4).2=q5 at *;rw[hK]at HNW;generalize ((rk ts s).at_:Int)=at_ at *;generalize ((rk ts s).kind:Int)=tk at *;generalize (rk ts s).num=tn at *;clear hK cx hg;have hf1:=fld1 (.int .i64 tk) (.string k_if) (.int .i64 tn) (.int .i64 at_);have hf3:=fld3 (.int .i64 tk) (.string k_if) (.int .i64 tn) (.int .i64 at_)
 go_enter Tryz.func68, Tryz.ntmps68
 go_upto_region 2 with (first
  | (go_at_call 27;(refine(HNW.out _ (by exact H2.out)).mono ?_);rintro e w3 ⟨rfl,hB3⟩;have H3:=qh (H2.out.below hB3);have HE3:=qh (HE2.out.trans (Wr.of_below hB3));have HB3:=qbl HB2 hB3;clear hB3)
  | (go_at_call 27;(refine(HNW.out _ (by exact HH.out)).mono ?_);rintro e w2 ⟨rfl,hB2⟩;have H2:=qh (HH.out.below hB2);have HE2:=qh (HE.out.trans (Wr.of_below hB2));have HB2:=qbl HB hB2;clear hB2)
  | refine zad rfl 42 [(0,.tmp 6),(1,.tmp 9)] rfl _ rr _ (zbq _ _ _) ?_
  | (refine zaa rfl 42 (.tmp 3) (.tmp 10) rfl w3.heap.size (stC (kT k_if at_) pA0) rr rr 42 (stC zT pA0) (by exact Blk.new' sy rfl) hdSt (zal _ _) rfl ?_;intro w6 hb6 ho6;have hz3:=HB3.out.lt;have hgt:Hid (w.heap.size<w3.heap.size):=(by show _<_;omega);have HS6:Hid (RLn gp w3.heap.size A n c ts w6 (kT k_if at_) pA0 s w6):=⟨(H3.out.alloc _).only (HLO.out.mono om) lr ho6,Wr.refl _ _,hb6,StIn.zero _ _ _ _,HLO.out.mono om,hb6.lt⟩;have HW6:Hid (Wr [gp] w w6):=(HE3.out.alloc _).thenb (ho6.below (Below.refl _ _) om (by have:=HE3.out.size;simp;omega));have HB6:Hid (Blk w6 w.heap.size 42 (stC zT pA0)):=ho6.blk (HB3.out.alloc _) om;obtain⟨k1,j1,l1⟩:=HX.out w6 HS6.out.st;clear hb6 ho6 hz3))
 obtain⟨gt,hgx⟩:=ex9 (w3.heap.size);rw[←hgx]at hgt HS6;rw[←hgx];clear hgx H2 HE2 HB2 H3 HE3 HB3 HNW HH HE HB
 go_upto_region 3 with fail
 have HS0:Hid (RLn gp gt A n c ts w6 (kT k_if at_) pA0 q0 (w6.setCell ⟨gp,1,none⟩ (.int .i64 ((s.i:Int)+1)))):=HS6.out.call (HNX.out w6 HS6.out.st).1 (HNX.out w6 HS6.out.st).2;generalize w6.setCell ⟨gp,1,none⟩ (.int .i64 ((s.i:Int)+1))=w7 at *;have hc0:w7.cell? ⟨gt,0,none⟩=some (.string k_if):=HS0.out.e.cell 0;clear HX HNX k1 j1 l1 HS6
 go_wp2_with (first
  | (refine zaa rfl 42 (.tmp 2) (.tmp 168) rfl w.heap.size (stC (.mk k_if at_ zR zE zE zE [] zR X2 X3 X5) ⟨pA0.a,pA0.b,pA0.c,pA0.r,(A3,c3),(A5,c5)⟩) rr rr 42 (stC zT pA0) (by exact HZ8.out) hdSt (zal _ _) rfl ?_;intro w9_ hb9 ho9)
  | (go_at_call 91;(with_reducible refine(C5.out _ (by exact HS5.out.st)).mono ?_);rintro e v6 ⟨A5,c5,rfl,hr,h2,hW2⟩;have HR:=hr.keep (zar HS5.out.wr.size);have HS6:=qh (HS5.out.call h2 hW2);have c24_:v6.cell? ⟨gt,25,none⟩=some (.slice none 0 0):=HS6.out.e.cell 25;have f24_:=HS6.out.e.frozen 25;have lt24:=HS6.out.e.lt;have HS6_:Hid (RLn gp gt A n c ts w6 (.mk k_if at_ zR zE zE zE [] zR X2 X3 X5) ⟨pA0.a,pA0.b,pA0.c,pA0.r,(A3,c3),(A5,c5)⟩ q5 (v6.setCell ⟨gt,25,none⟩ (.slice A5 X5.length c5))):=HS6.out.one 25 _ rfl ⟨HS6.out.ar.1,HS6.out.ar.2.1,HR⟩;have kk6:v6.cell? ⟨gt,0,none⟩=some (.string k_if):=HS6.out.e.cell 0;have hl8:=sd_ld HS6_.out.e;have HZ8:=qh (HS6_.out.res HB6.out hgt.out HLO.out);clear hr h2 hW2 HR)
  | (go_at_call 65;(with_reducible refine(C4.out _ (by exact HS4_.out.st)).mono ?_);rintro e v5 ⟨rfl,h2,hW2⟩;have HS5:=qh (HS4_.out.call h2 hW2);have kk5:v5.cell? ⟨gt,0,none⟩=some (.string k_if):=HS5.out.e.cell 0;clear h2 hW2)
  | (go_at_call 91;(with_reducible refine(C3.out _ (by exact HS3.out.st)).mono ?_);rintro e v4 ⟨A3,c3,rfl,hr,h2,hW2⟩;have HR:=hr.keep (zar HS3.out.wr.size);have HS4:=qh (HS3.out.call h2 hW2);have c24_:v4.cell? ⟨gt,24,none⟩=some (.slice none 0 0):=HS4.out.e.cell 24;have f24_:=HS4.out.e.frozen 24;have lt24:=HS4.out.e.lt;have HS4_:Hid (RLn gp gt A n c ts w6 (.mk k_if at_ zR zE zE zE [] zR X2 X3 []) ⟨pA0.a,pA0.b,pA0.c,pA0.r,(A3,c3),pA0.z⟩ q3 (v4.setCell ⟨gt,24,none⟩ (.slice A3 X3.length c3))):=HS4.out.one 24 _ rfl ⟨HS4.out.ar.1,HR,HS4.out.ar.2.2⟩;have kk4:v4.cell? ⟨gt,0,none⟩=some (.string k_if):=HS4.out.e.cell 0;clear hr h2 hW2 HR)
  | (refine zab rfl 36 (.tmp 124) (.tmp 123) rfl gt 22 (rfC X2) rr rr 42 (stC (.mk k_if at_ zR zE zE zE [] zR zR [] []) ⟨pA0.a,pA0.b,pA0.c,pA0.r,pA0.y,pA0.z⟩) (by exact HS2.out.e) hdRf (za4 X2) (by show 22+2≤26;omega) ?_;intro v3 hb3 ho3;have HS3:Hid (RLn gp gt A n c ts w6 (.mk k_if at_ zR zE zE zE [] zR X2 [] []) ⟨pA0.a,pA0.b,pA0.c,pA0.r,pA0.y,pA0.z⟩ q2 v3):=HS2.out.put ho3 (by exact hb3) HS2.out.ar;have kk3:v3.cell? ⟨gt,0,none⟩=some (.string k_if):=HS3.out.e.cell 0;clear hb3 ho3)
  | (go_at_call 62;(with_reducible refine(C2.out _ (by exact HS1.out.st)).mono ?_);rintro e v2 ⟨rfl,h2,hW2⟩;have HS2:=qh (HS1.out.call h2 hW2);clear h2 hW2)
  | (go_at_call 63;(with_reducible refine(C1.out _ (by exact HS0.out.st)).mono ?_);rintro e v1 ⟨rfl,h2,hW2⟩;have HS1:=qh (HS0.out.call h2 hW2);have kk1:v1.cell? ⟨gt,0,none⟩=some (.string k_if):=HS1.out.e.cell 0;clear h2 hW2))
 obtain⟨e1,e2,e3⟩:=RStE HS6_.out HW6.out hgt.out HLO.out ho9;refine bodyPost_ret (res_c rfl _ w.heap.size 42 (stC (.mk k_if at_ zR zE zE zE [] zR X2 X3 X5) ⟨pA0.a,pA0.b,pA0.c,pA0.r,(A3,c3),(A5,c5)⟩) rfl hb9 _ Tryz.underlying42 rfl hdSt) rfl ⟨⟨pA0.a,pA0.b,pA0.c,pA0.r,(A3,c3),(A5,c5)⟩,rfl,e1,e2,e3⟩
end
end
section
section
variable{gp:Nat}{A:Option Addr}{n c:Nat}{ts:List Lx.Tok}{s:RS}{w w':World}
theorem zsw(cx:RCx gp A n ts)(st:RS→St × RS)(d:Nat)(hst:RStK gp A n c ts st (RQS d))(hg:∀s,RP s (st s).2)(hcs:∀s,RQS d s→rbegins ts s=true→s.i+1≤(st s).2.i):RBoK gp A n c ts 91 (rbody ts st) (RQS (d+1)):=by
 intro s w h hq;have HEQ:Hid (rbody ts st s=((rstmts ts st (rbo ts s)).1,{ rneed ts m_rbr (rstmts ts st (rbo ts s)).2 with bo:=s.bo })):=zj9 hg s;rw[HEQ.out];have HI:=qh (is_c m_lbr cx h);have H0:=qh h;have hb0:=hq.b0;have hb1:=hq.b1
 have HX:Hid (∀W,Below w.heap.size w W→W.cell? ⟨gp,2,none⟩=some (.int .i64 s.bo)∧gp<W.heap.size):=fun W hW=>by
  have:=(H0.out.b.below hW H0.out.b.lt);exact⟨this.cell 2,this.lt⟩
 have HQ:Hid (∀q:RS,∀x:Int,q.i<ts.length→∀W,RSt gp A n c ts q W→RSt gp A n c ts { q with bo:=x } (W.setCell ⟨gp,2,none⟩ (.int .i64 x))∧Wr [gp] W (W.setCell ⟨gp,2,none⟩ (.int .i64 x))):=fun q x hl W hW =>
  RSt.upd cx hW ((Only.refl W gp).setCell 2 _) (hW.b.set_ 2 (.int .i64 x)) hl
 have HST:=qh (fun W (h:RSt gp A n c ts (rbo ts s) W)=>zl9 cx st d hst hg hcs (rbo ts s) W h (fun hb=>hq.down hb));have HRS:=(zgj (ts:=ts) hg (rbo ts s)).bo;have HN2:=qh (fun W (h:RSt gp A n c ts (rstmts ts st (rbo ts s)).2 W)=>zaw m_rbr cx h);have HP4:Hid ((rneed ts m_rbr (rstmts ts st (rbo ts s)).2).bo=s.bo+1):=(zb2 (ts:=ts) m_rbr (rstmts ts st (rbo ts s)).2).2.trans HRS;have HS:=qh (fun W (h:RSt gp A n c ts s W)=>zg4 11 cx h);have hstop:∀e:Int,(rstop ts e s).bo=s.bo:=fun e=>(zd1 e s).2
 have hneed:∀q:RS,(rneed ts m_lbr q).bo=q.bo:=fun q=>(zb2 m_lbr q).2
 cases hb:(rIs ts m_lbr s && s.bo == 12)
 · have HB3:Hid (rbo ts s = { rneed ts m_lbr s with bo:=s.bo+1 }):=(by show _=_;unfold rbo;rw[hb];rfl)
   have HN:=qh (fun W (h:RSt gp A n c ts s W)=>zaw m_lbr cx h);have hP:=hneed s;rw[HB3.out]at HST HN2 HP4 ⊢;generalize rneed ts m_lbr s=q at *;have HP:=qh hP;generalize rstmts ts st { q with bo:=s.bo+1 } = R at *;generalize rneed ts m_rbr R.2=q4 at *
   have hor:rIs ts m_lbr s=false∨(rIs ts m_lbr s=true∧s.bo≠12):=by
    cases h1:rIs ts m_lbr s
    · exact .inl rfl
    · right;rw[h1]at hb;simp at hb;exact⟨rfl,hb⟩
   generalize rIs ts m_lbr s=z at *;clear h cx hb hstop hneed hP hst hg hcs hq HEQ HB3 HRS
   rcases hor with rfl|⟨rfl,h12⟩
   all_goals
    go_enter Tryz.func91, Tryz.ntmps91
    go_upto_region 5 with (first
     | (go_at_call 63;(refine(HN.out _ H1.out.1).mono ?_);rintro e1 w3 ⟨rfl,h3,hW3⟩;have H3:Hid (RSt gp A n c ts q w3∧Wr [gp] w w3):=⟨h3,H1.out.2.trans hW3⟩;have z3:w3.cell? ⟨gp,2,none⟩=some (.int .i64 s.bo):=HP.out ▸ h3.b.cell 2;have y3:=h3.b.frozen 2;have l3:=h3.b.lt;clear h3 hW3)
     | (go_at_call 26;(refine HI.out.mono ?_);rintro e1 w2 ⟨rfl,hB2⟩;have H1:Hid (RSt gp A n c ts s w2∧Wr [gp] w w2):=⟨H0.out.below hB2,Wr.of_below hB2⟩;obtain⟨k3,l2⟩:=HX.out w2 hB2;clear hB2))
    have h5:=HQ.out q (s.bo+1) H3.out.1.lt _ H3.out.1;have H5:=qh (And.intro h5.1 (H3.out.2.trans h5.2));clear h5;generalize w3.setCell ⟨gp,2,none⟩ (.int .i64 (s.bo+1))=w5 at *;clear z3 y3 l3 H3
    go_wp2_with (first
     | (go_at_call 63;(refine(HN2.out _ H6.out.1).mono ?_);rintro e1 w7 ⟨rfl,h7,hW7⟩;have H7:Hid (RSt gp A n c ts q4 w7∧Wr [gp] w5 w7∧Wr [gp] w6 w7):=⟨h7,H6.out.2.1.trans hW7,hW7⟩;have z7:w7.cell? ⟨gp,2,none⟩=some (.int .i64 (s.bo+1)):=HP4.out ▸ h7.b.cell 2;have y7:=h7.b.frozen 2;have l7:=h7.b.lt;clear h7 hW7)
     | (go_at_call 29;(refine(HST.out _ (by exact H5.out.1)).mono ?_);rintro e1 w6 ⟨A6,c6,rfl,hr6,h6,hW6⟩;have H6:=qh (And.intro h6 (And.intro hW6 hr6));clear h6 hW6 hr6))
    go_ret;have h8:=HQ.out q4 s.bo H7.out.1.lt _ H7.out.1;have e8:s.bo+1-1=s.bo:=om
    first|rw[e8] | skip
    refine⟨A6,c6,rfl,?_,h8.1,(H5.out.2.trans H7.out.2.1).trans h8.2⟩;have hgw:gp<w.heap.size:=H0.out.b.lt;exact(H6.out.2.2.keep (zei (H7.out.2.2.trans h8.2) (fun g hg=>by simp at hg;have:=H5.out.2.size;omega) lr)).keep (zar H5.out.2.size)
 · have HB3:Hid (rbo ts s = { rneed ts m_lbr (rstop ts 11 s)with bo:=s.bo+1 }):=(by show _=_;unfold rbo;rw[hb];rfl)
   have HN:=qh (fun W (h:RSt gp A n c ts (rstop ts 11 s) W)=>zaw m_lbr cx h);have hP:(rneed ts m_lbr (rstop ts 11 s)).bo=s.bo:=(hneed _).trans (hstop 11);rw[HB3.out]at HST HN2 HP4 ⊢;generalize rneed ts m_lbr (rstop ts 11 s)=q at *;have HP:=qh hP;generalize rstmts ts st { q with bo:=s.bo+1 } = R at *;generalize rneed ts m_rbr R.2=q4 at *;obtain⟨hz,h12⟩:rIs ts m_lbr s=true∧s.bo=12:=by simpa using hb
   rw[hz]at HI;clear h cx hb hstop hneed hP hz hst hg hcs hq HEQ HB3 HRS
   go_enter Tryz.func91, Tryz.ntmps91
   go_upto_region 5 with (first
    | (go_at_call 63;(refine(HN.out _ H2.out.1).mono ?_);rintro e1 w3 ⟨rfl,h3,hW3⟩;have H3:Hid (RSt gp A n c ts q w3∧Wr [gp] w w3):=⟨h3,H2.out.2.trans hW3⟩;have z3:w3.cell? ⟨gp,2,none⟩=some (.int .i64 s.bo):=HP.out ▸ h3.b.cell 2;have y3:=h3.b.frozen 2;have l3:=h3.b.lt;clear h3 hW3)
    | (go_at_call 30;(refine(HS.out _ H1.out.1).mono ?_);rintro e1 w4 ⟨rfl,h4,hW4⟩;have H2:Hid (RSt gp A n c ts (rstop ts 11 s) w4∧Wr [gp] w w4):=⟨h4,H1.out.2.trans hW4⟩;clear h4 hW4)
    | (go_at_call 26;(refine HI.out.mono ?_);rintro e1 w2 ⟨rfl,hB2⟩;have H1:Hid (RSt gp A n c ts s w2∧Wr [gp] w w2):=⟨H0.out.below hB2,Wr.of_below hB2⟩;obtain⟨k3,l2⟩:=HX.out w2 hB2;clear hB2))
   have e13:s.bo+1=13:=om;have h5:=HQ.out q (s.bo+1) H3.out.1.lt _ H3.out.1;have H5:=qh (And.intro h5.1 (H3.out.2.trans h5.2));clear h5;rw[e13]at H5 HST HP4;clear e13;generalize w3.setCell ⟨gp,2,none⟩ (.int .i64 13)=w5 at *;clear z3 y3 l3 H3
   go_wp2_with (first
    | (go_at_call 63;(refine(HN2.out _ H6.out.1).mono ?_);rintro e1 w7 ⟨rfl,h7,hW7⟩;have H7:Hid (RSt gp A n c ts q4 w7∧Wr [gp] w5 w7∧Wr [gp] w6 w7):=⟨h7,H6.out.2.1.trans hW7,hW7⟩;have z7:w7.cell? ⟨gp,2,none⟩=some (.int .i64 13):=HP4.out ▸ h7.b.cell 2;have y7:=h7.b.frozen 2;have l7:=h7.b.lt;clear h7 hW7)
    | (go_at_call 29;(refine(HST.out _ (by exact H5.out.1)).mono ?_);rintro e1 w6 ⟨A6,c6,rfl,hr6,h6,hW6⟩;have H6:=qh (And.intro h6 (And.intro hW6 hr6));clear h6 hW6 hr6))
   go_ret;rw[h12];have h8:=HQ.out q4 12 H7.out.1.lt _ H7.out.1;refine⟨A6,c6,rfl,?_,h8.1,(H5.out.2.trans H7.out.2.1).trans h8.2⟩;have hgw:gp<w.heap.size:=H0.out.b.lt;exact(H6.out.2.2.keep (zei (H7.out.2.2.trans h8.2) (fun g hg=>by simp at hg;have:=H5.out.2.size;omega) lr)).keep (zar H5.out.2.size)
end
end
end Go.Proofs.YtafjkbbiaopemaaGreatDoor.Tr
