/- Part of the proof. -/
import Derived.Deep.DeepCutAuto
import Derived.Test.YtafjkbbiaopemaaGreatDoorBax19
set_option linter.all false
set_option maxRecDepth 100000
set_option maxHeartbeats 0
namespace Go.Proofs.YtafjkbbiaopemaaGreatDoor.Tr
open Go.RowKit
section
theorem oneSt(X:St)(y:StA):(Tryz.prog.info? 42).map (fun i=>((i.zero.map (fun z=>z.cells.size)),i.size))=some (some (stC X y).length,(stC X y).length):=by rw[zba];kernel_rfl
section
variable{P:Program}{w:World}{ops:Array Oper}{rest:List Oper}{o:Oper}{a:Act}{Q:Exit→Act→World→Prop}
theorem zdb(hgd:o.guard=none)(t e:TypeId)(x:Operand)(ho:o.op=.buildSlice t 1 #[(0,x)])(cs:List Value)(hx:a.eval x=.agg cs.toArray)(hu:P.underlying t=some (.slice e))(hi:(P.info? e).map (fun i=>((i.zero.map (fun z=>z.cells.size)),i.size))=some (some cs.length,cs.length))(hpos:0<cs.length)(hsm:cs.length≤1000000)
 (h:wpList P ops Q rest (a.put o.dst (.slice (some ⟨w.heap.size,0,none⟩) 1 1)) (w.alloc (.cells cs.toArray e))):wpList P ops Q (o :: rest) a w :=
 zcj hgd fun _ hK=>zbz (zb5 t e x ho cs hx hu hi hpos hsm) (hK _ _ h)
end
structure QS(d:Nat)(s:PS):Prop where
 q:Q 14 s
 b0:0≤s.bo
 b1:s.bo≤13
 d1:1≤d
 ok:s.ok=true→s.bo≤12∧14≤(d:Int)+s.bo
theorem QS.pg{d:Nat}{ts:List Lx.Tok}{s q:PS}(h:QS d s)(k:Pg ts s q):QS d q:=⟨h.q.pg k,by rw[k.bo];exact h.b0,by rw[k.bo];exact h.b1,h.d1,fun hq=>by rw[k.bo];exact h.ok (k.okof hq)⟩
def StK(gp gs:Nat)(A:Option Addr)(n c:Nat)(ts:List Lx.Tok)(P:PS→St × PS)(R:PS→Prop):Prop :=
 ∀(s:PS) (w:World),PSt gp gs A n c ts s w→R s→Calls Tryz.prog 24 #[.pointer (some ⟨gp,0,none⟩)] w fun e w'=>∃p:StA,e=.returned (.agg (stC (P s).1 p).toArray)∧StIn (Fr w.heap.size) w' (P s).1 p∧PSt gp gs A n c ts (P s).2 w'∧Wr [gp,gs] w w'
def BoK(gp gs:Nat)(A:Option Addr)(n c:Nat)(ts:List Lx.Tok)(P:PS→List St × PS)(R:PS→Prop):Prop :=
 ∀(s:PS) (w:World),PSt gp gs A n c ts s w→R s→Calls Tryz.prog 55 #[.pointer (some ⟨gp,0,none⟩)] w fun e w'=>∃A' c',e=.returned (.slice A' (P s).1.length c')∧BodyIn (Fr w.heap.size) w' A' (P s).1∧PSt gp gs A n c ts (P s).2 w'∧Wr [gp,gs] w w'
section
variable{gp gs:Nat}{A:Option Addr}{n c:Nat}{ts:List Lx.Tok}
theorem body_c(cx:Cx gp gs A n ts)(st:PS→St × PS)(d:Nat)(hst:StK gp gs A n c ts st (QS d))(hg:∀s,Pg ts s (st s).2)(hcs:∀s,(st s).2.ok=true→s.i+1≤(st s).2.i):BoK gp gs A n c ts (bodyP ts st) (QS (d+1)):=by
 intro s w h hq;have HSL:=qh (fun W A1 (h:PSt gp gs A n c ts s W) (hl:Rd W A1 1 (strs [m_lbr]))=>zb1 cx h [m_lbr] A1 1 1 hl om);have HF:=qh (fun W (h:PSt gp gs A n c ts s W)=>zgt cx h 11 (by decide));have HT1:=qh (fun W s' (h:PSt gp gs A n c ts s' W)=>zbk cx h m_lbr);have HT2:=qh (fun W s' (h:PSt gp gs A n c ts s' W)=>zbk cx h m_rbr);have HSR:=qh (fun q W A1 (h:PSt gp gs A n c ts q W) (hl:Rd W A1 1 (strs [m_rbr]))=>zb1 cx h [m_rbr] A1 1 1 hl om);have HOK:=qh (fun q W (h:PSt gp gs A n c ts q W)=>ok_c h.par);have HH:=qh h;have HLO:=qh (h.lo cx);have HCX:=qh cx;have HBD:Hid (bndP ts m_lbr s.bo s=if sees ts [m_lbr] s && s.bo == 12 then failP ts 11 s else s):=rfl;have hb1:Pg ts s (bndP ts m_lbr s.bo s):=by unfold bndP;split;exact zd3 s (.inr rfl);exact Pg.refl _
 have hb2:Pg ts s (takeP ts m_lbr (bndP ts m_lbr s.bo s)):=hb1.trans (zar cx.ends m_lbr _);have HP2:=qh hb2
 have HOP:Hid ((takeP ts m_lbr (bndP ts m_lbr s.bo s)).ok=true→s.bo≠12):=by
  intro ho h3;have hbo:=(zar cx.ends m_lbr (bndP ts m_lbr s.bo s)).okof ho
  unfold bndP at hbo
  cases hs:sees ts [m_lbr] s
  · unfold takeP at ho
    have hb5:bndP ts m_lbr s.bo s=s:=by unfold bndP;rw[hs];rfl
    rw[hb5]at ho
    split at ho
    · split at ho
      · rename_i h1 h2
        unfold sees at hs
        rw[h1]at hs;simp only[Bool.true_and]at hs;rw[hs]at h2
        cases h2
      · cases ho
    · rename_i h1
      exact h1 ho
  · have hx:(s.bo == 12)=true:=by simp[h3]
    rw[hs,hx]at hbo;simp only[Bool.and_self,if_true]at hbo
    unfold failP at hbo
    rw[zag hs]at hbo
    cases hbo
 have HR:Hid (bodyP ts st s=((bodyLoop ts st (ts.length+2) [] { takeP ts m_lbr (bndP ts m_lbr s.bo s)with bo:=(takeP ts m_lbr (bndP ts m_lbr s.bo s)).bo+1 }).1,{ takeP ts m_rbr (bodyLoop ts st (ts.length+2) [] { takeP ts m_lbr (bndP ts m_lbr s.bo s)with bo:=(takeP ts m_lbr (bndP ts m_lbr s.bo s)).bo+1 }).2 with bo:=(takeP ts m_rbr (bodyLoop ts st (ts.length+2) [] { takeP ts m_lbr (bndP ts m_lbr s.bo s)with bo:=(takeP ts m_lbr (bndP ts m_lbr s.bo s)).bo+1 }).2).bo-1 })):=rfl;rw[HR.out];have HQ:=qh hq;have HQ0:=hq.b0;have HQ1:=hq.b1;clear h hq hb1 hb2 HR;generalize hs2:takeP ts m_lbr (bndP ts m_lbr s.bo s)=s2 at *;generalize hs3:({ s2 with bo:=s2.bo+1 } : PS)=s3 at *;generalize hR:bodyLoop ts st (ts.length+2) [] s3=R at *;have HR:=qh hR;have HS2E:=qh hs2;have HS3E:=qh hs3;clear hR hs2 hs3
 go_enter Tryz.func55, Tryz.ntmps55
 go_upto_region 1 with fail
 go_cut [13] (fun v wx=>v=.bool (sees ts [m_lbr] s && s.bo == 12)∧Hid (PSt gp gs A n c ts s wx)∧Hid (Wr [gp,gs] w wx))
 case first =>
  cases hs:sees ts [m_lbr] s
  · rw[hs]at HSL
    go_wp2_with (go_at_call 20;(refine(HSL.out _ _ (by exact HH.out.alloc _) (by exact Rd.new1' rfl)).mono ?_);rintro e w2 ⟨rfl,hB2⟩;have H2:=qh ((HH.out.alloc _).below hB2);have HE2:=qh (((Wr.refl [gp,gs] w).alloc _).trans (Wr.of_below hB2));clear hB2)
    go_meet
    exact⟨by rw[hs];rfl,H2,HE2⟩
  · rw[hs]at HSL
    go_wp2_with (go_at_call 20;(refine(HSL.out _ _ (by exact HH.out.alloc _) (by exact Rd.new1' rfl)).mono ?_);rintro e w2 ⟨rfl,hB2⟩;have H2:=qh ((HH.out.alloc _).below hB2);have HE2:=qh (((Wr.refl [gp,gs] w).alloc _).trans (Wr.of_below hB2));have d3:w2.cell? ⟨gp,3,none⟩=some (.int .i64 s.bo):=H2.out.par.cell 3;clear hB2)
    go_meet
    exact⟨by rw[hs];rfl,H2,HE2⟩
 case rest =>
  obtain⟨rfl,H2,HE2⟩:=hcut;clear HSL
  go_step
  go_cut [] (fun wx=>Hid (PSt gp gs A n c ts (bndP ts m_lbr s.bo s) wx)∧Hid (Wr [gp,gs] w wx))
  case first =>
   cases hx:(sees ts [m_lbr] s && s.bo == 12)
   · have HB2:bndP ts m_lbr s.bo s=s:=by rw[HBD.out,hx];rfl
     go_wp2
     go_meet
     exact⟨by rw[HB2];exact H2,HE2⟩
   · have HB2:bndP ts m_lbr s.bo s=failP ts 11 s:=by rw[HBD.out,hx];rfl
     go_wp2_with (go_at_call 54;(refine(HF.out _ (by exact H2.out)).mono ?_);rintro e w3 ⟨rfl,h3,hW3⟩;have H3:=qh h3;have HE3:=qh (HE2.out.trans (hW3.mono sy));clear h3 hW3)
     go_meet
     exact⟨by rw[HB2];exact H3,HE3⟩
  case rest =>
   obtain⟨H4,HE4⟩:=hcut;clear HF HBD H2 HE2;have HT1:=HT1.out _ _ H4.out;rw[HS2E.out]at HT1;have HT1:=qh HT1;have HBO:Hid (s2.bo=s.bo):=HP2.out.bo
   go_upto_region 5 with (go_at_call 49;(refine(HT1.out).mono ?_);rintro e w5 ⟨rfl,h5,hW5⟩;have H5:=qh h5;have HE5:=qh (HE4.out.trans hW5);have c3:w5.cell? ⟨gp,3,none⟩=some (.int .i64 s.bo):=HBO.out ▸ h5.par.cell 3;have f3:=h5.par.frozen 3;clear h5 hW5)
   have HS3:Hid (PSt gp gs A n c ts s3 (w5.setCell ⟨gp,3,none⟩ (.int .i64 (s.bo+1)))):=HS3E.out ▸ ⟨by rw[HBO.out];exact H5.out.par.set_ 3 _,Stm.far H5.out.stm HCX.out.ne.symm (fun ad e=>(HCX.out.tk ad e).1) _,H5.out.z,H5.out.lt⟩;have HE6:Hid (Wr [gp,gs] w (w5.setCell ⟨gp,3,none⟩ (.int .i64 (s.bo+1)))):=HE5.out.setCell sy _
   have HPG:Hid (∀q,Pg ts s3 q→q.bo=s.bo+1∧(q.ok=true→QS d q)):=fun q hq=>by
    rw[←HS3E.out]at hq;have e1:q.bo=s.bo+1:=by rw[hq.bo,←HBO.out]
    refine⟨e1,fun ho=>?_⟩;have h2:s2.ok=true:=hq.okof ho;have h3:=HOP.out h2;have h4:=HP2.out.okof h2;have h5:=HQ.out.ok h4;have h0:=HQ.out.q.pg HP2.out;have e2:q.pa=s2.pa:=hq.pa;have hqq:Q 14 q:=⟨by rw[e2];exact h0.p0,by rw[e2];exact h0.p1,h0.d1,fun ho=>by rw[e2];exact h0.ok (hq.okof ho)⟩;exact⟨hqq,by omega,by omega,by omega,fun _=>⟨by omega,by omega⟩⟩
   clear HT1 H4 HE4 H5 HE5 HP2 HOP HQ HBO c3 f3;have HBL:=qh (fun(kk:Nat) (l:List St) (q:PS)=>(⟨fun h=>(by rw[bodyLoop,if_neg (by rw[h];simp)]),fun h=>(by rw[bodyLoop,if_pos h])⟩:((q.ok && !sees ts [m_rbr] q)=false→bodyLoop ts st (kk+1) l q=(l,q))∧((q.ok && !sees ts [m_rbr] q)=true→bodyLoop ts st (kk+1) l q=bodyLoop ts st kk (l++[(st q).1]) (st q).2)));have HBS:Hid (BdS gp gs A n c ts w [] [] (.slice none 0 0) s3 (w5.setCell ⟨gp,3,none⟩ (.int .i64 (s.bo+1)))):=⟨HS3.out,HE6.out,World.ownsRow_nil _ _ _ _,rfl,fun i s p h=>by simp at h,HLO.out⟩;have HLT:Hid (s3.i<ts.length):=HS3.out.lt;clear HS3 HE6;go_wp2
   go_loopg [3] (ts.length+1) (fun kk v wr=>∃(l:List St) (sl:List StA) (q:PS),BdS gp gs A n c ts w l sl v q wr∧(q.ok=true→ts.length≤kk+q.i)∧bodyLoop ts st (kk+1) l q=R∧l.length≤q.i+1∧(q.ok=true→l.length≤q.i)∧Pg ts s3 q)
   case atStart=>exact⟨[],[],s3,HBS.out,fun _=>by omega,HR.out,by simp,fun _=>by simp,Pg.refl _⟩
   case round =>
    clear HBS HR;obtain⟨l,sl,q,hB,hk,hT,hl,hlo,hpg⟩:=hrel;obtain⟨hqb,hqs⟩:=HPG.out q hpg;have HB:=qh hB;have HL:=qh (And.intro hk (And.intro hT (And.intro hl (And.intro hlo hpg))));have HQB:=qh hqb;have HQS:=qh hqs;clear hB hk hT hl hlo hpg hqb hqs
    go_upto_region 6 with fail
    go_cut [32] (fun v wx=>v=.bool (q.ok && !sees ts [m_rbr] q)∧Hid (Wr [gp,gs] wr wx)∧Hid (PSt gp gs A n c ts q wx))
    case first =>
     have HO:=qh (HOK.out q _ HB.out.st)
     cases ho:q.ok
     · rw[ho]at HO
       go_wp2_with (go_at_call 22;(refine(HO.out).mono ?_);rintro e w6 ⟨rfl,rfl⟩)
       go_meet
       exact⟨by rw[ho];rfl,Wr.refl _ _,HB.out.st⟩
     · rw[ho]at HO
       have HSR1:=qh (HSR.out q)
       go_wp2_with (first
        | (go_at_call 22;(refine(HO.out).mono ?_);rintro e w6 ⟨rfl,rfl⟩)
        | (go_at_call 20;(refine(HSR1.out _ _ (by exact HB.out.st.alloc _) (by exact Rd.new1' rfl)).mono ?_);rintro e w7 ⟨rfl,hB7⟩;have H7:=qh ((HB.out.st.alloc _).below hB7);have HE7:=qh (((Wr.refl [gp,gs] _).alloc _).trans (Wr.of_below hB7));clear hB7))
       go_meet
       exact⟨by rw[ho];rfl,HE7,H7⟩
    case rest =>
     obtain⟨rfl,HW,HS⟩:=hcut;have HB2:=qh (HB.out.call HS.out HW.out);obtain⟨A9,c9,rfl,_⟩:=HB2.out.fin
     cases hc:(q.ok && !sees ts [m_rbr] q)
     · have HRR:Hid (R=(l,q)):=HL.out.2.1.symm.trans ((HBL.out gk l q).1 hc)
       have HT2:=qh (HT2.out _ q HS.out);have HBO:Hid ((takeP ts m_rbr q).bo=s.bo+1):=(zar HCX.out.ends m_rbr q).bo.trans HQB.out;clear hc HL HPG HBL HW HS HB
       go_wp2_with (go_at_call 49;(refine(HT2.out).mono ?_);rintro e w8 ⟨rfl,h8,hW8⟩;have H8:=qh h8;have HB8:=qh (HB2.out.call h8 hW8);have c3:w8.cell? ⟨gp,3,none⟩=some (.int .i64 (s.bo+1)):=HBO.out ▸ h8.par.cell 3;have f3:=h8.par.frozen 3;clear h8 hW8)
       go_ret;rw[HRR.out];obtain⟨A8,c8,e8,hr8⟩:=HB8.out.fin
       injection e8 with e8 _ e9
       subst e8 e9;refine⟨A9,c9,rfl,hr8.keep (zak (by exact HLO.out.1) _),⟨?_,Stm.far H8.out.stm HCX.out.ne.symm (fun ad e=>(HCX.out.tk ad e).1) _,H8.out.z,H8.out.lt⟩,HB8.out.wr.setCell sy _⟩;rw[HBO.out,show s.bo+1-1=s.bo by omega];exact H8.out.par.set_ 3 _
     · have hok:q.ok=true:=by simp only[Bool.and_eq_true]at hc;exact hc.1
       have HST:=qh (hst q _ HS.out (HQS.out hok));have HT3:=qh (((HBL.out gk l q).2 hc).symm.trans HL.out.2.1);have HI3:Hid (q.i≤(st q).2.i∧((st q).2.ok=true→q.i+1≤(st q).2.i)):=⟨(hg q).le,hcs q⟩;have HP3:=qh (HL.out.2.2.2.2.trans (hg q));have HK3:=qh (And.intro (HL.out.1 hok) (HL.out.2.2.2.1 hok));have hlt:q.i<ts.length:=HS.out.lt;have hl8:l.length≤100000:=by have:=HK3.out.2;have:=HCX.out.hn;have:=HCX.out.hn8;omega
       generalize (st q).1=X at *;generalize (st q).2=q3 at *;clear hc HL HPG HBL HW HS HB HQS hok
       go_wp2_with (first
        | (go_at_call 24;(refine(HST.out).mono ?_);rintro e w8 ⟨y,rfl,hy,h8,hW8⟩;have HY8:=qh (HB2.out.fr lr hy);have HB8:=qh (HB2.out.call h8 hW8);clear hy h8 hW8)
        | (refine zdb rfl 24 42 (.tmp 35) rfl (stC X y) rr Tryz.underlying24 (by exact oneSt X y) (by rw[zba];omega) (by rw[zba];omega) ?_)
        | (at_builtin;refine zas rfl (.tmp 33) (.tmp 36) 24 rfl w.heap.size 42 26 384 Tryz.underlying24 eSt (.slice A9 l.length c9) l.length (zipC stC l sl) rr (by exact HB8.out.own.alloc _) (some ⟨w8.heap.size,0,none⟩) 1 1 (stC X y) rr (by exact RdS.new w8 _ (stC X y) 26 rfl) (zax X y) om om (by have:=HB8.out.wr.size;simp;omega) ?_;intro A5 c5 w9 hown5 hc5 hg5 hat5;have HB9:=qh (HB8.out.push HY8.out hg5 hown5 hat5);clear hown5 hc5 hg5 hat5))
       have hk5:=HK3.out;have hi5:=HI3.out;have e5:(l++[X]).length=l.length+1:=by simp
       go_roundg (gk-1)
       case measure=>omega
       case rel=>exact⟨l++[X],sl++[y],q3,HB9.out,fun ho=>by have:=hi5.2 ho;omega,by rw[show gk-1+1=gk by omega];exact HT3.out,by omega,fun ho=>by have:=hi5.2 ho;omega,HP3.out⟩
end
end
section
theorem zco{w:World}{t:TypeId}{L:List ByteArray}{n g:Nat}(hg:g=w.heap.size)(hn:(strs L).length=n):Rd (w.alloc (.cells (strs L).toArray t)) (some ⟨g,0,none⟩) n (strs L):=by
 subst hg;have hb:Blk (w.alloc (.cells (strs L).toArray t)) w.heap.size t (strs L):=Blk.new w t _;exact⟨by simpa using hn,fun _=>⟨w.heap.size,0,rfl,hb.lt,fun j u hu=>by rw[Nat.zero_add,hb.cell];exact hu⟩⟩
theorem zky(v:Value):Instr.loadAt 42 v=ldAt 42 v:=rfl
def pA0:StA:=⟨(none,0),(none,0),(none,0),(none,0),(none,0),(none,0)⟩
def kT(k:ByteArray)(a:Int):St:=.mk k a zR zE zE zE [] zR zR [] []
theorem zgy(k:ByteArray)(a:Int)(w:World):(Instr.build 42 #[(0,.string k),(1,.int .i64 a)]).run Tryz.prog w=.ok (.agg (stC (kT k a) pA0).toArray) w:=by kernel_rfl
theorem zp0(w:World):(Instr.build 42 #[]).run Tryz.prog w=.ok (.agg (stC zT pA0).toArray) w:=by kernel_rfl
theorem sd_ld{w:World}{g:Nat}{t:TypeId}{T:St}{p:StA}(hb:Blk w g t (stC T p)):(ldAt 42 (.pointer (some ⟨g,0,none⟩))).run Tryz.prog w=.ok (.agg (stC T p).toArray) w:=zbg hb 42 0 (stC T p) rfl _ Tryz.underlying42 rfl hdSt
theorem StIn.zero(F:Nat→Prop)(w:World)(k:ByteArray)(a:Int):StIn F w (kT k a) pA0:=⟨⟨ArgsIn.nil _ _ _,ArgsIn.nil _ _ _,ArgsIn.nil _ _ _,RdF.nil _ _ _ _⟩,BodyIn.nil _ _ _,BodyIn.nil _ _ _⟩
section
variable{gp gs gt:Nat}{A:Option Addr}{n c:Nat}{ts:List Lx.Tok}{s q q':PS}{w w' w'' w6:World}{T T':St}{p p':StA}
theorem zne(cx:Cx gp gs A n ts)(K:ByteArray)(hK:K=k_send∨K=k_split∨K=k_cover∨K=k_wait∨K=k_block∨K=k_retry∨K=k_every)(at_:Int)(p0:StA)(hS:LnS gp gs gt A n c ts w (kT K at_) p0 s w)(hq:Q 14 s):
 Calls Tryz.prog 56 #[.pointer (some ⟨gp,0,none⟩),.pointer (some ⟨gt,0,none⟩)] w fun e w'=>e=.returned (.tuple #[])∧∃p',LnS gp gs gt A n c ts w (lineP ts K at_ s).1 p' (lineP ts K at_ s).2 w':=by
 rcases hK with rfl|rfl|rfl|rfl|rfl|rfl|rfl
 · cases hw:sees ts [k_with] (viaP ts false (EX ts s).2).2
   · exact zi5 cx at_ p0 hS hq hw
   · exact zi4 cx at_ p0 hS hq hw
 · exact zi3 cx at_ p0 hS hq
 · exact zi8 cx at_ p0 hS hq
 · exact zkw cx k_wait rfl at_ p0 hS hq
 · exact zi9 cx at_ p0 hS hq
 · exact zi6 cx at_ p0 hS hq
 · exact zi7 cx at_ p0 hS hq
theorem Wr.newg(h1:Wr [gp,gs] w w6)(h2:Wr [gp,gs,gt] w6 w')(hg:w.heap.size≤gt):Wr [gp,gs] w w' :=
 ⟨h2.os.trans h1.os,h2.tape.trans h1.tape,h2.output.trans h1.output,Nat.le_trans h1.size h2.size,fun k hk hne =>
  (h2.block k (Nat.lt_of_lt_of_le hk h1.size) (fun hm=>by simp only[List.mem_cons,List.not_mem_nil,or_false]at hm hne;omega)).trans (h1.block k hk hne)⟩
theorem StE(hL:LnS gp gs gt A n c ts w6 T p q w')(h6:Wr [gp,gs] w w6)(hgt:w.heap.size<gt)(hlo:PLo gp gs A w.heap.size)(ho:Only w' w'' w.heap.size):
 StIn (Fr w.heap.size) w'' T p∧PSt gp gs A n c ts q w''∧Wr [gp,gs] w w'' :=
 ⟨(hL.ar.keep (zhe (Wr.onlyg (L:=[w.heap.size]) ho sy) (fun g hg=>by simp only[List.mem_cons,List.not_mem_nil,or_false]at hg;have:=hL.lt;omega) lr)).keep (za0 h6.size),
   hL.st.only hlo lr ho,⟨ho.grown.os.trans (Wr.newg h6 hL.wr (Nat.le_of_lt hgt)).os,ho.grown.tape.trans (Wr.newg h6 hL.wr (Nat.le_of_lt hgt)).tape,ho.grown.output.trans (Wr.newg h6 hL.wr (Nat.le_of_lt hgt)).output,Nat.le_trans (Wr.newg h6 hL.wr (Nat.le_of_lt hgt)).size ho.grown.size,fun k hk hne =>
    (ho.grown.block k (Nat.lt_of_lt_of_le hk (Wr.newg h6 hL.wr (Nat.le_of_lt hgt)).size) (fun e=>by injection e with e;omega)).trans ((Wr.newg h6 hL.wr (Nat.le_of_lt hgt)).block k hk hne)⟩⟩
theorem LnS.res(hL:LnS gp gs gt A n c ts w6 T p q w'){t:TypeId}{cs:List Value}(hb:Blk w6 w.heap.size t cs)(hgt:w.heap.size<gt)(hlo:PLo gp gs A w.heap.size):Blk w' w.heap.size t cs :=
 (hL.wr.block _ hb.lt (fun hm=>by have h1:=hlo.1;have h2:=hlo.2.1;simp only[List.mem_cons,List.not_mem_nil,or_false]at hm;omega)).trans hb
theorem ten_in{t:Lx.Tok}(h:isOf t ten=true):bytesOf t.text∈ten:=by
 unfold isOf at h
 simp only[Bool.and_eq_true]at h;exact zcf.1 h.2
end
end
end Go.Proofs.YtafjkbbiaopemaaGreatDoor.Tr
