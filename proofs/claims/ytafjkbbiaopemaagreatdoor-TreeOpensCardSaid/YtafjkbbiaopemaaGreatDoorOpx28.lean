/- Part of the proof. -/
import Derived.Test.YtafjkbbiaopemaaGreatDoorOpx07
import Derived.Test.YtafjkbbiaopemaaGreatDoorOpx26
set_option linter.all false
set_option maxRecDepth 100000
set_option maxHeartbeats 0
namespace Go.Proofs.YtafjkbbiaopemaaGreatDoor.Tr
open Go.RowKit
section
theorem RQ.up{d:Nat}{s:RS}(h:RQ d s):RQ (d+1) s:=⟨h.p0,h.p1,by omega,fun hq=>⟨(h.ok hq).1,by have:=(h.ok hq).2;omega⟩⟩
def Fz(B g k:Nat):Prop:=B≤k∧k≠g
structure RPq(gp gt:Nat)(A:Option Addr)(n c:Nat)(ts:List Lx.Tok)(w0:World)(T:Pl)(p:plA)(q:RS)(w:World):Prop where
 st:RSt gp A n c ts q w
 wr:Wr [gp] w0 w
 e:Blk w gt 80 (plC T p)
 ar:PlIn (Fz w0.heap.size gt) w T p
 lo:RLo gp A w0.heap.size
 gl:w0.heap.size≤gt
section
variable{gp gt:Nat}{A:Option Addr}{n c:Nat}{ts:List Lx.Tok}{s q q':RS}{w w' w0:World}{T T':Pl}{p p':plA}
theorem RPq.call(h:RPq gp gt A n c ts w0 T p q w)(hs:RSt gp A n c ts q' w')(hW:Wr [gp] w w'):RPq gp gt A n c ts w0 T p q' w' :=
 ⟨hs,h.wr.trans hW,Blk.wrR h.e hW h.lo h.gl,h.ar.keep (hW.keep _ _ (fun k hk _ hm=>by have h5:=h.lo.nin k hm;have h6:=hk.1;omega) (fun _ h _=>h)),h.lo,h.gl⟩
theorem RPq.put(h:RPq gp gt A n c ts w0 T p q w)(ho:Only w w' gt)(hb:Blk w' gt 80 (plC T' p'))(ha:PlIn (Fz w0.heap.size gt) w T' p'):RPq gp gt A n c ts w0 T' p' q w' :=
 ⟨h.st.only (h.lo.mono h.gl) lr ho,Wr.newL h.wr (Wr.onlyg (L:=[gt]) ho sy) (fun g hg=>.inr (by simp at hg;have:=h.gl;omega)),hb,
   ha.keep ((Wr.onlyg (L:=[gt]) ho sy).keep _ _ (fun k hk _ hm=>hk.2 (by simpa using hm)) (fun _ h _=>h)),h.lo,h.gl⟩
theorem RPq.fr(h:RPq gp gt A n c ts w0 T p q w){W:World}{B:Option Addr}{es:List Ex}(ha:ArgsIn (Fr w.heap.size) W B es):ArgsIn (Fz w0.heap.size gt) W B es :=
 ha.keep ⟨lr,fun _ _ _=>rfl,fun k hk _=>⟨by have:=h.e.lt;have:=h.gl;unfold Fr at hk;omega,by have:=h.e.lt;unfold Fr at hk;omega⟩⟩
theorem RPq.all(h:RPq gp gt A n c ts w0 T p q w):PlIn (Fr w0.heap.size) w T p:=h.ar.keep ⟨lr,fun _ _ _=>rfl,fun _ hk _=>hk.1⟩
end
section
variable{gp:Nat}{A:Option Addr}{n c:Nat}{ts:List Lx.Tok}{s q q':RS}{w w' w0:World}
attribute [local go_sem ↓] zh4 zny
theorem zfp(K:ByteArray)(N:Rf)(A:Option Addr){m d:Nat}: ∀v∈dlC K N (.slice A m d),v.oneCell'=true:=by
 intro v hv;simp only[dlC,List.mem_cons,List.not_mem_nil,or_false]at hv
 rcases hv with rfl|rfl|rfl|rfl|rfl|rfl|rfl|rfl|rfl <;> rfl
def RDeK(gp:Nat)(A:Option Addr)(n c:Nat)(ts:List Lx.Tok)(K:ByteArray)(s:RS)(w:World):Prop :=
 Calls Tryz.prog 28 #[.pointer (some ⟨gp,0,none⟩),.string K] w fun e w'=>∃p:plA,e=.returned (.agg (dcC (rdecl ts K s).1 p).toArray)∧DcIn (Fr w.heap.size) w' (rdecl ts K s).1 p∧RSt gp A n c ts (rdecl ts K s).2 w'∧Wr [gp] w w'
theorem zm8(cx:RCx gp A n ts)(h:RSt gp A n c ts s w)(hq:RQ 14 s)(K:ByteArray)(hK:K=k_let):RDeK gp A n c ts K s w:=by
 unfold RDeK
 have HNM0:=qh (fun q W (h:RSt gp A n c ts q W)=>zcy cx h);have HNM:=qh (fun W (h:RSt gp A n c ts s W)=>HNM0.out s W h);have HE1:=qh (fun W (h:RSt gp A n c ts (rname ts s).2 W)=>zaw m_eq cx h);have g3:RP s (rneed ts m_eq (rname ts s).2):=(zbj s).trans (za2 _ _);have HLO:=qh (h.lo cx);have HH:=qh (h.alloc (.cells (dcC zDc pl0).toArray 45));have hgl:=h.b.lt;have HGP:Hid (gp<w.heap.size):=hgl;have HEX:=qh (fun W (h:RSt gp A n c ts (rneed ts m_eq (rname ts s).2) W)=>zau cx 14 _ W h (hq.rp g3));have HT2:=qh (fun W (h:RSt gp A n c ts (rexpr ts 14 (rneed ts m_eq (rname ts s).2)).2 W)=>zaw m_semi cx h);have HT:Hid (rdecl ts K s=(⟨K,(rname ts s).1,(rexpr ts 14 (rneed ts m_eq (rname ts s).2)).1,[]⟩,rneed ts m_semi (rexpr ts 14 (rneed ts m_eq (rname ts s).2)).2)):=by show _=_;unfold rdecl;dsimp only;rw[if_pos hK]
 rw[HT.out];clear h hq g3 HT HNM0 cx;generalize (rexpr ts 14 (rneed ts m_eq (rname ts s).2)).1=E at *;generalize (rexpr ts 14 (rneed ts m_eq (rname ts s).2)).2=q4 at *;generalize rneed ts m_eq (rname ts s).2=q3 at *;generalize (rname ts s).1=X at *;generalize (rname ts s).2=q2 at *;subst hK
 go_enter Tryz.func28, Tryz.ntmps28
 go_wp2_with (first
  | (go_at_call 64;(refine(HEX.out _ (by exact HP6.out.st)).mono ?_);rintro e w7 ⟨a7,rfl,ha7,h7,hW7⟩;have HE7:=qh (RDe.fr HP6.out ha7);have HP7:=qh (HP6.out.call h7 hW7);clear ha7 h7 hW7)
  | (refine zab rfl 39 (.tmp 18) (.tmp 17) rfl (w.heap.size+1) 3 (exC E a7) rr rr 45 (dcC ⟨k_let,X,zE,[]⟩ pl0) (by exact HP7.out.e) hdEx (zai E a7) (by show 3+5≤9;omega) ?_;intro w8 hb8 ho8;have HP8:Hid (RDe gp (w.heap.size+1) A n c ts w ⟨k_let,X,E,[]⟩ (a7,pl0.2) q4 w8):=HP7.out.put ho8 (by exact hb8) ⟨HE7.out,HP7.out.ar.2⟩;clear hb8 ho8)
  | (go_at_call 63;(with_reducible refine(HT2.out _ (by exact HP8.out.st)).mono ?_);rintro e w9 ⟨rfl,h9,hW9⟩;have HP9:=qh (HP8.out.call h9 hW9);have hl9:=zao HP9.out.e 45 0 (dcC ⟨k_let,X,E,[]⟩ (a7,pl0.2)) rfl _ Tryz.underlying45 rfl hdDc;clear h9 hW9)
  | (refine zaa rfl 45 (.tmp 4) (.tmp 21) rfl w.heap.size (dcC ⟨k_let,X,E,[]⟩ (a7,pl0.2)) rr rr 45 (dcC zDc pl0) (by exact HP9.out.z) hdDc (zby _ _) rfl ?_;intro w10 hb10 ho10)
  | (go_at_call 63;(with_reducible refine(HE1.out _ (by exact HP5.out.st)).mono ?_);rintro e w6 ⟨rfl,h6,hW6⟩;have HP6:=qh (HP5.out.call h6 hW6);clear h6 hW6)
  | (go_at_call 62;(with_reducible refine(HNM.out _ (by exact HP3.out.st)).mono ?_);rintro e w4 ⟨rfl,h4,hW4⟩;have HP4:=qh (HP3.out.call h4 hW4);clear h4 hW4)
  | (refine zab rfl 36 (.tmp 11) (.tmp 10) rfl (w.heap.size+1) 1 (rfC X) rr rr 45 (dcC ⟨k_let,zR,zE,[]⟩ pl0) (by exact HP4.out.e) hdRf (za4 X) (by show 1+2≤9;omega) ?_;intro w5 hb5 ho5;have HP5:Hid (RDe gp (w.heap.size+1) A n c ts w ⟨k_let,X,zE,[]⟩ pl0 q2 w5):=HP4.out.put ho5 (by exact hb5) HP4.out.ar;clear hb5 ho5)
  | refine zad rfl 45 [(0,.tmp 7)] rfl _ rr _ (zkw _ _) ?_
  | (refine zaa rfl 45 (.tmp 5) (.tmp 8) rfl (w.heap.size+1) (dcC ⟨k_let,zR,zE,[]⟩ pl0) rr rr 45 (dcC zDc pl0) (by exact Blk.new' sy rfl) hdDc (zby _ _) rfl ?_;intro w3 hb3 ho3;have HP3:Hid (RDe gp (w.heap.size+1) A n c ts w ⟨k_let,zR,zE,[]⟩ pl0 s w3):=⟨(HH.out.alloc _).only HLO.out (Nat.le_succ _) ho3,Wr.newL (((Wr.refl [gp] w).alloc _).alloc _) (Wr.onlyg (L:=[w.heap.size+1]) ho3 sy) (fun g hg=>.inr (by simp at hg;omega)),ho3.blk ((Blk.new w _ _).alloc _) om,hb3,DcIn.zero _ _ _ _,HLO.out,Nat.lt_succ_self _⟩;clear hb3 ho3))
 obtain⟨e1,e2,e3⟩:=HP9.out.fin ho10;exact bodyPost_ret (res_c rfl _ w.heap.size 45 (dcC ⟨k_let,X,E,[]⟩ (a7,pl0.2)) rfl hb10 _ Tryz.underlying45 rfl hdDc) rfl ⟨(a7,pl0.2),rfl,e1,e2,e3⟩
theorem ziw(cx:RCx gp A n ts)(h:RSt gp A n c ts s w)(hq:RQ 14 s)(K:ByteArray)(hK:K=k_route):RDeK gp A n c ts K s w:=by
 unfold RDeK
 have HNM0:=qh (fun q W (h:RSt gp A n c ts q W)=>zcy cx h);have HNM:=qh (fun W (h:RSt gp A n c ts s W)=>HNM0.out s W h);have HE1:=qh (fun W (h:RSt gp A n c ts (rname ts s).2 W)=>zaw m_eq cx h);have g3:RP s (rneed ts m_eq (rname ts s).2):=(zbj s).trans (za2 _ _);have HLO:=qh (h.lo cx);have HH:=qh (h.alloc (.cells (dcC zDc pl0).toArray 45));have hgl:=h.b.lt;have HGP:Hid (gp<w.heap.size):=hgl;have HAT:=qh (fun q W (h:RSt gp A n c ts q W) (hq:RQ 14 q)=>znd cx 14 q W h hq.up);have HOV:=qh (fun T q W (h:RSt gp A n c ts q W)=>zbp T cx h);have HT2:=qh (fun q W (h:RSt gp A n c ts q W)=>zaw m_semi cx h);have HT:Hid (rdecl ts K s=(⟨K,(rname ts s).1,zE,(rplaceLoop ts (ts.length+2) [] (rneed ts m_eq (rname ts s).2)).1⟩,rneed ts m_semi (rplaceLoop ts (ts.length+2) [] (rneed ts m_eq (rname ts s).2)).2)):=by show _=_;unfold rdecl;dsimp only;rw[if_neg (by rw[hK];decide)]
 rw[HT.out];have HQ8:=qh (hq.rp g3);have HCX:=qh cx;have HRV:Hid (∀T q,rover ts T q=if rIs ts T q then rnx q else q):=fun T q=>rfl
 clear h hq g3 HT cx;generalize rneed ts m_eq (rname ts s).2=q3 at *;generalize (rname ts s).1=X at *;generalize (rname ts s).2=q2 at *;generalize hRR:rplaceLoop ts (ts.length+2) [] q3=R at *;have HRR:=qh hRR;clear hRR;subst hK;have HTL:=qh (fun(kk:Nat) (l:List Pl) (q:RS)=>(⟨fun h=>(by rw[rplaceLoop,if_pos h]),fun h h2=>(by rw[rplaceLoop,if_neg (by rw[h];simp),if_neg (by rw[h2];simp)]),fun h h2=>(by rw[rplaceLoop,if_neg (by rw[h];simp),if_pos h2])⟩:(q.bad=true→rplaceLoop ts (kk+1) l q=(l,q))∧(q.bad=false→rIs ts m_gt (rplace ts q).2=false→rplaceLoop ts (kk+1) l q=(l++[(rplace ts q).1],(rplace ts q).2))∧(q.bad=false→rIs ts m_gt (rplace ts q).2=true→rplaceLoop ts (kk+1) l q=rplaceLoop ts kk (l++[(rplace ts q).1]) (rnx (rplace ts q).2))))
 go_enter Tryz.func28, Tryz.ntmps28
 go_upto_region 8 with (first
  | (go_at_call 63;(with_reducible refine(HE1.out _ (by exact HP5.out.st)).mono ?_);rintro e w6 ⟨rfl,h6,hW6⟩;have HP6:=qh (HP5.out.call h6 hW6);clear h6 hW6)
  | (go_at_call 62;(with_reducible refine(HNM.out _ (by exact HP3.out.st)).mono ?_);rintro e w4 ⟨rfl,h4,hW4⟩;have HP4:=qh (HP3.out.call h4 hW4);clear h4 hW4)
  | (refine zab rfl 36 (.tmp 11) (.tmp 10) rfl (w.heap.size+1) 1 (rfC X) rr rr 45 (dcC ⟨k_route,zR,zE,[]⟩ pl0) (by exact HP4.out.e) hdRf (za4 X) (by show 1+2≤9;omega) ?_;intro w5 hb5 ho5;have HP5:Hid (RDe gp (w.heap.size+1) A n c ts w ⟨k_route,X,zE,[]⟩ pl0 q2 w5):=HP4.out.put ho5 (by exact hb5) HP4.out.ar;clear hb5 ho5)
  | refine zad rfl 45 [(0,.tmp 7)] rfl _ rr _ (zkw _ _) ?_
  | (refine zaa rfl 45 (.tmp 5) (.tmp 8) rfl (w.heap.size+1) (dcC ⟨k_route,zR,zE,[]⟩ pl0) rr rr 45 (dcC zDc pl0) (by exact Blk.new' sy rfl) hdDc (zby _ _) rfl ?_;intro w3 hb3 ho3;have HP3:Hid (RDe gp (w.heap.size+1) A n c ts w ⟨k_route,zR,zE,[]⟩ pl0 s w3):=⟨(HH.out.alloc _).only HLO.out (Nat.le_succ _) ho3,Wr.newL (((Wr.refl [gp] w).alloc _).alloc _) (Wr.onlyg (L:=[w.heap.size+1]) ho3 sy) (fun g hg=>.inr (by simp at hg;omega)),ho3.blk ((Blk.new w _ _).alloc _) om,hb3,DcIn.zero _ _ _ _,HLO.out,Nat.lt_succ_self _⟩;clear hb3 ho3))
 obtain⟨G,hG⟩:=ex9 (w.heap.size+1);rw[←hG]at HP6;rw[←hG];have J5:Hid (RDl gp A n c ts w G k_route X [] [] (.slice none 0 0) q3 w6):=⟨HP6.out.st,HP6.out.wr,HP6.out.z,HP6.out.e,World.ownsRow_nil _ _ _ _,rfl,fun k hk=>(by cases hk),fun i e a h1 _=>(by simp at h1),HP6.out.gl,HP6.out.lo⟩;clear HP3 HP4 HP5 HP6 HNM HE1 HH hG
 go_loopg [6] (ts.length+1) (fun kk v6 wr=>∃(l:List Pl) (sl:List plA) (A1:Option Addr) (c1:Nat) (q:RS),RDl gp A n c ts w G k_route X l sl (.slice A1 l.length c1) q wr∧ts.length≤kk+q.i∧l.length≤q.i∧rplaceLoop ts (kk+1) l q=R∧RQ 14 q)
 case atStart=>exact⟨[],[],none,0,q3,J5.out,by omega,by simp,HRR.out,HQ8.out⟩
 case round =>
  clear J5 HRR HQ8;obtain⟨l,sl,A1,c1,q,hS,hk,hll,hT,hQ⟩:=hrel;have g4:wr.cell? ⟨gp,4,none⟩=some (.bool q.bad):=hS.st.b.cell 4;have gl4:=hS.st.b.lt;have hgG:gp≠G:=by have:=hS.lt;have:=HGP.out;omega
  cases hs:q.bad
  · have HS:=qh hS
    rw[hs]at g4;have hlt:=hS.st.lt;have hl9:l.length≤100000:=by have h1:=HCX.out.hn;have h2:=HCX.out.hn8;omega
    have HQ3:=qh (hQ.rp (zeo (ts:=ts) q));have HI3:Hid (q.i≤(rplace ts q).2.i):=(zeo (ts:=ts) q).le;have HT1:=qh (fun h2=>((HTL.out gk l q).2.1 hs h2).symm.trans hT);have HT3:=qh (fun h2=>((HTL.out gk l q).2.2 hs h2).symm.trans hT);have HKL:=qh (And.intro hk (And.intro hlt hll));have HOC2:=qh (fun W (h:RSt gp A n c ts (rplace ts q).2 W)=>HOV.out m_gt (rplace ts q).2 W h);have HTT:=qh (fun W (h:RSt gp A n c ts (rplace ts q).2 W)=>HT2.out (rplace ts q).2 W h);have HPL:Hid (rplace ts q=(⟨(rname ts q).1,(if rIs ts m_at (rname ts q).2 then ratom ts (rexpr ts 14) (rnx (rname ts q).2) else (zE,(rname ts q).2)).1,(if rIs ts m_ex (if rIs ts m_at (rname ts q).2 then ratom ts (rexpr ts 14) (rnx (rname ts q).2) else (zE,(rname ts q).2)).2 then ratom ts (rexpr ts 14) (rnx (if rIs ts m_at (rname ts q).2 then ratom ts (rexpr ts 14) (rnx (rname ts q).2) else (zE,(rname ts q).2)).2) else (zE,(if rIs ts m_at (rname ts q).2 then ratom ts (rexpr ts 14) (rnx (rname ts q).2) else (zE,(rname ts q).2)).2)).1⟩,(if rIs ts m_ex (if rIs ts m_at (rname ts q).2 then ratom ts (rexpr ts 14) (rnx (rname ts q).2) else (zE,(rname ts q).2)).2 then ratom ts (rexpr ts 14) (rnx (if rIs ts m_at (rname ts q).2 then ratom ts (rexpr ts 14) (rnx (rname ts q).2) else (zE,(rname ts q).2)).2) else (zE,(if rIs ts m_at (rname ts q).2 then ratom ts (rexpr ts 14) (rnx (rname ts q).2) else (zE,(rname ts q).2)).2)).2)):=rfl;have HNQ:=qh (fun W (h:RSt gp A n c ts q W)=>HNM0.out q W h);have HQ1:=qh (hQ.rp (zbj (ts:=ts) q));rw[HPL.out]at HQ3 HI3 HT1 HT3 HOC2 HTT;clear hS hk hll hT hQ hs HTL hlt HPL HNM0 HT2;generalize (rname ts q).1=N1 at *;generalize (rname ts q).2=q1 at *
    cases h1:rIs ts m_at q1
    · have xA:=fun W h=>HOV.out m_at q1 W h
      rw[HRV.out,h1]at xA;simp only[h1,Bool.false_eq_true,if_false]at xA HQ3 HI3 HT1 HT3 HOC2 HTT;have HQB:=qh HQ1.out;have HA1:=qh xA;clear xA
      cases h2:rIs ts m_ex q1
      · have xB:=fun W h=>HOV.out m_ex q1 W h
        rw[HRV.out,h2]at xB;simp only[h2,Bool.false_eq_true,if_false]at xB HQ3 HI3 HT1 HT3 HOC2 HTT;have HA2:=qh xB;clear xB
        cases h3:rIs ts m_gt q1
        · have xG:=fun W h=>HOC2.out W h
          rw[HRV.out,h3]at xG;simp only[Bool.false_eq_true,if_false]at xG;have HTG:Hid (R=_):=(HT1.out h3).symm;have HOG:=qh xG;clear xG HT1 HT3 h1 h2 h3 HOC2 HRV HOV HAT
          go_wp2_with (first
           | (refine zaa rfl 45 (.tmp 4) (.tmp 51) rfl w.heap.size (dlC k_route X (.slice A7 (l.length+1) c7)) rr rr 45 (dcC zDc pl0) (by exact HS14.out.z) hdDc (zfp _ _ _) rfl ?_;intro w15 hb15 ho15)
           | (go_at_call 63;(with_reducible refine(HTT.out _ (by exact HS13.out.st)).mono ?_);rintro e w14 ⟨rfl,h14,hW14⟩;have HS14:=qh (HS13.out.call h14 hW14);have hl14:=zao HS14.out.e 45 0 (dlC k_route X (.slice A7 (l.length+1) c7)) rfl _ Tryz.underlying45 rfl hdDc;clear h14 hW14)
           | (go_at_call 65;(with_reducible refine(HOG.out _ (by exact HP12.out.st)).mono ?_);rintro e w13 ⟨rfl,h13,hW13⟩;have HS13:=qh (HP12.out.call h13 hW13);clear h13 hW13)
           | (at_builtin;refine zaf rfl (.tmp 41) (.tmp 43) 43 rfl (w.heap.size+1) 80 12 168 Tryz.underlying43 ePl (.slice A1 l.length c1) l.length (zipC plC l sl) rr (by exact HS11.out.own.alloc _) (some ⟨w8.heap.size,0,none⟩) 1 1 (plC ⟨N1,zE,zE⟩ pl0) rr (by exact RdS.new w8 _ (plC ⟨N1,zE,zE⟩ pl0) 12 rfl) (za0 _ _) om om (by have:=HS11.out.wr.size;simp;omega) ?_;intro A7 c7 w12 hown7 hc7 hg7 hat7;have hb12:=(HS11.out.e.alloc (.cells (plC ⟨N1,zE,zE⟩ pl0).toArray 80)).grown (by exact hg7) (fun e=>HS11.out.ob _ e.symm rfl);have c12:=hb12.cell 8;have f12:=hb12.frozen 8;have G12:=hb12.lt;have HP12:=qh (HS11.out.push HY11.out (by exact hg7) hown7 hat7);clear hown7 hc7 hg7 hat7 hb12)
           | (refine za9 rfl 43 80 (.tmp 42) rfl (plC ⟨N1,zE,zE⟩ pl0) rr Tryz.underlying43 (by exact onePl ⟨N1,zE,zE⟩ pl0) (by rw[zba];omega) (by rw[zba];omega) ?_)
           | (go_at_call 65;(with_reducible refine(HA2.out _ (by exact HP5.out.st)).mono ?_);rintro e w8 ⟨rfl,h8,hW8⟩;have HP8:=qh (HP5.out.call h8 hW8);have HS11:=qh (HS.out.call HP8.out.st HP8.out.wr);have HY11:=qh (RDl.fr HS.out lr HP8.out.all);have hl11:=zao HP8.out.e 80 0 (plC ⟨N1,zE,zE⟩ pl0) rfl _ Tryz.underlying80 rfl hdPl;have c11:w8.cell? ⟨G,8,none⟩=some (.slice A1 l.length c1):=HS11.out.e.cell 8;have G11:G<w8.heap.size:=HS11.out.e.lt;clear h8 hW8)
           | (go_at_call 65;(with_reducible refine(HA1.out _ (by exact HP4.out.st)).mono ?_);rintro e w5 ⟨rfl,h5,hW5⟩;have HP5:=qh (HP4.out.call h5 hW5);clear h5 hW5)
           | (refine zaa rfl 80 (.tmp 6) (.tmp 29) rfl w3.heap.size (plC ⟨N1,zE,zE⟩ pl0) rr rr 80 (plC zPl pl0) (by exact Blk.new' rfl rfl) hdPl (za0 _ _) rfl ?_;intro w4 hb4 ho4;have HP4:Hid (RPq gp w3.heap.size A n c ts wr ⟨N1,zE,zE⟩ pl0 q1 w4):=⟨(H3.out.1.alloc _).only (HLO.out.mono HS.out.wr.size) H3.out.2.size ho4,Wr.newL (H3.out.2.alloc _) (Wr.onlyg (L:=[w3.heap.size]) ho4 sy) (fun g hg=>.inr (by simp at hg;have:=H3.out.2.size;omega)),hb4,PlIn.zero _ _ _,HLO.out.mono HS.out.wr.size,H3.out.2.size⟩;clear hb4 ho4)
           | refine zad rfl 80 [(0,.tmp 28)] rfl _ rr _ (zc7 N1 _) ?_
           | (go_at_call 62;(with_reducible refine(HNQ.out _ (by exact HS.out.st)).mono ?_);rintro e w3 ⟨rfl,h3,hW3⟩;have H3:=qh (And.intro h3 hW3);clear h3 hW3))
          have hlen:l.length+1=(l++[(⟨N1,zE,zE⟩:Pl)]).length:=by simp
          rw[hlen]at HS14 hb15;obtain⟨e1,e2,e3⟩:=HS14.out.fin ho15;refine bodyPost_ret (res_c rfl _ w.heap.size 45 (dcC ⟨k_route,X,zE,l++[(⟨N1,zE,zE⟩:Pl)]⟩ ((none,0),(A7,c7))) rfl hb15 _ Tryz.underlying45 rfl hdDc) rfl ?_;rw[HTG.out];exact⟨((none,0),(A7,c7)),rfl,e1,e2,e3⟩
        · have xG:=fun W h=>HOC2.out W h
          rw[HRV.out,h3]at xG;simp only[if_true]at xG;have HTG:=qh (HT3.out h3);have hlt3:=zc5 HCX.out h3;have HOG:=qh xG;clear xG HT1 HT3 h1 h2 h3 HOC2 HRV HOV HAT
          go_wp2_with (first
           | (go_at_call 65;(with_reducible refine(HOG.out _ (by exact HP12.out.st)).mono ?_);rintro e w13 ⟨rfl,h13,hW13⟩;have HS13:=qh (HP12.out.call h13 hW13);clear h13 hW13)
           | (at_builtin;refine zaf rfl (.tmp 41) (.tmp 43) 43 rfl (w.heap.size+1) 80 12 168 Tryz.underlying43 ePl (.slice A1 l.length c1) l.length (zipC plC l sl) rr (by exact HS11.out.own.alloc _) (some ⟨w8.heap.size,0,none⟩) 1 1 (plC ⟨N1,zE,zE⟩ pl0) rr (by exact RdS.new w8 _ (plC ⟨N1,zE,zE⟩ pl0) 12 rfl) (za0 _ _) om om (by have:=HS11.out.wr.size;simp;omega) ?_;intro A7 c7 w12 hown7 hc7 hg7 hat7;have hb12:=(HS11.out.e.alloc (.cells (plC ⟨N1,zE,zE⟩ pl0).toArray 80)).grown (by exact hg7) (fun e=>HS11.out.ob _ e.symm rfl);have c12:=hb12.cell 8;have f12:=hb12.frozen 8;have G12:=hb12.lt;have HP12:=qh (HS11.out.push HY11.out (by exact hg7) hown7 hat7);clear hown7 hc7 hg7 hat7 hb12)
           | (refine za9 rfl 43 80 (.tmp 42) rfl (plC ⟨N1,zE,zE⟩ pl0) rr Tryz.underlying43 (by exact onePl ⟨N1,zE,zE⟩ pl0) (by rw[zba];omega) (by rw[zba];omega) ?_)
           | (go_at_call 65;(with_reducible refine(HA2.out _ (by exact HP5.out.st)).mono ?_);rintro e w8 ⟨rfl,h8,hW8⟩;have HP8:=qh (HP5.out.call h8 hW8);have HS11:=qh (HS.out.call HP8.out.st HP8.out.wr);have HY11:=qh (RDl.fr HS.out lr HP8.out.all);have hl11:=zao HP8.out.e 80 0 (plC ⟨N1,zE,zE⟩ pl0) rfl _ Tryz.underlying80 rfl hdPl;have c11:w8.cell? ⟨G,8,none⟩=some (.slice A1 l.length c1):=HS11.out.e.cell 8;have G11:G<w8.heap.size:=HS11.out.e.lt;clear h8 hW8)
           | (go_at_call 65;(with_reducible refine(HA1.out _ (by exact HP4.out.st)).mono ?_);rintro e w5 ⟨rfl,h5,hW5⟩;have HP5:=qh (HP4.out.call h5 hW5);clear h5 hW5)
           | (refine zaa rfl 80 (.tmp 6) (.tmp 29) rfl w3.heap.size (plC ⟨N1,zE,zE⟩ pl0) rr rr 80 (plC zPl pl0) (by exact Blk.new' rfl rfl) hdPl (za0 _ _) rfl ?_;intro w4 hb4 ho4;have HP4:Hid (RPq gp w3.heap.size A n c ts wr ⟨N1,zE,zE⟩ pl0 q1 w4):=⟨(H3.out.1.alloc _).only (HLO.out.mono HS.out.wr.size) H3.out.2.size ho4,Wr.newL (H3.out.2.alloc _) (Wr.onlyg (L:=[w3.heap.size]) ho4 sy) (fun g hg=>.inr (by simp at hg;have:=H3.out.2.size;omega)),hb4,PlIn.zero _ _ _,HLO.out.mono HS.out.wr.size,H3.out.2.size⟩;clear hb4 ho4)
           | refine zad rfl 80 [(0,.tmp 28)] rfl _ rr _ (zc7 N1 _) ?_
           | (go_at_call 62;(with_reducible refine(HNQ.out _ (by exact HS.out.st)).mono ?_);rintro e w3 ⟨rfl,h3,hW3⟩;have H3:=qh (And.intro h3 hW3);clear h3 hW3))
          have hk5:=HKL.out;have hi5:=HI3.out;have hi6:(rnx q1).i=q1.i+1:=rfl;go_roundg (gk-1)
          case measure=>omega
          case rel=>exact⟨l++[⟨N1,zE,zE⟩],sl++[pl0],A7,c7,rnx q1,by rw[la9];exact HS13.out,by omega,by rw[la9,List.length_singleton];omega,by rw[show gk-1+1=gk by omega];exact HTG.out,HQ3.out.rp rnx_p⟩
      · have xB:=fun W h=>HOV.out m_ex q1 W h
        rw[HRV.out,h2]at xB;simp only[h2,if_true]at xB HQ3 HI3 HT1 HT3 HOC2 HTT;have HQC:RQ 14 (rnx q1):=HQB.out.rp rnx_p;have HD2:=qh (fun W (h:RSt gp A n c ts (rnx q1) W)=>HAT.out (rnx q1) W h HQC);generalize (ratom ts (rexpr ts 14) (rnx q1)).1=E2 at *;generalize (ratom ts (rexpr ts 14) (rnx q1)).2=qx at *;have HA2:=qh xB;clear xB
        cases h3:rIs ts m_gt qx
        · have xG:=fun W h=>HOC2.out W h
          rw[HRV.out,h3]at xG;simp only[Bool.false_eq_true,if_false]at xG;have HTG:Hid (R=_):=(HT1.out h3).symm;have HOG:=qh xG;clear xG HT1 HT3 h1 h2 h3 HOC2 HRV HOV HAT
          go_wp2_with (first
           | (refine zaa rfl 45 (.tmp 4) (.tmp 51) rfl w.heap.size (dlC k_route X (.slice A7 (l.length+1) c7)) rr rr 45 (dcC zDc pl0) (by exact HS14.out.z) hdDc (zfp _ _ _) rfl ?_;intro w15 hb15 ho15)
           | (go_at_call 63;(with_reducible refine(HTT.out _ (by exact HS13.out.st)).mono ?_);rintro e w14 ⟨rfl,h14,hW14⟩;have HS14:=qh (HS13.out.call h14 hW14);have hl14:=zao HS14.out.e 45 0 (dlC k_route X (.slice A7 (l.length+1) c7)) rfl _ Tryz.underlying45 rfl hdDc;clear h14 hW14)
           | (go_at_call 65;(with_reducible refine(HOG.out _ (by exact HP12.out.st)).mono ?_);rintro e w13 ⟨rfl,h13,hW13⟩;have HS13:=qh (HP12.out.call h13 hW13);clear h13 hW13)
           | (at_builtin;refine zaf rfl (.tmp 41) (.tmp 43) 43 rfl (w.heap.size+1) 80 12 168 Tryz.underlying43 ePl (.slice A1 l.length c1) l.length (zipC plC l sl) rr (by exact HS11.out.own.alloc _) (some ⟨w10.heap.size,0,none⟩) 1 1 (plC ⟨N1,zE,E2⟩ (pl0.1,a8)) rr (by exact RdS.new w10 _ (plC ⟨N1,zE,E2⟩ (pl0.1,a8)) 12 rfl) (za0 _ _) om om (by have:=HS11.out.wr.size;simp;omega) ?_;intro A7 c7 w12 hown7 hc7 hg7 hat7;have hb12:=(HS11.out.e.alloc (.cells (plC ⟨N1,zE,E2⟩ (pl0.1,a8)).toArray 80)).grown (by exact hg7) (fun e=>HS11.out.ob _ e.symm rfl);have c12:=hb12.cell 8;have f12:=hb12.frozen 8;have G12:=hb12.lt;have HP12:=qh (HS11.out.push HY11.out (by exact hg7) hown7 hat7);clear hown7 hc7 hg7 hat7 hb12)
           | (refine za9 rfl 43 80 (.tmp 42) rfl (plC ⟨N1,zE,E2⟩ (pl0.1,a8)) rr Tryz.underlying43 (by exact onePl ⟨N1,zE,E2⟩ (pl0.1,a8)) (by rw[zba];omega) (by rw[zba];omega) ?_)
           | (refine zab rfl 39 (.tmp 39) (.tmp 38) rfl w3.heap.size 7 (exC E2 a8) rr rr 80 (plC ⟨N1,zE,zE⟩ pl0) (by exact HP9.out.e) hdEx (zai E2 a8) (by show 7+5≤12;omega) ?_;intro w10 hb10 ho10;have HP10:Hid (RPq gp w3.heap.size A n c ts wr ⟨N1,zE,E2⟩ (pl0.1,a8) qx w10):=HP9.out.put ho10 (by exact hb10) ⟨HP9.out.ar.1,HE9.out⟩;have HS11:=qh (HS.out.call HP10.out.st HP10.out.wr);have HY11:=qh (RDl.fr HS.out lr HP10.out.all);have hl11:=zao HP10.out.e 80 0 (plC ⟨N1,zE,E2⟩ (pl0.1,a8)) rfl _ Tryz.underlying80 rfl hdPl;have c11:w10.cell? ⟨G,8,none⟩=some (.slice A1 l.length c1):=HS11.out.e.cell 8;have G11:G<w10.heap.size:=HS11.out.e.lt;clear hb10 ho10)
           | (go_at_call 66;(with_reducible refine(HD2.out _ (by exact HP8.out.st)).mono ?_);rintro e w9 ⟨a8,rfl,ha9,h9,hW9⟩;have HE9:=qh (RPq.fr HP8.out ha9);have HP9:=qh (HP8.out.call h9 hW9);clear ha9 h9 hW9)
           | (go_at_call 65;(with_reducible refine(HA2.out _ (by exact HP5.out.st)).mono ?_);rintro e w8 ⟨rfl,h8,hW8⟩;have HP8:=qh (HP5.out.call h8 hW8);clear h8 hW8)
           | (go_at_call 65;(with_reducible refine(HA1.out _ (by exact HP4.out.st)).mono ?_);rintro e w5 ⟨rfl,h5,hW5⟩;have HP5:=qh (HP4.out.call h5 hW5);clear h5 hW5)
           | (refine zaa rfl 80 (.tmp 6) (.tmp 29) rfl w3.heap.size (plC ⟨N1,zE,zE⟩ pl0) rr rr 80 (plC zPl pl0) (by exact Blk.new' rfl rfl) hdPl (za0 _ _) rfl ?_;intro w4 hb4 ho4;have HP4:Hid (RPq gp w3.heap.size A n c ts wr ⟨N1,zE,zE⟩ pl0 q1 w4):=⟨(H3.out.1.alloc _).only (HLO.out.mono HS.out.wr.size) H3.out.2.size ho4,Wr.newL (H3.out.2.alloc _) (Wr.onlyg (L:=[w3.heap.size]) ho4 sy) (fun g hg=>.inr (by simp at hg;have:=H3.out.2.size;omega)),hb4,PlIn.zero _ _ _,HLO.out.mono HS.out.wr.size,H3.out.2.size⟩;clear hb4 ho4)
           | refine zad rfl 80 [(0,.tmp 28)] rfl _ rr _ (zc7 N1 _) ?_
           | (go_at_call 62;(with_reducible refine(HNQ.out _ (by exact HS.out.st)).mono ?_);rintro e w3 ⟨rfl,h3,hW3⟩;have H3:=qh (And.intro h3 hW3);clear h3 hW3))
          have hlen:l.length+1=(l++[(⟨N1,zE,E2⟩:Pl)]).length:=by simp
          rw[hlen]at HS14 hb15;obtain⟨e1,e2,e3⟩:=HS14.out.fin ho15;refine bodyPost_ret (res_c rfl _ w.heap.size 45 (dcC ⟨k_route,X,zE,l++[(⟨N1,zE,E2⟩:Pl)]⟩ ((none,0),(A7,c7))) rfl hb15 _ Tryz.underlying45 rfl hdDc) rfl ?_;rw[HTG.out];exact⟨((none,0),(A7,c7)),rfl,e1,e2,e3⟩
        · have xG:=fun W h=>HOC2.out W h
          rw[HRV.out,h3]at xG;simp only[if_true]at xG;have HTG:=qh (HT3.out h3);have hlt3:=zc5 HCX.out h3;have HOG:=qh xG;clear xG HT1 HT3 h1 h2 h3 HOC2 HRV HOV HAT
          go_wp2_with (first
           | (go_at_call 65;(with_reducible refine(HOG.out _ (by exact HP12.out.st)).mono ?_);rintro e w13 ⟨rfl,h13,hW13⟩;have HS13:=qh (HP12.out.call h13 hW13);clear h13 hW13)
           | (at_builtin;refine zaf rfl (.tmp 41) (.tmp 43) 43 rfl (w.heap.size+1) 80 12 168 Tryz.underlying43 ePl (.slice A1 l.length c1) l.length (zipC plC l sl) rr (by exact HS11.out.own.alloc _) (some ⟨w10.heap.size,0,none⟩) 1 1 (plC ⟨N1,zE,E2⟩ (pl0.1,a8)) rr (by exact RdS.new w10 _ (plC ⟨N1,zE,E2⟩ (pl0.1,a8)) 12 rfl) (za0 _ _) om om (by have:=HS11.out.wr.size;simp;omega) ?_;intro A7 c7 w12 hown7 hc7 hg7 hat7;have hb12:=(HS11.out.e.alloc (.cells (plC ⟨N1,zE,E2⟩ (pl0.1,a8)).toArray 80)).grown (by exact hg7) (fun e=>HS11.out.ob _ e.symm rfl);have c12:=hb12.cell 8;have f12:=hb12.frozen 8;have G12:=hb12.lt;have HP12:=qh (HS11.out.push HY11.out (by exact hg7) hown7 hat7);clear hown7 hc7 hg7 hat7 hb12)
           | (refine za9 rfl 43 80 (.tmp 42) rfl (plC ⟨N1,zE,E2⟩ (pl0.1,a8)) rr Tryz.underlying43 (by exact onePl ⟨N1,zE,E2⟩ (pl0.1,a8)) (by rw[zba];omega) (by rw[zba];omega) ?_)
           | (refine zab rfl 39 (.tmp 39) (.tmp 38) rfl w3.heap.size 7 (exC E2 a8) rr rr 80 (plC ⟨N1,zE,zE⟩ pl0) (by exact HP9.out.e) hdEx (zai E2 a8) (by show 7+5≤12;omega) ?_;intro w10 hb10 ho10;have HP10:Hid (RPq gp w3.heap.size A n c ts wr ⟨N1,zE,E2⟩ (pl0.1,a8) qx w10):=HP9.out.put ho10 (by exact hb10) ⟨HP9.out.ar.1,HE9.out⟩;have HS11:=qh (HS.out.call HP10.out.st HP10.out.wr);have HY11:=qh (RDl.fr HS.out lr HP10.out.all);have hl11:=zao HP10.out.e 80 0 (plC ⟨N1,zE,E2⟩ (pl0.1,a8)) rfl _ Tryz.underlying80 rfl hdPl;have c11:w10.cell? ⟨G,8,none⟩=some (.slice A1 l.length c1):=HS11.out.e.cell 8;have G11:G<w10.heap.size:=HS11.out.e.lt;clear hb10 ho10)
           | (go_at_call 66;(with_reducible refine(HD2.out _ (by exact HP8.out.st)).mono ?_);rintro e w9 ⟨a8,rfl,ha9,h9,hW9⟩;have HE9:=qh (RPq.fr HP8.out ha9);have HP9:=qh (HP8.out.call h9 hW9);clear ha9 h9 hW9)
           | (go_at_call 65;(with_reducible refine(HA2.out _ (by exact HP5.out.st)).mono ?_);rintro e w8 ⟨rfl,h8,hW8⟩;have HP8:=qh (HP5.out.call h8 hW8);clear h8 hW8)
           | (go_at_call 65;(with_reducible refine(HA1.out _ (by exact HP4.out.st)).mono ?_);rintro e w5 ⟨rfl,h5,hW5⟩;have HP5:=qh (HP4.out.call h5 hW5);clear h5 hW5)
           | (refine zaa rfl 80 (.tmp 6) (.tmp 29) rfl w3.heap.size (plC ⟨N1,zE,zE⟩ pl0) rr rr 80 (plC zPl pl0) (by exact Blk.new' rfl rfl) hdPl (za0 _ _) rfl ?_;intro w4 hb4 ho4;have HP4:Hid (RPq gp w3.heap.size A n c ts wr ⟨N1,zE,zE⟩ pl0 q1 w4):=⟨(H3.out.1.alloc _).only (HLO.out.mono HS.out.wr.size) H3.out.2.size ho4,Wr.newL (H3.out.2.alloc _) (Wr.onlyg (L:=[w3.heap.size]) ho4 sy) (fun g hg=>.inr (by simp at hg;have:=H3.out.2.size;omega)),hb4,PlIn.zero _ _ _,HLO.out.mono HS.out.wr.size,H3.out.2.size⟩;clear hb4 ho4)
           | refine zad rfl 80 [(0,.tmp 28)] rfl _ rr _ (zc7 N1 _) ?_
           | (go_at_call 62;(with_reducible refine(HNQ.out _ (by exact HS.out.st)).mono ?_);rintro e w3 ⟨rfl,h3,hW3⟩;have H3:=qh (And.intro h3 hW3);clear h3 hW3))
          have hk5:=HKL.out;have hi5:=HI3.out;have hi6:(rnx qx).i=qx.i+1:=rfl;go_roundg (gk-1)
          case measure=>omega
          case rel=>exact⟨l++[⟨N1,zE,E2⟩],sl++[(pl0.1,a8)],A7,c7,rnx qx,by rw[la9];exact HS13.out,by omega,by rw[la9,List.length_singleton];omega,by rw[show gk-1+1=gk by omega];exact HTG.out,HQ3.out.rp rnx_p⟩
    · have xA:=fun W h=>HOV.out m_at q1 W h
      rw[HRV.out,h1]at xA;simp only[h1,if_true]at xA HQ3 HI3 HT1 HT3 HOC2 HTT;have HQA:RQ 14 (rnx q1):=HQ1.out.rp rnx_p;have HD1:=qh (fun W (h:RSt gp A n c ts (rnx q1) W)=>HAT.out (rnx q1) W h HQA);have HQB:=qh (HQA.rp (ze8 (ts:=ts) (rnx q1)));generalize (ratom ts (rexpr ts 14) (rnx q1)).1=E1 at *;generalize (ratom ts (rexpr ts 14) (rnx q1)).2=qa at *;have HA1:=qh xA;clear xA
      cases h2:rIs ts m_ex qa
      · have xB:=fun W h=>HOV.out m_ex qa W h
        rw[HRV.out,h2]at xB;simp only[h2,Bool.false_eq_true,if_false]at xB HQ3 HI3 HT1 HT3 HOC2 HTT;have HA2:=qh xB;clear xB
        cases h3:rIs ts m_gt qa
        · have xG:=fun W h=>HOC2.out W h
          rw[HRV.out,h3]at xG;simp only[Bool.false_eq_true,if_false]at xG;have HTG:Hid (R=_):=(HT1.out h3).symm;have HOG:=qh xG;clear xG HT1 HT3 h1 h2 h3 HOC2 HRV HOV HAT
          go_wp2_with (first
           | (refine zaa rfl 45 (.tmp 4) (.tmp 51) rfl w.heap.size (dlC k_route X (.slice A7 (l.length+1) c7)) rr rr 45 (dcC zDc pl0) (by exact HS14.out.z) hdDc (zfp _ _ _) rfl ?_;intro w15 hb15 ho15)
           | (go_at_call 63;(with_reducible refine(HTT.out _ (by exact HS13.out.st)).mono ?_);rintro e w14 ⟨rfl,h14,hW14⟩;have HS14:=qh (HS13.out.call h14 hW14);have hl14:=zao HS14.out.e 45 0 (dlC k_route X (.slice A7 (l.length+1) c7)) rfl _ Tryz.underlying45 rfl hdDc;clear h14 hW14)
           | (go_at_call 65;(with_reducible refine(HOG.out _ (by exact HP12.out.st)).mono ?_);rintro e w13 ⟨rfl,h13,hW13⟩;have HS13:=qh (HP12.out.call h13 hW13);clear h13 hW13)
           | (at_builtin;refine zaf rfl (.tmp 41) (.tmp 43) 43 rfl (w.heap.size+1) 80 12 168 Tryz.underlying43 ePl (.slice A1 l.length c1) l.length (zipC plC l sl) rr (by exact HS11.out.own.alloc _) (some ⟨w8.heap.size,0,none⟩) 1 1 (plC ⟨N1,E1,zE⟩ (a6,pl0.2)) rr (by exact RdS.new w8 _ (plC ⟨N1,E1,zE⟩ (a6,pl0.2)) 12 rfl) (za0 _ _) om om (by have:=HS11.out.wr.size;simp;omega) ?_;intro A7 c7 w12 hown7 hc7 hg7 hat7;have hb12:=(HS11.out.e.alloc (.cells (plC ⟨N1,E1,zE⟩ (a6,pl0.2)).toArray 80)).grown (by exact hg7) (fun e=>HS11.out.ob _ e.symm rfl);have c12:=hb12.cell 8;have f12:=hb12.frozen 8;have G12:=hb12.lt;have HP12:=qh (HS11.out.push HY11.out (by exact hg7) hown7 hat7);clear hown7 hc7 hg7 hat7 hb12)
           | (refine za9 rfl 43 80 (.tmp 42) rfl (plC ⟨N1,E1,zE⟩ (a6,pl0.2)) rr Tryz.underlying43 (by exact onePl ⟨N1,E1,zE⟩ (a6,pl0.2)) (by rw[zba];omega) (by rw[zba];omega) ?_)
           | (go_at_call 65;(with_reducible refine(HA2.out _ (by exact HP7.out.st)).mono ?_);rintro e w8 ⟨rfl,h8,hW8⟩;have HP8:=qh (HP7.out.call h8 hW8);have HS11:=qh (HS.out.call HP8.out.st HP8.out.wr);have HY11:=qh (RDl.fr HS.out lr HP8.out.all);have hl11:=zao HP8.out.e 80 0 (plC ⟨N1,E1,zE⟩ (a6,pl0.2)) rfl _ Tryz.underlying80 rfl hdPl;have c11:w8.cell? ⟨G,8,none⟩=some (.slice A1 l.length c1):=HS11.out.e.cell 8;have G11:G<w8.heap.size:=HS11.out.e.lt;clear h8 hW8)
           | (refine zab rfl 39 (.tmp 34) (.tmp 33) rfl w3.heap.size 2 (exC E1 a6) rr rr 80 (plC ⟨N1,zE,zE⟩ pl0) (by exact HP6.out.e) hdEx (zai E1 a6) (by show 2+5≤12;omega) ?_;intro w7 hb7 ho7;have HP7:Hid (RPq gp w3.heap.size A n c ts wr ⟨N1,E1,zE⟩ (a6,pl0.2) qa w7):=HP6.out.put ho7 (by exact hb7) ⟨HE6.out,HP6.out.ar.2⟩;clear hb7 ho7)
           | (go_at_call 66;(with_reducible refine(HD1.out _ (by exact HP5.out.st)).mono ?_);rintro e w6 ⟨a6,rfl,ha6,h6,hW6⟩;have HE6:=qh (RPq.fr HP5.out ha6);have HP6:=qh (HP5.out.call h6 hW6);clear ha6 h6 hW6)
           | (go_at_call 65;(with_reducible refine(HA1.out _ (by exact HP4.out.st)).mono ?_);rintro e w5 ⟨rfl,h5,hW5⟩;have HP5:=qh (HP4.out.call h5 hW5);clear h5 hW5)
           | (refine zaa rfl 80 (.tmp 6) (.tmp 29) rfl w3.heap.size (plC ⟨N1,zE,zE⟩ pl0) rr rr 80 (plC zPl pl0) (by exact Blk.new' rfl rfl) hdPl (za0 _ _) rfl ?_;intro w4 hb4 ho4;have HP4:Hid (RPq gp w3.heap.size A n c ts wr ⟨N1,zE,zE⟩ pl0 q1 w4):=⟨(H3.out.1.alloc _).only (HLO.out.mono HS.out.wr.size) H3.out.2.size ho4,Wr.newL (H3.out.2.alloc _) (Wr.onlyg (L:=[w3.heap.size]) ho4 sy) (fun g hg=>.inr (by simp at hg;have:=H3.out.2.size;omega)),hb4,PlIn.zero _ _ _,HLO.out.mono HS.out.wr.size,H3.out.2.size⟩;clear hb4 ho4)
           | refine zad rfl 80 [(0,.tmp 28)] rfl _ rr _ (zc7 N1 _) ?_
           | (go_at_call 62;(with_reducible refine(HNQ.out _ (by exact HS.out.st)).mono ?_);rintro e w3 ⟨rfl,h3,hW3⟩;have H3:=qh (And.intro h3 hW3);clear h3 hW3))
          have hlen:l.length+1=(l++[(⟨N1,E1,zE⟩:Pl)]).length:=by simp
          rw[hlen]at HS14 hb15;obtain⟨e1,e2,e3⟩:=HS14.out.fin ho15;refine bodyPost_ret (res_c rfl _ w.heap.size 45 (dcC ⟨k_route,X,zE,l++[(⟨N1,E1,zE⟩:Pl)]⟩ ((none,0),(A7,c7))) rfl hb15 _ Tryz.underlying45 rfl hdDc) rfl ?_;rw[HTG.out];exact⟨((none,0),(A7,c7)),rfl,e1,e2,e3⟩
        · have xG:=fun W h=>HOC2.out W h
          rw[HRV.out,h3]at xG;simp only[if_true]at xG;have HTG:=qh (HT3.out h3);have hlt3:=zc5 HCX.out h3;have HOG:=qh xG;clear xG HT1 HT3 h1 h2 h3 HOC2 HRV HOV HAT
          go_wp2_with (first
           | (go_at_call 65;(with_reducible refine(HOG.out _ (by exact HP12.out.st)).mono ?_);rintro e w13 ⟨rfl,h13,hW13⟩;have HS13:=qh (HP12.out.call h13 hW13);clear h13 hW13)
           | (at_builtin;refine zaf rfl (.tmp 41) (.tmp 43) 43 rfl (w.heap.size+1) 80 12 168 Tryz.underlying43 ePl (.slice A1 l.length c1) l.length (zipC plC l sl) rr (by exact HS11.out.own.alloc _) (some ⟨w8.heap.size,0,none⟩) 1 1 (plC ⟨N1,E1,zE⟩ (a6,pl0.2)) rr (by exact RdS.new w8 _ (plC ⟨N1,E1,zE⟩ (a6,pl0.2)) 12 rfl) (za0 _ _) om om (by have:=HS11.out.wr.size;simp;omega) ?_;intro A7 c7 w12 hown7 hc7 hg7 hat7;have hb12:=(HS11.out.e.alloc (.cells (plC ⟨N1,E1,zE⟩ (a6,pl0.2)).toArray 80)).grown (by exact hg7) (fun e=>HS11.out.ob _ e.symm rfl);have c12:=hb12.cell 8;have f12:=hb12.frozen 8;have G12:=hb12.lt;have HP12:=qh (HS11.out.push HY11.out (by exact hg7) hown7 hat7);clear hown7 hc7 hg7 hat7 hb12)
           | (refine za9 rfl 43 80 (.tmp 42) rfl (plC ⟨N1,E1,zE⟩ (a6,pl0.2)) rr Tryz.underlying43 (by exact onePl ⟨N1,E1,zE⟩ (a6,pl0.2)) (by rw[zba];omega) (by rw[zba];omega) ?_)
           | (go_at_call 65;(with_reducible refine(HA2.out _ (by exact HP7.out.st)).mono ?_);rintro e w8 ⟨rfl,h8,hW8⟩;have HP8:=qh (HP7.out.call h8 hW8);have HS11:=qh (HS.out.call HP8.out.st HP8.out.wr);have HY11:=qh (RDl.fr HS.out lr HP8.out.all);have hl11:=zao HP8.out.e 80 0 (plC ⟨N1,E1,zE⟩ (a6,pl0.2)) rfl _ Tryz.underlying80 rfl hdPl;have c11:w8.cell? ⟨G,8,none⟩=some (.slice A1 l.length c1):=HS11.out.e.cell 8;have G11:G<w8.heap.size:=HS11.out.e.lt;clear h8 hW8)
           | (refine zab rfl 39 (.tmp 34) (.tmp 33) rfl w3.heap.size 2 (exC E1 a6) rr rr 80 (plC ⟨N1,zE,zE⟩ pl0) (by exact HP6.out.e) hdEx (zai E1 a6) (by show 2+5≤12;omega) ?_;intro w7 hb7 ho7;have HP7:Hid (RPq gp w3.heap.size A n c ts wr ⟨N1,E1,zE⟩ (a6,pl0.2) qa w7):=HP6.out.put ho7 (by exact hb7) ⟨HE6.out,HP6.out.ar.2⟩;clear hb7 ho7)
           | (go_at_call 66;(with_reducible refine(HD1.out _ (by exact HP5.out.st)).mono ?_);rintro e w6 ⟨a6,rfl,ha6,h6,hW6⟩;have HE6:=qh (RPq.fr HP5.out ha6);have HP6:=qh (HP5.out.call h6 hW6);clear ha6 h6 hW6)
           | (go_at_call 65;(with_reducible refine(HA1.out _ (by exact HP4.out.st)).mono ?_);rintro e w5 ⟨rfl,h5,hW5⟩;have HP5:=qh (HP4.out.call h5 hW5);clear h5 hW5)
           | (refine zaa rfl 80 (.tmp 6) (.tmp 29) rfl w3.heap.size (plC ⟨N1,zE,zE⟩ pl0) rr rr 80 (plC zPl pl0) (by exact Blk.new' rfl rfl) hdPl (za0 _ _) rfl ?_;intro w4 hb4 ho4;have HP4:Hid (RPq gp w3.heap.size A n c ts wr ⟨N1,zE,zE⟩ pl0 q1 w4):=⟨(H3.out.1.alloc _).only (HLO.out.mono HS.out.wr.size) H3.out.2.size ho4,Wr.newL (H3.out.2.alloc _) (Wr.onlyg (L:=[w3.heap.size]) ho4 sy) (fun g hg=>.inr (by simp at hg;have:=H3.out.2.size;omega)),hb4,PlIn.zero _ _ _,HLO.out.mono HS.out.wr.size,H3.out.2.size⟩;clear hb4 ho4)
           | refine zad rfl 80 [(0,.tmp 28)] rfl _ rr _ (zc7 N1 _) ?_
           | (go_at_call 62;(with_reducible refine(HNQ.out _ (by exact HS.out.st)).mono ?_);rintro e w3 ⟨rfl,h3,hW3⟩;have H3:=qh (And.intro h3 hW3);clear h3 hW3))
          have hk5:=HKL.out;have hi5:=HI3.out;have hi6:(rnx qa).i=qa.i+1:=rfl;go_roundg (gk-1)
          case measure=>omega
          case rel=>exact⟨l++[⟨N1,E1,zE⟩],sl++[(a6,pl0.2)],A7,c7,rnx qa,by rw[la9];exact HS13.out,by omega,by rw[la9,List.length_singleton];omega,by rw[show gk-1+1=gk by omega];exact HTG.out,HQ3.out.rp rnx_p⟩
      · have xB:=fun W h=>HOV.out m_ex qa W h
        rw[HRV.out,h2]at xB;simp only[h2,if_true]at xB HQ3 HI3 HT1 HT3 HOC2 HTT;have HQC:RQ 14 (rnx qa):=HQB.out.rp rnx_p;have HD2:=qh (fun W (h:RSt gp A n c ts (rnx qa) W)=>HAT.out (rnx qa) W h HQC);generalize (ratom ts (rexpr ts 14) (rnx qa)).1=E2 at *;generalize (ratom ts (rexpr ts 14) (rnx qa)).2=qx at *;have HA2:=qh xB;clear xB
        cases h3:rIs ts m_gt qx
        · have xG:=fun W h=>HOC2.out W h
          rw[HRV.out,h3]at xG;simp only[Bool.false_eq_true,if_false]at xG;have HTG:Hid (R=_):=(HT1.out h3).symm;have HOG:=qh xG;clear xG HT1 HT3 h1 h2 h3 HOC2 HRV HOV HAT
          go_wp2_with (first
           | (refine zaa rfl 45 (.tmp 4) (.tmp 51) rfl w.heap.size (dlC k_route X (.slice A7 (l.length+1) c7)) rr rr 45 (dcC zDc pl0) (by exact HS14.out.z) hdDc (zfp _ _ _) rfl ?_;intro w15 hb15 ho15)
           | (go_at_call 63;(with_reducible refine(HTT.out _ (by exact HS13.out.st)).mono ?_);rintro e w14 ⟨rfl,h14,hW14⟩;have HS14:=qh (HS13.out.call h14 hW14);have hl14:=zao HS14.out.e 45 0 (dlC k_route X (.slice A7 (l.length+1) c7)) rfl _ Tryz.underlying45 rfl hdDc;clear h14 hW14)
           | (go_at_call 65;(with_reducible refine(HOG.out _ (by exact HP12.out.st)).mono ?_);rintro e w13 ⟨rfl,h13,hW13⟩;have HS13:=qh (HP12.out.call h13 hW13);clear h13 hW13)
           | (at_builtin;refine zaf rfl (.tmp 41) (.tmp 43) 43 rfl (w.heap.size+1) 80 12 168 Tryz.underlying43 ePl (.slice A1 l.length c1) l.length (zipC plC l sl) rr (by exact HS11.out.own.alloc _) (some ⟨w10.heap.size,0,none⟩) 1 1 (plC ⟨N1,E1,E2⟩ (a6,a8)) rr (by exact RdS.new w10 _ (plC ⟨N1,E1,E2⟩ (a6,a8)) 12 rfl) (za0 _ _) om om (by have:=HS11.out.wr.size;simp;omega) ?_;intro A7 c7 w12 hown7 hc7 hg7 hat7;have hb12:=(HS11.out.e.alloc (.cells (plC ⟨N1,E1,E2⟩ (a6,a8)).toArray 80)).grown (by exact hg7) (fun e=>HS11.out.ob _ e.symm rfl);have c12:=hb12.cell 8;have f12:=hb12.frozen 8;have G12:=hb12.lt;have HP12:=qh (HS11.out.push HY11.out (by exact hg7) hown7 hat7);clear hown7 hc7 hg7 hat7 hb12)
           | (refine za9 rfl 43 80 (.tmp 42) rfl (plC ⟨N1,E1,E2⟩ (a6,a8)) rr Tryz.underlying43 (by exact onePl ⟨N1,E1,E2⟩ (a6,a8)) (by rw[zba];omega) (by rw[zba];omega) ?_)
           | (refine zab rfl 39 (.tmp 39) (.tmp 38) rfl w3.heap.size 7 (exC E2 a8) rr rr 80 (plC ⟨N1,E1,zE⟩ (a6,pl0.2)) (by exact HP9.out.e) hdEx (zai E2 a8) (by show 7+5≤12;omega) ?_;intro w10 hb10 ho10;have HP10:Hid (RPq gp w3.heap.size A n c ts wr ⟨N1,E1,E2⟩ (a6,a8) qx w10):=HP9.out.put ho10 (by exact hb10) ⟨HP9.out.ar.1,HE9.out⟩;have HS11:=qh (HS.out.call HP10.out.st HP10.out.wr);have HY11:=qh (RDl.fr HS.out lr HP10.out.all);have hl11:=zao HP10.out.e 80 0 (plC ⟨N1,E1,E2⟩ (a6,a8)) rfl _ Tryz.underlying80 rfl hdPl;have c11:w10.cell? ⟨G,8,none⟩=some (.slice A1 l.length c1):=HS11.out.e.cell 8;have G11:G<w10.heap.size:=HS11.out.e.lt;clear hb10 ho10)
           | (go_at_call 66;(with_reducible refine(HD2.out _ (by exact HP8.out.st)).mono ?_);rintro e w9 ⟨a8,rfl,ha9,h9,hW9⟩;have HE9:=qh (RPq.fr HP8.out ha9);have HP9:=qh (HP8.out.call h9 hW9);clear ha9 h9 hW9)
           | (go_at_call 65;(with_reducible refine(HA2.out _ (by exact HP7.out.st)).mono ?_);rintro e w8 ⟨rfl,h8,hW8⟩;have HP8:=qh (HP7.out.call h8 hW8);clear h8 hW8)
           | (refine zab rfl 39 (.tmp 34) (.tmp 33) rfl w3.heap.size 2 (exC E1 a6) rr rr 80 (plC ⟨N1,zE,zE⟩ pl0) (by exact HP6.out.e) hdEx (zai E1 a6) (by show 2+5≤12;omega) ?_;intro w7 hb7 ho7;have HP7:Hid (RPq gp w3.heap.size A n c ts wr ⟨N1,E1,zE⟩ (a6,pl0.2) qa w7):=HP6.out.put ho7 (by exact hb7) ⟨HE6.out,HP6.out.ar.2⟩;clear hb7 ho7)
           | (go_at_call 66;(with_reducible refine(HD1.out _ (by exact HP5.out.st)).mono ?_);rintro e w6 ⟨a6,rfl,ha6,h6,hW6⟩;have HE6:=qh (RPq.fr HP5.out ha6);have HP6:=qh (HP5.out.call h6 hW6);clear ha6 h6 hW6)
           | (go_at_call 65;(with_reducible refine(HA1.out _ (by exact HP4.out.st)).mono ?_);rintro e w5 ⟨rfl,h5,hW5⟩;have HP5:=qh (HP4.out.call h5 hW5);clear h5 hW5)
           | (refine zaa rfl 80 (.tmp 6) (.tmp 29) rfl w3.heap.size (plC ⟨N1,zE,zE⟩ pl0) rr rr 80 (plC zPl pl0) (by exact Blk.new' rfl rfl) hdPl (za0 _ _) rfl ?_;intro w4 hb4 ho4;have HP4:Hid (RPq gp w3.heap.size A n c ts wr ⟨N1,zE,zE⟩ pl0 q1 w4):=⟨(H3.out.1.alloc _).only (HLO.out.mono HS.out.wr.size) H3.out.2.size ho4,Wr.newL (H3.out.2.alloc _) (Wr.onlyg (L:=[w3.heap.size]) ho4 sy) (fun g hg=>.inr (by simp at hg;have:=H3.out.2.size;omega)),hb4,PlIn.zero _ _ _,HLO.out.mono HS.out.wr.size,H3.out.2.size⟩;clear hb4 ho4)
           | refine zad rfl 80 [(0,.tmp 28)] rfl _ rr _ (zc7 N1 _) ?_
           | (go_at_call 62;(with_reducible refine(HNQ.out _ (by exact HS.out.st)).mono ?_);rintro e w3 ⟨rfl,h3,hW3⟩;have H3:=qh (And.intro h3 hW3);clear h3 hW3))
          have hlen:l.length+1=(l++[(⟨N1,E1,E2⟩:Pl)]).length:=by simp
          rw[hlen]at HS14 hb15;obtain⟨e1,e2,e3⟩:=HS14.out.fin ho15;refine bodyPost_ret (res_c rfl _ w.heap.size 45 (dcC ⟨k_route,X,zE,l++[(⟨N1,E1,E2⟩:Pl)]⟩ ((none,0),(A7,c7))) rfl hb15 _ Tryz.underlying45 rfl hdDc) rfl ?_;rw[HTG.out];exact⟨((none,0),(A7,c7)),rfl,e1,e2,e3⟩
        · have xG:=fun W h=>HOC2.out W h
          rw[HRV.out,h3]at xG;simp only[if_true]at xG;have HTG:=qh (HT3.out h3);have hlt3:=zc5 HCX.out h3;have HOG:=qh xG;clear xG HT1 HT3 h1 h2 h3 HOC2 HRV HOV HAT
          go_wp2_with (first
           | (go_at_call 65;(with_reducible refine(HOG.out _ (by exact HP12.out.st)).mono ?_);rintro e w13 ⟨rfl,h13,hW13⟩;have HS13:=qh (HP12.out.call h13 hW13);clear h13 hW13)
           | (at_builtin;refine zaf rfl (.tmp 41) (.tmp 43) 43 rfl (w.heap.size+1) 80 12 168 Tryz.underlying43 ePl (.slice A1 l.length c1) l.length (zipC plC l sl) rr (by exact HS11.out.own.alloc _) (some ⟨w10.heap.size,0,none⟩) 1 1 (plC ⟨N1,E1,E2⟩ (a6,a8)) rr (by exact RdS.new w10 _ (plC ⟨N1,E1,E2⟩ (a6,a8)) 12 rfl) (za0 _ _) om om (by have:=HS11.out.wr.size;simp;omega) ?_;intro A7 c7 w12 hown7 hc7 hg7 hat7;have hb12:=(HS11.out.e.alloc (.cells (plC ⟨N1,E1,E2⟩ (a6,a8)).toArray 80)).grown (by exact hg7) (fun e=>HS11.out.ob _ e.symm rfl);have c12:=hb12.cell 8;have f12:=hb12.frozen 8;have G12:=hb12.lt;have HP12:=qh (HS11.out.push HY11.out (by exact hg7) hown7 hat7);clear hown7 hc7 hg7 hat7 hb12)
           | (refine za9 rfl 43 80 (.tmp 42) rfl (plC ⟨N1,E1,E2⟩ (a6,a8)) rr Tryz.underlying43 (by exact onePl ⟨N1,E1,E2⟩ (a6,a8)) (by rw[zba];omega) (by rw[zba];omega) ?_)
           | (refine zab rfl 39 (.tmp 39) (.tmp 38) rfl w3.heap.size 7 (exC E2 a8) rr rr 80 (plC ⟨N1,E1,zE⟩ (a6,pl0.2)) (by exact HP9.out.e) hdEx (zai E2 a8) (by show 7+5≤12;omega) ?_;intro w10 hb10 ho10;have HP10:Hid (RPq gp w3.heap.size A n c ts wr ⟨N1,E1,E2⟩ (a6,a8) qx w10):=HP9.out.put ho10 (by exact hb10) ⟨HP9.out.ar.1,HE9.out⟩;have HS11:=qh (HS.out.call HP10.out.st HP10.out.wr);have HY11:=qh (RDl.fr HS.out lr HP10.out.all);have hl11:=zao HP10.out.e 80 0 (plC ⟨N1,E1,E2⟩ (a6,a8)) rfl _ Tryz.underlying80 rfl hdPl;have c11:w10.cell? ⟨G,8,none⟩=some (.slice A1 l.length c1):=HS11.out.e.cell 8;have G11:G<w10.heap.size:=HS11.out.e.lt;clear hb10 ho10)
           | (go_at_call 66;(with_reducible refine(HD2.out _ (by exact HP8.out.st)).mono ?_);rintro e w9 ⟨a8,rfl,ha9,h9,hW9⟩;have HE9:=qh (RPq.fr HP8.out ha9);have HP9:=qh (HP8.out.call h9 hW9);clear ha9 h9 hW9)
           | (go_at_call 65;(with_reducible refine(HA2.out _ (by exact HP7.out.st)).mono ?_);rintro e w8 ⟨rfl,h8,hW8⟩;have HP8:=qh (HP7.out.call h8 hW8);clear h8 hW8)
           | (refine zab rfl 39 (.tmp 34) (.tmp 33) rfl w3.heap.size 2 (exC E1 a6) rr rr 80 (plC ⟨N1,zE,zE⟩ pl0) (by exact HP6.out.e) hdEx (zai E1 a6) (by show 2+5≤12;omega) ?_;intro w7 hb7 ho7;have HP7:Hid (RPq gp w3.heap.size A n c ts wr ⟨N1,E1,zE⟩ (a6,pl0.2) qa w7):=HP6.out.put ho7 (by exact hb7) ⟨HE6.out,HP6.out.ar.2⟩;clear hb7 ho7)
           | (go_at_call 66;(with_reducible refine(HD1.out _ (by exact HP5.out.st)).mono ?_);rintro e w6 ⟨a6,rfl,ha6,h6,hW6⟩;have HE6:=qh (RPq.fr HP5.out ha6);have HP6:=qh (HP5.out.call h6 hW6);clear ha6 h6 hW6)
           | (go_at_call 65;(with_reducible refine(HA1.out _ (by exact HP4.out.st)).mono ?_);rintro e w5 ⟨rfl,h5,hW5⟩;have HP5:=qh (HP4.out.call h5 hW5);clear h5 hW5)
           | (refine zaa rfl 80 (.tmp 6) (.tmp 29) rfl w3.heap.size (plC ⟨N1,zE,zE⟩ pl0) rr rr 80 (plC zPl pl0) (by exact Blk.new' rfl rfl) hdPl (za0 _ _) rfl ?_;intro w4 hb4 ho4;have HP4:Hid (RPq gp w3.heap.size A n c ts wr ⟨N1,zE,zE⟩ pl0 q1 w4):=⟨(H3.out.1.alloc _).only (HLO.out.mono HS.out.wr.size) H3.out.2.size ho4,Wr.newL (H3.out.2.alloc _) (Wr.onlyg (L:=[w3.heap.size]) ho4 sy) (fun g hg=>.inr (by simp at hg;have:=H3.out.2.size;omega)),hb4,PlIn.zero _ _ _,HLO.out.mono HS.out.wr.size,H3.out.2.size⟩;clear hb4 ho4)
           | refine zad rfl 80 [(0,.tmp 28)] rfl _ rr _ (zc7 N1 _) ?_
           | (go_at_call 62;(with_reducible refine(HNQ.out _ (by exact HS.out.st)).mono ?_);rintro e w3 ⟨rfl,h3,hW3⟩;have H3:=qh (And.intro h3 hW3);clear h3 hW3))
          have hk5:=HKL.out;have hi5:=HI3.out;have hi6:(rnx qx).i=qx.i+1:=rfl;go_roundg (gk-1)
          case measure=>omega
          case rel=>exact⟨l++[⟨N1,E1,E2⟩],sl++[(a6,a8)],A7,c7,rnx qx,by rw[la9];exact HS13.out,by omega,by rw[la9,List.length_singleton];omega,by rw[show gk-1+1=gk by omega];exact HTG.out,HQ3.out.rp rnx_p⟩
  · have HS:=qh hS
    rw[hs]at g4;have HRE:Hid (R=(l,q)):=hT.symm.trans ((HTL.out gk l q).1 hs);have HTT:=qh (fun W (h:RSt gp A n c ts q W)=>HT2.out q W h);clear hS hk hll hT hQ hs HTL HT2 HNM0 HAT HOV HRV
    go_wp2_with (first
     | (go_at_call 63;(with_reducible refine(HTT.out _ (by exact HS.out.st)).mono ?_);rintro e w14 ⟨rfl,h14,hW14⟩;have HS14:=qh (HS.out.call h14 hW14);have hl14:=zao HS14.out.e 45 0 (dlC k_route X (.slice A1 l.length c1)) rfl _ Tryz.underlying45 rfl hdDc;clear h14 hW14)
     | (refine zaa rfl 45 (.tmp 4) (.tmp 51) rfl w.heap.size (dlC k_route X (.slice A1 l.length c1)) rr rr 45 (dcC zDc pl0) (by exact HS14.out.z) hdDc (zfp _ _ _) rfl ?_;intro w15 hb15 ho15))
    obtain⟨e1,e2,e3⟩:=HS14.out.fin ho15;refine bodyPost_ret (res_c rfl _ w.heap.size 45 (dcC ⟨k_route,X,zE,l⟩ ((none,0),(A1,c1))) rfl hb15 _ Tryz.underlying45 rfl hdDc) rfl ?_;rw[HRE.out];exact⟨((none,0),(A1,c1)),rfl,e1,e2,e3⟩
end
end
end Go.Proofs.YtafjkbbiaopemaaGreatDoor.Tr
namespace Go.Proofs.YtafjkbbiaopemaaGreatDoor
open Go.RowKit
theorem zlx(body:Code)(hb:IsBody body)(s:ByteArray)(w wr:World)(R:Sum (List UInt8) (List Lx.Tok))(hs:s.size≤8000)(HR:Hid (R=Lx.scanF s.size (s.size+1) s.data.toList []))(HN:Hid (s.data.toList.length=s.size))
 (gk j:Nat) (ts:List Lx.Tok) (A:Option Addr) (c:Nat) (u:Nat→Value) (J:Nat→Act→World→Prop) (K K1:Act→World→Prop) (hJ:∀k a' w',RInv w s R k a' w'→J k a' w') (hK:∀a' w',Handed J gk a' w'→K a' w')
 (HGK:Hid (gk=s.size-j)) (HM:Hid (RMid w s R j ts A c wr)) (hle:j≤s.size) (hfew:ts.length≤j) (hgl:w.heap.size<wr.heap.size) (hlt:j<s.size) (x:UInt8) (hxx:s[j]=x) (HX:Hid (s.data.toList[j]? = some x)) (HBL:Hid (Lx.blank x=false)) (b1:((x.toNat:Int) == 32)=false) (b2:((x.toNat:Int) == 9)=false) (b3:((x.toNat:Int) == 10)=false) (e35:((x.toNat:Int) == 35)=false) (H35:Hid (x≠35)) (hown:wr.ownsRow (w.heap.size+1) 72 4 (.slice A ts.length c) ts.length (toksCells ts)) (hl:Lx.letter x=false) (hd:Lx.digit x=true):
 body.wp Tryz.prog (Exit.then K (Exit.inBlock 0 (Exit.then K1 (bodyPost Tryz.prog Tryz.f25 (ScanPost w (Lx.scan s.data.toList)))))) ⟨#[.string s,u 1,u 2,.pointer (some ⟨w.heap.size,0,none⟩),.slice A ts.length c,.int .i64 j,u 6,u 7,u 8,u 9,u 10,u 11,u 12,u 13,u 14,u 15,u 16,u 17,u 18,u 19,u 20,u 21,u 22,u 23,u 24,u 25,u 26,u 27,u 28,u 29,u 30,u 31,u 32,u 33,u 34,u 35,u 36,u 37,u 38,u 39,u 40,u 41,u 42,u 43,u 44,u 45,u 46,u 47,u 48,u 49,u 50,u 51,u 52,u 53,u 54,u 55,u 56,u 57,u 58,u 59,u 60,u 61,u 62,u 63,u 64,u 65,u 66,u 67,u 68,u 69,u 70,u 71,u 72,u 73,u 74,u 75,u 76,u 77,u 78,u 79,u 80,u 81,u 82,u 83,u 84,u 85,u 86,u 87,u 88,u 89,u 90,u 91,u 92,u 93,u 94,u 95,u 96,u 97,u 98,u 99,u 100,u 101,u 102,u 103,u 104,u 105,u 106,u 107,u 108,u 109,u 110,u 111,u 112,u 113,u 114,u 115,u 116,u 117,u 118,u 119,u 120,u 121,u 122,u 123,u 124,u 125,u 126,u 127,u 128,u 129,u 130,u 131,u 132,u 133,u 134,u 135,u 136,u 137,u 138,u 139,u 140,u 141,u 142,u 143,u 144,u 145,u 146,u 147,u 148,u 149,u 150,u 151,u 152,u 153,u 154,u 155,u 156,u 157,u 158,u 159,u 160,u 161,u 162,u 163,u 164,u 165,u 166,u 167,u 168,u 169,u 170,u 171,u 172,u 173,u 174,u 175,u 176,u 177,u 178,u 179,u 180,u 181,u 182,u 183,u 184,u 185,u 186,u 187,u 188,u 189,u 190,u 191,u 192,u 193,u 194,u 195,u 196],[]⟩ wr:=by
 unfold IsBody at hb
 conv at hb=>lhs;whnf
 injection hb with hb
 subst hb;have i1:(j:Int)<(s.size:Int):=om;have i0:(0:Int)≤(j:Int):=om;obtain⟨t,ht⟩:=ex9 ((s.data.toList.drop j).takeWhile Lx.digit);obtain⟨E,hE⟩:=ex9 (j+t.length);have htok:=zg1 HX.out hl hd;rw[←ht,←hE,zh8]at htok;have hEs:E≤s.size:=by have:=zg7 (p:=Lx.digit) (l:=s.data.toList) (i:=j) (by rw[HN.out];omega);rw[HN.out,←ht,←hE]at this;exact this
 have hjE:j<E:=by
  have:t≠[]:=by rw[ht,zah HX.out,List.takeWhile_cons_of_pos hd];simp
  have:=List.length_pos_iff.2 this;omega
 have hext:s.extract j E=bytesOf t:=by rw[zch,show E-j=t.length from by omega,ht,zem]
 have HTL:Hid (E-j=t.length):=by show _=_;omega
 have HEE:Hid (E=j+((s.data.toList.drop j).takeWhile Lx.digit).length):=by show _=_;rw[hE,ht]
 have HTT:Hid (t=(s.data.toList.drop j).take (E-j)):=by show _=_;rw[show E-j=t.length from by omega,ht,zem]
 have HTOKEN:=qh htok;clear htok ht hE
 go_wp2_with (first|(go_at_call 57;refine(za5 _ _).mono ?_;rintro e w' ⟨rfl,rfl⟩)| (go_at_call 58;refine(zbf _ _).mono ?_;rintro e w' ⟨rfl,rfl⟩))
 go_loop [7,10] (fun v u=>∃k N:Nat,j≤k∧k≤s.size∧v=.int .i64 k∧u=.int .i64 N∧N<1000000000∧Hid (k+((s.data.toList.drop k).takeWhile Lx.digit).length=E)∧Hid (N=Lx.numOf ((s.data.toList.drop j).take (min (k-j) 9)))∧Hid (∀c∈(s.data.toList.drop j).take (k-j),Lx.digit c=true)) (fun v _=>s.size-(intOf v).toNat)
 case atStart=>exact⟨j,0,lr,by omega,rfl,rfl,by omega,HEE.out.symm,by show _=_;simp[Lx.numOf],fun c hc=>by simp at hc⟩
 case round =>
  obtain⟨k,N,hjk,hk,rfl,rfl,hN9,HK,HNN,HDG⟩:=hrel
  have hcases:(k<s.size∧∃y,s.data.toList[k]? = some y∧Lx.digit y=true)∨(k=E∧(s.size≤k∨∃y,s.data.toList[k]? = some y∧Lx.digit y=false)):=by
   rcases Nat.lt_or_ge k s.size with h|h
   · have hy:=zbd s k h
     by_cases hp:Lx.digit s[k]=true
     · exact .inl ⟨h,_,hy,hp⟩
     · have hp':Lx.digit s[k]=false:=by simpa using hp
       refine .inr ⟨?_,.inr ⟨_,hy,hp'⟩⟩;have:=HK.out;rw[zgg hy hp']at this;omega
   · refine .inr ⟨?_,.inl h⟩
     have:=HK.out;rw[zin (by rw[HN.out];exact h)]at this;omega
  rcases hcases with ⟨hlt2,y,hy,hp⟩|⟨hkE,hout⟩
  · have j1:(k:Int)<(s.size:Int):=om
    have j0:(0:Int)≤(k:Int):=om;have HST:=qh (zgh hy hp);have hyy:s[k]=y:=by have:=zbd s k hlt2;rw[hy]at this;injection this with this;exact this.symm
    have hyd:(48:Int)≤(y.toNat:Int)∧(y.toNat:Int)≤57:=by have:=zc2 y;rw[hp]at this;simpa using this.symm
    obtain⟨y1,y2⟩:=hyd;have hyj:(s.data.toList.drop j)[k-j]? = some y:=by rw[List.getElem?_drop,show j+(k-j)=k from by omega];exact hy
    have HDG':Hid (∀c∈(s.data.toList.drop j).take (k+1-j),Lx.digit c=true):=fun c hc=>by
     rw[show k+1-j=k-j+1 from by omega,List.take_add_one,hyj]at hc
     rcases List.mem_append.1 hc with h|h
     · exact HDG.out c h
     · simp at h;rw[h];exact hp
    by_cases h9:k-j<9
    · have e9:decide ((k:Int)-(j:Int)<9)=true:=by simp;omega
      have HNS:=qh (zf6 _ _ _ hyj)
      have HNB:Hid (10*N+(y.toNat-48)<1000000000):=by
       show _<_
       have h1:=zgp _ HDG'.out;have h2:((s.data.toList.drop j).take (k+1-j)).length≤9:=by rw[List.length_take];omega
       have h3:=Nat.pow_le_pow_right (n:=10) om h2;rw[show k+1-j=k-j+1 from by omega,HNS.out]at h1;have h4:=HNN.out;rw[show min (k-j) 9=k-j from by omega]at h4;rw[←h4]at h1;rw[show k+1-j=k-j+1 from by omega]at h3;omega
      have HNN':Hid (10*N+(y.toNat-48)=Lx.numOf ((s.data.toList.drop j).take (min (k+1-j) 9))):=by
       show _=_
       rw[show min (k+1-j) 9=k-j+1 from by omega,HNS.out,HNN.out,show min (k-j) 9=k-j from by omega]
      clear hy hyj
      go_wp2_with (first|(go_at_call 57;refine(za5 _ _).mono ?_;rintro e w' ⟨rfl,rfl⟩)| (go_at_call 58;refine(zbf _ _).mono ?_;rintro e w' ⟨rfl,rfl⟩))
      go_round
      case rel=>exact⟨k+1,10*N+(y.toNat-48),by omega,by omega,by go_num,by first|go_num|exact congrArg (Value.int .i64) om,HNB.out,by show _=_;rw[←HK.out,HST.out];omega,HNN'.out,HDG'.out⟩
      case measure=>simp[intOf];omega
    · have e9:decide ((k:Int)-(j:Int)<9)=false:=by simp;omega
      have HNN':Hid (N=Lx.numOf ((s.data.toList.drop j).take (min (k+1-j) 9))):=by
       show _=_
       rw[show min (k+1-j) 9=min (k-j) 9 from by omega,HNN.out]
      clear hy hyj
      go_wp2_with (first|(go_at_call 57;refine(za5 _ _).mono ?_;rintro e w' ⟨rfl,rfl⟩)| (go_at_call 58;refine(zbf _ _).mono ?_;rintro e w' ⟨rfl,rfl⟩))
      go_round
      case rel=>exact⟨k+1,N,by omega,by omega,by go_num,rfl,hN9,by show _=_;rw[←HK.out,HST.out];omega,HNN'.out,HDG'.out⟩
      case measure=>simp[intOf];omega
  · have hcase:s.size≤k∨(∃h:k<s.size,Lx.digit s[k]=false):=by
     rcases hout with h|⟨y,hy,hp⟩
     · exact .inl h
     · have hk':k<s.size:=by have:=(gi9.1 hy).1;rw[HN.out]at this;exact this
       have:s[k]=y:=by have:=zbd s k hk';rw[hy]at this;injection this with this;exact this.symm
       exact .inr ⟨hk',by rw[this];exact hp⟩
    clear hout HK HDG;subst hkE
    have hc4:(decide ((9:Int)<(k:Int)-(j:Int))=true∨(decide ((9:Int)<(k:Int)-(j:Int))=false∧decide ((1:Int)<(k:Int)-(j:Int))=true∧((x.toNat:Int) == 48)=true))∧Hid ((decide (t.length>9)|| (decide (t.length>1) && x == 48))=true) ∨
        (decide ((9:Int)<(k:Int)-(j:Int))=false∧decide ((1:Int)<(k:Int)-(j:Int))=false∨(decide ((9:Int)<(k:Int)-(j:Int))=false∧decide ((1:Int)<(k:Int)-(j:Int))=true∧((x.toNat:Int) == 48)=false))∧Hid ((decide (t.length>9)|| (decide (t.length>1) && x == 48))=false)∧Hid (N=Lx.numOf t):=by
     have hTL:=HTL.out
     by_cases h9:t.length>9
     · exact .inl ⟨.inl (by simp;omega),by show _=_;simp[h9]⟩
     · have e9:decide ((9:Int)<(k:Int)-(j:Int))=false:=by simp;omega
       have hNt:N=Lx.numOf t:=by rw[HNN.out,HTT.out,show min (k-j) 9=k-j from by omega]
       by_cases h1:t.length>1
       · have e1:decide ((1:Int)<(k:Int)-(j:Int))=true:=by simp;omega
         by_cases h48:x=48
         · exact .inl ⟨.inr ⟨e9,e1,by rw[h48];rfl⟩,by show _=_;simp[h9,h1,h48]⟩
         · exact .inr ⟨.inr ⟨e9,e1,zat (k:=48) h48⟩,by show _=_;simp[h9,h48],hNt⟩
       · exact .inr ⟨.inl ⟨e9,by simp;omega⟩,by show _=_;simp[h9,h1],hNt⟩
    clear HNN
    rcases hc4 with ⟨hc,HC⟩|⟨hc,HC,HNT⟩
    · have HBD:Hid (R=.inl (s.data.toList.drop j)):=HM.out.res.trans (ze1 HX.out HBL.out H35.out (by rw[HTOKEN.out,HC.out];rfl))
      rcases hc with a1|⟨a1,a2,a3⟩ <;> rcases hcase with h|⟨h,b⟩
      all_goals
        go_wp2_with (first|(go_at_call 57;refine(za5 _ _).mono ?_;rintro e w' ⟨rfl,rfl⟩)| (go_at_call 58;refine(zbf _ _).mono ?_;rintro e w' ⟨rfl,rfl⟩)| (at_builtin;refine zaf rfl (.tmp 147) (.tmp 155) _ rfl (w.heap.size+1) 72 4 40 Tryz.underlying65 eTok (.slice A ts.length c) ts.length (toksCells ts) rr (by exact hown.alloc _) (some ⟨wr.heap.size,0,none⟩) 1 1 [.int .i64 3,.string (bytesOf t),.int .i64 N,.int .i64 j] rr (by exact RdS.new wr _ [.int .i64 3,.string (bytesOf t),.int .i64 N,.int .i64 j] 4 rfl) (by simp[Value.oneCell']) om om (by simp;omega) ?_;intro A2 c2 w3 hown2 hc2 hg2 hat2;obtain⟨hB3,hf3⟩:=za8 hown (HM.out.bel.alloc HM.out.bel.size _) (HM.out.ft.alloc _) hg2;have d0:w3.cell? ⟨w.heap.size,0,none⟩=some (.int .i64 0):=(hf3.cell 0);have d1:w3.cell? ⟨w.heap.size,1,none⟩=some (.int .i64 0):=(hf3.cell 1);have f0:=hf3.frozen 0;have f1:=hf3.frozen 1))
        refine bodyPost_ret (zav rfl _ w.heap.size 29 [.int .i64 9,.int .i64 j] rfl ((hf3.set_ 0 _).set_ 1 _) _ Tryz.underlying29 rfl hd48) rfl ?_;exact zcs hs HR.out HBD.out (by simp;omega) ((hB3.setCell lr _).setCell lr _)
    · by_cases hlet:∃h:k<s.size,Lx.letter s[k]=true
      · obtain⟨h,hle2⟩:=hlet
        have j1:(k:Int)<(s.size:Int):=om;have j0:(0:Int)≤(k:Int):=om;have hy:=zbd s k h;have HBD:Hid (R=.inl (s.data.toList.drop k)):=HM.out.res.trans (ze1 HX.out HBL.out H35.out (by rw[HTOKEN.out,HC.out,hy];simp[hle2]))
        have hdg:Lx.digit s[k]=false:=by
         rcases hcase with h' | ⟨_,b⟩
         · omega
         · exact b
        clear hcase hy
        rcases hc with ⟨a1,a2⟩|⟨a1,a2,a3⟩
        all_goals
          go_wp2_with (first|(go_at_call 57;refine(za5 _ _).mono ?_;rintro e w' ⟨rfl,rfl⟩)| (go_at_call 58;refine(zbf _ _).mono ?_;rintro e w' ⟨rfl,rfl⟩)| (at_builtin;refine zaf rfl (.tmp 147) (.tmp 155) _ rfl (w.heap.size+1) 72 4 40 Tryz.underlying65 eTok (.slice A ts.length c) ts.length (toksCells ts) rr (by exact hown.alloc _) (some ⟨wr.heap.size,0,none⟩) 1 1 [.int .i64 3,.string (bytesOf t),.int .i64 N,.int .i64 j] rr (by exact RdS.new wr _ [.int .i64 3,.string (bytesOf t),.int .i64 N,.int .i64 j] 4 rfl) (by simp[Value.oneCell']) om om (by simp;omega) ?_;intro A2 c2 w3 hown2 hc2 hg2 hat2;obtain⟨hB3,hf3⟩:=za8 hown (HM.out.bel.alloc HM.out.bel.size _) (HM.out.ft.alloc _) hg2;have d0:w3.cell? ⟨w.heap.size,0,none⟩=some (.int .i64 0):=(hf3.cell 0);have d1:w3.cell? ⟨w.heap.size,1,none⟩=some (.int .i64 0):=(hf3.cell 1);have f0:=hf3.frozen 0;have f1:=hf3.frozen 1))
          refine bodyPost_ret (zav rfl _ w.heap.size 29 [.int .i64 9,.int .i64 k] rfl ((hf3.set_ 0 _).set_ 1 _) _ Tryz.underlying29 rfl hd48) rfl ?_;exact zcs hs HR.out HBD.out (by simp;omega) ((hB3.setCell lr _).setCell lr _)
      · have HTK:Hid (scr s.data.toList s.size j ts=scr s.data.toList s.size k (ts++[⟨3,t,N,j⟩])):=(zgc HN.out HX.out HBL.out H35.out (by
         rw[HTOKEN.out,HC.out,HNT.out]
         have:Option.any Lx.letter s.data.toList[k]? = false:=by
          rcases Nat.lt_or_ge k s.size with h|h
          · rw[zbd s k h]
            simp only[Option.any_some]
            cases hq:Lx.letter s[k]with
            | false=>rfl
            | true=>exact absurd ⟨h,hq⟩ hlet
          · rw[List.getElem?_eq_none (by rw[HN.out];exact h)];rfl
         rw[this];rfl) om).2
        have hcase':s.size≤k∨(∃h:k<s.size,Lx.digit s[k]=false∧Lx.letter s[k]=false):=by
         rcases hcase with h|⟨h,b⟩
         · exact .inl h
         · exact .inr ⟨h,b,by cases hq:Lx.letter s[k]with
            | false=>rfl
            | true=>exact absurd ⟨h,hq⟩ hlet⟩
        clear hcase hlet
        rcases hc with ⟨a1,a2⟩|⟨a1,a2,a3⟩ <;> rcases hcase' with h|⟨h,b,b'⟩
        all_goals
          go_wp2_with (first|(go_at_call 57;refine(za5 _ _).mono ?_;rintro e w' ⟨rfl,rfl⟩)| (go_at_call 58;refine(zbf _ _).mono ?_;rintro e w' ⟨rfl,rfl⟩)| (at_builtin;refine zaf rfl (.tmp 147) (.tmp 155) _ rfl (w.heap.size+1) 72 4 40 Tryz.underlying65 eTok (.slice A ts.length c) ts.length (toksCells ts) rr (by exact hown.alloc _) (some ⟨wr.heap.size,0,none⟩) 1 1 [.int .i64 3,.string (bytesOf t),.int .i64 N,.int .i64 j] rr (by exact RdS.new wr _ [.int .i64 3,.string (bytesOf t),.int .i64 N,.int .i64 j] 4 rfl) (by simp[Value.oneCell']) om om (by simp;omega) ?_;intro A2 c2 w3 hown2 hc2 hg2 hat2;obtain⟨hB3,hf3⟩:=za8 hown (HM.out.bel.alloc HM.out.bel.size _) (HM.out.ft.alloc _) hg2;have d0:w3.cell? ⟨w.heap.size,0,none⟩=some (.int .i64 0):=(hf3.cell 0);have d1:w3.cell? ⟨w.heap.size,1,none⟩=some (.int .i64 0):=(hf3.cell 1);have f0:=hf3.frozen 0;have f1:=hf3.frozen 1))
          clear d0 d1 f0 f1;refine Handed.intro (s.size-(k)) ?_ (hJ _ _ _ ⟨k,ts++[⟨3,t,N,j⟩],A2,c2,rfl,HM.out.app (t:=⟨3,t,N,j⟩) (HM.out.ft.alloc _) (HM.out.bel.alloc HM.out.bel.size _) om om hg2 hown2 HTK.out,rfl,rfl,rfl,rfl,by rw[la9];rfl,by show Value.int _ _=_;first|rfl|go_num⟩);have:=HGK.out;omega
theorem ziu(s:ByteArray)(w:World)(hs:s.size≤8000):Calls Tryz.prog 25 #[.string s] w (ScanPost w (Lx.scan s.data.toList)):=by
 obtain⟨R,hR⟩:=ex9 (Lx.scanF s.size (s.size+1) s.data.toList []);have HR:=qh hR;have e1:decide ((8000:Int)<(s.size:Int))=false:=by simp;omega
 clear hR;have HN:Hid (s.data.toList.length=s.size):=by show _=_;simp
 go_enter Tryz.func25, Tryz.ntmps25
 go_wp2_with fail
 refine wp_loop_ghost_k (RInv w s R) s.size ⟨0,[],none,0,rfl,⟨World.ownsRow_nil _ _ _ _,Blk.new' rfl rfl,(Below.refl _ _).alloc lr _,Nat.zero_le _,lr,HR.out⟩,rfl,rfl,rfl,rfl,rfl,rfl⟩ ?_;intro gk a wr hI J K hJ hK;obtain⟨j,ts,A,c,hgk,hM,hdf,hsz,h0,h3,h4,h5⟩:=hI;obtain⟨tm,df⟩:=a;obtain⟨u,hu,htm⟩:=frame197 tm hsz;simp only at hdf h0 h3 h4 h5;rw[←hu]at h0 h3 h4 h5;subst hdf;rw[h0,h3,h4,h5]at htm;subst htm;clear hu hsz h0 h3 h4 h5;have HGK:=qh hgk;have HM:=qh hM;have hle:=hM.le;have hfew:=hM.few;have hgl:w.heap.size<wr.heap.size:=hM.ft.lt;have hown:=hM.own;clear hgk hM
 by_cases hlt:j<s.size
 · have hx:=zbd s j hlt
   obtain⟨x,hxx⟩:∃x,s[j]=x:=⟨_,rfl⟩;rw[hxx]at hx;have HX:=qh hx
   by_cases hbl:Lx.blank x=true
   · exact zly _ (by unfold IsBody;rfl) s w wr R hs HR HN gk j ts A c u J K _ hJ hK HGK HM hle hfew hgl hlt x hxx HX hbl
   · have hbl':Lx.blank x=false:=by simpa using hbl
     have hnb:((x.toNat:Int) == 32)=false∧((x.toNat:Int) == 9)=false∧((x.toNat:Int) == 10)=false:=by
      refine⟨zat (k:=32) fun e=>?_,zat (k:=9) fun e=>?_,zat (k:=10) fun e=>?_⟩ <;> (subst e;revert hbl';decide)
     obtain⟨b1,b2,b3⟩:=hnb;have HBL:=qh hbl'
     by_cases h35:x=35
     · exact zqj _ (by unfold IsBody;rfl) s w wr R hs HR HN gk j ts A c u J K _ hJ hK HGK HM hle hfew hgl hlt x hxx HX HBL b1 b2 b3 h35
     · have e35:((x.toNat:Int) == 35)=false:=zat (k:=35) h35
       by_cases hl:Lx.letter x=true
       · exact zjc _ (by unfold IsBody;rfl) s w wr R hs HR HN gk j ts A c u J K _ hJ hK HGK HM hle hfew hgl hlt x hxx HX HBL b1 b2 b3 e35 h35 hown hl
       · have hl':Lx.letter x=false:=by simpa using hl
         by_cases hd:Lx.digit x=true
         · exact zlx _ (by unfold IsBody;rfl) s w wr R hs HR HN gk j ts A c u J K _ hJ hK HGK HM hle hfew hgl hlt x hxx HX HBL b1 b2 b3 e35 h35 hown hl' hd
         · have hd':Lx.digit x=false:=by simpa using hd
           by_cases h34:x=34
           · exact zoc _ (by unfold IsBody;rfl) s w wr R hs HR HN gk j ts A c u J K _ hJ hK HGK HM hle hfew hgl hlt x hxx HX HBL b1 b2 b3 e35 h35 hown hl' hd' h34
           · exact zod _ (by unfold IsBody;rfl) s w wr R hs HR HN gk j ts A c u J K _ hJ hK HGK HM hle hfew hgl hlt x hxx HX HBL b1 b2 b3 e35 h35 hown hl' hd' h34
 · have hge:s.size≤j:=om
   have HE:=qh (HM.out.res.trans (zri HN.out hge))
   go_wp2_with (at_builtin;refine zaf rfl (.tmp 190) (.tmp 194) _ rfl (w.heap.size+1) 72 4 40 Tryz.underlying65 eTok (.slice A ts.length c) ts.length (toksCells ts) rr (by exact hown.alloc _) (some ⟨wr.heap.size,0,none⟩) 1 1 [.int .i64 6,.string (bytesOf []),.int .i64 0,.int .i64 s.size] rr (by exact RdS.new wr _ [.int .i64 6,.string (bytesOf []),.int .i64 0,.int .i64 s.size] 4 rfl) (by simp[Value.oneCell']) om om (by simp;omega) ?_;intro A2 c2 w3 hown2 hc2 hg2 hat2;obtain⟨hB3,hf3⟩:=za8 hown (HM.out.bel.alloc HM.out.bel.size _) (HM.out.ft.alloc _) hg2;have d0:w3.cell? ⟨w.heap.size,0,none⟩=some (.int .i64 0):=by rw[hf3.cell];rfl
                have d1:w3.cell? ⟨w.heap.size,1,none⟩=some (.int .i64 0):=by rw[hf3.cell];rfl
                have f0:=hf3.frozen 0
                have f1:=hf3.frozen 1)
   have hsc:=zjz hs (HR.out.symm.trans HE.out);refine bodyPost_ret (zav rfl _ w.heap.size 29 [.int .i64 0,.int .i64 0] rfl ((hf3.set_ 0 _).set_ 1 _) _ Tryz.underlying29 rfl hd48) rfl ?_;rw[hsc];have hlen:(ts++[(⟨6,[],0,s.size⟩:Lx.Tok)]).length=ts.length+1:=by simp
   have ho:Only w3 ((w3.setCell ⟨w.heap.size,0,none⟩ (.int .i64 0)).setCell ⟨w.heap.size,1,none⟩ (.int .i64 0)) w.heap.size:=((Only.refl w3 w.heap.size).setCell 0 _).setCell 1 _;have hown4:=zkg (hown2.kept ho.grown (.inr (zb0 hown2 hf3 (by decide)))) (Nat.le_succ w.heap.size);refine⟨A2,c2,by simp only[hlen];rfl,by rw[hlen];exact hc2,by rw[hlen,zb1];exact hown4,?_⟩;exact ho.below hB3 lr (Nat.le_of_lt hf3.lt)
theorem zmm(s:ByteArray)(w:World):Calls Tryz.prog 25 #[.string s] w (ScanPost w (Lx.scan s.data.toList)):=by
 by_cases h:s.size≤8000
 · exact ziu s w h
 · exact zml s w om
theorem zj3(s:ByteArray)(w:World){p q n:Nat}{ts:List Lx.Tok}(h:Lx.scan s.data.toList=((p,q),ts))(hn:ts.length=n):
 Calls Tryz.prog 25 #[.string s] w fun e w'=>∃A c,e=.returned (.tuple #[.slice A n c,.agg #[.int .i64 p,.int .i64 q]])∧n≤c∧w'.ownsRow w.heap.size 72 4 (.slice A n c) n (toksCells ts)∧Below w.heap.size w w':=by
 subst hn;have:=zmm s w;rw[h]at this;exact this
end Go.Proofs.YtafjkbbiaopemaaGreatDoor
namespace Go.Proofs.YtafjkbbiaopemaaGreatDoor.Tr
open Go.RowKit
def RPaK(s:ByteArray)(R:Sr × (Int × Int))(w:World):Prop :=
 Calls Tryz.prog 10 #[.string s] w fun e w'=>∃B d A c,e=.returned (.tuple #[.agg #[.slice B R.1.decls.length d,.slice A R.1.body.length c],.agg #[.int .i64 R.2.1,.int .i64 R.2.2]])∧DcsIn (Fr w.heap.size) w' B R.1.decls∧BodyIn (Fr w.heap.size) w' A R.1.body∧Below w.heap.size w w'
def rpaS(ts:List Lx.Tok)(q:RS):RS:=if (rk ts q).kind≠6 then rstop ts 9 q else q
def rpaR(ts:List Lx.Tok)(l:List Dc)(B:List St × RS):Sr × (Int × Int):=if (rpaS ts B.2).bad then (⟨[],[]⟩,((rpaS ts B.2).fe,(rpaS ts B.2).fa)) else (⟨l,B.1⟩,(0,0))
theorem rpa_eq(ts:List Lx.Tok):rparseT ts=rpaR ts (rdeclLoop ts (ts.length+1) [] r0).1 (rstmts ts (rstmt ts 14) (rdeclLoop ts (ts.length+1) [] r0).2):=rfl
theorem RQ0:RQ 14 r0:=⟨by decide,by decide,by decide,fun _=>⟨by decide,by decide⟩⟩
theorem RQS0:RQS 14 r0:=⟨RQ0,by decide,by decide,by decide,fun _=>⟨by decide,by decide⟩⟩
theorem zm9{gp:Nat}{A:Option Addr}{n c:Nat}{ts:List Lx.Tok}{s:RS}{w:World}(cx:RCx gp A n ts)(h:RSt gp A n c ts s w)(hq:RQ 14 s)(K:ByteArray)(hK:K=k_let∨K=k_route):RDeK gp A n c ts K s w:=by
 rcases hK with hK|hK
 · exact zm8 cx h hq K hK
 · exact ziw cx h hq K hK
theorem zka{ts:List Lx.Tok}{T:ByteArray}{s:RS}(h:rIs ts T s=true):bytesOf (rk ts s).text=T:=by
 unfold rIs isOf at h
 simp only[Bool.and_eq_true]at h;have:=zbz.1 h.2.2
 simpa using this
theorem zmq(s:ByteArray){p q:Nat}{ts:List Lx.Tok}(hsc:Lx.scan s.data.toList=((p,q),ts))(hp:p≠0)(w:World):RPaK s (⟨[],[]⟩,((p:Int),(q:Int))) w:=by
 unfold RPaK
 have HNS:=qh (fun W=>zj3 s W hsc (n:=ts.length) rfl);have hpn:((p:Int) != 0)=true:=by rw[bne_iff_ne];omega
 have HZ0:Hid (∀W,Below (w.heap.size+2) ((w.alloc (.cells #[.slice none 0 0,.slice none 0 0] 26)).alloc (.cells #[.int .i64 0,.int .i64 0] 29)) W→Blk W w.heap.size 26 [.slice none 0 0,.slice none 0 0]∧Blk W (w.heap.size+1) 29 [.int .i64 0,.int .i64 0]∧Below w.heap.size w W∧w.heap.size+2≤W.heap.size):=fun W hW =>
  ⟨((Blk.new w _ _).alloc _).below hW om,(Blk.new' sy rfl).below hW om,(((Below.refl w.heap.size w).alloc lr _).alloc sy _).trans (hW.mono om),by have:=hW.size;simp at this;omega⟩
 clear hsc hp;generalize (p:Int)=P at *;generalize (q:Int)=Q at *
 go_enter Tryz.func10, Tryz.ntmps10
 go_upto_region 3 with (go_at_call 25;(refine(HNS.out _).mono ?_);rintro e w2 ⟨A2,c2,rfl,_,_,hB2⟩;have HB2:=qh (HZ0.out w2 (by simpa using hB2));clear hB2)
 have HB3:Hid (Blk (w2.alloc (.cells #[.int .i64 P,.int .i64 Q] 29)) w.heap.size 26 [.slice none 0 0,.slice none 0 0]∧Blk (w2.alloc (.cells #[.int .i64 P,.int .i64 Q] 29)) (w.heap.size+1) 29 [.int .i64 0,.int .i64 0]∧Below w.heap.size w (w2.alloc (.cells #[.int .i64 P,.int .i64 Q] 29))∧Blk (w2.alloc (.cells #[.int .i64 P,.int .i64 Q] 29)) w2.heap.size 29 [.int .i64 P,.int .i64 Q]∧w.heap.size+2≤w2.heap.size) :=
  ⟨HB2.out.1.alloc _,HB2.out.2.1.alloc _,HB2.out.2.2.1.alloc HB2.out.2.2.1.size _,Blk.new _ _ _,HB2.out.2.2.2⟩
 generalize w2.alloc (.cells #[.int .i64 P,.int .i64 Q] 29)=w3 at *;generalize w2.heap.size=G at *;clear HB2 HNS HZ0;obtain⟨n0,n1,f0,f1⟩:=Blk.two HB3.out.2.2.2.1;obtain⟨x0,x1,k0,k1⟩:=Blk.two HB3.out.1;obtain⟨y0,y1,m0,m1⟩:=Blk.two HB3.out.2.1;have hne1:¬G=w.heap.size:=by have:=HB3.out.2.2.2.2;omega
 have hne2:¬G=w.heap.size+1:=by have:=HB3.out.2.2.2.2;omega
 go_region
 go_wp2;have HZ:=HB3.out;refine bodyPost_ret (zd3 rfl _ w.heap.size (w.heap.size+1) 26 29 [.slice none 0 0,.slice none 0 0] [.int .i64 P,.int .i64 Q] rfl rfl (by exact((((HZ.1.set_ 0 _).set_ 1 _).far sy _).far sy _).drew) (by exact((((HZ.2.1.far sy _).far sy _).set_ 0 _).set_ 1 _).drew) _ _ Tryz.underlying26 rfl hdSr Tryz.underlying29 rfl hd48) rfl ?_;exact⟨none,0,none,0,rfl,DcsIn.nil _ _ _,BodyIn.nil _ _ _,((((HZ.2.2.1.setCell sy _).setCell sy _).setCell sy _).setCell sy _).drew⟩
theorem zla(s:ByteArray)(ts:List Lx.Tok)(hsc:Lx.scan s.data.toList=((0,0),ts))(w:World):RPaK s (rparseT ts) w:=by
 obtain⟨hen,h0,hn81,_,_⟩:=zee hsc;have hn8:ts.length≤100000:=om
 unfold RPaK
 have HNS:=qh (fun W=>zj3 s W hsc (n:=ts.length) rfl);have HDL:=qh (fun(kk:Nat) (l:List Dc) (q:RS)=>(⟨fun h h2=>(by rw[rdeclLoop,if_neg (by rw[h,h2];simp)]),fun h=>(by rw[rdeclLoop,if_pos h])⟩:(rIs ts k_let q=false→rIs ts k_route q=false→rdeclLoop ts (kk+1) l q=(l,q))∧((rIs ts k_let q || rIs ts k_route q)=true→rdeclLoop ts (kk+1) l q=rdeclLoop ts kk (l++[(rdecl ts (bytesOf (rk ts q).text) (rnx q)).1]) (rdecl ts (bytesOf (rk ts q).text) (rnx q)).2)));have HGN:=qh hen;rw[rpa_eq];generalize hR1:rdeclLoop ts (ts.length+1) [] r0=R1 at *;have HR1:=qh hR1;clear hsc hen hR1 hn81
 have HZ0:Hid (∀W,Below (w.heap.size+2) ((w.alloc (.cells #[.slice none 0 0,.slice none 0 0] 26)).alloc (.cells #[.int .i64 0,.int .i64 0] 29)) W→Blk W w.heap.size 26 [.slice none 0 0,.slice none 0 0]∧Blk W (w.heap.size+1) 29 [.int .i64 0,.int .i64 0]∧Below w.heap.size w W∧w.heap.size+2≤W.heap.size):=fun W hW =>
  ⟨((Blk.new w _ _).alloc _).below hW om,(Blk.new' sy rfl).below hW om,(((Below.refl w.heap.size w).alloc lr _).alloc sy _).trans (hW.mono om),by have:=hW.size;simp at this;omega⟩
 go_enter Tryz.func10, Tryz.ntmps10
 go_wp2_with (go_at_call 25;(refine(HNS.out _).mono ?_);rintro e w2 ⟨A2,c2,rfl,_,hst2,hB2⟩;have HST2:=qh (RdS.ofOwn3 hst2);have HB2:=qh (HZ0.out w2 (by simpa using hB2));clear hst2 hB2)
 obtain⟨gp,hgp⟩:=ex9 (w2.heap.size+1);obtain⟨G,hG⟩:=ex9 (gp+1);obtain⟨W3,hW3⟩:=ex9 ((((w2.alloc (.cells #[.int .i64 0,.int .i64 0] 29)).alloc (.cells #[.slice A2 ts.length c2,.int .i64 0,.int .i64 0,.int .i64 0,.bool false,.int .i64 0,.int .i64 0] 70)).alloc (.cells #[.slice none 0 0,.slice none 0 0] 26)));rw[←hW3];rw[←hgp,←hG]
 have HAL:∀ad:Addr,A2=some ad→ad.block<w2.heap.size:=fun ad e=>by
  obtain⟨b,off,e2,hb,_⟩:=HST2.out.2 h0;rw[e]at e2
  injection e2 with e2
  subst e2;exact hb
 have HCX:Hid (RCx gp A2 ts.length ts):=⟨fun ad e=>by have:=HAL ad e;omega,rfl,hn8,HGN.out⟩
 have HT3:Hid (RDp gp G A2 ts.length c2 ts W3 [] [] (.slice none 0 0) r0 W3):=by
  subst hW3 hgp hG;exact⟨⟨(Blk.new' sy rfl).alloc _,HST2.out.below (((( Below.refl w2.heap.size w2).alloc lr _).alloc sy _).alloc (by simp;omega) _),h0⟩,Wr.refl _ _,Blk.new' sy rfl,World.ownsRow_nil _ _ _ _,rfl,fun i s p h=>by simp at h,⟨by omega,fun ad e=>by have:=HAL ad e;omega⟩,by simp⟩
 have HB3:Hid (Below w.heap.size w W3∧w.heap.size+2≤gp∧Blk W3 w.heap.size 26 [.slice none 0 0,.slice none 0 0]∧Blk W3 (w.heap.size+1) 29 [.int .i64 0,.int .i64 0]):=by
  obtain⟨h1,h2,h3,h4⟩:=HB2.out;have h5:=h3.size;subst hW3;exact⟨(((h3.alloc h5 _).alloc (by simp;omega) _).alloc (by simp;omega) _),by omega,((h1.alloc _).alloc _).alloc _,((h2.alloc _).alloc _).alloc _⟩
 clear HAL hgp HNS HZ0 HST2 HB2 HGN hW3 hG;have HIS:=qh (fun T q W (h:RSt gp A2 ts.length c2 ts q W)=>is_c T HCX.out h);have HNW:=qh (fun q W (h:RSt gp A2 ts.length c2 ts q W)=>now_c HCX.out h)
 go_loopg [8] ts.length (fun kk v8 wr=>∃(l:List Dc) (sl:List plA) (A1:Option Addr) (c1:Nat) (q:RS),Hid (RDp gp G A2 ts.length c2 ts W3 l sl (.slice A1 l.length c1) q wr)∧Hid (ts.length≤kk+q.i∧l.length≤q.i∧rdeclLoop ts (kk+1) l q=R1∧RP r0 q))
 case atStart=>exact⟨[],[],none,0,r0,HT3,⟨by omega,by simp,HR1.out,RP.refl _⟩⟩
 case round =>
  clear HT3 HR1;obtain⟨l,sl,A1,c1,q,HS,HL⟩:=hrel
  cases hs:rIs ts k_let q
  · cases hs2:rIs ts k_route q
    · have h1:=fun W h=>HIS.out k_let q W h
      have h2:=fun W h=>HIS.out k_route q W h
      rw[hs]at h1;rw[hs2]at h2;have HI1:=qh h1;have HI2:=qh h2;have e1:R1=(l,q):=HL.out.2.2.1.symm.trans ((HDL.out gk l q).1 hs hs2);have HST:=qh (fun W (h:RSt gp A2 ts.length c2 ts q W)=>zl9 HCX.out (rstmt ts 14) 14 (zhj HCX.out 14) (ze4 14) (fun s _ _=>zhk 13 s) q W h (fun _=>RQS0.rp HL.out.2.2.2));clear hs hs2 HDL HL h1 h2;subst e1
      rcases hBB:rstmts ts (rstmt ts 14) q with ⟨L2,q2⟩
      rw[hBB]at HST;have HBB:=qh hBB;clear hBB
      go_upto_region 10 with (first
       | (go_at_call 26;(with_reducible refine(HI2.out _ (by exact HS4.out.st)).mono ?_);rintro e w5 ⟨rfl,hB5⟩;have HS5:=qh (HS4.out.call (HS4.out.st.below hB5) (Wr.of_below hB5));clear hB5)
       | (go_at_call 26;(with_reducible refine(HI1.out _ (by exact HS.out.st)).mono ?_);rintro e w4 ⟨rfl,hB4⟩;have HS4:=qh (HS.out.call (HS.out.st.below hB4) (Wr.of_below hB4));clear hB4))
      go_upto_region 11 with (go_at_call 29;(refine(HST.out _ (by exact HS5.out.st)).mono ?_);rintro e w6 ⟨A3,c3,rfl,hr6,h6,hW6⟩;have HS6:=qh (HS5.out.call h6 hW6);have HR6:=qh (hr6.keep (zar HS5.out.wr.size));have n1:w6.cell? ⟨G,1,none⟩=some (.slice none 0 0):=HS6.out.e.cell 1;have f1:=HS6.out.e.frozen 1;have g1:=HS6.out.e.lt;clear hr6 h6 hW6)
      have HJ:Hid (RSt gp A2 ts.length c2 ts q2 (w6.setCell ⟨G,1,none⟩ (.slice A3 L2.length c3))∧Blk (w6.setCell ⟨G,1,none⟩ (.slice A3 L2.length c3)) G 26 [.slice A1 l.length c1,.slice A3 L2.length c3]∧DcsIn (Fr W3.heap.size) (w6.setCell ⟨G,1,none⟩ (.slice A3 L2.length c3)) A1 l∧BodyIn (Fr W3.heap.size) (w6.setCell ⟨G,1,none⟩ (.slice A3 L2.length c3)) A3 L2∧Wr [gp,G] W3 (w6.setCell ⟨G,1,none⟩ (.slice A3 L2.length c3))∧gp<G∧G<W3.heap.size):=by
       obtain⟨A9,c9,e9,h9⟩:=HS6.out.fin
       injection e9 with e9 _ e10
       subst e9 e10;have hGl:=HS6.out.lt;exact⟨HS6.out.st.setNew HS6.out.lo (p:=⟨G,1,none⟩) lr _,HS6.out.e.set_ 1 _,h9.keep (zam hGl _),HR6.out.keep (zam hGl _),HS6.out.wr.setCell sy _,HS6.out.lo.1,hGl⟩
      clear HS HS4 HS5 HS6 HR6 HST n1 f1 g1;generalize w6.setCell ⟨G,1,none⟩ (.slice A3 L2.length c3)=w7 at *;have HNQ:=qh (fun W h=>HNW.out q2 W h)
      have HBL:Hid (∀W,Wr [gp,G] W3 W→Blk W w.heap.size 26 [.slice none 0 0,.slice none 0 0]∧Blk W (w.heap.size+1) 29 [.int .i64 0,.int .i64 0]∧Below w.heap.size w W):=fun W hw=>by
       obtain⟨b1,b3,b4,b5⟩:=HB3.out;have h1:=HJ.out.2.2.2.2.2.1;exact⟨(hw.block _ b4.lt (fun hm=>by simp only[List.mem_cons,List.not_mem_nil,or_false]at hm;omega)).trans b4,(hw.block _ b5.lt (fun hm=>by simp only[List.mem_cons,List.not_mem_nil,or_false]at hm;omega)).trans b5,hw.below b1 (fun g hg=>by simp only[List.mem_cons,List.not_mem_nil,or_false]at hg;omega) b1.size⟩
      by_cases hk6:(rk ts q2).kind=6
      · have hpa:rpaS ts q2=q2:=by unfold rpaS;rw[if_neg (by rw[hk6];simp)]
        have hki:((rk ts q2).kind:Int)=6:=om
        cases hb:q2.bad
        · have HRE:Hid (rpaR ts (l,q).1 (rstmts ts (rstmt ts 14) (l,q).2)=(⟨l,L2⟩,(0,0))):=(by show rpaR ts l (rstmts ts (rstmt ts 14) q)=_;rw[HBB.out];unfold rpaR;dsimp only;rw[hpa,if_neg (by rw[hb];simp)])
          have hbw:∀W,RSt gp A2 ts.length c2 ts q2 W→W.cell? ⟨gp,4,none⟩=some (.bool false):=fun W h=>by rw[←hb];exact h.b.cell 4
          have HBW:=qh hbw
          unfold tokCells at HNQ
          rw[hki]at HNQ;clear hbw hpa hk6 hki hb HNW HIS;generalize rk ts q2=t at *;have hf:=fld0 (.int .i64 6) (.string (bytesOf t.text)) (.int .i64 t.num) (.int .i64 t.at_)
          go_wp2_with (go_at_call 27;(refine(HNQ.out _ (by exact HJ.out.1)).mono ?_);rintro e w8 ⟨rfl,hB8⟩
                       have HJ8:Hid (RSt gp A2 ts.length c2 ts q2 w8∧Blk w8 G 26 [.slice A1 l.length c1,.slice A3 L2.length c3]∧DcsIn (Fr W3.heap.size) w8 A1 l∧BodyIn (Fr W3.heap.size) w8 A3 L2∧Wr [gp,G] W3 w8) :=
                        ⟨HJ.out.1.below hB8,HJ.out.2.1.below hB8 HJ.out.2.1.lt,HJ.out.2.2.1.keep ⟨hB8.size,fun k _ hk=>hB8.block k hk,fun _ h _=>h⟩,HJ.out.2.2.2.1.keep ⟨hB8.size,fun k _ hk=>hB8.block k hk,fun _ h _=>h⟩,HJ.out.2.2.2.2.1.trans (Wr.of_below hB8)⟩
                       have HX8:=qh (HBL.out w8 HJ8.out.2.2.2.2);have g4:=HBW.out w8 HJ8.out.1;have gl:=HJ8.out.1.b.lt;obtain⟨n0,n1,f0,f1⟩:=Blk.two HJ8.out.2.1;have hGl:=HJ8.out.2.1.lt;obtain⟨x0,x1,k0,k1⟩:=Blk.two HX8.out.1;obtain⟨y0,y1,m0,m1⟩:=Blk.two HX8.out.2.1;have hne1:¬G=w.heap.size:=by have:=HJ.out.2.2.2.2.2.1;have:=HB3.out.2.1;omega
                       have hne2:¬G=w.heap.size+1:=by have:=HJ.out.2.2.2.2.2.1;have:=HB3.out.2.1;omega
                       clear hB8)
          have hl3:w.heap.size+2<W3.heap.size:=by have:=HJ.out.2.2.2.2.2;have:=HB3.out.2.1;omega
          refine bodyPost_ret (zd3 rfl _ w.heap.size (w.heap.size+1) 26 29 [.slice A1 l.length c1,.slice A3 L2.length c3] [.int .i64 0,.int .i64 0] rfl rfl (by exact(((HX8.out.1.set_ 0 _).set_ 1 _).far sy _).far sy _) (by exact(((HX8.out.2.1.far sy _).far sy _).set_ 0 _).set_ 1 _) _ _ Tryz.underlying26 rfl hdSr Tryz.underlying29 rfl hd48) rfl ?_;rw[HRE.out];refine⟨A1,c1,A3,⟨c3,rfl⟩,?_,?_,(((HX8.out.2.2.setCell sy _).setCell sy _).setCell sy _).setCell sy _⟩
          · exact((((HJ8.out.2.2.1.keep (zam (by show w.heap.size<_;omega) _)).keep (zam (by show w.heap.size<_;omega) _)).keep (zam (by show w.heap.size+1<_;omega) _)).keep (zam (by show w.heap.size+1<_;omega) _)).keep (zar om)
          · exact((((HJ8.out.2.2.2.1.keep (zam (by show w.heap.size<_;omega) _)).keep (zam (by show w.heap.size<_;omega) _)).keep (zam (by show w.heap.size+1<_;omega) _)).keep (zam (by show w.heap.size+1<_;omega) _)).keep (zar om)
        · have HRE:Hid (rpaR ts (l,q).1 (rstmts ts (rstmt ts 14) (l,q).2)=(⟨[],[]⟩,(q2.fe,q2.fa))):=(by show rpaR ts l (rstmts ts (rstmt ts 14) q)=_;rw[HBB.out];unfold rpaR;dsimp only;rw[hpa,if_pos hb])
          have hbw:∀W,RSt gp A2 ts.length c2 ts q2 W→W.cell? ⟨gp,4,none⟩=some (.bool true):=fun W h=>by rw[←hb];exact h.b.cell 4
          have HBW:=qh hbw
          unfold tokCells at HNQ
          rw[hki]at HNQ;clear hbw hpa hk6 hki hb HNW HIS;generalize rk ts q2=t at *;have hf:=fld0 (.int .i64 6) (.string (bytesOf t.text)) (.int .i64 t.num) (.int .i64 t.at_)
          go_upto_region 14 with (first
           | (go_at_call 27;(refine(HNQ.out _ (by exact HJ.out.1)).mono ?_);rintro e w8 ⟨rfl,hB8⟩;have HJ8:Hid (RSt gp A2 ts.length c2 ts q2 w8∧Blk w8 w.heap.size 26 [.slice none 0 0,.slice none 0 0]∧Blk w8 (w.heap.size+1) 29 [.int .i64 0,.int .i64 0]∧Below w.heap.size w w8):=⟨HJ.out.1.below hB8,HBL.out w8 (HJ.out.2.2.2.2.1.trans (Wr.of_below hB8))⟩;have g4:=HBW.out w8 HJ8.out.1;have gl:=HJ8.out.1.b.lt;clear hB8))
          have hne1:gp≠w.heap.size:=by have:=HB3.out.2.1;omega
          have hne2:gp≠w.heap.size+1:=by have:=HB3.out.2.1;omega
          have HK:Hid (Blk w8.drew gp 70 (rdC A2 ts.length c2 q2)∧Blk w8.drew w.heap.size 26 [.slice none 0 0,.slice none 0 0]∧Blk w8.drew (w.heap.size+1) 29 [.int .i64 0,.int .i64 0]∧Below w.heap.size w w8.drew):=⟨HJ8.out.1.b.drew,HJ8.out.2.1.drew,HJ8.out.2.2.1.drew,HJ8.out.2.2.2.drew⟩;refine kgo kr 6 (fun W'=>Blk W' gp 70 (rdC A2 ts.length c2 q2)) HK.out.1 (fun _ _ _ _ _ h=>h) ?_;refine kp 0 (.agg #[.slice none 0 0,.slice none 0 0]) rfl kr (fun _=>kr) ?_;refine kp 1 (.pointer (some ⟨gp,0,none⟩)) rfl kr (fun _=>kr) ?_;refine kp 2 (.pointer (some ⟨gp,0,none⟩)) rfl kr (fun _=>kr) ?_;refine kp 3 (.pointer (some ⟨gp,5,none⟩)) rfl kr (fun _=>kr) ?_;refine kl 4 (.agg #[.int .i64 (q2).fe,.int .i64 (q2).fa]) rfl kr (fun w' hw'=>zew (x:=.tmp 62) rr kr (zao hw' 29 5 [.int .i64 (q2).fe,.int .i64 (q2).fa] rfl _ Tryz.underlying29 rfl hd48)) ?_;intro q8 q9;clear q8 q9;refine AnyK.storeAll 5 w.heap.size [.slice none 0 0,.slice none 0 0] 26 [.slice none 0 0,.slice none 0 0] rr rfl rfl rr kr kr kr HK.out.2.1 hdSr (by simp[Value.oneCell']) rfl (fun _ _ ho _=>ho.blk HK.out.1 hne1) ?_;intro wa hba hoa;have HL5:Hid (Blk wa (w.heap.size+1) 29 [.int .i64 0,.int .i64 0]∧Below w.heap.size w wa):=⟨hoa.blk HK.out.2.2.1 om,hoa.below HK.out.2.2.2 lr HK.out.2.2.2.size⟩;refine AnyK.storeAll 6 (w.heap.size+1) [.int .i64 (q2).fe,.int .i64 (q2).fa] 29 [.int .i64 0,.int .i64 0] rr rfl rfl rr kr kr kr HL5.out.1 hd48 (by simp[Value.oneCell']) rfl (fun _ _ _ h=>(by cases h)) ?_;intro wb hbb hob;have HM5:Hid (Blk wb w.heap.size 26 [.slice none 0 0,.slice none 0 0]∧Blk wb (w.heap.size+1) 29 [.int .i64 (q2).fe,.int .i64 (q2).fa]∧Below w.heap.size w wb):=⟨hob.blk hba om,hbb,hob.below HL5.out.2 om HL5.out.2.size⟩;refine AnyK.done kr ?_;clear hba hoa hbb hob;go_wp2;refine bodyPost_ret (zd3 rfl _ w.heap.size (w.heap.size+1) 26 29 [.slice none 0 0,.slice none 0 0] [.int .i64 (q2).fe,.int .i64 (q2).fa] rfl rfl HM5.out.1 HM5.out.2.1 _ _ Tryz.underlying26 rfl hdSr Tryz.underlying29 rfl hd48) rfl ?_;rw[HRE.out];exact⟨none,0,none,⟨0,rfl⟩,DcsIn.nil _ _ _,BodyIn.nil _ _ _,HM5.out.2.2⟩
      · have hpa:rpaS ts q2=rstop ts 9 q2:=by unfold rpaS;rw[if_pos hk6]
        have hki:((rk ts q2).kind:Int)≠6:=om;have hb:=zgi (ts:=ts) 9 q2;have HRE:Hid (rpaR ts (l,q).1 (rstmts ts (rstmt ts 14) (l,q).2)=(⟨[],[]⟩,((rstop ts 9 q2).fe,(rstop ts 9 q2).fa))):=(by show rpaR ts l (rstmts ts (rstmt ts 14) q)=_;rw[HBB.out];unfold rpaR;dsimp only;rw[hpa,if_pos hb]);have HSP:=qh (fun W (h:RSt gp A2 ts.length c2 ts q2 W)=>zg4 9 HCX.out h);have hbw:∀W,RSt gp A2 ts.length c2 ts (rstop ts 9 q2) W→W.cell? ⟨gp,4,none⟩=some (.bool true):=fun W h=>by rw[←hb];exact h.b.cell 4
        have HBW:=qh hbw
        unfold tokCells at HNQ
        clear hbw hpa hk6 hb HNW HIS;generalize rk ts q2=t at *;have hf:=fld0 (.int .i64 t.kind) (.string (bytesOf t.text)) (.int .i64 t.num) (.int .i64 t.at_);generalize rstop ts 9 q2=q3 at *
        go_upto_region 14 with (first
         | (go_at_call 30;(refine(HSP.out _ (by exact HJ7.out.1)).mono ?_);rintro e w8 ⟨rfl,h8,hW8⟩;have HJ8:Hid (RSt gp A2 ts.length c2 ts q3 w8∧Blk w8 w.heap.size 26 [.slice none 0 0,.slice none 0 0]∧Blk w8 (w.heap.size+1) 29 [.int .i64 0,.int .i64 0]∧Below w.heap.size w w8):=⟨h8,HBL.out w8 (HJ7.out.2.trans (hW8.mono sy))⟩;have g4:=HBW.out w8 HJ8.out.1;have gl:=HJ8.out.1.b.lt;clear h8 hW8)
         | (go_at_call 27;(refine(HNQ.out _ (by exact HJ.out.1)).mono ?_);rintro e wn ⟨rfl,hB8⟩;have HJ7:Hid (RSt gp A2 ts.length c2 ts q2 wn∧Wr [gp,G] W3 wn):=⟨HJ.out.1.below hB8,HJ.out.2.2.2.2.1.trans (Wr.of_below hB8)⟩;clear hB8))
        have hne1:gp≠w.heap.size:=by have:=HB3.out.2.1;omega
        have hne2:gp≠w.heap.size+1:=by have:=HB3.out.2.1;omega
        have HK:Hid (Blk w8.drew gp 70 (rdC A2 ts.length c2 q3)∧Blk w8.drew w.heap.size 26 [.slice none 0 0,.slice none 0 0]∧Blk w8.drew (w.heap.size+1) 29 [.int .i64 0,.int .i64 0]∧Below w.heap.size w w8.drew):=⟨HJ8.out.1.b.drew,HJ8.out.2.1.drew,HJ8.out.2.2.1.drew,HJ8.out.2.2.2.drew⟩;refine kgo kr 6 (fun W'=>Blk W' gp 70 (rdC A2 ts.length c2 q3)) HK.out.1 (fun _ _ _ _ _ h=>h) ?_;refine kp 0 (.agg #[.slice none 0 0,.slice none 0 0]) rfl kr (fun _=>kr) ?_;refine kp 1 (.pointer (some ⟨gp,0,none⟩)) rfl kr (fun _=>kr) ?_;refine kp 2 (.pointer (some ⟨gp,0,none⟩)) rfl kr (fun _=>kr) ?_;refine kp 3 (.pointer (some ⟨gp,5,none⟩)) rfl kr (fun _=>kr) ?_;refine kl 4 (.agg #[.int .i64 (q3).fe,.int .i64 (q3).fa]) rfl kr (fun w' hw'=>zew (x:=.tmp 62) rr kr (zao hw' 29 5 [.int .i64 (q3).fe,.int .i64 (q3).fa] rfl _ Tryz.underlying29 rfl hd48)) ?_;intro q8 q9;clear q8 q9;refine AnyK.storeAll 5 w.heap.size [.slice none 0 0,.slice none 0 0] 26 [.slice none 0 0,.slice none 0 0] rr rfl rfl rr kr kr kr HK.out.2.1 hdSr (by simp[Value.oneCell']) rfl (fun _ _ ho _=>ho.blk HK.out.1 hne1) ?_;intro wa hba hoa;have HL5:Hid (Blk wa (w.heap.size+1) 29 [.int .i64 0,.int .i64 0]∧Below w.heap.size w wa):=⟨hoa.blk HK.out.2.2.1 om,hoa.below HK.out.2.2.2 lr HK.out.2.2.2.size⟩;refine AnyK.storeAll 6 (w.heap.size+1) [.int .i64 (q3).fe,.int .i64 (q3).fa] 29 [.int .i64 0,.int .i64 0] rr rfl rfl rr kr kr kr HL5.out.1 hd48 (by simp[Value.oneCell']) rfl (fun _ _ _ h=>(by cases h)) ?_;intro wb hbb hob;have HM5:Hid (Blk wb w.heap.size 26 [.slice none 0 0,.slice none 0 0]∧Blk wb (w.heap.size+1) 29 [.int .i64 (q3).fe,.int .i64 (q3).fa]∧Below w.heap.size w wb):=⟨hob.blk hba om,hbb,hob.below HL5.out.2 om HL5.out.2.size⟩;refine AnyK.done kr ?_;clear hba hoa hbb hob;go_wp2;refine bodyPost_ret (zd3 rfl _ w.heap.size (w.heap.size+1) 26 29 [.slice none 0 0,.slice none 0 0] [.int .i64 (q3).fe,.int .i64 (q3).fa] rfl rfl HM5.out.1 HM5.out.2.1 _ _ Tryz.underlying26 rfl hdSr Tryz.underlying29 rfl hd48) rfl ?_;rw[HRE.out];exact⟨none,0,none,⟨0,rfl⟩,DcsIn.nil _ _ _,BodyIn.nil _ _ _,HM5.out.2.2⟩
    · have hor:(rIs ts k_let q || rIs ts k_route q)=true:=(by rw[hs,hs2];rfl)
      have h1:=fun W h=>HIS.out k_let q W h
      rw[hs]at h1;have HI1:=qh h1;have h2:=fun W h=>HIS.out k_route q W h
      rw[hs2]at h2;have HI2:=qh h2;have hlt:=zc5 HCX.out hs2;have htx:=zka hs2;have hQ1:RQ 14 (rnx q):=RQ0.rp (HL.out.2.2.2.trans rnx_p);have hT3:=((HDL.out gk l q).2 hor).symm.trans HL.out.2.2.1;rw[htx]at hT3;have HT3:=qh hT3;have HDC:=qh (fun W (h:RSt gp A2 ts.length c2 ts (rnx q) W)=>zm9 HCX.out h hQ1 k_route (.inr rfl));have hpg:=zm7 (ts:=ts) k_route (rnx q);have HI3:Hid (ts.length≤gk+q.i∧l.length≤q.i∧q.i+1<ts.length∧q.i+1≤(rdecl ts k_route (rnx q)).2.i∧RP r0 (rdecl ts k_route (rnx q)).2):=⟨HL.out.1,HL.out.2.1,hlt,hpg.le,HL.out.2.2.2.trans (rnx_p.trans hpg)⟩;have hl8:l.length≤100000:=by have:=HL.out.2.1;omega
      have hi8:q.i<100000:=om;have HNQ:=qh (fun W h=>HNW.out q W h);have HX:Hid (∀W,RSt gp A2 ts.length c2 ts q W→W.cell? ⟨gp,1,none⟩=some (.int .i64 q.i)∧W.frozen? ⟨gp,1,none⟩=false∧gp<W.heap.size):=fun W h=>⟨h.b.cell 1,h.b.frozen 1,h.b.lt⟩
      have HNX:=qh (fun W (h:RSt gp A2 ts.length c2 ts q W)=>RSt.next HCX.out h hlt)
      unfold tokCells at HNQ
      rw[htx]at HNQ;clear hs hs2 HL HDL hQ1 hpg hlt htx hT3 hor h1 h2 HNW HIS
      unfold RDeK at HDC
      generalize (rdecl ts k_route (rnx q)).1=X at *;generalize (rdecl ts k_route (rnx q)).2=q3 at *;generalize rk ts q=t at *;have hf:=fld1 (.int .i64 t.kind) (.string k_route) (.int .i64 t.num) (.int .i64 t.at_)
      go_upto_region 9 with (first
       | (go_at_call 27;(refine(HNQ.out _ (by exact HS5.out.st)).mono ?_);rintro e w6 ⟨rfl,hB6⟩;have HS6:=qh (HS5.out.call (HS5.out.st.below hB6) (Wr.of_below hB6));obtain⟨k1,j1,l1⟩:=HX.out w6 HS6.out.st;clear hB6)
       | (go_at_call 26;(with_reducible refine(HI2.out _ (by exact HS4.out.st)).mono ?_);rintro e w5 ⟨rfl,hB5⟩;have HS5:=qh (HS4.out.call (HS4.out.st.below hB5) (Wr.of_below hB5));clear hB5)
       | (go_at_call 26;(with_reducible refine(HI1.out _ (by exact HS.out.st)).mono ?_);rintro e w4 ⟨rfl,hB4⟩;have HS4:=qh (HS.out.call (HS.out.st.below hB4) (Wr.of_below hB4));clear hB4))
      have HS7:=qh (HS6.out.call (HNX.out w6 HS6.out.st).1 (HNX.out w6 HS6.out.st).2);clear HX HNX k1 j1 l1 HS6 HS5 HS HS4 HNQ hf;generalize w6.setCell ⟨gp,1,none⟩ (.int .i64 ((q.i:Int)+1))=w7 at *;have HD9:Hid (RDp gp G A2 ts.length c2 ts W3 l sl (.slice A1 l.length c1) (rnx q) w7.drew):=HS7.out.call (HS7.out.st.below ((Below.refl _ _).drew)) (Wr.of_below ((Below.refl _ _).drew));refine kgo kr 8 (fun W'=>Blk W' G 26 [.slice A1 l.length c1,.slice none 0 0]) HD9.out.e (fun _ _ _ _ _ h=>h) ?_;refine kp 0 (.pointer (some ⟨G,0,none⟩)) rfl kr (fun _=>kr) ?_;refine kl 1 (.slice A1 l.length c1) rfl kr (fun w' hw'=>zaq (t:=23) (x:=.tmp 38) rr kr agSdc (hw'.cell 0)) ?_;refine kp 2 (.pointer (some ⟨gp,0,none⟩)) rfl kr (fun _=>kr) ?_;refine kp 3 (.string k_route) rfl kr (fun _=>kr) ?_;intro q8 q9;clear q8 q9;refine AnyK.enter 4 (d:=some 42) (f:=28) (args:=#[.pointer (some ⟨gp,0,none⟩),.string k_route]) rr kr kr ?_;refine(HDC.out _ HD9.out.st).mono ?_;rintro e wx ⟨y,rfl,hy,hx,hWx⟩;have HX9:=qh (HD9.out.call hx hWx);have HY9:Hid (DcIn (Fv W3.heap.size (.slice A1 l.length c1)) wx X y):=HD9.out.fr lr hy;have hl9:=HX9.out.lt;have hm9:=HX9.out.e.lt;have ho9:=HX9.out.wr.size;have hown9:∀k,(Value.slice A1 l.length c1).ownBlock=some k→G≠k:=fun k e=>by have:=(HX9.out.own.lt k e).1;omega
      clear hy hx hWx;refine⟨_,rfl,fun _=>HX9.out.e,?_⟩;refine AnyK.main 5 rr kr rfl (fun K hK=>zca (zcp 23 45 (.tmp 42) rr (dcC X y) kr Tryz.underlying23 (by exact oneDc X y) (by rw[zdj];omega) (by rw[zdj];omega)) (hK _ _ ⟨fun _=>HX9.out.e.alloc _,?_⟩));refine AnyK.main 6 rr kr rfl (fun K hK=>zc8 (.tmp 39) (.tmp 43) 23 rr W3.heap.size 45 9 136 Tryz.underlying23 eDc (.slice A1 l.length c1) l.length (zipC dcC l sl) kr (HX9.out.own.alloc _) (some ⟨wx.heap.size,0,none⟩) 1 1 (dcC X y) kr (RdS.new wx _ (dcC X y) 9 rfl) (zby _ _) om om (by simp;omega) (fun A7 c7 w7 hown7 hc7 hg7 hat7=>hK _ _ ⟨fun _=>(HX9.out.e.alloc _).grown hg7 (fun e=>hown9 _ e.symm rfl),?_⟩));have hb7:=(HX9.out.e.alloc (.cells (dcC X y).toArray 45)).grown hg7 (fun e=>hown9 _ e.symm rfl);refine AnyK.val 7 (v:=.pointer (some ⟨G,0,none⟩)) rr kr rfl kr (fun _=>hb7) ?_;have HP9:=qh (HX9.out.push HY9.out hg7 hown7 hat7);refine AnyK.store 8 (d:=none) (w':=w7.setCell ⟨G,0,none⟩ (.slice A7 (l.length+1) c7)) rr (fun o ho=>zbx ho kr kr szSdc (hb7.cell 0) (hb7.frozen 0)) kr (fun h=>(by cases h)) ?_;refine AnyK.done ?_ ?_
      · kernel_rfl
      clear hb7 hown7 hg7 hat7 hown9;have e5:(l++[X]).length=l.length+1:=by simp
      go_wp2;simp only[List.getElem_toArray,List.getElem_cons_zero,List.getElem_cons_succ,Act.put,List.setIfInBounds_toArray,List.set_cons_succ,List.set_cons_zero];have hi5:=HI3.out;go_roundg (gk-1)
      case measure=>omega
      case rel=>exact⟨l++[X],sl++[y],A7,c7,q3,by rw[e5];exact HP9.out,⟨by omega,by rw[e5];omega,by rw[show gk-1+1=gk by omega];exact HT3.out,hi5.2.2.2.2⟩⟩
  · have hor:(rIs ts k_let q || rIs ts k_route q)=true:=(by rw[hs];rfl)
    have h1:=fun W h=>HIS.out k_let q W h
    rw[hs]at h1;have HI1:=qh h1;have hlt:=zc5 HCX.out hs;have htx:=zka hs;have hQ1:RQ 14 (rnx q):=RQ0.rp (HL.out.2.2.2.trans rnx_p);have hT3:=((HDL.out gk l q).2 hor).symm.trans HL.out.2.2.1;rw[htx]at hT3;have HT3:=qh hT3;have HDC:=qh (fun W (h:RSt gp A2 ts.length c2 ts (rnx q) W)=>zm9 HCX.out h hQ1 k_let (.inl rfl));have hpg:=zm7 (ts:=ts) k_let (rnx q);have HI3:Hid (ts.length≤gk+q.i∧l.length≤q.i∧q.i+1<ts.length∧q.i+1≤(rdecl ts k_let (rnx q)).2.i∧RP r0 (rdecl ts k_let (rnx q)).2):=⟨HL.out.1,HL.out.2.1,hlt,hpg.le,HL.out.2.2.2.trans (rnx_p.trans hpg)⟩;have hl8:l.length≤100000:=by have:=HL.out.2.1;omega
    have hi8:q.i<100000:=om;have HNQ:=qh (fun W h=>HNW.out q W h);have HX:Hid (∀W,RSt gp A2 ts.length c2 ts q W→W.cell? ⟨gp,1,none⟩=some (.int .i64 q.i)∧W.frozen? ⟨gp,1,none⟩=false∧gp<W.heap.size):=fun W h=>⟨h.b.cell 1,h.b.frozen 1,h.b.lt⟩
    have HNX:=qh (fun W (h:RSt gp A2 ts.length c2 ts q W)=>RSt.next HCX.out h hlt)
    unfold tokCells at HNQ
    rw[htx]at HNQ;clear hs HL HDL hQ1 hpg hlt htx hT3 hor h1 HNW HIS
    unfold RDeK at HDC
    generalize (rdecl ts k_let (rnx q)).1=X at *;generalize (rdecl ts k_let (rnx q)).2=q3 at *;generalize rk ts q=t at *;have hf:=fld1 (.int .i64 t.kind) (.string k_let) (.int .i64 t.num) (.int .i64 t.at_)
    go_upto_region 9 with (first
     | (go_at_call 27;(refine(HNQ.out _ (by exact HS5.out.st)).mono ?_);rintro e w6 ⟨rfl,hB6⟩;have HS6:=qh (HS5.out.call (HS5.out.st.below hB6) (Wr.of_below hB6));obtain⟨k1,j1,l1⟩:=HX.out w6 HS6.out.st;clear hB6)
     | (go_at_call 26;(with_reducible refine(HI1.out _ (by exact HS.out.st)).mono ?_);rintro e w4 ⟨rfl,hB4⟩;have HS5:=qh (HS.out.call (HS.out.st.below hB4) (Wr.of_below hB4));clear hB4))
    have HS7:=qh (HS6.out.call (HNX.out w6 HS6.out.st).1 (HNX.out w6 HS6.out.st).2);clear HX HNX k1 j1 l1 HS6 HS5 HS HNQ hf;generalize w6.setCell ⟨gp,1,none⟩ (.int .i64 ((q.i:Int)+1))=w7 at *;have HD9:Hid (RDp gp G A2 ts.length c2 ts W3 l sl (.slice A1 l.length c1) (rnx q) w7.drew):=HS7.out.call (HS7.out.st.below ((Below.refl _ _).drew)) (Wr.of_below ((Below.refl _ _).drew));refine kgo kr 8 (fun W'=>Blk W' G 26 [.slice A1 l.length c1,.slice none 0 0]) HD9.out.e (fun _ _ _ _ _ h=>h) ?_;refine kp 0 (.pointer (some ⟨G,0,none⟩)) rfl kr (fun _=>kr) ?_;refine kl 1 (.slice A1 l.length c1) rfl kr (fun w' hw'=>zaq (t:=23) (x:=.tmp 38) rr kr agSdc (hw'.cell 0)) ?_;refine kp 2 (.pointer (some ⟨gp,0,none⟩)) rfl kr (fun _=>kr) ?_;refine kp 3 (.string k_let) rfl kr (fun _=>kr) ?_;intro q8 q9;clear q8 q9;refine AnyK.enter 4 (d:=some 42) (f:=28) (args:=#[.pointer (some ⟨gp,0,none⟩),.string k_let]) rr kr kr ?_;refine(HDC.out _ HD9.out.st).mono ?_;rintro e wx ⟨y,rfl,hy,hx,hWx⟩;have HX9:=qh (HD9.out.call hx hWx);have HY9:Hid (DcIn (Fv W3.heap.size (.slice A1 l.length c1)) wx X y):=HD9.out.fr lr hy;have hl9:=HX9.out.lt;have hm9:=HX9.out.e.lt;have ho9:=HX9.out.wr.size;have hown9:∀k,(Value.slice A1 l.length c1).ownBlock=some k→G≠k:=fun k e=>by have:=(HX9.out.own.lt k e).1;omega
    clear hy hx hWx;refine⟨_,rfl,fun _=>HX9.out.e,?_⟩;refine AnyK.main 5 rr kr rfl (fun K hK=>zca (zcp 23 45 (.tmp 42) rr (dcC X y) kr Tryz.underlying23 (by exact oneDc X y) (by rw[zdj];omega) (by rw[zdj];omega)) (hK _ _ ⟨fun _=>HX9.out.e.alloc _,?_⟩));refine AnyK.main 6 rr kr rfl (fun K hK=>zc8 (.tmp 39) (.tmp 43) 23 rr W3.heap.size 45 9 136 Tryz.underlying23 eDc (.slice A1 l.length c1) l.length (zipC dcC l sl) kr (HX9.out.own.alloc _) (some ⟨wx.heap.size,0,none⟩) 1 1 (dcC X y) kr (RdS.new wx _ (dcC X y) 9 rfl) (zby _ _) om om (by simp;omega) (fun A7 c7 w7 hown7 hc7 hg7 hat7=>hK _ _ ⟨fun _=>(HX9.out.e.alloc _).grown hg7 (fun e=>hown9 _ e.symm rfl),?_⟩));have hb7:=(HX9.out.e.alloc (.cells (dcC X y).toArray 45)).grown hg7 (fun e=>hown9 _ e.symm rfl);refine AnyK.val 7 (v:=.pointer (some ⟨G,0,none⟩)) rr kr rfl kr (fun _=>hb7) ?_;have HP9:=qh (HX9.out.push HY9.out hg7 hown7 hat7);refine AnyK.store 8 (d:=none) (w':=w7.setCell ⟨G,0,none⟩ (.slice A7 (l.length+1) c7)) rr (fun o ho=>zbx ho kr kr szSdc (hb7.cell 0) (hb7.frozen 0)) kr (fun h=>(by cases h)) ?_;refine AnyK.done ?_ ?_
    · kernel_rfl
    clear hb7 hown7 hg7 hat7 hown9;have e5:(l++[X]).length=l.length+1:=by simp
    go_wp2;simp only[List.getElem_toArray,List.getElem_cons_zero,List.getElem_cons_succ,Act.put,List.setIfInBounds_toArray,List.set_cons_succ,List.set_cons_zero];have hi5:=HI3.out;go_roundg (gk-1)
    case measure=>omega
    case rel=>exact⟨l++[X],sl++[y],A7,c7,q3,by rw[e5];exact HP9.out,⟨by omega,by rw[e5];omega,by rw[show gk-1+1=gk by omega];exact HT3.out,hi5.2.2.2.2⟩⟩
theorem zf2(s:ByteArray)(w:World):RPaK s (parse s.data.toList) w:=by
 rcases hR:Lx.scan s.data.toList with ⟨⟨p,q⟩,ts⟩
 unfold parse
 rw[hR]
 by_cases hp:p=0
 · subst hp
   have hq:q=0:=by
    rcases Lx.scan_cases s.data.toList with ⟨p',q',h1,h2⟩|⟨us,h1,_⟩
    · rw[hR]at h1
      injection h1 with h3
      injection h3 with h3 h4
      omega
    · rw[hR]at h1
      injection h1 with h3
      injection h3
   subst hq;have h5:=zla s ts hR w;rw[←zlh (zee hR).1]at h5;exact h5
 · dsimp only
   rw[if_neg hp];exact zmq s hR hp w
end Go.Proofs.YtafjkbbiaopemaaGreatDoor.Tr
