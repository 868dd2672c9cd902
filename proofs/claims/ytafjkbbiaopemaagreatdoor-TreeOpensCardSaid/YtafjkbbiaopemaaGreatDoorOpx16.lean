/- Part of the proof. -/
import Derived.Test.YtafjkbbiaopemaaGreatDoorOpx15
set_option linter.all false
set_option maxRecDepth 100000
set_option maxHeartbeats 0
namespace Go.Proofs.YtafjkbbiaopemaaGreatDoor.Tr
open Go.RowKit
section
section
variable{gp gs:Nat}{A:Option Addr}{n c:Nat}{ts:List Lx.Tok}
theorem zkl{e:Int}(he:e≠0)(s:PS):(failP ts e s).ok=false:=by
 unfold failP
 split
 · exact beq_false_of_ne he
 · rename_i h;simpa using h
theorem zot(HT:Ends ts){st:PS→St × PS}(HX:∀s,Pg ts s (st s).2){s:PS}(h:sees ts ten s=true):Pg ts (nxt s) (stmtG ts st s).2:=by
 unfold stmtG
 rw[if_pos h];have E:=za1 HT 14;have B:=zf8 HT HX;dsimp only
 split
 · exact(E _).trans (B _)
 split
 · exact((ref_g HT _).trans (E _)).trans (B _)
 split
 · refine(((zas HT k_acked _)).trans (ref_g HT _)).trans ((B _).trans ?_)
   split
   · rename_i h2;exact(nxt_g (zan HT h2) (zaj h2)).trans (B _)
   · exact Pg.refl _
 · exact(znx HT _ _ _).trans (zas HT _ _)
theorem zjs(HT:Ends ts):∀(d:Nat) (s:PS),(stmtP ts d s).2.ok=true→s.i+1≤(stmtP ts d s).2.i
 | 0,s,h=>by rw[show(stmtP ts 0 s).2=failP ts 9 s from rfl,zkl (by decide)]at h;cases h
 | d+1,s,h=>by
  have e:stmtP ts (d+1) s=stmtG ts (stmtP ts d) s:=rfl;rw[e]at h ⊢
  cases hs:sees ts ten s
  · rw[show(stmtG ts (stmtP ts d) s).2=failP ts 9 s by unfold stmtG;rw[hs];rfl,zkl (by decide)]at h;cases h
  · exact(zot HT (zdo HT d) hs).le
theorem zmb(cx:Cx gp gs A n ts)(st:PS→St × PS)(s:PS)(w:World)(h:PSt gp gs A n c ts s w)(hs:sees ts ten s=false):
 Calls Tryz.prog 24 #[.pointer (some ⟨gp,0,none⟩)] w fun e w'=>∃p:StA,e=.returned (.agg (stC (stmtG ts st s).1 p).toArray)∧StIn (Fr w.heap.size) w' (stmtG ts st s).1 p∧PSt gp gs A n c ts (stmtG ts st s).2 w'∧Wr [gp,gs] w w':=by
 rw[show stmtG ts st s=(zT,failP ts 9 s) by unfold stmtG;rw[hs];rfl];have HSN:=qh (fun W A1 (h:PSt gp gs A n c ts s W) (hl:Rd W A1 10 (strs ten))=>zcj cx h ten A1 10 10 hl om);rw[hs]at HSN;have HF:=qh (fun W (h:PSt gp gs A n c ts s W)=>zh9 cx h 9 (by decide));have HH:=qh (h.alloc (.cells (stC zT pA0).toArray 42));have HE:Hid (Wr [gp,gs] w (w.alloc (.cells (stC zT pA0).toArray 42))):=(Wr.refl _ _).alloc _;have HB:Hid (Blk (w.alloc (.cells (stC zT pA0).toArray 42)) w.heap.size 42 (stC zT pA0)):=Blk.new _ _ _;have HLO:=qh (h.lo cx);clear h hs
 go_enter Tryz.func24, Tryz.ntmps24
 go_wp2_with (first
  | (go_at_call 20;(refine(HSN.out _ _ (by exact HH.out.alloc _) (by exact zde (L:=ten) sy rfl)).mono ?_);rintro e w2 ⟨rfl,hB2⟩;have H2:=qh ((HH.out.alloc _).below hB2);have HE2:=qh ((HE.out.alloc _).trans (Wr.of_below hB2));have HB2:=qh ((HB.out.alloc _).below hB2 (HB.out.alloc _).lt);clear hB2)
  | (go_at_call 54;(refine(HF.out _ (by exact H2.out)).mono ?_);rintro e w3 ⟨rfl,h3,hW3⟩;have hW4:Wr [gp,gs] w2 w3:=hW3.mono (fun g hg=>by simp only[List.mem_cons,List.not_mem_nil,or_false]at hg ⊢;omega);have H3:=qh h3;have HE3:=qh (HE2.out.trans hW4);have HB3:Hid (Blk w3 w.heap.size 42 (stC zT pA0)):=Blk.wr HB2.out hW4 HLO.out lr;clear h3 hW3 hW4)
  | refine zad rfl 42 [] rfl _ rr _ (zsx _) ?_
  | (refine zaa rfl 42 (.tmp 2) (.tmp 11) rfl w.heap.size (stC zT pA0) rr rr 42 (stC zT pA0) (by exact HB3.out) hdSt (zal _ _) rfl ?_;intro w9_ hb9 ho9))
 refine bodyPost_ret (res_c rfl _ w.heap.size 42 (stC zT pA0) rfl hb9 _ Tryz.underlying42 rfl hdSt) rfl ⟨pA0,rfl,StIn.zero _ _ zs 0,H3.out.only HLO.out lr ho9,HE3.out.thenb (ho9.below (Below.refl _ _) lr HE3.out.size)⟩
theorem zjr(cx:Cx gp gs A n ts):∀(d:Nat),StK gp gs A n c ts (stmtP ts d) (QS d)
 | 0=>fun s w h hq=>absurd hq.d1 om
 | d+1=>fun s w h hq=>by
  have hbo:=body_c (c:=c) cx (stmtP ts d) d (zjr cx d) (zdo cx.ends d) (zjs cx.ends d);have e:stmtP ts (d+1) s=stmtG ts (stmtP ts d) s:=rfl;rw[e]
  cases hs:sees ts ten s
  · exact zmb cx _ s w h hs
  · have hk:bytesOf (pk ts s).text∈ten:=ten_in (by unfold sees at hs;simp only[Bool.and_eq_true]at hs;exact hs.2)
    have G:=zdo cx.ends d;simp only[ten,List.mem_cons,List.not_mem_nil,or_false]at hk
    rcases hk with hk|hk|hk|hk|hk|hk|hk|hk|hk|hk
    · exact zci cx _ _ hbo G s w h hq hs (.inl hk)
    · exact zci cx _ _ hbo G s w h hq hs (.inr (.inl hk))
    · exact zci cx _ _ hbo G s w h hq hs (.inr (.inr (.inl hk)))
    · exact zci cx _ _ hbo G s w h hq hs (.inr (.inr (.inr (.inl hk))))
    · exact zci cx _ _ hbo G s w h hq hs (.inr (.inr (.inr (.inr (.inl hk)))))
    · exact zk2 cx _ _ hbo G s w h hq hs hk
    · exact zii cx _ _ hbo G s w h hq hs hk
    · exact zci cx _ _ hbo G s w h hq hs (.inr (.inr (.inr (.inr (.inr (.inl hk))))))
    · exact zci cx _ _ hbo G s w h hq hs (.inr (.inr (.inr (.inr (.inr (.inr hk))))))
    · cases hw:sees ts [k_else] (bodyP ts (stmtP ts d) (refP ts (takeP ts k_acked (nxt s))).2).2
      · exact zor cx _ _ hbo G s w h hq hs hk hw
      · exact zoq cx _ _ hbo G s w h hq hs hk hw
end
end
section
theorem Q.up{d:Nat}{s:PS}(h:Q d s):Q (d+1) s:=⟨h.p0,h.p1,by omega,fun hq=>⟨(h.ok hq).1,by have:=(h.ok hq).2;omega⟩⟩
theorem hdPl:(Tryz.prog.info? 80).map (·.size)=some 12:=by kernel_rfl
theorem zny(v:Value):Instr.loadAt 80 v=ldAt 80 v:=rfl
attribute [local go_sem ↓] zny
@[reducible] def plA:Type:=(Option Addr × Nat) × (Option Addr × Nat)
def pl0:plA:=((none,0),(none,0))
def zPl:Pl:=⟨zR,zE,zE⟩
theorem za0(T:Pl)(p:plA):∀v∈plC T p,v.oneCell'=true:=by
 intro v hv;simp only[plC,exC,List.mem_cons,List.mem_append,List.not_mem_nil,or_false]at hv
 rcases hv with (rfl|rfl)| (rfl|rfl|rfl|rfl|rfl)| (rfl|rfl|rfl|rfl|rfl) <;> rfl
theorem zc7(X:Rf)(w:World):(Instr.build 80 #[(0,.agg (rfC X).toArray)]).run Tryz.prog w=.ok (.agg (plC ⟨X,zE,zE⟩ pl0).toArray) w:=by kernel_rfl
theorem PlIn.up{F G:Nat→Prop}{w w':World}(hk:Keep F G w w'){s:Pl}{p:plA}(h:PlIn F w s p):PlIn G w' s p:=h.keep hk
theorem PlIn.zero(F:Nat→Prop)(w:World)(X:Rf):PlIn F w ⟨X,zE,zE⟩ pl0:=⟨ArgsIn.nil _ _ _,ArgsIn.nil _ _ _⟩
theorem Wr.newL{L L':List Nat}{w w1 w2:World}(h1:Wr L w w1)(h2:Wr L' w1 w2)(h:∀g∈L',g∈L∨w.heap.size≤g):Wr L w w2 :=
 ⟨h2.os.trans h1.os,h2.tape.trans h1.tape,h2.output.trans h1.output,Nat.le_trans h1.size h2.size,fun k hk hne =>
  (h2.block k (Nat.lt_of_lt_of_le hk h1.size) (fun hm=>(h k hm).elim hne (fun h=>by omega))).trans (h1.block k hk hne)⟩
structure PcS(gp gs gt:Nat)(A:Option Addr)(n c:Nat)(ts:List Lx.Tok)(w0:World)(T:Pl)(p:plA)(q:PS)(w:World):Prop where
 st:PSt gp gs A n c ts q w
 wr:Wr [gp,gs] w0 w
 z:Blk w w0.heap.size 80 (plC zPl pl0)
 e:Blk w gt 80 (plC T p)
 ar:PlIn (Fx w0.heap.size gt) w T p
 lo:PLo gp gs A w0.heap.size
 gl:w0.heap.size<gt
section
variable{gp gs gt:Nat}{A:Option Addr}{n c:Nat}{ts:List Lx.Tok}{s q q':PS}{w w' w0:World}{T T':Pl}{p p':plA}
theorem PcS.call(h:PcS gp gs gt A n c ts w0 T p q w)(hs:PSt gp gs A n c ts q' w')(hW:Wr [gp,gs] w w'):PcS gp gs gt A n c ts w0 T p q' w' :=
 ⟨hs,h.wr.trans hW,Blk.wr h.z hW h.lo lr,Blk.wr h.e hW h.lo (Nat.le_of_lt h.gl),h.ar.keep (zb6 hW h.lo.all),h.lo,h.gl⟩
theorem PcS.put(h:PcS gp gs gt A n c ts w0 T p q w)(ho:Only w w' gt)(hb:Blk w' gt 80 (plC T' p'))(ha:PlIn (Fx w0.heap.size gt) w T' p'):PcS gp gs gt A n c ts w0 T' p' q w' :=
 ⟨h.st.only (h.lo.mono (Nat.le_of_lt h.gl)) lr ho,Wr.newL h.wr (Wr.onlyg (L:=[gt]) ho sy) (fun g hg=>.inr (by simp at hg;have:=h.gl;omega)),ho.blk h.z (by have:=h.gl;omega),hb,
   ha.keep ((Wr.onlyg (L:=[gt]) ho sy).keep _ _ (fun k hk _ hm=>hk.2 (by simpa using hm)) (fun _ h _=>h)),h.lo,h.gl⟩
theorem PcS.fr(h:PcS gp gs gt A n c ts w0 T p q w){W:World}{B:Option Addr}{es:List Ex}(ha:ArgsIn (Fr w.heap.size) W B es):ArgsIn (Fx w0.heap.size gt) W B es :=
 ha.keep ⟨lr,fun _ _ _=>rfl,fun k hk _=>⟨by have:=h.e.lt;have:=h.gl;unfold Fr at hk;omega,by have:=h.e.lt;unfold Fr at hk;omega⟩⟩
theorem PcS.fin(h:PcS gp gs gt A n c ts w0 T p q w)(ho:Only w w' w0.heap.size):PlIn (Fr w0.heap.size) w' T p∧PSt gp gs A n c ts q w'∧Wr [gp,gs] w0 w' :=
 ⟨(h.ar.keep ((Wr.onlyg (L:=[w0.heap.size]) ho sy).keep (Fx w0.heap.size gt) (Fx w0.heap.size gt) (fun k hk _ hm=>by simp only[List.mem_cons,List.not_mem_nil,or_false]at hm;have:=hk.1;omega) (fun _ h _=>h))).keep zbk,
   h.st.only h.lo lr ho,Wr.newL h.wr (Wr.onlyg (L:=[w0.heap.size]) ho sy) (fun g hg=>.inr (by simp at hg;omega))⟩
theorem zr5(cx:Cx gp gs A n ts)(h:PSt gp gs A n c ts s w)(hq:Q 14 s):Calls Tryz.prog 51 #[.pointer (some ⟨gp,0,none⟩)] w fun e w'=>∃p:plA,e=.returned (.agg (plC (placeP ts s).1 p).toArray)∧PlIn (Fr w.heap.size) w' (placeP ts s).1 p∧PSt gp gs A n c ts (placeP ts s).2 w'∧Wr [gp,gs] w w':=by
 have HRF:=qh (fun W (h:PSt gp gs A n c ts s W)=>ref_c cx h);have HAL:=qh (fun T q W (h:PSt gp gs A n c ts q W)=>zdp cx h T);have HAT:=qh (fun q W (h:PSt gp gs A n c ts q W) (hq:Q 14 q)=>zql cx 14 q W h hq.up);have HLO:=qh (h.lo cx);have HH:=qh (h.alloc (.cells (plC zPl pl0).toArray 80));have HZ:Hid (∀W,Below (w.heap.size+1) (w.alloc (.cells (plC zPl pl0).toArray 80)) W→Blk W w.heap.size 80 (plC zPl pl0)∧Wr [gp,gs] w W):=fun W hW=>⟨(Blk.new _ _ _).below hW om,((Wr.refl [gp,gs] w).alloc _).trans (Wr.of_below (hW.mono sy))⟩
 have hg1:=ref_g cx.ends s;have HQ1:=qh (hq.pg hg1);have HT:Hid (placeP ts s=(⟨(refP ts s).1,(if sees ts [m_at] (refP ts s).2 then atomP ts (exprP ts 14) (nxt (refP ts s).2) else (zE,(refP ts s).2)).1,(if sees ts [m_ex] (if sees ts [m_at] (refP ts s).2 then atomP ts (exprP ts 14) (nxt (refP ts s).2) else (zE,(refP ts s).2)).2 then atomP ts (exprP ts 14) (nxt (if sees ts [m_at] (refP ts s).2 then atomP ts (exprP ts 14) (nxt (refP ts s).2) else (zE,(refP ts s).2)).2) else (zE,(if sees ts [m_at] (refP ts s).2 then atomP ts (exprP ts 14) (nxt (refP ts s).2) else (zE,(refP ts s).2)).2)).1⟩,(if sees ts [m_ex] (if sees ts [m_at] (refP ts s).2 then atomP ts (exprP ts 14) (nxt (refP ts s).2) else (zE,(refP ts s).2)).2 then atomP ts (exprP ts 14) (nxt (if sees ts [m_at] (refP ts s).2 then atomP ts (exprP ts 14) (nxt (refP ts s).2) else (zE,(refP ts s).2)).2) else (zE,(if sees ts [m_at] (refP ts s).2 then atomP ts (exprP ts 14) (nxt (refP ts s).2) else (zE,(refP ts s).2)).2)).2)):=rfl;rw[HT.out]
 have HGA:Hid (∀q,sees ts [m_at] q=true→Q 14 q→Q 14 (nxt q)∧Q 14 (atomP ts (exprP ts 14) (nxt q)).2):=fun q h1 h2=>by
  have h3:=h2.pg (nxt_g (zan cx.ends h1) (zaj h1));exact⟨h3,h3.pg (zif cx.ends (za1 cx.ends 14) _)⟩
 have HGE:Hid (∀q,sees ts [m_ex] q=true→Q 14 q→Q 14 (nxt q)):=fun q h1 h2=>h2.pg (nxt_g (zan cx.ends h1) (zaj h1))
 have HAP:Hid (∀T q,alsoP ts T q=if sees ts [T] q then nxt q else q):=fun T q=>rfl
 have HC:=qh cx;clear h hq hg1 HT;generalize (refP ts s).1=X at *;generalize (refP ts s).2=q1 at *
 unfold rfC at HRF
 cases h1:sees ts [m_at] q1
 · have HA1:=HAL.out m_at q1
   rw[HAP.out,h1]at HA1;simp only[Bool.false_eq_true,if_false]at HA1 ⊢;have HA1:=qh HA1
   cases h2:sees ts [m_ex] q1
   · have HA2:=HAL.out m_ex q1
     rw[HAP.out,h2]at HA2;simp only[Bool.false_eq_true,if_false]at HA2 ⊢;have HA2:=qh HA2;clear HAL HAT HGA HGE HAP HC h1 h2
     go_enter Tryz.func51, Tryz.ntmps51
     go_wp2_with (first
      | (refine zaa rfl 80 (.tmp 2) (.tmp 17) rfl w.heap.size (plC ⟨X,zE,zE⟩ pl0) rr rr 80 (plC zPl pl0) (by exact HP7.out.z) hdPl (za0 _ _) rfl ?_;intro w10 hb10 ho10)
      | (go_at_call 52;(with_reducible refine(HA2.out _ (by exact HP4.out.st)).mono ?_);rintro e w7 ⟨rfl,h7,hW7⟩;have HP7:=qh (HP4.out.call h7 hW7);have hl9:=zao HP7.out.e 80 0 (plC ⟨X,zE,zE⟩ pl0) rfl _ Tryz.underlying80 rfl hdPl;clear h7 hW7)
      | (go_at_call 52;(with_reducible refine(HA1.out _ (by exact HP3.out.st)).mono ?_);rintro e w4 ⟨rfl,h4,hW4⟩;have HP4:=qh (HP3.out.call h4 hW4);clear h4 hW4)
      | (refine zaa rfl 80 (.tmp 3) (.tmp 6) rfl w2.heap.size (plC ⟨X,zE,zE⟩ pl0) rr rr 80 (plC zPl pl0) (by exact Blk.new' rfl rfl) hdPl (za0 _ _) rfl ?_;intro w3 hb3 ho3;have HP3:Hid (PcS gp gs w2.heap.size A n c ts w ⟨X,zE,zE⟩ pl0 q1 w3):=⟨(H2.out.alloc _).only HLO.out HZ2.out.2.size ho3,Wr.newL (HZ2.out.2.alloc _) (Wr.onlyg (L:=[w2.heap.size]) ho3 sy) (fun g hg=>.inr (by simp at hg;have:=HZ2.out.2.size;omega)),ho3.blk (HZ2.out.1.alloc _) (by have:=HZ2.out.1.lt;omega),hb3,PlIn.zero _ _ _,HLO.out,HZ2.out.1.lt⟩;clear hb3 ho3)
      | refine zad rfl 80 [(0,.tmp 5)] rfl _ rr _ (zc7 X _) ?_
      | (go_at_call 48;(refine(HRF.out _ (by exact HH.out)).mono ?_);rintro e w2 ⟨rfl,h2,hW2⟩;have H2:=qh h2;have HZ2:Hid (Blk w2 w.heap.size 80 (plC zPl pl0)∧Wr [gp,gs] w w2):=⟨Blk.wr (Blk.new w _ _) hW2 HLO.out lr,((Wr.refl _ w).alloc _).trans hW2⟩;clear h2 hW2))
     obtain⟨e1,e2,e3⟩:=HP7.out.fin ho10;exact bodyPost_ret (res_c rfl _ w.heap.size 80 (plC ⟨X,zE,zE⟩ pl0) rfl hb10 _ Tryz.underlying80 rfl hdPl) rfl ⟨pl0,rfl,e1,e2,e3⟩
   · have HA2:=HAL.out m_ex q1
     rw[HAP.out,h2]at HA2;simp only[if_true]at HA2 ⊢;have HA2:=qh HA2;have HQN2:=qh (HGE.out q1 h2 HQ1.out);have HD2:=qh (fun W (h:PSt gp gs A n c ts (nxt q1) W)=>HAT.out (nxt q1) W h HQN2.out);generalize (atomP ts (exprP ts 14) (nxt q1)).1=E2 at *;generalize (atomP ts (exprP ts 14) (nxt q1)).2=q3 at *;clear HAL HAT HGA HGE HAP HC h1 h2
     go_enter Tryz.func51, Tryz.ntmps51
     go_wp2_with (first
      | (refine zaa rfl 80 (.tmp 2) (.tmp 17) rfl w.heap.size (plC ⟨X,zE,E2⟩ (pl0.1,a8)) rr rr 80 (plC zPl pl0) (by exact HP9.out.z) hdPl (za0 _ _) rfl ?_;intro w10 hb10 ho10)
      | (refine zab rfl 39 (.tmp 16) (.tmp 15) rfl w2.heap.size 7 (exC E2 a8) rr rr 80 (plC ⟨X,zE,zE⟩ pl0) (by exact HP8.out.e) hdEx (zai E2 a8) (by show 7+5≤12;omega) ?_;intro w9 hb9 ho9;have HP9:Hid (PcS gp gs w2.heap.size A n c ts w ⟨X,zE,E2⟩ (pl0.1,a8) q3 w9):=HP8.out.put ho9 (by exact hb9) ⟨HP8.out.ar.1,HE8.out⟩;have hl9:=zao HP9.out.e 80 0 (plC ⟨X,zE,E2⟩ (pl0.1,a8)) rfl _ Tryz.underlying80 rfl hdPl;clear hb9 ho9)
      | (go_at_call 84;(with_reducible refine(HD2.out _ (by exact HP7.out.st)).mono ?_);rintro e w8 ⟨a8,rfl,ha8,h8,hW8⟩;have HE8:=qh (PcS.fr HP7.out ha8);have HP8:=qh (HP7.out.call h8 hW8);clear ha8 h8 hW8)
      | (go_at_call 52;(with_reducible refine(HA2.out _ (by exact HP4.out.st)).mono ?_);rintro e w7 ⟨rfl,h7,hW7⟩;have HP7:=qh (HP4.out.call h7 hW7);clear h7 hW7)
      | (go_at_call 52;(with_reducible refine(HA1.out _ (by exact HP3.out.st)).mono ?_);rintro e w4 ⟨rfl,h4,hW4⟩;have HP4:=qh (HP3.out.call h4 hW4);clear h4 hW4)
      | (refine zaa rfl 80 (.tmp 3) (.tmp 6) rfl w2.heap.size (plC ⟨X,zE,zE⟩ pl0) rr rr 80 (plC zPl pl0) (by exact Blk.new' rfl rfl) hdPl (za0 _ _) rfl ?_;intro w3 hb3 ho3;have HP3:Hid (PcS gp gs w2.heap.size A n c ts w ⟨X,zE,zE⟩ pl0 q1 w3):=⟨(H2.out.alloc _).only HLO.out HZ2.out.2.size ho3,Wr.newL (HZ2.out.2.alloc _) (Wr.onlyg (L:=[w2.heap.size]) ho3 sy) (fun g hg=>.inr (by simp at hg;have:=HZ2.out.2.size;omega)),ho3.blk (HZ2.out.1.alloc _) (by have:=HZ2.out.1.lt;omega),hb3,PlIn.zero _ _ _,HLO.out,HZ2.out.1.lt⟩;clear hb3 ho3)
      | refine zad rfl 80 [(0,.tmp 5)] rfl _ rr _ (zc7 X _) ?_
      | (go_at_call 48;(refine(HRF.out _ (by exact HH.out)).mono ?_);rintro e w2 ⟨rfl,h2,hW2⟩;have H2:=qh h2;have HZ2:Hid (Blk w2 w.heap.size 80 (plC zPl pl0)∧Wr [gp,gs] w w2):=⟨Blk.wr (Blk.new w _ _) hW2 HLO.out lr,((Wr.refl _ w).alloc _).trans hW2⟩;clear h2 hW2))
     obtain⟨e1,e2,e3⟩:=HP9.out.fin ho10;exact bodyPost_ret (res_c rfl _ w.heap.size 80 (plC ⟨X,zE,E2⟩ (pl0.1,a8)) rfl hb10 _ Tryz.underlying80 rfl hdPl) rfl ⟨(pl0.1,a8),rfl,e1,e2,e3⟩
 · have HA1:=HAL.out m_at q1
   rw[HAP.out,h1]at HA1;simp only[if_true]at HA1 ⊢;have HA1:=qh HA1;have HQN1:=qh (HGA.out q1 h1 HQ1.out).1;have HQ2:=qh (HGA.out q1 h1 HQ1.out).2;have HD1:=qh (fun W (h:PSt gp gs A n c ts (nxt q1) W)=>HAT.out (nxt q1) W h HQN1.out);generalize (atomP ts (exprP ts 14) (nxt q1)).1=E1 at *;generalize (atomP ts (exprP ts 14) (nxt q1)).2=q2 at *
   cases h2:sees ts [m_ex] q2
   · have HA2:=HAL.out m_ex q2
     rw[HAP.out,h2]at HA2;simp only[Bool.false_eq_true,if_false]at HA2 ⊢;have HA2:=qh HA2;clear HAL HAT HGA HGE HAP HC h1 h2
     go_enter Tryz.func51, Tryz.ntmps51
     go_wp2_with (first
      | (refine zaa rfl 80 (.tmp 2) (.tmp 17) rfl w.heap.size (plC ⟨X,E1,zE⟩ (a5,pl0.2)) rr rr 80 (plC zPl pl0) (by exact HP7.out.z) hdPl (za0 _ _) rfl ?_;intro w10 hb10 ho10)
      | (go_at_call 52;(with_reducible refine(HA2.out _ (by exact HP6.out.st)).mono ?_);rintro e w7 ⟨rfl,h7,hW7⟩;have HP7:=qh (HP6.out.call h7 hW7);have hl9:=zao HP7.out.e 80 0 (plC ⟨X,E1,zE⟩ (a5,pl0.2)) rfl _ Tryz.underlying80 rfl hdPl;clear h7 hW7)
      | (refine zab rfl 39 (.tmp 11) (.tmp 10) rfl w2.heap.size 2 (exC E1 a5) rr rr 80 (plC ⟨X,zE,zE⟩ pl0) (by exact HP5.out.e) hdEx (zai E1 a5) (by show 2+5≤12;omega) ?_;intro w6 hb6 ho6;have HP6:Hid (PcS gp gs w2.heap.size A n c ts w ⟨X,E1,zE⟩ (a5,pl0.2) q2 w6):=HP5.out.put ho6 (by exact hb6) ⟨HE5.out,HP5.out.ar.2⟩;clear hb6 ho6)
      | (go_at_call 84;(with_reducible refine(HD1.out _ (by exact HP4.out.st)).mono ?_);rintro e w5 ⟨a5,rfl,ha5,h5,hW5⟩;have HE5:=qh (PcS.fr HP4.out ha5);have HP5:=qh (HP4.out.call h5 hW5);clear ha5 h5 hW5)
      | (go_at_call 52;(with_reducible refine(HA1.out _ (by exact HP3.out.st)).mono ?_);rintro e w4 ⟨rfl,h4,hW4⟩;have HP4:=qh (HP3.out.call h4 hW4);clear h4 hW4)
      | (refine zaa rfl 80 (.tmp 3) (.tmp 6) rfl w2.heap.size (plC ⟨X,zE,zE⟩ pl0) rr rr 80 (plC zPl pl0) (by exact Blk.new' rfl rfl) hdPl (za0 _ _) rfl ?_;intro w3 hb3 ho3;have HP3:Hid (PcS gp gs w2.heap.size A n c ts w ⟨X,zE,zE⟩ pl0 q1 w3):=⟨(H2.out.alloc _).only HLO.out HZ2.out.2.size ho3,Wr.newL (HZ2.out.2.alloc _) (Wr.onlyg (L:=[w2.heap.size]) ho3 sy) (fun g hg=>.inr (by simp at hg;have:=HZ2.out.2.size;omega)),ho3.blk (HZ2.out.1.alloc _) (by have:=HZ2.out.1.lt;omega),hb3,PlIn.zero _ _ _,HLO.out,HZ2.out.1.lt⟩;clear hb3 ho3)
      | refine zad rfl 80 [(0,.tmp 5)] rfl _ rr _ (zc7 X _) ?_
      | (go_at_call 48;(refine(HRF.out _ (by exact HH.out)).mono ?_);rintro e w2 ⟨rfl,h2,hW2⟩;have H2:=qh h2;have HZ2:Hid (Blk w2 w.heap.size 80 (plC zPl pl0)∧Wr [gp,gs] w w2):=⟨Blk.wr (Blk.new w _ _) hW2 HLO.out lr,((Wr.refl _ w).alloc _).trans hW2⟩;clear h2 hW2))
     obtain⟨e1,e2,e3⟩:=HP7.out.fin ho10;exact bodyPost_ret (res_c rfl _ w.heap.size 80 (plC ⟨X,E1,zE⟩ (a5,pl0.2)) rfl hb10 _ Tryz.underlying80 rfl hdPl) rfl ⟨(a5,pl0.2),rfl,e1,e2,e3⟩
   · have HA2:=HAL.out m_ex q2
     rw[HAP.out,h2]at HA2;simp only[if_true]at HA2 ⊢;have HA2:=qh HA2;have HQN2:=qh (HGE.out q2 h2 HQ2.out);have HD2:=qh (fun W (h:PSt gp gs A n c ts (nxt q2) W)=>HAT.out (nxt q2) W h HQN2.out);generalize (atomP ts (exprP ts 14) (nxt q2)).1=E2 at *;generalize (atomP ts (exprP ts 14) (nxt q2)).2=q3 at *;clear HAL HAT HGA HGE HAP HC h1 h2
     go_enter Tryz.func51, Tryz.ntmps51
     go_wp2_with (first
      | (refine zaa rfl 80 (.tmp 2) (.tmp 17) rfl w.heap.size (plC ⟨X,E1,E2⟩ (a5,a8)) rr rr 80 (plC zPl pl0) (by exact HP9.out.z) hdPl (za0 _ _) rfl ?_;intro w10 hb10 ho10)
      | (refine zab rfl 39 (.tmp 16) (.tmp 15) rfl w2.heap.size 7 (exC E2 a8) rr rr 80 (plC ⟨X,E1,zE⟩ (a5,pl0.2)) (by exact HP8.out.e) hdEx (zai E2 a8) (by show 7+5≤12;omega) ?_;intro w9 hb9 ho9;have HP9:Hid (PcS gp gs w2.heap.size A n c ts w ⟨X,E1,E2⟩ (a5,a8) q3 w9):=HP8.out.put ho9 (by exact hb9) ⟨HP8.out.ar.1,HE8.out⟩;have hl9:=zao HP9.out.e 80 0 (plC ⟨X,E1,E2⟩ (a5,a8)) rfl _ Tryz.underlying80 rfl hdPl;clear hb9 ho9)
      | (go_at_call 84;(with_reducible refine(HD2.out _ (by exact HP7.out.st)).mono ?_);rintro e w8 ⟨a8,rfl,ha8,h8,hW8⟩;have HE8:=qh (PcS.fr HP7.out ha8);have HP8:=qh (HP7.out.call h8 hW8);clear ha8 h8 hW8)
      | (go_at_call 52;(with_reducible refine(HA2.out _ (by exact HP6.out.st)).mono ?_);rintro e w7 ⟨rfl,h7,hW7⟩;have HP7:=qh (HP6.out.call h7 hW7);clear h7 hW7)
      | (refine zab rfl 39 (.tmp 11) (.tmp 10) rfl w2.heap.size 2 (exC E1 a5) rr rr 80 (plC ⟨X,zE,zE⟩ pl0) (by exact HP5.out.e) hdEx (zai E1 a5) (by show 2+5≤12;omega) ?_;intro w6 hb6 ho6;have HP6:Hid (PcS gp gs w2.heap.size A n c ts w ⟨X,E1,zE⟩ (a5,pl0.2) q2 w6):=HP5.out.put ho6 (by exact hb6) ⟨HE5.out,HP5.out.ar.2⟩;clear hb6 ho6)
      | (go_at_call 84;(with_reducible refine(HD1.out _ (by exact HP4.out.st)).mono ?_);rintro e w5 ⟨a5,rfl,ha5,h5,hW5⟩;have HE5:=qh (PcS.fr HP4.out ha5);have HP5:=qh (HP4.out.call h5 hW5);clear ha5 h5 hW5)
      | (go_at_call 52;(with_reducible refine(HA1.out _ (by exact HP3.out.st)).mono ?_);rintro e w4 ⟨rfl,h4,hW4⟩;have HP4:=qh (HP3.out.call h4 hW4);clear h4 hW4)
      | (refine zaa rfl 80 (.tmp 3) (.tmp 6) rfl w2.heap.size (plC ⟨X,zE,zE⟩ pl0) rr rr 80 (plC zPl pl0) (by exact Blk.new' rfl rfl) hdPl (za0 _ _) rfl ?_;intro w3 hb3 ho3;have HP3:Hid (PcS gp gs w2.heap.size A n c ts w ⟨X,zE,zE⟩ pl0 q1 w3):=⟨(H2.out.alloc _).only HLO.out HZ2.out.2.size ho3,Wr.newL (HZ2.out.2.alloc _) (Wr.onlyg (L:=[w2.heap.size]) ho3 sy) (fun g hg=>.inr (by simp at hg;have:=HZ2.out.2.size;omega)),ho3.blk (HZ2.out.1.alloc _) (by have:=HZ2.out.1.lt;omega),hb3,PlIn.zero _ _ _,HLO.out,HZ2.out.1.lt⟩;clear hb3 ho3)
      | refine zad rfl 80 [(0,.tmp 5)] rfl _ rr _ (zc7 X _) ?_
      | (go_at_call 48;(refine(HRF.out _ (by exact HH.out)).mono ?_);rintro e w2 ⟨rfl,h2,hW2⟩;have H2:=qh h2;have HZ2:Hid (Blk w2 w.heap.size 80 (plC zPl pl0)∧Wr [gp,gs] w w2):=⟨Blk.wr (Blk.new w _ _) hW2 HLO.out lr,((Wr.refl _ w).alloc _).trans hW2⟩;clear h2 hW2))
     obtain⟨e1,e2,e3⟩:=HP9.out.fin ho10;exact bodyPost_ret (res_c rfl _ w.heap.size 80 (plC ⟨X,E1,E2⟩ (a5,a8)) rfl hb10 _ Tryz.underlying80 rfl hdPl) rfl ⟨(a5,a8),rfl,e1,e2,e3⟩
end
end
section
theorem hdDc:(Tryz.prog.info? 45).map (·.size)=some 9:=by kernel_rfl
theorem zh4(v:Value):Instr.loadAt 45 v=ldAt 45 v:=rfl
theorem ePl:ElemIs Tryz.prog 80 12 168:=ElemIs.of (z:=.agg (plC zPl pl0).toArray) kr rfl om
theorem onePl(X:Pl)(y:plA):(Tryz.prog.info? 80).map (fun i=>((i.zero.map (fun z=>z.cells.size)),i.size))=some (some (plC X y).length,(plC X y).length):=by kernel_rfl
theorem szSpl(w:World):(sizeOf 43).run Tryz.prog w=.ok 1 w:=by kernel_rfl
theorem agSpl(w:World):(isAgg 43).run Tryz.prog w=.ok false w:=by kernel_rfl
theorem zba(T:Pl)(p:plA):(plC T p).length=12:=rfl
def zDc:Dc:=⟨zs,zR,zE,[]⟩
theorem zby(T:Dc)(p:plA):∀v∈dcC T p,v.oneCell'=true:=by
 intro v hv;simp only[dcC,exC,List.mem_cons,List.mem_append,List.not_mem_nil,or_false]at hv
 rcases hv with (rfl|rfl|rfl)| (rfl|rfl|rfl|rfl|rfl)| rfl <;> rfl
theorem zkw(K:ByteArray)(w:World):(Instr.build 45 #[(0,.string K)]).run Tryz.prog w=.ok (.agg (dcC ⟨K,zR,zE,[]⟩ pl0).toArray) w:=by kernel_rfl
@[reducible] def dlC (K:ByteArray) (N:Rf) (v:Value):List Value:=[.string K,.string N.name,.int .i64 N.at_,.string zs,.int .i64 0,.string zs,.int .i64 0,.slice none 0 0,v]
structure DlS(gp gs:Nat)(A:Option Addr)(n c:Nat)(ts:List Lx.Tok)(w0:World)(g:Nat)(K:ByteArray)(N:Rf)(l:List Pl)(sl:List plA)(v:Value)(q:PS)(w:World):Prop where
 st:PSt gp gs A n c ts q w
 wr:Wr [gp,gs] w0 w
 z:Blk w w0.heap.size 45 (dcC zDc pl0)
 e:Blk w g 45 (dlC K N v)
 own:w.ownsRow (w0.heap.size+1) 80 12 v l.length (zipC plC l sl)
 nl:sl.length=l.length
 ob:∀k,v.ownBlock=some k→k≠g
 ar:∀(i:Nat) (e:Pl) (a:plA),l[i]? = some e→sl[i]? = some a→PlIn (Fj w0.heap.size g v) w e a
 lt:w0.heap.size<g
 lo:PLo gp gs A w0.heap.size
section
variable{gp gs:Nat}{A:Option Addr}{n c:Nat}{ts:List Lx.Tok}{s q q':PS}{w w' w0:World}{g:Nat}{K:ByteArray}{N:Rf}{l:List Pl}{sl:List plA}{v v':Value}{X:Pl}{y:plA}
theorem DlS.call(h:DlS gp gs A n c ts w0 g K N l sl v q w)(hs:PSt gp gs A n c ts q' w')(hW:Wr [gp,gs] w w'):DlS gp gs A n c ts w0 g K N l sl v q' w' :=
 ⟨hs,h.wr.trans hW,Blk.wr h.z hW h.lo lr,Blk.wr h.e hW (h.lo.mono (Nat.le_of_lt h.lt)) lr,
   za6 h.own (fun k hk hlt _=>hW.block k hlt (fun hm=>by have:=h.lo.all k hm;omega)),h.nl,h.ob,fun i e a h1 h2=>(h.ar i e a h1 h2).keep (zdk hW h.lo.all),h.lt,h.lo⟩
theorem DlS.fr(h:DlS gp gs A n c ts w0 g K N l sl v q w){B:Nat}(hB:w.heap.size≤B){W:World}(ha:PlIn (Fr B) W X y):PlIn (Fj w0.heap.size g v) W X y :=
 ha.keep ⟨lr,fun _ _ _=>rfl,fun k hk _=>by
  have h1:=h.e.lt;have h2:=h.lt
  unfold Fr at hk
  refine⟨by omega,by omega,fun e=>?_⟩;have h3:=(h.own.lt k e).2
  omega⟩
theorem DlS.push(h:DlS gp gs A n c ts w0 g K N l sl v q w)(hy:PlIn (Fj w0.heap.size g v) w X y){w5:World}(hg:(w.alloc (.cells (plC X y).toArray 80)).grownBy w5 v.ownBlock)
 (ho:w5.ownsRow (w0.heap.size+1) 80 12 v' (l.length+1) (zipC plC l sl++plC X y)) (hat:v'.ownBlock=v.ownBlock∨v'.ownBlock=some (w.alloc (.cells (plC X y).toArray 80)).heap.size):
 DlS gp gs A n c ts w0 g K N (l++[X]) (sl++[y]) v' q (w5.setCell ⟨g,8,none⟩ v'):=by
 have hlt:=h.lt;have hgl:=h.e.lt;have hobg:∀k,v.ownBlock=some k→w0.heap.size+1≤k:=fun k hk=>(h.own.lt k hk).1
 have hobl:∀k,v.ownBlock=some k→k<w.heap.size:=fun k hk=>(h.own.lt k hk).2
 have hsz:(w.alloc (.cells (plC X y).toArray 80)).heap.size=w.heap.size+1:=by simp
 have hsz5:(w.alloc (.cells (plC X y).toArray 80)).heap.size≤w5.heap.size:=hg.size;have hB5:Below (w0.heap.size+1) w w5:=((Below.refl _ w).alloc om _).grown hg om hobg;have hB6:Below (w0.heap.size+1) w (w5.setCell ⟨g,8,none⟩ v'):=hB5.setCell (by exact hlt) v'
 have hob':∀k,v'.ownBlock=some k→k≠g:=by
  intro k hk
  rcases hat with h1|h1
  · exact h.ob k (h1 ▸ hk)
  · rw[h1]at hk
    injection hk with hk
    omega
 have hK:Keep (Fj w0.heap.size g v) (Fj w0.heap.size g v') w (w5.setCell ⟨g,8,none⟩ v'):=by
  refine⟨hB6.size,fun k hk hkl=>?_,fun k hk hkl=>⟨hk.1,hk.2.1,fun e=>?_⟩⟩
  · rw[Below.heap_setCell w5 ⟨g,8,none⟩ v' k hk.2.1,hg.block k om hk.2.2.symm]
    exact Below.heap_alloc w _ k hkl
  · rcases hat with h1|h1
    · exact hk.2.2 (h1 ▸ e)
    · rw[h1]at e
      injection e with e
      omega
 refine⟨h.st.belowB (h.lo.mono (Nat.le_succ _)) hB6,h.wr.thenb (hB6.mono (Nat.le_succ _)),h.z.below hB6 (Nat.lt_succ_self _),?_,?_,by simp[h.nl],hob',?_,h.lt,h.lo⟩
 · exact(((h.e.alloc _).grown hg (fun e=>h.ob g e.symm rfl)).set_ 8 v')
 · rw[la9,zbo plC l sl X y h.nl]
   exact za6 ho (fun k hk hkl e=>Below.heap_setCell w5 ⟨g,8,none⟩ v' k (hob' k e))
 · intro i e a h1 h2
   by_cases hi:i<l.length
   · rw[ll9 hi]at h1
     rw[ll9 (by rw[h.nl];exact hi)]at h2;exact(h.ar i e a h1 h2).keep hK
   · have hi2:i=l.length:=by
      have:=(gi9.1 h1).1
      simp at this
      omega
     subst hi2;rw[ar9 lr,Nat.sub_self]at h1;rw[←h.nl,ar9 lr,Nat.sub_self]at h2
     simp at h1 h2
     subst h1 h2;exact hy.keep hK
theorem DlS.fin{A1:Option Addr}{c1:Nat}(h:DlS gp gs A n c ts w0 g K N l sl (.slice A1 l.length c1) q w)(ho:Only w w' w0.heap.size):DcIn (Fr w0.heap.size) w' ⟨K,N,zE,l⟩ ((none,0),(A1,c1))∧PSt gp gs A n c ts q w'∧Wr [gp,gs] w0 w':=by
 have hK:Keep (Fj w0.heap.size g (.slice A1 l.length c1)) (Fr w0.heap.size) w w':=(Wr.onlyg (L:=[w0.heap.size]) ho sy).keep _ _ (fun k hk _ hm=>by simp only[List.mem_cons,List.not_mem_nil,or_false]at hm;have:=hk.1;omega) (fun k hk _=>Nat.le_of_lt hk.1)
 have hr:RdF (fun k=>w0.heap.size<k) 12 w A1 l.length (zipC plC l sl):=⟨RdS.ofOwn3 h.own,fun hn ad e=>by
  obtain⟨b,off,e2,hb,_⟩:=(RdS.ofOwn3 h.own).2 hn;subst e
  injection e2 with e2
  subst e2
  exact⟨(h.own.lt b rfl).1,zck h.own rfl⟩⟩
 refine⟨⟨ArgsIn.nil _ _ _,sl,h.nl,hr.keep ((Wr.onlyg (L:=[w0.heap.size]) ho sy).keep (fun k=>w0.heap.size<k) (Fr w0.heap.size) (fun k hk _ hm=>by simp only[List.mem_cons,List.not_mem_nil,or_false]at hm;omega) (fun k hk _=>Nat.le_of_lt hk)),fun i s p h1 h2=>(h.ar i s p h1 h2).keep hK⟩,h.st.only h.lo lr ho,Wr.newL h.wr (Wr.onlyg (L:=[w0.heap.size]) ho sy) (fun g hg=>.inr (by simp at hg;omega))⟩
end
end
section
attribute [local go_sem ↓] zh4
structure DeS(gp gs gt:Nat)(A:Option Addr)(n c:Nat)(ts:List Lx.Tok)(w0:World)(T:Dc)(p:plA)(q:PS)(w:World):Prop where
 st:PSt gp gs A n c ts q w
 wr:Wr [gp,gs] w0 w
 z:Blk w w0.heap.size 45 (dcC zDc pl0)
 e:Blk w gt 45 (dcC T p)
 ar:DcIn (Fx w0.heap.size gt) w T p
 lo:PLo gp gs A w0.heap.size
 gl:w0.heap.size<gt
section
variable{gp gs gt:Nat}{A:Option Addr}{n c:Nat}{ts:List Lx.Tok}{s q q':PS}{w w' w0:World}{T T':Dc}{p p':plA}
theorem DcIn.zero(F:Nat→Prop)(w:World)(K:ByteArray)(N:Rf):DcIn F w ⟨K,N,zE,[]⟩ pl0:=⟨ArgsIn.nil _ _ _,PlsIn.nil _ _ _⟩
theorem DeS.call(h:DeS gp gs gt A n c ts w0 T p q w)(hs:PSt gp gs A n c ts q' w')(hW:Wr [gp,gs] w w'):DeS gp gs gt A n c ts w0 T p q' w' :=
 ⟨hs,h.wr.trans hW,Blk.wr h.z hW h.lo lr,Blk.wr h.e hW h.lo (Nat.le_of_lt h.gl),h.ar.keep (zb6 hW h.lo.all),h.lo,h.gl⟩
theorem DeS.put(h:DeS gp gs gt A n c ts w0 T p q w)(ho:Only w w' gt)(hb:Blk w' gt 45 (dcC T' p'))(ha:DcIn (Fx w0.heap.size gt) w T' p'):DeS gp gs gt A n c ts w0 T' p' q w' :=
 ⟨h.st.only (h.lo.mono (Nat.le_of_lt h.gl)) lr ho,Wr.newL h.wr (Wr.onlyg (L:=[gt]) ho sy) (fun g hg=>.inr (by simp at hg;have:=h.gl;omega)),ho.blk h.z (by have:=h.gl;omega),hb,
   ha.keep ((Wr.onlyg (L:=[gt]) ho sy).keep _ _ (fun k hk _ hm=>hk.2 (by simpa using hm)) (fun _ h _=>h)),h.lo,h.gl⟩
theorem DeS.fr(h:DeS gp gs gt A n c ts w0 T p q w){W:World}{B:Option Addr}{es:List Ex}(ha:ArgsIn (Fr w.heap.size) W B es):ArgsIn (Fx w0.heap.size gt) W B es :=
 ha.keep ⟨lr,fun _ _ _=>rfl,fun k hk _=>⟨by have:=h.e.lt;have:=h.gl;unfold Fr at hk;omega,by have:=h.e.lt;unfold Fr at hk;omega⟩⟩
theorem DeS.fin(h:DeS gp gs gt A n c ts w0 T p q w)(ho:Only w w' w0.heap.size):DcIn (Fr w0.heap.size) w' T p∧PSt gp gs A n c ts q w'∧Wr [gp,gs] w0 w' :=
 ⟨(h.ar.keep ((Wr.onlyg (L:=[w0.heap.size]) ho sy).keep (Fx w0.heap.size gt) (Fx w0.heap.size gt) (fun k hk _ hm=>by simp only[List.mem_cons,List.not_mem_nil,or_false]at hm;have:=hk.1;omega) (fun _ h _=>h))).keep zbk,
   h.st.only h.lo lr ho,Wr.newL h.wr (Wr.onlyg (L:=[w0.heap.size]) ho sy) (fun g hg=>.inr (by simp at hg;omega))⟩
def DeK(gp gs:Nat)(A:Option Addr)(n c:Nat)(ts:List Lx.Tok)(s:PS)(w:World):Prop :=
 Calls Tryz.prog 21 #[.pointer (some ⟨gp,0,none⟩)] w fun e w'=>∃p:plA,e=.returned (.agg (dcC (declP ts s).1 p).toArray)∧DcIn (Fr w.heap.size) w' (declP ts s).1 p∧PSt gp gs A n c ts (declP ts s).2 w'∧Wr [gp,gs] w w'
theorem zqg(cx:Cx gp gs A n ts)(h:PSt gp gs A n c ts s w)(hq:Q 14 s)(hs:s.i+1<ts.length)(hok:s.ok=true)(hK:bytesOf (pk ts s).text=k_let)(hk6:(tokAt ts s.i).kind≠6):DeK gp gs A n c ts s w:=by
 unfold DeK
 have HNX:=qh (fun W (h:PSt gp gs A n c ts s W)=>zcx cx h hk6);have HRF:=qh (fun W (h:PSt gp gs A n c ts (nxt s) W)=>ref_c cx h);have HT1:=qh (fun W (h:PSt gp gs A n c ts (refP ts (nxt s)).2 W)=>zb4 cx h m_eq);have g1:=nxt_g hs hok;have g2:=g1.trans (ref_g cx.ends (nxt s));have g3:=g2.trans (zas cx.ends m_eq _);have HEX:=qh (fun W (h:PSt gp gs A n c ts (takeP ts m_eq (refP ts (nxt s)).2) W)=>zbi cx 14 _ W h (hq.pg g3));have HT2:=qh (fun W (h:PSt gp gs A n c ts (exprP ts 14 (takeP ts m_eq (refP ts (nxt s)).2)).2 W)=>zb4 cx h m_semi);have HT:Hid (declP ts s=(⟨k_let,(refP ts (nxt s)).1,(exprP ts 14 (takeP ts m_eq (refP ts (nxt s)).2)).1,[]⟩,takeP ts m_semi (exprP ts 14 (takeP ts m_eq (refP ts (nxt s)).2)).2)):=by show _=_;unfold declP;dsimp only;rw[hK,if_pos rfl]
 rw[HT.out];have HLO:=qh (h.lo cx);have HH:=qh (h.alloc (.cells (dcC zDc pl0).toArray 45));have HC0:Hid (∀W,PSt gp gs A n c ts s W→W.cell? ⟨gp,0,none⟩=some (.pointer (some ⟨gs,0,none⟩))):=fun W h=>h.par.cell 0
 have c0:w.cell? ⟨gp,0,none⟩=some (.pointer (some ⟨gs,0,none⟩)):=h.par.cell 0;have hgl:=h.par.lt;clear h hq hs hok hk6 g1 g2 g3 HT;generalize (exprP ts 14 (takeP ts m_eq (refP ts (nxt s)).2)).1=E at *;generalize (exprP ts 14 (takeP ts m_eq (refP ts (nxt s)).2)).2=q4 at *;generalize takeP ts m_eq (refP ts (nxt s)).2=q3 at *;generalize (refP ts (nxt s)).1=X at *;generalize (refP ts (nxt s)).2=q2 at *;generalize nxt s=q1 at *
 unfold pk at hK
 unfold tokCells at HNX
 rw[hK]at HNX;generalize tokAt ts s.i=t at *;have hf:=fld1 (.int .i64 t.kind) (.string k_let) (.int .i64 t.num) (.int .i64 t.at_)
 unfold rfC at HRF
 clear hK
 go_enter Tryz.func21, Tryz.ntmps21
 go_upto_region 6 with (first
  | (go_at_call 47;(refine(HNX.out _ (by exact HH.out)).mono ?_);rintro e w2 ⟨rfl,h2,hW2⟩;have H2:=qh h2;have HZ2:Hid (Blk w2 w.heap.size 45 (dcC zDc pl0)∧Wr [gp,gs] w w2):=⟨Blk.wr (Blk.new w _ _) hW2 HLO.out lr,((Wr.refl _ w).alloc _).trans hW2⟩;clear h2 hW2 c0)
  | refine zad rfl 45 [(0,.tmp 9)] rfl _ rr _ (zkw _ _) ?_
  | (refine zaa rfl 45 (.tmp 3) (.tmp 10) rfl w2.heap.size (dcC ⟨k_let,zR,zE,[]⟩ pl0) rr rr 45 (dcC zDc pl0) (by exact Blk.new' rfl rfl) hdDc (zby _ _) rfl ?_;intro w3 hb3 ho3;have HP3:Hid (DeS gp gs w2.heap.size A n c ts w ⟨k_let,zR,zE,[]⟩ pl0 q1 w3):=⟨(H2.out.alloc _).only HLO.out HZ2.out.2.size ho3,Wr.newL (HZ2.out.2.alloc _) (Wr.onlyg (L:=[w2.heap.size]) ho3 sy) (fun g hg=>.inr (by simp at hg;have:=HZ2.out.2.size;omega)),ho3.blk (HZ2.out.1.alloc _) (by have:=HZ2.out.1.lt;omega),hb3,DcIn.zero _ _ _ _,HLO.out,HZ2.out.1.lt⟩;clear hb3 ho3)
  | (go_at_call 48;(refine(HRF.out _ (by exact HP3.out.st)).mono ?_);rintro e w4 ⟨rfl,h4,hW4⟩;have HP4:=qh (HP3.out.call h4 hW4);clear h4 hW4)
  | (refine zab rfl 36 (.tmp 13) (.tmp 12) rfl w2.heap.size 1 (rfC X) rr rr 45 (dcC ⟨k_let,zR,zE,[]⟩ pl0) (by exact HP4.out.e) hdRf (za4 X) (by show 1+2≤9;omega) ?_;intro w5 hb5 ho5;have HP5:Hid (DeS gp gs w2.heap.size A n c ts w ⟨k_let,X,zE,[]⟩ pl0 q2 w5):=HP4.out.put ho5 (by exact hb5) HP4.out.ar;clear hb5 ho5)
  | (go_at_call 49;(with_reducible refine(HT1.out _ (by exact HP5.out.st)).mono ?_);rintro e w6 ⟨rfl,h6,hW6⟩;have HP6:=qh (HP5.out.call h6 hW6);have k6:w6.cell? ⟨w2.heap.size,0,none⟩=some (.string k_let):=HP6.out.e.cell 0;clear h6 hW6))
 go_wp2_with (first
  | (go_at_call 50;(refine(HEX.out _ (by exact HP6.out.st)).mono ?_);rintro e w7 ⟨a7,rfl,ha7,h7,hW7⟩;have HE7:=qh (DeS.fr HP6.out ha7);have HP7:=qh (HP6.out.call h7 hW7);clear ha7 h7 hW7 k6)
  | (refine zab rfl 39 (.tmp 21) (.tmp 20) rfl w2.heap.size 3 (exC E a7) rr rr 45 (dcC ⟨k_let,X,zE,[]⟩ pl0) (by exact HP7.out.e) hdEx (zai E a7) (by show 3+5≤9;omega) ?_;intro w8 hb8 ho8;have HP8:Hid (DeS gp gs w2.heap.size A n c ts w ⟨k_let,X,E,[]⟩ (a7,pl0.2) q4 w8):=HP7.out.put ho8 (by exact hb8) ⟨HE7.out,HP7.out.ar.2⟩;clear hb8 ho8)
  | (go_at_call 49;(with_reducible refine(HT2.out _ (by exact HP8.out.st)).mono ?_);rintro e w9 ⟨rfl,h9,hW9⟩;have HP9:=qh (HP8.out.call h9 hW9);have hl9:=zao HP9.out.e 45 0 (dcC ⟨k_let,X,E,[]⟩ (a7,pl0.2)) rfl _ Tryz.underlying45 rfl hdDc;clear h9 hW9)
  | (refine zaa rfl 45 (.tmp 2) (.tmp 40) rfl w.heap.size (dcC ⟨k_let,X,E,[]⟩ (a7,pl0.2)) rr rr 45 (dcC zDc pl0) (by exact HP9.out.z) hdDc (zby _ _) rfl ?_;intro w10 hb10 ho10))
 obtain⟨e1,e2,e3⟩:=HP9.out.fin ho10;exact bodyPost_ret (res_c rfl _ w.heap.size 45 (dcC ⟨k_let,X,E,[]⟩ (a7,pl0.2)) rfl hb10 _ Tryz.underlying45 rfl hdDc) rfl ⟨(a7,pl0.2),rfl,e1,e2,e3⟩
end
end
section
attribute [local go_sem ↓] zh4
section
variable{gp gs gt:Nat}{A:Option Addr}{n c:Nat}{ts:List Lx.Tok}{s q q':PS}{w w' w0:World}
theorem zlv(cx:Cx gp gs A n ts)(h:PSt gp gs A n c ts s w)(hq:Q 14 s)(hs:s.i+1<ts.length)(hok:s.ok=true)(hK:bytesOf (pk ts s).text=k_route)(hk6:(tokAt ts s.i).kind≠6):DeK gp gs A n c ts s w:=by
 unfold DeK
 have HNX:=qh (fun W (h:PSt gp gs A n c ts s W)=>zcx cx h hk6);have HRF:=qh (fun W (h:PSt gp gs A n c ts (nxt s) W)=>ref_c cx h);have HT1:=qh (fun W (h:PSt gp gs A n c ts (refP ts (nxt s)).2 W)=>zb4 cx h m_eq);have g1:=nxt_g hs hok;have g2:=g1.trans (ref_g cx.ends (nxt s));have g3:=g2.trans (zas cx.ends m_eq _);have HPL:=qh (fun q W (h:PSt gp gs A n c ts q W) (hq:Q 14 q)=>zr5 cx h hq);have HPL1:=qh (fun W (h:PSt gp gs A n c ts (takeP ts m_eq (refP ts (nxt s)).2) W)=>HPL.out _ W h (hq.pg g3));have HAL:=qh (fun q W (h:PSt gp gs A n c ts q W)=>zdp cx h m_gt);have HT2:=qh (fun q W (h:PSt gp gs A n c ts q W)=>zb4 cx h m_semi);have HT:Hid (declP ts s=(⟨k_route,(refP ts (nxt s)).1,zE,(placeLoop ts (ts.length+1) [(placeP ts (takeP ts m_eq (refP ts (nxt s)).2)).1] (placeP ts (takeP ts m_eq (refP ts (nxt s)).2)).2).1⟩,takeP ts m_semi (placeLoop ts (ts.length+1) [(placeP ts (takeP ts m_eq (refP ts (nxt s)).2)).1] (placeP ts (takeP ts m_eq (refP ts (nxt s)).2)).2).2)):=by show _=_;unfold declP;dsimp only;rw[hK,if_neg (by decide)]
 rw[HT.out];have HQ8:=qh ((hq.pg g3).pg (zb9 cx.ends (takeP ts m_eq (refP ts (nxt s)).2)));have HLO:=qh (h.lo cx);have HH:=qh (h.alloc (.cells (dcC zDc pl0).toArray 45));have c0:w.cell? ⟨gp,0,none⟩=some (.pointer (some ⟨gs,0,none⟩)):=h.par.cell 0;have hgl:=h.par.lt;have HCX:=qh cx;clear h hq hs hok hk6 g1 g2 g3 HT;generalize (placeP ts (takeP ts m_eq (refP ts (nxt s)).2)).1=X8 at *;generalize (placeP ts (takeP ts m_eq (refP ts (nxt s)).2)).2=q8 at *;generalize takeP ts m_eq (refP ts (nxt s)).2=q3 at *;generalize (refP ts (nxt s)).1=X at *;generalize (refP ts (nxt s)).2=q2 at *;generalize nxt s=q1 at *;generalize hRR:placeLoop ts (ts.length+1) [X8] q8=R at *;have HRR:=qh hRR;clear hRR
 unfold pk at hK
 unfold tokCells at HNX
 rw[hK]at HNX;generalize tokAt ts s.i=t at *;have hf:=fld1 (.int .i64 t.kind) (.string k_route) (.int .i64 t.num) (.int .i64 t.at_)
 unfold rfC at HRF
 clear hK
 go_enter Tryz.func21, Tryz.ntmps21
 go_upto_region 6 with (first
  | (go_at_call 47;(refine(HNX.out _ (by exact HH.out)).mono ?_);rintro e w2 ⟨rfl,h2,hW2⟩;have H2:=qh h2;have HZ2:Hid (Blk w2 w.heap.size 45 (dcC zDc pl0)∧Wr [gp,gs] w w2):=⟨Blk.wr (Blk.new w _ _) hW2 HLO.out lr,((Wr.refl _ w).alloc _).trans hW2⟩;clear h2 hW2 c0)
  | refine zad rfl 45 [(0,.tmp 9)] rfl _ rr _ (zkw _ _) ?_
  | (refine zaa rfl 45 (.tmp 3) (.tmp 10) rfl w2.heap.size (dcC ⟨k_route,zR,zE,[]⟩ pl0) rr rr 45 (dcC zDc pl0) (by exact Blk.new' rfl rfl) hdDc (zby _ _) rfl ?_;intro w3 hb3 ho3;have HP3:Hid (DeS gp gs w2.heap.size A n c ts w ⟨k_route,zR,zE,[]⟩ pl0 q1 w3):=⟨(H2.out.alloc _).only HLO.out HZ2.out.2.size ho3,Wr.newL (HZ2.out.2.alloc _) (Wr.onlyg (L:=[w2.heap.size]) ho3 sy) (fun g hg=>.inr (by simp at hg;have:=HZ2.out.2.size;omega)),ho3.blk (HZ2.out.1.alloc _) (by have:=HZ2.out.1.lt;omega),hb3,DcIn.zero _ _ _ _,HLO.out,HZ2.out.1.lt⟩;clear hb3 ho3)
  | (go_at_call 48;(refine(HRF.out _ (by exact HP3.out.st)).mono ?_);rintro e w4 ⟨rfl,h4,hW4⟩;have HP4:=qh (HP3.out.call h4 hW4);clear h4 hW4)
  | (refine zab rfl 36 (.tmp 13) (.tmp 12) rfl w2.heap.size 1 (rfC X) rr rr 45 (dcC ⟨k_route,zR,zE,[]⟩ pl0) (by exact HP4.out.e) hdRf (za4 X) (by show 1+2≤9;omega) ?_;intro w5 hb5 ho5;have HP5:Hid (DeS gp gs w2.heap.size A n c ts w ⟨k_route,X,zE,[]⟩ pl0 q2 w5):=HP4.out.put ho5 (by exact hb5) HP4.out.ar;clear hb5 ho5)
  | (go_at_call 49;(with_reducible refine(HT1.out _ (by exact HP5.out.st)).mono ?_);rintro e w6 ⟨rfl,h6,hW6⟩;have HP6:=qh (HP5.out.call h6 hW6);have k6:w6.cell? ⟨w2.heap.size,0,none⟩=some (.string k_route):=HP6.out.e.cell 0;clear h6 hW6))
 have J5:Hid (DlS gp gs A n c ts w w2.heap.size k_route X [] [] (.slice none 0 0) q3 w6):=⟨HP6.out.st,HP6.out.wr,HP6.out.z,HP6.out.e,World.ownsRow_nil _ _ _ _,rfl,fun k hk=>(by cases hk),fun i e a h1 _=>(by simp at h1),HP6.out.gl,HP6.out.lo⟩;clear HP3 HP4 HP5 HP6 H2 HZ2 k6 HNX HRF HT1 HH;generalize w2.heap.size=G at *;have HD8:Hid (DlS gp gs A n c ts w G k_route X [] [] (.slice none 0 0) q3 w6.drew):=J5.out.call (J5.out.st.below ((Below.refl _ _).drew)) (Wr.of_below ((Below.refl _ _).drew));refine kgo kr 7 (fun W'=>Blk W' G 45 (dlC k_route X (.slice none 0 0))) HD8.out.e (fun _ _ _ _ _ h=>h) ?_;refine kp 0 (.pointer (some ⟨G,8,none⟩)) rfl kr (fun _=>kr) ?_;refine kl 1 (.slice none 0 0) rfl kr (fun w' hw'=>zaq (t:=43) (x:=.tmp 22) rr kr agSpl (hw'.cell 8)) ?_;refine kp 2 (.pointer (some ⟨gp,0,none⟩)) rfl kr (fun _=>kr) ?_;intro q8 q9;clear q8 q9;refine AnyK.enter 3 (d:=some 25) (f:=51) (args:=#[.pointer (some ⟨gp,0,none⟩)]) rr kr kr ?_;refine(HPL1.out _ HD8.out.st).mono ?_;rintro e wx ⟨y,rfl,hy,hx,hWx⟩;have HX8:=qh (HD8.out.call hx hWx);have HY8:Hid (PlIn (Fj w.heap.size G (.slice none 0 0)) wx X8 y):=HD8.out.fr lr hy;have hl8:=HX8.out.lt;have hm8:=HX8.out.e.lt;clear hy hx hWx;refine⟨_,rfl,fun _=>HX8.out.e,?_⟩;refine AnyK.main 4 rr kr rfl (fun K hK=>zca (zcp 43 80 (.tmp 25) rr (plC X8 y) kr Tryz.underlying43 (by exact onePl X8 y) (by rw[zba];omega) (by rw[zba];omega)) (hK _ _ ⟨fun _=>HX8.out.e.alloc _,?_⟩));refine AnyK.main 5 rr kr rfl (fun K hK=>zc8 (.tmp 23) (.tmp 26) 43 rr (w.heap.size+1) 80 12 168 Tryz.underlying43 ePl (.slice none 0 0) 0 (zipC plC [] []) kr (HX8.out.own.alloc _) (some ⟨wx.heap.size,0,none⟩) 1 1 (plC X8 y) kr (RdS.new wx _ (plC X8 y) 12 rfl) (za0 _ _) om om (by simp;omega) (fun A7 c7 w7 hown7 hc7 hg7 hat7=>hK _ _ ⟨fun _=>(HX8.out.e.alloc _).grown hg7 (fun e=>HX8.out.ob _ e.symm rfl),?_⟩));have hb7:=(HX8.out.e.alloc (.cells (plC X8 y).toArray 80)).grown hg7 (fun e=>HX8.out.ob _ e.symm rfl);refine AnyK.val 6 (v:=.pointer (some ⟨G,8,none⟩)) rr kr rfl kr (fun _=>hb7) ?_;have HP8:=qh (HX8.out.push HY8.out hg7 hown7 hat7);refine AnyK.store 7 (d:=none) (w':=w7.setCell ⟨G,8,none⟩ (.slice A7 (0+1) c7)) rr (fun o ho=>zbx ho kr kr szSpl (hb7.cell 8) (hb7.frozen 8)) kr (fun h=>(by cases h)) ?_;refine AnyK.done kr ?_;clear hb7 hown7 hg7 hat7;go_wp2;simp only[List.getElem_toArray,List.getElem_cons_zero,List.getElem_cons_succ,Act.put,List.setIfInBounds_toArray,List.set_cons_succ,List.set_cons_zero];have HTL:=qh (fun(kk:Nat) (l:List Pl) (q:PS)=>(⟨fun h=>(by rw[placeLoop,if_neg (by rw[h];simp)]),fun h=>(by rw[placeLoop,if_pos h])⟩:(sees ts [m_gt] q=false→placeLoop ts (kk+1) l q=(l,q))∧(sees ts [m_gt] q=true→placeLoop ts (kk+1) l q=placeLoop ts kk (l++[(placeP ts (nxt q)).1]) (placeP ts (nxt q)).2)));clear J5 HD8 HX8 HY8 hm8 HPL1
 go_loopg [] ts.length (fun kk wr=>∃(l:List Pl) (sl:List plA) (A1:Option Addr) (c1:Nat) (q:PS),DlS gp gs A n c ts w G k_route X l sl (.slice A1 l.length c1) q wr∧ts.length≤kk+q.i∧l.length≤q.i+1∧placeLoop ts (kk+1) l q=R∧Q 14 q)
 case atStart=>exact⟨[X8],[y],A7,c7,q8,HP8.out,by omega,by simp,HRR.out,HQ8.out⟩
 case round =>
  clear HP8 HRR HQ8;obtain⟨l,sl,A1,c1,q,hS,hk,hll,hT,hQ⟩:=hrel
  cases hs:sees ts [m_gt] q
  · have HS:=qh hS
    have HAA:=HAL.out q _ hS.st;have HRE:Hid (R=(l,q)):=hT.symm.trans ((HTL.out gk l q).1 hs);have HAP:Hid (alsoP ts m_gt q=q):=(by show _=_;unfold alsoP;rw[hs];rfl);rw[hs,HAP.out]at HAA;have HALL:=qh HAA;have HTT:=qh (fun W (h:PSt gp gs A n c ts q W)=>HT2.out q W h);clear hS hk hll hT hQ hs HAA HTL HAL HT2 HPL
    go_wp2_with (first
     | (go_at_call 52;(refine(HALL.out).mono ?_);rintro e w8 ⟨rfl,h8,hW8⟩;have HS8:=qh (HS.out.call h8 hW8);clear h8 hW8)
     | (go_at_call 49;(refine(HTT.out _ (by exact HS8.out.st)).mono ?_);rintro e w9 ⟨rfl,h9,hW9⟩;have HS9:=qh (HS8.out.call h9 hW9);have hl9:=zao HS9.out.e 45 0 (dlC k_route X (.slice A1 l.length c1)) rfl _ Tryz.underlying45 rfl hdDc;clear h9 hW9)
     | (refine zaa rfl 45 (.tmp 2) (.tmp 40) rfl w.heap.size (dcC ⟨k_route,X,zE,l⟩ ((none,0),(A1,c1))) rr rr 45 (dcC zDc pl0) (by exact HS9.out.z) hdDc (zby _ _) rfl ?_;intro w10 hb10 ho10))
    obtain⟨e1,e2,e3⟩:=HS9.out.fin ho10;refine bodyPost_ret (res_c rfl _ w.heap.size 45 (dcC ⟨k_route,X,zE,l⟩ ((none,0),(A1,c1))) rfl hb10 _ Tryz.underlying45 rfl hdDc) rfl ?_;rw[HRE.out];exact⟨((none,0),(A1,c1)),rfl,e1,e2,e3⟩
  · have HS:=qh hS
    have HAA:=HAL.out q _ hS.st;have hlt:=zan HCX.out.ends hs;have HAP:Hid (alsoP ts m_gt q=nxt q):=(by show _=_;unfold alsoP;rw[hs];rfl);rw[hs,HAP.out]at HAA;have HALL:=qh HAA;have hQ2:Q 14 (nxt q):=hQ.pg (nxt_g hlt (zaj hs));have HFX:=qh (fun W (h:PSt gp gs A n c ts (nxt q) W)=>HPL.out (nxt q) W h hQ2);have HQ3:=qh (hQ2.pg (zb9 HCX.out.ends (nxt q)));have HI3:Hid (q.i+1≤(placeP ts (nxt q)).2.i):=(zb9 HCX.out.ends (nxt q)).le;have HT3:=qh (((HTL.out gk l q).2 hs).symm.trans hT);have hl9:l.length≤100000:=by have h1:=HCX.out.hn;have h2:=HCX.out.hn8;omega
    have HKL:=qh (And.intro hk (And.intro hlt hll));clear hS hk hll hT hQ hs HAA HTL HAL HPL hlt hQ2 HAP HT2;generalize (placeP ts (nxt q)).1=X9 at *;generalize (placeP ts (nxt q)).2=q3' at *
    go_wp2_with (go_at_call 52;(refine(HALL.out).mono ?_);rintro e w8 ⟨rfl,h8,hW8⟩;have HS8:=qh (HS.out.call h8 hW8);clear h8 hW8)
    have HD9:Hid (DlS gp gs A n c ts w G k_route X l sl (.slice A1 l.length c1) (nxt q) w8.drew):=HS8.out.call (HS8.out.st.below ((Below.refl _ _).drew)) (Wr.of_below ((Below.refl _ _).drew));refine kgo kr 7 (fun W'=>Blk W' G 45 (dlC k_route X (.slice A1 l.length c1))) HD9.out.e (fun _ _ _ _ _ h=>h) ?_;refine kp 0 (.pointer (some ⟨G,8,none⟩)) rfl kr (fun _=>kr) ?_;refine kl 1 (.slice A1 l.length c1) rfl kr (fun w' hw'=>zaq (t:=43) (x:=.tmp 31) rr kr agSpl (hw'.cell 8)) ?_;refine kp 2 (.pointer (some ⟨gp,0,none⟩)) rfl kr (fun _=>kr) ?_;intro q8 q9;clear q8 q9;refine AnyK.enter 3 (d:=some 34) (f:=51) (args:=#[.pointer (some ⟨gp,0,none⟩)]) rr kr kr ?_;refine(HFX.out _ HD9.out.st).mono ?_;rintro e wx ⟨y,rfl,hy,hx,hWx⟩;have HX9:=qh (HD9.out.call hx hWx);have HY9:Hid (PlIn (Fj w.heap.size G (.slice A1 l.length c1)) wx X9 y):=HD9.out.fr lr hy;have hl9:=HX9.out.lt;have hm9:=HX9.out.e.lt;clear hy hx hWx;refine⟨_,rfl,fun _=>HX9.out.e,?_⟩;refine AnyK.main 4 rr kr rfl (fun K hK=>zca (zcp 43 80 (.tmp 34) rr (plC X9 y) kr Tryz.underlying43 (by exact onePl X9 y) (by rw[zba];omega) (by rw[zba];omega)) (hK _ _ ⟨fun _=>HX9.out.e.alloc _,?_⟩));refine AnyK.main 5 rr kr rfl (fun K hK=>zc8 (.tmp 32) (.tmp 35) 43 rr (w.heap.size+1) 80 12 168 Tryz.underlying43 ePl (.slice A1 l.length c1) l.length (zipC plC l sl) kr (HX9.out.own.alloc _) (some ⟨wx.heap.size,0,none⟩) 1 1 (plC X9 y) kr (RdS.new wx _ (plC X9 y) 12 rfl) (za0 _ _) om om (by simp;omega) (fun A7 c7 w7 hown7 hc7 hg7 hat7=>hK _ _ ⟨fun _=>(HX9.out.e.alloc _).grown hg7 (fun e=>HX9.out.ob _ e.symm rfl),?_⟩));have hb7:=(HX9.out.e.alloc (.cells (plC X9 y).toArray 80)).grown hg7 (fun e=>HX9.out.ob _ e.symm rfl);refine AnyK.val 6 (v:=.pointer (some ⟨G,8,none⟩)) rr kr rfl kr (fun _=>hb7) ?_;have HP9:=qh (HX9.out.push HY9.out hg7 hown7 hat7);refine AnyK.store 7 (d:=none) (w':=w7.setCell ⟨G,8,none⟩ (.slice A7 (l.length+1) c7)) rr (fun o ho=>zbx ho kr kr szSpl (hb7.cell 8) (hb7.frozen 8)) kr (fun h=>(by cases h)) ?_;refine AnyK.done kr ?_;clear hb7 hown7 hg7 hat7;go_wp2;have hk5:=HKL.out;have hi5:=HI3.out;go_roundg (gk-1)
    case measure=>omega
    case rel=>exact⟨l++[X9],sl++[y],A7,c7,q3',by rw[la9];exact HP9.out,by omega,by rw[la9,List.length_singleton];omega,by rw[show gk-1+1=gk by omega];exact HT3.out,HQ3.out⟩
theorem decl_c(cx:Cx gp gs A n ts)(h:PSt gp gs A n c ts s w)(hq:Q 14 s)(hs:sees ts [k_let,k_route] s=true):DeK gp gs A n c ts s w:=by
 have h1:=zan cx.ends hs;have h2:=zaj hs;have h3:isOf (pk ts s) [k_let,k_route]=true:=by unfold sees at hs;rw[h2]at hs;simpa using hs
 have hk6:(tokAt ts s.i).kind≠6:=fun e=>by unfold isOf pk at h3;rw[e]at h3;simp at h3
 have h4:bytesOf (pk ts s).text∈[k_let,k_route]:=by
  unfold isOf at h3
  simp only[Bool.and_eq_true]at h3;exact zbz.1 h3.2
 simp only[List.mem_cons,List.not_mem_nil,or_false]at h4
 rcases h4 with h4|h4
 · exact zqg cx h hq h1 h2 h4 hk6
 · exact zlv cx h hq h1 h2 h4 hk6
end
end
section
structure TpS(gp gs G:Nat)(A:Option Addr)(n c:Nat)(ts:List Lx.Tok)(w0:World)(vD:Value)(l:List St)(sl:List StA)(v:Value)(q:PS)(w:World):Prop where
 st:PSt gp gs A n c ts q w
 wr:Wr [gp,gs,G] w0 w
 e:Blk w G 26 [vD,v]
 own:w.ownsRow w0.heap.size 42 26 v l.length (zipC stC l sl)
 nl:sl.length=l.length
 ar:∀(i:Nat) (s:St) (p:StA),l[i]? = some s→sl[i]? = some p→StIn (Fv w0.heap.size v) w s p
 lo:PLo gp gs A G
 lt:G<w0.heap.size
section
variable{gp gs G:Nat}{A:Option Addr}{n c:Nat}{ts:List Lx.Tok}{s q q':PS}{w w' w0:World}{vD:Value}{l:List St}{sl:List StA}{v v':Value}{X:St}{y:StA}
theorem TpS.nin(h:TpS gp gs G A n c ts w0 vD l sl v q w):∀x∈[gp,gs,G],x<w0.heap.size:=by
 intro x hx;have h1:=h.lo.1;have h2:=h.lo.2.1;have h3:=h.lt;simp only[List.mem_cons,List.not_mem_nil,or_false]at hx;omega
theorem TpS.call(h:TpS gp gs G A n c ts w0 vD l sl v q w)(hs:PSt gp gs A n c ts q' w')(hW:Wr [gp,gs] w w'):TpS gp gs G A n c ts w0 vD l sl v q' w':=by
 have hW3:Wr [gp,gs,G] w w':=hW.mono (fun g hg=>by simp only[List.mem_cons,List.not_mem_nil,or_false]at hg ⊢;omega)
 exact ⟨hs,h.wr.trans hW3,Blk.wr h.e hW h.lo lr,za6 h.own (fun k hk hlt _=>hW3.block k hlt (fun hm=>by have:=h.nin k hm;omega)),h.nl,
   fun i s p h1 h2=>(h.ar i s p h1 h2).keep (hW3.keep _ _ (fun k hk _ hm=>by have h5:=h.nin k hm;have h6:=hk.1;omega) (fun _ h _=>h)),h.lo,h.lt⟩
theorem TpS.fr(h:TpS gp gs G A n c ts w0 vD l sl v q w){B:Nat}(hB:w.heap.size≤B){W:World}{T:St}{p:StA}(ha:StIn (Fr B) W T p):StIn (Fv w0.heap.size v) W T p :=
 ha.keep ⟨lr,fun _ _ _=>rfl,fun k hk _=>⟨by have:=h.wr.size;unfold Fr at hk;omega,fun e=>by have:=(h.own.lt k e).2;unfold Fr at hk;omega⟩⟩
theorem TpS.push(h:TpS gp gs G A n c ts w0 vD l sl v q w)(hy:StIn (Fv w0.heap.size v) w X y){w5:World}(hg:(w.alloc (.cells (stC X y).toArray 42)).grownBy w5 v.ownBlock)
 (ho:w5.ownsRow w0.heap.size 42 26 v' (l.length+1) (zipC stC l sl++stC X y)) (hat:v'.ownBlock=v.ownBlock∨v'.ownBlock=some (w.alloc (.cells (stC X y).toArray 42)).heap.size):
 TpS gp gs G A n c ts w0 vD (l++[X]) (sl++[y]) v' q (w5.setCell ⟨G,1,none⟩ v'):=by
 have hlt:=h.lt;have hobl:∀k,v.ownBlock=some k→w0.heap.size≤k∧k<w.heap.size:=fun k hk=>h.own.lt k hk
 have hsz:(w.alloc (.cells (stC X y).toArray 42)).heap.size=w.heap.size+1:=by simp
 have hB5:Below w0.heap.size w w5:=((Below.refl _ w).alloc h.wr.size _).grown hg (Nat.le_trans h.wr.size sy) (fun k hk=>(h.own.lt k hk).1);have hW5:Wr [gp,gs,G] w0 w5:=h.wr.thenb hB5
 have hob':∀k,v'.ownBlock=some k→w0.heap.size≤k:=by
  intro k hk
  rcases hat with h1|h1
  · exact(hobl k (h1 ▸ hk)).1
  · rw[h1]at hk
    injection hk with hk
    have:=h.wr.size;omega
 have hK:Keep (Fv w0.heap.size v) (Fv w0.heap.size v') w (w5.setCell ⟨G,1,none⟩ v'):=by
  refine⟨Nat.le_trans hB5.size (by simp[World.setCell]),fun k hk hkl=>?_,fun k hk hkl=>⟨hk.1,fun e=>?_⟩⟩
  · rw[Below.heap_setCell w5 ⟨G,1,none⟩ v' k (by have:=hk.1;show k≠G;omega),hg.block k om hk.2.symm]
    exact Below.heap_alloc w _ k hkl
  · rcases hat with h1|h1
    · exact hk.2 (h1 ▸ e)
    · rw[h1]at e
      injection e with e
      omega
 refine⟨(h.st.belowB (h.lo.mono (Nat.le_of_lt hlt)) hB5).setNew h.lo (p:=⟨G,1,none⟩) lr _,hW5.setCell sy _,?_,?_,by simp[h.nl],?_,h.lo,h.lt⟩
 · exact((h.e.alloc _).grown hg (fun e=>by have:=(hobl G e.symm).1;omega)).set_ 1 v'
 · rw[la9,zbo stC l sl X y h.nl]
   exact za6 ho (fun k hk hkl e=>Below.heap_setCell w5 ⟨G,1,none⟩ v' k (by have:=hob' k e;show k≠G;omega))
 · intro i s p h1 h2
   rcases Nat.lt_or_ge i l.length with hi|hi
   · rw[ll9 hi]at h1
     rw[ll9 (by rw[h.nl];exact hi)]at h2;exact(h.ar i s p h1 h2).keep hK
   · have hi0:i=l.length:=by
      have:=(gi9.1 h1).1
      simp at this
      omega
     subst hi0
     simp at h1
     rw[←h.nl]at h2
     simp at h2
     subst h1 h2;exact hy.keep hK
theorem TpS.fin(h:TpS gp gs G A n c ts w0 vD l sl v q w):∃A' c',v=.slice A' l.length c'∧BodyIn (Fr w0.heap.size) w A' l:=by
 obtain⟨A',c',rfl,hc⟩:=zcc h.own;have hK:Keep (Fv w0.heap.size (.slice A' l.length c')) (Fr w0.heap.size) w w:=⟨lr,fun _ _ _=>rfl,fun k hk _=>hk.1⟩;refine⟨A',c',rfl,.mk A' l sl h.nl ⟨RdS.ofOwn3 h.own,fun hn ad e=>?_⟩ (fun i s p h1 h2=>((h.ar i s p h1 h2).keep hK).1) (fun i s p h1 h2=>((h.ar i s p h1 h2).keep hK).2.1) (fun i s p h1 h2=>((h.ar i s p h1 h2).keep hK).2.2)⟩;subst e;have h5:=h.own
 rcases h5.2 with ⟨h6,h0⟩|⟨g,cap,cur,hv,hb,_⟩
 · omega
 · injection hv with hA
   injection hA with hA
   subst hA;exact⟨hb,zck h5 rfl⟩
theorem Stm.tok{g:Nat}{i:Nat}(h:Stm g A n c i ts w)(hn:ts.length=n)(h0:0<n):∀ad:Addr,A=some ad→ad.block≠g:=by
 intro ad hA e;obtain⟨b,off,e2,hb,hc⟩:=h.2.2 h0;rw[hA]at e2
 injection e2 with e2
 subst e2;simp only at e;subst e;have hl:=h.2.1;have h2:=hc 2 _ (ge9 (by rw[hl];omega));rw[h.1.cell]at h2;rw[List.getElem?_eq_none sy]at h2
 cases h2
theorem QS0:QS 14 s0:=⟨⟨by decide,by decide,by decide,fun _=>⟨by decide,by decide⟩⟩,by decide,by decide,by decide,fun _=>⟨by decide,by decide⟩⟩
end
end
end Go.Proofs.YtafjkbbiaopemaaGreatDoor.Tr
