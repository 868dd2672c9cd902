/- Part of the proof. -/
import Derived.Test.YtafjkbbiaopemaaGreatDoorBax21
set_option linter.all false
set_option maxRecDepth 100000
set_option maxHeartbeats 0
namespace Go.Proofs.YtafjkbbiaopemaaGreatDoor.Tr
open Go.RowKit
section
section
variable{gp gs:Nat}{A:Option Addr}{n c:Nat}{ts:List Lx.Tok}
theorem zh8{e:Int}(he:e≠0)(s:PS):(failP ts e s).ok=false:=by
 unfold failP
 split
 · exact beq_false_of_ne he
 · rename_i h;simpa using h
theorem zl2(HT:Ends ts){st:PS→St × PS}(HX:∀s,Pg ts s (st s).2){s:PS}(h:sees ts ten s=true):Pg ts (nxt s) (stmtG ts st s).2:=by
 unfold stmtG
 rw[if_pos h];have E:=zaw HT 14;have B:=zid HT HX;dsimp only
 split
 · exact(E _).trans (B _)
 split
 · exact((ref_g HT _).trans (E _)).trans (B _)
 split
 · refine(((zar HT k_acked _)).trans (ref_g HT _)).trans ((B _).trans ?_)
   split
   · rename_i h2;exact(nxt_g (zam HT h2) (zag h2)).trans (B _)
   · exact Pg.refl _
 · exact(zn8 HT _ _ _).trans (zar HT _ _)
theorem zht(HT:Ends ts):∀(d:Nat) (s:PS),(stmtP ts d s).2.ok=true→s.i+1≤(stmtP ts d s).2.i
 | 0,s,h=>by rw[show(stmtP ts 0 s).2=failP ts 9 s from rfl,zh8 (by decide)]at h;cases h
 | d+1,s,h=>by
  have e:stmtP ts (d+1) s=stmtG ts (stmtP ts d) s:=rfl;rw[e]at h ⊢
  cases hs:sees ts ten s
  · rw[show(stmtG ts (stmtP ts d) s).2=failP ts 9 s by unfold stmtG;rw[hs];rfl,zh8 (by decide)]at h;cases h
  · exact(zl2 HT (zdz HT d) hs).le
theorem zjr(cx:Cx gp gs A n ts)(st:PS→St × PS)(s:PS)(w:World)(h:PSt gp gs A n c ts s w)(hs:sees ts ten s=false):
 Calls Tryz.prog 24 #[.pointer (some ⟨gp,0,none⟩)] w fun e w'=>∃p:StA,e=.returned (.agg (stC (stmtG ts st s).1 p).toArray)∧StIn (Fr w.heap.size) w' (stmtG ts st s).1 p∧PSt gp gs A n c ts (stmtG ts st s).2 w'∧Wr [gp,gs] w w':=by
 rw[show stmtG ts st s=(zT,failP ts 9 s) by unfold stmtG;rw[hs];rfl];have HSN:=qh (fun W A1 (h:PSt gp gs A n c ts s W) (hl:Rd W A1 10 (strs ten))=>zb1 cx h ten A1 10 10 hl om);rw[hs]at HSN;have HF:=qh (fun W (h:PSt gp gs A n c ts s W)=>zgt cx h 9 (by decide));have HH:=qh (h.alloc (.cells (stC zT pA0).toArray 42));have HE:Hid (Wr [gp,gs] w (w.alloc (.cells (stC zT pA0).toArray 42))):=(Wr.refl _ _).alloc _;have HB:Hid (Blk (w.alloc (.cells (stC zT pA0).toArray 42)) w.heap.size 42 (stC zT pA0)):=Blk.new _ _ _;have HLO:=qh (h.lo cx);clear h hs
 go_enter Tryz.func24, Tryz.ntmps24
 go_wp2_with (first
  | (go_at_call 20;(refine(HSN.out _ _ (by exact HH.out.alloc _) (by exact zco (L:=ten) sy rfl)).mono ?_);rintro e w2 ⟨rfl,hB2⟩;have H2:=qh ((HH.out.alloc _).below hB2);have HE2:=qh ((HE.out.alloc _).trans (Wr.of_below hB2));have HB2:=qh ((HB.out.alloc _).below hB2 (HB.out.alloc _).lt);clear hB2)
  | (go_at_call 54;(refine(HF.out _ (by exact H2.out)).mono ?_);rintro e w3 ⟨rfl,h3,hW3⟩;have hW4:Wr [gp,gs] w2 w3:=hW3.mono (fun g hg=>by simp only[List.mem_cons,List.not_mem_nil,or_false]at hg ⊢;omega);have H3:=qh h3;have HE3:=qh (HE2.out.trans hW4);have HB3:Hid (Blk w3 w.heap.size 42 (stC zT pA0)):=Blk.wr HB2.out hW4 HLO.out lr;clear h3 hW3 hW4)
  | refine zao rfl 42 [] rfl _ rr _ (zp0 _) ?_
  | (refine zaa rfl 42 (.tmp 2) (.tmp 11) rfl w.heap.size (stC zT pA0) rr rr 42 (stC zT pA0) (by exact HB3.out) hdSt (zax _ _) rfl ?_;intro w9_ hb9 ho9))
 refine bodyPost_ret (res_c rfl _ w.heap.size 42 (stC zT pA0) rfl hb9 _ Tryz.underlying42 rfl hdSt) rfl ⟨pA0,rfl,StIn.zero _ _ zs 0,H3.out.only HLO.out lr ho9,HE3.out.thenb (ho9.below (Below.refl _ _) lr HE3.out.size)⟩
theorem zhs(cx:Cx gp gs A n ts):∀(d:Nat),StK gp gs A n c ts (stmtP ts d) (QS d)
 | 0=>fun s w h hq=>absurd hq.d1 om
 | d+1=>fun s w h hq=>by
  have hbo:=body_c (c:=c) cx (stmtP ts d) d (zhs cx d) (zdz cx.ends d) (zht cx.ends d);have e:stmtP ts (d+1) s=stmtG ts (stmtP ts d) s:=rfl;rw[e]
  cases hs:sees ts ten s
  · exact zjr cx _ s w h hs
  · have hk:bytesOf (pk ts s).text∈ten:=ten_in (by unfold sees at hs;simp only[Bool.and_eq_true]at hs;exact hs.2)
    have G:=zdz cx.ends d;simp only[ten,List.mem_cons,List.not_mem_nil,or_false]at hk
    rcases hk with hk|hk|hk|hk|hk|hk|hk|hk|hk|hk
    · exact zb0 cx _ _ hbo G s w h hq hs (.inl hk)
    · exact zb0 cx _ _ hbo G s w h hq hs (.inr (.inl hk))
    · exact zb0 cx _ _ hbo G s w h hq hs (.inr (.inr (.inl hk)))
    · exact zb0 cx _ _ hbo G s w h hq hs (.inr (.inr (.inr (.inl hk))))
    · exact zb0 cx _ _ hbo G s w h hq hs (.inr (.inr (.inr (.inr (.inl hk)))))
    · exact zin cx _ _ hbo G s w h hq hs hk
    · exact zg1 cx _ _ hbo G s w h hq hs hk
    · exact zb0 cx _ _ hbo G s w h hq hs (.inr (.inr (.inr (.inr (.inr (.inl hk))))))
    · exact zb0 cx _ _ hbo G s w h hq hs (.inr (.inr (.inr (.inr (.inr (.inr hk))))))
    · cases hw:sees ts [k_else] (bodyP ts (stmtP ts d) (refP ts (takeP ts k_acked (nxt s))).2).2
      · exact zl1 cx _ _ hbo G s w h hq hs hk hw
      · exact zl0 cx _ _ hbo G s w h hq hs hk hw
end
end
section
theorem Q.up{d:Nat}{s:PS}(h:Q d s):Q (d+1) s:=⟨h.p0,h.p1,by omega,fun hq=>⟨(h.ok hq).1,by have:=(h.ok hq).2;omega⟩⟩
theorem hdPl:(Tryz.prog.info? 80).map (·.size)=some 12:=by kernel_rfl
theorem zn9(v:Value):Instr.loadAt 80 v=ldAt 80 v:=rfl
attribute [local go_sem ↓] zn9
@[reducible] def plA:Type:=(Option Addr × Nat) × (Option Addr × Nat)
def pl0:plA:=((none,0),(none,0))
def zPl:Pl:=⟨zR,zE,zE⟩
theorem zbp(T:Pl)(p:plA):∀v∈plC T p,v.oneCell'=true:=by
 intro v hv;simp only[plC,exC,List.mem_cons,List.mem_append,List.not_mem_nil,or_false]at hv
 rcases hv with (rfl|rfl)| (rfl|rfl|rfl|rfl|rfl)| (rfl|rfl|rfl|rfl|rfl) <;> rfl
theorem zif(X:Rf)(w:World):(Instr.build 80 #[(0,.agg (rfC X).toArray)]).run Tryz.prog w=.ok (.agg (plC ⟨X,zE,zE⟩ pl0).toArray) w:=by kernel_rfl
theorem PlIn.up{F G:Nat→Prop}{w w':World}(hk:Keep F G w w'){s:Pl}{p:plA}(h:PlIn F w s p):PlIn G w' s p:=h.keep hk
theorem PlIn.zero(F:Nat→Prop)(w:World)(X:Rf):PlIn F w ⟨X,zE,zE⟩ pl0:=⟨ArgsIn.nil _ _ _,ArgsIn.nil _ _ _⟩
theorem Wr.newL{L L':List Nat}{w w1 w2:World}(h1:Wr L w w1)(h2:Wr L' w1 w2)(h:∀g∈L',g∈L∨w.heap.size≤g):Wr L w w2 :=
 ⟨h2.os.trans h1.os,h2.tape.trans h1.tape,h2.output.trans h1.output,Nat.le_trans h1.size h2.size,fun k hk hne =>
  (h2.block k (Nat.lt_of_lt_of_le hk h1.size) (fun hm=>(h k hm).elim hne (fun h=>by omega))).trans (h1.block k hk hne)⟩
structure PcS(gp gs gt:Nat)(A:Option Addr)(n c:Nat)(ts:List Lx.Tok)(w0:World)(T:Pl)(p:plA)(q:PS)(w:World):Prop where
 st:PSt gp gs A n c ts q w
 wr:Wr [gp,gs] w0 w
 z:Blk w w0.heap.size 80 (plC zPl pl0)
 e:Blk w gt 80 (plC T p)
 ar:PlIn (Fx w0.heap.size gt) w T p
 lo:PLo gp gs A w0.heap.size
 gl:w0.heap.size<gt
section
variable{gp gs gt:Nat}{A:Option Addr}{n c:Nat}{ts:List Lx.Tok}{s q q':PS}{w w' w0:World}{T T':Pl}{p p':plA}
theorem PcS.call(h:PcS gp gs gt A n c ts w0 T p q w)(hs:PSt gp gs A n c ts q' w')(hW:Wr [gp,gs] w w'):PcS gp gs gt A n c ts w0 T p q' w' :=
 ⟨hs,h.wr.trans hW,Blk.wr h.z hW h.lo lr,Blk.wr h.e hW h.lo (Nat.le_of_lt h.gl),h.ar.keep (zet hW h.lo.all),h.lo,h.gl⟩
theorem PcS.put(h:PcS gp gs gt A n c ts w0 T p q w)(ho:Only w w' gt)(hb:Blk w' gt 80 (plC T' p'))(ha:PlIn (Fx w0.heap.size gt) w T' p'):PcS gp gs gt A n c ts w0 T' p' q w' :=
 ⟨h.st.only (h.lo.mono (Nat.le_of_lt h.gl)) lr ho,Wr.newL h.wr (Wr.onlyg (L:=[gt]) ho sy) (fun g hg=>.inr (by simp at hg;have:=h.gl;omega)),ho.blk h.z (by have:=h.gl;omega),hb,
   ha.keep ((Wr.onlyg (L:=[gt]) ho sy).keep _ _ (fun k hk _ hm=>hk.2 (by simpa using hm)) (fun _ h _=>h)),h.lo,h.gl⟩
theorem PcS.fr(h:PcS gp gs gt A n c ts w0 T p q w){W:World}{B:Option Addr}{es:List Ex}(ha:ArgsIn (Fr w.heap.size) W B es):ArgsIn (Fx w0.heap.size gt) W B es :=
 ha.keep ⟨lr,fun _ _ _=>rfl,fun k hk _=>⟨by have:=h.e.lt;have:=h.gl;unfold Fr at hk;omega,by have:=h.e.lt;unfold Fr at hk;omega⟩⟩
theorem PcS.fin(h:PcS gp gs gt A n c ts w0 T p q w)(ho:Only w w' w0.heap.size):PlIn (Fr w0.heap.size) w' T p∧PSt gp gs A n c ts q w'∧Wr [gp,gs] w0 w' :=
 ⟨(h.ar.keep ((Wr.onlyg (L:=[w0.heap.size]) ho sy).keep (Fx w0.heap.size gt) (Fx w0.heap.size gt) (fun k hk _ hm=>by simp only[List.mem_cons,List.not_mem_nil,or_false]at hm;have:=hk.1;omega) (fun _ h _=>h))).keep zcw,
   h.st.only h.lo lr ho,Wr.newL h.wr (Wr.onlyg (L:=[w0.heap.size]) ho sy) (fun g hg=>.inr (by simp at hg;omega))⟩
theorem zo8(cx:Cx gp gs A n ts)(h:PSt gp gs A n c ts s w)(hq:Q 14 s):Calls Tryz.prog 51 #[.pointer (some ⟨gp,0,none⟩)] w fun e w'=>∃p:plA,e=.returned (.agg (plC (placeP ts s).1 p).toArray)∧PlIn (Fr w.heap.size) w' (placeP ts s).1 p∧PSt gp gs A n c ts (placeP ts s).2 w'∧Wr [gp,gs] w w':=by
 have HRF:=qh (fun W (h:PSt gp gs A n c ts s W)=>ref_c cx h);have HAL:=qh (fun T q W (h:PSt gp gs A n c ts q W)=>zda cx h T);have HAT:=qh (fun q W (h:PSt gp gs A n c ts q W) (hq:Q 14 q)=>znw cx 14 q W h hq.up);have HLO:=qh (h.lo cx);have HH:=qh (h.alloc (.cells (plC zPl pl0).toArray 80));have HZ:Hid (∀W,Below (w.heap.size+1) (w.alloc (.cells (plC zPl pl0).toArray 80)) W→Blk W w.heap.size 80 (plC zPl pl0)∧Wr [gp,gs] w W):=fun W hW=>⟨(Blk.new _ _ _).below hW om,((Wr.refl [gp,gs] w).alloc _).trans (Wr.of_below (hW.mono sy))⟩
 have hg1:=ref_g cx.ends s;have HQ1:=qh (hq.pg hg1);have HT:Hid (placeP ts s=(⟨(refP ts s).1,(if sees ts [m_at] (refP ts s).2 then atomP ts (exprP ts 14) (nxt (refP ts s).2) else (zE,(refP ts s).2)).1,(if sees ts [m_ex] (if sees ts [m_at] (refP ts s).2 then atomP ts (exprP ts 14) (nxt (refP ts s).2) else (zE,(refP ts s).2)).2 then atomP ts (exprP ts 14) (nxt (if sees ts [m_at] (refP ts s).2 then atomP ts (exprP ts 14) (nxt (refP ts s).2) else (zE,(refP ts s).2)).2) else (zE,(if sees ts [m_at] (refP ts s).2 then atomP ts (exprP ts 14) (nxt (refP ts s).2) else (zE,(refP ts s).2)).2)).1⟩,(if sees ts [m_ex] (if sees ts [m_at] (refP ts s).2 then atomP ts (exprP ts 14) (nxt (refP ts s).2) else (zE,(refP ts s).2)).2 then atomP ts (exprP ts 14) (nxt (if sees ts [m_at] (refP ts s).2 then atomP ts (exprP ts 14) (nxt (refP ts s).2) else (zE,(refP ts s).2)).2) else (zE,(if sees ts [m_at] (refP ts s).2 then atomP ts (exprP ts 14) (nxt (refP ts s).2) else (zE,(refP ts s).2)).2)).2)):=rfl;rw[HT.out]
 have HGA:Hid (∀q,sees ts [m_at] q=true→Q 14 q→Q 14 (nxt q)∧Q 14 (atomP ts (exprP ts 14) (nxt q)).2):=fun q h1 h2=>by
  have h3:=h2.pg (nxt_g (zam cx.ends h1) (zag h1));exact⟨h3,h3.pg (zig cx.ends (zaw cx.ends 14) _)⟩
 have HGE:Hid (∀q,sees ts [m_ex] q=true→Q 14 q→Q 14 (nxt q)):=fun q h1 h2=>h2.pg (nxt_g (zam cx.ends h1) (zag h1))
 have HAP:Hid (∀T q,alsoP ts T q=if sees ts [T] q then nxt q else q):=fun T q=>rfl
 have HC:=qh cx;clear h hq hg1 HT;generalize (refP ts s).1=X at *;generalize (refP ts s).2=q1 at *
 unfold rfC at HRF
 cases h1:sees ts [m_at] q1
 · have HA1:=HAL.out m_at q1
   rw[HAP.out,h1]at HA1;simp only[Bool.false_eq_true,if_false]at HA1 ⊢;have HA1:=qh HA1
   cases h2:sees ts [m_ex] q1
   · have HA2:=HAL.out m_ex q1
     rw[HAP.out,h2]at HA2;simp only[Bool.false_eq_true,if_false]at HA2 ⊢;have HA2:=qh HA2;clear HAL HAT HGA HGE HAP HC h1 h2
     go_enter Tryz.func51, Tryz.ntmps51
     go_wp2_with (first
      | (refine zaa rfl 80 (.tmp 2) (.tmp 17) rfl w.heap.size (plC ⟨X,zE,zE⟩ pl0) rr rr 80 (plC zPl pl0) (by exact HP7.out.z) hdPl (zbp _ _) rfl ?_;intro w10 hb10 ho10)
      | (go_at_call 52;(with_reducible refine(HA2.out _ (by exact HP4.out.st)).mono ?_);rintro e w7 ⟨rfl,h7,hW7⟩;have HP7:=qh (HP4.out.call h7 hW7);have hl9:=zbg HP7.out.e 80 0 (plC ⟨X,zE,zE⟩ pl0) rfl _ Tryz.underlying80 rfl hdPl;clear h7 hW7)
      | (go_at_call 52;(with_reducible refine(HA1.out _ (by exact HP3.out.st)).mono ?_);rintro e w4 ⟨rfl,h4,hW4⟩;have HP4:=qh (HP3.out.call h4 hW4);clear h4 hW4)
      | (refine zaa rfl 80 (.tmp 3) (.tmp 6) rfl w2.heap.size (plC ⟨X,zE,zE⟩ pl0) rr rr 80 (plC zPl pl0) (by exact Blk.new' rfl rfl) hdPl (zbp _ _) rfl ?_;intro w3 hb3 ho3;have HP3:Hid (PcS gp gs w2.heap.size A n c ts w ⟨X,zE,zE⟩ pl0 q1 w3):=⟨(H2.out.alloc _).only HLO.out HZ2.out.2.size ho3,Wr.newL (HZ2.out.2.alloc _) (Wr.onlyg (L:=[w2.heap.size]) ho3 sy) (fun g hg=>.inr (by simp at hg;have:=HZ2.out.2.size;omega)),ho3.blk (HZ2.out.1.alloc _) (by have:=HZ2.out.1.lt;omega),hb3,PlIn.zero _ _ _,HLO.out,HZ2.out.1.lt⟩;clear hb3 ho3)
      | refine zao rfl 80 [(0,.tmp 5)] rfl _ rr _ (zif X _) ?_
      | (go_at_call 48;(refine(HRF.out _ (by exact HH.out)).mono ?_);rintro e w2 ⟨rfl,h2,hW2⟩;have H2:=qh h2;have HZ2:Hid (Blk w2 w.heap.size 80 (plC zPl pl0)∧Wr [gp,gs] w w2):=⟨Blk.wr (Blk.new w _ _) hW2 HLO.out lr,((Wr.refl _ w).alloc _).trans hW2⟩;clear h2 hW2))
     obtain⟨e1,e2,e3⟩:=HP7.out.fin ho10;exact bodyPost_ret (res_c rfl _ w.heap.size 80 (plC ⟨X,zE,zE⟩ pl0) rfl hb10 _ Tryz.underlying80 rfl hdPl) rfl ⟨pl0,rfl,e1,e2,e3⟩
   · have HA2:=HAL.out m_ex q1
     rw[HAP.out,h2]at HA2;simp only[if_true]at HA2 ⊢;have HA2:=qh HA2;have HQN2:=qh (HGE.out q1 h2 HQ1.out);have HD2:=qh (fun W (h:PSt gp gs A n c ts (nxt q1) W)=>HAT.out (nxt q1) W h HQN2.out);generalize (atomP ts (exprP ts 14) (nxt q1)).1=E2 at *;generalize (atomP ts (exprP ts 14) (nxt q1)).2=q3 at *;clear HAL HAT HGA HGE HAP HC h1 h2
     go_enter Tryz.func51, Tryz.ntmps51
     go_wp2_with (first
      | (refine zaa rfl 80 (.tmp 2) (.tmp 17) rfl w.heap.size (plC ⟨X,zE,E2⟩ (pl0.1,a8)) rr rr 80 (plC zPl pl0) (by exact HP9.out.z) hdPl (zbp _ _) rfl ?_;intro w10 hb10 ho10)
      | (refine zae rfl 39 (.tmp 16) (.tmp 15) rfl w2.heap.size 7 (exC E2 a8) rr rr 80 (plC ⟨X,zE,zE⟩ pl0) (by exact HP8.out.e) hdEx (zau E2 a8) (by show 7+5≤12;omega) ?_;intro w9 hb9 ho9;have HP9:Hid (PcS gp gs w2.heap.size A n c ts w ⟨X,zE,E2⟩ (pl0.1,a8) q3 w9):=HP8.out.put ho9 (by exact hb9) ⟨HP8.out.ar.1,HE8.out⟩;have hl9:=zbg HP9.out.e 80 0 (plC ⟨X,zE,E2⟩ (pl0.1,a8)) rfl _ Tryz.underlying80 rfl hdPl;clear hb9 ho9)
      | (go_at_call 84;(with_reducible refine(HD2.out _ (by exact HP7.out.st)).mono ?_);rintro e w8 ⟨a8,rfl,ha8,h8,hW8⟩;have HE8:=qh (PcS.fr HP7.out ha8);have HP8:=qh (HP7.out.call h8 hW8);clear ha8 h8 hW8)
      | (go_at_call 52;(with_reducible refine(HA2.out _ (by exact HP4.out.st)).mono ?_);rintro e w7 ⟨rfl,h7,hW7⟩;have HP7:=qh (HP4.out.call h7 hW7);clear h7 hW7)
      | (go_at_call 52;(with_reducible refine(HA1.out _ (by exact HP3.out.st)).mono ?_);rintro e w4 ⟨rfl,h4,hW4⟩;have HP4:=qh (HP3.out.call h4 hW4);clear h4 hW4)
      | (refine zaa rfl 80 (.tmp 3) (.tmp 6) rfl w2.heap.size (plC ⟨X,zE,zE⟩ pl0) rr rr 80 (plC zPl pl0) (by exact Blk.new' rfl rfl) hdPl (zbp _ _) rfl ?_;intro w3 hb3 ho3;have HP3:Hid (PcS gp gs w2.heap.size A n c ts w ⟨X,zE,zE⟩ pl0 q1 w3):=⟨(H2.out.alloc _).only HLO.out HZ2.out.2.size ho3,Wr.newL (HZ2.out.2.alloc _) (Wr.onlyg (L:=[w2.heap.size]) ho3 sy) (fun g hg=>.inr (by simp at hg;have:=HZ2.out.2.size;omega)),ho3.blk (HZ2.out.1.alloc _) (by have:=HZ2.out.1.lt;omega),hb3,PlIn.zero _ _ _,HLO.out,HZ2.out.1.lt⟩;clear hb3 ho3)
      | refine zao rfl 80 [(0,.tmp 5)] rfl _ rr _ (zif X _) ?_
      | (go_at_call 48;(refine(HRF.out _ (by exact HH.out)).mono ?_);rintro e w2 ⟨rfl,h2,hW2⟩;have H2:=qh h2;have HZ2:Hid (Blk w2 w.heap.size 80 (plC zPl pl0)∧Wr [gp,gs] w w2):=⟨Blk.wr (Blk.new w _ _) hW2 HLO.out lr,((Wr.refl _ w).alloc _).trans hW2⟩;clear h2 hW2))
     obtain⟨e1,e2,e3⟩:=HP9.out.fin ho10;exact bodyPost_ret (res_c rfl _ w.heap.size 80 (plC ⟨X,zE,E2⟩ (pl0.1,a8)) rfl hb10 _ Tryz.underlying80 rfl hdPl) rfl ⟨(pl0.1,a8),rfl,e1,e2,e3⟩
 · have HA1:=HAL.out m_at q1
   rw[HAP.out,h1]at HA1;simp only[if_true]at HA1 ⊢;have HA1:=qh HA1;have HQN1:=qh (HGA.out q1 h1 HQ1.out).1;have HQ2:=qh (HGA.out q1 h1 HQ1.out).2;have HD1:=qh (fun W (h:PSt gp gs A n c ts (nxt q1) W)=>HAT.out (nxt q1) W h HQN1.out);generalize (atomP ts (exprP ts 14) (nxt q1)).1=E1 at *;generalize (atomP ts (exprP ts 14) (nxt q1)).2=q2 at *
   cases h2:sees ts [m_ex] q2
   · have HA2:=HAL.out m_ex q2
     rw[HAP.out,h2]at HA2;simp only[Bool.false_eq_true,if_false]at HA2 ⊢;have HA2:=qh HA2;clear HAL HAT HGA HGE HAP HC h1 h2
     go_enter Tryz.func51, Tryz.ntmps51
     go_wp2_with (first
      | (refine zaa rfl 80 (.tmp 2) (.tmp 17) rfl w.heap.size (plC ⟨X,E1,zE⟩ (a5,pl0.2)) rr rr 80 (plC zPl pl0) (by exact HP7.out.z) hdPl (zbp _ _) rfl ?_;intro w10 hb10 ho10)
      | (go_at_call 52;(with_reducible refine(HA2.out _ (by exact HP6.out.st)).mono ?_);rintro e w7 ⟨rfl,h7,hW7⟩;have HP7:=qh (HP6.out.call h7 hW7);have hl9:=zbg HP7.out.e 80 0 (plC ⟨X,E1,zE⟩ (a5,pl0.2)) rfl _ Tryz.underlying80 rfl hdPl;clear h7 hW7)
      | (refine zae rfl 39 (.tmp 11) (.tmp 10) rfl w2.heap.size 2 (exC E1 a5) rr rr 80 (plC ⟨X,zE,zE⟩ pl0) (by exact HP5.out.e) hdEx (zau E1 a5) (by show 2+5≤12;omega) ?_;intro w6 hb6 ho6;have HP6:Hid (PcS gp gs w2.heap.size A n c ts w ⟨X,E1,zE⟩ (a5,pl0.2) q2 w6):=HP5.out.put ho6 (by exact hb6) ⟨HE5.out,HP5.out.ar.2⟩;clear hb6 ho6)
      | (go_at_call 84;(with_reducible refine(HD1.out _ (by exact HP4.out.st)).mono ?_);rintro e w5 ⟨a5,rfl,ha5,h5,hW5⟩;have HE5:=qh (PcS.fr HP4.out ha5);have HP5:=qh (HP4.out.call h5 hW5);clear ha5 h5 hW5)
      | (go_at_call 52;(with_reducible refine(HA1.out _ (by exact HP3.out.st)).mono ?_);rintro e w4 ⟨rfl,h4,hW4⟩;have HP4:=qh (HP3.out.call h4 hW4);clear h4 hW4)
      | (refine zaa rfl 80 (.tmp 3) (.tmp 6) rfl w2.heap.size (plC ⟨X,zE,zE⟩ pl0) rr rr 80 (plC zPl pl0) (by exact Blk.new' rfl rfl) hdPl (zbp _ _) rfl ?_;intro w3 hb3 ho3;have HP3:Hid (PcS gp gs w2.heap.size A n c ts w ⟨X,zE,zE⟩ pl0 q1 w3):=⟨(H2.out.alloc _).only HLO.out HZ2.out.2.size ho3,Wr.newL (HZ2.out.2.alloc _) (Wr.onlyg (L:=[w2.heap.size]) ho3 sy) (fun g hg=>.inr (by simp at hg;have:=HZ2.out.2.size;omega)),ho3.blk (HZ2.out.1.alloc _) (by have:=HZ2.out.1.lt;omega),hb3,PlIn.zero _ _ _,HLO.out,HZ2.out.1.lt⟩;clear hb3 ho3)
      | refine zao rfl 80 [(0,.tmp 5)] rfl _ rr _ (zif X _) ?_
      | (go_at_call 48;(refine(HRF.out _ (by exact HH.out)).mono ?_);rintro e w2 ⟨rfl,h2,hW2⟩;have H2:=qh h2;have HZ2:Hid (Blk w2 w.heap.size 80 (plC zPl pl0)∧Wr [gp,gs] w w2):=⟨Blk.wr (Blk.new w _ _) hW2 HLO.out lr,((Wr.refl _ w).alloc _).trans hW2⟩;clear h2 hW2))
     obtain⟨e1,e2,e3⟩:=HP7.out.fin ho10;exact bodyPost_ret (res_c rfl _ w.heap.size 80 (plC ⟨X,E1,zE⟩ (a5,pl0.2)) rfl hb10 _ Tryz.underlying80 rfl hdPl) rfl ⟨(a5,pl0.2),rfl,e1,e2,e3⟩
   · have HA2:=HAL.out m_ex q2
     rw[HAP.out,h2]at HA2;simp only[if_true]at HA2 ⊢;have HA2:=qh HA2;have HQN2:=qh (HGE.out q2 h2 HQ2.out);have HD2:=qh (fun W (h:PSt gp gs A n c ts (nxt q2) W)=>HAT.out (nxt q2) W h HQN2.out);generalize (atomP ts (exprP ts 14) (nxt q2)).1=E2 at *;generalize (atomP ts (exprP ts 14) (nxt q2)).2=q3 at *;clear HAL HAT HGA HGE HAP HC h1 h2
     go_enter Tryz.func51, Tryz.ntmps51
     go_wp2_with (first
      | (refine zaa rfl 80 (.tmp 2) (.tmp 17) rfl w.heap.size (plC ⟨X,E1,E2⟩ (a5,a8)) rr rr 80 (plC zPl pl0) (by exact HP9.out.z) hdPl (zbp _ _) rfl ?_;intro w10 hb10 ho10)
      | (refine zae rfl 39 (.tmp 16) (.tmp 15) rfl w2.heap.size 7 (exC E2 a8) rr rr 80 (plC ⟨X,E1,zE⟩ (a5,pl0.2)) (by exact HP8.out.e) hdEx (zau E2 a8) (by show 7+5≤12;omega) ?_;intro w9 hb9 ho9;have HP9:Hid (PcS gp gs w2.heap.size A n c ts w ⟨X,E1,E2⟩ (a5,a8) q3 w9):=HP8.out.put ho9 (by exact hb9) ⟨HP8.out.ar.1,HE8.out⟩;have hl9:=zbg HP9.out.e 80 0 (plC ⟨X,E1,E2⟩ (a5,a8)) rfl _ Tryz.underlying80 rfl hdPl;clear hb9 ho9)
      | (go_at_call 84;(with_reducible refine(HD2.out _ (by exact HP7.out.st)).mono ?_);rintro e w8 ⟨a8,rfl,ha8,h8,hW8⟩;have HE8:=qh (PcS.fr HP7.out ha8);have HP8:=qh (HP7.out.call h8 hW8);clear ha8 h8 hW8)
      | (go_at_call 52;(with_reducible refine(HA2.out _ (by exact HP6.out.st)).mono ?_);rintro e w7 ⟨rfl,h7,hW7⟩;have HP7:=qh (HP6.out.call h7 hW7);clear h7 hW7)
      | (refine zae rfl 39 (.tmp 11) (.tmp 10) rfl w2.heap.size 2 (exC E1 a5) rr rr 80 (plC ⟨X,zE,zE⟩ pl0) (by exact HP5.out.e) hdEx (zau E1 a5) (by show 2+5≤12;omega) ?_;intro w6 hb6 ho6;have HP6:Hid (PcS gp gs w2.heap.size A n c ts w ⟨X,E1,zE⟩ (a5,pl0.2) q2 w6):=HP5.out.put ho6 (by exact hb6) ⟨HE5.out,HP5.out.ar.2⟩;clear hb6 ho6)
      | (go_at_call 84;(with_reducible refine(HD1.out _ (by exact HP4.out.st)).mono ?_);rintro e w5 ⟨a5,rfl,ha5,h5,hW5⟩;have HE5:=qh (PcS.fr HP4.out ha5);have HP5:=qh (HP4.out.call h5 hW5);clear ha5 h5 hW5)
      | (go_at_call 52;(with_reducible refine(HA1.out _ (by exact HP3.out.st)).mono ?_);rintro e w4 ⟨rfl,h4,hW4⟩;have HP4:=qh (HP3.out.call h4 hW4);clear h4 hW4)
      | (refine zaa rfl 80 (.tmp 3) (.tmp 6) rfl w2.heap.size (plC ⟨X,zE,zE⟩ pl0) rr rr 80 (plC zPl pl0) (by exact Blk.new' rfl rfl) hdPl (zbp _ _) rfl ?_;intro w3 hb3 ho3;have HP3:Hid (PcS gp gs w2.heap.size A n c ts w ⟨X,zE,zE⟩ pl0 q1 w3):=⟨(H2.out.alloc _).only HLO.out HZ2.out.2.size ho3,Wr.newL (HZ2.out.2.alloc _) (Wr.onlyg (L:=[w2.heap.size]) ho3 sy) (fun g hg=>.inr (by simp at hg;have:=HZ2.out.2.size;omega)),ho3.blk (HZ2.out.1.alloc _) (by have:=HZ2.out.1.lt;omega),hb3,PlIn.zero _ _ _,HLO.out,HZ2.out.1.lt⟩;clear hb3 ho3)
      | refine zao rfl 80 [(0,.tmp 5)] rfl _ rr _ (zif X _) ?_
      | (go_at_call 48;(refine(HRF.out _ (by exact HH.out)).mono ?_);rintro e w2 ⟨rfl,h2,hW2⟩;have H2:=qh h2;have HZ2:Hid (Blk w2 w.heap.size 80 (plC zPl pl0)∧Wr [gp,gs] w w2):=⟨Blk.wr (Blk.new w _ _) hW2 HLO.out lr,((Wr.refl _ w).alloc _).trans hW2⟩;clear h2 hW2))
     obtain⟨e1,e2,e3⟩:=HP9.out.fin ho10;exact bodyPost_ret (res_c rfl _ w.heap.size 80 (plC ⟨X,E1,E2⟩ (a5,a8)) rfl hb10 _ Tryz.underlying80 rfl hdPl) rfl ⟨(a5,a8),rfl,e1,e2,e3⟩
end
end
section
structure TpS(gp gs G:Nat)(A:Option Addr)(n c:Nat)(ts:List Lx.Tok)(w0:World)(vD:Value)(l:List St)(sl:List StA)(v:Value)(q:PS)(w:World):Prop where
 st:PSt gp gs A n c ts q w
 wr:Wr [gp,gs,G] w0 w
 e:Blk w G 26 [vD,v]
 own:w.ownsRow w0.heap.size 42 26 v l.length (zipC stC l sl)
 nl:sl.length=l.length
 ar:∀(i:Nat) (s:St) (p:StA),l[i]? = some s→sl[i]? = some p→StIn (Fv w0.heap.size v) w s p
 lo:PLo gp gs A G
 lt:G<w0.heap.size
section
variable{gp gs G:Nat}{A:Option Addr}{n c:Nat}{ts:List Lx.Tok}{s q q':PS}{w w' w0:World}{vD:Value}{l:List St}{sl:List StA}{v v':Value}{X:St}{y:StA}
theorem TpS.nin(h:TpS gp gs G A n c ts w0 vD l sl v q w):∀x∈[gp,gs,G],x<w0.heap.size:=by
 intro x hx;have h1:=h.lo.1;have h2:=h.lo.2.1;have h3:=h.lt;simp only[List.mem_cons,List.not_mem_nil,or_false]at hx;omega
theorem TpS.call(h:TpS gp gs G A n c ts w0 vD l sl v q w)(hs:PSt gp gs A n c ts q' w')(hW:Wr [gp,gs] w w'):TpS gp gs G A n c ts w0 vD l sl v q' w':=by
 have hW3:Wr [gp,gs,G] w w':=hW.mono (fun g hg=>by simp only[List.mem_cons,List.not_mem_nil,or_false]at hg ⊢;omega)
 exact ⟨hs,h.wr.trans hW3,Blk.wr h.e hW h.lo lr,zav h.own (fun k hk hlt _=>hW3.block k hlt (fun hm=>by have:=h.nin k hm;omega)),h.nl,
   fun i s p h1 h2=>(h.ar i s p h1 h2).keep (hW3.keep _ _ (fun k hk _ hm=>by have h5:=h.nin k hm;have h6:=hk.1;omega) (fun _ h _=>h)),h.lo,h.lt⟩
theorem TpS.fr(h:TpS gp gs G A n c ts w0 vD l sl v q w){B:Nat}(hB:w.heap.size≤B){W:World}{T:St}{p:StA}(ha:StIn (Fr B) W T p):StIn (Fv w0.heap.size v) W T p :=
 ha.keep ⟨lr,fun _ _ _=>rfl,fun k hk _=>⟨by have:=h.wr.size;unfold Fr at hk;omega,fun e=>by have:=(h.own.lt k e).2;unfold Fr at hk;omega⟩⟩
theorem TpS.push(h:TpS gp gs G A n c ts w0 vD l sl v q w)(hy:StIn (Fv w0.heap.size v) w X y){w5:World}(hg:(w.alloc (.cells (stC X y).toArray 42)).grownBy w5 v.ownBlock)
 (ho:w5.ownsRow w0.heap.size 42 26 v' (l.length+1) (zipC stC l sl++stC X y)) (hat:v'.ownBlock=v.ownBlock∨v'.ownBlock=some (w.alloc (.cells (stC X y).toArray 42)).heap.size):
 TpS gp gs G A n c ts w0 vD (l++[X]) (sl++[y]) v' q (w5.setCell ⟨G,1,none⟩ v'):=by
 have hlt:=h.lt;have hobl:∀k,v.ownBlock=some k→w0.heap.size≤k∧k<w.heap.size:=fun k hk=>h.own.lt k hk
 have hsz:(w.alloc (.cells (stC X y).toArray 42)).heap.size=w.heap.size+1:=by simp
 have hB5:Below w0.heap.size w w5:=((Below.refl _ w).alloc h.wr.size _).grown hg (Nat.le_trans h.wr.size sy) (fun k hk=>(h.own.lt k hk).1);have hW5:Wr [gp,gs,G] w0 w5:=h.wr.thenb hB5
 have hob':∀k,v'.ownBlock=some k→w0.heap.size≤k:=by
  intro k hk
  rcases hat with h1|h1
  · exact(hobl k (h1 ▸ hk)).1
  · rw[h1]at hk
    injection hk with hk
    have:=h.wr.size;omega
 have hK:Keep (Fv w0.heap.size v) (Fv w0.heap.size v') w (w5.setCell ⟨G,1,none⟩ v'):=by
  refine⟨Nat.le_trans hB5.size (by simp[World.setCell]),fun k hk hkl=>?_,fun k hk hkl=>⟨hk.1,fun e=>?_⟩⟩
  · rw[Below.heap_setCell w5 ⟨G,1,none⟩ v' k (by have:=hk.1;show k≠G;omega),hg.block k om hk.2.symm]
    exact Below.heap_alloc w _ k hkl
  · rcases hat with h1|h1
    · exact hk.2 (h1 ▸ e)
    · rw[h1]at e
      injection e with e
      omega
 refine⟨(h.st.belowB (h.lo.mono (Nat.le_of_lt hlt)) hB5).setNew h.lo (p:=⟨G,1,none⟩) lr _,hW5.setCell sy _,?_,?_,by simp[h.nl],?_,h.lo,h.lt⟩
 · exact((h.e.alloc _).grown hg (fun e=>by have:=(hobl G e.symm).1;omega)).set_ 1 v'
 · rw[la9,zby stC l sl X y h.nl]
   exact zav ho (fun k hk hkl e=>Below.heap_setCell w5 ⟨G,1,none⟩ v' k (by have:=hob' k e;show k≠G;omega))
 · intro i s p h1 h2
   rcases Nat.lt_or_ge i l.length with hi|hi
   · rw[ll9 hi]at h1
     rw[ll9 (by rw[h.nl];exact hi)]at h2;exact(h.ar i s p h1 h2).keep hK
   · have hi0:i=l.length:=by
      have:=(gi9.1 h1).1
      simp at this
      omega
     subst hi0
     simp at h1
     rw[←h.nl]at h2
     simp at h2
     subst h1 h2;exact hy.keep hK
theorem TpS.fin(h:TpS gp gs G A n c ts w0 vD l sl v q w):∃A' c',v=.slice A' l.length c'∧BodyIn (Fr w0.heap.size) w A' l:=by
 obtain⟨A',c',rfl,hc⟩:=zc5 h.own;have hK:Keep (Fv w0.heap.size (.slice A' l.length c')) (Fr w0.heap.size) w w:=⟨lr,fun _ _ _=>rfl,fun k hk _=>hk.1⟩;refine⟨A',c',rfl,.mk A' l sl h.nl ⟨RdS.ofOwn3 h.own,fun hn ad e=>?_⟩ (fun i s p h1 h2=>((h.ar i s p h1 h2).keep hK).1) (fun i s p h1 h2=>((h.ar i s p h1 h2).keep hK).2.1) (fun i s p h1 h2=>((h.ar i s p h1 h2).keep hK).2.2)⟩;subst e;have h5:=h.own
 rcases h5.2 with ⟨h6,h0⟩|⟨g,cap,cur,hv,hb,_⟩
 · omega
 · injection hv with hA
   injection hA with hA
   subst hA;exact⟨hb,zdw h5 rfl⟩
theorem Stm.tok{g:Nat}{i:Nat}(h:Stm g A n c i ts w)(hn:ts.length=n)(h0:0<n):∀ad:Addr,A=some ad→ad.block≠g:=by
 intro ad hA e;obtain⟨b,off,e2,hb,hc⟩:=h.2.2 h0;rw[hA]at e2
 injection e2 with e2
 subst e2;simp only at e;subst e;have hl:=h.2.1;have h2:=hc 2 _ (ge9 (by rw[hl];omega));rw[h.1.cell]at h2;rw[List.getElem?_eq_none sy]at h2
 cases h2
theorem QS0:QS 14 s0:=⟨⟨by decide,by decide,by decide,fun _=>⟨by decide,by decide⟩⟩,by decide,by decide,by decide,fun _=>⟨by decide,by decide⟩⟩
end
end
end Go.Proofs.YtafjkbbiaopemaaGreatDoor.Tr
