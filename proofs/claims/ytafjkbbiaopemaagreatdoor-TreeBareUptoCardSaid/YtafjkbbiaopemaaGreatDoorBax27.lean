/- Part of the proof. -/
import Derived.Test.YtafjkbbiaopemaaGreatDoorBax26
set_option linter.all false
set_option maxRecDepth 100000
set_option maxHeartbeats 0
namespace Go.Proofs.YtafjkbbiaopemaaGreatDoor.Tr
open Go.RowKit
theorem znt{ts:List Lx.Tok}(HT:Ends ts){q:PS}(hs:sees ts [k_let,k_route] q=true):q.i+1≤(declP ts q).2.i:=by
 have h1:=ref_g HT (nxt q);have h2:=h1.trans (zar HT m_eq _)
 unfold declP
 dsimp only
 split
 · exact((h2.trans (zaw HT 14 _)).trans (zar HT m_semi _)).le
 · exact(((h2.trans (zcs HT _)).trans (zb3 HT _ _ _)).trans (zar HT m_semi _)).le
theorem eDc:ElemIs Tryz.prog 45 9 136:=ElemIs.of (z:=.agg (dcC zDc pl0).toArray) kr rfl om
theorem oneDc(X:Dc)(y:plA):(Tryz.prog.info? 45).map (fun i=>((i.zero.map (fun z=>z.cells.size)),i.size))=some (some (dcC X y).length,(dcC X y).length):=by kernel_rfl
theorem zce(T:Dc)(p:plA):(dcC T p).length=9:=rfl
theorem agSdc(w:World):(isAgg 23).run Tryz.prog w=.ok false w:=by kernel_rfl
theorem szSdc(w:World):(sizeOf 23).run Tryz.prog w=.ok 1 w:=by kernel_rfl
def PaK(s:ByteArray)(R:Sr × (Int × Int))(w:World):Prop :=
 Calls Tryz.prog 9 #[.string s] w fun e w'=>∃B d A c,e=.returned (.tuple #[.agg #[.slice B R.1.decls.length d,.slice A R.1.body.length c],.agg #[.int .i64 R.2.1,.int .i64 R.2.2]])∧DcsIn (Fr w.heap.size) w' B R.1.decls∧BodyIn (Fr w.heap.size) w' A R.1.body∧Below w.heap.size w w'
theorem zm9(s:ByteArray){p q:Nat}{ts:List Lx.Tok}(hsc:Lx.scan s.data.toList=((p,q),ts))(hp:p≠0)(w:World):PaK s (⟨[],[]⟩,((p:Int),(q:Int))) w:=by
 unfold PaK
 have HNS:=qh (fun W=>new_no s W hsc hp);have hpn:((p:Int) != 0)=true:=by rw[bne_iff_ne];omega
 have HZ0:Hid (∀W,Below (w.heap.size+2) ((w.alloc (.cells #[.slice none 0 0,.slice none 0 0] 26)).alloc (.cells #[.int .i64 0,.int .i64 0] 29)) W→Blk W w.heap.size 26 [.slice none 0 0,.slice none 0 0]∧Blk W (w.heap.size+1) 29 [.int .i64 0,.int .i64 0]∧Below w.heap.size w W∧w.heap.size+2≤W.heap.size):=fun W hW =>
  ⟨((Blk.new w _ _).alloc _).below hW om,(Blk.new' sy rfl).below hW om,(((Below.refl w.heap.size w).alloc lr _).alloc sy _).trans (hW.mono om),by have:=hW.size;simp at this;omega⟩
 clear hsc hp;generalize (p:Int)=P at *;generalize (q:Int)=Q at *
 go_enter Tryz.func9, Tryz.ntmps9
 go_upto_region 3 with (go_at_call 19;(refine(HNS.out _).mono ?_);rintro e w2 ⟨rfl,hB2⟩;have HB2:=qh (HZ0.out w2 (by simpa using hB2));clear hB2)
 have HB3:Hid (Blk (w2.alloc (.cells #[.int .i64 P,.int .i64 Q] 29)) w.heap.size 26 [.slice none 0 0,.slice none 0 0]∧Blk (w2.alloc (.cells #[.int .i64 P,.int .i64 Q] 29)) (w.heap.size+1) 29 [.int .i64 0,.int .i64 0]∧Below w.heap.size w (w2.alloc (.cells #[.int .i64 P,.int .i64 Q] 29))∧Blk (w2.alloc (.cells #[.int .i64 P,.int .i64 Q] 29)) w2.heap.size 29 [.int .i64 P,.int .i64 Q]∧w.heap.size+2≤w2.heap.size) :=
  ⟨HB2.out.1.alloc _,HB2.out.2.1.alloc _,HB2.out.2.2.1.alloc HB2.out.2.2.1.size _,Blk.new _ _ _,HB2.out.2.2.2⟩
 generalize w2.alloc (.cells #[.int .i64 P,.int .i64 Q] 29)=w3 at *;generalize w2.heap.size=G at *;clear HB2 HNS HZ0;obtain⟨n0,n1,f0,f1⟩:=Blk.two HB3.out.2.2.2.1;obtain⟨x0,x1,k0,k1⟩:=Blk.two HB3.out.1;obtain⟨y0,y1,m0,m1⟩:=Blk.two HB3.out.2.1;have hne1:¬G=w.heap.size:=by have:=HB3.out.2.2.2.2;omega
 have hne2:¬G=w.heap.size+1:=by have:=HB3.out.2.2.2.2;omega
 go_region
 go_wp2;have HZ:=HB3.out;refine bodyPost_ret (zj6 rfl _ w.heap.size (w.heap.size+1) 26 29 [.slice none 0 0,.slice none 0 0] [.int .i64 P,.int .i64 Q] rfl rfl (by exact((((HZ.1.set_ 0 _).set_ 1 _).far sy _).far sy _).drew) (by exact((((HZ.2.1.far sy _).far sy _).set_ 0 _).set_ 1 _).drew) _ _ Tryz.underlying26 rfl hdSr Tryz.underlying29 rfl hd48) rfl ?_;exact⟨none,0,none,0,rfl,DcsIn.nil _ _ _,BodyIn.nil _ _ _,((((HZ.2.2.1.setCell sy _).setCell sy _).setCell sy _).setCell sy _).drew⟩
def paR(R1:List Dc × PS)(R2:List St × PS):Sr × (Int × Int):=if R2.2.ok=true then (⟨R1.1,R2.1⟩,(0,0)) else (⟨[],[]⟩,(R2.2.fe,R2.2.fa))
theorem paR_ok(R1:List Dc × PS){l:List St}{q:PS}(h:q.ok=true):paR R1 (l,q)=(⟨R1.1,l⟩,(0,0)):=if_pos h
theorem paR_no(R1:List Dc × PS){l:List St}{q:PS}(h:q.ok=false):paR R1 (l,q)=(⟨[],[]⟩,(q.fe,q.fa)):=if_neg (by rw[h];simp)
theorem zkl(s:ByteArray)(ts:List Lx.Tok)(hsc:Lx.scan s.data.toList=((0,0),ts))(w:World):PaK s (parseT ts) w:=by
 obtain⟨hen,h0,hn81,_,_⟩:=zjw hsc;have hn8:ts.length≤100000:=om
 unfold PaK
 have HNS:=qh (fun W=>zpg s W hsc (n:=ts.length) rfl);have HDL:=qh (fun(kk:Nat) (l:List Dc) (q:PS)=>(⟨fun h=>(by rw[declLoop,if_neg (by rw[h];simp)]),fun h=>(by rw[declLoop,if_pos h])⟩:(sees ts [k_let,k_route] q=false→declLoop ts (kk+1) l q=(l,q))∧(sees ts [k_let,k_route] q=true→declLoop ts (kk+1) l q=declLoop ts kk (l++[(declP ts q).1]) (declP ts q).2)));have HTL:=qh (fun(kk:Nat) (l:List St) (q:PS)=>(⟨fun h=>(by rw[topLoop,if_neg (by rw[h];simp)]),fun h=>(by rw[topLoop,if_pos h])⟩:((q.ok && !kindIs ts 6 q)=false→topLoop ts (kk+1) l q=(l,q))∧((q.ok && !kindIs ts 6 q)=true→topLoop ts (kk+1) l q=topLoop ts kk (l++[(stmtP ts 14 q).1]) (stmtP ts 14 q).2)));have HGN:=qh hen;have HRR:Hid (parseT ts=paR (declLoop ts (ts.length+1) [] s0) (topLoop ts (ts.length+2) [] (declLoop ts (ts.length+1) [] s0).2)):=rfl;rw[HRR.out];clear HRR;generalize hR1:declLoop ts (ts.length+1) [] s0=R1 at *;generalize hR2:topLoop ts (ts.length+2) [] R1.2=R2 at *;have HR1:=qh hR1;have HR2:=qh hR2;clear hsc hen hR1 hR2 hn81
 have HZ0:Hid (∀W,Below (w.heap.size+2) ((w.alloc (.cells #[.slice none 0 0,.slice none 0 0] 26)).alloc (.cells #[.int .i64 0,.int .i64 0] 29)) W→Blk W w.heap.size 26 [.slice none 0 0,.slice none 0 0]∧Blk W (w.heap.size+1) 29 [.int .i64 0,.int .i64 0]∧Below w.heap.size w W):=fun W hW =>
  ⟨((Blk.new w _ _).alloc _).below hW om,(Blk.new' sy rfl).below hW om,(((Below.refl w.heap.size w).alloc lr _).alloc sy _).trans (hW.mono om)⟩
 go_enter Tryz.func9, Tryz.ntmps9
 go_wp2_with (go_at_call 19;(refine(HNS.out _).mono ?_);rintro e w2 ⟨A2,c2,gs,rfl,hg2,hst2,hB2⟩;have hgs:Hid (w.heap.size+2≤gs):=(by simp at hg2;exact hg2);have HST2:=qh hst2;have HB2:=qh (HZ0.out w2 (by simpa using hB2));clear hg2 hst2 hB2)
 obtain⟨gp,hgp⟩:=ex9 (w2.heap.size+1);obtain⟨G,hG⟩:=ex9 (gp+1);obtain⟨W3,hW3⟩:=ex9 ((((w2.alloc (.cells #[.int .i64 0,.int .i64 0] 29)).alloc (.cells #[.pointer (some ⟨gs,0,none⟩),.int .i64 0,.int .i64 0,.int .i64 0,.int .i64 0] 60)).alloc (.cells #[.slice none 0 0,.slice none 0 0] 26)));rw[←hW3];rw[←hgp,←hG];have hgl:=HST2.out.1.lt;have HTK:=Stm.tok HST2.out rfl h0
 have HAL:∀ad:Addr,A2=some ad→ad.block<w2.heap.size:=fun ad e=>by
  obtain⟨b,off,e2,hb,_⟩:=HST2.out.2.2 h0;rw[e]at e2
  injection e2 with e2
  subst e2;exact hb
 have HCX:Hid (Cx gp gs A2 ts.length ts):=⟨by omega,fun ad e=>⟨by have:=HAL ad e;omega,HTK ad e⟩,rfl,hn8,HGN.out⟩
 have HT3:Hid (DpS gp gs G A2 ts.length c2 ts W3 [] [] (.slice none 0 0) s0 W3):=by
  subst hW3 hgp hG;exact⟨⟨(Blk.new' sy rfl).alloc _,((HST2.out.alloc _).alloc _).alloc _,fun _=>⟨rfl,rfl⟩,h0⟩,Wr.refl _ _,Blk.new' sy rfl,World.ownsRow_nil _ _ _ _,rfl,fun i s p h=>by simp at h,⟨by omega,by omega,fun ad e=>by have:=HAL ad e;omega⟩,by simp⟩
 have HB3:Hid (Below w.heap.size w W3∧w.heap.size+2≤gs∧w.heap.size+2≤gp∧Blk W3 w.heap.size 26 [.slice none 0 0,.slice none 0 0]∧Blk W3 (w.heap.size+1) 29 [.int .i64 0,.int .i64 0]):=by
  have h1:=HB2.out;have h2:=hgs.out;have h3:=h1.2.2.size;subst hW3;exact⟨(((h1.2.2.alloc h3 _).alloc (by simp;omega) _).alloc (by simp;omega) _),h2,by omega,((h1.1.alloc _).alloc _).alloc _,((h1.2.1.alloc _).alloc _).alloc _⟩
 clear HTK HAL hgl hgp HNS HZ0 HST2 HB2 hgs HGN hW3 hG
 go_loopg [] ts.length (fun kk wr=>∃(l:List Dc) (sl:List plA) (A1:Option Addr) (c1:Nat) (q:PS),Hid (DpS gp gs G A2 ts.length c2 ts W3 l sl (.slice A1 l.length c1) q wr)∧Hid (ts.length≤kk+q.i∧l.length≤q.i∧declLoop ts (kk+1) l q=R1∧Pg ts s0 q))
 case atStart=>exact⟨[],[],none,0,s0,HT3,⟨by omega,by simp,HR1.out,Pg.refl _⟩⟩
 case round =>
  clear HT3 HR1;obtain⟨l,sl,A1,c1,q,HS,HL⟩:=hrel;have HSN:=qh (fun W A1 (h:PSt gp gs A2 ts.length c2 ts q W) (hl:Rd W A1 2 (strs [k_let,k_route]))=>zb1 HCX.out h [k_let,k_route] A1 2 2 hl om)
  cases hs:sees ts [k_let,k_route] q
  · rw[hs]at HSN
    have HE1:Hid (R1=(l,q)):=HL.out.2.2.1.symm.trans ((HDL.out gk l q).1 hs);have HQ1:Hid (QS 14 q):=QS0.pg HL.out.2.2.2;clear hs HDL HL
    go_wp2_with (go_at_call 20;(refine(HSN.out _ _ (by exact HS.out.st.alloc _) (by exact zco (L:=[k_let,k_route]) sy rfl)).mono ?_);rintro e w4 ⟨rfl,hB4⟩;have HS4:=qh (HS.out.call ((HS.out.st.alloc _).below hB4) (((Wr.refl _ _).alloc _).trans (Wr.of_below hB4)));clear hB4)
    clear HSN
    have HD4:Hid (DcsIn (Fr W3.heap.size) w4 A1 l):=by
     obtain⟨A9,c9,e9,h9⟩:=HS4.out.fin
     injection e9 with e9
     subst e9;exact h9
    have HT4:Hid (TpS gp gs G A2 ts.length c2 ts w4 (.slice A1 l.length c1) [] [] (.slice none 0 0) q w4):=⟨HS4.out.st,Wr.refl _ _,HS4.out.e,World.ownsRow_nil _ _ _ _,rfl,fun i s p h=>by simp at h,HS4.out.lo,HS4.out.e.lt⟩;have HW4:Hid (Wr [gp,gs,G] W3 w4∧G<W3.heap.size):=⟨HS4.out.wr,HS4.out.lt⟩;have e1:=HE1.out;clear HE1;subst e1;clear HS HS4
    go_loopg [] (ts.length+1) (fun kk wr=>∃(l2:List St) (sl2:List StA) (A3:Option Addr) (c3:Nat) (q2:PS),Hid (TpS gp gs G A2 ts.length c2 ts w4 (.slice A1 l.length c1) l2 sl2 (.slice A3 l2.length c3) q2 wr)∧Hid ((q2.ok=true→ts.length≤kk+q2.i∧l2.length≤q2.i)∧topLoop ts (kk+1) l2 q2=R2∧QS 14 q2))
    case atStart=>exact⟨[],[],none,0,q,HT4,⟨fun _=>⟨by omega,by simp⟩,HR2.out,HQ1.out⟩⟩
    case round =>
     clear HT4 HR2 HQ1;obtain⟨l2,sl2,A3,c3,q2,HS,HL⟩:=hrel;have HOC:=qh (fun W (h:PSt gp gs A2 ts.length c2 ts q2 W)=>ok_c h.par);have HKC:=qh (fun W (h:PSt gp gs A2 ts.length c2 ts q2 W)=>zpn HCX.out h)
     have HDC2:Hid (DcsIn (Fr W3.heap.size) wr A1 l):=by
      have h1:=HS.out.wr;have h2:=HW4.out.2;have h3:=HS.out.lo;have h4:=HB3.out.1.size;exact HD4.out.keep (h1.keep _ _ (fun k hk _ hm=>by have h5:=h3.1;have h6:=h3.2.1;unfold Fr at hk;simp only[List.mem_cons,List.not_mem_nil,or_false]at hm;omega) (fun _ h _=>h))
     cases ho:q2.ok
     · have HRE:Hid (R2=(l2,q2)):=HL.out.2.1.symm.trans ((HTL.out gk l2 q2).1 (by rw[ho];rfl))
       rw[ho]at HOC;have HO2:=qh ho;clear ho HL HTL HKC
       go_upto_region 11 with (first
        | (go_at_call 22;(with_reducible refine(HOC.out _ (by exact HS.out.st)).mono ?_);rintro e w6 ⟨rfl,rfl⟩))
       have HR5:Hid (Blk wr w.heap.size 26 [.slice none 0 0,.slice none 0 0]∧Blk wr (w.heap.size+1) 29 [.int .i64 0,.int .i64 0]∧Below w.heap.size w wr):=by
        obtain⟨b1,b2,b3,b4,b5⟩:=HB3.out;have h1:=HS.out.lo.1;have h2:=HW4.out.2;have hw:=HW4.out.1.trans HS.out.wr;exact⟨(hw.block _ b4.lt (fun hm=>by simp only[List.mem_cons,List.not_mem_nil,or_false]at hm;omega)).trans b4,(hw.block _ b5.lt (fun hm=>by simp only[List.mem_cons,List.not_mem_nil,or_false]at hm;omega)).trans b5,hw.below b1 (fun g hg=>by simp only[List.mem_cons,List.not_mem_nil,or_false]at hg;omega) b1.size⟩
       have hp1:wr.cell? ⟨gp,1,none⟩=some (.int .i64 q2.fe):=HS.out.st.par.cell 1;have hp2:wr.cell? ⟨gp,2,none⟩=some (.int .i64 q2.fa):=HS.out.st.par.cell 2;have hne1:¬gp=w.heap.size:=by have:=HB3.out.2.2.1;omega
       have hne2:¬gp=w.heap.size+1:=by have:=HB3.out.2.2.1;omega
       have hgl:=HS.out.st.par.lt;obtain⟨x0,x1,k0,k1⟩:=Blk.two HR5.out.1;obtain⟨y0,y1,m0,m1⟩:=Blk.two HR5.out.2.1;clear HOC
       go_region
       go_wp2;have HZ:=HR5.out;refine bodyPost_ret (zj6 rfl _ w.heap.size (w.heap.size+1) 26 29 [.slice none 0 0,.slice none 0 0] [.int .i64 q2.fe,.int .i64 q2.fa] rfl rfl (by exact((((HZ.1.set_ 0 _).set_ 1 _).far sy _).far sy _).drew) (by exact((((HZ.2.1.far sy _).far sy _).set_ 0 _).set_ 1 _).drew) _ _ Tryz.underlying26 rfl hdSr Tryz.underlying29 rfl hd48) rfl ?_;rw[HRE.out,paR_no _ HO2.out];exact⟨none,0,none,0,rfl,DcsIn.nil _ _ _,BodyIn.nil _ _ _,((((HZ.2.2.setCell sy _).setCell sy _).setCell sy _).setCell sy _).drew⟩
     · rw[ho]at HOC
       cases hk:kindIs ts 6 q2
       · rw[hk]at HKC
         have hlt:q2.i<ts.length:=HS.out.st.lt;have HST:=qh (fun W (h:PSt gp gs A2 ts.length c2 ts q2 W)=>zhs HCX.out 14 q2 W h HL.out.2.2);have HT3:=qh (((HTL.out gk l2 q2).2 (by rw[hk,ho];rfl)).symm.trans HL.out.2.1);have HI3:Hid (ts.length≤gk+q2.i∧l2.length≤q2.i∧q2.i<ts.length∧((stmtP ts 14 q2).2.ok=true→q2.i+1≤(stmtP ts 14 q2).2.i)):=⟨(HL.out.1 ho).1,(HL.out.1 ho).2,hlt,zht HCX.out.ends 14 q2⟩;have HQ3:Hid (QS 14 (stmtP ts 14 q2).2):=HL.out.2.2.pg (zdz HCX.out.ends 14 q2);have hl8:l2.length≤100000:=by have:=HI3.out;omega
         generalize (stmtP ts 14 q2).1=X at *;generalize (stmtP ts 14 q2).2=q3 at *;clear hk ho HL HTL hlt HDC2
         go_wp2_with (first
          | (go_at_call 23;(with_reducible refine(HKC.out _ (by exact HS.out.st)).mono ?_);rintro e w5 ⟨rfl,hB5⟩;have HS5:=qh (HS.out.call (HS.out.st.below hB5) (Wr.of_below hB5));clear hB5)
          | (go_at_call 22;(with_reducible refine(HOC.out _ (by exact HS.out.st)).mono ?_);rintro e w6 ⟨rfl,rfl⟩))
         have HD9:Hid (TpS gp gs G A2 ts.length c2 ts w4 (.slice A1 l.length c1) l2 sl2 (.slice A3 l2.length c3) q2 w5.drew):=HS5.out.call (HS5.out.st.below ((Below.refl _ _).drew)) (Wr.of_below ((Below.refl _ _).drew));refine kgo kr 7 (fun W'=>Blk W' G 26 [.slice A1 l.length c1,.slice A3 l2.length c3]) HD9.out.e (fun _ _ _ _ _ h=>h) ?_;refine kp 0 (.pointer (some ⟨G,1,none⟩)) rfl kr (fun _=>kr) ?_;refine kl 1 (.slice A3 l2.length c3) rfl kr (fun w' hw'=>zah (t:=24) (x:=.tmp 38) rr kr agSlt (hw'.cell 1)) ?_;refine kp 2 (.pointer (some ⟨gp,0,none⟩)) rfl kr (fun _=>kr) ?_;intro q8 q9;clear q8 q9;refine AnyK.enter 3 (d:=some 41) (f:=24) (args:=#[.pointer (some ⟨gp,0,none⟩)]) rr kr kr ?_;refine(HST.out _ HD9.out.st).mono ?_;rintro e wx ⟨y,rfl,hy,hx,hWx⟩;have HX9:=qh (HD9.out.call hx hWx);have HY9:Hid (StIn (Fv w4.heap.size (.slice A3 l2.length c3)) wx X y):=HD9.out.fr lr hy;have hl9:=HX9.out.lt;have hm9:=HX9.out.e.lt;have ho9:=HX9.out.wr.size;have hown9:∀k,(Value.slice A3 l2.length c3).ownBlock=some k→G≠k:=fun k e=>by have:=(HX9.out.own.lt k e).1;omega
         clear hy hx hWx;refine⟨_,rfl,fun _=>HX9.out.e,?_⟩;refine AnyK.main 4 rr kr rfl (fun K hK=>zbz (zb5 24 42 (.tmp 41) rr (stC X y) kr Tryz.underlying24 (by exact oneSt X y) (by rw[zba];omega) (by rw[zba];omega)) (hK _ _ ⟨fun _=>HX9.out.e.alloc _,?_⟩));refine AnyK.main 5 rr kr rfl (fun K hK=>zci (.tmp 39) (.tmp 42) 24 rr w4.heap.size 42 26 384 Tryz.underlying24 eSt (.slice A3 l2.length c3) l2.length (zipC stC l2 sl2) kr (HX9.out.own.alloc _) (some ⟨wx.heap.size,0,none⟩) 1 1 (stC X y) kr (RdS.new wx _ (stC X y) 26 rfl) (zax _ _) om om (by simp;omega) (fun A7 c7 w7 hown7 hc7 hg7 hat7=>hK _ _ ⟨fun _=>(HX9.out.e.alloc _).grown hg7 (fun e=>hown9 _ e.symm rfl),?_⟩));have hb7:=(HX9.out.e.alloc (.cells (stC X y).toArray 42)).grown hg7 (fun e=>hown9 _ e.symm rfl);refine AnyK.val 6 (v:=.pointer (some ⟨G,1,none⟩)) rr kr rfl kr (fun _=>hb7) ?_;have HP9:=qh (HX9.out.push HY9.out hg7 hown7 hat7);refine AnyK.store 7 (d:=none) (w':=w7.setCell ⟨G,1,none⟩ (.slice A7 (l2.length+1) c7)) rr (fun o ho=>za6 ho kr kr szSlt (hb7.cell 1) (hb7.frozen 1)) kr (fun h=>(by cases h)) ?_;refine AnyK.done kr ?_;clear hb7 hown7 hg7 hat7 hown9;have e5:(l2++[X]).length=l2.length+1:=by simp
         go_wp2;have hi5:=HI3.out;go_roundg (gk-1)
         case measure=>omega
         case rel=>exact⟨l2++[X],sl2++[y],A7,c7,q3,by rw[e5];exact HP9.out,⟨fun h=>by have:=hi5.2.2.2 h;rw[e5];omega,by rw[show gk-1+1=gk by omega];exact HT3.out,HQ3.out⟩⟩
       · rw[hk]at HKC
         have HRE:Hid (R2=(l2,q2)):=HL.out.2.1.symm.trans ((HTL.out gk l2 q2).1 (by rw[hk,ho];rfl));have HO2:=qh ho;clear hk ho HL HTL
         go_wp2_with (first
          | (go_at_call 23;(with_reducible refine(HKC.out _ (by exact HS.out.st)).mono ?_);rintro e w5 ⟨rfl,hB5⟩;have HS5:=qh (HS.out.call (HS.out.st.below hB5) (Wr.of_below hB5));have HD5:Hid (DcsIn (Fr W3.heap.size) w5 A1 l):=HDC2.out.keep ⟨hB5.size,fun k _ hk=>hB5.block k hk,fun _ h _=>h⟩
             have HR5:Hid (Blk w5 w.heap.size 26 [.slice none 0 0,.slice none 0 0]∧Blk w5 (w.heap.size+1) 29 [.int .i64 0,.int .i64 0]∧Wr [gp,gs,G] W3 w5):=by
              obtain⟨b1,b2,b3,b4,b5⟩:=HB3.out;have h1:=HS5.out.lo.1;have hw:=HW4.out.1.trans HS5.out.wr;exact⟨(hw.block _ b4.lt (fun hm=>by simp only[List.mem_cons,List.not_mem_nil,or_false]at hm;omega)).trans b4,(hw.block _ b5.lt (fun hm=>by simp only[List.mem_cons,List.not_mem_nil,or_false]at hm;omega)).trans b5,hw⟩
             have hne1:¬G=w.heap.size:=by have:=HS5.out.lo.1;have:=HB3.out.2.2.1;omega
             have hne2:¬G=w.heap.size+1:=by have:=HS5.out.lo.1;have:=HB3.out.2.2.1;omega
             obtain⟨n0,n1,f0,f1⟩:=Blk.two HS5.out.e;obtain⟨x0,x1,k0,k1⟩:=Blk.two HR5.out.1;obtain⟨y0,y1,m0,m1⟩:=Blk.two HR5.out.2.1
             clear hB5)
          | (go_at_call 22;(with_reducible refine(HOC.out _ (by exact HS.out.st)).mono ?_);rintro e w6 ⟨rfl,rfl⟩)
          | (go_at_call 22;(with_reducible refine(HOC.out _ (by exact HS5.out.st)).mono ?_);rintro e w7 ⟨rfl,rfl⟩))
         obtain⟨A9,c9,e9,hb9⟩:=HS5.out.fin
         injection e9 with e9 _ e10
         subst e9 e10;have hz:=HB3.out;have hs4:=HW4.out.1.size;have hl3:w.heap.size+2<W3.heap.size:=by have:=HS5.out.lo.1;have:=HW4.out.2;omega
         have hB9:Below w.heap.size w w5:=HR5.out.2.2.below hz.1 (fun g hg=>by have:=HS5.out.lo.1;simp only[List.mem_cons,List.not_mem_nil,or_false]at hg;omega) hz.1.size;refine bodyPost_ret (zj6 rfl _ w.heap.size (w.heap.size+1) 26 29 [.slice A1 l.length c1,.slice A3 l2.length c3] [.int .i64 0,.int .i64 0] rfl rfl (by exact(((HR5.out.1.set_ 0 _).set_ 1 _).far sy _).far sy _) (by exact(((HR5.out.2.1.far sy _).far sy _).set_ 0 _).set_ 1 _) _ _ Tryz.underlying26 rfl hdSr Tryz.underlying29 rfl hd48) rfl ?_;rw[HRE.out,paR_ok _ HO2.out];refine⟨A1,c1,A3,c3,rfl,?_,?_,(((hB9.setCell sy _).setCell sy _).setCell sy _).setCell sy _⟩
         · exact((((HD5.out.keep (zak (by show w.heap.size<_;omega) _)).keep (zak (by show w.heap.size<_;omega) _)).keep (zak (by show w.heap.size+1<_;omega) _)).keep (zak (by show w.heap.size+1<_;omega) _)).keep (za0 om)
         · exact((((hb9.keep (zak (by show w.heap.size<_;omega) _)).keep (zak (by show w.heap.size<_;omega) _)).keep (zak (by show w.heap.size+1<_;omega) _)).keep (zak (by show w.heap.size+1<_;omega) _)).keep (za0 om)
  · rw[hs]at HSN
    have hlt:=zam HCX.out.ends hs;have hi:=HL.out.1;have HQ1:Hid (Q 14 q):=QS0.q.pg HL.out.2.2.2;have HDC:=qh (fun W (h:PSt gp gs A2 ts.length c2 ts q W)=>decl_c HCX.out h HQ1.out hs)
    unfold DeK at HDC
    have hpg:=zlb HCX.out.ends q hlt (zag hs);have hadv:q.i+1≤(declP ts q).2.i:=znt HCX.out.ends hs;have HT3:=qh (((HDL.out gk l q).2 hs).symm.trans HL.out.2.2.1);have HI3:Hid (ts.length≤gk+q.i∧l.length≤q.i∧q.i+1<ts.length∧q.i+1≤(declP ts q).2.i∧Pg ts s0 (declP ts q).2):=⟨HL.out.1,HL.out.2.1,hlt,hadv,HL.out.2.2.2.trans hpg⟩;have hl8:l.length≤100000:=by have:=HL.out.2.1;omega
    generalize (declP ts q).1=X at *;generalize (declP ts q).2=q3 at *;clear hs HL HDL HTL HQ1 hpg hadv hlt hi
    go_wp2_with (go_at_call 20;(refine(HSN.out _ _ (by exact HS.out.st.alloc _) (by exact zco (L:=[k_let,k_route]) sy rfl)).mono ?_);rintro e w5 ⟨rfl,hB5⟩;have HS5:=qh (HS.out.call ((HS.out.st.alloc _).below hB5) (((Wr.refl _ _).alloc _).trans (Wr.of_below hB5)));clear hB5)
    have HD9:Hid (DpS gp gs G A2 ts.length c2 ts W3 l sl (.slice A1 l.length c1) q w5.drew):=HS5.out.call (HS5.out.st.below ((Below.refl _ _).drew)) (Wr.of_below ((Below.refl _ _).drew));refine kgo kr 7 (fun W'=>Blk W' G 26 [.slice A1 l.length c1,.slice none 0 0]) HD9.out.e (fun _ _ _ _ _ h=>h) ?_;refine kp 0 (.pointer (some ⟨G,0,none⟩)) rfl kr (fun _=>kr) ?_;refine kl 1 (.slice A1 l.length c1) rfl kr (fun w' hw'=>zah (t:=23) (x:=.tmp 24) rr kr agSdc (hw'.cell 0)) ?_;refine kp 2 (.pointer (some ⟨gp,0,none⟩)) rfl kr (fun _=>kr) ?_;intro q8 q9;clear q8 q9;refine AnyK.enter 3 (d:=some 27) (f:=21) (args:=#[.pointer (some ⟨gp,0,none⟩)]) rr kr kr ?_;refine(HDC.out _ HD9.out.st).mono ?_;rintro e wx ⟨y,rfl,hy,hx,hWx⟩;have HX9:=qh (HD9.out.call hx hWx);have HY9:Hid (DcIn (Fv W3.heap.size (.slice A1 l.length c1)) wx X y):=HD9.out.fr lr hy;have hl9:=HX9.out.lt;have hm9:=HX9.out.e.lt;have ho9:=HX9.out.wr.size;have hown9:∀k,(Value.slice A1 l.length c1).ownBlock=some k→G≠k:=fun k e=>by have:=(HX9.out.own.lt k e).1;omega
    clear hy hx hWx;refine⟨_,rfl,fun _=>HX9.out.e,?_⟩;refine AnyK.main 4 rr kr rfl (fun K hK=>zbz (zb5 23 45 (.tmp 27) rr (dcC X y) kr Tryz.underlying23 (by exact oneDc X y) (by rw[zce];omega) (by rw[zce];omega)) (hK _ _ ⟨fun _=>HX9.out.e.alloc _,?_⟩));refine AnyK.main 5 rr kr rfl (fun K hK=>zci (.tmp 25) (.tmp 28) 23 rr W3.heap.size 45 9 136 Tryz.underlying23 eDc (.slice A1 l.length c1) l.length (zipC dcC l sl) kr (HX9.out.own.alloc _) (some ⟨wx.heap.size,0,none⟩) 1 1 (dcC X y) kr (RdS.new wx _ (dcC X y) 9 rfl) (zbq _ _) om om (by simp;omega) (fun A7 c7 w7 hown7 hc7 hg7 hat7=>hK _ _ ⟨fun _=>(HX9.out.e.alloc _).grown hg7 (fun e=>hown9 _ e.symm rfl),?_⟩));have hb7:=(HX9.out.e.alloc (.cells (dcC X y).toArray 45)).grown hg7 (fun e=>hown9 _ e.symm rfl);refine AnyK.val 6 (v:=.pointer (some ⟨G,0,none⟩)) rr kr rfl kr (fun _=>hb7) ?_;have HP9:=qh (HX9.out.push HY9.out hg7 hown7 hat7);refine AnyK.store 7 (d:=none) (w':=w7.setCell ⟨G,0,none⟩ (.slice A7 (l.length+1) c7)) rr (fun o ho=>za6 ho kr kr szSdc (hb7.cell 0) (hb7.frozen 0)) kr (fun h=>(by cases h)) ?_;refine AnyK.done kr ?_;clear hb7 hown7 hg7 hat7 hown9;have e5:(l++[X]).length=l.length+1:=by simp
    go_wp2;have hi5:=HI3.out;go_roundg (gk-1)
    case measure=>omega
    case rel=>exact⟨l++[X],sl++[y],A7,c7,q3,by rw[e5];exact HP9.out,⟨by omega,by rw[e5];omega,by rw[show gk-1+1=gk by omega];exact HT3.out,hi5.2.2.2.2⟩⟩
theorem zkm(s:ByteArray)(w:World):PaK s (parse s.data.toList) w:=by
 rcases hR:Lx.scan s.data.toList with ⟨⟨p,q⟩,ts⟩
 unfold parse
 rw[hR]
 by_cases hp:p=0
 · subst hp
   have hq:q=0:=by
    rcases Lx.scan_cases s.data.toList with ⟨p',q',h1,h2⟩|⟨us,h1,_⟩
    · rw[hR]at h1
      injection h1 with h3
      injection h3 with h3 h4
      omega
    · rw[hR]at h1
      injection h1 with h3
      injection h3
   subst hq;exact zkl s ts hR w
 · dsimp only
   rw[if_neg hp];exact zm9 s hR hp w
end Go.Proofs.YtafjkbbiaopemaaGreatDoor.Tr
