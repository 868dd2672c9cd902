/- Part of the proof. -/
import Derived.Test.YtafjkbbiaopemaaGreatDoorBax23
set_option linter.all false
set_option maxRecDepth 100000
set_option maxHeartbeats 0
namespace Go.Proofs.YtafjkbbiaopemaaGreatDoor.Tr
open Go.RowKit
section
theorem hdDc:(Tryz.prog.info? 45).map (·.size)=some 9:=by kernel_rfl
theorem zh5(v:Value):Instr.loadAt 45 v=ldAt 45 v:=rfl
theorem ePl:ElemIs Tryz.prog 80 12 168:=ElemIs.of (z:=.agg (plC zPl pl0).toArray) kr rfl om
theorem onePl(X:Pl)(y:plA):(Tryz.prog.info? 80).map (fun i=>((i.zero.map (fun z=>z.cells.size)),i.size))=some (some (plC X y).length,(plC X y).length):=by kernel_rfl
theorem szSpl(w:World):(sizeOf 43).run Tryz.prog w=.ok 1 w:=by kernel_rfl
theorem agSpl(w:World):(isAgg 43).run Tryz.prog w=.ok false w:=by kernel_rfl
theorem zem(T:Pl)(p:plA):(plC T p).length=12:=rfl
def zDc:Dc:=⟨zs,zR,zE,[]⟩
theorem zbq(T:Dc)(p:plA):∀v∈dcC T p,v.oneCell'=true:=by
 intro v hv;simp only[dcC,exC,List.mem_cons,List.mem_append,List.not_mem_nil,or_false]at hv
 rcases hv with (rfl|rfl|rfl)| (rfl|rfl|rfl|rfl|rfl)| rfl <;> rfl
theorem zog(K:ByteArray)(w:World):(Instr.build 45 #[(0,.string K)]).run Tryz.prog w=.ok (.agg (dcC ⟨K,zR,zE,[]⟩ pl0).toArray) w:=by kernel_rfl
@[reducible] def dlC (K:ByteArray) (N:Rf) (v:Value):List Value:=[.string K,.string N.name,.int .i64 N.at_,.string zs,.int .i64 0,.string zs,.int .i64 0,.slice none 0 0,v]
structure DlS(gp gs:Nat)(A:Option Addr)(n c:Nat)(ts:List Lx.Tok)(w0:World)(g:Nat)(K:ByteArray)(N:Rf)(l:List Pl)(sl:List plA)(v:Value)(q:PS)(w:World):Prop where
 st:PSt gp gs A n c ts q w
 wr:Wr [gp,gs] w0 w
 z:Blk w w0.heap.size 45 (dcC zDc pl0)
 e:Blk w g 45 (dlC K N v)
 own:w.ownsRow (w0.heap.size+1) 80 12 v l.length (zipC plC l sl)
 nl:sl.length=l.length
 ob:∀k,v.ownBlock=some k→k≠g
 ar:∀(i:Nat) (e:Pl) (a:plA),l[i]? = some e→sl[i]? = some a→PlIn (Fj w0.heap.size g v) w e a
 lt:w0.heap.size<g
 lo:PLo gp gs A w0.heap.size
section
variable{gp gs:Nat}{A:Option Addr}{n c:Nat}{ts:List Lx.Tok}{s q q':PS}{w w' w0:World}{g:Nat}{K:ByteArray}{N:Rf}{l:List Pl}{sl:List plA}{v v':Value}{X:Pl}{y:plA}
theorem DlS.call(h:DlS gp gs A n c ts w0 g K N l sl v q w)(hs:PSt gp gs A n c ts q' w')(hW:Wr [gp,gs] w w'):DlS gp gs A n c ts w0 g K N l sl v q' w' :=
 ⟨hs,h.wr.trans hW,Blk.wr h.z hW h.lo lr,Blk.wr h.e hW (h.lo.mono (Nat.le_of_lt h.lt)) lr,
   zav h.own (fun k hk hlt _=>hW.block k hlt (fun hm=>by have:=h.lo.all k hm;omega)),h.nl,h.ob,fun i e a h1 h2=>(h.ar i e a h1 h2).keep (zfi hW h.lo.all),h.lt,h.lo⟩
theorem DlS.fr(h:DlS gp gs A n c ts w0 g K N l sl v q w){B:Nat}(hB:w.heap.size≤B){W:World}(ha:PlIn (Fr B) W X y):PlIn (Fj w0.heap.size g v) W X y :=
 ha.keep ⟨lr,fun _ _ _=>rfl,fun k hk _=>by
  have h1:=h.e.lt;have h2:=h.lt
  unfold Fr at hk
  refine⟨by omega,by omega,fun e=>?_⟩;have h3:=(h.own.lt k e).2
  omega⟩
theorem DlS.push(h:DlS gp gs A n c ts w0 g K N l sl v q w)(hy:PlIn (Fj w0.heap.size g v) w X y){w5:World}(hg:(w.alloc (.cells (plC X y).toArray 80)).grownBy w5 v.ownBlock)
 (ho:w5.ownsRow (w0.heap.size+1) 80 12 v' (l.length+1) (zipC plC l sl++plC X y)) (hat:v'.ownBlock=v.ownBlock∨v'.ownBlock=some (w.alloc (.cells (plC X y).toArray 80)).heap.size):
 DlS gp gs A n c ts w0 g K N (l++[X]) (sl++[y]) v' q (w5.setCell ⟨g,8,none⟩ v'):=by
 have hlt:=h.lt;have hgl:=h.e.lt;have hobg:∀k,v.ownBlock=some k→w0.heap.size+1≤k:=fun k hk=>(h.own.lt k hk).1
 have hobl:∀k,v.ownBlock=some k→k<w.heap.size:=fun k hk=>(h.own.lt k hk).2
 have hsz:(w.alloc (.cells (plC X y).toArray 80)).heap.size=w.heap.size+1:=by simp
 have hsz5:(w.alloc (.cells (plC X y).toArray 80)).heap.size≤w5.heap.size:=hg.size;have hB5:Below (w0.heap.size+1) w w5:=((Below.refl _ w).alloc om _).grown hg om hobg;have hB6:Below (w0.heap.size+1) w (w5.setCell ⟨g,8,none⟩ v'):=hB5.setCell (by exact hlt) v'
 have hob':∀k,v'.ownBlock=some k→k≠g:=by
  intro k hk
  rcases hat with h1|h1
  · exact h.ob k (h1 ▸ hk)
  · rw[h1]at hk
    injection hk with hk
    omega
 have hK:Keep (Fj w0.heap.size g v) (Fj w0.heap.size g v') w (w5.setCell ⟨g,8,none⟩ v'):=by
  refine⟨hB6.size,fun k hk hkl=>?_,fun k hk hkl=>⟨hk.1,hk.2.1,fun e=>?_⟩⟩
  · rw[Below.heap_setCell w5 ⟨g,8,none⟩ v' k hk.2.1,hg.block k om hk.2.2.symm]
    exact Below.heap_alloc w _ k hkl
  · rcases hat with h1|h1
    · exact hk.2.2 (h1 ▸ e)
    · rw[h1]at e
      injection e with e
      omega
 refine⟨h.st.belowB (h.lo.mono (Nat.le_succ _)) hB6,h.wr.thenb (hB6.mono (Nat.le_succ _)),h.z.below hB6 (Nat.lt_succ_self _),?_,?_,by simp[h.nl],hob',?_,h.lt,h.lo⟩
 · exact(((h.e.alloc _).grown hg (fun e=>h.ob g e.symm rfl)).set_ 8 v')
 · rw[la9,zby plC l sl X y h.nl]
   exact zav ho (fun k hk hkl e=>Below.heap_setCell w5 ⟨g,8,none⟩ v' k (hob' k e))
 · intro i e a h1 h2
   by_cases hi:i<l.length
   · rw[ll9 hi]at h1
     rw[ll9 (by rw[h.nl];exact hi)]at h2;exact(h.ar i e a h1 h2).keep hK
   · have hi2:i=l.length:=by
      have:=(gi9.1 h1).1
      simp at this
      omega
     subst hi2;rw[ar9 lr,Nat.sub_self]at h1;rw[←h.nl,ar9 lr,Nat.sub_self]at h2
     simp at h1 h2
     subst h1 h2;exact hy.keep hK
theorem DlS.fin{A1:Option Addr}{c1:Nat}(h:DlS gp gs A n c ts w0 g K N l sl (.slice A1 l.length c1) q w)(ho:Only w w' w0.heap.size):DcIn (Fr w0.heap.size) w' ⟨K,N,zE,l⟩ ((none,0),(A1,c1))∧PSt gp gs A n c ts q w'∧Wr [gp,gs] w0 w':=by
 have hK:Keep (Fj w0.heap.size g (.slice A1 l.length c1)) (Fr w0.heap.size) w w':=(Wr.onlyg (L:=[w0.heap.size]) ho sy).keep _ _ (fun k hk _ hm=>by simp only[List.mem_cons,List.not_mem_nil,or_false]at hm;have:=hk.1;omega) (fun k hk _=>Nat.le_of_lt hk.1)
 have hr:RdF (fun k=>w0.heap.size<k) 12 w A1 l.length (zipC plC l sl):=⟨RdS.ofOwn3 h.own,fun hn ad e=>by
  obtain⟨b,off,e2,hb,_⟩:=(RdS.ofOwn3 h.own).2 hn;subst e
  injection e2 with e2
  subst e2
  exact⟨(h.own.lt b rfl).1,zdw h.own rfl⟩⟩
 refine⟨⟨ArgsIn.nil _ _ _,sl,h.nl,hr.keep ((Wr.onlyg (L:=[w0.heap.size]) ho sy).keep (fun k=>w0.heap.size<k) (Fr w0.heap.size) (fun k hk _ hm=>by simp only[List.mem_cons,List.not_mem_nil,or_false]at hm;omega) (fun k hk _=>Nat.le_of_lt hk)),fun i s p h1 h2=>(h.ar i s p h1 h2).keep hK⟩,h.st.only h.lo lr ho,Wr.newL h.wr (Wr.onlyg (L:=[w0.heap.size]) ho sy) (fun g hg=>.inr (by simp at hg;omega))⟩
end
end
section
attribute [local go_sem ↓] zh5
structure DeS(gp gs gt:Nat)(A:Option Addr)(n c:Nat)(ts:List Lx.Tok)(w0:World)(T:Dc)(p:plA)(q:PS)(w:World):Prop where
 st:PSt gp gs A n c ts q w
 wr:Wr [gp,gs] w0 w
 z:Blk w w0.heap.size 45 (dcC zDc pl0)
 e:Blk w gt 45 (dcC T p)
 ar:DcIn (Fx w0.heap.size gt) w T p
 lo:PLo gp gs A w0.heap.size
 gl:w0.heap.size<gt
section
variable{gp gs gt:Nat}{A:Option Addr}{n c:Nat}{ts:List Lx.Tok}{s q q':PS}{w w' w0:World}{T T':Dc}{p p':plA}
theorem DcIn.zero(F:Nat→Prop)(w:World)(K:ByteArray)(N:Rf):DcIn F w ⟨K,N,zE,[]⟩ pl0:=⟨ArgsIn.nil _ _ _,PlsIn.nil _ _ _⟩
theorem DeS.call(h:DeS gp gs gt A n c ts w0 T p q w)(hs:PSt gp gs A n c ts q' w')(hW:Wr [gp,gs] w w'):DeS gp gs gt A n c ts w0 T p q' w' :=
 ⟨hs,h.wr.trans hW,Blk.wr h.z hW h.lo lr,Blk.wr h.e hW h.lo (Nat.le_of_lt h.gl),h.ar.keep (zet hW h.lo.all),h.lo,h.gl⟩
theorem DeS.put(h:DeS gp gs gt A n c ts w0 T p q w)(ho:Only w w' gt)(hb:Blk w' gt 45 (dcC T' p'))(ha:DcIn (Fx w0.heap.size gt) w T' p'):DeS gp gs gt A n c ts w0 T' p' q w' :=
 ⟨h.st.only (h.lo.mono (Nat.le_of_lt h.gl)) lr ho,Wr.newL h.wr (Wr.onlyg (L:=[gt]) ho sy) (fun g hg=>.inr (by simp at hg;have:=h.gl;omega)),ho.blk h.z (by have:=h.gl;omega),hb,
   ha.keep ((Wr.onlyg (L:=[gt]) ho sy).keep _ _ (fun k hk _ hm=>hk.2 (by simpa using hm)) (fun _ h _=>h)),h.lo,h.gl⟩
theorem DeS.fr(h:DeS gp gs gt A n c ts w0 T p q w){W:World}{B:Option Addr}{es:List Ex}(ha:ArgsIn (Fr w.heap.size) W B es):ArgsIn (Fx w0.heap.size gt) W B es :=
 ha.keep ⟨lr,fun _ _ _=>rfl,fun k hk _=>⟨by have:=h.e.lt;have:=h.gl;unfold Fr at hk;omega,by have:=h.e.lt;unfold Fr at hk;omega⟩⟩
theorem DeS.fin(h:DeS gp gs gt A n c ts w0 T p q w)(ho:Only w w' w0.heap.size):DcIn (Fr w0.heap.size) w' T p∧PSt gp gs A n c ts q w'∧Wr [gp,gs] w0 w' :=
 ⟨(h.ar.keep ((Wr.onlyg (L:=[w0.heap.size]) ho sy).keep (Fx w0.heap.size gt) (Fx w0.heap.size gt) (fun k hk _ hm=>by simp only[List.mem_cons,List.not_mem_nil,or_false]at hm;have:=hk.1;omega) (fun _ h _=>h))).keep zcw,
   h.st.only h.lo lr ho,Wr.newL h.wr (Wr.onlyg (L:=[w0.heap.size]) ho sy) (fun g hg=>.inr (by simp at hg;omega))⟩
def DeK(gp gs:Nat)(A:Option Addr)(n c:Nat)(ts:List Lx.Tok)(s:PS)(w:World):Prop :=
 Calls Tryz.prog 21 #[.pointer (some ⟨gp,0,none⟩)] w fun e w'=>∃p:plA,e=.returned (.agg (dcC (declP ts s).1 p).toArray)∧DcIn (Fr w.heap.size) w' (declP ts s).1 p∧PSt gp gs A n c ts (declP ts s).2 w'∧Wr [gp,gs] w w'
theorem zns(cx:Cx gp gs A n ts)(h:PSt gp gs A n c ts s w)(hq:Q 14 s)(hs:s.i+1<ts.length)(hok:s.ok=true)(hK:bytesOf (pk ts s).text=k_let)(hk6:(tokAt ts s.i).kind≠6):DeK gp gs A n c ts s w:=by
 unfold DeK
 have HNX:=qh (fun W (h:PSt gp gs A n c ts s W)=>zcc cx h hk6);have HRF:=qh (fun W (h:PSt gp gs A n c ts (nxt s) W)=>ref_c cx h);have HT1:=qh (fun W (h:PSt gp gs A n c ts (refP ts (nxt s)).2 W)=>zbk cx h m_eq);have g1:=nxt_g hs hok;have g2:=g1.trans (ref_g cx.ends (nxt s));have g3:=g2.trans (zar cx.ends m_eq _);have HEX:=qh (fun W (h:PSt gp gs A n c ts (takeP ts m_eq (refP ts (nxt s)).2) W)=>za3 cx 14 _ W h (hq.pg g3));have HT2:=qh (fun W (h:PSt gp gs A n c ts (exprP ts 14 (takeP ts m_eq (refP ts (nxt s)).2)).2 W)=>zbk cx h m_semi);have HT:Hid (declP ts s=(⟨k_let,(refP ts (nxt s)).1,(exprP ts 14 (takeP ts m_eq (refP ts (nxt s)).2)).1,[]⟩,takeP ts m_semi (exprP ts 14 (takeP ts m_eq (refP ts (nxt s)).2)).2)):=by show _=_;unfold declP;dsimp only;rw[hK,if_pos rfl]
 rw[HT.out];have HLO:=qh (h.lo cx);have HH:=qh (h.alloc (.cells (dcC zDc pl0).toArray 45));have HC0:Hid (∀W,PSt gp gs A n c ts s W→W.cell? ⟨gp,0,none⟩=some (.pointer (some ⟨gs,0,none⟩))):=fun W h=>h.par.cell 0
 have c0:w.cell? ⟨gp,0,none⟩=some (.pointer (some ⟨gs,0,none⟩)):=h.par.cell 0;have hgl:=h.par.lt;clear h hq hs hok hk6 g1 g2 g3 HT;generalize (exprP ts 14 (takeP ts m_eq (refP ts (nxt s)).2)).1=E at *;generalize (exprP ts 14 (takeP ts m_eq (refP ts (nxt s)).2)).2=q4 at *;generalize takeP ts m_eq (refP ts (nxt s)).2=q3 at *;generalize (refP ts (nxt s)).1=X at *;generalize (refP ts (nxt s)).2=q2 at *;generalize nxt s=q1 at *
 unfold pk at hK
 unfold tokCells at HNX
 rw[hK]at HNX;generalize tokAt ts s.i=t at *;have hf:=fld1 (.int .i64 t.kind) (.string k_let) (.int .i64 t.num) (.int .i64 t.at_)
 unfold rfC at HRF
 clear hK
 go_enter Tryz.func21, Tryz.ntmps21
 go_upto_region 6 with (first
  | (go_at_call 47;(refine(HNX.out _ (by exact HH.out)).mono ?_);rintro e w2 ⟨rfl,h2,hW2⟩;have H2:=qh h2;have HZ2:Hid (Blk w2 w.heap.size 45 (dcC zDc pl0)∧Wr [gp,gs] w w2):=⟨Blk.wr (Blk.new w _ _) hW2 HLO.out lr,((Wr.refl _ w).alloc _).trans hW2⟩;clear h2 hW2 c0)
  | refine zao rfl 45 [(0,.tmp 9)] rfl _ rr _ (zog _ _) ?_
  | (refine zaa rfl 45 (.tmp 3) (.tmp 10) rfl w2.heap.size (dcC ⟨k_let,zR,zE,[]⟩ pl0) rr rr 45 (dcC zDc pl0) (by exact Blk.new' rfl rfl) hdDc (zbq _ _) rfl ?_;intro w3 hb3 ho3;have HP3:Hid (DeS gp gs w2.heap.size A n c ts w ⟨k_let,zR,zE,[]⟩ pl0 q1 w3):=⟨(H2.out.alloc _).only HLO.out HZ2.out.2.size ho3,Wr.newL (HZ2.out.2.alloc _) (Wr.onlyg (L:=[w2.heap.size]) ho3 sy) (fun g hg=>.inr (by simp at hg;have:=HZ2.out.2.size;omega)),ho3.blk (HZ2.out.1.alloc _) (by have:=HZ2.out.1.lt;omega),hb3,DcIn.zero _ _ _ _,HLO.out,HZ2.out.1.lt⟩;clear hb3 ho3)
  | (go_at_call 48;(refine(HRF.out _ (by exact HP3.out.st)).mono ?_);rintro e w4 ⟨rfl,h4,hW4⟩;have HP4:=qh (HP3.out.call h4 hW4);clear h4 hW4)
  | (refine zae rfl 36 (.tmp 13) (.tmp 12) rfl w2.heap.size 1 (rfC X) rr rr 45 (dcC ⟨k_let,zR,zE,[]⟩ pl0) (by exact HP4.out.e) hdRf (zbo X) (by show 1+2≤9;omega) ?_;intro w5 hb5 ho5;have HP5:Hid (DeS gp gs w2.heap.size A n c ts w ⟨k_let,X,zE,[]⟩ pl0 q2 w5):=HP4.out.put ho5 (by exact hb5) HP4.out.ar;clear hb5 ho5)
  | (go_at_call 49;(with_reducible refine(HT1.out _ (by exact HP5.out.st)).mono ?_);rintro e w6 ⟨rfl,h6,hW6⟩;have HP6:=qh (HP5.out.call h6 hW6);have k6:w6.cell? ⟨w2.heap.size,0,none⟩=some (.string k_let):=HP6.out.e.cell 0;clear h6 hW6))
 go_wp2_with (first
  | (go_at_call 50;(refine(HEX.out _ (by exact HP6.out.st)).mono ?_);rintro e w7 ⟨a7,rfl,ha7,h7,hW7⟩;have HE7:=qh (DeS.fr HP6.out ha7);have HP7:=qh (HP6.out.call h7 hW7);clear ha7 h7 hW7 k6)
  | (refine zae rfl 39 (.tmp 21) (.tmp 20) rfl w2.heap.size 3 (exC E a7) rr rr 45 (dcC ⟨k_let,X,zE,[]⟩ pl0) (by exact HP7.out.e) hdEx (zau E a7) (by show 3+5≤9;omega) ?_;intro w8 hb8 ho8;have HP8:Hid (DeS gp gs w2.heap.size A n c ts w ⟨k_let,X,E,[]⟩ (a7,pl0.2) q4 w8):=HP7.out.put ho8 (by exact hb8) ⟨HE7.out,HP7.out.ar.2⟩;clear hb8 ho8)
  | (go_at_call 49;(with_reducible refine(HT2.out _ (by exact HP8.out.st)).mono ?_);rintro e w9 ⟨rfl,h9,hW9⟩;have HP9:=qh (HP8.out.call h9 hW9);have hl9:=zbg HP9.out.e 45 0 (dcC ⟨k_let,X,E,[]⟩ (a7,pl0.2)) rfl _ Tryz.underlying45 rfl hdDc;clear h9 hW9)
  | (refine zaa rfl 45 (.tmp 2) (.tmp 40) rfl w.heap.size (dcC ⟨k_let,X,E,[]⟩ (a7,pl0.2)) rr rr 45 (dcC zDc pl0) (by exact HP9.out.z) hdDc (zbq _ _) rfl ?_;intro w10 hb10 ho10))
 obtain⟨e1,e2,e3⟩:=HP9.out.fin ho10;exact bodyPost_ret (res_c rfl _ w.heap.size 45 (dcC ⟨k_let,X,E,[]⟩ (a7,pl0.2)) rfl hb10 _ Tryz.underlying45 rfl hdDc) rfl ⟨(a7,pl0.2),rfl,e1,e2,e3⟩
end
end
section
attribute [local go_sem ↓] zh5
section
variable{gp gs gt:Nat}{A:Option Addr}{n c:Nat}{ts:List Lx.Tok}{s q q':PS}{w w' w0:World}
theorem zjg(cx:Cx gp gs A n ts)(h:PSt gp gs A n c ts s w)(hq:Q 14 s)(hs:s.i+1<ts.length)(hok:s.ok=true)(hK:bytesOf (pk ts s).text=k_route)(hk6:(tokAt ts s.i).kind≠6):DeK gp gs A n c ts s w:=by
 unfold DeK
 have HNX:=qh (fun W (h:PSt gp gs A n c ts s W)=>zcc cx h hk6);have HRF:=qh (fun W (h:PSt gp gs A n c ts (nxt s) W)=>ref_c cx h);have HT1:=qh (fun W (h:PSt gp gs A n c ts (refP ts (nxt s)).2 W)=>zbk cx h m_eq);have g1:=nxt_g hs hok;have g2:=g1.trans (ref_g cx.ends (nxt s));have g3:=g2.trans (zar cx.ends m_eq _);have HPL:=qh (fun q W (h:PSt gp gs A n c ts q W) (hq:Q 14 q)=>zo8 cx h hq);have HPL1:=qh (fun W (h:PSt gp gs A n c ts (takeP ts m_eq (refP ts (nxt s)).2) W)=>HPL.out _ W h (hq.pg g3));have HAL:=qh (fun q W (h:PSt gp gs A n c ts q W)=>zda cx h m_gt);have HT2:=qh (fun q W (h:PSt gp gs A n c ts q W)=>zbk cx h m_semi);have HT:Hid (declP ts s=(⟨k_route,(refP ts (nxt s)).1,zE,(placeLoop ts (ts.length+1) [(placeP ts (takeP ts m_eq (refP ts (nxt s)).2)).1] (placeP ts (takeP ts m_eq (refP ts (nxt s)).2)).2).1⟩,takeP ts m_semi (placeLoop ts (ts.length+1) [(placeP ts (takeP ts m_eq (refP ts (nxt s)).2)).1] (placeP ts (takeP ts m_eq (refP ts (nxt s)).2)).2).2)):=by show _=_;unfold declP;dsimp only;rw[hK,if_neg (by decide)]
 rw[HT.out];have HQ8:=qh ((hq.pg g3).pg (zcs cx.ends (takeP ts m_eq (refP ts (nxt s)).2)));have HLO:=qh (h.lo cx);have HH:=qh (h.alloc (.cells (dcC zDc pl0).toArray 45));have c0:w.cell? ⟨gp,0,none⟩=some (.pointer (some ⟨gs,0,none⟩)):=h.par.cell 0;have hgl:=h.par.lt;have HCX:=qh cx;clear h hq hs hok hk6 g1 g2 g3 HT;generalize (placeP ts (takeP ts m_eq (refP ts (nxt s)).2)).1=X8 at *;generalize (placeP ts (takeP ts m_eq (refP ts (nxt s)).2)).2=q8 at *;generalize takeP ts m_eq (refP ts (nxt s)).2=q3 at *;generalize (refP ts (nxt s)).1=X at *;generalize (refP ts (nxt s)).2=q2 at *;generalize nxt s=q1 at *;generalize hRR:placeLoop ts (ts.length+1) [X8] q8=R at *;have HRR:=qh hRR;clear hRR
 unfold pk at hK
 unfold tokCells at HNX
 rw[hK]at HNX;generalize tokAt ts s.i=t at *;have hf:=fld1 (.int .i64 t.kind) (.string k_route) (.int .i64 t.num) (.int .i64 t.at_)
 unfold rfC at HRF
 clear hK
 go_enter Tryz.func21, Tryz.ntmps21
 go_upto_region 6 with (first
  | (go_at_call 47;(refine(HNX.out _ (by exact HH.out)).mono ?_);rintro e w2 ⟨rfl,h2,hW2⟩;have H2:=qh h2;have HZ2:Hid (Blk w2 w.heap.size 45 (dcC zDc pl0)∧Wr [gp,gs] w w2):=⟨Blk.wr (Blk.new w _ _) hW2 HLO.out lr,((Wr.refl _ w).alloc _).trans hW2⟩;clear h2 hW2 c0)
  | refine zao rfl 45 [(0,.tmp 9)] rfl _ rr _ (zog _ _) ?_
  | (refine zaa rfl 45 (.tmp 3) (.tmp 10) rfl w2.heap.size (dcC ⟨k_route,zR,zE,[]⟩ pl0) rr rr 45 (dcC zDc pl0) (by exact Blk.new' rfl rfl) hdDc (zbq _ _) rfl ?_;intro w3 hb3 ho3;have HP3:Hid (DeS gp gs w2.heap.size A n c ts w ⟨k_route,zR,zE,[]⟩ pl0 q1 w3):=⟨(H2.out.alloc _).only HLO.out HZ2.out.2.size ho3,Wr.newL (HZ2.out.2.alloc _) (Wr.onlyg (L:=[w2.heap.size]) ho3 sy) (fun g hg=>.inr (by simp at hg;have:=HZ2.out.2.size;omega)),ho3.blk (HZ2.out.1.alloc _) (by have:=HZ2.out.1.lt;omega),hb3,DcIn.zero _ _ _ _,HLO.out,HZ2.out.1.lt⟩;clear hb3 ho3)
  | (go_at_call 48;(refine(HRF.out _ (by exact HP3.out.st)).mono ?_);rintro e w4 ⟨rfl,h4,hW4⟩;have HP4:=qh (HP3.out.call h4 hW4);clear h4 hW4)
  | (refine zae rfl 36 (.tmp 13) (.tmp 12) rfl w2.heap.size 1 (rfC X) rr rr 45 (dcC ⟨k_route,zR,zE,[]⟩ pl0) (by exact HP4.out.e) hdRf (zbo X) (by show 1+2≤9;omega) ?_;intro w5 hb5 ho5;have HP5:Hid (DeS gp gs w2.heap.size A n c ts w ⟨k_route,X,zE,[]⟩ pl0 q2 w5):=HP4.out.put ho5 (by exact hb5) HP4.out.ar;clear hb5 ho5)
  | (go_at_call 49;(with_reducible refine(HT1.out _ (by exact HP5.out.st)).mono ?_);rintro e w6 ⟨rfl,h6,hW6⟩;have HP6:=qh (HP5.out.call h6 hW6);have k6:w6.cell? ⟨w2.heap.size,0,none⟩=some (.string k_route):=HP6.out.e.cell 0;clear h6 hW6))
 have J5:Hid (DlS gp gs A n c ts w w2.heap.size k_route X [] [] (.slice none 0 0) q3 w6):=⟨HP6.out.st,HP6.out.wr,HP6.out.z,HP6.out.e,World.ownsRow_nil _ _ _ _,rfl,fun k hk=>(by cases hk),fun i e a h1 _=>(by simp at h1),HP6.out.gl,HP6.out.lo⟩;clear HP3 HP4 HP5 HP6 H2 HZ2 k6 HNX HRF HT1 HH;generalize w2.heap.size=G at *;have HD8:Hid (DlS gp gs A n c ts w G k_route X [] [] (.slice none 0 0) q3 w6.drew):=J5.out.call (J5.out.st.below ((Below.refl _ _).drew)) (Wr.of_below ((Below.refl _ _).drew));refine kgo kr 7 (fun W'=>Blk W' G 45 (dlC k_route X (.slice none 0 0))) HD8.out.e (fun _ _ _ _ _ h=>h) ?_;refine kp 0 (.pointer (some ⟨G,8,none⟩)) rfl kr (fun _=>kr) ?_;refine kl 1 (.slice none 0 0) rfl kr (fun w' hw'=>zah (t:=43) (x:=.tmp 22) rr kr agSpl (hw'.cell 8)) ?_;refine kp 2 (.pointer (some ⟨gp,0,none⟩)) rfl kr (fun _=>kr) ?_;intro q8 q9;clear q8 q9;refine AnyK.enter 3 (d:=some 25) (f:=51) (args:=#[.pointer (some ⟨gp,0,none⟩)]) rr kr kr ?_;refine(HPL1.out _ HD8.out.st).mono ?_;rintro e wx ⟨y,rfl,hy,hx,hWx⟩;have HX8:=qh (HD8.out.call hx hWx);have HY8:Hid (PlIn (Fj w.heap.size G (.slice none 0 0)) wx X8 y):=HD8.out.fr lr hy;have hl8:=HX8.out.lt;have hm8:=HX8.out.e.lt;clear hy hx hWx;refine⟨_,rfl,fun _=>HX8.out.e,?_⟩;refine AnyK.main 4 rr kr rfl (fun K hK=>zbz (zb5 43 80 (.tmp 25) rr (plC X8 y) kr Tryz.underlying43 (by exact onePl X8 y) (by rw[zem];omega) (by rw[zem];omega)) (hK _ _ ⟨fun _=>HX8.out.e.alloc _,?_⟩));refine AnyK.main 5 rr kr rfl (fun K hK=>zci (.tmp 23) (.tmp 26) 43 rr (w.heap.size+1) 80 12 168 Tryz.underlying43 ePl (.slice none 0 0) 0 (zipC plC [] []) kr (HX8.out.own.alloc _) (some ⟨wx.heap.size,0,none⟩) 1 1 (plC X8 y) kr (RdS.new wx _ (plC X8 y) 12 rfl) (zbp _ _) om om (by simp;omega) (fun A7 c7 w7 hown7 hc7 hg7 hat7=>hK _ _ ⟨fun _=>(HX8.out.e.alloc _).grown hg7 (fun e=>HX8.out.ob _ e.symm rfl),?_⟩));have hb7:=(HX8.out.e.alloc (.cells (plC X8 y).toArray 80)).grown hg7 (fun e=>HX8.out.ob _ e.symm rfl);refine AnyK.val 6 (v:=.pointer (some ⟨G,8,none⟩)) rr kr rfl kr (fun _=>hb7) ?_;have HP8:=qh (HX8.out.push HY8.out hg7 hown7 hat7);refine AnyK.store 7 (d:=none) (w':=w7.setCell ⟨G,8,none⟩ (.slice A7 (0+1) c7)) rr (fun o ho=>za6 ho kr kr szSpl (hb7.cell 8) (hb7.frozen 8)) kr (fun h=>(by cases h)) ?_;refine AnyK.done kr ?_;clear hb7 hown7 hg7 hat7;go_wp2;simp only[List.getElem_toArray,List.getElem_cons_zero,List.getElem_cons_succ,Act.put,List.setIfInBounds_toArray,List.set_cons_succ,List.set_cons_zero];have HTL:=qh (fun(kk:Nat) (l:List Pl) (q:PS)=>(⟨fun h=>(by rw[placeLoop,if_neg (by rw[h];simp)]),fun h=>(by rw[placeLoop,if_pos h])⟩:(sees ts [m_gt] q=false→placeLoop ts (kk+1) l q=(l,q))∧(sees ts [m_gt] q=true→placeLoop ts (kk+1) l q=placeLoop ts kk (l++[(placeP ts (nxt q)).1]) (placeP ts (nxt q)).2)));clear J5 HD8 HX8 HY8 hm8 HPL1
 go_loopg [] ts.length (fun kk wr=>∃(l:List Pl) (sl:List plA) (A1:Option Addr) (c1:Nat) (q:PS),DlS gp gs A n c ts w G k_route X l sl (.slice A1 l.length c1) q wr∧ts.length≤kk+q.i∧l.length≤q.i+1∧placeLoop ts (kk+1) l q=R∧Q 14 q)
 case atStart=>exact⟨[X8],[y],A7,c7,q8,HP8.out,by omega,by simp,HRR.out,HQ8.out⟩
 case round =>
  clear HP8 HRR HQ8;obtain⟨l,sl,A1,c1,q,hS,hk,hll,hT,hQ⟩:=hrel
  cases hs:sees ts [m_gt] q
  · have HS:=qh hS
    have HAA:=HAL.out q _ hS.st;have HRE:Hid (R=(l,q)):=hT.symm.trans ((HTL.out gk l q).1 hs);have HAP:Hid (alsoP ts m_gt q=q):=(by show _=_;unfold alsoP;rw[hs];rfl);rw[hs,HAP.out]at HAA;have HALL:=qh HAA;have HTT:=qh (fun W (h:PSt gp gs A n c ts q W)=>HT2.out q W h);clear hS hk hll hT hQ hs HAA HTL HAL HT2 HPL
    go_wp2_with (first
     | (go_at_call 52;(refine(HALL.out).mono ?_);rintro e w8 ⟨rfl,h8,hW8⟩;have HS8:=qh (HS.out.call h8 hW8);clear h8 hW8)
     | (go_at_call 49;(refine(HTT.out _ (by exact HS8.out.st)).mono ?_);rintro e w9 ⟨rfl,h9,hW9⟩;have HS9:=qh (HS8.out.call h9 hW9);have hl9:=zbg HS9.out.e 45 0 (dlC k_route X (.slice A1 l.length c1)) rfl _ Tryz.underlying45 rfl hdDc;clear h9 hW9)
     | (refine zaa rfl 45 (.tmp 2) (.tmp 40) rfl w.heap.size (dcC ⟨k_route,X,zE,l⟩ ((none,0),(A1,c1))) rr rr 45 (dcC zDc pl0) (by exact HS9.out.z) hdDc (zbq _ _) rfl ?_;intro w10 hb10 ho10))
    obtain⟨e1,e2,e3⟩:=HS9.out.fin ho10;refine bodyPost_ret (res_c rfl _ w.heap.size 45 (dcC ⟨k_route,X,zE,l⟩ ((none,0),(A1,c1))) rfl hb10 _ Tryz.underlying45 rfl hdDc) rfl ?_;rw[HRE.out];exact⟨((none,0),(A1,c1)),rfl,e1,e2,e3⟩
  · have HS:=qh hS
    have HAA:=HAL.out q _ hS.st;have hlt:=zam HCX.out.ends hs;have HAP:Hid (alsoP ts m_gt q=nxt q):=(by show _=_;unfold alsoP;rw[hs];rfl);rw[hs,HAP.out]at HAA;have HALL:=qh HAA;have hQ2:Q 14 (nxt q):=hQ.pg (nxt_g hlt (zag hs));have HFX:=qh (fun W (h:PSt gp gs A n c ts (nxt q) W)=>HPL.out (nxt q) W h hQ2);have HQ3:=qh (hQ2.pg (zcs HCX.out.ends (nxt q)));have HI3:Hid (q.i+1≤(placeP ts (nxt q)).2.i):=(zcs HCX.out.ends (nxt q)).le;have HT3:=qh (((HTL.out gk l q).2 hs).symm.trans hT);have hl9:l.length≤100000:=by have h1:=HCX.out.hn;have h2:=HCX.out.hn8;omega
    have HKL:=qh (And.intro hk (And.intro hlt hll));clear hS hk hll hT hQ hs HAA HTL HAL HPL hlt hQ2 HAP HT2;generalize (placeP ts (nxt q)).1=X9 at *;generalize (placeP ts (nxt q)).2=q3' at *
    go_wp2_with (go_at_call 52;(refine(HALL.out).mono ?_);rintro e w8 ⟨rfl,h8,hW8⟩;have HS8:=qh (HS.out.call h8 hW8);clear h8 hW8)
    have HD9:Hid (DlS gp gs A n c ts w G k_route X l sl (.slice A1 l.length c1) (nxt q) w8.drew):=HS8.out.call (HS8.out.st.below ((Below.refl _ _).drew)) (Wr.of_below ((Below.refl _ _).drew));refine kgo kr 7 (fun W'=>Blk W' G 45 (dlC k_route X (.slice A1 l.length c1))) HD9.out.e (fun _ _ _ _ _ h=>h) ?_;refine kp 0 (.pointer (some ⟨G,8,none⟩)) rfl kr (fun _=>kr) ?_;refine kl 1 (.slice A1 l.length c1) rfl kr (fun w' hw'=>zah (t:=43) (x:=.tmp 31) rr kr agSpl (hw'.cell 8)) ?_;refine kp 2 (.pointer (some ⟨gp,0,none⟩)) rfl kr (fun _=>kr) ?_;intro q8 q9;clear q8 q9;refine AnyK.enter 3 (d:=some 34) (f:=51) (args:=#[.pointer (some ⟨gp,0,none⟩)]) rr kr kr ?_;refine(HFX.out _ HD9.out.st).mono ?_;rintro e wx ⟨y,rfl,hy,hx,hWx⟩;have HX9:=qh (HD9.out.call hx hWx);have HY9:Hid (PlIn (Fj w.heap.size G (.slice A1 l.length c1)) wx X9 y):=HD9.out.fr lr hy;have hl9:=HX9.out.lt;have hm9:=HX9.out.e.lt;clear hy hx hWx;refine⟨_,rfl,fun _=>HX9.out.e,?_⟩;refine AnyK.main 4 rr kr rfl (fun K hK=>zbz (zb5 43 80 (.tmp 34) rr (plC X9 y) kr Tryz.underlying43 (by exact onePl X9 y) (by rw[zem];omega) (by rw[zem];omega)) (hK _ _ ⟨fun _=>HX9.out.e.alloc _,?_⟩));refine AnyK.main 5 rr kr rfl (fun K hK=>zci (.tmp 32) (.tmp 35) 43 rr (w.heap.size+1) 80 12 168 Tryz.underlying43 ePl (.slice A1 l.length c1) l.length (zipC plC l sl) kr (HX9.out.own.alloc _) (some ⟨wx.heap.size,0,none⟩) 1 1 (plC X9 y) kr (RdS.new wx _ (plC X9 y) 12 rfl) (zbp _ _) om om (by simp;omega) (fun A7 c7 w7 hown7 hc7 hg7 hat7=>hK _ _ ⟨fun _=>(HX9.out.e.alloc _).grown hg7 (fun e=>HX9.out.ob _ e.symm rfl),?_⟩));have hb7:=(HX9.out.e.alloc (.cells (plC X9 y).toArray 80)).grown hg7 (fun e=>HX9.out.ob _ e.symm rfl);refine AnyK.val 6 (v:=.pointer (some ⟨G,8,none⟩)) rr kr rfl kr (fun _=>hb7) ?_;have HP9:=qh (HX9.out.push HY9.out hg7 hown7 hat7);refine AnyK.store 7 (d:=none) (w':=w7.setCell ⟨G,8,none⟩ (.slice A7 (l.length+1) c7)) rr (fun o ho=>za6 ho kr kr szSpl (hb7.cell 8) (hb7.frozen 8)) kr (fun h=>(by cases h)) ?_;refine AnyK.done kr ?_;clear hb7 hown7 hg7 hat7;go_wp2;have hk5:=HKL.out;have hi5:=HI3.out;go_roundg (gk-1)
    case measure=>omega
    case rel=>exact⟨l++[X9],sl++[y],A7,c7,q3',by rw[la9];exact HP9.out,by omega,by rw[la9,List.length_singleton];omega,by rw[show gk-1+1=gk by omega];exact HT3.out,HQ3.out⟩
theorem decl_c(cx:Cx gp gs A n ts)(h:PSt gp gs A n c ts s w)(hq:Q 14 s)(hs:sees ts [k_let,k_route] s=true):DeK gp gs A n c ts s w:=by
 have h1:=zam cx.ends hs;have h2:=zag hs;have h3:isOf (pk ts s) [k_let,k_route]=true:=by unfold sees at hs;rw[h2]at hs;simpa using hs
 have hk6:(tokAt ts s.i).kind≠6:=fun e=>by unfold isOf pk at h3;rw[e]at h3;simp at h3
 have h4:bytesOf (pk ts s).text∈[k_let,k_route]:=by
  unfold isOf at h3
  simp only[Bool.and_eq_true]at h3;exact zcf.1 h3.2
 simp only[List.mem_cons,List.not_mem_nil,or_false]at h4
 rcases h4 with h4|h4
 · exact zns cx h hq h1 h2 h4 hk6
 · exact zjg cx h hq h1 h2 h4 hk6
end
end
end Go.Proofs.YtafjkbbiaopemaaGreatDoor.Tr
