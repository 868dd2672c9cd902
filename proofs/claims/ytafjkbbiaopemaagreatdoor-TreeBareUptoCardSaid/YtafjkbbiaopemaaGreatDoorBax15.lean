/- Part of the proof. -/
import Derived.Test.YtafjkbbiaopemaaGreatDoorBax13
set_option linter.all false
set_option maxRecDepth 100000
set_option maxHeartbeats 0
namespace Go.Proofs.YtafjkbbiaopemaaGreatDoor.Tr
open Go.RowKit
section
section
variable{gp gs:Nat}{A:Option Addr}{n c:Nat}{ts:List Lx.Tok}{s q q':PS}{w w' w0:World}{g:Nat}{E:Ex}{a:Option Addr × Nat}
theorem zk7(cx:Cx gp gs A n ts)(ex:PS→Ex × PS)(h:PSt gp gs A n c ts s w)(hk4:kindIs ts 4 s=true):Calls Tryz.prog 111 #[.pointer (some ⟨gp,0,none⟩)] w fun e w'=>∃a:Option Addr × Nat,e=.returned (.agg (exC (factorP ts ex s).1 a).toArray)∧ArgsIn (Fr w.heap.size) w' a.1 (factorP ts ex s).1.args∧PSt gp gs A n c ts (factorP ts ex s).2 w'∧Wr [gp,gs] w w':=by
 have HK4:=qh (fun W (h:PSt gp gs A n c ts s W)=>zhd cx h);have HH:=qh (h.alloc (.cells #[.string { data:=#[] },.int .i64 0,.string { data:=#[] },.int .i64 0,.slice none 0 0] 39));have HE:Hid (Wr [gp,gs] w (w.alloc (.cells #[.string { data:=#[] },.int .i64 0,.string { data:=#[] },.int .i64 0,.slice none 0 0] 39))):=(Wr.refl _ _).alloc _;have HB:Hid (Blk (w.alloc (.cells #[.string { data:=#[] },.int .i64 0,.string { data:=#[] },.int .i64 0,.slice none 0 0] 39)) w.heap.size 39 zEc):=Blk.new' rfl rfl;have HLO:=qh (h.lo cx);have hpl:=h.par.lt;have hsl:=h.stm.1.lt;have c0:∀W,PSt gp gs A n c ts s W→W.cell? ⟨gp,0,none⟩=some (.pointer (some ⟨gs,0,none⟩)):=fun W h=>h.par.cell 0
 have HC0:=qh c0;clear c0;rw[hk4]at HK4
 have hk6:(tokAt ts s.i).kind≠6:=by
  have hk:=hk4
  unfold kindIs pk at hk
  simp only[Bool.and_eq_true,decide_eq_true_eq]at hk;omega
 have HNX:=qh (fun W (h:PSt gp gs A n c ts s W)=>zcc cx h hk6);have HR:Hid (factorP ts ex s=(.mk k_text 0 (bytesOf (pk ts s).text) ((pk ts s).at_:Int) [],nxt s)):=(by show _=_;unfold factorP;rw[hk4];rfl);rw[HR.out];clear h hk4 hk6 HR
 unfold pk
 generalize tokAt ts s.i=t at *
 unfold tokCells at HNX
 go_enter Tryz.func111, Tryz.ntmps111
 go_wp2_with (first
  | (go_at_call 23;(with_reducible refine(HK4.out _ (by exact HH.out)).mono ?_);rintro e w2 ⟨rfl,hB2⟩;have H2:=qh (HH.out.below hB2);have HE2:=qh (HE.out.trans (Wr.of_below hB2));have HB2:=qbl HB hB2;have c2:=HC0.out _ H2.out;clear hB2)
  | (go_at_call 47;(refine(HNX.out _ (by exact H2.out)).mono ?_);rintro e w4 ⟨rfl,h4,hW4⟩;have H4:=qh h4;have HE4:=qh (HE2.out.trans hW4);have HB4:Hid (Blk w4 w.heap.size 39 zEc):=Blk.wr HB2.out hW4 HLO.out lr;obtain⟨z0,z1,z2,z3,z4⟩:=Blk.five HB4.out;obtain⟨f0,f1,f2,f3,f4⟩:=Blk.fro5 HB4.out;have hz4:w.heap.size<w4.heap.size:=HB4.out.lt;clear h4 hW4))
 refine bodyPost_ret (res_c rfl _ w.heap.size 39 (exC (.mk k_text 0 (bytesOf t.text) (t.at_:Int) []) (none,0)) rfl (by exact(((((HB4.out.set_ 0 _).set_ 1 _).set_ 2 _).set_ 3 _).set_ 4 _).alloc _) _ Tryz.underlying39 rfl hdEx) rfl ⟨(none,0),rfl,ArgsIn.nil _ _ _,?_,?_⟩
 · exact(((((H4.out.setNew HLO.out lr _).setNew HLO.out lr _).setNew HLO.out lr _).setNew HLO.out lr _).setNew HLO.out lr _).alloc _
 · exact(((((HE4.out.setNew lr _).setNew lr _).setNew lr _).setNew lr _).setNew lr _).alloc _
theorem zk9(cx:Cx gp gs A n ts)(ex:PS→Ex × PS)(d:Nat)(hat:ExK gp gs A n c ts 84 (atomP ts ex) (Q d))(h:PSt gp gs A n c ts s w)(hq:Q d s)(hk4:kindIs ts 4 s=false)(hkj:sees ts [k_join] s=false):Calls Tryz.prog 111 #[.pointer (some ⟨gp,0,none⟩)] w fun e w'=>∃a:Option Addr × Nat,e=.returned (.agg (exC (factorP ts ex s).1 a).toArray)∧ArgsIn (Fr w.heap.size) w' a.1 (factorP ts ex s).1.args∧PSt gp gs A n c ts (factorP ts ex s).2 w'∧Wr [gp,gs] w w':=by
 have HAT:=qh (fun W (h:PSt gp gs A n c ts s W)=>hat s W h hq);have HS:=qh (fun W A1 (h:PSt gp gs A n c ts s W) (hl:Rd W A1 1 (strs [k_join]))=>zb1 cx h [k_join] A1 1 1 hl om);have HK4:=qh (fun W (h:PSt gp gs A n c ts s W)=>zhd cx h);have HH:=qh (h.alloc (.cells #[.string { data:=#[] },.int .i64 0,.string { data:=#[] },.int .i64 0,.slice none 0 0] 39));have HE:Hid (Wr [gp,gs] w (w.alloc (.cells #[.string { data:=#[] },.int .i64 0,.string { data:=#[] },.int .i64 0,.slice none 0 0] 39))):=(Wr.refl _ _).alloc _;have HB:Hid (Blk (w.alloc (.cells #[.string { data:=#[] },.int .i64 0,.string { data:=#[] },.int .i64 0,.slice none 0 0] 39)) w.heap.size 39 zEc):=Blk.new' rfl rfl;have HLO:=qh (h.lo cx);have hpl:=h.par.lt;have hsl:=h.stm.1.lt;have c0:∀W,PSt gp gs A n c ts s W→W.cell? ⟨gp,0,none⟩=some (.pointer (some ⟨gs,0,none⟩)):=fun W h=>h.par.cell 0
 have HC0:=qh c0;clear c0;rw[hk4]at HK4;rw[hkj]at HS;have HR:Hid (factorP ts ex s=atomP ts ex s):=(by show _=_;unfold factorP;rw[hk4,hkj];rfl);rw[HR.out];clear h hk4 hkj hq hat HR;generalize (atomP ts ex s).1=E at *;generalize (atomP ts ex s).2=q at *
 unfold exC at HAT
 go_enter Tryz.func111, Tryz.ntmps111
 go_wp2_with (first
  | (go_at_call 23;(with_reducible refine(HK4.out _ (by exact HH.out)).mono ?_);rintro e w2 ⟨rfl,hB2⟩;have H2:=qh (HH.out.below hB2);have HE2:=qh (HE.out.trans (Wr.of_below hB2));have HB2:=qbl HB hB2;have c2:=HC0.out _ H2.out;clear hB2)
  | (go_at_call 20;(refine(HS.out _ _ (by exact H2.out.alloc _) (by exact Rd.new1' rfl)).mono ?_);rintro e w4 ⟨rfl,hB4⟩;have H4:=qh ((H2.out.alloc _).below hB4);have HE4:=qh ((HE2.out.alloc _).trans (Wr.of_below hB4));have HB4:=qh ((HB2.out.alloc _).below hB4 (HB2.out.alloc _).lt);clear hB4)
  | (go_at_call 84;(refine(HAT.out _ (by exact H4.out)).mono ?_);rintro e w5 ⟨⟨a1,a2⟩,rfl,ha5,h5,hW5⟩;have hlt4:w.heap.size<w4.heap.size:=HB4.out.lt;have H5:=qh h5;have HA5:=qh ha5;have HE5:=qh (HE4.out.trans hW5);have HB5:Hid (Blk w5 w.heap.size 39 zEc):=Blk.wr HB4.out hW5 HLO.out lr;obtain⟨z0,z1,z2,z3,z4⟩:=Blk.five HB5.out;obtain⟨f0,f1,f2,f3,f4⟩:=Blk.fro5 HB5.out;clear h5 ha5 hW5))
 refine bodyPost_ret (res_c rfl _ w.heap.size 39 (exC E (a1,a2)) rfl (by exact((((HB5.out.set_ 0 _).set_ 1 _).set_ 2 _).set_ 3 _).set_ 4 _) _ Tryz.underlying39 rfl hdEx) rfl ⟨(a1,a2),rfl,?_,?_,?_⟩
 · exact(((((HA5.out.keep (zak hlt4 _)).keep (zak hlt4 _)).keep (zak hlt4 _)).keep (zak hlt4 _)).keep (zak hlt4 _)).keep (za0 (Nat.le_of_lt hlt4))
 · exact((((H5.out.setNew HLO.out lr _).setNew HLO.out lr _).setNew HLO.out lr _).setNew HLO.out lr _).setNew HLO.out lr _
 · exact((((HE5.out.setNew lr _).setNew lr _).setNew lr _).setNew lr _).setNew lr _
end
end
section
section
variable{P:Program}{w:World}{o:Oper}{a:Act}
theorem zb5(t e:TypeId)(x:Operand)(ho:o.op=.buildSlice t 1 #[(0,x)])(cs:List Value)(hx:a.eval x=.agg cs.toArray)(hu:P.underlying t=some (.slice e))(hi:(P.info? e).map (fun i=>((i.zero.map (fun z=>z.cells.size)),i.size))=some (some cs.length,cs.length))(hpos:0<cs.length)(hsm:cs.length≤1000000):
 (execOp a.eval o).run P w=.ok (.value (.slice (some ⟨w.heap.size,0,none⟩) 1 1)) (w.alloc (.cells cs.toArray e)):=by
 cases hie:P.info? e with
 | none=>simp[hie]at hi
 | some ie =>
  cases hz:ie.zero with
  | none=>simp[hie,hz]at hi
  | some z =>
   simp only[hie,hz,Option.map_some,Option.some.injEq,Prod.mk.injEq]at hi;have h1:(#[(0,x)].map fun(p:Nat × Operand)=>(p.1,a.eval p.2)).toList=[(0,.agg cs.toArray)]:=by simp[hx]
   have h2:∃Z:List Value,((Array.range (1*ie.size)).map (z.cells[· % z.cells.size]!))=Z.toArray∧Z.length=cs.length:=⟨((Array.range (1*ie.size)).map (z.cells[· % z.cells.size]!)).toList,Array.toArray_toList.symm,by simp[hi.2]⟩;obtain⟨Z,hZ,hZl⟩:=h2
   have hfill:Instr.fill (fun i=>some (i*ie.size,ie.size)) ((Array.range (1*ie.size)).map (z.cells[· % z.cells.size]!)) (#[(0,x)].map fun(p:Nat × Operand)=>(p.1,a.eval p.2)).toList=some cs.toArray:=by
    rw[h1,hZ,zew (cs:=cs) (off:=0) rfl (by simp[hi.2]) om,zbl Z cs om]
    rfl
   have h:=run_buildSlice (P:=P) w t e 1 (#[(0,x)].map fun(p:Nat × Operand)=>(p.1,a.eval p.2)) cs.toArray ie z hu hie hz (by rw[hi.2];omega) (by rw[hi.2];omega) hfill
   unfold execOp
   simp only[ho];simp only[Sem.run_bind,h,Result.andThen_ok]
   rfl
theorem za6{t:TypeId}{x y:Operand}{p:Addr}{u:Value}{A:Option Addr}{n c:Nat}(ho:o.op=.store t x y)(hx:a.eval x=.pointer (some p))(hy:a.eval y=.slice A n c)(hz:∀w,(sizeOf t).run P w=.ok 1 w)(hc:w.cell? p=some u)(hf:w.frozen? p=false):(execOp a.eval o).run P w=.ok .skip (w.setCell p (.slice A n c)):=by
 unfold execOp
 simp[ho,hx,hy,Instr.storeAt,Instr.sureAddr,storeVar,hz,Value.cells,storeCells,store,Addr.add,Sem.run,hc,hf]
end
theorem eEx:ElemIs Tryz.prog 39 5 72:=ElemIs.of (z:=.agg #[.string ByteArray.empty,.int .i64 0,.string ByteArray.empty,.int .i64 0,.slice none 0 0]) kr rfl om
theorem szSlx(w:World):(sizeOf 37).run Tryz.prog w=.ok 1 w:=by kernel_rfl
theorem agSlx(w:World):(isAgg 37).run Tryz.prog w=.ok false w:=by kernel_rfl
theorem zav{w w':World}{base n:Nat}{e:TypeId}{size:Nat}{v:Value}{xs:List Value}(h:w.ownsRow base e size v n xs)(hB:∀k,base≤k→k<w.heap.size→v.ownBlock=some k→w'.heap[k]? = w.heap[k]?):w'.ownsRow base e size v n xs:=by
 obtain⟨h1,h2⟩:=h;refine⟨h1,?_⟩
 rcases h2 with h2|⟨g,cap,cur,hv,hb,hg,r⟩
 · exact .inl h2
 · exact .inr ⟨g,cap,cur,hv,hb,(hB g hb (Array.getElem?_eq_some_iff.1 hg).1 (by rw[hv];rfl)).trans hg,r⟩
end
section
def Fj(B g:Nat)(v:Value)(k:Nat):Prop:=B<k∧k≠g∧v.ownBlock≠some k
structure JnS(gp gs:Nat)(A:Option Addr)(n c:Nat)(ts:List Lx.Tok)(w0:World)(g:Nat)(p:Int)(l:List Ex)(sl:List (Option Addr × Nat))(v:Value)(q:PS)(w:World):Prop where
 st:PSt gp gs A n c ts q w
 wr:Wr [gp,gs] w0 w
 z:Blk w w0.heap.size 39 zEc
 e:Blk w g 39 [.string k_join,.int .i64 0,.string zs,.int .i64 p,v]
 own:w.ownsRow (w0.heap.size+1) 39 5 v l.length (zipC exC l sl)
 nl:sl.length=l.length
 ob:∀k,v.ownBlock=some k→k≠g
 ar:∀(i:Nat) (e:Ex) (a:Option Addr × Nat),l[i]? = some e→sl[i]? = some a→ArgsIn (Fj w0.heap.size g v) w a.1 e.args
 lt:w0.heap.size<g
 lo:PLo gp gs A w0.heap.size
section
variable{gp gs:Nat}{A:Option Addr}{n c:Nat}{ts:List Lx.Tok}{s q q':PS}{w w' w0:World}{g:Nat}{p:Int}{l:List Ex}{sl:List (Option Addr × Nat)}{v v':Value}{X:Ex}{y:Option Addr × Nat}
theorem RdS.belowB{sz B:Nat}{xs:List Value}(h:RdS sz w A n xs)(hb:Below B w w')(hA:∀ad:Addr,A=some ad→ad.block<B):RdS sz w' A n xs :=
 ⟨h.1,fun hn=>by
  obtain⟨b,off,rfl,hbl,hc⟩:=h.2 hn
  exact⟨b,off,rfl,Nat.lt_of_lt_of_le hbl hb.size,fun j u hu=>(World.cell?_of_block (a:=⟨b,off+j,none⟩) (hb.block b (hA _ rfl))).trans (hc j u hu)⟩⟩
theorem PSt.belowB{B:Nat}(h:PSt gp gs A n c ts s w)(hl:PLo gp gs A B)(hb:Below B w w'):PSt gp gs A n c ts s w' :=
 ⟨h.par.below hb hl.1,⟨h.stm.1.below hb hl.2.1,RdS.belowB h.stm.2 hb hl.2.2⟩,h.z,h.lt⟩
theorem zfi{B:Nat}{L:List Nat}(hw:Wr L w w')(hL:∀x∈L,x≤B):Keep (Fj B g v) (Fj B g v) w w':=hw.keep _ _ (fun k hk _ hm=>by have h1:=hL k hm;have h2:=hk.1;omega) (fun _ h _=>h)
theorem JnS.call(h:JnS gp gs A n c ts w0 g p l sl v q w)(hs:PSt gp gs A n c ts q' w')(hW:Wr [gp,gs] w w'):JnS gp gs A n c ts w0 g p l sl v q' w' :=
 ⟨hs,h.wr.trans hW,Blk.wr h.z hW h.lo lr,Blk.wr h.e hW (h.lo.mono (Nat.le_of_lt h.lt)) lr,
   zav h.own (fun k hk hlt _=>hW.block k hlt (fun hm=>by have:=h.lo.all k hm;omega)),h.nl,h.ob,fun i e a h1 h2=>(h.ar i e a h1 h2).keep (zfi hW h.lo.all),h.lt,h.lo⟩
theorem JnS.fr(h:JnS gp gs A n c ts w0 g p l sl v q w){B:Nat}(hB:w.heap.size≤B){W:World}{B2:Option Addr}{es:List Ex}(ha:ArgsIn (Fr B) W B2 es):ArgsIn (Fj w0.heap.size g v) W B2 es :=
 ha.keep ⟨lr,fun _ _ _=>rfl,fun k hk _=>by
  have h1:=h.e.lt;have h2:=h.lt
  unfold Fr at hk
  refine⟨by omega,by omega,fun e=>?_⟩;have h3:=(h.own.lt k e).2
  omega⟩
theorem JnS.push(h:JnS gp gs A n c ts w0 g p l sl v q w)(hy:ArgsIn (Fj w0.heap.size g v) w y.1 X.args){w5:World}(hg:(w.alloc (.cells (exC X y).toArray 39)).grownBy w5 v.ownBlock)
 (ho:w5.ownsRow (w0.heap.size+1) 39 5 v' (l.length+1) (zipC exC l sl++exC X y)) (hat:v'.ownBlock=v.ownBlock∨v'.ownBlock=some (w.alloc (.cells (exC X y).toArray 39)).heap.size):
 JnS gp gs A n c ts w0 g p (l++[X]) (sl++[y]) v' q (w5.setCell ⟨g,4,none⟩ v'):=by
 have hlt:=h.lt;have hgl:=h.e.lt;have hobg:∀k,v.ownBlock=some k→w0.heap.size+1≤k:=fun k hk=>(h.own.lt k hk).1
 have hobl:∀k,v.ownBlock=some k→k<w.heap.size:=fun k hk=>(h.own.lt k hk).2
 have hsz:(w.alloc (.cells (exC X y).toArray 39)).heap.size=w.heap.size+1:=by simp
 have hsz5:(w.alloc (.cells (exC X y).toArray 39)).heap.size≤w5.heap.size:=hg.size;have hB5:Below (w0.heap.size+1) w w5:=((Below.refl _ w).alloc om _).grown hg om hobg;have hB6:Below (w0.heap.size+1) w (w5.setCell ⟨g,4,none⟩ v'):=hB5.setCell (by exact hlt) v'
 have hob':∀k,v'.ownBlock=some k→k≠g:=by
  intro k hk
  rcases hat with h1|h1
  · exact h.ob k (h1 ▸ hk)
  · rw[h1]at hk
    injection hk with hk
    omega
 have hK:Keep (Fj w0.heap.size g v) (Fj w0.heap.size g v') w (w5.setCell ⟨g,4,none⟩ v'):=by
  refine⟨hB6.size,fun k hk hkl=>?_,fun k hk hkl=>⟨hk.1,hk.2.1,fun e=>?_⟩⟩
  · rw[Below.heap_setCell w5 ⟨g,4,none⟩ v' k hk.2.1,hg.block k om hk.2.2.symm]
    exact Below.heap_alloc w _ k hkl
  · rcases hat with h1|h1
    · exact hk.2.2 (h1 ▸ e)
    · rw[h1]at e
      injection e with e
      omega
 refine⟨h.st.belowB (h.lo.mono (Nat.le_succ _)) hB6,h.wr.thenb (hB6.mono (Nat.le_succ _)),h.z.below hB6 (Nat.lt_succ_self _),?_,?_,by simp[h.nl],hob',?_,h.lt,h.lo⟩
 · exact(((h.e.alloc _).grown hg (fun e=>h.ob g e.symm rfl)).set_ 4 v')
 · rw[la9,zby exC l sl X y h.nl]
   exact zav ho (fun k hk hkl e=>Below.heap_setCell w5 ⟨g,4,none⟩ v' k (hob' k e))
 · intro i e a h1 h2
   by_cases hi:i<l.length
   · rw[ll9 hi]at h1
     rw[ll9 (by rw[h.nl];exact hi)]at h2;exact(h.ar i e a h1 h2).keep hK
   · have hi2:i=l.length:=by
      have:=(gi9.1 h1).1
      simp at this
      omega
     subst hi2;rw[ar9 lr,Nat.sub_self]at h1;rw[←h.nl,ar9 lr,Nat.sub_self]at h2
     simp at h1 h2
     subst h1;subst h2;exact hy.keep hK
end
end
section
section
theorem zdw{w:World}{base n sz:Nat}{e:TypeId}{v:Value}{xs:List Value}(_:w.ownsRow base e sz v n xs){b:Nat}(_:v.ownBlock=some b):FzOk w b:=trivial
theorem RdS.ofOwn3{w:World}{base n c sz:Nat}{e:TypeId}{A:Option Addr}{xs:List Value}(h:w.ownsRow base e sz (.slice A n c) n xs):RdS sz w A n xs:=by
 refine⟨h.1,fun hn=>?_⟩
 rcases h.2 with ⟨_,h0⟩|⟨g,cap,cur,hv,_,hg,hnc,_,hcs,htake⟩
 · omega
 · injection hv with hA
   subst hA;refine⟨g,0,rfl,(Array.getElem?_eq_some_iff.1 hg).1,fun j u hu=>?_⟩;rw[cell_of_row w g (0+j) cur e (0,0) hg,Nat.zero_add];rw[←htake,List.getElem?_take]at hu
   split at hu
   · simpa using hu
   · cases hu
end
section
variable{gp gs:Nat}{A:Option Addr}{n c:Nat}{ts:List Lx.Tok}{s q q':PS}{w w' w0:World}{g:Nat}{E:Ex}{a:Option Addr × Nat}
theorem zpf{d:Nat}(cx:Cx gp gs A n ts)(h:Q (d+1) s)(hk:s.ok=true):Q d (openP ts s):=by
 cases hs:sees ts [m_lpar] s
 · have hg:=zgk cx.ends s
   have h1:=h.ok hk;have h0:=h.p0;have hpa:=hg.1;refine⟨by omega,by omega,by omega,fun ho=>?_⟩
   exfalso
   have hi:isOf (pk ts s) [m_lpar]=false:=by
    unfold sees at hs
    rw[hk]at hs
    simpa using hs
   have hf:(takeP ts m_lpar s).ok=false:=by unfold takeP;rw[hk,hi];rfl
   unfold openP at ho
   rw[hs]at ho
   change (takeP ts m_lpar s).ok=true at ho
   rw[hf]at ho
   cases ho
 · exact zn5 cx h hs
theorem ArgsIn.jn{w0:World}{p:Int}{l:List Ex}{sl:List (Option Addr × Nat)}{A1:Option Addr}{c1:Nat}(h:JnS gp gs A n c ts w0 g p l sl (.slice A1 l.length c1) q w):ArgsIn (Fx w0.heap.size g) w A1 l:=by
 refine .mk _ _ sl h.nl ⟨RdS.ofOwn3 h.own,fun hn ad e=>?_⟩ (fun i e a h1 h2=>(h.ar i e a h1 h2).keep ⟨lr,fun _ _ _=>rfl,fun k hk _=>⟨hk.1,hk.2.1⟩⟩);obtain⟨b,off,e2,hb,_⟩:=(RdS.ofOwn3 h.own).2 hn;subst e
 injection e2 with e2
 subst e2;exact⟨⟨(h.own.lt b rfl).1,h.ob b rfl⟩,zdw h.own rfl⟩
end
end
end Go.Proofs.YtafjkbbiaopemaaGreatDoor.Tr
