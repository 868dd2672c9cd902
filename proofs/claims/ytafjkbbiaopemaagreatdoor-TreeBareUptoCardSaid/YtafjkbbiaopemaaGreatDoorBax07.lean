/- Part of the proof. -/
import Derived.Test.YtafjkbbiaopemaaGreatDoorBax06
set_option linter.all false
set_option maxRecDepth 100000
set_option maxHeartbeats 0
namespace Go.Proofs.YtafjkbbiaopemaaGreatDoor
open Go.RowKit
theorem RdS.of_own{w:World}{base n c sz:Nat}{e:TypeId}{A:Option Addr}{xs:List Value}(h:w.ownsRow base e sz (.slice A n c) n xs):RdS sz w A n xs:=by
 refine⟨h.1,fun hn=>?_⟩
 rcases h.2 with ⟨_,h0⟩|⟨g,cap,cur,hv,_,hg,hnc,_,hcs,htake⟩
 · omega
 · injection hv with hA
   subst hA;refine⟨g,0,rfl,(Array.getElem?_eq_some_iff.1 hg).1,fun j u hu=>?_⟩;rw[cell_of_row w g (0+j) cur e (0,0) hg,Nat.zero_add];rw[←htake,List.getElem?_take]at hu
   split at hu
   · simpa using hu
   · cases hu
theorem RdS.of_blk{w:World}{g n sz:Nat}{t:TypeId}{cs:List Value}(h:Blk w g t cs)(hn:cs.length=n*sz):RdS sz w (some ⟨g,0,none⟩) n cs :=
 ⟨hn,fun _=>⟨g,0,rfl,h.lt,fun j u hu=>by rw[h.cell,Nat.zero_add];exact hu⟩⟩
theorem zjx(s:ByteArray)(w:World){p q n:Nat}{ts:List Lx.Tok}(h:Lx.scan s.data.toList=((p,q),ts))(hn:ts.length=n):
 Calls Tryz.prog 45 #[.string s] w fun e w'=>∃A c,e=.returned (.tuple #[.slice A n c,.agg #[.int .i64 p,.int .i64 q]])∧n≤c∧w'.ownsRow w.heap.size 72 4 (.slice A n c) n (toksCells ts)∧Below w.heap.size w w':=by
 subst hn;have:=zmb s w;rw[h]at this;exact this
theorem zlo{l:List Lx.Tok}{i:Nat}{t:Lx.Tok}(h:l[i]? = some t):(toksCells l)[i*4+0]? = some (.int .i64 t.kind)∧(toksCells l)[i*4+1]? = some (.string (bytesOf t.text))∧(toksCells l)[i*4+2]? = some (.int .i64 t.num)∧(toksCells l)[i*4+3]? = some (.int .i64 t.at_):=by
 induction l generalizing i with
 | nil=>simp at h
 | cons x l ih =>
  have hc:toksCells (x :: l)=tokCells x++toksCells l:=by simp[toksCells]
  cases i with
  | zero =>
   simp at h
   subst h;rw[hc];exact⟨rfl,rfl,rfl,rfl⟩
  | succ i =>
   have:=ih (i:=i) (by simpa using h);rw[hc];have hl:(tokCells x).length=4:=rfl
   have e:∀k,(tokCells x++toksCells l)[(i+1)*4+k]? = (toksCells l)[i*4+k]?:=fun k=>by
    rw[ar9 (by rw[hl];omega),hl]
    congr 1
    omega
   rw[e,e,e,e];exact this
theorem RdS.keep{sz:Nat}{w w':World}{A:Option Addr}{n:Nat}{xs:List Value}(h:RdS sz w A n xs)(hs:w.heap.size≤w'.heap.size)(hk:∀p:Addr,p.block<w.heap.size→w'.cell? p=w.cell? p):RdS sz w' A n xs :=
 ⟨h.1,fun hn=>by
  obtain⟨b,off,e,hbl,hc⟩:=h.2 hn
  exact⟨b,off,e,Nat.lt_of_lt_of_le hbl hs,fun j u hu=>(hk ⟨b,off+j,none⟩ hbl).trans (hc j u hu)⟩⟩
theorem RdS.below{sz:Nat}{w w':World}{A:Option Addr}{n:Nat}{xs:List Value}(h:RdS sz w A n xs)(hb:Below w.heap.size w w'):RdS sz w' A n xs:=h.keep hb.size fun _ hp=>hb.cell hp
theorem RdS.alloc{sz:Nat}{w:World}{A:Option Addr}{n:Nat}{xs:List Value}(h:RdS sz w A n xs)(o:Obj):RdS sz (w.alloc o) A n xs:=h.keep sy fun p hp=>World.cell?_alloc_lt w o p hp
theorem Blk.two{w:World}{g:Nat}{t:TypeId}{a b:Value}(h:Blk w g t [a,b]):w.cell? ⟨g,0,none⟩=some a∧w.cell? ⟨g,1,none⟩=some b∧w.frozen? ⟨g,0,none⟩=false∧w.frozen? ⟨g,1,none⟩=false:=⟨h.cell 0,h.cell 1,h.frozen 0,h.frozen 1⟩
theorem Blk.four{w:World}{g:Nat}{t:TypeId}{a b c d:Value}(h:Blk w g t [a,b,c,d]):w.cell? ⟨g,0,none⟩=some a∧w.cell? ⟨g,1,none⟩=some b∧w.cell? ⟨g,2,none⟩=some c∧w.cell? ⟨g,3,none⟩=some d ∧
 w.frozen? ⟨g,0,none⟩=false∧w.frozen? ⟨g,1,none⟩=false∧w.frozen? ⟨g,2,none⟩=false∧w.frozen? ⟨g,3,none⟩=false:=⟨h.cell 0,h.cell 1,h.cell 2,h.cell 3,h.frozen 0,h.frozen 1,h.frozen 2,h.frozen 3⟩
theorem res_c{P:Program}{w:World}{fn:Func}{p:Tmp}{ty:TypeId}(h:fn.results=#[.cell p ty])(tmps:Array Value)(g:Nat)(t:TypeId)(cs:List Value)(hp:tmps.getD p undef=.pointer (some ⟨g,0,none⟩))
 (hB:Blk w g t cs) (d:TypeDesc) (hu:P.underlying ty=some d) (hd:d.isRow=true) (hi:(P.info? ty).map (·.size)=some cs.length):
 (results fn tmps).run P w=.ok (.agg cs.toArray) w:=zmm h tmps g t cs hp hB d hu hd hi
theorem hdTok':(Tryz.prog.info? 72).map (·.size)=some 4:=by kernel_rfl
def endTok:Lx.Tok:=⟨6,[],0,0⟩
theorem zpc(g:Nat)(A:Option Addr)(n c i:Nat)(ts:List Lx.Tok)(t:Lx.Tok)(w:World)(hb:Blk w g 100 [.slice A n c,.int .i64 i])(hr:RdS 4 w A n (toksCells ts))(hn:ts.length=n)(hn8:n≤100000)(ht:ts[i]? = some t):
 Calls Tryz.prog 53 #[.pointer (some ⟨g,0,none⟩)] w fun e w'=>e=.returned (.agg (tokCells t).toArray)∧Below w.heap.size w w':=by
 have hi:i<n:=by rw[←hn];exact(gi9.1 ht).1
 obtain⟨b,off,rfl,hbl,hcells⟩:=hr.2 om;obtain⟨x0,x1,x2,x3⟩:=zlo ht;have d0:=hcells _ _ x0;have d1:=hcells _ _ x1;have d2:=hcells _ _ x2;have d3:=hcells _ _ x3;rw[Nat.add_zero]at d0;rw[←Nat.add_assoc]at d1 d2 d3;have c0:w.cell? ⟨g,0,none⟩=some (.slice (some ⟨b,off,none⟩) n c):=hb.cell 0;have c1:w.cell? ⟨g,1,none⟩=some (.int .i64 i):=hb.cell 1;have hgl:=hb.lt;have i0:(0:Int)≤(i:Int):=om;have i1:(i:Int)<(n:Int):=om;clear x0 x1 x2 x3 hcells hr hb ht hn
 unfold tokCells
 go_enter Tryz.func53, Tryz.ntmps53
 go_wp2_with fail
 go_quiet (fail)
 have hz:Blk ((w.alloc (.cells #[.int .i64 0,.string { data:=#[] },.int .i64 0,.int .i64 0] 72)).drewN nq) w.heap.size 72 [.int .i64 0,.string { data:=#[] },.int .i64 0,.int .i64 0]:=(Blk.new w _ _).drewN nq;have hB1:Below w.heap.size w ((w.alloc (.cells #[.int .i64 0,.string { data:=#[] },.int .i64 0,.int .i64 0] 72)).drewN nq):=below_drewN ((Below.refl _ _).alloc lr _) _;generalize ((w.alloc (.cells #[.int .i64 0,.string { data:=#[] },.int .i64 0,.int .i64 0] 72)).drewN nq)=w1 at *;have c0:=(hB1.cell (p:=⟨g,0,none⟩) hgl).trans c0;have c1:=(hB1.cell (p:=⟨g,1,none⟩) hgl).trans c1;have d0:=(hB1.cell (p:=⟨b,off+i*4,none⟩) hbl).trans d0;have d1:=(hB1.cell (p:=⟨b,off+i*4+1,none⟩) hbl).trans d1;have d2:=(hB1.cell (p:=⟨b,off+i*4+2,none⟩) hbl).trans d2;have d3:=(hB1.cell (p:=⟨b,off+i*4+3,none⟩) hbl).trans d3;have z0:w1.cell? ⟨w.heap.size,0,none⟩=some (.int .i64 0):=hz.cell 0;have z1:w1.cell? ⟨w.heap.size,1,none⟩=some (.string { data:=#[] }):=hz.cell 1;have z2:w1.cell? ⟨w.heap.size,2,none⟩=some (.int .i64 0):=hz.cell 2;have z3:w1.cell? ⟨w.heap.size,3,none⟩=some (.int .i64 0):=hz.cell 3;have f0:=hz.frozen 0;have f1:=hz.frozen 1;have f2:=hz.frozen 2;have f3:=hz.frozen 3;have HZ:=qh hz;clear hz
 go_wp2_with fail
 go_region
 go_wp2_with fail
 refine bodyPost_ret (res_c rfl _ w.heap.size 72 (tokCells t) rfl (by exact(((HZ.out.drew.set_ 0 _).set_ 1 _).set_ 2 _).set_ 3 _) _ Tryz.underlying72 rfl hdTok') rfl ⟨rfl,?_⟩;exact(((hB1.drew.setCell lr _).setCell lr _).setCell lr _).setCell lr _
theorem zm7(g:Nat)(A:Option Addr)(n c i:Nat)(w:World)(hb:Blk w g 100 [.slice A n c,.int .i64 i])(hi:n≤i):
 Calls Tryz.prog 53 #[.pointer (some ⟨g,0,none⟩)] w fun e w'=>e=.returned (.agg (tokCells endTok).toArray)∧Below w.heap.size w w':=by
 have c0:w.cell? ⟨g,0,none⟩=some (.slice A n c):=hb.cell 0;have c1:w.cell? ⟨g,1,none⟩=some (.int .i64 i):=hb.cell 1;have hgl:=hb.lt;have i1:decide ((i:Int)<(n:Int))=false:=by simp;omega
 clear hb
 go_enter Tryz.func53, Tryz.ntmps53
 go_wp2_with fail
 go_quiet (fail)
 have hz:Blk ((w.alloc (.cells #[.int .i64 0,.string { data:=#[] },.int .i64 0,.int .i64 0] 72)).drewN nq) w.heap.size 72 [.int .i64 0,.string { data:=#[] },.int .i64 0,.int .i64 0]:=(Blk.new w _ _).drewN nq;have hB1:Below w.heap.size w ((w.alloc (.cells #[.int .i64 0,.string { data:=#[] },.int .i64 0,.int .i64 0] 72)).drewN nq):=below_drewN ((Below.refl _ _).alloc lr _) _;generalize ((w.alloc (.cells #[.int .i64 0,.string { data:=#[] },.int .i64 0,.int .i64 0] 72)).drewN nq)=w1 at *;have z0:w1.cell? ⟨w.heap.size,0,none⟩=some (.int .i64 0):=hz.cell 0;have z1:w1.cell? ⟨w.heap.size,1,none⟩=some (.string { data:=#[] }):=hz.cell 1;have z2:w1.cell? ⟨w.heap.size,2,none⟩=some (.int .i64 0):=hz.cell 2;have z3:w1.cell? ⟨w.heap.size,3,none⟩=some (.int .i64 0):=hz.cell 3;have f0:=hz.frozen 0;have f1:=hz.frozen 1;have f2:=hz.frozen 2;have f3:=hz.frozen 3;have HZ:=qh hz;clear hz
 go_wp2_with fail
 refine bodyPost_ret (res_c rfl _ w.heap.size 72 (tokCells endTok) rfl (by exact(((HZ.out.set_ 0 _).set_ 1 _).set_ 2 _).set_ 3 _) _ Tryz.underlying72 rfl hdTok') rfl ⟨rfl,?_⟩;exact(((hB1.setCell lr _).setCell lr _).setCell lr _).setCell lr _
def tokAt(ts:List Lx.Tok)(i:Nat):Lx.Tok:=(ts[i]?).getD endTok
theorem zdn(g:Nat)(A:Option Addr)(n c i:Nat)(ts:List Lx.Tok)(w:World)(hb:Blk w g 100 [.slice A n c,.int .i64 i])(hr:RdS 4 w A n (toksCells ts))(hn:ts.length=n)(hn8:n≤100000):
 Calls Tryz.prog 53 #[.pointer (some ⟨g,0,none⟩)] w fun e w'=>e=.returned (.agg (tokCells (tokAt ts i)).toArray)∧Below w.heap.size w w':=by
 unfold tokAt
 by_cases h:i<n
 · have ht:ts[i]? = some ts[i]:=ge9 om
   rw[ht];exact zpc g A n c i ts _ w hb hr hn hn8 ht
 · rw[List.getElem?_eq_none om]
   exact zm7 g A n c i w hb om
theorem zh3(g:Nat)(A:Option Addr)(n c i:Nat)(ts:List Lx.Tok)(t:Lx.Tok)(w:World)(hb:Blk w g 100 [.slice A n c,.int .i64 i])(hr:RdS 4 w A n (toksCells ts))(hn:ts.length=n)(hn8:n≤100000)(hi:i≤100000)(ht:tokAt ts i=t):
 Calls Tryz.prog 47 #[.pointer (some ⟨g,0,none⟩)] w fun e w'=>e=.returned (.agg (tokCells t).toArray)∧Blk w' g 100 [.slice A n c,.int .i64 ((if t.kind=6 then i else i+1:Nat):Int)]∧Wrote g w w':=by
 have hgl:=hb.lt;have HP:=qh (fun W (h1:Blk W g 100 [.slice A n c,.int .i64 i]) (h2:RdS 4 W A n (toksCells ts))=>ht ▸ zdn g A n c i ts W h1 h2 hn hn8);have HR:=qh hr;have HB:=qh hb;clear hr hb ht hn;have HZ:Hid (∀W,Below (w.alloc (.cells #[.int .i64 0,.string { data:=#[] },.int .i64 0,.int .i64 0] 72)).heap.size (w.alloc (.cells #[.int .i64 0,.string { data:=#[] },.int .i64 0,.int .i64 0] 72)) W→Blk W w.heap.size 72 [.int .i64 0,.string { data:=#[] },.int .i64 0,.int .i64 0]):=fun W hW=>(Blk.new w _ _).below hW sy
 have HG:Hid (∀W,Below (w.alloc (.cells #[.int .i64 0,.string { data:=#[] },.int .i64 0,.int .i64 0] 72)).heap.size (w.alloc (.cells #[.int .i64 0,.string { data:=#[] },.int .i64 0,.int .i64 0] 72)) W→Blk W g 100 [.slice A n c,.int .i64 i]):=fun W hW=>(HB.out.alloc _).below hW (by simp;omega)
 by_cases hk:t.kind=6
 · have e1:((t.kind:Int) != 6)=false:=by rw[hk];rfl
   rw[if_pos hk];clear hk
   unfold tokCells at *
   go_enter Tryz.func47, Tryz.ntmps47
   go_wp2_with (go_at_call 53;refine(HP.out _ (HB.out.alloc _) (HR.out.alloc _)).mono ?_;rintro e w2 ⟨rfl,hB2⟩;have hz2:=HZ.out w2 hB2;obtain⟨z0,z1,z2,z3,f0,f1,f2,f3⟩:=hz2.four;have hzl:=hz2.lt;have hg2:=HG.out w2 hB2;have hgl2:=hg2.lt;have hne:¬g=w.heap.size:=Nat.ne_of_lt hgl;obtain⟨c0,c1,g0,g1⟩:=hg2.two)
   refine bodyPost_ret (res_c rfl _ w.heap.size 72 (tokCells t) rfl (by exact((((hz2.set_ 0 _).set_ 1 _).set_ 2 _).set_ 3 _).alloc _) _ Tryz.underlying72 rfl hdTok') rfl ⟨rfl,?_,?_⟩
   · exact((((hg2.far hne _).far hne _).far hne _).far hne _).alloc _
   · have h0:Wrote g w w2:=Wrote.of_below (((Below.refl _ _).alloc lr _).trans (hB2.mono sy))
     exact((((h0.setNew lr _).setNew lr _).setNew lr _).setNew lr _).alloc _
 · have e1:((t.kind:Int) != 6)=true:=by rw[bne_iff_ne];omega
   rw[if_neg hk];clear hk
   unfold tokCells at *
   go_enter Tryz.func47, Tryz.ntmps47
   go_wp2_with (go_at_call 53;refine(HP.out _ (HB.out.alloc _) (HR.out.alloc _)).mono ?_;rintro e w2 ⟨rfl,hB2⟩;have hz2:=HZ.out w2 hB2;obtain⟨z0,z1,z2,z3,f0,f1,f2,f3⟩:=hz2.four;have hzl:=hz2.lt;have hg2:=HG.out w2 hB2;have hgl2:=hg2.lt;have hne:¬g=w.heap.size:=Nat.ne_of_lt hgl;obtain⟨c0,c1,g0,g1⟩:=hg2.two)
   refine bodyPost_ret (res_c rfl _ w.heap.size 72 (tokCells t) rfl (by exact(((((hz2.far (p:=⟨g,1,none⟩) (fun e=>hne e.symm) _).set_ 0 _).set_ 1 _).set_ 2 _).set_ 3 _).alloc _) _ Tryz.underlying72 rfl hdTok') rfl ⟨rfl,?_,?_⟩
   · exact(((((hg2.set_ 1 _).far hne _).far hne _).far hne _).far hne _).alloc _
   · have h0:Wrote g w w2:=Wrote.of_below (((Below.refl _ _).alloc lr _).trans (hB2.mono sy))
     exact(((((h0.setCell 1 _).setNew lr _).setNew lr _).setNew lr _).setNew lr _).alloc _
def isOf(t:Lx.Tok)(l:List ByteArray):Bool:=(decide (t.kind=2)|| decide (t.kind=5)) && bmem (bytesOf t.text) l
theorem zk1(g:Nat)(A:Option Addr)(n c i:Nat)(ts:List Lx.Tok)(t:Lx.Tok)(A1:Option Addr)(n1 c1:Nat)(l:List ByteArray)(w:World)(hb:Blk w g 100 [.slice A n c,.int .i64 i])(hr:RdS 4 w A n (toksCells ts))(hn:ts.length=n)(hn8:n≤100000)(ht:tokAt ts i=t)
 (hl:Rd w A1 n1 (strs l)) (hn1:n1≤140737488355328):
 Calls Tryz.prog 46 #[.pointer (some ⟨g,0,none⟩),.slice A1 n1 c1] w fun e w'=>e=.returned (.bool (isOf t l))∧Below w.heap.size w w':=by
 have HP:=qh (ht ▸ zdn g A n c i ts w hb hr hn hn8);have HC:=qh (fun W (h:Rd W A1 n1 (strs l))=>zgw A1 n1 c1 l (bytesOf t.text) W h hn1);have HL:=qh hl;clear hr hb ht hn hl
 have hcase:(((t.kind:Int) == 2)=true∧Hid (isOf t l=bmem (bytesOf t.text) l))∨(((t.kind:Int) == 2)=false∧((t.kind:Int) == 5)=true∧Hid (isOf t l=bmem (bytesOf t.text) l))∨(((t.kind:Int) == 2)=false∧((t.kind:Int) == 5)=false∧Hid (isOf t l=false)):=by
  unfold isOf
  by_cases h2:t.kind=2
  · exact .inl ⟨by rw[h2];rfl,by show _=_;simp[h2]⟩
  · have e2:((t.kind:Int) == 2)=false:=by simpa using fun h=>h2 om
    by_cases h5:t.kind=5
    · exact .inr (.inl ⟨e2,by rw[h5];rfl,by show _=_;simp[h5]⟩)
    · exact .inr (.inr ⟨e2,by simpa using fun h=>h5 om,by show _=_;simp[h2,h5]⟩)
 generalize isOf t l=R at *;generalize bmem (bytesOf t.text) l=R1 at *
 unfold tokCells at *
 rcases hcase with ⟨a1,HR⟩|⟨a1,a2,HR⟩|⟨a1,a2,HR⟩
 all_goals
   go_enter Tryz.func46, Tryz.ntmps46
   go_wp2_with (first
    | (go_at_call 53;refine HP.out.mono ?_;rintro e w2 ⟨rfl,hB2⟩)
    | (go_at_call 81;refine(HC.out _ ((HL.out.below hB2).alloc _)).mono ?_;rintro e w3 ⟨rfl,rfl⟩))
   go_ret;exact⟨by rw[HR.out];rfl,hB2.alloc hB2.size _⟩
end Go.Proofs.YtafjkbbiaopemaaGreatDoor
namespace Go.Proofs.YtafjkbbiaopemaaGreatDoor.Tr
open Go.RowKit
section
@[reducible] def zs:ByteArray:={ data:=#[] }
@[reducible] def k_let:ByteArray:={ data:=#[108,101,116] }
@[reducible] def k_route:ByteArray:={ data:=#[114,111,117,116,101] }
@[reducible] def k_send:ByteArray:={ data:=#[115,101,110,100] }
@[reducible] def k_split:ByteArray:={ data:=#[115,112,108,105,116] }
@[reducible] def k_cover:ByteArray:={ data:=#[99,111,118,101,114] }
@[reducible] def k_wait:ByteArray:={ data:=#[119,97,105,116] }
@[reducible] def k_block:ByteArray:={ data:=#[98,108,111,99,107] }
@[reducible] def k_after:ByteArray:={ data:=#[97,102,116,101,114] }
@[reducible] def k_repeat:ByteArray:={ data:=#[114,101,112,101,97,116] }
@[reducible] def k_retry:ByteArray:={ data:=#[114,101,116,114,121] }
@[reducible] def k_every:ByteArray:={ data:=#[101,118,101,114,121] }
@[reducible] def k_if:ByteArray:={ data:=#[105,102] }
@[reducible] def k_acked:ByteArray:={ data:=#[97,99,107,101,100] }
@[reducible] def k_else:ByteArray:={ data:=#[101,108,115,101] }
@[reducible] def k_via:ByteArray:={ data:=#[118,105,97] }
@[reducible] def k_with:ByteArray:={ data:=#[119,105,116,104] }
@[reducible] def k_as:ByteArray:={ data:=#[97,115] }
@[reducible] def k_times:ByteArray:={ data:=#[116,105,109,101,115] }
@[reducible] def k_join:ByteArray:={ data:=#[106,111,105,110] }
@[reducible] def k_number:ByteArray:={ data:=#[110,117,109,98,101,114] }
@[reducible] def k_name:ByteArray:={ data:=#[110,97,109,101] }
@[reducible] def k_text:ByteArray:={ data:=#[116,101,120,116] }
@[reducible] def m_eq:ByteArray:={ data:=#[61] }
@[reducible] def m_gt:ByteArray:={ data:=#[62] }
@[reducible] def m_at:ByteArray:={ data:=#[64] }
@[reducible] def m_ex:ByteArray:={ data:=#[33] }
@[reducible] def m_semi:ByteArray:={ data:=#[59] }
@[reducible] def m_lbr:ByteArray:={ data:=#[123] }
@[reducible] def m_rbr:ByteArray:={ data:=#[125] }
@[reducible] def m_lpar:ByteArray:={ data:=#[40] }
@[reducible] def m_rpar:ByteArray:={ data:=#[41] }
@[reducible] def m_plus:ByteArray:={ data:=#[43] }
@[reducible] def m_minus:ByteArray:={ data:=#[45] }
@[reducible] def m_star:ByteArray:={ data:=#[42] }
@[reducible] def m_comma:ByteArray:={ data:=#[44] }
structure Rf where
 name:ByteArray
 at_:Int
inductive Ex where
 | mk (op:ByteArray) (num:Int) (text:ByteArray) (at_:Int) (args:List Ex)
structure Pl where
 node:Rf
 delay:Ex
 flags:Ex
structure Dc where
 kind:ByteArray
 name:Rf
 value:Ex
 places:List Pl
inductive St where
 | mk (kind:ByteArray) (at_:Int) (name:Rf) (a b c:Ex) (routes:List Rf) (block tag:Rf) (body els:List St)
structure Sr where
 decls:List Dc
 body:List St
def Ex.at_:Ex→Int
 | .mk _ _ _ a _=>a
def zR:Rf:=⟨zs,0⟩
def zE:Ex:=.mk zs 0 zs 0 []
def zT:St:=.mk zs 0 zR zE zE zE [] zR zR [] []
structure PS where
 i:Nat
 fe:Int
 fa:Int
 bo:Int
 pa:Int
def PS.ok(s:PS):Bool:=s.fe == 0
section
variable(ts:List Lx.Tok)
def pk(s:PS):Lx.Tok:=tokAt ts s.i
def sees(l:List ByteArray)(s:PS):Bool:=s.ok && isOf (pk ts s) l
def kindIs(k:Nat)(s:PS):Bool:=s.ok && decide ((pk ts s).kind=k)
def failP(e:Int)(s:PS):PS:=if s.ok then { s with fe:=e,fa:=((pk ts s).at_:Int) } else s
def nxt(s:PS):PS:={ s with i:=s.i+1 }
def takeP(T:ByteArray)(s:PS):PS:=if s.ok then (if isOf (pk ts s) [T] then nxt s else { s with fe:=9,fa:=((pk ts s).at_:Int) }) else s
def refP(s:PS):Rf × PS:=if kindIs ts 1 s then (⟨bytesOf (pk ts s).text,((pk ts s).at_:Int)⟩,nxt s) else (zR,failP ts 9 s)
def openP(s:PS):PS :=
 let s1:=if sees ts [m_lpar] s && s.pa == 12 then failP ts 11 s else s
 let s2:=takeP ts m_lpar s1
 { s2 with pa:=s2.pa+1 }
def shutP(s:PS):PS :=
 let s2:=takeP ts m_rpar s
 { s2 with pa:=s2.pa-1 }
section
variable(ex:PS→Ex × PS)
def atomP(s:PS):Ex × PS :=
 if kindIs ts 3 s then (.mk k_number ((pk ts s).num:Int) zs ((pk ts s).at_:Int) [],nxt s)
 else if kindIs ts 1 s then (.mk k_name 0 (bytesOf (pk ts s).text) ((pk ts s).at_:Int) [],nxt s)
 else if sees ts [m_lpar] s then ((ex (openP ts s)).1,shutP ts (ex (openP ts s)).2)
 else (zE,failP ts 9 s)
def joinLoop:Nat→List Ex→PS→List Ex × PS
 | 0,l,s=>(l,s)
 | k+1,l,s=>if sees ts [m_comma] s then joinLoop k (l++[(ex (nxt s)).1]) (ex (nxt s)).2 else (l,s)
def factorP(s:PS):Ex × PS :=
 if kindIs ts 4 s then (.mk k_text 0 (bytesOf (pk ts s).text) ((pk ts s).at_:Int) [],nxt s)
 else if sees ts [k_join] s then
  let r:=ex (openP ts (nxt s))
  let q:=joinLoop ts ex (ts.length+1) [r.1] r.2
  (.mk k_join 0 zs ((pk ts s).at_:Int) q.1,shutP ts q.2)
 else atomP ts ex s
def termLoop:Nat→Ex→PS→Ex × PS
 | 0,e,s=>(e,s)
 | k+1,e,s=>if sees ts [m_star] s then termLoop k (.mk m_star 0 zs e.at_ [e,(factorP ts ex (nxt s)).1]) (factorP ts ex (nxt s)).2 else (e,s)
def termP(s:PS):Ex × PS:=termLoop ts ex (ts.length+1) (factorP ts ex s).1 (factorP ts ex s).2
def exprLoop:Nat→Ex→PS→Ex × PS
 | 0,e,s=>(e,s)
 | k+1,e,s=>if sees ts [m_plus,m_minus] s then exprLoop k (.mk (bytesOf (pk ts s).text) 0 zs e.at_ [e,(termP ts ex (nxt s)).1]) (termP ts ex (nxt s)).2 else (e,s)
def exprG(s:PS):Ex × PS:=exprLoop ts ex (ts.length+1) (termP ts ex s).1 (termP ts ex s).2
end
def exprP:Nat→PS→Ex × PS
 | 0,s=>(zE,s)
 | d+1,s=>exprG ts (exprP d) s
def placeP(s:PS):Pl × PS :=
 let r:=refP ts s
 let d:=if sees ts [m_at] r.2 then atomP ts (exprP ts 14) (nxt r.2) else (zE,r.2)
 let f:=if sees ts [m_ex] d.2 then atomP ts (exprP ts 14) (nxt d.2) else (zE,d.2)
 (⟨r.1,d.1,f.1⟩,f.2)
def placeLoop:Nat→List Pl→PS→List Pl × PS
 | 0,l,s=>(l,s)
 | k+1,l,s=>if sees ts [m_gt] s then placeLoop k (l++[(placeP ts (nxt s)).1]) (placeP ts (nxt s)).2 else (l,s)
def declP(s:PS):Dc × PS :=
 let kind:=bytesOf (pk ts s).text
 let r:=refP ts (nxt s)
 let s2:=takeP ts m_eq r.2
 if kind=k_let then
  let v:=exprP ts 14 s2
  (⟨kind,r.1,v.1,[]⟩,takeP ts m_semi v.2)
 else
  let p:=placeP ts s2
  let q:=placeLoop ts (ts.length+1) [p.1] p.2
  (⟨kind,r.1,zE,q.1⟩,takeP ts m_semi q.2)
def refLoop:Nat→List Rf→PS→List Rf × PS
 | 0,l,s=>(l,s)
 | k+1,l,s=>if sees ts [m_comma] s then refLoop k (l++[(refP ts (nxt s)).1]) (refP ts (nxt s)).2 else (l,s)
def viaP(many:Bool)(s:PS):List Rf × PS :=
 let r:=refP ts (takeP ts k_via s)
 if many then refLoop ts (ts.length+1) [r.1] r.2 else ([r.1],r.2)
def tagP(s:PS):Rf × PS:=if sees ts [k_as] s then refP ts (nxt s) else (zR,s)
def withP(s:PS):Rf × PS:=if sees ts [k_with] s then refP ts (nxt s) else (zR,s)
abbrev EX:=exprP ts 14
def lineP(kind:ByteArray)(at_:Int)(s:PS):St × PS :=
 if kind=k_send then
  let a:=EX ts s;let r:=viaP ts false a.2;let b:=withP ts r.2;let t:=tagP ts b.2
  (.mk kind at_ zR a.1 zE zE r.1 b.1 t.1 [] [],t.2)
 else if kind=k_split then
  let a:=EX ts s;let r:=viaP ts true a.2;let t:=tagP ts r.2
  (.mk kind at_ zR a.1 zE zE r.1 zR t.1 [] [],t.2)
 else if kind=k_cover then
  let r:=refP ts s
  (.mk kind at_ zR zE zE zE [r.1] zR zR [] [],r.2)
 else if kind=k_wait then
  let a:=EX ts s
  (.mk kind at_ zR a.1 zE zE [] zR zR [] [],a.2)
 else if kind=k_block then
  let n:=refP ts s;let r:=viaP ts false n.2
  (.mk kind at_ n.1 zE zE zE r.1 zR zR [] [],r.2)
 else if kind=k_retry then
  let a:=EX ts s;let b:=EX ts (takeP ts k_every a.2);let c:=EX ts (takeP ts k_send b.2);let r:=viaP ts false c.2;let t:=tagP ts r.2
  (.mk kind at_ zR a.1 b.1 c.1 r.1 zR t.1 [] [],t.2)
 else if kind=k_every then
  let a:=EX ts s;let b:=EX ts (takeP ts k_times a.2);let r:=refP ts (takeP ts k_cover b.2)
  (.mk kind at_ zR a.1 b.1 zE [r.1] zR zR [] [],r.2)
 else (.mk kind at_ zR zE zE zE [] zR zR [] [],s)
def ten:List ByteArray:=[k_send,k_split,k_cover,k_wait,k_block,k_after,k_repeat,k_retry,k_every,k_if]
section
variable(st:PS→St × PS)
def bodyLoop:Nat→List St→PS→List St × PS
 | 0,l,s=>(l,s)
 | k+1,l,s=>if s.ok && !sees ts [m_rbr] s then bodyLoop k (l++[(st s).1]) (st s).2 else (l,s)
def bodyP(s:PS):List St × PS :=
 let s1:=if sees ts [m_lbr] s && s.bo == 12 then failP ts 11 s else s
 let s2:=takeP ts m_lbr s1
 let r:=bodyLoop ts st (ts.length+2) [] { s2 with bo:=s2.bo+1 }
 let s3:=takeP ts m_rbr r.2
 (r.1,{ s3 with bo:=s3.bo-1 })
def stmtG(s:PS):St × PS :=
 if sees ts ten s then
  let kind:=bytesOf (pk ts s).text
  let at_:Int:=((pk ts s).at_:Int)
  if kind=k_after then
   let a:=EX ts (nxt s);let b:=bodyP ts st a.2
   (.mk kind at_ zR a.1 zE zE [] zR zR b.1 [],b.2)
  else if kind=k_repeat then
   let n:=refP ts (nxt s);let a:=EX ts n.2;let b:=bodyP ts st a.2
   (.mk kind at_ n.1 a.1 zE zE [] zR zR b.1 [],b.2)
  else if kind=k_if then
   let t:=refP ts (takeP ts k_acked (nxt s));let b:=bodyP ts st t.2
   let e:=if sees ts [k_else] b.2 then bodyP ts st (nxt b.2) else ([],b.2)
   (.mk kind at_ zR zE zE zE [] zR t.1 b.1 e.1,e.2)
  else
   let r:=lineP ts kind at_ (nxt s)
   (r.1,takeP ts m_semi r.2)
 else (zT,failP ts 9 s)
end
def stmtP:Nat→PS→St × PS
 | 0,s=>(zT,failP ts 9 s)
 | d+1,s=>stmtG ts (stmtP d) s
def declLoop:Nat→List Dc→PS→List Dc × PS
 | 0,l,s=>(l,s)
 | k+1,l,s=>if sees ts [k_let,k_route] s then declLoop k (l++[(declP ts s).1]) (declP ts s).2 else (l,s)
def topLoop:Nat→List St→PS→List St × PS
 | 0,l,s=>(l,s)
 | k+1,l,s=>if s.ok && !kindIs ts 6 s then topLoop k (l++[(stmtP ts 14 s).1]) (stmtP ts 14 s).2 else (l,s)
def s0:PS:=⟨0,0,0,0,0⟩
def parseT:Sr × (Int × Int) :=
 let d:=declLoop ts (ts.length+1) [] s0
 let b:=topLoop ts (ts.length+2) [] d.2
 if b.2.ok then (⟨d.1,b.1⟩,(0,0)) else (⟨[],[]⟩,(b.2.fe,b.2.fa))
end
def parse(l:List UInt8):Sr × (Int × Int) :=
 let r:=Lx.scan l
 if r.1.1=0 then parseT r.2 else (⟨[],[]⟩,((r.1.1:Int),(r.1.2:Int)))
structure RS where
 i:Nat
 bo:Int
 pa:Int
 bad:Bool
 fe:Int
 fa:Int
section
variable(ts:List Lx.Tok)
def rk(s:RS):Lx.Tok:=tokAt ts s.i
def rnx(s:RS):RS:={ s with i:=s.i+1 }
def rstop(e:Int)(s:RS):RS:=if s.bad then s else { s with bad:=true,fe:=e,fa:=((rk ts s).at_:Int) }
def rIs(T:ByteArray)(s:RS):Bool:=!s.bad && isOf (rk ts s) [T]
def rKind(k:Nat)(s:RS):Bool:=!s.bad && decide ((rk ts s).kind=k)
def rneed(T:ByteArray)(s:RS):RS:=if rIs ts T s then rnx s else rstop ts 9 s
def rname(s:RS):Rf × RS:=if rKind ts 1 s then (⟨bytesOf (rk ts s).text,((rk ts s).at_:Int)⟩,rnx s) else (zR,rstop ts 9 s)
def rshut(s:RS):RS :=
 let s2:=rneed ts m_rpar s
 { s2 with pa:=s2.pa-1 }
section
variable(ex:RS→Ex × RS)
end
def rbegins(s:RS):Bool:=!s.bad && isOf (rk ts s) ten
section
variable(st:RS→St × RS)
end
def r0:RS:=⟨0,0,0,false,0,0⟩
end
section
variable{ts:List Lx.Tok}
structure Pg(ts:List Lx.Tok)(p q:PS):Prop where
 le:p.i≤q.i
 lt:p.i<ts.length→q.i<ts.length
 pa:q.pa=p.pa
 bo:q.bo=p.bo
 bad:p.ok=false→q.fe=p.fe∧q.fa=p.fa∧q.i=p.i
 flt:p.i<ts.length→(q.fe=p.fe∧q.fa=p.fa)∨((q.fe=9∨q.fe=11)∧∃j,j<ts.length∧q.fa=((tokAt ts j).at_:Int))
theorem Pg.refl(p:PS):Pg ts p p:=⟨lr,id,rfl,rfl,fun _=>⟨rfl,rfl,rfl⟩,fun _=>.inl ⟨rfl,rfl⟩⟩
theorem Pg.notok{p q:PS}(h:Pg ts p q)(hp:p.ok=false):q.ok=false:=by
 have h5:=(h.bad hp).1
 unfold PS.ok at hp ⊢
 rw[h5];exact hp
theorem Pg.okof{p q:PS}(h:Pg ts p q)(hq:q.ok=true):p.ok=true:=by
 cases hp:p.ok with
 | true=>rfl
 | false=>rw[h.notok hp]at hq;exact hq
theorem zdp{a b c a' b' c':Int}(h:(b=a∧b'=a')∨((b=9∨b=11)∧∃j,j<ts.length∧b'=((tokAt ts j).at_:Int)))(k:(c=b∧c'=b')∨((c=9∨c=11)∧∃j,j<ts.length∧c'=((tokAt ts j).at_:Int))):(c=a∧c'=a')∨((c=9∨c=11)∧∃j,j<ts.length∧c'=((tokAt ts j).at_:Int)):=by
 rcases k with ⟨rfl,rfl⟩|k
 · exact h
 · exact .inr k
theorem Pg.trans{p q r:PS}(h:Pg ts p q)(k:Pg ts q r):Pg ts p r :=
 ⟨Nat.le_trans h.le k.le,fun hp=>k.lt (h.lt hp),k.pa.trans h.pa,k.bo.trans h.bo,fun hp=>⟨(k.bad (h.notok hp)).1.trans (h.bad hp).1,(k.bad (h.notok hp)).2.1.trans (h.bad hp).2.1,(k.bad (h.notok hp)).2.2.trans (h.bad hp).2.2⟩,fun hp=>zdp (h.flt hp) (k.flt (h.lt hp))⟩
def Ends(ts:List Lx.Tok):Prop:=∀i,(tokAt ts i).kind≠6→i+1<ts.length
variable(HT:Ends ts)
include HT
theorem zhf{s:PS}{l:List ByteArray}(h:isOf (pk ts s) l=true):s.i+1<ts.length:=HT s.i (fun e=>by unfold isOf pk at h;rw[e]at h;simp at h)
theorem zam{s:PS}{l:List ByteArray}(h:sees ts l s=true):s.i+1<ts.length:=by
 unfold sees at h;simp at h;exact zhf HT h.2
theorem zfy{s:PS}{k:Nat}(h:kindIs ts k s=true)(hk:k≠6):s.i+1<ts.length:=by
 unfold kindIs at h;simp at h;exact HT s.i (by have:=h.2;unfold pk at this;omega)
omit HT in
theorem zag{s:PS}{l:List ByteArray}(h:sees ts l s=true):s.ok=true:=by unfold sees at h;simp at h;exact h.1
omit HT in
theorem zfx{s:PS}{k:Nat}(h:kindIs ts k s=true):s.ok=true:=by unfold kindIs at h;simp at h;exact h.1
omit HT in
theorem nxt_g{s:PS}(h:s.i+1<ts.length)(hk:s.ok=true):Pg ts s (nxt s):=⟨Nat.le_succ _,fun _=>h,rfl,rfl,fun h2=>(by rw[hk]at h2;cases h2),fun _=>.inl ⟨rfl,rfl⟩⟩
omit HT in
theorem zd3{e:Int}(s:PS)(he:e=9∨e=11):Pg ts s (failP ts e s):=by
 unfold failP
 split
 · rename_i h;exact⟨lr,id,rfl,rfl,fun h2=>(by rw[h]at h2;cases h2),fun hl=>.inr ⟨he,s.i,hl,rfl⟩⟩
 · exact Pg.refl _
theorem zar(T:ByteArray)(s:PS):Pg ts s (takeP ts T s):=by
 unfold takeP
 split
 · rename_i h
   split
   · rename_i h2;exact nxt_g (zhf HT h2) h
   · exact⟨lr,id,rfl,rfl,fun h2=>(by rw[h]at h2;cases h2),fun hl=>.inr ⟨.inl rfl,s.i,hl,rfl⟩⟩
 · exact Pg.refl _
theorem ref_g(s:PS):Pg ts s (refP ts s).2:=by
 unfold refP
 split
 · rename_i h;exact nxt_g (zfy HT h (by decide)) (zfx h)
 · exact zd3 s (.inl rfl)
theorem zgk(s:PS):(openP ts s).pa=s.pa+1∧Pg ts s { openP ts s with pa:=s.pa }:=by
 unfold openP
 have h1:Pg ts s (if sees ts [m_lpar] s && s.pa == 12 then failP ts 11 s else s):=by split;exact zd3 s (.inr rfl);exact Pg.refl _
 have h2:=h1.trans (zar HT m_lpar _);exact⟨by simp only[h2.pa],⟨h2.le,h2.lt,rfl,h2.bo,h2.bad,h2.flt⟩⟩
theorem shut_g(s:PS):(shutP ts s).pa=s.pa-1∧Pg ts s { shutP ts s with pa:=s.pa }:=by
 unfold shutP
 have h2:=zar HT m_rpar s;exact⟨by simp only[h2.pa],⟨h2.le,h2.lt,rfl,h2.bo,h2.bad,h2.flt⟩⟩
theorem zko{p q:PS}(h:Pg ts (openP ts p) q):Pg ts p (shutP ts q):=by
 obtain⟨h1,h2⟩:=zgk HT p;obtain⟨h3,h4⟩:=shut_g HT q;refine⟨Nat.le_trans h2.le (Nat.le_trans h.le h4.le),fun hp=>h4.lt (h.lt (h2.lt hp)),by rw[h3,h.pa,h1];omega,h4.bo.trans (h.bo.trans h2.bo),fun hp=>?_,fun hp=>zdp (zdp (h2.flt hp) (h.flt (h2.lt hp))) (h4.flt (h.lt (h2.lt hp)))⟩;have h5:(openP ts p).ok=false:=h2.notok hp;have h6:=h.notok h5;exact⟨(h4.bad h6).1.trans ((h.bad h5).1.trans (h2.bad hp).1),(h4.bad h6).2.1.trans ((h.bad h5).2.1.trans (h2.bad hp).2.1),(h4.bad h6).2.2.trans ((h.bad h5).2.2.trans (h2.bad hp).2.2)⟩
section
variable{ex:PS→Ex × PS}(HX:∀s,Pg ts s (ex s).2)
include HX
theorem zig(s:PS):Pg ts s (atomP ts ex s).2:=by
 unfold atomP
 split
 · rename_i h;exact nxt_g (zfy HT h (by decide)) (zfx h)
 split
 · rename_i h;exact nxt_g (zfy HT h (by decide)) (zfx h)
 split
 · exact zko HT (HX _)
 · exact zd3 s (.inl rfl)
theorem zc6:∀(k:Nat) (l:List Ex) (s:PS),Pg ts s (joinLoop ts ex k l s).2
 | 0,_,s=>Pg.refl s
 | k+1,l,s=>by
  unfold joinLoop
  split
  · rename_i h;exact((nxt_g (zam HT h) (zag h)).trans (HX _)).trans (zc6 k _ _)
  · exact Pg.refl _
theorem zdr(s:PS):Pg ts s (factorP ts ex s).2:=by
 unfold factorP
 split
 · rename_i h;exact nxt_g (zfy HT h (by decide)) (zfx h)
 split
 · rename_i h;exact(nxt_g (zam HT h) (zag h)).trans (zko HT ((HX _).trans (zc6 HT HX _ _ _)))
 · exact zig HT HX s
theorem zfc:∀(k:Nat) (e:Ex) (s:PS),Pg ts s (termLoop ts ex k e s).2
 | 0,_,s=>Pg.refl s
 | k+1,l,s=>by
  unfold termLoop
  split
  · rename_i h;exact((nxt_g (zam HT h) (zag h)).trans (zdr HT HX _)).trans (zfc k _ _)
  · exact Pg.refl _
theorem zf7(s:PS):Pg ts s (termP ts ex s).2:=(zdr HT HX s).trans (zfc HT HX _ _ _)
theorem zfj:∀(k:Nat) (e:Ex) (s:PS),Pg ts s (exprLoop ts ex k e s).2
 | 0,_,s=>Pg.refl s
 | k+1,l,s=>by
  unfold exprLoop
  split
  · rename_i h;exact((nxt_g (zam HT h) (zag h)).trans (zf7 HT HX _)).trans (zfj k _ _)
  · exact Pg.refl _
theorem zpv(s:PS):Pg ts s (exprG ts ex s).2:=(zf7 HT HX s).trans (zfj HT HX _ _ _)
end
theorem zaw:∀(d:Nat) (s:PS),Pg ts s (exprP ts d s).2
 | 0,s=>Pg.refl s
 | d+1,s=>zpv HT (zaw d) s
theorem zcs(s:PS):Pg ts s (placeP ts s).2:=by
 unfold placeP
 have A:∀(c:ByteArray) (s:PS),Pg ts s (if sees ts [c] s then atomP ts (exprP ts 14) (nxt s) else (zE,s)).2:=fun c s=>by
  split
  · rename_i h;exact(nxt_g (zam HT h) (zag h)).trans (zig HT (zaw HT 14) _)
  · exact Pg.refl _
 exact((ref_g HT s).trans (A m_at _)).trans (A m_ex _)
theorem zb3:∀(k:Nat) (l:List Pl) (s:PS),Pg ts s (placeLoop ts k l s).2
 | 0,_,s=>Pg.refl s
 | k+1,l,s=>by
  unfold placeLoop
  split
  · rename_i h;exact((nxt_g (zam HT h) (zag h)).trans (zcs HT _)).trans (zb3 k _ _)
  · exact Pg.refl _
theorem zlb(s:PS)(h:s.i+1<ts.length)(h2:s.ok=true):Pg ts s (declP ts s).2:=by
 unfold declP
 have h0:=((nxt_g h h2).trans (ref_g HT _)).trans (zar HT m_eq _);dsimp only
 split
 · exact(h0.trans (zaw HT 14 _)).trans (zar HT _ _)
 · exact((h0.trans (zcs HT _)).trans (zb3 HT _ _ _)).trans (zar HT _ _)
theorem zdm:∀(k:Nat) (l:List Rf) (s:PS),Pg ts s (refLoop ts k l s).2
 | 0,_,s=>Pg.refl s
 | k+1,l,s=>by
  unfold refLoop
  split
  · rename_i h;exact((nxt_g (zam HT h) (zag h)).trans (ref_g HT _)).trans (zdm k _ _)
  · exact Pg.refl _
theorem via_g(m:Bool)(s:PS):Pg ts s (viaP ts m s).2:=by
 unfold viaP
 have h0:=(zar HT k_via s).trans (ref_g HT _);dsimp only
 split
 · exact h0.trans (zdm HT _ _ _)
 · exact h0
theorem tag_g(s:PS):Pg ts s (tagP ts s).2:=by
 unfold tagP
 split
 · rename_i h;exact(nxt_g (zam HT h) (zag h)).trans (ref_g HT _)
 · exact Pg.refl _
theorem znx(s:PS):Pg ts s (withP ts s).2:=by
 unfold withP
 split
 · rename_i h;exact(nxt_g (zam HT h) (zag h)).trans (ref_g HT _)
 · exact Pg.refl _
theorem zn8(k:ByteArray)(a:Int)(s:PS):Pg ts s (lineP ts k a s).2:=by
 unfold lineP
 have E:=zaw HT 14;have T:=zar HT;have V:=via_g HT;have G:=tag_g HT;dsimp only
 split
 · exact((((E s).trans (V _ _)).trans (znx HT _)).trans (G _))
 split
 · exact((E s).trans (V _ _)).trans (G _)
 split
 · exact ref_g HT s
 split
 · exact E s
 split
 · exact(ref_g HT s).trans (V _ _)
 split
 · exact((((((E s).trans (T _ _)).trans (E _)).trans (T _ _)).trans (E _)).trans (V _ _)).trans (G _)
 split
 · exact((((E s).trans (T _ _)).trans (E _)).trans (T _ _)).trans (ref_g HT _)
 · exact Pg.refl _
section
variable{st:PS→St × PS}(HX:∀s,Pg ts s (st s).2)
include HX
omit HT in
theorem zc9:∀(k:Nat) (l:List St) (s:PS),Pg ts s (bodyLoop ts st k l s).2
 | 0,_,s=>Pg.refl s
 | k+1,l,s=>by
  unfold bodyLoop
  split
  · exact(HX _).trans (zc9 k _ _)
  · exact Pg.refl _
theorem zid(s:PS):Pg ts s (bodyP ts st s).2:=by
 unfold bodyP
 have h1:Pg ts s (if sees ts [m_lbr] s && s.bo == 12 then failP ts 11 s else s):=by split;exact zd3 s (.inr rfl);exact Pg.refl _
 dsimp only;generalize (if sees ts [m_lbr] s && s.bo == 12 then failP ts 11 s else s)=s1 at h1 ⊢;have h2:=h1.trans (zar HT m_lbr _);generalize takeP ts m_lbr s1=s2 at h2 ⊢;have h3:=zc9 HX (ts.length+2) [] { s2 with bo:=s2.bo+1 };generalize (bodyLoop ts st (ts.length+2) [] { s2 with bo:=s2.bo+1 }).2=s3 at h3 ⊢;have h4:=zar HT m_rbr s3;generalize takeP ts m_rbr s3=s4 at h4 ⊢;have h5:=h3.trans h4
 exact⟨Nat.le_trans h2.le h5.le,fun h=>h5.lt (h2.lt h),h5.pa.trans h2.pa,by have:=h5.bo;simp only at this ⊢;rw[this,h2.bo];omega,fun h=>by
  have h6:=h2.bad h;have h7:=h5.bad (h2.notok h)
  exact⟨h7.1.trans h6.1,h7.2.1.trans h6.2.1,h7.2.2.trans h6.2.2⟩,fun hp=>zdp (h2.flt hp) (h5.flt (h2.lt hp))⟩
theorem zop(s:PS):Pg ts s (stmtG ts st s).2:=by
 unfold stmtG
 split
 · rename_i h
   have h0:=nxt_g (zam HT h) (zag h);have E:=zaw HT 14;have B:=zid HT HX;dsimp only
   split
   · exact(h0.trans (E _)).trans (B _)
   split
   · exact((h0.trans (ref_g HT _)).trans (E _)).trans (B _)
   split
   · refine(((h0.trans (zar HT k_acked _)).trans (ref_g HT _)).trans (B _)).trans ?_
     split
     · rename_i h2;exact(nxt_g (zam HT h2) (zag h2)).trans (B _)
     · exact Pg.refl _
   · exact(h0.trans (zn8 HT _ _ _)).trans (zar HT _ _)
 · exact zd3 s (.inl rfl)
end
theorem zdz:∀(d:Nat) (s:PS),Pg ts s (stmtP ts d s).2
 | 0,s=>zd3 s (.inl rfl)
 | d+1,s=>zop HT (zdz d) s
theorem zdy:∀(k:Nat) (l:List Dc) (s:PS),Pg ts s (declLoop ts k l s).2
 | 0,_,s=>Pg.refl s
 | k+1,l,s=>by
  unfold declLoop
  split
  · rename_i h;exact(zlb HT s (zam HT h) (zag h)).trans (zdy k _ _)
  · exact Pg.refl _
theorem zee:∀(k:Nat) (l:List St) (s:PS),Pg ts s (topLoop ts k l s).2
 | 0,_,s=>Pg.refl s
 | k+1,l,s=>by
  unfold topLoop
  split
  · exact(zdz HT 14 _).trans (zee k _ _)
  · exact Pg.refl _
end
structure Rel(p:PS)(r:RS):Prop where
 i:p.i=r.i
 ok:p.ok = !r.bad
 f:r.bad=true→p.fe=r.fe∧p.fa=r.fa
 n:r.bad=false→p.bo=r.bo∧p.pa=r.pa
def Sim{α:Type}(p:α × PS)(r:α × RS):Prop:=Rel p.2 r.2∧(p.2.ok=true→p.1=r.1)
section
variable{ts:List Lx.Tok}
theorem Rel.pk{p:PS}{r:RS}(h:Rel p r):pk ts p=rk ts r:=by unfold Tr.pk rk;rw[h.i]
theorem Rel.is{p:PS}{r:RS}(h:Rel p r)(T:ByteArray):sees ts [T] p=rIs ts T r:=by unfold sees rIs;rw[h.ok,h.pk]
theorem Rel.ten{p:PS}{r:RS}(h:Rel p r):sees ts ten p=rbegins ts r:=by unfold sees rbegins;rw[h.ok,h.pk]
theorem Rel.kind{p:PS}{r:RS}(h:Rel p r)(k:Nat):kindIs ts k p=rKind ts k r:=by unfold kindIs rKind;rw[h.ok,h.pk]
theorem Rel.nxt{p:PS}{r:RS}(h:Rel p r):Rel (nxt p) (rnx r):=⟨by show p.i+1=r.i+1;rw[h.i],h.ok,h.f,h.n⟩
theorem Rel.fail{p:PS}{r:RS}(h:Rel p r)(e:Int)(he:e≠0):Rel (failP ts e p) (rstop ts e r):=by
 unfold failP rstop
 cases hb:r.bad with
 | true=>rw[if_neg (by rw[h.ok,hb];simp),if_pos rfl];exact h
 | false =>
  rw[if_pos (by rw[h.ok,hb];rfl),if_neg sy];exact⟨h.i,by show(e == 0) = !true;simpa using he,fun _=>⟨rfl,by rw[h.pk]⟩,fun h2=>(by cases h2)⟩
theorem Rel.take{p:PS}{r:RS}(h:Rel p r)(T:ByteArray):Rel (takeP ts T p) (rneed ts T r):=by
 unfold takeP rneed
 have hi:=h.is (ts:=ts) T
 unfold sees at hi
 cases hok:p.ok with
 | false =>
  rw[←hi,hok];have h5:=h.fail (ts:=ts) 9 (by decide)
  unfold failP at h5
  rw[hok]at h5
  simpa using h5
 | true =>
  rw[←hi,hok]
  cases hq:isOf (Tr.pk ts p) [T]with
  | true=>simpa using h.nxt
  | false =>
   have h5:=h.fail (ts:=ts) 9 (by decide)
   unfold failP at h5
   rw[hok]at h5
   simpa using h5
theorem Rel.ref{p:PS}{r:RS}(h:Rel p r):Sim (refP ts p) (rname ts r):=by
 unfold refP rname
 rw[h.kind,h.pk]
 cases rKind ts 1 r
 · exact⟨h.fail 9 (by decide),fun _=>rfl⟩
 · exact⟨h.nxt,fun _=>rfl⟩
theorem Rel.set{p:PS}{r:RS}(h:Rel p r){x x' y y':Int}(h1:x=x')(h2:y=y'):Rel { p with bo:=x,pa:=y } { r with bo:=x',pa:=y' }:=⟨h.i,h.ok,h.f,fun _=>⟨h1,h2⟩⟩
theorem Rel.upPa{p:PS}{r:RS}(h:Rel p r)(d:Int):Rel { p with pa:=p.pa+d } { r with pa:=r.pa+d }:=⟨h.i,h.ok,h.f,fun hb=>⟨(h.n hb).1,by show _+d=_+d;rw[(h.n hb).2]⟩⟩
theorem Rel.shut{p:PS}{r:RS}(h:Rel p r):Rel (shutP ts p) (rshut ts r):=(h.take m_rpar).upPa (-1)
theorem Rel.bad{p:PS}{r:RS}(h:Rel p r)(hp:p.ok=false):r.bad=true:=by have:=h.ok;rw[hp]at this;simpa using this.symm
end
section
variable{ts:List Lx.Tok}(HT:Ends ts)
section
variable{ex:PS→Ex × PS}{er:RS→Ex × RS}(HG:∀s,Pg ts s (ex s).2)(HS:∀p r,Rel p r→Sim (ex p) (er r))
include HG HS
end
end
section
variable{ts:List Lx.Tok}(HT:Ends ts)
include HT
end
section
variable{ts:List Lx.Tok}(HT:Ends ts)
section
variable{st:PS→St × PS}{sr:RS→St × RS}(HG:∀s,Pg ts s (st s).2)(HS:∀p r,Rel p r→sees ts ten p=true→Sim (st p) (sr r))(HN:∀p,sees ts ten p=false→st p=(zT,failP ts 9 p))(HP:∀p,sees ts ten p=true→(st p).2.ok=true→p.i<(st p).2.i)
include HG HS HN HP
end
end
section
variable{ts:List Lx.Tok}(HT:Ends ts)
include HT
end
section
variable{ts:List Lx.Tok}(HT:Ends ts)
include HT
end
end
end Go.Proofs.YtafjkbbiaopemaaGreatDoor.Tr
