/- Part of the proof. -/
import Derived.Shelf.Strconv.Itoa3
import Derived.Test.YtafjkbbiaopemaaGreatDoorChecked
import Derived.Lib.SmallJoins
import Derived.Lib.AppendIntMem
import Derived.Test.YtafjkbbiaopemaaGreatDoorOpx28
import Derived.Test.YtafjkbbiaopemaaGreatDoorOpx30
set_option linter.all false
set_option maxRecDepth 100000
set_option maxHeartbeats 0
namespace Go.Proofs
open Go.RowKit
section
open Go.Shelf
def Tryz.laysM171_ren:Go.Shelf.Ren:=⟨fun|171=>93|243=>116|246=>130|283=>136|284=>137|285=>138|286=>139|129=>142|317=>141|318=>143|319=>144|320=>145|337=>146|338=>147|n=>n,fun|3=>3|9=>9|2=>2|4=>4|171=>162|0=>0|53=>159|37=>83|5=>5|173=>165|212=>170|51=>156|20=>20|213=>171|46=>144|232=>174|233=>175|n=>n,fun|17=>1|18=>2|19=>3|n=>n⟩
theorem Tryz.laysM171:Go.Proofs.LaysM.n171 Tryz.prog Tryz.laysM171_ren:={
 mixed:=by kernel_rfl
 f129:=Tryz.func142.trans (congrArg some (by kernel_rfl))
 f171:=Tryz.func93.trans (congrArg some (by kernel_rfl))
 f243:=Tryz.func116.trans (congrArg some (by kernel_rfl))
 f246:=Tryz.func130.trans (congrArg some (by kernel_rfl))
 f283:=Tryz.func136.trans (congrArg some (by kernel_rfl))
 f284:=Tryz.func137.trans (congrArg some (by kernel_rfl))
 f285:=Tryz.func138.trans (congrArg some (by kernel_rfl))
 f286:=Tryz.func139.trans (congrArg some (by kernel_rfl))
 f317:=Tryz.func141.trans (congrArg some (by kernel_rfl))
 f318:=Tryz.func143.trans (congrArg some (by kernel_rfl))
 f319:=Tryz.func144.trans (congrArg some (by kernel_rfl))
 f320:=Tryz.func145.trans (congrArg some (by kernel_rfl))
 f337:=Tryz.func146.trans (congrArg some (by kernel_rfl))
 f338:=Tryz.func147.trans (congrArg some (by kernel_rfl))
 t0:=Tryz.underlying0
 a0:=Tryz.isAgg0
 z0:=Tryz.sizeOf0
 v0:=Tryz.zeroValue0
 t2:=Tryz.underlying2
 a2:=Tryz.isAgg2
 z2:=Tryz.sizeOf2
 v2:=Tryz.zeroValue2
 t3:=Tryz.underlying3
 a3:=Tryz.isAgg3
 z3:=Tryz.sizeOf3
 v3:=Tryz.zeroValue3
 t4:=Tryz.underlying4
 a4:=Tryz.isAgg4
 z4:=Tryz.sizeOf4
 v4:=Tryz.zeroValue4
 t5:=Tryz.underlying5
 a5:=Tryz.isAgg5
 z5:=Tryz.sizeOf5
 v5:=Tryz.zeroValue5
 t9:=Tryz.underlying9
 a9:=Tryz.isAgg9
 z9:=Tryz.sizeOf9
 v9:=Tryz.zeroValue9
 t20:=Tryz.underlying20
 a20:=Tryz.isAgg20
 z20:=Tryz.sizeOf20
 v20:=Tryz.zeroValue20
 t37:=Tryz.underlying83
 a37:=Tryz.isAgg83
 z37:=Tryz.sizeOf83
 v37:=Tryz.zeroValue83
 t46:=Tryz.underlying144
 a46:=Tryz.isAgg144
 z46:=Tryz.sizeOf144
 v46:=Tryz.zeroValue144
 t51:=Tryz.underlying156
 a51:=Tryz.isAgg156
 z51:=Tryz.sizeOf156
 v51:=Tryz.zeroValue156
 t53:=Tryz.underlying159
 a53:=Tryz.isAgg159
 z53:=Tryz.sizeOf159
 v53:=Tryz.zeroValue159
 t171:=Tryz.underlying162
 a171:=Tryz.isAgg162
 z171:=Tryz.sizeOf162
 v171:=Tryz.zeroValue162
 t173:=Tryz.underlying165
 a173:=Tryz.isAgg165
 z173:=Tryz.sizeOf165
 v173:=Tryz.zeroValue165
 t212:=Tryz.underlying170
 a212:=Tryz.isAgg170
 z212:=Tryz.sizeOf170
 v212:=Tryz.zeroValue170
 t213:=Tryz.underlying171
 a213:=Tryz.isAgg171
 z213:=Tryz.sizeOf171
 t232:=Tryz.underlying174
 a232:=Tryz.isAgg174
 z232:=Tryz.sizeOf174
 v232:=Tryz.zeroValue174
 t233:=Tryz.underlying175
 a233:=Tryz.isAgg175
 z233:=Tryz.sizeOf175
 v233:=Tryz.zeroValue175
 g17:=by kernel_rfl
 g18:=by kernel_rfl
 g19:=by kernel_rfl
 i0:=by kernel_rfl
 i2:=by kernel_rfl
 i3:=by kernel_rfl
 i4:=by kernel_rfl
 i5:=by kernel_rfl
 i9:=by kernel_rfl
 i20:=by kernel_rfl
 i37:=by kernel_rfl
 i46:=by kernel_rfl
 i51:=by kernel_rfl
 i53:=by kernel_rfl
 i171:=by kernel_rfl
 i173:=by kernel_rfl
 i212:=by kernel_rfl
 i232:=by kernel_rfl
 i233:=by kernel_rfl
 m17:=by kernel_rfl
 m18:=by kernel_rfl
 m19:=by kernel_rfl }
open Go.RowKit Go.Sort Go.Lib in
theorem Tryz.strconv_Itoa(n:Int)(h0 : -9223372036854775808≤n)(h1:n≤9223372036854775807)(w:World)(htab:Lib.TabIs Tryz.prog w "internal/strconv.uint64pow10" .u64 Lib.pow10Tab):
 Calls Tryz.prog 93 #[.int .i64 n] w fun e w'=>e=.returned (.string ⟨(Lib.itoa n).toArray⟩)∧∃k os,w'=grow (w.drewN k) os:=Any.strconv_Itoa Tryz.laysM171 n h0 h1 w htab
end
end Go.Proofs
namespace Go.Proofs.YtafjkbbiaopemaaGreatDoor.Tr
open Go.RowKit
section
section
variable{ts:List Lx.Tok}(hN:ts.length+5≤140737488355328)
abbrev exS(e:Ex):Prop:=ExSm e.args
section
variable{ex:PS→Ex × PS}(hx:∀s,exS (ex s).1)
include hx
theorem zjf(s:PS):exS (atomP ts ex s).1:=by
 unfold atomP
 repeat' split
 all_goals first|exact ExSm.nil|exact hx _
theorem znz:∀(k:Nat) (l:List Ex) (s:PS),(∀e∈l,exS e)→(∀e∈(joinLoop ts ex k l s).1,exS e)∧(joinLoop ts ex k l s).1.length≤l.length+k
 | 0,l,s,h=>⟨h,by simp[joinLoop]⟩
 | k+1,l,s,h=>by
  rw[joinLoop]
  split
  · obtain⟨h1,h2⟩:=znz k (l++[(ex (nxt s)).1]) (ex (nxt s)).2 (fun e he=>by
     rcases List.mem_append.1 he with he|he
     · exact h e he
     · rw[List.mem_singleton.1 he];exact hx _)
    exact⟨h1,by rw[la9]at h2;simp at h2;omega⟩
  · exact⟨h,by dsimp only;omega⟩
include hN
theorem zia(s:PS):exS (factorP ts ex s).1:=by
 unfold factorP
 repeat' split
 · exact ExSm.nil
 · obtain⟨h1,h2⟩:=znz hx (ts:=ts) (ts.length+1) [(ex (openP ts (nxt s))).1] (ex (openP ts (nxt s))).2 (fun e he=>by rw[List.mem_singleton.1 he];exact hx _)
   exact ExSm.mk _ (Nat.le_trans h2 (by simp only[List.length_cons,List.length_nil];omega)) h1
 · exact zjf hx s
omit hN hx in
theorem zqm(o t:ByteArray)(n a:Int){e f:Ex}(he:exS e)(hf:exS f):exS (.mk o n t a [e,f]):=by
 show ExSm [e,f]
 refine ExSm.mk [e,f] sy (fun x h=>?_);simp only[List.mem_cons,List.not_mem_nil,or_false]at h
 rcases h with rfl|rfl
 · exact he
 · exact hf
theorem zjp:∀(k:Nat) (e:Ex) (s:PS),exS e→exS (termLoop ts ex k e s).1
 | 0,_,_,h=>h
 | k+1,e,s,h=>by
  rw[termLoop]
  split
  · exact zjp k _ _ (zqm _ _ _ _ h (zia hN hx _))
  · exact h
theorem zl6(s:PS):exS (termP ts ex s).1:=zjp hN hx _ _ _ (zia hN hx s)
theorem zko:∀(k:Nat) (e:Ex) (s:PS),exS e→exS (exprLoop ts ex k e s).1
 | 0,_,_,h=>h
 | k+1,e,s,h=>by
  rw[exprLoop]
  split
  · exact zko k _ _ (zqm _ _ _ _ h (zl6 hN hx _))
  · exact h
theorem zp9(s:PS):exS (exprG ts ex s).1:=zko hN hx _ _ _ (zl6 hN hx s)
end
include hN
theorem zc1:∀(d:Nat) (s:PS),exS (exprP ts d s).1
 | 0,_=>ExSm.nil
 | d+1,s=>zp9 hN (fun s=>zc1 d s) s
abbrev plS(p:Pl):Prop:=ExSm p.delay.args∧ExSm p.flags.args
theorem zkc(s:PS):plS (placeP ts s).1:=by
 unfold placeP
 dsimp only
 constructor
 · show ExSm (if sees ts [m_at] (refP ts s).2=true then atomP ts (exprP ts 14) (nxt (refP ts s).2) else (zE,(refP ts s).2)).1.args
   split
   · exact zjf (zc1 hN 14) _
   · exact ExSm.nil
 · dsimp only
   generalize (if sees ts [m_at] (refP ts s).2=true then atomP ts (exprP ts 14) (nxt (refP ts s).2) else (zE,(refP ts s).2))=q
   split
   · exact zjf (zc1 hN 14) _
   · exact ExSm.nil
theorem zhw:∀(k:Nat) (l:List Pl) (s:PS),(∀e∈l,plS e)→(∀e∈(placeLoop ts k l s).1,plS e)∧(placeLoop ts k l s).1.length≤l.length+k
 | 0,l,s,h=>⟨h,by simp[placeLoop]⟩
 | k+1,l,s,h=>by
  rw[placeLoop]
  split
  · obtain⟨h1,h2⟩:=zhw k (l++[(placeP ts (nxt s)).1]) (placeP ts (nxt s)).2 (fun e he=>by
     rcases List.mem_append.1 he with he|he
     · exact h e he
     · rw[List.mem_singleton.1 he];exact zkc hN _)
    exact⟨h1,by rw[la9]at h2;simp at h2;omega⟩
  · exact⟨h,by dsimp only;omega⟩
abbrev dcS(d:Dc):Prop:=ExSm d.value.args∧d.places.length≤140737488355328∧∀p∈d.places,ExSm p.delay.args∧ExSm p.flags.args
theorem zsu(s:PS):dcS (declP ts s).1:=by
 unfold declP
 dsimp only
 split
 · exact⟨zc1 hN 14 _,by simp,fun _ h=>by simp at h⟩
 · obtain⟨h1,h2⟩:=zhw hN (ts.length+1) [(placeP ts (takeP ts m_eq (refP ts (nxt s)).2)).1] (placeP ts (takeP ts m_eq (refP ts (nxt s)).2)).2 (fun e he=>by rw[List.mem_singleton.1 he];exact zkc hN _)
   exact⟨ExSm.nil,by simp at h2;dsimp only;omega,h1⟩
theorem zkr:∀(k:Nat) (l:List Dc) (s:PS),(∀e∈l,dcS e)→(∀e∈(declLoop ts k l s).1,dcS e)∧(declLoop ts k l s).1.length≤l.length+k
 | 0,l,s,h=>⟨h,by simp[declLoop]⟩
 | k+1,l,s,h=>by
  rw[declLoop]
  split
  · obtain⟨h1,h2⟩:=zkr k (l++[(declP ts s).1]) (declP ts s).2 (fun e he=>by
     rcases List.mem_append.1 he with he|he
     · exact h e he
     · rw[List.mem_singleton.1 he];exact zsu hN _)
    exact⟨h1,by rw[la9]at h2;simp at h2;omega⟩
  · exact⟨h,by dsimp only;omega⟩
omit hN in
theorem zm5:∀(k:Nat) (l:List Rf) (s:PS),(refLoop ts k l s).1.length≤l.length+k
 | 0,l,s=>by simp[refLoop]
 | k+1,l,s=>by
  rw[refLoop]
  split
  · have h2:=zm5 k (l++[(refP ts (nxt s)).1]) (refP ts (nxt s)).2
    rw[la9]at h2;simp at h2;omega
  · dsimp only;omega
theorem via_sm(m:Bool)(s:PS):(viaP ts m s).1.length≤140737488355328:=by
 unfold viaP
 dsimp only
 split
 · have h2:=zm5 (ts:=ts) (ts.length+1) [(refP ts (takeP ts k_via s)).1] (refP ts (takeP ts k_via s)).2
   simp at h2;omega
 · simp
abbrev stS(s:St):Prop:=(ExSm s.ea.args∧ExSm s.eb.args∧ExSm s.ec.args∧s.routes.length≤140737488355328)∧StSm s.body∧StSm s.els
omit hN in
theorem StSm.nil:StSm []:=.mk _ sy (fun _ h=>by simp at h) (fun _ h=>by simp at h) (fun _ h=>by simp at h)
theorem zsi(k:ByteArray)(a:Int)(s:PS):stS (lineP ts k a s).1:=by
 unfold lineP
 dsimp only
 repeat' split
 all_goals exact⟨⟨by first|exact ExSm.nil|exact zc1 hN 14 _,by first|exact ExSm.nil|exact zc1 hN 14 _,by first|exact ExSm.nil|exact zc1 hN 14 _,by first|exact via_sm hN _ _|(simp[St.routes])⟩,StSm.nil,StSm.nil⟩
omit hN in
theorem StSm.of{l:List St}(h:∀s∈l,stS s)(hl:l.length≤140737488355328):StSm l:=.mk l hl (fun s hs=>(h s hs).1) (fun s hs=>(h s hs).2.1) (fun s hs=>(h s hs).2.2)
section
variable{st:PS→St × PS}(hs:∀s,stS (st s).1)
include hs
omit hN in
theorem zku:∀(k:Nat) (l:List St) (s:PS),(∀e∈l,stS e)→(∀e∈(bodyLoop ts st k l s).1,stS e)∧(bodyLoop ts st k l s).1.length≤l.length+k
 | 0,l,s,h=>⟨h,by simp[bodyLoop]⟩
 | k+1,l,s,h=>by
  rw[bodyLoop]
  split
  · obtain⟨h1,h2⟩:=zku k (l++[(st s).1]) (st s).2 (fun e he=>by
     rcases List.mem_append.1 he with he|he
     · exact h e he
     · rw[List.mem_singleton.1 he];exact hs _)
    exact⟨h1,by rw[la9]at h2;simp at h2;omega⟩
  · exact⟨h,by dsimp only;omega⟩
theorem zgw(s:PS):StSm (bodyP ts st s).1:=by
 unfold bodyP
 dsimp only;obtain⟨h1,h2⟩:=zku (ts:=ts) hs (ts.length+2) [] { takeP ts m_lbr (if (sees ts [m_lbr] s && s.bo == 12)=true then failP ts 11 s else s)with bo:=(takeP ts m_lbr (if (sees ts [m_lbr] s && s.bo == 12)=true then failP ts 11 s else s)).bo+1 } (fun _ h=>by simp at h);exact StSm.of h1 (Nat.le_trans h2 (by simp only[List.length_nil];omega))
theorem zos(s:PS):stS (stmtG ts st s).1:=by
 unfold stmtG
 dsimp only
 split
 · split
   · exact⟨⟨zc1 hN 14 _,ExSm.nil,ExSm.nil,by simp[St.routes]⟩,zgw hN hs _,StSm.nil⟩
   · split
     · exact⟨⟨zc1 hN 14 _,ExSm.nil,ExSm.nil,by simp[St.routes]⟩,zgw hN hs _,StSm.nil⟩
     · split
       · refine⟨⟨ExSm.nil,ExSm.nil,ExSm.nil,by simp[St.routes]⟩,zgw hN hs _,?_⟩
         dsimp only [St.els]
         split
         · exact zgw hN hs _
         · exact StSm.nil
       · exact zsi hN _ _ _
 · exact⟨⟨ExSm.nil,ExSm.nil,ExSm.nil,by simp[zT,St.routes]⟩,StSm.nil,StSm.nil⟩
end
theorem zma:∀(d:Nat) (s:PS),stS (stmtP ts d s).1
 | 0,_=>⟨⟨ExSm.nil,ExSm.nil,ExSm.nil,by simp[stmtP,zT,St.routes]⟩,StSm.nil,StSm.nil⟩
 | d+1,s=>zos hN (fun s=>zma d s) s
theorem zl2:∀(k:Nat) (l:List St) (s:PS),(∀e∈l,stS e)→(∀e∈(topLoop ts k l s).1,stS e)∧(topLoop ts k l s).1.length≤l.length+k
 | 0,l,s,h=>⟨h,by simp[topLoop]⟩
 | k+1,l,s,h=>by
  rw[topLoop]
  split
  · obtain⟨h1,h2⟩:=zl2 k (l++[(stmtP ts 14 s).1]) (stmtP ts 14 s).2 (fun e he=>by
     rcases List.mem_append.1 he with he|he
     · exact h e he
     · rw[List.mem_singleton.1 he];exact zma hN 14 _)
    exact⟨h1,by rw[la9]at h2;simp at h2;omega⟩
  · exact⟨h,by dsimp only;omega⟩
theorem znm:DcSm (parseT ts).1.decls∧StSm (parseT ts).1.body:=by
 unfold parseT
 dsimp only;obtain⟨h1,h2⟩:=zkr hN (ts.length+1) [] s0 (fun _ h=>by simp at h);obtain⟨h3,h4⟩:=zl2 hN (ts.length+2) [] (declLoop ts (ts.length+1) [] s0).2 (fun _ h=>by simp at h)
 split
 · exact⟨⟨Nat.le_trans h2 (by simp only[List.length_nil];omega),h1⟩,StSm.of h3 (Nat.le_trans h4 (by simp only[List.length_nil];omega))⟩
 · exact⟨⟨by simp,fun _ h=>by simp at h⟩,StSm.nil⟩
end
theorem zkf(s:List UInt8):DcSm (parse s).1.decls∧StSm (parse s).1.body:=by
 rcases hR:Lx.scan s with ⟨⟨p,q⟩,ts⟩
 unfold parse
 rw[hR];dsimp only
 split
 · rename_i hp
   subst hp
   have hq:q=0:=by
    rcases Lx.scan_cases s with ⟨p',q',h1,h2⟩|⟨us,h1,_⟩
    · rw[hR]at h1
      injection h1 with h3
      injection h3 with h3 h4
      omega
    · rw[hR]at h1
      injection h1 with h3
      injection h3
   subst hq;obtain⟨_,_,hn,_⟩:=zee hR;exact znm om
 · exact⟨⟨by simp,fun _ h=>by simp at h⟩,StSm.nil⟩
end
section
section
variable{w w':World}
theorem zb7{B:Nat}{o o':Obj}{w0:World}(h:Below B w0 w)(hB:B≤w.heap.size):Below B w0 ((w.alloc o).alloc o'):=(h.alloc hB o).alloc (by simp;omega) o'
end
end
section
section
variable{w w':World}
theorem tab_of(h:Lib.TabIs Tryz.prog w "internal/strconv.uint64pow10" .u64 Lib.pow10Tab):Tab w.heap.size w:=fun n W h0 h1 hW =>
 (Tryz.strconv_Itoa n om h1 W (Go.Joins.tab_stays (g:=(Tryz.prog.globalNamed "internal/strconv.uint64pow10").getD 0) kr h hW lr)).mono fun e w' ⟨he,k,os,hw⟩=>by
  subst hw;have hb:=Lib.below_grow W.heap.size W lr k os;exact⟨he,hb,fun b=>Oth.of_below hb⟩
theorem hdDoc:(Tryz.prog.info? 48).map (·.size)=some 3:=by kernel_rfl
theorem zom(s:ByteArray)(F1 F2:Int)(hR:parse s.data.toList=(⟨[],[]⟩,(F1,F2)))(hF:F1≠0)(w:World):Calls Tryz.prog 14 #[.string s] w fun e w'=>e=.returned (.tuple #[.agg #[.slice none 0 0,.slice none 0 0,.string zs],.agg #[.int .i64 F1,.int .i64 F2]])∧Below w.heap.size w w':=by
 have HPA:Hid (∀W,Calls Tryz.prog 9 #[.string s] W fun e w'=>∃B d A c,e=.returned (.tuple #[.agg #[.slice B 0 d,.slice A 0 c],.agg #[.int .i64 F1,.int .i64 F2]])∧Below W.heap.size W w'):=fun W=>by
  have h:=zfb s W
  unfold PaK at h
  rw[hR]at h;exact h.mono fun e w' ⟨B,d,A,c,he,_,_,hB⟩=>⟨B,d,A,c,he,hB⟩
 have hpn:(F1 != 0)=true:=by rw[bne_iff_ne];exact hF
 have HZ0:Hid (∀W,Below (w.heap.size+2) ((w.alloc (.cells #[.slice none 0 0,.slice none 0 0,.string zs] 48)).alloc (.cells #[.int .i64 0,.int .i64 0] 29)) W→Blk W w.heap.size 48 [.slice none 0 0,.slice none 0 0,.string zs]∧Blk W (w.heap.size+1) 29 [.int .i64 0,.int .i64 0]∧Below w.heap.size w W∧w.heap.size+2≤W.heap.size):=fun W hW =>
  ⟨((Blk.new w _ _).alloc _).below hW om,(Blk.new' sy rfl).below hW om,(((Below.refl w.heap.size w).alloc lr _).alloc sy _).trans (hW.mono om),by have:=hW.size;simp at this;omega⟩
 clear hR hF
 go_enter Tryz.func14, Tryz.ntmps14
 go_upto_region 3 with (go_at_call 9;(refine(HPA.out _).mono ?_);rintro e w2 ⟨B,d,A,c,rfl,hB2⟩;have HB2:=qh (HZ0.out w2 (by simpa using hB2));clear hB2)
 have HB3:Hid (∀W3,W3=(w2.alloc (.cells #[.slice B 0 d,.slice A 0 c] 26)).alloc (.cells #[.int .i64 F1,.int .i64 F2] 29)→Blk W3 w.heap.size 48 [.slice none 0 0,.slice none 0 0,.string zs]∧Blk W3 (w.heap.size+1) 29 [.int .i64 0,.int .i64 0]∧Below w.heap.size w W3∧Blk W3 (w2.heap.size+1) 29 [.int .i64 F1,.int .i64 F2]∧w.heap.size+2≤w2.heap.size):=by
  rintro W3 rfl;exact⟨(HB2.out.1.alloc _).alloc _,(HB2.out.2.1.alloc _).alloc _,(HB2.out.2.2.1.alloc HB2.out.2.2.1.size _).alloc (by have:=HB2.out.2.2.1.size;simp;omega) _,Blk.new' sy rfl,HB2.out.2.2.2⟩
 obtain⟨w3,hw3⟩:=ex9 ((w2.alloc (.cells #[.slice B 0 d,.slice A 0 c] 26)).alloc (.cells #[.int .i64 F1,.int .i64 F2] 29));have HB4:=qh (HB3.out w3 hw3);rw[←hw3];clear hw3 HB3;obtain⟨G,hG⟩:=ex9 (w2.heap.size);rw[←hG]at HB4 ⊢;clear HB2 HPA HZ0 hG;obtain⟨n0,n1,f0,f1⟩:=Blk.two HB4.out.2.2.2.1;have x0:w3.cell? ⟨w.heap.size,0,none⟩=some (.slice none 0 0):=HB4.out.1.cell 0;have x1:w3.cell? ⟨w.heap.size,1,none⟩=some (.slice none 0 0):=HB4.out.1.cell 1;have x2:w3.cell? ⟨w.heap.size,2,none⟩=some (.string zs):=HB4.out.1.cell 2;have k0:=HB4.out.1.frozen 0;have k1:=HB4.out.1.frozen 1;have k2:=HB4.out.1.frozen 2;obtain⟨y0,y1,m0,m1⟩:=Blk.two HB4.out.2.1;have hne1:¬G+1=w.heap.size:=by have:=HB4.out.2.2.2.2;omega
 have hne2:¬G=w.heap.size:=by have:=HB4.out.2.2.2.2;omega
 go_region
 go_wp2;have HZ:=HB4.out;refine bodyPost_ret (zd3 rfl _ w.heap.size (w.heap.size+1) 48 29 [.slice none 0 0,.slice none 0 0,.string zs] [.int .i64 F1,.int .i64 F2] rfl rfl (by exact(((((HZ.1.set_ 0 _).set_ 1 _).set_ 2 _).far sy _).far sy _).drew) (by exact(((((HZ.2.1.far sy _).far sy _).far sy _).set_ 0 _).set_ 1 _).drew) _ _ Tryz.underlying48 rfl hdDoc Tryz.underlying29 rfl hd48) rfl ?_;exact⟨rfl,(((((HZ.2.2.1.setCell sy _).setCell sy _).setCell sy _).setCell sy _).setCell sy _).drew⟩
theorem zkx{w:World}{g:Nat}: Keep (Fr g) (fun k=>k<w.heap.size) w w:=⟨lr,fun _ _ _=>rfl,fun _ _ hk=>hk⟩
theorem zol(s:ByteArray)(T:Sr)(hR:parse s.data.toList=(T,(0,0)))(w:World)
 (hPR:∀(W:World) (A D:Option Addr) (ca cd:Nat),Below w.heap.size w W→DcsIn (fun k=>k<W.heap.size) W D T.decls→BodyIn (fun k=>k<W.heap.size) W A T.body→Calls Tryz.prog 12 #[.agg #[.slice D T.decls.length cd,.slice A T.body.length ca]] W fun r w'=>r=.returned (.string (bytesOf (prTop T)))∧Below W.heap.size W w'):
 Calls Tryz.prog 14 #[.string s] w fun e w'=>∃B d A c,e=.returned (.tuple #[.agg #[.slice B T.decls.length d,.slice A T.body.length c,.string (bytesOf (prTop T))],.agg #[.int .i64 0,.int .i64 0]])∧DcsIn (Fr w.heap.size) w' B T.decls∧BodyIn (Fr w.heap.size) w' A T.body∧Below w.heap.size w w':=by
 have HPA:=qh (fun W=>zfb s W)
 unfold PaK at HPA
 rw[hR]at HPA;dsimp only at HPA;have HPR:=qh hPR
 have HZ0:Hid (∀W,Below (w.heap.size+2) ((w.alloc (.cells #[.slice none 0 0,.slice none 0 0,.string zs] 48)).alloc (.cells #[.int .i64 0,.int .i64 0] 29)) W→Blk W w.heap.size 48 [.slice none 0 0,.slice none 0 0,.string zs]∧Blk W (w.heap.size+1) 29 [.int .i64 0,.int .i64 0]∧Below w.heap.size w W∧w.heap.size+2≤W.heap.size):=fun W hW =>
  ⟨((Blk.new w _ _).alloc _).below hW om,(Blk.new' sy rfl).below hW om,(((Below.refl w.heap.size w).alloc lr _).alloc sy _).trans (hW.mono om),by have:=hW.size;simp at this;omega⟩
 clear hR hPR;generalize bytesOf (prTop T)=X at *;generalize hn:T.decls.length=n at *;generalize hm:T.body.length=m at *
 go_enter Tryz.func14, Tryz.ntmps14
 go_upto_region 4 with (go_at_call 9;(refine(HPA.out _).mono ?_);rintro e w2 ⟨B,d,A,c,rfl,hd2,hb2,hB2⟩;have HB2:=qh (And.intro (HZ0.out w2 (by simpa using hB2)) (And.intro hd2 hb2));clear hd2 hb2 hB2)
 have HB3:Hid (∀W3,W3=(w2.alloc (.cells #[.slice B n d,.slice A m c] 26)).alloc (.cells #[.int .i64 0,.int .i64 0] 29)→Blk W3 w.heap.size 48 [.slice none 0 0,.slice none 0 0,.string zs]∧Blk W3 (w.heap.size+1) 29 [.int .i64 0,.int .i64 0]∧Below w.heap.size w W3∧Blk W3 w2.heap.size 26 [.slice B n d,.slice A m c]∧w.heap.size+2≤w2.heap.size∧w2.heap.size<W3.heap.size∧DcsIn (Fr (w.heap.size+2)) W3 B T.decls∧BodyIn (Fr (w.heap.size+2)) W3 A T.body):=by
  rintro W3 rfl;obtain⟨⟨h1,h2,h3,h4⟩,h5,h6⟩:=HB2.out;have hbl:=zb7 (o:=.cells #[.slice B n d,.slice A m c] 26) (o':=.cells #[.int .i64 0,.int .i64 0] 29) (Below.refl w2.heap.size w2) lr;have e1:∀o o',((w.alloc o).alloc o').heap.size=w.heap.size+2:=fun _ _=>by simp
  rw[e1]at h5 h6;exact⟨(h1.alloc _).alloc _,(h2.alloc _).alloc _,h3.trans (hbl.mono h3.size),(Blk.new _ _ _).alloc _,h4,by simp;omega,h5.keep (Keep.of_below hbl _),h6.keep (Keep.of_below hbl _)⟩
 obtain⟨w3,hw3⟩:=ex9 ((w2.alloc (.cells #[.slice B n d,.slice A m c] 26)).alloc (.cells #[.int .i64 0,.int .i64 0] 29));have HB4:=qh (HB3.out w3 hw3);rw[←hw3];clear hw3 HB3;obtain⟨G,hG⟩:=ex9 (w2.heap.size);rw[←hG]at HB4 ⊢;clear HB2 HPA HZ0 hG;have HLD:Hid (∀W,Below w3.heap.size w3 W→W.rangeAt G 0 [.slice B n d,.slice A m c]):=fun W hW=>(HB4.out.2.2.2.1.below hW HB4.out.2.2.2.2.2.1).range
 have HCL:Hid (∀W,Below w3.heap.size w3 W→Calls Tryz.prog 12 #[.agg #[.slice B n d,.slice A m c]] W fun r w'=>r=.returned (.string X)∧Below W.heap.size W w'):=fun W hW =>
  HPR.out W A B c d (HB4.out.2.2.1.trans (hW.mono HB4.out.2.2.1.size)) ((HB4.out.2.2.2.2.2.2.1.keep (Keep.of_below hW _)).keep zkx) ((HB4.out.2.2.2.2.2.2.2.keep (Keep.of_below hW _)).keep zkx)
 clear HPR;have hT:Below w3.heap.size w3 w3.drew:=Below.drew (Below.refl _ _);refine kgo kr 5 (fun W=>Below w3.heap.size w3 W) hT (fun _ _ _ _ _ h=>h) ?_;refine kp 4 (.agg #[.int .i64 0,.int .i64 0]) rfl kr (fun _=>kr) ?_;refine kl 0 (.agg #[.slice B n d,.slice A m c]) rfl kr (fun w' hw'=>zak rfl kr (run_loadAt_mid w' G 0 26 [.slice B n d,.slice A m c] _ (HLD.out w' hw') Tryz.underlying26 rfl hdSr)) ?_;refine kl 1 (.agg #[.slice B n d,.slice A m c]) rfl kr (fun w' hw'=>zak rfl kr (run_loadAt_mid w' G 0 26 [.slice B n d,.slice A m c] _ (HLD.out w' hw') Tryz.underlying26 rfl hdSr)) ?_;intro q8 q9;clear q8 q9;refine AnyK.enter 2 (d:=some 18) (f:=12) (args:=#[.agg #[.slice B n d,.slice A m c]]) rr kr kr ?_;refine(HCL.out _ hT).mono ?_;rintro r w4 ⟨rfl,hB4⟩;have hT4:Below w3.heap.size w3 w4:=hT.trans hB4;refine⟨_,rfl,fun _=>hT4,?_⟩;refine AnyK.val 3 (v:=.agg #[.slice B n d,.slice A m c,.string X]) rr kr rfl kr (fun _=>hT4) ?_;have hz1:Blk w4 w.heap.size 48 [.slice none 0 0,.slice none 0 0,.string zs]:=HB4.out.1.below hT4 HB4.out.1.lt;have hz2:Blk w4 (w.heap.size+1) 29 [.int .i64 0,.int .i64 0]:=HB4.out.2.1.below hT4 HB4.out.2.1.lt;refine AnyK.storeAll 5 w.heap.size [.slice B n d,.slice A m c,.string X] 48 [.slice none 0 0,.slice none 0 0,.string zs] rfl rfl rfl rfl kr kr kr hz1 hdDoc (by intro v hv;simp at hv;rcases hv with rfl|rfl|rfl <;> rfl) rfl (fun _ _ _ h=>(by cases h)) (fun w5 hb5 ho5=>?_);have hz3:Blk w5 (w.heap.size+1) 29 [.int .i64 0,.int .i64 0]:=ho5.blk hz2 om;refine AnyK.storeAll 6 (w.heap.size+1) [.int .i64 0,.int .i64 0] 29 [.int .i64 0,.int .i64 0] rfl rfl rfl rfl kr kr kr hz3 hd48 (by intro v hv;simp at hv;rcases hv with rfl|rfl <;> rfl) rfl (fun _ _ _ h=>(by cases h)) (fun w6 hb6 ho6=>?_);have hb7:Blk w6 w.heap.size 48 [.slice B n d,.slice A m c,.string X]:=ho6.blk hb5 om;have HWR:Hid (Wr [w.heap.size,w.heap.size+1] w3 w6):=((Wr.of_below hT4).trans (Wr.onlyg ho5 sy)).trans (Wr.onlyg ho6 sy);have HBK:=qh (And.intro hb7 hb6);refine AnyK.done ?_ ?_
 · kernel_rfl
 clear hz1 hz2 hz3 hb5 hb6 hb7 ho5 ho6 hT hT4 hB4 HLD HCL;simp only[List.getElem_toArray,List.getElem_cons_zero,List.getElem_cons_succ,Act.put,List.setIfInBounds_toArray,List.set_cons_succ,List.set_cons_zero];go_wp2;refine bodyPost_ret (zd3 rfl _ w.heap.size (w.heap.size+1) 48 29 [.slice B n d,.slice A m c,.string X] [.int .i64 0,.int .i64 0] rfl rfl HBK.out.1 HBK.out.2 _ _ Tryz.underlying48 rfl hdDoc Tryz.underlying29 rfl hd48) rfl ?_;refine⟨B,d,A,c,rfl,?_,?_,HWR.out.below HB4.out.2.2.1 sy HB4.out.2.2.1.size⟩
 · exact HB4.out.2.2.2.2.2.2.1.keep (HWR.out.keep _ _ (fun k hk _ hm=>by have hk2:w.heap.size+2≤k:=hk;simp at hm;omega) (fun k hk _=>by have hk2:w.heap.size+2≤k:=hk;show w.heap.size≤k;omega))
 · exact HB4.out.2.2.2.2.2.2.2.keep (HWR.out.keep _ _ (fun k hk _ hm=>by have hk2:w.heap.size+2≤k:=hk;simp at hm;omega) (fun k hk _=>by have hk2:w.heap.size+2≤k:=hk;show w.heap.size≤k;omega))
end
end
end Go.Proofs.YtafjkbbiaopemaaGreatDoor.Tr
