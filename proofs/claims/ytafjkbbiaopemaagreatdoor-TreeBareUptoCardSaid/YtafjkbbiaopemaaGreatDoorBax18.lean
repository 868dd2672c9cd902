/- Part of the proof. -/
import Derived.Test.YtafjkbbiaopemaaGreatDoorBax16
import Derived.Test.YtafjkbbiaopemaaGreatDoorBax17
set_option linter.all false
set_option maxRecDepth 100000
set_option maxHeartbeats 0
namespace Go.Proofs.YtafjkbbiaopemaaGreatDoor.Tr
open Go.RowKit
section
section
variable{gp gs:Nat}{A:Option Addr}{n c:Nat}{ts:List Lx.Tok}{s:PS}{w:World}
theorem znn(cx:Cx gp gs A n ts)(d:Nat)(hex:ExK gp gs A n c ts 50 (exprP ts d) (Q d)):ExK gp gs A n c ts 111 (factorP ts (exprP ts d)) (Q (d+1)):=by
 intro s w h hq
 cases hk4:kindIs ts 4 s
 · cases hkj:sees ts [k_join] s
   · exact zk9 cx (exprP ts d) (d+1) (zoh cx d hex) h hq hk4 hkj
   · exact zk8 cx (exprP ts d) d hex (zaw cx.ends d) h hq hk4 hkj
 · exact zk7 cx (exprP ts d) h hk4
theorem za3(cx:Cx gp gs A n ts):∀d:Nat,ExK gp gs A n c ts 50 (exprP ts d) (Q d)
 | 0=>fun _ _ _ hq=>absurd hq.d1 om
 | d+1=>expr_c cx (exprP ts d) (d+1) (term_c cx (exprP ts d) (d+1) (znn cx d (za3 cx d)) (zdr cx.ends (zaw cx.ends d))) (zf7 cx.ends (zaw cx.ends d))
theorem znw(cx:Cx gp gs A n ts)(d:Nat):ExK gp gs A n c ts 84 (atomP ts (exprP ts d)) (Q (d+1)):=zoh cx d (za3 cx d)
end
end
section
theorem hdSt:(Tryz.prog.info? 42).map (·.size)=some 26:=by kernel_rfl
theorem zba(T:St)(p:StA):(stC T p).length=26:=rfl
structure LnS(gp gs gt:Nat)(A:Option Addr)(n c:Nat)(ts:List Lx.Tok)(w0:World)(T:St)(p:StA)(q:PS)(w:World):Prop where
 st:PSt gp gs A n c ts q w
 wr:Wr [gp,gs,gt] w0 w
 e:Blk w gt 42 (stC T p)
 ar:StIn (Fr w0.heap.size) w T p
 lo:PLo gp gs A gt
 lt:gt<w0.heap.size
section
variable{gp gs gt:Nat}{A:Option Addr}{n c:Nat}{ts:List Lx.Tok}{s q q':PS}{w w' w0:World}{T T':St}{p p':StA}
theorem StIn.keepw(h:StIn (Fr w0.heap.size) w T p){L:List Nat}(hw:Wr L w w')(hL:∀g∈L,g<w0.heap.size):StIn (Fr w0.heap.size) w' T p:=h.keep (zhe hw hL lr)
theorem LnS.call(h:LnS gp gs gt A n c ts w0 T p q w)(hs:PSt gp gs A n c ts q' w')(hW:Wr [gp,gs] w w'):LnS gp gs gt A n c ts w0 T p q' w' :=
 ⟨hs,h.wr.trans (hW.mono (fun g hg=>by simp only[List.mem_cons,List.not_mem_nil,or_false]at hg ⊢;omega)),Blk.wr h.e hW h.lo lr,
   h.ar.keepw hW (fun g hg=>by have:=h.lo.1;have:=h.lo.2.1;have:=h.lt;simp only[List.mem_cons,List.not_mem_nil,or_false]at hg;omega),h.lo,h.lt⟩
theorem Wr.onlyg{L:List Nat}{g:Nat}(ho:Only w w' g)(hg:g∈L):Wr L w w' :=
 ⟨ho.grown.os,ho.grown.tape,ho.grown.output,ho.grown.size,fun k hk hne=>ho.grown.block k hk (fun e=>hne (by injection e with e;exact e ▸ hg))⟩
theorem LnS.put(h:LnS gp gs gt A n c ts w0 T p q w)(ho:Only w w' gt)(hb:Blk w' gt 42 (stC T' p'))(ha:StIn (Fr w0.heap.size) w T' p'):LnS gp gs gt A n c ts w0 T' p' q w' :=
 ⟨h.st.only h.lo lr ho,h.wr.trans (Wr.onlyg ho sy),hb,ha.keepw (Wr.onlyg (L:=[gt]) ho sy) (fun g hg=>by simp only[List.mem_cons,List.not_mem_nil,or_false]at hg;rw[hg];exact h.lt),h.lo,h.lt⟩
theorem LnS.one(h:LnS gp gs gt A n c ts w0 T p q w)(i:Nat)(v:Value)(hb:(stC T p).set i v=stC T' p')(ha:StIn (Fr w0.heap.size) w T' p'):LnS gp gs gt A n c ts w0 T' p' q (w.setCell ⟨gt,i,none⟩ v) :=
 h.put (Only.of_setCells w gt i [v]) (hb ▸ h.e.set_ i v) ha
theorem ArgsIn.up(h:LnS gp gs gt A n c ts w0 T p q w){W:World}{B:Option Addr}{es:List Ex}(ha:ArgsIn (Fr w.heap.size) W B es):ArgsIn (Fr w0.heap.size) W B es:=ha.keep (za0 h.wr.size)
theorem RfsIn.up(h:LnS gp gs gt A n c ts w0 T p q w){W:World}{B:Option Addr}{l:List Rf}(ha:RfsIn (Fr w.heap.size) W B l):RfsIn (Fr w0.heap.size) W B l:=ha.keep (za0 h.wr.size)
theorem zkw(cx:Cx gp gs A n ts)(kind:ByteArray)(hk:kind=k_wait)(at_:Int)(p0:StA)(hS:LnS gp gs gt A n c ts w (.mk kind at_ zR zE zE zE [] zR zR [] []) p0 s w)(hq:Q 14 s):
 Calls Tryz.prog 56 #[.pointer (some ⟨gp,0,none⟩),.pointer (some ⟨gt,0,none⟩)] w fun e w'=>e=.returned (.tuple #[])∧∃p',LnS gp gs gt A n c ts w (lineP ts kind at_ s).1 p' (lineP ts kind at_ s).2 w':=by
 subst hk;have HT:Hid (lineP ts k_wait at_ s=(.mk k_wait at_ zR (EX ts s).1 zE zE [] zR zR [] [],(EX ts s).2)):=rfl;rw[HT.out];have HEX:=qh (fun W (h:PSt gp gs A n c ts s W)=>za3 cx 14 s W h hq);have HS:=qh hS;have c0:=hS.e.cell 0;have hc0:w.cell? ⟨gt,0,none⟩=some (.string k_wait):=c0;clear hS hq c0 HT;generalize (EX ts s).1=E at *;generalize (EX ts s).2=q at *
 go_enter Tryz.func56, Tryz.ntmps56
 go_wp2_with (first
  | (go_at_call 50;(refine(HEX.out _ (by exact HS.out.st)).mono ?_);rintro e w2 ⟨a,rfl,ha,h2,hW2⟩;have HA2:=qh (ArgsIn.up HS.out ha);have HS2:=qh (HS.out.call h2 hW2);clear ha h2 hW2)
  | (refine zae rfl 39 (.tmp 63) (.tmp 61) rfl gt 4 (exC E a) rr rr 42 (stC (.mk k_wait at_ zR zE zE zE [] zR zR [] []) p0) (by exact HS2.out.e) hdEx (zau E a) (by show 4+5≤26;omega) ?_;intro w3 hb3 ho3;have HS3:Hid (LnS gp gs gt A n c ts w (.mk k_wait at_ zR E zE zE [] zR zR [] []) { p0 with a:=a } q w3):=HS2.out.put ho3 (by exact hb3) ⟨⟨HA2.out,HS2.out.ar.1.2⟩,HS2.out.ar.2⟩;clear hb3 ho3))
 go_end0
 exact⟨rfl,_,HS3.out⟩
end
end
end Go.Proofs.YtafjkbbiaopemaaGreatDoor.Tr
