/- Part of the proof. -/
import Derived.Great.BuildSlice
import Derived.Deep.DeepCutAuto
import Derived.Test.YtafjkbbiaopemaaGreatDoorBax10
set_option linter.all false
set_option maxRecDepth 100000
set_option maxHeartbeats 0
namespace Go.Proofs.YtafjkbbiaopemaaGreatDoor.Tr
open Go.RowKit
section
theorem Blk.five{w:World}{g:Nat}{t:TypeId}{a b c d e:Value}(h:Blk w g t [a,b,c,d,e]):w.cell? ⟨g,0,none⟩=some a∧w.cell? ⟨g,1,none⟩=some b∧w.cell? ⟨g,2,none⟩=some c∧w.cell? ⟨g,3,none⟩=some d∧w.cell? ⟨g,4,none⟩=some e :=
 ⟨h.cell 0,h.cell 1,h.cell 2,h.cell 3,h.cell 4⟩
theorem Blk.fro5{w:World}{g:Nat}{t:TypeId}{cs:List Value}(h:Blk w g t cs):w.frozen? ⟨g,0,none⟩=false∧w.frozen? ⟨g,1,none⟩=false∧w.frozen? ⟨g,2,none⟩=false∧w.frozen? ⟨g,3,none⟩=false∧w.frozen? ⟨g,4,none⟩=false :=
 ⟨h.frozen 0,h.frozen 1,h.frozen 2,h.frozen 3,h.frozen 4⟩
def Fr(B k:Nat):Prop:=B≤k
section
variable{B B':Nat}{w w':World}{A:Option Addr}{es:List Ex}
theorem zhe{L:List Nat}(hw:Wr L w w')(hL:∀g∈L,g<B)(hB:B'≤B):Keep (Fr B) (Fr B') w w':=hw.keep (Fr B) (Fr B') (fun k hk _ hm=>by have:=hL k hm;unfold Fr at hk;omega) (fun k hk _=>by unfold Fr at *;omega)
theorem zak{p:Addr}(hp:p.block<B)(v:Value):Keep (Fr B) (Fr B) w (w.setCell p v) :=
 ⟨by simp[World.setCell],fun k hk _=>Below.heap_setCell w p v k (by unfold Fr at hk;omega),fun _ h _=>h⟩
theorem zjb(o:Obj):Keep (Fr B) (Fr B) w (w.alloc o):=⟨((Below.refl w.heap.size w).alloc lr o).size,fun k _ hk=>Below.heap_alloc w o k hk,fun _ h _=>h⟩
theorem za0(hB:B'≤B):Keep (Fr B) (Fr B') w w:=⟨lr,fun _ _ _=>rfl,fun k hk _=>by unfold Fr at *;omega⟩
end
structure Q(d:Nat)(s:PS):Prop where
 p0:0≤s.pa
 p1:s.pa≤13
 d1:1≤d
 ok:s.ok=true→s.pa≤12∧14≤(d:Int)+s.pa
theorem Q.pg{d:Nat}{ts:List Lx.Tok}{s q:PS}(h:Q d s)(k:Pg ts s q):Q d q:=⟨by rw[k.pa];exact h.p0,by rw[k.pa];exact h.p1,h.d1,fun hq=>by rw[k.pa];exact h.ok (k.okof hq)⟩
def ExK(gp gs:Nat)(A:Option Addr)(n c:Nat)(ts:List Lx.Tok)(f:FuncId)(P:PS→Ex × PS)(R:PS→Prop):Prop :=
 ∀(s:PS) (w:World),PSt gp gs A n c ts s w→R s→Calls Tryz.prog f #[.pointer (some ⟨gp,0,none⟩)] w fun e w'=>∃a:Option Addr × Nat,e=.returned (.agg (exC (P s).1 a).toArray)∧ArgsIn (Fr w.heap.size) w' a.1 (P s).1.args∧PSt gp gs A n c ts (P s).2 w'∧Wr [gp,gs] w w'
theorem hdEx:(Tryz.prog.info? 39).map (·.size)=some 5:=by kernel_rfl
@[reducible] def zEc:List Value:=[.string zs,.int .i64 0,.string zs,.int .i64 0,.slice none 0 0]
section
variable{gp gs:Nat}{A:Option Addr}{n c:Nat}{ts:List Lx.Tok}{s:PS}{w w':World}
theorem zpp(cx:Cx gp gs A n ts)(h:PSt gp gs A n c ts s w):Calls Tryz.prog 23 #[.pointer (some ⟨gp,0,none⟩),.int .i64 1] w fun e w'=>e=.returned (.bool (kindIs ts 1 s))∧Below w.heap.size w w':=zgn cx h 1
theorem zpo(cx:Cx gp gs A n ts)(h:PSt gp gs A n c ts s w):Calls Tryz.prog 23 #[.pointer (some ⟨gp,0,none⟩),.int .i64 3] w fun e w'=>e=.returned (.bool (kindIs ts 3 s))∧Below w.heap.size w w':=zgn cx h 3
theorem zhd(cx:Cx gp gs A n ts)(h:PSt gp gs A n c ts s w):Calls Tryz.prog 23 #[.pointer (some ⟨gp,0,none⟩),.int .i64 4] w fun e w'=>e=.returned (.bool (kindIs ts 4 s))∧Below w.heap.size w w':=zgn cx h 4
theorem PSt.lo2(cx:Cx gp gs A n ts)(h:PSt gp gs A n c ts s w):∀g∈[gp,gs],g<w.heap.size:=by
 intro g hg;have h1:=h.lo cx;have h2:=h1.1;have h3:=h1.2.1;simp only[List.mem_cons,List.not_mem_nil,or_false]at hg;omega
theorem zn5{d:Nat}(cx:Cx gp gs A n ts)(h:Q (d+1) s)(hs:sees ts [m_lpar] s=true):Q d (openP ts s):=by
 have hg:=zgk cx.ends s;have hk:=h.ok (zag hs);have h0:=h.p0;have hpa:=hg.1;refine⟨by omega,by omega,by omega,fun ho=>?_⟩
 have h2:s.pa≠12:=by
  intro h3;have hx:(s.pa == 12)=true:=by simp[h3]
  unfold openP at ho
  simp only[hs,hx,if_true,Bool.and_self]at ho;have hk2:=zag hs;have hf:(failP ts 11 s).ok=false:=by unfold failP;rw[hk2];rfl
  have h4:=(zar cx.ends m_lpar (failP ts 11 s)).notok hf
  change (takeP ts m_lpar (failP ts 11 s)).ok=true at ho
  rw[h4]at ho
  cases ho
 omega
theorem zoh(cx:Cx gp gs A n ts)(d:Nat)(hex:ExK gp gs A n c ts 50 (exprP ts d) (Q d)):ExK gp gs A n c ts 84 (atomP ts (exprP ts d)) (Q (d+1)):=by
 intro s w h hq;have HK3:=qh (fun W (h:PSt gp gs A n c ts s W)=>zpo cx h);have HK1:=qh (fun W (h:PSt gp gs A n c ts s W)=>zpp cx h);have HS:=qh (fun W A1 (h:PSt gp gs A n c ts s W) (hl:Rd W A1 1 (strs [m_lpar]))=>zb1 cx h [m_lpar] A1 1 1 hl om);have HFA:=qh (fun W (h:PSt gp gs A n c ts s W)=>zgt cx h 9 (by decide));have HH:=qh (h.alloc (.cells #[.string { data:=#[] },.int .i64 0,.string { data:=#[] },.int .i64 0,.slice none 0 0] 39));have HE:Hid (Wr [gp,gs] w (w.alloc (.cells #[.string { data:=#[] },.int .i64 0,.string { data:=#[] },.int .i64 0,.slice none 0 0] 39))):=(Wr.refl _ _).alloc _;have HB:Hid (Blk (w.alloc (.cells #[.string { data:=#[] },.int .i64 0,.string { data:=#[] },.int .i64 0,.slice none 0 0] 39)) w.heap.size 39 zEc):=Blk.new' rfl rfl;have HLO:=qh (h.lo cx);have hpl:=h.par.lt;have hsl:=h.stm.1.lt;have c0:∀W,PSt gp gs A n c ts s W→W.cell? ⟨gp,0,none⟩=some (.pointer (some ⟨gs,0,none⟩)):=fun W h=>h.par.cell 0
 have HC0:=qh c0;clear c0
 cases hk3:kindIs ts 3 s
 · rw[hk3]at HK3
   cases hk1:kindIs ts 1 s
   · rw[hk1]at HK1
     cases hk:sees ts [m_lpar] s
     · rw[hk]at HS
       have HR:Hid (atomP ts (exprP ts d) s=(zE,failP ts 9 s)):=(by show _=_;unfold atomP;rw[hk3,hk1,hk];rfl);rw[HR.out];clear h hk hk1 hk3 hq hex
       go_enter Tryz.func84, Tryz.ntmps84
       go_wp2_with (first
        | (go_at_call 23;(with_reducible refine(HK3.out _ (by exact HH.out)).mono ?_);rintro e w2 ⟨rfl,hB2⟩;have H2:=qh (HH.out.below hB2);have HE2:=qh (HE.out.trans (Wr.of_below hB2));have HB2:=qbl HB hB2;clear hB2)
        | (go_at_call 23;(with_reducible refine(HK1.out _ (by exact H2.out)).mono ?_);rintro e w3 ⟨rfl,hB3⟩;have H3:=qh (H2.out.below hB3);have HE3:=qh (HE2.out.trans (Wr.of_below hB3));have HB3:=qbl HB2 hB3;clear hB3)
        | (go_at_call 20;(refine(HS.out _ _ (by exact H3.out.alloc _) (by exact Rd.new1' rfl)).mono ?_);rintro e w4 ⟨rfl,hB4⟩;have H4:=qh ((H3.out.alloc _).below hB4);have HE4:=qh ((HE3.out.alloc _).trans (Wr.of_below hB4));have HB4:=qh ((HB3.out.alloc _).below hB4 (HB3.out.alloc _).lt);clear hB4)
        | (go_at_call 54;(refine(HFA.out _ (by exact H4.out)).mono ?_);rintro e w5 ⟨rfl,h5,hW5⟩;have H5:=qh h5;have HE5:=qh (HE4.out.trans (hW5.mono sy));have HB5:Hid (Blk w5 w.heap.size 39 zEc):=(hW5.block _ HB4.out.lt (by simp;omega)).trans HB4.out;obtain⟨z0,z1,z2,z3,z4⟩:=Blk.five HB5.out;obtain⟨f0,f1,f2,f3,f4⟩:=Blk.fro5 HB5.out;clear h5 hW5))
       refine bodyPost_ret (res_c rfl _ w.heap.size 39 (exC zE (none,0)) rfl (by exact((((HB5.out.set_ 0 _).set_ 1 _).set_ 2 _).set_ 3 _).set_ 4 _) _ Tryz.underlying39 rfl hdEx) rfl ⟨(none,0),rfl,ArgsIn.nil _ _ _,?_,?_⟩
       · exact((((H5.out.setNew HLO.out lr _).setNew HLO.out lr _).setNew HLO.out lr _).setNew HLO.out lr _).setNew HLO.out lr _
       · exact((((HE5.out.setNew lr _).setNew lr _).setNew lr _).setNew lr _).setNew lr _
     · rw[hk]at HS
       have HR:Hid (atomP ts (exprP ts d) s=((exprP ts d (openP ts s)).1,shutP ts (exprP ts d (openP ts s)).2)):=(by show _=_;unfold atomP;rw[hk3,hk1,hk];rfl);rw[HR.out];have hq2:=zn5 cx hq hk;have hgo:=zgk cx.ends s;have hpa:0≤s.pa∧s.pa≤100:=⟨hq.p0,by have:=hq.p1;omega⟩
       have hpb:0≤(exprP ts d (openP ts s)).2.pa∧(exprP ts d (openP ts s)).2.pa≤100:=by
        have h5:=(zaw cx.ends d (openP ts s)).pa;rw[h5,hgo.1];have:=hq.p1;omega
       have HOP:=qh (fun W (h:PSt gp gs A n c ts s W)=>zn4 cx h hpa);have HEX:=qh (fun W (h:PSt gp gs A n c ts (openP ts s) W)=>hex (openP ts s) W h hq2);have HSH:=qh (fun W (h:PSt gp gs A n c ts (exprP ts d (openP ts s)).2 W)=>znz cx h hpb);clear h hk hk1 hk3 hq hex hq2 hgo hpa hpb HR;generalize (exprP ts d (openP ts s)).1=E at *;generalize (exprP ts d (openP ts s)).2=q at *
       unfold exC at HEX
       go_enter Tryz.func84, Tryz.ntmps84
       go_wp2_with (first
        | (go_at_call 23;(with_reducible refine(HK3.out _ (by exact HH.out)).mono ?_);rintro e w2 ⟨rfl,hB2⟩;have H2:=qh (HH.out.below hB2);have HE2:=qh (HE.out.trans (Wr.of_below hB2));have HB2:=qbl HB hB2;have c2:=HC0.out _ H2.out;clear hB2)
        | (go_at_call 23;(with_reducible refine(HK1.out _ (by exact H2.out)).mono ?_);rintro e w3 ⟨rfl,hB3⟩;have H3:=qh (H2.out.below hB3);have HE3:=qh (HE2.out.trans (Wr.of_below hB3));have HB3:=qbl HB2 hB3;have c3:=HC0.out _ H3.out;clear hB3)
        | (go_at_call 20;(refine(HS.out _ _ (by exact H3.out.alloc _) (by exact Rd.new1' rfl)).mono ?_);rintro e w4 ⟨rfl,hB4⟩;have H4:=qh ((H3.out.alloc _).below hB4);have HE4:=qh ((HE3.out.alloc _).trans (Wr.of_below hB4));have HB4:=qh ((HB3.out.alloc _).below hB4 (HB3.out.alloc _).lt);clear hB4)
        | (go_at_call 112;(refine(HOP.out _ (by exact H4.out)).mono ?_);rintro e w5 ⟨rfl,h5,hW5⟩;have H5:=qh h5;have HE5:=qh (HE4.out.trans hW5);have HB5:Hid (Blk w5 w.heap.size 39 zEc):=Blk.wr HB4.out hW5 HLO.out lr;clear h5 hW5)
        | (go_at_call 50;(refine(HEX.out _ (by exact H5.out)).mono ?_);rintro e w6 ⟨⟨a1,a2⟩,rfl,ha6,h6,hW6⟩;have HA6:=qh ha6;have H6:=qh h6;have HE6:=qh (HE5.out.trans hW6);have HB6:Hid (Blk w6 w.heap.size 39 zEc):=Blk.wr HB5.out hW6 HLO.out lr;clear ha6 h6 hW6)
        | (go_at_call 113;(refine(HSH.out _ (by exact H6.out.alloc _)).mono ?_);rintro e w7 ⟨rfl,h7,hW7⟩;have H7:=qh h7;have HE7:=qh ((HE6.out.alloc _).trans hW7);have HL6:=H6.out.lo cx;have HB7:Hid (Blk w7 w.heap.size 39 zEc):=Blk.wr (HB6.out.alloc _) hW7 HLO.out lr;have HN7:Hid (Blk w7 w6.heap.size 39 [.string E.op,.int .i64 E.num,.string E.text,.int .i64 E.at_,.slice a1 E.args.length a2]):=Blk.wr (Blk.new' rfl rfl) hW7 HL6 lr;have HA7:Hid (ArgsIn (Fr w5.heap.size) w7 a1 E.args):=(HA6.out.keep (zjb _)).keep (zhe hW7 (H5.out.lo2 cx) lr);obtain⟨n0,n1,n2,n3,n4⟩:=Blk.five HN7.out;obtain⟨z0,z1,z2,z3,z4⟩:=Blk.five HB7.out;obtain⟨f0,f1,f2,f3,f4⟩:=Blk.fro5 HB7.out;clear h7 hW7 HL6))
       have hlt5:w.heap.size<w5.heap.size:=HB5.out.lt;refine bodyPost_ret (res_c rfl _ w.heap.size 39 (exC E (a1,a2)) rfl (by exact((((HB7.out.set_ 0 _).set_ 1 _).set_ 2 _).set_ 3 _).set_ 4 _) _ Tryz.underlying39 rfl hdEx) rfl ⟨(a1,a2),rfl,?_,?_,?_⟩
       · exact(((((HA7.out.keep (zak hlt5 _)).keep (zak hlt5 _)).keep (zak hlt5 _)).keep (zak hlt5 _)).keep (zak hlt5 _)).keep (za0 (Nat.le_of_lt hlt5))
       · exact((((H7.out.setNew HLO.out lr _).setNew HLO.out lr _).setNew HLO.out lr _).setNew HLO.out lr _).setNew HLO.out lr _
       · exact((((HE7.out.setNew lr _).setNew lr _).setNew lr _).setNew lr _).setNew lr _
   · have hk6:(tokAt ts s.i).kind≠6:=by
      have hk:=hk1
      unfold kindIs pk at hk
      simp only[Bool.and_eq_true,decide_eq_true_eq]at hk;omega
     have HNX:=qh (fun W (h:PSt gp gs A n c ts s W)=>zcc cx h hk6);have HR:Hid (atomP ts (exprP ts d) s=(.mk k_name 0 (bytesOf (pk ts s).text) ((pk ts s).at_:Int) [],nxt s)):=(by show _=_;unfold atomP;rw[hk3,hk1];rfl);rw[HR.out];rw[hk1]at HK1;clear h hk3 hk1 hk6 hq hex HR
     unfold pk
     generalize tokAt ts s.i=t at *
     unfold tokCells at HNX
     go_enter Tryz.func84, Tryz.ntmps84
     go_wp2_with (first
      | (go_at_call 23;(with_reducible refine(HK3.out _ (by exact HH.out)).mono ?_);rintro e w2 ⟨rfl,hB2⟩;have H2:=qh (HH.out.below hB2);have HE2:=qh (HE.out.trans (Wr.of_below hB2));have HB2:=qbl HB hB2;have c2:=HC0.out _ H2.out;clear hB2)
      | (go_at_call 23;(with_reducible refine(HK1.out _ (by exact H2.out)).mono ?_);rintro e w3 ⟨rfl,hB3⟩;have H3:=qh (H2.out.below hB3);have HE3:=qh (HE2.out.trans (Wr.of_below hB3));have HB3:=qbl HB2 hB3;have c3:=HC0.out _ H3.out;clear hB3)
      | (go_at_call 47;(refine(HNX.out _ (by exact H3.out)).mono ?_);rintro e w4 ⟨rfl,h4,hW4⟩;have H4:=qh h4;have HE4:=qh (HE3.out.trans hW4);have HB4:Hid (Blk w4 w.heap.size 39 zEc):=Blk.wr HB3.out hW4 HLO.out lr;obtain⟨z0,z1,z2,z3,z4⟩:=Blk.five HB4.out;obtain⟨f0,f1,f2,f3,f4⟩:=Blk.fro5 HB4.out;have hz4:w.heap.size<w4.heap.size:=HB4.out.lt;clear h4 hW4))
     refine bodyPost_ret (res_c rfl _ w.heap.size 39 (exC (.mk k_name 0 (bytesOf t.text) (t.at_:Int) []) (none,0)) rfl (by exact(((((HB4.out.set_ 0 _).set_ 1 _).set_ 2 _).set_ 3 _).set_ 4 _).alloc _) _ Tryz.underlying39 rfl hdEx) rfl ⟨(none,0),rfl,ArgsIn.nil _ _ _,?_,?_⟩
     · exact(((((H4.out.setNew HLO.out lr _).setNew HLO.out lr _).setNew HLO.out lr _).setNew HLO.out lr _).setNew HLO.out lr _).alloc _
     · exact(((((HE4.out.setNew lr _).setNew lr _).setNew lr _).setNew lr _).setNew lr _).alloc _
 · have hk6:(tokAt ts s.i).kind≠6:=by
    have hk:=hk3
    unfold kindIs pk at hk
    simp only[Bool.and_eq_true,decide_eq_true_eq]at hk;omega
   have HNX:=qh (fun W (h:PSt gp gs A n c ts s W)=>zcc cx h hk6);have HR:Hid (atomP ts (exprP ts d) s=(.mk k_number ((pk ts s).num:Int) zs ((pk ts s).at_:Int) [],nxt s)):=(by show _=_;unfold atomP;rw[hk3];rfl);rw[HR.out];rw[hk3]at HK3;clear h hk3 hk6 hq hex HR
   unfold pk
   generalize tokAt ts s.i=t at *
   unfold tokCells at HNX
   go_enter Tryz.func84, Tryz.ntmps84
   go_wp2_with (first
    | (go_at_call 23;(with_reducible refine(HK3.out _ (by exact HH.out)).mono ?_);rintro e w2 ⟨rfl,hB2⟩;have H2:=qh (HH.out.below hB2);have HE2:=qh (HE.out.trans (Wr.of_below hB2));have HB2:=qbl HB hB2;have c2:=HC0.out _ H2.out;clear hB2)
    | (go_at_call 47;(refine(HNX.out _ (by exact H2.out)).mono ?_);rintro e w4 ⟨rfl,h4,hW4⟩;have H4:=qh h4;have HE4:=qh (HE2.out.trans hW4);have HB4:Hid (Blk w4 w.heap.size 39 zEc):=Blk.wr HB2.out hW4 HLO.out lr;obtain⟨z0,z1,z2,z3,z4⟩:=Blk.five HB4.out;obtain⟨f0,f1,f2,f3,f4⟩:=Blk.fro5 HB4.out;have hz4:w.heap.size<w4.heap.size:=HB4.out.lt;clear h4 hW4))
   refine bodyPost_ret (res_c rfl _ w.heap.size 39 (exC (.mk k_number (t.num:Int) zs (t.at_:Int) []) (none,0)) rfl (by exact(((((HB4.out.set_ 0 _).set_ 1 _).set_ 2 _).set_ 3 _).set_ 4 _).alloc _) _ Tryz.underlying39 rfl hdEx) rfl ⟨(none,0),rfl,ArgsIn.nil _ _ _,?_,?_⟩
   · exact(((((H4.out.setNew HLO.out lr _).setNew HLO.out lr _).setNew HLO.out lr _).setNew HLO.out lr _).setNew HLO.out lr _).alloc _
   · exact(((((HE4.out.setNew lr _).setNew lr _).setNew lr _).setNew lr _).setNew lr _).alloc _
end
end
end Go.Proofs.YtafjkbbiaopemaaGreatDoor.Tr
namespace Go.Proofs.YtafjkbbiaopemaaGreatDoor
open Go.RowKit
section
section
variable{P:Program}{w:World}{o:Oper}{a:Act}{K:Act→World→Prop}{Q:Exit→Act→World→Prop}
end
section
variable{P:Program}{ops:Array Oper}{Q:Exit→Act→World→Prop}{md:Region.Mode}{T:World→Prop}{k:Nat}
theorem AnyK.storeAt{fuel:Nat}{listed:Array Bool}{a:Act}{w:World}(i:Nat){oi:Oper}{t:TypeId}{x y:Operand}(g off:Nat)(cs:List Value)(t':TypeId)(Z Z':List Value)(hi:ops[i]? = some oi)(hid:oi.dst=none)(hg:oi.guard=none)(ho:oi.op=.store t x y)(hr:Region.ready md ops listed=[i])
 (hx:a.eval x=.pointer (some ⟨g,off,none⟩)) (hy:a.eval y=.agg cs.toArray) (hb:Blk w g t' Z) (hsz:(P.info? t).map (·.size)=some cs.length) (hone:∀v∈cs,v.oneCell'=true) (hlen:off+cs.length≤Z.length) (hZ:splice Z off cs=Z')
 (hT:∀w',Blk w' g t' Z'→Only w w' g→(listed.setIfInBounds i true).getD k true=false→T w')
 (h:∀w',Blk w' g t' Z'→Only w w' g→AnyK P md ops Q k T fuel (listed.setIfInBounds i true) (a.put none undef) w'):AnyK P md ops Q k T (fuel+1) listed a w:=by
 subst hZ;refine AnyK.one i hi hr hg ?_;refine zdi t x y ho g off cs hx hy t' Z hb hsz hone om ?_;intro w' hb' ho';rw[hid];exact⟨hT w' hb' ho',h w' hb' ho'⟩
theorem AnyK.main{fuel:Nat}{listed:Array Bool}{a:Act}{w:World}(i:Nat){oi:Oper}(hi:ops[i]? = some oi)(hr:Region.ready md ops listed=[i])(hg:oi.guard=none)
 (h:∀K:Act→World→Prop,(∀a' w',((listed.setIfInBounds i true).getD k true=false→T w')∧AnyK P md ops Q k T fuel (listed.setIfInBounds i true) a' w'→K a' w')→oi.wp P a w K Q):AnyK P md ops Q k T (fuel+1) listed a w :=
 AnyK.one i hi hr hg (h _ fun _ _ h=>h)
end
section
variable{P:Program}{w:World}{o:Oper}{a:Act}
theorem zoc(t e:TypeId)(x y:Operand)(ho:o.op=.buildSlice t 2 #[(0,x),(1,y)])(cs ds:List Value)(hx:a.eval x=.agg cs.toArray)(hy:a.eval y=.agg ds.toArray)(hu:P.underlying t=some (.slice e))(hi:(P.info? e).map (fun i=>((i.zero.map (fun z=>z.cells.size)),i.size))=some (some cs.length,cs.length))(hl:ds.length=cs.length)(hpos:0<cs.length)(hsm:cs.length≤1000000):
 (execOp a.eval o).run P w=.ok (.value (.slice (some ⟨w.heap.size,0,none⟩) 2 2)) (w.alloc (.cells (cs++ds).toArray e)):=by
 cases hie:P.info? e with
 | none=>simp[hie]at hi
 | some ie =>
  cases hz:ie.zero with
  | none=>simp[hie,hz]at hi
  | some z =>
   simp only[hie,hz,Option.map_some,Option.some.injEq,Prod.mk.injEq]at hi;have h1:(#[(0,x),(1,y)].map fun(p:Nat × Operand)=>(p.1,a.eval p.2)).toList=[(0,.agg cs.toArray),(1,.agg ds.toArray)]:=by simp[hx,hy]
   have h2:∃Z:List Value,((Array.range (2*ie.size)).map (z.cells[· % z.cells.size]!))=Z.toArray∧Z.length=cs.length+ds.length:=⟨((Array.range (2*ie.size)).map (z.cells[· % z.cells.size]!)).toList,Array.toArray_toList.symm,by simp[hi.2];omega⟩;obtain⟨Z,hZ,hZl⟩:=h2
   have hfill:Instr.fill (fun i=>some (i*ie.size,ie.size)) ((Array.range (2*ie.size)).map (z.cells[· % z.cells.size]!)) (#[(0,x),(1,y)].map fun(p:Nat × Operand)=>(p.1,a.eval p.2)).toList=some (cs++ds).toArray:=by
    rw[h1,hZ,zew (cs:=cs) (off:=0) rfl (by simp[hi.2]) om,zew (cs:=ds) (off:=cs.length) rfl (by simp[hi.2,hl]) (by simp[splice];omega),zio Z cs ds cs.length rfl hZl]
    rfl
   have h:=run_buildSlice (P:=P) w t e 2 (#[(0,x),(1,y)].map fun(p:Nat × Operand)=>(p.1,a.eval p.2)) (cs++ds).toArray ie z hu hie hz (by rw[hi.2];omega) (by rw[hi.2];omega) hfill
   unfold execOp
   simp only[ho];simp only[Sem.run_bind,h,Result.andThen_ok]
   rfl
end
section
variable{P:Program}{w:World}{o:Oper}{a:Act}
theorem zah{t:TypeId}{x:Operand}{p:Addr}{v:Value}(ho:o.op=.load t x)(hx:a.eval x=.pointer (some p))(hn:∀w,(isAgg t).run P w=.ok false w)(hc:w.cell? p=some v):(execOp a.eval o).run P w=.ok (.value v) w:=by
 unfold execOp
 simp[ho,hx,Instr.loadAt,Instr.sureAddr,loadVar,hn,hc]
theorem zh9{t:TypeId}{x:Operand}{p v:Value}(ho:o.op=.load t x)(hx:a.eval x=p)(hr:(Instr.loadAt t p).run P w=.ok v w):(execOp a.eval o).run P w=.ok (.value v) w:=by
 unfold execOp
 simp[ho,hx,hr]
end
theorem zod{P:Program}{o:Oper}{a:Act}{w:World}(t:TypeId)(parts:List (Nat × Operand))(ho:o.op=.build t parts.toArray)(parts':List (Nat × Value))(he:parts.map (fun p=>(p.1,a.eval p.2))=parts'){v:Value}(hrun:(Instr.build t parts'.toArray).run P w=.ok v w):(execOp a.eval o).run P w=.ok (.value v) w:=by
 unfold execOp
 simp only[ho,Sem.run_bind,List.map_toArray,he,hrun,Sem.run_pure,Result.andThen_ok]
end
end Go.Proofs.YtafjkbbiaopemaaGreatDoor
namespace Go.Proofs.YtafjkbbiaopemaaGreatDoor.Tr
open Go.RowKit
section
def Fx(B g k:Nat):Prop:=B<k∧k≠g
theorem zgo{B g:Nat}{w w':World}(h:Only w w' g):Keep (Fx B g) (Fx B g) w w' :=
 ⟨by rw[h.size];exact lr,fun k hk hlt=>h.grown.block k hlt (fun e=>hk.2 (by injection e)),fun _ h _=>h⟩
theorem zkz{B B' g:Nat}{w:World}(hB:B<B')(hg:g<B'):Keep (Fr B') (Fx B g) w w:=⟨lr,fun _ _ _=>rfl,fun k hk _=>⟨by unfold Fr at hk;omega,by unfold Fr at hk;omega⟩⟩
theorem zh6{B B' g:Nat}{w:World}(hB:B<B')(hg:g=w.heap.size):Keep (Fr B') (Fx B g) w w:=⟨lr,fun _ _ _=>rfl,fun k hk hlt=>⟨by unfold Fr at hk;omega,by omega⟩⟩
theorem zet{B g:Nat}{L:List Nat}{w w':World}(hw:Wr L w w')(hL:∀x∈L,x≤B):Keep (Fx B g) (Fx B g) w w':=hw.keep _ _ (fun k hk _ hm=>by have h1:=hL k hm;have h2:=hk.1;omega) (fun _ h _=>h)
theorem zdo{B g:Nat}{w:World}(o:Obj):Keep (Fx B g) (Fx B g) w (w.alloc o):=⟨((Below.refl w.heap.size w).alloc lr o).size,fun k _ hk=>Below.heap_alloc w o k hk,fun _ h _=>h⟩
theorem zaq{B g:Nat}{w:World}{o:Nat}{x:Option _}(v:Value):Keep (Fx B g) (Fx B g) w (w.setCell ⟨B,o,x⟩ v) :=
 ⟨by simp[World.setCell],fun k hk _=>Below.heap_setCell w ⟨B,o,x⟩ v k (by have:=hk.1;show k≠B;omega),fun _ h _=>h⟩
theorem zcw{B g:Nat}{w:World}: Keep (Fx B g) (Fr B) w w:=⟨lr,fun _ _ _=>rfl,fun k hk _=>by have:=hk.1;unfold Fr;omega⟩
theorem zcz(e:Ex)(a:Option Addr × Nat):(exC e a).length=5:=rfl
theorem zau(e:Ex)(a:Option Addr × Nat):∀v∈exC e a,v.oneCell'=true:=by intro v hv;simp only[exC,List.mem_cons,List.not_mem_nil,or_false]at hv;rcases hv with rfl|rfl|rfl|rfl|rfl <;> rfl
theorem ArgsIn.two{F:Nat→Prop}{w:World}{g:Nat}{t:TypeId}{e x:Ex}{a y:Option Addr × Nat}(hb:Blk w g t (exC e a++exC x y))(hF:F g)(h1:ArgsIn F w a.1 e.args)(h2:ArgsIn F w y.1 x.args):ArgsIn F w (some ⟨g,0,none⟩) [e,x]:=by
 refine .mk _ _ [a,y] rfl ⟨⟨rfl,fun _=>⟨g,0,rfl,hb.lt,fun j u hu=>?_⟩⟩,fun _ ad e=>by injection e with e;subst e;exact⟨hF,trivial⟩⟩ ?_
 · rw[Nat.zero_add,hb.cell]
   simpa[zipC] using hu
 · intro i e' a' he ha
   match i with
   | 0=>simp at he ha;subst he;subst ha;exact h1
   | 1=>simp at he ha;subst he;subst ha;exact h2
   | k+2=>simp at he
structure TmS(gp gs:Nat)(A:Option Addr)(n c:Nat)(ts:List Lx.Tok)(w0:World)(g:Nat)(E:Ex)(q:PS)(a:Option Addr × Nat)(w:World):Prop where
 st:PSt gp gs A n c ts q w
 wr:Wr [gp,gs] w0 w
 z:Blk w w0.heap.size 39 zEc
 e:Blk w g 39 (exC E a)
 ar:ArgsIn (Fx w0.heap.size g) w a.1 E.args
 lt:w0.heap.size<g
 lo:PLo gp gs A w0.heap.size
section
variable{gp gs:Nat}{A:Option Addr}{n c:Nat}{ts:List Lx.Tok}{s q q':PS}{w w' w0:World}{g:Nat}{E:Ex}{a:Option Addr × Nat}
theorem PLo.all{B:Nat}(h:PLo gp gs A B):∀x∈[gp,gs],x≤B:=by
 intro x hx;have h2:=h.1;have h3:=h.2.1;simp only[List.mem_cons,List.not_mem_nil,or_false]at hx;omega
theorem PLo.mono{B B':Nat}(h:PLo gp gs A B)(hB:B≤B'):PLo gp gs A B':=⟨Nat.lt_of_lt_of_le h.1 hB,Nat.lt_of_lt_of_le h.2.1 hB,fun ad e=>Nat.lt_of_lt_of_le (h.2.2 ad e) hB⟩
theorem TmS.call(h:TmS gp gs A n c ts w0 g E q a w)(hs:PSt gp gs A n c ts q' w')(hW:Wr [gp,gs] w w'):TmS gp gs A n c ts w0 g E q' a w' :=
 ⟨hs,h.wr.trans hW,Blk.wr h.z hW h.lo lr,Blk.wr h.e hW (h.lo.mono (Nat.le_of_lt h.lt)) lr,h.ar.keep (zet hW h.lo.all),h.lt,h.lo⟩
theorem TmS.ld(h:TmS gp gs A n c ts w0 g E q a w){w2:World}(hb:Blk w2 g 39 (exC E a)):(ldAt 39 (.pointer (some ⟨g,0,none⟩))).run Tryz.prog w2=.ok (.agg (exC E a).toArray) w2:=zbg hb 39 0 (exC E a) rfl _ Tryz.underlying39 rfl hdEx
theorem RdS.only{sz:Nat}{xs:List Value}(h:RdS sz w A n xs)(hw:Only w w' g)(hb:∀ad:Addr,A=some ad→ad.block≠g):RdS sz w' A n xs :=
 ⟨h.1,fun hn=>by
  obtain⟨b,off,rfl,hbl,hc⟩:=h.2 hn
  exact⟨b,off,rfl,by rw[hw.size];exact hbl,fun j u hu=>(World.cell?_of_block (a:=⟨b,off+j,none⟩) (hw.grown.block b hbl (fun e=>hb _ rfl (by injection e)))).trans (hc j u hu)⟩⟩
theorem PSt.only{B:Nat}(h:PSt gp gs A n c ts s w)(hl:PLo gp gs A B)(hg:B≤g)(ho:Only w w' g):PSt gp gs A n c ts s w' :=
 ⟨ho.blk h.par (by have:=hl.1;omega),⟨ho.blk h.stm.1 (by have:=hl.2.1;omega),RdS.only h.stm.2 ho (fun ad e=>by have:=hl.2.2 ad e;omega)⟩,h.z,h.lt⟩
theorem Wr.thenb{L:List Nat}(h:Wr L w0 w)(hb:Below w0.heap.size w w'):Wr L w0 w' :=
 ⟨hb.os.trans h.os,hb.tape.trans h.tape,hb.output.trans h.output,Nat.le_trans h.size hb.size,fun k hk hL=>(hb.block k hk).trans (h.block k hk hL)⟩
theorem TmS.grow{X:Ex}{y:Option Addr × Nat}{op:ByteArray}{at_:Int}(h:TmS gp gs A n c ts w0 g E q a w)(hy:ArgsIn (Fx w0.heap.size g) w y.1 X.args)
 (hb:Blk w' g 39 (exC (.mk op 0 zs at_ [E,X]) (some ⟨w.heap.size,0,none⟩,2))) (ho:Only (w.alloc (.cells (exC E a++exC X y).toArray 39)) w' g):
 TmS gp gs A n c ts w0 g (.mk op 0 zs at_ [E,X]) q (some ⟨w.heap.size,0,none⟩,2) w':=by
 have hlt:=h.e.lt;have hlt2:=h.lt;refine⟨(h.st.alloc _).only h.lo (Nat.le_of_lt h.lt) ho,(h.wr.alloc _).thenb (ho.below (Below.refl _ _) (Nat.le_of_lt h.lt) (h.wr.alloc _).size),ho.blk (h.z.alloc _) om,hb,?_,h.lt,h.lo⟩;have hn:Blk w' w.heap.size 39 (exC E a++exC X y):=ho.blk (Blk.new w _ _) om;exact ArgsIn.two hn ⟨by omega,by omega⟩ ((h.ar.keep (zdo _)).keep (zgo ho)) ((hy.keep (zdo _)).keep (zgo ho))
theorem agIn(w:World):(isAgg 3).run Tryz.prog w=.ok false w:=by kernel_rfl
theorem term_c(cx:Cx gp gs A n ts)(ex:PS→Ex × PS)(d:Nat)(hf:ExK gp gs A n c ts 111 (factorP ts ex) (Q d))(hg:∀s,Pg ts s (factorP ts ex s).2):ExK gp gs A n c ts 83 (termP ts ex) (Q d):=by
 intro s w h hq;have HF:=qh (fun s W (h:PSt gp gs A n c ts s W) hq=>hf s W h hq);have HA:=qh (fun q W (h:PSt gp gs A n c ts q W)=>zda cx h m_star);have HH:=qh (h.alloc (.cells #[.string { data:=#[] },.int .i64 0,.string { data:=#[] },.int .i64 0,.slice none 0 0] 39));have HE:Hid (Wr [gp,gs] w (w.alloc (.cells #[.string { data:=#[] },.int .i64 0,.string { data:=#[] },.int .i64 0,.slice none 0 0] 39))):=(Wr.refl _ _).alloc _;have HB:Hid (Blk (w.alloc (.cells #[.string { data:=#[] },.int .i64 0,.string { data:=#[] },.int .i64 0,.slice none 0 0] 39)) w.heap.size 39 zEc):=Blk.new' rfl rfl;have HLO:=qh (h.lo cx);have HQ:=qh hq;have HQ1:=qh (hq.pg (hg s));have HT:Hid (termP ts ex s=termLoop ts ex (ts.length+1) (factorP ts ex s).1 (factorP ts ex s).2):=rfl;rw[HT.out];have HF1:=qh (HF.out s _ HH.out hq);clear h hq HT;generalize (factorP ts ex s).1=E1 at *;generalize (factorP ts ex s).2=q1 at *;generalize hR:termLoop ts ex (ts.length+1) E1 q1=R at *;have HR:=qh hR;clear hR
 unfold exC at HF1
 go_enter Tryz.func83, Tryz.ntmps83
 go_wp2_with (go_at_call 111;(refine(HF1.out).mono ?_);rintro e w1 ⟨a1,rfl,ha1,h1,hW1⟩;have HS1:Hid (TmS gp gs A n c ts w w1.heap.size E1 q1 a1 (w1.alloc (.cells (exC E1 a1).toArray 39))):=⟨h1.alloc _,(HE.out.trans hW1).alloc _,(Blk.wr HB.out hW1 HLO.out lr).alloc _,Blk.new' rfl rfl,(ha1.keep (zh6 HB.out.lt rfl)).keep (zdo _),(Blk.wr HB.out hW1 HLO.out lr).lt,HLO.out⟩;clear ha1 h1 hW1)
 have hzl:w.heap.size<w1.heap.size:=HS1.out.lt;have HTL:=qh (fun(kk:Nat) (E:Ex) (q:PS)=>(⟨fun h=>(by rw[termLoop,if_neg (by rw[h];simp)]),fun h=>(by rw[termLoop,if_pos h])⟩:(sees ts [m_star] q=false→termLoop ts ex (kk+1) E q=(E,q))∧(sees ts [m_star] q=true→termLoop ts ex (kk+1) E q=termLoop ts ex kk (.mk m_star 0 zs E.at_ [E,(factorP ts ex (nxt q)).1]) (factorP ts ex (nxt q)).2)));clear HH HE HB HF1
 go_loopg [] ts.length (fun kk wr=>∃(E:Ex) (q:PS) (a:Option Addr × Nat),TmS gp gs A n c ts w w1.heap.size E q a wr∧ts.length≤kk+q.i∧termLoop ts ex (kk+1) E q=R∧Q d q)
 case atStart=>exact⟨E1,q1,a1,HS1.out,by omega,HR.out,HQ1.out⟩
 case round =>
  clear HS1 HR HQ1 HQ;obtain⟨E,q,a,hS,hk,hT,hQ⟩:=hrel
  cases hs:sees ts [m_star] q
  · have HS:=qh hS
    have HAL:=HA.out q _ hS.st;have HRR:Hid (R=(E,q)):=hT.symm.trans ((HTL.out gk E q).1 hs);have HAP:Hid (alsoP ts m_star q=q):=(by show _=_;unfold alsoP;rw[hs];rfl);rw[hs,HAP.out]at HAL;have HALL:=qh HAL;clear hS hk hT hQ hs HAL HTL
    go_wp2_with (go_at_call 52;(refine(HALL.out).mono ?_);rintro e w2 ⟨rfl,h2,hW2⟩;have HS2:=qh (HS.out.call h2 hW2);have he2:=HS2.out.e;obtain⟨n0,n1,n2,n3,n4⟩:=Blk.five he2;obtain⟨z0,z1,z2,z3,z4⟩:=Blk.five HS2.out.z;obtain⟨f0,f1,f2,f3,f4⟩:=Blk.fro5 HS2.out.z;clear h2 hW2 he2)
    refine bodyPost_ret (res_c rfl _ w.heap.size 39 (exC E a) rfl (by exact((((HS2.out.z.set_ 0 _).set_ 1 _).set_ 2 _).set_ 3 _).set_ 4 _) _ Tryz.underlying39 rfl hdEx) rfl ?_;rw[HRR.out];refine⟨a,rfl,?_,?_,?_⟩
    · exact(((((HS2.out.ar.keep (zaq _)).keep (zaq _)).keep (zaq _)).keep (zaq _)).keep (zaq _)).keep zcw
    · exact((((HS2.out.st.setNew HLO.out lr _).setNew HLO.out lr _).setNew HLO.out lr _).setNew HLO.out lr _).setNew HLO.out lr _
    · exact((((HS2.out.wr.setNew lr _).setNew lr _).setNew lr _).setNew lr _).setNew lr _
  · have HS:=qh hS
    have HAL:=HA.out q _ hS.st;have hlt:=zam cx.ends hs;have HAP:Hid (alsoP ts m_star q=nxt q):=(by show _=_;unfold alsoP;rw[hs];rfl);rw[hs,HAP.out]at HAL;have HALL:=qh HAL;have hQ2:Q d (nxt q):=hQ.pg (nxt_g hlt (zag hs));have HFX:=qh (fun W (h:PSt gp gs A n c ts (nxt q) W)=>HF.out (nxt q) W h hQ2);have HQ3:=qh (hQ2.pg (hg (nxt q)));have HI3:Hid (q.i+1≤(factorP ts ex (nxt q)).2.i):=(hg (nxt q)).le;have HT2:=qh (((HTL.out gk E q).2 hs).symm.trans hT);have HKL:=qh (And.intro hk hlt);clear hS hk hT hQ hs HAL HTL hlt hQ2;generalize (factorP ts ex (nxt q)).1=X at *;generalize (factorP ts ex (nxt q)).2=q3 at *
    go_wp2_with (go_at_call 52;(refine(HALL.out).mono ?_);rintro e w2 ⟨rfl,h2,hW2⟩;have HS2:=qh (HS.out.call h2 hW2);clear h2 hW2)
    have HB0:Hid (Blk w2.drew w1.heap.size 39 (exC E a)):=HS2.out.e.drew;refine kgo kr 7 (fun W'=>Blk W' w1.heap.size 39 (exC E a)) HB0.out (fun _ _ _ _ _ h=>h) ?_;refine kp 0 (.pointer (some ⟨w1.heap.size,3,none⟩)) rfl kr (fun _=>kr) ?_;refine kl 1 (.int .i64 E.at_) rfl kr (fun w' hw'=>zah (t:=3) (x:=.tmp 8) rr kr agIn (hw'.cell 3)) ?_;refine kl 2 (.agg (exC E a).toArray) rfl kr (fun w' hw'=>zh9 (x:=.tmp 3) rr kr (HS2.out.ld hw')) ?_;refine kp 3 (.pointer (some ⟨gp,0,none⟩)) rfl kr (fun _=>kr) ?_;intro q8 q9;clear q8 q9;have HD2:Hid (TmS gp gs A n c ts w w1.heap.size E (nxt q) a w2.drew):=HS2.out.call (HS2.out.st.below ((Below.refl _ _).drew)) (Wr.of_below ((Below.refl _ _).drew));refine AnyK.enter 4 (d:=some 12) (f:=111) (args:=#[.pointer (some ⟨gp,0,none⟩)]) rr kr kr ?_;refine(HFX.out _ HD2.out.st).mono ?_;rintro e w3 ⟨y,rfl,hy3,h3,hW3⟩;have hl2:=HD2.out.e.lt;have HS3:=qh (HD2.out.call h3 hW3);have HY3:=qh (hy3.keep (zkz (g:=w1.heap.size) (Nat.lt_trans hzl hl2) hl2));clear hy3 h3 hW3;refine⟨_,rfl,fun _=>HS3.out.e,?_⟩;refine AnyK.main 5 rr kr rfl (fun K hK=>zbz (zoc 37 39 (.tmp 10) (.tmp 12) rr (exC E a) (exC X y) kr kr Tryz.underlying37 kr rfl (by rw[zcz];omega) (by rw[zcz];omega)) (hK _ _ ⟨fun _=>HS3.out.e.alloc _,?_⟩));refine AnyK.val 6 (v:=.agg (exC (.mk m_star 0 zs E.at_ [E,X]) (some ⟨w3.heap.size,0,none⟩,2)).toArray) rr kr rfl (zod 39 [(0,.const (.string m_star)),(3,.tmp 9),(4,.tmp 13)] rr [(0,.string m_star),(3,.int .i64 E.at_),(4,.slice (some ⟨w3.heap.size,0,none⟩) 2 2)] kr kr) (fun _=>HS3.out.e.alloc _) ?_;refine AnyK.storeAll 7 w1.heap.size (exC (.mk m_star 0 zs E.at_ [E,X]) (some ⟨w3.heap.size,0,none⟩,2)) 39 (exC E a) rr rfl rfl rr kr kr kr (HS3.out.e.alloc _) hdEx (zau _ _) rfl (fun _ _ _ h=>(by cases h)) ?_;intro w5 hb5 ho5;have HS5:=qh (HS3.out.grow HY3.out hb5 ho5);refine AnyK.done kr ?_;clear hb5 ho5;go_wp2;have hk5:=HKL.out;have hi5:=HI3.out;go_roundg (gk-1)
    case measure=>omega
    case rel=>exact⟨_,q3,_,HS5.out,by omega,by rw[show gk-1+1=gk by omega];exact HT2.out,HQ3.out⟩
end
end
section
theorem Keep.of_below{w w':World}(h:Below w.heap.size w w')(F:Nat→Prop):Keep F F w w':=⟨h.size,fun k _ hk=>h.block k hk,fun _ hk _=>hk⟩
section
variable{w w':World}
theorem zc1{F:Nat→Prop}{A:Option Addr}{l:List Rf}(h:RfsIn F w A l)(i:Nat)(hi:i<l.length):∃b off,A=some ⟨b,off,none⟩∧b<w.heap.size∧w.cell? ⟨b,off+i*2,none⟩=some (.string l[i].name)∧w.cell? ⟨b,off+(i*2+1),none⟩=some (.int .i64 l[i].at_):=by
 obtain⟨b,off,rfl,hb,hc⟩:=h.1.2 om
 have hg:∀(l:List Rf) (i:Nat) (hi:i<l.length),(l.flatMap rfC)[i*2]? = some (.string l[i].name)∧(l.flatMap rfC)[i*2+1]? = some (.int .i64 l[i].at_):=by
  intro l
  induction l with
  | nil=>intro i hi;simp at hi
  | cons x l ih =>
   intro i hi
   cases i with
   | zero=>exact⟨rfl,rfl⟩
   | succ i =>
    have:=ih i (by simpa using hi);rw[show(i+1)*2=i*2+2 by omega,show i*2+2+1=(i*2+1)+2 by omega];exact this
 obtain⟨h1,h2⟩:=hg l i hi;exact⟨b,off,rfl,hb,hc _ _ h1,hc _ _ h2⟩
inductive ExSm:List Ex→Prop
 | mk (es:List Ex) (hl:es.length≤140737488355328) (hi:∀e∈es,ExSm e.args):ExSm es
theorem ExSm.nil:ExSm []:=.mk _ sy (fun _ h=>by simp at h)
theorem za4{F:Nat→Prop}{A:Option Addr}{es:List Ex}(h:ArgsIn F w A es)(i:Nat)(hi:i<es.length):∃b off p,A=some ⟨b,off,none⟩∧b<w.heap.size∧(∀j v,(exC es[i] p)[j]? = some v→w.cell? ⟨b,off+(i*5+j),none⟩=some v)∧ArgsIn F w p.1 es[i].args:=by
 cases h with
 | mk _ _ sl hl hr hi2 =>
  obtain⟨b,off,rfl,hb,hc⟩:=hr.1.2 om;have h1:es[i]? = some es[i]:=ge9 hi;have h2:sl[i]? = some (sl[i]'om):=ge9 _;exact⟨b,off,sl[i]'om,rfl,hb,fun j v hv=>hc _ v (zdh exC 5 (fun _ _=>rfl) es sl i _ _ j v h1 h2 hv),hi2 i _ _ h1 h2⟩
end
end
end Go.Proofs.YtafjkbbiaopemaaGreatDoor.Tr
