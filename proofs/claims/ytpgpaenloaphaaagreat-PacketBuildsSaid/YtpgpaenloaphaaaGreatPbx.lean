/- PacketBuilds: the packet of every route and payload is the document's, byte for byte, always 768 of them: for every order and every list of hops the law returns true. -/
import Derived.Test.YtpgpaenloaphaaaGreatPbx51
set_option maxRecDepth 100000
set_option maxHeartbeats 16000000
namespace Go.Proofs.YtpgpaenloaphaaaGreat
open Go.RowKit
section
attribute [local go_sem ↓] ldq_76 eqq_76
theorem told_err(f:Nat)(hf:f≠0)(B:Option Addr)(n c:Nat)(w:World):
 Calls Tryz.prog 32 #[.agg (u8s z768).toArray,.int .i64 (f:Int),.slice B n c,.int .i64 (f:Int)] w fun e w'=>e=.returned (.bool true)∧Below w.heap.size w w':=by
 have hf1:¬ (f:Int)=0:=om;obtain⟨Z,hZ⟩:∃ Z,Z=u8s z768:=⟨_,rfl⟩;have hq:∀ W,(eqAt 35 (.agg Z.toArray) (.agg Tryz.zeroCells35)).run Tryz.prog W=.ok (.bool true) W:=fun W=>by rw[hZ];exact eq76y W
 have hld:(ldAt 35 (.pointer (some ⟨w.heap.size,0,none⟩))).run Tryz.prog (w.alloc (.cells Z.toArray 35))=.ok (.agg Z.toArray) (w.alloc (.cells Z.toArray 35)):=by
  rw[hZ];exact pk_ld (Blk.new _ _ _) z768_length
 rw[← hZ];have HE:Hid (Below w.heap.size w (w.alloc (.cells Z.toArray 35))):=(Below.refl _ w).alloc lr _;clear hZ hf
 go_enter Tryz.func32, Tryz.ntmps32
 go_wp2;go_ret;exact⟨rfl,HE.out⟩
theorem told_ok(l:List UInt8)(hl:l.length=768)(B:Option Addr)(c:Nat)(w:World)(h:Rd w B 768 (u8s l)):
 Calls Tryz.prog 32 #[.agg (u8s l).toArray,.int .i64 0,.slice B 768 c,.int .i64 0] w fun e w'=>e=.returned (.bool true)∧Below w.heap.size w w':=by
 have HR:=qh h;have HPB:=qh (fun W=>pbytes_any l W hl)
 have HEQ:Hid (∀ W A c5,Rd W A 768 (u8s l)→Rd W B 768 (u8s l)→Calls Tryz.prog 13 #[.slice A 768 c5,.slice B 768 c] W fun e w'=>e=.returned (.bool true)∧∃ q,w'=W.drewN q):=fun W A c5 h1 h2=>by
  have h5:=equal_any A B 768 768 c5 c l l W h1 h2 om om
  simpa using h5
 have hld:(ldAt 35 (.pointer (some ⟨w.heap.size,0,none⟩))).run Tryz.prog (w.alloc (.cells (u8s l).toArray 35))=.ok (.agg (u8s l).toArray) (w.alloc (.cells (u8s l).toArray 35)):=pk_ld (Blk.new _ _ _) hl;have HE:Hid (Below w.heap.size w (w.alloc (.cells (u8s l).toArray 35))):=(Below.refl _ w).alloc lr _;generalize u8s l=L at *;clear hl h
 go_enter Tryz.func32, Tryz.ntmps32
 go_wp2_with (first
  | (go_at_call 14;(refine(HPB.out _).mono ?_);rintro e w1 ⟨A1,c1,rfl,hc1,hown1,hB1⟩;have HE1:=qtr HE hB1;have HO1:=qh (Rd.of_own hown1);clear hc1 hown1 hB1)
  | (go_at_call 13;(refine(HEQ.out _ _ _ (by exact HO1.out) (by exact HR.out.below HE1.out)).mono ?_);rintro e w2 ⟨rfl,q2,rfl⟩))
 go_ret;exact⟨rfl,below_drewN HE1.out _⟩
end
noncomputable def pbR(last:Cm)(xs bs:List UInt8)(hs:List Ho):List UInt8:=if pbE last xs bs hs=0 then pbL last xs bs hs else z768
theorem pbR_len{last:Cm}(hc:last.ok){xs bs:List UInt8}{hs:List Ho}(hok:∀ s∈hs,s.ok):(pbR last xs bs hs).length=768:=by
 unfold pbR
 split
 · rename_i h
   exact pbL_len hc hok h
 · exact z768_length
theorem pbuild_any(A B H:Option Addr)(na ca nb cb n c:Nat)(xs bs:List UInt8)(last:Cm)(hc:last.ok)(hs:List Ho)(w:World)(hx:Rd w A na (u8s xs))(hca:na≤ca)(hb:Rd w B nb (u8s bs))(hcb:nb≤cb)(hh:RdS 68 w H n (hs.flatMap Ho.cells))(hok:∀ s∈hs,s.ok)(hl:hs.length=n)(hn:n≤1400000000000):
 Calls Tryz.prog 29 #[.slice A na ca,.agg last.cells.toArray,.slice B nb cb,.slice H n c] w fun e w'=>e=.returned (.tuple #[.agg (u8s (pbR last xs bs hs)).toArray,.int .i64 (pbE last xs bs hs:Int)])∧Below w.heap.size w w':=by
 by_cases he:pbE last xs bs hs=0
 · have h5:=pbuild_yes A B H na ca nb cb n c xs bs last hc hs w hx hca hb hcb hh hok hl he
   rw[pbR,if_pos he,he];exact h5
 · have h5:=pbuild_no A B H na ca nb cb n c xs bs last hc hs w hx hca hb hh hok hl hn he
   rw[pbR,if_neg he];exact h5
theorem rpk_any(A B H:Option Addr)(na ca nb cb n c:Nat)(xs bs:List UInt8)(last:Cm)(hc:last.ok)(hs:List Ho)(w:World)(hx:Rd w A na (u8s xs))(hca:na≤ca)(hb:Rd w B nb (u8s bs))(hh:RdS 68 w H n (hs.flatMap Ho.cells))(hok:∀ s∈hs,s.ok)(hl:hs.length=n)(hn:n≤1400000000000):
 Calls Tryz.prog 31 #[.slice A na ca,.agg last.cells.toArray,.slice B nb cb,.slice H n c] w fun e w'=>∃ A' n' c',e=.returned (.tuple #[.slice A' n' c',.int .i64 (pbE last xs bs hs:Int)])∧(pbE last xs bs hs=0→n'=768∧768≤c'∧Rd w' A' 768 (u8s (pbR last xs bs hs)))∧Below w.heap.size w w':=by
 by_cases he:pbE last xs bs hs=0
 · refine(rpk_yes A B H na ca nb cb n c xs bs last hc hs w hx hca hb hh hok hl he).mono ?_
   rintro e w' ⟨A',c',rfl,hc',hr,hB⟩;refine⟨A',768,c',by rw[he];rfl,fun _=>⟨rfl,hc',?_⟩,hB⟩;rw[pbR,if_pos he];exact hr
 · refine(rpk_no A B H na ca nb cb n c xs bs last hc hs w hx hca hb hh hok hl hn he).mono ?_
   rintro e w' ⟨rfl,hB⟩;exact⟨none,0,0,rfl,fun h=>absurd h he,hB⟩
theorem told_any(last:Cm)(hc:last.ok)(xs bs:List UInt8)(hs:List Ho)(hok:∀ s∈hs,s.ok)(B:Option Addr)(n c:Nat)(w:World)(h:pbE last xs bs hs=0→n=768∧Rd w B 768 (u8s (pbR last xs bs hs))):
 Calls Tryz.prog 32 #[.agg (u8s (pbR last xs bs hs)).toArray,.int .i64 (pbE last xs bs hs:Int),.slice B n c,.int .i64 (pbE last xs bs hs:Int)] w fun e w'=>e=.returned (.bool true)∧Below w.heap.size w w':=by
 by_cases he:pbE last xs bs hs=0
 · obtain⟨rfl,hr⟩:=h he
   have hl:(pbR last xs bs hs).length=768:=pbR_len hc hok;rw[he];exact told_ok _ hl B c w hr
 · rw[pbR,if_neg he]
   exact told_err _ he B n c w
theorem alloc_pk{o:Oper}{a:Act}{W:World}(ho:o.op=.alloc 35):(execOp a.eval o).run Tryz.prog W=.ok (.value (.pointer (some ⟨W.heap.size,0,none⟩))) (W.alloc (.cells (u8s z768).toArray 35)):=by
 unfold execOp
 rw[ho]
 kernel_rfl
theorem hops_rd(A:Option Addr)(n c:Nat)(hs:List Ho)(w:World)(h:RdS 68 w A n (hs.flatMap Ho.cells))(hok:∀ s∈hs,s.ok)(hl:hs.length=n)(hn:n*104≤140737488355328):
 Calls Tryz.prog 30 #[.slice A n c] w fun e w'=>∃ A' c',e=.returned (.slice A' n c')∧RdS 68 w' A' n (hs.flatMap Ho.cells)∧Below w.heap.size w w':=by
 refine(hops_any A n c hs w h hok hl hn).mono ?_;rintro e w' ⟨A',c',rfl,_,ho,hB⟩;exact⟨A',c',rfl,RdS.ofOwn2 ho,hB⟩
theorem copy_rd(A:Option Addr)(n c:Nat)(l:List UInt8)(w:World)(h:Rd w A n (u8s l))(hn:n≤140737488355328):
 Calls Tryz.prog 12 #[.slice A n c] w fun e w'=>∃ A' c',e=.returned (.slice A' n c')∧n≤c'∧Rd w' A' n (u8s l)∧Below w.heap.size w w':=by
 refine(copy_any A n c l w h hn).mono ?_;rintro e w' ⟨A',c',rfl,hc',ho,hB⟩;exact⟨A',c',rfl,hc',Rd.of_own ho,hB⟩
end Go.Proofs.YtpgpaenloaphaaaGreat
namespace Go.Proofs.YtpgpaenloaphaaaGreat.packetBuilds
open Go.RowKit
section
attribute [local go_sem ↓] ldq_76 ldq_cm stq_76
def orC(A B:Option Addr)(na ca nb cb:Nat)(last:Cm):List Value:=.slice A na ca :: (last.cells++[.slice B nb cb])
theorem orC_0(A B:Option Addr)(na ca nb cb:Nat)(last:Cm):(orC A B na ca nb cb last)[0]? = some (.slice A na ca):=rfl
theorem orC_21(A B:Option Addr)(na ca nb cb:Nat)(last:Cm)(hc:last.ok):(orC A B na ca nb cb last)[21]? = some (.slice B nb cb):=by
 rw[orC,show(21:Nat)=20+1 from rfl,List.getElem?_cons_succ,List.getElem?_append_right (by rw[Cm.cells_len hc];exact lr),Cm.cells_len hc]
 rfl
theorem orC_cm(A B:Option Addr)(na ca nb cb:Nat)(last:Cm):((orC A B na ca nb cb last).drop 1).take last.cells.length=last.cells:=by
 rw[orC,List.drop_succ_cons,List.drop_zero,List.take_left' rfl]
theorem walk(A B H:Option Addr)(na ca nb cb n c:Nat)(xs bs:List UInt8)(last:Cm)(hc:last.ok)(hs:List Ho)(w:World)(hx:Rd w A na (u8s xs))(hb:Rd w B nb (u8s bs))(hna:na≤ca)(hca:ca≤140737488351232)(hnb:nb≤cb)(hcb:cb≤140737488351232)(hh:RdS 68 w H n (hs.flatMap Ho.cells))(hok:∀ s∈hs,s.ok)(hl:hs.length=n)(hn:n*104≤140737488351232):
 Calls Tryz.prog 6 #[.agg (orC A B na ca nb cb last).toArray,.slice H n c] w fun e w'=>e=.returned (.bool true)∧Below w.heap.size w w':=by
 have HX:=qh hx;have HB:=qh hb;have HH:=qh hh;have HNA:=qh hna;have HNB:=qh hnb;have HPB:Hid (∀ W A1 c1 B1 d1 H1 e1,Rd W A1 na (u8s xs)→na≤c1→Rd W B1 nb (u8s bs)→nb≤d1→RdS 68 W H1 n (hs.flatMap Ho.cells)→Calls Tryz.prog 29 #[.slice A1 na c1,.agg last.cells.toArray,.slice B1 nb d1,.slice H1 n e1] W fun e w'=>e=.returned (.tuple #[.agg (u8s (pbR last xs bs hs)).toArray,.int .i64 (pbE last xs bs hs:Int)])∧Below W.heap.size W w'):=fun W A1 c1 B1 d1 H1 e1 h1 h2 h3 h4 h5=>pbuild_any A1 B1 H1 na c1 nb d1 n e1 xs bs last hc hs W h1 h2 h3 h4 h5 hok hl om
 have HRB:Hid (∀ W,Below w.heap.size w W→Calls Tryz.prog 31 #[.slice A na ca,.agg last.cells.toArray,.slice B nb cb,.slice H n c] W fun e w'=>∃ A' n' c',e=.returned (.tuple #[.slice A' n' c',.int .i64 (pbE last xs bs hs:Int)])∧(pbE last xs bs hs=0→n'=768∧768≤c'∧Rd w' A' 768 (u8s (pbR last xs bs hs)))∧Below W.heap.size W w'):=fun W hW=>rpk_any A B H na ca nb cb n c xs bs last hc hs W (hx.below hW) hna (hb.below hW) (hh.bel hW lr) hok hl om
 have HTD:Hid (∀ W B5 n5 c5,(pbE last xs bs hs=0→n5=768∧Rd W B5 768 (u8s (pbR last xs bs hs)))→Calls Tryz.prog 32 #[.agg (u8s (pbR last xs bs hs)).toArray,.int .i64 (pbE last xs bs hs:Int),.slice B5 n5 c5,.int .i64 (pbE last xs bs hs:Int)] W fun e w'=>e=.returned (.bool true)∧Below W.heap.size W w'):=fun W B5 n5 c5 h=>told_any last hc xs bs hs hok B5 n5 c5 W h
 have HHO:Hid (∀ W,Below w.heap.size w W→Calls Tryz.prog 30 #[.slice H n c] W fun e w'=>∃ A' c',e=.returned (.slice A' n c')∧RdS 68 w' A' n (hs.flatMap Ho.cells)∧Below W.heap.size W w'):=fun W hW=>hops_rd H n c hs W (hh.bel hW lr) hok hl om
 have HRL:Hid ((pbR last xs bs hs).length=768):=pbR_len hc hok;have HCL:=qh (Cm.cells_len hc);have H0:=qh (orC_0 A B na ca nb cb last);have H21:=qh (orC_21 A B na ca nb cb last hc);have HCM:=qh (orC_cm A B na ca nb cb last);obtain⟨O,hO⟩:∃ O,O=orC A B na ca nb cb last:=⟨_,rfl⟩;rw[← hO]at H0 H21 HCM ⊢;obtain⟨C,hC⟩:∃ C,C=last.cells:=⟨_,rfl⟩;rw[← hC]at HPB HRB HCL HCM;generalize pbR last xs bs hs=R at *;generalize pbE last xs bs hs=E at *;generalize hs.flatMap Ho.cells=HC at *;have HE0:Hid (Below w.heap.size w (w.alloc (.cells O.toArray 72))):=(Below.refl _ w).alloc lr _;have HO0:Hid (Blk (w.alloc (.cells O.toArray 72)) w.heap.size 72 O):=Blk.new w _ _;have hnaI:na≤140737488355328:=om;have hnbI:nb≤140737488355328:=om;clear hx hb hna hca hnb hcb hh hok hl hn hO hC hc
 go_enter Tryz.func6, Tryz.ntmps6
 go_wp2_with (first
  | (go_at_call 10;refine(awake14 _).mono ?_;rintro e w1 ⟨rfl,hB1⟩;have HE1:=qtr HE0 hB1;have HO1:=qbl HO0 hB1;clear hB1))
 have HV0:Hid (Below w1.heap.size w1 { w1 with drawn:=w1.drawn+1 }):=(Below.refl _ w1).drew;refine kgo kr 15 (fun w'=>Below w1.heap.size w1 w') HV0.out (fun _ _ _ _ _ h=>h) ?_;refine kp 0 (.pointer (some ⟨w.heap.size,0,none⟩)) rfl kr (fun _=>kr) ?_;refine kl 1 (.slice A na ca) rfl kr (fun w' hw'=>ex_load (t:=22) (x:=.tmp 12) rr kr agSl (((HO1.out.below hw' HO1.out.lt).cell 0).trans H0.out)) ?_;refine kp 3 (.pointer (some ⟨w.heap.size,1,none⟩)) rfl kr (fun _=>kr) ?_;refine kl 4 (.agg C.toArray) rfl kr (fun w' hw'=>ey_loadR (x:=.tmp 15) rr kr (ldAt_run (HO1.out.below hw' HO1.out.lt) 47 1 C HCM.out _ Tryz.underlying47 rfl (by rw[HCL.out];exact hd76c))) ?_;refine kp 5 (.pointer (some ⟨w.heap.size,21,none⟩)) rfl kr (fun _=>kr) ?_;refine kl 6 (.slice B nb cb) rfl kr (fun w' hw'=>ex_load (t:=22) (x:=.tmp 17) rr kr agSl (((HO1.out.below hw' HO1.out.lt).cell 21).trans H21.out)) ?_;refine kp 8 (.slice H n c) rfl kr (fun _=>kr) ?_;intro q8 q9;clear q8 q9;refine AnyG.start w1.heap.size [⟨14,5,35,u8s z768,fun g=>.pointer (some ⟨g,0,none⟩)⟩] (fun W=>Below w1.heap.size w1 W) 9 rfl HV0.out ?_;refine AnyG.step 2 (di:=14) [] (fun x:Option Addr × Nat=>.slice x.1 na x.2) (fun x W=>Below w1.heap.size w1 W∧na≤x.2∧Rd W x.1 na (u8s xs)) rr rfl sy sy kr ?_ ?_ (fun W o h=>h.alloc h.size o) (fun W h=>h.size) (fun W h=>h) (fun _ W h=>h.1) ?_
 · intro F W hF hR hok hrd K hK
   obtain⟨s1,rfl⟩:=one_of hF
   rcases s1 with _|k1 <;>
     (refine wp_enter (f:=12) (args:=#[.slice A na ca]) kr ?_;refine(copy_rd A na ca xs W (HX.out.below (HE1.out.trans (hR.mono HE1.out.size))) hnaI).mono ?_;rintro e w' ⟨A',c',rfl,hc',hr,hB⟩;exact⟨_,rfl,hK (A',c') _ ⟨hR.trans (hB.mono hR.size),hc',hr⟩ hB⟩)
 · intro f hf
   simp only[List.mem_cons,List.not_mem_nil,or_false]at hf;subst hf;exact⟨_,rfl,rfl,rfl,fun F W _=>alloc_pk rfl⟩
 intro x;refine AnyG.step 7 (di:=19) [] (fun y:Option Addr × Nat=>.slice y.1 nb y.2) (fun y W=>Below w1.heap.size w1 W∧na≤x.2∧Rd W x.1 na (u8s xs)∧nb≤y.2∧Rd W y.1 nb (u8s bs)) rr rfl sy sy kr ?_ ?_ (fun W o h=>⟨h.1.alloc h.1.size o,h.2.1,h.2.2.alloc o⟩) (fun W h=>h.1.size) (fun W h=>h.1) (fun _ W h=>h.1) ?_
 · intro F W hF hR hok hrd K hK
   obtain⟨s1,rfl⟩:=one_of hF
   rcases s1 with _|k1 <;>
     (refine wp_enter (f:=12) (args:=#[.slice B nb cb]) kr ?_;refine(copy_rd B nb cb bs W (HB.out.below (HE1.out.trans (hR.1.mono HE1.out.size))) hnbI).mono ?_;rintro e w' ⟨A',c',rfl,hc',hr,hB⟩;exact⟨_,rfl,hK (A',c') _ ⟨hR.1.trans (hB.mono hR.1.size),hR.2.1,hR.2.2.below hB,hc',hr⟩ hB⟩)
 · intro f hf
   simp only[List.mem_cons,List.not_mem_nil,or_false]at hf;subst hf;exact⟨_,rfl,rfl,rfl,fun F W _=>alloc_pk rfl⟩
 intro y;refine AnyG.step 9 (di:=21) [] (fun z:Option Addr × Nat=>.slice z.1 n z.2) (fun z W=>Below w1.heap.size w1 W∧na≤x.2∧Rd W x.1 na (u8s xs)∧nb≤y.2∧Rd W y.1 nb (u8s bs)∧RdS 68 W z.1 n HC) rr rfl sy sy kr ?_ ?_ (fun W o h=>⟨h.1.alloc h.1.size o,h.2.1,h.2.2.1.alloc o,h.2.2.2.1,h.2.2.2.2.alloc o⟩) (fun W h=>h.1.size) (fun W h=>h.1) (fun _ W h=>h.1) ?_
 · intro F W hF hR hok hrd K hK
   obtain⟨s1,rfl⟩:=one_of hF
   rcases s1 with _|k1 <;>
     (refine wp_enter (f:=30) (args:=#[.slice H n c]) kr ?_;refine(HHO.out W (HE1.out.trans (hR.1.mono HE1.out.size))).mono ?_;rintro e w' ⟨A',c',rfl,hr,hB⟩;exact⟨_,rfl,hK (A',c') _ ⟨hR.1.trans (hB.mono hR.1.size),hR.2.1,hR.2.2.1.below hB,hR.2.2.2.1,hR.2.2.2.2.below hB,hr⟩ hB⟩)
 · intro f hf
   simp only[List.mem_cons,List.not_mem_nil,or_false]at hf;subst hf;exact⟨_,rfl,rfl,rfl,fun F W _=>alloc_pk rfl⟩
 intro z;refine AnyG.step 10 (di:=22) [] (fun _:Unit=>.tuple #[.agg (u8s R).toArray,.int .i64 (E:Int)]) (fun _ W=>Below w1.heap.size w1 W) rr rfl sy sy kr ?_ ?_ (fun W o h=>⟨h.1.alloc h.1.size o,h.2.1,h.2.2.1.alloc o,h.2.2.2.1,h.2.2.2.2.1.alloc o,h.2.2.2.2.2.allo o⟩) (fun W h=>h.1.size) (fun W h=>h.1) (fun _ W h=>h) ?_
 · intro F W hF hR hok hrd K hK
   obtain⟨s1,rfl⟩:=one_of hF
   rcases s1 with _|k1 <;>
     (refine wp_enter (f:=29) (args:=#[.slice x.1 na x.2,.agg C.toArray,.slice y.1 nb y.2,.slice z.1 n z.2]) kr ?_;refine(HPB.out W _ _ _ _ _ _ hR.2.2.1 hR.2.1 hR.2.2.2.2.1 hR.2.2.2.1 hR.2.2.2.2.2).mono ?_;rintro e w' ⟨rfl,hB⟩;exact⟨_,rfl,hK () _ (hR.1.trans (hB.mono hR.1.size)) hB⟩)
 · intro f hf
   simp only[List.mem_cons,List.not_mem_nil,or_false]at hf;subst hf;exact⟨_,rfl,rfl,rfl,fun F W _=>alloc_pk rfl⟩
 intro _;refine AnyG.pure 11 (di:=11) (v:=.tuple #[.agg (u8s R).toArray,.int .i64 (E:Int)]) rfl rfl rfl sy kr (fun _ _ _ h=>h) (fun F W hF=>by obtain⟨s1,rfl⟩:=one_of hF;rcases s1 with _|k1 <;> kernel_rfl) (fun W h=>h) ?_;refine AnyG.pure 12 (di:=23) (v:=.agg (u8s R).toArray) rfl rfl rfl sy kr (fun _ _ _ h=>h) (fun F W hF=>by obtain⟨s1,rfl⟩:=one_of hF;rcases s1 with _|k1 <;> kernel_rfl) (fun W h=>h) ?_;refine AnyG.pure 13 (di:=24) (v:=.int .i64 (E:Int)) rfl rfl rfl sy kr (fun _ _ _ h=>h) (fun F W hF=>by obtain⟨s1,rfl⟩:=one_of hF;rcases s1 with _|k1 <;> kernel_rfl) (fun W h=>h) ?_;refine AnyG.fin sy kr ?_ (fun W o h=>h.alloc h.size o) (fun W h=>h.size) (fun W h=>h) ?_
 · intro f hf
   simp only[List.mem_cons,List.not_mem_nil,or_false]at hf;subst hf;exact⟨_,rfl,rfl,rfl,fun F W _=>alloc_pk rfl⟩
 intro F W hF h0 hR hok;obtain⟨g5,rfl⟩:=one_all hF h0;obtain⟨⟨hg5,hb5,_⟩,_⟩:=hok;refine AnyK.storeAll 15 g5 (u8s R) 35 (u8s z768) rr rfl rfl rr kr kr kr hb5 (by rw[u8s_length,HRL.out];exact hd76) (u8s_one _) (by rw[u8s_length,u8s_length,HRL.out,z768_length]) (fun _ _ _ h=>(by cases h)) ?_;intro w6 hb6 ho6;have HB6:=qh (ho6.below hR hg5 hR.size);have HP6:=qh hb6;refine AnyK.val 16 (v:=.int .i64 (E:Int)) rr kr rfl kr (fun h=>(by cases h)) ?_;refine AnyK.done kr ?_;have HE6:=qh (HE1.out.trans (HB6.out.mono HE1.out.size));have HO6:=qh (HO1.out.below HB6.out HO1.out.lt);have ho0:w6.cell? ⟨w.heap.size,0,none⟩=some (.slice A na ca):=(HO6.out.cell 0).trans H0.out;have ho1:w6.cell? ⟨w.heap.size,21,none⟩=some (.slice B nb cb):=(HO6.out.cell 21).trans H21.out;have hoc:(ldAt 47 (.pointer (some ⟨w.heap.size,1,none⟩))).run Tryz.prog w6=.ok (.agg C.toArray) w6:=ldAt_run HO6.out 47 1 C HCM.out _ Tryz.underlying47 rfl (by rw[HCL.out];exact hd76c);clear hb5 hb6 ho6 hR hg5 hF h0 HV0 HB6 HO1 HE1 HO0 HE0;simp only[putF]
 go_wp2_with (first
  | (go_at_call 31;(refine(HRB.out _ (by exact HE6.out)).mono ?_);rintro e w7 ⟨A7,n7,c7,rfl,hr7,hB7⟩;have HE7:=qtr HE6 hB7;have HP7:=qbl HP6 hB7;have hl7:=pk_ld HP7.out HRL.out;have HR7:Hid (E=0→n7=768∧Rd w7 A7 768 (u8s R)):=fun h=>⟨(hr7 h).1,(hr7 h).2.2⟩
     clear hr7 hB7)
  | (go_at_call 32;(refine(HTD.out _ _ _ _ (by exact HR7.out)).mono ?_);rintro e w8 ⟨rfl,hB8⟩;have HE8:=qtr HE7 hB8;clear hB8))
 go_ret;exact⟨rfl,HE8.out⟩
end
theorem walkA{W:World}(x:Sl UInt8 × Cm × Sl UInt8)(hx:(Rd W x.1.A x.1.n (u8s x.1.l)∧x.1.n≤x.1.c∧x.1.c≤140737488351232)∧x.2.1.ok∧(Rd W x.2.2.A x.2.2.n (u8s x.2.2.l)∧x.2.2.n≤x.2.2.c∧x.2.2.c≤140737488351232))(s:Sl Ho)(hs:SlIn none 68 104 Ho.cells (fun _ h=>h.ok) W s):
 Calls Tryz.prog 6 #[.agg (x.1.val :: (x.2.1.cells++[x.2.2.val])).toArray,s.val] W fun e w'=>e=.returned (.bool true)∧Below W.heap.size W w' :=
 walk x.1.A x.2.2.A s.A x.1.n x.1.c x.2.2.n x.2.2.c s.n s.c x.1.l x.2.2.l x.2.1 hx.2.1 s.l W hx.1.1 hx.2.2.1 hx.1.2.1 hx.1.2.2 hx.2.2.2.1 hx.2.2.2.2 hs.rd hs.each hs.len (by have h1:=hs.cap;have h2:=hs.reach;unfold reachBytes at h2;omega)
section
open Go.ChangeShapes Go.WideShapes Go.ChangeAt Go.RowKit
set_option linter.unusedVariables false
theorem lifted(os:Os)(started:os.Started)(H:Type)(enc:TypeId × Value→H):
 ReturnsInHanded {} Tryz.checked os 6 .any (Rows.packetBuildsSpec.pre6 enc Tryz.prog Tryz.f6 Rows.packetBuildsRow.domain false) (Rows.packetBuildsSpec.post enc Tryz.prog Tryz.f6 false true false false):=by
 refine returnsInHanded_of_change_sized (C:=Tryz.checked) own started kr Tryz.func6
   (ChangeSpec.witness6 (enc:=enc) (C:=Tryz.checked) false ⟨#[],#[.agg (.slice none 0 0 :: (Cm.zero.cells++[.slice none 0 0])).toArray,.slice none 0 0],[]⟩ 8 kr kr kr kr) ?_
 intro W base args ds gs before hval0 hW hcnd hsz0 _;have hval:∀ (j:Nat) t v,Tryz.f6.params[j]? = some t→args[j]? = some v→Value.okWide Tryz.prog W .any base t v:=hval0;have hsz:(DataW.weightsEach Tryz.prog (Tryz.f6.params.toList++Rows.packetBuildsSpec.plain.varTypes Tryz.prog) (ds++gs)).all (·≤reachBytes)=true:=hsz0;have hW':=hW;obtain⟨p,q,hA0,hV,rfl,hfz,hnd⟩:=hW;have hA:DataW.TrodAll enc Tryz.prog W 0 (fun _=>true) true Tryz.f6.params.toList args.toList ds p:=hA0;rw[Tryz.params6]at hA hval hsz;obtain⟨v0,vs0,d0,ds0,p0,q0,hargs,rfl,rfl,h0,r0⟩:=trodAll_cons hA;obtain⟨v1,vs1,d1,ds1,p1,q1,rfl,rfl,rfl,h1,r1⟩:=trodAll_cons r0;obtain⟨rfl,rfl,rfl⟩:=trodAll_nil r1;obtain rfl:args=#[v0,v1]:=by cases args;simp_all
 obtain⟨rfl,rfl⟩:=trodVars_none hV;have hwt:=List.all_eq_true.1 hsz;simp only[List.cons_append,List.nil_append,List.append_nil,DataW.weightsEach,List.mem_append,decide_eq_true_eq]at hwt;have k0:=h0;have lt0:∀ x∈p0,x.block<W.heap.size:=by obtain⟨m,hm⟩:=k0;exact DataW.trod_lt m _ _ _ hm
 obtain⟨fuel0,hf0⟩:=h0;obtain⟨a0,e0,q0'⟩:=(reads_ord none (fuel0+1)).opens (Nat.lt_succ_self _) hf0 (fun k hk=>hwt k (.inl hk)) (fun b e=>by cases e);obtain⟨cs0,rfl,hcs0⟩:=okWide_struct Tryz.underlying72 (hval 0 72 v0 rfl rfl);have e0':cs0.toList=_:=e0;obtain⟨cs0⟩:=cs0;simp only at e0';subst e0';have k1:=h1;have lt1:∀ x∈p1,x.block<W.heap.size:=by obtain⟨m,hm⟩:=k1;exact DataW.trod_lt m _ _ _ hm
 obtain⟨fuel1,hf1⟩:=h1;obtain⟨A1,n1,c1,rfl⟩:=okWide_slice Tryz.underlying57 (hval 1 57 v1 rfl rfl);obtain⟨a1,e1,q1'⟩:=(reads_hos none (fuel1+1)).opens (Nat.lt_succ_self _) hf1 (fun k hk=>hwt k (.inr (.inl hk))) (fun b e=>by cases e);obtain⟨A1',n1',c1',l1⟩:=a1;obtain⟨rfl,rfl,rfl⟩:A1=A1'∧n1=n1'∧c1=c1':=by simpa[Value.cells,Sl.val] using e1
 clear hA0 hval0;refine(walkA a0 q0' _ q1').mono fun e W' ⟨he,bel⟩=>?_
 subst he;exact⟨_,rfl,_,_,_,[],_,[],hW',trodAll_mk1 (shut_bool Tryz.underlying4 _),(trodAll_cons_mk (Below.trod laidOut kr (of_decide_eq_true kr) k0 bel lt0) (trodAll_cons_mk (Below.trod laidOut kr (of_decide_eq_true kr) k1 bel lt1) trodAll_mk0)),rfl,bel.frame _,fun h=>by cases h⟩
theorem over:Rows.packetBuildsRow.holds Tryz.pinned (OpenSpec.ofChange Rows.packetBuildsSpec) :=
 OpenClaim.holds_of_wide 6 Tryz.f6 rfl rfl rfl rfl rfl rfl rfl ⟨rfl,rfl,rfl,rfl,rfl⟩ rfl rfl rfl rfl rfl kr Tryz.func6 kr
   (of_decide_eq_true kr) (by unfold Func.isWrapper;first|(rw[if_pos (by decide +kernel)];kernel_rfl)| (rw[if_neg (by decide +kernel)];exact⟨rfl,rfl⟩))
   (fun os started H enc _=>lifted os started H enc)
theorem proved:Rows.PacketBuildsSaid:=over
end
end Go.Proofs.YtpgpaenloaphaaaGreat.packetBuilds
