/- PacketHides: a cover packet is one with the empty part, as long as any other: for every scalar and every list of hops the law returns true. -/
import Derived.Test.YtpgpaenloaphaaaGreatPhx51
set_option maxRecDepth 100000
set_option maxHeartbeats 16000000
namespace Go.Proofs.YtpgpaenloaphaaaGreat
open Go.RowKit
section
attribute [local go_sem ↓] zcg zgy znn
theorem zr3(A H:Option Addr)(na ca n c:Nat)(R:List UInt8)(E:Nat)(w:World)
 (hsd:∀W,Below w.heap.size w W→Calls Tryz.prog 66 #[.slice A na ca,.agg #[.int .u8 2,.int .u64 0,.int .i64 0,.int .i64 1,.slice none 0 0],.slice H n c] W fun e w'=>e=.returned (.tuple #[.agg (u8s R).toArray,.int .i64 (E:Int)])∧Below W.heap.size W w') (hrl:R.length=768):
 Calls Tryz.prog 36 #[.slice A na ca,.slice H n c] w fun e w'=>e=.returned (.tuple #[.agg (u8s R).toArray,.int .i64 (E:Int)])∧Below w.heap.size w w':=by
 have HSD:=qh hsd;have HRL:=qh hrl;obtain⟨Z,HZ,HZl⟩:∃Z:List Value,Hid (Tryz.zeroCells35 = Z.toArray)∧Hid (Z.length=768):=⟨u8s z768,zc76z,by show(u8s _).length=_;rw[zaa];exact zby⟩;have HIR:Hid ((Tryz.prog.info? 35).map (·.size)=some (u8s R).length):=by show _=_;rw[zaa,HRL.out];exact hd76
 have HFR2:Hid ((u8s R).length=Z.length):=by show _=_;rw[zaa,HRL.out,HZl.out]
 have HE0:Hid (Below w.heap.size w (w.alloc (.cells Tryz.zeroCells35 35))):=(Below.refl _ w).alloc lr _;have HB0:Hid (Blk (w.alloc (.cells Tryz.zeroCells35 35)) w.heap.size 35 Z):=Blk.new' rfl HZ.out;clear hsd hrl
 go_enter Tryz.func36, Tryz.ntmps36
 go_wp2_with (first
  | (go_at_call 66;(refine(HSD.out _ (by exact HE0.out)).mono ?_);rintro e w1 ⟨rfl,hB1⟩;have HE1:=qtr HE0 hB1;have HB1:=qbl HB0 hB1;clear hB1)
  | (refine zab rfl 35 (.tmp 4) (.tmp 10) rfl w.heap.size (u8s R) rr rr 35 Z (by exact HB1.out) HIR.out (zac _) HFR2.out ?_;intro w2 hb2 ho2))
 have hB2:=ho2.below HE1.out lr HE1.out.size;exact bodyPost_ret (zah rfl _ _ _ _ rfl hb2 _ Tryz.underlying35 rfl HIR.out) rfl ⟨rfl,hB2⟩
theorem zoe(A H:Option Addr)(na ca n c:Nat)(F R:List UInt8)(E:Nat)(w:World)
 (hbd:∀W A1 c1,Below w.heap.size w W→Rd W A1 480 (u8s F)→480≤c1→Calls Tryz.prog 31 #[.slice A na ca,.agg #[.int .u8 3,.int .u8 0,.int .u32 0,.int .u64 0,.int .u8 0,.int .u8 0,.int .u8 0,.int .u8 0,.int .u8 0,.int .u8 0,.int .u8 0,.int .u8 0,.int .u8 0,.int .u8 0,.int .u8 0,.int .u8 0,.int .u8 0,.int .u8 0,.int .u8 0,.int .u8 0],.slice A1 480 c1,.slice H n c] W fun e w'=>∃A' n' c',e=.returned (.tuple #[.slice A' n' c',.int .i64 (E:Int)])∧(E=0→n'=768∧Rd w' A' 768 (u8s R))∧Below W.heap.size W w')
 (hfr:∀W,Calls Tryz.prog 67 #[.agg #[.int .u8 2,.int .u64 0,.int .i64 0,.int .i64 1,.slice none 0 0]] W fun e w'=>∃A1 c1,e=.returned (.tuple #[.slice A1 480 c1,.int .i64 0])∧480≤c1∧Rd w' A1 480 (u8s F)∧Below W.heap.size W w'):
 Calls Tryz.prog 37 #[.slice A na ca,.agg #[.int .u8 2,.int .u64 0,.int .i64 0,.int .i64 1,.slice none 0 0],.slice H n c] w fun e w'=>∃A' n' c',e=.returned (.tuple #[.slice A' n' c',.int .i64 (E:Int)])∧(E=0→n'=768∧Rd w' A' 768 (u8s R))∧Below w.heap.size w w':=by
 have HBD:=qh hbd;have HFR:=qh hfr
 have HLE:Hid (∀W A3,Rd W A3 2 (i64s [0,(E:Int)])→Calls Tryz.prog 59 #[.slice A3 2 2] W fun e w'=>e=.returned (.int .i64 (E:Int))∧W=w'):=fun W A3 h3=>by
  have h5:=zfp A3 2 2 _ W h3 om
  rwa [least0r]at h5
 have HE0:Hid (Below w.heap.size w (w.alloc (.cells #[.int .u8 2,.int .u64 0,.int .i64 0,.int .i64 1,.slice none 0 0] 92))):=(Below.refl _ w).alloc lr _;have HP0:Hid (Blk (w.alloc (.cells #[.int .u8 2,.int .u64 0,.int .i64 0,.int .i64 1,.slice none 0 0] 92)) w.heap.size 92 [.int .u8 2,.int .u64 0,.int .i64 0,.int .i64 1,.slice none 0 0]):=Blk.new w _ _;have hlp:(ldAt 92 (.pointer (some ⟨w.heap.size,0,none⟩))).run Tryz.prog (w.alloc (.cells #[.int .u8 2,.int .u64 0,.int .i64 0,.int .i64 1,.slice none 0 0] 92))=.ok (.agg #[.int .u8 2,.int .u64 0,.int .i64 0,.int .i64 1,.slice none 0 0]) (w.alloc (.cells #[.int .u8 2,.int .u64 0,.int .i64 0,.int .i64 1,.slice none 0 0] 92)):=zas HP0.out 92 0 [.int .u8 2,.int .u64 0,.int .i64 0,.int .i64 1,.slice none 0 0] rfl _ Tryz.underlying92 rfl kr;clear hbd hfr
 by_cases he:E=0
 · subst he
   have HBD2:Hid (∀W A1 c1,Below w.heap.size w W→Rd W A1 480 (u8s F)→480≤c1→Calls Tryz.prog 31 #[.slice A na ca,.agg #[.int .u8 3,.int .u8 0,.int .u32 0,.int .u64 0,.int .u8 0,.int .u8 0,.int .u8 0,.int .u8 0,.int .u8 0,.int .u8 0,.int .u8 0,.int .u8 0,.int .u8 0,.int .u8 0,.int .u8 0,.int .u8 0,.int .u8 0,.int .u8 0,.int .u8 0,.int .u8 0],.slice A1 480 c1,.slice H n c] W fun e w'=>∃A' n' c',e=.returned (.tuple #[.slice A' n' c',.int .i64 0])∧(n'=768∧Rd w' A' 768 (u8s R))∧Below W.heap.size W w'):=fun W A1 c1 h1 h2 h3=>by
    refine(HBD.out W A1 c1 h1 h2 h3).mono ?_;rintro e w' ⟨A',n',c',rfl,hr,hB⟩;exact⟨A',n',c',rfl,hr rfl,hB⟩
   have HLE2:Hid (∀W A3,Rd W A3 2 (i64s [0,0])→Calls Tryz.prog 59 #[.slice A3 2 2] W fun e w'=>e=.returned (.int .i64 0)∧W=w'):=HLE.out;clear HBD HLE
   go_enter Tryz.func37, Tryz.ntmps37
   go_wp2_with (first
    | (go_at_call 67;(refine(HFR.out _).mono ?_);rintro e w1 ⟨A1,c1,rfl,hc1,hr1,hB1⟩;have HE1:=qtr HE0 hB1;have HP1:=qbl HP0 hB1;have HC1:=qh hc1;have d1:w1.cell? ⟨w.heap.size,0,none⟩=some (.int .u8 2):=HP1.out.cell 0;obtain⟨w5,hst5,ho5,hb5⟩:=st20 0 (show Blk (w1.alloc (.cells #[.int .u8 0,.int .u8 0,.int .u32 0,.int .u64 0,.int .u8 0,.int .u8 0,.int .u8 0,.int .u8 0,.int .u8 0,.int .u8 0,.int .u8 0,.int .u8 0,.int .u8 0,.int .u8 0,.int .u8 0,.int .u8 0,.int .u8 0,.int .u8 0,.int .u8 0,.int .u8 0] 47)) w1.heap.size 47 [.int .u8 0,.int .u8 0,.int .u32 0,.int .u64 0,.int .u8 0,.int .u8 0,.int .u8 0,.int .u8 0,.int .u8 0,.int .u8 0,.int .u8 0,.int .u8 0,.int .u8 0,.int .u8 0,.int .u8 0,.int .u8 0,.int .u8 0,.int .u8 0,.int .u8 0,.int .u8 0] from Blk.new' rfl rfl) (X:=[.int .u8 2,.int .u8 0,.int .u32 0,.int .u64 0,.int .u8 0,.int .u8 0,.int .u8 0,.int .u8 0,.int .u8 0,.int .u8 0,.int .u8 0,.int .u8 0,.int .u8 0,.int .u8 0,.int .u8 0,.int .u8 0,.int .u8 0,.int .u8 0,.int .u8 0,.int .u8 0]) lr rfl (List.all_eq_true.1 (rfl:List.all ([.int .u8 2,.int .u8 0,.int .u32 0,.int .u64 0,.int .u8 0,.int .u8 0,.int .u8 0,.int .u8 0,.int .u8 0,.int .u8 0,.int .u8 0,.int .u8 0,.int .u8 0,.int .u8 0,.int .u8 0,.int .u8 0,.int .u8 0,.int .u8 0,.int .u8 0,.int .u8 0]:List Value) Value.oneCell'=true));have c5:Blk w5 w1.heap.size 47 [.int .u8 2,.int .u8 0,.int .u32 0,.int .u64 0,.int .u8 0,.int .u8 0,.int .u8 0,.int .u8 0,.int .u8 0,.int .u8 0,.int .u8 0,.int .u8 0,.int .u8 0,.int .u8 0,.int .u8 0,.int .u8 0,.int .u8 0,.int .u8 0,.int .u8 0,.int .u8 0]:=hb5;obtain⟨w6,hst6,ho6,hb6⟩:=st20 0 c5 (X:=[.int .u8 3,.int .u8 0,.int .u32 0,.int .u64 0,.int .u8 0,.int .u8 0,.int .u8 0,.int .u8 0,.int .u8 0,.int .u8 0,.int .u8 0,.int .u8 0,.int .u8 0,.int .u8 0,.int .u8 0,.int .u8 0,.int .u8 0,.int .u8 0,.int .u8 0,.int .u8 0]) lr rfl (List.all_eq_true.1 (rfl:List.all ([.int .u8 3,.int .u8 0,.int .u32 0,.int .u64 0,.int .u8 0,.int .u8 0,.int .u8 0,.int .u8 0,.int .u8 0,.int .u8 0,.int .u8 0,.int .u8 0,.int .u8 0,.int .u8 0,.int .u8 0,.int .u8 0,.int .u8 0,.int .u8 0,.int .u8 0,.int .u8 0]:List Value) Value.oneCell'=true));have p5:=ho5.blk (HP1.out.alloc _) (by have:=HP1.out.lt;omega);have d5:w5.cell? ⟨w.heap.size,0,none⟩=some (.int .u8 2):=p5.cell 0;have c6:Blk w6 w1.heap.size 47 [.int .u8 3,.int .u8 0,.int .u32 0,.int .u64 0,.int .u8 0,.int .u8 0,.int .u8 0,.int .u8 0,.int .u8 0,.int .u8 0,.int .u8 0,.int .u8 0,.int .u8 0,.int .u8 0,.int .u8 0,.int .u8 0,.int .u8 0,.int .u8 0,.int .u8 0,.int .u8 0]:=hb6;have hl6:=cm_ld c6 rfl;have D5:Below w1.heap.size w1 w5:=ho5.below ((Below.refl _ w1).alloc lr _) lr sy;have D6:Below w1.heap.size w1 w6:=ho6.below D5 lr D5.size;have HQ:=qtr HE1 D6;have HR1:=qh (hr1.below D6);clear ho5 hb5 c5 ho6 hb6 p5 c6 D5 D6;clear hB1 hr1 hc1)
    | (go_at_call 31;(refine(HBD2.out _ _ _ (by exact HQ.out) (by exact HR1.out) (by exact HC1.out)).mono ?_);rintro e w2 ⟨A2,n2,c2,rfl,hr2,hB2⟩;have HE2:=qtr HQ hB2;have HR2:=qh hr2;clear hB2 hr2)
    | (go_at_call 59;(refine(HLE2.out _ _ (by exact zvh _ _ _ _)).mono ?_);rintro e w3 ⟨rfl,rfl⟩;have HE3:=qh (HE2.out.alloc HE2.out.size (.cells #[.int .i64 0,.int .i64 0] 3));have HR3:Hid (n2=768∧Rd (w2.alloc (.cells #[.int .i64 0,.int .i64 0] 3)) A2 768 (u8s R)):=⟨HR2.out.1,HR2.out.2.alloc _⟩))
   go_ret2;exact⟨A2,n2,c2,rfl,fun _=>HR3.out,HE3.out⟩
 · have hei:¬(E:Int)=0:=om
   go_enter Tryz.func37, Tryz.ntmps37
   go_wp2_with (first
    | (go_at_call 67;(refine(HFR.out _).mono ?_);rintro e w1 ⟨A1,c1,rfl,hc1,hr1,hB1⟩;have HE1:=qtr HE0 hB1;have HP1:=qbl HP0 hB1;have HC1:=qh hc1;have d1:w1.cell? ⟨w.heap.size,0,none⟩=some (.int .u8 2):=HP1.out.cell 0;obtain⟨w5,hst5,ho5,hb5⟩:=st20 0 (show Blk (w1.alloc (.cells #[.int .u8 0,.int .u8 0,.int .u32 0,.int .u64 0,.int .u8 0,.int .u8 0,.int .u8 0,.int .u8 0,.int .u8 0,.int .u8 0,.int .u8 0,.int .u8 0,.int .u8 0,.int .u8 0,.int .u8 0,.int .u8 0,.int .u8 0,.int .u8 0,.int .u8 0,.int .u8 0] 47)) w1.heap.size 47 [.int .u8 0,.int .u8 0,.int .u32 0,.int .u64 0,.int .u8 0,.int .u8 0,.int .u8 0,.int .u8 0,.int .u8 0,.int .u8 0,.int .u8 0,.int .u8 0,.int .u8 0,.int .u8 0,.int .u8 0,.int .u8 0,.int .u8 0,.int .u8 0,.int .u8 0,.int .u8 0] from Blk.new' rfl rfl) (X:=[.int .u8 2,.int .u8 0,.int .u32 0,.int .u64 0,.int .u8 0,.int .u8 0,.int .u8 0,.int .u8 0,.int .u8 0,.int .u8 0,.int .u8 0,.int .u8 0,.int .u8 0,.int .u8 0,.int .u8 0,.int .u8 0,.int .u8 0,.int .u8 0,.int .u8 0,.int .u8 0]) lr rfl (List.all_eq_true.1 (rfl:List.all ([.int .u8 2,.int .u8 0,.int .u32 0,.int .u64 0,.int .u8 0,.int .u8 0,.int .u8 0,.int .u8 0,.int .u8 0,.int .u8 0,.int .u8 0,.int .u8 0,.int .u8 0,.int .u8 0,.int .u8 0,.int .u8 0,.int .u8 0,.int .u8 0,.int .u8 0,.int .u8 0]:List Value) Value.oneCell'=true));have c5:Blk w5 w1.heap.size 47 [.int .u8 2,.int .u8 0,.int .u32 0,.int .u64 0,.int .u8 0,.int .u8 0,.int .u8 0,.int .u8 0,.int .u8 0,.int .u8 0,.int .u8 0,.int .u8 0,.int .u8 0,.int .u8 0,.int .u8 0,.int .u8 0,.int .u8 0,.int .u8 0,.int .u8 0,.int .u8 0]:=hb5;obtain⟨w6,hst6,ho6,hb6⟩:=st20 0 c5 (X:=[.int .u8 3,.int .u8 0,.int .u32 0,.int .u64 0,.int .u8 0,.int .u8 0,.int .u8 0,.int .u8 0,.int .u8 0,.int .u8 0,.int .u8 0,.int .u8 0,.int .u8 0,.int .u8 0,.int .u8 0,.int .u8 0,.int .u8 0,.int .u8 0,.int .u8 0,.int .u8 0]) lr rfl (List.all_eq_true.1 (rfl:List.all ([.int .u8 3,.int .u8 0,.int .u32 0,.int .u64 0,.int .u8 0,.int .u8 0,.int .u8 0,.int .u8 0,.int .u8 0,.int .u8 0,.int .u8 0,.int .u8 0,.int .u8 0,.int .u8 0,.int .u8 0,.int .u8 0,.int .u8 0,.int .u8 0,.int .u8 0,.int .u8 0]:List Value) Value.oneCell'=true));have p5:=ho5.blk (HP1.out.alloc _) (by have:=HP1.out.lt;omega);have d5:w5.cell? ⟨w.heap.size,0,none⟩=some (.int .u8 2):=p5.cell 0;have c6:Blk w6 w1.heap.size 47 [.int .u8 3,.int .u8 0,.int .u32 0,.int .u64 0,.int .u8 0,.int .u8 0,.int .u8 0,.int .u8 0,.int .u8 0,.int .u8 0,.int .u8 0,.int .u8 0,.int .u8 0,.int .u8 0,.int .u8 0,.int .u8 0,.int .u8 0,.int .u8 0,.int .u8 0,.int .u8 0]:=hb6;have hl6:=cm_ld c6 rfl;have D5:Below w1.heap.size w1 w5:=ho5.below ((Below.refl _ w1).alloc lr _) lr sy;have D6:Below w1.heap.size w1 w6:=ho6.below D5 lr D5.size;have HQ:=qtr HE1 D6;have HR1:=qh (hr1.below D6);clear ho5 hb5 c5 ho6 hb6 p5 c6 D5 D6;clear hB1 hr1 hc1)
    | (go_at_call 31;(refine(HBD.out _ _ _ (by exact HQ.out) (by exact HR1.out) (by exact HC1.out)).mono ?_);rintro e w2 ⟨A2,n2,c2,rfl,hr2,hB2⟩;have HE2:=qtr HQ hB2;have HR2:=qh hr2;clear hB2 hr2)
    | (go_at_call 59;(refine(HLE.out _ _ (by exact zvh _ _ _ _)).mono ?_);rintro e w3 ⟨rfl,rfl⟩;have HE3:=qh (HE2.out.alloc HE2.out.size (.cells #[.int .i64 0,.int .i64 (E:Int)] 3));have HR3:Hid (E=0→n2=768∧Rd (w2.alloc (.cells #[.int .i64 0,.int .i64 (E:Int)] 3)) A2 768 (u8s R)):=fun h=>⟨(HR2.out h).1,(HR2.out h).2.alloc _⟩))
   go_ret2;exact⟨none,0,0,rfl,fun h=>absurd h he,HE3.out⟩
end
end Go.Proofs.YtpgpaenloaphaaaGreat
namespace Go.Proofs.YtpgpaenloaphaaaGreat.packetHides
open Go.RowKit
section
attribute [local go_sem ↓] zrw
theorem ztj(W:World):Calls Tryz.prog 67 #[.agg #[.int .u8 2,.int .u64 0,.int .i64 0,.int .i64 1,.slice none 0 0]] W fun e w'=>∃A1 c1,e=.returned (.tuple #[.slice A1 480 c1,.int .i64 0])∧480≤c1∧Rd w' A1 480 (u8s emptyF)∧Below W.heap.size W w':=by
 refine(zoi none 0 0 2 0 0 1 [] W (zqr W) om om om (by decide)).mono ?_;rintro e w' ⟨g,rfl,_,hb,hB⟩;have hb2:Blk w' g 5 (u8s emptyF):=hb;have h5:=hb2.rdAll;rw[zi4]at h5;exact⟨some ⟨g,0,none⟩,480,rfl,lr,h5,hB⟩
theorem walk0(A H:Option Addr)(na ca n c:Nat)(xs:List UInt8)(HC:List Value)(R:List UInt8)(E:Nat)(w:World)(hx:Rd w A na (u8s xs))(hna:na≤140737488355328)(hrl:R.length=768)
 (hhd:∀W A1 c1 H1 e1,Rd W A1 na (u8s xs)→na≤c1→RdS 68 W H1 n HC→Calls Tryz.prog 36 #[.slice A1 na c1,.slice H1 n e1] W fun e w'=>e=.returned (.tuple #[.agg (u8s R).toArray,.int .i64 (E:Int)])∧Below W.heap.size W w')
 (hrs:∀W,Below w.heap.size w W→Calls Tryz.prog 37 #[.slice A na ca,.agg #[.int .u8 2,.int .u64 0,.int .i64 0,.int .i64 1,.slice none 0 0],.slice H n c] W fun e w'=>∃A' n' c',e=.returned (.tuple #[.slice A' n' c',.int .i64 (E:Int)])∧(E=0→n'=768∧Rd w' A' 768 (u8s R))∧Below W.heap.size W w')
 (htd:∀W B5 n5 c5,(E=0→n5=768∧Rd W B5 768 (u8s R))→Calls Tryz.prog 32 #[.agg (u8s R).toArray,.int .i64 (E:Int),.slice B5 n5 c5,.int .i64 (E:Int)] W fun e w'=>e=.returned (.bool true)∧Below W.heap.size W w')
 (hho:∀W,Below w.heap.size w W→Calls Tryz.prog 30 #[.slice H n c] W fun e w'=>∃A' c',e=.returned (.slice A' n c')∧RdS 68 w' A' n HC∧Below W.heap.size W w'):
 Calls Tryz.prog 8 #[.slice A na ca,.slice H n c] w fun e w'=>e=.returned (.bool true)∧Below w.heap.size w w':=by
 have HX:=qh hx;have HHD:=qh hhd;have HRS:=qh hrs;have HTD:=qh htd;have HHO:=qh hho;have HRL:=qh hrl;obtain⟨Z,HZ,HZl⟩:∃Z:List Value,Hid (Tryz.zeroCells35 = Z.toArray)∧Hid (Z.length=768):=⟨u8s z768,zc76z,by show(u8s _).length=_;rw[zaa];exact zby⟩;have HIR:Hid ((Tryz.prog.info? 35).map (·.size)=some (u8s R).length):=by show _=_;rw[zaa,HRL.out];exact hd76
 have HFR2:Hid ((u8s R).length=Z.length):=by show _=_;rw[zaa,HRL.out,HZl.out]
 clear hx hhd hrs htd hho hrl
 go_enter Tryz.func8, Tryz.ntmps8
 go_wp2_with (first
  | (go_at_call 10;refine(awake14 _).mono ?_;rintro e w1 ⟨rfl,hB1⟩;have HE1:=qh hB1;clear hB1)
  | (go_at_call 12;(refine(zxx A na ca xs _ (by exact HX.out.below HE1.out) (by exact hna)).mono ?_);rintro e w2 ⟨A2,c2,rfl,hc2,hr2,hB2⟩;have HE2:=qtr HE1 hB2;have HR2:=qh hr2;have HC2:=qh hc2;clear hB2 hr2 hc2)
  | (go_at_call 30;(refine(HHO.out _ (by exact HE2.out)).mono ?_);rintro e w3 ⟨A3,c3,rfl,hr3,hB3⟩;have HE3:=qtr HE2 hB3;have HR3:=qh (HR2.out.below hB3);have HH3:=qh hr3;clear hB3 hr3)
  | (go_at_call 36;(refine(HHD.out _ _ _ _ _ (by exact HR3.out) (by exact HC2.out) (by exact HH3.out)).mono ?_);rintro e w4 ⟨rfl,hB4⟩;have HE4:=qtr HE3 hB4;clear hB4)
  | (refine zab rfl 35 (.tmp 5) (.tmp 17) rfl w4.heap.size (u8s R) rr rr 35 Z (by exact Blk.new' rfl HZ.out) HIR.out (zac _) HFR2.out ?_;intro w5 hb5 ho5;have hD5:Below w4.heap.size w4 w5:=ho5.below ((Below.refl _ w4).alloc lr _) lr sy;have HE5:=qtr HE4 hD5;have HP5:=qh hb5;clear hb5 ho5 hD5)
  | (go_at_call 37;(refine(HRS.out _ (by exact HE5.out)).mono ?_);rintro e w6 ⟨A6,n6,c6,rfl,hr6,hB6⟩;have HE6:=qtr HE5 hB6;have HP6:=qbl HP5 hB6;have hl6:=pk_ld HP6.out HRL.out;have HR6:=qh hr6;clear hr6 hB6)
  | (go_at_call 32;(refine(HTD.out _ _ _ _ (by exact HR6.out)).mono ?_);rintro e w7 ⟨rfl,hB7⟩;have HE7:=qtr HE6 hB7;clear hB7))
 go_ret;exact⟨rfl,HE7.out⟩
theorem walk(A H:Option Addr)(na ca n c:Nat)(xs:List UInt8)(hs:List Ho)(w:World)(hx:Rd w A na (u8s xs))(hna:na≤ca)(hca:ca≤140737488351232)(hh:RdS 68 w H n (hs.flatMap Ho.cells))(hok:∀s∈hs,s.ok)(hl:hs.length=n)(hn:n*104≤140737488351232):
 Calls Tryz.prog 8 #[.slice A na ca,.slice H n c] w fun e w'=>e=.returned (.bool true)∧Below w.heap.size w w' :=
 walk0 A H na ca n c xs (hs.flatMap Ho.cells) (pbR coverC xs emptyF hs) (pbE coverC xs emptyF hs) w hx om (zjo zdv hok)
   (fun W A1 c1 H1 e1 h1 h2 h3=>zr3 A1 H1 na c1 n e1 _ _ W (fun W2 hW2=>zn8 A1 H1 na c1 n e1 xs hs W2 (h1.below hW2) h2 (h3.belo hW2) hok hl om) (zjo zdv hok))
   (fun W hW=>zoe A H na ca n c emptyF _ _ W (fun W2 A1 c1 hW2 hr hc=>by
    have h5:=zv7 A A1 H na ca 480 c1 n c xs emptyF coverC zdv hs W2 (hx.below (hW.trans (hW2.mono hW.size))) hna hr (hh.bel (hW.trans (hW2.mono hW.size)) lr) hok hl om;rw[zf6]at h5;refine h5.mono ?_;rintro e w' ⟨A',n',c',rfl,hr',hB⟩
    exact⟨A',n',c',rfl,fun h=>⟨(hr' h).1,(hr' h).2.2⟩,hB⟩) ztj)
   (fun W B5 n5 c5 h=>zs0 coverC zdv xs emptyF hs hok B5 n5 c5 W h)
   (fun W hW=>zxk H n c hs W (hh.bel hW lr) hok hl om)
end
theorem walkA{W:World}(a:Sl UInt8)(h:Rd W a.A a.n (u8s a.l)∧a.n≤a.c∧a.c≤140737488351232)(s:Sl Ho)(hs:SlIn none 68 104 Ho.cells (fun _ h=>h.ok) W s):
 Calls Tryz.prog 8 #[a.val,s.val] W fun e w'=>e=.returned (.bool true)∧Below W.heap.size W w' :=
 walk a.A s.A a.n a.c s.n s.c a.l s.l W h.1 h.2.1 h.2.2 hs.rd hs.each hs.len (by have h1:=hs.cap;have h2:=hs.reach;unfold reachBytes at h2;omega)
section
open Go.ChangeShapes Go.WideShapes Go.ChangeAt Go.RowKit
set_option linter.unusedVariables false
theorem lifted(os:Os)(started:os.Started)(H:Type)(enc:TypeId × Value→H):
 ReturnsInHanded {} Tryz.checked os 8 .any (Rows.packetHidesSpec.pre6 enc Tryz.prog Tryz.f8 Rows.packetHidesRow.domain false) (Rows.packetHidesSpec.post enc Tryz.prog Tryz.f8 false true false false):=by
 refine returnsInHanded_of_change_sized (C:=Tryz.checked) own started kr Tryz.func8
   (ChangeSpec.witness6 (enc:=enc) (C:=Tryz.checked) false ⟨#[],#[.slice none 0 0,.slice none 0 0],[]⟩ 8 kr kr kr kr) ?_
 intro W base args ds gs before hval0 hW hcnd hsz0 _;have hval:∀(j:Nat) t v,Tryz.f8.params[j]? = some t→args[j]? = some v→Value.okWide Tryz.prog W .any base t v:=hval0;have hsz:(DataW.weightsEach Tryz.prog (Tryz.f8.params.toList++Rows.packetHidesSpec.plain.varTypes Tryz.prog) (ds++gs)).all (·≤reachBytes)=true:=hsz0;have hW':=hW;obtain⟨p,q,hA0,hV,rfl,hfz,hnd⟩:=hW;have hA:DataW.TrodAll enc Tryz.prog W 0 (fun _=>true) true Tryz.f8.params.toList args.toList ds p:=hA0;rw[Tryz.params8]at hA hval hsz;obtain⟨v0,vs0,d0,ds0,p0,q0,hargs,rfl,rfl,h0,r0⟩:=trodAll_cons hA;obtain⟨v1,vs1,d1,ds1,p1,q1,rfl,rfl,rfl,h1,r1⟩:=trodAll_cons r0;obtain⟨rfl,rfl,rfl⟩:=trodAll_nil r1;obtain rfl:args=#[v0,v1]:=by cases args;simp_all
 obtain⟨rfl,rfl⟩:=trodVars_none hV;have hwt:=List.all_eq_true.1 hsz;simp only[List.cons_append,List.nil_append,List.append_nil,DataW.weightsEach,List.mem_append,decide_eq_true_eq]at hwt;have k0:=h0;have lt0:∀x∈p0,x.block<W.heap.size:=by obtain⟨m,hm⟩:=k0;exact DataW.trod_lt m _ _ _ hm
 obtain⟨fuel0,hf0⟩:=h0;obtain⟨A0,n0,c0,rfl⟩:=okWide_slice Tryz.underlying22 (hval 0 22 v0 rfl rfl);obtain⟨a0,e0,q0'⟩:=(zlt none (fuel0+1)).opens (Nat.lt_succ_self _) hf0 (fun k hk=>hwt k (.inl hk)) (fun b e=>by cases e);obtain⟨A0',n0',c0',l0⟩:=a0;obtain⟨rfl,rfl,rfl⟩:A0=A0'∧n0=n0'∧c0=c0':=by simpa[Value.cells,Sl.val] using e0
 have k1:=h1;have lt1:∀x∈p1,x.block<W.heap.size:=by obtain⟨m,hm⟩:=k1;exact DataW.trod_lt m _ _ _ hm
 obtain⟨fuel1,hf1⟩:=h1;obtain⟨A1,n1,c1,rfl⟩:=okWide_slice Tryz.underlying57 (hval 1 57 v1 rfl rfl);obtain⟨a1,e1,q1'⟩:=(zqo none (fuel1+1)).opens (Nat.lt_succ_self _) hf1 (fun k hk=>hwt k (.inr (.inl hk))) (fun b e=>by cases e);obtain⟨A1',n1',c1',l1⟩:=a1;obtain⟨rfl,rfl,rfl⟩:A1=A1'∧n1=n1'∧c1=c1':=by simpa[Value.cells,Sl.val] using e1
 clear hA0 hval0;refine(walkA _ q0' _ q1').mono fun e W' ⟨he,bel⟩=>?_
 subst he;exact⟨_,rfl,_,_,_,[],_,[],hW',trodAll_mk1 (shut_bool Tryz.underlying4 _),(trodAll_cons_mk (Below.trod laidOut kr (of_decide_eq_true kr) k0 bel lt0) (trodAll_cons_mk (Below.trod laidOut kr (of_decide_eq_true kr) k1 bel lt1) trodAll_mk0)),rfl,bel.frame _,fun h=>by cases h⟩
theorem over:Rows.packetHidesRow.holds Tryz.pinned (OpenSpec.ofChange Rows.packetHidesSpec) :=
 OpenClaim.holds_of_wide 8 Tryz.f8 rfl rfl rfl rfl rfl rfl rfl ⟨rfl,rfl,rfl,rfl,rfl⟩ rfl rfl rfl rfl rfl kr Tryz.func8 kr
   (of_decide_eq_true kr) (by unfold Func.isWrapper;first|(rw[if_pos (by decide +kernel)];kernel_rfl)| (rw[if_neg (by decide +kernel)];exact⟨rfl,rfl⟩))
   (fun os started H enc _=>lifted os started H enc)
theorem proved:Rows.PacketHidesSaid:=over
end
end Go.Proofs.YtpgpaenloaphaaaGreat.packetHides
