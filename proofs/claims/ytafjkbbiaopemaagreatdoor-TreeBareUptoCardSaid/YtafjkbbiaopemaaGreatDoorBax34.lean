/- Part of the proof. -/
import Derived.Test.YtafjkbbiaopemaaGreatDoorBax33
set_option linter.all false
set_option maxRecDepth 100000
set_option maxHeartbeats 0
namespace Go.Proofs.YtafjkbbiaopemaaGreatDoor.Tr
open Go.RowKit
section
section
variable{w w' w0:World}{b B g:Nat}{l l':List UInt8}
theorem zkh{op:ByteArray}{num:Int}{text:ByteArray}{args:List Ex}(h:op=m_plus∨op=m_minus∨op=m_star)(hn:args.length≠2)(ps:List (List UInt8)):prB op num text args ps=[63]:=by
 unfold prB
 rw[if_neg (by rcases h with h|h|h <;> rw[h] <;> decide),if_neg (by rcases h with h|h|h <;> rw[h] <;> decide),if_neg (by rcases h with h|h|h <;> rw[h] <;> decide),if_neg (by rcases h with h|h|h <;> rw[h] <;> decide),if_pos h]
 split
 · simp at hn
 · rfl
theorem px_bad(op:ByteArray)(hop:op=m_plus∨op=m_minus∨op=m_star)(num:Int)(text:ByteArray)(at_:Int)(args:List Ex)(a:Option Addr × Nat)(hn:args.length≠2)(h:IsP B b l w)(hB:B≤w.heap.size)(hl:l.length+(prE (.mk op num text at_ args)).length≤1000000000):
 Calls Tryz.prog 71 #[.pointer (some ⟨b,0,none⟩),.agg (exC (.mk op num text at_ args) a).toArray] w fun r w'=>PrE B b w (l++prE (.mk op num text at_ args)) r w':=by
 have H0:=qh ((PrS.start h hB).al (.cells (exC (.mk op num text at_ args) a).toArray 39));have HP:Hid (prE (.mk op num text at_ args)=[63]):=(by show _=_;rw[prE];exact zkh hop hn _);rw[HP.out]at hl ⊢;have HL:=qh hl;have hm:(args.length:Int)≠2:=om;clear h hl HP hn
 unfold exC at *
 dsimp only [Ex.op,Ex.num,Ex.text,Ex.at_,Ex.args]at *;generalize args.length=m at *;have x4:((m:Int) == 2)=false:=by rw[beq_eq_false_iff_ne];exact hm
 rcases hop with rfl|rfl|rfl
 all_goals
   go_enter Tryz.func71, Tryz.ntmps71
   go_wp2_with (go_at_call 70;(refine(zad H0.out _ sy [{ data:=#[63] }] 1 rfl (by decide) (by have:=HL.out;simp[flatS]at this ⊢;omega)).mono ?_);rintro r w3 h3;have H3:=qh ((H0.out.al _).st h3);obtain⟨rfl,_⟩:=h3)
   go_end0
   have h6:=H3.out.fin;rw[show l++flatS [{ data:=#[63] }]=l++[63] by simp[flatS]]at h6;exact h6
theorem zo2(op:ByteArray)(h1:op≠k_number)(h2:op≠k_name)(h3:op≠k_text)(h4:op≠k_join)(h5:op≠m_plus)(h6:op≠m_minus)(h7:op≠m_star)(num:Int)(text:ByteArray)(at_:Int)(args:List Ex)(a:Option Addr × Nat)(h:IsP B b l w)(hB:B≤w.heap.size)(hl:l.length+(prE (.mk op num text at_ args)).length≤1000000000):
 Calls Tryz.prog 71 #[.pointer (some ⟨b,0,none⟩),.agg (exC (.mk op num text at_ args) a).toArray] w fun r w'=>PrE B b w (l++prE (.mk op num text at_ args)) r w':=by
 have H0:=qh ((PrS.start h hB).al (.cells (exC (.mk op num text at_ args) a).toArray 39));have HP:Hid (prE (.mk op num text at_ args)=[63]):=(by show _=_;rw[prE];unfold prB;rw[if_neg h1,if_neg h2,if_neg h3,if_neg h4,if_neg (by rintro (h|h|h);exact h5 h;exact h6 h;exact h7 h)]);rw[HP.out]at hl ⊢;have HL:=qh hl;have x1:(op.toList == [110,117,109,98,101,114])=false:=strl h1;have x2:(op.toList == [110,97,109,101])=false:=strl h2;have x3:(op.toList == [116,101,120,116])=false:=strl h3;have x4:(op.toList == [106,111,105,110])=false:=strl h4;have x5:(op.toList == [43])=false:=strl h5;have x6:(op.toList == [45])=false:=strl h6;have x7:(op.toList == [42])=false:=strl h7;clear h hl HP h1 h2 h3 h4 h5 h6 h7
 unfold exC at *
 dsimp only [Ex.op,Ex.num,Ex.text,Ex.at_,Ex.args]at *;generalize args.length=m at *
 go_enter Tryz.func71, Tryz.ntmps71
 go_wp2_with (go_at_call 70;(refine(zad H0.out _ sy [{ data:=#[63] }] 1 rfl (by decide) (by have:=HL.out;simp[flatS]at this ⊢;omega)).mono ?_);rintro r w3 h3;have H3:=qh ((H0.out.al _).st h3);obtain⟨rfl,_⟩:=h3)
 go_end0
 have h6:=H3.out.fin;rw[show l++flatS [{ data:=#[63] }]=l++[63] by simp[flatS]]at h6;exact h6
theorem zch{F:Nat→Prop}{e:Ex}(h:ExOk e):∀a,PxK e a F:=by
 induction h with
 | mk op num text at_ args h0 h1 h2 h3 hi ih =>
  intro a B b l w hp hB hl hF hA hT
  by_cases e1:op=k_number
  · subst e1;exact zkf num text at_ args a h0 h1 hp hB hl hT
  by_cases e2:op=k_name
  · subst e2;exact zo3 num text at_ args a hp hB hl
  by_cases e3:op=k_text
  · subst e3;exact zo0 num text at_ args a h2 hp hB hl
  by_cases e4:op=k_join
  · subst e4;exact zo4 num text at_ args a h3 ih hp hB hl hF hA hT
  by_cases e5:op=m_plus∨op=m_minus∨op=m_star
  · by_cases hn:args.length=2
    · match args,hn,ih,hA,hl with
      | [x,y],_,ih,hA,hl =>
       have hx:=ih x sy;have hy:=ih y sy
       rcases e5 with h5|h5|rfl
       · exact px_pm op (.inl h5) num text at_ x y a hx hy hp hB hl hF hA hT
       · exact px_pm op (.inr h5) num text at_ x y a hx hy hp hB hl hF hA hT
       · exact zo1 num text at_ x y a hx hy hp hB hl hF hA hT
    · exact px_bad op e5 num text at_ args a hn hp hB hl
  · exact zo2 op e1 e2 e3 e4 (fun h=>e5 (.inl h)) (fun h=>e5 (.inr (.inl h))) (fun h=>e5 (.inr (.inr h))) num text at_ args a hp hB hl
end
end
section
def PW(B b:Nat)(w:World)(f:FuncId)(vs:List Value)(out:List UInt8):Prop:=∀(l':List UInt8) W,IsP B b l' W→B≤W.heap.size→l'.length+out.length≤1000000000→Below B w W→Calls Tryz.prog f (.pointer (some ⟨b,0,none⟩) :: vs).toArray W fun r w'=>PrE B b W (l'++out) r w'
section
variable{w w' w0:World}{b B g:Nat}{l l':List UInt8}
theorem hp_sp(A:ByteArray)(hA:A.size=128)(hx:A.extract 0 2 = { data:=#[32,32] })(w:World):Calls Tryz.prog 118 #[.string A,.string { data:=#[32,32] }] w fun e w'=>e=.returned (.bool true)∧w=w':=by
 have h1:(2:Int)≤(A.size:Int):=om;have h2:2≤A.size:=om
 go_enter Tryz.func118, Tryz.ntmps118
 go_wp2;go_ret
 first
  | exact⟨by rw[hx];rfl,rfl⟩
  | exact⟨by simp[hx],rfl⟩
theorem zmw(w:World):Calls Tryz.prog 98 #[.string { data:=#[32,32] },.int .i64 1] w fun e w'=>e=.returned (.string { data:=#[32,32] })∧w=w':=by
 go_enter Tryz.func98, Tryz.ntmps98
 go_wp2;go_ret;exact⟨rfl,rfl⟩
theorem mul_2(w:World):Calls Tryz.prog 117 #[.int .u64 2,.int .u64 2] w fun e w'=>e=.returned (.tuple #[.int .u64 0,.int .u64 4])∧w=w':=by
 go_enter Tryz.func117, Tryz.ntmps117
 go_wp2;refine bodyPost_ret (results_tmp2 rfl _ _ _) rfl ?_;exact⟨by kernel_rfl,rfl⟩
theorem zmv(w:World):Calls Tryz.prog 98 #[.string { data:=#[32,32] },.int .i64 2] w fun e w'=>e=.returned (.string { data:=#[32,32,32,32] })∧w=w':=by
 go_enter Tryz.func98, Tryz.ntmps98
 go_wp2_with (first|(go_at_call 117;(refine(mul_2 _).mono ?_);rintro e w2 ⟨rfl,rfl⟩)| (go_at_call 118;(refine(hp_sp _ kr kr _).mono ?_);rintro e w3 ⟨rfl,rfl⟩))
 go_ret;exact⟨by kernel_rfl,rfl⟩
theorem mul_3(w:World):Calls Tryz.prog 117 #[.int .u64 2,.int .u64 3] w fun e w'=>e=.returned (.tuple #[.int .u64 0,.int .u64 6])∧w=w':=by
 go_enter Tryz.func117, Tryz.ntmps117
 go_wp2;refine bodyPost_ret (results_tmp2 rfl _ _ _) rfl ?_;exact⟨by kernel_rfl,rfl⟩
theorem zmu(w:World):Calls Tryz.prog 98 #[.string { data:=#[32,32] },.int .i64 3] w fun e w'=>e=.returned (.string { data:=#[32,32,32,32,32,32] })∧w=w':=by
 go_enter Tryz.func98, Tryz.ntmps98
 go_wp2_with (first|(go_at_call 117;(refine(mul_3 _).mono ?_);rintro e w2 ⟨rfl,rfl⟩)| (go_at_call 118;(refine(hp_sp _ kr kr _).mono ?_);rintro e w3 ⟨rfl,rfl⟩))
 go_ret;exact⟨by kernel_rfl,rfl⟩
theorem mul_4(w:World):Calls Tryz.prog 117 #[.int .u64 2,.int .u64 4] w fun e w'=>e=.returned (.tuple #[.int .u64 0,.int .u64 8])∧w=w':=by
 go_enter Tryz.func117, Tryz.ntmps117
 go_wp2;refine bodyPost_ret (results_tmp2 rfl _ _ _) rfl ?_;exact⟨by kernel_rfl,rfl⟩
theorem zmt(w:World):Calls Tryz.prog 98 #[.string { data:=#[32,32] },.int .i64 4] w fun e w'=>e=.returned (.string { data:=#[32,32,32,32,32,32,32,32] })∧w=w':=by
 go_enter Tryz.func98, Tryz.ntmps98
 go_wp2_with (first|(go_at_call 117;(refine(mul_4 _).mono ?_);rintro e w2 ⟨rfl,rfl⟩)| (go_at_call 118;(refine(hp_sp _ kr kr _).mono ?_);rintro e w3 ⟨rfl,rfl⟩))
 go_ret;exact⟨by kernel_rfl,rfl⟩
theorem mul_5(w:World):Calls Tryz.prog 117 #[.int .u64 2,.int .u64 5] w fun e w'=>e=.returned (.tuple #[.int .u64 0,.int .u64 10])∧w=w':=by
 go_enter Tryz.func117, Tryz.ntmps117
 go_wp2;refine bodyPost_ret (results_tmp2 rfl _ _ _) rfl ?_;exact⟨by kernel_rfl,rfl⟩
theorem zms(w:World):Calls Tryz.prog 98 #[.string { data:=#[32,32] },.int .i64 5] w fun e w'=>e=.returned (.string { data:=#[32,32,32,32,32,32,32,32,32,32] })∧w=w':=by
 go_enter Tryz.func98, Tryz.ntmps98
 go_wp2_with (first|(go_at_call 117;(refine(mul_5 _).mono ?_);rintro e w2 ⟨rfl,rfl⟩)| (go_at_call 118;(refine(hp_sp _ kr kr _).mono ?_);rintro e w3 ⟨rfl,rfl⟩))
 go_ret;exact⟨by kernel_rfl,rfl⟩
theorem mul_6(w:World):Calls Tryz.prog 117 #[.int .u64 2,.int .u64 6] w fun e w'=>e=.returned (.tuple #[.int .u64 0,.int .u64 12])∧w=w':=by
 go_enter Tryz.func117, Tryz.ntmps117
 go_wp2;refine bodyPost_ret (results_tmp2 rfl _ _ _) rfl ?_;exact⟨by kernel_rfl,rfl⟩
theorem zmr(w:World):Calls Tryz.prog 98 #[.string { data:=#[32,32] },.int .i64 6] w fun e w'=>e=.returned (.string { data:=#[32,32,32,32,32,32,32,32,32,32,32,32] })∧w=w':=by
 go_enter Tryz.func98, Tryz.ntmps98
 go_wp2_with (first|(go_at_call 117;(refine(mul_6 _).mono ?_);rintro e w2 ⟨rfl,rfl⟩)| (go_at_call 118;(refine(hp_sp _ kr kr _).mono ?_);rintro e w3 ⟨rfl,rfl⟩))
 go_ret;exact⟨by kernel_rfl,rfl⟩
theorem mul_7(w:World):Calls Tryz.prog 117 #[.int .u64 2,.int .u64 7] w fun e w'=>e=.returned (.tuple #[.int .u64 0,.int .u64 14])∧w=w':=by
 go_enter Tryz.func117, Tryz.ntmps117
 go_wp2;refine bodyPost_ret (results_tmp2 rfl _ _ _) rfl ?_;exact⟨by kernel_rfl,rfl⟩
theorem zmq(w:World):Calls Tryz.prog 98 #[.string { data:=#[32,32] },.int .i64 7] w fun e w'=>e=.returned (.string { data:=#[32,32,32,32,32,32,32,32,32,32,32,32,32,32] })∧w=w':=by
 go_enter Tryz.func98, Tryz.ntmps98
 go_wp2_with (first|(go_at_call 117;(refine(mul_7 _).mono ?_);rintro e w2 ⟨rfl,rfl⟩)| (go_at_call 118;(refine(hp_sp _ kr kr _).mono ?_);rintro e w3 ⟨rfl,rfl⟩))
 go_ret;exact⟨by kernel_rfl,rfl⟩
theorem mul_8(w:World):Calls Tryz.prog 117 #[.int .u64 2,.int .u64 8] w fun e w'=>e=.returned (.tuple #[.int .u64 0,.int .u64 16])∧w=w':=by
 go_enter Tryz.func117, Tryz.ntmps117
 go_wp2;refine bodyPost_ret (results_tmp2 rfl _ _ _) rfl ?_;exact⟨by kernel_rfl,rfl⟩
theorem zmp(w:World):Calls Tryz.prog 98 #[.string { data:=#[32,32] },.int .i64 8] w fun e w'=>e=.returned (.string { data:=#[32,32,32,32,32,32,32,32,32,32,32,32,32,32,32,32] })∧w=w':=by
 go_enter Tryz.func98, Tryz.ntmps98
 go_wp2_with (first|(go_at_call 117;(refine(mul_8 _).mono ?_);rintro e w2 ⟨rfl,rfl⟩)| (go_at_call 118;(refine(hp_sp _ kr kr _).mono ?_);rintro e w3 ⟨rfl,rfl⟩))
 go_ret;exact⟨by kernel_rfl,rfl⟩
theorem mul_9(w:World):Calls Tryz.prog 117 #[.int .u64 2,.int .u64 9] w fun e w'=>e=.returned (.tuple #[.int .u64 0,.int .u64 18])∧w=w':=by
 go_enter Tryz.func117, Tryz.ntmps117
 go_wp2;refine bodyPost_ret (results_tmp2 rfl _ _ _) rfl ?_;exact⟨by kernel_rfl,rfl⟩
theorem zmo(w:World):Calls Tryz.prog 98 #[.string { data:=#[32,32] },.int .i64 9] w fun e w'=>e=.returned (.string { data:=#[32,32,32,32,32,32,32,32,32,32,32,32,32,32,32,32,32,32] })∧w=w':=by
 go_enter Tryz.func98, Tryz.ntmps98
 go_wp2_with (first|(go_at_call 117;(refine(mul_9 _).mono ?_);rintro e w2 ⟨rfl,rfl⟩)| (go_at_call 118;(refine(hp_sp _ kr kr _).mono ?_);rintro e w3 ⟨rfl,rfl⟩))
 go_ret;exact⟨by kernel_rfl,rfl⟩
theorem mul_10(w:World):Calls Tryz.prog 117 #[.int .u64 2,.int .u64 10] w fun e w'=>e=.returned (.tuple #[.int .u64 0,.int .u64 20])∧w=w':=by
 go_enter Tryz.func117, Tryz.ntmps117
 go_wp2;refine bodyPost_ret (results_tmp2 rfl _ _ _) rfl ?_;exact⟨by kernel_rfl,rfl⟩
theorem zj9(w:World):Calls Tryz.prog 98 #[.string { data:=#[32,32] },.int .i64 10] w fun e w'=>e=.returned (.string { data:=#[32,32,32,32,32,32,32,32,32,32,32,32,32,32,32,32,32,32,32,32] })∧w=w':=by
 go_enter Tryz.func98, Tryz.ntmps98
 go_wp2_with (first|(go_at_call 117;(refine(mul_10 _).mono ?_);rintro e w2 ⟨rfl,rfl⟩)| (go_at_call 118;(refine(hp_sp _ kr kr _).mono ?_);rintro e w3 ⟨rfl,rfl⟩))
 go_ret;exact⟨by kernel_rfl,rfl⟩
theorem mul_11(w:World):Calls Tryz.prog 117 #[.int .u64 2,.int .u64 11] w fun e w'=>e=.returned (.tuple #[.int .u64 0,.int .u64 22])∧w=w':=by
 go_enter Tryz.func117, Tryz.ntmps117
 go_wp2;refine bodyPost_ret (results_tmp2 rfl _ _ _) rfl ?_;exact⟨by kernel_rfl,rfl⟩
theorem zj8(w:World):Calls Tryz.prog 98 #[.string { data:=#[32,32] },.int .i64 11] w fun e w'=>e=.returned (.string { data:=#[32,32,32,32,32,32,32,32,32,32,32,32,32,32,32,32,32,32,32,32,32,32] })∧w=w':=by
 go_enter Tryz.func98, Tryz.ntmps98
 go_wp2_with (first|(go_at_call 117;(refine(mul_11 _).mono ?_);rintro e w2 ⟨rfl,rfl⟩)| (go_at_call 118;(refine(hp_sp _ kr kr _).mono ?_);rintro e w3 ⟨rfl,rfl⟩))
 go_ret;exact⟨by kernel_rfl,rfl⟩
theorem mul_12(w:World):Calls Tryz.prog 117 #[.int .u64 2,.int .u64 12] w fun e w'=>e=.returned (.tuple #[.int .u64 0,.int .u64 24])∧w=w':=by
 go_enter Tryz.func117, Tryz.ntmps117
 go_wp2;refine bodyPost_ret (results_tmp2 rfl _ _ _) rfl ?_;exact⟨by kernel_rfl,rfl⟩
theorem zj7(w:World):Calls Tryz.prog 98 #[.string { data:=#[32,32] },.int .i64 12] w fun e w'=>e=.returned (.string { data:=#[32,32,32,32,32,32,32,32,32,32,32,32,32,32,32,32,32,32,32,32,32,32,32,32] })∧w=w':=by
 go_enter Tryz.func98, Tryz.ntmps98
 go_wp2_with (first|(go_at_call 117;(refine(mul_12 _).mono ?_);rintro e w2 ⟨rfl,rfl⟩)| (go_at_call 118;(refine(hp_sp _ kr kr _).mono ?_);rintro e w3 ⟨rfl,rfl⟩))
 go_ret;exact⟨by kernel_rfl,rfl⟩
theorem zmn(d:Nat)(hd:d≤12)(w:World):Calls Tryz.prog 98 #[.string { data:=#[32,32] },.int .i64 d] w fun e w'=>e=.returned (.string (bytesOf (ind d)))∧w=w':=by
 rcases (by omega:d=0∨d=1∨d=2∨d=3∨d=4∨d=5∨d=6∨d=7∨d=8∨d=9∨d=10∨d=11∨d=12)with rfl|rfl|rfl|rfl|rfl|rfl|rfl|rfl|rfl|rfl|rfl|rfl|rfl
 · exact zmx w
 · exact zmw w
 · exact zmv w
 · exact zmu w
 · exact zmt w
 · exact zms w
 · exact zmr w
 · exact zmq w
 · exact zmp w
 · exact zmo w
 · exact zj9 w
 · exact zj8 w
 · exact zj7 w
theorem zgj(d:Nat)(hd:d≤12)(h:IsP B b l w)(hB:B≤w.heap.size)(hl:l.length+(ind d).length≤1000000000):Calls Tryz.prog 73 #[.pointer (some ⟨b,0,none⟩),.int .i64 d] w fun e w'=>PrE B b w (l++ind d) e w':=by
 have H0:=qh (PrS.start h hB);have HI:=qh (zmn d hd);have HX:Hid (flatS [bytesOf (ind d)]=ind d):=by show _=_;simp[flatS,bytesOf]
 clear h hd;generalize ind d=D at *
 go_enter Tryz.func73, Tryz.ntmps73
 go_wp2_with (first
  | (go_at_call 98;(refine(HI.out _).mono ?_);rintro e w2 ⟨rfl,rfl⟩)
  | (go_at_call 70;(refine(zad H0.out _ sy [bytesOf D] 1 rfl (by decide) (by rw[HX.out];omega)).mono ?_);rintro e w3 h3;have H3:=qh ((H0.out.al _).st h3);obtain⟨rfl,_⟩:=h3))
 go_end0
 have h6:=H3.out.fin;rw[HX.out]at h6;exact h6
theorem zeb(T:ByteArray)(r:Rf)(h:IsP B b l w)(hB:B≤w.heap.size)(hl:l.length+(nmd (tx T) r).length≤1000000000):Calls Tryz.prog 122 #[.pointer (some ⟨b,0,none⟩),.string T,.agg (rfC r).toArray] w fun e w'=>PrE B b w (l++nmd (tx T) r) e w':=by
 obtain⟨nm,at_⟩:=r
 unfold rfC
 dsimp only;have H0:=qh ((PrS.start h hB).al (.cells #[.string nm,.int .i64 at_] 36));clear h
 by_cases h:nm=zs
 · subst h
   have HV:Hid (nmd (tx T) ⟨zs,at_⟩=[]):=by show _=_;simp[nmd]
   rw[HV.out,List.append_nil];clear hl HV
   go_enter Tryz.func122, Tryz.ntmps122
   go_wp2
   go_end0
   exact H0.out.fin
 · have h2:(nm.toList == [])=false:=strl (by exact h)
   have HV:Hid (nmd (tx T) ⟨nm,at_⟩=flatS [T,nm]):=by show _=_;simp[nmd,flatS,h,tx]
   rw[HV.out]at hl ⊢;have HL:=qh hl;clear hl h HV
   go_enter Tryz.func122, Tryz.ntmps122
   go_wp2_with (go_at_call 70;(refine(zad H0.out _ sy [T,nm] 2 rfl (by decide) (by have:=HL.out;omega)).mono ?_);rintro e w3 h3;have H3:=qh ((H0.out.al _).st h3);obtain⟨rfl,_⟩:=h3)
   go_end0
   exact H3.out.fin
theorem zej{F:Nat→Prop}(A:Option Addr)(rs:List Rf)(n ca:Nat)(hn:rs.length=n)(hn8:n≤1000000)(h:IsP B b l w)(hB:B≤w.heap.size)(hl:l.length+(prR rs).length≤1000000000)(hF:∀k,F k→k<B)(hA:RfsIn F w A rs):Calls Tryz.prog 123 #[.pointer (some ⟨b,0,none⟩),.slice A n ca] w fun e w'=>PrE B b w (l++prR rs) e w':=by
 have H0:=qh (PrS.start h hB);have HA:Hid (∀W,Below B w W→RfsIn F W A rs):=fun W hW=>hA.keep ⟨hW.size,fun k hk _=>hW.block k (hF k hk),fun _ h _=>h⟩
 have HN:=qh hn;have hpi:∀i (hi:i<rs.length),(rs.map fun r=>tx r.name)[i]? = some (tx rs[i].name):=fun i hi=>by rw[List.getElem?_map,ge9 hi];rfl
 have HSL:Hid (∀i,i≤n→l.length+(sepB [44,32] ((rs.map fun r=>tx r.name).take i)).length≤1000000000):=fun i hi=>by
  have h1:=zd0 [44,32] (rs.map fun r=>tx r.name) (n-i) i (by simp;omega)
  unfold prR at hl
  omega
 have HS1:Hid (∀i (hi:i<rs.length),0<i→sepB [44,32] ((rs.map fun r=>tx r.name).take (i+1))=sepB [44,32] ((rs.map fun r=>tx r.name).take i)++[44,32]++tx rs[i].name):=fun i hi h0=>zb4 h0 (hpi i hi)
 have HS0:Hid (∀(hi:0<rs.length),sepB [44,32] ((rs.map fun r=>tx r.name).take 1)=tx rs[0].name):=fun hi=>zdc (hpi 0 hi)
 have HSN:Hid (sepB [44,32] ((rs.map fun r=>tx r.name).take n)=prR rs):=(by show _=_;rw[tk (by simp;omega)];rfl);clear h hA hn hl hpi;have hn9:(n:Int)≤1000000:=om
 go_enter Tryz.func123, Tryz.ntmps123
 go_wp2
 go_loopg [8] n (fun kk q wr=>∃i:Nat,i≤n∧kk=n-i∧q=.int .i64 (i:Int)∧Hid (PrS B b w (l++sepB [44,32] ((rs.map fun r=>tx r.name).take i)) wr))
 case atStart=>exact⟨0,by omega,by omega,rfl,by show PrS _ _ _ _ _;simpa[sepB] using H0.out⟩
 case round =>
  clear H0;obtain⟨i,hik,hk,rfl,HS⟩:=hrel
  by_cases hi:i<n
  · have hil:i<rs.length:=by have:=HN.out;omega
    obtain⟨b1,o1,rfl,hb1,x1,y1⟩:=zc1 (HA.out wr HS.out.bl) i hil;have hii:(i:Int)<(n:Int):=om;have HSI:=qh (HS1.out i hil);have HS00:=HS0.out om;have hget:i=0→rs[0]'om=rs[i]:=fun h=>by subst h;rfl
    have HLI:=qh (HSL.out (i+1) hi);generalize rs[i]=r at *;obtain⟨E,E2⟩:=r;dsimp only at *;have HZ1:Hid (Blk (wr.alloc (.cells #[.string E,.int .i64 E2] 36)) wr.heap.size 36 [.string E,.int .i64 E2]∧b<wr.heap.size):=⟨Blk.new _ _ _,HS.out.p.lt⟩;have HS2:=qh (HS.out.al (.cells #[.string E,.int .i64 E2] 36))
    by_cases h0:i=0
    · have HE1:Hid (sepB [44,32] ((rs.map fun r=>tx r.name).take 1)=tx E):=HS00.trans (by rw[hget h0])
      clear HS00 hget HA HS0 HS1 HSL;subst h0;simp only[Nat.zero_mul,Nat.add_zero,Nat.zero_add]at x1 y1
      go_wp2_with (go_at_call 70;(refine(zad HS2.out _ sy [E] 1 rfl (by decide) (by have:=HLI.out;rw[HE1.out]at this;simp[flatS,sepB,tx]at this ⊢;omega)).mono ?_);rintro e w3 h3;have H3:=qh ((HS2.out.al _).st h3);obtain⟨rfl,_⟩:=h3)
      have H6:Hid (PrS B b w (l++sepB [44,32] ((rs.map fun r=>tx r.name).take 1)) w3):=by
       have h6:=H3.out
       show PrS B b w _ w3
       rw[HE1.out]
       simpa[sepB,flatS,tx] using h6
      go_roundg (n-1)
      case measure=>omega
      case rel=>exact⟨1,by omega,by omega,by simp,H6⟩
    · have hi0:(0:Int)<(i:Int):=om
      clear HS00 hget HA HS0 HS1 HSL;rw[←Nat.add_assoc]at y1
      go_wp2_with (first
       | (go_at_call 70;(refine(zad H4.out _ sy [E] 1 rfl (by decide) (by have h7:=HLI.out;rw[HSI.out om]at h7;simp[flatS,tx]at h7 ⊢;omega)).mono ?_);rintro r w5 h5;have H5:=qh ((H4.out.al _).st h5);obtain⟨rfl,_⟩:=h5)
       | (go_at_call 70;(refine(zad HS2.out _ sy [{ data:=#[44,32] }] 1 rfl (by decide) (by have h7:=HLI.out;rw[HSI.out om]at h7;simp[flatS]at h7 ⊢;omega)).mono ?_);rintro r w4 h4;have H4:=qh ((HS2.out.al _).st h4);have HZ4:=qh (h4.2.2.2.blk (HZ1.out.1.alloc _) (by have:=HZ1.out.2;omega) (by decide));have n0:w4.cell? ⟨wr.heap.size,0,none⟩=some (.string E):=HZ4.out.cell 0;have n5:=HZ4.out.lt;obtain⟨rfl,_⟩:=h4))
      have H6:Hid (PrS B b w (l++sepB [44,32] ((rs.map fun r=>tx r.name).take (i+1))) w5):=by
       have h6:=H5.out
       show PrS B b w _ w5
       rw[HSI.out om];rw[show l++(sepB [44,32] ((rs.map fun r=>tx r.name).take i)++[44,32]++tx E)=l++sepB [44,32] ((rs.map fun r=>tx r.name).take i)++flatS [{ data:=#[44,32] }]++flatS [E] by simp[flatS,tx,List.append_assoc]];exact h6
      go_roundg (n-(i+1))
      case measure=>omega
      case rel=>exact⟨i+1,by omega,by omega,by simp,H6⟩
  · have hii:¬(i:Int)<(n:Int):=om
    obtain rfl:i=n:=om;clear HA HS0 HS1 HSL;go_wp2
    go_end0
    have h7:=HS.out.fin;rw[HSN.out]at h7;exact h7
theorem zhx{F:Nat→Prop}(A:Option Addr)(rs:List Rf)(n ca:Nat)(hn:rs.length=n)(hn8:n≤1000000)(h:IsP B b l w)(hB:B≤w.heap.size)(hl:l.length+(t_via++prR rs).length≤1000000000)(hF:∀k,F k→k<B)(hA:RfsIn F w A rs):Calls Tryz.prog 121 #[.pointer (some ⟨b,0,none⟩),.slice A n ca] w fun e w'=>PrE B b w (l++(t_via++prR rs)) e w':=by
 have H0:=qh (PrS.start h hB)
 have HR:Hid (∀W,PrS B b w (l++flatS [{ data:=#[32,118,105,97,32] }]) W→Calls Tryz.prog 123 #[.pointer (some ⟨b,0,none⟩),.slice A n ca] W fun e w'=>PrE B b W (l++flatS [{ data:=#[32,118,105,97,32] }]++prR rs) e w'):=fun W hW =>
  zej A rs n ca hn hn8 hW.p (Nat.le_trans hW.hB hW.bl.size) (by simp[flatS]at hl ⊢;omega) hF (hA.keep ⟨hW.bl.size,fun k hk _=>hW.bl.block k (hF k hk),fun _ h _=>h⟩)
 have HL:=qh hl;clear h hA hn hl
 go_enter Tryz.func121, Tryz.ntmps121
 go_wp2_with (first
  | (go_at_call 123;(refine(HR.out _ H3.out).mono ?_);rintro e w4 h4;have H4:=qh (H3.out.st h4);obtain⟨rfl,_⟩:=h4)
  | (go_at_call 70;(refine(zad H0.out _ sy [{ data:=#[32,118,105,97,32] }] 1 rfl (by decide) (by have:=HL.out;simp[flatS]at this ⊢;omega)).mono ?_);rintro e w3 h3;have H3:=qh ((H0.out.al _).st h3);obtain⟨rfl,_⟩:=h3))
 go_end0
 have h6:=H4.out.fin;rw[show l++flatS [{ data:=#[32,118,105,97,32] }]++prR rs=l++(t_via++prR rs) by simp[flatS,List.append_assoc]]at h6;exact h6
theorem zat{F:Nat→Prop}(hF:∀k,F k→k<B)(hW:Below B w w'):Keep F F w w':=⟨hW.size,fun k hk _=>hW.block k (hF k hk),fun _ h _=>h⟩
theorem zkk{F:Nat→Prop}{e:Ex}(hx:ExOk e)(M:ByteArray)(m:UInt8)(hM:tx M=[m])(a:Option Addr × Nat)(h:IsP B b l w)(hB:B≤w.heap.size)(hl:l.length+(prAt m e).length≤1000000000)(hF:∀k,F k→k<B)(hA:ArgsIn F w a.1 e.args)(hT:Tab B w):
 Calls Tryz.prog 72 #[.pointer (some ⟨b,0,none⟩),.string M,.agg (exC e a).toArray] w fun r w'=>PrE B b w (l++prAt m e) r w':=by
 have H0:=qh ((PrS.start h hB).al (.cells (exC e a).toArray 39))
 have HX:Hid (∀(q:Bool) (l:List UInt8) W,IsP B b l W→B≤W.heap.size→l.length+(par q (prE e)).length≤1000000000→Below B w W→Calls Tryz.prog 95 #[.pointer (some ⟨b,0,none⟩),.agg (exC e a).toArray,.bool q] W fun r w'=>PrE B b W (l++par q (prE e)) r w'):=fun q l W h1 h2 h3 hW =>
  zcv e a (zch hx a) q h1 h2 h3 hF (hA.keep (zat hF hW)) (hT.mv hW)
 have HZ:Hid (Blk (w.alloc (.cells (exC e a).toArray 39)) w.heap.size 39 (exC e a)∧b<w.heap.size):=⟨Blk.new _ _ _,h.lt⟩;have HM:Hid (flatS [M]=[m]):=by show _=_;rw[←hM];simp[flatS,tx]
 clear h hA hx hT hM
 unfold prAt at *
 generalize hp:prE e=P at *;clear hp
 unfold exC at *
 generalize e.op=op at *;generalize e.args.length=q at *;generalize e.num=n1 at *;generalize e.text=n2 at *;generalize e.at_=n3 at *
 by_cases h0:op=zs
 · subst h0
   rw[if_pos rfl,List.append_nil];clear hl HX HZ HM
   go_enter Tryz.func72, Tryz.ntmps72
   go_wp2
   go_end0
   exact H0.out.fin
 rw[if_neg h0]at hl ⊢;have s0:(op.toList == [])=false:=strl h0
 by_cases h1:op=k_number
 · subst h1
   simp only[decide_true,Bool.true_or,Bool.not_true]at hl ⊢;have HL:=qh hl;clear hl
   go_enter Tryz.func72, Tryz.ntmps72
   go_wp2_with (first
    | (go_at_call 95;(refine(HX.out false _ _ (by exact H3.out.p) (by exact Nat.le_trans H3.out.hB H3.out.bl.size) (by have:=HL.out;rw[HM.out];simp at this ⊢;omega) (by exact H3.out.bl)).mono ?_);rintro r w4 h4;have H4:=qh (H3.out.st h4);obtain⟨rfl,_⟩:=h4)
    | (go_at_call 70;(refine(zad H0.out _ sy [M] 1 rfl (by decide) (by have:=HL.out;rw[HM.out];simp at this ⊢;omega)).mono ?_);rintro r w3 h3;have H3:=qh ((H0.out.al _).st h3);have HZ3:=qh (h3.2.2.2.blk (HZ.out.1.alloc _) (by have:=HZ.out.2;omega) (by decide));obtain⟨n0,n1,n2,n3,n4⟩:=Blk.five HZ3.out;have n5:=HZ3.out.lt;obtain⟨rfl,_⟩:=h3))
   go_end0
   have h6:=H4.out.fin;rw[show l++flatS [M]++par false P=l++(m :: par false P) by rw[HM.out];simp[List.append_assoc]]at h6;exact h6
 · have s1:(op.toList == [110,117,109,98,101,114])=false:=strl h1
   by_cases h2:op=k_name
   · subst h2
     have HD:Hid ((!(decide ((k_name:ByteArray)=k_number)|| decide ((k_name:ByteArray)=k_name)))=false):=by show _=_;decide
     rw[HD.out]at hl ⊢;clear HD h1;have HL:=qh hl;clear hl
     go_enter Tryz.func72, Tryz.ntmps72
     go_wp2_with (first
      | (go_at_call 95;(refine(HX.out false _ _ (by exact H3.out.p) (by exact Nat.le_trans H3.out.hB H3.out.bl.size) (by have:=HL.out;rw[HM.out];simp at this ⊢;omega) (by exact H3.out.bl)).mono ?_);rintro r w4 h4;have H4:=qh (H3.out.st h4);obtain⟨rfl,_⟩:=h4)
      | (go_at_call 70;(refine(zad H0.out _ sy [M] 1 rfl (by decide) (by have:=HL.out;rw[HM.out];simp at this ⊢;omega)).mono ?_);rintro r w3 h3;have H3:=qh ((H0.out.al _).st h3);have HZ3:=qh (h3.2.2.2.blk (HZ.out.1.alloc _) (by have:=HZ.out.2;omega) (by decide));obtain⟨n0,n1,n2,n3,n4⟩:=Blk.five HZ3.out;have n5:=HZ3.out.lt;obtain⟨rfl,_⟩:=h3))
     go_end0
     have h6:=H4.out.fin;rw[show l++flatS [M]++par false P=l++(m :: par false P) by rw[HM.out];simp[List.append_assoc]]at h6;exact h6
   · have s2:(op.toList == [110,97,109,101])=false:=strl h2
     have HD:Hid ((!(decide (op=k_number)|| decide (op=k_name)))=true):=by show _=_;simp[h1,h2]
     rw[HD.out]at hl ⊢;clear HD h1 h2;have HL:=qh hl;clear hl
     go_enter Tryz.func72, Tryz.ntmps72
     go_wp2_with (first
      | (go_at_call 95;(refine(HX.out true _ _ (by exact H3.out.p) (by exact Nat.le_trans H3.out.hB H3.out.bl.size) (by have:=HL.out;rw[HM.out];simp at this ⊢;omega) (by exact H3.out.bl)).mono ?_);rintro r w4 h4;have H4:=qh (H3.out.st h4);obtain⟨rfl,_⟩:=h4)
      | (go_at_call 70;(refine(zad H0.out _ sy [M] 1 rfl (by decide) (by have:=HL.out;rw[HM.out];simp at this ⊢;omega)).mono ?_);rintro r w3 h3;have H3:=qh ((H0.out.al _).st h3);have HZ3:=qh (h3.2.2.2.blk (HZ.out.1.alloc _) (by have:=HZ.out.2;omega) (by decide));obtain⟨n0,n1,n2,n3,n4⟩:=Blk.five HZ3.out;have n5:=HZ3.out.lt;obtain⟨rfl,_⟩:=h3))
     go_end0
     have h6:=H4.out.fin;rw[show l++flatS [M]++par true P=l++(m :: par true P) by rw[HM.out];simp[List.append_assoc]]at h6;exact h6
end
end
end Go.Proofs.YtafjkbbiaopemaaGreatDoor.Tr
