/- Part of the proof. -/
import Derived.Test.YtafjkbbiaopemaaGreatDoorOpx18
set_option linter.all false
set_option maxRecDepth 100000
set_option maxHeartbeats 0
namespace Go.Proofs.YtafjkbbiaopemaaGreatDoor.Tr
open Go.RowKit
section
@[reducible] def rdC (A:Option Addr) (n c:Nat) (s:RS):List Value:=[.slice A n c,.int .i64 s.i,.int .i64 s.bo,.int .i64 s.pa,.bool s.bad,.int .i64 s.fe,.int .i64 s.fa]
structure RCx(gp:Nat)(A:Option Addr)(n:Nat)(ts:List Lx.Tok):Prop where
 tk:∀ad:Addr,A=some ad→ad.block≠gp
 hn:ts.length=n
 hn8:n≤100000
 ends:Ends ts
structure RSt(gp:Nat)(A:Option Addr)(n c:Nat)(ts:List Lx.Tok)(s:RS)(w:World):Prop where
 b:Blk w gp 70 (rdC A n c s)
 r:RdS 4 w A n (toksCells ts)
 lt:s.i<ts.length
theorem hdTk:(Tryz.prog.info? 72).map (·.size)=some 4:=by kernel_rfl
section
variable{gp:Nat}{A:Option Addr}{n c:Nat}{ts:List Lx.Tok}{s:RS}{w w':World}
theorem RSt.below(h:RSt gp A n c ts s w)(hb:Below w.heap.size w w'):RSt gp A n c ts s w':=⟨h.b.below hb h.b.lt,h.r.below hb,h.lt⟩
theorem RSt.alloc(h:RSt gp A n c ts s w)(o:Obj):RSt gp A n c ts s (w.alloc o):=h.below ((Below.refl _ _).alloc lr o)
theorem RSt.tok(h:RSt gp A n c ts s w)(cx:RCx gp A n ts):s.i<n∧∃b off,A=some ⟨b,off,none⟩∧b<w.heap.size∧w.cell? ⟨b,off+s.i*4,none⟩=some (.int .i64 (rk ts s).kind)∧w.cell? ⟨b,off+s.i*4+1,none⟩=some (.string (bytesOf (rk ts s).text))∧w.cell? ⟨b,off+s.i*4+2,none⟩=some (.int .i64 (rk ts s).num)∧w.cell? ⟨b,off+s.i*4+3,none⟩=some (.int .i64 (rk ts s).at_):=by
 have hlt:=h.lt;refine⟨by rw[←cx.hn];exact hlt,?_⟩;obtain⟨b,off,rfl,hb,hc⟩:=h.r.2 (by rw[←cx.hn];omega);have ht:ts[s.i]? = some (rk ts s):=by unfold rk tokAt;rw[ge9 hlt];rfl
 obtain⟨g0,g1,g2,g3⟩:=zjh ht;exact⟨b,off,rfl,hb,hc _ _ g0,(by rw[Nat.add_assoc];exact hc _ _ g1),(by rw[Nat.add_assoc];exact hc _ _ g2),(by rw[Nat.add_assoc];exact hc _ _ g3)⟩
theorem now_c(cx:RCx gp A n ts)(h:RSt gp A n c ts s w):Calls Tryz.prog 27 #[.pointer (some ⟨gp,0,none⟩)] w fun e w'=>e=.returned (.agg (tokCells (rk ts s)).toArray)∧Below w.heap.size w w':=by
 obtain⟨hin,b,off,rfl,hb,t0,t1,t2,t3⟩:=h.tok cx;have c0:w.cell? ⟨gp,0,none⟩=some (.slice (some ⟨b,off,none⟩) n c):=h.b.cell 0;have c1:w.cell? ⟨gp,1,none⟩=some (.int .i64 s.i):=h.b.cell 1;have hgl:=h.b.lt;have hin2:(s.i:Int)<(n:Int):=om;clear h cx;generalize rk ts s=t at *;generalize s.i=i at *
 unfold tokCells
 have mixed:Tryz.prog.follows .mixedOrders=true:=by kernel_rfl
 go_enter Tryz.func27, Tryz.ntmps27
 go_wp2
 go_region_o
 all_goals
   go_wp2;refine bodyPost_ret (res_c rfl _ w.heap.size 72 [.int .i64 t.kind,.string (bytesOf t.text),.int .i64 t.num,.int .i64 t.at_] rfl (by exact(Blk.new w _ _).drew) _ Tryz.underlying72 rfl hdTk) rfl ⟨rfl,?_⟩;exact((Below.refl _ w).alloc lr _).drew
theorem RSt.upd{s':RS}(cx:RCx gp A n ts)(h:RSt gp A n c ts s w)(ho:Only w w' gp)(hb:Blk w' gp 70 (rdC A n c s'))(hl:s'.i<ts.length):RSt gp A n c ts s' w'∧Wr [gp] w w':=⟨⟨hb,RdS.wrote' h.r ho.grown cx.tk,hl⟩,Wr.of_wrote ho.grown sy⟩
theorem RSt.upd'{s':RS}{w0:World}(cx:RCx gp A n ts)(h:RSt gp A n c ts s w)(h0:Wr [gp] w0 w)(ho:Only w w' gp)(hb:Blk w' gp 70 (rdC A n c s'))(hl:s'.i<ts.length):RSt gp A n c ts s' w'∧Wr [gp] w0 w':=⟨(h.upd cx ho hb hl).1,h0.trans (h.upd cx ho hb hl).2⟩
theorem zg4(e:Int)(cx:RCx gp A n ts)(h:RSt gp A n c ts s w):Calls Tryz.prog 30 #[.pointer (some ⟨gp,0,none⟩),.int .i64 e] w fun e' w'=>e'=.returned (.tuple #[])∧RSt gp A n c ts (rstop ts e s) w'∧Wr [gp] w w':=by
 have c4:w.cell? ⟨gp,4,none⟩=some (.bool s.bad):=h.b.cell 4;have f4:=h.b.frozen 4;have hgl:=h.b.lt
 cases hb:s.bad
 · have HR:Hid (rstop ts e s=⟨s.i,s.bo,s.pa,true,e,(rk ts s).at_⟩):=(by show _=_;unfold rstop;rw[if_neg (by rw[hb];simp)])
   have H1:Hid (RSt gp A n c ts ⟨s.i,s.bo,s.pa,true,s.fe,s.fa⟩ (w.setCell ⟨gp,4,none⟩ (.bool true))∧Wr [gp] w (w.setCell ⟨gp,4,none⟩ (.bool true))):=RSt.upd cx h ((Only.refl w gp).setCell 4 _) (h.b.set_ 4 _) h.lt;have HN:=qh (now_c cx H1.out.1);rw[hb]at c4;rw[HR.out];have HK:Hid (rk ts ⟨s.i,s.bo,s.pa,true,s.fe,s.fa⟩=rk ts s):=rfl;rw[HK.out]at HN;have HCX:=qh cx;have HLT:=qh h.lt;clear HK HR h cx hb;obtain⟨i,bo,pa,bad,fe,fa⟩:=s;dsimp only at *;generalize rk ts _=t at *
   unfold tokCells at HN
   have hf:=fld3 (.int .i64 t.kind) (.string (bytesOf t.text)) (.int .i64 t.num) (.int .i64 t.at_)
   go_enter Tryz.func30, Tryz.ntmps30
   go_wp2_with (go_at_call 27;(refine HN.out.mono ?_);rintro e1 w2 ⟨rfl,hB2⟩;have H2:Hid (RSt gp A n c ts ⟨i,bo,pa,true,fe,fa⟩ w2∧Wr [gp] w w2):=⟨H1.out.1.below hB2,H1.out.2.trans (Wr.of_below hB2)⟩;have k5:=H2.out.1.b.cell 5;have k6:=H2.out.1.b.cell 6;have j5:=H2.out.1.b.frozen 5;have j6:=H2.out.1.b.frozen 6;clear hB2)
   first|go_end0|refine bodyPost_ret (results_none rfl _ _ _) rfl ?_
   exact⟨rfl,RSt.upd' HCX.out H2.out.1 H2.out.2 (((Only.refl w2 gp).setCell 5 _).setCell 6 _) ((H2.out.1.b.set_ 5 _).set_ 6 _) HLT.out⟩
 · have HR:Hid (rstop ts e s=s):=(by show _=_;unfold rstop;rw[if_pos hb])
   rw[HR.out];rw[hb]at c4;have H0:=qh h;clear h cx HR
   go_enter Tryz.func30, Tryz.ntmps30
   go_wp2
   first|go_end0|refine bodyPost_ret (results_none rfl _ _ _) rfl ?_
   exact⟨rfl,H0.out,Wr.refl _ _⟩
end
end
section
theorem zp2(t:Lx.Tok)(T:ByteArray):isOf t [T]=((decide ((t.kind:Int)=2)|| decide ((t.kind:Int)=5)) && ((bytesOf t.text).toList == T.toList)):=by
 unfold isOf bmem
 rw[ByteArray.toList_eq,ByteArray.toList_eq,show decide ((t.kind:Int)=2)=decide (t.kind=2) from decide_eq_decide.2 om,show decide ((t.kind:Int)=5)=decide (t.kind=5) from decide_eq_decide.2 om];simp only[List.map_cons,List.map_nil,List.contains_cons,List.contains_nil,Bool.or_false]
section
variable{gp:Nat}{A:Option Addr}{n c:Nat}{ts:List Lx.Tok}{s:RS}{w w':World}
theorem is_c(T:ByteArray)(cx:RCx gp A n ts)(h:RSt gp A n c ts s w):Calls Tryz.prog 26 #[.pointer (some ⟨gp,0,none⟩),.string T] w fun e w'=>e=.returned (.bool (rIs ts T s))∧Below w.heap.size w w':=by
 have HN:=qh (now_c cx h);have H0:=qh h;have HR:Hid (rIs ts T s=(!s.bad && isOf (rk ts s) [T])):=rfl;clear h cx;generalize rk ts s=t at *;generalize hb:s.bad=b at *;have HB:=qh hb;clear hb
 unfold tokCells at HN
 have HC:Hid (∀W,Below w.heap.size w W→W.cell? ⟨gp,4,none⟩=some (.bool b)∧gp<W.heap.size):=fun W hW=>by
  have:=(H0.out.b.below hW H0.out.b.lt);exact⟨by rw[←HB.out];exact this.cell 4,this.lt⟩
 go_enter Tryz.func26, Tryz.ntmps26
 go_wp2_with (go_at_call 27;(refine HN.out.mono ?_);rintro e1 w2 ⟨rfl,hB2⟩;have H2:=qh hB2;obtain⟨k4,hl4⟩:=HC.out w2 hB2;clear hB2)
 all_goals
   go_ret;refine⟨zcb ?_,H2.out.alloc H2.out.size _⟩;rw[HR.out];rw[zp2];generalize ((bytesOf t.text).toList == T.toList)=z at *;clear HN HC H2 H0 HB HR
   simp_all
theorem zc5{T:ByteArray}(cx:RCx gp A n ts)(h:rIs ts T s=true):s.i+1<ts.length:=cx.ends s.i (fun e=>by
 unfold rIs isOf rk at h
 rw[e]at h
 simp at h)
theorem zpn(cx:RCx gp A n ts)(h:rKind ts 1 s=true):s.i+1<ts.length:=cx.ends s.i (fun e=>by
 unfold rKind rk at h
 rw[e]at h
 simp at h)
def rover(ts:List Lx.Tok)(T:ByteArray)(s:RS):RS:=if rIs ts T s then rnx s else s
theorem RSt.next(cx:RCx gp A n ts)(h:RSt gp A n c ts s w)(hl:s.i+1<ts.length):RSt gp A n c ts (rnx s) (w.setCell ⟨gp,1,none⟩ (.int .i64 ((s.i:Int)+1)))∧Wr [gp] w (w.setCell ⟨gp,1,none⟩ (.int .i64 ((s.i:Int)+1))) :=
 RSt.upd cx h ((Only.refl w gp).setCell 1 _) (by have:=h.b.set_ 1 (.int .i64 ((s.i:Int)+1));exact this) hl
theorem zbp(T:ByteArray)(cx:RCx gp A n ts)(h:RSt gp A n c ts s w):Calls Tryz.prog 65 #[.pointer (some ⟨gp,0,none⟩),.string T] w fun e w'=>e=.returned (.bool (rIs ts T s))∧RSt gp A n c ts (rover ts T s) w'∧Wr [gp] w w':=by
 have HI:=qh (is_c T cx h);have H0:=qh h;have HCX:=qh cx;have hi8:s.i<100000:=by have:=h.lt;have:=cx.hn;have:=cx.hn8;omega
 have HX:Hid (∀W,Below w.heap.size w W→W.cell? ⟨gp,1,none⟩=some (.int .i64 s.i)∧W.frozen? ⟨gp,1,none⟩=false∧gp<W.heap.size):=fun W hW=>by
  have:=(H0.out.b.below hW H0.out.b.lt);exact⟨this.cell 1,this.frozen 1,this.lt⟩
 cases hb:rIs ts T s
 · have HR:Hid (rover ts T s=s):=(by show _=_;unfold rover;rw[if_neg (by rw[hb];simp)])
   rw[hb]at HI;rw[HR.out];clear h cx hb HR
   go_enter Tryz.func65, Tryz.ntmps65
   go_wp2_with (go_at_call 26;(refine HI.out.mono ?_);rintro e1 w2 ⟨rfl,hB2⟩)
   go_ret;exact⟨rfl,H0.out.below hB2,Wr.of_below hB2⟩
 · have HR:Hid (rover ts T s=rnx s):=(by show _=_;unfold rover;rw[if_pos hb])
   have HLT:=qh (zc5 cx hb);rw[hb]at HI;rw[HR.out];clear h cx hb HR
   go_enter Tryz.func65, Tryz.ntmps65
   go_wp2_with (go_at_call 26;(refine HI.out.mono ?_);rintro e1 w2 ⟨rfl,hB2⟩;have H2:=qh hB2;obtain⟨k1,j1,l1⟩:=HX.out w2 hB2;clear hB2)
   go_ret;have:=(H0.out.below H2.out).next HCX.out HLT.out;exact⟨rfl,this.1,(Wr.of_below H2.out).trans this.2⟩
theorem zaw(T:ByteArray)(cx:RCx gp A n ts)(h:RSt gp A n c ts s w):Calls Tryz.prog 63 #[.pointer (some ⟨gp,0,none⟩),.string T] w fun e w'=>e=.returned (.tuple #[])∧RSt gp A n c ts (rneed ts T s) w'∧Wr [gp] w w':=by
 have HO:=qh (zbp T cx h);have HS:=qh (fun W (h:RSt gp A n c ts s W)=>zg4 9 cx h)
 cases hb:rIs ts T s
 · have HR:Hid (rneed ts T s=rstop ts 9 s∧rover ts T s=s):=⟨(by unfold rneed;rw[if_neg (by rw[hb];simp)]),(by unfold rover;rw[if_neg (by rw[hb];simp)])⟩
   rw[hb,HR.out.2]at HO;rw[HR.out.1];clear h cx hb HR
   go_enter Tryz.func63, Tryz.ntmps63
   go_wp2_with (first
    | (go_at_call 30;(refine(HS.out _ H2.out.1).mono ?_);rintro e1 w3 ⟨rfl,h3,hW3⟩;have H3:=qh (And.intro h3 (H2.out.2.trans hW3));clear h3 hW3)
    | (go_at_call 65;(refine HO.out.mono ?_);rintro e1 w2 ⟨rfl,h2,hW2⟩;have H2:=qh (And.intro h2 hW2);clear h2 hW2))
   first|go_end0|refine bodyPost_ret (results_none rfl _ _ _) rfl ?_
   exact⟨rfl,H3.out⟩
 · have HR:Hid (rneed ts T s=rnx s∧rover ts T s=rnx s):=⟨(by unfold rneed;rw[if_pos hb]),(by unfold rover;rw[if_pos hb])⟩
   rw[hb,HR.out.2]at HO;rw[HR.out.1];clear h cx hb HR
   go_enter Tryz.func63, Tryz.ntmps63
   go_wp2_with (go_at_call 65;(refine HO.out.mono ?_);rintro e1 w2 ⟨rfl,h2,hW2⟩;have H2:=qh (And.intro h2 hW2);clear h2 hW2)
   first|go_end0|refine bodyPost_ret (results_none rfl _ _ _) rfl ?_
   exact⟨rfl,H2.out⟩
end
end
section
section
variable{gp:Nat}{A:Option Addr}{n c:Nat}{ts:List Lx.Tok}{s:RS}{w w':World}
theorem zmt(hb:rKind ts 1 s=true):rname ts s=(⟨bytesOf (rk ts s).text,((rk ts s).at_:Int)⟩,rnx s):=by unfold rname;rw[if_pos hb]
theorem zo2(hb:rKind ts 1 s=false):rname ts s=(zR,rstop ts 9 s):=by unfold rname;rw[if_neg (by rw[hb];simp)]
theorem RSt.far'{g:Nat}(h:RSt gp A n c ts s w)(ho:Only w w' g)(hg:gp≠g)(hA:∀ad:Addr,A=some ad→ad.block≠g):RSt gp A n c ts s w':=⟨ho.blk h.b hg,RdS.wrote' h.r ho.grown hA,h.lt⟩
theorem RSt.old(cx:RCx gp A n ts)(h:RSt gp A n c ts s w):∀ad:Addr,A=some ad→ad.block<w.heap.size:=fun ad e=>by
 obtain⟨_,b,off,e2,hb,_⟩:=h.tok cx;rw[e]at e2
 injection e2 with e2
 subst e2;exact hb
theorem zcy(cx:RCx gp A n ts)(h:RSt gp A n c ts s w):Calls Tryz.prog 62 #[.pointer (some ⟨gp,0,none⟩)] w fun e w'=>e=.returned (.agg #[.string (rname ts s).1.name,.int .i64 (rname ts s).1.at_])∧RSt gp A n c ts (rname ts s).2 w'∧Wr [gp] w w':=by
 have H0:=qh h;have HCX:=qh cx;have HN:=qh (now_c cx (h.alloc (.cells #[.string zs,.int .i64 0] 36)));have HZ:Hid (∀W,Below (w.alloc (.cells #[.string zs,.int .i64 0] 36)).heap.size (w.alloc (.cells #[.string zs,.int .i64 0] 36)) W→Blk W w.heap.size 36 [.string zs,.int .i64 0]∧RSt gp A n c ts s W∧Wr [gp] w W):=fun W hW=>⟨(Blk.new w _ _).below hW sy,(h.alloc _).below hW,((Wr.refl [gp] w).alloc _).trans (Wr.of_below hW)⟩
 have hgl:=h.b.lt;have hi8:s.i<100000:=by have:=h.lt;have:=cx.hn;have:=cx.hn8;omega
 have HS:=qh (fun W (h:RSt gp A n c ts s W)=>zg4 9 cx h);have HKD:Hid (rKind ts 1 s=(!s.bad && decide ((rk ts s).kind=1))):=rfl;have HBD:=qh (rfl:s.bad=s.bad)
 unfold tokCells at HN
 cases hb:rKind ts 1 s
 · rw[zo2 hb]
   rw[HKD.out]at hb
   have hor:s.bad=true∨(s.bad=false∧((rk ts s).kind:Int)≠1):=by
    cases hbb:s.bad
    · right;rw[hbb]at hb;simp at hb;exact⟨rfl,by omega⟩
    · left;rfl
   have HB:Hid (∀W,RSt gp A n c ts s W→W.cell? ⟨gp,4,none⟩=some (.bool s.bad)∧gp<W.heap.size):=fun W hW=>⟨hW.b.cell 4,hW.b.lt⟩
   clear h cx hb HKD;generalize rk ts s=t at *;generalize s.bad=bd at *
   rcases hor with rfl|⟨rfl,hk1⟩
   all_goals
    go_enter Tryz.func62, Tryz.ntmps62
    go_wp2_with (first
     | (go_at_call 30;(refine(HS.out _ (by exact H2.out.2.1.alloc _)).mono ?_);rintro e1 w3 ⟨rfl,h3,hW3⟩;have H3:Hid (Blk w3 w.heap.size 36 [.string zs,.int .i64 0]∧RSt gp A n c ts (rstop ts 9 s) w3∧Wr [gp] w w3):=⟨(hW3.block _ (by have:=H2.out.1.lt;simp;omega) (by simp;omega)).trans (H2.out.1.alloc _),h3,(H2.out.2.2.alloc _).trans hW3⟩;have z0:=H3.out.1.cell 0;have z1:=H3.out.1.cell 1;have y0:=H3.out.1.frozen 0;have y1:=H3.out.1.frozen 1;clear h3 hW3)
     | (go_at_call 27;(refine HN.out.mono ?_);rintro e1 w2 ⟨rfl,hB2⟩;have H2:=qh (HZ.out w2 hB2);obtain⟨k4,l4⟩:=HB.out w2 H2.out.2.1;clear hB2))
    refine bodyPost_ret (res_c rfl _ w.heap.size 36 [.string zs,.int .i64 0] rfl (by exact(H3.out.1.set_ 0 _).set_ 1 _) _ Tryz.underlying36 rfl hdRf) rfl ⟨rfl,?_,(H3.out.2.2.setNew lr _).setNew lr _⟩;exact H3.out.2.1.far' (((Only.refl w3 w.heap.size).setCell 0 _).setCell 1 _) om (fun ad e=>by have:=H0.out.old HCX.out ad e;omega)
 · rw[zmt hb]
   have HLT:=qh (zpn cx hb);rw[HKD.out]at hb
   obtain⟨hbf,hk1⟩:s.bad=false∧((rk ts s).kind:Int)=1:=by
    cases hbb:s.bad
    · rw[hbb]at hb;simp at hb;exact⟨rfl,by omega⟩
    · rw[hbb]at hb;simp at hb
   have HB:Hid (∀W,RSt gp A n c ts s W→W.cell? ⟨gp,4,none⟩=some (.bool false)∧gp<W.heap.size∧W.cell? ⟨gp,1,none⟩=some (.int .i64 s.i)∧W.frozen? ⟨gp,1,none⟩=false):=fun W hW=>⟨hbf ▸ hW.b.cell 4,hW.b.lt,hW.b.cell 1,hW.b.frozen 1⟩
   clear h cx hb HKD hbf HBD;generalize rk ts s=t at *;rw[hk1]at HN;dsimp only
   go_enter Tryz.func62, Tryz.ntmps62
   go_wp2_with (go_at_call 27;(refine HN.out.mono ?_);rintro e1 w2 ⟨rfl,hB2⟩;have H2:=qh (HZ.out w2 hB2);obtain⟨k4,l4,k1,j1⟩:=HB.out w2 H2.out.2.1;have hgg:w.heap.size<w2.heap.size:=H2.out.1.lt;have z0:=H2.out.1.cell 0;have z1:=H2.out.1.cell 1;have y0:=H2.out.1.frozen 0;have y1:=H2.out.1.frozen 1;clear hB2)
   have hne:gp≠w.heap.size:=om;have H3:=H2.out.2.1.next HCX.out HLT.out;have H4:=H2.out.1.far (p:=⟨gp,1,none⟩) (Ne.symm hne) (.int .i64 ((s.i:Int)+1));refine bodyPost_ret (res_c rfl _ w.heap.size 36 [.string (bytesOf t.text),.int .i64 t.at_] rfl (by exact((H4.set_ 0 _).set_ 1 _).alloc _) _ Tryz.underlying36 rfl hdRf) rfl ⟨rfl,?_,(((H2.out.2.2.trans H3.2).setNew lr _).setNew lr _).alloc _⟩;exact(H3.1.far' (((Only.refl _ w.heap.size).setCell 0 _).setCell 1 _) hne (fun ad e=>by have:=H0.out.old HCX.out ad e;omega)).alloc _
theorem znp(cx:RCx gp A n ts)(h:RSt gp A n c ts s w)(hpa:0≤s.pa∧s.pa≤100000):Calls Tryz.prog 89 #[.pointer (some ⟨gp,0,none⟩)] w fun e w'=>e=.returned (.tuple #[])∧RSt gp A n c ts (rparen ts s) w'∧Wr [gp] w w':=by
 have HI:=qh (is_c m_lpar cx h);have H0:=qh h
 have HX:Hid (∀W,Below w.heap.size w W→W.cell? ⟨gp,3,none⟩=some (.int .i64 s.pa)∧gp<W.heap.size):=fun W hW=>by
  have:=(H0.out.b.below hW H0.out.b.lt);exact⟨this.cell 3,this.lt⟩
 have HS:=qh (fun W (h:RSt gp A n c ts s W)=>zg4 11 cx h)
 have HQ:Hid (∀q:RS,q.pa=s.pa→q.i<ts.length→∀W,RSt gp A n c ts q W→RSt gp A n c ts { q with pa:=s.pa+1 } (W.setCell ⟨gp,3,none⟩ (.int .i64 (s.pa+1)))∧Wr [gp] W (W.setCell ⟨gp,3,none⟩ (.int .i64 (s.pa+1)))):=fun q hq hl W hW =>
  RSt.upd cx hW ((Only.refl W gp).setCell 3 _) (hW.b.set_ 3 (.int .i64 (s.pa+1))) hl
 have hstop:∀e:Int,(rstop ts e s).pa=s.pa:=fun e=>by unfold rstop;split <;> rfl
 have hneed:∀q:RS,(rneed ts m_lpar q).pa=q.pa:=fun q=>by
  unfold rneed rstop rnx
  split
  · rfl
  · split <;> rfl
 have HEQ:Hid (rparen ts s = { rneed ts m_lpar (if rIs ts m_lpar s && s.pa == 12 then rstop ts 11 s else s)with pa:=s.pa+1 }):=by
  show _=_
  unfold rparen
  dsimp only;rw[hneed]
  split
  · rw[hstop]
  · rfl
 rw[HEQ.out];clear HEQ
 cases hb:(rIs ts m_lpar s && s.pa == 12)
 · rw[if_neg sy]
   have HN:=qh (fun W (h:RSt gp A n c ts s W)=>zaw m_lpar cx h);have hP:=hneed s;generalize rneed ts m_lpar s=q at *;have HP:=qh hP
   have hor:rIs ts m_lpar s=false∨(rIs ts m_lpar s=true∧s.pa≠12):=by
    cases h1:rIs ts m_lpar s
    · exact .inl rfl
    · right;rw[h1]at hb;simp at hb;exact⟨rfl,hb⟩
   generalize rIs ts m_lpar s=z at *;clear h cx hb hstop hneed hP
   rcases hor with rfl|⟨rfl,h12⟩
   all_goals
    go_enter Tryz.func89, Tryz.ntmps89
    go_wp2_with (first
     | (go_at_call 63;(refine(HN.out _ H1.out.1).mono ?_);rintro e1 w3 ⟨rfl,h3,hW3⟩;have H3:Hid (RSt gp A n c ts q w3∧Wr [gp] w w3):=⟨h3,H1.out.2.trans hW3⟩;have z3:w3.cell? ⟨gp,3,none⟩=some (.int .i64 s.pa):=HP.out ▸ h3.b.cell 3;have y3:=h3.b.frozen 3;have l3:=h3.b.lt;clear h3 hW3)
     | (go_at_call 26;(refine HI.out.mono ?_);rintro e1 w2 ⟨rfl,hB2⟩;have H1:Hid (RSt gp A n c ts s w2∧Wr [gp] w w2):=⟨H0.out.below hB2,Wr.of_below hB2⟩;obtain⟨k3,l2⟩:=HX.out w2 hB2;clear hB2))
    first|go_end0|refine bodyPost_ret (results_none rfl _ _ _) rfl ?_
    have:=HQ.out q HP.out H3.out.1.lt _ H3.out.1;exact⟨rfl,this.1,H3.out.2.trans this.2⟩
 · rw[if_pos rfl]
   have HN:=qh (fun W (h:RSt gp A n c ts (rstop ts 11 s) W)=>zaw m_lpar cx h);have hP:(rneed ts m_lpar (rstop ts 11 s)).pa=s.pa:=(hneed _).trans (hstop 11);generalize rneed ts m_lpar (rstop ts 11 s)=q at *;have HP:=qh hP;obtain⟨hz,h12⟩:rIs ts m_lpar s=true∧s.pa=12:=by simpa using hb
   rw[hz]at HI;clear h cx hb hstop hneed hP hz
   go_enter Tryz.func89, Tryz.ntmps89
   go_wp2_with (first
    | (go_at_call 63;(refine(HN.out _ H2.out.1).mono ?_);rintro e1 w3 ⟨rfl,h3,hW3⟩;have H3:Hid (RSt gp A n c ts q w3∧Wr [gp] w w3):=⟨h3,H2.out.2.trans hW3⟩;have z3:w3.cell? ⟨gp,3,none⟩=some (.int .i64 s.pa):=HP.out ▸ h3.b.cell 3;have y3:=h3.b.frozen 3;have l3:=h3.b.lt;clear h3 hW3)
    | (go_at_call 30;(refine(HS.out _ H1.out.1).mono ?_);rintro e1 w4 ⟨rfl,h4,hW4⟩;have H2:Hid (RSt gp A n c ts (rstop ts 11 s) w4∧Wr [gp] w w4):=⟨h4,H1.out.2.trans hW4⟩;clear h4 hW4)
    | (go_at_call 26;(refine HI.out.mono ?_);rintro e1 w2 ⟨rfl,hB2⟩;have H1:Hid (RSt gp A n c ts s w2∧Wr [gp] w w2):=⟨H0.out.below hB2,Wr.of_below hB2⟩;obtain⟨k3,l2⟩:=HX.out w2 hB2;clear hB2))
   first|go_end0|refine bodyPost_ret (results_none rfl _ _ _) rfl ?_
   have:=HQ.out q HP.out H3.out.1.lt _ H3.out.1;rw[show s.pa+1=13 by omega]at this ⊢;exact⟨rfl,this.1,H3.out.2.trans this.2⟩
end
end
section
structure RQ(d:Nat)(s:RS):Prop where
 p0:0≤s.pa
 p1:s.pa≤14
 d1:1≤d
 ok:s.bad=false→s.pa≤12∧14≤(d:Int)+s.pa
def RExK(gp:Nat)(A:Option Addr)(n c:Nat)(ts:List Lx.Tok)(f:FuncId)(P:RS→Ex × RS)(R:RS→Prop):Prop :=
 ∀(s:RS) (w:World),RSt gp A n c ts s w→R s→Calls Tryz.prog f #[.pointer (some ⟨gp,0,none⟩)] w fun e w'=>∃a:Option Addr × Nat,e=.returned (.agg (exC (P s).1 a).toArray)∧ArgsIn (Fr w.heap.size) w' a.1 (P s).1.args∧RSt gp A n c ts (P s).2 w'∧Wr [gp] w w'
section
variable{gp:Nat}{A:Option Addr}{n c:Nat}{ts:List Lx.Tok}{s:RS}{w w':World}
theorem zax{W:World}{g:Nat}{t:TypeId}{a b c d e a' b' c' d' e':Value}(h:Blk W g t [a,b,c,d,e]):Blk (((((W.setCell ⟨g,0,none⟩ a').setCell ⟨g,1,none⟩ b').setCell ⟨g,2,none⟩ c').setCell ⟨g,3,none⟩ d').setCell ⟨g,4,none⟩ e') g t [a',b',c',d',e']∧Only W (((((W.setCell ⟨g,0,none⟩ a').setCell ⟨g,1,none⟩ b').setCell ⟨g,2,none⟩ c').setCell ⟨g,3,none⟩ d').setCell ⟨g,4,none⟩ e') g :=
 ⟨((((h.set_ 0 _).set_ 1 _).set_ 2 _).set_ 3 _).set_ 4 _,(((((Only.refl W g).setCell 0 _).setCell 1 _).setCell 2 _).setCell 3 _).setCell 4 _⟩
theorem ze6(cx:RCx gp A n ts)(ex:RS→Ex × RS)(h:RSt gp A n c ts s w)(hc:s.bad=true∨(s.bad=false∧(((rk ts s).kind:Int)=3∨((rk ts s).kind:Int)=1))):Calls Tryz.prog 66 #[.pointer (some ⟨gp,0,none⟩)] w fun e w'=>∃a:Option Addr × Nat,e=.returned (.agg (exC (ratom ts ex s).1 a).toArray)∧ArgsIn (Fr w.heap.size) w' a.1 (ratom ts ex s).1.args∧RSt gp A n c ts (ratom ts ex s).2 w'∧Wr [gp] w w':=by
 have H0:=qh h;have HCX:=qh cx;have HN:=qh (now_c cx (h.alloc (.cells zEc.toArray 39)));have HZ:Hid (∀W,Below (w.alloc (.cells zEc.toArray 39)).heap.size (w.alloc (.cells zEc.toArray 39)) W→Blk W w.heap.size 39 zEc∧RSt gp A n c ts s W∧Wr [gp] w W):=fun W hW=>⟨(Blk.new w _ _).below hW sy,(h.alloc _).below hW,((Wr.refl [gp] w).alloc _).trans (Wr.of_below hW)⟩
 have hgl:=h.b.lt;have hi8:s.i<100000:=by have:=h.lt;have:=cx.hn;have:=cx.hn8;omega
 have HOA:Hid (∀ad:Addr,A=some ad→ad.block≠w.heap.size):=fun ad e=>by have:=h.old cx ad e;omega
 have HB:Hid (∀W,RSt gp A n c ts s W→W.cell? ⟨gp,4,none⟩=some (.bool s.bad)∧gp<W.heap.size∧W.cell? ⟨gp,1,none⟩=some (.int .i64 s.i)∧W.frozen? ⟨gp,1,none⟩=false):=fun W hW=>⟨hW.b.cell 4,hW.b.lt,hW.b.cell 1,hW.b.frozen 1⟩
 unfold tokCells at HN
 rcases hc with hb|⟨hb,hk⟩
 · have HR:Hid (ratom ts ex s=(zE,s)):=(by show _=_;unfold ratom;rw[if_pos hb])
   rw[HR.out];rw[hb]at HB;clear h cx hb HR;generalize rk ts s=t at *
   go_enter Tryz.func66, Tryz.ntmps66
   go_wp2_with (go_at_call 27;(refine HN.out.mono ?_);rintro e1 w2 ⟨rfl,hB2⟩;have H2:=qh (HZ.out w2 hB2);obtain⟨k4,l4,k1,j1⟩:=HB.out w2 H2.out.2.1;have hgg:w.heap.size<w2.heap.size:=H2.out.1.lt;obtain⟨z0,z1,z2,z3,z4⟩:=Blk.five H2.out.1;obtain⟨f0,f1,f2,f3,f4⟩:=Blk.fro5 H2.out.1;clear hB2)
   have hne:gp≠w.heap.size:=om;refine bodyPost_ret (res_c rfl _ w.heap.size 39 zEc rfl (by exact(zax H2.out.1).1.alloc _) _ Tryz.underlying39 rfl hdEx) rfl ⟨(none,0),rfl,ArgsIn.nil _ _ _,(H2.out.2.1.far' (zax H2.out.1).2 hne HOA.out).alloc _,(((((H2.out.2.2.setNew lr _).setNew lr _).setNew lr _).setNew lr _).setNew lr _).alloc _⟩
 · rcases hk with hk|hk
   · have HR:Hid (ratom ts ex s=(.mk k_number ((rk ts s).num:Int) zs ((rk ts s).at_:Int) [],rnx s)):=(by show _=_;unfold ratom;rw[if_neg (by rw[hb];simp),if_pos om])
     rw[HR.out];rw[hb]at HB;rw[hk]at HN;have HLT:=qh (cx.ends s.i (fun e=>by unfold rk at hk;rw[e]at hk;omega));clear h cx hb HR hk;generalize rk ts s=t at *
     go_enter Tryz.func66, Tryz.ntmps66
     go_wp2_with (go_at_call 27;(refine HN.out.mono ?_);rintro e1 w2 ⟨rfl,hB2⟩;have H2:=qh (HZ.out w2 hB2);obtain⟨k4,l4,k1,j1⟩:=HB.out w2 H2.out.2.1;have hgg:w.heap.size<w2.heap.size:=H2.out.1.lt;obtain⟨z0,z1,z2,z3,z4⟩:=Blk.five H2.out.1;obtain⟨f0,f1,f2,f3,f4⟩:=Blk.fro5 H2.out.1;clear hB2)
     have hne:gp≠w.heap.size:=om;have H3:=H2.out.2.1.next HCX.out HLT.out;have H4:=H2.out.1.far (p:=⟨gp,1,none⟩) (Ne.symm hne) (.int .i64 ((s.i:Int)+1));refine bodyPost_ret (res_c rfl _ w.heap.size 39 [.string k_number,.int .i64 t.num,.string zs,.int .i64 t.at_,.slice none 0 0] rfl (by exact(zax H4).1.alloc _) _ Tryz.underlying39 rfl hdEx) rfl ⟨(none,0),rfl,ArgsIn.nil _ _ _,(H3.1.far' (zax H4).2 hne HOA.out).alloc _,((((((H2.out.2.2.trans H3.2).setNew lr _).setNew lr _).setNew lr _).setNew lr _).setNew lr _).alloc _⟩
   · have HR:Hid (ratom ts ex s=(.mk k_name 0 (bytesOf (rk ts s).text) ((rk ts s).at_:Int) [],rnx s)):=(by show _=_;unfold ratom;rw[if_neg (by rw[hb];simp),if_neg om,if_pos om])
     rw[HR.out];rw[hb]at HB;rw[hk]at HN;have HLT:=qh (cx.ends s.i (fun e=>by unfold rk at hk;rw[e]at hk;omega));clear h cx hb HR hk;generalize rk ts s=t at *
     go_enter Tryz.func66, Tryz.ntmps66
     go_wp2_with (go_at_call 27;(refine HN.out.mono ?_);rintro e1 w2 ⟨rfl,hB2⟩;have H2:=qh (HZ.out w2 hB2);obtain⟨k4,l4,k1,j1⟩:=HB.out w2 H2.out.2.1;have hgg:w.heap.size<w2.heap.size:=H2.out.1.lt;obtain⟨z0,z1,z2,z3,z4⟩:=Blk.five H2.out.1;obtain⟨f0,f1,f2,f3,f4⟩:=Blk.fro5 H2.out.1;clear hB2)
     have hne:gp≠w.heap.size:=om;have H3:=H2.out.2.1.next HCX.out HLT.out;have H4:=H2.out.1.far (p:=⟨gp,1,none⟩) (Ne.symm hne) (.int .i64 ((s.i:Int)+1));refine bodyPost_ret (res_c rfl _ w.heap.size 39 [.string k_name,.int .i64 0,.string (bytesOf t.text),.int .i64 t.at_,.slice none 0 0] rfl (by exact(zax H4).1.alloc _) _ Tryz.underlying39 rfl hdEx) rfl ⟨(none,0),rfl,ArgsIn.nil _ _ _,(H3.1.far' (zax H4).2 hne HOA.out).alloc _,((((((H2.out.2.2.trans H3.2).setNew lr _).setNew lr _).setNew lr _).setNew lr _).setNew lr _).alloc _⟩
theorem zmr(h:(rparen ts s).bad=false):s.bad=false∧s.pa≠12:=by
 constructor
 · cases hb:s.bad
   · rfl
   · rw[zhn hb]at h;cases h
 · intro h12
   cases hi:rIs ts m_lpar s
   · have hh:(rparen ts s).bad=(rneed ts m_lpar s).bad:=by unfold rparen;dsimp only;rw[hi];rfl
     rw[hh,zms hi]at h
     cases h
   · have hh:(rparen ts s).bad=(rneed ts m_lpar (rstop ts 11 s)).bad:=by unfold rparen;dsimp only;rw[if_pos (by rw[hi,h12];rfl)]
     rw[hh,((za2 m_lpar (rstop ts 11 s)).st (zgi _ _)).1]at h
     cases h
theorem RQ.down{d:Nat}(hq:RQ (d+1) s)(h:(rparen ts s).bad=false):RQ d (rparen ts s):=by
 obtain⟨h1,h2⟩:=zmr h;obtain⟨h3,h4⟩:=hq.ok h1;have h5:=(zd2 (ts:=ts) s).1;have:=hq.p0;exact⟨by omega,by omega,by omega,fun _=>by omega⟩
theorem zna(cx:RCx gp A n ts)(d:Nat)(hex:RExK gp A n c ts 64 (rexpr ts d) (RQ d))(h:RSt gp A n c ts s w)(hq:RQ (d+1) s)(hb:s.bad=false)(hk3:((rk ts s).kind:Int)≠3)(hk1:((rk ts s).kind:Int)≠1):Calls Tryz.prog 66 #[.pointer (some ⟨gp,0,none⟩)] w fun e w'=>∃a:Option Addr × Nat,e=.returned (.agg (exC (ratom ts (rexpr ts d) s).1 a).toArray)∧ArgsIn (Fr w.heap.size) w' a.1 (ratom ts (rexpr ts d) s).1.args∧RSt gp A n c ts (ratom ts (rexpr ts d) s).2 w'∧Wr [gp] w w':=by
 have H0:=qh h;have HCX:=qh cx;have HN:=qh (now_c cx (h.alloc (.cells zEc.toArray 39)));have HZ:Hid (∀W,Below (w.alloc (.cells zEc.toArray 39)).heap.size (w.alloc (.cells zEc.toArray 39)) W→Blk W w.heap.size 39 zEc∧RSt gp A n c ts s W∧Wr [gp] w W):=fun W hW=>⟨(Blk.new w _ _).below hW sy,(h.alloc _).below hW,((Wr.refl [gp] w).alloc _).trans (Wr.of_below hW)⟩
 have hgl:=h.b.lt;have HOA:Hid (∀ad:Addr,A=some ad→ad.block≠w.heap.size):=fun ad e=>by have:=h.old cx ad e;omega
 have HB:Hid (∀W,RSt gp A n c ts s W→W.cell? ⟨gp,4,none⟩=some (.bool false)∧gp<W.heap.size):=fun W hW=>⟨hb ▸ hW.b.cell 4,hW.b.lt⟩
 have HP:=qh (fun W (h:RSt gp A n c ts s W)=>znp cx h ⟨hq.p0,by have:=hq.p1;omega⟩)
 unfold tokCells at HN
 cases hr:(rparen ts s).bad
 · have hq2:=hq.down hr
   have HR:Hid (ratom ts (rexpr ts d) s=((rexpr ts d (rparen ts s)).1,rshut ts (rexpr ts d (rparen ts s)).2)):=(by show _=_;unfold ratom;rw[if_neg (by rw[hb];simp),if_neg om,if_neg om,if_neg (by rw[hr];simp)]);rw[HR.out];have HRB:=qh hr;have HEX:=qh (fun W (h:RSt gp A n c ts (rparen ts s) W)=>hex _ W h hq2);have HRP:=qh (zdr (ts:=ts) d (rparen ts s));have hq0:=hq2.p0;have hq1:=hq2.p1;clear h cx hb HR hr hq hq2 hex;generalize rk ts s=t at *;generalize rparen ts s=q at *;generalize rexpr ts d q=X at *;obtain⟨⟨op,num,txt,at_,args⟩,q2⟩:=X;dsimp only [Ex.args]at *;have HEX2:Hid (∀W,RSt gp A n c ts q W→Calls Tryz.prog 64 #[.pointer (some ⟨gp,0,none⟩)] W fun e w'=>∃a:Option Addr × Nat,e=.returned (.agg #[.string op,.int .i64 num,.string txt,.int .i64 at_,.slice a.1 args.length a.2])∧ArgsIn (Fr W.heap.size) w' a.1 args∧RSt gp A n c ts q2 w'∧Wr [gp] W w'):=fun W h=>HEX.out W h
   clear HEX;have HND:=qh (fun W (h:RSt gp A n c ts q2 W)=>zaw m_rpar HCX.out h);have hp3:(rneed ts m_rpar q2).pa=q2.pa:=(zb2 _ _).1;have HSH:Hid (rshut ts q2 = { rneed ts m_rpar q2 with pa:=q2.pa-1 }):=(by show _=_;unfold rshut;dsimp only;rw[hp3]);rw[HSH.out];have hpb:0≤q2.pa∧q2.pa≤100:=by rcases HRP.out.pa with h|⟨_,h⟩ <;> omega
   clear HSH HRP;generalize rneed ts m_rpar q2=q3 at *;have HP3:=qh hp3;clear hp3
   go_enter Tryz.func66, Tryz.ntmps66
   go_wp2_with (first
    | (go_at_call 63;(refine(HND.out _ (by exact H4.out.2.2.1.alloc _)).mono ?_);rintro e4 w5 ⟨rfl,h5,hW5⟩;have H5:Hid (Blk w5 w.heap.size 39 zEc∧Blk w5 w4.heap.size 39 [.string op,.int .i64 num,.string txt,.int .i64 at_,.slice a.1 args.length a.2]∧RSt gp A n c ts q3 w5∧Wr [gp] w4 w5):=⟨(hW5.block _ (by have:=H4.out.1.lt;simp;omega) (by simp;omega)).trans (H4.out.1.alloc _),(hW5.block _ sy (by simp;omega)).trans (Blk.new _ _ _),h5,((Wr.refl [gp] w4).alloc _).trans hW5⟩;have m3:w5.cell? ⟨gp,3,none⟩=some (.int .i64 q2.pa):=HP3.out ▸ h5.b.cell 3;have mf:=h5.b.frozen 3;have ml5:=h5.b.lt;obtain⟨z0,z1,z2,z3,z4⟩:=Blk.five H5.out.1;obtain⟨f0,f1,f2,f3,f4⟩:=Blk.fro5 H5.out.1;obtain⟨u0,u1,u2,u3,u4⟩:=Blk.five H5.out.2.1;clear h5 hW5)
    | (go_at_call 64;(refine(HEX2.out _ (by exact H3.out.2.1)).mono ?_);rintro e3 w4 ⟨a,rfl,ha,h4,hW4⟩;have H4:Hid (Blk w4 w.heap.size 39 zEc∧ArgsIn (Fr w3.heap.size) w4 a.1 args∧RSt gp A n c ts q2 w4∧Wr [gp] w w4):=⟨(hW4.block _ H3.out.1.lt (by simp;omega)).trans H3.out.1,ha,h4,H3.out.2.2.trans hW4⟩;have hg4:w.heap.size<w4.heap.size:=H4.out.1.lt;have l44:=h4.b.lt;clear ha h4 hW4)
    | (go_at_call 89;(refine(HP.out _ (by exact H2.out.2.1.alloc _)).mono ?_);rintro e2 w3 ⟨rfl,h3,hW3⟩;have H3:Hid (Blk w3 w.heap.size 39 zEc∧RSt gp A n c ts q w3∧Wr [gp] w w3):=⟨(hW3.block _ (by have:=H2.out.1.lt;simp;omega) (by simp;omega)).trans (H2.out.1.alloc _),h3,(H2.out.2.2.alloc _).trans hW3⟩;have m4:w3.cell? ⟨gp,4,none⟩=some (.bool false):=HRB.out ▸ h3.b.cell 4;have ml:=h3.b.lt;have hg3:w.heap.size<w3.heap.size:=H3.out.1.lt;clear h3 hW3)
    | (go_at_call 27;(refine HN.out.mono ?_);rintro e1 w2 ⟨rfl,hB2⟩;have H2:=qh (HZ.out w2 hB2);obtain⟨k4,l4⟩:=HB.out w2 H2.out.2.1;have hgg:w.heap.size<w2.heap.size:=H2.out.1.lt;clear hB2))
   have hne:gp≠w.heap.size:=om;have H6:=RSt.upd (s':={ q3 with pa:=q2.pa-1 }) HCX.out H5.out.2.2.1 ((Only.refl w5 gp).setCell 3 _) (H5.out.2.2.1.b.set_ 3 (.int .i64 (q2.pa-1))) H5.out.2.2.1.lt;have H7:=H5.out.1.far (p:=⟨gp,3,none⟩) (Ne.symm hne) (.int .i64 (q2.pa-1));refine bodyPost_ret (res_c rfl _ w.heap.size 39 [.string op,.int .i64 num,.string txt,.int .i64 at_,.slice a.1 args.length a.2] rfl (by exact(zax H7).1) _ Tryz.underlying39 rfl hdEx) rfl ⟨a,rfl,?_,H6.1.far' (zax H7).2 hne HOA.out,((((((H4.out.2.2.2.trans H5.out.2.2.2).trans H6.2).setNew lr _).setNew lr _).setNew lr _).setNew lr _).setNew lr _⟩;refine H4.out.2.1.keep (Wr.keep (L:=[gp,w.heap.size]) ?_ _ _ (fun k hk _=>by unfold Fr at hk;simp;omega) (fun k hk _=>by unfold Fr at *;omega));exact((H5.out.2.2.2.trans H6.2).mono sy).trans (Wr.of_wrote (zax H7).2.grown sy)
 · have HR:Hid (ratom ts (rexpr ts d) s=(zE,rparen ts s)):=(by show _=_;unfold ratom;rw[if_neg (by rw[hb];simp),if_neg om,if_neg om,if_pos hr])
   rw[HR.out];have HRB:=qh hr;clear h cx hb HR hr hq hex;generalize rk ts s=t at *;generalize rparen ts s=q at *
   go_enter Tryz.func66, Tryz.ntmps66
   go_wp2_with (first
    | (go_at_call 89;(refine(HP.out _ (by exact H2.out.2.1.alloc _)).mono ?_);rintro e2 w3 ⟨rfl,h3,hW3⟩;have H3:Hid (Blk w3 w.heap.size 39 zEc∧RSt gp A n c ts q w3∧Wr [gp] w w3):=⟨(hW3.block _ (by have:=H2.out.1.lt;simp;omega) (by simp;omega)).trans (H2.out.1.alloc _),h3,(H2.out.2.2.alloc _).trans hW3⟩;have m4:w3.cell? ⟨gp,4,none⟩=some (.bool true):=HRB.out ▸ h3.b.cell 4;have ml:=h3.b.lt;obtain⟨z0,z1,z2,z3,z4⟩:=Blk.five H3.out.1;obtain⟨f0,f1,f2,f3,f4⟩:=Blk.fro5 H3.out.1;clear h3 hW3)
    | (go_at_call 27;(refine HN.out.mono ?_);rintro e1 w2 ⟨rfl,hB2⟩;have H2:=qh (HZ.out w2 hB2);obtain⟨k4,l4⟩:=HB.out w2 H2.out.2.1;have hgg:w.heap.size<w2.heap.size:=H2.out.1.lt;clear hB2))
   have hne:gp≠w.heap.size:=om;refine bodyPost_ret (res_c rfl _ w.heap.size 39 zEc rfl (by exact(zax H3.out.1).1) _ Tryz.underlying39 rfl hdEx) rfl ⟨(none,0),rfl,ArgsIn.nil _ _ _,H3.out.2.1.far' (zax H3.out.1).2 hne HOA.out,((((H3.out.2.2.setNew lr _).setNew lr _).setNew lr _).setNew lr _).setNew lr _⟩
theorem znc(cx:RCx gp A n ts)(d:Nat)(hex:RExK gp A n c ts 64 (rexpr ts d) (RQ d)):RExK gp A n c ts 66 (ratom ts (rexpr ts d)) (RQ (d+1)):=fun s w h hq=>by
 cases hb:s.bad
 · by_cases h3:((rk ts s).kind:Int)=3
   · exact ze6 cx _ h (.inr ⟨hb,.inl h3⟩)
   · by_cases h1:((rk ts s).kind:Int)=1
     · exact ze6 cx _ h (.inr ⟨hb,.inr h1⟩)
     · exact zna cx d hex h hq hb h3 h1
 · exact ze6 cx _ h (.inl hb)
end
end
end Go.Proofs.YtafjkbbiaopemaaGreatDoor.Tr
