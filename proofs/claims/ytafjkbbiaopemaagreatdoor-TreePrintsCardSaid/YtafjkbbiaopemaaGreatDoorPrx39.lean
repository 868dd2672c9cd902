/- Part of the proof. -/
import Derived.Test.YtafjkbbiaopemaaGreatDoorPrx36
import Derived.Test.YtafjkbbiaopemaaGreatDoorPrx37
import Derived.Test.YtafjkbbiaopemaaGreatDoorPrx38
set_option linter.all false
set_option maxRecDepth 100000
set_option maxHeartbeats 0
namespace Go.Proofs.YtafjkbbiaopemaaGreatDoor.Tr
open Go.RowKit
section
section
variable{w w':World}
theorem zfw{F:Nat→Prop}{ts:List Lx.Tok}(hT:TkOk ts):RsK F []:=zbp hT [] (fun _ h=>by simp at h) (fun _ h=>by simp at h) sy
theorem rsk_of{F:Nat→Prop}{ts:List Lx.Tok}(hT:TkOk ts){s:St}(h:WfS ts s):RsK F s.body∧RsK F s.els:=by
 induction h with
 | after at_ a y h1 hl hy ih=>exact⟨zbp hT y hy ih om,zfw hT⟩
 | repeat_ at_ n a y h1 h2 hl hy ih=>exact⟨zbp hT y hy ih om,zfw hT⟩
 | if_ at_ t y z h1 hl hm hy hz ihy ihz=>exact⟨zbp hT y hy ihy om,zbp hT z hz ihz om⟩
 | _=>exact⟨zfw hT,zfw hT⟩
theorem zdi(s:List UInt8){W:World}(A D:Option Addr)(ca cd:Nat)(hD:DcsIn (fun k=>k<W.heap.size) W D (parse s).1.decls)(hA:BodyIn (fun k=>k<W.heap.size) W A (parse s).1.body)(hT:Tab W.heap.size W):Calls Tryz.prog 12 #[.agg #[.slice D (parse s).1.decls.length cd,.slice A (parse s).1.body.length ca]] W fun r w'=>r=.returned (.string (bytesOf (prTop (parse s).1)))∧Below W.heap.size W w':=by
 obtain⟨ts,hTk,hd,hs,hdl,hbl,hl⟩:=zii s;exact zi8 hTk _ hd om (fun x hx=>(hs x hx).1) om (zmd fun x hx=>(hs x hx).2) A D ca cd W hD hA om (fun _ h=>h) hT
theorem zkr(s:List UInt8){F:Nat→Prop}{W:World}(A D:Option Addr)(ca cd:Nat)(hD:DcsIn F W D (parse s).1.decls)(hA:BodyIn F W A (parse s).1.body):Calls Tryz.prog 13 #[.agg #[.slice D (parse s).1.decls.length cd,.slice A (parse s).1.body.length ca]] W fun r w'=>r=.returned (.string (bytesOf (prTop (parse s).1)))∧Below W.heap.size W w':=by
 obtain⟨ts,hTk,hd,hs,hdl,hbl,hl⟩:=zii s;exact zjk hTk _ hd om (zbp hTk _ (fun x hx=>(hs x hx).1) (fun x hx=>rsk_of hTk (hs x hx).1) om) A D ca cd W hD hA om
theorem prM:bytesOf (prTop ⟨[dcX],[stX]⟩)=txtM:=by kernel_rfl
theorem Tab.up(h:Tab w.heap.size w)(hW:Below w.heap.size w w'):Tab w'.heap.size w':=fun n W h0 h1 hB=>h n W h0 h1 (hW.trans (hB.mono hW.size))
theorem zmg(w:World)(hT:Tab w.heap.size w):Calls Tryz.prog 8 #[] w fun e w'=>e=.returned (.bool true)∧Below w.heap.size w w':=by
 have HP:Hid (∀W,Calls Tryz.prog 9 #[.string srcM] W fun e w'=>∃D d gb ob cb,e=.returned (.tuple #[.agg #[.slice D 1 d,.slice (some ⟨gb,ob,none⟩) 1 cb],.agg #[.int .i64 0,.int .i64 0]])∧DcsIn (Fr W.heap.size) w' D [dcX]∧BodyIn (Fr W.heap.size) w' (some ⟨gb,ob,none⟩) [stX]∧w'.cell? ⟨gb,ob+1,none⟩=some (.int .i64 8)∧gb<w'.heap.size∧Below W.heap.size W w'):=fun W=>by
  have h:=zdr srcM W
  unfold PaK at h
  rw[parseM]at h;refine h.mono ?_;rintro e w' ⟨D,d,A,cb,rfl,hd,hb,hB⟩;obtain⟨gb,ob,p,rfl,hgb,hr,_⟩:=zdn hb 0 sy;exact⟨D,d,gb,ob,cb,rfl,hd,hb,(by have h1:w'.cell? ⟨gb,ob+0*26+1,none⟩=some (.int .i64 8):=hr 1 _ rfl;simpa using h1),hgb,hB⟩
 have HR:Hid (∀W A D ca cd,(Below w.heap.size w W∧DcsIn (fun k=>k<W.heap.size) W D [dcX]∧BodyIn (fun k=>k<W.heap.size) W A [stX])→Calls Tryz.prog 12 #[.agg #[.slice D 1 cd,.slice A 1 ca]] W fun r w'=>r=.returned (.string txtM)∧Below W.heap.size W w'):=fun W A D ca cd h=>by
  have h1:=zdi srcM.data.toList (W:=W) A D ca cd (by rw[parseM];exact h.2.1) (by rw[parseM];exact h.2.2) (hT.up h.1);rw[parseM,prM]at h1;exact h1
 clear hT
 go_enter Tryz.func8, Tryz.ntmps8
 go_wp2_with (first
  | (go_at_call 12;(refine(HR.out _ _ _ _ _ (by exact HX.out _ _)).mono ?_);rintro e w4 ⟨rfl,hB4⟩;have H4:Hid (Below w.heap.size w w4):=(HX.out _ _).1.trans (hB4.mono (HX.out _ _).1.size);clear hB4)
  | (go_at_call 9;(refine(HP.out _).mono ?_);rintro e w2 ⟨D,d,gb,ob,cb,rfl,hD,hY,x1,hgb,hB2⟩
     have HX:Hid (∀o o',Below w.heap.size w ((w2.alloc o).alloc o')∧DcsIn (fun k=>k<((w2.alloc o).alloc o').heap.size) ((w2.alloc o).alloc o') D [dcX]∧BodyIn (fun k=>k<((w2.alloc o).alloc o').heap.size) ((w2.alloc o).alloc o') (some ⟨gb,ob,none⟩) [stX]):=fun o o' =>
      ⟨zc0 hB2 hB2.size,(hD.keep (Keep.of_below (zc0 (Below.refl _ _) lr) _)).keep zd8,(hY.keep (Keep.of_below (zc0 (Below.refl _ _) lr) _)).keep zd8⟩
     clear hD hY hB2))
 go_ret;exact⟨rfl,H4.out⟩
end
end
section
section
variable{w w':World}
theorem zb9(s:ByteArray)(w:World)(T0:(parse s.data.toList).1=⟨[],[]⟩)(F1 F2:Int)(h0:(parse s.data.toList).2=(F1,F2))(hF:F1≠0)(hT:Tab w.heap.size w):Calls Tryz.prog 4 #[.string s] w fun e w'=>e=.returned (.bool true)∧Below w.heap.size w w':=by
 have HA:=qh (zmg w hT)
 have HP:Hid (∀W,Calls Tryz.prog 9 #[.string s] W fun e w'=>∃B d A c,e=.returned (.tuple #[.agg #[.slice B 0 d,.slice A 0 c],.agg #[.int .i64 F1,.int .i64 F2]])∧Below W.heap.size W w'):=fun W=>by
  have h2:=zdr s W
  unfold PaK at h2
  rw[h0,T0]at h2;exact h2.mono fun e w' ⟨B,d,A,c,e1,_,_,hB⟩=>⟨B,d,A,c,e1,hB⟩
 have HPR:Hid (∀W,Below w.heap.size w W→∀A D ca cd,Calls Tryz.prog 12 #[.agg #[.slice D 0 cd,.slice A 0 ca]] W fun r w'=>r=.returned (.string zs)∧Below W.heap.size W w'):=fun W hW A D ca cd=>by
  have h1:=zdi s.data.toList (W:=W) A D ca cd (by rw[T0];exact DcsIn.nil _ _ _) (by rw[T0];exact BodyIn.nil _ _ _) (hT.up hW);rw[T0]at h1;exact h1
 have HS:=qh znf;have hpn:(F1 != 0)=true:=by rw[bne_iff_ne];exact hF
 clear hT h0 T0 hF
 go_enter Tryz.func4, Tryz.ntmps4
 go_wp2_with (first
  | (go_at_call 11;(refine(HS.out _ _ _ _ _ _ _ _ _).mono ?_);rintro e w4 ⟨rfl,hB4⟩;have H4:=qtr H3 hB4;clear hB4)
  | (go_at_call 12;(refine(HPR.out _ (by first|exact HX.out _ _|exact Below.drew (HX.out _ _)) _ _ _ _).mono ?_);rintro e w3 ⟨rfl,hB3⟩;have H3:Hid (Below w.heap.size w w3):=(by first|exact(HX.out _ _).trans (hB3.mono (HX.out _ _).size)| exact(Below.drew (HX.out _ _)).trans (hB3.mono (Below.drew (HX.out _ _)).size));have HS3:Hid (Blk w3 w2.heap.size 26 [.slice B 0 d,.slice A 0 c]):=(by first|exact((Blk.new w2 _ _).alloc _).below hB3 (by simp <;> omega)| exact(((Blk.new w2 _ _).alloc _).drew).below hB3 (by simp <;> omega));obtain⟨n0,n1,_,_⟩:=Blk.two HS3.out;have l3:=HS3.out.lt;clear hB3)
  | (go_at_call 9;(refine(HP.out _).mono ?_);rintro e w2 ⟨B,d,A,c,rfl,hB2⟩;have HX:Hid (∀o o',Below w.heap.size w ((w2.alloc o).alloc o')):=fun o o'=>zc0 (H1.out.trans (hB2.mono H1.out.size)) (Nat.le_trans H1.out.size hB2.size)
     clear hB2)
  | (go_at_call 8;(refine HA.out.mono ?_);rintro e w1 ⟨rfl,hB1⟩;have H1:=qh hB1;clear hB1))
 go_ret;exact⟨rfl,H4.out⟩
theorem zc8(s:ByteArray)(w:World)(T:Sr)(hs:parse s.data.toList=(T,(0,0)))(X:ByteArray)(hX:X=bytesOf (prTop T))(T2:Sr)(F1 F2:Int)(h2:parse X.data.toList=(T2,(F1,F2)))
 (hc:(8000<X.size∧F1=2)∨(X.size≤8000∧F1=0∧bareT T2=bareT T∧prTop T2=prTop T)) (hT:Tab w.heap.size w):Calls Tryz.prog 4 #[.string s] w fun e w'=>e=.returned (.bool true)∧Below w.heap.size w w':=by
 have HA:=qh (zmg w hT)
 have HP:Hid (∀W,Calls Tryz.prog 9 #[.string s] W fun e w'=>∃B d A c,e=.returned (.tuple #[.agg #[.slice B T.decls.length d,.slice A T.body.length c],.agg #[.int .i64 0,.int .i64 0]])∧DcsIn (Fr W.heap.size) w' B T.decls∧BodyIn (Fr W.heap.size) w' A T.body∧Below W.heap.size W w'):=fun W=>by
  have h:=zdr s W
  unfold PaK at h
  rw[hs]at h;exact h
 have HP2:Hid (∀W,Calls Tryz.prog 9 #[.string X] W fun e w'=>∃B d A c,e=.returned (.tuple #[.agg #[.slice B T2.decls.length d,.slice A T2.body.length c],.agg #[.int .i64 F1,.int .i64 F2]])∧DcsIn (Fr W.heap.size) w' B T2.decls∧BodyIn (Fr W.heap.size) w' A T2.body∧Below W.heap.size W w'):=fun W=>by
  have h:=zdr X W
  unfold PaK at h
  rw[h2]at h;exact h
 have HPR:Hid (∀W,Below w.heap.size w W→∀A D ca cd,DcsIn (Fr 0) W D T.decls→BodyIn (Fr 0) W A T.body→Calls Tryz.prog 12 #[.agg #[.slice D T.decls.length cd,.slice A T.body.length ca]] W fun r w'=>r=.returned (.string X)∧Below W.heap.size W w'):=fun W hW A D ca cd hD hA=>by
  have h:=zdi s.data.toList (W:=W) A D ca cd (by rw[hs];exact hD.keep zd8) (by rw[hs];exact hA.keep zd8) (hT.up hW);rw[hs]at h;rw[hX];exact h
 have HRP:Hid (∀W A D ca cd,DcsIn (Fr 0) W D T.decls→BodyIn (Fr 0) W A T.body→Calls Tryz.prog 13 #[.agg #[.slice D T.decls.length cd,.slice A T.body.length ca]] W fun r w'=>r=.returned (.string X)∧Below W.heap.size W w'):=fun W A D ca cd hD hA=>by
  have h:=zkr s.data.toList (W:=W) A D ca cd (by rw[hs];exact hD) (by rw[hs];exact hA);rw[hs]at h;rw[hX];exact h
 have HPS:Hid (prTop T2=prTop T→∀W,Below w.heap.size w W→∀A D ca cd,DcsIn (Fr 0) W D T2.decls→BodyIn (Fr 0) W A T2.body→Calls Tryz.prog 12 #[.agg #[.slice D T2.decls.length cd,.slice A T2.body.length ca]] W fun r w'=>r=.returned (.string X)∧Below W.heap.size W w'):=fun he W hW A D ca cd hD hA=>by
  have h:=zdi X.data.toList (W:=W) A D ca cd (by rw[h2];exact hD.keep zd8) (by rw[h2];exact hA.keep zd8) (hT.up hW);rw[h2]at h;dsimp only at h;rw[he]at h;rw[←hX]at h;exact h
 obtain⟨hdm,hbm⟩:=zok X.data.toList;rw[h2]at hdm hbm;have HS:Hid (bareT T=bareT T2→∀(A B C D:Option Addr) (a b c d:Nat) (W:World),DcsIn (Fr 0) W A T2.decls→BodyIn (Fr 0) W B T2.body→DcsIn (Fr 0) W C T.decls→BodyIn (Fr 0) W D T.body→Calls Tryz.prog 11 #[.agg #[.slice A T2.decls.length a,.slice B T2.body.length b],.agg #[.slice C T.decls.length c,.slice D T.body.length d],.bool false] W fun e w'=>e=.returned (.bool true)∧Below W.heap.size W w'):=fun hb A B C D a b c d W hA hB hC hD=>same_f (F:=Fr 0) (G:=Fr 0) T2 T hb hdm hbm A B C D a b c d W hA hB hC hD
 clear hT hs hX h2 hdm hbm;generalize hn:T.decls.length=n at *;generalize hm:T.body.length=m at *;generalize hn2:T2.decls.length=n2 at *;generalize hm2:T2.body.length=m2 at *;clear hn hm hn2 hm2
 go_enter Tryz.func4, Tryz.ntmps4
 go_upto_region 4 with (first
  | (go_at_call 9;(refine(HP.out _).mono ?_);rintro e w2 ⟨B,d,A,c,rfl,hD2,hY2,hB2⟩;have H2:=qh (And.intro (H1.out.trans (hB2.mono H1.out.size)) (And.intro hD2 hY2));clear hD2 hY2 hB2)
  | (go_at_call 8;(refine HA.out.mono ?_);rintro e w1 ⟨rfl,hB1⟩;have H1:=qh hB1;clear hB1))
 have hup:∀(F:Nat→Prop) (W:World),Keep F (Fr 0) W W:=fun F W=>⟨lr,fun _ _ _=>rfl,fun _ _ _=>Nat.zero_le _⟩
 have HW:Hid (∀W,W=(w2.alloc (.cells #[.slice B n d,.slice A m c] 26)).alloc (.cells #[.int .i64 0,.int .i64 0] 29)→Below w.heap.size w W∧Blk W w2.heap.size 26 [.slice B n d,.slice A m c]∧Blk W (w2.heap.size+1) 29 [.int .i64 0,.int .i64 0]∧DcsIn (fun k=>k<w2.heap.size) W B T.decls∧BodyIn (fun k=>k<w2.heap.size) W A T.body∧w.heap.size≤w2.heap.size):=by
  rintro W rfl;obtain⟨h1,h2,h3⟩:=H2.out;have hb2:∀o o',Below w2.heap.size w2 ((w2.alloc o).alloc o'):=fun o o'=>zc0 (Below.refl _ _) lr
  exact⟨h1.trans ((hb2 _ _).mono h1.size),(Blk.new _ _ _).alloc _,Blk.new' sy rfl,(h2.keep zd8).keep (Keep.of_below (hb2 _ _) _),(h3.keep zd8).keep (Keep.of_below (hb2 _ _) _),h1.size⟩
 obtain⟨w4,hw4⟩:=ex9 ((w2.alloc (.cells #[.slice B n d,.slice A m c] 26)).alloc (.cells #[.int .i64 0,.int .i64 0] 29));have H4:=qh (HW.out w4 hw4);rw[←hw4];clear hw4 HW;obtain⟨gS,hgS⟩:=ex9 (w2.heap.size);rw[←hgS]at H4 ⊢;clear H1 H2 HA HP hgS;have HC:Hid (∀W,Below w4.heap.size w4 W→Blk W gS 26 [.slice B n d,.slice A m c]∧Blk W (gS+1) 29 [.int .i64 0,.int .i64 0]∧DcsIn (fun k=>k<gS) W B T.decls∧BodyIn (fun k=>k<gS) W A T.body∧Below w.heap.size w W):=fun W hW=>⟨H4.out.2.1.below hW H4.out.2.1.lt,H4.out.2.2.1.below hW H4.out.2.2.1.lt,H4.out.2.2.2.1.keep (Keep.of_below hW _),H4.out.2.2.2.2.1.keep (Keep.of_below hW _),H4.out.1.trans (hW.mono H4.out.1.size)⟩
 have n0:w4.cell? ⟨gS,0,none⟩=some (.slice B n d):=H4.out.2.1.cell 0;have n1:w4.cell? ⟨gS,1,none⟩=some (.slice A m c):=H4.out.2.1.cell 1;have m0:w4.cell? ⟨gS+1,0,none⟩=some (.int .i64 0):=H4.out.2.2.1.cell 0
 go_upto_region 9 with (first
  | (go_at_call 13;(refine(HRP.out _ _ _ _ _ ((HC.out _ (by first|exact H5.out|exact Below.drew H5.out)).2.2.1.keep (hup _ _)) ((HC.out _ (by first|exact H5.out|exact Below.drew H5.out)).2.2.2.1.keep (hup _ _))).mono ?_);rintro e w6 ⟨rfl,hB6⟩;have H6:Hid (Below w4.heap.size w4 w6):=H5.out.trans (hB6.mono H5.out.size);clear hB6)
  | (go_at_call 12;(refine(HPR.out w4 H4.out.1 _ _ _ _ (H4.out.2.2.2.1.keep (hup _ _)) (H4.out.2.2.2.2.1.keep (hup _ _))).mono ?_);rintro e w5 ⟨rfl,hB5⟩;have H5:Hid (Below w4.heap.size w4 w5):=hB5;have n0:w5.cell? ⟨gS,0,none⟩=some (.slice B n d):=(HC.out w5 hB5).1.cell 0;have n1:w5.cell? ⟨gS,1,none⟩=some (.slice A m c):=(HC.out w5 hB5).1.cell 1;clear hB5))
 clear n0 n1 m0
 go_upto_region 10 with (first
  | (go_at_call 9;(refine(HP2.out _).mono ?_);rintro e w7 ⟨B2,d2,A2,c2,rfl,hD7,hY7,hB7⟩;have H7:Hid (Below w4.heap.size w4 w7∧DcsIn (Fr w6.heap.size) w7 B2 T2.decls∧BodyIn (Fr w6.heap.size) w7 A2 T2.body):=⟨H6.out.trans (hB7.mono H6.out.size),hD7,hY7⟩;have HM:=qh (((HC.out w7 H7.out.1).2.1).alloc (.cells #[.slice B2 n2 d2,.slice A2 m2 c2] 26));obtain⟨m0,m1,q0,q1⟩:=Blk.two HM.out;have ml:=HM.out.lt;clear hD7 hY7 hB7))
 have HW9:Hid (∀W,W=((w7.alloc (.cells #[.slice B2 n2 d2,.slice A2 m2 c2] 26)).setCell ⟨gS+1,0,none⟩ (.int .i64 F1)).setCell ⟨gS+1,1,none⟩ (.int .i64 F2)→Below w.heap.size w W∧Blk W gS 26 [.slice B n d,.slice A m c]∧Blk W (gS+1) 29 [.int .i64 F1,.int .i64 F2]∧Blk W w7.heap.size 26 [.slice B2 n2 d2,.slice A2 m2 c2]∧DcsIn (Fr 0) W B T.decls∧BodyIn (Fr 0) W A T.body∧DcsIn (Fr 0) W B2 T2.decls∧BodyIn (Fr 0) W A2 T2.body):=by
  rintro W rfl;obtain⟨k1,k2,k3,k4,k5⟩:=HC.out w7 H7.out.1;have hg:w.heap.size≤gS:=H4.out.2.2.2.2.2;have hl:gS+1<w6.heap.size:=(HC.out w6 H6.out).2.1.lt;have hl7:=k2.lt;have hs1:∀(W:World) (j:Nat) (v:Value),Keep (fun k=>k<gS) (fun k=>k<gS) W (W.setCell ⟨gS+1,j,none⟩ v):=fun W j v=>⟨by simp[World.setCell],fun k hk _=>Below.heap_setCell W _ v k (by dsimp only;omega),fun _ h _=>h⟩
  have hs2:∀(W:World) (j:Nat) (v:Value),Keep (Fr w6.heap.size) (Fr w6.heap.size) W (W.setCell ⟨gS+1,j,none⟩ v):=fun W j v=>zao hl v
  have ha:∀(F:Nat→Prop) (o:Obj),Keep F F w7 (w7.alloc o):=fun F o=>Keep.of_below ((Below.refl _ _).alloc lr _) F
  refine⟨((k5.alloc k5.size _).setCell (by dsimp only;omega) _).setCell (by dsimp only;omega) _,((k1.alloc _).far (by dsimp only;omega) _).far (by dsimp only;omega) _,((k2.alloc _).set_ 0 _).set_ 1 _,((Blk.new w7 _ _).far (by dsimp only;omega) _).far (by dsimp only;omega) _,?_,?_,?_,?_⟩
  · exact(((k3.keep (ha _ _)).keep (hs1 _ _ _)).keep (hs1 _ _ _)).keep (hup _ _)
  · exact(((k4.keep (ha _ _)).keep (hs1 _ _ _)).keep (hs1 _ _ _)).keep (hup _ _)
  · exact(((H7.out.2.1.keep (ha _ _)).keep (hs2 _ _ _)).keep (hs2 _ _ _)).keep (hup _ _)
  · exact(((H7.out.2.2.keep (ha _ _)).keep (hs2 _ _ _)).keep (hs2 _ _ _)).keep (hup _ _)
 obtain⟨w9,hw9⟩:=ex9 (((w7.alloc (.cells #[.slice B2 n2 d2,.slice A2 m2 c2] 26)).setCell ⟨gS+1,0,none⟩ (.int .i64 F1)).setCell ⟨gS+1,1,none⟩ (.int .i64 F2));have H9:=qh (HW9.out w9 hw9);rw[←hw9];obtain⟨gA,hgA⟩:=ex9 (w7.heap.size);rw[←hgA]at H9 ⊢;clear HW9 hw9 hgA H4 HC H5 H6 H7 HM HPR HRP HP2 m0 m1 q0 q1 ml hup;have n0:w9.cell? ⟨gS,0,none⟩=some (.slice B n d):=H9.out.2.1.cell 0;have n1:w9.cell? ⟨gS,1,none⟩=some (.slice A m c):=H9.out.2.1.cell 1;have a0:w9.cell? ⟨gA,0,none⟩=some (.slice B2 n2 d2):=H9.out.2.2.2.1.cell 0;have a1:w9.cell? ⟨gA,1,none⟩=some (.slice A2 m2 c2):=H9.out.2.2.2.1.cell 1;have m0:w9.cell? ⟨gS+1,0,none⟩=some (.int .i64 F1):=H9.out.2.2.1.cell 0
 rcases hc with ⟨hl,rfl⟩|⟨hl,rfl,hb,hp⟩
 · have hl2:(8000:Int)<(X.size:Int):=om
   clear hl HPS HS n0 n1 a0 a1;go_wp2;go_ret;exact⟨rfl,by first|exact H9.out.1|exact Below.drew H9.out.1⟩
 · have hl2:¬(8000:Int)<(X.size:Int):=om
   have HS':=qh (HS.out hb.symm);have HPS':=qh (HPS.out hp);have HC:Hid (∀W,Below w9.heap.size w9 W→Blk W gA 26 [.slice B2 n2 d2,.slice A2 m2 c2]∧DcsIn (Fr 0) W B2 T2.decls∧BodyIn (Fr 0) W A2 T2.body∧DcsIn (Fr 0) W B T.decls∧BodyIn (Fr 0) W A T.body∧Below w.heap.size w W):=fun W hW=>⟨H9.out.2.2.2.1.below hW H9.out.2.2.2.1.lt,H9.out.2.2.2.2.2.2.1.keep (Keep.of_below hW _),H9.out.2.2.2.2.2.2.2.keep (Keep.of_below hW _),H9.out.2.2.2.2.1.keep (Keep.of_below hW _),H9.out.2.2.2.2.2.1.keep (Keep.of_below hW _),H9.out.1.trans (hW.mono H9.out.1.size)⟩
   clear hl hb hp HS HPS
   go_wp2_with (first
    | (go_at_call 12;(have hz:=H10);(refine(HPS'.out _ (by first|exact(HC.out _ H10.out).2.2.2.2.2|exact(HC.out _ (Below.drew H10.out)).2.2.2.2.2) _ _ _ _ (by first|exact(HC.out _ H10.out).2.1|exact(HC.out _ (Below.drew H10.out)).2.1) (by first|exact(HC.out _ H10.out).2.2.1|exact(HC.out _ (Below.drew H10.out)).2.2.1)).mono ?_);rintro e w11 ⟨rfl,hB11⟩;have H11:Hid (Below w.heap.size w w11):=(by first|exact(HC.out _ H10.out).2.2.2.2.2.trans (hB11.mono (HC.out _ H10.out).2.2.2.2.2.size)| exact(HC.out _ (Below.drew H10.out)).2.2.2.2.2.trans (hB11.mono (HC.out _ (Below.drew H10.out)).2.2.2.2.2.size));clear hB11)
    | (go_at_call 11;(have hz:Below w9.heap.size w9 w9.drew:=Below.drew (Below.refl _ _));(refine(HS'.out _ _ _ _ _ _ _ _ _ (by first|exact(HC.out _ (Below.refl _ _)).2.1|exact(HC.out _ hz).2.1) (by first|exact(HC.out _ (Below.refl _ _)).2.2.1|exact(HC.out _ hz).2.2.1) (by first|exact(HC.out _ (Below.refl _ _)).2.2.2.1|exact(HC.out _ hz).2.2.2.1) (by first|exact(HC.out _ (Below.refl _ _)).2.2.2.2.1|exact(HC.out _ hz).2.2.2.2.1)).mono ?_);rintro e w10 ⟨rfl,hB10⟩;have H10:Hid (Below w9.heap.size w9 w10):=(by first|exact hB10|exact hz.trans (hB10.mono hz.size));have b0:w10.cell? ⟨gA,0,none⟩=some (.slice B2 n2 d2):=(HC.out w10 H10.out).1.cell 0;have b1:w10.cell? ⟨gA,1,none⟩=some (.slice A2 m2 c2):=(HC.out w10 H10.out).1.cell 1;clear hB10 hz a0 a1 n0 n1 m0))
   go_ret;exact⟨rfl,H11.out⟩
theorem treePrints_w(s:ByteArray)(w:World)(hT:Tab w.heap.size w):Calls Tryz.prog 4 #[.string s] w fun e w'=>e=.returned (.bool true)∧Below w.heap.size w w':=by
 have hok:(parse s.data.toList).2=(0,0)→Calls Tryz.prog 4 #[.string s] w fun e w'=>e=.returned (.bool true)∧Below w.heap.size w w':=by
  intro h;have hX:(bytesOf (prTop (parse s.data.toList).1)).data.toList=prTop (parse s.data.toList).1:=zdz _
  have hsz:(bytesOf (prTop (parse s.data.toList).1)).size=(prTop (parse s.data.toList).1).length:=by
   show(bytesOf (prTop (parse s.data.toList).1)).data.size=_
   rw[←Array.length_toList,hX]
  rcases Nat.lt_or_ge 8000 (prTop (parse s.data.toList).1).length with hl|hl
  · exact zc8 s w (parse s.data.toList).1 (by rw[←h]) _ rfl ⟨[],[]⟩ 2 0 (by rw[hX];exact zjn hl) (.inl ⟨by omega,rfl⟩) hT
  · obtain⟨h1,h2,h3⟩:=zhl h hl
    exact zc8 s w (parse s.data.toList).1 (by rw[←h]) _ rfl (parse (prTop (parse s.data.toList).1)).1 0 0 (by rw[hX,←h1]) (.inr ⟨by omega,rfl,h2,h3⟩) hT
 rcases zl3 s.data.toList with h|⟨h1,h⟩
 · exact hok h
 · rcases h with ⟨h2,_⟩|⟨q,h2|h2,_⟩
   · exact zb9 s w h1 _ _ h2 (by decide) hT
   · exact zb9 s w h1 _ _ h2 (by decide) hT
   · exact zb9 s w h1 _ _ h2 (by decide) hT
end
end
end Go.Proofs.YtafjkbbiaopemaaGreatDoor.Tr
