/- Part of the proof. -/
import Derived.Test.YtafjkbbiaopemaaGreatDoorBax18
set_option linter.all false
set_option maxRecDepth 100000
set_option maxHeartbeats 0
namespace Go.Proofs.YtafjkbbiaopemaaGreatDoor.Tr
open Go.RowKit
section
section
variable{gp gs gt:Nat}{A:Option Addr}{n c:Nat}{ts:List Lx.Tok}{s q q':PS}{w w' w0:World}{T T':St}{p p':StA}
theorem LnS.al(h:LnS gp gs gt A n c ts w0 T p q w)(o:Obj):LnS gp gs gt A n c ts w0 T p q (w.alloc o):=h.call (h.st.alloc o) ((Wr.refl _ _).alloc o)
theorem zn6{X:Rf}{B:Nat}(hB:B≤w.heap.size):RfsIn (Fr B) (w.alloc (.cells (rfC X).toArray 36)) (some ⟨w.heap.size,0,none⟩) [X] :=
 ⟨RdS.new w _ (rfC X) 2 rfl,fun _ ad e=>by injection e with e;subst e;exact⟨hB,trivial⟩⟩
theorem zi3(cx:Cx gp gs A n ts)(at_:Int)(p0:StA)(hS:LnS gp gs gt A n c ts w (.mk k_split at_ zR zE zE zE [] zR zR [] []) p0 s w)(_hq:Q 14 s):
 Calls Tryz.prog 56 #[.pointer (some ⟨gp,0,none⟩),.pointer (some ⟨gt,0,none⟩)] w fun e w'=>e=.returned (.tuple #[])∧∃p',LnS gp gs gt A n c ts w (lineP ts k_split at_ s).1 p' (lineP ts k_split at_ s).2 w':=by
 have HT:Hid (lineP ts k_split at_ s=(.mk k_split at_ zR (EX ts (s)).1 zE zE (viaP ts true ((EX ts (s)).2)).1 zR (tagP ts ((viaP ts true ((EX ts (s)).2)).2)).1 [] [],(tagP ts ((viaP ts true ((EX ts (s)).2)).2)).2)):=rfl;rw[HT.out];have C1:=qh (fun W (h:PSt gp gs A n c ts (s) W)=>za3 cx 14 (s) W h (_hq));have C2:=qh (fun W (h:PSt gp gs A n c ts ((EX ts (s)).2) W)=>via_c cx h true);have C3:=qh (fun W (h:PSt gp gs A n c ts ((viaP ts true ((EX ts (s)).2)).2) W)=>tag_c cx h);have HS0:=qh hS;have hc0:w.cell? ⟨gt,0,none⟩=some (.string k_split):=hS.e.cell 0;clear hS _hq HT;generalize (EX ts (s)).1=X1 at *;generalize (EX ts (s)).2=q1 at *;generalize (viaP ts true (q1)).1=X2 at *;generalize (viaP ts true (q1)).2=q2 at *;generalize (tagP ts (q2)).1=X3 at *;generalize (tagP ts (q2)).2=q3 at *
 go_enter Tryz.func56, Tryz.ntmps56
 go_wp2_with (first
  | (refine zae rfl 36 (.tmp 48) (.tmp 46) rfl gt 22 (rfC X3) rr rr 42 (stC (.mk k_split at_ zR X1 zE zE X2 zR zR [] []) ⟨a1,p0.b,p0.c,(A2,c2),p0.y,p0.z⟩) (by exact HS4.out.e) hdRf (zbo X3) (by show 22+2≤26;omega) ?_;intro w5_ hb3 ho3;have HS5:Hid (LnS gp gs gt A n c ts w (.mk k_split at_ zR X1 zE zE X2 zR X3 [] []) ⟨a1,p0.b,p0.c,(A2,c2),p0.y,p0.z⟩ q3 w5_):=HS4.out.put ho3 (by exact hb3) HS4.out.ar;clear hb3 ho3)
  | (go_at_call 86;(refine(C3.out _ (by exact HS3_.out.st)).mono ?_);rintro e w4_ ⟨rfl,h2,hW2⟩;have HS4:=qh (HS3_.out.call h2 hW2);clear h2 hW2)
  | (go_at_call 85;(refine(C2.out _ (by exact HS2.out.st)).mono ?_);rintro e w3_ ⟨A2,c2,rfl,hr,h2,hW2⟩;have HR:=qh (RfsIn.up HS2.out hr);have HS3:=qh (HS2.out.call h2 hW2);have c19_2:w3_.cell? ⟨gt,19,none⟩=some (.slice (p0.r).1 0 (p0.r).2):=HS3.out.e.cell 19;have f19_2:=HS3.out.e.frozen 19;have HS3_:Hid (LnS gp gs gt A n c ts w (.mk k_split at_ zR X1 zE zE X2 zR zR [] []) ⟨a1,p0.b,p0.c,(A2,c2),p0.y,p0.z⟩ q2 (w3_.setCell ⟨gt,19,none⟩ (.slice A2 X2.length c2))):=HS3.out.one 19 _ rfl ⟨⟨HS3.out.ar.1.1,HS3.out.ar.1.2.1,HS3.out.ar.1.2.2.1,HR.out⟩,HS3.out.ar.2⟩;clear hr h2 hW2)
  | (refine zae rfl 39 (.tmp 38) (.tmp 36) rfl gt 4 (exC X1 a1) rr rr 42 (stC (.mk k_split at_ zR zE zE zE [] zR zR [] []) ⟨p0.a,p0.b,p0.c,p0.r,p0.y,p0.z⟩) (by exact HS1.out.e) hdEx (zau X1 a1) (by show 4+5≤26;omega) ?_;intro w2_ hb3 ho3;have HS2:Hid (LnS gp gs gt A n c ts w (.mk k_split at_ zR X1 zE zE [] zR zR [] []) ⟨a1,p0.b,p0.c,p0.r,p0.y,p0.z⟩ q1 w2_):=HS1.out.put ho3 (by exact hb3) ⟨⟨HA1.out,HS1.out.ar.1.2.1,HS1.out.ar.1.2.2.1,HS1.out.ar.1.2.2.2⟩,HS1.out.ar.2⟩;clear hb3 ho3)
  | (go_at_call 50;(refine(C1.out _ (by exact HS0.out.st)).mono ?_);rintro e w1_ ⟨a1,rfl,ha,h2,hW2⟩;have HA1:=qh (ArgsIn.up HS0.out ha);have HS1:=qh (HS0.out.call h2 hW2);clear ha h2 hW2))
 go_end0
 exact⟨rfl,_,HS5.out⟩
theorem zi8(cx:Cx gp gs A n ts)(at_:Int)(p0:StA)(hS:LnS gp gs gt A n c ts w (.mk k_cover at_ zR zE zE zE [] zR zR [] []) p0 s w)(_hq:Q 14 s):
 Calls Tryz.prog 56 #[.pointer (some ⟨gp,0,none⟩),.pointer (some ⟨gt,0,none⟩)] w fun e w'=>e=.returned (.tuple #[])∧∃p',LnS gp gs gt A n c ts w (lineP ts k_cover at_ s).1 p' (lineP ts k_cover at_ s).2 w':=by
 have HT:Hid (lineP ts k_cover at_ s=(.mk k_cover at_ zR zE zE zE [(refP ts (s)).1] zR zR [] [],(refP ts (s)).2)):=rfl;rw[HT.out];have C1:=qh (fun W (h:PSt gp gs A n c ts (s) W)=>ref_c cx h);have HS0:=qh hS;have hc0:w.cell? ⟨gt,0,none⟩=some (.string k_cover):=hS.e.cell 0;clear hS _hq HT;generalize (refP ts (s)).1=X1 at *;generalize (refP ts (s)).2=q1 at *
 unfold rfC at C1
 go_enter Tryz.func56, Tryz.ntmps56
 go_wp2_with (first
  | (go_at_call 48;(refine(C1.out _ (by exact HS0.out.st)).mono ?_);rintro e w1_ ⟨rfl,h2,hW2⟩;have HZ:=qh (HS0.out.call h2 hW2);have HS1:=qh (LnS.al HZ.out (.cells (rfC X1).toArray 36));have c19_1:(w1_.alloc (.cells #[.string X1.name,.int .i64 X1.at_] 36)).cell? ⟨gt,19,none⟩=some (.slice (p0.r).1 0 (p0.r).2):=HS1.out.e.cell 19;have f19_1:(w1_.alloc (.cells #[.string X1.name,.int .i64 X1.at_] 36)).frozen? ⟨gt,19,none⟩=false:=HS1.out.e.frozen 19;have HS1_:Hid (LnS gp gs gt A n c ts w (.mk k_cover at_ zR zE zE zE [X1] zR zR [] []) ⟨p0.a,p0.b,p0.c,(some ⟨w1_.heap.size,0,none⟩,1),p0.y,p0.z⟩ q1 ((w1_.alloc (.cells (rfC X1).toArray 36)).setCell ⟨gt,19,none⟩ (.slice (some ⟨w1_.heap.size,0,none⟩) 1 1))):=HS1.out.one 19 _ rfl ⟨⟨HS1.out.ar.1.1,HS1.out.ar.1.2.1,HS1.out.ar.1.2.2.1,(zn6 HZ.out.wr.size)⟩,HS1.out.ar.2⟩;clear h2 hW2))
 go_end0
 exact⟨rfl,_,HS1_.out⟩
theorem zi9(cx:Cx gp gs A n ts)(at_:Int)(p0:StA)(hS:LnS gp gs gt A n c ts w (.mk k_block at_ zR zE zE zE [] zR zR [] []) p0 s w)(_hq:Q 14 s):
 Calls Tryz.prog 56 #[.pointer (some ⟨gp,0,none⟩),.pointer (some ⟨gt,0,none⟩)] w fun e w'=>e=.returned (.tuple #[])∧∃p',LnS gp gs gt A n c ts w (lineP ts k_block at_ s).1 p' (lineP ts k_block at_ s).2 w':=by
 have HT:Hid (lineP ts k_block at_ s=(.mk k_block at_ (refP ts (s)).1 zE zE zE (viaP ts false ((refP ts (s)).2)).1 zR zR [] [],(viaP ts false ((refP ts (s)).2)).2)):=rfl;rw[HT.out];have C1:=qh (fun W (h:PSt gp gs A n c ts (s) W)=>ref_c cx h);have C2:=qh (fun W (h:PSt gp gs A n c ts ((refP ts (s)).2) W)=>via_c cx h false);have HS0:=qh hS;have hc0:w.cell? ⟨gt,0,none⟩=some (.string k_block):=hS.e.cell 0;clear hS _hq HT;generalize (refP ts (s)).1=X1 at *;generalize (refP ts (s)).2=q1 at *;generalize (viaP ts false (q1)).1=X2 at *;generalize (viaP ts false (q1)).2=q2 at *
 go_enter Tryz.func56, Tryz.ntmps56
 go_wp2_with (first
  | (go_at_call 85;(refine(C2.out _ (by exact HS2.out.st)).mono ?_);rintro e w3_ ⟨A2,c2,rfl,hr,h2,hW2⟩;have HR:=qh (RfsIn.up HS2.out hr);have HS3:=qh (HS2.out.call h2 hW2);have c19_2:w3_.cell? ⟨gt,19,none⟩=some (.slice (p0.r).1 0 (p0.r).2):=HS3.out.e.cell 19;have f19_2:=HS3.out.e.frozen 19;have HS3_:Hid (LnS gp gs gt A n c ts w (.mk k_block at_ X1 zE zE zE X2 zR zR [] []) ⟨p0.a,p0.b,p0.c,(A2,c2),p0.y,p0.z⟩ q2 (w3_.setCell ⟨gt,19,none⟩ (.slice A2 X2.length c2))):=HS3.out.one 19 _ rfl ⟨⟨HS3.out.ar.1.1,HS3.out.ar.1.2.1,HS3.out.ar.1.2.2.1,HR.out⟩,HS3.out.ar.2⟩;clear hr h2 hW2)
  | (refine zae rfl 36 (.tmp 70) (.tmp 68) rfl gt 2 (rfC X1) rr rr 42 (stC (.mk k_block at_ zR zE zE zE [] zR zR [] []) ⟨p0.a,p0.b,p0.c,p0.r,p0.y,p0.z⟩) (by exact HS1.out.e) hdRf (zbo X1) (by show 2+2≤26;omega) ?_;intro w2_ hb3 ho3;have HS2:Hid (LnS gp gs gt A n c ts w (.mk k_block at_ X1 zE zE zE [] zR zR [] []) ⟨p0.a,p0.b,p0.c,p0.r,p0.y,p0.z⟩ q1 w2_):=HS1.out.put ho3 (by exact hb3) HS1.out.ar;clear hb3 ho3)
  | (go_at_call 48;(refine(C1.out _ (by exact HS0.out.st)).mono ?_);rintro e w1_ ⟨rfl,h2,hW2⟩;have HS1:=qh (HS0.out.call h2 hW2);clear h2 hW2))
 go_end0
 exact⟨rfl,_,HS3_.out⟩
theorem zi6(cx:Cx gp gs A n ts)(at_:Int)(p0:StA)(hS:LnS gp gs gt A n c ts w (.mk k_retry at_ zR zE zE zE [] zR zR [] []) p0 s w)(_hq:Q 14 s):
 Calls Tryz.prog 56 #[.pointer (some ⟨gp,0,none⟩),.pointer (some ⟨gt,0,none⟩)] w fun e w'=>e=.returned (.tuple #[])∧∃p',LnS gp gs gt A n c ts w (lineP ts k_retry at_ s).1 p' (lineP ts k_retry at_ s).2 w':=by
 have HT:Hid (lineP ts k_retry at_ s=(.mk k_retry at_ zR (EX ts (s)).1 (EX ts (takeP ts k_every ((EX ts (s)).2))).1 (EX ts (takeP ts k_send ((EX ts (takeP ts k_every ((EX ts (s)).2))).2))).1 (viaP ts false ((EX ts (takeP ts k_send ((EX ts (takeP ts k_every ((EX ts (s)).2))).2))).2)).1 zR (tagP ts ((viaP ts false ((EX ts (takeP ts k_send ((EX ts (takeP ts k_every ((EX ts (s)).2))).2))).2)).2)).1 [] [],(tagP ts ((viaP ts false ((EX ts (takeP ts k_send ((EX ts (takeP ts k_every ((EX ts (s)).2))).2))).2)).2)).2)):=rfl;rw[HT.out];have C1:=qh (fun W (h:PSt gp gs A n c ts (s) W)=>za3 cx 14 (s) W h (_hq));have C2:=qh (fun W (h:PSt gp gs A n c ts ((EX ts (s)).2) W)=>zbk cx h k_every);have C3:=qh (fun W (h:PSt gp gs A n c ts (takeP ts k_every ((EX ts (s)).2)) W)=>za3 cx 14 (takeP ts k_every ((EX ts (s)).2)) W h (((_hq).pg (zaw cx.ends 14 (s))).pg (zar cx.ends k_every ((EX ts (s)).2))));have C4:=qh (fun W (h:PSt gp gs A n c ts ((EX ts (takeP ts k_every ((EX ts (s)).2))).2) W)=>zbk cx h k_send);have C5:=qh (fun W (h:PSt gp gs A n c ts (takeP ts k_send ((EX ts (takeP ts k_every ((EX ts (s)).2))).2)) W)=>za3 cx 14 (takeP ts k_send ((EX ts (takeP ts k_every ((EX ts (s)).2))).2)) W h (((((_hq).pg (zaw cx.ends 14 (s))).pg (zar cx.ends k_every ((EX ts (s)).2))).pg (zaw cx.ends 14 (takeP ts k_every ((EX ts (s)).2)))).pg (zar cx.ends k_send ((EX ts (takeP ts k_every ((EX ts (s)).2))).2))));have C6:=qh (fun W (h:PSt gp gs A n c ts ((EX ts (takeP ts k_send ((EX ts (takeP ts k_every ((EX ts (s)).2))).2))).2) W)=>via_c cx h false);have C7:=qh (fun W (h:PSt gp gs A n c ts ((viaP ts false ((EX ts (takeP ts k_send ((EX ts (takeP ts k_every ((EX ts (s)).2))).2))).2)).2) W)=>tag_c cx h);have HS0:=qh hS;have hc0:w.cell? ⟨gt,0,none⟩=some (.string k_retry):=hS.e.cell 0;clear hS _hq HT;generalize (EX ts (s)).1=X1 at *;generalize (EX ts (s)).2=q1 at *;generalize takeP ts k_every (q1)=q2 at *;generalize (EX ts (q2)).1=X3 at *;generalize (EX ts (q2)).2=q3 at *;generalize takeP ts k_send (q3)=q4 at *;generalize (EX ts (q4)).1=X5 at *;generalize (EX ts (q4)).2=q5 at *;generalize (viaP ts false (q5)).1=X6 at *;generalize (viaP ts false (q5)).2=q6 at *;generalize (tagP ts (q6)).1=X7 at *;generalize (tagP ts (q6)).2=q7 at *
 go_enter Tryz.func56, Tryz.ntmps56
 go_wp2_with (first
  | (refine zae rfl 36 (.tmp 106) (.tmp 104) rfl gt 22 (rfC X7) rr rr 42 (stC (.mk k_retry at_ zR X1 X3 X5 X6 zR zR [] []) ⟨a1,a3,a5,(A6,c6),p0.y,p0.z⟩) (by exact HS10.out.e) hdRf (zbo X7) (by show 22+2≤26;omega) ?_;intro w11_ hb3 ho3;have HS11:Hid (LnS gp gs gt A n c ts w (.mk k_retry at_ zR X1 X3 X5 X6 zR X7 [] []) ⟨a1,a3,a5,(A6,c6),p0.y,p0.z⟩ q7 w11_):=HS10.out.put ho3 (by exact hb3) HS10.out.ar;clear hb3 ho3)
  | (go_at_call 86;(refine(C7.out _ (by exact HS9_.out.st)).mono ?_);rintro e w10_ ⟨rfl,h2,hW2⟩;have HS10:=qh (HS9_.out.call h2 hW2);clear h2 hW2)
  | (go_at_call 85;(refine(C6.out _ (by exact HS8.out.st)).mono ?_);rintro e w9_ ⟨A6,c6,rfl,hr,h2,hW2⟩;have HR:=qh (RfsIn.up HS8.out hr);have HS9:=qh (HS8.out.call h2 hW2);have c19_6:w9_.cell? ⟨gt,19,none⟩=some (.slice (p0.r).1 0 (p0.r).2):=HS9.out.e.cell 19;have f19_6:=HS9.out.e.frozen 19;have HS9_:Hid (LnS gp gs gt A n c ts w (.mk k_retry at_ zR X1 X3 X5 X6 zR zR [] []) ⟨a1,a3,a5,(A6,c6),p0.y,p0.z⟩ q6 (w9_.setCell ⟨gt,19,none⟩ (.slice A6 X6.length c6))):=HS9.out.one 19 _ rfl ⟨⟨HS9.out.ar.1.1,HS9.out.ar.1.2.1,HS9.out.ar.1.2.2.1,HR.out⟩,HS9.out.ar.2⟩;clear hr h2 hW2)
  | (refine zae rfl 39 (.tmp 96) (.tmp 94) rfl gt 14 (exC X5 a5) rr rr 42 (stC (.mk k_retry at_ zR X1 X3 zE [] zR zR [] []) ⟨a1,a3,p0.c,p0.r,p0.y,p0.z⟩) (by exact HS7.out.e) hdEx (zau X5 a5) (by show 14+5≤26;omega) ?_;intro w8_ hb3 ho3;have HS8:Hid (LnS gp gs gt A n c ts w (.mk k_retry at_ zR X1 X3 X5 [] zR zR [] []) ⟨a1,a3,a5,p0.r,p0.y,p0.z⟩ q5 w8_):=HS7.out.put ho3 (by exact hb3) ⟨⟨HS7.out.ar.1.1,HS7.out.ar.1.2.1,HA5.out,HS7.out.ar.1.2.2.2⟩,HS7.out.ar.2⟩;clear hb3 ho3)
  | (go_at_call 50;(refine(C5.out _ (by exact HS6.out.st)).mono ?_);rintro e w7_ ⟨a5,rfl,ha,h2,hW2⟩;have HA5:=qh (ArgsIn.up HS6.out ha);have HS7:=qh (HS6.out.call h2 hW2);clear ha h2 hW2)
  | (go_at_call 49;(with_reducible refine(C4.out _ (by exact HS5.out.st)).mono ?_);rintro e w6_ ⟨rfl,h2,hW2⟩;have HS6:=qh (HS5.out.call h2 hW2);clear h2 hW2)
  | (refine zae rfl 39 (.tmp 89) (.tmp 87) rfl gt 9 (exC X3 a3) rr rr 42 (stC (.mk k_retry at_ zR X1 zE zE [] zR zR [] []) ⟨a1,p0.b,p0.c,p0.r,p0.y,p0.z⟩) (by exact HS4.out.e) hdEx (zau X3 a3) (by show 9+5≤26;omega) ?_;intro w5_ hb3 ho3;have HS5:Hid (LnS gp gs gt A n c ts w (.mk k_retry at_ zR X1 X3 zE [] zR zR [] []) ⟨a1,a3,p0.c,p0.r,p0.y,p0.z⟩ q3 w5_):=HS4.out.put ho3 (by exact hb3) ⟨⟨HS4.out.ar.1.1,HA3.out,HS4.out.ar.1.2.2.1,HS4.out.ar.1.2.2.2⟩,HS4.out.ar.2⟩;clear hb3 ho3)
  | (go_at_call 50;(refine(C3.out _ (by exact HS3.out.st)).mono ?_);rintro e w4_ ⟨a3,rfl,ha,h2,hW2⟩;have HA3:=qh (ArgsIn.up HS3.out ha);have HS4:=qh (HS3.out.call h2 hW2);clear ha h2 hW2)
  | (go_at_call 49;(with_reducible refine(C2.out _ (by exact HS2.out.st)).mono ?_);rintro e w3_ ⟨rfl,h2,hW2⟩;have HS3:=qh (HS2.out.call h2 hW2);clear h2 hW2)
  | (refine zae rfl 39 (.tmp 82) (.tmp 80) rfl gt 4 (exC X1 a1) rr rr 42 (stC (.mk k_retry at_ zR zE zE zE [] zR zR [] []) ⟨p0.a,p0.b,p0.c,p0.r,p0.y,p0.z⟩) (by exact HS1.out.e) hdEx (zau X1 a1) (by show 4+5≤26;omega) ?_;intro w2_ hb3 ho3;have HS2:Hid (LnS gp gs gt A n c ts w (.mk k_retry at_ zR X1 zE zE [] zR zR [] []) ⟨a1,p0.b,p0.c,p0.r,p0.y,p0.z⟩ q1 w2_):=HS1.out.put ho3 (by exact hb3) ⟨⟨HA1.out,HS1.out.ar.1.2.1,HS1.out.ar.1.2.2.1,HS1.out.ar.1.2.2.2⟩,HS1.out.ar.2⟩;clear hb3 ho3)
  | (go_at_call 50;(refine(C1.out _ (by exact HS0.out.st)).mono ?_);rintro e w1_ ⟨a1,rfl,ha,h2,hW2⟩;have HA1:=qh (ArgsIn.up HS0.out ha);have HS1:=qh (HS0.out.call h2 hW2);clear ha h2 hW2))
 go_end0
 exact⟨rfl,_,HS11.out⟩
theorem zi7(cx:Cx gp gs A n ts)(at_:Int)(p0:StA)(hS:LnS gp gs gt A n c ts w (.mk k_every at_ zR zE zE zE [] zR zR [] []) p0 s w)(_hq:Q 14 s):
 Calls Tryz.prog 56 #[.pointer (some ⟨gp,0,none⟩),.pointer (some ⟨gt,0,none⟩)] w fun e w'=>e=.returned (.tuple #[])∧∃p',LnS gp gs gt A n c ts w (lineP ts k_every at_ s).1 p' (lineP ts k_every at_ s).2 w':=by
 have HT:Hid (lineP ts k_every at_ s=(.mk k_every at_ zR (EX ts (s)).1 (EX ts (takeP ts k_times ((EX ts (s)).2))).1 zE [(refP ts (takeP ts k_cover ((EX ts (takeP ts k_times ((EX ts (s)).2))).2))).1] zR zR [] [],(refP ts (takeP ts k_cover ((EX ts (takeP ts k_times ((EX ts (s)).2))).2))).2)):=rfl;rw[HT.out];have C1:=qh (fun W (h:PSt gp gs A n c ts (s) W)=>za3 cx 14 (s) W h (_hq));have C2:=qh (fun W (h:PSt gp gs A n c ts ((EX ts (s)).2) W)=>zbk cx h k_times);have C3:=qh (fun W (h:PSt gp gs A n c ts (takeP ts k_times ((EX ts (s)).2)) W)=>za3 cx 14 (takeP ts k_times ((EX ts (s)).2)) W h (((_hq).pg (zaw cx.ends 14 (s))).pg (zar cx.ends k_times ((EX ts (s)).2))));have C4:=qh (fun W (h:PSt gp gs A n c ts ((EX ts (takeP ts k_times ((EX ts (s)).2))).2) W)=>zbk cx h k_cover);have C5:=qh (fun W (h:PSt gp gs A n c ts (takeP ts k_cover ((EX ts (takeP ts k_times ((EX ts (s)).2))).2)) W)=>ref_c cx h);have HS0:=qh hS;have hc0:w.cell? ⟨gt,0,none⟩=some (.string k_every):=hS.e.cell 0;clear hS _hq HT;generalize (EX ts (s)).1=X1 at *;generalize (EX ts (s)).2=q1 at *;generalize takeP ts k_times (q1)=q2 at *;generalize (EX ts (q2)).1=X3 at *;generalize (EX ts (q2)).2=q3 at *;generalize takeP ts k_cover (q3)=q4 at *;generalize (refP ts (q4)).1=X5 at *;generalize (refP ts (q4)).2=q5 at *
 unfold rfC at C5
 go_enter Tryz.func56, Tryz.ntmps56
 go_wp2_with (first
  | (go_at_call 48;(refine(C5.out _ (by exact HS6.out.st)).mono ?_);rintro e w7_ ⟨rfl,h2,hW2⟩;have HZ:=qh (HS6.out.call h2 hW2);have HS7:=qh (LnS.al HZ.out (.cells (rfC X5).toArray 36));have c19_5:(w7_.alloc (.cells #[.string X5.name,.int .i64 X5.at_] 36)).cell? ⟨gt,19,none⟩=some (.slice (p0.r).1 0 (p0.r).2):=HS7.out.e.cell 19;have f19_5:(w7_.alloc (.cells #[.string X5.name,.int .i64 X5.at_] 36)).frozen? ⟨gt,19,none⟩=false:=HS7.out.e.frozen 19;have HS7_:Hid (LnS gp gs gt A n c ts w (.mk k_every at_ zR X1 X3 zE [X5] zR zR [] []) ⟨a1,a3,p0.c,(some ⟨w7_.heap.size,0,none⟩,1),p0.y,p0.z⟩ q5 ((w7_.alloc (.cells (rfC X5).toArray 36)).setCell ⟨gt,19,none⟩ (.slice (some ⟨w7_.heap.size,0,none⟩) 1 1))):=HS7.out.one 19 _ rfl ⟨⟨HS7.out.ar.1.1,HS7.out.ar.1.2.1,HS7.out.ar.1.2.2.1,(zn6 HZ.out.wr.size)⟩,HS7.out.ar.2⟩;clear h2 hW2)
  | (go_at_call 49;(with_reducible refine(C4.out _ (by exact HS5.out.st)).mono ?_);rintro e w6_ ⟨rfl,h2,hW2⟩;have HS6:=qh (HS5.out.call h2 hW2);clear h2 hW2)
  | (refine zae rfl 39 (.tmp 120) (.tmp 118) rfl gt 9 (exC X3 a3) rr rr 42 (stC (.mk k_every at_ zR X1 zE zE [] zR zR [] []) ⟨a1,p0.b,p0.c,p0.r,p0.y,p0.z⟩) (by exact HS4.out.e) hdEx (zau X3 a3) (by show 9+5≤26;omega) ?_;intro w5_ hb3 ho3;have HS5:Hid (LnS gp gs gt A n c ts w (.mk k_every at_ zR X1 X3 zE [] zR zR [] []) ⟨a1,a3,p0.c,p0.r,p0.y,p0.z⟩ q3 w5_):=HS4.out.put ho3 (by exact hb3) ⟨⟨HS4.out.ar.1.1,HA3.out,HS4.out.ar.1.2.2.1,HS4.out.ar.1.2.2.2⟩,HS4.out.ar.2⟩;clear hb3 ho3)
  | (go_at_call 50;(refine(C3.out _ (by exact HS3.out.st)).mono ?_);rintro e w4_ ⟨a3,rfl,ha,h2,hW2⟩;have HA3:=qh (ArgsIn.up HS3.out ha);have HS4:=qh (HS3.out.call h2 hW2);clear ha h2 hW2)
  | (go_at_call 49;(with_reducible refine(C2.out _ (by exact HS2.out.st)).mono ?_);rintro e w3_ ⟨rfl,h2,hW2⟩;have HS3:=qh (HS2.out.call h2 hW2);clear h2 hW2)
  | (refine zae rfl 39 (.tmp 113) (.tmp 111) rfl gt 4 (exC X1 a1) rr rr 42 (stC (.mk k_every at_ zR zE zE zE [] zR zR [] []) ⟨p0.a,p0.b,p0.c,p0.r,p0.y,p0.z⟩) (by exact HS1.out.e) hdEx (zau X1 a1) (by show 4+5≤26;omega) ?_;intro w2_ hb3 ho3;have HS2:Hid (LnS gp gs gt A n c ts w (.mk k_every at_ zR X1 zE zE [] zR zR [] []) ⟨a1,p0.b,p0.c,p0.r,p0.y,p0.z⟩ q1 w2_):=HS1.out.put ho3 (by exact hb3) ⟨⟨HA1.out,HS1.out.ar.1.2.1,HS1.out.ar.1.2.2.1,HS1.out.ar.1.2.2.2⟩,HS1.out.ar.2⟩;clear hb3 ho3)
  | (go_at_call 50;(refine(C1.out _ (by exact HS0.out.st)).mono ?_);rintro e w1_ ⟨a1,rfl,ha,h2,hW2⟩;have HA1:=qh (ArgsIn.up HS0.out ha);have HS1:=qh (HS0.out.call h2 hW2);clear ha h2 hW2))
 go_end0
 exact⟨rfl,_,HS7_.out⟩
theorem zi5(cx:Cx gp gs A n ts)(at_:Int)(p0:StA)(hS:LnS gp gs gt A n c ts w (.mk k_send at_ zR zE zE zE [] zR zR [] []) p0 s w)(_hq:Q 14 s)(hw:sees ts [k_with] (viaP ts false (EX ts s).2).2=false):
 Calls Tryz.prog 56 #[.pointer (some ⟨gp,0,none⟩),.pointer (some ⟨gt,0,none⟩)] w fun e w'=>e=.returned (.tuple #[])∧∃p',LnS gp gs gt A n c ts w (lineP ts k_send at_ s).1 p' (lineP ts k_send at_ s).2 w':=by
 have HT:Hid (lineP ts k_send at_ s=(.mk k_send at_ zR (EX ts (s)).1 zE zE (viaP ts false ((EX ts (s)).2)).1 zR (tagP ts ((viaP ts false ((EX ts (s)).2)).2)).1 [] [],(tagP ts ((viaP ts false ((EX ts (s)).2)).2)).2)):=(by show _=_;unfold lineP withP;rw[if_pos rfl];dsimp only;rw[hw];rfl);rw[HT.out];have C1:=qh (fun W (h:PSt gp gs A n c ts (s) W)=>za3 cx 14 (s) W h (_hq));have C2:=qh (fun W (h:PSt gp gs A n c ts ((EX ts (s)).2) W)=>via_c cx h false);have C3:=qh (fun W (h:PSt gp gs A n c ts ((viaP ts false ((EX ts (s)).2)).2) W)=>((by have h5:=zda cx h k_with;rw[hw]at h5;exact h5):Calls Tryz.prog 52 #[.pointer (some ⟨gp,0,none⟩),.string k_with] W fun e w'=>e=.returned (.bool false)∧PSt gp gs A n c ts (alsoP ts k_with ((viaP ts false ((EX ts (s)).2)).2)) w'∧Wr [gp,gs] W w'));have C4:=qh (fun W (h:PSt gp gs A n c ts ((viaP ts false ((EX ts (s)).2)).2) W)=>tag_c cx h);rw[show alsoP ts k_with ((viaP ts false ((EX ts (s)).2)).2)=(viaP ts false ((EX ts (s)).2)).2 by unfold alsoP;rw[hw];rfl]at C3;have HS0:=qh hS;have hc0:w.cell? ⟨gt,0,none⟩=some (.string k_send):=hS.e.cell 0;clear hS _hq HT hw;generalize (EX ts (s)).1=X1 at *;generalize (EX ts (s)).2=q1 at *;generalize (viaP ts false (q1)).1=X2 at *;generalize (viaP ts false (q1)).2=q2 at *;generalize (tagP ts (q2)).1=X4 at *;generalize (tagP ts (q2)).2=q4 at *
 go_enter Tryz.func56, Tryz.ntmps56
 go_wp2_with (first
  | (refine zae rfl 36 (.tmp 31) (.tmp 29) rfl gt 22 (rfC X4) rr rr 42 (stC (.mk k_send at_ zR X1 zE zE X2 zR zR [] []) ⟨a1,p0.b,p0.c,(A2,c2),p0.y,p0.z⟩) (by exact HS5.out.e) hdRf (zbo X4) (by show 22+2≤26;omega) ?_;intro w6_ hb3 ho3;have HS6:Hid (LnS gp gs gt A n c ts w (.mk k_send at_ zR X1 zE zE X2 zR X4 [] []) ⟨a1,p0.b,p0.c,(A2,c2),p0.y,p0.z⟩ q4 w6_):=HS5.out.put ho3 (by exact hb3) HS5.out.ar;clear hb3 ho3)
  | (go_at_call 86;(refine(C4.out _ (by exact HS4.out.st)).mono ?_);rintro e w5_ ⟨rfl,h2,hW2⟩;have HS5:=qh (HS4.out.call h2 hW2);clear h2 hW2)
  | (go_at_call 52;(with_reducible refine(C3.out _ (by exact HS3_.out.st)).mono ?_);rintro e w4_ ⟨rfl,h2,hW2⟩;have HS4:=qh (HS3_.out.call h2 hW2);clear h2 hW2)
  | (go_at_call 85;(refine(C2.out _ (by exact HS2.out.st)).mono ?_);rintro e w3_ ⟨A2,c2,rfl,hr,h2,hW2⟩;have HR:=qh (RfsIn.up HS2.out hr);have HS3:=qh (HS2.out.call h2 hW2);have c19_2:w3_.cell? ⟨gt,19,none⟩=some (.slice (p0.r).1 0 (p0.r).2):=HS3.out.e.cell 19;have f19_2:=HS3.out.e.frozen 19;have HS3_:Hid (LnS gp gs gt A n c ts w (.mk k_send at_ zR X1 zE zE X2 zR zR [] []) ⟨a1,p0.b,p0.c,(A2,c2),p0.y,p0.z⟩ q2 (w3_.setCell ⟨gt,19,none⟩ (.slice A2 X2.length c2))):=HS3.out.one 19 _ rfl ⟨⟨HS3.out.ar.1.1,HS3.out.ar.1.2.1,HS3.out.ar.1.2.2.1,HR.out⟩,HS3.out.ar.2⟩;clear hr h2 hW2)
  | (refine zae rfl 39 (.tmp 14) (.tmp 12) rfl gt 4 (exC X1 a1) rr rr 42 (stC (.mk k_send at_ zR zE zE zE [] zR zR [] []) ⟨p0.a,p0.b,p0.c,p0.r,p0.y,p0.z⟩) (by exact HS1.out.e) hdEx (zau X1 a1) (by show 4+5≤26;omega) ?_;intro w2_ hb3 ho3;have HS2:Hid (LnS gp gs gt A n c ts w (.mk k_send at_ zR X1 zE zE [] zR zR [] []) ⟨a1,p0.b,p0.c,p0.r,p0.y,p0.z⟩ q1 w2_):=HS1.out.put ho3 (by exact hb3) ⟨⟨HA1.out,HS1.out.ar.1.2.1,HS1.out.ar.1.2.2.1,HS1.out.ar.1.2.2.2⟩,HS1.out.ar.2⟩;clear hb3 ho3)
  | (go_at_call 50;(refine(C1.out _ (by exact HS0.out.st)).mono ?_);rintro e w1_ ⟨a1,rfl,ha,h2,hW2⟩;have HA1:=qh (ArgsIn.up HS0.out ha);have HS1:=qh (HS0.out.call h2 hW2);clear ha h2 hW2))
 go_end0
 exact⟨rfl,_,HS6.out⟩
theorem zi4(cx:Cx gp gs A n ts)(at_:Int)(p0:StA)(hS:LnS gp gs gt A n c ts w (.mk k_send at_ zR zE zE zE [] zR zR [] []) p0 s w)(_hq:Q 14 s)(hw:sees ts [k_with] (viaP ts false (EX ts s).2).2=true):
 Calls Tryz.prog 56 #[.pointer (some ⟨gp,0,none⟩),.pointer (some ⟨gt,0,none⟩)] w fun e w'=>e=.returned (.tuple #[])∧∃p',LnS gp gs gt A n c ts w (lineP ts k_send at_ s).1 p' (lineP ts k_send at_ s).2 w':=by
 have HT:Hid (lineP ts k_send at_ s=(.mk k_send at_ zR (EX ts (s)).1 zE zE (viaP ts false ((EX ts (s)).2)).1 (refP ts (nxt ((viaP ts false ((EX ts (s)).2)).2))).1 (tagP ts ((refP ts (nxt ((viaP ts false ((EX ts (s)).2)).2))).2)).1 [] [],(tagP ts ((refP ts (nxt ((viaP ts false ((EX ts (s)).2)).2))).2)).2)):=(by show _=_;unfold lineP withP;rw[if_pos rfl];dsimp only;rw[hw];rfl);rw[HT.out];have C1:=qh (fun W (h:PSt gp gs A n c ts (s) W)=>za3 cx 14 (s) W h (_hq));have C2:=qh (fun W (h:PSt gp gs A n c ts ((EX ts (s)).2) W)=>via_c cx h false);have C3:=qh (fun W (h:PSt gp gs A n c ts ((viaP ts false ((EX ts (s)).2)).2) W)=>((by have h5:=zda cx h k_with;rw[hw]at h5;exact h5):Calls Tryz.prog 52 #[.pointer (some ⟨gp,0,none⟩),.string k_with] W fun e w'=>e=.returned (.bool true)∧PSt gp gs A n c ts (alsoP ts k_with ((viaP ts false ((EX ts (s)).2)).2)) w'∧Wr [gp,gs] W w'));have C4:=qh (fun W (h:PSt gp gs A n c ts (nxt ((viaP ts false ((EX ts (s)).2)).2)) W)=>ref_c cx h);have C5:=qh (fun W (h:PSt gp gs A n c ts ((refP ts (nxt ((viaP ts false ((EX ts (s)).2)).2))).2) W)=>tag_c cx h);rw[show alsoP ts k_with ((viaP ts false ((EX ts (s)).2)).2)=nxt ((viaP ts false ((EX ts (s)).2)).2) by unfold alsoP;rw[hw];rfl]at C3;have HS0:=qh hS;have hc0:w.cell? ⟨gt,0,none⟩=some (.string k_send):=hS.e.cell 0;clear hS _hq HT hw;generalize (EX ts (s)).1=X1 at *;generalize (EX ts (s)).2=q1 at *;generalize (viaP ts false (q1)).1=X2 at *;generalize (viaP ts false (q1)).2=q2 at *;generalize nxt (q2)=q3 at *;generalize (refP ts (q3)).1=X4 at *;generalize (refP ts (q3)).2=q4 at *;generalize (tagP ts (q4)).1=X5 at *;generalize (tagP ts (q4)).2=q5 at *
 go_enter Tryz.func56, Tryz.ntmps56
 go_wp2_with (first
  | (refine zae rfl 36 (.tmp 31) (.tmp 29) rfl gt 22 (rfC X5) rr rr 42 (stC (.mk k_send at_ zR X1 zE zE X2 X4 zR [] []) ⟨a1,p0.b,p0.c,(A2,c2),p0.y,p0.z⟩) (by exact HS7.out.e) hdRf (zbo X5) (by show 22+2≤26;omega) ?_;intro w8_ hb3 ho3;have HS8:Hid (LnS gp gs gt A n c ts w (.mk k_send at_ zR X1 zE zE X2 X4 X5 [] []) ⟨a1,p0.b,p0.c,(A2,c2),p0.y,p0.z⟩ q5 w8_):=HS7.out.put ho3 (by exact hb3) HS7.out.ar;clear hb3 ho3)
  | (go_at_call 86;(refine(C5.out _ (by exact HS6.out.st)).mono ?_);rintro e w7_ ⟨rfl,h2,hW2⟩;have HS7:=qh (HS6.out.call h2 hW2);clear h2 hW2)
  | (refine zae rfl 36 (.tmp 26) (.tmp 24) rfl gt 20 (rfC X4) rr rr 42 (stC (.mk k_send at_ zR X1 zE zE X2 zR zR [] []) ⟨a1,p0.b,p0.c,(A2,c2),p0.y,p0.z⟩) (by exact HS5.out.e) hdRf (zbo X4) (by show 20+2≤26;omega) ?_;intro w6_ hb3 ho3;have HS6:Hid (LnS gp gs gt A n c ts w (.mk k_send at_ zR X1 zE zE X2 X4 zR [] []) ⟨a1,p0.b,p0.c,(A2,c2),p0.y,p0.z⟩ q4 w6_):=HS5.out.put ho3 (by exact hb3) HS5.out.ar;clear hb3 ho3)
  | (go_at_call 48;(refine(C4.out _ (by exact HS4.out.st)).mono ?_);rintro e w5_ ⟨rfl,h2,hW2⟩;have HS5:=qh (HS4.out.call h2 hW2);clear h2 hW2)
  | (go_at_call 52;(with_reducible refine(C3.out _ (by exact HS3_.out.st)).mono ?_);rintro e w4_ ⟨rfl,h2,hW2⟩;have HS4:=qh (HS3_.out.call h2 hW2);clear h2 hW2)
  | (go_at_call 85;(refine(C2.out _ (by exact HS2.out.st)).mono ?_);rintro e w3_ ⟨A2,c2,rfl,hr,h2,hW2⟩;have HR:=qh (RfsIn.up HS2.out hr);have HS3:=qh (HS2.out.call h2 hW2);have c19_2:w3_.cell? ⟨gt,19,none⟩=some (.slice (p0.r).1 0 (p0.r).2):=HS3.out.e.cell 19;have f19_2:=HS3.out.e.frozen 19;have HS3_:Hid (LnS gp gs gt A n c ts w (.mk k_send at_ zR X1 zE zE X2 zR zR [] []) ⟨a1,p0.b,p0.c,(A2,c2),p0.y,p0.z⟩ q2 (w3_.setCell ⟨gt,19,none⟩ (.slice A2 X2.length c2))):=HS3.out.one 19 _ rfl ⟨⟨HS3.out.ar.1.1,HS3.out.ar.1.2.1,HS3.out.ar.1.2.2.1,HR.out⟩,HS3.out.ar.2⟩;clear hr h2 hW2)
  | (refine zae rfl 39 (.tmp 14) (.tmp 12) rfl gt 4 (exC X1 a1) rr rr 42 (stC (.mk k_send at_ zR zE zE zE [] zR zR [] []) ⟨p0.a,p0.b,p0.c,p0.r,p0.y,p0.z⟩) (by exact HS1.out.e) hdEx (zau X1 a1) (by show 4+5≤26;omega) ?_;intro w2_ hb3 ho3;have HS2:Hid (LnS gp gs gt A n c ts w (.mk k_send at_ zR X1 zE zE [] zR zR [] []) ⟨a1,p0.b,p0.c,p0.r,p0.y,p0.z⟩ q1 w2_):=HS1.out.put ho3 (by exact hb3) ⟨⟨HA1.out,HS1.out.ar.1.2.1,HS1.out.ar.1.2.2.1,HS1.out.ar.1.2.2.2⟩,HS1.out.ar.2⟩;clear hb3 ho3)
  | (go_at_call 50;(refine(C1.out _ (by exact HS0.out.st)).mono ?_);rintro e w1_ ⟨a1,rfl,ha,h2,hW2⟩;have HA1:=qh (ArgsIn.up HS0.out ha);have HS1:=qh (HS0.out.call h2 hW2);clear ha h2 hW2))
 go_end0
 exact⟨rfl,_,HS8.out⟩
end
end
section
theorem zax(T:St)(p:StA):∀v∈stC T p,v.oneCell'=true:=by
 intro v hv;simp only[stC,exC,List.mem_cons,List.mem_append,List.not_mem_nil,or_false]at hv
 rcases hv with (rfl|rfl|rfl|rfl)| (rfl|rfl|rfl|rfl|rfl)| (rfl|rfl|rfl|rfl|rfl)| (rfl|rfl|rfl|rfl|rfl)| rfl|rfl|rfl|rfl|rfl|rfl|rfl <;> rfl
theorem eSt:ElemIs Tryz.prog 42 26 384:=ElemIs.of (z:=.agg (stC zT ⟨(none,0),(none,0),(none,0),(none,0),(none,0),(none,0)⟩).toArray) kr rfl om
def Fv(B:Nat)(v:Value)(k:Nat):Prop:=B≤k∧v.ownBlock≠some k
structure BdS(gp gs:Nat)(A:Option Addr)(n c:Nat)(ts:List Lx.Tok)(w0:World)(l:List St)(sl:List StA)(v:Value)(q:PS)(w:World):Prop where
 st:PSt gp gs A n c ts q w
 wr:Wr [gp,gs] w0 w
 own:w.ownsRow w0.heap.size 42 26 v l.length (zipC stC l sl)
 nl:sl.length=l.length
 ar:∀(i:Nat) (s:St) (p:StA),l[i]? = some s→sl[i]? = some p→StIn (Fv w0.heap.size v) w s p
 lo:PLo gp gs A w0.heap.size
section
variable{gp gs:Nat}{A:Option Addr}{n c:Nat}{ts:List Lx.Tok}{s q q':PS}{w w' w0:World}{l:List St}{sl:List StA}{v v':Value}{X:St}{y:StA}
theorem PLo.nin{B:Nat}(h:PLo gp gs A B):∀x∈[gp,gs],x<B:=by
 intro x hx;have h1:=h.1;have h2:=h.2.1;simp only[List.mem_cons,List.not_mem_nil,or_false]at hx;omega
theorem BdS.call(h:BdS gp gs A n c ts w0 l sl v q w)(hs:PSt gp gs A n c ts q' w')(hW:Wr [gp,gs] w w'):BdS gp gs A n c ts w0 l sl v q' w' :=
 ⟨hs,h.wr.trans hW,zav h.own (fun k hk hlt _=>hW.block k hlt (fun hm=>by have:=h.lo.nin k hm;omega)),h.nl,
   fun i s p h1 h2=>(h.ar i s p h1 h2).keep (hW.keep _ _ (fun k hk _ hm=>by have h5:=h.lo.nin k hm;have h6:=hk.1;omega) (fun _ h _=>h)),h.lo⟩
theorem BdS.fr(h:BdS gp gs A n c ts w0 l sl v q w){B:Nat}(hB:w.heap.size≤B){W:World}{T:St}{p:StA}(ha:StIn (Fr B) W T p):StIn (Fv w0.heap.size v) W T p :=
 ha.keep ⟨lr,fun _ _ _=>rfl,fun k hk _=>⟨by have:=h.wr.size;unfold Fr at hk;omega,fun e=>by have:=(h.own.lt k e).2;unfold Fr at hk;omega⟩⟩
theorem BdS.push(h:BdS gp gs A n c ts w0 l sl v q w)(hy:StIn (Fv w0.heap.size v) w X y){w5:World}(hg:(w.alloc (.cells (stC X y).toArray 42)).grownBy w5 v.ownBlock)
 (ho:w5.ownsRow w0.heap.size 42 26 v' (l.length+1) (zipC stC l sl++stC X y)) (hat:v'.ownBlock=v.ownBlock∨v'.ownBlock=some (w.alloc (.cells (stC X y).toArray 42)).heap.size):
 BdS gp gs A n c ts w0 (l++[X]) (sl++[y]) v' q w5:=by
 have hB5:Below w0.heap.size w w5:=((Below.refl _ w).alloc h.wr.size _).grown hg (Nat.le_trans h.wr.size sy) (fun k hk=>(h.own.lt k hk).1)
 have hK:Keep (Fv w0.heap.size v) (Fv w0.heap.size v') w w5:=by
  refine⟨hB5.size,fun k hk hkl=>?_,fun k hk hkl=>⟨hk.1,fun e=>?_⟩⟩
  · rw[hg.block k (by simp;omega) hk.2.symm]
    exact Below.heap_alloc w _ k hkl
  · rcases hat with h1|h1
    · exact hk.2 (h1 ▸ e)
    · rw[h1]at e
      injection e with e
      simp at e
      omega
 refine⟨h.st.belowB h.lo hB5,h.wr.thenb hB5,?_,by simp[h.nl],fun i s p h1 h2=>?_,h.lo⟩
 · rw[la9,zby stC l sl X y h.nl]
   exact ho
 · rcases Nat.lt_or_ge i l.length with hi|hi
   · rw[ll9 hi]at h1
     rw[ll9 (by rw[h.nl];exact hi)]at h2;exact(h.ar i s p h1 h2).keep hK
   · have hi0:i=l.length:=by
      have:=(gi9.1 h1).1
      simp at this
      omega
     subst hi0
     simp at h1
     rw[←h.nl]at h2
     simp at h2
     subst h1 h2;exact hy.keep hK
theorem BdS.fin(h:BdS gp gs A n c ts w0 l sl v q w):∃A' c',v=.slice A' l.length c'∧BodyIn (Fr w0.heap.size) w A' l:=by
 obtain⟨A',c',rfl,hc⟩:=zc5 h.own;have hK:Keep (Fv w0.heap.size (.slice A' l.length c')) (Fr w0.heap.size) w w:=⟨lr,fun _ _ _=>rfl,fun k hk _=>hk.1⟩;refine⟨A',c',rfl,.mk A' l sl h.nl ⟨RdS.ofOwn3 h.own,fun hn ad e=>?_⟩ (fun i s p h1 h2=>((h.ar i s p h1 h2).keep hK).1) (fun i s p h1 h2=>((h.ar i s p h1 h2).keep hK).2.1) (fun i s p h1 h2=>((h.ar i s p h1 h2).keep hK).2.2)⟩;subst e;have h5:=h.own
 rcases h5.2 with ⟨h6,h0⟩|⟨g,cap,cur,hv,hb,_⟩
 · omega
 · injection hv with hA
   injection hA with hA
   subst hA;exact⟨hb,zdw h5 rfl⟩
end
end
end Go.Proofs.YtafjkbbiaopemaaGreatDoor.Tr
