/- Part of the proof. -/
import Derived.Deep.DeepCutAuto
import Derived.Test.YtafjkbbiaopemaaGreatDoorPrx14
set_option linter.all false
set_option maxRecDepth 100000
set_option maxHeartbeats 0
namespace Go.Proofs.YtafjkbbiaopemaaGreatDoor.Tr
open Go.RowKit
section
section
variable{gp gs gt:Nat}{A:Option Addr}{n c:Nat}{ts:List Lx.Tok}{s q q':PS}{w w' w0:World}{T T':St}{p p':StA}
theorem LnS.al(h:LnS gp gs gt A n c ts w0 T p q w)(o:Obj):LnS gp gs gt A n c ts w0 T p q (w.alloc o):=h.call (h.st.alloc o) ((Wr.refl _ _).alloc o)
theorem zpj{X:Rf}{B:Nat}(hB:B≤w.heap.size):RfsIn (Fr B) (w.alloc (.cells (rfC X).toArray 36)) (some ⟨w.heap.size,0,none⟩) [X] :=
 ⟨RdS.new w _ (rfC X) 2 rfl,fun _ ad e=>by injection e with e;subst e;exact⟨hB,(Blk.new w 36 (rfC X)).frozen⟩⟩
theorem zjr(cx:Cx gp gs A n ts)(at_:Int)(p0:StA)(hS:LnS gp gs gt A n c ts w (.mk k_split at_ zR zE zE zE [] zR zR [] []) p0 s w)(_hq:Q 14 s):
 Calls Tryz.prog 56 #[.pointer (some ⟨gp,0,none⟩),.pointer (some ⟨gt,0,none⟩)] w fun e w'=>e=.returned (.tuple #[])∧∃p',LnS gp gs gt A n c ts w (lineP ts k_split at_ s).1 p' (lineP ts k_split at_ s).2 w':=by
 have HT:Hid (lineP ts k_split at_ s=(.mk k_split at_ zR (EX ts (s)).1 zE zE (viaP ts true ((EX ts (s)).2)).1 zR (tagP ts ((viaP ts true ((EX ts (s)).2)).2)).1 [] [],(tagP ts ((viaP ts true ((EX ts (s)).2)).2)).2)):=rfl;rw[HT.out];have C1:=qh (fun W (h:PSt gp gs A n c ts (s) W)=>za1 cx 14 (s) W h (_hq));have C2:=qh (fun W (h:PSt gp gs A n c ts ((EX ts (s)).2) W)=>via_c cx h true);have C3:=qh (fun W (h:PSt gp gs A n c ts ((viaP ts true ((EX ts (s)).2)).2) W)=>tag_c cx h);have HS0:=qh hS;have hc0:w.cell? ⟨gt,0,none⟩=some (.string k_split):=hS.e.cell 0;clear hS _hq HT;generalize (EX ts (s)).1=X1 at *;generalize (EX ts (s)).2=q1 at *;generalize (viaP ts true (q1)).1=X2 at *;generalize (viaP ts true (q1)).2=q2 at *;generalize (tagP ts (q2)).1=X3 at *;generalize (tagP ts (q2)).2=q3 at *
 go_enter Tryz.func56, Tryz.ntmps56
 go_wp2_with (first
  | (refine zad rfl 36 (.tmp 48) (.tmp 46) rfl gt 22 (rfC X3) rr rr 42 (stC (.mk k_split at_ zR X1 zE zE X2 zR zR [] []) ⟨a1,p0.b,p0.c,(A2,c2),p0.y,p0.z⟩) (by exact HS4.out.e) hdRf (zbn X3) (by show 22+2≤26;omega) ?_;intro w5_ hb3 ho3;have HS5:Hid (LnS gp gs gt A n c ts w (.mk k_split at_ zR X1 zE zE X2 zR X3 [] []) ⟨a1,p0.b,p0.c,(A2,c2),p0.y,p0.z⟩ q3 w5_):=HS4.out.put ho3 (by exact hb3) HS4.out.ar;clear hb3 ho3)
  | (go_at_call 86;(refine(C3.out _ (by exact HS3_.out.st)).mono ?_);rintro e w4_ ⟨rfl,h2,hW2⟩;have HS4:=qh (HS3_.out.call h2 hW2);clear h2 hW2)
  | (go_at_call 85;(refine(C2.out _ (by exact HS2.out.st)).mono ?_);rintro e w3_ ⟨A2,c2,rfl,hr,h2,hW2⟩;have HR:=qh (RfsIn.up HS2.out hr);have HS3:=qh (HS2.out.call h2 hW2);have c19_2:w3_.cell? ⟨gt,19,none⟩=some (.slice (p0.r).1 0 (p0.r).2):=HS3.out.e.cell 19;have f19_2:=HS3.out.e.frozen 19;have HS3_:Hid (LnS gp gs gt A n c ts w (.mk k_split at_ zR X1 zE zE X2 zR zR [] []) ⟨a1,p0.b,p0.c,(A2,c2),p0.y,p0.z⟩ q2 (w3_.setCell ⟨gt,19,none⟩ (.slice A2 X2.length c2))):=HS3.out.one 19 _ rfl ⟨⟨HS3.out.ar.1.1,HS3.out.ar.1.2.1,HS3.out.ar.1.2.2.1,HR.out⟩,HS3.out.ar.2⟩;clear hr h2 hW2)
  | (refine zad rfl 39 (.tmp 38) (.tmp 36) rfl gt 4 (exC X1 a1) rr rr 42 (stC (.mk k_split at_ zR zE zE zE [] zR zR [] []) ⟨p0.a,p0.b,p0.c,p0.r,p0.y,p0.z⟩) (by exact HS1.out.e) hdEx (zar X1 a1) (by show 4+5≤26;omega) ?_;intro w2_ hb3 ho3;have HS2:Hid (LnS gp gs gt A n c ts w (.mk k_split at_ zR X1 zE zE [] zR zR [] []) ⟨a1,p0.b,p0.c,p0.r,p0.y,p0.z⟩ q1 w2_):=HS1.out.put ho3 (by exact hb3) ⟨⟨HA1.out,HS1.out.ar.1.2.1,HS1.out.ar.1.2.2.1,HS1.out.ar.1.2.2.2⟩,HS1.out.ar.2⟩;clear hb3 ho3)
  | (go_at_call 50;(refine(C1.out _ (by exact HS0.out.st)).mono ?_);rintro e w1_ ⟨a1,rfl,ha,h2,hW2⟩;have HA1:=qh (ArgsIn.up HS0.out ha);have HS1:=qh (HS0.out.call h2 hW2);clear ha h2 hW2))
 go_end0
 exact⟨rfl,_,HS5.out⟩
theorem zjw(cx:Cx gp gs A n ts)(at_:Int)(p0:StA)(hS:LnS gp gs gt A n c ts w (.mk k_cover at_ zR zE zE zE [] zR zR [] []) p0 s w)(_hq:Q 14 s):
 Calls Tryz.prog 56 #[.pointer (some ⟨gp,0,none⟩),.pointer (some ⟨gt,0,none⟩)] w fun e w'=>e=.returned (.tuple #[])∧∃p',LnS gp gs gt A n c ts w (lineP ts k_cover at_ s).1 p' (lineP ts k_cover at_ s).2 w':=by
 have HT:Hid (lineP ts k_cover at_ s=(.mk k_cover at_ zR zE zE zE [(refP ts (s)).1] zR zR [] [],(refP ts (s)).2)):=rfl;rw[HT.out];have C1:=qh (fun W (h:PSt gp gs A n c ts (s) W)=>ref_c cx h);have HS0:=qh hS;have hc0:w.cell? ⟨gt,0,none⟩=some (.string k_cover):=hS.e.cell 0;clear hS _hq HT;generalize (refP ts (s)).1=X1 at *;generalize (refP ts (s)).2=q1 at *
 unfold rfC at C1
 go_enter Tryz.func56, Tryz.ntmps56
 go_wp2_with (first
  | (go_at_call 48;(refine(C1.out _ (by exact HS0.out.st)).mono ?_);rintro e w1_ ⟨rfl,h2,hW2⟩;have HZ:=qh (HS0.out.call h2 hW2);have HS1:=qh (LnS.al HZ.out (.cells (rfC X1).toArray 36));have c19_1:(w1_.alloc (.cells #[.string X1.name,.int .i64 X1.at_] 36)).cell? ⟨gt,19,none⟩=some (.slice (p0.r).1 0 (p0.r).2):=HS1.out.e.cell 19;have f19_1:(w1_.alloc (.cells #[.string X1.name,.int .i64 X1.at_] 36)).frozen? ⟨gt,19,none⟩=false:=HS1.out.e.frozen 19;have HS1_:Hid (LnS gp gs gt A n c ts w (.mk k_cover at_ zR zE zE zE [X1] zR zR [] []) ⟨p0.a,p0.b,p0.c,(some ⟨w1_.heap.size,0,none⟩,1),p0.y,p0.z⟩ q1 ((w1_.alloc (.cells (rfC X1).toArray 36)).setCell ⟨gt,19,none⟩ (.slice (some ⟨w1_.heap.size,0,none⟩) 1 1))):=HS1.out.one 19 _ rfl ⟨⟨HS1.out.ar.1.1,HS1.out.ar.1.2.1,HS1.out.ar.1.2.2.1,(zpj HZ.out.wr.size)⟩,HS1.out.ar.2⟩;clear h2 hW2))
 go_end0
 exact⟨rfl,_,HS1_.out⟩
theorem zjx(cx:Cx gp gs A n ts)(at_:Int)(p0:StA)(hS:LnS gp gs gt A n c ts w (.mk k_block at_ zR zE zE zE [] zR zR [] []) p0 s w)(_hq:Q 14 s):
 Calls Tryz.prog 56 #[.pointer (some ⟨gp,0,none⟩),.pointer (some ⟨gt,0,none⟩)] w fun e w'=>e=.returned (.tuple #[])∧∃p',LnS gp gs gt A n c ts w (lineP ts k_block at_ s).1 p' (lineP ts k_block at_ s).2 w':=by
 have HT:Hid (lineP ts k_block at_ s=(.mk k_block at_ (refP ts (s)).1 zE zE zE (viaP ts false ((refP ts (s)).2)).1 zR zR [] [],(viaP ts false ((refP ts (s)).2)).2)):=rfl;rw[HT.out];have C1:=qh (fun W (h:PSt gp gs A n c ts (s) W)=>ref_c cx h);have C2:=qh (fun W (h:PSt gp gs A n c ts ((refP ts (s)).2) W)=>via_c cx h false);have HS0:=qh hS;have hc0:w.cell? ⟨gt,0,none⟩=some (.string k_block):=hS.e.cell 0;clear hS _hq HT;generalize (refP ts (s)).1=X1 at *;generalize (refP ts (s)).2=q1 at *;generalize (viaP ts false (q1)).1=X2 at *;generalize (viaP ts false (q1)).2=q2 at *
 go_enter Tryz.func56, Tryz.ntmps56
 go_wp2_with (first
  | (go_at_call 85;(refine(C2.out _ (by exact HS2.out.st)).mono ?_);rintro e w3_ ⟨A2,c2,rfl,hr,h2,hW2⟩;have HR:=qh (RfsIn.up HS2.out hr);have HS3:=qh (HS2.out.call h2 hW2);have c19_2:w3_.cell? ⟨gt,19,none⟩=some (.slice (p0.r).1 0 (p0.r).2):=HS3.out.e.cell 19;have f19_2:=HS3.out.e.frozen 19;have HS3_:Hid (LnS gp gs gt A n c ts w (.mk k_block at_ X1 zE zE zE X2 zR zR [] []) ⟨p0.a,p0.b,p0.c,(A2,c2),p0.y,p0.z⟩ q2 (w3_.setCell ⟨gt,19,none⟩ (.slice A2 X2.length c2))):=HS3.out.one 19 _ rfl ⟨⟨HS3.out.ar.1.1,HS3.out.ar.1.2.1,HS3.out.ar.1.2.2.1,HR.out⟩,HS3.out.ar.2⟩;clear hr h2 hW2)
  | (refine zad rfl 36 (.tmp 70) (.tmp 68) rfl gt 2 (rfC X1) rr rr 42 (stC (.mk k_block at_ zR zE zE zE [] zR zR [] []) ⟨p0.a,p0.b,p0.c,p0.r,p0.y,p0.z⟩) (by exact HS1.out.e) hdRf (zbn X1) (by show 2+2≤26;omega) ?_;intro w2_ hb3 ho3;have HS2:Hid (LnS gp gs gt A n c ts w (.mk k_block at_ X1 zE zE zE [] zR zR [] []) ⟨p0.a,p0.b,p0.c,p0.r,p0.y,p0.z⟩ q1 w2_):=HS1.out.put ho3 (by exact hb3) HS1.out.ar;clear hb3 ho3)
  | (go_at_call 48;(refine(C1.out _ (by exact HS0.out.st)).mono ?_);rintro e w1_ ⟨rfl,h2,hW2⟩;have HS1:=qh (HS0.out.call h2 hW2);clear h2 hW2))
 go_end0
 exact⟨rfl,_,HS3_.out⟩
theorem zju(cx:Cx gp gs A n ts)(at_:Int)(p0:StA)(hS:LnS gp gs gt A n c ts w (.mk k_retry at_ zR zE zE zE [] zR zR [] []) p0 s w)(_hq:Q 14 s):
 Calls Tryz.prog 56 #[.pointer (some ⟨gp,0,none⟩),.pointer (some ⟨gt,0,none⟩)] w fun e w'=>e=.returned (.tuple #[])∧∃p',LnS gp gs gt A n c ts w (lineP ts k_retry at_ s).1 p' (lineP ts k_retry at_ s).2 w':=by
 have HT:Hid (lineP ts k_retry at_ s=(.mk k_retry at_ zR (EX ts (s)).1 (EX ts (takeP ts k_every ((EX ts (s)).2))).1 (EX ts (takeP ts k_send ((EX ts (takeP ts k_every ((EX ts (s)).2))).2))).1 (viaP ts false ((EX ts (takeP ts k_send ((EX ts (takeP ts k_every ((EX ts (s)).2))).2))).2)).1 zR (tagP ts ((viaP ts false ((EX ts (takeP ts k_send ((EX ts (takeP ts k_every ((EX ts (s)).2))).2))).2)).2)).1 [] [],(tagP ts ((viaP ts false ((EX ts (takeP ts k_send ((EX ts (takeP ts k_every ((EX ts (s)).2))).2))).2)).2)).2)):=rfl;rw[HT.out];have C1:=qh (fun W (h:PSt gp gs A n c ts (s) W)=>za1 cx 14 (s) W h (_hq));have C2:=qh (fun W (h:PSt gp gs A n c ts ((EX ts (s)).2) W)=>zbk cx h k_every);have C3:=qh (fun W (h:PSt gp gs A n c ts (takeP ts k_every ((EX ts (s)).2)) W)=>za1 cx 14 (takeP ts k_every ((EX ts (s)).2)) W h (((_hq).pg (zat cx.ends 14 (s))).pg (zan cx.ends k_every ((EX ts (s)).2))));have C4:=qh (fun W (h:PSt gp gs A n c ts ((EX ts (takeP ts k_every ((EX ts (s)).2))).2) W)=>zbk cx h k_send);have C5:=qh (fun W (h:PSt gp gs A n c ts (takeP ts k_send ((EX ts (takeP ts k_every ((EX ts (s)).2))).2)) W)=>za1 cx 14 (takeP ts k_send ((EX ts (takeP ts k_every ((EX ts (s)).2))).2)) W h (((((_hq).pg (zat cx.ends 14 (s))).pg (zan cx.ends k_every ((EX ts (s)).2))).pg (zat cx.ends 14 (takeP ts k_every ((EX ts (s)).2)))).pg (zan cx.ends k_send ((EX ts (takeP ts k_every ((EX ts (s)).2))).2))));have C6:=qh (fun W (h:PSt gp gs A n c ts ((EX ts (takeP ts k_send ((EX ts (takeP ts k_every ((EX ts (s)).2))).2))).2) W)=>via_c cx h false);have C7:=qh (fun W (h:PSt gp gs A n c ts ((viaP ts false ((EX ts (takeP ts k_send ((EX ts (takeP ts k_every ((EX ts (s)).2))).2))).2)).2) W)=>tag_c cx h);have HS0:=qh hS;have hc0:w.cell? ⟨gt,0,none⟩=some (.string k_retry):=hS.e.cell 0;clear hS _hq HT;generalize (EX ts (s)).1=X1 at *;generalize (EX ts (s)).2=q1 at *;generalize takeP ts k_every (q1)=q2 at *;generalize (EX ts (q2)).1=X3 at *;generalize (EX ts (q2)).2=q3 at *;generalize takeP ts k_send (q3)=q4 at *;generalize (EX ts (q4)).1=X5 at *;generalize (EX ts (q4)).2=q5 at *;generalize (viaP ts false (q5)).1=X6 at *;generalize (viaP ts false (q5)).2=q6 at *;generalize (tagP ts (q6)).1=X7 at *;generalize (tagP ts (q6)).2=q7 at *
 go_enter Tryz.func56, Tryz.ntmps56
 go_wp2_with (first
  | (refine zad rfl 36 (.tmp 106) (.tmp 104) rfl gt 22 (rfC X7) rr rr 42 (stC (.mk k_retry at_ zR X1 X3 X5 X6 zR zR [] []) ⟨a1,a3,a5,(A6,c6),p0.y,p0.z⟩) (by exact HS10.out.e) hdRf (zbn X7) (by show 22+2≤26;omega) ?_;intro w11_ hb3 ho3;have HS11:Hid (LnS gp gs gt A n c ts w (.mk k_retry at_ zR X1 X3 X5 X6 zR X7 [] []) ⟨a1,a3,a5,(A6,c6),p0.y,p0.z⟩ q7 w11_):=HS10.out.put ho3 (by exact hb3) HS10.out.ar;clear hb3 ho3)
  | (go_at_call 86;(refine(C7.out _ (by exact HS9_.out.st)).mono ?_);rintro e w10_ ⟨rfl,h2,hW2⟩;have HS10:=qh (HS9_.out.call h2 hW2);clear h2 hW2)
  | (go_at_call 85;(refine(C6.out _ (by exact HS8.out.st)).mono ?_);rintro e w9_ ⟨A6,c6,rfl,hr,h2,hW2⟩;have HR:=qh (RfsIn.up HS8.out hr);have HS9:=qh (HS8.out.call h2 hW2);have c19_6:w9_.cell? ⟨gt,19,none⟩=some (.slice (p0.r).1 0 (p0.r).2):=HS9.out.e.cell 19;have f19_6:=HS9.out.e.frozen 19;have HS9_:Hid (LnS gp gs gt A n c ts w (.mk k_retry at_ zR X1 X3 X5 X6 zR zR [] []) ⟨a1,a3,a5,(A6,c6),p0.y,p0.z⟩ q6 (w9_.setCell ⟨gt,19,none⟩ (.slice A6 X6.length c6))):=HS9.out.one 19 _ rfl ⟨⟨HS9.out.ar.1.1,HS9.out.ar.1.2.1,HS9.out.ar.1.2.2.1,HR.out⟩,HS9.out.ar.2⟩;clear hr h2 hW2)
  | (refine zad rfl 39 (.tmp 96) (.tmp 94) rfl gt 14 (exC X5 a5) rr rr 42 (stC (.mk k_retry at_ zR X1 X3 zE [] zR zR [] []) ⟨a1,a3,p0.c,p0.r,p0.y,p0.z⟩) (by exact HS7.out.e) hdEx (zar X5 a5) (by show 14+5≤26;omega) ?_;intro w8_ hb3 ho3;have HS8:Hid (LnS gp gs gt A n c ts w (.mk k_retry at_ zR X1 X3 X5 [] zR zR [] []) ⟨a1,a3,a5,p0.r,p0.y,p0.z⟩ q5 w8_):=HS7.out.put ho3 (by exact hb3) ⟨⟨HS7.out.ar.1.1,HS7.out.ar.1.2.1,HA5.out,HS7.out.ar.1.2.2.2⟩,HS7.out.ar.2⟩;clear hb3 ho3)
  | (go_at_call 50;(refine(C5.out _ (by exact HS6.out.st)).mono ?_);rintro e w7_ ⟨a5,rfl,ha,h2,hW2⟩;have HA5:=qh (ArgsIn.up HS6.out ha);have HS7:=qh (HS6.out.call h2 hW2);clear ha h2 hW2)
  | (go_at_call 49;(with_reducible refine(C4.out _ (by exact HS5.out.st)).mono ?_);rintro e w6_ ⟨rfl,h2,hW2⟩;have HS6:=qh (HS5.out.call h2 hW2);clear h2 hW2)
  | (refine zad rfl 39 (.tmp 89) (.tmp 87) rfl gt 9 (exC X3 a3) rr rr 42 (stC (.mk k_retry at_ zR X1 zE zE [] zR zR [] []) ⟨a1,p0.b,p0.c,p0.r,p0.y,p0.z⟩) (by exact HS4.out.e) hdEx (zar X3 a3) (by show 9+5≤26;omega) ?_;intro w5_ hb3 ho3;have HS5:Hid (LnS gp gs gt A n c ts w (.mk k_retry at_ zR X1 X3 zE [] zR zR [] []) ⟨a1,a3,p0.c,p0.r,p0.y,p0.z⟩ q3 w5_):=HS4.out.put ho3 (by exact hb3) ⟨⟨HS4.out.ar.1.1,HA3.out,HS4.out.ar.1.2.2.1,HS4.out.ar.1.2.2.2⟩,HS4.out.ar.2⟩;clear hb3 ho3)
  | (go_at_call 50;(refine(C3.out _ (by exact HS3.out.st)).mono ?_);rintro e w4_ ⟨a3,rfl,ha,h2,hW2⟩;have HA3:=qh (ArgsIn.up HS3.out ha);have HS4:=qh (HS3.out.call h2 hW2);clear ha h2 hW2)
  | (go_at_call 49;(with_reducible refine(C2.out _ (by exact HS2.out.st)).mono ?_);rintro e w3_ ⟨rfl,h2,hW2⟩;have HS3:=qh (HS2.out.call h2 hW2);clear h2 hW2)
  | (refine zad rfl 39 (.tmp 82) (.tmp 80) rfl gt 4 (exC X1 a1) rr rr 42 (stC (.mk k_retry at_ zR zE zE zE [] zR zR [] []) ⟨p0.a,p0.b,p0.c,p0.r,p0.y,p0.z⟩) (by exact HS1.out.e) hdEx (zar X1 a1) (by show 4+5≤26;omega) ?_;intro w2_ hb3 ho3;have HS2:Hid (LnS gp gs gt A n c ts w (.mk k_retry at_ zR X1 zE zE [] zR zR [] []) ⟨a1,p0.b,p0.c,p0.r,p0.y,p0.z⟩ q1 w2_):=HS1.out.put ho3 (by exact hb3) ⟨⟨HA1.out,HS1.out.ar.1.2.1,HS1.out.ar.1.2.2.1,HS1.out.ar.1.2.2.2⟩,HS1.out.ar.2⟩;clear hb3 ho3)
  | (go_at_call 50;(refine(C1.out _ (by exact HS0.out.st)).mono ?_);rintro e w1_ ⟨a1,rfl,ha,h2,hW2⟩;have HA1:=qh (ArgsIn.up HS0.out ha);have HS1:=qh (HS0.out.call h2 hW2);clear ha h2 hW2))
 go_end0
 exact⟨rfl,_,HS11.out⟩
theorem zjv(cx:Cx gp gs A n ts)(at_:Int)(p0:StA)(hS:LnS gp gs gt A n c ts w (.mk k_every at_ zR zE zE zE [] zR zR [] []) p0 s w)(_hq:Q 14 s):
 Calls Tryz.prog 56 #[.pointer (some ⟨gp,0,none⟩),.pointer (some ⟨gt,0,none⟩)] w fun e w'=>e=.returned (.tuple #[])∧∃p',LnS gp gs gt A n c ts w (lineP ts k_every at_ s).1 p' (lineP ts k_every at_ s).2 w':=by
 have HT:Hid (lineP ts k_every at_ s=(.mk k_every at_ zR (EX ts (s)).1 (EX ts (takeP ts k_times ((EX ts (s)).2))).1 zE [(refP ts (takeP ts k_cover ((EX ts (takeP ts k_times ((EX ts (s)).2))).2))).1] zR zR [] [],(refP ts (takeP ts k_cover ((EX ts (takeP ts k_times ((EX ts (s)).2))).2))).2)):=rfl;rw[HT.out];have C1:=qh (fun W (h:PSt gp gs A n c ts (s) W)=>za1 cx 14 (s) W h (_hq));have C2:=qh (fun W (h:PSt gp gs A n c ts ((EX ts (s)).2) W)=>zbk cx h k_times);have C3:=qh (fun W (h:PSt gp gs A n c ts (takeP ts k_times ((EX ts (s)).2)) W)=>za1 cx 14 (takeP ts k_times ((EX ts (s)).2)) W h (((_hq).pg (zat cx.ends 14 (s))).pg (zan cx.ends k_times ((EX ts (s)).2))));have C4:=qh (fun W (h:PSt gp gs A n c ts ((EX ts (takeP ts k_times ((EX ts (s)).2))).2) W)=>zbk cx h k_cover);have C5:=qh (fun W (h:PSt gp gs A n c ts (takeP ts k_cover ((EX ts (takeP ts k_times ((EX ts (s)).2))).2)) W)=>ref_c cx h);have HS0:=qh hS;have hc0:w.cell? ⟨gt,0,none⟩=some (.string k_every):=hS.e.cell 0;clear hS _hq HT;generalize (EX ts (s)).1=X1 at *;generalize (EX ts (s)).2=q1 at *;generalize takeP ts k_times (q1)=q2 at *;generalize (EX ts (q2)).1=X3 at *;generalize (EX ts (q2)).2=q3 at *;generalize takeP ts k_cover (q3)=q4 at *;generalize (refP ts (q4)).1=X5 at *;generalize (refP ts (q4)).2=q5 at *
 unfold rfC at C5
 go_enter Tryz.func56, Tryz.ntmps56
 go_wp2_with (first
  | (go_at_call 48;(refine(C5.out _ (by exact HS6.out.st)).mono ?_);rintro e w7_ ⟨rfl,h2,hW2⟩;have HZ:=qh (HS6.out.call h2 hW2);have HS7:=qh (LnS.al HZ.out (.cells (rfC X5).toArray 36));have c19_5:(w7_.alloc (.cells #[.string X5.name,.int .i64 X5.at_] 36)).cell? ⟨gt,19,none⟩=some (.slice (p0.r).1 0 (p0.r).2):=HS7.out.e.cell 19;have f19_5:(w7_.alloc (.cells #[.string X5.name,.int .i64 X5.at_] 36)).frozen? ⟨gt,19,none⟩=false:=HS7.out.e.frozen 19;have HS7_:Hid (LnS gp gs gt A n c ts w (.mk k_every at_ zR X1 X3 zE [X5] zR zR [] []) ⟨a1,a3,p0.c,(some ⟨w7_.heap.size,0,none⟩,1),p0.y,p0.z⟩ q5 ((w7_.alloc (.cells (rfC X5).toArray 36)).setCell ⟨gt,19,none⟩ (.slice (some ⟨w7_.heap.size,0,none⟩) 1 1))):=HS7.out.one 19 _ rfl ⟨⟨HS7.out.ar.1.1,HS7.out.ar.1.2.1,HS7.out.ar.1.2.2.1,(zpj HZ.out.wr.size)⟩,HS7.out.ar.2⟩;clear h2 hW2)
  | (go_at_call 49;(with_reducible refine(C4.out _ (by exact HS5.out.st)).mono ?_);rintro e w6_ ⟨rfl,h2,hW2⟩;have HS6:=qh (HS5.out.call h2 hW2);clear h2 hW2)
  | (refine zad rfl 39 (.tmp 120) (.tmp 118) rfl gt 9 (exC X3 a3) rr rr 42 (stC (.mk k_every at_ zR X1 zE zE [] zR zR [] []) ⟨a1,p0.b,p0.c,p0.r,p0.y,p0.z⟩) (by exact HS4.out.e) hdEx (zar X3 a3) (by show 9+5≤26;omega) ?_;intro w5_ hb3 ho3;have HS5:Hid (LnS gp gs gt A n c ts w (.mk k_every at_ zR X1 X3 zE [] zR zR [] []) ⟨a1,a3,p0.c,p0.r,p0.y,p0.z⟩ q3 w5_):=HS4.out.put ho3 (by exact hb3) ⟨⟨HS4.out.ar.1.1,HA3.out,HS4.out.ar.1.2.2.1,HS4.out.ar.1.2.2.2⟩,HS4.out.ar.2⟩;clear hb3 ho3)
  | (go_at_call 50;(refine(C3.out _ (by exact HS3.out.st)).mono ?_);rintro e w4_ ⟨a3,rfl,ha,h2,hW2⟩;have HA3:=qh (ArgsIn.up HS3.out ha);have HS4:=qh (HS3.out.call h2 hW2);clear ha h2 hW2)
  | (go_at_call 49;(with_reducible refine(C2.out _ (by exact HS2.out.st)).mono ?_);rintro e w3_ ⟨rfl,h2,hW2⟩;have HS3:=qh (HS2.out.call h2 hW2);clear h2 hW2)
  | (refine zad rfl 39 (.tmp 113) (.tmp 111) rfl gt 4 (exC X1 a1) rr rr 42 (stC (.mk k_every at_ zR zE zE zE [] zR zR [] []) ⟨p0.a,p0.b,p0.c,p0.r,p0.y,p0.z⟩) (by exact HS1.out.e) hdEx (zar X1 a1) (by show 4+5≤26;omega) ?_;intro w2_ hb3 ho3;have HS2:Hid (LnS gp gs gt A n c ts w (.mk k_every at_ zR X1 zE zE [] zR zR [] []) ⟨a1,p0.b,p0.c,p0.r,p0.y,p0.z⟩ q1 w2_):=HS1.out.put ho3 (by exact hb3) ⟨⟨HA1.out,HS1.out.ar.1.2.1,HS1.out.ar.1.2.2.1,HS1.out.ar.1.2.2.2⟩,HS1.out.ar.2⟩;clear hb3 ho3)
  | (go_at_call 50;(refine(C1.out _ (by exact HS0.out.st)).mono ?_);rintro e w1_ ⟨a1,rfl,ha,h2,hW2⟩;have HA1:=qh (ArgsIn.up HS0.out ha);have HS1:=qh (HS0.out.call h2 hW2);clear ha h2 hW2))
 go_end0
 exact⟨rfl,_,HS7_.out⟩
theorem zjt(cx:Cx gp gs A n ts)(at_:Int)(p0:StA)(hS:LnS gp gs gt A n c ts w (.mk k_send at_ zR zE zE zE [] zR zR [] []) p0 s w)(_hq:Q 14 s)(hw:sees ts [k_with] (viaP ts false (EX ts s).2).2=false):
 Calls Tryz.prog 56 #[.pointer (some ⟨gp,0,none⟩),.pointer (some ⟨gt,0,none⟩)] w fun e w'=>e=.returned (.tuple #[])∧∃p',LnS gp gs gt A n c ts w (lineP ts k_send at_ s).1 p' (lineP ts k_send at_ s).2 w':=by
 have HT:Hid (lineP ts k_send at_ s=(.mk k_send at_ zR (EX ts (s)).1 zE zE (viaP ts false ((EX ts (s)).2)).1 zR (tagP ts ((viaP ts false ((EX ts (s)).2)).2)).1 [] [],(tagP ts ((viaP ts false ((EX ts (s)).2)).2)).2)):=(by show _=_;unfold lineP withP;rw[if_pos rfl];dsimp only;rw[hw];rfl);rw[HT.out];have C1:=qh (fun W (h:PSt gp gs A n c ts (s) W)=>za1 cx 14 (s) W h (_hq));have C2:=qh (fun W (h:PSt gp gs A n c ts ((EX ts (s)).2) W)=>via_c cx h false);have C3:=qh (fun W (h:PSt gp gs A n c ts ((viaP ts false ((EX ts (s)).2)).2) W)=>((by have h5:=zc9 cx h k_with;rw[hw]at h5;exact h5):Calls Tryz.prog 52 #[.pointer (some ⟨gp,0,none⟩),.string k_with] W fun e w'=>e=.returned (.bool false)∧PSt gp gs A n c ts (alsoP ts k_with ((viaP ts false ((EX ts (s)).2)).2)) w'∧Wr [gp,gs] W w'));have C4:=qh (fun W (h:PSt gp gs A n c ts ((viaP ts false ((EX ts (s)).2)).2) W)=>tag_c cx h);rw[show alsoP ts k_with ((viaP ts false ((EX ts (s)).2)).2)=(viaP ts false ((EX ts (s)).2)).2 by unfold alsoP;rw[hw];rfl]at C3;have HS0:=qh hS;have hc0:w.cell? ⟨gt,0,none⟩=some (.string k_send):=hS.e.cell 0;clear hS _hq HT hw;generalize (EX ts (s)).1=X1 at *;generalize (EX ts (s)).2=q1 at *;generalize (viaP ts false (q1)).1=X2 at *;generalize (viaP ts false (q1)).2=q2 at *;generalize (tagP ts (q2)).1=X4 at *;generalize (tagP ts (q2)).2=q4 at *
 go_enter Tryz.func56, Tryz.ntmps56
 go_wp2_with (first
  | (refine zad rfl 36 (.tmp 31) (.tmp 29) rfl gt 22 (rfC X4) rr rr 42 (stC (.mk k_send at_ zR X1 zE zE X2 zR zR [] []) ⟨a1,p0.b,p0.c,(A2,c2),p0.y,p0.z⟩) (by exact HS5.out.e) hdRf (zbn X4) (by show 22+2≤26;omega) ?_;intro w6_ hb3 ho3;have HS6:Hid (LnS gp gs gt A n c ts w (.mk k_send at_ zR X1 zE zE X2 zR X4 [] []) ⟨a1,p0.b,p0.c,(A2,c2),p0.y,p0.z⟩ q4 w6_):=HS5.out.put ho3 (by exact hb3) HS5.out.ar;clear hb3 ho3)
  | (go_at_call 86;(refine(C4.out _ (by exact HS4.out.st)).mono ?_);rintro e w5_ ⟨rfl,h2,hW2⟩;have HS5:=qh (HS4.out.call h2 hW2);clear h2 hW2)
  | (go_at_call 52;(with_reducible refine(C3.out _ (by exact HS3_.out.st)).mono ?_);rintro e w4_ ⟨rfl,h2,hW2⟩;have HS4:=qh (HS3_.out.call h2 hW2);clear h2 hW2)
  | (go_at_call 85;(refine(C2.out _ (by exact HS2.out.st)).mono ?_);rintro e w3_ ⟨A2,c2,rfl,hr,h2,hW2⟩;have HR:=qh (RfsIn.up HS2.out hr);have HS3:=qh (HS2.out.call h2 hW2);have c19_2:w3_.cell? ⟨gt,19,none⟩=some (.slice (p0.r).1 0 (p0.r).2):=HS3.out.e.cell 19;have f19_2:=HS3.out.e.frozen 19;have HS3_:Hid (LnS gp gs gt A n c ts w (.mk k_send at_ zR X1 zE zE X2 zR zR [] []) ⟨a1,p0.b,p0.c,(A2,c2),p0.y,p0.z⟩ q2 (w3_.setCell ⟨gt,19,none⟩ (.slice A2 X2.length c2))):=HS3.out.one 19 _ rfl ⟨⟨HS3.out.ar.1.1,HS3.out.ar.1.2.1,HS3.out.ar.1.2.2.1,HR.out⟩,HS3.out.ar.2⟩;clear hr h2 hW2)
  | (refine zad rfl 39 (.tmp 14) (.tmp 12) rfl gt 4 (exC X1 a1) rr rr 42 (stC (.mk k_send at_ zR zE zE zE [] zR zR [] []) ⟨p0.a,p0.b,p0.c,p0.r,p0.y,p0.z⟩) (by exact HS1.out.e) hdEx (zar X1 a1) (by show 4+5≤26;omega) ?_;intro w2_ hb3 ho3;have HS2:Hid (LnS gp gs gt A n c ts w (.mk k_send at_ zR X1 zE zE [] zR zR [] []) ⟨a1,p0.b,p0.c,p0.r,p0.y,p0.z⟩ q1 w2_):=HS1.out.put ho3 (by exact hb3) ⟨⟨HA1.out,HS1.out.ar.1.2.1,HS1.out.ar.1.2.2.1,HS1.out.ar.1.2.2.2⟩,HS1.out.ar.2⟩;clear hb3 ho3)
  | (go_at_call 50;(refine(C1.out _ (by exact HS0.out.st)).mono ?_);rintro e w1_ ⟨a1,rfl,ha,h2,hW2⟩;have HA1:=qh (ArgsIn.up HS0.out ha);have HS1:=qh (HS0.out.call h2 hW2);clear ha h2 hW2))
 go_end0
 exact⟨rfl,_,HS6.out⟩
theorem zjs(cx:Cx gp gs A n ts)(at_:Int)(p0:StA)(hS:LnS gp gs gt A n c ts w (.mk k_send at_ zR zE zE zE [] zR zR [] []) p0 s w)(_hq:Q 14 s)(hw:sees ts [k_with] (viaP ts false (EX ts s).2).2=true):
 Calls Tryz.prog 56 #[.pointer (some ⟨gp,0,none⟩),.pointer (some ⟨gt,0,none⟩)] w fun e w'=>e=.returned (.tuple #[])∧∃p',LnS gp gs gt A n c ts w (lineP ts k_send at_ s).1 p' (lineP ts k_send at_ s).2 w':=by
 have HT:Hid (lineP ts k_send at_ s=(.mk k_send at_ zR (EX ts (s)).1 zE zE (viaP ts false ((EX ts (s)).2)).1 (refP ts (nxt ((viaP ts false ((EX ts (s)).2)).2))).1 (tagP ts ((refP ts (nxt ((viaP ts false ((EX ts (s)).2)).2))).2)).1 [] [],(tagP ts ((refP ts (nxt ((viaP ts false ((EX ts (s)).2)).2))).2)).2)):=(by show _=_;unfold lineP withP;rw[if_pos rfl];dsimp only;rw[hw];rfl);rw[HT.out];have C1:=qh (fun W (h:PSt gp gs A n c ts (s) W)=>za1 cx 14 (s) W h (_hq));have C2:=qh (fun W (h:PSt gp gs A n c ts ((EX ts (s)).2) W)=>via_c cx h false);have C3:=qh (fun W (h:PSt gp gs A n c ts ((viaP ts false ((EX ts (s)).2)).2) W)=>((by have h5:=zc9 cx h k_with;rw[hw]at h5;exact h5):Calls Tryz.prog 52 #[.pointer (some ⟨gp,0,none⟩),.string k_with] W fun e w'=>e=.returned (.bool true)∧PSt gp gs A n c ts (alsoP ts k_with ((viaP ts false ((EX ts (s)).2)).2)) w'∧Wr [gp,gs] W w'));have C4:=qh (fun W (h:PSt gp gs A n c ts (nxt ((viaP ts false ((EX ts (s)).2)).2)) W)=>ref_c cx h);have C5:=qh (fun W (h:PSt gp gs A n c ts ((refP ts (nxt ((viaP ts false ((EX ts (s)).2)).2))).2) W)=>tag_c cx h);rw[show alsoP ts k_with ((viaP ts false ((EX ts (s)).2)).2)=nxt ((viaP ts false ((EX ts (s)).2)).2) by unfold alsoP;rw[hw];rfl]at C3;have HS0:=qh hS;have hc0:w.cell? ⟨gt,0,none⟩=some (.string k_send):=hS.e.cell 0;clear hS _hq HT hw;generalize (EX ts (s)).1=X1 at *;generalize (EX ts (s)).2=q1 at *;generalize (viaP ts false (q1)).1=X2 at *;generalize (viaP ts false (q1)).2=q2 at *;generalize nxt (q2)=q3 at *;generalize (refP ts (q3)).1=X4 at *;generalize (refP ts (q3)).2=q4 at *;generalize (tagP ts (q4)).1=X5 at *;generalize (tagP ts (q4)).2=q5 at *
 go_enter Tryz.func56, Tryz.ntmps56
 go_wp2_with (first
  | (refine zad rfl 36 (.tmp 31) (.tmp 29) rfl gt 22 (rfC X5) rr rr 42 (stC (.mk k_send at_ zR X1 zE zE X2 X4 zR [] []) ⟨a1,p0.b,p0.c,(A2,c2),p0.y,p0.z⟩) (by exact HS7.out.e) hdRf (zbn X5) (by show 22+2≤26;omega) ?_;intro w8_ hb3 ho3;have HS8:Hid (LnS gp gs gt A n c ts w (.mk k_send at_ zR X1 zE zE X2 X4 X5 [] []) ⟨a1,p0.b,p0.c,(A2,c2),p0.y,p0.z⟩ q5 w8_):=HS7.out.put ho3 (by exact hb3) HS7.out.ar;clear hb3 ho3)
  | (go_at_call 86;(refine(C5.out _ (by exact HS6.out.st)).mono ?_);rintro e w7_ ⟨rfl,h2,hW2⟩;have HS7:=qh (HS6.out.call h2 hW2);clear h2 hW2)
  | (refine zad rfl 36 (.tmp 26) (.tmp 24) rfl gt 20 (rfC X4) rr rr 42 (stC (.mk k_send at_ zR X1 zE zE X2 zR zR [] []) ⟨a1,p0.b,p0.c,(A2,c2),p0.y,p0.z⟩) (by exact HS5.out.e) hdRf (zbn X4) (by show 20+2≤26;omega) ?_;intro w6_ hb3 ho3;have HS6:Hid (LnS gp gs gt A n c ts w (.mk k_send at_ zR X1 zE zE X2 X4 zR [] []) ⟨a1,p0.b,p0.c,(A2,c2),p0.y,p0.z⟩ q4 w6_):=HS5.out.put ho3 (by exact hb3) HS5.out.ar;clear hb3 ho3)
  | (go_at_call 48;(refine(C4.out _ (by exact HS4.out.st)).mono ?_);rintro e w5_ ⟨rfl,h2,hW2⟩;have HS5:=qh (HS4.out.call h2 hW2);clear h2 hW2)
  | (go_at_call 52;(with_reducible refine(C3.out _ (by exact HS3_.out.st)).mono ?_);rintro e w4_ ⟨rfl,h2,hW2⟩;have HS4:=qh (HS3_.out.call h2 hW2);clear h2 hW2)
  | (go_at_call 85;(refine(C2.out _ (by exact HS2.out.st)).mono ?_);rintro e w3_ ⟨A2,c2,rfl,hr,h2,hW2⟩;have HR:=qh (RfsIn.up HS2.out hr);have HS3:=qh (HS2.out.call h2 hW2);have c19_2:w3_.cell? ⟨gt,19,none⟩=some (.slice (p0.r).1 0 (p0.r).2):=HS3.out.e.cell 19;have f19_2:=HS3.out.e.frozen 19;have HS3_:Hid (LnS gp gs gt A n c ts w (.mk k_send at_ zR X1 zE zE X2 zR zR [] []) ⟨a1,p0.b,p0.c,(A2,c2),p0.y,p0.z⟩ q2 (w3_.setCell ⟨gt,19,none⟩ (.slice A2 X2.length c2))):=HS3.out.one 19 _ rfl ⟨⟨HS3.out.ar.1.1,HS3.out.ar.1.2.1,HS3.out.ar.1.2.2.1,HR.out⟩,HS3.out.ar.2⟩;clear hr h2 hW2)
  | (refine zad rfl 39 (.tmp 14) (.tmp 12) rfl gt 4 (exC X1 a1) rr rr 42 (stC (.mk k_send at_ zR zE zE zE [] zR zR [] []) ⟨p0.a,p0.b,p0.c,p0.r,p0.y,p0.z⟩) (by exact HS1.out.e) hdEx (zar X1 a1) (by show 4+5≤26;omega) ?_;intro w2_ hb3 ho3;have HS2:Hid (LnS gp gs gt A n c ts w (.mk k_send at_ zR X1 zE zE [] zR zR [] []) ⟨a1,p0.b,p0.c,p0.r,p0.y,p0.z⟩ q1 w2_):=HS1.out.put ho3 (by exact hb3) ⟨⟨HA1.out,HS1.out.ar.1.2.1,HS1.out.ar.1.2.2.1,HS1.out.ar.1.2.2.2⟩,HS1.out.ar.2⟩;clear hb3 ho3)
  | (go_at_call 50;(refine(C1.out _ (by exact HS0.out.st)).mono ?_);rintro e w1_ ⟨a1,rfl,ha,h2,hW2⟩;have HA1:=qh (ArgsIn.up HS0.out ha);have HS1:=qh (HS0.out.call h2 hW2);clear ha h2 hW2))
 go_end0
 exact⟨rfl,_,HS8.out⟩
end
end
section
theorem za3(T:St)(p:StA):∀v∈stC T p,v.oneCell'=true:=by
 intro v hv;simp only[stC,exC,List.mem_cons,List.mem_append,List.not_mem_nil,or_false]at hv
 rcases hv with (rfl|rfl|rfl|rfl)| (rfl|rfl|rfl|rfl|rfl)| (rfl|rfl|rfl|rfl|rfl)| (rfl|rfl|rfl|rfl|rfl)| rfl|rfl|rfl|rfl|rfl|rfl|rfl <;> rfl
theorem eSt:ElemIs Tryz.prog 42 26 384:=ElemIs.of (z:=.agg (stC zT ⟨(none,0),(none,0),(none,0),(none,0),(none,0),(none,0)⟩).toArray) kr rfl om
def Fv(B:Nat)(v:Value)(k:Nat):Prop:=B≤k∧v.ownBlock≠some k
structure BdS(gp gs:Nat)(A:Option Addr)(n c:Nat)(ts:List Lx.Tok)(w0:World)(l:List St)(sl:List StA)(v:Value)(q:PS)(w:World):Prop where
 st:PSt gp gs A n c ts q w
 wr:Wr [gp,gs] w0 w
 own:w.ownsRow w0.heap.size 42 26 v l.length (zipC stC l sl)
 nl:sl.length=l.length
 ar:∀(i:Nat) (s:St) (p:StA),l[i]? = some s→sl[i]? = some p→StIn (Fv w0.heap.size v) w s p
 lo:PLo gp gs A w0.heap.size
section
variable{gp gs:Nat}{A:Option Addr}{n c:Nat}{ts:List Lx.Tok}{s q q':PS}{w w' w0:World}{l:List St}{sl:List StA}{v v':Value}{X:St}{y:StA}
theorem PLo.nin{B:Nat}(h:PLo gp gs A B):∀x∈[gp,gs],x<B:=by
 intro x hx;have h1:=h.1;have h2:=h.2.1;simp only[List.mem_cons,List.not_mem_nil,or_false]at hx;omega
theorem BdS.call(h:BdS gp gs A n c ts w0 l sl v q w)(hs:PSt gp gs A n c ts q' w')(hW:Wr [gp,gs] w w'):BdS gp gs A n c ts w0 l sl v q' w' :=
 ⟨hs,h.wr.trans hW,zbd h.own (fun k hk hlt _=>hW.block k hlt (fun hm=>by have:=h.lo.nin k hm;omega)),h.nl,
   fun i s p h1 h2=>(h.ar i s p h1 h2).keep (hW.keep _ _ (fun k hk _ hm=>by have h5:=h.lo.nin k hm;have h6:=hk.1;omega) (fun _ h _=>h)),h.lo⟩
theorem BdS.fr(h:BdS gp gs A n c ts w0 l sl v q w){B:Nat}(hB:w.heap.size≤B){W:World}{T:St}{p:StA}(ha:StIn (Fr B) W T p):StIn (Fv w0.heap.size v) W T p :=
 ha.keep ⟨lr,fun _ _ _=>rfl,fun k hk _=>⟨by have:=h.wr.size;unfold Fr at hk;omega,fun e=>by have:=(h.own.lt k e).2;unfold Fr at hk;omega⟩⟩
theorem BdS.push(h:BdS gp gs A n c ts w0 l sl v q w)(hy:StIn (Fv w0.heap.size v) w X y){w5:World}(hg:(w.alloc (.cells (stC X y).toArray 42)).grownBy w5 v.ownBlock)
 (ho:w5.ownsRow w0.heap.size 42 26 v' (l.length+1) (zipC stC l sl++stC X y)) (hat:v'.ownBlock=v.ownBlock∨v'.ownBlock=some (w.alloc (.cells (stC X y).toArray 42)).heap.size):
 BdS gp gs A n c ts w0 (l++[X]) (sl++[y]) v' q w5:=by
 have hB5:Below w0.heap.size w w5:=((Below.refl _ w).alloc h.wr.size _).grown hg (Nat.le_trans h.wr.size sy) (fun k hk=>(h.own.lt k hk).1)
 have hK:Keep (Fv w0.heap.size v) (Fv w0.heap.size v') w w5:=by
  refine⟨hB5.size,fun k hk hkl=>?_,fun k hk hkl=>⟨hk.1,fun e=>?_⟩⟩
  · rw[hg.block k (by simp;omega) hk.2.symm]
    exact Below.heap_alloc w _ k hkl
  · rcases hat with h1|h1
    · exact hk.2 (h1 ▸ e)
    · rw[h1]at e
      injection e with e
      simp at e
      omega
 refine⟨h.st.belowB h.lo hB5,h.wr.thenb hB5,?_,by simp[h.nl],fun i s p h1 h2=>?_,h.lo⟩
 · rw[la9,zb1 stC l sl X y h.nl]
   exact ho
 · rcases Nat.lt_or_ge i l.length with hi|hi
   · rw[ll9 hi]at h1
     rw[ll9 (by rw[h.nl];exact hi)]at h2;exact(h.ar i s p h1 h2).keep hK
   · have hi0:i=l.length:=by
      have:=(gi9.1 h1).1
      simp at this
      omega
     subst hi0
     simp at h1
     rw[←h.nl]at h2
     simp at h2
     subst h1 h2;exact hy.keep hK
theorem BdS.fin(h:BdS gp gs A n c ts w0 l sl v q w):∃A' c',v=.slice A' l.length c'∧BodyIn (Fr w0.heap.size) w A' l:=by
 obtain⟨A',c',rfl,hc⟩:=zc3 h.own;have hK:Keep (Fv w0.heap.size (.slice A' l.length c')) (Fr w0.heap.size) w w:=⟨lr,fun _ _ _=>rfl,fun k hk _=>hk.1⟩;refine⟨A',c',rfl,.mk A' l sl h.nl ⟨RdS.ofOwn3 h.own,fun hn ad e=>?_⟩ (fun i s p h1 h2=>((h.ar i s p h1 h2).keep hK).1) (fun i s p h1 h2=>((h.ar i s p h1 h2).keep hK).2.1) (fun i s p h1 h2=>((h.ar i s p h1 h2).keep hK).2.2)⟩;subst e;have h5:=h.own
 rcases h5.2 with ⟨h6,h0⟩|⟨g,cap,cur,hv,hb,_⟩
 · omega
 · injection hv with hA
   injection hA with hA
   subst hA;exact⟨hb,zd1 h5 rfl⟩
end
end
section
theorem oneSt(X:St)(y:StA):(Tryz.prog.info? 42).map (fun i=>((i.zero.map (fun z=>z.cells.size)),i.size))=some (some (stC X y).length,(stC X y).length):=by rw[zbz];kernel_rfl
section
variable{P:Program}{w:World}{ops:Array Oper}{rest:List Oper}{o:Oper}{a:Act}{Q:Exit→Act→World→Prop}
theorem zg5(hgd:o.guard=none)(t e:TypeId)(x:Operand)(ho:o.op=.buildSlice t 1 #[(0,x)])(cs:List Value)(hx:a.eval x=.agg cs.toArray)(hu:P.underlying t=some (.slice e))(hi:(P.info? e).map (fun i=>((i.zero.map (fun z=>z.cells.size)),i.size))=some (some cs.length,cs.length))(hpos:0<cs.length)(hsm:cs.length≤1000000)
 (h:wpList P ops Q rest (a.put o.dst (.slice (some ⟨w.heap.size,0,none⟩) 1 1)) (w.alloc (.cells cs.toArray e))):wpList P ops Q (o :: rest) a w :=
 zcl hgd fun _ hK=>zch (zdd t e x ho cs hx hu hi hpos hsm) (hK _ _ h)
end
structure QS(d:Nat)(s:PS):Prop where
 q:Q 14 s
 b0:0≤s.bo
 b1:s.bo≤13
 d1:1≤d
 ok:s.ok=true→s.bo≤12∧14≤(d:Int)+s.bo
theorem QS.pg{d:Nat}{ts:List Lx.Tok}{s q:PS}(h:QS d s)(k:Pg ts s q):QS d q:=⟨h.q.pg k,by rw[k.bo];exact h.b0,by rw[k.bo];exact h.b1,h.d1,fun hq=>by rw[k.bo];exact h.ok (k.okof hq)⟩
def StK(gp gs:Nat)(A:Option Addr)(n c:Nat)(ts:List Lx.Tok)(P:PS→St × PS)(R:PS→Prop):Prop :=
 ∀(s:PS) (w:World),PSt gp gs A n c ts s w→R s→Calls Tryz.prog 24 #[.pointer (some ⟨gp,0,none⟩)] w fun e w'=>∃p:StA,e=.returned (.agg (stC (P s).1 p).toArray)∧StIn (Fr w.heap.size) w' (P s).1 p∧PSt gp gs A n c ts (P s).2 w'∧Wr [gp,gs] w w'
def BoK(gp gs:Nat)(A:Option Addr)(n c:Nat)(ts:List Lx.Tok)(P:PS→List St × PS)(R:PS→Prop):Prop :=
 ∀(s:PS) (w:World),PSt gp gs A n c ts s w→R s→Calls Tryz.prog 55 #[.pointer (some ⟨gp,0,none⟩)] w fun e w'=>∃A' c',e=.returned (.slice A' (P s).1.length c')∧BodyIn (Fr w.heap.size) w' A' (P s).1∧PSt gp gs A n c ts (P s).2 w'∧Wr [gp,gs] w w'
section
variable{gp gs:Nat}{A:Option Addr}{n c:Nat}{ts:List Lx.Tok}
theorem body_c(cx:Cx gp gs A n ts)(st:PS→St × PS)(d:Nat)(hst:StK gp gs A n c ts st (QS d))(hg:∀s,Pg ts s (st s).2)(hcs:∀s,(st s).2.ok=true→s.i+1≤(st s).2.i):BoK gp gs A n c ts (bodyP ts st) (QS (d+1)):=by
 intro s w h hq;have HSL:=qh (fun W A1 (h:PSt gp gs A n c ts s W) (hl:Rd W A1 1 (strs [m_lbr]))=>zbt cx h [m_lbr] A1 1 1 hl om);have HF:=qh (fun W (h:PSt gp gs A n c ts s W)=>zgz cx h 11 (by decide));have HT1:=qh (fun W s' (h:PSt gp gs A n c ts s' W)=>zbk cx h m_lbr);have HT2:=qh (fun W s' (h:PSt gp gs A n c ts s' W)=>zbk cx h m_rbr);have HSR:=qh (fun q W A1 (h:PSt gp gs A n c ts q W) (hl:Rd W A1 1 (strs [m_rbr]))=>zbt cx h [m_rbr] A1 1 1 hl om);have HOK:=qh (fun q W (h:PSt gp gs A n c ts q W)=>ok_c h.par);have HH:=qh h;have HLO:=qh (h.lo cx);have HCX:=qh cx;have HBD:Hid (bndP ts m_lbr s.bo s=if sees ts [m_lbr] s && s.bo == 12 then failP ts 11 s else s):=rfl;have hb1:Pg ts s (bndP ts m_lbr s.bo s):=by unfold bndP;split;exact zd7 s (.inr rfl);exact Pg.refl _
 have hb2:Pg ts s (takeP ts m_lbr (bndP ts m_lbr s.bo s)):=hb1.trans (zan cx.ends m_lbr _);have HP2:=qh hb2
 have HOP:Hid ((takeP ts m_lbr (bndP ts m_lbr s.bo s)).ok=true→s.bo≠12):=by
  intro ho h3;have hbo:=(zan cx.ends m_lbr (bndP ts m_lbr s.bo s)).okof ho
  unfold bndP at hbo
  cases hs:sees ts [m_lbr] s
  · unfold takeP at ho
    have hb5:bndP ts m_lbr s.bo s=s:=by unfold bndP;rw[hs];rfl
    rw[hb5]at ho
    split at ho
    · split at ho
      · rename_i h1 h2
        unfold sees at hs
        rw[h1]at hs;simp only[Bool.true_and]at hs;rw[hs]at h2
        cases h2
      · cases ho
    · rename_i h1
      exact h1 ho
  · have hx:(s.bo == 12)=true:=by simp[h3]
    rw[hs,hx]at hbo;simp only[Bool.and_self,if_true]at hbo
    unfold failP at hbo
    rw[zaf hs]at hbo
    cases hbo
 have HR:Hid (bodyP ts st s=((bodyLoop ts st (ts.length+2) [] { takeP ts m_lbr (bndP ts m_lbr s.bo s)with bo:=(takeP ts m_lbr (bndP ts m_lbr s.bo s)).bo+1 }).1,{ takeP ts m_rbr (bodyLoop ts st (ts.length+2) [] { takeP ts m_lbr (bndP ts m_lbr s.bo s)with bo:=(takeP ts m_lbr (bndP ts m_lbr s.bo s)).bo+1 }).2 with bo:=(takeP ts m_rbr (bodyLoop ts st (ts.length+2) [] { takeP ts m_lbr (bndP ts m_lbr s.bo s)with bo:=(takeP ts m_lbr (bndP ts m_lbr s.bo s)).bo+1 }).2).bo-1 })):=rfl;rw[HR.out];have HQ:=qh hq;have HQ0:=hq.b0;have HQ1:=hq.b1;clear h hq hb1 hb2 HR;generalize hs2:takeP ts m_lbr (bndP ts m_lbr s.bo s)=s2 at *;generalize hs3:({ s2 with bo:=s2.bo+1 } : PS)=s3 at *;generalize hR:bodyLoop ts st (ts.length+2) [] s3=R at *;have HR:=qh hR;have HS2E:=qh hs2;have HS3E:=qh hs3;clear hR hs2 hs3
 go_enter Tryz.func55, Tryz.ntmps55
 go_upto_region 1 with fail
 go_cut [13] (fun v wx=>v=.bool (sees ts [m_lbr] s && s.bo == 12)∧Hid (PSt gp gs A n c ts s wx)∧Hid (Wr [gp,gs] w wx))
 case first =>
  cases hs:sees ts [m_lbr] s
  · rw[hs]at HSL
    go_wp2_with (go_at_call 20;(refine(HSL.out _ _ (by exact HH.out.alloc _) (by exact Rd.new1' rfl)).mono ?_);rintro e w2 ⟨rfl,hB2⟩;have H2:=qh ((HH.out.alloc _).below hB2);have HE2:=qh (((Wr.refl [gp,gs] w).alloc _).trans (Wr.of_below hB2));clear hB2)
    go_meet
    exact⟨by rw[hs];rfl,H2,HE2⟩
  · rw[hs]at HSL
    go_wp2_with (go_at_call 20;(refine(HSL.out _ _ (by exact HH.out.alloc _) (by exact Rd.new1' rfl)).mono ?_);rintro e w2 ⟨rfl,hB2⟩;have H2:=qh ((HH.out.alloc _).below hB2);have HE2:=qh (((Wr.refl [gp,gs] w).alloc _).trans (Wr.of_below hB2));have d3:w2.cell? ⟨gp,3,none⟩=some (.int .i64 s.bo):=H2.out.par.cell 3;clear hB2)
    go_meet
    exact⟨by rw[hs];rfl,H2,HE2⟩
 case rest =>
  obtain⟨rfl,H2,HE2⟩:=hcut;clear HSL
  go_step
  go_cut [] (fun wx=>Hid (PSt gp gs A n c ts (bndP ts m_lbr s.bo s) wx)∧Hid (Wr [gp,gs] w wx))
  case first =>
   cases hx:(sees ts [m_lbr] s && s.bo == 12)
   · have HB2:bndP ts m_lbr s.bo s=s:=by rw[HBD.out,hx];rfl
     go_wp2
     go_meet
     exact⟨by rw[HB2];exact H2,HE2⟩
   · have HB2:bndP ts m_lbr s.bo s=failP ts 11 s:=by rw[HBD.out,hx];rfl
     go_wp2_with (go_at_call 54;(refine(HF.out _ (by exact H2.out)).mono ?_);rintro e w3 ⟨rfl,h3,hW3⟩;have H3:=qh h3;have HE3:=qh (HE2.out.trans (hW3.mono sy));clear h3 hW3)
     go_meet
     exact⟨by rw[HB2];exact H3,HE3⟩
  case rest =>
   obtain⟨H4,HE4⟩:=hcut;clear HF HBD H2 HE2;have HT1:=HT1.out _ _ H4.out;rw[HS2E.out]at HT1;have HT1:=qh HT1;have HBO:Hid (s2.bo=s.bo):=HP2.out.bo
   go_upto_region 5 with (go_at_call 49;(refine(HT1.out).mono ?_);rintro e w5 ⟨rfl,h5,hW5⟩;have H5:=qh h5;have HE5:=qh (HE4.out.trans hW5);have c3:w5.cell? ⟨gp,3,none⟩=some (.int .i64 s.bo):=HBO.out ▸ h5.par.cell 3;have f3:=h5.par.frozen 3;clear h5 hW5)
   have HS3:Hid (PSt gp gs A n c ts s3 (w5.setCell ⟨gp,3,none⟩ (.int .i64 (s.bo+1)))):=HS3E.out ▸ ⟨by rw[HBO.out];exact H5.out.par.set_ 3 _,Stm.far H5.out.stm HCX.out.ne.symm (fun ad e=>(HCX.out.tk ad e).1) _,H5.out.z,H5.out.lt⟩;have HE6:Hid (Wr [gp,gs] w (w5.setCell ⟨gp,3,none⟩ (.int .i64 (s.bo+1)))):=HE5.out.setCell sy _
   have HPG:Hid (∀q,Pg ts s3 q→q.bo=s.bo+1∧(q.ok=true→QS d q)):=fun q hq=>by
    rw[←HS3E.out]at hq;have e1:q.bo=s.bo+1:=by rw[hq.bo,←HBO.out]
    refine⟨e1,fun ho=>?_⟩;have h2:s2.ok=true:=hq.okof ho;have h3:=HOP.out h2;have h4:=HP2.out.okof h2;have h5:=HQ.out.ok h4;have h0:=HQ.out.q.pg HP2.out;have e2:q.pa=s2.pa:=hq.pa;have hqq:Q 14 q:=⟨by rw[e2];exact h0.p0,by rw[e2];exact h0.p1,h0.d1,fun ho=>by rw[e2];exact h0.ok (hq.okof ho)⟩;exact⟨hqq,by omega,by omega,by omega,fun _=>⟨by omega,by omega⟩⟩
   clear HT1 H4 HE4 H5 HE5 HP2 HOP HQ HBO c3 f3;have HBL:=qh (fun(kk:Nat) (l:List St) (q:PS)=>(⟨fun h=>(by rw[bodyLoop,if_neg (by rw[h];simp)]),fun h=>(by rw[bodyLoop,if_pos h])⟩:((q.ok && !sees ts [m_rbr] q)=false→bodyLoop ts st (kk+1) l q=(l,q))∧((q.ok && !sees ts [m_rbr] q)=true→bodyLoop ts st (kk+1) l q=bodyLoop ts st kk (l++[(st q).1]) (st q).2)));have HBS:Hid (BdS gp gs A n c ts w [] [] (.slice none 0 0) s3 (w5.setCell ⟨gp,3,none⟩ (.int .i64 (s.bo+1)))):=⟨HS3.out,HE6.out,World.ownsRow_nil _ _ _ _,rfl,fun i s p h=>by simp at h,HLO.out⟩;have HLT:Hid (s3.i<ts.length):=HS3.out.lt;clear HS3 HE6;go_wp2
   go_loopg [3] (ts.length+1) (fun kk v wr=>∃(l:List St) (sl:List StA) (q:PS),BdS gp gs A n c ts w l sl v q wr∧(q.ok=true→ts.length≤kk+q.i)∧bodyLoop ts st (kk+1) l q=R∧l.length≤q.i+1∧(q.ok=true→l.length≤q.i)∧Pg ts s3 q)
   case atStart=>exact⟨[],[],s3,HBS.out,fun _=>by omega,HR.out,by simp,fun _=>by simp,Pg.refl _⟩
   case round =>
    clear HBS HR;obtain⟨l,sl,q,hB,hk,hT,hl,hlo,hpg⟩:=hrel;obtain⟨hqb,hqs⟩:=HPG.out q hpg;have HB:=qh hB;have HL:=qh (And.intro hk (And.intro hT (And.intro hl (And.intro hlo hpg))));have HQB:=qh hqb;have HQS:=qh hqs;clear hB hk hT hl hlo hpg hqb hqs
    go_upto_region 6 with fail
    go_cut [32] (fun v wx=>v=.bool (q.ok && !sees ts [m_rbr] q)∧Hid (Wr [gp,gs] wr wx)∧Hid (PSt gp gs A n c ts q wx))
    case first =>
     have HO:=qh (HOK.out q _ HB.out.st)
     cases ho:q.ok
     · rw[ho]at HO
       go_wp2_with (go_at_call 22;(refine(HO.out).mono ?_);rintro e w6 ⟨rfl,rfl⟩)
       go_meet
       exact⟨by rw[ho];rfl,Wr.refl _ _,HB.out.st⟩
     · rw[ho]at HO
       have HSR1:=qh (HSR.out q)
       go_wp2_with (first
        | (go_at_call 22;(refine(HO.out).mono ?_);rintro e w6 ⟨rfl,rfl⟩)
        | (go_at_call 20;(refine(HSR1.out _ _ (by exact HB.out.st.alloc _) (by exact Rd.new1' rfl)).mono ?_);rintro e w7 ⟨rfl,hB7⟩;have H7:=qh ((HB.out.st.alloc _).below hB7);have HE7:=qh (((Wr.refl [gp,gs] _).alloc _).trans (Wr.of_below hB7));clear hB7))
       go_meet
       exact⟨by rw[ho];rfl,HE7,H7⟩
    case rest =>
     obtain⟨rfl,HW,HS⟩:=hcut;have HB2:=qh (HB.out.call HS.out HW.out);obtain⟨A9,c9,rfl,_⟩:=HB2.out.fin
     cases hc:(q.ok && !sees ts [m_rbr] q)
     · have HRR:Hid (R=(l,q)):=HL.out.2.1.symm.trans ((HBL.out gk l q).1 hc)
       have HT2:=qh (HT2.out _ q HS.out);have HBO:Hid ((takeP ts m_rbr q).bo=s.bo+1):=(zan HCX.out.ends m_rbr q).bo.trans HQB.out;clear hc HL HPG HBL HW HS HB
       go_wp2_with (go_at_call 49;(refine(HT2.out).mono ?_);rintro e w8 ⟨rfl,h8,hW8⟩;have H8:=qh h8;have HB8:=qh (HB2.out.call h8 hW8);have c3:w8.cell? ⟨gp,3,none⟩=some (.int .i64 (s.bo+1)):=HBO.out ▸ h8.par.cell 3;have f3:=h8.par.frozen 3;clear h8 hW8)
       go_ret;rw[HRR.out];obtain⟨A8,c8,e8,hr8⟩:=HB8.out.fin
       injection e8 with e8 _ e9
       subst e8 e9;refine⟨A9,c9,rfl,hr8.keep (zao (by exact HLO.out.1) _),⟨?_,Stm.far H8.out.stm HCX.out.ne.symm (fun ad e=>(HCX.out.tk ad e).1) _,H8.out.z,H8.out.lt⟩,HB8.out.wr.setCell sy _⟩;rw[HBO.out,show s.bo+1-1=s.bo by omega];exact H8.out.par.set_ 3 _
     · have hok:q.ok=true:=by simp only[Bool.and_eq_true]at hc;exact hc.1
       have HST:=qh (hst q _ HS.out (HQS.out hok));have HT3:=qh (((HBL.out gk l q).2 hc).symm.trans HL.out.2.1);have HI3:Hid (q.i≤(st q).2.i∧((st q).2.ok=true→q.i+1≤(st q).2.i)):=⟨(hg q).le,hcs q⟩;have HP3:=qh (HL.out.2.2.2.2.trans (hg q));have HK3:=qh (And.intro (HL.out.1 hok) (HL.out.2.2.2.1 hok));have hlt:q.i<ts.length:=HS.out.lt;have hl8:l.length≤100000:=by have:=HK3.out.2;have:=HCX.out.hn;have:=HCX.out.hn8;omega
       generalize (st q).1=X at *;generalize (st q).2=q3 at *;clear hc HL HPG HBL HW HS HB HQS hok
       go_wp2_with (first
        | (go_at_call 24;(refine(HST.out).mono ?_);rintro e w8 ⟨y,rfl,hy,h8,hW8⟩;have HY8:=qh (HB2.out.fr lr hy);have HB8:=qh (HB2.out.call h8 hW8);clear hy h8 hW8)
        | (refine zg5 rfl 24 42 (.tmp 35) rfl (stC X y) rr Tryz.underlying24 (by exact oneSt X y) (by rw[zbz];omega) (by rw[zbz];omega) ?_)
        | (at_builtin;refine zay rfl (.tmp 33) (.tmp 36) 24 rfl w.heap.size 42 26 384 Tryz.underlying24 eSt (.slice A9 l.length c9) l.length (zipC stC l sl) rr (by exact HB8.out.own.alloc _) (some ⟨w8.heap.size,0,none⟩) 1 1 (stC X y) rr (by exact RdS.new w8 _ (stC X y) 26 rfl) (za3 X y) om om (by have:=HB8.out.wr.size;simp;omega) ?_;intro A5 c5 w9 hown5 hc5 hg5 hat5;have HB9:=qh (HB8.out.push HY8.out hg5 hown5 hat5);clear hown5 hc5 hg5 hat5))
       have hk5:=HK3.out;have hi5:=HI3.out;have e5:(l++[X]).length=l.length+1:=by simp
       go_roundg (gk-1)
       case measure=>omega
       case rel=>exact⟨l++[X],sl++[y],q3,HB9.out,fun ho=>by have:=hi5.2 ho;omega,by rw[show gk-1+1=gk by omega];exact HT3.out,by omega,fun ho=>by have:=hi5.2 ho;omega,HP3.out⟩
end
end
section
theorem zcq{w:World}{t:TypeId}{L:List ByteArray}{n g:Nat}(hg:g=w.heap.size)(hn:(strs L).length=n):Rd (w.alloc (.cells (strs L).toArray t)) (some ⟨g,0,none⟩) n (strs L):=by
 subst hg;have hb:Blk (w.alloc (.cells (strs L).toArray t)) w.heap.size t (strs L):=Blk.new w t _;exact⟨by simpa using hn,fun _=>⟨w.heap.size,0,rfl,hb.lt,fun j u hu=>by rw[Nat.zero_add,hb.cell];exact hu⟩⟩
theorem zlq(v:Value):Instr.loadAt 42 v=ldAt 42 v:=rfl
def pA0:StA:=⟨(none,0),(none,0),(none,0),(none,0),(none,0),(none,0)⟩
def kT(k:ByteArray)(a:Int):St:=.mk k a zR zE zE zE [] zR zR [] []
theorem zg4(k:ByteArray)(a:Int)(w:World):(Instr.build 42 #[(0,.string k),(1,.int .i64 a)]).run Tryz.prog w=.ok (.agg (stC (kT k a) pA0).toArray) w:=by kernel_rfl
theorem zrp(w:World):(Instr.build 42 #[]).run Tryz.prog w=.ok (.agg (stC zT pA0).toArray) w:=by kernel_rfl
theorem sd_ld{w:World}{g:Nat}{t:TypeId}{T:St}{p:StA}(hb:Blk w g t (stC T p)):(ldAt 42 (.pointer (some ⟨g,0,none⟩))).run Tryz.prog w=.ok (.agg (stC T p).toArray) w:=zbf hb 42 0 (stC T p) rfl _ Tryz.underlying42 rfl hdSt
theorem StIn.zero(F:Nat→Prop)(w:World)(k:ByteArray)(a:Int):StIn F w (kT k a) pA0:=⟨⟨ArgsIn.nil _ _ _,ArgsIn.nil _ _ _,ArgsIn.nil _ _ _,RdF.nil _ _ _ _⟩,BodyIn.nil _ _ _,BodyIn.nil _ _ _⟩
section
variable{gp gs gt:Nat}{A:Option Addr}{n c:Nat}{ts:List Lx.Tok}{s q q':PS}{w w' w'' w6:World}{T T':St}{p p':StA}
theorem zoq(cx:Cx gp gs A n ts)(K:ByteArray)(hK:K=k_send∨K=k_split∨K=k_cover∨K=k_wait∨K=k_block∨K=k_retry∨K=k_every)(at_:Int)(p0:StA)(hS:LnS gp gs gt A n c ts w (kT K at_) p0 s w)(hq:Q 14 s):
 Calls Tryz.prog 56 #[.pointer (some ⟨gp,0,none⟩),.pointer (some ⟨gt,0,none⟩)] w fun e w'=>e=.returned (.tuple #[])∧∃p',LnS gp gs gt A n c ts w (lineP ts K at_ s).1 p' (lineP ts K at_ s).2 w':=by
 rcases hK with rfl|rfl|rfl|rfl|rfl|rfl|rfl
 · cases hw:sees ts [k_with] (viaP ts false (EX ts s).2).2
   · exact zjt cx at_ p0 hS hq hw
   · exact zjs cx at_ p0 hS hq hw
 · exact zjr cx at_ p0 hS hq
 · exact zjw cx at_ p0 hS hq
 · exact zlo cx k_wait rfl at_ p0 hS hq
 · exact zjx cx at_ p0 hS hq
 · exact zju cx at_ p0 hS hq
 · exact zjv cx at_ p0 hS hq
theorem Wr.newg(h1:Wr [gp,gs] w w6)(h2:Wr [gp,gs,gt] w6 w')(hg:w.heap.size≤gt):Wr [gp,gs] w w' :=
 ⟨h2.os.trans h1.os,h2.tape.trans h1.tape,h2.output.trans h1.output,Nat.le_trans h1.size h2.size,fun k hk hne =>
  (h2.block k (Nat.lt_of_lt_of_le hk h1.size) (fun hm=>by simp only[List.mem_cons,List.not_mem_nil,or_false]at hm hne;omega)).trans (h1.block k hk hne)⟩
theorem StE(hL:LnS gp gs gt A n c ts w6 T p q w')(h6:Wr [gp,gs] w w6)(hgt:w.heap.size<gt)(hlo:PLo gp gs A w.heap.size)(ho:Only w' w'' w.heap.size):
 StIn (Fr w.heap.size) w'' T p∧PSt gp gs A n c ts q w''∧Wr [gp,gs] w w'' :=
 ⟨(hL.ar.keep (zhq (Wr.onlyg (L:=[w.heap.size]) ho sy) (fun g hg=>by simp only[List.mem_cons,List.not_mem_nil,or_false]at hg;have:=hL.lt;omega) lr)).keep (za6 h6.size),
   hL.st.only hlo lr ho,⟨ho.grown.os.trans (Wr.newg h6 hL.wr (Nat.le_of_lt hgt)).os,ho.grown.tape.trans (Wr.newg h6 hL.wr (Nat.le_of_lt hgt)).tape,ho.grown.output.trans (Wr.newg h6 hL.wr (Nat.le_of_lt hgt)).output,Nat.le_trans (Wr.newg h6 hL.wr (Nat.le_of_lt hgt)).size ho.grown.size,fun k hk hne =>
    (ho.grown.block k (Nat.lt_of_lt_of_le hk (Wr.newg h6 hL.wr (Nat.le_of_lt hgt)).size) (fun e=>by injection e with e;omega)).trans ((Wr.newg h6 hL.wr (Nat.le_of_lt hgt)).block k hk hne)⟩⟩
theorem LnS.res(hL:LnS gp gs gt A n c ts w6 T p q w'){t:TypeId}{cs:List Value}(hb:Blk w6 w.heap.size t cs)(hgt:w.heap.size<gt)(hlo:PLo gp gs A w.heap.size):Blk w' w.heap.size t cs :=
 (hL.wr.block _ hb.lt (fun hm=>by have h1:=hlo.1;have h2:=hlo.2.1;simp only[List.mem_cons,List.not_mem_nil,or_false]at hm;omega)).trans hb
theorem ten_in{t:Lx.Tok}(h:isOf t ten=true):bytesOf t.text∈ten:=by
 unfold isOf at h
 simp only[Bool.and_eq_true]at h;exact zbh.1 h.2
end
end
end Go.Proofs.YtafjkbbiaopemaaGreatDoor.Tr
