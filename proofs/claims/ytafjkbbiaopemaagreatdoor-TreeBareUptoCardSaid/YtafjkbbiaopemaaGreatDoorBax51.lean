/- Part of the proof. -/
import Derived.Deep.Slices
import Derived.DataReads
import Derived.Test.YtafjkbbiaopemaaGreatDoorBax49
import Derived.Test.YtafjkbbiaopemaaGreatDoorBax50
set_option linter.all false
set_option maxRecDepth 100000
set_option maxHeartbeats 0
namespace Go.Proofs.YtafjkbbiaopemaaGreatDoor.Tr
open Go.RowKit
section
mutual
def cnS:St→Nat
 | .mk _ _ _ _ _ _ _ _ _ body els=>cnSs body+cnSs els
def cnSs:List St→Nat
 | []=>0
 | s :: l=>1+cnS s+cnSs l
end
theorem cnS_eq(s:St):cnS s=cnSs s.body+cnSs s.els:=by
 obtain⟨_,_,_,_,_,_,_,_,_,body,els⟩:=s;rw[cnS];rfl
theorem zf2:∀l m:List St,cnSs (l++m)=cnSs l+cnSs m
 | [],m=>by rw[List.nil_append,cnSs];omega
 | s :: l,m=>by rw[List.cons_append,cnSs,cnSs,zf2 l m];omega
theorem zgx{l:List St}{i:Nat}(hi:i<l.length):cnSs (l.take (i+1))=cnSs (l.take i)+(1+(cnSs l[i].body+cnSs l[i].els)):=by
 rw[List.take_add_one,ge9 hi,zf2]
 show _+cnSs [l[i]]=_
 rw[cnSs,cnSs,cnS_eq,Nat.add_zero]
theorem zle{l:List St}(i:Nat):cnSs (l.take i)≤cnSs l:=by
 have h:=zf2 (l.take i) (l.drop i);rw[List.take_append_drop]at h;omega
theorem zf1:∀l:List St,l.length≤cnSs l
 | []=>Nat.zero_le _
 | s :: l=>by rw[cnSs,List.length_cons];have:=zf1 l;omega
section
variable{w w':World}
attribute [local go_sem ↓] zes
theorem zpy{ss:List St}(h:StSm ss):∀ {F:Nat→Prop} (A:Option Addr) (n a:Nat) (_:ss.length=n) (w:World) (_:BodyIn F w A ss) (_:cnSs ss≤1000000000000),
 Calls Tryz.prog 17 #[.slice A n a] w fun e w'=>e=.returned (.int .i64 (cnSs ss:Int))∧Below w.heap.size w w':=by
 induction h with
 | mk ss hl he hy hz ihy ihz =>
  intro F A n a hn w hA hc;have HY:=qh ihy;have HZ:=qh ihz;have HN:=qh hn;have HA:=qh hA;have HF:Hid (cnSs (ss.take n)=cnSs ss):=by show _=_;rw[←hn,tk lr]
  have HC:=qh (And.intro hc (zf1 ss));have hn8:n≤140737488355328:=om;clear ihy ihz hl he hy hz hn hA hc
  go_enter Tryz.func17, Tryz.ntmps17
  go_wp2
  go_loopg [3,10] n (fun kk v3 q wr=>∃j:Nat,j≤n∧kk=n-j∧q=.int .i64 (j:Int)∧Hid (Below w.heap.size w wr)∧v3=.int .i64 ((n+(cnSs (ss.take j)-j):Nat):Int)∧Hid (j≤cnSs (ss.take j)))
  case atStart=>exact⟨0,by omega,by omega,rfl,qh (Below.refl _ _),by simp[cnSs],qh (Nat.zero_le _)⟩
  case round =>
   obtain⟨j,hj,hk,rfl,HR,rfl,HJ⟩:=hrel
   rcases Nat.eq_or_lt_of_le hj with rfl|hlt
   · have hnl:¬(j:Int)<(j:Int):=om
     have HE:Hid (j+(cnSs (ss.take j)-j)=cnSs ss):=by have:=HJ.out;have:=HF.out;show _=_;omega
     rw[HE.out];clear hk hj;go_wp2;go_ret;exact⟨rfl,HR.out⟩
   · have hlt2:(j:Int)<(n:Int):=om
     have hjl:j<ss.length:=by have:=HN.out;omega
     obtain⟨b1,o1,sp,rfl,hb1,x1,k1⟩:=zbr (HA.out.keep (Keep.of_below HR.out F)) j hjl;have HS1:=qh (zgx hjl);have HSL:=qh (zle (l:=ss) (j+1));have HYj:=qh (fun(A:Option Addr) (n a:Nat)=>HY.out ss[j] (List.getElem_mem _) (F:=F) A n a);have HZj:=qh (fun(A:Option Addr) (n a:Nat)=>HZ.out ss[j] (List.getElem_mem _) (F:=F) A n a);clear HY HZ HA;generalize ss[j]=E at *;have HK:=qh k1;have HCL:=qh (zba E sp);have HCO:=qh (zax E sp);obtain⟨C,hC⟩:=ex9 (stC E sp);have HCC:=qh hC;rw[←hC]at x1 HCL HCO;have hld:=run_loadAt_mid wr b1 (o1+j*26) 42 C _ x1 Tryz.underlying42 rfl (by rw[HCL.out];exact hdSt);have hld2:(ldAt 42 (.pointer (some ⟨b1,o1+j*26,none⟩))).run Tryz.prog wr=.ok (.agg C.toArray) wr:=hld;clear hld x1 k1 hC
     go_upto_region 5 with (refine zaa rfl 42 (.tmp 5) (.tmp 13) rfl wr.heap.size C rr rr 42 (stC zT pA0) (by exact Blk.new' rfl rfl) (by rw[HCL.out];exact hdSt) HCO.out HCL.out ?_;intro w1 hb1' ho1;have H1:Hid (Below wr.heap.size wr w1∧Blk w1 wr.heap.size 42 C):=⟨ho1.below ((Below.refl _ wr).alloc lr _) lr sy,hb1'⟩;clear hb1' ho1)
     obtain⟨G,hG⟩:=ex9 (wr.heap.size);have H1:Hid (Below wr.heap.size wr w1∧Blk w1 G 42 (stC E sp)):=by subst hG;rw[←HCC.out];exact H1.out
     rw[←hG];clear hG hld2 HCL HCO HCC;obtain⟨x,hx⟩:=ex9 (cnSs E.body);obtain⟨y,hy⟩:=ex9 (cnSs E.els);rw[←hx,←hy]at HS1
     have HB:Hid (x≤1000000000000∧y≤1000000000000∧n≤1000000000000∧cnSs (ss.take j)≤1000000000000):=by
      have h1:=HS1.out;have h2:=HSL.out;have h3:=HC.out;have h4:=HN.out;exact⟨by omega,by omega,by omega,by omega⟩
     have Q1:Hid (∀W,Below wr.heap.size wr W→Calls Tryz.prog 17 #[.slice sp.y.1 E.body.length sp.y.2] W fun e w'=>e=.returned (.int .i64 (x:Int))∧Below W.heap.size W w'):=fun W hW=>by rw[hx];exact HYj.out _ _ _ rfl W (HK.out.2.1.keep (Keep.of_below hW F)) (by rw[←hx];exact HB.out.1)
     have Q2:Hid (∀W,Below wr.heap.size wr W→Calls Tryz.prog 17 #[.slice sp.z.1 E.els.length sp.z.2] W fun e w'=>e=.returned (.int .i64 (y:Int))∧Below W.heap.size W w'):=fun W hW=>by rw[hy];exact HZj.out _ _ _ rfl W (HK.out.2.2.keep (Keep.of_below hW F)) (by rw[←hy];exact HB.out.2.1)
     have HV:Hid (IntKind.i64.wrap ((x:Int)+(y:Int))=(x:Int)+(y:Int)):=by
      have h1:=HB.out;exact IntWalk.i64_in _ om
     obtain⟨z,hz⟩:=ex9 (n+(cnSs (ss.take j)-j))
     have HV2:Hid (IntKind.i64.wrap ((z:Int)+((x:Int)+(y:Int)))=((n+(cnSs (ss.take (j+1))-(j+1)):Nat):Int)∧j+1≤cnSs (ss.take (j+1))):=by
      have h1:=HB.out;have h2:=HS1.out;have h3:=HJ.out;refine⟨?_,by omega⟩;rw[IntWalk.i64_in _ om];omega
     rw[←hz];have HLD:Hid (∀W,Below w1.heap.size w1 W→W.cell? ⟨G,24,none⟩=some (.slice sp.y.1 E.body.length sp.y.2)∧W.cell? ⟨G,25,none⟩=some (.slice sp.z.1 E.els.length sp.z.2)∧Below wr.heap.size wr W):=fun W hW=>⟨(H1.out.2.below hW H1.out.2.lt).cell 24,(H1.out.2.below hW H1.out.2.lt).cell 25,H1.out.1.trans (hW.mono H1.out.1.size)⟩
     generalize E.body.length=eb at *;generalize E.els.length=ee at *;clear hx hy hz HYj HZj HK HJ HSL HS1 HC HB;have hT:Below w1.heap.size w1 w1.drew:=Below.drew (Below.refl _ _);refine kgo kr 9 (fun W=>Below w1.heap.size w1 W) hT (fun _ _ _ _ _ h=>h) ?_;refine kp 0 (.int .i64 (z:Int)) rfl kr (fun _=>kr) ?_;refine kp 1 (.pointer (some ⟨G,24,none⟩)) rfl kr (fun _=>kr) ?_;refine kl 2 (.slice sp.y.1 eb sp.y.2) rfl kr (fun w' hw'=>za9 (t:=24) (x:=.tmp 15) rr kr (fun _=>kr) (HLD.out w' hw').1) ?_;refine kp 4 (.pointer (some ⟨G,25,none⟩)) rfl kr (fun _=>kr) ?_;refine kl 5 (.slice sp.z.1 ee sp.z.2) rfl kr (fun w' hw'=>za9 (t:=24) (x:=.tmp 18) rr kr (fun _=>kr) (HLD.out w' hw').2.1) ?_;intro q8 q9;clear q8 q9;refine AnyK.enter 3 (d:=some 17) (f:=17) (args:=#[.slice sp.y.1 eb sp.y.2]) rr kr kr ?_;refine(Q1.out _ (HLD.out _ hT).2.2).mono ?_;rintro r y1 ⟨rfl,hB1⟩;have Y1:Below w1.heap.size w1 y1:=hT.trans (hB1.mono hT.size);refine⟨_,rfl,fun _=>Y1,?_⟩;refine AnyK.enter 6 (d:=some 20) (f:=17) (args:=#[.slice sp.z.1 ee sp.z.2]) rr kr kr ?_;refine(Q2.out _ (HLD.out _ Y1).2.2).mono ?_;rintro r y2 ⟨rfl,hB2⟩;have Y2:Below w1.heap.size w1 y2:=Y1.trans (hB2.mono Y1.size);refine⟨_,rfl,fun _=>Y2,?_⟩;refine AnyK.val 7 (v:=.int .i64 (IntKind.i64.wrap ((x:Int)+(y:Int)))) rr kr rfl kr (fun _=>Y2) ?_;rw[HV.out];refine AnyK.val 8 (v:=.int .i64 (IntKind.i64.wrap ((z:Int)+((x:Int)+(y:Int))))) rr kr rfl kr (fun _=>Y2) ?_;rw[HV2.out.1];refine AnyK.val 9 (v:=.int .i64 ((n+(cnSs (ss.take (j+1))-(j+1)):Nat):Int)) rr kr rfl kr (fun h=>(by cases h)) ?_;have HR2:Hid (Below w.heap.size w y2):=HR.out.trans ((HLD.out _ Y2).2.2.mono HR.out.size);refine AnyK.done ?_ ?_
     · kernel_rfl
     clear HLD hT Y1 Y2 hB1 hB2 Q1 Q2 HV;simp only[List.getElem_toArray,List.getElem_cons_zero,List.getElem_cons_succ,Act.put,List.setIfInBounds_toArray,List.set_cons_succ,List.set_cons_zero];go_wp2;go_roundg (gk-1)
     case measure=>omega
     case rel=>exact⟨j+1,by omega,by omega,by simp,HR2,rfl,qh HV2.out.2⟩
theorem zmy{ss:List St}(h:StSm ss):∀ {F:Nat→Prop} (A:Option Addr) (n a:Nat) (_:ss.length=n) (w:World) (_:BodyIn F w A ss) (_:cnSs ss≤1000000000000),
 Calls Tryz.prog 18 #[.slice A n a] w fun e w'=>e=.returned (.int .i64 (cnSs ss:Int))∧Below w.heap.size w w':=by
 induction h with
 | mk ss hl he hy hz ihy ihz =>
  intro F A n a hn w hA hc;have HY:=qh ihy;have HZ:=qh ihz;have HN:=qh hn;have HA:=qh hA;have HF:Hid (cnSs (ss.take n)=cnSs ss):=by show _=_;rw[←hn,tk lr]
  have HC:=qh (And.intro hc (zf1 ss));have hn8:n≤140737488355328:=om;clear ihy ihz hl he hy hz hn hA hc
  go_enter Tryz.func18, Tryz.ntmps18
  go_wp2
  go_loopg [3,4] n (fun kk v3 q wr=>∃j:Nat,j≤n∧kk=n-j∧q=.int .i64 (j:Int)∧Hid (Below w.heap.size w wr)∧v3=.int .i64 ((cnSs (ss.take j):Nat):Int))
  case atStart=>exact⟨0,by omega,by omega,rfl,qh (Below.refl _ _),by simp[cnSs]⟩
  case round =>
   obtain⟨j,hj,hk,rfl,HR,rfl⟩:=hrel
   rcases Nat.eq_or_lt_of_le hj with rfl|hlt
   · have hnl:¬(j:Int)<(j:Int):=om
     rw[HF.out];clear hk hj;go_wp2;go_ret;exact⟨rfl,HR.out⟩
   · have hlt2:(j:Int)<(n:Int):=om
     have hjl:j<ss.length:=by have:=HN.out;omega
     obtain⟨b1,o1,sp,rfl,hb1,x1,k1⟩:=zbr (HA.out.keep (Keep.of_below HR.out F)) j hjl;have HS1:=qh (zgx hjl);have HSL:=qh (zle (l:=ss) (j+1));have HYj:=qh (fun(A:Option Addr) (n a:Nat)=>HY.out ss[j] (List.getElem_mem _) (F:=F) A n a);have HZj:=qh (fun(A:Option Addr) (n a:Nat)=>HZ.out ss[j] (List.getElem_mem _) (F:=F) A n a);clear HY HZ HA;generalize ss[j]=E at *;have HK:=qh k1;obtain⟨x,hx⟩:=ex9 (cnSs E.body);obtain⟨y,hy⟩:=ex9 (cnSs E.els);rw[←hx,←hy]at HS1;obtain⟨z,hz⟩:=ex9 (cnSs (ss.take j));rw[←hz]at HS1 ⊢
     have HB:Hid (x≤1000000000000∧y≤1000000000000∧n≤1000000000000∧z≤1000000000000):=by
      have h1:=HS1.out;have h2:=HSL.out;have h3:=HC.out;have h4:=HN.out;exact⟨by omega,by omega,by omega,by omega⟩
     have Q1:Hid (∀W,Below wr.heap.size wr W→Calls Tryz.prog 18 #[.slice sp.y.1 E.body.length sp.y.2] W fun e w'=>e=.returned (.int .i64 (x:Int))∧Below W.heap.size W w'):=fun W hW=>by rw[hx];exact HYj.out _ _ _ rfl W (HK.out.2.1.keep (Keep.of_below hW F)) (by rw[←hx];exact HB.out.1)
     have Q2:Hid (∀W,Below wr.heap.size wr W→Calls Tryz.prog 18 #[.slice sp.z.1 E.els.length sp.z.2] W fun e w'=>e=.returned (.int .i64 (y:Int))∧Below W.heap.size W w'):=fun W hW=>by rw[hy];exact HZj.out _ _ _ rfl W (HK.out.2.2.keep (Keep.of_below hW F)) (by rw[←hy];exact HB.out.2.1)
     have HV0:Hid (IntKind.i64.wrap ((z:Int)+1)=(z:Int)+1):=by
      have h1:=HB.out;exact IntWalk.i64_in _ om
     have HV1:Hid (IntKind.i64.wrap ((z:Int)+1+(x:Int))=(z:Int)+1+(x:Int)):=by
      have h1:=HB.out;exact IntWalk.i64_in _ om
     have HV2:Hid (IntKind.i64.wrap ((z:Int)+1+(x:Int)+(y:Int))=((cnSs (ss.take (j+1)):Nat):Int)):=by
      have h1:=HB.out;have h2:=HS1.out
      show _=_
      rw[IntWalk.i64_in _ om];omega
     have HLD:Hid (∀W,Below wr.heap.size wr W→W.cell? ⟨b1,o1+j*26+24,none⟩=some (.slice sp.y.1 E.body.length sp.y.2)∧W.cell? ⟨b1,o1+j*26+25,none⟩=some (.slice sp.z.1 E.els.length sp.z.2)):=fun W hW=>⟨(World.cell?_of_block (a:=⟨b1,o1+j*26+24,none⟩) (hW.block b1 hb1)).trans (x1 24 _ rfl),(World.cell?_of_block (a:=⟨b1,o1+j*26+25,none⟩) (hW.block b1 hb1)).trans (x1 25 _ rfl)⟩
     generalize E.body.length=eb at *;generalize E.els.length=ee at *;clear hx hy hz HYj HZj HK HSL HS1 HC HB x1 k1
     go_upto_region 5 with fail
     have hT:Below wr.heap.size wr wr.drew:=Below.drew (Below.refl _ _);refine kgo kr 16 (fun W=>Below wr.heap.size wr W) hT (fun _ _ _ _ _ h=>h) ?_;refine kp 0 (.int .i64 (z:Int)) rfl kr (fun _=>kr) ?_;refine kp 1 (.int .i64 (IntKind.i64.wrap ((z:Int)+1))) rfl kr (fun _=>kr) ?_;intro q8 q9;clear q8 q9;rw[HV0.out];refine AnyK.pure 2 (v:=.slice (some ⟨b1,o1,none⟩) n a) rfl kr (fun _ _ _ h=>h) rfl (fun _=>kr) (fun _=>hT) ?_;refine AnyK.pure 3 (v:=.int .i64 j) rfl kr (fun _ _ _ h=>h) rfl (fun _=>kr) (fun _=>hT) ?_;refine AnyK.pure 4 (v:=.pointer (some ⟨b1,o1+j*26,none⟩)) rfl kr (fun _ _ _ h=>h) rfl (fun _=>zay (t:=24) (x:=.tmp 13) (y:=.tmp 14) (g:=b1) (off:=o1) (n:=n) (c:=a) (p:=j) rr kr kr hlt Tryz.underlying24 szSm) (fun _=>hT) ?_;refine AnyK.pure 5 (v:=.pointer (some ⟨b1,o1+j*26+24,none⟩)) rfl kr (fun _ _ _ h=>h) rfl (fun _=>kr) (fun _=>hT) ?_;refine AnyK.load 6 (v:=.slice sp.y.1 eb sp.y.2) rfl kr kr kr (fun _ _ _ h=>h) rfl (fun w' hw'=>za9 (t:=24) (x:=.tmp 16) rr kr (fun _=>kr) (HLD.out w' hw').1) hT ?_;refine AnyK.pure 9 (v:=.slice (some ⟨b1,o1,none⟩) n a) rfl kr (fun _ _ _ h=>h) rfl (fun _=>kr) (fun _=>hT) ?_;refine AnyK.pure 10 (v:=.int .i64 j) rfl kr (fun _ _ _ h=>h) rfl (fun _=>kr) (fun _=>hT) ?_;refine AnyK.pure 11 (v:=.pointer (some ⟨b1,o1+j*26,none⟩)) rfl kr (fun _ _ _ h=>h) rfl (fun _=>zay (t:=24) (x:=.tmp 20) (y:=.tmp 21) (g:=b1) (off:=o1) (n:=n) (c:=a) (p:=j) rr kr kr hlt Tryz.underlying24 szSm) (fun _=>hT) ?_;refine AnyK.pure 12 (v:=.pointer (some ⟨b1,o1+j*26+25,none⟩)) rfl kr (fun _ _ _ h=>h) rfl (fun _=>kr) (fun _=>hT) ?_;refine AnyK.load 13 (v:=.slice sp.z.1 ee sp.z.2) rfl kr kr kr (fun _ _ _ h=>h) rfl (fun w' hw'=>za9 (t:=24) (x:=.tmp 23) rr kr (fun _=>kr) (HLD.out w' hw').2) hT ?_;refine AnyK.enter 7 (d:=some 18) (f:=18) (args:=#[.slice sp.y.1 eb sp.y.2]) rr kr kr ?_;refine(Q1.out _ hT).mono ?_;rintro r y1 ⟨rfl,hB1⟩;have Y1:Below wr.heap.size wr y1:=hT.trans (hB1.mono hT.size);refine⟨_,rfl,fun _=>Y1,?_⟩;refine AnyK.pure 8 (v:=.int .i64 (IntKind.i64.wrap ((z:Int)+1+(x:Int)))) rfl kr (fun _ _ _ h=>h) rfl (fun _=>kr) (fun _=>Y1) ?_;rw[HV1.out];refine AnyK.enter 14 (d:=some 25) (f:=18) (args:=#[.slice sp.z.1 ee sp.z.2]) rr kr kr ?_;refine(Q2.out _ Y1).mono ?_;rintro r y2 ⟨rfl,hB2⟩;have Y2:Below wr.heap.size wr y2:=Y1.trans (hB2.mono Y1.size);refine⟨_,rfl,fun _=>Y2,?_⟩;refine AnyK.val 15 (v:=.int .i64 (IntKind.i64.wrap ((z:Int)+1+(x:Int)+(y:Int)))) rr kr rfl kr (fun _=>Y2) ?_;rw[HV2.out];refine AnyK.val 16 (v:=.int .i64 ((cnSs (ss.take (j+1)):Nat):Int)) rr kr rfl kr (fun h=>(by cases h)) ?_;have HR2:Hid (Below w.heap.size w y2):=HR.out.trans (Y2.mono HR.out.size);refine AnyK.done ?_ ?_
     · kernel_rfl
     clear HLD hT Y1 Y2 hB1 hB2 Q1 Q2 HV0 HV1 HV2;simp only[List.getElem_toArray,List.getElem_cons_zero,List.getElem_cons_succ,Act.put,List.setIfInBounds_toArray,List.set_cons_succ,List.set_cons_zero];go_wp2;go_roundg (gk-1)
     case measure=>omega
     case rel=>exact⟨j+1,by omega,by omega,by simp,HR2,rfl⟩
end
end
mutual
def mE:Ex→Nat
 | .mk op _ text _ args=>1+op.size+text.size+mL args
def mL:List Ex→Nat
 | []=>0
 | e :: es=>mE e+mL es
end
theorem zh4:∀l:List Ex,mL l=(l.map mE).sum
 | []=>by rw[mL];rfl
 | e :: l=>by rw[mL,zh4 l,List.map_cons,List.sum_cons]
theorem mE_pos(e:Ex):1≤mE e:=by obtain⟨op,num,text,a,args⟩:=e;rw[mE];omega
def mR(r:Rf):Nat:=1+r.name.size
theorem mR_pos(r:Rf):1≤mR r:=by unfold mR;omega
mutual
def mS:St→Nat
 | .mk kind _ name a b c routes block tag body els=>1+kind.size+mR name+mE a+mE b+mE c+(routes.map mR).sum+mR block+mR tag+mSs body+mSs els
def mSs:List St→Nat
 | []=>0
 | s :: l=>mS s+mSs l
end
theorem zde:∀l:List St,mSs l=(l.map mS).sum
 | []=>by rw[mSs];rfl
 | e :: l=>by rw[mSs,zde l,List.map_cons,List.sum_cons]
theorem mS_eq(s:St):mS s=1+s.kind.size+mR s.name+mE s.ea+mE s.eb+mE s.ec+(s.routes.map mR).sum+mR s.block+mR s.tag+mSs s.body+mSs s.els:=by
 obtain⟨kind,a0,name,a,b,c,routes,block,tag,body,els⟩:=s;rw[mS];rfl
theorem mS_pos(s:St):1≤mS s:=by rw[mS_eq];omega
def mP(p:Pl):Nat:=1+mR p.node+mE p.delay+mE p.flags
theorem mP_pos(p:Pl):1≤mP p:=by unfold mP;omega
def mD(d:Dc):Nat:=1+mR d.name+mE d.value+(d.places.map mP).sum
theorem mD_pos(d:Dc):1≤mD d:=by unfold mD;omega
def mT(t:Sr):Nat:=(t.decls.map mD).sum+mSs t.body
theorem zep{α:Type}(f:α→Nat){x:α}{l:List α}(h:x∈l):f x≤(l.map f).sum:=by
 induction l with
 | nil=>cases h
 | cons y l ih =>
  rw[List.map_cons,List.sum_cons]
  rcases List.mem_cons.1 h with rfl|h
  · omega
  · have:=ih h;omega
theorem zer{α:Type}(f:α→Nat)(hf:∀x,1≤f x)(l:List α):l.length≤(l.map f).sum:=by
 induction l with
 | nil=>simp
 | cons y l ih=>rw[List.map_cons,List.sum_cons,List.length_cons];have:=hf y;omega
theorem zf8{α:Type}(C:Nat){f g:α→Nat}{l:List α}(h:∀x∈l,f x≤C*g x):(l.map f).sum≤C*(l.map g).sum:=by
 induction l with
 | nil=>simp
 | cons y l ih =>
  rw[List.map_cons,List.sum_cons,List.map_cons,List.sum_cons,Nat.mul_add];have h1:=h y sy;have h2:=ih (fun x hx=>h x (by simp[hx]));omega
inductive NE:Ex→Prop
 | mk (op:ByteArray) (num:Int) (text:ByteArray) (at_:Int) (args:List Ex) (h0 : -9223372036854775808≤num) (h1:num≤9223372036854775807) (hi:∀e∈args,NE e):NE (.mk op num text at_ args)
inductive NS:List St→Prop
 | mk (ss:List St) (h:∀s∈ss,NE s.ea∧NE s.eb∧NE s.ec) (hb:∀s∈ss,NS s.body) (he:∀s∈ss,NS s.els):NS ss
def ND(d:Dc):Prop:=NE d.value∧∀p∈d.places,NE p.delay∧NE p.flags
theorem NE.an{e:Ex}(h:NE e):mE e≤2000000→ExAn e:=by
 induction h with
 | mk op num text at_ args h0 h1 hi ih =>
  intro hm;rw[mE,zh4]at hm;exact .mk op num text at_ args h0 h1 om (by have:=zer mE mE_pos args;omega) (fun e he=>ih e he (by have:=zep mE he;omega))
theorem ExAn.sq{e:Ex}(h:ExAn e):ExSq e.args:=by
 induction h with
 | mk op num text at_ args h0 h1 h2 h3 hi ih=>exact .mk args h3 ih
theorem NS.an{ss:List St}(h:NS ss):mSs ss≤2000000→SsAn ss:=by
 induction h with
 | mk ss h hb he ib ie =>
  intro hm;rw[zde]at hm;have hx:∀s∈ss,1+s.kind.size+mR s.name+mE s.ea+mE s.eb+mE s.ec+(s.routes.map mR).sum+mR s.block+mR s.tag+mSs s.body+mSs s.els≤2000000:=fun s hs=>by rw[←mS_eq];have:=zep mS hs;omega
  exact .mk ss (by have:=zer mS mS_pos ss;omega) (fun s hs=>⟨(h s hs).1.an (by have:=hx s hs;omega),(h s hs).2.1.an (by have:=hx s hs;omega),(h s hs).2.2.an (by have:=hx s hs;omega),by have:=hx s hs;have:=zer mR mR_pos s.routes;omega⟩)
    (fun s hs=>ib s hs (by have:=hx s hs;omega)) (fun s hs=>ie s hs (by have:=hx s hs;omega))
theorem SsAn.sq{ss:List St}(h:SsAn ss):StSq ss:=by
 induction h with
 | mk ss hl h hb he ib ie=>exact .mk ss hl (fun s hs=>⟨(h s hs).1.sq,(h s hs).2.1.sq,(h s hs).2.2.1.sq,(h s hs).2.2.2⟩) ib ie
theorem ND.dx{d:Dc}(h:ND d)(hm:mD d≤2000000):DX d:=by
 unfold mD at hm
 refine⟨h.1.an om,by have:=zer mP mP_pos d.places;omega,fun q hq=>?_⟩;have h1:=zep mP hq
 unfold mP at h1
 exact⟨(h.2 q hq).1.an (by unfold mP at hm;omega),(h.2 q hq).2.an (by unfold mP at hm;omega)⟩
theorem dcs_sq{l:List Dc}(h:∀d∈l,DX d)(hl:l.length≤2000000):DcSq l:=⟨hl,fun d hd=>⟨(h d hd).1.sq,(h d hd).2.1,fun p hp=>⟨((h d hd).2.2 p hp).1.sq,((h d hd).2.2 p hp).2.sq⟩⟩⟩
mutual
theorem cnS_mS:∀s:St,cnS s+1≤mS s
 | .mk _ _ _ _ _ _ _ _ _ body els=>by
  rw[cnS,mS];have:=cnSs_mS body;have:=cnSs_mS els;omega
theorem cnSs_mS:∀l:List St,cnSs l≤mSs l
 | []=>by rw[cnSs,mSs];omega
 | s :: l=>by
  rw[cnSs,mSs];have:=cnS_mS s;have:=cnSs_mS l;omega
end
theorem zd4(s:List UInt8):∀ps:List (List UInt8),(sepB s ps).length≤(ps.map fun p=>p.length+s.length).sum
 | []=>by simp[sepB]
 | [a]=>by simp[sepB]
 | a :: b :: l=>by
  have:=zd4 s (b :: l);rw[sepB,List.map_cons,List.sum_cons,la9,la9];omega
theorem zck(b:ByteArray):(tx b).length=b.size:=rfl
theorem NE.len{e:Ex}(h:NE e):(prE e).length+4≤30*mE e:=by
 induction h with
 | mk op num text at_ args h0 h1 hi ih =>
  rw[prE,mE,zh4,zcq]
  have hs:(sepB [44,32] (args.map prE)).length≤30*(args.map mE).sum:=by
   refine Nat.le_trans (zd4 _ _) ?_;rw[List.map_map];exact zf8 30 fun e he=>by have:=ih e he;show(prE e).length+2≤_;omega
  unfold prB
  split
  · have:=Lib.itoa_length_le num h0 h1;omega
  split
  · rw[zck];omega
  split
  · have:=(Lx.quote_len (tx text)).2;rw[zck]at this;omega
  split
  · simp only[List.length_append,List.length_cons,List.length_nil];omega
  split
  · split
    · next a b pa pb e1 =>
      simp only[List.map_cons,List.map_nil,List.cons.injEq,and_true]at e1;obtain⟨rfl,rfl⟩:=e1;have ha:=ih a sy;have hb:=ih b sy;have p1:=zcu (decide (op=m_star) && a.sum) (prE a);have p2:=zcu (b.sum || (decide (op=m_star) && b.prod)) (prE b);simp only[List.length_append,List.length_cons,List.length_nil,List.map_cons,List.map_nil,List.sum_cons,List.sum_nil,zck];omega
    · simp only[List.length_cons,List.length_nil];omega
  · simp only[List.length_cons,List.length_nil];omega
theorem zo6(l:List Rf):(prR l).length≤2*(l.map mR).sum:=by
 refine Nat.le_trans (zd4 _ _) ?_;rw[List.map_map];exact zf8 2 fun r _=>by show(tx r.name).length+2≤_;unfold mR;rw[zck];omega
theorem ziz(kind:ByteArray)(name:Rf){a b c:Ex}(routes:List Rf)(block tag:Rf)(ha:NE a)(hb:NE b)(hc:NE c):(prLine kind name a b c routes block tag).length≤60*(1+mR name+mE a+mE b+mE c+(routes.map mR).sum+mR block+mR tag):=by
 have h1:=ha.len;have h2:=hb.len;have h3:=hc.len;have h4:=zo6 routes;have h5:=@zkt t_with (by decide) block;have h6:=@zkt t_as (by decide) tag;rw[zck]at h5 h6
 unfold prLine
 unfold mR at *
 (repeat' split) <;> (simp only[List.length_append,List.length_cons,List.length_nil,zck];omega)
theorem NS.len(K:Nat){ss:List St}(h:NS ss):∀d,d+mSs ss≤K→(prSs ss d).length≤(100+6*K)*mSs ss:=by
 induction h with
 | mk ss h hb he ib ie =>
  intro d hd;rw[zd9,zde,List.length_flatMap];rw[zde]at hd;refine zf8 (100+6*K) fun s hs=>?_
  have hm:=zep mS hs;have e1:=ib s hs (d+1);have e2:=ie s hs (d+1);have e3:=h s hs
  have hq:∀X:Nat,1≤X→100*X+6*K≤(100+6*K)*X:=fun X hX=>by
   rw[Nat.add_mul];have:=Nat.le_mul_of_pos_right (6*K) hX;omega
  clear hs h hb he ib ie;obtain⟨kind,a0,name,a,b,c,routes,block,tag,body,els⟩:=s;have hn1:NE a:=e3.1;have hn2:NE b:=e3.2.1;have hn3:NE c:=e3.2.2;rw[mS]at hm ⊢;have e1:d+1+mSs body≤K→(prSs body (d+1)).length≤(100+6*K)*mSs body:=e1;have e2:d+1+mSs els≤K→(prSs els (d+1)).length≤(100+6*K)*mSs els:=e2;have e1:=e1 om;have e2:=e2 om;have hp:=ziz kind name routes block tag hn1 hn2 hn3;have ha:=hn1.len;have hX:=hq (1+kind.size+mR name+mE a+mE b+mE c+(routes.map mR).sum+mR block+mR tag) om;rw[Nat.mul_add,Nat.mul_add _ _ (mSs body)];generalize (100+6*K)*(1+kind.size+mR name+mE a+mE b+mE c+(routes.map mR).sum+mR block+mR tag)=CX at *;generalize (100+6*K)*mSs body=CB at *;generalize (100+6*K)*mSs els=CE at *;rw[la9,zbh,prSt];have hb1:(prBody d (prSs body (d+1))).length=(prSs body (d+1)).length+2*d+4:=by unfold prBody;simp only[List.length_append,List.length_cons,List.length_nil,zbh];omega
  have hb2:(prBody d (prSs els (d+1))).length=(prSs els (d+1)).length+2*d+4:=by unfold prBody;simp only[List.length_append,List.length_cons,List.length_nil,zbh];omega
  have hdK:d≤K:=om;clear hd hm e3
  unfold mR at *
  rw[la9]
  split
  · simp only[List.length_append,List.length_cons,List.length_nil,hb1];omega
  split
  · simp only[List.length_append,List.length_cons,List.length_nil,hb1,zck];omega
  split
  · split <;> (simp only[List.length_append,List.length_cons,List.length_nil,hb1,hb2,zck];omega)
  · simp only[List.length_append,List.length_cons,List.length_nil];omega
theorem zhy(m:UInt8){e:Ex}(h:NE e):(prAt m e).length≤30*mE e:=by
 have h1:=h.len
 unfold prAt
 split
 · simp
 · have:=zcu (!(decide (e.op=k_number)|| decide (e.op=k_name))) (prE e)
   rw[List.length_cons];omega
theorem ND.len{d:Dc}(h:ND d):(prDc d).length≤60*mD d:=by
 have h1:=h.1.len
 have hs:(sepB [32,62,32] (d.places.map prPl)).length≤40*(d.places.map mP).sum:=by
  refine Nat.le_trans (zd4 _ _) ?_;rw[List.map_map];refine zf8 40 fun p hp=>?_
  have e1:=zhy 64 (h.2 p hp).1;have e2:=zhy 33 (h.2 p hp).2
  show(prPl p).length+3≤_
  unfold prPl mP mR
  simp only[List.length_append,zck];omega
 unfold prDc mD mR
 rw[la9]
 split
 · simp only[List.length_append,List.length_cons,List.length_nil,zck];omega
 split
 · simp only[List.length_append,List.length_cons,List.length_nil,zck];omega
 · simp only[List.length_cons,List.length_nil];omega
theorem zok{t:Sr}(hd:∀d∈t.decls,ND d)(hs:NS t.body)(hm:mT t≤2000000):(prTop t).length+100≤1000000000000000:=by
 unfold mT at hm
 unfold prTop
 rw[la9,List.length_flatMap];have h1:=zf8 60 fun d hd'=>(hd d hd').len
 have h2:=hs.len 2000000 0 om;omega
end Go.Proofs.YtafjkbbiaopemaaGreatDoor.Tr
namespace Go.Proofs.YtafjkbbiaopemaaGreatDoor
open Go.RowKit
section
open Go.ChangeShapes Go.WideShapes Go.ChangeAt Go.RowKit
def Small{H:Type}(B:Option Nat)(d:DataW H):Prop:=∀b,B=some b→Rows.uptoBulk d≤b
theorem znv{H:Type}(d:DataW H):1≤Rows.uptoBulk d:=by
 cases d with
 | lit l=>cases l <;> simp[Rows.uptoBulk]
 | nil=>simp[Rows.uptoBulk]
 | ptr d=>simp[Rows.uptoBulk]
 | slice elems spare=>simp[Rows.uptoBulk]
 | agg parts=>simp[Rows.uptoBulk]
 | iface t d=>simp[Rows.uptoBulk]
 | map entries=>simp[Rows.uptoBulk]
 | held h=>simp[Rows.uptoBulk]
structure Reads(P:Program)(B:Option Nat)(N:Nat)(t:TypeId){α:Type}(cells:α→List Value)(Q:World→α→Prop):Prop where
 opens:∀ {H:Type} {enc:TypeId × Value→H} {W:World} {fuel:Nat} {cs:List Value} {x:DataW H × List MemPlace},fuel<N→DataW.trod enc P W 0 (fun _=>true) true fuel t cs=some x→(∀k∈x.1.weights P t,k≤reachBytes)→Small B x.1→∃a,cs=cells a∧Q W a
theorem Reads.imp{P:Program}{B:Option Nat}{N:Nat}{t:TypeId}{α β:Type}{c:α→List Value}{Q:World→α→Prop}{c':β→List Value}{Q':World→β→Prop}(h:Reads P B N t c Q)(f:∀W a,Q W a→∃b,c a=c' b∧Q' W b):Reads P B N t c' Q' :=
 ⟨fun hf hx hw hb=>by
  obtain⟨a,rfl,hq⟩:=h.opens hf hx hw hb;obtain⟨b,e,hq'⟩:=f _ a hq
  exact⟨b,e,hq'⟩⟩
theorem Reads.mono{P:Program}{B:Option Nat}{N M:Nat}{t:TypeId}{α:Type}{c:α→List Value}{Q:World→α→Prop}(h:Reads P B M t c Q)(hN:N≤M):Reads P B N t c Q:=⟨fun hf hx hw hb=>h.opens om hx hw hb⟩
structure Sl(α:Type) where
 A:Option Addr
 n:Nat
 c:Nat
 l:List α
def Sl.val{α:Type}(s:Sl α):Value:=.slice s.A s.n s.c
structure SlIn(B:Option Nat){α:Type}(sz by_:Nat)(cells:α→List Value)(Q:World→α→Prop)(W:World)(s:Sl α):Prop where
 rd:RdS sz W s.A s.n (s.l.flatMap cells)
 len:s.l.length=s.n
 cap:s.n≤s.c
 reach:s.c*by_≤reachBytes
 small:∀b,B=some b→s.c≤b
 each:∀a∈s.l,Q W a
 size:∀a∈s.l,(cells a).length=sz
theorem zhh{α β:Type}{f:α→List β}{sz:Nat}{l:List α}(h:∀a∈l,(f a).length=sz){j:Nat}{u:β}(hu:(l.flatMap f)[j]? = some u):∃i a,l[i]? = some a∧∃r,r<sz∧j=i*sz+r∧(f a)[r]? = some u:=by
 induction l generalizing j with
 | nil=>simp at hu
 | cons a l ih =>
  have ha:=h a sy;rw[List.flatMap_cons]at hu
  rcases Nat.lt_or_ge j sz with hj|hj
  · rw[ll9 om]at hu
    exact⟨0,a,rfl,j,hj,by omega,hu⟩
  · rw[ar9 om,ha]at hu
    obtain⟨i,b,hb,r,hr,e,hu'⟩:=ih (fun b hb=>h b (by simp[hb])) hu;exact⟨i+1,b,by simpa using hb,r,hr,by rw[Nat.add_mul];omega,hu'⟩
theorem zhg{α β:Type}{f:α→List β}{sz:Nat}{l:List α}(h:∀a∈l,(f a).length=sz):(l.flatMap f).length=l.length*sz:=by
 induction l with
 | nil=>simp
 | cons a l ih=>rw[List.flatMap_cons,la9,h a sy,ih (fun b hb=>h b (by simp[hb])),List.length_cons,Nat.add_mul];omega
theorem znm(l:List UInt8):(l.flatMap fun x=>[u8 x])=u8s l:=by
 induction l with
 | nil=>rfl
 | cons a l ih=>rw[List.flatMap_cons,ih];rfl
theorem SlIn.bytes{B:Option Nat}{W:World}{s:Sl UInt8}(h:SlIn B 1 1 (fun x:UInt8=>[u8 x]) (fun _ _=>True) W s):Rd W s.A s.n (u8s s.l)∧s.n≤s.c∧s.c≤140737488351232:=by
 have h1:=h.rd;rw[znm]at h1;have h2:=h.reach
 unfold reachBytes at h2
 exact⟨h1.to1,h.cap,by omega⟩
end
end Go.Proofs.YtafjkbbiaopemaaGreatDoor
namespace Go.Proofs.YtafjkbbiaopemaaGreatDoor.Tr
open Go.RowKit
section
open Go.ChangeShapes Go.WideShapes Go.ChangeAt Go.RowKit
structure ReadsM(P:Program)(N:Nat)(t:TypeId){α:Type}(cells:α→List Value)(Q:World→α→Prop)(m:α→Nat):Prop where
 opens:∀ {H:Type} {enc:TypeId × Value→H} {W:World} {fuel:Nat} {cs:List Value} {x:DataW H × List MemPlace},fuel<N→DataW.trod enc P W 0 (fun _=>true) true fuel t cs=some x→∃a,cs=cells a∧Q W a∧m a≤Rows.uptoBulk x.1
theorem ReadsM.imp{P:Program}{N:Nat}{t:TypeId}{α β:Type}{c:α→List Value}{Q:World→α→Prop}{m:α→Nat}{c':β→List Value}{Q':World→β→Prop}{m':β→Nat}(h:ReadsM P N t c Q m)(f:∀W a,Q W a→∃b,c a=c' b∧Q' W b∧m' b≤m a):ReadsM P N t c' Q' m' :=
 ⟨fun hf hx=>by
  obtain⟨a,rfl,hq,hm⟩:=h.opens hf hx;obtain⟨b,e,hq',hm'⟩:=f _ a hq
  exact⟨b,e,hq',Nat.le_trans hm' hm⟩⟩
theorem ReadsM.mono{P:Program}{N M:Nat}{t:TypeId}{α:Type}{c:α→List Value}{Q:World→α→Prop}{m:α→Nat}(h:ReadsM P M t c Q m)(hN:N≤M):ReadsM P N t c Q m:=⟨fun hf hx=>h.opens om hx⟩
theorem zc2{P:Program}{N:Nat}{t:TypeId}{k:IntKind}(ht:P.underlying t=some (.int k)):ReadsM P N t (fun n:Int=>[.int k n]) (fun _ n=>(Lit.int k n).wf=true) (fun _=>1) :=
 ⟨fun _ hx=>by
  obtain⟨n,rfl,e,hn⟩:=DataW.trod_int ht hx
  exact⟨n,rfl,hn,znv _⟩⟩
theorem zb8{P:Program}{N:Nat}{t:TypeId}(ht:P.underlying t=some .string):ReadsM P N t (fun s:ByteArray=>[.string s]) (fun _ _=>True) (fun s=>1+s.size) :=
 ⟨fun _ hx=>by
  obtain⟨s,rfl,rfl,hn⟩:=DataW.trod_string ht hx
  exact⟨s,rfl,trivial,by simp[Rows.uptoBulk];omega⟩⟩
structure SlM{α:Type}(sz:Nat)(cells:α→List Value)(Q:World→α→Prop)(W:World)(s:Sl α):Prop where
 rd:RdS sz W s.A s.n (s.l.flatMap cells)
 len:s.l.length=s.n
 each:∀a∈s.l,Q W a
theorem za5{P:Program}{N:Nat}{t e:TypeId}{α:Type}{cells:α→List Value}{Q:World→α→Prop}{m:α→Nat}(sz:Nat)(ht:P.underlying t=some (.slice e))(hC:P.cellsOf e=sz)(hsz:0<sz)(he:ReadsM P N e cells Q m):
 ReadsM P (N+1) t (fun s:Sl α=>[s.val]) (SlM sz cells Q) (fun s=>(s.l.map m).sum) :=
 ⟨fun {H enc W fuel cs x} hf hx=>by
  rcases DataW.trod_slice ht hx with ⟨rfl,rfl⟩|⟨a,len,cap,elems,rest,n,rfl,rfl,rfl,_,hl,hm,hlen,hel,hsp,_⟩
  · exact⟨⟨none,0,0,[]⟩,rfl,⟨⟨by simp,fun h=>absurd h (Nat.lt_irrefl 0)⟩,rfl,by simp⟩,by simp⟩
  · have hall:∀k,k≤len→∃l:List α,l.length=k∧(l.map m).sum≤Rows.uptoBulkAll ((elems.take k).map (·.1))∧∀i b,l[i]? = some b→Q W b∧(cells b).length=sz∧∀r,r<sz→W.cell? (a.add (i*sz+r))=(cells b)[r]?:=by
     intro k
     induction k with
     | zero=>exact fun _=>⟨[],rfl,by simp,fun i b h=>by simp at h⟩
     | succ k ih =>
      intro hk;obtain⟨l,hll,hmm,h⟩:=ih om;have h1:=hel k om;obtain⟨y,hy⟩:∃y,elems[k]? = some y:=⟨_,ge9 om⟩;rw[hy,Option.bind_eq_some_iff]at h1;obtain⟨cs',hc',htr⟩:=h1;obtain⟨b,rfl,hq,hmb⟩:=he.opens om htr;obtain⟨_,hcl,hat⟩:=World.cells?_some hc';rw[hC]at hcl hat;refine⟨l++[b],by simp[hll],?_,fun i b' hb'=>?_⟩
      · have happ:∀(p q:List (DataW H)),Rows.uptoBulkAll (p++q)=Rows.uptoBulkAll p+Rows.uptoBulkAll q:=fun p q=>by
         induction p with
         | nil=>simp[Rows.uptoBulkAll]
         | cons x r ih=>rw[List.cons_append,Rows.uptoBulkAll,Rows.uptoBulkAll,ih,Nat.add_assoc]
        rw[List.take_add_one,hy];simp only[List.map_append,List.sum_append,happ,Option.toList_some,List.map_cons,List.map_nil,List.sum_cons,List.sum_nil,Rows.uptoBulkAll];omega
      rcases Nat.lt_or_ge i l.length with hi|hi
      · rw[ll9 hi]at hb'
        exact h i b' hb'
      · rw[ar9 hi]at hb'
        have:i-l.length=0:=by
         rcases Nat.eq_zero_or_pos (i-l.length)with h0|h0
         · exact h0
         · rw[List.getElem?_eq_none (by simp;omega)]at hb';cases hb'
        rw[this]at hb'
        simp at hb'
        subst hb';obtain rfl:i=k:=om;refine⟨hq,hcl,fun r hr=>?_⟩;rw[←Go.Deep.add_add];exact hat r hr
    obtain⟨l,hll,hmm,h⟩:=hall len lr
    have hsize:∀b∈l,(cells b).length=sz:=fun b hb=>by
     obtain⟨i,hi,e⟩:=List.mem_iff_getElem.1 hb;exact(h i b (by rw[ge9 hi,e])).2.1
    refine⟨⟨some a,len,cap,l⟩,rfl,⟨⟨by rw[zhg hsize,hll],fun hn=>?_⟩,hll,fun b hb=>?_⟩,?_⟩
    · obtain⟨b0,hb0⟩:∃b,l[0]? = some b:=⟨_,ge9 (by rw[hll];exact hn)⟩
      have h0:=(h 0 b0 hb0).2.2 0 hsz;obtain⟨u0,hu0⟩:∃u,(cells b0)[0]? = some u:=⟨_,ge9 (by rw[(h 0 b0 hb0).2.1];exact hsz)⟩;rw[hu0]at h0;obtain⟨b,off,spot⟩:=a;have hspot:spot=none:=by simpa[Addr.add] using World.cell?_spot h0
      subst hspot;refine⟨b,off,rfl,(by have:=World.block_lt_of_cell? W _ h0;rw[Addr.add_mid]at this;exact this),fun j u hu=>?_⟩;obtain⟨i,a',ha',r,hr,rfl,hu'⟩:=zhh hsize hu;have:=(h i a' ha').2.2 r hr;rw[Addr.add_mid,hu']at this;exact this
    · obtain⟨i,hi,e⟩:=List.mem_iff_getElem.1 hb
      exact(h i b (by rw[ge9 hi,e])).1
    · rw[tk om]at hmm
      simp only[Rows.uptoBulk]
      show(l.map m).sum≤_
      omega⟩
structure ReadsFM(P:Program)(N:Nat)(fs:List Field)(off:Nat){α:Type}(cells:α→List Value)(Q:World→α→Prop)(m:α→Nat):Prop where
 opens:∀ {H:Type} {enc:TypeId × Value→H} {W:World} {fuel:Nat} {cs:List Value} {xs:List (DataW H × List MemPlace)},fuel<N→xs.length=fs.length →
   (∀(i:Nat) (f:Field),fs[i]? = some f→DataW.trod enc P W 0 (fun _=>true) true fuel f.type ((cs.drop f.offset).take (P.cellsOf f.type))=xs[i]?) →
   (∃a,cs.take off++cells a=cs.take (off+(cells a).length)∧off+(cells a).length=off+(fs.map fun f=>P.cellsOf f.type).sum∧Q W a∧m a≤Rows.uptoBulkAll (xs.map (·.1)))∨cs.length<off+(fs.map fun f=>P.cellsOf f.type).sum
theorem zbi{P:Program}{N:Nat}{off:Nat}: ReadsFM P N [] off (fun _:Unit=>[]) (fun _ _=>True) (fun _=>0):=⟨fun _ _ _=>.inl ⟨(),by simp,by simp,trivial,Nat.zero_le _⟩⟩
theorem zaf{P:Program}{N:Nat}{f:Field}{fs:List Field}{off sz:Nat}{α β:Type}{c:α→List Value}{Q:World→α→Prop}{m:α→Nat}{c':β→List Value}{Q':World→β→Prop}{m':β→Nat}(ho:f.offset=off)(hsz:P.cellsOf f.type=sz)
 (h:ReadsM P N f.type c Q m) (h':ReadsFM P N fs (off+sz) c' Q' m'):ReadsFM P N (f :: fs) off (fun x:α × β=>c x.1++c' x.2) (fun W x=>Q W x.1∧Q' W x.2) (fun x=>m x.1+m' x.2) :=
 ⟨fun {H enc W fuel cs xs} hf hl hx=>by
  cases xs with
  | nil=>simp at hl
  | cons y xs =>
   simp only[List.length_cons,Nat.add_right_cancel_iff]at hl;simp only[List.map_cons,List.sum_cons,hsz]
   rcases Nat.lt_or_ge cs.length (off+(sz+(fs.map fun f=>P.cellsOf f.type).sum))with hlt|hge
   · exact .inr hlt
   left
   have h0:=hx 0 f rfl;rw[ho,hsz]at h0;obtain⟨a,ea,hq,hm⟩:=h.opens hf h0
   rcases h'.opens (cs:=cs) hf hl (fun i g hg=>hx (i+1) g (by simpa using hg))with ⟨b,eb,el,hq',hm'⟩|hb
   · have hal:(c a).length=sz:=by rw[←ea];simp;omega
     refine⟨(a,b),?_,?_,⟨hq,hq'⟩,?_⟩
     · show cs.take off++(c a++c' b)=_
       rw[←as9];have e1:cs.take off++c a=cs.take (off+sz):=by rw[←ea,List.take_add]
       rw[e1,eb,la9,hal,Nat.add_assoc]
     · show off+(c a++c' b).length=_
       rw[la9,hal];omega
     · simp only[Rows.uptoBulkAll]
       show m a+m' b≤_
       omega
   · omega⟩
theorem za8{P:Program}{N:Nat}{t:TypeId}{fs:Array Field}{α:Type}{c:α→List Value}{Q:World→α→Prop}{m:α→Nat}(ht:P.underlying t=some (.struct fs))(hC:(fs.toList.map fun f=>P.cellsOf f.type).sum=P.cellsOf t)(h:ReadsFM P N fs.toList 0 c Q m):ReadsM P (N+1) t c Q (fun a=>1+m a) :=
 ⟨fun {H enc W fuel cs x} hf hx=>by
  obtain⟨xs,n,rfl,rfl,hcl,hxl,hfs⟩:=DataW.trod_struct ht hx
  rcases h.opens (cs:=cs) (fuel:=n) om (by simpa using hxl) (fun i f hi=>hfs i f (by simpa using hi))with ⟨a,ea,el,hq,hm⟩|hb
  · refine⟨a,?_,hq,by simp only[Rows.uptoBulk];omega⟩
    simp only[List.take_zero,List.nil_append,Nat.zero_add]at ea el;rw[ea,tk om]
  · omega⟩
theorem zdv{α β:Type}(m:α→Nat)(l:List (α × β)):(l.map fun x=>m x.1).sum=((l.map Prod.fst).map m).sum:=by rw[List.map_map];rfl
theorem zho{α β:Type}(f:α→β→List Value):∀l:List (α × β),zipC f (l.map Prod.fst) (l.map Prod.snd)=l.flatMap fun x=>f x.1 x.2
 | []=>rfl
 | x :: l=>by
  rw[List.map_cons,List.map_cons,zipC,zho f l];rfl
def An(_:Nat):Prop:=True
theorem SlM.rdf{α β:Type}{sz:Nat}{f:α→β→List Value}{Q:World→α × β→Prop}{W:World}{s:Sl (α × β)}(h:SlM sz (fun x:α × β=>f x.1 x.2) Q W s):RdF An sz W s.A (s.l.map Prod.fst).length (zipC f (s.l.map Prod.fst) (s.l.map Prod.snd)):=by
 refine⟨?_,fun _ _ _=>⟨trivial,trivial⟩⟩;rw[zho,List.length_map,h.len];exact h.rd
theorem SlM.at{α β:Type}{sz:Nat}{c:α × β→List Value}{Q:World→α × β→Prop}{W:World}{s:Sl (α × β)}(h:SlM sz c Q W s)(i:Nat)(e:α)(a:β)(h1:(s.l.map Prod.fst)[i]? = some e)(h2:(s.l.map Prod.snd)[i]? = some a):Q W (e,a):=by
 rw[List.getElem?_map]at h1 h2
 cases hx:s.l[i]? with
 | none=>rw[hx]at h1;cases h1
 | some x =>
  rw[hx]at h1 h2;simp only[Option.map_some,Option.some.injEq]at h1 h2;subst h1 h2;exact h.each x (mg9 hx)
theorem SlM.all{α β:Type}{sz:Nat}{c:α × β→List Value}{Q:World→α × β→Prop}{W:World}{s:Sl (α × β)}(h:SlM sz c Q W s){e:α}(he:e∈s.l.map Prod.fst):∃a,Q W (e,a):=by
 obtain⟨x,hx,rfl⟩:=List.mem_map.1 he;exact⟨x.2,h.each x hx⟩
theorem wf64{n:Int}(h:(Lit.int .i64 n).wf=true): -9223372036854775808≤n∧n≤9223372036854775807:=by
 simp only[Lit.wf,IntKind.min,IntKind.max,IntKind.signed,IntKind.bits,Bool.and_eq_true,decide_eq_true_eq,if_true]at h;omega
def exQ(W:World)(x:Ex × (Option Addr × Nat)):Prop:=ArgsIn An W x.2.1 x.1.args∧NE x.1
theorem zb2:∀N,ReadsM Tryz.prog N 39 (fun x:Ex × (Option Addr × Nat)=>exC x.1 x.2) exQ (fun x=>mE x.1)
 | 0=>⟨fun hf=>absurd hf (Nat.not_lt_zero _)⟩
 | N + 1=>ReadsM.mono ((za8 (N:=N+1) Tryz.underlying39 kr
     (zaf (sz:=1) rfl kr (zb8 Tryz.underlying9) (zaf (sz:=1) rfl kr (zc2 Tryz.underlying3) (zaf (sz:=1) rfl kr (zb8 Tryz.underlying9) (zaf (sz:=1) rfl kr (zc2 Tryz.underlying3)
       (zaf (sz:=1) rfl kr (za5 (N:=N) 5 Tryz.underlying37 kr om (zb2 N)) zbi)))))).imp
     fun W ⟨op,num,text,at_,s,_⟩ ⟨_,h2,_,_,h5,_⟩=>⟨(.mk op num text at_ (s.l.map Prod.fst),(s.A,s.c)),by simp[exC,Sl.val,Ex.op,Ex.num,Ex.text,Ex.at_];show s.n=(s.l.map Prod.fst).length;rw[List.length_map,h5.len],
       ⟨.mk _ _ (s.l.map Prod.snd) (by show(s.l.map Prod.snd).length=(s.l.map Prod.fst).length;simp) h5.rdf (fun i e a e1 e2=>(h5.at i e a e1 e2).1),.mk op num text at_ _ (wf64 h2).1 (wf64 h2).2 (fun e he=>(h5.all he).choose_spec.2)⟩,by
        show mE (.mk op num text at_ (s.l.map Prod.fst))≤1+(1+op.size+(1+(1+text.size+(1+((s.l.map fun x=>mE x.1).sum+0)))))
        rw[mE,zh4,zdv mE];omega⟩) om
theorem zb9(N:Nat):ReadsM Tryz.prog N 36 rfC (fun _ _=>True) mR :=
 ReadsM.mono ((za8 (N:=N) Tryz.underlying36 kr
     (zaf (sz:=1) rfl kr (zb8 Tryz.underlying9) (zaf (sz:=1) rfl kr (zc2 Tryz.underlying3) zbi))).imp
     fun W ⟨nm,at_,_⟩ _=>⟨⟨nm,at_⟩,by simp[rfC],trivial,by show 1+nm.size≤1+(1+nm.size+(1+0));omega⟩) om
def plQ(W:World)(x:Pl × ((Option Addr × Nat) × (Option Addr × Nat))):Prop:=PlIn An W x.1 x.2∧NE x.1.delay∧NE x.1.flags
theorem zkb(N:Nat):ReadsM Tryz.prog N 80 (fun x:Pl × ((Option Addr × Nat) × (Option Addr × Nat))=>plC x.1 x.2) plQ (fun x=>mP x.1) :=
 ReadsM.mono ((za8 (N:=N) Tryz.underlying80 kr
     (zaf (sz:=2) rfl kr (zb9 N) (zaf (sz:=5) rfl kr (zb2 N) (zaf (sz:=5) rfl kr (zb2 N) zbi)))).imp
     fun W ⟨r,d,f,_⟩ ⟨_,h2,h3,_⟩=>⟨(⟨r,d.1,f.1⟩,(d.2,f.2)),by simp[plC,rfC],⟨⟨h2.1,h3.1⟩,h2.2,h3.2⟩,by show 1+mR r+mE d.1+mE f.1≤1+(mR r+(mE d.1+(mE f.1+0)));omega⟩) om
def dcQ(W:World)(x:Dc × ((Option Addr × Nat) × (Option Addr × Nat))):Prop:=DcIn An W x.1 x.2∧ND x.1
theorem zkc(N:Nat):ReadsM Tryz.prog N 45 (fun x:Dc × ((Option Addr × Nat) × (Option Addr × Nat))=>dcC x.1 x.2) dcQ (fun x=>mD x.1) :=
 ReadsM.mono ((za8 (N:=N+1) Tryz.underlying45 kr
     (zaf (sz:=1) rfl kr (zb8 Tryz.underlying9) (zaf (sz:=2) rfl kr (zb9 (N+1)) (zaf (sz:=5) rfl kr (zb2 (N+1))
       (zaf (sz:=1) rfl kr (za5 (N:=N) 12 Tryz.underlying43 kr om (zkb N)) zbi))))).imp
     fun W ⟨k,r,e,s,_⟩ ⟨_,_,h3,h4,_⟩=>⟨(⟨k,r,e.1,s.l.map Prod.fst⟩,(e.2,(s.A,s.c))),by simp[dcC,rfC,Sl.val,h4.len],
       ⟨⟨h3.1,⟨s.l.map Prod.snd,by simp,h4.rdf,fun i e a e1 e2=>(h4.at i e a e1 e2).1⟩⟩,h3.2,fun p hp=>(h4.all hp).choose_spec.2⟩,by
        show 1+mR r+mE e.1+((s.l.map Prod.fst).map mP).sum≤1+(1+k.size+(mR r+(mE e.1+((s.l.map fun x=>mP x.1).sum+0))))
        rw[zdv mP];omega⟩) om
def stQ(W:World)(x:St × StA):Prop:=StIn An W x.1 x.2∧(NE x.1.ea∧NE x.1.eb∧NE x.1.ec)∧NS x.1.body∧NS x.1.els
theorem SlM.body{W:World}{s:Sl (St × StA)}(h:SlM 26 (fun x:St × StA=>stC x.1 x.2) stQ W s):BodyIn An W s.A (s.l.map Prod.fst)∧NS (s.l.map Prod.fst) :=
 ⟨.mk _ _ (s.l.map Prod.snd) sy h.rdf (fun i e a e1 e2=>(h.at i e a e1 e2).1.1) (fun i e a e1 e2=>(h.at i e a e1 e2).1.2.1) (fun i e a e1 e2=>(h.at i e a e1 e2).1.2.2),
   .mk _ (fun e he=>(h.all he).choose_spec.2.1) (fun e he=>(h.all he).choose_spec.2.2.1) (fun e he=>(h.all he).choose_spec.2.2.2)⟩
theorem zei:∀N,ReadsM Tryz.prog N 42 (fun x:St × StA=>stC x.1 x.2) stQ (fun x=>mS x.1)
 | 0=>⟨fun hf=>absurd hf (Nat.not_lt_zero _)⟩
 | N + 1=>ReadsM.mono ((za8 (N:=N+1) Tryz.underlying42 kr
     (zaf (sz:=1) rfl kr (zb8 Tryz.underlying9) (zaf (sz:=1) rfl kr (zc2 Tryz.underlying3) (zaf (sz:=2) rfl kr (zb9 (N+1))
       (zaf (sz:=5) rfl kr (zb2 (N+1)) (zaf (sz:=5) rfl kr (zb2 (N+1)) (zaf (sz:=5) rfl kr (zb2 (N+1))
       (zaf (sz:=1) rfl kr (za5 (N:=N) 2 Tryz.underlying40 kr om (zb9 N)) (zaf (sz:=2) rfl kr (zb9 (N+1)) (zaf (sz:=2) rfl kr (zb9 (N+1))
       (zaf (sz:=1) rfl kr (za5 (N:=N) 26 Tryz.underlying24 kr om (zei N)) (zaf (sz:=1) rfl kr (za5 (N:=N) 26 Tryz.underlying24 kr om (zei N)) zbi)))))))))))).imp
     fun W ⟨k,at_,nm,a,b,c,s,bl,tg,y,z,_⟩ ⟨_,_,_,ha,hb,hc,hs,_,_,hy,hz,_⟩=>⟨(.mk k at_ nm a.1 b.1 c.1 s.l bl tg (y.l.map Prod.fst) (z.l.map Prod.fst),⟨a.2,b.2,c.2,(s.A,s.c),(y.A,y.c),(z.A,z.c)⟩),by
      simp[stC,rfC,Sl.val,St.kind,St.at_,St.name,St.ea,St.eb,St.ec,St.routes,St.block,St.tag,St.body,St.els,hs.len,hy.len,hz.len],
      ⟨⟨⟨ha.1,hb.1,hc.1,⟨by have:=hs.rd;rw[←hs.len]at this;exact this,fun _ _ _=>⟨trivial,trivial⟩⟩⟩,hy.body.1,hz.body.1⟩,⟨ha.2,hb.2,hc.2⟩,hy.body.2,hz.body.2⟩,by
       show mS (.mk k at_ nm a.1 b.1 c.1 s.l bl tg (y.l.map Prod.fst) (z.l.map Prod.fst))≤1+(1+k.size+(1+(mR nm+(mE a.1+(mE b.1+(mE c.1+((s.l.map mR).sum+(mR bl+(mR tg+((y.l.map fun x=>mS x.1).sum+((z.l.map fun x=>mS x.1).sum+0)))))))))))
       rw[mS,zde,zde,zdv mS,zdv mS];omega⟩) om
def srC(x:Sr × ((Option Addr × Nat) × (Option Addr × Nat))):List Value:=[.slice x.2.1.1 x.1.decls.length x.2.1.2,.slice x.2.2.1 x.1.body.length x.2.2.2]
def srQ(W:World)(x:Sr × ((Option Addr × Nat) × (Option Addr × Nat))):Prop:=DcsIn An W x.2.1.1 x.1.decls∧BodyIn An W x.2.2.1 x.1.body∧(∀d∈x.1.decls,ND d)∧NS x.1.body
theorem readsM_sr(N:Nat):ReadsM Tryz.prog N 26 srC srQ (fun x=>mT x.1) :=
 ReadsM.mono ((za8 (N:=N+1) Tryz.underlying26 kr
     (zaf (sz:=1) rfl kr (za5 (N:=N) 9 Tryz.underlying23 kr om (zkc N)) (zaf (sz:=1) rfl kr (za5 (N:=N) 26 Tryz.underlying24 kr om (zei N)) zbi))).imp
     fun W ⟨d,y,_⟩ ⟨hd,hy,_⟩=>⟨(⟨d.l.map Prod.fst,y.l.map Prod.fst⟩,((d.A,d.c),(y.A,y.c))),by simp[srC,Sl.val,hd.len,hy.len],
       ⟨⟨d.l.map Prod.snd,by simp,hd.rdf,fun i e a e1 e2=>(hd.at i e a e1 e2).1⟩,hy.body.1,fun p hp=>(hd.all hp).choose_spec.2,hy.body.2⟩,by
        show((d.l.map Prod.fst).map mD).sum+mSs (y.l.map Prod.fst)≤1+((d.l.map fun x=>mD x.1).sum+((y.l.map fun x=>mS x.1).sum+0))
        rw[zde,zdv mD,zdv mS];omega⟩) om
end
end Go.Proofs.YtafjkbbiaopemaaGreatDoor.Tr
