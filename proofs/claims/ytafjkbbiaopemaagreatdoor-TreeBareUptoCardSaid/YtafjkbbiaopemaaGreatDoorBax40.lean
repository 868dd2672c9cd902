/- Part of the proof. -/
import Derived.Test.YtafjkbbiaopemaaGreatDoorBax37
set_option linter.all false
set_option maxRecDepth 100000
set_option maxHeartbeats 0
namespace Go.Proofs.YtafjkbbiaopemaaGreatDoor.Tr
open Go.RowKit
section
open Lx (Sep NameOk TkP)
def bareR(r:Rf):Rf:=⟨r.name,0⟩
mutual
def bareS:St→St
 | .mk kind _ name a b c routes block tag body els=>.mk kind 0 (bareR name) (bare a) (bare b) (bare c) (routes.map bareR) (bareR block) (bareR tag) (bareSs body) (bareSs els)
def bareSs:List St→List St
 | []=>[]
 | s :: l=>bareS s :: bareSs l
end
theorem zal:∀l:List St,bareSs l=l.map bareS
 | []=>by rw[bareSs];rfl
 | e :: es=>by rw[bareSs,zal es];rfl
def bareP(p:Pl):Pl:=⟨bareR p.node,bare p.delay,bare p.flags⟩
def bareD(d:Dc):Dc:=⟨d.kind,bareR d.name,bare d.value,d.places.map bareP⟩
def bareT(t:Sr):Sr:=⟨t.decls.map bareD,t.body.map bareS⟩
def Hd(L:List ByteArray)(r:List Ky):Prop:=∃k l,r=k :: l∧isK k L=false
theorem Hd.mk{L:List ByteArray}{k:Ky}{l:List Ky}(h:isK k L=false):Hd L (k :: l):=⟨k,l,rfl,h⟩
section
variable{ts us:List Lx.Tok}
variable{st:PS→St × PS}{m:Nat}
end
end
section
theorem zcd{α β:Type}{f:α→β}{l l':List α}(h:l'.map f=l.map f):l'.length=l.length∧∀(j:Nat) (h1:j<l.length) (h2:j<l'.length),f l'[j]=f l[j]:=by
 have hl:l'.length=l.length:=by simpa using congrArg List.length h
 refine⟨hl,fun j h1 h2=>?_⟩;have h3:=congrArg (fun x=>x[j]?) h
 simpa[List.getElem?_map,ge9 h1,ge9 h2] using h3
section
variable{w w':World}
theorem zeh(nm:ByteArray)(a b:Int)(w:World):Calls Tryz.prog 31 #[.agg #[.string nm,.int .i64 a],.agg #[.string nm,.int .i64 b],.bool false] w fun e w'=>e=.returned (.bool true)∧Below w.heap.size w w':=by
 go_enter Tryz.func31, Tryz.ntmps31
 go_wp2;go_ret;exact⟨rfl,((Below.refl _ _).alloc lr _).alloc sy _⟩
theorem zir{F G:Nat→Prop}(l l':List Rf)(hq:l'.map bareR=l.map bareR)(A B:Option Addr)(n a b:Nat)(hn:l.length=n)(hn8:n≤140737488355328)(w:World)(hA:RfsIn F w A l)(hB:RfsIn G w B l'):Calls Tryz.prog 69 #[.slice A n a,.slice B n b,.bool false] w fun e w'=>e=.returned (.bool true)∧Below w.heap.size w w':=by
 have HA:=qh hA;have HB:=qh hB;have HN:=qh hn;have HQ:=qh (zcd hq);have HS:=qh zeh;clear hA hB hn hq
 go_enter Tryz.func69, Tryz.ntmps69
 go_wp2
 go_loopg [7] n (fun kk q wr=>∃j:Nat,j≤n∧kk=n-j∧q=.int .i64 (j:Int)∧Hid (Below w.heap.size w wr))
 case atStart=>exact⟨0,by omega,by omega,rfl,qh (Below.refl _ _)⟩
 case round =>
  obtain⟨j,hj,hk,rfl,HR⟩:=hrel
  rcases Nat.eq_or_lt_of_le hj with rfl|hlt
  · have hnl:¬(j:Int)<(j:Int):=om
    clear hk hj;go_wp2;go_ret;exact⟨rfl,HR.out⟩
  · have hlt2:(j:Int)<(n:Int):=om
    have hjl:j<l.length:=by have:=HN.out;omega
    obtain⟨b1,o1,rfl,hb1,x1,y1⟩:=zc1 (HA.out.keep (Keep.of_below HR.out F)) j hjl;have hjl':j<l'.length:=by have:=HQ.out.1;omega
    obtain⟨b2,o2,rfl,hb2,x2,y2⟩:=zc1 (HB.out.keep (Keep.of_below HR.out G)) j hjl';have hqj:=HQ.out.2 j hjl hjl';generalize l[j]=R at *;generalize l'[j]=R' at *;obtain⟨nm,at_⟩:=R;obtain⟨nm',at'⟩:=R';simp only[bareR,Rf.mk.injEq,and_true]at hqj;subst hqj;have hSC:=qh (fun W=>HS.out nm' at_ at' W);dsimp only at x1 y1 x2 y2;have y1':wr.cell? ⟨b1,o1+j*2+1,none⟩=some (.int .i64 at_):=y1;have y2':wr.cell? ⟨b2,o2+j*2+1,none⟩=some (.int .i64 at'):=y2;clear y1 y2
    go_upto_region 6 with fail
    go_region_with (go_at_call 31;(refine(hSC.out _).mono ?_);rintro e w2 ⟨rfl,hB2⟩;have H2:Hid (Below w.heap.size w w2):=(Below.drew HR.out).trans (hB2.mono (by exact HR.out.size));clear hB2)
    all_goals
      go_wp2;go_roundg (gk-1)
      case measure=>omega
      case rel=>exact⟨j+1,by omega,by omega,by simp,H2⟩
theorem zlh{e e':Ex}(h:bare e'=bare e):bareL e'.args=bareL e.args:=by
 obtain⟨o,n,t,a,l⟩:=e;obtain⟨o',n',t',a',l'⟩:=e';simp only[bare,Ex.mk.injEq,true_and]at h;exact h.2.2.2
theorem zbt{es:List Ex}(h:ExSm es):∀ {F G:Nat→Prop} (es':List Ex) (_:bareL es'=bareL es) (A B:Option Addr) (op text:ByteArray) (num at_ at2:Int) (n a b:Nat) (_:es.length=n) (w:World) (_:ArgsIn F w A es) (_:ArgsIn G w B es'),
 Calls Tryz.prog 32 #[.agg #[.string op,.int .i64 num,.string text,.int .i64 at_,.slice A n a],.agg #[.string op,.int .i64 num,.string text,.int .i64 at2,.slice B n b],.bool false] w fun e w'=>e=.returned (.bool true)∧Below w.heap.size w w':=by
 induction h with
 | mk es hl hi ih =>
  intro F G es' hq A B op text num at_ at2 n a b hn w hA hB;rw[zaj,zaj]at hq;have HQ:=qh (zcd hq);have HI:=qh ih;have HN:=qh hn;have hn8:n≤140737488355328:=om
  have HW:Hid (∀W,W=(w.alloc (.cells #[.string op,.int .i64 num,.string text,.int .i64 at_,.slice A n a] 39)).alloc (.cells #[.string op,.int .i64 num,.string text,.int .i64 at2,.slice B n b] 39)→Below w.heap.size w W∧Blk W w.heap.size 39 [.string op,.int .i64 num,.string text,.int .i64 at_,.slice A n a]∧Blk W (w.heap.size+1) 39 [.string op,.int .i64 num,.string text,.int .i64 at2,.slice B n b]∧ArgsIn F W A es∧ArgsIn G W B es'):=by
   rintro W rfl;have hb2:Below w.heap.size w ((w.alloc (.cells #[.string op,.int .i64 num,.string text,.int .i64 at_,.slice A n a] 39)).alloc (.cells #[.string op,.int .i64 num,.string text,.int .i64 at2,.slice B n b] 39)):=((Below.refl _ _).alloc lr _).alloc sy _;exact⟨hb2,(Blk.new _ _ _).alloc _,Blk.new' sy rfl,hA.keep (Keep.of_below hb2 F),hB.keep (Keep.of_below hb2 G)⟩
  clear ih hl hi hn hA hB hq
  go_enter Tryz.func32, Tryz.ntmps32
  go_wp2;obtain⟨g1,hg1⟩:=ex9 (w.heap.size);obtain⟨g2,hg2⟩:=ex9 (w.heap.size+1);obtain⟨W1,hW1⟩:=ex9 (((w.alloc (.cells #[.string op,.int .i64 num,.string text,.int .i64 at_,.slice A n a] 39)).alloc (.cells #[.string op,.int .i64 num,.string text,.int .i64 at2,.slice B n b] 39)));have HX:=qh (HW.out W1 hW1);rw[←hW1];have HX2:Hid (Blk W1 g1 39 [.string op,.int .i64 num,.string text,.int .i64 at_,.slice A n a]∧Blk W1 g2 39 [.string op,.int .i64 num,.string text,.int .i64 at2,.slice B n b]):=by subst hg1 hg2;exact⟨HX.out.2.1,HX.out.2.2.1⟩
  rw[←hg2,←hg1];have HBW:Hid (∀W,Below W1.heap.size W1 W→Below w.heap.size w W):=fun W hW=>HX.out.1.trans (hW.mono HX.out.1.size)
  clear HW hW1 hg2 hg1
  go_loopg [7] n (fun kk q wr=>∃j:Nat,j≤n∧kk=n-j∧q=.int .i64 (j:Int)∧Hid (Below W1.heap.size W1 wr))
  case atStart=>exact⟨0,by omega,by omega,rfl,qh (Below.refl _ _)⟩
  case round =>
   obtain⟨j,hj,hk,rfl,HR⟩:=hrel;have f1:wr.cell? ⟨g1,4,none⟩=some (.slice A n a):=(HX2.out.1.below HR.out HX2.out.1.lt).cell 4;have f2:wr.cell? ⟨g2,4,none⟩=some (.slice B n b):=(HX2.out.2.below HR.out HX2.out.2.lt).cell 4
   rcases Nat.eq_or_lt_of_le hj with rfl|hlt
   · have hnl:¬(j:Int)<(j:Int):=om
     clear hk hj;go_wp2;go_ret;exact⟨rfl,HBW.out _ HR.out⟩
   · have hlt2:(j:Int)<(n:Int):=om
     have hjl:j<es.length:=by have:=HN.out;omega
     obtain⟨b1,o1,p1,rfl,hb1,x1,k1⟩:=za4 (HX.out.2.2.2.1.keep (Keep.of_below HR.out F)) j hjl;have hjl':j<es'.length:=by have:=HQ.out.1;omega
     obtain⟨b2,o2,p2,rfl,hb2,x2,k2⟩:=za4 (HX.out.2.2.2.2.keep (Keep.of_below HR.out G)) j hjl';have hqj:=HQ.out.2 j hjl hjl';have hSC:=qh (fun W (hW:Below wr.heap.size wr W)=>HI.out es[j] (List.getElem_mem _) es'[j].args (zlh hqj) p1.1 p2.1 es[j].op es[j].text es[j].num es[j].at_ es'[j].at_ es[j].args.length p1.2 p2.2 rfl W (k1.keep (Keep.of_below hW F)) (k2.keep (Keep.of_below hW G)));clear k1 k2 HI;generalize es[j]=E at *;generalize es'[j]=E2 at *;obtain⟨op',num',text',at',args'⟩:=E;obtain⟨op2,num2,text2,at2',args2⟩:=E2;simp only[bare,Ex.mk.injEq,true_and]at hqj;obtain⟨rfl,rfl,rfl,hq2⟩:=hqj;rw[zaj,zaj]at hq2;have hql:args2.length=args'.length:=(zcd hq2).1;clear hq2;obtain⟨q1,c1⟩:=p1;obtain⟨q2,c2⟩:=p2;have u0:wr.cell? ⟨b1,o1+j*5,none⟩=some (.string op2):=x1 0 _ rfl;have u1:wr.cell? ⟨b1,o1+j*5+1,none⟩=some (.int .i64 num2):=x1 1 _ rfl;have u2:wr.cell? ⟨b1,o1+j*5+2,none⟩=some (.string text2):=x1 2 _ rfl;have u3:wr.cell? ⟨b1,o1+j*5+3,none⟩=some (.int .i64 at'):=x1 3 _ rfl;have u4:wr.cell? ⟨b1,o1+j*5+4,none⟩=some (.slice q1 args'.length c1):=x1 4 _ rfl;have v0:wr.cell? ⟨b2,o2+j*5,none⟩=some (.string op2):=x2 0 _ rfl;have v1:wr.cell? ⟨b2,o2+j*5+1,none⟩=some (.int .i64 num2):=x2 1 _ rfl;have v2:wr.cell? ⟨b2,o2+j*5+2,none⟩=some (.string text2):=x2 2 _ rfl;have v3:wr.cell? ⟨b2,o2+j*5+3,none⟩=some (.int .i64 at2'):=x2 3 _ rfl;have v4:wr.cell? ⟨b2,o2+j*5+4,none⟩=some (.slice q2 args'.length c2):=by rw[←hql];exact x2 4 _ rfl
     clear hql;clear x1 x2;dsimp only [Ex.op,Ex.num,Ex.text,Ex.at_,Ex.args]at hSC;generalize args'.length=m at *
     go_upto_region 6 with fail
     go_region_with (go_at_call 32;(refine(hSC.out _ (by exact Below.drew (Below.refl _ _))).mono ?_);rintro e w2 ⟨rfl,hB2⟩;have H2:Hid (Below W1.heap.size W1 w2):=(Below.drew HR.out).trans (hB2.mono (by exact HR.out.size));clear hB2)
     all_goals
       go_wp2;go_roundg (gk-1)
       case measure=>omega
       case rel=>exact⟨j+1,by omega,by omega,by simp,H2⟩
end
end
end Go.Proofs.YtafjkbbiaopemaaGreatDoor.Tr
