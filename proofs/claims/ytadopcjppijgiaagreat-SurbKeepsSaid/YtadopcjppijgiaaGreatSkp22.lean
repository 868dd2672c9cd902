/- Part of the proof. -/
import Derived.Test.YtadopcjppijgiaaGreatSkp20
set_option linter.all false
set_option maxRecDepth 100000
set_option maxHeartbeats 0
namespace Go.Proofs.YtadopcjppijgiaaGreat
open Go.RowKit
section
section
variable{P:Program}{ops:Array Oper}{Q:Exit→Act→World→Prop}{md:Region.Mode}{T:World→Prop}{k:Nat}{B:Nat}{fs:List Flt}
def okPure(md:Region.Mode)(ops:Array Oper)(listed:Array Bool)(js must:List Nat)(k i:Nat):Bool :=
 (subs js).all fun S=>(!(must.all S.contains))|| takeB md ops (setJ listed S) k i
theorem AnyG.pure{fuel:Nat}{r:Array Bool}{a:Act}{R:World→Prop}(i:Nat){oi:Oper}{di:Tmp}{A:List Nat}{v:Value}(hi:ops[i]? = some oi)(G:oi.dst=some di)(I:oi.guard=none)(E:∀f∈fs,f.d≠di)
 (chk:okPure md ops r (fs.map (·.j)) A k i=true) (hQ:∀c a w,Q (.panic c) (a.put oi.dst v) w→Q (.panic c) a w)
 (hy:∀F W,F.map (·.1)=fs→(execOp (putF a F).eval oi).run P W=.ok (.value v) W) (hT:∀W,R W→T W)
 (h:AnyG P md ops Q k T B fs A fuel (r.setIfInBounds i true) (a.put (some di) v) R):AnyG P md ops Q k T B fs A (fuel+1) r a R:=by
 intro F W hF hR D hm;have e:F.map (·.1.j)=fs.map (·.j):=by rw[←hF,List.map_map];rfl
 have h1:=List.all_eq_true.1 chk (doneJ F) (e ▸ zd2 F);rw[hm,Bool.not_true,Bool.false_or]at h1;rw[show fuel+1+leftN F=(fuel+leftN F)+1 by omega];refine AnyK.pure i hi h1 hQ I (fun w=>hy F w hF) (fun _=>hT W hR) ?_;have h2:=h F W hF hR D hm;rw[←zgk,←zfe F a di v (fun z hz=>E z.1 (by rw[←hF];exact List.mem_map.2 ⟨z,hz,rfl⟩))]at h2;rw[G];exact h2
end
theorem zcl{f:Flt}{F:List (Flt × Option Nat)}(h:F.map (·.1)=[f]):∃s,F=[(f,s)]:=by
 rcases F with _|⟨⟨a,s1⟩,_|⟨b,r⟩⟩
 · cases h
 · simp only[List.map_cons,List.map_nil,List.cons.injEq]at h
   obtain⟨rfl,_⟩:=h;exact⟨s1,rfl⟩
 · simp at h
theorem zhz{f:Flt}{F:List (Flt × Option Nat)}(h:F.map (·.1)=[f])(h0:leftN F=0):∃g,F=[(f,some g)]:=by
 obtain⟨s1,rfl⟩:=zcl h
 rcases s1 with _|g
 · simp[leftN]at h0
 exact⟨g,rfl⟩
end
section
theorem zva(t o o' ds xa xb P x y v:Nat)(h:ds+xb=xa+o*P)(hx:t=y+o)(hv:v+t=x+o'*4294967296):ds+v*P+(xb+y*P)=xa+x*P+o'*(P*4294967296):=by
 subst hx;have h1:v*P+(y+o)*P=x*P+o'*4294967296*P:=by rw[←Nat.add_mul,hv,Nat.add_mul]
 grind
attribute [local go_sem ↓] zeh
theorem zsl(xa xb:List Nat)(w:World)(hA:xa.length=8)(hB:xb.length=8)(lA:∀x∈xa,x<4294967296)(lB:∀x∈xb,x<4294967296):
 Calls Tryz.prog 130 #[.agg (u32d xa).toArray,.agg (u32d xb).toArray] w fun e w'=>∃(os:List Nat) (o:Nat),e=.returned (.tuple #[.agg (u32d os).toArray,.bool ((o:Int) == 1)])∧os.length=8∧(∀x∈os,x<4294967296)∧o≤1∧numL 4294967296 os+numL 4294967296 xb=numL 4294967296 xa+o*4294967296^8∧Below w.heap.size w w':=by
 obtain⟨W1,V⟩:=ex9 ((((w.alloc (.cells (u32d xa).toArray 166)).alloc (.cells (u32d xb).toArray 166)).alloc (.cells o8.toArray 166)).alloc (.cells o8.toArray 166))
 have a4:Hid (Blk W1 w.heap.size 166 (u32d xa)∧Blk W1 (w.heap.size+1) 166 (u32d xb)∧Blk W1 (w.heap.size+2) 166 o8∧Blk W1 (w.heap.size+3) 166 o8∧Below w.heap.size w W1) :=
  V ▸ ⟨(((Blk.new w _ _).alloc _).alloc _).alloc _,((Blk.new' sy rfl).alloc _).alloc _,(Blk.new' sy rfl).alloc _,Blk.new' sy rfl,((((Below.refl _ w).alloc lr _).alloc sy _).alloc (by simp <;> omega) _).alloc (by simp <;> omega) _⟩
 go_enter Tryz.func130, Tryz.ntmps130
 go_wp2
 go_loopg [7,8] 8 (fun kk oq q wr=>∃(i o:Nat) (ds:List Nat),kk=8-i∧oq=.int .u64 (o:Int)∧q=.int .i64 (i:Int)∧i≤8∧o≤1∧ds.length=i∧(∀x∈ds,x<4294967296)∧numL 4294967296 ds+numL 4294967296 (xb.take i)=numL 4294967296 (xa.take i)+o*4294967296^i∧Blk wr w.heap.size 166 (u32d xa)∧Blk wr (w.heap.size+1) 166 (u32d xb)∧Blk wr (w.heap.size+2) 166 o8∧Blk wr (w.heap.size+3) 166 (u32d (ds++List.replicate (8-i) 0))∧Below w.heap.size w wr)
 case atStart=>exact⟨0,0,[],rfl,rfl,rfl,by omega,by omega,rfl,by simp,by simp[numL],V ▸ a4.o⟩
 case round =>
  clear a4 V;obtain⟨i,o,ds,X,rfl,rfl,hi,ho,A,J,r,G,M,I,D,hE⟩:=hrel
  rcases Nat.lt_or_ge i 8 with a7|b6
  · have a5:(i:Int)<8:=om
    obtain⟨x,hx⟩:=ex9 (xa.getD i 0);obtain⟨y,hy⟩:=ex9 (xb.getD i 0);have b4:x<4294967296:=by rw[hx];exact zba om lA i
    have b3:y<4294967296:=by rw[hy];exact zba om lB i
    have cx:wr.cell? ⟨w.heap.size,i,none⟩=some (.int .u32 (x:Int)):=(G.cell i).trans (hx ▸ zb7 om);have cy:wr.cell? ⟨w.heap.size+1,i,none⟩=some (.int .u32 (y:Int)):=(M.cell i).trans (hy ▸ zb7 om);have cz:wr.cell? ⟨w.heap.size+3,i,none⟩=some (.int .u32 (((ds++List.replicate (8-i) 0).getD i 0:Nat):Int)):=(D.cell i).trans (zb7 (by simp;omega));have fz:wr.frozen? ⟨w.heap.size+3,i,none⟩=false:=D.frozen i;obtain⟨t,ht⟩:=ex9 (y+o);have b7:(y:Int)+(o:Int)=(t:Int):=om;have b5:(t:Int)<4294967297:=om
    obtain⟨o',v,Y,a1,hv⟩:∃o' v:Nat,o'≤1∧v<4294967296∧v+t=x+o'*4294967296∧(o'=1 ↔ x<t):=by
     rcases Nat.lt_or_ge x t with h1|h1
     · exact⟨1,x+4294967296-t,by omega,by omega,by omega,by omega⟩
     · exact⟨0,x-t,by omega,by omega,by omega,by omega⟩
    have a6:Hid (numL 4294967296 (ds++[v])+numL 4294967296 (xb.take (i+1))=numL 4294967296 (xa.take (i+1))+o'*4294967296^(i+1)):=by
     show _=_
     rw[zdg,zbp _ xb i om,zbp _ xa i om,A,←hx,←hy,Nat.pow_succ];exact zva t o o' _ _ _ _ x y v r ht hv.1
    have U:=qh (zft J a1);have E:Hid ((ds++[v]).length=i+1):=by show _=_;simp[A]
    have b9:=qh Y;have a0:=qh X;have HA:=qh (G.far (p:=⟨w.heap.size+3,i,none⟩) (by show w.heap.size≠w.heap.size+3;omega) (.int .u32 (v:Int)));have HB:=qh (M.far (p:=⟨w.heap.size+3,i,none⟩) (by show w.heap.size+1≠w.heap.size+3;omega) (.int .u32 (v:Int)));have HZ:=qh (I.far (p:=⟨w.heap.size+3,i,none⟩) (by show w.heap.size+2≠w.heap.size+3;omega) (.int .u32 (v:Int)))
    have HO:Hid (Blk (wr.setCell ⟨w.heap.size+3,i,none⟩ (.int .u32 (v:Int))) (w.heap.size+3) 166 (u32d ((ds++[v])++List.replicate (8-(i+1)) 0))):=by
     have h1:=D.set_ i (.int .u32 (v:Int));rw[zgh,ze0 ds i 8 v A a7]at h1;exact h1
    have HE:=qh (hE.setCell (p:=⟨w.heap.size+3,i,none⟩) (by show w.heap.size≤w.heap.size+3;omega) (.int .u32 (v:Int)));clear G M I D hE X r hx hy ht A J
    rcases Nat.lt_or_ge x t with hc|hc
    · obtain rfl:o'=1:=hv.2.2 hc
      have b2:(x:Int)<(t:Int):=om;have a8:(x:Int)+4294967296-(t:Int)=(v:Int):=om;clear hc hv Y;go_wp2;go_roundg (8-(i+1))
      case measure=>have:=a0.o;omega
      case rel=>exact⟨i+1,1,ds++[v],rfl,rfl,by go_num,by omega,by omega,E.o,U.o,a6.o,HA.o,HB.o,HZ.o,HO.o,HE.o⟩
    · obtain rfl:o'=0:=by have:=hv.2;omega
      have b2:¬(x:Int)<(t:Int):=om;have a8:(x:Int)-(t:Int)=(v:Int):=om;clear hc hv Y;go_wp2;go_roundg (8-(i+1))
      case measure=>have:=a0.o;omega
      case rel=>exact⟨i+1,0,ds++[v],rfl,rfl,by go_num,by omega,by omega,E.o,U.o,a6.o,HA.o,HB.o,HZ.o,HO.o,HE.o⟩
  · obtain rfl:i=8:=om
    have a5:¬((8:Nat):Int)<8:=om;rw[tk om,tk om]at r;rw[show 8-8=0 by omega,List.replicate_zero,List.append_nil]at D;have c0:=n8_ld D A;have HZ:=qh I;have HE:=qh hE;have HN:=qh r;have U:=qh J;have E:=qh A;have HO:=qh ho;clear G M I D hE X r J A ho
    go_wp2_with (refine zab rfl 166 (.tmp 4) (.tmp 36) rfl (w.heap.size+2) (u32d ds) rr rr 166 _ HZ.o (hdN8 _ (by rw[ze6,E.o])) (znk _) (by rw[ze6,E.o];rfl) ?_;intro w5 a3 a2;have a9:=qh a3;have b1:=qh (a2.below HE.o om HE.o.size);clear a3 a2)
    exact bodyPost_ret (zak rfl _ _ _ _ rfl a9.o _ Tryz.underlying166 rfl (hdN8 _ (by rw[ze6,E.o]))) rfl ⟨ds,o,rfl,E.o,U.o,HO.o,HN.o,b1.o⟩
def n8(n:Nat):List Value:=u32d (dig 8 n)
theorem n8_of{l:List Nat}(hl:l.length=8)(h:∀x∈l,x<4294967296):u32d l=n8 (numL 4294967296 l):=by
 rw[n8,←hl,zor l h]
theorem zar(n:Nat):(n8 n).length=8:=by rw[n8,ze6,zcj]
theorem zf5(n:Nat)(h:n<115792089237316195423570985008687907853269984665640564039457584007913129639936):numL 4294967296 (dig 8 n)=n:=by
 rw[zn5];exact Nat.mod_eq_of_lt h
theorem zmw(a b:Nat)(w:World)(ha:a<115792089237316195423570985008687907853269984665640564039457584007913129639936)(hb:b<115792089237316195423570985008687907853269984665640564039457584007913129639936):
 Calls Tryz.prog 130 #[.agg (n8 a).toArray,.agg (n8 b).toArray] w fun e w'=>e=.returned (.tuple #[.agg (n8 (if a<b then a+115792089237316195423570985008687907853269984665640564039457584007913129639936-b else a-b)).toArray,.bool (decide (a<b))])∧Below w.heap.size w w':=by
 refine(zsl (dig 8 a) (dig 8 b) w (zcj _ _) (zcj _ _) (zh3 _ _) (zh3 _ _)).mono ?_;rintro e w' ⟨os,o,rfl,hl,r,ho,hn,hB⟩;refine⟨?_,hB⟩;have h1:=zfv 4294967296 os r;rw[hl]at h1;rw[zf5 a ha,zf5 b hb]at hn;simp only[Nat.reducePow]at hn h1;rw[n8_of hl r];obtain⟨N,hN⟩:=ex9 (numL 4294967296 os);rw[←hN]at hn h1 ⊢
 rcases Nat.lt_or_ge a b with h|h
 · obtain rfl:o=1:=om
   rw[if_pos h,decide_eq_true h,show N=a+115792089237316195423570985008687907853269984665640564039457584007913129639936-b by omega];rfl
 · obtain rfl:o=0:=om
   rw[if_neg om,decide_eq_false om,show N=a-b by omega];rfl
theorem zx8(w:World):Calls Tryz.prog 131 #[] w fun e w'=>e=.returned (.agg (n8 pr).toArray)∧Below w.heap.size w w':=by
 go_enter Tryz.func131, Tryz.ntmps131
 go_wp2;refine bodyPost_ret (zan rfl _ w.heap.size 166 (n8 pr) rfl ?_ _ Tryz.underlying166 rfl (hdN8 _ (zar _))) rfl ⟨rfl,?_⟩
 · exact Blk.new' rfl kr
 · exact(Below.refl _ w).alloc lr _
end
section
theorem za7(n:Nat):∀v∈n8 n,v.oneCell'=true:=znk _
theorem zaw{w:World}{g:Nat}{t:TypeId}{n:Nat}(h:Blk w g t (n8 n)):(ldAt 166 (.pointer (some ⟨g,0,none⟩))).run Tryz.prog w=.ok (.agg (n8 n).toArray) w:=n8_ld h (zcj _ _)
theorem hdN8'(n:Nat):(Tryz.prog.info? 166).map (·.size)=some (n8 n).length:=hdN8 _ (zar n)
attribute [local go_sem ↓] zeh
theorem zek(n:Nat)(hn:n<115792089237316195423570985008687907853269984665640564039457584007913129639936)(w:World):
 Calls Tryz.prog 107 #[.agg (n8 n).toArray] w fun e w'=>e=.returned (.agg (n8 (n%pr)).toArray)∧Below w.heap.size w w':=by
 have E:Hid (Blk ((w.alloc (.cells (n8 n).toArray 166)).alloc (.cells o8.toArray 166)) w.heap.size 166 (n8 n)∧Blk ((w.alloc (.cells (n8 n).toArray 166)).alloc (.cells o8.toArray 166)) (w.heap.size+1) 166 o8∧Below w.heap.size w ((w.alloc (.cells (n8 n).toArray 166)).alloc (.cells o8.toArray 166))) :=
  ⟨(Blk.new w _ _).alloc _,Blk.new' sy rfl,((Below.refl _ w).alloc lr _).alloc sy _⟩
 go_enter Tryz.func107, Tryz.ntmps107
 go_wp2
 go_loopg [] n (fun kk wr=>∃x:Nat,kk=x∧x%pr=n%pr∧x<115792089237316195423570985008687907853269984665640564039457584007913129639936∧Blk wr w.heap.size 166 (n8 x)∧Blk wr (w.heap.size+1) 166 o8∧Below w.heap.size w wr)
 case atStart=>exact⟨n,rfl,rfl,hn,E.o.1,E.o.2.1,E.o.2.2⟩
 case round =>
  clear E;obtain⟨x,a2,a6,hx,hA,hZ,hE⟩:=hrel;have b2:=qh a2;have a5:=qh a6;have HA:=qh hA;have HZ:=qh hZ;have HE:=qh hE;have a8:pr<115792089237316195423570985008687907853269984665640564039457584007913129639936:=by simp[pr]
  obtain⟨D,hD⟩:=ex9 ((if x<pr then x+115792089237316195423570985008687907853269984665640564039457584007913129639936-pr else x-pr));have HM:Hid (∀W,Calls Tryz.prog 130 #[.agg (n8 x).toArray,.agg (n8 pr).toArray] W fun e w'=>e=.returned (.tuple #[.agg (n8 D).toArray,.bool (decide (x<pr))])∧Below W.heap.size W w'):=fun W=>hD ▸ zmw x pr W hx a8
  have b1:=qh hD;have b3:=qh hx;clear hA hZ hE a2 a6 hD hx a8;go_wp2;refine zcf kr 7 (fun w'=>Below wr.heap.size wr w') ?_;have U:Hid (Below wr.heap.size wr { wr with drawn:=wr.drawn+1 }):=(Below.refl _ wr).drew;refine AnyK.load 0 (v:=.agg (n8 x).toArray) rfl kr kr kr (fun _ _ _ h=>h) rfl (fun w' hw'=>zaf (x:=.tmp 1) rr kr (zaw (HA.o.below hw' HA.o.lt))) U.o ?_;refine AnyG.start wr.heap.size [⟨6,3,166,o8,fun g=>.pointer (some ⟨g,0,none⟩)⟩] (fun W=>Below wr.heap.size wr W) 7 rfl U.o ?_
  have I:Hid (∀(W:World) (b:Act) (o:Oper),o.op=.alloc 166→(execOp b.eval o).run Tryz.prog W=.ok (.value (.pointer (some ⟨W.heap.size,0,none⟩))) (W.alloc (.cells o8.toArray 166))):=fun W b o ho=>by
   unfold execOp
   rw[ho]
   kernel_rfl
  refine AnyG.step 1 (di:=7) [] (fun _:Unit=>.agg (n8 pr).toArray) (fun _ W=>Below wr.heap.size wr W) rr rfl sy sy kr ?_ ?_ ga9 gs9 (fun W h=>h) (fun _ W h=>h) ?_
  · intro F W hF hR Y b9 K hK
    obtain⟨s1,rfl⟩:=zcl hF
    rcases s1 with _|k1 <;>
      (refine zbb (f:=131) (args:=#[]) kr ?_;refine(zx8 W).mono ?_;rintro e w' ⟨rfl,hB⟩;exact⟨_,rfl,hK () _ (hR.trans (hB.mono hR.size)) hB⟩)
  · exact flt1 ⟨_,rfl,rfl,rfl,fun F W _=>I.o _ _ _ rfl⟩
  intro _;refine AnyG.step 2 (di:=8) [] (fun _:Unit=>.tuple #[.agg (n8 D).toArray,.bool (decide (x<pr))]) (fun _ W=>Below wr.heap.size wr W) rr rfl sy sy kr ?_ ?_ ga9 gs9 (fun W h=>h) (fun _ W h=>h) ?_
  · intro F W hF hR Y b9 K hK
    obtain⟨s1,rfl⟩:=zcl hF
    rcases s1 with _|k1 <;>
      (refine zbb (f:=130) (args:=#[.agg (n8 x).toArray,.agg (n8 pr).toArray]) kr ?_;refine(HM.o W).mono ?_;rintro e w' ⟨rfl,hB⟩;exact⟨_,rfl,hK () _ (hR.trans (hB.mono hR.size)) hB⟩)
  · exact flt1 ⟨_,rfl,rfl,rfl,fun F W _=>I.o _ _ _ rfl⟩
  intro _;refine AnyG.pure 3 (di:=5) (v:=.tuple #[.agg (n8 D).toArray,.bool (decide (x<pr))]) rfl rfl rfl sy kr (fun _ _ _ h=>h) (fun F W hF=>by obtain⟨s1,rfl⟩:=zcl hF;rcases s1 with _|k1 <;> kernel_rfl) (fun W h=>h) ?_;refine AnyG.pure 4 (di:=9) (v:=.agg (n8 D).toArray) rfl rfl rfl sy kr (fun _ _ _ h=>h) (fun F W hF=>by obtain⟨s1,rfl⟩:=zcl hF;rcases s1 with _|k1 <;> kernel_rfl) (fun W h=>h) ?_;refine AnyG.pure 5 (di:=10) (v:=.bool (decide (x<pr))) rfl rfl rfl sy kr (fun _ _ _ h=>h) (fun F W hF=>by obtain⟨s1,rfl⟩:=zcl hF;rcases s1 with _|k1 <;> kernel_rfl) (fun W h=>h) ?_;refine AnyG.fin sy kr ?_ ga9 gs9 (fun W h=>h) ?_
  · exact flt1 ⟨_,rfl,rfl,rfl,fun F W _=>I.o _ _ _ rfl⟩
  intro F W hF h0 hR Y;obtain⟨gl,rfl⟩:=zhz hF h0;obtain⟨⟨a7,a0,_⟩,_⟩:=Y;refine AnyK.storeAll 7 gl (n8 D) 166 o8 rr rfl rfl rr kr kr kr a0 (by exact hdN8' _) (za7 _) (by rw[zar];rfl) (fun _ _ _ h=>(by cases h)) ?_;intro w5 a3 a1;have G:=a1.below hR a7 hR.size;refine AnyK.val 8 (v:=.bool (decide (x<pr))) rr kr rfl kr (fun h=>(by cases h)) ?_;refine AnyK.done kr ?_;have c0:=qh a3;have a9:=qbl HA G;have a4:=qbl HZ G;have J:=qtr HE G;have HG:Hid (w.heap.size≠gl∧w.heap.size+1≠gl∧w.heap.size≤gl):=(by have:=HZ.o.lt;show _∧_∧_;omega);clear a3 a1 G hR a7 a0 hF h0 I U HA HZ HE HM;simp only[putF];have b7:=zaw a9.o;have b5:=zaw c0.o
  rcases Nat.lt_or_ge x pr with hc|hc
  · have b4:decide (x<pr)=true:=decide_eq_true hc
    have HC:=qh hc;clear hc b5
    go_wp2_with (refine zab rfl 166 (.tmp 2) (.tmp 12) rfl (w.heap.size+1) (n8 x) rr rr 166 _ a4.o (by exact hdN8' _) (za7 _) (by rw[zar];rfl) ?_;intro w6 A r;have M:=qh A;have X:=qh (r.below J.o om J.o.size);clear A r)
    exact bodyPost_ret (zan rfl _ _ _ _ rfl M.o _ Tryz.underlying166 rfl (by exact hdN8' _)) rfl ⟨by rw[←a5.o,Nat.mod_eq_of_lt HC.o],X.o⟩
  · have b4:decide (x<pr)=false:=decide_eq_false om
    have V:Hid (D=x-pr):=(by show _=_;rw[b1.o,if_neg om]);have HC:=qh hc;clear hc b7
    go_wp2_with (refine zab rfl 166 (.tmp 1) (.tmp 13) rfl w.heap.size (n8 D) rr rr 166 _ a9.o (by exact hdN8' _) (za7 _) (by rw[zar,zar]) ?_;intro w6 A r;have M:=qh A;have b6:=qh (r.blk a4.o om);have X:=qh (r.below J.o om J.o.size);clear A r)
    go_roundg D
    case measure=>have h1:=b2.o;have h2:=V.o;have h3:=HC.o;have h4:=zwp;omega
    case rel=>exact⟨D,rfl,by rw[V.o,←a5.o];exact(Nat.mod_eq_sub_mod HC.o).symm,by have h1:=b3.o;have h2:=V.o;omega,M.o,b6.o,X.o⟩
end
section
theorem zn4(B:Nat)(hB:0<B):∀(l:List Nat) (j:Nat),0<l.getD j 0→0<numL B l
 | [],j,h=>by simp at h
 | x :: xs,0,h=>by simp at h;simp only[numL];omega
 | x :: xs,j+1,h=>by
  have ih:=zn4 B hB xs j (by simpa using h);have:0<B*numL B xs:=Nat.mul_pos hB ih;simp only[numL];omega
theorem zlj(B:Nat):∀(l:List Nat),(∀j,l.getD j 0=0)→numL B l=0
 | [],_=>rfl
 | x :: xs,h=>by
  have h0:=h 0;have ih:=zlj B xs fun j=>by have:=h (j+1);simpa using this
  simp at h0
  simp only[numL,ih,h0];simp
theorem zhx(l:List Nat)(k j:Nat):(l.drop k).getD j 0=l.getD (k+j) 0:=by simp[List.getD_eq_getElem?_getD,List.getElem?_drop]
attribute [local go_sem ↓] zka zeh
theorem zvs(ws:List Nat)(w:World)(hl:ws.length=17):
 Calls Tryz.prog 149 #[.agg (u64l ws).toArray] w fun e w'=>e=.returned (.bool (decide (0<numL 4294967296 (ws.drop 8))))∧Below w.heap.size w w':=by
 have r:Hid (Blk (w.alloc (.cells (u64l ws).toArray 215)) w.heap.size 215 (u64l ws)∧Below w.heap.size w (w.alloc (.cells (u64l ws).toArray 215))):=⟨Blk.new _ _ _,(Below.refl _ w).alloc lr _⟩;have HN:Hid (∀j,8≤j→0<ws.getD j 0→0<numL 4294967296 (ws.drop 8)):=fun j h8 h=>zn4 _ om _ (j-8) (by rw[zhx,show 8+(j-8)=j by omega];exact h)
 have HO:Hid ((∀j,8≤j→j<17→ws.getD j 0=0)→numL 4294967296 (ws.drop 8)=0):=fun h=>zlj _ _ fun j=>by
  rw[zhx]
  rcases Nat.lt_or_ge (8+j) 17 with h1|h1
  · exact h _ om h1
  · rw[gd9,List.getElem?_eq_none om];rfl
 generalize numL 4294967296 (ws.drop 8)=H at *
 go_enter Tryz.func149, Tryz.ntmps149
 go_wp2
 go_loopg [3] 9 (fun kk q wr=>∃i:Nat,kk=17-i∧q=.int .i64 (i:Int)∧8≤i∧i≤17∧(∀j,8≤j→j<i→ws.getD j 0=0)∧Blk wr w.heap.size 215 (u64l ws)∧Below w.heap.size w wr)
 case atStart=>exact⟨8,rfl,rfl,by omega,by omega,by intro j h1 h2;omega,r.o.1,r.o.2⟩
 case round =>
  clear r;obtain⟨i,A,rfl,h8,J,hz,hA,hE⟩:=hrel
  rcases Nat.lt_or_ge i 17 with I|G
  · have D:(i:Int)<17:=om
    obtain⟨x,hx⟩:=ex9 (ws.getD i 0);have cx:wr.cell? ⟨w.heap.size,i,none⟩=some (.int .u64 (x:Int)):=(hA.cell i).trans (hx ▸ zbo om);have HZ:=qh hz;have HX:=qh hx;have HA:=qh hA;have HE:=qh hE;have E:=qh A;have H8:=qh h8;clear hz hx hA hE A
    rcases Nat.eq_zero_or_pos x with h0|h0
    · subst h0
      go_wp2;go_roundg (17-(i+1))
      case measure=>have:=E.o;omega
      case rel=>exact⟨i+1,rfl,by go_num,by omega,by omega,by
       intro j h1 h2
       rcases Nat.lt_or_ge j i with h3|h3
       · exact HZ.o j h1 h3
       · obtain rfl:j=i:=om
         exact HX.o.symm,HA.o,HE.o⟩
    · have M:(0:Int)<(x:Int):=om
      have HP:Hid (0<H):=(by show _<_;exact HN.o i h8 (by rw[←HX.o];exact h0));clear h0;go_wp2;go_ret;exact⟨by rw[decide_eq_true HP.o];rfl,HE.o⟩
  · obtain rfl:i=17:=om
    have D:¬((17:Nat):Int)<17:=om;have HP:Hid (H=0):=HO.o hz;have HE:=qh hE;clear hz hA hE A;go_wp2;go_ret;exact⟨by rw[decide_eq_false (by rw[HP.o];omega)];rfl,HE.o⟩
end
section
theorem zy5(d c B P t o q L H x y:Nat)(h:d+c*P=L+38*H)(hs:t=c+x+38*y)(ht:t=o+B*q):d+o*P+q*(P*B)=L+x*P+38*(H+y*P):=by
 have h1:t*P=c*P+x*P+38*y*P:=by rw[hs,Nat.add_mul,Nat.add_mul]
 have h2:t*P=o*P+B*q*P:=by rw[ht,Nat.add_mul]
 have h3:q*(P*B)=B*q*P:=by grind
 have h4:38*(H+y*P)=38*H+38*y*P:=by grind
 omega
theorem zw0(ws:List Nat)(hl:ws.length=17):numL 4294967296 ws=numL 4294967296 (ws.take 8)+115792089237316195423570985008687907853269984665640564039457584007913129639936*numL 4294967296 (ws.drop 8):=zfh 4294967296 ws 8 om
theorem pad17(ds:List Nat)(c:Nat)(hd:ds.length=9):(ds++List.replicate (17-9) 0).set 9 c=(ds++[c])++List.replicate 7 0:=ze0 ds 9 17 c hd om
theorem zj0(B:Nat):∀(l:List Nat) (n:Nat),numL B (l++List.replicate n 0)=numL B l
 | [],n=>by rw[List.nil_append];exact zhm B n
 | x :: l,n=>by rw[List.cons_append,numL,numL,zj0 B l n]
theorem zwq{l:List Nat}{B n:Nat}(hB:0<B)(h:∀y∈l,y<B):∀y∈l++List.replicate n 0,y<B:=by
 intro y hy
 rcases List.mem_append.1 hy with hy|hy
 · exact h y hy
 · rw[List.eq_of_mem_replicate hy];exact hB
theorem zvx(L H V W:Nat)(hW:W=L+115792089237316195423570985008687907853269984665640564039457584007913129639936*H)(hV:V=L+38*H):V%pr=W%pr:=by
 rw[hW,hV,show L+115792089237316195423570985008687907853269984665640564039457584007913129639936*H=L+38*H+pr*(2*H) by simp only[pr];omega,Nat.add_mul_mod_self_left]
attribute [local go_sem ↓] zka zeh
theorem zjb(ws:List Nat)(w:World)(hl:ws.length=17)(a2:∀x∈ws,x<4294967296):
 Calls Tryz.prog 132 #[.agg (u64l ws).toArray] w fun e w'=>e=.returned (.agg (n8 (numL 4294967296 ws%pr)).toArray)∧Below w.heap.size w w':=by
 have b6:Hid (Blk ((w.alloc (.cells (u64l ws).toArray 215)).alloc (.cells o8.toArray 166)) w.heap.size 215 (u64l ws)∧Blk ((w.alloc (.cells (u64l ws).toArray 215)).alloc (.cells o8.toArray 166)) (w.heap.size+1) 166 o8∧Below w.heap.size w ((w.alloc (.cells (u64l ws).toArray 215)).alloc (.cells o8.toArray 166))) :=
  ⟨(Blk.new w _ _).alloc _,Blk.new' sy rfl,((Below.refl _ w).alloc lr _).alloc sy _⟩
 obtain⟨W0,c1⟩:=ex9 (numL 4294967296 ws);have c4:=qh c1;rw[←c1];clear c1
 go_enter Tryz.func132, Tryz.ntmps132
 go_wp2
 go_loopg [] W0 (fun kk wr=>∃vs:List Nat,kk=numL 4294967296 vs∧vs.length=17∧(∀x∈vs,x<4294967296)∧numL 4294967296 vs%pr=W0%pr∧Blk wr w.heap.size 215 (u64l vs)∧Blk wr (w.heap.size+1) 166 o8∧Below w.heap.size w wr)
 case atStart=>exact⟨ws,c4.o,hl,a2,by rw[←c4.o],b6.o.1,b6.o.2.1,b6.o.2.2⟩
 case round =>
  clear b6 c4 hl a2;obtain⟨vs,d7,A,a7,c8,hA,hZ,hE⟩:=hrel;have e5:=qh d7;have d4:=qh c8;have b5:=qh (zw0 vs A);have b3:=zni hA A;have b2:=qh (fun W=>zvs vs W A)
  have f2:Hid (numL 4294967296 (vs.take 8)<115792089237316195423570985008687907853269984665640564039457584007913129639936):=by
   have h:=zfv 4294967296 (vs.take 8) (fun x hx=>a7 x (List.mem_of_mem_take hx));rw[List.length_take,A]at h;exact h
  have b9:=qh A;have b4:=qh a7;have HA:=qh hA;have HZ:=qh hZ;have HE:=qh hE;clear hA hZ hE d7 c8 A a7;obtain⟨H,hH⟩:=ex9 (numL 4294967296 (vs.drop 8));rw[←hH]at b2 b5;have d9:=qh hH;clear hH
  rcases Nat.eq_zero_or_pos H with h0|h0
  · have hd:decide (0<H)=false:=decide_eq_false om
    have H0:=qh h0;clear h0
    go_upto_region 16 with (go_at_call 149;(with_reducible refine(b2.o _).mono ?_);rintro e w3 ⟨rfl,hB⟩;have J:=qbl HA hB;have U:=qbl HZ hB;have M:=qtr HE hB;clear hB)
    have a9:Hid (Blk (w3.alloc (.cells o8.toArray 166)) w3.heap.size 166 (u32d (vs.take 0++List.replicate (8-0) 0))):=Blk.new' rfl rfl;have a1:=qh (J.o.alloc (.cells o8.toArray 166));have a3:=qh (U.o.alloc (.cells o8.toArray 166));have a6:=qh (M.o.alloc M.o.size (.cells o8.toArray 166));have HG:Hid (w.heap.size<w3.heap.size∧w.heap.size+1<w3.heap.size):=⟨J.o.lt,U.o.lt⟩;clear HA HZ HE J U M b3 hd b2;go_wp2
    go_loopg [7] 8 (fun kk q wr=>∃i:Nat,kk=8-i∧q=.int .i64 (i:Int)∧i≤8∧Blk wr w.heap.size 215 (u64l vs)∧Blk wr (w.heap.size+1) 166 o8∧Blk wr w3.heap.size 166 (u32d (vs.take i++List.replicate (8-i) 0))∧Below w.heap.size w wr)
    case atStart=>exact⟨0,rfl,rfl,by omega,a1.o,a3.o,a9.o,a6.o⟩
    case round =>
     clear a1 a3 a6 a9;obtain⟨i,r,rfl,hi,hA,hZ,hO,hE⟩:=hrel
     rcases Nat.lt_or_ge i 8 with a2|f3
     · have b1:(i:Int)<8:=om
       have A:=b9.o;obtain⟨x,hx⟩:=ex9 (vs.getD i 0);have d5:x<4294967296:=by rw[hx];exact zba om b4.o i
       have cx:wr.cell? ⟨w.heap.size,i,none⟩=some (.int .u64 (x:Int)):=(hA.cell i).trans (hx ▸ zbo om);have cz:wr.cell? ⟨w3.heap.size,i,none⟩=some (.int .u32 (((vs.take i++List.replicate (8-i) 0).getD i 0:Nat):Int)):=(hO.cell i).trans (zb7 (by simp;omega));have fz:wr.frozen? ⟨w3.heap.size,i,none⟩=false:=hO.frozen i;have g0:(x:Int)%4294967296=(x:Int):=om;have Y:=qh (hA.far (p:=⟨w3.heap.size,i,none⟩) (by have:=HG.o.1;show w.heap.size≠w3.heap.size;omega) (.int .u32 (x:Int)));have I:=qh (hZ.far (p:=⟨w3.heap.size,i,none⟩) (by have:=HG.o.2;show w.heap.size+1≠w3.heap.size;omega) (.int .u32 (x:Int)))
       have X:Hid (Blk (wr.setCell ⟨w3.heap.size,i,none⟩ (.int .u32 (x:Int))) w3.heap.size 166 (u32d (vs.take (i+1)++List.replicate (8-(i+1)) 0))):=by
        have h1:=hO.set_ i (.int .u32 (x:Int));rw[zgh,ze0 (vs.take i) i 8 x (by rw[List.length_take];omega) a2]at h1;rw[show vs.take (i+1)=vs.take i++[x] by rw[List.take_add_one,hx,gd9,ge9 om];rfl];exact h1
       have G:=qh (hE.setCell (p:=⟨w3.heap.size,i,none⟩) (by have:=HG.o.1;show w.heap.size≤w3.heap.size;omega) (.int .u32 (x:Int)));have V:=qh r;clear hA hZ hO hE r hx A;go_wp2;go_roundg (8-(i+1))
       case measure=>have:=V.o;omega
       case rel=>exact⟨i+1,rfl,by go_num,by omega,Y.o,I.o,X.o,G.o⟩
     · obtain rfl:i=8:=om
       have b1:¬((8:Nat):Int)<8:=om;rw[show 8-8=0 by omega,List.replicate_zero,List.append_nil]at hO;have c5:(vs.take 8).length=8:=by rw[List.length_take,b9.o];rfl
       rw[n8_of c5 (fun x hx=>b4.o x (List.mem_of_mem_take hx))]at hO;obtain⟨L,hL⟩:=ex9 (numL 4294967296 (vs.take 8));have f4:Hid (L%pr=W0%pr):=(by show _=_;rw[←d4.o,b5.o,H0.o,hL,Nat.mul_zero,Nat.add_zero]);have c3:=f2.o;rw[←hL]at hO c3;have e4:=qh (fun W=>zek L c3 W);have b3:=zaw hO;have I:=qh hZ;have G:=qh hE;clear hA hZ hO hE r hL c3 c5
       go_wp2_with (first
        | (go_at_call 107;(with_reducible refine(e4.o _).mono ?_);rintro e w5 ⟨rfl,hB⟩;have f5:=qbl I hB;have d3:=qtr G hB;clear hB)
        | (refine zab rfl 166 (.tmp 2) (.tmp 48) rfl (w.heap.size+1) (n8 (L%pr)) rr rr 166 _ f5.o (by exact hdN8' _) (za7 _) (by rw[zar];rfl) ?_;intro w6 a5 a0;have c0:=qh a5;have c2:=qh (a0.below d3.o om d3.o.size);clear a5 a0))
       exact bodyPost_ret (zan rfl _ _ _ _ rfl c0.o _ Tryz.underlying166 rfl (by exact hdN8' _)) rfl ⟨by rw[f4.o],c2.o⟩
  · have hd:decide (0<H)=true:=decide_eq_true h0
    have H0:=qh h0;clear h0
    go_upto_region 5 with (go_at_call 149;(with_reducible refine(b2.o _).mono ?_);rintro e w3 ⟨rfl,hB⟩;have J:=qbl HA hB;have U:=qbl HZ hB;have M:=qtr HE hB;clear hB)
    have a9:Hid (Blk (w3.alloc (.cells o17.toArray 215)) w3.heap.size 215 (u64l ([]++List.replicate (17-0) 0))):=Blk.new' rfl rfl;have a1:=qh (J.o.alloc (.cells o17.toArray 215));have a3:=qh (U.o.alloc (.cells o17.toArray 215));have a6:=qh (M.o.alloc M.o.size (.cells o17.toArray 215));have HG:Hid (w.heap.size<w3.heap.size∧w.heap.size+1<w3.heap.size):=⟨J.o.lt,U.o.lt⟩;clear HA HZ HE J U M b3 hd b2;go_wp2
    go_loopg [4,5] 9 (fun kk qc q wr=>∃(i c:Nat) (ds:List Nat),kk=9-i∧qc=.int .u64 (c:Int)∧q=.int .i64 (i:Int)∧i≤9∧c≤40∧ds.length=i∧(∀x∈ds,x<4294967296)∧numL 4294967296 ds+c*4294967296^i=numL 4294967296 ((vs.take 8).take i)+38*numL 4294967296 ((vs.drop 8).take i)∧Blk wr w.heap.size 215 (u64l vs)∧Blk wr (w.heap.size+1) 166 o8∧Blk wr w3.heap.size 215 (u64l (ds++List.replicate (17-i) 0))∧Below w.heap.size w wr)
    case atStart=>exact⟨0,0,[],rfl,rfl,rfl,by omega,by omega,rfl,by simp,by simp[numL],a1.o,a3.o,a9.o,a6.o⟩
    case round =>
     clear a1 a3 a6 a9;obtain⟨i,c,ds,r,rfl,rfl,hi,hc,E,a4,D,hA,hZ,hO,hE⟩:=hrel;have A:=b9.o
     rcases Nat.lt_or_ge i 9 with a2|f3
     · have b1:(i:Int)<9:=om
       obtain⟨y,hy⟩:=ex9 (vs.getD (i+8) 0);obtain⟨x,hx⟩:=ex9 ((vs.take 8).getD i 0);have f7:y<4294967296:=by rw[hy];exact zba om b4.o _
       have d5:x<4294967296:=by rw[hx];exact zba om (fun z hz=>b4.o z (List.mem_of_mem_take hz)) _
       have cy:wr.cell? ⟨w.heap.size,i+8,none⟩=some (.int .u64 (y:Int)):=(hA.cell (i+8)).trans (hy ▸ zbo om);have cz:wr.cell? ⟨w3.heap.size,i,none⟩=some (.int .u64 (((ds++List.replicate (17-i) 0).getD i 0:Nat):Int)):=(hO.cell i).trans (zbo (by simp;omega));have fz:wr.frozen? ⟨w3.heap.size,i,none⟩=false:=hO.frozen i;obtain⟨t,ht⟩:=ex9 (c+x+38*y);obtain⟨o,ho⟩:=ex9 (t%4294967296);obtain⟨q,hq⟩:=ex9 (t/4294967296);have d6:o<4294967296:=by rw[ho];exact Nat.mod_lt _ om
       have g1:(t:Int)%4294967296=(o:Int):=om;have g3:(t:Int)/4294967296=(q:Int):=om;have g2:(t:Int)<18446744073709551616:=om;have HQ:Hid (q≤40):=(by show _≤_;omega)
       have d8:Hid (numL 4294967296 (ds++[o])+q*4294967296^(i+1)=numL 4294967296 ((vs.take 8).take (i+1))+38*numL 4294967296 ((vs.drop 8).take (i+1))):=by
        show _=_
        have e2:numL 4294967296 ((vs.drop 8).take (i+1))=numL 4294967296 ((vs.drop 8).take i)+y*4294967296^i:=by
         rw[zbp _ (vs.drop 8) i (by simp;omega),zhx,hy,Nat.add_comm 8 i]
        have e1:numL 4294967296 ((vs.take 8).take (i+1))=numL 4294967296 ((vs.take 8).take i)+x*4294967296^i:=by
         rcases Nat.lt_or_ge i 8 with h8|h8
         · rw[zbp _ (vs.take 8) i (by simp;omega),hx]
         · have f1:(vs.take 8).take (i+1)=vs.take 8:=tk (by rw[List.length_take];omega)
           have f0:(vs.take 8).take i=vs.take 8:=tk (by rw[List.length_take];omega);have fx:x=0:=by rw[hx,gd9,List.getElem?_eq_none (by rw[List.length_take];omega)];rfl
           rw[f1,f0,fx,Nat.zero_mul,Nat.add_zero]
        rw[zdg,E,e1,e2,Nat.pow_succ];exact zy5 _ c 4294967296 _ t o q _ _ x y D ht om
       have d0:=qh (zft a4 d6);have c9:Hid ((ds++[o]).length=i+1):=by show _=_;simp[E]
       have Y:=qh (hA.far (p:=⟨w3.heap.size,i,none⟩) (by have:=HG.o.1;show w.heap.size≠w3.heap.size;omega) (.int .u64 (o:Int)));have I:=qh (hZ.far (p:=⟨w3.heap.size,i,none⟩) (by have:=HG.o.2;show w.heap.size+1≠w3.heap.size;omega) (.int .u64 (o:Int)))
       have X:Hid (Blk (wr.setCell ⟨w3.heap.size,i,none⟩ (.int .u64 (o:Int))) w3.heap.size 215 (u64l ((ds++[o])++List.replicate (17-(i+1)) 0))):=by
        have h1:=hO.set_ i (.int .u64 (o:Int));rw[zdj,ze0 ds i 17 o E om]at h1;exact h1
       have G:=qh (hE.setCell (p:=⟨w3.heap.size,i,none⟩) (by have:=HG.o.1;show w.heap.size≤w3.heap.size;omega) (.int .u64 (o:Int)));have V:=qh r
       rcases Nat.lt_or_ge i 8 with h8|h8
       · have e7:(i:Int)<8:=om
         have cx:wr.cell? ⟨w.heap.size,i,none⟩=some (.int .u64 (x:Int)):=(hA.cell i).trans ((zbo om).trans (by rw[hx];simp[List.getD_eq_getElem?_getD,h8]));obtain⟨t1,e9⟩:=ex9 (c+x);obtain⟨m,hm⟩:=ex9 (38*y);have f8:(c:Int)+(x:Int)=(t1:Int):=om;have e8:(38:Int)*(y:Int)=(m:Int):=om;have c7:(t1:Int)+(m:Int)=(t:Int):=om;have f9:(t1:Int)<18446744073709551616:=om;have e6:(m:Int)<18446744073709551616:=om;clear hA hZ hO hE r hx hy A ht ho hq e9 hm D E a4;go_wp2;go_roundg (9-(i+1))
         case measure=>have:=V.o;omega
         case rel=>exact⟨i+1,q,ds++[o],rfl,rfl,by go_num,by omega,HQ.o,c9.o,d0.o,d8.o,Y.o,I.o,X.o,G.o⟩
       · have e7:¬(i:Int)<8:=om
         have e3:x=0:=by rw[hx,gd9,List.getElem?_eq_none (by simp;omega)];rfl
         obtain⟨m,hm⟩:=ex9 (38*y);have e8:(38:Int)*(y:Int)=(m:Int):=om;have c7:(c:Int)+(m:Int)=(t:Int):=om;have e6:(m:Int)<18446744073709551616:=om;clear hA hZ hO hE r hx hy A ht ho hq hm D E a4 e3;go_wp2;go_roundg (9-(i+1))
         case measure=>have:=V.o;omega
         case rel=>exact⟨i+1,q,ds++[o],rfl,rfl,by go_num,by omega,HQ.o,c9.o,d0.o,d8.o,Y.o,I.o,X.o,G.o⟩
     · obtain rfl:i=9:=om
       have b1:¬((9:Nat):Int)<9:=om;have cz:wr.cell? ⟨w3.heap.size,9,none⟩=some (.int .u64 (((ds++List.replicate (17-9) 0).getD 9 0:Nat):Int)):=(hO.cell 9).trans (zbo (by simp;omega));have fz:wr.frozen? ⟨w3.heap.size,9,none⟩=false:=hO.frozen 9;rw[tk (l:=vs.take 8) (by simp;omega),tk (l:=vs.drop 8) (by simp;omega),←d9.o]at D;obtain⟨us,a8⟩:=ex9 ((ds++[c])++List.replicate 7 0);have c6:Hid (numL 4294967296 us=numL 4294967296 (vs.take 8)+38*H):=(by show _=_;rw[a8,zj0,zdg,E,D]);have b7:Hid (us.length=17):=(by show _=_;rw[a8];simp[E]);have e0:Hid (∀x∈us,x<4294967296):=(by show ∀x∈us,_;rw[a8];exact zwq om (zft a4 om))
       have X:Hid (Blk (wr.setCell ⟨w3.heap.size,9,none⟩ (.int .u64 (c:Int))) w3.heap.size 215 (u64l us)):=by
        have h1:=hO.set_ 9 (.int .u64 (c:Int));rw[zdj,pad17 ds c E,←a8]at h1;exact h1
       have Y:=qh (hA.far (p:=⟨w3.heap.size,9,none⟩) (by have:=HG.o.1;show w.heap.size≠w3.heap.size;omega) (.int .u64 (c:Int)));have I:=qh (hZ.far (p:=⟨w3.heap.size,9,none⟩) (by have:=HG.o.2;show w.heap.size+1≠w3.heap.size;omega) (.int .u64 (c:Int)));have G:=qh (hE.setCell (p:=⟨w3.heap.size,9,none⟩) (by have:=HG.o.1;show w.heap.size≤w3.heap.size;omega) (.int .u64 (c:Int)));have b3:=zni X.o b7.o;clear hA hZ hO hE r A D E a4 a8
       go_wp2_with (refine zab rfl 215 (.tmp 1) (.tmp 36) rfl w.heap.size (u64l us) rr rr 215 _ Y.o (by exact hdW17 _ (by rw[zgg,b7.o])) (zt1 _) (by rw[zgg,zgg,b7.o,b9.o]) ?_;intro w6 a5 a0;have c0:=qh a5;have f6:=qh (a0.blk I.o om);have c2:=qh (a0.below G.o om G.o.size);clear a5 a0)
       go_roundg (numL 4294967296 us)
       case measure=>have h1:=e5.o;have h2:=c6.o;have h3:=b5.o;have h4:=H0.o;omega
       case rel=>exact⟨us,rfl,b7.o,e0.o,(zvx _ H _ _ b5.o c6.o).trans d4.o,c0.o,f6.o,c2.o⟩
end
section
theorem szU32r(w:World):(sizeOf 61).run Tryz.prog w=.ok 1 w:=by kernel_rfl
theorem agU32r(w:World):(isAgg 61).run Tryz.prog w=.ok false w:=by kernel_rfl
theorem wrap64(n:Nat)(h:n<18446744073709551616)(z:Int)(hz:z=(n:Int)):IntKind.u64.wrap z=(n:Int):=by
 rw[IntKind.wrap_u64];omega
theorem zx5(d c P t o q L H x y:Nat)(h:d+c*P=L+H)(hs:t=c+x+y)(ht:t=o+4294967296*q):d+o*P+q*(P*4294967296)=L+x*P+(H+y*P):=by
 have h1:t*P=c*P+x*P+y*P:=by rw[hs,Nat.add_mul,Nat.add_mul]
 have h2:t*P=o*P+4294967296*q*P:=by rw[ht,Nat.add_mul]
 have h3:q*(P*4294967296)=4294967296*q*P:=by grind
 omega
attribute [local go_sem ↓] zka zeh
theorem radd_n(a b:Nat)(w:World)(ha:a<115792089237316195423570985008687907853269984665640564039457584007913129639936)(hb:b<115792089237316195423570985008687907853269984665640564039457584007913129639936):
 Calls Tryz.prog 109 #[.agg (n8 a).toArray,.agg (n8 b).toArray] w fun e w'=>e=.returned (.agg (n8 ((a+b)%pr)).toArray)∧Below w.heap.size w w':=by
 obtain⟨xa,I⟩:=ex9 (dig 8 a);obtain⟨xb,M⟩:=ex9 (dig 8 b);have b6:Hid (numL 4294967296 xa=a):=(by show _=_;rw[I,zf5 a ha]);have c1:Hid (numL 4294967296 xb=b):=(by show _=_;rw[M,zf5 b hb]);have U:Hid (xa.length=8∧∀x∈xa,x<4294967296):=(by rw[I];exact⟨zcj _ _,zh3 _ _⟩);have E:Hid (xb.length=8∧∀x∈xb,x<4294967296):=(by rw[M];exact⟨zcj _ _,zh3 _ _⟩);rw[n8,n8,←I,←M];clear I M ha hb;obtain⟨W1,V⟩:=ex9 ((((w.alloc (.cells (u32d xa).toArray 166)).alloc (.cells (u32d xb).toArray 166)).alloc (.cells o8.toArray 166)).alloc (.cells o17.toArray 215))
 have a8:Hid (Blk W1 w.heap.size 166 (u32d xa)∧Blk W1 (w.heap.size+1) 166 (u32d xb)∧Blk W1 (w.heap.size+2) 166 o8∧Blk W1 (w.heap.size+3) 215 (u64l ([]++List.replicate (17-0) 0))∧Below w.heap.size w W1) :=
  V ▸ ⟨(((Blk.new w _ _).alloc _).alloc _).alloc _,((Blk.new' sy rfl).alloc _).alloc _,(Blk.new' sy rfl).alloc _,Blk.new' sy rfl,((((Below.refl _ w).alloc lr _).alloc sy _).alloc (by simp <;> omega) _).alloc (by simp <;> omega) _⟩
 go_enter Tryz.func109, Tryz.ntmps109
 go_wp2
 go_loopg [6,7] 8 (fun kk qc q wr=>∃(i c:Nat) (ds:List Nat),kk=8-i∧qc=.int .u64 (c:Int)∧q=.int .i64 (i:Int)∧i≤8∧c≤1∧ds.length=i∧(∀x∈ds,x<4294967296)∧numL 4294967296 ds+c*4294967296^i=numL 4294967296 (xa.take i)+numL 4294967296 (xb.take i)∧Blk wr w.heap.size 166 (u32d xa)∧Blk wr (w.heap.size+1) 166 (u32d xb)∧Blk wr (w.heap.size+2) 166 o8∧Blk wr (w.heap.size+3) 215 (u64l (ds++List.replicate (17-i) 0))∧Below w.heap.size w wr)
 case atStart=>exact⟨0,0,[],rfl,rfl,rfl,by omega,by omega,rfl,by simp,by simp[numL],V ▸ a8.o⟩
 case round =>
  clear a8 V;obtain⟨i,c,ds,a0,rfl,rfl,hi,hc,r,J,A,hA,hB,hZ,hO,hE⟩:=hrel
  rcases Nat.lt_or_ge i 8 with a4|c9
  · have b1:(i:Int)<8:=om
    obtain⟨x,hx⟩:=ex9 (xa.getD i 0);obtain⟨y,hy⟩:=ex9 (xb.getD i 0);have c6:x<4294967296:=by rw[hx];exact zba om U.o.2 i
    have c5:y<4294967296:=by rw[hy];exact zba om E.o.2 i
    have cx:wr.cell? ⟨w.heap.size,i,none⟩=some (.int .u32 (x:Int)):=(hA.cell i).trans (hx ▸ zb7 (by have:=U.o.1;omega));have cy:wr.cell? ⟨w.heap.size+1,i,none⟩=some (.int .u32 (y:Int)):=(hB.cell i).trans (hy ▸ zb7 (by have:=E.o.1;omega));have cz:wr.drew.cell? ⟨w.heap.size+3,i,none⟩=some (.int .u64 (((ds++List.replicate (17-i) 0).getD i 0:Nat):Int)):=(hO.drew.cell i).trans (zbo (by simp;omega));have fz:wr.drew.frozen? ⟨w.heap.size+3,i,none⟩=false:=hO.drew.frozen i;obtain⟨t,ht⟩:=ex9 (c+x+y);obtain⟨o,ho⟩:=ex9 (t%4294967296);obtain⟨q,hq⟩:=ex9 (t/4294967296);have a9:o<4294967296:=by rw[ho];exact Nat.mod_lt _ om
    have c8:(t:Int)%4294967296=(o:Int):=om;have d0:(t:Int)/4294967296=(q:Int):=om;have HQ:Hid (q≤1):=(by show _≤_;omega)
    have c4:Hid (numL 4294967296 (ds++[o])+q*4294967296^(i+1)=numL 4294967296 (xa.take (i+1))+numL 4294967296 (xb.take (i+1))):=by
     show _=_
     rw[zdg,r,zbp _ xa i (by have:=U.o.1;omega),zbp _ xb i (by have:=E.o.1;omega),←hx,←hy,Nat.pow_succ];exact zx5 _ c _ t o q _ _ x y A ht om
    have b9:=qh (zft J a9);have b7:Hid ((ds++[o]).length=i+1):=by show _=_;simp[r]
    have hA:=hA.drew;have hB:=hB.drew;have hZ:=hZ.drew;have hO:=hO.drew;have hE:=hE.drew;have c0:=qh (hA.far (p:=⟨w.heap.size+3,i,none⟩) (by show w.heap.size≠w.heap.size+3;omega) (.int .u64 (o:Int)));have b4:=qh (hB.far (p:=⟨w.heap.size+3,i,none⟩) (by show w.heap.size+1≠w.heap.size+3;omega) (.int .u64 (o:Int)));have Y:=qh (hZ.far (p:=⟨w.heap.size+3,i,none⟩) (by show w.heap.size+2≠w.heap.size+3;omega) (.int .u64 (o:Int)))
    have G:Hid (Blk (wr.drew.setCell ⟨w.heap.size+3,i,none⟩ (.int .u64 (o:Int))) (w.heap.size+3) 215 (u64l ((ds++[o])++List.replicate (17-(i+1)) 0))):=by
     have h1:=hO.set_ i (.int .u64 (o:Int));rw[zdj,ze0 ds i 17 o r om]at h1;exact h1
    have a1:=qh (hE.setCell (p:=⟨w.heap.size+3,i,none⟩) (by show w.heap.size≤w.heap.size+3;omega) (.int .u64 (o:Int)));have b5:=qh a0;have hT:wr.drew.cell? ⟨w.heap.size,i,none⟩=some (.int .u32 (x:Int))∧wr.drew.cell? ⟨w.heap.size+1,i,none⟩=some (.int .u32 (y:Int)):=⟨cx,cy⟩;have w1:IntKind.u64.wrap (x:Int)=(x:Int):=wrap64 x om _ rfl;have w2:IntKind.u64.wrap (y:Int)=(y:Int):=wrap64 y om _ rfl;have w3:IntKind.u64.wrap ((c:Int)+(x:Int))=((c+x:Nat):Int):=wrap64 (c+x) om _ om;have w4:IntKind.u64.wrap (((c+x:Nat):Int)+(y:Int))=(t:Int):=wrap64 t om _ om;clear hA hB hZ hO hE a0 A r J hx hy ht ho hq cx cy;go_wp2;refine kgo kr 11 (fun w'=>w'.cell? ⟨w.heap.size,i,none⟩=some (.int .u32 (x:Int))∧w'.cell? ⟨w.heap.size+1,i,none⟩=some (.int .u32 (y:Int))) hT (fun _ _ _ _ _ h=>h) ?_;refine kp 0 (.int .u64 (c:Int)) rfl kr (fun _=>kr) ?_;refine kp 1 (.int .i64 (i:Int)) rfl kr (fun _=>kr) ?_;refine kp 2 (.pointer (some ⟨w.heap.size,i,none⟩)) rfl kr (fun _=>(zc1 (t:=166) (e:=61) (x:=.tmp 2) (y:=.tmp 13) (g:=w.heap.size) (off:=0) (m:=8) (p:=i) rr kr kr a4 kr szU32r).trans (by rw[Nat.zero_add])) ?_;refine kl 3 (.int .u32 (x:Int)) rfl kr (fun w' hw'=>zci (t:=61) (x:=.tmp 14) (p:=⟨w.heap.size,i,none⟩) rr kr agU32r hw'.1) ?_;refine kp 4 (.int .u64 (x:Int)) rfl kr (fun _=>Eq.trans (b:=.ok (.value (.int .u64 (IntKind.u64.wrap ((x:Int))))) _) kr (by rw[w1])) ?_;refine kp 5 (.int .u64 ((c+x:Nat):Int)) rfl kr (fun _=>Eq.trans (b:=.ok (.value (.int .u64 (IntKind.u64.wrap ((c:Int)+(x:Int))))) _) kr (by rw[w3])) ?_;refine kp 6 (.int .i64 (i:Int)) rfl kr (fun _=>kr) ?_;refine kp 7 (.pointer (some ⟨(w.heap.size+1),i,none⟩)) rfl kr (fun _=>(zc1 (t:=166) (e:=61) (x:=.tmp 3) (y:=.tmp 18) (g:=(w.heap.size+1)) (off:=0) (m:=8) (p:=i) rr kr kr a4 kr szU32r).trans (by rw[Nat.zero_add])) ?_;refine kl 8 (.int .u32 (y:Int)) rfl kr (fun w' hw'=>zci (t:=61) (x:=.tmp 19) (p:=⟨w.heap.size+1,i,none⟩) rr kr agU32r hw'.2) ?_;refine kp 9 (.int .u64 (y:Int)) rfl kr (fun _=>Eq.trans (b:=.ok (.value (.int .u64 (IntKind.u64.wrap ((y:Int))))) _) kr (by rw[w2])) ?_;refine kp 10 (.int .u64 (t:Int)) rfl kr (fun _=>Eq.trans (b:=.ok (.value (.int .u64 (IntKind.u64.wrap (((c+x:Nat):Int)+(y:Int))))) _) kr (by rw[w4])) ?_;intro q8 q9;clear q8 q9;refine AnyK.val 11 (v:=.int .u64 (t:Int)) rfl kr rfl kr (fun h=>(by cases h)) ?_;refine AnyK.done kr ?_;clear hT w1 w2 w3 w4;go_wp2;go_roundg (8-(i+1))
    case measure=>have:=b5.o;omega
    case rel=>exact⟨i+1,q,ds++[o],rfl,rfl,by go_num,by omega,HQ.o,b7.o,b9.o,c4.o,c0.o,b4.o,Y.o,G.o,a1.o⟩
  · obtain rfl:i=8:=om
    have b1:¬((8:Nat):Int)<8:=om;have cz:wr.cell? ⟨w.heap.size+3,8,none⟩=some (.int .u64 (((ds++List.replicate (17-8) 0).getD 8 0:Nat):Int)):=(hO.cell 8).trans (zbo (by simp <;> omega));have fz:wr.frozen? ⟨w.heap.size+3,8,none⟩=false:=hO.frozen 8;rw[tk (by have:=U.o.1;omega),tk (by have:=E.o.1;omega),b6.o,c1.o]at A;obtain⟨us,D⟩:=ex9 ((ds++[c])++List.replicate (17-(8+1)) 0);have b2:Hid (numL 4294967296 us=a+b):=(by show _=_;rw[D,zj0,zdg,r,A]);have X:us.length=17:=by rw[D];simp[r]
    have a2:∀x∈us,x<4294967296:=by rw[D];exact zwq om (zft J om)
    have a3:=qh (fun W=>zjb us W X a2);rw[b2.o]at a3
    have G:Blk (wr.setCell ⟨w.heap.size+3,8,none⟩ (.int .u64 (c:Int))) (w.heap.size+3) 215 (u64l us):=by
     have h1:=hO.set_ 8 (.int .u64 (c:Int));rw[zdj,ze0 ds 8 17 c r om,←D]at h1;exact h1
    have Y:=qh (hZ.far (p:=⟨w.heap.size+3,8,none⟩) (by show w.heap.size+2≠w.heap.size+3;omega) (.int .u64 (c:Int)));have a1:=qh (hE.setCell (p:=⟨w.heap.size+3,8,none⟩) (by show w.heap.size≤w.heap.size+3;omega) (.int .u64 (c:Int)));have c7:=zni G X;clear hA hB hZ hO hE a0 A r J D X a2 G
    go_wp2_with (first
     | (go_at_call 132;(with_reducible refine(a3.o _).mono ?_);rintro e w5 ⟨rfl,hB⟩;have c3:=qbl Y hB;have a7:=qtr a1 hB;clear hB)
     | (refine zab rfl 166 (.tmp 4) (.tmp 32) rfl (w.heap.size+2) (n8 ((a+b)%pr)) rr rr 166 _ c3.o (by exact hdN8' _) (za7 _) (by rw[zar];rfl) ?_;intro w6 a6 a5;have b3:=qh a6;have c2:=qh (a5.below a7.o om a7.o.size);clear a6 a5))
    exact bodyPost_ret (zan rfl _ _ _ _ rfl b3.o _ Tryz.underlying166 rfl (by exact hdN8' _)) rfl ⟨rfl,c2.o⟩
end
