/- Part of the proof. -/
import Derived.Test.YtpgpaenloaphaaaGreatSmx35
set_option maxRecDepth 100000
set_option maxHeartbeats 0
namespace Go.Proofs.YtpgpaenloaphaaaGreat
open Go.RowKit
section
section
variable{P:Program}{ops:Array Oper}{Q:Exit→Act→World→Prop}{md:Region.Mode}{T:World→Prop}{k:Nat}{B:Nat}{fs:List Flt}
def okPure(md:Region.Mode)(ops:Array Oper)(listed:Array Bool)(js must:List Nat)(k i:Nat):Bool :=
 (subs js).all fun S=>(!(must.all S.contains))|| takeB md ops (setJ listed S) k i
theorem AnyG.pure{fuel:Nat}{listed:Array Bool}{a:Act}{R:World→Prop}(i:Nat){oi:Oper}{di:Tmp}{must:List Nat}{v:Value}(hi:ops[i]? = some oi)(hid:oi.dst=some di)(hig:oi.guard=none)(hdi:∀f∈fs,f.d≠di)
 (chk:okPure md ops listed (fs.map (·.j)) must k i=true) (hQ:∀c a w,Q (.panic c) (a.put oi.dst v) w→Q (.panic c) a w)
 (hy:∀F W,F.map (·.1)=fs→(execOp (putF a F).eval oi).run P W=.ok (.value v) W) (hT:∀W,R W→T W)
 (h:AnyG P md ops Q k T B fs must fuel (listed.setIfInBounds i true) (a.put (some di) v) R):AnyG P md ops Q k T B fs must (fuel+1) listed a R:=by
 intro F W hF hR hok hm;have e:F.map (·.1.j)=fs.map (·.j):=by rw[←hF,List.map_map];rfl
 have h1:=List.all_eq_true.1 chk (doneJ F) (e ▸ zdw F);rw[hm,Bool.not_true,Bool.false_or]at h1;rw[show fuel+1+leftN F=(fuel+leftN F)+1 by omega];refine AnyK.pure i hi h1 hQ hig (fun w=>hy F w hF) (fun _=>hT W hR) ?_;have h2:=h F W hF hR hok hm;rw[←zga,←ze6 F a di v (fun z hz=>hdi z.1 (by rw[←hF];exact List.mem_map.2 ⟨z,hz,rfl⟩))]at h2;rw[hid];exact h2
end
theorem zcj{f:Flt}{F:List (Flt × Option Nat)}(h:F.map (·.1)=[f]):∃s,F=[(f,s)]:=by
 rcases F with _|⟨⟨a,s1⟩,_|⟨b,r⟩⟩
 · cases h
 · simp only[List.map_cons,List.map_nil,List.cons.injEq]at h
   obtain⟨rfl,_⟩:=h;exact⟨s1,rfl⟩
 · simp at h
theorem zhl{f:Flt}{F:List (Flt × Option Nat)}(h:F.map (·.1)=[f])(h0:leftN F=0):∃g,F=[(f,some g)]:=by
 obtain⟨s1,rfl⟩:=zcj h
 rcases s1 with _|g
 · simp[leftN]at h0
 exact⟨g,rfl⟩
end
section
theorem zt2(t o o' ds xa xb P x y v:Nat)(h:ds+xb=xa+o*P)(hx:t=y+o)(hv:v+t=x+o'*4294967296):ds+v*P+(xb+y*P)=xa+x*P+o'*(P*4294967296):=by
 subst hx;have h1:v*P+(y+o)*P=x*P+o'*4294967296*P:=by rw[←Nat.add_mul,hv,Nat.add_mul]
 grind
attribute [local go_sem ↓] zeb
theorem zrp(xa xb:List Nat)(w:World)(hA:xa.length=8)(hB:xb.length=8)(lA:∀x∈xa,x<4294967296)(lB:∀x∈xb,x<4294967296):
 Calls Tryz.prog 153 #[.agg (u32d xa).toArray,.agg (u32d xb).toArray] w fun e w'=>∃(os:List Nat) (o:Nat),e=.returned (.tuple #[.agg (u32d os).toArray,.bool ((o:Int) == 1)])∧os.length=8∧(∀x∈os,x<4294967296)∧o≤1∧numL 4294967296 os+numL 4294967296 xb=numL 4294967296 xa+o*4294967296^8∧Below w.heap.size w w':=by
 obtain⟨W1,hW1⟩:=ex9 ((((w.alloc (.cells (u32d xa).toArray 196)).alloc (.cells (u32d xb).toArray 196)).alloc (.cells o8.toArray 196)).alloc (.cells o8.toArray 196))
 have HM0:Hid (Blk W1 w.heap.size 196 (u32d xa)∧Blk W1 (w.heap.size+1) 196 (u32d xb)∧Blk W1 (w.heap.size+2) 196 o8∧Blk W1 (w.heap.size+3) 196 o8∧Below w.heap.size w W1) :=
  hW1 ▸ ⟨(((Blk.new w _ _).alloc _).alloc _).alloc _,((Blk.new' sy rfl).alloc _).alloc _,(Blk.new' sy rfl).alloc _,Blk.new' sy rfl,((((Below.refl _ w).alloc lr _).alloc sy _).alloc (by simp <;> omega) _).alloc (by simp <;> omega) _⟩
 go_enter Tryz.func153, Tryz.ntmps153
 go_wp2
 go_loopg [7,8] 8 (fun kk oq q wr=>∃(i o:Nat) (ds:List Nat),kk=8-i∧oq=.int .u64 (o:Int)∧q=.int .i64 (i:Int)∧i≤8∧o≤1∧ds.length=i∧(∀x∈ds,x<4294967296)∧numL 4294967296 ds+numL 4294967296 (xb.take i)=numL 4294967296 (xa.take i)+o*4294967296^i∧Blk wr w.heap.size 196 (u32d xa)∧Blk wr (w.heap.size+1) 196 (u32d xb)∧Blk wr (w.heap.size+2) 196 o8∧Blk wr (w.heap.size+3) 196 (u32d (ds++List.replicate (8-i) 0))∧Below w.heap.size w wr)
 case atStart=>exact⟨0,0,[],rfl,rfl,rfl,by omega,by omega,rfl,by simp,by simp[numL],hW1 ▸ HM0.out⟩
 case round =>
  clear HM0 hW1;obtain⟨i,o,ds,hgk,rfl,rfl,hi,ho,hds,hdl,hnum,hbA,hbB,hbZ,hbO,hE⟩:=hrel
  rcases Nat.lt_or_ge i 8 with hlt|hge
  · have hlt2:(i:Int)<8:=om
    obtain⟨x,hx⟩:=ex9 (xa.getD i 0);obtain⟨y,hy⟩:=ex9 (xb.getD i 0);have hx32:x<4294967296:=by rw[hx];exact za8 om lA i
    have hy32:y<4294967296:=by rw[hy];exact za8 om lB i
    have cx:wr.cell? ⟨w.heap.size,i,none⟩=some (.int .u32 (x:Int)):=(hbA.cell i).trans (hx ▸ zb7 om);have cy:wr.cell? ⟨w.heap.size+1,i,none⟩=some (.int .u32 (y:Int)):=(hbB.cell i).trans (hy ▸ zb7 om);have cz:wr.cell? ⟨w.heap.size+3,i,none⟩=some (.int .u32 (((ds++List.replicate (8-i) 0).getD i 0:Nat):Int)):=(hbO.cell i).trans (zb7 (by simp;omega));have fz:wr.frozen? ⟨w.heap.size+3,i,none⟩=false:=hbO.frozen i;obtain⟨t,ht⟩:=ex9 (y+o);have hti:(y:Int)+(o:Int)=(t:Int):=om;have ht64:(t:Int)<4294967297:=om
    obtain⟨o',v,ho',hv32,hv⟩:∃o' v:Nat,o'≤1∧v<4294967296∧v+t=x+o'*4294967296∧(o'=1 ↔ x<t):=by
     rcases Nat.lt_or_ge x t with h1|h1
     · exact⟨1,x+4294967296-t,by omega,by omega,by omega,by omega⟩
     · exact⟨0,x-t,by omega,by omega,by omega,by omega⟩
    have HST:Hid (numL 4294967296 (ds++[v])+numL 4294967296 (xb.take (i+1))=numL 4294967296 (xa.take (i+1))+o'*4294967296^(i+1)):=by
     show _=_
     rw[zdf,zbp _ xb i om,zbp _ xa i om,hds,←hx,←hy,Nat.pow_succ];exact zt2 t o o' _ _ _ _ x y v hnum ht hv.1
    have HDL:=qh (zfk hdl hv32);have HDS:Hid ((ds++[v]).length=i+1):=by show _=_;simp[hds]
    have HO':=qh ho';have HGK:=qh hgk;have HA:=qh (hbA.far (p:=⟨w.heap.size+3,i,none⟩) (by show w.heap.size≠w.heap.size+3;omega) (.int .u32 (v:Int)));have HB:=qh (hbB.far (p:=⟨w.heap.size+3,i,none⟩) (by show w.heap.size+1≠w.heap.size+3;omega) (.int .u32 (v:Int)));have HZ:=qh (hbZ.far (p:=⟨w.heap.size+3,i,none⟩) (by show w.heap.size+2≠w.heap.size+3;omega) (.int .u32 (v:Int)))
    have HO:Hid (Blk (wr.setCell ⟨w.heap.size+3,i,none⟩ (.int .u32 (v:Int))) (w.heap.size+3) 196 (u32d ((ds++[v])++List.replicate (8-(i+1)) 0))):=by
     have h1:=hbO.set_ i (.int .u32 (v:Int));rw[zf7,zeu ds i 8 v hds hlt]at h1;exact h1
    have HE:=qh (hE.setCell (p:=⟨w.heap.size+3,i,none⟩) (by show w.heap.size≤w.heap.size+3;omega) (.int .u32 (v:Int)));clear hbA hbB hbZ hbO hE hgk hnum hx hy ht hds hdl
    rcases Nat.lt_or_ge x t with hc|hc
    · obtain rfl:o'=1:=hv.2.2 hc
      have hci:(x:Int)<(t:Int):=om;have hvi:(x:Int)+4294967296-(t:Int)=(v:Int):=om;clear hc hv ho';go_wp2;go_roundg (8-(i+1))
      case measure=>have:=HGK.out;omega
      case rel=>exact⟨i+1,1,ds++[v],rfl,rfl,by go_num,by omega,by omega,HDS.out,HDL.out,HST.out,HA.out,HB.out,HZ.out,HO.out,HE.out⟩
    · obtain rfl:o'=0:=by have:=hv.2;omega
      have hci:¬(x:Int)<(t:Int):=om;have hvi:(x:Int)-(t:Int)=(v:Int):=om;clear hc hv ho';go_wp2;go_roundg (8-(i+1))
      case measure=>have:=HGK.out;omega
      case rel=>exact⟨i+1,0,ds++[v],rfl,rfl,by go_num,by omega,by omega,HDS.out,HDL.out,HST.out,HA.out,HB.out,HZ.out,HO.out,HE.out⟩
  · obtain rfl:i=8:=om
    have hlt2:¬((8:Nat):Int)<8:=om;rw[tk om,tk om]at hnum;rw[show 8-8=0 by omega,List.replicate_zero,List.append_nil]at hbO;have hld:=n8_ld hbO hds;have HZ:=qh hbZ;have HE:=qh hE;have HN:=qh hnum;have HDL:=qh hdl;have HDS:=qh hds;have HO:=qh ho;clear hbA hbB hbZ hbO hE hgk hnum hdl hds ho
    go_wp2_with (refine zab rfl 196 (.tmp 4) (.tmp 36) rfl (w.heap.size+2) (u32d ds) rr rr 196 _ HZ.out (hdN8 _ (by rw[zey,HDS.out])) (zmo _) (by rw[zey,HDS.out];rfl) ?_;intro w5 hb5 ho5;have HB5:=qh hb5;have HE5:=qh (ho5.below HE.out om HE.out.size);clear hb5 ho5)
    exact bodyPost_ret (zak rfl _ _ _ _ rfl HB5.out _ Tryz.underlying196 rfl (hdN8 _ (by rw[zey,HDS.out]))) rfl ⟨ds,o,rfl,HDS.out,HDL.out,HO.out,HN.out,HE5.out⟩
def n8(n:Nat):List Value:=u32d (dig 8 n)
theorem n8_of{l:List Nat}(hl:l.length=8)(h:∀x∈l,x<4294967296):u32d l=n8 (numL 4294967296 l):=by
 rw[n8,←hl,znw l h]
theorem zaq(n:Nat):(n8 n).length=8:=by rw[n8,zey,zch]
theorem zfx(n:Nat)(h:n<115792089237316195423570985008687907853269984665640564039457584007913129639936):numL 4294967296 (dig 8 n)=n:=by
 rw[zm9];exact Nat.mod_eq_of_lt h
theorem zl0(a b:Nat)(w:World)(ha:a<115792089237316195423570985008687907853269984665640564039457584007913129639936)(hb:b<115792089237316195423570985008687907853269984665640564039457584007913129639936):
 Calls Tryz.prog 153 #[.agg (n8 a).toArray,.agg (n8 b).toArray] w fun e w'=>e=.returned (.tuple #[.agg (n8 (if a<b then a+115792089237316195423570985008687907853269984665640564039457584007913129639936-b else a-b)).toArray,.bool (decide (a<b))])∧Below w.heap.size w w':=by
 refine(zrp (dig 8 a) (dig 8 b) w (zch _ _) (zch _ _) (zhp _ _) (zhp _ _)).mono ?_;rintro e w' ⟨os,o,rfl,hl,hlt,ho,hn,hB⟩;refine⟨?_,hB⟩;have h1:=zfn 4294967296 os hlt;rw[hl]at h1;rw[zfx a ha,zfx b hb]at hn;simp only[Nat.reducePow]at hn h1;rw[n8_of hl hlt];obtain⟨N,hN⟩:=ex9 (numL 4294967296 os);rw[←hN]at hn h1 ⊢
 rcases Nat.lt_or_ge a b with h|h
 · obtain rfl:o=1:=om
   rw[if_pos h,decide_eq_true h,show N=a+115792089237316195423570985008687907853269984665640564039457584007913129639936-b by omega];rfl
 · obtain rfl:o=0:=om
   rw[if_neg om,decide_eq_false om,show N=a-b by omega];rfl
theorem zwp(w:World):Calls Tryz.prog 172 #[] w fun e w'=>e=.returned (.agg (n8 pr).toArray)∧Below w.heap.size w w':=by
 go_enter Tryz.func172, Tryz.ntmps172
 go_wp2;refine bodyPost_ret (zam rfl _ w.heap.size 196 (n8 pr) rfl ?_ _ Tryz.underlying196 rfl (hdN8 _ (zaq _))) rfl ⟨rfl,?_⟩
 · exact Blk.new' rfl kr
 · exact(Below.refl _ w).alloc lr _
end
section
theorem za4(n:Nat):∀v∈n8 n,v.oneCell'=true:=zmo _
theorem zav{w:World}{g:Nat}{t:TypeId}{n:Nat}(h:Blk w g t (n8 n)):(ldAt 196 (.pointer (some ⟨g,0,none⟩))).run Tryz.prog w=.ok (.agg (n8 n).toArray) w:=n8_ld h (zch _ _)
theorem hdN8'(n:Nat):(Tryz.prog.info? 196).map (·.size)=some (n8 n).length:=hdN8 _ (zaq n)
attribute [local go_sem ↓] zeb
theorem zee(n:Nat)(hn:n<115792089237316195423570985008687907853269984665640564039457584007913129639936)(w:World):
 Calls Tryz.prog 151 #[.agg (n8 n).toArray] w fun e w'=>e=.returned (.agg (n8 (n%pr)).toArray)∧Below w.heap.size w w':=by
 have HB0:Hid (Blk ((w.alloc (.cells (n8 n).toArray 196)).alloc (.cells o8.toArray 196)) w.heap.size 196 (n8 n)∧Blk ((w.alloc (.cells (n8 n).toArray 196)).alloc (.cells o8.toArray 196)) (w.heap.size+1) 196 o8∧Below w.heap.size w ((w.alloc (.cells (n8 n).toArray 196)).alloc (.cells o8.toArray 196))) :=
  ⟨(Blk.new w _ _).alloc _,Blk.new' sy rfl,((Below.refl _ w).alloc lr _).alloc sy _⟩
 go_enter Tryz.func151, Tryz.ntmps151
 go_wp2
 go_loopg [] n (fun kk wr=>∃x:Nat,kk=x∧x%pr=n%pr∧x<115792089237316195423570985008687907853269984665640564039457584007913129639936∧Blk wr w.heap.size 196 (n8 x)∧Blk wr (w.heap.size+1) 196 o8∧Below w.heap.size w wr)
 case atStart=>exact⟨n,rfl,rfl,hn,HB0.out.1,HB0.out.2.1,HB0.out.2.2⟩
 case round =>
  clear HB0;obtain⟨x,hgk,hxn,hx,hA,hZ,hE⟩:=hrel;have HGK:=qh hgk;have HXN:=qh hxn;have HA:=qh hA;have HZ:=qh hZ;have HE:=qh hE;have hpr:pr<115792089237316195423570985008687907853269984665640564039457584007913129639936:=by simp[pr]
  obtain⟨D,hD⟩:=ex9 ((if x<pr then x+115792089237316195423570985008687907853269984665640564039457584007913129639936-pr else x-pr));have HM:Hid (∀W,Calls Tryz.prog 153 #[.agg (n8 x).toArray,.agg (n8 pr).toArray] W fun e w'=>e=.returned (.tuple #[.agg (n8 D).toArray,.bool (decide (x<pr))])∧Below W.heap.size W w'):=fun W=>hD ▸ zl0 x pr W hx hpr
  have HDD:=qh hD;have HXL:=qh hx;clear hA hZ hE hgk hxn hD hx hpr;go_wp2;refine zcp kr 7 (fun w'=>Below wr.heap.size wr w') ?_;have HR0:Hid (Below wr.heap.size wr { wr with drawn:=wr.drawn+1 }):=(Below.refl _ wr).drew;refine AnyK.load 0 (v:=.agg (n8 x).toArray) rfl kr kr kr (fun _ _ _ h=>h) rfl (fun w' hw'=>zad (x:=.tmp 1) rr kr (zav (HA.out.below hw' HA.out.lt))) HR0.out ?_;refine AnyG.start wr.heap.size [⟨6,3,196,o8,fun g=>.pointer (some ⟨g,0,none⟩)⟩] (fun W=>Below wr.heap.size wr W) 7 rfl HR0.out ?_
  have HFL:Hid (∀(W:World) (b:Act) (o:Oper),o.op=.alloc 196→(execOp b.eval o).run Tryz.prog W=.ok (.value (.pointer (some ⟨W.heap.size,0,none⟩))) (W.alloc (.cells o8.toArray 196))):=fun W b o ho=>by
   unfold execOp
   rw[ho]
   kernel_rfl
  refine AnyG.step 1 (di:=7) [] (fun _:Unit=>.agg (n8 pr).toArray) (fun _ W=>Below wr.heap.size wr W) rr rfl sy sy kr ?_ ?_ ga9 gs9 (fun W h=>h) (fun _ W h=>h) ?_
  · intro F W hF hR hok hrd K hK
    obtain⟨s1,rfl⟩:=zcj hF
    rcases s1 with _|k1 <;>
      (refine za9 (f:=172) (args:=#[]) kr ?_;refine(zwp W).mono ?_;rintro e w' ⟨rfl,hB⟩;exact⟨_,rfl,hK () _ (hR.trans (hB.mono hR.size)) hB⟩)
  · exact flt1 ⟨_,rfl,rfl,rfl,fun F W _=>HFL.out _ _ _ rfl⟩
  intro _;refine AnyG.step 2 (di:=8) [] (fun _:Unit=>.tuple #[.agg (n8 D).toArray,.bool (decide (x<pr))]) (fun _ W=>Below wr.heap.size wr W) rr rfl sy sy kr ?_ ?_ ga9 gs9 (fun W h=>h) (fun _ W h=>h) ?_
  · intro F W hF hR hok hrd K hK
    obtain⟨s1,rfl⟩:=zcj hF
    rcases s1 with _|k1 <;>
      (refine za9 (f:=153) (args:=#[.agg (n8 x).toArray,.agg (n8 pr).toArray]) kr ?_;refine(HM.out W).mono ?_;rintro e w' ⟨rfl,hB⟩;exact⟨_,rfl,hK () _ (hR.trans (hB.mono hR.size)) hB⟩)
  · exact flt1 ⟨_,rfl,rfl,rfl,fun F W _=>HFL.out _ _ _ rfl⟩
  intro _;refine AnyG.pure 3 (di:=5) (v:=.tuple #[.agg (n8 D).toArray,.bool (decide (x<pr))]) rfl rfl rfl sy kr (fun _ _ _ h=>h) (fun F W hF=>by obtain⟨s1,rfl⟩:=zcj hF;rcases s1 with _|k1 <;> kernel_rfl) (fun W h=>h) ?_;refine AnyG.pure 4 (di:=9) (v:=.agg (n8 D).toArray) rfl rfl rfl sy kr (fun _ _ _ h=>h) (fun F W hF=>by obtain⟨s1,rfl⟩:=zcj hF;rcases s1 with _|k1 <;> kernel_rfl) (fun W h=>h) ?_;refine AnyG.pure 5 (di:=10) (v:=.bool (decide (x<pr))) rfl rfl rfl sy kr (fun _ _ _ h=>h) (fun F W hF=>by obtain⟨s1,rfl⟩:=zcj hF;rcases s1 with _|k1 <;> kernel_rfl) (fun W h=>h) ?_;refine AnyG.fin sy kr ?_ ga9 gs9 (fun W h=>h) ?_
  · exact flt1 ⟨_,rfl,rfl,rfl,fun F W _=>HFL.out _ _ _ rfl⟩
  intro F W hF h0 hR hok;obtain⟨gl,rfl⟩:=zhl hF h0;obtain⟨⟨hga,hba,_⟩,_⟩:=hok;refine AnyK.storeAll 7 gl (n8 D) 196 o8 rr rfl rfl rr kr kr kr hba (by exact hdN8' _) (za4 _) (by rw[zaq];rfl) (fun _ _ _ h=>(by cases h)) ?_;intro w5 hb5 ho5;have hB5:=ho5.below hR hga hR.size;refine AnyK.val 8 (v:=.bool (decide (x<pr))) rr kr rfl kr (fun h=>(by cases h)) ?_;refine AnyK.done kr ?_;have HD5:=qh hb5;have HA5:=qbl HA hB5;have HZ5:=qbl HZ hB5;have HE5:=qtr HE hB5;have HG:Hid (w.heap.size≠gl∧w.heap.size+1≠gl∧w.heap.size≤gl):=(by have:=HZ.out.lt;show _∧_∧_;omega);clear hb5 ho5 hB5 hR hga hba hF h0 HFL HR0 HA HZ HE HM;simp only[putF];have hl1:=zav HA5.out;have hl3:=zav HD5.out
  rcases Nat.lt_or_ge x pr with hc|hc
  · have hd1:decide (x<pr)=true:=decide_eq_true hc
    have HC:=qh hc;clear hc hl3
    go_wp2_with (refine zab rfl 196 (.tmp 2) (.tmp 12) rfl (w.heap.size+1) (n8 x) rr rr 196 _ HZ5.out (by exact hdN8' _) (za4 _) (by rw[zaq];rfl) ?_;intro w6 hb6 ho6;have HB6:=qh hb6;have HE6:=qh (ho6.below HE5.out om HE5.out.size);clear hb6 ho6)
    exact bodyPost_ret (zam rfl _ _ _ _ rfl HB6.out _ Tryz.underlying196 rfl (by exact hdN8' _)) rfl ⟨by rw[←HXN.out,Nat.mod_eq_of_lt HC.out],HE6.out⟩
  · have hd1:decide (x<pr)=false:=decide_eq_false om
    have HDX:Hid (D=x-pr):=(by show _=_;rw[HDD.out,if_neg om]);have HC:=qh hc;clear hc hl1
    go_wp2_with (refine zab rfl 196 (.tmp 1) (.tmp 13) rfl w.heap.size (n8 D) rr rr 196 _ HA5.out (by exact hdN8' _) (za4 _) (by rw[zaq,zaq]) ?_;intro w6 hb6 ho6;have HB6:=qh hb6;have HZ6:=qh (ho6.blk HZ5.out om);have HE6:=qh (ho6.below HE5.out om HE5.out.size);clear hb6 ho6)
    go_roundg D
    case measure=>have h1:=HGK.out;have h2:=HDX.out;have h3:=HC.out;have h4:=zvb;omega
    case rel=>exact⟨D,rfl,by rw[HDX.out,←HXN.out];exact(Nat.mod_eq_sub_mod HC.out).symm,by have h1:=HXL.out;have h2:=HDX.out;omega,HB6.out,HZ6.out,HE6.out⟩
end
section
theorem zm8(B:Nat)(hB:0<B):∀(l:List Nat) (j:Nat),0<l.getD j 0→0<numL B l
 | [],j,h=>by simp at h
 | x :: xs,0,h=>by simp at h;simp only[numL];omega
 | x :: xs,j+1,h=>by
  have ih:=zm8 B hB xs j (by simpa using h);have:0<B*numL B xs:=Nat.mul_pos hB ih;simp only[numL];omega
theorem zkt(B:Nat):∀(l:List Nat),(∀j,l.getD j 0=0)→numL B l=0
 | [],_=>rfl
 | x :: xs,h=>by
  have h0:=h 0;have ih:=zkt B xs fun j=>by have:=h (j+1);simpa using this
  simp at h0
  simp only[numL,ih,h0];simp
theorem zhk(l:List Nat)(k j:Nat):(l.drop k).getD j 0=l.getD (k+j) 0:=by simp[List.getD_eq_getElem?_getD,List.getElem?_drop]
attribute [local go_sem ↓] zjq zeb
theorem zuj(ws:List Nat)(w:World)(hl:ws.length=17):
 Calls Tryz.prog 173 #[.agg (u64l ws).toArray] w fun e w'=>e=.returned (.bool (decide (0<numL 4294967296 (ws.drop 8))))∧Below w.heap.size w w':=by
 have HB0:Hid (Blk (w.alloc (.cells (u64l ws).toArray 229)) w.heap.size 229 (u64l ws)∧Below w.heap.size w (w.alloc (.cells (u64l ws).toArray 229))):=⟨Blk.new _ _ _,(Below.refl _ w).alloc lr _⟩;have HN:Hid (∀j,8≤j→0<ws.getD j 0→0<numL 4294967296 (ws.drop 8)):=fun j h8 h=>zm8 _ om _ (j-8) (by rw[zhk,show 8+(j-8)=j by omega];exact h)
 have HO:Hid ((∀j,8≤j→j<17→ws.getD j 0=0)→numL 4294967296 (ws.drop 8)=0):=fun h=>zkt _ _ fun j=>by
  rw[zhk]
  rcases Nat.lt_or_ge (8+j) 17 with h1|h1
  · exact h _ om h1
  · rw[gd9,List.getElem?_eq_none om];rfl
 generalize numL 4294967296 (ws.drop 8)=H at *
 go_enter Tryz.func173, Tryz.ntmps173
 go_wp2
 go_loopg [3] 9 (fun kk q wr=>∃i:Nat,kk=17-i∧q=.int .i64 (i:Int)∧8≤i∧i≤17∧(∀j,8≤j→j<i→ws.getD j 0=0)∧Blk wr w.heap.size 229 (u64l ws)∧Below w.heap.size w wr)
 case atStart=>exact⟨8,rfl,rfl,by omega,by omega,by intro j h1 h2;omega,HB0.out.1,HB0.out.2⟩
 case round =>
  clear HB0;obtain⟨i,hgk,rfl,h8,h17,hz,hA,hE⟩:=hrel
  rcases Nat.lt_or_ge i 17 with hlt|hge
  · have hlt2:(i:Int)<17:=om
    obtain⟨x,hx⟩:=ex9 (ws.getD i 0);have cx:wr.cell? ⟨w.heap.size,i,none⟩=some (.int .u64 (x:Int)):=(hA.cell i).trans (hx ▸ zbo om);have HZ:=qh hz;have HX:=qh hx;have HA:=qh hA;have HE:=qh hE;have HGK:=qh hgk;have H8:=qh h8;clear hz hx hA hE hgk
    rcases Nat.eq_zero_or_pos x with h0|h0
    · subst h0
      go_wp2;go_roundg (17-(i+1))
      case measure=>have:=HGK.out;omega
      case rel=>exact⟨i+1,rfl,by go_num,by omega,by omega,by
       intro j h1 h2
       rcases Nat.lt_or_ge j i with h3|h3
       · exact HZ.out j h1 h3
       · obtain rfl:j=i:=om
         exact HX.out.symm,HA.out,HE.out⟩
    · have h0i:(0:Int)<(x:Int):=om
      have HP:Hid (0<H):=(by show _<_;exact HN.out i h8 (by rw[←HX.out];exact h0));clear h0;go_wp2;go_ret;exact⟨by rw[decide_eq_true HP.out];rfl,HE.out⟩
  · obtain rfl:i=17:=om
    have hlt2:¬((17:Nat):Int)<17:=om;have HP:Hid (H=0):=HO.out hz;have HE:=qh hE;clear hz hA hE hgk;go_wp2;go_ret;exact⟨by rw[decide_eq_false (by rw[HP.out];omega)];rfl,HE.out⟩
end
section
theorem zxg(d c B P t o q L H x y:Nat)(h:d+c*P=L+38*H)(hs:t=c+x+38*y)(ht:t=o+B*q):d+o*P+q*(P*B)=L+x*P+38*(H+y*P):=by
 have h1:t*P=c*P+x*P+38*y*P:=by rw[hs,Nat.add_mul,Nat.add_mul]
 have h2:t*P=o*P+B*q*P:=by rw[ht,Nat.add_mul]
 have h3:q*(P*B)=B*q*P:=by grind
 have h4:38*(H+y*P)=38*H+38*y*P:=by grind
 omega
theorem zvm(ws:List Nat)(hl:ws.length=17):numL 4294967296 ws=numL 4294967296 (ws.take 8)+115792089237316195423570985008687907853269984665640564039457584007913129639936*numL 4294967296 (ws.drop 8):=ze9 4294967296 ws 8 om
theorem pad17(ds:List Nat)(c:Nat)(hd:ds.length=9):(ds++List.replicate (17-9) 0).set 9 c=(ds++[c])++List.replicate 7 0:=zeu ds 9 17 c hd om
theorem zjg(B:Nat):∀(l:List Nat) (n:Nat),numL B (l++List.replicate n 0)=numL B l
 | [],n=>by rw[List.nil_append];exact zg9 B n
 | x :: l,n=>by rw[List.cons_append,numL,numL,zjg B l n]
theorem zvc{l:List Nat}{B n:Nat}(hB:0<B)(h:∀y∈l,y<B):∀y∈l++List.replicate n 0,y<B:=by
 intro y hy
 rcases List.mem_append.1 hy with hy|hy
 · exact h y hy
 · rw[List.eq_of_mem_replicate hy];exact hB
theorem zun(L H V W:Nat)(hW:W=L+115792089237316195423570985008687907853269984665640564039457584007913129639936*H)(hV:V=L+38*H):V%pr=W%pr:=by
 rw[hW,hV,show L+115792089237316195423570985008687907853269984665640564039457584007913129639936*H=L+38*H+pr*(2*H) by simp only[pr];omega,Nat.add_mul_mod_self_left]
attribute [local go_sem ↓] zjq zeb
theorem zis(ws:List Nat)(w:World)(hl:ws.length=17)(hlt:∀x∈ws,x<4294967296):
 Calls Tryz.prog 152 #[.agg (u64l ws).toArray] w fun e w'=>e=.returned (.agg (n8 (numL 4294967296 ws%pr)).toArray)∧Below w.heap.size w w':=by
 have HB0:Hid (Blk ((w.alloc (.cells (u64l ws).toArray 229)).alloc (.cells o8.toArray 196)) w.heap.size 229 (u64l ws)∧Blk ((w.alloc (.cells (u64l ws).toArray 229)).alloc (.cells o8.toArray 196)) (w.heap.size+1) 196 o8∧Below w.heap.size w ((w.alloc (.cells (u64l ws).toArray 229)).alloc (.cells o8.toArray 196))) :=
  ⟨(Blk.new w _ _).alloc _,Blk.new' sy rfl,((Below.refl _ w).alloc lr _).alloc sy _⟩
 obtain⟨W0,hW0⟩:=ex9 (numL 4294967296 ws);have HW0:=qh hW0;rw[←hW0];clear hW0
 go_enter Tryz.func152, Tryz.ntmps152
 go_wp2
 go_loopg [] W0 (fun kk wr=>∃vs:List Nat,kk=numL 4294967296 vs∧vs.length=17∧(∀x∈vs,x<4294967296)∧numL 4294967296 vs%pr=W0%pr∧Blk wr w.heap.size 229 (u64l vs)∧Blk wr (w.heap.size+1) 196 o8∧Below w.heap.size w wr)
 case atStart=>exact⟨ws,HW0.out,hl,hlt,by rw[←HW0.out],HB0.out.1,HB0.out.2.1,HB0.out.2.2⟩
 case round =>
  clear HB0 HW0 hl hlt;obtain⟨vs,hgk,hvl,hvlt,hvm,hA,hZ,hE⟩:=hrel;have HGK:=qh hgk;have HVM:=qh hvm;have HVS:=qh (zvm vs hvl);have hld:=zmm hA hvl;have HHI:=qh (fun W=>zuj vs W hvl)
  have HL8:Hid (numL 4294967296 (vs.take 8)<115792089237316195423570985008687907853269984665640564039457584007913129639936):=by
   have h:=zfn 4294967296 (vs.take 8) (fun x hx=>hvlt x (List.mem_of_mem_take hx));rw[List.length_take,hvl]at h;exact h
  have HVL:=qh hvl;have HLT:=qh hvlt;have HA:=qh hA;have HZ:=qh hZ;have HE:=qh hE;clear hA hZ hE hgk hvm hvl hvlt;obtain⟨H,hH⟩:=ex9 (numL 4294967296 (vs.drop 8));rw[←hH]at HHI HVS;have HHD:=qh hH;clear hH
  rcases Nat.eq_zero_or_pos H with h0|h0
  · have hd:decide (0<H)=false:=decide_eq_false om
    have H0:=qh h0;clear h0
    go_upto_region 16 with (go_at_call 173;(with_reducible refine(HHI.out _).mono ?_);rintro e w3 ⟨rfl,hB⟩;have HA3:=qbl HA hB;have HZ3:=qbl HZ hB;have HE3:=qtr HE hB;clear hB)
    have HO3:Hid (Blk (w3.alloc (.cells o8.toArray 196)) w3.heap.size 196 (u32d (vs.take 0++List.replicate (8-0) 0))):=Blk.new' rfl rfl;have HA4:=qh (HA3.out.alloc (.cells o8.toArray 196));have HZ4:=qh (HZ3.out.alloc (.cells o8.toArray 196));have HE4:=qh (HE3.out.alloc HE3.out.size (.cells o8.toArray 196));have HG:Hid (w.heap.size<w3.heap.size∧w.heap.size+1<w3.heap.size):=⟨HA3.out.lt,HZ3.out.lt⟩;clear HA HZ HE HA3 HZ3 HE3 hld hd HHI;go_wp2
    go_loopg [7] 8 (fun kk q wr=>∃i:Nat,kk=8-i∧q=.int .i64 (i:Int)∧i≤8∧Blk wr w.heap.size 229 (u64l vs)∧Blk wr (w.heap.size+1) 196 o8∧Blk wr w3.heap.size 196 (u32d (vs.take i++List.replicate (8-i) 0))∧Below w.heap.size w wr)
    case atStart=>exact⟨0,rfl,rfl,by omega,HA4.out,HZ4.out,HO3.out,HE4.out⟩
    case round =>
     clear HA4 HZ4 HE4 HO3;obtain⟨i,hgk2,rfl,hi,hA,hZ,hO,hE⟩:=hrel
     rcases Nat.lt_or_ge i 8 with hlt|hge
     · have hlt2:(i:Int)<8:=om
       have hvl:=HVL.out;obtain⟨x,hx⟩:=ex9 (vs.getD i 0);have hx32:x<4294967296:=by rw[hx];exact za8 om HLT.out i
       have cx:wr.cell? ⟨w.heap.size,i,none⟩=some (.int .u64 (x:Int)):=(hA.cell i).trans (hx ▸ zbo om);have cz:wr.cell? ⟨w3.heap.size,i,none⟩=some (.int .u32 (((vs.take i++List.replicate (8-i) 0).getD i 0:Nat):Int)):=(hO.cell i).trans (zb7 (by simp;omega));have fz:wr.frozen? ⟨w3.heap.size,i,none⟩=false:=hO.frozen i;have hxm:(x:Int)%4294967296=(x:Int):=om;have HAx:=qh (hA.far (p:=⟨w3.heap.size,i,none⟩) (by have:=HG.out.1;show w.heap.size≠w3.heap.size;omega) (.int .u32 (x:Int)));have HZx:=qh (hZ.far (p:=⟨w3.heap.size,i,none⟩) (by have:=HG.out.2;show w.heap.size+1≠w3.heap.size;omega) (.int .u32 (x:Int)))
       have HOx:Hid (Blk (wr.setCell ⟨w3.heap.size,i,none⟩ (.int .u32 (x:Int))) w3.heap.size 196 (u32d (vs.take (i+1)++List.replicate (8-(i+1)) 0))):=by
        have h1:=hO.set_ i (.int .u32 (x:Int));rw[zf7,zeu (vs.take i) i 8 x (by rw[List.length_take];omega) hlt]at h1;rw[show vs.take (i+1)=vs.take i++[x] by rw[List.take_add_one,hx,gd9,ge9 om];rfl];exact h1
       have HEx:=qh (hE.setCell (p:=⟨w3.heap.size,i,none⟩) (by have:=HG.out.1;show w.heap.size≤w3.heap.size;omega) (.int .u32 (x:Int)));have HGK2:=qh hgk2;clear hA hZ hO hE hgk2 hx hvl;go_wp2;go_roundg (8-(i+1))
       case measure=>have:=HGK2.out;omega
       case rel=>exact⟨i+1,rfl,by go_num,by omega,HAx.out,HZx.out,HOx.out,HEx.out⟩
     · obtain rfl:i=8:=om
       have hlt2:¬((8:Nat):Int)<8:=om;rw[show 8-8=0 by omega,List.replicate_zero,List.append_nil]at hO;have hl8:(vs.take 8).length=8:=by rw[List.length_take,HVL.out];rfl
       rw[n8_of hl8 (fun x hx=>HLT.out x (List.mem_of_mem_take hx))]at hO;obtain⟨L,hL⟩:=ex9 (numL 4294967296 (vs.take 8));have HLL:Hid (L%pr=W0%pr):=(by show _=_;rw[←HVM.out,HVS.out,H0.out,hL,Nat.mul_zero,Nat.add_zero]);have hL8:=HL8.out;rw[←hL]at hO hL8;have HNO:=qh (fun W=>zee L hL8 W);have hld:=zav hO;have HZx:=qh hZ;have HEx:=qh hE;clear hA hZ hO hE hgk2 hL hL8 hl8
       go_wp2_with (first
        | (go_at_call 151;(with_reducible refine(HNO.out _).mono ?_);rintro e w5 ⟨rfl,hB⟩;have HZ5:=qbl HZx hB;have HE5:=qtr HEx hB;clear hB)
        | (refine zab rfl 196 (.tmp 2) (.tmp 48) rfl (w.heap.size+1) (n8 (L%pr)) rr rr 196 _ HZ5.out (by exact hdN8' _) (za4 _) (by rw[zaq];rfl) ?_;intro w6 hb6 ho6;have HB6:=qh hb6;have HE6:=qh (ho6.below HE5.out om HE5.out.size);clear hb6 ho6))
       exact bodyPost_ret (zam rfl _ _ _ _ rfl HB6.out _ Tryz.underlying196 rfl (by exact hdN8' _)) rfl ⟨by rw[HLL.out],HE6.out⟩
  · have hd:decide (0<H)=true:=decide_eq_true h0
    have H0:=qh h0;clear h0
    go_upto_region 5 with (go_at_call 173;(with_reducible refine(HHI.out _).mono ?_);rintro e w3 ⟨rfl,hB⟩;have HA3:=qbl HA hB;have HZ3:=qbl HZ hB;have HE3:=qtr HE hB;clear hB)
    have HO3:Hid (Blk (w3.alloc (.cells o17.toArray 229)) w3.heap.size 229 (u64l ([]++List.replicate (17-0) 0))):=Blk.new' rfl rfl;have HA4:=qh (HA3.out.alloc (.cells o17.toArray 229));have HZ4:=qh (HZ3.out.alloc (.cells o17.toArray 229));have HE4:=qh (HE3.out.alloc HE3.out.size (.cells o17.toArray 229));have HG:Hid (w.heap.size<w3.heap.size∧w.heap.size+1<w3.heap.size):=⟨HA3.out.lt,HZ3.out.lt⟩;clear HA HZ HE HA3 HZ3 HE3 hld hd HHI;go_wp2
    go_loopg [4,5] 9 (fun kk qc q wr=>∃(i c:Nat) (ds:List Nat),kk=9-i∧qc=.int .u64 (c:Int)∧q=.int .i64 (i:Int)∧i≤9∧c≤40∧ds.length=i∧(∀x∈ds,x<4294967296)∧numL 4294967296 ds+c*4294967296^i=numL 4294967296 ((vs.take 8).take i)+38*numL 4294967296 ((vs.drop 8).take i)∧Blk wr w.heap.size 229 (u64l vs)∧Blk wr (w.heap.size+1) 196 o8∧Blk wr w3.heap.size 229 (u64l (ds++List.replicate (17-i) 0))∧Below w.heap.size w wr)
    case atStart=>exact⟨0,0,[],rfl,rfl,rfl,by omega,by omega,rfl,by simp,by simp[numL],HA4.out,HZ4.out,HO3.out,HE4.out⟩
    case round =>
     clear HA4 HZ4 HE4 HO3;obtain⟨i,c,ds,hgk2,rfl,rfl,hi,hc,hds,hdl,hnum,hA,hZ,hO,hE⟩:=hrel;have hvl:=HVL.out
     rcases Nat.lt_or_ge i 9 with hlt|hge
     · have hlt2:(i:Int)<9:=om
       obtain⟨y,hy⟩:=ex9 (vs.getD (i+8) 0);obtain⟨x,hx⟩:=ex9 ((vs.take 8).getD i 0);have hy32:y<4294967296:=by rw[hy];exact za8 om HLT.out _
       have hx32:x<4294967296:=by rw[hx];exact za8 om (fun z hz=>HLT.out z (List.mem_of_mem_take hz)) _
       have cy:wr.cell? ⟨w.heap.size,i+8,none⟩=some (.int .u64 (y:Int)):=(hA.cell (i+8)).trans (hy ▸ zbo om);have cz:wr.cell? ⟨w3.heap.size,i,none⟩=some (.int .u64 (((ds++List.replicate (17-i) 0).getD i 0:Nat):Int)):=(hO.cell i).trans (zbo (by simp;omega));have fz:wr.frozen? ⟨w3.heap.size,i,none⟩=false:=hO.frozen i;obtain⟨t,ht⟩:=ex9 (c+x+38*y);obtain⟨o,ho⟩:=ex9 (t%4294967296);obtain⟨q,hq⟩:=ex9 (t/4294967296);have ho32:o<4294967296:=by rw[ho];exact Nat.mod_lt _ om
       have hoi:(t:Int)%4294967296=(o:Int):=om;have hqi:(t:Int)/4294967296=(q:Int):=om;have htl:(t:Int)<18446744073709551616:=om;have HQ:Hid (q≤40):=(by show _≤_;omega)
       have HST:Hid (numL 4294967296 (ds++[o])+q*4294967296^(i+1)=numL 4294967296 ((vs.take 8).take (i+1))+38*numL 4294967296 ((vs.drop 8).take (i+1))):=by
        show _=_
        have e2:numL 4294967296 ((vs.drop 8).take (i+1))=numL 4294967296 ((vs.drop 8).take i)+y*4294967296^i:=by
         rw[zbp _ (vs.drop 8) i (by simp;omega),zhk,hy,Nat.add_comm 8 i]
        have e1:numL 4294967296 ((vs.take 8).take (i+1))=numL 4294967296 ((vs.take 8).take i)+x*4294967296^i:=by
         rcases Nat.lt_or_ge i 8 with h8|h8
         · rw[zbp _ (vs.take 8) i (by simp;omega),hx]
         · have f1:(vs.take 8).take (i+1)=vs.take 8:=tk (by rw[List.length_take];omega)
           have f0:(vs.take 8).take i=vs.take 8:=tk (by rw[List.length_take];omega);have fx:x=0:=by rw[hx,gd9,List.getElem?_eq_none (by rw[List.length_take];omega)];rfl
           rw[f1,f0,fx,Nat.zero_mul,Nat.add_zero]
        rw[zdf,hds,e1,e2,Nat.pow_succ];exact zxg _ c 4294967296 _ t o q _ _ x y hnum ht om
       have HDL:=qh (zfk hdl ho32);have HDS:Hid ((ds++[o]).length=i+1):=by show _=_;simp[hds]
       have HAx:=qh (hA.far (p:=⟨w3.heap.size,i,none⟩) (by have:=HG.out.1;show w.heap.size≠w3.heap.size;omega) (.int .u64 (o:Int)));have HZx:=qh (hZ.far (p:=⟨w3.heap.size,i,none⟩) (by have:=HG.out.2;show w.heap.size+1≠w3.heap.size;omega) (.int .u64 (o:Int)))
       have HOx:Hid (Blk (wr.setCell ⟨w3.heap.size,i,none⟩ (.int .u64 (o:Int))) w3.heap.size 229 (u64l ((ds++[o])++List.replicate (17-(i+1)) 0))):=by
        have h1:=hO.set_ i (.int .u64 (o:Int));rw[zdi,zeu ds i 17 o hds om]at h1;exact h1
       have HEx:=qh (hE.setCell (p:=⟨w3.heap.size,i,none⟩) (by have:=HG.out.1;show w.heap.size≤w3.heap.size;omega) (.int .u64 (o:Int)));have HGK2:=qh hgk2
       rcases Nat.lt_or_ge i 8 with h8|h8
       · have h8i:(i:Int)<8:=om
         have cx:wr.cell? ⟨w.heap.size,i,none⟩=some (.int .u64 (x:Int)):=(hA.cell i).trans ((zbo om).trans (by rw[hx];simp[List.getD_eq_getElem?_getD,h8]));obtain⟨t1,ht1⟩:=ex9 (c+x);obtain⟨m,hm⟩:=ex9 (38*y);have ht1i:(c:Int)+(x:Int)=(t1:Int):=om;have hmi:(38:Int)*(y:Int)=(m:Int):=om;have htmi:(t1:Int)+(m:Int)=(t:Int):=om;have ht1l:(t1:Int)<18446744073709551616:=om;have hml:(m:Int)<18446744073709551616:=om;clear hA hZ hO hE hgk2 hx hy hvl ht ho hq ht1 hm hnum hds hdl;go_wp2;go_roundg (9-(i+1))
         case measure=>have:=HGK2.out;omega
         case rel=>exact⟨i+1,q,ds++[o],rfl,rfl,by go_num,by omega,HQ.out,HDS.out,HDL.out,HST.out,HAx.out,HZx.out,HOx.out,HEx.out⟩
       · have h8i:¬(i:Int)<8:=om
         have hx0:x=0:=by rw[hx,gd9,List.getElem?_eq_none (by simp;omega)];rfl
         obtain⟨m,hm⟩:=ex9 (38*y);have hmi:(38:Int)*(y:Int)=(m:Int):=om;have htmi:(c:Int)+(m:Int)=(t:Int):=om;have hml:(m:Int)<18446744073709551616:=om;clear hA hZ hO hE hgk2 hx hy hvl ht ho hq hm hnum hds hdl hx0;go_wp2;go_roundg (9-(i+1))
         case measure=>have:=HGK2.out;omega
         case rel=>exact⟨i+1,q,ds++[o],rfl,rfl,by go_num,by omega,HQ.out,HDS.out,HDL.out,HST.out,HAx.out,HZx.out,HOx.out,HEx.out⟩
     · obtain rfl:i=9:=om
       have hlt2:¬((9:Nat):Int)<9:=om;have cz:wr.cell? ⟨w3.heap.size,9,none⟩=some (.int .u64 (((ds++List.replicate (17-9) 0).getD 9 0:Nat):Int)):=(hO.cell 9).trans (zbo (by simp;omega));have fz:wr.frozen? ⟨w3.heap.size,9,none⟩=false:=hO.frozen 9;rw[tk (l:=vs.take 8) (by simp;omega),tk (l:=vs.drop 8) (by simp;omega),←HHD.out]at hnum;obtain⟨us,hus⟩:=ex9 ((ds++[c])++List.replicate 7 0);have HUN:Hid (numL 4294967296 us=numL 4294967296 (vs.take 8)+38*H):=(by show _=_;rw[hus,zjg,zdf,hds,hnum]);have HUL:Hid (us.length=17):=(by show _=_;rw[hus];simp[hds]);have HUT:Hid (∀x∈us,x<4294967296):=(by show ∀x∈us,_;rw[hus];exact zvc om (zfk hdl om))
       have HOx:Hid (Blk (wr.setCell ⟨w3.heap.size,9,none⟩ (.int .u64 (c:Int))) w3.heap.size 229 (u64l us)):=by
        have h1:=hO.set_ 9 (.int .u64 (c:Int));rw[zdi,pad17 ds c hds,←hus]at h1;exact h1
       have HAx:=qh (hA.far (p:=⟨w3.heap.size,9,none⟩) (by have:=HG.out.1;show w.heap.size≠w3.heap.size;omega) (.int .u64 (c:Int)));have HZx:=qh (hZ.far (p:=⟨w3.heap.size,9,none⟩) (by have:=HG.out.2;show w.heap.size+1≠w3.heap.size;omega) (.int .u64 (c:Int)));have HEx:=qh (hE.setCell (p:=⟨w3.heap.size,9,none⟩) (by have:=HG.out.1;show w.heap.size≤w3.heap.size;omega) (.int .u64 (c:Int)));have hld:=zmm HOx.out HUL.out;clear hA hZ hO hE hgk2 hvl hnum hds hdl hus
       go_wp2_with (refine zab rfl 229 (.tmp 1) (.tmp 36) rfl w.heap.size (u64l us) rr rr 229 _ HAx.out (by exact hdW17 _ (by rw[zf6,HUL.out])) (zs0 _) (by rw[zf6,zf6,HUL.out,HVL.out]) ?_;intro w6 hb6 ho6;have HB6:=qh hb6;have HZ6:=qh (ho6.blk HZx.out om);have HE6:=qh (ho6.below HEx.out om HEx.out.size);clear hb6 ho6)
       go_roundg (numL 4294967296 us)
       case measure=>have h1:=HGK.out;have h2:=HUN.out;have h3:=HVS.out;have h4:=H0.out;omega
       case rel=>exact⟨us,rfl,HUL.out,HUT.out,(zun _ H _ _ HVS.out HUN.out).trans HVM.out,HB6.out,HZ6.out,HE6.out⟩
end
section
theorem szU32r(w:World):(sizeOf 44).run Tryz.prog w=.ok 1 w:=by kernel_rfl
theorem agU32r(w:World):(isAgg 44).run Tryz.prog w=.ok false w:=by kernel_rfl
theorem wrap64(n:Nat)(h:n<18446744073709551616)(z:Int)(hz:z=(n:Int)):IntKind.u64.wrap z=(n:Int):=by
 rw[IntKind.wrap_u64];omega
theorem zwm(d c P t o q L H x y:Nat)(h:d+c*P=L+H)(hs:t=c+x+y)(ht:t=o+4294967296*q):d+o*P+q*(P*4294967296)=L+x*P+(H+y*P):=by
 have h1:t*P=c*P+x*P+y*P:=by rw[hs,Nat.add_mul,Nat.add_mul]
 have h2:t*P=o*P+4294967296*q*P:=by rw[ht,Nat.add_mul]
 have h3:q*(P*4294967296)=4294967296*q*P:=by grind
 omega
attribute [local go_sem ↓] zjq zeb
theorem radd_n(a b:Nat)(w:World)(ha:a<115792089237316195423570985008687907853269984665640564039457584007913129639936)(hb:b<115792089237316195423570985008687907853269984665640564039457584007913129639936):
 Calls Tryz.prog 120 #[.agg (n8 a).toArray,.agg (n8 b).toArray] w fun e w'=>e=.returned (.agg (n8 ((a+b)%pr)).toArray)∧Below w.heap.size w w':=by
 obtain⟨xa,hxa⟩:=ex9 (dig 8 a);obtain⟨xb,hxb⟩:=ex9 (dig 8 b);have HAN:Hid (numL 4294967296 xa=a):=(by show _=_;rw[hxa,zfx a ha]);have HBN:Hid (numL 4294967296 xb=b):=(by show _=_;rw[hxb,zfx b hb]);have HLA:Hid (xa.length=8∧∀x∈xa,x<4294967296):=(by rw[hxa];exact⟨zch _ _,zhp _ _⟩);have HLB:Hid (xb.length=8∧∀x∈xb,x<4294967296):=(by rw[hxb];exact⟨zch _ _,zhp _ _⟩);rw[n8,n8,←hxa,←hxb];clear hxa hxb ha hb;obtain⟨W1,hW1⟩:=ex9 ((((w.alloc (.cells (u32d xa).toArray 196)).alloc (.cells (u32d xb).toArray 196)).alloc (.cells o8.toArray 196)).alloc (.cells o17.toArray 229))
 have HM0:Hid (Blk W1 w.heap.size 196 (u32d xa)∧Blk W1 (w.heap.size+1) 196 (u32d xb)∧Blk W1 (w.heap.size+2) 196 o8∧Blk W1 (w.heap.size+3) 229 (u64l ([]++List.replicate (17-0) 0))∧Below w.heap.size w W1) :=
  hW1 ▸ ⟨(((Blk.new w _ _).alloc _).alloc _).alloc _,((Blk.new' sy rfl).alloc _).alloc _,(Blk.new' sy rfl).alloc _,Blk.new' sy rfl,((((Below.refl _ w).alloc lr _).alloc sy _).alloc (by simp <;> omega) _).alloc (by simp <;> omega) _⟩
 go_enter Tryz.func120, Tryz.ntmps120
 go_wp2
 go_loopg [6,7] 8 (fun kk qc q wr=>∃(i c:Nat) (ds:List Nat),kk=8-i∧qc=.int .u64 (c:Int)∧q=.int .i64 (i:Int)∧i≤8∧c≤1∧ds.length=i∧(∀x∈ds,x<4294967296)∧numL 4294967296 ds+c*4294967296^i=numL 4294967296 (xa.take i)+numL 4294967296 (xb.take i)∧Blk wr w.heap.size 196 (u32d xa)∧Blk wr (w.heap.size+1) 196 (u32d xb)∧Blk wr (w.heap.size+2) 196 o8∧Blk wr (w.heap.size+3) 229 (u64l (ds++List.replicate (17-i) 0))∧Below w.heap.size w wr)
 case atStart=>exact⟨0,0,[],rfl,rfl,rfl,by omega,by omega,rfl,by simp,by simp[numL],hW1 ▸ HM0.out⟩
 case round =>
  clear HM0 hW1;obtain⟨i,c,ds,hgk,rfl,rfl,hi,hc,hds,hdl,hnum,hA,hB,hZ,hO,hE⟩:=hrel
  rcases Nat.lt_or_ge i 8 with hlt|hge
  · have hlt2:(i:Int)<8:=om
    obtain⟨x,hx⟩:=ex9 (xa.getD i 0);obtain⟨y,hy⟩:=ex9 (xb.getD i 0);have hx32:x<4294967296:=by rw[hx];exact za8 om HLA.out.2 i
    have hy32:y<4294967296:=by rw[hy];exact za8 om HLB.out.2 i
    have cx:wr.cell? ⟨w.heap.size,i,none⟩=some (.int .u32 (x:Int)):=(hA.cell i).trans (hx ▸ zb7 (by have:=HLA.out.1;omega));have cy:wr.cell? ⟨w.heap.size+1,i,none⟩=some (.int .u32 (y:Int)):=(hB.cell i).trans (hy ▸ zb7 (by have:=HLB.out.1;omega));have cz:wr.drew.cell? ⟨w.heap.size+3,i,none⟩=some (.int .u64 (((ds++List.replicate (17-i) 0).getD i 0:Nat):Int)):=(hO.drew.cell i).trans (zbo (by simp;omega));have fz:wr.drew.frozen? ⟨w.heap.size+3,i,none⟩=false:=hO.drew.frozen i;obtain⟨t,ht⟩:=ex9 (c+x+y);obtain⟨o,ho⟩:=ex9 (t%4294967296);obtain⟨q,hq⟩:=ex9 (t/4294967296);have ho32:o<4294967296:=by rw[ho];exact Nat.mod_lt _ om
    have hoi:(t:Int)%4294967296=(o:Int):=om;have hqi:(t:Int)/4294967296=(q:Int):=om;have HQ:Hid (q≤1):=(by show _≤_;omega)
    have HST:Hid (numL 4294967296 (ds++[o])+q*4294967296^(i+1)=numL 4294967296 (xa.take (i+1))+numL 4294967296 (xb.take (i+1))):=by
     show _=_
     rw[zdf,hds,zbp _ xa i (by have:=HLA.out.1;omega),zbp _ xb i (by have:=HLB.out.1;omega),←hx,←hy,Nat.pow_succ];exact zwm _ c _ t o q _ _ x y hnum ht om
    have HDL:=qh (zfk hdl ho32);have HDS:Hid ((ds++[o]).length=i+1):=by show _=_;simp[hds]
    have hA:=hA.drew;have hB:=hB.drew;have hZ:=hZ.drew;have hO:=hO.drew;have hE:=hE.drew;have HAx:=qh (hA.far (p:=⟨w.heap.size+3,i,none⟩) (by show w.heap.size≠w.heap.size+3;omega) (.int .u64 (o:Int)));have HBx:=qh (hB.far (p:=⟨w.heap.size+3,i,none⟩) (by show w.heap.size+1≠w.heap.size+3;omega) (.int .u64 (o:Int)));have HZx:=qh (hZ.far (p:=⟨w.heap.size+3,i,none⟩) (by show w.heap.size+2≠w.heap.size+3;omega) (.int .u64 (o:Int)))
    have HOx:Hid (Blk (wr.drew.setCell ⟨w.heap.size+3,i,none⟩ (.int .u64 (o:Int))) (w.heap.size+3) 229 (u64l ((ds++[o])++List.replicate (17-(i+1)) 0))):=by
     have h1:=hO.set_ i (.int .u64 (o:Int));rw[zdi,zeu ds i 17 o hds om]at h1;exact h1
    have HEx:=qh (hE.setCell (p:=⟨w.heap.size+3,i,none⟩) (by show w.heap.size≤w.heap.size+3;omega) (.int .u64 (o:Int)));have HGK:=qh hgk;have hT:wr.drew.cell? ⟨w.heap.size,i,none⟩=some (.int .u32 (x:Int))∧wr.drew.cell? ⟨w.heap.size+1,i,none⟩=some (.int .u32 (y:Int)):=⟨cx,cy⟩;have w1:IntKind.u64.wrap (x:Int)=(x:Int):=wrap64 x om _ rfl;have w2:IntKind.u64.wrap (y:Int)=(y:Int):=wrap64 y om _ rfl;have w3:IntKind.u64.wrap ((c:Int)+(x:Int))=((c+x:Nat):Int):=wrap64 (c+x) om _ om;have w4:IntKind.u64.wrap (((c+x:Nat):Int)+(y:Int))=(t:Int):=wrap64 t om _ om;clear hA hB hZ hO hE hgk hnum hds hdl hx hy ht ho hq cx cy;go_wp2;refine kgo kr 11 (fun w'=>w'.cell? ⟨w.heap.size,i,none⟩=some (.int .u32 (x:Int))∧w'.cell? ⟨w.heap.size+1,i,none⟩=some (.int .u32 (y:Int))) hT (fun _ _ _ _ _ h=>h) ?_;refine kp 0 (.int .u64 (c:Int)) rfl kr (fun _=>kr) ?_;refine kp 1 (.int .i64 (i:Int)) rfl kr (fun _=>kr) ?_;refine kp 2 (.pointer (some ⟨w.heap.size,i,none⟩)) rfl kr (fun _=>(zcz (t:=196) (e:=44) (x:=.tmp 2) (y:=.tmp 13) (g:=w.heap.size) (off:=0) (m:=8) (p:=i) rr kr kr hlt kr szU32r).trans (by rw[Nat.zero_add])) ?_;refine kl 3 (.int .u32 (x:Int)) rfl kr (fun w' hw'=>zca (t:=44) (x:=.tmp 14) (p:=⟨w.heap.size,i,none⟩) rr kr agU32r hw'.1) ?_;refine kp 4 (.int .u64 (x:Int)) rfl kr (fun _=>Eq.trans (b:=.ok (.value (.int .u64 (IntKind.u64.wrap ((x:Int))))) _) kr (by rw[w1])) ?_;refine kp 5 (.int .u64 ((c+x:Nat):Int)) rfl kr (fun _=>Eq.trans (b:=.ok (.value (.int .u64 (IntKind.u64.wrap ((c:Int)+(x:Int))))) _) kr (by rw[w3])) ?_;refine kp 6 (.int .i64 (i:Int)) rfl kr (fun _=>kr) ?_;refine kp 7 (.pointer (some ⟨(w.heap.size+1),i,none⟩)) rfl kr (fun _=>(zcz (t:=196) (e:=44) (x:=.tmp 3) (y:=.tmp 18) (g:=(w.heap.size+1)) (off:=0) (m:=8) (p:=i) rr kr kr hlt kr szU32r).trans (by rw[Nat.zero_add])) ?_;refine kl 8 (.int .u32 (y:Int)) rfl kr (fun w' hw'=>zca (t:=44) (x:=.tmp 19) (p:=⟨w.heap.size+1,i,none⟩) rr kr agU32r hw'.2) ?_;refine kp 9 (.int .u64 (y:Int)) rfl kr (fun _=>Eq.trans (b:=.ok (.value (.int .u64 (IntKind.u64.wrap ((y:Int))))) _) kr (by rw[w2])) ?_;refine kp 10 (.int .u64 (t:Int)) rfl kr (fun _=>Eq.trans (b:=.ok (.value (.int .u64 (IntKind.u64.wrap (((c+x:Nat):Int)+(y:Int))))) _) kr (by rw[w4])) ?_;intro q8 q9;clear q8 q9;refine AnyK.val 11 (v:=.int .u64 (t:Int)) rfl kr rfl kr (fun h=>(by cases h)) ?_;refine AnyK.done kr ?_;clear hT w1 w2 w3 w4;go_wp2;go_roundg (8-(i+1))
    case measure=>have:=HGK.out;omega
    case rel=>exact⟨i+1,q,ds++[o],rfl,rfl,by go_num,by omega,HQ.out,HDS.out,HDL.out,HST.out,HAx.out,HBx.out,HZx.out,HOx.out,HEx.out⟩
  · obtain rfl:i=8:=om
    have hlt2:¬((8:Nat):Int)<8:=om;have cz:wr.cell? ⟨w.heap.size+3,8,none⟩=some (.int .u64 (((ds++List.replicate (17-8) 0).getD 8 0:Nat):Int)):=(hO.cell 8).trans (zbo (by simp <;> omega));have fz:wr.frozen? ⟨w.heap.size+3,8,none⟩=false:=hO.frozen 8;rw[tk (by have:=HLA.out.1;omega),tk (by have:=HLB.out.1;omega),HAN.out,HBN.out]at hnum;obtain⟨us,hus⟩:=ex9 ((ds++[c])++List.replicate (17-(8+1)) 0);have HUN:Hid (numL 4294967296 us=a+b):=(by show _=_;rw[hus,zjg,zdf,hds,hnum]);have HUL:us.length=17:=by rw[hus];simp[hds]
    have HUT:∀x∈us,x<4294967296:=by rw[hus];exact zvc om (zfk hdl om)
    have HFO:=qh (fun W=>zis us W HUL HUT);rw[HUN.out]at HFO
    have HOx:Blk (wr.setCell ⟨w.heap.size+3,8,none⟩ (.int .u64 (c:Int))) (w.heap.size+3) 229 (u64l us):=by
     have h1:=hO.set_ 8 (.int .u64 (c:Int));rw[zdi,zeu ds 8 17 c hds om,←hus]at h1;exact h1
    have HZx:=qh (hZ.far (p:=⟨w.heap.size+3,8,none⟩) (by show w.heap.size+2≠w.heap.size+3;omega) (.int .u64 (c:Int)));have HEx:=qh (hE.setCell (p:=⟨w.heap.size+3,8,none⟩) (by show w.heap.size≤w.heap.size+3;omega) (.int .u64 (c:Int)));have hld:=zmm HOx HUL;clear hA hB hZ hO hE hgk hnum hds hdl hus HUL HUT HOx
    go_wp2_with (first
     | (go_at_call 152;(with_reducible refine(HFO.out _).mono ?_);rintro e w5 ⟨rfl,hB⟩;have HZ5:=qbl HZx hB;have HE5:=qtr HEx hB;clear hB)
     | (refine zab rfl 196 (.tmp 4) (.tmp 32) rfl (w.heap.size+2) (n8 ((a+b)%pr)) rr rr 196 _ HZ5.out (by exact hdN8' _) (za4 _) (by rw[zaq];rfl) ?_;intro w6 hb6 ho6;have HB6:=qh hb6;have HE6:=qh (ho6.below HE5.out om HE5.out.size);clear hb6 ho6))
    exact bodyPost_ret (zam rfl _ _ _ _ rfl HB6.out _ Tryz.underlying196 rfl (by exact hdN8' _)) rfl ⟨rfl,HE6.out⟩
end
end Go.Proofs.YtpgpaenloaphaaaGreat
