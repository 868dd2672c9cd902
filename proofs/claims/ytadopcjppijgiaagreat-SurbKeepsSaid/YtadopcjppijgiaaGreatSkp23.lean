/- Part of the proof. -/
import Derived.Test.YtadopcjppijgiaaGreatSkp18
import Derived.Test.YtadopcjppijgiaaGreatSkp22
set_option linter.all false
set_option maxRecDepth 100000
set_option maxHeartbeats 0
namespace Go.Proofs.YtadopcjppijgiaaGreat
open Go.RowKit
section
theorem wrapI(n:Nat)(h:n<1000000)(z:Int)(hz:z=(n:Int)):IntKind.i64.wrap z=(n:Int):=by
 subst hz
 simp[IntKind.wrap,go_sem]
 omega
theorem mul_sq{x y:Nat}(hx:x<4294967296)(hy:y<4294967296):x*y≤18446744065119617025:=by
 have h:=Nat.mul_le_mul (show x≤4294967295 by omega) (show y≤4294967295 by omega);omega
theorem zwi(zs:List Nat)(s v k:Nat)(hk:s<k):(zs.set s v).getD k 0=zs.getD k 0:=getD_set_ne zs s k v om
attribute [local go_sem ↓] zka zeh
theorem zrh(a b:Nat)(w:World)(ha:a<115792089237316195423570985008687907853269984665640564039457584007913129639936)(hb:b<115792089237316195423570985008687907853269984665640564039457584007913129639936):
 Calls Tryz.prog 111 #[.agg (n8 a).toArray,.agg (n8 b).toArray] w fun e w'=>e=.returned (.agg (n8 (a*b%pr)).toArray)∧Below w.heap.size w w':=by
 obtain⟨xa,V⟩:=ex9 (dig 8 a);obtain⟨xb,Y⟩:=ex9 (dig 8 b);have d3:Hid (numL 4294967296 xa=a):=(by show _=_;rw[V,zf5 a ha]);have d4:Hid (numL 4294967296 xb=b):=(by show _=_;rw[Y,zf5 b hb]);have a0:Hid (xa.length=8∧∀x∈xa,x<4294967296):=(by rw[V];exact⟨zcj _ _,zh3 _ _⟩);have U:Hid (xb.length=8∧∀x∈xb,x<4294967296):=(by rw[Y];exact⟨zcj _ _,zh3 _ _⟩);rw[n8,n8,←V,←Y];clear V Y ha hb;obtain⟨W1,a9⟩:=ex9 ((((w.alloc (.cells (u32d xa).toArray 166)).alloc (.cells (u32d xb).toArray 166)).alloc (.cells o8.toArray 166)).alloc (.cells o17.toArray 215))
 have c4:Hid (Blk W1 w.heap.size 166 (u32d xa)∧Blk W1 (w.heap.size+1) 166 (u32d xb)∧Blk W1 (w.heap.size+2) 166 o8∧Blk W1 (w.heap.size+3) 215 (u64l (List.replicate 17 0))∧Below w.heap.size w W1) :=
  a9 ▸ ⟨(((Blk.new w _ _).alloc _).alloc _).alloc _,((Blk.new' sy rfl).alloc _).alloc _,(Blk.new' sy rfl).alloc _,Blk.new' sy rfl,((((Below.refl _ w).alloc lr _).alloc sy _).alloc (by simp <;> omega) _).alloc (by simp <;> omega) _⟩
 go_enter Tryz.func111, Tryz.ntmps111
 go_wp2
 go_loopg [6] 8 (fun kk q wr=>∃(i:Nat) (zs:List Nat),kk=8-i∧q=.int .i64 (i:Int)∧i≤8∧zs.length=17∧(∀x∈zs,x<4294967296)∧(∀k,i+8≤k→zs.getD k 0=0)∧numL 4294967296 zs=numL 4294967296 (xa.take i)*b∧Blk wr w.heap.size 166 (u32d xa)∧Blk wr (w.heap.size+1) 166 (u32d xb)∧Blk wr (w.heap.size+2) 166 o8∧Blk wr (w.heap.size+3) 215 (u64l zs)∧Below w.heap.size w wr)
 case atStart=>exact⟨0,List.replicate 17 0,rfl,rfl,by omega,rfl,by intro x hx;rw[List.eq_of_mem_replicate hx];omega,by intro k _;rw[gd9,List.getElem?_replicate];split <;> rfl,by rw[zhm];simp[numL],a9 ▸ c4.o⟩
 case round =>
  clear c4 a9;obtain⟨i,zs,A,rfl,hi,D,X,a5,r,hA,hB,hZ,hO,hE⟩:=hrel
  rcases Nat.lt_or_ge i 8 with c8|e4
  · have c7:(i:Int)<8:=om
    obtain⟨x,hx⟩:=ex9 (xa.getD i 0);have c5:x<4294967296:=by rw[hx];exact zba om a0.o.2 i
    have HX:=qh hx;have d0:=qh A;have b4:=qh r;have E:Hid (zs.length=17∧(∀x∈zs,x<4294967296)∧(∀k,i+8≤k→zs.getD k 0=0)∧Blk wr w.heap.size 166 (u32d xa)∧Blk wr (w.heap.size+1) 166 (u32d xb)∧Blk wr (w.heap.size+2) 166 o8∧Blk wr (w.heap.size+3) 215 (u64l zs)∧Below w.heap.size w wr):=⟨D,X,a5,hA,hB,hZ,hO,hE⟩;clear hx A r D X a5 hA hB hZ hO hE;go_wp2
    go_loopg [7,8] 8 (fun kk qc q wr=>∃(j c:Nat) (us:List Nat),kk=8-j∧qc=.int .u64 (c:Int)∧q=.int .i64 (j:Int)∧j≤8∧c<4294967296∧us.length=17∧(∀x∈us,x<4294967296)∧(∀k,i+8≤k→us.getD k 0=0)∧numL 4294967296 us+c*4294967296^(i+j)=numL 4294967296 (xa.take i)*b+x*4294967296^i*numL 4294967296 (xb.take j)∧Blk wr w.heap.size 166 (u32d xa)∧Blk wr (w.heap.size+1) 166 (u32d xb)∧Blk wr (w.heap.size+2) 166 o8∧Blk wr (w.heap.size+3) 215 (u64l us)∧Below w.heap.size w wr)
    case atStart=>exact⟨0,0,zs,rfl,rfl,rfl,by omega,by omega,E.o.1,E.o.2.1,E.o.2.2.1,by rw[b4.o];simp[numL],E.o.2.2.2⟩
    case round =>
     clear E b4;obtain⟨j,c,us,A,rfl,rfl,hj,hc,a1,G,I,r,hA,hB,hZ,hO,hE⟩:=hrel
     rcases Nat.lt_or_ge j 8 with d6|d8
     · have b6:(j:Int)<8:=om
       obtain⟨s,hs⟩:=ex9 (i+j);have a2:s<17:=om;have b5:(i:Int)+(j:Int)=(s:Int):=om;obtain⟨y,hy⟩:=ex9 (xb.getD j 0);obtain⟨z,hz⟩:=ex9 (us.getD s 0);have b3:y<4294967296:=by rw[hy];exact zba om U.o.2 j
       have d9:z<4294967296:=by rw[hz];exact zba om G s
       have cx:wr.cell? ⟨w.heap.size,i,none⟩=some (.int .u32 (x:Int)):=(hA.cell i).trans (HX.o ▸ zb7 (by have:=a0.o.1;omega));have cy:wr.cell? ⟨w.heap.size+1,j,none⟩=some (.int .u32 (y:Int)):=(hB.cell j).trans (hy ▸ zb7 (by have:=U.o.1;omega));have cz:wr.cell? ⟨w.heap.size+3,s,none⟩=some (.int .u64 (z:Int)):=(hO.cell s).trans (hz ▸ zbo om);have e3:wr.drew.cell? ⟨w.heap.size+3,s,none⟩=some (.int .u64 (z:Int)):=cz;have fz:wr.drew.frozen? ⟨w.heap.size+3,s,none⟩=false:=hO.drew.frozen s;obtain⟨m,hm⟩:=ex9 (x*y);have e1:m≤18446744065119617025:=by rw[hm];exact mul_sq c5 b3
       have c2:(x:Int)*(y:Int)=(m:Int):=by rw[hm];push_cast;rfl
       obtain⟨t,ht⟩:=ex9 (c+z+m);obtain⟨o,ho⟩:=ex9 (t%4294967296);obtain⟨q,hq⟩:=ex9 (t/4294967296);have c6:o<4294967296:=by rw[ho];exact Nat.mod_lt _ om
       have e2:(t:Int)%4294967296=(o:Int):=om;have e5:(t:Int)/4294967296=(q:Int):=om;have HQ:Hid (q<4294967296):=(by show _<_;omega)
       have b2:Hid (numL 4294967296 (us.set s o)+q*4294967296^(i+(j+1))=numL 4294967296 (xa.take i)*b+x*4294967296^i*numL 4294967296 (xb.take (j+1))):=by
        show _=_
        rw[←Nat.add_assoc,Nat.pow_succ];refine zws 4294967296 _ x (4294967296^i) y z c o q (numL 4294967296 (xb.take j)) _ (numL 4294967296 us) _ (4294967296^(i+j)) r (by rw[←hm];omega) ?_ ?_
        · have:=zer 4294967296 us s o om
          rw[←hz,hs]at this;rw[hs];exact this
        · rw[zbp _ xb j (by have:=U.o.1;omega),←hy,Nat.mul_add,Nat.pow_add]
          grind
       have b1:Hid ((us.set s o).length=17):=(by show _=_;rw[List.length_set,a1]);have a3:=qh (zdy G s c6);have a4:Hid (∀k,i+8≤k→(us.set s o).getD k 0=0):=fun k hk=>by rw[zwi us s o k om];exact I k hk
       have hA:=hA.drew;have hB:=hB.drew;have hZ:=hZ.drew;have hO:=hO.drew;have hE:=hE.drew;have a8:=qh (hA.far (p:=⟨w.heap.size+3,s,none⟩) (by show w.heap.size≠w.heap.size+3;omega) (.int .u64 (o:Int)));have a6:=qh (hB.far (p:=⟨w.heap.size+3,s,none⟩) (by show w.heap.size+1≠w.heap.size+3;omega) (.int .u64 (o:Int)));have J:=qh (hZ.far (p:=⟨w.heap.size+3,s,none⟩) (by show w.heap.size+2≠w.heap.size+3;omega) (.int .u64 (o:Int)));have a7:Hid (Blk (wr.drew.setCell ⟨w.heap.size+3,s,none⟩ (.int .u64 (o:Int))) (w.heap.size+3) 215 (u64l (us.set s o))):=(zdj us s o) ▸ hO.set_ s _;have M:=qh (hE.setCell (p:=⟨w.heap.size+3,s,none⟩) (by show w.heap.size≤w.heap.size+3;omega) (.int .u64 (o:Int)));have c0:=qh A;have hT:wr.drew.cell? ⟨w.heap.size,i,none⟩=some (.int .u32 (x:Int))∧wr.drew.cell? ⟨w.heap.size+1,j,none⟩=some (.int .u32 (y:Int))∧wr.drew.cell? ⟨w.heap.size+3,s,none⟩=some (.int .u64 (z:Int)):=⟨cx,cy,cz⟩;have w0:IntKind.i64.wrap ((i:Int)+(j:Int))=(s:Int):=wrapI s om _ b5;have w1:IntKind.u64.wrap (x:Int)=(x:Int):=wrap64 x om _ rfl;have w2:IntKind.u64.wrap (y:Int)=(y:Int):=wrap64 y om _ rfl;have w3:IntKind.u64.wrap ((c:Int)+(z:Int))=((c+z:Nat):Int):=wrap64 (c+z) om _ om;have w4:IntKind.u64.wrap ((x:Int)*(y:Int))=(m:Int):=wrap64 m om _ c2;have w5:IntKind.u64.wrap (((c+z:Nat):Int)+(m:Int))=(t:Int):=wrap64 t om _ om;clear hA hB hZ hO hE A r a1 G I hy hz ht ho hq hm cx cy cz hs c2;go_wp2;refine kgo kr 17 (fun w'=>w'.cell? ⟨w.heap.size,i,none⟩=some (.int .u32 (x:Int))∧w'.cell? ⟨w.heap.size+1,j,none⟩=some (.int .u32 (y:Int))∧w'.cell? ⟨w.heap.size+3,s,none⟩=some (.int .u64 (z:Int))) hT (fun _ _ _ _ _ h=>h) ?_;refine kp 0 (.int .u64 (c:Int)) rfl kr (fun _=>kr) ?_;refine kp 1 (.int .i64 (i:Int)) rfl kr (fun _=>kr) ?_;refine kp 2 (.int .i64 (j:Int)) rfl kr (fun _=>kr) ?_;refine kp 3 (.int .i64 (s:Int)) rfl kr (fun _=>Eq.trans (b:=.ok (.value (.int .i64 (IntKind.i64.wrap ((i:Int)+(j:Int))))) _) kr (by rw[w0])) ?_;refine kp 4 (.pointer (some ⟨(w.heap.size+3),s,none⟩)) rfl kr (fun _=>(zc1 (t:=215) (e:=32) (x:=.tmp 5) (y:=.tmp 20) (g:=(w.heap.size+3)) (off:=0) (m:=17) (p:=s) rr kr kr a2 kr szU64).trans (by rw[Nat.zero_add])) ?_;refine kl 5 (.int .u64 (z:Int)) rfl kr (fun w' hw'=>zci (t:=32) (x:=.tmp 21) (p:=⟨w.heap.size+3,s,none⟩) rr kr agU64 hw'.2.2) ?_;refine kp 6 (.int .u64 ((c+z:Nat):Int)) rfl kr (fun _=>Eq.trans (b:=.ok (.value (.int .u64 (IntKind.u64.wrap ((c:Int)+(z:Int))))) _) kr (by rw[w3])) ?_;refine kp 7 (.int .i64 (i:Int)) rfl kr (fun _=>kr) ?_;refine kp 8 (.pointer (some ⟨w.heap.size,i,none⟩)) rfl kr (fun _=>(zc1 (t:=166) (e:=61) (x:=.tmp 2) (y:=.tmp 24) (g:=w.heap.size) (off:=0) (m:=8) (p:=i) rr kr kr c8 kr szU32r).trans (by rw[Nat.zero_add])) ?_;refine kl 9 (.int .u32 (x:Int)) rfl kr (fun w' hw'=>zci (t:=61) (x:=.tmp 25) (p:=⟨w.heap.size,i,none⟩) rr kr agU32r hw'.1) ?_;refine kp 10 (.int .u64 (x:Int)) rfl kr (fun _=>Eq.trans (b:=.ok (.value (.int .u64 (IntKind.u64.wrap ((x:Int))))) _) kr (by rw[w1])) ?_;refine kp 11 (.int .i64 (j:Int)) rfl kr (fun _=>kr) ?_;refine kp 12 (.pointer (some ⟨(w.heap.size+1),j,none⟩)) rfl kr (fun _=>(zc1 (t:=166) (e:=61) (x:=.tmp 3) (y:=.tmp 28) (g:=(w.heap.size+1)) (off:=0) (m:=8) (p:=j) rr kr kr d6 kr szU32r).trans (by rw[Nat.zero_add])) ?_;refine kl 13 (.int .u32 (y:Int)) rfl kr (fun w' hw'=>zci (t:=61) (x:=.tmp 29) (p:=⟨w.heap.size+1,j,none⟩) rr kr agU32r hw'.2.1) ?_;refine kp 14 (.int .u64 (y:Int)) rfl kr (fun _=>Eq.trans (b:=.ok (.value (.int .u64 (IntKind.u64.wrap ((y:Int))))) _) kr (by rw[w2])) ?_;refine kp 15 (.int .u64 (m:Int)) rfl kr (fun _=>Eq.trans (b:=.ok (.value (.int .u64 (IntKind.u64.wrap ((x:Int)*(y:Int))))) _) kr (by rw[w4])) ?_;refine kp 16 (.int .u64 (t:Int)) rfl kr (fun _=>Eq.trans (b:=.ok (.value (.int .u64 (IntKind.u64.wrap (((c+z:Nat):Int)+(m:Int))))) _) kr (by rw[w5])) ?_;intro q8 q9;clear q8 q9;refine AnyK.val 17 (v:=.int .u64 (t:Int)) rfl kr rfl kr (fun h=>(by cases h)) ?_;refine AnyK.done kr ?_;clear hT w0 w1 w2 w3 w4 w5;go_wp2;go_roundg (8-(j+1))
       case measure=>have:=c0.o;omega
       case rel=>exact⟨j+1,q,us.set s o,rfl,rfl,by go_num,by omega,HQ.o,b1.o,a3.o,a4.o,b2.o,a8.o,a6.o,J.o,a7.o,M.o⟩
     · obtain rfl:j=8:=om
       have b6:¬((8:Nat):Int)<8:=om;obtain⟨s,hs⟩:=ex9 (i+8);have a2:s<17:=om;have b5:(i:Int)+8=(s:Int):=om;have cz:wr.cell? ⟨w.heap.size+3,s,none⟩=some (.int .u64 ((us.getD s 0:Nat):Int)):=(hO.cell s).trans (zbo om);have fz:wr.frozen? ⟨w.heap.size+3,s,none⟩=false:=hO.frozen s
       have b2:Hid (numL 4294967296 (us.set s c)=numL 4294967296 (xa.take (i+1))*b):=by
        show _=_
        have h1:=zer 4294967296 us s c om;rw[I s om,Nat.zero_mul,Nat.add_zero,hs]at h1;rw[hs,h1,r,tk (l:=xb) (by have:=U.o.1;omega),d4.o,zbp _ xa i (by have:=a0.o.1;omega),←HX.o,Nat.add_mul]
       have b1:Hid ((us.set s c).length=17):=(by show _=_;rw[List.length_set,a1]);have a3:=qh (zdy G s hc);have a4:Hid (∀k,i+1+8≤k→(us.set s c).getD k 0=0):=fun k hk=>by rw[zwi us s c k om];exact I k om
       have a8:=qh (hA.far (p:=⟨w.heap.size+3,s,none⟩) (by show w.heap.size≠w.heap.size+3;omega) (.int .u64 (c:Int)));have a6:=qh (hB.far (p:=⟨w.heap.size+3,s,none⟩) (by show w.heap.size+1≠w.heap.size+3;omega) (.int .u64 (c:Int)));have J:=qh (hZ.far (p:=⟨w.heap.size+3,s,none⟩) (by show w.heap.size+2≠w.heap.size+3;omega) (.int .u64 (c:Int)));have a7:Hid (Blk (wr.setCell ⟨w.heap.size+3,s,none⟩ (.int .u64 (c:Int))) (w.heap.size+3) 215 (u64l (us.set s c))):=(zdj us s c) ▸ hO.set_ s _;have M:=qh (hE.setCell (p:=⟨w.heap.size+3,s,none⟩) (by show w.heap.size≤w.heap.size+3;omega) (.int .u64 (c:Int)));clear hA hB hZ hO hE A r a1 G I hs;go_wp2;go_roundg (8-(i+1))
       case measure=>have:=d0.o;omega
       case rel=>exact⟨i+1,us.set s c,rfl,by go_num,by omega,b1.o,a3.o,a4.o,b2.o,a8.o,a6.o,J.o,a7.o,M.o⟩
  · obtain rfl:i=8:=om
    have c7:¬((8:Nat):Int)<8:=om;rw[tk (by have:=a0.o.1;omega),d3.o]at r;have b7:=qh (fun W=>zjb zs W D X);rw[r]at b7;have e0:=zni hO D;have J:=qh hZ;have M:=qh hE;clear hA hB hZ hO hE A r D X a5
    go_wp2_with (first
     | (go_at_call 132;(with_reducible refine(b7.o _).mono ?_);rintro e w5 ⟨rfl,hB⟩;have d7:=qbl J hB;have c3:=qtr M hB;clear hB)
     | (refine zab rfl 166 (.tmp 4) (.tmp 47) rfl (w.heap.size+2) (n8 (a*b%pr)) rr rr 166 _ d7.o (by exact hdN8' _) (za7 _) (by rw[zar];rfl) ?_;intro w6 c1 b9;have c9:=qh c1;have d5:=qh (b9.below c3.o om c3.o.size);clear c1 b9))
    exact bodyPost_ret (zan rfl _ _ _ _ rfl c9.o _ Tryz.underlying166 rfl (by exact hdN8' _)) rfl ⟨rfl,d5.o⟩
end
section
theorem szU8r(w:World):(sizeOf 5).run Tryz.prog w=.ok 1 w:=by kernel_rfl
attribute [local go_sem ↓] zch
end
section
theorem bld38(w:World):(Instr.build 166 [(0,.int .u32 38)].toArray).run Tryz.prog w=.ok (.agg (n8 38).toArray) w:=by kernel_rfl
theorem zqp(a b:Nat)(_h:a%pr<b%pr):(a%pr+115792089237316195423570985008687907853269984665640564039457584007913129639936-b%pr-38)%pr=fsub a b:=by
 rw[fsub,←Nat.mod_add_mod];have h1:=zdc a;have h2:=zdc b;simp only[pr]at *;omega
theorem zqq(a b:Nat)(h:b%pr≤a%pr):(a%pr-b%pr)%pr=fsub a b:=by
 rw[fsub,←Nat.mod_add_mod];have h1:=zdc a;have h2:=zdc b;simp only[pr]at *;omega
attribute [local go_sem ↓] zeh
theorem rsub_n(a b:Nat)(w:World)(ha:a<115792089237316195423570985008687907853269984665640564039457584007913129639936)(hb:b<115792089237316195423570985008687907853269984665640564039457584007913129639936):
 Calls Tryz.prog 110 #[.agg (n8 a).toArray,.agg (n8 b).toArray] w fun e w'=>e=.returned (.agg (n8 (fsub a b)).toArray)∧Below w.heap.size w w':=by
 have r:Hid (Blk (((w.alloc (.cells (n8 a).toArray 166)).alloc (.cells (n8 b).toArray 166)).alloc (.cells o8.toArray 166)) w.heap.size 166 (n8 a)∧Blk (((w.alloc (.cells (n8 a).toArray 166)).alloc (.cells (n8 b).toArray 166)).alloc (.cells o8.toArray 166)) (w.heap.size+1) 166 (n8 b)∧Blk (((w.alloc (.cells (n8 a).toArray 166)).alloc (.cells (n8 b).toArray 166)).alloc (.cells o8.toArray 166)) (w.heap.size+2) 166 o8∧Below w.heap.size w (((w.alloc (.cells (n8 a).toArray 166)).alloc (.cells (n8 b).toArray 166)).alloc (.cells o8.toArray 166))) :=
  ⟨((Blk.new w _ _).alloc _).alloc _,(Blk.new' sy rfl).alloc _,Blk.new' sy rfl,(((Below.refl _ w).alloc lr _).alloc sy _).alloc (by simp <;> omega) _⟩
 have a5:a%pr<115792089237316195423570985008687907853269984665640564039457584007913129639936:=pr_lt a;have b9:b%pr<115792089237316195423570985008687907853269984665640564039457584007913129639936:=pr_lt b;obtain⟨D,hD⟩:=ex9 ((if a%pr<b%pr then a%pr+115792089237316195423570985008687907853269984665640564039457584007913129639936-b%pr else a%pr-b%pr));have HM:Hid (∀W,Calls Tryz.prog 130 #[.agg (n8 (a%pr)).toArray,.agg (n8 (b%pr)).toArray] W fun e w'=>e=.returned (.tuple #[.agg (n8 D).toArray,.bool (decide (a%pr<b%pr))])∧Below W.heap.size W w'):=fun W=>hD ▸ zmw (a%pr) (b%pr) W a5 b9
 have a8:=qh hD;have b7:=qh (fun W=>zek a ha W);have b6:=qh (fun W=>zek b hb W);clear hD ha hb a5 b9
 go_enter Tryz.func110, Tryz.ntmps110
 go_wp2;obtain⟨W1,X⟩:=ex9 (((w.alloc (.cells (n8 a).toArray 166)).alloc (.cells (n8 b).toArray 166)).alloc (.cells o8.toArray 166));rw[←X]at r;have Y:Hid (Below W1.heap.size W1 { (((w.alloc (.cells (n8 a).toArray 166)).alloc (.cells (n8 b).toArray 166)).alloc (.cells o8.toArray 166))with drawn:=(((w.alloc (.cells (n8 a).toArray 166)).alloc (.cells (n8 b).toArray 166)).alloc (.cells o8.toArray 166)).drawn+1 }):=X ▸ (Below.refl _ W1).drew;refine kgo kr 9 (fun w'=>Below W1.heap.size W1 w') Y.o (fun _ _ _ _ _ h=>h) ?_;refine kl 0 (.agg (n8 a).toArray) rfl kr (fun w' hw'=>zaf (x:=.tmp 2) rr kr (zaw (r.o.1.below hw' r.o.1.lt))) ?_;refine kl 2 (.agg (n8 b).toArray) rfl kr (fun w' hw'=>zaf (x:=.tmp 3) rr kr (zaw (r.o.2.1.below hw' r.o.2.1.lt))) ?_;intro q8 q9;clear q8 q9;refine AnyG.start W1.heap.size [⟨8,5,166,o8,fun g=>.pointer (some ⟨g,0,none⟩)⟩] (fun W=>Below W1.heap.size W1 W) 8 rfl Y.o ?_
 have M:Hid (∀(W:World) (b:Act) (o:Oper),o.op=.alloc 166→(execOp b.eval o).run Tryz.prog W=.ok (.value (.pointer (some ⟨W.heap.size,0,none⟩))) (W.alloc (.cells o8.toArray 166))):=fun W b o ho=>by
  unfold execOp
  rw[ho]
  kernel_rfl
 refine AnyG.step 1 (di:=9) [] (fun _:Unit=>.agg (n8 (a%pr)).toArray) (fun _ W=>Below W1.heap.size W1 W) rr rfl sy sy kr ?_ ?_ ga9 gs9 (fun W h=>h) (fun _ W h=>h) ?_
 · intro F W hF hR V c0 K hK
   obtain⟨s1,rfl⟩:=zcl hF
   rcases s1 with _|k1 <;>
     (refine zbb (f:=107) (args:=#[.agg (n8 a).toArray]) kr ?_;refine(b7.o W).mono ?_;rintro e w' ⟨rfl,hB⟩;exact⟨_,rfl,hK () _ (hR.trans (hB.mono hR.size)) hB⟩)
 · exact flt1 ⟨_,rfl,rfl,rfl,fun F W _=>M.o _ _ _ rfl⟩
 intro _;refine AnyG.step 3 (di:=11) [] (fun _:Unit=>.agg (n8 (b%pr)).toArray) (fun _ W=>Below W1.heap.size W1 W) rr rfl sy sy kr ?_ ?_ ga9 gs9 (fun W h=>h) (fun _ W h=>h) ?_
 · intro F W hF hR V c0 K hK
   obtain⟨s1,rfl⟩:=zcl hF
   rcases s1 with _|k1 <;>
     (refine zbb (f:=107) (args:=#[.agg (n8 b).toArray]) kr ?_;refine(b6.o W).mono ?_;rintro e w' ⟨rfl,hB⟩;exact⟨_,rfl,hK () _ (hR.trans (hB.mono hR.size)) hB⟩)
 · exact flt1 ⟨_,rfl,rfl,rfl,fun F W _=>M.o _ _ _ rfl⟩
 intro _;refine AnyG.step 4 (di:=12) [] (fun _:Unit=>.tuple #[.agg (n8 D).toArray,.bool (decide (a%pr<b%pr))]) (fun _ W=>Below W1.heap.size W1 W) rr rfl sy sy kr ?_ ?_ ga9 gs9 (fun W h=>h) (fun _ W h=>h) ?_
 · intro F W hF hR V c0 K hK
   obtain⟨s1,rfl⟩:=zcl hF
   rcases s1 with _|k1 <;>
     (refine zbb (f:=130) (args:=#[.agg (n8 (a%pr)).toArray,.agg (n8 (b%pr)).toArray]) kr ?_;refine(HM.o W).mono ?_;rintro e w' ⟨rfl,hB⟩;exact⟨_,rfl,hK () _ (hR.trans (hB.mono hR.size)) hB⟩)
 · exact flt1 ⟨_,rfl,rfl,rfl,fun F W _=>M.o _ _ _ rfl⟩
 intro _;refine AnyG.pure 5 (di:=7) (v:=.tuple #[.agg (n8 D).toArray,.bool (decide (a%pr<b%pr))]) rfl rfl rfl sy kr (fun _ _ _ h=>h) (fun F W hF=>by obtain⟨s1,rfl⟩:=zcl hF;rcases s1 with _|k1 <;> kernel_rfl) (fun W h=>h) ?_;refine AnyG.pure 6 (di:=13) (v:=.agg (n8 D).toArray) rfl rfl rfl sy kr (fun _ _ _ h=>h) (fun F W hF=>by obtain⟨s1,rfl⟩:=zcl hF;rcases s1 with _|k1 <;> kernel_rfl) (fun W h=>h) ?_;refine AnyG.pure 7 (di:=14) (v:=.bool (decide (a%pr<b%pr))) rfl rfl rfl sy kr (fun _ _ _ h=>h) (fun F W hF=>by obtain⟨s1,rfl⟩:=zcl hF;rcases s1 with _|k1 <;> kernel_rfl) (fun W h=>h) ?_;refine AnyG.fin sy kr ?_ ga9 gs9 (fun W h=>h) ?_
 · exact flt1 ⟨_,rfl,rfl,rfl,fun F W _=>M.o _ _ _ rfl⟩
 intro F W hF h0 hR V;obtain⟨gl,rfl⟩:=zhz hF h0;obtain⟨⟨b4,a6,_⟩,_⟩:=V;refine AnyK.storeAll 9 gl (n8 D) 166 o8 rr rfl rfl rr kr kr kr a6 (by exact hdN8' _) (za7 _) (by rw[zar];rfl) (fun _ _ _ h=>(by cases h)) ?_;intro w5 a9 a7;have a2:=a7.below hR b4 hR.size;refine AnyK.val 10 (v:=.bool (decide (a%pr<b%pr))) rr kr rfl kr (fun h=>(by cases h)) ?_;refine AnyK.done kr ?_;have c1:=qh a9;have b1:=qh (r.o.2.2.1.below a2 r.o.2.2.1.lt);have b2:=qh (r.o.2.2.2.trans (a2.mono r.o.2.2.2.size));have HG:Hid (w.heap.size+2≠gl∧w.heap.size≤gl):=(by have:=r.o.2.2.1.lt;show _∧_;omega);clear a9 a7 a2 hR b4 a6 hF h0 M Y r X HM b7 b6;simp only[putF];have c8:=zaw c1.o
 rcases Nat.lt_or_ge (a%pr) (b%pr)with hc|hc
 · have c3:decide (a%pr<b%pr)=true:=decide_eq_true hc
   have I:Hid (D=a%pr+115792089237316195423570985008687907853269984665640564039457584007913129639936-b%pr):=(by show _=_;rw[a8.o,if_pos hc])
   have A:D<115792089237316195423570985008687907853269984665640564039457584007913129639936∧¬D<38:=by
    have h1:=zdc a;have h2:=zdc b;rw[I.o];simp only[pr]at *;omega
   have c2:Hid (∀W,Calls Tryz.prog 130 #[.agg (n8 D).toArray,.agg (n8 38).toArray] W fun e w'=>e=.returned (.tuple #[.agg (n8 (D-38)).toArray,.bool false])∧Below W.heap.size W w'):=fun W=>by
    have h:=zmw D 38 W A.1 om;rw[if_neg A.2,decide_eq_false A.2]at h;exact h
   have G:=qh (fun W=>zek (D-38) om W);have HF:Hid ((D-38)%pr=fsub a b):=(by show _=_;rw[I.o];exact zqp a b hc);rw[HF.o]at G;clear hc A
   go_wp2_with (first
    | (refine zai rfl 166 [(0,.const (.int .u32 38))] rfl _ rr _ (bld38 _) ?_)
    | (go_at_call 130;(with_reducible refine(c2.o _).mono ?_);rintro e w6 ⟨rfl,hB⟩;have c6:=qbl c1 hB;have c5:=qbl b1 hB;have b3:=qtr b2 hB;clear hB)
    | (refine zab rfl 166 (.tmp 5) (.tmp 20) rfl gl (n8 (D-38)) rr rr 166 _ c6.o (by exact hdN8' _) (za7 _) (by rw[zar,zar]) ?_;intro w7 b5 a3;have c7:=qh (a3.blk c5.o HG.o.1);have c4:=qh (a3.below b3.o HG.o.2 b3.o.size);have c9:=zaw b5;clear b5 a3)
    | (go_at_call 107;(with_reducible refine(G.o _).mono ?_);rintro e w8 ⟨rfl,hB⟩;have a0:=qbl c7 hB;have U:=qtr c4 hB;clear hB)
    | (refine zab rfl 166 (.tmp 4) (.tmp 23) rfl (w.heap.size+2) (n8 (fsub a b)) rr rr 166 _ a0.o (by exact hdN8' _) (za7 _) (by rw[zar];rfl) ?_;intro w9 J E;have a1:=qh J;have a4:=qh (E.below U.o om U.o.size);clear J E))
   exact bodyPost_ret (zan rfl _ _ _ _ rfl a1.o _ Tryz.underlying166 rfl (by exact hdN8' _)) rfl ⟨rfl,a4.o⟩
 · have c3:decide (a%pr<b%pr)=false:=decide_eq_false om
   have I:Hid (D=a%pr-b%pr):=(by show _=_;rw[a8.o,if_neg om])
   have A:D<115792089237316195423570985008687907853269984665640564039457584007913129639936:=by
    have h1:=pr_lt a;rw[I.o];omega
   have G:=qh (fun W=>zek D A W);have HF:Hid (D%pr=fsub a b):=(by show _=_;rw[I.o];exact zqq a b hc);rw[HF.o]at G;clear hc A
   go_wp2_with (first
    | (go_at_call 107;(with_reducible refine(G.o _).mono ?_);rintro e w8 ⟨rfl,hB⟩;have a0:=qbl b1 hB;have U:=qtr b2 hB;clear hB)
    | (refine zab rfl 166 (.tmp 4) (.tmp 23) rfl (w.heap.size+2) (n8 (fsub a b)) rr rr 166 _ a0.o (by exact hdN8' _) (za7 _) (by rw[zar];rfl) ?_;intro w9 J E;have a1:=qh J;have a4:=qh (E.below U.o om U.o.size);clear J E))
   exact bodyPost_ret (zan rfl _ _ _ _ rfl a1.o _ Tryz.underlying166 rfl (by exact hdN8' _)) rfl ⟨rfl,a4.o⟩
end
section
theorem bld1(w:World):(Instr.build 166 [(0,.int .u32 1)].toArray).run Tryz.prog w=.ok (.agg (n8 1).toArray) w:=by kernel_rfl
theorem zr0(E i:Nat):E%2^(i+1)=E%2^i+2^i*(E/2^i%2):=by
 rw[Nat.pow_succ,Nat.mod_mul]
theorem pow_one(a E i:Nat)(h:E/2^i%2=1)(o s:Nat)(ho:o%pr=a^(E%2^i)%pr)(hs:s%pr=a^2^i%pr):o*s%pr=a^(E%2^(i+1))%pr:=by
 rw[zr0,h,Nat.mul_one,Nat.pow_add,Nat.mul_mod,ho,hs,←Nat.mul_mod]
theorem zya(a E i:Nat)(h:E/2^i%2=0)(o:Nat)(ho:o%pr=a^(E%2^i)%pr):o%pr=a^(E%2^(i+1))%pr:=by
 rw[zr0,h,Nat.mul_zero,Nat.add_zero,ho]
theorem zx9(a i s:Nat)(hs:s%pr=a^2^i%pr):s*s%pr=a^2^(i+1)%pr:=by
 rw[Nat.mul_mod,hs,←Nat.mul_mod,←Nat.pow_add,Nat.pow_succ,Nat.mul_two]
attribute [local go_sem ↓] zeh
theorem rpow_n(a:Nat)(A:Option Addr)(c:Nat)(es:List UInt8)(w:World)(ha:a<115792089237316195423570985008687907853269984665640564039457584007913129639936)(h:Rd w A 32 (u8s es)):
 Calls Tryz.prog 133 #[.agg (n8 a).toArray,.slice A 32 c] w fun e w'=>e=.returned (.agg (n8 (a^leN es%pr)).toArray)∧Below w.heap.size w w':=by
 have HR:=qh h;have HL:=qh h.len;have c4:Hid (leN es<2^256):=(by have h1:=zi6 es;rw[h.len]at h1;exact h1);obtain⟨E,hE⟩:=ex9 (leN es);have e7:Hid (∀t,(kbit es t).toNat=E/2^t%2):=fun t=>hE ▸ zs0 es t
 rw[←hE]at c4 ⊢;clear hE h
 have M:Hid (Blk ((w.alloc (.cells (n8 a).toArray 166)).alloc (.cells o8.toArray 166)) w.heap.size 166 (n8 a)∧Blk ((w.alloc (.cells (n8 a).toArray 166)).alloc (.cells o8.toArray 166)) (w.heap.size+1) 166 o8∧Below w.heap.size w ((w.alloc (.cells (n8 a).toArray 166)).alloc (.cells o8.toArray 166))) :=
  ⟨(Blk.new w _ _).alloc _,Blk.new' sy rfl,((Below.refl _ w).alloc lr _).alloc sy _⟩
 have HA:Hid (a<115792089237316195423570985008687907853269984665640564039457584007913129639936):=ha;clear ha
 go_enter Tryz.func133, Tryz.ntmps133
 go_upto_region 2 with (first
  | (refine zai rfl 166 [(0,.const (.int .u32 1))] rfl _ rr _ (bld1 _) ?_)
  | (refine zab rfl 166 (.tmp 5) (.tmp 8) rfl (w.heap.size+2) (n8 1) rr rr 166 o8 (by exact Blk.new' sy rfl) (by exact hdN8' _) (za7 _) (by rw[zar];rfl) ?_;intro w1 d8 a5))
 have a7:=qh (a5.blk (M.o.1.alloc _) om);have d6:=qh (a5.blk (M.o.2.1.alloc _) om);have a6:=qh (a5.below (M.o.2.2.alloc M.o.2.2.size _) om (by have:=M.o.2.2.size;simp <;> omega));have a8:=qh d8;have e2:∀o,(ldAt 166 (.pointer (some ⟨w.heap.size,0,none⟩))).run Tryz.prog (w1.alloc o)=.ok (.agg (n8 a).toArray) (w1.alloc o):=fun o=>zaw (a7.o.alloc o)
 have b6:=zaw a7.o;have HG:Hid (w.heap.size+2<w1.heap.size):=a8.o.lt;clear d8 a5 M
 go_upto_region 3 with (refine zab rfl 166 (.tmp 6) (.tmp 9) rfl w1.heap.size (n8 a) rr rr 166 o8 (by exact Blk.new' rfl rfl) (by exact hdN8' _) (za7 _) (by rw[zar];rfl) ?_;intro w2 c5 a2)
 have hg:=HG.o;have c1:=qh (a2.blk (d6.o.alloc _) om);have c3:=qh (a2.blk (a8.o.alloc _) om);have c0:=qh c5;have d5:=qh (a2.below (a6.o.alloc a6.o.size _) a6.o.size (by simp;omega));clear c5 a2 e2 b6 a7 d6 a6 a8 hg;go_wp2
 go_loopg [7] 256 (fun kk q wr=>∃(i o s:Nat),kk=256-i∧q=.int .i64 (i:Int)∧i≤256∧o<115792089237316195423570985008687907853269984665640564039457584007913129639936∧s<115792089237316195423570985008687907853269984665640564039457584007913129639936∧o%pr=a^(E%2^i)%pr∧s%pr=a^2^i%pr∧Blk wr (w.heap.size+1) 166 o8∧Blk wr (w.heap.size+2) 166 (n8 o)∧Blk wr w1.heap.size 166 (n8 s)∧Below w.heap.size w wr)
 case atStart=>exact⟨0,1,a,rfl,rfl,by omega,by omega,HA.o,by rw[Nat.pow_zero,Nat.mod_one,Nat.pow_zero],by rw[Nat.pow_zero,Nat.pow_one],c1.o,c3.o,c0.o,d5.o⟩
 case round =>
  clear c1 c3 c0 d5;obtain⟨i,o,s,b3,rfl,hi,ho,hs,U,a1,hZ,hO,hS,hE⟩:=hrel
  rcases Nat.lt_or_ge i 256 with f9|g3
  · have d7:(i:Int)<256:=om
    obtain⟨q,hq⟩:=ex9 (i/8);obtain⟨r,hr⟩:=ex9 (i%8);obtain⟨b,e5,x,rfl,c7,c6,b7⟩:=HR.o.u8 (k:=q) om;obtain⟨X,hX⟩:=ex9 (x.toNat);have f7:wr.cell? ⟨b,e5+q,none⟩=some (.int .u8 (X:Int)):=(hE.cell c7).trans (hX ▸ b7);have f2:X<256:=by rw[hX];exact x.toNat_lt
    have g5:(i:Int)/8=(q:Int):=om;have f8:(i:Int)%8=(r:Int):=om;have f5:(q:Int)<32:=om;have g0:(r:Int)<8:=om;have g2:(0:Int)≤(r:Int):=om;obtain⟨y,a4⟩:=ex9 (X/2^r);have hy:(X:Int)/2^r=(y:Int):=by rw[a4];push_cast;rfl
    have g4:y<256:=by rw[a4];exact Nat.lt_of_le_of_lt (Nat.div_le_self _ _) f2
    have J:Hid (E/2^i%2=y%2):=by
     show _=_
     rw[←e7.o i,kbit,←hq,←hr,gd9,c6]
     show(x.toNat/2^r%2 == 1).toNat=_
     rw[←hX,←a4]
     rcases Nat.mod_two_eq_zero_or_one y with h3|h3 <;> rw[h3] <;> rfl
    have d0:=qh (fun W=>zrh s s W hs hs);have e8:=qh (fun W=>zrh o s W ho hs);have d4:=qh (zx9 a i s a1);have b5:=qh U;have e0:=qh a1;have d9:=qh ho;have c2:=qh b3;have g1:=zaw hS;have c9:=zaw hO;have HZ:=qh hZ;have HO:=qh hO;have HS:=qh hS;have HE:=qh hE;have hg:=HG.o;have d3:Hid (w.heap.size≤w1.heap.size):=(by show _≤_;omega);clear hZ hO hS hE b3 U a1 ho hs a4 hq hr hX b7 c6 c7 hg
    rcases Nat.mod_two_eq_zero_or_one y with V|V
    · have e1:(y:Int)%2=0:=om
      rw[V]at J;have HN:=qh (zya a E i J.o o b5.o);clear V c9
      go_wp2_with (first
       | (go_at_call 111;(with_reducible refine(d0.o _).mono ?_);rintro e w3 ⟨rfl,hB⟩;have a0:=qbl HZ hB;have b4:=qbl HO hB;have b1:=qbl HS hB;have I:=qtr HE hB;clear hB)
       | (refine zab rfl 166 (.tmp 6) (.tmp 32) rfl w1.heap.size (n8 (s*s%pr)) rr rr 166 _ b1.o (by exact hdN8' _) (za7 _) (by rw[zar,zar]) ?_;intro w4 G D;have a3:=qh G;have a9:=qh (D.blk a0.o (by have:=HG.o;omega));have b2:=qh (D.blk b4.o (by have:=HG.o;omega));have Y:=qh (D.below I.o d3.o I.o.size);clear G D))
      go_roundg (256-(i+1))
      case measure=>have:=c2.o;omega
      case rel=>exact⟨i+1,o,s*s%pr,rfl,by go_num,by omega,d9.o,pr_lt _,HN.o,by rw[Nat.mod_mod];exact d4.o,a9.o,b2.o,a3.o,Y.o⟩
    · have e1:(y:Int)%2=1:=om
      rw[V]at J;have HN:=qh (pow_one a E i J.o o s b5.o e0.o);clear V
      go_wp2_with (first
       | (go_at_call 111;(with_reducible refine(d0.o _).mono ?_);rintro e w5 ⟨rfl,hB⟩;have f3:=qbl a9 hB;have e3:=qbl b2 hB;have e6:=qbl a3 hB;have c8:=qtr Y hB;clear hB)
       | (refine zab rfl 166 (.tmp 6) (.tmp 32) rfl w1.heap.size (n8 (s*s%pr)) rr rr 166 _ e6.o (by exact hdN8' _) (za7 _) (by rw[zar,zar]) ?_;intro w6 G D;have e4:=qh G;have f4:=qh (D.blk f3.o (by have:=HG.o;omega));have e9:=qh (D.blk e3.o (by have:=HG.o;omega));have f0:=qh (D.below c8.o d3.o c8.o.size);clear G D)
       | (go_at_call 111;(with_reducible refine(e8.o _).mono ?_);rintro e w3 ⟨rfl,hB⟩;have a0:=qbl HZ hB;have b4:=qbl HO hB;have b1:=qbl HS hB;have I:=qtr HE hB;clear hB)
       | (refine zab rfl 166 (.tmp 5) (.tmp 29) rfl (w.heap.size+2) (n8 (o*s%pr)) rr rr 166 _ b4.o (by exact hdN8' _) (za7 _) (by rw[zar,zar]) ?_;intro w4 G D;have b2:=qh G;have a9:=qh (D.blk a0.o om);have a3:=qh (D.blk b1.o (by have:=HG.o;omega));have Y:=qh (D.below I.o om I.o.size);have f6:=zaw a3.o;clear G D))
      go_roundg (256-(i+1))
      case measure=>have:=c2.o;omega
      case rel=>exact⟨i+1,o*s%pr,s*s%pr,rfl,by go_num,by omega,pr_lt _,pr_lt _,by rw[Nat.mod_mod];exact HN.o,by rw[Nat.mod_mod];exact d4.o,f4.o,e9.o,e4.o,f0.o⟩
  · obtain rfl:i=256:=om
    have d7:¬((256:Nat):Int)<256:=om;rw[Nat.mod_eq_of_lt c4.o]at U;have b9:=qh (fun W=>zek o ho W);rw[U]at b9;have c9:=zaw hO;have HZ:=qh hZ;have HE:=qh hE;clear hZ hO hS hE b3 U a1 ho hs
    go_wp2_with (first
     | (go_at_call 107;(with_reducible refine(b9.o _).mono ?_);rintro e w3 ⟨rfl,hB⟩;have a0:=qbl HZ hB;have I:=qtr HE hB;clear hB)
     | (refine zab rfl 166 (.tmp 4) (.tmp 34) rfl (w.heap.size+1) (n8 (a^E%pr)) rr rr 166 _ a0.o (by exact hdN8' _) (za7 _) (by rw[zar];rfl) ?_;intro w4 G D;have f1:=qh G;have Y:=qh (D.below I.o om I.o.size);clear G D))
    exact bodyPost_ret (zan rfl _ _ _ _ rfl f1.o _ Tryz.underlying166 rfl (by exact hdN8' _)) rfl ⟨rfl,Y.o⟩
end
