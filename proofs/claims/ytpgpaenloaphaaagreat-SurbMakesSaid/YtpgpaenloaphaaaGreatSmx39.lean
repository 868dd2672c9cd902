/- Part of the proof. -/
import Derived.Test.YtpgpaenloaphaaaGreatSmx37
set_option maxRecDepth 100000
set_option maxHeartbeats 0
namespace Go.Proofs.YtpgpaenloaphaaaGreat
open Go.RowKit
section
theorem wrapI(n:Nat)(h:n<1000000)(z:Int)(hz:z=(n:Int)):IntKind.i64.wrap z=(n:Int):=by
 subst hz
 simp[IntKind.wrap,go_sem]
 omega
theorem mul_sq{x y:Nat}(hx:x<4294967296)(hy:y<4294967296):x*y≤18446744065119617025:=by
 have h:=Nat.mul_le_mul (show x≤4294967295 by omega) (show y≤4294967295 by omega);omega
theorem zu4(zs:List Nat)(s v k:Nat)(hk:s<k):(zs.set s v).getD k 0=zs.getD k 0:=getD_set_ne zs s k v om
attribute [local go_sem ↓] zjq zeb
theorem zqg(a b:Nat)(w:World)(ha:a<115792089237316195423570985008687907853269984665640564039457584007913129639936)(hb:b<115792089237316195423570985008687907853269984665640564039457584007913129639936):
 Calls Tryz.prog 122 #[.agg (n8 a).toArray,.agg (n8 b).toArray] w fun e w'=>e=.returned (.agg (n8 (a*b%pr)).toArray)∧Below w.heap.size w w':=by
 obtain⟨xa,hxa⟩:=ex9 (dig 8 a);obtain⟨xb,hxb⟩:=ex9 (dig 8 b);have HAN:Hid (numL 4294967296 xa=a):=(by show _=_;rw[hxa,zfx a ha]);have HBN:Hid (numL 4294967296 xb=b):=(by show _=_;rw[hxb,zfx b hb]);have HLA:Hid (xa.length=8∧∀x∈xa,x<4294967296):=(by rw[hxa];exact⟨zch _ _,zhp _ _⟩);have HLB:Hid (xb.length=8∧∀x∈xb,x<4294967296):=(by rw[hxb];exact⟨zch _ _,zhp _ _⟩);rw[n8,n8,←hxa,←hxb];clear hxa hxb ha hb;obtain⟨W1,hW1⟩:=ex9 ((((w.alloc (.cells (u32d xa).toArray 196)).alloc (.cells (u32d xb).toArray 196)).alloc (.cells o8.toArray 196)).alloc (.cells o17.toArray 229))
 have HM0:Hid (Blk W1 w.heap.size 196 (u32d xa)∧Blk W1 (w.heap.size+1) 196 (u32d xb)∧Blk W1 (w.heap.size+2) 196 o8∧Blk W1 (w.heap.size+3) 229 (u64l (List.replicate 17 0))∧Below w.heap.size w W1) :=
  hW1 ▸ ⟨(((Blk.new w _ _).alloc _).alloc _).alloc _,((Blk.new' sy rfl).alloc _).alloc _,(Blk.new' sy rfl).alloc _,Blk.new' sy rfl,((((Below.refl _ w).alloc lr _).alloc sy _).alloc (by simp <;> omega) _).alloc (by simp <;> omega) _⟩
 go_enter Tryz.func122, Tryz.ntmps122
 go_wp2
 go_loopg [6] 8 (fun kk q wr=>∃(i:Nat) (zs:List Nat),kk=8-i∧q=.int .i64 (i:Int)∧i≤8∧zs.length=17∧(∀x∈zs,x<4294967296)∧(∀k,i+8≤k→zs.getD k 0=0)∧numL 4294967296 zs=numL 4294967296 (xa.take i)*b∧Blk wr w.heap.size 196 (u32d xa)∧Blk wr (w.heap.size+1) 196 (u32d xb)∧Blk wr (w.heap.size+2) 196 o8∧Blk wr (w.heap.size+3) 229 (u64l zs)∧Below w.heap.size w wr)
 case atStart=>exact⟨0,List.replicate 17 0,rfl,rfl,by omega,rfl,by intro x hx;rw[List.eq_of_mem_replicate hx];omega,by intro k _;rw[gd9,List.getElem?_replicate];split <;> rfl,by rw[zg9];simp[numL],hW1 ▸ HM0.out⟩
 case round =>
  clear HM0 hW1;obtain⟨i,zs,hgk,rfl,hi,hzl,hzt,hz0,hnum,hA,hB,hZ,hO,hE⟩:=hrel
  rcases Nat.lt_or_ge i 8 with hlt|hge
  · have hlt2:(i:Int)<8:=om
    obtain⟨x,hx⟩:=ex9 (xa.getD i 0);have hx32:x<4294967296:=by rw[hx];exact za8 om HLA.out.2 i
    have HX:=qh hx;have HGK:=qh hgk;have HN0:=qh hnum;have HS0:Hid (zs.length=17∧(∀x∈zs,x<4294967296)∧(∀k,i+8≤k→zs.getD k 0=0)∧Blk wr w.heap.size 196 (u32d xa)∧Blk wr (w.heap.size+1) 196 (u32d xb)∧Blk wr (w.heap.size+2) 196 o8∧Blk wr (w.heap.size+3) 229 (u64l zs)∧Below w.heap.size w wr):=⟨hzl,hzt,hz0,hA,hB,hZ,hO,hE⟩;clear hx hgk hnum hzl hzt hz0 hA hB hZ hO hE;go_wp2
    go_loopg [7,8] 8 (fun kk qc q wr=>∃(j c:Nat) (us:List Nat),kk=8-j∧qc=.int .u64 (c:Int)∧q=.int .i64 (j:Int)∧j≤8∧c<4294967296∧us.length=17∧(∀x∈us,x<4294967296)∧(∀k,i+8≤k→us.getD k 0=0)∧numL 4294967296 us+c*4294967296^(i+j)=numL 4294967296 (xa.take i)*b+x*4294967296^i*numL 4294967296 (xb.take j)∧Blk wr w.heap.size 196 (u32d xa)∧Blk wr (w.heap.size+1) 196 (u32d xb)∧Blk wr (w.heap.size+2) 196 o8∧Blk wr (w.heap.size+3) 229 (u64l us)∧Below w.heap.size w wr)
    case atStart=>exact⟨0,0,zs,rfl,rfl,rfl,by omega,by omega,HS0.out.1,HS0.out.2.1,HS0.out.2.2.1,by rw[HN0.out];simp[numL],HS0.out.2.2.2⟩
    case round =>
     clear HS0 HN0;obtain⟨j,c,us,hgk,rfl,rfl,hj,hc,hul,hut,hu0,hnum,hA,hB,hZ,hO,hE⟩:=hrel
     rcases Nat.lt_or_ge j 8 with hjt|hjge
     · have hjt2:(j:Int)<8:=om
       obtain⟨s,hs⟩:=ex9 (i+j);have hs17:s<17:=om;have hsi:(i:Int)+(j:Int)=(s:Int):=om;obtain⟨y,hy⟩:=ex9 (xb.getD j 0);obtain⟨z,hz⟩:=ex9 (us.getD s 0);have hy32:y<4294967296:=by rw[hy];exact za8 om HLB.out.2 j
       have hz32:z<4294967296:=by rw[hz];exact za8 om hut s
       have cx:wr.cell? ⟨w.heap.size,i,none⟩=some (.int .u32 (x:Int)):=(hA.cell i).trans (HX.out ▸ zb7 (by have:=HLA.out.1;omega));have cy:wr.cell? ⟨w.heap.size+1,j,none⟩=some (.int .u32 (y:Int)):=(hB.cell j).trans (hy ▸ zb7 (by have:=HLB.out.1;omega));have cz:wr.cell? ⟨w.heap.size+3,s,none⟩=some (.int .u64 (z:Int)):=(hO.cell s).trans (hz ▸ zbo om);have cz':wr.drew.cell? ⟨w.heap.size+3,s,none⟩=some (.int .u64 (z:Int)):=cz;have fz:wr.drew.frozen? ⟨w.heap.size+3,s,none⟩=false:=hO.drew.frozen s;obtain⟨m,hm⟩:=ex9 (x*y);have hml:m≤18446744065119617025:=by rw[hm];exact mul_sq hx32 hy32
       have hmi:(x:Int)*(y:Int)=(m:Int):=by rw[hm];push_cast;rfl
       obtain⟨t,ht⟩:=ex9 (c+z+m);obtain⟨o,ho⟩:=ex9 (t%4294967296);obtain⟨q,hq⟩:=ex9 (t/4294967296);have ho32:o<4294967296:=by rw[ho];exact Nat.mod_lt _ om
       have hoi:(t:Int)%4294967296=(o:Int):=om;have hqi:(t:Int)/4294967296=(q:Int):=om;have HQ:Hid (q<4294967296):=(by show _<_;omega)
       have HST:Hid (numL 4294967296 (us.set s o)+q*4294967296^(i+(j+1))=numL 4294967296 (xa.take i)*b+x*4294967296^i*numL 4294967296 (xb.take (j+1))):=by
        show _=_
        rw[←Nat.add_assoc,Nat.pow_succ];refine zve 4294967296 _ x (4294967296^i) y z c o q (numL 4294967296 (xb.take j)) _ (numL 4294967296 us) _ (4294967296^(i+j)) hnum (by rw[←hm];omega) ?_ ?_
        · have:=zel 4294967296 us s o om
          rw[←hz,hs]at this;rw[hs];exact this
        · rw[zbp _ xb j (by have:=HLB.out.1;omega),←hy,Nat.mul_add,Nat.pow_add]
          grind
       have HUL:Hid ((us.set s o).length=17):=(by show _=_;rw[List.length_set,hul]);have HUT:=qh (zds hut s ho32);have HU0:Hid (∀k,i+8≤k→(us.set s o).getD k 0=0):=fun k hk=>by rw[zu4 us s o k om];exact hu0 k hk
       have hA:=hA.drew;have hB:=hB.drew;have hZ:=hZ.drew;have hO:=hO.drew;have hE:=hE.drew;have HAx:=qh (hA.far (p:=⟨w.heap.size+3,s,none⟩) (by show w.heap.size≠w.heap.size+3;omega) (.int .u64 (o:Int)));have HBx:=qh (hB.far (p:=⟨w.heap.size+3,s,none⟩) (by show w.heap.size+1≠w.heap.size+3;omega) (.int .u64 (o:Int)));have HZx:=qh (hZ.far (p:=⟨w.heap.size+3,s,none⟩) (by show w.heap.size+2≠w.heap.size+3;omega) (.int .u64 (o:Int)));have HOx:Hid (Blk (wr.drew.setCell ⟨w.heap.size+3,s,none⟩ (.int .u64 (o:Int))) (w.heap.size+3) 229 (u64l (us.set s o))):=(zdi us s o) ▸ hO.set_ s _;have HEx:=qh (hE.setCell (p:=⟨w.heap.size+3,s,none⟩) (by show w.heap.size≤w.heap.size+3;omega) (.int .u64 (o:Int)));have HGK2:=qh hgk;have hT:wr.drew.cell? ⟨w.heap.size,i,none⟩=some (.int .u32 (x:Int))∧wr.drew.cell? ⟨w.heap.size+1,j,none⟩=some (.int .u32 (y:Int))∧wr.drew.cell? ⟨w.heap.size+3,s,none⟩=some (.int .u64 (z:Int)):=⟨cx,cy,cz⟩;have w0:IntKind.i64.wrap ((i:Int)+(j:Int))=(s:Int):=wrapI s om _ hsi;have w1:IntKind.u64.wrap (x:Int)=(x:Int):=wrap64 x om _ rfl;have w2:IntKind.u64.wrap (y:Int)=(y:Int):=wrap64 y om _ rfl;have w3:IntKind.u64.wrap ((c:Int)+(z:Int))=((c+z:Nat):Int):=wrap64 (c+z) om _ om;have w4:IntKind.u64.wrap ((x:Int)*(y:Int))=(m:Int):=wrap64 m om _ hmi;have w5:IntKind.u64.wrap (((c+z:Nat):Int)+(m:Int))=(t:Int):=wrap64 t om _ om;clear hA hB hZ hO hE hgk hnum hul hut hu0 hy hz ht ho hq hm cx cy cz hs hmi;go_wp2;refine kgo kr 17 (fun w'=>w'.cell? ⟨w.heap.size,i,none⟩=some (.int .u32 (x:Int))∧w'.cell? ⟨w.heap.size+1,j,none⟩=some (.int .u32 (y:Int))∧w'.cell? ⟨w.heap.size+3,s,none⟩=some (.int .u64 (z:Int))) hT (fun _ _ _ _ _ h=>h) ?_;refine kp 0 (.int .u64 (c:Int)) rfl kr (fun _=>kr) ?_;refine kp 1 (.int .i64 (i:Int)) rfl kr (fun _=>kr) ?_;refine kp 2 (.int .i64 (j:Int)) rfl kr (fun _=>kr) ?_;refine kp 3 (.int .i64 (s:Int)) rfl kr (fun _=>Eq.trans (b:=.ok (.value (.int .i64 (IntKind.i64.wrap ((i:Int)+(j:Int))))) _) kr (by rw[w0])) ?_;refine kp 4 (.pointer (some ⟨(w.heap.size+3),s,none⟩)) rfl kr (fun _=>(zcz (t:=229) (e:=45) (x:=.tmp 5) (y:=.tmp 20) (g:=(w.heap.size+3)) (off:=0) (m:=17) (p:=s) rr kr kr hs17 kr szU64).trans (by rw[Nat.zero_add])) ?_;refine kl 5 (.int .u64 (z:Int)) rfl kr (fun w' hw'=>zca (t:=45) (x:=.tmp 21) (p:=⟨w.heap.size+3,s,none⟩) rr kr agU64 hw'.2.2) ?_;refine kp 6 (.int .u64 ((c+z:Nat):Int)) rfl kr (fun _=>Eq.trans (b:=.ok (.value (.int .u64 (IntKind.u64.wrap ((c:Int)+(z:Int))))) _) kr (by rw[w3])) ?_;refine kp 7 (.int .i64 (i:Int)) rfl kr (fun _=>kr) ?_;refine kp 8 (.pointer (some ⟨w.heap.size,i,none⟩)) rfl kr (fun _=>(zcz (t:=196) (e:=44) (x:=.tmp 2) (y:=.tmp 24) (g:=w.heap.size) (off:=0) (m:=8) (p:=i) rr kr kr hlt kr szU32r).trans (by rw[Nat.zero_add])) ?_;refine kl 9 (.int .u32 (x:Int)) rfl kr (fun w' hw'=>zca (t:=44) (x:=.tmp 25) (p:=⟨w.heap.size,i,none⟩) rr kr agU32r hw'.1) ?_;refine kp 10 (.int .u64 (x:Int)) rfl kr (fun _=>Eq.trans (b:=.ok (.value (.int .u64 (IntKind.u64.wrap ((x:Int))))) _) kr (by rw[w1])) ?_;refine kp 11 (.int .i64 (j:Int)) rfl kr (fun _=>kr) ?_;refine kp 12 (.pointer (some ⟨(w.heap.size+1),j,none⟩)) rfl kr (fun _=>(zcz (t:=196) (e:=44) (x:=.tmp 3) (y:=.tmp 28) (g:=(w.heap.size+1)) (off:=0) (m:=8) (p:=j) rr kr kr hjt kr szU32r).trans (by rw[Nat.zero_add])) ?_;refine kl 13 (.int .u32 (y:Int)) rfl kr (fun w' hw'=>zca (t:=44) (x:=.tmp 29) (p:=⟨w.heap.size+1,j,none⟩) rr kr agU32r hw'.2.1) ?_;refine kp 14 (.int .u64 (y:Int)) rfl kr (fun _=>Eq.trans (b:=.ok (.value (.int .u64 (IntKind.u64.wrap ((y:Int))))) _) kr (by rw[w2])) ?_;refine kp 15 (.int .u64 (m:Int)) rfl kr (fun _=>Eq.trans (b:=.ok (.value (.int .u64 (IntKind.u64.wrap ((x:Int)*(y:Int))))) _) kr (by rw[w4])) ?_;refine kp 16 (.int .u64 (t:Int)) rfl kr (fun _=>Eq.trans (b:=.ok (.value (.int .u64 (IntKind.u64.wrap (((c+z:Nat):Int)+(m:Int))))) _) kr (by rw[w5])) ?_;intro q8 q9;clear q8 q9;refine AnyK.val 17 (v:=.int .u64 (t:Int)) rfl kr rfl kr (fun h=>(by cases h)) ?_;refine AnyK.done kr ?_;clear hT w0 w1 w2 w3 w4 w5;go_wp2;go_roundg (8-(j+1))
       case measure=>have:=HGK2.out;omega
       case rel=>exact⟨j+1,q,us.set s o,rfl,rfl,by go_num,by omega,HQ.out,HUL.out,HUT.out,HU0.out,HST.out,HAx.out,HBx.out,HZx.out,HOx.out,HEx.out⟩
     · obtain rfl:j=8:=om
       have hjt2:¬((8:Nat):Int)<8:=om;obtain⟨s,hs⟩:=ex9 (i+8);have hs17:s<17:=om;have hsi:(i:Int)+8=(s:Int):=om;have cz:wr.cell? ⟨w.heap.size+3,s,none⟩=some (.int .u64 ((us.getD s 0:Nat):Int)):=(hO.cell s).trans (zbo om);have fz:wr.frozen? ⟨w.heap.size+3,s,none⟩=false:=hO.frozen s
       have HST:Hid (numL 4294967296 (us.set s c)=numL 4294967296 (xa.take (i+1))*b):=by
        show _=_
        have h1:=zel 4294967296 us s c om;rw[hu0 s om,Nat.zero_mul,Nat.add_zero,hs]at h1;rw[hs,h1,hnum,tk (l:=xb) (by have:=HLB.out.1;omega),HBN.out,zbp _ xa i (by have:=HLA.out.1;omega),←HX.out,Nat.add_mul]
       have HUL:Hid ((us.set s c).length=17):=(by show _=_;rw[List.length_set,hul]);have HUT:=qh (zds hut s hc);have HU0:Hid (∀k,i+1+8≤k→(us.set s c).getD k 0=0):=fun k hk=>by rw[zu4 us s c k om];exact hu0 k om
       have HAx:=qh (hA.far (p:=⟨w.heap.size+3,s,none⟩) (by show w.heap.size≠w.heap.size+3;omega) (.int .u64 (c:Int)));have HBx:=qh (hB.far (p:=⟨w.heap.size+3,s,none⟩) (by show w.heap.size+1≠w.heap.size+3;omega) (.int .u64 (c:Int)));have HZx:=qh (hZ.far (p:=⟨w.heap.size+3,s,none⟩) (by show w.heap.size+2≠w.heap.size+3;omega) (.int .u64 (c:Int)));have HOx:Hid (Blk (wr.setCell ⟨w.heap.size+3,s,none⟩ (.int .u64 (c:Int))) (w.heap.size+3) 229 (u64l (us.set s c))):=(zdi us s c) ▸ hO.set_ s _;have HEx:=qh (hE.setCell (p:=⟨w.heap.size+3,s,none⟩) (by show w.heap.size≤w.heap.size+3;omega) (.int .u64 (c:Int)));clear hA hB hZ hO hE hgk hnum hul hut hu0 hs;go_wp2;go_roundg (8-(i+1))
       case measure=>have:=HGK.out;omega
       case rel=>exact⟨i+1,us.set s c,rfl,by go_num,by omega,HUL.out,HUT.out,HU0.out,HST.out,HAx.out,HBx.out,HZx.out,HOx.out,HEx.out⟩
  · obtain rfl:i=8:=om
    have hlt2:¬((8:Nat):Int)<8:=om;rw[tk (by have:=HLA.out.1;omega),HAN.out]at hnum;have HFO:=qh (fun W=>zis zs W hzl hzt);rw[hnum]at HFO;have hld:=zmm hO hzl;have HZx:=qh hZ;have HEx:=qh hE;clear hA hB hZ hO hE hgk hnum hzl hzt hz0
    go_wp2_with (first
     | (go_at_call 152;(with_reducible refine(HFO.out _).mono ?_);rintro e w5 ⟨rfl,hB⟩;have HZ5:=qbl HZx hB;have HE5:=qtr HEx hB;clear hB)
     | (refine zab rfl 196 (.tmp 4) (.tmp 47) rfl (w.heap.size+2) (n8 (a*b%pr)) rr rr 196 _ HZ5.out (by exact hdN8' _) (za4 _) (by rw[zaq];rfl) ?_;intro w6 hb6 ho6;have HB6:=qh hb6;have HE6:=qh (ho6.below HE5.out om HE5.out.size);clear hb6 ho6))
    exact bodyPost_ret (zam rfl _ _ _ _ rfl HB6.out _ Tryz.underlying196 rfl (by exact hdN8' _)) rfl ⟨rfl,HE6.out⟩
end
section
theorem bld38(w:World):(Instr.build 196 [(0,.int .u32 38)].toArray).run Tryz.prog w=.ok (.agg (n8 38).toArray) w:=by kernel_rfl
theorem zpp(a b:Nat)(_h:a%pr<b%pr):(a%pr+115792089237316195423570985008687907853269984665640564039457584007913129639936-b%pr-38)%pr=fsub a b:=by
 rw[fsub,←Nat.mod_add_mod];have h1:=zdb a;have h2:=zdb b;simp only[pr]at *;omega
theorem zpq(a b:Nat)(h:b%pr≤a%pr):(a%pr-b%pr)%pr=fsub a b:=by
 rw[fsub,←Nat.mod_add_mod];have h1:=zdb a;have h2:=zdb b;simp only[pr]at *;omega
attribute [local go_sem ↓] zeb
theorem rsub_n(a b:Nat)(w:World)(ha:a<115792089237316195423570985008687907853269984665640564039457584007913129639936)(hb:b<115792089237316195423570985008687907853269984665640564039457584007913129639936):
 Calls Tryz.prog 121 #[.agg (n8 a).toArray,.agg (n8 b).toArray] w fun e w'=>e=.returned (.agg (n8 (fsub a b)).toArray)∧Below w.heap.size w w':=by
 have HB0:Hid (Blk (((w.alloc (.cells (n8 a).toArray 196)).alloc (.cells (n8 b).toArray 196)).alloc (.cells o8.toArray 196)) w.heap.size 196 (n8 a)∧Blk (((w.alloc (.cells (n8 a).toArray 196)).alloc (.cells (n8 b).toArray 196)).alloc (.cells o8.toArray 196)) (w.heap.size+1) 196 (n8 b)∧Blk (((w.alloc (.cells (n8 a).toArray 196)).alloc (.cells (n8 b).toArray 196)).alloc (.cells o8.toArray 196)) (w.heap.size+2) 196 o8∧Below w.heap.size w (((w.alloc (.cells (n8 a).toArray 196)).alloc (.cells (n8 b).toArray 196)).alloc (.cells o8.toArray 196))) :=
  ⟨((Blk.new w _ _).alloc _).alloc _,(Blk.new' sy rfl).alloc _,Blk.new' sy rfl,(((Below.refl _ w).alloc lr _).alloc sy _).alloc (by simp <;> omega) _⟩
 have ha':a%pr<115792089237316195423570985008687907853269984665640564039457584007913129639936:=pr_lt a;have hb':b%pr<115792089237316195423570985008687907853269984665640564039457584007913129639936:=pr_lt b;obtain⟨D,hD⟩:=ex9 ((if a%pr<b%pr then a%pr+115792089237316195423570985008687907853269984665640564039457584007913129639936-b%pr else a%pr-b%pr));have HM:Hid (∀W,Calls Tryz.prog 153 #[.agg (n8 (a%pr)).toArray,.agg (n8 (b%pr)).toArray] W fun e w'=>e=.returned (.tuple #[.agg (n8 D).toArray,.bool (decide (a%pr<b%pr))])∧Below W.heap.size W w'):=fun W=>hD ▸ zl0 (a%pr) (b%pr) W ha' hb'
 have HDD:=qh hD;have HNA:=qh (fun W=>zee a ha W);have HNB:=qh (fun W=>zee b hb W);clear hD ha hb ha' hb'
 go_enter Tryz.func121, Tryz.ntmps121
 go_wp2;obtain⟨W1,hW1⟩:=ex9 (((w.alloc (.cells (n8 a).toArray 196)).alloc (.cells (n8 b).toArray 196)).alloc (.cells o8.toArray 196));rw[←hW1]at HB0;have HR0:Hid (Below W1.heap.size W1 { (((w.alloc (.cells (n8 a).toArray 196)).alloc (.cells (n8 b).toArray 196)).alloc (.cells o8.toArray 196))with drawn:=(((w.alloc (.cells (n8 a).toArray 196)).alloc (.cells (n8 b).toArray 196)).alloc (.cells o8.toArray 196)).drawn+1 }):=hW1 ▸ (Below.refl _ W1).drew;refine kgo kr 9 (fun w'=>Below W1.heap.size W1 w') HR0.out (fun _ _ _ _ _ h=>h) ?_;refine kl 0 (.agg (n8 a).toArray) rfl kr (fun w' hw'=>zad (x:=.tmp 2) rr kr (zav (HB0.out.1.below hw' HB0.out.1.lt))) ?_;refine kl 2 (.agg (n8 b).toArray) rfl kr (fun w' hw'=>zad (x:=.tmp 3) rr kr (zav (HB0.out.2.1.below hw' HB0.out.2.1.lt))) ?_;intro q8 q9;clear q8 q9;refine AnyG.start W1.heap.size [⟨8,5,196,o8,fun g=>.pointer (some ⟨g,0,none⟩)⟩] (fun W=>Below W1.heap.size W1 W) 8 rfl HR0.out ?_
 have HFL:Hid (∀(W:World) (b:Act) (o:Oper),o.op=.alloc 196→(execOp b.eval o).run Tryz.prog W=.ok (.value (.pointer (some ⟨W.heap.size,0,none⟩))) (W.alloc (.cells o8.toArray 196))):=fun W b o ho=>by
  unfold execOp
  rw[ho]
  kernel_rfl
 refine AnyG.step 1 (di:=9) [] (fun _:Unit=>.agg (n8 (a%pr)).toArray) (fun _ W=>Below W1.heap.size W1 W) rr rfl sy sy kr ?_ ?_ ga9 gs9 (fun W h=>h) (fun _ W h=>h) ?_
 · intro F W hF hR hok hrd K hK
   obtain⟨s1,rfl⟩:=zcj hF
   rcases s1 with _|k1 <;>
     (refine za9 (f:=151) (args:=#[.agg (n8 a).toArray]) kr ?_;refine(HNA.out W).mono ?_;rintro e w' ⟨rfl,hB⟩;exact⟨_,rfl,hK () _ (hR.trans (hB.mono hR.size)) hB⟩)
 · exact flt1 ⟨_,rfl,rfl,rfl,fun F W _=>HFL.out _ _ _ rfl⟩
 intro _;refine AnyG.step 3 (di:=11) [] (fun _:Unit=>.agg (n8 (b%pr)).toArray) (fun _ W=>Below W1.heap.size W1 W) rr rfl sy sy kr ?_ ?_ ga9 gs9 (fun W h=>h) (fun _ W h=>h) ?_
 · intro F W hF hR hok hrd K hK
   obtain⟨s1,rfl⟩:=zcj hF
   rcases s1 with _|k1 <;>
     (refine za9 (f:=151) (args:=#[.agg (n8 b).toArray]) kr ?_;refine(HNB.out W).mono ?_;rintro e w' ⟨rfl,hB⟩;exact⟨_,rfl,hK () _ (hR.trans (hB.mono hR.size)) hB⟩)
 · exact flt1 ⟨_,rfl,rfl,rfl,fun F W _=>HFL.out _ _ _ rfl⟩
 intro _;refine AnyG.step 4 (di:=12) [] (fun _:Unit=>.tuple #[.agg (n8 D).toArray,.bool (decide (a%pr<b%pr))]) (fun _ W=>Below W1.heap.size W1 W) rr rfl sy sy kr ?_ ?_ ga9 gs9 (fun W h=>h) (fun _ W h=>h) ?_
 · intro F W hF hR hok hrd K hK
   obtain⟨s1,rfl⟩:=zcj hF
   rcases s1 with _|k1 <;>
     (refine za9 (f:=153) (args:=#[.agg (n8 (a%pr)).toArray,.agg (n8 (b%pr)).toArray]) kr ?_;refine(HM.out W).mono ?_;rintro e w' ⟨rfl,hB⟩;exact⟨_,rfl,hK () _ (hR.trans (hB.mono hR.size)) hB⟩)
 · exact flt1 ⟨_,rfl,rfl,rfl,fun F W _=>HFL.out _ _ _ rfl⟩
 intro _;refine AnyG.pure 5 (di:=7) (v:=.tuple #[.agg (n8 D).toArray,.bool (decide (a%pr<b%pr))]) rfl rfl rfl sy kr (fun _ _ _ h=>h) (fun F W hF=>by obtain⟨s1,rfl⟩:=zcj hF;rcases s1 with _|k1 <;> kernel_rfl) (fun W h=>h) ?_;refine AnyG.pure 6 (di:=13) (v:=.agg (n8 D).toArray) rfl rfl rfl sy kr (fun _ _ _ h=>h) (fun F W hF=>by obtain⟨s1,rfl⟩:=zcj hF;rcases s1 with _|k1 <;> kernel_rfl) (fun W h=>h) ?_;refine AnyG.pure 7 (di:=14) (v:=.bool (decide (a%pr<b%pr))) rfl rfl rfl sy kr (fun _ _ _ h=>h) (fun F W hF=>by obtain⟨s1,rfl⟩:=zcj hF;rcases s1 with _|k1 <;> kernel_rfl) (fun W h=>h) ?_;refine AnyG.fin sy kr ?_ ga9 gs9 (fun W h=>h) ?_
 · exact flt1 ⟨_,rfl,rfl,rfl,fun F W _=>HFL.out _ _ _ rfl⟩
 intro F W hF h0 hR hok;obtain⟨gl,rfl⟩:=zhl hF h0;obtain⟨⟨hga,hba,_⟩,_⟩:=hok;refine AnyK.storeAll 9 gl (n8 D) 196 o8 rr rfl rfl rr kr kr kr hba (by exact hdN8' _) (za4 _) (by rw[zaq];rfl) (fun _ _ _ h=>(by cases h)) ?_;intro w5 hb5 ho5;have hB5:=ho5.below hR hga hR.size;refine AnyK.val 10 (v:=.bool (decide (a%pr<b%pr))) rr kr rfl kr (fun h=>(by cases h)) ?_;refine AnyK.done kr ?_;have HD5:=qh hb5;have HZ5:=qh (HB0.out.2.2.1.below hB5 HB0.out.2.2.1.lt);have HE5:=qh (HB0.out.2.2.2.trans (hB5.mono HB0.out.2.2.2.size));have HG:Hid (w.heap.size+2≠gl∧w.heap.size≤gl):=(by have:=HB0.out.2.2.1.lt;show _∧_;omega);clear hb5 ho5 hB5 hR hga hba hF h0 HFL HR0 HB0 hW1 HM HNA HNB;simp only[putF];have hl5:=zav HD5.out
 rcases Nat.lt_or_ge (a%pr) (b%pr)with hc|hc
 · have hd1:decide (a%pr<b%pr)=true:=decide_eq_true hc
   have HDX:Hid (D=a%pr+115792089237316195423570985008687907853269984665640564039457584007913129639936-b%pr):=(by show _=_;rw[HDD.out,if_pos hc])
   have hDl:D<115792089237316195423570985008687907853269984665640564039457584007913129639936∧¬D<38:=by
    have h1:=zdb a;have h2:=zdb b;rw[HDX.out];simp only[pr]at *;omega
   have HM2:Hid (∀W,Calls Tryz.prog 153 #[.agg (n8 D).toArray,.agg (n8 38).toArray] W fun e w'=>e=.returned (.tuple #[.agg (n8 (D-38)).toArray,.bool false])∧Below W.heap.size W w'):=fun W=>by
    have h:=zl0 D 38 W hDl.1 om;rw[if_neg hDl.2,decide_eq_false hDl.2]at h;exact h
   have HNO:=qh (fun W=>zee (D-38) om W);have HF:Hid ((D-38)%pr=fsub a b):=(by show _=_;rw[HDX.out];exact zpp a b hc);rw[HF.out]at HNO;clear hc hDl
   go_wp2_with (first
    | (refine zai rfl 196 [(0,.const (.int .u32 38))] rfl _ rr _ (bld38 _) ?_)
    | (go_at_call 153;(with_reducible refine(HM2.out _).mono ?_);rintro e w6 ⟨rfl,hB⟩;have HD6:=qbl HD5 hB;have HZ6:=qbl HZ5 hB;have HE6:=qtr HE5 hB;clear hB)
    | (refine zab rfl 196 (.tmp 5) (.tmp 20) rfl gl (n8 (D-38)) rr rr 196 _ HD6.out (by exact hdN8' _) (za4 _) (by rw[zaq,zaq]) ?_;intro w7 hb7 ho7;have HZ7:=qh (ho7.blk HZ6.out HG.out.1);have HE7:=qh (ho7.below HE6.out HG.out.2 HE6.out.size);have hl7:=zav hb7;clear hb7 ho7)
    | (go_at_call 151;(with_reducible refine(HNO.out _).mono ?_);rintro e w8 ⟨rfl,hB⟩;have HZ8:=qbl HZ7 hB;have HE8:=qtr HE7 hB;clear hB)
    | (refine zab rfl 196 (.tmp 4) (.tmp 23) rfl (w.heap.size+2) (n8 (fsub a b)) rr rr 196 _ HZ8.out (by exact hdN8' _) (za4 _) (by rw[zaq];rfl) ?_;intro w9 hb9 ho9;have HB9:=qh hb9;have HE9:=qh (ho9.below HE8.out om HE8.out.size);clear hb9 ho9))
   exact bodyPost_ret (zam rfl _ _ _ _ rfl HB9.out _ Tryz.underlying196 rfl (by exact hdN8' _)) rfl ⟨rfl,HE9.out⟩
 · have hd1:decide (a%pr<b%pr)=false:=decide_eq_false om
   have HDX:Hid (D=a%pr-b%pr):=(by show _=_;rw[HDD.out,if_neg om])
   have hDl:D<115792089237316195423570985008687907853269984665640564039457584007913129639936:=by
    have h1:=pr_lt a;rw[HDX.out];omega
   have HNO:=qh (fun W=>zee D hDl W);have HF:Hid (D%pr=fsub a b):=(by show _=_;rw[HDX.out];exact zpq a b hc);rw[HF.out]at HNO;clear hc hDl
   go_wp2_with (first
    | (go_at_call 151;(with_reducible refine(HNO.out _).mono ?_);rintro e w8 ⟨rfl,hB⟩;have HZ8:=qbl HZ5 hB;have HE8:=qtr HE5 hB;clear hB)
    | (refine zab rfl 196 (.tmp 4) (.tmp 23) rfl (w.heap.size+2) (n8 (fsub a b)) rr rr 196 _ HZ8.out (by exact hdN8' _) (za4 _) (by rw[zaq];rfl) ?_;intro w9 hb9 ho9;have HB9:=qh hb9;have HE9:=qh (ho9.below HE8.out om HE8.out.size);clear hb9 ho9))
   exact bodyPost_ret (zam rfl _ _ _ _ rfl HB9.out _ Tryz.underlying196 rfl (by exact hdN8' _)) rfl ⟨rfl,HE9.out⟩
end
section
theorem bld1(w:World):(Instr.build 196 [(0,.int .u32 1)].toArray).run Tryz.prog w=.ok (.agg (n8 1).toArray) w:=by kernel_rfl
theorem zqz(E i:Nat):E%2^(i+1)=E%2^i+2^i*(E/2^i%2):=by
 rw[Nat.pow_succ,Nat.mod_mul]
theorem pow_one(a E i:Nat)(h:E/2^i%2=1)(o s:Nat)(ho:o%pr=a^(E%2^i)%pr)(hs:s%pr=a^2^i%pr):o*s%pr=a^(E%2^(i+1))%pr:=by
 rw[zqz,h,Nat.mul_one,Nat.pow_add,Nat.mul_mod,ho,hs,←Nat.mul_mod]
theorem zwr(a E i:Nat)(h:E/2^i%2=0)(o:Nat)(ho:o%pr=a^(E%2^i)%pr):o%pr=a^(E%2^(i+1))%pr:=by
 rw[zqz,h,Nat.mul_zero,Nat.add_zero,ho]
theorem zwq(a i s:Nat)(hs:s%pr=a^2^i%pr):s*s%pr=a^2^(i+1)%pr:=by
 rw[Nat.mul_mod,hs,←Nat.mul_mod,←Nat.pow_add,Nat.pow_succ,Nat.mul_two]
attribute [local go_sem ↓] zeb
theorem rpow_n(a:Nat)(A:Option Addr)(c:Nat)(es:List UInt8)(w:World)(ha:a<115792089237316195423570985008687907853269984665640564039457584007913129639936)(h:Rd w A 32 (u8s es)):
 Calls Tryz.prog 154 #[.agg (n8 a).toArray,.slice A 32 c] w fun e w'=>e=.returned (.agg (n8 (a^leN es%pr)).toArray)∧Below w.heap.size w w':=by
 have HR:=qh h;have HL:=qh h.len;have HEL:Hid (leN es<2^256):=(by have h1:=zin es;rw[h.len]at h1;exact h1);obtain⟨E,hE⟩:=ex9 (leN es);have HKB:Hid (∀t,(kbit es t).toNat=E/2^t%2):=fun t=>hE ▸ zr4 es t
 rw[←hE]at HEL ⊢;clear hE h
 have HB0:Hid (Blk ((w.alloc (.cells (n8 a).toArray 196)).alloc (.cells o8.toArray 196)) w.heap.size 196 (n8 a)∧Blk ((w.alloc (.cells (n8 a).toArray 196)).alloc (.cells o8.toArray 196)) (w.heap.size+1) 196 o8∧Below w.heap.size w ((w.alloc (.cells (n8 a).toArray 196)).alloc (.cells o8.toArray 196))) :=
  ⟨(Blk.new w _ _).alloc _,Blk.new' sy rfl,((Below.refl _ w).alloc lr _).alloc sy _⟩
 have HA:Hid (a<115792089237316195423570985008687907853269984665640564039457584007913129639936):=ha;clear ha
 go_enter Tryz.func154, Tryz.ntmps154
 go_upto_region 2 with (first
  | (refine zai rfl 196 [(0,.const (.int .u32 1))] rfl _ rr _ (bld1 _) ?_)
  | (refine zab rfl 196 (.tmp 5) (.tmp 8) rfl (w.heap.size+2) (n8 1) rr rr 196 o8 (by exact Blk.new' sy rfl) (by exact hdN8' _) (za4 _) (by rw[zaq];rfl) ?_;intro w1 hb1 ho1))
 have HA1:=qh (ho1.blk (HB0.out.1.alloc _) om);have HZ1:=qh (ho1.blk (HB0.out.2.1.alloc _) om);have HE1:=qh (ho1.below (HB0.out.2.2.alloc HB0.out.2.2.size _) om (by have:=HB0.out.2.2.size;simp <;> omega));have HO1:=qh hb1;have hl1:∀o,(ldAt 196 (.pointer (some ⟨w.heap.size,0,none⟩))).run Tryz.prog (w1.alloc o)=.ok (.agg (n8 a).toArray) (w1.alloc o):=fun o=>zav (HA1.out.alloc o)
 have hl1':=zav HA1.out;have HG:Hid (w.heap.size+2<w1.heap.size):=HO1.out.lt;clear hb1 ho1 HB0
 go_upto_region 3 with (refine zab rfl 196 (.tmp 6) (.tmp 9) rfl w1.heap.size (n8 a) rr rr 196 o8 (by exact Blk.new' rfl rfl) (by exact hdN8' _) (za4 _) (by rw[zaq];rfl) ?_;intro w2 hb2 ho2)
 have hg:=HG.out;have HZ2:=qh (ho2.blk (HZ1.out.alloc _) om);have HO2:=qh (ho2.blk (HO1.out.alloc _) om);have HS2:=qh hb2;have HE2:=qh (ho2.below (HE1.out.alloc HE1.out.size _) HE1.out.size (by simp;omega));clear hb2 ho2 hl1 hl1' HA1 HZ1 HE1 HO1 hg;go_wp2
 go_loopg [7] 256 (fun kk q wr=>∃(i o s:Nat),kk=256-i∧q=.int .i64 (i:Int)∧i≤256∧o<115792089237316195423570985008687907853269984665640564039457584007913129639936∧s<115792089237316195423570985008687907853269984665640564039457584007913129639936∧o%pr=a^(E%2^i)%pr∧s%pr=a^2^i%pr∧Blk wr (w.heap.size+1) 196 o8∧Blk wr (w.heap.size+2) 196 (n8 o)∧Blk wr w1.heap.size 196 (n8 s)∧Below w.heap.size w wr)
 case atStart=>exact⟨0,1,a,rfl,rfl,by omega,by omega,HA.out,by rw[Nat.pow_zero,Nat.mod_one,Nat.pow_zero],by rw[Nat.pow_zero,Nat.pow_one],HZ2.out,HO2.out,HS2.out,HE2.out⟩
 case round =>
  clear HZ2 HO2 HS2 HE2;obtain⟨i,o,s,hgk,rfl,hi,ho,hs,hom,hsm,hZ,hO,hS,hE⟩:=hrel
  rcases Nat.lt_or_ge i 256 with hlt|hge
  · have hlt2:(i:Int)<256:=om
    obtain⟨q,hq⟩:=ex9 (i/8);obtain⟨r,hr⟩:=ex9 (i%8);obtain⟨b,off,x,rfl,hbw,hux,hcw⟩:=HR.out.u8 (k:=q) om;obtain⟨X,hX⟩:=ex9 (x.toNat);have hcx:wr.cell? ⟨b,off+q,none⟩=some (.int .u8 (X:Int)):=(hE.cell hbw).trans (hX ▸ hcw);have hX8:X<256:=by rw[hX];exact x.toNat_lt
    have hqi:(i:Int)/8=(q:Int):=om;have hri:(i:Int)%8=(r:Int):=om;have hq32:(q:Int)<32:=om;have hr8:(r:Int)<8:=om;have hr0:(0:Int)≤(r:Int):=om;obtain⟨y,hyd⟩:=ex9 (X/2^r);have hy:(X:Int)/2^r=(y:Int):=by rw[hyd];push_cast;rfl
    have hy8:y<256:=by rw[hyd];exact Nat.lt_of_le_of_lt (Nat.div_le_self _ _) hX8
    have HBIT:Hid (E/2^i%2=y%2):=by
     show _=_
     rw[←HKB.out i,kbit,←hq,←hr,gd9,hux]
     show(x.toNat/2^r%2 == 1).toNat=_
     rw[←hX,←hyd]
     rcases Nat.mod_two_eq_zero_or_one y with h3|h3 <;> rw[h3] <;> rfl
    have HSQ:=qh (fun W=>zqg s s W hs hs);have HOS:=qh (fun W=>zqg o s W ho hs);have HNS:=qh (zwq a i s hsm);have HOM:=qh hom;have HSM:=qh hsm;have HOL:=qh ho;have HGK:=qh hgk;have hlS:=zav hS;have hlO:=zav hO;have HZ:=qh hZ;have HO:=qh hO;have HS:=qh hS;have HE:=qh hE;have hg:=HG.out;have HXE:Hid (w.heap.size≤w1.heap.size):=(by show _≤_;omega);clear hZ hO hS hE hgk hom hsm ho hs hyd hq hr hX hcw hux hbw hg
    rcases Nat.mod_two_eq_zero_or_one y with h01|h01
    · have hyi:(y:Int)%2=0:=om
      rw[h01]at HBIT;have HN:=qh (zwr a E i HBIT.out o HOM.out);clear h01 hlO
      go_wp2_with (first
       | (go_at_call 122;(with_reducible refine(HSQ.out _).mono ?_);rintro e w3 ⟨rfl,hB⟩;have HZ3:=qbl HZ hB;have HO3:=qbl HO hB;have HS3:=qbl HS hB;have HE3:=qtr HE hB;clear hB)
       | (refine zab rfl 196 (.tmp 6) (.tmp 32) rfl w1.heap.size (n8 (s*s%pr)) rr rr 196 _ HS3.out (by exact hdN8' _) (za4 _) (by rw[zaq,zaq]) ?_;intro w4 hb4 ho4;have HS4:=qh hb4;have HZ4:=qh (ho4.blk HZ3.out (by have:=HG.out;omega));have HO4:=qh (ho4.blk HO3.out (by have:=HG.out;omega));have HE4:=qh (ho4.below HE3.out HXE.out HE3.out.size);clear hb4 ho4))
      go_roundg (256-(i+1))
      case measure=>have:=HGK.out;omega
      case rel=>exact⟨i+1,o,s*s%pr,rfl,by go_num,by omega,HOL.out,pr_lt _,HN.out,by rw[Nat.mod_mod];exact HNS.out,HZ4.out,HO4.out,HS4.out,HE4.out⟩
    · have hyi:(y:Int)%2=1:=om
      rw[h01]at HBIT;have HN:=qh (pow_one a E i HBIT.out o s HOM.out HSM.out);clear h01
      go_wp2_with (first
       | (go_at_call 122;(with_reducible refine(HSQ.out _).mono ?_);rintro e w5 ⟨rfl,hB⟩;have HZ5:=qbl HZ4 hB;have HO5:=qbl HO4 hB;have HS5:=qbl HS4 hB;have HE5:=qtr HE4 hB;clear hB)
       | (refine zab rfl 196 (.tmp 6) (.tmp 32) rfl w1.heap.size (n8 (s*s%pr)) rr rr 196 _ HS5.out (by exact hdN8' _) (za4 _) (by rw[zaq,zaq]) ?_;intro w6 hb4 ho4;have HS6:=qh hb4;have HZ6:=qh (ho4.blk HZ5.out (by have:=HG.out;omega));have HO6:=qh (ho4.blk HO5.out (by have:=HG.out;omega));have HE6:=qh (ho4.below HE5.out HXE.out HE5.out.size);clear hb4 ho4)
       | (go_at_call 122;(with_reducible refine(HOS.out _).mono ?_);rintro e w3 ⟨rfl,hB⟩;have HZ3:=qbl HZ hB;have HO3:=qbl HO hB;have HS3:=qbl HS hB;have HE3:=qtr HE hB;clear hB)
       | (refine zab rfl 196 (.tmp 5) (.tmp 29) rfl (w.heap.size+2) (n8 (o*s%pr)) rr rr 196 _ HO3.out (by exact hdN8' _) (za4 _) (by rw[zaq,zaq]) ?_;intro w4 hb4 ho4;have HO4:=qh hb4;have HZ4:=qh (ho4.blk HZ3.out om);have HS4:=qh (ho4.blk HS3.out (by have:=HG.out;omega));have HE4:=qh (ho4.below HE3.out om HE3.out.size);have hlS4:=zav HS4.out;clear hb4 ho4))
      go_roundg (256-(i+1))
      case measure=>have:=HGK.out;omega
      case rel=>exact⟨i+1,o*s%pr,s*s%pr,rfl,by go_num,by omega,pr_lt _,pr_lt _,by rw[Nat.mod_mod];exact HN.out,by rw[Nat.mod_mod];exact HNS.out,HZ6.out,HO6.out,HS6.out,HE6.out⟩
  · obtain rfl:i=256:=om
    have hlt2:¬((256:Nat):Int)<256:=om;rw[Nat.mod_eq_of_lt HEL.out]at hom;have HNO:=qh (fun W=>zee o ho W);rw[hom]at HNO;have hlO:=zav hO;have HZ:=qh hZ;have HE:=qh hE;clear hZ hO hS hE hgk hom hsm ho hs
    go_wp2_with (first
     | (go_at_call 151;(with_reducible refine(HNO.out _).mono ?_);rintro e w3 ⟨rfl,hB⟩;have HZ3:=qbl HZ hB;have HE3:=qtr HE hB;clear hB)
     | (refine zab rfl 196 (.tmp 4) (.tmp 34) rfl (w.heap.size+1) (n8 (a^E%pr)) rr rr 196 _ HZ3.out (by exact hdN8' _) (za4 _) (by rw[zaq];rfl) ?_;intro w4 hb4 ho4;have HB4:=qh hb4;have HE4:=qh (ho4.below HE3.out om HE3.out.size);clear hb4 ho4))
    exact bodyPost_ret (zam rfl _ _ _ _ rfl HB4.out _ Tryz.underlying196 rfl (by exact hdN8' _)) rfl ⟨rfl,HE4.out⟩
end
end Go.Proofs.YtpgpaenloaphaaaGreat
