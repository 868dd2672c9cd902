/- Part of the proof. -/
import Derived.Laws.Externs
import Derived.Shelf.Spec.BitsCarry
import Derived.Deep.DeepCutAuto
import Derived.Test.YtadopcjppijgiaaGreatSkp04
set_option linter.all false
set_option maxRecDepth 100000
set_option maxHeartbeats 0
namespace Go.Proofs.YtadopcjppijgiaaGreat
open Go.RowKit
theorem zdv(x y c:Nat)(hc:c≤1)(w:World):(callFunc 139 #[.int .u64 (x:Int),.int .u64 (y:Int),.int .u64 (c:Int)]).run Tryz.prog w =
 .ok (.value (.tuple #[.int .u64 (((x+y+c)%18446744073709551616:Nat):Int),.int .u64 (((x+y+c)/18446744073709551616:Nat):Int)])) w:=by
 rw[run_callFunc_extern (fn:=Tryz.f139) kr kr kr kr (e:=add64Entry) kr,run_add64 x y c om om om om];simp only[Result.andThen]
 congr 5 <;> omega
theorem zkq(x y b:Nat)(hb:b≤1)(w:World):(callFunc 141 #[.int .u64 (x:Int),.int .u64 (y:Int),.int .u64 (b:Int)]).run Tryz.prog w =
 .ok (.value (.tuple #[.int .u64 (((x+18446744073709551616-y-b)%18446744073709551616:Nat):Int),.int .u64 ((if x<y+b then 1 else 0:Nat):Int)])) w:=by
 rw[run_callFunc_extern (fn:=Tryz.f141) kr kr kr kr (e:=Go.Proofs.sub64Entry) kr,Go.Proofs.run_sub64 x y b hb]
 rfl
theorem and32(x:Nat)(hx:x<18446744073709551616):bits .and .u64 (x:Int) 4294967295=((x%4294967296:Nat):Int):=by
 refine(u64_and_nat x 4294967295 om om).trans ?_;rw[show(4294967295:Nat)=2^32-1 by rfl,Nat.and_two_pow_sub_one_eq_mod]
theorem zsk(x y:Nat)(hx:x<18446744073709551616)(hy:y<18446744073709551616)(w:World):
 Calls Tryz.prog 154 #[.int .u64 (x:Int),.int .u64 (y:Int)] w fun e w'=>e=.returned (.tuple #[.int .u64 ((x*y/18446744073709551616:Nat):Int),.int .u64 ((x*y%18446744073709551616:Nat):Int)])∧w=w':=by
 obtain⟨x0,X⟩:=ex9 (x%4294967296);obtain⟨x1,a5⟩:=ex9 (x/4294967296);obtain⟨y0,Y⟩:=ex9 (y%4294967296);obtain⟨y1,a4⟩:=ex9 (y/4294967296);have a1:bits .and .u64 (x:Int) 4294967295=(x0:Int):=by rw[and32 x hx,X]
 have a2:bits .and .u64 (y:Int) 4294967295=(y0:Int):=by rw[and32 y hy,Y]
 have d1:(x:Int)/4294967296=(x1:Int):=om;have d2:(y:Int)/4294967296=(y1:Int):=om;have b0:x0≤4294967295:=om;have b1:x1≤4294967295:=om;have b2:y0≤4294967295:=om;have b3:y1≤4294967295:=om;have ex:x=x1*4294967296+x0:=om;have ey:y=y1*4294967296+y0:=om;obtain⟨D,I⟩:=ex9 (x0*y0);obtain⟨E,G⟩:=ex9 (x1*y0);obtain⟨A,U⟩:=ex9 (x0*y1);obtain⟨r,J⟩:=ex9 (x1*y1);have a0:D≤4294967295*4294967295:=by rw[I];exact Nat.mul_le_mul b0 b2
 have a8:E≤4294967295*4294967295:=by rw[G];exact Nat.mul_le_mul b1 b2
 have a7:A≤4294967295*4294967295:=by rw[U];exact Nat.mul_le_mul b0 b3
 have a6:r≤4294967295*4294967295:=by rw[J];exact Nat.mul_le_mul b1 b3
 have V:x*y=r*18446744073709551616+(E+A)*4294967296+D:=by
  rw[I,G,U,J,ex,ey];simp only[Nat.add_mul,Nat.mul_add];have e1:x1*4294967296*(y1*4294967296)=x1*y1*18446744073709551616:=by rw[Nat.mul_mul_mul_comm]
  have e2:x1*4294967296*y0=x1*y0*4294967296:=by rw[Nat.mul_right_comm]
  have e3:x0*(y1*4294967296)=x0*y1*4294967296:=by rw[Nat.mul_assoc]
  omega
 have b5:(x0:Int)*(y0:Int)=(D:Int):=by rw[I];exact(Int.natCast_mul _ _).symm
 have b6:(x1:Int)*(y0:Int)=(E:Int):=by rw[G];exact(Int.natCast_mul _ _).symm
 have a9:(x0:Int)*(y1:Int)=(A:Int):=by rw[U];exact(Int.natCast_mul _ _).symm
 have b9:(x1:Int)*(y1:Int)=(r:Int):=by rw[J];exact(Int.natCast_mul _ _).symm
 obtain⟨M,hM⟩:=ex9 (x*y);have mM:(x:Int)*(y:Int)=(M:Int):=by rw[hM];exact(Int.natCast_mul _ _).symm
 rw[←hM]at V ⊢;obtain⟨t,ht⟩:=ex9 (E+D/4294967296);obtain⟨v,hv⟩:=ex9 (t%4294967296+A);have b7:(E:Int)+(D:Int)/4294967296=(t:Int):=om;have at_:bits .and .u64 (t:Int) 4294967295=((t%4294967296:Nat):Int):=and32 t om
 have HR:Hid ((((M/18446744073709551616:Nat):Int)=(r:Int)+(t:Int)/4294967296+(v:Int)/4294967296)∧v<18446744073709551616):=by
  constructor <;> omega
 have a3:Hid (((M%18446744073709551616:Nat):Int)=(M:Int)%18446744073709551616):=by show _=_;omega
 have t1:(0:Int)≤(t:Int):=om;have t2:(t:Int)<18446744073709551616:=om;have t3:(0:Int)≤(A:Int):=om;have t4:(A:Int)≤18446744065119617025:=om;have t5:(D:Int)≤18446744065119617025:=om;have t6:(E:Int)≤18446744065119617025:=om;have t7:(r:Int)≤18446744065119617025:=om;have b4:(t:Int)%4294967296+(A:Int)=(v:Int):=om;have v1:(v:Int)<18446744073709551616:=om;have s1:(r:Int)+(t:Int)/4294967296<18446744073709551616:=om;have s2:(r:Int)+(t:Int)/4294967296+(v:Int)/4294967296<18446744073709551616:=om;clear X a5 Y a4 I G U J hM ht hv V ex ey a0 a8 a7 a6 b0 b1 b2 b3 hx hy
 go_enter Tryz.func154, Tryz.ntmps154
 go_wp2_with fail
 go_ret2;exact⟨by rw[HR.o.1,a3.o,←IntKind.wrap_u64];rfl,rfl⟩
section
def l4(a b c d:Nat):List Value:=[.int .u64 (a:Int),.int .u64 (b:Int),.int .u64 (c:Int),.int .u64 (d:Int)]
theorem hdEl:(Tryz.prog.info? 146).map (·.size)=some 4:=by kernel_rfl
theorem zc3(v:Value):Instr.loadAt 146 v=ldAt 146 v:=rfl
attribute [local go_sem ↓] zc3
theorem el_ld{w:World}{g:Nat}{t:TypeId}{a b c d:Nat}(hb:Blk w g t (l4 a b c d)):(ldAt 146 (.pointer (some ⟨g,0,none⟩))).run Tryz.prog w=.ok (.agg (l4 a b c d).toArray) w :=
 zal hb _ 0 (l4 a b c d) rfl _ Tryz.underlying146 rfl hdEl
theorem zei(a b c d:Nat):∀v∈l4 a b c d,v.oneCell'=true:=by
 intro v hv;simp only[l4,List.mem_cons,List.not_mem_nil,or_false]at hv
 rcases hv with rfl|rfl|rfl|rfl <;> rfl
theorem zgn(a0 a1 a2 a3 n:Nat)(h0:a0<18446744073709551616)(h1:a1<18446744073709551616)(h2:a2<18446744073709551616)(h3:a3<18446744073709551616)(hn:n<18446744073709551616)(w:World):
 Calls Tryz.prog 117 #[.agg (l4 a0 a1 a2 a3).toArray,.int .u64 (n:Int)] w fun e w'=>∃s0 s1 s2 s3 k:Nat,e=.returned (.tuple #[.agg (l4 s0 s1 s2 s3).toArray,.int .u64 (k:Int)])∧(s0<18446744073709551616∧s1<18446744073709551616∧s2<18446744073709551616∧s3<18446744073709551616∧k≤1 ∧
   s0+s1*18446744073709551616+s2*340282366920938463463374607431768211456+s3*6277101735386680763835789423207666416102355444464034512896+k*115792089237316195423570985008687907853269984665640564039457584007913129639936=a0+a1*18446744073709551616+a2*340282366920938463463374607431768211456+a3*6277101735386680763835789423207666416102355444464034512896+n)∧Below w.heap.size w w':=by
 obtain⟨s0,M⟩:=ex9 ((a0+n+0)%18446744073709551616);obtain⟨k1,J⟩:=ex9 ((a0+n+0)/18446744073709551616);have e0:=fun W=>zdv a0 n 0 om W
 rw[←M,←J]at e0;obtain⟨s1,Y⟩:=ex9 ((a1+0+k1)%18446744073709551616);obtain⟨k2,G⟩:=ex9 ((a1+0+k1)/18446744073709551616);have e1:=fun W=>zdv a1 0 k1 om W
 rw[←Y,←G]at e1;obtain⟨s2,a6⟩:=ex9 ((a2+0+k2)%18446744073709551616);obtain⟨k3,a7⟩:=ex9 ((a2+0+k2)/18446744073709551616);have e2:=fun W=>zdv a2 0 k2 om W
 rw[←a6,←a7]at e2;obtain⟨s3,I⟩:=ex9 ((a3+0+k3)%18446744073709551616);obtain⟨k4,a4⟩:=ex9 ((a3+0+k3)/18446744073709551616);have e3:=fun W=>zdv a3 0 k3 om W
 rw[←I,←a4]at e3
 have a5:Hid (s0<18446744073709551616∧s1<18446744073709551616∧s2<18446744073709551616∧s3<18446744073709551616∧k4≤1 ∧
     s0+s1*18446744073709551616+s2*340282366920938463463374607431768211456+s3*6277101735386680763835789423207666416102355444464034512896+k4*115792089237316195423570985008687907853269984665640564039457584007913129639936=a0+a1*18446744073709551616+a2*340282366920938463463374607431768211456+a3*6277101735386680763835789423207666416102355444464034512896+n):=by
  refine⟨by omega,by omega,by omega,by omega,by omega,by omega⟩
 have b3:Hid (∀W,(callFunc 139 #[.int .u64 (a0:Int),.int .u64 (n:Int),.int .u64 0]).run Tryz.prog W=.ok (.value (.tuple #[.int .u64 (s0:Int),.int .u64 (k1:Int)])) W):=e0;have b4:Hid (∀W,(callFunc 139 #[.int .u64 (a1:Int),.int .u64 0,.int .u64 (k1:Int)]).run Tryz.prog W=.ok (.value (.tuple #[.int .u64 (s1:Int),.int .u64 (k2:Int)])) W):=e1;have b2:Hid (∀W,(callFunc 139 #[.int .u64 (a2:Int),.int .u64 0,.int .u64 (k2:Int)]).run Tryz.prog W=.ok (.value (.tuple #[.int .u64 (s2:Int),.int .u64 (k3:Int)])) W):=e2;have a9:Hid (∀W,(callFunc 139 #[.int .u64 (a3:Int),.int .u64 0,.int .u64 (k3:Int)]).run Tryz.prog W=.ok (.value (.tuple #[.int .u64 (s3:Int),.int .u64 (k4:Int)])) W):=e3;clear e0 e1 e2 e3 M J Y G a6 a7 I a4 h0 h1 h2 h3 hn
 go_enter Tryz.func117, Tryz.ntmps117
 have c0:∀o,((w.alloc (.cells (l4 a0 a1 a2 a3).toArray 146)).alloc o).cell? ⟨w.heap.size,0,none⟩=some (.int .u64 (a0:Int)):=fun o=>(((Blk.new w _ _).alloc o).cell 0).trans rfl
 have f0:∀o,((w.alloc (.cells (l4 a0 a1 a2 a3).toArray 146)).alloc o).frozen? ⟨w.heap.size,0,none⟩=false:=fun o=>((Blk.new w _ _).alloc o).frozen 0
 go_wp2_with (simp only[b3.o])
 clear c0 f0
 go_loopg [6,7] 3 (fun kk q6 q7 wr=>∃(i c:Nat) (C:List Value),kk=4-i∧q7=.int .i64 (i:Int)∧q6=.int .u64 (c:Int)∧Blk wr w.heap.size 146 C∧Blk wr (w.heap.size+1) 146 (l4 0 0 0 0)∧Below w.heap.size w wr ∧
   ((i=1∧c=k1∧C=l4 s0 a1 a2 a3)∨(i=2∧c=k2∧C=l4 s0 s1 a2 a3)∨(i=3∧c=k3∧C=l4 s0 s1 s2 a3)∨(i=4∧c=k4∧C=l4 s0 s1 s2 s3)))
 case atStart=>exact⟨1,k1,l4 s0 a1 a2 a3,rfl,rfl,rfl,(Blk.new' rfl rfl).alloc _,Blk.new' sy rfl,((Below.refl _ w).alloc lr _).alloc sy _,.inl ⟨rfl,rfl,rfl⟩⟩
 case round =>
  obtain⟨i,cy,C,b5,rfl,rfl,hb,hz,hB,E⟩:=hrel
  rcases E with ⟨rfl,rfl,rfl⟩|⟨rfl,rfl,rfl⟩|⟨rfl,rfl,rfl⟩|⟨rfl,rfl,rfl⟩
  · have cc:wr.cell? ⟨w.heap.size,1,none⟩=some (.int .u64 (a1:Int)):=(hb.cell 1).trans rfl
    have ff:=hb.frozen 1;have D:Hid (Blk (wr.setCell ⟨w.heap.size,1,none⟩ (.int .u64 (s1:Int))) w.heap.size 146 (l4 s0 s1 a2 a3)):=hb.set_ 1 (.int .u64 (s1:Int));have A:=qh (hz.far (p:=⟨w.heap.size,1,none⟩) (Nat.succ_ne_self _) (.int .u64 (s1:Int)));have r:=qh (hB.setCell (p:=⟨w.heap.size,1,none⟩) lr (.int .u64 (s1:Int)));clear hb hz hB
    go_wp2_with (simp only[b4.o])
    go_roundg 2
    case measure=>omega
    case rel=>exact⟨2,k2,l4 s0 s1 a2 a3,rfl,by go_num,rfl,D.o,A.o,r.o,.inr (.inl ⟨rfl,rfl,rfl⟩)⟩
  · have cc:wr.cell? ⟨w.heap.size,2,none⟩=some (.int .u64 (a2:Int)):=(hb.cell 2).trans rfl
    have ff:=hb.frozen 2;have D:Hid (Blk (wr.setCell ⟨w.heap.size,2,none⟩ (.int .u64 (s2:Int))) w.heap.size 146 (l4 s0 s1 s2 a3)):=hb.set_ 2 (.int .u64 (s2:Int));have A:=qh (hz.far (p:=⟨w.heap.size,2,none⟩) (Nat.succ_ne_self _) (.int .u64 (s2:Int)));have r:=qh (hB.setCell (p:=⟨w.heap.size,2,none⟩) lr (.int .u64 (s2:Int)));clear hb hz hB
    go_wp2_with (simp only[b2.o])
    go_roundg 1
    case measure=>omega
    case rel=>exact⟨3,k3,l4 s0 s1 s2 a3,rfl,by go_num,rfl,D.o,A.o,r.o,.inr (.inr (.inl ⟨rfl,rfl,rfl⟩))⟩
  · have cc:wr.cell? ⟨w.heap.size,3,none⟩=some (.int .u64 (a3:Int)):=(hb.cell 3).trans rfl
    have ff:=hb.frozen 3;have D:Hid (Blk (wr.setCell ⟨w.heap.size,3,none⟩ (.int .u64 (s3:Int))) w.heap.size 146 (l4 s0 s1 s2 s3)):=hb.set_ 3 (.int .u64 (s3:Int));have A:=qh (hz.far (p:=⟨w.heap.size,3,none⟩) (Nat.succ_ne_self _) (.int .u64 (s3:Int)));have r:=qh (hB.setCell (p:=⟨w.heap.size,3,none⟩) lr (.int .u64 (s3:Int)));clear hb hz hB
    go_wp2_with (simp only[a9.o])
    go_roundg 0
    case measure=>omega
    case rel=>exact⟨4,k4,l4 s0 s1 s2 s3,rfl,by go_num,rfl,D.o,A.o,r.o,.inr (.inr (.inr ⟨rfl,rfl,rfl⟩))⟩
  · have b6:=el_ld hb
    have HZ:=qh hz;have V:=qh hB;clear hb hz hB
    go_wp2_with ((refine zab rfl 146 (.tmp 4) (.tmp 30) rfl (w.heap.size+1) (l4 s0 s1 s2 s3) rr rr 146 _ HZ.o (by exact hdEl) (zei _ _ _ _) rfl ?_;intro w5 X U;have a8:=qh X;have b1:=qh (U.below V.o (Nat.le_succ _) V.o.size);clear X U))
    exact bodyPost_ret (zak rfl _ _ _ _ rfl a8.o _ Tryz.underlying146 rfl (by exact hdEl)) rfl ⟨s0,s1,s2,s3,_,rfl,a5.o,b1.o⟩
theorem and63(x:Nat)(hx:x<18446744073709551616):bits .and .u64 (x:Int) 9223372036854775807=((x%9223372036854775808:Nat):Int):=by
 refine(u64_and_nat x 9223372036854775807 om om).trans ?_;rw[show(9223372036854775807:Nat)=2^63-1 by rfl,Nat.and_two_pow_sub_one_eq_mod]
def v4(a b c d:Nat):Nat:=a+b*18446744073709551616+c*340282366920938463463374607431768211456+d*6277101735386680763835789423207666416102355444464034512896
def pr:Nat:=57896044618658097711785492504343953926634992332820282019728792003956564819949
end
section
attribute [local go_sem ↓] zc3
theorem zfi(a0 a1 a2 a3:Nat)(h0:a0<18446744073709551616)(h1:a1<18446744073709551616)(h2:a2<18446744073709551616)(h3:a3<18446744073709551616)(w:World):
 Calls Tryz.prog 94 #[.agg (l4 a0 a1 a2 a3).toArray] w fun e w'=>∃s0 s1 s2 s3 q:Nat,e=.returned (.agg (l4 s0 s1 s2 s3).toArray)∧(s0<18446744073709551616∧s1<18446744073709551616∧s2<18446744073709551616∧s3<18446744073709551616∧v4 s0 s1 s2 s3<pr∧v4 a0 a1 a2 a3=v4 s0 s1 s2 s3+q*pr)∧Below w.heap.size w w':=by
 obtain⟨t,ht⟩:=ex9 (a3/9223372036854775808);obtain⟨b3,b1⟩:=ex9 (a3%9223372036854775808);have e1:(a3:Int)/9223372036854775808=(t:Int):=om;have e2:bits .and .u64 (a3:Int) 9223372036854775807=(b3:Int):=by rw[and63 a3 h3,b1]
 have t0:(0:Int)≤(t:Int):=om;have t1:(t:Int)≤1:=om;obtain⟨n,hn⟩:=ex9 (19*t);have e3:(19:Int)*(t:Int)=(n:Int):=om;have d4:=qh (fun W=>zgn a0 a1 a2 b3 n h0 h1 h2 om om W);have b4:Hid (b3<9223372036854775808∧n=19*t∧t≤1∧a3=t*9223372036854775808+b3∧a0<18446744073709551616∧a1<18446744073709551616∧a2<18446744073709551616):=⟨by omega,hn,by omega,by omega,h0,h1,h2⟩;have c3:∀o,((w.alloc (.cells (l4 a0 a1 a2 a3).toArray 146)).alloc o).cell? ⟨w.heap.size,3,none⟩=some (.int .u64 (a3:Int)):=fun o=>(((Blk.new w _ _).alloc o).cell 3).trans rfl
 have f3:∀o,((w.alloc (.cells (l4 a0 a1 a2 a3).toArray 146)).alloc o).frozen? ⟨w.heap.size,3,none⟩=false:=fun o=>((Blk.new w _ _).alloc o).frozen 3
 have a6:∀o,(ldAt 146 (.pointer (some ⟨w.heap.size,0,none⟩))).run Tryz.prog ((w.alloc (.cells ((l4 a0 a1 a2 a3).set 3 (.int .u64 (b3:Int))).toArray 146)).alloc o)=.ok (.agg (l4 a0 a1 a2 b3).toArray) ((w.alloc (.cells ((l4 a0 a1 a2 a3).set 3 (.int .u64 (b3:Int))).toArray 146)).alloc o):=fun o=>el_ld ((Blk.new w 146 (l4 a0 a1 a2 b3)).alloc o)
 have c8:Hid (∀o,Blk ((w.alloc (.cells ((l4 a0 a1 a2 a3).set 3 (.int .u64 (b3:Int))).toArray 146)).alloc o) w.heap.size 146 (l4 a0 a1 a2 b3)):=fun o=>(Blk.new w 146 (l4 a0 a1 a2 b3)).alloc o
 have d0:Hid (∀o,Below w.heap.size w ((w.alloc (.cells ((l4 a0 a1 a2 a3).set 3 (.int .u64 (b3:Int))).toArray 146)).alloc o)):=fun o=>((Below.refl _ w).alloc lr _).alloc sy _
 clear ht b1 hn h0 h1 h2 h3
 go_enter Tryz.func94, Tryz.ntmps94
 have c1:Hid (∀W,W=(w.alloc (.cells ((l4 a0 a1 a2 a3).set 3 (.int .u64 (b3:Int))).toArray 146)).alloc (.cells (l4 0 0 0 0).toArray 146)→Blk W (w.heap.size+1) 146 (l4 0 0 0 0)):=fun W hW=>hW ▸ Blk.new' sy rfl
 go_upto_region 4 with (first
  | (go_at_call 117;(with_reducible refine(d4.o _).mono ?_);rintro e w1 ⟨s0,s1,s2,s3,k,rfl,hv,r⟩;have d5:=qh ((c8.o _).below r (by simp <;> omega));have b9:=qh ((c1.o _ rfl).below r (by simp <;> omega));have b5:=qh ((d0.o _).trans (r.mono (by simp <;> omega)));have A:=qh hv;clear r hv)
  | (refine zab rfl 146 (.tmp 1) (.tmp 18) rfl w.heap.size (l4 s0 s1 s2 s3) rr rr 146 _ d5.o (by exact hdEl) (zei _ _ _ _) rfl ?_;intro w2 a9 U;have a8:=qh a9;have c6:=qh (U.below b5.o lr b5.o.size);have d3:=qh (U.blk b9.o om);clear a9 U))
 have c0:Hid (∀W,Calls Tryz.prog 117 #[.agg (l4 s0 s1 s2 s3).toArray,.int .u64 19] W fun e w'=>∃r0 r1 r2 r3 k:Nat,e=.returned (.tuple #[.agg (l4 r0 r1 r2 r3).toArray,.int .u64 (k:Int)])∧(r0<18446744073709551616∧r1<18446744073709551616∧r2<18446744073709551616∧r3<18446744073709551616∧k≤1 ∧
     r0+r1*18446744073709551616+r2*340282366920938463463374607431768211456+r3*6277101735386680763835789423207666416102355444464034512896+k*115792089237316195423570985008687907853269984665640564039457584007913129639936=s0+s1*18446744073709551616+s2*340282366920938463463374607431768211456+s3*6277101735386680763835789423207666416102355444464034512896+19)∧Below W.heap.size W w') :=
  fun W=>zgn s0 s1 s2 s3 19 A.o.1 A.o.2.1 A.o.2.2.1 A.o.2.2.2.1 om W
 have c5:=el_ld a8.o
 go_upto_region 5 with (first
  | (go_at_call 117;(with_reducible refine(c0.o _).mono ?_);rintro e w3 ⟨r0,r1,r2,r3,k2,rfl,hv,r⟩;have b2:=qbl a8 r;have V:=qbl d3 r;have E:=qtr c6 r;have X:=qh hv;clear r hv)
  | (refine zab rfl 146 (.tmp 4) (.tmp 23) rfl w3.heap.size (l4 r0 r1 r2 r3) rr rr 146 (l4 0 0 0 0) (by exact Blk.new' rfl rfl) (by exact hdEl) (zei _ _ _ _) rfl ?_;intro w4 b6 J;have a5:=qh b6;have Y:=qh (J.below (E.o.alloc E.o.size _) E.o.size (by have:=E.o.size;simp;omega));have c9:=qal J b2 (by have:=b2.o.lt;omega);have b7:=qal J V (by have:=V.o.lt;omega);clear b6 J))
 clear c5;have cc:w4.cell? ⟨w3.heap.size,3,none⟩=some (.int .u64 (r3:Int)):=(a5.o.cell 3).trans rfl;have ff:=a5.o.frozen 3;have M:=X.o.2.2.2.1
 rcases Nat.lt_or_ge r3 9223372036854775808 with hu|hu
 · have ee:(r3:Int)/9223372036854775808=0:=om
   have d6:=el_ld c9.o;have HU:=qh hu;clear hu M c3 f3 a6 t0 t1
   go_wp2_with ((refine zab rfl 146 (.tmp 2) (.tmp 29) rfl (w.heap.size+1) (l4 s0 s1 s2 s3) rr rr 146 _ b7.o (by exact hdEl) (zei _ _ _ _) rfl ?_;intro w5 G D;have a4:=qh G;have I:=qh (D.below Y.o (Nat.le_succ _) Y.o.size);clear G D))
   refine bodyPost_ret (zan rfl _ _ _ _ rfl a4.o _ Tryz.underlying146 rfl (by exact hdEl)) rfl ⟨s0,s1,s2,s3,t,rfl,?_,I.o⟩;have h1:=A.o;have h2:=X.o;have h3:=b4.o;have h4:=HU.o;simp only[v4,pr];refine⟨h1.1,h1.2.1,h1.2.2.1,h1.2.2.2.1,?_,?_⟩ <;> omega
 · have ee:(r3:Int)/9223372036854775808=1:=om
   obtain⟨q3,a7⟩:=ex9 (r3%9223372036854775808);have eb:bits .and .u64 (r3:Int) 9223372036854775807=(q3:Int):=by rw[and63 r3 M,a7]
   have HU:Hid (r3=q3+9223372036854775808∧q3<9223372036854775808):=⟨by omega,by omega⟩;have c4:Hid (Blk (w4.setCell ⟨w3.heap.size,3,none⟩ (.int .u64 (q3:Int))) w3.heap.size 146 (l4 r0 r1 r2 q3)):=a5.o.set_ 3 (.int .u64 (q3:Int));have d7:=el_ld c4.o;have c2:=qh (b7.o.far (p:=⟨w3.heap.size,3,none⟩) (by have:=V.o.lt;simp;omega) (.int .u64 (q3:Int)));have I:=qh (Y.o.setCell (p:=⟨w3.heap.size,3,none⟩) E.o.size (.int .u64 (q3:Int)));clear hu M a7 c3 f3 a6 t0 t1
   go_wp2_with ((refine zab rfl 146 (.tmp 2) (.tmp 34) rfl (w.heap.size+1) (l4 r0 r1 r2 q3) rr rr 146 _ c2.o (by exact hdEl) (zei _ _ _ _) rfl ?_;intro w5 G D;have a4:=qh G;have c7:=qh (D.below I.o (Nat.le_succ _) I.o.size);clear G D))
   refine bodyPost_ret (zan rfl _ _ _ _ rfl a4.o _ Tryz.underlying146 rfl (by exact hdEl)) rfl ⟨r0,r1,r2,q3,t+1,rfl,?_,c7.o⟩;have h1:=A.o;have h2:=X.o;have h3:=b4.o;have h4:=HU.o;simp only[v4,pr];refine⟨h2.1,h2.2.1,h2.2.2.1,by omega,?_,?_⟩ <;> omega
end
theorem mul_lt(x y:Nat)(hx:x<18446744073709551616)(hy:y<18446744073709551616):x*y≤(18446744073709551616-1)*(18446744073709551616-1):=Nat.mul_le_mul om om
theorem znp(x y c d:Nat)(hx:x<18446744073709551616)(hy:y<18446744073709551616)(hc:c<18446744073709551616)(hd:d<18446744073709551616)(w:World):
 Calls Tryz.prog 142 #[.int .u64 (x:Int),.int .u64 (y:Int),.int .u64 (c:Int),.int .u64 (d:Int)] w fun e w'=>∃lo hi:Nat,e=.returned (.tuple #[.int .u64 (lo:Int),.int .u64 (hi:Int)])∧lo<18446744073709551616∧hi<18446744073709551616∧hi*18446744073709551616+lo=x*y+c+d∧w=w':=by
 have hm:=mul_lt x y hx hy;obtain⟨p,hp⟩:=ex9 (x*y);rw[←hp]at hm;have HM:Hid (∀W,Calls Tryz.prog 154 #[.int .u64 (x:Int),.int .u64 (y:Int)] W fun e w'=>e=.returned (.tuple #[.int .u64 ((p/18446744073709551616:Nat):Int),.int .u64 ((p%18446744073709551616:Nat):Int)])∧W=w'):=hp ▸ fun W=>zsk x y hx hy W
 obtain⟨h,hh⟩:=ex9 (p/18446744073709551616);obtain⟨l,hl⟩:=ex9 (p%18446744073709551616);rw[←hh,←hl]at HM;obtain⟨l1,E⟩:=ex9 ((l+c+0)%18446744073709551616);obtain⟨k1,A⟩:=ex9 ((l+c+0)/18446744073709551616);obtain⟨l2,D⟩:=ex9 ((l1+d+0)%18446744073709551616);obtain⟨k2,r⟩:=ex9 ((l1+d+0)/18446744073709551616);have e1:=fun W=>zdv l c 0 om W
 rw[←E,←A]at e1;have e2:=fun W=>zdv l1 d 0 om W
 rw[←D,←r]at e2;have M:Hid (∀W,(callFunc 139 #[.int .u64 (l:Int),.int .u64 (c:Int),.int .u64 0]).run Tryz.prog W=.ok (.value (.tuple #[.int .u64 (l1:Int),.int .u64 (k1:Int)])) W):=e1;have J:Hid (∀W,(callFunc 139 #[.int .u64 (l1:Int),.int .u64 (d:Int),.int .u64 0]).run Tryz.prog W=.ok (.value (.tuple #[.int .u64 (l2:Int),.int .u64 (k2:Int)])) W):=e2;obtain⟨h1,G⟩:=ex9 (h+k1);obtain⟨h2,I⟩:=ex9 (h1+k2);have b1:h1<18446744073709551616:=om;have b2:h2<18446744073709551616:=om;have w1:IntKind.u64.wrap ((h:Int)+(k1:Int))=(h1:Int):=by rw[show(h:Int)+(k1:Int)=(h1:Int) by omega];rw[IntKind.wrap_u64];omega
 have w2:IntKind.u64.wrap ((h1:Int)+(k2:Int))=(h2:Int):=by rw[show(h1:Int)+(k2:Int)=(h2:Int) by omega];rw[IntKind.wrap_u64];omega
 have HF:Hid (l2<18446744073709551616∧h2<18446744073709551616∧h2*18446744073709551616+l2=x*y+c+d):=⟨by omega,b2,by omega⟩;clear e1 e2 hm hp hh hl E A D r G I b1 b2 hx hy hc hd
 go_enter Tryz.func142, Tryz.ntmps142
 go_wp2_with (first|(go_at_call 154;(with_reducible refine(HM.o _).mono ?_);rintro e w3 ⟨rfl,rfl⟩)| (simp only[M.o])| (simp only[J.o]))
 refine bodyPost_ret (results_tmp2 rfl _ _ _) rfl ⟨l2,h2,rfl,HF.o.1,HF.o.2.1,HF.o.2.2,rfl⟩
