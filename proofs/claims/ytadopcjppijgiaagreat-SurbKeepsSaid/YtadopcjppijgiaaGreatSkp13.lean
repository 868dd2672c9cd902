/- Part of the proof. -/
import Derived.Deep.DeepCutAuto
import Derived.Test.YtadopcjppijgiaaGreatSkp10
set_option linter.all false
set_option maxRecDepth 100000
set_option maxHeartbeats 0
namespace Go.Proofs.YtadopcjppijgiaaGreat
open Go.RowKit
section
attribute [local go_sem ↓] zc3
theorem zoo{w:World}{o:Oper}{a:Act}{g:Nat}{t:TypeId}{x:Operand}{x0 x1 x2 x3:Nat}(ho:o.op=.load 146 x)(hx:a.eval x=.pointer (some ⟨g,0,none⟩))(hb:Blk w g t (l4 x0 x1 x2 x3)):(execOp a.eval o).run Tryz.prog w=.ok (.value (.agg (l4 x0 x1 x2 x3).toArray)) w :=
 zaf ho hx (el_ld hb)
theorem zw8(a0 a1 a2 a3 b0 b1 b2 b3:Nat)(h0:a0<18446744073709551616)(h1:a1<18446744073709551616)(h2:a2<18446744073709551616)(h3:a3<18446744073709551616)(g0:b0<18446744073709551616)(g1:b1<18446744073709551616)(g2:b2<18446744073709551616)(g3:b3<18446744073709551616)(w:World):
 Calls Tryz.prog 119 #[.agg (l4 a0 a1 a2 a3).toArray,.agg (l4 b0 b1 b2 b3).toArray] w fun e w'=>∃r0 r1 r2 r3 q q':Nat,e=.returned (.agg (l4 r0 r1 r2 r3).toArray)∧(r0<18446744073709551616∧r1<18446744073709551616∧r2<18446744073709551616∧r3<18446744073709551616∧v4 r0 r1 r2 r3<pr∧v4 a0 a1 a2 a3+q'*pr=v4 r0 r1 r2 r3+v4 b0 b1 b2 b3+q*pr)∧Below w.heap.size w w':=by
 have HN:=qh (fun W=>zfi b0 b1 b2 b3 g0 g1 g2 g3 W);have HM:=qh (fun W=>zfi a0 a1 a2 a3 h0 h1 h2 h3 W);clear h0 h1 h2 h3 g0 g1 g2 g3;have e4:∀o1 o2,(ldAt 146 (.pointer (some ⟨w.heap.size+1,0,none⟩))).run Tryz.prog ((((w.alloc (.cells (l4 a0 a1 a2 a3).toArray 146)).alloc (.cells (l4 b0 b1 b2 b3).toArray 146)).alloc o1).alloc o2)=.ok (.agg (l4 b0 b1 b2 b3).toArray) ((((w.alloc (.cells (l4 a0 a1 a2 a3).toArray 146)).alloc (.cells (l4 b0 b1 b2 b3).toArray 146)).alloc o1).alloc o2):=fun o1 o2=>el_ld (((Blk.new' sy rfl).alloc o1).alloc o2)
 obtain⟨W4,V⟩:=ex9 ((((w.alloc (.cells (l4 a0 a1 a2 a3).toArray 146)).alloc (.cells (l4 b0 b1 b2 b3).toArray 146)).alloc (.cells (l4 0 0 0 0).toArray 146)).alloc (.cells (l4 18446744073709551597 18446744073709551615 18446744073709551615 9223372036854775807).toArray 146));have HA:Hid (Blk W4 w.heap.size 146 (l4 a0 a1 a2 a3)):=V ▸ (((Blk.new w _ _).alloc _).alloc _).alloc _;have HB:Hid (Blk W4 (w.heap.size+1) 146 (l4 b0 b1 b2 b3)):=V ▸ ((Blk.new' sy rfl).alloc _).alloc _;have HZ:Hid (Blk W4 (w.heap.size+2) 146 (l4 0 0 0 0)):=V ▸ (Blk.new' sy rfl).alloc _;have HP:Hid (Blk W4 (w.heap.size+3) 146 (l4 18446744073709551597 18446744073709551615 18446744073709551615 9223372036854775807)):=V ▸ Blk.new' sy rfl;have HE:Hid (Below w.heap.size w W4):=V ▸ ((((Below.refl _ w).alloc lr _).alloc sy _).alloc (by simp <;> omega) _).alloc (by simp <;> omega) _
 go_enter Tryz.func119, Tryz.ntmps119
 go_wp2_with (first|((with_reducible refine(HN.o _).mono ?_);rintro e w3 ⟨n0,n1,n2,n3,q,rfl,hv,E⟩;have HV:=qh hv;have r:Below W4.heap.size W4 w3:=V ▸ E;clear hv E)| (refine zab rfl 146 (.tmp 3) (.tmp 10) rfl (w.heap.size+1) (l4 n0 n1 n2 n3) rr rr 146 _ (HB.o.below r HB.o.lt) (by exact hdEl) (zei _ _ _ _) rfl ?_;intro w5 c9 a4))
 have c4:=qh c9;have c3:=qh (a4.blk (HA.o.below r HA.o.lt) om);have a5:=qh (a4.blk (HZ.o.below r HZ.o.lt) om);have c7:=qh (a4.blk (HP.o.below r HP.o.lt) om);have Y:=qh (a4.below (HE.o.trans (r.mono HE.o.size)) om (Nat.le_trans HE.o.size r.size));have g:=HV.o;obtain⟨s0,b4⟩:=ex9 ((18446744073709551597+18446744073709551616-n0-0)%18446744073709551616);obtain⟨k1,c1⟩:=ex9 ((if 18446744073709551597<n0+0 then 1 else 0));have e0:=fun W=>zkq 18446744073709551597 n0 0 om W
 rw[←b4,←c1]at e0;have d0:Hid (∀W,(callFunc 141 #[.int .u64 18446744073709551597,.int .u64 (n0:Int),.int .u64 0]).run Tryz.prog W=.ok (.value (.tuple #[.int .u64 (s0:Int),.int .u64 (k1:Int)])) W):=e0
 have r0:s0+n0+0=18446744073709551597+k1*18446744073709551616∧s0<18446744073709551616∧k1≤1:=by
  have:=g.1;have:=g.2.1;have:=g.2.2.1;have:=g.2.2.2.1;rw[b4,c1];split <;> omega
 clear e0 b4 c1;obtain⟨s1,b6⟩:=ex9 ((18446744073709551615+18446744073709551616-n1-k1)%18446744073709551616);obtain⟨k2,a9⟩:=ex9 ((if 18446744073709551615<n1+k1 then 1 else 0));have e1:=fun W=>zkq 18446744073709551615 n1 k1 r0.2.2 W
 rw[←b6,←a9]at e1;have d7:Hid (∀W,(callFunc 141 #[.int .u64 18446744073709551615,.int .u64 (n1:Int),.int .u64 (k1:Int)]).run Tryz.prog W=.ok (.value (.tuple #[.int .u64 (s1:Int),.int .u64 (k2:Int)])) W):=e1
 have r1:s1+n1+k1=18446744073709551615+k2*18446744073709551616∧s1<18446744073709551616∧k2≤1:=by
  have:=g.1;have:=g.2.1;have:=g.2.2.1;have:=g.2.2.2.1;rw[b6,a9];split <;> omega
 clear e1 b6 a9;obtain⟨s2,a8⟩:=ex9 ((18446744073709551615+18446744073709551616-n2-k2)%18446744073709551616);obtain⟨k3,b9⟩:=ex9 ((if 18446744073709551615<n2+k2 then 1 else 0));have e2:=fun W=>zkq 18446744073709551615 n2 k2 r1.2.2 W
 rw[←a8,←b9]at e2;have d9:Hid (∀W,(callFunc 141 #[.int .u64 18446744073709551615,.int .u64 (n2:Int),.int .u64 (k2:Int)]).run Tryz.prog W=.ok (.value (.tuple #[.int .u64 (s2:Int),.int .u64 (k3:Int)])) W):=e2
 have r2:s2+n2+k2=18446744073709551615+k3*18446744073709551616∧s2<18446744073709551616∧k3≤1:=by
  have:=g.1;have:=g.2.1;have:=g.2.2.1;have:=g.2.2.2.1;rw[a8,b9];split <;> omega
 clear e2 a8 b9;obtain⟨s3,a7⟩:=ex9 ((9223372036854775807+18446744073709551616-n3-k3)%18446744073709551616);obtain⟨k4,c2⟩:=ex9 ((if 9223372036854775807<n3+k3 then 1 else 0));have e3:=fun W=>zkq 9223372036854775807 n3 k3 r2.2.2 W
 rw[←a7,←c2]at e3;have d5:Hid (∀W,(callFunc 141 #[.int .u64 9223372036854775807,.int .u64 (n3:Int),.int .u64 (k3:Int)]).run Tryz.prog W=.ok (.value (.tuple #[.int .u64 (s3:Int),.int .u64 (k4:Int)])) W):=e3
 have r3:s3+n3+k3=9223372036854775807+k4*18446744073709551616∧s3<18446744073709551616∧k4≤1:=by
  have:=g.1;have:=g.2.1;have:=g.2.2.1;have:=g.2.2.2.1;rw[a7,c2];split <;> omega
 clear e3 a7 c2
 have D:Hid (v4 s0 s1 s2 s3+v4 n0 n1 n2 n3=pr∧s0<18446744073709551616∧s1<18446744073709551616∧s2<18446744073709551616∧s3<18446744073709551616):=by
  have g5:=g.2.2.2.2.1;refine⟨?_,r0.2.1,r1.2.1,r2.2.1,r3.2.1⟩;simp only[v4,pr]at g5 ⊢;omega
 clear r0 r1 r2 r3 g c9 a4 r
 go_loopg [6,11] 4 (fun kk q6 q11 wr=>∃(i c:Nat) (C:List Value),kk=4-i∧q11=.int .i64 (i:Int)∧q6=.int .u64 (c:Int)∧Blk wr (w.heap.size+3) 146 C∧Blk wr (w.heap.size+1) 146 (l4 n0 n1 n2 n3)∧Blk wr (w.heap.size+2) 146 (l4 0 0 0 0)∧Blk wr w.heap.size 146 (l4 a0 a1 a2 a3)∧Below w.heap.size w wr ∧
   ((i=0∧c=0∧C=l4 18446744073709551597 18446744073709551615 18446744073709551615 9223372036854775807)∨(i=1∧c=k1∧C=l4 s0 18446744073709551615 18446744073709551615 9223372036854775807)∨(i=2∧c=k2∧C=l4 s0 s1 18446744073709551615 9223372036854775807)∨(i=3∧c=k3∧C=l4 s0 s1 s2 9223372036854775807)∨(i=4∧c=k4∧C=l4 s0 s1 s2 s3)))
 case atStart=>exact⟨0,0,l4 18446744073709551597 18446744073709551615 18446744073709551615 9223372036854775807,rfl,rfl,rfl,c7.o,c4.o,a5.o,c3.o,Y.o,.inl ⟨rfl,rfl,rfl⟩⟩
 case round =>
  obtain⟨i,cy,C,e5,rfl,rfl,hb,hy,hz,ha,hB,c0⟩:=hrel;clear c7 c4 a5 c3 Y HA HB HZ HP HE
  rcases c0 with ⟨rfl,rfl,rfl⟩|⟨rfl,rfl,rfl⟩|⟨rfl,rfl,rfl⟩|⟨rfl,rfl,rfl⟩|⟨rfl,rfl,rfl⟩
  · have cc:wr.cell? ⟨w.heap.size+3,0,none⟩=some (.int .u64 18446744073709551597):=(hb.cell 0).trans rfl
    have ff:wr.frozen? ⟨w.heap.size+3,0,none⟩=false:=hb.frozen 0;have cb:wr.cell? ⟨w.heap.size+1,0,none⟩=some (.int .u64 (n0:Int)):=(hy.cell 0).trans rfl;have I:Hid (Blk (wr.setCell ⟨w.heap.size+3,0,none⟩ (.int .u64 (s0:Int))) (w.heap.size+3) 146 (l4 s0 18446744073709551615 18446744073709551615 9223372036854775807)):=hb.set_ 0 (.int .u64 (s0:Int));have M:=qh (hy.far (p:=⟨w.heap.size+3,0,none⟩) sy (.int .u64 (s0:Int)));have G:=qh (hz.far (p:=⟨w.heap.size+3,0,none⟩) sy (.int .u64 (s0:Int)));have J:=qh (ha.far (p:=⟨w.heap.size+3,0,none⟩) sy (.int .u64 (s0:Int)));have A:=qh (hB.setCell (p:=⟨w.heap.size+3,0,none⟩) (Nat.le_add_right _ _) (.int .u64 (s0:Int)));clear hb hy hz ha hB;go_wp2
    go_region_with (simp only[d0.o])
    all_goals (
      go_wp2;go_roundg 3
      case measure=>omega
      case rel=>exact⟨1,k1,l4 s0 18446744073709551615 18446744073709551615 9223372036854775807,rfl,by go_num,rfl,I.o.drew,M.o.drew,G.o.drew,J.o.drew,A.o.drew,.inr (.inl ⟨rfl,rfl,rfl⟩)⟩)
  · have cc:wr.cell? ⟨w.heap.size+3,1,none⟩=some (.int .u64 18446744073709551615):=(hb.cell 1).trans rfl
    have ff:wr.frozen? ⟨w.heap.size+3,1,none⟩=false:=hb.frozen 1;have cb:wr.cell? ⟨w.heap.size+1,1,none⟩=some (.int .u64 (n1:Int)):=(hy.cell 1).trans rfl;have I:Hid (Blk (wr.setCell ⟨w.heap.size+3,1,none⟩ (.int .u64 (s1:Int))) (w.heap.size+3) 146 (l4 s0 s1 18446744073709551615 9223372036854775807)):=hb.set_ 1 (.int .u64 (s1:Int));have M:=qh (hy.far (p:=⟨w.heap.size+3,1,none⟩) sy (.int .u64 (s1:Int)));have G:=qh (hz.far (p:=⟨w.heap.size+3,1,none⟩) sy (.int .u64 (s1:Int)));have J:=qh (ha.far (p:=⟨w.heap.size+3,1,none⟩) sy (.int .u64 (s1:Int)));have A:=qh (hB.setCell (p:=⟨w.heap.size+3,1,none⟩) (Nat.le_add_right _ _) (.int .u64 (s1:Int)));clear hb hy hz ha hB;go_wp2
    go_region_with (simp only[d7.o])
    all_goals (
      go_wp2;go_roundg 2
      case measure=>omega
      case rel=>exact⟨2,k2,l4 s0 s1 18446744073709551615 9223372036854775807,rfl,by go_num,rfl,I.o.drew,M.o.drew,G.o.drew,J.o.drew,A.o.drew,.inr (.inr (.inl ⟨rfl,rfl,rfl⟩))⟩)
  · have cc:wr.cell? ⟨w.heap.size+3,2,none⟩=some (.int .u64 18446744073709551615):=(hb.cell 2).trans rfl
    have ff:wr.frozen? ⟨w.heap.size+3,2,none⟩=false:=hb.frozen 2;have cb:wr.cell? ⟨w.heap.size+1,2,none⟩=some (.int .u64 (n2:Int)):=(hy.cell 2).trans rfl;have I:Hid (Blk (wr.setCell ⟨w.heap.size+3,2,none⟩ (.int .u64 (s2:Int))) (w.heap.size+3) 146 (l4 s0 s1 s2 9223372036854775807)):=hb.set_ 2 (.int .u64 (s2:Int));have M:=qh (hy.far (p:=⟨w.heap.size+3,2,none⟩) sy (.int .u64 (s2:Int)));have G:=qh (hz.far (p:=⟨w.heap.size+3,2,none⟩) sy (.int .u64 (s2:Int)));have J:=qh (ha.far (p:=⟨w.heap.size+3,2,none⟩) sy (.int .u64 (s2:Int)));have A:=qh (hB.setCell (p:=⟨w.heap.size+3,2,none⟩) (Nat.le_add_right _ _) (.int .u64 (s2:Int)));clear hb hy hz ha hB;go_wp2
    go_region_with (simp only[d9.o])
    all_goals (
      go_wp2;go_roundg 1
      case measure=>omega
      case rel=>exact⟨3,k3,l4 s0 s1 s2 9223372036854775807,rfl,by go_num,rfl,I.o.drew,M.o.drew,G.o.drew,J.o.drew,A.o.drew,.inr (.inr (.inr (.inl ⟨rfl,rfl,rfl⟩)))⟩)
  · have cc:wr.cell? ⟨w.heap.size+3,3,none⟩=some (.int .u64 9223372036854775807):=(hb.cell 3).trans rfl
    have ff:wr.frozen? ⟨w.heap.size+3,3,none⟩=false:=hb.frozen 3;have cb:wr.cell? ⟨w.heap.size+1,3,none⟩=some (.int .u64 (n3:Int)):=(hy.cell 3).trans rfl;have I:Hid (Blk (wr.setCell ⟨w.heap.size+3,3,none⟩ (.int .u64 (s3:Int))) (w.heap.size+3) 146 (l4 s0 s1 s2 s3)):=hb.set_ 3 (.int .u64 (s3:Int));have M:=qh (hy.far (p:=⟨w.heap.size+3,3,none⟩) sy (.int .u64 (s3:Int)));have G:=qh (hz.far (p:=⟨w.heap.size+3,3,none⟩) sy (.int .u64 (s3:Int)));have J:=qh (ha.far (p:=⟨w.heap.size+3,3,none⟩) sy (.int .u64 (s3:Int)));have A:=qh (hB.setCell (p:=⟨w.heap.size+3,3,none⟩) (Nat.le_add_right _ _) (.int .u64 (s3:Int)));clear hb hy hz ha hB;go_wp2
    go_region_with (simp only[d5.o])
    all_goals (
      go_wp2;go_roundg 0
      case measure=>omega
      case rel=>exact⟨4,k4,l4 s0 s1 s2 s3,rfl,by go_num,rfl,I.o.drew,M.o.drew,G.o.drew,J.o.drew,A.o.drew,.inr (.inr (.inr (.inr (⟨rfl,rfl,rfl⟩))))⟩)
  · have c8:=qh hB
    have HT:Hid (Blk wr.drew w.heap.size 146 (l4 a0 a1 a2 a3)∧Blk wr.drew (w.heap.size+3) 146 (l4 s0 s1 s2 s3)):=⟨ha.drew,hb.drew⟩;have HZ:=qh hz.drew;clear hb hy hz ha hB;go_wp2;refine kgo kr 4 (fun w'=>Blk w' w.heap.size 146 (l4 a0 a1 a2 a3)∧Blk w' (w.heap.size+3) 146 (l4 s0 s1 s2 s3)) HT.o (fun _ _ _ _ _ h=>h) ?_;refine kl 0 (.agg (l4 a0 a1 a2 a3).toArray) rfl kr (fun w' hw'=>zoo (x:=.tmp 2) rr kr hw'.1) ?_;refine kl 2 (.agg (l4 s0 s1 s2 s3).toArray) rfl kr (fun w' hw'=>zoo (x:=.tmp 5) rr kr hw'.2) ?_;intro q8 q9;clear q8 q9;refine AnyK.enter 1 (d:=some 29) (f:=94) (args:=#[.agg (l4 a0 a1 a2 a3).toArray]) rr kr kr ?_;refine(HM.o _).mono ?_;rintro e w4 ⟨m0,m1,m2,m3,q1,rfl,U,E⟩;have a6:Hid (Blk w4 w.heap.size 146 (l4 a0 a1 a2 a3)∧Blk w4 (w.heap.size+3) 146 (l4 s0 s1 s2 s3)):=⟨HT.o.1.below E HT.o.1.lt,HT.o.2.below E HT.o.2.lt⟩;have b5:=HZ.o.below E HZ.o.lt;have b7:=c8.o.drew.trans (E.mono c8.o.drew.size);refine⟨_,rfl,fun _=>a6.o,?_⟩;refine AnyK.enter 3 (d:=some 31) (f:=140) (args:=#[.agg (l4 m0 m1 m2 m3).toArray,.agg (l4 s0 s1 s2 s3).toArray]) rr kr kr ?_;refine(zf9 m0 m1 m2 m3 s0 s1 s2 s3 U.1 U.2.1 U.2.2.1 U.2.2.2.1 D.o.2.1 D.o.2.2.1 D.o.2.2.2.1 D.o.2.2.2.2 (by have:=U.2.2.2.2.1;have:=D.o.1;simp only[pr]at *;omega) _).mono ?_;rintro e w5 ⟨r0,r1,r2,r3,q2,rfl,X,r⟩;have d4:Hid (Blk w5 w.heap.size 146 (l4 a0 a1 a2 a3)∧Blk w5 (w.heap.size+3) 146 (l4 s0 s1 s2 s3)):=⟨a6.o.1.below r a6.o.1.lt,a6.o.2.below r a6.o.2.lt⟩;have a5:=b5.below r b5.lt;have Y:=b7.trans (r.mono b7.size);refine⟨_,rfl,fun _=>d4.o,?_⟩;refine AnyK.storeAll 4 (w.heap.size+2) (l4 r0 r1 r2 r3) 146 _ rfl rfl rfl rr kr kr kr a5 hdEl (zei _ _ _ _) rfl (fun _ _ _ h=>(by cases h)) ?_;intro w6 c6 c5;refine AnyK.done kr ?_;have d6:=c5.below Y om Y.size;have d3:=qh c6;have d8:=HV.o;have HF:=D.o;clear c6 c5 a5 Y b7 b5 E r;go_wp2;refine bodyPost_ret (zan rfl _ _ _ _ rfl d3.o _ Tryz.underlying146 rfl (by exact hdEl)) rfl ⟨r0,r1,r2,r3,q1+q2,q+1,rfl,⟨X.1,X.2.1,X.2.2.1,X.2.2.2.1,X.2.2.2.2.1,?_⟩,d6⟩;have x1:=U.2.2.2.2.2;have x2:=X.2.2.2.2.2;have x3:=d8.2.2.2.2.2;have x4:=HF.1;simp only[pr]at *;omega
end
