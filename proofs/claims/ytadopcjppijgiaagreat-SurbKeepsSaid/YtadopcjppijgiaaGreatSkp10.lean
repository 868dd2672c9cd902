/- Part of the proof. -/
import Derived.Deep.DeepCutAuto
import Derived.Test.YtadopcjppijgiaaGreatSkp07
set_option linter.all false
set_option maxRecDepth 100000
set_option maxHeartbeats 0
namespace Go.Proofs.YtadopcjppijgiaaGreat
open Go.RowKit
section
attribute [local go_sem ↓] zc3
theorem zf9(a0 a1 a2 a3 b0 b1 b2 b3:Nat)(h0:a0<18446744073709551616)(h1:a1<18446744073709551616)(h2:a2<18446744073709551616)(h3:a3<18446744073709551616)(g0:b0<18446744073709551616)(g1:b1<18446744073709551616)(g2:b2<18446744073709551616)(g3:b3<18446744073709551616)
 (hs:v4 a0 a1 a2 a3+v4 b0 b1 b2 b3<115792089237316195423570985008687907853269984665640564039457584007913129639936) (w:World):
 Calls Tryz.prog 140 #[.agg (l4 a0 a1 a2 a3).toArray,.agg (l4 b0 b1 b2 b3).toArray] w fun e w'=>∃r0 r1 r2 r3 q:Nat,e=.returned (.agg (l4 r0 r1 r2 r3).toArray)∧(r0<18446744073709551616∧r1<18446744073709551616∧r2<18446744073709551616∧r3<18446744073709551616∧v4 r0 r1 r2 r3<pr∧v4 a0 a1 a2 a3+v4 b0 b1 b2 b3=v4 r0 r1 r2 r3+q*pr)∧Below w.heap.size w w':=by
 obtain⟨s0,X⟩:=ex9 ((a0+b0+0)%18446744073709551616);obtain⟨k1,a7⟩:=ex9 ((a0+b0+0)/18446744073709551616);have e0:=fun W=>zdv a0 b0 0 om W
 rw[←X,←a7]at e0;obtain⟨s1,Y⟩:=ex9 ((a1+b1+k1)%18446744073709551616);obtain⟨k2,V⟩:=ex9 ((a1+b1+k1)/18446744073709551616);have e1:=fun W=>zdv a1 b1 k1 om W
 rw[←Y,←V]at e1;obtain⟨s2,U⟩:=ex9 ((a2+b2+k2)%18446744073709551616);obtain⟨k3,a6⟩:=ex9 ((a2+b2+k2)/18446744073709551616);have e2:=fun W=>zdv a2 b2 k2 om W
 rw[←U,←a6]at e2;obtain⟨s3,J⟩:=ex9 ((a3+b3+k3)%18446744073709551616);obtain⟨k4,a9⟩:=ex9 ((a3+b3+k3)/18446744073709551616);have e3:=fun W=>zdv a3 b3 k3 om W
 rw[←J,←a9]at e3
 have a4:Hid (v4 a0 a1 a2 a3+v4 b0 b1 b2 b3=v4 s0 s1 s2 s3):=by
  clear e0 e1 e2 e3;simp only[Hid,v4]at hs ⊢;omega
 have HS:Hid (s0<18446744073709551616∧s1<18446744073709551616∧s2<18446744073709551616∧s3<18446744073709551616):=⟨by omega,by omega,by omega,by omega⟩;have b4:Hid (∀W,(callFunc 139 #[.int .u64 (a0:Int),.int .u64 (b0:Int),.int .u64 0]).run Tryz.prog W=.ok (.value (.tuple #[.int .u64 (s0:Int),.int .u64 (k1:Int)])) W):=e0;have b7:Hid (∀W,(callFunc 139 #[.int .u64 (a1:Int),.int .u64 (b1:Int),.int .u64 (k1:Int)]).run Tryz.prog W=.ok (.value (.tuple #[.int .u64 (s1:Int),.int .u64 (k2:Int)])) W):=e1;have c2:Hid (∀W,(callFunc 139 #[.int .u64 (a2:Int),.int .u64 (b2:Int),.int .u64 (k2:Int)]).run Tryz.prog W=.ok (.value (.tuple #[.int .u64 (s2:Int),.int .u64 (k3:Int)])) W):=e2;have b5:Hid (∀W,(callFunc 139 #[.int .u64 (a3:Int),.int .u64 (b3:Int),.int .u64 (k3:Int)]).run Tryz.prog W=.ok (.value (.tuple #[.int .u64 (s3:Int),.int .u64 (k4:Int)])) W):=e3;have HN:=qh (fun W=>zfi s0 s1 s2 s3 HS.o.1 HS.o.2.1 HS.o.2.2.1 HS.o.2.2.2 W);clear e0 e1 e2 e3 X a7 Y V U a6 J a9 h0 h1 h2 h3 g0 g1 g2 g3 hs
 go_enter Tryz.func140, Tryz.ntmps140
 go_wp2
 go_loopg [5,7] 4 (fun kk q5 q7 wr=>∃(i c:Nat) (C:List Value),kk=4-i∧q7=.int .i64 (i:Int)∧q5=.int .u64 (c:Int)∧Blk wr w.heap.size 146 C∧Blk wr (w.heap.size+1) 146 (l4 b0 b1 b2 b3)∧Blk wr (w.heap.size+2) 146 (l4 0 0 0 0)∧Below w.heap.size w wr ∧
   ((i=0∧c=0∧C=l4 a0 a1 a2 a3)∨(i=1∧c=k1∧C=l4 s0 a1 a2 a3)∨(i=2∧c=k2∧C=l4 s0 s1 a2 a3)∨(i=3∧c=k3∧C=l4 s0 s1 s2 a3)∨(i=4∧c=k4∧C=l4 s0 s1 s2 s3)))
 case atStart=>exact⟨0,0,l4 a0 a1 a2 a3,rfl,rfl,rfl,((Blk.new' rfl rfl).alloc _).alloc _,(Blk.new' sy rfl).alloc _,Blk.new' sy rfl,(((Below.refl _ w).alloc lr _).alloc sy _).alloc (by simp <;> omega) _,.inl ⟨rfl,rfl,rfl⟩⟩
 case round =>
  obtain⟨i,cy,C,c4,rfl,rfl,hb,hy,hz,hB,I⟩:=hrel
  rcases I with ⟨rfl,rfl,rfl⟩|⟨rfl,rfl,rfl⟩|⟨rfl,rfl,rfl⟩|⟨rfl,rfl,rfl⟩|⟨rfl,rfl,rfl⟩
  · have cc:wr.cell? ⟨w.heap.size,0,none⟩=some (.int .u64 (a0:Int)):=(hb.cell 0).trans rfl
    have ff:=hb.frozen 0;have cb:wr.cell? ⟨w.heap.size+1,0,none⟩=some (.int .u64 (b0:Int)):=(hy.cell 0).trans rfl;have D:Hid (Blk (wr.setCell ⟨w.heap.size,0,none⟩ (.int .u64 (s0:Int))) w.heap.size 146 (l4 s0 a1 a2 a3)):=hb.set_ 0 (.int .u64 (s0:Int));have E:=qh (hy.far (p:=⟨w.heap.size,0,none⟩) sy (.int .u64 (s0:Int)));have A:=qh (hz.far (p:=⟨w.heap.size,0,none⟩) sy (.int .u64 (s0:Int)));have r:=qh (hB.setCell (p:=⟨w.heap.size,0,none⟩) lr (.int .u64 (s0:Int)));clear hb hy hz hB;go_wp2
    go_region_with (simp only[b4.o])
    all_goals (
      go_wp2;go_roundg 3
      case measure=>omega
      case rel=>exact⟨1,k1,l4 s0 a1 a2 a3,rfl,by go_num,rfl,D.o.drew,E.o.drew,A.o.drew,r.o.drew,.inr (.inl ⟨rfl,rfl,rfl⟩)⟩)
  · have cc:wr.cell? ⟨w.heap.size,1,none⟩=some (.int .u64 (a1:Int)):=(hb.cell 1).trans rfl
    have ff:=hb.frozen 1;have cb:wr.cell? ⟨w.heap.size+1,1,none⟩=some (.int .u64 (b1:Int)):=(hy.cell 1).trans rfl;have D:Hid (Blk (wr.setCell ⟨w.heap.size,1,none⟩ (.int .u64 (s1:Int))) w.heap.size 146 (l4 s0 s1 a2 a3)):=hb.set_ 1 (.int .u64 (s1:Int));have E:=qh (hy.far (p:=⟨w.heap.size,1,none⟩) sy (.int .u64 (s1:Int)));have A:=qh (hz.far (p:=⟨w.heap.size,1,none⟩) sy (.int .u64 (s1:Int)));have r:=qh (hB.setCell (p:=⟨w.heap.size,1,none⟩) lr (.int .u64 (s1:Int)));clear hb hy hz hB;go_wp2
    go_region_with (simp only[b7.o])
    all_goals (
      go_wp2;go_roundg 2
      case measure=>omega
      case rel=>exact⟨2,k2,l4 s0 s1 a2 a3,rfl,by go_num,rfl,D.o.drew,E.o.drew,A.o.drew,r.o.drew,.inr (.inr (.inl ⟨rfl,rfl,rfl⟩))⟩)
  · have cc:wr.cell? ⟨w.heap.size,2,none⟩=some (.int .u64 (a2:Int)):=(hb.cell 2).trans rfl
    have ff:=hb.frozen 2;have cb:wr.cell? ⟨w.heap.size+1,2,none⟩=some (.int .u64 (b2:Int)):=(hy.cell 2).trans rfl;have D:Hid (Blk (wr.setCell ⟨w.heap.size,2,none⟩ (.int .u64 (s2:Int))) w.heap.size 146 (l4 s0 s1 s2 a3)):=hb.set_ 2 (.int .u64 (s2:Int));have E:=qh (hy.far (p:=⟨w.heap.size,2,none⟩) sy (.int .u64 (s2:Int)));have A:=qh (hz.far (p:=⟨w.heap.size,2,none⟩) sy (.int .u64 (s2:Int)));have r:=qh (hB.setCell (p:=⟨w.heap.size,2,none⟩) lr (.int .u64 (s2:Int)));clear hb hy hz hB;go_wp2
    go_region_with (simp only[c2.o])
    all_goals (
      go_wp2;go_roundg 1
      case measure=>omega
      case rel=>exact⟨3,k3,l4 s0 s1 s2 a3,rfl,by go_num,rfl,D.o.drew,E.o.drew,A.o.drew,r.o.drew,.inr (.inr (.inr (.inl ⟨rfl,rfl,rfl⟩)))⟩)
  · have cc:wr.cell? ⟨w.heap.size,3,none⟩=some (.int .u64 (a3:Int)):=(hb.cell 3).trans rfl
    have ff:=hb.frozen 3;have cb:wr.cell? ⟨w.heap.size+1,3,none⟩=some (.int .u64 (b3:Int)):=(hy.cell 3).trans rfl;have D:Hid (Blk (wr.setCell ⟨w.heap.size,3,none⟩ (.int .u64 (s3:Int))) w.heap.size 146 (l4 s0 s1 s2 s3)):=hb.set_ 3 (.int .u64 (s3:Int));have E:=qh (hy.far (p:=⟨w.heap.size,3,none⟩) sy (.int .u64 (s3:Int)));have A:=qh (hz.far (p:=⟨w.heap.size,3,none⟩) sy (.int .u64 (s3:Int)));have r:=qh (hB.setCell (p:=⟨w.heap.size,3,none⟩) lr (.int .u64 (s3:Int)));clear hb hy hz hB;go_wp2
    go_region_with (simp only[b5.o])
    all_goals (
      go_wp2;go_roundg 0
      case measure=>omega
      case rel=>exact⟨4,k4,l4 s0 s1 s2 s3,rfl,by go_num,rfl,D.o.drew,E.o.drew,A.o.drew,r.o.drew,.inr (.inr (.inr (.inr (⟨rfl,rfl,rfl⟩))))⟩)
  · have c3:=el_ld hb
    have HZ:=qh hz;have c1:=qh hB;clear hb hy hz hB
    go_wp2_with (first|((with_reducible refine(HN.o _).mono ?_);rintro e w3 ⟨r0,r1,r2,r3,q,rfl,hv,G⟩;have b9:=qbl HZ G;have a5:=qtr c1 G;have HV:=qh hv;clear G hv)| (refine zab rfl 146 (.tmp 4) (.tmp 25) rfl (w.heap.size+2) (l4 r0 r1 r2 r3) rr rr 146 _ b9.o (by exact hdEl) (zei _ _ _ _) rfl ?_;intro w5 a8 M;have c0:=qh a8;have b6:=qh (M.below a5.o om a5.o.size);clear a8 M))
    exact bodyPost_ret (zan rfl _ _ _ _ rfl c0.o _ Tryz.underlying146 rfl (by exact hdEl)) rfl ⟨r0,r1,r2,r3,q,rfl,by rw[a4.o];exact HV.o,b6.o⟩
end
