/- Part of the proof. -/
import Derived.Deep.DeepCutAuto
import Derived.StillTailTactics
import Derived.Test.YtadopcjppijgiaaGreatSkp08
import Derived.Test.YtadopcjppijgiaaGreatSkp16
set_option linter.all false
set_option maxRecDepth 100000
set_option maxHeartbeats 0
namespace Go.Proofs.YtadopcjppijgiaaGreat
open Go.RowKit
section
theorem cm_m{c:Cm}{i:Nat}(hi:i<c.m.length):c.cells[4+i]? = some (.int .u8 ((c.m.getD i 0).toNat:Int)):=by
 have h:c.cells=[.int .u8 c.k.toNat,.int .u8 c.f.toNat,.int .u32 (c.d:Int),.int .u64 (c.n:Int)]++u8s c.m:=rfl;rw[h,ar9 sy];simp only[List.length_cons,List.length_nil,Nat.zero_add,Nat.reduceAdd,Nat.add_sub_cancel_left];rw[u8s_getElem?,gd9,ge9 hi]
 rfl
theorem zfw(c:Cm)(hc:c.ok)(w:World):
 Calls Tryz.prog 57 #[.agg c.cells.toArray] w fun e w'=>e=.returned (.bool (!(decide (c.m=List.replicate 16 0))))∧Below w.heap.size w w':=by
 have r:Hid (Blk (w.alloc (.cells c.cells.toArray 63)) w.heap.size 63 c.cells∧Below w.heap.size w (w.alloc (.cells c.cells.toArray 63))):=⟨Blk.new _ _ _,(Below.refl _ w).alloc lr _⟩;have HM:Hid (∀i,i<16→c.cells[4+i]? = some (.int .u8 ((c.m.getD i 0).toNat:Int))):=fun i hi=>cm_m (by rw[hc.2.2];exact hi)
 have HY:Hid (∀i,i<16→c.m.getD i 0≠0→decide (c.m=List.replicate 16 0)=false):=fun i hi h=>decide_eq_false fun e=>h (by rw[e,gd9,List.getElem?_replicate,if_pos hi];rfl)
 have I:Hid ((∀i,i<16→c.m.getD i 0=0)→decide (c.m=List.replicate 16 0)=true):=fun h=>by
  apply decide_eq_true
  apply List.ext_getElem?
  intro j
  rcases Nat.lt_or_ge j 16 with hj|hj
  · have:=h j hj
    rw[gd9,ge9 (by rw[hc.2.2];exact hj)]at this;rw[ge9 (by rw[hc.2.2];exact hj),List.getElem?_replicate,if_pos hj];exact congrArg some this
  · rw[List.getElem?_eq_none (by rw[hc.2.2];exact hj),List.getElem?_replicate,if_neg om]
 obtain⟨C,hC⟩:=ex9 (c.cells);rw[←hC]at r HM ⊢;generalize decide (c.m=List.replicate 16 0)=M at *;clear hC hc
 go_enter Tryz.func57, Tryz.ntmps57
 go_wp2
 go_loopg [3] 16 (fun kk q wr=>∃i:Nat,kk=16-i∧q=.int .i64 (i:Int)∧i≤16∧(∀j,j<i→c.m.getD j 0=0)∧Blk wr w.heap.size 63 C∧Below w.heap.size w wr)
 case atStart=>exact⟨0,rfl,rfl,by omega,by intro j h;omega,r.o.1,r.o.2⟩
 case round =>
  clear r;obtain⟨i,D,rfl,hi,hz,hA,hE⟩:=hrel
  rcases Nat.lt_or_ge i 16 with A|U
  · have G:(i:Int)<16:=om
    obtain⟨x,hx⟩:=ex9 (c.m.getD i 0);have cx:wr.cell? ⟨w.heap.size,4+i,none⟩=some (.int .u8 (x.toNat:Int)):=(hA.cell (4+i)).trans (hx ▸ HM.o i A);have HX:=qh hx;have HZ:=qh hz;have HA:=qh hA;have HE:=qh hE;have J:=qh D;have E:=qh A;have HI:=qh hi;clear hz hA hE D hx
    by_cases h0:x=0
    · subst h0
      go_wp2;go_roundg (16-(i+1))
      case measure=>have:=J.o;have:=E.o;omega
      case rel=>exact⟨i+1,rfl,by go_num,by have:=E.o;omega,by
       intro j h1
       rcases Nat.lt_or_ge j i with h3|h3
       · exact HZ.o j h3
       · obtain rfl:j=i:=om
         exact HX.o.symm,HA.o,HE.o⟩
    · have hn:¬(x.toNat:Int)=0:=fun h=>h0 (UInt8.toNat_inj.1 (by show _=0;omega))
      have HP:Hid (M=false):=HY.o i A (by rw[←HX.o];exact h0);clear h0;go_wp2;go_ret;exact⟨by rw[HP.o];rfl,HE.o⟩
  · obtain rfl:i=16:=om
    have G:¬((16:Nat):Int)<16:=om;have HP:Hid (M=true):=I.o hz;have HE:=qh hE;clear hz hA hE D;go_wp2;go_ret;exact⟨by rw[HP.o];rfl,HE.o⟩
attribute [local go_sem ↓] zch
theorem zpg(c:Cm)(hc:c.ok)(w:World):
 Calls Tryz.prog 91 #[.agg c.cells.toArray] w fun e w'=>e=.returned (.int .i64 (c.check:Int))∧Below w.heap.size w w':=by
 have E:=qh (fun W=>zfw c hc W);have hl:=Cm.cells_len hc;have hb:Blk (w.alloc (.cells c.cells.toArray 63)) w.heap.size 63 c.cells:=Blk.new w _ _;have a2:(ldAt 63 (.pointer (some ⟨w.heap.size,0,none⟩))).run Tryz.prog (w.alloc (.cells c.cells.toArray 63))=.ok (.agg c.cells.toArray) (w.alloc (.cells c.cells.toArray 63)):=cm_ld hb hl;have c0:(w.alloc (.cells c.cells.toArray 63)).cell? ⟨w.heap.size,0,none⟩=some (.int .u8 c.k.toNat):=by rw[hb.cell];rfl
 have Y:∀W,Below (w.alloc (.cells c.cells.toArray 63)).heap.size (w.alloc (.cells c.cells.toArray 63)) W→W.cell? ⟨w.heap.size,2,none⟩=some (.int .u32 (c.d:Int)):=fun W hB=>by
  rw[(hb.below hB hb.lt).cell];rfl
 have c2:(w.alloc (.cells c.cells.toArray 63)).cell? ⟨w.heap.size,2,none⟩=some (.int .u32 (c.d:Int)):=by rw[hb.cell];rfl
 have c3:(w.alloc (.cells c.cells.toArray 63)).cell? ⟨w.heap.size,3,none⟩=some (.int .u64 (c.n:Int)):=by rw[hb.cell];rfl
 have HE:=qh ((Below.refl w.heap.size w).alloc lr (.cells c.cells.toArray 63));have a1:Hid ((w.alloc (.cells c.cells.toArray 63)).heap.size=w.heap.size+1):=by show _=_;simp
 have HD:=qh Y;have r:∀K S,c.k.toNat=K→c.shaped=S→c.check=if K<1∨4<K then 1 else if S=false then 3 else if 1000000<c.d then 11 else 0:=fun K S h1 h2=>by rw[Cm.check,h1,h2]
 have X:∀K,c.k.toNat=K→c.shaped=if (decide (K=1) != decide (c.n≠0))=true then false else (decide (K=4)|| decide (c.m=List.replicate 16 0)):=fun K h=>by
  subst h;have e1:(c.k=1)=(c.k.toNat=1):=propext ⟨fun h=>by rw[h];rfl,fun h=>UInt8.toNat_inj.1 (by rw[h];rfl)⟩;have e4:(c.k=4)=(c.k.toNat=4):=propext ⟨fun h=>by rw[h];rfl,fun h=>UInt8.toNat_inj.1 (by rw[h];rfl)⟩;simp only[Cm.shaped,e1,e4]
 obtain⟨K,hK⟩:=ex9 (c.k.toNat);have r:=r K _ hK.symm rfl;rw[X K hK.symm]at r;rw[←hK]at c0;obtain⟨R,hR⟩:=ex9 (c.check);rw[←hR]at r ⊢;generalize c.n=n at *;generalize c.d=D at *;generalize decide (c.m=List.replicate 16 0)=M at *;generalize c.cells=C at *;clear hR X hK hl hb Y hc
 by_cases h1:K<1
 · obtain rfl:K=0:=om
   have HF:Hid (R=1):=(by show _=_;rw[r];first|rfl|(simp;done)| (simp;omega)| (simp[*]));clear r
   go_enter Tryz.func91, Tryz.ntmps91
   go_wp2_with fail
   go_ret;exact⟨by rw[HF.o];rfl,HE.o⟩
 by_cases h4:4<K
 · have i1:¬(K:Int)<1:=om
   have i4:(4:Int)<(K:Int):=om;rw[if_pos (.inr h4)]at r;have HF:Hid (R=1):=r;clear r
   go_enter Tryz.func91, Tryz.ntmps91
   go_wp2_with fail
   go_ret;exact⟨by rw[HF.o];rfl,HE.o⟩
 have hk:K=1∨K=2∨K=3∨K=4:=om;clear h1 h4
 rcases hk with rfl|rfl|rfl|rfl
 · have c0:(w.alloc (.cells C.toArray 63)).cell? ⟨w.heap.size,0,none⟩=some (.int .u8 1):=c0
   by_cases hn:n=0
   · subst hn
     have c3:(w.alloc (.cells C.toArray 63)).cell? ⟨w.heap.size,3,none⟩=some (.int .u64 0):=c3;have HF:Hid (R=3):=(by show _=_;rw[r];first|rfl|(simp;done)| (simp;omega)| (simp[*]));clear r
     go_enter Tryz.func91, Tryz.ntmps91
     go_wp2_with fail
     go_ret;exact⟨by rw[HF.o];rfl,HE.o⟩
   · have U:¬(n:Int)=0:=om
     have V:((n:Int) == 0)=false:=by simpa using hn
     have J:((n:Int) != 0)=true:=by simpa using hn
     cases M with
     | false =>
      have HF:Hid (R=3):=(by show _=_;rw[r];first|rfl|(simp;done)| (simp;omega)| (simp[*]));clear r
      go_enter Tryz.func91, Tryz.ntmps91
      go_wp2_with (go_at_call 57;(with_reducible refine(E.o _).mono ?_);rintro e w1 ⟨rfl,hB⟩;have G:=HD.o w1 hB;have A:=qtr HE hB;clear hB c2)
      go_ret;exact⟨by rw[HF.o];rfl,A.o⟩
     | true =>
      by_cases hd:1000000<D
      · have I:(1000000:Int)<(D:Int):=om
        have HF:Hid (R=11):=(by show _=_;rw[r];first|rfl|(simp;done)| (simp;omega)| (simp[*]));clear r
        go_enter Tryz.func91, Tryz.ntmps91
        go_wp2_with (go_at_call 57;(with_reducible refine(E.o _).mono ?_);rintro e w1 ⟨rfl,hB⟩;have G:=HD.o w1 hB;have A:=qtr HE hB;clear hB c2)
        go_ret;exact⟨by rw[HF.o];rfl,A.o⟩
      · have I:¬(1000000:Int)<(D:Int):=om
        have HF:Hid (R=0):=(by show _=_;rw[r];first|rfl|(simp;done)| (simp;omega)| (simp[*]));clear r
        go_enter Tryz.func91, Tryz.ntmps91
        go_wp2_with (go_at_call 57;(with_reducible refine(E.o _).mono ?_);rintro e w1 ⟨rfl,hB⟩;have G:=HD.o w1 hB;have A:=qtr HE hB;clear hB c2)
        go_ret;exact⟨by rw[HF.o];rfl,A.o⟩
 · have c0:(w.alloc (.cells C.toArray 63)).cell? ⟨w.heap.size,0,none⟩=some (.int .u8 2):=c0
   by_cases hn:n=0
   · subst hn
     have c3:(w.alloc (.cells C.toArray 63)).cell? ⟨w.heap.size,3,none⟩=some (.int .u64 0):=c3
     cases M with
     | false =>
      have HF:Hid (R=3):=(by show _=_;rw[r];first|rfl|(simp;done)| (simp;omega)| (simp[*]));clear r
      go_enter Tryz.func91, Tryz.ntmps91
      go_wp2_with (go_at_call 57;(with_reducible refine(E.o _).mono ?_);rintro e w1 ⟨rfl,hB⟩;have G:=HD.o w1 hB;have A:=qtr HE hB;clear hB c2)
      go_ret;exact⟨by rw[HF.o];rfl,A.o⟩
     | true =>
      by_cases hd:1000000<D
      · have I:(1000000:Int)<(D:Int):=om
        have HF:Hid (R=11):=(by show _=_;rw[r];first|rfl|(simp;done)| (simp;omega)| (simp[*]));clear r
        go_enter Tryz.func91, Tryz.ntmps91
        go_wp2_with (go_at_call 57;(with_reducible refine(E.o _).mono ?_);rintro e w1 ⟨rfl,hB⟩;have G:=HD.o w1 hB;have A:=qtr HE hB;clear hB c2)
        go_ret;exact⟨by rw[HF.o];rfl,A.o⟩
      · have I:¬(1000000:Int)<(D:Int):=om
        have HF:Hid (R=0):=(by show _=_;rw[r];first|rfl|(simp;done)| (simp;omega)| (simp[*]));clear r
        go_enter Tryz.func91, Tryz.ntmps91
        go_wp2_with (go_at_call 57;(with_reducible refine(E.o _).mono ?_);rintro e w1 ⟨rfl,hB⟩;have G:=HD.o w1 hB;have A:=qtr HE hB;clear hB c2)
        go_ret;exact⟨by rw[HF.o];rfl,A.o⟩
   · have U:¬(n:Int)=0:=om
     have V:((n:Int) == 0)=false:=by simpa using hn
     have J:((n:Int) != 0)=true:=by simpa using hn
     have a0:n≠0:=hn;have HF:Hid (R=3):=(by show _=_;rw[r];first|rfl|(simp;done)| (simp;omega)| (simp[*]));clear r
     go_enter Tryz.func91, Tryz.ntmps91
     go_wp2_with fail
     go_ret;exact⟨by rw[HF.o];rfl,HE.o⟩
 · have c0:(w.alloc (.cells C.toArray 63)).cell? ⟨w.heap.size,0,none⟩=some (.int .u8 3):=c0
   by_cases hn:n=0
   · subst hn
     have c3:(w.alloc (.cells C.toArray 63)).cell? ⟨w.heap.size,3,none⟩=some (.int .u64 0):=c3
     cases M with
     | false =>
      have HF:Hid (R=3):=(by show _=_;rw[r];first|rfl|(simp;done)| (simp;omega)| (simp[*]));clear r
      go_enter Tryz.func91, Tryz.ntmps91
      go_wp2_with (go_at_call 57;(with_reducible refine(E.o _).mono ?_);rintro e w1 ⟨rfl,hB⟩;have G:=HD.o w1 hB;have A:=qtr HE hB;clear hB c2)
      go_ret;exact⟨by rw[HF.o];rfl,A.o⟩
     | true =>
      by_cases hd:1000000<D
      · have I:(1000000:Int)<(D:Int):=om
        have HF:Hid (R=11):=(by show _=_;rw[r];first|rfl|(simp;done)| (simp;omega)| (simp[*]));clear r
        go_enter Tryz.func91, Tryz.ntmps91
        go_wp2_with (go_at_call 57;(with_reducible refine(E.o _).mono ?_);rintro e w1 ⟨rfl,hB⟩;have G:=HD.o w1 hB;have A:=qtr HE hB;clear hB c2)
        go_ret;exact⟨by rw[HF.o];rfl,A.o⟩
      · have I:¬(1000000:Int)<(D:Int):=om
        have HF:Hid (R=0):=(by show _=_;rw[r];first|rfl|(simp;done)| (simp;omega)| (simp[*]));clear r
        go_enter Tryz.func91, Tryz.ntmps91
        go_wp2_with (go_at_call 57;(with_reducible refine(E.o _).mono ?_);rintro e w1 ⟨rfl,hB⟩;have G:=HD.o w1 hB;have A:=qtr HE hB;clear hB c2)
        go_ret;exact⟨by rw[HF.o];rfl,A.o⟩
   · have U:¬(n:Int)=0:=om
     have V:((n:Int) == 0)=false:=by simpa using hn
     have J:((n:Int) != 0)=true:=by simpa using hn
     have a0:n≠0:=hn;have HF:Hid (R=3):=(by show _=_;rw[r];first|rfl|(simp;done)| (simp;omega)| (simp[*]));clear r
     go_enter Tryz.func91, Tryz.ntmps91
     go_wp2_with fail
     go_ret;exact⟨by rw[HF.o];rfl,HE.o⟩
 · have c0:(w.alloc (.cells C.toArray 63)).cell? ⟨w.heap.size,0,none⟩=some (.int .u8 4):=c0
   by_cases hn:n=0
   · subst hn
     have c3:(w.alloc (.cells C.toArray 63)).cell? ⟨w.heap.size,3,none⟩=some (.int .u64 0):=c3
     by_cases hd:1000000<D
     · have I:(1000000:Int)<(D:Int):=om
       have HF:Hid (R=11):=(by show _=_;rw[r];first|rfl|(simp;done)| (simp;omega)| (simp[*]));clear r
       go_enter Tryz.func91, Tryz.ntmps91
       go_wp2_with fail
       go_ret;exact⟨by rw[HF.o];rfl,HE.o⟩
     · have I:¬(1000000:Int)<(D:Int):=om
       have HF:Hid (R=0):=(by show _=_;rw[r];first|rfl|(simp;done)| (simp;omega)| (simp[*]));clear r
       go_enter Tryz.func91, Tryz.ntmps91
       go_wp2_with fail
       go_ret;exact⟨by rw[HF.o];rfl,HE.o⟩
   · have U:¬(n:Int)=0:=om
     have V:((n:Int) == 0)=false:=by simpa using hn
     have J:((n:Int) != 0)=true:=by simpa using hn
     have a0:n≠0:=hn;have HF:Hid (R=3):=(by show _=_;rw[r];first|rfl|(simp;done)| (simp;omega)| (simp[*]));clear r
     go_enter Tryz.func91, Tryz.ntmps91
     go_wp2_with fail
     go_ret;exact⟨by rw[HF.o];rfl,HE.o⟩
end
theorem zoc(m:Nat):(m:Int)%256=((UInt8.ofNat m).toNat:Int):=by rw[UInt8.toNat_ofNat'];omega
theorem zwl(n:Nat)(w:World)(hn:n<18446744073709551616):
 Calls Tryz.prog 34 #[.int .i64 2,.int .i64 8,.int .u64 (n:Int)] w fun e w'=>e=.returned (.tuple #[.slice (some ⟨w.heap.size,0,none⟩) 8 8,.int .i64 0])∧Blk w' w.heap.size 5 (u8s (Sh.beBytes n 8))∧Below w.heap.size w w':=by
 go_enter Tryz.func34, Tryz.ntmps34
 go_wp2_with (first
  | (go_at_call 66;go_in)
  | (refine zaj rfl (.tmp 15) (.tmp 15) 22 rfl 5 (.int .u8 0) 1 Tryz.underlying22 iU8 rfl .i64 .i64 8 8 rr rr 8 8 rfl rfl om om om ?_;intro w1 J D Y;have E:Hid (Blk w1 w.heap.size 5 (u8s (putI n 8 0))):=J;have M:Hid (Below w.heap.size w w1):=zad D;clear J D Y))
 go_loopg [2,9] 8 (fun kk qn q wr=>∃i m:Nat,i≤8∧kk=8-i∧m=n/256^i∧m<18446744073709551616∧qn=.int .u64 (m:Int)∧q=.int .i64 i∧Blk wr w.heap.size 5 (u8s (putI n 8 i))∧Below w.heap.size w wr)
 case atStart=>exact⟨0,n,by omega,rfl,by simp,hn,rfl,rfl,E.o,M.o⟩
 case round =>
  clear E M;obtain⟨i,m,hi,A,hm,a3,rfl,rfl,hb,hB⟩:=hrel;have X:=qh A;have HM:=qh hm;clear A hm
  by_cases hlt:i<8
  · have I:(i:Int)<8:=om
    obtain⟨p,hp⟩:=ex9 (8-1-i);have a2:(7:Int)-(i:Int)=(p:Int):=om;have a4:(0:Int)≤(p:Int):=om;have a1:(p:Int)<8:=om;have HS:=qh (zgl n 8 i p hlt hp);have V:=zgm n 8 i hi;obtain⟨x,hx⟩:∃x,(putI n 8 i)[p]? = some x:=⟨_,ge9 om⟩;have cx:wr.cell? ⟨w.heap.size,p,none⟩=some (.int .u8 x.toNat):=by rw[hb.cell,u8s_getElem?,hx];rfl
    have fx:=hb.frozen p;have U:=qh (zoc m);have G:=qh (hb.set_ p (.int .u8 (UInt8.ofNat m).toNat));rw[za5,HM.o,HS.o,←HM.o]at G;have a0:=qh (hB.setCell (p:=⟨w.heap.size,p,none⟩) lr (.int .u8 (UInt8.ofNat m).toNat));have a5:=hb.lt;have r:(0:Int)≤(m:Int):=om;clear hx V hb hp
    go_wp2_with fail
    rw[U.o];go_roundg (8-(i+1))
    case measure=>have:=X.o;omega
    case rel=>exact⟨i+1,m/256,by omega,rfl,by rw[HM.o,Nat.pow_succ,Nat.div_div_eq_div_mul],by omega,by go_num,by go_num,G.o,a0.o⟩
  · obtain rfl:i=8:=om
    have I:¬((8:Nat):Int)<8:=om;have r:m=0:=by rw[HM.o];exact Nat.div_eq_of_lt hn
    subst r;have HB:=qh hb;rw[show putI n 8 8=Sh.beBytes n 8 from rfl]at HB;clear hb
    go_wp2_with fail
    go_ret2;exact⟨rfl,HB.o,hB⟩
theorem zk8(n:Nat)(w:World)(hn:n≤1000000000000):
 Calls Tryz.prog 150 #[.int .i64 n] w fun e w'=>∃A' c',e=.returned (.slice A' (Sh.pad n).length c')∧(Sh.pad n).length≤c'∧w'.ownsRow w.heap.size 5 1 (.slice A' (Sh.pad n).length c') (Sh.pad n).length (u8s (Sh.pad n))∧Below w.heap.size w w':=by
 obtain⟨z,hz⟩:=ex9 ((119-n%64)%64);have c0:z<64:=om
 have a6:Hid (Sh.pad n=128 :: (List.replicate z 0++Sh.beBytes (8*n) 8)):=by
  show _=_
  unfold Sh.pad
  rw[←hz,Nat.mod_eq_of_lt (show 8*n<18446744073709551616 by omega)]
 have b6:Hid ((Sh.pad n).length=z+9):=by show _=_;rw[a6.o];simp[beBytes_len]
 have HZ:=qh hz
 have b2:Hid (∀W,Calls Tryz.prog 34 #[.int .i64 2,.int .i64 8,.int .u64 ((n:Int)*8)] W fun e w'=>e=.returned (.tuple #[.slice (some ⟨W.heap.size,0,none⟩) 8 8,.int .i64 0])∧Blk w' W.heap.size 5 (u8s (Sh.beBytes (8*n) 8))∧Below W.heap.size W w'):=fun W=>by
  have:=zwl (8*n) W om;rw[show((8*n:Nat):Int)=(n:Int)*8 by omega]at this;exact this
 rw[b6.o];clear hz;have a4:=qh (show(w.alloc (.cells #[.int .u8 128] 5)).ownsRow w.heap.size 5 1 (.slice (some ⟨w.heap.size,0,none⟩) 1 1) 1 (u8s (128 :: List.replicate 0 0)) from zbg (cs:=u8s [128]) (Blk.new' rfl rfl) lr 1 1 1 om rfl om);have a7:Hid (Below w.heap.size w (w.alloc (.cells #[.int .u8 128] 5))):=(Below.refl _ _).alloc lr _
 go_enter Tryz.func150, Tryz.ntmps150
 go_wp2_with fail
 go_loopg [3] z (fun kk v wr=>∃j:Nat,j≤z∧kk=z-j∧(∃A' c',v=.slice A' (j+1) c'∧j+1≤c'∧wr.ownsRow w.heap.size 5 1 (.slice A' (j+1) c') (j+1) (u8s (128 :: List.replicate j 0)))∧Below w.heap.size w wr)
 case atStart=>exact⟨0,by omega,rfl,⟨_,_,rfl,by omega,a4.o⟩,a7.o⟩
 case round =>
  clear a4 a7;obtain⟨j,hj,a1,⟨A',c',rfl,c1,r⟩,hB⟩:=hrel;have b3:=qh a1;clear a1;have U:(n+(j+1)+8)%64=0 ↔ j=z:=by have:=HZ.o;omega
  obtain⟨u,hu⟩:=ex9 (n+(j+1)+8);have c5:(n:Int)+((j+1:Nat):Int)+8=(u:Int):=om;have b9:(n:Int)+((j:Int)+1)+8=(u:Int):=om;rw[←hu]at U
  by_cases hlt:j<z
  · have a9:((u:Int)%64 != 0)=true:=by rw[bne_iff_ne];omega
    have J:=qh r;have G:=qh hB;have a8:=hB.size;have b1:Hid (RdS 1 (wr.alloc (.cells #[.int .u8 0] 5)) (some ⟨wr.heap.size,0,none⟩) 1 (u8s [0])):=RdS.new wr 5 (u8s [0]) 1 rfl;have M:Hid (u8s (128 :: List.replicate j 0)++u8s [0]=u8s (128 :: List.replicate (j+1) 0)):=by show _=_;rw[←zae,List.replicate_succ'];rfl
    clear r hB U hu
    go_wp2_with (at_builtin;refine zah rfl (.tmp 14) (.tmp 15) 22 rfl w.heap.size 5 1 1 Tryz.underlying22 eU8 (.slice A' (j+1) c') (j+1) (u8s (128 :: List.replicate j 0)) rr (by exact J.o.alloc _) (some ⟨wr.heap.size,0,none⟩) 1 1 (u8s [0]) rr (by exact b1.o) (zac _) om om (by simp;omega) ?_;intro A2 c2 w2 D c4 a3 a0;have E:=qh D;rw[M.o]at E;have I:=qh ((G.o.alloc G.o.size _).grown a3 (Nat.le_trans G.o.size sy) (fun k hk=>(J.o.lt k hk).1));clear D a3 a0)
    go_roundg (z-(j+1))
    case measure=>have:=b3.o;omega
    case rel=>exact⟨j+1,by omega,rfl,⟨A2,c2,rfl,by omega,E.o⟩,I.o⟩
  · obtain rfl:j=z:=om
    have a9:((u:Int)%64 != 0)=false:=by rw[bne_eq_false_iff_eq];omega
    have J:=qh r;have G:=qh hB;have a8:=hB.size;have M:Hid (u8s (128 :: List.replicate j 0)++u8s (Sh.beBytes (8*n) 8)=u8s (Sh.pad n)):=by show _=_;rw[a6.o,←zae];rfl
    have b7:Hid ((Sh.beBytes (8*n) 8).length=8):=beBytes_len _ _;clear r hB U hu
    go_wp2_with (first
     | (go_at_call 34;(with_reducible refine(b2.o _).mono ?_);rintro e w2 ⟨rfl,a5,V⟩;have E:=qh (zas J.o V);have I:=qtr G V;have b4:Hid (Rd w2 (some ⟨wr.heap.size,0,none⟩) 8 (u8s (Sh.beBytes (8*n) 8))):=(by have h6:=a5.rdAll;rw[b7.o]at h6;exact h6);clear a5 V)
     | (at_builtin;refine zah rfl (.tmp 24) (.tmp 25) 22 rfl w.heap.size 5 1 1 Tryz.underlying22 eU8 (.slice A' (j+1) c') (j+1) (u8s (128 :: List.replicate j 0)) rr (by exact E.o) (some ⟨wr.heap.size,0,none⟩) 8 8 (u8s (Sh.beBytes (8*n) 8)) rr (by exact b4.o.toS) (zac _) om om (by exact I.o.size) ?_;intro A3 c3 w3 A c6 Y X;have a2:=qh A;rw[M.o]at a2;have b5:=qh (I.o.grown Y I.o.size (fun k hk=>(E.o.lt k hk).1));clear A Y X))
    go_ret;exact⟨A3,c3,rfl,by omega,a2.o,b5.o⟩
section
attribute [local go_sem ↓] zch
theorem znd(n:Nat):∀(k j:Nat),j<k→(Sh.beBytes n k).take (j+1)=(Sh.beBytes n k).take j++[UInt8.ofNat (n/256^(k-1-j))]
 | 0,j,h=>by omega
 | k+1,0,_=>by simp[Sh.beBytes]
 | k+1,j+1,h=>by
  rw[Sh.beBytes,List.take_succ_cons,List.take_succ_cons,znd n k j om,show k+1-1-(j+1)=k-1-j by omega]
  rfl
theorem zuo(c:Cm)(hc:c.ok)(h0:c.check=0)(w:World):
 Calls Tryz.prog 62 #[.agg c.cells.toArray] w fun e w'=>∃A' c',e=.returned (.tuple #[.slice A' 32 c',.int .i64 0])∧32≤c'∧w'.ownsRow w.heap.size 5 1 (.slice A' 32 c') 32 (u8s c.enc)∧Below w.heap.size w w':=by
 have a5:Hid (∀W,Calls Tryz.prog 91 #[.agg c.cells.toArray] W fun e w'=>e=.returned (.int .i64 0)∧Below W.heap.size W w'):=fun W=>by
  have h5:=zpg c hc W
  rwa [h0]at h5
 have hl:=Cm.cells_len hc;have c6:=qh hc.2.2;obtain⟨N,hN⟩:=ex9 (c.n);obtain⟨D,hD⟩:=ex9 (c.d);have c5:Hid (u8s ([c.k,c.f]++(Sh.beBytes D 4++Sh.beBytes N 8))++u8s c.m++u8s [0,0]=u8s c.enc):=by show _=_;rw[←zae,←zae,hN,hD];simp[Cm.enc]
 obtain⟨C,hC⟩:=ex9 (c.cells);have a9:Hid (Blk (w.alloc (.cells C.toArray 63)) w.heap.size 63 C):=Blk.new w _ _;have b5:Hid (Below w.heap.size w (w.alloc (.cells C.toArray 63))):=(Below.refl _ w).alloc lr _;rw[←hC]at hl a5 ⊢;have d4:(ldAt 63 (.pointer (some ⟨w.heap.size,0,none⟩))).run Tryz.prog (w.alloc (.cells C.toArray 63))=.ok (.agg C.toArray) (w.alloc (.cells C.toArray 63)):=cm_ld a9.o hl;have b4:Hid (C[0]? = some (.int .u8 c.k.toNat)):=by rw[hC];rfl
 have b7:Hid (C[1]? = some (.int .u8 c.f.toNat)):=by rw[hC];rfl
 have d7:Hid (C[2]? = some (.int .u32 (D:Int))):=by rw[hC,hD];rfl
 have d5:Hid (C[3]? = some (.int .u64 (N:Int))):=by rw[hC,hN];rfl
 have b6:Hid (C.drop 4=u8s c.m):=by rw[hC];rfl
 have e3:=qh hl;obtain⟨k0,a7⟩:=ex9 (c.k);obtain⟨f0,b2⟩:=ex9 (c.f);obtain⟨m0,a8⟩:=ex9 (c.m);rw[←a7,←b2,←a8]at c5;rw[←a7]at b4;rw[←b2]at b7;rw[←a8]at b6 c6;generalize u8s c.enc=EN at *;clear hl hC h0 hc hN hD a7 b2 a8
 go_enter Tryz.func62, Tryz.ntmps62
 go_wp2_with (first
  | (go_at_call 91;(with_reducible refine(a5.o _).mono ?_);rintro e w1 ⟨rfl,a3⟩;have c8:=qtr b5 a3;have a2:=qbl a9 a3;have c0:w1.cell? ⟨w.heap.size,0,none⟩=some (.int .u8 k0.toNat):=by rw[a2.o.cell];exact b4.o
     have c1:w1.cell? ⟨w.heap.size,1,none⟩=some (.int .u8 f0.toNat):=by rw[a2.o.cell];exact b7.o
     clear a3 a9 b5 d4 a5))
 have b3:Hid ((w1.alloc (.cells #[.int .u8 k0.toNat,.int .u8 f0.toNat] 5)).ownsRow (w.heap.size+1) 5 1 (.slice (some ⟨w1.heap.size,0,none⟩) 2 2) 2 (u8s ([k0,f0]++(Sh.beBytes D 4).take 0))):=zbg (cs:=u8s [k0,f0]) (Blk.new' rfl rfl) (Nat.succ_le_of_lt a2.o.lt) 2 2 1 om rfl om;have G:Hid (Below w.heap.size w (w1.alloc (.cells #[.int .u8 k0.toNat,.int .u8 f0.toNat] 5))):=c8.o.alloc c8.o.size _;have J:Hid (Blk (w1.alloc (.cells #[.int .u8 k0.toNat,.int .u8 f0.toNat] 5)) w.heap.size 63 C):=a2.o.alloc _
 go_loopg [5,6] 4 (fun kk v q wr=>∃j L:Nat,j≤4∧kk=4-j∧Hid (L=2+j)∧q=.int .i64 ((3:Int)-(j:Int))∧(∃A' c',v=.slice A' L c'∧L≤c'∧Hid (wr.ownsRow (w.heap.size+1) 5 1 (.slice A' L c') L (u8s ([k0,f0]++(Sh.beBytes D 4).take j))))∧Hid (Blk wr w.heap.size 63 C)∧Hid (Below w.heap.size w wr))
 case atStart=>exact⟨0,2,by omega,rfl,rfl,rfl,⟨_,_,rfl,lr,b3⟩,J,G⟩
 case round =>
  clear b3 J G;obtain⟨j,L,hj,X,M,rfl,⟨A',c',rfl,c4,A⟩,HB,HE⟩:=hrel;have a0:=qh X;have d0:L≤32:=by have:=M.o;omega
  clear X
  by_cases hlj:j<4
  · obtain⟨i,hi⟩:=ex9 (4-1-j)
    rw[show(3:Int)-(j:Int)=(i:Int) by omega];have e0:(0:Int)≤(i:Int):=om;have e2:i≤3:=om;have cx:wr.cell? ⟨w.heap.size,2,none⟩=some (.int .u32 (D:Int)):=by rw[HB.o.cell];exact d7.o
    have a4:Hid (RdS 1 (wr.alloc (.cells #[.int .u8 ((D:Int)/2^(8*i)%256)] 5)) (some ⟨wr.heap.size,0,none⟩) 1 (u8s [UInt8.ofNat (D/256^i)])):=by
     rw[zdx];exact RdS.new wr 5 (u8s [UInt8.ofNat (D/256^i)]) 1 rfl
    have b1:Hid (u8s ([k0,f0]++(Sh.beBytes D 4).take j)++u8s [UInt8.ofNat (D/256^i)]=u8s ([k0,f0]++(Sh.beBytes D 4).take (j+1))):=by show _=_;rw[znd _ _ _ hlj,←hi,←zae];simp
    have a6:Hid (i=4-1-j):=hi;clear hi
    go_wp2_with (at_builtin;refine zah rfl (.tmp 22) (.tmp 29) 22 rfl (w.heap.size+1) 5 1 1 Tryz.underlying22 eU8 (.slice A' L c') L _ rr (by exact zas A.o ((Below.refl _ _).alloc lr _)) (some ⟨wr.heap.size,0,none⟩) 1 1 (u8s [UInt8.ofNat (D/256^i)]) rr (by exact a4.o) (zac _) om om (by have:=HB.o.lt;simp;omega) ?_;intro A2 c2 w2 r a1 E I;rw[b1.o]at r;have V:=qh r;have G:=qh ((HE.o.alloc HE.o.size _).grown E (Nat.le_trans HE.o.size sy) (fun g hg=>by have h1:=(A.o.lt g hg).1;omega));have J:=qh ((HB.o.alloc _).grown E (fun e=>by have h1:=(A.o.lt _ e.symm).1;omega));clear r E I)
    go_roundg (4-(j+1))
    case measure=>have:=a0.o;omega
    case rel=>exact⟨j+1,L+1,by omega,rfl,(by have:=M.o;show _=_;omega),by have:=a6.o;congr 1;omega,⟨A2,c2,rfl,a1,V⟩,J,G⟩
  · obtain rfl:j=4:=om
    rw[show(3:Int)-((4:Nat):Int)=-1 from rfl];have d3:L=6:=M.o;subst d3;have Y:Hid (u8s ([k0,f0]++(Sh.beBytes D 4).take 4)=u8s ([k0,f0]++Sh.beBytes D 4++(Sh.beBytes N 8).take 0)):=by show _=_;rw[tk (by rw[beBytes_len];exact lr)];simp
    rw[Y.o]at A;clear Y;go_wp2
    go_loopg [5,7] 8 (fun kk v q wr=>∃j L:Nat,j≤8∧kk=8-j∧Hid (L=6+j)∧q=.int .i64 ((7:Int)-(j:Int))∧(∃A' c',v=.slice A' L c'∧L≤c'∧Hid (wr.ownsRow (w.heap.size+1) 5 1 (.slice A' L c') L (u8s ([k0,f0]++Sh.beBytes D 4++(Sh.beBytes N 8).take j))))∧Hid (Blk wr w.heap.size 63 C)∧Hid (Below w.heap.size w wr))
    case atStart=>exact⟨0,6,by omega,rfl,rfl,rfl,⟨A',c',rfl,c4,A⟩,HB,HE⟩
    case round =>
     clear A HB HE M a0;obtain⟨j,L,hj,X,M,rfl,⟨A',c',rfl,c4,A⟩,HB,HE⟩:=hrel;have a0:=qh X;have d0:L≤32:=by have:=M.o;omega
     clear X
     by_cases hlj:j<8
     · obtain⟨i,hi⟩:=ex9 (8-1-j)
       rw[show(7:Int)-(j:Int)=(i:Int) by omega];have e0:(0:Int)≤(i:Int):=om;have e2:i≤7:=om;have cx:wr.cell? ⟨w.heap.size,3,none⟩=some (.int .u64 (N:Int)):=by rw[HB.o.cell];exact d5.o
       have a4:Hid (RdS 1 (wr.alloc (.cells #[.int .u8 ((N:Int)/2^(8*i)%256)] 5)) (some ⟨wr.heap.size,0,none⟩) 1 (u8s [UInt8.ofNat (N/256^i)])):=by
        rw[zdx];exact RdS.new wr 5 (u8s [UInt8.ofNat (N/256^i)]) 1 rfl
       have b1:Hid (u8s ([k0,f0]++Sh.beBytes D 4++(Sh.beBytes N 8).take j)++u8s [UInt8.ofNat (N/256^i)]=u8s ([k0,f0]++Sh.beBytes D 4++(Sh.beBytes N 8).take (j+1))):=by show _=_;rw[znd _ _ _ hlj,←hi,←zae];simp
       have a6:Hid (i=8-1-j):=hi;clear hi
       go_wp2_with (at_builtin;refine zah rfl (.tmp 35) (.tmp 42) 22 rfl (w.heap.size+1) 5 1 1 Tryz.underlying22 eU8 (.slice A' L c') L _ rr (by exact zas A.o ((Below.refl _ _).alloc lr _)) (some ⟨wr.heap.size,0,none⟩) 1 1 (u8s [UInt8.ofNat (N/256^i)]) rr (by exact a4.o) (zac _) om om (by have:=HB.o.lt;simp;omega) ?_;intro A2 c2 w2 r a1 E I;rw[b1.o]at r;have V:=qh r;have G:=qh ((HE.o.alloc HE.o.size _).grown E (Nat.le_trans HE.o.size sy) (fun g hg=>by have h1:=(A.o.lt g hg).1;omega));have J:=qh ((HB.o.alloc _).grown E (fun e=>by have h1:=(A.o.lt _ e.symm).1;omega));clear r E I)
       go_roundg (8-(j+1))
       case measure=>have:=a0.o;omega
       case rel=>exact⟨j+1,L+1,by omega,rfl,(by have:=M.o;show _=_;omega),by have:=a6.o;congr 1;omega,⟨A2,c2,rfl,a1,V⟩,J,G⟩
     · obtain rfl:j=8:=om
       rw[show(7:Int)-((8:Nat):Int)=-1 from rfl];obtain⟨m2,d6⟩:∃m2:Nat,m2=30:=⟨_,rfl⟩;have c9:L=14:=M.o;subst c9;clear d6 m2
       have e4:Hid (∀W,Blk W w.heap.size 63 C→RdS 1 W (some ⟨w.heap.size,4,none⟩) 16 (u8s m0)):=fun W hb=>by
        have h5:=hb.rd 4 16 (by rw[e3.o];omega);rw[b6.o,tk (by rw[zaa,c6.o];exact lr)]at h5;exact h5.toS
       have Y:Hid (u8s ([k0,f0]++Sh.beBytes D 4++(Sh.beBytes N 8).take 8)=u8s ([k0,f0]++(Sh.beBytes D 4++Sh.beBytes N 8))):=by show _=_;rw[tk (by rw[beBytes_len];exact lr),as9]
       rw[Y.o]at A
       go_wp2_with (first
        | (at_builtin;refine zah rfl (.tmp 44) (.tmp 46) 22 rfl (w.heap.size+1) 5 1 1 Tryz.underlying22 eU8 (.slice A' 14 c') 14 _ rr (by exact A.o) (some ⟨w.heap.size,4,none⟩) 16 16 (u8s m0) rr (by exact e4.o _ HB.o) (zac _) om om (by have:=HB.o.lt;omega) ?_;intro A2 c2 w2 r a1 E I;have V:=qh r;have G:=qh (HE.o.grown E HE.o.size (fun g hg=>by have h1:=(A.o.lt g hg).1;omega));have J:=qh (HB.o.grown E (fun e=>by have h1:=(A.o.lt _ e.symm).1;omega));clear r E I)
        | (at_builtin;refine zah rfl (.tmp 48) (.tmp 49) 22 rfl (w.heap.size+1) 5 1 1 Tryz.underlying22 eU8 (.slice A2 30 c2) 30 _ rr (by exact zas V.o ((Below.refl _ _).alloc lr _)) (some ⟨w2.heap.size,0,none⟩) 2 2 (u8s [0,0]) rr (by exact(Blk.new' rfl rfl:Blk (w2.alloc (.cells #[.int .u8 0,.int .u8 0] 5)) w2.heap.size 5 (u8s [0,0])).rdAll.toS) (zac _) om om (by have:=J.o.lt;simp;omega) ?_;intro A3 c3 w3 U d8 b9 c7;rw[c5.o]at U;have e1:=qh (zbi U (Nat.le_succ _));have d9:=qh ((G.o.alloc G.o.size _).grown b9 (Nat.le_trans G.o.size sy) (fun g hg=>by have h1:=(V.o.lt g hg).1;omega));clear U b9 c7))
       go_ret2;exact⟨A3,c3,rfl,d8,e1.o,d9.o⟩
end
theorem zv4(s:Sh.St)(q r:Nat)(x:UInt32)(hr:r<4)(hx:s.list[q]? = some x):s.bytes[4*q+r]? = (Sh.wordBytes x)[r]?:=by
 have hq:q<8:=(gi9.1 hx).1;obtain⟨a,b,c,d,e,f,g,h⟩:=s;obtain rfl|rfl|rfl|rfl|rfl|rfl|rfl|rfl:q=0∨q=1∨q=2∨q=3∨q=4∨q=5∨q=6∨q=7:=om
 all_goals
   simp only[Sh.St.list,List.getElem?_cons_zero,List.getElem?_cons_succ,Option.some.injEq]at hx;subst hx;obtain rfl|rfl|rfl|rfl:r=0∨r=1∨r=2∨r=3:=om
   all_goals rfl
theorem zyf(n:Nat):(n+(Sh.pad n).length)%64=0:=by
 have:(Sh.pad n).length=(119-n%64)%64+9:=by simp[Sh.pad,beBytes_len]
 omega
theorem pad_ge(n:Nat):9≤(Sh.pad n).length:=by
 have:(Sh.pad n).length=(119-n%64)%64+9:=by simp[Sh.pad,beBytes_len]
 omega
theorem pad_le(n:Nat):(Sh.pad n).length≤72:=by
 have:(Sh.pad n).length=(119-n%64)%64+9:=by simp[Sh.pad,beBytes_len]
 omega
theorem zjr(A:Option Addr)(n c:Nat)(l:List UInt8)(w:World)(h:Rd w A n (u8s l))(hn:n≤100000000):
 Calls Tryz.prog 135 #[.slice A n c] w fun e w'=>e=.returned (.agg (u8s (Sh.sha l)).toArray)∧Below w.heap.size w w':=by
 have c9:l.length=n:=h.len;obtain⟨P,hP⟩:=ex9 ((Sh.pad n).length);have g5:=zyf n;have k0:=pad_le n;have i5:=pad_ge n;rw[←hP]at g5 k0 i5;obtain⟨K,hK⟩:∃K,n+P=64*K:=⟨(n+P)/64,by omega⟩;obtain⟨L,hL⟩:=ex9 (l++Sh.pad n);have d0:L.length=n+P:=by rw[hL,la9,c9,hP]
 have c8:Hid (Sh.sha l=(Sh.fold L K).bytes):=by
  show _=_
  unfold Sh.sha
  rw[c9,←hL,d0,hK,Nat.mul_div_cancel_left _ om]
 have j7:=qh (fun W (hr:Rd W A n (u8s l))=>zb1 A n c l W hr om);have i2:=qh (fun W=>zk8 n W om);rw[←hP]at i2;have f9:=qh zpe;have j5:=qh zjv;have k6:Hid (u8s l++u8s (Sh.pad n)=u8s L):=by show _=_;rw[hL,zae]
 have k5:=qh d0;have f4:=qh hK;have d8:Hid (∀v∈u32s Sh.start.list,v.oneCell'=true):=zbc _;have e0:Hid ((Tryz.prog.info? 165).map (·.size)=some (u32s Sh.start.list).length):=hd144;have g9:Hid ((u32s Sh.start.list).length=8):=rfl;obtain⟨U0,d6⟩:=ex9 (u32s Sh.start.list);rw[←d6]at f9 d8 e0 g9;have j3:Hid (U0=st8 (Sh.fold L 0)):=d6;have HM:=qh h;clear c9 hP hL d0 hK d6 h g5
 go_enter Tryz.func135, Tryz.ntmps135
 go_wp2_with (first
  | (go_at_call 28;(with_reducible refine(j7.o _ (by exact HM.o.alloc _)).mono ?_);rintro e w1 ⟨A1,c1,rfl,m1,a4,c6⟩;have g1:=qh (((Below.refl _ w).alloc lr _).trans (c6.mono sy));have h8:=qh ((Blk.new' (w:=w) (cs:=u8s (List.replicate 32 0)) (t:=27) rfl rfl).below c6 sy);have d9:=qh (zbi a4 (base':=w.heap.size+1) sy);clear a4 c6)
  | (go_at_call 150;(with_reducible refine(i2.o _).mono ?_);rintro e w2 ⟨A2,c2,rfl,l6,a2,b5⟩;have d5:=qtr g1 b5;have E:=qbl h8 b5;have b2:=qh (zas d9.o b5);have e6:=qh (Rd.of_own a2);have j0:=E.o.lt;clear a2 b5)
  | (at_builtin;refine zah rfl (.tmp 9) (.tmp 12) 22 rfl (w.heap.size+1) 5 1 1 Tryz.underlying22 eU8 (.slice A1 n c1) n (u8s l) rr (by exact b2.o) A2 P c2 (u8s (Sh.pad n)) rr (by exact e6.o.toS) (zac _) om om om ?_;intro A3 c3 w3 a3 j8 a9 f3;have d4:=qh a3;rw[k6.o]at d4;have f5:=qh (d5.o.grown a9 d5.o.size (fun k hk=>by have:=(b2.o.lt k hk).1;omega));have h0:=qh (E.o.grown a9 (fun e=>by have:=(b2.o.lt _ e.symm).1;omega));clear a3 a9 f3)
  | (go_at_call 151;(with_reducible refine(f9.o _).mono ?_);rintro e w4 ⟨rfl,b3⟩;have a6:=qtr f5 b3;have b1:=qbl h0 b3;have c7:=qh (zas d4.o b3);clear b3)
  | (refine zab rfl 165 (.tmp 4) (.tmp 14) rfl w4.heap.size U0 rr rr 165 (u32s [0,0,0,0,0,0,0,0]) (by exact Blk.new' rfl rfl) e0.o d8.o (by rw[g9.o];rfl) ?_;intro w5 h2 a8;have f6:=qh (a8.below (a6.o.alloc a6.o.size _) a6.o.size (Nat.le_trans a6.o.size sy));have h3:=qal a8 b1 (by have:=b1.o.lt;omega);have e1:=qh (zas c7.o ((Below.refl _ w4).alloc lr (.cells (u32s [0,0,0,0,0,0,0,0]).toArray 165)));have j1:=qh (Rd.of_own e1.o);have e9:Hid (Blk w5 w4.heap.size 165 (st8 (Sh.fold L 0))):=(by rw[←j3.o];exact h2)))
 obtain⟨g3,j9,a9,l0,f0⟩:=zco c7.o om;subst j9;have d3:Hid (Rd w5 (some ⟨g3,0,none⟩) (n+P) (u8s L)):=a8.rd (f0.alloc _) (fun ad e=>by injection e with e;subst e;show g3≠w4.heap.size;omega);have l9:=b1.o.lt;clear d4 b2 d9 c7 e1 j1 e6 f0 h2 a8 g1 d5 f5 a6 h8 E h0 b1 j0;obtain⟨N,hN⟩:=ex9 (n+P);rw[←hN]at d3 f4 k5 j8 ⊢;have l3:N≤100000072:=om;clear hN;generalize w4.heap.size=g4 at *
 go_loopg [5] K (fun kk q wr=>∃j m:Nat,j≤K∧kk=K-j∧m=64*j∧q=.int .i64 m∧Blk wr g4 165 (st8 (Sh.fold L j))∧Rd wr (some ⟨g3,0,none⟩) N (u8s L)∧Blk wr w.heap.size 27 (u8s (List.replicate 32 0))∧Below w.heap.size w wr)
 case atStart=>exact⟨0,0,by omega,rfl,rfl,rfl,e9.o,d3.o,h3.o,f6.o⟩
 case round =>
  clear e9 d3 h3 f6;obtain⟨j,m,hj,a1,hm,rfl,hs,hr,hz,hB⟩:=hrel;have e5:=qh a1;have hK:=f4.o
  by_cases hlt:j<K
  · have k7:m+64≤N:=om
    have q1:(m:Int)<(N:Int):=om;have q2:(m:Int)+64≤(c3:Int):=om;have q3:¬c3=m:=om;have q4:(m:Int)+64≤(N:Int):=om;have h4:Hid (Sh.fold L (j+1)=Sh.comp (Sh.fold L j) ((L.drop m).take 64)):=by show _=_;rw[hm];rfl
    have k4:Hid (m+64=64*(j+1)):=by show _=_;omega
    have i7:Hid (∀W,Rd W (some ⟨g3,0,none⟩) N (u8s L)→Rd W (some ⟨g3,m,none⟩) 64 (u8s ((L.drop m).take 64))):=fun W h5=>by
     have h6:=zix h5 m 64 k7;rw[Nat.zero_add]at h6;exact h6
    obtain⟨S,hS⟩:=ex9 (Sh.fold L j);rw[←hS]at hs h4
    have f2:∀W,Rd W (some ⟨g3,m,none⟩) 64 (u8s ((L.drop m).take 64))→Calls Tryz.prog 152 #[.agg #[.int .u32 (n32 S.a),.int .u32 (n32 S.b),.int .u32 (n32 S.c),.int .u32 (n32 S.d),.int .u32 (n32 S.e),.int .u32 (n32 S.f),.int .u32 (n32 S.g),.int .u32 (n32 S.h)],.slice (some ⟨g3,m,none⟩) 64 (c3-m)] W fun e w'=>e=.returned (.agg (st8 (Sh.fold L (j+1))).toArray)∧Below W.heap.size W w':=fun W h5=>by
     have h6:=j5.o S (some ⟨g3,m,none⟩) (c3-m) _ W h5;rw[h4.o];exact h6
    have c4:=qh f2;have d7:Hid ((Tryz.prog.info? 165).map (·.size)=some (st8 (Sh.fold L (j+1))).length):=hd144;have g7:Hid (∀v∈st8 (Sh.fold L (j+1)),v.oneCell'=true):=by rw[zdl];exact zbc _
    have h1:Hid ((st8 (Sh.fold L (j+1))).length=8):=rfl;have f1:Hid ((st8 S).length=8):=rfl;obtain⟨V,hV⟩:=ex9 (st8 (Sh.fold L (j+1)));rw[←hV]at c4 d7 g7 h1;have i8:=qh hV;have s0:=hs.cell 0;have s1:=hs.cell 1;have s2:=hs.cell 2;have s3:=hs.cell 3;have s4:=hs.cell 4;have s5:=hs.cell 5;have s6:=hs.cell 6;have s7:=hs.cell 7;simp only[st8,List.getElem?_cons_zero,List.getElem?_cons_succ]at s0 s1 s2 s3 s4 s5 s6 s7;have a7:=qh hs;have i0:=qh hr;have HZ:=qh hz;have X:=qh hB;clear f2 hS hV hs hr hz hB a1 hm hK hj
    go_wp2_with fail
    have p1:(0:Int)≤(m:Int)+64:=om;have p2:((m:Int)+64).toNat=m+64:=om;have p3:(0:Int)≤(m:Int):=om;have p4:(m:Int)≤(m:Int)+64:=om;have i9:IntKind.i64.wrap ((m:Int)+64)=(m:Int)+64:=IntWalk.i64_in _ om
    go_still_tail 6,kr
    clear p1 p2 p3 p4 i9 s0 s1 s2 s3 s4 s5 s6 s7
    go_wp2_with (first
     | (go_at_call 152;(with_reducible refine(c4.o _ (by exact i7.o _ i0.o.drew)).mono ?_);rintro e w6 ⟨rfl,a5⟩;have j6:=qh (a7.o.drew.below a5 a7.o.lt);have i6:=qh (i0.o.drew.below a5);have k8:=qh (HZ.o.drew.below a5 HZ.o.lt);have f7:=qh (X.o.drew.trans (a5.mono X.o.size));clear a5)
     | (refine zab rfl 165 (.tmp 4) (.tmp 27) rfl g4 V rr rr 165 _ j6.o d7.o g7.o (by rw[h1.o,f1.o]) ?_;intro w7 i1 b4;have h9:=qh i1;rw[i8.o]at h9;have j4:=qh (b4.rd i6.o (fun ad e=>by injection e with e;subst e;show g3≠g4;omega));have k3:=qh (b4.blk k8.o om);have k1:=qh (b4.below f7.o om f7.o.size);clear i1 b4))
    go_roundg (K-(j+1))
    case measure=>have:=e5.o;omega
    case rel=>exact⟨j+1,m+64,by omega,rfl,k4.o,by go_num,h9.o,j4.o,k3.o,k1.o⟩
  · obtain rfl:j=K:=om
    have q1:¬(m:Int)<(N:Int):=om;obtain⟨F,hF⟩:=ex9 (Sh.fold L j);rw[←hF]at hs c8;obtain⟨B,c0⟩:=ex9 (F.bytes);have e3:B.length=32:=by rw[c0];simp[Sh.St.bytes,Sh.St.list,Sh.wordBytes]
    rw[←c0]at c8;have i4:=qh c0;have e7:=qh e3;have a7:=qh hs;have HZ:=qh hz;have X:=qh hB;have k9:=hs.lt;clear hF c0 e3 hs hr hz hB a1 hm hK hj e5 hlt
    go_wp2_with fail
    have f8:Hid (Blk (wr.alloc (.cells (u8s (List.replicate 32 0)).toArray 27)) wr.heap.size 27 (u8s (B.take 0++rep (32-0) 0))):=Blk.new' rfl rfl;have c5:=qh (a7.o.alloc (.cells (u8s (List.replicate 32 0)).toArray 27));have h7:=qh (HZ.o.alloc (.cells (u8s (List.replicate 32 0)).toArray 27));have e2:=qh (X.o.alloc X.o.size (.cells (u8s (List.replicate 32 0)).toArray 27));have l7:=X.o.size;clear a7 HZ X;generalize wr.heap.size=g6 at *
    go_loopg [7] 32 (fun kk q wr=>∃i:Nat,i≤32∧kk=32-i∧q=.int .i64 i∧Blk wr g6 27 (u8s (B.take i++rep (32-i) 0))∧Blk wr g4 165 (st8 F)∧Blk wr w.heap.size 27 (u8s (List.replicate 32 0))∧Below w.heap.size w wr)
    case atStart=>exact⟨0,by omega,rfl,rfl,f8.o,c5.o,h7.o,e2.o⟩
    case round =>
     clear f8 c5 h7 e2;obtain⟨i,hi,a1,rfl,ho,hs,hz,hB⟩:=hrel;have I:=qh a1;clear a1
     by_cases hlt:i<32
     · have g2:(i:Int)<32:=om
       have l8:(0:Int)≤(i:Int):=om;obtain⟨q,hq⟩:=ex9 (i/4);have m0:(i:Int)/4=(q:Int):=om;have l5:(0:Int)≤(q:Int):=om;have l1:(q:Int)<8:=om;obtain⟨x,hx⟩:∃x,F.list[q]? = some x:=⟨_,ge9 (by simp[Sh.St.list];omega)⟩;have cx:wr.cell? ⟨g4,q,none⟩=some (.int .u32 (n32 x)):=(hs.cell q).trans (by rw[zdl];exact zbx hx);have b9:Hid (∀r,r<4→B[4*q+r]? = (Sh.wordBytes x)[r]?):=fun r hr=>by rw[i4.o];exact zv4 F q r x hr hx
       obtain⟨z,g0⟩:∃z,(u8s (B.take i++rep (32-i) 0))[i]? = some z:=⟨_,ge9 (by rw[zaa,la9,List.length_take,zao,e7.o];omega)⟩;have cz:=(ho.cell i).trans g0;have fz:=ho.frozen i;have l2:=ho.lt;clear hx g0;obtain⟨r,hr⟩:=ex9 (i%4);have G:i=4*q+r:=om;have b7:r<4:=om;clear hq hr;obtain rfl|rfl|rfl|rfl:r=0∨r=1∨r=2∨r=3:=om
       · have b7:(i:Int)%4=0:=om
         have hy:B[i]? = some (x >>> 24).toUInt8:=by rw[G,b9.o 0 om];rfl
         have a0:=qh (zg8 B 0 _ i 32 hlt hy);have D:=qh (ho.set_ i (.int .u8 ((x >>> 24).toUInt8).toNat));rw[za5,a0.o]at D;have M:=qh (hs.far (p:=⟨g6,i,none⟩) (by show g4≠g6;omega) (.int .u8 ((x >>> 24).toUInt8).toNat));have E:=qh (hz.far (p:=⟨g6,i,none⟩) (by show w.heap.size≠g6;omega) (.int .u8 ((x >>> 24).toUInt8).toNat));have J:=qh (hB.setCell (p:=⟨g6,i,none⟩) (by show w.heap.size≤g6;omega) (.int .u8 ((x >>> 24).toUInt8).toNat));have Y:=qh (b24 x);clear hs ho hz hB hy G
         go_wp2_with fail
         rw[Y.o];go_roundg (32-(i+1))
         case measure=>have:=I.o;omega
         case rel=>exact⟨i+1,by omega,rfl,by go_num,D.o,M.o,E.o,J.o⟩
       · have b7:(i:Int)%4=1:=om
         have hy:B[i]? = some (x >>> 16).toUInt8:=by rw[G,b9.o 1 om];rfl
         have a0:=qh (zg8 B 0 _ i 32 hlt hy);have D:=qh (ho.set_ i (.int .u8 ((x >>> 16).toUInt8).toNat));rw[za5,a0.o]at D;have M:=qh (hs.far (p:=⟨g6,i,none⟩) (by show g4≠g6;omega) (.int .u8 ((x >>> 16).toUInt8).toNat));have E:=qh (hz.far (p:=⟨g6,i,none⟩) (by show w.heap.size≠g6;omega) (.int .u8 ((x >>> 16).toUInt8).toNat));have J:=qh (hB.setCell (p:=⟨g6,i,none⟩) (by show w.heap.size≤g6;omega) (.int .u8 ((x >>> 16).toUInt8).toNat));have Y:=qh (b16 x);clear hs ho hz hB hy G
         go_wp2_with fail
         rw[Y.o];go_roundg (32-(i+1))
         case measure=>have:=I.o;omega
         case rel=>exact⟨i+1,by omega,rfl,by go_num,D.o,M.o,E.o,J.o⟩
       · have b7:(i:Int)%4=2:=om
         have hy:B[i]? = some (x >>> 8).toUInt8:=by rw[G,b9.o 2 om];rfl
         have a0:=qh (zg8 B 0 _ i 32 hlt hy);have D:=qh (ho.set_ i (.int .u8 ((x >>> 8).toUInt8).toNat));rw[za5,a0.o]at D;have M:=qh (hs.far (p:=⟨g6,i,none⟩) (by show g4≠g6;omega) (.int .u8 ((x >>> 8).toUInt8).toNat));have E:=qh (hz.far (p:=⟨g6,i,none⟩) (by show w.heap.size≠g6;omega) (.int .u8 ((x >>> 8).toUInt8).toNat));have J:=qh (hB.setCell (p:=⟨g6,i,none⟩) (by show w.heap.size≤g6;omega) (.int .u8 ((x >>> 8).toUInt8).toNat));have Y:=qh (b8 x);clear hs ho hz hB hy G
         go_wp2_with fail
         rw[Y.o];go_roundg (32-(i+1))
         case measure=>have:=I.o;omega
         case rel=>exact⟨i+1,by omega,rfl,by go_num,D.o,M.o,E.o,J.o⟩
       · have b7:(i:Int)%4=3:=om
         have hy:B[i]? = some x.toUInt8:=by rw[G,b9.o 3 om];rfl
         have a0:=qh (zg8 B 0 _ i 32 hlt hy);have D:=qh (ho.set_ i (.int .u8 (x.toUInt8).toNat));rw[za5,a0.o]at D;have M:=qh (hs.far (p:=⟨g6,i,none⟩) (by show g4≠g6;omega) (.int .u8 (x.toUInt8).toNat));have E:=qh (hz.far (p:=⟨g6,i,none⟩) (by show w.heap.size≠g6;omega) (.int .u8 (x.toUInt8).toNat));have J:=qh (hB.setCell (p:=⟨g6,i,none⟩) (by show w.heap.size≤g6;omega) (.int .u8 (x.toUInt8).toNat));have Y:=qh (b0 x);clear hs ho hz hB hy G
         go_wp2_with fail
         rw[Y.o];go_roundg (32-(i+1))
         case measure=>have:=I.o;omega
         case rel=>exact⟨i+1,by omega,rfl,by go_num,D.o,M.o,E.o,J.o⟩
     · obtain rfl:i=32:=om
       have g2:¬((32:Nat):Int)<32:=om;have g8:B.take 32++rep (32-32) 0=Sh.sha l:=by rw[c8.o,tk (by rw[e7.o];exact lr)];simp[rep]
       rw[g8]at ho;have b6:Hid ((Tryz.prog.info? 27).map (·.size)=some (u8s (Sh.sha l)).length):=by rw[zaa,Sh.sha_len];exact hd24
       have e8:Hid (∀v∈u8s (Sh.sha l),v.oneCell'=true):=zac _;have e4:Hid ((u8s (Sh.sha l)).length=(u8s (List.replicate 32 0)).length):=by show _=_;rw[zaa,Sh.sha_len];rfl
       obtain⟨U,hU⟩:=ex9 (u8s (Sh.sha l));rw[←hU]at ho b6 e8 e4;have k2:=qh hU;clear g8 hU I hlt hi
       go_wp2_with (first
        | refine wpList_load_mid rfl 27 (.tmp 6) rfl g6 0 rr U _ ho.range Tryz.underlying27 rfl b6.o ?_
        | (refine zab rfl 27 (.tmp 2) (.tmp 44) rfl w.heap.size U rr rr 27 _ hz b6.o e8.o e4.o ?_;intro w8 j2 i3))
       exact bodyPost_ret (zan rfl _ w.heap.size _ U rfl j2 _ Tryz.underlying27 rfl b6.o) rfl ⟨by rw[k2.o],i3.below hB lr hB.size⟩
def maskI(K:List UInt8)(m:UInt8)(i:Nat):List UInt8:=Mc.mask (K.take i) m++K.drop i
theorem zlq(K:List UInt8)(m:UInt8)(i:Nat)(h:i<K.length):(maskI K m i)[i]? = K[i]?:=by
 unfold maskI
 have hl:(Mc.mask (K.take i) m).length=i:=by rw[Mc.mask_len,List.length_take];omega
 rw[ar9 om,hl,Nat.sub_self,List.getElem?_drop,Nat.add_zero]
theorem zlp(K:List UInt8)(m:UInt8)(i:Nat)(x:UInt8)(hx:K[i]? = some x):(maskI K m i).set i (x ^^^ m)=maskI K m (i+1):=by
 have hi:=(gi9.1 hx).1
 unfold maskI
 have hl:(Mc.mask (K.take i) m).length=i:=by rw[Mc.mask_len,List.length_take];omega
 have hd:K.drop i=x :: K.drop (i+1):=by
  rw[List.drop_eq_getElem_cons hi];congr 1;exact(gi9.1 hx).2
 rw[List.set_append_right _ _ om,hl,Nat.sub_self,hd,List.set_cons_zero,List.take_add_one,hx]
 simp[Mc.mask]
theorem zlr(K:List UInt8)(m:UInt8)(h:K.length=64):maskI K m 64=Mc.mask K m:=by
 unfold maskI
 rw[tk om,List.drop_of_length_le om,List.append_nil]
theorem zk9(A:Option Addr)(n c:Nat)(k:List UInt8)(m:UInt8)(w:World)(h:Rd w A n (u8s k))(hn:n≤64):
 Calls Tryz.prog 136 #[.slice A n c,.int .u8 m.toNat] w fun e w'=>e=.returned (.slice (some ⟨w.heap.size,0,none⟩) 64 64)∧Blk w' w.heap.size 5 (u8s (Mc.mask (Mc.key64 k) m))∧Below w.heap.size w w':=by
 have a1:k.length=n:=h.len;have hK:Mc.key64 k=Mc.padded k:=by unfold Mc.key64;rw[if_neg om]
 have G:=qh (zep k om);rw[←hK]at G;have D:Hid ((Mc.key64 k).length=64):=Mc.key64_len k;obtain⟨K,J⟩:=ex9 (Mc.key64 k);rw[←J]at G D ⊢;have HR:=qh h;have a8:¬(64:Int)<(n:Int):=om;clear a1 hK J h
 go_enter Tryz.func136, Tryz.ntmps136
 go_wp2_with (first
  | (refine zaj rfl (.const (.int .i64 64)) (.const (.int .i64 64)) 22 rfl 5 (.int .u8 0) 1 Tryz.underlying22 iU8 rfl .i64 .i64 64 64 rr rr 64 64 rfl rfl om om om ?_;intro w1 X M a3;have a6:Hid (Blk w1 w.heap.size 5 (u8s (List.replicate 64 0))):=X;have E:Hid (Below w.heap.size w w1):=zad M;clear X M a3)
  | (refine zav rfl (.tmp 17) (.tmp 18) 22 rfl 5 Tryz.underlying22 zbk w.heap.size 0 64 64 rr A n c rr 5 _ a6.o (u8s k) (by exact HR.o.below E.o) (zac _) (by rw[zaa];exact lr) ?_;intro w2 r a0;rw[G.o]at r;have U:Hid (Blk w2 w.heap.size 5 (u8s (maskI K m 0))):=r;have Y:=qh (a0.below E.o lr E.o.size);clear r a0))
 go_loopg [7] 64 (fun kk q wr=>∃i:Nat,i≤64∧kk=64-i∧q=.int .i64 i∧Blk wr w.heap.size 5 (u8s (maskI K m i))∧Below w.heap.size w wr)
 case atStart=>exact⟨0,by omega,rfl,rfl,U.o,Y.o⟩
 case round =>
  clear U Y;obtain⟨i,hi,I,rfl,hb,hB⟩:=hrel;have a2:=qh I;clear I
  by_cases hlt:i<64
  · have V:(i:Int)<64:=om
    have b1:(0:Int)≤(i:Int):=om;obtain⟨x,hx⟩:∃x,K[i]? = some x:=⟨_,ge9 (by rw[D.o];exact hlt)⟩;have cx:wr.cell? ⟨w.heap.size,i,none⟩=some (.int .u8 x.toNat):=by rw[hb.cell,u8s_getElem?,zlq K m i (by rw[D.o];exact hlt),hx];rfl
    have fx:=hb.frozen i;have a7:=qh (zlp K m i x hx);have a5:=qh (zgw x m);have r:=qh (hb.set_ i (.int .u8 (x ^^^ m).toNat));rw[za5,a7.o]at r;have a4:=qh (hB.setCell (p:=⟨w.heap.size,i,none⟩) lr (.int .u8 (x ^^^ m).toNat));have a9:=hb.lt;clear hb hB hx
    go_wp2_with fail
    rw[a5.o];go_roundg (64-(i+1))
    case measure=>have:=a2.o;omega
    case rel=>exact⟨i+1,by omega,rfl,by go_num,r.o,a4.o⟩
  · obtain rfl:i=64:=om
    have V:¬((64:Nat):Int)<64:=om;have HB:=qh hb;rw[zlr K m D.o]at HB;clear hb
    go_wp2_with fail
    go_ret;exact⟨rfl,HB.o,hB⟩
theorem zpi(A:Option Addr)(n c:Nat)(k:List UInt8)(m:UInt8)(w:World)(h:Rd w A n (u8s k))(hn:64<n)(c5:n≤100000000):
 Calls Tryz.prog 136 #[.slice A n c,.int .u8 m.toNat] w fun e w'=>e=.returned (.slice (some ⟨w.heap.size,0,none⟩) 64 64)∧Blk w' w.heap.size 5 (u8s (Mc.mask (Mc.key64 k) m))∧Below w.heap.size w w':=by
 have b7:k.length=n:=h.len;have hK:Mc.key64 k=Mc.padded (Sh.sha k):=by unfold Mc.key64;rw[if_pos om]
 have D:=Sh.sha_len k;have E:=qh (zep (Sh.sha k) om);rw[←hK]at E;have I:Hid ((Mc.key64 k).length=64):=Mc.key64_len k;have a0:=qh (fun W (hr:Rd W A n (u8s k))=>zjr A n c k W hr c5);have J:Hid ((Tryz.prog.info? 27).map (·.size)=some (u8s (Sh.sha k)).length):=by rw[zaa,D];exact hd24
 have V:Hid ((u8s (Sh.sha k)).length=(u8s (List.replicate 32 0)).length):=by show _=_;rw[zaa,D];rfl
 have Y:Hid (∀v∈u8s (Sh.sha k),v.oneCell'=true):=zac _;have a2:=qh D;obtain⟨X,hX⟩:=ex9 (Sh.sha k);rw[←hX]at E a0 J V Y a2;obtain⟨U,hU⟩:=ex9 (u8s X);rw[←hU]at a0 J V Y;have c6:=qh hU;obtain⟨K,a5⟩:=ex9 (Mc.key64 k);rw[←a5]at E I ⊢;have HR:=qh h;have d0:(64:Int)<(n:Int):=om;clear b7 hK a5 h D hX hU
 go_enter Tryz.func136, Tryz.ntmps136
 go_wp2_with (first
  | (refine zaj rfl (.const (.int .i64 64)) (.const (.int .i64 64)) 22 rfl 5 (.int .u8 0) 1 Tryz.underlying22 iU8 rfl .i64 .i64 64 64 rr rr 64 64 rfl rfl om om om ?_;intro w1 b3 a6 c2;have c4:Hid (Blk w1 w.heap.size 5 (u8s (List.replicate 64 0))):=b3;have b6:Hid (Below w.heap.size w w1):=zad a6;clear b3 a6 c2)
  | (go_at_call 135;(with_reducible refine(a0.o _ (by exact HR.o.below b6.o)).mono ?_);rintro e w2 ⟨rfl,r⟩;have a8:=qbl c4 r;have G:=qtr b6 r;clear r)
  | (refine zab rfl 27 (.tmp 6) (.tmp 13) rfl w2.heap.size U rr rr 27 (u8s (List.replicate 32 0)) (by exact Blk.new' rfl rfl) J.o Y.o V.o ?_;intro w3 b5 M;have c8:=a8.o.lt;have c0:=qh (M.blk (a8.o.alloc _) om);have a7:=qh (M.below (G.o.alloc G.o.size _) G.o.size (Nat.le_trans G.o.size sy));have b9:Hid (Rd w3 (some ⟨w2.heap.size,0,none⟩) 32 (u8s X)):=(by have h5:=b5;rw[c6.o]at h5;have h6:=h5.rdAll;rw[a2.o]at h6;exact h6);clear b5 M)
  | (refine zav rfl (.tmp 14) (.tmp 15) 22 rfl 5 Tryz.underlying22 zbk w.heap.size 0 64 64 rr (some ⟨w2.heap.size,0,none⟩) 32 32 rr 5 _ c0.o (u8s X) (by exact b9.o) (zac _) (by rw[zaa];exact lr) ?_;intro w4 a1 a4;rw[E.o]at a1;have b1:Hid (Blk w4 w.heap.size 5 (u8s (maskI K m 0))):=a1;have b4:=qh (a4.below a7.o lr a7.o.size);clear a1 a4))
 go_loopg [7] 64 (fun kk q wr=>∃i:Nat,i≤64∧kk=64-i∧q=.int .i64 i∧Blk wr w.heap.size 5 (u8s (maskI K m i))∧Below w.heap.size w wr)
 case atStart=>exact⟨0,by omega,rfl,rfl,b1.o,b4.o⟩
 case round =>
  clear b1 b4;obtain⟨i,hi,a3,rfl,hb,hB⟩:=hrel;have c1:=qh a3;clear a3
  by_cases hlt:i<64
  · have b2:(i:Int)<64:=om
    have c9:(0:Int)≤(i:Int):=om;obtain⟨x,hx⟩:∃x,K[i]? = some x:=⟨_,ge9 (by rw[I.o];exact hlt)⟩;have cx:wr.cell? ⟨w.heap.size,i,none⟩=some (.int .u8 x.toNat):=by rw[hb.cell,u8s_getElem?,zlq K m i (by rw[I.o];exact hlt),hx];rfl
    have fx:=hb.frozen i;have c7:=qh (zlp K m i x hx);have c3:=qh (zgw x m);have a9:=qh (hb.set_ i (.int .u8 (x ^^^ m).toNat));rw[za5,c7.o]at a9;have r:=qh (hB.setCell (p:=⟨w.heap.size,i,none⟩) lr (.int .u8 (x ^^^ m).toNat));have d3:=hb.lt;clear hb hB hx
    go_wp2_with fail
    rw[c3.o];go_roundg (64-(i+1))
    case measure=>have:=c1.o;omega
    case rel=>exact⟨i+1,by omega,rfl,by go_num,a9.o,r.o⟩
  · obtain rfl:i=64:=om
    have b2:¬((64:Nat):Int)<64:=om;have HB:=qh hb;rw[zlr K m I.o]at HB;clear hb
    go_wp2_with fail
    go_ret;exact⟨rfl,HB.o,hB⟩
theorem ziy(A:Option Addr)(n c:Nat)(k:List UInt8)(m:UInt8)(w:World)(h:Rd w A n (u8s k))(r:n≤100000000):
 Calls Tryz.prog 136 #[.slice A n c,.int .u8 m.toNat] w fun e w'=>e=.returned (.slice (some ⟨w.heap.size,0,none⟩) 64 64)∧Blk w' w.heap.size 5 (u8s (Mc.mask (Mc.key64 k) m))∧Below w.heap.size w w':=by
 rcases Nat.lt_or_ge 64 n with h1|h1
 · exact zpi A n c k m w h h1 r
 · exact zk9 A n c k m w h h1
section
theorem zmc(A:Option Addr)(n c:Nat)(k:List UInt8)(A2:Option Addr)(n2 c2:Nat)(l:List UInt8)(w:World)(h:Rd w A n (u8s k))(hn:n≤100000000)(h2:Rd w A2 n2 (u8s l))(b7:n2≤10000000):
 Calls Tryz.prog 134 #[.slice A n c,.slice A2 n2 c2] w fun e w'=>e=.returned (.agg (u8s (Sh.sha (Mc.mask (Mc.key64 k) 54++l))).toArray)∧Below w.heap.size w w':=by
 have V:(Mc.mask (Mc.key64 k) 54).length=64:=by rw[Mc.mask_len,Mc.key64_len]
 have J:=ziy A n c k 54 (w.alloc (.cells (u8s (List.replicate 32 0)).toArray 27)) (h.alloc _) hn;have e1:(w.alloc (.cells (u8s (List.replicate 32 0)).toArray 27)).heap.size=w.heap.size+1:=by simp
 rw[e1]at J;have a6:Hid (Calls Tryz.prog 136 #[.slice A n c,.int .u8 54] (w.alloc (.cells #[.int .u8 0,.int .u8 0,.int .u8 0,.int .u8 0,.int .u8 0,.int .u8 0,.int .u8 0,.int .u8 0,.int .u8 0,.int .u8 0,.int .u8 0,.int .u8 0,.int .u8 0,.int .u8 0,.int .u8 0,.int .u8 0,.int .u8 0,.int .u8 0,.int .u8 0,.int .u8 0,.int .u8 0,.int .u8 0,.int .u8 0,.int .u8 0,.int .u8 0,.int .u8 0,.int .u8 0,.int .u8 0,.int .u8 0,.int .u8 0,.int .u8 0,.int .u8 0] 27)) fun e w'=>e=.returned (.slice (some ⟨w.heap.size+1,0,none⟩) 64 64)∧Blk w' (w.heap.size+1) 5 (u8s (Mc.mask (Mc.key64 k) 54))∧Below (w.heap.size+1) (w.alloc (.cells (u8s (List.replicate 32 0)).toArray 27)) w'):=J;obtain⟨M,hM⟩:=ex9 (Mc.mask (Mc.key64 k) 54);rw[←hM]at a6 V ⊢;have a1:Hid ((u8s M).length=64):=by show _=_;rw[zaa,V]
 have a7:=qh (fun W A3 c3 (hr:Rd W A3 (64+n2) (u8s (M++l)))=>zjr A3 (64+n2) c3 (M++l) W hr om);have D:Hid ((Tryz.prog.info? 27).map (·.size)=some (u8s (Sh.sha (M++l))).length):=by rw[zaa,Sh.sha_len];exact hd24
 have a3:Hid ((u8s (Sh.sha (M++l))).length=(u8s (List.replicate 32 0)).length):=by show _=_;rw[zaa,Sh.sha_len];rfl
 have a5:Hid (∀v∈u8s (Sh.sha (M++l)),v.oneCell'=true):=zac _;obtain⟨U,hU⟩:=ex9 (u8s (Sh.sha (M++l)));rw[←hU]at a7 D a3 a5 ⊢;have b3:=qh h2;clear hM hU h h2 V J e1
 go_enter Tryz.func134, Tryz.ntmps134
 go_wp2_with (first
  | (go_at_call 136;(with_reducible refine a6.o.mono ?_);rintro e w1 ⟨rfl,Y,E⟩;have a0:=qh (((Below.refl _ w).alloc lr (.cells (u8s (List.replicate 32 0)).toArray 27)).trans (E.mono (Nat.le_succ _)));have b5:=qh ((Blk.new' (w:=w) (cs:=u8s (List.replicate 32 0)) (t:=27) rfl rfl).below E (Nat.lt_succ_self _));have X:=qh (show w1.ownsRow (w.heap.size+1) 5 1 (.slice (some ⟨w.heap.size+1,0,none⟩) 64 64) 64 (u8s M) from (by have h5:=zbg Y lr 64 64 1 om (by rw[a1.o]) om;rw[tk (by rw[a1.o];omega)]at h5;exact h5));have b9:=Y.lt;clear Y E)
  | (at_builtin;refine zah rfl (.tmp 6) (.tmp 7) 22 rfl (w.heap.size+1) 5 1 1 Tryz.underlying22 eU8 (.slice (some ⟨w.heap.size+1,0,none⟩) 64 64) 64 (u8s M) rr (by exact X.o) A2 n2 c2 (u8s l) rr (by exact(b3.o.below a0.o).toS) (zac _) om om om ?_;intro A3 c3 w3 r c0 G a2;have a4:=qh (Rd.of_own r);rw[←zae]at a4;have b4:=qh (a0.o.grown G a0.o.size (fun k hk=>by have:=(X.o.lt k hk).1;omega));have b1:=qh (b5.o.grown G (fun e=>by have:=(X.o.lt _ e.symm).1;omega));clear r G a2)
  | (go_at_call 135;(with_reducible refine(a7.o _ _ _ a4.o).mono ?_);rintro e w4 ⟨rfl,I⟩;have a8:=qtr b4 I;have b2:=qbl b1 I;clear I)
  | (refine zab rfl 27 (.tmp 4) (.tmp 9) rfl w.heap.size U rr rr 27 _ b2.o D.o a5.o a3.o ?_;intro w8 b6 a9))
 exact bodyPost_ret (zan rfl _ w.heap.size _ U rfl b6 _ Tryz.underlying27 rfl D.o) rfl ⟨rfl,a9.below a8.o lr a8.o.size⟩
theorem zw9(p v:Value):Instr.storeAt 27 p v=stAt 27 p v:=rfl
section
attribute [local go_sem ↓] zw9
theorem zjq(A:Option Addr)(n c:Nat)(k:List UInt8)(A2:Option Addr)(n2 c2:Nat)(l:List UInt8)(w:World)(h:Rd w A n (u8s k))(hn:n≤100000000)(h2:Rd w A2 n2 (u8s l))(e4:n2≤10000000):
 Calls Tryz.prog 114 #[.slice A n c,.slice A2 n2 c2] w fun e w'=>e=.returned (.agg (u8s (Mc.tag k l)).toArray)∧Below w.heap.size w w':=by
 have a6:=qh (fun W (h1:Rd W A n (u8s k)) (h2:Rd W A2 n2 (u8s l))=>zmc A n c k A2 n2 c2 l W h1 hn h2 e4);have c7:Hid (∀W:World,Rd W A n (u8s k)→Calls Tryz.prog 136 #[.slice A n c,.int .u8 92] W.drew fun e w'=>e=.returned (.slice (some ⟨W.heap.size,0,none⟩) 64 64)∧Blk w' W.heap.size 5 (u8s (Mc.mask (Mc.key64 k) 92))∧Below W.heap.size W.drew w'):=fun W h1=>ziy A n c k 92 W.drew h1.drew hn
 have a2:(Mc.mask (Mc.key64 k) 92).length=64:=by rw[Mc.mask_len,Mc.key64_len]
 have HT:Hid (Mc.tag k l=Sh.sha (Mc.mask (Mc.key64 k) 92++Sh.sha (Mc.mask (Mc.key64 k) 54++l))):=rfl;obtain⟨M,hM⟩:=ex9 (Mc.mask (Mc.key64 k) 92);obtain⟨I,hI⟩:=ex9 (Sh.sha (Mc.mask (Mc.key64 k) 54++l));have V:I.length=32:=by rw[hI];exact Sh.sha_len _
 rw[←hM]at c7 a2 HT;rw[←hI]at a6 HT;have c5:Hid ((u8s M).length=64):=by show _=_;rw[zaa,a2]
 have e5:=qh V;have c0:Hid ((Tryz.prog.info? 27).map (·.size)=some (u8s I).length):=by rw[zaa,V];exact hd24
 have b4:Hid ((u8s I).length=(u8s (List.replicate 32 0)).length):=by show _=_;rw[zaa,V];rfl
 have c8:Hid (∀v∈u8s I,v.oneCell'=true):=zac _;have b9:=qh (fun W A3 c3 (hr:Rd W A3 (64+32) (u8s (M++I)))=>zjr A3 (64+32) c3 (M++I) W hr om);rw[HT.o];have a5:Hid ((Tryz.prog.info? 27).map (·.size)=some (u8s (Sh.sha (M++I))).length):=by rw[zaa,Sh.sha_len];exact hd24
 have D:Hid ((u8s (Sh.sha (M++I))).length=(u8s (List.replicate 32 0)).length):=by show _=_;rw[zaa,Sh.sha_len];rfl
 have b7:Hid (∀v∈u8s (Sh.sha (M++I)),v.oneCell'=true):=zac _;obtain⟨U,hU⟩:=ex9 (u8s (Sh.sha (M++I)));rw[←hU]at b9 a5 D b7 ⊢;obtain⟨IU,a0⟩:=ex9 (u8s I);rw[←a0]at a6 c0 b4 c8;have b3:=qh a0;have HR:=qh h;have d7:=qh h2;clear hM hI V a2 hU a0 h h2 HT
 go_enter Tryz.func114, Tryz.ntmps114
 go_wp2_with (first
  | (go_at_call 134;(with_reducible refine(a6.o _ (by exact HR.o.alloc _) (by exact d7.o.alloc _)).mono ?_);rintro e w1 ⟨rfl,X⟩;have G:=qh (((Below.refl _ w).alloc lr _).trans (X.mono sy));have c9:=qh ((Blk.new' (w:=w) (cs:=u8s (List.replicate 32 0)) (t:=27) rfl rfl).below X sy);clear X)
  | (refine zab rfl 27 (.tmp 5) (.tmp 8) rfl w1.heap.size IU rr rr 27 (u8s (List.replicate 32 0)) (by exact Blk.new' rfl rfl) c0.o c8.o b4.o ?_;intro w2 c1 a3;have e7:=c9.o.lt;have J:=qh (a3.below (G.o.alloc G.o.size _) G.o.size (Nat.le_trans G.o.size sy));have a1:=qh (a3.blk (c9.o.alloc _) om);have a9:Hid (Blk w2 w1.heap.size 27 (u8s I)):=(by rw[←b3.o];exact c1);clear c1 a3))
 have d5:=qh (HR.o.below J.o);have e9:=a1.o.lt;have e6:=a9.o.lt
 go_region_held3 (fun _=>True) (trivial) (first
  | (go_at_call 136;(with_reducible refine(c7.o w2 d5.o).mono ?_);rintro e w3 ⟨rfl,a4,E⟩;have c6:=qh (J.o.drew.trans (E.mono J.o.size));have e3:=qh (a1.o.drew.below E a1.o.lt);have d9:Hid (Rd w3 (some ⟨w1.heap.size,0,none⟩) 32 (u8s I)):=(by have h6:=(a9.o.drew.below E a9.o.lt).rdAll;rw[e5.o]at h6;exact h6);have b1:=qh (show w3.ownsRow w2.heap.size 5 1 (.slice (some ⟨w2.heap.size,0,none⟩) 64 64) 64 (u8s M) from (by have h5:=zbg a4 lr 64 64 1 om (by rw[c5.o]) om;rw[tk (by rw[c5.o];omega)]at h5;exact h5));have d8:w2.heap.size≤w3.heap.size:=Nat.le_of_lt a4.lt;clear a4 E)
  | (go_at_call 135;(with_reducible refine(b9.o _ _ _ b5.o).mono ?_);rintro e w5 ⟨rfl,a7⟩;have e1:=qtr e2 a7;have b2:=qbl d6 a7;have d0:=zcr (P:=Tryz.prog) b2.o 27 0 U (by rw[D.o];exact Nat.le_of_eq (Nat.zero_add _)) b7.o a5.o;have d3:w5.there w.heap.size 0 U.length:=b2.o.there 0 U.length (by rw[D.o];exact Nat.le_of_eq (Nat.zero_add _));clear a7)
  | ((refine zno rfl (.tmp 10) (.tmp 11) 22 rfl w2.heap.size 5 1 1 Tryz.underlying22 eU8 (.slice (some ⟨w2.heap.size,0,none⟩) 64 64) 64 (u8s M) rr (by exact b1.o) (some ⟨w1.heap.size,0,none⟩) 32 32 (u8s I) rr (by exact d9.o.toS) (zac _) om om d8 ?_;intro A4 c4 w4 r e8 a8 b6;have b5:=qh (Rd.of_own r);rw[←zae]at b5;have e2:=qh (c6.o.grown a8 c6.o.size (fun k hk=>by have:=(b1.o.lt k hk).1;have:=J.o.size;omega));have d6:=qh (e3.o.grown a8 (fun e=>by have:=(b1.o.lt _ e.symm).1;omega));clear r a8 b6)))
 have Y:=za2 w.heap.size _ U 0 _ w5 b2.o (by rw[D.o];exact Nat.le_of_eq (Nat.zero_add _));rw[zap _ _ D.o]at Y;have e0:=qh Y;have d4:=qh (zbq w.heap.size w.heap.size w U 0 w5 e1.o lr);clear Y d0 d3
 go_wp2_with fail
 exact bodyPost_ret (zan rfl _ w.heap.size _ U rfl e0.o _ Tryz.underlying27 rfl a5.o) rfl ⟨rfl,d4.o⟩
end
end
