/- Part of the proof. -/
import Derived.Deep.DeepCutAuto
import Derived.Test.YtpgpaenloaphaaaGreatSmx21
set_option maxRecDepth 100000
set_option maxHeartbeats 0
namespace Go.Proofs.YtpgpaenloaphaaaGreat
open Go.RowKit
section
theorem cm_m{c:Cm}{i:Nat}(hi:i<c.m.length):c.cells[4+i]? = some (.int .u8 ((c.m.getD i 0).toNat:Int)):=by
 have h:c.cells=[.int .u8 c.k.toNat,.int .u8 c.f.toNat,.int .u32 (c.d:Int),.int .u64 (c.n:Int)]++u8s c.m:=rfl;rw[h,ar9 sy];simp only[List.length_cons,List.length_nil,Nat.zero_add,Nat.reduceAdd,Nat.add_sub_cancel_left];rw[u8s_getElem?,gd9,ge9 hi]
 rfl
theorem zfo(c:Cm)(hc:c.ok)(w:World):
 Calls Tryz.prog 91 #[.agg c.cells.toArray] w fun e w'=>e=.returned (.bool (!(decide (c.m=List.replicate 16 0))))∧Below w.heap.size w w':=by
 have HB0:Hid (Blk (w.alloc (.cells c.cells.toArray 47)) w.heap.size 47 c.cells∧Below w.heap.size w (w.alloc (.cells c.cells.toArray 47))):=⟨Blk.new _ _ _,(Below.refl _ w).alloc lr _⟩;have HM:Hid (∀i,i<16→c.cells[4+i]? = some (.int .u8 ((c.m.getD i 0).toNat:Int))):=fun i hi=>cm_m (by rw[hc.2.2];exact hi)
 have HY:Hid (∀i,i<16→c.m.getD i 0≠0→decide (c.m=List.replicate 16 0)=false):=fun i hi h=>decide_eq_false fun e=>h (by rw[e,gd9,List.getElem?_replicate,if_pos hi];rfl)
 have HNO:Hid ((∀i,i<16→c.m.getD i 0=0)→decide (c.m=List.replicate 16 0)=true):=fun h=>by
  apply decide_eq_true
  apply List.ext_getElem?
  intro j
  rcases Nat.lt_or_ge j 16 with hj|hj
  · have:=h j hj
    rw[gd9,ge9 (by rw[hc.2.2];exact hj)]at this;rw[ge9 (by rw[hc.2.2];exact hj),List.getElem?_replicate,if_pos hj];exact congrArg some this
  · rw[List.getElem?_eq_none (by rw[hc.2.2];exact hj),List.getElem?_replicate,if_neg om]
 obtain⟨C,hC⟩:=ex9 (c.cells);rw[←hC]at HB0 HM ⊢;generalize decide (c.m=List.replicate 16 0)=M at *;clear hC hc
 go_enter Tryz.func91, Tryz.ntmps91
 go_wp2
 go_loopg [3] 16 (fun kk q wr=>∃i:Nat,kk=16-i∧q=.int .i64 (i:Int)∧i≤16∧(∀j,j<i→c.m.getD j 0=0)∧Blk wr w.heap.size 47 C∧Below w.heap.size w wr)
 case atStart=>exact⟨0,rfl,rfl,by omega,by intro j h;omega,HB0.out.1,HB0.out.2⟩
 case round =>
  clear HB0;obtain⟨i,hgk,rfl,hi,hz,hA,hE⟩:=hrel
  rcases Nat.lt_or_ge i 16 with hlt|hge
  · have hlt2:(i:Int)<16:=om
    obtain⟨x,hx⟩:=ex9 (c.m.getD i 0);have cx:wr.cell? ⟨w.heap.size,4+i,none⟩=some (.int .u8 (x.toNat:Int)):=(hA.cell (4+i)).trans (hx ▸ HM.out i hlt);have HX:=qh hx;have HZ:=qh hz;have HA:=qh hA;have HE:=qh hE;have HGK:=qh hgk;have HLT:=qh hlt;have HI:=qh hi;clear hz hA hE hgk hx
    by_cases h0:x=0
    · subst h0
      go_wp2;go_roundg (16-(i+1))
      case measure=>have:=HGK.out;have:=HLT.out;omega
      case rel=>exact⟨i+1,rfl,by go_num,by have:=HLT.out;omega,by
       intro j h1
       rcases Nat.lt_or_ge j i with h3|h3
       · exact HZ.out j h3
       · obtain rfl:j=i:=om
         exact HX.out.symm,HA.out,HE.out⟩
    · have hn:¬(x.toNat:Int)=0:=fun h=>h0 (UInt8.toNat_inj.1 (by show _=0;omega))
      have HP:Hid (M=false):=HY.out i hlt (by rw[←HX.out];exact h0);clear h0;go_wp2;go_ret;exact⟨by rw[HP.out];rfl,HE.out⟩
  · obtain rfl:i=16:=om
    have hlt2:¬((16:Nat):Int)<16:=om;have HP:Hid (M=true):=HNO.out hz;have HE:=qh hE;clear hz hA hE hgk;go_wp2;go_ret;exact⟨by rw[HP.out];rfl,HE.out⟩
attribute [local go_sem ↓] zcg
theorem zol(c:Cm)(hc:c.ok)(w:World):
 Calls Tryz.prog 78 #[.agg c.cells.toArray] w fun e w'=>e=.returned (.int .i64 (c.check:Int))∧Below w.heap.size w w':=by
 have HMK:=qh (fun W=>zfo c hc W);have hl:=Cm.cells_len hc;have hb:Blk (w.alloc (.cells c.cells.toArray 47)) w.heap.size 47 c.cells:=Blk.new w _ _;have hld:(ldAt 47 (.pointer (some ⟨w.heap.size,0,none⟩))).run Tryz.prog (w.alloc (.cells c.cells.toArray 47))=.ok (.agg c.cells.toArray) (w.alloc (.cells c.cells.toArray 47)):=cm_ld hb hl;have c0:(w.alloc (.cells c.cells.toArray 47)).cell? ⟨w.heap.size,0,none⟩=some (.int .u8 c.k.toNat):=by rw[hb.cell];rfl
 have HD1:∀W,Below (w.alloc (.cells c.cells.toArray 47)).heap.size (w.alloc (.cells c.cells.toArray 47)) W→W.cell? ⟨w.heap.size,2,none⟩=some (.int .u32 (c.d:Int)):=fun W hB=>by
  rw[(hb.below hB hb.lt).cell];rfl
 have c2:(w.alloc (.cells c.cells.toArray 47)).cell? ⟨w.heap.size,2,none⟩=some (.int .u32 (c.d:Int)):=by rw[hb.cell];rfl
 have c3:(w.alloc (.cells c.cells.toArray 47)).cell? ⟨w.heap.size,3,none⟩=some (.int .u64 (c.n:Int)):=by rw[hb.cell];rfl
 have HE:=qh ((Below.refl w.heap.size w).alloc lr (.cells c.cells.toArray 47));have HSZ:Hid ((w.alloc (.cells c.cells.toArray 47)).heap.size=w.heap.size+1):=by show _=_;simp
 have HD:=qh HD1;have HCK:∀K S,c.k.toNat=K→c.shaped=S→c.check=if K<1∨4<K then 1 else if S=false then 3 else if 1000000<c.d then 11 else 0:=fun K S h1 h2=>by rw[Cm.check,h1,h2]
 have HSS:∀K,c.k.toNat=K→c.shaped=if (decide (K=1) != decide (c.n≠0))=true then false else (decide (K=4)|| decide (c.m=List.replicate 16 0)):=fun K h=>by
  subst h;have e1:(c.k=1)=(c.k.toNat=1):=propext ⟨fun h=>by rw[h];rfl,fun h=>UInt8.toNat_inj.1 (by rw[h];rfl)⟩;have e4:(c.k=4)=(c.k.toNat=4):=propext ⟨fun h=>by rw[h];rfl,fun h=>UInt8.toNat_inj.1 (by rw[h];rfl)⟩;simp only[Cm.shaped,e1,e4]
 obtain⟨K,hK⟩:=ex9 (c.k.toNat);have HCK:=HCK K _ hK.symm rfl;rw[HSS K hK.symm]at HCK;rw[←hK]at c0;obtain⟨R,hR⟩:=ex9 (c.check);rw[←hR]at HCK ⊢;generalize c.n=n at *;generalize c.d=D at *;generalize decide (c.m=List.replicate 16 0)=M at *;generalize c.cells=C at *;clear hR HSS hK hl hb HD1 hc
 by_cases h1:K<1
 · obtain rfl:K=0:=om
   have HF:Hid (R=1):=(by show _=_;rw[HCK];first|rfl|(simp;done)| (simp;omega)| (simp[*]));clear HCK
   go_enter Tryz.func78, Tryz.ntmps78
   go_wp2_with fail
   go_ret;exact⟨by rw[HF.out];rfl,HE.out⟩
 by_cases h4:4<K
 · have i1:¬(K:Int)<1:=om
   have i4:(4:Int)<(K:Int):=om;rw[if_pos (.inr h4)]at HCK;have HF:Hid (R=1):=HCK;clear HCK
   go_enter Tryz.func78, Tryz.ntmps78
   go_wp2_with fail
   go_ret;exact⟨by rw[HF.out];rfl,HE.out⟩
 have hk:K=1∨K=2∨K=3∨K=4:=om;clear h1 h4
 rcases hk with rfl|rfl|rfl|rfl
 · have c0:(w.alloc (.cells C.toArray 47)).cell? ⟨w.heap.size,0,none⟩=some (.int .u8 1):=c0
   by_cases hn:n=0
   · subst hn
     have c3:(w.alloc (.cells C.toArray 47)).cell? ⟨w.heap.size,3,none⟩=some (.int .u64 0):=c3;have HF:Hid (R=3):=(by show _=_;rw[HCK];first|rfl|(simp;done)| (simp;omega)| (simp[*]));clear HCK
     go_enter Tryz.func78, Tryz.ntmps78
     go_wp2_with fail
     go_ret;exact⟨by rw[HF.out];rfl,HE.out⟩
   · have hni:¬(n:Int)=0:=om
     have hnb:((n:Int) == 0)=false:=by simpa using hn
     have hnb2:((n:Int) != 0)=true:=by simpa using hn
     cases M with
     | false =>
      have HF:Hid (R=3):=(by show _=_;rw[HCK];first|rfl|(simp;done)| (simp;omega)| (simp[*]));clear HCK
      go_enter Tryz.func78, Tryz.ntmps78
      go_wp2_with (go_at_call 91;(with_reducible refine(HMK.out _).mono ?_);rintro e w1 ⟨rfl,hB⟩;have c2':=HD.out w1 hB;have HE1:=qtr HE hB;clear hB c2)
      go_ret;exact⟨by rw[HF.out];rfl,HE1.out⟩
     | true =>
      by_cases hd:1000000<D
      · have hdi:(1000000:Int)<(D:Int):=om
        have HF:Hid (R=11):=(by show _=_;rw[HCK];first|rfl|(simp;done)| (simp;omega)| (simp[*]));clear HCK
        go_enter Tryz.func78, Tryz.ntmps78
        go_wp2_with (go_at_call 91;(with_reducible refine(HMK.out _).mono ?_);rintro e w1 ⟨rfl,hB⟩;have c2':=HD.out w1 hB;have HE1:=qtr HE hB;clear hB c2)
        go_ret;exact⟨by rw[HF.out];rfl,HE1.out⟩
      · have hdi:¬(1000000:Int)<(D:Int):=om
        have HF:Hid (R=0):=(by show _=_;rw[HCK];first|rfl|(simp;done)| (simp;omega)| (simp[*]));clear HCK
        go_enter Tryz.func78, Tryz.ntmps78
        go_wp2_with (go_at_call 91;(with_reducible refine(HMK.out _).mono ?_);rintro e w1 ⟨rfl,hB⟩;have c2':=HD.out w1 hB;have HE1:=qtr HE hB;clear hB c2)
        go_ret;exact⟨by rw[HF.out];rfl,HE1.out⟩
 · have c0:(w.alloc (.cells C.toArray 47)).cell? ⟨w.heap.size,0,none⟩=some (.int .u8 2):=c0
   by_cases hn:n=0
   · subst hn
     have c3:(w.alloc (.cells C.toArray 47)).cell? ⟨w.heap.size,3,none⟩=some (.int .u64 0):=c3
     cases M with
     | false =>
      have HF:Hid (R=3):=(by show _=_;rw[HCK];first|rfl|(simp;done)| (simp;omega)| (simp[*]));clear HCK
      go_enter Tryz.func78, Tryz.ntmps78
      go_wp2_with (go_at_call 91;(with_reducible refine(HMK.out _).mono ?_);rintro e w1 ⟨rfl,hB⟩;have c2':=HD.out w1 hB;have HE1:=qtr HE hB;clear hB c2)
      go_ret;exact⟨by rw[HF.out];rfl,HE1.out⟩
     | true =>
      by_cases hd:1000000<D
      · have hdi:(1000000:Int)<(D:Int):=om
        have HF:Hid (R=11):=(by show _=_;rw[HCK];first|rfl|(simp;done)| (simp;omega)| (simp[*]));clear HCK
        go_enter Tryz.func78, Tryz.ntmps78
        go_wp2_with (go_at_call 91;(with_reducible refine(HMK.out _).mono ?_);rintro e w1 ⟨rfl,hB⟩;have c2':=HD.out w1 hB;have HE1:=qtr HE hB;clear hB c2)
        go_ret;exact⟨by rw[HF.out];rfl,HE1.out⟩
      · have hdi:¬(1000000:Int)<(D:Int):=om
        have HF:Hid (R=0):=(by show _=_;rw[HCK];first|rfl|(simp;done)| (simp;omega)| (simp[*]));clear HCK
        go_enter Tryz.func78, Tryz.ntmps78
        go_wp2_with (go_at_call 91;(with_reducible refine(HMK.out _).mono ?_);rintro e w1 ⟨rfl,hB⟩;have c2':=HD.out w1 hB;have HE1:=qtr HE hB;clear hB c2)
        go_ret;exact⟨by rw[HF.out];rfl,HE1.out⟩
   · have hni:¬(n:Int)=0:=om
     have hnb:((n:Int) == 0)=false:=by simpa using hn
     have hnb2:((n:Int) != 0)=true:=by simpa using hn
     have HNN:n≠0:=hn;have HF:Hid (R=3):=(by show _=_;rw[HCK];first|rfl|(simp;done)| (simp;omega)| (simp[*]));clear HCK
     go_enter Tryz.func78, Tryz.ntmps78
     go_wp2_with fail
     go_ret;exact⟨by rw[HF.out];rfl,HE.out⟩
 · have c0:(w.alloc (.cells C.toArray 47)).cell? ⟨w.heap.size,0,none⟩=some (.int .u8 3):=c0
   by_cases hn:n=0
   · subst hn
     have c3:(w.alloc (.cells C.toArray 47)).cell? ⟨w.heap.size,3,none⟩=some (.int .u64 0):=c3
     cases M with
     | false =>
      have HF:Hid (R=3):=(by show _=_;rw[HCK];first|rfl|(simp;done)| (simp;omega)| (simp[*]));clear HCK
      go_enter Tryz.func78, Tryz.ntmps78
      go_wp2_with (go_at_call 91;(with_reducible refine(HMK.out _).mono ?_);rintro e w1 ⟨rfl,hB⟩;have c2':=HD.out w1 hB;have HE1:=qtr HE hB;clear hB c2)
      go_ret;exact⟨by rw[HF.out];rfl,HE1.out⟩
     | true =>
      by_cases hd:1000000<D
      · have hdi:(1000000:Int)<(D:Int):=om
        have HF:Hid (R=11):=(by show _=_;rw[HCK];first|rfl|(simp;done)| (simp;omega)| (simp[*]));clear HCK
        go_enter Tryz.func78, Tryz.ntmps78
        go_wp2_with (go_at_call 91;(with_reducible refine(HMK.out _).mono ?_);rintro e w1 ⟨rfl,hB⟩;have c2':=HD.out w1 hB;have HE1:=qtr HE hB;clear hB c2)
        go_ret;exact⟨by rw[HF.out];rfl,HE1.out⟩
      · have hdi:¬(1000000:Int)<(D:Int):=om
        have HF:Hid (R=0):=(by show _=_;rw[HCK];first|rfl|(simp;done)| (simp;omega)| (simp[*]));clear HCK
        go_enter Tryz.func78, Tryz.ntmps78
        go_wp2_with (go_at_call 91;(with_reducible refine(HMK.out _).mono ?_);rintro e w1 ⟨rfl,hB⟩;have c2':=HD.out w1 hB;have HE1:=qtr HE hB;clear hB c2)
        go_ret;exact⟨by rw[HF.out];rfl,HE1.out⟩
   · have hni:¬(n:Int)=0:=om
     have hnb:((n:Int) == 0)=false:=by simpa using hn
     have hnb2:((n:Int) != 0)=true:=by simpa using hn
     have HNN:n≠0:=hn;have HF:Hid (R=3):=(by show _=_;rw[HCK];first|rfl|(simp;done)| (simp;omega)| (simp[*]));clear HCK
     go_enter Tryz.func78, Tryz.ntmps78
     go_wp2_with fail
     go_ret;exact⟨by rw[HF.out];rfl,HE.out⟩
 · have c0:(w.alloc (.cells C.toArray 47)).cell? ⟨w.heap.size,0,none⟩=some (.int .u8 4):=c0
   by_cases hn:n=0
   · subst hn
     have c3:(w.alloc (.cells C.toArray 47)).cell? ⟨w.heap.size,3,none⟩=some (.int .u64 0):=c3
     by_cases hd:1000000<D
     · have hdi:(1000000:Int)<(D:Int):=om
       have HF:Hid (R=11):=(by show _=_;rw[HCK];first|rfl|(simp;done)| (simp;omega)| (simp[*]));clear HCK
       go_enter Tryz.func78, Tryz.ntmps78
       go_wp2_with fail
       go_ret;exact⟨by rw[HF.out];rfl,HE.out⟩
     · have hdi:¬(1000000:Int)<(D:Int):=om
       have HF:Hid (R=0):=(by show _=_;rw[HCK];first|rfl|(simp;done)| (simp;omega)| (simp[*]));clear HCK
       go_enter Tryz.func78, Tryz.ntmps78
       go_wp2_with fail
       go_ret;exact⟨by rw[HF.out];rfl,HE.out⟩
   · have hni:¬(n:Int)=0:=om
     have hnb:((n:Int) == 0)=false:=by simpa using hn
     have hnb2:((n:Int) != 0)=true:=by simpa using hn
     have HNN:n≠0:=hn;have HF:Hid (R=3):=(by show _=_;rw[HCK];first|rfl|(simp;done)| (simp;omega)| (simp[*]));clear HCK
     go_enter Tryz.func78, Tryz.ntmps78
     go_wp2_with fail
     go_ret;exact⟨by rw[HF.out];rfl,HE.out⟩
end
end Go.Proofs.YtpgpaenloaphaaaGreat
