/- Part of the proof. -/
import Derived.Test.YtpgpaenloaphaaaGreatSmx46
import Derived.Test.YtpgpaenloaphaaaGreatSmx49
set_option maxRecDepth 100000
set_option maxHeartbeats 0
namespace Go.Proofs.YtpgpaenloaphaaaGreat
open Go.RowKit
section
attribute [local go_sem ↓] zcg
theorem zqd(last:Cm)(hc:last.ok)(A:Option Addr)(n c:Nat)(hs:List Ho)(w:World)(h:RdS 68 w A n (hs.flatMap Ho.cells))(hok:∀s∈hs,s.ok)(hl:hs.length=n)(hn:n≤140737488355328)(hne:¬(¬(last.k.toNat<2∨4<last.k.toNat)∧(∀(i:Nat) (o:Ho),hs[i]? = some o→o.bad=false)∧¬(hs.length<1∨5<hs.length)∧last.shaped=true)):
 Calls Tryz.prog 56 #[.agg last.cells.toArray,.slice A n c] w fun e w'=>e=.returned (.tuple #[.slice none 0 0,.int .i64 (pathE last hs:Int)])∧Below w.heap.size w w':=by
 by_cases hk:last.k.toNat<2∨4<last.k.toNat
 · rw[zq6 hk]
   obtain⟨C,hC⟩:=ex9 (last.cells);have c0:(w.alloc (.cells C.toArray 47)).cell? ⟨w.heap.size,0,none⟩=some (.int .u8 last.k.toNat):=by rw[(Blk.new w _ _).cell,hC];rfl
   rw[←hC];clear hC;generalize last.k.toNat=K at *;have HE:Hid (Below w.heap.size w (w.alloc (.cells C.toArray 47))):=(Below.refl _ w).alloc lr _
   by_cases h2:K<2
   · have h2':(K:Int)<2:=om
     clear hk
     go_enter Tryz.func56, Tryz.ntmps56
     go_wp2;go_ret2;exact⟨rfl,HE.out⟩
   · have h2':¬(K:Int)<2:=om
     have h4':(K:Int)>4:=om;clear hk
     go_enter Tryz.func56, Tryz.ntmps56
     go_wp2;go_ret2;exact⟨rfl,HE.out⟩
 have HP2:=qh (fun(i:Nat) (o:Ho) (hi:hs[i]? = some o) (hb:o.bad=true)=>zq5 hk hi hb);have HP3:=qh (fun h2 h3=>zq4 (hs:=hs) hk h2 h3);have HP4:=qh (fun h2 h3 h4=>zq3 (hs:=hs) hk h2 h3 h4);have HP5:=qh (fun h2 h3 h4 (i:Nat) (o:Ho) h5 (hi:hs[i]? = some o) ho=>zlu hk h2 h3 h4 h5 hi ho);have HP6:=qh (fun h2 h3 h4 h5=>zlt (hs:=hs) hk h2 h3 h4 h5);have HSH:Hid (∀W,Calls Tryz.prog 91 #[.agg last.cells.toArray] W fun e w'=>e=.returned (.bool (!(decide (last.m=List.replicate 16 0))))∧Below W.heap.size W w'):=fun W=>zfo last hc W
 have hsw:last.shaped=false→last.n≠0∨(last.n=0∧last.k.toNat≠4∧(!(decide (last.m=List.replicate 16 0)))=true):=fun h=>by
  have hk1:last.k≠1:=fun e=>by rw[e]at hk;exact hk (Or.inl (by decide))
  unfold Cm.shaped at h
  by_cases hn0:last.n=0
  · refine .inr ⟨hn0,?_,?_⟩
    · intro e4
      have:last.k=4:=UInt8.toNat_inj.1 e4
      simp[hn0,this]at h
    · simp[hn0,hk1]at h
      simp[h.2]
  · exact .inl hn0
 have HCL:=qh (Cm.cells_len hc);obtain⟨C,hC⟩:=ex9 (last.cells);have HB0:Hid (Blk (w.alloc (.cells C.toArray 47)) w.heap.size 47 C):=Blk.new w _ _;have c0:(w.alloc (.cells C.toArray 47)).cell? ⟨w.heap.size,0,none⟩=some (.int .u8 last.k.toNat):=by rw[HB0.out.cell,hC];rfl
 have hC':=hC;rw[←hC]at HSH HCL ⊢;clear hC;have c3:(w.alloc (.cells C.toArray 47)).cell? ⟨w.heap.size,3,none⟩=some (.int .u64 (last.n:Int)):=by rw[HB0.out.cell,hC'];rfl
 have HNE:=qh hne;have HKK:=qh hk;have HSW:=qh hsw;clear hne hsw;have k2:¬(last.k.toNat:Int)<2:=om;have k4:¬(last.k.toNat:Int)>4:=om;clear hC';generalize last.k.toNat=K at *;generalize last.n=N3 at *;generalize (!(decide (last.m=List.replicate 16 0)))=MK at *;generalize pathE last hs=E at *;generalize last.shaped=SH at *;have HE:Hid (Below w.heap.size w (w.alloc (.cells C.toArray 47))):=(Below.refl _ w).alloc lr _;have HR:=qh (h.bel HE.out lr);have HK:=qh hok;have HL:=qh hl;clear h hok hl hk hc
 go_enter Tryz.func56, Tryz.ntmps56
 go_wp2
 go_loop [6] (fun q=>∃k:Nat,k≤n∧q=.int .i64 k∧Hid (∀(i:Nat) (o:Ho),i<k→hs[i]? = some o→o.bad=false)) (fun q=>n-(intOf q).toNat)
 case atStart=>exact⟨0,Nat.zero_le _,rfl,fun i o hi=>absurd hi om⟩
 case round =>
  obtain⟨k,hkn,rfl,HI⟩:=hrel
  by_cases hlt:k<n
  · have hlt2:(k:Int)<(n:Int):=om
    obtain⟨o,ho⟩:∃o,hs[k]? = some o:=⟨_,ge9 (by rw[HL.out];omega)⟩;have hoo:=HK.out o (mg9 ho);obtain⟨b,off,rfl,hb2,hrg⟩:=zbk HR.out HK.out ho om;have d66:=hrg 66 _ (Ho.at_dl hoo);have d67:=hrg 67 _ (Ho.at_fl hoo)
    by_cases hbad:o.bad=true
    · have he:=HP2.out k o ho hbad
      have hw:=Ho.bad_ways hbad;subst he;generalize o.dl=D at *;generalize o.fl=F at *;have HRR:Hid (hs[k]? = some o):=ho;clear ho hoo hrg hbad HP2 HP3 HP4 HP5 HP6
      rcases hw with g1|⟨g1,g2⟩|⟨g1,g2,g3⟩|⟨g1,g2,g3,g4⟩ <;>
        (go_wp2;go_ret2;exact⟨rfl,HE.out⟩)
    · have hbad':o.bad=false:=by simpa using hbad
      obtain⟨g1,g2,g3,g4⟩:=Ho.bad_no hbad'
      have HI2:Hid (∀(i:Nat) (o:Ho),i<k+1→hs[i]? = some o→o.bad=false):=fun i o' hi hio=>by
       rcases Nat.lt_or_ge i k with h|h
       · exact HI.out i o' h hio
       · obtain rfl:i=k:=om
         rw[ho]at hio
         injection hio with hio
         subst hio;exact hbad'
      generalize o.dl=D at *;generalize o.fl=F at *;have i1:¬D<0:=om;have i2:¬D>1000000:=om;have i3:¬F<0:=om;have i4:¬F>255:=om;clear ho hoo hrg hbad hbad' g1 g2 g3 g4;go_wp2
      go_round
      case rel=>exact⟨k+1,by omega,by go_num,HI2⟩
      case measure=>simp[intOf];omega
  · have:k=n:=om
    subst this;have hlt2:¬(k:Int)<(k:Int):=om;have HI2:Hid (∀(i:Nat) (o:Ho),hs[i]? = some o→o.bad=false):=fun i o hi=>HI.out i o (by have:=(gi9.1 hi).1;rw[HL.out]at this;exact this) hi
    clear HI
    by_cases h5:k<1∨5<k
    · have he:=HP3.out HI2.out (by rw[HL.out];exact h5)
      subst he;clear HP2 HP3 HP4 HP5 HP6
      rcases Nat.lt_or_ge k 1 with h6|h6
      · have h7:(k:Int)<1:=om
        go_wp2;go_ret2;exact⟨rfl,HE.out⟩
      · have h7:¬(k:Int)<1:=om
        have h8:(k:Int)>5:=om;go_wp2;go_ret2;exact⟨rfl,HE.out⟩
    · have h7:¬(k:Int)<1:=om
      have h8:¬(k:Int)>5:=om;have HN5:Hid (¬(hs.length<1∨5<hs.length)):=by show ¬_;rw[HL.out];exact h5
      have hld:(ldAt 47 (.pointer (some ⟨w.heap.size,0,none⟩))).run Tryz.prog (w.alloc (.cells C.toArray 47))=.ok (.agg C.toArray) (w.alloc (.cells C.toArray 47)):=cm_ld HB0.out HCL.out;clear h5
      have hsh:SH=false:=by
       cases hq:SH with
       | false=>rfl
       | true=>exact absurd ⟨HKK.out,HI2.out,HN5.out,hq⟩ HNE.out
      have he:=HP4.out HI2.out HN5.out hsh;subst he;have hway:=HSW.out hsh;clear HP2 HP3 HP4 HP5 HP6 hsh
      rcases hway with g1|⟨g1,g2,g3⟩
      · have i1:¬(N3:Int)=0:=om
        go_wp2;go_ret2;exact⟨rfl,HE.out⟩
      · have i1:(N3:Int)=0:=om
        have i2:¬(K:Int)=4:=om;subst g3
        go_wp2_with (go_at_call 91;(refine(HSH.out _).mono ?_);rintro e w2 ⟨rfl,hB2⟩;have HE2:=qtr HE hB2;clear hB2)
        go_ret2;exact⟨rfl,HE2.out⟩
end
section
attribute [local go_sem ↓] zcg zfj zlc zl2
theorem iCmz:ElemIs Tryz.prog 47 20 32:=ElemIs.of iCm (by show Cm.zero.cells.toArray.size=20;rw[List.size_toArray,Cm.cells_len Cm.zero_ok]) om
def cm3(F D:Int):List Value:=[.int .u8 1,.int .u8 F,.int .u32 D,.int .u64 0]++u8s (List.replicate 16 0)
theorem zxr(F D:Int):∀v∈cm3 F D,v.oneCell'=true:=by
 intro v hv;simp only[cm3,List.cons_append,List.nil_append,List.mem_cons]at hv
 rcases hv with rfl|rfl|rfl|rfl|hv
 · rfl
 · rfl
 · rfl
 · rfl
 · exact zac _ v hv
theorem zxx(F D:Int)(w:World):(Instr.build 47 [(0,(.int .u8 1:Value)),(1,.int .u8 F),(2,.int .u32 D)].toArray).run Tryz.prog w=.ok (.agg (cm3 F D).toArray) w:=by kernel_rfl
theorem zsc{o:Oper}{a:Act}{w:World}{t1 t2:TypeId}{x:Operand}{v u:Value}(ho:o.op=.convert t1 t2 x)(hx:a.eval x=v)(hr:(convert t1 t2 v).run Tryz.prog w=.ok u w):(execOp a.eval o).run Tryz.prog w=.ok (.value u) w:=by
 unfold execOp
 simp[ho,hx,hr]
theorem zxq(F:Int)(h:IntKind.u8.wrap F=F)(w:World):(convert 3 5 (.int .i64 F)).run Tryz.prog w=.ok (.int .u8 F) w:=by
 have:(convert 3 5 (.int .i64 F)).run Tryz.prog w=.ok (.int .u8 (IntKind.u8.wrap F)) w:=by kernel_rfl
 rw[this,h]
theorem zur(F:Int)(h:IntKind.u32.wrap F=F)(w:World):(convert 3 44 (.int .i64 F)).run Tryz.prog w=.ok (.int .u32 F) w:=by
 have:(convert 3 44 (.int .i64 F)).run Tryz.prog w=.ok (.int .u32 (IntKind.u32.wrap F)) w:=by kernel_rfl
 rw[this,h]
end
section
attribute [local go_sem ↓] zcg zfj zlc zl2
theorem z1cmp:(Tryz.prog.info? 47).map (fun i=>((i.zero.map (fun z=>z.cells.size)),i.size))=some (some 20,20):=by kernel_rfl
theorem szHo(w:World):(sizeOf 121).run Tryz.prog w=.ok 68 w:=by kernel_rfl
theorem agI64r(w:World):(isAgg 3).run Tryz.prog w=.ok false w:=by kernel_rfl
theorem zwv{last:Cm}{hs:List Ho}{k:Nat}{o o2:Ho}(ho:hs[k]? = some o)(ho2:hs[k+1]? = some o2)(hb:o.bad=false):(cm3 o.fl o.dl).set 3 (.int .u64 (o2.id:Int))=(pathC last hs k).cells:=by
 obtain⟨g1,g2,g3,g4⟩:=Ho.bad_no hb;have hl:k+1<hs.length:=(gi9.1 ho2).1;have e:pathC last hs k=⟨1,UInt8.ofNat o.fl.toNat,o.dl.toNat,o2.id,List.replicate 16 0⟩:=by unfold pathC;rw[ho,ho2];simp only[if_pos hl];rfl
 rw[e];simp only[Cm.cells,cm3,List.cons_append,List.nil_append,List.set_cons_succ,List.set_cons_zero];have q1:o.dl=(o.dl.toNat:Int):=om;have q2:o.fl=((UInt8.ofNat o.fl.toNat).toNat:Int):=by simp;omega
 rw[←q1,←q2]
 rfl
theorem zwu{last:Cm}{hs:List Ho}{k:Nat}{o:Ho}(ho:hs[k]? = some o)(hl:¬k+1<hs.length)(hb:o.bad=false)(hm:last.m.length=16):splice ((cm3 o.fl o.dl).set 0 (.int .u8 last.k.toNat)) 4 (u8s last.m)=(pathC last hs k).cells:=by
 obtain⟨g1,g2,g3,g4⟩:=Ho.bad_no hb;have e:pathC last hs k=⟨last.k,UInt8.ofNat o.fl.toNat,o.dl.toNat,0,last.m⟩:=by unfold pathC;rw[ho];simp only[if_neg hl]
 rw[e]
 unfold splice
 rw[zaa,hm];simp only[Cm.cells,cm3,List.cons_append,List.nil_append,List.set_cons_zero];have q1:o.dl=(o.dl.toNat:Int):=om;have q2:o.fl=((UInt8.ofNat o.fl.toNat).toNat:Int):=by simp;omega
 rw[←q1,←q2]
 simp[u8s]
theorem zik{last:Cm}{hs:List Ho}(k:Nat):((List.range k).map (pathC last hs)).flatMap Cm.cells++(pathC last hs k).cells=((List.range (k+1)).map (pathC last hs)).flatMap Cm.cells:=by
 rw[List.range_succ,List.map_append,List.flatMap_append]
 simp
theorem zqc(last:Cm)(hc:last.ok)(A:Option Addr)(n c:Nat)(hs:List Ho)(w:World)(h:RdS 68 w A n (hs.flatMap Ho.cells))(hok:∀s∈hs,s.ok)(hl:hs.length=n)(hk:¬(last.k.toNat<2∨4<last.k.toNat))(hbad:∀s∈hs,s.bad=false)(h1:1≤n)(h5:n≤5)(hsh:last.shaped=true):
 Calls Tryz.prog 56 #[.agg last.cells.toArray,.slice A n c] w fun e w'=>∃A' n' c',e=.returned (.tuple #[.slice A' n' c',.int .i64 (pathE last hs:Int)])∧n'≤c'∧(pathE last hs=0→n'=n∧RdS 20 w' A' n ((pathL last hs).flatMap Cm.cells))∧Below w.heap.size w w':=by
 have hway:last.n=0∧(last.k.toNat=4∨(¬last.k.toNat=4∧(!(decide (last.m=List.replicate 16 0)))=false)):=by
  have hk1:last.k≠1:=fun e=>by rw[e]at hk;exact hk (Or.inl (by decide))
  unfold Cm.shaped at hsh
  by_cases hn0:last.n=0
  · refine⟨hn0,?_⟩
    by_cases e4:last.k.toNat=4
    · exact .inl e4
    · refine .inr ⟨e4,?_⟩
      have h4:last.k≠4:=fun e=>e4 (by rw[e];rfl)
      simp[hn0,hk1,h4]at hsh
      simp[hsh]
  · simp[hn0,hk1]at hsh
 have HMK:Hid (∀W,Calls Tryz.prog 91 #[.agg last.cells.toArray] W fun e w'=>e=.returned (.bool (!(decide (last.m=List.replicate 16 0))))∧Below W.heap.size W w'):=fun W=>zfo last hc W
 have HCL:=qh (Cm.cells_len hc);obtain⟨C,hC⟩:=ex9 (last.cells);have HCC:=qh hC;have HB0:Hid (Blk (w.alloc (.cells C.toArray 47)) w.heap.size 47 C):=Blk.new w _ _;have c0:(w.alloc (.cells C.toArray 47)).cell? ⟨w.heap.size,0,none⟩=some (.int .u8 last.k.toNat):=by rw[HB0.out.cell,hC];rfl
 have c3:(w.alloc (.cells C.toArray 47)).cell? ⟨w.heap.size,3,none⟩=some (.int .u64 (last.n:Int)):=by rw[HB0.out.cell,hC];rfl
 rw[←hC]at HMK HCL ⊢;obtain⟨hn0,hway⟩:=hway;rw[hn0]at c3;have k2:¬(last.k.toNat:Int)<2:=om;have k4:¬(last.k.toNat:Int)>4:=om;have HE:Hid (Below w.heap.size w (w.alloc (.cells C.toArray 47))):=(Below.refl _ w).alloc lr _;have HR:=qh (h.bel HE.out lr);have HR0:=qh h;have HK:=qh hok;have HL:=qh hl;have HBD:=qh hbad;have HWY:=qh hway;have n1:¬(n:Int)<1:=om;have n5:¬(n:Int)>5:=om;have HCO:=qh hc;have HKK:=qh hk;have HSH:=qh hsh;clear h hok hl hk hc hC hn0 hway hbad hsh
 go_enter Tryz.func56, Tryz.ntmps56
 go_wp2
 go_loop [6] (fun q=>∃k:Nat,k≤n∧q=.int .i64 k) (fun q=>n-(intOf q).toNat)
 case atStart=>exact⟨0,Nat.zero_le _,rfl⟩
 case round =>
  obtain⟨k,hkn,rfl⟩:=hrel
  by_cases hlt:k<n
  · have hlt2:(k:Int)<(n:Int):=om
    obtain⟨o,ho⟩:∃o,hs[k]? = some o:=⟨_,ge9 (by rw[HL.out];omega)⟩;have hoo:=HK.out o (mg9 ho);obtain⟨b,off,rfl,hb2,hrg⟩:=zbk HR.out HK.out ho om;have d66:=hrg 66 _ (Ho.at_dl hoo);have d67:=hrg 67 _ (Ho.at_fl hoo);obtain⟨g1,g2,g3,g4⟩:=Ho.bad_no (HBD.out o (mg9 ho));generalize o.dl=D at *;generalize o.fl=F at *;have i1:¬D<0:=om;have i2:¬D>1000000:=om;have i3:¬F<0:=om;have i4:¬F>255:=om;clear ho hoo hrg g1 g2 g3 g4;go_wp2
    go_round
    case rel=>exact⟨k+1,by omega,by go_num⟩
    case measure=>simp[intOf];omega
  · obtain rfl:k=n:=om
    have hlt2:¬(k:Int)<(k:Int):=om;have n10:((k:Int) == 0)=false:=by rw[beq_eq_false_iff_ne];omega
    have hld:(ldAt 47 (.pointer (some ⟨w.heap.size,0,none⟩))).run Tryz.prog (w.alloc (.cells C.toArray 47))=.ok (.agg C.toArray) (w.alloc (.cells C.toArray 47)):=cm_ld HB0.out HCL.out;have HCX:Hid (Blk (w.alloc (.cells C.toArray 47)) w.heap.size 47 C∧Below w.heap.size w (w.alloc (.cells C.toArray 47))):=⟨HB0.out,HE.out⟩;have HOW0:Hid (∀W:World,W.ownsRow (w.heap.size+1) 47 20 (.slice none 0 0) 0 (((List.range 0).map (pathC last hs)).flatMap Cm.cells)):=fun W=>World.ownsRow_nil _ _ _ _
    have HN1:=qh n1;have HN5:=qh n5;have HPE5:Hid (∀(i:Nat) (o:Ho),0<i→hs[i]? = some o→o.id=0→pathE last hs=3):=fun i o h0 hi ho=>zlu HKK.out (fun i o hi=>HBD.out o (mg9 hi)) (by rw[HL.out];omega) HSH.out h0 hi ho
    have HPE6:Hid ((∀(i:Nat) (o:Ho),0<i→hs[i]? = some o→o.id≠0)→pathE last hs=0):=fun h=>zlt HKK.out (fun i o hi=>HBD.out o (mg9 hi)) (by rw[HL.out];omega) HSH.out h
    have HPO:=qh (fun i=>ze8 HCO.out HK.out HBD.out i);have HML:=qh HCO.out.2.2
    go_upto_region 10 with fail
    go_cut [73] (fun v wx=>v=.bool false∧Hid (Blk wx w.heap.size 47 C)∧Hid (Below w.heap.size w wx))
    case first =>
     rcases HWY.out with e4|⟨e4,em⟩
     · have i5:(last.k.toNat:Int)=4:=om
       go_wp2
       go_meet
       exact⟨rfl,HB0,HE⟩
     · have i5:¬(last.k.toNat:Int)=4:=om
       rw[em]at HMK;clear HWY em
       go_wp2_with (go_at_call 91;(refine(HMK.out _).mono ?_);rintro e w2 ⟨rfl,hB2⟩;have HB2:=qbl HB0 hB2;have HE2:=qtr HE hB2;clear hB2)
       go_meet
       exact⟨rfl,HB2,HE2⟩
    case rest =>
     obtain⟨rfl,HB2,HE2⟩:=hcut;clear HB0 HWY HMK HCX HR c0 c3 hld;go_wp2
     go_loopg [7,8] k (fun kk v q wr=>∃j:Nat,j≤k∧kk=k-j∧q=.int .i64 j∧(∃A' c',v=.slice A' j c'∧j≤c'∧Hid (wr.ownsRow (w.heap.size+1) 47 20 (.slice A' j c') j (((List.range j).map (pathC last hs)).flatMap Cm.cells)))∧Hid (Blk wr w.heap.size 47 C)∧Hid (Below w.heap.size w wr)∧Hid (∀(i:Nat) (o:Ho),0<i→i≤j→hs[i]? = some o→o.id≠0))
     case atStart=>exact⟨0,Nat.zero_le _,rfl,rfl,⟨none,0,rfl,lr,HOW0.out _⟩,HB2,HE2,fun i o h1 h2=>by omega⟩
     case round =>
      clear HB2 HE2 HOW0;obtain⟨j,hj,hgk,rfl,⟨A',c',rfl,hc',HOW⟩,HB,HE,HI⟩:=hrel;have HGK:=qh hgk;clear hgk
      by_cases hlj:j<k
      · have hlt3:(j:Int)<(k:Int):=om
        obtain⟨o,ho⟩:∃o,hs[j]? = some o:=⟨_,ge9 (by rw[HL.out];omega)⟩;have hoo:=HK.out o (mg9 ho);have hob:=HBD.out o (mg9 ho);obtain⟨g1,g2,g3,g4⟩:=Ho.bad_no hob;have hw1:IntKind.u32.wrap o.dl=o.dl:=by rw[IntKind.wrap_u32];omega
        have hw2:IntKind.u8.wrap o.fl=o.fl:=by rw[IntKind.wrap_u8];omega
        obtain⟨b,off,rfl,hb2,hrg⟩:=zbk (HR0.out.bel HE.out lr) HK.out ho om;have d66:wr.cell? ⟨b,off+j*68+66,none⟩=some (.int .i64 o.dl):=hrg 66 _ (Ho.at_dl hoo);have d67:wr.cell? ⟨b,off+j*68+67,none⟩=some (.int .i64 o.fl):=hrg 67 _ (Ho.at_fl hoo)
        have HNX:Hid (∀W,Below wr.heap.size wr W→∀o2,hs[j+1]? = some o2→b<wr.heap.size∧W.cell? ⟨b,off+(j+1)*68+1,none⟩=some (.int .u64 (o2.id:Int))):=fun W hW o2 ho2=>by
         obtain⟨b',off',hbe,hb3,hrg2⟩:=zbk (HR0.out.bel HE.out lr) HK.out ho2 om
         injection hbe with hbe
         injection hbe with e1 e2
         subst e1;subst e2;have h5:=hrg2 1 _ (Ho.at_id o2);exact⟨hb3,(hW.cell hb3).trans h5⟩
        have HRG:Hid (b<wr.heap.size):=hb2;clear hrg hoo;obtain⟨D,hD⟩:=ex9 (o.dl);obtain⟨F,hF⟩:=ex9 (o.fl);rw[←hD]at d66 hw1;rw[←hF]at d67 hw2;have HPA:Hid (∀o2,hs[j+1]? = some o2→(cm3 F D).set 3 (.int .u64 (o2.id:Int))=(pathC last hs j).cells):=fun o2 ho2=>by rw[hF,hD];exact zwv ho ho2 hob
        have HPB:Hid (¬j+1<hs.length→splice ((cm3 F D).set 0 (.int .u8 last.k.toNat)) 4 (u8s last.m)=(pathC last hs j).cells):=fun hl=>by rw[hF,hD];exact zwu ho hl hob HML.out
        have HD67:=qh d67;have HD66:=qh d66;clear hD hF ho hob d66 d67;have hT:Below wr.heap.size wr wr.drew:=(Below.refl _ wr).drew;have hbb:=HRG.out;go_wp2;refine kgo kr 14 (fun w'=>Below wr.heap.size wr w') hT (fun _ _ _ _ _ h=>h) ?_;refine kp 0 (.slice (some ⟨b,off,none⟩) k c) rfl kr (fun _=>kr) ?_;refine kp 1 (.int .i64 (j:Int)) rfl kr (fun _=>kr) ?_;refine kp 2 (.pointer (some ⟨b,off+j*68,none⟩)) rfl kr (fun _=>zbn (t:=57) (e:=121) (x:=.tmp 80) (y:=.tmp 81) (g:=b) (off:=off) (n:=k) (c:=c) (p:=j) (sz:=68) rr kr kr hlj kr szHo) ?_;refine kp 3 (.pointer (some ⟨b,off+j*68+67,none⟩)) rfl kr (fun _=>kr) ?_;refine kl 4 (.int .i64 F) rfl kr (fun w' hw'=>zca (t:=3) (x:=.tmp 83) (p:=⟨b,off+j*68+67,none⟩) rr kr agI64r ((hw'.cell hbb).trans HD67.out)) ?_;refine kp 5 (.int .u8 F) rfl kr (fun _=>zsc (x:=.tmp 84) rr kr (zxq F hw2 _)) ?_;refine kp 6 (.slice (some ⟨b,off,none⟩) k c) rfl kr (fun _=>kr) ?_;refine kp 7 (.int .i64 (j:Int)) rfl kr (fun _=>kr) ?_;refine kp 8 (.pointer (some ⟨b,off+j*68,none⟩)) rfl kr (fun _=>zbn (t:=57) (e:=121) (x:=.tmp 86) (y:=.tmp 87) (g:=b) (off:=off) (n:=k) (c:=c) (p:=j) (sz:=68) rr kr kr hlj kr szHo) ?_;refine kp 9 (.pointer (some ⟨b,off+j*68+66,none⟩)) rfl kr (fun _=>kr) ?_;refine kl 10 (.int .i64 D) rfl kr (fun w' hw'=>zca (t:=3) (x:=.tmp 89) (p:=⟨b,off+j*68+66,none⟩) rr kr agI64r ((hw'.cell hbb).trans HD66.out)) ?_;refine kp 11 (.int .u32 D) rfl kr (fun _=>zsc (x:=.tmp 90) rr kr (zur D hw1 _)) ?_;refine kp 12 (.agg (cm3 F D).toArray) rfl kr (fun _=>znu 47 [(0,.const (.int .u8 1)),(1,.tmp 85),(2,.tmp 91)] rr [(0,(.int .u8 1:Value)),(1,.int .u8 F),(2,.int .u32 D)] kr (zxx F D _)) ?_;intro q8 q9;clear q8 q9;refine AnyG.start wr.heap.size [⟨13,9,47,Cm.zero.cells,fun g=>.pointer (some ⟨g,0,none⟩)⟩] (fun W=>Below wr.heap.size wr W) 1 rfl hT ?_
        have HFL:Hid (∀(W:World) (b:Act) (o:Oper),o.op=.alloc 47→(execOp b.eval o).run Tryz.prog W=.ok (.value (.pointer (some ⟨W.heap.size,0,none⟩))) (W.alloc (.cells Cm.zero.cells.toArray 47))):=fun W b o ho=>by
         unfold execOp
         rw[ho]
         kernel_rfl
        refine AnyG.fin sy kr ?_ ga9 gs9 (fun W h=>h) ?_
        · exact flt1 ⟨_,rfl,rfl,rfl,fun F W _=>HFL.out _ _ _ rfl⟩
        intro FF W hFF h0 hRR hok;obtain⟨gl,rfl⟩:=zjf hFF h0;obtain⟨⟨hga,hba,_⟩,_⟩:=hok;refine AnyK.storeAll 14 gl (cm3 F D) 47 Cm.zero.cells rr rfl rfl rr kr kr kr hba (by exact hd76c) (zxr F D) rr (fun _ _ _ h=>(by cases h)) ?_;intro w5 hb5 ho5;have hB5:=ho5.below hRR hga hRR.size;refine AnyK.done kr ?_;have HCK:=qh hb5;have HE5:=qtr HE hB5;have HB5:=qbl HB hB5;have HO5:=qh (zau HOW.out hB5);have HBW:=qh hB5;have HG:Hid (gl≠w.heap.size∧b≠gl∧w.heap.size≤gl∧wr.heap.size≤gl):=by have h1:=HB.out.lt;have h2:=HRG.out;show _∧_∧_∧_;omega
        have HOG:Hid (∀g,Value.ownBlock (.slice A' j c')=some g→g≠gl):=fun g hg=>by have h1:=(HOW.out.lt g hg).2;have h2:=HG.out;omega
        clear hb5 ho5 hB5 hRR hga hba hFF h0 HFL hT hbb;simp only[putF]
        by_cases hl1:j+1<k
        · obtain⟨o2,ho2⟩:∃o,hs[j+1]? = some o:=⟨_,ge9 (by rw[HL.out];omega)⟩
          have hq:((j:Int) == (k:Int)-1)=false:=by rw[beq_eq_false_iff_ne];omega
          have hq2:¬(j:Int)=(k:Int)-1:=om;have hq3:(j:Int)+1<(k:Int):=om;have d1:=(HNX.out _ HBW.out o2 ho2).2;have c3:w5.cell? ⟨gl,3,none⟩=some (.int .u64 0):=by rw[HCK.out.cell];rfl
          have hf:=fun i=>HCK.out.frozen i
          have HB6:Hid (Blk (w5.setCell ⟨gl,3,none⟩ (.int .u64 (o2.id:Int))) gl 47 (pathC last hs j).cells):=by
           have h5:=HCK.out.set_ 3 (.int .u64 (o2.id:Int))
           rwa [HPA.out o2 ho2]at h5
          have c6:(w5.setCell ⟨gl,3,none⟩ (.int .u64 (o2.id:Int))).cell? ⟨gl,3,none⟩=some (.int .u64 (o2.id:Int)):=by
           have h5:=HCK.out.set_ 3 (.int .u64 (o2.id:Int));rw[h5.cell];rfl
          have l6:=cm_ld HB6.out (Cm.cells_len (HPO.out j));have HE6:Hid (Below w.heap.size w (w5.setCell ⟨gl,3,none⟩ (.int .u64 (o2.id:Int)))):=HE5.out.setCell (p:=⟨gl,3,none⟩) HG.out.2.2.1 _;have HC6:Hid (Blk (w5.setCell ⟨gl,3,none⟩ (.int .u64 (o2.id:Int))) w.heap.size 47 C):=HB5.out.far (p:=⟨gl,3,none⟩) HG.out.1.symm _;have HO6:Hid ((w5.setCell ⟨gl,3,none⟩ (.int .u64 (o2.id:Int))).ownsRow (w.heap.size+1) 47 20 (.slice A' j c') j (((List.range j).map (pathC last hs)).flatMap Cm.cells)):=zc3 HO5.out (Only.of_setCells w5 gl 3 [.int .u64 (o2.id:Int)]) (fun g hg=>HOG.out g hg)
          by_cases hz:o2.id=0
          · have he:=HPE5.out (j+1) o2 om ho2 hz
            have HFN:Hid (pathE last hs=3):=he;have hz4:((o2.id:Int) == 0)=true:=by rw[beq_iff_eq];omega
            generalize o2.id=I2 at *;clear he hz ho2;go_wp2;go_ret2;exact⟨_,_,_,by rw[HFN.out];rfl,lr,fun h=>(by rw[HFN.out]at h;cases h),HE6.out⟩
          · have HI2:Hid (∀(i:Nat) (o:Ho),0<i→i≤j+1→hs[i]? = some o→o.id≠0):=fun i o' h1 h2 hio=>by
             rcases Nat.lt_or_ge i (j+1)with h|h
             · exact HI.out i o' h1 om hio
             · obtain rfl:i=j+1:=om
               rw[ho2]at hio
               injection hio with hio
               subst hio;exact hz
            have hz2:((o2.id:Int) == 0)=false:=by rw[beq_eq_false_iff_ne];omega
            have hz3:¬(o2.id:Int)=0:=om;have HSN:=qh (zik (last:=last) (hs:=hs) j);have HPL:=qh (Cm.cells_len (HPO.out j));have HP1:=qh (Cm.cells_one (pathC last hs j));generalize (pathC last hs j).cells=PC at *;obtain⟨R2,hR2⟩:=ex9 (((List.range (j+1)).map (pathC last hs)).flatMap Cm.cells);rw[←hR2]at HSN;have HR2E:=qh hR2;clear hR2;generalize ((List.range j).map (pathC last hs)).flatMap Cm.cells=R1 at *;have HI20:Hid ((Tryz.prog.info? 47).map (fun i=>((i.zero.map (fun z=>z.cells.size)),i.size))=some (some PC.length,PC.length)):=by show _=_;rw[HPL.out];exact z1cmp
            generalize o2.id=I2 at *;clear ho2 hz HI HO5 HE5 HCK HB5 HNX HPA HPB
            go_wp2_with (first
             | (refine zb6 rfl 111 47 (.tmp 116) rfl PC rr Tryz.underlying111 HI20.out (by rw[HPL.out];omega) (by rw[HPL.out];omega) ?_)
             | (at_builtin;refine zah rfl (.tmp 115) (.tmp 117) 111 rfl (w.heap.size+1) 47 20 32 Tryz.underlying111 iCmz (.slice A' j c') j R1 rr (by exact zau HO6.out ((Below.refl _ _).alloc lr _)) (some ⟨(w5.setCell ⟨gl,3,none⟩ (.int .u64 (I2:Int))).heap.size,0,none⟩) 1 1 PC rr (by exact RdS.new _ _ PC 20 HPL.out) HP1.out om om (by have:=HC6.out.lt;simp at this ⊢;omega) ?_;intro A7 c7 w7 hown7 hc7 hg7 hat7;have HE7:=qh ((HE6.out.alloc HE6.out.size _).grown hg7 (Nat.le_trans HE6.out.size sy) (fun g hg=>by have h1:=(HO6.out.lt g hg).1;omega));have HC7:=qh ((HC6.out.alloc _).grown hg7 (fun e=>by have h1:=(HO6.out.lt _ e.symm).1;omega));rw[HSN.out]at hown7;have HO7:=qh hown7;clear hown7 hg7 hat7))
            go_roundg (k-(j+1))
            case measure=>have:=HGK.out;omega
            case rel=>exact⟨j+1,by omega,rfl,by go_num,⟨A7,c7,rfl,hc7,by have h9:=HO7.out;rw[HR2E.out]at h9;exact h9⟩,HC7,HE7,HI2⟩
        · have hjk:j+1=k:=om
          have hq:((j:Int) == (k:Int)-1)=true:=by rw[beq_iff_eq];omega
          have q0:w5.cell? ⟨w.heap.size,0,none⟩=some (.int .u8 last.k.toNat):=by rw[HB5.out.cell,HCC.out];rfl
          have c0:w5.cell? ⟨gl,0,none⟩=some (.int .u8 1):=by rw[HCK.out.cell];rfl
          have hf0:=fun i=>HCK.out.frozen i
          have hb4:=HCK.out.set_ 0 (.int .u8 last.k.toNat);have hc4:Blk (w5.setCell ⟨gl,0,none⟩ (.int .u8 last.k.toNat)) w.heap.size 47 C:=HB5.out.far (p:=⟨gl,0,none⟩) HG.out.1.symm _;have he4:Below w.heap.size w (w5.setCell ⟨gl,0,none⟩ (.int .u8 last.k.toNat)):=HE5.out.setCell (p:=⟨gl,0,none⟩) HG.out.2.2.1 _;have ho4:(w5.setCell ⟨gl,0,none⟩ (.int .u8 last.k.toNat)).ownsRow (w.heap.size+1) 47 20 (.slice A' j c') j (((List.range j).map (pathC last hs)).flatMap Cm.cells):=zc3 HO5.out (Only.of_setCells w5 gl 0 [.int .u8 last.k.toNat]) (fun g hg=>HOG.out g hg);have hlm:(ldAt 29 (.pointer (some ⟨w.heap.size,4,none⟩))).run Tryz.prog (w5.setCell ⟨gl,0,none⟩ (.int .u8 last.k.toNat))=.ok (.agg (u8s last.m).toArray) (w5.setCell ⟨gl,0,none⟩ (.int .u8 last.k.toNat)):=zal hc4 _ 4 (u8s last.m) (by rw[zaa,HML.out,HCC.out,Cm.cells_mark,tk (by rw[zaa,HML.out];exact lr)]) _ Tryz.underlying29 rfl (by rw[zaa,HML.out];exact hd16);obtain⟨w6,hst6,ho6,hb6⟩:=st16 4 hb4 (by rw[List.length_set];exact lr) (show(u8s last.m).length=16 by rw[zaa,HML.out]) (zac _);rw[HPB.out (by rw[HL.out];omega)]at hb6;have HE6:=qh (ho6.below he4 HG.out.2.2.1 he4.size);have HC6:=qh (ho6.blk hc4 HG.out.1.symm);have HO6:=qh (zc3 ho4 ho6 (fun g hg=>HOG.out g hg));have l6:=cm_ld hb6 (Cm.cells_len (HPO.out j));have HSN:=qh (zik (last:=last) (hs:=hs) j);have HPL:=qh (Cm.cells_len (HPO.out j));have HP1:=qh (Cm.cells_one (pathC last hs j));have HI2:Hid (∀(i:Nat) (o:Ho),0<i→i≤j+1→hs[i]? = some o→o.id≠0):=fun i o' h1 h2 hio=>HI.out i o' h1 (by have:=(gi9.1 hio).1;rw[HL.out]at this;omega) hio
          generalize (pathC last hs j).cells=PC at *;obtain⟨R2,hR2⟩:=ex9 (((List.range (j+1)).map (pathC last hs)).flatMap Cm.cells);rw[←hR2]at HSN;have HR2E:=qh hR2;clear hR2;generalize ((List.range j).map (pathC last hs)).flatMap Cm.cells=R1 at *;have HI20:Hid ((Tryz.prog.info? 47).map (fun i=>((i.zero.map (fun z=>z.cells.size)),i.size))=some (some PC.length,PC.length)):=by show _=_;rw[HPL.out];exact z1cmp
          generalize u8s last.m=LM at *;generalize last.k.toNat=LK at *;have HJK:=qh hjk;clear hjk hl1 HI HO5 HE5 HCK HB5 HNX HPA HPB hb6 ho6 hc4 he4 ho4 hb4 HCC
          go_wp2_with (first
           | (refine zb6 rfl 111 47 (.tmp 116) rfl PC rr Tryz.underlying111 HI20.out (by rw[HPL.out];omega) (by rw[HPL.out];omega) ?_)
           | (at_builtin;refine zah rfl (.tmp 115) (.tmp 117) 111 rfl (w.heap.size+1) 47 20 32 Tryz.underlying111 iCmz (.slice A' j c') j R1 rr (by exact zau HO6.out ((Below.refl _ _).alloc lr _)) (some ⟨w6.heap.size,0,none⟩) 1 1 PC rr (by exact RdS.new _ _ PC 20 HPL.out) HP1.out om om (by have:=HC6.out.lt;simp at this ⊢;omega) ?_;intro A7 c7 w7 hown7 hc7 hg7 hat7;have HE7:=qh ((HE6.out.alloc HE6.out.size _).grown hg7 (Nat.le_trans HE6.out.size sy) (fun g hg=>by have h1:=(HO6.out.lt g hg).1;omega));have HC7:=qh ((HC6.out.alloc _).grown hg7 (fun e=>by have h1:=(HO6.out.lt _ e.symm).1;omega));rw[HSN.out]at hown7;have HO7:=qh hown7;clear hown7 hg7 hat7))
          go_roundg (k-(j+1))
          case measure=>have:=HGK.out;omega
          case rel=>exact⟨j+1,by omega,rfl,by go_num,⟨A7,c7,rfl,hc7,by have h9:=HO7.out;rw[HR2E.out]at h9;exact h9⟩,HC7,HE7,HI2⟩
      · obtain rfl:j=k:=om
        have hlt3:¬(j:Int)<(j:Int):=om;have he:=HPE6.out (fun i o h1 hio=>HI.out i o h1 (by have:=(gi9.1 hio).1;rw[HL.out]at this;omega) hio);have HFN:Hid (pathE last hs=0):=he
        have HF:Hid (RdS 20 wr A' j ((pathL last hs).flatMap Cm.cells)):=by
         have h5:=RdS.ofOwn2 HOW.out;rw[pathL,HL.out];exact h5
        clear he;go_wp2;go_ret2;exact⟨A',j,c',by rw[HFN.out];rfl,hc',fun _=>⟨rfl,HF.out⟩,HE.out⟩
end
theorem xor_comm(a b:List UInt8):Ch.xor a b=Ch.xor b a:=by
 unfold Ch.xor
 induction a generalizing b with
 | nil=>cases b <;> rfl
 | cons x a ih =>
  cases b with
  | nil=>rfl
  | cons y b=>rw[List.zipWith_cons_cons,List.zipWith_cons_cons,ih,UInt8.xor_comm]
section
attribute [local go_sem ↓] zcg
theorem zqe(last:Cm)(hc:last.ok)(A:Option Addr)(n c:Nat)(hs:List Ho)(w:World)(h:RdS 68 w A n (hs.flatMap Ho.cells))(hok:∀s∈hs,s.ok)(hl:hs.length=n)(hn:n≤1400000000000):
 Calls Tryz.prog 56 #[.agg last.cells.toArray,.slice A n c] w fun e w'=>∃A' n' c',e=.returned (.tuple #[.slice A' n' c',.int .i64 (pathE last hs:Int)])∧(pathE last hs=0→n'=n∧RdS 20 w' A' n ((pathL last hs).flatMap Cm.cells))∧Below w.heap.size w w':=by
 by_cases hne:¬(last.k.toNat<2∨4<last.k.toNat)∧(∀(i:Nat) (o:Ho),hs[i]? = some o→o.bad=false)∧¬(hs.length<1∨5<hs.length)∧last.shaped=true
 · obtain⟨h1,h2,h3,h4⟩:=hne
   refine(zqc last hc A n c hs w h hok hl h1 (fun s hs=>by obtain⟨i,hi⟩:=List.getElem?_of_mem hs;exact h2 i s hi) om om h4).mono ?_;rintro e w' ⟨A',n',c',rfl,_,hr,hB⟩;exact⟨A',n',c',rfl,hr,hB⟩
 · refine(zqd last hc A n c hs w h hok hl om hne).mono ?_
   rintro e w' ⟨rfl,hB⟩;refine⟨none,0,0,rfl,fun he=>absurd ?_ hne,hB⟩;obtain⟨hb,h1,h5⟩:=zc6 he;obtain⟨hk,hsh,_⟩:=zg7 he;exact⟨hk,fun i o hi=>hb o (mg9 hi),by omega,hsh⟩
theorem zog(A C:Option Addr)(n c m d:Nat)(xs:List UInt8)(hs:List Ho)(w:World)(hx:Rd w A n (u8s xs))(hc:n≤c)(hp:RdB w C m (hs.map Ho.pub))(hok:∀s∈hs,s.ok)(hm:hs.length=m):
 Calls Tryz.prog 57 #[.slice A n c,.slice C m d] w fun e w'=>∃A' n' c',e=.returned (.tuple #[.slice A' n' c',.int .i64 (scE xs hs:Int)])∧n'≤c'∧(scE xs hs=0→n'=m∧RdS 192 w' A' m ((scL xs hs).flatMap Sp.cells))∧Below w.heap.size w w':=by
 have hn:xs.length=n:=hx.len
 by_cases hb:n≠32∨m<1∨5<m
 · refine(zp3 A C n c m d w hb).mono ?_
   rintro e w' ⟨rfl,rfl⟩;have e2:scE xs hs=2:=by rw[scE,if_pos (by rw[hn,hm];exact hb)]
   exact⟨none,0,0,by rw[e2];rfl,lr,fun h=>(by rw[e2]at h;cases h),Below.refl _ _⟩
 · obtain rfl:n=32:=om
   have e2:scE xs hs=(sch [] [xs] (pubB xs) (hs.map Ho.pub)).2:=by rw[scE,if_neg (by rw[hn,hm];exact hb)]
   refine(zof A C c m d xs (hs.map Ho.pub) w hx hc hp (fun p hp=>by obtain⟨o,ho,rfl⟩:=List.mem_map.1 hp;exact(hok o ho).2.2.1) om om).mono ?_;rintro e w' ⟨A',n',c',rfl,hn',hr,hl',hB⟩;refine⟨A',n',c',by rw[e2],hn',fun h=>?_,hB⟩;have h7:(scL xs hs).length=hs.length:=(zib h).2.1;have h8:n'=m:=by rw[←hl',←hm];exact h7
   subst h8;exact⟨rfl,hr⟩
end
end Go.Proofs.YtpgpaenloaphaaaGreat
