/- Part of the proof: Ppz, Akz, SqE, Pkz, Tld. -/
import Derived.Test.YtpgpaenloaphaaaGreatPhx21
set_option maxRecDepth 100000
set_option maxHeartbeats 16000000
namespace Go.Proofs.YtpgpaenloaphaaaGreat
open Go.RowKit
theorem zoq(A:Option Addr)(c:Nat)(l:List UInt8)(w:World)(h:Rd w A 768 (u8s l))(hc:768≤c):
 Calls Tryz.prog 11 #[.slice A 768 c] w fun e w'=>e=.returned (.tuple #[.agg (u8s l).toArray,.int .i64 0])∧Below w.heap.size w w':=by
 have hl:=h.len;obtain⟨b,off,rfl,hb,hcell⟩:=h.2 om;obtain⟨Z,HZ,HZl⟩:∃Z:List Value,Hid (Tryz.zeroCells35 = Z.toArray)∧Hid (Z.length=768):=⟨_,zc76,by show(u8s _).length=_;rw[zaa];simp⟩;obtain⟨Y,HY,HYl⟩:∃Z:List Value,Hid (Tryz.zeroCells32 = Z.toArray)∧Hid (Z.length=288):=⟨_,zc34',by show(u8s _).length=_;rw[zaa];simp⟩;have Hl:=qh hl;clear hl hcell;have hh:(l.take 288).length=288:=by rw[List.length_take,Hl.out];rfl
 have HH:=qh hh;have hz:((u8s (l.take 288)).length=288):=by rw[zaa,hh]
 have HZ3:=qh hz;clear hh hz
 have hrd:∀W,Rd W (some ⟨b,off,none⟩) 768 (u8s l)→Rd W (some ⟨b,off,none⟩) 288 (u8s (l.take 288)):=fun W h=>by
  have:=h.cut (A':=some ⟨b,off,none⟩) (m:=288) (k:=0) om om (fun _ b' off' e=>by injection e with e;injection e with e1 e2;subst e1;subst e2;rfl)
  rwa [List.drop_zero,zay]at this
 have HR:=qh hrd;clear hrd
 go_enter Tryz.func11, Tryz.ntmps11
 have hi34:(Tryz.prog.info? 32).map (·.size)=some (u8s (l.take 288)).length:=by rw[HZ3.out];exact hd34
 have H34:=qh hi34;have hf34:(u8s (l.take 288)).length=Y.length:=by rw[HZ3.out,HYl.out]
 have HF34:=qh hf34
 obtain⟨X,HX,HXl,HX1⟩:∃X:List Value,Hid (X=splice Z 0 (u8s (l.take 288)))∧Hid (X.length=768)∧Hid (∀v∈X,v.oneCell'=true):=⟨_,rfl,by
  show(splice _ _ _).length=_
  rw[length_splice _ _ _ (by rw[HZ3.out,HZl.out];omega),HZl.out],by
  show ∀v∈splice _ _ _,_
  have hz1:∀v∈Z,v.oneCell'=true:=by
   have:=zc76.symm.trans HZ.out;have h2:u8s (List.replicate 768 0)=Z:=by simpa using congrArg Array.toList this
   rw[←h2];exact zac _
  intro v hv;simp only[splice,List.mem_append]at hv
  rcases hv with hv|hv|hv
  · exact hz1 v (List.mem_of_mem_take hv)
  · exact zac _ v hv
  · exact hz1 v (List.mem_of_mem_drop hv)⟩
 have hbuild:∀W,(Instr.build 35 #[(0,.agg (u8s (l.take 288)).toArray)]).run Tryz.prog W=.ok (.agg X.toArray) W:=fun W =>
  zce Tryz.zeroValue35 Tryz.underlying35 (pl76 _ Tryz.underlying35) (by
   rw[HZ.out]
   show Instr.fill _ _ [(0,_)]=_
   rw[za8 (cs:=u8s (l.take 288)) rfl (by rw[HZ3.out];rfl) (by rw[HZ3.out,HZl.out];omega),HX.out]
   rfl) W
 have HBU:=qh hbuild;have hi76:(Tryz.prog.info? 35).map (·.size)=some X.length:=by rw[HXl.out];exact hd76
 have H76:=qh hi76;have hf76:X.length=Z.length:=by rw[HXl.out,HZl.out]
 have HF76:=qh hf76;clear hi34 hf34 hbuild hi76 hf76
 go_wp2_with (first
  | (go_at_call 21;refine(zo2 _ c (l.take 288) _ (HR.out _ (h.alloc _)) om).mono ?_;rintro e w1 ⟨rfl,hB1⟩)
  | (refine zab rfl 32 (.tmp 4) (.tmp 15) rfl w1.heap.size (u8s (l.take 288)) rr rr 32 Y (Blk.new' rfl HY.out) H34.out (zac _) HF34.out ?_;intro w2 hb2 ho2;have hs1:w.heap.size+1≤w1.heap.size:=by have:=hB1.size;simp at this;omega
     have hB2:Below (w.heap.size+1) (w.alloc (.cells Tryz.zeroCells35 35)) w2:=ho2.below ((hB1.mono sy).alloc hs1 _) hs1 (by simp;omega);have hs2:w.heap.size+1≤w2.heap.size:=by have:=hB2.size;simp at this;omega
     clear ho2 hB1 hs1)
  | (refine wpList_load_mid rfl 32 (.tmp 4) rfl _ 0 rr (u8s (l.take 288)) _ hb2.range Tryz.underlying32 rfl H34.out ?_)
  | (refine zap rfl 35 [(0,.tmp 21)] rfl [(0,.agg (u8s (l.take 288)).toArray)] rr (.agg X.toArray) (HBU.out _) ?_)
  | (refine zab rfl 35 (.tmp 6) (.tmp 22) rfl w2.heap.size X rr rr 35 Z (Blk.new' rfl HZ.out) H76.out HX1.out HF76.out ?_;intro w3 hb3 ho3;have hB3:Below (w.heap.size+1) (w.alloc (.cells Tryz.zeroCells35 35)) w3:=ho3.below (hB2.alloc hs2 _) hs2 (by simp;omega);have hs3:w.heap.size+1≤w3.heap.size:=by have:=hB3.size;simp at this;omega
     clear ho3 hB2 hb2))
 have hrest:∀W,Rd W (some ⟨b,off,none⟩) 768 (u8s l)→Rd W (some ⟨b,off+288,none⟩) 480 (u8s (l.drop 288)):=fun W h=>by
  have:=h.cut (A':=some ⟨b,off+288,none⟩) (m:=768) (k:=288) om om (fun _ b' off' e=>by injection e with e;injection e with e1 e2;subst e1;subst e2;rfl)
  rwa [tk (by rw[zaa,Hl.out];omega),zbf]at this
 have hBw3:Below w.heap.size w w3:=((Below.refl _ _).alloc lr _).trans (hB3.mono om);have hr3:=hrest _ ((h.below hBw3).drew);have HR3:=qh hr3;have n288:¬c=288:=om;have hfx:288+480≤X.length:=by rw[HXl.out];omega
 have hz3:Blk w3 w.heap.size 35 Z:=(Blk.new' (g:=w.heap.size) rfl HZ.out).below hB3 om;have hs4:w.heap.size<w2.heap.size:=om;clear hrest hr3 hBw3
 go_frame
 go_region_held3 (fun _=>True) (trivial) ((refine zcu rfl (.tmp 24) (.tmp 26) 22 rfl 5 Tryz.underlying22 zgb w2.heap.size 288 480 480 rr (some ⟨b,off+288,none⟩) 480 (c-288) rr 35 X (by exact hb3) (u8s (l.drop 288)) HR3.out (zac _) hfx ?_;intro w4 hb4 ho4))
 have hB4:Below (w.heap.size+1) (w.alloc (.cells Tryz.zeroCells35 35)) w4:=ho4.below hB3.drew hs2 hs3;have hz4:Blk w4 w.heap.size 35 Z:=ho4.blk hz3.drew om
 have HF:splice X 288 (List.take 480 (u8s (l.drop 288)))=u8s l:=by
  rw[HX.out];have hZ:=HZl.out;have hl:=Hl.out;rw[zfm Z (u8s (l.take 288)) _ 288 HZ3.out (by simp[zaa];omega),zay,←zae]
  congr 1
  rw[tk (l:=l.drop 288) (by simp;omega),List.take_append_drop]
 rw[HF]at hb4;have hi:(Tryz.prog.info? 35).map (·.size)=some (u8s l).length:=by rw[zaa,Hl.out];exact hd76
 have HI:=qh hi;have hfz:(u8s l).length=Z.length:=by rw[zaa,Hl.out,HZl.out]
 have HFZ:=qh hfz;clear ho4 hB3 hb3 hz3 HF HR3 hi hfz hfx
 go_wp2_with (first
  | refine wpList_load_mid rfl 35 (.tmp 6) rfl w2.heap.size 0 rr (u8s l) _ hb4.range Tryz.underlying35 rfl HI.out ?_
  | (refine zab rfl 35 (.tmp 2) (.tmp 28) rfl w.heap.size (u8s l) rr rr 35 Z hz4 HI.out (zac _) HFZ.out ?_;intro w5 hb5 ho5))
 have hB5:Below w.heap.size w w5:=ho5.below (((Below.refl _ _).alloc lr _).trans (hB4.mono om)) lr (by have:=hB4.size;simp at this;omega);exact bodyPost_ret (zah rfl _ _ _ _ rfl hb5 _ Tryz.underlying35 rfl HI.out) rfl ⟨rfl,hB5⟩
theorem zem(w:World):(Instr.build 35 #[]).run Tryz.prog w=.ok (.agg Tryz.zeroCells35) w:=by kernel_rfl
section
theorem zrw(v:Value):Instr.loadAt 35 v=ldAt 35 v:=rfl
theorem stq_76(p v:Value):Instr.storeAt 35 p v=stAt 35 p v:=rfl
attribute [local go_sem ↓] zrw stq_76
def fixed14:List UInt8:=((((((rep 768 (0:UInt8)).set 0 1).set 32 2).set 48 3).set 288 4).set 767 5)
theorem zcb:fixed14.length=768:=by unfold fixed14;simp only[List.length_set];exact zav _ _
theorem awake14(w:World):Calls Tryz.prog 10 #[] w fun e w'=>e=.returned (.bool true)∧Below w.heap.size w w':=by
 go_enter Tryz.func10, Tryz.ntmps10
 go_wp2_with (at_make;refine zaj rfl _ _ 22 rfl 5 (.int .u8 0) 1 Tryz.underlying22 iU8 rfl _ _ _ _ rfl rfl 768 768 rfl rfl om om om ?_)
 intro w1 hb1 hg1 hs1;have hB1:Below w.heap.size w w1:=zad hg1;have hf:∀i,w1.frozen? ⟨w.heap.size,i,none⟩=false:=fun i=>hb1.frozen i
 have hcell:∀i,i<768→w1.cell? ⟨w.heap.size,i,none⟩=some (.int .u8 0):=fun i hi=>by rw[hb1.cell,zc7 hi]
 have c0:=hcell 0 om;have c1:=hcell 32 om;have c2:=hcell 48 om;have c3:=hcell 288 om;have c4:=hcell 767 om;clear hcell hg1;have HS:=qh hs1;clear hs1;have hset:∀(l:List UInt8) i c,(u8s l).set i (.int .u8 (c:UInt8).toNat)=u8s (l.set i c):=fun l i c=>by unfold u8s;rw[List.map_set];rfl
 have hbf:Blk (((((w1.setCell ⟨w.heap.size,0,none⟩ (.int .u8 1)).setCell ⟨w.heap.size,32,none⟩ (.int .u8 2)).setCell ⟨w.heap.size,48,none⟩ (.int .u8 3)).setCell ⟨w.heap.size,288,none⟩ (.int .u8 4)).setCell ⟨w.heap.size,767,none⟩ (.int .u8 5)) w.heap.size 5 (u8s fixed14):=by
  have h5:=((((hb1.set_ 0 (.int .u8 1)).set_ 32 (.int .u8 2)).set_ 48 (.int .u8 3)).set_ 288 (.int .u8 4)).set_ 767 (.int .u8 5);have e0:rep 768 (Value.int .u8 0)=u8s (rep 768 0):=zwp 768 0;rw[e0]at h5;have e:=hset (rep 768 0) 0 1
  rw [show(Value.int .u8 1)=.int .u8 ((1:UInt8).toNat) from rfl,hset,show(Value.int .u8 2)=.int .u8 ((2:UInt8).toNat) from rfl,hset,show(Value.int .u8 3)=.int .u8 ((3:UInt8).toNat) from rfl,hset,
    show(Value.int .u8 4)=.int .u8 ((4:UInt8).toNat) from rfl,hset,show(Value.int .u8 5)=.int .u8 ((5:UInt8).toNat) from rfl,hset]at h5
  exact h5
 have hBf:Below w.heap.size w (((((w1.setCell ⟨w.heap.size,0,none⟩ (.int .u8 1)).setCell ⟨w.heap.size,32,none⟩ (.int .u8 2)).setCell ⟨w.heap.size,48,none⟩ (.int .u8 3)).setCell ⟨w.heap.size,288,none⟩ (.int .u8 4)).setCell ⟨w.heap.size,767,none⟩ (.int .u8 5)) :=
  ((((hB1.setCell lr _).setCell lr _).setCell lr _).setCell lr _).setCell lr _
 clear hset hb1 hB1;obtain⟨Z,HZ,HZl⟩:∃Z:List Value,Hid (Tryz.zeroCells35 = Z.toArray)∧Hid (Z.length=768):=⟨_,zc76,by show(u8s _).length=_;rw[zaa];simp⟩;have hi:(Tryz.prog.info? 35).map (·.size)=some (u8s fixed14).length:=by rw[zaa,zcb];exact hd76
 have HI:=qh hi;have hfz:(u8s fixed14).length=Z.length:=by rw[zaa,zcb,HZl.out]
 have HFZ:=qh hfz;have hat:∀(i:Nat) (c:UInt8),fixed14[i]? = some c→(u8s fixed14)[i]? = some (.int .u8 c.toNat):=fun i c h=>by rw[u8s_getElem?,h];rfl
 have HAT:=qh hat;clear hi hfz hat
 go_wp2_with (first
  | (go_at_call 11;refine(zoq _ 768 fixed14 _ (by have:=hbf.rd 0 768 (by rw[zaa,zcb];omega);rwa [List.drop_zero,tk (by rw[zaa,zcb];omega)]at this) om).mono ?_;rintro e w2 ⟨rfl,hB2⟩)
  | (refine zab rfl 35 (.tmp 2) (.tmp 18) rfl w2.heap.size (u8s fixed14) rr rr 35 Z (Blk.new' rfl HZ.out) HI.out (zac _) HFZ.out ?_;intro w3 hb3 ho3;have hBw2:Below w.heap.size w w2:=hBf.trans (hB2.mono hBf.size);have hlt:w.heap.size<w2.heap.size:=Nat.lt_of_lt_of_le hbf.lt hB2.size;have hBw3:Below w.heap.size w w3:=ho3.below (hBw2.alloc hBw2.size _) hBw2.size (by simp;omega);have hk3:Blk w3 w.heap.size 5 (u8s fixed14):=ho3.blk ((hbf.below hB2 hbf.lt).alloc _) om;have d0:w3.cell? ⟨w2.heap.size,0,none⟩=some (.int .u8 1):=by rw[hb3.cell];exact HAT.out 0 1 (by decide +kernel)
     have d1:w3.cell? ⟨w2.heap.size,32,none⟩=some (.int .u8 2):=by rw[hb3.cell];exact HAT.out 32 2 (by decide +kernel)
     have d2:w3.cell? ⟨w2.heap.size,48,none⟩=some (.int .u8 3):=by rw[hb3.cell];exact HAT.out 48 3 (by decide +kernel)
     have d3:w3.cell? ⟨w2.heap.size,288,none⟩=some (.int .u8 4):=by rw[hb3.cell];exact HAT.out 288 4 (by decide +kernel)
     have d4:w3.cell? ⟨w2.heap.size,767,none⟩=some (.int .u8 5):=by rw[hb3.cell];exact HAT.out 767 5 (by decide +kernel)
     have hld:(ldAt 35 (.pointer (some ⟨w2.heap.size,0,none⟩))).run Tryz.prog w3=.ok (.agg (u8s fixed14).toArray) w3:=zas hb3 _ 0 (u8s fixed14) (by rw[List.drop_zero,tk lr]) _ Tryz.underlying35 rfl HI.out
     clear ho3 hB2 hbf hBf hBw2 c0 c1 c2 c3 c4 hf)
  | (go_at_call 14;refine(ziw fixed14 _ zcb).mono ?_;rintro e w4 ⟨A4,c4,rfl,hc4,hown4,hB4⟩;have hk4:=hk3.below hB4 hk3.lt;clear d0 d1 d2 d3 d4 hld)
  | (go_at_call 13;refine(zk7 A4 (some ⟨w.heap.size,0,none⟩) 768 768 c4 768 fixed14 fixed14 _ (Rd.of_own hown4) (by have:=hk4.rd 0 768 (by rw[zaa,zcb];omega);rwa [List.drop_zero,tk (by rw[zaa,zcb];omega)]at this) om om).mono ?_;rintro e w5 ⟨rfl,q5,rfl⟩)
  | (go_at_call 41;refine(zff (some ⟨w4.heap.size,0,none⟩) 3 3 [0,3,2] _ (by have:=(Blk.new w4 36 (i64s [0,3,2])).rd 0 3 (by simp[i64s]);exact this) om).mono ?_;rintro e w6 ⟨rfl,rfl⟩))
 rw[show(leastOf [0,3,2] == 2)=true from by decide];go_ret;refine⟨rfl,?_⟩;have h4:Below w.heap.size w w4:=hBw3.trans (hB4.mono hBw3.size);exact below_drewN (h4.alloc h4.size _) _
end
section
section
variable{P:Program}
theorem zfa{e:TypeId}{sz:Nat}(ha:∀w,(isAgg e).run P w=.ok true w)(hs:∀w,(sizeOf e).run P w=.ok sz w)(l:List UInt8)(off:Nat)(w:World):(part e (u8s l).toArray off).run P w=.ok (.agg (u8s ((l.drop off).take sz)).toArray) w:=by
 unfold part
 simp only[Sem.run_bind,ha,hs,Result.andThen_ok,if_true,Sem.run_pure]
 congr 2
 rw[List.extract_toArray,List.extract_eq_take_drop,Nat.add_sub_cancel_left,zbf,zay]
theorem zd8(d:Nat)(xs:Array Value)(w:World):∀fs:List Field,(∀f∈fs,∃v,(part f.type xs f.offset).run P w=.ok v w∧(Op.equalIn d f.type v v).run P w=.ok true w)→(Op.eqFields d xs xs fs).run P w=.ok true w
 | [],_=>by simp[Op.eqFields]
 | f :: fs,h=>by
  obtain⟨v,h1,h2⟩:=h f sy;have ih:=zd8 d xs w fs (fun g hg=>h g (by simp[hg]))
  unfold Op.eqFields
  split
  · simp only[Sem.run_bind,h1,h2,Result.andThen_ok,Bool.not_true,Bool.false_eq_true,if_false,ih]
  · exact ih
end
end
def z768:List UInt8:=List.replicate 768 0
theorem zby:z768.length=768:=List.length_replicate
theorem zc76z:Tryz.zeroCells35 = (u8s z768).toArray:=zc76
theorem eqq_76(x y:Value):binOp .eql 35 x y=eqAt 35 x y:=rfl
theorem eqInA{t:TypeId}{n:Nat}(hu:Tryz.prog.underlying t=some (.array n 5))(d:Nat)(x:List UInt8)(hx:x.length=n)(w:World):(Op.equalIn (d+2) t (.agg (u8s x).toArray) (.agg (u8s x).toArray)).run Tryz.prog w=.ok true w:=by
 obtain⟨i,hi⟩:∃i,Tryz.prog.info? 5 = some i:=Option.isSome_iff_exists.1 kr;have hc:Tryz.prog.cellsOf 5 = 1:=by kernel_rfl
 rw[run_equalIn_array w (d+1) _ _ hu hi,hc,List.range_eq_range',←hx,zfj d 5 kr Tryz.underlying5 x x rfl w x.length 0 om]
 simp
theorem cutN{x:List UInt8}{o n:Nat}(h:o+n≤x.length):((x.drop o).take n).length=n:=by rw[List.length_take,List.length_drop];omega
theorem eqIn34(d:Nat)(x:List UInt8)(hx:x.length=288)(w:World):(Op.equalIn (d+3) 32 (.agg (u8s x).toArray) (.agg (u8s x).toArray)).run Tryz.prog w=.ok true w:=by
 have hf:Tryz.prog.underlying 32 = some (.struct (Tryz.prog.fieldsOf 32)):=by kernel_rfl
 rw[run_equalIn_struct w (d+2) _ _ _ hf kr];refine zd8 (d+2) _ w _ fun f hf=>?_
 unfold Program.fieldsOf at hf
 rw[Tryz.underlying32]at hf;simp only[List.mem_cons,List.not_mem_nil,or_false]at hf
 rcases hf with rfl|rfl|rfl
 · exact⟨_,zfa (sz:=32) (fun w=>by kernel_rfl) (fun w=>by kernel_rfl) x _ w,eqInA Tryz.underlying23 d _ (cutN (by rw[hx];decide)) w⟩
 · exact⟨_,zfa (sz:=16) (fun w=>by kernel_rfl) (fun w=>by kernel_rfl) x _ w,eqInA Tryz.underlying29 d _ (cutN (by rw[hx];decide)) w⟩
 · exact⟨_,zfa (sz:=240) (fun w=>by kernel_rfl) (fun w=>by kernel_rfl) x _ w,eqInA Tryz.underlying30 d _ (cutN (by rw[hx];decide)) w⟩
theorem eqIn76(d:Nat)(x:List UInt8)(hx:x.length=768)(w:World):(Op.equalIn (d+4) 35 (.agg (u8s x).toArray) (.agg (u8s x).toArray)).run Tryz.prog w=.ok true w:=by
 have hf:Tryz.prog.underlying 35 = some (.struct (Tryz.prog.fieldsOf 35)):=by kernel_rfl
 rw[run_equalIn_struct w (d+3) _ _ _ hf kr];refine zd8 (d+3) _ w _ fun f hf=>?_
 unfold Program.fieldsOf at hf
 rw[Tryz.underlying35]at hf;simp only[List.mem_cons,List.not_mem_nil,or_false]at hf
 rcases hf with rfl|rfl
 · exact⟨_,zfa (sz:=288) (fun w=>by kernel_rfl) (fun w=>by kernel_rfl) x _ w,eqIn34 d _ (by rw[List.length_take,List.length_drop,hx];rfl) w⟩
 · exact⟨_,zfa (sz:=480) (fun w=>by kernel_rfl) (fun w=>by kernel_rfl) x _ w,eqInA Tryz.underlying33 (d+1) _ (cutN (by rw[hx];decide)) w⟩
theorem eq76s(x:List UInt8)(hx:x.length=768)(w:World):(eqAt 35 (.agg (u8s x).toArray) (.agg (u8s x).toArray)).run Tryz.prog w=.ok (.bool true) w:=by
 unfold eqAt
 rw[run_eql_struct];have h5:=eqIn76 9996 x hx w
 show(((Op.equalIn (9996+4) 35 (.agg (u8s x).toArray) (.agg (u8s x).toArray)).run Tryz.prog w).andThen _)=_
 rw[h5]
 rfl
theorem eq76z(w:World):(eqAt 35 (.agg (u8s z768).toArray) (.agg (u8s z768).toArray)).run Tryz.prog w=.ok (.bool true) w:=eq76s z768 zby w
theorem eq76y(w:World):(eqAt 35 (.agg (u8s z768).toArray) (.agg Tryz.zeroCells35)).run Tryz.prog w=.ok (.bool true) w:=by rw[zc76z];exact eq76z w
theorem pk_ld{w:World}{g:Nat}{t:TypeId}{l:List UInt8}(hb:Blk w g t (u8s l))(hl:l.length=768):(ldAt 35 (.pointer (some ⟨g,0,none⟩))).run Tryz.prog w=.ok (.agg (u8s l).toArray) w :=
 zas hb _ 0 (u8s l) (by rw[List.drop_zero,tk lr]) _ Tryz.underlying35 rfl (by rw[zaa,hl];exact hd76)
section
attribute [local go_sem ↓] zrw eqq_76
theorem zsz(f:Nat)(hf:f≠0)(B:Option Addr)(n c:Nat)(w:World):
 Calls Tryz.prog 32 #[.agg (u8s z768).toArray,.int .i64 (f:Int),.slice B n c,.int .i64 (f:Int)] w fun e w'=>e=.returned (.bool true)∧Below w.heap.size w w':=by
 have hf1:¬(f:Int)=0:=om;obtain⟨Z,hZ⟩:=ex9 (u8s z768);have hq:∀W,(eqAt 35 (.agg Z.toArray) (.agg Tryz.zeroCells35)).run Tryz.prog W=.ok (.bool true) W:=fun W=>by rw[hZ];exact eq76y W
 have hld:(ldAt 35 (.pointer (some ⟨w.heap.size,0,none⟩))).run Tryz.prog (w.alloc (.cells Z.toArray 35))=.ok (.agg Z.toArray) (w.alloc (.cells Z.toArray 35)):=by
  rw[hZ];exact pk_ld (Blk.new _ _ _) zby
 rw[←hZ];have HE:Hid (Below w.heap.size w (w.alloc (.cells Z.toArray 35))):=(Below.refl _ w).alloc lr _;clear hZ hf
 go_enter Tryz.func32, Tryz.ntmps32
 go_wp2;go_ret;exact⟨rfl,HE.out⟩
theorem zv0(l:List UInt8)(hl:l.length=768)(B:Option Addr)(c:Nat)(w:World)(h:Rd w B 768 (u8s l)):
 Calls Tryz.prog 32 #[.agg (u8s l).toArray,.int .i64 0,.slice B 768 c,.int .i64 0] w fun e w'=>e=.returned (.bool true)∧Below w.heap.size w w':=by
 have HR:=qh h;have HPB:=qh (fun W=>ziw l W hl)
 have HEQ:Hid (∀W A c5,Rd W A 768 (u8s l)→Rd W B 768 (u8s l)→Calls Tryz.prog 13 #[.slice A 768 c5,.slice B 768 c] W fun e w'=>e=.returned (.bool true)∧∃q,w'=W.drewN q):=fun W A c5 h1 h2=>by
  have h5:=zk7 A B 768 768 c5 c l l W h1 h2 om om
  simpa using h5
 have hld:(ldAt 35 (.pointer (some ⟨w.heap.size,0,none⟩))).run Tryz.prog (w.alloc (.cells (u8s l).toArray 35))=.ok (.agg (u8s l).toArray) (w.alloc (.cells (u8s l).toArray 35)):=pk_ld (Blk.new _ _ _) hl;have HE:Hid (Below w.heap.size w (w.alloc (.cells (u8s l).toArray 35))):=(Below.refl _ w).alloc lr _;generalize u8s l=L at *;clear hl h
 go_enter Tryz.func32, Tryz.ntmps32
 go_wp2_with (first
  | (go_at_call 14;(refine(HPB.out _).mono ?_);rintro e w1 ⟨A1,c1,rfl,hc1,hown1,hB1⟩;have HE1:=qtr HE hB1;have HO1:=qh (Rd.of_own hown1);clear hc1 hown1 hB1)
  | (go_at_call 13;(refine(HEQ.out _ _ _ (by exact HO1.out) (by exact HR.out.below HE1.out)).mono ?_);rintro e w2 ⟨rfl,q2,rfl⟩))
 go_ret;exact⟨rfl,below_drewN HE1.out _⟩
end
end Go.Proofs.YtpgpaenloaphaaaGreat
