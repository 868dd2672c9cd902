/- Part of the proof. -/
import Derived.Test.YtpgpaenloaphaaaGreatSmx09
set_option maxRecDepth 100000
set_option maxHeartbeats 0
namespace Go.Proofs.YtpgpaenloaphaaaGreat
open Go.RowKit
theorem zcn:(Tryz.prog.info? 5).map (·.size)=some 1:=by kernel_rfl
theorem hd34:(Tryz.prog.info? 32).map (·.size)=some 288:=by kernel_rfl
theorem zc34:Tryz.zeroCells32 = (List.replicate 288 (.int .u8 0)).toArray:=by kernel_rfl
theorem zo0(A:Option Addr)(c:Nat)(l:List UInt8)(w:World)(h:Rd w A 288 (u8s l))(hc:288≤c):
 Calls Tryz.prog 21 #[.slice A 288 c] w fun e w'=>e=.returned (.tuple #[.agg (u8s l).toArray,.int .i64 0])∧Below w.heap.size w w':=by
 have hl:=h.len;obtain⟨b,off,rfl,hb,hcell⟩:=h.2 om;obtain⟨Z,hZ⟩:∃Z:List Value,Tryz.zeroCells32 = Z.toArray:=⟨_,zc34⟩;have hZl:Z.length=288:=by have:=Tryz.zeroCells32_size;rw[hZ]at this;simpa using this
 have HZ:=qh hZ;have HZl:=qh hZl;have Hl:=qh hl;have Hc:=qh hcell;clear hZ hZl hl hcell
 go_enter Tryz.func21, Tryz.ntmps21
 go_wp2_with (refine za7 rfl (.tmp 10) (.tmp 11) 22 rfl 5 Tryz.underlying22 zcn (w.heap.size+1) 0 32 32 rr (some ⟨b,off,none⟩) 288 c rr 32 Z ?c1 (u8s l) ?c2 (zac _) ?c3 ?_)
 case c1=>exact Blk.new' sy HZ.out
 case c2=>exact(h.alloc _).alloc _
 case c3=>rw[HZl.out];omega
 intro w1 hb1 ho1;have hB1:Below w.heap.size w w1:=ho1.below (((Below.refl _ _).alloc lr _).alloc sy _) sy (by simp;omega);have hz1:Blk w1 w.heap.size 32 Z:=ho1.blk ((Blk.new' rfl HZ.out).alloc _) om;have hr1:Rd w1 (some ⟨b,off,none⟩) 288 (u8s l):=h.below hB1;have hlen:∀cs o (xs:List Value) n,o+n≤288→cs.length=288→(splice cs o (xs.take n)).length=288:=fun cs o xs n hn hc=>by rw[length_splice _ _ _ (by simp;omega)];exact hc
 have HL:=qh hlen
 have hcut:∀W k m,Rd W (some ⟨b,off,none⟩) 288 (u8s l)→k+m=288→0<m→Rd W (some ⟨b,off+k,none⟩) m (u8s (l.drop k)):=fun W k m h hkm hm=>by
  have:=h.cut (A':=some ⟨b,off+k,none⟩) (m:=288) (k:=k) lr om (fun _ b' off' e=>by injection e with e;injection e with e1 e2;subst e1;subst e2;rfl);rw[tk (by rw[zaa,Hl.out];exact lr),zbd,show 288-k=m from by omega]at this;exact this
 have HC:=qh hcut;clear ho1 hlen hcut;go_wp2;have n32:¬c=32:=om;have n48:¬c=48:=om;have hl1:32+16≤(splice Z 0 (List.take 32 (u8s l))).length:=by rw[HL.out _ _ _ _ om HZl.out];omega
 go_region_held3 (fun _=>True) (trivial) ((refine zbx rfl (.tmp 14) (.tmp 16) 22 rfl 5 Tryz.underlying22 zcn (w.heap.size+1) 32 16 16 rr (some ⟨b,off+32,none⟩) 256 (c-32) rr 32 _ (by exact hb1) (u8s (l.drop 32)) (HC.out _ 32 256 hr1.drew rfl om) (zac _) hl1 ?_;intro w2 hb2 ho2))
 have hB2:Below w.heap.size w w2:=ho2.below hB1.drew om hB1.size;have hz2:Blk w2 w.heap.size 32 Z:=ho2.blk hz1.drew om;have hr2:Rd w2 (some ⟨b,off,none⟩) 288 (u8s l):=h.below hB2;have hl2:48+240≤(splice (splice Z 0 (List.take 32 (u8s l))) 32 (List.take 16 (u8s (l.drop 32)))).length:=by rw[HL.out _ _ _ _ om (HL.out _ _ _ _ om HZl.out)];omega
 clear ho2 hl1 hB1 hz1 hr1 hb1;go_wp2
 go_region_held3 (fun _=>True) (trivial) ((refine zbx rfl (.tmp 19) (.tmp 21) 22 rfl 5 Tryz.underlying22 zcn (w.heap.size+1) 48 240 240 rr (some ⟨b,off+48,none⟩) 240 (c-48) rr 32 _ (by exact hb2) (u8s (l.drop 48)) (HC.out _ 48 240 hr2.drew rfl om) (zac _) hl2 ?_;intro w3 hb3 ho3))
 have hB3:Below w.heap.size w w3:=ho3.below hB2.drew om hB2.size;have hz3:Blk w3 w.heap.size 32 Z:=ho3.blk hz2.drew om
 have HF:splice (splice (splice Z 0 (List.take 32 (u8s l))) 32 (List.take 16 (u8s (l.drop 32)))) 48 (List.take 240 (u8s (l.drop 48)))=u8s l:=by
  have hZ:=HZl.out;have hl:=Hl.out;rw[splice_splice_splice Z _ _ _ 32 16 (by simp[zaa];omega) (by simp[zaa];omega) (by simp[zaa];omega),zaz,zaz,zaz,←zae,←zae]
  congr 1
  rw[tk (l:=l.drop 48) (by simp;omega),show l.drop 48=(l.drop 32).drop 16 from by simp,List.take_append_drop,List.take_append_drop]
 rw[HF]at hb3;have hi34:(Tryz.prog.info? 32).map (·.size)=some (u8s l).length:=by rw[zaa,Hl.out];exact hd34
 have hz34:0+(u8s l).length≤Z.length:=by rw[zaa,Hl.out,HZl.out];omega
 have H34:=qh hi34;clear ho3 hB2 hz2 hr2 hb2 HF hl2 hi34
 go_wp2_with (first
  | refine wpList_load_mid rfl 32 (.tmp 4) rfl (w.heap.size+1) 0 rr (u8s l) _ hb3.range Tryz.underlying32 rfl H34.out ?_
  | (refine zbv rfl 32 (.tmp 2) (.tmp 23) rfl w.heap.size 0 (u8s l) rr rr 32 Z hz3 H34.out (zac _) hz34 ?_;intro w4 hb4 ho4))
 have hB4:Below w.heap.size w w4:=ho4.below hB3 lr hB3.size;rw[show splice Z 0 (u8s l)=u8s l from by unfold splice;rw[List.drop_eq_nil_of_le (by rw[HZl.out,zaa,Hl.out];omega)];simp]at hb4;exact bodyPost_ret (zak rfl _ _ _ _ rfl hb4 _ Tryz.underlying32 rfl H34.out) rfl ⟨rfl,hB4⟩
theorem zo3(l:List UInt8)(w:World)(hl:l.length=288):
 Calls Tryz.prog 15 #[.agg (u8s l).toArray] w fun e w'=>∃A' c',e=.returned (.slice A' 288 c')∧288≤c'∧w'.ownsRow w.heap.size 5 1 (.slice A' 288 c') 288 (u8s l)∧Below w.heap.size w w':=by
 have Hl:=qh hl;clear hl
 go_enter Tryz.func15, Tryz.ntmps15
 have hq:∀W,Blk W w.heap.size 32 (u8s l)→Blk W (w.heap.size+1) 22 [.slice (some ⟨w.heap.size,0,none⟩) 32 32,.slice (some ⟨w.heap.size,32,none⟩) 16 16,.slice (some ⟨w.heap.size,48,none⟩) 240 240] →
     RdB W (some ⟨w.heap.size+1,0,none⟩) 3 [l.take 32,(l.drop 32).take 16,(l.drop 48).take 240]:=fun W h1 h2 =>
  RdB.of_blk h2 ⟨.of_blk h1 0 32 32 _ (by rw[zaa,Hl.out];omega) om (by rw[zbd,zaz];rfl),.of_blk h1 32 16 16 _ (by rw[zaa,Hl.out];omega) om (by rw[zbd,zaz]),
    .of_blk h1 48 240 240 _ (by rw[zaa,Hl.out];omega) om (by rw[zbd,zaz]),trivial⟩
 have hfl:[l.take 32,(l.drop 32).take 16,(l.drop 48).take 240].flatten=l:=by
  have hl:=Hl.out
  simp
  rw[tk (l:=l.drop 48) (by simp;omega),show l.drop 48=(l.drop 32).drop 16 from by simp,List.take_append_drop,List.take_append_drop]
 have HQ:=qh hq;have HFL:=qh hfl;clear hq hfl
 go_wp2_with fail
 go_region_held3 (fun _=>True) (trivial) ((go_at_call 42;refine(zev _ 3 3 _ _ (HQ.out _ (by exact((Blk.new w _ _).alloc _).drew) (by exact(Blk.new' sy rfl).drew)) om l 288 HFL.out Hl.out om).mono ?_;rintro e w1 ⟨A1,c1,rfl,hc1,hown1,hB1⟩))
 have hB2:Below w.heap.size w w1:=((((Below.refl _ _).alloc lr _).alloc sy _).drew).trans (hB1.mono (by simp;omega));have hown2:=zbj hown1 (base':=w.heap.size) (by simp;omega);clear hown1 hB1;go_wp2;go_ret;exact⟨A1,c1,rfl,hc1,hown2,hB2⟩
section
theorem zc34':Tryz.zeroCells32 = (u8s (List.replicate 288 0)).toArray:=by kernel_rfl
theorem zr2(v:Value):Instr.loadAt 32 v=ldAt 32 v:=rfl
attribute [local go_sem ↓] zr2
end
section
theorem hd37:(Tryz.prog.info? 59).map (·.size)=some 321:=by kernel_rfl
def z37:List Value:=u8s (rep 288 0)++([.int .u64 0]++u8s (rep 32 0))
theorem zc8:z37.length=321:=by simp[z37,zaa,zar]
theorem zc37:Tryz.zeroCells59 = z37.toArray:=by kernel_rfl
theorem zc34r:Tryz.zeroCells32 = (u8s (rep 288 0)).toArray:=by kernel_rfl
theorem zk8:∀v∈z37,v.oneCell'=true:=by
 intro v hv;simp only[z37,List.mem_append,List.mem_singleton]at hv
 rcases hv with hv|hv|hv
 · exact zac _ v hv
 · subst hv;rfl
 · exact zac _ v hv
def blkCells(l:List UInt8):List Value:=u8s ((l.drop 8).take 288)++([.int .u64 (beNat (l.take 8))]++u8s (l.drop 296))
theorem zbh(l:List UInt8)(h:l.length=328):(blkCells l).length=321:=by simp[blkCells,zaa,h]
theorem zcy(l:List UInt8):∀v∈blkCells l,v.oneCell'=true:=by
 intro v hv;simp only[blkCells,List.mem_append,List.mem_singleton]at hv
 rcases hv with hv|hv|hv
 · exact zac _ v hv
 · subst hv;rfl
 · exact zac _ v hv
def places37:Array (Nat × Nat):=#[(0,288),(288,1),(289,32)]
theorem pl37(fields:Array Field)(h:Tryz.prog.underlying 59 = some (.struct fields))(w:World):(fields.mapM (fun f=>do pure (f.offset,←sizeOf f.type)):Sem (Array (Nat × Nat))).run Tryz.prog w=.ok places37 w:=by
 rw[Tryz.underlying59]at h
 injection h with h
 injection h with h
 subst h
 kernel_rfl
theorem zhq(w:World):(Instr.build 59 #[]).run Tryz.prog w=.ok (.agg z37.toArray) w:=by rw[←zc37];kernel_rfl
theorem zio(v:Value):Instr.loadAt 59 v=ldAt 59 v:=rfl
theorem zh3(p v:Value):Instr.storeAt 59 p v=stAt 59 p v:=rfl
theorem zhg(v:Value):Instr.loadAt 32 v=ldAt 32 v:=rfl
theorem zgo(p v:Value):Instr.storeAt 32 p v=stAt 32 p v:=rfl
attribute [local go_sem ↓] zio zh3 zhg zgo
def halfCells(l:List UInt8):List Value:=u8s ((l.drop 8).take 288)++([.int .u64 (beNat (l.take 8))]++u8s (rep 32 0))
theorem zjt(l:List UInt8)(h:l.length=328):(halfCells l).length=321:=by simp[halfCells,zaa,h,zar]
theorem zjs(l:List UInt8):∀v∈halfCells l,v.oneCell'=true:=by
 intro v hv;simp only[halfCells,List.mem_append,List.mem_singleton]at hv
 rcases hv with hv|hv|hv
 · exact zac _ v hv
 · subst hv;rfl
 · exact zac _ v hv
theorem zc5{α:Type}(A B C B':List α)(k:Nat)(hk:A.length=k)(hb:B'.length=B.length):splice (A++(B++C)) k B'=A++(B'++C):=by
 subst hk
 unfold splice
 rw[List.take_left,hb,←as9 A B C,show A.length+B.length=(A++B).length from by simp,List.drop_left]
theorem zdl{α:Type}(A B A':List α)(h:A'.length=A.length):splice (A++B) 0 A'=A'++B:=by
 have:=zc5 ([]:List α) A B A' 0 rfl h
 simpa using this
theorem zer{α:Type}(A B B':List α)(k:Nat)(hk:A.length=k)(h:B'.length=B.length):splice (A++B) k B'=A++B':=by
 have:=zc5 A B [] B' k hk h
 simpa using this
theorem zsm(l:List UInt8)(h:l.length=328)(w:World):(Instr.build 59 #[(0,.agg (u8s ((l.drop 8).take 288)).toArray),(1,.int .u64 (beNat (l.take 8)))]).run Tryz.prog w=.ok (.agg (halfCells l).toArray) w:=by
 have e0:(u8s ((l.drop 8).take 288)).length=288:=by simp[zaa,h]
 refine zb2 Tryz.zeroValue59 Tryz.underlying59 (pl37 _ Tryz.underlying59) ?_ w;rw[zc37]
 show Instr.fill _ _ [(0,_),(1,_)]=_
 rw [zas (cs:=u8s ((l.drop 8).take 288)) rfl (by rw[e0];rfl) (by rw[e0,zc8];omega),z37,zdl _ _ _ (by rw[e0,zaa,zar]),
   zas (cs:=[.int .u64 (beNat (l.take 8))]) rfl rfl (by simp[zaa,zar,h]),zc5 _ [.int .u64 0] _ [.int .u64 (beNat (l.take 8))] 288 e0 sy]
 rfl
theorem zn8(A:Option Addr)(c:Nat)(l:List UInt8)(w:World)(h:Rd w A 328 (u8s l))(hc:328≤c)(h0:beNat (l.take 8)≠0):
 Calls Tryz.prog 52 #[.slice A 328 c] w fun e w'=>e=.returned (.tuple #[.agg (blkCells l).toArray,.int .i64 0])∧Below w.heap.size w w':=by
 have hl:=h.len;obtain⟨b,off,rfl,hb,hcell⟩:=h.2 om;have Hl:=qh hl;clear hl hcell;have hg:=get_2 (some ⟨b,off,none⟩) 328 c 0 8 l (w.alloc (.cells Tryz.zeroCells59 59)) (h.alloc _) om om om om;rw[List.drop_zero]at hg;have HBU:=qh (zsm l Hl.out);obtain⟨X,HX,HXl,HX1⟩:∃X:List Value,Hid (X=halfCells l)∧Hid (X.length=321)∧Hid (∀v∈X,v.oneCell'=true):=⟨_,rfl,zjt l Hl.out,zjs l⟩;have hbu:=HBU.out;rw[←HX.out]at hbu;have HBV:=qh hbu;clear hbu HBU;have hz0:((beNat (l.take 8):Int) == 0)=false:=by simpa using h0
 generalize beNat (l.take 8)=F at hg HBV hz0;have HG:=qh hg;clear hg h0;have hh:((l.drop 8).take 288).length=288:=by rw[List.length_take,List.length_drop,Hl.out];rfl
 have hrd:∀W,Rd W (some ⟨b,off,none⟩) 328 (u8s l)→Rd W (some ⟨b,off+8,none⟩) 288 (u8s ((l.drop 8).take 288)):=fun W h=>by
  have:=h.cut (A':=some ⟨b,off+8,none⟩) (m:=296) (k:=8) om om (fun _ b' off' e=>by injection e with e;injection e with e1 e2;subst e1;subst e2;rfl);rw[zaz,zbd,List.drop_take]at this;exact this
 have hrk:∀W,Rd W (some ⟨b,off,none⟩) 328 (u8s l)→Rd W (some ⟨b,off+296,none⟩) 32 (u8s (l.drop 296)):=fun W h=>by
  have:=h.cut (A':=some ⟨b,off+296,none⟩) (m:=328) (k:=296) om om (fun _ b' off' e=>by injection e with e;injection e with e1 e2;subst e1;subst e2;rfl)
  rwa [tk (by rw[zaa,Hl.out];omega),zbd]at this
 have HR:=qh hrd;have HRK:=qh hrk;have hi34:(Tryz.prog.info? 32).map (·.size)=some (u8s ((l.drop 8).take 288)).length:=by rw[zaa,hh];exact hd34
 have H34:=qh hi34;have hf34:(u8s ((l.drop 8).take 288)).length=(u8s (rep 288 0)).length:=by rw[zaa,hh,zaa,zar]
 have HF34:=qh hf34;have hi37:(Tryz.prog.info? 59).map (·.size)=some X.length:=by rw[HXl.out];exact hd37
 have H37:=qh hi37;have hf37:X.length=z37.length:=by rw[HXl.out,zc8]
 have HF37:=qh hf37;have n8:¬c=8:=om;have n296:¬c=296:=om;clear hh hrd hrk hi34 hf34 hi37 hf37
 go_enter Tryz.func52, Tryz.ntmps52
 go_wp2_with (first
  | (go_at_call 74;refine HG.out.mono ?_;rintro e w0 ⟨rfl,rfl⟩)
  | (go_at_call 21;refine(zo0 _ (c-8) ((l.drop 8).take 288) _ (HR.out _ (h.alloc _)) om).mono ?_;rintro e w1 ⟨rfl,hB1⟩)
  | (refine zab rfl 32 (.tmp 6) (.tmp 28) rfl w1.heap.size (u8s ((l.drop 8).take 288)) rr rr 32 (u8s (rep 288 0)) (Blk.new' rfl zc34r) H34.out (zac _) HF34.out ?_;intro w2 hb2 ho2;have hs1:w.heap.size+1≤w1.heap.size:=by have:=hB1.size;simp at this;omega
     have hB2:Below (w.heap.size+1) (w.alloc (.cells Tryz.zeroCells59 59)) w2:=ho2.below ((hB1.mono sy).alloc hs1 _) hs1 (by simp;omega);have hs2:w.heap.size+1≤w2.heap.size:=by have:=hB2.size;simp at this;omega
     clear ho2 hB1 hs1)
  | (refine wpList_load_mid rfl 32 (.tmp 6) rfl _ 0 rr (u8s ((l.drop 8).take 288)) _ hb2.range Tryz.underlying32 rfl H34.out ?_)
  | (refine zai rfl 59 [(0,.tmp 34),(1,.tmp 35)] rfl _ rr (.agg X.toArray) (HBV.out _) ?_)
  | (refine zab rfl 59 (.tmp 7) (.tmp 36) rfl w2.heap.size X rr rr 59 z37 (Blk.new' rfl zc37) H37.out HX1.out HF37.out ?_;intro w3 hb3 ho3;have hB3:Below (w.heap.size+1) (w.alloc (.cells Tryz.zeroCells59 59)) w3:=ho3.below (hB2.alloc hs2 _) hs2 (by simp;omega);have hs3:w.heap.size+1≤w3.heap.size:=by have:=hB3.size;simp at this;omega
     clear ho3 hB2 hb2))
 have hBw3:Below w.heap.size w w3:=((Below.refl _ _).alloc lr _).trans (hB3.mono om);have HR3:=qh (HRK.out _ ((h.below hBw3).drew));have hfx:289+32≤X.length:=by rw[HXl.out];omega
 have hz3:Blk w3 w.heap.size 59 z37:=(Blk.new' (g:=w.heap.size) rfl zc37).below hB3 om;have hs4:w.heap.size<w2.heap.size:=om;clear hBw3
 go_frame
 go_region_held3 (fun _=>True) (trivial) ((refine zbx rfl (.tmp 38) (.tmp 40) 22 rfl 5 Tryz.underlying22 zcn w2.heap.size 289 32 32 rr (some ⟨b,off+296,none⟩) 32 (c-296) rr 59 X (by exact hb3) (u8s (l.drop 296)) HR3.out (zac _) hfx ?_;intro w4 hb4 ho4))
 have hB4:Below (w.heap.size+1) (w.alloc (.cells Tryz.zeroCells59 59)) w4:=ho4.below hB3.drew hs2 hs3;have hz4:Blk w4 w.heap.size 59 z37:=ho4.blk hz3.drew om
 have HF:splice X 289 (List.take 32 (u8s (l.drop 296)))=blkCells l:=by
  have hl:=Hl.out;rw[HX.out,tk (by rw[zaa,List.length_drop,hl];omega),halfCells,←as9,zer _ _ _ _ (by simp[zaa,hl]) (by simp[zaa,hl,zar]),blkCells,as9]
 rw[HF]at hb4;have HI:Hid ((Tryz.prog.info? 59).map (·.size)=some (blkCells l).length):=by show _=_;rw[zbh l Hl.out];exact hd37
 have HFZ:Hid ((blkCells l).length=z37.length):=by show _=_;rw[zbh l Hl.out,zc8]
 clear ho4 hB3 hb3 hz3 HF HR3 hfx
 go_wp2_with (first
  | refine wpList_load_mid rfl 59 (.tmp 7) rfl w2.heap.size 0 rr (blkCells l) _ hb4.range Tryz.underlying59 rfl HI.out ?_
  | (refine zab rfl 59 (.tmp 2) (.tmp 42) rfl w.heap.size (blkCells l) rr rr 59 z37 hz4 HI.out (zcy l) HFZ.out ?_;intro w5 hb5 ho5))
 have hB5:Below w.heap.size w w5:=ho5.below (((Below.refl _ _).alloc lr _).trans (hB4.mono om)) lr (by have:=hB4.size;simp at this;omega);exact bodyPost_ret (zak rfl _ _ _ _ rfl hb5 _ Tryz.underlying59 rfl HI.out) rfl ⟨rfl,hB5⟩
end
section
attribute [local go_sem ↓] zio zh3 zhg zgo
theorem zk7(a b:List UInt8):beNat (a++b)=beNat a*256^b.length+beNat b:=by
 rw[←zix]
 simp[beNat]
theorem zpc(l:List UInt8)(k:Nat)(x:UInt8)(hk:k<8)(hl:8≤l.length)(hx:l[k]? = some x):(beNat (l.take 8):Int)/2^(8*(7-k))%256=(x.toNat:Int):=by
 have e:l.take 8=l.take (k+1)++(l.take 8).drop (k+1):=by
  have:=(List.take_append_drop (k+1) (l.take 8)).symm
  rwa [List.take_take,Nat.min_eq_left om]at this
 have hlen:((l.take 8).drop (k+1)).length=7-k:=by simp;omega
 have h1:=zk7 (l.take (k+1)) ((l.take 8).drop (k+1));rw[←e,hlen]at h1;have h2:=zj6 ((l.take 8).drop (k+1));rw[hlen]at h2;have h3:beNat (l.take (k+1))=beNat (l.take k)*256+x.toNat:=by rw[List.take_add_one,hx];exact zft _ _
 have h4:(2:Nat)^(8*(7-k))=256^(7-k):=by rw[Nat.pow_mul]
 have h5:beNat (l.take 8)/2^(8*(7-k))=beNat (l.take k)*256+x.toNat:=by
  rw[h1,h4,h3,Nat.mul_comm,Nat.mul_add_div (Nat.pos_of_ne_zero sy),Nat.div_eq_of_lt h2,Nat.add_zero]
 have h6:((beNat (l.take 8)/2^(8*(7-k))%256:Nat):Int)=(x.toNat:Int):=by
  rw[h5];have:=x.toNat_lt;omega
 simpa using h6
theorem zic(l:List UInt8)(w:World)(hl:l.length=328):
 Calls Tryz.prog 28 #[.agg (blkCells l).toArray] w fun e w'=>∃A' c',e=.returned (.slice A' 328 c')∧328≤c'∧w'.ownsRow w.heap.size 5 1 (.slice A' 328 c') 328 (u8s l)∧Below w.heap.size w w':=by
 have Hl:=qh hl;clear hl
 go_enter Tryz.func28, Tryz.ntmps28
 have hat:(blkCells l)[288]? = some (.int .u64 (beNat (l.take 8))):=by
  unfold blkCells
  rw[ar9 (by simp[zaa];omega)]
  simp[zaa,Hl.out]
 have HAT:=qh hat;clear hat;generalize hF:beNat (l.take 8)=F at HAT;have HF:=qh hF;clear hF
 go_wp2_with fail
 go_loopw [5] (fun i wr=>∃k:Nat,k≤8∧i=.int .i64 k∧Blk wr (w.heap.size+1) 132 (u8s (l.take k++rep (8-k) 0))∧Blk wr w.heap.size 59 (blkCells l)∧Below w.heap.size w wr) (fun i _=>8-(intOf i).toNat)
 case atStart=>exact⟨0,by omega,rfl,Blk.new' sy rfl,(Blk.new w _ _).alloc _,((Below.refl _ _).alloc lr _).alloc sy _⟩
 case round =>
  obtain⟨k,hk,rfl,hb1,hb0,hBr⟩:=hrel
  by_cases hlt:k<8
  · have hc0:wr.cell? ⟨w.heap.size,288,none⟩=some (.int .u64 F):=by rw[hb0.cell];exact HAT.out
    have hc1:∃u,wr.cell? ⟨w.heap.size+1,k,none⟩=some u:=by
     rw[hb1.cell];exact⟨_,ge9 (by simp[zaa,zar,Hl.out];omega)⟩
    obtain⟨u,hc1⟩:=hc1;have hf1:wr.frozen? ⟨w.heap.size+1,k,none⟩=false:=hb1.frozen k;have i0:(0:Int)≤(k:Int):=om;have i1:(k:Int)<8:=om;have hx:l[k]? = some (l[k]'(by rw[Hl.out];omega)):=ge9 _;generalize l[k]'(by rw[Hl.out];omega)=x at hx;have hby:=zpc l k x hlt (by rw[Hl.out];omega) hx;rw[HF.out]at hby;have HBY:=qh hby;have HX:=qh hx;clear hx hby;go_wp2
    go_roundw
    case rel =>
     rw[HBY.out];refine⟨k+1,by omega,by go_num,?_,hb0.far sy _,hBr.setCell sy _⟩;have:=hb1.set_ k (.int .u8 x.toNat)
     rwa [zbc,zgu l 0 x k 8 hlt HX.out]at this
    case measure=>simp[intOf];omega
  · have:k=8:=om
    subst this;clear hlt hk;have hb2:Blk wr (w.heap.size+1) 132 (u8s (l.take 8)):=by have:=hb1;rwa [Nat.sub_self,show l.take 8++rep 0 0=l.take 8 from by simp[rep]]at this
    have hh:((l.drop 8).take 288).length=288:=by rw[List.length_take,List.length_drop,Hl.out];rfl
    have HH:=qh hh;obtain⟨cs,Hcs⟩:∃cs,Hid (cs=u8s ((l.drop 8).take 288)):=⟨_,rfl⟩
    have hld:∀W,Blk W w.heap.size 59 (blkCells l)→(ldAt 32 (.pointer (some ⟨w.heap.size,0,none⟩))).run Tryz.prog W=.ok (.agg cs.toArray) W:=fun W hb =>
     zal hb _ 0 cs (by rw[Hcs.out,List.drop_zero,blkCells,List.take_left]) _ Tryz.underlying32 rfl (by rw[Hcs.out,zaa,HH.out];exact hd34)
    have hfl:[l.take 8,(l.drop 8).take 288,l.drop 296].flatten=l:=by
     simp only[List.flatten_cons,List.flatten_nil,List.append_nil];rw[show l.drop 296=(l.drop 8).drop 288 from by simp,List.take_append_drop,List.take_append_drop]
    have HFL:=qh hfl
    have hq:∀(w1:World) A1 c1,288≤c1→Blk w1 w.heap.size 59 (blkCells l)→Blk w1 (w.heap.size+1) 132 (u8s (l.take 8))→Rd w1 A1 288 (u8s ((l.drop 8).take 288)) →
        RdB (w1.alloc (.cells #[.slice (some ⟨w.heap.size+1,0,none⟩) 8 8,.slice A1 288 c1,.slice (some ⟨w.heap.size,289,none⟩) 32 32] 22)) (some ⟨w1.heap.size,0,none⟩) 3 [l.take 8,(l.drop 8).take 288,l.drop 296]:=fun w1 A1 c1 hc1 hk1 hk2 hr1 =>
     RdB.of_blk (Blk.new w1 22 [.slice (some ⟨w.heap.size+1,0,none⟩) 8 8,.slice A1 288 c1,.slice (some ⟨w.heap.size,289,none⟩) 32 32])
       ⟨.of_blk (hk2.alloc _) 0 8 8 _ (by rw[zaa,List.length_take,Hl.out];omega) om (by rw[List.drop_zero,tk (by rw[zaa,List.length_take];omega)]),.of_rd (hr1.alloc _) hc1,
        .of_blk (hk1.alloc _) 289 32 32 _ (by rw[zbh l Hl.out];omega) om (by
         rw[blkCells,←as9,List.drop_append_of_le_length (by simp[zaa,Hl.out]),List.drop_eq_nil_of_le (by simp[zaa,Hl.out]),List.nil_append,tk (by simp[zaa,Hl.out])]),trivial⟩
    have HQ:=qh hq;clear hfl hq hh hb1
    go_wp2_with fail
    go_region_held3 (fun w'=>Blk w' w.heap.size 59 (blkCells l)∧Blk w' (w.heap.size+1) 132 (u8s (l.take 8)))
      (first|exact⟨hb0.drew,hb2.drew⟩|exact⟨hk1,hk2⟩|exact⟨hk1.alloc _,hk2.alloc _⟩|exact⟨hk3,hk4⟩) (first
      | (go_at_call 15;rw[Hcs.out];refine(zo3 ((l.drop 8).take 288) _ HH.out).mono ?_;rintro e w1 ⟨A1,c1,rfl,hc1,hown1,hB1⟩;have hk1:Blk w1 w.heap.size 59 (blkCells l):=hb0.drew.below hB1 hb0.lt;have hk2:Blk w1 (w.heap.size+1) 132 (u8s (l.take 8)):=hb2.drew.below hB1 hb2.lt)
      | (go_at_call 42;refine(zev _ 3 3 _ _ (HQ.out w1 A1 c1 hc1 hk1 hk2 (Rd.of_own hown1)) om l 328 HFL.out Hl.out om).mono ?_;rintro e w2 ⟨A2,c2,rfl,hc2,hown2,hB2⟩;have hs1:w.heap.size<w1.heap.size:=hk1.lt;have hs2:w.heap.size+1<w1.heap.size:=hk2.lt;have hk3:Blk w2 w.heap.size 59 (blkCells l):=(hk1.alloc _).below hB2 (by simp;omega);have hk4:Blk w2 (w.heap.size+1) 132 (u8s (l.take 8)):=(hk2.alloc _).below hB2 (by simp;omega)))
    have hsr:=hBr.size;have hB3:Below w.heap.size w w2:=((hBr.drew).trans (hB1.mono hsr)).trans ((((Below.refl _ _).alloc om _)).trans (hB2.mono (by simp;omega)));have hown3:=zbj hown2 (base':=w.heap.size) (by simp;omega);clear hown2 hB2 hown1 hB1 hk1 hk2 hk3 hk4 hld HQ;go_wp2;go_ret;exact⟨A2,c2,rfl,hc2,hown3,hB3⟩
end
section
attribute [local go_sem ↓] zio zh3 zhg zgo
def fixed16:List UInt8:=((((((rep 328 (0:UInt8)).set 7 9).set 8 1).set 40 2).set 56 3).set 296 4)
theorem zdg:fixed16.length=328:=by unfold fixed16;simp only[List.length_set];exact zar _ _
theorem Blk.all{w:World}{g:Nat}{t:TypeId}{l:List UInt8}{n:Nat}(h:Blk w g t (u8s l))(hn:l.length=n):Rd w (some ⟨g,0,none⟩) n (u8s l):=by
 have:=h.rd 0 n (by rw[zaa,hn];omega)
 rwa [List.drop_zero,tk (by rw[zaa,hn];omega)]at this
theorem awake16(w:World):Calls Tryz.prog 23 #[] w fun e w'=>e=.returned (.bool true)∧Below w.heap.size w w':=by
 go_enter Tryz.func23, Tryz.ntmps23
 go_wp2_with (at_make;refine zao rfl _ _ 22 rfl 5 (.int .u8 0) 1 Tryz.underlying22 iU8 rfl _ _ _ _ rfl rfl 328 328 rfl rfl om om om ?_)
 intro w1 hb1 hg1 hs1;have hB1:Below w.heap.size w w1:=zaf hg1;have hf:∀i,w1.frozen? ⟨w.heap.size,i,none⟩=false:=fun i=>hb1.frozen i
 have hcell:∀i,i<328→w1.cell? ⟨w.heap.size,i,none⟩=some (.int .u8 0):=fun i hi=>by rw[hb1.cell,zqk hi]
 have c0:=hcell 7 om;have c1:=hcell 8 om;have c2:=hcell 40 om;have c3:=hcell 56 om;have c4:=hcell 296 om;clear hcell hg1;have HS:=qh hs1;clear hs1
 have hbf:Blk (((((w1.setCell ⟨w.heap.size,7,none⟩ (.int .u8 9)).setCell ⟨w.heap.size,8,none⟩ (.int .u8 1)).setCell ⟨w.heap.size,40,none⟩ (.int .u8 2)).setCell ⟨w.heap.size,56,none⟩ (.int .u8 3)).setCell ⟨w.heap.size,296,none⟩ (.int .u8 4)) w.heap.size 5 (u8s fixed16):=by
  have h5:=((((hb1.set_ 7 (.int .u8 9)).set_ 8 (.int .u8 1)).set_ 40 (.int .u8 2)).set_ 56 (.int .u8 3)).set_ 296 (.int .u8 4);have e0:rep 328 (Value.int .u8 0)=u8s (rep 328 0):=zwi 328 0;rw[e0]at h5
  rw [show(Value.int .u8 9)=.int .u8 ((9:UInt8).toNat) from rfl,zbc,show(Value.int .u8 1)=.int .u8 ((1:UInt8).toNat) from rfl,zbc,show(Value.int .u8 2)=.int .u8 ((2:UInt8).toNat) from rfl,zbc,
    show(Value.int .u8 3)=.int .u8 ((3:UInt8).toNat) from rfl,zbc,show(Value.int .u8 4)=.int .u8 ((4:UInt8).toNat) from rfl,zbc]at h5
  exact h5
 have hBf:Below w.heap.size w (((((w1.setCell ⟨w.heap.size,7,none⟩ (.int .u8 9)).setCell ⟨w.heap.size,8,none⟩ (.int .u8 1)).setCell ⟨w.heap.size,40,none⟩ (.int .u8 2)).setCell ⟨w.heap.size,56,none⟩ (.int .u8 3)).setCell ⟨w.heap.size,296,none⟩ (.int .u8 4)) :=
  ((((hB1.setCell lr _).setCell lr _).setCell lr _).setCell lr _).setCell lr _
 clear hb1 hB1;have HI:Hid ((Tryz.prog.info? 59).map (·.size)=some (blkCells fixed16).length):=by show _=_;rw[zbh _ zdg];exact hd37
 have HFZ:Hid ((blkCells fixed16).length=z37.length):=by show _=_;rw[zbh _ zdg,zc8]
 have hx0:(blkCells fixed16)[288]? = some (.int .u64 9):=by kernel_rfl
 have hx1:(blkCells fixed16)[0]? = some (.int .u8 1):=by kernel_rfl
 have hx2:(blkCells fixed16)[32]? = some (.int .u8 2):=by kernel_rfl
 have hx3:(blkCells fixed16)[48]? = some (.int .u8 3):=by kernel_rfl
 have hx4:(blkCells fixed16)[289]? = some (.int .u8 4):=by kernel_rfl
 have HX0:=qh hx0;have HX1:=qh hx1;have HX2:=qh hx2;have HX3:=qh hx3;have HX4:=qh hx4;clear hx0 hx1 hx2 hx3 hx4
 go_wp2_with (first
  | (go_at_call 52;refine(zn8 _ 328 fixed16 _ (hbf.all zdg) om (by decide +kernel)).mono ?_;rintro e w2 ⟨rfl,hB2⟩)
  | (refine zab rfl 59 (.tmp 2) (.tmp 18) rfl w2.heap.size (blkCells fixed16) rr rr 59 z37 (Blk.new' rfl zc37) HI.out (zcy _) HFZ.out ?_;intro w3 hb3 ho3;have hBw2:Below w.heap.size w w2:=hBf.trans (hB2.mono hBf.size);have hlt:w.heap.size<w2.heap.size:=Nat.lt_of_lt_of_le hbf.lt hB2.size;have hBw3:Below w.heap.size w w3:=ho3.below (hBw2.alloc hBw2.size _) hBw2.size (by simp;omega);have hk3:Blk w3 w.heap.size 5 (u8s fixed16):=ho3.blk ((hbf.below hB2 hbf.lt).alloc _) om;have d0:w3.cell? ⟨w2.heap.size,288,none⟩=some (.int .u64 9):=by rw[hb3.cell];exact HX0.out
     have d1:w3.cell? ⟨w2.heap.size,0,none⟩=some (.int .u8 1):=by rw[hb3.cell];exact HX1.out
     have d2:w3.cell? ⟨w2.heap.size,32,none⟩=some (.int .u8 2):=by rw[hb3.cell];exact HX2.out
     have d3:w3.cell? ⟨w2.heap.size,48,none⟩=some (.int .u8 3):=by rw[hb3.cell];exact HX3.out
     have d4:w3.cell? ⟨w2.heap.size,289,none⟩=some (.int .u8 4):=by rw[hb3.cell];exact HX4.out
     have hld:(ldAt 59 (.pointer (some ⟨w2.heap.size,0,none⟩))).run Tryz.prog w3=.ok (.agg (blkCells fixed16).toArray) w3:=zal hb3 _ 0 (blkCells fixed16) (by rw[List.drop_zero,tk lr]) _ Tryz.underlying59 rfl HI.out
     clear ho3 hB2 hbf hBf hBw2 c0 c1 c2 c3 c4 hf)
  | (go_at_call 28;refine(zic fixed16 _ zdg).mono ?_;rintro e w4 ⟨A4,c4,rfl,hc4,hown4,hB4⟩;have hk4:=hk3.below hB4 hk3.lt;clear d0 d1 d2 d3 d4 hld)
  | (go_at_call 13;refine(zk4 A4 (some ⟨w.heap.size,0,none⟩) 328 328 c4 328 fixed16 fixed16 _ (Rd.of_own hown4) (hk4.all zdg) om om).mono ?_;rintro e w5 ⟨rfl,q5,rfl⟩))
 go_ret;refine⟨by simp,?_⟩;have h4:Below w.heap.size w w4:=hBw3.trans (hB4.mono hBw3.size);exact below_drewN h4 _
end
def i64(n:Int):Value:=.int .i64 n
def i64s(l:List Int):List Value:=l.map i64
theorem zew(l:List Int):(i64s l).length=l.length:=by simp[i64s]
theorem Rd.i64{w:World}{A:Option Addr}{n:Nat}{l:List Int}(h:Rd w A n (i64s l)){k:Nat}(hk:k<n):
 ∃b off x,A=some ⟨b,off,none⟩∧b<w.heap.size∧Hid (l[k]? = some x)∧w.cell? ⟨b,off+k,none⟩=some (.int .i64 x):=by
 obtain⟨b,off,e,hb,hc⟩:=h.2 om;have hl:k<l.length:=by have:=h.1;rw[zew]at this;omega
 exact⟨b,off,l[k],e,hb,ge9 hl,hc k _ (by simp[i64s,ge9 hl,Proofs.YtpgpaenloaphaaaGreat.i64])⟩
def least1(m e:Int):Int:=if e≠0∧(m=0∨e<m) then e else m
def leastOf(l:List Int):Int:=l.foldl least1 0
theorem zfy(l:List Int)(k:Nat)(x:Int)(h:l[k]? = some x):leastOf (l.take (k+1))=least1 (leastOf (l.take k)) x:=by
 rw[List.take_add_one,h];simp[leastOf]
theorem zky(A:Option Addr)(n c:Nat)(l:List Int)(w:World)(h:Rd w A n (i64s l))(hn:n≤140737488355328):
 Calls Tryz.prog 41 #[.slice A n c] w fun e w'=>e=.returned (.int .i64 (leastOf l))∧w=w':=by
 have hl:l.length=n:=by rw[←zew];exact h.1
 have HL:=qh hl;clear hl
 go_enter Tryz.func41, Tryz.ntmps41
 go_wp2
 go_loop [3,8] (fun m i=>∃k:Nat,k≤n∧i=.int .i64 k∧m=.int .i64 (leastOf (l.take k))) (fun _ i=>n-(intOf i).toNat)
 case atStart=>exact⟨0,Nat.zero_le _,rfl,rfl⟩
 case round =>
  obtain⟨k,hk,rfl,rfl⟩:=hrel
  by_cases hlt:k<n
  · obtain⟨b,off,x,rfl,hb,HX,hc⟩:=h.i64 hlt
    have hs:=zfy l k x HX.out;generalize leastOf (l.take k)=m at *;have HS:=qh hs;clear hs;go_wp2
    all_goals
      go_round
      case rel=>exact⟨k+1,by omega,by go_num,by rw[HS.out];first|(simp_all [least1];done)| (simp_all [least1];omega)⟩
      case measure=>simp[intOf];omega
  · have:k=n:=om
    subst this;go_wp2;go_ret;rw[tk (by rw[HL.out];omega)];exact⟨rfl,rfl⟩
theorem zoi(A:Option Addr)(n c:Nat)(l:List Int)(w:World)(h:Rd w A n (i64s l))(hn:n≤140737488355328):
 Calls Tryz.prog 59 #[.slice A n c] w fun e w'=>e=.returned (.int .i64 (leastOf l))∧w=w':=by
 have hl:l.length=n:=by rw[←zew];exact h.1
 have HL:=qh hl;clear hl
 go_enter Tryz.func59, Tryz.ntmps59
 go_wp2
 go_loop [3,4] (fun m i=>∃k:Nat,k≤n∧i=.int .i64 k∧m=.int .i64 (leastOf (l.take k))) (fun _ i=>n-(intOf i).toNat)
 case atStart=>exact⟨0,Nat.zero_le _,rfl,rfl⟩
 case round =>
  obtain⟨k,hk,rfl,rfl⟩:=hrel
  by_cases hlt:k<n
  · obtain⟨b,off,x,rfl,hb,HX,hc⟩:=h.i64 hlt
    have hs:=zfy l k x HX.out;generalize leastOf (l.take k)=m at *;have HS:=qh hs;clear hs;go_wp2
    all_goals
      go_round
      case rel=>exact⟨k+1,by omega,by go_num,by rw[HS.out];first|(simp_all [least1];done)| (simp_all [least1];omega)⟩
      case measure=>simp[intOf];omega
  · have:k=n:=om
    subst this;go_wp2;go_ret;rw[tk (by rw[HL.out];omega)];exact⟨rfl,rfl⟩
end Go.Proofs.YtpgpaenloaphaaaGreat
