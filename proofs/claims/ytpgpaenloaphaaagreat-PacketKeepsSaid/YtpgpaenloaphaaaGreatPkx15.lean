/- Part of the proof. -/
import Derived.Test.YtpgpaenloaphaaaGreatPkx09
set_option maxRecDepth 100000
set_option maxHeartbeats 0
namespace Go.Proofs.YtpgpaenloaphaaaGreat
open Go.RowKit
theorem zf9:(Tryz.prog.info? 5).map (·.size)=some 1:=by kernel_rfl
theorem hd34:(Tryz.prog.info? 32).map (·.size)=some 288:=by kernel_rfl
theorem zc34:Tryz.zeroCells32 = (List.replicate 288 (.int .u8 0)).toArray:=by kernel_rfl
theorem zoz(A:Option Addr)(c:Nat)(l:List UInt8)(w:World)(h:Rd w A 288 (u8s l))(hc:288≤c):
 Calls Tryz.prog 21 #[.slice A 288 c] w fun e w'=>e=.returned (.tuple #[.agg (u8s l).toArray,.int .i64 0])∧Below w.heap.size w w':=by
 have hl:=h.len;obtain⟨b,off,rfl,hb,hcell⟩:=h.2 om;obtain⟨Z,hZ⟩:∃Z:List Value,Tryz.zeroCells32 = Z.toArray:=⟨_,zc34⟩;have hZl:Z.length=288:=by have:=Tryz.zeroCells32_size;rw[hZ]at this;simpa using this
 have HZ:=qh hZ;have HZl:=qh hZl;have Hl:=qh hl;have Hc:=qh hcell;clear hZ hZl hl hcell
 go_enter Tryz.func21, Tryz.ntmps21
 go_wp2_with (refine za6 rfl (.tmp 10) (.tmp 11) 22 rfl 5 Tryz.underlying22 zf9 (w.heap.size+1) 0 32 32 rr (some ⟨b,off,none⟩) 288 c rr 32 Z ?c1 (u8s l) ?c2 (zac _) ?c3 ?_)
 case c1=>exact Blk.new' sy HZ.out
 case c2=>exact(h.alloc _).alloc _
 case c3=>rw[HZl.out];omega
 intro w1 hb1 ho1;have hB1:Below w.heap.size w w1:=ho1.below (((Below.refl _ _).alloc lr _).alloc sy _) sy (by simp;omega);have hz1:Blk w1 w.heap.size 32 Z:=ho1.blk ((Blk.new' rfl HZ.out).alloc _) om;have hr1:Rd w1 (some ⟨b,off,none⟩) 288 (u8s l):=h.below hB1;have hlen:∀cs o (xs:List Value) n,o+n≤288→cs.length=288→(splice cs o (xs.take n)).length=288:=fun cs o xs n hn hc=>by rw[length_splice _ _ _ (by simp;omega)];exact hc
 have HL:=qh hlen
 have hcut:∀W k m,Rd W (some ⟨b,off,none⟩) 288 (u8s l)→k+m=288→0<m→Rd W (some ⟨b,off+k,none⟩) m (u8s (l.drop k)):=fun W k m h hkm hm=>by
  have:=h.cut (A':=some ⟨b,off+k,none⟩) (m:=288) (k:=k) lr om (fun _ b' off' e=>by injection e with e;injection e with e1 e2;subst e1;subst e2;rfl);rw[tk (by rw[zaa,Hl.out];exact lr),zbd,show 288-k=m from by omega]at this;exact this
 have HC:=qh hcut;clear ho1 hlen hcut;go_wp2;have n32:¬c=32:=om;have n48:¬c=48:=om;have hl1:32+16≤(splice Z 0 (List.take 32 (u8s l))).length:=by rw[HL.out _ _ _ _ om HZl.out];omega
 go_region_held3 (fun _=>True) (trivial) ((refine zdo rfl (.tmp 14) (.tmp 16) 22 rfl 5 Tryz.underlying22 zf9 (w.heap.size+1) 32 16 16 rr (some ⟨b,off+32,none⟩) 256 (c-32) rr 32 _ (by exact hb1) (u8s (l.drop 32)) (HC.out _ 32 256 hr1.drew rfl om) (zac _) hl1 ?_;intro w2 hb2 ho2))
 have hB2:Below w.heap.size w w2:=ho2.below hB1.drew om hB1.size;have hz2:Blk w2 w.heap.size 32 Z:=ho2.blk hz1.drew om;have hr2:Rd w2 (some ⟨b,off,none⟩) 288 (u8s l):=h.below hB2;have hl2:48+240≤(splice (splice Z 0 (List.take 32 (u8s l))) 32 (List.take 16 (u8s (l.drop 32)))).length:=by rw[HL.out _ _ _ _ om (HL.out _ _ _ _ om HZl.out)];omega
 clear ho2 hl1 hB1 hz1 hr1 hb1;go_wp2
 go_region_held3 (fun _=>True) (trivial) ((refine zdo rfl (.tmp 19) (.tmp 21) 22 rfl 5 Tryz.underlying22 zf9 (w.heap.size+1) 48 240 240 rr (some ⟨b,off+48,none⟩) 240 (c-48) rr 32 _ (by exact hb2) (u8s (l.drop 48)) (HC.out _ 48 240 hr2.drew rfl om) (zac _) hl2 ?_;intro w3 hb3 ho3))
 have hB3:Below w.heap.size w w3:=ho3.below hB2.drew om hB2.size;have hz3:Blk w3 w.heap.size 32 Z:=ho3.blk hz2.drew om
 have HF:splice (splice (splice Z 0 (List.take 32 (u8s l))) 32 (List.take 16 (u8s (l.drop 32)))) 48 (List.take 240 (u8s (l.drop 48)))=u8s l:=by
  have hZ:=HZl.out;have hl:=Hl.out;rw[splice_splice_splice Z _ _ _ 32 16 (by simp[zaa];omega) (by simp[zaa];omega) (by simp[zaa];omega),zav,zav,zav,←zad,←zad]
  congr 1
  rw[tk (l:=l.drop 48) (by simp;omega),show l.drop 48=(l.drop 32).drop 16 from by simp,List.take_append_drop,List.take_append_drop]
 rw[HF]at hb3;have hi34:(Tryz.prog.info? 32).map (·.size)=some (u8s l).length:=by rw[zaa,Hl.out];exact hd34
 have hz34:0+(u8s l).length≤Z.length:=by rw[zaa,Hl.out,HZl.out];omega
 have H34:=qh hi34;clear ho3 hB2 hz2 hr2 hb2 HF hl2 hi34
 go_wp2_with (first
  | refine wpList_load_mid rfl 32 (.tmp 4) rfl (w.heap.size+1) 0 rr (u8s l) _ hb3.range Tryz.underlying32 rfl H34.out ?_
  | (refine zbf rfl 32 (.tmp 2) (.tmp 23) rfl w.heap.size 0 (u8s l) rr rr 32 Z hz3 H34.out (zac _) hz34 ?_;intro w4 hb4 ho4))
 have hB4:Below w.heap.size w w4:=ho4.below hB3 lr hB3.size;rw[show splice Z 0 (u8s l)=u8s l from by unfold splice;rw[List.drop_eq_nil_of_le (by rw[HZl.out,zaa,Hl.out];omega)];simp]at hb4;exact bodyPost_ret (zaj rfl _ _ _ _ rfl hb4 _ Tryz.underlying32 rfl H34.out) rfl ⟨rfl,hB4⟩
theorem ziz(l:List UInt8)(w:World)(hl:l.length=288):
 Calls Tryz.prog 15 #[.agg (u8s l).toArray] w fun e w'=>∃A' c',e=.returned (.slice A' 288 c')∧288≤c'∧w'.ownsRow w.heap.size 5 1 (.slice A' 288 c') 288 (u8s l)∧Below w.heap.size w w':=by
 have Hl:=qh hl;clear hl
 go_enter Tryz.func15, Tryz.ntmps15
 have hq:∀W,Blk W w.heap.size 32 (u8s l)→Blk W (w.heap.size+1) 22 [.slice (some ⟨w.heap.size,0,none⟩) 32 32,.slice (some ⟨w.heap.size,32,none⟩) 16 16,.slice (some ⟨w.heap.size,48,none⟩) 240 240] →
     RdB W (some ⟨w.heap.size+1,0,none⟩) 3 [l.take 32,(l.drop 32).take 16,(l.drop 48).take 240]:=fun W h1 h2 =>
  RdB.of_blk h2 ⟨.of_blk h1 0 32 32 _ (by rw[zaa,Hl.out];omega) om (by rw[zbd,zav];rfl),.of_blk h1 32 16 16 _ (by rw[zaa,Hl.out];omega) om (by rw[zbd,zav]),
    .of_blk h1 48 240 240 _ (by rw[zaa,Hl.out];omega) om (by rw[zbd,zav]),trivial⟩
 have hfl:[l.take 32,(l.drop 32).take 16,(l.drop 48).take 240].flatten=l:=by
  have hl:=Hl.out
  simp
  rw[tk (l:=l.drop 48) (by simp;omega),show l.drop 48=(l.drop 32).drop 16 from by simp,List.take_append_drop,List.take_append_drop]
 have HQ:=qh hq;have HFL:=qh hfl;clear hq hfl
 go_wp2_with fail
 go_region_held3 (fun _=>True) (trivial) ((go_at_call 42;refine(zd2 _ 3 3 _ _ (HQ.out _ (by exact((Blk.new w _ _).alloc _).drew) (by exact(Blk.new' sy rfl).drew)) om l 288 HFL.out Hl.out om).mono ?_;rintro e w1 ⟨A1,c1,rfl,hc1,hown1,hB1⟩))
 have hB2:Below w.heap.size w w1:=((((Below.refl _ _).alloc lr _).alloc sy _).drew).trans (hB1.mono (by simp;omega));have hown2:=za7 hown1 (base':=w.heap.size) (by simp;omega);clear hown1 hB1;go_wp2;go_ret;exact⟨A1,c1,rfl,hc1,hown2,hB2⟩
section
theorem hd76:(Tryz.prog.info? 35).map (·.size)=some 768:=by kernel_rfl
theorem zc76:Tryz.zeroCells35 = (u8s (List.replicate 768 0)).toArray:=by kernel_rfl
theorem zc34':Tryz.zeroCells32 = (u8s (List.replicate 288 0)).toArray:=by kernel_rfl
def places76:Array (Nat × Nat):=#[(0,288),(288,480)]
theorem pl76(fields:Array Field)(h:Tryz.prog.underlying 35 = some (.struct fields))(w:World):(fields.mapM (fun f=>do pure (f.offset,←sizeOf f.type)):Sem (Array (Nat × Nat))).run Tryz.prog w=.ok places76 w:=by
 rw[Tryz.underlying35]at h
 injection h with h
 injection h with h
 subst h
 kernel_rfl
theorem zrt(v:Value):Instr.loadAt 32 v=ldAt 32 v:=rfl
attribute [local go_sem ↓] zrt
theorem zeg(l:List UInt8)(w:World)(hl:l.length=768):
 Calls Tryz.prog 14 #[.agg (u8s l).toArray] w fun e w'=>∃A' c',e=.returned (.slice A' 768 c')∧768≤c'∧w'.ownsRow w.heap.size 5 1 (.slice A' 768 c') 768 (u8s l)∧Below w.heap.size w w':=by
 have Hl:=qh hl;clear hl;have hh:(l.take 288).length=288:=by rw[List.length_take,Hl.out];rfl
 have HH:=qh hh;have hi34:(Tryz.prog.info? 32).map (·.size)=some (u8s (l.take 288)).length:=by rw[zaa,hh];exact hd34
 have H34:=qh hi34;clear hh hi34;obtain⟨cs,Hcs⟩:∃cs,Hid (cs=u8s (l.take 288)):=⟨_,rfl⟩
 have hld:∀W,Blk W w.heap.size 35 (u8s l)→(ldAt 32 (.pointer (some ⟨w.heap.size,0,none⟩))).run Tryz.prog W=.ok (.agg cs.toArray) W:=fun W hb =>
  zat hb _ 0 cs (by rw[Hcs.out,List.drop_zero,zav,zaa,HH.out]) _ Tryz.underlying32 rfl (by rw[Hcs.out];exact H34.out)
 have hq:∀W A1 c1,288≤c1→Blk W w.heap.size 35 (u8s l)→Rd W A1 288 (u8s (l.take 288))→Rd W (some ⟨0,0,none⟩) 0 []:=fun W _ _ _ _ _=>Rd.nil _ _
 have hfl:[l.take 288,(l.drop 288).take 480].flatten=l:=by
  have hl:=Hl.out
  simp
  rw[tk (l:=l.drop 288) (by simp;omega),List.take_append_drop]
 have HFL:=qh hfl;clear hfl hq
 go_enter Tryz.func14, Tryz.ntmps14
 go_wp2_with fail
 have hk0:Blk (w.alloc (.cells (u8s l).toArray 35)).drew w.heap.size 35 (u8s l):=(Blk.new w _ _).drew
 have hq:∀(w1:World) A1 c1,288≤c1→Blk w1 w.heap.size 35 (u8s l)→Rd w1 A1 288 (u8s (l.take 288)) →
     RdB (w1.alloc (.cells #[.slice A1 288 c1,.slice (some ⟨w.heap.size,288,none⟩) 480 480] 22)) (some ⟨w1.heap.size,0,none⟩) 2 [l.take 288,(l.drop 288).take 480]:=fun w1 A1 c1 hc1 hk1 hr1 =>
  RdB.of_blk (Blk.new w1 22 [.slice A1 288 c1,.slice (some ⟨w.heap.size,288,none⟩) 480 480]) ⟨.of_rd (hr1.alloc _) hc1,.of_blk (hk1.alloc _) 288 480 480 _ (by rw[zaa,Hl.out];omega) om (by rw[zbd,zav]),trivial⟩
 have HQ:=qh hq;clear hq
 go_region_held3 (fun w'=>Blk w' w.heap.size 35 (u8s l)) (first|assumption|exact Blk.alloc (by assumption) _) (first
  | (go_at_call 15;rw[Hcs.out];refine(ziz (l.take 288) _ HH.out).mono ?_;rintro e w1 ⟨A1,c1,rfl,hc1,hown1,hB1⟩;have hk1:Blk w1 w.heap.size 35 (u8s l):=hk0.below hB1 sy)
  | (go_at_call 42;refine(zd2 _ 2 2 _ _ (HQ.out w1 A1 c1 hc1 hk1 (Rd.of_own hown1)) om l 768 HFL.out Hl.out om).mono ?_;rintro e w2 ⟨A2,c2,rfl,hc2,hown2,hB2⟩;have hs1:w.heap.size<w1.heap.size:=hk1.lt;have hk2:Blk w2 w.heap.size 35 (u8s l):=(hk1.alloc _).below hB2 (by simp;omega)))
 have hB3:Below w.heap.size w w2:=((((Below.refl _ _).alloc lr _).drew).trans (hB1.mono sy)).trans ((((Below.refl _ _).alloc om _)).trans (hB2.mono (by simp;omega)));have hown3:=za7 hown2 (base':=w.heap.size) (by simp;omega);clear hown2 hB2 hown1 hB1 hk1 hk2 hk0 hld HQ;go_wp2;go_ret;exact⟨A2,c2,rfl,hc2,hown3,hB3⟩
end
section
theorem zrs(v:Value):Instr.loadAt 59 v=ldAt 59 v:=rfl
theorem zpp(p v:Value):Instr.storeAt 59 p v=stAt 59 p v:=rfl
theorem zl7(v:Value):Instr.loadAt 32 v=ldAt 32 v:=rfl
theorem zle(p v:Value):Instr.storeAt 32 p v=stAt 32 p v:=rfl
attribute [local go_sem ↓] zrs zpp zl7 zle
end
section
attribute [local go_sem ↓] zrs zpp zl7 zle
end
section
attribute [local go_sem ↓] zrs zpp zl7 zle
theorem Blk.all{w:World}{g:Nat}{t:TypeId}{l:List UInt8}{n:Nat}(h:Blk w g t (u8s l))(hn:l.length=n):Rd w (some ⟨g,0,none⟩) n (u8s l):=by
 have:=h.rd 0 n (by rw[zaa,hn];omega)
 rwa [List.drop_zero,tk (by rw[zaa,hn];omega)]at this
end
end Go.Proofs.YtpgpaenloaphaaaGreat
