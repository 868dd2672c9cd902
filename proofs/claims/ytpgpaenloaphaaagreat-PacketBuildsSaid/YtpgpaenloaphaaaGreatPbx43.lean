/- Part of the proof: Awp, Stq, Kof, Sof, Tgz, Rft. -/
import Derived.Great.BuildSlice
import Derived.Test.YtpgpaenloaphaaaGreatPbx31
import Derived.Test.YtpgpaenloaphaaaGreatPbx38
import Derived.Test.YtpgpaenloaphaaaGreatPbx41
set_option maxRecDepth 100000
set_option maxHeartbeats 16000000
namespace Go.Proofs.YtpgpaenloaphaaaGreat
open Go.RowKit
section
section
variable{P:Program}{w:World}{ops:Array Oper}{rest:List Oper}{o:Oper}{a:Act}{K:Act→World→Prop}{Q:Exit→Act→World→Prop}
theorem wp_slice1(t e:TypeId)(x:Operand)(ho:o.op=.buildSlice t 1 #[(0,x)])(cs:List Value)(hx:a.eval x=.agg cs.toArray)(hu:P.underlying t=some (.slice e))(hi:(P.info? e).map (fun i=>((i.zero.map (fun z=>z.cells.size)),i.size))=some (some cs.length,cs.length))(hpos:0<cs.length)(hsm:cs.length≤16777216)
 (h:K (a.put o.dst (.slice (some ⟨w.heap.size,0,none⟩) 1 1)) (w.alloc (.cells cs.toArray e))):o.wp P a w K Q:=by
 cases hie:P.info? e with
 | none=>simp[hie]at hi
 | some ie =>
  cases hz:ie.zero with
  | none=>simp[hie,hz]at hi
  | some z =>
   simp only[hie,hz,Option.map_some,Option.some.injEq,Prod.mk.injEq]at hi;refine wp_buildSlice t e 1 #[(0,x)] ho cs.toArray ie z hu hie hz (by rw[hi.2];omega) (by rw[hi.2];omega) ?_ h;have h1:(#[(0,x)].map fun(p:Nat × Operand)=>(p.1,a.eval p.2)).toList=[(0,.agg cs.toArray)]:=by simp[hx]
   have h2:∃ Z:List Value,((Array.range (1*ie.size)).map (z.cells[· % z.cells.size]!))=Z.toArray∧Z.length=cs.length:=⟨((Array.range (1*ie.size)).map (z.cells[· % z.cells.size]!)).toList,Array.toArray_toList.symm,by simp[hi.2]⟩;obtain⟨Z,hZ,hZl⟩:=h2
   show Instr.fill _ _ (#[(0,x)].map fun(p:Nat × Operand)=>(p.1,a.eval p.2)).toList=_
   rw[h1,hZ,fill_cons (cs:=cs) (off:=0) rfl (by simp[hi.2]) om,splice_whole _ _ hZl.symm]
   rfl
theorem wpList_slice1(hgd:o.guard=none)(t e:TypeId)(x:Operand)(ho:o.op=.buildSlice t 1 #[(0,x)])(cs:List Value)(hx:a.eval x=.agg cs.toArray)(hu:P.underlying t=some (.slice e))(hi:(P.info? e).map (fun i=>((i.zero.map (fun z=>z.cells.size)),i.size))=some (some cs.length,cs.length))(hpos:0<cs.length)(hsm:cs.length≤16777216)
 (h:wpList P ops Q rest (a.put o.dst (.slice (some ⟨w.heap.size,0,none⟩) 1 1)) (w.alloc (.cells cs.toArray e))):wpList P ops Q (o :: rest) a w :=
 wpList_of hgd fun _ hK=>wp_slice1 t e x ho cs hx hu hi hpos hsm (hK _ _ h)
end
theorem z1sp:(Tryz.prog.info? 43).map (fun i=>((i.zero.map (fun z=>z.cells.size)),i.size))=some (some 192,192):=by kernel_rfl
end
section
theorem hd67:(Tryz.prog.info? 25).map (·.size)=some 128:=by kernel_rfl
theorem hd72:(Tryz.prog.info? 27).map (·.size)=some 192:=by kernel_rfl
def places69:Array (Nat × Nat):=#[(0,128),(128,32),(160,32)]
theorem pl69(fields:Array Field)(h:Tryz.prog.underlying 43 = some (.struct fields))(w:World):(fields.mapM (fun f=>do pure (f.offset,← sizeOf f.type)):Sem (Array (Nat × Nat))).run Tryz.prog w=.ok places69 w:=by
 rw[Tryz.underlying43]at h
 injection h with h
 injection h with h
 subst h
 kernel_rfl
def Sp.keys(s:Sp):List UInt8:=s.mac++(s.stream++(s.pay++s.blind))
theorem Sp.bytes_is(s:Sp):s.bytes=s.keys++(s.alpha++s.secret):=by simp[Sp.bytes,Sp.keys]
theorem Sp.keys_len{s:Sp}(h:s.ok):s.keys.length=128:=by simp[Sp.keys,h.1,h.2.1,h.2.2.1,h.2.2.2.1]
theorem bld_sp(s:Sp)(h:s.ok)(w:World):(Instr.build 43 #[(0,.agg (u8s s.keys).toArray),(1,.agg (u8s s.alpha).toArray),(2,.agg (u8s s.secret).toArray)]).run Tryz.prog w=.ok (.agg s.cells.toArray) w:=by
 have e0:(u8s s.keys).length=128:=by rw[u8s_length,Sp.keys_len h]
 have e1:(u8s s.alpha).length=32:=by rw[u8s_length,h.2.2.2.2.1]
 have e2:(u8s s.secret).length=32:=by rw[u8s_length,h.2.2.2.2.2]
 refine run_build Tryz.zeroValue43 Tryz.underlying43 (pl69 _ Tryz.underlying43) ?_ w;rw[zcSp]
 show Instr.fill _ _ [(0,_),(1,_),(2,_)]=_
 rw [fill_cons (cs:=u8s s.keys) rfl (by rw[e0];rfl) (by rw[e0,u8s_length,List.length_replicate];omega),
   fill_cons (cs:=u8s s.alpha) rfl (by rw[e1];rfl) (by rw[length_splice _ _ _ (by rw[e0,u8s_length,List.length_replicate];omega),e1,u8s_length,List.length_replicate];omega),
   fill_cons (cs:=u8s s.secret) rfl (by rw[e2];rfl) (by rw[length_splice _ _ _ (by rw[length_splice _ _ _ (by rw[e0,u8s_length,List.length_replicate];omega),e1,u8s_length,List.length_replicate];omega),length_splice _ _ _ (by rw[e0,u8s_length,List.length_replicate];omega),e2,u8s_length,List.length_replicate];omega)]
 have:splice (splice (splice (u8s (List.replicate 192 0)) 0 (u8s s.keys)) 128 (u8s s.alpha)) 160 (u8s s.secret)=s.cells:=by
  rw[splice_splice_splice _ _ _ _ 128 32 e0 e1 (by rw[u8s_length,List.length_replicate,e2])];rw[Sp.cells,Sp.bytes_is,u8s_append,u8s_append]
 rw[this]
 rfl
theorem ldq_67(v:Value):Instr.loadAt 25 v=ldAt 25 v:=rfl
theorem ldq_24(v:Value):Instr.loadAt 23 v=ldAt 23 v:=rfl
attribute [local go_sem ↓] ldq_67 ldq_24
end
def lbls:List ByteArray:=[⟨#[109,97,99]⟩,⟨#[115,116,114,101,97,109]⟩,⟨#[112,97,121]⟩,⟨#[98,108,105,110,100]⟩]
def kys(s:List UInt8):List UInt8:=keysOf s lbls
theorem kys_is(s:List UInt8):kys s=Wd.derive s lMac++(Wd.derive s lStream++(Wd.derive s lPay++Wd.derive s lBlind)):=by
 simp[kys,keysOf,lbls,lMac,lStream,lPay,lBlind]
theorem kys_len(s:List UInt8):(kys s).length=128:=keysOf_len s lbls
theorem stp_keys(al s:List UInt8):(stp al s).keys=kys s:=by rw[kys_is];rfl
def places67:Array (Nat × Nat):=#[(0,32),(32,32),(64,32),(96,32)]
theorem pl67(fields:Array Field)(h:Tryz.prog.underlying 25 = some (.struct fields))(w:World):(fields.mapM (fun f=>do pure (f.offset,← sizeOf f.type)):Sem (Array (Nat × Nat))).run Tryz.prog w=.ok places67 w:=by
 rw[Tryz.underlying25]at h
 injection h with h
 injection h with h
 subst h
 kernel_rfl
theorem zc67:Tryz.zeroCells25 = (u8s (List.replicate 128 0)).toArray:=by kernel_rfl
theorem splice_four{α:Type}(Z X1 X2 X3 X4:List α)(k:Nat)(h1:X1.length=k)(h2:X2.length=k)(h3:X3.length=k)(hZ:Z.length=k+k+k+X4.length):
 splice (splice (splice (splice Z 0 X1) k X2) (k+k) X3) (k+k+k) X4=X1++(X2++(X3++X4)):=by
 have e1:splice Z 0 X1=X1++Z.drop k:=by simp[splice,h1]
 rw[e1]
 have e2:splice (X1++Z.drop k) k X2=X1++(X2++Z.drop (k+k)):=by
  unfold splice
  rw[List.take_left' h1,h2,List.drop_append,List.drop_eq_nil_of_le om,List.nil_append,List.drop_drop,h1,Nat.add_sub_cancel_left]
 rw[e2,← List.append_assoc X1]
 have e3:splice ((X1++X2)++Z.drop (k+k)) (k+k) X3=(X1++X2)++(X3++Z.drop (k+k+k)):=by
  unfold splice
  rw[List.take_left' (by simp[h1,h2]),h3,List.drop_append,List.drop_eq_nil_of_le (by simp[h1,h2]),List.nil_append,List.drop_drop,List.length_append,h1,h2,Nat.add_sub_cancel_left]
 rw[e3,← List.append_assoc (X1++X2)]
 unfold splice
 rw[List.take_left' (by simp[h1,h2,h3];omega),List.drop_append,List.drop_eq_nil_of_le (by simp[h1,h2,h3];omega),List.nil_append,List.drop_drop,List.drop_eq_nil_of_le (by simp[h1,h2,h3,hZ];omega),List.append_nil]
 simp
theorem bld_kys(a b c d:List UInt8)(ha:a.length=32)(hb:b.length=32)(hc:c.length=32)(hd:d.length=32)(w:World):(Instr.build 25 #[(0,.agg (u8s a).toArray),(1,.agg (u8s b).toArray),(2,.agg (u8s c).toArray),(3,.agg (u8s d).toArray)]).run Tryz.prog w=.ok (.agg (u8s (a++(b++(c++d)))).toArray) w:=by
 have e0:(u8s a).length=32:=by rw[u8s_length,ha]
 have e1:(u8s b).length=32:=by rw[u8s_length,hb]
 have e2:(u8s c).length=32:=by rw[u8s_length,hc]
 have e3:(u8s d).length=32:=by rw[u8s_length,hd]
 have z0:(u8s (List.replicate 128 0)).length=128:=by rw[u8s_length,List.length_replicate]
 have l1:(splice (u8s (List.replicate 128 0)) 0 (u8s a)).length=128:=by rw[length_splice _ _ _ (by rw[e0,z0];omega),z0]
 have l2:(splice (splice (u8s (List.replicate 128 0)) 0 (u8s a)) 32 (u8s b)).length=128:=by rw[length_splice _ _ _ (by rw[e1,l1];omega),l1]
 have l3:(splice (splice (splice (u8s (List.replicate 128 0)) 0 (u8s a)) 32 (u8s b)) 64 (u8s c)).length=128:=by rw[length_splice _ _ _ (by rw[e2,l2];omega),l2]
 refine run_build Tryz.zeroValue25 Tryz.underlying25 (pl67 _ Tryz.underlying25) ?_ w;rw[zc67]
 show Instr.fill _ _ [(0,_),(1,_),(2,_),(3,_)]=_
 rw [fill_cons (cs:=u8s a) rfl (by rw[e0];rfl) (by rw[e0,z0];omega),fill_cons (cs:=u8s b) rfl (by rw[e1];rfl) (by rw[e1,l1];omega),
   fill_cons (cs:=u8s c) rfl (by rw[e2];rfl) (by rw[e2,l2];omega),fill_cons (cs:=u8s d) rfl (by rw[e3];rfl) (by rw[e3,l3];omega)]
 have:splice (splice (splice (splice (u8s (List.replicate 128 0)) 0 (u8s a)) 32 (u8s b)) 64 (u8s c)) 96 (u8s d)=u8s (a++(b++(c++d))):=by
  rw[splice_four _ _ _ _ _ 32 e0 e1 e2 (by rw[z0,e3])]
  simp[u8s_append]
 rw[this]
 rfl
theorem sz32a(w:World):(sizeOf 23).run Tryz.prog w=.ok 32 w:=by kernel_rfl
theorem ex_bld{P:Program}{o:Oper}{a:Act}{w:World}(t:TypeId)(parts:List (Nat × Operand))(ho:o.op=.build t parts.toArray)(parts':List (Nat × Value))(he:parts.map (fun p=>(p.1,a.eval p.2))=parts'){v:Value}(hrun:(Instr.build t parts'.toArray).run P w=.ok v w):(execOp a.eval o).run P w=.ok (.value v) w:=by
 unfold execOp
 simp only[ho,Sem.run_bind,List.map_toArray,he,hrun,Sem.run_pure,Result.andThen_ok]
theorem keysof_any(A:Option Addr)(c:Nat)(s:List UInt8)(w:World)(h:Rd w A 32 (u8s s))(hc:32≤c):
 Calls Tryz.prog 131 #[.slice A 32 c] w fun e w'=>e=.returned (.tuple #[.agg (u8s (kys s)).toArray,.int .i64 0])∧Below w.heap.size w w':=by
 have HR:=qh h
 have HDV:Hid (∀ W A2,Rd W A 32 (u8s s)→Rd W A2 4 (strs lbls)→Calls Tryz.prog 138 #[.slice A 32 c,.slice A2 4 4] W fun e w'=>∃ g,e=.returned (.slice (some ⟨g,0,none⟩) 4 4)∧W.heap.size≤g∧Blk w' g 23 (u8s (kys s))∧Below W.heap.size W w'):=fun W A2 h1 h2 =>
  derive_any A 32 c s A2 4 4 lbls W h1 hc om h2 om om (by intro l hl;simp only[lbls,List.mem_cons,List.not_mem_nil,or_false]at hl;rcases hl with rfl|rfl|rfl|rfl <;> decide)
 obtain⟨D0,hD0⟩:∃ D,D=Wd.derive s lMac:=⟨_,rfl⟩;obtain⟨D1,hD1⟩:∃ D,D=Wd.derive s lStream:=⟨_,rfl⟩;obtain⟨D2,hD2⟩:∃ D,D=Wd.derive s lPay:=⟨_,rfl⟩;obtain⟨D3,hD3⟩:∃ D,D=Wd.derive s lBlind:=⟨_,rfl⟩;have l0:D0.length=32:=by rw[hD0];exact Wd.derive_len _ _
 have l1:D1.length=32:=by rw[hD1];exact Wd.derive_len _ _
 have l2:D2.length=32:=by rw[hD2];exact Wd.derive_len _ _
 have l3:D3.length=32:=by rw[hD3];exact Wd.derive_len _ _
 have hk:kys s=D0++(D1++(D2++D3)):=by rw[kys_is,hD0,hD1,hD2,hD3]
 have HKL:Hid ((u8s (kys s)).length=128):=by show _=_;rw[u8s_length,kys_len]
 generalize kys s=KK at *;have HBD:Hid (∀ W,(Instr.build 25 [(0,(.agg (u8s D0).toArray:Value)),(1,.agg (u8s D1).toArray),(2,.agg (u8s D2).toArray),(3,.agg (u8s D3).toArray)].toArray).run Tryz.prog W=.ok (.agg (u8s KK).toArray) W):=fun W=>by rw[hk];exact bld_kys D0 D1 D2 D3 l0 l1 l2 l3 W
 have hld:∀ (W:World) (g o:Nat) (D:List UInt8),Blk W g 23 (u8s KK)→D.length=32→(KK.drop o).take 32=D→(ldAt 23 (.pointer (some ⟨g,o,none⟩))).run Tryz.prog W=.ok (.agg (u8s D).toArray) W:=fun W g o D hb hl he =>
  ldAt_run hb _ o (u8s D) (by rw[u8s_length,hl,u8s_drop,u8s_take,he]) _ Tryz.underlying23 rfl (by rw[u8s_length,hl];exact hd24)
 have HD0:Hid (∀ g W,Blk W g 23 (u8s KK)→(ldAt 23 (.pointer (some ⟨g,0,none⟩))).run Tryz.prog W=.ok (.agg (u8s D0).toArray) W):=fun g W hb=>hld W g 0 D0 hb l0 (by rw[hk,List.drop_zero,List.take_left' l0])
 have HD1:Hid (∀ g W,Blk W g 23 (u8s KK)→(ldAt 23 (.pointer (some ⟨g,32,none⟩))).run Tryz.prog W=.ok (.agg (u8s D1).toArray) W):=fun g W hb=>hld W g 32 D1 hb l1 (by rw[hk,List.drop_left' l0,List.take_left' l1])
 have HD2:Hid (∀ g W,Blk W g 23 (u8s KK)→(ldAt 23 (.pointer (some ⟨g,64,none⟩))).run Tryz.prog W=.ok (.agg (u8s D2).toArray) W):=fun g W hb=>hld W g 64 D2 hb l2 (by rw[hk,← List.append_assoc,List.drop_left' (by rw[List.length_append,l0,l1]),List.take_left' l2])
 have HD3:Hid (∀ g W,Blk W g 23 (u8s KK)→(ldAt 23 (.pointer (some ⟨g,96,none⟩))).run Tryz.prog W=.ok (.agg (u8s D3).toArray) W):=fun g W hb=>hld W g 96 D3 hb l3 (by rw[hk,← List.append_assoc,← List.append_assoc,List.drop_left' (by rw[List.length_append,List.length_append,l0,l1,l2]),tk (by rw[l3];exact lr)])
 have HB0:Hid (Blk (w.alloc (.cells Tryz.zeroCells25 25)) w.heap.size 25 (u8s (List.replicate 128 0))):=Blk.new' rfl zc67;have HE0:Hid (Below w.heap.size w (w.alloc (.cells Tryz.zeroCells25 25))):=(Below.refl _ w).alloc lr _;clear h hD0 hD1 hD2 hD3 l0 l1 l2 l3 hk hld hc
 go_enter Tryz.func131, Tryz.ntmps131
 go_upto_region 4 with (go_at_call 138;(refine(HDV.out _ _ (by exact(HR.out.alloc _).alloc _) (by exact(show Blk _ (w.heap.size+1) 9 (strs lbls) from Blk.new' sy rfl).rd 0 4 (by decide))).mono ?_);rintro e w1 ⟨g,rfl,hg,hb1,hB1⟩)
 have hB1':Below w.heap.size w w1:=((HE0.out.alloc sy _).trans (hB1.mono (by simp;omega)));have HB1:=qh ((HB0.out.alloc _).below hB1 (by simp;omega));have HE1:=qh hB1';have HKD:Hid (Blk { w1 with drawn:=w1.drawn+1 } g 23 (u8s KK)):=hb1.drew;have HGG:Hid (g≠w.heap.size):=by show _≠_;simp at hg;omega
 clear hb1 hB1 hB1' hg;go_wp2;refine kgo kr 13 (fun W'=>Blk W' g 23 (u8s KK)) HKD.out (fun _ _ _ _ _ h=>h) ?_;refine kp 0 (.slice (some ⟨g,0,none⟩) 4 4) rfl kr (fun _=>kr) ?_;refine kp 1 (.pointer (some ⟨g,0,none⟩)) rfl kr (fun _=>(ex_idxS (t:=60) (e:=23) (x:=.tmp 12) (y:=.const (.int .i64 0)) (g:=g) (off:=0) (n:=4) (c:=4) (p:=0) (sz:=32) rr kr rfl om Tryz.underlying60 sz32a)) ?_;refine kl 2 (.agg (u8s D0).toArray) rfl kr (fun w' hw'=>ex_loadS (x:=.tmp 13) rr kr (HD0.out g w' hw')) ?_;refine kp 3 (.slice (some ⟨g,0,none⟩) 4 4) rfl kr (fun _=>kr) ?_;refine kp 4 (.pointer (some ⟨g,32,none⟩)) rfl kr (fun _=>(ex_idxS (t:=60) (e:=23) (x:=.tmp 15) (y:=.const (.int .i64 1)) (g:=g) (off:=0) (n:=4) (c:=4) (p:=1) (sz:=32) rr kr rfl om Tryz.underlying60 sz32a)) ?_;refine kl 5 (.agg (u8s D1).toArray) rfl kr (fun w' hw'=>ex_loadS (x:=.tmp 16) rr kr (HD1.out g w' hw')) ?_;refine kp 6 (.slice (some ⟨g,0,none⟩) 4 4) rfl kr (fun _=>kr) ?_;refine kp 7 (.pointer (some ⟨g,64,none⟩)) rfl kr (fun _=>(ex_idxS (t:=60) (e:=23) (x:=.tmp 18) (y:=.const (.int .i64 2)) (g:=g) (off:=0) (n:=4) (c:=4) (p:=2) (sz:=32) rr kr rfl om Tryz.underlying60 sz32a)) ?_;refine kl 8 (.agg (u8s D2).toArray) rfl kr (fun w' hw'=>ex_loadS (x:=.tmp 19) rr kr (HD2.out g w' hw')) ?_;refine kp 9 (.slice (some ⟨g,0,none⟩) 4 4) rfl kr (fun _=>kr) ?_;refine kp 10 (.pointer (some ⟨g,96,none⟩)) rfl kr (fun _=>(ex_idxS (t:=60) (e:=23) (x:=.tmp 21) (y:=.const (.int .i64 3)) (g:=g) (off:=0) (n:=4) (c:=4) (p:=3) (sz:=32) rr kr rfl om Tryz.underlying60 sz32a)) ?_;refine kl 11 (.agg (u8s D3).toArray) rfl kr (fun w' hw'=>ex_loadS (x:=.tmp 22) rr kr (HD3.out g w' hw')) ?_;refine kp 12 (.agg (u8s KK).toArray) rfl kr (fun _=>ex_bld 25 [(0,.tmp 14),(1,.tmp 17),(2,.tmp 20),(3,.tmp 23)] rr [(0,(.agg (u8s D0).toArray:Value)),(1,.agg (u8s D1).toArray),(2,.agg (u8s D2).toArray),(3,.agg (u8s D3).toArray)] kr (HBD.out _)) ?_;intro q8 q9;clear q8 q9;refine AnyK.storeAll 13 w.heap.size (u8s KK) 25 (u8s (List.replicate 128 0)) rr rfl rfl rr kr kr kr HB1.out.drew (by rw[HKL.out];exact hd67) (u8s_one _) (by rw[HKL.out,u8s_length,List.length_replicate]) (fun _ _ _ h=>(by cases h)) ?_;intro w2 hb2 ho2;have HE2:=qh (ho2.below HE1.out.drew lr HE1.out.size);refine AnyK.val 14 (v:=.int .i64 0) rr kr rfl kr (fun h=>(by cases h)) ?_;refine AnyK.done kr ?_;go_wp2;exact bodyPost_ret (res_cell_tmp (p:=2) (u:=3) (ty:=25) rfl _ w.heap.size 25 (u8s KK) kr hb2 _ Tryz.underlying25 rfl (by rw[HKL.out];exact hd67)) rfl ⟨by kernel_rfl,HE2.out⟩
section
attribute [local go_sem ↓] ldq_67 ldq_b32
theorem stepof_any(al sec:List UInt8)(h1:al.length=32)(h2:sec.length=32)(w:World):
 Calls Tryz.prog 89 #[.agg (u8s al).toArray,.agg (u8s sec).toArray] w fun e w'=>e=.returned (.tuple #[.agg (stp al sec).cells.toArray,.int .i64 0])∧Below w.heap.size w w':=by
 have hok:=stp_ok h1 h2
 have HBD:Hid (∀ W,(Instr.build 43 [(0,(.agg (u8s (kys sec)).toArray:Value)),(1,.agg (u8s al).toArray),(2,.agg (u8s sec).toArray)].toArray).run Tryz.prog W=.ok (.agg (stp al sec).cells.toArray) W):=fun W=>by
  have:=bld_sp (stp al sec) hok W
  rwa [stp_keys]at this
 have HCL:Hid ((stp al sec).cells.length=192):=Sp.cells_len hok;have HC1:=qh (Sp.cells_one (stp al sec));generalize (stp al sec).cells=C at *;have HKL:Hid ((u8s (kys sec)).length=128):=by show _=_;rw[u8s_length,kys_len]
 have HK1:Hid (∀ v∈u8s (kys sec),v.oneCell'=true):=u8s_one _;have HKO:Hid (∀ W A,Rd W A 32 (u8s sec)→Calls Tryz.prog 131 #[.slice A 32 32] W fun e w'=>e=.returned (.tuple #[.agg (u8s (kys sec)).toArray,.int .i64 0])∧Below W.heap.size W w'):=fun W A h=>keysof_any A 32 sec W h om
 have HAL:Hid ((u8s al).length=32):=by show _=_;rw[u8s_length,h1]
 have HSL:Hid ((u8s sec).length=32):=by show _=_;rw[u8s_length,h2]
 generalize u8s (kys sec)=KK at *;generalize u8s al=AL at *;generalize u8s sec=SE at *;obtain⟨W0,hW0⟩:∃ W0,W0=((w.alloc (.cells AL.toArray 23)).alloc (.cells SE.toArray 23)).alloc (.cells Tryz.zeroCells43 43):=⟨_,rfl⟩;have HA0:Hid (Blk W0 w.heap.size 23 AL):=by rw[hW0];exact((Blk.new w _ _).alloc _).alloc _
 have HS0:Hid (Blk W0 (w.heap.size+1) 23 SE):=by rw[hW0];exact(show Blk (((w.alloc (.cells AL.toArray 23)).alloc (.cells SE.toArray 23))) (w.heap.size+1) 23 SE from Blk.new' sy rfl).alloc _
 have HZ0:Hid (Blk W0 (w.heap.size+2) 43 (u8s (List.replicate 192 0))):=by rw[hW0];exact Blk.new' sy zcSp
 have HE0:Hid (Below w.heap.size w W0):=by rw[hW0];exact(((Below.refl _ w).alloc lr _).alloc sy _).alloc (by simp;omega) _
 have HR0:Hid (Rd W0 (some ⟨w.heap.size+1,0,none⟩) 32 SE):=by have:=HS0.out.rd 0 32 (by rw[HSL.out];exact lr);rwa [List.drop_zero,tk (by rw[HSL.out];exact lr)]at this
 subst hW0;clear h1 h2 hok
 go_enter Tryz.func89, Tryz.ntmps89
 go_wp2_with (first
  | (go_at_call 131;(refine(HKO.out _ _ (by exact HR0.out)).mono ?_);rintro e w1 ⟨rfl,hB1⟩;have HE1:=qtr HE0 hB1;have HA1:=qbl HA0 hB1;have HS1:=qbl HS0 hB1;have HZ1:=qbl HZ0 hB1;clear hB1)
  | (refine wpList_store_all rfl 25 (.tmp 6) (.tmp 11) rfl w1.heap.size KK rr rr 25 (u8s (List.replicate 128 0)) (by exact Blk.new' rfl zc67) (by rw[HKL.out];exact hd67) HK1.out (by rw[HKL.out,u8s_length,List.length_replicate]) ?_;intro w2 hb2 ho2;have HE2:=qh (ho2.below (HE1.out.alloc HE1.out.size _) HE1.out.size (Nat.le_trans HE1.out.size sy));have HZ2:=qal ho2 HZ1 (by have:=HZ1.out.lt;omega);have l1:=b32_ld (ho2.blk (HA1.out.alloc _) (by have:=HA1.out.lt;omega)) HAL.out;have l2:=b32_ld (ho2.blk (HS1.out.alloc _) (by have:=HS1.out.lt;omega)) HSL.out;have l3:(ldAt 25 (.pointer (some ⟨w1.heap.size,0,none⟩))).run Tryz.prog w2=.ok (.agg KK.toArray) w2:=ldAt_run hb2 _ 0 KK (by rw[List.drop_zero,tk lr]) _ Tryz.underlying25 rfl (by rw[HKL.out];exact hd67);clear hb2 ho2)
  | (refine wpList_build rfl 43 [(0,.tmp 17),(1,.tmp 18),(2,.tmp 19)] rfl _ rr (.agg C.toArray) (HBD.out _) ?_)
  | (refine wpList_store_all rfl 43 (.tmp 4) (.tmp 20) rfl (w.heap.size+2) C rr rr 43 (u8s (List.replicate 192 0)) (by exact HZ2.out) (by rw[HCL.out];exact hd69) HC1.out (by rw[HCL.out];rfl) ?_;intro w3 hb3 ho3;have HE3:=qh (ho3.below HE2.out om HE2.out.size)))
 exact bodyPost_ret (res_cell_tmp rfl _ _ _ _ rfl hb3 _ Tryz.underlying43 rfl (by rw[HCL.out];exact hd69)) rfl ⟨rfl,HE3.out⟩
end
theorem rshort_any(A:Option Addr)(n c:Nat)(k:List UInt8)(A2:Option Addr)(n2 c2:Nat)(l:List UInt8)(w:World)(h:Rd w A n (u8s k))(hn:n≤100000000)(h2:Rd w A2 n2 (u8s l))(hn2:n2≤10000000):
 Calls Tryz.prog 82 #[.slice A n c,.slice A2 n2 c2] w fun e w'=>∃ A' c',e=.returned (.slice A' 16 c')∧16≤c'∧w'.ownsRow w.heap.size 5 1 (.slice A' 16 c') 16 (u8s ((Mc.tag k l).take 16))∧Below w.heap.size w w':=by
 have HT:=qh (rtag_any A n c k A2 n2 c2 l w h hn h2 hn2);have htl:=Mc.tag_len k l;generalize Mc.tag k l=T at *;have HTL:Hid ((u8s T).length=32):=by show _=_;rw[u8s_length,htl]
 have HR:Hid (∀ W g,Blk W g 23 (u8s T)→Rd W (some ⟨g,0,none⟩) 16 (u8s (T.take 16))):=fun W g hb=>by
  have h6:=hb.rd 0 16 (by rw[u8s_length,htl];omega)
  rwa [List.drop_zero,u8s_take]at h6
 clear h h2 htl
 go_enter Tryz.func82, Tryz.ntmps82
 go_wp2_with (first
  | (go_at_call 128;(with_reducible refine HT.out.mono ?_);rintro e w1 ⟨rfl,hB1⟩;have HE1:=qh hB1;clear hB1)
  | (refine wpList_store_all rfl 23 (.tmp 5) (.tmp 8) rfl w1.heap.size (u8s T) rr rr 23 (u8s (List.replicate 32 0)) (by exact Blk.new' rfl rfl) (by rw[HTL.out];exact hd24) (u8s_one _) (by rw[HTL.out];rfl) ?_;intro w2 hb2 ho2;have hs1:=HE1.out.size;have HE2:=qh (ho2.below (HE1.out.alloc hs1 _) hs1 (Nat.le_trans hs1 sy));have HR2:=qh (HR.out _ _ hb2);clear hb2 ho2)
  | (go_at_call 12;(with_reducible refine(copy_any _ _ _ _ _ (by exact HR2.out) om).mono ?_);rintro e w3 ⟨A3,c3,rfl,hc3,hown3,hB3⟩;have HO3:=qh (own_mono hown3 HE2.out.size);have HE3:=qtr HE2 hB3;clear hown3 hB3))
 go_ret;exact⟨A3,c3,rfl,hc3,HO3.out,HE3.out⟩
theorem rtag13_any(key:List UInt8)(hk:key.length=32)(A:Option Addr)(n c:Nat)(a:List UInt8)(B:Option Addr)(m d:Nat)(b:List UInt8)(w:World)(h:Rd w A n (u8s a))(h2:Rd w B m (u8s b))(hn:n≤1000000)(hm:m≤1000000):
 Calls Tryz.prog 50 #[.agg (u8s key).toArray,.slice A n c,.slice B m d] w fun e w'=>∃ A' c',e=.returned (.slice A' 16 c')∧16≤c'∧w'.ownsRow w.heap.size 5 1 (.slice A' 16 c') 16 (u8s ((Mc.tag key (a++b)).take 16))∧Below w.heap.size w w':=by
 have HA:=qh h;have HB:=qh h2
 have HSH:Hid (∀ W A3 c3,Blk W w.heap.size 23 (u8s key)→Rd W A3 (n+m) (u8s (a++b))→Calls Tryz.prog 82 #[.slice (some ⟨w.heap.size,0,none⟩) 32 32,.slice A3 (n+m) c3] W fun e w'=>∃ A' c',e=.returned (.slice A' 16 c')∧16≤c'∧w'.ownsRow W.heap.size 5 1 (.slice A' 16 c') 16 (u8s ((Mc.tag key (a++b)).take 16))∧Below W.heap.size W w'):=fun W A3 c3 hb hr=>by
  refine rshort_any _ 32 32 key A3 (n+m) c3 (a++b) W ?_ om hr om;have h6:=hb.rd 0 32 (by rw[u8s_length,hk];omega)
  rwa [List.drop_zero,tk (by rw[u8s_length,hk];omega)]at h6
 have HE0:Hid (Below w.heap.size w (w.alloc (.cells (u8s key).toArray 23)).drew):=((Below.refl _ w).alloc lr _).drew;have HK0:Hid (Blk (w.alloc (.cells (u8s key).toArray 23)).drew w.heap.size 23 (u8s key)):=(Blk.new w _ _).drew;clear h h2 hk
 go_enter Tryz.func50, Tryz.ntmps50
 go_wp2_with fail
 go_region_held3 (fun _=>True) (trivial) ((first
  | (go_at_call 12;(refine(copy_any A n c a _ (by exact HA.out.below HE0.out) om).mono ?_);rintro e w1 ⟨A1,c1,rfl,hc1,hown1,hB1⟩;have HE1:=qtr HE0 hB1;have HK1:=qbl HK0 hB1;have HO1:=qh hown1;clear hown1 hB1)
  | (refine step_app rfl (.tmp 9) (.tmp 10) 22 rfl (w.alloc (.cells (u8s key).toArray 23)).drew.heap.size 5 1 1 Tryz.underlying22 eU8 (.slice A1 n c1) n (u8s a) rr HO1.out B m d (u8s b) rr (by exact(HB.out.below HE1.out).toS) (u8s_one _) om om (by have h9:=HK1.out.lt;simp;omega) ?_;intro A2 c2 w2 hown2 hc2 hg2 hat2;rw[← u8s_append]at hown2;have HE2:=qh (HE1.out.grown hg2 HE1.out.size (fun k hk=>by have h9:=(HO1.out.lt k hk).1;simp at h9;omega));have HK2:=qh (HK1.out.grown hg2 (fun e=>by have h9:=(HO1.out.lt _ e.symm).1;simp at h9;omega));have HR2:=qh (Rd.of_own hown2);clear hown2 hg2 hat2)
  | (go_at_call 82;(refine(HSH.out _ _ _ (by exact HK2.out) (by exact HR2.out)).mono ?_);rintro e w3 ⟨A3,c3,rfl,hc3,hown3,hB3⟩;have HO3:=qh (own_mono hown3 HE2.out.size);have HE3:=qtr HE2 hB3;clear hown3 hB3)))
 go_wp2_with fail
 go_ret;exact⟨A3,c3,rfl,hc3,HO3.out,HE3.out⟩
section
theorem hd27:(Tryz.prog.info? 27).map (·.size)=some 192:=by kernel_rfl
theorem ldq_27(v:Value):Instr.loadAt 27 v=ldAt 27 v:=rfl
theorem rsp_ld{w:World}{g:Nat}{t:TypeId}{C:List Value}(hb:Blk w g t C)(hl:C.length=192):(ldAt 27 (.pointer (some ⟨g,0,none⟩))).run Tryz.prog w=.ok (.agg C.toArray) w :=
 ldAt_run hb _ 0 C (by rw[List.drop_zero,tk lr]) _ Tryz.underlying27 rfl (by rw[hl];exact hd27)
attribute [local go_sem ↓] ldq_b32 ldq_27
end
end Go.Proofs.YtpgpaenloaphaaaGreat
