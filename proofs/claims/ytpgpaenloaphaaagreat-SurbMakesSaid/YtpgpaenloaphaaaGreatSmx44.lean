/- Part of the proof. -/
import Derived.Great.BuildSlice
import Derived.Lib.SmallJoins
import Derived.Test.YtpgpaenloaphaaaGreatSmx32
import Derived.Test.YtpgpaenloaphaaaGreatSmx43
set_option maxRecDepth 100000
set_option maxHeartbeats 0
namespace Go.Proofs.YtpgpaenloaphaaaGreat
open Go.RowKit
section
section
variable{P:Program}{w:World}{ops:Array Oper}{rest:List Oper}{o:Oper}{a:Act}{K:Act→World→Prop}{Q:Exit→Act→World→Prop}
theorem zj9(t e:TypeId)(x:Operand)(ho:o.op=.buildSlice t 1 #[(0,x)])(cs:List Value)(hx:a.eval x=.agg cs.toArray)(hu:P.underlying t=some (.slice e))(hi:(P.info? e).map (fun i=>((i.zero.map (fun z=>z.cells.size)),i.size))=some (some cs.length,cs.length))(hpos:0<cs.length)(hsm:cs.length≤16777216)
 (h:K (a.put o.dst (.slice (some ⟨w.heap.size,0,none⟩) 1 1)) (w.alloc (.cells cs.toArray e))):o.wp P a w K Q:=by
 cases hie:P.info? e with
 | none=>simp[hie]at hi
 | some ie =>
  cases hz:ie.zero with
  | none=>simp[hie,hz]at hi
  | some z =>
   simp only[hie,hz,Option.map_some,Option.some.injEq,Prod.mk.injEq]at hi;refine wp_buildSlice t e 1 #[(0,x)] ho cs.toArray ie z hu hie hz (by rw[hi.2];omega) (by rw[hi.2];omega) ?_ h;have h1:(#[(0,x)].map fun(p:Nat × Operand)=>(p.1,a.eval p.2)).toList=[(0,.agg cs.toArray)]:=by simp[hx]
   have h2:∃Z:List Value,((Array.range (1*ie.size)).map (z.cells[· % z.cells.size]!))=Z.toArray∧Z.length=cs.length:=⟨((Array.range (1*ie.size)).map (z.cells[· % z.cells.size]!)).toList,Array.toArray_toList.symm,by simp[hi.2]⟩;obtain⟨Z,hZ,hZl⟩:=h2
   show Instr.fill _ _ (#[(0,x)].map fun(p:Nat × Operand)=>(p.1,a.eval p.2)).toList=_
   rw[h1,hZ,zas (cs:=cs) (off:=0) rfl (by simp[hi.2]) om,zap _ _ hZl.symm]
   rfl
theorem zb6(hgd:o.guard=none)(t e:TypeId)(x:Operand)(ho:o.op=.buildSlice t 1 #[(0,x)])(cs:List Value)(hx:a.eval x=.agg cs.toArray)(hu:P.underlying t=some (.slice e))(hi:(P.info? e).map (fun i=>((i.zero.map (fun z=>z.cells.size)),i.size))=some (some cs.length,cs.length))(hpos:0<cs.length)(hsm:cs.length≤16777216)
 (h:wpList P ops Q rest (a.put o.dst (.slice (some ⟨w.heap.size,0,none⟩) 1 1)) (w.alloc (.cells cs.toArray e))):wpList P ops Q (o :: rest) a w :=
 zb1 hgd fun _ hK=>zj9 t e x ho cs hx hu hi hpos hsm (hK _ _ h)
end
theorem z1sp:(Tryz.prog.info? 43).map (fun i=>((i.zero.map (fun z=>z.cells.size)),i.size))=some (some 192,192):=by kernel_rfl
end
section
theorem hd67:(Tryz.prog.info? 25).map (·.size)=some 128:=by kernel_rfl
theorem hd72:(Tryz.prog.info? 27).map (·.size)=some 192:=by kernel_rfl
def places69:Array (Nat × Nat):=#[(0,128),(128,32),(160,32)]
theorem pl69(fields:Array Field)(h:Tryz.prog.underlying 43 = some (.struct fields))(w:World):(fields.mapM (fun f=>do pure (f.offset,←sizeOf f.type)):Sem (Array (Nat × Nat))).run Tryz.prog w=.ok places69 w:=by
 rw[Tryz.underlying43]at h
 injection h with h
 injection h with h
 subst h
 kernel_rfl
def Sp.keys(s:Sp):List UInt8:=s.mac++(s.stream++(s.pay++s.blind))
theorem Sp.bytes_is(s:Sp):s.bytes=s.keys++(s.alpha++s.secret):=by simp[Sp.bytes,Sp.keys]
theorem Sp.keys_len{s:Sp}(h:s.ok):s.keys.length=128:=by simp[Sp.keys,h.1,h.2.1,h.2.2.1,h.2.2.2.1]
theorem bld_sp(s:Sp)(h:s.ok)(w:World):(Instr.build 43 #[(0,.agg (u8s s.keys).toArray),(1,.agg (u8s s.alpha).toArray),(2,.agg (u8s s.secret).toArray)]).run Tryz.prog w=.ok (.agg s.cells.toArray) w:=by
 have e0:(u8s s.keys).length=128:=by rw[zaa,Sp.keys_len h]
 have e1:(u8s s.alpha).length=32:=by rw[zaa,h.2.2.2.2.1]
 have e2:(u8s s.secret).length=32:=by rw[zaa,h.2.2.2.2.2]
 refine zb2 Tryz.zeroValue43 Tryz.underlying43 (pl69 _ Tryz.underlying43) ?_ w;rw[zcSp]
 show Instr.fill _ _ [(0,_),(1,_),(2,_)]=_
 rw [zas (cs:=u8s s.keys) rfl (by rw[e0];rfl) (by rw[e0,zaa,lp9];omega),
   zas (cs:=u8s s.alpha) rfl (by rw[e1];rfl) (by rw[length_splice _ _ _ (by rw[e0,zaa,lp9];omega),e1,zaa,lp9];omega),
   zas (cs:=u8s s.secret) rfl (by rw[e2];rfl) (by rw[length_splice _ _ _ (by rw[length_splice _ _ _ (by rw[e0,zaa,lp9];omega),e1,zaa,lp9];omega),length_splice _ _ _ (by rw[e0,zaa,lp9];omega),e2,zaa,lp9];omega)]
 have:splice (splice (splice (u8s (List.replicate 192 0)) 0 (u8s s.keys)) 128 (u8s s.alpha)) 160 (u8s s.secret)=s.cells:=by
  rw[splice_splice_splice _ _ _ _ 128 32 e0 e1 (by rw[zaa,lp9,e2])];rw[Sp.cells,Sp.bytes_is,zae,zae]
 rw[this]
 rfl
theorem znk(v:Value):Instr.loadAt 25 v=ldAt 25 v:=rfl
theorem ldq_24(v:Value):Instr.loadAt 23 v=ldAt 23 v:=rfl
attribute [local go_sem ↓] znk ldq_24
end
def lbls:List ByteArray:=[⟨#[109,97,99]⟩,⟨#[115,116,114,101,97,109]⟩,⟨#[112,97,121]⟩,⟨#[98,108,105,110,100]⟩]
def kys(s:List UInt8):List UInt8:=keysOf s lbls
theorem znl(s:List UInt8):kys s=Wd.derive s lMac++(Wd.derive s lStream++(Wd.derive s lPay++Wd.derive s lBlind)):=by
 simp[kys,keysOf,lbls,lMac,lStream,lPay,lBlind]
theorem zhi(s:List UInt8):(kys s).length=128:=zip s lbls
theorem zmr(al s:List UInt8):(stp al s).keys=kys s:=by rw[znl];rfl
def places67:Array (Nat × Nat):=#[(0,32),(32,32),(64,32),(96,32)]
theorem pl67(fields:Array Field)(h:Tryz.prog.underlying 25 = some (.struct fields))(w:World):(fields.mapM (fun f=>do pure (f.offset,←sizeOf f.type)):Sem (Array (Nat × Nat))).run Tryz.prog w=.ok places67 w:=by
 rw[Tryz.underlying25]at h
 injection h with h
 injection h with h
 subst h
 kernel_rfl
theorem zc67:Tryz.zeroCells25 = (u8s (List.replicate 128 0)).toArray:=by kernel_rfl
theorem zgr{α:Type}(Z X1 X2 X3 X4:List α)(k:Nat)(h1:X1.length=k)(h2:X2.length=k)(h3:X3.length=k)(hZ:Z.length=k+k+k+X4.length):
 splice (splice (splice (splice Z 0 X1) k X2) (k+k) X3) (k+k+k) X4=X1++(X2++(X3++X4)):=by
 have e1:splice Z 0 X1=X1++Z.drop k:=by simp[splice,h1]
 rw[e1]
 have e2:splice (X1++Z.drop k) k X2=X1++(X2++Z.drop (k+k)):=by
  unfold splice
  rw[List.take_left' h1,h2,List.drop_append,List.drop_eq_nil_of_le om,List.nil_append,List.drop_drop,h1,Nat.add_sub_cancel_left]
 rw[e2,←as9 X1]
 have e3:splice ((X1++X2)++Z.drop (k+k)) (k+k) X3=(X1++X2)++(X3++Z.drop (k+k+k)):=by
  unfold splice
  rw[List.take_left' (by simp[h1,h2]),h3,List.drop_append,List.drop_eq_nil_of_le (by simp[h1,h2]),List.nil_append,List.drop_drop,la9,h1,h2,Nat.add_sub_cancel_left]
 rw[e3,←as9 (X1++X2)]
 unfold splice
 rw[List.take_left' (by simp[h1,h2,h3];omega),List.drop_append,List.drop_eq_nil_of_le (by simp[h1,h2,h3];omega),List.nil_append,List.drop_drop,List.drop_eq_nil_of_le (by simp[h1,h2,h3,hZ];omega),List.append_nil]
 simp
theorem zxv(a b c d:List UInt8)(ha:a.length=32)(hb:b.length=32)(hc:c.length=32)(hd:d.length=32)(w:World):(Instr.build 25 #[(0,.agg (u8s a).toArray),(1,.agg (u8s b).toArray),(2,.agg (u8s c).toArray),(3,.agg (u8s d).toArray)]).run Tryz.prog w=.ok (.agg (u8s (a++(b++(c++d)))).toArray) w:=by
 have e0:(u8s a).length=32:=by rw[zaa,ha]
 have e1:(u8s b).length=32:=by rw[zaa,hb]
 have e2:(u8s c).length=32:=by rw[zaa,hc]
 have e3:(u8s d).length=32:=by rw[zaa,hd]
 have z0:(u8s (List.replicate 128 0)).length=128:=by rw[zaa,lp9]
 have l1:(splice (u8s (List.replicate 128 0)) 0 (u8s a)).length=128:=by rw[length_splice _ _ _ (by rw[e0,z0];omega),z0]
 have l2:(splice (splice (u8s (List.replicate 128 0)) 0 (u8s a)) 32 (u8s b)).length=128:=by rw[length_splice _ _ _ (by rw[e1,l1];omega),l1]
 have l3:(splice (splice (splice (u8s (List.replicate 128 0)) 0 (u8s a)) 32 (u8s b)) 64 (u8s c)).length=128:=by rw[length_splice _ _ _ (by rw[e2,l2];omega),l2]
 refine zb2 Tryz.zeroValue25 Tryz.underlying25 (pl67 _ Tryz.underlying25) ?_ w;rw[zc67]
 show Instr.fill _ _ [(0,_),(1,_),(2,_),(3,_)]=_
 rw [zas (cs:=u8s a) rfl (by rw[e0];rfl) (by rw[e0,z0];omega),zas (cs:=u8s b) rfl (by rw[e1];rfl) (by rw[e1,l1];omega),
   zas (cs:=u8s c) rfl (by rw[e2];rfl) (by rw[e2,l2];omega),zas (cs:=u8s d) rfl (by rw[e3];rfl) (by rw[e3,l3];omega)]
 have:splice (splice (splice (splice (u8s (List.replicate 128 0)) 0 (u8s a)) 32 (u8s b)) 64 (u8s c)) 96 (u8s d)=u8s (a++(b++(c++d))):=by
  rw[zgr _ _ _ _ _ 32 e0 e1 e2 (by rw[z0,e3])]
  simp[zae]
 rw[this]
 rfl
theorem sz32a(w:World):(sizeOf 23).run Tryz.prog w=.ok 32 w:=by kernel_rfl
theorem znu{P:Program}{o:Oper}{a:Act}{w:World}(t:TypeId)(parts:List (Nat × Operand))(ho:o.op=.build t parts.toArray)(parts':List (Nat × Value))(he:parts.map (fun p=>(p.1,a.eval p.2))=parts'){v:Value}(hrun:(Instr.build t parts'.toArray).run P w=.ok v w):(execOp a.eval o).run P w=.ok (.value v) w:=by
 unfold execOp
 simp only[ho,Sem.run_bind,List.map_toArray,he,hrun,Sem.run_pure,Result.andThen_ok]
theorem zoz(A:Option Addr)(c:Nat)(s:List UInt8)(w:World)(h:Rd w A 32 (u8s s))(hc:32≤c):
 Calls Tryz.prog 131 #[.slice A 32 c] w fun e w'=>e=.returned (.tuple #[.agg (u8s (kys s)).toArray,.int .i64 0])∧Below w.heap.size w w':=by
 have HR:=qh h
 have HDV:Hid (∀W A2,Rd W A 32 (u8s s)→Rd W A2 4 (strs lbls)→Calls Tryz.prog 138 #[.slice A 32 c,.slice A2 4 4] W fun e w'=>∃g,e=.returned (.slice (some ⟨g,0,none⟩) 4 4)∧W.heap.size≤g∧Blk w' g 23 (u8s (kys s))∧Below W.heap.size W w'):=fun W A2 h1 h2 =>
  zo9 A 32 c s A2 4 4 lbls W h1 hc om h2 om om (by intro l hl;simp only[lbls,List.mem_cons,List.not_mem_nil,or_false]at hl;rcases hl with rfl|rfl|rfl|rfl <;> decide)
 obtain⟨D0,hD0⟩:=ex9 (Wd.derive s lMac);obtain⟨D1,hD1⟩:=ex9 (Wd.derive s lStream);obtain⟨D2,hD2⟩:=ex9 (Wd.derive s lPay);obtain⟨D3,hD3⟩:=ex9 (Wd.derive s lBlind);have l0:D0.length=32:=by rw[hD0];exact Wd.derive_len _ _
 have l1:D1.length=32:=by rw[hD1];exact Wd.derive_len _ _
 have l2:D2.length=32:=by rw[hD2];exact Wd.derive_len _ _
 have l3:D3.length=32:=by rw[hD3];exact Wd.derive_len _ _
 have hk:kys s=D0++(D1++(D2++D3)):=by rw[znl,hD0,hD1,hD2,hD3]
 have HKL:Hid ((u8s (kys s)).length=128):=by show _=_;rw[zaa,zhi]
 generalize kys s=KK at *;have HBD:Hid (∀W,(Instr.build 25 [(0,(.agg (u8s D0).toArray:Value)),(1,.agg (u8s D1).toArray),(2,.agg (u8s D2).toArray),(3,.agg (u8s D3).toArray)].toArray).run Tryz.prog W=.ok (.agg (u8s KK).toArray) W):=fun W=>by rw[hk];exact zxv D0 D1 D2 D3 l0 l1 l2 l3 W
 have hld:∀(W:World) (g o:Nat) (D:List UInt8),Blk W g 23 (u8s KK)→D.length=32→(KK.drop o).take 32=D→(ldAt 23 (.pointer (some ⟨g,o,none⟩))).run Tryz.prog W=.ok (.agg (u8s D).toArray) W:=fun W g o D hb hl he =>
  zal hb _ o (u8s D) (by rw[zaa,hl,zbd,zaz,he]) _ Tryz.underlying23 rfl (by rw[zaa,hl];exact hd24)
 have HD0:Hid (∀g W,Blk W g 23 (u8s KK)→(ldAt 23 (.pointer (some ⟨g,0,none⟩))).run Tryz.prog W=.ok (.agg (u8s D0).toArray) W):=fun g W hb=>hld W g 0 D0 hb l0 (by rw[hk,List.drop_zero,List.take_left' l0])
 have HD1:Hid (∀g W,Blk W g 23 (u8s KK)→(ldAt 23 (.pointer (some ⟨g,32,none⟩))).run Tryz.prog W=.ok (.agg (u8s D1).toArray) W):=fun g W hb=>hld W g 32 D1 hb l1 (by rw[hk,List.drop_left' l0,List.take_left' l1])
 have HD2:Hid (∀g W,Blk W g 23 (u8s KK)→(ldAt 23 (.pointer (some ⟨g,64,none⟩))).run Tryz.prog W=.ok (.agg (u8s D2).toArray) W):=fun g W hb=>hld W g 64 D2 hb l2 (by rw[hk,←as9,List.drop_left' (by rw[la9,l0,l1]),List.take_left' l2])
 have HD3:Hid (∀g W,Blk W g 23 (u8s KK)→(ldAt 23 (.pointer (some ⟨g,96,none⟩))).run Tryz.prog W=.ok (.agg (u8s D3).toArray) W):=fun g W hb=>hld W g 96 D3 hb l3 (by rw[hk,←as9,←as9,List.drop_left' (by rw[la9,la9,l0,l1,l2]),tk (by rw[l3];exact lr)])
 have HB0:Hid (Blk (w.alloc (.cells Tryz.zeroCells25 25)) w.heap.size 25 (u8s (List.replicate 128 0))):=Blk.new' rfl zc67;have HE0:Hid (Below w.heap.size w (w.alloc (.cells Tryz.zeroCells25 25))):=(Below.refl _ w).alloc lr _;clear h hD0 hD1 hD2 hD3 l0 l1 l2 l3 hk hld hc
 go_enter Tryz.func131, Tryz.ntmps131
 go_upto_region 4 with (go_at_call 138;(refine(HDV.out _ _ (by exact(HR.out.alloc _).alloc _) (by exact(show Blk _ (w.heap.size+1) 9 (strs lbls) from Blk.new' sy rfl).rd 0 4 (by decide))).mono ?_);rintro e w1 ⟨g,rfl,hg,hb1,hB1⟩)
 have hB1':Below w.heap.size w w1:=((HE0.out.alloc sy _).trans (hB1.mono (by simp;omega)));have HB1:=qh ((HB0.out.alloc _).below hB1 (by simp;omega));have HE1:=qh hB1';have HKD:Hid (Blk { w1 with drawn:=w1.drawn+1 } g 23 (u8s KK)):=hb1.drew;have HGG:Hid (g≠w.heap.size):=by show _≠_;simp at hg;omega
 clear hb1 hB1 hB1' hg;go_wp2;refine kgo kr 13 (fun W'=>Blk W' g 23 (u8s KK)) HKD.out (fun _ _ _ _ _ h=>h) ?_;refine kp 0 (.slice (some ⟨g,0,none⟩) 4 4) rfl kr (fun _=>kr) ?_;refine kp 1 (.pointer (some ⟨g,0,none⟩)) rfl kr (fun _=>(zbn (t:=60) (e:=23) (x:=.tmp 12) (y:=.const (.int .i64 0)) (g:=g) (off:=0) (n:=4) (c:=4) (p:=0) (sz:=32) rr kr rfl om Tryz.underlying60 sz32a)) ?_;refine kl 2 (.agg (u8s D0).toArray) rfl kr (fun w' hw'=>zgg (x:=.tmp 13) rr kr (HD0.out g w' hw')) ?_;refine kp 3 (.slice (some ⟨g,0,none⟩) 4 4) rfl kr (fun _=>kr) ?_;refine kp 4 (.pointer (some ⟨g,32,none⟩)) rfl kr (fun _=>(zbn (t:=60) (e:=23) (x:=.tmp 15) (y:=.const (.int .i64 1)) (g:=g) (off:=0) (n:=4) (c:=4) (p:=1) (sz:=32) rr kr rfl om Tryz.underlying60 sz32a)) ?_;refine kl 5 (.agg (u8s D1).toArray) rfl kr (fun w' hw'=>zgg (x:=.tmp 16) rr kr (HD1.out g w' hw')) ?_;refine kp 6 (.slice (some ⟨g,0,none⟩) 4 4) rfl kr (fun _=>kr) ?_;refine kp 7 (.pointer (some ⟨g,64,none⟩)) rfl kr (fun _=>(zbn (t:=60) (e:=23) (x:=.tmp 18) (y:=.const (.int .i64 2)) (g:=g) (off:=0) (n:=4) (c:=4) (p:=2) (sz:=32) rr kr rfl om Tryz.underlying60 sz32a)) ?_;refine kl 8 (.agg (u8s D2).toArray) rfl kr (fun w' hw'=>zgg (x:=.tmp 19) rr kr (HD2.out g w' hw')) ?_;refine kp 9 (.slice (some ⟨g,0,none⟩) 4 4) rfl kr (fun _=>kr) ?_;refine kp 10 (.pointer (some ⟨g,96,none⟩)) rfl kr (fun _=>(zbn (t:=60) (e:=23) (x:=.tmp 21) (y:=.const (.int .i64 3)) (g:=g) (off:=0) (n:=4) (c:=4) (p:=3) (sz:=32) rr kr rfl om Tryz.underlying60 sz32a)) ?_;refine kl 11 (.agg (u8s D3).toArray) rfl kr (fun w' hw'=>zgg (x:=.tmp 22) rr kr (HD3.out g w' hw')) ?_;refine kp 12 (.agg (u8s KK).toArray) rfl kr (fun _=>znu 25 [(0,.tmp 14),(1,.tmp 17),(2,.tmp 20),(3,.tmp 23)] rr [(0,(.agg (u8s D0).toArray:Value)),(1,.agg (u8s D1).toArray),(2,.agg (u8s D2).toArray),(3,.agg (u8s D3).toArray)] kr (HBD.out _)) ?_;intro q8 q9;clear q8 q9;refine AnyK.storeAll 13 w.heap.size (u8s KK) 25 (u8s (List.replicate 128 0)) rr rfl rfl rr kr kr kr HB1.out.drew (by rw[HKL.out];exact hd67) (zac _) (by rw[HKL.out,zaa,lp9]) (fun _ _ _ h=>(by cases h)) ?_;intro w2 hb2 ho2;have HE2:=qh (ho2.below HE1.out.drew lr HE1.out.size);refine AnyK.val 14 (v:=.int .i64 0) rr kr rfl kr (fun h=>(by cases h)) ?_;refine AnyK.done kr ?_;go_wp2;exact bodyPost_ret (zak (p:=2) (u:=3) (ty:=25) rfl _ w.heap.size 25 (u8s KK) kr hb2 _ Tryz.underlying25 rfl (by rw[HKL.out];exact hd67)) rfl ⟨by kernel_rfl,HE2.out⟩
section
attribute [local go_sem ↓] znk zb0
theorem zn6(al sec:List UInt8)(h1:al.length=32)(h2:sec.length=32)(w:World):
 Calls Tryz.prog 89 #[.agg (u8s al).toArray,.agg (u8s sec).toArray] w fun e w'=>e=.returned (.tuple #[.agg (stp al sec).cells.toArray,.int .i64 0])∧Below w.heap.size w w':=by
 have hok:=zmq h1 h2
 have HBD:Hid (∀W,(Instr.build 43 [(0,(.agg (u8s (kys sec)).toArray:Value)),(1,.agg (u8s al).toArray),(2,.agg (u8s sec).toArray)].toArray).run Tryz.prog W=.ok (.agg (stp al sec).cells.toArray) W):=fun W=>by
  have:=bld_sp (stp al sec) hok W
  rwa [zmr]at this
 have HCL:Hid ((stp al sec).cells.length=192):=Sp.cells_len hok;have HC1:=qh (Sp.cells_one (stp al sec));generalize (stp al sec).cells=C at *;have HKL:Hid ((u8s (kys sec)).length=128):=by show _=_;rw[zaa,zhi]
 have HK1:Hid (∀v∈u8s (kys sec),v.oneCell'=true):=zac _;have HKO:Hid (∀W A,Rd W A 32 (u8s sec)→Calls Tryz.prog 131 #[.slice A 32 32] W fun e w'=>e=.returned (.tuple #[.agg (u8s (kys sec)).toArray,.int .i64 0])∧Below W.heap.size W w'):=fun W A h=>zoz A 32 sec W h om
 have HAL:Hid ((u8s al).length=32):=by show _=_;rw[zaa,h1]
 have HSL:Hid ((u8s sec).length=32):=by show _=_;rw[zaa,h2]
 generalize u8s (kys sec)=KK at *;generalize u8s al=AL at *;generalize u8s sec=SE at *;obtain⟨W0,hW0⟩:=ex9 (((w.alloc (.cells AL.toArray 23)).alloc (.cells SE.toArray 23)).alloc (.cells Tryz.zeroCells43 43));have HA0:Hid (Blk W0 w.heap.size 23 AL):=by rw[hW0];exact((Blk.new w _ _).alloc _).alloc _
 have HS0:Hid (Blk W0 (w.heap.size+1) 23 SE):=by rw[hW0];exact(show Blk (((w.alloc (.cells AL.toArray 23)).alloc (.cells SE.toArray 23))) (w.heap.size+1) 23 SE from Blk.new' sy rfl).alloc _
 have HZ0:Hid (Blk W0 (w.heap.size+2) 43 (u8s (List.replicate 192 0))):=by rw[hW0];exact Blk.new' sy zcSp
 have HE0:Hid (Below w.heap.size w W0):=by rw[hW0];exact(((Below.refl _ w).alloc lr _).alloc sy _).alloc (by simp;omega) _
 have HR0:Hid (Rd W0 (some ⟨w.heap.size+1,0,none⟩) 32 SE):=by have:=HS0.out.rd 0 32 (by rw[HSL.out];exact lr);rwa [List.drop_zero,tk (by rw[HSL.out];exact lr)]at this
 subst hW0;clear h1 h2 hok
 go_enter Tryz.func89, Tryz.ntmps89
 go_wp2_with (first
  | (go_at_call 131;(refine(HKO.out _ _ (by exact HR0.out)).mono ?_);rintro e w1 ⟨rfl,hB1⟩;have HE1:=qtr HE0 hB1;have HA1:=qbl HA0 hB1;have HS1:=qbl HS0 hB1;have HZ1:=qbl HZ0 hB1;clear hB1)
  | (refine zab rfl 25 (.tmp 6) (.tmp 11) rfl w1.heap.size KK rr rr 25 (u8s (List.replicate 128 0)) (by exact Blk.new' rfl zc67) (by rw[HKL.out];exact hd67) HK1.out (by rw[HKL.out,zaa,lp9]) ?_;intro w2 hb2 ho2;have HE2:=qh (ho2.below (HE1.out.alloc HE1.out.size _) HE1.out.size (Nat.le_trans HE1.out.size sy));have HZ2:=qal ho2 HZ1 (by have:=HZ1.out.lt;omega);have l1:=zep (ho2.blk (HA1.out.alloc _) (by have:=HA1.out.lt;omega)) HAL.out;have l2:=zep (ho2.blk (HS1.out.alloc _) (by have:=HS1.out.lt;omega)) HSL.out;have l3:(ldAt 25 (.pointer (some ⟨w1.heap.size,0,none⟩))).run Tryz.prog w2=.ok (.agg KK.toArray) w2:=zal hb2 _ 0 KK (by rw[List.drop_zero,tk lr]) _ Tryz.underlying25 rfl (by rw[HKL.out];exact hd67);clear hb2 ho2)
  | (refine zai rfl 43 [(0,.tmp 17),(1,.tmp 18),(2,.tmp 19)] rfl _ rr (.agg C.toArray) (HBD.out _) ?_)
  | (refine zab rfl 43 (.tmp 4) (.tmp 20) rfl (w.heap.size+2) C rr rr 43 (u8s (List.replicate 192 0)) (by exact HZ2.out) (by rw[HCL.out];exact hd69) HC1.out (by rw[HCL.out];rfl) ?_;intro w3 hb3 ho3;have HE3:=qh (ho3.below HE2.out om HE2.out.size)))
 exact bodyPost_ret (zak rfl _ _ _ _ rfl hb3 _ Tryz.underlying43 rfl (by rw[HCL.out];exact hd69)) rfl ⟨rfl,HE3.out⟩
end
theorem zwz(w:World)(base:Nat)(e:TypeId):w.ownsRow base e 1 (.slice none 0 0) 0 (u8s []):=⟨rfl,.inl ⟨rfl,rfl⟩⟩
theorem zll(A:Option Addr)(n c:Nat)(k:List UInt8)(A2:Option Addr)(n2 c2:Nat)(info:List UInt8)(w:World)(h:Rd w A n (u8s k))(hn:n≤100000000)(h2:Rd w A2 n2 (u8s info))(hn2:n2≤1000000):
 Calls Tryz.prog 161 #[.slice A n c,.int .i64 32,.slice A2 n2 c2] w fun e w'=>∃A' c',e=.returned (.tuple #[.slice A' 32 c',.int .i64 0])∧32≤c'∧Rd w' A' 32 (u8s (Wd.expand k info))∧Below w.heap.size w w':=by
 have HTG:=qh (fun W A3 c3 (h1:Rd W A n (u8s k)) (h3:Rd W A3 (n2+1) (u8s (info++[1])))=>zi4 A n c k A3 (n2+1) c3 (info++[1]) W h1 hn h3 om);have HXL:Hid ((Mc.tag k (info++[1])).length=32):=Mc.tag_len _ _;have HI2:Hid ((Tryz.prog.info? 23).map (·.size)=some (u8s (Mc.tag k (info++[1]))).length):=by rw[zaa,Mc.tag_len];exact hd24
 have HL2:Hid ((u8s (Mc.tag k (info++[1]))).length=(u8s (List.replicate 32 0)).length):=by show _=_;rw[zaa,Mc.tag_len];rfl
 have H1:Hid (∀v∈u8s (Mc.tag k (info++[1])),v.oneCell'=true):=zac _;have HEX:Hid (Wd.expand k info=Mc.tag k (info++[1])):=rfl;obtain⟨X,hX⟩:=ex9 (Mc.tag k (info++[1]));rw[HEX.out,←hX];rw[←hX]at HTG HXL HI2 HL2 H1;obtain⟨U,hU⟩:=ex9 (u8s X);rw[←hU]at HTG HI2 HL2 H1;have HU:=qh hU;have HC0:=qh (fun W=>zbs none 0 0 [] W (Rd.nil _ _) om);have HC32:=qh (fun W A3 c3 (h3:Rd W A3 32 (u8s X))=>zbs A3 32 c3 X W h3 om);have HR:=qh h;have HR2:=qh h2;clear h h2 hX hU HEX
 go_enter Tryz.func161, Tryz.ntmps161
 go_wp2_with fail
 go_loopg [8,9,10] 1 (fun kk v la q wr=>Below w.heap.size w wr∧((kk=1∧v=.slice none 0 0∧la=.slice none 0 0∧q=.int .i64 1) ∨
   (kk=0∧q=.int .i64 2∧∃A' c',v=.slice A' 32 c'∧32≤c'∧wr.ownsRow w.heap.size 5 1 (.slice A' 32 c') 32 (u8s X))))
 case atStart=>exact⟨Below.refl _ _,.inl ⟨rfl,rfl,rfl,rfl⟩⟩
 case round =>
  obtain⟨hB,⟨hgk,rfl,rfl,rfl⟩|⟨hgk,rfl,A',c',rfl,hc',hown⟩⟩:=hrel
  · have HGK:=qh hgk
    have HBE:=qh hB;have hbs:=hB.size;clear hgk hB
    go_wp2_with (first
     | (go_at_call 12;(with_reducible refine(HC32.out _ _ _ HR9.out).mono ?_);rintro e w10 ⟨A10,c10,rfl,hc10,hown10,hB10⟩;have HE10:=qtr HE9 hB10;have HR10:=qh (Rd.of_own hown10);clear hown10 hB10)
     | (go_at_call 12;(with_reducible refine(HC0.out _).mono ?_);rintro e w3 ⟨A3,c3,rfl,hc3,hown3,hB3⟩;have HE3:=qtr HBE hB3;have HO3:=qh (zbj hown3 (base':=w.heap.size) hbs);clear hown3 hB3)
     | (at_builtin;refine zah rfl (.tmp 26) (.tmp 27) 22 rfl w.heap.size 5 1 1 Tryz.underlying22 eU8 (.slice A3 0 c3) 0 (u8s []) rr (by exact HO3.out) A2 n2 c2 (u8s info) rr (by exact(HR2.out.below HE3.out).toS) (zac _) om om HE3.out.size ?_;intro A4 c4 w4 hown4 hc4 hg4 hat4;have HE4:=qh (HE3.out.grown hg4 HE3.out.size (fun g hg=>(HO3.out.lt g hg).1));have HO4:Hid (w4.ownsRow w.heap.size 5 1 (.slice A4 n2 c4) n2 (u8s info)):=(by have h5:=hown4;rw[Nat.zero_add]at h5;exact h5);clear hown4 hg4 hat4)
     | (at_builtin;refine zah rfl (.tmp 28) (.tmp 31) 22 rfl w.heap.size 5 1 1 Tryz.underlying22 eU8 (.slice A4 n2 c4) n2 (u8s info) rr (by exact HO4.out.alloc _) (some ⟨w4.heap.size,0,none⟩) 1 1 (u8s [1]) rr (by exact RdS.new w4 5 (u8s [1]) 1 rfl) (zac _) om om (Nat.le_trans HE4.out.size sy) ?_;intro A5 c5 w5 hown5 hc5 hg5 hat5;have HE5:=qh ((HE4.out.alloc HE4.out.size _).grown hg5 (Nat.le_trans HE4.out.size sy) (fun g hg=>(HO4.out.lt g hg).1));have HR5:=qh (Rd.of_own hown5);rw[←zae]at HR5;clear hown5 hg5 hat5)
     | (go_at_call 128;(with_reducible refine(HTG.out _ _ _ (HR.out.below HE5.out) HR5.out).mono ?_);rintro e w7 ⟨rfl,hB7⟩;have HE7:=qtr HE5 hB7;clear hB7)
     | (refine zab rfl 23 (.tmp 12) (.tmp 35) rfl w7.heap.size U rr rr 23 (u8s (List.replicate 32 0)) (by exact Blk.new' rfl rfl) HI2.out H1.out HL2.out ?_;intro w9 hb9 ho9;have HE9:=qh (ho9.below (HE7.out.alloc HE7.out.size _) HE7.out.size (Nat.le_trans HE7.out.size sy));have HR9:Hid (Rd w9 (some ⟨w7.heap.size,0,none⟩) 32 (u8s X)):=(by have h5:=hb9;rw[HU.out]at h5;have h6:=h5.rdAll;rw[HXL.out]at h6;exact h6);clear hb9 ho9)
     | (at_builtin;refine zah rfl (.tmp 38) (.tmp 39) 22 rfl w.heap.size 5 1 1 Tryz.underlying22 eU8 (.slice none 0 0) 0 (u8s []) rr (by exact zwz _ _ _) A10 32 c10 (u8s X) rr (by exact HR10.out.toS) (zac _) om om HE10.out.size ?_;intro A11 c11 w11 hown11 hc11 hg11 hat11;have HE11:=qh (HE10.out.grown hg11 HE10.out.size (fun g hg=>by cases hg));have HO11:Hid (w11.ownsRow w.heap.size 5 1 (.slice A11 32 c11) 32 (u8s X)):=hown11;clear hown11 hg11 hat11))
    go_roundg 0
    case measure=>have:=HGK.out;omega
    case rel=>exact⟨HE11.out,.inr ⟨rfl,rfl,A11,c11,rfl,by omega,HO11.out⟩⟩
  · obtain⟨g,rfl,hg,_,hr⟩:=zcl hown om
    have HRR:=qh hr;have HBE:=qh hB;clear hown hr hB;have hc2:(32:Int)≤(c':Int):=om
    go_wp2_with (go_at_call 12;(with_reducible refine(HC32.out _ _ _ HRR.out).mono ?_);rintro e w3 ⟨A3,c3,rfl,hc3,hown3,hB3⟩;have HE3:=qtr HBE hB3;have HR3:=qh (Rd.of_own hown3);clear hown3 hB3)
    go_ret2;exact⟨A3,c3,rfl,hc3,HR3.out,HE3.out⟩
theorem zd3(A:Option Addr)(n c:Nat)(k:List UInt8)(S:ByteArray)(w:World)(h:Rd w A n (u8s k))(hn:n≤1000000)(hS:S.size≤1000):
 Calls Tryz.prog 133 #[.slice A n c,.string S] w fun e w'=>e=.returned (.agg (u8s (Wd.derive k S.data.toList)).toArray)∧Below w.heap.size w w':=by
 obtain⟨w0,hw0⟩:=ex9 (w.alloc (.cells (u8s (List.replicate 32 0)).toArray 23));have hs0:w0.heap.size=w.heap.size+1:=by rw[hw0];simp
 have htg:=zi4 (some ⟨w.heap.size+1,0,none⟩) 7 7 Wd.salt A n c k (w0.alloc (.cells (u8s Wd.salt).toArray 5 (7,8))) (by rw[←hs0];exact zg0 w0 5 (u8s Wd.salt) (7,8)) om ((show Rd w0 A n (u8s k) by rw[hw0];exact h.alloc _).alloc _) om;have e7:(w0.alloc (.cells (u8s Wd.salt).toArray 5 (7,8))).heap.size=w.heap.size+2:=by simp[hs0]
 rw[e7,hw0]at htg;have HTG:Hid (Calls Tryz.prog 128 #[.slice (some ⟨w.heap.size+1,0,none⟩) 7 7,.slice A n c] ((w.alloc (.cells #[.int .u8 0,.int .u8 0,.int .u8 0,.int .u8 0,.int .u8 0,.int .u8 0,.int .u8 0,.int .u8 0,.int .u8 0,.int .u8 0,.int .u8 0,.int .u8 0,.int .u8 0,.int .u8 0,.int .u8 0,.int .u8 0,.int .u8 0,.int .u8 0,.int .u8 0,.int .u8 0,.int .u8 0,.int .u8 0,.int .u8 0,.int .u8 0,.int .u8 0,.int .u8 0,.int .u8 0,.int .u8 0,.int .u8 0,.int .u8 0,.int .u8 0,.int .u8 0] 23)).alloc (.cells #[.int .u8 115,.int .u8 104,.int .u8 97,.int .u8 108,.int .u8 108,.int .u8 111,.int .u8 116] 5 (7,8))) fun e w'=>e=.returned (.agg (u8s (Mc.tag Wd.salt k)).toArray)∧Below (w.heap.size+2) ((w.alloc (.cells (u8s (List.replicate 32 0)).toArray 23)).alloc (.cells (u8s Wd.salt).toArray 5 (7,8))) w'):=htg;have HXL:Hid ((Mc.tag Wd.salt k).length=32):=Mc.tag_len _ _;have HI2:Hid ((Tryz.prog.info? 23).map (·.size)=some (u8s (Mc.tag Wd.salt k)).length):=by rw[zaa,Mc.tag_len];exact hd24
 have HL2:Hid ((u8s (Mc.tag Wd.salt k)).length=(u8s (List.replicate 32 0)).length):=by show _=_;rw[zaa,Mc.tag_len];rfl
 have H1:Hid (∀v∈u8s (Mc.tag Wd.salt k),v.oneCell'=true):=zac _;have HDE:Hid (Wd.derive k S.data.toList=Wd.expand (Mc.tag Wd.salt k) S.data.toList):=rfl;obtain⟨X,hX⟩:=ex9 (Mc.tag Wd.salt k);rw[←hX]at HTG HXL HI2 HL2 H1 HDE;obtain⟨U,hU⟩:=ex9 (u8s X);rw[←hU]at HTG HI2 HL2 H1;have HU:=qh hU;have HEX:=qh (fun W g B c3 (h1:Rd W (some ⟨g,0,none⟩) 32 (u8s X)) (h3:Rd W B S.size (u8s S.data.toList))=>zll (some ⟨g,0,none⟩) 32 32 X B S.size c3 S.data.toList W h1 om h3 om);rw[←HDE.out]at HEX;have hdl:(Wd.derive k S.data.toList).length=32:=Wd.derive_len _ _;obtain⟨D,hD⟩:=ex9 (Wd.derive k S.data.toList);rw[←hD]at HEX hdl ⊢;have HDI:Hid ((Tryz.prog.info? 23).map (·.size)=some (u8s D).length):=by rw[zaa,hdl];exact hd24
 have HDL:Hid ((u8s D).length=(u8s (List.replicate 32 0)).length):=by show _=_;rw[zaa,hdl];rfl
 have HD1:Hid (∀v∈u8s D,v.oneCell'=true):=zac _
 have HSP:Hid (splice (u8s (List.replicate 32 0)) 0 ((u8s D).take 32)=u8s D):=by
  show _=_
  rw[tk (by rw[zaa,hdl];exact lr)];exact zap _ _ HDL.out
 obtain⟨DU,hDU⟩:=ex9 (u8s D);rw[←hDU]at HDI HDL HD1 HSP ⊢;have HDU:=qh hDU;have kc:=fun(Z:Obj) (C:Array Value) (n c:Nat)=>Joins.run_convert_bytes_const_at (P:=Tryz.prog) (w.alloc Z) 22 5 C n c (w.heap.size+1) sy Tryz.underlying22 Tryz.underlying5
 clear h hw0 hs0 htg e7 hX hU hD hdl hDU HDE w0
 go_enter Tryz.func133, Tryz.ntmps133
 go_wp2_with (first
  | (go_at_call 128;(with_reducible refine HTG.out.mono ?_);rintro e w1 ⟨rfl,hB1⟩;have HE1:=qh ((((Below.refl _ w).alloc lr (.cells (u8s (List.replicate 32 0)).toArray 23)).alloc sy _).trans (hB1.mono om));have HZ1:=qh (((Blk.new' (w:=w) (cs:=u8s (List.replicate 32 0)) (t:=23) rfl rfl).alloc _).below hB1 om);clear hB1 kc)
  | (refine zab rfl 23 (.tmp 5) (.tmp 12) rfl w1.heap.size U rr rr 23 (u8s (List.replicate 32 0)) (by exact Blk.new' rfl rfl) HI2.out H1.out HL2.out ?_;intro w3 hb3 ho3;have hl1:=HZ1.out.lt;have HE3:=qh (ho3.below (HE1.out.alloc HE1.out.size _) HE1.out.size (Nat.le_trans HE1.out.size sy));have HZ3:=qh (ho3.blk (HZ1.out.alloc _) om);have HK3:Hid (Blk w3 w1.heap.size 23 (u8s X)):=(by rw[←HU.out];exact hb3);obtain⟨c5,w5,hcv,hc5,HRC,HBC⟩:=zit w3 S;have HE5:=qh (HE3.out.trans (HBC.out.mono HE3.out.size));have HZ5:=qh (HZ3.out.below HBC.out HZ3.out.lt);have HK5:Hid (Rd w5 (some ⟨w1.heap.size,0,none⟩) 32 (u8s X)):=(by have h6:=(HK3.out.below HBC.out HK3.out.lt).rdAll;rw[HXL.out]at h6;exact h6);clear hb3 ho3)
  | (go_at_call 161;(with_reducible refine(HEX.out w5 _ _ _ HK5.out HRC.out).mono ?_);rintro e w6 ⟨A6,c6,rfl,hc6,hr6,hB6⟩;have HE6:=qtr HE5 hB6;have HZ6:=qbl HZ5 hB6;have HR6:=qh hr6;clear hr6 hB6 hcv)
  | (refine za7 rfl (.tmp 20) (.tmp 21) 22 rfl 5 Tryz.underlying22 zbz w6.heap.size 0 32 32 rr A6 32 c6 rr 23 (u8s (List.replicate 32 0)) (by exact Blk.new' rfl rfl) (u8s D) (by exact HR6.out.alloc _) (zac _) (by rw[zaa];exact lr) ?_;intro w7 hb7 ho7;have hb7':=hb7;rw[←HDU.out,HSP.out]at hb7';have hl6:=HZ6.out.lt;have HE7:=qh (ho7.below (HE6.out.alloc HE6.out.size _) HE6.out.size (Nat.le_trans HE6.out.size sy));have HZ7:=qh (ho7.blk (HZ6.out.alloc _) om);have HR7:=qh hb7'.range;clear hb7 hb7' ho7)
  | refine wpList_load_mid rfl 23 (.tmp 8) rfl w6.heap.size 0 rr DU _ HR7.out Tryz.underlying23 rfl HDI.out ?_
  | (refine zab rfl 23 (.tmp 4) (.tmp 23) rfl w.heap.size DU rr rr 23 _ HZ7.out HDI.out HD1.out HDL.out ?_;intro w8 hb8 ho8))
 exact bodyPost_ret (zam rfl _ w.heap.size _ DU rfl hb8 _ Tryz.underlying23 rfl HDI.out) rfl ⟨rfl,ho8.below HE7.out lr HE7.out.size⟩
section
attribute [local go_sem ↓] znk
def ky2(D0 D1:List UInt8):List Value:=splice (splice (u8s (List.replicate 128 0)) 0 (u8s D0)) 32 (u8s D1)
theorem zxf(D0 D1:List UInt8)(h0:D0.length=32)(h1:D1.length=32):(ky2 D0 D1).length=128:=by
 have z0:(u8s (List.replicate 128 0)).length=128:=by rw[zaa,lp9]
 have e0:(u8s D0).length=32:=by rw[zaa,h0]
 have e1:(u8s D1).length=32:=by rw[zaa,h1]
 have l1:(splice (u8s (List.replicate 128 0)) 0 (u8s D0)).length=128:=by rw[length_splice _ _ _ (by rw[e0,z0];omega),z0]
 rw[ky2,length_splice _ _ _ (by rw[e1,l1];omega),l1]
theorem zh6(Z X:List Value)(o:Nat)(hz:∀v∈Z,v.oneCell'=true)(hx:∀v∈X,v.oneCell'=true):∀v∈splice Z o X,v.oneCell'=true:=by
 intro v hv;simp only[splice,List.mem_append]at hv
 rcases hv with hv|hv|hv
 · exact hz v (List.mem_of_mem_take hv)
 · exact hx v hv
 · exact hz v (List.mem_of_mem_drop hv)
theorem zxw(D0 D1:List UInt8)(h0:D0.length=32)(h1:D1.length=32)(w:World):(Instr.build 25 [(0,(.agg (u8s D0).toArray:Value)),(1,.agg (u8s D1).toArray)].toArray).run Tryz.prog w=.ok (.agg (ky2 D0 D1).toArray) w:=by
 have e0:(u8s D0).length=32:=by rw[zaa,h0]
 have e1:(u8s D1).length=32:=by rw[zaa,h1]
 have z0:(u8s (List.replicate 128 0)).length=128:=by rw[zaa,lp9]
 have l1:(splice (u8s (List.replicate 128 0)) 0 (u8s D0)).length=128:=by rw[length_splice _ _ _ (by rw[e0,z0];omega),z0]
 refine zb2 Tryz.zeroValue25 Tryz.underlying25 (pl67 _ Tryz.underlying25) ?_ w;rw[zc67]
 show Instr.fill _ _ [(0,_),(1,_)]=_
 rw[zas (cs:=u8s D0) rfl (by rw[e0];rfl) (by rw[e0,z0];omega),zas (cs:=u8s D1) rfl (by rw[e1];rfl) (by rw[e1,l1];omega)]
 rfl
theorem zli(A:Option Addr)(c:Nat)(s:List UInt8)(w:World)(h:Rd w A 32 (u8s s)):
 Calls Tryz.prog 94 #[.slice A 32 c] w fun e w'=>e=.returned (.tuple #[.agg (u8s (kys s)).toArray,.int .i64 0])∧Below w.heap.size w w':=by
 have HR:=qh h;obtain⟨D0,hD0⟩:=ex9 (Wd.derive s lMac);obtain⟨D1,hD1⟩:=ex9 (Wd.derive s lStream);obtain⟨D2,hD2⟩:=ex9 (Wd.derive s lPay);obtain⟨D3,hD3⟩:=ex9 (Wd.derive s lBlind);have l0:D0.length=32:=by rw[hD0];exact Wd.derive_len _ _
 have l1:D1.length=32:=by rw[hD1];exact Wd.derive_len _ _
 have l2:D2.length=32:=by rw[hD2];exact Wd.derive_len _ _
 have l3:D3.length=32:=by rw[hD3];exact Wd.derive_len _ _
 have HV0:Hid (∀W,Rd W A 32 (u8s s)→Calls Tryz.prog 133 #[.slice A 32 c,.string ⟨#[109,97,99]⟩] W fun e w'=>e=.returned (.agg (u8s D0).toArray)∧Below W.heap.size W w'):=fun W hW=>by
  rw[hD0];exact zd3 A 32 c s ⟨#[109,97,99]⟩ W hW om (by decide)
 have HV1:Hid (∀W,Rd W A 32 (u8s s)→Calls Tryz.prog 133 #[.slice A 32 c,.string ⟨#[115,116,114,101,97,109]⟩] W fun e w'=>e=.returned (.agg (u8s D1).toArray)∧Below W.heap.size W w'):=fun W hW=>by
  rw[hD1];exact zd3 A 32 c s ⟨#[115,116,114,101,97,109]⟩ W hW om (by decide)
 have HV2:Hid (∀W,Rd W A 32 (u8s s)→Calls Tryz.prog 133 #[.slice A 32 c,.string ⟨#[112,97,121]⟩] W fun e w'=>e=.returned (.agg (u8s D2).toArray)∧Below W.heap.size W w'):=fun W hW=>by
  rw[hD2];exact zd3 A 32 c s ⟨#[112,97,121]⟩ W hW om (by decide)
 have HV3:Hid (∀W,Rd W A 32 (u8s s)→Calls Tryz.prog 133 #[.slice A 32 c,.string ⟨#[98,108,105,110,100]⟩] W fun e w'=>e=.returned (.agg (u8s D3).toArray)∧Below W.heap.size W w'):=fun W hW=>by
  rw[hD3];exact zd3 A 32 c s ⟨#[98,108,105,110,100]⟩ W hW om (by decide)
 have hk:kys s=D0++(D1++(D2++D3)):=by rw[znl,hD0,hD1,hD2,hD3]
 have HKF:Hid (splice (splice (ky2 D0 D1) 64 (u8s D2)) 96 (u8s D3)=u8s (kys s)):=by
  show _=_
  rw[ky2,zgr _ _ _ _ _ 32 (by rw[zaa,l0]) (by rw[zaa,l1]) (by rw[zaa,l2]) (by rw[zaa,lp9,zaa,l3]),hk]
  simp[zae]
 have HKL:Hid ((u8s (kys s)).length=128):=by show _=_;rw[zaa,zhi]
 have HK1:Hid (∀v∈u8s (kys s),v.oneCell'=true):=zac _;have hl2:=zxf D0 D1 l0 l1;have HP2:=qh hl2;have HP1:Hid (∀v∈ky2 D0 D1,v.oneCell'=true):=zh6 _ _ _ (zh6 _ _ _ (zac _) (zac _)) (zac _);have HBD:=qh (fun W=>zxw D0 D1 l0 l1 W);have HL2:Hid ((u8s D2).length=32):=by show _=_;rw[zaa,l2]
 have HL3:Hid ((u8s D3).length=32):=by show _=_;rw[zaa,l3]
 have HP3:Hid ((splice (ky2 D0 D1) 64 (u8s D2)).length=128):=by show _=_;rw[length_splice _ _ _ (by rw[HL2.out,hl2];omega),hl2]
 generalize ky2 D0 D1=P2 at *;generalize u8s (kys s)=KK at *;have HB0:Hid (Blk (w.alloc (.cells Tryz.zeroCells25 25)) w.heap.size 25 (u8s (List.replicate 128 0))):=Blk.new' rfl zc67;have HE0:Hid (Below w.heap.size w (w.alloc (.cells Tryz.zeroCells25 25))):=(Below.refl _ w).alloc lr _;clear h hD0 hD1 hD2 hD3 l0 l1 l2 l3 hk hl2
 go_enter Tryz.func94, Tryz.ntmps94
 go_wp2_with (first
  | (go_at_call 133;(with_reducible refine(HV0.out _ (by exact HR.out.alloc _)).mono ?_);rintro e w1 ⟨rfl,hB1⟩;have HE1:=qtr HE0 hB1;have HB1:=qbl HB0 hB1;clear hB1)
  | (go_at_call 133;(with_reducible refine(HV1.out _ (by exact HR.out.below HE1.out)).mono ?_);rintro e w2 ⟨rfl,hB2⟩;have HE2:=qtr HE1 hB2;have HB2:=qbl HB1 hB2;clear hB2)
  | (refine zai rfl 25 [(0,.tmp 10),(1,.tmp 12)] rfl _ rr (.agg P2.toArray) (HBD.out _) ?_)
  | (refine zab rfl 25 (.tmp 4) (.tmp 13) rfl w2.heap.size P2 rr rr 25 (u8s (List.replicate 128 0)) (by exact Blk.new' rfl zc67) (by rw[HP2.out];exact hd67) HP1.out (by rw[HP2.out,zaa,lp9]) ?_;intro w3 hb3 ho3;have HE3:=qh (ho3.below (HE2.out.alloc HE2.out.size _) HE2.out.size (Nat.le_trans HE2.out.size sy));have HB3:=qal ho3 HB2 (by have:=HB2.out.lt;omega);have HK3:=qh hb3;have HG:=qh HE2.out.size;have HGN:Hid (w.heap.size≠w2.heap.size):=by have:=HB2.out.lt;show _≠_;omega
     clear hb3 ho3)
  | (go_at_call 133;(with_reducible refine(HV2.out _ (by exact HR.out.below HE3.out)).mono ?_);rintro e w4 ⟨rfl,hB4⟩;have HE4:=qtr HE3 hB4;have HB4:=qbl HB3 hB4;have HK4:=qbl HK3 hB4;clear hB4)
  | (refine zbv rfl 23 (.tmp 16) (.tmp 15) rfl w2.heap.size 64 (u8s D2) rr rr 25 P2 (by exact HK4.out) (by rw[HL2.out];exact hd24) (zac _) (by rw[HL2.out,HP2.out];omega) ?_;intro w5 hb5 ho5;have HE5:=qh (ho5.below HE4.out HG.out HE4.out.size);have HB5:=qon ho5 HB4 HGN;have HK5:=qh hb5;clear hb5 ho5)
  | (go_at_call 133;(with_reducible refine(HV3.out _ (by exact HR.out.below HE5.out)).mono ?_);rintro e w6 ⟨rfl,hB6⟩;have HE6:=qtr HE5 hB6;have HB6:=qbl HB5 hB6;have HK6:=qbl HK5 hB6;clear hB6)
  | (refine zbv rfl 23 (.tmp 19) (.tmp 18) rfl w2.heap.size 96 (u8s D3) rr rr 25 (splice P2 64 (u8s D2)) (by exact HK6.out) (by rw[HL3.out];exact hd24) (zac _) (by rw[HL3.out,HP3.out];omega) ?_;intro w7 hb7 ho7;rw[HKF.out]at hb7;have HE7:=qh (ho7.below HE6.out HG.out HE6.out.size);have HB7:=qon ho7 HB6 HGN;have l1:(ldAt 25 (.pointer (some ⟨w2.heap.size,0,none⟩))).run Tryz.prog w7=.ok (.agg KK.toArray) w7:=zal hb7 _ 0 KK (by rw[List.drop_zero,tk lr]) _ Tryz.underlying25 rfl (by rw[HKL.out];exact hd67);clear hb7 ho7)
  | (refine zab rfl 25 (.tmp 2) (.tmp 20) rfl w.heap.size KK rr rr 25 (u8s (List.replicate 128 0)) (by exact HB7.out) (by rw[HKL.out];exact hd67) HK1.out (by rw[HKL.out,zaa,lp9]) ?_;intro w8 hb8 ho8;have HE8:=qh (ho8.below HE7.out lr HE7.out.size)))
 exact bodyPost_ret (zak rfl _ _ _ _ rfl hb8 _ Tryz.underlying25 rfl (by rw[HKL.out];exact hd67)) rfl ⟨rfl,HE8.out⟩
end
end Go.Proofs.YtpgpaenloaphaaaGreat
