/- Part of the proof. -/
import Derived.Great.BuildSlice
import Derived.Lib.SmallJoins
import Derived.Test.YtpgpaenloaphaaaGreatPkx31
import Derived.Test.YtpgpaenloaphaaaGreatPkx37
import Derived.Test.YtpgpaenloaphaaaGreatPkx40
set_option maxRecDepth 100000
set_option maxHeartbeats 0
namespace Go.Proofs.YtpgpaenloaphaaaGreat
open Go.RowKit
section
section
variable{P:Program}{w:World}{ops:Array Oper}{rest:List Oper}{o:Oper}{a:Act}{K:Act→World→Prop}{Q:Exit→Act→World→Prop}
theorem zpc(t e:TypeId)(x:Operand)(ho:o.op=.buildSlice t 1 #[(0,x)])(cs:List Value)(hx:a.eval x=.agg cs.toArray)(hu:P.underlying t=some (.slice e))(hi:(P.info? e).map (fun i=>((i.zero.map (fun z=>z.cells.size)),i.size))=some (some cs.length,cs.length))(hpos:0<cs.length)(hsm:cs.length≤16777216)
 (h:K (a.put o.dst (.slice (some ⟨w.heap.size,0,none⟩) 1 1)) (w.alloc (.cells cs.toArray e))):o.wp P a w K Q:=by
 cases hie:P.info? e with
 | none=>simp[hie]at hi
 | some ie =>
  cases hz:ie.zero with
  | none=>simp[hie,hz]at hi
  | some z =>
   simp only[hie,hz,Option.map_some,Option.some.injEq,Prod.mk.injEq]at hi;refine wp_buildSlice t e 1 #[(0,x)] ho cs.toArray ie z hu hie hz (by rw[hi.2];omega) (by rw[hi.2];omega) ?_ h;have h1:(#[(0,x)].map fun(p:Nat × Operand)=>(p.1,a.eval p.2)).toList=[(0,.agg cs.toArray)]:=by simp[hx]
   have h2:∃Z:List Value,((Array.range (1*ie.size)).map (z.cells[· % z.cells.size]!))=Z.toArray∧Z.length=cs.length:=⟨((Array.range (1*ie.size)).map (z.cells[· % z.cells.size]!)).toList,Array.toArray_toList.symm,by simp[hi.2]⟩;obtain⟨Z,hZ,hZl⟩:=h2
   show Instr.fill _ _ (#[(0,x)].map fun(p:Nat × Operand)=>(p.1,a.eval p.2)).toList=_
   rw[h1,hZ,za5 (cs:=cs) (off:=0) rfl (by simp[hi.2]) om,zao _ _ hZl.symm]
   rfl
theorem zb2(hgd:o.guard=none)(t e:TypeId)(x:Operand)(ho:o.op=.buildSlice t 1 #[(0,x)])(cs:List Value)(hx:a.eval x=.agg cs.toArray)(hu:P.underlying t=some (.slice e))(hi:(P.info? e).map (fun i=>((i.zero.map (fun z=>z.cells.size)),i.size))=some (some cs.length,cs.length))(hpos:0<cs.length)(hsm:cs.length≤16777216)
 (h:wpList P ops Q rest (a.put o.dst (.slice (some ⟨w.heap.size,0,none⟩) 1 1)) (w.alloc (.cells cs.toArray e))):wpList P ops Q (o :: rest) a w :=
 zby hgd fun _ hK=>zpc t e x ho cs hx hu hi hpos hsm (hK _ _ h)
end
theorem z1sp:(Tryz.prog.info? 43).map (fun i=>((i.zero.map (fun z=>z.cells.size)),i.size))=some (some 192,192):=by kernel_rfl
end
section
theorem hd67:(Tryz.prog.info? 25).map (·.size)=some 128:=by kernel_rfl
theorem hd72:(Tryz.prog.info? 27).map (·.size)=some 192:=by kernel_rfl
def places69:Array (Nat × Nat):=#[(0,128),(128,32),(160,32)]
theorem pl69(fields:Array Field)(h:Tryz.prog.underlying 43 = some (.struct fields))(w:World):(fields.mapM (fun f=>do pure (f.offset,←sizeOf f.type)):Sem (Array (Nat × Nat))).run Tryz.prog w=.ok places69 w:=by
 rw[Tryz.underlying43]at h
 injection h with h
 injection h with h
 subst h
 kernel_rfl
def Sp.keys(s:Sp):List UInt8:=s.mac++(s.stream++(s.pay++s.blind))
theorem Sp.bytes_is(s:Sp):s.bytes=s.keys++(s.alpha++s.secret):=by simp[Sp.bytes,Sp.keys]
theorem Sp.keys_len{s:Sp}(h:s.ok):s.keys.length=128:=by simp[Sp.keys,h.1,h.2.1,h.2.2.1,h.2.2.2.1]
theorem bld_sp(s:Sp)(h:s.ok)(w:World):(Instr.build 43 #[(0,.agg (u8s s.keys).toArray),(1,.agg (u8s s.alpha).toArray),(2,.agg (u8s s.secret).toArray)]).run Tryz.prog w=.ok (.agg s.cells.toArray) w:=by
 have e0:(u8s s.keys).length=128:=by rw[zaa,Sp.keys_len h]
 have e1:(u8s s.alpha).length=32:=by rw[zaa,h.2.2.2.2.1]
 have e2:(u8s s.secret).length=32:=by rw[zaa,h.2.2.2.2.2]
 refine zce Tryz.zeroValue43 Tryz.underlying43 (pl69 _ Tryz.underlying43) ?_ w;rw[zcSp]
 show Instr.fill _ _ [(0,_),(1,_),(2,_)]=_
 rw [za5 (cs:=u8s s.keys) rfl (by rw[e0];rfl) (by rw[e0,zaa,lp9];omega),
   za5 (cs:=u8s s.alpha) rfl (by rw[e1];rfl) (by rw[length_splice _ _ _ (by rw[e0,zaa,lp9];omega),e1,zaa,lp9];omega),
   za5 (cs:=u8s s.secret) rfl (by rw[e2];rfl) (by rw[length_splice _ _ _ (by rw[length_splice _ _ _ (by rw[e0,zaa,lp9];omega),e1,zaa,lp9];omega),length_splice _ _ _ (by rw[e0,zaa,lp9];omega),e2,zaa,lp9];omega)]
 have:splice (splice (splice (u8s (List.replicate 192 0)) 0 (u8s s.keys)) 128 (u8s s.alpha)) 160 (u8s s.secret)=s.cells:=by
  rw[splice_splice_splice _ _ _ _ 128 32 e0 e1 (by rw[zaa,lp9,e2])];rw[Sp.cells,Sp.bytes_is,zad,zad]
 rw[this]
 rfl
theorem znk(v:Value):Instr.loadAt 25 v=ldAt 25 v:=rfl
theorem ldq_24(v:Value):Instr.loadAt 23 v=ldAt 23 v:=rfl
attribute [local go_sem ↓] znk ldq_24
end
def lbls:List ByteArray:=[⟨#[109,97,99]⟩,⟨#[115,116,114,101,97,109]⟩,⟨#[112,97,121]⟩,⟨#[98,108,105,110,100]⟩]
def kys(s:List UInt8):List UInt8:=keysOf s lbls
theorem znl(s:List UInt8):kys s=Wd.derive s lMac++(Wd.derive s lStream++(Wd.derive s lPay++Wd.derive s lBlind)):=by
 simp[kys,keysOf,lbls,lMac,lStream,lPay,lBlind]
theorem zht(s:List UInt8):(kys s).length=128:=ziy s lbls
theorem zmw(al s:List UInt8):(stp al s).keys=kys s:=by rw[znl];rfl
def places67:Array (Nat × Nat):=#[(0,32),(32,32),(64,32),(96,32)]
theorem pl67(fields:Array Field)(h:Tryz.prog.underlying 25 = some (.struct fields))(w:World):(fields.mapM (fun f=>do pure (f.offset,←sizeOf f.type)):Sem (Array (Nat × Nat))).run Tryz.prog w=.ok places67 w:=by
 rw[Tryz.underlying25]at h
 injection h with h
 injection h with h
 subst h
 kernel_rfl
theorem zc67:Tryz.zeroCells25 = (u8s (List.replicate 128 0)).toArray:=by kernel_rfl
theorem zgx{α:Type}(Z X1 X2 X3 X4:List α)(k:Nat)(h1:X1.length=k)(h2:X2.length=k)(h3:X3.length=k)(hZ:Z.length=k+k+k+X4.length):
 splice (splice (splice (splice Z 0 X1) k X2) (k+k) X3) (k+k+k) X4=X1++(X2++(X3++X4)):=by
 have e1:splice Z 0 X1=X1++Z.drop k:=by simp[splice,h1]
 rw[e1]
 have e2:splice (X1++Z.drop k) k X2=X1++(X2++Z.drop (k+k)):=by
  unfold splice
  rw[List.take_left' h1,h2,List.drop_append,List.drop_eq_nil_of_le om,List.nil_append,List.drop_drop,h1,Nat.add_sub_cancel_left]
 rw[e2,←as9 X1]
 have e3:splice ((X1++X2)++Z.drop (k+k)) (k+k) X3=(X1++X2)++(X3++Z.drop (k+k+k)):=by
  unfold splice
  rw[List.take_left' (by simp[h1,h2]),h3,List.drop_append,List.drop_eq_nil_of_le (by simp[h1,h2]),List.nil_append,List.drop_drop,la9,h1,h2,Nat.add_sub_cancel_left]
 rw[e3,←as9 (X1++X2)]
 unfold splice
 rw[List.take_left' (by simp[h1,h2,h3];omega),List.drop_append,List.drop_eq_nil_of_le (by simp[h1,h2,h3];omega),List.nil_append,List.drop_drop,List.drop_eq_nil_of_le (by simp[h1,h2,h3,hZ];omega),List.append_nil]
 simp
theorem zx3(a b c d:List UInt8)(ha:a.length=32)(hb:b.length=32)(hc:c.length=32)(hd:d.length=32)(w:World):(Instr.build 25 #[(0,.agg (u8s a).toArray),(1,.agg (u8s b).toArray),(2,.agg (u8s c).toArray),(3,.agg (u8s d).toArray)]).run Tryz.prog w=.ok (.agg (u8s (a++(b++(c++d)))).toArray) w:=by
 have e0:(u8s a).length=32:=by rw[zaa,ha]
 have e1:(u8s b).length=32:=by rw[zaa,hb]
 have e2:(u8s c).length=32:=by rw[zaa,hc]
 have e3:(u8s d).length=32:=by rw[zaa,hd]
 have z0:(u8s (List.replicate 128 0)).length=128:=by rw[zaa,lp9]
 have l1:(splice (u8s (List.replicate 128 0)) 0 (u8s a)).length=128:=by rw[length_splice _ _ _ (by rw[e0,z0];omega),z0]
 have l2:(splice (splice (u8s (List.replicate 128 0)) 0 (u8s a)) 32 (u8s b)).length=128:=by rw[length_splice _ _ _ (by rw[e1,l1];omega),l1]
 have l3:(splice (splice (splice (u8s (List.replicate 128 0)) 0 (u8s a)) 32 (u8s b)) 64 (u8s c)).length=128:=by rw[length_splice _ _ _ (by rw[e2,l2];omega),l2]
 refine zce Tryz.zeroValue25 Tryz.underlying25 (pl67 _ Tryz.underlying25) ?_ w;rw[zc67]
 show Instr.fill _ _ [(0,_),(1,_),(2,_),(3,_)]=_
 rw [za5 (cs:=u8s a) rfl (by rw[e0];rfl) (by rw[e0,z0];omega),za5 (cs:=u8s b) rfl (by rw[e1];rfl) (by rw[e1,l1];omega),
   za5 (cs:=u8s c) rfl (by rw[e2];rfl) (by rw[e2,l2];omega),za5 (cs:=u8s d) rfl (by rw[e3];rfl) (by rw[e3,l3];omega)]
 have:splice (splice (splice (splice (u8s (List.replicate 128 0)) 0 (u8s a)) 32 (u8s b)) 64 (u8s c)) 96 (u8s d)=u8s (a++(b++(c++d))):=by
  rw[zgx _ _ _ _ _ 32 e0 e1 e2 (by rw[z0,e3])]
  simp[zad]
 rw[this]
 rfl
theorem sz32a(w:World):(sizeOf 23).run Tryz.prog w=.ok 32 w:=by kernel_rfl
theorem zvm{P:Program}{o:Oper}{a:Act}{w:World}(t:TypeId)(parts:List (Nat × Operand))(ho:o.op=.build t parts.toArray)(parts':List (Nat × Value))(he:parts.map (fun p=>(p.1,a.eval p.2))=parts'){v:Value}(hrun:(Instr.build t parts'.toArray).run P w=.ok v w):(execOp a.eval o).run P w=.ok (.value v) w:=by
 unfold execOp
 simp only[ho,Sem.run_bind,List.map_toArray,he,hrun,Sem.run_pure,Result.andThen_ok]
theorem zoy(A:Option Addr)(c:Nat)(s:List UInt8)(w:World)(h:Rd w A 32 (u8s s))(hc:32≤c):
 Calls Tryz.prog 131 #[.slice A 32 c] w fun e w'=>e=.returned (.tuple #[.agg (u8s (kys s)).toArray,.int .i64 0])∧Below w.heap.size w w':=by
 have HR:=qh h
 have HDV:Hid (∀W A2,Rd W A 32 (u8s s)→Rd W A2 4 (strs lbls)→Calls Tryz.prog 138 #[.slice A 32 c,.slice A2 4 4] W fun e w'=>∃g,e=.returned (.slice (some ⟨g,0,none⟩) 4 4)∧W.heap.size≤g∧Blk w' g 23 (u8s (kys s))∧Below W.heap.size W w'):=fun W A2 h1 h2 =>
  zi3 A 32 c s A2 4 4 lbls W h1 hc om h2 om om (by intro l hl;simp only[lbls,List.mem_cons,List.not_mem_nil,or_false]at hl;rcases hl with rfl|rfl|rfl|rfl <;> decide)
 obtain⟨D0,hD0⟩:=ex9 (Wd.derive s lMac);obtain⟨D1,hD1⟩:=ex9 (Wd.derive s lStream);obtain⟨D2,hD2⟩:=ex9 (Wd.derive s lPay);obtain⟨D3,hD3⟩:=ex9 (Wd.derive s lBlind);have l0:D0.length=32:=by rw[hD0];exact Wd.derive_len _ _
 have l1:D1.length=32:=by rw[hD1];exact Wd.derive_len _ _
 have l2:D2.length=32:=by rw[hD2];exact Wd.derive_len _ _
 have l3:D3.length=32:=by rw[hD3];exact Wd.derive_len _ _
 have hk:kys s=D0++(D1++(D2++D3)):=by rw[znl,hD0,hD1,hD2,hD3]
 have HKL:Hid ((u8s (kys s)).length=128):=by show _=_;rw[zaa,zht]
 generalize kys s=KK at *;have HBD:Hid (∀W,(Instr.build 25 [(0,(.agg (u8s D0).toArray:Value)),(1,.agg (u8s D1).toArray),(2,.agg (u8s D2).toArray),(3,.agg (u8s D3).toArray)].toArray).run Tryz.prog W=.ok (.agg (u8s KK).toArray) W):=fun W=>by rw[hk];exact zx3 D0 D1 D2 D3 l0 l1 l2 l3 W
 have hld:∀(W:World) (g o:Nat) (D:List UInt8),Blk W g 23 (u8s KK)→D.length=32→(KK.drop o).take 32=D→(ldAt 23 (.pointer (some ⟨g,o,none⟩))).run Tryz.prog W=.ok (.agg (u8s D).toArray) W:=fun W g o D hb hl he =>
  zat hb _ o (u8s D) (by rw[zaa,hl,zbd,zav,he]) _ Tryz.underlying23 rfl (by rw[zaa,hl];exact hd24)
 have HD0:Hid (∀g W,Blk W g 23 (u8s KK)→(ldAt 23 (.pointer (some ⟨g,0,none⟩))).run Tryz.prog W=.ok (.agg (u8s D0).toArray) W):=fun g W hb=>hld W g 0 D0 hb l0 (by rw[hk,List.drop_zero,List.take_left' l0])
 have HD1:Hid (∀g W,Blk W g 23 (u8s KK)→(ldAt 23 (.pointer (some ⟨g,32,none⟩))).run Tryz.prog W=.ok (.agg (u8s D1).toArray) W):=fun g W hb=>hld W g 32 D1 hb l1 (by rw[hk,List.drop_left' l0,List.take_left' l1])
 have HD2:Hid (∀g W,Blk W g 23 (u8s KK)→(ldAt 23 (.pointer (some ⟨g,64,none⟩))).run Tryz.prog W=.ok (.agg (u8s D2).toArray) W):=fun g W hb=>hld W g 64 D2 hb l2 (by rw[hk,←as9,List.drop_left' (by rw[la9,l0,l1]),List.take_left' l2])
 have HD3:Hid (∀g W,Blk W g 23 (u8s KK)→(ldAt 23 (.pointer (some ⟨g,96,none⟩))).run Tryz.prog W=.ok (.agg (u8s D3).toArray) W):=fun g W hb=>hld W g 96 D3 hb l3 (by rw[hk,←as9,←as9,List.drop_left' (by rw[la9,la9,l0,l1,l2]),tk (by rw[l3];exact lr)])
 have HB0:Hid (Blk (w.alloc (.cells Tryz.zeroCells25 25)) w.heap.size 25 (u8s (List.replicate 128 0))):=Blk.new' rfl zc67;have HE0:Hid (Below w.heap.size w (w.alloc (.cells Tryz.zeroCells25 25))):=(Below.refl _ w).alloc lr _;clear h hD0 hD1 hD2 hD3 l0 l1 l2 l3 hk hld hc
 go_enter Tryz.func131, Tryz.ntmps131
 go_upto_region 4 with (go_at_call 138;(refine(HDV.out _ _ (by exact(HR.out.alloc _).alloc _) (by exact(show Blk _ (w.heap.size+1) 9 (strs lbls) from Blk.new' sy rfl).rd 0 4 (by decide))).mono ?_);rintro e w1 ⟨g,rfl,hg,hb1,hB1⟩)
 have hB1':Below w.heap.size w w1:=((HE0.out.alloc sy _).trans (hB1.mono (by simp;omega)));have HB1:=qh ((HB0.out.alloc _).below hB1 (by simp;omega));have HE1:=qh hB1';have HKD:Hid (Blk { w1 with drawn:=w1.drawn+1 } g 23 (u8s KK)):=hb1.drew;have HGG:Hid (g≠w.heap.size):=by show _≠_;simp at hg;omega
 clear hb1 hB1 hB1' hg;go_wp2;refine kgo kr 13 (fun W'=>Blk W' g 23 (u8s KK)) HKD.out (fun _ _ _ _ _ h=>h) ?_;refine kp 0 (.slice (some ⟨g,0,none⟩) 4 4) rfl kr (fun _=>kr) ?_;refine kp 1 (.pointer (some ⟨g,0,none⟩)) rfl kr (fun _=>(zbq (t:=60) (e:=23) (x:=.tmp 12) (y:=.const (.int .i64 0)) (g:=g) (off:=0) (n:=4) (c:=4) (p:=0) (sz:=32) rr kr rfl om Tryz.underlying60 sz32a)) ?_;refine kl 2 (.agg (u8s D0).toArray) rfl kr (fun w' hw'=>zgo (x:=.tmp 13) rr kr (HD0.out g w' hw')) ?_;refine kp 3 (.slice (some ⟨g,0,none⟩) 4 4) rfl kr (fun _=>kr) ?_;refine kp 4 (.pointer (some ⟨g,32,none⟩)) rfl kr (fun _=>(zbq (t:=60) (e:=23) (x:=.tmp 15) (y:=.const (.int .i64 1)) (g:=g) (off:=0) (n:=4) (c:=4) (p:=1) (sz:=32) rr kr rfl om Tryz.underlying60 sz32a)) ?_;refine kl 5 (.agg (u8s D1).toArray) rfl kr (fun w' hw'=>zgo (x:=.tmp 16) rr kr (HD1.out g w' hw')) ?_;refine kp 6 (.slice (some ⟨g,0,none⟩) 4 4) rfl kr (fun _=>kr) ?_;refine kp 7 (.pointer (some ⟨g,64,none⟩)) rfl kr (fun _=>(zbq (t:=60) (e:=23) (x:=.tmp 18) (y:=.const (.int .i64 2)) (g:=g) (off:=0) (n:=4) (c:=4) (p:=2) (sz:=32) rr kr rfl om Tryz.underlying60 sz32a)) ?_;refine kl 8 (.agg (u8s D2).toArray) rfl kr (fun w' hw'=>zgo (x:=.tmp 19) rr kr (HD2.out g w' hw')) ?_;refine kp 9 (.slice (some ⟨g,0,none⟩) 4 4) rfl kr (fun _=>kr) ?_;refine kp 10 (.pointer (some ⟨g,96,none⟩)) rfl kr (fun _=>(zbq (t:=60) (e:=23) (x:=.tmp 21) (y:=.const (.int .i64 3)) (g:=g) (off:=0) (n:=4) (c:=4) (p:=3) (sz:=32) rr kr rfl om Tryz.underlying60 sz32a)) ?_;refine kl 11 (.agg (u8s D3).toArray) rfl kr (fun w' hw'=>zgo (x:=.tmp 22) rr kr (HD3.out g w' hw')) ?_;refine kp 12 (.agg (u8s KK).toArray) rfl kr (fun _=>zvm 25 [(0,.tmp 14),(1,.tmp 17),(2,.tmp 20),(3,.tmp 23)] rr [(0,(.agg (u8s D0).toArray:Value)),(1,.agg (u8s D1).toArray),(2,.agg (u8s D2).toArray),(3,.agg (u8s D3).toArray)] kr (HBD.out _)) ?_;intro q8 q9;clear q8 q9;refine AnyK.storeAll 13 w.heap.size (u8s KK) 25 (u8s (List.replicate 128 0)) rr rfl rfl rr kr kr kr HB1.out.drew (by rw[HKL.out];exact hd67) (zac _) (by rw[HKL.out,zaa,lp9]) (fun _ _ _ h=>(by cases h)) ?_;intro w2 hb2 ho2;have HE2:=qh (ho2.below HE1.out.drew lr HE1.out.size);refine AnyK.val 14 (v:=.int .i64 0) rr kr rfl kr (fun h=>(by cases h)) ?_;refine AnyK.done kr ?_;go_wp2;exact bodyPost_ret (zaj (p:=2) (u:=3) (ty:=25) rfl _ w.heap.size 25 (u8s KK) kr hb2 _ Tryz.underlying25 rfl (by rw[HKL.out];exact hd67)) rfl ⟨by kernel_rfl,HE2.out⟩
section
attribute [local go_sem ↓] znk zcg
theorem zn6(al sec:List UInt8)(h1:al.length=32)(h2:sec.length=32)(w:World):
 Calls Tryz.prog 89 #[.agg (u8s al).toArray,.agg (u8s sec).toArray] w fun e w'=>e=.returned (.tuple #[.agg (stp al sec).cells.toArray,.int .i64 0])∧Below w.heap.size w w':=by
 have hok:=zmv h1 h2
 have HBD:Hid (∀W,(Instr.build 43 [(0,(.agg (u8s (kys sec)).toArray:Value)),(1,.agg (u8s al).toArray),(2,.agg (u8s sec).toArray)].toArray).run Tryz.prog W=.ok (.agg (stp al sec).cells.toArray) W):=fun W=>by
  have:=bld_sp (stp al sec) hok W
  rwa [zmw]at this
 have HCL:Hid ((stp al sec).cells.length=192):=Sp.cells_len hok;have HC1:=qh (Sp.cells_one (stp al sec));generalize (stp al sec).cells=C at *;have HKL:Hid ((u8s (kys sec)).length=128):=by show _=_;rw[zaa,zht]
 have HK1:Hid (∀v∈u8s (kys sec),v.oneCell'=true):=zac _;have HKO:Hid (∀W A,Rd W A 32 (u8s sec)→Calls Tryz.prog 131 #[.slice A 32 32] W fun e w'=>e=.returned (.tuple #[.agg (u8s (kys sec)).toArray,.int .i64 0])∧Below W.heap.size W w'):=fun W A h=>zoy A 32 sec W h om
 have HAL:Hid ((u8s al).length=32):=by show _=_;rw[zaa,h1]
 have HSL:Hid ((u8s sec).length=32):=by show _=_;rw[zaa,h2]
 generalize u8s (kys sec)=KK at *;generalize u8s al=AL at *;generalize u8s sec=SE at *;obtain⟨W0,hW0⟩:=ex9 (((w.alloc (.cells AL.toArray 23)).alloc (.cells SE.toArray 23)).alloc (.cells Tryz.zeroCells43 43));have HA0:Hid (Blk W0 w.heap.size 23 AL):=by rw[hW0];exact((Blk.new w _ _).alloc _).alloc _
 have HS0:Hid (Blk W0 (w.heap.size+1) 23 SE):=by rw[hW0];exact(show Blk (((w.alloc (.cells AL.toArray 23)).alloc (.cells SE.toArray 23))) (w.heap.size+1) 23 SE from Blk.new' sy rfl).alloc _
 have HZ0:Hid (Blk W0 (w.heap.size+2) 43 (u8s (List.replicate 192 0))):=by rw[hW0];exact Blk.new' sy zcSp
 have HE0:Hid (Below w.heap.size w W0):=by rw[hW0];exact(((Below.refl _ w).alloc lr _).alloc sy _).alloc (by simp;omega) _
 have HR0:Hid (Rd W0 (some ⟨w.heap.size+1,0,none⟩) 32 SE):=by have:=HS0.out.rd 0 32 (by rw[HSL.out];exact lr);rwa [List.drop_zero,tk (by rw[HSL.out];exact lr)]at this
 subst hW0;clear h1 h2 hok
 go_enter Tryz.func89, Tryz.ntmps89
 go_wp2_with (first
  | (go_at_call 131;(refine(HKO.out _ _ (by exact HR0.out)).mono ?_);rintro e w1 ⟨rfl,hB1⟩;have HE1:=qtr HE0 hB1;have HA1:=qbl HA0 hB1;have HS1:=qbl HS0 hB1;have HZ1:=qbl HZ0 hB1;clear hB1)
  | (refine zab rfl 25 (.tmp 6) (.tmp 11) rfl w1.heap.size KK rr rr 25 (u8s (List.replicate 128 0)) (by exact Blk.new' rfl zc67) (by rw[HKL.out];exact hd67) HK1.out (by rw[HKL.out,zaa,lp9]) ?_;intro w2 hb2 ho2;have HE2:=qh (ho2.below (HE1.out.alloc HE1.out.size _) HE1.out.size (Nat.le_trans HE1.out.size sy));have HZ2:=qal ho2 HZ1 (by have:=HZ1.out.lt;omega);have l1:=zeo (ho2.blk (HA1.out.alloc _) (by have:=HA1.out.lt;omega)) HAL.out;have l2:=zeo (ho2.blk (HS1.out.alloc _) (by have:=HS1.out.lt;omega)) HSL.out;have l3:(ldAt 25 (.pointer (some ⟨w1.heap.size,0,none⟩))).run Tryz.prog w2=.ok (.agg KK.toArray) w2:=zat hb2 _ 0 KK (by rw[List.drop_zero,tk lr]) _ Tryz.underlying25 rfl (by rw[HKL.out];exact hd67);clear hb2 ho2)
  | (refine zaq rfl 43 [(0,.tmp 17),(1,.tmp 18),(2,.tmp 19)] rfl _ rr (.agg C.toArray) (HBD.out _) ?_)
  | (refine zab rfl 43 (.tmp 4) (.tmp 20) rfl (w.heap.size+2) C rr rr 43 (u8s (List.replicate 192 0)) (by exact HZ2.out) (by rw[HCL.out];exact hd69) HC1.out (by rw[HCL.out];rfl) ?_;intro w3 hb3 ho3;have HE3:=qh (ho3.below HE2.out om HE2.out.size)))
 exact bodyPost_ret (zaj rfl _ _ _ _ rfl hb3 _ Tryz.underlying43 rfl (by rw[HCL.out];exact hd69)) rfl ⟨rfl,HE3.out⟩
end
theorem zw2(w:World)(base:Nat)(e:TypeId):w.ownsRow base e 1 (.slice none 0 0) 0 (u8s []):=⟨rfl,.inl ⟨rfl,rfl⟩⟩
theorem zlq(A:Option Addr)(n c:Nat)(k:List UInt8)(A2:Option Addr)(n2 c2:Nat)(info:List UInt8)(w:World)(h:Rd w A n (u8s k))(hn:n≤100000000)(h2:Rd w A2 n2 (u8s info))(hn2:n2≤1000000):
 Calls Tryz.prog 161 #[.slice A n c,.int .i64 32,.slice A2 n2 c2] w fun e w'=>∃A' c',e=.returned (.tuple #[.slice A' 32 c',.int .i64 0])∧32≤c'∧Rd w' A' 32 (u8s (Wd.expand k info))∧Below w.heap.size w w':=by
 have HTG:=qh (fun W A3 c3 (h1:Rd W A n (u8s k)) (h3:Rd W A3 (n2+1) (u8s (info++[1])))=>zgf A n c k A3 (n2+1) c3 (info++[1]) W h1 hn h3 om);have HXL:Hid ((Mc.tag k (info++[1])).length=32):=Mc.tag_len _ _;have HI2:Hid ((Tryz.prog.info? 23).map (·.size)=some (u8s (Mc.tag k (info++[1]))).length):=by rw[zaa,Mc.tag_len];exact hd24
 have HL2:Hid ((u8s (Mc.tag k (info++[1]))).length=(u8s (List.replicate 32 0)).length):=by show _=_;rw[zaa,Mc.tag_len];rfl
 have H1:Hid (∀v∈u8s (Mc.tag k (info++[1])),v.oneCell'=true):=zac _;have HEX:Hid (Wd.expand k info=Mc.tag k (info++[1])):=rfl;obtain⟨X,hX⟩:=ex9 (Mc.tag k (info++[1]));rw[HEX.out,←hX];rw[←hX]at HTG HXL HI2 HL2 H1;obtain⟨U,hU⟩:=ex9 (u8s X);rw[←hU]at HTG HI2 HL2 H1;have HU:=qh hU;have HC0:=qh (fun W=>zbk none 0 0 [] W (Rd.nil _ _) om);have HC32:=qh (fun W A3 c3 (h3:Rd W A3 32 (u8s X))=>zbk A3 32 c3 X W h3 om);have HR:=qh h;have HR2:=qh h2;clear h h2 hX hU HEX
 go_enter Tryz.func161, Tryz.ntmps161
 go_wp2_with fail
 go_loopg [8,9,10] 1 (fun kk v la q wr=>Below w.heap.size w wr∧((kk=1∧v=.slice none 0 0∧la=.slice none 0 0∧q=.int .i64 1) ∨
   (kk=0∧q=.int .i64 2∧∃A' c',v=.slice A' 32 c'∧32≤c'∧wr.ownsRow w.heap.size 5 1 (.slice A' 32 c') 32 (u8s X))))
 case atStart=>exact⟨Below.refl _ _,.inl ⟨rfl,rfl,rfl,rfl⟩⟩
 case round =>
  obtain⟨hB,⟨hgk,rfl,rfl,rfl⟩|⟨hgk,rfl,A',c',rfl,hc',hown⟩⟩:=hrel
  · have HGK:=qh hgk
    have HBE:=qh hB;have hbs:=hB.size;clear hgk hB
    go_wp2_with (first
     | (go_at_call 12;(with_reducible refine(HC32.out _ _ _ HR9.out).mono ?_);rintro e w10 ⟨A10,c10,rfl,hc10,hown10,hB10⟩;have HE10:=qtr HE9 hB10;have HR10:=qh (Rd.of_own hown10);clear hown10 hB10)
     | (go_at_call 12;(with_reducible refine(HC0.out _).mono ?_);rintro e w3 ⟨A3,c3,rfl,hc3,hown3,hB3⟩;have HE3:=qtr HBE hB3;have HO3:=qh (za7 hown3 (base':=w.heap.size) hbs);clear hown3 hB3)
     | (at_builtin;refine zah rfl (.tmp 26) (.tmp 27) 22 rfl w.heap.size 5 1 1 Tryz.underlying22 eU8 (.slice A3 0 c3) 0 (u8s []) rr (by exact HO3.out) A2 n2 c2 (u8s info) rr (by exact(HR2.out.below HE3.out).toS) (zac _) om om HE3.out.size ?_;intro A4 c4 w4 hown4 hc4 hg4 hat4;have HE4:=qh (HE3.out.grown hg4 HE3.out.size (fun g hg=>(HO3.out.lt g hg).1));have HO4:Hid (w4.ownsRow w.heap.size 5 1 (.slice A4 n2 c4) n2 (u8s info)):=(by have h5:=hown4;rw[Nat.zero_add]at h5;exact h5);clear hown4 hg4 hat4)
     | (at_builtin;refine zah rfl (.tmp 28) (.tmp 31) 22 rfl w.heap.size 5 1 1 Tryz.underlying22 eU8 (.slice A4 n2 c4) n2 (u8s info) rr (by exact HO4.out.alloc _) (some ⟨w4.heap.size,0,none⟩) 1 1 (u8s [1]) rr (by exact RdS.new w4 5 (u8s [1]) 1 rfl) (zac _) om om (Nat.le_trans HE4.out.size sy) ?_;intro A5 c5 w5 hown5 hc5 hg5 hat5;have HE5:=qh ((HE4.out.alloc HE4.out.size _).grown hg5 (Nat.le_trans HE4.out.size sy) (fun g hg=>(HO4.out.lt g hg).1));have HR5:=qh (Rd.of_own hown5);rw[←zad]at HR5;clear hown5 hg5 hat5)
     | (go_at_call 128;(with_reducible refine(HTG.out _ _ _ (HR.out.below HE5.out) HR5.out).mono ?_);rintro e w7 ⟨rfl,hB7⟩;have HE7:=qtr HE5 hB7;clear hB7)
     | (refine zab rfl 23 (.tmp 12) (.tmp 35) rfl w7.heap.size U rr rr 23 (u8s (List.replicate 32 0)) (by exact Blk.new' rfl rfl) HI2.out H1.out HL2.out ?_;intro w9 hb9 ho9;have HE9:=qh (ho9.below (HE7.out.alloc HE7.out.size _) HE7.out.size (Nat.le_trans HE7.out.size sy));have HR9:Hid (Rd w9 (some ⟨w7.heap.size,0,none⟩) 32 (u8s X)):=(by have h5:=hb9;rw[HU.out]at h5;have h6:=h5.rdAll;rw[HXL.out]at h6;exact h6);clear hb9 ho9)
     | (at_builtin;refine zah rfl (.tmp 38) (.tmp 39) 22 rfl w.heap.size 5 1 1 Tryz.underlying22 eU8 (.slice none 0 0) 0 (u8s []) rr (by exact zw2 _ _ _) A10 32 c10 (u8s X) rr (by exact HR10.out.toS) (zac _) om om HE10.out.size ?_;intro A11 c11 w11 hown11 hc11 hg11 hat11;have HE11:=qh (HE10.out.grown hg11 HE10.out.size (fun g hg=>by cases hg));have HO11:Hid (w11.ownsRow w.heap.size 5 1 (.slice A11 32 c11) 32 (u8s X)):=hown11;clear hown11 hg11 hat11))
    go_roundg 0
    case measure=>have:=HGK.out;omega
    case rel=>exact⟨HE11.out,.inr ⟨rfl,rfl,A11,c11,rfl,by omega,HO11.out⟩⟩
  · obtain⟨g,rfl,hg,_,hr⟩:=zb6 hown om
    have HRR:=qh hr;have HBE:=qh hB;clear hown hr hB;have hc2:(32:Int)≤(c':Int):=om
    go_wp2_with (go_at_call 12;(with_reducible refine(HC32.out _ _ _ HRR.out).mono ?_);rintro e w3 ⟨A3,c3,rfl,hc3,hown3,hB3⟩;have HE3:=qtr HBE hB3;have HR3:=qh (Rd.of_own hown3);clear hown3 hB3)
    go_ret2;exact⟨A3,c3,rfl,hc3,HR3.out,HE3.out⟩
theorem zc7(A:Option Addr)(n c:Nat)(k:List UInt8)(S:ByteArray)(w:World)(h:Rd w A n (u8s k))(hn:n≤1000000)(hS:S.size≤1000):
 Calls Tryz.prog 133 #[.slice A n c,.string S] w fun e w'=>e=.returned (.agg (u8s (Wd.derive k S.data.toList)).toArray)∧Below w.heap.size w w':=by
 obtain⟨w0,hw0⟩:=ex9 (w.alloc (.cells (u8s (List.replicate 32 0)).toArray 23));have hs0:w0.heap.size=w.heap.size+1:=by rw[hw0];simp
 have htg:=zgf (some ⟨w.heap.size+1,0,none⟩) 7 7 Wd.salt A n c k (w0.alloc (.cells (u8s Wd.salt).toArray 5 (7,8))) (by rw[←hs0];exact zg6 w0 5 (u8s Wd.salt) (7,8)) om ((show Rd w0 A n (u8s k) by rw[hw0];exact h.alloc _).alloc _) om;have e7:(w0.alloc (.cells (u8s Wd.salt).toArray 5 (7,8))).heap.size=w.heap.size+2:=by simp[hs0]
 rw[e7,hw0]at htg;have HTG:Hid (Calls Tryz.prog 128 #[.slice (some ⟨w.heap.size+1,0,none⟩) 7 7,.slice A n c] ((w.alloc (.cells #[.int .u8 0,.int .u8 0,.int .u8 0,.int .u8 0,.int .u8 0,.int .u8 0,.int .u8 0,.int .u8 0,.int .u8 0,.int .u8 0,.int .u8 0,.int .u8 0,.int .u8 0,.int .u8 0,.int .u8 0,.int .u8 0,.int .u8 0,.int .u8 0,.int .u8 0,.int .u8 0,.int .u8 0,.int .u8 0,.int .u8 0,.int .u8 0,.int .u8 0,.int .u8 0,.int .u8 0,.int .u8 0,.int .u8 0,.int .u8 0,.int .u8 0,.int .u8 0] 23)).alloc (.cells #[.int .u8 115,.int .u8 104,.int .u8 97,.int .u8 108,.int .u8 108,.int .u8 111,.int .u8 116] 5 (7,8))) fun e w'=>e=.returned (.agg (u8s (Mc.tag Wd.salt k)).toArray)∧Below (w.heap.size+2) ((w.alloc (.cells (u8s (List.replicate 32 0)).toArray 23)).alloc (.cells (u8s Wd.salt).toArray 5 (7,8))) w'):=htg;have HXL:Hid ((Mc.tag Wd.salt k).length=32):=Mc.tag_len _ _;have HI2:Hid ((Tryz.prog.info? 23).map (·.size)=some (u8s (Mc.tag Wd.salt k)).length):=by rw[zaa,Mc.tag_len];exact hd24
 have HL2:Hid ((u8s (Mc.tag Wd.salt k)).length=(u8s (List.replicate 32 0)).length):=by show _=_;rw[zaa,Mc.tag_len];rfl
 have H1:Hid (∀v∈u8s (Mc.tag Wd.salt k),v.oneCell'=true):=zac _;have HDE:Hid (Wd.derive k S.data.toList=Wd.expand (Mc.tag Wd.salt k) S.data.toList):=rfl;obtain⟨X,hX⟩:=ex9 (Mc.tag Wd.salt k);rw[←hX]at HTG HXL HI2 HL2 H1 HDE;obtain⟨U,hU⟩:=ex9 (u8s X);rw[←hU]at HTG HI2 HL2 H1;have HU:=qh hU;have HEX:=qh (fun W g B c3 (h1:Rd W (some ⟨g,0,none⟩) 32 (u8s X)) (h3:Rd W B S.size (u8s S.data.toList))=>zlq (some ⟨g,0,none⟩) 32 32 X B S.size c3 S.data.toList W h1 om h3 om);rw[←HDE.out]at HEX;have hdl:(Wd.derive k S.data.toList).length=32:=Wd.derive_len _ _;obtain⟨D,hD⟩:=ex9 (Wd.derive k S.data.toList);rw[←hD]at HEX hdl ⊢;have HDI:Hid ((Tryz.prog.info? 23).map (·.size)=some (u8s D).length):=by rw[zaa,hdl];exact hd24
 have HDL:Hid ((u8s D).length=(u8s (List.replicate 32 0)).length):=by show _=_;rw[zaa,hdl];rfl
 have HD1:Hid (∀v∈u8s D,v.oneCell'=true):=zac _
 have HSP:Hid (splice (u8s (List.replicate 32 0)) 0 ((u8s D).take 32)=u8s D):=by
  show _=_
  rw[tk (by rw[zaa,hdl];exact lr)];exact zao _ _ HDL.out
 obtain⟨DU,hDU⟩:=ex9 (u8s D);rw[←hDU]at HDI HDL HD1 HSP ⊢;have HDU:=qh hDU;have kc:=fun(Z:Obj) (C:Array Value) (n c:Nat)=>Joins.run_convert_bytes_const_at (P:=Tryz.prog) (w.alloc Z) 22 5 C n c (w.heap.size+1) sy Tryz.underlying22 Tryz.underlying5
 clear h hw0 hs0 htg e7 hX hU hD hdl hDU HDE w0
 go_enter Tryz.func133, Tryz.ntmps133
 go_wp2_with (first
  | (go_at_call 128;(with_reducible refine HTG.out.mono ?_);rintro e w1 ⟨rfl,hB1⟩;have HE1:=qh ((((Below.refl _ w).alloc lr (.cells (u8s (List.replicate 32 0)).toArray 23)).alloc sy _).trans (hB1.mono om));have HZ1:=qh (((Blk.new' (w:=w) (cs:=u8s (List.replicate 32 0)) (t:=23) rfl rfl).alloc _).below hB1 om);clear hB1 kc)
  | (refine zab rfl 23 (.tmp 5) (.tmp 12) rfl w1.heap.size U rr rr 23 (u8s (List.replicate 32 0)) (by exact Blk.new' rfl rfl) HI2.out H1.out HL2.out ?_;intro w3 hb3 ho3;have hl1:=HZ1.out.lt;have HE3:=qh (ho3.below (HE1.out.alloc HE1.out.size _) HE1.out.size (Nat.le_trans HE1.out.size sy));have HZ3:=qh (ho3.blk (HZ1.out.alloc _) om);have HK3:Hid (Blk w3 w1.heap.size 23 (u8s X)):=(by rw[←HU.out];exact hb3);obtain⟨c5,w5,hcv,hc5,HRC,HBC⟩:=zi4 w3 S;have HE5:=qh (HE3.out.trans (HBC.out.mono HE3.out.size));have HZ5:=qh (HZ3.out.below HBC.out HZ3.out.lt);have HK5:Hid (Rd w5 (some ⟨w1.heap.size,0,none⟩) 32 (u8s X)):=(by have h6:=(HK3.out.below HBC.out HK3.out.lt).rdAll;rw[HXL.out]at h6;exact h6);clear hb3 ho3)
  | (go_at_call 161;(with_reducible refine(HEX.out w5 _ _ _ HK5.out HRC.out).mono ?_);rintro e w6 ⟨A6,c6,rfl,hc6,hr6,hB6⟩;have HE6:=qtr HE5 hB6;have HZ6:=qbl HZ5 hB6;have HR6:=qh hr6;clear hr6 hB6 hcv)
  | (refine za6 rfl (.tmp 20) (.tmp 21) 22 rfl 5 Tryz.underlying22 zbv w6.heap.size 0 32 32 rr A6 32 c6 rr 23 (u8s (List.replicate 32 0)) (by exact Blk.new' rfl rfl) (u8s D) (by exact HR6.out.alloc _) (zac _) (by rw[zaa];exact lr) ?_;intro w7 hb7 ho7;have hb7':=hb7;rw[←HDU.out,HSP.out]at hb7';have hl6:=HZ6.out.lt;have HE7:=qh (ho7.below (HE6.out.alloc HE6.out.size _) HE6.out.size (Nat.le_trans HE6.out.size sy));have HZ7:=qh (ho7.blk (HZ6.out.alloc _) om);have HR7:=qh hb7'.range;clear hb7 hb7' ho7)
  | refine wpList_load_mid rfl 23 (.tmp 8) rfl w6.heap.size 0 rr DU _ HR7.out Tryz.underlying23 rfl HDI.out ?_
  | (refine zab rfl 23 (.tmp 4) (.tmp 23) rfl w.heap.size DU rr rr 23 _ HZ7.out HDI.out HD1.out HDL.out ?_;intro w8 hb8 ho8))
 exact bodyPost_ret (zam rfl _ w.heap.size _ DU rfl hb8 _ Tryz.underlying23 rfl HDI.out) rfl ⟨rfl,ho8.below HE7.out lr HE7.out.size⟩
section
attribute [local go_sem ↓] znk
def ky2(D0 D1:List UInt8):List Value:=splice (splice (u8s (List.replicate 128 0)) 0 (u8s D0)) 32 (u8s D1)
theorem zxn(D0 D1:List UInt8)(h0:D0.length=32)(h1:D1.length=32):(ky2 D0 D1).length=128:=by
 have z0:(u8s (List.replicate 128 0)).length=128:=by rw[zaa,lp9]
 have e0:(u8s D0).length=32:=by rw[zaa,h0]
 have e1:(u8s D1).length=32:=by rw[zaa,h1]
 have l1:(splice (u8s (List.replicate 128 0)) 0 (u8s D0)).length=128:=by rw[length_splice _ _ _ (by rw[e0,z0];omega),z0]
 rw[ky2,length_splice _ _ _ (by rw[e1,l1];omega),l1]
theorem zif(Z X:List Value)(o:Nat)(hz:∀v∈Z,v.oneCell'=true)(hx:∀v∈X,v.oneCell'=true):∀v∈splice Z o X,v.oneCell'=true:=by
 intro v hv;simp only[splice,List.mem_append]at hv
 rcases hv with hv|hv|hv
 · exact hz v (List.mem_of_mem_take hv)
 · exact hx v hv
 · exact hz v (List.mem_of_mem_drop hv)
theorem zx4(D0 D1:List UInt8)(h0:D0.length=32)(h1:D1.length=32)(w:World):(Instr.build 25 [(0,(.agg (u8s D0).toArray:Value)),(1,.agg (u8s D1).toArray)].toArray).run Tryz.prog w=.ok (.agg (ky2 D0 D1).toArray) w:=by
 have e0:(u8s D0).length=32:=by rw[zaa,h0]
 have e1:(u8s D1).length=32:=by rw[zaa,h1]
 have z0:(u8s (List.replicate 128 0)).length=128:=by rw[zaa,lp9]
 have l1:(splice (u8s (List.replicate 128 0)) 0 (u8s D0)).length=128:=by rw[length_splice _ _ _ (by rw[e0,z0];omega),z0]
 refine zce Tryz.zeroValue25 Tryz.underlying25 (pl67 _ Tryz.underlying25) ?_ w;rw[zc67]
 show Instr.fill _ _ [(0,_),(1,_)]=_
 rw[za5 (cs:=u8s D0) rfl (by rw[e0];rfl) (by rw[e0,z0];omega),za5 (cs:=u8s D1) rfl (by rw[e1];rfl) (by rw[e1,l1];omega)]
 rfl
theorem zln(A:Option Addr)(c:Nat)(s:List UInt8)(w:World)(h:Rd w A 32 (u8s s)):
 Calls Tryz.prog 94 #[.slice A 32 c] w fun e w'=>e=.returned (.tuple #[.agg (u8s (kys s)).toArray,.int .i64 0])∧Below w.heap.size w w':=by
 have HR:=qh h;obtain⟨D0,hD0⟩:=ex9 (Wd.derive s lMac);obtain⟨D1,hD1⟩:=ex9 (Wd.derive s lStream);obtain⟨D2,hD2⟩:=ex9 (Wd.derive s lPay);obtain⟨D3,hD3⟩:=ex9 (Wd.derive s lBlind);have l0:D0.length=32:=by rw[hD0];exact Wd.derive_len _ _
 have l1:D1.length=32:=by rw[hD1];exact Wd.derive_len _ _
 have l2:D2.length=32:=by rw[hD2];exact Wd.derive_len _ _
 have l3:D3.length=32:=by rw[hD3];exact Wd.derive_len _ _
 have HV0:Hid (∀W,Rd W A 32 (u8s s)→Calls Tryz.prog 133 #[.slice A 32 c,.string ⟨#[109,97,99]⟩] W fun e w'=>e=.returned (.agg (u8s D0).toArray)∧Below W.heap.size W w'):=fun W hW=>by
  rw[hD0];exact zc7 A 32 c s ⟨#[109,97,99]⟩ W hW om (by decide)
 have HV1:Hid (∀W,Rd W A 32 (u8s s)→Calls Tryz.prog 133 #[.slice A 32 c,.string ⟨#[115,116,114,101,97,109]⟩] W fun e w'=>e=.returned (.agg (u8s D1).toArray)∧Below W.heap.size W w'):=fun W hW=>by
  rw[hD1];exact zc7 A 32 c s ⟨#[115,116,114,101,97,109]⟩ W hW om (by decide)
 have HV2:Hid (∀W,Rd W A 32 (u8s s)→Calls Tryz.prog 133 #[.slice A 32 c,.string ⟨#[112,97,121]⟩] W fun e w'=>e=.returned (.agg (u8s D2).toArray)∧Below W.heap.size W w'):=fun W hW=>by
  rw[hD2];exact zc7 A 32 c s ⟨#[112,97,121]⟩ W hW om (by decide)
 have HV3:Hid (∀W,Rd W A 32 (u8s s)→Calls Tryz.prog 133 #[.slice A 32 c,.string ⟨#[98,108,105,110,100]⟩] W fun e w'=>e=.returned (.agg (u8s D3).toArray)∧Below W.heap.size W w'):=fun W hW=>by
  rw[hD3];exact zc7 A 32 c s ⟨#[98,108,105,110,100]⟩ W hW om (by decide)
 have hk:kys s=D0++(D1++(D2++D3)):=by rw[znl,hD0,hD1,hD2,hD3]
 have HKF:Hid (splice (splice (ky2 D0 D1) 64 (u8s D2)) 96 (u8s D3)=u8s (kys s)):=by
  show _=_
  rw[ky2,zgx _ _ _ _ _ 32 (by rw[zaa,l0]) (by rw[zaa,l1]) (by rw[zaa,l2]) (by rw[zaa,lp9,zaa,l3]),hk]
  simp[zad]
 have HKL:Hid ((u8s (kys s)).length=128):=by show _=_;rw[zaa,zht]
 have HK1:Hid (∀v∈u8s (kys s),v.oneCell'=true):=zac _;have hl2:=zxn D0 D1 l0 l1;have HP2:=qh hl2;have HP1:Hid (∀v∈ky2 D0 D1,v.oneCell'=true):=zif _ _ _ (zif _ _ _ (zac _) (zac _)) (zac _);have HBD:=qh (fun W=>zx4 D0 D1 l0 l1 W);have HL2:Hid ((u8s D2).length=32):=by show _=_;rw[zaa,l2]
 have HL3:Hid ((u8s D3).length=32):=by show _=_;rw[zaa,l3]
 have HP3:Hid ((splice (ky2 D0 D1) 64 (u8s D2)).length=128):=by show _=_;rw[length_splice _ _ _ (by rw[HL2.out,hl2];omega),hl2]
 generalize ky2 D0 D1=P2 at *;generalize u8s (kys s)=KK at *;have HB0:Hid (Blk (w.alloc (.cells Tryz.zeroCells25 25)) w.heap.size 25 (u8s (List.replicate 128 0))):=Blk.new' rfl zc67;have HE0:Hid (Below w.heap.size w (w.alloc (.cells Tryz.zeroCells25 25))):=(Below.refl _ w).alloc lr _;clear h hD0 hD1 hD2 hD3 l0 l1 l2 l3 hk hl2
 go_enter Tryz.func94, Tryz.ntmps94
 go_wp2_with (first
  | (go_at_call 133;(with_reducible refine(HV0.out _ (by exact HR.out.alloc _)).mono ?_);rintro e w1 ⟨rfl,hB1⟩;have HE1:=qtr HE0 hB1;have HB1:=qbl HB0 hB1;clear hB1)
  | (go_at_call 133;(with_reducible refine(HV1.out _ (by exact HR.out.below HE1.out)).mono ?_);rintro e w2 ⟨rfl,hB2⟩;have HE2:=qtr HE1 hB2;have HB2:=qbl HB1 hB2;clear hB2)
  | (refine zaq rfl 25 [(0,.tmp 10),(1,.tmp 12)] rfl _ rr (.agg P2.toArray) (HBD.out _) ?_)
  | (refine zab rfl 25 (.tmp 4) (.tmp 13) rfl w2.heap.size P2 rr rr 25 (u8s (List.replicate 128 0)) (by exact Blk.new' rfl zc67) (by rw[HP2.out];exact hd67) HP1.out (by rw[HP2.out,zaa,lp9]) ?_;intro w3 hb3 ho3;have HE3:=qh (ho3.below (HE2.out.alloc HE2.out.size _) HE2.out.size (Nat.le_trans HE2.out.size sy));have HB3:=qal ho3 HB2 (by have:=HB2.out.lt;omega);have HK3:=qh hb3;have HG:=qh HE2.out.size;have HGN:Hid (w.heap.size≠w2.heap.size):=by have:=HB2.out.lt;show _≠_;omega
     clear hb3 ho3)
  | (go_at_call 133;(with_reducible refine(HV2.out _ (by exact HR.out.below HE3.out)).mono ?_);rintro e w4 ⟨rfl,hB4⟩;have HE4:=qtr HE3 hB4;have HB4:=qbl HB3 hB4;have HK4:=qbl HK3 hB4;clear hB4)
  | (refine zbf rfl 23 (.tmp 16) (.tmp 15) rfl w2.heap.size 64 (u8s D2) rr rr 25 P2 (by exact HK4.out) (by rw[HL2.out];exact hd24) (zac _) (by rw[HL2.out,HP2.out];omega) ?_;intro w5 hb5 ho5;have HE5:=qh (ho5.below HE4.out HG.out HE4.out.size);have HB5:=qon ho5 HB4 HGN;have HK5:=qh hb5;clear hb5 ho5)
  | (go_at_call 133;(with_reducible refine(HV3.out _ (by exact HR.out.below HE5.out)).mono ?_);rintro e w6 ⟨rfl,hB6⟩;have HE6:=qtr HE5 hB6;have HB6:=qbl HB5 hB6;have HK6:=qbl HK5 hB6;clear hB6)
  | (refine zbf rfl 23 (.tmp 19) (.tmp 18) rfl w2.heap.size 96 (u8s D3) rr rr 25 (splice P2 64 (u8s D2)) (by exact HK6.out) (by rw[HL3.out];exact hd24) (zac _) (by rw[HL3.out,HP3.out];omega) ?_;intro w7 hb7 ho7;rw[HKF.out]at hb7;have HE7:=qh (ho7.below HE6.out HG.out HE6.out.size);have HB7:=qon ho7 HB6 HGN;have l1:(ldAt 25 (.pointer (some ⟨w2.heap.size,0,none⟩))).run Tryz.prog w7=.ok (.agg KK.toArray) w7:=zat hb7 _ 0 KK (by rw[List.drop_zero,tk lr]) _ Tryz.underlying25 rfl (by rw[HKL.out];exact hd67);clear hb7 ho7)
  | (refine zab rfl 25 (.tmp 2) (.tmp 20) rfl w.heap.size KK rr rr 25 (u8s (List.replicate 128 0)) (by exact HB7.out) (by rw[HKL.out];exact hd67) HK1.out (by rw[HKL.out,zaa,lp9]) ?_;intro w8 hb8 ho8;have HE8:=qh (ho8.below HE7.out lr HE7.out.size)))
 exact bodyPost_ret (zaj rfl _ _ _ _ rfl hb8 _ Tryz.underlying25 rfl (by rw[HKL.out];exact hd67)) rfl ⟨rfl,HE8.out⟩
end
theorem xor_comm(a b:List UInt8):Ch.xor a b=Ch.xor b a:=by
 unfold Ch.xor
 induction a generalizing b with
 | nil=>cases b <;> rfl
 | cons x a ih =>
  cases b with
  | nil=>rfl
  | cons y b=>rw[List.zipWith_cons_cons,List.zipWith_cons_cons,ih,UInt8.xor_comm]
theorem zpg(k X Y:List UInt8)(r:Nat)(hX:X.length=32)(hr:r%2=1):Wd.turn k (X++Y) r=X++Ch.xor Y (Ch.piece (Ch.xor X k) 0 Y.length):=by
 unfold Wd.turn
 rw[if_neg om,List.take_left' hX,List.drop_left' hX,xor_comm k X]
theorem zn3(k X Y:List UInt8)(r:Nat)(hX:X.length=32)(h1:1≤r)(h4:r≤4)(hr:¬r%2=1):Wd.turn k (X++Y) r=Ch.xor X (Mc.tag k Y)++Y:=by
 unfold Wd.turn
 rw[if_pos om,List.take_left' hX,List.drop_left' hX]
theorem zt7(q:Nat)(hq:q<4):∃S:ByteArray,(strs labels4)[q]? = some (.string S)∧S.data.toList=Wd.label (q+1)∧S.size≤1000:=by
 obtain rfl|rfl|rfl|rfl:q=0∨q=1∨q=2∨q=3:=om
 all_goals exact⟨_,rfl,rfl,by decide⟩
theorem zjf(A1 A2:Option Addr)(n c1 c2:Nat)(x y:List UInt8)(W:World)(h1:Rd W A1 n (u8s x))(h2:Rd W A2 n (u8s y))(hc1:n≤c1)(hc2:n≤c2)(hn:n≤1000000):
 Calls Tryz.prog 136 #[.slice (some ⟨W.heap.size,0,none⟩) 2 2] (W.alloc (.cells #[.slice A1 n c1,.slice A2 n c2] 22)) fun e w'=>∃A' c',e=.returned (.tuple #[.slice A' n c',.int .i64 0])∧n≤c'∧w'.ownsRow W.heap.size 5 1 (.slice A' n c') n (u8s (Ch.xor x y))∧Below W.heap.size W w':=by
 refine(zs0 (some ⟨W.heap.size,0,none⟩) 2 n x y _ (RdB.of_blk (ls:=[x,y]) (Blk.new' (w:=W) (cs:=[.slice A1 n c1,.slice A2 n c2]) (t:=22) rfl rfl) ⟨.of_rd (h1.alloc _) hc1,.of_rd (h2.alloc _) hc2,trivial⟩) h1.len h2.len hn).mono ?_;rintro e w' ⟨A',c',rfl,hc',hown,hB⟩;exact⟨A',c',rfl,hc',za7 hown sy,((Below.refl _ _).alloc lr _).trans (hB.mono sy)⟩
theorem zqd(A B:Option Addr)(c d N:Nat)(w:World)(h1:32≤N)(h2:N≤4096):Calls Tryz.prog 135 #[.slice A 32 c,.slice B N d] w fun e w'=>e=.returned (.bool true)∧w=w':=by
 have e1:(32:Int)≤(N:Int):=om;have e2:(N:Int)≤4096:=om
 go_enter Tryz.func135, Tryz.ntmps135
 go_wp2;go_ret;exact⟨rfl,rfl⟩
theorem hd24':(Tryz.prog.info? 23).map (·.size)=some 32:=by kernel_rfl
theorem zll(A B C:Option Addr)(c d N m cr:Nat)(key b:List UInt8)(rs:List Nat)(w:World)(h:Rd w A 32 (u8s key))(h2:Rd w B N (u8s b))(hd:N≤d)(h3:Rd w C m (natsOf rs))(h32:32<N)(hN:N≤4096)(hm:m≤1000)(hrs:∀r∈rs,1≤r∧r≤4):
 Calls Tryz.prog 99 #[.slice A 32 c,.slice B N d,.slice C m cr] w fun e w'=>∃g c',e=.returned (.tuple #[.slice (some ⟨g,0,none⟩) N c',.int .i64 0])∧N≤c'∧w.heap.size≤g∧Rd w' (some ⟨g,0,none⟩) N (u8s (Wd.rounds key b rs))∧Below w.heap.size w w':=by
 have hrl:rs.length=m:=by have:=h3.1;simpa[natsOf] using this
 have hbl:b.length=N:=h2.len;obtain⟨NR,hNR⟩:∃NR,N=NR+32:=⟨N-32,by omega⟩;have hNR0:0<NR:=om;have hNR1:NR≤4096:=om;have HRL:=qh hrl;have HRS:=qh hrs;have HR3:=qh h3;have HBL:=qh hbl;obtain⟨bb,bo,rfl,hbb,_⟩:=h2.2 om
 have hlo:∀W,Rd W (some ⟨bb,bo,none⟩) N (u8s b)→Rd W (some ⟨bb,bo,none⟩) 32 (u8s (b.take 32)):=fun W hr=>by
  have h5:=ze5 hr 0 32 om;rw[List.drop_zero]at h5;exact h5
 have hhi:∀W,Rd W (some ⟨bb,bo,none⟩) N (u8s b)→Rd W (some ⟨bb,bo+32,none⟩) NR (u8s (b.drop 32)):=fun W hr=>by
  have h5:=ze5 hr 32 NR om;rw[tk (by rw[List.length_drop];omega)]at h5;exact h5
 have HCL:Hid (∀W,Rd W (some ⟨bb,bo,none⟩) N (u8s b)→Calls Tryz.prog 12 #[.slice (some ⟨bb,bo,none⟩) 32 d] W fun e w'=>∃A' c',e=.returned (.slice A' 32 c')∧32≤c'∧w'.ownsRow W.heap.size 5 1 (.slice A' 32 c') 32 (u8s (b.take 32))∧Below W.heap.size W w'):=fun W hr=>zbk _ 32 d _ W (hlo W hr) om
 have HCH:Hid (∀W,Rd W (some ⟨bb,bo,none⟩) N (u8s b)→Calls Tryz.prog 12 #[.slice (some ⟨bb,bo+32,none⟩) NR (d-32)] W fun e w'=>∃A' c',e=.returned (.slice A' NR c')∧NR≤c'∧w'.ownsRow W.heap.size 5 1 (.slice A' NR c') NR (u8s (b.drop 32))∧Below W.heap.size W w'):=fun W hr=>zbk _ NR (d-32) _ W (hhi W hr) om
 have HF:=qh (fun W=>zqd A (some ⟨bb,bo,none⟩) c d N W om hN);have HR2:=qh h2;have HRK:=qh h;have n32:¬d=32:=om;have e32:(32:Int)≤(d:Int):=om;have e32b:(32:Int)≤(N:Int):=om;have eN:((N:Int)-32)=(NR:Int):=om;have eNn:N-32=NR:=om;have HL4:Hid ((w.alloc (.cells #[.string ⟨#[119,105,100,101,49]⟩,.string ⟨#[119,105,100,101,50]⟩,.string ⟨#[119,105,100,101,51]⟩,.string ⟨#[119,105,100,101,52]⟩] 213)).heap.size=w.heap.size+1):=by simp[Hid]
 clear hrl hbl hrs h h2 h3 hlo hhi
 go_enter Tryz.func99, Tryz.ntmps99
 go_wp2_with fail
 go_loopg [8] m (fun kk q wr=>∃i:Nat,i≤m∧kk=m-i∧q=.int .i64 i∧w=wr)
 case atStart=>exact⟨0,by omega,rfl,rfl,rfl⟩
 case round =>
  obtain⟨i,hi,hgk,rfl,rfl⟩:=hrel;have HGK:=qh hgk;clear hgk
  by_cases hlt:i<m
  · have hlt2:(i:Int)<(m:Int):=om
    obtain⟨r,hr⟩:∃r,rs[i]? = some r:=⟨_,ge9 (by rw[HRL.out];exact hlt)⟩;have hr14:=HRS.out r (mg9 hr);obtain⟨b1,off,u,rfl,hbl,HX,hcl⟩:=HR3.out.at_ hlt;have hu:=zej HX.out hr;subst hu;have hr1:¬(r:Int)<1:=om;have hr2:¬(4:Int)<(r:Int):=om;clear hr HX eN eNn hNR
    go_wp2_with fail
    go_roundg (m-(i+1))
    case measure=>have:=HGK.out;omega
    case rel=>exact⟨i+1,by omega,rfl,by go_num,rfl⟩
  · obtain rfl:i=m:=om
    have hlt2:¬(i:Int)<(i:Int):=om;clear HGK hlt hi;have HNR:=qh hNR;clear hNR
    go_wp2_with (first
     | (go_at_call 135;(with_reducible refine(HF.out _).mono ?_);rintro e w' ⟨rfl,rfl⟩)
     | (go_at_call 12;(with_reducible refine(HCH.out w3 (by exact HR2.out.below HE3.out)).mono ?_);rintro e w4 ⟨A4,c4,rfl,hc4,hown4,hB4⟩;have HE4:=qtr HE3 hB4;have HO4:=qh (zaf HO3.out hB4);have HL44:=qbl HL43 hB4;have HR4:=qh (Rd.of_own hown4);clear hown4 hB4)
     | (go_at_call 12;(with_reducible refine(HCL.out _ (by exact HR2.out.alloc _)).mono ?_);rintro e w3 ⟨A3,c3,rfl,hc3,hown3,hB3⟩;have hB3':=hB3.mono (show w.heap.size≤_ by rw[HL4.out];exact Nat.le_succ _);have HE3:=qh (((Below.refl _ w).alloc lr _).trans hB3');have HL43:=qh (show Blk w3 w.heap.size 213 (strs labels4) from (Blk.new' (w:=w) (g:=w.heap.size) (cs:=strs labels4) (t:=213) rfl rfl).below hB3 sy);have HO3:=qh (za7 hown3 (base':=w.heap.size) (by rw[HL4.out];exact Nat.le_succ _));clear hown3 hB3 hB3'))
    obtain⟨W1,hW1⟩:=ex9 (w4);have HTS:=qh (show b=b.take 32++b.drop 32 from (List.take_append_drop 32 b).symm);have HX32:Hid ((b.take 32).length=32):=by show _=_;rw[List.length_take,HBL.out,HNR.out];omega
    have HYN:Hid ((b.drop 32).length=NR):=by show _=_;rw[List.length_drop,HBL.out,HNR.out];omega
    clear hW1 eN eNn
    go_loopg [10,11,12] i (fun kk lv rv q wr=>∃(j:Nat) (X Y:List UInt8),j≤i∧kk=i-j∧q=.int .i64 j∧Wd.rounds key b (rs.take j)=X++Y∧X.length=32∧Y.length=NR∧(∃A1 c1,lv=.slice A1 32 c1∧32≤c1∧wr.ownsRow w.heap.size 5 1 (.slice A1 32 c1) 32 (u8s X))∧(∃A2 c2,rv=.slice A2 NR c2∧NR≤c2∧Rd wr A2 NR (u8s Y))∧Blk wr w.heap.size 213 (strs labels4)∧Below w.heap.size w wr)
    case atStart=>exact⟨0,b.take 32,b.drop 32,by omega,rfl,rfl,HTS.out,HX32.out,HYN.out,⟨A3,c3,rfl,hc3,HO4.out⟩,⟨A4,c4,rfl,hc4,HR4.out⟩,HL44.out,HE4.out⟩
    case round =>
     clear HTS HX32 HYN HO4 HR4 HL44 HE4 HO3 HL43 HE3;obtain⟨j,X,Y,hj,hgk,rfl,hXY,hX,hY,⟨A1,c1,rfl,hc1,hown⟩,⟨A2,c2,rfl,hc2,hry⟩,hlb,hB⟩:=hrel;have HGK:=qh hgk;clear hgk
     by_cases hlt:j<i
     · have hlt3:(j:Int)<(i:Int):=om
       obtain⟨r,hr⟩:∃r,rs[j]? = some r:=⟨_,ge9 (by rw[HRL.out];exact hlt)⟩;have hr14:=HRS.out r (mg9 hr);obtain⟨b1,off,u,rfl,hbl,HX,hcl0⟩:=HR3.out.at_ hlt;have hu:=zej HX.out hr;subst hu;have hcl:=(hB.cell (p:=⟨b1,off+j,none⟩) hbl).trans hcl0;have HCL0:=qh hcl0;clear hcl0;obtain⟨q,hq⟩:∃q,r=q+1:=⟨r-1,by omega⟩;have hqi:(r:Int)-1=(q:Int):=om;have hq0:(0:Int)≤(q:Int):=om;have hq4:(q:Int)<4:=om;obtain⟨S,hS1,hS2,hS3⟩:=zt7 q om;have cS:=(hlb.cell q).trans hS1;have hDV:∀W,Rd W A 32 (u8s key)→Calls Tryz.prog 133 #[.slice A 32 c,.string S] W fun e w'=>e=.returned (.agg (u8s (Wd.derive key S.data.toList)).toArray)∧Below W.heap.size W w':=fun W hr=>zc7 A 32 c key S W hr om hS3
       rw[hS2,←hq]at hDV;have HDV:=qh hDV;have HDL:=qh (Wd.derive_len key (Wd.label r))
       have HSN:Hid (Wd.rounds key b (rs.take (j+1))=Wd.turn (Wd.derive key (Wd.label r)) (X++Y) r):=by
        show _=_
        rw[List.take_add_one,hr,←hXY];exact Wd.rounds_snoc _ _ _ _
       obtain⟨D,hD⟩:=ex9 (Wd.derive key (Wd.label r));rw[←hD]at HDV HDL HSN;have HI2:Hid ((Tryz.prog.info? 23).map (·.size)=some (u8s D).length):=by rw[zaa,HDL.out];exact hd24'
       have HL2:Hid ((u8s D).length=(u8s (List.replicate 32 0)).length):=by show _=_;rw[zaa,HDL.out];rfl
       have H1:Hid (∀v∈u8s D,v.oneCell'=true):=zac _;obtain⟨DU,hDU⟩:=ex9 (u8s D);rw[←hDU]at HDV HI2 HL2 H1;have HDU:=qh hDU;have HXl:=qh hX;have HYl:=qh hY;have HOL:=qh hown;have HRY:=qh hry;have HLB:=qh hlb;have HBE:=qh hB;have hr1n:=hr14.1;have hr4n:=hr14.2;clear hr hD hDU hXY hX hY hown hry hlb hB HX hq hS1 hS2 hS3 hDV hr14
       by_cases hodd:r%2=1
       · have hoi:(r:Int)%2=1:=om
         have HTU:=qh (zpg D X Y r HXl.out hodd);have HPL:=qh (Ch.piece_len (Ch.xor X D) 0 NR);rw[HYl.out]at HTU;have HBY:=qh (fun W A5 c5 (h5:Rd W A5 32 (u8s (Ch.xor X D)))=>zir A5 c5 (Ch.xor X D) NR W h5 hNR0 om);obtain⟨Z,hZ⟩:=ex9 (Ch.piece (Ch.xor X D) 0 NR);rw[←hZ]at HTU HPL HBY;have HYZ:Hid ((Ch.xor Y Z).length=NR):=by show _=_;rw[Ch.xor_len _ _ (by rw[HYl.out,HPL.out]),HYl.out]
         clear hZ hodd
         go_wp2_with (first
       | (go_at_call 133;(with_reducible refine(HDV.out _ (by exact HRK.out.below HBE.out)).mono ?_);rintro e w7 ⟨rfl,hB7⟩;have HE7:=qtr HBE hB7;have HL7:=qbl HLB hB7;have HO7:=qh (zaf HOL.out hB7);have HY7:=qh (HRY.out.below hB7);clear hB7)
       | (refine zab rfl 23 (.tmp 13) (.tmp 61) rfl w7.heap.size DU rr rr 23 (u8s (List.replicate 32 0)) (by exact Blk.new' rfl rfl) HI2.out H1.out HL2.out ?_;intro w9 hb9 ho9;have hlt7:=HL7.out.lt;have HK9:Hid (Rd w9 (some ⟨w7.heap.size,0,none⟩) 32 (u8s D)):=(by have h5:=hb9;rw[HDU.out]at h5;have h6:=h5.rdAll;rw[HDL.out]at h6;exact h6);have hB9:Below w7.heap.size w7 w9:=ho9.below ((Below.refl _ _).alloc lr _) lr sy;have HE9:=qtr HE7 hB9;have HL9:=qbl HL7 hB9;have HO9:=qh (zaf HO7.out hB9);have HY9:=qh (HY7.out.below hB9);clear hb9 ho9 hB9)
       | (refine zak rfl (.const (.int .i64 0)) (.const (.int .i64 0)) 22 rfl 5 (.int .u8 0) 1 Tryz.underlying22 iU8 rfl .i64 .i64 0 0 rr rr 0 0 rfl rfl om om om ?_;intro w10 hb10 hg10 hs10;have hB10:=zae hg10;have HE10:=qtr HE9 hB10;have HL10:=qbl HL9 hB10;have HO10:=qh (zaf HO9.out hB10);have HX10:=qh (Rd.of_own HO10.out);have HY10:=qh (HY9.out.below hB10);have HK10:=qh (HK9.out.below hB10);have cr10:=(HE10.out.cell (p:=⟨b1,off+j,none⟩) hbl).trans HCL0.out;clear hb10 hg10 hs10 hB10)
       | (go_at_call 136;(with_reducible refine(zjf A1 (some ⟨w7.heap.size,0,none⟩) 32 c1 32 X D w10 (by exact HX10.out) (by exact HK10.out) om om om).mono ?_);rintro e w11 ⟨A11,c11,rfl,hc11,hown11,hB11⟩;have HE11:=qtr HE10 hB11;have HL11:=qbl HL10 hB11;have HO11:=qh (zaf HO10.out hB11);have HY11:=qh (HY10.out.below hB11);have HR11:=qh (Rd.of_own hown11);clear hB11 hown11)
       | (go_at_call 77;(with_reducible refine(HBY.out w11 _ _ (by exact HR11.out)).mono ?_);rintro e w12 ⟨A12,c12,rfl,hc12,hown12,hB12⟩;have HE12:=qtr HE11 hB12;have HL12:=qbl HL11 hB12;have HO12:=qh (zaf HO11.out hB12);have HY12:=qh (HY11.out.below hB12);have HZ12:=qh (Rd.of_own hown12);clear hB12 hown12)
       | (go_at_call 136;(with_reducible refine(zjf A2 A12 NR c2 c12 Y Z w12 (by exact HY12.out) (by exact HZ12.out) om om om).mono ?_);rintro e w13 ⟨A13,c13,rfl,hc13,hown13,hB13⟩;have HE13:=qtr HE12 hB13;have HL13:=qbl HL12 hB13;have HO13:=qh (zaf HO12.out hB13);have HR13:=qh (Rd.of_own hown13);clear hB13 hown13))
         go_roundg (i-(j+1))
         case measure=>have:=HGK.out;omega
         case rel=>exact⟨j+1,X,Ch.xor Y Z,by omega,rfl,by go_num,by rw[HSN.out,HTU.out],HXl.out,HYZ.out,⟨A1,c1,rfl,hc1,HO13.out⟩,⟨A13,c13,rfl,hc13,HR13.out⟩,HL13.out,HE13.out⟩
       · have hoi:((r:Int)%2 == 1)=false:=by rw[beq_eq_false_iff_ne];omega
         have HTU:=qh (zn3 D X Y r HXl.out hr1n hr4n hodd);have HTL:=qh (Mc.tag_len D Y);have HTG:=qh (fun W (h5:Rd W (some ⟨W.heap.size,0,none⟩) 32 (u8s D))=>h5);have HTA:=qh (fun W A5 c5 (h5:Rd W A5 32 (u8s D)) (h6:Rd W A2 NR (u8s Y))=>zgf A5 32 c5 D A2 NR c2 Y W h5 om h6 om);obtain⟨Z,hZ⟩:=ex9 (Mc.tag D Y);rw[←hZ]at HTU HTL HTA;have HXZ:Hid ((Ch.xor X Z).length=32):=by show _=_;rw[Ch.xor_len _ _ (by rw[HXl.out,HTL.out]),HXl.out]
         have HI3:Hid ((Tryz.prog.info? 23).map (·.size)=some (u8s Z).length):=by rw[zaa,HTL.out];exact hd24'
         have HL3:Hid ((u8s Z).length=(u8s (List.replicate 32 0)).length):=by show _=_;rw[zaa,HTL.out];rfl
         have H13:Hid (∀v∈u8s Z,v.oneCell'=true):=zac _;obtain⟨ZU,hZU⟩:=ex9 (u8s Z);rw[←hZU]at HTA HI3 HL3 H13;have HZU:=qh hZU;clear hZ hodd hZU HTG
         go_wp2_with (first
       | (go_at_call 133;(with_reducible refine(HDV.out _ (by exact HRK.out.below HBE.out)).mono ?_);rintro e w7 ⟨rfl,hB7⟩;have HE7:=qtr HBE hB7;have HL7:=qbl HLB hB7;have HO7:=qh (zaf HOL.out hB7);have HY7:=qh (HRY.out.below hB7);clear hB7)
       | (refine zab rfl 23 (.tmp 13) (.tmp 61) rfl w7.heap.size DU rr rr 23 (u8s (List.replicate 32 0)) (by exact Blk.new' rfl rfl) HI2.out H1.out HL2.out ?_;intro w9 hb9 ho9;have hlt7:=HL7.out.lt;have HK9:Hid (Rd w9 (some ⟨w7.heap.size,0,none⟩) 32 (u8s D)):=(by have h5:=hb9;rw[HDU.out]at h5;have h6:=h5.rdAll;rw[HDL.out]at h6;exact h6);have hB9:Below w7.heap.size w7 w9:=ho9.below ((Below.refl _ _).alloc lr _) lr sy;have HE9:=qtr HE7 hB9;have HL9:=qbl HL7 hB9;have HO9:=qh (zaf HO7.out hB9);have HY9:=qh (HY7.out.below hB9);clear hb9 ho9 hB9)
       | (refine zak rfl (.const (.int .i64 0)) (.const (.int .i64 0)) 22 rfl 5 (.int .u8 0) 1 Tryz.underlying22 iU8 rfl .i64 .i64 0 0 rr rr 0 0 rfl rfl om om om ?_;intro w10 hb10 hg10 hs10;have hB10:=zae hg10;have HE10:=qtr HE9 hB10;have HL10:=qbl HL9 hB10;have HO10:=qh (zaf HO9.out hB10);have HX10:=qh (Rd.of_own HO10.out);have HY10:=qh (HY9.out.below hB10);have HK10:=qh (HK9.out.below hB10);have cr10:=(HE10.out.cell (p:=⟨b1,off+j,none⟩) hbl).trans HCL0.out;clear hb10 hg10 hs10 hB10)
       | (go_at_call 128;(with_reducible refine(HTA.out w10 _ _ (by exact HK10.out) (by exact HY10.out)).mono ?_);rintro e w11 ⟨rfl,hB11⟩;have HE11:=qtr HE10 hB11;have HL11:=qbl HL10 hB11;have HO11:=qh (zaf HO10.out hB11);have HY11:=qh (HY10.out.below hB11);clear hB11)
       | (refine zab rfl 23 (.tmp 17) (.tmp 89) rfl w11.heap.size ZU rr rr 23 (u8s (List.replicate 32 0)) (by exact Blk.new' rfl rfl) HI3.out H13.out HL3.out ?_;intro w12 hb12 ho12;have HZ12:Hid (Rd w12 (some ⟨w11.heap.size,0,none⟩) 32 (u8s Z)):=(by have h5:=hb12;rw[HZU.out]at h5;have h6:=h5.rdAll;rw[HTL.out]at h6;exact h6);have hB12:Below w11.heap.size w11 w12:=ho12.below ((Below.refl _ _).alloc lr _) lr sy;have HE12:=qtr HE11 hB12;have HL12:=qbl HL11 hB12;have HO12:=qh (zaf HO11.out hB12);have HX12:=qh (Rd.of_own HO12.out);have HY12:=qh (HY11.out.below hB12);clear hb12 ho12 hB12)
       | (go_at_call 136;(with_reducible refine(zjf A1 (some ⟨w11.heap.size,0,none⟩) 32 c1 32 X Z w12 (by exact HX12.out) (by exact HZ12.out) om om om).mono ?_);rintro e w13 ⟨A13,c13,rfl,hc13,hown13,hB13⟩;have HE13:=qtr HE12 hB13;have HL13:=qbl HL12 hB13;have HO13:=qh (za7 hown13 (base':=w.heap.size) HE12.out.size);have HR13:=qh (HY12.out.below hB13);clear hB13 hown13))
         go_roundg (i-(j+1))
         case measure=>have:=HGK.out;omega
         case rel=>exact⟨j+1,Ch.xor X Z,Y,by omega,rfl,by go_num,by rw[HSN.out,HTU.out],HXZ.out,HYl.out,⟨A13,c13,rfl,hc13,HO13.out⟩,⟨A2,c2,rfl,hc2,HR13.out⟩,HL13.out,HE13.out⟩
     · obtain rfl:j=i:=om
       have hlt3:¬(j:Int)<(j:Int):=om;rw[tk (Nat.le_of_eq HRL.out)]at hXY;have HXY:=qh hXY;have HN2:Hid (32+NR=N):=by show _=_;rw[HNR.out];omega
       have HOL:=qh hown;have HRY:=qh hry;have HBE:=qh hB;clear hXY hX hY hown hry hlb hB
       go_wp2_with (at_builtin;refine zah rfl (.tmp 98) (.tmp 99) 22 rfl w.heap.size 5 1 1 Tryz.underlying22 eU8 (.slice A1 32 c1) 32 (u8s X) rr (by exact HOL.out) A2 NR c2 (u8s Y) rr (by exact HRY.out.toS) (zac _) om om HBE.out.size ?_;intro A5 c5 w5 hown5 hc5 hg5 hat5;have HO5:=qh hown5;rw[←zad,←HXY.out,HN2.out]at HO5;have HE5:=qh (HBE.out.grown hg5 HBE.out.size (fun k hk=>(HOL.out.lt k hk).1));rw[HN2.out]at hc5;clear hown5 hg5 hat5)
       obtain⟨g,rfl,hg,_,hr5⟩:=zb6 HO5.out om;have HR5:=qh hr5;clear hr5;go_ret2;exact⟨g,c5,(by rw[HN2.out];rfl),hc5,hg,HR5.out,HE5.out⟩
theorem rnats4(w:World)(a b c d:Nat):Rd (w.alloc (.cells #[.int .i64 (a:Int),.int .i64 (b:Int),.int .i64 (c:Int),.int .i64 (d:Int)] 3)) (some ⟨w.heap.size,0,none⟩) 4 (natsOf [a,b,c,d]):=nats4 w a b c d
theorem zpy(A B:Option Addr)(c d N:Nat)(key b:List UInt8)(w:World)(h:Rd w A 32 (u8s key))(h2:Rd w B N (u8s b))(hd:N≤d)(h32:32<N)(hN:N≤4096):
 Calls Tryz.prog 64 #[.slice A 32 c,.slice B N d] w fun e w'=>∃g c',e=.returned (.tuple #[.slice (some ⟨g,0,none⟩) N c',.int .i64 0])∧N≤c'∧w.heap.size≤g∧Rd w' (some ⟨g,0,none⟩) N (u8s (Wd.seal_ key b))∧Below w.heap.size w w':=by
 have hr:=zll A B (some ⟨w.heap.size,0,none⟩) c d N 4 4 key b [1,2,3,4] _ (h.alloc _) (h2.alloc _) hd (rnats4 w 1 2 3 4) h32 hN om (by decide);have e2:(w.alloc (.cells #[.int .i64 ((1:Nat):Int),.int .i64 ((2:Nat):Int),.int .i64 ((3:Nat):Int),.int .i64 ((4:Nat):Int)] 3)).heap.size=w.heap.size+1:=by simp
 rw[e2]at hr;have HR:Hid (Calls Tryz.prog 99 #[.slice A 32 c,.slice B N d,.slice (some ⟨w.heap.size,0,none⟩) 4 4] (w.alloc (.cells #[.int .i64 1,.int .i64 2,.int .i64 3,.int .i64 4] 3)) fun e w'=>∃g c',e=.returned (.tuple #[.slice (some ⟨g,0,none⟩) N c',.int .i64 0])∧N≤c'∧w.heap.size+1≤g∧Rd w' (some ⟨g,0,none⟩) N (u8s (Wd.seal_ key b))∧Below (w.heap.size+1) (w.alloc (.cells #[.int .i64 1,.int .i64 2,.int .i64 3,.int .i64 4] 3)) w'):=hr;clear h h2 hr e2
 go_enter Tryz.func64, Tryz.ntmps64
 go_wp2_with (go_at_call 99;(with_reducible refine HR.out.mono ?_);rintro e w1 ⟨g,c',rfl,hc',hg,hr1,hB⟩;have HR1:=qh hr1;clear hr1)
 go_ret2;exact⟨g,c',rfl,hc',by omega,HR1.out,((Below.refl _ _).alloc lr _).trans (hB.mono (Nat.le_succ _))⟩
end Go.Proofs.YtpgpaenloaphaaaGreat
