/- Part of the proof. -/
import Derived.Great.BuildSlice
import Derived.Lib.SmallJoins
import Derived.Test.YtadopcjppijgiaaGreatSkp28
import Derived.Test.YtadopcjppijgiaaGreatSkp30
set_option linter.all false
set_option maxRecDepth 100000
set_option maxHeartbeats 0
namespace Go.Proofs.YtadopcjppijgiaaGreat
open Go.RowKit
section
section
variable{P:Program}{w:World}{ops:Array Oper}{rest:List Oper}{o:Oper}{a:Act}{K:Act→World→Prop}{Q:Exit→Act→World→Prop}
theorem zkw(t e:TypeId)(x:Operand)(ho:o.op=.buildSlice t 1 #[(0,x)])(cs:List Value)(hx:a.eval x=.agg cs.toArray)(hu:P.underlying t=some (.slice e))(hi:(P.info? e).map (fun i=>((i.zero.map (fun z=>z.cells.size)),i.size))=some (some cs.length,cs.length))(A:0<cs.length)(D:cs.length≤16777216)
 (h:K (a.put o.dst (.slice (some ⟨w.heap.size,0,none⟩) 1 1)) (w.alloc (.cells cs.toArray e))):o.wp P a w K Q:=by
 cases hie:P.info? e with
 | none=>simp[hie]at hi
 | some ie =>
  cases hz:ie.zero with
  | none=>simp[hie,hz]at hi
  | some z =>
   simp only[hie,hz,Option.map_some,Option.some.injEq,Prod.mk.injEq]at hi;refine wp_buildSlice t e 1 #[(0,x)] ho cs.toArray ie z hu hie hz (by rw[hi.2];omega) (by rw[hi.2];omega) ?_ h;have h1:(#[(0,x)].map fun(p:Nat × Operand)=>(p.1,a.eval p.2)).toList=[(0,.agg cs.toArray)]:=by simp[hx]
   have h2:∃Z:List Value,((Array.range (1*ie.size)).map (z.cells[· % z.cells.size]!))=Z.toArray∧Z.length=cs.length:=⟨((Array.range (1*ie.size)).map (z.cells[· % z.cells.size]!)).toList,Array.toArray_toList.symm,by simp[hi.2]⟩;obtain⟨Z,hZ,r⟩:=h2
   show Instr.fill _ _ (#[(0,x)].map fun(p:Nat × Operand)=>(p.1,a.eval p.2)).toList=_
   rw[h1,hZ,zat (cs:=cs) (off:=0) rfl (by simp[hi.2]) om,zap _ _ r.symm]
   rfl
theorem zb6(A:o.guard=none)(t e:TypeId)(x:Operand)(ho:o.op=.buildSlice t 1 #[(0,x)])(cs:List Value)(hx:a.eval x=.agg cs.toArray)(hu:P.underlying t=some (.slice e))(hi:(P.info? e).map (fun i=>((i.zero.map (fun z=>z.cells.size)),i.size))=some (some cs.length,cs.length))(r:0<cs.length)(D:cs.length≤16777216)
 (h:wpList P ops Q rest (a.put o.dst (.slice (some ⟨w.heap.size,0,none⟩) 1 1)) (w.alloc (.cells cs.toArray e))):wpList P ops Q (o :: rest) a w :=
 zb2 A fun _ hK=>zkw t e x ho cs hx hu hi r D (hK _ _ h)
end
theorem z1sp:(Tryz.prog.info? 83).map (fun i=>((i.zero.map (fun z=>z.cells.size)),i.size))=some (some 192,192):=by kernel_rfl
end
section
theorem hd67:(Tryz.prog.info? 81).map (·.size)=some 128:=by kernel_rfl
theorem hd72:(Tryz.prog.info? 106).map (·.size)=some 192:=by kernel_rfl
def places69:Array (Nat × Nat):=#[(0,128),(128,32),(160,32)]
theorem pl69(r:Array Field)(h:Tryz.prog.underlying 83 = some (.struct r))(w:World):(r.mapM (fun f=>do pure (f.offset,←sizeOf f.type)):Sem (Array (Nat × Nat))).run Tryz.prog w=.ok places69 w:=by
 rw[Tryz.underlying83]at h
 injection h with h
 injection h with h
 subst h
 kernel_rfl
def Sp.keys(s:Sp):List UInt8:=s.mac++(s.stream++(s.pay++s.blind))
theorem Sp.bytes_is(s:Sp):s.bytes=s.keys++(s.alpha++s.secret):=by simp[Sp.bytes,Sp.keys]
theorem Sp.keys_len{s:Sp}(h:s.ok):s.keys.length=128:=by simp[Sp.keys,h.1,h.2.1,h.2.2.1,h.2.2.2.1]
theorem bld_sp(s:Sp)(h:s.ok)(w:World):(Instr.build 83 #[(0,.agg (u8s s.keys).toArray),(1,.agg (u8s s.alpha).toArray),(2,.agg (u8s s.secret).toArray)]).run Tryz.prog w=.ok (.agg s.cells.toArray) w:=by
 have e0:(u8s s.keys).length=128:=by rw[zaa,Sp.keys_len h]
 have e1:(u8s s.alpha).length=32:=by rw[zaa,h.2.2.2.2.1]
 have e2:(u8s s.secret).length=32:=by rw[zaa,h.2.2.2.2.2]
 refine zbt Tryz.zeroValue83 Tryz.underlying83 (pl69 _ Tryz.underlying83) ?_ w;rw[zcSp]
 show Instr.fill _ _ [(0,_),(1,_),(2,_)]=_
 rw [zat (cs:=u8s s.keys) rfl (by rw[e0];rfl) (by rw[e0,zaa,lp9];omega),
   zat (cs:=u8s s.alpha) rfl (by rw[e1];rfl) (by rw[length_splice _ _ _ (by rw[e0,zaa,lp9];omega),e1,zaa,lp9];omega),
   zat (cs:=u8s s.secret) rfl (by rw[e2];rfl) (by rw[length_splice _ _ _ (by rw[length_splice _ _ _ (by rw[e0,zaa,lp9];omega),e1,zaa,lp9];omega),length_splice _ _ _ (by rw[e0,zaa,lp9];omega),e2,zaa,lp9];omega)]
 have:splice (splice (splice (u8s (List.replicate 192 0)) 0 (u8s s.keys)) 128 (u8s s.alpha)) 160 (u8s s.secret)=s.cells:=by
  rw[splice_splice_splice _ _ _ _ 128 32 e0 e1 (by rw[zaa,lp9,e2])];rw[Sp.cells,Sp.bytes_is,zae,zae]
 rw[this]
 rfl
theorem zog(v:Value):Instr.loadAt 81 v=ldAt 81 v:=rfl
theorem ldq_24(v:Value):Instr.loadAt 27 v=ldAt 27 v:=rfl
attribute [local go_sem ↓] zog ldq_24
end
def lbls:List ByteArray:=[⟨#[109,97,99]⟩,⟨#[115,116,114,101,97,109]⟩,⟨#[112,97,121]⟩,⟨#[98,108,105,110,100]⟩]
def kys(s:List UInt8):List UInt8:=keysOf s lbls
theorem zoh(s:List UInt8):kys s=Wd.derive s lMac++(Wd.derive s lStream++(Wd.derive s lPay++Wd.derive s lBlind)):=by
 simp[kys,keysOf,lbls,lMac,lStream,lPay,lBlind]
theorem zhv(s:List UInt8):(kys s).length=128:=zi8 s lbls
theorem znn(al s:List UInt8):(stp al s).keys=kys s:=by rw[zoh];rfl
def places67:Array (Nat × Nat):=#[(0,32),(32,32),(64,32),(96,32)]
theorem pl67(r:Array Field)(h:Tryz.prog.underlying 81 = some (.struct r))(w:World):(r.mapM (fun f=>do pure (f.offset,←sizeOf f.type)):Sem (Array (Nat × Nat))).run Tryz.prog w=.ok places67 w:=by
 rw[Tryz.underlying81]at h
 injection h with h
 injection h with h
 subst h
 kernel_rfl
theorem zc67:Tryz.zeroCells81 = (u8s (List.replicate 128 0)).toArray:=by kernel_rfl
theorem zg3{α:Type}(Z X1 X2 X3 X4:List α)(k:Nat)(h1:X1.length=k)(h2:X2.length=k)(h3:X3.length=k)(hZ:Z.length=k+k+k+X4.length):
 splice (splice (splice (splice Z 0 X1) k X2) (k+k) X3) (k+k+k) X4=X1++(X2++(X3++X4)):=by
 have e1:splice Z 0 X1=X1++Z.drop k:=by simp[splice,h1]
 rw[e1]
 have e2:splice (X1++Z.drop k) k X2=X1++(X2++Z.drop (k+k)):=by
  unfold splice
  rw[List.take_left' h1,h2,List.drop_append,List.drop_eq_nil_of_le om,List.nil_append,List.drop_drop,h1,Nat.add_sub_cancel_left]
 rw[e2,←as9 X1]
 have e3:splice ((X1++X2)++Z.drop (k+k)) (k+k) X3=(X1++X2)++(X3++Z.drop (k+k+k)):=by
  unfold splice
  rw[List.take_left' (by simp[h1,h2]),h3,List.drop_append,List.drop_eq_nil_of_le (by simp[h1,h2]),List.nil_append,List.drop_drop,la9,h1,h2,Nat.add_sub_cancel_left]
 rw[e3,←as9 (X1++X2)]
 unfold splice
 rw[List.take_left' (by simp[h1,h2,h3];omega),List.drop_append,List.drop_eq_nil_of_le (by simp[h1,h2,h3];omega),List.nil_append,List.drop_drop,List.drop_eq_nil_of_le (by simp[h1,h2,h3,hZ];omega),List.append_nil]
 simp
theorem zzl(a b c d:List UInt8)(ha:a.length=32)(hb:b.length=32)(hc:c.length=32)(hd:d.length=32)(w:World):(Instr.build 81 #[(0,.agg (u8s a).toArray),(1,.agg (u8s b).toArray),(2,.agg (u8s c).toArray),(3,.agg (u8s d).toArray)]).run Tryz.prog w=.ok (.agg (u8s (a++(b++(c++d)))).toArray) w:=by
 have e0:(u8s a).length=32:=by rw[zaa,ha]
 have e1:(u8s b).length=32:=by rw[zaa,hb]
 have e2:(u8s c).length=32:=by rw[zaa,hc]
 have e3:(u8s d).length=32:=by rw[zaa,hd]
 have z0:(u8s (List.replicate 128 0)).length=128:=by rw[zaa,lp9]
 have l1:(splice (u8s (List.replicate 128 0)) 0 (u8s a)).length=128:=by rw[length_splice _ _ _ (by rw[e0,z0];omega),z0]
 have l2:(splice (splice (u8s (List.replicate 128 0)) 0 (u8s a)) 32 (u8s b)).length=128:=by rw[length_splice _ _ _ (by rw[e1,l1];omega),l1]
 have l3:(splice (splice (splice (u8s (List.replicate 128 0)) 0 (u8s a)) 32 (u8s b)) 64 (u8s c)).length=128:=by rw[length_splice _ _ _ (by rw[e2,l2];omega),l2]
 refine zbt Tryz.zeroValue81 Tryz.underlying81 (pl67 _ Tryz.underlying81) ?_ w;rw[zc67]
 show Instr.fill _ _ [(0,_),(1,_),(2,_),(3,_)]=_
 rw [zat (cs:=u8s a) rfl (by rw[e0];rfl) (by rw[e0,z0];omega),zat (cs:=u8s b) rfl (by rw[e1];rfl) (by rw[e1,l1];omega),
   zat (cs:=u8s c) rfl (by rw[e2];rfl) (by rw[e2,l2];omega),zat (cs:=u8s d) rfl (by rw[e3];rfl) (by rw[e3,l3];omega)]
 have:splice (splice (splice (splice (u8s (List.replicate 128 0)) 0 (u8s a)) 32 (u8s b)) 64 (u8s c)) 96 (u8s d)=u8s (a++(b++(c++d))):=by
  rw[zg3 _ _ _ _ _ 32 e0 e1 e2 (by rw[z0,e3])]
  simp[zae]
 rw[this]
 rfl
theorem sz32a(w:World):(sizeOf 27).run Tryz.prog w=.ok 32 w:=by kernel_rfl
theorem zop{P:Program}{o:Oper}{a:Act}{w:World}(t:TypeId)(A:List (Nat × Operand))(ho:o.op=.build t A.toArray)(r:List (Nat × Value))(he:A.map (fun p=>(p.1,a.eval p.2))=r){v:Value}(D:(Instr.build t r.toArray).run P w=.ok v w):(execOp a.eval o).run P w=.ok (.value v) w:=by
 unfold execOp
 simp only[ho,Sem.run_bind,List.map_toArray,he,D,Sem.run_pure,Result.andThen_ok]
theorem zps(A:Option Addr)(c:Nat)(s:List UInt8)(w:World)(h:Rd w A 32 (u8s s))(hc:32≤c):
 Calls Tryz.prog 73 #[.slice A 32 c] w fun e w'=>e=.returned (.tuple #[.agg (u8s (kys s)).toArray,.int .i64 0])∧Below w.heap.size w w':=by
 have HR:=qh h
 have b2:Hid (∀W A2,Rd W A 32 (u8s s)→Rd W A2 4 (strs lbls)→Calls Tryz.prog 84 #[.slice A 32 c,.slice A2 4 4] W fun e w'=>∃g,e=.returned (.slice (some ⟨g,0,none⟩) 4 4)∧W.heap.size≤g∧Blk w' g 27 (u8s (kys s))∧Below W.heap.size W w'):=fun W A2 h1 h2 =>
  zjc A 32 c s A2 4 4 lbls W h1 hc om h2 om om (by intro l hl;simp only[lbls,List.mem_cons,List.not_mem_nil,or_false]at hl;rcases hl with rfl|rfl|rfl|rfl <;> decide)
 obtain⟨D0,J⟩:=ex9 (Wd.derive s lMac);obtain⟨D1,I⟩:=ex9 (Wd.derive s lStream);obtain⟨D2,M⟩:=ex9 (Wd.derive s lPay);obtain⟨D3,V⟩:=ex9 (Wd.derive s lBlind);have l0:D0.length=32:=by rw[J];exact Wd.derive_len _ _
 have l1:D1.length=32:=by rw[I];exact Wd.derive_len _ _
 have l2:D2.length=32:=by rw[M];exact Wd.derive_len _ _
 have l3:D3.length=32:=by rw[V];exact Wd.derive_len _ _
 have hk:kys s=D0++(D1++(D2++D3)):=by rw[zoh,J,I,M,V]
 have U:Hid ((u8s (kys s)).length=128):=by show _=_;rw[zaa,zhv]
 generalize kys s=KK at *;have a3:Hid (∀W,(Instr.build 81 [(0,(.agg (u8s D0).toArray:Value)),(1,.agg (u8s D1).toArray),(2,.agg (u8s D2).toArray),(3,.agg (u8s D3).toArray)].toArray).run Tryz.prog W=.ok (.agg (u8s KK).toArray) W):=fun W=>by rw[hk];exact zzl D0 D1 D2 D3 l0 l1 l2 l3 W
 have r:∀(W:World) (g o:Nat) (D:List UInt8),Blk W g 27 (u8s KK)→D.length=32→(KK.drop o).take 32=D→(ldAt 27 (.pointer (some ⟨g,o,none⟩))).run Tryz.prog W=.ok (.agg (u8s D).toArray) W:=fun W g o D hb hl he =>
  zal hb _ o (u8s D) (by rw[zaa,hl,za9,zay,he]) _ Tryz.underlying27 rfl (by rw[zaa,hl];exact hd24)
 have a4:Hid (∀g W,Blk W g 27 (u8s KK)→(ldAt 27 (.pointer (some ⟨g,0,none⟩))).run Tryz.prog W=.ok (.agg (u8s D0).toArray) W):=fun g W hb=>r W g 0 D0 hb l0 (by rw[hk,List.drop_zero,List.take_left' l0])
 have a9:Hid (∀g W,Blk W g 27 (u8s KK)→(ldAt 27 (.pointer (some ⟨g,32,none⟩))).run Tryz.prog W=.ok (.agg (u8s D1).toArray) W):=fun g W hb=>r W g 32 D1 hb l1 (by rw[hk,List.drop_left' l0,List.take_left' l1])
 have a2:Hid (∀g W,Blk W g 27 (u8s KK)→(ldAt 27 (.pointer (some ⟨g,64,none⟩))).run Tryz.prog W=.ok (.agg (u8s D2).toArray) W):=fun g W hb=>r W g 64 D2 hb l2 (by rw[hk,←as9,List.drop_left' (by rw[la9,l0,l1]),List.take_left' l2])
 have a0:Hid (∀g W,Blk W g 27 (u8s KK)→(ldAt 27 (.pointer (some ⟨g,96,none⟩))).run Tryz.prog W=.ok (.agg (u8s D3).toArray) W):=fun g W hb=>r W g 96 D3 hb l3 (by rw[hk,←as9,←as9,List.drop_left' (by rw[la9,la9,l0,l1,l2]),tk (by rw[l3];exact lr)])
 have a1:Hid (Blk (w.alloc (.cells Tryz.zeroCells81 81)) w.heap.size 81 (u8s (List.replicate 128 0))):=Blk.new' rfl zc67;have b1:Hid (Below w.heap.size w (w.alloc (.cells Tryz.zeroCells81 81))):=(Below.refl _ w).alloc lr _;clear h J I M V l0 l1 l2 l3 hk r hc
 go_enter Tryz.func73, Tryz.ntmps73
 go_upto_region 4 with (go_at_call 84;(refine(b2.o _ _ (by exact(HR.o.alloc _).alloc _) (by exact(show Blk _ (w.heap.size+1) 9 (strs lbls) from Blk.new' sy rfl).rd 0 4 (by decide))).mono ?_);rintro e w1 ⟨g,rfl,hg,X,G⟩)
 have E:Below w.heap.size w w1:=((b1.o.alloc sy _).trans (G.mono (by simp;omega)));have a7:=qh ((a1.o.alloc _).below G (by simp;omega));have Y:=qh E;have a5:Hid (Blk { w1 with drawn:=w1.drawn+1 } g 27 (u8s KK)):=X.drew;have b4:Hid (g≠w.heap.size):=by show _≠_;simp at hg;omega
 clear X G E hg;go_wp2;refine kgo kr 13 (fun W'=>Blk W' g 27 (u8s KK)) a5.o (fun _ _ _ _ _ h=>h) ?_;refine kp 0 (.slice (some ⟨g,0,none⟩) 4 4) rfl kr (fun _=>kr) ?_;refine kp 1 (.pointer (some ⟨g,0,none⟩)) rfl kr (fun _=>(zby (t:=35) (e:=27) (x:=.tmp 12) (y:=.const (.int .i64 0)) (g:=g) (off:=0) (n:=4) (c:=4) (p:=0) (sz:=32) rr kr rfl om Tryz.underlying35 sz32a)) ?_;refine kl 2 (.agg (u8s D0).toArray) rfl kr (fun w' hw'=>zdp (x:=.tmp 13) rr kr (a4.o g w' hw')) ?_;refine kp 3 (.slice (some ⟨g,0,none⟩) 4 4) rfl kr (fun _=>kr) ?_;refine kp 4 (.pointer (some ⟨g,32,none⟩)) rfl kr (fun _=>(zby (t:=35) (e:=27) (x:=.tmp 15) (y:=.const (.int .i64 1)) (g:=g) (off:=0) (n:=4) (c:=4) (p:=1) (sz:=32) rr kr rfl om Tryz.underlying35 sz32a)) ?_;refine kl 5 (.agg (u8s D1).toArray) rfl kr (fun w' hw'=>zdp (x:=.tmp 16) rr kr (a9.o g w' hw')) ?_;refine kp 6 (.slice (some ⟨g,0,none⟩) 4 4) rfl kr (fun _=>kr) ?_;refine kp 7 (.pointer (some ⟨g,64,none⟩)) rfl kr (fun _=>(zby (t:=35) (e:=27) (x:=.tmp 18) (y:=.const (.int .i64 2)) (g:=g) (off:=0) (n:=4) (c:=4) (p:=2) (sz:=32) rr kr rfl om Tryz.underlying35 sz32a)) ?_;refine kl 8 (.agg (u8s D2).toArray) rfl kr (fun w' hw'=>zdp (x:=.tmp 19) rr kr (a2.o g w' hw')) ?_;refine kp 9 (.slice (some ⟨g,0,none⟩) 4 4) rfl kr (fun _=>kr) ?_;refine kp 10 (.pointer (some ⟨g,96,none⟩)) rfl kr (fun _=>(zby (t:=35) (e:=27) (x:=.tmp 21) (y:=.const (.int .i64 3)) (g:=g) (off:=0) (n:=4) (c:=4) (p:=3) (sz:=32) rr kr rfl om Tryz.underlying35 sz32a)) ?_;refine kl 11 (.agg (u8s D3).toArray) rfl kr (fun w' hw'=>zdp (x:=.tmp 22) rr kr (a0.o g w' hw')) ?_;refine kp 12 (.agg (u8s KK).toArray) rfl kr (fun _=>zop 81 [(0,.tmp 14),(1,.tmp 17),(2,.tmp 20),(3,.tmp 23)] rr [(0,(.agg (u8s D0).toArray:Value)),(1,.agg (u8s D1).toArray),(2,.agg (u8s D2).toArray),(3,.agg (u8s D3).toArray)] kr (a3.o _)) ?_;intro q8 q9;clear q8 q9;refine AnyK.storeAll 13 w.heap.size (u8s KK) 81 (u8s (List.replicate 128 0)) rr rfl rfl rr kr kr kr a7.o.drew (by rw[U.o];exact hd67) (zac _) (by rw[U.o,zaa,lp9]) (fun _ _ _ h=>(by cases h)) ?_;intro w2 a8 b3;have a6:=qh (b3.below Y.o.drew lr Y.o.size);refine AnyK.val 14 (v:=.int .i64 0) rr kr rfl kr (fun h=>(by cases h)) ?_;refine AnyK.done kr ?_;go_wp2;exact bodyPost_ret (zak (p:=2) (u:=3) (ty:=81) rfl _ w.heap.size 81 (u8s KK) kr a8 _ Tryz.underlying81 rfl (by rw[U.o];exact hd67)) rfl ⟨by kernel_rfl,a6.o⟩
section
attribute [local go_sem ↓] zog zb0
theorem zo1(al r:List UInt8)(h1:al.length=32)(h2:r.length=32)(w:World):
 Calls Tryz.prog 43 #[.agg (u8s al).toArray,.agg (u8s r).toArray] w fun e w'=>e=.returned (.tuple #[.agg (stp al r).cells.toArray,.int .i64 0])∧Below w.heap.size w w':=by
 have V:=znm h1 h2
 have a9:Hid (∀W,(Instr.build 83 [(0,(.agg (u8s (kys r)).toArray:Value)),(1,.agg (u8s al).toArray),(2,.agg (u8s r).toArray)].toArray).run Tryz.prog W=.ok (.agg (stp al r).cells.toArray) W):=fun W=>by
  have:=bld_sp (stp al r) V W
  rwa [znn]at this
 have U:Hid ((stp al r).cells.length=192):=Sp.cells_len V;have a6:=qh (Sp.cells_one (stp al r));generalize (stp al r).cells=C at *;have M:Hid ((u8s (kys r)).length=128):=by show _=_;rw[zaa,zhv]
 have b2:Hid (∀v∈u8s (kys r),v.oneCell'=true):=zac _;have a4:Hid (∀W A,Rd W A 32 (u8s r)→Calls Tryz.prog 73 #[.slice A 32 32] W fun e w'=>e=.returned (.tuple #[.agg (u8s (kys r)).toArray,.int .i64 0])∧Below W.heap.size W w'):=fun W A h=>zps A 32 r W h om
 have a5:Hid ((u8s al).length=32):=by show _=_;rw[zaa,h1]
 have J:Hid ((u8s r).length=32):=by show _=_;rw[zaa,h2]
 generalize u8s (kys r)=KK at *;generalize u8s al=AL at *;generalize u8s r=SE at *;obtain⟨W0,E⟩:=ex9 (((w.alloc (.cells AL.toArray 27)).alloc (.cells SE.toArray 27)).alloc (.cells Tryz.zeroCells83 83));have b5:Hid (Blk W0 w.heap.size 27 AL):=by rw[E];exact((Blk.new w _ _).alloc _).alloc _
 have a1:Hid (Blk W0 (w.heap.size+1) 27 SE):=by rw[E];exact(show Blk (((w.alloc (.cells AL.toArray 27)).alloc (.cells SE.toArray 27))) (w.heap.size+1) 27 SE from Blk.new' sy rfl).alloc _
 have b4:Hid (Blk W0 (w.heap.size+2) 83 (u8s (List.replicate 192 0))):=by rw[E];exact Blk.new' sy zcSp
 have b6:Hid (Below w.heap.size w W0):=by rw[E];exact(((Below.refl _ w).alloc lr _).alloc sy _).alloc (by simp;omega) _
 have a8:Hid (Rd W0 (some ⟨w.heap.size+1,0,none⟩) 32 SE):=by have:=a1.o.rd 0 32 (by rw[J.o];exact lr);rwa [List.drop_zero,tk (by rw[J.o];exact lr)]at this
 subst E;clear h1 h2 V
 go_enter Tryz.func43, Tryz.ntmps43
 go_wp2_with (first
  | (go_at_call 73;(refine(a4.o _ _ (by exact a8.o)).mono ?_);rintro e w1 ⟨rfl,D⟩;have I:=qtr b6 D;have Y:=qbl b5 D;have X:=qbl a1 D;have a3:=qbl b4 D;clear D)
  | (refine zab rfl 81 (.tmp 6) (.tmp 11) rfl w1.heap.size KK rr rr 81 (u8s (List.replicate 128 0)) (by exact Blk.new' rfl zc67) (by rw[M.o];exact hd67) b2.o (by rw[M.o,zaa,lp9]) ?_;intro w2 a2 G;have a0:=qh (G.below (I.o.alloc I.o.size _) I.o.size (Nat.le_trans I.o.size sy));have b1:=qal G a3 (by have:=a3.o.lt;omega);have l1:=zev (G.blk (Y.o.alloc _) (by have:=Y.o.lt;omega)) a5.o;have l2:=zev (G.blk (X.o.alloc _) (by have:=X.o.lt;omega)) J.o;have l3:(ldAt 81 (.pointer (some ⟨w1.heap.size,0,none⟩))).run Tryz.prog w2=.ok (.agg KK.toArray) w2:=zal a2 _ 0 KK (by rw[List.drop_zero,tk lr]) _ Tryz.underlying81 rfl (by rw[M.o];exact hd67);clear a2 G)
  | (refine zai rfl 83 [(0,.tmp 17),(1,.tmp 18),(2,.tmp 19)] rfl _ rr (.agg C.toArray) (a9.o _) ?_)
  | (refine zab rfl 83 (.tmp 4) (.tmp 20) rfl (w.heap.size+2) C rr rr 83 (u8s (List.replicate 192 0)) (by exact b1.o) (by rw[U.o];exact hd69) a6.o (by rw[U.o];rfl) ?_;intro w3 b7 a7;have b3:=qh (a7.below a0.o om a0.o.size)))
 exact bodyPost_ret (zak rfl _ _ _ _ rfl b7 _ Tryz.underlying83 rfl (by rw[U.o];exact hd69)) rfl ⟨rfl,b3.o⟩
end
theorem zyi(w:World)(base:Nat)(e:TypeId):w.ownsRow base e 1 (.slice none 0 0) 0 (u8s []):=⟨rfl,.inl ⟨rfl,rfl⟩⟩
theorem zme(A:Option Addr)(n c:Nat)(k:List UInt8)(A2:Option Addr)(n2 c2:Nat)(r:List UInt8)(w:World)(h:Rd w A n (u8s k))(hn:n≤100000000)(h2:Rd w A2 n2 (u8s r))(f7:n2≤1000000):
 Calls Tryz.prog 115 #[.slice A n c,.int .i64 32,.slice A2 n2 c2] w fun e w'=>∃A' c',e=.returned (.tuple #[.slice A' 32 c',.int .i64 0])∧32≤c'∧Rd w' A' 32 (u8s (Wd.expand k r))∧Below w.heap.size w w':=by
 have b2:=qh (fun W A3 c3 (h1:Rd W A n (u8s k)) (h3:Rd W A3 (n2+1) (u8s (r++[1])))=>zjq A n c k A3 (n2+1) c3 (r++[1]) W h1 hn h3 om);have b3:Hid ((Mc.tag k (r++[1])).length=32):=Mc.tag_len _ _;have a6:Hid ((Tryz.prog.info? 27).map (·.size)=some (u8s (Mc.tag k (r++[1]))).length):=by rw[zaa,Mc.tag_len];exact hd24
 have a7:Hid ((u8s (Mc.tag k (r++[1]))).length=(u8s (List.replicate 32 0)).length):=by show _=_;rw[zaa,Mc.tag_len];rfl
 have H1:Hid (∀v∈u8s (Mc.tag k (r++[1])),v.oneCell'=true):=zac _;have c1:Hid (Wd.expand k r=Mc.tag k (r++[1])):=rfl;obtain⟨X,hX⟩:=ex9 (Mc.tag k (r++[1]));rw[c1.o,←hX];rw[←hX]at b2 b3 a6 a7 H1;obtain⟨U,hU⟩:=ex9 (u8s X);rw[←hU]at b2 a6 a7 H1;have HU:=qh hU;have e1:=qh (fun W=>zb1 none 0 0 [] W (Rd.nil _ _) om);have a2:=qh (fun W A3 c3 (h3:Rd W A3 32 (u8s X))=>zb1 A3 32 c3 X W h3 om);have HR:=qh h;have e5:=qh h2;clear h h2 hX hU c1
 go_enter Tryz.func115, Tryz.ntmps115
 go_wp2_with fail
 go_loopg [8,9,10] 1 (fun kk v la q wr=>Below w.heap.size w wr∧((kk=1∧v=.slice none 0 0∧la=.slice none 0 0∧q=.int .i64 1) ∨
   (kk=0∧q=.int .i64 2∧∃A' c',v=.slice A' 32 c'∧32≤c'∧wr.ownsRow w.heap.size 5 1 (.slice A' 32 c') 32 (u8s X))))
 case atStart=>exact⟨Below.refl _ _,.inl ⟨rfl,rfl,rfl,rfl⟩⟩
 case round =>
  obtain⟨hB,⟨b1,rfl,rfl,rfl⟩|⟨b1,rfl,A',c',rfl,f2,a5⟩⟩:=hrel
  · have e4:=qh b1
    have a9:=qh hB;have d9:=hB.size;clear b1 hB
    go_wp2_with (first
     | (go_at_call 28;(with_reducible refine(a2.o _ _ _ e3.o).mono ?_);rintro e f5 ⟨e6,e0,rfl,f1,G,a3⟩;have V:=qtr e2 a3;have b4:=qh (Rd.of_own G);clear G a3)
     | (go_at_call 28;(with_reducible refine(e1.o _).mono ?_);rintro e w3 ⟨A3,c3,rfl,c0,D,M⟩;have I:=qtr a9 M;have d5:=qh (zbi D (base':=w.heap.size) d9);clear D M)
     | (at_builtin;refine zah rfl (.tmp 26) (.tmp 27) 22 rfl w.heap.size 5 1 1 Tryz.underlying22 eU8 (.slice A3 0 c3) 0 (u8s []) rr (by exact d5.o) A2 n2 c2 (u8s r) rr (by exact(e5.o.below I.o).toS) (zac _) om om I.o.size ?_;intro A4 c4 w4 J f3 c9 b6;have a1:=qh (I.o.grown c9 I.o.size (fun g hg=>(d5.o.lt g hg).1));have b9:Hid (w4.ownsRow w.heap.size 5 1 (.slice A4 n2 c4) n2 (u8s r)):=(by have h5:=J;rw[Nat.zero_add]at h5;exact h5);clear J c9 b6)
     | (at_builtin;refine zah rfl (.tmp 28) (.tmp 31) 22 rfl w.heap.size 5 1 1 Tryz.underlying22 eU8 (.slice A4 n2 c4) n2 (u8s r) rr (by exact b9.o.alloc _) (some ⟨w4.heap.size,0,none⟩) 1 1 (u8s [1]) rr (by exact RdS.new w4 5 (u8s [1]) 1 rfl) (zac _) om om (Nat.le_trans a1.o.size sy) ?_;intro A5 c5 w5 Y f6 d7 c7;have c6:=qh ((a1.o.alloc a1.o.size _).grown d7 (Nat.le_trans a1.o.size sy) (fun g hg=>(b9.o.lt g hg).1));have d4:=qh (Rd.of_own Y);rw[←zae]at d4;clear Y d7 c7)
     | (go_at_call 114;(with_reducible refine(b2.o _ _ _ (HR.o.below c6.o) d4.o).mono ?_);rintro e w7 ⟨rfl,d6⟩;have a0:=qtr c6 d6;clear d6)
     | (refine zab rfl 27 (.tmp 12) (.tmp 35) rfl w7.heap.size U rr rr 27 (u8s (List.replicate 32 0)) (by exact Blk.new' rfl rfl) a6.o H1.o a7.o ?_;intro w9 b7 c8;have e2:=qh (c8.below (a0.o.alloc a0.o.size _) a0.o.size (Nat.le_trans a0.o.size sy));have e3:Hid (Rd w9 (some ⟨w7.heap.size,0,none⟩) 32 (u8s X)):=(by have h5:=b7;rw[HU.o]at h5;have h6:=h5.rdAll;rw[b3.o]at h6;exact h6);clear b7 c8)
     | (at_builtin;refine zah rfl (.tmp 38) (.tmp 39) 22 rfl w.heap.size 5 1 1 Tryz.underlying22 eU8 (.slice none 0 0) 0 (u8s []) rr (by exact zyi _ _ _) e6 32 e0 (u8s X) rr (by exact b4.o.toS) (zac _) om om V.o.size ?_;intro b5 d3 e7 E f0 a4 a8;have d0:=qh (V.o.grown a4 V.o.size (fun g hg=>by cases hg));have d8:Hid (e7.ownsRow w.heap.size 5 1 (.slice b5 32 d3) 32 (u8s X)):=E;clear E a4 a8))
    go_roundg 0
    case measure=>have:=e4.o;omega
    case rel=>exact⟨d0.o,.inr ⟨rfl,rfl,b5,d3,rfl,by omega,d8.o⟩⟩
  · obtain⟨g,rfl,hg,_,hr⟩:=zco a5 om
    have e9:=qh hr;have a9:=qh hB;clear a5 hr hB;have f4:(32:Int)≤(c':Int):=om
    go_wp2_with (go_at_call 28;(with_reducible refine(a2.o _ _ _ e9.o).mono ?_);rintro e w3 ⟨A3,c3,rfl,c0,D,M⟩;have I:=qtr a9 M;have e8:=qh (Rd.of_own D);clear D M)
    go_ret2;exact⟨A3,c3,rfl,c0,e8.o,I.o⟩
theorem zd8(A:Option Addr)(n c:Nat)(k:List UInt8)(S:ByteArray)(w:World)(h:Rd w A n (u8s k))(hn:n≤1000000)(hS:S.size≤1000):
 Calls Tryz.prog 90 #[.slice A n c,.string S] w fun e w'=>e=.returned (.agg (u8s (Wd.derive k S.data.toList)).toArray)∧Below w.heap.size w w':=by
 obtain⟨w0,I⟩:=ex9 (w.alloc (.cells (u8s (List.replicate 32 0)).toArray 27));have a3:w0.heap.size=w.heap.size+1:=by rw[I];simp
 have a4:=zjq (some ⟨w.heap.size+1,0,none⟩) 7 7 Wd.salt A n c k (w0.alloc (.cells (u8s Wd.salt).toArray 5 (7,8))) (by rw[←a3];exact zhg w0 5 (u8s Wd.salt) (7,8)) om ((show Rd w0 A n (u8s k) by rw[I];exact h.alloc _).alloc _) om;have e7:(w0.alloc (.cells (u8s Wd.salt).toArray 5 (7,8))).heap.size=w.heap.size+2:=by simp[a3]
 rw[e7,I]at a4;have a7:Hid (Calls Tryz.prog 114 #[.slice (some ⟨w.heap.size+1,0,none⟩) 7 7,.slice A n c] ((w.alloc (.cells #[.int .u8 0,.int .u8 0,.int .u8 0,.int .u8 0,.int .u8 0,.int .u8 0,.int .u8 0,.int .u8 0,.int .u8 0,.int .u8 0,.int .u8 0,.int .u8 0,.int .u8 0,.int .u8 0,.int .u8 0,.int .u8 0,.int .u8 0,.int .u8 0,.int .u8 0,.int .u8 0,.int .u8 0,.int .u8 0,.int .u8 0,.int .u8 0,.int .u8 0,.int .u8 0,.int .u8 0,.int .u8 0,.int .u8 0,.int .u8 0,.int .u8 0,.int .u8 0] 27)).alloc (.cells #[.int .u8 115,.int .u8 104,.int .u8 97,.int .u8 108,.int .u8 108,.int .u8 111,.int .u8 116] 5 (7,8))) fun e w'=>e=.returned (.agg (u8s (Mc.tag Wd.salt k)).toArray)∧Below (w.heap.size+2) ((w.alloc (.cells (u8s (List.replicate 32 0)).toArray 27)).alloc (.cells (u8s Wd.salt).toArray 5 (7,8))) w'):=a4;have b5:Hid ((Mc.tag Wd.salt k).length=32):=Mc.tag_len _ _;have V:Hid ((Tryz.prog.info? 27).map (·.size)=some (u8s (Mc.tag Wd.salt k)).length):=by rw[zaa,Mc.tag_len];exact hd24
 have a2:Hid ((u8s (Mc.tag Wd.salt k)).length=(u8s (List.replicate 32 0)).length):=by show _=_;rw[zaa,Mc.tag_len];rfl
 have H1:Hid (∀v∈u8s (Mc.tag Wd.salt k),v.oneCell'=true):=zac _;have b2:Hid (Wd.derive k S.data.toList=Wd.expand (Mc.tag Wd.salt k) S.data.toList):=rfl;obtain⟨X,hX⟩:=ex9 (Mc.tag Wd.salt k);rw[←hX]at a7 b5 V a2 H1 b2;obtain⟨U,hU⟩:=ex9 (u8s X);rw[←hU]at a7 V a2 H1;have HU:=qh hU;have a5:=qh (fun W g B c3 (h1:Rd W (some ⟨g,0,none⟩) 32 (u8s X)) (h3:Rd W B S.size (u8s S.data.toList))=>zme (some ⟨g,0,none⟩) 32 32 X B S.size c3 S.data.toList W h1 om h3 om);rw[←b2.o]at a5;have E:(Wd.derive k S.data.toList).length=32:=Wd.derive_len _ _;obtain⟨D,hD⟩:=ex9 (Wd.derive k S.data.toList);rw[←hD]at a5 E ⊢;have J:Hid ((Tryz.prog.info? 27).map (·.size)=some (u8s D).length):=by rw[zaa,E];exact hd24
 have a9:Hid ((u8s D).length=(u8s (List.replicate 32 0)).length):=by show _=_;rw[zaa,E];rfl
 have c4:Hid (∀v∈u8s D,v.oneCell'=true):=zac _
 have b7:Hid (splice (u8s (List.replicate 32 0)) 0 ((u8s D).take 32)=u8s D):=by
  show _=_
  rw[tk (by rw[zaa,E];exact lr)];exact zap _ _ a9.o
 obtain⟨DU,a1⟩:=ex9 (u8s D);rw[←a1]at J a9 c4 b7 ⊢;have d0:=qh a1;have kc:=fun(Z:Obj) (C:Array Value) (n c:Nat)=>Joins.run_convert_bytes_const_at (P:=Tryz.prog) (w.alloc Z) 22 5 C n c (w.heap.size+1) sy Tryz.underlying22 Tryz.underlying5
 clear h I a3 a4 e7 hX hU hD E a1 b2 w0
 go_enter Tryz.func90, Tryz.ntmps90
 go_wp2_with (first
  | (go_at_call 114;(with_reducible refine a7.o.mono ?_);rintro e w1 ⟨rfl,Y⟩;have M:=qh ((((Below.refl _ w).alloc lr (.cells (u8s (List.replicate 32 0)).toArray 27)).alloc sy _).trans (Y.mono om));have c1:=qh (((Blk.new' (w:=w) (cs:=u8s (List.replicate 32 0)) (t:=27) rfl rfl).alloc _).below Y om);clear Y kc)
  | (refine zab rfl 27 (.tmp 5) (.tmp 12) rfl w1.heap.size U rr rr 27 (u8s (List.replicate 32 0)) (by exact Blk.new' rfl rfl) V.o H1.o a2.o ?_;intro w3 c8 a0;have e4:=c1.o.lt;have b6:=qh (a0.below (M.o.alloc M.o.size _) M.o.size (Nat.le_trans M.o.size sy));have b3:=qh (a0.blk (c1.o.alloc _) om);have c7:Hid (Blk w3 w1.heap.size 27 (u8s X)):=(by rw[←HU.o];exact c8);obtain⟨c5,w5,e1,e2,d6,a8⟩:=zjd w3 S;have d7:=qh (b6.o.trans (a8.o.mono b6.o.size));have d4:=qh (b3.o.below a8.o b3.o.lt);have d8:Hid (Rd w5 (some ⟨w1.heap.size,0,none⟩) 32 (u8s X)):=(by have h6:=(c7.o.below a8.o c7.o.lt).rdAll;rw[b5.o]at h6;exact h6);clear c8 a0)
  | (go_at_call 115;(with_reducible refine(a5.o w5 _ _ _ d8.o d6.o).mono ?_);rintro e w6 ⟨A6,c6,rfl,e5,b4,b1⟩;have G:=qtr d7 b1;have c0:=qbl d4 b1;have d3:=qh b4;clear b4 b1 e1)
  | (refine zav rfl (.tmp 20) (.tmp 21) 22 rfl 5 Tryz.underlying22 zbk w6.heap.size 0 32 32 rr A6 32 c6 rr 27 (u8s (List.replicate 32 0)) (by exact Blk.new' rfl rfl) (u8s D) (by exact d3.o.alloc _) (zac _) (by rw[zaa];exact lr) ?_;intro w7 c2 a6;have r:=c2;rw[←d0.o,b7.o]at r;have e3:=c0.o.lt;have b9:=qh (a6.below (G.o.alloc G.o.size _) G.o.size (Nat.le_trans G.o.size sy));have e0:=qh (a6.blk (c0.o.alloc _) om);have d5:=qh r.range;clear c2 r a6)
  | refine wpList_load_mid rfl 27 (.tmp 8) rfl w6.heap.size 0 rr DU _ d5.o Tryz.underlying27 rfl J.o ?_
  | (refine zab rfl 27 (.tmp 4) (.tmp 23) rfl w.heap.size DU rr rr 27 _ e0.o J.o c4.o a9.o ?_;intro w8 d9 c9))
 exact bodyPost_ret (zan rfl _ w.heap.size _ DU rfl d9 _ Tryz.underlying27 rfl J.o) rfl ⟨rfl,c9.below b9.o lr b9.o.size⟩
section
attribute [local go_sem ↓] zog
def ky2(D0 D1:List UInt8):List Value:=splice (splice (u8s (List.replicate 128 0)) 0 (u8s D0)) 32 (u8s D1)
theorem zy4(D0 D1:List UInt8)(h0:D0.length=32)(h1:D1.length=32):(ky2 D0 D1).length=128:=by
 have z0:(u8s (List.replicate 128 0)).length=128:=by rw[zaa,lp9]
 have e0:(u8s D0).length=32:=by rw[zaa,h0]
 have e1:(u8s D1).length=32:=by rw[zaa,h1]
 have l1:(splice (u8s (List.replicate 128 0)) 0 (u8s D0)).length=128:=by rw[length_splice _ _ _ (by rw[e0,z0];omega),z0]
 rw[ky2,length_splice _ _ _ (by rw[e1,l1];omega),l1]
theorem zik(Z X:List Value)(o:Nat)(hz:∀v∈Z,v.oneCell'=true)(hx:∀v∈X,v.oneCell'=true):∀v∈splice Z o X,v.oneCell'=true:=by
 intro v hv;simp only[splice,List.mem_append]at hv
 rcases hv with hv|hv|hv
 · exact hz v (List.mem_of_mem_take hv)
 · exact hx v hv
 · exact hz v (List.mem_of_mem_drop hv)
theorem zzm(D0 D1:List UInt8)(h0:D0.length=32)(h1:D1.length=32)(w:World):(Instr.build 81 [(0,(.agg (u8s D0).toArray:Value)),(1,.agg (u8s D1).toArray)].toArray).run Tryz.prog w=.ok (.agg (ky2 D0 D1).toArray) w:=by
 have e0:(u8s D0).length=32:=by rw[zaa,h0]
 have e1:(u8s D1).length=32:=by rw[zaa,h1]
 have z0:(u8s (List.replicate 128 0)).length=128:=by rw[zaa,lp9]
 have l1:(splice (u8s (List.replicate 128 0)) 0 (u8s D0)).length=128:=by rw[length_splice _ _ _ (by rw[e0,z0];omega),z0]
 refine zbt Tryz.zeroValue81 Tryz.underlying81 (pl67 _ Tryz.underlying81) ?_ w;rw[zc67]
 show Instr.fill _ _ [(0,_),(1,_)]=_
 rw[zat (cs:=u8s D0) rfl (by rw[e0];rfl) (by rw[e0,z0];omega),zat (cs:=u8s D1) rfl (by rw[e1];rfl) (by rw[e1,l1];omega)]
 rfl
theorem zmb(A:Option Addr)(c:Nat)(s:List UInt8)(w:World)(h:Rd w A 32 (u8s s)):
 Calls Tryz.prog 60 #[.slice A 32 c] w fun e w'=>e=.returned (.tuple #[.agg (u8s (kys s)).toArray,.int .i64 0])∧Below w.heap.size w w':=by
 have HR:=qh h;obtain⟨D0,I⟩:=ex9 (Wd.derive s lMac);obtain⟨D1,E⟩:=ex9 (Wd.derive s lStream);obtain⟨D2,J⟩:=ex9 (Wd.derive s lPay);obtain⟨D3,U⟩:=ex9 (Wd.derive s lBlind);have l0:D0.length=32:=by rw[I];exact Wd.derive_len _ _
 have l1:D1.length=32:=by rw[E];exact Wd.derive_len _ _
 have l2:D2.length=32:=by rw[J];exact Wd.derive_len _ _
 have l3:D3.length=32:=by rw[U];exact Wd.derive_len _ _
 have d9:Hid (∀W,Rd W A 32 (u8s s)→Calls Tryz.prog 90 #[.slice A 32 c,.string ⟨#[109,97,99]⟩] W fun e w'=>e=.returned (.agg (u8s D0).toArray)∧Below W.heap.size W w'):=fun W hW=>by
  rw[I];exact zd8 A 32 c s ⟨#[109,97,99]⟩ W hW om (by decide)
 have b9:Hid (∀W,Rd W A 32 (u8s s)→Calls Tryz.prog 90 #[.slice A 32 c,.string ⟨#[115,116,114,101,97,109]⟩] W fun e w'=>e=.returned (.agg (u8s D1).toArray)∧Below W.heap.size W w'):=fun W hW=>by
  rw[E];exact zd8 A 32 c s ⟨#[115,116,114,101,97,109]⟩ W hW om (by decide)
 have d3:Hid (∀W,Rd W A 32 (u8s s)→Calls Tryz.prog 90 #[.slice A 32 c,.string ⟨#[112,97,121]⟩] W fun e w'=>e=.returned (.agg (u8s D2).toArray)∧Below W.heap.size W w'):=fun W hW=>by
  rw[J];exact zd8 A 32 c s ⟨#[112,97,121]⟩ W hW om (by decide)
 have c3:Hid (∀W,Rd W A 32 (u8s s)→Calls Tryz.prog 90 #[.slice A 32 c,.string ⟨#[98,108,105,110,100]⟩] W fun e w'=>e=.returned (.agg (u8s D3).toArray)∧Below W.heap.size W w'):=fun W hW=>by
  rw[U];exact zd8 A 32 c s ⟨#[98,108,105,110,100]⟩ W hW om (by decide)
 have hk:kys s=D0++(D1++(D2++D3)):=by rw[zoh,I,E,J,U]
 have e2:Hid (splice (splice (ky2 D0 D1) 64 (u8s D2)) 96 (u8s D3)=u8s (kys s)):=by
  show _=_
  rw[ky2,zg3 _ _ _ _ _ 32 (by rw[zaa,l0]) (by rw[zaa,l1]) (by rw[zaa,l2]) (by rw[zaa,lp9,zaa,l3]),hk]
  simp[zae]
 have M:Hid ((u8s (kys s)).length=128):=by show _=_;rw[zaa,zhv]
 have d0:Hid (∀v∈u8s (kys s),v.oneCell'=true):=zac _;have D:=zy4 D0 D1 l0 l1;have a6:=qh D;have d6:Hid (∀v∈ky2 D0 D1,v.oneCell'=true):=zik _ _ _ (zik _ _ _ (zac _) (zac _)) (zac _);have c4:=qh (fun W=>zzm D0 D1 l0 l1 W);have a0:Hid ((u8s D2).length=32):=by show _=_;rw[zaa,l2]
 have a7:Hid ((u8s D3).length=32):=by show _=_;rw[zaa,l3]
 have c7:Hid ((splice (ky2 D0 D1) 64 (u8s D2)).length=128):=by show _=_;rw[length_splice _ _ _ (by rw[a0.o,D];omega),D]
 generalize ky2 D0 D1=P2 at *;generalize u8s (kys s)=KK at *;have c1:Hid (Blk (w.alloc (.cells Tryz.zeroCells81 81)) w.heap.size 81 (u8s (List.replicate 128 0))):=Blk.new' rfl zc67;have e4:Hid (Below w.heap.size w (w.alloc (.cells Tryz.zeroCells81 81))):=(Below.refl _ w).alloc lr _;clear h I E J U l0 l1 l2 l3 hk D
 go_enter Tryz.func60, Tryz.ntmps60
 go_wp2_with (first
  | (go_at_call 90;(with_reducible refine(d9.o _ (by exact HR.o.alloc _)).mono ?_);rintro e w1 ⟨rfl,X⟩;have b7:=qtr e4 X;have d7:=qbl c1 X;clear X)
  | (go_at_call 90;(with_reducible refine(b9.o _ (by exact HR.o.below b7.o)).mono ?_);rintro e w2 ⟨rfl,a3⟩;have r:=qtr b7 a3;have a4:=qbl d7 a3;clear a3)
  | (refine zai rfl 81 [(0,.tmp 10),(1,.tmp 12)] rfl _ rr (.agg P2.toArray) (c4.o _) ?_)
  | (refine zab rfl 81 (.tmp 4) (.tmp 13) rfl w2.heap.size P2 rr rr 81 (u8s (List.replicate 128 0)) (by exact Blk.new' rfl zc67) (by rw[a6.o];exact hd67) d6.o (by rw[a6.o,zaa,lp9]) ?_;intro w3 b6 Y;have b1:=qh (Y.below (r.o.alloc r.o.size _) r.o.size (Nat.le_trans r.o.size sy));have c5:=qal Y a4 (by have:=a4.o.lt;omega);have e3:=qh b6;have HG:=qh r.o.size;have a8:Hid (w.heap.size≠w2.heap.size):=by have:=a4.o.lt;show _≠_;omega
     clear b6 Y)
  | (go_at_call 90;(with_reducible refine(d3.o _ (by exact HR.o.below b1.o)).mono ?_);rintro e w4 ⟨rfl,G⟩;have b5:=qtr b1 G;have e1:=qbl c5 G;have c6:=qbl e3 G;clear G)
  | (refine zbw rfl 27 (.tmp 16) (.tmp 15) rfl w2.heap.size 64 (u8s D2) rr rr 81 P2 (by exact c6.o) (by rw[a0.o];exact hd24) (zac _) (by rw[a0.o,a6.o];omega) ?_;intro w5 a9 a1;have b2:=qh (a1.below b5.o HG.o b5.o.size);have c8:=qon a1 e1 a8;have d8:=qh a9;clear a9 a1)
  | (go_at_call 90;(with_reducible refine(c3.o _ (by exact HR.o.below b2.o)).mono ?_);rintro e w6 ⟨rfl,V⟩;have b3:=qtr b2 V;have c0:=qbl c8 V;have c9:=qbl d8 V;clear V)
  | (refine zbw rfl 27 (.tmp 19) (.tmp 18) rfl w2.heap.size 96 (u8s D3) rr rr 81 (splice P2 64 (u8s D2)) (by exact c9.o) (by rw[a7.o];exact hd24) (zac _) (by rw[a7.o,c7.o];omega) ?_;intro w7 a5 a2;rw[e2.o]at a5;have b4:=qh (a2.below b3.o HG.o b3.o.size);have d5:=qon a2 c0 a8;have l1:(ldAt 81 (.pointer (some ⟨w2.heap.size,0,none⟩))).run Tryz.prog w7=.ok (.agg KK.toArray) w7:=zal a5 _ 0 KK (by rw[List.drop_zero,tk lr]) _ Tryz.underlying81 rfl (by rw[M.o];exact hd67);clear a5 a2)
  | (refine zab rfl 81 (.tmp 2) (.tmp 20) rfl w.heap.size KK rr rr 81 (u8s (List.replicate 128 0)) (by exact d5.o) (by rw[M.o];exact hd67) d0.o (by rw[M.o,zaa,lp9]) ?_;intro w8 e0 c2;have d4:=qh (c2.below b4.o lr b4.o.size)))
 exact bodyPost_ret (zak rfl _ _ _ _ rfl e0 _ Tryz.underlying81 rfl (by rw[M.o];exact hd67)) rfl ⟨rfl,d4.o⟩
end
theorem xor_comm(a b:List UInt8):Ch.xor a b=Ch.xor b a:=by
 unfold Ch.xor
 induction a generalizing b with
 | nil=>cases b <;> rfl
 | cons x a ih =>
  cases b with
  | nil=>rfl
  | cons y b=>rw[List.zipWith_cons_cons,List.zipWith_cons_cons,ih,UInt8.xor_comm]
