/- SurbKeeps: no call of surb changes or keeps what it is handed: for all random bytes, every message (450 bytes of it at most are taken) and every list of hops the law returns true. -/
import Derived.Deep.DeepCutAuto
import Derived.Test.YtadopcjppijgiaaGreatSkp37
set_option linter.all false
set_option maxRecDepth 100000
set_option maxHeartbeats 0
namespace Go.Proofs.YtadopcjppijgiaaGreat
open Go.RowKit
theorem znf:(u8s (List.replicate 768 0)).length=768:=by rw[zaa,lp9]
theorem zti(hd:List UInt8)(h:hd.length=288)(w:World):(Instr.build 45 #[(0,.agg (u8s hd).toArray)]).run Tryz.prog w=.ok (.agg (u8s (hd++List.replicate 480 0)).toArray) w:=by
 refine zbt Tryz.zeroValue45 Tryz.underlying45 (pl76 _ Tryz.underlying45) ?_ w;rw[zc76]
 show Instr.fill _ _ [(0,_)]=_
 rw[zat (cs:=u8s hd) rfl (by rw[zaa,h];rfl) (by rw[zaa,zaa,h,lp9];omega)]
 have:splice (u8s (List.replicate 768 0)) 0 (u8s hd)=u8s (hd++List.replicate 480 0):=by
  unfold splice
  rw[List.take_zero,List.nil_append,Nat.zero_add,zaa,h,za9,zae,List.drop_replicate]
 rw[this]
 rfl
def replyOf(l msg:List UInt8):List UInt8:=(l.drop 8).take 288++Wd.seal_ (l.drop 296) (Wd.frame 3 0 1 0 msg)
theorem zhy(k i c:UInt8)(id:Nat)(d:List UInt8)(h:d.length≤450):(Wd.frame k i c id d).length=480:=by
 simp[Wd.frame,beBytes_len,Ch.zeros];omega
theorem zhb(l r:List UInt8)(hl:l.length=328)(hm:r.length≤450):(replyOf l r).length=768:=by
 unfold replyOf
 rw[la9,Wd.seal_len _ _ (by rw[zhy _ _ _ _ _ hm];omega),zhy _ _ _ _ _ hm,List.length_take,List.length_drop,hl]
 rfl
theorem zgb(l:List UInt8)(hl:l.length=328):((blkCells l).drop 289).take 32=u8s (l.drop 296):=by
 rw[blkCells,←as9,List.drop_append_of_le_length (by simp[zaa,hl]),List.drop_eq_nil_of_le (by simp[zaa,hl]),List.nil_append,tk (by simp[zaa,hl])]
theorem zks(l:List UInt8):(blkCells l).take (u8s ((l.drop 8).take 288)).length=u8s ((l.drop 8).take 288):=by unfold blkCells;rw[List.take_left]
theorem zw6(l r:List UInt8)(A:Option Addr)(n c:Nat)(w:World)(hl:l.length=328)(h:Rd w A n (u8s r))(hn:n≤450):
 Calls Tryz.prog 8 #[.agg (blkCells l).toArray,.slice A n c] w fun e w'=>e=.returned (.tuple #[.agg (u8s (replyOf l r)).toArray,.int .i64 0])∧Below w.heap.size w w':=by
 have f1:¬(450:Int)<(n:Int):=om;have e5:r.length=n:=h.len;have b5:=qh (fun W (hr:Rd W A n (u8s r))=>zpx A n c r W hr hn);have U:=zhy 3 0 1 0 r om;have d0:(l.drop 296).length=32:=by rw[List.length_drop,hl]
 have E:((l.drop 8).take 288).length=288:=by rw[List.length_take,List.length_drop,hl];rfl
 have a8:Hid ((replyOf l r).length=768):=zhb l r hl om;have a2:=qh (fun W B g d (h1:Rd W (some ⟨B,289,none⟩) 32 (u8s (l.drop 296))) (h2:Rd W (some ⟨g,0,none⟩) 480 (u8s (Wd.frame 3 0 1 0 r))) (hd:480≤d)=>zua (some ⟨B,289,none⟩) (some ⟨g,0,none⟩) 32 d 480 (l.drop 296) (Wd.frame 3 0 1 0 r) W h1 om h2 hd om om);have D:(Wd.seal_ (l.drop 296) (Wd.frame 3 0 1 0 r)).length=480:=by rw[Wd.seal_len _ _ om,U]
 have G:Hid (replyOf l r=(l.drop 8).take 288++Wd.seal_ (l.drop 296) (Wd.frame 3 0 1 0 r)):=rfl;have a9:=qh (zgb l hl);have V:=qh (zks l);have c0:=qh (zbe l hl);obtain⟨C,hC⟩:=ex9 (blkCells l);rw[←hC]at a9 V c0 ⊢;obtain⟨hd,c9⟩:=ex9 ((l.drop 8).take 288);rw[←c9]at V G E;obtain⟨ky,b3⟩:=ex9 (l.drop 296);rw[←b3]at a9 a2 G D d0;obtain⟨F,hF⟩:=ex9 (Wd.frame 3 0 1 0 r);rw[←hF]at b5 a2 G D U;obtain⟨S,hS⟩:=ex9 (Wd.seal_ ky F);rw[←hS]at a2 G D;obtain⟨R,hR⟩:=ex9 (replyOf l r);rw[←hR]at a8 G ⊢;have a4:Hid ((Tryz.prog.info? 31).map (·.size)=some (u8s hd).length):=by rw[zaa,E];exact hd34
 have a7:=qh (fun W=>zti hd E W);have M:Hid ((u8s (hd++List.replicate 480 0)).length=768):=by show _=_;rw[zaa,la9,E];simp
 have c5:Hid (∀v∈u8s (hd++List.replicate 480 0),v.oneCell'=true):=zac _
 have a5:Hid (splice (u8s (hd++List.replicate 480 0)) 288 ((u8s S).take 480)=u8s R):=by
  show _=_
  rw[G.o,tk (by rw[zaa,D];exact lr),zcm];have:=zdw hd (List.replicate 480 0) S [] (by rw[D];simp);rw[List.append_nil,List.append_nil,E]at this;rw[this]
 have c3:Hid (∀v∈u8s R,v.oneCell'=true):=zac _;have Y:Hid ((Tryz.prog.info? 45).map (·.size)=some (u8s R).length):=by rw[zaa,a8.o];exact hd76
 obtain⟨X,hX⟩:=ex9 (u8s (hd++List.replicate 480 0));rw[←hX]at a7 M c5 a5;have e8:Hid ((Tryz.prog.info? 45).map (·.size)=some X.length):=by rw[M.o];exact hd76
 obtain⟨RU,a6⟩:=ex9 (u8s R);have b7:Hid (RU.length=768):=by rw[a6];show _=_;rw[zaa,a8.o]
 rw[←a6]at a5 c3 Y ⊢;obtain⟨HU,c1⟩:=ex9 (u8s hd);rw[←c1]at a4 a7 V;have e3:=qh U;have f7:=qh D;have HM:=qh h;clear e5 U d0 E D hC c9 b3 hF hS hR hX a6 c1 h hl
 go_enter Tryz.func8, Tryz.ntmps8
 go_wp2_with (first
  | (go_at_call 23;(with_reducible refine(b5.o _ (by exact(HM.o.alloc _).alloc _)).mono ?_);rintro e w1 ⟨g1,rfl,f3,d4,J⟩;have e7:=qh ((((Below.refl _ w).alloc lr _).alloc sy _).trans (J.mono (by simp;omega)));have a3:=qh (((Blk.new' (w:=w) (cs:=C) (t:=34) rfl rfl).alloc _).below J (by simp;omega));have d3:Hid (Blk w1 (w.heap.size+1) 45 (u8s (List.replicate 768 0))):=(Blk.new' sy zc76:Blk _ (w.heap.size+1) 45 (u8s (List.replicate 768 0))).below J sy;have e0:Hid (Rd w1 (some ⟨g1,0,none⟩) 480 (u8s F)):=(by have h6:=d4.rdAll;rw[e3.o]at h6;exact h6);have d6:Hid (Rd w1 (some ⟨w.heap.size,289,none⟩) 32 (u8s ky)):=(by have h6:=a3.o.rd 289 32 (by rw[c0.o];omega);rw[a9.o]at h6;exact h6);clear d4 J)
  | (go_at_call 24;(with_reducible refine(a2.o w1 w.heap.size g1 480 d6.o e0.o om).mono ?_);rintro e w2 ⟨g2,c2,rfl,f4,f8,b4,I⟩;have a1:=qtr e7 I;have c7:=qbl a3 I;have d9:=qbl d3 I;have b6:=qh b4;have f5:w.heap.size+1<w1.heap.size:=d3.o.lt;have f2:=I.size;have f0:Hid (w2.rangeAt w.heap.size 0 HU):=c7.o.mid 0 HU (fun j v hv=>by rw[Nat.zero_add];rw[←V.o,List.getElem?_take]at hv;split at hv;(exact hv);(cases hv));clear b4 I)
  | refine wpList_load_mid rfl 31 (.tmp 35) rfl w.heap.size 0 rr HU _ f0.o Tryz.underlying31 rfl a4.o ?_
  | refine zai rfl 45 [(0,.tmp 36)] rfl _ rr (.agg X.toArray) (a7.o _) ?_
  | (refine zab rfl 45 (.tmp 9) (.tmp 37) rfl w2.heap.size X rr rr 45 (u8s (List.replicate 768 0)) (by exact Blk.new' rfl zc76) e8.o c5.o (by rw[M.o,znf]) ?_;intro w3 c4 a0;have c6:=qh (a0.below (a1.o.alloc a1.o.size _) a1.o.size (Nat.le_trans a1.o.size sy));have e1:=qh (a0.blk (d9.o.alloc _) om);have e4:=qh (a0.rd (b6.o.alloc _) (fun ad e=>by injection e with e;subst e;show g2≠w2.heap.size;have h9:=b6.o.2 om;obtain⟨b9,o9,e9,f6,_⟩:=h9;injection e9 with e9;injection e9 with e10 e11;omega));have e6:=qh c4;clear c4 a0)
  | (refine zav rfl (.tmp 39) (.tmp 40) 22 rfl 5 Tryz.underlying22 zbk w2.heap.size 288 480 480 rr (some ⟨g2,0,none⟩) 480 c2 rr 45 _ e6.o (u8s S) e4.o (zac _) (by rw[M.o];exact lr) ?_;intro w4 b2 b1;rw[a5.o]at b2;have c8:=qh (b1.below c6.o om c6.o.size);have e2:=qh (b1.blk e1.o om);have d7:=qh b2.range;clear b2 b1)
  | refine wpList_load_mid rfl 45 (.tmp 9) rfl w2.heap.size 0 rr RU _ d7.o Tryz.underlying45 rfl Y.o ?_
  | (refine zab rfl 45 (.tmp 4) (.tmp 42) rfl (w.heap.size+1) RU rr rr 45 _ e2.o Y.o c3.o (by rw[b7.o,znf]) ?_;intro w8 d8 d5))
 exact bodyPost_ret (zak rfl _ _ _ _ rfl d8 _ Tryz.underlying45 rfl Y.o) rfl ⟨rfl,d5.below c8.o (Nat.le_succ _) c8.o.size⟩
theorem zpy(A:Option Addr)(c:Nat)(b:List UInt8)(w:World)(h:Rd w A 480 (u8s b))(hc:480≤c)(hz:allZ (b.take 16)=true)(h1:1≤fK b)(h3:fK b≤3)(c5:fZ b=0)(hn:fN b≤450)(d0:chk (fK b) (fI b) (fC b) (fD b) (fN b)=0)(a0:allZ (b.drop (30+fN b))=true):
 Calls Tryz.prog 27 #[.slice A 480 c] w fun e w'=>∃g,e=.returned (.tuple #[.agg #[.int .u8 (fK b),.int .u64 (fD b),.int .i64 (fI b),.int .i64 (fC b),.slice (some ⟨g,0,none⟩) (fN b) (fN b)],.int .i64 0])∧w.heap.size≤g∧Blk w' g 5 (u8s (fData b))∧Below w.heap.size w w':=by
 obtain⟨bb,bo,rfl,f9,_⟩:=h.2 om;have HR:=qh h;have e8:b.length=480:=h.len
 have d5:Hid (∀W,Rd W (some ⟨bb,bo,none⟩) 480 (u8s b)→Calls Tryz.prog 55 #[.slice (some ⟨bb,bo,none⟩) 16 c] W fun e w'=>e=.returned (.bool true)∧W=w'):=fun W hr=>by
  have h5:=zju hr 0 16 om;rw[List.drop_zero]at h5;have h6:=ze4 (some ⟨bb,bo+0,none⟩) 16 c (b.take 16) W h5 om;rw[hz]at h6;exact h6
 have c9:=h.get (i:=16) om;have D:(b.getD 16 0).toNat=fK b:=rfl;rw[D]at c9;have c0:Hid (∀W,Rd W (some ⟨bb,bo,none⟩) 480 (u8s b)→Calls Tryz.prog 38 #[.int .i64 2,.slice (some ⟨bb,bo,none⟩) 480 c,.int .i64 20,.int .i64 8] W fun e w'=>e=.returned (.tuple #[.int .u64 (fD b),.int .i64 0])∧W=w'):=fun W hr=>get_2 _ 480 c 20 8 b W hr om om om om
 have c8:Hid (∀W,Rd W (some ⟨bb,bo,none⟩) 480 (u8s b)→Calls Tryz.prog 38 #[.int .i64 2,.slice (some ⟨bb,bo,none⟩) 480 c,.int .i64 28,.int .i64 2] W fun e w'=>e=.returned (.tuple #[.int .u64 (fN b),.int .i64 0])∧W=w'):=fun W hr=>get_2 _ 480 c 28 2 b W hr om om om om
 have a9:=h.get (i:=19) om;have d4:(b.getD 19 0).toNat=fZ b:=rfl;rw[d4]at a9;have h0:¬(fK b:Int)<1:=om;have g7:¬(3:Int)<(fK b:Int):=om;have g9:¬(450:Int)<(fN b:Int):=om;have M:(b.getD 17 0).toNat=fI b:=rfl;have J:(b.getD 18 0).toNat=fC b:=rfl;have G:IntKind.i64.wrap ((b.getD 17 0).toNat:Int)=((b.getD 17 0).toNat:Int):=IntWalk.i64_in _ (by have:=(b.getD 17 0).toNat_lt;omega);have I:IntKind.i64.wrap ((b.getD 18 0).toNat:Int)=((b.getD 18 0).toNat:Int):=IntWalk.i64_in _ (by have:=(b.getD 18 0).toNat_lt;omega);have d8:=qh M;have e6:=qh J;have f4:=qh D;have f1:=qh G;have f0:=qh I;rw[c5]at a9;have b2:Hid (Rd (w.alloc (.cells #[.int .u8 0,.int .u64 0,.int .i64 0,.int .i64 0,.slice none 0 0] 88)).drew (some ⟨bb,bo,none⟩) 480 (u8s b)∧Below w.heap.size w (w.alloc (.cells #[.int .u8 0,.int .u64 0,.int .i64 0,.int .i64 0,.slice none 0 0] 88)).drew∧Blk (w.alloc (.cells #[.int .u8 0,.int .u64 0,.int .i64 0,.int .i64 0,.slice none 0 0] 88)).drew w.heap.size 88 [.int .u8 0,.int .u64 0,.int .i64 0,.int .i64 0,.slice none 0 0]∧w.heap.size+1≤(w.alloc (.cells #[.int .u8 0,.int .u64 0,.int .i64 0,.int .i64 0,.slice none 0 0] 88)).drew.heap.size):=⟨(h.alloc _).drew,((Below.refl _ _).alloc lr _).drew,(Blk.new' rfl rfl:Blk _ _ _ _).drew,by simp⟩;clear hz h e8 D d4 c5 M J G I
 go_enter Tryz.func27, Tryz.ntmps27
 go_wp2_with (first
  | (go_at_call 55;(with_reducible refine(d5.o _ (by exact HR.o.alloc _)).mono ?_);rintro e w1 ⟨rfl,rfl⟩)
  | (go_at_call 38;(with_reducible refine(c8.o _ (by exact HR.o.alloc _)).mono ?_);rintro e w3 ⟨rfl,rfl⟩)
  | (go_at_call 38;(with_reducible refine(c0.o _ (by exact HR.o.alloc _)).mono ?_);rintro e w2 ⟨rfl,rfl⟩))
 have G:=f1.o;have I:=f0.o;have D:=f4.o;have M:=d8.o;have J:=e6.o;refine zcf kr 14 (fun W=>Rd W (some ⟨bb,bo,none⟩) 480 (u8s b)) ?_;refine AnyF.start 13 8 (w.heap.size+1) 88 [.int .u8 0,.int .u64 0,.int .i64 0,.int .i64 0,.slice none 0 0] (fun W=>Rd W (some ⟨bb,bo,none⟩) 480 (u8s b)∧Below w.heap.size w W∧Blk W w.heap.size 88 [.int .u8 0,.int .u64 0,.int .i64 0,.int .i64 0,.slice none 0 0]∧w.heap.size+1≤W.heap.size) b2.o ?_;refine AnyF.pure 0 (v:=.slice (some ⟨bb,bo,none⟩) 480 c) rfl (by decide) (fun g=>by cases g <;> kernel_rfl) (fun _ _ _ h=>h) rfl (by decide) (fun st _=>by cases st <;> kernel_rfl) (fun _ h=>h.1) ?_;refine AnyF.pure 1 (v:=.pointer (some ⟨bb,bo+16,none⟩)) rfl (by decide) (fun g=>by cases g <;> kernel_rfl) (fun _ _ _ h=>h) rfl (by decide) (fun st _=>by cases st <;> kernel_rfl) (fun _ h=>h.1) ?_;refine AnyF.load 2 (v:=.int .u8 ((b.getD 16 0).toNat:Int)) rfl (by decide) (fun g=>by cases g <;> kernel_rfl) kr (fun g=>by cases g <;> kernel_rfl) (fun _ _ _ h=>h) rfl (by decide) (fun st w' hw'=>za0 (p:=⟨bb,bo+16,none⟩) rfl (by cases st <;> kernel_rfl) agU8 (hw'.get (i:=16) om)) (fun _ h=>h.1) ?_;refine AnyF.pure 3 (v:=.int .u64 (fD b:Int)) rfl (by decide) (fun g=>by cases g <;> kernel_rfl) (fun _ _ _ h=>h) rfl (by decide) (fun st _=>by cases st <;> kernel_rfl) (fun _ h=>h.1) ?_;refine AnyF.pure 4 (v:=.slice (some ⟨bb,bo,none⟩) 480 c) rfl (by decide) (fun g=>by cases g <;> kernel_rfl) (fun _ _ _ h=>h) rfl (by decide) (fun st _=>by cases st <;> kernel_rfl) (fun _ h=>h.1) ?_;refine AnyF.pure 5 (v:=.pointer (some ⟨bb,bo+17,none⟩)) rfl (by decide) (fun g=>by cases g <;> kernel_rfl) (fun _ _ _ h=>h) rfl (by decide) (fun st _=>by cases st <;> kernel_rfl) (fun _ h=>h.1) ?_;refine AnyF.load 6 (v:=.int .u8 ((b.getD 17 0).toNat:Int)) rfl (by decide) (fun g=>by cases g <;> kernel_rfl) kr (fun g=>by cases g <;> kernel_rfl) (fun _ _ _ h=>h) rfl (by decide) (fun st w' hw'=>za0 (p:=⟨bb,bo+17,none⟩) rfl (by cases st <;> kernel_rfl) agU8 (hw'.get (i:=17) om)) (fun _ h=>h.1) ?_;refine AnyF.pure 7 (v:=.int .i64 (IntKind.i64.wrap ((b.getD 17 0).toNat:Int))) rfl (by decide) (fun g=>by cases g <;> kernel_rfl) (fun _ _ _ h=>h) rfl (by decide) (fun st _=>by cases st <;> kernel_rfl) (fun _ h=>h.1) ?_;refine AnyF.pure 8 (v:=.slice (some ⟨bb,bo,none⟩) 480 c) rfl (by decide) (fun g=>by cases g <;> kernel_rfl) (fun _ _ _ h=>h) rfl (by decide) (fun st _=>by cases st <;> kernel_rfl) (fun _ h=>h.1) ?_;refine AnyF.pure 9 (v:=.pointer (some ⟨bb,bo+18,none⟩)) rfl (by decide) (fun g=>by cases g <;> kernel_rfl) (fun _ _ _ h=>h) rfl (by decide) (fun st _=>by cases st <;> kernel_rfl) (fun _ h=>h.1) ?_;refine AnyF.load 10 (v:=.int .u8 ((b.getD 18 0).toNat:Int)) rfl (by decide) (fun g=>by cases g <;> kernel_rfl) kr (fun g=>by cases g <;> kernel_rfl) (fun _ _ _ h=>h) rfl (by decide) (fun st w' hw'=>za0 (p:=⟨bb,bo+18,none⟩) rfl (by cases st <;> kernel_rfl) agU8 (hw'.get (i:=18) om)) (fun _ h=>h.1) ?_;refine AnyF.pure 11 (v:=.int .i64 (IntKind.i64.wrap ((b.getD 18 0).toNat:Int))) rfl (by decide) (fun g=>by cases g <;> kernel_rfl) (fun _ _ _ h=>h) rfl (by decide) (fun st _=>by cases st <;> kernel_rfl) (fun _ h=>h.1) ?_;refine AnyF.pure 12 (v:=.agg #[.int .u8 ((b.getD 16 0).toNat:Int),.int .u64 (fD b:Int),.int .i64 (IntKind.i64.wrap ((b.getD 17 0).toNat:Int)),.int .i64 (IntKind.i64.wrap ((b.getD 18 0).toNat:Int)),.slice none 0 0]) rfl (by decide) (fun g=>by cases g <;> kernel_rfl) (fun _ _ _ h=>h) rfl (by decide) (fun st _=>by cases st <;> kernel_rfl) (fun _ h=>h.1) ?_;refine AnyF.fin rfl rfl rfl (fun _ _=>by kernel_rfl) kr (fun _ o h=>⟨h.1.alloc o,h.2.1.alloc h.2.1.size o,h.2.2.1.alloc o,Nat.le_trans h.2.2.2 sy⟩) (fun _ h=>h.2.2.2) (fun _ h=>h.1) ?_;intro gp w7 e2 c4 a1;refine AnyK.storeAll 14 (t:=88) (x:=.tmp 8) (y:=.tmp 71) gp [.int .u8 ((b.getD 16 0).toNat:Int),.int .u64 (fD b:Int),.int .i64 (IntKind.i64.wrap ((b.getD 17 0).toNat:Int)),.int .i64 (IntKind.i64.wrap ((b.getD 18 0).toNat:Int)),.slice none 0 0] 88 [.int .u8 0,.int .u64 0,.int .i64 0,.int .i64 0,.slice none 0 0] rfl rfl rfl rfl kr kr kr c4 kr (zn2 _ _ _ _ _ _ _) rfl (fun _ _ _ h=>(by cases h)) ?_;intro w8 a8 a7;refine AnyK.done kr ?_;rw[G,I,D,M,J]at a8;have f8:w.heap.size+1≤gp:=e2;have Y:=qh a8;have X:=qh (a7.below a1.2.1 om a1.2.1.size);have d6:=qh (a7.blk a1.2.2.1 om);have b6:Rd w8 (some ⟨bb,bo,none⟩) 480 (u8s b):=HR.o.below X.o;have f7:=qh b6;have a2:=Y.o.lt;have c6:=Y.o.cell 4;have f3:=Y.o.frozen 4;simp only[List.getElem?_cons_zero,List.getElem?_cons_succ]at c6;clear a8 a7 a1 c4 b6 b2 d5 c0 c8 c9 a9 G I D M J;have g1:=qh (zza b);have e9:(fN b:Int)≤450:=om;have g2:(0:Int)≤(fN b:Int):=om;have e1:Hid (∀W,Rd W (some ⟨bb,bo,none⟩) 480 (u8s b)→Calls Tryz.prog 56 #[.slice (some ⟨bb,bo+30,none⟩) (fN b) (c-30)] W fun e w'=>e=.returned (.slice (some ⟨W.heap.size,0,none⟩) (fN b) (fN b))∧Blk w' W.heap.size 5 (u8s (fData b))∧Below W.heap.size W w'):=fun W hr=>zp5 _ _ _ _ W (zju hr 30 (fN b) om) om
 have b4:=qh (fun A W=>zp1 A (fN b) (fN b) (fK b) (fD b) (fI b) (fC b) W h1 h3 hn);rw[d0]at b4
 have d9:Hid (∀W,Rd W (some ⟨bb,bo,none⟩) 480 (u8s b)→Calls Tryz.prog 55 #[.slice (some ⟨bb,bo+(30+fN b),none⟩) (480-(30+fN b)) (c-(30+fN b))] W fun e w'=>e=.returned (.bool true)∧W=w'):=fun W hr=>by
  have h5:=zju hr (30+fN b) (480-(30+fN b)) om;rw[tk (by rw[List.length_drop,hr.len];exact lr)]at h5;have h6:=ze4 _ _ (c-(30+fN b)) _ W h5 om;rw[a0]at h6;exact h6
 have e3:Hid (480≤30+fN b→∀W,Calls Tryz.prog 55 #[.slice (some ⟨bb,bo,none⟩) (480-(30+fN b)) 0] W fun e w'=>e=.returned (.bool true)∧W=w'):=fun hle W=>by
  rw[show 480-(30+fN b)=0 by omega];have h6:=ze4 (some ⟨bb,bo,none⟩) 0 0 [] W (Rd.nil _ _) om;have e7:b.drop (30+fN b)=[]:=List.drop_eq_nil_of_le (by rw[HR.o.len];exact hle);rw[e7]at a0;rw[a0]at h6;exact h6
 have g5:¬c=30:=om;have g8:(30:Int)≤(c:Int):=om;have eC:(30:Int)+(fN b:Int)≤(c:Int):=om;have e4:(30:Int)+(fN b:Int)≤480:=om;have e5:(30:Int)+(fN b:Int)-30=(fN b:Int):=om;clear d0 a0
 go_wp2_with (first
  | (go_at_call 56;(with_reducible refine(e1.o _ (by exact f7.o)).mono ?_);rintro e w9 ⟨rfl,c3,E⟩;have e0:=qbl Y E;have g4:=(E.cell (p:=⟨gp,4,none⟩) a2).trans c6;have h2:=(E.frozen (p:=⟨gp,4,none⟩) a2).trans f3;have d7:=qtr X E;have f2:=qbl d6 E;have f5:=qh c3;have a5:Hid (Blk (w9.setCell ⟨gp,4,none⟩ (.slice (some ⟨w8.heap.size,0,none⟩) (fN b) (fN b))) gp 88 [.int .u8 (fK b),.int .u64 (fD b),.int .i64 (fI b),.int .i64 (fC b),.slice (some ⟨w8.heap.size,0,none⟩) (fN b) (fN b)]):=e0.o.set_ 4 (.slice (some ⟨w8.heap.size,0,none⟩) (fN b) (fN b));have a4:=qh (d7.o.setCell (p:=⟨gp,4,none⟩) (by show _≤gp;omega) (.slice (some ⟨w8.heap.size,0,none⟩) (fN b) (fN b)));have c2:=qh (f2.o.far (p:=⟨gp,4,none⟩) (by show _≠gp;omega) (.slice (some ⟨w8.heap.size,0,none⟩) (fN b) (fN b)));have a3:=qh (f5.o.far (p:=⟨gp,4,none⟩) (by show _≠gp;omega) (.slice (some ⟨w8.heap.size,0,none⟩) (fN b) (fN b)));clear c3 E)
  | refine wpList_load_mid rfl 88 (.tmp 8) rfl gp 0 rr [.int .u8 (fK b),.int .u64 (fD b),.int .i64 (fI b),.int .i64 (fC b),.slice (some ⟨w8.heap.size,0,none⟩) (fN b) (fN b)] _ a5.o.range Tryz.underlying88 rfl kr ?_
  | (go_at_call 51;(with_reducible refine(b4.o _ _).mono ?_);rintro e g3 ⟨rfl,r⟩;have b5:=a4.o.size;have d3:=qbl a5 r;have V:=qh (a4.o.trans (r.mono b5));have b9:=qbl c2 r;have b7:=qbl a3 r;have b3:=qh (HR.o.below V.o);clear r)
  | (go_at_call 55;(with_reducible refine(d9.o _ (by exact b3.o)).mono ?_);rintro e f6 ⟨rfl,rfl⟩)
  | (go_at_call 55;(with_reducible refine(e3.o om _).mono ?_);rintro e f6 ⟨rfl,rfl⟩)
  | refine wpList_load_mid rfl 88 (.tmp 8) rfl gp 0 rr [.int .u8 (fK b),.int .u64 (fD b),.int .i64 (fI b),.int .i64 (fC b),.slice (some ⟨w8.heap.size,0,none⟩) (fN b) (fN b)] _ d3.o.range Tryz.underlying88 rfl kr ?_
  | (refine zab rfl 88 (.tmp 2) (.tmp 88) rfl w.heap.size [.int .u8 (fK b),.int .u64 (fD b),.int .i64 (fI b),.int .i64 (fC b),.slice (some ⟨w8.heap.size,0,none⟩) (fN b) (fN b)] rr rr 88 _ b9.o kr (zn2 _ _ _ _ _ _ _) rfl ?_;intro g6 a6 U;have g0:=a3.o.lt;have b1:=qh a6;have c1:=qh (U.below V.o lr V.o.size);have c7:=qh (U.blk b7.o (by have:=X.o.size;omega));clear a6 U))
 all_goals exact bodyPost_ret (zak rfl _ w.heap.size 88 _ rfl b1.o _ Tryz.underlying88 rfl kr) rfl ⟨_,rfl,X.o.size,c7.o,c1.o⟩
theorem zwc(B C:Option Addr)(d cr:Nat)(b:List UInt8)(w:World)(h:Rd w B 480 (u8s b))(hd:480≤d):
 Calls Tryz.prog 54 #[.func (.func 24) #[] #[],.slice B 480 d,.slice C 0 cr] w fun e w'=>∃A' c',e=.returned (.tuple #[.slice A' 480 c',.int .i64 0])∧480≤c'∧Rd w' A' 480 (u8s b)∧Below w.heap.size w w':=by
 have HR:=qh h;have HF:=qh (fun W=>zfm B 480 d W om om)
 have G:Hid (∀W:World,Rd W B 480 (u8s b)→Calls Tryz.prog 36 #[.slice (some ⟨W.heap.size,0,none⟩) 1 1] (W.alloc (.cells #[.slice B 480 d] 22)) fun e w'=>∃A' c',e=.returned (.slice A' 480 c')∧480≤c'∧w'.ownsRow (W.heap.size+1) 5 1 (.slice A' 480 c') 480 (u8s b)∧Below (W.heap.size+1) (W.alloc (.cells #[.slice B 480 d] 22)) w'):=fun W hr=>by
  have:=zef (some ⟨W.heap.size,0,none⟩) 1 1 [b] _ (RdB.of_blk (ls:=[b]) (Blk.new' (w:=W) (cs:=[.slice B 480 d]) (t:=22) rfl rfl) ⟨.of_rd (hr.alloc _) hd,trivial⟩) om b 480 sy h.len om;have e2:(W.alloc (.cells #[.slice B 480 d] 22)).heap.size=W.heap.size+1:=by simp
  rw[←e2];exact this
 clear h
 go_enter Tryz.func54, Tryz.ntmps54
 go_wp2_with (go_at_call 86;(with_reducible refine(HF.o _).mono ?_);rintro e w' ⟨rfl,rfl⟩)
 go_loopg [20] 0 (fun kk q wr=>kk=0∧q=.int .i64 0∧w=wr)
 case atStart=>exact⟨rfl,rfl,rfl⟩
 case round =>
  obtain⟨_,rfl,rfl⟩:=hrel
  go_wp2_with (go_at_call 36;(with_reducible refine(G.o _ HR.o).mono ?_);rintro e w3 ⟨A3,c3,rfl,I,r,A⟩;have D:=qh (((Below.refl _ w).alloc lr _).trans (A.mono (Nat.le_succ _)));have E:=qh (Rd.of_own r);clear r A)
  go_loopg [10,33] 0 (fun kk v q wr=>kk=0∧q=.int .i64 0∧v=.slice A3 480 c3∧w3=wr)
  case atStart=>exact⟨rfl,rfl,rfl,rfl⟩
  case round =>
   obtain⟨_,rfl,rfl,rfl⟩:=hrel
   go_wp2_with fail
   go_ret2;exact⟨A3,c3,rfl,I,E.o,D.o⟩
theorem zk4(B C:Option Addr)(d cr:Nat)(b:List UInt8)(w:World)(h:Rd w B 480 (u8s b))(hd:480≤d):
 Calls Tryz.prog 25 #[.slice B 480 d,.slice C 0 cr] w fun e w'=>∃A' c',e=.returned (.tuple #[.slice A' 480 c',.int .i64 0])∧480≤c'∧Rd w' A' 480 (u8s b)∧Below w.heap.size w w':=by
 have HA:=qh (zwc B C d cr b w h hd);clear h
 go_enter Tryz.func25, Tryz.ntmps25
 go_wp2_with (go_at_call 54;(with_reducible refine HA.o.mono ?_);rintro e w5 ⟨A5,c5,rfl,A,r,E⟩;have D:=qh r;clear r)
 go_ret2;exact⟨A5,c5,rfl,A,D.o,E⟩
theorem iSl':(Tryz.prog.info? 22).map (fun i=>(i.zero,i.size,i.bytes))=some (some (.slice none 0 0),1,24):=by kernel_rfl
theorem so_48(mark own:List UInt8)(A:Option Addr)(m c:Nat)(h1:mark.length=16)(h2:own.length=32):(soC mark own A m c)[48]? = some (.slice A m c):=by
 rw[soC,←as9,ar9 (by simp[zaa,h1,h2])]
 simp[zaa,h1,h2]
theorem so_own(mark own:List UInt8)(A:Option Addr)(m c:Nat)(h1:mark.length=16)(h2:own.length=32):((soC mark own A m c).drop 16).take 32=u8s own:=by
 rw[soC,List.drop_left' (by rw[zaa,h1]),List.take_left' (by rw[zaa,h2])]
theorem zv2(own A r:List UInt8)(B:Option Addr)(d:Nat)(w:World)(h2:own.length=32)(hb:Rd w B 480 (u8s A))(hd:480≤d)(ho:Wd.open_ own A=ansF r)(hm:r.length≤450):
 Calls Tryz.prog 9 #[.agg (soC (List.replicate 16 0) own none 0 0).toArray,.slice B 480 d] w fun e w'=>∃g,e=.returned (.tuple #[.slice (some ⟨g,0,none⟩) r.length r.length,.int .i64 0])∧w.heap.size≤g∧Blk w' g 5 (u8s r)∧Below w.heap.size w w':=by
 have J:=qh (so_48 (List.replicate 16 0) own none 0 0 rfl h2);have a5:=qh (so_own (List.replicate 16 0) own none 0 0 rfl h2);have a4:=qh (zdr (mark:=List.replicate 16 0) rfl h2 none 0 0)
 have b7:Hid (∀W S D y,Rd W (some ⟨S,16,none⟩) 32 (u8s own)→Rd W D 480 (u8s A)→480≤y→Calls Tryz.prog 26 #[.slice (some ⟨S,16,none⟩) 32 32,.slice D 480 y] W fun e w'=>∃g c',e=.returned (.tuple #[.slice (some ⟨g,0,none⟩) 480 c',.int .i64 0])∧480≤c'∧W.heap.size≤g∧Rd w' (some ⟨g,0,none⟩) 480 (u8s (ansF r))∧Below W.heap.size W w') :=
  fun W S D y h5 h6 hy=>by
   have h7:=zu3 (some ⟨S,16,none⟩) D 32 y 480 own A W h5 om h6 hy om om
   rwa [ho]at h7
 obtain⟨f1,f2,f3,f4,f5,f6,f7,f8,f9⟩:=zqb r hm
 have a8:Hid (∀W g y,Rd W (some ⟨g,0,none⟩) 480 (u8s (ansF r))→480≤y→Calls Tryz.prog 27 #[.slice (some ⟨g,0,none⟩) 480 y] W fun e w'=>∃g,e=.returned (.tuple #[.agg #[.int .u8 3,.int .u64 0,.int .i64 0,.int .i64 1,.slice (some ⟨g,0,none⟩) r.length r.length],.int .i64 0])∧W.heap.size≤g∧Blk w' g 5 (u8s r)∧Below W.heap.size W w') :=
  fun W g y h5 hy=>by
   have h7:=zpy (some ⟨g,0,none⟩) y (ansF r) W h5 hy f1 om om f5 om (by rw[f2,f3,f4,f6,f7];unfold chk;rw[if_neg om];rfl) (by rw[f7];exact f9);rw[f2,f3,f4,f6,f7,f8]at h7;exact h7
 have c1:=qh (fun W C cr (hr:Rd W B 480 (u8s A))=>zk4 B C d cr A W hr hd);have a9:=qh hb;obtain⟨C,hC⟩:=ex9 (soC (List.replicate 16 0) own none 0 0);rw[←hC]at J a5 a4 ⊢;clear hC hb ho f1 f2 f3 f4 f5 f6 f7 f8 f9 h2
 go_enter Tryz.func9, Tryz.ntmps9
 have E:Hid (Blk (w.alloc (.cells C.toArray 37)) w.heap.size 37 C):=Blk.new w _ _;have c0:Hid (Below w.heap.size w (w.alloc (.cells C.toArray 37))):=(Below.refl _ _).alloc lr _;have c9:(w.alloc (.cells C.toArray 37)).cell? ⟨w.heap.size,48,none⟩=some (.slice none 0 0):=(E.o.cell 48).trans J.o
 go_wp2_with (refine zaj rfl (.const (.int .i64 0)) (.tmp 17) 57 rfl 22 (.slice none 0 0) 24 Tryz.underlying57 iSl' rfl .i64 .i64 0 0 rr rr 0 0 rfl rfl om om om ?_;intro w1 b9 I b6;have a0:=qh (E.o.below (zad I) E.o.lt);have a6:=qh (c0.o.trans ((zad I).mono sy));have c4:w1.cell? ⟨w.heap.size,48,none⟩=some (.slice none 0 0):=(a0.o.cell 48).trans J.o;clear b9 I b6)
 go_loopg [6,7] 0 (fun kk v q wr=>kk=0∧q=.int .i64 (-1)∧v=.slice (some ⟨w.heap.size+1,0,none⟩) 0 0∧w1=wr)
 case atStart=>exact⟨rfl,rfl,rfl,rfl⟩
 case round =>
  obtain⟨_,rfl,rfl,rfl⟩:=hrel
  go_wp2_with (first
   | (go_at_call 25;(with_reducible refine(c1.o _ _ _ (a9.o.below a6.o)).mono ?_);rintro e w7 ⟨A7,c7,rfl,c5,a7,G⟩;have b5:=qtr a6 G;have b4:=qbl a0 G;have b3:=qh a7;have X:Hid (Rd w7 (some ⟨w.heap.size,16,none⟩) 32 (u8s own)):=(by have h8:=b4.o.rd 16 32 (by rw[a4.o];omega);rw[a5.o]at h8;exact h8);clear a7 G)
   | (go_at_call 26;(with_reducible refine(b7.o w7 w.heap.size A7 c7 (by exact X.o) (by exact b3.o) om).mono ?_);rintro e w8 ⟨g8,c8,rfl,c6,c3,V,M⟩;have Y:=qtr b5 M;have c2:=qh V;clear V M)
   | (go_at_call 27;(with_reducible refine(a8.o _ g8 c8 (by exact c2.o) om).mono ?_);rintro e w9 ⟨g9,rfl,a1,U,a2⟩;have a3:=qtr Y a2;have b2:=qh U;have b1:Hid (w.heap.size≤g9):=Nat.le_trans Y.o.size a1;clear a2 U a1))
  go_ret2;exact⟨g9,rfl,b1.o,b2.o.alloc _,a3.o.alloc a3.o.size _⟩
section
def mrk(i j:Nat):UInt8:=UInt8.ofNat (17*i+3*j+1)
def Own:=Nat→Option Nat
def Tr(w:World)(O:Own)(i:Nat)(v:Value)(n p:Nat):Prop :=
 p≤n∧((v=.slice none 0 0∧n=0)∨∃g cap cur,v=.slice (some ⟨g,0,none⟩) n cap∧O g=some i∧Blk w g 5 cur∧n≤cap∧cur.length=cap∧cap≤maxLen∧(∀j,j<n→∃x:UInt8,cur[j]? = some (u8 x))∧∀j,j<p→cur[j]? = some (u8 (mrk i j)))
structure MS(base:Nat)(w0 w:World)(O:Own):Prop where
 free:∀g,w.heap.size≤g→O g=none
 lo:∀g i,O g=some i→base≤g
 below:Below base w0 w
structure MStep(w:World)(O:Own)(w':World)(O':Own):Prop where
 keep:∀i v n p,Tr w O i v n p→Tr w' O' i v n p
 ext:∀g i,O g=some i→O' g=some i
 idle:∀g,g<w.heap.size→O g=none→w'.heap[g]? = w.heap[g]?∧O' g=none
 size:w.heap.size≤w'.heap.size
theorem MStep.refl(w:World)(O:Own):MStep w O w O:=⟨fun _ _ _ _ h=>h,fun _ _ h=>h,fun _ _ h=>⟨rfl,h⟩,lr⟩
theorem MStep.trans{w w1 w2:World}{O O1 O2:Own}(h:MStep w O w1 O1)(h2:MStep w1 O1 w2 O2):MStep w O w2 O2 :=
 ⟨fun i v n p ht=>h2.keep i v n p (h.keep i v n p ht),fun g i hg=>h2.ext g i (h.ext g i hg),fun g hl hg=>by
  obtain⟨a,b⟩:=h.idle g hl hg;obtain⟨c,d⟩:=h2.idle g (Nat.lt_of_lt_of_le hl h.size) b
  exact⟨c.trans a,d⟩,Nat.le_trans h.size h2.size⟩
theorem MStep.of{w w':World}{O:Own}(hs:w.heap.size≤w'.heap.size)(hk:∀g,g<w.heap.size→O g≠none→w'.heap[g]? = w.heap[g]?)(hi:∀g,g<w.heap.size→O g=none→w'.heap[g]? = w.heap[g]?):MStep w O w' O :=
 ⟨fun i v n p ⟨hp,h⟩=>⟨hp,by
  rcases h with h|⟨g,D,A,rfl,hO,hb,r⟩
  · exact .inl h
  · exact .inr ⟨g,D,A,rfl,hO,(hk g hb.lt (by rw[hO];exact fun h=>by cases h)).trans hb,r⟩⟩,fun _ _ h=>h,fun g hl hg=>⟨hi g hl hg,hg⟩,hs⟩
theorem MStep.alloc(w:World)(O:Own)(o:Obj):MStep w O (w.alloc o) O:=.of sy (fun g hl _=>Below.heap_alloc w o g hl) (fun g hl _=>Below.heap_alloc w o g hl)
theorem MStep.drew(w:World)(O:Own):MStep w O w.drew O:=.of lr (fun _ _ _=>rfl) (fun _ _ _=>rfl)
theorem MStep.drewN(w:World)(O:Own)(q:Nat):MStep w O (w.drewN q) O:=.of lr (fun _ _ _=>rfl) (fun _ _ _=>rfl)
theorem MS.alloc{base:Nat}{w0 w:World}{O:Own}(h:MS base w0 w O)(hb:base≤w.heap.size)(o:Obj):MS base w0 (w.alloc o) O:=⟨fun g hg=>h.free g (by simp at hg;omega),h.lo,h.below.alloc hb o⟩
theorem Tr.set{w:World}{O:Own}{i n p j:Nat}{g M:Nat}(h:Tr w O i (.slice (some ⟨g,0,none⟩) n M) n p)(hj:j<n):
 MStep w O (w.setCell ⟨g,j,none⟩ (u8 (mrk i j))) O∧(j=p→Tr (w.setCell ⟨g,j,none⟩ (u8 (mrk i j))) O i (.slice (some ⟨g,0,none⟩) n M) n (p+1)):=by
 obtain⟨hp,h⟩:=h
 rcases h with ⟨h,h0⟩|⟨g',a7,D,hv,hO,hb,a4,a6,a1,a3,a5⟩
 · cases h
 · injection hv with e1 _ e2
   injection e1 with e1
   injection e1 with e1
   subst e1;subst e2;have a8:j<D.length:=om;have a0:=hb.set_ j (u8 (mrk i j))
   have r:∀k,(D.set j (u8 (mrk i j)))[k]? = if j=k then some (u8 (mrk i j)) else D[k]?:=fun k=>by
    rw[List.getElem?_set]
    split <;> simp_all
   constructor
   · refine⟨fun i2 v2 n2 p2 ⟨hp2,h2⟩=>⟨hp2,?_⟩,fun _ _ h=>h,fun k hl hk=>⟨Below.heap_setCell w ⟨g,j,none⟩ _ k (fun e=>by subst e;rw[hO]at hk;cases hk),hk⟩,by simp[World.setCell]⟩
     rcases h2 with h2|⟨g2,I,J,rfl,A,X,Y,V,U,G,E⟩
     · exact .inl h2
     · by_cases hg:g2=g
       · subst hg
         rw[hO]at A
         injection A with A
         subst A
         have a2:J=D:=by
          have:=X.symm.trans hb
          injection this with this
          injection this with this
          simpa using congrArg Array.toList this
         subst a2;refine .inr ⟨g2,I,_,rfl,hO,a0,Y,by rw[List.length_set];exact V,U,fun k hk=>?_,fun k hk=>?_⟩
         · rw[r];split
           · exact⟨_,rfl⟩
           · exact G k hk
         · rw[r];split
           · rename_i e;subst e;rfl
           · exact E k hk
       · exact .inr ⟨g2,I,J,rfl,A,X.far (p:=⟨g,j,none⟩) hg _,Y,V,U,G,E⟩
   · rintro rfl
     refine⟨by omega,.inr ⟨g,M,_,rfl,hO,a0,a4,by rw[List.length_set];exact a6,a1,fun k hk=>?_,fun k hk=>?_⟩⟩
     · rw[r];split
       · exact⟨_,rfl⟩
       · exact a3 k hk
     · rw[r];split
       · rename_i e;subst e;rfl
       · exact a5 k om
theorem Tr.frozen{w:World}{O:Own}{i n p g r:Nat}(h:Tr w O i (.slice (some ⟨g,0,none⟩) n r) n p)(j:Nat):w.frozen? ⟨g,j,none⟩=false:=by
 rcases h.2 with ⟨h,_⟩|⟨g',A,D,hv,_,hb,_⟩
 · cases h
 · injection hv with e1 _ _
   injection e1 with e1
   injection e1 with e1
   subst e1;exact hb.frozen j
theorem Tr.cell{w:World}{O:Own}{i n p g A:Nat}(h:Tr w O i (.slice (some ⟨g,0,none⟩) n A) n p){j:Nat}(hj:j<n):∃x:UInt8,w.cell? ⟨g,j,none⟩=some (.int .u8 x.toNat):=by
 rcases h.2 with ⟨h,_⟩|⟨g',D,E,hv,_,hb,_,_,_,r,_⟩
 · cases h
 · injection hv with e1 _ _
   injection e1 with e1
   injection e1 with e1
   subst e1;obtain⟨x,hx⟩:=r j hj;exact⟨x,(hb.cell j).trans hx⟩
theorem Tr.mark{w:World}{O:Own}{i n p g r:Nat}(h:Tr w O i (.slice (some ⟨g,0,none⟩) n r) n p){j:Nat}(hj:j<p):w.cell? ⟨g,j,none⟩=some (.int .u8 (mrk i j).toNat):=by
 rcases h.2 with ⟨h,_⟩|⟨g',D,E,hv,_,hb,_,_,_,_,A⟩
 · cases h
 · injection hv with e1 _ _
   injection e1 with e1
   injection e1 with e1
   subst e1;exact(hb.cell j).trans (A j hj)
theorem Tr.form{w:World}{O:Own}{i n p:Nat}{v:Value}(h:Tr w O i v n p):(v=.slice none 0 0∧n=0)∨∃g r,v=.slice (some ⟨g,0,none⟩) n r∧O g=some i∧g<w.heap.size:=by
 rcases h.2 with h|⟨g,r,A,rfl,hO,hb,_⟩
 · exact .inl h
 · exact .inr ⟨g,r,rfl,hO,hb.lt⟩
def putOwn(O:Own)(g i:Nat):Own:=fun k=>if k=g then some i else O k
theorem zo6{P:Program}{base:Nat}{w0 w:World}{O:Own}(hM:MS base w0 w O)(b3:base≤w.heap.size)(t ty:TypeId)(ht:P.underlying t=some (.slice 5))(he:ElemIs P 5 1 1){i n:Nat}{v:Value}(h:Tr w O i v n n)
 (A:Option Addr) (m c:Nat) (news:List Value) (hr:Rd w A m news) (hm:0<m) (hnew:∀j,j<m→news[j]? = some (u8 (mrk i (n+j)))) (hbytes:n+m≤140737488355328):
 ∃A' c' w' O',(Builtin.append_ #[t,t] ty #[v,.slice A m c]).run P w=.ok (.slice A' (n+m) c') w'∧Tr w' O' i (.slice A' (n+m) c') (n+m) (n+m)∧MStep w O w' O'∧MS base w0 w' O':=by
 obtain⟨⟨ti,z,hi,hz,I,c3,d5⟩,d7⟩:=he;obtain⟨b,X,rfl,d6,hc⟩:=hr.2 hm;have J:news.length=m:=hr.1
 have c6:∀u∈news,u.oneCell'=true:=by
  intro u hu;obtain⟨k,hk,rfl⟩:=List.getElem_of_mem hu;have:=hnew k om;rw[ge9 hk]at this
  injection this with this
  rw[this]
  rfl
 have b5:news.length=m*ti.size:=by rw[I,Nat.mul_one,J]
 have U:∀j u,news[j]? = some u→w.cell? ((⟨b,X,none⟩:Addr).add j)=some u:=fun j u hu=>by rw[Addr.add_mid];exact hc j u hu
 have Y:∀(cs:List Value) (E:Nat),cs.length=E→n+m≤E→E≤maxLen→(∀j,j<n+m→cs[j]? = some (u8 (mrk i j))) →
     Tr (w.drew.alloc (.cells cs.toArray 5)) (putOwn O w.heap.size i) i (.slice (some ⟨w.heap.size,0,none⟩) (n+m) E) (n+m) (n+m)∧MStep w O (w.drew.alloc (.cells cs.toArray 5)) (putOwn O w.heap.size i)∧MS base w0 (w.drew.alloc (.cells cs.toArray 5)) (putOwn O w.heap.size i):=by
  intro cs E a6 c1 b2 a5;have a9:∀g,g<w.heap.size→(w.drew.alloc (.cells cs.toArray 5)).heap[g]? = w.heap[g]?:=fun g hg=>Below.heap_alloc w.drew _ g hg
  have b7:∀g,g<w.heap.size→putOwn O w.heap.size i g=O g:=fun g hg=>by unfold putOwn;rw[if_neg om]
  refine⟨⟨lr,.inr ⟨w.heap.size,E,cs,rfl,by unfold putOwn;rw[if_pos rfl],Blk.new w.drew _ cs,c1,a6,b2,fun j hj=>⟨_,a5 j hj⟩,a5⟩⟩,⟨fun i2 v2 n2 p2 ⟨hp2,h2⟩=>⟨hp2,?_⟩,fun g i2 hg=>?_,fun g hl hg=>⟨a9 g hl,by rw[b7 g hl];exact hg⟩,by simp⟩,⟨fun g hg=>?_,fun g i2 hg=>?_,(hM.below.drew.alloc b3 _)⟩⟩
  · rcases h2 with h2|⟨g2,a0,a1,rfl,V,a3,r⟩
    · exact .inl h2
    · exact .inr ⟨g2,a0,a1,rfl,by rw[b7 g2 a3.lt];exact V,(a9 g2 a3.lt).trans a3,r⟩
  · rcases Nat.lt_or_ge g w.heap.size with c9|b1
    · rw[b7 g c9];exact hg
    · rw[hM.free g b1]at hg;cases hg
  · simp at hg
    unfold putOwn
    rw[if_neg om];exact hM.free g om
  · unfold putOwn at hg
    split at hg
    · rename_i e;rw[e];exact b3
    · exact hM.lo g i2 hg
 have c0:∀k,(Builtin.zeroCells z.cells k).size=k:=fun k=>by rw[size_zeroCells,d5,Nat.mul_one]
 rcases h.2 with ⟨rfl,rfl⟩|⟨g,E,D,rfl,hO,hb,d8,a6,b2,c4,a5⟩
 · have G:=run_append_nil (P:=P) w t ty 5 ti z ht hi hz ⟨b,X,none⟩ m c news b5 U hm om (by rw[c3];omega)
   have b1:=grownCap_ge w m 0 5;have b6:=grownCap_le_maxLen w m 0 5 (by simp only[maxLen];omega)
   obtain ⟨q1,q2,q3⟩:=Y (news.toArray++Builtin.zeroCells z.cells (grownCap w m 0 5 - m)).toList (grownCap w m 0 5) (by rw[Array.length_toList,Array.size_append,List.size_toArray,c0,J];omega) om b6
     (fun j hj=>by rw[Array.toList_append,ll9 (by simp[J];omega)];have h5:=hnew j om;rw[Nat.zero_add]at h5;simpa using h5)
   rw[Array.toArray_toList]at q1 q2 q3;rw[Nat.zero_add]at q1 ⊢;exact⟨_,_,_,_,G,q1,q2,q3⟩
 · by_cases hroom:n+m≤E
   · have G:=run_append_room (P:=P) w t ty 5 ti ht hi g n E D.toArray hb ⟨b,X,none⟩ m c news b5 U c6 hroom (by rw[I,Nat.mul_one,J,List.size_toArray];omega)
     rw[I,Nat.mul_one,J]at G
     have a2:∀j,(D.take n++news++D.drop (n+m))[j]? = if n≤j∧j<n+m then some (u8 (mrk i j)) else D[j]?:=fun j=>by
      have M:(D.take n).length=n:=by rw[List.length_take,a6];omega
      rcases Nat.lt_or_ge j n with h1|h1
      · rw[if_neg om,as9,ll9 om,List.getElem?_take,if_pos h1]
      · rcases Nat.lt_or_ge j (n+m)with h2|h2
        · rw[if_pos ⟨h1,h2⟩,ll9 (by rw[la9];omega),ar9 om,M]
          have:=hnew (j-n) om
          rwa [show n+(j-n)=j by omega]at this
        · rw[if_neg om,ar9 (by rw[la9];omega),la9,M,J,List.getElem?_drop]
          congr 1
          omega
     have c8:Blk (w.setRow g (D.take n++news++D.drop (n+m)).toArray) g 5 (D.take n++news++D.drop (n+m)):=setRow_heap w g _ _ _ _ hb;have c5:(D.take n++news++D.drop (n+m)).length=E:=by simp[J];omega
     have b9:∀k,(∃x:UInt8,D[k]? = some (u8 x))∨(n≤k∧k<n+m)→∃x:UInt8,(D.take n++news++D.drop (n+m))[k]? = some (u8 x):=fun k hk=>by
      rw[a2]
      split
      · exact⟨_,rfl⟩
      · rename_i h;exact hk.resolve_right h
     refine⟨_,_,_,O,G,⟨lr,.inr ⟨g,E,_,rfl,hO,c8,hroom,c5,b2,fun k hk=>?_,fun k hk=>?_⟩⟩,⟨fun i2 v2 n2 p2 ⟨hp2,h2⟩=>⟨hp2,?_⟩,fun _ _ h=>h,fun k hl hk=>⟨setRow_other w g k _ (fun e=>by subst e;rw[hO]at hk;cases hk),hk⟩,by simp⟩,⟨fun k hk=>hM.free k (by simp at hk;exact hk),hM.lo,?_⟩⟩
     · rw[a2]
       split
       · exact⟨_,rfl⟩
       · exact c4 k om
     · rw[a2]
       split
       · rfl
       · exact a5 k om
     · rcases h2 with h2|⟨g2,a0,a1,rfl,V,a3,c7,d4,c2,a8,a7⟩
       · exact .inl h2
       · by_cases hg:g2=g
         · subst hg
           rw[hO]at V
           injection V with V
           subst V
           have d0:a1=D:=by
            have:=a3.symm.trans hb
            injection this with this
            injection this with this
            simpa using congrArg Array.toList this
           subst d0;refine .inr ⟨g2,a0,_,rfl,hO,c8,c7,by rw[c5];omega,c2,fun k hk=>b9 k (.inl (a8 k hk)),fun k hk=>?_⟩;rw[a2]
           split
           · rfl
           · exact a7 k hk
         · exact .inr ⟨g2,a0,a1,rfl,V,(setRow_other w g g2 _ hg).trans a3,c7,d4,c2,a8,a7⟩
     · have d3:w.grownBy (w.setRow g (D.take n++news++D.drop (n+m)).toArray) (some g):=⟨rfl,rfl,rfl,by simp,fun k _ hk=>setRow_other w g k _ (fun e=>hk (by rw[e]))⟩
       exact hM.below.grown d3 b3 (fun k hk=>by injection hk with hk;subst hk;exact hM.lo g i hO)
   · have b4:∀j u,(D.take n)[j]? = some u→w.cell? ((⟨g,0,none⟩:Addr).add j)=some u:=fun j u hu=>by
      rw[Addr.add_mid,Nat.zero_add,hb.cell];rw[List.getElem?_take]at hu
      split at hu
      · exact hu
      · cases hu
     have M:(D.take n).length=n:=by rw[List.length_take,a6];omega
     have G:=run_append_grow (P:=P) w t ty 5 ti z ht hi hz ⟨g,0,none⟩ n E (D.take n) (by rw[M,I,Nat.mul_one]) b4 ⟨b,X,none⟩ m c news b5 U om om (growslice_fits om (by rw[c3];omega));have b1:=grownCap_ge w (n+m) E 5;have b6:=grownCap_le_maxLen w (n+m) E 5 (by simp only[maxLen];omega)
     obtain ⟨q1,q2,q3⟩:=Y ((D.take n).toArray++news.toArray++Builtin.zeroCells z.cells (grownCap w (n+m) E 5 - (n+m))).toList (grownCap w (n+m) E 5) (by rw[Array.length_toList,Array.size_append,Array.size_append,List.size_toArray,List.size_toArray,c0,J,M];omega) om b6
       (fun j hj=>by
        rw[Array.toList_append,Array.toList_append,ll9 (by simp[J];omega)]
        rcases Nat.lt_or_ge j n with a4|a4
        · rw[ll9 (by rw[M];exact a4),List.getElem?_take,if_pos a4]
          exact a5 j a4
        · rw[ar9 (by rw[M];exact a4),M]
          have:=hnew (j-n) om
          rwa [show n+(j-n)=j by omega]at this)
     rw[Array.toArray_toList]at q1 q2 q3;exact⟨_,_,_,_,G,q1,q2,q3⟩
section
variable{P:Program}{w:World}{ops:Array Oper}{rest:List Oper}{o:Oper}{a:Act}{K:Act→World→Prop}{Q:Exit→Act→World→Prop}
theorem ze5(D:o.guard=none)(s x:Operand)(t:TypeId)(ho:o.op=.call { callee:=.builtin .append,args:=#[s,x],argTypes:=#[t,t] }){base:Nat}{w0:World}{O:Own}(hM:MS base w0 w O)(hbs:base≤w.heap.size)(ht:P.underlying t=some (.slice 5))(he:ElemIs P 5 1 1)
 {i n:Nat} (v:Value) (hs:a.eval s=v) (h:Tr w O i v n n) (A:Option Addr) (m c:Nat) (news:List Value) (hx:a.eval x=.slice A m c) (hr:Rd w A m news) (hm:0<m) (hnew:∀j,j<m→news[j]? = some (u8 (mrk i (n+j)))) (hbytes:n+m≤140737488355328)
 (hc:∀A' c' w' O',Tr w' O' i (.slice A' (n+m) c') (n+m) (n+m)→MStep w O w' O'→MS base w0 w' O'→wpList P ops Q rest (a.put o.dst (.slice A' (n+m) c')) w'):wpList P ops Q (o :: rest) a w:=by
 obtain⟨A',c',w',O',r,h1,h2,h3⟩:=zo6 (P:=P) hM hbs t o.type ht he h A m c news hr hm hnew hbytes;refine zfp D (zcd .append #[s,x] #[t,t] ho (args:=#[v,.slice A m c]) (by simp[hs,hx]) fun cs=>?_) (hc A' c' w' O' h1 h2 h3);simp only[builtin,Sem.run_bind,r,Sem.run_pure,Result.andThen_ok]
end
end
section
theorem zgp(i j:Nat)(hi:i≤1000)(hj:j≤281474976710656)(w:World):Calls Tryz.prog 35 #[.int .i64 (i:Int),.int .i64 (j:Int)] w fun e w'=>e=.returned (.int .u8 (mrk i j).toNat)∧w=w':=by
 have h1:(0:Int)≤(i:Int):=om;have h2:(i:Int)≤1000:=om;have h3:(0:Int)≤(j:Int):=om;have h4:(j:Int)≤281474976710656:=om;have HV:Hid ((((mrk i j).toNat:Nat):Int)=(17*(i:Int)+3*(j:Int)+1)%256):=by show _=_;unfold mrk;rw[UInt8.toNat_ofNat'];omega
 go_enter Tryz.func35, Tryz.ntmps35
 go_wp2_with fail
 go_ret;exact⟨by rw[HV.o];rfl,rfl⟩
theorem zwu(i j:Nat)(hi:i≤1000)(hj:j≤281474976710656)(w:World)(n:Nat):Calls Tryz.prog 35 #[.int .i64 (i:Int),.int .i64 (j:Int)] (w.drewN n) fun e w''=>e=.returned (.int .u8 (mrk i j).toNat)∧∃m,w''=w.drewN m :=
 (zgp i j hi hj (w.drewN n)).mono fun _ _ ⟨h1,h2⟩=>⟨h1,n,h2.symm⟩
structure ST(base:Nat)(w0:World)(L k:Nat)(vs:List Value)(ns:Nat→Nat)(w:World)(O:Own)(p:Nat→Nat):Prop where
 ms:MS base w0 w O
 hi:base≤w.heap.size
 lst:Blk w L 22 vs
 no:O L=none
 each:∀i,i<k→∃A c,vs[i]? = some (.slice A (ns i) c)∧Tr w O i (.slice A (ns i) c) (ns i) (p i)
section
variable{base:Nat}{w0:World}{L k:Nat}{vs:List Value}{ns:Nat→Nat}{w:World}{O:Own}{p:Nat→Nat}
theorem ST.step(h:ST base w0 L k vs ns w O p){w':World}{O':Own}(hs:MStep w O w' O')(hm:MS base w0 w' O'):ST base w0 L k vs ns w' O' p :=
 ⟨hm,Nat.le_trans h.hi hs.size,(hs.idle L h.lst.lt h.no).1.trans h.lst,(hs.idle L h.lst.lt h.no).2,fun i hi=>by
  obtain⟨A,c,e,ht⟩:=h.each i hi
  exact⟨A,c,e,hs.keep _ _ _ _ ht⟩⟩
theorem MS.step{w':World}{O':Own}(h:MS base w0 w O)(hb:Below base w0 w')(hO:O'=O)(hs:w.heap.size≤w'.heap.size):MS base w0 w' O':=by
 subst hO;exact⟨fun g hg=>h.free g om,h.lo,hb⟩
theorem ST.drew(h:ST base w0 L k vs ns w O p):ST base w0 L k vs ns w.drew O p:=h.step (MStep.drew w O) (h.ms.step h.ms.below.drew rfl lr)
theorem ST.drewN(h:ST base w0 L k vs ns w O p)(q:Nat):ST base w0 L k vs ns (w.drewN q) O p:=h.step (MStep.drewN w O q) (h.ms.step (below_drewN h.ms.below q) rfl lr)
theorem ST.alloc(h:ST base w0 L k vs ns w O p)(o:Obj):ST base w0 L k vs ns (w.alloc o) O p:=h.step (MStep.alloc w O o) (h.ms.alloc h.hi o)
theorem ST.at_(h:ST base w0 L k vs ns w O p){i:Nat}(hi:i<k):∃A c,w.cell? ⟨L,i,none⟩=some (.slice A (ns i) c)∧Tr w O i (.slice A (ns i) c) (ns i) (p i):=by
 obtain⟨A,c,e,ht⟩:=h.each i hi;exact⟨A,c,(h.lst.cell i).trans e,ht⟩
theorem ST.set(h:ST base w0 L k vs ns w O p){i j g c:Nat}(hi:i<k)(hc:w.cell? ⟨L,i,none⟩=some (.slice (some ⟨g,0,none⟩) (ns i) c))(hj:j<ns i)(hp:p i=j):
 ST base w0 L k vs ns (w.setCell ⟨g,j,none⟩ (.int .u8 (mrk i j).toNat)) O (fun x=>if x=i then j+1 else p x):=by
 obtain⟨A,c',e,ht⟩:=h.at_ hi;rw[hc]at e
 injection e with e
 injection e with e1 _ e2
 subst e1;subst e2;obtain⟨h1,h2⟩:=ht.set hj;have D:(w.setCell ⟨g,j,none⟩ (u8 (mrk i j))).heap.size=w.heap.size:=by simp[World.setCell]
 have r:O g=some i:=by
  rcases ht.form with ⟨h,_⟩|⟨g',G,hv,hO,_⟩
  · cases h
  · injection hv with e1 _ _
    injection e1 with e1
    injection e1 with e1
    rw[e1];exact hO
 have h3:=h.step h1 (h.ms.step (h.ms.below.setCell (p:=⟨g,j,none⟩) (h.ms.lo g i r) _) rfl (Nat.le_of_eq D.symm));refine⟨h3.ms,h3.hi,h3.lst,h3.no,fun x hx=>?_⟩;obtain⟨A',c',e',E⟩:=h3.each x hx
 by_cases hxi:x=i
 · subst hxi
   refine⟨A',c',e',?_⟩;rw[if_pos rfl];have e3:=(h.lst.cell x).symm.trans hc;rw[e']at e3
   injection e3 with e3
   rw[e3];have h4:=h2 hp.symm;rw[hp]at h4;exact h4
 · exact⟨A',c',e',by rw[if_neg hxi];exact E⟩
theorem ST.eq(h:ST base w0 L k vs ns w O p){q:Nat→Nat}(hq:∀i,i<k→p i=q i):ST base w0 L k vs ns w O q :=
 ⟨h.ms,h.hi,h.lst,h.no,fun i hi=>by rw[←hq i hi];exact h.each i hi⟩
end
def lenG(ns:Nat→Nat)(k m:Nat):Nat:=if m<k then ns m+16 else ns (m-k)+40
structure GS(base:Nat)(L k:Nat)(ns:Nat→Nat)(w:World)(O:Own)(N:Nat)(gv:Value)(ts:List Value):Prop where
 own:w.ownsRow base 22 1 gv N ts
 no:∀g,gv.ownBlock=some g→O g=none∧g≠L
 each:∀m,m<N→∃A c,ts[m]? = some (.slice A (lenG ns k m) c)∧Tr w O (m%k) (.slice A (lenG ns k m) c) (lenG ns k m) (lenG ns k m)
section
variable{base:Nat}{w0:World}{L k:Nat}{vs:List Value}{ns:Nat→Nat}{w w':World}{O O':Own}{p:Nat→Nat}{N:Nat}{gv:Value}{ts:List Value}
theorem GS.step(h:GS base L k ns w O N gv ts)(hs:MStep w O w' O'):GS base L k ns w' O' N gv ts:=by
 refine⟨?_,fun g hg=>?_,fun m hm=>?_⟩
 · obtain⟨h1,h2⟩:=h.own
   refine⟨h1,?_⟩
   rcases h2 with h2|⟨g,E,D,hv,hb,hg,r⟩
   · exact .inl h2
   · exact .inr ⟨g,E,D,hv,hb,((hs.idle g (Array.getElem?_eq_some_iff.1 hg).1 (h.no g (by rw[hv];rfl)).1).1).trans hg,r⟩
 · exact⟨(hs.idle g (h.own.lt g hg).2 (h.no g hg).1).2,(h.no g hg).2⟩
 · obtain⟨A,c,e,ht⟩:=h.each m hm
   exact⟨A,c,e,hs.keep _ _ _ _ ht⟩
theorem Tr.grown{i n q:Nat}{v:Value}(h:Tr w O i v n q){row:Option Nat}(hg:w.grownBy w' row)(hr:∀b,row=some b→O b=none):Tr w' O i v n q:=by
 obtain⟨hp,h⟩:=h;refine⟨hp,?_⟩
 rcases h with h|⟨g,D,A,rfl,hO,hb,r⟩
 · exact .inl h
 · exact .inr ⟨g,D,A,rfl,hO,hb.grown hg (fun e=>by have:=hr g e.symm;rw[hO]at this;cases this),r⟩
theorem ST.grown(h:ST base w0 L k vs ns w O p){row:Option Nat}(hg:w.grownBy w' row)(hr:∀b,row=some b→O b=none∧b≠L∧base≤b):ST base w0 L k vs ns w' O p :=
 ⟨h.ms.step (h.ms.below.grown hg h.hi (fun b e=>(hr b e).2.2)) rfl hg.size,Nat.le_trans h.hi hg.size,h.lst.grown hg (fun e=>(hr L e.symm).2.1 rfl),h.no,fun i hi=>by
  obtain⟨A,c,e,ht⟩:=h.each i hi
  exact⟨A,c,e,ht.grown hg (fun b e=>(hr b e).1)⟩⟩
theorem GS.grown(h:GS base L k ns w O N gv ts){row:Option Nat}(hg:w.grownBy w' row)(hr:∀b,row=some b→O b=none)(r:gv.ownBlock=none∨gv.ownBlock≠row):GS base L k ns w' O N gv ts :=
 ⟨h.own.kept hg r,h.no,fun m hm=>by
  obtain⟨A,c,e,ht⟩:=h.each m hm
  exact⟨A,c,e,ht.grown hg hr⟩⟩
theorem GS.push(hM:MS base w0 w O)(hL:L<w.heap.size)(h:GS base L k ns w O N gv ts){A:Option Addr}{c:Nat}(hA:Tr w O (N%k) (.slice A (lenG ns k N) c) (lenG ns k N) (lenG ns k N)){A':Option Addr}{c':Nat}(r:w'.ownsRow base 22 1 (.slice A' (N+1) c') (N+1) (ts++[.slice A (lenG ns k N) c]))(hg:w.grownBy w' gv.ownBlock)
 (hat:Value.ownBlock (.slice A' (N+1) c')=gv.ownBlock∨Value.ownBlock (.slice A' (N+1) c')=some w.heap.size):GS base L k ns w' O (N+1) (.slice A' (N+1) c') (ts++[.slice A (lenG ns k N) c]):=by
 have D:ts.length=N:=by simpa using h.own.1
 refine⟨r,fun g hgb=>?_,fun m hm=>?_⟩
 · rcases hat with e|e
   · exact h.no g (by rw[←e];exact hgb)
   · rw[hgb]at e
     injection e with e
     subst e;exact⟨hM.free _ lr,by omega⟩
 · by_cases hmN:m<N
   · obtain⟨A2,c2,e,ht⟩:=h.each m hmN
     exact⟨A2,c2,by rw[ll9 om];exact e,ht.grown hg (fun b e=>(h.no b e).1)⟩
   · obtain rfl:m=N:=om
     exact⟨A,c,by rw[ar9 om,D,Nat.sub_self];rfl,hA.grown hg (fun b e=>(h.no b e).1)⟩
theorem ST.pushed(h:ST base w0 L k vs ns w O p)(hG:GS base L k ns w O N gv ts)(hg:w.grownBy w' gv.ownBlock):ST base w0 L k vs ns w' O p :=
 h.grown hg (fun b e=>⟨(hG.no b e).1,(hG.no b e).2,(hG.own.lt b e).1⟩)
end
theorem GS.drewN{base:Nat}{L k:Nat}{ns:Nat→Nat}{w:World}{O:Own}{N:Nat}{gv:Value}{ts:List Value}(h:GS base L k ns w O N gv ts)(q:Nat):GS base L k ns (w.drewN q) O N gv ts:=h.step (MStep.drewN w O q)
theorem zu0{w:World}{base n c:Nat}{e:TypeId}{A:Option Addr}{xs:List Value}(h:w.ownsRow base e 1 (.slice A n c) n xs)(hn:0<n):∃g,A=some ⟨g,0,none⟩∧g<w.heap.size:=by
 rcases h.2 with ⟨_,h0⟩|⟨g,D,r,hv,_,hg,_⟩
 · omega
 · injection hv with hA
   exact⟨g,hA,(Array.getElem?_eq_some_iff.1 hg).1⟩
def mrw(x n:Nat):Nat→List UInt8
 | 0=>[]
 | j+1=>mrw x n j++[mrk x (n+j)]
theorem ze1(x n j:Nat):(mrw x n j).length=j:=by
 induction j with
 | zero=>rfl
 | succ j ih=>simp[mrw,ih]
theorem zyt(x n j t:Nat)(h:t<j):(mrw x n j)[t]? = some (mrk x (n+t)):=by
 induction j with
 | zero=>omega
 | succ j ih =>
  unfold mrw
  by_cases htj:t<j
  · rw[ll9 (by rw[ze1];exact htj)]
    exact ih htj
  · obtain rfl:t=j:=om
    rw[ar9 (by rw[ze1];exact lr),ze1,Nat.sub_self]
    rfl
def mrU(x n j:Nat):List UInt8:=mrw x n j++List.replicate (40-j) 0
theorem zyv(x n j:Nat)(h:j≤40):(mrU x n j).length=40:=by simp[mrU,ze1];omega
theorem zyu(x n j:Nat)(h:j<40):(mrU x n j).set j (mrk x (n+j))=mrU x n (j+1):=by
 unfold mrU
 rw[List.set_append_right _ _ (by rw[ze1];exact lr),ze1,Nat.sub_self,show 40-j=(40-(j+1))+1 by omega,List.replicate_succ,List.set_cons_zero,mrw,as9]
 rfl
theorem zyw(x n:Nat):mrU x n 40=mrw x n 40:=by simp[mrU]
def upTo(ns:Nat→Nat)(i j:Nat):Nat→Nat:=fun x=>if x<i then ns x else if x=i then j else 0
theorem ztp(base:Nat)(w0:World)(L k c:Nat)(vs:List Value)(ns:Nat→Nat)(w:World)(O:Own)(hst:ST base w0 L k vs ns w O (fun _=>0))(j7:vs.length=k)(hk:k≤100)(i3:0<k)(h3:∀i,i<k→ns i≤140737488355000):
 Calls Tryz.prog 15 #[.slice (some ⟨L,0,none⟩) k c] w fun e w'=>e=.returned (.bool true)∧Below base w0 w':=by
 have D:=qh hst;have b2:=qh h3;have d3:Hid (ST base w0 L k vs ns w O (upTo ns 0 0)):=hst.eq (fun i hi=>by unfold upTo;split;(omega);split <;> rfl);clear hst h3
 go_enter Tryz.func15, Tryz.ntmps15
 go_wp2_with fail
 go_loopg [3] k (fun kk q wr=>∃i:Nat,i≤k∧kk=k-i∧q=.int .i64 (i:Int)∧ST base w0 L k vs ns wr O (upTo ns i 0))
 case atStart=>exact⟨0,by omega,rfl,rfl,d3.o⟩
 case round =>
  clear d3;obtain⟨i,hi,h2,rfl,hst⟩:=hrel;have i4:=qh h2;clear h2
  by_cases hlt:i<k
  · have h4:(i:Int)<(k:Int):=om
    have j6:(0:Int)≤(i:Int):=om;have a5:=qh hst;have g1:=b2.o i hlt;clear hst
    go_wp2_with fail
    go_loopg [4] (ns i) (fun kk q wr=>∃j:Nat,j≤ns i∧kk=ns i-j∧q=.int .i64 (j:Int)∧ST base w0 L k vs ns wr O (upTo ns i j))
    case atStart=>exact⟨0,by omega,rfl,rfl,a5.o⟩
    case round =>
     clear a5;obtain⟨j,hj,M,rfl,hst⟩:=hrel;have a2:=qh M;clear M;obtain⟨A,c1,b4,I⟩:=hst.at_ hlt;have X:=qh hst;clear hst
     by_cases hlj:j<ns i
     · have U:(j:Int)<(ns i:Int):=om
       have c9:(0:Int)≤(j:Int):=om
       obtain⟨g,V,hv⟩:∃g V,Value.slice A (ns i) c1=.slice (some ⟨g,0,none⟩) (ns i) V:=by
        rcases I.form with ⟨h,h0⟩|⟨g,V,h,_⟩
        · omega
        · exact⟨g,V,h⟩
       injection hv with e1 _ e2
       subst e1;subst e2;obtain⟨x,hx⟩:=I.cell hlj;have hf:=I.frozen j;have b1:=X.o.drew.set hlt b4 hlj (show upTo ns i j i=j by unfold upTo;rw[if_neg om,if_pos rfl]);have h1:Hid (ST base w0 L k vs ns (wr.drew.setCell ⟨g,j,none⟩ (.int .u8 (mrk i j).toNat)) O (upTo ns i (j+1))):=b1.eq (fun y hy=>by unfold upTo;split;(rename_i e;subst e;rw[if_neg om]);(split;rfl;rfl));have f4:=b1.at_ hlt;obtain⟨A3,c3,f6,_⟩:=f4
       have e8:(wr.drew.setCell ⟨g,j,none⟩ (.int .u8 (mrk i j).toNat)).cell? ⟨L,i,none⟩=some (.slice (some ⟨g,0,none⟩) (ns i) c1):=by
        have h5:=(b1.lst.cell i).trans ((X.o.drew.lst.cell i).symm.trans b4);exact h5
       have g4:wr.drew.cell? ⟨L,i,none⟩=some (.slice (some ⟨g,0,none⟩) (ns i) c1):=b4;have j5:wr.drew.cell? ⟨g,j,none⟩=some (.int .u8 x.toNat):=hx;have j4:wr.drew.frozen? ⟨g,j,none⟩=false:=hf;have b9:=qh (fun W=>zgp i j om om W);clear I b1 hx hf f6
       go_wp2_with fail
       go_region_held3 (fun W'=>W'.cell? ⟨L,i,none⟩=some (.slice (some ⟨g,0,none⟩) (ns i) c1)) (first|exact g4|exact e8) ((go_at_call 35;(refine(b9.o _).mono ?_);rintro e w2 ⟨rfl,rfl⟩))
       go_wp2_with fail
       go_roundg (ns i-(j+1))
       case measure=>have:=a2.o;omega
       case rel=>exact⟨j+1,by omega,rfl,by go_num,h1.o⟩
     · obtain rfl:j=ns i:=om
       have U:¬(ns i:Int)<(ns i:Int):=om
       have j0:Hid (ST base w0 L k vs ns wr O (upTo ns (i+1) 0)):=X.o.eq (fun y hy=>by
        unfold upTo
        rcases Nat.lt_trichotomy y i with h|h|h
        · rw[if_pos h,if_pos om]
        · subst h;rw[if_neg om,if_pos rfl,if_pos om]
        · rw[if_neg om,if_neg om,if_neg om];split <;> rfl)
       clear I
       go_wp2_with fail
       go_roundg (k-(i+1))
       case measure=>have:=i4.o;omega
       case rel=>exact⟨i+1,by omega,rfl,by go_num,j0.o⟩
  · obtain rfl:i=k:=om
    have h4:¬(i:Int)<(i:Int):=om;have f2:Hid (ST base w0 L i vs ns wr O ns):=hst.eq (fun y hy=>by unfold upTo;rw[if_pos hy]);have g7:Hid (GS base L i ns wr O 0 (.slice none 0 0) []):=⟨World.ownsRow_nil _ _ _ _,fun g hg=>(by cases hg),fun m hm=>absurd hm om⟩;clear hst
    go_wp2_with fail
    go_loopg [5,6] i (fun kk q5 q6 wr=>∃(x:Nat) (O:Own) (gv:Value) (ts:List Value),x≤i∧kk=i-x∧q6=.int .i64 (x:Int)∧gv=q5∧ST base w0 L i vs ns wr O ns∧GS base L i ns wr O x gv ts)
    case atStart=>exact⟨0,O,_,_,by omega,rfl,rfl,rfl,f2.o,g7.o⟩
    case round =>
     clear f2 g7;obtain⟨x,O,gv,ts,hx,d9,rfl,rfl,hst,J⟩:=hrel;have g3:=qh d9;clear d9
     by_cases hlx:x<i
     · have f9:(x:Int)<(i:Int):=om
       have j3:(0:Int)≤(x:Int):=om;obtain⟨A0,c0,h6,e0⟩:=hst.at_ hlx;have g1:=b2.o x hlx;have g8:(0:Int)≤(ns x:Int):=om;have g5:(ns x:Int)≤140737488355000:=om;have X:=qh hst;have a9:=qh J;have d6:=qh e0;clear hst J e0
       go_wp2_with fail
       go_loopg [7,8] 16 (fun kk q7 q8 wr=>∃(j:Nat) (O:Own) (A:Option Addr) (c:Nat),j≤16∧kk=16-j∧q8=.int .i64 (j:Int)∧q7=.slice A (ns x+j) c∧Tr wr O x (.slice A (ns x+j) c) (ns x+j) (ns x+j)∧ST base w0 L i vs ns wr O ns∧GS base L i ns wr O x gv ts)
       case atStart=>exact⟨0,O,A0,c0,by omega,rfl,rfl,rfl,d6.o,X.o,a9.o⟩
       case round =>
        clear X a9 d6 h6;obtain⟨j,O,A,c1,hj,M,rfl,rfl,I,hst,J⟩:=hrel;have a2:=qh M;have d0:=qh I;have D:=qh hst;have E:=qh J;clear M I hst J
        by_cases hlj:j<16
        · have U:(j:Int)<16:=om
          have c9:(0:Int)≤(j:Int):=om;obtain⟨A3,c3,b4,_⟩:=D.o.at_ hlx;have b9:Hid (∀W,Calls Tryz.prog 35 #[.int .i64 (x:Int),.int .i64 ((ns x:Int)+(j:Int))] W fun e w'=>e=.returned (.int .u8 (mrk x (ns x+j)).toNat)∧W=w'):=fun W=>zgp x (ns x+j) om om W
          go_wp2_with (first
           | (go_at_call 35;(with_reducible refine(b9.o _).mono ?_);rintro e w2 ⟨rfl,rfl⟩)
           | (at_builtin;refine ze5 rfl (.tmp 54) (.tmp 64) 22 rfl (D.o.alloc _).ms (D.o.alloc _).hi Tryz.underlying22 eU8 (.slice A (ns x+j) c1) rr (by exact(MStep.alloc _ O _).keep _ _ _ _ d0.o) (some ⟨wr.heap.size,0,none⟩) 1 1 [.int .u8 ((mrk x (ns x+j)).toNat:Int)] rr (by exact(RdS.new wr _ [.int .u8 ((mrk x (ns x+j)).toNat:Int)] 1 rfl).to1) om (by intro y hy;obtain rfl:y=0:=om;rfl) om ?_;intro A4 c4 w4 O4 a6 a7 b6;have c2:=qh a6;have a1:=qh ((D.o.alloc _).step a7 b6);have a3:=qh ((E.o.step (MStep.alloc _ O _)).step a7);clear a6 a7 b6))
          go_roundg (16-(j+1))
          case measure=>have:=a2.o;omega
          case rel=>exact⟨j+1,O4,A4,c4,by omega,rfl,by go_num,rfl,c2.o,a1.o,a3.o⟩
        · obtain rfl:j=16:=om
          have U:¬((16:Nat):Int)<16:=om;have a0:=E.o.own;obtain⟨gA,gc,c6,_⟩:=zeq a0;subst c6;have c8:Hid (lenG ns i x=ns x+16):=by show _=_;unfold lenG;rw[if_pos hlx]
          have f1:Hid (x%i=x):=Nat.mod_eq_of_lt hlx;have g6:=qh a0;clear a0
          go_wp2_with ((at_builtin;refine zah rfl (.tmp 66) (.tmp 68) 57 rfl base 22 1 24 Tryz.underlying57 eSl (.slice gA x gc) x ts rr (by exact zas g6.o ((Below.refl _ wr).alloc lr _)) (some ⟨wr.heap.size,0,none⟩) 1 1 [.slice A (ns x+16) c1] rr (by exact RdS.new wr _ [.slice A (ns x+16) c1] 1 rfl) (by intro u hu;simp at hu;subst hu;rfl) om om (by exact(D.o.alloc _).hi) ?_;intro A5 c5 w5 Y i9 a8 a4;have b7:=qh ((D.o.alloc _).pushed (E.o.step (MStep.alloc _ O _)) a8);have b5:Hid (GS base L i ns w5 O (x+1) (.slice A5 (x+1) c5) (ts++[.slice A (lenG ns i x) c1])):=(E.o.step (MStep.alloc _ O _)).push (D.o.alloc _).ms (D.o.alloc _).lst.lt (by rw[c8.o,f1.o];exact(MStep.alloc _ O _).keep _ _ _ _ d0.o) (by rw[c8.o];exact Y) a8 a4;clear Y a8 a4))
          go_roundg (i-(x+1))
          case measure=>have:=g3.o;omega
          case rel=>exact⟨x+1,O,_,_,by omega,rfl,by go_num,rfl,b7.o,b5.o⟩
     · obtain rfl:x=i:=om
       have f9:¬(x:Int)<(x:Int):=om;have d4:=qh hst;have d7:=qh J;clear hst J
       go_wp2_with fail
       go_loopg [5,9] x (fun kk q5 q9 wr=>∃(y:Nat) (O:Own) (gv:Value) (ts:List Value),y≤x∧kk=x-y∧q9=.int .i64 (y:Int)∧gv=q5∧ST base w0 L x vs ns wr O ns∧GS base L x ns wr O (x+y) gv ts)
       case atStart=>exact⟨0,O,_,_,by omega,rfl,rfl,rfl,d4.o,d7.o⟩
       case round =>
        clear d4 d7;obtain⟨y,O,gv,ts,hy,e3,rfl,rfl,hst,J⟩:=hrel;have f7:=qh e3;clear e3;have D:=qh hst;have E:=qh J;clear hst J
        by_cases hly:y<x
        · have g9:(y:Int)<(x:Int):=om
          have i8:(0:Int)≤(y:Int):=om;have g1:=b2.o y hly;have g8:(0:Int)≤(ns y:Int):=om;have g5:(ns y:Int)≤140737488355000:=om
          go_wp2_with ((at_make;refine zaj rfl (.const (.int .i64 40)) (.const (.int .i64 40)) 22 rfl 5 (.int .u8 0) 1 Tryz.underlying22 iU8 rfl .i64 .i64 40 40 rr rr 40 40 rfl rfl om om om ?_;intro w1 h7 e6 i7;have e9:Hid (Blk w1 wr.heap.size 5 (u8s (mrU y (ns y) 0))):=h7;have a5:=qh (D.o.grown e6 (fun b e=>(by cases e)));have d5:=qh (E.o.grown e6 (fun b e=>(by cases e)) (by cases h9:gv.ownBlock;(exact .inl rfl);(exact .inr (fun e=>by cases e))));clear h7 e6 i7))
          have b3:Hid (O wr.heap.size=none∧wr.heap.size≠L∧base≤wr.heap.size∧∀b,gv.ownBlock=some b→b≠wr.heap.size):=⟨D.o.ms.free _ lr,by have:=D.o.lst.lt;omega,D.o.hi,fun b hb=>by have:=(E.o.own.lt b hb).2;omega⟩;obtain⟨G,hG⟩:=ex9 (wr.heap.size);rw[←hG]at e9 b3 ⊢;clear hG D E
          go_loopg [11] 40 (fun kk q wr=>∃j:Nat,j≤40∧kk=40-j∧q=.int .i64 (j:Int)∧Blk wr G 5 (u8s (mrU y (ns y) j))∧ST base w0 L x vs ns wr O ns∧GS base L x ns wr O (x+y) gv ts)
          case atStart=>exact⟨0,by omega,rfl,rfl,e9.o,a5.o,d5.o⟩
          case round =>
           clear e9 a5 d5;obtain⟨j,hj,M,rfl,hb,hst,J⟩:=hrel;have a2:=qh M;have D:=qh hst;have E:=qh J;have HB:=qh hb;clear M hst J hb;obtain⟨A3,c3,b4,I⟩:=D.o.at_ hly;have d0:=qh I;clear I
           by_cases hlj:j<40
           · have U:(j:Int)<40:=om
             have c9:(0:Int)≤(j:Int):=om;have b9:Hid (∀W,Calls Tryz.prog 35 #[.int .i64 (y:Int),.int .i64 ((ns y:Int)+(j:Int))] W fun e w'=>e=.returned (.int .u8 (mrk y (ns y+j)).toNat)∧W=w'):=fun W=>zgp y (ns y+j) om om W
             obtain⟨z,hz⟩:∃z,(mrU y (ns y) j)[j]? = some z:=⟨_,ge9 (by rw[zyv _ _ _ hj];exact hlj)⟩;have cz:wr.cell? ⟨G,j,none⟩=some (.int .u8 z.toNat):=by rw[HB.o.cell,u8s_getElem?,hz];rfl
             have fz:=HB.o.frozen j
             have i6:Hid (Blk (wr.setCell ⟨G,j,none⟩ (.int .u8 (mrk y (ns y+j)).toNat)) G 5 (u8s (mrU y (ns y) (j+1)))):=(by
              have h5:=HB.o.set_ j (.int .u8 (mrk y (ns y+j)).toNat);rw[za5,zyu _ _ _ hlj]at h5
              exact h5)
             have e7:=(Only.of_setCells wr G j [.int .u8 (mrk y (ns y+j)).toNat]).grown;have X:Hid (ST base w0 L x vs ns (wr.setCell ⟨G,j,none⟩ (.int .u8 (mrk y (ns y+j)).toNat)) O ns):=D.o.grown e7 (fun b e=>by injection e with e;subst e;exact⟨b3.o.1,b3.o.2.1,b3.o.2.2.1⟩)
             have a9:Hid (GS base L x ns (wr.setCell ⟨G,j,none⟩ (.int .u8 (mrk y (ns y+j)).toNat)) O (x+y) gv ts):=E.o.grown e7 (fun b e=>by injection e with e;subst e;exact b3.o.1) (by cases h9:gv.ownBlock with
              | none=>exact .inl rfl
              | some b=>exact .inr (fun e=>b3.o.2.2.2 b h9 (by injection e)))
             clear hz e7
             go_wp2_with (go_at_call 35;(with_reducible refine(b9.o _).mono ?_);rintro e w2 ⟨rfl,rfl⟩)
             go_roundg (40-(j+1))
             case measure=>have:=a2.o;omega
             case rel=>exact⟨j+1,by omega,rfl,by go_num,i6.o,X.o,a9.o⟩
           · obtain rfl:j=40:=om
             have U:¬((40:Nat):Int)<40:=om;have a0:=E.o.own;obtain⟨gA,gc,c6,_⟩:=zeq a0;subst c6;have c8:Hid (lenG ns x (x+y)=ns y+40):=by show _=_;unfold lenG;rw[if_neg om,Nat.add_sub_cancel_left]
             have f1:Hid ((x+y)%x=y):=by show _=_;rw[Nat.add_mod_left];exact Nat.mod_eq_of_lt hly
             have g6:=qh a0;have i0:Hid (Rd wr (some ⟨G,0,none⟩) 40 (u8s (mrw y (ns y) 40))):=(by have h5:=HB.o.rdAll;rw[zyw,ze1]at h5;exact h5);have i5:Hid (∀t,t<40→(u8s (mrw y (ns y) 40))[t]? = some (.int .u8 (mrk y (ns y+t)).toNat)):=fun t ht=>(by rw[u8s_getElem?,zyt _ _ _ _ ht];rfl)
             clear a0
             go_wp2_with (first
              | (at_builtin;refine ze5 rfl (.tmp 97) (.tmp 98) 22 rfl D.o.ms D.o.hi Tryz.underlying22 eU8 (.slice A3 (ns y) c3) rr (by exact d0.o) (some ⟨G,0,none⟩) 40 40 (u8s (mrw y (ns y) 40)) rr i0.o om (by exact i5.o) om ?_;intro A4 c4 w4 O4 a6 a7 b6;have c2:=qh a6;have a1:=qh (D.o.step a7 b6);have a3:=qh (E.o.step a7);clear a6 a7 b6)
              | (at_builtin;refine zah rfl (.tmp 93) (.tmp 100) 57 rfl base 22 1 24 Tryz.underlying57 eSl (.slice gA (x+y) gc) (x+y) ts rr (by exact zas a3.o.own ((Below.refl _ w4).alloc lr _)) (some ⟨w4.heap.size,0,none⟩) 1 1 [.slice A4 (ns y+40) c4] rr (by exact RdS.new w4 _ [.slice A4 (ns y+40) c4] 1 rfl) (by intro u hu;simp at hu;subst hu;rfl) om om (by exact(a1.o.alloc _).hi) ?_;intro A5 c5 w5 Y i9 a8 a4;have b7:=qh ((a1.o.alloc _).pushed (a3.o.step (MStep.alloc _ O4 _)) a8);have b5:Hid (GS base L x ns w5 O4 (x+y+1) (.slice A5 (x+y+1) c5) (ts++[.slice A4 (lenG ns x (x+y)) c4])):=(a3.o.step (MStep.alloc _ O4 _)).push (a1.o.alloc _).ms (a1.o.alloc _).lst.lt (by rw[c8.o,f1.o];exact(MStep.alloc _ O4 _).keep _ _ _ _ c2.o) (by rw[c8.o];exact Y) a8 a4;clear Y a8 a4))
             go_roundg (x-(y+1))
             case measure=>have:=f7.o;omega
             case rel=>exact⟨y+1,O4,_,_,by omega,rfl,by go_num,rfl,b7.o,b5.o⟩
        · obtain rfl:y=x:=om
          have g9:¬(y:Int)<(y:Int):=om;obtain⟨gA,gc,c6,_⟩:=zeq E.o.own;subst c6
          go_wp2_with fail
          go_loopg [12] (y+y) (fun kk q wr=>∃m:Nat,m≤y+y∧kk=y+y-m∧q=.int .i64 (m:Int)∧ST base w0 L y vs ns wr O ns∧GS base L y ns wr O (y+y) (.slice gA (y+y) gc) ts)
          case atStart=>exact⟨0,by omega,rfl,rfl,D.o,E.o⟩
          case round =>
           clear D E;obtain⟨m,hm,e4,rfl,hst,J⟩:=hrel;have f3:=qh e4;have D:=qh hst;have E:=qh J;clear e4 hst J
           by_cases hlm:m<y+y
           · have c7:(m:Int)<(y:Int)+(y:Int):=om
             have g0:(0:Int)≤(m:Int):=om
             go_wp2_with fail
             go_loopg [13] (lenG ns y m) (fun kk q wr=>∃j:Nat,j≤lenG ns y m∧kk=lenG ns y m-j∧q=.int .i64 (j:Int)∧ST base w0 L y vs ns wr O ns∧GS base L y ns wr O (y+y) (.slice gA (y+y) gc) ts)
             case atStart=>exact⟨0,by omega,rfl,rfl,D.o,E.o⟩
             case round =>
              clear D E;obtain⟨j,hj,M,rfl,hst,J⟩:=hrel;have a2:=qh M;have D:=qh hst;have E:=qh J;clear M hst J;obtain⟨A1,c1,e5,I⟩:=E.o.each m hlm;obtain⟨gg,rfl,_⟩:=zu0 E.o.own om;have cg:wr.cell? ⟨gg,m,none⟩=some (.slice A1 (lenG ns y m) c1):=(E.o.own.cellAt m om).trans e5
              have j1:lenG ns y m≤140737488355040:=by
               unfold lenG
               split
               · have:=b2.o m om;omega
               · have:=b2.o (m-y) om;omega
              have f5:(0:Int)≤(lenG ns y m:Int):=om
              by_cases hlj:j<lenG ns y m
              · have U:(j:Int)<(lenG ns y m:Int):=om
                have c9:(0:Int)≤(j:Int):=om
                obtain⟨g2,V,hv⟩:∃g2 V,Value.slice A1 (lenG ns y m) c1=.slice (some ⟨g2,0,none⟩) (lenG ns y m) V:=by
                 rcases I.form with ⟨h,h0⟩|⟨g2,V,h,_⟩
                 · omega
                 · exact⟨g2,V,h⟩
                injection hv with e1 _ e2
                subst e1;subst e2;obtain⟨r,hr⟩:=ex9 (m%y);have i1:r≤100:=by rw[hr];have:=Nat.mod_lt m i3;omega
                have i2:(m:Int).tmod (y:Int)=(r:Int):=by rw[Int.tmod_eq_emod_of_nonneg g0,hr];rfl
                have cx:wr.cell? ⟨g2,j,none⟩=some (.int .u8 (mrk r j).toNat):=by rw[hr];exact I.mark hlj
                have f0:=qh (fun W n=>zwu r j om om W n);have h8:(((mrk r j).toNat:Int) != ((mrk r j).toNat:Int))=false:=by simp
                have i8:((y:Int) == 0)=false:=by rw[beq_eq_false_iff_ne];omega
                have j2:¬(y:Int)=0:=om;clear I e5 hr;generalize ((mrk r j).toNat:Int)=MV at *
                go_upto_region 33 with fail
                go_quiet ((go_at_call 35;(with_reducible exact f0.o _ _)))
                clear i2
                go_wp2_with fail
                go_roundg (lenG ns y m-(j+1))
                case measure=>have:=a2.o;omega
                case rel=>exact⟨j+1,by omega,rfl,by go_num,D.o.drewN _,E.o.drewN _⟩
              · obtain rfl:j=lenG ns y m:=om
                have U:¬(lenG ns y m:Int)<(lenG ns y m:Int):=om;clear I e5
                go_wp2_with fail
                go_roundg (y+y-(m+1))
                case measure=>have:=f3.o;omega
                case rel=>exact⟨m+1,by omega,rfl,by go_num,D.o,E.o⟩
           · obtain rfl:m=y+y:=om
             have c7:¬((y+y:Nat):Int)<(y:Int)+(y:Int):=om
             go_wp2_with fail
             go_loopg [14] y (fun kk q wr=>∃m:Nat,m≤y∧kk=y-m∧q=.int .i64 (m:Int)∧ST base w0 L y vs ns wr O ns)
             case atStart=>exact⟨0,by omega,rfl,rfl,D.o⟩
             case round =>
              clear D E;obtain⟨m,hm,d8,rfl,hst⟩:=hrel;have f8:=qh d8;have D:=qh hst;clear d8 hst
              by_cases hlm:m<y
              · have c7:(m:Int)<(y:Int):=om
                have g0:(0:Int)≤(m:Int):=om
                go_wp2_with fail
                go_loopg [15] (ns m) (fun kk q wr=>∃j:Nat,j≤ns m∧kk=ns m-j∧q=.int .i64 (j:Int)∧ST base w0 L y vs ns wr O ns)
                case atStart=>exact⟨0,by omega,rfl,rfl,D.o⟩
                case round =>
                 clear D;obtain⟨j,hj,M,rfl,hst⟩:=hrel;have a2:=qh M;have D:=qh hst;clear M hst;obtain⟨A1,c1,b4,I⟩:=D.o.at_ hlm;have j1:=b2.o m hlm;have f5:(0:Int)≤(ns m:Int):=om
                 by_cases hlj:j<ns m
                 · have U:(j:Int)<(ns m:Int):=om
                   have c9:(0:Int)≤(j:Int):=om
                   obtain⟨g2,V,hv⟩:∃g2 V,Value.slice A1 (ns m) c1=.slice (some ⟨g2,0,none⟩) (ns m) V:=by
                    rcases I.form with ⟨h,h0⟩|⟨g2,V,h,_⟩
                    · omega
                    · exact⟨g2,V,h⟩
                   injection hv with e1 _ e2
                   subst e1;subst e2;have cx:wr.cell? ⟨g2,j,none⟩=some (.int .u8 (mrk m j).toNat):=I.mark hlj;have f0:=qh (fun W n=>zwu m j om om W n);have h8:(((mrk m j).toNat:Int) != ((mrk m j).toNat:Int))=false:=by simp
                   clear I;generalize ((mrk m j).toNat:Int)=MV at *
                   go_upto_region 41 with fail
                   go_quiet ((go_at_call 35;(with_reducible exact f0.o _ _)))
                   go_wp2_with fail
                   go_roundg (ns m-(j+1))
                   case measure=>have:=a2.o;omega
                   case rel=>exact⟨j+1,by omega,rfl,by go_num,D.o.drewN _⟩
                 · obtain rfl:j=ns m:=om
                   have U:¬(ns m:Int)<(ns m:Int):=om;clear I
                   go_wp2_with fail
                   go_roundg (y-(m+1))
                   case measure=>have:=f8.o;omega
                   case rel=>exact⟨m+1,by omega,rfl,by go_num,D.o⟩
              · obtain rfl:m=y:=om
                have c7:¬(m:Int)<(m:Int):=om
                go_wp2_with fail
                go_ret;exact⟨rfl,D.o.ms.below⟩
end
theorem Tr.of_own{w:World}{O:Own}{base i n c:Nat}{A:Option Addr}{xs:List UInt8}(h:w.ownsRow base 5 1 (.slice A n c) n (u8s xs))(hO:∀g,Value.ownBlock (.slice A n c)=some g→O g=some i):Tr w O i (.slice A n c) n 0:=by
 refine⟨Nat.zero_le _,?_⟩;have M:xs.length=n:=by have:=h.1;rw[zaa]at this;omega
 rcases h.2 with ⟨h1,h0⟩|⟨g,G,D,hv,_,hg,I,E,J,r⟩
 · exact .inl ⟨h1,h0⟩
 · refine .inr ⟨g,G,D.toList,hv,hO g (by rw[hv];rfl),by unfold Blk;simpa using hg,I,by simpa using J,E,fun j hj=>?_,fun j hj=>absurd hj om⟩
   have h5:(D.toList.take (n*1))[j]? = (u8s xs)[j]?:=by rw[r]
   rw[List.getElem?_take,if_pos om,u8s_getElem?,ge9 (show j<xs.length by omega)]at h5;exact⟨_,h5⟩
theorem ST.make{base:Nat}{w0 w:World}{L k:Nat}{vs:List Value}{ns:Nat→Nat}(hb:Below base w0 w)(hi:base≤w.heap.size)(hL:Blk w L 22 vs)
 (hv:∀i,i<k→∃A c xs,vs[i]? = some (.slice A (ns i) c)∧w.ownsRow base 5 1 (.slice A (ns i) c) (ns i) (u8s xs)∧(∀g,Value.ownBlock (.slice A (ns i) c)=some g→g≠L))
 (hd:∀i j g A c A' c',i<k→j<k→vs[i]? = some (.slice A (ns i) c)→vs[j]? = some (.slice A' (ns j) c')→Value.ownBlock (.slice A (ns i) c)=some g→Value.ownBlock (.slice A' (ns j) c')=some g→i=j):∃O,ST base w0 L k vs ns w O (fun _=>0):=by
 refine⟨fun g=>(List.range k).find? (fun i=>decide ((vs[i]?.bind Value.ownBlock)=some g)),?_⟩
 have hO:∀g i,(List.range k).find? (fun i=>decide ((vs[i]?.bind Value.ownBlock)=some g))=some i→i<k∧(vs[i]?.bind Value.ownBlock)=some g:=fun g i h=>by
  have h1:=List.find?_some h;have h2:=List.mem_of_find?_eq_some h;exact⟨List.mem_range.1 h2,by simpa using h1⟩
 have r:∀g i,(List.range k).find? (fun i=>decide ((vs[i]?.bind Value.ownBlock)=some g))=some i→base≤g∧g<w.heap.size∧g≠L:=fun g i h=>by
  obtain⟨h1,h2⟩:=hO g i h;obtain⟨A,c,xs,e,ho,D⟩:=hv i h1;rw[e]at h2;exact⟨(ho.lt g h2).1,(ho.lt g h2).2,D g h2⟩
 refine⟨⟨fun g hg=>?_,fun g i h=>(r g i h).1,hb⟩,hi,hL,?_,fun i hik=>?_⟩
 · cases h:(List.range k).find? (fun i=>decide ((vs[i]?.bind Value.ownBlock)=some g))with
   | none=>rfl
   | some i=>have:=(r g i h).2.1;omega
 · cases h:(List.range k).find? (fun i=>decide ((vs[i]?.bind Value.ownBlock)=some L))with
   | none=>rfl
   | some i=>exact absurd rfl (r L i h).2.2
 · obtain⟨A,c,xs,e,ho,_⟩:=hv i hik
   refine⟨A,c,e,Tr.of_own ho fun g hg=>?_⟩
   cases h:(List.range k).find? (fun i=>decide ((vs[i]?.bind Value.ownBlock)=some g))with
   | none =>
    have:=List.find?_eq_none.1 h i (List.mem_range.2 hik);rw[e]at this;exact absurd hg (by simpa using this)
   | some j =>
    obtain⟨h1,h2⟩:=hO g j h;obtain⟨A',c',E,e',_,_⟩:=hv j h1;rw[e']at h2;rw[hd i j g A c A' c' hik h1 e e' hg h2]
theorem zqy(l:List UInt8)(post:List Value)(i:Nat)(hi:i<l.length)(a:UInt8):(u8s l++post).set i (.int .u8 a.toNat)=u8s (l.set i a)++post:=by rw[List.set_append_left _ _ (by rw[zaa];exact hi),za5]
theorem zs4(l:List UInt8)(post:List Value)(i:Nat){a:UInt8}(ha:l[i]? = some a):(u8s l++post)[i]? = some (.int .u8 a.toNat):=by
 rw[ll9 (by rw[zaa];exact(gi9.1 ha).1),u8s_getElem?,ha]
 rfl
theorem zu2(g n c:Nat)(t:TypeId)(post:List Value)(x:List UInt8)(w:World)(hb:Blk w g t (u8s x++post))(hx:x.length=n)(hn:n≤140737488351232):
 Calls Tryz.prog 12 #[.slice (some ⟨g,0,none⟩) n c] w fun e w'=>e=.returned (.tuple #[])∧(∃y:List UInt8,y.length=n∧Blk w' g t (u8s y++post))∧Wrote g w w':=by
 have r:=qh hb;have HX:=qh hx;clear hb hx
 go_enter Tryz.func12, Tryz.ntmps12
 go_wp2_with fail
 go_loopg [2] n (fun k q wr=>∃i:Nat,i≤n∧k=n-i∧q=.int .i64 i∧(∃y:List UInt8,y.length=n∧Blk wr g t (u8s y++post))∧Wrote g w wr)
 case atStart=>exact⟨0,by omega,rfl,rfl,⟨x,HX.o,r.o⟩,Wrote.refl _ _⟩
 case round =>
  clear r HX;obtain⟨i,hi,A,rfl,⟨y,hy,hb⟩,hW⟩:=hrel;have J:=qh A;clear A
  by_cases hlt:i<n
  · have E:(i:Int)<(n:Int):=om
    obtain⟨u,hu⟩:∃u,y[i]? = some u:=⟨_,ge9 om⟩;have cu:=(hb.cell i).trans (zs4 y post i hu);have fu:=hb.frozen i;have D:=qh (hb.set_ i (.int .u8 (u ^^^ 90).toNat));rw[zqy y post i om]at D;have G:=qh (hW.setCell i (.int .u8 (u ^^^ 90).toNat));have M:Hid (bits BinOp.xor IntKind.u8 (u.toNat:Int) 90=(((u ^^^ 90).toNat:Nat):Int)):=zgw u 90;have I:Hid ((y.set i (u ^^^ 90)).length=n):=by show _=_;rw[List.length_set];exact hy
    have U:=hb.lt;clear hb hu hy
    go_wp2_with fail
    rw[M.o];go_roundg (n-(i+1))
    case measure=>have:=J.o;omega
    case rel=>exact⟨i+1,by omega,rfl,by go_num,⟨_,I.o,D.o⟩,G.o⟩
  · obtain rfl:i=n:=om
    have E:¬(i:Int)<(i:Int):=om
    go_wp2_with fail
    go_end0
    exact⟨rfl,⟨y,hy,hb⟩,hW⟩
structure Row where
 (A:Option Addr) (n c:Nat) (xs:List UInt8)
def Row.val(r:Row):Value:=.slice r.A r.n r.c
def RowsIn(w:World):Nat→List Row→Nat→Prop
 | lo,[],hi=>lo≤hi
 | lo,r :: l,hi=>∃m,w.ownsRow lo 5 1 r.val r.n (u8s r.xs)∧r.n≤140737488355000∧(∀g,r.val.ownBlock=some g→g<m)∧lo≤m∧RowsIn w m l hi
theorem RowsIn.at_{w:World}: ∀ {l:List Row} {lo hi:Nat},RowsIn w lo l hi→∀ {i:Nat} {r:Row},l[i]? = some r→w.ownsRow lo 5 1 r.val r.n (u8s r.xs)∧r.n≤140737488355000
 | [],_,_,_,_,_,h=>by simp at h
 | a :: l,lo,hi,⟨m,h1,h2,_,h4,h5⟩,0,r,h=>by simp at h;subst h;exact⟨h1,h2⟩
 | a :: l,lo,hi,⟨m,h1,h2,_,h4,h5⟩,i+1,r,h=>by
  obtain⟨h6,h7⟩:=RowsIn.at_ h5 (show l[i]? = some r by simpa using h);exact⟨zbi h6 h4,h7⟩
theorem RowsIn.ord{w:World}: ∀ {l:List Row} {lo hi:Nat},RowsIn w lo l hi→∀ {i j:Nat} {r s:Row} {g k:Nat},i<j→l[i]? = some r→l[j]? = some s→r.val.ownBlock=some g→s.val.ownBlock=some k→g<k
 | [],_,_,_,_,_,_,_,_,_,_,h,_,_,_=>by simp at h
 | a :: l,lo,hi,⟨m,h1,h2,h3,h4,h5⟩,i,0,r,s,g,k,hij,_,_,_,_=>absurd hij (Nat.not_lt_zero _)
 | a :: l,lo,hi,⟨m,h1,h2,h3,h4,h5⟩,0,j+1,r,s,g,k,_,hr,hs,hg,hk=>by
  simp at hr
  subst hr;have h6:=h3 g hg;have h7:=((RowsIn.at_ h5 (show l[j]? = some s by simpa using hs)).1.lt k hk).1;omega
 | a :: l,lo,hi,⟨m,h1,h2,h3,h4,h5⟩,i+1,j+1,r,s,g,k,hij,hr,hs,hg,hk=>RowsIn.ord h5 (Nat.lt_of_succ_lt_succ hij) (show l[i]? = some r by simpa using hr) (show l[j]? = some s by simpa using hs) hg hk
theorem RowsIn.below{w w':World}(h:Below w.heap.size w w'):∀ {l:List Row} {lo hi:Nat},RowsIn w lo l hi→RowsIn w' lo l hi
 | [],_,_,h5=>h5
 | _ :: _,_,_,⟨m,h1,h2,h3,h4,h5⟩=>⟨m,zas h1 h,h2,h3,h4,h5.below h⟩
theorem RowsIn.blk{w:World}{g lo hi n:Nat}{x:List UInt8}{l:List Row}(h:Blk w g 5 (u8s x))(hx:x.length=n)(hg:lo≤g)(hn:n≤140737488355000)(hl:RowsIn w (g+1) l hi):RowsIn w lo (⟨some ⟨g,0,none⟩,n,n,x⟩ :: l) hi:=by
 refine⟨g+1,?_,hn,fun k hk=>?_,by omega,hl⟩
 · have h5:=zbg h hg n n 1 lr (by rw[zaa,hx,Nat.mul_one]) om
   rwa [tk (by rw[zaa,hx];omega)]at h5
 · have:g=k:=by simpa[Row.val,Value.ownBlock] using hk
   omega
theorem RowsIn.row{w w1:World}{A:Option Addr}{lo s hi n c:Nat}{x:List UInt8}{l:List Row}(h:w1.ownsRow s 5 1 (.slice A n c) n (u8s x))(hb:Below w1.heap.size w1 w)(hs:lo≤s)(h1:s≤w1.heap.size)(hn:n≤140737488355000)(hl:RowsIn w w1.heap.size l hi):RowsIn w lo (⟨A,n,c,x⟩ :: l) hi :=
 ⟨w1.heap.size,zbi (zas h hb) hs,hn,fun k hk=>(h.lt k hk).2,by omega,hl⟩
theorem apartR{base:Nat}{w0 w:World}(hb:Below base w0 w)(hi:base≤w.heap.size)(l:List Row)(I:0<l.length)(hl:l.length≤100)(h:RowsIn w base l w.heap.size):
 Calls Tryz.prog 15 #[.slice (some ⟨w.heap.size,0,none⟩) l.length l.length] (w.alloc (.cells (l.map Row.val).toArray 22)) fun e w'=>e=.returned (.bool true)∧Below base w0 w':=by
 have hB:=(Below.refl w.heap.size w).alloc lr (.cells (l.map Row.val).toArray 22);have D:∀i,i<l.length→∃r,l[i]? = some r∧(l.map Row.val)[i]? = some r.val:=fun i hil=>⟨l[i],ge9 hil,by rw[List.getElem?_map,ge9 hil];rfl⟩
 have G:∀ {i:Nat} {r:Row},l[i]? = some r→((l[i]?.map Row.n).getD 0)=r.n:=fun h=>by rw[h];rfl
 obtain ⟨O,hst⟩:=ST.make (k:=l.length) (ns:=fun i=>(l[i]?.map Row.n).getD 0) (vs:=l.map Row.val) (hb.alloc hi (.cells (l.map Row.val).toArray 22)) (Nat.le_trans hi hB.size) (Blk.new w _ _)
   (fun i hil=>by
    obtain⟨r,hr,hv⟩:=D i hil;have h5:=(h.at_ hr).1
    show ∃A c xs,_=some (Value.slice A ((l[i]?.map Row.n).getD 0) c)∧_
    rw[G hr]
    exact⟨r.A,r.c,r.xs,hv,zas h5 hB,fun g hg=>by have:=(h5.lt g hg).2;omega⟩)
   (fun i j g A c A' c' hil hjl e e' hg hg'=>by
    obtain⟨r,hr,hv⟩:=D i hil;obtain⟨s,hs,J⟩:=D j hjl;rw[hv]at e;rw[J]at e'
    injection e with e
    injection e' with e'
    rw[←e]at hg;rw[←e']at hg'
    rcases Nat.lt_trichotomy i j with E|E|E
    · have:=h.ord E hr hs hg hg';omega
    · exact E
    · have:=h.ord E hs hr hg' hg;omega)
 exact ztp base w0 w.heap.size l.length l.length _ _ _ O hst (by rw[List.length_map]) hl I (fun i hil=>by
  obtain⟨r,hr,_⟩:=D i hil
  show(l[i]?.map Row.n).getD 0≤_
  rw[G hr]
  exact(h.at_ hr).2)
end Go.Proofs.YtadopcjppijgiaaGreat
namespace Go.Proofs.YtadopcjppijgiaaGreat.surbKeeps
open Go.RowKit
section
theorem ldq_pk(v:Value):Instr.loadAt 45 v=ldAt 45 v:=rfl
theorem ldq_ky(v:Value):Instr.loadAt 27 v=ldAt 27 v:=rfl
attribute [local go_sem ↓] zi7 zih zof znl ldq_pk ldq_ky
theorem blk0:blkCells (List.replicate 328 0)=z37:=by
 rw[blkCells,z37,List.drop_replicate,List.take_replicate,List.take_replicate,List.drop_replicate]
 rfl
theorem buildS2(own:List UInt8)(h1:own.length=32)(w:World):(Instr.build 37 [(1,(.agg (u8s own).toArray:Value))].toArray).run Tryz.prog w=.ok (.agg (soC (List.replicate 16 0) own none 0 0).toArray) w:=by
 have e0:(u8s own).length=32:=by rw[zaa,h1]
 refine zbt zvSo Tryz.underlying37 (plSo _ Tryz.underlying37) ?_ w
 show Instr.fill _ _ [(1,_)]=_
 rw[zat (cs:=u8s own) rfl (by rw[e0];rfl) (by rw[e0,zc0];omega)]
 have:splice zSo 16 (u8s own)=soC (List.replicate 16 0) own none 0 0:=by
  unfold splice zSo soC
  rw[List.take_left' (by simp[zaa]),e0,←List.drop_drop,List.drop_left' (by simp[zaa]),List.drop_left' (by simp[zaa])]
 rw[this]
 rfl
theorem ex_eqi{P:Program}{w:World}{a:Act}{o:Oper}{t t':TypeId}{x y:Operand}{k:IntKind}{p:Int}(ho:o.op=.binOp .eql t x y t')(hx:a.eval x=.int k p)(hy:a.eval y=.int k p):(execOp a.eval o).run P w=.ok (.value (.bool true)) w:=by
 unfold execOp
 simp[ho,hx,hy,eqGuard,binOp,Op.intCmp]
theorem makeW{P:Program}{A:Array Oper}{Q:Exit→Act→World→Prop}{md:Region.Mode}{T:World→Prop}{k fuel:Nat}{r:Array Bool}{a:Act}{w w':World}(i:Nat){oi:Oper}{v:Value}(hi:A[i]? = some oi)(hr:Region.ready md A r=[i])(hg:Region.wanted oi (yielded A a.tmps)=true)(hy:(execOp a.eval oi).run P w=.ok (.value v) w')
 (hT:(r.setIfInBounds i true).getD k true=false→T w') (h:AnyK P md A Q k T fuel (r.setIfInBounds i true) (a.put oi.dst v) w'):AnyK P md A Q k T (fuel+1) r a w:=by
 refine AnyK.oneW i hi hr hg ?_
 unfold Oper.wp
 rw[hy,Oper.upon_value];exact⟨hT,h⟩
theorem zjo{w:World}{g n:Nat}{l:List UInt8}(h:Blk w g 5 (u8s (l++spr n 40)))(hl:l.length=n):Rd w (some ⟨g,0,none⟩) n (u8s l):=by
 have h5:=h.rd 0 n (by rw[zaa,la9,zda,hl];omega);rw[List.drop_zero,zay,List.take_left' hl]at h5;exact h5
theorem zg6{w:World}{g n:Nat}{l:List UInt8}(h:Blk w g 5 (u8s (l++spr n 40)))(hl:l.length=n):Rd w (some ⟨g,0,none⟩) (n+40) (u8s (l++spr n 40)):=by
 have h5:=h.rdAll
 rwa [la9,zda,hl]at h5
theorem walk0(A B H:Option Addr)(na ca nb cb n c nm:Nat)(xs bs ms:List UInt8)(hs:List Ho)(w:World)(E:Nat)(l:List UInt8)(SO:Option Addr→Nat→List Value)(PR:Nat→World→Option Addr→Prop)
 (hx:Rd w A na (u8s xs)) (hna:na≤140737488351232) (hb:Rd w B nm (u8s ms)) (hm:nm≤450) (hnm:450<nb∧nm=450∨nb≤450∧nm=nb) (hcb:nb≤cb) (hl:l.length=328)
 (hSL:∀B d,(SO B d).length=49) (hS1:∀B d,∀v∈SO B d,v.oneCell'=true)
 (hPR:∀lo W W' B,PR lo W B→Below W.heap.size W W'→PR lo W' B) (hPW:∀lo g W W' B,PR lo W B→g<lo→Wrote g W W'→PR lo W' B)
 (hHO:∀W,Below w.heap.size w W→Calls Tryz.prog 7 #[.slice H n c] W fun e w'=>∃A' c',e=.returned (.slice A' n c')∧RdS 68 w' A' n (hs.flatMap Ho.cells)∧Below W.heap.size W w')
 (hMK:∀W A1 c1 H1 e1,Rd W A1 na (u8s xs)→na≤c1→RdS 68 W H1 n (hs.flatMap Ho.cells)→Calls Tryz.prog 6 #[.slice A1 na c1,.slice H1 n e1] W fun e w'=>∃B d,e=.returned (.tuple #[.agg (blkCells l).toArray,.agg (SO B d).toArray,.int .i64 (E:Int)])∧PR W.heap.size w' B∧Below W.heap.size W w')
 (hRM:∀W,Below w.heap.size w W→Calls Tryz.prog 13 #[.slice A na ca,.slice H n c] W fun e w'=>∃A' n' c' B d,e=.returned (.tuple #[.slice A' n' c',.agg (SO B d).toArray,.int .i64 (E:Int)])∧PR 0 w' B∧Below W.heap.size W w')
 (hSM:∀lo lo' W B d B' d',PR lo W B→PR lo' W B'→Calls Tryz.prog 14 #[.agg (SO B d).toArray,.agg (SO B' d').toArray] W fun e w'=>e=.returned (.bool true)∧Below W.heap.size W w'):
 Calls Tryz.prog 3 #[.slice A na ca,.slice B nb cb,.slice H n c] w fun e w'=>e=.returned (.bool true)∧Below w.heap.size w w':=by
 have a3:Hid (ms.length=nm):=hb.len;have i0:Hid (xs.length=na):=hx.len;have HX:=qh hx;have k5:=qh hb;have A5:=qh hHO;have q0:=qh hMK;have x8:=qh hRM;have x0:=qh hSM;have a0:=qh hPR;have z0:=qh hPW;have m1:=qh hS1;have e5:Hid (∀B d,(Tryz.prog.info? 37).map (·.size)=some (SO B d).length):=fun B d=>by rw[hSL];exact hdSo
 have r7:Hid (∀B d,(SO B d).length=zSo.length):=fun B d=>by rw[hSL,zc0]
 have e6:Hid ((Tryz.prog.info? 34).map (·.size)=some (blkCells l).length):=by show _=_;rw[zbe l hl];exact hd37
 have v6:Hid ((blkCells l).length=z37.length):=by show _=_;rw[zbe l hl,zdq]
 have m3:=qh (zcz l);have e8:=qh (zgb l hl);have j8:Hid (∀W A1 c1,Rd W A1 nm (u8s ms)→Calls Tryz.prog 8 #[.agg (blkCells l).toArray,.slice A1 nm c1] W fun e w'=>e=.returned (.tuple #[.agg (u8s (replyOf l ms)).toArray,.int .i64 0])∧Below W.heap.size W w'):=fun W A1 c1 h=>zw6 l ms A1 nm c1 W hl h hm
 have j1:Hid (∀W,Calls Tryz.prog 16 #[.agg (blkCells l).toArray] W fun e w'=>∃A' c',e=.returned (.slice A' 328 c')∧328≤c'∧w'.ownsRow W.heap.size 5 1 (.slice A' 328 c') 328 (u8s l)∧Below W.heap.size W w'):=fun W=>ziq l W hl
 have c0:(l.drop 296).length=32:=by rw[List.length_drop,hl]
 have n6:((l.drop 8).take 288).length=288:=by rw[List.length_take,List.length_drop,hl];rfl
 have i7:Hid ((replyOf l ms).length=768):=zhb l ms hl (by rw[a3.o];exact hm);obtain⟨X,hX⟩:=ex9 (Wd.seal_ (l.drop 296) (ansF ms));have o9:(ansF ms).length=480:=zwa ms (by rw[a3.o];exact hm);have f0:Hid (X.length=480):=by show _=_;rw[hX,Wd.seal_len _ _ om,o9]
 have m0:Hid ((u8s (replyOf l ms)).drop 288=u8s X):=by show _=_;rw[za9,replyOf,List.drop_left' n6,hX];rfl
 obtain⟨ky,l6⟩:=ex9 (l.drop 296);rw[←l6]at e8 c0 hX
 have i1:Hid (∀W D d,Rd W D 480 (u8s X)→480≤d→Calls Tryz.prog 9 #[.agg (soC (List.replicate 16 0) ky none 0 0).toArray,.slice D 480 d] W fun e w'=>∃g,e=.returned (.tuple #[.slice (some ⟨g,0,none⟩) nm nm,.int .i64 0])∧W.heap.size≤g∧Blk w' g 5 (u8s ms)∧Below W.heap.size W w'):=fun W D d h1 h2=>by
  have h5:=zv2 ky X ms D d W c0 h1 h2 (by rw[hX];exact zkz _ _ om) (by rw[a3.o];exact hm);rw[a3.o]at h5;exact h5
 have r6:=qh c0;have k7:=qh (fun W=>buildS2 ky c0 W);have l2:Hid ((Tryz.prog.info? 27).map (·.size)=some (u8s ky).length):=by show _=_;rw[zaa,c0];exact hd32
 obtain⟨KC,l8⟩:=ex9 (blkCells l);rw[←l8]at q0 e6 v6 m3 e8 j8 j1;obtain⟨SZ,m8⟩:=ex9 (soC (List.replicate 16 0) ky none 0 0);rw[←m8]at i1 k7;obtain⟨R,hR⟩:=ex9 (u8s (replyOf l ms));have z5:Hid ((Tryz.prog.info? 45).map (·.size)=some R.length):=by show _=_;rw[hR,zaa,i7.o];exact hd76
 have z1:Hid (∀v∈R,v.oneCell'=true):=by rw[hR];exact zac _
 have s9:Hid (R.length=768):=by show _=_;rw[hR,zaa,i7.o]
 rw[←hR]at j8 m0;obtain⟨Z,HZ,z3⟩:∃Z:List Value,Hid (Tryz.zeroCells45 = Z.toArray)∧Hid (Z.length=768):=⟨u8s (List.replicate 768 0),zc76,by show(u8s _).length=_;rw[zaa];exact lp9⟩;have x6:Hid (R.length=Z.length):=by show _=_;rw[s9.o,z3.o]
 clear hx hb hl hSL hS1 hPR hPW hHO hMK hRM hSM c0 n6 hX o9 l6 l8 m8 hR i7
 go_enter Tryz.func3, Tryz.ntmps3
 go_upto_region 3 with (go_at_call 4;refine(awake16 _).mono ?_;rintro e w1 ⟨rfl,l9⟩;have k1:=qh l9;clear l9)
 have b6:(450:Int)<(nb:Int)∨¬(450:Int)<(nb:Int):=om;have e7:=qh hnm;clear hnm
 go_cut [30] (fun v wx=>v=.bool (decide ((450:Int)<(nb:Int)))∧w1=wx)
 case first =>
  go_wp2
  go_meet
  exact⟨rfl,rfl⟩
 case rest =>
 obtain⟨rfl,rfl⟩:=hcut
 go_step
 go_cut [1] (fun v wx=>v=.slice B nm cb∧w1=wx)
 case first =>
  rcases b6 with b6|b6
  · rw[decide_eq_true b6]
    go_wp2
    go_meet
    obtain rfl:nm=450:=by have:=e7.o;omega
    exact⟨rfl,rfl⟩
  · rw[decide_eq_false b6]
    go_wp2
    go_meet
    obtain rfl:nm=nb:=by have:=e7.o;omega
    exact⟨rfl,rfl⟩
 case rest =>
 obtain⟨rfl,rfl⟩:=hcut;have C2:nm≤cb:=by have:=e7.o;omega
 clear e7 b6
 go_upto_region 13 with (first
  | (go_at_call 5;(with_reducible refine(zg5 (some ⟨w8.heap.size,288,none⟩) 480 480 X w9 (by exact g7.o) om).mono ?_);rintro e e9 ⟨rfl,d8,Y⟩;have r5:=qtr y8 Y;have j9:=qbl l7 Y;have i3:=qbl t9 Y;have g4:=qbl z6 Y;have l1:=qbl t8 Y;have k8:=qh (g7.o.below Y);have r1:=qh (a0.o _ _ _ _ v9.o Y);have e2:=qh d8;have d6:Hid (Rd e9 (some ⟨w9.heap.size,0,none⟩) 480 (u8s X)):=zjo d8 f0.o;have n5:=zal g4.o 27 289 (u8s ky) (by rw[zaa,r6.o];exact e8.o) _ Tryz.underlying27 rfl l2.o;have B3:Hid (w3.heap.size≤w9.heap.size):=y0.o;clear d8 Y)
  | (go_at_call 5;(with_reducible refine(zg5 B nm cb ms w2 (by exact k5.o.below t6.o) om).mono ?_);rintro e w3 ⟨rfl,p5,i5⟩;have f9:=qh p5;have v1:=qbl g5 i5;have r2:=qtr t6 i5;clear p5 i5)
  | (go_at_call 5;(with_reducible refine(zg5 A na ca xs w1 (by exact HX.o.below k1.o) hna).mono ?_);rintro e w2 ⟨rfl,p1,o7⟩;have g5:=qh p1;have t6:=qtr k1 o7;clear p1 o7)
  | (go_at_call 7;(refine(A5.o _ (by exact r2.o)).mono ?_);rintro e w4 ⟨A4,c4,rfl,s4,d3⟩;have z9:=qtr r2 d3;have B2:=qh s4;have f5:=qbl v1 d3;have m6:=qbl f9 d3;have y6:=qh (zjo f5.o i0.o);have p3:Hid (w3.heap.size≤w4.heap.size):=d3.size;clear d3 s4)
  | (go_at_call 6;(refine(q0.o _ _ _ _ _ (by exact y6.o) om (by exact B2.o)).mono ?_);rintro e w5 ⟨B5,d5,rfl,s8,b7⟩;have z7:=qtr z9 b7;have m4:=qbl f5 b7;have l3:=qbl m6 b7;have A0:=qh s8;have p7:Hid (w4.heap.size≤w5.heap.size):=b7.size;have y7:Hid (w3.heap.size≤w5.heap.size):=Nat.le_trans p3.o b7.size;clear b7 s8)
  | (refine zab rfl 34 (.tmp 11) (.tmp 48) rfl w5.heap.size KC rr rr 34 z37 (by exact(Blk.new' rfl zc37).alloc _) e6.o m3.o v6.o ?_;intro w6 q6 j4;have p8:Below w5.heap.size w5 w6:=j4.below (((Below.refl _ w5).alloc lr _).alloc sy _) lr (by simp;omega);have A8:=qh q6;have B0:Hid (Blk w6 (w5.heap.size+1) 37 zSo):=j4.blk (Blk.new' sy rfl) om;have m7:=qh p8;clear q6 j4 p8)
  | (refine zab rfl 37 (.tmp 12) (.tmp 49) rfl (w5.heap.size+1) (SO B5 d5) rr rr 37 zSo (by exact B0.o) (e5.o B5 d5) (m1.o B5 d5) (r7.o B5 d5) ?_;intro w7 v2 i9;have b4:=i9.below m7.o om m7.o.size;have s7:=qh (i9.blk A8.o om);have B1:=qh v2;have z8:=qtr z7 b4;have m2:=qbl m4 b4;have g6:=qbl l3 b4;have x5:=qh (a0.o _ _ _ _ A0.o b4);have x7:=qh (zjo g6.o a3.o);have x1:=zal s7.o 34 0 KC (by rw[List.drop_zero,List.take_length]) _ Tryz.underlying34 rfl e6.o;have z2:Hid (w3.heap.size≤w7.heap.size):=Nat.le_trans y7.o b4.size;clear v2 i9 b4)
  | (go_at_call 8;(refine(j8.o _ _ _ (by exact x7.o)).mono ?_);rintro e w8 ⟨rfl,b3⟩;have x9:=qtr z8 b3;have n3:=qbl m2 b3;have n2:=qbl g6 b3;have z4:=qbl s7 b3;have A6:=qbl B1 b3;have x2:=qh (a0.o _ _ _ _ x5.o b3);have x3:Hid (w3.heap.size≤w8.heap.size):=Nat.le_trans z2.o b3.size;clear b3)
  | (refine zab rfl 45 (.tmp 14) (.tmp 55) rfl w8.heap.size R rr rr 45 Z (by exact Blk.new' rfl HZ.o) z5.o z1.o x6.o ?_;intro w9 o1 s0;have b2:Below w8.heap.size w8 w9:=s0.below ((Below.refl _ w8).alloc lr _) lr sy;have y8:=qtr x9 b2;have l7:=qbl n3 b2;have t9:=qbl n2 b2;have z6:=qbl z4 b2;have t8:=qbl A6 b2;have v9:=qh (a0.o _ _ _ _ x2.o b2);have g7:Hid (Rd w9 (some ⟨w8.heap.size,288,none⟩) 480 (u8s X)):=(by have h5:=o1.rd 288 480 (by rw[s9.o];omega);rw[m0.o,tk (by rw[zaa,f0.o];omega)]at h5;exact h5);have y0:Hid (w3.heap.size≤w9.heap.size):=Nat.le_trans x3.o b2.size;clear o1 s0 b2)
  | refine zai rfl 37 [(1,.tmp 66)] rfl _ rr (.agg SZ.toArray) (k7.o _) ?_
  | refine zai rfl 37 [(1,.tmp 74)] rfl _ rr (.agg SZ.toArray) (k7.o _) ?_
  | (go_at_call 9;(have hz:=g8;clear hz);(with_reducible refine(i1.o _ _ _ (by exact j5.o) om).mono ?_);rintro e J ⟨g2,rfl,t4,g0,V⟩;have a4:=qtr t2 V;have a6:=qbl k2 V;have a5:=qbl i4 V;have a9:=qbl k0 V;have c8:=qbl f2 V;have d4:=qbl s6 V;have d0:=qh (j0.o.below V);have h3:=qh (a0.o _ _ _ _ p0.o V);have b1:=qbl c6 V;have a2:=qh g0;have v0:Hid (j6.heap.size≤g2):=t4;clear g0 V t4)
  | (go_at_call 9;(with_reducible refine(i1.o _ _ _ (by exact d6.o) om).mono ?_);rintro e j6 ⟨g1,rfl,o3,f3,M⟩;have t2:=qtr r5 M;have k2:=qbl j9 M;have i4:=qbl i3 M;have k0:=qbl e2 M;have f2:=qbl g4 M;have s6:=qbl l1 M;have j0:=qh (k8.o.below M);have p0:=qh (a0.o _ _ _ _ r1.o M);have j5:=qh (d6.o.below M);have c6:=qh f3;have g8:=zal f2.o 27 289 (u8s ky) (by rw[zaa,r6.o];exact e8.o) _ Tryz.underlying27 rfl l2.o;have v8:Hid (e9.heap.size≤g1):=o3;clear f3 M o3))
 have o2:=qh (zkc (some ⟨w1.heap.size,0,none⟩) A na (na+40) ca xs J (zg6 a6.o i0.o) (HX.o.below a4.o) hna);have v3:Hid (∀q,Calls Tryz.prog 10 #[.slice (some ⟨w2.heap.size,0,none⟩) (nm+40) (nm+40),.slice B nm cb] (J.drewN q) fun e w'=>e=.returned (.bool true)∧∃q2,w'=(J.drewN q).drewN q2):=fun q=>zkc _ B nm (nm+40) cb ms (J.drewN q) ((zg6 a5.o a3.o).drewN q) ((k5.o.below a4.o).drewN q) om
 have n0:Hid (∀q,Calls Tryz.prog 10 #[.slice (some ⟨w9.heap.size,0,none⟩) 520 520,.slice (some ⟨w8.heap.size,288,none⟩) 480 480] (J.drewN q) fun e w'=>e=.returned (.bool true)∧∃q2,w'=(J.drewN q).drewN q2):=fun q=>zkc _ _ 480 520 480 X (J.drewN q) ((zg6 a9.o f0.o).drewN q) (d0.o.drewN q) om
 have l0:Hid (∀g q,Blk J g 5 (u8s ms)→Calls Tryz.prog 11 #[.slice (some ⟨g,0,none⟩) nm nm,.slice B nm cb] (J.drewN q) fun e w'=>e=.returned (.bool true)∧∃q2,w'=(J.drewN q).drewN q2):=fun g q h=>by
  have h5:Rd J (some ⟨g,0,none⟩) nm (u8s ms):=by have h6:=h.rdAll;rwa [a3.o]at h6
  have h7:=zly (some ⟨g,0,none⟩) B nm nm nm cb ms ms (J.drewN q) (h5.drewN q) ((k5.o.below a4.o).drewN q) om om
  rwa [decide_eq_true rfl]at h7
 clear x1 n5 g8
 go_upto_region 15 with (first
  | (go_at_call 10;(with_reducible refine(n0.o _).mono ?_);rintro e B8 ⟨rfl,q3,rfl⟩)
  | (go_at_call 10;(with_reducible refine(v3.o _).mono ?_);rintro e C3 ⟨rfl,q2,rfl⟩)
  | (go_at_call 10;(with_reducible refine o2.o.mono ?_);rintro e B7 ⟨rfl,q1,rfl⟩)
  | (go_at_call 11;(with_reducible refine(l0.o g2 _ a2.o).mono ?_);rintro e B4 ⟨rfl,q5,rfl⟩)
  | (go_at_call 11;(with_reducible refine(l0.o g1 _ b1.o).mono ?_);rintro e B6 ⟨rfl,q4,rfl⟩))
 obtain⟨wx,j7⟩:=ex9 (J.drewN (q1+q2+q3+q4+q5));rw[←j7];have a1:Hid (Below J.heap.size J wx):=by rw[j7];exact below_drewN (Below.refl _ J) _
 have r4:=qh (a4.o.trans (a1.o.mono a4.o.size));have p6:Hid (w.heap.size≤w1.heap.size∧w1.heap.size<w2.heap.size∧w2.heap.size<w3.heap.size∧w3.heap.size≤w4.heap.size∧w4.heap.size≤w5.heap.size∧w5.heap.size+1<w9.heap.size∧w9.heap.size<e9.heap.size∧e9.heap.size≤g1∧g1<j6.heap.size∧j6.heap.size≤g2∧g2<wx.heap.size):=⟨k1.o.size,g5.o.lt,f9.o.lt,p3.o,p7.o,t8.o.lt,e2.o.lt,v8.o,c6.o.lt,v0.o,Nat.lt_of_lt_of_le a2.o.lt a1.o.size⟩;have t7:=qh (a6.o.below a1.o a6.o.lt);have r0:=qh (a5.o.below a1.o a5.o.lt);have p4:=qh (a9.o.below a1.o a9.o.lt);have n4:=qh (c8.o.below a1.o c8.o.lt);have t5:=qh (d4.o.below a1.o d4.o.lt);have s5:=qh (b1.o.below a1.o b1.o.lt);have o5:=qh (a2.o.below a1.o a2.o.lt);have x4:=qh (a0.o _ _ _ _ h3.o a1.o);clear j7 o2 v3 n0 l0 a1 a4 a6 a5 a9 c8 d4 b1 a2 h3 d0;have y5:=qh (zu2 w1.heap.size na (na+40) 5 (u8s (spr na 40)) xs wx (by rw[←zae];exact t7.o) i0.o hna)
 go_upto_region 17 with (first
  | (go_at_call 12;(with_reducible refine y5.o.mono ?_);rintro e r8 ⟨rfl,⟨y,hy,h8⟩,U⟩;have hO:=p6.o;have y9:=qh hy;have f8:=qh (U.below r4.o hO.1 r4.o.size);have i6:Hid (Blk r8 w1.heap.size 5 (u8s (y++spr na 40))):=(by show Blk _ _ _ _;rw[zae];exact h8);have k4:=qh (r0.o.wrote U om);have j3:=qh (p4.o.wrote U om);have t1:=qh (n4.o.wrote U om);have n1:=qh (t5.o.wrote U om);have k6:=qh (s5.o.wrote U om);have j2:=qh (o5.o.wrote U om);have n9:=qh (z0.o _ _ _ _ _ x4.o om U);have r3:Hid (wx.heap.size≤r8.heap.size):=U.size;clear hO hy h8 U)
  | (go_at_call 13;(refine(x8.o _ (by exact f8.o)).mono ?_);rintro e b9 ⟨C1,B9,C4,a8,a7,rfl,f4,I⟩;have r9:=qtr f8 I;have i2:=qbl i6 I;have i8:=qbl k4 I;have k3:=qbl j3 I;have t3:=qbl t1 I;have v5:=qbl n1 I;have h9:=qbl k6 I;have k9:=qbl j2 I;have p9:=qh (a0.o _ _ _ _ n9.o I);have m9:=qh f4;have v7:Hid (wx.heap.size≤b9.heap.size):=Nat.le_trans r3.o I.size;clear f4 I)
  | (refine zab rfl 37 (.tmp 24) (.tmp 119) rfl b9.heap.size (SO a8 a7) rr rr 37 zSo (by exact Blk.new' rfl rfl) (e5.o a8 a7) (m1.o a8 a7) (r7.o a8 a7) ?_;intro r h0 f7;have G:Below b9.heap.size b9 r:=f7.below ((Below.refl _ b9).alloc lr _) lr sy;have f6:=qtr r9 G;have d7:=qbl i2 G;have e3:=qbl i8 G;have c7:=qbl k3 G;have g9:=qbl t3 G;have h4:=qbl v5 G;have e4:=qbl h9 G;have d9:=qbl k9 G;have g3:=qh h0;have o0:=qh (a0.o _ _ _ _ p9.o G);have o4:=qh (a0.o _ _ _ _ m9.o G);have l5:Hid (wx.heap.size≤r.heap.size):=Nat.le_trans v7.o G.size;clear h0 f7 G))
 have b5:Hid (Below r.heap.size r { r with drawn:=r.drawn+1 }):=(Below.refl _ r).drew;have LS:Hid (∀W,Below r.heap.size r W→(ldAt 37 (.pointer (some ⟨w5.heap.size+1,0,none⟩))).run Tryz.prog W=.ok (.agg (SO B5 d5).toArray) W):=fun W h=>zal (h4.o.below h h4.o.lt) 37 0 (SO B5 d5) (by rw[List.drop_zero,List.take_length]) _ Tryz.underlying37 rfl (e5.o B5 d5)
 have LW:Hid (∀W,Below r.heap.size r W→(ldAt 37 (.pointer (some ⟨b9.heap.size,0,none⟩))).run Tryz.prog W=.ok (.agg (SO a8 a7).toArray) W):=fun W h=>zal (g3.o.below h g3.o.lt) 37 0 (SO a8 a7) (by rw[List.drop_zero,List.take_length]) _ Tryz.underlying37 rfl (e5.o a8 a7)
 have LK:Hid (∀W,Below r.heap.size r W→(ldAt 34 (.pointer (some ⟨w5.heap.size,0,none⟩))).run Tryz.prog W=.ok (.agg KC.toArray) W):=fun W h=>zal (g9.o.below h g9.o.lt) 34 0 KC (by rw[List.drop_zero,List.take_length]) _ Tryz.underlying34 rfl e6.o
 refine kgo kr 6 (fun W=>Below r.heap.size r W) b5.o (fun _ _ _ _ _ h=>h) ?_;refine kp 0 (.int .i64 (E:Int)) rfl kr (fun _=>kr) ?_;refine kp 1 (.int .i64 (E:Int)) rfl kr (fun _=>kr) ?_;refine kp 2 (.bool true) rfl kr (fun _=>ex_eqi (k:=.i64) (p:=(E:Int)) rfl kr kr) ?_;refine kp 3 (.bool true) rfl kr (fun _=>kr) ?_;intro q8 q9;clear q8 q9;refine AnyK.loadW 4 (v:=.agg (SO B5 d5).toArray) rfl kr kr kr (fun _ _ _ h=>h) kr (fun w' hw'=>zdp rfl kr (LS.o w' hw')) b5.o ?_;refine AnyK.loadW 5 (v:=.agg (SO a8 a7).toArray) rfl kr kr kr (fun _ _ _ h=>h) kr (fun w' hw'=>zdp rfl kr (LW.o w' hw')) b5.o ?_;refine AnyK.enterW 6 (d:=some 127) (f:=14) (args:=#[.agg (SO B5 d5).toArray,.agg (SO a8 a7).toArray]) rfl rfl kr kr kr ((x0.o _ _ _ _ _ _ _ (a0.o _ _ _ _ o0.o b5.o) (a0.o _ _ _ _ o4.o b5.o)).mono ?_);rintro e y1 ⟨rfl,o6⟩;have T1:Below r.heap.size r y1:=b5.o.trans o6;refine⟨_,rfl,fun _=>T1,?_⟩;refine AnyK.val 7 (v:=.bool true) rr kr rfl kr (fun _=>T1) ?_;refine AnyK.val 8 (v:=.bool true) rr kr rfl kr (fun _=>T1) ?_;refine AnyK.turn (k':=17) (T':=fun W=>Below r.heap.size r W) _ _ _ _ kr ?_;refine AnyK.pureW 9 (v:=.slice (some ⟨w1.heap.size,0,none⟩) (na+40) (na+40)) rfl kr (fun _ _ _ h=>h) kr (fun _=>kr) (fun _=>T1) ?_;refine AnyK.pureW 10 (v:=.slice (some ⟨w2.heap.size,0,none⟩) (nm+40) (nm+40)) rfl kr (fun _ _ _ h=>h) kr (fun _=>kr) (fun _=>T1) ?_;refine AnyK.pureW 11 (v:=.slice (some ⟨w9.heap.size,0,none⟩) 520 520) rfl kr (fun _ _ _ h=>h) kr (fun _=>kr) (fun _=>T1) ?_;refine AnyK.pureW 12 (v:=.slice (some ⟨g1,0,none⟩) nm nm) rfl kr (fun _ _ _ h=>h) kr (fun _=>kr) (fun _=>T1) ?_;refine AnyK.pureW 13 (v:=.slice (some ⟨g2,0,none⟩) nm nm) rfl kr (fun _ _ _ h=>h) kr (fun _=>kr) (fun _=>T1) ?_;refine AnyK.loadW 16 (v:=.agg KC.toArray) rfl kr kr kr (fun _ _ _ h=>h) kr (fun w' hw'=>zdp rfl kr (LK.o w' hw')) T1 ?_;refine AnyK.valW 14 (v:=.agg KC.toArray) rfl kr kr (zdp rfl kr (LK.o _ T1)) (fun _=>T1) ?_;refine AnyK.enterW 15 (d:=some 136) (f:=16) (args:=#[.agg KC.toArray]) rfl rfl kr kr kr ((j1.o _).mono ?_);rintro e y2 ⟨A2,c2,rfl,_,c5,f1⟩;have T2:Below r.heap.size r y2:=T1.trans (f1.mono T1.size);refine⟨_,rfl,fun _=>T2,?_⟩;refine AnyK.enterW 17 (d:=some 138) (f:=16) (args:=#[.agg KC.toArray]) rfl rfl kr kr kr ((j1.o _).mono ?_);rintro e y3 ⟨A3,c3,rfl,_,c9,e0⟩;have T3:Below r.heap.size r y3:=T2.trans (e0.mono T2.size);refine⟨_,rfl,fun _=>T3,?_⟩;refine makeW 18 (v:=.slice (some ⟨y3.heap.size,0,none⟩) 7 7) (w':=y3.alloc (.cells #[.slice (some ⟨w1.heap.size,0,none⟩) (na+40) (na+40),.slice (some ⟨w2.heap.size,0,none⟩) (nm+40) (nm+40),.slice (some ⟨w9.heap.size,0,none⟩) 520 520,.slice (some ⟨g1,0,none⟩) nm nm,.slice (some ⟨g2,0,none⟩) nm nm,.slice A2 328 c2,.slice A3 328 c3] 22)) rfl kr kr kr (fun _=>T3.alloc T3.size _) ?_
 have q7:Calls Tryz.prog 15 #[.slice (some ⟨y3.heap.size,0,none⟩) 7 7] (y3.alloc (.cells #[.slice (some ⟨w1.heap.size,0,none⟩) (na+40) (na+40),.slice (some ⟨w2.heap.size,0,none⟩) (nm+40) (nm+40),.slice (some ⟨w9.heap.size,0,none⟩) 520 520,.slice (some ⟨g1,0,none⟩) nm nm,.slice (some ⟨g2,0,none⟩) nm nm,.slice A2 328 c2,.slice A3 328 c3] 22)) fun e w'=>e=.returned (.bool true)∧Below w.heap.size w w':=by
  have hO:=p6.o;have C0:=l5.o;have s1:=T1.size;have s2:=f1.size;have s3:=e0.size;have m5:=f6.o.trans (T3.mono f6.o.size);have A7:=y9.o
  exact apartR m5 m5.size [⟨some ⟨w1.heap.size,0,none⟩,na+40,na+40,y++spr na 40⟩,⟨some ⟨w2.heap.size,0,none⟩,nm+40,nm+40,ms++spr nm 40⟩,⟨some ⟨w9.heap.size,0,none⟩,520,520,X++spr 480 40⟩,⟨some ⟨g1,0,none⟩,nm,nm,ms⟩,⟨some ⟨g2,0,none⟩,nm,nm,ms⟩,⟨A2,328,c2,l⟩,⟨A3,328,c3,l⟩] sy sy
    (.blk (d7.o.below T3 d7.o.lt) (by rw[la9,zda,A7]) hO.1 om
      (.blk (e3.o.below T3 e3.o.lt) (by rw[la9,zda,a3.o]) om om
        (.blk (c7.o.below T3 c7.o.lt) (by rw[la9,zda,f0.o]) om om
          (.blk (e4.o.below T3 e4.o.lt) a3.o om om
            (.blk (d9.o.below T3 d9.o.lt) a3.o om om
              (.row c5 e0 om f1.size om
                (.row c9 (Below.refl _ _) om e0.size om lr)))))))
 refine AnyK.enterW 19 (d:=some 140) (f:=15) rfl rfl kr kr kr (q7.mono ?_);rintro e y4 ⟨rfl,n7⟩;refine⟨_,rfl,fun h=>(by cases h),?_⟩;refine AnyK.valW 20 (v:=.bool true) rfl kr kr kr (fun h=>(by cases h)) ?_;refine AnyK.val 21 (v:=.bool true) rr kr rfl kr (fun h=>(by cases h)) ?_;refine AnyK.done kr ?_;have A9:=qh n7;clear q7 n7 T1 T2 T3 c5 c9 o6 f1 e0;simp only[List.getElem_toArray,List.getElem_cons_zero,List.getElem_cons_succ,Act.put,List.setIfInBounds_toArray,List.set_cons_succ,List.set_cons_zero];go_wp2;go_ret;exact⟨rfl,A9.o⟩
end
theorem flat_u8s:∀l:List (List UInt8),u8s l.flatten=l.flatMap u8s
 | []=>rfl
 | a :: l=>by rw[List.flatten_cons,zae,flat_u8s l,List.flatMap_cons]
theorem zom:∀l:List (List UInt8),(∀x∈l,x.length=32)→(l.flatMap u8s).length=l.length*32
 | [],_=>rfl
 | a :: l,h=>by rw[List.flatMap_cons,la9,zaa,h a sy,zom l (fun x hx=>h x (by simp[hx])),List.length_cons];omega
theorem zqw{xs:List UInt8}{hs:List Ho}(h:scE (xs.take 32) hs=0):(smPays xs hs).length=hs.length∧∀x∈smPays xs hs,x.length=32:=by
 obtain⟨_,h7,h8⟩:=zip h;refine⟨by rw[smPays,List.length_map,h7],fun x hx=>?_⟩;obtain⟨s,r,rfl⟩:=List.mem_map.1 hx;exact(h8 s r).2.2.1
theorem smE_0{xs:List UInt8}{hs:List Ho}(h:smE xs hs=0):sm3 xs hs=0∧scE (xs.take 32) hs=0:=by
 unfold smE at h
 split at h
 · rename_i h2;exact absurd h h2
 · rename_i h2;exact⟨by simpa using h2,h⟩
theorem zxf{xs:List UInt8}{hs:List Ho}(A:∀s∈hs,s.ok)(h:smE xs hs=0):(smL xs hs).length=328:=by
 obtain⟨h3,G⟩:=smE_0 h;obtain⟨r,U,V,E,_⟩:=sm3_0 h3;obtain⟨_,M,D⟩:=zip G;have I:(smH xs hs).length=288:=zfy (cs:=pathL (smLast xs) hs) (ss:=scL (xs.take 32) hs) (n:=hs.length) (zff (zdb xs) A U) D (zcx _ _) M E _ lr;have J:(smOwn xs).length=32:=by rw[smOwn,if_pos r,List.length_take,List.length_drop,r];rfl
 rw[smL,la9,la9,Sh.beBytes_len,I,J]
theorem zrs{sz lo g n:Nat}{w w':World}{A:Option Addr}{xs:List Value}(h:RdS sz w A n xs)(hw:Wrote g w w')(hb:∀ad:Addr,A=some ad→lo≤ad.block)(hg:g<lo):RdS sz w' A n xs :=
 ⟨h.1,fun hn=>by
  obtain⟨b,D,rfl,r,hc⟩:=h.2 hn
  exact⟨b,D,rfl,Nat.lt_of_lt_of_le r hw.size,fun j u hu=>(World.grownBy.cell_far hw ⟨b,D+j,none⟩ r (fun e=>by injection e with e;have h5:lo≤b:=hb _ rfl;have h6:b=g:=e;omega)).trans (hc j u hu)⟩⟩
theorem cut450{w:World}{B:Option Addr}{nb:Nat}{bs:List UInt8}(h:Rd w B nb (u8s bs)):∃nm,Rd w B nm (u8s (bs.take 450))∧nm≤450∧(450<nb∧nm=450∨nb≤450∧nm=nb):=by
 have hl:bs.length=nb:=h.len
 rcases Nat.lt_or_ge 450 nb with A|r
 · obtain⟨b,o,rfl,_,_⟩:=h.2 om
   have h5:=zju h 0 450 om;rw[List.drop_zero]at h5;exact⟨450,h5,lr,.inl ⟨A,rfl⟩⟩
 · exact⟨nb,by rw[tk om];exact h,r,.inr ⟨r,rfl⟩⟩
theorem walk(A B H:Option Addr)(na ca nb cb n c:Nat)(xs bs:List UInt8)(hs:List Ho)(w:World)(hx:Rd w A na (u8s xs))(G:na≤140737488351232)(hb:Rd w B nb (u8s bs))(I:nb≤cb)(hh:RdS 68 w H n (hs.flatMap Ho.cells))(r:∀s∈hs,s.ok)(hl:hs.length=n)(hn:n*104≤140737488351232):
 Calls Tryz.prog 3 #[.slice A na ca,.slice B nb cb,.slice H n c] w fun e w'=>e=.returned (.bool true)∧Below w.heap.size w w':=by
 obtain⟨nm,M,hm,a0⟩:=cut450 hb;have X:∀W,Below w.heap.size w W→Calls Tryz.prog 7 #[.slice H n c] W fun e w'=>∃A' c',e=.returned (.slice A' n c')∧RdS 68 w' A' n (hs.flatMap Ho.cells)∧Below W.heap.size W w':=fun W hW=>zs1 H n c hs W (hh.bel hW lr) r hl om
 have V:=fun W (hW:Below w.heap.size w W)=>zri A H na ca n c xs hs W (hx.below hW) om (hh.bel hW lr) r hl om
 by_cases he:smE xs hs=0
 · obtain⟨h3,Y⟩:=smE_0 he
   obtain⟨D,a3,a2,a1,_⟩:=sm3_0 h3;have E:(xs.drop 64).length=16:=by rw[List.length_drop,D]
   have ho:(smOwn xs).length=32:=by rw[smOwn,if_pos D,List.length_take,List.length_drop,D];rfl
   obtain⟨J,U⟩:=zqw Y
   refine walk0 A B H na ca nb cb n c nm xs bs (bs.take 450) hs w (smE xs hs) (smL xs hs) (fun B d=>soC (xs.drop 64) (smOwn xs) B n d) (fun lo W B=>RdS 32 W B n ((smPays xs hs).flatMap u8s)∧∀ad:Addr,B=some ad→lo≤ad.block) hx G M hm a0 I (zxf r he)
     (fun B d=>zdr E ho B n d) (fun B d=>zd5 _ _ B n d) (fun _ W W' B h hb=>⟨h.1.belo hb,h.2⟩) (fun lo g W W' B h hg hW=>⟨zrs h.1 hW h.2 hg,h.2⟩) X ?_ ?_ ?_
   · intro W A1 c1 H1 e1 h1 h2 h4
     refine(zk3 A1 H1 na c1 n e1 xs hs W h1 h2 h4 r hl h3).mono ?_;rintro e w' ⟨h5,hB⟩
     rcases h5 with ⟨h6,_⟩|⟨_,g,rfl,hg,hb⟩
     · exact absurd Y h6
     · refine⟨some ⟨g,0,none⟩,n,by rw[he];rfl,⟨?_,fun ad e=>by injection e with e;subst e;exact hg⟩,hB⟩
       rw[flat_u8s]at hb;exact⟨by rw[zom _ U,J,hl],fun _=>⟨g,0,rfl,hb.lt,fun j u hu=>by rw[Nat.zero_add];exact(hb.cell j).trans hu⟩⟩
   · intro W hW
     refine(V W hW).mono ?_;rintro e w' ⟨h5,hB⟩
     rcases h5 with ⟨h6,_⟩|⟨_,A',c',B,d,rfl,_,_,hp⟩
     · exact absurd he h6
     · exact⟨A',328,c',B,d,by rw[he];rfl,⟨hp,fun _ _=>Nat.zero_le _⟩,hB⟩
   · intro _ _ W B d B' d' h1 h2
     exact znt (xs.drop 64) (smOwn xs) B B' n d d' (smPays xs hs) W E ho h1.1 h2.1 U (by rw[J,hl]) om
 · refine walk0 A B H na ca nb cb n c nm xs bs (bs.take 450) hs w (smE xs hs) (List.replicate 328 0) (fun _ _=>zSo) (fun _ _ _=>True) hx G M hm a0 I lp9
     (fun _ _=>zc0) (fun _ _=>zd5 _ _ _ _ _) (fun _ _ _ _ _ _=>trivial) (fun _ _ _ _ _ _ _ _=>trivial) X ?_ ?_ ?_
   · intro W A1 c1 H1 e1 h1 h2 h4
     rw[blk0]
     by_cases h3:sm3 xs hs=0
     · refine(zk3 A1 H1 na c1 n e1 xs hs W h1 h2 h4 r hl h3).mono ?_
       have hE:smE xs hs=scE (xs.take 32) hs:=by rw[smE,if_neg (by simp[h3])]
       rintro e w' ⟨h5,hB⟩
       rcases h5 with ⟨_,rfl⟩|⟨h6,_⟩
       · exact⟨none,0,by rw[hE],trivial,hB⟩
       · exact absurd (hE.trans h6) he
     · refine(zt7 A1 H1 na c1 n e1 xs hs W h1 h2 h4 r hl om h3).mono ?_
       have hE:smE xs hs=sm3 xs hs:=by rw[smE,if_pos h3]
       rintro e w' ⟨rfl,hB⟩;exact⟨none,0,by rw[hE],trivial,hB⟩
   · intro W hW
     refine(V W hW).mono ?_;rintro e w' ⟨h5,hB⟩
     rcases h5 with ⟨_,rfl⟩|⟨h6,_⟩
     · exact⟨none,0,0,none,0,rfl,trivial,hB⟩
     · exact absurd h6 he
   · intro _ _ W B d B' d' _ _
     exact znt (List.replicate 16 0) (List.replicate 32 0) none none 0 0 0 [] W sy sy ⟨rfl,fun h=>absurd h om⟩ ⟨rfl,fun h=>absurd h om⟩ (fun _ h=>by cases h) rfl om
theorem walkA{W:World}(x:Sl UInt8)(hx:Rd W x.A x.n (u8s x.l)∧x.n≤x.c∧x.c≤140737488351232)(b:Sl UInt8)(hb:Rd W b.A b.n (u8s b.l)∧b.n≤b.c∧b.c≤140737488351232)(s:Sl Ho)(hs:SlIn none 68 104 Ho.cells (fun _ h=>h.ok) W s):
 Calls Tryz.prog 3 #[x.val,b.val,s.val] W fun e w'=>e=.returned (.bool true)∧Below W.heap.size W w' :=
 walk x.A b.A s.A x.n x.c b.n b.c s.n s.c x.l b.l s.l W hx.1 om hb.1 hb.2.1 hs.rd hs.each hs.len (by have h1:=hs.cap;have h2:=hs.reach;unfold reachBytes at h2;omega)
section
open Go.ChangeShapes Go.WideShapes Go.ChangeAt Go.RowKit
set_option linter.unusedVariables false
theorem lifted(os:Os)(D:os.Started)(H:Type)(enc:TypeId × Value→H):
 ReturnsInHanded {} Tryz.checked os 3 .any (Rows.surbKeepsSpec.pre6 enc Tryz.prog Tryz.f3 Rows.surbKeepsRow.domain false) (Rows.surbKeepsSpec.post enc Tryz.prog Tryz.f3 false true false false):=by
 refine returnsInHanded_of_change_sized (C:=Tryz.checked) own D kr Tryz.func3
   (ChangeSpec.witness6 (enc:=enc) (C:=Tryz.checked) false ⟨#[],#[.slice none 0 0,.slice none 0 0,.slice none 0 0],[]⟩ 8 kr kr kr kr) ?_
 intro W X r ds gs a3 E hW c8 Y _;have A:∀(j:Nat) t v,Tryz.f3.params[j]? = some t→r[j]? = some v→Value.okWide Tryz.prog W .any X t v:=E;have U:(DataW.weightsEach Tryz.prog (Tryz.f3.params.toList++Rows.surbKeepsSpec.plain.varTypes Tryz.prog) (ds++gs)).all (·≤reachBytes)=true:=Y;have c3:=hW;obtain⟨p,q,V,hV,rfl,d6,d9⟩:=hW;have hA:DataW.TrodAll enc Tryz.prog W 0 (fun _=>true) true Tryz.f3.params.toList r.toList ds p:=V;rw[Tryz.params3]at hA A U;obtain⟨v0,d4,d0,d3,p0,q0,b5,rfl,rfl,h0,r0⟩:=trodAll_cons hA;obtain⟨v1,c9,d1,d7,p1,q1,rfl,rfl,rfl,h1,r1⟩:=trodAll_cons r0;obtain⟨v2,d8,d2,d5,p2,q2,rfl,rfl,rfl,h2,r2⟩:=trodAll_cons r1;obtain⟨rfl,rfl,rfl⟩:=trodAll_nil r2;obtain rfl:r=#[v0,v1,v2]:=by cases r;simp_all
 obtain⟨rfl,rfl⟩:=trodVars_none hV;have G:=List.all_eq_true.1 U;simp only[List.cons_append,List.nil_append,List.append_nil,DataW.weightsEach,List.mem_append,decide_eq_true_eq]at G;have k0:=h0;have a4:∀x∈p0,x.block<W.heap.size:=by obtain⟨m,hm⟩:=k0;exact DataW.trod_lt m _ _ _ hm
 obtain⟨J,c5⟩:=h0;obtain⟨A0,n0,c0,rfl⟩:=okWide_slice Tryz.underlying22 (A 0 22 v0 rfl rfl);obtain⟨a0,e0,b9⟩:=(zhf none (J+1)).opens (Nat.lt_succ_self _) c5 (fun k hk=>G k (.inl hk)) (fun b e=>by cases e);obtain⟨a5,b6,b3,l0⟩:=a0;obtain⟨rfl,rfl,rfl⟩:A0=a5∧n0=b6∧c0=b3:=by simpa[Value.cells,Sl.val] using e0
 have k1:=h1;have a9:∀x∈p1,x.block<W.heap.size:=by obtain⟨m,hm⟩:=k1;exact DataW.trod_lt m _ _ _ hm
 obtain⟨I,c7⟩:=h1;obtain⟨A1,n1,c1,rfl⟩:=okWide_slice Tryz.underlying22 (A 1 22 v1 rfl rfl);obtain⟨a1,e1,b1⟩:=(zhf none (I+1)).opens (Nat.lt_succ_self _) c7 (fun k hk=>G k (.inr (.inl hk))) (fun b e=>by cases e);obtain⟨a8,a7,c4,l1⟩:=a1;obtain⟨rfl,rfl,rfl⟩:A1=a8∧n1=a7∧c1=c4:=by simpa[Value.cells,Sl.val] using e1
 have k2:=h2;have lt2:∀x∈p2,x.block<W.heap.size:=by obtain⟨m,hm⟩:=k2;exact DataW.trod_lt m _ _ _ hm
 obtain⟨M,b7⟩:=h2;obtain⟨A2,n2,c2,rfl⟩:=okWide_slice Tryz.underlying23 (A 2 23 v2 rfl rfl);obtain⟨a2,e2,c6⟩:=(zrp none (M+1)).opens (Nat.lt_succ_self _) b7 (fun k hk=>G k (.inr (.inr (.inl hk)))) (fun b e=>by cases e);obtain⟨a6,b2,b4,l2⟩:=a2;obtain⟨rfl,rfl,rfl⟩:A2=a6∧n2=b2∧c2=b4:=by simpa[Value.cells,Sl.val] using e2
 clear V E;refine(walkA _ b9 _ b1 _ c6).mono fun e W' ⟨he,bel⟩=>?_
 subst he;exact⟨_,rfl,_,_,_,[],_,[],c3,trodAll_mk1 (shut_bool Tryz.underlying4 _),(trodAll_cons_mk (Below.trod laidOut kr (of_decide_eq_true kr) k0 bel a4) (trodAll_cons_mk (Below.trod laidOut kr (of_decide_eq_true kr) k1 bel a9) (trodAll_cons_mk (Below.trod laidOut kr (of_decide_eq_true kr) k2 bel lt2) trodAll_mk0))),rfl,bel.frame _,fun h=>by cases h⟩
theorem over:Rows.surbKeepsRow.holds Tryz.pinned (OpenSpec.ofChange Rows.surbKeepsSpec) :=
 OpenClaim.holds_of_wide 3 Tryz.f3 rfl rfl rfl rfl rfl rfl rfl ⟨rfl,rfl,rfl,rfl,rfl⟩ rfl rfl rfl rfl rfl kr Tryz.func3 kr
   (of_decide_eq_true kr) (by unfold Func.isWrapper;first|(rw[if_pos (by decide +kernel)];kernel_rfl)| (rw[if_neg (by decide +kernel)];exact⟨rfl,rfl⟩))
   (fun os started H enc _=>lifted os started H enc)
theorem proved:Rows.SurbKeepsSaid:=over
end
