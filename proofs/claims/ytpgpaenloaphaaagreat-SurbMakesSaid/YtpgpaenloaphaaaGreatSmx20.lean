/- Part of the proof. -/
import Derived.Test.YtpgpaenloaphaaaGreatSmx18
set_option maxRecDepth 100000
set_option maxHeartbeats 0
namespace Go.Proofs.YtpgpaenloaphaaaGreat
open Go.RowKit
section
section
variable{P:Program}{w:World}{o:Oper}{a:Act}
theorem zei{t e:TypeId}{x y:Operand}{g off n c p:Nat}(ho:o.op=.indexAddr t x y)(hx:a.eval x=.slice (some ⟨g,off,none⟩) n c)(hy:a.eval y=.int .i64 (p:Int))(hp:p<n)(hu:P.underlying t=some (.slice e))(hz:∀w,(sizeOf e).run P w=.ok 1 w):(execOp a.eval o).run P w=.ok (.value (.pointer (some ⟨g,off+p,none⟩))) w:=by
 unfold execOp
 simp[ho,hx,hy,Instr.indexAt,asIntOf,run_underlying hu,hz,hp,Addr.add]
theorem zsb{t:TypeId}{x y:Operand}{p:Addr}{u v:Value}(ho:o.op=.store t x y)(hx:a.eval x=.pointer (some p))(hy:a.eval y=v)(h1:v.oneCell'=true)(hz:∀w,(sizeOf t).run P w=.ok 1 w)(hc:w.cell? p=some u)(hf:w.frozen? p=false):(execOp a.eval o).run P w=.ok .skip (w.setCell p v):=by
 unfold execOp
 cases v <;> first
  | (simp[ho,hx,hy,Instr.storeAt,Instr.sureAddr,storeVar,hz,Value.cells,storeCells,store,Addr.add,Sem.run,hc,hf];done)
  | (cases h1;done)
end
theorem szSl(w:World):(sizeOf 22).run Tryz.prog w=.ok 1 w:=by kernel_rfl
theorem agSl(w:World):(isAgg 22).run Tryz.prog w=.ok false w:=by kernel_rfl
theorem zxa(x y:List UInt8):mixed x y 0=x:=by simp[mixed,Ch.xor]
end
section
structure Cm where
 k:UInt8
 f:UInt8
 d:Nat
 n:Nat
 m:List UInt8
namespace Cm
def cells(c:Cm):List Value:=.int .u8 c.k.toNat :: .int .u8 c.f.toNat :: .int .u32 (c.d:Int) :: .int .u64 (c.n:Int) :: u8s c.m
def ok(c:Cm):Prop:=c.d<4294967296∧c.n<18446744073709551616∧c.m.length=16
def zero:Cm:=⟨0,0,0,0,List.replicate 16 0⟩
theorem zero_ok:zero.ok:=⟨by decide,by decide,rfl⟩
def shaped(c:Cm):Bool:=if (decide (c.k=1) != decide (c.n≠0))=true then false else (decide (c.k=4)|| decide (c.m=List.replicate 16 0))
def check(c:Cm):Nat:=if c.k.toNat<1∨4<c.k.toNat then 1 else if c.shaped=false then 3 else if 1000000<c.d then 11 else 0
theorem cells_len{c:Cm}(h:c.ok):c.cells.length=20:=by simp[cells,zaa,h.2.2]
theorem cells_one(c:Cm):∀v∈c.cells,v.oneCell'=true:=by
 intro v hv;simp only[cells,List.mem_cons]at hv
 rcases hv with rfl|rfl|rfl|rfl|hv
 · rfl
 · rfl
 · rfl
 · rfl
 · exact zac _ v hv
theorem cells_mark(c:Cm):(c.cells.drop 4)=u8s c.m:=rfl
end Cm
theorem hd76c:(Tryz.prog.info? 47).map (·.size)=some 20:=by kernel_rfl
theorem hd16c:(Tryz.prog.info? 29).map (·.size)=some 16:=by kernel_rfl
theorem zfp(v:Value):Instr.loadAt 29 v=ldAt 29 v:=rfl
theorem zcg(v:Value):Instr.loadAt 47 v=ldAt 47 v:=rfl
theorem zse(x y:Value):binOp .eql 29 x y=eqAt 29 x y:=rfl
def bld16:Sem Value:=Instr.build 29 #[]
theorem zn0:Instr.build 29 #[]=bld16:=rfl
attribute [local go_sem ↓] zfp zse zn0 zcg
theorem zpb{w:World}{g:Nat}{t:TypeId}{c:Cm}(hb:Blk w g t c.cells)(hc:c.ok):(ldAt 29 (.pointer (some ⟨g,4,none⟩))).run Tryz.prog w=.ok (.agg (u8s c.m).toArray) w :=
 zal hb _ 4 (u8s c.m) (by rw[Cm.cells_mark,tk lr]) _ Tryz.underlying29 rfl (by rw[zaa,hc.2.2];exact hd16c)
theorem k_eq(a b:UInt8):((a.toNat:Int) == (b.toNat:Int))=decide (a=b):=by
 rw[Bool.eq_iff_iff,beq_iff_eq,decide_eq_true_iff];exact⟨fun h=>UInt8.toNat_inj.1 om,fun h=>by rw[h]⟩
theorem n_ne(n:Nat):((n:Int) != 0)=decide (n≠0):=by
 rw[Bool.eq_iff_iff,bne_iff_ne,decide_eq_true_iff];omega
theorem zia(c:Cm)(hc:c.ok)(w:World):
 Calls Tryz.prog 109 #[.agg c.cells.toArray] w fun e w'=>e=.returned (.bool c.shaped)∧Below w.heap.size w w':=by
 obtain⟨C,hC⟩:=ex9 (c.cells);have hb:Blk (w.alloc (.cells C.toArray 47)) w.heap.size 47 C:=Blk.new w _ _;have c0:(w.alloc (.cells C.toArray 47)).cell? ⟨w.heap.size,0,none⟩=some (.int .u8 c.k.toNat):=by rw[hb.cell,hC];rfl
 have c3:(w.alloc (.cells C.toArray 47)).cell? ⟨w.heap.size,3,none⟩=some (.int .u64 (c.n:Int)):=by rw[hb.cell,hC];rfl
 have hld:(ldAt 29 (.pointer (some ⟨w.heap.size,4,none⟩))).run Tryz.prog (w.alloc (.cells C.toArray 47))=.ok (.agg (u8s c.m).toArray) (w.alloc (.cells C.toArray 47)):=by
  subst hC;exact zpb hb hc
 have heq:∀W,(eqAt 29 (.agg (u8s c.m).toArray) (.agg #[.int .u8 0,.int .u8 0,.int .u8 0,.int .u8 0,.int .u8 0,.int .u8 0,.int .u8 0,.int .u8 0,.int .u8 0,.int .u8 0,.int .u8 0,.int .u8 0,.int .u8 0,.int .u8 0,.int .u8 0,.int .u8 0])).run Tryz.prog W=.ok (.bool (decide (c.m=List.replicate 16 0))) W:=fun W=>eq16 c.m (List.replicate 16 0) hc.2.2 rfl W
 have e1:((c.k.toNat:Int) == 1)=decide (c.k=1):=k_eq c.k 1;have e2:((c.n:Int) != 0)=decide (c.n≠0):=n_ne c.n;have e3:((c.k.toNat:Int) == 4)=decide (c.k=4):=k_eq c.k 4;have HS:Hid (c.shaped=if (decide (c.k=1) != decide (c.n≠0))=true then false else (decide (c.k=4)|| decide (c.m=List.replicate 16 0))):=rfl;rw[←hC];obtain⟨S,hSS⟩:=ex9 (c.shaped);rw[←hSS]at HS ⊢;generalize u8s c.m=M at *;generalize decide (c.m=List.replicate 16 0)=pm at *;generalize decide (c.k=1)=p1 at *;generalize decide (c.k=4)=p4 at *;generalize decide (c.n≠0)=pn at *;generalize (c.k.toNat:Int)=K at *;generalize (c.n:Int)=NN at *;have HE:=qh ((Below.refl w.heap.size w).alloc lr (.cells C.toArray 47));clear hC hb hc hSS
 cases hx:(p1 == pn)with
 | false =>
  rw[show(p1 != pn)=true by rw[bne,hx];rfl,if_pos rfl]at HS
  go_enter Tryz.func109, Tryz.ntmps109
  go_wp2_with fail
  go_ret;exact⟨by rw[HS.out];rfl,HE.out⟩
 | true =>
  rw[show(p1 != pn)=false by rw[bne,hx];rfl,if_neg (by decide)]at HS
  cases p4 with
  | true =>
   go_enter Tryz.func109, Tryz.ntmps109
   go_wp2_with fail
   go_ret;exact⟨by rw[HS.out];rfl,HE.out⟩
  | false =>
   go_enter Tryz.func109, Tryz.ntmps109
   go_wp2_with fail
   go_ret;exact⟨by rw[HS.out];rfl,HE.out⟩
theorem cm_ld{w:World}{g:Nat}{t:TypeId}{C:List Value}(hb:Blk w g t C)(hl:C.length=20):(ldAt 47 (.pointer (some ⟨g,0,none⟩))).run Tryz.prog w=.ok (.agg C.toArray) w :=
 zal hb _ 0 C (by rw[List.drop_zero,tk lr]) _ Tryz.underlying47 rfl (by rw[hl];exact hd76c)
theorem zny(c:Cm)(hc:c.ok)(w:World):
 Calls Tryz.prog 75 #[.agg c.cells.toArray] w fun e w'=>e=.returned (.int .i64 (c.check:Int))∧Below w.heap.size w w':=by
 have HSH:=qh (fun W=>zia c hc W);have hl:=Cm.cells_len hc;obtain⟨C,hC⟩:=ex9 (c.cells);have hb:Blk (w.alloc (.cells C.toArray 47)) w.heap.size 47 C:=Blk.new w _ _;have c0:(w.alloc (.cells C.toArray 47)).cell? ⟨w.heap.size,0,none⟩=some (.int .u8 c.k.toNat):=by rw[hb.cell,hC];rfl
 rw[←hC]at hl HSH ⊢;have hld:(ldAt 47 (.pointer (some ⟨w.heap.size,0,none⟩))).run Tryz.prog (w.alloc (.cells C.toArray 47))=.ok (.agg C.toArray) (w.alloc (.cells C.toArray 47)):=cm_ld hb hl;have HC2:Hid (C[2]? = some (.int .u32 (c.d:Int))):=by rw[hC];rfl
 have HE:=qh ((Below.refl w.heap.size w).alloc lr (.cells C.toArray 47));have HB:=qh hb;have HCK:Hid (c.check=if c.k.toNat<1∨4<c.k.toNat then 1 else if c.shaped=false then 3 else if 1000000<c.d then 11 else 0):=rfl;obtain⟨R,hR⟩:=ex9 (c.check);rw[←hR]at HCK ⊢;generalize c.shaped=S at *;generalize c.k.toNat=K at *;generalize c.d=D at *;clear hb hl hC hR hc
 by_cases h1:K<1
 · rw[if_pos (.inl h1)]at HCK
   have i1:(K:Int)<1:=om
   go_enter Tryz.func75, Tryz.ntmps75
   go_wp2_with fail
   go_ret;exact⟨by rw[HCK.out];rfl,HE.out⟩
 · have i1:¬(K:Int)<1:=om
   by_cases h4:4<K
   · rw[if_pos (.inr h4)]at HCK
     have i4:(4:Int)<(K:Int):=om
     go_enter Tryz.func75, Tryz.ntmps75
     go_wp2_with fail
     go_ret;exact⟨by rw[HCK.out];rfl,HE.out⟩
   · have i4:¬(4:Int)<(K:Int):=om
     rw[if_neg om]at HCK
     cases S with
     | false =>
      rw[if_pos rfl]at HCK
      go_enter Tryz.func75, Tryz.ntmps75
      go_wp2_with (go_at_call 109;(with_reducible refine(HSH.out _).mono ?_);rintro e w1 ⟨rfl,hB1⟩;have HE1:=qh (HE.out.trans (hB1.mono sy));clear hB1)
      go_ret;exact⟨by rw[HCK.out];rfl,HE1.out⟩
     | true =>
      rw[if_neg (by decide)]at HCK
      by_cases hd:1000000<D
      · have i5:(1000000:Int)<(D:Int):=om
        rw[if_pos hd]at HCK
        go_enter Tryz.func75, Tryz.ntmps75
        go_wp2_with (go_at_call 109;(with_reducible refine(HSH.out _).mono ?_);rintro e w1 ⟨rfl,hB1⟩;have HE1:=qh (HE.out.trans (hB1.mono sy));have c2:w1.cell? ⟨w.heap.size,2,none⟩=some (.int .u32 (D:Int)):=by rw[(HB.out.below hB1 HB.out.lt).cell];exact HC2.out
                     clear hB1)
        go_ret;exact⟨by rw[HCK.out];rfl,HE1.out⟩
      · have i5:¬(1000000:Int)<(D:Int):=om
        rw[if_neg hd]at HCK
        go_enter Tryz.func75, Tryz.ntmps75
        go_wp2_with (go_at_call 109;(with_reducible refine(HSH.out _).mono ?_);rintro e w1 ⟨rfl,hB1⟩;have HE1:=qh (HE.out.trans (hB1.mono sy));have c2:w1.cell? ⟨w.heap.size,2,none⟩=some (.int .u32 (D:Int)):=by rw[(HB.out.below hB1 HB.out.lt).cell];exact HC2.out
                     clear hB1)
        go_ret;exact⟨by rw[HCK.out];rfl,HE1.out⟩
end
def diff(a b:List UInt8):Nat→UInt8
 | 0=>0
 | i+1=>diff a b i ||| (a.getD i 0 ^^^ b.getD i 0)
theorem agI64(w:World):(isAgg 3).run Tryz.prog w=.ok false w:=by kernel_rfl
def flC(key:List UInt8)(used:Int):List Value:=u8s key++[.int .i64 used]
theorem zuo(A:Option Addr)(c:Nat)(key:List UInt8)(w:World)(h:Rd w A 32 (u8s key)):
 Calls Tryz.prog 72 #[.slice A 32 c] w fun e w'=>e=.returned (.tuple #[.pointer (some ⟨w.heap.size,0,none⟩),.int .i64 0])∧Blk w' w.heap.size 180 (flC key 0)∧Below w.heap.size w w':=by
 have HR:=qh h;have HT:Hid ((u8s key).take 32=u8s key):=tk (by rw[zaa,h.len];exact lr)
 have HSP:Hid (splice (flC (List.replicate 32 0) 0) 0 (u8s key)=flC key 0):=by
  show _=_
  unfold flC
  unfold splice
  rw[List.take_zero,List.nil_append,Nat.zero_add,List.drop_left' (by rw[zaa,zaa,h.len,lp9])]
 clear h
 go_enter Tryz.func72, Tryz.ntmps72
 go_wp2_with (refine za7 rfl (.tmp 13) (.tmp 14) 22 rfl 5 Tryz.underlying22 zbz w.heap.size 0 32 32 rr A 32 c rr 180 (flC (List.replicate 32 0) 0) (by exact Blk.new' rfl rfl) (u8s key) (by exact HR.out.alloc _) (zac _) (by exact Nat.le_of_ble_eq_true rfl) ?_;intro w2 hb2 ho2;rw[HT.out,HSP.out]at hb2;have HB2:=qh hb2;have HE2:=qh (ho2.below ((Below.refl _ _).alloc lr _) lr sy);clear hb2 ho2)
 go_ret2;exact⟨rfl,HB2.out,HE2.out⟩
theorem zjv(key:List UInt8)(u:Int)(hk:key.length=32):(flC key u)[32]? = some (.int .i64 u):=by
 unfold flC
 rw[ar9 (by rw[zaa,hk];exact lr),zaa,hk]
 rfl
theorem zxi(key:List UInt8)(u v:Int)(hk:key.length=32):(flC key u).set 32 (.int .i64 v)=flC key v:=by
 unfold flC
 rw[List.set_append_right _ _ (by rw[zaa,hk];exact lr),zaa,hk]
 rfl
theorem zxk(key:List UInt8)(u:Int)(hk:key.length=32):((flC key u).drop 0).take 32=u8s key:=by
 unfold flC
 rw[List.drop_zero,List.take_append_of_le_length (by rw[zaa,hk];exact lr),tk (by rw[zaa,hk];exact lr)]
theorem zxj(key:List UInt8)(u:Int)(hk:key.length=32):(flC key u).length=33:=by
 unfold flC
 rw[la9,zaa,hk]
 rfl
theorem zr9(g:Nat)(key:List UInt8)(used n:Nat)(w:World)(hb:Blk w g 180 (flC key (used:Int)))(hk:key.length=32)(hun:used+n≤65536):
 Calls Tryz.prog 106 #[.pointer (some ⟨g,0,none⟩),.int .i64 n] w fun e w'=>∃A' c',e=.returned (.tuple #[.slice A' n c',.int .i64 0])∧n≤c'∧w'.ownsRow w.heap.size 5 1 (.slice A' n c') n (u8s (Ch.piece key used n))∧Blk w' g 180 (flC key ((used+n:Nat):Int))∧Wrote g w w':=by
 have HB:=qh hb;have HK:=qh hk;have hc0:w.cell? ⟨g,32,none⟩=some (.int .i64 used):=by rw[hb.cell];exact zjv key _ hk
 have HP:Hid (∀W,Rd W (some ⟨g,0,none⟩) 32 (u8s key)→Calls Tryz.prog 140 #[.slice (some ⟨g,0,none⟩) 32 32,.int .i64 used,.int .i64 n] W fun e w'=>∃A' c',e=.returned (.slice A' n c')∧n≤c'∧w'.ownsRow W.heap.size 5 1 (.slice A' n c') n (u8s (Ch.piece key used n))∧Below W.heap.size W w'):=fun W h=>zko _ 32 key used n W h om om
 have HR:Hid (∀W,Blk W g 180 (flC key used)→Rd W (some ⟨g,0,none⟩) 32 (u8s key)):=fun W h=>by
  have h6:=h.rd 0 32 (by rw[zxj _ _ hk];omega)
  rwa [zxk _ _ hk]at h6
 have hn0:¬(n:Int)<0:=om;have hn1:¬(65536:Int)<(n:Int):=om;have hn2:¬(65536:Int)-(used:Int)<(n:Int):=om;clear hb hk
 go_enter Tryz.func106, Tryz.ntmps106
 go_wp2_with fail
 have hT:w.drew.cell? ⟨g,32,none⟩=some (.int .i64 used):=hc0;refine kgo kr 9 (fun w'=>w'.cell? ⟨g,32,none⟩=some (.int .i64 used)) hT (fun _ _ _ _ _ h=>h) ?_;refine kp 0 (.pointer (some ⟨g,0,none⟩)) rfl kr (fun _=>kr) ?_;refine kp 1 (.pointer (some ⟨g,0,none⟩)) rfl kr (fun _=>kr) ?_;refine kp 2 (.pointer (some ⟨g,0,none⟩)) rfl kr (fun _=>kr) ?_;refine kp 3 (.slice (some ⟨g,0,none⟩) 32 32) rfl kr (fun _=>kr) ?_;refine kp 4 (.pointer (some ⟨g,0,none⟩)) rfl kr (fun _=>kr) ?_;refine kp 5 (.pointer (some ⟨g,0,none⟩)) rfl kr (fun _=>kr) ?_;refine kp 6 (.pointer (some ⟨g,32,none⟩)) rfl kr (fun _=>kr) ?_;refine kl 7 (.int .i64 used) rfl kr (fun w' hw'=>za5 (t:=3) (x:=.tmp 26) (p:=⟨g,32,none⟩) rr kr agI64 hw') ?_;refine kp 8 (.int .i64 n) rfl kr (fun _=>kr) ?_;intro q8 q9;clear q8 q9;refine AnyK.enter 9 (d:=some 29) (f:=140) (args:=#[.slice (some ⟨g,0,none⟩) 32 32,.int .i64 used,.int .i64 n]) rr kr kr ?_;refine(HP.out _ (HR.out _ HB.out.drew)).mono ?_;rintro e w1 ⟨A',c',rfl,hc',hown,hB⟩;refine⟨_,rfl,fun h=>(by cases h),?_⟩;refine AnyK.val 10 (v:=.slice A' n c') rfl kr rfl kr (fun h=>(by cases h)) ?_;refine AnyK.done kr ?_;have hb1:Blk w1 g 180 (flC key used):=HB.out.drew.below hB HB.out.drew.lt;have hc1:w1.cell? ⟨g,32,none⟩=some (.int .i64 used):=by rw[hb1.cell];exact zjv key _ HK.out
 have hf1:=hb1.frozen 32;have HB1:=qh hb1;have HO1:=qh hown;have HE1:Hid (Below w.heap.size w w1):=(Below.refl _ w).drew.trans hB;clear hT hb1 hown hB
 go_wp2_with fail
 go_ret2;have h5:=HB1.out.set_ 32 (.int .i64 ((used+n:Nat):Int));rw[zxi _ _ _ HK.out]at h5;have h6:=zc3 HO1.out (Only.of_setCells w1 g 32 [.int .i64 ((used+n:Nat):Int)]) (fun k hk=>by have h9:w.heap.size≤k:=(HO1.out.lt k hk).1;have:=HB.out.lt;omega);have h7:=(Wrote.of_below (g:=g) HE1.out).setCell 32 (.int .i64 ((used+n:Nat):Int));exact⟨A',c',rfl,hc',h6,h5,h7⟩
theorem zpf(x:List UInt8):Ch.xor (Ch.zeros x.length) x=x:=by
 unfold Ch.xor Ch.zeros
 induction x with
 | nil=>rfl
 | cons a x ih=>simp[List.replicate_succ,ih]
theorem zkc(n:Nat):u8s (Ch.zeros n)=rep n (.int .u8 0):=by simp[u8s,Ch.zeros,rep,u8]
def acc2(n:Nat)(x y:List UInt8):Nat→List UInt8
 | 0=>Ch.zeros n
 | 1=>x
 | _=>Ch.xor x y
theorem zss{n:Nat}{x y l:List UInt8}{i:Nat}(hx:x.length=n)(h:[x,y][i]? = some l):Ch.xor (acc2 n x y i) l=acc2 n x y (i+1):=by
 match i with
 | 0=>simp at h;subst h;subst hx;exact zpf _
 | 1=>simp at h;subst h;rfl
 | i+2=>simp at h
theorem zu1{n:Nat}{x y:List UInt8}(hx:x.length=n)(hy:y.length=n)(i:Nat):(acc2 n x y i).length=n:=by
 match i with
 | 0=>simp[acc2,Ch.zeros]
 | 1=>exact hx
 | i+2=>show(Ch.xor x y).length=n;rw[Ch.xor_len _ _ om,hx]
theorem zm1(A:Option Addr)(c n:Nat)(x y:List UInt8)(w:World)(h:RdB w A 2 [x,y])(hx:x.length=n)(hy:y.length=n)(hn:n≤1000000):
 Calls Tryz.prog 107 #[.slice A 2 c] w fun e w'=>∃A' c',e=.returned (.tuple #[.slice A' n c',.int .i64 0])∧n≤c'∧w'.ownsRow w.heap.size 5 1 (.slice A' n c') n (u8s (Ch.xor x y))∧Below w.heap.size w w':=by
 have HX:=qh hx;have HY:=qh hy;have HR:=qh h;have h20:((2:Nat):Int)=2:=rfl;clear h hx hy
 go_enter Tryz.func107, Tryz.ntmps107
 go_wp2_with fail
 go_loopg [16] 2 (fun kk q wr=>∃i:Nat,i≤2∧kk=2-i∧q=.int .i64 i∧w=wr)
 case atStart=>exact⟨0,by omega,rfl,rfl,rfl⟩
 case round =>
  obtain⟨i,hi,hgk,rfl,rfl⟩:=hrel;have HGK:=qh hgk;clear hgk;obtain⟨b,off,A1,n1,c1,l,rfl,hb,HL,hcl,hnc,hr1⟩:=HR.out.at_ (k:=0) om;have hl:l=x:=by have:=HL.out;simp at this;exact this.symm
  subst hl;obtain rfl:n1=n:=by rw[←hr1.len,HX.out]
  rw[Nat.add_zero]at hcl;obtain rfl|rfl|rfl:i=0∨i=1∨i=2:=om
  · have hlt2:((0:Nat):Int)<((2:Nat):Int):=om
    clear HL hr1
    go_wp2_with fail
    go_roundg (2-(0+1))
    case measure=>have:=HGK.out;omega
    case rel=>exact⟨0+1,by omega,rfl,by go_num,rfl⟩
  · have hlt2:((1:Nat):Int)<((2:Nat):Int):=om
    have h1b:((1:Nat):Int)=1:=rfl;obtain⟨b2,off2,A2,n2,c2,l2,e2,_,HL2,hcl2,_,hr2⟩:=HR.out.at_ (k:=1) om
    injection e2 with e2
    injection e2 with e2 e3
    subst e2;subst e3;have hl:l2=y:=by have:=HL2.out;simp at this;exact this.symm
    subst hl;obtain rfl:n2=n1:=by rw[←hr2.len,HY.out]
    clear HL hr1 HL2 hr2
    go_wp2_with fail
    go_roundg (2-(1+1))
    case measure=>have:=HGK.out;omega
    case rel=>exact⟨1+1,by omega,rfl,by go_num,rfl⟩
  · have hlt2:¬((2:Nat):Int)<((2:Nat):Int):=om
    clear HL hr1
    go_wp2_with (refine zao rfl (.tmp 31) (.tmp 31) 22 rfl 5 (.int .u8 0) 1 Tryz.underlying22 iU8 rfl .i64 .i64 (n1:Int) (n1:Int) rr rr n1 n1 rfl rfl om om om ?_;intro w2 hb2 hg2 hs2;have HO2:Hid (w2.ownsRow w.heap.size 5 1 (.slice (some ⟨w.heap.size,0,none⟩) n1 n1) n1 (u8s (acc2 n1 l y 0))):=(by have h5:=zbi hb2 lr n1 n1 1 lr (by simp[zar]) om;rw[tk (by simp[zar])]at h5;rw[show u8s (acc2 n1 l y 0)=rep n1 (.int .u8 0) from zkc n1];exact h5);have HB2:Hid (Below w.heap.size w w2):=zaf hg2;clear hb2 hg2 hs2)
    go_loopg [35] 2 (fun kk q wr=>∃i:Nat,i≤2∧kk=2-i∧q=.int .i64 i∧wr.ownsRow w.heap.size 5 1 (.slice (some ⟨w.heap.size,0,none⟩) n1 n1) n1 (u8s (acc2 n1 l y i))∧Below w.heap.size w wr)
    case atStart=>exact⟨0,by omega,rfl,rfl,HO2.out,HB2.out⟩
    case round =>
     clear HO2 HB2;obtain⟨i,hi,hgk2,rfl,hown,hB⟩:=hrel;have HGK2:=qh hgk2;clear hgk2
     by_cases hlt:i<2
     · have hlt3:(i:Int)<2:=om
       obtain⟨b2,off2,A2,n2,c2,l2,e2,hb2,HL2,hcl2,_,hr2⟩:=HR.out.at_ (k:=i) hlt
       injection e2 with e2
       injection e2 with e2 e3
       subst e2;subst e3;have HACC:=qh (zss (n:=n1) HX.out HL2.out);have hal:=zu1 HX.out HY.out i
       have hl2l:l2.length=n1:=by
        have h6:=HL2.out;obtain rfl|rfl:i=0∨i=1:=om
        · simp at h6;rw[←h6];exact HX.out
        · simp at h6;rw[←h6];exact HY.out
       obtain rfl:n2=n1:=by rw[←hr2.len,hl2l]
       obtain⟨X,hXe⟩:=ex9 (acc2 n2 l y i);rw[←hXe]at hown hal HACC;have HXY:Hid (X.length=l2.length):=by show _=_;rw[hal,hl2l]
       have HAL:=qh hal;have HO0:Hid (wr.ownsRow w.heap.size 5 1 (.slice (some ⟨w.heap.size,0,none⟩) n2 n2) n2 (u8s (mixed X l2 0))):=by show World.ownsRow _ _ _ _ _ _ _;rw[zxa];exact hown
       have HME:Hid (mixed X l2 n2=acc2 n2 l y (i+1)):=by show _=_;rw[←HACC.out,←HAL.out];exact zro X l2 HXY.out
       have hcl4:wr.cell? ⟨b,off+i,none⟩=some (.slice A2 n2 c2):=(hB.cell (p:=⟨b,off+i,none⟩) hb2).trans hcl2;have HBE:=qh hB;have HR2:=qh hr2;clear HL2 hcl2 hr2 hXe hown hal HACC hB hl2l
       go_wp2_with fail
       go_loopg [41] n2 (fun kk q wr=>∃j:Nat,j≤n2∧kk=n2-j∧q=.int .i64 j∧wr.ownsRow w.heap.size 5 1 (.slice (some ⟨w.heap.size,0,none⟩) n2 n2) n2 (u8s (mixed X l2 j))∧Below w.heap.size w wr)
       case atStart=>exact⟨0,by omega,rfl,rfl,HO0.out,HBE.out⟩
       case round =>
        clear HO0 HBE hcl4;obtain⟨j,hj,hjk,rfl,hown,hB⟩:=hrel;have HJK:=qh hjk;clear hjk
        by_cases hlt4:j<n2
        · have hlt5:(j:Int)<(n2:Int):=om
          obtain⟨g5,o5,v,rfl,hbl,HV,cv⟩:=(HR2.out.below hB).u8 hlt4;obtain⟨u,hu⟩:∃u,X[j]? = some u:=⟨_,ge9 (by rw[HAL.out];exact hlt4)⟩;have HU:=qh hu;have hml:=zrm X l2 j HXY.out;have cu:wr.cell? ⟨w.heap.size,j,none⟩=some (.int .u8 u.toNat):=(hown.cellAt j om).trans (by rw[u8s_getElem?,zrn X l2 j HXY.out (by rw[HAL.out];exact hlt4),hu];rfl);have fu:=hown.frozenAt j;have hst:=(hown.stored j (.int .u8 (u ^^^ v).toNat)).1;rw[zbc,zrl X l2 j HXY.out hu HV.out]at hst;have HST:=qh hst;have HB3:=qh (hB.setCell (p:=⟨w.heap.size,j,none⟩) lr (.int .u8 (u ^^^ v).toNat));have HXR:=qh (zh1 u v);clear hst hown hml hu hB
          go_wp2_with fail
          rw[HXR.out];go_roundg (n2-(j+1))
          case measure=>have:=HJK.out;omega
          case rel=>exact⟨j+1,by omega,rfl,by go_num,HST.out,HB3.out⟩
        · obtain rfl:j=n2:=om
          have hlt5:¬(j:Int)<(j:Int):=om;rw[HME.out]at hown;have HO:=qh hown;clear hown
          go_wp2_with fail
          go_roundg (2-(i+1))
          case measure=>have:=HGK2.out;omega
          case rel=>exact⟨i+1,by omega,rfl,by go_num,HO.out,hB⟩
     · obtain rfl:i=2:=om
       have hlt3:¬((2:Nat):Int)<2:=om;have HO:Hid (wr.ownsRow w.heap.size 5 1 (.slice (some ⟨w.heap.size,0,none⟩) n1 n1) n1 (u8s (Ch.xor l y))):=hown;clear hown
       go_wp2_with fail
       go_ret2;exact⟨_,_,rfl,lr,HO.out,hB⟩
theorem zr8(g:Nat)(key:List UInt8)(used:Nat)(A:Option Addr)(n c:Nat)(ls:List (List UInt8))(N:Nat)(w:World)(hb:Blk w g 180 (flC key (used:Int)))(hk:key.length=32)
 (hp:∀w',Wrote g w w'→RdB w' A n ls) (hn:n≤1000000) (hN:ls.flatten.length=N) (hun:used+N≤65536):
 Calls Tryz.prog 73 #[.pointer (some ⟨g,0,none⟩),.slice A n c] w fun e w'=>∃A' c',e=.returned (.tuple #[.slice A' N c',.int .i64 0])∧N≤c'∧w'.ownsRow w.heap.size 5 1 (.slice A' N c') N (u8s (Ch.xor ls.flatten (Ch.piece key used N)))∧Blk w' g 180 (flC key ((used+N:Nat):Int))∧Wrote g w w':=by
 have HK:=qh hk;have HP:=qh hp;have HN:=qh hN;have HR:=qh (hp w (Wrote.refl _ _));have hc0:w.cell? ⟨g,32,none⟩=some (.int .i64 used):=by rw[hb.cell];exact zjv key _ hk
 have HNX:=qh (zr9 g key used N w hb hk hun);have hgl:g<w.heap.size:=hb.lt;have hpl:=Ch.piece_len key used N;have hll:ls.length=n:=by obtain⟨_,_,h,_⟩:=HR.out;exact h
 have HLL:=qh hll;obtain⟨S,hS⟩:=ex9 (Ch.piece key used N);rw[←hS]at HNX hpl ⊢;obtain⟨F,hF⟩:=ex9 (ls.flatten);have HF:=qh hF.symm;have hFN:F.length=N:=by rw[hF];exact hN
 rw[←hF];have HX:Hid (∀W B,RdB W (some ⟨B,0,none⟩) 2 [F,S]→Calls Tryz.prog 107 #[.slice (some ⟨B,0,none⟩) 2 2] W fun e w'=>∃A' c',e=.returned (.tuple #[.slice A' N c',.int .i64 0])∧N≤c'∧w'.ownsRow W.heap.size 5 1 (.slice A' N c') N (u8s (Ch.xor F S))∧Below W.heap.size W w'):=fun W B h=>zm1 _ 2 N F S W h hFN hpl om
 clear hb hk hp hN hS hF hll;have HFN:=qh hFN;clear hFN
 go_enter Tryz.func73, Tryz.ntmps73
 go_wp2_with fail
 go_loop [6,13] (fun t i=>∃k:Nat,k≤n∧i=.int .i64 k∧t=.int .i64 ((ls.take k).flatten.length)) (fun _ i=>n-(intOf i).toNat)
 case atStart=>exact⟨0,Nat.zero_le _,rfl,rfl⟩
 case round =>
  obtain⟨k,hkn,rfl,rfl⟩:=hrel;have hle:=zb5 ls k
  by_cases hlt:k<n
  · have hlt2:(k:Int)<(n:Int):=om
    obtain⟨b,off,A1,n1,c1,l,rfl,hb,HXL,hc,hn1,hr1⟩:=HR.out.at_ hlt;have hs:=zcs ls k l HXL.out;have hle':=zb5 ls (k+1);have hlen:(ls.take (k+1)).flatten.length=(ls.take k).flatten.length+n1:=by rw[hs,la9,hr1.len]
    have HS:=qh hlen;have hb1:used+((ls.take k).flatten.length+n1)≤65536:=by have:=HFN.out;have:=congrArg List.length HF.out;omega
    clear hs hlen hle' hle;generalize hT:(ls.take k).flatten.length=T at *;have HT:=qh hT;clear hT;have hgt:¬(65536:Int)-(used:Int)-(T:Int)<(n1:Int):=om;clear hr1 HXL
    go_wp2_with fail
    go_round
    case rel=>exact⟨k+1,by omega,by go_num,by rw[HS.out];go_num⟩
    case measure=>simp[intOf];omega
  · have hkn:k=n:=om
    subst hkn;have hlt2:¬(k:Int)<(k:Int):=om;rw[show(ls.take k).flatten.length=N by rw[tk (by rw[HLL.out];exact lr),HF.out,HFN.out]];clear hlt hle
    go_wp2_with (first
     | (go_at_call 106;(with_reducible refine HNX.out.mono ?_);rintro e w1 ⟨A1,c1,rfl,hc1,hown1,hb1,hw1⟩;have HR1:=qh (HP.out w1 hw1);have HO1:=qh hown1;have HB1:=qh hb1;have HW1:=qh hw1;have hs1:=hw1.size;clear hown1 hb1 hw1)
     | (go_at_call 42;(with_reducible refine(zev A k c ls w1 (by exact HR1.out) om F N (by exact HF.out) (by exact HFN.out) om).mono ?_);rintro e w2 ⟨A2,c2,rfl,hc2,hown2,hB2⟩;have HO2:=qh hown2;have HB2:=qh hB2;have hs2:=hB2.size;have HQ:Hid (RdB (w2.alloc (.cells #[.slice A2 N c2,.slice A1 N c1] 22)) (some ⟨w2.heap.size,0,none⟩) 2 [F,S]):=RdB.of_blk (Blk.new w2 22 [.slice A2 N c2,.slice A1 N c1]) ⟨.of_rd ((Rd.of_own HO2.out).alloc _) hc2,.of_rd (((Rd.of_own HO1.out).below HB2.out).alloc _) hc1,trivial⟩;clear hown2 hB2)
     | (go_at_call 107;(with_reducible refine(HX.out _ _ (by exact HQ.out)).mono ?_);rintro e w3 ⟨A3,c3,rfl,hc3,hown3,hB3⟩;have HO3:=qh (zbj hown3 (base':=w.heap.size) (by simp;omega));have HE3:=qh (HB2.out.trans ((((Below.refl _ w2).alloc lr _).trans (hB3.mono sy)).mono HB2.out.size));clear hown3 hB3))
    go_ret2;exact⟨A3,c3,rfl,hc3,HO3.out,HB1.out.below HE3.out om,HW1.out.then HE3.out⟩
theorem zpk(B:Option Addr)(d:Nat)(key:List UInt8)(A:Option Addr)(n c:Nat)(ls:List (List UInt8))(F:List UInt8)(N:Nat)(w:World)(hk:Rd w B 32 (u8s key))(h:RdB w A n ls)(hn:n≤1000000)(hF:ls.flatten=F)(hN:F.length=N)(hun:N≤65536):
 Calls Tryz.prog 43 #[.slice B 32 d,.slice A n c] w fun e w'=>∃A' c',e=.returned (.tuple #[.slice A' N c',.int .i64 0])∧N≤c'∧w'.ownsRow w.heap.size 5 1 (.slice A' N c') N (u8s (Ch.turn key F))∧Below w.heap.size w w':=by
 subst hF;have HNW:=qh (zuo B d key w hk);have hkl:=hk.len
 have HT:Hid (∀W,Blk W w.heap.size 180 (flC key 0)→Below w.heap.size w W→Calls Tryz.prog 73 #[.pointer (some ⟨w.heap.size,0,none⟩),.slice A n c] W fun e w'=>∃A' c',e=.returned (.tuple #[.slice A' N c',.int .i64 0])∧N≤c'∧w'.ownsRow W.heap.size 5 1 (.slice A' N c') N (u8s (Ch.turn key ls.flatten))∧Below w.heap.size w w'):=fun W hb hB=>by
  refine(zr8 w.heap.size key 0 A n c ls N W hb hkl (fun w' hw=>h.below (hw.below hB lr hB.size)) hn hN om).mono ?_;rintro e w' ⟨A',c',rfl,hc',ho,_,hw⟩;refine⟨A',c',rfl,hc',?_,hw.below hB lr hB.size⟩
  unfold Ch.turn
  rw[hN];exact ho
 clear hk h hN hkl
 go_enter Tryz.func43, Tryz.ntmps43
 go_wp2_with (first
  | (go_at_call 72;(with_reducible refine HNW.out.mono ?_);rintro e w1 ⟨rfl,hb1,hB1⟩;have HB1:=qh hb1;have HE1:=qh hB1;clear hb1 hB1)
  | (go_at_call 73;(with_reducible refine(HT.out w1 (by exact HB1.out) (by exact HE1.out)).mono ?_);rintro e w2 ⟨A2,c2,rfl,hc2,hown2,hB2⟩;have HO2:=qh (zbj hown2 (base':=w.heap.size) HE1.out.size);have HE2:=qh hB2;clear hown2 hB2))
 go_ret2;exact⟨A2,c2,rfl,hc2,HO2.out,HE2.out⟩
end Go.Proofs.YtpgpaenloaphaaaGreat
