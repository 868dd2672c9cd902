/- Part of the proof. -/
import Derived.Test.YtpgpaenloaphaaaGreatPkx16
set_option maxRecDepth 100000
set_option maxHeartbeats 0
namespace Go.Proofs.YtpgpaenloaphaaaGreat
open Go.RowKit
section
section
variable{P:Program}{w:World}{o:Oper}{a:Act}
theorem zc0{t e:TypeId}{x y:Operand}{g off n c p:Nat}(ho:o.op=.indexAddr t x y)(hx:a.eval x=.slice (some ⟨g,off,none⟩) n c)(hy:a.eval y=.int .i64 (p:Int))(hp:p<n)(hu:P.underlying t=some (.slice e))(hz:∀w,(sizeOf e).run P w=.ok 1 w):(execOp a.eval o).run P w=.ok (.value (.pointer (some ⟨g,off+p,none⟩))) w:=by
 unfold execOp
 simp[ho,hx,hy,Instr.indexAt,asIntOf,run_underlying hu,hz,hp,Addr.add]
end
theorem szSl(w:World):(sizeOf 22).run Tryz.prog w=.ok 1 w:=by kernel_rfl
theorem agSl(w:World):(isAgg 22).run Tryz.prog w=.ok false w:=by kernel_rfl
theorem zrg(x y:List UInt8):mixed x y 0=x:=by simp[mixed,Ch.xor]
theorem zs0(A:Option Addr)(c n:Nat)(x y:List UInt8)(w:World)(h:RdB w A 2 [x,y])(hx:x.length=n)(hy:y.length=n)(hn:n≤1000000):
 Calls Tryz.prog 136 #[.slice A 2 c] w fun e w'=>∃A' c',e=.returned (.tuple #[.slice A' n c',.int .i64 0])∧n≤c'∧w'.ownsRow w.heap.size 5 1 (.slice A' n c') n (u8s (Ch.xor x y))∧Below w.heap.size w w':=by
 have HXY:Hid (x.length=y.length):=by rw[hx,hy];exact rfl
 have HX:=qh hx;have HY:=qh hy;have HE:Hid (mixed x y n=Ch.xor x y):=by rw[←hx];exact zhm x y HXY.out
 have HR:=qh h;clear h hx hy
 go_enter Tryz.func136, Tryz.ntmps136
 go_wp2_with fail
 go_loopg [4,5] 2 (fun kk v q wr=>∃i:Nat,i≤2∧kk=2-i∧q=.int .i64 i∧Below w.heap.size w wr∧((i=0∧v=.slice none 0 0)∨(i≠0∧∃A' c',v=.slice A' n c'∧n≤c'∧wr.ownsRow w.heap.size 5 1 (.slice A' n c') n (u8s (if i=1 then x else Ch.xor x y)))))
 case atStart=>exact⟨0,by omega,rfl,rfl,Below.refl _ _,.inl ⟨rfl,rfl⟩⟩
 case round =>
  obtain⟨i,hi,hgk,rfl,hB,hcase⟩:=hrel;have HGK:=qh hgk;clear hgk;obtain rfl|rfl|rfl:i=0∨i=1∨i=2:=om
  · rcases hcase with ⟨_,rfl⟩|⟨h0,_⟩
    · have hlt2:((0:Nat):Int)<((2:Nat):Int):=om
      obtain⟨b,off,A1,n1,c1,l,rfl,hb,HL,hcl,hnc,hr1⟩:=(HR.out.below hB).at_ (k:=0) om;have hl:l=x:=by have:=HL.out;simp at this;exact this.symm
      subst hl;obtain rfl:n1=n:=by rw[←hr1.len,HX.out]
      have HC:=qh (zbk A1 n1 c1 l wr hr1 om);have HBE:=qh hB;rw[Nat.add_zero]at hcl;clear HL hr1 hB
      go_wp2_with ((go_at_call 12;(with_reducible refine HC.out.mono ?_);rintro e w1 ⟨A',c',rfl,hc',hown,hB1⟩
                    have HO1:=qh (za7 hown HBE.out.size);have HE1:=qtr HBE hB1
                    clear hown hB1))
      go_roundg (2-(0+1))
      case measure=>have:=HGK.out;omega
      case rel=>exact⟨0+1,by omega,rfl,rfl,HE1.out,.inr ⟨by omega,A',c',rfl,hc',HO1.out⟩⟩
    · exact absurd rfl h0
  · rcases hcase with ⟨h0,_⟩|⟨_,A',c',rfl,hc',hown⟩
    · exact absurd h0 om
    · have hlt2:((1:Nat):Int)<((2:Nat):Int):=om
      obtain⟨b,off,A1,n1,c1,l,rfl,hb,HL,hcl,hnc,hr1⟩:=HR.out.at_ (k:=1) om;have hl:l=y:=by have:=HL.out;simp at this;exact this.symm
      subst hl;obtain rfl:n1=n:=by rw[←hr1.len,HY.out]
      have HO:Hid (wr.ownsRow w.heap.size 5 1 (.slice A' n1 c') n1 (u8s (mixed x l 0))):=by show World.ownsRow _ _ _ _ _ _ _;rw[zrg];exact hown
      have HBE:=qh hB;have HR1:=qh hr1;have hcl1:wr.cell? ⟨b,off+1,none⟩=some (.slice A1 n1 c1):=(hB.cell (p:=⟨b,off+1,none⟩) hb).trans hcl;have HCL:=qh hcl;clear HL hr1 hB hown hcl;have h1b:((1:Nat):Int)=1:=rfl
      go_wp2_with fail
      go_loopg [6] n1 (fun kk q w2=>∃j:Nat,j≤n1∧kk=n1-j∧q=.int .i64 j∧w2.ownsRow w.heap.size 5 1 (.slice A' n1 c') n1 (u8s (mixed x l j))∧Below w.heap.size w w2)
      case atStart=>exact⟨0,by omega,rfl,rfl,HO.out,HBE.out⟩
      case round =>
       clear HO HBE hcl1;obtain⟨j,hj,hjk,rfl,hown,hB⟩:=hrel;have HJK:=qh hjk;clear hjk
       by_cases hlt:j<n1
       · have hlt3:(j:Int)<(n1:Int):=om
         obtain⟨g,rfl,hgb,hgl,_⟩:=zb6 hown om;obtain⟨b1,off1,v,rfl,hbl,HV,cv⟩:=HR1.out.u8 hlt;obtain⟨u,hu⟩:∃u,x[j]? = some u:=⟨_,ge9 (by rw[HX.out];exact hlt)⟩;have HU:=qh hu;have hml:=zhk x l j HXY.out;have cu:wr.drew.cell? ⟨g,j,none⟩=some (.int .u8 u.toNat):=(hown.cellAt j om).trans (by rw[u8s_getElem?,zhl x l j HXY.out (by rw[HX.out];exact hlt),hu];rfl);have fu:=hown.frozenAt j;have cv2:wr.drew.cell? ⟨b1,off1+j,none⟩=some (.int .u8 v.toNat):=(hB.cell (p:=⟨b1,off1+j,none⟩) hbl).trans cv;have cl2:wr.drew.cell? ⟨b,off+1,none⟩=some (.slice (some ⟨b1,off1,none⟩) n1 c1):=(hB.cell (p:=⟨b,off+1,none⟩) hb).trans HCL.out;have HXR:=qh (zfv u v);have hst:=(hown.drew.stored j (.int .u8 (u ^^^ v).toNat)).1;rw[zbg,zhj x l j HXY.out hu HV.out]at hst;have HST:=qh hst;have HB3:=qh ((hB.drew).setCell (p:=⟨g,j,none⟩) hgb (.int .u8 (u ^^^ v).toNat));clear hst hown hml hu cv;have HCU:=qh cu;have HCV:=qh cv2;have HCLL:=qh cl2;have HFU:=qh fu;clear cu cv2 cl2 fu
         go_wp2_with fail
         have hT:=And.intro HCU.out (And.intro HCV.out HCLL.out);refine kgo kr 15 (fun w'=>w'.cell? ⟨g,j,none⟩=some (.int .u8 u.toNat)∧w'.cell? ⟨b1,off1+j,none⟩=some (.int .u8 v.toNat)∧w'.cell? ⟨b,off+1,none⟩=some (.slice (some ⟨b1,off1,none⟩) n1 c1)) hT (fun _ _ _ _ _ h=>h) ?_;refine kp 0 (.slice (some ⟨g,0,none⟩) n1 c') rfl kr (fun _=>kr) ?_;refine kp 1 (.int .i64 j) rfl kr (fun _=>kr) ?_;refine kp 2 (.slice (some ⟨g,0,none⟩) n1 c') rfl kr (fun _=>kr) ?_;refine kp 3 (.int .i64 j) rfl kr (fun _=>kr) ?_;refine kp 4 (.pointer (some ⟨g,0+j,none⟩)) rfl kr (fun _=>zc0 (t:=22) (x:=.tmp 35) (y:=.tmp 36) (g:=g) (off:=0) (n:=n1) (c:=c') (p:=j) rr kr kr hlt Tryz.underlying22 szU8) ?_;refine kl 5 (.int .u8 u.toNat) rfl kr (fun w' hw'=>zaz (t:=5) (x:=.tmp 37) (p:=⟨g,0+j,none⟩) rr kr agU8 (by rw[Nat.zero_add];exact hw'.1)) ?_;refine kp 6 (.slice (some ⟨b,off,none⟩) 2 c) rfl kr (fun _=>kr) ?_;refine kp 7 (.int .i64 ((1:Nat):Int)) rfl kr (fun _=>kr) ?_;refine kp 8 (.pointer (some ⟨b,off+1,none⟩)) rfl kr (fun _=>zc0 (t:=87) (x:=.tmp 39) (y:=.tmp 40) (g:=b) (off:=off) (n:=2) (c:=c) (p:=1) rr kr kr om Tryz.underlying87 szSl) ?_;refine kl 9 (.slice (some ⟨b1,off1,none⟩) n1 c1) rfl kr (fun w' hw'=>zaz (t:=22) (x:=.tmp 41) (p:=⟨b,off+1,none⟩) rr kr agSl hw'.2.2) ?_;refine kp 10 (.int .i64 j) rfl kr (fun _=>kr) ?_;refine kp 11 (.pointer (some ⟨b1,off1+j,none⟩)) rfl kr (fun _=>zc0 (t:=22) (x:=.tmp 42) (y:=.tmp 43) (g:=b1) (off:=off1) (n:=n1) (c:=c1) (p:=j) rr kr kr hlt Tryz.underlying22 szU8) ?_;refine kl 12 (.int .u8 v.toNat) rfl kr (fun w' hw'=>zaz (t:=5) (x:=.tmp 44) (p:=⟨b1,off1+j,none⟩) rr kr agU8 hw'.2.1) ?_;refine kp 13 (.int .u8 (bits .xor .u8 (u.toNat:Int) (v.toNat:Int))) rfl kr (fun _=>kr) ?_;refine kp 14 (.pointer (some ⟨g,0+j,none⟩)) rfl kr (fun _=>zc0 (t:=22) (x:=.tmp 33) (y:=.tmp 34) (g:=g) (off:=0) (n:=n1) (c:=c') (p:=j) rr kr kr hlt Tryz.underlying22 szU8) ?_;intro q8 q9;clear q8 q9;refine AnyK.store 15 (d:=none) (op:=.store 5 (.tmp 47) (.tmp 46)) kr (fun o ho=>zct (p:=⟨g,0+j,none⟩) (k:=.u8) (n:=((u ^^^ v).toNat:Int)) ho kr (by rw[←HXR.out];kernel_rfl) szU8 (by rw[Nat.zero_add];exact hT.1) (by rw[Nat.zero_add];exact HFU.out)) kr (fun h=>(by cases h)) ?_;refine AnyK.done kr ?_;rw[Nat.zero_add];clear hT
         go_wp2_with fail
         go_roundg (n1-(j+1))
         case measure=>have:=HJK.out;omega
         case rel=>exact⟨j+1,by omega,rfl,by go_num,HST.out,HB3.out⟩
       · obtain rfl:j=n1:=om
         have hlt3:¬(j:Int)<(j:Int):=om;rw[HE.out]at hown;have HO:=qh hown;clear hown
         go_wp2_with fail
         go_roundg (2-(1+1))
         case measure=>have:=HGK.out;omega
         case rel=>exact⟨1+1,by omega,rfl,rfl,hB,.inr ⟨by omega,A',c',rfl,hc',HO.out⟩⟩
  · rcases hcase with ⟨h0,_⟩|⟨_,A',c',rfl,hc',hown⟩
    · exact absurd h0 om
    · have hlt2:¬((2:Nat):Int)<((2:Nat):Int):=om
      have HO:Hid (wr.ownsRow w.heap.size 5 1 (.slice A' n c') n (u8s (Ch.xor x y))):=hown;clear hown
      go_wp2_with fail
      go_ret2;exact⟨A',c',rfl,hc',HO.out,hB⟩
end
section
structure Cm where
 k:UInt8
 f:UInt8
 d:Nat
 n:Nat
 m:List UInt8
namespace Cm
def cells(c:Cm):List Value:=.int .u8 c.k.toNat :: .int .u8 c.f.toNat :: .int .u32 (c.d:Int) :: .int .u64 (c.n:Int) :: u8s c.m
def ok(c:Cm):Prop:=c.d<4294967296∧c.n<18446744073709551616∧c.m.length=16
def zero:Cm:=⟨0,0,0,0,List.replicate 16 0⟩
theorem zero_ok:zero.ok:=⟨by decide,by decide,rfl⟩
def shaped(c:Cm):Bool:=if (decide (c.k=1) != decide (c.n≠0))=true then false else (decide (c.k=4)|| decide (c.m=List.replicate 16 0))
def check(c:Cm):Nat:=if c.k.toNat<1∨4<c.k.toNat then 1 else if c.shaped=false then 3 else if 1000000<c.d then 11 else 0
theorem cells_len{c:Cm}(h:c.ok):c.cells.length=20:=by simp[cells,zaa,h.2.2]
theorem cells_one(c:Cm):∀v∈c.cells,v.oneCell'=true:=by
 intro v hv;simp only[cells,List.mem_cons]at hv
 rcases hv with rfl|rfl|rfl|rfl|hv
 · rfl
 · rfl
 · rfl
 · rfl
 · exact zac _ v hv
theorem cells_mark(c:Cm):(c.cells.drop 4)=u8s c.m:=rfl
end Cm
theorem hd76c:(Tryz.prog.info? 47).map (·.size)=some 20:=by kernel_rfl
theorem hd16c:(Tryz.prog.info? 29).map (·.size)=some 16:=by kernel_rfl
theorem zru(v:Value):Instr.loadAt 29 v=ldAt 29 v:=rfl
theorem zcw(v:Value):Instr.loadAt 47 v=ldAt 47 v:=rfl
theorem zr4(x y:Value):binOp .eql 29 x y=eqAt 29 x y:=rfl
def bld16:Sem Value:=Instr.build 29 #[]
theorem zn1:Instr.build 29 #[]=bld16:=rfl
attribute [local go_sem ↓] zru zr4 zn1 zcw
theorem zo7{w:World}{g:Nat}{t:TypeId}{c:Cm}(hb:Blk w g t c.cells)(hc:c.ok):(ldAt 29 (.pointer (some ⟨g,4,none⟩))).run Tryz.prog w=.ok (.agg (u8s c.m).toArray) w :=
 zat hb _ 4 (u8s c.m) (by rw[Cm.cells_mark,tk lr]) _ Tryz.underlying29 rfl (by rw[zaa,hc.2.2];exact hd16c)
theorem k_eq(a b:UInt8):((a.toNat:Int) == (b.toNat:Int))=decide (a=b):=by
 rw[Bool.eq_iff_iff,beq_iff_eq,decide_eq_true_iff];exact⟨fun h=>UInt8.toNat_inj.1 om,fun h=>by rw[h]⟩
theorem n_ne(n:Nat):((n:Int) != 0)=decide (n≠0):=by
 rw[Bool.eq_iff_iff,bne_iff_ne,decide_eq_true_iff];omega
theorem zij(c:Cm)(hc:c.ok)(w:World):
 Calls Tryz.prog 109 #[.agg c.cells.toArray] w fun e w'=>e=.returned (.bool c.shaped)∧Below w.heap.size w w':=by
 obtain⟨C,hC⟩:=ex9 (c.cells);have hb:Blk (w.alloc (.cells C.toArray 47)) w.heap.size 47 C:=Blk.new w _ _;have c0:(w.alloc (.cells C.toArray 47)).cell? ⟨w.heap.size,0,none⟩=some (.int .u8 c.k.toNat):=by rw[hb.cell,hC];rfl
 have c3:(w.alloc (.cells C.toArray 47)).cell? ⟨w.heap.size,3,none⟩=some (.int .u64 (c.n:Int)):=by rw[hb.cell,hC];rfl
 have hld:(ldAt 29 (.pointer (some ⟨w.heap.size,4,none⟩))).run Tryz.prog (w.alloc (.cells C.toArray 47))=.ok (.agg (u8s c.m).toArray) (w.alloc (.cells C.toArray 47)):=by
  subst hC;exact zo7 hb hc
 have heq:∀W,(eqAt 29 (.agg (u8s c.m).toArray) (.agg #[.int .u8 0,.int .u8 0,.int .u8 0,.int .u8 0,.int .u8 0,.int .u8 0,.int .u8 0,.int .u8 0,.int .u8 0,.int .u8 0,.int .u8 0,.int .u8 0,.int .u8 0,.int .u8 0,.int .u8 0,.int .u8 0])).run Tryz.prog W=.ok (.bool (decide (c.m=List.replicate 16 0))) W:=fun W=>eq16 c.m (List.replicate 16 0) hc.2.2 rfl W
 have e1:((c.k.toNat:Int) == 1)=decide (c.k=1):=k_eq c.k 1;have e2:((c.n:Int) != 0)=decide (c.n≠0):=n_ne c.n;have e3:((c.k.toNat:Int) == 4)=decide (c.k=4):=k_eq c.k 4;have HS:Hid (c.shaped=if (decide (c.k=1) != decide (c.n≠0))=true then false else (decide (c.k=4)|| decide (c.m=List.replicate 16 0))):=rfl;rw[←hC];obtain⟨S,hSS⟩:=ex9 (c.shaped);rw[←hSS]at HS ⊢;generalize u8s c.m=M at *;generalize decide (c.m=List.replicate 16 0)=pm at *;generalize decide (c.k=1)=p1 at *;generalize decide (c.k=4)=p4 at *;generalize decide (c.n≠0)=pn at *;generalize (c.k.toNat:Int)=K at *;generalize (c.n:Int)=NN at *;have HE:=qh ((Below.refl w.heap.size w).alloc lr (.cells C.toArray 47));clear hC hb hc hSS
 cases hx:(p1 == pn)with
 | false =>
  rw[show(p1 != pn)=true by rw[bne,hx];rfl,if_pos rfl]at HS
  go_enter Tryz.func109, Tryz.ntmps109
  go_wp2_with fail
  go_ret;exact⟨by rw[HS.out];rfl,HE.out⟩
 | true =>
  rw[show(p1 != pn)=false by rw[bne,hx];rfl,if_neg (by decide)]at HS
  cases p4 with
  | true =>
   go_enter Tryz.func109, Tryz.ntmps109
   go_wp2_with fail
   go_ret;exact⟨by rw[HS.out];rfl,HE.out⟩
  | false =>
   go_enter Tryz.func109, Tryz.ntmps109
   go_wp2_with fail
   go_ret;exact⟨by rw[HS.out];rfl,HE.out⟩
theorem cm_ld{w:World}{g:Nat}{t:TypeId}{C:List Value}(hb:Blk w g t C)(hl:C.length=20):(ldAt 47 (.pointer (some ⟨g,0,none⟩))).run Tryz.prog w=.ok (.agg C.toArray) w :=
 zat hb _ 0 C (by rw[List.drop_zero,tk lr]) _ Tryz.underlying47 rfl (by rw[hl];exact hd76c)
theorem znz(c:Cm)(hc:c.ok)(w:World):
 Calls Tryz.prog 75 #[.agg c.cells.toArray] w fun e w'=>e=.returned (.int .i64 (c.check:Int))∧Below w.heap.size w w':=by
 have HSH:=qh (fun W=>zij c hc W);have hl:=Cm.cells_len hc;obtain⟨C,hC⟩:=ex9 (c.cells);have hb:Blk (w.alloc (.cells C.toArray 47)) w.heap.size 47 C:=Blk.new w _ _;have c0:(w.alloc (.cells C.toArray 47)).cell? ⟨w.heap.size,0,none⟩=some (.int .u8 c.k.toNat):=by rw[hb.cell,hC];rfl
 rw[←hC]at hl HSH ⊢;have hld:(ldAt 47 (.pointer (some ⟨w.heap.size,0,none⟩))).run Tryz.prog (w.alloc (.cells C.toArray 47))=.ok (.agg C.toArray) (w.alloc (.cells C.toArray 47)):=cm_ld hb hl;have HC2:Hid (C[2]? = some (.int .u32 (c.d:Int))):=by rw[hC];rfl
 have HE:=qh ((Below.refl w.heap.size w).alloc lr (.cells C.toArray 47));have HB:=qh hb;have HCK:Hid (c.check=if c.k.toNat<1∨4<c.k.toNat then 1 else if c.shaped=false then 3 else if 1000000<c.d then 11 else 0):=rfl;obtain⟨R,hR⟩:=ex9 (c.check);rw[←hR]at HCK ⊢;generalize c.shaped=S at *;generalize c.k.toNat=K at *;generalize c.d=D at *;clear hb hl hC hR hc
 by_cases h1:K<1
 · rw[if_pos (.inl h1)]at HCK
   have i1:(K:Int)<1:=om
   go_enter Tryz.func75, Tryz.ntmps75
   go_wp2_with fail
   go_ret;exact⟨by rw[HCK.out];rfl,HE.out⟩
 · have i1:¬(K:Int)<1:=om
   by_cases h4:4<K
   · rw[if_pos (.inr h4)]at HCK
     have i4:(4:Int)<(K:Int):=om
     go_enter Tryz.func75, Tryz.ntmps75
     go_wp2_with fail
     go_ret;exact⟨by rw[HCK.out];rfl,HE.out⟩
   · have i4:¬(4:Int)<(K:Int):=om
     rw[if_neg om]at HCK
     cases S with
     | false =>
      rw[if_pos rfl]at HCK
      go_enter Tryz.func75, Tryz.ntmps75
      go_wp2_with (go_at_call 109;(with_reducible refine(HSH.out _).mono ?_);rintro e w1 ⟨rfl,hB1⟩;have HE1:=qh (HE.out.trans (hB1.mono sy));clear hB1)
      go_ret;exact⟨by rw[HCK.out];rfl,HE1.out⟩
     | true =>
      rw[if_neg (by decide)]at HCK
      by_cases hd:1000000<D
      · have i5:(1000000:Int)<(D:Int):=om
        rw[if_pos hd]at HCK
        go_enter Tryz.func75, Tryz.ntmps75
        go_wp2_with (go_at_call 109;(with_reducible refine(HSH.out _).mono ?_);rintro e w1 ⟨rfl,hB1⟩;have HE1:=qh (HE.out.trans (hB1.mono sy));have c2:w1.cell? ⟨w.heap.size,2,none⟩=some (.int .u32 (D:Int)):=by rw[(HB.out.below hB1 HB.out.lt).cell];exact HC2.out
                     clear hB1)
        go_ret;exact⟨by rw[HCK.out];rfl,HE1.out⟩
      · have i5:¬(1000000:Int)<(D:Int):=om
        rw[if_neg hd]at HCK
        go_enter Tryz.func75, Tryz.ntmps75
        go_wp2_with (go_at_call 109;(with_reducible refine(HSH.out _).mono ?_);rintro e w1 ⟨rfl,hB1⟩;have HE1:=qh (HE.out.trans (hB1.mono sy));have c2:w1.cell? ⟨w.heap.size,2,none⟩=some (.int .u32 (D:Int)):=by rw[(HB.out.below hB1 HB.out.lt).cell];exact HC2.out
                     clear hB1)
        go_ret;exact⟨by rw[HCK.out];rfl,HE1.out⟩
end
def diff(a b:List UInt8):Nat→UInt8
 | 0=>0
 | i+1=>diff a b i ||| (a.getD i 0 ^^^ b.getD i 0)
end Go.Proofs.YtpgpaenloaphaaaGreat
