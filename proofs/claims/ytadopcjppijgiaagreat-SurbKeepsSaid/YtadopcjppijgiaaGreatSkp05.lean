/- Part of the proof. -/
import Derived.Test.YtadopcjppijgiaaGreatSkp04
set_option linter.all false
set_option maxRecDepth 100000
set_option maxHeartbeats 0
namespace Go.Proofs.YtadopcjppijgiaaGreat
open Go.RowKit
section
section
variable{P:Program}{w:World}{ops:Array Oper}{rest:List Oper}{o:Oper}{a:Act}{K:Act→World→Prop}{Q:Exit→Act→World→Prop}
end
def hCells(st:List UInt32)(op:List UInt8)(n:Nat)(post:List Value):List Value:=u32s st++(u8s op++(.int .i64 n :: post))
theorem zdo{st:List UInt32}{op:List UInt8}{n:Nat}{post:List Value}(h1:st.length=8)(h2:op.length=64):(hCells st op n post)[72]? = some (.int .i64 n):=by
 unfold hCells
 rw[ar9 (by rw[za4];omega),za4,ar9 (by rw[zaa];omega),zaa,h1,h2]
 rfl
theorem zlu{st:List UInt32}{op:List UInt8}{n m:Nat}{post:List Value}(h1:st.length=8)(h2:op.length=64):(hCells st op n post).set 72 (.int .i64 m)=hCells st op m post:=by
 unfold hCells
 rw[List.set_append_right _ _ (by rw[za4];omega),za4,List.set_append_right _ _ (by rw[zaa];omega),zaa,h1,h2]
 rfl
theorem zb9{st:List UInt32}{op:List UInt8}{n:Nat}{post:List Value}(h1:st.length=8)(h2:op.length=64):(hCells st op n post).length=73+post.length:=by
 unfold hCells
 simp[za4,zaa,h1,h2];omega
theorem zs3{st:List UInt32}{op:List UInt8}{n:Nat}{post:List Value}: ((hCells st op n post).drop 0).take (u32s st).length=u32s st:=by
 unfold hCells;rw[List.drop_zero,List.take_left]
theorem zsz(v:Value):Instr.loadAt 165 v=ldAt 165 v:=rfl
attribute [local go_sem ↓] zsz zl6
theorem zgc(g:Nat)(n:Int)(w:World)(hn:n<64):Calls Tryz.prog 147 #[.pointer (some ⟨g,0,none⟩),.int .i64 n] w fun e w'=>e=.returned (.agg (st8 Sh.start).toArray)∧Below w.heap.size w w':=by
 have D:=qh zqu;have r:Hid ((Tryz.prog.info? 165).map (·.size)=some (u32s Sh.start.list).length):=hd144;have H1:Hid (∀v∈u32s Sh.start.list,v.oneCell'=true):=zbc _;have HL:Hid ((u32s Sh.start.list).length=8):=rfl;obtain⟨U,hU⟩:=ex9 (u32s Sh.start.list);rw[←hU]at D r H1 HL;have HE:Hid (U=st8 Sh.start):=hU;clear hU
 go_enter Tryz.func147, Tryz.ntmps147
 go_wp2_with (first
  | (go_at_call 160;(with_reducible refine(D.o _).mono ?_);rintro e w3 ⟨rfl,A⟩)
  | (refine zab rfl 165 (.tmp 4) (.tmp 7) rfl w.heap.size U rr rr 165 (u32s [0,0,0,0,0,0,0,0]) (by exact(Blk.new' rfl rfl:Blk _ w.heap.size _ _).below A sy) r.o H1.o (by rw[HL.o];rfl) ?_;intro w4 E G))
 exact bodyPost_ret (zan rfl _ w.heap.size _ U rfl E _ Tryz.underlying165 rfl r.o) rfl ⟨by rw[HE.o],G.below (((Below.refl _ _).alloc lr _).trans (A.mono sy)) lr (by have:=A.size;simp at this;omega)⟩
theorem zjg(g:Nat)(T:TypeId)(st:List UInt32)(op:List UInt8)(m:Nat)(post:List Value)(n:Int)(w:World)(hn:64≤n)(hb:Blk w g T (hCells st op m post))(hs:st.length=8):Calls Tryz.prog 147 #[.pointer (some ⟨g,0,none⟩),.int .i64 n] w fun e w'=>e=.returned (.agg (u32s st).toArray)∧Below w.heap.size w w':=by
 have A:Hid ((Tryz.prog.info? 165).map (·.size)=some (u32s st).length):=by rw[za4,hs];exact hd144
 have H1:Hid (∀v∈u32s st,v.oneCell'=true):=zbc _;have HL:Hid ((u32s st).length=8):=by show _=_;rw[za4,hs]
 have r:=zal (P:=Tryz.prog) (hb.alloc (.cells (u32s [0,0,0,0,0,0,0,0]).toArray 165)) 165 0 (u32s st) zs3 _ Tryz.underlying165 rfl A.o;have J:=hb.lt;obtain⟨U,hU⟩:=ex9 (u32s st);rw[←hU]at A H1 HL r;have HE:=qh hU;have HB:=qh hb;clear hU hb;have I:¬n<64:=om;have hz:Blk (w.alloc (.cells (u32s [0,0,0,0,0,0,0,0]).toArray 165)) w.heap.size 165 (u32s [0,0,0,0,0,0,0,0]):=Blk.new w _ _;have D:Hid ((ldAt 165 (.pointer (some ⟨g,0,none⟩))).run Tryz.prog (w.alloc (.cells #[.int .u32 0,.int .u32 0,.int .u32 0,.int .u32 0,.int .u32 0,.int .u32 0,.int .u32 0,.int .u32 0] 165))=.ok (.agg U.toArray) (w.alloc (.cells #[.int .u32 0,.int .u32 0,.int .u32 0,.int .u32 0,.int .u32 0,.int .u32 0,.int .u32 0,.int .u32 0] 165))):=r;clear r hz;have r:=D.o
 go_enter Tryz.func147, Tryz.ntmps147
 go_wp2_with (first
  | (refine zab rfl 165 (.tmp 4) (.tmp 11) rfl w.heap.size U rr rr 165 (u32s [0,0,0,0,0,0,0,0]) (by exact Blk.new' rfl rfl) A.o H1.o (by rw[HL.o];rfl) ?_;intro w4 E G))
 exact bodyPost_ret (zan rfl _ w.heap.size _ U rfl E _ Tryz.underlying165 rfl A.o) rfl ⟨by rw[HE.o],G.below ((Below.refl _ _).alloc lr _) lr sy⟩
end
section
def HashIn(w:World)(g:Nat)(T:TypeId)(post:List Value)(l:List UInt8):Prop:=∃st op,Blk w g T (hCells st op l.length post)∧Sh.HSt l st op
theorem HashIn.below{w w':World}{g:Nat}{T:TypeId}{post:List Value}{l:List UInt8}(h:HashIn w g T post l)(hb:Below w.heap.size w w'):HashIn w' g T post l:=by
 obtain⟨st,op,h1,h2⟩:=h;exact⟨st,op,h1.below hb h1.lt,h2⟩
theorem HashIn.lt{w:World}{g:Nat}{T:TypeId}{post:List Value}{l:List UInt8}(h:HashIn w g T post l):g<w.heap.size:=by
 obtain⟨st,op,h1,h2⟩:=h;exact h1.lt
theorem zbk:(Tryz.prog.info? 5).map (·.size)=some 1:=by kernel_rfl
theorem al145:Tryz.prog.arrayLen 187 = 64:=by kernel_rfl
theorem sz145(w:World):(sizeOf (Tryz.prog.elem 187)).run Tryz.prog w=.ok 1 w:=by kernel_rfl
theorem sl145(g o f:Nat)(hf:f<64)(w:World):(Instr.sliceAt 187 (.pointer (some ⟨g,o,none⟩)) (some (.int .i64 f)) none none).run Tryz.prog w=.ok (.slice (some ⟨g,o+f,none⟩) (64-f) (64-f)) w:=by
 have h1:(f:Int)≤Tryz.prog.arrayLen 187:=by rw[al145];omega
 rw[run_sliceAt_array_l (P:=Tryz.prog) (t:=187) w ⟨g,o,none⟩ kr .i64 f om h1,sz145,al145];simp only[Result.andThen_ok,slicedAt,Int.toNat_natCast,Nat.mul_one,if_neg (show ¬64=f by omega),Addr.add_mid]
theorem zm2{st:List UInt32}{op:List UInt8}{n:Nat}{post:List Value}(h1:st.length=8)(h2:op.length=64)(f:Nat)(r:List UInt8)(hf:f+r.length≤64):splice (hCells st op n post) (8+f) (u8s r)=hCells st (splice op f r) n post:=by
 unfold hCells splice
 have e1:(u32s st).length=8:=by rw[za4,h1]
 rw [List.take_append,List.drop_append,e1,show 8+f-8=f by omega,tk om,List.drop_of_length_le (l:=u32s st) (by rw[zaa];omega),zaa,show 8+f+r.length-8=f+r.length by omega,
   List.take_append_of_le_length (by rw[zaa];omega),List.drop_append_of_le_length (by rw[zaa];omega)]
 simp[zae,zay,za9,List.append_assoc]
theorem zja{st:List UInt32}{op:List UInt8}{n:Nat}{post:List Value}(h1:st.length=8)(h2:op.length=64):((hCells st op n post).drop 8).take 64=u8s op:=by
 unfold hCells
 have e1:(u32s st).length=8:=by rw[za4,h1]
 rw[List.drop_append_of_le_length om,List.drop_of_length_le om,List.nil_append,List.take_append_of_le_length (by rw[zaa];omega),tk (by rw[zaa];omega)]
theorem zf7{st r:List UInt32}{op:List UInt8}{n:Nat}{post:List Value}(h1:st.length=8)(h2:r.length=8):splice (hCells st op n post) 0 (u32s r)=hCells r op n post:=by
 unfold hCells splice
 have e1:(u32s st).length=8:=by rw[za4,h1]
 rw[List.take_zero,List.nil_append,za4,h2,Nat.zero_add,List.drop_append_of_le_length om,List.drop_of_length_le om,List.nil_append]
attribute [local go_sem ↓] zsz zl6
theorem ztr(g:Nat)(T:TypeId)(post:List Value)(l p:List UInt8)(A:Option Addr)(n c:Nat)(w:World)(h:HashIn w g T post l)(hr:Rd w A n (u8s p))(hc:n≤c)(hA:0<n→∀ad:Addr,A=some ad→ad.block≠g)(hl:l.length+n≤1099511627776):
 Calls Tryz.prog 127 #[.pointer (some ⟨g,0,none⟩),.slice A n c] w fun e w'=>e=.returned (.tuple #[])∧HashIn w' g T post (l++p)∧Wrote g w w':=by
 have HP:=qh hr.len
 go_enter Tryz.func127, Tryz.ntmps127
 go_wp2_with fail
 go_loopg [1] n (fun k q wr=>∃(j:Nat) (A':Option Addr) (m c':Nat),k=m∧m+j=n∧q=.slice A' m c'∧m≤c'∧Rd wr A' m (u8s (p.drop j))∧(0<m→∀ad:Addr,A'=some ad→ad.block≠g)∧HashIn wr g T post (l++p.take j)∧Wrote g w wr)
 case atStart=>exact⟨0,A,n,c,rfl,by omega,rfl,hc,by simpa using hr,hA,by simpa using h,Wrote.refl _ _⟩
 case round =>
  clear h hr hA hc;obtain⟨j,A',m,c',e3,f9,rfl,g5,hr,hA,e4,hW⟩:=hrel;have c3:=qh e3;clear e3
  by_cases h0:0<m
  · obtain⟨st,op,hb,hst⟩:=e4
    obtain⟨L,hL⟩:=ex9 (l++p.take j);rw[←hL]at hb hst;have f3:=qh hL;obtain⟨N,hN⟩:∃N,L.length=N:=⟨_,rfl⟩;have f8:N+m≤1099511627776:=by rw[←hN,hL];simp[HP.o];omega
    rw[hN]at hb;have HN:=qh hN;have r:=qh hst;obtain⟨b,o,rfl,g4,_⟩:=hr.2 h0;have J:b≠g:=hA h0 _ rfl;have e9:=(hb.cell 72).trans (zdo hst.len hst.olen);obtain⟨f,hf⟩:∃f,N%64=f:=⟨_,rfl⟩;have d8:f<64:=om;have f2:(N:Int)%64=(f:Int):=om;have f0:=sl145 g 8 f d8 wr;obtain⟨q,hq⟩:=ex9 (p.drop j);rw[←hq]at hr;have d6:q.length=m:=hr.len;obtain⟨d,hd⟩:∃d,min (64-f) m=d:=⟨_,rfl⟩;have b5:d≤m:=om;have g3:d≤64-f:=om;have g6:0<d:=om
    have d9:(u8s q).take (64-f)=u8s (q.take d):=by
     rw[zay]
     rcases Nat.le_total (64-f) m with h|h
     · rw[show 64-f=d by omega]
     · rw[tk om,tk om]
    have e0:(u8s (q.take d)).length=d:=by rw[zaa,List.length_take];omega
    have e6:=qh d9;have g7:=qh e0;have e5:Hid (min (64-f) (u8s q).length=d):=by rw[zaa,d6];exact hd
    have HF:Hid (L.length%64=f):=by show _=_;rw[hN];exact hf
    have HQ:=qh hq;have HR:=qh hr;have c9:=zb9 (n:=N) (post:=post) hst.len hst.olen;have e8:Hid (8+f+(64-f)≤(hCells st op N post).length):=by rw[c9];show _≤_;omega
    have e7:Hid (splice (hCells st op N post) (8+f) (u8s (q.take d))=hCells st (splice op f (q.take d)) N post):=zm2 hst.len hst.olen f _ (by rw[List.length_take];omega);have HD:=qh hd;have a7:=qh d6;clear hL hN hst hf hq hr d9 e0 c9 hd d6;have HB:=qh hb;clear hb
    go_wp2_with (refine zav rfl (.tmp 18) (.tmp 19) 22 rfl 5 Tryz.underlying22 zbk g (8+f) (64-f) (64-f) rr (some ⟨b,o,none⟩) m c' rr T (hCells st op N post) HB.o (u8s q) HR.o (zac _) e8.o ?_)
    rw[e6.o,e5.o];intro w1 a8 d5;rw[e7.o]at a8;have d7:Rd w1 (some ⟨b,o,none⟩) m (u8s q):=d5.rd HR.o (fun ad e=>by injection e with e;subst e;exact J);have f1:=qh (hW.only d5);have c6:(splice op f (q.take d)).length=64:=by rw[length_splice _ _ _ (by have:=r.o.olen;rw[List.length_take];omega)];exact r.o.olen
    have M:=qh c6;have f5:=(a8.cell 72).trans (zdo r.o.len c6);have g1:=a8.frozen 72
    have D:Hid (Blk (w1.setCell ⟨g,72,none⟩ (.int .i64 ((N+d:Nat):Int))) g T (hCells st (splice op f (q.take d)) (N+d) post)):=by
     have:=a8.set_ 72 (.int .i64 ((N+d:Nat):Int));rw[zlu r.o.len c6]at this;exact this
    have a4:=qh (f1.o.setCell 72 (.int .i64 ((N+d:Nat):Int)));have g2:=a8.lt
    have c8:Hid (∀A2,(0<m-d→A2=some ⟨b,o+d,none⟩)→Rd w1 A2 (m-d) (u8s (q.drop d))):=fun A2 h2=>by
     have:=d7.cut (A':=A2) (m:=m) (k:=d) lr b5 (fun hk b' o' e=>by injection e with e;injection e with e1 e2;subst e1;subst e2;exact h2 om);rw[tk (by rw[zaa,a7.o];exact lr),za9]at this;exact this
    have a5:Hid (∀A2,Rd w1 A2 (m-d) (u8s (q.drop d))→(∀ad:Addr,A2=some ad→ad.block≠g)→Rd (w1.setCell ⟨g,72,none⟩ (.int .i64 ((N+d:Nat):Int))) A2 (m-d) (u8s (q.drop d))):=fun A2 h1 h2=>Rd.wrote h1 ((Wrote.refl w1 g).setCell 72 _) (fun _=>h2)
    have c7:Hid (q.drop d=p.drop (j+d)):=by show _=_;rw[HQ.o,List.drop_drop]
    have c4:Hid (L++q.take d=l++p.take (j+d)):=by
     show _=_
     rw[f3.o,HQ.o,as9,←List.take_add]
    have c5:Hid ((L++q.take d).length=N+d):=by
     show _=_
     rw[la9,HN.o,List.length_take,a7.o];omega
    clear c6 a8 d5 d7 f0 f2 e9;have I:((N+d:Nat):Int)=(N:Int)+(d:Int):=om;have f4:(d:Int)≤(m:Int):=om;have f6:(d:Int)≤(c':Int):=om;rw[I]at D a4 a5
    by_cases hcd:c'=d
    · have f7:m=d:=om
      by_cases h64:f+d=64
      · have d3:(((f:Int)+(d:Int)) == 64)=true:=by rw[beq_iff_eq];omega
        have U:Hid (Sh.HSt (L++q.take d) (Sh.comp (Sh.fold L (L.length/64)) (splice op f (q.take d))).list (splice op f (q.take d))):=by have:=r.o.full (p:=q) d (by rw[a7.o];exact b5) (by rw[HF.o];exact h64);rw[HF.o]at this;exact this
        obtain⟨F,hF⟩:=ex9 (Sh.fold L (L.length/64))
        have b3:Hid (∀W,Blk W g T (hCells st (splice op f (q.take d)) (N+d) post)→Calls Tryz.prog 147 #[.pointer (some ⟨g,0,none⟩),.int .i64 ((N:Int)+(d:Int)-64)] W fun e w'=>e=.returned (.agg (st8 F).toArray)∧Below W.heap.size W w'):=fun W hbW=>by
         by_cases hk:N<64
         · have:F=Sh.start:=by rw[hF];exact Sh.fold_small (by rw[HN.o];exact hk)
           rw[this];exact zgc g _ W om
         · have:st=F.list:=by rw[hF];exact r.o.state (by rw[HN.o];omega)
           have h2:=zjg g T st _ _ post ((N:Int)+(d:Int)-64) W (by have h3:=HF.o;rw[HN.o]at h3;omega) hbW r.o.len;rw[this]at h2;exact h2
        have a1:Hid (∀W,Blk W g T (hCells st (splice op f (q.take d)) (N+d) post)→Calls Tryz.prog 146 #[.agg (st8 F).toArray,.slice (some ⟨g,8,none⟩) 64 64] W fun e w'=>e=.returned (.tuple #[.agg (st8 (Sh.comp F (splice op f (q.take d)))).toArray,.int .i64 0])∧Below W.heap.size W w'):=fun W hbW=>zga F _ 64 _ W (by
         have:=hbW.rd 8 64 (by rw[zb9 r.o.len M.o];omega)
         rwa [zja r.o.len M.o]at this)
        rw[←hF]at U;have c1:Hid (∀v∈st8 (Sh.comp F (splice op f (q.take d))),v.oneCell'=true):=by rw[zdl];exact zbc _
        have b4:Hid ((Tryz.prog.info? 165).map (·.size)=some (st8 (Sh.comp F (splice op f (q.take d)))).length):=hd144;have Y:Hid (0+(st8 (Sh.comp F (splice op f (q.take d)))).length≤(hCells st (splice op f (q.take d)) (N+d) post).length):=by rw[zb9 r.o.len M.o];show 0+8≤_;omega
        have a2:Hid (splice (hCells st (splice op f (q.take d)) (N+d) post) 0 (st8 (Sh.comp F (splice op f (q.take d))))=hCells (Sh.comp F (splice op f (q.take d))).list (splice op f (q.take d)) (N+d) post):=by rw[zdl];exact zf7 r.o.len rfl
        obtain⟨G,hG⟩:=ex9 (st8 (Sh.comp F (splice op f (q.take d))));rw[←hG]at a1 c1 b4 Y a2;obtain⟨F8,b1⟩:=ex9 (st8 F);rw[←b1]at b3 a1;clear hF hG b1
        go_wp2_with fail
        have E:(w1.setCell ⟨g,72,none⟩ (.int .i64 ((N:Int)+(d:Int)))).cell? ⟨g,72,none⟩=some (.int .i64 ((N:Int)+(d:Int))):=by
         have:=(D.o.cell 72).trans (zdo r.o.len M.o);rw[I]at this;exact this
        obtain⟨w2,a9⟩:=ex9 (w1.setCell ⟨g,72,none⟩ (.int .i64 ((N:Int)+(d:Int))));rw[←a9]at D a4 a5 E ⊢;clear a9;have b6:IntKind.i64.wrap ((N:Int)+(d:Int)-64)=(N:Int)+(d:Int)-64:=IntWalk.i64_in _ om
        go_region_held3 (fun W'=>W'.cell? ⟨g,72,none⟩=some (.int .i64 ((N:Int)+(d:Int)))) (first|assumption|exact E|exact a0|exact b9|exact c2) (first
         | (go_at_call 147;(with_reducible refine(b3.o _ (by exact D.o.drew)).mono ?_);rintro e w3 ⟨rfl,V⟩;have a3:=qh (D.o.drew.below V D.o.lt);have a0:=(V.cell (p:=⟨g,72,none⟩) (by exact D.o.lt)).trans E)
         | (go_at_call 146;(with_reducible refine(a1.o _ (by exact a3.o)).mono ?_);rintro e w4 ⟨rfl,X⟩;have a6:=qbl a3 X;have b9:=(X.cell (p:=⟨g,72,none⟩) (by exact a3.o.lt)).trans a0;have b7:=zcr (P:=Tryz.prog) a6.o 165 0 G Y.o c1.o b4.o;have c2:(w4.setCells g 0 G).cell? ⟨g,72,none⟩=some (.int .i64 ((N:Int)+(d:Int))):=by { have h5:=za2 g _ G 0 _ _ a6.o Y.o;rw[a2.o]at h5;rw[←I];exact(h5.cell 72).trans (zdo rfl M.o) }))
        have c0:=qh (za2 g _ G 0 _ _ a6.o Y.o);rw[a2.o]at c0;have d4:=qh ((((a4.o.drew).then V).then X).only (Only.of_setCells w4 g 0 G));have b2:=qh (((((Wrote.refl w2 g).drew).then V).then X).only (Only.of_setCells w4 g 0 G));clear b7 b6 E a0 b9 c2
        go_wp2_with fail
        go_roundg (m-d)
        case measure=>have:=c3.o;omega
        case rel=>exact⟨j+d,some ⟨b,o,none⟩,0,0,by omega,by omega,rfl,by omega,(by have hx:=Rd.wrote (a5.o _ (c8.o (some ⟨b,o,none⟩) (fun h=>absurd h om)) (fun ad e=>by injection e with e;subst e;exact J)) b2.o (fun _ ad e=>by injection e with e;subst e;exact J);rw[show m-d=0 by omega]at hx;rw[←c7.o];exact hx),fun _ ad e=>by injection e with e;subst e;exact J,(by rw[←c4.o];exact⟨_,_,by rw[c5.o];exact c0.o,U.o⟩),d4.o⟩
      · have d3:(((f:Int)+(d:Int)) == 64)=false:=by rw[beq_eq_false_iff_ne];omega
        have U:Hid (Sh.HSt (L++q.take d) st (splice op f (q.take d))):=by have:=r.o.part (p:=q) d (by rw[a7.o];exact b5) (by rw[HF.o];omega);rw[HF.o]at this;exact this
        go_wp2_with fail
        go_roundg (m-d)
        case measure=>have:=c3.o;omega
        case rel=>exact⟨j+d,some ⟨b,o,none⟩,0,0,by omega,by omega,rfl,by omega,(by rw[←c7.o];have hx:=a5.o _ (c8.o (some ⟨b,o,none⟩) (fun h=>absurd h om)) (fun ad e=>by injection e with e;subst e;exact J);rw[show m-d=0 by omega]at hx;exact hx),fun _ ad e=>by injection e with e;subst e;exact J,(by rw[←c4.o];exact⟨st,_,by rw[c5.o];exact D.o,U.o⟩),a4.o⟩
    · by_cases h64:f+d=64
      · have d3:(((f:Int)+(d:Int)) == 64)=true:=by rw[beq_iff_eq];omega
        have U:Hid (Sh.HSt (L++q.take d) (Sh.comp (Sh.fold L (L.length/64)) (splice op f (q.take d))).list (splice op f (q.take d))):=by have:=r.o.full (p:=q) d (by rw[a7.o];exact b5) (by rw[HF.o];exact h64);rw[HF.o]at this;exact this
        obtain⟨F,hF⟩:=ex9 (Sh.fold L (L.length/64))
        have b3:Hid (∀W,Blk W g T (hCells st (splice op f (q.take d)) (N+d) post)→Calls Tryz.prog 147 #[.pointer (some ⟨g,0,none⟩),.int .i64 ((N:Int)+(d:Int)-64)] W fun e w'=>e=.returned (.agg (st8 F).toArray)∧Below W.heap.size W w'):=fun W hbW=>by
         by_cases hk:N<64
         · have:F=Sh.start:=by rw[hF];exact Sh.fold_small (by rw[HN.o];exact hk)
           rw[this];exact zgc g _ W om
         · have:st=F.list:=by rw[hF];exact r.o.state (by rw[HN.o];omega)
           have h2:=zjg g T st _ _ post ((N:Int)+(d:Int)-64) W (by have h3:=HF.o;rw[HN.o]at h3;omega) hbW r.o.len;rw[this]at h2;exact h2
        have a1:Hid (∀W,Blk W g T (hCells st (splice op f (q.take d)) (N+d) post)→Calls Tryz.prog 146 #[.agg (st8 F).toArray,.slice (some ⟨g,8,none⟩) 64 64] W fun e w'=>e=.returned (.tuple #[.agg (st8 (Sh.comp F (splice op f (q.take d)))).toArray,.int .i64 0])∧Below W.heap.size W w'):=fun W hbW=>zga F _ 64 _ W (by
         have:=hbW.rd 8 64 (by rw[zb9 r.o.len M.o];omega)
         rwa [zja r.o.len M.o]at this)
        rw[←hF]at U;have c1:Hid (∀v∈st8 (Sh.comp F (splice op f (q.take d))),v.oneCell'=true):=by rw[zdl];exact zbc _
        have b4:Hid ((Tryz.prog.info? 165).map (·.size)=some (st8 (Sh.comp F (splice op f (q.take d)))).length):=hd144;have Y:Hid (0+(st8 (Sh.comp F (splice op f (q.take d)))).length≤(hCells st (splice op f (q.take d)) (N+d) post).length):=by rw[zb9 r.o.len M.o];show 0+8≤_;omega
        have a2:Hid (splice (hCells st (splice op f (q.take d)) (N+d) post) 0 (st8 (Sh.comp F (splice op f (q.take d))))=hCells (Sh.comp F (splice op f (q.take d))).list (splice op f (q.take d)) (N+d) post):=by rw[zdl];exact zf7 r.o.len rfl
        obtain⟨G,hG⟩:=ex9 (st8 (Sh.comp F (splice op f (q.take d))));rw[←hG]at a1 c1 b4 Y a2;obtain⟨F8,b1⟩:=ex9 (st8 F);rw[←b1]at b3 a1;clear hF hG b1
        go_wp2_with fail
        have E:(w1.setCell ⟨g,72,none⟩ (.int .i64 ((N:Int)+(d:Int)))).cell? ⟨g,72,none⟩=some (.int .i64 ((N:Int)+(d:Int))):=by
         have:=(D.o.cell 72).trans (zdo r.o.len M.o);rw[I]at this;exact this
        obtain⟨w2,a9⟩:=ex9 (w1.setCell ⟨g,72,none⟩ (.int .i64 ((N:Int)+(d:Int))));rw[←a9]at D a4 a5 E ⊢;clear a9;have b6:IntKind.i64.wrap ((N:Int)+(d:Int)-64)=(N:Int)+(d:Int)-64:=IntWalk.i64_in _ om
        go_region_held3 (fun W'=>W'.cell? ⟨g,72,none⟩=some (.int .i64 ((N:Int)+(d:Int)))) (first|assumption|exact E|exact a0|exact b9|exact c2) (first
         | (go_at_call 147;(with_reducible refine(b3.o _ (by exact D.o.drew)).mono ?_);rintro e w3 ⟨rfl,V⟩;have a3:=qh (D.o.drew.below V D.o.lt);have a0:=(V.cell (p:=⟨g,72,none⟩) (by exact D.o.lt)).trans E)
         | (go_at_call 146;(with_reducible refine(a1.o _ (by exact a3.o)).mono ?_);rintro e w4 ⟨rfl,X⟩;have a6:=qbl a3 X;have b9:=(X.cell (p:=⟨g,72,none⟩) (by exact a3.o.lt)).trans a0;have b7:=zcr (P:=Tryz.prog) a6.o 165 0 G Y.o c1.o b4.o;have c2:(w4.setCells g 0 G).cell? ⟨g,72,none⟩=some (.int .i64 ((N:Int)+(d:Int))):=by { have h5:=za2 g _ G 0 _ _ a6.o Y.o;rw[a2.o]at h5;rw[←I];exact(h5.cell 72).trans (zdo rfl M.o) }))
        have c0:=qh (za2 g _ G 0 _ _ a6.o Y.o);rw[a2.o]at c0;have d4:=qh ((((a4.o.drew).then V).then X).only (Only.of_setCells w4 g 0 G));have b2:=qh (((((Wrote.refl w2 g).drew).then V).then X).only (Only.of_setCells w4 g 0 G));clear b7 b6 E a0 b9 c2
        go_wp2_with fail
        go_roundg (m-d)
        case measure=>have:=c3.o;omega
        case rel=>exact⟨j+d,some ⟨b,o+d,none⟩,m-d,c'-d,rfl,by omega,rfl,by omega,(by rw[←c7.o];exact Rd.wrote (a5.o _ (c8.o (some ⟨b,o+d,none⟩) (fun h=>rfl)) (fun ad e=>by injection e with e;subst e;exact J)) b2.o (fun _ ad e=>by injection e with e;subst e;exact J)),fun _ ad e=>by injection e with e;subst e;exact J,(by rw[←c4.o];exact⟨_,_,by rw[c5.o];exact c0.o,U.o⟩),d4.o⟩
      · have d3:(((f:Int)+(d:Int)) == 64)=false:=by rw[beq_eq_false_iff_ne];omega
        have U:Hid (Sh.HSt (L++q.take d) st (splice op f (q.take d))):=by have:=r.o.part (p:=q) d (by rw[a7.o];exact b5) (by rw[HF.o];omega);rw[HF.o]at this;exact this
        go_wp2_with fail
        go_roundg (m-d)
        case measure=>have:=c3.o;omega
        case rel=>exact⟨j+d,some ⟨b,o+d,none⟩,m-d,c'-d,rfl,by omega,rfl,by omega,(by rw[←c7.o];exact a5.o _ (c8.o (some ⟨b,o+d,none⟩) (fun h=>rfl)) (fun ad e=>by injection e with e;subst e;exact J)),fun _ ad e=>by injection e with e;subst e;exact J,(by rw[←c4.o];exact⟨st,_,by rw[c5.o];exact D.o,U.o⟩),a4.o⟩
  · obtain rfl:m=0:=om
    have HE:Hid (l++p.take j=l++p):=by show _=_;rw[tk (by rw[HP.o];omega)]
    have d0:=qh e4;rw[HE.o]at d0;have g0:¬(0:Int)<((0:Nat):Int):=om
    go_wp2_with fail
    go_end0
    exact⟨rfl,d0.o,hW⟩
end
def padI(Z N i:Nat):List UInt8:=128 :: (List.replicate (Z+8-i) 0++(Sh.beBytes N 8).drop (8-i))
theorem zn3(Z N i:Nat)(h:i≤8):(padI Z N i).length=Z+9:=by simp[padI,Sh.beBytes_len];omega
theorem zh4(N:Nat):∀(k j:Nat),j<k→(Sh.beBytes N k)[k-1-j]? = some (UInt8.ofNat (N/256^j))
 | 0,j,h=>by omega
 | k+1,j,h=>by
  rw[Sh.beBytes]
  by_cases e:j=k
  · subst e;simp
  · rw[show k+1-1-j=(k-1-j)+1 by omega,List.getElem?_cons_succ]
    exact zh4 N k j om
theorem zsa(Z N i:Nat)(h:i<8):(padI Z N i).set (Z+8-i) (UInt8.ofNat (N/256^i))=padI Z N (i+1):=by
 unfold padI
 obtain⟨k,hk⟩:∃k,Z+8-i=k+1:=⟨Z+7-i,by omega⟩
 have hd:(Sh.beBytes N 8).drop (8-(i+1))=UInt8.ofNat (N/256^i) :: (Sh.beBytes N 8).drop (8-i):=by
  have hl:=Sh.beBytes_len N 8;have:=zh4 N 8 i h;rw[List.drop_eq_getElem_cons om,show 8-(i+1)+1=8-i by omega]
  congr 1
  rw[ge9 om]at this
  injection this with this
  rw[←this]
  congr 1
  omega
 rw[hd,hk,show Z+8-(i+1)=k by omega,List.set_cons_succ,List.replicate_succ',as9,List.set_append_right _ _ sy]
 simp
theorem zuz(Z N:Nat):padI Z N 8=128 :: (List.replicate Z 0++Sh.beBytes N 8):=by simp[padI]
theorem zv5(N i:Nat):((N:Int)/2^(8*i))%(256:Int)=((UInt8.ofNat (N/256^i)).toNat:Int):=by
 rw[UInt8.toNat_ofNat',show(256:Nat)^i=2^(8*i) by rw[Nat.pow_mul]]
 simp
theorem zmp(n:Nat)(w:World)(hn:n≤1099511627776):
 Calls Tryz.prog 148 #[.int .u64 n] w fun e w'=>e=.returned (.slice (some ⟨w.heap.size,0,none⟩) (Sh.pad n).length (Sh.pad n).length)∧Blk w' w.heap.size 5 (u8s (Sh.pad n))∧Below w.heap.size w w':=by
 obtain⟨Z,hZ⟩:∃Z,(119-n%64)%64=Z:=⟨_,rfl⟩;have a5:Z<64:=om;have a6:(119-(n:Int)%64)%64=(Z:Int):=om
 have D:Hid (padI Z (8*n) 8=Sh.pad n):=by
  show _=_
  rw[zuz,Sh.pad,hZ,Nat.mod_eq_of_lt (show 8*n<18446744073709551616 by omega)]
 clear hZ
 go_enter Tryz.func148, Tryz.ntmps148
 go_wp2_with (refine zaj rfl (.tmp 13) (.tmp 13) 22 rfl 5 (.int .u8 0) 1 Tryz.underlying22 iU8 rfl .i64 .i64 _ _ rr rr (Z+9) (Z+9) ?c1 ?c2 lr om om ?_)
 case c1=>omega
 case c2=>omega
 intro w1 r I Y;have E:rep (Z+9) (.int .u8 0)=u8s (List.replicate (Z+9) 0):=by simp[rep,u8s,u8]
 rw[E]at r;have c0:w1.cell? ⟨w.heap.size,0,none⟩=some (.int .u8 0):=by rw[r.cell,u8s_getElem?];simp[u8]
 have f0:=r.frozen 0;have U:Below w.heap.size w w1:=zad I
 have M:Hid (Blk (w1.setCell ⟨w.heap.size,0,none⟩ (.int .u8 128)) w.heap.size 5 (u8s (padI Z (8*n) 0))):=by
  have:=r.set_ 0 (.int .u8 128)
  have e:(u8s (List.replicate (Z+9) 0)).set 0 (.int .u8 128)=u8s (padI Z (8*n) 0):=by
   have h8:(Sh.beBytes (8*n) 8).drop (8-0)=[]:=List.drop_of_length_le (by rw[Sh.beBytes_len];omega)
   unfold padI
   rw[h8,List.append_nil,show Z+9=(Z+8)+1 by omega,List.replicate_succ]
   simp[u8s,u8]
  rw[e]at this;exact this
 have J:=qh (U.setCell (p:=⟨w.heap.size,0,none⟩) lr (.int .u8 128));have a4:(0:Int)<(Z:Int)+9:=om;clear E r I Y
 go_wp2_with fail
 go_loopg [5] 8 (fun k q wr=>∃i:Nat,i≤8∧k=8-i∧q=.int .i64 i∧Blk wr w.heap.size 5 (u8s (padI Z (8*n) i))∧Below w.heap.size w wr)
 case atStart=>exact⟨0,by omega,rfl,rfl,M.o,J.o⟩
 case round =>
  clear M J c0 f0;obtain⟨i,hi,G,rfl,hb,hB⟩:=hrel;have X:=qh G;clear G
  by_cases hlt:i<8
  · have A:=zn3 Z (8*n) i om
    obtain⟨x,hx⟩:∃x,(padI Z (8*n) i)[Z+8-i]? = some x:=⟨_,ge9 om⟩;have c1:wr.cell? ⟨w.heap.size,Z+8-i,none⟩=some (.int .u8 x.toNat):=by rw[hb.cell,u8s_getElem?,hx];rfl
    have f1:=hb.frozen (Z+8-i);have a7:=hb.lt;have a1:Hid (8*(n:Int)/2^(8*i)%(256:Int)=((UInt8.ofNat (8*n/256^i)).toNat:Int)):=by have:=zv5 (8*n) i;rw[Int.natCast_mul]at this;exact this
    have V:=qh (zsa Z (8*n) i hlt);clear hx A
    go_wp2_with fail
    rw[a1.o]
    have a2:Hid (Blk (wr.setCell ⟨w.heap.size,Z+8-i,none⟩ (.int .u8 (UInt8.ofNat (8*n/256^i)).toNat)) w.heap.size 5 (u8s (padI Z (8*n) (i+1)))):=by
     have:=hb.set_ (Z+8-i) (.int .u8 (UInt8.ofNat (8*n/256^i)).toNat);have e:(u8s (padI Z (8*n) i)).set (Z+8-i) (.int .u8 (UInt8.ofNat (8*n/256^i)).toNat)=u8s (padI Z (8*n) (i+1)):=by rw[←V.o];simp[u8s,List.map_set,u8]
     rw[e]at this;exact this
    have a3:=qh (hB.setCell (p:=⟨w.heap.size,Z+8-i,none⟩) lr (.int .u8 (UInt8.ofNat (8*n/256^i)).toNat));go_roundg (8-(i+1))
    case measure=>have:=X.o;omega
    case rel=>exact⟨i+1,by omega,rfl,by go_num,a2.o,a3.o⟩
  · obtain rfl:i=8:=om
    rw[D.o]at hb;have A:(Sh.pad n).length=Z+9:=by rw[←D.o];exact zn3 Z (8*n) 8 om
    have a0:=qh A;clear D A
    go_wp2_with fail
    go_ret;exact⟨by rw[a0.o];rfl,hb,hB⟩
def SlX(w:World)(g:Nat)(v:Value)(l:List UInt8):Prop:=∃A n c,v=.slice A n c∧n≤c∧Rd w A n (u8s l)∧(0<n→∀ad:Addr,A=some ad→ad.block≠g)
def RdX(w:World)(g:Nat)(A:Option Addr)(n:Nat)(ls:List (List UInt8)):Prop :=
 ∃vs:List Value,Rd w A n vs∧(0<n→∀ad:Addr,A=some ad→ad.block≠g)∧ls.length=n∧∀(i:Nat) (v:Value),vs[i]? = some v→∃l,ls[i]? = some l∧SlX w g v l
theorem SlX.wrote{w w':World}{g:Nat}{v:Value}{l:List UInt8}(h:SlX w g v l)(hw:Wrote g w w'):SlX w' g v l:=by
 obtain⟨A,n,c,e,h1,h2,h3⟩:=h;exact⟨A,n,c,e,h1,h2.wrote hw h3,h3⟩
theorem RdX.wrote{w w':World}{g:Nat}{A:Option Addr}{n:Nat}{ls:List (List UInt8)}(h:RdX w g A n ls)(hw:Wrote g w w'):RdX w' g A n ls:=by
 obtain⟨vs,h1,h2,h3,h4⟩:=h;exact⟨vs,h1.wrote hw h2,h2,h3,fun i v hi=>let ⟨l,a,b⟩:=h4 i v hi;⟨l,a,b.wrote hw⟩⟩
theorem RdX.at_{w:World}{g:Nat}{A:Option Addr}{n:Nat}{ls:List (List UInt8)}(h:RdX w g A n ls){k:Nat}(hk:k<n):
 ∃b r A1 n1 c1 l,A=some ⟨b,r,none⟩∧Hid (ls[k]? = some l)∧w.cell? ⟨b,r+k,none⟩=some (.slice A1 n1 c1)∧n1≤c1∧Rd w A1 n1 (u8s l)∧(0<n1→∀ad:Addr,A1=some ad→ad.block≠g):=by
 obtain⟨vs,hr,_,hl,hv⟩:=h;obtain⟨b,r,u,rfl,hb,hu,hc⟩:=hr.at_ hk;obtain⟨l,h1,A1,n1,c1,rfl,h2,h3,h4⟩:=hv k u hu.o;exact⟨b,r,A1,n1,c1,l,rfl,h1,hc,h2,h3,h4⟩
theorem RdX.of{w:World}{g:Nat}{A:Option Addr}{n:Nat}{ls:List (List UInt8)}(h:RdB w A n ls)(hg:w.heap.size≤g):RdX w g A n ls:=by
 obtain⟨vs,h1,h2,h3⟩:=h;refine⟨vs,h1,h1.apart hg,h2,fun i v hi=>?_⟩;obtain⟨l,a,A1,n1,c1,rfl,b1,b2⟩:=h3 i v hi;exact⟨l,a,A1,n1,c1,rfl,b1,b2,b2.apart hg⟩
theorem SlX.below{w w':World}{g:Nat}{v:Value}{l:List UInt8}(h:SlX w g v l)(hb:Below w.heap.size w w'):SlX w' g v l:=by
 obtain⟨A,n,c,e,h1,h2,h3⟩:=h;exact⟨A,n,c,e,h1,h2.below hb,h3⟩
theorem RdX.below{w w':World}{g:Nat}{A:Option Addr}{n:Nat}{ls:List (List UInt8)}(h:RdX w g A n ls)(hb:Below w.heap.size w w'):RdX w' g A n ls:=by
 obtain⟨vs,h1,h2,h3,h4⟩:=h;exact⟨vs,h1.below hb,h2,h3,fun i v hi=>let ⟨l,a,b⟩:=h4 i v hi;⟨l,a,b.below hb⟩⟩
theorem zgt(g:Nat)(T:TypeId)(post:List Value)(l:List UInt8)(A:Option Addr)(n c:Nat)(ls:List (List UInt8))(w:World)(h:HashIn w g T post l)(hr:RdX w g A n ls)(hn:n≤1000000)(hl:l.length+ls.flatten.length≤1099511627776):
 Calls Tryz.prog 102 #[.pointer (some ⟨g,0,none⟩),.slice A n c] w fun e w'=>e=.returned (.pointer (some ⟨g,0,none⟩))∧HashIn w' g T post (l++ls.flatten)∧Wrote g w w':=by
 have a1:Hid (ls.length=n):=by obtain⟨_,_,_,h,_⟩:=hr;exact h
 have HA:=qh (ztr g T post)
 go_enter Tryz.func102, Tryz.ntmps102
 go_wp2_with fail
 go_loopg [9] n (fun k q wr=>∃i:Nat,i≤n∧k=n-i∧q=.int .i64 i∧HashIn wr g T post (l++(ls.take i).flatten)∧Wrote g w wr)
 case atStart=>exact⟨0,by omega,rfl,rfl,by simpa using h,Wrote.refl _ _⟩
 case round =>
  clear h;obtain⟨i,hi,J,rfl,r,hW⟩:=hrel;have Y:=qh J;clear J
  by_cases hlt:i<n
  · obtain⟨b,a2,A1,n1,c1,x,rfl,HX,hc,X,G,I⟩:=(hr.wrote hW).at_ hlt
    have hx:x.length=n1:=G.len;have E:=zcu ls i x HX.o
    have M:(l++(ls.take i).flatten).length+n1≤1099511627776:=by
     have h1:=zb5 ls (i+1);rw[E,la9,hx]at h1;rw[la9];omega
    have HC:Hid (Calls Tryz.prog 127 #[.pointer (some ⟨g,0,none⟩),.slice A1 n1 c1] wr fun e w'=>e=.returned (.tuple #[])∧HashIn w' g T post (l++(ls.take i).flatten++x)∧Wrote g wr w'):=HA.o _ x A1 n1 c1 wr r G X I M;have a0:=qh E;have i0:(0:Int)≤(i:Int):=om;have i1:(i:Int)<(n:Int):=om;clear hx E M G I r
    go_wp2_with (go_at_call 127;(with_reducible refine HC.o.mono ?_);rintro e w2 ⟨rfl,D,U⟩;have V:=qh D;clear D)
    go_roundg (n-(i+1))
    case measure=>have:=Y.o;omega
    case rel=>exact⟨i+1,by omega,rfl,by go_num,by rw[a0.o,←as9];exact V.o,hW.trans U⟩
  · have HE:Hid (ls.take i=ls):=tk (by rw[a1.o];omega)
    rw[HE.o]at r
    go_wp2_with fail
    go_ret;exact⟨rfl,r,hW⟩
theorem hd147:(Tryz.prog.info? 189).map (·.size)=some 73:=by kernel_rfl
theorem hd24:(Tryz.prog.info? 27).map (·.size)=some 32:=by kernel_rfl
theorem zc147:Tryz.zeroCells189 = (hCells [0,0,0,0,0,0,0,0] (List.replicate 64 0) 0 []).toArray:=by kernel_rfl
def outI(st:List UInt32)(i:Nat):List UInt8:=(st.take i).flatMap Sh.wordBytes++List.replicate (32-4*i) 0
theorem zeu(l:List UInt32):(l.flatMap Sh.wordBytes).length=4*l.length:=by
 induction l with
 | nil=>rfl
 | cons a l ih=>rw[List.flatMap_cons,la9,ih,List.length_cons];show 4+_=_;omega
theorem set4{α:Type}(P R:List α)(a b c d a' b' c' d':α)(k:Nat)(hk:P.length=k):((((P++a :: b :: c :: d :: R).set k a').set (k+1) b').set (k+2) c').set (k+3) d'=P++a' :: b' :: c' :: d' :: R:=by
 subst hk;rw[List.set_append_right _ _ lr,Nat.sub_self,List.set_append_right _ _ om,List.set_append_right _ _ om,List.set_append_right _ _ om,show P.length+1-P.length=1 by omega,show P.length+2-P.length=2 by omega,show P.length+3-P.length=3 by omega]
 rfl
theorem zsb{st:List UInt32}{i:Nat}{x:UInt32}(h8:st.length=8)(hx:st[i]? = some x):
 ((((u8s (outI st i)).set (4*i) (.int .u8 (x >>> 24).toUInt8.toNat)).set (4*i+1) (.int .u8 (x >>> 16).toUInt8.toNat)).set (4*i+2) (.int .u8 (x >>> 8).toUInt8.toNat)).set (4*i+3) (.int .u8 x.toUInt8.toNat)=u8s (outI st (i+1)):=by
 have hi:i<8:=by have:=(gi9.1 hx).1;omega
 have e1:outI st (i+1)=(st.take i).flatMap Sh.wordBytes++(x >>> 24).toUInt8 :: (x >>> 16).toUInt8 :: (x >>> 8).toUInt8 :: x.toUInt8 :: List.replicate (28-4*i) 0:=by
  unfold outI
  rw[List.take_add_one,hx,show 32-4*(i+1)=28-4*i by omega]
  simp[Sh.wordBytes]
 have e2:outI st i=(st.take i).flatMap Sh.wordBytes++0 :: 0 :: 0 :: 0 :: List.replicate (28-4*i) 0:=by
  unfold outI
  rw[show 32-4*i=(28-4*i)+4 by omega]
  rfl
 rw[e1,e2,zae,zae];have hl:(u8s ((st.take i).flatMap Sh.wordBytes)).length=4*i:=by rw[zaa,zeu,List.length_take];omega
 exact set4 _ _ _ _ _ _ _ _ _ _ _ hl
theorem b24(x:UInt32):n32 x/(16777216:Int)%(256:Int)=((x >>> 24).toUInt8.toNat:Int):=by
 unfold n32
 rw[show(x.toNat:Int)/(16777216:Int)=((x >>> 24).toNat:Int) from zgx x 24 om,UInt32.toNat_toUInt8];omega
theorem b16(x:UInt32):n32 x/(65536:Int)%(256:Int)=((x >>> 16).toUInt8.toNat:Int):=by
 unfold n32
 rw[show(x.toNat:Int)/(65536:Int)=((x >>> 16).toNat:Int) from zgx x 16 om,UInt32.toNat_toUInt8];omega
theorem b8(x:UInt32):n32 x/(256:Int)%(256:Int)=((x >>> 8).toUInt8.toNat:Int):=by
 unfold n32
 rw[show(x.toNat:Int)/(256:Int)=((x >>> 8).toNat:Int) from zgx x 8 om,UInt32.toNat_toUInt8];omega
theorem b0(x:UInt32):n32 x%(256:Int)=(x.toUInt8.toNat:Int):=by
 unfold n32
 rw[UInt32.toNat_toUInt8];omega
theorem zvr(s0 s1 s2 s3 s4 s5 s6 s7:UInt32)(W:World):(Instr.index 165 (.agg #[.int .u32 (n32 s0),.int .u32 (n32 s1),.int .u32 (n32 s2),.int .u32 (n32 s3),.int .u32 (n32 s4),.int .u32 (n32 s5),.int .u32 (n32 s6),.int .u32 (n32 s7)]) (.int .i64 ((0:Nat):Int))).run Tryz.prog W=.ok (.int .u32 (n32 s0)) W:=by kernel_rfl
theorem zvq(s0 s1 s2 s3 s4 s5 s6 s7:UInt32)(W:World):(Instr.index 165 (.agg #[.int .u32 (n32 s0),.int .u32 (n32 s1),.int .u32 (n32 s2),.int .u32 (n32 s3),.int .u32 (n32 s4),.int .u32 (n32 s5),.int .u32 (n32 s6),.int .u32 (n32 s7)]) (.int .i64 ((1:Nat):Int))).run Tryz.prog W=.ok (.int .u32 (n32 s1)) W:=by kernel_rfl
theorem zvp(s0 s1 s2 s3 s4 s5 s6 s7:UInt32)(W:World):(Instr.index 165 (.agg #[.int .u32 (n32 s0),.int .u32 (n32 s1),.int .u32 (n32 s2),.int .u32 (n32 s3),.int .u32 (n32 s4),.int .u32 (n32 s5),.int .u32 (n32 s6),.int .u32 (n32 s7)]) (.int .i64 ((2:Nat):Int))).run Tryz.prog W=.ok (.int .u32 (n32 s2)) W:=by kernel_rfl
theorem zvo(s0 s1 s2 s3 s4 s5 s6 s7:UInt32)(W:World):(Instr.index 165 (.agg #[.int .u32 (n32 s0),.int .u32 (n32 s1),.int .u32 (n32 s2),.int .u32 (n32 s3),.int .u32 (n32 s4),.int .u32 (n32 s5),.int .u32 (n32 s6),.int .u32 (n32 s7)]) (.int .i64 ((3:Nat):Int))).run Tryz.prog W=.ok (.int .u32 (n32 s3)) W:=by kernel_rfl
theorem zvn(s0 s1 s2 s3 s4 s5 s6 s7:UInt32)(W:World):(Instr.index 165 (.agg #[.int .u32 (n32 s0),.int .u32 (n32 s1),.int .u32 (n32 s2),.int .u32 (n32 s3),.int .u32 (n32 s4),.int .u32 (n32 s5),.int .u32 (n32 s6),.int .u32 (n32 s7)]) (.int .i64 ((4:Nat):Int))).run Tryz.prog W=.ok (.int .u32 (n32 s4)) W:=by kernel_rfl
theorem zvm(s0 s1 s2 s3 s4 s5 s6 s7:UInt32)(W:World):(Instr.index 165 (.agg #[.int .u32 (n32 s0),.int .u32 (n32 s1),.int .u32 (n32 s2),.int .u32 (n32 s3),.int .u32 (n32 s4),.int .u32 (n32 s5),.int .u32 (n32 s6),.int .u32 (n32 s7)]) (.int .i64 ((5:Nat):Int))).run Tryz.prog W=.ok (.int .u32 (n32 s5)) W:=by kernel_rfl
theorem zvl(s0 s1 s2 s3 s4 s5 s6 s7:UInt32)(W:World):(Instr.index 165 (.agg #[.int .u32 (n32 s0),.int .u32 (n32 s1),.int .u32 (n32 s2),.int .u32 (n32 s3),.int .u32 (n32 s4),.int .u32 (n32 s5),.int .u32 (n32 s6),.int .u32 (n32 s7)]) (.int .i64 ((6:Nat):Int))).run Tryz.prog W=.ok (.int .u32 (n32 s6)) W:=by kernel_rfl
theorem zvk(s0 s1 s2 s3 s4 s5 s6 s7:UInt32)(W:World):(Instr.index 165 (.agg #[.int .u32 (n32 s0),.int .u32 (n32 s1),.int .u32 (n32 s2),.int .u32 (n32 s3),.int .u32 (n32 s4),.int .u32 (n32 s5),.int .u32 (n32 s6),.int .u32 (n32 s7)]) (.int .i64 ((7:Nat):Int))).run Tryz.prog W=.ok (.int .u32 (n32 s7)) W:=by kernel_rfl
theorem idx144(s0 s1 s2 s3 s4 s5 s6 s7 x:UInt32)(i:Nat)(h:[s0,s1,s2,s3,s4,s5,s6,s7][i]? = some x)(W:World):(Instr.index 165 (.agg #[.int .u32 (n32 s0),.int .u32 (n32 s1),.int .u32 (n32 s2),.int .u32 (n32 s3),.int .u32 (n32 s4),.int .u32 (n32 s5),.int .u32 (n32 s6),.int .u32 (n32 s7)]) (.int .i64 i)).run Tryz.prog W=.ok (.int .u32 (n32 x)) W:=by
 have hi:i<8:=(gi9.1 h).1;have hc:i=0∨i=1∨i=2∨i=3∨i=4∨i=5∨i=6∨i=7:=om
 rcases hc with rfl|rfl|rfl|rfl|rfl|rfl|rfl|rfl
 · have e:s0=x:=by simpa using h
   subst e;exact zvr _ _ _ _ _ _ _ _ W
 · have e:s1=x:=by simpa using h
   subst e;exact zvq _ _ _ _ _ _ _ _ W
 · have e:s2=x:=by simpa using h
   subst e;exact zvp _ _ _ _ _ _ _ _ W
 · have e:s3=x:=by simpa using h
   subst e;exact zvo _ _ _ _ _ _ _ _ W
 · have e:s4=x:=by simpa using h
   subst e;exact zvn _ _ _ _ _ _ _ _ W
 · have e:s5=x:=by simpa using h
   subst e;exact zvm _ _ _ _ _ _ _ _ W
 · have e:s6=x:=by simpa using h
   subst e;exact zvl _ _ _ _ _ _ _ _ W
 · have e:s7=x:=by simpa using h
   subst e;exact zvk _ _ _ _ _ _ _ _ W
theorem zd9{w:World}{g o:Nat}{cs:List Value}(h:w.rangeAt g o cs)(ob:Obj):(w.alloc ob).rangeAt g o cs:=fun j v hv=>by
 have:=h j v hv;rw[World.cell?_alloc_lt w ob ⟨g,o+j,none⟩ (World.block_lt_of_cell? w _ this)];exact this
theorem Blk.rdAll{w:World}{g:Nat}{t:TypeId}{l:List UInt8}(h:Blk w g t (u8s l)):Rd w (some ⟨g,0,none⟩) l.length (u8s l):=by
 have:=h.rd 0 l.length (by rw[zaa];omega)
 rwa [List.drop_zero,tk (by rw[zaa];exact lr)]at this
theorem eight{st:List UInt32}(h:st.length=8):∃s0 s1 s2 s3 s4 s5 s6 s7,st=[s0,s1,s2,s3,s4,s5,s6,s7]:=by
 match st,h with
 | [a,b,c,d,e,f,g,k],_=>exact⟨a,b,c,d,e,f,g,k,rfl⟩
theorem zoj(g:Nat)(T:TypeId)(post:List Value)(l:List UInt8)(w:World)(h:HashIn w g T post l)(hl:l.length≤1000000000000):
 Calls Tryz.prog 128 #[.pointer (some ⟨g,0,none⟩)] w fun e w'=>e=.returned (.agg (u8s (Sh.sha l)).toArray)∧Below w.heap.size w w':=by
 obtain⟨st,op,hb,hst⟩:=h;obtain⟨N,hN⟩:∃N,l.length=N:=⟨_,rfl⟩;rw[hN]at hb;have U:Hid ((Tryz.prog.info? 189).map (·.size)=some (hCells st op N []).length):=by rw[zb9 hst.len hst.olen];exact hd147
 have a2:Hid (∀v∈hCells st op N [],v.oneCell'=true):=by
  intro v hv
  unfold hCells at hv
  rcases List.mem_append.1 hv with hv|hv
  · exact zbc _ v hv
  · rcases List.mem_append.1 hv with hv|hv
    · exact zac _ v hv
    · simp at hv;subst hv;rfl
 have a7:Hid (w.rangeAt g 0 (hCells st op N [])):=hb.mid 0 _ (fun j v hv=>by
  have:hCells st op N post=hCells st op N []++post:=by unfold hCells;simp
  rw[Nat.zero_add,this]
  rwa [ll9 (gi9.1 hv).1])
 have a8:Hid ((hCells st op N []).length=(hCells [0,0,0,0,0,0,0,0] (List.replicate 64 0) 0 []).length):=by show _=_;rw[zb9 hst.len hst.olen];rfl
 have c5:=(hb.cell 72).trans (zdo hst.len hst.olen);have f6:=hb.lt;have f5:N≤1000000000000:=om;have e6:=qh (fun W=>zmp N W om);have c9:Hid ((Sh.pad N).length≤128):=by show _≤_;simp[Sh.pad,Sh.beBytes_len];omega
 have HN:=qh hN;have a0:=qh hst;have e2:=qh hb;obtain⟨H,hH⟩:=ex9 (hCells st op N []);rw[←hH]at U a2 a7 a8;have HH:=qh hH;clear hN hst hH hb
 go_enter Tryz.func128, Tryz.ntmps128
 go_wp2_with (first
  | refine wpList_load_mid rfl 189 (.tmp 8) rfl g 0 rr H _ (by exact zd9 a7.o _) Tryz.underlying189 rfl U.o ?_
  | (refine zab rfl 189 (.tmp 3) (.tmp 9) rfl (w.heap.size+1) H rr rr 189 _ (by exact Blk.new' sy zc147) U.o a2.o a8.o ?_;intro w3 V J;have c6:w3.cell? ⟨g,72,none⟩=some (.int .i64 N):=((J.blk ((e2.o.alloc _).alloc _) om).cell 72).trans (zdo a0.o.len a0.o.olen);have f4:w.heap.size+1<w3.heap.size:=by have:=V.lt;omega
     have a6:Hid (HashIn w3 (w.heap.size+1) 189 [] l):=⟨st,op,by rw[HN.o,←HH.o];exact V,a0.o⟩;have b1:Hid (Below w.heap.size w w3):=J.below (((Below.refl _ _).alloc lr _).alloc sy _) om (by simp;omega);have e3:Hid (Blk w3 w.heap.size 27 (u8s (List.replicate 32 0))):=J.blk ((Blk.new' rfl rfl).alloc _) om
     clear J V)
  | (go_at_call 148;(with_reducible refine(e6.o _).mono ?_);rintro e w4 ⟨rfl,b9,D⟩;have c7:=qh (a6.o.below D);have f8:=a6.o.lt)
  | (go_at_call 127;refine(ztr (w.heap.size+1) 189 [] l (Sh.pad N) _ _ _ _ c7.o (by exact b9.rdAll) lr (fun _ ad e=>by injection e with e;subst e;show w3.heap.size≠w.heap.size+1;omega) (by rw[HN.o];have:=c9.o;omega)).mono ?_;rintro e w5 ⟨rfl,b6,X⟩;obtain⟨c0,f7,r,A⟩:=b6;have M:Hid (c0.flatMap Sh.wordBytes=Sh.sha l):=by { have h6:=A;rw[←HN.o]at h6;exact h6.sum }
     have e1:=qh A.len;obtain⟨s0,s1,s2,s3,s4,s5,s6,s7,e8⟩:=eight A.len;rw[e8]at r M e1;have f9:=r.lt;have d0:w5.cell? ⟨w.heap.size+1,0,none⟩=some (.int .u32 (n32 s0)):=r.cell 0;have d1:w5.cell? ⟨w.heap.size+1,1,none⟩=some (.int .u32 (n32 s1)):=r.cell 1;have d2:w5.cell? ⟨w.heap.size+1,2,none⟩=some (.int .u32 (n32 s2)):=r.cell 2;have d3:w5.cell? ⟨w.heap.size+1,3,none⟩=some (.int .u32 (n32 s3)):=r.cell 3;have d4:w5.cell? ⟨w.heap.size+1,4,none⟩=some (.int .u32 (n32 s4)):=r.cell 4;have d5:w5.cell? ⟨w.heap.size+1,5,none⟩=some (.int .u32 (n32 s5)):=r.cell 5;have d6:w5.cell? ⟨w.heap.size+1,6,none⟩=some (.int .u32 (n32 s6)):=r.cell 6;have d7:w5.cell? ⟨w.heap.size+1,7,none⟩=some (.int .u32 (n32 s7)):=r.cell 7;have d9:Below w3.heap.size w3 w4:=D;have b3:Hid (Below w.heap.size w w5):=by { have h7:=b1.o.trans (D.mono b1.o.size);exact Wrote.below X h7 om h7.size }
     have e5:Hid (Blk w5 w.heap.size 27 (u8s (List.replicate 32 0))):=Blk.wrote (e3.o.below D om) X om
     clear r A e8 X b9 D d9))
 have c3:Hid (Below w.heap.size w (w5.alloc (.cells (u8s (outI [s0,s1,s2,s3,s4,s5,s6,s7] 0)).toArray 27))):=b3.o.alloc b3.o.size _;clear d0 d1 d2 d3 d4 d5 d6 d7 c6 c5
 go_loopg [19] 8 (fun k q wr=>∃i:Nat,i≤8∧k=8-i∧q=.int .i64 i∧Blk wr w5.heap.size 27 (u8s (outI [s0,s1,s2,s3,s4,s5,s6,s7] i))∧Blk wr w.heap.size 27 (u8s (List.replicate 32 0))∧Below w.heap.size w wr)
 case atStart=>exact⟨0,by omega,rfl,rfl,Blk.new' rfl rfl,e5.o.alloc _,c3.o⟩
 case round =>
  obtain⟨i,hi,b5,rfl,hb,hz,hB⟩:=hrel;have c8:=qh b5;clear b5
  by_cases hlt:i<8
  · obtain⟨x,hx⟩:∃x,[s0,s1,s2,s3,s4,s5,s6,s7][i]? = some x:=⟨_,ge9 (by exact hlt)⟩
    have e9:=idx144 s0 s1 s2 s3 s4 s5 s6 s7 x i hx;have a9:=qh (zsb (st:=[s0,s1,s2,s3,s4,s5,s6,s7]) rfl hx);have c4:(outI [s0,s1,s2,s3,s4,s5,s6,s7] i).length=32:=by unfold outI;rw[la9,zeu,List.length_take,lp9];show 4*min i 8+_=_;omega
    obtain⟨O,hO⟩:=ex9 (outI [s0,s1,s2,s3,s4,s5,s6,s7] i);rw[←hO]at hb a9 c4;clear hx hO;have e7:=hb.lt;obtain⟨y0,b2⟩:∃y,O[4*i]? = some y:=⟨_,ge9 om⟩;have q0:wr.cell? ⟨w5.heap.size,4*i,none⟩=some (.int .u8 y0.toNat):=by rw[hb.cell,u8s_getElem?,b2];rfl
    have f0:=hb.frozen (4*i);clear b2;obtain⟨y1,a1⟩:∃y,O[4*i+1]? = some y:=⟨_,ge9 om⟩;have q1:wr.cell? ⟨w5.heap.size,4*i+1,none⟩=some (.int .u8 y1.toNat):=by rw[hb.cell,u8s_getElem?,a1];rfl
    have f1:=hb.frozen (4*i+1);clear a1;obtain⟨y2,a5⟩:∃y,O[4*i+2]? = some y:=⟨_,ge9 om⟩;have q2:wr.cell? ⟨w5.heap.size,4*i+2,none⟩=some (.int .u8 y2.toNat):=by rw[hb.cell,u8s_getElem?,a5];rfl
    have f2:=hb.frozen (4*i+2);clear a5;obtain⟨y3,b4⟩:∃y,O[4*i+3]? = some y:=⟨_,ge9 om⟩;have q3:wr.cell? ⟨w5.heap.size,4*i+3,none⟩=some (.int .u8 y3.toNat):=by rw[hb.cell,u8s_getElem?,b4];rfl
    have f3:=hb.frozen (4*i+3);clear b4;have a4:=b24 x;have a3:=b16 x;have z8:=b8 x;have z0:=b0 x;have G:=qh (And.intro a4 (And.intro a3 (And.intro z8 z0)));clear a4 a3 z8 z0
    go_wp2_with fail
    rw[G.o.1,G.o.2.1,G.o.2.2.1,G.o.2.2.2];have b7:=qh ((((hb.set_ (4*i) (.int .u8 (x >>> 24).toUInt8.toNat)).set_ (4*i+1) (.int .u8 (x >>> 16).toUInt8.toNat)).set_ (4*i+2) (.int .u8 (x >>> 8).toUInt8.toNat)).set_ (4*i+3) (.int .u8 x.toUInt8.toNat));rw[a9.o]at b7;have E:w.heap.size≠w5.heap.size:=om;have e0:=qh ((((hz.far (p:=⟨w5.heap.size,4*i,none⟩) E (.int .u8 (x >>> 24).toUInt8.toNat)).far (p:=⟨w5.heap.size,4*i+1,none⟩) E (.int .u8 (x >>> 16).toUInt8.toNat)).far (p:=⟨w5.heap.size,4*i+2,none⟩) E (.int .u8 (x >>> 8).toUInt8.toNat)).far (p:=⟨w5.heap.size,4*i+3,none⟩) E (.int .u8 x.toUInt8.toNat));have I:w.heap.size≤w5.heap.size:=om;have e4:=qh ((((hB.setCell (p:=⟨w5.heap.size,4*i,none⟩) I (.int .u8 (x >>> 24).toUInt8.toNat)).setCell (p:=⟨w5.heap.size,4*i+1,none⟩) I (.int .u8 (x >>> 16).toUInt8.toNat)).setCell (p:=⟨w5.heap.size,4*i+2,none⟩) I (.int .u8 (x >>> 8).toUInt8.toNat)).setCell (p:=⟨w5.heap.size,4*i+3,none⟩) I (.int .u8 x.toUInt8.toNat));go_roundg (8-(i+1))
    case measure=>have:=c8.o;omega
    case rel=>exact⟨i+1,by omega,rfl,by go_num,b7.o,e0.o,e4.o⟩
  · obtain rfl:i=8:=om
    have hE:outI [s0,s1,s2,s3,s4,s5,s6,s7] 8=Sh.sha l:=by rw[←M.o];unfold outI;simp
    rw[hE]at hb;have Y:Hid ((Tryz.prog.info? 27).map (·.size)=some (u8s (Sh.sha l)).length):=by rw[zaa,Sh.sha_len];exact hd24
    have d8:Hid ((u8s (Sh.sha l)).length=(u8s (List.replicate 32 0)).length):=by show _=_;rw[zaa,Sh.sha_len];rfl
    clear hE M
    go_wp2_with (first
     | refine wpList_load_mid rfl 27 (.tmp 4) rfl w5.heap.size 0 rr (u8s (Sh.sha l)) _ hb.range Tryz.underlying27 rfl Y.o ?_
     | (refine zab rfl 27 (.tmp 2) (.tmp 50) rfl w.heap.size (u8s (Sh.sha l)) rr rr 27 _ hz Y.o (zac _) d8.o ?_;intro w8 c2 c1))
    exact bodyPost_ret (zan rfl _ w.heap.size _ _ rfl c2 _ Tryz.underlying27 rfl Y.o) rfl ⟨rfl,c1.below hB lr hB.size⟩
theorem zqo(A:Option Addr)(n c:Nat)(ls:List (List UInt8))(w:World)(h:RdB w A n ls)(hn:n≤1000000)(hl:ls.flatten.length≤1000000000):
 Calls Tryz.prog 129 #[.slice A n c] w fun e w'=>e=.returned (.agg (u8s (Sh.sha ls.flatten)).toArray)∧Below w.heap.size w w':=by
 have HX:Hid (RdX ((w.alloc (.cells (u8s (List.replicate 32 0)).toArray 27)).alloc (.cells Tryz.zeroCells189 189)) (w.heap.size+1) A n ls):=((RdX.of (g:=w.heap.size+1) h om).below (((Below.refl _ _).alloc lr _).alloc sy _));have HH:Hid (HashIn ((w.alloc (.cells (u8s (List.replicate 32 0)).toArray 27)).alloc (.cells Tryz.zeroCells189 189)) (w.heap.size+1) 189 [] []):=⟨_,_,Blk.new' sy zc147,Sh.hst_nil _ _ rfl sy⟩;have HB:Hid (Below w.heap.size w ((w.alloc (.cells (u8s (List.replicate 32 0)).toArray 27)).alloc (.cells Tryz.zeroCells189 189))):=((Below.refl _ _).alloc lr _).alloc sy _;have HZ:Hid (Blk ((w.alloc (.cells (u8s (List.replicate 32 0)).toArray 27)).alloc (.cells Tryz.zeroCells189 189)) w.heap.size 27 (u8s (List.replicate 32 0))):=(Blk.new w _ _).alloc _;have U:=qh (zgt (w.heap.size+1) 189 [] [] A n c ls _ HH.o HX.o hn (by rw[List.length_nil];omega));have J:Hid ((Tryz.prog.info? 27).map (·.size)=some (u8s (Sh.sha ls.flatten)).length):=by rw[zaa,Sh.sha_len];exact hd24
 have a1:Hid ((u8s (Sh.sha ls.flatten)).length=(u8s (List.replicate 32 0)).length):=by show _=_;rw[zaa,Sh.sha_len];rfl
 have a0:=qh (fun W (hin:HashIn W (w.heap.size+1) 189 [] ls.flatten)=>zoj (w.heap.size+1) 189 [] ls.flatten W hin om)
 go_enter Tryz.func129, Tryz.ntmps129
 go_wp2_with (first
  | (go_at_call 102;refine U.o.mono ?_;rintro e w2 ⟨rfl,r,D⟩;have V:=qh r;have M:Hid (Below w.heap.size w w2):=Wrote.below D HB.o om HB.o.size;have I:Hid (Blk w2 w.heap.size 27 (u8s (List.replicate 32 0))):=Blk.wrote HZ.o D om;clear r D)
  | (go_at_call 128;refine(a0.o _ V.o).mono ?_;rintro e w3 ⟨rfl,E⟩;have Y:Hid (Blk w3 w.heap.size 27 (u8s (List.replicate 32 0))):=I.o.below E I.o.lt;have G:Hid (Below w.heap.size w w3):=M.o.trans (E.mono M.o.size);clear E)
  | (refine zab rfl 27 (.tmp 2) (.tmp 6) rfl w.heap.size (u8s (Sh.sha ls.flatten)) rr rr 27 _ Y.o J.o (zac _) a1.o ?_;intro w8 a2 X))
 exact bodyPost_ret (zan rfl _ w.heap.size _ _ rfl a2 _ Tryz.underlying27 rfl J.o) rfl ⟨rfl,X.below G.o lr G.o.size⟩
theorem beBytes_len(n k:Nat):(Sh.beBytes n k).length=k:=by
 induction k with
 | zero=>rfl
 | succ k ih=>simp[Sh.beBytes,ih]
theorem zdx(n i:Nat):(n:Int)/2^(8*i)%256=((UInt8.ofNat (n/256^i)).toNat:Int):=by
 have e1:(n:Int)/2^(8*i)=((n/256^i:Nat):Int):=by
  have:((2:Int)^(8*i))=((256^i:Nat):Int):=by rw[Int.pow_mul];simp
  rw[this];rfl
 rw[e1,UInt8.toNat_ofNat'];omega
def putI(n k i:Nat):List UInt8:=List.replicate (k-i) 0++Sh.beBytes n i
theorem zgm(n k i:Nat)(h:i≤k):(putI n k i).length=k:=by simp[putI,beBytes_len];omega
theorem zgl(n k i p:Nat)(h:i<k)(hp:p=k-1-i):(putI n k i).set p (UInt8.ofNat (n/256^i))=putI n k (i+1):=by
 subst hp
 unfold putI
 rw[show k-i=(k-(i+1))+1 by omega,List.replicate_succ',as9,List.set_append_right _ _ (by simp;omega)]
 simp[Sh.beBytes,show k-1-i-(k-(i+1))=0 by omega]
theorem put_2(n:Nat)(w:World)(a3:n<18446744073709551616)(hf:n<65536):
 Calls Tryz.prog 52 #[.int .i64 2,.int .i64 2,.int .u64 (n:Int)] w fun e w'=>e=.returned (.tuple #[.slice (some ⟨w.heap.size,0,none⟩) 2 2,.int .i64 0])∧Blk w' w.heap.size 5 (u8s (Sh.beBytes n 2))∧Below w.heap.size w w':=by
 have hz:((n:Int)/65536 != 0)=false:=by rw[bne_eq_false_iff_eq];omega
 go_enter Tryz.func52, Tryz.ntmps52
 go_wp2_with (first
  | (go_at_call 67;go_in)
  | (refine zaj rfl (.tmp 25) (.tmp 25) 22 rfl 5 (.int .u8 0) 1 Tryz.underlying22 iU8 rfl .i64 .i64 2 2 rr rr 2 2 rfl rfl om om om ?_;intro w1 I A X;have D:Hid (Blk w1 w.heap.size 5 (u8s (putI n 2 0))):=I;have J:Hid (Below w.heap.size w w1):=zad A;clear I A X))
 go_loopg [29] 2 (fun kk q wr=>∃i:Nat,i≤2∧kk=2-i∧q=.int .i64 i∧Blk wr w.heap.size 5 (u8s (putI n 2 i))∧Below w.heap.size w wr)
 case atStart=>exact⟨0,by omega,rfl,rfl,D.o,J.o⟩
 case round =>
  clear D J;obtain⟨i,hi,r,rfl,hb,hB⟩:=hrel;have V:=qh r;clear r
  by_cases hlt:i<2
  · have G:(i:Int)<2:=om
    obtain⟨p,hp⟩:=ex9 (2-1-i);have a1:(1:Int)-(i:Int)=(p:Int):=om;have a2:(0:Int)≤(p:Int):=om;have a0:(p:Int)<2:=om;have HS:=qh (zgl n 2 i p hlt hp);have U:=zgm n 2 i hi;obtain⟨x,hx⟩:∃x,(putI n 2 i)[p]? = some x:=⟨_,ge9 om⟩;have cx:wr.cell? ⟨w.heap.size,p,none⟩=some (.int .u8 x.toNat):=by rw[hb.cell,u8s_getElem?,hx];rfl
    have fx:=hb.frozen p;have M:=qh (zdx n i);have E:=qh (hb.set_ p (.int .u8 (UInt8.ofNat (n/256^i)).toNat));rw[za5,HS.o]at E;have Y:=qh (hB.setCell (p:=⟨w.heap.size,p,none⟩) lr (.int .u8 (UInt8.ofNat (n/256^i)).toNat));have a4:=hb.lt;clear hx U hb hp
    go_wp2_with fail
    rw[M.o];go_roundg (2-(i+1))
    case measure=>have:=V.o;omega
    case rel=>exact⟨i+1,by omega,rfl,by go_num,E.o,Y.o⟩
  · obtain rfl:i=2:=om
    have G:¬((2:Nat):Int)<2:=om;have HB:=qh hb;rw[show putI n 2 2=Sh.beBytes n 2 from rfl]at HB;clear hb
    go_wp2_with fail
    go_ret2;exact⟨rfl,HB.o,hB⟩
theorem put_4(n:Nat)(w:World)(a3:n<18446744073709551616)(hf:n<4294967296):
 Calls Tryz.prog 52 #[.int .i64 2,.int .i64 4,.int .u64 (n:Int)] w fun e w'=>e=.returned (.tuple #[.slice (some ⟨w.heap.size,0,none⟩) 4 4,.int .i64 0])∧Blk w' w.heap.size 5 (u8s (Sh.beBytes n 4))∧Below w.heap.size w w':=by
 have hz:((n:Int)/4294967296 != 0)=false:=by rw[bne_eq_false_iff_eq];omega
 go_enter Tryz.func52, Tryz.ntmps52
 go_wp2_with (first
  | (go_at_call 67;go_in)
  | (refine zaj rfl (.tmp 25) (.tmp 25) 22 rfl 5 (.int .u8 0) 1 Tryz.underlying22 iU8 rfl .i64 .i64 4 4 rr rr 4 4 rfl rfl om om om ?_;intro w1 I A X;have D:Hid (Blk w1 w.heap.size 5 (u8s (putI n 4 0))):=I;have J:Hid (Below w.heap.size w w1):=zad A;clear I A X))
 go_loopg [29] 4 (fun kk q wr=>∃i:Nat,i≤4∧kk=4-i∧q=.int .i64 i∧Blk wr w.heap.size 5 (u8s (putI n 4 i))∧Below w.heap.size w wr)
 case atStart=>exact⟨0,by omega,rfl,rfl,D.o,J.o⟩
 case round =>
  clear D J;obtain⟨i,hi,r,rfl,hb,hB⟩:=hrel;have V:=qh r;clear r
  by_cases hlt:i<4
  · have G:(i:Int)<4:=om
    obtain⟨p,hp⟩:=ex9 (4-1-i);have a1:(3:Int)-(i:Int)=(p:Int):=om;have a2:(0:Int)≤(p:Int):=om;have a0:(p:Int)<4:=om;have HS:=qh (zgl n 4 i p hlt hp);have U:=zgm n 4 i hi;obtain⟨x,hx⟩:∃x,(putI n 4 i)[p]? = some x:=⟨_,ge9 om⟩;have cx:wr.cell? ⟨w.heap.size,p,none⟩=some (.int .u8 x.toNat):=by rw[hb.cell,u8s_getElem?,hx];rfl
    have fx:=hb.frozen p;have M:=qh (zdx n i);have E:=qh (hb.set_ p (.int .u8 (UInt8.ofNat (n/256^i)).toNat));rw[za5,HS.o]at E;have Y:=qh (hB.setCell (p:=⟨w.heap.size,p,none⟩) lr (.int .u8 (UInt8.ofNat (n/256^i)).toNat));have a4:=hb.lt;clear hx U hb hp
    go_wp2_with fail
    rw[M.o];go_roundg (4-(i+1))
    case measure=>have:=V.o;omega
    case rel=>exact⟨i+1,by omega,rfl,by go_num,E.o,Y.o⟩
  · obtain rfl:i=4:=om
    have G:¬((4:Nat):Int)<4:=om;have HB:=qh hb;rw[show putI n 4 4=Sh.beBytes n 4 from rfl]at HB;clear hb
    go_wp2_with fail
    go_ret2;exact⟨rfl,HB.o,hB⟩
theorem put_8(n:Nat)(w:World)(a3:n<18446744073709551616):
 Calls Tryz.prog 52 #[.int .i64 2,.int .i64 8,.int .u64 (n:Int)] w fun e w'=>e=.returned (.tuple #[.slice (some ⟨w.heap.size,0,none⟩) 8 8,.int .i64 0])∧Blk w' w.heap.size 5 (u8s (Sh.beBytes n 8))∧Below w.heap.size w w':=by
 go_enter Tryz.func52, Tryz.ntmps52
 go_wp2_with (first
  | (go_at_call 67;go_in)
  | (refine zaj rfl (.tmp 25) (.tmp 25) 22 rfl 5 (.int .u8 0) 1 Tryz.underlying22 iU8 rfl .i64 .i64 8 8 rr rr 8 8 rfl rfl om om om ?_;intro w1 I A X;have D:Hid (Blk w1 w.heap.size 5 (u8s (putI n 8 0))):=I;have J:Hid (Below w.heap.size w w1):=zad A;clear I A X))
 go_loopg [29] 8 (fun kk q wr=>∃i:Nat,i≤8∧kk=8-i∧q=.int .i64 i∧Blk wr w.heap.size 5 (u8s (putI n 8 i))∧Below w.heap.size w wr)
 case atStart=>exact⟨0,by omega,rfl,rfl,D.o,J.o⟩
 case round =>
  clear D J;obtain⟨i,hi,r,rfl,hb,hB⟩:=hrel;have V:=qh r;clear r
  by_cases hlt:i<8
  · have G:(i:Int)<8:=om
    obtain⟨p,hp⟩:=ex9 (8-1-i);have a1:(7:Int)-(i:Int)=(p:Int):=om;have a2:(0:Int)≤(p:Int):=om;have a0:(p:Int)<8:=om;have HS:=qh (zgl n 8 i p hlt hp);have U:=zgm n 8 i hi;obtain⟨x,hx⟩:∃x,(putI n 8 i)[p]? = some x:=⟨_,ge9 om⟩;have cx:wr.cell? ⟨w.heap.size,p,none⟩=some (.int .u8 x.toNat):=by rw[hb.cell,u8s_getElem?,hx];rfl
    have fx:=hb.frozen p;have M:=qh (zdx n i);have E:=qh (hb.set_ p (.int .u8 (UInt8.ofNat (n/256^i)).toNat));rw[za5,HS.o]at E;have Y:=qh (hB.setCell (p:=⟨w.heap.size,p,none⟩) lr (.int .u8 (UInt8.ofNat (n/256^i)).toNat));have a4:=hb.lt;clear hx U hb hp
    go_wp2_with fail
    rw[M.o];go_roundg (8-(i+1))
    case measure=>have:=V.o;omega
    case rel=>exact⟨i+1,by omega,rfl,by go_num,E.o,Y.o⟩
  · obtain rfl:i=8:=om
    have G:¬((8:Nat):Int)<8:=om;have HB:=qh hb;rw[show putI n 8 8=Sh.beBytes n 8 from rfl]at HB;clear hb
    go_wp2_with fail
    go_ret2;exact⟨rfl,HB.o,hB⟩
