/- Part of the proof. -/
import Derived.Test.YtadopcjppijgiaaGreatSkp34
import Derived.Test.YtadopcjppijgiaaGreatSkp35
set_option linter.all false
set_option maxRecDepth 100000
set_option maxHeartbeats 0
namespace Go.Proofs.YtadopcjppijgiaaGreat
open Go.RowKit
section
theorem zwg{k:Nat}: (u8s (List.replicate k 0)).length=k:=by rw[zaa,lp9]
theorem zc_u8(k:Nat):Builtin.zeroCells (Value.int .u8 0).cells k=(u8s (List.replicate k 0)).toArray:=by
 have h:Builtin.zeroCells (Value.int .u8 0).cells k=madeCells [Value.int .u8 0].toArray (k * [Value.int .u8 0].length):=rfl;rw[h,zhr _ sy]
 congr 1
 simp[u8s,u8]
theorem zo5{P:Program}(w:World)(base:Nat)(t tn ty e:TypeId)(kn:IntKind)(ht:P.underlying t=some (.slice e))(U:P.underlying tn=some (.int kn))(i:TypeInfo)(hi:P.info? e=some i)(hz:i.zero=some (.int .u8 0))(Y:i.size=1)(G:i.bytes=1)
 (v:Value) (n:Nat) (xs:List Value) (hown:w.ownsRow base e 1 v n xs) (hn:n≤100000) (k:Nat) (hk0:0<k) (hk1:k≤1000) (hbase:base≤w.heap.size):
 ∃v' w',(Builtin.append_ #[t,tn] ty #[v,.int .i64 (k:Int)]).run P w=.ok v' w'∧w'.ownsRow base e 1 v' (n+k) (xs++(u8s (List.replicate k 0)))∧w.grownBy w' v.ownBlock∧(v'.ownBlock=v.ownBlock∨v'.ownBlock=some w.heap.size):=by
 have D:(xs++(u8s (List.replicate k 0))).length=(n+k)*1:=by rw[la9,hown.1,zwg];omega
 have E:∀(r:Nat),r<n+k→∀(a3:Option Nat),
     (w.drew.alloc (.cells (xs.toArray++Builtin.zeroCells (Value.int .u8 0).cells k++Builtin.zeroCells (Value.int .u8 0).cells (grownCap w (n+k) r e-(n+k))) e)).ownsRow base e 1
       (.slice (some ⟨w.heap.size,0,none⟩) (n+k) (grownCap w (n+k) r e)) (n+k) (xs++(u8s (List.replicate k 0))) ∧
     w.grownBy (w.drew.alloc (.cells (xs.toArray++Builtin.zeroCells (Value.int .u8 0).cells k++Builtin.zeroCells (Value.int .u8 0).cells (grownCap w (n+k) r e-(n+k))) e)) a3:=by
  intro r ho a3;have a4:=grownCap_ge w (n+k) r e;have M:grownCap w (n+k) r e≤maxLen:=grownCap_le_maxLen w (n+k) r e (by simp only[maxLen];omega);refine⟨⟨D,.inr ⟨w.heap.size,_,_,rfl,hbase,heap_alloc_new w.drew _,a4,M,?_,?_⟩⟩,⟨rfl,rfl,rfl,by simp,fun k hk _=>heap_alloc_old w.drew _ hk⟩⟩
  · simp only[Array.size_append,List.size_toArray,size_zeroCells,hown.1]
    simp[Value.cells]
    omega
  · rw[zc_u8]
    simp only[Array.toList_append,List.append_assoc];rw[←as9,←D];exact List.take_left
 have J:((n+k:Nat):Int)≤9223372036854775807:=om
 rcases hown.2 with ⟨rfl,rfl⟩|⟨g,A,X,rfl,a5,hg,a7,M,a6,a0⟩
 · have hx:xs=[]:=List.eq_nil_of_length_eq_zero (by simpa using hown.1)
   subst hx;have hr:=Lib.run_append_grow_zeros (P:=P) w t tn ty e i (.int .u8 0) .i64 kn ht U hi hz none 0 0 [] (run_firstCells_none w.drew i.size 0 0 0) k om om om J (by rw[G];omega) (growslice_fits om (by rw[G];omega));have I:=E 0 om (Value.ownBlock (.slice none 0 0));exact⟨_,_,hr,I.1,I.2,Or.inr rfl⟩
 · by_cases hroom:n+k≤A
   · have a2:n*i.size+(u8s (List.replicate k 0)).length≤X.size:=by rw[zwg,Y,a6];omega
     have hr:=zcv (P:=P) w t tn ty e i (.int .u8 0) .i64 kn ht U hi hz g n A X hg k om om (u8s (List.replicate k 0)) (zc_u8 k) (zac _) hroom a2 om (by rw[G];omega);refine⟨_,_,hr,⟨D,.inr ⟨g,A,_,rfl,a5,setRow_heap w g X _ e _ hg,hroom,M,?_,?_⟩⟩,⟨rfl,rfl,rfl,by simp,fun k _ hk=>setRow_other w g k _ (fun e=>hk (by simp[Value.ownBlock,e]))⟩,Or.inl rfl⟩
     · simp only[List.size_toArray,List.length_append,List.length_take,List.length_drop,Array.length_toList]
       omega
     · rw[Y,a0,←D]
       exact List.take_left
   · have V:∀j u,xs[j]? = some u→w.cell? ((⟨g,0,none⟩:Addr).add j)=some u:=hown.cells (g:=g) rfl
     have a1:(Builtin.firstCells i.size n (.slice (some ⟨g,0,none⟩) n A)).run P w.drew=.ok xs.toArray w.drew:=run_firstCells_some w.drew i.size n _ n A xs (by rw[Y];exact hown.1) (by simpa using V);have hr:=Lib.run_append_grow_zeros (P:=P) w t tn ty e i (.int .u8 0) .i64 kn ht U hi hz (some ⟨g,0,none⟩) n A xs a1 k om om om J (by rw[G];omega) (growslice_fits om (by rw[G];omega));have I:=E A om (Value.ownBlock (.slice (some ⟨g,0,none⟩) n A));exact⟨_,_,hr,I.1,I.2,Or.inr rfl⟩
section
variable{w:World}{ops:Array Oper}{rest:List Oper}{o:Oper}{a:Act}{K:Act→World→Prop}{Q:Exit→Act→World→Prop}
theorem zjj(A:o.guard=none)(s y:Operand)(ho:o.op=.call { callee:=.builtin .append,args:=#[s,y],argTypes:=#[22,3] })
 (base:Nat) (v:Value) (n:Nat) (xs:List Value) (hs:a.eval s=v) (hown:w.ownsRow base 5 1 v n xs) (hn:n≤100000) (k:Nat) (ki:Int) (hy:a.eval y=.int .i64 ki) (hki:ki=(k:Int)) (hk0:0<k) (hk1:k≤1000) (hbase:base≤w.heap.size)
 (h:∀A' c' w',w'.ownsRow base 5 1 (.slice A' (n+k) c') (n+k) (xs++u8s (List.replicate k 0))→n+k≤c'→w.grownBy w' v.ownBlock→(Value.ownBlock (.slice A' (n+k) c')=v.ownBlock∨Value.ownBlock (.slice A' (n+k) c')=some w.heap.size)→wpList Tryz.prog ops Q rest (a.put o.dst (.slice A' (n+k) c')) w'):wpList Tryz.prog ops Q (o :: rest) a w:=by
 refine zb2 A fun _ hK=>?_
 obtain⟨i,hi,hz,E,D⟩:=info8m;obtain⟨v',w',r,h2,h3,h4⟩:=zo5 (P:=Tryz.prog) w base 22 3 o.type 5 .i64 Tryz.underlying22 Tryz.underlying3 i hi hz E D v n xs hown hn k hk0 hk1 hbase;have G : #[s,y].map a.eval=#[v,.int .i64 (k:Int)]:=by simp only[List.map_toArray,List.map_cons,List.map_nil,hs,hy,hki]
 obtain⟨A',c',rfl,hc⟩:=zeq h2;refine zck (zcd .append #[s,y] #[22,3] ho G fun cs=>?_) (hK _ _ (h A' c' w' h2 hc h3 h4));simp only[builtin,Sem.run_bind,r,Sem.run_pure,Result.andThen_ok]
end
end
def OneV(B:Nat)(w:World)(v:Value)(n:Nat)(sc:List (List UInt8))(vs:List Value):Prop :=
 w.ownsRow B 22 1 v n vs∧sc.length=vs.length∧∀(i:Nat) (u:Value),vs[i]? = some u→∃l A c,u=.slice A 32 c∧32≤c∧sc[i]? = some l∧Rd w A 32 (u8s l)∧∀ad,A=some ad→v.ownBlock≠some ad.block
theorem OneV.nil(B:Nat)(w:World):OneV B w (.slice none 0 0) 0 [] []:=⟨World.ownsRow_nil _ _ _ _,rfl,fun i u hu=>by simp at hu⟩
theorem OneV.below{B n:Nat}{w w':World}{v:Value}{sc:List (List UInt8)}{vs:List Value}(h:OneV B w v n sc vs)(hB:Below w.heap.size w w'):OneV B w' v n sc vs:=by
 refine⟨zas h.1 hB,h.2.1,fun i u hu=>?_⟩;obtain⟨l,A,c,e,hc,hl,hr,ha⟩:=h.2.2 i u hu;exact⟨l,A,c,e,hc,hl,hr.below hB,ha⟩
theorem OneV.rdB{B n c:Nat}{w:World}{A:Option Addr}{sc:List (List UInt8)}{vs:List Value}(h:OneV B w (.slice A n c) n sc vs):RdB w A n sc:=by
 have hr:=Rd.of_own h.1;refine⟨vs,hr,by rw[h.2.1,hr.1],fun i v hv=>?_⟩;obtain⟨l,A,c,e,hc,hl,hr,_⟩:=h.2.2 i v hv;exact⟨l,hl,A,32,c,e,hc,hr⟩
theorem OneV.app{B n n' c:Nat}{w w':World}{v v':Value}{A:Option Addr}{sc:List (List UInt8)}{vs:List Value}{l:List UInt8}(h:OneV B w v n sc vs)(ho:w'.ownsRow B 22 1 v' n' (vs++[.slice A 32 c]))(hg:w.grownBy w' v.ownBlock)(I:v'.ownBlock=v.ownBlock∨v'.ownBlock=some w.heap.size)
 (hc:32≤c) (hr:Rd w A 32 (u8s l)) (ha:∀ad,A=some ad→v.ownBlock≠some ad.block):OneV B w' v' n' (sc++[l]) (vs++[.slice A 32 c]):=by
 have r:∀ad:Addr,ad.block<w.heap.size→v.ownBlock≠some ad.block→v'.ownBlock≠some ad.block:=fun ad a1 a4 e3=>by
  rcases I with e|e
  · exact a4 (e ▸ e3)
  · rw[e]at e3
    injection e3 with e3
    omega
 refine⟨ho,by simp[h.2.1],fun i u hu=>?_⟩
 rcases Nat.lt_or_ge i vs.length with hi|hi
 · rw[ll9 hi]at hu
   obtain⟨l',A',c',e,J,M,D,G⟩:=h.2.2 i u hu;exact⟨l',A',c',e,J,by rw[ll9 (by rw[h.2.1];exact hi)];exact M,D.grownR hg G,fun ad e2=>r ad (D.blk_lt om ad e2) (G ad e2)⟩
 · rw[ar9 hi]at hu
   have E:i-vs.length=0:=by
    have:=(gi9.1 hu).1
    simp at this
    omega
   rw[E]at hu;simp only[List.getElem?_cons_zero,Option.some.injEq]at hu;subst hu;exact⟨l,A,c,rfl,hc,by rw[ar9 (by rw[h.2.1];exact hi),h.2.1,E];rfl,hr.grownR hg ha,fun ad e2=>r ad (hr.blk_lt om ad e2) (ha ad e2)⟩
theorem zk7(A:Option Addr)(n c:Nat)(hs:List Ho)(w:World)(h:RdS 68 w A n (hs.flatMap Ho.cells))(a3:∀s∈hs,s.ok)(hl:hs.length=n)(hn:n≤1400000000000):
 Calls Tryz.prog 31 #[.slice A n c] w fun e w'=>∃A' c',e=.returned (.slice A' n c')∧RdB w' A' n (hs.map Ho.pub)∧Below w.heap.size w w':=by
 have HR:=qh h;have HK:=qh a3;have HL:=qh hl;clear h a3 hl
 go_enter Tryz.func31, Tryz.ntmps31
 go_wp2
 go_loopg [3,4] n (fun kk q3 q wr=>∃(k:Nat) (A3:Option Addr) (c3:Nat) (vs:List Value),k≤n∧kk=n-k∧q=.int .i64 k∧q3=.slice A3 k c3∧Hid (OneV w.heap.size wr (.slice A3 k c3) k ((hs.take k).map Ho.pub) vs)∧Hid (Below w.heap.size w wr))
 case atStart=>exact⟨0,none,0,[],Nat.zero_le _,rfl,rfl,rfl,OneV.nil _ _,Below.refl _ _⟩
 case round =>
  obtain⟨k,A3,c3,vs,b4,X,rfl,rfl,HV,HE⟩:=hrel;have a6:=qh X;clear X
  by_cases hlt:k<n
  · have a2:(k:Int)<(n:Int):=om
    obtain⟨o,ho⟩:∃o,hs[k]? = some o:=⟨_,ge9 (by rw[HL.o];omega)⟩;have I:=HK.o o (mg9 ho);obtain⟨b,G,rfl,b2,Y⟩:=zbl (HR.o.bel HE.o lr) HK.o ho om
    have a4:Hid (Rd wr (some ⟨b,G+k*68+34,none⟩) 32 (u8s o.pub)):=⟨by rw[zaa,I.2.2.1],fun _=>⟨b,G+k*68+34,rfl,b2,fun j u hu=>by
     have hj:j<32:=by have:=(gi9.1 hu).1;rwa [zaa,I.2.2.1]at this
     have h5:=Y (34+j) u (by
      have h6:=Ho.at_pub I;rw[←h6,List.getElem?_take,if_pos hj,List.getElem?_drop]at hu
      exact hu)
     rwa [show G+k*68+(34+j)=G+k*68+34+j by omega]at h5⟩⟩
    have a5:Hid ((hs.take k).map Ho.pub++[o.pub]=(hs.take (k+1)).map Ho.pub):=by show _=_;rw[List.take_add_one,ho];simp
    generalize o.pub=PB at *;clear ho I Y
    go_wp2_with (first
    | (go_at_call 28;(refine(zb1 _ 32 32 PB _ (by exact a4.o) om).mono ?_);rintro e w2 ⟨A2,c2,rfl,a1,r,V⟩;have E:=qtr HE V;have U:=qh ((HV.o.below V).below ((Below.refl _ w2).alloc lr (.cells #[.slice A2 32 c2] 22)));have a7:=qh (Rd.of_own r);have a9:=qh a1;have b3:Hid (∀ad:Addr,A2=some ad→(Value.slice A3 k c3).ownBlock≠some ad.block):=fun ad e e2=>by have h1:=(r.lt ad.block (by rw[e];rfl)).1;have h2:=(HV.o.1.lt _ e2).2;omega
       clear a1 r V)
    | (at_builtin;refine zah rfl (.tmp 11) (.tmp 19) 57 rfl w.heap.size 22 1 24 Tryz.underlying57 eSl (.slice A3 k c3) k vs rr (by exact U.o.1) (some ⟨w2.heap.size,0,none⟩) 1 1 [.slice A2 32 c2] rr (by exact RdS.new w2 _ [.slice A2 32 c2] 1 rfl) (by intro v hv;simp at hv;rw[hv];rfl) om om (by have:=E.o.size;simp;omega) ?_;intro A4 c4 w4 D a8 M J;have b1:=qh ((E.o.alloc E.o.size _).grown M (Nat.le_trans E.o.size sy) (fun k hk=>(U.o.1.lt k hk).1));have a0:=qh (U.o.app D M (by simpa using J) a9.o (a7.o.alloc _) b3.o);clear D a8 M J))
    rw[a5.o]at a0;go_roundg (n-(k+1))
    case measure=>have:=a6.o;omega
    case rel=>exact⟨k+1,A4,c4,_,by omega,rfl,by go_num,rfl,a0,b1⟩
  · obtain rfl:k=n:=om
    have a2:¬(k:Int)<(k:Int):=om
    have HF:Hid (RdB wr A3 k (hs.map Ho.pub)):=by
     have hp:=HV.o;rw[tk (by rw[HL.o];exact lr)]at hp;exact hp.rdB
    go_wp2;go_ret;exact⟨_,⟨_,rfl⟩,HF.o,HE.o⟩
section
attribute [local go_sem ↓] zch zb0
theorem szRs(w:World):(sizeOf 106).run Tryz.prog w=.ok 192 w:=by kernel_rfl
theorem zv0{o:Oper}{a:Act}{w:World}{x:Operand}{g off n c:Nat}(k:Nat)(ho:o.op=.slice 22 x none (some (.const (.int .i64 (k:Int)))) none)(hx:a.eval x=.slice (some ⟨g,off,none⟩) n c)(hk:k≤c):(execOp a.eval o).run Tryz.prog w=.ok (.value (.slice (some ⟨g,off,none⟩) k c)) w:=by
 unfold execOp
 have he:a.eval (.const (.int .i64 (k:Int)))=.int .i64 (k:Int):=rfl
 simp[ho,hx,he,Instr.sliceAt,Instr.slice,Instr.sliceBounds,Instr.sliceBound,asIntOf,run_underlying Tryz.underlying22,hk,Addr.add]
theorem zd4{w:World}{b off n:Nat}{ss:List Sp}(h:RdS 192 w (some ⟨b,off,none⟩) n (ss.flatMap Sp.cells))(hs:∀s∈ss,s.ok){i:Nat}{s:Sp}(hi:ss[i]? = some s)(hn:0<n)(o:Nat)(x:List UInt8)(hx:(s.bytes.drop o).take 32=x):b<w.heap.size∧w.rangeAt b (off+i*192+o) (u8s x):=by
 obtain⟨b2,o2,e2,A,r⟩:=zfa h hs hi hn
 injection e2 with e2
 injection e2 with e2 e3
 subst e2;subst e3;refine⟨A,fun j v hv=>?_⟩
 have h5:=r (o+j) v (by
  rw[←hx,u8s_getElem?,List.getElem?_take]at hv
  split at hv
  · rw[Sp.cells,u8s_getElem?];rwa [List.getElem?_drop]at hv
  · cases hv)
 rwa [←Nat.add_assoc]at h5
theorem zjt{w:World}{b o:Nat}{l:List UInt8}(h:w.rangeAt b o (u8s l))(hb:b<w.heap.size)(n:Nat)(hn:l.length=n):Rd w (some ⟨b,o,none⟩) n (u8s l):=by
 have h5:=zez h hb 0 n om
 rwa [List.drop_zero,tk om,Nat.add_zero]at h5
theorem Rd.grown0{w w':World}{A:Option Addr}{n:Nat}{xs:List Value}{row:Option Nat}(h:Rd w A n xs)(hg:w.grownBy w' row)(r:0<n→∀ad,A=some ad→row≠some ad.block):Rd w' A n xs:=by
 rcases Nat.eq_zero_or_pos n with rfl|hn
 · exact⟨h.1,fun h=>absurd h om⟩
 · exact h.grownR hg (r hn)
theorem zru(A B:Option Addr)(k c d:Nat)(cs:List Cm)(ss:List Sp)(w:World)(h1:RdS 20 w A (k+1) (cs.flatMap Cm.cells))(h2:RdS 192 w B (k+1) (ss.flatMap Sp.cells))(j9:∀c∈cs,c.ok)(h6:∀s∈ss,s.ok)
 (hcl:cs.length=k+1) (hsl:ss.length=k+1) (he:berr cs (k+1)=0):
 Calls Tryz.prog 33 #[.slice A (k+1) c,.slice B (k+1) d] w fun e w'=>∃A' c',e=.returned (.tuple #[.slice A' 288 c',.int .i64 0])∧288≤c'∧w'.ownsRow w.heap.size 5 1 (.slice A' 288 c') 288 (u8s (hst cs ss (k+1) (k+1)))∧Below w.heap.size w w':=by
 obtain⟨r0,s0,s6,m7⟩:=zl1 he;have hk:k≤4:=om;have m3:=qh m7;have i1:=qh j9;have a8:=qh h6;have g7:=qh hcl;have l2:=qh hsl;have j5:=qh h1;have f1:=qh h2;have r3:=qh (zkh ss k om);have h9:=qh (fun m hm=>zfy (n:=k+1) j9 h6 hcl hsl s0 m hm);obtain⟨b2,r,rfl,o4,_⟩:=h2.2 om;have p0:Hid (∀W,Below w.heap.size w W→Calls Tryz.prog 63 #[.slice (some ⟨b2,r,none⟩) (k+1) d] W fun e w'=>∃A' c',e=.returned (.tuple #[.slice A' (48*k) c',.int .i64 0])∧48*k≤c'∧Rd w' A' (48*k) (u8s (fil ss k))∧Below W.heap.size W w'):=fun W hW=>zmd _ k d ss W (h2.bel hW lr) h6 hsl hk
 have n0:¬((k:Int)+1=0):=om;have n5:¬((k:Int)+1>5):=om;clear h1 h2 j9 h6 hcl hsl m7 he r0 s6 o4
 go_enter Tryz.func33, Tryz.ntmps33
 go_wp2_with fail
 go_loopg [6,7,8] (k+1) (fun kk v6 v q wr=>∃(j:Nat) (A7:Option Addr) (c7:Nat) (vs:List Value),v6=.int .i64 0∧j≤k+1∧kk=k+1-j∧q=.int .i64 j∧v=.slice A7 j c7∧Hid (OneV w.heap.size wr (.slice A7 j c7) j ((cs.take j).map Cm.enc) vs)∧Hid (Below w.heap.size w wr))
 case atStart=>exact⟨0,none,0,[],rfl,Nat.zero_le _,rfl,rfl,rfl,OneV.nil _ _,Below.refl _ _⟩
 case round =>
  obtain⟨j,A7,c7,vs,rfl,t8,g4,rfl,rfl,HV,HE⟩:=hrel;have h0:=qh g4;clear g4
  by_cases hlt:j<k+1
  · have p8:(j:Int)<(k:Int)+1:=om
    obtain⟨cm,J⟩:∃c,cs[j]? = some c:=⟨_,ge9 (by rw[g7.o];omega)⟩;have a0:=i1.o cm (mg9 J);obtain⟨p3,a9⟩:=m3.o j cm J;obtain⟨b,j6,rfl,n6,l5⟩:=zkm (j5.o.bel HE.o lr) i1.o J om;have t5:(ldAt 63 (.pointer (some ⟨b,j6+j*20,none⟩))).run Tryz.prog wr=.ok (.agg cm.cells.toArray) wr:=run_loadAt_mid wr b (j6+j*20) 63 cm.cells _ l5 Tryz.underlying63 rfl (by rw[Cm.cells_len a0];exact hd76c)
    have n3:Hid (∀W,Calls Tryz.prog 62 #[.agg cm.cells.toArray] W fun e w'=>∃g c',e=.returned (.tuple #[.slice (some ⟨g,0,none⟩) 32 c',.int .i64 0])∧32≤c'∧W.heap.size≤g∧Rd w' (some ⟨g,0,none⟩) 32 (u8s cm.enc)∧Below W.heap.size W w'):=fun W=>by
     refine(zuo cm a0 p3 W).mono ?_;rintro e w' ⟨A',c',rfl,d3,ho,hB⟩;obtain⟨g,rfl,hg,_,hr⟩:=zco ho om;exact⟨g,c',rfl,d3,hg,hr,hB⟩
    have g3:Hid (wr.cell? ⟨b,j6+j*20,none⟩=some (.int .u8 (cm.k.toNat:Int))∧b<wr.heap.size):=⟨l5 0 _ rfl,n6⟩;have o3:Hid ((cs.take j).map Cm.enc++[cm.enc]=(cs.take (j+1)).map Cm.enc):=by show _=_;rw[List.take_add_one,J];simp
    have e7:(j<k∧cm.k=1)∨(j=k∧¬cm.k=1):=by
     rcases Nat.lt_or_ge j k with h|h
     · refine .inl ⟨h,?_⟩
       have e:decide (j+1=k+1)=false:=decide_eq_false om;rw[e]at a9;exact Decidable.byContradiction fun h2=>a9 (decide_eq_false h2)
     · obtain rfl:j=k:=om
       refine .inr ⟨rfl,fun h2=>a9 ?_⟩;rw[decide_eq_true h2,decide_eq_true rfl]
    generalize cm.cells=CC at *;generalize cm.enc=CE at *;have k9:Hid ((j<k∧cm.k=1)∨(j=k∧¬cm.k=1)):=e7;clear J a0 p3 a9 l5 n6 e7
    rcases k9.o with ⟨j0,e3⟩|⟨j0,e3⟩
    · have hq:((j:Int) == (k:Int))=false:=by rw[beq_eq_false_iff_ne];omega
      have v2:¬(j:Int)=(k:Int):=om;rw[e3]at g3;clear e3 k9
      go_wp2_with (first
       | (go_at_call 62;(refine(n3.o _).mono ?_);rintro e w2 ⟨g2,c2,rfl,e1,l6,b4,Y⟩;have b3:=qtr HE Y;have d5:=qh ((HV.o.below Y).below ((Below.refl _ w2).alloc lr (.cells #[.slice (some ⟨g2,0,none⟩) 32 c2] 22)));have f1:=qh b4;have j7:=qh e1;have k0:Hid (∀ad:Addr,(some ⟨g2,0,none⟩:Option Addr)=some ad→(Value.slice A7 j c7).ownBlock≠some ad.block):=fun ad e e2=>by injection e with e;subst e;have h2:=(HV.o.1.lt _ e2).2;simp at h2;omega
          have d0:=(Y.cell g3.o.2).trans g3.o.1
          clear e1 l6 b4 Y)
       | (at_builtin;refine zah rfl (.tmp 78) (.tmp 80) 57 rfl w.heap.size 22 1 24 Tryz.underlying57 eSl (.slice A7 j c7) j vs rr (by exact d5.o.1) (some ⟨w2.heap.size,0,none⟩) 1 1 [.slice (some ⟨g2,0,none⟩) 32 c2] rr (by exact RdS.new w2 _ [.slice (some ⟨g2,0,none⟩) 32 c2] 1 rfl) (by intro v hv;simp at hv;rw[hv];rfl) om om (by have:=b3.o.size;simp;omega) ?_;intro A4 c4 w4 D d9 X V;have k6:=qh ((b3.o.alloc b3.o.size _).grown X (Nat.le_trans b3.o.size sy) (fun k hk=>(d5.o.1.lt k hk).1));have f7:=qh (d5.o.app D X (by simpa using V) j7.o (f1.o.alloc _) k0.o);clear D d9 X V))
      rw[o3.o]at f7;go_roundg (k+1-(j+1))
      case measure=>have:=h0.o;omega
      case rel=>exact⟨j+1,A4,c4,_,rfl,by omega,rfl,by go_num,rfl,f7,k6⟩
    · have hq:((j:Int) == (k:Int))=true:=by rw[beq_iff_eq];omega
      have v7:(((cm.k.toNat:Nat):Int) == 1)=false:=by rw[beq_eq_false_iff_ne];exact fun h=>e3 (UInt8.toNat_inj.1 (by show _=1;omega))
      have s8:¬((cm.k.toNat:Nat):Int)=1:=fun h=>e3 (UInt8.toNat_inj.1 (by show _=1;omega))
      have s7:=qh j0;generalize cm.k.toNat=KK at *;clear e3 k9 j0
      go_wp2_with (first
       | (go_at_call 62;(refine(n3.o _).mono ?_);rintro e w2 ⟨g2,c2,rfl,e1,l6,b4,Y⟩;have b3:=qtr HE Y;have d5:=qh ((HV.o.below Y).below ((Below.refl _ w2).alloc lr (.cells #[.slice (some ⟨g2,0,none⟩) 32 c2] 22)));have f1:=qh b4;have j7:=qh e1;have k0:Hid (∀ad:Addr,(some ⟨g2,0,none⟩:Option Addr)=some ad→(Value.slice A7 j c7).ownBlock≠some ad.block):=fun ad e e2=>by injection e with e;subst e;have h2:=(HV.o.1.lt _ e2).2;simp at h2;omega
          have d0:=(Y.cell g3.o.2).trans g3.o.1
          clear e1 l6 b4 Y)
       | (at_builtin;refine zah rfl (.tmp 78) (.tmp 80) 57 rfl w.heap.size 22 1 24 Tryz.underlying57 eSl (.slice A7 j c7) j vs rr (by exact d5.o.1) (some ⟨w2.heap.size,0,none⟩) 1 1 [.slice (some ⟨g2,0,none⟩) 32 c2] rr (by exact RdS.new w2 _ [.slice (some ⟨g2,0,none⟩) 32 c2] 1 rfl) (by intro v hv;simp at hv;rw[hv];rfl) om om (by have:=b3.o.size;simp;omega) ?_;intro A4 c4 w4 D d9 X V;have k6:=qh ((b3.o.alloc b3.o.size _).grown X (Nat.le_trans b3.o.size sy) (fun k hk=>(d5.o.1.lt k hk).1));have f7:=qh (d5.o.app D X (by simpa using V) j7.o (f1.o.alloc _) k0.o);clear D d9 X V))
      rw[o3.o]at f7;go_roundg (k+1-(j+1))
      case measure=>have:=h0.o;omega
      case rel=>exact⟨j+1,A4,c4,_,rfl,by omega,rfl,by go_num,rfl,f7,k6⟩
  · obtain rfl:j=k+1:=om
    have p8:¬((k+1:Nat):Int)<(k:Int)+1:=om;have t3:¬((k:Int)+1)<(k:Int)+1:=om
    have k1:Hid (RdB wr A7 (k+1) (cs.map Cm.enc)):=by
     have h5:=HV.o.rdB
     rwa [tk (by rw[g7.o];exact lr)]at h5
    obtain⟨s,I⟩:∃s,ss[k]? = some s:=⟨_,ge9 (by rw[l2.o];omega)⟩;obtain⟨cm,J⟩:∃c,cs[k]? = some c:=⟨_,ge9 (by rw[g7.o];omega)⟩;have E:=a8.o s (mg9 I);have a0:=i1.o cm (mg9 J);have d8:Hid (∀W,Below wr.heap.size wr W→RdS 192 W (some ⟨b2,r,none⟩) (k+1) (ss.flatMap Sp.cells)):=fun W hW=>f1.o.bel (HE.o.trans (hW.mono HE.o.size)) lr
    have r4:Hid (∀W,Below wr.heap.size wr W→Below w.heap.size w W):=fun W hW=>HE.o.trans (hW.mono HE.o.size)
    have s4:Hid (∀W,Below wr.heap.size wr W→RdB W A7 (k+1) (cs.map Cm.enc)):=fun W hW=>k1.o.below hW
    obtain⟨b7,o7,A1,n1,c1,l1,rfl,l7,f4,b5,f3,c9⟩:=k1.o.at_ (k:=k) om;obtain rfl:l1=cm.enc:=by have h5:=f4.o;rw[List.getElem?_map,J]at h5;simpa using h5.symm
    obtain rfl:n1=32:=by rw[←c9.len,Cm.enc_len a0]
    have j4:Hid (∀W,Below wr.heap.size wr W→W.cell? ⟨b7,o7+k,none⟩=some (.slice A1 32 c1)∧Rd W A1 32 (u8s cm.enc)):=fun W hW=>⟨(hW.cell l7).trans b5,c9.below hW⟩
    obtain⟨L,hL⟩:=ex9 (48*k);obtain⟨Z,hZ⟩:=ex9 (208-L);obtain⟨M,hM⟩:=ex9 (240-L);have p6:Hid (∀W,Below w.heap.size w W→Calls Tryz.prog 63 #[.slice (some ⟨b2,r,none⟩) (k+1) d] W fun e w'=>∃A' c',e=.returned (.tuple #[.slice A' L c',.int .i64 0])∧L≤c'∧Rd w' A' L (u8s (fil ss k))∧Below W.heap.size W w'):=by rw[hL];exact p0.o
    have e0:Hid (∀W,Rd W A1 32 (u8s cm.enc)→Calls Tryz.prog 28 #[.slice A1 32 c1] W fun e w'=>∃A' c',e=.returned (.slice A' 32 c')∧32≤c'∧w'.ownsRow W.heap.size 5 1 (.slice A' 32 c') 32 (u8s cm.enc)∧Below W.heap.size W w'):=fun W hW=>zb1 _ 32 c1 _ W hW om
    have t7:(240:Int)-(L:Int)-32=(Z:Int):=om;have q7:0<Z:=om;have q5:Z≤1000:=om;have v3:M≤1000:=om;have v0:L≤1000:=om;have n4:Hid (32+Z=M):=by show _=_;omega
    have h7:Hid (M+L=240):=by show _=_;omega
    have v5:Hid (L=48*k):=hL;have k2:=h9.o 1 om;obtain⟨P1,h8⟩:=ex9 (hst cs ss (k+1) 1);have m4:P1=headOf cm s (fil ss k) 0 (hst cs ss (k+1) 0):=by rw[h8];exact zgr (m:=0) (i:=k) om J I
    rw[←h8]at k2;obtain⟨BT,d4⟩:=ex9 (Ch.turn s.stream (cm.enc++List.replicate Z 0)++fil ss k);have a3:betaOf cm s (fil ss k) 0 (hst cs ss (k+1) 0)=BT:=by rw[d4,betaOf,if_pos rfl,r3.o,←hL,show 240-L-32=Z by omega]
    have d6:P1=s.alpha++((Mc.tag s.mac (s.alpha++BT)).take 16++BT):=by rw[m4,headOf,a3]
    have a1:=E.2.2.2.2.1;have d7:((Mc.tag s.mac (s.alpha++BT)).take 16).length=16:=by rw[List.length_take,Mc.tag_len];rfl
    have a2:Hid (P1.drop 48=BT):=by show _=_;rw[d6,←as9,List.drop_left' (by rw[la9,a1,d7])]
    have b6:Hid ((P1.drop 32).take 16=(Mc.tag s.mac (s.alpha++BT)).take 16):=by show _=_;rw[d6,List.drop_left' a1,List.take_left' d7]
    have r7:BT.length=240:=by rw[←a2.o,List.length_drop,k2]
    have g9:Hid (∀W A3 c3,Rd W A3 M (u8s cm.enc++u8s (List.replicate Z 0))→Calls Tryz.prog 64 #[.agg (u8s s.stream).toArray,.int .i64 0,.slice A3 M c3] W fun e w'=>∃A' c',e=.returned (.slice A' M c')∧M≤c'∧w'.ownsRow W.heap.size 5 1 (.slice A' M c') M (u8s (Ch.turn s.stream (cm.enc++List.replicate Z 0)))∧Below W.heap.size W w'):=fun W A3 c3 h3=>zk5 s.stream E.2.1 A3 M c3 _ W (by rw[zae];exact h3) om om
    have i7:Hid (u8s (Ch.turn s.stream (cm.enc++List.replicate Z 0))++u8s (fil ss k)=u8s BT):=by show _=_;rw[←zae,d4]
    have i4:Hid (∀W,Below wr.heap.size wr W→∀A3 c3,Rd W A3 240 (u8s BT)→Calls Tryz.prog 65 #[.agg (u8s s.mac).toArray,.slice (some ⟨b2,r+k*192+128,none⟩) 32 32,.slice A3 240 c3] W fun e w'=>∃A' c',e=.returned (.slice A' 16 c')∧16≤c'∧Rd w' A' 16 (u8s ((P1.drop 32).take 16))∧Below W.heap.size W w'):=fun W hW A3 c3 h3=>by
     rw[b6.o];obtain⟨q1,q2⟩:=zd4 (d8.o W hW) a8.o I om 128 s.alpha (Sp.at_alpha E);refine(zis s.mac E.1 _ 32 32 s.alpha A3 240 c3 BT W (zjt q2 q1 32 a1) h3 om om).mono ?_;rintro e w' ⟨A',c',rfl,d3,ho,g6⟩;exact⟨A',c',rfl,d3,Rd.of_own ho,g6⟩
    have j2:Hid (∀W,Below wr.heap.size wr W→W.rangeAt b2 (r+k*192+32) (u8s s.stream)):=fun W hW=>(zd4 (d8.o W hW) a8.o I om 32 s.stream (Sp.at_stream E)).2
    have e6:Hid (∀W,Below wr.heap.size wr W→W.rangeAt b2 (r+k*192) (u8s s.mac)):=fun W hW=>(zd4 (d8.o W hW) a8.o I om 0 s.mac (Sp.at_mac E)).2
    have j3:(Tryz.prog.info? 27).map (·.size)=some (u8s s.stream).length:=by rw[zaa,E.2.1];exact hd32
    have k7:(Tryz.prog.info? 27).map (·.size)=some (u8s s.mac).length:=by rw[zaa,E.1];exact hd32
    have t2:=Tryz.underlying27;have k3:Hid (hst cs ss (k+1) 1=P1):=h8.symm;have i8:Hid (u8s BT=u8s (P1.drop 48)):=by show _=_;rw[a2.o]
    have t6:Hid (0<k+1):=by show _<_;omega
    have t9:(k:Int)<(k:Int)+1:=om;have t1:(0:Int)≤(k:Int):=om;generalize fil ss k=FK at *;generalize u8s s.stream=KS at *;generalize u8s s.mac=KM at *;generalize u8s cm.enc=CE at *;generalize Ch.turn s.stream (cm.enc++List.replicate Z 0)=TU at *;have i5:Hid (u8s ((P1.drop 32).take 16)=u8s (((hst cs ss (k+1) 1).drop 32).take 16)):=by show _=_;rw[k3.o]
    have i6:Hid (u8s BT=u8s ((hst cs ss (k+1) 1).drop 48)):=by show _=_;rw[k3.o];exact i8.o
    generalize u8s ((P1.drop 32).take 16)=TG at *;have g0:Hid (∀W,Below wr.heap.size wr W→b7<W.heap.size):=fun W hW=>Nat.lt_of_lt_of_le l7 hW.size
    clear I J E a0 l7 f4 b5 f3 c9 hL hZ hM h8 m4 a3 d6 a1 d7 k2 d4 r7 p0 HV k1 b6 a2
    go_wp2_with (first
     | (go_at_call 63;(refine(p6.o _ (by exact HE.o)).mono ?_);rintro e w2 ⟨A2,c2,rfl,e1,b4,Y⟩;have l3:Hid (Below wr.heap.size wr w2):=Y;have m8:=qh b4;have q1:=(j4.o _ Y).1;have t4:=Y.size;clear b4 Y)
     | (go_at_call 28;(refine(e0.o _ (by exact(j4.o _ l3.o).2)).mono ?_);rintro e w3 ⟨A3,c3,rfl,o0,U,a4⟩;have b1:=qh U;have o2:=qtr l3 a4;have p4:=qh (m8.o.below a4);have q3:=a4.size;clear U a4)
     | (refine zjj rfl (.tmp 97) (.tmp 101) rfl w2.heap.size (.slice A3 32 c3) 32 _ rr (by exact b1.o) om Z _ rr rfl q7 q5 (by exact q3) ?_;intro A4 c4 w4 D d9 X V;rw[n4.o]at D ⊢;have k8:=qh (o2.o.grown X o2.o.size (fun g hg=>Nat.le_trans l3.o.size (b1.o.lt g hg).1));have m2:=qh (p4.o.grown0 X (fun hn ad e e2=>by have h1:=(b1.o.lt _ e2).1;have h2:=m8.o.blk_lt hn ad e;omega));have q6:=qh (Rd.of_own D);have s2:=j2.o _ k8.o;clear D X V)
     | (refine wpList_load_mid rfl 27 (.tmp 108) rfl b2 (r+k*192+32) rr KS _ s2 Tryz.underlying27 rfl j3 ?_)
     | (go_at_call 64;(refine(g9.o _ _ _ (by exact q6.o)).mono ?_);rintro e w5 ⟨A5,c5,rfl,l0,G,i0⟩;have n7:=qtr k8 i0;have p9:=qh (m2.o.below i0);have e8:=qh G;have r1:=i0.size;clear G i0)
     | (at_builtin;refine zah rfl (.tmp 111) (.tmp 112) 22 rfl w4.heap.size 5 1 1 Tryz.underlying22 eU8 (.slice A5 M c5) M _ rr (by exact e8.o) A2 L c2 (u8s FK) rr (by exact p9.o.toS) (zac _) om om (by exact r1) ?_;intro A6 c6 w6 c8 n9 o6 m1;rw[i7.o,h7.o]at c8;rw[h7.o];have f6:=qh (n7.o.grown o6 n7.o.size (fun g hg=>Nat.le_trans k8.o.size (e8.o.lt g hg).1));have c0:=qh (Rd.of_own c8);clear c8 o6 m1))
    have j1:IntKind.i64.wrap ((k:Int)+1-1)=(k:Int):=by rw[IntWalk.i64_in ((k:Int)+1-1) om];omega
    have hT:=e6.o _ f6.o.drew;refine kgo kr 15 (fun W=>W.rangeAt b2 (r+k*192) KM) hT (fun _ _ _ _ _ h=>h) ?_;refine kp 0 (.slice (some ⟨b2,r,none⟩) (k+1) d) rfl kr (fun _=>kr) ?_;refine kp 1 (.int .i64 ((k:Int)+1)) rfl kr (fun _=>kr) ?_;refine kp 2 (.int .i64 (k:Int)) rfl kr (fun _=>Eq.trans (b:=.ok (.value (.int .i64 (IntKind.i64.wrap ((k:Int)+1-1)))) _) kr (by rw[j1])) ?_;refine kp 3 (.pointer (some ⟨b2,r+k*192,none⟩)) rfl kr (fun _=>zby (t:=96) (e:=106) (x:=.tmp 114) (y:=.tmp 116) (n:=k+1) (c:=d) (sz:=192) rr kr kr om Tryz.underlying96 szRs) ?_;refine kp 4 (.pointer (some ⟨b2,r+k*192,none⟩)) rfl kr (fun _=>kr) ?_;refine kp 5 (.pointer (some ⟨b2,r+k*192,none⟩)) rfl kr (fun _=>kr) ?_;refine kl 6 (.agg KM.toArray) rfl kr (fun w' hw'=>zaf (x:=.tmp 119) rr kr (run_loadAt_mid w' b2 (r+k*192) 27 KM _ hw' Tryz.underlying27 rfl k7)) ?_;refine kp 7 (.slice (some ⟨b2,r,none⟩) (k+1) d) rfl kr (fun _=>kr) ?_;refine kp 8 (.int .i64 ((k:Int)+1)) rfl kr (fun _=>kr) ?_;refine kp 9 (.int .i64 (k:Int)) rfl kr (fun _=>Eq.trans (b:=.ok (.value (.int .i64 (IntKind.i64.wrap ((k:Int)+1-1)))) _) kr (by rw[j1])) ?_;refine kp 10 (.pointer (some ⟨b2,r+k*192,none⟩)) rfl kr (fun _=>zby (t:=96) (e:=106) (x:=.tmp 121) (y:=.tmp 123) (n:=k+1) (c:=d) (sz:=192) rr kr kr om Tryz.underlying96 szRs) ?_;refine kp 11 (.pointer (some ⟨b2,r+k*192+128,none⟩)) rfl kr (fun _=>kr) ?_;refine kp 12 (.slice (some ⟨b2,r+k*192+128,none⟩) 32 32) rfl kr (fun _=>kr) ?_;refine kp 13 (.slice A6 240 c6) rfl kr (fun _=>kr) ?_;intro q8 q9;clear q8 q9;refine AnyK.enter 14 (d:=some 128) (f:=65) (args:=#[.agg KM.toArray,.slice (some ⟨b2,r+k*192+128,none⟩) 32 32,.slice A6 240 c6]) rr kr kr ?_;refine(i4.o _ f6.o.drew A6 c6 c0.o.drew).mono ?_;rintro e w7 ⟨AT,cT,rfl,r5,g1,g5⟩;have e4:Hid (Below w6.heap.size w6 w7):=qh ((Below.refl _ w6).drew.trans g5);have k5:=qh (f6.o.trans (e4.o.mono f6.o.size));have h4:=qh (c0.o.below e4.o);have f9:=qh g1;rw[i5.o]at f9;refine⟨_,rfl,fun _=>e6.o _ k5.o,?_⟩;refine AnyK.val 15 (v:=.slice AT 16 cT) rr kr rfl kr (fun h=>(by cases h)) ?_;refine AnyK.done kr ?_;have l8:=h4;rw[i6.o]at l8;clear g1 g5 hT e4 h4 f6 c0 j1;have p5:240≤c6:=by have:=h7.o;omega
    clear h7 n4 i7 k3 i8 i5 i6 i4 g9 e0 j4 p6 m3;go_wp2
    go_loopg [15,16,17,18] k (fun kk v15 v16 v17 q w2=>∃m:Nat,1≤m∧m≤k+1∧kk=k+1-m∧q=.int .i64 ((k:Int)-(m:Int))∧(∃A c,v16=.slice A 240 c∧240≤c∧Hid (Rd w2 A 240 (u8s ((hst cs ss (k+1) m).drop 48))))∧(∃A c,v17=.slice A 16 c∧Hid (Rd w2 A 16 (u8s (((hst cs ss (k+1) m).drop 32).take 16))))∧Hid (Below wr.heap.size wr w2))
    case atStart=>exact⟨1,by omega,by omega,by omega,by go_num,⟨A6,c6,rfl,p5,l8⟩,⟨AT,cT,rfl,f9⟩,k5⟩
    case round =>
     clear l8 f9 k5;obtain⟨m,v9,hm,g4,rfl,⟨AB,cB,rfl,v1,e5⟩,⟨AG,cG,rfl,f0⟩,HX⟩:=hrel;have h0:=qh g4;clear g4
     by_cases hlt:m<k+1
     · obtain⟨i,hi⟩:=ex9 (k-m)
       rw[show(k:Int)-(m:Int)=(i:Int) by omega];have v8:(0:Int)≤(i:Int):=om;have i2:i<k+1:=om;have k4:Hid (i+m=k∧m<k+1):=⟨by omega,hlt⟩;have s9:(i:Int)<(k:Int)+1:=om;obtain⟨s,I⟩:∃s,ss[i]? = some s:=⟨_,ge9 (by rw[l2.o];omega)⟩;obtain⟨cm,J⟩:∃c,cs[i]? = some c:=⟨_,ge9 (by rw[g7.o];omega)⟩;have E:=a8.o s (mg9 I);have a0:=i1.o cm (mg9 J);obtain⟨b9,o9,A1,n1,c1,l1,e9,r2,f4,b5,f3,c9⟩:=(s4.o _ HX.o).at_ (k:=i) i2
       injection e9 with e9
       injection e9 with e9 e9'
       subst e9;subst e9';obtain rfl:l1=cm.enc:=by have h5:=f4.o;rw[List.getElem?_map,J]at h5;simpa using h5.symm
       obtain rfl:n1=32:=by rw[←c9.len,Cm.enc_len a0]
       obtain⟨P0,a5⟩:=ex9 (hst cs ss (k+1) m);obtain⟨P2,i3⟩:=ex9 (hst cs ss (k+1) (m+1));have i9:P0.length=288:=by rw[a5];exact h9.o m hm
       have r9:P2.length=288:=by rw[i3];exact h9.o (m+1) om
       obtain⟨F,hF⟩:∃F,P2=headOf cm s F m P0:=⟨_,by rw[i3,a5];exact zgr om J I⟩;rw[←a5]at e5 f0;obtain⟨Q,hQ⟩:=ex9 (cm.enc++((P0.drop 32).take 16++(P0.drop 48).take 192));obtain⟨BT,d4⟩:=ex9 (Ch.turn s.stream Q);have a3:betaOf cm s F m P0=BT:=by rw[d4,hQ,betaOf,if_neg om]
       have d6:P2=s.alpha++((Mc.tag s.mac (s.alpha++BT)).take 16++BT):=by rw[hF,headOf,a3]
       have a1:=E.2.2.2.2.1;have d7:((Mc.tag s.mac (s.alpha++BT)).take 16).length=16:=by rw[List.length_take,Mc.tag_len];rfl
       have a2:Hid (P2.drop 48=BT):=by show _=_;rw[d6,←as9,List.drop_left' (by rw[la9,a1,d7])]
       have b6:Hid ((P2.drop 32).take 16=(Mc.tag s.mac (s.alpha++BT)).take 16):=by show _=_;rw[d6,List.drop_left' a1,List.take_left' d7]
       have g9:Hid (∀W A3 c3,Rd W A3 240 (u8s Q)→Calls Tryz.prog 64 #[.agg (u8s s.stream).toArray,.int .i64 0,.slice A3 240 c3] W fun e w'=>∃A' c',e=.returned (.slice A' 240 c')∧240≤c'∧Rd w' A' 240 (u8s (P2.drop 48))∧Below W.heap.size W w'):=fun W A3 c3 h3=>by
        rw[a2.o,d4];refine(zk5 s.stream E.2.1 A3 240 c3 Q W h3 om om).mono ?_;rintro e w' ⟨A',c',rfl,d3,ho,g6⟩;exact⟨A',c',rfl,d3,Rd.of_own ho,g6⟩
       have i4:Hid (∀W,Below wr.heap.size wr W→∀A3 c3,Rd W A3 240 (u8s (P2.drop 48))→Calls Tryz.prog 65 #[.agg (u8s s.mac).toArray,.slice (some ⟨b2,r+i*192+128,none⟩) 32 32,.slice A3 240 c3] W fun e w'=>∃A' c',e=.returned (.slice A' 16 c')∧16≤c'∧Rd w' A' 16 (u8s ((P2.drop 32).take 16))∧Below W.heap.size W w'):=fun W hW A3 c3 h3=>by
        rw[b6.o];rw[a2.o]at h3;obtain⟨q1,q2⟩:=zd4 (d8.o W (HX.o.trans (hW.mono HX.o.size))) a8.o I om 128 s.alpha (Sp.at_alpha E);refine(zis s.mac E.1 _ 32 32 s.alpha A3 240 c3 BT W (zjt q2 q1 32 a1) h3 om om).mono ?_;rintro e w' ⟨A',c',rfl,d3,ho,g6⟩;exact⟨A',c',rfl,d3,Rd.of_own ho,g6⟩
       have j2:Hid (∀W,Below wr.heap.size wr W→W.rangeAt b2 (r+i*192+32) (u8s s.stream)):=fun W hW=>(zd4 (d8.o W (HX.o.trans (hW.mono HX.o.size))) a8.o I om 32 s.stream (Sp.at_stream E)).2
       have e6:Hid (∀W,Below wr.heap.size wr W→W.rangeAt b2 (r+i*192) (u8s s.mac)):=fun W hW=>(zd4 (d8.o W (HX.o.trans (hW.mono HX.o.size))) a8.o I om 0 s.mac (Sp.at_mac E)).2
       have j3:(Tryz.prog.info? 27).map (·.size)=some (u8s s.stream).length:=by rw[zaa,E.2.1];exact hd32
       have k7:(Tryz.prog.info? 27).map (·.size)=some (u8s s.mac).length:=by rw[zaa,E.1];exact hd32
       have e0:Hid (∀W,Rd W A1 32 (u8s cm.enc)→Calls Tryz.prog 28 #[.slice A1 32 c1] W fun e w'=>∃A' c',e=.returned (.slice A' 32 c')∧32≤c'∧w'.ownsRow W.heap.size 5 1 (.slice A' 32 c') 32 (u8s cm.enc)∧Below W.heap.size W w'):=fun W hW=>zb1 _ 32 c1 _ W hW om
       have HQ:Hid (u8s cm.enc++u8s ((P0.drop 32).take 16)++u8s ((P0.drop 48).take 192)=u8s Q):=by show _=_;rw[hQ,←zae,←zae,as9]
       obtain⟨bB,oB,rfl,_,_⟩:=e5.o.2 om
       have l9:Hid (Rd wr (some ⟨bB,oB,none⟩) 192 (u8s ((P0.drop 48).take 192))):=by
        have h5:=zix e5.o 0 192 om
        rwa [Nat.add_zero,List.drop_zero]at h5
       have m5:=f0;have j5:=qh c9;have m0:Hid (hst cs ss (k+1) (m+1)=P2):=i3.symm;generalize u8s s.stream=KS at *;generalize u8s s.mac=KM at *;generalize u8s cm.enc=CE at *;have hT:wr.drew.cell? ⟨b7,o7+i,none⟩=some (.slice A1 32 c1):=b5;clear I J E a0 r2 f4 b5 f3 c9 a5 i3 i9 r9 hF hQ d4 a3 d6 a1 d7 e5 f0 a2 b6 hi;go_wp2;refine kgo kr 10 (fun W=>W.cell? ⟨b7,o7+i,none⟩=some (.slice A1 32 c1)) hT (fun _ _ _ _ _ h=>h) ?_;refine kp 0 (.slice (some ⟨b7,o7,none⟩) (k+1) c7) rfl kr (fun _=>kr) ?_;refine kp 1 (.int .i64 (i:Int)) rfl kr (fun _=>kr) ?_;refine kp 2 (.pointer (some ⟨b7,o7+i,none⟩)) rfl kr (fun _=>zeo (t:=57) (e:=22) (x:=.tmp 135) (y:=.tmp 136) (n:=k+1) (c:=c7) rr kr kr i2 Tryz.underlying57 szSl) ?_;refine kl 3 (.slice A1 32 c1) rfl kr (fun w' hw'=>za0 (t:=22) (x:=.tmp 137) rr kr agSl hw') ?_;refine kp 5 (.slice AG 16 cG) rfl kr (fun _=>kr) ?_;refine kp 7 (.slice (some ⟨bB,oB,none⟩) 240 cB) rfl kr (fun _=>kr) ?_;refine kp 8 (.slice (some ⟨bB,oB,none⟩) 192 cB) rfl kr (fun _=>zv0 (x:=.tmp 142) (n:=240) 192 rr kr om) ?_;intro q8 q9;clear q8 q9;refine AnyK.enter 4 (d:=some 139) (f:=28) (args:=#[.slice A1 32 c1]) rr kr kr ?_;refine(e0.o _ j5.o.drew).mono ?_;rintro e w3 ⟨A3,c3,rfl,o0,U,a4⟩;have a6:Hid (Below wr.heap.size wr w3):=qh ((Below.refl _ wr).drew.trans a4);have b1:Hid (w3.ownsRow wr.heap.size 5 1 (.slice A3 32 c3) 32 CE):=U;have m6:w3.cell? ⟨b7,o7+i,none⟩=some (.slice A1 32 c1):=(a6.o.cell (g0.o _ HX.o)).trans hT;refine⟨_,rfl,fun _=>m6,?_⟩;refine AnyK.one 6 rfl kr rfl ?_;refine zgu (.tmp 139) (.tmp 140) 22 rr wr.heap.size 5 1 1 Tryz.underlying22 eU8 (.slice A3 32 c3) 32 CE kr b1.o AG 16 cG (u8s ((P0.drop 32).take 16)) kr (m5.o.below a6.o).toS (zac _) om om a6.o.size ?_;intro A4 c4 w4 D d9 X V;have f5:=qh D;have a7:=qh (a6.o.grown X a6.o.size (fun g hg=>(b1.o.lt g hg).1));have p7:w4.cell? ⟨b7,o7+i,none⟩=some (.slice A1 32 c1):=(a7.o.cell (g0.o _ HX.o)).trans hT;refine⟨fun _=>p7,?_⟩;refine AnyK.one 9 rfl kr rfl ?_;refine zgu (.tmp 141) (.tmp 143) 22 rr wr.heap.size 5 1 1 Tryz.underlying22 eU8 (.slice A4 48 c4) 48 _ kr f5.o (some ⟨bB,oB,none⟩) 192 cB (u8s ((P0.drop 48).take 192)) kr (l9.o.below a7.o).toS (zac _) om om a7.o.size ?_;intro A5 c5 w5 G l0 g8 f8;rw[HQ.o]at G;have j8:=qh (a7.o.grown g8 a7.o.size (fun g hg=>(f5.o.lt g hg).1));have p1:w5.cell? ⟨b7,o7+i,none⟩=some (.slice A1 32 c1):=(j8.o.cell (g0.o _ HX.o)).trans hT;refine⟨fun _=>p1,?_⟩;refine AnyK.val 10 (v:=.slice A5 240 c5) rr kr rfl kr (fun h=>(by cases h)) ?_;refine AnyK.done kr ?_;have s3:=qh (Rd.of_own G);have r8:=j2.o _ j8.o;clear hT m6 p7 p1 U a4 D X V G g8 f8
       go_wp2_with (first
        | (refine wpList_load_mid rfl 27 (.tmp 149) rfl b2 (r+i*192+32) rr KS _ r8 Tryz.underlying27 rfl j3 ?_)
        | (go_at_call 64;(refine(g9.o _ _ _ (by exact s3.o)).mono ?_);rintro e w6 ⟨A6,c6,rfl,n9,n2,o1⟩;have f2:=qtr j8 o1;have c0:=qh n2;clear n2 o1))
       have hT:=e6.o _ f2.o.drew;refine kgo kr 13 (fun W=>W.rangeAt b2 (r+i*192) KM) hT (fun _ _ _ _ _ h=>h) ?_;refine kp 0 (.slice (some ⟨b2,r,none⟩) (k+1) d) rfl kr (fun _=>kr) ?_;refine kp 1 (.int .i64 (i:Int)) rfl kr (fun _=>kr) ?_;refine kp 2 (.pointer (some ⟨b2,r+i*192,none⟩)) rfl kr (fun _=>zby (t:=96) (e:=106) (x:=.tmp 153) (y:=.tmp 154) (n:=k+1) (c:=d) (sz:=192) rr kr kr i2 Tryz.underlying96 szRs) ?_;refine kp 3 (.pointer (some ⟨b2,r+i*192,none⟩)) rfl kr (fun _=>kr) ?_;refine kp 4 (.pointer (some ⟨b2,r+i*192,none⟩)) rfl kr (fun _=>kr) ?_;refine kl 5 (.agg KM.toArray) rfl kr (fun w' hw'=>zaf (x:=.tmp 157) rr kr (run_loadAt_mid w' b2 (r+i*192) 27 KM _ hw' Tryz.underlying27 rfl k7)) ?_;refine kp 6 (.slice (some ⟨b2,r,none⟩) (k+1) d) rfl kr (fun _=>kr) ?_;refine kp 7 (.int .i64 (i:Int)) rfl kr (fun _=>kr) ?_;refine kp 8 (.pointer (some ⟨b2,r+i*192,none⟩)) rfl kr (fun _=>zby (t:=96) (e:=106) (x:=.tmp 159) (y:=.tmp 160) (n:=k+1) (c:=d) (sz:=192) rr kr kr i2 Tryz.underlying96 szRs) ?_;refine kp 9 (.pointer (some ⟨b2,r+i*192+128,none⟩)) rfl kr (fun _=>kr) ?_;refine kp 10 (.slice (some ⟨b2,r+i*192+128,none⟩) 32 32) rfl kr (fun _=>kr) ?_;refine kp 11 (.slice A6 240 c6) rfl kr (fun _=>kr) ?_;intro q8 q9;clear q8 q9;refine AnyK.enter 12 (d:=some 165) (f:=65) (args:=#[.agg KM.toArray,.slice (some ⟨b2,r+i*192+128,none⟩) 32 32,.slice A6 240 c6]) rr kr kr ?_;refine(i4.o _ f2.o.drew A6 c6 c0.o.drew).mono ?_;rintro e w7 ⟨AT,cT,rfl,r5,g1,g5⟩;have o5:Hid (Below w6.heap.size w6 w7):=qh ((Below.refl _ w6).drew.trans g5);have e4:=qh (f2.o.trans (o5.o.mono f2.o.size));have h4:=qh (c0.o.below o5.o);have f9:=qh g1;refine⟨_,rfl,fun _=>e6.o _ e4.o,?_⟩;refine AnyK.val 13 (v:=.slice AT 16 cT) rr kr rfl kr (fun h=>(by cases h)) ?_;refine AnyK.done kr ?_;have r6:=qh (HX.o.trans (e4.o.mono HX.o.size));clear g1 g5 hT c0 f2;go_wp2;go_roundg (k+1-(m+1))
       case measure=>have:=h0.o;have:=k4.o;omega
       case rel=>exact⟨m+1,by omega,by have:=k4.o;omega,rfl,by have:=k4.o;go_num,⟨A6,c6,rfl,n9,by rw[m0.o];exact h4⟩,⟨AT,cT,rfl,by rw[m0.o];exact f9⟩,r6⟩
     · obtain rfl:m=k+1:=om
       rw[show(k:Int)-((k+1:Nat):Int)=-1 by omega];obtain⟨s,I⟩:∃s,ss[0]? = some s:=⟨_,ge9 (by rw[l2.o];omega)⟩;obtain⟨cm,J⟩:∃c,cs[0]? = some c:=⟨_,ge9 (by rw[g7.o];omega)⟩;have E:=a8.o s (mg9 I);obtain⟨P0,a5⟩:=ex9 (hst cs ss (k+1) (k+1));have i9:P0.length=288:=by rw[a5];exact h9.o (k+1) om
       obtain⟨F,Z9,hF⟩:∃F Z,P0=headOf cm s F k Z:=⟨_,_,by rw[a5];exact zgr (m:=k) (i:=0) om J I⟩;have a1:=E.2.2.2.2.1;have m9:Hid (P0.take 32=s.alpha):=by show _=_;rw[hF,headOf,List.take_left' a1]
       have s5:Hid (u8s s.alpha++u8s ((P0.drop 32).take 16)++u8s (P0.drop 48)=u8s P0):=by
        show _=_
        have e:(P0.drop 32).take 16++P0.drop 48=P0.drop 32:=by rw[show P0.drop 48=(P0.drop 32).drop 16 by rw[List.drop_drop],List.take_append_drop]
        rw[←zae,←zae,←m9.o,as9,e,List.take_append_drop]
       have e0:Hid (∀W,Below wr.heap.size wr W→Calls Tryz.prog 28 #[.slice (some ⟨b2,r+128,none⟩) 32 32] W fun e w'=>∃A' c',e=.returned (.slice A' 32 c')∧32≤c'∧w'.ownsRow W.heap.size 5 1 (.slice A' 32 c') 32 (u8s s.alpha)∧Below W.heap.size W w'):=fun W hW=>by
        obtain⟨q1,q2⟩:=zd4 (d8.o W (HX.o.trans (hW.mono HX.o.size))) a8.o I om 128 s.alpha (Sp.at_alpha E);rw[Nat.zero_mul,Nat.add_zero]at q2;exact zb1 _ 32 32 _ W (zjt q2 q1 32 a1) om
       rw[←a5]at e5 f0;have q0:=qh a5;generalize u8s s.alpha=AL at *;clear I J E a5 i9 hF a1 m9
       go_wp2_with (first
        | (go_at_call 28;(refine(e0.o _ (by exact Below.refl _ _)).mono ?_);rintro e w3 ⟨A3,c3,rfl,o0,U,a4⟩;have b1:=qh U;have a6:=qh a4;clear U a4)
        | (at_builtin;refine zah rfl (.tmp 170) (.tmp 171) 22 rfl wr.heap.size 5 1 1 Tryz.underlying22 eU8 (.slice A3 32 c3) 32 _ rr (by exact b1.o) AG 16 cG _ rr (by exact(f0.o.below a6.o).toS) (zac _) om om (by exact a6.o.size) ?_;intro A4 c4 w4 D d9 X V;have f5:=qh D;have a7:=qh (a6.o.grown X a6.o.size (fun g hg=>(b1.o.lt g hg).1));clear D X V)
        | (at_builtin;refine zah rfl (.tmp 173) (.tmp 174) 22 rfl wr.heap.size 5 1 1 Tryz.underlying22 eU8 (.slice A4 48 c4) 48 _ rr (by exact f5.o) AB 240 cB _ rr (by exact(e5.o.below a7.o).toS) (zac _) om om (by exact a7.o.size) ?_;intro A5 c5 w5 G l0 g8 f8;rw[s5.o]at G;have e8:=qh (zbi G (Nat.le_trans HE.o.size HX.o.size));have s1:=qh (r4.o _ (HX.o.trans ((a7.o.grown g8 a7.o.size (fun g hg=>(f5.o.lt g hg).1)).mono HX.o.size)));clear G g8 f8))
       rw[q0.o]at e8;go_ret2;exact⟨A5,c5,rfl,l0,e8.o,s1.o⟩
end
section
theorem zsw(v:Value):Instr.loadAt 85 v=ldAt 85 v:=rfl
theorem zwv(v:Value):Instr.loadAt 65 v=ldAt 65 v:=rfl
attribute [local go_sem ↓] zsw zwv
def zHo:Ho:=⟨ByteArray.empty,0,List.replicate 32 0,List.replicate 32 0,0,0⟩
theorem zkv:zHo.ok:=⟨by decide,rfl,rfl,by decide,by decide⟩
theorem zc83:Tryz.zeroCells67 = zHo.node.toArray:=by kernel_rfl
theorem zc85:Tryz.zeroCells69 = zHo.cells.toArray:=by kernel_rfl
theorem zc121:Tryz.zeroCells85 = zHo.cells.toArray:=by kernel_rfl
theorem hd121:(Tryz.prog.info? 85).map (·.size)=some 68:=by kernel_rfl
theorem hd81:(Tryz.prog.info? 65).map (·.size)=some 66:=by kernel_rfl
theorem z1ho:(Tryz.prog.info? 69).map (fun i=>((i.zero.map (fun z=>z.cells.size)),i.size))=some (some 68,68):=by kernel_rfl
theorem eHop:ElemIs Tryz.prog 69 68 104:=ElemIs.of (z:=.agg zHo.cells.toArray) kr (by show zHo.cells.toArray.size=68;rw[List.size_toArray,Ho.cells_len zkv]) om
theorem pl83(r:Array Field)(h:Tryz.prog.underlying 67 = some (.struct r))(w:World):(r.mapM (fun f=>do pure (f.offset,←sizeOf f.type)):Sem (Array (Nat × Nat))).run Tryz.prog w=.ok #[(0,66)] w:=by
 rw[Tryz.underlying67]at h
 injection h with h
 injection h with h
 subst h
 kernel_rfl
theorem pl85(r:Array Field)(h:Tryz.prog.underlying 69 = some (.struct r))(w:World):(r.mapM (fun f=>do pure (f.offset,←sizeOf f.type)):Sem (Array (Nat × Nat))).run Tryz.prog w=.ok #[(0,66),(66,1),(67,1)] w:=by
 rw[Tryz.underlying69]at h
 injection h with h
 injection h with h
 subst h
 kernel_rfl
theorem bld_dn(N:List Value)(hN:N.length=66)(w:World):(Instr.build 67 [(0,(.agg N.toArray:Value))].toArray).run Tryz.prog w=.ok (.agg N.toArray) w:=by
 refine zbt Tryz.zeroValue67 Tryz.underlying67 (pl83 _ Tryz.underlying67) ?_ w;rw[zc83]
 show Instr.fill _ _ [(0,_)]=_
 rw[zat (cs:=N) rfl (by rw[hN];rfl) (by rw[hN,Ho.node_len zkv];omega),zap _ _ (by rw[hN,Ho.node_len zkv])]
 rfl
theorem bld_dh(N:List Value)(D F:Int)(hN:N.length=66)(w:World):(Instr.build 69 [(0,(.agg N.toArray:Value)),(1,.int .i64 D),(2,.int .i64 F)].toArray).run Tryz.prog w=.ok (.agg (N++[Value.int .i64 D,Value.int .i64 F]).toArray) w:=by
 refine zbt Tryz.zeroValue69 Tryz.underlying69 (pl85 _ Tryz.underlying69) ?_ w;rw[zc85];have z0:=Ho.cells_len zkv;have l1:(splice zHo.cells 0 N).length=68:=by rw[length_splice _ _ _ (by rw[hN,z0];omega),z0]
 have l2:(splice (splice zHo.cells 0 N) 66 [Value.int .i64 D]).length=68:=by rw[length_splice _ _ _ (by rw[l1];simp),l1]
 show Instr.fill _ _ [(0,_),(1,_),(2,_)]=_
 rw[zat (cs:=N) rfl (by rw[hN];rfl) (by rw[hN,z0];omega),zat (cs:=[Value.int .i64 D]) rfl rfl (by rw[l1];simp),zat (cs:=[Value.int .i64 F]) rfl rfl (by rw[l2];simp)];rw[splice_splice_splice _ _ _ _ 66 1 hN rfl (by rw[z0];rfl)]
 rfl
end
section
attribute [local go_sem ↓] zsw zwv
theorem zpu(A:Option Addr)(n c:Nat)(hs:List Ho)(w:World)(h:RdS 68 w A n (hs.flatMap Ho.cells))(a8:∀s∈hs,s.ok)(hl:hs.length=n)(hn:n*104≤140737488355328):
 Calls Tryz.prog 7 #[.slice A n c] w fun e w'=>∃A' c',e=.returned (.slice A' n c')∧n≤c'∧w'.ownsRow w.heap.size 69 68 (.slice A' n c') n (hs.flatMap Ho.cells)∧Below w.heap.size w w':=by
 have HR:=qh h;have HK:=qh a8;have HL:=qh hl;have a6:Hid (w.ownsRow w.heap.size 69 68 (.slice none 0 0) 0 ((hs.take 0).flatMap Ho.cells)):=World.ownsRow_nil _ _ _ _;clear h a8 hl
 go_enter Tryz.func7, Tryz.ntmps7
 go_wp2
 go_loopg [3,8] n (fun kk v q wr=>∃k:Nat,k≤n∧kk=n-k∧q=.int .i64 k∧(∃A' c',v=.slice A' k c'∧k≤c'∧wr.ownsRow w.heap.size 69 68 (.slice A' k c') k ((hs.take k).flatMap Ho.cells))∧Below w.heap.size w wr)
 case atStart=>exact⟨0,by omega,rfl,rfl,⟨none,0,rfl,by omega,a6.o⟩,Below.refl _ _⟩
 case round =>
  clear a6;obtain⟨k,hk,a3,rfl,⟨A',c',rfl,b4,E⟩,hB⟩:=hrel;have b5:=qh a3;clear a3
  by_cases hlt:k<n
  · have a7:(k:Int)<(n:Int):=om
    obtain⟨o,ho⟩:∃o,hs[k]? = some o:=⟨_,ge9 (by rw[HL.o];omega)⟩;have r:=HK.o o (mg9 ho);obtain⟨b,a5,rfl,c7,a4⟩:=zbl (HR.o.bel hB lr) HK.o ho om;have I:=qh (Ho.cells_len r);have c8:(ldAt 85 (.pointer (some ⟨b,a5+k*68,none⟩))).run Tryz.prog wr=.ok (.agg o.cells.toArray) wr:=run_loadAt_mid wr b (a5+k*68) 85 o.cells _ a4 Tryz.underlying85 rfl (by rw[I.o];exact hd121);have b1:Hid ((hs.take k).flatMap Ho.cells++o.cells=(hs.take (k+1)).flatMap Ho.cells):=by show _=_;rw[List.take_add_one,ho];simp
    have a0:=qh (Ho.cells_one o);have b7:=qh (fun W=>bld_dn o.node (Ho.node_len r) W);have b9:Hid (∀W,(Instr.build 69 [(0,(.agg o.node.toArray:Value)),(1,.int .i64 o.dl),(2,.int .i64 o.fl)].toArray).run Tryz.prog W=.ok (.agg o.cells.toArray) W):=fun W=>bld_dh o.node o.dl o.fl (Ho.node_len r) W
    have c6:=qh (Ho.at_dl r);have b2:=qh (Ho.at_fl r);have b3:Hid (∀W G,Blk W G 85 o.cells→(ldAt 65 (.pointer (some ⟨G,0,none⟩))).run Tryz.prog W=.ok (.agg o.node.toArray) W):=fun W G hb=>zal hb _ 0 o.node (by rw[Ho.node_len r];exact Ho.at_node r) _ Tryz.underlying65 rfl (by rw[Ho.node_len r];exact hd81)
    generalize o.cells=C at *;generalize o.node=N at *;generalize o.dl=D at *;generalize o.fl=F at *;have a9:Hid ((Tryz.prog.info? 69).map (fun i=>((i.zero.map (fun z=>z.cells.size)),i.size))=some (some C.length,C.length)):=by rw[I.o];exact z1ho
    have M:=qh E;have HB:=qh hB;have X:=hB.size;clear ho r a4 E hB
    go_wp2_with (first
     | (refine zab rfl 85 (.tmp 5) (.tmp 11) rfl wr.heap.size C rr rr 85 zHo.cells (by exact Blk.new' rfl zc121) (by rw[I.o];exact hd121) a0.o (by rw[I.o,Ho.cells_len zkv]) ?_;intro w1 U Y;have V:=qh (Y.below (HB.o.alloc X _) X (Nat.le_trans X sy));have c0:=qh (zc5 (M.o.alloc _) Y (fun k hk=>by have h9:=(M.o.lt k hk).2;omega));have l1:=b3.o _ _ U;have c1:w1.cell? ⟨wr.heap.size,66,none⟩=some (.int .i64 D):=by rw[U.cell];exact c6.o
        have c2:w1.cell? ⟨wr.heap.size,67,none⟩=some (.int .i64 F):=by rw[U.cell];exact b2.o
        clear U Y)
     | (refine zai rfl 67 [(0,.tmp 14)] rfl _ rr (.agg N.toArray) (b7.o _) ?_)
     | (refine zai rfl 69 [(0,.tmp 15),(1,.tmp 17),(2,.tmp 19)] rfl _ rr (.agg C.toArray) (b9.o _) ?_)
     | (refine zb6 rfl 41 69 (.tmp 20) rfl C rr Tryz.underlying41 a9.o (by rw[I.o];omega) (by rw[I.o];omega) ?_)
     | (at_builtin;refine zah rfl (.tmp 12) (.tmp 21) 41 rfl w.heap.size 69 68 104 Tryz.underlying41 eHop (.slice A' k c') k _ rr (by exact c0.o.alloc _) (some ⟨w1.heap.size,0,none⟩) 1 1 C rr (by exact RdS.new w1 _ C 68 I.o) a0.o om om (by exact Nat.le_trans V.o.size sy) ?_;intro A4 c4 w4 J b6 a2 a1;have c3:=qh ((V.o.alloc V.o.size _).grown a2 (Nat.le_trans V.o.size sy) (fun k hk=>(M.o.lt k hk).1));rw[b1.o]at J;have c5:=qh J;clear J a2 a1))
    go_roundg (n-(k+1))
    case measure=>have:=b5.o;omega
    case rel=>exact⟨k+1,by omega,rfl,by go_num,⟨A4,c4,rfl,b6,c5.o⟩,c3.o⟩
  · obtain rfl:k=n:=om
    have a7:¬(k:Int)<(k:Int):=om;rw[tk (by rw[HL.o];exact lr)]at E;have M:=qh E;clear E;go_wp2;go_ret;exact⟨A',c',rfl,b4,M.o,hB⟩
theorem zs1(A:Option Addr)(n c:Nat)(hs:List Ho)(w:World)(h:RdS 68 w A n (hs.flatMap Ho.cells))(r:∀s∈hs,s.ok)(hl:hs.length=n)(hn:n*104≤140737488355328):
 Calls Tryz.prog 7 #[.slice A n c] w fun e w'=>∃A' c',e=.returned (.slice A' n c')∧RdS 68 w' A' n (hs.flatMap Ho.cells)∧Below w.heap.size w w':=by
 refine(zpu A n c hs w h r hl hn).mono ?_;rintro e w' ⟨A',c',rfl,_,ho,hB⟩;exact⟨A',c',rfl,RdS.ofOwn2 ho,hB⟩
end
