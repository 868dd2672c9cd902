/- Part of the proof. -/
import Derived.Deep.DeepCutAuto
import Derived.Test.YtpgpaenloaphaaaGreatPkx17
import Derived.Test.YtpgpaenloaphaaaGreatPkx19
set_option maxRecDepth 100000
set_option maxHeartbeats 0
namespace Go.Proofs.YtpgpaenloaphaaaGreat
open Go.RowKit
def PaysR(w:World)(A:Option Addr)(m:Nat)(ks:List (List UInt8)):Prop :=
 ks.length=m∧(∀k∈ks,k.length=32)∧(0<m→∃b off,A=some ⟨b,off,none⟩∧∀i k,ks[i]? = some k→Rd w (some ⟨b,off+i*32,none⟩) 32 (u8s k))
theorem PaysR.below{w w':World}{A:Option Addr}{m:Nat}{ks:List (List UInt8)}(h:PaysR w A m ks)(hB:Below w.heap.size w w'):PaysR w' A m ks :=
 ⟨h.1,h.2.1,fun hm=>by
  obtain⟨b,off,e,hr⟩:=h.2.2 hm
  exact⟨b,off,e,fun i k hi=>(hr i k hi).below hB⟩⟩
theorem eSl:ElemIs Tryz.prog 22 1 24:=ElemIs.of (z:=.slice none 0 0) kr rfl om
theorem iSl:(Tryz.prog.info? 22).map (fun i=>(i.zero,i.size,i.bytes))=some (some (.slice none 0 0),1,24):=by kernel_rfl
section
def mrk(i j:Nat):UInt8:=UInt8.ofNat (17*i+3*j+1)
def Own:=Nat→Option Nat
def Tr(w:World)(O:Own)(i:Nat)(v:Value)(n p:Nat):Prop :=
 p≤n∧((v=.slice none 0 0∧n=0)∨∃g cap cur,v=.slice (some ⟨g,0,none⟩) n cap∧O g=some i∧Blk w g 5 cur∧n≤cap∧cur.length=cap∧cap≤maxLen∧(∀j,j<n→∃x:UInt8,cur[j]? = some (u8 x))∧∀j,j<p→cur[j]? = some (u8 (mrk i j)))
structure MS(base:Nat)(w0 w:World)(O:Own):Prop where
 free:∀g,w.heap.size≤g→O g=none
 lo:∀g i,O g=some i→base≤g
 below:Below base w0 w
structure MStep(w:World)(O:Own)(w':World)(O':Own):Prop where
 keep:∀i v n p,Tr w O i v n p→Tr w' O' i v n p
 ext:∀g i,O g=some i→O' g=some i
 idle:∀g,g<w.heap.size→O g=none→w'.heap[g]? = w.heap[g]?∧O' g=none
 size:w.heap.size≤w'.heap.size
theorem MStep.refl(w:World)(O:Own):MStep w O w O:=⟨fun _ _ _ _ h=>h,fun _ _ h=>h,fun _ _ h=>⟨rfl,h⟩,lr⟩
theorem MStep.trans{w w1 w2:World}{O O1 O2:Own}(h:MStep w O w1 O1)(h2:MStep w1 O1 w2 O2):MStep w O w2 O2 :=
 ⟨fun i v n p ht=>h2.keep i v n p (h.keep i v n p ht),fun g i hg=>h2.ext g i (h.ext g i hg),fun g hl hg=>by
  obtain⟨a,b⟩:=h.idle g hl hg;obtain⟨c,d⟩:=h2.idle g (Nat.lt_of_lt_of_le hl h.size) b
  exact⟨c.trans a,d⟩,Nat.le_trans h.size h2.size⟩
theorem MStep.of{w w':World}{O:Own}(hs:w.heap.size≤w'.heap.size)(hk:∀g,g<w.heap.size→O g≠none→w'.heap[g]? = w.heap[g]?)(hi:∀g,g<w.heap.size→O g=none→w'.heap[g]? = w.heap[g]?):MStep w O w' O :=
 ⟨fun i v n p ⟨hp,h⟩=>⟨hp,by
  rcases h with h|⟨g,cap,cur,rfl,hO,hb,r⟩
  · exact .inl h
  · exact .inr ⟨g,cap,cur,rfl,hO,(hk g hb.lt (by rw[hO];exact fun h=>by cases h)).trans hb,r⟩⟩,fun _ _ h=>h,fun g hl hg=>⟨hi g hl hg,hg⟩,hs⟩
theorem MStep.alloc(w:World)(O:Own)(o:Obj):MStep w O (w.alloc o) O:=.of sy (fun g hl _=>Below.heap_alloc w o g hl) (fun g hl _=>Below.heap_alloc w o g hl)
theorem MStep.drew(w:World)(O:Own):MStep w O w.drew O:=.of lr (fun _ _ _=>rfl) (fun _ _ _=>rfl)
theorem MStep.drewN(w:World)(O:Own)(q:Nat):MStep w O (w.drewN q) O:=.of lr (fun _ _ _=>rfl) (fun _ _ _=>rfl)
theorem MS.alloc{base:Nat}{w0 w:World}{O:Own}(h:MS base w0 w O)(hb:base≤w.heap.size)(o:Obj):MS base w0 (w.alloc o) O:=⟨fun g hg=>h.free g (by simp at hg;omega),h.lo,h.below.alloc hb o⟩
theorem Tr.set{w:World}{O:Own}{i n p j:Nat}{g cap:Nat}(h:Tr w O i (.slice (some ⟨g,0,none⟩) n cap) n p)(hj:j<n):
 MStep w O (w.setCell ⟨g,j,none⟩ (u8 (mrk i j))) O∧(j=p→Tr (w.setCell ⟨g,j,none⟩ (u8 (mrk i j))) O i (.slice (some ⟨g,0,none⟩) n cap) n (p+1)):=by
 obtain⟨hp,h⟩:=h
 rcases h with ⟨h,h0⟩|⟨g',cap',cur,hv,hO,hb,hnc,hcl,hcm,hby,hmk⟩
 · cases h
 · injection hv with e1 _ e2
   injection e1 with e1
   injection e1 with e1
   subst e1;subst e2;have hjl:j<cur.length:=om;have hb':=hb.set_ j (u8 (mrk i j))
   have hget:∀k,(cur.set j (u8 (mrk i j)))[k]? = if j=k then some (u8 (mrk i j)) else cur[k]?:=fun k=>by
    rw[List.getElem?_set]
    split <;> simp_all
   constructor
   · refine⟨fun i2 v2 n2 p2 ⟨hp2,h2⟩=>⟨hp2,?_⟩,fun _ _ h=>h,fun k hl hk=>⟨Below.heap_setCell w ⟨g,j,none⟩ _ k (fun e=>by subst e;rw[hO]at hk;cases hk),hk⟩,by simp[World.setCell]⟩
     rcases h2 with h2|⟨g2,cap2,cur2,rfl,hO2,hb2,hn2,hc2,hm2,hby2,hmk2⟩
     · exact .inl h2
     · by_cases hg:g2=g
       · subst hg
         rw[hO]at hO2
         injection hO2 with hO2
         subst hO2
         have hcc:cur2=cur:=by
          have:=hb2.symm.trans hb
          injection this with this
          injection this with this
          simpa using congrArg Array.toList this
         subst hcc;refine .inr ⟨g2,cap2,_,rfl,hO,hb',hn2,by rw[List.length_set];exact hc2,hm2,fun k hk=>?_,fun k hk=>?_⟩
         · rw[hget];split
           · exact⟨_,rfl⟩
           · exact hby2 k hk
         · rw[hget];split
           · rename_i e;subst e;rfl
           · exact hmk2 k hk
       · exact .inr ⟨g2,cap2,cur2,rfl,hO2,hb2.far (p:=⟨g,j,none⟩) hg _,hn2,hc2,hm2,hby2,hmk2⟩
   · rintro rfl
     refine⟨by omega,.inr ⟨g,cap,_,rfl,hO,hb',hnc,by rw[List.length_set];exact hcl,hcm,fun k hk=>?_,fun k hk=>?_⟩⟩
     · rw[hget];split
       · exact⟨_,rfl⟩
       · exact hby k hk
     · rw[hget];split
       · rename_i e;subst e;rfl
       · exact hmk k om
theorem Tr.frozen{w:World}{O:Own}{i n p g cap:Nat}(h:Tr w O i (.slice (some ⟨g,0,none⟩) n cap) n p)(j:Nat):w.frozen? ⟨g,j,none⟩=false:=by
 rcases h.2 with ⟨h,_⟩|⟨g',cap',cur,hv,_,hb,_⟩
 · cases h
 · injection hv with e1 _ _
   injection e1 with e1
   injection e1 with e1
   subst e1;exact hb.frozen j
theorem Tr.cell{w:World}{O:Own}{i n p g cap:Nat}(h:Tr w O i (.slice (some ⟨g,0,none⟩) n cap) n p){j:Nat}(hj:j<n):∃x:UInt8,w.cell? ⟨g,j,none⟩=some (.int .u8 x.toNat):=by
 rcases h.2 with ⟨h,_⟩|⟨g',cap',cur,hv,_,hb,_,_,_,hby,_⟩
 · cases h
 · injection hv with e1 _ _
   injection e1 with e1
   injection e1 with e1
   subst e1;obtain⟨x,hx⟩:=hby j hj;exact⟨x,(hb.cell j).trans hx⟩
theorem Tr.mark{w:World}{O:Own}{i n p g cap:Nat}(h:Tr w O i (.slice (some ⟨g,0,none⟩) n cap) n p){j:Nat}(hj:j<p):w.cell? ⟨g,j,none⟩=some (.int .u8 (mrk i j).toNat):=by
 rcases h.2 with ⟨h,_⟩|⟨g',cap',cur,hv,_,hb,_,_,_,_,hmk⟩
 · cases h
 · injection hv with e1 _ _
   injection e1 with e1
   injection e1 with e1
   subst e1;exact(hb.cell j).trans (hmk j hj)
theorem Tr.form{w:World}{O:Own}{i n p:Nat}{v:Value}(h:Tr w O i v n p):(v=.slice none 0 0∧n=0)∨∃g cap,v=.slice (some ⟨g,0,none⟩) n cap∧O g=some i∧g<w.heap.size:=by
 rcases h.2 with h|⟨g,cap,cur,rfl,hO,hb,_⟩
 · exact .inl h
 · exact .inr ⟨g,cap,rfl,hO,hb.lt⟩
def putOwn(O:Own)(g i:Nat):Own:=fun k=>if k=g then some i else O k
theorem zn8{P:Program}{base:Nat}{w0 w:World}{O:Own}(hM:MS base w0 w O)(hbs:base≤w.heap.size)(t ty:TypeId)(ht:P.underlying t=some (.slice 5))(he:ElemIs P 5 1 1){i n:Nat}{v:Value}(h:Tr w O i v n n)
 (A:Option Addr) (m c:Nat) (news:List Value) (hr:Rd w A m news) (hm:0<m) (hnew:∀j,j<m→news[j]? = some (u8 (mrk i (n+j)))) (hbytes:n+m≤140737488355328):
 ∃A' c' w' O',(Builtin.append_ #[t,t] ty #[v,.slice A m c]).run P w=.ok (.slice A' (n+m) c') w'∧Tr w' O' i (.slice A' (n+m) c') (n+m) (n+m)∧MStep w O w' O'∧MS base w0 w' O':=by
 obtain⟨⟨ti,z,hi,hz,hsize,hby,hzs⟩,hsz⟩:=he;obtain⟨b,soff,rfl,hbl,hc⟩:=hr.2 hm;have hnl:news.length=m:=hr.1
 have hone:∀u∈news,u.oneCell'=true:=by
  intro u hu;obtain⟨k,hk,rfl⟩:=List.getElem_of_mem hu;have:=hnew k om;rw[ge9 hk]at this
  injection this with this
  rw[this]
  rfl
 have hl1:news.length=m*ti.size:=by rw[hsize,Nat.mul_one,hnl]
 have hnews:∀j u,news[j]? = some u→w.cell? ((⟨b,soff,none⟩:Addr).add j)=some u:=fun j u hu=>by rw[Addr.add_mid];exact hc j u hu
 have hgrowW:∀(cs:List Value) (cap:Nat),cs.length=cap→n+m≤cap→cap≤maxLen→(∀j,j<n+m→cs[j]? = some (u8 (mrk i j))) →
     Tr (w.drew.alloc (.cells cs.toArray 5)) (putOwn O w.heap.size i) i (.slice (some ⟨w.heap.size,0,none⟩) (n+m) cap) (n+m) (n+m)∧MStep w O (w.drew.alloc (.cells cs.toArray 5)) (putOwn O w.heap.size i)∧MS base w0 (w.drew.alloc (.cells cs.toArray 5)) (putOwn O w.heap.size i):=by
  intro cs cap hcl hcap hcm hmk;have hold:∀g,g<w.heap.size→(w.drew.alloc (.cells cs.toArray 5)).heap[g]? = w.heap[g]?:=fun g hg=>Below.heap_alloc w.drew _ g hg
  have hpo:∀g,g<w.heap.size→putOwn O w.heap.size i g=O g:=fun g hg=>by unfold putOwn;rw[if_neg om]
  refine⟨⟨lr,.inr ⟨w.heap.size,cap,cs,rfl,by unfold putOwn;rw[if_pos rfl],Blk.new w.drew _ cs,hcap,hcl,hcm,fun j hj=>⟨_,hmk j hj⟩,hmk⟩⟩,⟨fun i2 v2 n2 p2 ⟨hp2,h2⟩=>⟨hp2,?_⟩,fun g i2 hg=>?_,fun g hl hg=>⟨hold g hl,by rw[hpo g hl];exact hg⟩,by simp⟩,⟨fun g hg=>?_,fun g i2 hg=>?_,(hM.below.drew.alloc hbs _)⟩⟩
  · rcases h2 with h2|⟨g2,cap2,cur2,rfl,hO2,hb2,r⟩
    · exact .inl h2
    · exact .inr ⟨g2,cap2,cur2,rfl,by rw[hpo g2 hb2.lt];exact hO2,(hold g2 hb2.lt).trans hb2,r⟩
  · rcases Nat.lt_or_ge g w.heap.size with hlt|hge
    · rw[hpo g hlt];exact hg
    · rw[hM.free g hge]at hg;cases hg
  · simp at hg
    unfold putOwn
    rw[if_neg om];exact hM.free g om
  · unfold putOwn at hg
    split at hg
    · rename_i e;rw[e];exact hbs
    · exact hM.lo g i2 hg
 have hzl:∀k,(Builtin.zeroCells z.cells k).size=k:=fun k=>by rw[size_zeroCells,hzs,Nat.mul_one]
 rcases h.2 with ⟨rfl,rfl⟩|⟨g,cap,cur,rfl,hO,hb,hnc,hcl,hcm,hbyt,hmk⟩
 · have hrun:=run_append_nil (P:=P) w t ty 5 ti z ht hi hz ⟨b,soff,none⟩ m c news hl1 hnews hm om (by rw[hby];omega)
   have hge:=grownCap_ge w m 0 5;have hle:=grownCap_le_maxLen w m 0 5 (by simp only[maxLen];omega)
   obtain ⟨q1,q2,q3⟩:=hgrowW (news.toArray++Builtin.zeroCells z.cells (grownCap w m 0 5 - m)).toList (grownCap w m 0 5) (by rw[Array.length_toList,Array.size_append,List.size_toArray,hzl,hnl];omega) om hle
     (fun j hj=>by rw[Array.toList_append,ll9 (by simp[hnl];omega)];have h5:=hnew j om;rw[Nat.zero_add]at h5;simpa using h5)
   rw[Array.toArray_toList]at q1 q2 q3;rw[Nat.zero_add]at q1 ⊢;exact⟨_,_,_,_,hrun,q1,q2,q3⟩
 · by_cases hroom:n+m≤cap
   · have hrun:=run_append_room (P:=P) w t ty 5 ti ht hi g n cap cur.toArray hb ⟨b,soff,none⟩ m c news hl1 hnews hone hroom (by rw[hsize,Nat.mul_one,hnl,List.size_toArray];omega)
     rw[hsize,Nat.mul_one,hnl]at hrun
     have hget:∀j,(cur.take n++news++cur.drop (n+m))[j]? = if n≤j∧j<n+m then some (u8 (mrk i j)) else cur[j]?:=fun j=>by
      have htl:(cur.take n).length=n:=by rw[List.length_take,hcl];omega
      rcases Nat.lt_or_ge j n with h1|h1
      · rw[if_neg om,as9,ll9 om,List.getElem?_take,if_pos h1]
      · rcases Nat.lt_or_ge j (n+m)with h2|h2
        · rw[if_pos ⟨h1,h2⟩,ll9 (by rw[la9];omega),ar9 om,htl]
          have:=hnew (j-n) om
          rwa [show n+(j-n)=j by omega]at this
        · rw[if_neg om,ar9 (by rw[la9];omega),la9,htl,hnl,List.getElem?_drop]
          congr 1
          omega
     have hb':Blk (w.setRow g (cur.take n++news++cur.drop (n+m)).toArray) g 5 (cur.take n++news++cur.drop (n+m)):=setRow_heap w g _ _ _ _ hb;have hl':(cur.take n++news++cur.drop (n+m)).length=cap:=by simp[hnl];omega
     have hby':∀k,(∃x:UInt8,cur[k]? = some (u8 x))∨(n≤k∧k<n+m)→∃x:UInt8,(cur.take n++news++cur.drop (n+m))[k]? = some (u8 x):=fun k hk=>by
      rw[hget]
      split
      · exact⟨_,rfl⟩
      · rename_i h;exact hk.resolve_right h
     refine⟨_,_,_,O,hrun,⟨lr,.inr ⟨g,cap,_,rfl,hO,hb',hroom,hl',hcm,fun k hk=>?_,fun k hk=>?_⟩⟩,⟨fun i2 v2 n2 p2 ⟨hp2,h2⟩=>⟨hp2,?_⟩,fun _ _ h=>h,fun k hl hk=>⟨setRow_other w g k _ (fun e=>by subst e;rw[hO]at hk;cases hk),hk⟩,by simp⟩,⟨fun k hk=>hM.free k (by simp at hk;exact hk),hM.lo,?_⟩⟩
     · rw[hget]
       split
       · exact⟨_,rfl⟩
       · exact hbyt k om
     · rw[hget]
       split
       · rfl
       · exact hmk k om
     · rcases h2 with h2|⟨g2,cap2,cur2,rfl,hO2,hb2,hn2,hc2,hm2,hby2,hmk2⟩
       · exact .inl h2
       · by_cases hg:g2=g
         · subst hg
           rw[hO]at hO2
           injection hO2 with hO2
           subst hO2
           have hcc:cur2=cur:=by
            have:=hb2.symm.trans hb
            injection this with this
            injection this with this
            simpa using congrArg Array.toList this
           subst hcc;refine .inr ⟨g2,cap2,_,rfl,hO,hb',hn2,by rw[hl'];omega,hm2,fun k hk=>hby' k (.inl (hby2 k hk)),fun k hk=>?_⟩;rw[hget]
           split
           · rfl
           · exact hmk2 k hk
         · exact .inr ⟨g2,cap2,cur2,rfl,hO2,(setRow_other w g g2 _ hg).trans hb2,hn2,hc2,hm2,hby2,hmk2⟩
     · have hgr:w.grownBy (w.setRow g (cur.take n++news++cur.drop (n+m)).toArray) (some g):=⟨rfl,rfl,rfl,by simp,fun k _ hk=>setRow_other w g k _ (fun e=>hk (by rw[e]))⟩
       exact hM.below.grown hgr hbs (fun k hk=>by injection hk with hk;subst hk;exact hM.lo g i hO)
   · have holds:∀j u,(cur.take n)[j]? = some u→w.cell? ((⟨g,0,none⟩:Addr).add j)=some u:=fun j u hu=>by
      rw[Addr.add_mid,Nat.zero_add,hb.cell];rw[List.getElem?_take]at hu
      split at hu
      · exact hu
      · cases hu
     have htl:(cur.take n).length=n:=by rw[List.length_take,hcl];omega
     have hrun:=run_append_grow (P:=P) w t ty 5 ti z ht hi hz ⟨g,0,none⟩ n cap (cur.take n) (by rw[htl,hsize,Nat.mul_one]) holds ⟨b,soff,none⟩ m c news hl1 hnews om om (growslice_fits om (by rw[hby];omega));have hge:=grownCap_ge w (n+m) cap 5;have hle:=grownCap_le_maxLen w (n+m) cap 5 (by simp only[maxLen];omega)
     obtain ⟨q1,q2,q3⟩:=hgrowW ((cur.take n).toArray++news.toArray++Builtin.zeroCells z.cells (grownCap w (n+m) cap 5 - (n+m))).toList (grownCap w (n+m) cap 5) (by rw[Array.length_toList,Array.size_append,Array.size_append,List.size_toArray,List.size_toArray,hzl,hnl,htl];omega) om hle
       (fun j hj=>by
        rw[Array.toList_append,Array.toList_append,ll9 (by simp[hnl];omega)]
        rcases Nat.lt_or_ge j n with hjn|hjn
        · rw[ll9 (by rw[htl];exact hjn),List.getElem?_take,if_pos hjn]
          exact hmk j hjn
        · rw[ar9 (by rw[htl];exact hjn),htl]
          have:=hnew (j-n) om
          rwa [show n+(j-n)=j by omega]at this)
     rw[Array.toArray_toList]at q1 q2 q3;exact⟨_,_,_,_,hrun,q1,q2,q3⟩
section
variable{P:Program}{w:World}{ops:Array Oper}{rest:List Oper}{o:Oper}{a:Act}{K:Act→World→Prop}{Q:Exit→Act→World→Prop}
theorem zex(hgd:o.guard=none)(s x:Operand)(t:TypeId)(ho:o.op=.call { callee:=.builtin .append,args:=#[s,x],argTypes:=#[t,t] }){base:Nat}{w0:World}{O:Own}(hM:MS base w0 w O)(hbs:base≤w.heap.size)(ht:P.underlying t=some (.slice 5))(he:ElemIs P 5 1 1)
 {i n:Nat} (v:Value) (hs:a.eval s=v) (h:Tr w O i v n n) (A:Option Addr) (m c:Nat) (news:List Value) (hx:a.eval x=.slice A m c) (hr:Rd w A m news) (hm:0<m) (hnew:∀j,j<m→news[j]? = some (u8 (mrk i (n+j)))) (hbytes:n+m≤140737488355328)
 (hc:∀A' c' w' O',Tr w' O' i (.slice A' (n+m) c') (n+m) (n+m)→MStep w O w' O'→MS base w0 w' O'→wpList P ops Q rest (a.put o.dst (.slice A' (n+m) c')) w'):wpList P ops Q (o :: rest) a w:=by
 obtain⟨A',c',w',O',hrun,h1,h2,h3⟩:=zn8 (P:=P) hM hbs t o.type ht he h A m c news hr hm hnew hbytes;refine zfh hgd (zcc .append #[s,x] #[t,t] ho (args:=#[v,.slice A m c]) (by simp[hs,hx]) fun cs=>?_) (hc A' c' w' O' h1 h2 h3);simp only[builtin,Sem.run_bind,hrun,Sem.run_pure,Result.andThen_ok]
end
end
section
theorem zgk(i j:Nat)(hi:i≤1000)(hj:j≤281474976710656)(w:World):Calls Tryz.prog 65 #[.int .i64 (i:Int),.int .i64 (j:Int)] w fun e w'=>e=.returned (.int .u8 (mrk i j).toNat)∧w=w':=by
 have h1:(0:Int)≤(i:Int):=om;have h2:(i:Int)≤1000:=om;have h3:(0:Int)≤(j:Int):=om;have h4:(j:Int)≤281474976710656:=om;have HV:Hid ((((mrk i j).toNat:Nat):Int)=(17*(i:Int)+3*(j:Int)+1)%256):=by show _=_;unfold mrk;rw[UInt8.toNat_ofNat'];omega
 go_enter Tryz.func65, Tryz.ntmps65
 go_wp2_with fail
 go_ret;exact⟨by rw[HV.out];rfl,rfl⟩
theorem zvi(i j:Nat)(hi:i≤1000)(hj:j≤281474976710656)(w:World)(n:Nat):Calls Tryz.prog 65 #[.int .i64 (i:Int),.int .i64 (j:Int)] (w.drewN n) fun e w''=>e=.returned (.int .u8 (mrk i j).toNat)∧∃m,w''=w.drewN m :=
 (zgk i j hi hj (w.drewN n)).mono fun _ _ ⟨h1,h2⟩=>⟨h1,n,h2.symm⟩
structure ST(base:Nat)(w0:World)(L k:Nat)(vs:List Value)(ns:Nat→Nat)(w:World)(O:Own)(p:Nat→Nat):Prop where
 ms:MS base w0 w O
 hi:base≤w.heap.size
 lst:Blk w L 22 vs
 no:O L=none
 each:∀i,i<k→∃A c,vs[i]? = some (.slice A (ns i) c)∧Tr w O i (.slice A (ns i) c) (ns i) (p i)
section
variable{base:Nat}{w0:World}{L k:Nat}{vs:List Value}{ns:Nat→Nat}{w:World}{O:Own}{p:Nat→Nat}
theorem ST.step(h:ST base w0 L k vs ns w O p){w':World}{O':Own}(hs:MStep w O w' O')(hm:MS base w0 w' O'):ST base w0 L k vs ns w' O' p :=
 ⟨hm,Nat.le_trans h.hi hs.size,(hs.idle L h.lst.lt h.no).1.trans h.lst,(hs.idle L h.lst.lt h.no).2,fun i hi=>by
  obtain⟨A,c,e,ht⟩:=h.each i hi
  exact⟨A,c,e,hs.keep _ _ _ _ ht⟩⟩
theorem MS.step{w':World}{O':Own}(h:MS base w0 w O)(hb:Below base w0 w')(hO:O'=O)(hs:w.heap.size≤w'.heap.size):MS base w0 w' O':=by
 subst hO;exact⟨fun g hg=>h.free g om,h.lo,hb⟩
theorem ST.drew(h:ST base w0 L k vs ns w O p):ST base w0 L k vs ns w.drew O p:=h.step (MStep.drew w O) (h.ms.step h.ms.below.drew rfl lr)
theorem ST.drewN(h:ST base w0 L k vs ns w O p)(q:Nat):ST base w0 L k vs ns (w.drewN q) O p:=h.step (MStep.drewN w O q) (h.ms.step (below_drewN h.ms.below q) rfl lr)
theorem ST.alloc(h:ST base w0 L k vs ns w O p)(o:Obj):ST base w0 L k vs ns (w.alloc o) O p:=h.step (MStep.alloc w O o) (h.ms.alloc h.hi o)
theorem ST.at_(h:ST base w0 L k vs ns w O p){i:Nat}(hi:i<k):∃A c,w.cell? ⟨L,i,none⟩=some (.slice A (ns i) c)∧Tr w O i (.slice A (ns i) c) (ns i) (p i):=by
 obtain⟨A,c,e,ht⟩:=h.each i hi;exact⟨A,c,(h.lst.cell i).trans e,ht⟩
theorem ST.set(h:ST base w0 L k vs ns w O p){i j g c:Nat}(hi:i<k)(hc:w.cell? ⟨L,i,none⟩=some (.slice (some ⟨g,0,none⟩) (ns i) c))(hj:j<ns i)(hp:p i=j):
 ST base w0 L k vs ns (w.setCell ⟨g,j,none⟩ (.int .u8 (mrk i j).toNat)) O (fun x=>if x=i then j+1 else p x):=by
 obtain⟨A,c',e,ht⟩:=h.at_ hi;rw[hc]at e
 injection e with e
 injection e with e1 _ e2
 subst e1;subst e2;obtain⟨h1,h2⟩:=ht.set hj;have hsz:(w.setCell ⟨g,j,none⟩ (u8 (mrk i j))).heap.size=w.heap.size:=by simp[World.setCell]
 have hgO:O g=some i:=by
  rcases ht.form with ⟨h,_⟩|⟨g',cap,hv,hO,_⟩
  · cases h
  · injection hv with e1 _ _
    injection e1 with e1
    injection e1 with e1
    rw[e1];exact hO
 have h3:=h.step h1 (h.ms.step (h.ms.below.setCell (p:=⟨g,j,none⟩) (h.ms.lo g i hgO) _) rfl (Nat.le_of_eq hsz.symm));refine⟨h3.ms,h3.hi,h3.lst,h3.no,fun x hx=>?_⟩;obtain⟨A',c',e',ht'⟩:=h3.each x hx
 by_cases hxi:x=i
 · subst hxi
   refine⟨A',c',e',?_⟩;rw[if_pos rfl];have e3:=(h.lst.cell x).symm.trans hc;rw[e']at e3
   injection e3 with e3
   rw[e3];have h4:=h2 hp.symm;rw[hp]at h4;exact h4
 · exact⟨A',c',e',by rw[if_neg hxi];exact ht'⟩
theorem ST.eq(h:ST base w0 L k vs ns w O p){q:Nat→Nat}(hq:∀i,i<k→p i=q i):ST base w0 L k vs ns w O q :=
 ⟨h.ms,h.hi,h.lst,h.no,fun i hi=>by rw[←hq i hi];exact h.each i hi⟩
end
def lenG(ns:Nat→Nat)(k m:Nat):Nat:=if m<k then ns m+16 else ns (m-k)+40
structure GS(base:Nat)(L k:Nat)(ns:Nat→Nat)(w:World)(O:Own)(N:Nat)(gv:Value)(ts:List Value):Prop where
 own:w.ownsRow base 22 1 gv N ts
 no:∀g,gv.ownBlock=some g→O g=none∧g≠L
 each:∀m,m<N→∃A c,ts[m]? = some (.slice A (lenG ns k m) c)∧Tr w O (m%k) (.slice A (lenG ns k m) c) (lenG ns k m) (lenG ns k m)
section
variable{base:Nat}{w0:World}{L k:Nat}{vs:List Value}{ns:Nat→Nat}{w w':World}{O O':Own}{p:Nat→Nat}{N:Nat}{gv:Value}{ts:List Value}
theorem GS.step(h:GS base L k ns w O N gv ts)(hs:MStep w O w' O'):GS base L k ns w' O' N gv ts:=by
 refine⟨?_,fun g hg=>?_,fun m hm=>?_⟩
 · obtain⟨h1,h2⟩:=h.own
   refine⟨h1,?_⟩
   rcases h2 with h2|⟨g,cap,cur,hv,hb,hg,r⟩
   · exact .inl h2
   · exact .inr ⟨g,cap,cur,hv,hb,((hs.idle g (Array.getElem?_eq_some_iff.1 hg).1 (h.no g (by rw[hv];rfl)).1).1).trans hg,r⟩
 · exact⟨(hs.idle g (h.own.lt g hg).2 (h.no g hg).1).2,(h.no g hg).2⟩
 · obtain⟨A,c,e,ht⟩:=h.each m hm
   exact⟨A,c,e,hs.keep _ _ _ _ ht⟩
theorem Tr.grown{i n q:Nat}{v:Value}(h:Tr w O i v n q){row:Option Nat}(hg:w.grownBy w' row)(hr:∀b,row=some b→O b=none):Tr w' O i v n q:=by
 obtain⟨hp,h⟩:=h;refine⟨hp,?_⟩
 rcases h with h|⟨g,cap,cur,rfl,hO,hb,r⟩
 · exact .inl h
 · exact .inr ⟨g,cap,cur,rfl,hO,hb.grown hg (fun e=>by have:=hr g e.symm;rw[hO]at this;cases this),r⟩
theorem ST.grown(h:ST base w0 L k vs ns w O p){row:Option Nat}(hg:w.grownBy w' row)(hr:∀b,row=some b→O b=none∧b≠L∧base≤b):ST base w0 L k vs ns w' O p :=
 ⟨h.ms.step (h.ms.below.grown hg h.hi (fun b e=>(hr b e).2.2)) rfl hg.size,Nat.le_trans h.hi hg.size,h.lst.grown hg (fun e=>(hr L e.symm).2.1 rfl),h.no,fun i hi=>by
  obtain⟨A,c,e,ht⟩:=h.each i hi
  exact⟨A,c,e,ht.grown hg (fun b e=>(hr b e).1)⟩⟩
theorem GS.grown(h:GS base L k ns w O N gv ts){row:Option Nat}(hg:w.grownBy w' row)(hr:∀b,row=some b→O b=none)(hne:gv.ownBlock=none∨gv.ownBlock≠row):GS base L k ns w' O N gv ts :=
 ⟨h.own.kept hg hne,h.no,fun m hm=>by
  obtain⟨A,c,e,ht⟩:=h.each m hm
  exact⟨A,c,e,ht.grown hg hr⟩⟩
theorem GS.push(hM:MS base w0 w O)(hL:L<w.heap.size)(h:GS base L k ns w O N gv ts){A:Option Addr}{c:Nat}(hA:Tr w O (N%k) (.slice A (lenG ns k N) c) (lenG ns k N) (lenG ns k N)){A':Option Addr}{c':Nat}(hown:w'.ownsRow base 22 1 (.slice A' (N+1) c') (N+1) (ts++[.slice A (lenG ns k N) c]))(hg:w.grownBy w' gv.ownBlock)
 (hat:Value.ownBlock (.slice A' (N+1) c')=gv.ownBlock∨Value.ownBlock (.slice A' (N+1) c')=some w.heap.size):GS base L k ns w' O (N+1) (.slice A' (N+1) c') (ts++[.slice A (lenG ns k N) c]):=by
 have htl:ts.length=N:=by simpa using h.own.1
 refine⟨hown,fun g hgb=>?_,fun m hm=>?_⟩
 · rcases hat with e|e
   · exact h.no g (by rw[←e];exact hgb)
   · rw[hgb]at e
     injection e with e
     subst e;exact⟨hM.free _ lr,by omega⟩
 · by_cases hmN:m<N
   · obtain⟨A2,c2,e,ht⟩:=h.each m hmN
     exact⟨A2,c2,by rw[ll9 om];exact e,ht.grown hg (fun b e=>(h.no b e).1)⟩
   · obtain rfl:m=N:=om
     exact⟨A,c,by rw[ar9 om,htl,Nat.sub_self];rfl,hA.grown hg (fun b e=>(h.no b e).1)⟩
theorem ST.pushed(h:ST base w0 L k vs ns w O p)(hG:GS base L k ns w O N gv ts)(hg:w.grownBy w' gv.ownBlock):ST base w0 L k vs ns w' O p :=
 h.grown hg (fun b e=>⟨(hG.no b e).1,(hG.no b e).2,(hG.own.lt b e).1⟩)
end
theorem GS.drewN{base:Nat}{L k:Nat}{ns:Nat→Nat}{w:World}{O:Own}{N:Nat}{gv:Value}{ts:List Value}(h:GS base L k ns w O N gv ts)(q:Nat):GS base L k ns (w.drewN q) O N gv ts:=h.step (MStep.drewN w O q)
theorem ztr{w:World}{base n c:Nat}{e:TypeId}{A:Option Addr}{xs:List Value}(h:w.ownsRow base e 1 (.slice A n c) n xs)(hn:0<n):∃g,A=some ⟨g,0,none⟩∧g<w.heap.size:=by
 rcases h.2 with ⟨_,h0⟩|⟨g,cap,cur,hv,_,hg,_⟩
 · omega
 · injection hv with hA
   exact⟨g,hA,(Array.getElem?_eq_some_iff.1 hg).1⟩
def mrw(x n:Nat):Nat→List UInt8
 | 0=>[]
 | j+1=>mrw x n j++[mrk x (n+j)]
theorem zeu(x n j:Nat):(mrw x n j).length=j:=by
 induction j with
 | zero=>rfl
 | succ j ih=>simp[mrw,ih]
theorem zxb(x n j t:Nat)(h:t<j):(mrw x n j)[t]? = some (mrk x (n+t)):=by
 induction j with
 | zero=>omega
 | succ j ih =>
  unfold mrw
  by_cases htj:t<j
  · rw[ll9 (by rw[zeu];exact htj)]
    exact ih htj
  · obtain rfl:t=j:=om
    rw[ar9 (by rw[zeu];exact lr),zeu,Nat.sub_self]
    rfl
def mrU(x n j:Nat):List UInt8:=mrw x n j++List.replicate (40-j) 0
theorem zxd(x n j:Nat)(h:j≤40):(mrU x n j).length=40:=by simp[mrU,zeu];omega
theorem zxc(x n j:Nat)(h:j<40):(mrU x n j).set j (mrk x (n+j))=mrU x n (j+1):=by
 unfold mrU
 rw[List.set_append_right _ _ (by rw[zeu];exact lr),zeu,Nat.sub_self,show 40-j=(40-(j+1))+1 by omega,List.replicate_succ,List.set_cons_zero,mrw,as9]
 rfl
theorem zxe(x n:Nat):mrU x n 40=mrw x n 40:=by simp[mrU]
def upTo(ns:Nat→Nat)(i j:Nat):Nat→Nat:=fun x=>if x<i then ns x else if x=i then j else 0
theorem zsd(base:Nat)(w0:World)(L k c:Nat)(vs:List Value)(ns:Nat→Nat)(w:World)(O:Own)(hst:ST base w0 L k vs ns w O (fun _=>0))(hvl:vs.length=k)(hk:k≤100)(hk0:0<k)(hns:∀i,i<k→ns i≤140737488355000):
 Calls Tryz.prog 35 #[.slice (some ⟨L,0,none⟩) k c] w fun e w'=>e=.returned (.bool true)∧Below base w0 w':=by
 have HST:=qh hst;have HNS:=qh hns;have HST0:Hid (ST base w0 L k vs ns w O (upTo ns 0 0)):=hst.eq (fun i hi=>by unfold upTo;split;(omega);split <;> rfl);clear hst hns
 go_enter Tryz.func35, Tryz.ntmps35
 go_wp2_with fail
 go_loopg [3] k (fun kk q wr=>∃i:Nat,i≤k∧kk=k-i∧q=.int .i64 (i:Int)∧ST base w0 L k vs ns wr O (upTo ns i 0))
 case atStart=>exact⟨0,by omega,rfl,rfl,HST0.out⟩
 case round =>
  clear HST0;obtain⟨i,hi,hgk,rfl,hst⟩:=hrel;have HGK:=qh hgk;clear hgk
  by_cases hlt:i<k
  · have hlt2:(i:Int)<(k:Int):=om
    have hi0:(0:Int)≤(i:Int):=om;have HST1:=qh hst;have hnb:=HNS.out i hlt;clear hst
    go_wp2_with fail
    go_loopg [4] (ns i) (fun kk q wr=>∃j:Nat,j≤ns i∧kk=ns i-j∧q=.int .i64 (j:Int)∧ST base w0 L k vs ns wr O (upTo ns i j))
    case atStart=>exact⟨0,by omega,rfl,rfl,HST1.out⟩
    case round =>
     clear HST1;obtain⟨j,hj,hjk,rfl,hst⟩:=hrel;have HJK:=qh hjk;clear hjk;obtain⟨A,c1,hcl,htr⟩:=hst.at_ hlt;have HST2:=qh hst;clear hst
     by_cases hlj:j<ns i
     · have hlj2:(j:Int)<(ns i:Int):=om
       have hj0:(0:Int)≤(j:Int):=om
       obtain⟨g,cap,hv⟩:∃g cap,Value.slice A (ns i) c1=.slice (some ⟨g,0,none⟩) (ns i) cap:=by
        rcases htr.form with ⟨h,h0⟩|⟨g,cap,h,_⟩
        · omega
        · exact⟨g,cap,h⟩
       injection hv with e1 _ e2
       subst e1;subst e2;obtain⟨x,hx⟩:=htr.cell hlj;have hf:=htr.frozen j;have hSet:=HST2.out.drew.set hlt hcl hlj (show upTo ns i j i=j by unfold upTo;rw[if_neg om,if_pos rfl]);have HSET:Hid (ST base w0 L k vs ns (wr.drew.setCell ⟨g,j,none⟩ (.int .u8 (mrk i j).toNat)) O (upTo ns i (j+1))):=hSet.eq (fun y hy=>by unfold upTo;split;(rename_i e;subst e;rw[if_neg om]);(split;rfl;rfl));have hcl2:=hSet.at_ hlt;obtain⟨A3,c3,hcl3,_⟩:=hcl2
       have hcl3':(wr.drew.setCell ⟨g,j,none⟩ (.int .u8 (mrk i j).toNat)).cell? ⟨L,i,none⟩=some (.slice (some ⟨g,0,none⟩) (ns i) c1):=by
        have h5:=(hSet.lst.cell i).trans ((HST2.out.drew.lst.cell i).symm.trans hcl);exact h5
       have hclD:wr.drew.cell? ⟨L,i,none⟩=some (.slice (some ⟨g,0,none⟩) (ns i) c1):=hcl;have hxD:wr.drew.cell? ⟨g,j,none⟩=some (.int .u8 x.toNat):=hx;have hfD:wr.drew.frozen? ⟨g,j,none⟩=false:=hf;have HMK:=qh (fun W=>zgk i j om om W);clear htr hSet hx hf hcl3
       go_wp2_with fail
       go_region_held3 (fun W'=>W'.cell? ⟨L,i,none⟩=some (.slice (some ⟨g,0,none⟩) (ns i) c1)) (first|exact hclD|exact hcl3') ((go_at_call 65;(refine(HMK.out _).mono ?_);rintro e w2 ⟨rfl,rfl⟩))
       go_wp2_with fail
       go_roundg (ns i-(j+1))
       case measure=>have:=HJK.out;omega
       case rel=>exact⟨j+1,by omega,rfl,by go_num,HSET.out⟩
     · obtain rfl:j=ns i:=om
       have hlj2:¬(ns i:Int)<(ns i:Int):=om
       have HSE:Hid (ST base w0 L k vs ns wr O (upTo ns (i+1) 0)):=HST2.out.eq (fun y hy=>by
        unfold upTo
        rcases Nat.lt_trichotomy y i with h|h|h
        · rw[if_pos h,if_pos om]
        · subst h;rw[if_neg om,if_pos rfl,if_pos om]
        · rw[if_neg om,if_neg om,if_neg om];split <;> rfl)
       clear htr
       go_wp2_with fail
       go_roundg (k-(i+1))
       case measure=>have:=HGK.out;omega
       case rel=>exact⟨i+1,by omega,rfl,by go_num,HSE.out⟩
  · obtain rfl:i=k:=om
    have hlt2:¬(i:Int)<(i:Int):=om;have HSF:Hid (ST base w0 L i vs ns wr O ns):=hst.eq (fun y hy=>by unfold upTo;rw[if_pos hy]);have HG0:Hid (GS base L i ns wr O 0 (.slice none 0 0) []):=⟨World.ownsRow_nil _ _ _ _,fun g hg=>(by cases hg),fun m hm=>absurd hm om⟩;clear hst
    go_wp2_with fail
    go_loopg [5,6] i (fun kk q5 q6 wr=>∃(x:Nat) (O:Own) (gv:Value) (ts:List Value),x≤i∧kk=i-x∧q6=.int .i64 (x:Int)∧gv=q5∧ST base w0 L i vs ns wr O ns∧GS base L i ns wr O x gv ts)
    case atStart=>exact⟨0,O,_,_,by omega,rfl,rfl,rfl,HSF.out,HG0.out⟩
    case round =>
     clear HSF HG0;obtain⟨x,O,gv,ts,hx,hgk2,rfl,rfl,hst,hgs⟩:=hrel;have HGK2:=qh hgk2;clear hgk2
     by_cases hlx:x<i
     · have hlx2:(x:Int)<(i:Int):=om
       have hx0:(0:Int)≤(x:Int):=om;obtain⟨A0,c0,hcl0,htr0⟩:=hst.at_ hlx;have hnb:=HNS.out x hlx;have hnb0:(0:Int)≤(ns x:Int):=om;have hnb1:(ns x:Int)≤140737488355000:=om;have HST2:=qh hst;have HGS2:=qh hgs;have HTR2:=qh htr0;clear hst hgs htr0
       go_wp2_with fail
       go_loopg [7,8] 16 (fun kk q7 q8 wr=>∃(j:Nat) (O:Own) (A:Option Addr) (c:Nat),j≤16∧kk=16-j∧q8=.int .i64 (j:Int)∧q7=.slice A (ns x+j) c∧Tr wr O x (.slice A (ns x+j) c) (ns x+j) (ns x+j)∧ST base w0 L i vs ns wr O ns∧GS base L i ns wr O x gv ts)
       case atStart=>exact⟨0,O,A0,c0,by omega,rfl,rfl,rfl,HTR2.out,HST2.out,HGS2.out⟩
       case round =>
        clear HST2 HGS2 HTR2 hcl0;obtain⟨j,O,A,c1,hj,hjk,rfl,rfl,htr,hst,hgs⟩:=hrel;have HJK:=qh hjk;have HTR:=qh htr;have HST:=qh hst;have HGS:=qh hgs;clear hjk htr hst hgs
        by_cases hlj:j<16
        · have hlj2:(j:Int)<16:=om
          have hj0:(0:Int)≤(j:Int):=om;obtain⟨A3,c3,hcl,_⟩:=HST.out.at_ hlx;have HMK:Hid (∀W,Calls Tryz.prog 65 #[.int .i64 (x:Int),.int .i64 ((ns x:Int)+(j:Int))] W fun e w'=>e=.returned (.int .u8 (mrk x (ns x+j)).toNat)∧W=w'):=fun W=>zgk x (ns x+j) om om W
          go_wp2_with (first
           | (go_at_call 65;(with_reducible refine(HMK.out _).mono ?_);rintro e w2 ⟨rfl,rfl⟩)
           | (at_builtin;refine zex rfl (.tmp 54) (.tmp 64) 22 rfl (HST.out.alloc _).ms (HST.out.alloc _).hi Tryz.underlying22 eU8 (.slice A (ns x+j) c1) rr (by exact(MStep.alloc _ O _).keep _ _ _ _ HTR.out) (some ⟨wr.heap.size,0,none⟩) 1 1 [.int .u8 ((mrk x (ns x+j)).toNat:Int)] rr (by exact(RdS.new wr _ [.int .u8 ((mrk x (ns x+j)).toNat:Int)] 1 rfl).to1) om (by intro y hy;obtain rfl:y=0:=om;rfl) om ?_;intro A4 c4 w4 O4 htr4 hs4 hm4;have HTR4:=qh htr4;have HST4:=qh ((HST.out.alloc _).step hs4 hm4);have HGS4:=qh ((HGS.out.step (MStep.alloc _ O _)).step hs4);clear htr4 hs4 hm4))
          go_roundg (16-(j+1))
          case measure=>have:=HJK.out;omega
          case rel=>exact⟨j+1,O4,A4,c4,by omega,rfl,by go_num,rfl,HTR4.out,HST4.out,HGS4.out⟩
        · obtain rfl:j=16:=om
          have hlj2:¬((16:Nat):Int)<16:=om;have hgow:=HGS.out.own;obtain⟨gA,gc,hgv,_⟩:=zeh hgow;subst hgv;have HLG:Hid (lenG ns i x=ns x+16):=by show _=_;unfold lenG;rw[if_pos hlx]
          have HXM:Hid (x%i=x):=Nat.mod_eq_of_lt hlx;have HOW:=qh hgow;clear hgow
          go_wp2_with ((at_builtin;refine zah rfl (.tmp 66) (.tmp 68) 87 rfl base 22 1 24 Tryz.underlying87 eSl (.slice gA x gc) x ts rr (by exact zaf HOW.out ((Below.refl _ wr).alloc lr _)) (some ⟨wr.heap.size,0,none⟩) 1 1 [.slice A (ns x+16) c1] rr (by exact RdS.new wr _ [.slice A (ns x+16) c1] 1 rfl) (by intro u hu;simp at hu;subst hu;rfl) om om (by exact(HST.out.alloc _).hi) ?_;intro A5 c5 w5 hown5 hc5 hg5 hat5;have HST5:=qh ((HST.out.alloc _).pushed (HGS.out.step (MStep.alloc _ O _)) hg5);have HGS5:Hid (GS base L i ns w5 O (x+1) (.slice A5 (x+1) c5) (ts++[.slice A (lenG ns i x) c1])):=(HGS.out.step (MStep.alloc _ O _)).push (HST.out.alloc _).ms (HST.out.alloc _).lst.lt (by rw[HLG.out,HXM.out];exact(MStep.alloc _ O _).keep _ _ _ _ HTR.out) (by rw[HLG.out];exact hown5) hg5 hat5;clear hown5 hg5 hat5))
          go_roundg (i-(x+1))
          case measure=>have:=HGK2.out;omega
          case rel=>exact⟨x+1,O,_,_,by omega,rfl,by go_num,rfl,HST5.out,HGS5.out⟩
     · obtain rfl:x=i:=om
       have hlx2:¬(x:Int)<(x:Int):=om;have HST6:=qh hst;have HGS6:=qh hgs;clear hst hgs
       go_wp2_with fail
       go_loopg [5,9] x (fun kk q5 q9 wr=>∃(y:Nat) (O:Own) (gv:Value) (ts:List Value),y≤x∧kk=x-y∧q9=.int .i64 (y:Int)∧gv=q5∧ST base w0 L x vs ns wr O ns∧GS base L x ns wr O (x+y) gv ts)
       case atStart=>exact⟨0,O,_,_,by omega,rfl,rfl,rfl,HST6.out,HGS6.out⟩
       case round =>
        clear HST6 HGS6;obtain⟨y,O,gv,ts,hy,hgk3,rfl,rfl,hst,hgs⟩:=hrel;have HGK3:=qh hgk3;clear hgk3;have HST:=qh hst;have HGS:=qh hgs;clear hst hgs
        by_cases hly:y<x
        · have hly2:(y:Int)<(x:Int):=om
          have hy0:(0:Int)≤(y:Int):=om;have hnb:=HNS.out y hly;have hnb0:(0:Int)≤(ns y:Int):=om;have hnb1:(ns y:Int)≤140737488355000:=om
          go_wp2_with ((at_make;refine zak rfl (.const (.int .i64 40)) (.const (.int .i64 40)) 22 rfl 5 (.int .u8 0) 1 Tryz.underlying22 iU8 rfl .i64 .i64 40 40 rr rr 40 40 rfl rfl om om om ?_;intro w1 hb1 hg1 hs1;have HB1:Hid (Blk w1 wr.heap.size 5 (u8s (mrU y (ns y) 0))):=hb1;have HST1:=qh (HST.out.grown hg1 (fun b e=>(by cases e)));have HGS1:=qh (HGS.out.grown hg1 (fun b e=>(by cases e)) (by cases h9:gv.ownBlock;(exact .inl rfl);(exact .inr (fun e=>by cases e))));clear hb1 hg1 hs1))
          have HGN:Hid (O wr.heap.size=none∧wr.heap.size≠L∧base≤wr.heap.size∧∀b,gv.ownBlock=some b→b≠wr.heap.size):=⟨HST.out.ms.free _ lr,by have:=HST.out.lst.lt;omega,HST.out.hi,fun b hb=>by have:=(HGS.out.own.lt b hb).2;omega⟩;obtain⟨G,hG⟩:=ex9 (wr.heap.size);rw[←hG]at HB1 HGN ⊢;clear hG HST HGS
          go_loopg [11] 40 (fun kk q wr=>∃j:Nat,j≤40∧kk=40-j∧q=.int .i64 (j:Int)∧Blk wr G 5 (u8s (mrU y (ns y) j))∧ST base w0 L x vs ns wr O ns∧GS base L x ns wr O (x+y) gv ts)
          case atStart=>exact⟨0,by omega,rfl,rfl,HB1.out,HST1.out,HGS1.out⟩
          case round =>
           clear HB1 HST1 HGS1;obtain⟨j,hj,hjk,rfl,hb,hst,hgs⟩:=hrel;have HJK:=qh hjk;have HST:=qh hst;have HGS:=qh hgs;have HB:=qh hb;clear hjk hst hgs hb;obtain⟨A3,c3,hcl,htr⟩:=HST.out.at_ hly;have HTR:=qh htr;clear htr
           by_cases hlj:j<40
           · have hlj2:(j:Int)<40:=om
             have hj0:(0:Int)≤(j:Int):=om;have HMK:Hid (∀W,Calls Tryz.prog 65 #[.int .i64 (y:Int),.int .i64 ((ns y:Int)+(j:Int))] W fun e w'=>e=.returned (.int .u8 (mrk y (ns y+j)).toNat)∧W=w'):=fun W=>zgk y (ns y+j) om om W
             obtain⟨z,hz⟩:∃z,(mrU y (ns y) j)[j]? = some z:=⟨_,ge9 (by rw[zxd _ _ _ hj];exact hlj)⟩;have cz:wr.cell? ⟨G,j,none⟩=some (.int .u8 z.toNat):=by rw[HB.out.cell,u8s_getElem?,hz];rfl
             have fz:=HB.out.frozen j
             have HB2:Hid (Blk (wr.setCell ⟨G,j,none⟩ (.int .u8 (mrk y (ns y+j)).toNat)) G 5 (u8s (mrU y (ns y) (j+1)))):=(by
              have h5:=HB.out.set_ j (.int .u8 (mrk y (ns y+j)).toNat);rw[zbg,zxc _ _ _ hlj]at h5
              exact h5)
             have hOn:=(Only.of_setCells wr G j [.int .u8 (mrk y (ns y+j)).toNat]).grown;have HST2:Hid (ST base w0 L x vs ns (wr.setCell ⟨G,j,none⟩ (.int .u8 (mrk y (ns y+j)).toNat)) O ns):=HST.out.grown hOn (fun b e=>by injection e with e;subst e;exact⟨HGN.out.1,HGN.out.2.1,HGN.out.2.2.1⟩)
             have HGS2:Hid (GS base L x ns (wr.setCell ⟨G,j,none⟩ (.int .u8 (mrk y (ns y+j)).toNat)) O (x+y) gv ts):=HGS.out.grown hOn (fun b e=>by injection e with e;subst e;exact HGN.out.1) (by cases h9:gv.ownBlock with
              | none=>exact .inl rfl
              | some b=>exact .inr (fun e=>HGN.out.2.2.2 b h9 (by injection e)))
             clear hz hOn
             go_wp2_with (go_at_call 65;(with_reducible refine(HMK.out _).mono ?_);rintro e w2 ⟨rfl,rfl⟩)
             go_roundg (40-(j+1))
             case measure=>have:=HJK.out;omega
             case rel=>exact⟨j+1,by omega,rfl,by go_num,HB2.out,HST2.out,HGS2.out⟩
           · obtain rfl:j=40:=om
             have hlj2:¬((40:Nat):Int)<40:=om;have hgow:=HGS.out.own;obtain⟨gA,gc,hgv,_⟩:=zeh hgow;subst hgv;have HLG:Hid (lenG ns x (x+y)=ns y+40):=by show _=_;unfold lenG;rw[if_neg om,Nat.add_sub_cancel_left]
             have HXM:Hid ((x+y)%x=y):=by show _=_;rw[Nat.add_mod_left];exact Nat.mod_eq_of_lt hly
             have HOW:=qh hgow;have HNW:Hid (Rd wr (some ⟨G,0,none⟩) 40 (u8s (mrw y (ns y) 40))):=(by have h5:=HB.out.rdAll;rw[zxe,zeu]at h5;exact h5);have HNG:Hid (∀t,t<40→(u8s (mrw y (ns y) 40))[t]? = some (.int .u8 (mrk y (ns y+t)).toNat)):=fun t ht=>(by rw[u8s_getElem?,zxb _ _ _ _ ht];rfl)
             clear hgow
             go_wp2_with (first
              | (at_builtin;refine zex rfl (.tmp 97) (.tmp 98) 22 rfl HST.out.ms HST.out.hi Tryz.underlying22 eU8 (.slice A3 (ns y) c3) rr (by exact HTR.out) (some ⟨G,0,none⟩) 40 40 (u8s (mrw y (ns y) 40)) rr HNW.out om (by exact HNG.out) om ?_;intro A4 c4 w4 O4 htr4 hs4 hm4;have HTR4:=qh htr4;have HST4:=qh (HST.out.step hs4 hm4);have HGS4:=qh (HGS.out.step hs4);clear htr4 hs4 hm4)
              | (at_builtin;refine zah rfl (.tmp 93) (.tmp 100) 87 rfl base 22 1 24 Tryz.underlying87 eSl (.slice gA (x+y) gc) (x+y) ts rr (by exact zaf HGS4.out.own ((Below.refl _ w4).alloc lr _)) (some ⟨w4.heap.size,0,none⟩) 1 1 [.slice A4 (ns y+40) c4] rr (by exact RdS.new w4 _ [.slice A4 (ns y+40) c4] 1 rfl) (by intro u hu;simp at hu;subst hu;rfl) om om (by exact(HST4.out.alloc _).hi) ?_;intro A5 c5 w5 hown5 hc5 hg5 hat5;have HST5:=qh ((HST4.out.alloc _).pushed (HGS4.out.step (MStep.alloc _ O4 _)) hg5);have HGS5:Hid (GS base L x ns w5 O4 (x+y+1) (.slice A5 (x+y+1) c5) (ts++[.slice A4 (lenG ns x (x+y)) c4])):=(HGS4.out.step (MStep.alloc _ O4 _)).push (HST4.out.alloc _).ms (HST4.out.alloc _).lst.lt (by rw[HLG.out,HXM.out];exact(MStep.alloc _ O4 _).keep _ _ _ _ HTR4.out) (by rw[HLG.out];exact hown5) hg5 hat5;clear hown5 hg5 hat5))
             go_roundg (x-(y+1))
             case measure=>have:=HGK3.out;omega
             case rel=>exact⟨y+1,O4,_,_,by omega,rfl,by go_num,rfl,HST5.out,HGS5.out⟩
        · obtain rfl:y=x:=om
          have hly2:¬(y:Int)<(y:Int):=om;obtain⟨gA,gc,hgv,_⟩:=zeh HGS.out.own;subst hgv
          go_wp2_with fail
          go_loopg [12] (y+y) (fun kk q wr=>∃m:Nat,m≤y+y∧kk=y+y-m∧q=.int .i64 (m:Int)∧ST base w0 L y vs ns wr O ns∧GS base L y ns wr O (y+y) (.slice gA (y+y) gc) ts)
          case atStart=>exact⟨0,by omega,rfl,rfl,HST.out,HGS.out⟩
          case round =>
           clear HST HGS;obtain⟨m,hm,hgk4,rfl,hst,hgs⟩:=hrel;have HGK4:=qh hgk4;have HST:=qh hst;have HGS:=qh hgs;clear hgk4 hst hgs
           by_cases hlm:m<y+y
           · have hlm2:(m:Int)<(y:Int)+(y:Int):=om
             have hm0:(0:Int)≤(m:Int):=om
             go_wp2_with fail
             go_loopg [13] (lenG ns y m) (fun kk q wr=>∃j:Nat,j≤lenG ns y m∧kk=lenG ns y m-j∧q=.int .i64 (j:Int)∧ST base w0 L y vs ns wr O ns∧GS base L y ns wr O (y+y) (.slice gA (y+y) gc) ts)
             case atStart=>exact⟨0,by omega,rfl,rfl,HST.out,HGS.out⟩
             case round =>
              clear HST HGS;obtain⟨j,hj,hjk,rfl,hst,hgs⟩:=hrel;have HJK:=qh hjk;have HST:=qh hst;have HGS:=qh hgs;clear hjk hst hgs;obtain⟨A1,c1,ets,htr⟩:=HGS.out.each m hlm;obtain⟨gg,rfl,_⟩:=ztr HGS.out.own om;have cg:wr.cell? ⟨gg,m,none⟩=some (.slice A1 (lenG ns y m) c1):=(HGS.out.own.cellAt m om).trans ets
              have hlb:lenG ns y m≤140737488355040:=by
               unfold lenG
               split
               · have:=HNS.out m om;omega
               · have:=HNS.out (m-y) om;omega
              have hlb0:(0:Int)≤(lenG ns y m:Int):=om
              by_cases hlj:j<lenG ns y m
              · have hlj2:(j:Int)<(lenG ns y m:Int):=om
                have hj0:(0:Int)≤(j:Int):=om
                obtain⟨g2,cap,hv⟩:∃g2 cap,Value.slice A1 (lenG ns y m) c1=.slice (some ⟨g2,0,none⟩) (lenG ns y m) cap:=by
                 rcases htr.form with ⟨h,h0⟩|⟨g2,cap,h,_⟩
                 · omega
                 · exact⟨g2,cap,h⟩
                injection hv with e1 _ e2
                subst e1;subst e2;obtain⟨r,hr⟩:=ex9 (m%y);have hr100:r≤100:=by rw[hr];have:=Nat.mod_lt m hk0;omega
                have hrm:(m:Int).tmod (y:Int)=(r:Int):=by rw[Int.tmod_eq_emod_of_nonneg hm0,hr];rfl
                have cx:wr.cell? ⟨g2,j,none⟩=some (.int .u8 (mrk r j).toNat):=by rw[hr];exact htr.mark hlj
                have HMQ:=qh (fun W n=>zvi r j om om W n);have hne:(((mrk r j).toNat:Int) != ((mrk r j).toNat:Int))=false:=by simp
                have hy0:((y:Int) == 0)=false:=by rw[beq_eq_false_iff_ne];omega
                have hy1:¬(y:Int)=0:=om;clear htr ets hr;generalize ((mrk r j).toNat:Int)=MV at *
                go_upto_region 33 with fail
                go_quiet ((go_at_call 65;(with_reducible exact HMQ.out _ _)))
                clear hrm
                go_wp2_with fail
                go_roundg (lenG ns y m-(j+1))
                case measure=>have:=HJK.out;omega
                case rel=>exact⟨j+1,by omega,rfl,by go_num,HST.out.drewN _,HGS.out.drewN _⟩
              · obtain rfl:j=lenG ns y m:=om
                have hlj2:¬(lenG ns y m:Int)<(lenG ns y m:Int):=om;clear htr ets
                go_wp2_with fail
                go_roundg (y+y-(m+1))
                case measure=>have:=HGK4.out;omega
                case rel=>exact⟨m+1,by omega,rfl,by go_num,HST.out,HGS.out⟩
           · obtain rfl:m=y+y:=om
             have hlm2:¬((y+y:Nat):Int)<(y:Int)+(y:Int):=om
             go_wp2_with fail
             go_loopg [14] y (fun kk q wr=>∃m:Nat,m≤y∧kk=y-m∧q=.int .i64 (m:Int)∧ST base w0 L y vs ns wr O ns)
             case atStart=>exact⟨0,by omega,rfl,rfl,HST.out⟩
             case round =>
              clear HST HGS;obtain⟨m,hm,hgk5,rfl,hst⟩:=hrel;have HGK5:=qh hgk5;have HST:=qh hst;clear hgk5 hst
              by_cases hlm:m<y
              · have hlm2:(m:Int)<(y:Int):=om
                have hm0:(0:Int)≤(m:Int):=om
                go_wp2_with fail
                go_loopg [15] (ns m) (fun kk q wr=>∃j:Nat,j≤ns m∧kk=ns m-j∧q=.int .i64 (j:Int)∧ST base w0 L y vs ns wr O ns)
                case atStart=>exact⟨0,by omega,rfl,rfl,HST.out⟩
                case round =>
                 clear HST;obtain⟨j,hj,hjk,rfl,hst⟩:=hrel;have HJK:=qh hjk;have HST:=qh hst;clear hjk hst;obtain⟨A1,c1,hcl,htr⟩:=HST.out.at_ hlm;have hlb:=HNS.out m hlm;have hlb0:(0:Int)≤(ns m:Int):=om
                 by_cases hlj:j<ns m
                 · have hlj2:(j:Int)<(ns m:Int):=om
                   have hj0:(0:Int)≤(j:Int):=om
                   obtain⟨g2,cap,hv⟩:∃g2 cap,Value.slice A1 (ns m) c1=.slice (some ⟨g2,0,none⟩) (ns m) cap:=by
                    rcases htr.form with ⟨h,h0⟩|⟨g2,cap,h,_⟩
                    · omega
                    · exact⟨g2,cap,h⟩
                   injection hv with e1 _ e2
                   subst e1;subst e2;have cx:wr.cell? ⟨g2,j,none⟩=some (.int .u8 (mrk m j).toNat):=htr.mark hlj;have HMQ:=qh (fun W n=>zvi m j om om W n);have hne:(((mrk m j).toNat:Int) != ((mrk m j).toNat:Int))=false:=by simp
                   clear htr;generalize ((mrk m j).toNat:Int)=MV at *
                   go_upto_region 41 with fail
                   go_quiet ((go_at_call 65;(with_reducible exact HMQ.out _ _)))
                   go_wp2_with fail
                   go_roundg (ns m-(j+1))
                   case measure=>have:=HJK.out;omega
                   case rel=>exact⟨j+1,by omega,rfl,by go_num,HST.out.drewN _⟩
                 · obtain rfl:j=ns m:=om
                   have hlj2:¬(ns m:Int)<(ns m:Int):=om;clear htr
                   go_wp2_with fail
                   go_roundg (y-(m+1))
                   case measure=>have:=HGK5.out;omega
                   case rel=>exact⟨m+1,by omega,rfl,by go_num,HST.out⟩
              · obtain rfl:m=y:=om
                have hlm2:¬(m:Int)<(m:Int):=om
                go_wp2_with fail
                go_ret;exact⟨rfl,HST.out.ms.below⟩
end
theorem Tr.of_own{w:World}{O:Own}{base i n c:Nat}{A:Option Addr}{xs:List UInt8}(h:w.ownsRow base 5 1 (.slice A n c) n (u8s xs))(hO:∀g,Value.ownBlock (.slice A n c)=some g→O g=some i):Tr w O i (.slice A n c) n 0:=by
 refine⟨Nat.zero_le _,?_⟩;have hxl:xs.length=n:=by have:=h.1;rw[zaa]at this;omega
 rcases h.2 with ⟨h1,h0⟩|⟨g,cap,cur,hv,_,hg,hnc,hcm,hcs,htake⟩
 · exact .inl ⟨h1,h0⟩
 · refine .inr ⟨g,cap,cur.toList,hv,hO g (by rw[hv];rfl),by unfold Blk;simpa using hg,hnc,by simpa using hcs,hcm,fun j hj=>?_,fun j hj=>absurd hj om⟩
   have h5:(cur.toList.take (n*1))[j]? = (u8s xs)[j]?:=by rw[htake]
   rw[List.getElem?_take,if_pos om,u8s_getElem?,ge9 (show j<xs.length by omega)]at h5;exact⟨_,h5⟩
theorem ST.make{base:Nat}{w0 w:World}{L k:Nat}{vs:List Value}{ns:Nat→Nat}(hb:Below base w0 w)(hi:base≤w.heap.size)(hL:Blk w L 22 vs)
 (hv:∀i,i<k→∃A c xs,vs[i]? = some (.slice A (ns i) c)∧w.ownsRow base 5 1 (.slice A (ns i) c) (ns i) (u8s xs)∧(∀g,Value.ownBlock (.slice A (ns i) c)=some g→g≠L))
 (hd:∀i j g A c A' c',i<k→j<k→vs[i]? = some (.slice A (ns i) c)→vs[j]? = some (.slice A' (ns j) c')→Value.ownBlock (.slice A (ns i) c)=some g→Value.ownBlock (.slice A' (ns j) c')=some g→i=j):∃O,ST base w0 L k vs ns w O (fun _=>0):=by
 refine⟨fun g=>(List.range k).find? (fun i=>decide ((vs[i]?.bind Value.ownBlock)=some g)),?_⟩
 have hO:∀g i,(List.range k).find? (fun i=>decide ((vs[i]?.bind Value.ownBlock)=some g))=some i→i<k∧(vs[i]?.bind Value.ownBlock)=some g:=fun g i h=>by
  have h1:=List.find?_some h;have h2:=List.mem_of_find?_eq_some h;exact⟨List.mem_range.1 h2,by simpa using h1⟩
 have hlt:∀g i,(List.range k).find? (fun i=>decide ((vs[i]?.bind Value.ownBlock)=some g))=some i→base≤g∧g<w.heap.size∧g≠L:=fun g i h=>by
  obtain⟨h1,h2⟩:=hO g i h;obtain⟨A,c,xs,e,ho,hne⟩:=hv i h1;rw[e]at h2;exact⟨(ho.lt g h2).1,(ho.lt g h2).2,hne g h2⟩
 refine⟨⟨fun g hg=>?_,fun g i h=>(hlt g i h).1,hb⟩,hi,hL,?_,fun i hik=>?_⟩
 · cases h:(List.range k).find? (fun i=>decide ((vs[i]?.bind Value.ownBlock)=some g))with
   | none=>rfl
   | some i=>have:=(hlt g i h).2.1;omega
 · cases h:(List.range k).find? (fun i=>decide ((vs[i]?.bind Value.ownBlock)=some L))with
   | none=>rfl
   | some i=>exact absurd rfl (hlt L i h).2.2
 · obtain⟨A,c,xs,e,ho,_⟩:=hv i hik
   refine⟨A,c,e,Tr.of_own ho fun g hg=>?_⟩
   cases h:(List.range k).find? (fun i=>decide ((vs[i]?.bind Value.ownBlock)=some g))with
   | none =>
    have:=List.find?_eq_none.1 h i (List.mem_range.2 hik);rw[e]at this;exact absurd hg (by simpa using this)
   | some j =>
    obtain⟨h1,h2⟩:=hO g j h;obtain⟨A',c',xs',e',_,_⟩:=hv j h1;rw[e']at h2;rw[hd i j g A c A' c' hik h1 e e' hg h2]
theorem apartP{base:Nat}{w0 w:World}(hb:Below base w0 w)(hi:base≤w.heap.size){A0 A1 A2 A3 A4:Option Addr}{n0 n1 n2 n3 n4 c0 c1 c2 c3 c4:Nat}{x0 x1 x2 x3 x4:List UInt8}
 (h0:w.ownsRow base 5 1 (.slice A0 n0 c0) n0 (u8s x0)) (h1:w.ownsRow base 5 1 (.slice A1 n1 c1) n1 (u8s x1)) (h2:w.ownsRow base 5 1 (.slice A2 n2 c2) n2 (u8s x2)) (h3:w.ownsRow base 5 1 (.slice A3 n3 c3) n3 (u8s x3)) (h4:w.ownsRow base 5 1 (.slice A4 n4 c4) n4 (u8s x4))
 (d01:∀g,Value.ownBlock (.slice A0 n0 c0)=some g→Value.ownBlock (.slice A1 n1 c1)=some g→False) (d02:∀g,Value.ownBlock (.slice A0 n0 c0)=some g→Value.ownBlock (.slice A2 n2 c2)=some g→False) (d03:∀g,Value.ownBlock (.slice A0 n0 c0)=some g→Value.ownBlock (.slice A3 n3 c3)=some g→False) (d04:∀g,Value.ownBlock (.slice A0 n0 c0)=some g→Value.ownBlock (.slice A4 n4 c4)=some g→False) (d12:∀g,Value.ownBlock (.slice A1 n1 c1)=some g→Value.ownBlock (.slice A2 n2 c2)=some g→False) (d13:∀g,Value.ownBlock (.slice A1 n1 c1)=some g→Value.ownBlock (.slice A3 n3 c3)=some g→False) (d14:∀g,Value.ownBlock (.slice A1 n1 c1)=some g→Value.ownBlock (.slice A4 n4 c4)=some g→False) (d23:∀g,Value.ownBlock (.slice A2 n2 c2)=some g→Value.ownBlock (.slice A3 n3 c3)=some g→False) (d24:∀g,Value.ownBlock (.slice A2 n2 c2)=some g→Value.ownBlock (.slice A4 n4 c4)=some g→False) (d34:∀g,Value.ownBlock (.slice A3 n3 c3)=some g→Value.ownBlock (.slice A4 n4 c4)=some g→False)
 (hn:n0≤140737488355000∧n1≤140737488355000∧n2≤140737488355000∧n3≤140737488355000∧n4≤140737488355000):
 Calls Tryz.prog 35 #[.slice (some ⟨w.heap.size,0,none⟩) 5 5] (w.alloc (.cells #[.slice A0 n0 c0,.slice A1 n1 c1,.slice A2 n2 c2,.slice A3 n3 c3,.slice A4 n4 c4] 22)) fun e w'=>e=.returned (.bool true)∧Below base w0 w':=by
 have hB:=(Below.refl w.heap.size w).alloc lr (.cells #[.slice A0 n0 c0,.slice A1 n1 c1,.slice A2 n2 c2,.slice A3 n3 c3,.slice A4 n4 c4] 22);have hne:∀ {A:Option Addr} {n c:Nat} {x:List UInt8},w.ownsRow base 5 1 (.slice A n c) n (u8s x)→∀g,Value.ownBlock (.slice A n c)=some g→g≠w.heap.size:=fun h g hg=>by have:=(h.lt g hg).2;omega
 obtain ⟨O,hst⟩:=ST.make (k:=5) (ns:=fun i=>match i with|0=>n0|1=>n1|2=>n2|3=>n3|_=>n4) (vs:=[.slice A0 n0 c0,.slice A1 n1 c1,.slice A2 n2 c2,.slice A3 n3 c3,.slice A4 n4 c4]) (hb.alloc hi (.cells #[.slice A0 n0 c0,.slice A1 n1 c1,.slice A2 n2 c2,.slice A3 n3 c3,.slice A4 n4 c4] 22)) (Nat.le_trans hi hB.size) (Blk.new w _ _)
   (fun i hi5=>by
    rcases (show i=0∨i=1∨i=2∨i=3∨i=4 by omega)with rfl|rfl|rfl|rfl|rfl
    · exact⟨A0,c0,x0,rfl,zaf h0 hB,hne h0⟩
    · exact⟨A1,c1,x1,rfl,zaf h1 hB,hne h1⟩
    · exact⟨A2,c2,x2,rfl,zaf h2 hB,hne h2⟩
    · exact⟨A3,c3,x3,rfl,zaf h3 hB,hne h3⟩
    · exact⟨A4,c4,x4,rfl,zaf h4 hB,hne h4⟩)
   (fun i j g A c A' c' hi5 hj5 e e' hg hg'=>by
    have key:∀i,i<5→∀A c,([.slice A0 n0 c0,.slice A1 n1 c1,.slice A2 n2 c2,.slice A3 n3 c3,.slice A4 n4 c4]:List Value)[i]? = some (.slice A ((fun i=>match i with|0=>n0|1=>n1|2=>n2|3=>n3|_=>n4) i) c)→Value.ownBlock (.slice A ((fun i=>match i with|0=>n0|1=>n1|2=>n2|3=>n3|_=>n4) i) c)=some g →
        (i=0∧Value.ownBlock (.slice A0 n0 c0)=some g)∨(i=1∧Value.ownBlock (.slice A1 n1 c1)=some g)∨(i=2∧Value.ownBlock (.slice A2 n2 c2)=some g)∨(i=3∧Value.ownBlock (.slice A3 n3 c3)=some g)∨(i=4∧Value.ownBlock (.slice A4 n4 c4)=some g):=fun i hi A c e hg=>by
     rcases (show i=0∨i=1∨i=2∨i=3∨i=4 by omega)with rfl|rfl|rfl|rfl|rfl <;> (injection e with e;rw[←e]at hg)
     · exact .inl ⟨rfl,hg⟩
     · exact .inr (.inl ⟨rfl,hg⟩)
     · exact .inr (.inr (.inl ⟨rfl,hg⟩))
     · exact .inr (.inr (.inr (.inl ⟨rfl,hg⟩)))
     · exact .inr (.inr (.inr (.inr ⟨rfl,hg⟩)))
    rcases key i hi5 A c e hg with ⟨rfl,k1⟩|⟨rfl,k1⟩|⟨rfl,k1⟩|⟨rfl,k1⟩|⟨rfl,k1⟩ <;> rcases key j hj5 A' c' e' hg' with ⟨rfl,k2⟩|⟨rfl,k2⟩|⟨rfl,k2⟩|⟨rfl,k2⟩|⟨rfl,k2⟩ <;>
      first|rfl|exact(d01 g k1 k2).elim|exact(d01 g k2 k1).elim|exact(d02 g k1 k2).elim|exact(d02 g k2 k1).elim|exact(d03 g k1 k2).elim|exact(d03 g k2 k1).elim|exact(d04 g k1 k2).elim|exact(d04 g k2 k1).elim|exact(d12 g k1 k2).elim|exact(d12 g k2 k1).elim|exact(d13 g k1 k2).elim|exact(d13 g k2 k1).elim|exact(d14 g k1 k2).elim|exact(d14 g k2 k1).elim|exact(d23 g k1 k2).elim|exact(d23 g k2 k1).elim|exact(d24 g k1 k2).elim|exact(d24 g k2 k1).elim|exact(d34 g k1 k2).elim|exact(d34 g k2 k1).elim)
 exact zsd base w0 w.heap.size 5 5 _ _ _ O hst rfl om om (fun i hi5=>by
  rcases (show i=0∨i=1∨i=2∨i=3∨i=4 by omega)with rfl|rfl|rfl|rfl|rfl
  · exact hn.1
  · exact hn.2.1
  · exact hn.2.2.1
  · exact hn.2.2.2.1
  · exact hn.2.2.2.2)
end Go.Proofs.YtpgpaenloaphaaaGreat
