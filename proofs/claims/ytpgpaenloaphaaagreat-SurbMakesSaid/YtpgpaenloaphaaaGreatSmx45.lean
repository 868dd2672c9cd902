/- Part of the proof. -/
import Derived.Test.YtpgpaenloaphaaaGreatSmx24
import Derived.Test.YtpgpaenloaphaaaGreatSmx44
set_option maxRecDepth 100000
set_option maxHeartbeats 0
namespace Go.Proofs.YtpgpaenloaphaaaGreat
open Go.RowKit
section
theorem zea{α:Type}(zs:List α):∀c,(List.replicate c zs).flatten.length=c*zs.length
 | 0=>by simp
 | c+1=>by rw[List.replicate_succ,List.flatten_cons,la9,zea zs c,Nat.succ_mul];omega
theorem zeh{α:Type}(zs:List α)(h:0<zs.length):∀(c i:Nat),i<c*zs.length→(List.replicate c zs).flatten[i]? = zs[i%zs.length]?
 | 0,i,hi=>by simp at hi
 | c+1,i,hi=>by
  rw[List.replicate_succ,List.flatten_cons]
  rcases Nat.lt_or_ge i zs.length with h1|h1
  · rw[ll9 h1,Nat.mod_eq_of_lt h1]
  · rw[ar9 h1,zeh zs h c _ (by rw[Nat.succ_mul]at hi;omega),Nat.mod_eq_sub_mod h1]
theorem zhe(zs:List Value)(h:0<zs.length)(c:Nat):madeCells zs.toArray (c*zs.length)=((List.replicate c zs).flatten).toArray:=by
 apply Array.ext'
 apply List.ext_getElem?
 intro i
 unfold madeCells
 simp only[Array.toList_map,Array.toList_range,List.size_toArray];rw[List.getElem?_map]
 by_cases hi:i<c*zs.length
 · have hm:i%zs.length<zs.length:=Nat.mod_lt _ h
   rw[List.getElem?_range hi,zeh zs h c i hi]
   simp[hm]
 · rw[List.getElem?_eq_none (by simpa using hi),List.getElem?_eq_none (by rw[zea];omega)]
   rfl
section
variable{P:Program}{w:World}{ops:Array Oper}{rest:List Oper}{o:Oper}{a:Act}{K:Act→World→Prop}{Q:Exit→Act→World→Prop}
theorem zsu(x y:Operand)(t:TypeId)(ho:o.op=.makeSlice t x y)(e:TypeId)(z:Value)(bytes sz:Nat)(zs:List Value)(ht:P.underlying t=some (.slice e))(hi:(P.info? e).map (fun i=>(i.zero,i.size,i.bytes))=some (some z,sz,bytes))(hz:z.cells=zs.toArray)(hzl:zs.length=sz)(hsz:0<sz)
 (kl kc:IntKind) (ln lc:Int) (hx:a.eval x=.int kl ln) (hy:a.eval y=.int kc lc) (n c:Nat) (hn:ln=n) (hc:lc=c) (hnc:n≤c) (hbytes:bytes*c≤281474976710656) (h63:c≤140737488355328)
 (h:∀w',Blk w' w.heap.size e (List.replicate c zs).flatten→w.grownBy w' none→w'.heap.size=w.heap.size+1→K (a.put o.dst (.slice (some ⟨w.heap.size,0,none⟩) n c)) w'):o.wp P a w K Q:=by
 subst hn;subst hc;subst hzl
 cases hq:P.info? e with
 | none=>simp[hq]at hi
 | some i =>
  simp[hq]at hi
  obtain⟨hz0,hz1,hz2⟩:=hi;subst hz2
  have hr:=run_make (P:=P) w t e i z ht hq hz0 kl kc n c om om (by
   have h:((i.bytes*c:Nat):Int)≤281474976710656:=om
   rwa [Int.natCast_mul]at h) om
  rw[hz1,hz]at hr;simp only[Int.toNat_natCast]at hr;rw[zhe _ hsz]at hr;refine zci (v:=.slice (some ⟨w.heap.size,0,none⟩) n c) ?_ (h (w.alloc (.cells (List.replicate c zs).flatten.toArray e)) (Blk.new' rfl rfl) (World.grownBy_alloc w _ none) sy)
  unfold execOp
  simp only[ho,hx,hy,Sem.run_bind,hr,Sem.run_pure,Result.andThen_ok]
theorem zkb(hgd:o.guard=none)(x y:Operand)(t:TypeId)(ho:o.op=.makeSlice t x y)(e:TypeId)(z:Value)(bytes sz:Nat)(zs:List Value)(ht:P.underlying t=some (.slice e))(hi:(P.info? e).map (fun i=>(i.zero,i.size,i.bytes))=some (some z,sz,bytes))(hz:z.cells=zs.toArray)(hzl:zs.length=sz)(hsz:0<sz)
 (kl kc:IntKind) (ln lc:Int) (hx:a.eval x=.int kl ln) (hy:a.eval y=.int kc lc) (n c:Nat) (hn:ln=n) (hc:lc=c) (hnc:n≤c) (hbytes:bytes*c≤281474976710656) (h63:c≤140737488355328)
 (h:∀w',Blk w' w.heap.size e (List.replicate c zs).flatten→w.grownBy w' none→w'.heap.size=w.heap.size+1→wpList P ops Q rest (a.put o.dst (.slice (some ⟨w.heap.size,0,none⟩) n c)) w'):wpList P ops Q (o :: rest) a w :=
 zb1 hgd fun _ hK=>zsu x y t ho e z bytes sz zs ht hi hz hzl hsz kl kc ln lc hx hy n c hn hc hnc hbytes h63 fun w' h1 h2 h3=>hK _ _ (h w' h1 h2 h3)
end
def zcmc:List Value:=Cm.zero.cells
theorem iCm:(Tryz.prog.info? 47).map (fun i=>(i.zero,i.size,i.bytes))=some (some (.agg Cm.zero.cells.toArray),20,32):=by kernel_rfl
def cm1:Cm:=⟨1,0,0,0,List.replicate 16 0⟩
theorem zsq(w:World):(Instr.build 47 #[(0,.int .u8 1)]).run Tryz.prog w=.ok (.agg cm1.cells.toArray) w:=by kernel_rfl
def pathB(last:Cm)(hs:List Ho)(k:Nat):List Value:=((List.range k).map (pathC last hs)).flatMap Cm.cells++(List.replicate (hs.length-k) Cm.zero.cells).flatten
end
def TwoV(B G T:Nat)(w:World)(v10 v11:Value)(n10 n11:Nat)(acc:List Value)(sc:List (List UInt8))(vs:List Value):Prop :=
 w.ownsRow B T 192 v10 n10 acc∧w.ownsRow B 22 1 v11 n11 vs∧sc.length=vs.length∧(∀b,v10.ownBlock=some b→v11.ownBlock≠some b) ∧
   ∀(i:Nat) (v:Value),vs[i]? = some v→∃l A c,v=.slice A 32 c∧32≤c∧sc[i]? = some l∧Rd w A 32 (u8s l)∧∀ad,A=some ad→ad.block<w.heap.size∧ad.block≠G∧v10.ownBlock≠some ad.block∧v11.ownBlock≠some ad.block
def Two(B G T:Nat)(w:World)(v10 v11:Value)(n10 n11:Nat)(acc:List Value)(sc:List (List UInt8)):Prop:=∃vs:List Value,TwoV B G T w v10 v11 n10 n11 acc sc vs
theorem Rd.blk_lt{w:World}{A:Option Addr}{n:Nat}{xs:List Value}(h:Rd w A n xs)(hn:0<n):∀ad,A=some ad→ad.block<w.heap.size:=by
 intro ad e;obtain⟨b,off,e2,hb,_⟩:=h.2 hn;rw[e2]at e
 injection e with e
 subst e;exact hb
theorem Rd.grownR{w w':World}{A:Option Addr}{n:Nat}{xs:List Value}{row:Option Nat}(h:Rd w A n xs)(hg:w.grownBy w' row)(hne:∀ad,A=some ad→row≠some ad.block):Rd w' A n xs:=by
 refine⟨h.1,fun hn=>?_⟩;obtain⟨b,off,e,hb,hc⟩:=h.2 hn;refine⟨b,off,e,Nat.lt_of_lt_of_le hb hg.size,fun j u hu=>?_⟩;exact hg.cell (hc j u hu) (fun e2=>hne _ e e2.symm)
theorem Two.below{B G T:Nat}{w w':World}{v10 v11:Value}{n10 n11:Nat}{acc:List Value}{sc:List (List UInt8)}(h:Two B G T w v10 v11 n10 n11 acc sc)(hB:Below w.heap.size w w'):Two B G T w' v10 v11 n10 n11 acc sc:=by
 obtain⟨vs,h1,h2,h3,h4,h5⟩:=h;refine⟨vs,zau h1 hB,zau h2 hB,h3,h4,fun i v hv=>?_⟩;obtain⟨l,A,c,e,hc,hl,hr,ha⟩:=h5 i v hv;exact⟨l,A,c,e,hc,hl,hr.below hB,fun ad e2=>⟨Nat.lt_of_lt_of_le (ha ad e2).1 hB.size,(ha ad e2).2⟩⟩
theorem Two.only{B G T:Nat}{w w':World}{v10 v11:Value}{n10 n11:Nat}{acc:List Value}{sc:List (List UInt8)}(h:Two B G T w v10 v11 n10 n11 acc sc)(ho:Only w w' G)(hG:G<B):Two B G T w' v10 v11 n10 n11 acc sc:=by
 obtain⟨vs,h1,h2,h3,h4,h5⟩:=h;refine⟨vs,zc3 h1 ho (fun k hk=>by have:=(h1.lt k hk).1;omega),zc3 h2 ho (fun k hk=>by have:=(h2.lt k hk).1;omega),h3,h4,fun i v hv=>?_⟩;obtain⟨l,A,c,e,hc,hl,hr,ha⟩:=h5 i v hv;exact⟨l,A,c,e,hc,hl,ho.rd hr (fun ad e2=>(ha ad e2).2.1),fun ad e2=>⟨Nat.lt_of_lt_of_le (ha ad e2).1 ho.grown.size,(ha ad e2).2⟩⟩
theorem Two.rdB{B G T:Nat}{w:World}{v10:Value}{A11:Option Addr}{n10 n11 c11:Nat}{acc:List Value}{sc:List (List UInt8)}(h:Two B G T w v10 (.slice A11 n11 c11) n10 n11 acc sc):RdB w A11 n11 sc:=by
 obtain⟨vs,_,h2,h3,_,h5⟩:=h;have hr:=Rd.of_own h2;refine⟨vs,hr,by rw[h3,hr.1],fun i v hv=>?_⟩;obtain⟨l,A,c,e,hc,hl,hr,_⟩:=h5 i v hv;exact⟨l,hl,A,32,c,e,hc,hr⟩
theorem Two.own10{B G T:Nat}{w:World}{v10 v11:Value}{n10 n11:Nat}{acc:List Value}{sc:List (List UInt8)}(h:Two B G T w v10 v11 n10 n11 acc sc):w.ownsRow B T 192 v10 n10 acc:=by
 obtain⟨vs,h1,_⟩:=h;exact h1
theorem Two.own11{B G T:Nat}{w:World}{v10 v11:Value}{n10 n11:Nat}{acc:List Value}{sc:List (List UInt8)}(h:Two B G T w v10 v11 n10 n11 acc sc):∃vs,w.ownsRow B 22 1 v11 n11 vs:=by
 obtain⟨vs,_,h2,_⟩:=h;exact⟨vs,h2⟩
theorem Two.app10{B G T:Nat}{w w':World}{v10 v11 v':Value}{n10 n11 n':Nat}{acc acc':List Value}{sc:List (List UInt8)}(h:Two B G T w v10 v11 n10 n11 acc sc)(ho:w'.ownsRow B T 192 v' n' acc')(hg:w.grownBy w' v10.ownBlock)(hat:v'.ownBlock=v10.ownBlock∨v'.ownBlock=some w.heap.size):
 Two B G T w' v' v11 n' n11 acc' sc:=by
 obtain⟨vs,h1,h2,h3,h4,h5⟩:=h;have hlt:∀b,v11.ownBlock=some b→b<w.heap.size:=fun b hb=>(h2.lt b hb).2
 refine⟨vs,ho,h2.kept hg ?_,h3,?_,fun i v hv=>?_⟩
 · cases hv:v11.ownBlock with
   | none=>exact .inl rfl
   | some k=>exact .inr (fun e=>h4 k e.symm hv)
 · intro b hb hb2
   rcases hat with e|e
   · exact h4 b (e ▸ hb) hb2
   · rw[e]at hb
     injection hb with hb
     subst hb;exact absurd (hlt _ hb2) (Nat.lt_irrefl _)
 · obtain⟨l,A,c,e,hc,hl,hr,ha⟩:=h5 i v hv
   refine⟨l,A,c,e,hc,hl,hr.grownR hg (fun ad e2=>(ha ad e2).2.2.1),fun ad e2=>?_⟩;obtain⟨a1,a2,a3,a4⟩:=ha ad e2;refine⟨Nat.lt_of_lt_of_le a1 hg.size,a2,fun e3=>?_,a4⟩
   rcases hat with e|e
   · exact a3 (e ▸ e3)
   · rw[e]at e3
     injection e3 with e3
     omega
theorem Two.app11{B G T:Nat}{w w':World}{v10 v11 v':Value}{n10 n11 n' c:Nat}{A:Option Addr}{acc:List Value}{vs:List Value}{sc:List (List UInt8)}{l:List UInt8}(h:TwoV B G T w v10 v11 n10 n11 acc sc vs)
 (ho:w'.ownsRow B 22 1 v' n' (vs++[.slice A 32 c])) (hg:w.grownBy w' v11.ownBlock) (hat:v'.ownBlock=v11.ownBlock∨v'.ownBlock=some w.heap.size)
 (hc:32≤c) (hr:Rd w A 32 (u8s l)) (ha:∀ad,A=some ad→ad.block≠G∧v10.ownBlock≠some ad.block∧v11.ownBlock≠some ad.block):Two B G T w' v10 v' n10 n' acc (sc++[l]):=by
 obtain⟨h1,h2,h3,h4,h5⟩:=h;have hlt:∀b,v10.ownBlock=some b→b<w.heap.size:=fun b hb=>(h1.lt b hb).2
 refine⟨vs++[.slice A 32 c],h1.kept hg ?_,ho,by simp[h3],?_,fun i v hv=>?_⟩
 · cases hv:v10.ownBlock with
   | none=>exact .inl rfl
   | some k=>exact .inr (fun e=>h4 k hv e.symm)
 · intro b hb hb2
   rcases hat with e|e
   · exact h4 b hb (e ▸ hb2)
   · rw[e]at hb2
     injection hb2 with hb2
     subst hb2;exact absurd (hlt _ hb) (Nat.lt_irrefl _)
 · have hne:∀ad:Addr,ad.block<w.heap.size→v11.ownBlock≠some ad.block→v'.ownBlock≠some ad.block:=fun ad a1 a4 e3=>by
    rcases hat with e|e
    · exact a4 (e ▸ e3)
    · rw[e]at e3
      injection e3 with e3
      omega
   rcases Nat.lt_or_ge i vs.length with hi|hi
   · rw[ll9 hi]at hv
     obtain⟨l',A',c',e,hc',hl',hr',ha'⟩:=h5 i v hv;refine⟨l',A',c',e,hc',by rw[ll9 (by rw[h3];exact hi)];exact hl',hr'.grownR hg (fun ad e2=>(ha' ad e2).2.2.2),fun ad e2=>?_⟩;obtain⟨a1,a2,a3,a4⟩:=ha' ad e2;exact⟨Nat.lt_of_lt_of_le a1 hg.size,a2,a3,hne ad a1 a4⟩
   · rw[ar9 hi]at hv
     have hi0:i-vs.length=0:=by
      have:=(gi9.1 hv).1
      simp at this
      omega
     rw[hi0]at hv;simp only[List.getElem?_cons_zero,Option.some.injEq]at hv;subst hv;refine⟨l,A,c,rfl,hc,by rw[ar9 (by rw[h3];exact hi),h3,hi0];rfl,hr.grownR hg (fun ad e2=>(ha ad e2).2.2),fun ad e2=>?_⟩;have a1:=hr.blk_lt om ad e2;exact⟨Nat.lt_of_lt_of_le a1 hg.size,(ha ad e2).1,(ha ad e2).2.1,hne ad a1 (ha ad e2).2.2⟩
theorem Two.fresh{B G T:Nat}{w:World}{v10 v11:Value}{n10 n11:Nat}{acc:List Value}{sc:List (List UInt8)}(h:Two B G T w v10 v11 n10 n11 acc sc)(hG:G<w.heap.size)(o:Nat):∀ad:Addr,(some ⟨w.heap.size,o,none⟩:Option Addr)=some ad→ad.block≠G∧v10.ownBlock≠some ad.block∧v11.ownBlock≠some ad.block:=by
 intro ad e
 injection e with e
 subst e;obtain⟨vs,h1,h2,_⟩:=h;refine⟨by show w.heap.size≠_;omega,fun e2=>?_,fun e2=>?_⟩
 · exact absurd (h1.lt _ e2).2 (Nat.lt_irrefl _)
 · exact absurd (h2.lt _ e2).2 (Nat.lt_irrefl _)
section
attribute [local go_sem ↓] zr1 zb0 zpr
theorem RdS.ofOwn2{w:World}{base n c sz:Nat}{e:TypeId}{A:Option Addr}{xs:List Value}(h:w.ownsRow base e sz (.slice A n c) n xs):RdS sz w A n xs:=by
 refine⟨h.1,fun hn=>?_⟩
 rcases h.2 with ⟨_,h0⟩|⟨g,cap,cur,hv,_,hg,hnc,_,hcs,htake⟩
 · omega
 · injection hv with hA
   subst hA;refine⟨g,0,rfl,(Array.getElem?_eq_some_iff.1 hg).1,fun j u hu=>?_⟩;rw[cell_of_row w g (0+j) cur e (0,0) hg,Nat.zero_add];rw[←htake,List.getElem?_take]at hu
   split at hu
   · simpa using hu
   · cases hu
theorem st32{w:World}{g:Nat}{t:TypeId}{Z X:List Value}(hb:Blk w g t Z)(hz:Z.length=32)(hx:X.length=32)(h1:∀v∈X,v.oneCell'=true):∃w',(stAt 23 (.pointer (some ⟨g,0,none⟩)) (.agg X.toArray)).run Tryz.prog w=.ok () w'∧Only w w' g∧Blk w' g t X:=by
 refine⟨w.setCells g 0 X,zco hb 23 0 X om h1 (by rw[hx];exact hd24),Only.of_setCells w g 0 X,?_⟩;have h:=za0 g t X 0 Z w hb om
 rwa [zap _ _ om]at h
theorem iSp:(Tryz.prog.info? 43).map (fun i=>(i.zero,i.size,i.bytes))=some (some (.agg (u8s (List.replicate 192 0)).toArray),192,192):=by kernel_rfl
theorem eSpz:ElemIs Tryz.prog 43 192 192:=ElemIs.of iSp (by show(u8s (List.replicate 192 0)).toArray.size=192;rw[List.size_toArray,zaa,lp9]) om
theorem zvs(n:Nat):u8s (List.replicate n 0)=List.replicate n (.int .u8 0):=by simp[u8s,u8]
theorem zs6(A C:Option Addr)(n c m d:Nat)(w:World)(h:n≠32∨m<1∨5<m):
 Calls Tryz.prog 54 #[.slice A n c,.slice C m d] w fun e w'=>e=.returned (.tuple #[.slice none 0 0,.int .i64 2])∧w=w':=by
 rcases Decidable.em (n=32)with h1|h1
 · subst h1
   rcases Nat.lt_or_ge m 1 with h2|h2
   · have h3:(m:Int)<1:=om
     clear h
     go_enter Tryz.func54, Tryz.ntmps54
     go_wp2;go_ret2;exact⟨rfl,rfl⟩
   · have h3:¬(m:Int)<1:=om
     have h4:(m:Int)>5:=om;clear h
     go_enter Tryz.func54, Tryz.ntmps54
     go_wp2;go_ret2;exact⟨rfl,rfl⟩
 · have hn:((n:Int) != 32)=true:=by rw[bne_iff_ne];omega
   clear h h1
   go_enter Tryz.func54, Tryz.ntmps54
   go_wp2;go_ret2;exact⟨rfl,rfl⟩
theorem zpy(A C:Option Addr)(c m d:Nat)(xs:List UInt8)(pubs:List (List UInt8))(w:World)(hx:Rd w A 32 (u8s xs))(hc:32≤c)(hp:RdB w C m pubs)(h32:∀p∈pubs,p.length=32)(hm0:1≤m)(hm:m≤5):
 Calls Tryz.prog 54 #[.slice A 32 c,.slice C m d] w fun e w'=>∃A' n' c',e=.returned (.tuple #[.slice A' n' c',.int .i64 ((sch [] [xs] (pubB xs) pubs).2:Int)])∧n'≤c'∧RdS 192 w' A' n' ((sch [] [xs] (pubB xs) pubs).1.flatMap Sp.cells)∧(sch [] [xs] (pubB xs) pubs).1.length=n'∧Below w.heap.size w w':=by
 obtain⟨R,hR⟩:=ex9 (sch [] [xs] (pubB xs) pubs);rw[←hR];have HRR:Hid (sch [] [xs] (pubB xs) pubs=R):=hR.symm;have HX:=qh hx;have HXL:=qh hx.len;have HPB:=qh hp;have H32:=qh h32;have HML:Hid (pubs.length=m):=by obtain⟨_,_,h,_⟩:=hp;exact h
 have HC:=qh hc;have HAL:=qh (hx.blk_lt om);have m1:¬(m:Int)<1:=om;have m5:¬(m:Int)>5:=om;have HPUB:Hid (∀W,Rd W A 32 (u8s xs)→Calls Tryz.prog 87 #[.slice A 32 c] W fun e w'=>e=.returned (.tuple #[.agg (u8s (pubB xs)).toArray,.int .i64 0])∧Below W.heap.size W w'):=fun W h=>zop A c xs W h
 have HGD:Hid (Good (pubB xs)):=zm3 hx.len;have HNL:Hid ((u8s (pubB xs)).length=32):=by show _=_;rw[zaa,HGD.out.len]
 clear hx hp h32 hR hc
 go_enter Tryz.func54, Tryz.ntmps54
 go_wp2
 go_loop [33] (fun q=>∃k:Nat,k≤m∧q=.int .i64 k) (fun q=>m-(intOf q).toNat)
 case atStart=>exact⟨0,Nat.zero_le _,rfl⟩
 case round =>
  obtain⟨k,hkm,rfl⟩:=hrel
  by_cases hlt:k<m
  · have hlt2:(k:Int)<(m:Int):=om
    obtain⟨b,off,A1,n1,c1,l,rfl,hb,hkl,hc,hn1,hr1⟩:=HPB.out.at_ hlt;have hl:=hr1.len;rw[H32.out l (mg9 hkl.out)]at hl;subst hl;clear hr1 hkl;go_wp2
    go_round
    case rel=>exact⟨k+1,by omega,by go_num⟩
    case measure=>simp[intOf];omega
  · obtain rfl:k=m:=om
    have hlt2:¬(k:Int)<(k:Int):=om;have i0:(0:Int)≤(k:Int):=om
    go_wp2_with (first
     | (go_at_call 87;(refine(HPUB.out _ (by exact HX.out)).mono ?_);rintro e w1 ⟨rfl,hB1⟩;have HE1:=qh hB1;clear hB1)
     | (refine zab rfl 23 (.tmp 8) (.tmp 44) rfl w1.heap.size (u8s (pubB xs)) rr rr 23 o32 (by exact Blk.new' rfl rfl) (by rw[HNL.out];exact hd24) (zac _) (by rw[HNL.out];rfl) ?_;intro w2 hb2 ho2;have HE2:=qh (ho2.below (HE1.out.alloc HE1.out.size _) HE1.out.size (Nat.le_trans HE1.out.size sy));have HC2:=qh hb2;clear hb2 ho2)
     | (at_make;refine zfu rfl (.const (.int .i64 0)) (.tmp 50) 116 rfl 43 (.agg (u8s (List.replicate 192 0)).toArray) 192 192 (.int .u8 0) Tryz.underlying116 iSp (by rw[←zvs];rfl) om .i64 .i64 0 (k:Int) rr rr 0 k rfl rfl om om om ?_;intro w3 hb3 hg3 hs3;have HE3:=qh (HE2.out.trans ((zaf hg3).mono HE2.out.size));have HC3:=qh (HC2.out.below (zaf hg3) HC2.out.lt)
        have HO3:Hid (w3.ownsRow (w1.heap.size+1) 43 192 (.slice (some ⟨w2.heap.size,0,none⟩) 0 k) 0 []):=by
         have:=zbi (base:=w1.heap.size+1) hb3 (by have:=HC2.out.lt;omega) 0 k 192 (Nat.zero_le _) (by rw[zar]) om
         rwa [Nat.zero_mul,List.take_zero]at this
        have hs3a:=Nat.le_of_eq hs3.symm
        clear hb3 hg3 hs3))
    have HG2:=qh HE1.out.size
    have HT4:Hid (Two (w1.heap.size+1) w1.heap.size 43 (w3.alloc (.cells #[.slice A 32 c] 22)) (.slice (some ⟨w2.heap.size,0,none⟩) 0 k) (.slice (some ⟨w3.heap.size,0,none⟩) 1 1) 0 1 ([].flatMap Sp.cells) [xs]):=by
     refine⟨[.slice A 32 c],zau HO3.out ((Below.refl _ _).alloc lr _),zbi (Blk.new w3 22 [.slice A 32 c]) (by have:=HC2.out.lt;omega) 1 1 1 lr rfl om,rfl,fun b hb hb2=>?_,fun i v hv=>?_⟩
     · simp only[Value.ownBlock]at hb hb2
       injection hb2 with hb2
       injection hb with hb
       omega
     · have hi:i=0:=by
        have:=(gi9.1 hv).1
        simpa using this
       subst hi;simp only[List.getElem?_cons_zero,Option.some.injEq]at hv;subst hv;refine⟨xs,A,c,rfl,HC.out,rfl,(HX.out.below HE3.out).alloc _,fun ad e=>?_⟩;have h1:=HAL.out ad e;have h2:=HC2.out.lt;have h3:=HG2.out;refine⟨by simp;omega,by omega,fun e2=>?_,fun e2=>?_⟩ <;> (simp only[Value.ownBlock]at e2;injection e2 with e2;omega)
    have HC4:Hid (Blk (w3.alloc (.cells #[.slice A 32 c] 22)) w1.heap.size 23 (u8s (pubB xs))):=HC3.out.alloc _;have HE4:Hid (Below w.heap.size w (w3.alloc (.cells #[.slice A 32 c] 22))):=HE3.out.alloc HE3.out.size _;have HSC0:Hid (∀s∈[xs],s.length=32):=by intro s hs;simp at hs;rw[hs];exact HXL.out
    clear HE1 HE2 HC2 HO3 HE3 HC3 hs3a HPUB
    go_loopg [10,11,56] k (fun kk q10 q11 q wr=>∃(j:Nat) (acc:List Sp) (sc:List (List UInt8)) (al:List UInt8) (A10 A11:Option Addr) (c10 c11:Nat),j<k∧kk=k-j∧q=.int .i64 j∧q10=.slice A10 j c10∧q11=.slice A11 (j+1) c11∧j≤c10∧Hid (sch acc sc al (pubs.drop j)=R)∧Hid (acc.length=j)∧Hid (Good al)∧Hid (∀s∈sc,s.length=32)∧Hid (Two (w1.heap.size+1) w1.heap.size 43 wr (.slice A10 j c10) (.slice A11 (j+1) c11) j (j+1) (acc.flatMap Sp.cells) sc)∧Hid (Blk wr w1.heap.size 23 (u8s al))∧Hid (Below w.heap.size w wr))
    case atStart=>exact⟨0,[],[xs],pubB xs,_,_,_,_,by omega,rfl,rfl,rfl,rfl,Nat.zero_le _,by rw[List.drop_zero];exact HRR,rfl,HGD,HSC0,HT4,HC4,HE4⟩
    case round =>
     clear HC4 HE4 HT4 HSC0 HGD HNL HRR;obtain⟨j,acc,sc,al,A10,A11,c10,c11,hjk,hgk,rfl,rfl,rfl,hj10,HV,HAC,HGA,HSC,HT,HC5,HE5⟩:=hrel;have HGK:=qh hgk;clear hgk;have hlt4:(j:Int)<(k:Int):=om;obtain⟨b,off,A1,n1,c1,l,rfl,hb,hkl,hc,hn1,hr1⟩:=(HPB.out.below HE5.out).at_ hjk;have hl:=hr1.len;rw[H32.out l (mg9 hkl.out)]at hl;subst hl;have HR1:=qh hr1
     have hdr:pubs.drop j=l :: pubs.drop (j+1):=by
      obtain⟨hj,he⟩:=gi9.1 hkl.out;rw[List.drop_eq_getElem_cons hj,he]
     have hv:=HV.out;rw[hdr,sch]at hv;have hcl:=zfs sc (nrm l) (zd7 l);obtain⟨V,hV⟩:=ex9 (chV (nrm l) sc)
     have HCH:Hid (∀W,Rd W A1 32 (u8s l)→RdB W A11 (j+1) sc→Calls Tryz.prog 88 #[.slice A1 32 c1,.slice A11 (j+1) c11] W fun e w'=>e=.returned (.tuple #[.agg (u8s V.1).toArray,.int .i64 (V.2:Int)])∧Below W.heap.size W w'):=fun W h1 h2=>by
      rw[hV];exact zsh A1 A11 c1 (j+1) c11 l sc W h1 h2 HSC.out om
     rw[←hV]at hv hcl;have HVL:Hid ((u8s V.1).length=32):=by show _=_;rw[zaa,hcl]
     have HVV:=qh hv;have HVC:=qh hcl;have HAL5:Hid ((u8s al).length=32):=by show _=_;rw[zaa,HGA.out.len]
     clear hr1 hkl hdr hv hcl hV HV
     by_cases he:V.2=0
     · have hv:=HVV.out
       rw[if_pos he]at hv;have hei:(V.2:Int)=0:=by rw[he];rfl
       generalize (V.2:Int)=VE at *;subst hei;have hok:=zmq HGA.out.len HVC.out;have HSO:Hid (∀W,Calls Tryz.prog 89 #[.agg (u8s al).toArray,.agg (u8s V.1).toArray] W fun e w'=>e=.returned (.tuple #[.agg (stp al V.1).cells.toArray,.int .i64 0])∧Below W.heap.size W w'):=fun W=>zn6 al V.1 HGA.out.len HVC.out W
       have HNC:Hid (acc.flatMap Sp.cells++(stp al V.1).cells=(acc++[stp al V.1]).flatMap Sp.cells):=by show _=_;simp
       have HSL:Hid ((stp al V.1).cells.length=192):=Sp.cells_len hok;have HS1:Hid (∀v∈(stp al V.1).cells,v.oneCell'=true):=Sp.cells_one _;have HI2:Hid ((Tryz.prog.info? 43).map (fun i=>((i.zero.map (fun z=>z.cells.size)),i.size))=some (some (stp al V.1).cells.length,(stp al V.1).cells.length)):=by rw[HSL.out];exact z1sp
       have HNX:Hid (∀W,Calls Tryz.prog 45 #[.agg (stp al V.1).cells.toArray] W fun e w'=>e=.returned (.tuple #[.agg (u8s (mB (stp al V.1).blind al)).toArray,.int .i64 0])∧Below W.heap.size W w'):=fun W=>by
        have h5:=zty (stp al V.1) hok W;have h6:mE (stp al V.1).blind (stp al V.1).alpha=0:=HGA.out.mE hok.2.2.2.1;rw[h6]at h5;exact h5
       have HGN:Hid (Good (mB (stp al V.1).blind al)):=HGA.out.mB hok.2.2.2.1;have HBL:Hid ((stp al V.1).blind.length=32):=hok.2.2.2.1
       have HLB:Hid (∀W G,Blk W G 43 (stp al V.1).cells→(ldAt 23 (.pointer (some ⟨G,96,none⟩))).run Tryz.prog W=.ok (.agg (u8s (stp al V.1).blind).toArray) W):=fun W G hb =>
        zal hb _ 96 (u8s (stp al V.1).blind) (by rw[zaa,hok.2.2.2.1,Sp.cells,zbd,zaz,Sp.at_blind hok]) _ Tryz.underlying23 rfl (by rw[zaa,hok.2.2.2.1];exact hd24)
       have hv':sch (acc++[stp al V.1]) (sc++[(stp al V.1).blind]) (mB (stp al V.1).blind al) (pubs.drop (j+1))=R:=hv;have HVN:=qh hv';clear hv hv' he HVV hok;generalize (stp al V.1).blind=BL at *;obtain⟨ST,hST⟩:=ex9 (stp al V.1);rw[←hST]at HSO HNC HSL HS1 HI2 HNX HLB HVN;obtain⟨CS,hCS⟩:=ex9 (ST.cells);rw[←hCS]at HSO HNC HSL HS1 HI2 HNX HLB;generalize mB BL al=NA at *;clear hST hCS
       by_cases hlast:j+1=k
       · have hla:(j:Int)+1=(k:Int):=om
         have hv:=HVN.out;rw[List.drop_eq_nil_of_le (by rw[HML.out];omega),sch]at hv;have HRV:Hid (R.1=acc++[ST]∧R.2=0):=by show _∧_;rw[←hv];exact⟨rfl,rfl⟩
         clear hv hlast
         go_wp2_with (first
         |             (go_at_call 88;(refine(HCH.out _ (by exact HR1.out) (by exact HT.out.rdB)).mono ?_);rintro e w6 ⟨rfl,hB6⟩;have HE6:=qtr HE5 hB6;have HT6:=qh (HT.out.below hB6);have HC6:=qbl HC5 hB6;have HS6:=qh hB6.size;clear hB6)
         | (refine zab rfl 23 (.tmp 14) (.tmp 65) rfl w6.heap.size (u8s V.1) rr rr 23 o32 (by exact Blk.new' rfl rfl) (by rw[HVL.out];exact hd24) (zac _) (by rw[HVL.out];rfl) ?_;intro w7 hb7 ho7;have hB7:Below w6.heap.size w6 w7:=ho7.below ((Below.refl _ _).alloc lr _) lr sy;have HE7:=qtr HE6 hB7;have HT7:=qh (HT6.out.below hB7);have HC7:=qbl HC6 hB7;have HS7:=qh (Nat.le_trans HS6.out hB7.size);have l1:=zep HC7.out HAL5.out;have l2:=zep hb7 HVL.out;clear hb7 ho7 hB7)
         | (go_at_call 89;(refine(HSO.out _).mono ?_);rintro e w8 ⟨rfl,hB8⟩;have HE8:=qtr HE7 hB8;have HT8:=qh (HT7.out.below hB8);have HC8:=qbl HC7 hB8;have HS8:=qh (Nat.le_trans HS7.out hB8.size);clear hB8 l1 l2)
         | (refine zab rfl 43 (.tmp 16) (.tmp 74) rfl w8.heap.size CS rr rr 43 (u8s (List.replicate 192 0)) (by exact Blk.new' rfl zcSp) (by rw[HSL.out];exact hd69) HS1.out (by rw[HSL.out];rfl) ?_;intro w9 hb9 ho9;have hB9:Below w8.heap.size w8 w9:=ho9.below ((Below.refl _ _).alloc lr _) lr sy;have HE9:=qtr HE8 hB9;have HT9:=qh (HT8.out.below hB9);have HC9:=qbl HC8 hB9;have HK9:=qh hb9;have l3:=sp_ld hb9 HSL.out;clear hb9 ho9 hB9)
         | (refine zb6 rfl 116 43 (.tmp 80) rfl CS rr Tryz.underlying116 HI2.out (by rw[HSL.out];omega) (by rw[HSL.out];omega) ?_)
         | (at_builtin;refine zah rfl (.tmp 79) (.tmp 81) 116 rfl (w1.heap.size+1) 43 192 192 Tryz.underlying116 eSpz (.slice A10 j c10) j (acc.flatMap Sp.cells) rr (by exact zau HT9.out.own10 ((Below.refl _ _).alloc lr _)) (some ⟨w9.heap.size,0,none⟩) 1 1 CS rr (by exact RdS.new w9 _ CS 192 HSL.out) HS1.out om om (by have:=HC9.out.lt;simp;omega) ?_;intro A12 c12 w12 hown12 hc12 hg12 hat12;have ho10:=HT9.out.own10;have hlt10:=HT.out.own10;have HE12:=qh ((HE9.out.alloc HE9.out.size _).grown hg12 (Nat.le_trans HE9.out.size sy) (fun k hk=>by have h1:=(ho10.lt k hk).1;have h2:=HG2.out;omega));rw[HNC.out]at hown12;have HT12:=qh ((HT9.out.below ((Below.refl _ _).alloc lr _)).app10 hown12 hg12 (by simpa using hat12));have HC12:=qh ((HC9.out.alloc _).grown hg12 (fun e=>by have h1:=(ho10.lt _ e.symm).1;omega));have HK12:=qh ((HK9.out.alloc _).grown hg12 (fun e=>by have h1:=(hlt10.lt _ e.symm).2;have h2:=HS8.out;omega));have HOW12:=qh hown12;have HC12':=qh hc12;clear hown12 hc12 hg12 hat12 ho10 hlt10 l3))
         go_ret2;exact⟨A12,j+1,c12,by rw[HRV.out.2];rfl,HC12'.out,by rw[HRV.out.1];exact RdS.ofOwn2 HOW12.out,by rw[HRV.out.1,la9,HAC.out];rfl,HE12.out⟩
       · skip
         have hla:¬(j:Int)+1=(k:Int):=om;have HBLL:Hid ((u8s BL).length=32):=by show _=_;rw[zaa,HBL.out]
         have HNAL:Hid ((u8s NA).length=32):=by show _=_;rw[zaa,HGN.out.len]
         have HAC2:Hid ((acc++[ST]).length=j+1):=by show _=_;rw[la9,HAC.out];rfl
         have HSC2:Hid (∀s∈sc++[BL],s.length=32):=by
          intro s hs
          rcases List.mem_append.1 hs with h|h
          · exact HSC.out s h
          · simp at h;rw[h];exact HBL.out
         have HLS:=qh hlast;clear hlast
         go_wp2_with (first
         |             (go_at_call 88;(refine(HCH.out _ (by exact HR1.out) (by exact HT.out.rdB)).mono ?_);rintro e w6 ⟨rfl,hB6⟩;have HE6:=qtr HE5 hB6;have HT6:=qh (HT.out.below hB6);have HC6:=qbl HC5 hB6;have HS6:=qh hB6.size;clear hB6)
         | (refine zab rfl 23 (.tmp 14) (.tmp 65) rfl w6.heap.size (u8s V.1) rr rr 23 o32 (by exact Blk.new' rfl rfl) (by rw[HVL.out];exact hd24) (zac _) (by rw[HVL.out];rfl) ?_;intro w7 hb7 ho7;have hB7:Below w6.heap.size w6 w7:=ho7.below ((Below.refl _ _).alloc lr _) lr sy;have HE7:=qtr HE6 hB7;have HT7:=qh (HT6.out.below hB7);have HC7:=qbl HC6 hB7;have HS7:=qh (Nat.le_trans HS6.out hB7.size);have l1:=zep HC7.out HAL5.out;have l2:=zep hb7 HVL.out;clear hb7 ho7 hB7)
         | (go_at_call 89;(refine(HSO.out _).mono ?_);rintro e w8 ⟨rfl,hB8⟩;have HE8:=qtr HE7 hB8;have HT8:=qh (HT7.out.below hB8);have HC8:=qbl HC7 hB8;have HS8:=qh (Nat.le_trans HS7.out hB8.size);clear hB8 l1 l2)
         | (refine zab rfl 43 (.tmp 16) (.tmp 74) rfl w8.heap.size CS rr rr 43 (u8s (List.replicate 192 0)) (by exact Blk.new' rfl zcSp) (by rw[HSL.out];exact hd69) HS1.out (by rw[HSL.out];rfl) ?_;intro w9 hb9 ho9;have hB9:Below w8.heap.size w8 w9:=ho9.below ((Below.refl _ _).alloc lr _) lr sy;have HE9:=qtr HE8 hB9;have HT9:=qh (HT8.out.below hB9);have HC9:=qbl HC8 hB9;have HK9:=qh hb9;have l3:=sp_ld hb9 HSL.out;clear hb9 ho9 hB9)
         | (refine zb6 rfl 116 43 (.tmp 80) rfl CS rr Tryz.underlying116 HI2.out (by rw[HSL.out];omega) (by rw[HSL.out];omega) ?_)
         | (at_builtin;refine zah rfl (.tmp 79) (.tmp 81) 116 rfl (w1.heap.size+1) 43 192 192 Tryz.underlying116 eSpz (.slice A10 j c10) j (acc.flatMap Sp.cells) rr (by exact zau HT9.out.own10 ((Below.refl _ _).alloc lr _)) (some ⟨w9.heap.size,0,none⟩) 1 1 CS rr (by exact RdS.new w9 _ CS 192 HSL.out) HS1.out om om (by have:=HC9.out.lt;simp;omega) ?_;intro A12 c12 w12 hown12 hc12 hg12 hat12;have ho10:=HT9.out.own10;have hlt10:=HT.out.own10;have HE12:=qh ((HE9.out.alloc HE9.out.size _).grown hg12 (Nat.le_trans HE9.out.size sy) (fun k hk=>by have h1:=(ho10.lt k hk).1;have h2:=HG2.out;omega));rw[HNC.out]at hown12;have HT12:=qh ((HT9.out.below ((Below.refl _ _).alloc lr _)).app10 hown12 hg12 (by simpa using hat12));have HC12:=qh ((HC9.out.alloc _).grown hg12 (fun e=>by have h1:=(ho10.lt _ e.symm).1;omega));have HK12:=qh ((HK9.out.alloc _).grown hg12 (fun e=>by have h1:=(hlt10.lt _ e.symm).2;have h2:=HS8.out;omega));have HOW12:=qh hown12;have HC12':=qh hc12;have l4:=sp_ld HK12.out HSL.out;clear hown12 hc12 hg12 hat12 ho10 hlt10 l3)
         | (go_at_call 45;(refine(HNX.out _).mono ?_);rintro e w13 ⟨rfl,hB13⟩;have HE13:=qtr HE12 hB13;have HT13:=qh (HT12.out.below hB13);have HC13:=qbl HC12 hB13;have HK13:=qbl HK12 hB13;clear hB13 l4;obtain⟨w14,hst8,ho14,hb14⟩:=st32 HC13.out HAL5.out HNAL.out (zac _);have HE14:=qh (ho14.below HE13.out HG2.out HE13.out.size);have HT14:=qh (HT13.out.only ho14 (Nat.lt_succ_self _));have HK14:=qh (ho14.blk HK13.out (by have h1:=HS8.out;have h2:=HC5.out.lt;omega));have HC14:=qh hb14;have l5:=HLB.out _ _ HK14.out;clear hb14 ho14;obtain⟨w15,hst,ho15,hb15⟩:=st32 (show Blk (w14.alloc (.cells #[.int .u8 0,.int .u8 0,.int .u8 0,.int .u8 0,.int .u8 0,.int .u8 0,.int .u8 0,.int .u8 0,.int .u8 0,.int .u8 0,.int .u8 0,.int .u8 0,.int .u8 0,.int .u8 0,.int .u8 0,.int .u8 0,.int .u8 0,.int .u8 0,.int .u8 0,.int .u8 0,.int .u8 0,.int .u8 0,.int .u8 0,.int .u8 0,.int .u8 0,.int .u8 0,.int .u8 0,.int .u8 0,.int .u8 0,.int .u8 0,.int .u8 0,.int .u8 0] 23)) w14.heap.size 23 o32 from Blk.new' rfl rfl) rfl HBLL.out (zac BL);have hB15:Below w14.heap.size w14 w15:=ho15.below ((Below.refl _ _).alloc lr _) lr sy;have HE15:=qtr HE14 hB15;have HT15:=qh (HT14.out.below hB15);have HC15:=qbl HC14 hB15;have HR15:Hid (Rd w15 (some ⟨w14.heap.size,0,none⟩) 32 (u8s BL)):=by have h5:=hb15.rd 0 32 (by have:=HBLL.out;omega);rwa [List.drop_zero,tk (by have:=HBLL.out;omega)]at h5
            obtain⟨vs,htv⟩:=HT15.out.below ((Below.refl _ w15).alloc lr (.cells #[.slice (some ⟨w14.heap.size,0,none⟩) 32 32] 22));have HTV:=qh htv;have HAP:=qh (HT14.out.fresh HC14.out.lt 0)
            clear hb15 ho15 hB15 htv)
         | (at_builtin;refine zah rfl (.tmp 99) (.tmp 101) 87 rfl (w1.heap.size+1) 22 1 24 Tryz.underlying87 eSl (.slice A11 (j+1) c11) (j+1) vs rr (by exact HTV.out.2.1) (some ⟨w15.heap.size,0,none⟩) 1 1 [.slice (some ⟨w14.heap.size,0,none⟩) 32 32] rr (by exact RdS.new w15 _ [.slice (some ⟨w14.heap.size,0,none⟩) 32 32] 1 rfl) (by intro v hv;simp at hv;rw[hv];rfl) om om (by have:=HC15.out.lt;simp;omega) ?_;intro A17 c17 w17 hown17 hc17 hg17 hat17;have HE17:=qh ((HE15.out.alloc HE15.out.size _).grown hg17 (Nat.le_trans HE15.out.size sy) (fun k hk=>by have h1:=(HTV.out.2.1.lt k hk).1;have h2:=HG2.out;omega));have HC17:=qh ((HC15.out.alloc _).grown hg17 (fun e=>by have h1:=(HTV.out.2.1.lt _ e.symm).1;omega));have HT17:Hid (Two (w1.heap.size+1) w1.heap.size 43 w17 (.slice A12 (j+1) c12) (.slice A17 (j+1+1) c17) (j+1) (j+1+1) ((acc++[ST]).flatMap Sp.cells) (sc++[BL])):=Two.app11 HTV.out hown17 hg17 (by simpa using hat17) lr (HR15.out.alloc _) HAP.out;clear hown17 hc17 hg17 hat17))
         go_roundg (k-(j+1))
         case measure=>have:=HGK.out;omega
         case rel=>exact⟨j+1,acc++[ST],sc++[BL],NA,A12,A17,c12,c17,by have:=HLS.out;omega,rfl,by go_num,rfl,rfl,HC12'.out,HVN,HAC2,HGN,HSC2,HT17,HC17,HE17⟩
     · have hei:¬(V.2:Int)=0:=om
       have hv:=HVV.out;rw[if_neg he]at hv;have HRL:Hid (R.1=[]):=by show _=_;rw[←hv]
       have HRE:Hid ((R.2:Int)=(V.2:Int)):=by show _=_;rw[←hv]
       clear he hv HVV
       go_wp2_with (first
        | (go_at_call 88;(refine(HCH.out _ (by exact HR1.out) (by exact HT.out.rdB)).mono ?_);rintro e w6 ⟨rfl,hB6⟩;have HE6:=qtr HE5 hB6;clear hB6)
        | (refine zab rfl 23 (.tmp 14) (.tmp 65) rfl w6.heap.size (u8s V.1) rr rr 23 o32 (by exact Blk.new' rfl rfl) (by rw[HVL.out];exact hd24) (zac _) (by rw[HVL.out];rfl) ?_;intro w7 hb7 ho7;have HE7:=qh (ho7.below (HE6.out.alloc HE6.out.size _) HE6.out.size (Nat.le_trans HE6.out.size sy))))
       go_ret2;exact⟨none,0,0,by rw[HRE.out];rfl,lr,by rw[HRL.out];exact⟨rfl,fun h=>absurd h om⟩,by rw[HRL.out];rfl,HE7.out⟩
end
section
theorem zfj(p v:Value):Instr.storeAt 47 p v=stAt 47 p v:=rfl
theorem zlc(p v:Value):Instr.storeAt 29 p v=stAt 29 p v:=rfl
theorem zl2(v:Value):Instr.loadAt 29 v=ldAt 29 v:=rfl
attribute [local go_sem ↓] zcg zfj zlc zl2
theorem st20{w:World}{g:Nat}{t:TypeId}{Z X:List Value}(o:Nat)(hb:Blk w g t Z)(hz:o+20≤Z.length)(hx:X.length=20)(h1:∀v∈X,v.oneCell'=true):∃w',(stAt 47 (.pointer (some ⟨g,o,none⟩)) (.agg X.toArray)).run Tryz.prog w=.ok () w'∧Only w w' g∧Blk w' g t (splice Z o X) :=
 ⟨w.setCells g o X,zco hb 47 o X om h1 (by rw[hx];exact hd76c),Only.of_setCells w g o X,za0 g t X o Z w hb om⟩
theorem st16{w:World}{g:Nat}{t:TypeId}{Z X:List Value}(o:Nat)(hb:Blk w g t Z)(hz:o+16≤Z.length)(hx:X.length=16)(h1:∀v∈X,v.oneCell'=true):∃w',(stAt 29 (.pointer (some ⟨g,o,none⟩)) (.agg X.toArray)).run Tryz.prog w=.ok () w'∧Only w w' g∧Blk w' g t (splice Z o X) :=
 ⟨w.setCells g o X,zco hb 29 o X om h1 (by rw[hx];exact hd16),Only.of_setCells w g o X,za0 g t X o Z w hb om⟩
theorem ze8{last:Cm}(hc:last.ok){hs:List Ho}(hok:∀s∈hs,s.ok)(hd:∀s∈hs,s.bad=false)(i:Nat):(pathC last hs i).ok:=by
 unfold pathC
 cases h:hs[i]? with
 | none=>exact Cm.zero_ok
 | some o =>
  have ho:=mg9 h;obtain⟨g1,g2,_,_⟩:=Ho.bad_no (hd o ho);simp only
  split
  · refine⟨by show o.dl.toNat<_;omega,?_,lp9⟩
    show(hs[i+1]?.map Ho.id).getD 0<_
    cases h2:hs[i+1]? with
    | none=>simp
    | some o2=>simpa using (hok o2 (mg9 h2)).1
  · exact⟨by show o.dl.toNat<_;omega,by show 0<_;omega,hc.2.2⟩
theorem zks{last:Cm}(hc:last.ok){hs:List Ho}(hok:∀s∈hs,s.ok)(hd:∀s∈hs,s.bad=false)(k:Nat):(((List.range k).map (pathC last hs)).flatMap Cm.cells).length=k*20:=by
 induction k with
 | zero=>rfl
 | succ k ih=>rw[List.range_succ,List.map_append,List.flatMap_append,la9,ih];simp[Cm.cells_len (ze8 hc hok hd k)];omega
theorem zov{last:Cm}(hc:last.ok){hs:List Ho}(hok:∀s∈hs,s.ok)(hd:∀s∈hs,s.bad=false){k:Nat}(hk:k<hs.length):splice (pathB last hs k) (k*20) (pathC last hs k).cells=pathB last hs (k+1):=by
 have hl:=zks hc hok hd k;have hz:=Cm.cells_len Cm.zero_ok;have hp:=Cm.cells_len (ze8 hc hok hd k)
 unfold pathB
 rw[show hs.length-k=(hs.length-(k+1))+1 by omega,List.replicate_succ,List.flatten_cons,List.range_succ,List.map_append,List.flatMap_append]
 unfold splice
 rw[List.take_left' hl,hp,List.drop_append,List.drop_eq_nil_of_le (by rw[hl];omega),List.nil_append,hl,Nat.add_sub_cancel_left,List.drop_left' hz]
 simp
theorem zq8(last:Cm)(hs:List Ho):pathB last hs hs.length=(pathL last hs).flatMap Cm.cells:=by
 simp[pathB,pathL]
theorem zc6{last:Cm}{hs:List Ho}(h:pathE last hs=0):(∀s∈hs,s.bad=false)∧1≤hs.length∧hs.length≤5:=by
 unfold pathE at h
 split at h
 · cases h
 split at h
 · cases h
 rename_i h2
 split at h
 · cases h
 rename_i h3
 refine⟨fun s hs2=>?_,by omega,by omega⟩
 cases hb:s.bad with
 | false=>rfl
 | true=>exact absurd (List.any_eq_true.2 ⟨s,hs2,hb⟩) h2
theorem zwt(last:Cm)(hc:last.ok)(A:Option Addr)(n c:Nat)(hs:List Ho)(w:World)(h:RdS 68 w A n (hs.flatMap Ho.cells))(hok:∀s∈hs,s.ok)(hl:hs.length=n)(hn:n≤140737488355328)(he:pathE last hs≠0):
 Calls Tryz.prog 53 #[.agg last.cells.toArray,.slice A n c] w fun e w'=>e=.returned (.tuple #[.slice none 0 0,.int .i64 (pathE last hs:Int)])∧Below w.heap.size w w':=by
 have HPE:=qh (fun W hW=>zg6 last hc A n c hs W hW hok hl hn);have hei:¬(pathE last hs:Int)=0:=om;have HCL:=qh (Cm.cells_len hc);obtain⟨C,hC⟩:=ex9 (last.cells);rw[←hC]at HPE HCL ⊢;generalize (pathE last hs:Int)=E at *;have HB0:Hid (Blk (w.alloc (.cells C.toArray 47)) w.heap.size 47 C):=Blk.new _ _ _;have HE0:Hid (Below w.heap.size w (w.alloc (.cells C.toArray 47))):=(Below.refl _ w).alloc lr _;have HR:=qh (h.bel HE0.out lr);have l0:=cm_ld HB0.out HCL.out;clear h hok hl he hC hc
 go_enter Tryz.func53, Tryz.ntmps53
 go_wp2_with (first
  | (go_at_call 86;(refine(HPE.out _ (by exact HR.out)).mono ?_);rintro e w1 ⟨rfl,hB1⟩;have HE1:=qtr HE0 hB1;clear hB1))
 go_ret2;exact⟨rfl,HE1.out⟩
theorem zm5(last:Cm)(hc:last.ok)(A:Option Addr)(n c:Nat)(hs:List Ho)(w:World)(h:RdS 68 w A n (hs.flatMap Ho.cells))(hok:∀s∈hs,s.ok)(hl:hs.length=n)(he:pathE last hs=0):
 Calls Tryz.prog 53 #[.agg last.cells.toArray,.slice A n c] w fun e w'=>∃A',e=.returned (.tuple #[.slice A' n n,.int .i64 0])∧RdS 20 w' A' n ((pathL last hs).flatMap Cm.cells)∧Below w.heap.size w w':=by
 obtain⟨hbad,h1,h5⟩:=zc6 he
 have HPE:Hid (∀W,RdS 68 W A n (hs.flatMap Ho.cells)→Calls Tryz.prog 86 #[.agg last.cells.toArray,.slice A n c] W fun e w'=>e=.returned (.int .i64 0)∧Below W.heap.size W w'):=fun W hW=>by
  have h6:=zg6 last hc A n c hs W hW hok hl om
  rwa [he]at h6
 have HNX:=qh (fun k hk=>zov hc hok hbad (k:=k) hk);have HPO:=qh (fun i=>ze8 hc hok hbad i);have HPL:=qh (fun k=>zks hc hok hbad k);have HBD:=qh hbad;have HOK:=qh hok;have HL:=qh hl;have HCO:=qh hc;have HCL:=qh (Cm.cells_len hc);obtain⟨C,hC⟩:=ex9 (last.cells);have HCC:=qh hC;rw[←hC]at HPE HCL ⊢;have HB0:Hid (Blk (w.alloc (.cells C.toArray 47)) w.heap.size 47 C):=Blk.new _ _ _;have HE0:Hid (Below w.heap.size w (w.alloc (.cells C.toArray 47))):=(Below.refl _ w).alloc lr _;have HR:=qh (h.bel HE0.out lr);have HRB:=qh h;have l0:=cm_ld HB0.out HCL.out;have n5:n≤5:=om;have n1:1≤n:=om;clear h hok hl he hC hc hbad h1 h5
 go_enter Tryz.func53, Tryz.ntmps53
 go_wp2_with (first
  | (go_at_call 86;(refine(HPE.out _ (by exact HR.out)).mono ?_);rintro e w1 ⟨rfl,hB1⟩;have HE1:=qtr HE0 hB1;have HB1:=qbl HB0 hB1;have HR1:=qh (HR.out.bel hB1 lr);clear hB1 l0)
  | (at_make;refine zkb rfl (.tmp 17) (.tmp 17) 111 rfl 47 (.agg Cm.zero.cells.toArray) 32 20 Cm.zero.cells Tryz.underlying111 iCm rfl (Cm.cells_len Cm.zero_ok) om .i64 .i64 (n:Int) (n:Int) rr rr n n rfl rfl om om om ?_;intro w2 hb2 hg2 hs2;have HE2:=qh (HE1.out.trans ((zaf hg2).mono HE1.out.size));have HB2:=qh (HB1.out.below (zaf hg2) HB1.out.lt);have HR2:=qh (HR1.out.bel (zaf hg2) lr);have HC2:Hid (Blk w2 w1.heap.size 47 (pathB last hs 0)):=by show Blk _ _ _ _;unfold pathB;rw[HL.out];exact hb2
     have HG1:=qh HE1.out.size;have HG2:Hid (w.heap.size<w1.heap.size):=HB1.out.lt
     clear hb2 hg2 hs2))
 go_loopg [21] n (fun kk q wr=>∃k:Nat,k≤n∧kk=n-k∧q=.int .i64 k∧Hid (Blk wr w1.heap.size 47 (pathB last hs k))∧Hid (Blk wr w.heap.size 47 C)∧Hid (Below w.heap.size w wr))
 case atStart=>exact⟨0,Nat.zero_le _,rfl,rfl,HC2,HB2,HE2⟩
 case round =>
  have HRW:=qh (fun W (hW:Below w.heap.size w W)=>(show RdS 68 W A n (hs.flatMap Ho.cells) from HRB.out.bel hW lr));clear HC2 HB2 HE2 HR2 HR1 HR HB1 HE1 HB0 HE0 HPE;obtain⟨k,hkn,hgk,rfl,HBP,HBC,HE⟩:=hrel;have HGK:=qh hgk;clear hgk
  by_cases hlt:k<n
  · have hlt2:(k:Int)<(n:Int):=om
    obtain⟨o,ho⟩:∃o,hs[k]? = some o:=⟨_,ge9 (by rw[HL.out];omega)⟩;have hoo:=HOK.out o (mg9 ho);obtain⟨g1,g2,g3,g4⟩:=Ho.bad_no (HBD.out o (mg9 ho));have hw1:IntKind.u32.wrap o.dl=o.dl:=by rw[IntKind.wrap_u32];omega
    have hw2:IntKind.u8.wrap o.fl=o.fl:=by rw[IntKind.wrap_u8];omega
    obtain⟨w3,hst,ho3,hb3⟩:=st20 0 (show Blk (wr.alloc (.cells #[.int .u8 0,.int .u8 0,.int .u32 0,.int .u64 0,.int .u8 0,.int .u8 0,.int .u8 0,.int .u8 0,.int .u8 0,.int .u8 0,.int .u8 0,.int .u8 0,.int .u8 0,.int .u8 0,.int .u8 0,.int .u8 0,.int .u8 0,.int .u8 0,.int .u8 0,.int .u8 0] 47)) wr.heap.size 47 Cm.zero.cells from Blk.new' rfl rfl) (by rw[Cm.cells_len Cm.zero_ok];omega) (show cm1.cells.length=20 from rfl) (Cm.cells_one cm1);rw[zap _ _ (by rw[Cm.cells_len Cm.zero_ok];rfl)]at hb3;have HE3:=qh (ho3.below (HE.out.alloc HE.out.size _) HE.out.size (Nat.le_trans HE.out.size sy));have HBC3:=qal ho3 HBC (by have:=HBC.out.lt;omega);have HBP3:=qal ho3 HBP (by have:=HBP.out.lt;omega);have HCK:=qh hb3;clear ho3 hb3
    by_cases hl1:k+1<n
    · have hl2:(k:Int)+1<(n:Int):=om
      obtain⟨o2,ho2⟩:∃o,hs[k+1]? = some o:=⟨_,ge9 (by rw[HL.out];omega)⟩;have HG:Hid (wr.heap.size≠w1.heap.size∧wr.heap.size≠w.heap.size):=⟨by have:=HBP.out.lt;omega,by have:=HBC.out.lt;omega⟩;have hEq:pathC last hs k=⟨1,UInt8.ofNat o.fl.toNat,o.dl.toNat,o2.id,List.replicate 16 0⟩:=by unfold pathC;rw[ho,ho2];simp only[HL.out,if_pos hl1];rfl
      obtain⟨b,off,rfl,hb0,_⟩:=zbk HRB.out HOK.out ho om;obtain⟨b1,off1,hbe1,_,hrg⟩:=zbk (HRW.out w3 HE3.out) HOK.out ho om
      injection hbe1 with hbe1
      injection hbe1 with e3 e4
      subst e3;subst e4;obtain⟨b',off',hbe,_,hrg2⟩:=zbk (HRW.out w3 HE3.out) HOK.out ho2 om
      injection hbe with hbe
      injection hbe with e1 e2
      subst e1;subst e2;have hbne:b≠wr.heap.size:=by have:=HE.out.size;omega
      have d1:w3.cell? ⟨b,off+(k+1)*68+1,none⟩=some (.int .u64 (o2.id:Int)):=hrg2 1 _ (Ho.at_id o2);have d66:w3.cell? ⟨b,off+k*68+66,none⟩=some (.int .i64 o.dl):=hrg 66 _ (Ho.at_dl hoo);have d67:w3.cell? ⟨b,off+k*68+67,none⟩=some (.int .i64 o.fl):=hrg 67 _ (Ho.at_fl hoo);have c1:w3.cell? ⟨wr.heap.size,1,none⟩=some (.int .u8 0):=by rw[HCK.out.cell];rfl
      have c2:w3.cell? ⟨wr.heap.size,2,none⟩=some (.int .u32 0):=by rw[HCK.out.cell];rfl
      have c3:w3.cell? ⟨wr.heap.size,3,none⟩=some (.int .u64 0):=by rw[HCK.out.cell];rfl
      have hf:=fun i=>HCK.out.frozen i
      have HB6:Hid (Blk (((w3.setCell ⟨wr.heap.size,3,none⟩ (.int .u64 (o2.id:Int))).setCell ⟨wr.heap.size,2,none⟩ (.int .u32 o.dl)).setCell ⟨wr.heap.size,1,none⟩ (.int .u8 o.fl)) wr.heap.size 47 (pathC last hs k).cells):=by
       have h5:=((HCK.out.set_ 3 (.int .u64 (o2.id:Int))).set_ 2 (.int .u32 o.dl)).set_ 1 (.int .u8 o.fl)
       have e5:(((cm1.cells.set 3 (.int .u64 (o2.id:Int))).set 2 (.int .u32 o.dl)).set 1 (.int .u8 o.fl))=(pathC last hs k).cells:=by
        rw[hEq];simp only[Cm.cells,cm1,List.set_cons_succ,List.set_cons_zero];have q1:o.dl=(o.dl.toNat:Int):=om;have q2:o.fl=((UInt8.ofNat o.fl.toNat).toNat:Int):=by simp;omega
        rw[←q1,←q2]
       rwa [e5]at h5
      have l6:=cm_ld HB6.out (Cm.cells_len (HPO.out k));have hp3:Hid (Blk (((w3.setCell ⟨wr.heap.size,3,none⟩ (.int .u64 (o2.id:Int))).setCell ⟨wr.heap.size,2,none⟩ (.int .u32 o.dl)).setCell ⟨wr.heap.size,1,none⟩ (.int .u8 o.fl)) w1.heap.size 47 (pathB last hs k)):=((HBP3.out.far (p:=⟨wr.heap.size,3,none⟩) HG.out.1.symm _).far (p:=⟨wr.heap.size,2,none⟩) HG.out.1.symm _).far (p:=⟨wr.heap.size,1,none⟩) HG.out.1.symm _;have hc6:Hid (Blk (((w3.setCell ⟨wr.heap.size,3,none⟩ (.int .u64 (o2.id:Int))).setCell ⟨wr.heap.size,2,none⟩ (.int .u32 o.dl)).setCell ⟨wr.heap.size,1,none⟩ (.int .u8 o.fl)) w.heap.size 47 C):=((HBC3.out.far (p:=⟨wr.heap.size,3,none⟩) HG.out.2.symm _).far (p:=⟨wr.heap.size,2,none⟩) HG.out.2.symm _).far (p:=⟨wr.heap.size,1,none⟩) HG.out.2.symm _;have he6:Hid (Below w.heap.size w (((w3.setCell ⟨wr.heap.size,3,none⟩ (.int .u64 (o2.id:Int))).setCell ⟨wr.heap.size,2,none⟩ (.int .u32 o.dl)).setCell ⟨wr.heap.size,1,none⟩ (.int .u8 o.fl))):=((HE3.out.setCell (p:=⟨wr.heap.size,3,none⟩) HE.out.size _).setCell (p:=⟨wr.heap.size,2,none⟩) HE.out.size _).setCell (p:=⟨wr.heap.size,1,none⟩) HE.out.size _;obtain⟨w7,hst7,ho7,hb7⟩:=st20 (k*20) hp3.out (by rw[pathB,la9,HPL.out k,zea,Cm.cells_len Cm.zero_ok,HL.out];omega) (Cm.cells_len (HPO.out k)) (Cm.cells_one _);rw[HNX.out k (by rw[HL.out];exact hlt)]at hb7;have HB7:=qh hb7;have HC7:=qh (ho7.blk hc6.out (by have:=HG2.out;omega));have HE7:=qh (ho7.below he6.out HG1.out he6.out.size);generalize (pathC last hs k).cells=PC at *;generalize o.dl=D at *;generalize o.fl=F at *;generalize o2.id=I2 at *;clear hb7 ho7 hc6 he6 hp3 HB6 hEq ho ho2 hoo hrg hrg2 HCK HBC3 HBP3 HBC HBP
      go_wp2_with (first
       | (refine zai rfl 47 [(0,.const (.int .u8 1))] rfl _ rr (.agg cm1.cells.toArray) (zsq _) ?_))
      go_roundg (n-(k+1))
      case measure=>have:=HGK.out;omega
      case rel=>exact⟨k+1,by omega,rfl,by go_num,HB7,HC7,HE7⟩
    · have hl2:¬(k:Int)+1<(n:Int):=om
      have HG:Hid (wr.heap.size≠w1.heap.size∧wr.heap.size≠w.heap.size):=⟨by have:=HBP.out.lt;omega,by have:=HBC.out.lt;omega⟩;have hEq:pathC last hs k=⟨last.k,UInt8.ofNat o.fl.toNat,o.dl.toNat,0,last.m⟩:=by unfold pathC;rw[ho];simp only[HL.out,if_neg hl1]
      obtain⟨b,off,rfl,hb0,_⟩:=zbk HRB.out HOK.out ho om;have hbne:b≠wr.heap.size:=by have:=HE.out.size;omega
      have q0:w3.cell? ⟨w.heap.size,0,none⟩=some (.int .u8 last.k.toNat):=by rw[HBC3.out.cell,HCC.out];rfl
      have c0:w3.cell? ⟨wr.heap.size,0,none⟩=some (.int .u8 1):=by rw[HCK.out.cell];rfl
      have hf0:=fun i=>HCK.out.frozen i
      have hb4:=HCK.out.set_ 0 (.int .u8 last.k.toNat);have hc4:Blk (w3.setCell ⟨wr.heap.size,0,none⟩ (.int .u8 last.k.toNat)) w.heap.size 47 C:=HBC3.out.far (p:=⟨wr.heap.size,0,none⟩) HG.out.2.symm _;have hp4:Blk (w3.setCell ⟨wr.heap.size,0,none⟩ (.int .u8 last.k.toNat)) w1.heap.size 47 (pathB last hs k):=HBP3.out.far (p:=⟨wr.heap.size,0,none⟩) HG.out.1.symm _;have he4:Below w.heap.size w (w3.setCell ⟨wr.heap.size,0,none⟩ (.int .u8 last.k.toNat)):=HE3.out.setCell (p:=⟨wr.heap.size,0,none⟩) HE.out.size _;have hlm:(ldAt 29 (.pointer (some ⟨w.heap.size,4,none⟩))).run Tryz.prog (w3.setCell ⟨wr.heap.size,0,none⟩ (.int .u8 last.k.toNat))=.ok (.agg (u8s last.m).toArray) (w3.setCell ⟨wr.heap.size,0,none⟩ (.int .u8 last.k.toNat)):=zal hc4 _ 4 (u8s last.m) (by rw[zaa,HCO.out.2.2,HCC.out,Cm.cells_mark,tk (by rw[zaa,HCO.out.2.2];exact lr)]) _ Tryz.underlying29 rfl (by rw[zaa,HCO.out.2.2];exact hd16);obtain⟨w5,hst5,ho5,hb5⟩:=st16 4 hb4 (by rw[List.length_set];exact lr) (show(u8s last.m).length=16 by rw[zaa,HCO.out.2.2]) (zac _);have HE5:=qh (ho5.below he4 HE.out.size he4.size);have HP5:=qh (ho5.blk hp4 HG.out.1.symm);have HC5:=qh (ho5.blk hc4 HG.out.2.symm);obtain⟨b1,off1,hbe1,_,hrg⟩:=zbk (HRW.out w5 HE5.out) HOK.out ho om
      injection hbe1 with hbe1
      injection hbe1 with e3 e4
      subst e3;subst e4;have d66:w5.cell? ⟨b,off+k*68+66,none⟩=some (.int .i64 o.dl):=hrg 66 _ (Ho.at_dl hoo);have d67:w5.cell? ⟨b,off+k*68+67,none⟩=some (.int .i64 o.fl):=hrg 67 _ (Ho.at_fl hoo)
      have hs5:splice (cm1.cells.set 0 (.int .u8 last.k.toNat)) 4 (u8s last.m)=.int .u8 last.k.toNat :: .int .u8 0 :: .int .u32 0 :: .int .u64 0 :: u8s last.m:=by
       unfold splice
       rw[zaa,HCO.out.2.2]
       simp[cm1,Cm.cells,u8s]
      rw[hs5]at hb5;have c1:w5.cell? ⟨wr.heap.size,1,none⟩=some (.int .u8 0):=by rw[hb5.cell];rfl
      have c2:w5.cell? ⟨wr.heap.size,2,none⟩=some (.int .u32 0):=by rw[hb5.cell];rfl
      have hf:=fun i=>hb5.frozen i
      have HB6:Hid (Blk ((w5.setCell ⟨wr.heap.size,2,none⟩ (.int .u32 o.dl)).setCell ⟨wr.heap.size,1,none⟩ (.int .u8 o.fl)) wr.heap.size 47 (pathC last hs k).cells):=by
       have h5:=(hb5.set_ 2 (.int .u32 o.dl)).set_ 1 (.int .u8 o.fl)
       have e5:(((Value.int .u8 last.k.toNat :: .int .u8 0 :: .int .u32 0 :: .int .u64 0 :: u8s last.m).set 2 (.int .u32 o.dl)).set 1 (.int .u8 o.fl))=(pathC last hs k).cells:=by
        rw[hEq];simp only[Cm.cells,List.set_cons_succ,List.set_cons_zero];have q1:o.dl=(o.dl.toNat:Int):=om;have q2:o.fl=((UInt8.ofNat o.fl.toNat).toNat:Int):=by simp;omega
        rw[←q1,←q2]
        rfl
       rwa [e5]at h5
      have l6:=cm_ld HB6.out (Cm.cells_len (HPO.out k));have hp3:Hid (Blk ((w5.setCell ⟨wr.heap.size,2,none⟩ (.int .u32 o.dl)).setCell ⟨wr.heap.size,1,none⟩ (.int .u8 o.fl)) w1.heap.size 47 (pathB last hs k)):=(HP5.out.far (p:=⟨wr.heap.size,2,none⟩) HG.out.1.symm _).far (p:=⟨wr.heap.size,1,none⟩) HG.out.1.symm _;have hc6:Hid (Blk ((w5.setCell ⟨wr.heap.size,2,none⟩ (.int .u32 o.dl)).setCell ⟨wr.heap.size,1,none⟩ (.int .u8 o.fl)) w.heap.size 47 C):=(HC5.out.far (p:=⟨wr.heap.size,2,none⟩) HG.out.2.symm _).far (p:=⟨wr.heap.size,1,none⟩) HG.out.2.symm _;have he6:Hid (Below w.heap.size w ((w5.setCell ⟨wr.heap.size,2,none⟩ (.int .u32 o.dl)).setCell ⟨wr.heap.size,1,none⟩ (.int .u8 o.fl))):=(HE5.out.setCell (p:=⟨wr.heap.size,2,none⟩) HE.out.size _).setCell (p:=⟨wr.heap.size,1,none⟩) HE.out.size _;obtain⟨w7,hst7,ho7,hb7⟩:=st20 (k*20) hp3.out (by rw[pathB,la9,HPL.out k,zea,Cm.cells_len Cm.zero_ok,HL.out];omega) (Cm.cells_len (HPO.out k)) (Cm.cells_one _);rw[HNX.out k (by rw[HL.out];exact hlt)]at hb7;have HB7:=qh hb7;have HC7:=qh (ho7.blk hc6.out (by have:=HG2.out;omega));have HE7:=qh (ho7.below he6.out HG1.out he6.out.size);generalize (pathC last hs k).cells=PC at *;generalize o.dl=D at *;generalize o.fl=F at *;generalize u8s last.m=LM at *;generalize last.k.toNat=LK at *;clear hb7 ho7 hc6 he6 hp3 HB6 hEq ho hoo hrg HCK HBC3 HBP3 HBC HBP hb4 hc4 hp4 he4 ho5 hb5 hs5 HP5 HC5 HE5 HCC HCO
      go_wp2_with (first
       | (refine zai rfl 47 [(0,.const (.int .u8 1))] rfl _ rr (.agg cm1.cells.toArray) (zsq _) ?_))
      go_roundg (n-(k+1))
      case measure=>have:=HGK.out;omega
      case rel=>exact⟨k+1,by omega,rfl,by go_num,HB7,HC7,HE7⟩
  · obtain rfl:k=n:=om
    have hlt2:¬(k:Int)<(k:Int):=om;have hb:=HBP.out;rw[←HL.out,zq8]at hb
    have hlen:((pathL last hs).flatMap Cm.cells).length=k*20:=by
     have:=HPL.out hs.length;rw[←HL.out];exact this
    have HF:Hid (RdS 20 wr (some ⟨w1.heap.size,0,none⟩) k ((pathL last hs).flatMap Cm.cells)):=⟨hlen,fun _=>⟨w1.heap.size,0,rfl,hb.lt,fun j u hu=>by rw[Nat.zero_add,hb.cell];exact hu⟩⟩;clear hb hlen;go_wp2;go_ret2;exact⟨_,rfl,HF.out,HE.out⟩
end
section
attribute [local go_sem ↓] zb0
theorem zmc(l:List UInt8)(hl:l.length=32)(w:World):
 Calls Tryz.prog 132 #[.agg (u8s l).toArray] w fun e w'=>∃g,e=.returned (.slice (some ⟨g,0,none⟩) 32 32)∧w.heap.size≤g∧Rd w' (some ⟨g,0,none⟩) 32 (u8s l)∧Below w.heap.size w w':=by
 have HLL:Hid ((u8s l).length=32):=by show _=_;rw[zaa,hl]
 have HL1:Hid (∀v∈u8s l,v.oneCell'=true):=zac _;generalize u8s l=L at *;have HB0:Hid (Blk (w.alloc (.cells L.toArray 23)) w.heap.size 23 L):=Blk.new _ _ _;have HE0:Hid (Below w.heap.size w (w.alloc (.cells L.toArray 23))):=(Below.refl _ w).alloc lr _;clear hl
 go_enter Tryz.func132, Tryz.ntmps132
 go_wp2_with (first
  | (at_make;refine zao rfl (.const (.int .i64 32)) (.const (.int .i64 32)) 22 rfl 5 (.int .u8 0) 1 Tryz.underlying22 iU8 rfl .i64 .i64 32 32 rr rr 32 32 rfl rfl om om om ?_;intro w1 hb1 hg1 hs1;have HE1:=qh (HE0.out.trans ((zaf hg1).mono HE0.out.size));have HB1:=qh (HB0.out.below (zaf hg1) HB0.out.lt);have HR1:Hid (Rd w1 (some ⟨w.heap.size,0,none⟩) 32 L):=by have h5:=HB1.out.rd 0 32 (by have:=HLL.out;omega);rwa [List.drop_zero,tk (by have:=HLL.out;omega)]at h5
     have HC1:Hid (Blk w1 (w.heap.size+1) 5 (rep 32 (.int .u8 0))):=by have e:(w.alloc (.cells L.toArray 23)).heap.size=w.heap.size+1:=by { simp };rw[←e];exact hb1
     clear hb1 hg1 hs1)
  | (refine za7 rfl (.tmp 5) (.tmp 6) 22 rfl 5 Tryz.underlying22 zbz (w.heap.size+1) 0 32 32 rr (some ⟨w.heap.size,0,none⟩) 32 32 rr 5 _ HC1.out L (by exact HR1.out) HL1.out (by rw[zar];omega) ?_;intro w2 hb2 ho2
     have hs:splice (rep 32 (.int .u8 0)) 0 (L.take 32)=L:=by
      rw[tk (by have:=HLL.out;omega)];exact zap _ _ (by rw[zar,HLL.out])
     rw[hs]at hb2;have HE2:=qh (ho2.below HE1.out om HE1.out.size);have HR2:Hid (Rd w2 (some ⟨w.heap.size+1,0,none⟩) 32 L):=by have h5:=hb2.rd 0 32 (by have:=HLL.out;omega);rwa [List.drop_zero,tk (by have:=HLL.out;omega)]at h5
     clear hb2 ho2 hs))
 go_ret;exact⟨w.heap.size+1,rfl,by omega,HR2.out,HE2.out⟩
theorem zlz(h:Ho)(hok:h.ok)(w:World):
 Calls Tryz.prog 90 #[.agg h.node.toArray] w fun e w'=>∃g,e=.returned (.slice (some ⟨g,0,none⟩) 32 32)∧w.heap.size≤g∧Rd w' (some ⟨g,0,none⟩) 32 (u8s h.pub)∧Below w.heap.size w w':=by
 have HCK:=qh (fun W=>zmc h.pub hok.2.2.1 W)
 have HL:Hid (∀W,Blk W w.heap.size 83 h.node→(ldAt 23 (.pointer (some ⟨w.heap.size,34,none⟩))).run Tryz.prog W=.ok (.agg (u8s h.pub).toArray) W):=fun W hb =>
  zal hb _ 34 (u8s h.pub) (by
   have e:h.node=(.string h.nm :: .int .u64 (h.id:Int) :: u8s h.priv)++u8s h.pub:=by simp[Ho.node]
   rw[e,List.drop_left' (by simp[zaa,hok.2.1]),tk lr]) _ Tryz.underlying23 rfl (by rw[zaa,hok.2.2.1];exact hd24)
 have HB0:Hid (Blk (w.alloc (.cells h.node.toArray 83)) w.heap.size 83 h.node):=Blk.new _ _ _;have HE0:Hid (Below w.heap.size w (w.alloc (.cells h.node.toArray 83))):=(Below.refl _ w).alloc lr _;have l1:=HL.out _ HB0.out;generalize h.node=N at *;clear hok
 go_enter Tryz.func90, Tryz.ntmps90
 go_wp2_with (go_at_call 132;(refine(HCK.out _).mono ?_);rintro e w1 ⟨g,rfl,hg,hr,hB⟩;have HE1:=qtr HE0 hB)
 go_ret;exact⟨g,rfl,Nat.le_trans HE0.out.size hg,hr,HE1.out⟩
end
section
theorem ldq_dn(v:Value):Instr.loadAt 83 v=ldAt 83 v:=rfl
attribute [local go_sem ↓] ldq_dn
theorem hd83:(Tryz.prog.info? 83).map (·.size)=some 66:=by kernel_rfl
def PubR(w:World)(g:Nat)(vs:List Value)(ls:List (List UInt8)):Prop :=
 ls.length=vs.length∧∀(i:Nat) (v:Value),vs[i]? = some v→∃l A c,v=.slice A 32 c∧32≤c∧ls[i]? = some l∧Rd w A 32 (u8s l)∧∀ad,A=some ad→ad.block<w.heap.size∧ad.block≠g
theorem zvz{vs:List Value}{k n:Nat}{z u:Value}(hv:vs.length=k)(hk:k<n):(vs++rep (n-k) z).set k u=(vs++[u])++rep (n-(k+1)) z:=by
 rw[List.set_append_right _ _ om,hv,Nat.sub_self,show n-k=(n-(k+1))+1 by omega]
 simp[rep,List.replicate_succ]
theorem PubR.nil(w:World)(g:Nat):PubR w g [] []:=⟨rfl,fun i v hv=>by simp at hv⟩
theorem PubR.below{w w':World}{g:Nat}{vs:List Value}{ls:List (List UInt8)}(h:PubR w g vs ls)(hB:Below w.heap.size w w'):PubR w' g vs ls:=by
 refine⟨h.1,fun i v hv=>?_⟩;obtain⟨l,A,c,e,hc,hl,hr,ha⟩:=h.2 i v hv;exact⟨l,A,c,e,hc,hl,hr.below hB,fun ad e2=>⟨Nat.lt_of_lt_of_le (ha ad e2).1 hB.size,(ha ad e2).2⟩⟩
theorem PubR.cell{w:World}{g i:Nat}{u:Value}{vs:List Value}{ls:List (List UInt8)}(h:PubR w g vs ls):PubR (w.setCell ⟨g,i,none⟩ u) g vs ls:=by
 have ho:Only w (w.setCell ⟨g,i,none⟩ u) g:=Only.of_setCells w g i [u];refine⟨h.1,fun j v hv=>?_⟩;obtain⟨l,A,c,e,hc,hl,hr,ha⟩:=h.2 j v hv;exact⟨l,A,c,e,hc,hl,ho.rd hr (fun ad e2=>(ha ad e2).2),fun ad e2=>⟨Nat.lt_of_lt_of_le (ha ad e2).1 ho.grown.size,(ha ad e2).2⟩⟩
theorem PubR.snoc{w:World}{g:Nat}{vs:List Value}{ls:List (List UInt8)}(h:PubR w g vs ls){A:Option Addr}{c:Nat}{l:List UInt8}(hc:32≤c)(hr:Rd w A 32 (u8s l))(ha:∀ad,A=some ad→ad.block≠g):PubR w g (vs++[.slice A 32 c]) (ls++[l]):=by
 refine⟨by simp[h.1],fun i v hv=>?_⟩
 rcases Nat.lt_or_ge i vs.length with hi|hi
 · rw[ll9 hi]at hv
   obtain⟨l',A',c',e,hc',hl',hr',ha'⟩:=h.2 i v hv;exact⟨l',A',c',e,hc',by rw[ll9 (by rw[h.1];exact hi)];exact hl',hr',ha'⟩
 · rw[ar9 hi]at hv
   have hi0:i-vs.length=0:=by
    have:=(gi9.1 hv).1
    simp at this
    omega
   rw[hi0]at hv;simp only[List.getElem?_cons_zero,Option.some.injEq]at hv;subst hv;exact⟨l,A,c,rfl,hc,by rw[ar9 (by rw[h.1];exact hi),h.1,hi0];rfl,hr,fun ad e2=>⟨hr.blk_lt om ad e2,ha ad e2⟩⟩
theorem PubR.rdB{w:World}{g n:Nat}{t:TypeId}{vs:List Value}{ls:List (List UInt8)}(h:PubR w g vs ls)(hb:Blk w g t vs)(hn:vs.length=n):RdB w (some ⟨g,0,none⟩) n ls:=by
 have h5:=hb.rd 0 n om;rw[List.drop_zero,tk om]at h5;refine⟨vs,h5,by rw[h.1,hn],fun i v hv=>?_⟩;obtain⟨l,A,c,e,hc,hl,hr,_⟩:=h.2 i v hv;exact⟨l,hl,A,32,c,e,hc,hr⟩
theorem zlq(A:Option Addr)(n c:Nat)(hs:List Ho)(w:World)(h:RdS 68 w A n (hs.flatMap Ho.cells))(hok:∀s∈hs,s.ok)(hl:hs.length=n)(hn:n≤1400000000000):
 Calls Tryz.prog 55 #[.slice A n c] w fun e w'=>∃A',e=.returned (.slice A' n n)∧RdB w' A' n (hs.map Ho.pub)∧Below w.heap.size w w':=by
 have HR:=qh h;have HK:=qh hok;have HL:=qh hl;clear h hok hl
 go_enter Tryz.func55, Tryz.ntmps55
 go_wp2_with (first
  | (at_make;refine zao rfl (.tmp 6) (.tmp 6) 87 rfl 22 (.slice none 0 0) 24 Tryz.underlying87 iSl rfl .i64 .i64 (n:Int) (n:Int) rr rr n n rfl rfl om om om ?_;intro w1 hb1 hg1 hs1;have HE1:=qh (zaf hg1);have HB1:=qh hb1;clear hb1 hg1 hs1))
 go_loopg [10] n (fun kk q wr=>∃(k:Nat) (vs:List Value),k≤n∧kk=n-k∧q=.int .i64 k∧Hid (vs.length=k)∧Hid (Blk wr w.heap.size 22 (vs++rep (n-k) (.slice none 0 0)))∧Hid (PubR wr w.heap.size vs ((hs.take k).map Ho.pub))∧Hid (Below w.heap.size w wr))
 case atStart=>exact⟨0,[],Nat.zero_le _,rfl,rfl,rfl,HB1,PubR.nil _ _,HE1⟩
 case round =>
  clear HB1 HE1;obtain⟨k,vs,hkn,hgk,rfl,HVL,HB,HP,HE⟩:=hrel;have HGK:=qh hgk;clear hgk
  by_cases hlt:k<n
  · have hlt2:(k:Int)<(n:Int):=om
    obtain⟨o,ho⟩:∃o,hs[k]? = some o:=⟨_,ge9 (by rw[HL.out];omega)⟩;have hoo:=HK.out o (mg9 ho);obtain⟨b,off,rfl,hb2,hrg⟩:=zbk (HR.out.bel HE.out lr) HK.out ho om
    have hld:(ldAt 83 (.pointer (some ⟨b,off+k*68,none⟩))).run Tryz.prog wr=.ok (.agg o.node.toArray) wr:=run_loadAt_mid wr b (off+k*68) 83 o.node _ (fun j v hv=>hrg j v (by
     have hj:j<o.node.length:=(gi9.1 hv).1
     rw[Ho.cells,ll9 hj];exact hv)) Tryz.underlying83 rfl (by rw[Ho.node_len hoo];exact hd83)
    have HNP:=qh (fun W=>zlz o hoo W);have HNX:Hid ((hs.take k).map Ho.pub++[o.pub]=(hs.take (k+1)).map Ho.pub):=by show _=_;rw[List.take_add_one,ho];simp
    generalize o.node=N at *;generalize o.pub=PB at *;clear ho hoo hrg
    go_wp2_with (first
    | (go_at_call 90;(refine(HNP.out _).mono ?_);rintro e w2 ⟨g2,rfl,hg2,hr2,hB2⟩;have HE2:=qtr HE hB2;have HB2:=qbl HB hB2;have HP2:=qh (HP.out.below hB2);have HR2:=qh hr2;have HG2:Hid (g2≠w.heap.size):=by have:=HB.out.lt;show _≠_;omega
       have c2:w2.cell? ⟨w.heap.size,k,none⟩=some (.slice none 0 0):=by rw[HB2.out.cell,ar9 (by rw[HVL.out];exact lr),HVL.out,Nat.sub_self];exact zqk om
       have f2:=HB2.out.frozen k
       clear hg2 hr2 hB2))
    have HB3:Hid (Blk (w2.setCell ⟨w.heap.size,k,none⟩ (.slice (some ⟨g2,0,none⟩) 32 32)) w.heap.size 22 ((vs++[.slice (some ⟨g2,0,none⟩) 32 32])++rep (n-(k+1)) (.slice none 0 0))):=by
     have h5:=HB2.out.set_ k (.slice (some ⟨g2,0,none⟩) 32 32)
     rwa [zvz HVL.out hlt]at h5
    have HP3:Hid (PubR (w2.setCell ⟨w.heap.size,k,none⟩ (.slice (some ⟨g2,0,none⟩) 32 32)) w.heap.size (vs++[.slice (some ⟨g2,0,none⟩) 32 32]) ((hs.take (k+1)).map Ho.pub)):=by
     rw[←HNX.out];refine HP2.out.cell.snoc lr ((Only.of_setCells w2 w.heap.size k [.slice (some ⟨g2,0,none⟩) 32 32]).rd HR2.out (fun ad e=>?_)) (fun ad e=>?_) <;> (injection e with e;subst e;exact HG2.out)
    have HE3:Hid (Below w.heap.size w (w2.setCell ⟨w.heap.size,k,none⟩ (.slice (some ⟨g2,0,none⟩) 32 32))):=HE2.out.setCell (p:=⟨w.heap.size,k,none⟩) lr _;have HVL3:Hid ((vs++[Value.slice (some ⟨g2,0,none⟩) 32 32]).length=k+1):=by show _=_;rw[la9,HVL.out];rfl
    go_roundg (n-(k+1))
    case measure=>have:=HGK.out;omega
    case rel=>exact⟨k+1,_,by omega,rfl,by go_num,HVL3,HB3,HP3,HE3⟩
  · obtain rfl:k=n:=om
    have hlt2:¬(k:Int)<(k:Int):=om
    have HF:Hid (RdB wr (some ⟨w.heap.size,0,none⟩) k (hs.map Ho.pub)):=by
     have hb:=HB.out;have hp:=HP.out;rw[Nat.sub_self,show rep 0 (Value.slice none 0 0)=[] from rfl,List.append_nil]at hb;rw[tk (by rw[HL.out];exact lr)]at hp;exact hp.rdB hb HVL.out
    go_wp2;go_ret;exact⟨_,rfl,HF.out,HE.out⟩
end
end Go.Proofs.YtpgpaenloaphaaaGreat
