/- Part of the proof. -/
import Derived.Test.YtadopcjppijgiaaGreatSkp33
set_option linter.all false
set_option maxRecDepth 100000
set_option maxHeartbeats 0
namespace Go.Proofs.YtadopcjppijgiaaGreat
open Go.RowKit
theorem RdS.belo{sz:Nat}{w w':World}{A:Option Addr}{n:Nat}{xs:List Value}(h:RdS sz w A n xs)(hb:Below w.heap.size w w'):RdS sz w' A n xs:=h.bel hb lr
theorem RdS.allo{sz:Nat}{w:World}{A:Option Addr}{n:Nat}{xs:List Value}(h:RdS sz w A n xs)(o:Obj):RdS sz (w.alloc o) A n xs:=h.bel ((Below.refl _ w).alloc lr o) lr
theorem zwj:∀(ps r:_) (sc:List (List UInt8)) (al:List UInt8),(∀s∈r,s.ok)→al.length=32→(sch r sc al ps).2=0→(sch r sc al ps).1.length=r.length+ps.length∧∀s∈(sch r sc al ps).1,s.ok
 | [],r,sc,al,h,_,_=>⟨by rw[sch];rfl,by rw[sch];exact h⟩
 | p :: ps,r,sc,al,h,ha,h0=>by
  rw[sch]at h0 ⊢
  by_cases hc:(chV (nrm p) sc).2=0
  · rw[if_pos hc]at h0 ⊢
    have hs:∀s∈r++[stp al (chV (nrm p) sc).1],s.ok:=fun s hs=>by
     rcases List.mem_append.1 hs with h1|h1
     · exact h s h1
     · rw[List.mem_singleton.1 h1];exact znm ha (zf0 _ _ (zec _))
    have h5:=zwj ps _ _ _ hs (zfk _ _) h0;refine⟨by rw[h5.1];simp;omega,h5.2⟩
  · rw[if_neg hc]at h0
    exact absurd h0 hc
theorem zus(xs:List UInt8):(pubB xs).length=32:=zfk _ _
theorem ztb{cs:List Cm}{n:Nat}(h:∀j c,cs[j]? = some c→c.check=0∧(decide (c.k=1)≠decide (j+1=n))):∀i,i≤cs.length→errN cs n i=0
 | 0,_=>rfl
 | i+1,hi=>by
  obtain⟨c,hc⟩:∃c,cs[i]? = some c:=⟨_,ge9 om⟩;obtain⟨h1,h2⟩:=h i c hc;have ih:=ztb h i om;rw[errN,hc];simp only;rw[if_neg (fun h=>h2 h.2),ih,h1]
  rfl
theorem zhl{last:Cm}{hs:List Ho}(h:pathE last hs=0):¬(last.k.toNat<2∨4<last.k.toNat)∧last.shaped=true∧∀(i:Nat) (o:Ho),0<i→hs[i]? = some o→o.id≠0:=by
 have h0:=h
 unfold pathE at h
 split at h
 · cases h
 rename_i h1
 split at h
 · cases h
 split at h
 · cases h
 split at h
 · cases h
 rename_i h4
 split at h
 · cases h
 rename_i h5
 refine⟨h1,by simpa using h4,fun i o hi ho e=>h5 (List.any_eq_true.2 ⟨o,?_,by simp[e]⟩)⟩;refine List.mem_of_getElem? (i:=i-1) ?_;rw[List.getElem?_drop,show 1+(i-1)=i by omega,ho]
theorem Cm.check_ok{c:Cm}(h1:¬(c.k.toNat<1∨4<c.k.toNat))(h2:c.shaped=true)(h3:c.d≤1000000):c.check=0:=by
 unfold Cm.check
 rw[if_neg h1,if_neg (by rw[h2];decide),if_neg om]
theorem k_ne1{k:UInt8}(h:¬(k.toNat<2∨4<k.toNat)):k≠1:=fun e=>by rw[e]at h;exact h (Or.inl (by decide))
theorem zr8{last:Cm}{hs:List Ho}(h:pathE last hs=0){j:Nat}(hj:j<hs.length):(pathC last hs j).check=0∧(decide ((pathC last hs j).k=1)≠decide (j+1=hs.length)):=by
 obtain⟨hb,h1,h5⟩:=zc8 h;obtain⟨hk,A,E⟩:=zhl h;obtain⟨o,ho⟩:∃o,hs[j]? = some o:=⟨_,ge9 hj⟩;obtain⟨g1,g2,g3,g4⟩:=Ho.bad_no (hb o (mg9 ho));have hd:o.dl.toNat≤1000000:=om
 by_cases hl:j+1<hs.length
 · obtain⟨o2,D⟩:∃o,hs[j+1]? = some o:=⟨_,ge9 hl⟩
   have hn:=E (j+1) o2 om D;have e:pathC last hs j=⟨1,UInt8.ofNat o.fl.toNat,o.dl.toNat,o2.id,List.replicate 16 0⟩:=by unfold pathC;rw[ho,D];simp only[if_pos hl];rfl
   rw[e];refine⟨Cm.check_ok (by show ¬((1:UInt8).toNat<1∨4<(1:UInt8).toNat);decide) ?_ hd,?_⟩
   · unfold Cm.shaped
     simp[hn]
   · have:¬j+1=hs.length:=om
     simp[this]
 · have e:pathC last hs j=⟨last.k,UInt8.ofNat o.fl.toNat,o.dl.toNat,0,last.m⟩:=by unfold pathC;rw[ho];simp only[if_neg hl]
   rw[e];have r:=k_ne1 hk;refine⟨Cm.check_ok (by show ¬(last.k.toNat<1∨4<last.k.toNat);omega) ?_ hd,?_⟩
   · unfold Cm.shaped at A ⊢
     by_cases hn0:last.n=0
     · simpa[r,hn0] using A
     · simp[r,hn0]at A
   · have:j+1=hs.length:=om
     simp[this,r]
theorem zcx(last:Cm)(hs:List Ho):(pathL last hs).length=hs.length:=by simp[pathL]
theorem zlg{last:Cm}{hs:List Ho}{j:Nat}{c:Cm}(h:(pathL last hs)[j]? = some c):j<hs.length∧c=pathC last hs j:=by
 have hj:=(gi9.1 h).1;rw[zcx]at hj;refine⟨hj,?_⟩
 simp[pathL,List.getElem?_map,List.getElem?_range hj]at h
 exact h.symm
theorem zff{last:Cm}(hc:last.ok){hs:List Ho}(r:∀s∈hs,s.ok)(h:pathE last hs=0):∀c∈pathL last hs,c.ok:=fun c hm=>by
 obtain⟨i,hi⟩:=List.getElem?_of_mem hm;obtain⟨_,rfl⟩:=zlg hi;exact zfg hc r (zc8 h).1 i
theorem zlf{last:Cm}{hs:List Ho}(h:pathE last hs=0):berr (pathL last hs) hs.length=0:=by
 obtain⟨_,h1,h5⟩:=zc8 h
 unfold berr
 rw[if_neg (by rw[zcx];omega)];refine ztb (fun j c hj=>?_) _ lr;obtain⟨r,rfl⟩:=zlg hj;rw[zcx];exact zr8 h r
noncomputable def scE(xs:List UInt8)(hs:List Ho):Nat:=if xs.length≠32∨hs.length<1∨5<hs.length then 2 else (sch [] [xs] (pubB xs) (hs.map Ho.pub)).2
noncomputable def scL(xs:List UInt8)(hs:List Ho):List Sp:=(sch [] [xs] (pubB xs) (hs.map Ho.pub)).1
def least3(a b c:Nat):Nat:=(leastOf [(a:Int),(b:Int),(c:Int)]).toNat
theorem zb8(m e:Nat):least1 (m:Int) (e:Int)=((if e≠0∧(m=0∨e<m) then e else m:Nat):Int):=by
 unfold least1
 by_cases h:e≠0∧(m=0∨e<m)
 · rw[if_pos h,if_pos om]
 · rw[if_neg h,if_neg om]
theorem zlt(a b c:Nat):leastOf [(a:Int),(b:Int),(c:Int)]=(least3 a b c:Int):=by
 have h:∃n:Nat,leastOf [(a:Int),(b:Int),(c:Int)]=(n:Int):=by
  have h0:least1 0 (a:Int)=((if a≠0∧((0:Nat)=0∨a<0) then a else 0:Nat):Int):=zb8 0 a;have g:∀m e:Nat,∃n:Nat,least1 (m:Int) (e:Int)=(n:Int):=fun m e=>⟨_,zb8 m e⟩
  obtain⟨x,hx⟩:∃x:Nat,least1 0 (a:Int)=(x:Int):=⟨_,h0⟩;obtain⟨y,hy⟩:=g x b;obtain⟨z,hz⟩:=g y c;exact⟨z,by show least1 (least1 (least1 0 (a:Int)) (b:Int)) (c:Int)=_;rw[hx,hy,hz]⟩
 obtain⟨n,hn⟩:=h;rw[least3,hn]
 rfl
theorem zvb{a b c:Nat}(h:least3 a b c=0):a=0∧b=0∧c=0:=by
 have h5:=zlt a b c;rw[h]at h5;have h0:least1 0 (a:Int)=((if a≠0∧((0:Nat)=0∨a<0) then a else 0:Nat):Int):=zb8 0 a;have h6:leastOf [(a:Int),(b:Int),(c:Int)]=least1 (least1 (least1 0 (a:Int)) (b:Int)) (c:Int):=rfl;rw[h6,h0,zb8,zb8]at h5;have h7:=Int.ofNat_inj.1 h5
 repeat' split at h7
 all_goals omega
theorem zip{xs:List UInt8}{hs:List Ho}(h:scE xs hs=0):xs.length=32∧(scL xs hs).length=hs.length∧∀s∈scL xs hs,s.ok:=by
 unfold scE at h
 split at h
 · cases h
 rename_i h1
 have h5:=zwj (hs.map Ho.pub) [] [xs] (pubB xs) (fun s hs=>by cases hs) (zus xs) h;refine⟨by omega,by rw[scL,h5.1];simp,h5.2⟩
def smLast(xs:List UInt8):Cm:=⟨4,0,0,0,if xs.length=80 then xs.drop 64 else List.replicate 16 0⟩
theorem zdb(xs:List UInt8):(smLast xs).ok:=by
 refine⟨by show(0:Nat)<_;decide,by show(0:Nat)<_;decide,?_⟩
 unfold smLast
 simp only
 split
 · rename_i h;simp[h]
 · simp
def szE(xs:List UInt8):Nat:=if xs.length=80 then 0 else 2
def idB(hs:List Ho):Bool:=match hs with | []=>false|h :: _=>h.id == 0
def idE(hs:List Ho):Nat:=if idB hs then 3 else 0
def sm3(xs:List UInt8)(hs:List Ho):Nat:=least3 (szE xs) (idE hs) (pathE (smLast xs) hs)
noncomputable def smE(xs:List UInt8)(hs:List Ho):Nat:=if sm3 xs hs≠0 then sm3 xs hs else scE (xs.take 32) hs
def smAll(xs:List UInt8):List UInt8:=if xs.length=80 then xs else 1 :: List.replicate 79 0
theorem zg7(xs:List UInt8):(smAll xs).length=80:=by unfold smAll;split;assumption;simp
theorem zo4(xs:List UInt8):(smAll xs).drop 64=(smLast xs).m:=by
 unfold smAll smLast
 split
 · rfl
 · simp
theorem ztf:∀(ks:List (List UInt8)) (u:List UInt8),(chV u ks).2=0∨(chV u ks).2=5
 | [],_=>.inl rfl
 | k :: ks,u=>by
  rw[chV]
  split
  · exact ztf ks _
  · rename_i h
    unfold mE at h ⊢
    split
    · right;rfl
    · rename_i h2;rw[if_neg h2]at h;exact absurd rfl h
theorem zq2:∀(ps r:_) (sc:List (List UInt8)) (al:List UInt8),(sch r sc al ps).2=0∨(sch r sc al ps).2=5
 | [],_,_,_=>.inl rfl
 | p :: ps,r,sc,al=>by
  rw[sch]
  split
  · exact zq2 ps _ _ _
  · exact ztf _ _
theorem zxk(xs:List UInt8)(hs:List Ho):scE xs hs=0∨scE xs hs=5∨(scE xs hs=2∧(xs.length≠32∨hs.length<1∨5<hs.length)):=by
 unfold scE
 split
 · rename_i h;exact .inr (.inr ⟨rfl,h⟩)
 · rcases zq2 (hs.map Ho.pub) [] [xs] (pubB xs)with h|h
   · exact .inl h
   · exact .inr (.inl h)
theorem zuy(last:Cm)(hs:List Ho):pathE last hs≤3:=by
 unfold pathE
 split
 · omega
 split
 · omega
 split
 · omega
 split
 · omega
 split <;> omega
theorem zr3{last:Cm}{hs:List Ho}(h:hs.length<1∨5<hs.length):pathE last hs=1∨pathE last hs=2:=by
 unfold pathE
 split
 · exact .inl rfl
 split
 · exact .inl rfl
 · first|exact .inr rfl|(rw[if_pos h];exact .inr rfl)
def mn(m e:Nat):Nat:=if e≠0∧(m=0∨e<m) then e else m
theorem zsq(a b c:Nat):least3 a b c=mn (mn (mn 0 a) b) c:=by
 have h0:least1 0 (a:Int)=((mn 0 a:Nat):Int):=zb8 0 a;have h6:leastOf [(a:Int),(b:Int),(c:Int)]=least1 (least1 (least1 0 (a:Int)) (b:Int)) (c:Int):=rfl;have h1:∀m e:Nat,least1 (m:Int) (e:Int)=((mn m e:Nat):Int):=zb8;rw[least3,h6,h0,h1,h1]
 rfl
theorem zsp(a b c d:Nat):leastOf [(a:Int),(b:Int),(c:Int),(d:Int)]=((mn (mn (mn (mn 0 a) b) c) d:Nat):Int):=by
 have h0:least1 0 (a:Int)=((mn 0 a:Nat):Int):=zb8 0 a;have h6:leastOf [(a:Int),(b:Int),(c:Int),(d:Int)]=least1 (least1 (least1 (least1 0 (a:Int)) (b:Int)) (c:Int)) (d:Int):=rfl;have h1:∀m e:Nat,least1 (m:Int) (e:Int)=((mn m e:Nat):Int):=zb8;rw[h6,h0,h1,h1,h1]
theorem idE_le(hs:List Ho):idE hs=0∨idE hs=3:=by
 unfold idE
 generalize idB hs=b
 cases b
 · exact .inl rfl
 · exact .inr rfl
theorem smE_is(xs:List UInt8)(hs:List Ho):leastOf [(szE xs:Int),(pathE (smLast xs) hs:Int),(scE ((smAll xs).take 32) hs:Int),(idE hs:Int)]=((smE xs hs:Nat):Int):=by
 rw[zsp];have hp:=zuy (smLast xs) hs;have hi:=idE_le hs;have r:=zxk ((smAll xs).take 32) hs;have hl:((smAll xs).take 32).length=32:=by rw[List.length_take,zg7];rfl
 have hf:=zr3 (last:=smLast xs) (hs:=hs)
 have hz:szE xs=0→(smAll xs).take 32=xs.take 32:=fun h=>by
  unfold szE at h
  split at h
  · rename_i h2;unfold smAll;rw[if_pos h2]
  · cases h
 have E:szE xs=0∨szE xs=2:=by unfold szE;split;exact .inl rfl;exact .inr rfl
 rw[smE,sm3,zsq]
 congr 1
 generalize hP:pathE (smLast xs) hs=p at *;generalize idE hs=f at *
 rcases E with h0|h0
 · have D:=hz h0
   rw[D]at r hl ⊢;rw[h0];clear hz D;generalize hS:scE (xs.take 32) hs=s at *
   have A:s=0∨s=5∨(s=2∧(p=1∨p=2)):=by
    rcases r with h|h|⟨h,h7⟩
    · exact .inl h
    · exact .inr (.inl h)
    · exact .inr (.inr ⟨h,hf (by rcases h7 with h8|h8;exact absurd hl h8;exact h8)⟩)
   clear r hf
   unfold mn
   rcases hi with rfl|rfl <;> rcases A with rfl|rfl|⟨rfl,rfl|rfl⟩ <;> simp
   all_goals (repeat' split) <;> omega
 · rw[h0]
   generalize scE ((smAll xs).take 32) hs=s at *;have A:s=0∨2≤s:=om;clear r hf
   unfold mn
   rcases hi with rfl|rfl <;> simp
   all_goals (repeat' split) <;> omega
theorem sm3_0{xs:List UInt8}{hs:List Ho}(h:sm3 xs hs=0):xs.length=80∧pathE (smLast xs) hs=0∧1≤hs.length∧hs.length≤5∧∀o,hs[0]? = some o→o.id≠0:=by
 obtain⟨h1,h2,h3⟩:=zvb h;obtain⟨_,h4,h5⟩:=zc8 h3;refine⟨?_,h3,h4,h5,fun o ho e=>?_⟩
 · unfold szE at h1
   split at h1
   · assumption
   · cases h1
 · unfold idE at h2
   cases hs with
   | nil=>simp at ho
   | cons a l=>simp at ho;subst ho;simp[idB,e]at h2
noncomputable def smH(xs:List UInt8)(hs:List Ho):List UInt8:=hst (pathL (smLast xs) hs) (scL (xs.take 32) hs) hs.length hs.length
def smSc(xs:List UInt8):List UInt8:=if xs.length=80 then xs.take 32 else List.replicate 32 0
def smOwn(xs:List UInt8):List UInt8:=if xs.length=80 then (xs.drop 32).take 32 else List.replicate 32 0
noncomputable def smPays(xs:List UInt8)(hs:List Ho):List (List UInt8):=(scL (xs.take 32) hs).map Sp.pay
def id0(hs:List Ho):Nat:=match hs with | []=>0|h :: _=>h.id
noncomputable def smL(xs:List UInt8)(hs:List Ho):List UInt8:=Sh.beBytes (id0 hs) 8++(smH xs hs++smOwn xs)
theorem zzp(n k:Nat):Sh.beBytes n (k+1)=Sh.beBytes (n/256) k++[UInt8.ofNat n]:=by
 induction k generalizing n with
 | zero=>simp[Sh.beBytes]
 | succ k ih =>
  have h5:Sh.beBytes n (k+1+1)=UInt8.ofNat (n/256^(k+1)) :: Sh.beBytes n (k+1):=rfl;have h6:Sh.beBytes (n/256) (k+1)=UInt8.ofNat (n/256/256^k) :: Sh.beBytes (n/256) k:=rfl;rw[h5,h6,ih,List.cons_append,Nat.div_div_eq_div_mul,Nat.pow_succ,Nat.mul_comm 256]
theorem zow:∀(k n:Nat),n<256^k→beNat (Sh.beBytes n k)=n
 | 0,n,h=>by simp at h;subst h;rfl
 | k+1,n,h=>by
  rw[zzp,zf1,zow k (n/256) (by rw[Nat.pow_succ]at h;omega)]
  simp
  omega
section
attribute [local go_sem ↓] zb0
theorem zm9(l:List UInt8)(hl:l.length=32)(w:World):
 Calls Tryz.prog 74 #[.agg (u8s l).toArray] w fun e w'=>∃g,e=.returned (.slice (some ⟨g,0,none⟩) 32 32)∧w.heap.size≤g∧Rd w' (some ⟨g,0,none⟩) 32 (u8s l)∧Below w.heap.size w w':=by
 have r:Hid ((u8s l).length=32):=by show _=_;rw[zaa,hl]
 have a2:Hid (∀v∈u8s l,v.oneCell'=true):=zac _;generalize u8s l=L at *;have E:Hid (Blk (w.alloc (.cells L.toArray 27)) w.heap.size 27 L):=Blk.new _ _ _;have I:Hid (Below w.heap.size w (w.alloc (.cells L.toArray 27))):=(Below.refl _ w).alloc lr _;clear hl
 go_enter Tryz.func74, Tryz.ntmps74
 go_wp2_with (first
  | (at_make;refine zaj rfl (.const (.int .i64 32)) (.const (.int .i64 32)) 22 rfl 5 (.int .u8 0) 1 Tryz.underlying22 iU8 rfl .i64 .i64 32 32 rr rr 32 32 rfl rfl om om om ?_;intro w1 G A Y;have M:=qh (I.o.trans ((zad A).mono I.o.size));have a1:=qh (E.o.below (zad A) E.o.lt);have X:Hid (Rd w1 (some ⟨w.heap.size,0,none⟩) 32 L):=by have h5:=a1.o.rd 0 32 (by have:=r.o;omega);rwa [List.drop_zero,tk (by have:=r.o;omega)]at h5
     have U:Hid (Blk w1 (w.heap.size+1) 5 (rep 32 (.int .u8 0))):=by have e:(w.alloc (.cells L.toArray 27)).heap.size=w.heap.size+1:=by { simp };rw[←e];exact G
     clear G A Y)
  | (refine zav rfl (.tmp 5) (.tmp 6) 22 rfl 5 Tryz.underlying22 zbk (w.heap.size+1) 0 32 32 rr (some ⟨w.heap.size,0,none⟩) 32 32 rr 5 _ U.o L (by exact X.o) a2.o (by rw[zao];omega) ?_;intro w2 D J
     have hs:splice (rep 32 (.int .u8 0)) 0 (L.take 32)=L:=by
      rw[tk (by have:=r.o;omega)];exact zap _ _ (by rw[zao,r.o])
     rw[hs]at D;have a0:=qh (J.below M.o om M.o.size);have V:Hid (Rd w2 (some ⟨w.heap.size+1,0,none⟩) 32 L):=by have h5:=D.rd 0 32 (by have:=r.o;omega);rwa [List.drop_zero,tk (by have:=r.o;omega)]at h5
     clear D J hs))
 go_ret;exact⟨w.heap.size+1,rfl,by omega,V.o,a0.o⟩
theorem zmu(h:Ho)(r:h.ok)(w:World):
 Calls Tryz.prog 45 #[.agg h.node.toArray] w fun e w'=>∃g,e=.returned (.slice (some ⟨g,0,none⟩) 32 32)∧w.heap.size≤g∧Rd w' (some ⟨g,0,none⟩) 32 (u8s h.pub)∧Below w.heap.size w w':=by
 have E:=qh (fun W=>zm9 h.pub r.2.2.1 W)
 have HL:Hid (∀W,Blk W w.heap.size 67 h.node→(ldAt 27 (.pointer (some ⟨w.heap.size,34,none⟩))).run Tryz.prog W=.ok (.agg (u8s h.pub).toArray) W):=fun W hb =>
  zal hb _ 34 (u8s h.pub) (by
   have e:h.node=(.string h.nm :: .int .u64 (h.id:Int) :: u8s h.priv)++u8s h.pub:=by simp[Ho.node]
   rw[e,List.drop_left' (by simp[zaa,r.2.1]),tk lr]) _ Tryz.underlying27 rfl (by rw[zaa,r.2.2.1];exact hd24)
 have D:Hid (Blk (w.alloc (.cells h.node.toArray 67)) w.heap.size 67 h.node):=Blk.new _ _ _;have A:Hid (Below w.heap.size w (w.alloc (.cells h.node.toArray 67))):=(Below.refl _ w).alloc lr _;have l1:=HL.o _ D.o;generalize h.node=N at *;clear r
 go_enter Tryz.func45, Tryz.ntmps45
 go_wp2_with (go_at_call 74;(refine(E.o _).mono ?_);rintro e w1 ⟨g,rfl,hg,hr,hB⟩;have G:=qtr A hB)
 go_ret;exact⟨g,rfl,Nat.le_trans A.o.size hg,hr,G.o⟩
end
section
theorem ldq_dn(v:Value):Instr.loadAt 67 v=ldAt 67 v:=rfl
attribute [local go_sem ↓] ldq_dn
theorem hd83:(Tryz.prog.info? 67).map (·.size)=some 66:=by kernel_rfl
def PubR(w:World)(g:Nat)(vs:List Value)(ls:List (List UInt8)):Prop :=
 ls.length=vs.length∧∀(i:Nat) (v:Value),vs[i]? = some v→∃l A c,v=.slice A 32 c∧32≤c∧ls[i]? = some l∧Rd w A 32 (u8s l)∧∀ad,A=some ad→ad.block<w.heap.size∧ad.block≠g
theorem zxi{vs:List Value}{k n:Nat}{z u:Value}(hv:vs.length=k)(hk:k<n):(vs++rep (n-k) z).set k u=(vs++[u])++rep (n-(k+1)) z:=by
 rw[List.set_append_right _ _ om,hv,Nat.sub_self,show n-k=(n-(k+1))+1 by omega]
 simp[rep,List.replicate_succ]
theorem PubR.nil(w:World)(g:Nat):PubR w g [] []:=⟨rfl,fun i v hv=>by simp at hv⟩
theorem PubR.below{w w':World}{g:Nat}{vs:List Value}{ls:List (List UInt8)}(h:PubR w g vs ls)(hB:Below w.heap.size w w'):PubR w' g vs ls:=by
 refine⟨h.1,fun i v hv=>?_⟩;obtain⟨l,A,c,e,hc,hl,hr,ha⟩:=h.2 i v hv;exact⟨l,A,c,e,hc,hl,hr.below hB,fun ad e2=>⟨Nat.lt_of_lt_of_le (ha ad e2).1 hB.size,(ha ad e2).2⟩⟩
theorem PubR.cell{w:World}{g i:Nat}{u:Value}{vs:List Value}{ls:List (List UInt8)}(h:PubR w g vs ls):PubR (w.setCell ⟨g,i,none⟩ u) g vs ls:=by
 have ho:Only w (w.setCell ⟨g,i,none⟩ u) g:=Only.of_setCells w g i [u];refine⟨h.1,fun j v hv=>?_⟩;obtain⟨l,A,c,e,hc,hl,hr,ha⟩:=h.2 j v hv;exact⟨l,A,c,e,hc,hl,ho.rd hr (fun ad e2=>(ha ad e2).2),fun ad e2=>⟨Nat.lt_of_lt_of_le (ha ad e2).1 ho.grown.size,(ha ad e2).2⟩⟩
theorem PubR.snoc{w:World}{g:Nat}{vs:List Value}{ls:List (List UInt8)}(h:PubR w g vs ls){A:Option Addr}{c:Nat}{l:List UInt8}(hc:32≤c)(hr:Rd w A 32 (u8s l))(ha:∀ad,A=some ad→ad.block≠g):PubR w g (vs++[.slice A 32 c]) (ls++[l]):=by
 refine⟨by simp[h.1],fun i v hv=>?_⟩
 rcases Nat.lt_or_ge i vs.length with hi|hi
 · rw[ll9 hi]at hv
   obtain⟨l',A',c',e,D,G,E,I⟩:=h.2 i v hv;exact⟨l',A',c',e,D,by rw[ll9 (by rw[h.1];exact hi)];exact G,E,I⟩
 · rw[ar9 hi]at hv
   have r:i-vs.length=0:=by
    have:=(gi9.1 hv).1
    simp at this
    omega
   rw[r]at hv;simp only[List.getElem?_cons_zero,Option.some.injEq]at hv;subst hv;exact⟨l,A,c,rfl,hc,by rw[ar9 (by rw[h.1];exact hi),h.1,r];rfl,hr,fun ad e2=>⟨hr.blk_lt om ad e2,ha ad e2⟩⟩
theorem PubR.rdB{w:World}{g n:Nat}{t:TypeId}{vs:List Value}{ls:List (List UInt8)}(h:PubR w g vs ls)(hb:Blk w g t vs)(hn:vs.length=n):RdB w (some ⟨g,0,none⟩) n ls:=by
 have h5:=hb.rd 0 n om;rw[List.drop_zero,tk om]at h5;refine⟨vs,h5,by rw[h.1,hn],fun i v hv=>?_⟩;obtain⟨l,A,c,e,hc,hl,hr,_⟩:=h.2 i v hv;exact⟨l,hl,A,32,c,e,hc,hr⟩
theorem zmk(A:Option Addr)(n c:Nat)(hs:List Ho)(w:World)(h:RdS 68 w A n (hs.flatMap Ho.cells))(a0:∀s∈hs,s.ok)(hl:hs.length=n)(hn:n≤1400000000000):
 Calls Tryz.prog 21 #[.slice A n c] w fun e w'=>∃A',e=.returned (.slice A' n n)∧RdB w' A' n (hs.map Ho.pub)∧Below w.heap.size w w':=by
 have HR:=qh h;have HK:=qh a0;have HL:=qh hl;clear h a0 hl
 go_enter Tryz.func21, Tryz.ntmps21
 go_wp2_with (first
  | (at_make;refine zaj rfl (.tmp 6) (.tmp 6) 57 rfl 22 (.slice none 0 0) 24 Tryz.underlying57 iSl rfl .i64 .i64 (n:Int) (n:Int) rr rr n n rfl rfl om om om ?_;intro w1 a1 U b3;have a3:=qh (zad U);have X:=qh a1;clear a1 U b3))
 go_loopg [10] n (fun kk q wr=>∃(k:Nat) (vs:List Value),k≤n∧kk=n-k∧q=.int .i64 k∧Hid (vs.length=k)∧Hid (Blk wr w.heap.size 22 (vs++rep (n-k) (.slice none 0 0)))∧Hid (PubR wr w.heap.size vs ((hs.take k).map Ho.pub))∧Hid (Below w.heap.size w wr))
 case atStart=>exact⟨0,[],Nat.zero_le _,rfl,rfl,rfl,X,PubR.nil _ _,a3⟩
 case round =>
  clear X a3;obtain⟨k,vs,b7,J,rfl,r,HB,HP,HE⟩:=hrel;have a7:=qh J;clear J
  by_cases hlt:k<n
  · have Y:(k:Int)<(n:Int):=om
    obtain⟨o,ho⟩:∃o,hs[k]? = some o:=⟨_,ge9 (by rw[HL.o];omega)⟩;have G:=HK.o o (mg9 ho);obtain⟨b,V,rfl,b9,M⟩:=zbl (HR.o.bel HE.o lr) HK.o ho om
    have c0:(ldAt 67 (.pointer (some ⟨b,V+k*68,none⟩))).run Tryz.prog wr=.ok (.agg o.node.toArray) wr:=run_loadAt_mid wr b (V+k*68) 67 o.node _ (fun j v hv=>M j v (by
     have hj:j<o.node.length:=(gi9.1 hv).1
     rw[Ho.cells,ll9 hj];exact hv)) Tryz.underlying67 rfl (by rw[Ho.node_len G];exact hd83)
    have b5:=qh (fun W=>zmu o G W);have a4:Hid ((hs.take k).map Ho.pub++[o.pub]=(hs.take (k+1)).map Ho.pub):=by show _=_;rw[List.take_add_one,ho];simp
    generalize o.node=N at *;generalize o.pub=PB at *;clear ho G M
    go_wp2_with (first
    | (go_at_call 45;(refine(b5.o _).mono ?_);rintro e w2 ⟨g2,rfl,b1,I,D⟩;have b4:=qtr HE D;have E:=qbl HB D;have b6:=qh (HP.o.below D);have a9:=qh I;have a8:Hid (g2≠w.heap.size):=by have:=HB.o.lt;show _≠_;omega
       have c2:w2.cell? ⟨w.heap.size,k,none⟩=some (.slice none 0 0):=by rw[E.o.cell,ar9 (by rw[r.o];exact lr),r.o,Nat.sub_self];exact zhc om
       have f2:=E.o.frozen k
       clear b1 I D))
    have a5:Hid (Blk (w2.setCell ⟨w.heap.size,k,none⟩ (.slice (some ⟨g2,0,none⟩) 32 32)) w.heap.size 22 ((vs++[.slice (some ⟨g2,0,none⟩) 32 32])++rep (n-(k+1)) (.slice none 0 0))):=by
     have h5:=E.o.set_ k (.slice (some ⟨g2,0,none⟩) 32 32)
     rwa [zxi r.o hlt]at h5
    have a6:Hid (PubR (w2.setCell ⟨w.heap.size,k,none⟩ (.slice (some ⟨g2,0,none⟩) 32 32)) w.heap.size (vs++[.slice (some ⟨g2,0,none⟩) 32 32]) ((hs.take (k+1)).map Ho.pub)):=by
     rw[←a4.o];refine b6.o.cell.snoc lr ((Only.of_setCells w2 w.heap.size k [.slice (some ⟨g2,0,none⟩) 32 32]).rd a9.o (fun ad e=>?_)) (fun ad e=>?_) <;> (injection e with e;subst e;exact a8.o)
    have b2:Hid (Below w.heap.size w (w2.setCell ⟨w.heap.size,k,none⟩ (.slice (some ⟨g2,0,none⟩) 32 32))):=b4.o.setCell (p:=⟨w.heap.size,k,none⟩) lr _;have a2:Hid ((vs++[Value.slice (some ⟨g2,0,none⟩) 32 32]).length=k+1):=by show _=_;rw[la9,r.o];rfl
    go_roundg (n-(k+1))
    case measure=>have:=a7.o;omega
    case rel=>exact⟨k+1,_,by omega,rfl,by go_num,a2,a5,a6,b2⟩
  · obtain rfl:k=n:=om
    have Y:¬(k:Int)<(k:Int):=om
    have HF:Hid (RdB wr (some ⟨w.heap.size,0,none⟩) k (hs.map Ho.pub)):=by
     have hb:=HB.o;have hp:=HP.o;rw[Nat.sub_self,show rep 0 (Value.slice none 0 0)=[] from rfl,List.append_nil]at hb;rw[tk (by rw[HL.o];exact lr)]at hp;exact hp.rdB hb r.o
    go_wp2;go_ret;exact⟨_,rfl,HF.o,HE.o⟩
end
theorem szSp(w:World):(sizeOf 83).run Tryz.prog w=.ok 192 w:=by kernel_rfl
theorem PubR.wrote{w w':World}{g:Nat}{vs:List Value}{ls:List (List UInt8)}(h:PubR w g vs ls)(hw:Wrote g w w'):PubR w' g vs ls:=by
 refine⟨h.1,fun i v hv=>?_⟩;obtain⟨l,A,c,e,hc,hl,hr,ha⟩:=h.2 i v hv;exact⟨l,A,c,e,hc,hl,hr.wrote hw (fun _ ad e2=>(ha ad e2).2),fun ad e2=>⟨Nat.lt_of_lt_of_le (ha ad e2).1 hw.size,(ha ad e2).2⟩⟩
theorem Wrote.fresh{w w1 w2:World}{g g2:Nat}(hb:Wrote g w w1)(h:Only w1 w2 g2)(hg:w.heap.size≤g2):Wrote g w w2 :=
 ⟨h.grown.os.trans hb.os,h.grown.tape.trans hb.tape,h.grown.output.trans hb.output,Nat.le_trans hb.size h.grown.size,fun k hk hne=>(h.grown.block k (Nat.lt_of_lt_of_le hk hb.size) (fun e=>by injection e with e;omega)).trans (hb.block k hk hne)⟩
theorem Sp.pay_at{s:Sp}(h:s.ok):(s.bytes.drop 64).take 32=s.pay:=by
 have e:s.bytes=(s.mac++s.stream)++(s.pay++(s.blind++(s.alpha++s.secret))):=by simp[Sp.bytes]
 rw[e,List.drop_left' (by simp[h.1,h.2.1]),List.take_left' h.2.2.1]
section
attribute [local go_sem ↓] zch
theorem zux(last:Cm)(hc:last.ok)(A:Option Addr)(n c:Nat)(hs:List Ho)(w:World)(h:RdS 68 w A n (hs.flatMap Ho.cells))(r:∀s∈hs,s.ok)(hl:hs.length=n)(hn:n≤140737488355328):
 Calls Tryz.prog 18 #[.agg last.cells.toArray,.slice A n c] w fun e w'=>∃A' n',e=.returned (.tuple #[.slice A' n' n',.int .i64 (pathE last hs:Int)])∧(pathE last hs=0→n'=n∧RdS 20 w' A' n ((pathL last hs).flatMap Cm.cells))∧Below w.heap.size w w':=by
 by_cases he:pathE last hs=0
 · refine(zn1 last hc A n c hs w h r hl he).mono ?_
   rintro e w' ⟨A',rfl,hr,hB⟩;exact⟨A',n,by rw[he];rfl,fun _=>⟨rfl,hr⟩,hB⟩
 · refine(zyc last hc A n c hs w h r hl hn he).mono ?_
   rintro e w' ⟨rfl,hB⟩;exact⟨none,0,rfl,fun h=>absurd h he,hB⟩
theorem zq1(A C:Option Addr)(n c m d:Nat)(xs:List UInt8)(hs:List Ho)(w:World)(hx:Rd w A n (u8s xs))(hc:n≤c)(hp:RdB w C m (hs.map Ho.pub))(E:∀s∈hs,s.ok)(hm:hs.length=m):
 Calls Tryz.prog 20 #[.slice A n c,.slice C m d] w fun e w'=>∃A' n' c',e=.returned (.tuple #[.slice A' n' c',.int .i64 (scE xs hs:Int)])∧n'≤c'∧(scE xs hs=0→n'=m∧RdS 192 w' A' m ((scL xs hs).flatMap Sp.cells))∧Below w.heap.size w w':=by
 have hn:xs.length=n:=hx.len
 by_cases hb:n≠32∨m<1∨5<m
 · refine(zub A C n c m d w hb).mono ?_
   rintro e w' ⟨rfl,rfl⟩;have e2:scE xs hs=2:=by rw[scE,if_pos (by rw[hn,hm];exact hb)]
   exact⟨none,0,0,by rw[e2];rfl,lr,fun h=>(by rw[e2]at h;cases h),Below.refl _ _⟩
 · obtain rfl:n=32:=om
   have e2:scE xs hs=(sch [] [xs] (pubB xs) (hs.map Ho.pub)).2:=by rw[scE,if_neg (by rw[hn,hm];exact hb)]
   refine(zqz A C c m d xs (hs.map Ho.pub) w hx hc hp (fun p hp=>by obtain⟨o,ho,rfl⟩:=List.mem_map.1 hp;exact(E o ho).2.2.1) om om).mono ?_;rintro e w' ⟨A',n',c',rfl,r,hr,D,hB⟩;refine⟨A',n',c',by rw[e2],r,fun h=>?_,hB⟩;have h7:(scL xs hs).length=hs.length:=(zip h).2.1;have h8:n'=m:=by rw[←D,←hm];exact h7
   subst h8;exact⟨rfl,hr⟩
theorem znw(w:World)(ty:TypeId)(a b c:Int):Rd (w.alloc (.cells #[.int .i64 a,.int .i64 b,.int .i64 c] ty)) (some ⟨w.heap.size,0,none⟩) 3 (i64s [a,b,c]):=⟨rfl,fun _=>⟨w.heap.size,0,rfl,by simp,fun j u hu=>by rw[Nat.zero_add];exact((Blk.new w ty (i64s [a,b,c])).cell j).trans hu⟩⟩
end
theorem zgf(D b:List UInt8)(r:Nat)(hb:32≤b.length):Wd.turn D (Wd.turn D b r) r=b:=by
 have A:(b.take 32).length=32:=by rw[List.length_take];omega
 unfold Wd.turn
 by_cases hr:r=2∨r=4
 · have hx:(Ch.xor (b.take 32) (Mc.tag D (b.drop 32))).length=32:=by rw[Ch.xor_len _ _ (by rw[Mc.tag_len,A]),A]
   rw[if_pos hr,if_pos hr,List.take_left' hx,List.drop_left' hx,Ch.xor_self _ _ (by rw[Mc.tag_len,A]),List.take_append_drop]
 · have hx:(Ch.xor (b.drop 32) (Ch.piece (Ch.xor D (b.take 32)) 0 (b.drop 32).length)).length=(b.drop 32).length:=Ch.xor_len _ _ (by rw[Ch.piece_len])
   rw[if_neg hr,if_neg hr,List.take_left' A,List.drop_left' A,hx,Ch.xor_self _ _ (by rw[Ch.piece_len]),List.take_append_drop]
theorem zkz(r b:List UInt8)(hb:32≤b.length):Wd.open_ r (Wd.seal_ r b)=b:=by
 have h1:=Wd.turn_len (Wd.derive r (Wd.label 1)) b 1 hb;have h2:=Wd.turn_len (Wd.derive r (Wd.label 2)) _ 2 (show 32≤(Wd.turn (Wd.derive r (Wd.label 1)) b 1).length by omega);have h3:=Wd.turn_len (Wd.derive r (Wd.label 3)) _ 3 (show 32≤(Wd.turn (Wd.derive r (Wd.label 2)) (Wd.turn (Wd.derive r (Wd.label 1)) b 1) 2).length by omega);simp only[Wd.open_,Wd.seal_,Wd.rounds];rw[zgf _ _ 4 om,zgf _ _ 3 om,zgf _ _ 2 om,zgf _ _ 1 hb]
def ansF(msg:List UInt8):List UInt8:=Wd.frame 3 0 1 0 msg
theorem ztq(n:Nat):allZ (Ch.zeros n)=true:=by simp[allZ,Ch.zeros,List.all_replicate]
theorem zqb(r:List UInt8)(h:r.length≤450):allZ ((ansF r).take 16)=true∧fK (ansF r)=3∧fI (ansF r)=0∧fC (ansF r)=1∧fZ (ansF r)=0∧fD (ansF r)=0∧fN (ansF r)=r.length∧fData (ansF r)=r∧allZ ((ansF r).drop (30+r.length))=true:=by
 have hz:(Ch.zeros 16).length=16:=rfl;have G:∀t:List UInt8,(Ch.zeros 16++t).drop 16=t:=fun t=>List.drop_left' hz
 have D:(ansF r).drop 20=Sh.beBytes 0 8++(Sh.beBytes r.length 2++(r++Ch.zeros (450-r.length))):=by
  rw[show 20=16+4 by rfl,←List.drop_drop,ansF,Wd.frame,G];exact List.drop_left' rfl
 have A:(ansF r).drop 28=Sh.beBytes r.length 2++(r++Ch.zeros (450-r.length)):=by
  rw[show 28=20+8 by rfl,←List.drop_drop,D];exact List.drop_left' (Sh.beBytes_len 0 8)
 have E:(ansF r).drop 30=r++Ch.zeros (450-r.length):=by
  rw[show 30=28+2 by rfl,←List.drop_drop,A];exact List.drop_left' (Sh.beBytes_len _ 2)
 have hN:fN (ansF r)=r.length:=by
  rw[fN,A,List.take_left' (Sh.beBytes_len _ 2)];exact zow 2 _ om
 refine⟨?_,rfl,rfl,rfl,rfl,?_,hN,?_,?_⟩
 · rw[ansF,Wd.frame,List.take_left' hz];exact ztq 16
 · rw[fD,D,List.take_left' (Sh.beBytes_len 0 8)]
   exact zow 8 0 (by decide)
 · rw[fData,E,hN,List.take_left' rfl]
 · rw[←List.drop_drop,E,List.drop_left' rfl];exact ztq _
theorem zwa(r:List UInt8)(h:r.length≤450):(ansF r).length=480:=by
 simp[ansF,Wd.frame,Sh.beBytes_len,Ch.zeros];omega
