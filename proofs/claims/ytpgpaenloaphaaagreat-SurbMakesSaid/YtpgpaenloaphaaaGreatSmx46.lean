/- Part of the proof. -/
import Derived.Test.YtpgpaenloaphaaaGreatSmx45
set_option maxRecDepth 100000
set_option maxHeartbeats 0
namespace Go.Proofs.YtpgpaenloaphaaaGreat
open Go.RowKit
theorem RdS.belo{sz:Nat}{w w':World}{A:Option Addr}{n:Nat}{xs:List Value}(h:RdS sz w A n xs)(hb:Below w.heap.size w w'):RdS sz w' A n xs:=h.bel hb lr
theorem RdS.allo{sz:Nat}{w:World}{A:Option Addr}{n:Nat}{xs:List Value}(h:RdS sz w A n xs)(o:Obj):RdS sz (w.alloc o) A n xs:=h.bel ((Below.refl _ w).alloc lr o) lr
theorem zu5:∀(ps acc:_) (sc:List (List UInt8)) (al:List UInt8),(∀s∈acc,s.ok)→al.length=32→(sch acc sc al ps).2=0→(sch acc sc al ps).1.length=acc.length+ps.length∧∀s∈(sch acc sc al ps).1,s.ok
 | [],acc,sc,al,h,_,_=>⟨by rw[sch];rfl,by rw[sch];exact h⟩
 | p :: ps,acc,sc,al,h,ha,h0=>by
  rw[sch]at h0 ⊢
  by_cases hc:(chV (nrm p) sc).2=0
  · rw[if_pos hc]at h0 ⊢
    have hs:∀s∈acc++[stp al (chV (nrm p) sc).1],s.ok:=fun s hs=>by
     rcases List.mem_append.1 hs with h1|h1
     · exact h s h1
     · rw[List.mem_singleton.1 h1];exact zmq ha (zfs _ _ (zd7 _))
    have h5:=zu5 ps _ _ _ hs (zfc _ _) h0;refine⟨by rw[h5.1];simp;omega,h5.2⟩
  · rw[if_neg hc]at h0
    exact absurd h0 hc
theorem ztn(xs:List UInt8):(pubB xs).length=32:=zfc _ _
theorem zsd{cs:List Cm}{n:Nat}(h:∀j c,cs[j]? = some c→c.check=0∧(decide (c.k=1)≠decide (j+1=n))):∀i,i≤cs.length→errN cs n i=0
 | 0,_=>rfl
 | i+1,hi=>by
  obtain⟨c,hc⟩:∃c,cs[i]? = some c:=⟨_,ge9 om⟩;obtain⟨h1,h2⟩:=h i c hc;have ih:=zsd h i om;rw[errN,hc];simp only;rw[if_neg (fun h=>h2 h.2),ih,h1]
  rfl
theorem zg7{last:Cm}{hs:List Ho}(h:pathE last hs=0):¬(last.k.toNat<2∨4<last.k.toNat)∧last.shaped=true∧∀(i:Nat) (o:Ho),0<i→hs[i]? = some o→o.id≠0:=by
 have h0:=h
 unfold pathE at h
 split at h
 · cases h
 rename_i h1
 split at h
 · cases h
 split at h
 · cases h
 split at h
 · cases h
 rename_i h4
 split at h
 · cases h
 rename_i h5
 refine⟨h1,by simpa using h4,fun i o hi ho e=>h5 (List.any_eq_true.2 ⟨o,?_,by simp[e]⟩)⟩;refine List.mem_of_getElem? (i:=i-1) ?_;rw[List.getElem?_drop,show 1+(i-1)=i by omega,ho]
theorem Cm.check_ok{c:Cm}(h1:¬(c.k.toNat<1∨4<c.k.toNat))(h2:c.shaped=true)(h3:c.d≤1000000):c.check=0:=by
 unfold Cm.check
 rw[if_neg h1,if_neg (by rw[h2];decide),if_neg om]
theorem k_ne1{k:UInt8}(h:¬(k.toNat<2∨4<k.toNat)):k≠1:=fun e=>by rw[e]at h;exact h (Or.inl (by decide))
theorem zq7{last:Cm}{hs:List Ho}(h:pathE last hs=0){j:Nat}(hj:j<hs.length):(pathC last hs j).check=0∧(decide ((pathC last hs j).k=1)≠decide (j+1=hs.length)):=by
 obtain⟨hb,h1,h5⟩:=zc6 h;obtain⟨hk,hsh,hid⟩:=zg7 h;obtain⟨o,ho⟩:∃o,hs[j]? = some o:=⟨_,ge9 hj⟩;obtain⟨g1,g2,g3,g4⟩:=Ho.bad_no (hb o (mg9 ho));have hd:o.dl.toNat≤1000000:=om
 by_cases hl:j+1<hs.length
 · obtain⟨o2,ho2⟩:∃o,hs[j+1]? = some o:=⟨_,ge9 hl⟩
   have hn:=hid (j+1) o2 om ho2;have e:pathC last hs j=⟨1,UInt8.ofNat o.fl.toNat,o.dl.toNat,o2.id,List.replicate 16 0⟩:=by unfold pathC;rw[ho,ho2];simp only[if_pos hl];rfl
   rw[e];refine⟨Cm.check_ok (by show ¬((1:UInt8).toNat<1∨4<(1:UInt8).toNat);decide) ?_ hd,?_⟩
   · unfold Cm.shaped
     simp[hn]
   · have:¬j+1=hs.length:=om
     simp[this]
 · have e:pathC last hs j=⟨last.k,UInt8.ofNat o.fl.toNat,o.dl.toNat,0,last.m⟩:=by unfold pathC;rw[ho];simp only[if_neg hl]
   rw[e];have hk1:=k_ne1 hk;refine⟨Cm.check_ok (by show ¬(last.k.toNat<1∨4<last.k.toNat);omega) ?_ hd,?_⟩
   · unfold Cm.shaped at hsh ⊢
     by_cases hn0:last.n=0
     · simpa[hk1,hn0] using hsh
     · simp[hk1,hn0]at hsh
   · have:j+1=hs.length:=om
     simp[this,hk1]
theorem zcv(last:Cm)(hs:List Ho):(pathL last hs).length=hs.length:=by simp[pathL]
theorem zkr{last:Cm}{hs:List Ho}{j:Nat}{c:Cm}(h:(pathL last hs)[j]? = some c):j<hs.length∧c=pathC last hs j:=by
 have hj:=(gi9.1 h).1;rw[zcv]at hj;refine⟨hj,?_⟩
 simp[pathL,List.getElem?_map,List.getElem?_range hj]at h
 exact h.symm
theorem ze7{last:Cm}(hc:last.ok){hs:List Ho}(hok:∀s∈hs,s.ok)(h:pathE last hs=0):∀c∈pathL last hs,c.ok:=fun c hm=>by
 obtain⟨i,hi⟩:=List.getElem?_of_mem hm;obtain⟨_,rfl⟩:=zkr hi;exact ze8 hc hok (zc6 h).1 i
theorem zkq{last:Cm}{hs:List Ho}(h:pathE last hs=0):berr (pathL last hs) hs.length=0:=by
 obtain⟨_,h1,h5⟩:=zc6 h
 unfold berr
 rw[if_neg (by rw[zcv];omega)];refine zsd (fun j c hj=>?_) _ lr;obtain⟨hj',rfl⟩:=zkr hj;rw[zcv];exact zq7 h hj'
noncomputable def scE(xs:List UInt8)(hs:List Ho):Nat:=if xs.length≠32∨hs.length<1∨5<hs.length then 2 else (sch [] [xs] (pubB xs) (hs.map Ho.pub)).2
noncomputable def scL(xs:List UInt8)(hs:List Ho):List Sp:=(sch [] [xs] (pubB xs) (hs.map Ho.pub)).1
def least3(a b c:Nat):Nat:=(leastOf [(a:Int),(b:Int),(c:Int)]).toNat
theorem zb8(m e:Nat):least1 (m:Int) (e:Int)=((if e≠0∧(m=0∨e<m) then e else m:Nat):Int):=by
 unfold least1
 by_cases h:e≠0∧(m=0∨e<m)
 · rw[if_pos h,if_pos om]
 · rw[if_neg h,if_neg om]
theorem zkz(a b c:Nat):leastOf [(a:Int),(b:Int),(c:Int)]=(least3 a b c:Int):=by
 have h:∃n:Nat,leastOf [(a:Int),(b:Int),(c:Int)]=(n:Int):=by
  have h0:least1 0 (a:Int)=((if a≠0∧((0:Nat)=0∨a<0) then a else 0:Nat):Int):=zb8 0 a;have g:∀m e:Nat,∃n:Nat,least1 (m:Int) (e:Int)=(n:Int):=fun m e=>⟨_,zb8 m e⟩
  obtain⟨x,hx⟩:∃x:Nat,least1 0 (a:Int)=(x:Int):=⟨_,h0⟩;obtain⟨y,hy⟩:=g x b;obtain⟨z,hz⟩:=g y c;exact⟨z,by show least1 (least1 (least1 0 (a:Int)) (b:Int)) (c:Int)=_;rw[hx,hy,hz]⟩
 obtain⟨n,hn⟩:=h;rw[least3,hn]
 rfl
theorem zt3{a b c:Nat}(h:least3 a b c=0):a=0∧b=0∧c=0:=by
 have h5:=zkz a b c;rw[h]at h5;have h0:least1 0 (a:Int)=((if a≠0∧((0:Nat)=0∨a<0) then a else 0:Nat):Int):=zb8 0 a;have h6:leastOf [(a:Int),(b:Int),(c:Int)]=least1 (least1 (least1 0 (a:Int)) (b:Int)) (c:Int):=rfl;rw[h6,h0,zb8,zb8]at h5;have h7:=Int.ofNat_inj.1 h5
 repeat' split at h7
 all_goals omega
theorem zib{xs:List UInt8}{hs:List Ho}(h:scE xs hs=0):xs.length=32∧(scL xs hs).length=hs.length∧∀s∈scL xs hs,s.ok:=by
 unfold scE at h
 split at h
 · cases h
 rename_i h1
 have h5:=zu5 (hs.map Ho.pub) [] [xs] (pubB xs) (fun s hs=>by cases hs) (ztn xs) h;refine⟨by omega,by rw[scL,h5.1];simp,h5.2⟩
def smLast(xs:List UInt8):Cm:=⟨4,0,0,0,if xs.length=80 then xs.drop 64 else List.replicate 16 0⟩
theorem zda(xs:List UInt8):(smLast xs).ok:=by
 refine⟨by show(0:Nat)<_;decide,by show(0:Nat)<_;decide,?_⟩
 unfold smLast
 simp only
 split
 · rename_i h;simp[h]
 · simp
def szE(xs:List UInt8):Nat:=if xs.length=80 then 0 else 2
def idB(hs:List Ho):Bool:=match hs with | []=>false|h :: _=>h.id == 0
def idE(hs:List Ho):Nat:=if idB hs then 3 else 0
def sm3(xs:List UInt8)(hs:List Ho):Nat:=least3 (szE xs) (idE hs) (pathE (smLast xs) hs)
noncomputable def smE(xs:List UInt8)(hs:List Ho):Nat:=if sm3 xs hs≠0 then sm3 xs hs else scE (xs.take 32) hs
def smAll(xs:List UInt8):List UInt8:=if xs.length=80 then xs else 1 :: List.replicate 79 0
theorem zgt(xs:List UInt8):(smAll xs).length=80:=by unfold smAll;split;assumption;simp
theorem zn9(xs:List UInt8):(smAll xs).drop 64=(smLast xs).m:=by
 unfold smAll smLast
 split
 · rfl
 · simp
theorem zsi:∀(ks:List (List UInt8)) (u:List UInt8),(chV u ks).2=0∨(chV u ks).2=5
 | [],_=>.inl rfl
 | k :: ks,u=>by
  rw[chV]
  split
  · exact zsi ks _
  · rename_i h
    unfold mE at h ⊢
    split
    · right;rfl
    · rename_i h2;rw[if_neg h2]at h;exact absurd rfl h
theorem zp1:∀(ps acc:_) (sc:List (List UInt8)) (al:List UInt8),(sch acc sc al ps).2=0∨(sch acc sc al ps).2=5
 | [],_,_,_=>.inl rfl
 | p :: ps,acc,sc,al=>by
  rw[sch]
  split
  · exact zp1 ps _ _ _
  · exact zsi _ _
theorem zv1(xs:List UInt8)(hs:List Ho):scE xs hs=0∨scE xs hs=5∨(scE xs hs=2∧(xs.length≠32∨hs.length<1∨5<hs.length)):=by
 unfold scE
 split
 · rename_i h;exact .inr (.inr ⟨rfl,h⟩)
 · rcases zp1 (hs.map Ho.pub) [] [xs] (pubB xs)with h|h
   · exact .inl h
   · exact .inr (.inl h)
theorem ztu(last:Cm)(hs:List Ho):pathE last hs≤3:=by
 unfold pathE
 split
 · omega
 split
 · omega
 split
 · omega
 split
 · omega
 split <;> omega
theorem zq2{last:Cm}{hs:List Ho}(h:hs.length<1∨5<hs.length):pathE last hs=1∨pathE last hs=2:=by
 unfold pathE
 split
 · exact .inl rfl
 split
 · exact .inl rfl
 · first|exact .inr rfl|(rw[if_pos h];exact .inr rfl)
def mn(m e:Nat):Nat:=if e≠0∧(m=0∨e<m) then e else m
theorem zru(a b c:Nat):least3 a b c=mn (mn (mn 0 a) b) c:=by
 have h0:least1 0 (a:Int)=((mn 0 a:Nat):Int):=zb8 0 a;have h6:leastOf [(a:Int),(b:Int),(c:Int)]=least1 (least1 (least1 0 (a:Int)) (b:Int)) (c:Int):=rfl;have h1:∀m e:Nat,least1 (m:Int) (e:Int)=((mn m e:Nat):Int):=zb8;rw[least3,h6,h0,h1,h1]
 rfl
theorem zrt(a b c d:Nat):leastOf [(a:Int),(b:Int),(c:Int),(d:Int)]=((mn (mn (mn (mn 0 a) b) c) d:Nat):Int):=by
 have h0:least1 0 (a:Int)=((mn 0 a:Nat):Int):=zb8 0 a;have h6:leastOf [(a:Int),(b:Int),(c:Int),(d:Int)]=least1 (least1 (least1 (least1 0 (a:Int)) (b:Int)) (c:Int)) (d:Int):=rfl;have h1:∀m e:Nat,least1 (m:Int) (e:Int)=((mn m e:Nat):Int):=zb8;rw[h6,h0,h1,h1,h1]
theorem idE_le(hs:List Ho):idE hs=0∨idE hs=3:=by
 unfold idE
 generalize idB hs=b
 cases b
 · exact .inl rfl
 · exact .inr rfl
theorem smE_is(xs:List UInt8)(hs:List Ho):leastOf [(szE xs:Int),(pathE (smLast xs) hs:Int),(scE ((smAll xs).take 32) hs:Int),(idE hs:Int)]=((smE xs hs:Nat):Int):=by
 rw[zrt];have hp:=ztu (smLast xs) hs;have hi:=idE_le hs;have hs5:=zv1 ((smAll xs).take 32) hs;have hl:((smAll xs).take 32).length=32:=by rw[List.length_take,zgt];rfl
 have hf:=zq2 (last:=smLast xs) (hs:=hs)
 have hz:szE xs=0→(smAll xs).take 32=xs.take 32:=fun h=>by
  unfold szE at h
  split at h
  · rename_i h2;unfold smAll;rw[if_pos h2]
  · cases h
 have hz2:szE xs=0∨szE xs=2:=by unfold szE;split;exact .inl rfl;exact .inr rfl
 rw[smE,sm3,zru]
 congr 1
 generalize hP:pathE (smLast xs) hs=p at *;generalize idE hs=f at *
 rcases hz2 with h0|h0
 · have hz3:=hz h0
   rw[hz3]at hs5 hl ⊢;rw[h0];clear hz hz3;generalize hS:scE (xs.take 32) hs=s at *
   have hs6:s=0∨s=5∨(s=2∧(p=1∨p=2)):=by
    rcases hs5 with h|h|⟨h,h7⟩
    · exact .inl h
    · exact .inr (.inl h)
    · exact .inr (.inr ⟨h,hf (by rcases h7 with h8|h8;exact absurd hl h8;exact h8)⟩)
   clear hs5 hf
   unfold mn
   rcases hi with rfl|rfl <;> rcases hs6 with rfl|rfl|⟨rfl,rfl|rfl⟩ <;> simp
   all_goals (repeat' split) <;> omega
 · rw[h0]
   generalize scE ((smAll xs).take 32) hs=s at *;have hs6:s=0∨2≤s:=om;clear hs5 hf
   unfold mn
   rcases hi with rfl|rfl <;> simp
   all_goals (repeat' split) <;> omega
theorem sm3_0{xs:List UInt8}{hs:List Ho}(h:sm3 xs hs=0):xs.length=80∧pathE (smLast xs) hs=0∧1≤hs.length∧hs.length≤5∧∀o,hs[0]? = some o→o.id≠0:=by
 obtain⟨h1,h2,h3⟩:=zt3 h;obtain⟨_,h4,h5⟩:=zc6 h3;refine⟨?_,h3,h4,h5,fun o ho e=>?_⟩
 · unfold szE at h1
   split at h1
   · assumption
   · cases h1
 · unfold idE at h2
   cases hs with
   | nil=>simp at ho
   | cons a l=>simp at ho;subst ho;simp[idB,e]at h2
noncomputable def smH(xs:List UInt8)(hs:List Ho):List UInt8:=hst (pathL (smLast xs) hs) (scL (xs.take 32) hs) hs.length hs.length
def smSc(xs:List UInt8):List UInt8:=if xs.length=80 then xs.take 32 else List.replicate 32 0
def smOwn(xs:List UInt8):List UInt8:=if xs.length=80 then (xs.drop 32).take 32 else List.replicate 32 0
noncomputable def smPays(xs:List UInt8)(hs:List Ho):List (List UInt8):=(scL (xs.take 32) hs).map Sp.pay
def id0(hs:List Ho):Nat:=match hs with | []=>0|h :: _=>h.id
noncomputable def smL(xs:List UInt8)(hs:List Ho):List UInt8:=Sh.beBytes (id0 hs) 8++(smH xs hs++smOwn xs)
theorem zxz(n k:Nat):Sh.beBytes n (k+1)=Sh.beBytes (n/256) k++[UInt8.ofNat n]:=by
 induction k generalizing n with
 | zero=>simp[Sh.beBytes]
 | succ k ih =>
  have h5:Sh.beBytes n (k+1+1)=UInt8.ofNat (n/256^(k+1)) :: Sh.beBytes n (k+1):=rfl;have h6:Sh.beBytes (n/256) (k+1)=UInt8.ofNat (n/256/256^k) :: Sh.beBytes (n/256) k:=rfl;rw[h5,h6,ih,List.cons_append,Nat.div_div_eq_div_mul,Nat.pow_succ,Nat.mul_comm 256]
theorem zvk:∀(k n:Nat),n<256^k→beNat (Sh.beBytes n k)=n
 | 0,n,h=>by simp at h;subst h;rfl
 | k+1,n,h=>by
  rw[zxz,zft,zvk k (n/256) (by rw[Nat.pow_succ]at h;omega)]
  simp
  omega
theorem szSp(w:World):(sizeOf 43).run Tryz.prog w=.ok 192 w:=by kernel_rfl
theorem PubR.wrote{w w':World}{g:Nat}{vs:List Value}{ls:List (List UInt8)}(h:PubR w g vs ls)(hw:Wrote g w w'):PubR w' g vs ls:=by
 refine⟨h.1,fun i v hv=>?_⟩;obtain⟨l,A,c,e,hc,hl,hr,ha⟩:=h.2 i v hv;exact⟨l,A,c,e,hc,hl,hr.wrote hw (fun _ ad e2=>(ha ad e2).2),fun ad e2=>⟨Nat.lt_of_lt_of_le (ha ad e2).1 hw.size,(ha ad e2).2⟩⟩
theorem Wrote.fresh{w w1 w2:World}{g g2:Nat}(hb:Wrote g w w1)(h:Only w1 w2 g2)(hg:w.heap.size≤g2):Wrote g w w2 :=
 ⟨h.grown.os.trans hb.os,h.grown.tape.trans hb.tape,h.grown.output.trans hb.output,Nat.le_trans hb.size h.grown.size,fun k hk hne=>(h.grown.block k (Nat.lt_of_lt_of_le hk hb.size) (fun e=>by injection e with e;omega)).trans (hb.block k hk hne)⟩
theorem Sp.pay_at{s:Sp}(h:s.ok):(s.bytes.drop 64).take 32=s.pay:=by
 have e:s.bytes=(s.mac++s.stream)++(s.pay++(s.blind++(s.alpha++s.secret))):=by simp[Sp.bytes]
 rw[e,List.drop_left' (by simp[h.1,h.2.1]),List.take_left' h.2.2.1]
section
attribute [local go_sem ↓] zcg
theorem ztt(last:Cm)(hc:last.ok)(A:Option Addr)(n c:Nat)(hs:List Ho)(w:World)(h:RdS 68 w A n (hs.flatMap Ho.cells))(hok:∀s∈hs,s.ok)(hl:hs.length=n)(hn:n≤140737488355328):
 Calls Tryz.prog 53 #[.agg last.cells.toArray,.slice A n c] w fun e w'=>∃A' n',e=.returned (.tuple #[.slice A' n' n',.int .i64 (pathE last hs:Int)])∧(pathE last hs=0→n'=n∧RdS 20 w' A' n ((pathL last hs).flatMap Cm.cells))∧Below w.heap.size w w':=by
 by_cases he:pathE last hs=0
 · refine(zm5 last hc A n c hs w h hok hl he).mono ?_
   rintro e w' ⟨A',rfl,hr,hB⟩;exact⟨A',n,by rw[he];rfl,fun _=>⟨rfl,hr⟩,hB⟩
 · refine(zwt last hc A n c hs w h hok hl hn he).mono ?_
   rintro e w' ⟨rfl,hB⟩;exact⟨none,0,rfl,fun h=>absurd h he,hB⟩
theorem zp0(A C:Option Addr)(n c m d:Nat)(xs:List UInt8)(hs:List Ho)(w:World)(hx:Rd w A n (u8s xs))(hc:n≤c)(hp:RdB w C m (hs.map Ho.pub))(hok:∀s∈hs,s.ok)(hm:hs.length=m):
 Calls Tryz.prog 54 #[.slice A n c,.slice C m d] w fun e w'=>∃A' n' c',e=.returned (.tuple #[.slice A' n' c',.int .i64 (scE xs hs:Int)])∧n'≤c'∧(scE xs hs=0→n'=m∧RdS 192 w' A' m ((scL xs hs).flatMap Sp.cells))∧Below w.heap.size w w':=by
 have hn:xs.length=n:=hx.len
 by_cases hb:n≠32∨m<1∨5<m
 · refine(zs6 A C n c m d w hb).mono ?_
   rintro e w' ⟨rfl,rfl⟩;have e2:scE xs hs=2:=by rw[scE,if_pos (by rw[hn,hm];exact hb)]
   exact⟨none,0,0,by rw[e2];rfl,lr,fun h=>(by rw[e2]at h;cases h),Below.refl _ _⟩
 · obtain rfl:n=32:=om
   have e2:scE xs hs=(sch [] [xs] (pubB xs) (hs.map Ho.pub)).2:=by rw[scE,if_neg (by rw[hn,hm];exact hb)]
   refine(zpy A C c m d xs (hs.map Ho.pub) w hx hc hp (fun p hp=>by obtain⟨o,ho,rfl⟩:=List.mem_map.1 hp;exact(hok o ho).2.2.1) om om).mono ?_;rintro e w' ⟨A',n',c',rfl,hn',hr,hl',hB⟩;refine⟨A',n',c',by rw[e2],hn',fun h=>?_,hB⟩;have h7:(scL xs hs).length=hs.length:=(zib h).2.1;have h8:n'=m:=by rw[←hl',←hm];exact h7
   subst h8;exact⟨rfl,hr⟩
theorem zm0(w:World)(ty:TypeId)(a b c:Int):Rd (w.alloc (.cells #[.int .i64 a,.int .i64 b,.int .i64 c] ty)) (some ⟨w.heap.size,0,none⟩) 3 (i64s [a,b,c]):=⟨rfl,fun _=>⟨w.heap.size,0,rfl,by simp,fun j u hu=>by rw[Nat.zero_add];exact((Blk.new w ty (i64s [a,b,c])).cell j).trans hu⟩⟩
end
end Go.Proofs.YtpgpaenloaphaaaGreat
