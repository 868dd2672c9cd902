/- Part of the proof. -/
import Derived.Test.YtpgpaenloaphaaaGreatPkx43
set_option maxRecDepth 100000
set_option maxHeartbeats 0
namespace Go.Proofs.YtpgpaenloaphaaaGreat
open Go.RowKit
def i64(n:Int):Value:=.int .i64 n
def i64s(l:List Int):List Value:=l.map i64
theorem zev(l:List Int):(i64s l).length=l.length:=by simp[i64s]
theorem Rd.i64{w:World}{A:Option Addr}{n:Nat}{l:List Int}(h:Rd w A n (i64s l)){k:Nat}(hk:k<n):
 ∃b off x,A=some ⟨b,off,none⟩∧b<w.heap.size∧Hid (l[k]? = some x)∧w.cell? ⟨b,off+k,none⟩=some (.int .i64 x):=by
 obtain⟨b,off,e,hb,hc⟩:=h.2 om;have hl:k<l.length:=by have:=h.1;rw[zev]at this;omega
 exact⟨b,off,l[k],e,hb,ge9 hl,hc k _ (by simp[i64s,ge9 hl,Proofs.YtpgpaenloaphaaaGreat.i64])⟩
def least1(m e:Int):Int:=if e≠0∧(m=0∨e<m) then e else m
def leastOf(l:List Int):Int:=l.foldl least1 0
theorem zf1(l:List Int)(k:Nat)(x:Int)(h:l[k]? = some x):leastOf (l.take (k+1))=least1 (leastOf (l.take k)) x:=by
 rw[List.take_add_one,h];simp[leastOf]
theorem zhp(A:Option Addr)(n c:Nat)(l:List Int)(w:World)(h:Rd w A n (i64s l))(hn:n≤140737488355328):
 Calls Tryz.prog 41 #[.slice A n c] w fun e w'=>e=.returned (.int .i64 (leastOf l))∧w=w':=by
 have hl:l.length=n:=by rw[←zev];exact h.1
 have HL:=qh hl;clear hl
 go_enter Tryz.func41, Tryz.ntmps41
 go_wp2
 go_loop [3,8] (fun m i=>∃k:Nat,k≤n∧i=.int .i64 k∧m=.int .i64 (leastOf (l.take k))) (fun _ i=>n-(intOf i).toNat)
 case atStart=>exact⟨0,Nat.zero_le _,rfl,rfl⟩
 case round =>
  obtain⟨k,hk,rfl,rfl⟩:=hrel
  by_cases hlt:k<n
  · obtain⟨b,off,x,rfl,hb,HX,hc⟩:=h.i64 hlt
    have hs:=zf1 l k x HX.out;generalize leastOf (l.take k)=m at *;have HS:=qh hs;clear hs;go_wp2
    all_goals
      go_round
      case rel=>exact⟨k+1,by omega,by go_num,by rw[HS.out];first|(simp_all [least1];done)| (simp_all [least1];omega)⟩
      case measure=>simp[intOf];omega
  · have:k=n:=om
    subst this;go_wp2;go_ret;rw[tk (by rw[HL.out];omega)];exact⟨rfl,rfl⟩
theorem zin(A:Option Addr)(n c:Nat)(l:List Int)(w:World)(h:Rd w A n (i64s l))(hn:n≤140737488355328):
 Calls Tryz.prog 59 #[.slice A n c] w fun e w'=>e=.returned (.int .i64 (leastOf l))∧w=w':=by
 have hl:l.length=n:=by rw[←zev];exact h.1
 have HL:=qh hl;clear hl
 go_enter Tryz.func59, Tryz.ntmps59
 go_wp2
 go_loop [3,4] (fun m i=>∃k:Nat,k≤n∧i=.int .i64 k∧m=.int .i64 (leastOf (l.take k))) (fun _ i=>n-(intOf i).toNat)
 case atStart=>exact⟨0,Nat.zero_le _,rfl,rfl⟩
 case round =>
  obtain⟨k,hk,rfl,rfl⟩:=hrel
  by_cases hlt:k<n
  · obtain⟨b,off,x,rfl,hb,HX,hc⟩:=h.i64 hlt
    have hs:=zf1 l k x HX.out;generalize leastOf (l.take k)=m at *;have HS:=qh hs;clear hs;go_wp2
    all_goals
      go_round
      case rel=>exact⟨k+1,by omega,by go_num,by rw[HS.out];first|(simp_all [least1];done)| (simp_all [least1];omega)⟩
      case measure=>simp[intOf];omega
  · have:k=n:=om
    subst this;go_wp2;go_ret;rw[tk (by rw[HL.out];omega)];exact⟨rfl,rfl⟩
theorem RdS.belo{sz:Nat}{w w':World}{A:Option Addr}{n:Nat}{xs:List Value}(h:RdS sz w A n xs)(hb:Below w.heap.size w w'):RdS sz w' A n xs:=h.bel hb lr
theorem RdS.allo{sz:Nat}{w:World}{A:Option Addr}{n:Nat}{xs:List Value}(h:RdS sz w A n xs)(o:Obj):RdS sz (w.alloc o) A n xs:=h.bel ((Below.refl _ w).alloc lr o) lr
theorem Sp.pay_len{s:Sp}(h:s.ok):s.pay.length=32:=h.2.2.1
theorem zu8:∀(ps acc:_) (sc:List (List UInt8)) (al:List UInt8),(∀s∈acc,s.ok)→al.length=32→(sch acc sc al ps).2=0→(sch acc sc al ps).1.length=acc.length+ps.length∧∀s∈(sch acc sc al ps).1,s.ok
 | [],acc,sc,al,h,_,_=>⟨by rw[sch];rfl,by rw[sch];exact h⟩
 | p :: ps,acc,sc,al,h,ha,h0=>by
  rw[sch]at h0 ⊢
  by_cases hc:(chV (nrm p) sc).2=0
  · rw[if_pos hc]at h0 ⊢
    have hs:∀s∈acc++[stp al (chV (nrm p) sc).1],s.ok:=fun s hs=>by
     rcases List.mem_append.1 hs with h1|h1
     · exact h s h1
     · rw[List.mem_singleton.1 h1];exact zmv ha (zfs _ _ (zdz _))
    have h5:=zu8 ps _ _ _ hs (zfd _ _) h0;refine⟨by rw[h5.1];simp;omega,h5.2⟩
  · rw[if_neg hc]at h0
    exact absurd h0 hc
theorem zti(xs:List UInt8):(pubB xs).length=32:=zfd _ _
theorem zr3{cs:List Cm}{n:Nat}(h:∀j c,cs[j]? = some c→c.check=0∧(decide (c.k=1)≠decide (j+1=n))):∀i,i≤cs.length→errN cs n i=0
 | 0,_=>rfl
 | i+1,hi=>by
  obtain⟨c,hc⟩:∃c,cs[i]? = some c:=⟨_,ge9 om⟩;obtain⟨h1,h2⟩:=h i c hc;have ih:=zr3 h i om;rw[errN,hc];simp only;rw[if_neg (fun h=>h2 h.2),ih,h1]
  rfl
theorem zhd{last:Cm}{hs:List Ho}(h:pathE last hs=0):¬(last.k.toNat<2∨4<last.k.toNat)∧last.shaped=true∧∀(i:Nat) (o:Ho),0<i→hs[i]? = some o→o.id≠0:=by
 have h0:=h
 unfold pathE at h
 split at h
 · cases h
 rename_i h1
 split at h
 · cases h
 split at h
 · cases h
 split at h
 · cases h
 rename_i h4
 split at h
 · cases h
 rename_i h5
 refine⟨h1,by simpa using h4,fun i o hi ho e=>h5 (List.any_eq_true.2 ⟨o,?_,by simp[e]⟩)⟩;refine List.mem_of_getElem? (i:=i-1) ?_;rw[List.getElem?_drop,show 1+(i-1)=i by omega,ho]
theorem Cm.check_ok{c:Cm}(h1:¬(c.k.toNat<1∨4<c.k.toNat))(h2:c.shaped=true)(h3:c.d≤1000000):c.check=0:=by
 unfold Cm.check
 rw[if_neg h1,if_neg (by rw[h2];decide),if_neg om]
theorem k_ne1{k:UInt8}(h:¬(k.toNat<2∨4<k.toNat)):k≠1:=fun e=>by rw[e]at h;exact h (Or.inl (by decide))
theorem zq2{last:Cm}{hs:List Ho}(h:pathE last hs=0){j:Nat}(hj:j<hs.length):(pathC last hs j).check=0∧(decide ((pathC last hs j).k=1)≠decide (j+1=hs.length)):=by
 obtain⟨hb,h1,h5⟩:=zc5 h;obtain⟨hk,hsh,hid⟩:=zhd h;obtain⟨o,ho⟩:∃o,hs[j]? = some o:=⟨_,ge9 hj⟩;obtain⟨g1,g2,g3,g4⟩:=Ho.bad_no (hb o (mg9 ho));have hd:o.dl.toNat≤1000000:=om
 by_cases hl:j+1<hs.length
 · obtain⟨o2,ho2⟩:∃o,hs[j+1]? = some o:=⟨_,ge9 hl⟩
   have hn:=hid (j+1) o2 om ho2;have e:pathC last hs j=⟨1,UInt8.ofNat o.fl.toNat,o.dl.toNat,o2.id,List.replicate 16 0⟩:=by unfold pathC;rw[ho,ho2];simp only[if_pos hl];rfl
   rw[e];refine⟨Cm.check_ok (by show ¬((1:UInt8).toNat<1∨4<(1:UInt8).toNat);decide) ?_ hd,?_⟩
   · unfold Cm.shaped
     simp[hn]
   · have:¬j+1=hs.length:=om
     simp[this]
 · have e:pathC last hs j=⟨last.k,UInt8.ofNat o.fl.toNat,o.dl.toNat,0,last.m⟩:=by unfold pathC;rw[ho];simp only[if_neg hl]
   rw[e];have hk1:=k_ne1 hk;refine⟨Cm.check_ok (by show ¬(last.k.toNat<1∨4<last.k.toNat);omega) ?_ hd,?_⟩
   · unfold Cm.shaped at hsh ⊢
     by_cases hn0:last.n=0
     · simpa[hk1,hn0] using hsh
     · simp[hk1,hn0]at hsh
   · have:j+1=hs.length:=om
     simp[this,hk1]
theorem zdc(last:Cm)(hs:List Ho):(pathL last hs).length=hs.length:=by simp[pathL]
theorem zkv{last:Cm}{hs:List Ho}{j:Nat}{c:Cm}(h:(pathL last hs)[j]? = some c):j<hs.length∧c=pathC last hs j:=by
 have hj:=(gi9.1 h).1;rw[zdc]at hj;refine⟨hj,?_⟩
 simp[pathL,List.getElem?_map,List.getElem?_range hj]at h
 exact h.symm
theorem zgi{last:Cm}(hc:last.ok){hs:List Ho}(hok:∀s∈hs,s.ok)(h:pathE last hs=0):∀c∈pathL last hs,c.ok:=fun c hm=>by
 obtain⟨i,hi⟩:=List.getElem?_of_mem hm;obtain⟨_,rfl⟩:=zkv hi;exact ze7 hc hok (zc5 h).1 i
theorem zku{last:Cm}{hs:List Ho}(h:pathE last hs=0):berr (pathL last hs) hs.length=0:=by
 obtain⟨_,h1,h5⟩:=zc5 h
 unfold berr
 rw[if_neg (by rw[zdc];omega)];refine zr3 (fun j c hj=>?_) _ lr;obtain⟨hj',rfl⟩:=zkv hj;rw[zdc];exact zq2 h hj'
noncomputable def scE(xs:List UInt8)(hs:List Ho):Nat:=if xs.length≠32∨hs.length<1∨5<hs.length then 2 else (sch [] [xs] (pubB xs) (hs.map Ho.pub)).2
noncomputable def scL(xs:List UInt8)(hs:List Ho):List Sp:=(sch [] [xs] (pubB xs) (hs.map Ho.pub)).1
def boE(bs:List UInt8):Nat:=if bs.length≠480 then 2 else 0
def least3(a b c:Nat):Nat:=(leastOf [(a:Int),(b:Int),(c:Int)]).toNat
theorem zcm(m e:Nat):least1 (m:Int) (e:Int)=((if e≠0∧(m=0∨e<m) then e else m:Nat):Int):=by
 unfold least1
 by_cases h:e≠0∧(m=0∨e<m)
 · rw[if_pos h,if_pos om]
 · rw[if_neg h,if_neg om]
theorem zhq(a b c:Nat):leastOf [(a:Int),(b:Int),(c:Int)]=(least3 a b c:Int):=by
 have h:∃n:Nat,leastOf [(a:Int),(b:Int),(c:Int)]=(n:Int):=by
  have h0:least1 0 (a:Int)=((if a≠0∧((0:Nat)=0∨a<0) then a else 0:Nat):Int):=zcm 0 a;have g:∀m e:Nat,∃n:Nat,least1 (m:Int) (e:Int)=(n:Int):=fun m e=>⟨_,zcm m e⟩
  obtain⟨x,hx⟩:∃x:Nat,least1 0 (a:Int)=(x:Int):=⟨_,h0⟩;obtain⟨y,hy⟩:=g x b;obtain⟨z,hz⟩:=g y c;exact⟨z,by show least1 (least1 (least1 0 (a:Int)) (b:Int)) (c:Int)=_;rw[hx,hy,hz]⟩
 obtain⟨n,hn⟩:=h;rw[least3,hn]
 rfl
theorem ztz(b c:Nat):least3 1 b c=1:=by
 have h:leastOf [((1:Nat):Int),(b:Int),(c:Int)]=((1:Nat):Int):=by
  show least1 (least1 (least1 0 ((1:Nat):Int)) (b:Int)) (c:Int)=_
  have h0:least1 0 ((1:Nat):Int)=((1:Nat):Int):=rfl;rw[h0,zcm,if_neg om,zcm,if_neg om]
 rw[least3,h]
 rfl
theorem zt0{a b c:Nat}(h:least3 a b c=0):a=0∧b=0∧c=0:=by
 have h5:=zhq a b c;rw[h]at h5;have h0:least1 0 (a:Int)=((if a≠0∧((0:Nat)=0∨a<0) then a else 0:Nat):Int):=zcm 0 a;have h6:leastOf [(a:Int),(b:Int),(c:Int)]=least1 (least1 (least1 0 (a:Int)) (b:Int)) (c:Int):=rfl;rw[h6,h0,zcm,zcm]at h5;have h7:=Int.ofNat_inj.1 h5
 repeat' split at h7
 all_goals omega
noncomputable def pbE(last:Cm)(xs bs:List UInt8)(hs:List Ho):Nat:=least3 (pathE last hs) (scE xs hs) (boE bs)
noncomputable def pbL(last:Cm)(xs bs:List UInt8)(hs:List Ho):List UInt8:=hst (pathL last hs) (scL xs hs) hs.length hs.length++sealAll ((scL xs hs).reverse.map Sp.pay) bs
theorem pbE_1{last:Cm}{xs bs:List UInt8}{hs:List Ho}(h:pathE last hs=1):pbE last xs bs hs=1:=by rw[pbE,h,ztz]
theorem zik{xs:List UInt8}{hs:List Ho}(h:scE xs hs=0):xs.length=32∧(scL xs hs).length=hs.length∧∀s∈scL xs hs,s.ok:=by
 unfold scE at h
 split at h
 · cases h
 rename_i h1
 have h5:=zu8 (hs.map Ho.pub) [] [xs] (pubB xs) (fun s hs=>by cases hs) (zti xs) h;refine⟨by omega,by rw[scL,h5.1];simp,h5.2⟩
theorem pbE_0{last:Cm}{xs bs:List UInt8}{hs:List Ho}(h:pbE last xs bs hs=0):pathE last hs=0∧scE xs hs=0∧xs.length=32∧bs.length=480∧1≤hs.length∧hs.length≤5:=by
 obtain⟨h1,h2,h3⟩:=zt0 h;obtain⟨_,h4,h5⟩:=zc5 h1;refine⟨h1,h2,(zik h2).1,?_,h4,h5⟩
 unfold boE at h3
 split at h3
 · cases h3
 · omega
theorem zww{last:Cm}(hc:last.ok){xs bs:List UInt8}{hs:List Ho}(hok:∀s∈hs,s.ok)(h:pbE last xs bs hs=0):(pbL last xs bs hs).length=768:=by
 obtain⟨h1,h2,h3,h4,h5,h6⟩:=pbE_0 h;obtain⟨_,h7,h8⟩:=zik h2;rw[pbL,la9,zhu (zgi hc hok h1) h8 (zdc last hs) h7 h6 _ lr,zeq _ _ om,h4]
theorem zon(A:Option Addr)(c:Nat)(l:List UInt8)(w:World)(h:Rd w A 768 (u8s l))(hc:768≤c):
 Calls Tryz.prog 11 #[.slice A 768 c] w fun e w'=>e=.returned (.tuple #[.agg (u8s l).toArray,.int .i64 0])∧Below w.heap.size w w':=by
 have hl:=h.len;obtain⟨b,off,rfl,hb,hcell⟩:=h.2 om;obtain⟨Z,HZ,HZl⟩:∃Z:List Value,Hid (Tryz.zeroCells35 = Z.toArray)∧Hid (Z.length=768):=⟨_,zc76,by show(u8s _).length=_;rw[zaa];simp⟩;obtain⟨Y,HY,HYl⟩:∃Z:List Value,Hid (Tryz.zeroCells32 = Z.toArray)∧Hid (Z.length=288):=⟨_,zc34',by show(u8s _).length=_;rw[zaa];simp⟩;have Hl:=qh hl;clear hl hcell;have hh:(l.take 288).length=288:=by rw[List.length_take,Hl.out];rfl
 have HH:=qh hh;have hz:((u8s (l.take 288)).length=288):=by rw[zaa,hh]
 have HZ3:=qh hz;clear hh hz
 have hrd:∀W,Rd W (some ⟨b,off,none⟩) 768 (u8s l)→Rd W (some ⟨b,off,none⟩) 288 (u8s (l.take 288)):=fun W h=>by
  have:=h.cut (A':=some ⟨b,off,none⟩) (m:=288) (k:=0) om om (fun _ b' off' e=>by injection e with e;injection e with e1 e2;subst e1;subst e2;rfl)
  rwa [List.drop_zero,zav]at this
 have HR:=qh hrd;clear hrd
 go_enter Tryz.func11, Tryz.ntmps11
 have hi34:(Tryz.prog.info? 32).map (·.size)=some (u8s (l.take 288)).length:=by rw[HZ3.out];exact hd34
 have H34:=qh hi34;have hf34:(u8s (l.take 288)).length=Y.length:=by rw[HZ3.out,HYl.out]
 have HF34:=qh hf34
 obtain⟨X,HX,HXl,HX1⟩:∃X:List Value,Hid (X=splice Z 0 (u8s (l.take 288)))∧Hid (X.length=768)∧Hid (∀v∈X,v.oneCell'=true):=⟨_,rfl,by
  show(splice _ _ _).length=_
  rw[length_splice _ _ _ (by rw[HZ3.out,HZl.out];omega),HZl.out],by
  show ∀v∈splice _ _ _,_
  have hz1:∀v∈Z,v.oneCell'=true:=by
   have:=zc76.symm.trans HZ.out;have h2:u8s (List.replicate 768 0)=Z:=by simpa using congrArg Array.toList this
   rw[←h2];exact zac _
  intro v hv;simp only[splice,List.mem_append]at hv
  rcases hv with hv|hv|hv
  · exact hz1 v (List.mem_of_mem_take hv)
  · exact zac _ v hv
  · exact hz1 v (List.mem_of_mem_drop hv)⟩
 have hbuild:∀W,(Instr.build 35 #[(0,.agg (u8s (l.take 288)).toArray)]).run Tryz.prog W=.ok (.agg X.toArray) W:=fun W =>
  zce Tryz.zeroValue35 Tryz.underlying35 (pl76 _ Tryz.underlying35) (by
   rw[HZ.out]
   show Instr.fill _ _ [(0,_)]=_
   rw[za5 (cs:=u8s (l.take 288)) rfl (by rw[HZ3.out];rfl) (by rw[HZ3.out,HZl.out];omega),HX.out]
   rfl) W
 have HBU:=qh hbuild;have hi76:(Tryz.prog.info? 35).map (·.size)=some X.length:=by rw[HXl.out];exact hd76
 have H76:=qh hi76;have hf76:X.length=Z.length:=by rw[HXl.out,HZl.out]
 have HF76:=qh hf76;clear hi34 hf34 hbuild hi76 hf76
 go_wp2_with (first
  | (go_at_call 21;refine(zoz _ c (l.take 288) _ (HR.out _ (h.alloc _)) om).mono ?_;rintro e w1 ⟨rfl,hB1⟩)
  | (refine zab rfl 32 (.tmp 4) (.tmp 15) rfl w1.heap.size (u8s (l.take 288)) rr rr 32 Y (Blk.new' rfl HY.out) H34.out (zac _) HF34.out ?_;intro w2 hb2 ho2;have hs1:w.heap.size+1≤w1.heap.size:=by have:=hB1.size;simp at this;omega
     have hB2:Below (w.heap.size+1) (w.alloc (.cells Tryz.zeroCells35 35)) w2:=ho2.below ((hB1.mono sy).alloc hs1 _) hs1 (by simp;omega);have hs2:w.heap.size+1≤w2.heap.size:=by have:=hB2.size;simp at this;omega
     clear ho2 hB1 hs1)
  | (refine wpList_load_mid rfl 32 (.tmp 4) rfl _ 0 rr (u8s (l.take 288)) _ hb2.range Tryz.underlying32 rfl H34.out ?_)
  | (refine zaq rfl 35 [(0,.tmp 21)] rfl [(0,.agg (u8s (l.take 288)).toArray)] rr (.agg X.toArray) (HBU.out _) ?_)
  | (refine zab rfl 35 (.tmp 6) (.tmp 22) rfl w2.heap.size X rr rr 35 Z (Blk.new' rfl HZ.out) H76.out HX1.out HF76.out ?_;intro w3 hb3 ho3;have hB3:Below (w.heap.size+1) (w.alloc (.cells Tryz.zeroCells35 35)) w3:=ho3.below (hB2.alloc hs2 _) hs2 (by simp;omega);have hs3:w.heap.size+1≤w3.heap.size:=by have:=hB3.size;simp at this;omega
     clear ho3 hB2 hb2))
 have hrest:∀W,Rd W (some ⟨b,off,none⟩) 768 (u8s l)→Rd W (some ⟨b,off+288,none⟩) 480 (u8s (l.drop 288)):=fun W h=>by
  have:=h.cut (A':=some ⟨b,off+288,none⟩) (m:=768) (k:=288) om om (fun _ b' off' e=>by injection e with e;injection e with e1 e2;subst e1;subst e2;rfl)
  rwa [tk (by rw[zaa,Hl.out];omega),zbd]at this
 have hBw3:Below w.heap.size w w3:=((Below.refl _ _).alloc lr _).trans (hB3.mono om);have hr3:=hrest _ ((h.below hBw3).drew);have HR3:=qh hr3;have n288:¬c=288:=om;have hfx:288+480≤X.length:=by rw[HXl.out];omega
 have hz3:Blk w3 w.heap.size 35 Z:=(Blk.new' (g:=w.heap.size) rfl HZ.out).below hB3 om;have hs4:w.heap.size<w2.heap.size:=om;clear hrest hr3 hBw3
 go_frame
 go_region_held3 (fun _=>True) (trivial) ((refine zdo rfl (.tmp 24) (.tmp 26) 22 rfl 5 Tryz.underlying22 zf9 w2.heap.size 288 480 480 rr (some ⟨b,off+288,none⟩) 480 (c-288) rr 35 X (by exact hb3) (u8s (l.drop 288)) HR3.out (zac _) hfx ?_;intro w4 hb4 ho4))
 have hB4:Below (w.heap.size+1) (w.alloc (.cells Tryz.zeroCells35 35)) w4:=ho4.below hB3.drew hs2 hs3;have hz4:Blk w4 w.heap.size 35 Z:=ho4.blk hz3.drew om
 have HF:splice X 288 (List.take 480 (u8s (l.drop 288)))=u8s l:=by
  rw[HX.out];have hZ:=HZl.out;have hl:=Hl.out;rw[zfl Z (u8s (l.take 288)) _ 288 HZ3.out (by simp[zaa];omega),zav,←zad]
  congr 1
  rw[tk (l:=l.drop 288) (by simp;omega),List.take_append_drop]
 rw[HF]at hb4;have hi:(Tryz.prog.info? 35).map (·.size)=some (u8s l).length:=by rw[zaa,Hl.out];exact hd76
 have HI:=qh hi;have hfz:(u8s l).length=Z.length:=by rw[zaa,Hl.out,HZl.out]
 have HFZ:=qh hfz;clear ho4 hB3 hb3 hz3 HF HR3 hi hfz hfx
 go_wp2_with (first
  | refine wpList_load_mid rfl 35 (.tmp 6) rfl w2.heap.size 0 rr (u8s l) _ hb4.range Tryz.underlying35 rfl HI.out ?_
  | (refine zab rfl 35 (.tmp 2) (.tmp 28) rfl w.heap.size (u8s l) rr rr 35 Z hz4 HI.out (zac _) HFZ.out ?_;intro w5 hb5 ho5))
 have hB5:Below w.heap.size w w5:=ho5.below (((Below.refl _ _).alloc lr _).trans (hB4.mono om)) lr (by have:=hB4.size;simp at this;omega);exact bodyPost_ret (zaj rfl _ _ _ _ rfl hb5 _ Tryz.underlying35 rfl HI.out) rfl ⟨rfl,hB5⟩
theorem zft(w:World):(Instr.build 35 #[]).run Tryz.prog w=.ok (.agg Tryz.zeroCells35) w:=by kernel_rfl
section
theorem zrq(v:Value):Instr.loadAt 35 v=ldAt 35 v:=rfl
theorem stq_76(p v:Value):Instr.storeAt 35 p v=stAt 35 p v:=rfl
attribute [local go_sem ↓] zrq stq_76
def fixed14:List UInt8:=((((((rep 768 (0:UInt8)).set 0 1).set 32 2).set 48 3).set 288 4).set 767 5)
theorem zca:fixed14.length=768:=by unfold fixed14;simp only[List.length_set];exact za8 _ _
theorem awake14(w:World):Calls Tryz.prog 10 #[] w fun e w'=>e=.returned (.bool true)∧Below w.heap.size w w':=by
 go_enter Tryz.func10, Tryz.ntmps10
 go_wp2_with (at_make;refine zak rfl _ _ 22 rfl 5 (.int .u8 0) 1 Tryz.underlying22 iU8 rfl _ _ _ _ rfl rfl 768 768 rfl rfl om om om ?_)
 intro w1 hb1 hg1 hs1;have hB1:Below w.heap.size w w1:=zae hg1;have hf:∀i,w1.frozen? ⟨w.heap.size,i,none⟩=false:=fun i=>hb1.frozen i
 have hcell:∀i,i<768→w1.cell? ⟨w.heap.size,i,none⟩=some (.int .u8 0):=fun i hi=>by rw[hb1.cell,zlr hi]
 have c0:=hcell 0 om;have c1:=hcell 32 om;have c2:=hcell 48 om;have c3:=hcell 288 om;have c4:=hcell 767 om;clear hcell hg1;have HS:=qh hs1;clear hs1;have hset:∀(l:List UInt8) i c,(u8s l).set i (.int .u8 (c:UInt8).toNat)=u8s (l.set i c):=fun l i c=>by unfold u8s;rw[List.map_set];rfl
 have hbf:Blk (((((w1.setCell ⟨w.heap.size,0,none⟩ (.int .u8 1)).setCell ⟨w.heap.size,32,none⟩ (.int .u8 2)).setCell ⟨w.heap.size,48,none⟩ (.int .u8 3)).setCell ⟨w.heap.size,288,none⟩ (.int .u8 4)).setCell ⟨w.heap.size,767,none⟩ (.int .u8 5)) w.heap.size 5 (u8s fixed14):=by
  have h5:=((((hb1.set_ 0 (.int .u8 1)).set_ 32 (.int .u8 2)).set_ 48 (.int .u8 3)).set_ 288 (.int .u8 4)).set_ 767 (.int .u8 5);have e0:rep 768 (Value.int .u8 0)=u8s (rep 768 0):=zwm 768 0;rw[e0]at h5;have e:=hset (rep 768 0) 0 1
  rw [show(Value.int .u8 1)=.int .u8 ((1:UInt8).toNat) from rfl,hset,show(Value.int .u8 2)=.int .u8 ((2:UInt8).toNat) from rfl,hset,show(Value.int .u8 3)=.int .u8 ((3:UInt8).toNat) from rfl,hset,
    show(Value.int .u8 4)=.int .u8 ((4:UInt8).toNat) from rfl,hset,show(Value.int .u8 5)=.int .u8 ((5:UInt8).toNat) from rfl,hset]at h5
  exact h5
 have hBf:Below w.heap.size w (((((w1.setCell ⟨w.heap.size,0,none⟩ (.int .u8 1)).setCell ⟨w.heap.size,32,none⟩ (.int .u8 2)).setCell ⟨w.heap.size,48,none⟩ (.int .u8 3)).setCell ⟨w.heap.size,288,none⟩ (.int .u8 4)).setCell ⟨w.heap.size,767,none⟩ (.int .u8 5)) :=
  ((((hB1.setCell lr _).setCell lr _).setCell lr _).setCell lr _).setCell lr _
 clear hset hb1 hB1;obtain⟨Z,HZ,HZl⟩:∃Z:List Value,Hid (Tryz.zeroCells35 = Z.toArray)∧Hid (Z.length=768):=⟨_,zc76,by show(u8s _).length=_;rw[zaa];simp⟩;have hi:(Tryz.prog.info? 35).map (·.size)=some (u8s fixed14).length:=by rw[zaa,zca];exact hd76
 have HI:=qh hi;have hfz:(u8s fixed14).length=Z.length:=by rw[zaa,zca,HZl.out]
 have HFZ:=qh hfz;have hat:∀(i:Nat) (c:UInt8),fixed14[i]? = some c→(u8s fixed14)[i]? = some (.int .u8 c.toNat):=fun i c h=>by rw[u8s_getElem?,h];rfl
 have HAT:=qh hat;clear hi hfz hat
 go_wp2_with (first
  | (go_at_call 11;refine(zon _ 768 fixed14 _ (by have:=hbf.rd 0 768 (by rw[zaa,zca];omega);rwa [List.drop_zero,tk (by rw[zaa,zca];omega)]at this) om).mono ?_;rintro e w2 ⟨rfl,hB2⟩)
  | (refine zab rfl 35 (.tmp 2) (.tmp 18) rfl w2.heap.size (u8s fixed14) rr rr 35 Z (Blk.new' rfl HZ.out) HI.out (zac _) HFZ.out ?_;intro w3 hb3 ho3;have hBw2:Below w.heap.size w w2:=hBf.trans (hB2.mono hBf.size);have hlt:w.heap.size<w2.heap.size:=Nat.lt_of_lt_of_le hbf.lt hB2.size;have hBw3:Below w.heap.size w w3:=ho3.below (hBw2.alloc hBw2.size _) hBw2.size (by simp;omega);have hk3:Blk w3 w.heap.size 5 (u8s fixed14):=ho3.blk ((hbf.below hB2 hbf.lt).alloc _) om;have d0:w3.cell? ⟨w2.heap.size,0,none⟩=some (.int .u8 1):=by rw[hb3.cell];exact HAT.out 0 1 (by decide +kernel)
     have d1:w3.cell? ⟨w2.heap.size,32,none⟩=some (.int .u8 2):=by rw[hb3.cell];exact HAT.out 32 2 (by decide +kernel)
     have d2:w3.cell? ⟨w2.heap.size,48,none⟩=some (.int .u8 3):=by rw[hb3.cell];exact HAT.out 48 3 (by decide +kernel)
     have d3:w3.cell? ⟨w2.heap.size,288,none⟩=some (.int .u8 4):=by rw[hb3.cell];exact HAT.out 288 4 (by decide +kernel)
     have d4:w3.cell? ⟨w2.heap.size,767,none⟩=some (.int .u8 5):=by rw[hb3.cell];exact HAT.out 767 5 (by decide +kernel)
     have hld:(ldAt 35 (.pointer (some ⟨w2.heap.size,0,none⟩))).run Tryz.prog w3=.ok (.agg (u8s fixed14).toArray) w3:=zat hb3 _ 0 (u8s fixed14) (by rw[List.drop_zero,tk lr]) _ Tryz.underlying35 rfl HI.out
     clear ho3 hB2 hbf hBf hBw2 c0 c1 c2 c3 c4 hf)
  | (go_at_call 14;refine(zeg fixed14 _ zca).mono ?_;rintro e w4 ⟨A4,c4,rfl,hc4,hown4,hB4⟩;have hk4:=hk3.below hB4 hk3.lt;clear d0 d1 d2 d3 d4 hld)
  | (go_at_call 13;refine(zk6 A4 (some ⟨w.heap.size,0,none⟩) 768 768 c4 768 fixed14 fixed14 _ (Rd.of_own hown4) (by have:=hk4.rd 0 768 (by rw[zaa,zca];omega);rwa [List.drop_zero,tk (by rw[zaa,zca];omega)]at this) om om).mono ?_;rintro e w5 ⟨rfl,q5,rfl⟩)
  | (go_at_call 41;refine(zhp (some ⟨w4.heap.size,0,none⟩) 3 3 [0,3,2] _ (by have:=(Blk.new w4 36 (i64s [0,3,2])).rd 0 3 (by simp[i64s]);exact this) om).mono ?_;rintro e w6 ⟨rfl,rfl⟩))
 rw[show(leastOf [0,3,2] == 2)=true from by decide];go_ret;refine⟨rfl,?_⟩;have h4:Below w.heap.size w w4:=hBw3.trans (hB4.mono hBw3.size);exact below_drewN (h4.alloc h4.size _) _
end
end Go.Proofs.YtpgpaenloaphaaaGreat
