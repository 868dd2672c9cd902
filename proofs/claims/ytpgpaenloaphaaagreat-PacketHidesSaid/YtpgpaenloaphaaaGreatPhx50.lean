/- Part of the proof: Pbl, Pbw, Pby, R7s, Rby, Pbc. -/
import Derived.Test.YtpgpaenloaphaaaGreatPhx23
import Derived.Test.YtpgpaenloaphaaaGreatPhx46
import Derived.Test.YtpgpaenloaphaaaGreatPhx48
import Derived.Test.YtpgpaenloaphaaaGreatPhx49
set_option maxRecDepth 100000
set_option maxHeartbeats 16000000
namespace Go.Proofs.YtpgpaenloaphaaaGreat
open Go.RowKit
theorem RdS.belo{sz:Nat}{w w':World}{A:Option Addr}{n:Nat}{xs:List Value}(h:RdS sz w A n xs)(hb:Below w.heap.size w w'):RdS sz w' A n xs:=h.bel hb lr
theorem RdS.allo{sz:Nat}{w:World}{A:Option Addr}{n:Nat}{xs:List Value}(h:RdS sz w A n xs)(o:Obj):RdS sz (w.alloc o) A n xs:=h.bel ((Below.refl _ w).alloc lr o) lr
theorem Sp.pay_len{s:Sp}(h:s.ok):s.pay.length=32:=h.2.2.1
theorem zve:∀(ps acc:_) (sc:List (List UInt8)) (al:List UInt8),(∀s∈acc,s.ok)→al.length=32→(sch acc sc al ps).2=0→(sch acc sc al ps).1.length=acc.length+ps.length∧∀s∈(sch acc sc al ps).1,s.ok
 | [],acc,sc,al,h,_,_=>⟨by rw[sch];rfl,by rw[sch];exact h⟩
 | p :: ps,acc,sc,al,h,ha,h0=>by
  rw[sch]at h0 ⊢
  by_cases hc:(chV (nrm p) sc).2=0
  · rw[if_pos hc]at h0 ⊢
    have hs:∀s∈acc++[stp al (chV (nrm p) sc).1],s.ok:=fun s hs=>by
     rcases List.mem_append.1 hs with h1|h1
     · exact h s h1
     · rw[List.mem_singleton.1 h1];exact zmz ha (zfu _ _ (zd3 _))
    have h5:=zve ps _ _ _ hs (zfe _ _) h0;refine⟨by rw[h5.1];simp;omega,h5.2⟩
  · rw[if_neg hc]at h0
    exact absurd h0 hc
theorem ztp(xs:List UInt8):(pubB xs).length=32:=zfe _ _
theorem zsb{cs:List Cm}{n:Nat}(h:∀j c,cs[j]? = some c→c.check=0∧(decide (c.k=1)≠decide (j+1=n))):∀i,i≤cs.length→errN cs n i=0
 | 0,_=>rfl
 | i+1,hi=>by
  obtain⟨c,hc⟩:∃c,cs[i]? = some c:=⟨_,ge9 om⟩;obtain⟨h1,h2⟩:=h i c hc;have ih:=zsb h i om;rw[errN,hc];simp only;rw[if_neg (fun h=>h2 h.2),ih,h1]
  rfl
theorem zhf{last:Cm}{hs:List Ho}(h:pathE last hs=0):¬(last.k.toNat<2∨4<last.k.toNat)∧last.shaped=true∧∀(i:Nat) (o:Ho),0<i→hs[i]? = some o→o.id≠0:=by
 have h0:=h
 unfold pathE at h
 split at h
 · cases h
 rename_i h1
 split at h
 · cases h
 split at h
 · cases h
 split at h
 · cases h
 rename_i h4
 split at h
 · cases h
 rename_i h5
 refine⟨h1,by simpa using h4,fun i o hi ho e=>h5 (List.any_eq_true.2 ⟨o,?_,by simp[e]⟩)⟩;refine List.mem_of_getElem? (i:=i-1) ?_;rw[List.getElem?_drop,show 1+(i-1)=i by omega,ho]
theorem Cm.check_ok{c:Cm}(h1:¬(c.k.toNat<1∨4<c.k.toNat))(h2:c.shaped=true)(h3:c.d≤1000000):c.check=0:=by
 unfold Cm.check
 rw[if_neg h1,if_neg (by rw[h2];decide),if_neg om]
theorem k_ne1{k:UInt8}(h:¬(k.toNat<2∨4<k.toNat)):k≠1:=fun e=>by rw[e]at h;exact h (Or.inl (by decide))
theorem zq8{last:Cm}{hs:List Ho}(h:pathE last hs=0){j:Nat}(hj:j<hs.length):(pathC last hs j).check=0∧(decide ((pathC last hs j).k=1)≠decide (j+1=hs.length)):=by
 obtain⟨hb,h1,h5⟩:=zc5 h;obtain⟨hk,hsh,hid⟩:=zhf h;obtain⟨o,ho⟩:∃o,hs[j]? = some o:=⟨_,ge9 hj⟩;obtain⟨g1,g2,g3,g4⟩:=Ho.bad_no (hb o (mg9 ho));have hd:o.dl.toNat≤1000000:=om
 by_cases hl:j+1<hs.length
 · obtain⟨o2,ho2⟩:∃o,hs[j+1]? = some o:=⟨_,ge9 hl⟩
   have hn:=hid (j+1) o2 om ho2;have e:pathC last hs j=⟨1,UInt8.ofNat o.fl.toNat,o.dl.toNat,o2.id,List.replicate 16 0⟩:=by unfold pathC;rw[ho,ho2];simp only[if_pos hl];rfl
   rw[e];refine⟨Cm.check_ok (by show ¬((1:UInt8).toNat<1∨4<(1:UInt8).toNat);decide) ?_ hd,?_⟩
   · unfold Cm.shaped
     simp[hn]
   · have:¬j+1=hs.length:=om
     simp[this]
 · have e:pathC last hs j=⟨last.k,UInt8.ofNat o.fl.toNat,o.dl.toNat,0,last.m⟩:=by unfold pathC;rw[ho];simp only[if_neg hl]
   rw[e];have hk1:=k_ne1 hk;refine⟨Cm.check_ok (by show ¬(last.k.toNat<1∨4<last.k.toNat);omega) ?_ hd,?_⟩
   · unfold Cm.shaped at hsh ⊢
     by_cases hn0:last.n=0
     · simpa[hk1,hn0] using hsh
     · simp[hk1,hn0]at hsh
   · have:j+1=hs.length:=om
     simp[this,hk1]
theorem zdd(last:Cm)(hs:List Ho):(pathL last hs).length=hs.length:=by simp[pathL]
theorem zkv{last:Cm}{hs:List Ho}{j:Nat}{c:Cm}(h:(pathL last hs)[j]? = some c):j<hs.length∧c=pathC last hs j:=by
 have hj:=(List.getElem?_eq_some_iff.1 h).1;rw[zdd]at hj;refine⟨hj,?_⟩
 simp[pathL,List.getElem?_map,List.getElem?_range hj]at h
 exact h.symm
theorem zgm{last:Cm}(hc:last.ok){hs:List Ho}(hok:∀s∈hs,s.ok)(h:pathE last hs=0):∀c∈pathL last hs,c.ok:=fun c hm=>by
 obtain⟨i,hi⟩:=List.getElem?_of_mem hm;obtain⟨_,rfl⟩:=zkv hi;exact ze9 hc hok (zc5 h).1 i
theorem zku{last:Cm}{hs:List Ho}(h:pathE last hs=0):berr (pathL last hs) hs.length=0:=by
 obtain⟨_,h1,h5⟩:=zc5 h
 unfold berr
 rw[if_neg (by rw[zdd];omega)];refine zsb (fun j c hj=>?_) _ lr;obtain⟨hj',rfl⟩:=zkv hj;rw[zdd];exact zq8 h hj'
noncomputable def scE(xs:List UInt8)(hs:List Ho):Nat:=if xs.length≠32∨hs.length<1∨5<hs.length then 2 else (sch [] [xs] (pubB xs) (hs.map Ho.pub)).2
noncomputable def scL(xs:List UInt8)(hs:List Ho):List Sp:=(sch [] [xs] (pubB xs) (hs.map Ho.pub)).1
def boE(bs:List UInt8):Nat:=if bs.length≠480 then 2 else 0
def least3(a b c:Nat):Nat:=(leastOf [(a:Int),(b:Int),(c:Int)]).toNat
theorem zb5(m e:Nat):least1 (m:Int) (e:Int)=((if e≠0∧(m=0∨e<m) then e else m:Nat):Int):=by
 unfold least1
 by_cases h:e≠0∧(m=0∨e<m)
 · rw[if_pos h,if_pos om]
 · rw[if_neg h,if_neg om]
theorem zhr(a b c:Nat):leastOf [(a:Int),(b:Int),(c:Int)]=(least3 a b c:Int):=by
 have h:∃n:Nat,leastOf [(a:Int),(b:Int),(c:Int)]=(n:Int):=by
  have h0:least1 0 (a:Int)=((if a≠0∧((0:Nat)=0∨a<0) then a else 0:Nat):Int):=zb5 0 a;have g:∀m e:Nat,∃n:Nat,least1 (m:Int) (e:Int)=(n:Int):=fun m e=>⟨_,zb5 m e⟩
  obtain⟨x,hx⟩:∃x:Nat,least1 0 (a:Int)=(x:Int):=⟨_,h0⟩;obtain⟨y,hy⟩:=g x b;obtain⟨z,hz⟩:=g y c;exact⟨z,by show least1 (least1 (least1 0 (a:Int)) (b:Int)) (c:Int)=_;rw[hx,hy,hz]⟩
 obtain⟨n,hn⟩:=h;rw[least3,hn]
 rfl
theorem zt5(b c:Nat):least3 1 b c=1:=by
 have h:leastOf [((1:Nat):Int),(b:Int),(c:Int)]=((1:Nat):Int):=by
  show least1 (least1 (least1 0 ((1:Nat):Int)) (b:Int)) (c:Int)=_
  have h0:least1 0 ((1:Nat):Int)=((1:Nat):Int):=rfl;rw[h0,zb5,if_neg om,zb5,if_neg om]
 rw[least3,h]
 rfl
theorem zt6{a b c:Nat}(h:least3 a b c=0):a=0∧b=0∧c=0:=by
 have h5:=zhr a b c;rw[h]at h5;have h0:least1 0 (a:Int)=((if a≠0∧((0:Nat)=0∨a<0) then a else 0:Nat):Int):=zb5 0 a;have h6:leastOf [(a:Int),(b:Int),(c:Int)]=least1 (least1 (least1 0 (a:Int)) (b:Int)) (c:Int):=rfl;rw[h6,h0,zb5,zb5]at h5;have h7:=Int.ofNat_inj.1 h5
 repeat' split at h7
 all_goals omega
noncomputable def pbE(last:Cm)(xs bs:List UInt8)(hs:List Ho):Nat:=least3 (pathE last hs) (scE xs hs) (boE bs)
noncomputable def pbL(last:Cm)(xs bs:List UInt8)(hs:List Ho):List UInt8:=hst (pathL last hs) (scL xs hs) hs.length hs.length++sealAll ((scL xs hs).reverse.map Sp.pay) bs
theorem pbE_1{last:Cm}{xs bs:List UInt8}{hs:List Ho}(h:pathE last hs=1):pbE last xs bs hs=1:=by rw[pbE,h,zt5]
theorem zim{xs:List UInt8}{hs:List Ho}(h:scE xs hs=0):xs.length=32∧(scL xs hs).length=hs.length∧∀s∈scL xs hs,s.ok:=by
 unfold scE at h
 split at h
 · cases h
 rename_i h1
 have h5:=zve (hs.map Ho.pub) [] [xs] (pubB xs) (fun s hs=>by cases hs) (ztp xs) h;refine⟨by omega,by rw[scL,h5.1];simp,h5.2⟩
theorem pbE_0{last:Cm}{xs bs:List UInt8}{hs:List Ho}(h:pbE last xs bs hs=0):pathE last hs=0∧scE xs hs=0∧xs.length=32∧bs.length=480∧1≤hs.length∧hs.length≤5:=by
 obtain⟨h1,h2,h3⟩:=zt6 h;obtain⟨_,h4,h5⟩:=zc5 h1;refine⟨h1,h2,(zim h2).1,?_,h4,h5⟩
 unfold boE at h3
 split at h3
 · cases h3
 · omega
theorem zwy{last:Cm}(hc:last.ok){xs bs:List UInt8}{hs:List Ho}(hok:∀s∈hs,s.ok)(h:pbE last xs bs hs=0):(pbL last xs bs hs).length=768:=by
 obtain⟨h1,h2,h3,h4,h5,h6⟩:=pbE_0 h;obtain⟨_,h7,h8⟩:=zim h2;rw[pbL,la9,zhv (zgm hc hok h1) h8 (zdd last hs) h7 h6 _ lr,zes _ _ om,h4]
section
attribute [local go_sem ↓] zcg
theorem ztw(last:Cm)(hc:last.ok)(A:Option Addr)(n c:Nat)(hs:List Ho)(w:World)(h:RdS 68 w A n (hs.flatMap Ho.cells))(hok:∀s∈hs,s.ok)(hl:hs.length=n)(hn:n≤140737488355328):
 Calls Tryz.prog 53 #[.agg last.cells.toArray,.slice A n c] w fun e w'=>∃A' n',e=.returned (.tuple #[.slice A' n' n',.int .i64 (pathE last hs:Int)])∧(pathE last hs=0→n'=n∧RdS 20 w' A' n ((pathL last hs).flatMap Cm.cells))∧Below w.heap.size w w':=by
 by_cases he:pathE last hs=0
 · refine(zm9 last hc A n c hs w h hok hl he).mono ?_
   rintro e w' ⟨A',rfl,hr,hB⟩;exact⟨A',n,by rw[he];rfl,fun _=>⟨rfl,hr⟩,hB⟩
 · refine(zwz last hc A n c hs w h hok hl hn he).mono ?_
   rintro e w' ⟨rfl,hB⟩;exact⟨none,0,rfl,fun h=>absurd h he,hB⟩
theorem zkm(A C:Option Addr)(n c m d:Nat)(xs:List UInt8)(hs:List Ho)(w:World)(hx:Rd w A n (u8s xs))(hc:n≤c)(hp:RdB w C m (hs.map Ho.pub))(hok:∀s∈hs,s.ok)(hm:hs.length=m):
 Calls Tryz.prog 54 #[.slice A n c,.slice C m d] w fun e w'=>∃A' n' c',e=.returned (.tuple #[.slice A' n' c',.int .i64 (scE xs hs:Int)])∧n'≤c'∧(scE xs hs=0→n'=m∧RdS 192 w' A' m ((scL xs hs).flatMap Sp.cells))∧Below w.heap.size w w':=by
 have hn:xs.length=n:=hx.len
 by_cases hb:n≠32∨m<1∨5<m
 · refine(zs5 A C n c m d w hb).mono ?_
   rintro e w' ⟨rfl,rfl⟩;have e2:scE xs hs=2:=by rw[scE,if_pos (by rw[hn,hm];exact hb)]
   exact⟨none,0,0,by rw[e2];rfl,lr,fun h=>(by rw[e2]at h;cases h),Below.refl _ _⟩
 · obtain rfl:n=32:=om
   have e2:scE xs hs=(sch [] [xs] (pubB xs) (hs.map Ho.pub)).2:=by rw[scE,if_neg (by rw[hn,hm];exact hb)]
   refine(zp1 A C c m d xs (hs.map Ho.pub) w hx hc hp (fun p hp=>by obtain⟨o,ho,rfl⟩:=List.mem_map.1 hp;exact(hok o ho).2.2.1) om om).mono ?_;rintro e w' ⟨A',n',c',rfl,hn',hr,hl',hB⟩;refine⟨A',n',c',by rw[e2],hn',fun h=>?_,hB⟩;have h7:(scL xs hs).length=hs.length:=(zim h).2.1;have h8:n'=m:=by rw[←hl',←hm];exact h7
   subst h8;exact⟨rfl,hr⟩
theorem ze6(w:World)(ty:TypeId)(a b c:Int):Rd (w.alloc (.cells #[.int .i64 a,.int .i64 b,.int .i64 c] ty)) (some ⟨w.heap.size,0,none⟩) 3 (i64s [a,b,c]):=⟨rfl,fun _=>⟨w.heap.size,0,rfl,by simp,fun j u hu=>by rw[Nat.zero_add];exact((Blk.new w ty (i64s [a,b,c])).cell j).trans hu⟩⟩
theorem zq3(A B H:Option Addr)(na ca nb cb n c:Nat)(xs bs:List UInt8)(last:Cm)(hc:last.ok)(hs:List Ho)(w:World)(hx:Rd w A na (u8s xs))(hca:na≤ca)(hb:Rd w B nb (u8s bs))(hh:RdS 68 w H n (hs.flatMap Ho.cells))(hok:∀s∈hs,s.ok)(hl:hs.length=n)(hn:n≤1400000000000)(he:pbE last xs bs hs≠0):
 Calls Tryz.prog 29 #[.slice A na ca,.agg last.cells.toArray,.slice B nb cb,.slice H n c] w fun e w'=>e=.returned (.tuple #[.agg (u8s z768).toArray,.int .i64 (pbE last xs bs hs:Int)])∧Below w.heap.size w w':=by
 have HH:=qh hh;have HX:=qh hx;have HCL:=qh (Cm.cells_len hc);have hbl:bs.length=nb:=hb.len
 have HPA:Hid (∀W,Below w.heap.size w W→Calls Tryz.prog 53 #[.agg last.cells.toArray,.slice H n c] W fun e w'=>∃A' n',e=.returned (.tuple #[.slice A' n' n',.int .i64 (pathE last hs:Int)])∧Below W.heap.size W w'):=fun W hW=>by
  refine(ztw last hc H n c hs W (hh.bel hW lr) hok hl om).mono ?_;rintro e w' ⟨A',n',rfl,_,hB⟩;exact⟨A',n',rfl,hB⟩
 have HPU:Hid (∀W,Below w.heap.size w W→Calls Tryz.prog 55 #[.slice H n c] W fun e w'=>∃A',e=.returned (.slice A' n n)∧RdB w' A' n (hs.map Ho.pub)∧Below W.heap.size W w'):=fun W hW=>zha H n c hs W (hh.bel hW lr) hok hl hn
 have HSC:Hid (∀W C,Below w.heap.size w W→RdB W C n (hs.map Ho.pub)→Calls Tryz.prog 54 #[.slice A na ca,.slice C n n] W fun e w'=>∃A' n' c',e=.returned (.tuple #[.slice A' n' c',.int .i64 (scE xs hs:Int)])∧Below W.heap.size W w'):=fun W C hW hp=>by
  refine(zkm A C na ca n n xs hs W (hx.below hW) hca hp hok hl).mono ?_;rintro e w' ⟨A',n',c',rfl,_,_,hB⟩;exact⟨A',n',c',rfl,hB⟩
 have HLE:Hid (∀W A3,Rd W A3 3 (i64s [(pathE last hs:Int),(scE xs hs:Int),(boE bs:Int)])→Calls Tryz.prog 41 #[.slice A3 3 3] W fun e w'=>e=.returned (.int .i64 (pbE last xs bs hs:Int))∧W=w'):=fun W A3 h3=>by
  have h5:=zff A3 3 3 _ W h3 om
  rwa [zhr]at h5
 have HPE1:Hid (pathE last hs=1→pbE last xs bs hs=1):=fun h=>pbE_1 h
 have HBO:Hid (boE bs=if nb≠480 then 2 else 0):=by show _=_;rw[boE,hbl]
 obtain⟨Z,HZ,HZl,H1⟩:∃Z:List Value,Hid (Tryz.zeroCells35 = Z.toArray)∧Hid (Z.length=768)∧Hid (∀v∈Z,v.oneCell'=true):=⟨u8s z768,zc76z,by show(u8s _).length=_;rw[zaa];exact zby,zac _⟩;have HZZ:Hid (Z=u8s z768):=by show _=_;have h5:=HZ.out.symm.trans zc76z;simpa using congrArg Array.toList h5
 rw[←HZZ.out];have hi:(Tryz.prog.info? 35).map (·.size)=some Z.length:=by rw[HZl.out];exact hd76
 have HI:=qh hi;obtain⟨C,hC⟩:=ex9 (last.cells);rw[←hC]at HPA HCL ⊢;generalize pathE last hs=PE at *;generalize scE xs hs=SE at *;generalize boE bs=BE at *;generalize pbE last xs bs hs=LE at *;have hLE:¬(LE:Int)=0:=om;have hld:(ldAt 47 (.pointer (some ⟨w.heap.size,0,none⟩))).run Tryz.prog ((w.alloc (.cells C.toArray 47)).alloc (.cells Tryz.zeroCells35 35))=.ok (.agg C.toArray) ((w.alloc (.cells C.toArray 47)).alloc (.cells Tryz.zeroCells35 35)):=cm_ld ((Blk.new w _ C).alloc _) HCL.out;have HE0:Hid (Below w.heap.size w ((w.alloc (.cells C.toArray 47)).alloc (.cells Tryz.zeroCells35 35))):=((Below.refl _ w).alloc lr _).alloc sy _;have HB0:Hid (Blk ((w.alloc (.cells C.toArray 47)).alloc (.cells Tryz.zeroCells35 35)) (w.heap.size+1) 35 Z):=Blk.new' sy HZ.out;clear hh hx hb hi hC hc hok hl he hbl
 by_cases hp1:PE=1
 · have hle1:LE=1:=HPE1.out hp1
   subst hp1;subst hle1;clear HPE1 HBO HLE HSC HPU HX HH hLE;have HPA2:Hid (∀W,Below w.heap.size w W→Calls Tryz.prog 53 #[.agg C.toArray,.slice H n c] W fun e w'=>∃A' n',e=.returned (.tuple #[.slice A' n' n',.int .i64 1])∧Below W.heap.size W w'):=HPA.out;clear HPA
   go_enter Tryz.func29, Tryz.ntmps29
   go_wp2_with (first
    | (go_at_call 53;(refine(HPA2.out _ (by exact HE0.out)).mono ?_);rintro e w1 ⟨A1,n1,rfl,hB1⟩;have HE1:=qtr HE0 hB1;have HB1:=qbl HB0 hB1;clear hB1)
    | (refine zap rfl 35 [] rfl [] rr _ (zem _) ?_)
    | (refine zbe rfl 35 (.tmp 8) (.tmp 31) rfl (w.heap.size+1) 0 Z rr (by exact congrArg Value.agg HZ.out) 35 Z (by exact HB1.out) HI.out H1.out om ?_;intro w4 hb4 ho4))
   have hB4:=ho4.below HE1.out (Nat.le_succ _) HE1.out.size;rw[zan _ _ rfl]at hb4;exact bodyPost_ret (zah rfl _ _ _ _ rfl hb4 _ Tryz.underlying35 rfl HI.out) rfl ⟨rfl,hB4⟩
 · have hp1i:¬(PE:Int)=1:=om
   clear HPE1
   by_cases hnb:nb=480
   · subst hnb
     obtain rfl:BE=0:=by rw[HBO.out,if_neg om]
     have HLE2:Hid (∀W A3,Rd W A3 3 (i64s [(PE:Int),(SE:Int),0])→Calls Tryz.prog 41 #[.slice A3 3 3] W fun e w'=>e=.returned (.int .i64 (LE:Int))∧W=w'):=HLE.out;clear HBO HLE
     go_enter Tryz.func29, Tryz.ntmps29
     go_wp2_with (first
      | (go_at_call 53;(refine(HPA.out _ (by exact HE0.out)).mono ?_);rintro e w1 ⟨A1,n1,rfl,hB1⟩;have HE1:=qtr HE0 hB1;have HB1:=qbl HB0 hB1;clear hB1)
      | (go_at_call 55;(refine(HPU.out _ (by exact HE1.out)).mono ?_);rintro e w2 ⟨A2,rfl,hr2,hB2⟩;have HE2:=qtr HE1 hB2;have HB2:=qbl HB1 hB2;have HR2:=qh hr2;clear hB2 hr2)
      | (go_at_call 54;(refine(HSC.out _ _ (by exact HE2.out) (by exact HR2.out)).mono ?_);rintro e w3 ⟨A3,n3,c3,rfl,hB3⟩;have HE3:=qtr HE2 hB3;have HB3:=qbl HB2 hB3;clear hB3)
      | (go_at_call 41;(refine(HLE2.out _ _ (by exact ze6 _ _ _ _ _)).mono ?_);rintro e w4 ⟨rfl,rfl⟩;have HE4:=qh (HE3.out.alloc HE3.out.size (.cells #[.int .i64 (PE:Int),.int .i64 (SE:Int),.int .i64 0] 36));have HB4:=qh (HB3.out.alloc (.cells #[.int .i64 (PE:Int),.int .i64 (SE:Int),.int .i64 0] 36)))
      | (refine zap rfl 35 [] rfl [] rr _ (zem _) ?_)
      | (refine zbe rfl 35 (.tmp 8) (.tmp 50) rfl (w.heap.size+1) 0 Z rr (by exact congrArg Value.agg HZ.out) 35 Z (by exact HB4.out) HI.out H1.out om ?_;intro w5 hb5 ho5))
     have hB5:=ho5.below HE4.out (Nat.le_succ _) HE4.out.size;rw[zan _ _ rfl]at hb5;exact bodyPost_ret (zah rfl _ _ _ _ rfl hb5 _ Tryz.underlying35 rfl HI.out) rfl ⟨rfl,hB5⟩
   · have hnbi:¬(nb:Int)=480:=om
     obtain rfl:BE=2:=by rw[HBO.out,if_pos hnb]
     have HLE2:Hid (∀W A3,Rd W A3 3 (i64s [(PE:Int),(SE:Int),2])→Calls Tryz.prog 41 #[.slice A3 3 3] W fun e w'=>e=.returned (.int .i64 (LE:Int))∧W=w'):=HLE.out;clear HBO HLE hnb
     go_enter Tryz.func29, Tryz.ntmps29
     go_wp2_with (first
      | (go_at_call 53;(refine(HPA.out _ (by exact HE0.out)).mono ?_);rintro e w1 ⟨A1,n1,rfl,hB1⟩;have HE1:=qtr HE0 hB1;have HB1:=qbl HB0 hB1;clear hB1)
      | (go_at_call 55;(refine(HPU.out _ (by exact HE1.out)).mono ?_);rintro e w2 ⟨A2,rfl,hr2,hB2⟩;have HE2:=qtr HE1 hB2;have HB2:=qbl HB1 hB2;have HR2:=qh hr2;clear hB2 hr2)
      | (go_at_call 54;(refine(HSC.out _ _ (by exact HE2.out) (by exact HR2.out)).mono ?_);rintro e w3 ⟨A3,n3,c3,rfl,hB3⟩;have HE3:=qtr HE2 hB3;have HB3:=qbl HB2 hB3;clear hB3)
      | (go_at_call 41;(refine(HLE2.out _ _ (by exact ze6 _ _ _ _ _)).mono ?_);rintro e w4 ⟨rfl,rfl⟩;have HE4:=qh (HE3.out.alloc HE3.out.size (.cells #[.int .i64 (PE:Int),.int .i64 (SE:Int),.int .i64 2] 36));have HB4:=qh (HB3.out.alloc (.cells #[.int .i64 (PE:Int),.int .i64 (SE:Int),.int .i64 2] 36)))
      | (refine zap rfl 35 [] rfl [] rr _ (zem _) ?_)
      | (refine zbe rfl 35 (.tmp 8) (.tmp 50) rfl (w.heap.size+1) 0 Z rr (by exact congrArg Value.agg HZ.out) 35 Z (by exact HB4.out) HI.out H1.out om ?_;intro w5 hb5 ho5))
     have hB5:=ho5.below HE4.out (Nat.le_succ _) HE4.out.size;rw[zan _ _ rfl]at hb5;exact bodyPost_ret (zah rfl _ _ _ _ rfl hb5 _ Tryz.underlying35 rfl HI.out) rfl ⟨rfl,hB5⟩
end
section
attribute [local go_sem ↓] zcg
theorem zwn{w:World}{T:Option Addr}{n:Nat}{vs:List Value}{ls:List (List UInt8)}(hr:Rd w T n vs.reverse)(hl:ls.length=n)(hvl:vs.length=n)(hv:∀(i:Nat) (v:Value),vs[i]? = some v→∃l,ls[i]? = some l∧SlB w v l):RdB w T n ls.reverse:=by
 refine⟨vs.reverse,hr,by rw[List.length_reverse,hl],fun i v hi=>?_⟩;have hil:i<n:=by have:=(List.getElem?_eq_some_iff.1 hi).1;rwa [List.length_reverse,hvl]at this
 rw[List.getElem?_reverse om]at hi;obtain⟨l,h1,h2⟩:=hv _ v hi;refine⟨l,?_,h2⟩;rw[List.getElem?_reverse om,hl,←hvl];exact h1
theorem ztk{vs:List Value}{n t j:Nat}{v:Value}(hl:vs.length=n)(hn:n=t+1+j)(h:vs[t]? = some v):vs.reverse.take j++[v]=vs.reverse.take (j+1):=by
 rw[List.take_add_one,List.getElem?_reverse om,show vs.length-1-j=t by omega,h]
 rfl
theorem zov(A B H:Option Addr)(na ca nb cb n c:Nat)(xs bs:List UInt8)(last:Cm)(hc:last.ok)(hs:List Ho)(w:World)(hx:Rd w A na (u8s xs))(hca:na≤ca)(hb:Rd w B nb (u8s bs))(hcb:nb≤cb)(hh:RdS 68 w H n (hs.flatMap Ho.cells))(hok:∀s∈hs,s.ok)(hl:hs.length=n)(he:pbE last xs bs hs=0):
 Calls Tryz.prog 29 #[.slice A na ca,.agg last.cells.toArray,.slice B nb cb,.slice H n c] w fun e w'=>e=.returned (.tuple #[.agg (u8s (pbL last xs bs hs)).toArray,.int .i64 0])∧Below w.heap.size w w':=by
 obtain⟨hpe,hse,hxl,hb4,hn1,hn5⟩:=pbE_0 he;obtain⟨k,hk⟩:∃k,n=k+1:=⟨n-1,by omega⟩;subst hk;obtain rfl:na=32:=by rw[←hx.len,hxl]
 obtain rfl:nb=480:=by rw[←hb.len,hb4]
 obtain⟨_,hs7,hs8⟩:=zim hse;have hk4:k≤4:=om
 have hhl:(hst (pathL last hs) (scL xs hs) (k+1) (k+1)).length=288:=by
  have h5:=zhv (cs:=pathL last hs) (ss:=scL xs hs) (n:=k+1) (zgm hc hok hpe) hs8 (by rw[zdd,hl]) (by rw[hs7,hl]) om (k+1) lr;exact h5
 have hsl:(sealAll ((scL xs hs).reverse.map Sp.pay) bs).length=480:=by rw[zes _ _ om,hb4]
 have HPA:Hid (∀W,Below w.heap.size w W→Calls Tryz.prog 53 #[.agg last.cells.toArray,.slice H (k+1) c] W fun e w'=>∃A',e=.returned (.tuple #[.slice A' (k+1) (k+1),.int .i64 0])∧RdS 20 w' A' (k+1) ((pathL last hs).flatMap Cm.cells)∧Below W.heap.size W w'):=fun W hW=>zm9 last hc H (k+1) c hs W (hh.bel hW lr) hok hl hpe
 have HPU:Hid (∀W,Below w.heap.size w W→Calls Tryz.prog 55 #[.slice H (k+1) c] W fun e w'=>∃A',e=.returned (.slice A' (k+1) (k+1))∧RdB w' A' (k+1) (hs.map Ho.pub)∧Below W.heap.size W w'):=fun W hW=>zha H (k+1) c hs W (hh.bel hW lr) hok hl om
 have HSC:Hid (∀W C,Below w.heap.size w W→RdB W C (k+1) (hs.map Ho.pub)→Calls Tryz.prog 54 #[.slice A 32 ca,.slice C (k+1) (k+1)] W fun e w'=>∃A' c',e=.returned (.tuple #[.slice A' (k+1) c',.int .i64 0])∧k+1≤c'∧RdS 192 w' A' (k+1) ((scL xs hs).flatMap Sp.cells)∧Below W.heap.size W w'):=fun W C hW hp=>by
  refine(zkm A C 32 ca (k+1) (k+1) xs hs W (hx.below hW) hca hp hok hl).mono ?_;rintro e w' ⟨A',n',c',rfl,hn',hr,hB⟩;obtain⟨rfl,hr9⟩:=hr hse;exact⟨A',c',by rw[hse];rfl,hn',hr9,hB⟩
 have HLE:Hid (∀W A3,Rd W A3 3 (i64s [0,0,0])→Calls Tryz.prog 41 #[.slice A3 3 3] W fun e w'=>e=.returned (.int .i64 0)∧W=w'):=fun W A3 h3=>zff A3 3 3 _ W h3 om
 have HBD:Hid (∀W A1 A2 c2,RdS 20 W A1 (k+1) ((pathL last hs).flatMap Cm.cells)→RdS 192 W A2 (k+1) ((scL xs hs).flatMap Sp.cells)→k+1≤c2→Calls Tryz.prog 51 #[.slice A1 (k+1) (k+1),.slice A2 (k+1) c2] W fun e w'=>e=.returned (.tuple #[.agg (u8s (hst (pathL last hs) (scL xs hs) (k+1) (k+1))).toArray,.int .i64 0])∧Below W.heap.size W w'):=fun W A1 A2 c2 h1 h2 h3 =>
  zu4 A1 A2 k (k+1) c2 (pathL last hs) (scL xs hs) W h1 h2 (zgm hc hok hpe) hs8 (by rw[zdd,hl]) (by rw[hs7,hl]) h3 (by rw[←hl];exact zku hpe)
 have HPY:Hid (∀W A2 c2,RdS 192 W A2 (k+1) ((scL xs hs).flatMap Sp.cells)→Calls Tryz.prog 62 #[.slice A2 (k+1) c2] W fun e w'=>∃A',e=.returned (.slice A' (k+1) (k+1))∧RdB w' A' (k+1) ((scL xs hs).map Sp.pay)∧Below W.heap.size W w'):=fun W A2 c2 h2=>ztv A2 (k+1) c2 (scL xs hs) W h2 hs8 (by rw[hs7,hl]) om
 have HSA:Hid (∀W T cT,Below w.heap.size w W→RdB W T (k+1) ((scL xs hs).map Sp.pay).reverse→Calls Tryz.prog 63 #[.slice B 480 cb,.slice T (k+1) cT] W fun e w'=>∃A' c',e=.returned (.tuple #[.slice A' 480 c',.int .i64 0])∧480≤c'∧Rd w' A' 480 (u8s (sealAll ((scL xs hs).reverse.map Sp.pay) bs))∧Below W.heap.size W w'):=fun W T cT hW h3=>by
  rw[←List.map_reverse]at h3;exact zlj B T cb 480 (k+1) cT bs _ W (hb.below hW) hcb h3 (fun x hx=>by obtain⟨s,hs9,rfl⟩:=List.mem_map.1 hx;exact(hs8 s (List.mem_reverse.1 hs9)).2.2.1) om om om
 have HSK:Hid (((scL xs hs).map Sp.pay).length=k+1):=by show _=_;rw[List.length_map,hs7,hl]
 obtain⟨L,hL⟩:=ex9 (pbL last xs bs hs);have hL2:L=hst (pathL last hs) (scL xs hs) (k+1) (k+1)++sealAll ((scL xs hs).reverse.map Sp.pay) bs:=by rw[hL,pbL,hl]
 rw[←hL];generalize hst (pathL last hs) (scL xs hs) (k+1) (k+1)=HQ at *;generalize sealAll ((scL xs hs).reverse.map Sp.pay) bs=SL at *;generalize (scL xs hs).map Sp.pay=SK at *;generalize (scL xs hs).flatMap Sp.cells=SS at *;generalize (pathL last hs).flatMap Cm.cells=CS at *;have HLL:Hid (L=HQ++SL):=hL2;have HHL:=qh hhl;have HSL:=qh hsl;have HCL:=qh (Cm.cells_len hc);obtain⟨C,hC⟩:=ex9 (last.cells);rw[←hC]at HPA HCL ⊢;obtain⟨Z,HZ,HZl,HZ1⟩:∃Z:List Value,Hid (Tryz.zeroCells35 = Z.toArray)∧Hid (Z.length=768)∧Hid (∀v∈Z,v.oneCell'=true):=⟨u8s z768,zc76z,by show(u8s _).length=_;rw[zaa];exact zby,zac _⟩;obtain⟨Y,HY,HYl⟩:∃Z:List Value,Hid (Tryz.zeroCells32 = Z.toArray)∧Hid (Z.length=288):=⟨_,zc34',by show(u8s _).length=_;rw[zaa];simp⟩;have H34:Hid ((Tryz.prog.info? 32).map (·.size)=some (u8s HQ).length):=by show _=_;rw[zaa,HHL.out];exact hd34
 have HF34:Hid ((u8s HQ).length=Y.length):=by show _=_;rw[zaa,HHL.out,HYl.out]
 obtain⟨X,HX,HXl,HX1⟩:∃X:List Value,Hid (X=splice Z 0 (u8s HQ))∧Hid (X.length=768)∧Hid (∀v∈X,v.oneCell'=true):=⟨_,rfl,by
  show(splice _ _ _).length=_
  rw[length_splice _ _ _ (by rw[zaa,HHL.out,HZl.out];omega),HZl.out],by
  show ∀v∈splice _ _ _,_
  intro v hv;simp only[splice,List.mem_append]at hv
  rcases hv with hv|hv|hv
  · exact HZ1.out v (List.mem_of_mem_take hv)
  · exact zac _ v hv
  · exact HZ1.out v (List.mem_of_mem_drop hv)⟩
 have HBU:Hid (∀W,(Instr.build 35 #[(0,.agg (u8s HQ).toArray)]).run Tryz.prog W=.ok (.agg X.toArray) W):=fun W =>
  zce Tryz.zeroValue35 Tryz.underlying35 (pl76 _ Tryz.underlying35) (by
   rw[HZ.out]
   show Instr.fill _ _ [(0,_)]=_
   rw[za8 (cs:=u8s HQ) rfl (by rw[zaa,HHL.out];rfl) (by rw[zaa,HHL.out,HZl.out];omega),HX.out]
   rfl) W
 have H76:Hid ((Tryz.prog.info? 35).map (·.size)=some X.length):=by show _=_;rw[HXl.out];exact hd76
 have HF76:Hid (X.length=Z.length):=by show _=_;rw[HXl.out,HZl.out]
 have HFN:Hid (splice X 288 ((u8s SL).take 480)=u8s L):=by
  show _=_
  rw[HX.out,zfm Z (u8s HQ) _ 288 (by rw[zaa,HHL.out]) (by rw[List.length_take,zaa,HSL.out,HZl.out];omega),zay,tk (by rw[HSL.out];exact lr),←zae,HLL.out]
 have HI:Hid ((Tryz.prog.info? 35).map (·.size)=some (u8s L).length):=by show _=_;rw[zaa,HLL.out,la9,HHL.out,HSL.out];exact hd76
 have HFZ:Hid ((u8s L).length=Z.length):=by show _=_;rw[zaa,HLL.out,la9,HHL.out,HSL.out,HZl.out]
 have hld:(ldAt 47 (.pointer (some ⟨w.heap.size,0,none⟩))).run Tryz.prog ((w.alloc (.cells C.toArray 47)).alloc (.cells Tryz.zeroCells35 35))=.ok (.agg C.toArray) ((w.alloc (.cells C.toArray 47)).alloc (.cells Tryz.zeroCells35 35)):=cm_ld ((Blk.new w _ C).alloc _) HCL.out;have HE0:Hid (Below w.heap.size w ((w.alloc (.cells C.toArray 47)).alloc (.cells Tryz.zeroCells35 35))):=((Below.refl _ w).alloc lr _).alloc sy _;have HB0:Hid (Blk ((w.alloc (.cells C.toArray 47)).alloc (.cells Tryz.zeroCells35 35)) (w.heap.size+1) 35 Z):=Blk.new' sy HZ.out;clear hh hx hb hC hc hok hl he hpe hse hxl hb4 hn1 hn5 hs7 hs8 hhl hsl hL hL2 hca hcb
 go_enter Tryz.func29, Tryz.ntmps29
 go_wp2_with (first
  | (go_at_call 53;(refine(HPA.out _ (by exact HE0.out)).mono ?_);rintro e w1 ⟨A1,rfl,hr1,hB1⟩;have HE1:=qtr HE0 hB1;have HB1:=qbl HB0 hB1;have HR1:=qh hr1;clear hB1 hr1)
  | (go_at_call 55;(refine(HPU.out _ (by exact HE1.out)).mono ?_);rintro e w2 ⟨A2,rfl,hr2,hB2⟩;have HE2:=qtr HE1 hB2;have HB2:=qbl HB1 hB2;have HC2:=qh (HR1.out.belo hB2);have HR2:=qh hr2;clear hB2 hr2)
  | (go_at_call 54;(refine(HSC.out _ _ (by exact HE2.out) (by exact HR2.out)).mono ?_);rintro e w3 ⟨A3,c3,rfl,hc3,hr3,hB3⟩;have HE3:=qtr HE2 hB3;have HB3:=qbl HB2 hB3;have HC3:=qh (HC2.out.belo hB3);have HR3:=qh hr3;clear hB3 hr3)
  | (go_at_call 41;(refine(HLE.out _ _ (by exact ze6 _ _ _ _ _)).mono ?_);rintro e w4 ⟨rfl,rfl⟩;have HE4:=qh (HE3.out.alloc HE3.out.size (.cells #[.int .i64 0,.int .i64 0,.int .i64 0] 36));have HB4:=qh (HB3.out.alloc (.cells #[.int .i64 0,.int .i64 0,.int .i64 0] 36));have HC4:=qh (HC3.out.allo (.cells #[.int .i64 0,.int .i64 0,.int .i64 0] 36));have HR4:=qh (HR3.out.allo (.cells #[.int .i64 0,.int .i64 0,.int .i64 0] 36)))
  | (go_at_call 51;(refine(HBD.out _ _ _ _ (by exact HC4.out) (by exact HR4.out) (by exact hc3)).mono ?_);rintro e w5 ⟨rfl,hB5⟩;have HE5:=qtr HE4 hB5;have HB5:=qbl HB4 hB5;have HR5:=qh (HR4.out.belo hB5);clear hB5)
  | (refine zab rfl 32 (.tmp 16) (.tmp 56) rfl w5.heap.size (u8s HQ) rr rr 32 Y (by exact Blk.new' rfl HY.out) H34.out (zac _) HF34.out ?_;intro w6 hb6 ho6;have hD6:Below w5.heap.size w5 w6:=ho6.below ((Below.refl _ w5).alloc lr _) lr sy;have HE6:=qtr HE5 hD6;have HB6:=qbl HB5 hD6;have HR6:=qh (HR5.out.belo hD6);have HH6:=qh hb6;clear hb6 ho6 hD6)
  | (go_at_call 62;(refine(HPY.out _ _ _ (by exact HR6.out)).mono ?_);rintro e w7 ⟨A7,rfl,hr7,hB7⟩;have HE7:=qtr HE6 hB7;have HB7:=qbl HB6 hB7;have HH7:=qbl HH6 hB7;have HR7:=qh hr7;clear hB7 hr7)
  | (at_make;refine zaj rfl (.const (.int .i64 0)) (.tmp 65) 87 rfl 22 (.slice none 0 0) 24 Tryz.underlying87 iSl rfl .i64 .i64 0 ((k:Int)+1) rr rr 0 (k+1) rfl om om om om ?_;intro w8 hb8 hg8 hs8;have HO8:=qh (show w8.ownsRow w7.heap.size 22 1 (.slice (some ⟨w7.heap.size,0,none⟩) 0 (k+1)) 0 [] from (by have h5:=zbk (base:=w7.heap.size) hb8 lr 0 (k+1) 1 om (by simp[zav]) om;simpa using h5));have HD8:=qh (zad hg8);clear hb8 hg8 hs8))
 obtain⟨vs,hvr,hvl,hvv⟩:=HR7.out;have HVR:=qh hvr;have HVL:Hid (vs.length=k+1):=hvr.1;have HVV:=qh hvv;clear hvr hvl hvv HR7;have HT0:Hid (vs.reverse.take 0=[]):=rfl
 go_loopg [19,20] (k+1) (fun kk v q wr=>∃(j:Nat),j≤k+1∧kk=k+1-j∧q=.int .i64 ((k:Int)-(j:Int))∧(∃T cT,v=.slice T j cT∧j≤cT∧Hid (wr.ownsRow w7.heap.size 22 1 (.slice T j cT) j (vs.reverse.take j)))∧Hid (Below w7.heap.size w7 wr))
 case atStart=>exact⟨0,by omega,rfl,by go_num,⟨_,k+1,rfl,by omega,HO8⟩,HD8⟩
 case round =>
  clear HO8 HD8;obtain⟨j,hj,hgk,rfl,⟨T,cT,rfl,hcT,HOW⟩,HD⟩:=hrel;have HGK:=qh hgk;clear hgk
  by_cases hlt:j<k+1
  · obtain⟨t,ht⟩:=ex9 (k-j)
    rw[show(k:Int)-(j:Int)=(t:Int) by omega];have ht0:(0:Int)≤(t:Int):=om;have htk:(t:Int)<(k:Int)+1:=om;obtain⟨bP,oP,u,rfl,hbP,hu,hcu⟩:=HVR.out.at_ (k:=t) om;obtain⟨l1,_,A1,n1,c1,rfl,_,_⟩:=HVV.out t u hu;have e48:wr.cell? ⟨bP,oP+t,none⟩=some (.slice A1 n1 c1):=(HD.out.cell hbP).trans hcu;have HST:Hid (vs.reverse.take j++[.slice A1 n1 c1]=vs.reverse.take (j+1)):=ztk HVL.out om hu;have HT:=qh ht;clear ht hu hcu hbP
    go_wp2_with (at_builtin;refine zaf rfl (.tmp 74) (.tmp 79) 87 rfl w7.heap.size 22 1 24 Tryz.underlying87 eSl (.slice T j cT) j (vs.reverse.take j) rr (by exact HOW.out.alloc _) (some ⟨wr.heap.size,0,none⟩) 1 1 [.slice A1 n1 c1] rr (by exact RdS.new wr 22 [.slice A1 n1 c1] 1 rfl) (fun v hv=>by rw[List.mem_singleton]at hv;subst hv;rfl) om om (by have:=HD.out.size;simp;omega) ?_;intro A4 c4 w4 hown4 hc4 hg4 hat4;have HO4:=qh hown4;rw[HST.out]at HO4;have HE4:=qh ((HD.out.alloc HD.out.size _).grown hg4 (Nat.le_trans HD.out.size sy) (fun k hk=>by have:=(HOW.out.lt k hk).1;omega));clear hown4 hg4 hat4)
    go_roundg (k+1-(j+1))
    case measure=>have:=HGK.out;omega
    case rel=>exact⟨j+1,by omega,rfl,by have:=HT.out;go_num,⟨A4,c4,rfl,by omega,HO4⟩,HE4⟩
  · obtain rfl:j=k+1:=om
    rw[show(k:Int)-((k+1:Nat):Int)=-1 by omega]
    have HTD:Hid (RdB wr T (k+1) SK.reverse):=by
     have h5:=HOW.out;rw[tk (by rw[List.length_reverse,HVL.out];exact lr)]at h5;refine zwn (Rd.of_own h5) HSK.out HVL.out (fun i v hi=>?_);obtain⟨l,h6,h7⟩:=HVV.out i v hi;exact⟨l,h6,h7.below HD.out⟩
    have HEW:=qh (HE7.out.trans (HD.out.mono HE7.out.size));clear HVR HVV HT0
    go_wp2_with (first
     | (go_at_call 63;(refine(HSA.out _ _ _ (by exact HEW.out) (by exact HTD.out)).mono ?_);rintro e w9 ⟨A9,c9,rfl,hc9,hr9,hB9⟩;have HE9:=qtr HEW hB9;have hD9:=HD.out.trans (hB9.mono HD.out.size);have HB9:=qbl HB7 hD9;have HH9:=qbl HH7 hD9;have hh9:=HH9.out.range;have HR9:=qh hr9;clear hB9 hr9 hD9)
     | (refine wpList_load_mid rfl 32 (.tmp 16) rfl _ 0 rr (u8s HQ) _ hh9 Tryz.underlying32 rfl H34.out ?_)
     | (refine zap rfl 35 [(0,.tmp 91)] rfl [(0,.agg (u8s HQ).toArray)] rr (.agg X.toArray) (HBU.out _) ?_)
     | (refine zab rfl 35 (.tmp 22) (.tmp 92) rfl w9.heap.size X rr rr 35 Z (by exact Blk.new' rfl HZ.out) H76.out HX1.out HF76.out ?_;intro w10 hb10 ho10;have hD10:Below w9.heap.size w9 w10:=ho10.below ((Below.refl _ w9).alloc lr _) lr sy;have HE10:=qtr HE9 hD10;have HB10:=qbl HB9 hD10;have HR10:=qh (HR9.out.below hD10);have HP10:=qh hb10;clear hb10 ho10 hD10)
     | (refine za3 rfl (.tmp 94) (.tmp 95) 22 rfl 5 Tryz.underlying22 zbn w9.heap.size 288 480 480 rr A9 480 c9 rr 35 X (by exact HP10.out) (u8s SL) (by exact HR10.out) (zac _) (by rw[HXl.out];omega) ?_;intro w11 hb11 ho11;rw[HFN.out]at hb11;have HE11:=qh (ho11.below HE10.out HE9.out.size HE10.out.size);have HB11:=qh (ho11.blk HB10.out (by have:=HB9.out.lt;omega));have hp11:=hb11.range;clear hb11 ho11)
     | (refine wpList_load_mid rfl 35 (.tmp 22) rfl w9.heap.size 0 rr (u8s L) _ hp11 Tryz.underlying35 rfl HI.out ?_)
     | (refine zab rfl 35 (.tmp 8) (.tmp 97) rfl (w.heap.size+1) (u8s L) rr rr 35 Z (by exact HB11.out) HI.out (zac _) HFZ.out ?_;intro w12 hb12 ho12))
    have hB12:=ho12.below HE11.out (Nat.le_succ _) HE11.out.size;exact bodyPost_ret (zah rfl _ _ _ _ rfl hb12 _ Tryz.underlying35 rfl HI.out) rfl ⟨rfl,hB12⟩
end
theorem xor_comm(a b:List UInt8):Ch.xor a b=Ch.xor b a:=by
 unfold Ch.xor
 induction a generalizing b with
 | nil=>cases b <;> rfl
 | cons x a ih =>
  cases b with
  | nil=>rfl
  | cons y b=>rw[List.zipWith_cons_cons,List.zipWith_cons_cons,ih,UInt8.xor_comm]
theorem zpl(k X Y:List UInt8)(r:Nat)(hX:X.length=32)(hr:r%2=1):Wd.turn k (X++Y) r=X++Ch.xor Y (Ch.piece (Ch.xor X k) 0 Y.length):=by
 unfold Wd.turn
 rw[if_neg om,List.take_left' hX,List.drop_left' hX,xor_comm k X]
theorem zn4(k X Y:List UInt8)(r:Nat)(hX:X.length=32)(h1:1≤r)(h4:r≤4)(hr:¬r%2=1):Wd.turn k (X++Y) r=Ch.xor X (Mc.tag k Y)++Y:=by
 unfold Wd.turn
 rw[if_pos om,List.take_left' hX,List.drop_left' hX]
theorem zud(q:Nat)(hq:q<4):∃S:ByteArray,(strs labels4)[q]? = some (.string S)∧S.data.toList=Wd.label (q+1)∧S.size≤1000:=by
 obtain rfl|rfl|rfl|rfl:q=0∨q=1∨q=2∨q=3:=om
 all_goals exact⟨_,rfl,rfl,by decide⟩
theorem zjh(A1 A2:Option Addr)(n c1 c2:Nat)(x y:List UInt8)(W:World)(h1:Rd W A1 n (u8s x))(h2:Rd W A2 n (u8s y))(hc1:n≤c1)(hc2:n≤c2)(hn:n≤1000000):
 Calls Tryz.prog 136 #[.slice (some ⟨W.heap.size,0,none⟩) 2 2] (W.alloc (.cells #[.slice A1 n c1,.slice A2 n c2] 22)) fun e w'=>∃A' c',e=.returned (.tuple #[.slice A' n c',.int .i64 0])∧n≤c'∧w'.ownsRow W.heap.size 5 1 (.slice A' n c') n (u8s (Ch.xor x y))∧Below W.heap.size W w':=by
 refine(zs6 (some ⟨W.heap.size,0,none⟩) 2 n x y _ (RdB.of_blk (ls:=[x,y]) (Blk.new' (w:=W) (cs:=[.slice A1 n c1,.slice A2 n c2]) (t:=22) rfl rfl) ⟨.of_rd (h1.alloc _) hc1,.of_rd (h2.alloc _) hc2,trivial⟩) h1.len h2.len hn).mono ?_;rintro e w' ⟨A',c',rfl,hc',hown,hB⟩;exact⟨A',c',rfl,hc',zbc hown sy,((Below.refl _ _).alloc lr _).trans (hB.mono sy)⟩
theorem zqj(A B:Option Addr)(c d N:Nat)(w:World)(h1:32≤N)(h2:N≤4096):Calls Tryz.prog 135 #[.slice A 32 c,.slice B N d] w fun e w'=>e=.returned (.bool true)∧w=w':=by
 have e1:(32:Int)≤(N:Int):=om;have e2:(N:Int)≤4096:=om
 go_enter Tryz.func135, Tryz.ntmps135
 go_wp2;go_ret;exact⟨rfl,rfl⟩
theorem hd24':(Tryz.prog.info? 23).map (·.size)=some 32:=by kernel_rfl
theorem zll(A B C:Option Addr)(c d N m cr:Nat)(key b:List UInt8)(rs:List Nat)(w:World)(h:Rd w A 32 (u8s key))(h2:Rd w B N (u8s b))(hd:N≤d)(h3:Rd w C m (natsOf rs))(h32:32<N)(hN:N≤4096)(hm:m≤1000)(hrs:∀r∈rs,1≤r∧r≤4):
 Calls Tryz.prog 99 #[.slice A 32 c,.slice B N d,.slice C m cr] w fun e w'=>∃g c',e=.returned (.tuple #[.slice (some ⟨g,0,none⟩) N c',.int .i64 0])∧N≤c'∧w.heap.size≤g∧Rd w' (some ⟨g,0,none⟩) N (u8s (Wd.rounds key b rs))∧Below w.heap.size w w':=by
 have hrl:rs.length=m:=by have:=h3.1;simpa[natsOf] using this
 have hbl:b.length=N:=h2.len;obtain⟨NR,hNR⟩:∃NR,N=NR+32:=⟨N-32,by omega⟩;have hNR0:0<NR:=om;have hNR1:NR≤4096:=om;have HRL:=qh hrl;have HRS:=qh hrs;have HR3:=qh h3;have HBL:=qh hbl;obtain⟨bb,bo,rfl,hbb,_⟩:=h2.2 om
 have hlo:∀W,Rd W (some ⟨bb,bo,none⟩) N (u8s b)→Rd W (some ⟨bb,bo,none⟩) 32 (u8s (b.take 32)):=fun W hr=>by
  have h5:=ze7 hr 0 32 om;rw[List.drop_zero]at h5;exact h5
 have hhi:∀W,Rd W (some ⟨bb,bo,none⟩) N (u8s b)→Rd W (some ⟨bb,bo+32,none⟩) NR (u8s (b.drop 32)):=fun W hr=>by
  have h5:=ze7 hr 32 NR om;rw[tk (by rw[List.length_drop];omega)]at h5;exact h5
 have HCL:Hid (∀W,Rd W (some ⟨bb,bo,none⟩) N (u8s b)→Calls Tryz.prog 12 #[.slice (some ⟨bb,bo,none⟩) 32 d] W fun e w'=>∃A' c',e=.returned (.slice A' 32 c')∧32≤c'∧w'.ownsRow W.heap.size 5 1 (.slice A' 32 c') 32 (u8s (b.take 32))∧Below W.heap.size W w'):=fun W hr=>zbi _ 32 d _ W (hlo W hr) om
 have HCH:Hid (∀W,Rd W (some ⟨bb,bo,none⟩) N (u8s b)→Calls Tryz.prog 12 #[.slice (some ⟨bb,bo+32,none⟩) NR (d-32)] W fun e w'=>∃A' c',e=.returned (.slice A' NR c')∧NR≤c'∧w'.ownsRow W.heap.size 5 1 (.slice A' NR c') NR (u8s (b.drop 32))∧Below W.heap.size W w'):=fun W hr=>zbi _ NR (d-32) _ W (hhi W hr) om
 have HF:=qh (fun W=>zqj A (some ⟨bb,bo,none⟩) c d N W om hN);have HR2:=qh h2;have HRK:=qh h;have n32:¬d=32:=om;have e32:(32:Int)≤(d:Int):=om;have e32b:(32:Int)≤(N:Int):=om;have eN:((N:Int)-32)=(NR:Int):=om;have eNn:N-32=NR:=om;have HL4:Hid ((w.alloc (.cells #[.string ⟨#[119,105,100,101,49]⟩,.string ⟨#[119,105,100,101,50]⟩,.string ⟨#[119,105,100,101,51]⟩,.string ⟨#[119,105,100,101,52]⟩] 213)).heap.size=w.heap.size+1):=by simp[Hid]
 clear hrl hbl hrs h h2 h3 hlo hhi
 go_enter Tryz.func99, Tryz.ntmps99
 go_wp2_with fail
 go_loopg [8] m (fun kk q wr=>∃i:Nat,i≤m∧kk=m-i∧q=.int .i64 i∧w=wr)
 case atStart=>exact⟨0,by omega,rfl,rfl,rfl⟩
 case round =>
  obtain⟨i,hi,hgk,rfl,rfl⟩:=hrel;have HGK:=qh hgk;clear hgk
  by_cases hlt:i<m
  · have hlt2:(i:Int)<(m:Int):=om
    obtain⟨r,hr⟩:∃r,rs[i]? = some r:=⟨_,ge9 (by rw[HRL.out];exact hlt)⟩;have hr14:=HRS.out r (mg9 hr);obtain⟨b1,off,u,rfl,hbl,HX,hcl⟩:=HR3.out.at_ hlt;have hu:=zek HX.out hr;subst hu;have hr1:¬(r:Int)<1:=om;have hr2:¬(4:Int)<(r:Int):=om;clear hr HX eN eNn hNR
    go_wp2_with fail
    go_roundg (m-(i+1))
    case measure=>have:=HGK.out;omega
    case rel=>exact⟨i+1,by omega,rfl,by go_num,rfl⟩
  · obtain rfl:i=m:=om
    have hlt2:¬(i:Int)<(i:Int):=om;clear HGK hlt hi;have HNR:=qh hNR;clear hNR
    go_wp2_with (first
     | (go_at_call 135;(with_reducible refine(HF.out _).mono ?_);rintro e w' ⟨rfl,rfl⟩)
     | (go_at_call 12;(with_reducible refine(HCH.out w3 (by exact HR2.out.below HE3.out)).mono ?_);rintro e w4 ⟨A4,c4,rfl,hc4,hown4,hB4⟩;have HE4:=qtr HE3 hB4;have HO4:=qh (zak HO3.out hB4);have HL44:=qbl HL43 hB4;have HR4:=qh (Rd.of_own hown4);clear hown4 hB4)
     | (go_at_call 12;(with_reducible refine(HCL.out _ (by exact HR2.out.alloc _)).mono ?_);rintro e w3 ⟨A3,c3,rfl,hc3,hown3,hB3⟩;have hB3':=hB3.mono (show w.heap.size≤_ by rw[HL4.out];exact Nat.le_succ _);have HE3:=qh (((Below.refl _ w).alloc lr _).trans hB3');have HL43:=qh (show Blk w3 w.heap.size 213 (strs labels4) from (Blk.new' (w:=w) (g:=w.heap.size) (cs:=strs labels4) (t:=213) rfl rfl).below hB3 sy);have HO3:=qh (zbc hown3 (base':=w.heap.size) (by rw[HL4.out];exact Nat.le_succ _));clear hown3 hB3 hB3'))
    obtain⟨W1,hW1⟩:=ex9 (w4);have HTS:=qh (show b=b.take 32++b.drop 32 from (List.take_append_drop 32 b).symm);have HX32:Hid ((b.take 32).length=32):=by show _=_;rw[List.length_take,HBL.out,HNR.out];omega
    have HYN:Hid ((b.drop 32).length=NR):=by show _=_;rw[List.length_drop,HBL.out,HNR.out];omega
    clear hW1 eN eNn
    go_loopg [10,11,12] i (fun kk lv rv q wr=>∃(j:Nat) (X Y:List UInt8),j≤i∧kk=i-j∧q=.int .i64 j∧Wd.rounds key b (rs.take j)=X++Y∧X.length=32∧Y.length=NR∧(∃A1 c1,lv=.slice A1 32 c1∧32≤c1∧wr.ownsRow w.heap.size 5 1 (.slice A1 32 c1) 32 (u8s X))∧(∃A2 c2,rv=.slice A2 NR c2∧NR≤c2∧Rd wr A2 NR (u8s Y))∧Blk wr w.heap.size 213 (strs labels4)∧Below w.heap.size w wr)
    case atStart=>exact⟨0,b.take 32,b.drop 32,by omega,rfl,rfl,HTS.out,HX32.out,HYN.out,⟨A3,c3,rfl,hc3,HO4.out⟩,⟨A4,c4,rfl,hc4,HR4.out⟩,HL44.out,HE4.out⟩
    case round =>
     clear HTS HX32 HYN HO4 HR4 HL44 HE4 HO3 HL43 HE3;obtain⟨j,X,Y,hj,hgk,rfl,hXY,hX,hY,⟨A1,c1,rfl,hc1,hown⟩,⟨A2,c2,rfl,hc2,hry⟩,hlb,hB⟩:=hrel;have HGK:=qh hgk;clear hgk
     by_cases hlt:j<i
     · have hlt3:(j:Int)<(i:Int):=om
       obtain⟨r,hr⟩:∃r,rs[j]? = some r:=⟨_,ge9 (by rw[HRL.out];exact hlt)⟩;have hr14:=HRS.out r (mg9 hr);obtain⟨b1,off,u,rfl,hbl,HX,hcl0⟩:=HR3.out.at_ hlt;have hu:=zek HX.out hr;subst hu;have hcl:=(hB.cell (p:=⟨b1,off+j,none⟩) hbl).trans hcl0;have HCL0:=qh hcl0;clear hcl0;obtain⟨q,hq⟩:∃q,r=q+1:=⟨r-1,by omega⟩;have hqi:(r:Int)-1=(q:Int):=om;have hq0:(0:Int)≤(q:Int):=om;have hq4:(q:Int)<4:=om;obtain⟨S,hS1,hS2,hS3⟩:=zud q om;have cS:=(hlb.cell q).trans hS1;have hDV:∀W,Rd W A 32 (u8s key)→Calls Tryz.prog 133 #[.slice A 32 c,.string S] W fun e w'=>e=.returned (.agg (u8s (Wd.derive key S.data.toList)).toArray)∧Below W.heap.size W w':=fun W hr=>zc8 A 32 c key S W hr om hS3
       rw[hS2,←hq]at hDV;have HDV:=qh hDV;have HDL:=qh (Wd.derive_len key (Wd.label r))
       have HSN:Hid (Wd.rounds key b (rs.take (j+1))=Wd.turn (Wd.derive key (Wd.label r)) (X++Y) r):=by
        show _=_
        rw[List.take_add_one,hr,←hXY];exact Wd.rounds_snoc _ _ _ _
       obtain⟨D,hD⟩:=ex9 (Wd.derive key (Wd.label r));rw[←hD]at HDV HDL HSN;have HI2:Hid ((Tryz.prog.info? 23).map (·.size)=some (u8s D).length):=by rw[zaa,HDL.out];exact hd24'
       have HL2:Hid ((u8s D).length=(u8s (List.replicate 32 0)).length):=by show _=_;rw[zaa,HDL.out];rfl
       have H1:Hid (∀v∈u8s D,v.oneCell'=true):=zac _;obtain⟨DU,hDU⟩:=ex9 (u8s D);rw[←hDU]at HDV HI2 HL2 H1;have HDU:=qh hDU;have HXl:=qh hX;have HYl:=qh hY;have HOL:=qh hown;have HRY:=qh hry;have HLB:=qh hlb;have HBE:=qh hB;have hr1n:=hr14.1;have hr4n:=hr14.2;clear hr hD hDU hXY hX hY hown hry hlb hB HX hq hS1 hS2 hS3 hDV hr14
       by_cases hodd:r%2=1
       · have hoi:(r:Int)%2=1:=om
         have HTU:=qh (zpl D X Y r HXl.out hodd);have HPL:=qh (Ch.piece_len (Ch.xor X D) 0 NR);rw[HYl.out]at HTU;have HBY:=qh (fun W A5 c5 (h5:Rd W A5 32 (u8s (Ch.xor X D)))=>zis A5 c5 (Ch.xor X D) NR W h5 hNR0 om);obtain⟨Z,hZ⟩:=ex9 (Ch.piece (Ch.xor X D) 0 NR);rw[←hZ]at HTU HPL HBY;have HYZ:Hid ((Ch.xor Y Z).length=NR):=by show _=_;rw[Ch.xor_len _ _ (by rw[HYl.out,HPL.out]),HYl.out]
         clear hZ hodd
         go_wp2_with (first
       | (go_at_call 133;(with_reducible refine(HDV.out _ (by exact HRK.out.below HBE.out)).mono ?_);rintro e w7 ⟨rfl,hB7⟩;have HE7:=qtr HBE hB7;have HL7:=qbl HLB hB7;have HO7:=qh (zak HOL.out hB7);have HY7:=qh (HRY.out.below hB7);clear hB7)
       | (refine zab rfl 23 (.tmp 13) (.tmp 61) rfl w7.heap.size DU rr rr 23 (u8s (List.replicate 32 0)) (by exact Blk.new' rfl rfl) HI2.out H1.out HL2.out ?_;intro w9 hb9 ho9;have hlt7:=HL7.out.lt;have HK9:Hid (Rd w9 (some ⟨w7.heap.size,0,none⟩) 32 (u8s D)):=(by have h5:=hb9;rw[HDU.out]at h5;have h6:=h5.rdAll;rw[HDL.out]at h6;exact h6);have hB9:Below w7.heap.size w7 w9:=ho9.below ((Below.refl _ _).alloc lr _) lr sy;have HE9:=qtr HE7 hB9;have HL9:=qbl HL7 hB9;have HO9:=qh (zak HO7.out hB9);have HY9:=qh (HY7.out.below hB9);clear hb9 ho9 hB9)
       | (refine zaj rfl (.const (.int .i64 0)) (.const (.int .i64 0)) 22 rfl 5 (.int .u8 0) 1 Tryz.underlying22 iU8 rfl .i64 .i64 0 0 rr rr 0 0 rfl rfl om om om ?_;intro w10 hb10 hg10 hs10;have hB10:=zad hg10;have HE10:=qtr HE9 hB10;have HL10:=qbl HL9 hB10;have HO10:=qh (zak HO9.out hB10);have HX10:=qh (Rd.of_own HO10.out);have HY10:=qh (HY9.out.below hB10);have HK10:=qh (HK9.out.below hB10);have cr10:=(HE10.out.cell (p:=⟨b1,off+j,none⟩) hbl).trans HCL0.out;clear hb10 hg10 hs10 hB10)
       | (go_at_call 136;(with_reducible refine(zjh A1 (some ⟨w7.heap.size,0,none⟩) 32 c1 32 X D w10 (by exact HX10.out) (by exact HK10.out) om om om).mono ?_);rintro e w11 ⟨A11,c11,rfl,hc11,hown11,hB11⟩;have HE11:=qtr HE10 hB11;have HL11:=qbl HL10 hB11;have HO11:=qh (zak HO10.out hB11);have HY11:=qh (HY10.out.below hB11);have HR11:=qh (Rd.of_own hown11);clear hB11 hown11)
       | (go_at_call 77;(with_reducible refine(HBY.out w11 _ _ (by exact HR11.out)).mono ?_);rintro e w12 ⟨A12,c12,rfl,hc12,hown12,hB12⟩;have HE12:=qtr HE11 hB12;have HL12:=qbl HL11 hB12;have HO12:=qh (zak HO11.out hB12);have HY12:=qh (HY11.out.below hB12);have HZ12:=qh (Rd.of_own hown12);clear hB12 hown12)
       | (go_at_call 136;(with_reducible refine(zjh A2 A12 NR c2 c12 Y Z w12 (by exact HY12.out) (by exact HZ12.out) om om om).mono ?_);rintro e w13 ⟨A13,c13,rfl,hc13,hown13,hB13⟩;have HE13:=qtr HE12 hB13;have HL13:=qbl HL12 hB13;have HO13:=qh (zak HO12.out hB13);have HR13:=qh (Rd.of_own hown13);clear hB13 hown13))
         go_roundg (i-(j+1))
         case measure=>have:=HGK.out;omega
         case rel=>exact⟨j+1,X,Ch.xor Y Z,by omega,rfl,by go_num,by rw[HSN.out,HTU.out],HXl.out,HYZ.out,⟨A1,c1,rfl,hc1,HO13.out⟩,⟨A13,c13,rfl,hc13,HR13.out⟩,HL13.out,HE13.out⟩
       · have hoi:((r:Int)%2 == 1)=false:=by rw[beq_eq_false_iff_ne];omega
         have HTU:=qh (zn4 D X Y r HXl.out hr1n hr4n hodd);have HTL:=qh (Mc.tag_len D Y);have HTG:=qh (fun W (h5:Rd W (some ⟨W.heap.size,0,none⟩) 32 (u8s D))=>h5);have HTA:=qh (fun W A5 c5 (h5:Rd W A5 32 (u8s D)) (h6:Rd W A2 NR (u8s Y))=>zgh A5 32 c5 D A2 NR c2 Y W h5 om h6 om);obtain⟨Z,hZ⟩:=ex9 (Mc.tag D Y);rw[←hZ]at HTU HTL HTA;have HXZ:Hid ((Ch.xor X Z).length=32):=by show _=_;rw[Ch.xor_len _ _ (by rw[HXl.out,HTL.out]),HXl.out]
         have HI3:Hid ((Tryz.prog.info? 23).map (·.size)=some (u8s Z).length):=by rw[zaa,HTL.out];exact hd24'
         have HL3:Hid ((u8s Z).length=(u8s (List.replicate 32 0)).length):=by show _=_;rw[zaa,HTL.out];rfl
         have H13:Hid (∀v∈u8s Z,v.oneCell'=true):=zac _;obtain⟨ZU,hZU⟩:=ex9 (u8s Z);rw[←hZU]at HTA HI3 HL3 H13;have HZU:=qh hZU;clear hZ hodd hZU HTG
         go_wp2_with (first
       | (go_at_call 133;(with_reducible refine(HDV.out _ (by exact HRK.out.below HBE.out)).mono ?_);rintro e w7 ⟨rfl,hB7⟩;have HE7:=qtr HBE hB7;have HL7:=qbl HLB hB7;have HO7:=qh (zak HOL.out hB7);have HY7:=qh (HRY.out.below hB7);clear hB7)
       | (refine zab rfl 23 (.tmp 13) (.tmp 61) rfl w7.heap.size DU rr rr 23 (u8s (List.replicate 32 0)) (by exact Blk.new' rfl rfl) HI2.out H1.out HL2.out ?_;intro w9 hb9 ho9;have hlt7:=HL7.out.lt;have HK9:Hid (Rd w9 (some ⟨w7.heap.size,0,none⟩) 32 (u8s D)):=(by have h5:=hb9;rw[HDU.out]at h5;have h6:=h5.rdAll;rw[HDL.out]at h6;exact h6);have hB9:Below w7.heap.size w7 w9:=ho9.below ((Below.refl _ _).alloc lr _) lr sy;have HE9:=qtr HE7 hB9;have HL9:=qbl HL7 hB9;have HO9:=qh (zak HO7.out hB9);have HY9:=qh (HY7.out.below hB9);clear hb9 ho9 hB9)
       | (refine zaj rfl (.const (.int .i64 0)) (.const (.int .i64 0)) 22 rfl 5 (.int .u8 0) 1 Tryz.underlying22 iU8 rfl .i64 .i64 0 0 rr rr 0 0 rfl rfl om om om ?_;intro w10 hb10 hg10 hs10;have hB10:=zad hg10;have HE10:=qtr HE9 hB10;have HL10:=qbl HL9 hB10;have HO10:=qh (zak HO9.out hB10);have HX10:=qh (Rd.of_own HO10.out);have HY10:=qh (HY9.out.below hB10);have HK10:=qh (HK9.out.below hB10);have cr10:=(HE10.out.cell (p:=⟨b1,off+j,none⟩) hbl).trans HCL0.out;clear hb10 hg10 hs10 hB10)
       | (go_at_call 128;(with_reducible refine(HTA.out w10 _ _ (by exact HK10.out) (by exact HY10.out)).mono ?_);rintro e w11 ⟨rfl,hB11⟩;have HE11:=qtr HE10 hB11;have HL11:=qbl HL10 hB11;have HO11:=qh (zak HO10.out hB11);have HY11:=qh (HY10.out.below hB11);clear hB11)
       | (refine zab rfl 23 (.tmp 17) (.tmp 89) rfl w11.heap.size ZU rr rr 23 (u8s (List.replicate 32 0)) (by exact Blk.new' rfl rfl) HI3.out H13.out HL3.out ?_;intro w12 hb12 ho12;have HZ12:Hid (Rd w12 (some ⟨w11.heap.size,0,none⟩) 32 (u8s Z)):=(by have h5:=hb12;rw[HZU.out]at h5;have h6:=h5.rdAll;rw[HTL.out]at h6;exact h6);have hB12:Below w11.heap.size w11 w12:=ho12.below ((Below.refl _ _).alloc lr _) lr sy;have HE12:=qtr HE11 hB12;have HL12:=qbl HL11 hB12;have HO12:=qh (zak HO11.out hB12);have HX12:=qh (Rd.of_own HO12.out);have HY12:=qh (HY11.out.below hB12);clear hb12 ho12 hB12)
       | (go_at_call 136;(with_reducible refine(zjh A1 (some ⟨w11.heap.size,0,none⟩) 32 c1 32 X Z w12 (by exact HX12.out) (by exact HZ12.out) om om om).mono ?_);rintro e w13 ⟨A13,c13,rfl,hc13,hown13,hB13⟩;have HE13:=qtr HE12 hB13;have HL13:=qbl HL12 hB13;have HO13:=qh (zbc hown13 (base':=w.heap.size) HE12.out.size);have HR13:=qh (HY12.out.below hB13);clear hB13 hown13))
         go_roundg (i-(j+1))
         case measure=>have:=HGK.out;omega
         case rel=>exact⟨j+1,Ch.xor X Z,Y,by omega,rfl,by go_num,by rw[HSN.out,HTU.out],HXZ.out,HYl.out,⟨A13,c13,rfl,hc13,HO13.out⟩,⟨A2,c2,rfl,hc2,HR13.out⟩,HL13.out,HE13.out⟩
     · obtain rfl:j=i:=om
       have hlt3:¬(j:Int)<(j:Int):=om;rw[tk (Nat.le_of_eq HRL.out)]at hXY;have HXY:=qh hXY;have HN2:Hid (32+NR=N):=by show _=_;rw[HNR.out];omega
       have HOL:=qh hown;have HRY:=qh hry;have HBE:=qh hB;clear hXY hX hY hown hry hlb hB
       go_wp2_with (at_builtin;refine zaf rfl (.tmp 98) (.tmp 99) 22 rfl w.heap.size 5 1 1 Tryz.underlying22 eU8 (.slice A1 32 c1) 32 (u8s X) rr (by exact HOL.out) A2 NR c2 (u8s Y) rr (by exact HRY.out.toS) (zac _) om om HBE.out.size ?_;intro A5 c5 w5 hown5 hc5 hg5 hat5;have HO5:=qh hown5;rw[←zae,←HXY.out,HN2.out]at HO5;have HE5:=qh (HBE.out.grown hg5 HBE.out.size (fun k hk=>(HOL.out.lt k hk).1));rw[HN2.out]at hc5;clear hown5 hg5 hat5)
       obtain⟨g,rfl,hg,_,hr5⟩:=zb7 HO5.out om;have HR5:=qh hr5;clear hr5;go_ret2;exact⟨g,c5,(by rw[HN2.out];rfl),hc5,hg,HR5.out,HE5.out⟩
theorem rnats4(w:World)(a b c d:Nat):Rd (w.alloc (.cells #[.int .i64 (a:Int),.int .i64 (b:Int),.int .i64 (c:Int),.int .i64 (d:Int)] 3)) (some ⟨w.heap.size,0,none⟩) 4 (natsOf [a,b,c,d]):=nats4 w a b c d
theorem zp4(A B:Option Addr)(c d N:Nat)(key b:List UInt8)(w:World)(h:Rd w A 32 (u8s key))(h2:Rd w B N (u8s b))(hd:N≤d)(h32:32<N)(hN:N≤4096):
 Calls Tryz.prog 64 #[.slice A 32 c,.slice B N d] w fun e w'=>∃g c',e=.returned (.tuple #[.slice (some ⟨g,0,none⟩) N c',.int .i64 0])∧N≤c'∧w.heap.size≤g∧Rd w' (some ⟨g,0,none⟩) N (u8s (Wd.seal_ key b))∧Below w.heap.size w w':=by
 have hr:=zll A B (some ⟨w.heap.size,0,none⟩) c d N 4 4 key b [1,2,3,4] _ (h.alloc _) (h2.alloc _) hd (rnats4 w 1 2 3 4) h32 hN om (by decide);have e2:(w.alloc (.cells #[.int .i64 ((1:Nat):Int),.int .i64 ((2:Nat):Int),.int .i64 ((3:Nat):Int),.int .i64 ((4:Nat):Int)] 3)).heap.size=w.heap.size+1:=by simp
 rw[e2]at hr;have HR:Hid (Calls Tryz.prog 99 #[.slice A 32 c,.slice B N d,.slice (some ⟨w.heap.size,0,none⟩) 4 4] (w.alloc (.cells #[.int .i64 1,.int .i64 2,.int .i64 3,.int .i64 4] 3)) fun e w'=>∃g c',e=.returned (.tuple #[.slice (some ⟨g,0,none⟩) N c',.int .i64 0])∧N≤c'∧w.heap.size+1≤g∧Rd w' (some ⟨g,0,none⟩) N (u8s (Wd.seal_ key b))∧Below (w.heap.size+1) (w.alloc (.cells #[.int .i64 1,.int .i64 2,.int .i64 3,.int .i64 4] 3)) w'):=hr;clear h h2 hr e2
 go_enter Tryz.func64, Tryz.ntmps64
 go_wp2_with (go_at_call 99;(with_reducible refine HR.out.mono ?_);rintro e w1 ⟨g,c',rfl,hc',hg,hr1,hB⟩;have HR1:=qh hr1;clear hr1)
 go_ret2;exact⟨g,c',rfl,hc',by omega,HR1.out,((Below.refl _ _).alloc lr _).trans (hB.mono (Nat.le_succ _))⟩
section
attribute [local go_sem ↓] zcg
theorem zko(last:Cm)(hc:last.ok)(A:Option Addr)(n c:Nat)(hs:List Ho)(w:World)(h:RdS 68 w A n (hs.flatMap Ho.cells))(hok:∀s∈hs,s.ok)(hl:hs.length=n)(hn:n≤1400000000000):
 Calls Tryz.prog 56 #[.agg last.cells.toArray,.slice A n c] w fun e w'=>∃A' n' c',e=.returned (.tuple #[.slice A' n' c',.int .i64 (pathE last hs:Int)])∧(pathE last hs=0→n'=n∧RdS 20 w' A' n ((pathL last hs).flatMap Cm.cells))∧Below w.heap.size w w':=by
 by_cases hne:¬(last.k.toNat<2∨4<last.k.toNat)∧(∀(i:Nat) (o:Ho),hs[i]? = some o→o.bad=false)∧¬(hs.length<1∨5<hs.length)∧last.shaped=true
 · obtain⟨h1,h2,h3,h4⟩:=hne
   refine(zqe last hc A n c hs w h hok hl h1 (fun s hs=>by obtain⟨i,hi⟩:=List.getElem?_of_mem hs;exact h2 i s hi) om om h4).mono ?_;rintro e w' ⟨A',n',c',rfl,_,hr,hB⟩;exact⟨A',n',c',rfl,hr,hB⟩
 · refine(zqf last hc A n c hs w h hok hl om hne).mono ?_
   rintro e w' ⟨rfl,hB⟩;refine⟨none,0,0,rfl,fun he=>absurd ?_ hne,hB⟩;obtain⟨hb,h1,h5⟩:=zc5 he;obtain⟨hk,hsh,_⟩:=zhf he;exact⟨hk,fun i o hi=>hb o (mg9 hi),by omega,hsh⟩
theorem zio(A C:Option Addr)(n c m d:Nat)(xs:List UInt8)(hs:List Ho)(w:World)(hx:Rd w A n (u8s xs))(hc:n≤c)(hp:RdB w C m (hs.map Ho.pub))(hok:∀s∈hs,s.ok)(hm:hs.length=m):
 Calls Tryz.prog 57 #[.slice A n c,.slice C m d] w fun e w'=>∃A' n' c',e=.returned (.tuple #[.slice A' n' c',.int .i64 (scE xs hs:Int)])∧n'≤c'∧(scE xs hs=0→n'=m∧RdS 192 w' A' m ((scL xs hs).flatMap Sp.cells))∧Below w.heap.size w w':=by
 have hn:xs.length=n:=hx.len
 by_cases hb:n≠32∨m<1∨5<m
 · refine(zp5 A C n c m d w hb).mono ?_
   rintro e w' ⟨rfl,rfl⟩;have e2:scE xs hs=2:=by rw[scE,if_pos (by rw[hn,hm];exact hb)]
   exact⟨none,0,0,by rw[e2];rfl,lr,fun h=>(by rw[e2]at h;cases h),Below.refl _ _⟩
 · obtain rfl:n=32:=om
   have e2:scE xs hs=(sch [] [xs] (pubB xs) (hs.map Ho.pub)).2:=by rw[scE,if_neg (by rw[hn,hm];exact hb)]
   refine(zof A C c m d xs (hs.map Ho.pub) w hx hc hp (fun p hp=>by obtain⟨o,ho,rfl⟩:=List.mem_map.1 hp;exact(hok o ho).2.2.1) om om).mono ?_;rintro e w' ⟨A',n',c',rfl,hn',hr,hl',hB⟩;refine⟨A',n',c',by rw[e2],hn',fun h=>?_,hB⟩;have h7:(scL xs hs).length=hs.length:=(zim h).2.1;have h8:n'=m:=by rw[←hl',←hm];exact h7
   subst h8;exact⟨rfl,hr⟩
theorem zg7(w:World)(ty:TypeId)(a b c:Int):Rd (w.alloc (.cells #[.int .i64 a,.int .i64 b,.int .i64 c] ty)) (some ⟨w.heap.size,0,none⟩) 3 (i64s [a,b,c]):=⟨rfl,fun _=>⟨w.heap.size,0,rfl,by simp,fun j u hu=>by rw[Nat.zero_add];exact((Blk.new w ty (i64s [a,b,c])).cell j).trans hu⟩⟩
theorem rpk_no(A B H:Option Addr)(na ca nb cb n c:Nat)(xs bs:List UInt8)(last:Cm)(hc:last.ok)(hs:List Ho)(w:World)(hx:Rd w A na (u8s xs))(hca:na≤ca)(hb:Rd w B nb (u8s bs))(hh:RdS 68 w H n (hs.flatMap Ho.cells))(hok:∀s∈hs,s.ok)(hl:hs.length=n)(hn:n≤1400000000000)(he:pbE last xs bs hs≠0):
 Calls Tryz.prog 31 #[.slice A na ca,.agg last.cells.toArray,.slice B nb cb,.slice H n c] w fun e w'=>e=.returned (.tuple #[.slice none 0 0,.int .i64 (pbE last xs bs hs:Int)])∧Below w.heap.size w w':=by
 have HCL:=qh (Cm.cells_len hc);have hbl:bs.length=nb:=hb.len
 have HPA:Hid (∀W,Below w.heap.size w W→Calls Tryz.prog 56 #[.agg last.cells.toArray,.slice H n c] W fun e w'=>∃A' n' c',e=.returned (.tuple #[.slice A' n' c',.int .i64 (pathE last hs:Int)])∧Below W.heap.size W w'):=fun W hW=>by
  refine(zko last hc H n c hs W (hh.bel hW lr) hok hl om).mono ?_;rintro e w' ⟨A',n',c',rfl,_,hB⟩;exact⟨A',n',c',rfl,hB⟩
 have HPU:Hid (∀W,Below w.heap.size w W→Calls Tryz.prog 58 #[.slice H n c] W fun e w'=>∃A' c',e=.returned (.slice A' n c')∧RdB w' A' n (hs.map Ho.pub)∧Below W.heap.size W w'):=fun W hW=>by
  refine(zfy H n c hs W (hh.bel hW lr) hok hl hn).mono ?_;rintro e w' ⟨A',c',rfl,hr,hB⟩;exact⟨A',c',rfl,hr,hB⟩
 have HSC:Hid (∀W C c2,Below w.heap.size w W→RdB W C n (hs.map Ho.pub)→Calls Tryz.prog 57 #[.slice A na ca,.slice C n c2] W fun e w'=>∃A' n' c',e=.returned (.tuple #[.slice A' n' c',.int .i64 (scE xs hs:Int)])∧Below W.heap.size W w'):=fun W C c2 hW hp=>by
  refine(zio A C na ca n c2 xs hs W (hx.below hW) hca hp hok hl).mono ?_;rintro e w' ⟨A',n',c',rfl,_,_,hB⟩;exact⟨A',n',c',rfl,hB⟩
 have HLE:Hid (∀W A3,Rd W A3 3 (i64s [(pathE last hs:Int),(scE xs hs:Int),(boE bs:Int)])→Calls Tryz.prog 59 #[.slice A3 3 3] W fun e w'=>e=.returned (.int .i64 (pbE last xs bs hs:Int))∧W=w'):=fun W A3 h3=>by
  have h5:=zfp A3 3 3 _ W h3 om
  rwa [zhr]at h5
 have HBO:Hid (boE bs=if nb≠480 then 2 else 0):=by show _=_;rw[boE,hbl]
 obtain⟨C,hC⟩:=ex9 (last.cells);rw[←hC]at HPA HCL ⊢;generalize pathE last hs=PE at *;generalize scE xs hs=SE at *;generalize boE bs=BE at *;generalize pbE last xs bs hs=LE at *;have hLE:¬(LE:Int)=0:=om;have hld:(ldAt 47 (.pointer (some ⟨w.heap.size,0,none⟩))).run Tryz.prog (w.alloc (.cells C.toArray 47))=.ok (.agg C.toArray) (w.alloc (.cells C.toArray 47)):=cm_ld (Blk.new w _ C) HCL.out;have HE0:Hid (Below w.heap.size w (w.alloc (.cells C.toArray 47))):=(Below.refl _ w).alloc lr _;clear hh hx hb hC hc hok hl he hbl
 by_cases hnb:nb=480
 · subst hnb
   obtain rfl:BE=0:=by rw[HBO.out,if_neg om]
   have HLE2:Hid (∀W A3,Rd W A3 3 (i64s [(PE:Int),(SE:Int),0])→Calls Tryz.prog 59 #[.slice A3 3 3] W fun e w'=>e=.returned (.int .i64 (LE:Int))∧W=w'):=HLE.out;clear HBO HLE
   go_enter Tryz.func31, Tryz.ntmps31
   go_wp2_with (first
    | (go_at_call 56;(refine(HPA.out _ (by exact HE0.out)).mono ?_);rintro e w1 ⟨A1,n1,c1,rfl,hB1⟩;have HE1:=qtr HE0 hB1;clear hB1)
    | (go_at_call 58;(refine(HPU.out _ (by exact HE1.out)).mono ?_);rintro e w2 ⟨A2,c2,rfl,hr2,hB2⟩;have HE2:=qtr HE1 hB2;have HR2:=qh hr2;clear hB2 hr2)
    | (go_at_call 57;(refine(HSC.out _ _ _ (by exact HE2.out) (by exact HR2.out)).mono ?_);rintro e w3 ⟨A3,n3,c3,rfl,hB3⟩;have HE3:=qtr HE2 hB3;clear hB3)
    | (go_at_call 59;(refine(HLE2.out _ _ (by exact zg7 _ _ _ _ _)).mono ?_);rintro e w4 ⟨rfl,rfl⟩;have HE4:=qh (HE3.out.alloc HE3.out.size (.cells #[.int .i64 (PE:Int),.int .i64 (SE:Int),.int .i64 0] 3))))
   go_ret2;exact⟨rfl,HE4.out⟩
 · have hnbi:¬(nb:Int)=480:=om
   obtain rfl:BE=2:=by rw[HBO.out,if_pos hnb]
   have HLE2:Hid (∀W A3,Rd W A3 3 (i64s [(PE:Int),(SE:Int),2])→Calls Tryz.prog 59 #[.slice A3 3 3] W fun e w'=>e=.returned (.int .i64 (LE:Int))∧W=w'):=HLE.out;clear HBO HLE hnb
   go_enter Tryz.func31, Tryz.ntmps31
   go_wp2_with (first
    | (go_at_call 56;(refine(HPA.out _ (by exact HE0.out)).mono ?_);rintro e w1 ⟨A1,n1,c1,rfl,hB1⟩;have HE1:=qtr HE0 hB1;clear hB1)
    | (go_at_call 58;(refine(HPU.out _ (by exact HE1.out)).mono ?_);rintro e w2 ⟨A2,c2,rfl,hr2,hB2⟩;have HE2:=qtr HE1 hB2;have HR2:=qh hr2;clear hB2 hr2)
    | (go_at_call 57;(refine(HSC.out _ _ _ (by exact HE2.out) (by exact HR2.out)).mono ?_);rintro e w3 ⟨A3,n3,c3,rfl,hB3⟩;have HE3:=qtr HE2 hB3;clear hB3)
    | (go_at_call 59;(refine(HLE2.out _ _ (by exact zg7 _ _ _ _ _)).mono ?_);rintro e w4 ⟨rfl,rfl⟩;have HE4:=qh (HE3.out.alloc HE3.out.size (.cells #[.int .i64 (PE:Int),.int .i64 (SE:Int),.int .i64 2] 3))))
   go_ret2;exact⟨rfl,HE4.out⟩
theorem zv6(A B H:Option Addr)(na ca nb cb n c:Nat)(xs bs:List UInt8)(last:Cm)(hc:last.ok)(hs:List Ho)(w:World)(hx:Rd w A na (u8s xs))(hca:na≤ca)(hb:Rd w B nb (u8s bs))(hh:RdS 68 w H n (hs.flatMap Ho.cells))(hok:∀s∈hs,s.ok)(hl:hs.length=n)(he:pbE last xs bs hs=0):
 Calls Tryz.prog 31 #[.slice A na ca,.agg last.cells.toArray,.slice B nb cb,.slice H n c] w fun e w'=>∃A' c',e=.returned (.tuple #[.slice A' 768 c',.int .i64 0])∧768≤c'∧Rd w' A' 768 (u8s (pbL last xs bs hs))∧Below w.heap.size w w':=by
 obtain⟨hpe,hse,hxl,hb4,hn1,hn5⟩:=pbE_0 he;obtain⟨k,hk⟩:∃k,n=k+1:=⟨n-1,by omega⟩;subst hk;obtain rfl:na=32:=by rw[←hx.len,hxl]
 obtain rfl:nb=480:=by rw[←hb.len,hb4]
 obtain⟨_,hs7,hs8⟩:=zim hse;have hk4:k≤4:=om
 have HPA:Hid (∀W,Below w.heap.size w W→Calls Tryz.prog 56 #[.agg last.cells.toArray,.slice H (k+1) c] W fun e w'=>∃A' c',e=.returned (.tuple #[.slice A' (k+1) c',.int .i64 0])∧RdS 20 w' A' (k+1) ((pathL last hs).flatMap Cm.cells)∧Below W.heap.size W w'):=fun W hW=>by
  refine(zko last hc H (k+1) c hs W (hh.bel hW lr) hok hl om).mono ?_;rintro e w' ⟨A',n',c',rfl,hr,hB⟩;obtain⟨rfl,hr9⟩:=hr hpe;exact⟨A',c',by rw[hpe];rfl,hr9,hB⟩
 have HPU:Hid (∀W,Below w.heap.size w W→Calls Tryz.prog 58 #[.slice H (k+1) c] W fun e w'=>∃A' c',e=.returned (.slice A' (k+1) c')∧RdB w' A' (k+1) (hs.map Ho.pub)∧Below W.heap.size W w'):=fun W hW=>by
  refine(zfy H (k+1) c hs W (hh.bel hW lr) hok hl om).mono ?_;rintro e w' ⟨A',c',rfl,hr,hB⟩;exact⟨A',c',rfl,hr,hB⟩
 have HSC:Hid (∀W C c2,Below w.heap.size w W→RdB W C (k+1) (hs.map Ho.pub)→Calls Tryz.prog 57 #[.slice A 32 ca,.slice C (k+1) c2] W fun e w'=>∃A' c',e=.returned (.tuple #[.slice A' (k+1) c',.int .i64 0])∧k+1≤c'∧RdS 192 w' A' (k+1) ((scL xs hs).flatMap Sp.cells)∧Below W.heap.size W w'):=fun W C c2 hW hp=>by
  refine(zio A C 32 ca (k+1) c2 xs hs W (hx.below hW) hca hp hok hl).mono ?_;rintro e w' ⟨A',n',c',rfl,hn',hr,hB⟩;obtain⟨rfl,hr9⟩:=hr hse;exact⟨A',c',by rw[hse];rfl,hn',hr9,hB⟩
 have HLE:Hid (∀W A3,Rd W A3 3 (i64s [0,0,0])→Calls Tryz.prog 59 #[.slice A3 3 3] W fun e w'=>e=.returned (.int .i64 0)∧W=w'):=fun W A3 h3=>zfp A3 3 3 _ W h3 om
 have HBD:Hid (∀W A1 c1 A2 c2,RdS 20 W A1 (k+1) ((pathL last hs).flatMap Cm.cells)→RdS 192 W A2 (k+1) ((scL xs hs).flatMap Sp.cells)→Calls Tryz.prog 60 #[.slice A1 (k+1) c1,.slice A2 (k+1) c2] W fun e w'=>∃A' c',e=.returned (.tuple #[.slice A' 288 c',.int .i64 0])∧288≤c'∧w'.ownsRow W.heap.size 5 1 (.slice A' 288 c') 288 (u8s (hst (pathL last hs) (scL xs hs) (k+1) (k+1)))∧Below W.heap.size W w'):=fun W A1 c1 A2 c2 h1 h2 =>
  zqt A1 A2 k c1 c2 (pathL last hs) (scL xs hs) W h1 h2 (zgm hc hok hpe) hs8 (by rw[zdd,hl]) (by rw[hs7,hl]) (by rw[←hl];exact zku hpe)
 have HCP:Hid (∀W,Below w.heap.size w W→Calls Tryz.prog 12 #[.slice B 480 cb] W fun e w'=>∃A' c',e=.returned (.slice A' 480 c')∧480≤c'∧Rd w' A' 480 (u8s bs)∧Below W.heap.size W w'):=fun W hW=>by
  refine(zbi B 480 cb bs W (hb.below hW) om).mono ?_;rintro e w' ⟨A',c',rfl,hc',ho,hB⟩;exact⟨A',c',rfl,hc',Rd.of_own ho,hB⟩
 obtain⟨L,hL⟩:=ex9 (pbL last xs bs hs);have hL2:L=hst (pathL last hs) (scL xs hs) (k+1) (k+1)++sealAll ((scL xs hs).reverse.map Sp.pay) bs:=by rw[hL,pbL,hl]
 rw[←hL];generalize hst (pathL last hs) (scL xs hs) (k+1) (k+1)=HQ at *;obtain⟨SS,hSS⟩:=ex9 (scL xs hs);rw[←hSS]at HSC HBD hL2 hs7 hs8;generalize (pathL last hs).flatMap Cm.cells=CS at *;have HLL:Hid (u8s HQ++u8s (sealAll (SS.reverse.map Sp.pay) bs)=u8s L):=by show _=_;rw[←zae,hL2]
 have HSL:Hid (SS.length=k+1):=by show _=_;rw[hs7,hl]
 have HSS:=qh hs8;have HBL:Hid (∀j,(sealAll ((SS.reverse.map Sp.pay).take j) bs).length=480):=fun j=>by rw[zes _ _ om,hb4]
 have HCL:=qh (Cm.cells_len hc);obtain⟨C,hC⟩:=ex9 (last.cells);rw[←hC]at HPA HCL ⊢;have hld:(ldAt 47 (.pointer (some ⟨w.heap.size,0,none⟩))).run Tryz.prog (w.alloc (.cells C.toArray 47))=.ok (.agg C.toArray) (w.alloc (.cells C.toArray 47)):=cm_ld (Blk.new w _ C) HCL.out;have HE0:Hid (Below w.heap.size w (w.alloc (.cells C.toArray 47))):=(Below.refl _ w).alloc lr _;clear hh hx hb hC hc hok hl he hpe hse hxl hb4 hn1 hn5 hs7 hs8 hL hL2 hca hSS
 go_enter Tryz.func31, Tryz.ntmps31
 go_wp2_with (first
  | (go_at_call 56;(refine(HPA.out _ (by exact HE0.out)).mono ?_);rintro e w1 ⟨A1,c1,rfl,hr1,hB1⟩;have HE1:=qtr HE0 hB1;have HR1:=qh hr1;clear hB1 hr1)
  | (go_at_call 58;(refine(HPU.out _ (by exact HE1.out)).mono ?_);rintro e w2 ⟨A2,c2,rfl,hr2,hB2⟩;have HE2:=qtr HE1 hB2;have HC2:=qh (HR1.out.belo hB2);have HR2:=qh hr2;clear hB2 hr2)
  | (go_at_call 57;(refine(HSC.out _ _ _ (by exact HE2.out) (by exact HR2.out)).mono ?_);rintro e w3 ⟨A3,c3,rfl,hc3,hr3,hB3⟩;have HE3:=qtr HE2 hB3;have HC3:=qh (HC2.out.belo hB3);have HR3:=qh hr3;clear hB3 hr3)
  | (go_at_call 59;(refine(HLE.out _ _ (by exact zg7 _ _ _ _ _)).mono ?_);rintro e w4 ⟨rfl,rfl⟩;have HE4:=qh (HE3.out.alloc HE3.out.size (.cells #[.int .i64 0,.int .i64 0,.int .i64 0] 3));have HC4:=qh (HC3.out.allo (.cells #[.int .i64 0,.int .i64 0,.int .i64 0] 3));have HR4:=qh (HR3.out.allo (.cells #[.int .i64 0,.int .i64 0,.int .i64 0] 3)))
  | (go_at_call 60;(refine(HBD.out _ _ _ _ _ (by exact HC4.out) (by exact HR4.out)).mono ?_);rintro e w5 ⟨A5,c5,rfl,hc5,hown5,hB5⟩;have HE5:=qtr HE4 hB5;have HO5:=qh (zbc hown5 HE4.out.size);have HR5:=qh (HR4.out.belo hB5);clear hB5 hown5)
  | (go_at_call 12;(refine(HCP.out _ (by exact HE5.out)).mono ?_);rintro e w6 ⟨A6,c6,rfl,hc6,hr6,hB6⟩;have HE6:=qtr HE5 hB6;have HO6:=qh (zak HO5.out hB6);have HR6:=qh (HR5.out.belo hB6);have HB6:=qh hr6;clear hB6 hr6))
 obtain⟨b2,off2,rfl,_,_⟩:=HR6.out.2 om;have HX6:Hid (Rd w6 A6 480 (u8s (sealAll ((SS.reverse.map Sp.pay).take 0) bs))):=HB6
 go_loopg [17,18] (k+1) (fun kk v q wr=>∃(j:Nat),j≤k+1∧kk=k+1-j∧q=.int .i64 ((k:Int)-(j:Int))∧(∃T cT,v=.slice T 480 cT∧480≤cT∧Hid (Rd wr T 480 (u8s (sealAll ((SS.reverse.map Sp.pay).take j) bs))))∧Hid (Below w6.heap.size w6 wr))
 case atStart=>exact⟨0,by omega,rfl,by go_num,⟨A6,c6,rfl,hc6,HX6⟩,Below.refl _ _⟩
 case round =>
  clear HX6 HB6;obtain⟨j,hj,hgk,rfl,⟨T,cT,rfl,hcT,HOW⟩,HD⟩:=hrel;have HGK:=qh hgk;clear hgk
  by_cases hlt:j<k+1
  · obtain⟨t,ht⟩:=ex9 (k-j)
    rw[show(k:Int)-(j:Int)=(t:Int) by omega];have ht0:(0:Int)≤(t:Int):=om;have htk:(t:Int)<(k:Int)+1:=om;obtain⟨s,hsi⟩:∃s,SS[t]? = some s:=⟨_,ge9 (by rw[HSL.out];omega)⟩;have hok:=HSS.out s (mg9 hsi)
    have hkj:(SS.reverse.map Sp.pay)[j]? = some s.pay:=by
     rw[List.getElem?_map,List.getElem?_reverse (by rw[HSL.out];exact hlt),HSL.out,show k+1-1-j=t by omega,hsi]
     rfl
    have HST:Hid (Wd.seal_ s.pay (sealAll ((SS.reverse.map Sp.pay).take j) bs)=sealAll ((SS.reverse.map Sp.pay).take (j+1)) bs):=(zfx bs hkj).symm
    have HSE:Hid (Calls Tryz.prog 64 #[.slice (some ⟨b2,off2+t*192+64,none⟩) 32 32,.slice T 480 cT] wr fun e w'=>∃g c',e=.returned (.tuple #[.slice (some ⟨g,0,none⟩) 480 c',.int .i64 0])∧480≤c'∧Rd w' (some ⟨g,0,none⟩) 480 (u8s (sealAll ((SS.reverse.map Sp.pay).take (j+1)) bs))∧Below wr.heap.size wr w'):=by
     obtain⟨q1,q2⟩:=zec (HR6.out.belo HD.out) HSS.out hsi om 64 s.pay (Sp.pay_at hok);rw[←HST.out];refine(zp4 _ T 32 cT 480 s.pay _ wr (zgi q2 q1 32 (Sp.pay_len hok)) HOW.out hcT om om).mono ?_;rintro e w' ⟨g,c',rfl,hc',_,hr,hB⟩;exact⟨g,c',rfl,hc',hr,hB⟩
    have HT:=qh ht;clear ht hsi hok hkj
    go_wp2_with (go_at_call 64;(refine HSE.out.mono ?_);rintro e w7 ⟨g7,c7,rfl,hc7,hr7,hB7⟩;have HE7:=qtr HD hB7;have HR7:=qh hr7;clear hB7 hr7)
    go_roundg (k+1-(j+1))
    case measure=>have:=HGK.out;omega
    case rel=>exact⟨j+1,by omega,rfl,by have:=HT.out;go_num,⟨_,c7,rfl,hc7,HR7⟩,HE7⟩
  · obtain rfl:j=k+1:=om
    rw[show(k:Int)-((k+1:Nat):Int)=-1 by omega]
    have HTD:Hid (Rd wr T 480 (u8s (sealAll (SS.reverse.map Sp.pay) bs))):=by
     have h5:=HOW.out
     rwa [tk (by rw[List.length_map,List.length_reverse,HSL.out];exact lr)]at h5
    have HO7:=qh (zak HO6.out HD.out);have HE7:=qh (HE6.out.trans (HD.out.mono HE6.out.size));clear HOW HBL HBD HLE HSC HPU HPA HCP HR6 HO6 HE6 HD HSS
    go_wp2_with (at_builtin;refine zaf rfl (.tmp 72) (.tmp 73) 22 rfl w.heap.size 5 1 1 Tryz.underlying22 eU8 (.slice A5 288 c5) 288 _ rr (by exact HO7.out) T 480 cT _ rr (by exact HTD.out.toS) (zac _) om om (by exact HE7.out.size) ?_;intro A8 c8 w8 hown8 hc8 hg8 hat8;rw[HLL.out]at hown8;have HR8:=qh (Rd.of_own hown8);have HE8:=qh (HE7.out.grown hg8 HE7.out.size (fun g hg=>(HO7.out.lt g hg).1));clear hown8 hg8 hat8)
    go_ret2;exact⟨A8,c8,rfl,hc8,HR8.out,HE8.out⟩
end
noncomputable def pbR(last:Cm)(xs bs:List UInt8)(hs:List Ho):List UInt8:=if pbE last xs bs hs=0 then pbL last xs bs hs else z768
theorem zjo{last:Cm}(hc:last.ok){xs bs:List UInt8}{hs:List Ho}(hok:∀s∈hs,s.ok):(pbR last xs bs hs).length=768:=by
 unfold pbR
 split
 · rename_i h
   exact zwy hc hok h
 · exact zby
theorem zow(A B H:Option Addr)(na ca nb cb n c:Nat)(xs bs:List UInt8)(last:Cm)(hc:last.ok)(hs:List Ho)(w:World)(hx:Rd w A na (u8s xs))(hca:na≤ca)(hb:Rd w B nb (u8s bs))(hcb:nb≤cb)(hh:RdS 68 w H n (hs.flatMap Ho.cells))(hok:∀s∈hs,s.ok)(hl:hs.length=n)(hn:n≤1400000000000):
 Calls Tryz.prog 29 #[.slice A na ca,.agg last.cells.toArray,.slice B nb cb,.slice H n c] w fun e w'=>e=.returned (.tuple #[.agg (u8s (pbR last xs bs hs)).toArray,.int .i64 (pbE last xs bs hs:Int)])∧Below w.heap.size w w':=by
 by_cases he:pbE last xs bs hs=0
 · have h5:=zov A B H na ca nb cb n c xs bs last hc hs w hx hca hb hcb hh hok hl he
   rw[pbR,if_pos he,he];exact h5
 · have h5:=zq3 A B H na ca nb cb n c xs bs last hc hs w hx hca hb hh hok hl hn he
   rw[pbR,if_neg he];exact h5
theorem zv7(A B H:Option Addr)(na ca nb cb n c:Nat)(xs bs:List UInt8)(last:Cm)(hc:last.ok)(hs:List Ho)(w:World)(hx:Rd w A na (u8s xs))(hca:na≤ca)(hb:Rd w B nb (u8s bs))(hh:RdS 68 w H n (hs.flatMap Ho.cells))(hok:∀s∈hs,s.ok)(hl:hs.length=n)(hn:n≤1400000000000):
 Calls Tryz.prog 31 #[.slice A na ca,.agg last.cells.toArray,.slice B nb cb,.slice H n c] w fun e w'=>∃A' n' c',e=.returned (.tuple #[.slice A' n' c',.int .i64 (pbE last xs bs hs:Int)])∧(pbE last xs bs hs=0→n'=768∧768≤c'∧Rd w' A' 768 (u8s (pbR last xs bs hs)))∧Below w.heap.size w w':=by
 by_cases he:pbE last xs bs hs=0
 · refine(zv6 A B H na ca nb cb n c xs bs last hc hs w hx hca hb hh hok hl he).mono ?_
   rintro e w' ⟨A',c',rfl,hc',hr,hB⟩;refine⟨A',768,c',by rw[he];rfl,fun _=>⟨rfl,hc',?_⟩,hB⟩;rw[pbR,if_pos he];exact hr
 · refine(rpk_no A B H na ca nb cb n c xs bs last hc hs w hx hca hb hh hok hl hn he).mono ?_
   rintro e w' ⟨rfl,hB⟩;exact⟨none,0,0,rfl,fun h=>absurd h he,hB⟩
theorem zs0(last:Cm)(hc:last.ok)(xs bs:List UInt8)(hs:List Ho)(hok:∀s∈hs,s.ok)(B:Option Addr)(n c:Nat)(w:World)(h:pbE last xs bs hs=0→n=768∧Rd w B 768 (u8s (pbR last xs bs hs))):
 Calls Tryz.prog 32 #[.agg (u8s (pbR last xs bs hs)).toArray,.int .i64 (pbE last xs bs hs:Int),.slice B n c,.int .i64 (pbE last xs bs hs:Int)] w fun e w'=>e=.returned (.bool true)∧Below w.heap.size w w':=by
 by_cases he:pbE last xs bs hs=0
 · obtain⟨rfl,hr⟩:=h he
   have hl:(pbR last xs bs hs).length=768:=zjo hc hok;rw[he];exact zv0 _ hl B c w hr
 · rw[pbR,if_neg he]
   exact zsz _ he B n c w
theorem zxk(A:Option Addr)(n c:Nat)(hs:List Ho)(w:World)(h:RdS 68 w A n (hs.flatMap Ho.cells))(hok:∀s∈hs,s.ok)(hl:hs.length=n)(hn:n*104≤140737488355328):
 Calls Tryz.prog 30 #[.slice A n c] w fun e w'=>∃A' c',e=.returned (.slice A' n c')∧RdS 68 w' A' n (hs.flatMap Ho.cells)∧Below w.heap.size w w':=by
 refine(zuo A n c hs w h hok hl hn).mono ?_;rintro e w' ⟨A',c',rfl,_,ho,hB⟩;exact⟨A',c',rfl,RdS.ofOwn2 ho,hB⟩
theorem zxx(A:Option Addr)(n c:Nat)(l:List UInt8)(w:World)(h:Rd w A n (u8s l))(hn:n≤140737488355328):
 Calls Tryz.prog 12 #[.slice A n c] w fun e w'=>∃A' c',e=.returned (.slice A' n c')∧n≤c'∧Rd w' A' n (u8s l)∧Below w.heap.size w w':=by
 refine(zbi A n c l w h hn).mono ?_;rintro e w' ⟨A',c',rfl,hc',ho,hB⟩;exact⟨A',c',rfl,hc',Rd.of_own ho,hB⟩
end Go.Proofs.YtpgpaenloaphaaaGreat
