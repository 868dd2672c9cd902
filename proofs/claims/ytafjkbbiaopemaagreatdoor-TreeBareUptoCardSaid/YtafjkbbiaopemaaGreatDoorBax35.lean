/- Part of the proof. -/
import Derived.Lib.Join
import Derived.Test.YtafjkbbiaopemaaGreatDoorBax33
set_option linter.all false
set_option maxRecDepth 100000
set_option maxHeartbeats 0
namespace Go.Proofs.YtafjkbbiaopemaaGreatDoor.Lx
open Go.RowKit
def word(t:Tok):List UInt8:=if t.kind=4 then quote t.text else t.text
def key(t:Tok):Nat × List UInt8 × Nat:=(t.kind,t.text,t.num)
def Sep(x:List UInt8):Prop:=x=[]∨∃c y,x=c :: y∧alnum c=false
theorem Sep.cons{c:UInt8}{y:List UInt8}(h:alnum c=false):Sep (c :: y):=.inr ⟨c,y,rfl,h⟩
theorem zdk{p:UInt8→Bool}(hp:∀c,alnum c=false→p c=false){t x:List UInt8}(h:∀c∈t,p c=true)(hx:Sep x):(t++x).takeWhile p=t:=by
 induction t with
 | nil =>
  rcases hx with rfl|⟨c,y,rfl,hc⟩
  · rfl
  · simp[hp c hc]
 | cons c t ih=>rw[List.cons_append,List.takeWhile_cons,if_pos (h c sy),ih fun d hd=>h d (by simp[hd])]
theorem token_word{c:UInt8}{r x:List UInt8}(hl:letter c=true)(ha:∀d∈r,alnum d=true)(h16:(c :: r).length≤16)(hx:Sep x):token (c :: (r++x))=.inr (if reserved (c :: r) then 2 else 1,c :: r,0,x):=by
 have htw:((c :: r)++x).takeWhile alnum=c :: r:=zdk (fun _ h=>h) (fun d hd=>by
  rcases List.mem_cons.1 hd with rfl|hd
  · unfold alnum;rw[hl,Bool.or_true]
  · exact ha d hd) hx
 have hdr:((c :: r)++x).drop (c :: r).length=x:=by simp
 unfold token
 simp only[hl,if_true];rw[←List.cons_append,htw,hdr,if_neg om]
theorem zeq{c:UInt8}(h:alnum c=false):letter c=false:=by unfold alnum at h;rw[Bool.or_eq_false_iff]at h;exact h.2
theorem zfa{c:UInt8}(h:alnum c=false):digit c=false:=by unfold alnum at h;rw[Bool.or_eq_false_iff]at h;exact h.1
theorem zf5{c:UInt8}{r x:List UInt8}(hn:letter c=false)(ha:∀d∈c :: r,digit d=true)(h9:(c :: r).length≤9)(h0:r=[]∨c≠48)(hx:Sep x):token (c :: (r++x))=.inr (3,c :: r,numOf (c :: r),x):=by
 have htw:((c :: r)++x).takeWhile digit=c :: r:=zdk (fun _ h=>zfa h) ha hx;have hdr:((c :: r)++x).drop (c :: r).length=x:=by simp
 have hd:digit c=true:=ha c sy
 unfold token
 simp only[hn,hd,if_true,Bool.false_eq_true,if_false];rw[←List.cons_append,htw,hdr,if_neg,if_neg]
 · rcases hx with rfl|⟨d,y,rfl,hd⟩
   · simp
   · simp[zeq hd]
 · rcases h0 with rfl|h0
   · simp
   · have:(c == 48)=false:=by simpa using h0
     simp only[this,Bool.and_false,Bool.or_false,decide_eq_true_eq];omega
theorem zdf:∀u:Fin 10,digit (UInt8.ofNat (48+u.val))=true∧letter (UInt8.ofNat (48+u.val))=false∧(UInt8.ofNat (48+u.val)).toNat=48+u.val:=by decide
theorem zjh(u:Nat):∀d∈Lib.decDigits u,digit d=true∧letter d=false:=by
 induction u using Nat.strongRecOn with
 | _ u ih =>
  intro d hd;rw[Lib.decDigits]at hd
  split at hd
  · rename_i h
    rw[List.mem_singleton.1 hd];exact⟨(zdf ⟨u,h⟩).1,(zdf ⟨u,h⟩).2.1⟩
  · rcases List.mem_append.1 hd with hd|hd
    · exact ih _ om d hd
    · rw[List.mem_singleton.1 hd]
      exact⟨(zdf ⟨u%10,by omega⟩).1,(zdf ⟨u%10,by omega⟩).2.1⟩
theorem zpx(u:Nat):numOf (Lib.decDigits u)=u:=by
 induction u using Nat.strongRecOn with
 | _ u ih =>
  rw[Lib.decDigits]
  split
  · rename_i h
    show 10*0+((UInt8.ofNat (48+u)).toNat-48)=u
    rw[(zdf ⟨u,h⟩).2.2]
    show 10*0+(48+u-48)=u
    omega
  · have h1:=ih (u/10) om
    unfold numOf at h1 ⊢
    rw[List.foldl_append,h1]
    show 10*(u/10)+((UInt8.ofNat (48+u%10)).toNat-48)=u
    rw[(zdf ⟨u%10,by omega⟩).2.2]
    show 10*(u/10)+(48+u%10-48)=u
    omega
theorem znu(u:Nat):∃c r,Lib.decDigits u=c :: r∧(r=[]∨c≠48):=by
 have hz:∀u,1≤u→∃c r,Lib.decDigits u=c :: r∧c≠48:=by
  intro u
  induction u using Nat.strongRecOn with
  | _ u ih =>
   intro h1;rw[Lib.decDigits]
   split
   · rename_i h
     refine⟨_,_,rfl,fun e=>?_⟩;have h2:=(zdf ⟨u,h⟩).2.2;rw[e]at h2;have h3:(48:UInt8).toNat=48:=rfl;rw[h3]at h2;dsimp only at h2;omega
   · obtain⟨c,r,e,h2⟩:=ih (u/10) om om
     exact⟨c,_,by rw[e];rfl,h2⟩
 rcases Nat.eq_zero_or_pos u with rfl|h
 · exact⟨_,[],by rw[Lib.decDigits,dif_pos om],.inl rfl⟩
 · obtain⟨c,r,e,h2⟩:=hz u h
   exact⟨c,r,e,.inr h2⟩
theorem zlc:∀(k u:Nat),u<10^(k+1)→Lib.nDigits u≤k+1
 | 0,u,h=>by rw[Lib.nDigits_small (by simpa using h)];exact Nat.le_refl 1
 | k+1,u,h=>by
  rw[Lib.nDigits]
  split
  · omega
  · rw[Nat.pow_succ]at h
    have:=zlc k (u/10) om;omega
theorem token_dec{m:Nat}(hm:m<1000000000):∃c r,Lib.decDigits m=c :: r∧blank c=false∧c≠35∧∀x,Sep x→token (c :: (r++x))=.inr (3,c :: r,m,x):=by
 obtain⟨c,r,e,h0⟩:=znu m;have hd:=zjh m;have hl:(Lib.decDigits m).length≤9:=by rw[Lib.decDigits_length];exact zlc 8 m om
 have hn:=zpx m;rw[e]at hd hl hn;have hc:=(hd c sy).1;refine⟨c,r,e,?_,?_,fun x hx=>?_⟩
 · cases hb:blank c with
   | false=>rfl
   | true =>
    unfold blank at hb
    simp only[Bool.or_eq_true,beq_iff_eq]at hb
    rcases hb with (rfl|rfl)| rfl <;> exact absurd hc (by decide)
 · rintro rfl
   exact absurd hc (by decide)
 · rw[zf5 (hd c sy).2 (fun d hd'=>(hd d hd').1) hl h0 hx,hn]
def NameOk(t:List UInt8):Prop:=∃c r,t=c :: r∧letter c=true∧(∀d∈r,alnum d=true)∧t.length≤16∧reserved t=false
def TkP(t:Tok):Prop:=(t.kind=3→t.num<1000000000)∧(t.kind=1→NameOk t.text)
end Go.Proofs.YtafjkbbiaopemaaGreatDoor.Lx
namespace Go.Proofs.YtafjkbbiaopemaaGreatDoor.Tr
open Go.RowKit
section
open Lx (Sep NameOk TkP)
abbrev Ky:=Nat × List UInt8 × Nat
def Pz(o:Bool)(l:List UInt8)(ks:List Ky):Prop:=∀(n f:Nat) (x:List UInt8) (acc:List Lx.Tok),(o=true→Sep x)→∃vs,Lx.scanF n (f+1+ks.length) (l++x) acc=Lx.scanF n (f+1) x (acc++vs)∧vs.map Lx.key=ks
theorem Pz.up{l:List UInt8}{ks:List Ky}{o:Bool}(h:Pz false l ks):Pz o l ks:=fun n f x acc _=>h n f x acc (fun h=>by cases h)
theorem Pz.app{o o2:Bool}{l1 l2:List UInt8}{k1 k2:List Ky}(h1:Pz o l1 k1)(h2:Pz o2 l2 k2)(hs:o=true→∀x,(o2=true→Sep x)→Sep (l2++x)):Pz o2 (l1++l2) (k1++k2):=by
 intro n f x acc hx;obtain⟨v1,e1,e2⟩:=h1 n (f+k2.length) (l2++x) acc (fun ho=>hs ho x hx);obtain⟨v2,e3,e4⟩:=h2 n f x (acc++v1) hx;refine⟨v1++v2,?_,by rw[List.map_append,e2,e4]⟩;rw[as9,show f+1+(k1++k2).length=f+k2.length+1+k1.length by rw[la9];omega,e1,show f+k2.length+1=f+1+k2.length by omega,e3,as9]
theorem Pz.cat{o2:Bool}{l1 l2:List UInt8}{k1 k2:List Ky}(h1:Pz false l1 k1)(h2:Pz o2 l2 k2):Pz o2 (l1++l2) (k1++k2):=h1.app h2 (fun h=>by cases h)
theorem Pz.cut{o2:Bool}{c:UInt8}{l1 l2:List UInt8}{k1 k2:List Ky}(h1:Pz true l1 k1)(h2:Pz o2 (c :: l2) k2)(hc:Lx.alnum c=false):Pz o2 (l1++c :: l2) (k1++k2):=h1.app h2 (fun _ _ _=>Sep.cons hc)
theorem Pz.nil:Pz false [] []:=fun n f x acc _=>⟨[],by simp,rfl⟩
theorem Pz.tok{c:UInt8}{r:List UInt8}{k:Nat}{t:List UInt8}{m:Nat}{o:Bool}(hb:Lx.blank c=false)(h35:c≠35)(h:∀x,(o=true→Sep x)→Lx.token (c :: (r++x))=.inr (k,t,m,x)):Pz o (c :: r) [(k,t,m)]:=by
 intro n f x acc hx;have hs:Lx.skip false (c :: (r++x))=c :: (r++x):=by rw[Lx.skip_f,if_neg (by rw[hb];decide),if_neg (by simpa using h35)]
 refine⟨[⟨k,t,m,n-(c :: (r++x)).length⟩],?_,rfl⟩;refine(Lx.scan_step n (f+1) c (r++x) acc hs).trans ?_;simp only[h x hx]
theorem Pz.blank{c:UInt8}(h:Lx.blank c=true):Pz false [c] []:=fun n f x acc _=>⟨[],by
 show Lx.scanF n (f+1) (c :: x) acc=Lx.scanF n (f+1) x (acc++[])
 rw[List.append_nil,Lx.scan_skip n f (c :: x),Lx.skip_f,if_pos h,←Lx.scan_skip],rfl⟩
theorem Pz.blanks:∀k:Nat,Pz false (List.replicate k 32) []
 | 0=>Pz.nil
 | k+1=>Pz.cat (l1:=[32]) (k1:=[]) (Pz.blank (by decide)) (Pz.blanks k)
theorem Pz.mark{c:UInt8}(h:(Lx.mark c && !Lx.letter c && !Lx.digit c && !(c == 34) && !Lx.blank c && !(c == 35))=true):Pz false [c] [(5,[c],0)]:=by
 simp only[Bool.and_eq_true,Bool.not_eq_true']at h;obtain⟨⟨⟨⟨⟨h1,h2⟩,h3⟩,h4⟩,h5⟩,h6⟩:=h;refine Pz.tok h5 (by simpa using h6) (fun x _=>?_)
 unfold Lx.token
 simp only[h1,h2,h3,h4,Bool.false_eq_true,if_false,if_true]
 rfl
theorem Pz.name{t:List UInt8}(h:NameOk t):Pz true t [(1,t,0)]:=by
 obtain⟨c,r,rfl,hl,ha,h16,hr⟩:=h;refine Pz.tok ?_ ?_ (fun x hx=>?_)
 · cases hb:Lx.blank c with
   | false=>rfl
   | true =>
    unfold Lx.blank at hb
    simp only[Bool.or_eq_true,beq_iff_eq]at hb
    rcases hb with (rfl|rfl)| rfl <;> exact absurd hl (by decide)
 · rintro rfl
   exact absurd hl (by decide)
 · rw[Lx.token_word hl ha h16 (hx rfl),hr]
   rfl
theorem Pz.num{m:Nat}(h:m<1000000000):Pz true (Lib.decDigits m) [(3,Lib.decDigits m,m)]:=by
 obtain⟨c,r,e,h1,h2,h3⟩:=Lx.token_dec h;rw[e];exact Pz.tok h1 h2 (fun x hx=>h3 x (hx rfl))
theorem Pz.text(t:List UInt8):Pz false (Lx.quote t) [(4,t,0)]:=Pz.tok (by decide) (by decide) (fun x _=>Lx.token_quote t x)
theorem Pz.word(c:UInt8)(r:List UInt8)(h:(Lx.letter c && r.all Lx.alnum && decide ((c :: r).length≤16) && Lx.reserved (c :: r) && !Lx.blank c && !(c == 35))=true):Pz true (c :: r) [(2,c :: r,0)]:=by
 simp only[Bool.and_eq_true,Bool.not_eq_true',List.all_eq_true,decide_eq_true_eq]at h;obtain⟨⟨⟨⟨⟨h1,h2⟩,h3⟩,h4⟩,h5⟩,h6⟩:=h;refine Pz.tok h5 (by simpa using h6) (fun x hx=>?_);rw[Lx.token_word h1 h2 h3 (hx rfl),h4]
 rfl
def mrk(t:ByteArray):Ky:=(5,tx t,0)
def parK(b:Bool)(l:List Ky):List Ky:=if b then mrk m_lpar :: (l++[mrk m_rpar]) else l
def moreK(s:Ky)(l:List (List Ky)):List Ky:=l.flatMap fun b=>s :: b
def sepK(s:Ky):List (List Ky)→List Ky
 | []=>[]
 | a :: l=>a++moreK s l
theorem Pz.sep{α:Type}{c:UInt8}{r:List UInt8}{k:Ky}(hk:Pz false (c :: r) [k])(hc:Lx.alnum c=false)(f:α→List UInt8)(g:α→List Ky):∀l:List α,l≠[]→(∀a∈l,Pz true (f a) (g a))→Pz true (sepB (c :: r) (l.map f)) (sepK k (l.map g))
 | [],h,_=>absurd rfl h
 | [a],_,h=>by
  have h1:=h a sy
  simpa[sepB,sepK,moreK] using h1
 | a :: b :: l,_,h=>by
  have h1:=h a sy;have h2:=Pz.sep hk hc f g (b :: l) sy (fun x hx=>h x (by simp[hx]));have h3:Pz true (f a++c :: (r++sepB (c :: r) ((b :: l).map f))) (g a++([k]++sepK k ((b :: l).map g))):=h1.cut (hk.cat h2) hc;have e1:sepB (c :: r) ((a :: b :: l).map f)=f a++c :: (r++sepB (c :: r) ((b :: l).map f)):=by simp[sepB]
  have e2:sepK k ((a :: b :: l).map g)=g a++([k]++sepK k ((b :: l).map g)):=by simp[sepK,moreK]
  rw[e1,e2];exact h3
theorem Pz.par{l:List UInt8}{ks:List Ky}(b:Bool)(h:Pz true l ks):Pz true (par b l) (parK b ks):=by
 cases b with
 | false=>exact h
 | true =>
  have h1:Pz false [40] [(5,[40],0)]:=Pz.mark (by decide);have h2:Pz false [41] [(5,[41],0)]:=Pz.mark (by decide);exact h1.cat ((h.cut h2 (by decide)).up)
theorem Pz.op{o:ByteArray}(ho:o=m_plus∨o=m_minus∨o=m_star):Pz false (32 :: (tx o++[32])) [mrk o]:=by
 have hb:Pz false [32] []:=Pz.blank (by decide)
 rcases ho with rfl|rfl|rfl
 · exact hb.cat ((Pz.mark (c:=43) (by decide)).cat hb)
 · exact hb.cat ((Pz.mark (c:=45) (by decide)).cat hb)
 · exact hb.cat ((Pz.mark (c:=42) (by decide)).cat hb)
end
end Go.Proofs.YtafjkbbiaopemaaGreatDoor.Tr
