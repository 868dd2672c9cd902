/- Part of the proof. -/
import Derived.Test.YtafjkbbiaopemaaGreatDoorPrx29
set_option linter.all false
set_option maxRecDepth 100000
set_option maxHeartbeats 0
namespace Go.Proofs.YtafjkbbiaopemaaGreatDoor.Tr
open Go.RowKit
section
theorem nf{b:Bool}(h:b=false):¬b=true:=by rw[h];decide
mutual
def bare:Ex→Ex
 | .mk op num text _ args=>.mk op num text 0 (bareL args)
def bareL:List Ex→List Ex
 | []=>[]
 | e :: l=>bare e :: bareL l
end
theorem zav:∀l:List Ex,bareL l=l.map bare
 | []=>rfl
 | e :: es=>by rw[bareL,zav es];rfl
def At(ts:List Lx.Tok):Nat→List Ky→Prop
 | _,[]=>True
 | i,k :: l=>(i<ts.length∧Lx.key (tokAt ts i)=k)∧At ts (i+1) l
theorem At.left{ts:List Lx.Tok}: ∀ {i:Nat} {l r:List Ky},At ts i (l++r)→At ts i l
 | _,[],_,_=>trivial
 | _,_ :: _,_,h=>⟨h.1,At.left h.2⟩
theorem At.right{ts:List Lx.Tok}: ∀ {i:Nat} {l r:List Ky},At ts i (l++r)→At ts (i+l.length) r
 | _,[],_,h=>h
 | i,k :: l,r,h=>by
  have:=At.right h.2;rw[List.length_cons,show i+(l.length+1)=i+1+l.length by omega];exact this
theorem At.len{ts:List Lx.Tok}: ∀ {i:Nat} {l:List Ky},At ts i l→l=[]∨i+l.length≤ts.length
 | _,[],_=>.inl rfl
 | i,k :: l,h=>by
  rcases At.len h.2 with rfl|h2
  · have:=h.1.1
    exact .inr (by simp;omega)
  · exact .inr (by rw[List.length_cons];omega)
theorem At.of_map{ts:List Lx.Tok}: ∀(l:List Ky) (i:Nat),(ts.drop i).map Lx.key=l→At ts i l
 | [],_,_=>trivial
 | k :: l,i,h=>by
  rcases Nat.lt_or_ge i ts.length with h1|h1
  · rw[List.drop_eq_getElem_cons h1,List.map_cons]at h
    injection h with h2 h3
    refine⟨⟨h1,?_⟩,At.of_map l (i+1) h3⟩
    unfold tokAt
    rw[ge9 h1];exact h2
  · rw[List.drop_of_length_le h1]at h
    cases h
def adv(s:PS)(n:Nat):PS:={ s with i:=s.i+n }
theorem zai(s:PS)(a b:Nat):adv (adv s a) b=adv s (a+b):=by unfold adv;dsimp only;rw[Nat.add_assoc]
theorem zbe(s:PS):nxt s=adv s 1:=rfl
def isK(k:Ky)(l:List ByteArray):Bool:=(decide (k.1=2)|| decide (k.1=5)) && bmem (bytesOf k.2.1) l
theorem zrb(t:ByteArray)(l:List ByteArray):isK (nam t) l=false:=rfl
theorem zez(T:ByteArray):isK (kw T) [T]=true:=by
 unfold isK kw
 simp only[zbg];have:bmem T [T]=true:=zbh.2 sy;rw[this];rfl
theorem zcy(T:ByteArray):isK (mrk T) [T]=true:=by
 unfold isK mrk
 simp only[zbg];have:bmem T [T]=true:=zbh.2 sy;rw[this];rfl
section
variable{ts us:List Lx.Tok}
theorem zi6{s:PS}{k:Ky}{r:List Ky}(h:At ts s.i (k :: r)):Lx.key (pk ts s)=k:=h.1.2
theorem at_is{s:PS}{k:Ky}{r:List Ky}(h:At ts s.i (k :: r))(l:List ByteArray):isOf (pk ts s) l=isK k l:=by rw[←zi6 h];rfl
theorem zas{s:PS}{k:Ky}{r:List Ky}(ho:s.ok=true)(h:At ts s.i (k :: r))(l:List ByteArray):sees ts l s=isK k l:=by unfold sees;rw[ho,Bool.true_and,at_is h]
theorem za4{s:PS}{k:Ky}{r:List Ky}(ho:s.ok=true)(h:At ts s.i (k :: r))(n:Nat):kindIs ts n s=decide (k.1=n):=by unfold kindIs;rw[ho,Bool.true_and,←zi6 h];rfl
theorem zc1{s:PS}{k:Ky}{r:List Ky}(h:At ts s.i (k :: r)):(pk ts s).text=k.2.1:=by rw[←zi6 h];rfl
theorem zpv{s:PS}{k:Ky}{r:List Ky}(h:At ts s.i (k :: r)):(pk ts s).num=k.2.2:=by rw[←zi6 h];rfl
theorem zbi{s:PS}{k:Ky}{r:List Ky}{T:ByteArray}(ho:s.ok=true)(h:At ts s.i (k :: r))(hk:isK k [T]=true):takeP ts T s=adv s 1:=by
 unfold takeP
 rw[if_pos ho,at_is h,if_pos hk]
 rfl
theorem at_ref{s:PS}{t:ByteArray}{r:List Ky}(ho:s.ok=true)(h:At ts s.i (nam t :: r)):∃a,refP ts s=(⟨t,a⟩,adv s 1):=by
 unfold refP
 rw[za4 ho h,if_pos rr,zc1 h];exact⟨_,by rw[show bytesOf (nam t).2.1=t from zbg t];rfl⟩
def NoOp(r:List Ky):Prop:=∃k l,r=k :: l∧isK k [m_star]=false∧isK k [m_plus,m_minus]=false
theorem NoOp.mk{k:Ky}{l:List Ky}(h:(isK k [m_star] || isK k [m_plus,m_minus])=false):NoOp (k :: l):=by
 rw[Bool.or_eq_false_iff]at h;exact⟨k,l,rfl,h.1,h.2⟩
def PX(ts us:List Lx.Tok)(ex:PS→Ex × PS)(m:Nat):Prop:=∀e,WfE us e→nd e<m→∀(s:PS) (rest:List Ky),s.ok=true→(nd e:Int)+s.pa≤12→At ts s.i (tkE e++rest)→NoOp rest→∃e',ex s=(e',adv s (tkE e).length)∧bare e'=bare e
variable{ex:PS→Ex × PS}{m:Nat}
theorem zmj{s:PS}{r:List Ky}(ho:s.ok=true)(h:At ts s.i (mrk m_lpar :: r))(hp:s.pa≤11):openP ts s = { adv s 1 with pa:=s.pa+1 }:=by
 unfold openP
 have h1:(s.pa == 12)=false:=by
  have:s.pa≠12:=om
  simpa using this
 rw[h1,Bool.and_false,if_neg (by decide)];dsimp only;rw[zbi ho h (zcy _)]
 rfl
theorem zmi{s:PS}{r:List Ky}(ho:s.ok=true)(h:At ts s.i (mrk m_rpar :: r)):shutP ts s = { adv s 1 with pa:=s.pa-1 }:=by
 unfold shutP
 dsimp only;rw[zbi ho h (zcy _)]
 rfl
theorem zlw(hx:PX ts us ex m):∀(args:List Ex) (k:Nat) (l:List Ex) (s:PS) (rest:List Ky),s.ok=true→(∀e∈args,WfE us e∧nd e<m∧(nd e:Int)+s.pa≤12)→args.length≤k→At ts s.i (moreK (mrk m_comma) (args.map tkE)++mrk m_rpar :: rest)→∃l',joinLoop ts ex k l s=(l++l',adv s (moreK (mrk m_comma) (args.map tkE)).length)∧bareL l'=bareL args
 | [],k,l,s,rest,ho,_,_,h=>by
  refine⟨[],?_,rfl⟩
  cases k with
  | zero=>simp[joinLoop,moreK,adv]
  | succ k =>
   rw[joinLoop,zas ho h,if_neg (nf (by first|rfl|decide))]
   simp[moreK,adv]
 | a :: bs,k,l,s,rest,ho,ha,hk,h=>by
  obtain⟨k,rfl⟩:∃k',k=k'+1:=⟨k-1,by simp at hk;omega⟩;have h':At ts s.i (mrk m_comma :: (tkE a++(moreK (mrk m_comma) (bs.map tkE)++mrk m_rpar :: rest))):=by simpa[moreK] using h
  obtain⟨w1,w2,w3⟩:=ha a sy
  have hno:NoOp (moreK (mrk m_comma) (bs.map tkE)++mrk m_rpar :: rest):=by
   cases bs with
   | nil=>exact NoOp.mk (by decide)
   | cons b cs=>exact NoOp.mk (by decide)
  obtain⟨a',e1,e2⟩:=hx a w1 w2 (adv s 1) _ ho w3 h'.2 hno;obtain⟨l',e3,e4⟩:=zlw hx bs k (l++[a']) (adv (adv s 1) (tkE a).length) rest ho (fun e he=>ha e (by simp[he])) (by simp at hk;omega) (At.right h'.2);refine⟨a' :: l',?_,by rw[bareL,bareL,e2,e4]⟩;rw[joinLoop,zas ho h',if_pos (by first|rfl|decide),zbe,e1];dsimp only;rw[e3,zai,zai];have:(moreK (mrk m_comma) ((a :: bs).map tkE)).length=1+(tkE a).length+(moreK (mrk m_comma) (bs.map tkE)).length:=by simp[moreK];omega
  rw[this,as9];exact Prod.ext rfl (congrArg (adv s) om)
theorem zev(k:Ky)(l:List (List Ky)):l.length≤(moreK k l).length:=by
 induction l with
 | nil=>simp
 | cons a l ih =>
  have:(moreK k (a :: l)).length=1+a.length+(moreK k l).length:=by simp[moreK];omega
  rw[this,List.length_cons];omega
theorem nd_mem{a n:Int}{t:ByteArray}{args:List Ex}{e:Ex}(he:e∈args):nd e+1≤nd (.mk k_join n t a args):=by
 rw[nd]
 unfold ndB
 rw[if_pos rfl,zho]
 have:∀(l:List Nat) (x:Nat),x∈l→x≤l.foldr max 0:=by
  intro l
  induction l with
  | nil=>intro x h;cases h
  | cons b l ih =>
   intro x h;rw[List.foldr_cons]
   rcases List.mem_cons.1 h with rfl|h
   · omega
   · have:=ih x h
     omega
 have:=this _ _ (List.mem_map_of_mem (f:=nd) he);omega
theorem zfe(n a:Int)(t:ByteArray):tkE (.mk k_number n t a [])=[(3,Lib.decDigits n.toNat,n.toNat)]:=by rw[tkE];unfold tkB;rw[if_pos rfl]
theorem zh1(n a:Int)(t:ByteArray):tkE (.mk k_name n t a [])=[nam t]:=by rw[tkE];unfold tkB;rw[if_neg (by decide),if_pos rfl]
theorem zmr(n a:Int)(t:ByteArray):tkE (.mk k_text n t a [])=[(4,tx t,0)]:=by rw[tkE];unfold tkB;rw[if_neg (by decide),if_neg (by decide),if_pos rfl]
theorem zms(n a:Int)(t:ByteArray)(args:List Ex):tkE (.mk k_join n t a args)=kw k_join :: mrk m_lpar :: (sepK (mrk m_comma) (args.map tkE)++[mrk m_rpar]):=by rw[tkE];unfold tkB;rw[if_neg (by decide),if_neg (by decide),if_neg (by decide),if_pos rfl,zg7]
theorem zpg(hx:PX ts us ex m){e:Ex}(h:WfE us e)(hn:nd e<m)(s:PS)(rest:List Ky)(ho:s.ok=true)(hp:(nd e:Int)+1+s.pa≤12)(hA:At ts s.i (mrk m_lpar :: (tkE e++mrk m_rpar :: rest))):∃e',atomP ts ex s=(e',adv s ((tkE e).length+2))∧bare e'=bare e:=by
 obtain⟨e',e1,e2⟩:=hx e h hn { adv s 1 with pa:=s.pa+1 } _ ho (by dsimp only [adv];omega) hA.2 (NoOp.mk (by decide));refine⟨e',?_,e2⟩
 unfold atomP
 rw[za4 ho hA,if_neg (nf (by first|rfl|decide)),za4 ho hA,if_neg (nf (by first|rfl|decide)),zas ho hA,if_pos (by first|rfl|decide),zmj ho hA om,e1];dsimp only;rw[zmi (ts:=ts) (s:=adv { adv s 1 with pa:=s.pa+1 } (tkE e).length) ho (At.right hA.2)]
 unfold adv
 dsimp only;rw[show s.i+1+(tkE e).length+1=s.i+((tkE e).length+2) by omega,show s.pa+1-1=s.pa by omega]
theorem zrg(hx:PX ts us ex m){e:Ex}(h:WfE us e)(hn:nd e<m)(s:PS)(rest:List Ky)(ho:s.ok=true)(hp:(nd e:Int)+1+s.pa≤12)(hA:At ts s.i (mrk m_lpar :: (tkE e++mrk m_rpar :: rest))):∃e',factorP ts ex s=(e',adv s ((tkE e).length+2))∧bare e'=bare e:=by
 unfold factorP
 rw[za4 ho hA,if_neg (nf (by first|rfl|decide)),zas ho hA,if_neg (nf (by first|rfl|decide))];exact zpg hx h hn s rest ho hp hA
theorem zit(hx:PX ts us ex m){e:Ex}(h:WfE us e)(h1:e.sum=false)(h2:e.prod=false)(hn:nd e<m+1)(s:PS)(rest:List Ky)(ho:s.ok=true)(hp:(nd e:Int)+s.pa≤12)(hA:At ts s.i (tkE e++rest)):∃e',factorP ts ex s=(e',adv s (tkE e).length)∧bare e'=bare e:=by
 cases h with
 | number i a h =>
  rw[zfe]at hA ⊢;refine⟨.mk k_number ((pk ts s).num:Int) zs ((pk ts s).at_:Int) [],?_,?_⟩
  · unfold factorP
    rw[za4 ho hA,if_neg (nf (by first|rfl|decide)),zas ho hA,if_neg (nf (by first|rfl|decide))]
    unfold atomP
    rw[za4 ho hA,if_pos (by first|rfl|decide)]
    rfl
  · rw[bare,bare,zpv hA]
    show Ex.mk k_number ((((tokAt us i).num:Int).toNat:Nat):Int) zs 0 (bareL [])=_
    rw[Int.toNat_natCast]
 | name i a h =>
  rw[zh1]at hA ⊢;refine⟨.mk k_name 0 (bytesOf (pk ts s).text) ((pk ts s).at_:Int) [],?_,?_⟩
  · unfold factorP
    rw[za4 ho hA,if_neg (nf (by first|rfl|decide)),zas ho hA,if_neg (by rw[zrb];decide)]
    unfold atomP
    rw[za4 ho hA,if_neg (nf (by first|rfl|decide)),za4 ho hA,if_pos (by first|rfl|decide)]
    rfl
  · rw[bare,bare,zc1 hA]
    unfold nam
    dsimp only;rw[zbg]
 | text i a h =>
  rw[zmr]at hA ⊢;refine⟨.mk k_text 0 (bytesOf (pk ts s).text) ((pk ts s).at_:Int) [],?_,?_⟩
  · unfold factorP
    rw[za4 ho hA,if_pos (by first|rfl|decide)]
    rfl
  · rw[bare,bare,zc1 hA]
    dsimp only;rw[zbg]
 | join a args h0 hl hi =>
  obtain⟨b,bs,rfl⟩:∃b bs,args=b :: bs:=by cases args with
   | nil=>exact absurd rfl h0
   | cons b bs=>exact⟨b,bs,rfl⟩
  have hw:∀e∈b :: bs,WfE us e∧nd e<m∧(nd e:Int)+(s.pa+1)≤12:=fun e he=>by
   have:=nd_mem (a:=a) (n:=0) (t:=zs) he;exact⟨hi e he,by omega,by omega⟩
  rw[zms]at hA ⊢;have hA':At ts s.i (kw k_join :: mrk m_lpar :: (tkE b++(moreK (mrk m_comma) (bs.map tkE)++mrk m_rpar :: rest))):=by simpa[sepK] using hA
  obtain⟨w1,w2,w3⟩:=hw b sy
  have hno:NoOp (moreK (mrk m_comma) (bs.map tkE)++mrk m_rpar :: rest):=by
   cases bs with
   | nil=>exact NoOp.mk (by decide)
   | cons b bs=>exact NoOp.mk (by decide)
  have hpo:=zmj (ts:=ts) (s:=adv s 1) ho hA'.2 (by dsimp only [adv];omega);obtain⟨b',e1,e2⟩:=hx b w1 w2 { adv (adv s 1) 1 with pa:=s.pa+1 } _ ho w3 hA'.2.2 hno
  have hln:bs.length≤ts.length+1:=by
   have h1:=zev (mrk m_comma) (bs.map tkE)
   rcases At.len (At.right hA'.2.2)with h2|h2
   · simp at h2
   · rw[la9,List.length_map]at *
     omega
  obtain⟨l',e3,e4⟩:=zlw hx bs (ts.length+1) [b'] (adv { adv (adv s 1) 1 with pa:=s.pa+1 } (tkE b).length) rest ho (fun e he=>hw e (by simp[he])) hln (At.right hA'.2.2);refine⟨.mk k_join 0 zs ((pk ts s).at_:Int) (b' :: l'),?_,?_⟩
  · unfold factorP
    rw[za4 ho hA,if_neg (nf (by first|rfl|decide)),zas ho hA,if_pos (by first|rfl|decide)];dsimp only;rw[zbe,hpo];dsimp only;rw[show({ adv (adv s 1) 1 with pa:=(adv s 1).pa+1 } : PS) = { adv (adv s 1) 1 with pa:=s.pa+1 } from rfl,e1];dsimp only;rw[e3];dsimp only;rw[zmi (ts:=ts) (s:=adv (adv { adv (adv s 1) 1 with pa:=s.pa+1 } (tkE b).length) (moreK (mrk m_comma) (bs.map tkE)).length) ho (At.right (At.right hA'.2.2))];have hlen:(kw k_join :: mrk m_lpar :: (sepK (mrk m_comma) ((b :: bs).map tkE)++[mrk m_rpar])).length=(tkE b).length+(moreK (mrk m_comma) (bs.map tkE)).length+3:=by simp[sepK];omega
    rw[hlen]
    unfold adv
    dsimp only;rw[show s.i+1+1+(tkE b).length+(moreK (mrk m_comma) (bs.map tkE)).length+1=s.i+((tkE b).length+(moreK (mrk m_comma) (bs.map tkE)).length+3) by omega,show s.pa+1-1=s.pa by omega]
    rfl
  · rw[bare,bare,bareL,bareL,e2,e4]
 | two o a x y ho' hx' hy =>
  rcases ho' with rfl|rfl|rfl
  · exact absurd h1 (by simp[Ex.sum,Ex.op,Ex.args])
  · exact absurd h1 (by simp[Ex.sum,Ex.op,Ex.args])
  · exact absurd h2 (by simp[Ex.prod,Ex.op,Ex.args])
theorem zij(b:Bool)(l:List Ky):(parK b l).length=l.length+(if b then 2 else 0):=by cases b <;> simp[parK]
theorem zhs(hx:PX ts us ex m){e:Ex}(h:WfE us e)(b:Bool)(hb:b=false→e.sum=false∧e.prod=false)(hn:nd e+(if b then 1 else 0)<m+1)(s:PS)(rest:List Ky)(ho:s.ok=true)(hp:(nd e:Int)+(if b then 1 else 0)+s.pa≤12)(hA:At ts s.i (parK b (tkE e)++rest)):∃e',factorP ts ex s=(e',adv s (parK b (tkE e)).length)∧bare e'=bare e:=by
 cases b with
 | false=>exact zit hx h (hb rfl).1 (hb rfl).2 (by simpa using hn) s rest ho (by simpa using hp) hA
 | true =>
  rw[zij];simp only[if_true]at hn hp;have hA':At ts s.i (mrk m_lpar :: (tkE e++mrk m_rpar :: rest)):=by simpa[parK] using hA
  exact zrg hx h om s rest ho hp hA'
theorem zdk{k:Nat}{e:Ex}{s:PS}{rest:List Ky}(ho:s.ok=true)(hA:At ts s.i rest)(hr:NoOp rest∨∃o r,rest=mrk o :: r∧(o=m_plus∨o=m_minus)):termLoop ts ex k e s=(e,s):=by
 cases k with
 | zero=>rfl
 | succ k =>
  have:sees ts [m_star] s=false:=by
   rcases hr with ⟨a,l,rfl,h1,_⟩|⟨o,r,rfl,h⟩
   · rw[zas ho hA];exact h1
   · rw[zas ho hA];rcases h with rfl|rfl <;> decide
  rw[termLoop,this,if_neg (by decide)]
theorem zpy(hx:PX ts us ex m){e:Ex}(h:WfE us e):e.sum=false→nd e<m+1→∀(s:PS) (rest:List Ky),s.ok=true→(nd e:Int)+s.pa≤12→At ts s.i (tkE e++rest)→rest≠[]→∃k e',termP ts ex s=termLoop ts ex k e' (adv s (tkE e).length)∧bare e'=bare e∧ts.length+1≤k+(tkE e).length:=by
 have hleaf:∀e,WfE us e→e.sum=false→e.prod=false→nd e<m+1→∀(s:PS) (rest:List Ky),s.ok=true→(nd e:Int)+s.pa≤12→At ts s.i (tkE e++rest)→∃k e',termP ts ex s=termLoop ts ex k e' (adv s (tkE e).length)∧bare e'=bare e∧ts.length+1≤k+(tkE e).length:=by
  intro e h h1 h2 hn s rest ho hp hA;obtain⟨e',e1,e2⟩:=zit hx h h1 h2 hn s rest ho hp hA;exact⟨ts.length+1,e',by unfold termP;rw[e1],e2,by omega⟩
 induction h with
 | number i a h=>intro h1 hn s rest ho hp hA _;exact hleaf _ (.number i a h) h1 (by simp[Ex.prod,Ex.op]) hn s rest ho hp hA
 | name i a h=>intro h1 hn s rest ho hp hA _;exact hleaf _ (.name i a h) h1 (by simp[Ex.prod,Ex.op]) hn s rest ho hp hA
 | text i a h=>intro h1 hn s rest ho hp hA _;exact hleaf _ (.text i a h) h1 (by simp[Ex.prod,Ex.op]) hn s rest ho hp hA
 | join a args h0 hl hi=>intro h1 hn s rest ho hp hA _;exact hleaf _ (.join a args h0 hl hi) h1 (by simp[Ex.prod,Ex.op]) hn s rest ho hp hA
 | two o a x y ho' hx' hy ihx ihy =>
  intro h1 hn s rest ho hp hA hr
  have hs:o=m_star:=by
   rcases ho' with rfl|rfl|rfl
   · exact absurd h1 (by simp[Ex.sum,Ex.op,Ex.args])
   · exact absurd h1 (by simp[Ex.sum,Ex.op,Ex.args])
   · rfl
  subst hs;rw[zio (by decide)]at hn hp;rw[zg8 ho']at hA ⊢;simp only[decide_true,Bool.true_and]at hn hp hA ⊢;have hA':At ts s.i (parK x.sum (tkE x)++mrk m_star :: (parK (y.sum || y.prod) (tkE y)++rest)):=by simpa using hA
  have hX:∃k e',termP ts ex s=termLoop ts ex k e' (adv s (parK x.sum (tkE x)).length)∧bare e'=bare x∧ts.length+1≤k+(parK x.sum (tkE x)).length:=by
   cases hsx:x.sum with
   | false =>
    rw[hsx]at hA' hn hp;exact ihx hsx (by simp only[Bool.false_eq_true,if_false]at hn;omega) s _ ho (by simp only[Bool.false_eq_true,if_false]at hp;omega) hA' sy
   | true =>
    rw[hsx]at hA' hn hp;simp only[if_true]at hn hp;obtain⟨e',e1,e2⟩:=zhs hx hx' true sy (by simp;omega) s _ ho (by simp;omega) hA';exact⟨ts.length+1,e',by unfold termP;rw[e1],e2,by omega⟩
  obtain⟨k,x',e1,e2,e3⟩:=hX;have hA2:=At.right hA';have hlen:=At.len hA'
  have hl2:s.i+(parK x.sum (tkE x)).length+1≤ts.length:=by
   rcases At.len hA' with h|h
   · simp at h
   · rw[la9,List.length_cons]at h;omega
  obtain⟨k,rfl⟩:∃k',k=k'+1:=⟨k-1,by omega⟩
  obtain⟨y',f1,f2⟩:=zhs hx hy (y.sum || y.prod) (fun h=>by rw[Bool.or_eq_false_iff]at h;exact h) om (adv (adv s (parK x.sum (tkE x)).length) 1) rest ho (by
   show(nd y:Int)+(if (y.sum || y.prod)=true then 1 else 0)+s.pa≤12
   have h9:((nd y+(if (y.sum || y.prod)=true then 1 else 0):Nat):Int)=(nd y:Int)+(if (y.sum || y.prod)=true then 1 else 0):=by split <;> simp
   rw[←h9]
   omega) hA2.2
  refine⟨k,.mk m_star 0 zs x'.at_ [x',y'],?_,?_,?_⟩
  · rw[e1,termLoop,zas (s:=adv s (parK x.sum (tkE x)).length) ho hA2,if_pos (by first|rfl|decide),zbe,f1]
    dsimp only;rw[zai,zai]
    congr 2
    simp only[List.length_append,List.length_cons];omega
  · rw[bare,bare,bareL,bareL,bareL,bareL,bareL,bareL,e2,f2]
  · simp only[List.length_append,List.length_cons]
    omega
theorem zh3(hx:PX ts us ex m){e:Ex}(h:WfE us e)(b:Bool)(hb:b=e.sum)(hn:nd e+(if b then 1 else 0)<m+1)(s:PS)(rest:List Ky)(ho:s.ok=true)(hp:(nd e:Int)+(if b then 1 else 0)+s.pa≤12)(hA:At ts s.i (parK b (tkE e)++rest))(hr:NoOp rest∨∃o r,rest=mrk o :: r∧(o=m_plus∨o=m_minus)):∃e',termP ts ex s=(e',adv s (parK b (tkE e)).length)∧bare e'=bare e:=by
 have hr0:rest≠[]:=by
  rcases hr with ⟨a,l,rfl,_⟩|⟨o,r,rfl,_⟩ <;> simp
 cases b with
 | false =>
  obtain⟨k,e',e1,e2,_⟩:=zpy hx h hb.symm (by simpa using hn) s rest ho (by simpa using hp) hA hr0;exact⟨e',by rw[e1];exact zdk ho (At.right hA) hr,e2⟩
 | true =>
  obtain⟨e',e1,e2⟩:=zhs hx h true sy hn s rest ho hp hA;exact⟨e',by unfold termP;rw[e1];exact zdk ho (At.right hA) hr,e2⟩
theorem zrh(hx:PX ts us ex m){e:Ex}(h:WfE us e):nd e<m+1→∀(s:PS) (rest:List Ky),s.ok=true→(nd e:Int)+s.pa≤12→At ts s.i (tkE e++rest)→(NoOp rest∨∃o r,rest=mrk o :: r∧(o=m_plus∨o=m_minus))→∃k e',exprG ts ex s=exprLoop ts ex k e' (adv s (tkE e).length)∧bare e'=bare e∧ts.length+1≤k+(tkE e).length:=by
 have hterm:∀e,WfE us e→e.sum=false→nd e<m+1→∀(s:PS) (rest:List Ky),s.ok=true→(nd e:Int)+s.pa≤12→At ts s.i (tkE e++rest)→(NoOp rest∨∃o r,rest=mrk o :: r∧(o=m_plus∨o=m_minus))→∃k e',exprG ts ex s=exprLoop ts ex k e' (adv s (tkE e).length)∧bare e'=bare e∧ts.length+1≤k+(tkE e).length:=by
  intro e h h1 hn s rest ho hp hA hr;obtain⟨e',e1,e2⟩:=zh3 hx h false h1.symm (by simpa using hn) s rest ho (by simpa using hp) hA hr;exact⟨ts.length+1,e',by unfold exprG;rw[e1];rfl,e2,by omega⟩
 induction h with
 | number i a h=>intro hn s rest ho hp hA hr;exact hterm _ (.number i a h) (by simp[Ex.sum,Ex.op]) hn s rest ho hp hA hr
 | name i a h=>intro hn s rest ho hp hA hr;exact hterm _ (.name i a h) (by simp[Ex.sum,Ex.op]) hn s rest ho hp hA hr
 | text i a h=>intro hn s rest ho hp hA hr;exact hterm _ (.text i a h) (by simp[Ex.sum,Ex.op]) hn s rest ho hp hA hr
 | join a args h0 hl hi=>intro hn s rest ho hp hA hr;exact hterm _ (.join a args h0 hl hi) (by simp[Ex.sum,Ex.op]) hn s rest ho hp hA hr
 | two o a x y ho' hx' hy ihx ihy =>
  intro hn s rest ho hp hA hr
  by_cases hs:o=m_star
  · subst hs
    exact hterm _ (.two _ a x y ho' hx' hy) (by simp[Ex.sum,Ex.op]) hn s rest ho hp hA hr
  have hpm:o=m_plus∨o=m_minus:=by
   rcases ho' with h|h|h
   · exact .inl h
   · exact .inr h
   · exact absurd h hs
  rw[zio (by rcases hpm with rfl|rfl <;> decide)]at hn hp;rw[zg8 ho']at hA ⊢;simp only[decide_eq_false hs,Bool.false_and,Bool.or_false,Bool.false_eq_true,if_false,Nat.add_zero]at hn hp hA ⊢;have hA':At ts s.i (tkE x++mrk o :: (parK y.sum (tkE y)++rest)):=by simpa[parK] using hA
  obtain⟨k,x',e1,e2,e3⟩:=ihx om s _ ho om hA' (.inr ⟨o,_,rfl,hpm⟩);have hA2:=At.right hA'
  have hl2:s.i+(tkE x).length+1≤ts.length:=by
   rcases At.len hA' with h|h
   · simp at h
   · rw[la9,List.length_cons]at h;omega
  obtain⟨k,rfl⟩:∃k',k=k'+1:=⟨k-1,by omega⟩
  obtain⟨y',f1,f2⟩:=zh3 hx hy y.sum rfl om (adv (adv s (tkE x).length) 1) rest ho (by
   show(nd y:Int)+(if y.sum=true then 1 else 0)+s.pa≤12
   have h9:((nd y+(if y.sum=true then 1 else 0):Nat):Int)=(nd y:Int)+(if y.sum=true then 1 else 0):=by split <;> simp
   rw[←h9]
   omega) hA2.2 hr
  refine⟨k,.mk o 0 zs x'.at_ [x',y'],?_,?_,?_⟩
  · rw[e1,exprLoop,zas (s:=adv s (tkE x).length) ho hA2,if_pos (by rcases hpm with rfl|rfl <;> decide),zbe,f1,zc1 hA2]
    dsimp only;rw[show bytesOf (mrk o).2.1=o from zbg o,zai,zai]
    congr 2
    simp only[parK,List.length_append,List.length_cons,Bool.false_eq_true,if_false];omega
  · rw[bare,bare,bareL,bareL,bareL,bareL,bareL,bareL,e2,f2]
  · simp only[parK,List.length_append,List.length_cons,Bool.false_eq_true,if_false]
    omega
theorem zhh:∀m:Nat,PX ts us (exprP ts m) m
 | 0=>fun e _ h=>absurd h om
 | m+1=>fun e he hn s rest ho hp hA hr=>by
  obtain⟨k,e',e1,e2,_⟩:=zrh (zhh m) he hn s rest ho hp hA (.inl hr);refine⟨e',?_,e2⟩
  show exprG ts (exprP ts m) s=_
  rw[e1]
  cases k with
  | zero=>rfl
  | succ k =>
   obtain⟨a,l,rfl,_,h2⟩:=hr;rw[exprLoop,zas (s:=adv s (tkE e).length) ho (At.right hA),h2,if_neg (nf (by first|rfl|decide))]
end
end
section
open Lx (Sep NameOk TkP)
def optK(w:ByteArray)(r:Rf):List Ky:=if r.name=zs then [] else [kw w,nam r.name]
def rsK(l:List Rf):List Ky:=sepK (mrk m_comma) (l.map fun r=>[nam r.name])
def lineK(kind:ByteArray)(name:Rf)(a b c:Ex)(routes:List Rf)(block tag:Rf):List Ky :=
 if kind=k_send then tkE a++kw k_via :: (rsK routes++(optK k_with block++optK k_as tag))
 else if kind=k_split then tkE a++kw k_via :: (rsK routes++optK k_as tag)
 else if kind=k_cover then rsK routes
 else if kind=k_wait then tkE a
 else if kind=k_block then nam name.name :: kw k_via :: rsK routes
 else if kind=k_retry then tkE a++kw k_every :: (tkE b++kw k_send :: (tkE c++kw k_via :: (rsK routes++optK k_as tag)))
 else if kind=k_every then tkE a++kw k_times :: (tkE b++kw k_cover :: rsK routes)
 else []
def bodyK(l:List Ky):List Ky:=mrk m_lbr :: (l++[mrk m_rbr])
mutual
def tkSt:St→List Ky
 | .mk kind _ name a b c routes block tag body els =>
  kw kind :: (if kind=k_after then tkE a++bodyK (tkSs body)
  else if kind=k_repeat then nam name.name :: (tkE a++bodyK (tkSs body))
  else if kind=k_if then kw k_acked :: nam tag.name :: (bodyK (tkSs body)++(if els.isEmpty then [] else kw k_else :: bodyK (tkSs els)))
  else lineK kind name a b c routes block tag++[mrk m_semi])
def tkSs:List St→List Ky
 | []=>[]
 | s :: l=>tkSt s++tkSs l
end
def atK(T:ByteArray)(e:Ex):List Ky:=if e.op=zs then [] else mrk T :: parK (!(decide (e.op=k_number)|| decide (e.op=k_name))) (tkE e)
def tkPl(p:Pl):List Ky:=nam p.node.name :: (atK m_at p.delay++atK m_ex p.flags)
def tkDc(d:Dc):List Ky :=
 if d.kind=k_let then kw k_let :: nam d.name.name :: mrk m_eq :: (tkE d.value++[mrk m_semi])
 else kw k_route :: nam d.name.name :: mrk m_eq :: (sepK (mrk m_gt) (d.places.map tkPl)++[mrk m_semi])
def tkTop(t:Sr):List Ky:=t.decls.flatMap tkDc++tkSs t.body
theorem pz_w(c:UInt8)(r:List UInt8)(h:(Lx.letter c && r.all Lx.alnum && decide ((c :: r).length≤16) && Lx.reserved (c :: r) && !Lx.blank c && !(c == 35))=true):Pz false (c :: (r++[32])) [(2,c :: r,0)]:=(Pz.word c r h).cut (l2:=[]) (Pz.blank (by decide)) (by decide)
theorem pz_bw(c:UInt8)(r:List UInt8)(h:(Lx.letter c && r.all Lx.alnum && decide ((c :: r).length≤16) && Lx.reserved (c :: r) && !Lx.blank c && !(c == 35))=true):Pz false (32 :: (c :: (r++[32]))) [(2,c :: r,0)]:=Pz.cat (l1:=[32]) (Pz.blank (by decide)) (pz_w c r h)
theorem pz_bm(c:UInt8)(h:(Lx.mark c && !Lx.letter c && !Lx.digit c && !(c == 34) && !Lx.blank c && !(c == 35))=true):Pz false [32,c,32] [(5,[c],0)]:=Pz.cat (l1:=[32]) (Pz.blank (by decide)) (Pz.cat (l1:=[c]) (Pz.mark h) (Pz.blank (by decide)))
theorem zcc:Pz false [59,10] [mrk m_semi]:=Pz.cat (l1:=[59]) (Pz.mark (by decide)) (l2:=[10]) (Pz.blank (by decide))
theorem zic:Pz false t_via [kw k_via]:=pz_bw 118 [105,97] (by decide)
theorem zqi:Pz false t_with [kw k_with]:=pz_bw 119 [105,116,104] (by decide)
theorem pz_as:Pz false t_as [kw k_as]:=pz_bw 97 [115] (by decide)
theorem zqk:Pz false [115,101,110,100,32] [kw k_send]:=pz_w 115 [101,110,100] (by decide)
theorem zn7:Pz false [32,115,101,110,100,32] [kw k_send]:=pz_bw 115 [101,110,100] (by decide)
theorem zn2:Pz false [115,112,108,105,116,32] [kw k_split]:=pz_w 115 [112,108,105,116] (by decide)
theorem zn6:Pz false [99,111,118,101,114,32] [kw k_cover]:=pz_w 99 [111,118,101,114] (by decide)
theorem zk6:Pz false [32,99,111,118,101,114,32] [kw k_cover]:=pz_bw 99 [111,118,101,114] (by decide)
theorem zqj:Pz false [119,97,105,116,32] [kw k_wait]:=pz_w 119 [97,105,116] (by decide)
theorem zn8:Pz false [98,108,111,99,107,32] [kw k_block]:=pz_w 98 [108,111,99,107] (by decide)
theorem zn4:Pz false [114,101,116,114,121,32] [kw k_retry]:=pz_w 114 [101,116,114,121] (by decide)
theorem zn5:Pz false [101,118,101,114,121,32] [kw k_every]:=pz_w 101 [118,101,114,121] (by decide)
theorem zk5:Pz false [32,101,118,101,114,121,32] [kw k_every]:=pz_bw 101 [118,101,114,121] (by decide)
theorem zn9:Pz false [97,102,116,101,114,32] [kw k_after]:=pz_w 97 [102,116,101,114] (by decide)
theorem zk3:Pz false [114,101,112,101,97,116,32] [kw k_repeat]:=pz_w 114 [101,112,101,97,116] (by decide)
theorem pz_if:Pz false [105,102,32] [kw k_if]:=pz_w 105 [102] (by decide)
theorem zoa:Pz false [97,99,107,101,100,32] [kw k_acked]:=pz_w 97 [99,107,101,100] (by decide)
theorem pz_let:Pz false [108,101,116,32] [kw k_let]:=pz_w 108 [101,116] (by decide)
theorem zn3:Pz false [114,111,117,116,101,32] [kw k_route]:=pz_w 114 [111,117,116,101] (by decide)
theorem zk4:Pz false [32,116,105,109,101,115,32] [kw k_times]:=pz_bw 116 [105,109,101,115] (by decide)
theorem zql:Pz true [101,108,115,101] [kw k_else]:=Pz.word 101 [108,115,101] (by decide)
theorem zel{w:List UInt8}{r:Rf}{x:List UInt8}(hx:Sep x):Sep (nmd (32 :: w) r++x):=by
 unfold nmd
 split
 · exact hx
 · exact Sep.cons (by decide)
section
variable{us:List Lx.Tok}(HP:∀i,TkP (tokAt us i))
include HP
theorem nm_ok{t:ByteArray}(h:NmOk us t):NameOk (tx t):=by
 obtain⟨i,h1,rfl⟩:=h;rw[zdz];exact(HP i).2 h1
theorem pz_nm{t:ByteArray}(h:NmOk us t):Pz true (tx t) [nam t]:=Pz.name (nm_ok HP h)
theorem zid{w:List UInt8}{T:ByteArray}(hw:Pz false (32 :: w) [kw T]){r:Rf}(h:OptN us r):Pz true (nmd (32 :: w) r) (optK T r):=by
 unfold nmd optK
 split
 · exact Pz.nil.up
 · rename_i h0
   rcases h with rfl|h
   · exact absurd rfl h0
   · exact hw.cat (pz_nm HP h)
theorem pz_rs{l:List Rf}(h0:l≠[])(h:∀r∈l,NmOk us r.name):Pz true (prR l) (rsK l):=Pz.sep zpd (by decide) (fun r:Rf=>tx r.name) (fun r=>[nam r.name]) l h0 (fun r hr=>pz_nm HP (h r hr))
omit HP in
theorem Pz.body{p:List UInt8}{ks:List Ky}(h:Pz false p ks)(d:Nat):Pz false (prBody d p) (bodyK ks):=by
 have h1:Pz false [32,123,10] [mrk m_lbr]:=Pz.cat (l1:=[32]) (Pz.blank (by decide)) (Pz.cat (l1:=[123]) (Pz.mark (by decide)) (l2:=[10]) (Pz.blank (by decide)));have h2:Pz false [125] [mrk m_rbr]:=Pz.mark (by decide);have h3:=h1.cat (h.cat ((Pz.blanks (2*d)).cat h2))
 unfold prBody bodyK ind
 simpa[List.append_assoc] using h3
omit HP in
theorem pz_Ss{d:Nat}: ∀ {l:List St},(∀s∈l,Pz false (prSt s d) (tkSt s))→Pz false (prSs l d) (tkSs l)
 | [],_=>by rw[prSs,tkSs];exact Pz.nil
 | s :: l,h=>by
  have h1:=Pz.cat (Pz.blanks (2*d)) (Pz.cat (h s sy) (pz_Ss (l:=l) fun x hx=>h x (by simp[hx])));rw[prSs,tkSs]
  unfold ind
  simpa[List.append_assoc] using h1
omit HP in
theorem zcr{kind:ByteArray}{at_:Int}{name:Rf}{a b c:Ex}{routes:List Rf}{block tag:Rf}{body els:List St}{d:Nat}(h1:¬kind=k_after)(h2:¬kind=k_repeat)(h3:¬kind=k_if):prSt (.mk kind at_ name a b c routes block tag body els) d=prLine kind name a b c routes block tag++[59,10]∧tkSt (.mk kind at_ name a b c routes block tag body els)=kw kind :: (lineK kind name a b c routes block tag++[mrk m_semi]):=by
 rw[prSt,tkSt,if_neg h1,if_neg h2,if_neg h3,if_neg h1,if_neg h2,if_neg h3]
 simp
theorem pz_St{x:St}(h:WfS us x):∀d,Pz false (prSt x d) (tkSt x):=by
 induction h with
 | send at_ a r b t h1 h2 h3 h4 =>
  intro d;obtain⟨e1,e2⟩:=zcr (kind:=k_send) (at_:=at_) (name:=zR) (a:=a) (b:=zE) (c:=zE) (routes:=[r]) (block:=b) (tag:=t) (body:=[]) (els:=[]) (d:=d) (by decide) (by decide) (by decide);rw[e1,e2];have w:=zqk.cat ((pz_E HP h1.1).cut (zic.cat ((pz_rs HP (l:=[r]) sy (by simpa using h2)).app ((zid HP zqi h3).app ((zid HP pz_as h4).app zcc (fun _ _ _=>Sep.cons (by decide))) (fun _ x _=>by rw[as9];exact zel (Sep.cons (by decide)))) (fun _ x _=>by rw[as9,as9];exact zel (zel (Sep.cons (by decide)))))) (by decide))
  unfold prLine lineK
  rw[if_pos rfl,if_pos rfl]
  simpa[List.append_assoc] using w
 | split at_ a rs t h1 h0 hl h2 h4 =>
  intro d;obtain⟨e1,e2⟩:=zcr (kind:=k_split) (at_:=at_) (name:=zR) (a:=a) (b:=zE) (c:=zE) (routes:=rs) (block:=zR) (tag:=t) (body:=[]) (els:=[]) (d:=d) (by decide) (by decide) (by decide);rw[e1,e2];have w:=zn2.cat ((pz_E HP h1.1).cut (zic.cat ((pz_rs HP h0 h2).app ((zid HP pz_as h4).app zcc (fun _ _ _=>Sep.cons (by decide))) (fun _ x _=>by rw[as9];exact zel (Sep.cons (by decide))))) (by decide))
  unfold prLine lineK
  rw[if_neg (by decide),if_pos rfl,if_neg (by decide),if_pos rfl]
  simpa[List.append_assoc] using w
 | cover at_ r h2 =>
  intro d;obtain⟨e1,e2⟩:=zcr (kind:=k_cover) (at_:=at_) (name:=zR) (a:=zE) (b:=zE) (c:=zE) (routes:=[r]) (block:=zR) (tag:=zR) (body:=[]) (els:=[]) (d:=d) (by decide) (by decide) (by decide);rw[e1,e2];have w:=zn6.cat ((pz_rs HP (l:=[r]) sy (by simpa using h2)).cut zcc (by decide))
  unfold prLine lineK
  rw[if_neg (by decide),if_neg (by decide),if_pos rfl,if_neg (by decide),if_neg (by decide),if_pos rfl]
  simpa[List.append_assoc] using w
 | wait at_ a h1 =>
  intro d;obtain⟨e1,e2⟩:=zcr (kind:=k_wait) (at_:=at_) (name:=zR) (a:=a) (b:=zE) (c:=zE) (routes:=[]) (block:=zR) (tag:=zR) (body:=[]) (els:=[]) (d:=d) (by decide) (by decide) (by decide);rw[e1,e2];have w:=zqj.cat ((pz_E HP h1.1).cut zcc (by decide))
  unfold prLine lineK
  rw[if_neg (by decide),if_neg (by decide),if_neg (by decide),if_pos rfl,if_neg (by decide),if_neg (by decide),if_neg (by decide),if_pos rfl]
  simpa[List.append_assoc] using w
 | block at_ n r h1 h2 =>
  intro d;obtain⟨e1,e2⟩:=zcr (kind:=k_block) (at_:=at_) (name:=n) (a:=zE) (b:=zE) (c:=zE) (routes:=[r]) (block:=zR) (tag:=zR) (body:=[]) (els:=[]) (d:=d) (by decide) (by decide) (by decide);rw[e1,e2];have w:=zn8.cat ((pz_nm HP h1).cut (zic.cat ((pz_rs HP (l:=[r]) sy (by simpa using h2)).cut zcc (by decide))) (by decide))
  unfold prLine lineK
  rw[if_neg (by decide),if_neg (by decide),if_neg (by decide),if_neg (by decide),if_pos rfl,if_neg (by decide),if_neg (by decide),if_neg (by decide),if_neg (by decide),if_pos rfl]
  simpa[List.append_assoc] using w
 | retry at_ a b c r t h1 h2 h3 h4 h5 =>
  intro d;obtain⟨e1,e2⟩:=zcr (kind:=k_retry) (at_:=at_) (name:=zR) (a:=a) (b:=b) (c:=c) (routes:=[r]) (block:=zR) (tag:=t) (body:=[]) (els:=[]) (d:=d) (by decide) (by decide) (by decide);rw[e1,e2];have w:=zn4.cat ((pz_E HP h1.1).cut (zk5.cat ((pz_E HP h2.1).cut (zn7.cat ((pz_E HP h3.1).cut (zic.cat ((pz_rs HP (l:=[r]) sy (by simpa using h4)).app ((zid HP pz_as h5).app zcc (fun _ _ _=>Sep.cons (by decide))) (fun _ x _=>by rw[as9];exact zel (Sep.cons (by decide))))) (by decide))) (by decide))) (by decide))
  unfold prLine lineK
  rw[if_neg (by decide),if_neg (by decide),if_neg (by decide),if_neg (by decide),if_neg (by decide),if_pos rfl,if_neg (by decide),if_neg (by decide),if_neg (by decide),if_neg (by decide),if_neg (by decide),if_pos rfl]
  simpa[List.append_assoc] using w
 | every at_ a b r h1 h2 h4 =>
  intro d;obtain⟨e1,e2⟩:=zcr (kind:=k_every) (at_:=at_) (name:=zR) (a:=a) (b:=b) (c:=zE) (routes:=[r]) (block:=zR) (tag:=zR) (body:=[]) (els:=[]) (d:=d) (by decide) (by decide) (by decide);rw[e1,e2];have w:=zn5.cat ((pz_E HP h1.1).cut (zk4.cat ((pz_E HP h2.1).cut (zk6.cat ((pz_rs HP (l:=[r]) sy (by simpa using h4)).cut zcc (by decide))) (by decide))) (by decide))
  unfold prLine lineK
  rw[if_neg (by decide),if_neg (by decide),if_neg (by decide),if_neg (by decide),if_neg (by decide),if_neg (by decide),if_pos rfl,if_neg (by decide),if_neg (by decide),if_neg (by decide),if_neg (by decide),if_neg (by decide),if_neg (by decide),if_pos rfl]
  simpa[List.append_assoc] using w
 | after at_ a y h1 hl hy ih =>
  intro d;have w:=zn9.cat ((pz_E HP h1.1).cut (((pz_Ss fun s hs=>ih s hs (d+1)).body d).cat (Pz.blank (c:=10) (by decide))) (by decide));rw[prSt,tkSt,if_pos rfl,if_pos rfl]
  simpa[List.append_assoc,prBody] using w
 | repeat_ at_ n a y h1 h2 hl hy ih =>
  intro d;have w:=zk3.cat ((pz_nm HP h1).cut (Pz.cat (l1:=[32]) (Pz.blank (by decide)) ((pz_E HP h2.1).cut (((pz_Ss fun s hs=>ih s hs (d+1)).body d).cat (Pz.blank (c:=10) (by decide))) (by decide))) (by decide));rw[prSt,tkSt,if_neg (by decide),if_pos rfl,if_neg (by decide),if_pos rfl]
  simpa[List.append_assoc,prBody] using w
 | if_ at_ t y z h1 hl hm hy hz ihy ihz =>
  intro d;have hb:=(pz_Ss fun s hs=>ihy s hs (d+1)).body d;have he:=(pz_Ss fun s hs=>ihz s hs (d+1)).body d;have hd:=pz_if.cat zoa;have e1:prSt (.mk k_if at_ zR zE zE zE [] zR t y z) d=[105,102,32,97,99,107,101,100,32]++tx t.name++prBody d (prSs y (d+1))++(if z.isEmpty then [] else [32,101,108,115,101]++prBody d (prSs z (d+1)))++[10]:=by rw[prSt,if_neg (by decide),if_neg (by decide),if_pos rfl]
  have e2:tkSt (.mk k_if at_ zR zE zE zE [] zR t y z)=kw k_if :: kw k_acked :: nam t.name :: (bodyK (tkSs y)++(if z.isEmpty then [] else kw k_else :: bodyK (tkSs z))):=by rw[tkSt,if_neg (by decide),if_neg (by decide),if_pos rfl]
  rw[e1,e2]
  cases hz0:z.isEmpty with
  | true =>
   have w:=hd.cat ((pz_nm HP h1).cut (hb.cat (Pz.blank (c:=10) (by decide))) (by decide));rw[if_pos rfl,if_pos rfl]
   simpa[List.append_assoc,prBody] using w
  | false =>
   have w:=hd.cat ((pz_nm HP h1).cut (hb.cat (Pz.cat (l1:=[32]) (Pz.blank (by decide)) (zql.cut (he.cat (Pz.blank (c:=10) (by decide))) (by decide)))) (by decide));rw[if_neg (by decide),if_neg (by decide)]
   simpa[List.append_assoc,prBody] using w
theorem pz_at{c:UInt8}{T:ByteArray}(hT:Pz false [c] [mrk T]){e:Ex}(h:OptE us e):Pz true (prAt c e) (atK T e):=by
 unfold prAt atK
 split
 · exact Pz.nil.up
 · rename_i h0
   rcases h with rfl|h
   · exact absurd rfl h0
   · exact hT.cat ((pz_E HP h.1).par _)
omit HP in
theorem zkl{c:UInt8}(hc:Lx.alnum c=false){e:Ex}{x:List UInt8}(hx:Sep x):Sep (prAt c e++x):=by
 unfold prAt
 split
 · exact hx
 · exact Sep.cons hc
theorem pz_Pl{p:Pl}(h:WfP us p):Pz true (prPl p) (tkPl p):=by
 have w:=(pz_nm HP h.1).app ((pz_at HP (c:=64) (T:=m_at) (Pz.mark (by decide)) h.2.1).app (pz_at HP (c:=33) (T:=m_ex) (Pz.mark (by decide)) h.2.2) (fun _ x hx=>zkl (by decide) (hx rfl))) (fun _ x hx=>by rw[as9];exact zkl (by decide) (zkl (by decide) (hx rfl)))
 unfold prPl tkPl
 simpa[List.append_assoc] using w
theorem pz_Dc{d:Dc}(h:WfD us d):Pz false (prDc d) (tkDc d):=by
 obtain⟨kind,name,value,places⟩:=d;have heq:Pz false [32,61,32] [mrk m_eq]:=pz_bm 61 (by decide);have hgt:Pz false [32,62,32] [mrk m_gt]:=pz_bm 62 (by decide)
 rcases h with ⟨h1,⟨h2,h3,_⟩|⟨h2,_,h4,_,h5⟩⟩
 · dsimp only at h1 h2 h3
   subst h2;have w:=pz_let.cat ((pz_nm HP h1).cut (heq.cat ((pz_E HP h3.1).cut zcc (by decide))) (by decide))
   unfold prDc tkDc
   rw[if_pos rfl,if_pos rfl]
   simpa[List.append_assoc] using w
 · dsimp only at h1 h2 h4 h5
   subst h2;have w:=zn3.cat ((pz_nm HP h1).cut (heq.cat ((Pz.sep hgt (by decide) prPl tkPl places h4 (fun p hp=>pz_Pl HP (h5 p hp))).cut zcc (by decide))) (by decide))
   unfold prDc tkDc
   dsimp only;rw[if_neg (by decide),if_pos rfl,if_neg (by decide)]
   simpa[List.append_assoc] using w
theorem pz_Top{t:Sr}(hd:∀d∈t.decls,WfD us d)(hb:∀x∈t.body,WfS us x):Pz false (prTop t) (tkTop t):=by
 have h1:∀l:List Dc,(∀d∈l,WfD us d)→Pz false (l.flatMap prDc) (l.flatMap tkDc):=by
  intro l
  induction l with
  | nil=>intro _;exact Pz.nil
  | cons d l ih =>
   intro h;rw[List.flatMap_cons,List.flatMap_cons];exact(pz_Dc HP (h d sy)).cat (ih fun x hx=>h x (by simp[hx]))
 exact(h1 _ hd).cat (pz_Ss fun s hs=>pz_St HP (hb s hs) 0)
theorem zna{t:Sr}(hd:∀d∈t.decls,WfD us d)(hb:∀x∈t.body,WfS us x)(hl:(prTop t).length≤8000):∃ts,Lx.scan (prTop t)=((0,0),ts)∧ts.map Lx.key=tkTop t++[(6,[],0)]:=by
 obtain⟨vs,e1,e2⟩:=pz_Top HP hd hb (prTop t).length (prTop t).length [] [] (fun h=>by cases h);rw[List.append_nil,List.nil_append]at e1;refine⟨vs++[⟨6,[],0,(prTop t).length⟩],?_,by rw[List.map_append,e2];rfl⟩
 unfold Lx.scan
 rw[if_neg om,Lx.scan_fuel _ _ _ _ (Nat.lt_succ_self _) ((prTop t).length+1+(tkTop t).length) om,e1,Lx.scan_end]
end
end
end Go.Proofs.YtafjkbbiaopemaaGreatDoor.Tr
