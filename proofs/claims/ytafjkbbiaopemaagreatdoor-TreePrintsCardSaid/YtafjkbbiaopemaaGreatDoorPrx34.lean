/- Part of the proof. -/
import Derived.Test.YtafjkbbiaopemaaGreatDoorPrx31
set_option linter.all false
set_option maxRecDepth 100000
set_option maxHeartbeats 0
namespace Go.Proofs.YtafjkbbiaopemaaGreatDoor.Tr
open Go.RowKit
section
open Lx (Sep NameOk TkP)
def bareR(r:Rf):Rf:=⟨r.name,0⟩
mutual
def bareS:St→St
 | .mk kind _ name a b c routes block tag body els=>.mk kind 0 (bareR name) (bare a) (bare b) (bare c) (routes.map bareR) (bareR block) (bareR tag) (bareSs body) (bareSs els)
def bareSs:List St→List St
 | []=>[]
 | s :: l=>bareS s :: bareSs l
end
theorem zau:∀l:List St,bareSs l=l.map bareS
 | []=>by rw[bareSs];rfl
 | e :: es=>by rw[bareSs,zau es];rfl
def bareP(p:Pl):Pl:=⟨bareR p.node,bare p.delay,bare p.flags⟩
def bareD(d:Dc):Dc:=⟨d.kind,bareR d.name,bare d.value,d.places.map bareP⟩
def bareT(t:Sr):Sr:=⟨t.decls.map bareD,t.body.map bareS⟩
theorem za5{s:PS}{a b:Nat}(h:a=b):adv s a=adv s b:=by rw[h]
def Hd(L:List ByteArray)(r:List Ky):Prop:=∃k l,r=k :: l∧isK k L=false
theorem Hd.mk{L:List ByteArray}{k:Ky}{l:List Ky}(h:isK k L=false):Hd L (k :: l):=⟨k,l,rfl,h⟩
section
variable{ts us:List Lx.Tok}
theorem ze1{L:List ByteArray}{s:PS}{r:List Ky}(ho:s.ok=true)(hA:At ts s.i r)(h:Hd L r):sees ts L s=false:=by
 obtain⟨k,l,rfl,h⟩:=h;rw[zas ho hA,h]
theorem zpo{L:List ByteArray}{W:ByteArray}{r:Rf}{R:List Ky}(h1:isK (kw W) L=false)(h2:Hd L R):Hd L (optK W r++R):=by
 unfold optK
 split
 · exact h2
 · exact Hd.mk h1
theorem EX_at{e:Ex}(h:WE us e)(s:PS)(rest:List Ky)(ho:s.ok=true)(hp:s.pa=0)(hA:At ts s.i (tkE e++rest))(hr:NoOp rest):∃e',exprP ts 14 s=(e',adv s (tkE e).length)∧bare e'=bare e:=zhh 14 e h.1 (by have:=h.2;omega) s rest ho (by have:=h.2;omega) hA hr
theorem zcp{t:Rf}{s:PS}{r:List Ky}(ho:s.ok=true)(h:At ts s.i (nam t.name :: r)):∃t',refP ts s=(t',adv s 1)∧bareR t'=bareR t:=by
 obtain⟨a,e⟩:=at_ref ho h;exact⟨_,e,rfl⟩
theorem zil{T:ByteArray}{r:Rf}{s:PS}{rest:List Ky}(ho:s.ok=true)(hA:At ts s.i (optK T r++rest))(hh:Hd [T] rest):∃r',(if sees ts [T] s then refP ts (nxt s) else (zR,s))=(r',adv s (optK T r).length)∧bareR r'=bareR r:=by
 unfold optK at hA ⊢
 split at hA
 · rename_i h0
   rw[if_pos h0,ze1 ho hA hh,if_neg (by decide)];exact⟨zR,rfl,by unfold bareR;rw[h0];rfl⟩
 · rename_i h0
   rw[if_neg h0,zas ho hA,if_pos (zez T)];exact zcp ho hA.2
theorem zk0:∀(rs:List Rf) (k:Nat) (acc:List Rf) (s:PS) (rest:List Ky),s.ok=true→rs.length≤k→At ts s.i (moreK (mrk m_comma) (rs.map fun r=>[nam r.name])++rest)→Hd [m_comma] rest→∃l',refLoop ts k acc s=(acc++l',adv s (moreK (mrk m_comma) (rs.map fun r=>[nam r.name])).length)∧l'.map bareR=rs.map bareR
 | [],k,acc,s,rest,ho,_,hA,hh=>by
  refine⟨[],?_,rfl⟩
  cases k with
  | zero=>rw[refLoop];simp[moreK,adv]
  | succ k =>
   rw[refLoop,ze1 ho hA hh,if_neg (by decide)]
   simp[moreK,adv]
 | r :: rs,k,acc,s,rest,ho,hk,hA,hh=>by
  obtain⟨k,rfl⟩:∃k',k=k'+1:=⟨k-1,by simp at hk;omega⟩;have hA':At ts s.i (mrk m_comma :: nam r.name :: (moreK (mrk m_comma) (rs.map fun r=>[nam r.name])++rest)):=by simpa[moreK] using hA
  obtain⟨r',e1,e2⟩:=zcp (s:=adv s 1) ho hA'.2;obtain⟨l',e3,e4⟩:=zk0 rs k (acc++[r']) (adv (adv s 1) 1) rest ho (by simp at hk;omega) hA'.2.2 hh;refine⟨r' :: l',?_,by rw[List.map_cons,List.map_cons,e2,e4]⟩;rw[refLoop,zas ho hA',if_pos (by first|rfl|decide),zbe,e1];dsimp only;rw[e3,zai,zai,as9];exact Prod.ext rfl (za5 (by simp[moreK];omega))
theorem zh0{rs:List Rf}(many:Bool)(h0:rs≠[])(hm:many=false→∃r,rs=[r]){s:PS}{rest:List Ky}(ho:s.ok=true)(hA:At ts s.i (kw k_via :: (rsK rs++rest)))(hh:many=true→Hd [m_comma] rest):∃l',viaP ts many s=(l',adv s (1+(rsK rs).length))∧l'.map bareR=rs.map bareR:=by
 obtain⟨r,rs,rfl⟩:∃r l,rs=r :: l:=by
  cases rs with
  | nil=>exact absurd rfl h0
  | cons r l=>exact⟨r,l,rfl⟩
 have hA':At ts s.i (kw k_via :: nam r.name :: (moreK (mrk m_comma) (rs.map fun r=>[nam r.name])++rest)):=by simpa[rsK,sepK] using hA
 have e0:=zbi (T:=k_via) ho hA' (zez _);obtain⟨r',e1,e2⟩:=zcp (s:=adv s 1) ho hA'.2
 unfold viaP
 rw[e0,e1];dsimp only
 cases many with
 | false =>
  obtain⟨q,hq⟩:=hm rfl
  injection hq with _ hq
  subst hq;refine⟨[r'],?_,by simp[e2]⟩;rw[if_neg (by decide),zai];exact Prod.ext rfl (za5 (by simp[rsK,sepK,moreK]))
 | true =>
  have hl:rs.length≤ts.length+1:=by
   have h1:=zev (mrk m_comma) (rs.map fun r=>[nam r.name])
   rcases At.len hA' with h2|h2
   · simp at h2
   · simp only[List.length_append,List.length_map,List.length_cons]at *
     omega
  obtain⟨l',e3,e4⟩:=zk0 rs (ts.length+1) [r'] (adv (adv s 1) 1) rest ho hl hA'.2.2 (hh rfl);refine⟨[r']++l',?_,by simp[e2,e4]⟩;rw[if_pos rfl,e3,zai,zai];exact Prod.ext rfl (za5 (by simp[rsK,sepK];omega))
def PT(ts us:List Lx.Tok)(st:PS→St × PS)(m:Nat):Prop:=∀x,WfS us x→bd x<m→∀(s:PS) (rest:List Ky),s.ok=true→s.pa=0→(bd x:Int)+s.bo≤12→At ts s.i (tkSt x++rest)→Hd [k_else] rest→∃x',st s=(x',adv s (tkSt x).length)∧bareS x'=bareS x
variable{st:PS→St × PS}{m:Nat}
theorem zly{T:ByteArray}{L:List ByteArray}(h:T∈L):isK (kw T) L=true:=by
 unfold isK kw
 simp only[zbg];rw[zbh.2 h];rfl
theorem zba{T:ByteArray}(h:bmem T ten=true):T∈ten:=zbh.1 h
theorem zfm{L:List ByteArray}(h:(ten.all fun T=>!isK (kw T) L)=true):∀T∈ten,isK (kw T) L=false:=fun T hT=>by simpa using List.all_eq_true.1 h T hT
theorem zfp{x:St}(h:WfS us x):∃T r,tkSt x=kw T :: r∧T∈ten:=by
 cases h with
 | send=>exact⟨_,_,by rw[tkSt],zba (by decide)⟩
 | split=>exact⟨_,_,by rw[tkSt],zba (by decide)⟩
 | cover=>exact⟨_,_,by rw[tkSt],zba (by decide)⟩
 | wait=>exact⟨_,_,by rw[tkSt],zba (by decide)⟩
 | block=>exact⟨_,_,by rw[tkSt],zba (by decide)⟩
 | retry=>exact⟨_,_,by rw[tkSt],zba (by decide)⟩
 | every=>exact⟨_,_,by rw[tkSt],zba (by decide)⟩
 | after=>exact⟨_,_,by rw[tkSt],zba (by decide)⟩
 | repeat_=>exact⟨_,_,by rw[tkSt],zba (by decide)⟩
 | if_=>exact⟨_,_,by rw[tkSt],zba (by decide)⟩
theorem zhb{L:List ByteArray}(hT:∀T∈ten,isK (kw T) L=false){l:List St}(hl:∀x∈l,WfS us x){R:List Ky}(hR:Hd L R):Hd L (tkSs l++R):=by
 cases l with
 | nil=>rw[tkSs];exact hR
 | cons x l =>
  obtain⟨T,r,e,h⟩:=zfp (hl x sy);rw[tkSs,e];exact Hd.mk (hT T h)
theorem zpa{l:List St}(hl:∀x∈l,WfS us x):l.length≤(tkSs l).length:=by
 induction l with
 | nil=>simp
 | cons x l ih =>
  obtain⟨T,r,e,_⟩:=zfp (hl x sy);rw[tkSs,e];have:=ih fun y hy=>hl y (by simp[hy])
  simp only[List.length_cons,List.length_append];omega
theorem zi3(hs:PT ts us st m):∀(l:List St) (k:Nat) (acc:List St) (s:PS) (rest:List Ky),s.ok=true→s.pa=0→(∀x∈l,WfS us x∧bd x<m∧(bd x:Int)+s.bo≤12)→l.length≤k→At ts s.i (tkSs l++mrk m_rbr :: rest)→∃l',bodyLoop ts st k acc s=(acc++l',adv s (tkSs l).length)∧l'.map bareS=l.map bareS
 | [],k,acc,s,rest,ho,_,_,_,hA=>by
  rw[tkSs]at hA ⊢;refine⟨[],?_,rfl⟩
  cases k with
  | zero=>rw[bodyLoop];simp[adv]
  | succ k =>
   rw[bodyLoop,zas ho hA,if_neg (by rw[ho];decide)]
   simp[adv]
 | x :: l,k,acc,s,rest,ho,hp,hl,hk,hA=>by
  obtain⟨k,rfl⟩:∃k',k=k'+1:=⟨k-1,by simp at hk;omega⟩;obtain⟨w1,w2,w3⟩:=hl x sy;rw[tkSs,as9]at hA;obtain⟨T,r,eT,hT⟩:=zfp w1
  have hse:sees ts [m_rbr] s=false:=by
   have hA':=hA;rw[eT]at hA';rw[zas ho hA'];exact zfm (by decide) T hT
  obtain⟨x',e1,e2⟩:=hs x w1 w2 s _ ho hp w3 hA (zhb (zfm (by decide)) (fun y hy=>(hl y (by simp[hy])).1) (Hd.mk (by decide)));obtain⟨l',e3,e4⟩:=zi3 hs l k (acc++[x']) (adv s (tkSt x).length) rest ho hp (fun y hy=>hl y (by simp[hy])) (by simp at hk;omega) (At.right hA);refine⟨x' :: l',?_,by rw[List.map_cons,List.map_cons,e2,e4]⟩;rw[bodyLoop,hse,if_pos (by rw[ho];rfl),e1];dsimp only;rw[e3,zai,as9];exact Prod.ext rfl (za5 (by rw[tkSs,la9]))
theorem zf9(hs:PT ts us st m){l:List St}{s:PS}{rest:List Ky}(ho:s.ok=true)(hp:s.pa=0)(hb:s.bo≤11)(hl:∀x∈l,WfS us x∧bd x<m∧(bd x:Int)+(s.bo+1)≤12)(hA:At ts s.i (bodyK (tkSs l)++rest)):∃l',bodyP ts st s=(l',adv s (bodyK (tkSs l)).length)∧l'.map bareS=l.map bareS:=by
 have hA':At ts s.i (mrk m_lbr :: (tkSs l++mrk m_rbr :: rest)):=by simpa[bodyK] using hA
 have h1:(s.bo == 12)=false:=by
  have:s.bo≠12:=om
  simpa using this
 have hk:l.length≤ts.length+2:=by
  have h1:=zpa fun x hx=>(hl x hx).1
  rcases At.len hA' with h2|h2
  · simp at h2
  · simp only[List.length_append,List.length_cons]at h2
    omega
 obtain⟨l',e1,e2⟩:=zi3 hs l (ts.length+2) [] { adv s 1 with bo:=s.bo+1 } rest ho hp hl hk hA'.2;refine⟨l',?_,e2⟩
 unfold bodyP
 rw[h1,Bool.and_false,if_neg (by decide)];dsimp only;rw[zbi (T:=m_lbr) ho hA' (zcy _),show({ adv s 1 with bo:=(adv s 1).bo+1 } : PS) = { adv s 1 with bo:=s.bo+1 } from rfl,e1];dsimp only;rw[zbi (T:=m_rbr) (s:=adv { adv s 1 with bo:=s.bo+1 } (tkSs l).length) ho (At.right hA'.2) (zcy _),List.nil_append];refine Prod.ext rfl ?_;have hlen:(bodyK (tkSs l)).length=(tkSs l).length+2:=by simp[bodyK]
 rw[hlen]
 unfold adv
 dsimp only;rw[show s.i+1+(tkSs l).length+1=s.i+((tkSs l).length+2) by omega,show s.bo+1-1=s.bo by omega]
theorem zdx{x:St}: ∀ {l:List St},x∈l→bd x≤bdL l
 | y :: l,h=>by
  rw[bdL]
  rcases List.mem_cons.1 h with rfl|h
  · omega
  · have:=zdx h
    omega
theorem zd9{kind:ByteArray}(hk:kind∈ten){s:PS}{r:List Ky}(ho:s.ok=true)(hA:At ts s.i (kw kind :: r)):sees ts ten s=true∧bytesOf (pk ts s).text=kind:=⟨by rw[zas ho hA];exact zly hk,by rw[zc1 hA];exact zbg kind⟩
theorem zca{kind:ByteArray}(hk:kind∈ten)(h1:¬kind=k_after)(h2:¬kind=k_repeat)(h3:¬kind=k_if){s:PS}{r:List Ky}(ho:s.ok=true)(hA:At ts s.i (kw kind :: r)):∃a,stmtG ts st s=((lineP ts kind a (adv s 1)).1,takeP ts m_semi (lineP ts kind a (adv s 1)).2):=by
 obtain⟨e1,e2⟩:=zd9 hk ho hA
 unfold stmtG
 rw[if_pos e1];dsimp only;rw[e2,if_neg h1,if_neg h2,if_neg h3];exact⟨_,rfl⟩
theorem zcb{s:PS}{r:List Ky}(ho:s.ok=true)(hA:At ts s.i (mrk m_semi :: r)):takeP ts m_semi s=adv s 1:=zbi ho hA (zcy _)
theorem zkq(r:Rf):rsK [r]=[nam r.name]:=by simp[rsK,sepK,moreK]
theorem zda{kind:ByteArray}{at_:Int}{name:Rf}{a b c:Ex}{routes:List Rf}{block tag:Rf}{body els:List St}(h1:¬kind=k_after)(h2:¬kind=k_repeat)(h3:¬kind=k_if):tkSt (.mk kind at_ name a b c routes block tag body els)=kw kind :: (lineK kind name a b c routes block tag++[mrk m_semi]):=(zcr (d:=0) h1 h2 h3).2
theorem stG_at(hs:PT ts us st m):PT ts us (stmtG ts st) (m+1):=by
 intro x hx hm s rest ho hp hb hA hh
 cases hx with
 | send at_ a r b t h1 h2 h3 h4 =>
  rw[zda (by decide) (by decide) (by decide)]at hA ⊢
  unfold lineK at hA ⊢
  rw[if_pos rfl]at hA ⊢;simp only[List.append_assoc,List.cons_append,List.nil_append]at hA;obtain⟨p,e0⟩:=zca (st:=st) (kind:=k_send) (zba (by decide)) (by decide) (by decide) (by decide) ho hA;obtain⟨a',e1,b1⟩:=EX_at h1 (adv s 1) _ ho hp hA.2 (NoOp.mk (by decide));have A1:=At.right hA.2;obtain⟨r',e2,b2⟩:=zh0 (s:=adv (adv s 1) (tkE a).length) false sy (fun _=>⟨_,rfl⟩) ho A1 sy;have A2:=At.right A1.2;rw[show s.i+1+(tkE a).length+1+(rsK [r]).length=(adv (adv (adv s 1) (tkE a).length) (1+(rsK [r]).length)).i by simp only[adv];omega]at A2;obtain⟨b',e3,b3⟩:=zil (s:=adv (adv (adv s 1) (tkE a).length) (1+(rsK [r]).length)) ho A2 (zpo (by decide) (Hd.mk (by decide)));have A3:=At.right A2;obtain⟨t',e4,b4⟩:=zil (s:=adv (adv (adv (adv s 1) (tkE a).length) (1+(rsK [r]).length)) (optK k_with b).length) ho A3 (Hd.mk (by decide));have A4:=At.right A3;have e5:=zcb (s:=adv (adv (adv (adv (adv s 1) (tkE a).length) (1+(rsK [r]).length)) (optK k_with b).length) (optK k_as t).length) ho A4;refine⟨.mk k_send p zR a' zE zE r' b' t' [] [],?_,by rw[bareS,bareS,b1,b2,b3,b4]⟩;rw[e0]
  unfold lineP
  rw[if_pos rfl];dsimp only [EX];rw[e1];dsimp only;rw[e2];dsimp only
  unfold withP
  rw[e3];dsimp only
  unfold tagP
  rw[e4];dsimp only;rw[e5];simp only[zai];exact Prod.ext rfl (za5 (by simp only[List.length_append,List.length_cons,List.length_nil];omega))
 | split at_ a rs t h1 h0 hl h2 h4 =>
  rw[zda (by decide) (by decide) (by decide)]at hA ⊢
  unfold lineK at hA ⊢
  rw[if_neg (by decide),if_pos rfl]at hA ⊢;simp only[List.append_assoc,List.cons_append,List.nil_append]at hA;obtain⟨p,e0⟩:=zca (st:=st) (kind:=k_split) (zba (by decide)) (by decide) (by decide) (by decide) ho hA;obtain⟨a',e1,b1⟩:=EX_at h1 (adv s 1) _ ho hp hA.2 (NoOp.mk (by decide));have A1:=At.right hA.2;obtain⟨r',e2,b2⟩:=zh0 (s:=adv (adv s 1) (tkE a).length) true h0 sy ho A1 (fun _=>zpo (by decide) (Hd.mk (by decide)));have A2:=At.right A1.2;rw[show s.i+1+(tkE a).length+1+(rsK rs).length=(adv (adv (adv s 1) (tkE a).length) (1+(rsK rs).length)).i by simp only[adv];omega]at A2;obtain⟨t',e4,b4⟩:=zil (s:=adv (adv (adv s 1) (tkE a).length) (1+(rsK rs).length)) ho A2 (Hd.mk (by decide));have A4:=At.right A2;have e5:=zcb (s:=adv (adv (adv (adv s 1) (tkE a).length) (1+(rsK rs).length)) (optK k_as t).length) ho A4;refine⟨.mk k_split p zR a' zE zE r' zR t' [] [],?_,by rw[bareS,bareS,b1,b2,b4]⟩;rw[e0]
  unfold lineP
  rw[if_neg (by decide),if_pos rfl];dsimp only [EX];rw[e1];dsimp only;rw[e2];dsimp only
  unfold tagP
  rw[e4];dsimp only;rw[e5];simp only[zai];exact Prod.ext rfl (za5 (by simp only[List.length_append,List.length_cons,List.length_nil];omega))
 | cover at_ r h2 =>
  rw[zda (by decide) (by decide) (by decide)]at hA ⊢
  unfold lineK at hA ⊢
  rw[if_neg (by decide),if_neg (by decide),if_pos rfl,zkq]at hA ⊢;simp only[List.append_assoc,List.cons_append,List.nil_append]at hA;obtain⟨p,e0⟩:=zca (st:=st) (kind:=k_cover) (zba (by decide)) (by decide) (by decide) (by decide) ho hA;obtain⟨r',e1,b1⟩:=zcp (s:=adv s 1) ho hA.2;have e5:=zcb (s:=adv (adv s 1) 1) ho hA.2.2;refine⟨.mk k_cover p zR zE zE zE [r'] zR zR [] [],?_,by rw[bareS,bareS,List.map_cons,List.map_cons,b1]⟩;rw[e0]
  unfold lineP
  rw[if_neg (by decide),if_neg (by decide),if_pos rfl];dsimp only;rw[e1];dsimp only;rw[e5]
  rfl
 | wait at_ a h1 =>
  rw[zda (by decide) (by decide) (by decide)]at hA ⊢
  unfold lineK at hA ⊢
  rw[if_neg (by decide),if_neg (by decide),if_neg (by decide),if_pos rfl]at hA ⊢;simp only[List.append_assoc,List.cons_append,List.nil_append]at hA;obtain⟨p,e0⟩:=zca (st:=st) (kind:=k_wait) (zba (by decide)) (by decide) (by decide) (by decide) ho hA;obtain⟨a',e1,b1⟩:=EX_at h1 (adv s 1) _ ho hp hA.2 (NoOp.mk (by decide));have e5:=zcb (s:=adv (adv s 1) (tkE a).length) ho (At.right hA.2);refine⟨.mk k_wait p zR a' zE zE [] zR zR [] [],?_,by rw[bareS,bareS,b1]⟩;rw[e0]
  unfold lineP
  rw[if_neg (by decide),if_neg (by decide),if_neg (by decide),if_pos rfl];dsimp only [EX];rw[e1];dsimp only;rw[e5];simp only[zai];exact Prod.ext rfl (za5 (by simp only[List.length_append,List.length_cons,List.length_nil];omega))
 | block at_ n r h1 h2 =>
  rw[zda (by decide) (by decide) (by decide)]at hA ⊢
  unfold lineK at hA ⊢
  rw[if_neg (by decide),if_neg (by decide),if_neg (by decide),if_neg (by decide),if_pos rfl]at hA ⊢;simp only[List.append_assoc,List.cons_append,List.nil_append]at hA;obtain⟨p,e0⟩:=zca (st:=st) (kind:=k_block) (zba (by decide)) (by decide) (by decide) (by decide) ho hA;obtain⟨n',e1,b1⟩:=zcp (s:=adv s 1) ho hA.2;obtain⟨r',e2,b2⟩:=zh0 (s:=adv (adv s 1) 1) false sy (fun _=>⟨_,rfl⟩) ho hA.2.2 sy;have A2:=At.right hA.2.2.2;rw[show s.i+1+1+1+(rsK [r]).length=(adv (adv (adv s 1) 1) (1+(rsK [r]).length)).i by simp only[adv];omega]at A2;have e5:=zcb (s:=adv (adv (adv s 1) 1) (1+(rsK [r]).length)) ho A2;refine⟨.mk k_block p n' zE zE zE r' zR zR [] [],?_,by rw[bareS,bareS,b1,b2]⟩;rw[e0]
  unfold lineP
  rw[if_neg (by decide),if_neg (by decide),if_neg (by decide),if_neg (by decide),if_pos rfl];dsimp only;rw[e1];dsimp only;rw[e2];dsimp only;rw[e5];simp only[zai];exact Prod.ext rfl (za5 (by simp only[List.length_append,List.length_cons,List.length_nil];omega))
 | retry at_ a b c r t h1 h2 h3 h4 h5 =>
  rw[zda (by decide) (by decide) (by decide)]at hA ⊢
  unfold lineK at hA ⊢
  rw[if_neg (by decide),if_neg (by decide),if_neg (by decide),if_neg (by decide),if_neg (by decide),if_pos rfl]at hA ⊢;simp only[List.append_assoc,List.cons_append,List.nil_append]at hA;obtain⟨p,e0⟩:=zca (st:=st) (kind:=k_retry) (zba (by decide)) (by decide) (by decide) (by decide) ho hA;obtain⟨a',e1,b1⟩:=EX_at h1 (adv s 1) _ ho hp hA.2 (NoOp.mk (by decide));have A1:=At.right hA.2;have t1:=zbi (T:=k_every) (s:=adv (adv s 1) (tkE a).length) ho A1 (zez _);obtain⟨b',e2,b2⟩:=EX_at h2 (adv (adv (adv s 1) (tkE a).length) 1) _ ho hp A1.2 (NoOp.mk (by decide));have A2:=At.right A1.2;have t2:=zbi (T:=k_send) (s:=adv (adv (adv (adv s 1) (tkE a).length) 1) (tkE b).length) ho A2 (zez _);obtain⟨c',e3,b3⟩:=EX_at h3 (adv (adv (adv (adv (adv s 1) (tkE a).length) 1) (tkE b).length) 1) _ ho hp A2.2 (NoOp.mk (by decide));have A3:=At.right A2.2;obtain⟨r',e4,b4⟩:=zh0 (s:=adv (adv (adv (adv (adv (adv s 1) (tkE a).length) 1) (tkE b).length) 1) (tkE c).length) false sy (fun _=>⟨_,rfl⟩) ho A3 sy;have A4:=At.right A3.2;rw[show s.i+1+(tkE a).length+1+(tkE b).length+1+(tkE c).length+1+(rsK [r]).length=(adv (adv (adv (adv (adv (adv (adv s 1) (tkE a).length) 1) (tkE b).length) 1) (tkE c).length) (1+(rsK [r]).length)).i by simp only[adv];omega]at A4;obtain⟨t',e5,b5⟩:=zil (s:=adv (adv (adv (adv (adv (adv (adv s 1) (tkE a).length) 1) (tkE b).length) 1) (tkE c).length) (1+(rsK [r]).length)) ho A4 (Hd.mk (by decide));have A5:=At.right A4;have e6:=zcb (s:=adv (adv (adv (adv (adv (adv (adv (adv s 1) (tkE a).length) 1) (tkE b).length) 1) (tkE c).length) (1+(rsK [r]).length)) (optK k_as t).length) ho A5;refine⟨.mk k_retry p zR a' b' c' r' zR t' [] [],?_,by rw[bareS,bareS,b1,b2,b3,b4,b5]⟩;rw[e0]
  unfold lineP
  rw[if_neg (by decide),if_neg (by decide),if_neg (by decide),if_neg (by decide),if_neg (by decide),if_pos rfl];dsimp only [EX];rw[e1];dsimp only;rw[t1,e2];dsimp only;rw[t2,e3];dsimp only;rw[e4];dsimp only
  unfold tagP
  rw[e5];dsimp only;rw[e6];simp only[zai];exact Prod.ext rfl (za5 (by simp only[List.length_append,List.length_cons,List.length_nil];omega))
 | every at_ a b r h1 h2 h4 =>
  rw[zda (by decide) (by decide) (by decide)]at hA ⊢
  unfold lineK at hA ⊢
  rw[if_neg (by decide),if_neg (by decide),if_neg (by decide),if_neg (by decide),if_neg (by decide),if_neg (by decide),if_pos rfl,zkq]at hA ⊢;simp only[List.append_assoc,List.cons_append,List.nil_append]at hA;obtain⟨p,e0⟩:=zca (st:=st) (kind:=k_every) (zba (by decide)) (by decide) (by decide) (by decide) ho hA;obtain⟨a',e1,b1⟩:=EX_at h1 (adv s 1) _ ho hp hA.2 (NoOp.mk (by decide));have A1:=At.right hA.2;have t1:=zbi (T:=k_times) (s:=adv (adv s 1) (tkE a).length) ho A1 (zez _);obtain⟨b',e2,b2⟩:=EX_at h2 (adv (adv (adv s 1) (tkE a).length) 1) _ ho hp A1.2 (NoOp.mk (by decide));have A2:=At.right A1.2;have t2:=zbi (T:=k_cover) (s:=adv (adv (adv (adv s 1) (tkE a).length) 1) (tkE b).length) ho A2 (zez _);obtain⟨r',e3,b3⟩:=zcp (s:=adv (adv (adv (adv (adv s 1) (tkE a).length) 1) (tkE b).length) 1) ho A2.2;have e6:=zcb (s:=adv (adv (adv (adv (adv (adv s 1) (tkE a).length) 1) (tkE b).length) 1) 1) ho A2.2.2;refine⟨.mk k_every p zR a' b' zE [r'] zR zR [] [],?_,by rw[bareS,bareS,b1,b2,List.map_cons,List.map_cons,b3]⟩;rw[e0]
  unfold lineP
  rw[if_neg (by decide),if_neg (by decide),if_neg (by decide),if_neg (by decide),if_neg (by decide),if_neg (by decide),if_pos rfl];dsimp only [EX];rw[e1];dsimp only;rw[t1,e2];dsimp only;rw[t2,e3];dsimp only;rw[e6];simp only[zai];exact Prod.ext rfl (za5 (by simp only[List.length_append,List.length_cons,List.length_nil];omega))
 | after at_ a y h1 hl hy =>
  rw[bd,if_pos (.inl rfl)]at hm hb;rw[tkSt,if_pos rfl]at hA ⊢;simp only[List.append_assoc,List.cons_append]at hA;obtain⟨k1,k2⟩:=zd9 (kind:=k_after) (zba (by decide)) ho hA;obtain⟨a',e1,b1⟩:=EX_at h1 (adv s 1) _ ho hp hA.2 (NoOp.mk (by decide));obtain⟨y',e2,b2⟩:=zf9 hs (l:=y) (s:=adv (adv s 1) (tkE a).length) ho hp (by show s.bo≤11;omega) (fun x hx=>by have:=zdx hx;exact⟨hy x hx,by omega,by show(bd x:Int)+(s.bo+1)≤12;omega⟩) (At.right hA.2);refine⟨.mk k_after ((pk ts s).at_:Int) zR a' zE zE [] zR zR y' [],?_,by rw[bareS,bareS,b1];simp only[zau,b2]⟩
  unfold stmtG
  rw[if_pos k1];dsimp only [EX];rw[k2,if_pos rfl,zbe,e1];dsimp only;rw[e2];simp only[zai];exact Prod.ext rfl (za5 (by simp only[List.length_append,List.length_cons];omega))
 | repeat_ at_ n a y h1 h2 hl hy =>
  rw[bd,if_pos (.inr (.inl rfl))]at hm hb;rw[tkSt,if_neg (by decide),if_pos rfl]at hA ⊢;simp only[List.append_assoc,List.cons_append]at hA;obtain⟨k1,k2⟩:=zd9 (kind:=k_repeat) (zba (by decide)) ho hA;obtain⟨n',e0,b0⟩:=zcp (s:=adv s 1) ho hA.2;obtain⟨a',e1,b1⟩:=EX_at h2 (adv (adv s 1) 1) _ ho hp hA.2.2 (NoOp.mk (by decide));obtain⟨y',e2,b2⟩:=zf9 hs (l:=y) (s:=adv (adv (adv s 1) 1) (tkE a).length) ho hp (by show s.bo≤11;omega) (fun x hx=>by have:=zdx hx;exact⟨hy x hx,by omega,by show(bd x:Int)+(s.bo+1)≤12;omega⟩) (At.right hA.2.2);refine⟨.mk k_repeat ((pk ts s).at_:Int) n' a' zE zE [] zR zR y' [],?_,by rw[bareS,bareS,b0,b1];simp only[zau,b2]⟩
  unfold stmtG
  rw[if_pos k1];dsimp only [EX];rw[k2,if_neg (by decide),if_pos rfl,zbe,e0];dsimp only;rw[e1];dsimp only;rw[e2];simp only[zai];exact Prod.ext rfl (za5 (by simp only[List.length_append,List.length_cons];omega))
 | if_ at_ t y z h1 hl hm' hy hz =>
  rw[bd,if_pos (.inr (.inr rfl))]at hm hb;rw[tkSt,if_neg (by decide),if_neg (by decide),if_pos rfl]at hA ⊢;simp only[List.append_assoc,List.cons_append]at hA;obtain⟨k1,k2⟩:=zd9 (kind:=k_if) (zba (by decide)) ho hA;have t1:=zbi (T:=k_acked) (s:=adv s 1) ho hA.2 (zez _);obtain⟨t',e0,b0⟩:=zcp (s:=adv (adv s 1) 1) ho hA.2.2;obtain⟨y',e2,b2⟩:=zf9 hs (l:=y) (s:=adv (adv (adv s 1) 1) 1) ho hp (by show s.bo≤11;omega) (fun x hx=>by have:=zdx hx;exact⟨hy x hx,by omega,by show(bd x:Int)+(s.bo+1)≤12;omega⟩) hA.2.2.2;have A2:=At.right hA.2.2.2
  cases hz0:z.isEmpty with
  | true =>
   rw[hz0,if_pos rfl,List.nil_append]at A2;have hse:=ze1 (s:=adv (adv (adv (adv s 1) 1) 1) (bodyK (tkSs y)).length) ho A2 hh;refine⟨.mk k_if ((pk ts s).at_:Int) zR zE zE zE [] zR t' y' [],?_,?_⟩
   · unfold stmtG
     rw[if_pos k1];dsimp only;rw[k2,if_neg (by decide),if_neg (by decide),if_pos rfl,zbe,t1,e0];dsimp only;rw[e2];dsimp only;rw[hse,if_neg (by decide)];simp only[zai];exact Prod.ext rfl (za5 (by simp[bodyK];omega))
   · rw[bareS,bareS,b0];rw[List.isEmpty_iff]at hz0;simp only[zau,b2,hz0]
  | false =>
   rw[hz0,if_neg (by decide),List.cons_append]at A2;have hse:=zas (s:=adv (adv (adv (adv s 1) 1) 1) (bodyK (tkSs y)).length) ho A2 [k_else];obtain⟨z',e4,b4⟩:=zf9 hs (l:=z) (s:=adv (adv (adv (adv (adv s 1) 1) 1) (bodyK (tkSs y)).length) 1) ho hp (by show s.bo≤11;omega) (fun x hx=>by have:=zdx hx;exact⟨hz x hx,by omega,by show(bd x:Int)+(s.bo+1)≤12;omega⟩) A2.2;refine⟨.mk k_if ((pk ts s).at_:Int) zR zE zE zE [] zR t' y' z',?_,by rw[bareS,bareS,b0];simp only[zau,b2,b4]⟩
   unfold stmtG
   rw[if_pos k1];dsimp only;rw[k2,if_neg (by decide),if_neg (by decide),if_pos rfl,zbe,t1,e0];dsimp only;rw[e2];dsimp only;rw[hse,if_pos (by decide),zbe,e4];simp only[zai];exact Prod.ext rfl (za5 (by simp[bodyK];omega))
theorem zpe:∀m:Nat,PT ts us (stmtP ts m) m
 | 0=>fun x _ h=>absurd h om
 | m+1=>stG_at (zpe m)
end
end
section
theorem zce{α β:Type}{f:α→β}{l l':List α}(h:l'.map f=l.map f):l'.length=l.length∧∀(j:Nat) (h1:j<l.length) (h2:j<l'.length),f l'[j]=f l[j]:=by
 have hl:l'.length=l.length:=by simpa using congrArg List.length h
 refine⟨hl,fun j h1 h2=>?_⟩;have h3:=congrArg (fun x=>x[j]?) h
 simpa[List.getElem?_map,ge9 h1,ge9 h2] using h3
section
variable{w w':World}
theorem zen(nm:ByteArray)(a b:Int)(w:World):Calls Tryz.prog 31 #[.agg #[.string nm,.int .i64 a],.agg #[.string nm,.int .i64 b],.bool false] w fun e w'=>e=.returned (.bool true)∧Below w.heap.size w w':=by
 go_enter Tryz.func31, Tryz.ntmps31
 go_wp2;go_ret;exact⟨rfl,((Below.refl _ _).alloc lr _).alloc sy _⟩
theorem zjh{F G:Nat→Prop}(l l':List Rf)(hq:l'.map bareR=l.map bareR)(A B:Option Addr)(n a b:Nat)(hn:l.length=n)(hn8:n≤140737488355328)(w:World)(hA:RfsIn F w A l)(hB:RfsIn G w B l'):Calls Tryz.prog 69 #[.slice A n a,.slice B n b,.bool false] w fun e w'=>e=.returned (.bool true)∧Below w.heap.size w w':=by
 have HA:=qh hA;have HB:=qh hB;have HN:=qh hn;have HQ:=qh (zce hq);have HS:=qh zen;clear hA hB hn hq
 go_enter Tryz.func69, Tryz.ntmps69
 go_wp2
 go_loopg [7] n (fun kk q wr=>∃j:Nat,j≤n∧kk=n-j∧q=.int .i64 (j:Int)∧Hid (Below w.heap.size w wr))
 case atStart=>exact⟨0,by omega,by omega,rfl,qh (Below.refl _ _)⟩
 case round =>
  obtain⟨j,hj,hk,rfl,HR⟩:=hrel
  rcases Nat.eq_or_lt_of_le hj with rfl|hlt
  · have hnl:¬(j:Int)<(j:Int):=om
    clear hk hj;go_wp2;go_ret;exact⟨rfl,HR.out⟩
  · have hlt2:(j:Int)<(n:Int):=om
    have hjl:j<l.length:=by have:=HN.out;omega
    obtain⟨b1,o1,rfl,hb1,x1,y1⟩:=zea (HA.out.keep (Keep.of_below HR.out F)) j hjl;have hjl':j<l'.length:=by have:=HQ.out.1;omega
    obtain⟨b2,o2,rfl,hb2,x2,y2⟩:=zea (HB.out.keep (Keep.of_below HR.out G)) j hjl';have hqj:=HQ.out.2 j hjl hjl';generalize l[j]=R at *;generalize l'[j]=R' at *;obtain⟨nm,at_⟩:=R;obtain⟨nm',at'⟩:=R';simp only[bareR,Rf.mk.injEq,and_true]at hqj;subst hqj;have hSC:=qh (fun W=>HS.out nm' at_ at' W);dsimp only at x1 y1 x2 y2;have y1':wr.cell? ⟨b1,o1+j*2+1,none⟩=some (.int .i64 at_):=y1;have y2':wr.cell? ⟨b2,o2+j*2+1,none⟩=some (.int .i64 at'):=y2;clear y1 y2
    go_upto_region 6 with fail
    go_region_with (go_at_call 31;(refine(hSC.out _).mono ?_);rintro e w2 ⟨rfl,hB2⟩;have H2:Hid (Below w.heap.size w w2):=(Below.drew HR.out).trans (hB2.mono (by exact HR.out.size));clear hB2)
    all_goals
      go_wp2;go_roundg (gk-1)
      case measure=>omega
      case rel=>exact⟨j+1,by omega,by omega,by simp,H2⟩
theorem zme{e e':Ex}(h:bare e'=bare e):bareL e'.args=bareL e.args:=by
 obtain⟨o,n,t,a,l⟩:=e;obtain⟨o',n',t',a',l'⟩:=e';simp only[bare,Ex.mk.injEq,true_and]at h;exact h.2.2.2
theorem zbo{es:List Ex}(h:ExSm es):∀ {F G:Nat→Prop} (es':List Ex) (_:bareL es'=bareL es) (A B:Option Addr) (op text:ByteArray) (num at_ at2:Int) (n a b:Nat) (_:es.length=n) (w:World) (_:ArgsIn F w A es) (_:ArgsIn G w B es'),
 Calls Tryz.prog 32 #[.agg #[.string op,.int .i64 num,.string text,.int .i64 at_,.slice A n a],.agg #[.string op,.int .i64 num,.string text,.int .i64 at2,.slice B n b],.bool false] w fun e w'=>e=.returned (.bool true)∧Below w.heap.size w w':=by
 induction h with
 | mk es hl hi ih =>
  intro F G es' hq A B op text num at_ at2 n a b hn w hA hB;rw[zav,zav]at hq;have HQ:=qh (zce hq);have HI:=qh ih;have HN:=qh hn;have hn8:n≤140737488355328:=om
  have HW:Hid (∀W,W=(w.alloc (.cells #[.string op,.int .i64 num,.string text,.int .i64 at_,.slice A n a] 39)).alloc (.cells #[.string op,.int .i64 num,.string text,.int .i64 at2,.slice B n b] 39)→Below w.heap.size w W∧Blk W w.heap.size 39 [.string op,.int .i64 num,.string text,.int .i64 at_,.slice A n a]∧Blk W (w.heap.size+1) 39 [.string op,.int .i64 num,.string text,.int .i64 at2,.slice B n b]∧ArgsIn F W A es∧ArgsIn G W B es'):=by
   rintro W rfl;have hb2:Below w.heap.size w ((w.alloc (.cells #[.string op,.int .i64 num,.string text,.int .i64 at_,.slice A n a] 39)).alloc (.cells #[.string op,.int .i64 num,.string text,.int .i64 at2,.slice B n b] 39)):=((Below.refl _ _).alloc lr _).alloc sy _;exact⟨hb2,(Blk.new _ _ _).alloc _,Blk.new' sy rfl,hA.keep (Keep.of_below hb2 F),hB.keep (Keep.of_below hb2 G)⟩
  clear ih hl hi hn hA hB hq
  go_enter Tryz.func32, Tryz.ntmps32
  go_wp2;obtain⟨g1,hg1⟩:=ex9 (w.heap.size);obtain⟨g2,hg2⟩:=ex9 (w.heap.size+1);obtain⟨W1,hW1⟩:=ex9 (((w.alloc (.cells #[.string op,.int .i64 num,.string text,.int .i64 at_,.slice A n a] 39)).alloc (.cells #[.string op,.int .i64 num,.string text,.int .i64 at2,.slice B n b] 39)));have HX:=qh (HW.out W1 hW1);rw[←hW1];have HX2:Hid (Blk W1 g1 39 [.string op,.int .i64 num,.string text,.int .i64 at_,.slice A n a]∧Blk W1 g2 39 [.string op,.int .i64 num,.string text,.int .i64 at2,.slice B n b]):=by subst hg1 hg2;exact⟨HX.out.2.1,HX.out.2.2.1⟩
  rw[←hg2,←hg1];have HBW:Hid (∀W,Below W1.heap.size W1 W→Below w.heap.size w W):=fun W hW=>HX.out.1.trans (hW.mono HX.out.1.size)
  clear HW hW1 hg2 hg1
  go_loopg [7] n (fun kk q wr=>∃j:Nat,j≤n∧kk=n-j∧q=.int .i64 (j:Int)∧Hid (Below W1.heap.size W1 wr))
  case atStart=>exact⟨0,by omega,by omega,rfl,qh (Below.refl _ _)⟩
  case round =>
   obtain⟨j,hj,hk,rfl,HR⟩:=hrel;have f1:wr.cell? ⟨g1,4,none⟩=some (.slice A n a):=(HX2.out.1.below HR.out HX2.out.1.lt).cell 4;have f2:wr.cell? ⟨g2,4,none⟩=some (.slice B n b):=(HX2.out.2.below HR.out HX2.out.2.lt).cell 4
   rcases Nat.eq_or_lt_of_le hj with rfl|hlt
   · have hnl:¬(j:Int)<(j:Int):=om
     clear hk hj;go_wp2;go_ret;exact⟨rfl,HBW.out _ HR.out⟩
   · have hlt2:(j:Int)<(n:Int):=om
     have hjl:j<es.length:=by have:=HN.out;omega
     obtain⟨b1,o1,p1,rfl,hb1,x1,k1⟩:=za7 (HX.out.2.2.2.1.keep (Keep.of_below HR.out F)) j hjl;have hjl':j<es'.length:=by have:=HQ.out.1;omega
     obtain⟨b2,o2,p2,rfl,hb2,x2,k2⟩:=za7 (HX.out.2.2.2.2.keep (Keep.of_below HR.out G)) j hjl';have hqj:=HQ.out.2 j hjl hjl';have hSC:=qh (fun W (hW:Below wr.heap.size wr W)=>HI.out es[j] (List.getElem_mem _) es'[j].args (zme hqj) p1.1 p2.1 es[j].op es[j].text es[j].num es[j].at_ es'[j].at_ es[j].args.length p1.2 p2.2 rfl W (k1.keep (Keep.of_below hW F)) (k2.keep (Keep.of_below hW G)));clear k1 k2 HI;generalize es[j]=E at *;generalize es'[j]=E2 at *;obtain⟨op',num',text',at',args'⟩:=E;obtain⟨op2,num2,text2,at2',args2⟩:=E2;simp only[bare,Ex.mk.injEq,true_and]at hqj;obtain⟨rfl,rfl,rfl,hq2⟩:=hqj;rw[zav,zav]at hq2;have hql:args2.length=args'.length:=(zce hq2).1;clear hq2;obtain⟨q1,c1⟩:=p1;obtain⟨q2,c2⟩:=p2;have u0:wr.cell? ⟨b1,o1+j*5,none⟩=some (.string op2):=x1 0 _ rfl;have u1:wr.cell? ⟨b1,o1+j*5+1,none⟩=some (.int .i64 num2):=x1 1 _ rfl;have u2:wr.cell? ⟨b1,o1+j*5+2,none⟩=some (.string text2):=x1 2 _ rfl;have u3:wr.cell? ⟨b1,o1+j*5+3,none⟩=some (.int .i64 at'):=x1 3 _ rfl;have u4:wr.cell? ⟨b1,o1+j*5+4,none⟩=some (.slice q1 args'.length c1):=x1 4 _ rfl;have v0:wr.cell? ⟨b2,o2+j*5,none⟩=some (.string op2):=x2 0 _ rfl;have v1:wr.cell? ⟨b2,o2+j*5+1,none⟩=some (.int .i64 num2):=x2 1 _ rfl;have v2:wr.cell? ⟨b2,o2+j*5+2,none⟩=some (.string text2):=x2 2 _ rfl;have v3:wr.cell? ⟨b2,o2+j*5+3,none⟩=some (.int .i64 at2'):=x2 3 _ rfl;have v4:wr.cell? ⟨b2,o2+j*5+4,none⟩=some (.slice q2 args'.length c2):=by rw[←hql];exact x2 4 _ rfl
     clear hql;clear x1 x2;dsimp only [Ex.op,Ex.num,Ex.text,Ex.at_,Ex.args]at hSC;generalize args'.length=m at *
     go_upto_region 6 with fail
     go_region_with (go_at_call 32;(refine(hSC.out _ (by exact Below.drew (Below.refl _ _))).mono ?_);rintro e w2 ⟨rfl,hB2⟩;have H2:Hid (Below W1.heap.size W1 w2):=(Below.drew HR.out).trans (hB2.mono (by exact HR.out.size));clear hB2)
     all_goals
       go_wp2;go_roundg (gk-1)
       case measure=>omega
       case rel=>exact⟨j+1,by omega,by omega,by simp,H2⟩
end
end
section
open Lx (Sep NameOk TkP)
section
variable{ts us:List Lx.Tok}
theorem WfE.op_ne{e:Ex}(h:WfE us e):e.op≠zs:=by
 cases h with
 | number=>exact(by decide:k_number≠zs)
 | name=>exact(by decide:k_name≠zs)
 | text=>exact(by decide:k_text≠zs)
 | join=>exact(by decide:k_join≠zs)
 | two o a x y ho =>
  show o≠zs
  rcases ho with rfl|rfl|rfl <;> decide
theorem zrq{e:Ex}(h:WfE us e)(hn:nd e+c4 e≤12){s:PS}{rest:List Ky}(ho:s.ok=true)(hp:s.pa=0)(hA:At ts s.i (parK (!(decide (e.op=k_number)|| decide (e.op=k_name))) (tkE e)++rest)):∃e',atomP ts (exprP ts 14) s=(e',adv s (parK (!(decide (e.op=k_number)|| decide (e.op=k_name))) (tkE e)).length)∧bare e'=bare e:=by
 have hpar:¬(e.op=k_number∨e.op=k_name)→∃e',atomP ts (exprP ts 14) s=(e',adv s (parK (!(decide (e.op=k_number)|| decide (e.op=k_name))) (tkE e)).length)∧bare e'=bare e:=by
  intro h0
  have hb:(!(decide (e.op=k_number)|| decide (e.op=k_name)))=true:=by
   rw[not_or]at h0;rw[decide_eq_false h0.1,decide_eq_false h0.2];rfl
  have hc:c4 e=1:=by unfold c4;rw[if_neg h0]
  rw[hb]at hA ⊢;have hA':At ts s.i (mrk m_lpar :: (tkE e++mrk m_rpar :: rest)):=by simpa[parK] using hA
  obtain⟨e',e1,e2⟩:=zpg (zhh 14) h om s rest ho om hA';exact⟨e',by rw[e1,zij];rfl,e2⟩
 cases h with
 | number i a h =>
  have hA':At ts s.i (tkE (.mk k_number ((tokAt us i).num:Int) zs a [])++rest):=hA
  show ∃e',atomP ts (exprP ts 14) s=(e',adv s (tkE (.mk k_number ((tokAt us i).num:Int) zs a [])).length)∧_
  rw[zfe]at hA' ⊢;refine⟨.mk k_number ((pk ts s).num:Int) zs ((pk ts s).at_:Int) [],?_,?_⟩
  · unfold atomP
    rw[za4 ho hA',if_pos (by first|rfl|decide)]
    rfl
  · rw[bare,bare,zpv hA']
    show Ex.mk k_number ((((tokAt us i).num:Int).toNat:Nat):Int) zs 0 (bareL [])=_
    rw[Int.toNat_natCast]
 | name i a h =>
  have hA':At ts s.i (tkE (.mk k_name 0 (bytesOf (tokAt us i).text) a [])++rest):=hA
  show ∃e',atomP ts (exprP ts 14) s=(e',adv s (tkE (.mk k_name 0 (bytesOf (tokAt us i).text) a [])).length)∧_
  rw[zh1]at hA' ⊢;refine⟨.mk k_name 0 (bytesOf (pk ts s).text) ((pk ts s).at_:Int) [],?_,?_⟩
  · unfold atomP
    rw[za4 ho hA',if_neg (nf (by first|rfl|decide)),za4 ho hA',if_pos (by first|rfl|decide)]
    rfl
  · rw[bare,bare,zc1 hA']
    unfold nam
    dsimp only;rw[zbg]
 | text i a h=>exact hpar (by show ¬(k_text=k_number∨k_text=k_name);decide)
 | join a args h0 hl hi=>exact hpar (by show ¬(k_join=k_number∨k_join=k_name);decide)
 | two o a x y ho' hx' hy=>exact hpar (by
  show ¬(o=k_number∨o=k_name)
  rcases ho' with rfl|rfl|rfl <;> decide)
theorem zlj{T:ByteArray}{e:Ex}(h:OptE us e){s:PS}{rest:List Ky}(ho:s.ok=true)(hp:s.pa=0)(hA:At ts s.i (atK T e++rest))(hh:Hd [T] rest):∃e',(if sees ts [T] s then atomP ts (exprP ts 14) (nxt s) else (zE,s))=(e',adv s (atK T e).length)∧bare e'=bare e:=by
 unfold atK at hA ⊢
 split at hA
 · rename_i h0
   rw[if_pos h0,ze1 ho hA hh,if_neg (by decide)];refine⟨zE,rfl,?_⟩
   rcases h with rfl|h
   · rfl
   · exact absurd h0 h.1.op_ne
 · rename_i h0
   rw[if_neg h0]
   rcases h with rfl|h
   · exact absurd rfl h0
   · rw[List.cons_append]at hA
     rw[zas ho hA,if_pos (zcy T),zbe];obtain⟨e',e1,e2⟩:=zrq h.1 h.2 (s:=adv s 1) ho hp hA.2;refine⟨e',?_,e2⟩;rw[e1,zai];exact Prod.ext rfl (za5 (by rw[List.length_cons];omega))
theorem hd_at{L:List ByteArray}{T:ByteArray}{e:Ex}{R:List Ky}(h1:isK (mrk T) L=false)(h2:Hd L R):Hd L (atK T e++R):=by
 unfold atK
 split
 · exact h2
 · exact Hd.mk h1
theorem zih{p:Pl}(h:WfP us p){s:PS}{rest:List Ky}(ho:s.ok=true)(hp:s.pa=0)(hA:At ts s.i (tkPl p++rest))(hh:Hd [m_at] rest)(hh2:Hd [m_ex] rest):∃p',placeP ts s=(p',adv s (tkPl p).length)∧bareP p'=bareP p:=by
 have hA':At ts s.i (nam p.node.name :: (atK m_at p.delay++(atK m_ex p.flags++rest))):=by simpa[tkPl,List.append_assoc] using hA
 obtain⟨r',e1,b1⟩:=zcp ho hA';obtain⟨d',e2,b2⟩:=zlj h.2.1 (s:=adv s 1) ho hp hA'.2 (hd_at (by decide) hh);obtain⟨f',e3,b3⟩:=zlj h.2.2 (s:=adv (adv s 1) (atK m_at p.delay).length) ho hp (At.right hA'.2) hh2;refine⟨⟨r',d',f'⟩,?_,by unfold bareP;rw[b1,b2,b3]⟩
 unfold placeP
 dsimp only;rw[e1];dsimp only;rw[e2];dsimp only;rw[e3];simp only[zai];exact Prod.ext rfl (za5 (by unfold tkPl;simp only[List.length_cons,List.length_append];omega))
theorem zgn:∀(l:List Pl) (k:Nat) (acc:List Pl) (s:PS) (rest:List Ky),s.ok=true→s.pa=0→(∀p∈l,WfP us p)→l.length≤k→At ts s.i (moreK (mrk m_gt) (l.map tkPl)++mrk m_semi :: rest)→∃l',placeLoop ts k acc s=(acc++l',adv s (moreK (mrk m_gt) (l.map tkPl)).length)∧l'.map bareP=l.map bareP
 | [],k,acc,s,rest,ho,_,_,_,hA=>by
  refine⟨[],?_,rfl⟩
  cases k with
  | zero=>rw[placeLoop];simp[moreK,adv]
  | succ k =>
   rw[placeLoop,zas ho hA,if_neg (nf (by first|rfl|decide))]
   simp[moreK,adv]
 | p :: l,k,acc,s,rest,ho,hp,hl,hk,hA=>by
  obtain⟨k,rfl⟩:∃k',k=k'+1:=⟨k-1,by simp at hk;omega⟩;have hA':At ts s.i (mrk m_gt :: (tkPl p++(moreK (mrk m_gt) (l.map tkPl)++mrk m_semi :: rest))):=by simpa[moreK] using hA
  have hh:∀L,isK (mrk m_gt) L=false→isK (mrk m_semi) L=false→Hd L (moreK (mrk m_gt) (l.map tkPl)++mrk m_semi :: rest):=by
   intro L h1 h2
   cases l with
   | nil=>exact Hd.mk h2
   | cons b bs=>exact Hd.mk h1
  obtain⟨p',e1,e2⟩:=zih (hl p sy) (s:=adv s 1) ho hp hA'.2 (hh _ (by decide) (by decide)) (hh _ (by decide) (by decide));obtain⟨l',e3,e4⟩:=zgn l k (acc++[p']) (adv (adv s 1) (tkPl p).length) rest ho hp (fun x hx=>hl x (by simp[hx])) (by simp at hk;omega) (At.right hA'.2);refine⟨p' :: l',?_,by rw[List.map_cons,List.map_cons,e2,e4]⟩;rw[placeLoop,zas ho hA',if_pos (by first|rfl|decide),zbe,e1];dsimp only;rw[e3,zai,zai,as9];exact Prod.ext rfl (za5 (by simp[moreK];omega))
theorem zrl{d:Dc}(h:WfD us d){s:PS}{rest:List Ky}(ho:s.ok=true)(hp:s.pa=0)(hA:At ts s.i (tkDc d++rest)):∃d',declP ts s=(d',adv s (tkDc d).length)∧bareD d'=bareD d:=by
 obtain⟨kind,name,value,places⟩:=d
 rcases h with ⟨h1,⟨h2,h3,h4⟩|⟨h2,h3,h4,_,h5⟩⟩
 · dsimp only at h1 h2 h3 h4
   subst h2 h4;have hA':At ts s.i (kw k_let :: nam name.name :: mrk m_eq :: (tkE value++mrk m_semi :: rest)):=by simpa[tkDc] using hA
   obtain⟨r',e1,b1⟩:=zcp (s:=adv s 1) ho hA'.2;have e2:=zbi (T:=m_eq) (s:=adv (adv s 1) 1) ho hA'.2.2 (zcy _);obtain⟨v',e3,b3⟩:=EX_at h3 (adv (adv (adv s 1) 1) 1) _ ho hp hA'.2.2.2 (NoOp.mk (by decide));have e4:=zcb (s:=adv (adv (adv (adv s 1) 1) 1) (tkE value).length) ho (At.right hA'.2.2.2);refine⟨⟨k_let,r',v',[]⟩,?_,by unfold bareD;rw[b1,b3]⟩
   unfold declP
   dsimp only;rw[zc1 hA',show bytesOf (kw k_let).2.1=k_let from zbg k_let,zbe,e1];dsimp only;rw[e2,if_pos rfl,e3];dsimp only;rw[e4];simp only[zai];exact Prod.ext rfl (za5 (by simp[tkDc];omega))
 · dsimp only at h1 h2 h3 h4 h5
   subst h2 h3
   obtain⟨p,ps,rfl⟩:∃p l,places=p :: l:=by
    cases places with
    | nil=>exact absurd rfl h4
    | cons r l=>exact⟨r,l,rfl⟩
   have htk:tkDc ⟨k_route,name,zE,p :: ps⟩=kw k_route :: nam name.name :: mrk m_eq :: (tkPl p++(moreK (mrk m_gt) (ps.map tkPl)++[mrk m_semi])):=by
    unfold tkDc
    dsimp only;rw[if_neg (by decide)]
    simp[sepK]
   rw[htk]at hA ⊢;have hA':At ts s.i (kw k_route :: nam name.name :: mrk m_eq :: (tkPl p++(moreK (mrk m_gt) (ps.map tkPl)++mrk m_semi :: rest))):=by simpa[List.append_assoc] using hA
   have hh:∀L,isK (mrk m_gt) L=false→isK (mrk m_semi) L=false→Hd L (moreK (mrk m_gt) (ps.map tkPl)++mrk m_semi :: rest):=by
    intro L h1 h2
    cases ps with
    | nil=>exact Hd.mk h2
    | cons b bs=>exact Hd.mk h1
   have hk:ps.length≤ts.length+1:=by
    have h1:=zev (mrk m_gt) (ps.map tkPl)
    rcases At.len hA' with h2|h2
    · simp at h2
    · simp only[List.length_append,List.length_cons,List.length_map]at *
      omega
   obtain⟨r',e1,b1⟩:=zcp (s:=adv s 1) ho hA'.2;have e2:=zbi (T:=m_eq) (s:=adv (adv s 1) 1) ho hA'.2.2 (zcy _);obtain⟨p',e3,b3⟩:=zih (h5 p sy) (s:=adv (adv (adv s 1) 1) 1) ho hp hA'.2.2.2 (hh _ (by decide) (by decide)) (hh _ (by decide) (by decide));obtain⟨l',e4,b4⟩:=zgn ps (ts.length+1) [p'] (adv (adv (adv (adv s 1) 1) 1) (tkPl p).length) rest ho hp (fun x hx=>h5 x (by simp[hx])) hk (At.right hA'.2.2.2);have e5:=zcb (s:=adv (adv (adv (adv (adv s 1) 1) 1) (tkPl p).length) (moreK (mrk m_gt) (ps.map tkPl)).length) ho (At.right (At.right hA'.2.2.2));refine⟨⟨k_route,r',zE,[p']++l'⟩,?_,by unfold bareD;dsimp only;rw[b1,List.map_append,b4,List.map_cons,List.map_cons,b3];rfl⟩
   unfold declP
   dsimp only;rw[zc1 hA',show bytesOf (kw k_route).2.1=k_route from zbg k_route,zbe,e1];dsimp only;rw[e2,if_neg (by decide),e3];dsimp only;rw[e4];dsimp only;rw[e5];simp only[zai];exact Prod.ext rfl (za5 (by simp only[List.length_append,List.length_cons,List.length_nil];omega))
theorem zma{d:Dc}(h:WfD us d):∃T r,tkDc d=kw T :: r∧T∈[k_let,k_route]:=by
 unfold tkDc
 split
 · exact⟨_,_,rfl,by simp⟩
 · exact⟨_,_,rfl,by simp⟩
theorem ziz:∀(l:List Dc) (k:Nat) (acc:List Dc) (s:PS) (rest:List Ky),s.ok=true→s.pa=0→(∀d∈l,WfD us d)→l.length≤k→At ts s.i (l.flatMap tkDc++rest)→Hd [k_let,k_route] rest→∃l',declLoop ts k acc s=(acc++l',adv s (l.flatMap tkDc).length)∧l'.map bareD=l.map bareD
 | [],k,acc,s,rest,ho,_,_,_,hA,hh=>by
  refine⟨[],?_,rfl⟩
  cases k with
  | zero=>rw[declLoop];simp[adv]
  | succ k =>
   rw[declLoop,ze1 ho hA hh,if_neg (by decide)]
   simp[adv]
 | d :: l,k,acc,s,rest,ho,hp,hl,hk,hA,hh=>by
  obtain⟨k,rfl⟩:∃k',k=k'+1:=⟨k-1,by simp at hk;omega⟩;rw[List.flatMap_cons,as9]at hA;obtain⟨T,r,eT,hT⟩:=zma (hl d sy)
  have hse:sees ts [k_let,k_route] s=true:=by
   have hA':=hA;rw[eT]at hA';rw[zas ho hA'];exact zly hT
  obtain⟨d',e1,e2⟩:=zrl (hl d sy) ho hp hA;obtain⟨l',e3,e4⟩:=ziz l k (acc++[d']) (adv s (tkDc d).length) rest ho hp (fun x hx=>hl x (by simp[hx])) (by simp at hk;omega) (At.right hA) hh;refine⟨d' :: l',?_,by rw[List.map_cons,List.map_cons,e2,e4]⟩;rw[declLoop,hse,if_pos rfl,e1];dsimp only;rw[e3,zai,as9];exact Prod.ext rfl (za5 (by rw[List.flatMap_cons,la9]))
theorem zj6:∀(l:List St) (k:Nat) (acc:List St) (s:PS) (rest:List Ky),s.ok=true→s.pa=0→s.bo=0→(∀x∈l,WfS us x∧bd x≤12)→l.length<k→At ts s.i (tkSs l++(6,[],0) :: rest)→∃l',topLoop ts k acc s=(acc++l',adv s (tkSs l).length)∧l'.map bareS=l.map bareS
 | [],k,acc,s,rest,ho,_,_,_,hk,hA=>by
  obtain⟨k,rfl⟩:∃k',k=k'+1:=⟨k-1,by simp at hk;omega⟩;rw[tkSs]at hA ⊢;refine⟨[],?_,rfl⟩;rw[topLoop,za4 ho hA,if_neg (by rw[ho];decide)]
  simp[adv]
 | x :: l,k,acc,s,rest,ho,hp,hb,hl,hk,hA=>by
  obtain⟨k,rfl⟩:∃k',k=k'+1:=⟨k-1,by simp at hk;omega⟩;obtain⟨w1,w2⟩:=hl x sy;rw[tkSs,as9]at hA;obtain⟨T,r,eT,hT⟩:=zfp w1
  have hse:kindIs ts 6 s=false:=by
   have hA':=hA;rw[eT]at hA';rw[za4 ho hA']
   rfl
  obtain⟨x',e1,e2⟩:=zpe 14 x w1 om s _ ho hp om hA (zhb (zfm (by decide)) (fun y hy=>(hl y (by simp[hy])).1) (Hd.mk (by decide)));obtain⟨l',e3,e4⟩:=zj6 l k (acc++[x']) (adv s (tkSt x).length) rest ho hp hb (fun y hy=>hl y (by simp[hy])) (by simp at hk;omega) (At.right hA);refine⟨x' :: l',?_,by rw[List.map_cons,List.map_cons,e2,e4]⟩;rw[topLoop,hse,if_pos (by rw[ho];rfl),e1];dsimp only;rw[e3,zai,as9];exact Prod.ext rfl (za5 (by rw[tkSs,la9]))
theorem zrn{l:List Dc}(hl:∀d∈l,WfD us d):l.length≤(l.flatMap tkDc).length:=by
 induction l with
 | nil=>simp
 | cons x l ih =>
  obtain⟨T,r,e,_⟩:=zma (hl x sy);rw[List.flatMap_cons,e];have:=ih fun y hy=>hl y (by simp[hy])
  simp only[List.length_cons,List.length_append];omega
theorem zlf{t:Sr}(hd:∀d∈t.decls,WfD us d)(hb:∀x∈t.body,WfS us x∧bd x≤12)(h:ts.map Lx.key=tkTop t++[(6,[],0)]):∃t',parseT ts=(t',(0,0))∧bareT t'=bareT t:=by
 have hA:At ts s0.i (t.decls.flatMap tkDc++(tkSs t.body++[(6,[],0)])):=by
  refine At.of_map _ 0 ?_;rw[List.drop_zero,h]
  unfold tkTop
  rw[as9]
 have hn:=congrArg List.length h;rw[List.length_map]at hn
 unfold tkTop at hn
 simp only[List.length_append,List.length_cons,List.length_nil]at hn;have h1:=zrn hd;have h2:=zpa fun x hx=>(hb x hx).1
 obtain⟨ds,e1,b1⟩:=ziz t.decls (ts.length+1) [] s0 _ rfl rfl hd om hA (zhb (zfm (by decide)) (fun x hx=>(hb x hx).1) (Hd.mk (by decide)));obtain⟨bs,e2,b2⟩:=zj6 t.body (ts.length+2) [] (adv s0 (t.decls.flatMap tkDc).length) [] rfl rfl rfl hb om (At.right hA);refine⟨⟨ds,bs⟩,?_,by unfold bareT;dsimp only;rw[b1,b2]⟩
 unfold parseT
 dsimp only;rw[e1];dsimp only;rw[e2]
 rfl
end
theorem sum_b(e:Ex):(bare e).sum=e.sum:=by
 obtain⟨op,num,text,a,args⟩:=e;rw[bare,zav]
 show((decide (op=m_plus)|| decide (op=m_minus)) && decide ((args.map bare).length=2))=_
 rw[List.length_map]
 rfl
theorem prod_b(e:Ex):(bare e).prod=e.prod:=by
 obtain⟨op,num,text,a,args⟩:=e;rw[bare,zav]
 show(decide (op=m_star) && decide ((args.map bare).length=2))=_
 rw[List.length_map]
 rfl
theorem prB_b(op:ByteArray)(num:Int)(text:ByteArray)(args:List Ex)(ps:List (List UInt8)):prB op num text (bareL args) ps=prB op num text args ps:=by
 rw[zav]
 unfold prB
 match args with
 | []=>rfl
 | [a]=>rfl
 | [a,b] =>
  match ps with
  | []=>rfl
  | [_]=>rfl
  | [p,q]=>simp only[List.map_cons,List.map_nil,sum_b,prod_b]
  | _ :: _ :: _ :: _=>rfl
 | a :: b :: c :: l=>rfl
mutual
theorem prE_b:∀e,prE (bare e)=prE e
 | .mk op num text a args=>by rw[bare,prE,prE,prL_b args,prB_b]
theorem prL_b:∀l,prL (bareL l)=prL l
 | []=>by rw[bareL]
 | e :: l=>by rw[bareL,prL,prL,prE_b e,prL_b l]
end
theorem op_b(e:Ex):(bare e).op=e.op:=by
 obtain⟨op,num,text,a,args⟩:=e;rw[bare];rfl
theorem prR_b(l:List Rf):prR (l.map bareR)=prR l:=by unfold prR;rw[List.map_map];rfl
theorem nmd_b(w:List UInt8)(r:Rf):nmd w (bareR r)=nmd w r:=rfl
theorem zod(kind:ByteArray)(name:Rf)(a b c:Ex)(routes:List Rf)(block tag:Rf):prLine kind (bareR name) (bare a) (bare b) (bare c) (routes.map bareR) (bareR block) (bareR tag)=prLine kind name a b c routes block tag:=by
 unfold prLine
 rw[prE_b,prE_b,prE_b,prR_b,nmd_b,nmd_b]
 rfl
mutual
theorem prSt_b:∀s d,prSt (bareS s) d=prSt s d
 | .mk kind a name x y z routes block tag body els,d=>by
  rw[bareS,prSt,prSt,prE_b,prSs_b body,prSs_b els,zod,show(bareSs els).isEmpty=els.isEmpty by cases els <;> simp[bareSs]]
  rfl
theorem prSs_b:∀l d,prSs (bareSs l) d=prSs l d
 | [],d=>by rw[bareSs]
 | s :: l,d=>by rw[bareSs,prSs,prSs,prSt_b s,prSs_b l]
end
theorem zpf(c:UInt8)(e:Ex):prAt c (bare e)=prAt c e:=by unfold prAt;rw[op_b,prE_b]
theorem prPl_b(p:Pl):prPl (bareP p)=prPl p:=by
 unfold prPl bareP
 dsimp only;rw[zpf,zpf]
 rfl
theorem prDc_b(d:Dc):prDc (bareD d)=prDc d:=by
 unfold prDc bareD
 dsimp only;rw[prE_b,List.map_map,show prPl ∘ bareP=prPl from funext prPl_b]
 rfl
theorem zk9(t:Sr):prTop (bareT t)=prTop t:=by
 unfold prTop bareT
 dsimp only;rw[←zau,prSs_b]
 congr 1
 induction t.decls with
 | nil=>rfl
 | cons d l ih=>rw[List.map_cons,List.flatMap_cons,List.flatMap_cons,prDc_b,ih]
theorem zle{s:List UInt8}(h:(parse s).2=(0,0)):∃us,(∀i,TkP (tokAt us i))∧(∀d∈(parse s).1.decls,WfD us d)∧(∀x∈(parse s).1.body,WfS us x∧bd x≤12):=by
 rcases hR:Lx.scan s with ⟨⟨p,q⟩,ts⟩
 unfold parse at h ⊢
 rw[hR]at h ⊢;dsimp only at h ⊢
 by_cases hp:p=0
 · subst hp
   have hq:q=0:=by
    rcases Lx.scan_cases s with ⟨p',q',h1,h2⟩|⟨us,h1,_⟩
    · rw[hR]at h1
      injection h1 with h3
      injection h3 with h3 h4
      omega
    · rw[hR]at h1
      injection h1 with h3
      injection h3
   subst hq;obtain⟨hE,h0,hn,_⟩:=zem hR;obtain⟨r1,r2,r3,r4,r5⟩:=zgp hE (tk_ok hR) om h0;rw[if_pos rfl];exact⟨ts,tkp_at hR,r1,r2⟩
 · rw[if_neg hp]at h
   injection h with h1 h2
   omega
theorem zhl{s:List UInt8}(h:(parse s).2=(0,0))(hl:(prTop (parse s).1).length≤8000):(parse (prTop (parse s).1)).2=(0,0)∧bareT (parse (prTop (parse s).1)).1=bareT (parse s).1∧prTop (parse (prTop (parse s).1)).1=prTop (parse s).1:=by
 obtain⟨us,HP,hd,hb⟩:=zle h;generalize (parse s).1=t at *;obtain⟨ts,e1,e2⟩:=zna HP hd (fun x hx=>(hb x hx).1) hl;obtain⟨t',e3,e4⟩:=zlf hd hb e2
 have e5:parse (prTop t)=(t',(0,0)):=by
  unfold parse
  dsimp only;rw[e1];dsimp only;rw[if_pos rfl,e3]
 rw[e5];exact⟨rfl,e4,by dsimp only;rw[←zk9,e4,zk9]⟩
theorem zjn{l:List UInt8}(hl:8000<l.length):parse l=(⟨[],[]⟩,(2,0)):=by
 have:Lx.scan l=((2,0),[]):=by unfold Lx.scan;rw[if_pos om]
 unfold parse
 dsimp only;rw[this]
 rfl
end
end Go.Proofs.YtafjkbbiaopemaaGreatDoor.Tr
