/- Part of the proof. -/
import Derived.Deep.RegionLaw
import Derived.Test.YtafjkbbiaopemaaGreatDoorPrx02
set_option linter.all false
set_option maxRecDepth 100000
set_option maxHeartbeats 0
namespace Go.Proofs.YtafjkbbiaopemaaGreatDoor
open Go.RowKit
def bytesOf(l:List UInt8):ByteArray:=⟨l.toArray⟩
def tokCells(t:Lx.Tok):List Value:=[.int .i64 t.kind,.string (bytesOf t.text),.int .i64 t.num,.int .i64 t.at_]
def toksCells(l:List Lx.Tok):List Value:=l.flatMap tokCells
theorem ze9(l:List Lx.Tok)(t:Lx.Tok):toksCells (l++[t])=toksCells l++tokCells t:=by simp[toksCells]
theorem eTok:ElemIs Tryz.prog 72 4 40:=ElemIs.of (z:=.agg #[.int .i64 0,.string ByteArray.empty,.int .i64 0,.int .i64 0]) kr rfl om
theorem zbq{w:World}{base g:Nat}{e t:TypeId}{size n:Nat}{v:Value}{xs cs:List Value}(h:w.ownsRow base e size v n xs)(hg:Blk w g t cs)(hne:e≠t):v.ownBlock≠some g:=by
 rcases h.2 with ⟨rfl,_⟩|⟨g',cap,cur,rfl,_,hh,_⟩
 · simp[Value.ownBlock]
 · intro he
   have:g'=g:=by simpa[Value.ownBlock] using he
   subst this
   unfold Blk at hg
   rw[hh]at hg
   injection hg with hg
   injection hg with _ ht
   exact hne ht
structure St(w:World)(B g:Nat)(s:ByteArray)(i:Nat)(ts:List Lx.Tok):Prop where
 ex:∃A c,Blk w g 125 (scn s i (.slice A ts.length c))∧w.ownsRow B 72 4 (.slice A ts.length c) ts.length (toksCells ts)
 le:B≤g
theorem ze8(B g:Nat)(s:ByteArray)(i j:Nat)(ts:List Lx.Tok)(k:Nat)(t:List UInt8)(m:Nat)(w:World)(h:St w B g s i ts)(hn:ts.length≤100000):
 Calls Tryz.prog 80 #[.pointer (some ⟨g,0,none⟩),.int .i64 k,.string (bytesOf t),.int .i64 m,.int .i64 j] w fun e w' =>
  e=.returned (.tuple #[])∧St w' B g s j (ts++[⟨k,t,m,i⟩])∧Below B w w':=by
 obtain⟨⟨A,c,hb,hown⟩,hBg⟩:=h;generalize hN:ts.length=n at *;have HN:=qh hN;clear hN;have hne:=zbq hown hb (by decide);have HNE:=qh hne;clear hne;have c1:=(scn1 hb);have c2:=(scn2 hb);have hgs:=hb.lt;generalize hT:bytesOf t=T at *;have HT:=qh hT;clear hT
 go_enter Tryz.func80, Tryz.ntmps80
 go_wp2_with fail
 have f2:=hb.frozen 2
 go_region_law ((refine zfo rfl (.tmp 14) (.tmp 23) 65 rfl B 72 4 40 Tryz.underlying65 eTok (.slice A n c) n (toksCells ts) rr (by exact hown.alloc _) (some ⟨w.heap.size,0,none⟩) 1 1 [.int .i64 k,.string T,.int .i64 m,.int .i64 i] rr (by exact RdS.new _ _ [.int .i64 k,.string T,.int .i64 m,.int .i64 i] 4 rfl) (by simp[Value.oneCell']) om om (by simp;omega) ?_;intro A2 c2' w2 hown2 hc2 hg2 hat2;have hb2:Blk w2 g 125 (scn s i (.slice A n c)):=Blk.grown (hb.alloc _).drew hg2 (fun e=>HNE.out e.symm);have c2x:=scn2 hb2;have f2x:=hb2.frozen 2))
 all_goals
   have hB2:Below B w w2:=((Below.refl _ _).alloc om _).drew.grown hg2 (by simp;omega) (fun q hq=>(hown.lt q hq).1);have hne2:=zbq hown2 hb2 (by decide);have hb3:=zm9 (lv':=.slice A2 (n+1) c2') hb2
   have hown3:(w2.setCell ⟨g,2,none⟩ (.slice A2 (n+1) c2')).ownsRow B 72 4 (.slice A2 (n+1) c2') (n+1) (toksCells ts++[.int .i64 k,.string T,.int .i64 m,.int .i64 i]) :=
    hown2.kept (row:=some g) ⟨rfl,rfl,rfl,by simp[World.setCell],fun q _ hq=>Below.heap_setCell w2 ⟨g,2,none⟩ _ q (fun e=>hq (by rw[e]))⟩ (.inr hne2)
   have hB3:Below B w (w2.setCell ⟨g,2,none⟩ (.slice A2 (n+1) c2')):=hB2.setCell hBg _;clear hB2 hne2 hg2 hat2 hown2 hb2 c2x f2x hown hb c1 c2 f2;generalize w2.setCell ⟨g,2,none⟩ (.slice A2 (n+1) c2')=w3 at *;have c1:=scn1 hb3;have f1:=hb3.frozen 1
   go_wp2_with fail
   have hne3:=zbq hown3 hb3 (by decide)
   have hown4:(w3.setCell ⟨g,1,none⟩ (.int .i64 j)).ownsRow B 72 4 (.slice A2 (n+1) c2') (n+1) (toksCells ts++[.int .i64 k,.string T,.int .i64 m,.int .i64 i]) :=
    hown3.kept (row:=some g) ⟨rfl,rfl,rfl,by simp[World.setCell],fun q _ hq=>Below.heap_setCell w3 ⟨g,1,none⟩ _ q (fun e=>hq (by rw[e]))⟩ (.inr hne3)
   refine bodyPost_end (results_none rfl _ _ _) rfl ⟨rfl,⟨⟨A2,c2',?_,?_⟩,hBg⟩,hB3.setCell hBg _⟩
   · rw[la9,HN.out]
     exact zft hb3
   · rw[la9,HN.out,ze9]
     rw[←HT.out]at hown4;exact hown4
theorem St.below{w w':World}{B g:Nat}{s:ByteArray}{i:Nat}{ts:List Lx.Tok}(h:St w B g s i ts){B':Nat}(hb:Below B' w w')(hg:∀k,B≤k→k<w.heap.size→k<B'):St w' B g s i ts:=by
 obtain⟨⟨A,c,h1,h2⟩,hle⟩:=h;refine⟨⟨A,c,h1.below hb (hg g hle h1.lt),?_⟩,hle⟩;refine⟨h2.1,?_⟩
 rcases h2.2 with h3|⟨g',cap,cur,hv,hg',hh,r⟩
 · exact .inl h3
 · exact .inr ⟨g',cap,cur,hv,hg',(hb.block g' (hg g' hg' (Array.getElem?_eq_some_iff.1 hh).1)).trans hh,r⟩
theorem St.drewN{w:World}{B g:Nat}{s:ByteArray}{i:Nat}{ts:List Lx.Tok}(h:St w B g s i ts)(n:Nat):St (w.drewN n) B g s i ts:=⟨h.ex,h.le⟩
theorem St.c0{w:World}{B g:Nat}{s:ByteArray}{i:Nat}{ts:List Lx.Tok}(h:St w B g s i ts):w.cell? ⟨g,0,none⟩=some (.string s):=by
 obtain⟨⟨A,c,h1,h2⟩,hle⟩:=h;exact scn0 h1
theorem St.c1{w:World}{B g:Nat}{s:ByteArray}{i:Nat}{ts:List Lx.Tok}(h:St w B g s i ts):w.cell? ⟨g,1,none⟩=some (.int .i64 i):=by
 obtain⟨⟨A,c,h1,h2⟩,hle⟩:=h;exact scn1 h1
theorem zd2(s:ByteArray)(a b:Nat):s.extract a b=bytesOf ((s.data.toList.drop a).take (b-a)):=by
 apply ByteArray.ext
 rw[ByteArray.data_extract]
 unfold bytesOf
 apply Array.toList_inj.1
 rw[Array.toList_extract,List.extract_eq_take_drop]
theorem zaz(l:List UInt8):(bytesOf l).data.toList=l:=by simp[bytesOf]
theorem zmz{p:UInt8→Bool}(l:List UInt8):l.take (l.takeWhile p).length=l.takeWhile p:=by
 have:=List.takeWhile_prefix p (l:=l);exact(List.prefix_iff_eq_take.1 this).symm
theorem zco{B g:Nat}{s:ByteArray}{i E:Nat}{t:List UInt8}{ts:List Lx.Tok}{w:World}(letters:Bool)(h:St w B g s i ts)(hi:i≤s.size)(hs:s.size≤8000)(ht:t=(s.data.toList.drop i).takeWhile (runP letters))(hE:E=i+t.length):
 E≤s.size∧i≤E∧(E:Int)-(i:Int)=(t.length:Int)∧s.extract i E=bytesOf t ∧
 Calls Tryz.prog 126 #[.pointer (some ⟨g,0,none⟩),.int .i64 i,.bool letters] w fun e w'=>e=.returned (.int .i64 E)∧w=w':=by
 have c0:=h.c0
 have hEs:E≤s.size:=by
  have:=zkp (p:=runP letters) (l:=s.data.toList) (i:=i) (by simpa using hi);rw[←ht]at this
  simp at this
  omega
 have hrun:=zqe g s i letters w c0 hi hs;rw[←ht,←hE]at hrun
 have hext:s.extract i E=bytesOf t:=by
  rw[zd2,hE,Nat.add_sub_cancel_left,ht,zmz]
 exact⟨hEs,by omega,by omega,hext,hrun.mono fun _ _ ⟨a,b⟩=>⟨a,b.symm⟩⟩
theorem zoo(B g:Nat)(s:ByteArray)(i E:Nat)(t:List UInt8)(ts:List Lx.Tok)(w:World)(h:St w B g s i ts)(hi:i≤s.size)(hs:s.size≤8000)
 (ht:t=(s.data.toList.drop i).takeWhile Lx.alnum) (hE:E=i+t.length) (hbig:t.length>16):
 Calls Tryz.prog 106 #[.pointer (some ⟨g,0,none⟩)] w fun e w'=>e=.returned (.int .i64 i)∧w=w':=by
 have c0:=h.c0;have c1:=h.c1;obtain⟨hEs,hiE,hEl,hext,hrun⟩:=zco true h hi hs ht hE;have HRUN:=qh hrun;have HEL:=qh hEl;clear hrun ht hE hEl;have hd:decide ((16:Int)<(E:Int)-(i:Int))=true:=by rw[HEL.out];simp;omega
 go_enter Tryz.func106, Tryz.ntmps106
 go_wp2_with (go_at_call 126;refine HRUN.out.mono ?_;rintro e w' ⟨rfl,rfl⟩)
 go_ret;exact⟨rfl,rfl⟩
theorem zq2(B g:Nat)(s:ByteArray)(i E:Nat)(t:List UInt8)(ts:List Lx.Tok)(w:World)(h:St w B g s i ts)(hn:ts.length≤100000)(hi:i≤s.size)(hs:s.size≤8000)
 (ht:t=(s.data.toList.drop i).takeWhile Lx.alnum) (hE:E=i+t.length) (hbig:¬t.length>16):
 Calls Tryz.prog 106 #[.pointer (some ⟨g,0,none⟩)] w fun e w'=>e=.returned (.int .i64 (-1))∧St w' B g s E (ts++[⟨if Lx.reserved t then 2 else 1,t,0,i⟩])∧Below B w w':=by
 have c0:=h.c0;have c1:=h.c1;obtain⟨hEs,hiE,hEl,hext,hrun⟩:=zco true h hi hs ht hE;have HRUN:=qh hrun;have HEL:=qh hEl;clear hrun ht hE hEl;have hd:decide ((16:Int)<(E:Int)-(i:Int))=false:=by rw[HEL.out];simp;omega
 have hres:∀w,Calls Tryz.prog 127 #[.string (bytesOf t)] w fun e w'=>e=.returned (.bool (Lx.reserved t))∧w=w':=fun w=>by
  have:=zgg (bytesOf t) w;rw[zaz]at this;exact this.mono fun _ _ ⟨a,b⟩=>⟨a,b.symm⟩
 have HRES:=qh hres;have j0:(0:Int)≤(i:Int):=om;have j1:(i:Int)≤(E:Int):=om;have j2:(E:Int)≤(s.size:Int):=om;clear hres;obtain⟨K,hK⟩:∃K:Nat,K=if Lx.reserved t then 2 else 1:=⟨_,rfl⟩;rw[←hK]
 by_cases hr:Lx.reserved t=true
 · have hK':K=2:=by rw[hK,hr];rfl
   clear hK;subst hK'
   go_enter Tryz.func106, Tryz.ntmps106
   go_wp2_with (go_at_call 126;refine HRUN.out.mono ?_;rintro e w' ⟨rfl,rfl⟩)
   go_quiet (fail)
   have h1:=h.drewN nq;have HB:Below B w (w.drewN nq):=below_drewN (Below.refl _ _) _;clear c0 c1 HRUN h;generalize w.drewN nq=w1 at *
   go_wp2_with (first
    | (go_at_call 127;refine(HRES.out _).mono ?_;rintro e w' ⟨rfl,rfl⟩)
    | (go_at_call 80;refine(ze8 B g s i E ts 2 t 0 _ h1 hn).mono ?_;rintro e w2 ⟨rfl,h2,hB2⟩))
   go_ret;exact⟨rfl,h2,HB.trans hB2⟩
 · have hr':Lx.reserved t=false:=by simpa using hr
   have hK':K=1:=by rw[hK,hr'];rfl
   clear hK hr;subst hK'
   go_enter Tryz.func106, Tryz.ntmps106
   go_wp2_with (go_at_call 126;refine HRUN.out.mono ?_;rintro e w' ⟨rfl,rfl⟩)
   go_quiet (fail)
   have h1:=h.drewN nq;have HB:Below B w (w.drewN nq):=below_drewN (Below.refl _ _) _;clear c0 c1 HRUN h;generalize w.drewN nq=w1 at *
   go_wp2_with (first
    | (go_at_call 127;refine(HRES.out _).mono ?_;rintro e w' ⟨rfl,rfl⟩)
    | (go_at_call 80;refine(ze8 B g s i E ts 1 t 0 _ h1 hn).mono ?_;rintro e w2 ⟨rfl,h2,hB2⟩))
   go_ret;exact⟨rfl,h2,HB.trans hB2⟩
theorem zbb(t:List UInt8):(bytesOf t).size=t.length:=by show t.toArray.size=_;simp
theorem zjq(t:List UInt8)(k:Nat)(x:UInt8)(h:t[k]? = some x):Lx.numOf (t.take (k+1))=10*Lx.numOf (t.take k)+(x.toNat-48):=by
 rw[List.take_add_one,h];simp[Lx.numOf]
theorem zim(t:List UInt8):(∀c∈t,Lx.digit c=true)→Lx.numOf t<10^t.length:=by
 intro h
 have key:∀(l:List UInt8) (n:Nat),(∀c∈l,Lx.digit c=true)→l.foldl (fun n c=>10*n+(c.toNat-48)) n<(n+1)*10^l.length:=by
  intro l
  induction l with
  | nil=>intro n _;simp
  | cons c l ih =>
   intro n hc;have h1:=ih (10*n+(c.toNat-48)) (fun d hd=>hc d (List.mem_cons_of_mem _ hd));have h2:=hc c (List.mem_cons_self ..);rw[zeh]at h2
   simp at h2
   have h3:(10*n+(c.toNat-48)+1)*10^l.length≤((n+1)*10)*10^l.length:=Nat.mul_le_mul_right _ om;rw[List.foldl_cons,List.length_cons,Nat.pow_succ,Nat.mul_comm (10^l.length),←Nat.mul_assoc];omega
 have:=key t 0 h
 simpa[Lx.numOf] using this
theorem zji{p:UInt8→Bool}(l:List UInt8):∀c∈l.takeWhile p,p c=true:=by
 induction l with
 | nil=>simp
 | cons a l ih =>
  by_cases h:p a=true
  · simp[h];exact ih
  · simp[h]
theorem zjp(B g:Nat)(s:ByteArray)(i E:Nat)(t:List UInt8)(ts:List Lx.Tok)(w:World)(h:St w B g s i ts)(hi:i<s.size)(hs:s.size≤8000)
 (ht:t=(s.data.toList.drop i).takeWhile Lx.digit) (hE:E=i+t.length) (x:UInt8) (hx:s.data.toList[i]? = some x) (hd:Lx.digit x=true) (hbig:t.length>9∨(t.length>1∧x=48)):
 Calls Tryz.prog 108 #[.pointer (some ⟨g,0,none⟩)] w fun e w'=>e=.returned (.int .i64 i)∧∃q,w'=w.drewN q:=by
 have c0:=h.c0;have c1:=h.c1;obtain⟨hEs,hiE,hEl,hext,hrun⟩:=zco false h om hs ht hE;have HRUN:=qh hrun;have HEL:=qh hEl;have ht0:t[0]? = some x:=by rw[ht,zag hx];simp[hd]
 have hsz:=zbb t;have j0:(0:Int)≤(i:Int):=om;have j1:(i:Int)≤(E:Int):=om;have j2:(E:Int)≤(s.size:Int):=om;have hgl:t.length≤8000:=om;generalize hT:bytesOf t=T at *
 have hxT:∀(hh:0<T.size),T[0]=x:=fun hh=>by
  subst hT;have:=zb3 (bytesOf t) 0 hh;rw[zaz,ht0]at this
  injection this with this
  exact this.symm
 generalize hL:t.length=L at *;clear hrun ht hE hEl ht0 hT hx
 rcases Nat.lt_or_ge 9 L with h9|h9
 · have e1:decide ((9:Int)<(T.size:Int))=true:=by rw[hsz];simp;omega
   go_enter Tryz.func108, Tryz.ntmps108
   go_wp2_with (go_at_call 126;refine HRUN.out.mono ?_;rintro e w' ⟨rfl,rfl⟩)
   go_quiet (fail)
   have c0':(w.drewN nq).cell? ⟨g,0,none⟩=some (.string s):=c0;have c1':(w.drewN nq).cell? ⟨g,1,none⟩=some (.int .i64 i):=c1
   go_wp2_with fail
   go_ret;exact⟨rfl,nq,rfl⟩
 · obtain⟨h1,rfl⟩:L>1∧x=48:=by
    rcases hbig with hh|hh
    · omega
    · exact hh
   have e1:decide ((9:Int)<(T.size:Int))=false:=by rw[hsz];simp;omega
   have e2:decide ((1:Int)<(T.size:Int))=true:=by rw[hsz];simp;omega
   have hT0:0<T.size:=om;have hx0:=hxT hT0;clear hxT
   go_enter Tryz.func108, Tryz.ntmps108
   go_wp2_with (go_at_call 126;refine HRUN.out.mono ?_;rintro e w' ⟨rfl,rfl⟩)
   go_quiet (fail)
   have c0':(w.drewN nq).cell? ⟨g,0,none⟩=some (.string s):=c0;have c1':(w.drewN nq).cell? ⟨g,1,none⟩=some (.int .i64 i):=c1
   go_wp2_with fail
   go_ret;exact⟨rfl,nq,rfl⟩
theorem zjo(B g:Nat)(s:ByteArray)(i E:Nat)(t:List UInt8)(ts:List Lx.Tok)(w:World)(h:St w B g s i ts)(hi:i<s.size)(hs:s.size≤8000)
 (ht:t=(s.data.toList.drop i).takeWhile Lx.digit) (hE:E=i+t.length) (x:UInt8) (hx:s.data.toList[i]? = some x) (hd:Lx.digit x=true) (hbig:¬(t.length>9∨(t.length>1∧x=48)))
 (y:UInt8) (hy:s.data.toList[E]? = some y) (hl:Lx.letter y=true):
 Calls Tryz.prog 108 #[.pointer (some ⟨g,0,none⟩)] w fun e w'=>e=.returned (.int .i64 E)∧∃q,w'=w.drewN q:=by
 have c0:=h.c0;have c1:=h.c1;obtain⟨hEs,hiE,hEl,hext,hrun⟩:=zco false h om hs ht hE;have HRUN:=qh hrun;have HEL:=qh hEl;have ht0:t[0]? = some x:=by rw[ht,zag hx];simp[hd]
 have ht1:0<t.length:=(gi9.1 ht0).1;have hsz:=zbb t;have j0:(0:Int)≤(i:Int):=om;have j1:(i:Int)≤(E:Int):=om;have j2:(E:Int)≤(s.size:Int):=om;have hgl:t.length≤8000:=om;have hE2:E<s.size:=by have:=(gi9.1 hy).1;simpa using this
 have hyy:s[E]=y:=by
  have:=zb3 s E hE2;rw[hy]at this
  injection this with this
  exact this.symm
 have j3:(E:Int)<(s.size:Int):=om;have j4:(0:Int)≤(E:Int):=om;generalize hT:bytesOf t=T at *
 have hxT:∀(hh:0<T.size),T[0]=x:=fun hh=>by
  subst hT;have:=zb3 (bytesOf t) 0 hh;rw[zaz,ht0]at this
  injection this with this
  exact this.symm
 generalize hL:t.length=L at *;have hT0:0<T.size:=om;have hx0:=hxT hT0;have hc9:¬L>9∧(L>1→x≠48):=⟨fun hh=>hbig (.inl hh),fun hh e=>hbig (.inr ⟨hh,e⟩)⟩;obtain⟨h9,h48⟩:=hc9;clear hrun ht hE hEl ht0 hT hx hxT hbig hy;have e1:decide ((9:Int)<(T.size:Int))=false:=by rw[hsz];simp;omega
 by_cases h1:L>1
 · have e2:decide ((1:Int)<(T.size:Int))=true:=by rw[hsz];simp;omega
   have e3:((x.toNat:Int) == 48)=false:=za2 (k:=48) (h48 h1);clear h48
   go_enter Tryz.func108, Tryz.ntmps108
   go_wp2_with (go_at_call 126;refine HRUN.out.mono ?_;rintro e w' ⟨rfl,rfl⟩)
   go_quiet (fail)
   have c0':(w.drewN nq).cell? ⟨g,0,none⟩=some (.string s):=c0;have c1':(w.drewN nq).cell? ⟨g,1,none⟩=some (.int .i64 i):=c1
   go_wp2_with (go_at_call 105;refine(zbr _ _).mono ?_;rintro e w' ⟨rfl,rfl⟩)
   go_ret;exact⟨rfl,nq,rfl⟩
 · have e2:decide ((1:Int)<(T.size:Int))=false:=by rw[hsz];simp;omega
   clear h48
   go_enter Tryz.func108, Tryz.ntmps108
   go_wp2_with (go_at_call 126;refine HRUN.out.mono ?_;rintro e w' ⟨rfl,rfl⟩)
   go_quiet (fail)
   have c0':(w.drewN nq).cell? ⟨g,0,none⟩=some (.string s):=c0;have c1':(w.drewN nq).cell? ⟨g,1,none⟩=some (.int .i64 i):=c1
   go_wp2_with (go_at_call 105;refine(zbr _ _).mono ?_;rintro e w' ⟨rfl,rfl⟩)
   go_ret;exact⟨rfl,nq,rfl⟩
theorem zgr(B g:Nat)(s:ByteArray)(i E:Nat)(t:List UInt8)(ts:List Lx.Tok)(w:World)(h:St w B g s i ts)(hn:ts.length≤100000)(hi:i<s.size)(hs:s.size≤8000)
 (ht:t=(s.data.toList.drop i).takeWhile Lx.digit) (hE:E=i+t.length) (x:UInt8) (hx:s.data.toList[i]? = some x) (hd:Lx.digit x=true) (hbig:¬(t.length>9∨(t.length>1∧x=48)))
 (hy:∀y,s.data.toList[E]? = some y→Lx.letter y=false):
 Calls Tryz.prog 108 #[.pointer (some ⟨g,0,none⟩)] w fun e w'=>e=.returned (.int .i64 (-1))∧St w' B g s E (ts++[⟨3,t,Lx.numOf t,i⟩])∧Below B w w':=by
 have c0:=h.c0;have c1:=h.c1;obtain⟨hEs,hiE,hEl,hext,hrun⟩:=zco false h om hs ht hE;have HRUN:=qh hrun;have HEL:=qh hEl;have ht0:t[0]? = some x:=by rw[ht,zag hx];simp[hd]
 have ht1:0<t.length:=(gi9.1 ht0).1;have hsz:=zbb t;have HDG:Hid (∀c∈t,Lx.digit c=true):=by show ∀c∈t,_;rw[ht];exact zji _
 have j0:(0:Int)≤(i:Int):=om;have j1:(i:Int)≤(E:Int):=om;have j2:(E:Int)≤(s.size:Int):=om
 have hxT:∀k (hh:k<(bytesOf t).size),∃y,(bytesOf t)[k]=y∧t[k]? = some y:=fun k hh=>by
  have:=zb3 (bytesOf t) k hh;rw[zaz]at this;exact⟨_,rfl,this⟩
 have HXT:=qh hxT;have hT0:0<(bytesOf t).size:=om;obtain⟨y0,hx0,hy0⟩:=hxT 0 hT0;have hxy:y0=x:=by rw[ht0]at hy0;injection hy0 with hy0;exact hy0.symm
 subst hxy;have hc9:¬t.length>9∧(t.length>1→y0≠48):=⟨fun hh=>hbig (.inl hh),fun hh e=>hbig (.inr ⟨hh,e⟩)⟩;obtain⟨h9,h48⟩:=hc9;have e1:decide ((9:Int)<((bytesOf t).size:Int))=false:=by rw[hsz];simp;omega
 have hcase:(decide ((1:Int)<((bytesOf t).size:Int))=true∧((y0.toNat:Int) == 48)=false)∨decide ((1:Int)<((bytesOf t).size:Int))=false:=by
  by_cases h1:t.length>1
  · exact .inl ⟨by rw[hsz];simp;omega,za2 (k:=48) (h48 h1)⟩
  · exact .inr (by rw[hsz];simp;omega)
 have hcase2:(∃y,∃hh:E<s.size,s[E]=y∧Lx.letter y=false∧(E:Int)<(s.size:Int))∨s.size≤E:=by
  by_cases h1:E<s.size
  · exact .inl ⟨_,h1,rfl,hy _ (zb3 s E h1),by omega⟩
  · exact .inr om
 have HH:=qh h;have HSZ:=qh hsz;have hTl:(bytesOf t).size≤9:=om;clear hrun ht hE hEl ht0 hx hxT hbig hy h48 h9 hy0 hsz h;generalize hT:bytesOf t=T at *;have HT:=qh hT;clear hT;have j4:(0:Int)≤(E:Int):=om;have fin:∀(w1:World),w1.cell? ⟨g,0,none⟩=some (.string s)→True:=fun _ _=>trivial
 rcases hcase with ⟨e2,e3⟩|e2
 all_goals
   rcases hcase2 with ⟨y,hEE,hyy,hly,e4⟩|e4
 all_goals
   go_enter Tryz.func108, Tryz.ntmps108
   go_wp2_with (go_at_call 126;refine HRUN.out.mono ?_;rintro e w' ⟨rfl,rfl⟩)
   go_quiet (fail)
   have c0':(w.drewN nq).cell? ⟨g,0,none⟩=some (.string s):=c0;have c1':(w.drewN nq).cell? ⟨g,1,none⟩=some (.int .i64 i):=c1
   go_wp2_with (go_at_call 105;refine(zbr _ _).mono ?_;rintro e w' ⟨rfl,rfl⟩)
   go_loop [5,59] (fun v q=>∃k:Nat,k≤T.size∧q=.int .i64 k∧v=.int .i64 (Lx.numOf (t.take k))) (fun _ q=>T.size-(intOf q).toNat)
   case atStart=>exact⟨0,Nat.zero_le _,rfl,rfl⟩
   case round =>
    obtain⟨k,hk,rfl,rfl⟩:=hrel
    by_cases hlt:k<T.size
    · obtain⟨z,hz,hz'⟩:=HXT.out k hlt
      have hzd:=HDG.out z (mg9 hz');rw[zeh]at hzd;simp only[Bool.and_eq_true,decide_eq_true_eq]at hzd;obtain⟨z1,z2⟩:=hzd;have hnb:=zim (t.take k) (fun c hc=>HDG.out c (List.mem_of_mem_take hc))
      have hpw:10^(t.take k).length≤100000000:=by
       have:(10:Nat)^(t.take k).length≤10^8:=Nat.pow_le_pow_right om (by simp;omega)
       simpa using this
      have HST:=qh (zjq t k z hz');have hnl:Lx.numOf (t.take k)<100000000:=om;have k0:(0:Int)≤(k:Int):=om;have k1:(k:Int)<(T.size:Int):=om;clear hnb hpw hz';generalize Lx.numOf (t.take k)=N at *
      go_wp2_with fail
      go_round
      case rel=>exact⟨k+1,by omega,by go_num,by rw[HST.out];congr 1;omega⟩
      case measure=>simp[intOf];omega
    · have hkk:t.take k=t:=tk (by have:=HSZ.out;omega)
      rw[hkk];have HTT:=HT.out;subst HTT;have hadd:=ze8 B g s i E ts 3 t (Lx.numOf t) (w.drewN nq) (HH.out.drewN nq) hn;have HADD:=qh hadd;clear hadd hkk;generalize hNN:Lx.numOf t=N at *;have HNN:=qh hNN;clear hNN
      go_wp2_with (go_at_call 80;refine HADD.out.mono ?_;rintro e w2 ⟨rfl,h2,hB2⟩)
      go_ret;rw[HNN.out];exact⟨rfl,h2,(below_drewN (Below.refl _ _) _).trans hB2⟩
def escB(r:List UInt8):UInt8:=match Lx.esc r with|some (m,_)=>m|none=>0
def escN(r:List UInt8):Nat:=match Lx.esc r with|some (_,k)=>k|none=>0
theorem zpm(x:UInt8):Lib.indexByte Lx.hexDigits x=hexI x:=by
 have h:∀n:Fin 256,Lib.indexByte Lx.hexDigits (UInt8.ofNat n.val)=hexI (UInt8.ofNat n.val):=by decide +kernel
 have:=h ⟨x.toNat,x.toNat_lt⟩
 simpa using this
theorem ze0{x:UInt8}{v:Nat}(h:Lx.hexV x=some v):hexI x=v:=by unfold hexI;rw[h]
theorem zgy{x:UInt8}(h:Lx.hexV x=none):hexI x=-1:=by unfold hexI;rw[h]
theorem zl0{x:UInt8}{v:Nat}(h:Lx.hexV x=some v):v<16:=by
 have h1:=ze0 h;rw[zrf]at h1
 split at h1
 · omega
 · split at h1
   · omega
   · omega
theorem bget(l:List UInt8)(k:Nat)(x:UInt8)(hk:k<(bytesOf l).size)(h:l[k]? = some x):(bytesOf l)[k]=x:=by
 have:=zb3 (bytesOf l) k hk;rw[zaz,h]at this
 injection this with this
 exact this.symm
theorem zj0(g:Nat)(s:ByteArray)(i:Nat)(r:List UInt8)(w:World)(c0:w.cell? ⟨g,0,none⟩=some (.string s))(hi:i<s.size)(hs:s.size≤8000)(hr:r=s.data.toList.drop (i+1)):
 Calls Tryz.prog 128 #[.pointer (some ⟨g,0,none⟩),.int .i64 i] w fun e w'=>e=.returned (.tuple #[.int .u8 (escB r).toNat,.int .i64 (escN r)])∧∃q,w'=w.drewN q:=by
 have hext:s.extract (i+1) s.size=bytesOf r:=by
  rw[zd2,hr,tk sy]
 have hsz:=zbb r;have hrl:r.length≤8000:=by rw[hr];simp;omega
 have j0:(0:Int)≤(i:Int)+1:=om;have j1:(i:Int)+1≤(s.size:Int):=om;clear hr;have htl:(bytesOf r).toList=r:=by rw[ByteArray.toList_eq,zaz]
 cases r with
 | nil =>
  have hem:(bytesOf []).toList.isEmpty=true:=by rw[htl];rfl
  have HV:Hid (escB []=0∧escN []=0):=⟨rfl,rfl⟩;clear htl;generalize bytesOf []=T at *
  go_enter Tryz.func128, Tryz.ntmps128
  go_wp2_with fail
  go_ret2;exact⟨by rw[HV.out.1,HV.out.2];rfl,0,rfl⟩
 | cons c r' =>
  have hem:(bytesOf (c :: r')).toList.isEmpty=false:=by rw[htl];rfl
  have hp0:0<(bytesOf (c :: r')).size:=by rw[hsz];simp
  have hT0:(bytesOf (c :: r'))[0]'hp0=c:=bget _ 0 c hp0 rfl
  by_cases h34:c=34
  · have HV:Hid (escB (c :: r')=c∧escN (c :: r')=2):=by subst h34;exact⟨rfl,rfl⟩
    have e1:((c.toNat:Int) == 34)=true:=by rw[h34];rfl
    clear htl h34 hsz;generalize bytesOf (c :: r')=T at *
    go_enter Tryz.func128, Tryz.ntmps128
    go_wp2_with fail
    go_ret2;exact⟨by rw[HV.out.1,HV.out.2];rfl,0,rfl⟩
  · have e1:((c.toNat:Int) == 34)=false:=za2 (k:=34) h34
    by_cases h92:c=92
    · have HV:Hid (escB (c :: r')=c∧escN (c :: r')=2):=by subst h92;exact⟨rfl,rfl⟩
      have e2:((c.toNat:Int) == 92)=true:=by rw[h92];rfl
      clear htl h34 h92 hsz;generalize bytesOf (c :: r')=T at *
      go_enter Tryz.func128, Tryz.ntmps128
      go_wp2_with fail
      go_ret2;exact⟨by rw[HV.out.1,HV.out.2];rfl,0,rfl⟩
    · have e2:((c.toNat:Int) == 92)=false:=za2 (k:=92) h92
      by_cases h110:c=110
      · have HV:Hid (escB (c :: r')=10∧escN (c :: r')=2):=by subst h110;exact⟨rfl,rfl⟩
        have e3:((c.toNat:Int) == 110)=true:=by rw[h110];rfl
        clear htl h34 h92 h110 hsz;generalize bytesOf (c :: r')=T at *
        go_enter Tryz.func128, Tryz.ntmps128
        go_wp2_with fail
        go_ret2;exact⟨by rw[HV.out.1,HV.out.2];rfl,0,rfl⟩
      · have e3:((c.toNat:Int) == 110)=false:=za2 (k:=110) h110
        by_cases h120:c=120
        · have e4:((c.toNat:Int) == 120)=true:=by rw[h120];rfl
          match r' with
          | [] =>
           have HV:Hid (escB (c :: [])=0∧escN (c :: [])=0):=by subst h120;exact⟨rfl,rfl⟩
           have hs1:(bytesOf (c :: [])).size=1:=hsz;clear htl h34 h92 h110 h120 hsz;generalize bytesOf (c :: [])=T at *
           go_enter Tryz.func128, Tryz.ntmps128
           go_wp2_with fail
           go_ret2;exact⟨by rw[HV.out.1,HV.out.2];rfl,0,rfl⟩
          | [a] =>
           have HV:Hid (escB (c :: [a])=0∧escN (c :: [a])=0):=by subst h120;exact⟨rfl,rfl⟩
           have hs1:(bytesOf (c :: [a])).size=2:=hsz;clear htl h34 h92 h110 h120 hsz;generalize bytesOf (c :: [a])=T at *
           go_enter Tryz.func128, Tryz.ntmps128
           go_wp2_with fail
           go_ret2;exact⟨by rw[HV.out.1,HV.out.2];rfl,0,rfl⟩
          | a :: b :: r2 =>
           have hp2:2<(bytesOf (c :: a :: b :: r2)).size:=by rw[hsz];simp
           have hT1:(bytesOf (c :: a :: b :: r2))[1]'(Nat.lt_trans (by decide:1<2) hp2)=a:=bget _ 1 a (Nat.lt_trans (by decide:1<2) hp2) rfl;have hT2:(bytesOf (c :: a :: b :: r2))[2]'hp2=b:=bget _ 2 b hp2 rfl;have hsb:(bytesOf (c :: a :: b :: r2)).size≤8000:=by rw[hsz];exact hrl
           have hia:=zpm a;have hib:=zpm b
           unfold Lx.hexDigits at hia hib
           have HV:Hid (escB (c :: a :: b :: r2)=(match Lx.hexV a,Lx.hexV b with|some x,some y=>UInt8.ofNat (16*x+y)| _,_=>0)∧escN (c :: a :: b :: r2)=(match Lx.hexV a,Lx.hexV b with|some _,some _=>4|_,_=>0)):=by
            subst h120
            show _∧_
            have hesc:Lx.esc (120 :: a :: b :: r2)=(match Lx.hexV a,Lx.hexV b with|some x,some y=>some (UInt8.ofNat (16*x+y),4)| _,_=>none):=by rfl
            unfold escB escN
            rw[hesc]
            cases Lx.hexV a <;> cases Lx.hexV b <;> exact⟨rfl,rfl⟩
           clear htl h34 h92 h110 h120 hsz;generalize bytesOf (c :: a :: b :: r2)=T at *
           cases ha:Lx.hexV a with
           | none =>
            rw[zgy ha]at hia;have HV2:Hid (escB (c :: a :: b :: r2)=0∧escN (c :: a :: b :: r2)=0):=by have:=HV.out;rw[ha]at this;exact this
            clear HV ha;generalize hexI b=vb at *
            go_enter Tryz.func128, Tryz.ntmps128
            go_wp2_with fail
            go_quiet ((go_at_call 104;exact Calls.quiet_of_same (zax _ _ _)))
            go_wp2_with fail
            go_ret2;exact⟨by rw[HV2.out.1,HV2.out.2];rfl,nq,rfl⟩
           | some va =>
            rw[ze0 ha]at hia;have hva:=zl0 ha
            cases hb:Lx.hexV b with
            | none =>
             rw[zgy hb]at hib;have HV2:Hid (escB (c :: a :: b :: r2)=0∧escN (c :: a :: b :: r2)=0):=by have:=HV.out;rw[ha,hb]at this;exact this
             clear HV ha hb
             go_enter Tryz.func128, Tryz.ntmps128
             go_wp2_with fail
             go_quiet ((go_at_call 104;exact Calls.quiet_of_same (zax _ _ _)))
             go_wp2_with fail
             go_ret2;exact⟨by rw[HV2.out.1,HV2.out.2];rfl,nq,rfl⟩
            | some vb =>
             rw[ze0 hb]at hib;have hvb:=zl0 hb;have HV2:Hid (escB (c :: a :: b :: r2)=UInt8.ofNat (16*va+vb)∧escN (c :: a :: b :: r2)=4):=by have:=HV.out;rw[ha,hb]at this;exact this
             have hof:((UInt8.ofNat (16*va+vb)).toNat:Int)=16*(va:Int)+vb:=by simp;omega
             have HOF:=qh hof;clear HV ha hb hof
             go_enter Tryz.func128, Tryz.ntmps128
             go_wp2_with fail
             go_quiet ((go_at_call 104;exact Calls.quiet_of_same (zax _ _ _)))
             go_wp2_with fail
             go_ret2;refine⟨?_,nq,rfl⟩;rw[HV2.out.1,HV2.out.2,HOF.out]
             rfl
        · have e4:((c.toNat:Int) == 120)=false:=za2 (k:=120) h120
          have HV:Hid (escB (c :: r')=0∧escN (c :: r')=0):=by
           have:Lx.esc (c :: r')=none:=by simp[Lx.esc,h34,h92,h110,h120]
           show _∧_
           unfold escB escN
           rw[this];exact⟨rfl,rfl⟩
          clear htl h34 h92 h110 h120 hsz;generalize bytesOf (c :: r')=T at *
          go_enter Tryz.func128, Tryz.ntmps128
          go_wp2_with fail
          go_ret2;exact⟨by rw[HV.out.1,HV.out.2];rfl,0,rfl⟩
end Go.Proofs.YtafjkbbiaopemaaGreatDoor
