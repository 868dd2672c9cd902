/- Part of the proof. -/
import Derived.Deep.Slices
import Derived.DataReads
import Derived.Test.YtadopcjppijgiaaGreatSkp12
import Derived.Test.YtadopcjppijgiaaGreatSkp13
import Derived.Test.YtadopcjppijgiaaGreatSkp16
set_option linter.all false
set_option maxRecDepth 100000
set_option maxHeartbeats 0
namespace Go.Proofs.YtadopcjppijgiaaGreat
open Go.RowKit
section
open Go.ChangeShapes Go.WideShapes Go.ChangeAt Go.RowKit
def Small{H:Type}(B:Option Nat)(d:DataW H):Prop:=∀b,B=some b→Rows.uptoBulk d≤b
theorem zth{H:Type}{d:DataW H}{l:List (DataW H)}(h:d∈l):Rows.uptoBulk d≤Rows.uptoBulkAll l:=by
 induction l with
 | nil=>cases h
 | cons x r ih =>
  simp only[Rows.uptoBulkAll]
  cases List.mem_cons.1 h with
  | inl e=>subst e;omega
  | inr e=>have:=ih e;omega
theorem zv7{H:Type}(d:DataW H):1≤Rows.uptoBulk d:=by
 cases d with
 | lit l=>cases l <;> simp[Rows.uptoBulk]
 | nil=>simp[Rows.uptoBulk]
 | ptr d=>simp[Rows.uptoBulk]
 | slice elems spare=>simp[Rows.uptoBulk]
 | agg parts=>simp[Rows.uptoBulk]
 | iface t d=>simp[Rows.uptoBulk]
 | map entries=>simp[Rows.uptoBulk]
 | held h=>simp[Rows.uptoBulk]
theorem zou{H:Type}(l:List (DataW H)):l.length≤Rows.uptoBulkAll l:=by
 induction l with
 | nil=>simp[Rows.uptoBulkAll]
 | cons x r ih=>have:=zv7 x;simp only[Rows.uptoBulkAll,List.length_cons];omega
structure Reads(P:Program)(B:Option Nat)(N:Nat)(t:TypeId){α:Type}(cells:α→List Value)(Q:World→α→Prop):Prop where
 opens:∀ {H:Type} {enc:TypeId × Value→H} {W:World} {fuel:Nat} {cs:List Value} {x:DataW H × List MemPlace},fuel<N→DataW.trod enc P W 0 (fun _=>true) true fuel t cs=some x→(∀k∈x.1.weights P t,k≤reachBytes)→Small B x.1→∃a,cs=cells a∧Q W a
theorem Reads.imp{P:Program}{B:Option Nat}{N:Nat}{t:TypeId}{α β:Type}{c:α→List Value}{Q:World→α→Prop}{c':β→List Value}{Q':World→β→Prop}(h:Reads P B N t c Q)(f:∀W a,Q W a→∃b,c a=c' b∧Q' W b):Reads P B N t c' Q' :=
 ⟨fun hf hx hw hb=>by
  obtain⟨a,rfl,hq⟩:=h.opens hf hx hw hb;obtain⟨b,e,r⟩:=f _ a hq
  exact⟨b,e,r⟩⟩
theorem Reads.mono{P:Program}{B:Option Nat}{N M:Nat}{t:TypeId}{α:Type}{c:α→List Value}{Q:World→α→Prop}(h:Reads P B M t c Q)(hN:N≤M):Reads P B N t c Q:=⟨fun hf hx hw hb=>h.opens om hx hw hb⟩
theorem zhe{P:Program}{B:Option Nat}{N:Nat}{t:TypeId}{k:IntKind}(ht:P.underlying t=some (.int k)):Reads P B N t (fun n:Int=>[.int k n]) (fun _ n=>(Lit.int k n).wf=true) :=
 ⟨fun _ hx _ _=>by
  obtain⟨n,rfl,_,hn⟩:=DataW.trod_int ht hx
  exact⟨n,rfl,hn⟩⟩
theorem zup{P:Program}{B:Option Nat}{N:Nat}{t:TypeId}(ht:P.underlying t=some (.int .u8)):Reads P B N t (fun x:UInt8=>[u8 x]) (fun _ _=>True) :=
 (zhe ht).imp fun _ n hn=>⟨UInt8.ofNat n.toNat,by rw[u8];exact congrArg (fun z=>[Value.int .u8 z]) (znj hn),trivial⟩
theorem zro{P:Program}{B:Option Nat}{N:Nat}{t:TypeId}(ht:P.underlying t=some .string):Reads P B N t (fun s:ByteArray=>[.string s]) (fun _ s=>s.size≤reachBytes∧∀b,B=some b→s.size≤b) :=
 ⟨fun _ hx hw hb=>by
  obtain⟨s,rfl,rfl,hn⟩:=DataW.trod_string ht hx
  exact⟨s,rfl,by simpa[DataW.weights] using hw,fun b e=>by
   have:=hb b e
   simp[Rows.uptoBulk]at this
   omega⟩⟩
structure Sl(α:Type) where
 A:Option Addr
 n:Nat
 c:Nat
 l:List α
def Sl.val{α:Type}(s:Sl α):Value:=.slice s.A s.n s.c
structure SlIn(B:Option Nat){α:Type}(sz by_:Nat)(cells:α→List Value)(Q:World→α→Prop)(W:World)(s:Sl α):Prop where
 rd:RdS sz W s.A s.n (s.l.flatMap cells)
 len:s.l.length=s.n
 cap:s.n≤s.c
 reach:s.c*by_≤reachBytes
 small:∀b,B=some b→s.c≤b
 each:∀a∈s.l,Q W a
 size:∀a∈s.l,(cells a).length=sz
theorem zh6{H:Type}{P:Program}{e:TypeId}{d:DataW H}{l:List (DataW H)}{k:Nat}(hd:d∈l)(hk:k∈d.weights P e):k∈DataW.weightsAll P e l:=by
 induction l with
 | nil=>cases hd
 | cons a l ih =>
  rw[DataW.weightsAll,List.mem_append]
  rcases List.mem_cons.1 hd with rfl|h
  · exact .inl hk
  · exact .inr (ih h)
theorem zm5{α β:Type}{f:α→List β}{sz:Nat}{l:List α}(h:∀a∈l,(f a).length=sz){j:Nat}{u:β}(hu:(l.flatMap f)[j]? = some u):∃i a,l[i]? = some a∧∃r,r<sz∧j=i*sz+r∧(f a)[r]? = some u:=by
 induction l generalizing j with
 | nil=>simp at hu
 | cons a l ih =>
  have ha:=h a sy;rw[List.flatMap_cons]at hu
  rcases Nat.lt_or_ge j sz with hj|hj
  · rw[ll9 om]at hu
    exact⟨0,a,rfl,j,hj,by omega,hu⟩
  · rw[ar9 om,ha]at hu
    obtain⟨i,b,hb,r,hr,e,A⟩:=ih (fun b hb=>h b (by simp[hb])) hu;exact⟨i+1,b,by simpa using hb,r,hr,by rw[Nat.add_mul];omega,A⟩
theorem zm4{α β:Type}{f:α→List β}{sz:Nat}{l:List α}(h:∀a∈l,(f a).length=sz):(l.flatMap f).length=l.length*sz:=by
 induction l with
 | nil=>simp
 | cons a l ih=>rw[List.flatMap_cons,la9,h a sy,ih (fun b hb=>h b (by simp[hb])),List.length_cons,Nat.add_mul];omega
theorem zd1{α β:Type}{f:α→List β}{sz:Nat}{l:List α}(h:∀a∈l,(f a).length=sz){i:Nat}{a:α}(hi:l[i]? = some a){r:Nat}{u:β}(hu:(f a)[r]? = some u):(l.flatMap f)[i*sz+r]? = some u:=by
 induction l generalizing i with
 | nil=>simp at hi
 | cons b l ih =>
  have hb:=h b sy;rw[List.flatMap_cons]
  cases i with
  | zero =>
   simp at hi
   subst hi;have:=(gi9.1 hu).1;rw[ll9 om]
   simpa using hu
  | succ i =>
   simp at hi
   rw[ar9 (by rw[hb,Nat.add_mul];omega),hb,show(i+1)*sz+r-sz=i*sz+r by rw[Nat.add_mul];omega];exact ih (fun b hb=>h b (by simp[hb])) hi
theorem zhd{P:Program}{B:Option Nat}{N:Nat}{t e:TypeId}{α:Type}{cells:α→List Value}{Q:World→α→Prop}(sz U:Nat)(ht:P.underlying t=some (.slice e))(hC:P.cellsOf e=sz)(hb:P.bytesOf e=U)(a2:0<sz)(he:Reads P B N e cells Q):
 Reads P B (N+1) t (fun s:Sl α=>[s.val]) (SlIn B sz U cells Q) :=
 ⟨fun {H enc W fuel cs x} hf hx hw hB=>by
  rcases DataW.trod_slice ht hx with ⟨rfl,rfl⟩|⟨a,I,G,A,rest,n,rfl,rfl,rfl,_,hl,hm,a1,a7,b4,_⟩
  · exact⟨⟨none,0,0,[]⟩,rfl,⟨by simp,fun h=>absurd h (Nat.lt_irrefl 0)⟩,rfl,lr,by simp,by simp,by simp,by simp⟩
  · have X:=(b4 rfl).1
    simp only[DataW.weights,ht,List.length_map]at hw
    have M:G*U≤reachBytes:=by
     have:=hw ((A.length+rest.length)*P.bytesOf e) sy;rw[a1,X,hb]at this
     rwa [show I+(G-I)=G by omega]at this
    have J:∀b,B=some b→G≤b:=fun b e=>by
     have h0:=hB b e;simp only[Rows.uptoBulk]at h0;have h1:=zou (A.map (·.1));have h2:=zou (rest.map (·.1));rw[List.length_map]at h1 h2;omega
    have b2:∀y∈A,Small B y.1:=fun y hy b e=>by
     have h0:=hB b e;simp only[Rows.uptoBulk]at h0;have h1:=zth (List.mem_map.2 ⟨y,hy,rfl⟩:y.1∈A.map (·.1));omega
    have a4:∀k,k≤I→∃l:List α,l.length=k∧∀i b,l[i]? = some b→Q W b∧(cells b).length=sz∧∀r,r<sz→W.cell? (a.add (i*sz+r))=(cells b)[r]?:=by
     intro k
     induction k with
     | zero=>exact fun _=>⟨[],rfl,fun i b h=>by simp at h⟩
     | succ k ih =>
      intro hk;obtain⟨l,E,h⟩:=ih om;have h1:=a7 k om;obtain⟨y,hy⟩:∃y,A[k]? = some y:=⟨_,ge9 om⟩;rw[hy,Option.bind_eq_some_iff]at h1;obtain⟨b6,a6,b1⟩:=h1
      obtain⟨b,rfl,hq⟩:=he.opens om b1 (fun q hq=>hw q (by
       rw[List.mem_cons,List.mem_append]
       exact .inr (.inl (zh6 (List.mem_map.2 ⟨y,mg9 hy,rfl⟩) hq)))) (b2 y (mg9 hy))
      obtain⟨_,a5,Y⟩:=World.cells?_some a6;rw[hC]at a5 Y;refine⟨l++[b],by simp[E],fun i b' hb'=>?_⟩
      rcases Nat.lt_or_ge i l.length with hi|hi
      · rw[ll9 hi]at hb'
        exact h i b' hb'
      · rw[ar9 hi]at hb'
        have:i-l.length=0:=by
         rcases Nat.eq_zero_or_pos (i-l.length)with h0|h0
         · exact h0
         · rw[List.getElem?_eq_none (by simp;omega)]at hb';cases hb'
        rw[this]at hb'
        simp at hb'
        subst hb';obtain rfl:i=k:=om;refine⟨hq,a5,fun r hr=>?_⟩;rw[←Go.Deep.add_add];exact Y r hr
    obtain⟨l,E,h⟩:=a4 I lr
    have D:∀b∈l,(cells b).length=sz:=fun b hb=>by
     obtain⟨i,hi,e⟩:=List.mem_iff_getElem.1 hb;exact(h i b (by rw[ge9 hi,e])).2.1
    refine⟨⟨some a,I,G,l⟩,rfl,⟨by rw[zm4 D,E],fun hn=>?_⟩,E,hl,M,J,fun b hb=>?_,D⟩
    · obtain⟨b0,a3⟩:∃b,l[0]? = some b:=⟨_,ge9 (by rw[E];exact hn)⟩
      have h0:=(h 0 b0 a3).2.2 0 a2;obtain⟨u0,b3⟩:∃u,(cells b0)[0]? = some u:=⟨_,ge9 (by rw[(h 0 b0 a3).2.1];exact a2)⟩;rw[b3]at h0;obtain⟨b,a9,a0⟩:=a;have V:a0=none:=by simpa[Addr.add] using World.cell?_spot h0
      subst V;refine⟨b,a9,rfl,(by have:=World.block_lt_of_cell? W _ h0;rw[Addr.add_mid]at this;exact this),fun j u hu=>?_⟩;obtain⟨i,a',b5,r,hr,rfl,a8⟩:=zm5 D hu;have:=(h i a' b5).2.2 r hr;rw[Addr.add_mid,a8]at this;exact this
    · obtain⟨i,hi,e⟩:=List.mem_iff_getElem.1 hb
      exact(h i b (by rw[ge9 hi,e])).1⟩
structure ReadsF(P:Program)(B:Option Nat)(N:Nat)(fs:List Field)(off:Nat){α:Type}(cells:α→List Value)(Q:World→α→Prop):Prop where
 opens:∀ {H:Type} {enc:TypeId × Value→H} {W:World} {fuel:Nat} {cs:List Value} {xs:List (DataW H × List MemPlace)},fuel<N→xs.length=fs.length →
   (∀(i:Nat) (f:Field),fs[i]? = some f→DataW.trod enc P W 0 (fun _=>true) true fuel f.type ((cs.drop f.offset).take (P.cellsOf f.type))=xs[i]?)→(∀k∈DataW.weightsEach P (fs.map (·.type)) (xs.map (·.1)),k≤reachBytes)→(∀b,B=some b→Rows.uptoBulkAll (xs.map (·.1))≤b) →
   (∃a,cs.take off++cells a=cs.take (off+(cells a).length)∧off+(cells a).length=off+(fs.map fun f=>P.cellsOf f.type).sum∧Q W a)∨cs.length<off+(fs.map fun f=>P.cellsOf f.type).sum
theorem ziw{P:Program}{B:Option Nat}{N:Nat}{off:Nat}: ReadsF P B N [] off (fun _:Unit=>[]) (fun _ _=>True):=⟨fun _ _ _ _ _=>.inl ⟨(),by simp,by simp,trivial⟩⟩
theorem zcb{P:Program}{B:Option Nat}{N:Nat}{f:Field}{fs:List Field}{off sz:Nat}{α β:Type}{c:α→List Value}{Q:World→α→Prop}{c':β→List Value}{Q':World→β→Prop}(ho:f.offset=off)(A:P.cellsOf f.type=sz)
 (h:Reads P B N f.type c Q) (h':ReadsF P B N fs (off+sz) c' Q'):ReadsF P B N (f :: fs) off (fun x:α × β=>c x.1++c' x.2) (fun W x=>Q W x.1∧Q' W x.2) :=
 ⟨fun {H enc W fuel cs xs} hf hl hx hw hB=>by
  cases xs with
  | nil=>simp at hl
  | cons y xs =>
   simp only[List.length_cons,Nat.add_right_cancel_iff]at hl;simp only[List.map_cons,List.sum_cons,A]
   rcases Nat.lt_or_ge cs.length (off+(sz+(fs.map fun f=>P.cellsOf f.type).sum))with D|E
   · exact .inr D
   left
   have h0:=hx 0 f rfl;rw[ho,A]at h0;simp only[List.map_cons,DataW.weightsEach,List.mem_append]at hw;simp only[List.map_cons,Rows.uptoBulkAll]at hB;obtain⟨a,ea,hq⟩:=h.opens hf h0 (fun k hk=>hw k (.inl hk)) (fun b e=>by have:=hB b e;omega)
   rcases h'.opens (cs:=cs) hf hl (fun i g hg=>hx (i+1) g (by simpa using hg)) (fun k hk=>hw k (.inr hk)) (fun b e=>by have:=hB b e;omega)with ⟨b,eb,el,hq'⟩|hb
   · have r:(c a).length=sz:=by rw[←ea];simp;omega
     refine⟨(a,b),?_,?_,hq,hq'⟩
     · show cs.take off++(c a++c' b)=_
       rw[←as9];have e1:cs.take off++c a=cs.take (off+sz):=by rw[←ea,List.take_add]
       rw[e1,eb,la9,r,Nat.add_assoc]
     · show off+(c a++c' b).length=_
       rw[la9,r];omega
   · omega⟩
theorem zf4{P:Program}{B:Option Nat}{N:Nat}{t:TypeId}{fs:Array Field}{α:Type}{c:α→List Value}{Q:World→α→Prop}(ht:P.underlying t=some (.struct fs))(hC:(fs.toList.map fun f=>P.cellsOf f.type).sum=P.cellsOf t)(h:ReadsF P B N fs.toList 0 c Q):Reads P B (N+1) t c Q :=
 ⟨fun {H enc W fuel cs x} hf hx hw hB=>by
  obtain⟨xs,n,rfl,rfl,D,r,A⟩:=DataW.trod_struct ht hx
  rcases h.opens (cs:=cs) (fuel:=n) om (by simpa using r) (fun i f hi=>A i f (by simpa using hi)) (by simpa[DataW.weights,ht] using hw) (fun b e=>by have:=hB b e;simp only[Rows.uptoBulk]at this;omega)with ⟨a,ea,el,hq⟩|hb
  · refine⟨a,?_,hq⟩
    simp only[List.take_zero,List.nil_append,Nat.zero_add]at ea el;rw[ea,tk om]
  · omega⟩
theorem flat_u8s(l:List UInt8):(l.flatMap fun x=>[u8 x])=u8s l:=by
 induction l with
 | nil=>rfl
 | cons a l ih=>rw[List.flatMap_cons,ih];rfl
theorem SlIn.bytes{B:Option Nat}{W:World}{s:Sl UInt8}(h:SlIn B 1 1 (fun x:UInt8=>[u8 x]) (fun _ _=>True) W s):Rd W s.A s.n (u8s s.l)∧s.n≤s.c∧s.c≤140737488351232:=by
 have h1:=h.rd;rw[flat_u8s]at h1;have h2:=h.reach
 unfold reachBytes at h2
 exact⟨h1.to1,h.cap,by omega⟩
end
section
theorem RdS.bel{sz:Nat}{w w':World}{A:Option Addr}{n:Nat}{xs:List Value}(h:RdS sz w A n xs){B:Nat}(hb:Below B w w')(hB:w.heap.size≤B):RdS sz w' A n xs:=by
 refine⟨h.1,fun hn=>?_⟩;obtain⟨b,D,e,r,hc⟩:=h.2 hn;exact⟨b,D,e,Nat.lt_of_lt_of_le r hb.size,fun j u hu=>(hb.cell (p:=⟨b,D+j,none⟩) (Nat.lt_of_lt_of_le r hB)).trans (hc j u hu)⟩
section
variable{P:Program}{w:World}{o:Oper}{a:Act}
theorem zby{t e:TypeId}{x y:Operand}{g off n c p sz:Nat}(ho:o.op=.indexAddr t x y)(hx:a.eval x=.slice (some ⟨g,off,none⟩) n c)(hy:a.eval y=.int .i64 (p:Int))(hp:p<n)(hu:P.underlying t=some (.slice e))(hz:∀w,(sizeOf e).run P w=.ok sz w):(execOp a.eval o).run P w=.ok (.value (.pointer (some ⟨g,off+p*sz,none⟩))) w:=by
 unfold execOp
 simp[ho,hx,hy,Instr.indexAt,asIntOf,run_underlying hu,hz,hp,Addr.add]
end
theorem hd16:(Tryz.prog.info? 28).map (·.size)=some 16:=by kernel_rfl
end
section
theorem zsf(n:Nat)(h:n<115792089237316195423570985008687907853269984665640564039457584007913129639936):numL 18446744073709551616 [n%18446744073709551616,n/18446744073709551616%18446744073709551616,n/340282366920938463463374607431768211456%18446744073709551616,n/6277101735386680763835789423207666416102355444464034512896%18446744073709551616]=n:=by
 have:=v4_of n h;simp only[v4]at this;simp only[numL];omega
theorem zob(a b:Nat)(ha:a<115792089237316195423570985008687907853269984665640564039457584007913129639936)(hb:b<115792089237316195423570985008687907853269984665640564039457584007913129639936)(w:World):
 Calls Tryz.prog 122 #[.agg (elc a).toArray,.agg (elc b).toArray] w fun e w'=>e=.returned (.agg (elc (a*b%pr)).toArray)∧Below w.heap.size w w':=by
 have h:=zu9 [a%18446744073709551616,a/18446744073709551616%18446744073709551616,a/340282366920938463463374607431768211456%18446744073709551616,a/6277101735386680763835789423207666416102355444464034512896%18446744073709551616]
   [b%18446744073709551616,b/18446744073709551616%18446744073709551616,b/340282366920938463463374607431768211456%18446744073709551616,b/6277101735386680763835789423207666416102355444464034512896%18446744073709551616] rfl rfl
   (by intro x hx;simp only[List.mem_cons,List.not_mem_nil,or_false]at hx;rcases hx with rfl|rfl|rfl|rfl <;> exact Nat.mod_lt _ om)
   (by intro x hx;simp only[List.mem_cons,List.not_mem_nil,or_false]at hx;rcases hx with rfl|rfl|rfl|rfl <;> exact Nat.mod_lt _ om) w
 rw[zsf a ha,zsf b hb]at h;exact h
theorem sub_el(a b:Nat)(ha:a<115792089237316195423570985008687907853269984665640564039457584007913129639936)(hb:b<115792089237316195423570985008687907853269984665640564039457584007913129639936)(w:World):
 Calls Tryz.prog 119 #[.agg (elc a).toArray,.agg (elc b).toArray] w fun e w'=>e=.returned (.agg (elc ((a+(pr-b%pr))%pr)).toArray)∧Below w.heap.size w w':=by
 refine(zw8 _ _ _ _ _ _ _ _ (Nat.mod_lt _ om) (Nat.mod_lt _ om) (Nat.mod_lt _ om) (Nat.mod_lt _ om) (Nat.mod_lt _ om) (Nat.mod_lt _ om) (Nat.mod_lt _ om) (Nat.mod_lt _ om) w).mono ?_;rintro e w' ⟨s0,s1,s2,s3,q,q',rfl,⟨h0,h1,h2,h3,h4,h5⟩,hB⟩;rw[v4_of a ha,v4_of b hb]at h5;exact⟨by rw[l4_of _ _ _ _ h0 h1 h2 h3,sub_of _ _ _ _ _ h5 h4],hB⟩
attribute [local go_sem ↓] zc3
theorem sq_el(n:Nat)(hn:n<115792089237316195423570985008687907853269984665640564039457584007913129639936)(w:World):
 Calls Tryz.prog 120 #[.agg (elc n).toArray] w fun e w'=>e=.returned (.agg (elc (n*n%pr)).toArray)∧Below w.heap.size w w':=by
 have HM:=qh (fun W=>zob n n hn hn W);have M:∀o,(ldAt 146 (.pointer (some ⟨w.heap.size,0,none⟩))).run Tryz.prog ((w.alloc (.cells (elc n).toArray 146)).alloc o)=.ok (.agg (elc n).toArray) ((w.alloc (.cells (elc n).toArray 146)).alloc o):=fun o=>zbj ((Blk.new w 146 (elc n)).alloc o)
 have HE:Hid (∀o,Below w.heap.size w ((w.alloc (.cells (elc n).toArray 146)).alloc o)):=fun o=>((Below.refl _ w).alloc lr _).alloc sy _
 have HR:Hid (Blk ((w.alloc (.cells (elc n).toArray 146)).alloc (.cells (l4 0 0 0 0).toArray 146)) (w.heap.size+1) 146 (l4 0 0 0 0)):=Blk.new' sy rfl
 go_enter Tryz.func120, Tryz.ntmps120
 go_wp2_with (first
  | ((with_reducible refine(HM.o _).mono ?_);rintro e w3 ⟨rfl,r⟩;have G:=qbl HR r;have E:=qh ((HE.o _).trans (r.mono (HE.o _).size));clear r)
  | (refine zab rfl 146 (.tmp 2) (.tmp 5) rfl (w.heap.size+1) (elc (n*n%pr)) rr rr 146 _ G.o (by exact hdEl) (za3 _) rfl ?_;intro w5 D A;have J:=qh D;have I:=qh (A.below E.o (Nat.le_succ _) E.o.size);clear D A))
 exact bodyPost_ret (zan rfl _ _ _ _ rfl J.o _ Tryz.underlying146 rfl (by exact hdEl)) rfl ⟨rfl,I.o⟩
end
section
def sumT(ns:List Nat):Nat→Nat
 | 0=>0
 | k+1=>sumT ns k+ns.getD k 0
theorem zgs{w:World}{A:Option Addr}{n:Nat}{l:List Nat}(h:RdS 4 w A n (l.flatMap elc)){i x:Nat}(hi:l[i]? = some x)(hn:0<n):
 ∃b r,A=some ⟨b,r,none⟩∧b<w.heap.size∧w.rangeAt b (r+i*4) (elc x):=by
 obtain⟨b,r,e,hb,hc⟩:=h.2 hn;refine⟨b,r,e,hb,fun j v hv=>?_⟩;have h1:=zd1 (f:=elc) (sz:=4) (fun a ha=>rfl) hi hv;rw[Nat.add_assoc];exact hc _ _ h1
theorem RdS.bel'{sz:Nat}{w w':World}{A:Option Addr}{n:Nat}{xs:List Value}(h:RdS sz w A n xs){B:Nat}(hb:Below B w w')(hB:w.heap.size≤B):RdS sz w' A n xs:=by
 refine⟨h.1,fun hn=>?_⟩;obtain⟨b,D,e,r,hc⟩:=h.2 hn;exact⟨b,D,e,Nat.lt_of_lt_of_le r hb.size,fun j u hu=>(hb.cell (p:=⟨b,D+j,none⟩) (Nat.lt_of_lt_of_le r hB)).trans (hc j u hu)⟩
theorem zlw{w:World}{o:Oper}{a:Act}{g:Nat}{t:TypeId}{x:Operand}{n:Nat}(ho:o.op=.load 146 x)(hx:a.eval x=.pointer (some ⟨g,0,none⟩))(hb:Blk w g t (elc n)):(execOp a.eval o).run Tryz.prog w=.ok (.value (.agg (elc n).toArray)) w :=
 zaf ho hx (zbj hb)
attribute [local go_sem ↓] zc3
theorem sum_el(A:Option Addr)(n c:Nat)(ns:List Nat)(w:World)(d0:n<1000)(h:RdS 4 w A n (ns.flatMap elc))(hl:ns.length=n)(hs:∀x∈ns,x<115792089237316195423570985008687907853269984665640564039457584007913129639936):
 Calls Tryz.prog 118 #[.slice A n c] w fun e w'=>e=.returned (.agg (elc (sumT ns n%pr)).toArray)∧Below w.heap.size w w':=by
 have HR:=qh h;have HL:=qh hl;have HS:=qh hs
 have M:Hid (Blk ((w.alloc (.cells (l4 0 0 0 0).toArray 146)).alloc (.cells (l4 0 0 0 0).toArray 146)) w.heap.size 146 (l4 0 0 0 0)∧Blk ((w.alloc (.cells (l4 0 0 0 0).toArray 146)).alloc (.cells (l4 0 0 0 0).toArray 146)) (w.heap.size+1) 146 (elc 0)∧Below w.heap.size w ((w.alloc (.cells (l4 0 0 0 0).toArray 146)).alloc (.cells (l4 0 0 0 0).toArray 146))) :=
  ⟨(Blk.new w _ _).alloc _,Blk.new' sy rfl,((Below.refl _ w).alloc lr _).alloc sy _⟩
 clear h hl hs
 go_enter Tryz.func118, Tryz.ntmps118
 go_wp2
 go_loopg [8] n (fun kk q wr=>∃i:Nat,kk=n-i∧q=.int .i64 (i:Int)∧i≤n∧Blk wr w.heap.size 146 (l4 0 0 0 0)∧Blk wr (w.heap.size+1) 146 (elc (sumT ns i%pr))∧Below w.heap.size w wr)
 case atStart=>exact⟨0,rfl,rfl,by omega,M.o.1,M.o.2.1,M.o.2.2⟩
 case round =>
  clear M;obtain⟨i,a7,rfl,hi,hz,hb,hB⟩:=hrel;have c2:=qh a7;clear a7
  rcases Nat.lt_or_ge i n with c9|c8
  · have b3:(i:Int)<(n:Int):=om
    obtain⟨x,I⟩:∃x,ns[i]? = some x:=⟨_,ge9 (by rw[HL.o];omega)⟩;have b1:=HS.o x (mg9 I);obtain⟨b2,o2,rfl,c6,a8⟩:=zgs (HR.o.bel' hB lr) I om;have c7:(ldAt 146 (.pointer (some ⟨b2,o2+i*4,none⟩))).run Tryz.prog wr=.ok (.agg (elc x).toArray) wr:=run_loadAt_mid wr b2 (o2+i*4) 146 (elc x) _ a8 Tryz.underlying146 rfl (by exact hdEl)
    have HX:Hid (sumT ns (i+1)%pr=(sumT ns i%pr+x%pr)%pr):=by
     rw[sumT,gd9,I];exact Nat.add_mod _ _ _
    have a2:w.heap.size+2≤wr.heap.size:=by have:=hb.lt;omega
    have HB:=qh hb;have HZ:=qh hz;have r:=qh hB;have c0:=qh b1;have b9:=qh a2;clear I a8 hb hz hB c6 b1 a2
    go_upto_region 5 with (refine zab rfl 146 (.tmp 5) (.tmp 11) rfl wr.heap.size (elc x) rr rr 146 (l4 0 0 0 0) (by exact Blk.new' rfl rfl) (by exact hdEl) (za3 _) rfl ?_;intro w1 b4 J)
    have b6:=b9.o;have a0:=J.blk (HZ.o.alloc _) om;have a4:=J.blk (HB.o.alloc _) om;have a1:=J.below (r.o.alloc r.o.size _) r.o.size (by simp;omega);have HT:Hid (Blk w1.drew (w.heap.size+1) 146 (elc (sumT ns i%pr))∧Blk w1.drew wr.heap.size 146 (elc x)):=⟨a4.drew,b4.drew⟩;refine kgo kr 4 (fun w'=>Blk w' (w.heap.size+1) 146 (elc (sumT ns i%pr))∧Blk w' wr.heap.size 146 (elc x)) HT.o (fun _ _ _ _ _ h=>h) ?_;refine kl 0 (.agg (elc (sumT ns i%pr)).toArray) rfl kr (fun w' hw'=>zlw (x:=.tmp 3) rr kr hw'.1) ?_;refine kl 1 (.agg (elc x).toArray) rfl kr (fun w' hw'=>zlw (x:=.tmp 5) rr kr hw'.2) ?_;intro q8 q9;clear q8 q9;refine AnyK.enter 2 (d:=some 14) (f:=94) (args:=#[.agg (elc x).toArray]) rr kr kr ?_;refine(zj2 x c0.o _).mono ?_;rintro e w2 ⟨rfl,D⟩;have E:Hid (Blk w2 (w.heap.size+1) 146 (elc (sumT ns i%pr))∧Blk w2 wr.heap.size 146 (elc x)):=⟨HT.o.1.below D HT.o.1.lt,HT.o.2.below D HT.o.2.lt⟩;have V:=a0.drew.below D a0.drew.lt;have Y:=a1.drew.trans (D.mono a1.drew.size);refine⟨_,rfl,fun _=>E.o,?_⟩;refine AnyK.enter 3 (d:=some 15) (f:=140) (args:=#[.agg (elc (sumT ns i%pr)).toArray,.agg (elc (x%pr)).toArray]) rr kr kr ?_;refine(add_el (sumT ns i%pr) (x%pr) (pr_lt _) (pr_lt _) (by have h1:=zdc (sumT ns i);have h2:=zdc x;simp only[pr]at h1 h2 ⊢;omega) _).mono ?_;rintro e w3 ⟨rfl,G⟩;have b5:Hid (Blk w3 (w.heap.size+1) 146 (elc (sumT ns i%pr))∧Blk w3 wr.heap.size 146 (elc x)):=⟨E.o.1.below G E.o.1.lt,E.o.2.below G E.o.2.lt⟩;have a3:=V.below G V.lt;have X:=Y.trans (G.mono Y.size);refine⟨_,rfl,fun _=>b5.o,?_⟩;rw[←HX.o];refine AnyK.storeAll 4 (w.heap.size+1) (elc (sumT ns (i+1)%pr)) 146 _ rfl rfl rfl rr kr kr kr b5.o.1 (by exact hdEl) (za3 _) rfl (fun _ _ _ h=>(by cases h)) ?_;intro w6 a5 U;refine AnyK.done kr ?_;have c4:=qh (U.below X om X.size);have b7:=qh a5;have c5:=qh (U.blk a3 om);clear a5 U a3 X Y V D G a0 a4 a1 b4 J b6;go_wp2;go_roundg (n-(i+1))
    case measure=>have:=c2.o;omega
    case rel=>exact⟨i+1,rfl,by go_num,by omega,c5.o,b7.o,c4.o⟩
  · obtain rfl:i=n:=om
    have b3:¬(i:Int)<(i:Int):=om;have c7:=zbj hb;have HZ:=qh hz;have r:=qh hB;clear hb hz hB
    go_wp2_with (refine zab rfl 146 (.tmp 2) (.tmp 17) rfl w.heap.size (elc (sumT ns i%pr)) rr rr 146 (l4 0 0 0 0) HZ.o (by exact hdEl) (za3 _) rfl ?_;intro w5 a9 a6;have c1:=qh a9;have c3:=qh (a6.below r.o lr r.o.size);clear a9 a6)
    exact bodyPost_ret (zan rfl _ _ _ _ rfl c1.o _ Tryz.underlying146 rfl (by exact hdEl)) rfl ⟨rfl,c3.o⟩
end
section
def prodT(ns:List Nat):Nat→Nat
 | 0=>1
 | k+1=>prodT ns k*ns.getD k 0
attribute [local go_sem ↓] zc3
theorem zx6(A:Option Addr)(n c:Nat)(ns:List Nat)(w:World)(d7:2≤n)(d9:n<1000)(d6:n≤c)(h:RdS 4 w A n (ns.flatMap elc))(hl:ns.length=n)(hs:∀x∈ns,x<115792089237316195423570985008687907853269984665640564039457584007913129639936):
 Calls Tryz.prog 121 #[.slice A n c] w fun e w'=>e=.returned (.agg (elc (prodT ns n%pr)).toArray)∧Below w.heap.size w w':=by
 have HR:=qh h;have HL:=qh hl;have HS:=qh hs
 have J:Hid (Blk (w.alloc (.cells (l4 0 0 0 0).toArray 146)) w.heap.size 146 (l4 0 0 0 0)∧Below w.heap.size w (w.alloc (.cells (l4 0 0 0 0).toArray 146))) :=
  ⟨Blk.new w _ _,(Below.refl _ w).alloc lr _⟩
 obtain⟨x0,r⟩:∃x,ns[0]? = some x:=⟨_,ge9 om⟩;have U:=hs x0 (mg9 r);obtain⟨b2,o2,rfl,Y,E⟩:=zgs (HR.o.bel' J.o.2 lr) r om
 have a1:∀o,(ldAt 146 (.pointer (some ⟨b2,o2,none⟩))).run Tryz.prog (w.alloc o)=.ok (.agg (elc x0).toArray) (w.alloc o):=fun o=>by
  obtain⟨b3,o3,e,_,E⟩:=zgs (w:=w.alloc o) (HR.o.bel' ((Below.refl _ w).alloc lr o) lr) r om
  injection e with e
  injection e with e2 e3
  subst e2;subst e3;exact run_loadAt_mid _ b2 o2 146 (elc x0) _ (by rw[Nat.zero_mul,Nat.add_zero]at E;exact E) Tryz.underlying146 rfl (by exact hdEl)
 have a4:Hid (prodT ns 1%pr=x0%pr):=by
  show _=_
  rw[prodT,prodT,Nat.one_mul,gd9,r];rfl
 have HN:=qh (fun W=>zj2 x0 U W);have c8:¬(n:Int)=0:=om;have b9:(1:Int)≤(n:Int):=om;have c4:(n:Int)≤(c:Int):=om;clear h hl hs r Y E U
 go_enter Tryz.func121, Tryz.ntmps121
 go_upto_region 4 with (first
  | ((with_reducible refine(HN.o _).mono ?_);rintro e w1 ⟨rfl,D⟩;have a0:=qh (J.o.1.below D J.o.1.lt);have V:=qh (J.o.2.trans (D.mono J.o.2.size));clear D)
  | (refine zab rfl 146 (.tmp 3) (.tmp 13) rfl w1.heap.size (elc (x0%pr)) rr rr 146 (l4 0 0 0 0) (by exact Blk.new' rfl rfl) (by exact hdEl) (za3 _) rfl ?_;intro w2 Y a3))
 have b1:=qh Y;have a5:=qal a3 a0 (by have:=a0.o.lt;omega);have a7:=qh (a3.below (V.o.alloc V.o.size _) V.o.size (by have:=V.o.size;simp;omega));have HG:Hid (w.heap.size<w1.heap.size):=a0.o.lt;clear Y a3 a0 V a1;go_wp2
 go_loopg [17] n (fun kk q wr=>∃i:Nat,kk=n-i∧q=.int .i64 (i:Int)∧i≤n-1∧Blk wr w.heap.size 146 (l4 0 0 0 0)∧Blk wr w1.heap.size 146 (elc (prodT ns (i+1)%pr))∧Below w.heap.size w wr)
 case atStart=>exact⟨0,rfl,rfl,by omega,a5.o,by rw[a4.o];exact b1.o,a7.o⟩
 case round =>
  clear J HN c8 b9 c4 a4 b1 a5 a7;obtain⟨i,a6,rfl,hi,hz,hb,hB⟩:=hrel;have c2:=qh a6;clear a6
  rcases Nat.lt_or_ge i (n-1)with d4|d3
  · have b4:(i:Int)<((n-1:Nat):Int):=om
    obtain⟨x,r⟩:∃x,ns[i+1]? = some x:=⟨_,ge9 (by rw[HL.o];omega)⟩;have U:=HS.o x (mg9 r);obtain⟨b3,o3,e,c9,E⟩:=zgs (HR.o.bel' hB lr) r om
    injection e with e
    injection e with e2 e3
    subst e2;subst e3;have a1:(ldAt 146 (.pointer (some ⟨b2,o2+4+i*4,none⟩))).run Tryz.prog wr=.ok (.agg (elc x).toArray) wr:=run_loadAt_mid wr b2 (o2+4+i*4) 146 (elc x) _ (by rw[show o2+4+i*4=o2+(i+1)*4 by omega];exact E) Tryz.underlying146 rfl (by exact hdEl)
    have HX:Hid (prodT ns (i+1+1)%pr=prodT ns (i+1)%pr*x%pr):=by
     show _=_
     rw[prodT,gd9,r];exact(Nat.mod_mul_mod _ _ _).symm
    have HM:=qh (fun W=>zob (prodT ns (i+1)%pr) x (pr_lt _) U W);rw[←HX.o]at HM;have HB:=qh hb;have HZ:=qh hz;have I:=qh hB;clear r E hb hz hB U c9
    go_upto_region 7 with (refine zab rfl 146 (.tmp 5) (.tmp 20) rfl wr.heap.size (elc x) rr rr 146 (l4 0 0 0 0) (by exact Blk.new' rfl rfl) (by exact hdEl) (za3 _) rfl ?_;intro w3 b5 X)
    have d0:=HG.o;have b6:=HB.o.lt;have c0:=qh (X.blk (HZ.o.alloc _) om);have a8:=qh (X.blk (HB.o.alloc _) om);have c5:=qh (X.below (I.o.alloc I.o.size _) I.o.size (by simp;omega));have d8:=zbj a8.o;have d5:=zbj b5;clear b5 X d0 b6 a1
    go_wp2_with (first
     | ((with_reducible refine(HM.o _).mono ?_);rintro e w4 ⟨rfl,D⟩;have c3:=qbl c0 D;have b7:=qbl a8 D;have a9:=qtr c5 D;clear D)
     | (refine zab rfl 146 (.tmp 3) (.tmp 23) rfl w1.heap.size (elc (prodT ns (i+1+1)%pr)) rr rr 146 _ b7.o (by exact hdEl) (za3 _) rfl ?_;intro w5 M G;have c7:=qh M;have c6:=qh (G.blk c3.o (by have:=HG.o;omega));have a2:=qh (G.below a9.o (Nat.le_of_lt HG.o) a9.o.size);clear M G))
    go_roundg (n-(i+1))
    case measure=>have:=c2.o;omega
    case rel=>exact⟨i+1,rfl,by go_num,by omega,c6.o,c7.o,a2.o⟩
  · obtain rfl:i=n-1:=om
    have b4:¬((n-1:Nat):Int)<((n-1:Nat):Int):=om;rw[show n-1+1=n by omega]at hb;have a1:=zbj hb;have HZ:=qh hz;have I:=qh hB;clear hb hz hB
    go_wp2_with (refine zab rfl 146 (.tmp 2) (.tmp 25) rfl w.heap.size (elc (prodT ns n%pr)) rr rr 146 (l4 0 0 0 0) HZ.o (by exact hdEl) (za3 _) rfl ?_;intro w5 M G;have c1:=qh M;have a2:=qh (G.below I.o lr I.o.size);clear M G)
    exact bodyPost_ret (zan rfl _ _ _ _ rfl c1.o _ Tryz.underlying146 rfl (by exact hdEl)) rfl ⟨rfl,a2.o⟩
end
section
def leN(b:List UInt8):Nat:=numL 256 (b.map (·.toNat))
theorem zj8(b:List UInt8)(j:Nat)(hj:j<b.length):leN (b.drop j)=leN (b.drop (j+1))*256+(b.getD j 0).toNat:=by
 have h:b.drop j=b.getD j 0 :: b.drop (j+1):=by
  rw[List.drop_eq_getElem_cons hj,gd9,ge9 hj];rfl
 rw[h];simp only[leN,List.map_cons,numL];omega
theorem pow_sq(a X:Nat):a^X%pr*(a^X%pr)%pr=a^(2*X)%pr:=by
 rw[←Nat.mul_mod,←Nat.pow_add,Nat.two_mul]
theorem pow_st(a X:Nat):a^X%pr*a%pr=a^(X+1)%pr:=by
 rw[Nat.pow_succ,Nat.mod_mul_mod]
theorem zvu(x s:Nat):x/2^s=2*(x/2^(s+1))+x/2^s%2:=by
 rw[Nat.pow_succ,←Nat.div_div_eq_div_mul];omega
attribute [local go_sem ↓] zc3
theorem pow_el(a:Nat)(A:Option Addr)(n c:Nat)(es:List UInt8)(w:World)(ha:a<115792089237316195423570985008687907853269984665640564039457584007913129639936)(f7:n<1000)(h:Rd w A n (u8s es))(hl:es.length=n):
 Calls Tryz.prog 143 #[.agg (elc a).toArray,.slice A n c] w fun e w'=>e=.returned (.agg (elc (a^leN es%pr)).toArray)∧Below w.heap.size w w':=by
 have HR:=qh h;have HL:=qh hl;have HO:Hid (∀W,Calls Tryz.prog 70 #[.int .u64 1] W fun e w'=>e=.returned (.agg (elc 1).toArray)∧Below W.heap.size W w'):=fun W=>of_el 1 om W
 obtain⟨W1,a7⟩:=ex9 ((w.alloc (.cells (elc a).toArray 146)).alloc (.cells (l4 0 0 0 0).toArray 146))
 have J:Hid (Blk W1 w.heap.size 146 (elc a)∧Blk W1 (w.heap.size+1) 146 (l4 0 0 0 0)∧Below w.heap.size w W1) :=
  a7 ▸ ⟨(Blk.new w _ _).alloc _,Blk.new' sy rfl,((Below.refl _ w).alloc lr _).alloc sy _⟩
 clear h hl
 go_enter Tryz.func143, Tryz.ntmps143
 go_upto_region 2 with (first
  | ((with_reducible refine(HO.o _).mono ?_);rintro e w1 ⟨rfl,c6⟩;have D:Below W1.heap.size W1 w1:=a7 ▸ c6;have b3:=qh (J.o.1.below D J.o.1.lt);have a9:=qh (J.o.2.1.below D J.o.2.1.lt);have a2:=qh (J.o.2.2.trans (D.mono J.o.2.2.size));clear c6 D)
  | (refine zab rfl 146 (.tmp 5) (.tmp 8) rfl w1.heap.size (elc 1) rr rr 146 (l4 0 0 0 0) (by exact Blk.new' rfl rfl) (by exact hdEl) (za3 _) rfl ?_;intro w2 c2 a0))
 have b7:=a9.o.lt;have c3:=qh (a0.blk (b3.o.alloc _) om);have b5:=qh (a0.blk (a9.o.alloc _) om);have c9:=qh (a0.below (a2.o.alloc a2.o.size _) a2.o.size (by simp;omega));have HG:=qh b7;have c1:=qh c2;clear c2 a0 b7 b3 a9 a2 J a7;go_wp2
 go_loopg [6] n (fun kk q wr=>∃(m:Nat) (z:Int),kk=m∧q=.int .i64 z∧z=(m:Int)-1∧m≤n∧Blk wr w.heap.size 146 (elc a)∧Blk wr (w.heap.size+1) 146 (l4 0 0 0 0)∧Blk wr w1.heap.size 146 (elc (a^leN (es.drop m)%pr))∧Below w.heap.size w wr)
 case atStart=>exact⟨n,_,rfl,rfl,rfl,lr,c3.o,b5.o,by rw[List.drop_of_length_le (by rw[HL.o];exact lr)];exact c1.o,c9.o⟩
 case round =>
  clear c3 b5 c9 c1 HO;obtain⟨m,z,c7,rfl,hz,hm,hA,hZ,hS,hE⟩:=hrel
  rcases m with _|j
  · obtain rfl:z=-1:=om
    rw[List.drop_zero]at hS;have a5:=zbj hS;have HZ:=qh hZ;have HE:=qh hE;clear hA hZ hS hE hz
    go_wp2_with (refine zab rfl 146 (.tmp 4) (.tmp 34) rfl (w.heap.size+1) (elc (a^leN es%pr)) rr rr 146 (l4 0 0 0 0) HZ.o (by exact hdEl) (za3 _) rfl ?_;intro w5 I G;have e3:=qh I;have a1:=qh (G.below HE.o om HE.o.size);clear I G)
    exact bodyPost_ret (zan rfl _ _ _ _ rfl e3.o _ Tryz.underlying146 rfl (by exact hdEl)) rfl ⟨rfl,a1.o⟩
  · obtain rfl:z=(j:Int):=om
    have f5:(0:Int)≤(j:Int):=om;have d4:=qh c7;have HA:=qh hA;have HZ:=qh hZ;have HS:=qh hS;have HE:=qh hE;clear hA hZ hS hE hz c7;obtain⟨b,c0,rfl,c4,b1⟩:=HR.o.2 om;obtain⟨x,hx⟩:=ex9 ((es.getD j 0).toNat);obtain⟨E,hE⟩:=ex9 (leN (es.drop (j+1)))
    have d3:Hid (leN (es.drop j)=E*256+x):=by
     show _=_
     rw[hE,hx];exact zj8 es j (by rw[HL.o];omega)
    have e0:x<256:=by rw[hx];exact(es.getD j 0).toNat_lt
    have b4:w.cell? ⟨b,c0+j,none⟩=some (.int .u8 (x:Int)):=by
     refine b1 j _ ?_;rw[hx];rw[u8s_getElem?,gd9,ge9 (by rw[HL.o];omega)]
     rfl
    have e6:=qh b4;have e5:=qh c4;have f0:(j:Int)<(n:Int):=om;rw[←hE]at HS;clear hE hx b4 c4 b1;go_wp2
    go_loopg [7] 8 (fun kk q wr2=>∃(r:Nat) (z:Int),kk=r∧q=.int .i64 z∧z=(r:Int)-1∧r≤8∧Blk wr2 w.heap.size 146 (elc a)∧Blk wr2 (w.heap.size+1) 146 (l4 0 0 0 0)∧Blk wr2 w1.heap.size 146 (elc (a^(E*2^(8-r)+x/2^r)%pr))∧Below w.heap.size w wr2)
    case atStart=>exact⟨8,7,rfl,rfl,by omega,by omega,HA.o,HZ.o,by rw[show E*2^(8-8)+x/2^8=E by simp;omega];exact HS.o,HE.o⟩
    case round =>
     clear HA HZ HS HE;obtain⟨r,z,U,rfl,hz,f1,hA,hZ,hS,hE⟩:=hrel
     rcases r with _|s
     · obtain rfl:z=-1:=om
       rw[show E*2^(8-0)+x/2^0=leN (es.drop j) by rw[d3.o];simp]at hS;have HA:=qh hA;have HZ:=qh hZ;have HS:=qh hS;have HE:=qh hE;clear hA hZ hS hE hz U;go_wp2;go_roundg j
       case measure=>have:=d4.o;omega
       case rel=>exact⟨j,_,rfl,rfl,by go_num,by omega,HA.o,HZ.o,HS.o,HE.o⟩
     · obtain rfl:z=(s:Int):=om
       have e9:(0:Int)≤(s:Int):=om;have f2:(s:Int)<8:=om;have a5:=zbj hS;have HQ:=qh (fun W=>sq_el (a^(E*2^(8-(s+1))+x/2^(s+1))%pr) (pr_lt _) W);obtain⟨X,hX⟩:=ex9 (E*2^(8-(s+1))+x/2^(s+1))
       have Y:Hid (E*2^(8-s)+x/2^s=2*X+x/2^s%2):=by
        show _=_
        have h1:=zvu x s
        have h2:E*2^(8-s)=2*(E*2^(8-(s+1))):=by
         rw[show 8-s=8-(s+1)+1 by omega,Nat.pow_succ,←Nat.mul_assoc,Nat.mul_comm]
        rw[hX,h2];omega
       rw[←hX]at HQ hS a5;simp only[pow_sq]at HQ;have b9:=qh (fun W=>zob (a^(2*X)%pr) a (pr_lt _) ha W);simp only[pow_st]at b9;have HA:=qh hA;have HZ:=qh hZ;have HS:=qh hS;have HE:=qh hE;have a3:=qh U;clear hA hZ hS hE hz hX U
       go_upto_region 9 with (first
        | ((with_reducible refine(HQ.o _).mono ?_);rintro e w3 ⟨rfl,D⟩;have e2:=qbl HZ D;have d8:=qbl HA D;have d6:=qbl HS D;have c5:=qtr HE D;clear D)
        | (refine zab rfl 146 (.tmp 5) (.tmp 21) rfl w1.heap.size (elc (a^(2*X)%pr)) rr rr 146 _ d6.o (by exact hdEl) (za3 _) rfl ?_;intro w4 I G;have a6:=qh I;have b6:=qh (G.blk e2.o (by have:=HG.o;omega));have a4:=qh (G.blk d8.o (by have:=HG.o;omega));have a8:=qh (G.below c5.o (by have:=HG.o;omega) c5.o.size);clear I G))
       have f3:w4.cell? ⟨b,c0+j,none⟩=some (.int .u8 (x:Int)):=(a8.o.cell e5.o).trans e6.o;obtain⟨y,V⟩:=ex9 (x/2^s);have hy:(x:Int)/2^s=(y:Int):=by rw[V];push_cast;rfl
       have e1:y<256:=by rw[V];exact Nat.lt_of_le_of_lt (Nat.div_le_self _ _) e0
       have b2:bits .and .u8 (y:Int) 1=((y%2:Nat):Int):=by rw[←Nat.and_one_is_mod];exact u8_and_nat y 1 e1 om
       rw[←V]at Y;have f4:=zbj a6.o;have f6:=zbj a4.o;have c8:=qh V;clear a5 V
       rcases Nat.mod_two_eq_zero_or_one y with M|M
       · rw[M]at b2 Y
         clear M;go_wp2;go_roundg s
         case measure=>have:=a3.o;omega
         case rel=>exact⟨s,_,rfl,rfl,by go_num,by omega,a4.o,b6.o,by rw[←c8.o,Y.o];exact a6.o,a8.o⟩
       · rw[M]at b2 Y
         clear M
         go_wp2_with (first
          | ((with_reducible refine(b9.o _).mono ?_);rintro e w5 ⟨rfl,D⟩;have e4:=qbl b6 D;have d0:=qbl a4 D;have d7:=qbl a6 D;have a1:=qtr a8 D;clear D)
          | (refine zab rfl 146 (.tmp 5) (.tmp 33) rfl w1.heap.size (elc (a^(2*X+1)%pr)) rr rr 146 _ d7.o (by exact hdEl) (za3 _) rfl ?_;intro w6 I G;have d5:=qh I;have e7:=qh (G.blk e4.o (by have:=HG.o;omega));have e8:=qh (G.blk d0.o (by have:=HG.o;omega));have d9:=qh (G.below a1.o (by have:=HG.o;omega) a1.o.size);clear I G))
         go_roundg s
         case measure=>have:=a3.o;omega
         case rel=>exact⟨s,_,rfl,rfl,by go_num,by omega,e8.o,e7.o,by rw[←c8.o,Y.o];exact d5.o,d9.o⟩
end
section
def fz:Nat→List UInt8
 | 0=>List.replicate 32 0
 | i+1=>(fz i).set i 255
theorem zlv(i:Nat):(fz i).length=32:=by
 induction i with
 | zero=>rfl
 | succ i ih=>rw[fz,List.length_set,ih]
def eP:List UInt8:=((fz 32).set 0 235).set 31 127
theorem eP_num:leN eP=pr-2:=by kernel_rfl
theorem zwx:∃E,leN eP=E:=⟨_,rfl⟩
noncomputable def pE:Nat:=Classical.choose zwx
theorem pE_eq:leN eP=pE:=Classical.choose_spec zwx
theorem Blk.rdA{w:World}{g:Nat}{t:TypeId}{l:List UInt8}{n:Nat}(h:Blk w g t (u8s l))(hn:l.length=n):Rd w (some ⟨g,0,none⟩) n (u8s l):=by
 have:=h.rd 0 n (by rw[zaa];omega);rw[List.drop_zero,tk (by rw[zaa];omega)]at this;exact this
attribute [local go_sem ↓] zc3
theorem inv_el(a:Nat)(w:World)(ha:a<115792089237316195423570985008687907853269984665640564039457584007913129639936):
 Calls Tryz.prog 123 #[.agg (elc a).toArray] w fun e w'=>e=.returned (.agg (elc (a^pE%pr)).toArray)∧Below w.heap.size w w':=by
 have V:Hid (∀W,(Instr.makeSlice 22 (.int .i64 32) (.int .i64 32)).run Tryz.prog W=.ok (.slice (some ⟨W.heap.size,0,none⟩) 32 32) (W.alloc (.cells (u8s (fz 0)).toArray 5))):=fun W=>by kernel_rfl
 obtain⟨W1,D⟩:=ex9 (((w.alloc (.cells (elc a).toArray 146)).alloc (.cells (l4 0 0 0 0).toArray 146)).alloc (.cells (u8s (fz 0)).toArray 5))
 have I:Hid (Blk W1 w.heap.size 146 (elc a)∧Blk W1 (w.heap.size+1) 146 (l4 0 0 0 0)∧Blk W1 (w.heap.size+2) 5 (u8s (fz 0))∧Below w.heap.size w W1) :=
  D ▸ ⟨((Blk.new w _ _).alloc _).alloc _,(Blk.new' sy rfl).alloc _,Blk.new' sy rfl,(((Below.refl _ w).alloc lr _).alloc sy _).alloc (by simp <;> omega) _⟩
 have a2:=V.o
 go_enter Tryz.func123, Tryz.ntmps123
 go_wp2
 go_loopg [8] 32 (fun kk q wr=>∃i:Nat,kk=32-i∧q=.int .i64 (i:Int)∧i≤32∧Blk wr w.heap.size 146 (elc a)∧Blk wr (w.heap.size+1) 146 (l4 0 0 0 0)∧Blk wr (w.heap.size+2) 5 (u8s (fz i))∧Below w.heap.size w wr)
 case atStart=>exact⟨0,rfl,rfl,by omega,D ▸ I.o⟩
 case round =>
  clear I D;obtain⟨i,a0,rfl,hi,hA,hZ,hS,hE⟩:=hrel
  rcases Nat.lt_or_ge i 32 with U|a3
  · have M:(i:Int)<32:=om
    have cc:wr.cell? ⟨w.heap.size+1+1,i,none⟩=some (.int .u8 (((fz i).getD i 0).toNat:Int)):=by
     refine(hS.cell i).trans ?_;rw[u8s_getElem?,gd9,ge9 (by rw[zlv];exact U)]
     rfl
    have ff:wr.frozen? ⟨w.heap.size+1+1,i,none⟩=false:=hS.frozen i;have HA:=qh (hA.far (p:=⟨w.heap.size+2,i,none⟩) sy (.int .u8 255));have HZ:=qh (hZ.far (p:=⟨w.heap.size+2,i,none⟩) sy (.int .u8 255));have HS:Hid (Blk (wr.setCell ⟨w.heap.size+2,i,none⟩ (.int .u8 255)) (w.heap.size+2) 5 (u8s (fz (i+1)))):=(za5 (fz i) i 255) ▸ hS.set_ i (.int .u8 255);have HE:=qh (hE.setCell (p:=⟨w.heap.size+2,i,none⟩) (Nat.le_add_right _ _) (.int .u8 255));clear hA hZ hS hE;go_wp2;go_roundg (32-(i+1))
    case measure=>omega
    case rel=>exact⟨i+1,rfl,by go_num,by omega,HA.o,HZ.o,HS.o,HE.o⟩
  · obtain rfl:i=32:=om
    have M:¬(32:Int)<32:=om;have a4:wr.cell? ⟨w.heap.size+1+1,0,none⟩=some (.int .u8 255):=(hS.cell 0).trans rfl;have a6:wr.frozen? ⟨w.heap.size+1+1,0,none⟩=false:=hS.frozen 0;have r:=hS.set_ 0 (.int .u8 235);have a5:(wr.setCell ⟨w.heap.size+1+1,0,none⟩ (.int .u8 235)).cell? ⟨w.heap.size+1+1,31,none⟩=some (.int .u8 255):=(r.cell 31).trans rfl;have a8:(wr.setCell ⟨w.heap.size+1+1,0,none⟩ (.int .u8 235)).frozen? ⟨w.heap.size+1+1,31,none⟩=false:=r.frozen 31;have HS:Hid (Blk ((wr.setCell ⟨w.heap.size+1+1,0,none⟩ (.int .u8 235)).setCell ⟨w.heap.size+1+1,31,none⟩ (.int .u8 127)) (w.heap.size+2) 5 (u8s eP)):=r.set_ 31 (.int .u8 127);have HA:Hid (Blk ((wr.setCell ⟨w.heap.size+1+1,0,none⟩ (.int .u8 235)).setCell ⟨w.heap.size+1+1,31,none⟩ (.int .u8 127)) w.heap.size 146 (elc a)):=(hA.far (p:=⟨w.heap.size+2,0,none⟩) sy (.int .u8 235)).far (p:=⟨w.heap.size+2,31,none⟩) sy (.int .u8 127);have HZ:Hid (Blk ((wr.setCell ⟨w.heap.size+1+1,0,none⟩ (.int .u8 235)).setCell ⟨w.heap.size+1+1,31,none⟩ (.int .u8 127)) (w.heap.size+1) 146 (l4 0 0 0 0)):=(hZ.far (p:=⟨w.heap.size+2,0,none⟩) sy (.int .u8 235)).far (p:=⟨w.heap.size+2,31,none⟩) sy (.int .u8 127);have HE:Hid (Below w.heap.size w ((wr.setCell ⟨w.heap.size+1+1,0,none⟩ (.int .u8 235)).setCell ⟨w.heap.size+1+1,31,none⟩ (.int .u8 127))):=(hE.setCell (p:=⟨w.heap.size+2,0,none⟩) (Nat.le_add_right _ _) (.int .u8 235)).setCell (p:=⟨w.heap.size+2,31,none⟩) (Nat.le_add_right _ _) (.int .u8 127)
    have HP:Hid (∀c,Calls Tryz.prog 143 #[.agg (elc a).toArray,.slice (some ⟨w.heap.size+1+1,0,none⟩) 32 c] ((wr.setCell ⟨w.heap.size+1+1,0,none⟩ (.int .u8 235)).setCell ⟨w.heap.size+1+1,31,none⟩ (.int .u8 127)) fun e w'=>e=.returned (.agg (elc (a^pE%pr)).toArray)∧Below ((wr.setCell ⟨w.heap.size+1+1,0,none⟩ (.int .u8 235)).setCell ⟨w.heap.size+1+1,31,none⟩ (.int .u8 127)).heap.size ((wr.setCell ⟨w.heap.size+1+1,0,none⟩ (.int .u8 235)).setCell ⟨w.heap.size+1+1,31,none⟩ (.int .u8 127)) w'):=fun c =>
     pE_eq ▸ pow_el a _ 32 c eP ((wr.setCell ⟨w.heap.size+1+1,0,none⟩ (.int .u8 235)).setCell ⟨w.heap.size+1+1,31,none⟩ (.int .u8 127)) ha om (HS.o.rdA (by rw[eP,List.length_set,List.length_set,zlv])) (by rw[eP,List.length_set,List.length_set,zlv])
    have a7:=zbj HA.o;clear hA hZ hS hE r a0 a2
    go_wp2_with (first
     | (go_at_call 143;(with_reducible refine(HP.o _).mono ?_);rintro e w4 ⟨rfl,A⟩;have Y:=qbl HZ A;have J:=qtr HE A;clear A)
     | (refine zab rfl 146 (.tmp 2) (.tmp 21) rfl (w.heap.size+1) (elc (a^pE%pr)) rr rr 146 _ Y.o (by exact hdEl) (za3 _) rfl ?_;intro w5 G E;have X:=qh G;have a1:=qh (E.below J.o om J.o.size);clear G E))
    exact bodyPost_ret (zan rfl _ _ _ _ rfl X.o _ Tryz.underlying146 rfl (by exact hdEl)) rfl ⟨rfl,a1.o⟩
end
section
def leB(n:Nat):List UInt8:=(List.range 32).map fun i=>UInt8.ofNat (n/256^i)
def leBi(n:Nat):Nat→List UInt8
 | 0=>List.replicate 32 0
 | i+1=>(leBi n i).set i (UInt8.ofNat (n/256^i))
theorem zgq(n i:Nat):(leBi n i).length=32:=by
 induction i with
 | zero=>rfl
 | succ i ih=>rw[leBi,List.length_set,ih]
theorem zve(n i j:Nat)(hi:i≤32)(hj:j<i):(leBi n i)[j]? = some (UInt8.ofNat (n/256^j)):=by
 induction i with
 | zero=>omega
 | succ i ih =>
  rw[leBi]
  by_cases h:i=j
  · subst h
    rw[List.getElem?_set_self (by rw[zgq];omega)]
  · rw[List.getElem?_set_ne h]
    exact ih om om
theorem zoe(n:Nat):leBi n 32=leB n:=by
 apply List.ext_getElem?
 intro j
 by_cases hj:j<32
 · rw[zve n 32 j lr hj,leB,List.getElem?_map,List.getElem?_range hj];rfl
 · rw[List.getElem?_eq_none (by rw[zgq];omega),List.getElem?_eq_none (by rw[leB];simp;omega)]
def limb(n q:Nat):Nat:=n/18446744073709551616^q%18446744073709551616
theorem zkj(n q:Nat)(hq:q<4):(elc n)[q]? = some (.int .u64 ((limb n q:Nat):Int)):=by
 rcases q with _|_|_|_|q
 · simp[elc,l4,limb]
 · simp[elc,l4,limb]
 · simp[elc,l4,limb]
 · simp[elc,l4,limb]
 · omega
theorem zso(n i:Nat):limb n (i/8)/2^(8*(i%8))%256=n/256^i%256:=by
 have h1:(256:Nat)^i=18446744073709551616^(i/8)*2^(8*(i%8)):=by
  rw[show(256:Nat)=2^8 by rfl,show(18446744073709551616:Nat)=2^64 by rfl,←Nat.pow_mul,←Nat.pow_mul,←Nat.pow_add]
  congr 1
  omega
 rw[h1,←Nat.div_div_eq_div_mul]
 unfold limb
 obtain⟨m,hm⟩:=ex9 (n/18446744073709551616^(i/8));rw[←hm];have h2:i%8<8:=Nat.mod_lt _ om;obtain⟨r,hr⟩:=ex9 (i%8);rw[←hr]at h2 ⊢;have:r=0∨r=1∨r=2∨r=3∨r=4∨r=5∨r=6∨r=7:=om
 rcases this with rfl|rfl|rfl|rfl|rfl|rfl|rfl|rfl <;> simp <;> omega
theorem zb0(v:Value):Instr.loadAt 27 v=ldAt 27 v:=rfl
attribute [local go_sem ↓] zc3 zb0
theorem hd32:(Tryz.prog.info? 27).map (·.size)=some 32:=by kernel_rfl
theorem zkr(n:Nat)(w:World)(hn:n<115792089237316195423570985008687907853269984665640564039457584007913129639936):
 Calls Tryz.prog 69 #[.agg (elc n).toArray] w fun e w'=>e=.returned (.agg (u8s (leB (n%pr))).toArray)∧Below w.heap.size w w':=by
 have HN:=qh (fun W=>zj2 n hn W);have a7:∀o,(ldAt 146 (.pointer (some ⟨w.heap.size,0,none⟩))).run Tryz.prog ((w.alloc (.cells (elc n).toArray 146)).alloc o)=.ok (.agg (elc n).toArray) ((w.alloc (.cells (elc n).toArray 146)).alloc o):=fun o=>zbj ((Blk.new w 146 (elc n)).alloc o)
 have HE:Hid (∀o,Below w.heap.size w ((w.alloc (.cells (elc n).toArray 146)).alloc o)):=fun o=>((Below.refl _ w).alloc lr _).alloc sy _
 have HA:Hid (∀o,Blk ((w.alloc (.cells (elc n).toArray 146)).alloc o) w.heap.size 146 (elc n)):=fun o=>(Blk.new w _ _).alloc o
 obtain⟨W1,E⟩:=ex9 ((w.alloc (.cells (elc n).toArray 146)).alloc (.cells (u8s (leBi (n%pr) 0)).toArray 27));have HR:Hid (Blk W1 (w.heap.size+1) 27 (u8s (leBi (n%pr) 0))∧Blk W1 w.heap.size 146 (elc n)∧Below w.heap.size w W1):=E ▸ ⟨Blk.new' sy rfl,HA.o _,HE.o _⟩;clear HE HA
 go_enter Tryz.func69, Tryz.ntmps69
 go_upto_region 2 with (first
  | ((with_reducible refine(HN.o _).mono ?_);rintro e w1 ⟨rfl,a5⟩;have A:Below W1.heap.size W1 w1:=E ▸ a5;have a2:=qh (HR.o.2.1.below A HR.o.2.1.lt);have J:=qh (HR.o.1.below A HR.o.1.lt);have a0:=qh (HR.o.2.2.trans (A.mono HR.o.2.2.size));clear a5 A)
  | (refine zab rfl 146 (.tmp 1) (.tmp 6) rfl w.heap.size (elc (n%pr)) rr rr 146 _ a2.o (by exact hdEl) (za3 _) rfl ?_;intro w2 U Y))
 obtain⟨V,hV⟩:=ex9 (n%pr);rw[←hV]at U J ⊢;have a8:=qh U;have G:=qh (Y.blk J.o om);have M:=qh (Y.below a0.o lr a0.o.size);have HG:Hid (w.heap.size+1<w2.heap.size):=G.o.lt;obtain⟨W3,X⟩:=ex9 (w2.alloc (.cells (u8s (leBi V 0)).toArray 27));have a4:Hid (Blk W3 w.heap.size 146 (elc V)∧Blk W3 (w.heap.size+1) 27 (u8s (leBi V 0))∧Blk W3 w2.heap.size 27 (u8s (leBi V 0))∧Below w.heap.size w W3):=X ▸ ⟨a8.o.alloc _,G.o.alloc _,Blk.new' rfl rfl,M.o.alloc M.o.size _⟩;have HV:=qh hV;clear U Y a7 a2 J a0 HR E HN hV;go_wp2
 go_loopg [7] 32 (fun kk q wr=>∃i:Nat,kk=32-i∧q=.int .i64 (i:Int)∧i≤32∧Blk wr w.heap.size 146 (elc V)∧Blk wr (w.heap.size+1) 27 (u8s (leBi V 0))∧Blk wr w2.heap.size 27 (u8s (leBi V i))∧Below w.heap.size w wr)
 case atStart=>exact⟨0,rfl,rfl,by omega,X ▸ a4.o⟩
 case round =>
  clear a4 X a8 G M;obtain⟨i,I,rfl,hi,hA,hZ,hS,hE⟩:=hrel
  rcases Nat.lt_or_ge i 32 with a9|b5
  · have a6:(i:Int)<32:=om
    have cc:wr.cell? ⟨w2.heap.size,i,none⟩=some (.int .u8 (((leBi V i).getD i 0).toNat:Int)):=by
     refine(hS.cell i).trans ?_;rw[u8s_getElem?,gd9,ge9 (by rw[zgq];exact a9)]
     rfl
    have ff:wr.frozen? ⟨w2.heap.size,i,none⟩=false:=hS.frozen i;obtain⟨q,hq⟩:=ex9 (i/8);obtain⟨r,hr⟩:=ex9 (i%8);obtain⟨s,hs⟩:=ex9 (8*r);obtain⟨L,hL⟩:=ex9 (limb V q);have cl:wr.cell? ⟨w.heap.size,q,none⟩=some (.int .u64 (L:Int)):=(hA.cell q).trans (hL ▸ zkj V q om);have c0:(i:Int)/8=(q:Int):=om;have c1:(i:Int)%8=(r:Int):=om;have b9:(8:Int)*(r:Int)=(s:Int):=om;have b6:(q:Int)<4:=om;have b7:(r:Int)<8:=om;have b4:(s:Int)<64:=om;obtain⟨y,D⟩:=ex9 (L/2^s);have hy:(L:Int)/2^s=(y:Int):=by rw[D];push_cast;rfl
    have HY:Hid (UInt8.ofNat (V/256^i)=UInt8.ofNat y):=by
     show _=_
     apply UInt8.toNat_inj.1
     rw[UInt8.toNat_ofNat',UInt8.toNat_ofNat',D,hL,hs,hr,hq];exact(zso V i).symm
    have b2:=qh I;have hg:=HG.o;have HA:=qh (hA.far (p:=⟨w2.heap.size,i,none⟩) (by show w.heap.size≠w2.heap.size;omega) (.int .u8 ((y:Int)%256)));have HZ:=qh (hZ.far (p:=⟨w2.heap.size,i,none⟩) (by show w.heap.size+1≠w2.heap.size;omega) (.int .u8 ((y:Int)%256)))
    have HS:Hid (Blk (wr.setCell ⟨w2.heap.size,i,none⟩ (.int .u8 ((y:Int)%256))) w2.heap.size 27 (u8s (leBi V (i+1)))):=by
     have h1:=hS.set_ i (.int .u8 ((y:Int)%256));rw[show((y:Int)%256)=((UInt8.ofNat (V/256^i)).toNat:Int) by rw[HY.o,UInt8.toNat_ofNat'];omega,za5]at h1;rw[show((y:Int)%256)=((UInt8.ofNat (V/256^i)).toNat:Int) by rw[HY.o,UInt8.toNat_ofNat'];omega];exact h1
    have HE:=qh (hE.setCell (p:=⟨w2.heap.size,i,none⟩) (by show w.heap.size≤w2.heap.size;omega) (.int .u8 ((y:Int)%256)));clear hA hZ hS hE I D hL hs hr hq hg;go_wp2;go_roundg (32-(i+1))
    case measure=>have:=b2.o;omega
    case rel=>exact⟨i+1,rfl,by go_num,by omega,HA.o,HZ.o,HS.o,HE.o⟩
  · obtain rfl:i=32:=om
    have a6:¬((32:Nat):Int)<32:=om;rw[zoe]at hS;have a7:(ldAt 27 (.pointer (some ⟨w2.heap.size,0,none⟩))).run Tryz.prog wr=.ok (.agg (u8s (leB V)).toArray) wr:=zal hS 27 0 (u8s (leB V)) rfl _ Tryz.underlying27 rfl (by exact hd32);have HZ:=qh hZ;have HE:=qh hE;clear hA hZ hS hE I
    go_wp2_with (refine zab rfl 27 (.tmp 2) (.tmp 23) rfl (w.heap.size+1) (u8s (leB V)) rr rr 27 _ HZ.o (by exact hd32) (zac _) rr ?_;intro w5 a3 a1;have b1:=qh a3;have b3:=qh (a1.below HE.o (Nat.le_succ _) HE.o.size);clear a3 a1)
    exact bodyPost_ret (zan rfl _ _ _ _ rfl b1.o _ Tryz.underlying27 rfl (by exact hd32)) rfl ⟨by rw[HV.o],b3.o⟩
end
def Prm(p:Nat):Prop:=2≤p∧∀a b,p ∣ a*b→p ∣ a∨p ∣ b
def cho:Nat→Nat→Nat
 | _,0=>1
 | 0,_+1=>0
 | n+1,k+1=>cho n k+cho n (k+1)
theorem zko(n:Nat):cho n 0=1:=by cases n <;> rfl
theorem zfz:∀(n k:Nat),n<k→cho n k=0
 | _,0,h=>by omega
 | 0,_+1,_=>rfl
 | n+1,k+1,h=>by rw[cho,zfz n k om,zfz n (k+1) om]
theorem zos:∀n,cho n n=1
 | 0=>rfl
 | n+1=>by rw[cho,zos n,zfz n (n+1) om]
theorem zkp:∀(n k:Nat),(k+1)*cho (n+1) (k+1)=(n+1)*cho n k
 | 0,0=>rfl
 | 0,k+1=>by rw[zfz 1 (k+2) om,zfz 0 (k+1) om];simp
 | n+1,0=>by
  have h:=zkp n 0;have e:cho (n+1+1) (0+1)=cho (n+1) 0+cho (n+1) (0+1):=rfl;rw[zko]at h e ⊢;omega
 | n+1,k+1=>by
  have h1:=zkp n k;have h2:=zkp n (k+1);have e1:cho (n+1+1) (k+1+1)=cho (n+1) (k+1)+cho (n+1) (k+1+1):=rfl;have e2:cho (n+1) (k+1)=cho n k+cho n (k+1):=rfl
  grind
def sumF(f:Nat→Nat):Nat→Nat
 | 0=>0
 | n+1=>sumF f n+f n
theorem zje(a n:Nat):∀m,sumF (fun k=>cho (n+1) k*a^k) (m+1)=a*sumF (fun k=>cho n k*a^k) m+sumF (fun k=>cho n k*a^k) (m+1)
 | 0=>by simp[sumF,zko]
 | m+1=>by
  have ih:=zje a n m;rw[sumF,ih]
  show _+cho (n+1) (m+1)*a^(m+1)=_
  have e2:cho (n+1) (m+1)=cho n m+cho n (m+1):=rfl;rw[e2,sumF,sumF,sumF,Nat.pow_succ]
  grind
theorem binom(a:Nat):∀n,sumF (fun k=>cho n k*a^k) (n+1)=(a+1)^n
 | 0=>by simp[sumF,cho]
 | n+1=>by
  have ih:=binom a n;have e:sumF (fun k=>cho n k*a^k) (n+1+1)=sumF (fun k=>cho n k*a^k) (n+1)+cho n (n+1)*a^(n+1):=rfl;rw[zje,e,ih,zfz n (n+1) om,Nat.pow_succ]
  grind
theorem zx7{p:Nat}(hp:Prm p)(k:Nat)(h0:0<k)(hk:k<p):p ∣ cho p k:=by
 obtain⟨m,rfl⟩:∃m,p=m+1:=⟨p-1,by omega⟩;obtain⟨j,rfl⟩:∃j,k=j+1:=⟨k-1,by omega⟩;have h:=zkp m j
 rcases hp.2 (j+1) (cho (m+1) (j+1)) (by rw[h];exact Nat.dvd_mul_right _ _)with h1|h1
 · exact absurd (Nat.le_of_dvd om h1) om
 · exact h1
theorem zl0{p:Nat}(hp:Prm p)(a:Nat):∀j,j<p→∃c,sumF (fun k=>cho p k*a^k) (j+1)=1+p*c
 | 0,_=>⟨0,by simp[sumF,zko]⟩
 | j+1,h=>by
  obtain⟨c,hc⟩:=zl0 hp a j om;obtain⟨q,hq⟩:=zx7 hp (j+1) om h;refine⟨c+q*a^(j+1),?_⟩;rw[sumF,hc]
  show _+cho p (j+1)*a^(j+1)=_
  rw[hq]
  grind
theorem zm6{p:Nat}(hp:Prm p)(a:Nat):(a+1)^p%p=(a^p+1)%p:=by
 have r:=hp.1;rw[←binom,sumF,zos];obtain⟨m,rfl⟩:∃m,p=m+1:=⟨p-1,by omega⟩;obtain⟨c,hc⟩:=zl0 hp a m om;rw[hc,show 1+(m+1)*c+1*a^(m+1)=a^(m+1)+1+(m+1)*c by grind,Nat.add_mul_mod_self_left]
theorem fermat{p:Nat}(hp:Prm p):∀a,a^p%p=a%p
 | 0=>by rw[Nat.zero_pow (by have:=hp.1;omega)]
 | a+1=>by rw[zm6 hp,Nat.add_mod,fermat hp a,←Nat.add_mod]
theorem zkk(b q:Nat)(h:0<q):b ∣ b^q:=by
 obtain⟨k,rfl⟩:∃k,q=k+1:=⟨q-1,by omega⟩;rw[Nat.pow_succ];exact Nat.dvd_mul_left _ _
theorem fermat'{p:Nat}(hp:Prm p)(a:Nat)(ha:¬p ∣ a):a^(p-1)%p=1:=by
 have r:=hp.1;have h0:0<a:=Nat.pos_of_ne_zero (fun h=>ha (h ▸ Nat.dvd_zero _));have h:=fermat hp a;obtain⟨m,rfl⟩:∃m,p=m+1:=⟨p-1,by omega⟩;rw[Nat.pow_succ]at h;have h1:1≤a^m:=Nat.pos_of_ne_zero (by simp;omega)
 have h2:(m+1) ∣ (a^m-1)*a:=by
  obtain⟨q,hq⟩:∃q,a^m=q+1:=⟨a^m-1,by omega⟩;rw[hq]at h ⊢;have h3:=Nat.sub_mod_eq_zero_of_mod_eq h;rw[show(q+1)*a-a=q*a by rw[Nat.add_mul];omega]at h3;exact Nat.dvd_of_mod_eq_zero h3
 rcases hp.2 _ _ h2 with h3|h3
 · obtain⟨c,hc⟩:=h3
   rw[Nat.add_sub_cancel,show a^m=1+(m+1)*c by omega,Nat.add_mul_mod_self_left,Nat.mod_eq_of_lt om]
 · exact absurd h3 ha
theorem bezI:∀(a b:Nat),∃u v:Int,u*(a:Int)+v*(b:Int)=(Nat.gcd a b:Int):=by
 intro a
 induction a using Nat.strongRecOn with
 | _ a ih =>
  intro b
  rcases Nat.eq_zero_or_pos a with rfl|ha
  · exact⟨0,1,by simp⟩
  · obtain⟨u,v,h⟩:=ih (b%a) (Nat.mod_lt _ ha) a
    refine⟨v-u*((b/a:Nat):Int),u,?_⟩;rw[Nat.gcd_rec,←h];have e:(b:Int)=(a:Int)*((b/a:Nat):Int)+((b%a:Nat):Int):=by exact_mod_cast (Nat.div_add_mod b a).symm
    grind
theorem bez(q m:Nat)(hm:2≤m)(h:Nat.gcd q m=1):∃u v:Nat,u*q=v*m+1:=by
 obtain⟨x,y,e⟩:=bezI q m;rw[h]at e;obtain⟨u,hu⟩:∃u:Nat,(u:Int)=x%(m:Int):=⟨(x%(m:Int)).toNat,by have:=Int.emod_nonneg x (b:=(m:Int)) om;omega⟩;have hx:x=(m:Int)*(x/(m:Int))+(u:Int):=by rw[hu];exact(Int.mul_ediv_add_emod x m).symm
 obtain⟨t,ht⟩:∃t:Int,(u:Int)*(q:Int)=t*(m:Int)+1:=⟨- (x/(m:Int))*(q:Int)-y,by
  generalize x/(m:Int)=z at hx;subst hx
  grind⟩
 have r:0≤t:=by
  rcases (by omega:t<0∨0≤t)with h1|h1
  · exfalso
    have h2:t*(m:Int)≤-1*(m:Int):=Int.mul_le_mul_of_nonneg_right om om;have h3:0≤(u:Int)*(q:Int):=by exact_mod_cast Nat.zero_le _
    omega
  · exact h1
 refine⟨u,t.toNat,?_⟩;have:(t.toNat:Int)=t:=Int.toNat_of_nonneg r
 exact_mod_cast this ▸ ht
theorem zpl(r b q m:Nat)(hr:2≤r)(hm:2≤m)(h1:b^q%r=1)(h2:b^m%r=1)(hg:Nat.gcd q m=1):b%r=1:=by
 obtain⟨u,v,e⟩:=bez q m hm hg;have e1:b^(u*q)%r=1:=by rw[Nat.mul_comm,Nat.pow_mul,Nat.pow_mod,h1,Nat.one_pow,Nat.mod_eq_of_lt om]
 have e2:b^(v*m)%r=1:=by rw[Nat.mul_comm,Nat.pow_mul,Nat.pow_mod,h2,Nat.one_pow,Nat.mod_eq_of_lt om]
 rw[e,Nat.pow_succ,Nat.mul_mod,e2,Nat.one_mul,Nat.mod_mod]at e1;exact e1
theorem zml{q:Nat}(hq:Prm q)(m:Nat)(h:¬q ∣ m):Nat.gcd q m=1:=by
 have h1:=Nat.gcd_dvd_left q m;have h2:=Nat.gcd_dvd_right q m;obtain⟨c,hc⟩:=h1;have r:=hq.1
 rcases hq.2 (Nat.gcd q m) c (by rw[←hc];exact Nat.dvd_refl _)with h3|h3
 · exact absurd (Nat.dvd_trans h3 h2) h
 · obtain⟨e,he⟩:=h3
   have h4:Nat.gcd q m*e=1:=by
    have:q*1=q*(Nat.gcd q m*e):=by
     rw[Nat.mul_one]
     calc q=Nat.gcd q m*c:=hc
       _=Nat.gcd q m*(q*e):=by rw[←he]
       _=q*(Nat.gcd q m*e):=by grind
    exact(Nat.eq_of_mul_eq_mul_left om this).symm
   exact Nat.eq_one_of_mul_eq_one_right h4
theorem pock1{N q:Nat}(a:Nat)(hN:2≤N)(hq:Prm q)(hd:q*((N-1)/q)=N-1)(h1:a^(N-1)%N=1)(h2:Nat.gcd (a^((N-1)/q)%N+(N-1)) N=1):
 ∀r,Prm r→r ∣ N→q ∣ r-1:=by
 intro r hr D;have I:=hr.1;obtain⟨m,hm⟩:=ex9 ((N-1)/q);rw[←hm]at hd h2;have A:∀x,x%N%r=x%r:=fun x=>Nat.mod_mod_of_dvd x D
 have J:(a^m)^q%r=1:=by
  rw[←Nat.pow_mul,Nat.mul_comm,hd,←A,h1,Nat.mod_eq_of_lt om]
 have U:=hq.1
 have E:¬r ∣ a^m:=by
  intro hx;have:=Nat.mod_eq_zero_of_dvd (Nat.dvd_trans hx (zkk (a^m) q om));omega
 by_cases hdiv:q ∣ r-1
 · exact hdiv
 · exfalso
   have hb:a^m%r=1:=by
    rcases Nat.lt_or_ge (r-1) 2 with M|G
    · obtain rfl:r=2:=om
      rcases Nat.mod_two_eq_zero_or_one (a^m)with h0|h0
      · exact absurd (Nat.dvd_of_mod_eq_zero h0) E
      · exact h0
    · exact zpl r (a^m) q (r-1) I G J (fermat' hr _ E) (zml hq _ hdiv)
   have h3:r ∣ Nat.gcd (a^m%N+(N-1)) N:=by
    refine Nat.dvd_gcd ?_ D
    have h5:1≤a^m%N:=by
     rcases Nat.eq_zero_or_pos (a^m%N)with h6|h6
     · have:=A (a^m)
       rw[h6,hb]at this
       simp at this
     · exact h6
    have h4:r ∣ a^m%N-1:=by
     have:=A (a^m);rw[hb]at this;exact Nat.dvd_of_mod_eq_zero (Nat.sub_mod_eq_zero_of_mod_eq (by rw[this,Nat.mod_eq_of_lt om]))
    rw[show a^m%N+(N-1)=(a^m%N-1)+N by omega];exact Nat.dvd_add h4 D
   rw[h2]at h3;have:=Nat.le_of_dvd om h3;omega
theorem prm_of{n:Nat}(h2:2≤n)(h:∀d,d ∣ n→d=1∨d=n):Prm n:=by
 refine⟨h2,fun a b hab=>?_⟩
 rcases h _ (Nat.gcd_dvd_left n a)with h1|h1
 · exact Or.inr (Nat.Coprime.dvd_of_dvd_mul_left h1 hab)
 · exact Or.inl (h1 ▸ Nat.gcd_dvd_right n a)
theorem zs2:∀n,2≤n→Prm n∨∃r,Prm r∧r ∣ n∧r*r≤n:=by
 intro n
 induction n using Nat.strongRecOn with
 | _ n ih =>
  intro h2
  by_cases h:∀d,d ∣ n→d=1∨d=n
  · exact Or.inl (prm_of h2 h)
  · right
    simp only[Classical.not_forall,not_or]at h;obtain⟨d,⟨e,he⟩,X,U⟩:=h;have a0:d≠0:=fun h=>by rw[h,Nat.zero_mul]at he;omega
    have V:e≠0:=fun h=>by rw[h,Nat.mul_zero]at he;omega
    have Y:e≠1:=fun h=>by rw[h,Nat.mul_one]at he;exact U he.symm
    obtain⟨s,G,D,E⟩:∃s,2≤s∧s ∣ n∧s*s≤n:=by
     rcases Nat.le_total d e with A|A
     · exact⟨d,by omega,⟨e,he⟩,by rw[he];exact Nat.mul_le_mul_left d A⟩
     · exact⟨e,by omega,⟨d,by rw[he,Nat.mul_comm]⟩,by rw[he];exact Nat.mul_le_mul_right e A⟩
    have J:s<n:=by
     have:s*2≤s*s:=Nat.mul_le_mul_left s G;omega
    rcases ih s J G with hp|⟨r,hr,I,M⟩
    · exact⟨s,hp,D,E⟩
    · refine⟨r,hr,Nat.dvd_trans I D,Nat.le_trans (Nat.le_trans M ?_) E⟩
      exact Nat.le_mul_of_pos_left s om
theorem pock{N:Nat}(F:Nat)(hN:2≤N)(hF:N≤F*F)(h:∀r,Prm r→r ∣ N→F ∣ r-1):Prm N:=by
 rcases zs2 N hN with h1|⟨r,hr,A,D⟩
 · exact h1
 · exfalso
   have E:=hr.1;have h3:=Nat.le_of_dvd om (h r hr A);have h4:F*F<r*r:=Nat.mul_lt_mul_of_lt_of_le om om om;omega
theorem zew{p q n:Nat}(hp:Prm p)(hq:Prm q)(r:p≠q)(h1:p ∣ n)(h2:q ∣ n):p*q ∣ n:=by
 refine Nat.Coprime.mul_dvd_of_dvd_of_dvd (zml hp q ?_) h1 h2;intro h;obtain⟨c,hc⟩:=h
 rcases hq.2 p c (by rw[←hc];exact Nat.dvd_refl _)with h3|h3
 · exact r (Nat.dvd_antisymm ⟨c,hc⟩ h3)
 · obtain⟨e,he⟩:=h3
   have D:=hp.1;have A:=hq.1
   have:q*1=q*(p*e):=by
    rw[Nat.mul_one]
    calc q=p*c:=hc
      _=q*(p*e):=by rw[he];grind
   have h4:=Nat.eq_of_mul_eq_mul_left om this;have:=Nat.eq_one_of_mul_eq_one_right h4.symm;omega
def powm(n:Nat):Nat→Nat→Nat→Nat
 | 0,_,_=>1%n
 | f+1,b,e=>if e%2=1 then b*powm n f (b*b%n) (e/2)%n else powm n f (b*b%n) (e/2)
theorem zmm(n:Nat):∀(f b e:Nat),e<2^f→powm n f b e=b^e%n
 | 0,b,e,h=>by
  obtain rfl:e=0:=by simp at h;omega
  simp[powm]
 | f+1,b,e,h=>by
  have ih:=zmm n f (b*b%n) (e/2) (by rw[Nat.pow_succ]at h;omega)
  have h1:(b*b%n)^(e/2)%n=b^(2*(e/2))%n:=by
   rw[←Nat.pow_mod,←Nat.pow_two,←Nat.pow_mul]
  rw[powm,ih,h1]
  split
  · next h2 =>
    rw[Nat.mul_mod_mod,show b*b^(2*(e/2))=b^(2*(e/2)+1) by rw[Nat.pow_succ,Nat.mul_comm],show 2*(e/2)+1=e by omega]
  · next h2=>rw[show 2*(e/2)=e by omega]
theorem pock2{N q:Nat}(a m x:Nat)(hN:2≤N)(hb:N<2^256)(hq:Prm q)(hd:q*m=N-1)(h1:powm N 256 a (N-1)=1)(h2:powm N 256 a m=x)(h3:Nat.gcd (x+(N-1)) N=1):
 ∀r,Prm r→r ∣ N→q ∣ r-1:=by
 have D:=hq.1;have hm:(N-1)/q=m:=by rw[←hd,Nat.mul_div_cancel_left _ om]
 have A:m≤N-1:=by rw[←hd];exact Nat.le_mul_of_pos_left m om
 rw[zmm _ _ _ _ om]at h1 h2;exact pock1 a hN hq (by rw[hm];exact hd) h1 (by rw[hm,h2];exact h3)
def noDiv(n:Nat):Nat→Bool
 | 0=>true
 | k+1=>n%(k+2) != 0 && noDiv n k
theorem zn7(n:Nat):∀k,noDiv n k=true→∀d,2≤d→d≤k+1→¬d ∣ n
 | 0,_,d,h1,h2=>by omega
 | k+1,h,d,h1,h2=>by
  rw[noDiv,Bool.and_eq_true]at h
  rcases Nat.lt_or_ge d (k+2)with h3|h3
  · exact zn7 n k h.2 d h1 om
  · obtain rfl:d=k+2:=om
    intro h4;have:=Nat.mod_eq_zero_of_dvd h4
    simp[this]at h
theorem zcg{n:Nat}(k:Nat)(h2:2≤n)(hk:n<(k+2)*(k+2))(h:noDiv n k=true):Prm n:=by
 rcases zs2 n h2 with h1|⟨r,hr,A,D⟩
 · exact h1
 · exfalso
   refine zn7 n k h r hr.1 ?_ A
   rcases Nat.lt_or_ge (k+1) r with h3|h3
   · have:(k+2)*(k+2)≤r*r:=Nat.mul_le_mul h3 h3
     omega
   · exact h3
theorem zrv:Prm 991:=zcg 31 (by decide) (by decide) kr
theorem zry:Prm 103:=zcg 10 (by decide) (by decide) kr
theorem zh9:∀r,Prm r→r ∣ 8574133→991 ∣ r-1:=pock2 2 8652 3435729 (by decide) (by decide) zrv kr kr kr kr
theorem zia:∀r,Prm r→r ∣ 8574133→103 ∣ r-1:=pock2 2 83244 4321357 (by decide) (by decide) zry kr kr kr kr
theorem zhh:Prm 8574133:=pock (991*103) (by decide) (by decide) fun r h1 h2=>zew zrv zry (by decide) (zh9 r h1 h2) (zia r h1 h2)
theorem zrx:Prm 127:=zcg 11 (by decide) (by decide) kr
theorem zde:∀r,Prm r→r ∣ 1919519569386763→8574133 ∣ r-1:=pock2 2 223873314 1059928654987441 (by decide) (by decide) zhh kr kr kr kr
theorem zeb:∀r,Prm r→r ∣ 1919519569386763→127 ∣ r-1:=pock2 2 15114327318006 576774792492622 (by decide) (by decide) zrx kr kr kr kr
theorem zc2:Prm 1919519569386763:=pock (8574133*127) (by decide) (by decide) fun r h1 h2=>zew zhh zrx (by decide) (zde r h1 h2) (zeb r h1 h2)
theorem zrw:Prm 419:=zcg 20 (by decide) (by decide) kr
theorem zwo:Prm 97:=zcg 9 (by decide) (by decide) kr
theorem zjx:∀r,Prm r→r ∣ 569003→419 ∣ r-1:=pock2 2 1358 236160 (by decide) (by decide) zrw kr kr kr kr
theorem zlb:∀r,Prm r→r ∣ 569003→97 ∣ r-1:=pock2 2 5866 439588 (by decide) (by decide) zwo kr kr kr kr
theorem zpk:Prm 569003:=pock (419*97) (by decide) (by decide) fun r h1 h2=>zew zrw zwo (by decide) (zjx r h1 h2) (zlb r h1 h2)
theorem zet:∀r,Prm r→r ∣ 2773320623→569003 ∣ r-1:=pock2 2 4874 2039232613 (by decide) (by decide) zpk kr kr kr kr
theorem zh8:Prm 2773320623:=pock 569003 (by decide) (by decide) fun r h1 h2=>zet r h1 h2
theorem zds:∀r,Prm r→r ∣ 72106336199→2773320623 ∣ r-1:=pock2 2 26 67108864 (by decide) (by decide) zh8 kr kr kr kr
theorem zel:Prm 72106336199:=pock 2773320623 (by decide) (by decide) fun r h1 h2=>zds r h1 h2
theorem zbh:∀r,Prm r→r ∣ 75445702479781427272750846543864801→1919519569386763 ∣ r-1:=pock2 2 39304471641247389600 56747016255153332959347766392083459 (by decide) (by decide) zc2 kr kr kr kr
theorem zbm:∀r,Prm r→r ∣ 75445702479781427272750846543864801→72106336199 ∣ r-1:=pock2 2 1046311689884858398375200 71619851993489548214160924360205394 (by decide) (by decide) zel kr kr kr kr
theorem zbf:Prm 75445702479781427272750846543864801:=pock (1919519569386763*72106336199) (by decide) (by decide) fun r h1 h2=>zew zc2 zel (by decide) (zbh r h1 h2) (zbm r h1 h2)
theorem zuv:Prm 1723:=zcg 41 (by decide) (by decide) kr
theorem zic:∀r,Prm r→r ∣ 430751→1723 ∣ r-1:=pock2 2 250 293176 (by decide) (by decide) zuv kr kr kr kr
theorem zi0:Prm 430751:=pock 1723 (by decide) (by decide) fun r h1 h2=>zic r h1 h2
theorem zn0:Prm 4153:=zcg 64 (by decide) (by decide) kr
theorem zdd:∀r,Prm r→r ∣ 31757755568855353→430751 ∣ r-1:=pock2 2 73726481352 15280470251845350 (by decide) (by decide) zi0 kr kr kr kr
theorem zdt:∀r,Prm r→r ∣ 31757755568855353→4153 ∣ r-1:=pock2 2 7646943310584 28256283979054930 (by decide) (by decide) zn0 kr kr kr kr
theorem zcw:Prm 31757755568855353:=pock (430751*4153) (by decide) (by decide) fun r h1 h2=>zew zi0 zn0 (by decide) (zdd r h1 h2) (zdt r h1 h2)
theorem zaq:∀r,Prm r→r ∣ 74058212732561358302231226437062788676166966415465897661863160754340907→75445702479781427272750846543864801 ∣ r-1:=pock2 2 981609426360740691344999861639072106 69490809710348678725736597923071784769591275419387514694139338586948360 (by decide) (by decide) zbf kr kr kr kr
theorem zau:∀r,Prm r→r ∣ 74058212732561358302231226437062788676166966415465897661863160754340907→31757755568855353 ∣ r-1:=pock2 2 2331972502653487852620185443007392165117953542933313402 50366660687963342066214195241331738400016478712605795091965648721912165 (by decide) (by decide) zcw kr kr kr kr
theorem za6:Prm 74058212732561358302231226437062788676166966415465897661863160754340907:=pock (75445702479781427272750846543864801*31757755568855353) (by decide) (by decide) fun r h1 h2=>zew zbf zcw (by decide) (zaq r h1 h2) (zau r h1 h2)
theorem zag:∀r,Prm r→r ∣ 57896044618658097711785492504343953926634992332820282019728792003956564819949→74058212732561358302231226437062788676166966415465897661863160754340907 ∣ r-1:=pock2 2 781764 427094198651976259540344842774561673889945192655078505504941250475370961481 (by decide) (by decide) za6 kr kr kr kr
theorem zaz:Prm 57896044618658097711785492504343953926634992332820282019728792003956564819949:=pock 74058212732561358302231226437062788676166966415465897661863160754340907 (by decide) (by decide) fun r h1 h2=>zag r h1 h2
theorem zuu:Prm 2551:=zcg 50 (by decide) (by decide) kr
theorem zhj:∀r,Prm r→r ∣ 1224481→2551 ∣ r-1:=pock2 2 480 921659 (by decide) (by decide) zuu kr kr kr kr
theorem zhi:Prm 1224481:=pock 2551 (by decide) (by decide) fun r h1 h2=>zhj r h1 h2
theorem zut:Prm 3797:=zcg 61 (by decide) (by decide) kr
theorem zib:∀r,Prm r→r ∣ 531581→3797 ∣ r-1:=pock2 2 140 32301 (by decide) (by decide) zut kr kr kr kr
theorem ziz:Prm 531581:=pock 3797 (by decide) (by decide) fun r h1 h2=>zib r h1 h2
theorem zdf:∀r,Prm r→r ∣ 1257559732178653→1224481 ∣ r-1:=pock2 2 1027014492 1252739704402215 (by decide) (by decide) zhi kr kr kr kr
theorem zdi:∀r,Prm r→r ∣ 1257559732178653→531581 ∣ r-1:=pock2 2 2365697292 1139842034583224 (by decide) (by decide) ziz kr kr kr kr
theorem zes:Prm 1257559732178653:=pock (1224481*531581) (by decide) (by decide) fun r h1 h2=>zew zhi ziz (by decide) (zdf r h1 h2) (zdi r h1 h2)
theorem zb3:∀r,Prm r→r ∣ 4434155615661930479→1257559732178653 ∣ r-1:=pock2 2 3526 415787812636281767 (by decide) (by decide) zes kr kr kr kr
theorem zea:Prm 4434155615661930479:=pock 1257559732178653 (by decide) (by decide) fun r h1 h2=>zb3 r h1 h2
theorem zbn:∀r,Prm r→r ∣ 172054593956031949258510691→4434155615661930479 ∣ r-1:=pock2 2 38802110 81982237619807054769897707 (by decide) (by decide) zea kr kr kr kr
theorem zcn:Prm 172054593956031949258510691:=pock 4434155615661930479 (by decide) (by decide) fun r h1 h2=>zbn r h1 h2
theorem za8:∀r,Prm r→r ∣ 19757330305831588566944191468367130476339→172054593956031949258510691 ∣ r-1:=pock2 2 114831751082918 9148758478138211201771971577098600188172 (by decide) (by decide) zcn kr kr kr kr
theorem zbu:Prm 19757330305831588566944191468367130476339:=pock 172054593956031949258510691 (by decide) (by decide) fun r h1 h2=>za8 r h1 h2
theorem zax:∀r,Prm r→r ∣ 276602624281642239937218680557139826668747→19757330305831588566944191468367130476339 ∣ r-1:=pock2 2 14 16384 (by decide) (by decide) zbu kr kr kr kr
theorem zbr:Prm 276602624281642239937218680557139826668747:=pock 19757330305831588566944191468367130476339 (by decide) (by decide) fun r h1 h2=>zax r h1 h2
theorem zam:∀r,Prm r→r ∣ 7237005577332262213973186563042994240857116359379907606001950938285454250989→276602624281642239937218680557139826668747 ∣ r-1:=pock2 2 26163907866482859529727157400808004 2975531125133123119648879457563281269120703404158613135195788908093573672641 (by decide) (by decide) zbr kr kr kr kr
theorem za1:Prm 7237005577332262213973186563042994240857116359379907606001950938285454250989:=pock 276602624281642239937218680557139826668747 (by decide) (by decide) fun r h1 h2=>zam r h1 h2
theorem zrz:Prm pr:=zaz
def ordB:Nat:=7237005577332262213973186563042994240857116359379907606001950938285454250989
theorem zmr:Prm ordB:=za1
