/- Part of the proof. -/
import Derived.Deep.Slices
import Derived.DataReads
import Derived.Test.YtpgpaenloaphaaaGreatSmx13
import Derived.Test.YtpgpaenloaphaaaGreatSmx14
import Derived.Test.YtpgpaenloaphaaaGreatSmx21
set_option maxRecDepth 100000
set_option maxHeartbeats 0
namespace Go.Proofs.YtpgpaenloaphaaaGreat
open Go.RowKit
section
open Go.ChangeShapes Go.WideShapes Go.ChangeAt Go.RowKit
def Small{H:Type}(B:Option Nat)(d:DataW H):Prop:=∀b,B=some b→Rows.uptoBulk d≤b
theorem zsk{H:Type}{d:DataW H}{l:List (DataW H)}(h:d∈l):Rows.uptoBulk d≤Rows.uptoBulkAll l:=by
 induction l with
 | nil=>cases h
 | cons x r ih =>
  simp only[Rows.uptoBulkAll]
  cases List.mem_cons.1 h with
  | inl e=>subst e;omega
  | inr e=>have:=ih e;omega
theorem zuv{H:Type}(d:DataW H):1≤Rows.uptoBulk d:=by
 cases d with
 | lit l=>cases l <;> simp[Rows.uptoBulk]
 | nil=>simp[Rows.uptoBulk]
 | ptr d=>simp[Rows.uptoBulk]
 | slice elems spare=>simp[Rows.uptoBulk]
 | agg parts=>simp[Rows.uptoBulk]
 | iface t d=>simp[Rows.uptoBulk]
 | map entries=>simp[Rows.uptoBulk]
 | held h=>simp[Rows.uptoBulk]
theorem znz{H:Type}(l:List (DataW H)):l.length≤Rows.uptoBulkAll l:=by
 induction l with
 | nil=>simp[Rows.uptoBulkAll]
 | cons x r ih=>have:=zuv x;simp only[Rows.uptoBulkAll,List.length_cons];omega
structure Reads(P:Program)(B:Option Nat)(N:Nat)(t:TypeId){α:Type}(cells:α→List Value)(Q:World→α→Prop):Prop where
 opens:∀ {H:Type} {enc:TypeId × Value→H} {W:World} {fuel:Nat} {cs:List Value} {x:DataW H × List MemPlace},fuel<N→DataW.trod enc P W 0 (fun _=>true) true fuel t cs=some x→(∀k∈x.1.weights P t,k≤reachBytes)→Small B x.1→∃a,cs=cells a∧Q W a
theorem Reads.imp{P:Program}{B:Option Nat}{N:Nat}{t:TypeId}{α β:Type}{c:α→List Value}{Q:World→α→Prop}{c':β→List Value}{Q':World→β→Prop}(h:Reads P B N t c Q)(f:∀W a,Q W a→∃b,c a=c' b∧Q' W b):Reads P B N t c' Q' :=
 ⟨fun hf hx hw hb=>by
  obtain⟨a,rfl,hq⟩:=h.opens hf hx hw hb;obtain⟨b,e,hq'⟩:=f _ a hq
  exact⟨b,e,hq'⟩⟩
theorem Reads.mono{P:Program}{B:Option Nat}{N M:Nat}{t:TypeId}{α:Type}{c:α→List Value}{Q:World→α→Prop}(h:Reads P B M t c Q)(hN:N≤M):Reads P B N t c Q:=⟨fun hf hx hw hb=>h.opens om hx hw hb⟩
theorem zgz{P:Program}{B:Option Nat}{N:Nat}{t:TypeId}{k:IntKind}(ht:P.underlying t=some (.int k)):Reads P B N t (fun n:Int=>[.int k n]) (fun _ n=>(Lit.int k n).wf=true) :=
 ⟨fun _ hx _ _=>by
  obtain⟨n,rfl,_,hn⟩:=DataW.trod_int ht hx
  exact⟨n,rfl,hn⟩⟩
theorem ztk{P:Program}{B:Option Nat}{N:Nat}{t:TypeId}(ht:P.underlying t=some (.int .u8)):Reads P B N t (fun x:UInt8=>[u8 x]) (fun _ _=>True) :=
 (zgz ht).imp fun _ n hn=>⟨UInt8.ofNat n.toNat,by rw[u8];exact congrArg (fun z=>[Value.int .u8 z]) (zmn hn),trivial⟩
theorem zqo{P:Program}{B:Option Nat}{N:Nat}{t:TypeId}(ht:P.underlying t=some .string):Reads P B N t (fun s:ByteArray=>[.string s]) (fun _ s=>s.size≤reachBytes∧∀b,B=some b→s.size≤b) :=
 ⟨fun _ hx hw hb=>by
  obtain⟨s,rfl,rfl,hn⟩:=DataW.trod_string ht hx
  exact⟨s,rfl,by simpa[DataW.weights] using hw,fun b e=>by
   have:=hb b e
   simp[Rows.uptoBulk]at this
   omega⟩⟩
structure Sl(α:Type) where
 A:Option Addr
 n:Nat
 c:Nat
 l:List α
def Sl.val{α:Type}(s:Sl α):Value:=.slice s.A s.n s.c
structure SlIn(B:Option Nat){α:Type}(sz by_:Nat)(cells:α→List Value)(Q:World→α→Prop)(W:World)(s:Sl α):Prop where
 rd:RdS sz W s.A s.n (s.l.flatMap cells)
 len:s.l.length=s.n
 cap:s.n≤s.c
 reach:s.c*by_≤reachBytes
 small:∀b,B=some b→s.c≤b
 each:∀a∈s.l,Q W a
 size:∀a∈s.l,(cells a).length=sz
theorem zhs{H:Type}{P:Program}{e:TypeId}{d:DataW H}{l:List (DataW H)}{k:Nat}(hd:d∈l)(hk:k∈d.weights P e):k∈DataW.weightsAll P e l:=by
 induction l with
 | nil=>cases hd
 | cons a l ih =>
  rw[DataW.weightsAll,List.mem_append]
  rcases List.mem_cons.1 hd with rfl|h
  · exact .inl hk
  · exact .inr (ih h)
theorem zl8{α β:Type}{f:α→List β}{sz:Nat}{l:List α}(h:∀a∈l,(f a).length=sz){j:Nat}{u:β}(hu:(l.flatMap f)[j]? = some u):∃i a,l[i]? = some a∧∃r,r<sz∧j=i*sz+r∧(f a)[r]? = some u:=by
 induction l generalizing j with
 | nil=>simp at hu
 | cons a l ih =>
  have ha:=h a sy;rw[List.flatMap_cons]at hu
  rcases Nat.lt_or_ge j sz with hj|hj
  · rw[ll9 om]at hu
    exact⟨0,a,rfl,j,hj,by omega,hu⟩
  · rw[ar9 om,ha]at hu
    obtain⟨i,b,hb,r,hr,e,hu'⟩:=ih (fun b hb=>h b (by simp[hb])) hu;exact⟨i+1,b,by simpa using hb,r,hr,by rw[Nat.add_mul];omega,hu'⟩
theorem zl7{α β:Type}{f:α→List β}{sz:Nat}{l:List α}(h:∀a∈l,(f a).length=sz):(l.flatMap f).length=l.length*sz:=by
 induction l with
 | nil=>simp
 | cons a l ih=>rw[List.flatMap_cons,la9,h a sy,ih (fun b hb=>h b (by simp[hb])),List.length_cons,Nat.add_mul];omega
theorem zdv{α β:Type}{f:α→List β}{sz:Nat}{l:List α}(h:∀a∈l,(f a).length=sz){i:Nat}{a:α}(hi:l[i]? = some a){r:Nat}{u:β}(hu:(f a)[r]? = some u):(l.flatMap f)[i*sz+r]? = some u:=by
 induction l generalizing i with
 | nil=>simp at hi
 | cons b l ih =>
  have hb:=h b sy;rw[List.flatMap_cons]
  cases i with
  | zero =>
   simp at hi
   subst hi;have:=(gi9.1 hu).1;rw[ll9 om]
   simpa using hu
  | succ i =>
   simp at hi
   rw[ar9 (by rw[hb,Nat.add_mul];omega),hb,show(i+1)*sz+r-sz=i*sz+r by rw[Nat.add_mul];omega];exact ih (fun b hb=>h b (by simp[hb])) hi
theorem zgy{P:Program}{B:Option Nat}{N:Nat}{t e:TypeId}{α:Type}{cells:α→List Value}{Q:World→α→Prop}(sz by_:Nat)(ht:P.underlying t=some (.slice e))(hC:P.cellsOf e=sz)(hb:P.bytesOf e=by_)(hsz:0<sz)(he:Reads P B N e cells Q):
 Reads P B (N+1) t (fun s:Sl α=>[s.val]) (SlIn B sz by_ cells Q) :=
 ⟨fun {H enc W fuel cs x} hf hx hw hB=>by
  rcases DataW.trod_slice ht hx with ⟨rfl,rfl⟩|⟨a,len,cap,elems,rest,n,rfl,rfl,rfl,_,hl,hm,hlen,hel,hsp,_⟩
  · exact⟨⟨none,0,0,[]⟩,rfl,⟨by simp,fun h=>absurd h (Nat.lt_irrefl 0)⟩,rfl,lr,by simp,by simp,by simp,by simp⟩
  · have hrest:=(hsp rfl).1
    simp only[DataW.weights,ht,List.length_map]at hw
    have hreach:cap*by_≤reachBytes:=by
     have:=hw ((elems.length+rest.length)*P.bytesOf e) sy;rw[hlen,hrest,hb]at this
     rwa [show len+(cap-len)=cap by omega]at this
    have hsmall:∀b,B=some b→cap≤b:=fun b e=>by
     have h0:=hB b e;simp only[Rows.uptoBulk]at h0;have h1:=znz (elems.map (·.1));have h2:=znz (rest.map (·.1));rw[List.length_map]at h1 h2;omega
    have hsm:∀y∈elems,Small B y.1:=fun y hy b e=>by
     have h0:=hB b e;simp only[Rows.uptoBulk]at h0;have h1:=zsk (List.mem_map.2 ⟨y,hy,rfl⟩:y.1∈elems.map (·.1));omega
    have hall:∀k,k≤len→∃l:List α,l.length=k∧∀i b,l[i]? = some b→Q W b∧(cells b).length=sz∧∀r,r<sz→W.cell? (a.add (i*sz+r))=(cells b)[r]?:=by
     intro k
     induction k with
     | zero=>exact fun _=>⟨[],rfl,fun i b h=>by simp at h⟩
     | succ k ih =>
      intro hk;obtain⟨l,hll,h⟩:=ih om;have h1:=hel k om;obtain⟨y,hy⟩:∃y,elems[k]? = some y:=⟨_,ge9 om⟩;rw[hy,Option.bind_eq_some_iff]at h1;obtain⟨cs',hc',htr⟩:=h1
      obtain⟨b,rfl,hq⟩:=he.opens om htr (fun q hq=>hw q (by
       rw[List.mem_cons,List.mem_append]
       exact .inr (.inl (zhs (List.mem_map.2 ⟨y,mg9 hy,rfl⟩) hq)))) (hsm y (mg9 hy))
      obtain⟨_,hcl,hat⟩:=World.cells?_some hc';rw[hC]at hcl hat;refine⟨l++[b],by simp[hll],fun i b' hb'=>?_⟩
      rcases Nat.lt_or_ge i l.length with hi|hi
      · rw[ll9 hi]at hb'
        exact h i b' hb'
      · rw[ar9 hi]at hb'
        have:i-l.length=0:=by
         rcases Nat.eq_zero_or_pos (i-l.length)with h0|h0
         · exact h0
         · rw[List.getElem?_eq_none (by simp;omega)]at hb';cases hb'
        rw[this]at hb'
        simp at hb'
        subst hb';obtain rfl:i=k:=om;refine⟨hq,hcl,fun r hr=>?_⟩;rw[←Go.Deep.add_add];exact hat r hr
    obtain⟨l,hll,h⟩:=hall len lr
    have hsize:∀b∈l,(cells b).length=sz:=fun b hb=>by
     obtain⟨i,hi,e⟩:=List.mem_iff_getElem.1 hb;exact(h i b (by rw[ge9 hi,e])).2.1
    refine⟨⟨some a,len,cap,l⟩,rfl,⟨by rw[zl7 hsize,hll],fun hn=>?_⟩,hll,hl,hreach,hsmall,fun b hb=>?_,hsize⟩
    · obtain⟨b0,hb0⟩:∃b,l[0]? = some b:=⟨_,ge9 (by rw[hll];exact hn)⟩
      have h0:=(h 0 b0 hb0).2.2 0 hsz;obtain⟨u0,hu0⟩:∃u,(cells b0)[0]? = some u:=⟨_,ge9 (by rw[(h 0 b0 hb0).2.1];exact hsz)⟩;rw[hu0]at h0;obtain⟨b,off,spot⟩:=a;have hspot:spot=none:=by simpa[Addr.add] using World.cell?_spot h0
      subst hspot;refine⟨b,off,rfl,(by have:=World.block_lt_of_cell? W _ h0;rw[Addr.add_mid]at this;exact this),fun j u hu=>?_⟩;obtain⟨i,a',ha',r,hr,rfl,hu'⟩:=zl8 hsize hu;have:=(h i a' ha').2.2 r hr;rw[Addr.add_mid,hu']at this;exact this
    · obtain⟨i,hi,e⟩:=List.mem_iff_getElem.1 hb
      exact(h i b (by rw[ge9 hi,e])).1⟩
structure ReadsF(P:Program)(B:Option Nat)(N:Nat)(fs:List Field)(off:Nat){α:Type}(cells:α→List Value)(Q:World→α→Prop):Prop where
 opens:∀ {H:Type} {enc:TypeId × Value→H} {W:World} {fuel:Nat} {cs:List Value} {xs:List (DataW H × List MemPlace)},fuel<N→xs.length=fs.length →
   (∀(i:Nat) (f:Field),fs[i]? = some f→DataW.trod enc P W 0 (fun _=>true) true fuel f.type ((cs.drop f.offset).take (P.cellsOf f.type))=xs[i]?)→(∀k∈DataW.weightsEach P (fs.map (·.type)) (xs.map (·.1)),k≤reachBytes)→(∀b,B=some b→Rows.uptoBulkAll (xs.map (·.1))≤b) →
   (∃a,cs.take off++cells a=cs.take (off+(cells a).length)∧off+(cells a).length=off+(fs.map fun f=>P.cellsOf f.type).sum∧Q W a)∨cs.length<off+(fs.map fun f=>P.cellsOf f.type).sum
theorem zig{P:Program}{B:Option Nat}{N:Nat}{off:Nat}: ReadsF P B N [] off (fun _:Unit=>[]) (fun _ _=>True):=⟨fun _ _ _ _ _=>.inl ⟨(),by simp,by simp,trivial⟩⟩
theorem zcc{P:Program}{B:Option Nat}{N:Nat}{f:Field}{fs:List Field}{off sz:Nat}{α β:Type}{c:α→List Value}{Q:World→α→Prop}{c':β→List Value}{Q':World→β→Prop}(ho:f.offset=off)(hsz:P.cellsOf f.type=sz)
 (h:Reads P B N f.type c Q) (h':ReadsF P B N fs (off+sz) c' Q'):ReadsF P B N (f :: fs) off (fun x:α × β=>c x.1++c' x.2) (fun W x=>Q W x.1∧Q' W x.2) :=
 ⟨fun {H enc W fuel cs xs} hf hl hx hw hB=>by
  cases xs with
  | nil=>simp at hl
  | cons y xs =>
   simp only[List.length_cons,Nat.add_right_cancel_iff]at hl;simp only[List.map_cons,List.sum_cons,hsz]
   rcases Nat.lt_or_ge cs.length (off+(sz+(fs.map fun f=>P.cellsOf f.type).sum))with hlt|hge
   · exact .inr hlt
   left
   have h0:=hx 0 f rfl;rw[ho,hsz]at h0;simp only[List.map_cons,DataW.weightsEach,List.mem_append]at hw;simp only[List.map_cons,Rows.uptoBulkAll]at hB;obtain⟨a,ea,hq⟩:=h.opens hf h0 (fun k hk=>hw k (.inl hk)) (fun b e=>by have:=hB b e;omega)
   rcases h'.opens (cs:=cs) hf hl (fun i g hg=>hx (i+1) g (by simpa using hg)) (fun k hk=>hw k (.inr hk)) (fun b e=>by have:=hB b e;omega)with ⟨b,eb,el,hq'⟩|hb
   · have hal:(c a).length=sz:=by rw[←ea];simp;omega
     refine⟨(a,b),?_,?_,hq,hq'⟩
     · show cs.take off++(c a++c' b)=_
       rw[←as9];have e1:cs.take off++c a=cs.take (off+sz):=by rw[←ea,List.take_add]
       rw[e1,eb,la9,hal,Nat.add_assoc]
     · show off+(c a++c' b).length=_
       rw[la9,hal];omega
   · omega⟩
theorem zfw{P:Program}{B:Option Nat}{N:Nat}{t:TypeId}{fs:Array Field}{α:Type}{c:α→List Value}{Q:World→α→Prop}(ht:P.underlying t=some (.struct fs))(hC:(fs.toList.map fun f=>P.cellsOf f.type).sum=P.cellsOf t)(h:ReadsF P B N fs.toList 0 c Q):Reads P B (N+1) t c Q :=
 ⟨fun {H enc W fuel cs x} hf hx hw hB=>by
  obtain⟨xs,n,rfl,rfl,hcl,hxl,hfs⟩:=DataW.trod_struct ht hx
  rcases h.opens (cs:=cs) (fuel:=n) om (by simpa using hxl) (fun i f hi=>hfs i f (by simpa using hi)) (by simpa[DataW.weights,ht] using hw) (fun b e=>by have:=hB b e;simp only[Rows.uptoBulk]at this;omega)with ⟨a,ea,el,hq⟩|hb
  · refine⟨a,?_,hq⟩
    simp only[List.take_zero,List.nil_append,Nat.zero_add]at ea el;rw[ea,tk om]
  · omega⟩
theorem flat_u8s(l:List UInt8):(l.flatMap fun x=>[u8 x])=u8s l:=by
 induction l with
 | nil=>rfl
 | cons a l ih=>rw[List.flatMap_cons,ih];rfl
theorem SlIn.bytes{B:Option Nat}{W:World}{s:Sl UInt8}(h:SlIn B 1 1 (fun x:UInt8=>[u8 x]) (fun _ _=>True) W s):Rd W s.A s.n (u8s s.l)∧s.n≤s.c∧s.c≤140737488351232:=by
 have h1:=h.rd;rw[flat_u8s]at h1;have h2:=h.reach
 unfold reachBytes at h2
 exact⟨h1.to1,h.cap,by omega⟩
end
section
theorem RdS.bel{sz:Nat}{w w':World}{A:Option Addr}{n:Nat}{xs:List Value}(h:RdS sz w A n xs){B:Nat}(hb:Below B w w')(hB:w.heap.size≤B):RdS sz w' A n xs:=by
 refine⟨h.1,fun hn=>?_⟩;obtain⟨b,off,e,hlt,hc⟩:=h.2 hn;exact⟨b,off,e,Nat.lt_of_lt_of_le hlt hb.size,fun j u hu=>(hb.cell (p:=⟨b,off+j,none⟩) (Nat.lt_of_lt_of_le hlt hB)).trans (hc j u hu)⟩
section
variable{P:Program}{w:World}{o:Oper}{a:Act}
theorem zbn{t e:TypeId}{x y:Operand}{g off n c p sz:Nat}(ho:o.op=.indexAddr t x y)(hx:a.eval x=.slice (some ⟨g,off,none⟩) n c)(hy:a.eval y=.int .i64 (p:Int))(hp:p<n)(hu:P.underlying t=some (.slice e))(hz:∀w,(sizeOf e).run P w=.ok sz w):(execOp a.eval o).run P w=.ok (.value (.pointer (some ⟨g,off+p*sz,none⟩))) w:=by
 unfold execOp
 simp[ho,hx,hy,Instr.indexAt,asIntOf,run_underlying hu,hz,hp,Addr.add]
end
theorem hd16:(Tryz.prog.info? 29).map (·.size)=some 16:=by kernel_rfl
end
section
theorem zrf(n:Nat)(h:n<115792089237316195423570985008687907853269984665640564039457584007913129639936):numL 18446744073709551616 [n%18446744073709551616,n/18446744073709551616%18446744073709551616,n/340282366920938463463374607431768211456%18446744073709551616,n/6277101735386680763835789423207666416102355444464034512896%18446744073709551616]=n:=by
 have:=v4_of n h;simp only[v4]at this;simp only[numL];omega
theorem znf(a b:Nat)(ha:a<115792089237316195423570985008687907853269984665640564039457584007913129639936)(hb:b<115792089237316195423570985008687907853269984665640564039457584007913129639936)(w:World):
 Calls Tryz.prog 146 #[.agg (elc a).toArray,.agg (elc b).toArray] w fun e w'=>e=.returned (.agg (elc (a*b%pr)).toArray)∧Below w.heap.size w w':=by
 have h:=zt1 [a%18446744073709551616,a/18446744073709551616%18446744073709551616,a/340282366920938463463374607431768211456%18446744073709551616,a/6277101735386680763835789423207666416102355444464034512896%18446744073709551616]
   [b%18446744073709551616,b/18446744073709551616%18446744073709551616,b/340282366920938463463374607431768211456%18446744073709551616,b/6277101735386680763835789423207666416102355444464034512896%18446744073709551616] rfl rfl
   (by intro x hx;simp only[List.mem_cons,List.not_mem_nil,or_false]at hx;rcases hx with rfl|rfl|rfl|rfl <;> exact Nat.mod_lt _ om)
   (by intro x hx;simp only[List.mem_cons,List.not_mem_nil,or_false]at hx;rcases hx with rfl|rfl|rfl|rfl <;> exact Nat.mod_lt _ om) w
 rw[zrf a ha,zrf b hb]at h;exact h
theorem sub_el(a b:Nat)(ha:a<115792089237316195423570985008687907853269984665640564039457584007913129639936)(hb:b<115792089237316195423570985008687907853269984665640564039457584007913129639936)(w:World):
 Calls Tryz.prog 143 #[.agg (elc a).toArray,.agg (elc b).toArray] w fun e w'=>e=.returned (.agg (elc ((a+(pr-b%pr))%pr)).toArray)∧Below w.heap.size w w':=by
 refine(zvt _ _ _ _ _ _ _ _ (Nat.mod_lt _ om) (Nat.mod_lt _ om) (Nat.mod_lt _ om) (Nat.mod_lt _ om) (Nat.mod_lt _ om) (Nat.mod_lt _ om) (Nat.mod_lt _ om) (Nat.mod_lt _ om) w).mono ?_;rintro e w' ⟨s0,s1,s2,s3,q,q',rfl,⟨h0,h1,h2,h3,h4,h5⟩,hB⟩;rw[v4_of a ha,v4_of b hb]at h5;exact⟨by rw[l4_of _ _ _ _ h0 h1 h2 h3,sub_of _ _ _ _ _ h5 h4],hB⟩
attribute [local go_sem ↓] zc1
theorem sq_el(n:Nat)(hn:n<115792089237316195423570985008687907853269984665640564039457584007913129639936)(w:World):
 Calls Tryz.prog 144 #[.agg (elc n).toArray] w fun e w'=>e=.returned (.agg (elc (n*n%pr)).toArray)∧Below w.heap.size w w':=by
 have HM:=qh (fun W=>znf n n hn hn W);have hld:∀o,(ldAt 184 (.pointer (some ⟨w.heap.size,0,none⟩))).run Tryz.prog ((w.alloc (.cells (elc n).toArray 184)).alloc o)=.ok (.agg (elc n).toArray) ((w.alloc (.cells (elc n).toArray 184)).alloc o):=fun o=>zbg ((Blk.new w 184 (elc n)).alloc o)
 have HE:Hid (∀o,Below w.heap.size w ((w.alloc (.cells (elc n).toArray 184)).alloc o)):=fun o=>((Below.refl _ w).alloc lr _).alloc sy _
 have HR:Hid (Blk ((w.alloc (.cells (elc n).toArray 184)).alloc (.cells (l4 0 0 0 0).toArray 184)) (w.heap.size+1) 184 (l4 0 0 0 0)):=Blk.new' sy rfl
 go_enter Tryz.func144, Tryz.ntmps144
 go_wp2_with (first
  | ((with_reducible refine(HM.out _).mono ?_);rintro e w3 ⟨rfl,hB1⟩;have HR3:=qbl HR hB1;have HE3:=qh ((HE.out _).trans (hB1.mono (HE.out _).size));clear hB1)
  | (refine zab rfl 184 (.tmp 2) (.tmp 5) rfl (w.heap.size+1) (elc (n*n%pr)) rr rr 184 _ HR3.out (by exact hdEl) (za1 _) rfl ?_;intro w5 hb5 ho5;have HB5:=qh hb5;have HE5:=qh (ho5.below HE3.out (Nat.le_succ _) HE3.out.size);clear hb5 ho5))
 exact bodyPost_ret (zam rfl _ _ _ _ rfl HB5.out _ Tryz.underlying184 rfl (by exact hdEl)) rfl ⟨rfl,HE5.out⟩
end
section
def sumT(ns:List Nat):Nat→Nat
 | 0=>0
 | k+1=>sumT ns k+ns.getD k 0
theorem zgh{w:World}{A:Option Addr}{n:Nat}{l:List Nat}(h:RdS 4 w A n (l.flatMap elc)){i x:Nat}(hi:l[i]? = some x)(hn:0<n):
 ∃b off,A=some ⟨b,off,none⟩∧b<w.heap.size∧w.rangeAt b (off+i*4) (elc x):=by
 obtain⟨b,off,e,hb,hc⟩:=h.2 hn;refine⟨b,off,e,hb,fun j v hv=>?_⟩;have h1:=zdv (f:=elc) (sz:=4) (fun a ha=>rfl) hi hv;rw[Nat.add_assoc];exact hc _ _ h1
theorem RdS.bel'{sz:Nat}{w w':World}{A:Option Addr}{n:Nat}{xs:List Value}(h:RdS sz w A n xs){B:Nat}(hb:Below B w w')(hB:w.heap.size≤B):RdS sz w' A n xs:=by
 refine⟨h.1,fun hn=>?_⟩;obtain⟨b,off,e,hlt,hc⟩:=h.2 hn;exact⟨b,off,e,Nat.lt_of_lt_of_le hlt hb.size,fun j u hu=>(hb.cell (p:=⟨b,off+j,none⟩) (Nat.lt_of_lt_of_le hlt hB)).trans (hc j u hu)⟩
theorem zk2{w:World}{o:Oper}{a:Act}{g:Nat}{t:TypeId}{x:Operand}{n:Nat}(ho:o.op=.load 184 x)(hx:a.eval x=.pointer (some ⟨g,0,none⟩))(hb:Blk w g t (elc n)):(execOp a.eval o).run Tryz.prog w=.ok (.value (.agg (elc n).toArray)) w :=
 zad ho hx (zbg hb)
attribute [local go_sem ↓] zc1
theorem sum_el(A:Option Addr)(n c:Nat)(ns:List Nat)(w:World)(hn9:n<1000)(h:RdS 4 w A n (ns.flatMap elc))(hl:ns.length=n)(hs:∀x∈ns,x<115792089237316195423570985008687907853269984665640564039457584007913129639936):
 Calls Tryz.prog 142 #[.slice A n c] w fun e w'=>e=.returned (.agg (elc (sumT ns n%pr)).toArray)∧Below w.heap.size w w':=by
 have HR:=qh h;have HL:=qh hl;have HS:=qh hs
 have HM0:Hid (Blk ((w.alloc (.cells (l4 0 0 0 0).toArray 184)).alloc (.cells (l4 0 0 0 0).toArray 184)) w.heap.size 184 (l4 0 0 0 0)∧Blk ((w.alloc (.cells (l4 0 0 0 0).toArray 184)).alloc (.cells (l4 0 0 0 0).toArray 184)) (w.heap.size+1) 184 (elc 0)∧Below w.heap.size w ((w.alloc (.cells (l4 0 0 0 0).toArray 184)).alloc (.cells (l4 0 0 0 0).toArray 184))) :=
  ⟨(Blk.new w _ _).alloc _,Blk.new' sy rfl,((Below.refl _ w).alloc lr _).alloc sy _⟩
 clear h hl hs
 go_enter Tryz.func142, Tryz.ntmps142
 go_wp2
 go_loopg [8] n (fun kk q wr=>∃i:Nat,kk=n-i∧q=.int .i64 (i:Int)∧i≤n∧Blk wr w.heap.size 184 (l4 0 0 0 0)∧Blk wr (w.heap.size+1) 184 (elc (sumT ns i%pr))∧Below w.heap.size w wr)
 case atStart=>exact⟨0,rfl,rfl,by omega,HM0.out.1,HM0.out.2.1,HM0.out.2.2⟩
 case round =>
  clear HM0;obtain⟨i,hgk,rfl,hi,hz,hb,hB⟩:=hrel;have HGK:=qh hgk;clear hgk
  rcases Nat.lt_or_ge i n with hlt|hge
  · have hlt2:(i:Int)<(n:Int):=om
    obtain⟨x,hsi⟩:∃x,ns[i]? = some x:=⟨_,ge9 (by rw[HL.out];omega)⟩;have hxP:=HS.out x (mg9 hsi);obtain⟨b2,o2,rfl,hb2,hrg⟩:=zgh (HR.out.bel' hB lr) hsi om;have hld:(ldAt 184 (.pointer (some ⟨b2,o2+i*4,none⟩))).run Tryz.prog wr=.ok (.agg (elc x).toArray) wr:=run_loadAt_mid wr b2 (o2+i*4) 184 (elc x) _ hrg Tryz.underlying184 rfl (by exact hdEl)
    have HX:Hid (sumT ns (i+1)%pr=(sumT ns i%pr+x%pr)%pr):=by
     rw[sumT,gd9,hsi];exact Nat.add_mod _ _ _
    have hxs:w.heap.size+2≤wr.heap.size:=by have:=hb.lt;omega
    have HB:=qh hb;have HZ:=qh hz;have HBB:=qh hB;have HXP:=qh hxP;have HXS:=qh hxs;clear hsi hrg hb hz hB hb2 hxP hxs
    go_upto_region 5 with (refine zab rfl 184 (.tmp 5) (.tmp 11) rfl wr.heap.size (elc x) rr rr 184 (l4 0 0 0 0) (by exact Blk.new' rfl rfl) (by exact hdEl) (za1 _) rfl ?_;intro w1 hb1 ho1)
    have hbs:=HXS.out;have HZ1:=ho1.blk (HZ.out.alloc _) om;have HS1:=ho1.blk (HB.out.alloc _) om;have HE1:=ho1.below (HBB.out.alloc HBB.out.size _) HBB.out.size (by simp;omega);have HT:Hid (Blk w1.drew (w.heap.size+1) 184 (elc (sumT ns i%pr))∧Blk w1.drew wr.heap.size 184 (elc x)):=⟨HS1.drew,hb1.drew⟩;refine kgo kr 4 (fun w'=>Blk w' (w.heap.size+1) 184 (elc (sumT ns i%pr))∧Blk w' wr.heap.size 184 (elc x)) HT.out (fun _ _ _ _ _ h=>h) ?_;refine kl 0 (.agg (elc (sumT ns i%pr)).toArray) rfl kr (fun w' hw'=>zk2 (x:=.tmp 3) rr kr hw'.1) ?_;refine kl 1 (.agg (elc x).toArray) rfl kr (fun w' hw'=>zk2 (x:=.tmp 5) rr kr hw'.2) ?_;intro q8 q9;clear q8 q9;refine AnyK.enter 2 (d:=some 14) (f:=141) (args:=#[.agg (elc x).toArray]) rr kr kr ?_;refine(zji x HXP.out _).mono ?_;rintro e w2 ⟨rfl,hB2⟩;have HT2:Hid (Blk w2 (w.heap.size+1) 184 (elc (sumT ns i%pr))∧Blk w2 wr.heap.size 184 (elc x)):=⟨HT.out.1.below hB2 HT.out.1.lt,HT.out.2.below hB2 HT.out.2.lt⟩;have HZ2:=HZ1.drew.below hB2 HZ1.drew.lt;have HE2:=HE1.drew.trans (hB2.mono HE1.drew.size);refine⟨_,rfl,fun _=>HT2.out,?_⟩;refine AnyK.enter 3 (d:=some 15) (f:=167) (args:=#[.agg (elc (sumT ns i%pr)).toArray,.agg (elc (x%pr)).toArray]) rr kr kr ?_;refine(add_el (sumT ns i%pr) (x%pr) (pr_lt _) (pr_lt _) (by have h1:=zdb (sumT ns i);have h2:=zdb x;simp only[pr]at h1 h2 ⊢;omega) _).mono ?_;rintro e w3 ⟨rfl,hB3⟩;have HT3:Hid (Blk w3 (w.heap.size+1) 184 (elc (sumT ns i%pr))∧Blk w3 wr.heap.size 184 (elc x)):=⟨HT2.out.1.below hB3 HT2.out.1.lt,HT2.out.2.below hB3 HT2.out.2.lt⟩;have HZ3:=HZ2.below hB3 HZ2.lt;have HE3:=HE2.trans (hB3.mono HE2.size);refine⟨_,rfl,fun _=>HT3.out,?_⟩;rw[←HX.out];refine AnyK.storeAll 4 (w.heap.size+1) (elc (sumT ns (i+1)%pr)) 184 _ rfl rfl rfl rr kr kr kr HT3.out.1 (by exact hdEl) (za1 _) rfl (fun _ _ _ h=>(by cases h)) ?_;intro w6 hb6 ho6;refine AnyK.done kr ?_;have HE6:=qh (ho6.below HE3 om HE3.size);have HB6:=qh hb6;have HZ6:=qh (ho6.blk HZ3 om);clear hb6 ho6 HZ3 HE3 HE2 HZ2 hB2 hB3 HZ1 HS1 HE1 hb1 ho1 hbs;go_wp2;go_roundg (n-(i+1))
    case measure=>have:=HGK.out;omega
    case rel=>exact⟨i+1,rfl,by go_num,by omega,HZ6.out,HB6.out,HE6.out⟩
  · obtain rfl:i=n:=om
    have hlt2:¬(i:Int)<(i:Int):=om;have hld:=zbg hb;have HZ:=qh hz;have HBB:=qh hB;clear hb hz hB
    go_wp2_with (refine zab rfl 184 (.tmp 2) (.tmp 17) rfl w.heap.size (elc (sumT ns i%pr)) rr rr 184 (l4 0 0 0 0) HZ.out (by exact hdEl) (za1 _) rfl ?_;intro w5 hb5 ho5;have HB5:=qh hb5;have HE5:=qh (ho5.below HBB.out lr HBB.out.size);clear hb5 ho5)
    exact bodyPost_ret (zam rfl _ _ _ _ rfl HB5.out _ Tryz.underlying184 rfl (by exact hdEl)) rfl ⟨rfl,HE5.out⟩
end
section
theorem ze2{w:World}{A:Option Addr}{n:Nat}{l:List Sp}(h:RdS 192 w A n (l.flatMap Sp.cells))(hs:∀s∈l,s.ok){i:Nat}{s:Sp}(hi:l[i]? = some s)(hn:0<n):
 ∃b off,A=some ⟨b,off,none⟩∧b<w.heap.size∧w.rangeAt b (off+i*192) s.cells:=by
 obtain⟨b,off,e,hb,hc⟩:=h.2 hn;refine⟨b,off,e,hb,fun j v hv=>?_⟩;have h1:=zdv (f:=Sp.cells) (sz:=192) (fun a ha=>Sp.cells_len (hs a ha)) hi hv;rw[Nat.add_assoc];exact hc _ _ h1
def fil(ss:List Sp):Nat→List UInt8
 | 0=>[]
 | k+1=>Ch.xor (fil ss k++List.replicate 48 0) ((Ch.piece ((ss[k]?.map Sp.stream).getD []) 0 288).drop (288-(48*k+48)))
theorem zjw(ss:List Sp)(k:Nat)(h:k≤5):(fil ss k).length=48*k:=by
 induction k with
 | zero=>rfl
 | succ k ih =>
  have ih:=ih om;rw[fil,Ch.xor_len _ _ (by rw[la9,ih,lp9,List.length_drop,Ch.piece_len];omega),la9,ih,lp9];omega
theorem zns{ss:List Sp}{k:Nat}{s:Sp}(h:ss[k]? = some s):fil ss (k+1)=Ch.xor (fil ss k++List.replicate 48 0) ((Ch.piece s.stream 0 288).drop (288-(48*k+48))):=by rw[fil,h];rfl
theorem Sp.cells_one(s:Sp):∀v∈s.cells,v.oneCell'=true:=zac _
def z48:List UInt8:=List.replicate 48 0
theorem zcSp:Tryz.zeroCells43 = (u8s (List.replicate 192 0)).toArray:=by kernel_rfl
attribute [local go_sem ↓] zr1
theorem zo5(A:Option Addr)(m c:Nat)(ss:List Sp)(w:World)(h:RdS 192 w A (m+1) (ss.flatMap Sp.cells))(hs:∀s∈ss,s.ok)(hl:ss.length=m+1)(hm:m≤4)(hc:m+1≤c):
 Calls Tryz.prog 84 #[.slice A (m+1) c] w fun e w'=>∃A' c',e=.returned (.tuple #[.slice A' (48*m) c',.int .i64 0])∧48*m≤c'∧w'.ownsRow w.heap.size 5 1 (.slice A' (48*m) c') (48*m) (u8s (fil ss m))∧Below w.heap.size w w':=by
 have HR:=qh h;have HS:=qh hs;have HL:=qh hl;obtain⟨b,off,rfl,hb,_⟩:=h.2 om;have h1:¬((m:Int)+1<1):=om;have h5:¬((5:Int)<(m:Int)+1):=om;have HMK:Hid (∀W,(Instr.makeSlice 22 (.int .i64 48) (.int .i64 48)).run Tryz.prog W=.ok (.slice (some ⟨W.heap.size,0,none⟩) 48 48) (W.alloc (.cells (u8s z48).toArray 5))):=fun W=>by kernel_rfl
 have HO0:Hid (w.ownsRow w.heap.size 5 1 (.slice none 0 0) 0 (u8s (fil ss 0))):=World.ownsRow_nil _ _ _ _;clear h hs hl
 go_enter Tryz.func84, Tryz.ntmps84
 go_wp2_with fail
 go_loopg [4,24] m (fun kk v q wr=>∃k:Nat,k≤m∧kk=m-k∧q=.int .i64 k∧(∃A' c',v=.slice A' (48*k) c'∧48*k≤c'∧wr.ownsRow w.heap.size 5 1 (.slice A' (48*k) c') (48*k) (u8s (fil ss k)))∧Below w.heap.size w wr)
 case atStart=>exact⟨0,by omega,rfl,rfl,⟨none,0,rfl,by omega,HO0.out⟩,Below.refl _ _⟩
 case round =>
  clear HO0;obtain⟨k,hk,hgk,rfl,⟨A',c',rfl,hc',hown⟩,hB⟩:=hrel;have HGK:=qh hgk;clear hgk
  by_cases hlt:k<m
  · have hlt2:(k:Int)<(m:Int):=om
    obtain⟨s,hsi⟩:∃s,ss[k]? = some s:=⟨_,ge9 (by rw[HL.out];omega)⟩;have hok:=HS.out s (mg9 hsi);obtain⟨b2,o2,e2,hb2,hrg⟩:=ze2 (HR.out.bel hB lr) HS.out hsi om
    injection e2 with e2
    injection e2 with e2 e3
    subst e2;subst e3;have hld:(ldAt 43 (.pointer (some ⟨b,off+k*192,none⟩))).run Tryz.prog wr=.ok (.agg s.cells.toArray) wr:=run_loadAt_mid wr b (off+k*192) 43 s.cells _ hrg Tryz.underlying43 rfl (by rw[Sp.cells_len hok];exact hd69);have HNX:=qh (zns hsi);have hfl:=zjw ss k om;have HSL:=qh (Sp.cells_len hok)
    have HST:Hid (∀W,Blk W wr.heap.size 43 s.cells→Calls Tryz.prog 130 #[.slice (some ⟨wr.heap.size,32,none⟩) 32 32,.int .i64 288] W fun e w'=>∃g c',e=.returned (.tuple #[.slice (some ⟨g,0,none⟩) 288 c',.int .i64 0])∧288≤c'∧w'.ownsRow W.heap.size 5 1 (.slice (some ⟨g,0,none⟩) 288 c') 288 (u8s (Ch.piece s.stream 0 288))∧Below W.heap.size W w'):=fun W hb=>by
     refine(zn5 (some ⟨wr.heap.size,32,none⟩) 32 s.stream 288 W (Sp.rd hb hok 32 s.stream om (Sp.at_stream hok)) om).mono ?_;rintro e w' ⟨A',c',rfl,hc',ho,hB⟩;obtain⟨g,rfl,_⟩:=zcl ho om;exact⟨g,c',rfl,hc',ho,hB⟩
    have HS1:=qh (Sp.cells_one s);have hpl:=Ch.piece_len s.stream 0 288;obtain⟨F,hF⟩:=ex9 (fil ss k);rw[←hF]at HNX hfl hown;obtain⟨S,hS⟩:=ex9 (Ch.piece s.stream 0 288);rw[←hS]at HNX HST hpl;obtain⟨L,hL⟩:=ex9 (48*k+48);obtain⟨D,hD⟩:=ex9 (288-L);rw[←hL,←hD]at HNX;have hDI:(288:Int)-(L:Int)=(D:Int):=om;have hD0:(0:Int)≤(D:Int):=om;have hD8:(D:Int)≤288:=om;have hL8:288-D=L:=om;have hD9:D≤240:=om
    have HJ:Hid (∀(W:World) (gl gz:Nat),Blk W gl 22 [.slice A' (48*k) c',.slice (some ⟨gz,0,none⟩) 48 48]→Rd W A' (48*k) (u8s F)→Blk W gz 5 (u8s z48)→Calls Tryz.prog 42 #[.slice (some ⟨gl,0,none⟩) 2 2] W fun e w'=>∃g c',e=.returned (.slice (some ⟨g,0,none⟩) L c')∧L≤c'∧w'.ownsRow W.heap.size 5 1 (.slice (some ⟨g,0,none⟩) L c') L (u8s (F++List.replicate 48 0))∧Below W.heap.size W w'):=fun W gl gz h1 h2 h3=>by
     refine(zev _ 2 2 [F,List.replicate 48 0] W (RdB.of_blk h1 ⟨.of_rd h2 hc',.of_blk h3 0 48 48 z48 (by rw[zaa,z48,lp9];omega) om (by rw[List.drop_zero,tk (by rw[zaa,z48,lp9];omega)]),trivial⟩) om (F++List.replicate 48 0) L sy (by simp[hfl,hL]) om).mono ?_;rintro e w' ⟨A2,c2,rfl,hc2,ho,hB⟩;obtain⟨g,rfl,_⟩:=zcl ho om;exact⟨g,c2,rfl,hc2,ho,hB⟩
    have HX:Hid (∀(W:World) (gl g9 g7 c9 c7:Nat),Blk W gl 22 [.slice (some ⟨g9,0,none⟩) L c9,.slice (some ⟨g7,D,none⟩) (288-D) (c7-D)]→Rd W (some ⟨g9,0,none⟩) L (u8s (F++List.replicate 48 0))→L≤c9→Rd W (some ⟨g7,0,none⟩) 288 (u8s S)→288≤c7→Calls Tryz.prog 107 #[.slice (some ⟨gl,0,none⟩) 2 2] W fun e w'=>∃A2 c2,e=.returned (.tuple #[.slice A2 L c2,.int .i64 0])∧L≤c2∧w'.ownsRow W.heap.size 5 1 (.slice A2 L c2) L (u8s (fil ss (k+1)))∧Below W.heap.size W w'):=fun W gl g9 g7 c9 c7 h1 h2 h9 h3 h7=>by
     rw[HNX.out];have h8:=zg1 h3 D (288-D) om;rw[Nat.zero_add,tk (by rw[List.length_drop,hpl];omega)]at h8;exact zm1 _ 2 L (F++List.replicate 48 0) (S.drop D) W (RdB.of_blk h1 ⟨.of_rd h2 h9,.of_rd h8 om,trivial⟩) (by simp[hfl,hL]) (by rw[List.length_drop,hpl];omega) om
    generalize s.cells=C at *;have HOW:=qh hown;have HB:=qh hB;have HLL:=qh hL;have HL8:=qh hL8;clear hsi hok hrg hfl hpl hF hS hown hB hL hD hL8;have hmk:=HMK.out;have hbs:=HB.out.size
    go_wp2_with (first
     | (refine zab rfl 43 (.tmp 6) (.tmp 27) rfl wr.heap.size C rr rr 43 (u8s (List.replicate 192 0)) (by exact Blk.new' rfl zcSp) (by rw[HSL.out];exact hd69) HS1.out (by rw[HSL.out];rfl) ?_;intro w1 hb1 ho1;have HE1:=qh (ho1.below (HB.out.alloc hbs _) hbs (Nat.le_trans hbs sy));have HB1:=qh hb1;have HO1:=qh (zc3 (HOW.out.alloc _) ho1 (fun k hk=>by have h9:=(HOW.out.lt k hk).2;omega));have hs1:=ho1.size;clear hb1 ho1)
     | (go_at_call 130;(with_reducible refine(HST.out _ (by exact HB1.out)).mono ?_);rintro e w2 ⟨g2,c2,rfl,hc2,hown2,hB2⟩;have HE2:=qtr HE1 hB2;have HO2:=qh (zau HO1.out hB2);have HP2:=qh (Rd.of_own hown2);have hs2:=hB2.size;have hg2:¬c2=D:=om;have hg3:(D:Int)≤(c2:Int):=om;clear hown2 hB2)
     | (go_at_call 42;(with_reducible refine(HJ.out _ _ _ (by exact Blk.new' sy rfl) (by exact(((Rd.of_own HO2.out).alloc _).alloc _)) (by exact(Blk.new' rfl rfl).alloc _)).mono ?_);rintro e w3 ⟨g3,c3,rfl,hc3,hown3,hB3⟩;have HE3:=qh ((HE2.out.alloc HE2.out.size _).alloc (Nat.le_trans HE2.out.size sy) _ |>.trans (hB3.mono (Nat.le_trans HE2.out.size (by simp;omega))));have HP3:=qh (((HP2.out.alloc _).alloc _).below hB3);have HJ3:=qh (Rd.of_own hown3);have hs3:=hB3.size;clear hown3 hB3)
     | (go_at_call 107;(with_reducible refine(HX.out _ _ _ _ _ _ (by exact Blk.new' rfl rfl) (by exact HJ3.out.alloc _) (by exact hc3) (by exact HP3.out.alloc _) (by exact hc2)).mono ?_);rintro e w4 ⟨A4,c4,rfl,hc4,hown4,hB4⟩;have HE4:=qh ((HE3.out.alloc HE3.out.size _).trans (hB4.mono (Nat.le_trans HE3.out.size sy)));have HO4:=qh (zbj hown4 (base':=w.heap.size) (Nat.le_trans HE3.out.size sy));clear hown4 hB4))
    go_roundg (m-(k+1))
    case measure=>have:=HGK.out;omega
    case rel=>exact⟨k+1,by omega,rfl,by go_num,⟨A4,c4,by rw[HLL.out];rfl,by have:=HLL.out;omega,by have h9:=HO4.out;rw[HLL.out]at h9;exact h9⟩,HE4.out⟩
  · obtain rfl:k=m:=om
    have hlt2:¬(k:Int)<(k:Int):=om;have HOW:=qh hown;clear hown
    go_wp2_with fail
    go_ret2;exact⟨A',c',rfl,hc',HOW.out,hB⟩
end
end Go.Proofs.YtpgpaenloaphaaaGreat
