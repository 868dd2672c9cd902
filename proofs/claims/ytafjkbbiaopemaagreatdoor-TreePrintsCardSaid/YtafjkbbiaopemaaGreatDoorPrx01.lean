/- Part of the proof. -/
import Derived.Test.YtafjkbbiaopemaaGreatDoorChecked
import Derived.WalkKit
import Derived.WalkSpells
import Derived.WalkLawsBesides
import Derived.BigQuiet
import Derived.Deep.QuietTactic
import Derived.Lib.Hide
import Derived.Maps.AppendAt
import Derived.Deep.AppendLies
import Derived.Deep.Draws
import Derived.Deep.RegionHeld3
import Derived.Laws.OwnMore
import Derived.Laws.CopyOwn
import Derived.Laws.ResultCell
import Derived.OrdersHeld
set_option linter.all false
set_option maxRecDepth 100000
set_option maxHeartbeats 0
namespace Go.Proofs.YtafjkbbiaopemaaGreatDoor
open Go.RowKit
section
theorem qh{p:Prop}(h:p):Hid p:=(Lib.hid) h
theorem kr{p:Prop}(h:p:=by kernel_rfl):p:=h
theorem rr{p:Prop}(h:p:=by rfl):p:=h
theorem om{p:Prop}(h:p:=by omega):p:=h
theorem sy{p:Prop}(h:p:=by simp):p:=h
theorem lr{n:Nat}: n≤n:=Nat.le_refl n
theorem tk{α:Type}{i:Nat}{l:List α}(h:l.length≤i):l.take i=l:=_root_.List.take_of_length_le h
theorem ge9{α:Type}{l:List α}{i:Nat}(h:i<l.length):l[i]? = some (l[i]):=_root_.List.getElem?_eq_getElem h
theorem ex9{α:Type}(a:α):∃x,x=a:=⟨a,rfl⟩
theorem gd9{α:Type}{l:List α}{i:Nat}{a:α}: l.getD i a=l[i]?.getD a:=_root_.List.getD_eq_getElem?_getD
theorem mg9{α:Type}{l:List α}{i:Nat}{a:α}(h:l[i]? = some a):a∈l:=_root_.List.mem_of_getElem? h
theorem ga9{w:World}: ∀(W:World) (o:Obj),Below w.heap.size w W→Below w.heap.size w (W.alloc o):=fun _ o h=>h.alloc h.size o
theorem gs9{w:World}: ∀W:World,Below w.heap.size w W→w.heap.size≤W.heap.size:=fun _ h=>h.size
theorem gi9{α:Type}{l:List α}{i:Nat}{a:α}: l[i]? = some a ↔ ∃h:i<l.length,l[i]=a:=_root_.List.getElem?_eq_some_iff
theorem lp9{α:Type}{n:Nat}{a:α}: (_root_.List.replicate n a).length=n:=_root_.List.length_replicate
theorem as9{α:Type}(a b c:List α):(a++b)++c=a++(b++c):=_root_.List.append_assoc a b c
theorem ar9{α:Type}{l m:List α}{i:Nat}(h:l.length≤i):(l++m)[i]? = m[i-l.length]?:=_root_.List.getElem?_append_right h
theorem ll9{α:Type}{l m:List α}{i:Nat}(h:i<l.length):(l++m)[i]? = l[i]?:=_root_.List.getElem?_append_left h
theorem la9{α:Type}{l m:List α}: (l++m).length=l.length+m.length:=_root_.List.length_append
def Rd(w:World)(A:Option Addr)(n:Nat)(xs:List Value):Prop :=
 xs.length=n∧(0<n→∃b off,A=some ⟨b,off,none⟩∧b<w.heap.size∧∀j u,xs[j]? = some u→w.cell? ⟨b,off+j,none⟩=some u)
def u8(c:UInt8):Value:=.int .u8 c.toNat
def u8s(l:List UInt8):List Value:=l.map u8
theorem zfd(l:List UInt8):(u8s l).length=l.length:=by simp[u8s]
theorem za9(a b:List UInt8):u8s (a++b)=u8s a++u8s b:=by simp[u8s]
theorem u8s_getElem?(l:List UInt8)(k:Nat):(u8s l)[k]? = l[k]?.map u8:=by simp[u8s]
theorem Rd.len{w:World}{A:Option Addr}{n:Nat}{l:List UInt8}(h:Rd w A n (u8s l)):l.length=n:=by simpa[zfd] using h.1
theorem Rd.at_{w:World}{A:Option Addr}{n:Nat}{xs:List Value}(h:Rd w A n xs){k:Nat}(hk:k<n):
 ∃b off u,A=some ⟨b,off,none⟩∧b<w.heap.size∧Hid (xs[k]? = some u)∧w.cell? ⟨b,off+k,none⟩=some u:=by
 obtain⟨b,off,e,hb,hc⟩:=h.2 om;have hl:k<xs.length:=by have:=h.1;omega
 exact⟨b,off,_,e,hb,ge9 hl,hc k _ (ge9 hl)⟩
theorem Rd.u8{w:World}{A:Option Addr}{n:Nat}{l:List UInt8}(h:Rd w A n (u8s l)){k:Nat}(hk:k<n):
 ∃b off x,A=some ⟨b,off,none⟩∧b<w.heap.size∧Hid (l[k]? = some x)∧w.cell? ⟨b,off+k,none⟩=some (.int .u8 (x:UInt8).toNat):=by
 obtain⟨b,off,e,hb,hc⟩:=h.2 om;have hl:k<l.length:=by have:=h.len;omega
 exact⟨b,off,l[k],e,hb,ge9 hl,hc k _ (by rw[u8s_getElem?,ge9 hl];rfl)⟩
theorem Rd.keep{w w':World}{A:Option Addr}{n:Nat}{xs:List Value}(h:Rd w A n xs)(hs:w.heap.size≤w'.heap.size)(hk:∀p:Addr,p.block<w.heap.size→w'.cell? p=w.cell? p):Rd w' A n xs :=
 ⟨h.1,fun hn=>by
  obtain⟨b,off,e,hbl,hc⟩:=h.2 hn
  exact⟨b,off,e,Nat.lt_of_lt_of_le hbl hs,fun j u hu=>(hk ⟨b,off+j,none⟩ hbl).trans (hc j u hu)⟩⟩
theorem Rd.below{w w':World}{A:Option Addr}{n:Nat}{xs:List Value}(h:Rd w A n xs)(hb:Below w.heap.size w w'):Rd w' A n xs :=
 h.keep hb.size fun _ hp=>hb.cell hp
theorem Rd.drewN{w:World}{A:Option Addr}{n:Nat}{xs:List Value}(h:Rd w A n xs)(q:Nat):Rd (w.drewN q) A n xs:=h
theorem Rd.drew{w:World}{A:Option Addr}{n:Nat}{xs:List Value}(h:Rd w A n xs):Rd w.drew A n xs:=h
theorem Rd.alloc{w:World}{A:Option Addr}{n:Nat}{xs:List Value}(h:Rd w A n xs)(o:Obj):Rd (w.alloc o) A n xs :=
 h.keep sy fun p hp=>World.cell?_alloc_lt w o p hp
theorem Rd.nil(w:World)(A:Option Addr):Rd w A 0 []:=⟨rfl,fun h=>absurd h om⟩
theorem Rd.cut{w:World}{A A':Option Addr}{n:Nat}{xs:List Value}(h:Rd w A n xs){k m:Nat}(hm:m≤n)(hk:k≤m)
 (hA:k<m→∀b off,A=some ⟨b,off,none⟩→A'=some ⟨b,off+k,none⟩):Rd w A' (m-k) ((xs.take m).drop k):=by
 refine⟨by have:=h.1;simp;omega,fun hn=>?_⟩;obtain⟨b,off,e,hb,hc⟩:=h.2 om;refine⟨b,off+k,hA om b off e,hb,fun j u hu=>?_⟩;rw[List.getElem?_drop,List.getElem?_take]at hu
 split at hu
 · rw[Nat.add_assoc];exact hc _ u hu
 · cases hu
theorem Rd.of_own{w:World}{base n c:Nat}{e:TypeId}{A:Option Addr}{xs:List Value}(h:w.ownsRow base e 1 (.slice A n c) n xs):Rd w A n xs:=by
 refine⟨by simpa using h.1,fun hn=>?_⟩
 rcases h.2 with ⟨_,h0⟩|⟨g,cap,cur,hv,_,hg,hnc,_,hcs,htake⟩
 · omega
 · injection hv with hA
   subst hA;refine⟨g,0,rfl,(Array.getElem?_eq_some_iff.1 hg).1,fun j u hu=>?_⟩;rw[cell_of_row w g (0+j) cur e (0,0) hg,Nat.zero_add];rw[←htake,List.getElem?_take]at hu
   split at hu
   · simpa using hu
   · cases hu
def Blk(w:World)(g:Nat)(t:TypeId)(cs:List Value):Prop:=w.heap[g]? = some (.cells cs.toArray t (0,0))
section
variable{w w':World}{g:Nat}{t:TypeId}{cs:List Value}
theorem Blk.lt(h:Blk w g t cs):g<w.heap.size:=by
 rcases Nat.lt_or_ge g w.heap.size with hlt|hge
 · exact hlt
 · unfold Blk at h;rw[Array.getElem?_eq_none hge]at h;cases h
theorem Blk.cell(h:Blk w g t cs)(i:Nat):w.cell? ⟨g,i,none⟩=cs[i]?:=by rw[cell_of_row w g i cs.toArray t (0,0) h];simp
theorem Blk.frozen(h:Blk w g t cs)(i:Nat):w.frozen? ⟨g,i,none⟩=false:=by
 unfold Blk at h
 simp[World.frozen?,h]
theorem Blk.new(w:World)(t:TypeId)(cs:List Value):Blk (w.alloc (.cells cs.toArray t)) w.heap.size t cs:=heap_alloc_new w _
theorem Blk.new'{w:World}{t:TypeId}{cs:List Value}{A:Array Value}{g:Nat}(hg:g=w.heap.size)(hA:A=cs.toArray):Blk (w.alloc (.cells A t)) g t cs:=by subst hg;subst hA;exact heap_alloc_new w _
theorem Blk.drew(h:Blk w g t cs):Blk w.drew g t cs:=h
theorem Blk.drewN(h:Blk w g t cs)(n:Nat):Blk (w.drewN n) g t cs:=h
theorem Blk.alloc(h:Blk w g t cs)(o:Obj):Blk (w.alloc o) g t cs:=(Below.heap_alloc w o g h.lt).trans h
theorem Blk.far(h:Blk w g t cs){p:Addr}(hp:g≠p.block)(u:Value):Blk (w.setCell p u) g t cs:=(Below.heap_setCell w p u g hp).trans h
theorem Blk.below{B:Nat}(h:Blk w g t cs)(hb:Below B w w')(hg:g<B):Blk w' g t cs:=(hb.block g hg).trans h
theorem Blk.grown{row:Option Nat}(h:Blk w g t cs)(hb:w.grownBy w' row)(hg:some g≠row):Blk w' g t cs:=(hb.block g h.lt hg).trans h
theorem Blk.range(h:Blk w g t cs):w.rangeAt g 0 cs:=fun j v hv=>by rw[h.cell,Nat.zero_add];exact hv
theorem Blk.mid(h:Blk w g t cs)(o:Nat)(ds:List Value)(hd:∀j v,ds[j]? = some v→cs[o+j]? = some v):w.rangeAt g o ds:=fun j v hv=>by rw[h.cell];exact hd j v hv
theorem Blk.there(h:Blk w g t cs)(o n:Nat)(hn:o+n≤cs.length):w.there g o n:=fun j hj=>by
 rw[h.cell,h.frozen];exact⟨by simp;omega,rfl⟩
theorem Blk.rd(h:Blk w g t cs)(o n:Nat)(hn:o+n≤cs.length):Rd w (some ⟨g,o,none⟩) n ((cs.drop o).take n):=by
 refine⟨by simp;omega,fun _=>⟨g,o,rfl,h.lt,fun j u hu=>?_⟩⟩;rw[h.cell];rw[List.getElem?_take]at hu
 split at hu
 · simpa using hu
 · cases hu
end
theorem zek{α:Type}(cs:List α)(o:Nat)(v:α)(r:List α)(h:o<cs.length):splice cs o (v :: r)=splice (cs.set o v) (o+1) r:=by
 unfold splice
 have e1:(cs.set o v).take (o+1)=cs.take o++[v]:=by
  rw[List.take_succ_eq_append_getElem (by simpa using h),List.take_set_of_le lr]
  simp
 rw[e1,List.drop_set_of_lt om]
 simp[Nat.add_assoc,Nat.add_comm 1]
theorem zfs(g:Nat)(t:TypeId):∀(vs:List Value) (o:Nat) (cs:List Value) (w:World),Blk w g t cs→o+vs.length≤cs.length →
 Blk (w.setCells g o vs) g t (splice cs o vs):=by
 intro vs
 induction vs with
 | nil=>intro o cs w h ho;simpa[World.setCells,splice] using h
 | cons v r ih =>
  intro o cs w h ho;rw[World.setCells];simp only[List.length_cons]at ho
  have h1:Blk (w.setCell ⟨g,o,none⟩ v) g t (cs.set o v):=by
   unfold Blk at h ⊢
   simp[World.setCell,Array.getElem?_modify,h]
  have:=ih (o+1) (cs.set o v) _ h1 (by simp;omega);rw[zek cs o v r om];exact this
theorem zfb(g B:Nat)(w0:World):∀(vs:List Value) (o:Nat) (w:World),Below B w0 w→B≤g→Below B w0 (w.setCells g o vs):=by
 intro vs
 induction vs with
 | nil=>intro o w h _;exact h
 | cons v r ih=>intro o w h hg;rw[World.setCells];exact ih (o+1) _ (h.setCell (p:=⟨g,o,none⟩) hg v) hg
theorem zdo(g:Nat):∀(vs:List Value) (o:Nat) (w:World),(w.setCells g o vs).heap.size=w.heap.size:=by
 intro vs
 induction vs with
 | nil=>intro o w;rfl
 | cons v r ih=>intro o w;rw[World.setCells,ih];simp[World.setCell]
theorem zfa(g g':Nat)(hne:g'≠g):∀(vs:List Value) (o:Nat) (w:World),(w.setCells g o vs).heap[g']? = w.heap[g']?:=by
 intro vs
 induction vs with
 | nil=>intro o w;rfl
 | cons v r ih=>intro o w;rw[World.setCells,ih];exact Below.heap_setCell w ⟨g,o,none⟩ v g' hne
section
variable{P:Program}{w:World}{ops:Array Oper}{rest:List Oper}{o:Oper}{a:Act}{K:Act→World→Prop}{Q:Exit→Act→World→Prop}
structure Only(w w':World)(g:Nat):Prop where
 grown:w.grownBy w' (some g)
 size:w'.heap.size=w.heap.size
theorem Only.below{B g:Nat}{w0 w w':World}(h:Only w w' g)(hb:Below B w0 w)(hg:B≤g)(hB:B≤w.heap.size):Below B w0 w' :=
 hb.grown h.grown hB (fun k hk=>by injection hk with hk;omega)
theorem Only.blk{w w':World}{g g':Nat}{t:TypeId}{cs:List Value}(h:Only w w' g)(hb:Blk w g' t cs)(hne:g'≠g):Blk w' g' t cs :=
 hb.grown h.grown (fun e=>hne (by injection e))
theorem Only.rd{w w':World}{g n:Nat}{A:Option Addr}{xs:List Value}(h:Only w w' g)(hr:Rd w A n xs)(hne:∀ad,A=some ad→ad.block≠g):Rd w' A n xs :=
 ⟨hr.1,fun hn=>by
  obtain⟨b,off,e,hb,hc⟩:=hr.2 hn;refine⟨b,off,e,by rw[h.size];exact hb,fun j u hu=>?_⟩
  exact(World.cell?_of_block (a:=⟨b,off+j,none⟩) (h.grown.block b hb (fun e'=>hne _ e (by injection e')))).trans (hc j u hu)⟩
theorem Only.of_setCells(w:World)(g o:Nat)(vs:List Value):Only w (w.setCells g o vs) g :=
 have hb:=zfb g w.heap.size w vs o w
 ⟨⟨by clear hb;revert o w;induction vs with
  | nil=>intros;rfl
  | cons v r ih=>intro w o;rw[World.setCells,ih];rfl,
  by clear hb;revert o w;induction vs with
   | nil=>intros;rfl
   | cons v r ih=>intro w o;rw[World.setCells,ih];rfl,
  by clear hb;revert o w;induction vs with
   | nil=>intros;rfl
   | cons v r ih=>intro w o;rw[World.setCells,ih];rfl,
  Nat.le_of_eq (zdo g vs o w).symm,fun k _ hne=>zfa g k (fun e=>hne (by rw[e])) vs o w⟩,zdo g vs o w⟩
theorem zcl(hgd:o.guard=none)(h:∀K:Act→World→Prop,(∀a w,wpList P ops Q rest a w→K a w)→o.wp P a w K Q):wpList P ops Q (o :: rest) a w:=wpList_plain hgd h
theorem zp3{E:Prop}(hgd:o.guard=none)(h:o.wp P a w K Q):if Region.wanted o (yielded ops a.tmps)=true then Oper.wp P o a w K Q else E:=by
 rw[if_pos (by simp[Region.wanted,hgd])];exact h
theorem zch{v:Value}{w':World}(hrun:(execOp a.eval o).run P w=.ok (.value v) w')(h:K (a.put o.dst v) w'):o.wp P a w K Q:=by
 unfold Oper.wp
 rw[hrun];exact h
theorem zg2(b:Builtin)(xs:Array Operand)(ts:Array TypeId)(ho:o.op=.call { callee:=.builtin b,args:=xs,argTypes:=ts }){args:Array Value}(he:xs.map a.eval=args){n:Next}{w':World}
 (hrun:∀cs,(builtin b ts o.type cs args).run P w=.ok n w'):(execOp a.eval o).run P w=.ok n w':=by
 unfold execOp
 simp only[ho,resolve,invoke,Sem.run_bind,Sem.run_pure,Result.andThen_ok,he,hrun]
theorem zdh(ty:TypeId)(x y:Operand)(ho:o.op=.store ty x y)(g off:Nat)(cs:List Value)(hx:a.eval x=.pointer (some ⟨g,off,none⟩))(hy:a.eval y=.agg cs.toArray)
 (t:TypeId) (cur:List Value) (hB:Blk w g t cur) (hi:(P.info? ty).map (·.size)=some cs.length) (h1:∀v∈cs,v.oneCell'=true) (hfit:off+cs.length≤cur.length)
 (h:∀w',Blk w' g t (splice cur off cs)→Only w w' g→K (a.put o.dst undef) w'):o.wp P a w K Q :=
 wp_store_mid ty x y ho g off cs.toArray hx hy (by simpa using hB.there off cs.length hfit) (by simpa using hi) (all_oneCell_toArray h1)
   (h _ (by simpa using zfs g t cs off cur w hB hfit) (by simpa using Only.of_setCells w g off cs))
theorem zad(hgd:o.guard=none)(ty:TypeId)(x y:Operand)(ho:o.op=.store ty x y)(g off:Nat)(cs:List Value)(hx:a.eval x=.pointer (some ⟨g,off,none⟩))(hy:a.eval y=.agg cs.toArray)
 (t:TypeId) (cur:List Value) (hB:Blk w g t cur) (hi:(P.info? ty).map (·.size)=some cs.length) (h1:∀v∈cs,v.oneCell'=true) (hfit:off+cs.length≤cur.length)
 (h:∀w',Blk w' g t (splice cur off cs)→Only w w' g→wpList P ops Q rest (a.put o.dst undef) w'):wpList P ops Q (o :: rest) a w :=
 zcl hgd fun _ hK=>zdh ty x y ho g off cs hx hy t cur hB hi h1 hfit fun w' hb hg=>hK _ _ (h w' hb hg)
end
theorem znp{P:Program}{w:World}{fn:Func}{p:Tmp}{ty:TypeId}(h:fn.results=#[.cell p ty])(tmps:Array Value)(g:Nat)(t:TypeId)(cs:List Value)(hp:tmps.getD p undef=.pointer (some ⟨g,0,none⟩))
 (hB:Blk w g t cs) (d:TypeDesc) (hu:P.underlying ty=some d) (hd:d.isRow=true) (hi:(P.info? ty).map (·.size)=some cs.length):
 (results fn tmps).run P w=.ok (.agg cs.toArray) w:=by
 have hp':tmps[p]?.getD undef=.pointer (some ⟨g,0,none⟩):=by rw[←hp];simp
 simp[results,h,hp',asAddr,run_loadVar_mid w g 0 ty cs d hB.range hu hd hi]
theorem zbl{α:Type}(Z cs:List α)(h:cs.length=Z.length):splice Z 0 cs=cs:=by
 unfold splice
 rw[List.drop_eq_nil_of_le om]
 simp
def RdS(sz:Nat)(w:World)(A:Option Addr)(n:Nat)(xs:List Value):Prop :=
 xs.length=n*sz∧(0<n→∃b off,A=some ⟨b,off,none⟩∧b<w.heap.size∧∀j u,xs[j]? = some u→w.cell? ⟨b,off+j,none⟩=some u)
theorem Rd.toS{w:World}{A:Option Addr}{n:Nat}{xs:List Value}(h:Rd w A n xs):RdS 1 w A n xs:=⟨by simpa using h.1,h.2⟩
theorem RdS.to1{w:World}{A:Option Addr}{n:Nat}{xs:List Value}(h:RdS 1 w A n xs):Rd w A n xs:=⟨by simpa using h.1,h.2⟩
section
variable{P:Program}{w:World}{ops:Array Oper}{rest:List Oper}{o:Oper}{a:Act}{K:Act→World→Prop}{Q:Exit→Act→World→Prop}
theorem zhg(base:Nat)(t ty e:TypeId)(i:TypeInfo)(size:Nat)(ht:P.underlying t=some (.slice e))(hi:P.info? e=some i)
 (v:Value) (n:Nat) (xs:List Value) (hown:w.ownsRow base e size v n xs) (c:Nat):(Builtin.append_ #[t,t] ty #[v,.slice none 0 c]).run P w=.ok v w:=by
 rcases hown.2 with ⟨rfl,rfl⟩|⟨g,cap,cur,rfl,_,_,hnc,_⟩
 · simp[Builtin.append_,run_underlying ht,sizeOf,typeInfo,hi,Builtin.lenOf,Builtin.firstCells]
 · simp[Builtin.append_,run_underlying ht,sizeOf,typeInfo,hi,Builtin.lenOf,Builtin.firstCells,hnc,storeCells]
structure ElemIs(P:Program)(e:TypeId)(size bytes:Nat):Prop where
 ex:∃i z,P.info? e=some i∧i.zero=some z∧i.size=size∧i.bytes=bytes∧z.cells.size=size
 pos:0<size
theorem ElemIs.of{P:Program}{e:TypeId}{z:Value}{size bytes:Nat}(h:(P.info? e).map (fun i=>(i.zero,i.size,i.bytes))=some (some z,size,bytes))(hz:z.cells.size=size)(hp:0<size):ElemIs P e size bytes:=by
 cases hq:P.info? e with
 | none=>simp[hq]at h
 | some i =>
  simp[hq]at h
  exact⟨⟨i,z,hq,h.1,h.2.1,h.2.2,hz⟩,hp⟩
theorem zqd(base:Nat)(t ty e:TypeId)(size bytes:Nat)(ht:P.underlying t=some (.slice e))(he:ElemIs P e size bytes)
 (v:Value) (n:Nat) (xs:List Value) (hown:w.ownsRow base e size v n xs)
 (A:Option Addr) (m c:Nat) (news:List Value) (hr:RdS size w A m news) (h1:∀u∈news,u.oneCell'=true)
 (h63:n+m≤maxLen) (hbytes:(n+m)*bytes≤140737488355328) (hbase:base≤w.heap.size):
 ∃v' w',(Builtin.append_ #[t,t] ty #[v,.slice A m c]).run P w=.ok v' w'∧w'.ownsRow base e size v' (n+m) (xs++news)∧w.grownBy w' v.ownBlock ∧
   (v'.ownBlock=v.ownBlock∨v'.ownBlock=some w.heap.size):=by
 obtain⟨⟨i,z,hi,hz,hsize,hby,hzs⟩,hsz⟩:=he
 rcases A with _|ad
 · have hm:m=0:=by
    rcases Nat.eq_zero_or_pos m with h0|h0
    · exact h0
    · obtain⟨b,off,h,_⟩:=hr.2 h0
      cases h
   subst hm;have hn:news=[]:=List.eq_nil_of_length_eq_zero (by simpa using hr.1);subst hn;exact⟨v,w,zhg base t ty e i size ht hi v n xs hown c,by simpa using hown,World.grownBy.refl w _,.inl rfl⟩
 · have hcells:∀j u,news[j]? = some u→w.cell? (ad.add j)=some u:=by
    intro j u hu
    rcases Nat.eq_zero_or_pos m with h0|h0
    · subst h0
      have hn:news=[]:=List.eq_nil_of_length_eq_zero (by simpa using hr.1);subst hn
      simp at hu
    · obtain⟨b,off,h,_,hc⟩:=hr.2 h0
      injection h with h
      subst h;rw[Addr.add_mid];exact hc j u hu
   obtain⟨v',w',hrun,h2,h3,_,h5⟩:=run_append_own_at (P:=P) w base t ty e i z size bytes ht hi hz hsize hby hzs hsz v n xs hown ad m c news hr.1 hcells h1 h63 hbytes hbase;exact⟨v',w',hrun,h2,h3,h5⟩
theorem zc3{w:World}{base n:Nat}{e:TypeId}{size:Nat}{v:Value}{xs:List Value}(h:w.ownsRow base e size v n xs):∃A c,v=.slice A n c∧n≤c:=by
 rcases h.2 with ⟨rfl,rfl⟩|⟨g,cap,cur,rfl,_,_,hnc,_⟩
 · exact⟨_,_,rfl,lr⟩
 · exact⟨_,_,rfl,hnc⟩
theorem zd3(s x:Operand)(t:TypeId)(ho:o.op=.call { callee:=.builtin .append,args:=#[s,x],argTypes:=#[t,t] })
 (base:Nat) (e:TypeId) (size bytes:Nat) (ht:P.underlying t=some (.slice e)) (he:ElemIs P e size bytes)
 (v:Value) (n:Nat) (xs:List Value) (hs:a.eval s=v) (hown:w.ownsRow base e size v n xs)
 (A:Option Addr) (m c:Nat) (news:List Value) (hx:a.eval x=.slice A m c) (hr:RdS size w A m news) (h1:∀u∈news,u.oneCell'=true)
 (hbytes:n*bytes+m*bytes≤140737488355328) (h63:n+m≤140737488355328) (hbase:base≤w.heap.size)
 (h:∀A' c' w',w'.ownsRow base e size (.slice A' (n+m) c') (n+m) (xs++news)→n+m≤c'→w.grownBy w' v.ownBlock→(Value.ownBlock (.slice A' (n+m) c')=v.ownBlock∨Value.ownBlock (.slice A' (n+m) c')=some w.heap.size)→K (a.put o.dst (.slice A' (n+m) c')) w'):o.wp P a w K Q:=by
 obtain⟨v',w',hrun,h2,h3,h4⟩:=zqd (P:=P) base t o.type e size bytes ht he v n xs hown A m c news hr h1 (by simp only[maxLen];omega) (by rw[Nat.add_mul];exact hbytes) hbase;have hev : #[s,x].map a.eval=#[v,.slice A m c]:=by simp[hs,hx]
 obtain⟨A',c',rfl,hc⟩:=zc3 h2;refine zch (zg2 .append #[s,x] #[t,t] ho hev fun cs=>?_) (h A' c' w' h2 hc h3 h4);simp only[builtin,Sem.run_bind,hrun,Sem.run_pure,Result.andThen_ok]
theorem zay(hgd:o.guard=none)(s x:Operand)(t:TypeId)(ho:o.op=.call { callee:=.builtin .append,args:=#[s,x],argTypes:=#[t,t] })
 (base:Nat) (e:TypeId) (size bytes:Nat) (ht:P.underlying t=some (.slice e)) (he:ElemIs P e size bytes)
 (v:Value) (n:Nat) (xs:List Value) (hs:a.eval s=v) (hown:w.ownsRow base e size v n xs)
 (A:Option Addr) (m c:Nat) (news:List Value) (hx:a.eval x=.slice A m c) (hr:RdS size w A m news) (h1:∀u∈news,u.oneCell'=true)
 (hbytes:n*bytes+m*bytes≤140737488355328) (h63:n+m≤140737488355328) (hbase:base≤w.heap.size)
 (h:∀A' c' w',w'.ownsRow base e size (.slice A' (n+m) c') (n+m) (xs++news)→n+m≤c'→w.grownBy w' v.ownBlock→(Value.ownBlock (.slice A' (n+m) c')=v.ownBlock∨Value.ownBlock (.slice A' (n+m) c')=some w.heap.size)→wpList P ops Q rest (a.put o.dst (.slice A' (n+m) c')) w'):wpList P ops Q (o :: rest) a w :=
 zcl hgd fun _ hK=>zd3 s x t ho base e size bytes ht he v n xs hs hown A m c news hx hr h1 hbytes h63 hbase fun A' c' w' h2 hc h3 h4=>hK _ _ (h A' c' w' h2 hc h3 h4)
theorem zfo{F:Prop}(hgd:o.guard=none)(s x:Operand)(t:TypeId)(ho:o.op=.call { callee:=.builtin .append,args:=#[s,x],argTypes:=#[t,t] })
 (base:Nat) (e:TypeId) (size bytes:Nat) (ht:P.underlying t=some (.slice e)) (he:ElemIs P e size bytes)
 (v:Value) (n:Nat) (xs:List Value) (hs:a.eval s=v) (hown:w.ownsRow base e size v n xs)
 (A:Option Addr) (m c:Nat) (news:List Value) (hx:a.eval x=.slice A m c) (hr:RdS size w A m news) (h1:∀u∈news,u.oneCell'=true)
 (hbytes:n*bytes+m*bytes≤140737488355328) (h63:n+m≤140737488355328) (hbase:base≤w.heap.size)
 (h:∀A' c' w',w'.ownsRow base e size (.slice A' (n+m) c') (n+m) (xs++news)→n+m≤c'→w.grownBy w' v.ownBlock→(Value.ownBlock (.slice A' (n+m) c')=v.ownBlock∨Value.ownBlock (.slice A' (n+m) c')=some w.heap.size)→K (a.put o.dst (.slice A' (n+m) c')) w'):if Region.wanted o (yielded ops a.tmps)=true then Oper.wp P o a w K Q else F :=
 zp3 hgd (zd3 s x t ho base e size bytes ht he v n xs hs hown A m c news hx hr h1 hbytes h63 hbase h)
end
theorem RdS.new(w:World)(t:TypeId)(cs:List Value)(sz:Nat)(h:cs.length=sz):RdS sz (w.alloc (.cells cs.toArray t)) (some ⟨w.heap.size,0,none⟩) 1 cs :=
 ⟨by simpa using h,fun _=>⟨w.heap.size,0,rfl,by simp,fun j u hu=>by rw[(Blk.new w t cs).cell,Nat.zero_add];exact hu⟩⟩
theorem zc2{w:World}{g base:Nat}{e:TypeId}{cs:List Value}(h:Blk w g e cs)(hb:base≤g)(n cap size:Nat)(hn:n≤cap)(hc:cs.length=cap*size)(hm:cap≤140737488355328):
 w.ownsRow base e size (.slice (some ⟨g,0,none⟩) n cap) n (cs.take (n*size)) :=
 ⟨by rw[List.length_take,hc];exact Nat.min_eq_left (Nat.mul_le_mul_right _ hn),.inr ⟨g,cap,cs.toArray,rfl,hb,h,hn,by simp only[maxLen];omega,by simpa using hc,by simp⟩⟩
section
variable{P:Program}{w:World}{ops:Array Oper}{rest:List Oper}{o:Oper}{a:Act}{K:Act→World→Prop}{Q:Exit→Act→World→Prop}
end
def SlB(w:World)(v:Value)(l:List UInt8):Prop:=∃A n c,v=.slice A n c∧n≤c∧Rd w A n (u8s l)
def RdB(w:World)(A:Option Addr)(n:Nat)(ls:List (List UInt8)):Prop :=
 ∃vs:List Value,Rd w A n vs∧ls.length=n∧∀(i:Nat) (v:Value),vs[i]? = some v→∃l,ls[i]? = some l∧SlB w v l
theorem SlB.below{w w':World}{v:Value}{l:List UInt8}(h:SlB w v l)(hb:Below w.heap.size w w'):SlB w' v l:=by
 obtain⟨A,n,c,e,hn,hr⟩:=h;exact⟨A,n,c,e,hn,hr.below hb⟩
theorem RdB.below{w w':World}{A:Option Addr}{n:Nat}{ls:List (List UInt8)}(h:RdB w A n ls)(hb:Below w.heap.size w w'):RdB w' A n ls:=by
 obtain⟨vs,hr,hl,hv⟩:=h;exact⟨vs,hr.below hb,hl,fun i v hi=>let ⟨l,h1,h2⟩:=hv i v hi;⟨l,h1,h2.below hb⟩⟩
theorem RdB.at_{w:World}{A:Option Addr}{n:Nat}{ls:List (List UInt8)}(h:RdB w A n ls){k:Nat}(hk:k<n):
 ∃b off A1 n1 c1 l,A=some ⟨b,off,none⟩∧b<w.heap.size∧Hid (ls[k]? = some l)∧w.cell? ⟨b,off+k,none⟩=some (.slice A1 n1 c1)∧n1≤c1∧Rd w A1 n1 (u8s l):=by
 obtain⟨vs,hr,hl,hv⟩:=h;obtain⟨b,off,u,rfl,hb,hu,hc⟩:=hr.at_ hk;obtain⟨l,h1,A1,n1,c1,rfl,h2,h3⟩:=hv k u hu.out;exact⟨b,off,A1,n1,c1,l,rfl,hb,h1,hc,h2,h3⟩
def SlBs(w:World):List Value→List (List UInt8)→Prop
 | [],[]=>True
 | v :: vs,l :: ls=>SlB w v l∧SlBs w vs ls
 | _,_=>False
theorem SlBs.get{w:World}: ∀ {vs:List Value} {ls:List (List UInt8)},SlBs w vs ls→ls.length=vs.length∧∀(i:Nat) (v:Value),vs[i]? = some v→∃l,ls[i]? = some l∧SlB w v l
 | [],[],_=>⟨rfl,fun i v h=>by simp at h⟩
 | v :: vs,l :: ls,h=>by
  obtain⟨h1,h2⟩:=h;obtain⟨h3,h4⟩:=SlBs.get h2;refine⟨by simp[h3],fun i u hu=>?_⟩
  cases i with
  | zero=>simp at hu;subst hu;exact⟨l,rfl,h1⟩
  | succ i=>simp at hu;simpa using h4 i u hu
 | [],_ :: _,h=>h.elim
 | _ :: _,[],h=>h.elim
theorem RdB.of_blk{w:World}{g:Nat}{t:TypeId}{vs:List Value}{ls:List (List UInt8)}(h:Blk w g t vs)(hs:SlBs w vs ls):RdB w (some ⟨g,0,none⟩) vs.length ls:=by
 obtain⟨h1,h2⟩:=hs.get;refine⟨vs,?_,h1,h2⟩;have:=h.rd 0 vs.length om
 simpa using this
theorem SlB.of_blk{w:World}{g:Nat}{t:TypeId}{cs:List Value}(h:Blk w g t cs)(o n c:Nat)(l:List UInt8)(hn:o+n≤cs.length)(hc:n≤c)(hl:(cs.drop o).take n=u8s l):SlB w (.slice (some ⟨g,o,none⟩) n c) l :=
 ⟨_,_,_,rfl,hc,hl ▸ h.rd o n hn⟩
theorem zon{w:World}{base base' n:Nat}{e:TypeId}{size:Nat}{v:Value}{xs:List Value}(h:w.ownsRow base e size v n xs)(hb:base'≤base):w.ownsRow base' e size v n xs:=by
 obtain⟨h1,h2⟩:=h;refine⟨h1,?_⟩
 rcases h2 with h2|⟨g,cap,cur,hv,hg,r⟩
 · exact .inl h2
 · exact .inr ⟨g,cap,cur,hv,Nat.le_trans hb hg,r⟩
theorem zd6(off:Nat):∀(cs:List Value) (k:Nat) (A:List Value),off+k+cs.length≤A.length →
 (cs.zipIdx k).foldl (fun(B:Array Value) (p:Value × Nat)=>B.setIfInBounds (off+p.2) p.1) A.toArray=(splice A (off+k) cs).toArray
 | [],k,A,_=>by simp[splice]
 | c :: cs,k,A,h=>by
  simp only[List.length_cons]at h;rw[List.zipIdx_cons,List.foldl_cons,zek A (off+k) c cs om,List.setIfInBounds_toArray,zd6 off cs (k+1) (A.set (off+k) c) (by simp;omega)]
  rfl
theorem ze2{place:Nat→Option (Nat × Nat)}{Z:List Value}{i off:Nat}{v:Value}{cs:List Value}{rest:List (Nat × Value)}(hv:v.cells=cs.toArray)(hp:place i=some (off,cs.length))(hfit:off+cs.length≤Z.length):
 Instr.fill place Z.toArray ((i,v) :: rest)=Instr.fill place (splice Z off cs).toArray rest:=by
 have h:=zd6 off cs 0 Z om;simp only[Nat.add_zero]at h;rw[Instr.fill];simp only[hp,hv,List.size_toArray];rw[if_neg (by simp;omega)]
 congr 1
 rw[←h,←Array.foldl_toList]
 simp
section
variable{P:Program}{w:World}{ops:Array Oper}{rest:List Oper}{o:Oper}{a:Act}{K:Act→World→Prop}{Q:Exit→Act→World→Prop}
theorem zml(t:TypeId)(parts:List (Nat × Operand))(ho:o.op=.build t parts.toArray)(parts':List (Nat × Value))(he:parts.map (fun p=>(p.1,a.eval p.2))=parts')(v:Value)(hrun:(Instr.build t parts'.toArray).run P w=.ok v w)(h:K (a.put o.dst v) w):o.wp P a w K Q:=by
 refine zch (v:=v) ?_ h
 unfold execOp
 simp only[ho,Sem.run_bind,List.map_toArray,he,hrun,Sem.run_pure,Result.andThen_ok]
theorem zal(hgd:o.guard=none)(t:TypeId)(parts:List (Nat × Operand))(ho:o.op=.build t parts.toArray)(parts':List (Nat × Value))(he:parts.map (fun p=>(p.1,a.eval p.2))=parts')(v:Value)(hrun:(Instr.build t parts'.toArray).run P w=.ok v w)(h:wpList P ops Q rest (a.put o.dst v) w):wpList P ops Q (o :: rest) a w :=
 zcl hgd fun _ hK=>zml t parts ho parts' he v hrun (hK _ _ h)
theorem zaa(hgd:o.guard=none)(ty:TypeId)(x y:Operand)(ho:o.op=.store ty x y)(g:Nat)(cs:List Value)(hx:a.eval x=.pointer (some ⟨g,0,none⟩))(hy:a.eval y=.agg cs.toArray)
 (t:TypeId) (cur:List Value) (hB:Blk w g t cur) (hi:(P.info? ty).map (·.size)=some cs.length) (h1:∀v∈cs,v.oneCell'=true) (hfit:cs.length=cur.length)
 (h:∀w',Blk w' g t cs→Only w w' g→wpList P ops Q rest (a.put o.dst undef) w'):wpList P ops Q (o :: rest) a w :=
 zad hgd ty x y ho g 0 cs hx hy t cur hB hi h1 om fun w' hb hg=>h w' (by rwa [zbl _ _ hfit]at hb) hg
end
theorem zje{α:Type}(Z X1 X2:List α)(k:Nat)(hk:X1.length=k)(hZ:Z.length=k+X2.length):splice (splice Z 0 X1) k X2=X1++X2:=by
 subst hk;have e1:splice Z 0 X1=X1++Z.drop X1.length:=by simp[splice]
 rw[e1]
 unfold splice
 rw[List.take_left,List.drop_eq_nil_of_le (by simp;omega),List.append_nil]
theorem qbl{w w':World}{g:Nat}{t:TypeId}{cs:List Value}(h:Hid (Blk w g t cs))(hb:Below w.heap.size w w'):Hid (Blk w' g t cs):=qh (h.out.below hb h.out.lt)
theorem qtr{w w1 w2:World}(h:Hid (Below w.heap.size w w1))(hb:Below w1.heap.size w1 w2):Hid (Below w.heap.size w w2):=qh (h.out.trans (hb.mono h.out.size))
theorem qal{w w':World}{o:Obj}{g g':Nat}{t:TypeId}{cs:List Value}(h:Only (w.alloc o) w' g)(hb:Hid (Blk w g' t cs))(hne:g'≠g):Hid (Blk w' g' t cs):=qh (h.blk (hb.out.alloc o) hne)
theorem qon{w w':World}{g g':Nat}{t:TypeId}{cs:List Value}(h:Only w w' g)(hb:Hid (Blk w g' t cs))(hne:Hid (g'≠g)):Hid (Blk w' g' t cs):=qh (h.blk hb.out hne.out)
end
def Wrote(g:Nat)(w w':World):Prop:=w.grownBy w' (some g)
theorem Below.wrote{w w1 w2:World}{g:Nat}(hb:Below w.heap.size w w1)(h:Wrote g w1 w2):Wrote g w w2 :=
 ⟨h.os.trans hb.os,h.tape.trans hb.tape,h.output.trans hb.output,Nat.le_trans hb.size h.size,fun k hk hne=>(h.block k (Nat.lt_of_lt_of_le hk hb.size) hne).trans (hb.block k hk)⟩
theorem Wrote.trans{w w1 w2:World}{g:Nat}(hb:Wrote g w w1)(h:Wrote g w1 w2):Wrote g w w2 :=
 ⟨h.os.trans hb.os,h.tape.trans hb.tape,h.output.trans hb.output,Nat.le_trans hb.size h.size,fun k hk hne=>(h.block k (Nat.lt_of_lt_of_le hk hb.size) hne).trans (hb.block k hk hne)⟩
theorem Wrote.of_below{w w1:World}{g:Nat}(hb:Below w.heap.size w w1):Wrote g w w1:=⟨hb.os,hb.tape,hb.output,hb.size,fun k hk _=>hb.block k hk⟩
theorem Wrote.refl(w:World)(g:Nat):Wrote g w w:=Wrote.of_below (Below.refl _ _)
theorem Wrote.then{w w1 w2:World}{g:Nat}(hb:Wrote g w w1)(h:Below w1.heap.size w1 w2):Wrote g w w2:=hb.trans (Wrote.of_below h)
theorem Wrote.only{w w1 w2:World}{g:Nat}(hb:Wrote g w w1)(h:Only w1 w2 g):Wrote g w w2:=hb.trans h.grown
theorem Wrote.setCell{w w1:World}{g:Nat}(hb:Wrote g w w1)(i:Nat)(u:Value):Wrote g w (w1.setCell ⟨g,i,none⟩ u) :=
 ⟨hb.os,hb.tape,hb.output,by have:=hb.size;simpa[World.setCell] using this,fun k hk hne=>(Below.heap_setCell w1 ⟨g,i,none⟩ u k (fun e=>hne (by rw[e]))).trans (hb.block k hk hne)⟩
theorem Wrote.setNew{w w1:World}{g:Nat}(hb:Wrote g w w1){p:Addr}(hp:w.heap.size≤p.block)(u:Value):Wrote g w (w1.setCell p u) :=
 ⟨hb.os,hb.tape,hb.output,by have:=hb.size;simpa[World.setCell] using this,fun k hk hne=>(Below.heap_setCell w1 p u k om).trans (hb.block k hk hne)⟩
theorem Wrote.alloc{w w1:World}{g:Nat}(hb:Wrote g w w1)(o:Obj):Wrote g w (w1.alloc o):=hb.then ((Below.refl _ _).alloc lr o)
theorem Wrote.drew{w w1:World}{g:Nat}(hb:Wrote g w w1):Wrote g w w1.drew:=hb.then (Below.refl _ _).drew
theorem Wrote.below{B g:Nat}{w0 w w':World}(h:Wrote g w w')(hb:Below B w0 w)(hg:B≤g)(hB:B≤w.heap.size):Below B w0 w' :=
 hb.grown h hB (fun k hk=>by injection hk with hk;omega)
theorem Rd.wrote{w w':World}{A:Option Addr}{n g:Nat}{xs:List Value}(h:Rd w A n xs)(hw:Wrote g w w')(hA:0<n→∀ad:Addr,A=some ad→ad.block≠g):Rd w' A n xs :=
 ⟨h.1,fun hn=>by
  obtain⟨b,off,e,hbl,hc⟩:=h.2 hn
  exact⟨b,off,e,Nat.lt_of_lt_of_le hbl hw.size,fun j u hu=>(World.grownBy.cell_far hw ⟨b,off+j,none⟩ hbl (fun e'=>hA hn _ e (by injection e'))).trans (hc j u hu)⟩⟩
theorem Rd.apart{w:World}{A:Option Addr}{n g:Nat}{xs:List Value}(h:Rd w A n xs)(hg:w.heap.size≤g):0<n→∀ad:Addr,A=some ad→ad.block≠g:=fun hn ad e=>by
 obtain⟨b,off,e',hbl,_⟩:=h.2 hn;rw[e]at e'
 injection e' with e'
 subst e'
 show b≠g
 omega
theorem Blk.wrote{w w':World}{g g':Nat}{t:TypeId}{cs:List Value}(h:Blk w g' t cs)(hw:Wrote g w w')(hne:g'≠g):Blk w' g' t cs:=h.grown hw (fun e=>hne (by injection e))
section
section
variable{P:Program}{ops:Array Oper}{Q:Exit→Act→World→Prop}{md:Region.Mode}{T:World→Prop}{k:Nat}
def AnyK(P:Program)(md:Region.Mode)(ops:Array Oper)(Q:Exit→Act→World→Prop)(k:Nat)(T:World→Prop):Nat→Array Bool→Act→World→Prop
 | 0,listed,a,w=>Region.ready md ops listed=[]∧Q .normal a w
 | fuel+1,listed,a,w =>
  (Region.ready md ops listed=[]→Q .normal a w) ∧
  ∀i∈Region.ready md ops listed,wpOp P ops Q i (fun a' w'=>((listed.setIfInBounds i true).getD k true=false→T w')∧AnyK P md ops Q k T fuel (listed.setIfInBounds i true) a' w') a w
theorem AnyK.any:∀(fuel:Nat) (listed:Array Bool) (a:Act) (w:World),AnyK P md ops Q k T fuel listed a w→wpAny P md ops Q fuel listed a w
 | 0,_,_,_,h=>h
 | fuel+1,_,_,_,h=>⟨h.1,fun i hi=>wpOp_mono (fun a' w' h'=>AnyK.any fuel _ a' w' h'.2) (h.2 i hi)⟩
theorem zib{id:Nat}{a:Act}{w:World}(hm:P.follows .mixedOrders=true)(k:Nat)(T:World→Prop)
 (h:AnyK P .any ops Q k T ops.size (Array.replicate ops.size false) a { w with drawn:=w.drawn+1 }):(Code.region id ops true).wp P Q a w :=
 wp_region_any hm (AnyK.any _ _ _ _ h)
theorem AnyK.first{i:Nat}{oi:Oper}{v:Value}{S:World→Prop}(hi:ops[i]? = some oi)(hik:i≠k)(hsel:∀(j:Nat) (o:Oper) cs b,ops[j]? = some o→o.op≠.select cs b)
 (hQ:∀c a w,Q (.panic c) (a.put oi.dst v) w→Q (.panic c) a w)
 (hS:(∀w,S w)∨((∀w,T w→S w)∧∃ok,ops[k]? = some ok∧∃e∈ok.after,Region.binds md e=true∧e.on=i)):
 ∀(fuel:Nat) (listed:Array Bool) (a:Act) (w:World),
   (∀j oj,ops[j]? = some oj→j≠i→listed.getD j true=false→(∀e∈oj.after,Region.binds md e=true→e.on≠i)→oi.apart ops oj=true) →
   i∈Region.ready md ops listed→YieldsIf P ops S oi v a→S w→(listed.getD k true=false→T w)→((∀w,S w)∨listed.getD k true=false) →
   AnyK P md ops Q k T fuel (listed.setIfInBounds i true) (a.put oi.dst v) w→AnyK P md ops Q k T (fuel+1) listed a w:=by
 have hset:∀(L:Array Bool),(L.setIfInBounds i true).getD k true=L.getD k true:=fun L=>getD_set_ne true hik
 intro fuel
 induction fuel with
 | zero =>
  intro listed a w _ hr hy hSw hT _ H;refine⟨fun h=>(by rw[h]at hr;cases hr),fun j hj=>?_⟩
  by_cases hji:j=i
  · subst hji;exact hy.wpOp hi hSw ⟨fun h=>hT (by rwa [hset]at h),H⟩
  · have:=ready_mono hj hji
    rw[H.1]at this
    cases this
 | succ fuel ih =>
  intro listed a w hfree hr hy hSw hT hl H;refine⟨fun h=>(by rw[h]at hr;cases hr),fun j hj=>?_⟩
  by_cases hji:j=i
  · subst hji;exact hy.wpOp hi hSw ⟨fun h=>hT (by rwa [hset]at h),H⟩
  · have h1:=H.2 j (ready_mono hj hji)
    obtain⟨hjun,oj,hoj,hall⟩:=mem_ready.1 hj
    have hnot:∀e∈oj.after,Region.binds md e=true→e.on≠i:=fun e he hb heq=>by
     have h1:=hall e he hb;have h0:=(mem_ready.1 hr).1;rw[heq]at h1
     rcases Nat.lt_or_ge i listed.size with h' | h'
     · simp[h']at h0 h1;rw[h0]at h1;cases h1
     · simp[Array.getElem?_eq_none h']at h1
    have h2:=wpOp_putIf hoj (hfree j oj hoj hji hjun hnot) (fun cs b=>hsel i oi cs b hi) (fun cs b=>hsel j oj cs b hoj) hQ hy h1
    have hfree':∀k ok,ops[k]? = some ok→k≠i→(listed.setIfInBounds j true).getD k true=false →
        (∀e∈ok.after,Region.binds md e=true→e.on≠i)→oi.apart ops ok=true:=fun k ok hk hki hun hno=>by
     refine hfree k ok hk hki ?_ hno
     by_cases hjk:j=k
     · subst hjk;exact hjun
     · rw[getD_set_ne true hjk]at hun;exact hun
    have hkj:(∀w,S w)∨(listed.setIfInBounds j true).getD k true=false:=by
     rcases hS with hS|⟨_,ok,hok,e,he,hb,hei⟩
     · exact .inl hS
     · rcases hl with hl|hl
       · exact .inl hl
       · have hjk:j≠k:=by
          rintro rfl;rw[hok]at hoj
          injection hoj with hoj
          subst hoj;exact hnot e he hb hei
         exact .inr (by rw[getD_set_ne true hjk];exact hl)
    refine wpOp_mono (fun a' w' h3=>?_) h2;have hT':(listed.setIfInBounds j true).getD k true=false→T w':=fun h=>h3.2.1 (by rw[Array.setIfInBounds_comm _ _ (Ne.symm hji),hset];exact h)
    refine⟨hT',ih (listed.setIfInBounds j true) a' w' hfree' (ready_mono hr (Ne.symm hji)) h3.1 ?_ hT' hkj ?_⟩
    · rcases hkj with hkj|hkj
      · exact hkj w'
      · rcases hS with hS|⟨hS,_⟩
        · exact hS w'
        · exact hS w' (hT' hkj)
    · rw[Array.setIfInBounds_comm _ _ hji]
      exact h3.2.2
def awaits(md:Region.Mode)(ops:Array Oper)(k i:Nat):Bool:=match ops[k]? with|some ok=>ok.after.any fun e=>Region.binds md e && e.on == i|none=>false
theorem zdf{i:Nat}(h:awaits md ops k i=true):∃ok,ops[k]? = some ok∧∃e∈ok.after,Region.binds md e=true∧e.on=i:=by
 unfold awaits at h
 split at h
 · rename_i ok hk
   obtain⟨e,he,hb⟩:=Array.any_eq_true'.1 h;simp only[Bool.and_eq_true,beq_iff_eq]at hb;exact⟨ok,hk,e,he,hb.1,hb.2⟩
 · cases h
def takeB(md:Region.Mode)(ops:Array Oper)(listed:Array Bool)(k i:Nat):Bool:=decide (i≠k) && Region.noSelect ops && Region.free md ops listed i && (Region.ready md ops listed).contains i
theorem AnyK.pure{fuel:Nat}{listed:Array Bool}{a:Act}{w:World}(i:Nat){oi:Oper}{v:Value}(hi:ops[i]? = some oi)(hd:takeB md ops listed k i=true)
 (hQ:∀c a w,Q (.panic c) (a.put oi.dst v) w→Q (.panic c) a w) (hg:oi.guard=none) (hy:∀w,(execOp a.eval oi).run P w=.ok (.value v) w) (hT:listed.getD k true=false→T w)
 (h:AnyK P md ops Q k T fuel (listed.setIfInBounds i true) (a.put oi.dst v) w):AnyK P md ops Q k T (fuel+1) listed a w:=by
 simp only[takeB,Bool.and_eq_true,decide_eq_true_eq]at hd;obtain⟨⟨⟨h1,h2⟩,h3⟩,h4⟩:=hd;exact AnyK.first (S:=fun _=>True) hi h1 (Region.noSelect_spec h2) hQ (.inl fun _=>trivial) fuel listed a w (Region.free_spec hi h3) (by simpa using h4) (.inl ⟨by simp[Region.wanted,hg],fun w _=>hy w⟩) trivial hT (.inl fun _=>trivial) h
theorem AnyK.load{fuel:Nat}{listed:Array Bool}{a:Act}{w:World}(i:Nat){oi:Oper}{v:Value}(hi:ops[i]? = some oi)(hd:takeB md ops listed k i=true)(hk:awaits md ops k i=true)(hl:listed.getD k true=false)
 (hQ:∀c a w,Q (.panic c) (a.put oi.dst v) w→Q (.panic c) a w) (hg:oi.guard=none) (hy:∀w,T w→(execOp a.eval oi).run P w=.ok (.value v) w) (hT:T w)
 (h:AnyK P md ops Q k T fuel (listed.setIfInBounds i true) (a.put oi.dst v) w):AnyK P md ops Q k T (fuel+1) listed a w:=by
 simp only[takeB,Bool.and_eq_true,decide_eq_true_eq]at hd;obtain⟨⟨⟨h1,h2⟩,h3⟩,h4⟩:=hd;exact AnyK.first (S:=T) hi h1 (Region.noSelect_spec h2) hQ (.inr ⟨fun _ h=>h,zdf hk⟩) fuel listed a w (Region.free_spec hi h3) (by simpa using h4) (.inl ⟨by simp[Region.wanted,hg],hy⟩) hT (fun _=>hT) (.inr hl) h
theorem AnyK.one{fuel:Nat}{listed:Array Bool}{a:Act}{w:World}(i:Nat){oi:Oper}(hi:ops[i]? = some oi)(hr:Region.ready md ops listed=[i])(hg:oi.guard=none)
 (h:oi.wp P a w (fun a' w'=>((listed.setIfInBounds i true).getD k true=false→T w')∧AnyK P md ops Q k T fuel (listed.setIfInBounds i true) a' w') Q):AnyK P md ops Q k T (fuel+1) listed a w:=by
 refine⟨fun h0=>(by rw[hr]at h0;cases h0),fun j hj=>?_⟩;rw[hr]at hj;obtain rfl:j=i:=by simpa using hj
 unfold wpOp
 simp only[hi];rw[if_pos (by simp[Region.wanted,hg])];exact .inl h
theorem AnyK.enter{fuel:Nat}{listed:Array Bool}{a:Act}{w:World}(i:Nat){d:Option Tmp}{f:FuncId}{args:Array Value}(hi:(ops[i]?).map (fun o=>(o.dst,o.guard))=some (d,none))(hrun:(ops[i]?).map (fun o=>(execOp a.eval o).run P w)=some (.ok (.enter f args) w))(hr:Region.ready md ops listed=[i])
 (h:Calls P f args w fun e w'=>∃v,e=.returned v∧((listed.setIfInBounds i true).getD k true=false→T w')∧AnyK P md ops Q k T fuel (listed.setIfInBounds i true) (a.put d v) w'):AnyK P md ops Q k T (fuel+1) listed a w:=by
 cases ho:ops[i]? with
 | none=>simp[ho]at hi
 | some o =>
  simp only[ho,Option.map_some,Option.some.injEq,Prod.mk.injEq]at hi hrun;obtain⟨rfl,hg⟩:=hi;refine AnyK.one i ho hr hg ?_
  unfold Oper.wp
  rw[hrun];refine Calls.mono h ?_;rintro e w' ⟨v,rfl,h1,h2⟩;exact⟨h1,h2⟩
theorem AnyK.store{fuel:Nat}{listed:Array Bool}{a:Act}{w w':World}(i:Nat){d:Option Tmp}{op:Op}(hi:(ops[i]?).map (fun o=>(o.dst,o.op,o.guard))=some (d,op,none))(hrun:∀o:Oper,o.op=op→(execOp a.eval o).run P w=.ok .skip w')(hr:Region.ready md ops listed=[i])
 (h1:(listed.setIfInBounds i true).getD k true=false→T w') (h:AnyK P md ops Q k T fuel (listed.setIfInBounds i true) (a.put d undef) w'):AnyK P md ops Q k T (fuel+1) listed a w:=by
 cases ho:ops[i]? with
 | none=>simp[ho]at hi
 | some o =>
  simp only[ho,Option.map_some,Option.some.injEq,Prod.mk.injEq]at hi;obtain⟨rfl,hop,hg⟩:=hi;refine AnyK.one i ho hr hg ?_
  unfold Oper.wp
  rw[hrun o hop];exact⟨h1,h⟩
theorem AnyK.done{fuel:Nat}{listed:Array Bool}{a:Act}{w:World}(hr:Region.ready md ops listed=[])(h:Q .normal a w):AnyK P md ops Q k T fuel listed a w:=by
 cases fuel with
 | zero=>exact⟨hr,h⟩
 | succ fuel=>exact⟨fun _=>h,by rw[hr];simp⟩
end
end
section
section
variable{P:Program}{ops:Array Oper}{Q:Exit→Act→World→Prop}{md:Region.Mode}{T:World→Prop}{k:Nat}
theorem AnyK.fork{fuel:Nat}{listed:Array Bool}{a:Act}{w:World}(i j:Nat){oi oj:Oper}(hi:ops[i]? = some oi)(hj:ops[j]? = some oj)(hr:Region.ready md ops listed=[i,j])(hg:oi.guard=none)(hg':oj.guard=none)
 (h:oi.wp P a w (fun a' w'=>((listed.setIfInBounds i true).getD k true=false→T w')∧AnyK P md ops Q k T fuel (listed.setIfInBounds i true) a' w') Q)
 (h':oj.wp P a w (fun a' w'=>((listed.setIfInBounds j true).getD k true=false→T w')∧AnyK P md ops Q k T fuel (listed.setIfInBounds j true) a' w') Q):AnyK P md ops Q k T (fuel+1) listed a w:=by
 refine⟨fun h0=>(by rw[hr]at h0;cases h0),fun x hx=>?_⟩;rw[hr]at hx;have hx':x=i∨x=j:=by simpa using hx
 rcases hx' with rfl|rfl
 · unfold wpOp
   simp only[hi];rw[if_pos (by simp[Region.wanted,hg])];exact .inl h
 · unfold wpOp
   simp only[hj];rw[if_pos (by simp[Region.wanted,hg'])];exact .inl h'
theorem AnyK.val{fuel:Nat}{listed:Array Bool}{a:Act}{w:World}(i:Nat){oi:Oper}{v:Value}(hi:ops[i]? = some oi)(hr:Region.ready md ops listed=[i])(hg:oi.guard=none)(hy:(execOp a.eval oi).run P w=.ok (.value v) w)
 (h1:(listed.setIfInBounds i true).getD k true=false→T w) (h:AnyK P md ops Q k T fuel (listed.setIfInBounds i true) (a.put oi.dst v) w):AnyK P md ops Q k T (fuel+1) listed a w:=by
 refine AnyK.one i hi hr hg ?_
 unfold Oper.wp
 rw[hy,Oper.upon_value];exact⟨h1,h⟩
end
end
def ldAt(ty:TypeId)(v:Value):Sem Value:=Instr.loadAt ty v
theorem zbf{P:Program}{w:World}{g:Nat}{t:TypeId}{cs:List Value}(hB:Blk w g t cs)(ty:TypeId)(o:Nat)(ds:List Value)(hd:(cs.drop o).take ds.length=ds)(d:TypeDesc)(hu:P.underlying ty=some d)(hr:d.isRow=true)(hi:(P.info? ty).map (·.size)=some ds.length):
 (ldAt ty (.pointer (some ⟨g,o,none⟩))).run P w=.ok (.agg ds.toArray) w :=
 run_loadAt_mid w g o ty ds d (hB.mid o ds fun j v hv=>by
  rw[←hd,List.getElem?_take]at hv
  split at hv
  · simpa using hv
  · cases hv) hu hr hi
theorem Blk.set_{w:World}{g:Nat}{t:TypeId}{cs:List Value}(h:Blk w g t cs)(i:Nat)(u:Value):Blk (w.setCell ⟨g,i,none⟩ u) g t (cs.set i u):=by
 unfold Blk at h ⊢
 simp[World.setCell,Array.getElem?_modify,h]
section
section
variable{P:Program}{ops:Array Oper}{Q:Exit→Act→World→Prop}{md:Region.Mode}{T:World→Prop}{k:Nat}
def fAct(a:Act)(d:Tmp):Option Nat→Act
 | none=>a
 | some g=>a.put (some d) (.pointer (some ⟨g,0,none⟩))
def fSet(L:Array Bool)(j:Nat):Option Nat→Array Bool
 | none=>L
 | some _=>L.setIfInBounds j true
def fWorld(B:Nat)(ty:TypeId)(Z:List Value)(W:World):Option Nat→Prop
 | none=>True
 | some g=>B≤g∧Blk W g ty Z
def fFuel(fuel:Nat):Option Nat→Nat
 | none=>fuel+1
 | some _=>fuel
def AnyF(P:Program)(md:Region.Mode)(ops:Array Oper)(Q:Exit→Act→World→Prop)(k:Nat)(T:World→Prop)(j:Nat)(d:Tmp)(B:Nat)(ty:TypeId)(Z:List Value)(fuel:Nat)(listed:Array Bool)(a:Act)(R:World→Prop):Prop :=
 ∀st W,R W→fWorld B ty Z W st→AnyK P md ops Q k T (fFuel fuel st) (fSet listed j st) (fAct a d st) W
variable{j:Nat}{d:Tmp}{B:Nat}{ty:TypeId}{Z:List Value}
theorem AnyF.start{fuel:Nat}{listed:Array Bool}{a:Act}{w:World}(j:Nat)(d:Tmp)(B:Nat)(ty:TypeId)(Z:List Value)(R:World→Prop)(hR:R w)(h:AnyF P md ops Q k T j d B ty Z fuel listed a R):AnyK P md ops Q k T (fuel+1) listed a w:=h none w hR trivial
theorem ze4(L:Array Bool)(i j:Nat)(h:i≠j)(st:Option Nat):(fSet L j st).setIfInBounds i true=fSet (L.setIfInBounds i true) j st:=by
 cases st with
 | none=>rfl
 | some g=>exact Array.setIfInBounds_comm _ _ (Ne.symm h)
theorem ze5(a:Act)(d:Tmp)(x:Option Tmp)(v:Value)(h:x≠some d)(st:Option Nat):(fAct a d st).put x v=fAct (a.put x v) d st:=by
 cases st with
 | none=>rfl
 | some g=>exact(Act.put_comm a _ _ (fun e h1 h2=>h (by rw[h1];exact h2.symm ▸ rfl))).symm
theorem AnyF.pure{fuel:Nat}{listed:Array Bool}{a:Act}{R:World→Prop}(i:Nat){oi:Oper}{v:Value}(hi:ops[i]? = some oi)(hij:i≠j)(hd:∀g,takeB md ops (fSet listed j g) k i=true)
 (hQ:∀c a w,Q (.panic c) (a.put oi.dst v) w→Q (.panic c) a w) (hg:oi.guard=none) (hod:oi.dst≠some d) (hy:∀st w,(execOp (fAct a d st).eval oi).run P w=.ok (.value v) w) (hT:∀W,R W→T W)
 (h:AnyF P md ops Q k T j d B ty Z fuel (listed.setIfInBounds i true) (a.put oi.dst v) R):AnyF P md ops Q k T j d B ty Z (fuel+1) listed a R:=by
 intro st W hR hF;have e:fFuel (fuel+1) st=fFuel fuel st+1:=by cases st <;> rfl
 rw[e];refine AnyK.pure i hi (hd st) hQ hg (hy st) (fun _=>hT W hR) ?_;rw[ze4 _ _ _ hij,ze5 _ _ _ _ hod];exact h st W hR hF
theorem AnyF.load{fuel:Nat}{listed:Array Bool}{a:Act}{R:World→Prop}(i:Nat){oi:Oper}{v:Value}(hi:ops[i]? = some oi)(hij:i≠j)(hd:∀g,takeB md ops (fSet listed j g) k i=true)(hk:awaits md ops k i=true)(hl:∀g,(fSet listed j g).getD k true=false)
 (hQ:∀c a w,Q (.panic c) (a.put oi.dst v) w→Q (.panic c) a w) (hg:oi.guard=none) (hod:oi.dst≠some d) (hy:∀st w,T w→(execOp (fAct a d st).eval oi).run P w=.ok (.value v) w) (hT:∀W,R W→T W)
 (h:AnyF P md ops Q k T j d B ty Z fuel (listed.setIfInBounds i true) (a.put oi.dst v) R):AnyF P md ops Q k T j d B ty Z (fuel+1) listed a R:=by
 intro st W hR hF;have e:fFuel (fuel+1) st=fFuel fuel st+1:=by cases st <;> rfl
 rw[e];refine AnyK.load i hi (hd st) hk (hl st) hQ hg (hy st) (hT W hR) ?_;rw[ze4 _ _ _ hij,ze5 _ _ _ _ hod];exact h st W hR hF
theorem AnyF.call{fuel:Nat}{listed:Array Bool}{a:Act}{R:World→Prop}(i:Nat){d1:Tmp}{f:FuncId}{args:Array Value}{oi oj:Oper}{X:Type}(v:X→Value)(R':X→World→Prop)
 (hi:ops[i]? = some oi) (hid:oi.dst=some d1) (hig:oi.guard=none) (hij:i≠j) (hdd:some d1≠some d) (hirun:∀st w,(execOp (fAct a d st).eval oi).run P w=.ok (.enter f args) w)
 (hj:ops[j]? = some oj) (hjd:oj.dst=some d) (hjg:oj.guard=none) (hjrun:∀(b:Act) w,(execOp b.eval oj).run P w=.ok (.value (.pointer (some ⟨w.heap.size,0,none⟩))) (w.alloc (.cells Z.toArray ty)))
 (hr0:Region.ready md ops listed=[i,j]∨Region.ready md ops listed=[j,i]) (hr1:Region.ready md ops (listed.setIfInBounds j true)=[i])
 (hRa:∀W o,R W→R (W.alloc o)) (hRB:∀W,R W→B≤W.heap.size) (hT:∀W,R W→T W) (hT':∀x W,R' x W→T W)
 (hcall:∀W,R W→Calls P f args W fun e w'=>∃x,e=.returned (v x)∧R' x w'∧Below W.heap.size W w')
 (h:∀x,AnyF P md ops Q k T j d B ty Z fuel (listed.setIfInBounds i true) (a.put (some d1) (v x)) (R' x)):AnyF P md ops Q k T j d B ty Z (fuel+1) listed a R:=by
 have some_:∀g W,R W→B≤g→Blk W g ty Z→AnyK P md ops Q k T (fuel+1) (listed.setIfInBounds j true) (a.put (some d) (.pointer (some ⟨g,0,none⟩))) W:=fun g W hR hg hb=>by
  refine AnyK.one i hi hr1 hig ?_
  unfold Oper.wp
  rw[show(execOp (a.put (some d) (.pointer (some ⟨g,0,none⟩))).eval oi).run P W=_ from hirun (some g) W];refine Calls.mono (hcall W hR) ?_;rintro e w' ⟨x,rfl,hR',hB⟩;refine⟨fun _=>hT' x w' hR',?_⟩;rw[hid];have h2:=h x (some g) w' hR' ⟨hg,hb.below hB hb.lt⟩;rw[←ze4 _ _ _ hij,←ze5 _ _ _ _ hdd]at h2;exact h2
 intro st W hR hF
 cases st with
 | some g=>exact some_ g W hR hF.1 hF.2
 | none =>
  have b1:oi.wp P a W (fun a' w'=>((listed.setIfInBounds i true).getD k true=false→T w')∧AnyK P md ops Q k T (fuel+1) (listed.setIfInBounds i true) a' w') Q:=by
   unfold Oper.wp
   rw[show(execOp a.eval oi).run P W=_ from hirun none W];refine Calls.mono (hcall W hR) ?_;rintro e w' ⟨x,rfl,hR',hB⟩;refine⟨fun _=>hT' x w' hR',?_⟩;rw[hid];exact h x none w' hR' trivial
  have b2:oj.wp P a W (fun a' w'=>((listed.setIfInBounds j true).getD k true=false→T w')∧AnyK P md ops Q k T (fuel+1) (listed.setIfInBounds j true) a' w') Q:=by
   unfold Oper.wp
   rw[hjrun];rw[Oper.upon_value,hjd];exact⟨fun _=>hT _ (hRa _ _ hR),some_ _ _ (hRa _ _ hR) (hRB _ hR) (Blk.new _ _ _)⟩
  rcases hr0 with hr0|hr0
  · exact AnyK.fork i j hi hj hr0 hig hjg b1 b2
  · exact AnyK.fork j i hj hi hr0 hjg hig b2 b1
theorem AnyF.fin{fuel:Nat}{listed:Array Bool}{a:Act}{R:World→Prop}{oj:Oper}
 (hj:ops[j]? = some oj) (hjd:oj.dst=some d) (hjg:oj.guard=none) (hjrun:∀(b:Act) w,(execOp b.eval oj).run P w=.ok (.value (.pointer (some ⟨w.heap.size,0,none⟩))) (w.alloc (.cells Z.toArray ty)))
 (hr0:Region.ready md ops listed=[j]) (hRa:∀W o,R W→R (W.alloc o)) (hRB:∀W,R W→B≤W.heap.size) (hT:∀W,R W→T W)
 (h:∀g W,B≤g→Blk W g ty Z→R W→AnyK P md ops Q k T fuel (listed.setIfInBounds j true) (a.put (some d) (.pointer (some ⟨g,0,none⟩))) W):AnyF P md ops Q k T j d B ty Z fuel listed a R:=by
 intro st W hR hF
 cases st with
 | some g=>exact h g W hF.1 hF.2 hR
 | none =>
  refine AnyK.one j hj hr0 hjg ?_
  unfold Oper.wp
  rw[hjrun,Oper.upon_value,hjd];exact⟨fun _=>hT _ (hRa _ _ hR),h _ _ (hRB _ hR) (Blk.new _ _ _) (hRa _ _ hR)⟩
theorem AnyK.storeAll{fuel:Nat}{listed:Array Bool}{a:Act}{w:World}(i:Nat){oi:Oper}{t:TypeId}{x y:Operand}(g:Nat)(cs:List Value)(t':TypeId)(Z:List Value)(hi:ops[i]? = some oi)(hid:oi.dst=none)(hg:oi.guard=none)(ho:oi.op=.store t x y)(hr:Region.ready md ops listed=[i])
 (hx:a.eval x=.pointer (some ⟨g,0,none⟩)) (hy:a.eval y=.agg cs.toArray) (hb:Blk w g t' Z) (hsz:(P.info? t).map (·.size)=some cs.length) (hone:∀v∈cs,v.oneCell'=true) (hlen:cs.length=Z.length)
 (hT:∀w',Blk w' g t' cs→Only w w' g→(listed.setIfInBounds i true).getD k true=false→T w')
 (h:∀w',Blk w' g t' cs→Only w w' g→AnyK P md ops Q k T fuel (listed.setIfInBounds i true) (a.put none undef) w'):AnyK P md ops Q k T (fuel+1) listed a w:=by
 refine AnyK.one i hi hr hg ?_;refine zdh t x y ho g 0 cs hx hy t' Z hb hsz hone om ?_;intro w' hb' ho';rw[zbl _ _ hlen]at hb';rw[hid];exact⟨hT w' hb' ho',h w' hb' ho'⟩
end
section
variable{P:Program}{w:World}{o:Oper}{a:Act}
theorem zae{t:TypeId}{x:Operand}{p:Addr}{v:Value}(ho:o.op=.load t x)(hx:a.eval x=.pointer (some p))(h:(ldAt t (.pointer (some p))).run P w=.ok v w):(execOp a.eval o).run P w=.ok (.value v) w:=by
 unfold execOp
 have h2:(Instr.loadAt t (.pointer (some p))).run P w=.ok v w:=h
 simp[ho,hx,h2]
end
section
variable{P:Program}{ops:Array Oper}{Q:Exit→Act→World→Prop}{md:Region.Mode}{T:World→Prop}{k:Nat}
def AnyR(P:Program)(md:Region.Mode)(ops:Array Oper)(Q:Exit→Act→World→Prop)(k:Nat)(T:World→Prop)(fuel:Nat)(listed:Array Bool)(a:Act)(w:World):Prop :=
 (∀c (a:Act) w (d:Tmp) v,Q (.panic c) (a.put (some d) v) w→Q (.panic c) a w)→(listed.getD k true=false→T w)→AnyK P md ops Q k T fuel listed a w
theorem kgo{id:Nat}{a:Act}{w:World}(hm:P.follows .mixedOrders=true)(k:Nat)(T:World→Prop)(hT:T { w with drawn:=w.drawn+1 })(hQ:∀c (a:Act) w (d:Tmp) v,Q (.panic c) (a.put (some d) v) w→Q (.panic c) a w)
 (h:AnyR P .any ops Q k T ops.size (Array.replicate ops.size false) a { w with drawn:=w.drawn+1 }):(Code.region id ops true).wp P Q a w:=zib hm k T (h hQ fun _=>hT)
theorem kp{fuel:Nat}{listed:Array Bool}{a:Act}{w:World}(i:Nat)(v:Value){oi:Oper}(hi:ops[i]? = some oi)(hd:(takeB md ops listed k i && oi.guard.isNone && oi.dst.isSome)=true)(hy:∀w,(execOp a.eval oi).run P w=.ok (.value v) w)
 (h:AnyR P md ops Q k T fuel (listed.setIfInBounds i true) (a.put oi.dst v) w):AnyR P md ops Q k T (fuel+1) listed a w:=by
 intro hQ hT;simp only[Bool.and_eq_true,Option.isNone_iff_eq_none]at hd;obtain⟨⟨h1,h2⟩,h3⟩:=hd;obtain⟨t,ht⟩:=Option.isSome_iff_exists.1 h3;refine AnyK.pure i hi h1 (fun c a w hq=>hQ c a w t v (ht ▸ hq)) h2 hy hT (h hQ fun hl=>hT ?_);simp only[takeB,Bool.and_eq_true,decide_eq_true_eq]at h1
 rwa [getD_set_ne true h1.1.1.1]at hl
theorem kl{fuel:Nat}{listed:Array Bool}{a:Act}{w:World}(i:Nat)(v:Value){oi:Oper}(hi:ops[i]? = some oi)(hd:(takeB md ops listed k i && awaits md ops k i && !listed.getD k true && oi.guard.isNone && oi.dst.isSome)=true)(hy:∀w,T w→(execOp a.eval oi).run P w=.ok (.value v) w)
 (h:AnyR P md ops Q k T fuel (listed.setIfInBounds i true) (a.put oi.dst v) w):AnyR P md ops Q k T (fuel+1) listed a w:=by
 intro hQ hT;simp only[Bool.and_eq_true,Option.isNone_iff_eq_none,Bool.not_eq_true']at hd;obtain⟨⟨⟨⟨h1,h2⟩,h3⟩,h4⟩,h5⟩:=hd;obtain⟨t,ht⟩:=Option.isSome_iff_exists.1 h5;refine AnyK.load i hi h1 h2 h3 (fun c a w hq=>hQ c a w t v (ht ▸ hq)) h4 hy (hT h3) (h hQ fun _=>hT h3)
end
section
variable{P:Program}{ops:Array Oper}{Q:Exit→Act→World→Prop}{md:Region.Mode}{T:World→Prop}{k:Nat}
theorem AnyK.pu{fuel:Nat}{listed:Array Bool}{a:Act}{w:World}(i:Nat){oi:Oper}{v:Value}(hT:listed.getD k true=false→T w)
 (h:AnyK P md ops Q k T fuel (listed.setIfInBounds i true) (a.put oi.dst v) w) (hi:ops[i]? = some oi:=by rfl) (hd:takeB md ops listed k i=true:=by kernel_rfl)
 (hQ:∀c a w,Q (.panic c) (a.put oi.dst v) w→Q (.panic c) a w:=by exact fun _ _ _ h=>h) (hg:oi.guard=none:=by rfl) (hy:∀w,(execOp a.eval oi).run P w=.ok (.value v) w:=by exact fun _=>by kernel_rfl):AnyK P md ops Q k T (fuel+1) listed a w:=AnyK.pure i hi hd hQ hg hy hT h
theorem AnyK.lo{fuel:Nat}{listed:Array Bool}{a:Act}{w:World}(i:Nat){oi:Oper}{v:Value}(hi:ops[i]? = some oi)(hy:∀w,T w→(execOp a.eval oi).run P w=.ok (.value v) w)(hT:T w)
 (h:AnyK P md ops Q k T fuel (listed.setIfInBounds i true) (a.put oi.dst v) w) (hd:takeB md ops listed k i=true:=by kernel_rfl) (hk:awaits md ops k i=true:=by kernel_rfl) (hl:listed.getD k true=false:=by kernel_rfl)
 (hQ:∀c a w,Q (.panic c) (a.put oi.dst v) w→Q (.panic c) a w:=by exact fun _ _ _ h=>h) (hg:oi.guard=none:=by rfl):AnyK P md ops Q k T (fuel+1) listed a w:=AnyK.load i hi hd hk hl hQ hg hy hT h
end
end
def strs(l:List ByteArray):List Value:=l.map Value.string
theorem zm0{l:List ByteArray}{k:Nat}{u:Value}(h:(strs l)[k]? = some u):∃x,l[k]? = some x∧u=.string x:=by
 simp only[strs,List.getElem?_map,Option.map_eq_some_iff]at h;obtain⟨x,h1,h2⟩:=h;exact⟨x,h1,h2.symm⟩
theorem str_ne{T x:ByteArray}(h:T≠x):(T.toList == x.toList)=false:=by
 rw[ByteArray.toList_eq,ByteArray.toList_eq,beq_eq_false_iff_ne];exact fun e=>h (ByteArray.ext (Array.toList_inj.1 e))
def bmem(T:ByteArray)(l:List ByteArray):Bool:=(l.map (·.data.toList)).contains T.data.toList
theorem zbh{T:ByteArray}{l:List ByteArray}: bmem T l=true ↔ T∈l:=by
 unfold bmem
 rw[List.contains_iff_mem,List.mem_map]
 constructor
 · rintro ⟨x,hx,e⟩
   have:x=T:=ByteArray.ext (Array.toList_inj.1 e);exact this ▸ hx
 · exact fun h=>⟨T,h,rfl⟩
def IdxPost(T:ByteArray)(l:List ByteArray)(w:World)(e:Ending)(w':World):Prop:=∃z:Int,e=.returned (.int .i64 z)∧decide (0≤z)=bmem T l∧w=w'
theorem zlz(A:Option Addr)(n c:Nat)(l:List ByteArray)(T:ByteArray)(w:World)(h:Rd w A n (strs l))(hn:n≤140737488355328):
 Calls Tryz.prog 110 #[.slice A n c,.string T] w (IdxPost T l w):=by
 have hl:l.length=n:=by have:=h.1;simpa[strs] using this
 have HL:=qh hl;clear hl
 go_enter Tryz.func110, Tryz.ntmps110
 go_wp2_with fail
 go_loop [8] (fun q=>∃k:Nat,k≤n∧q=.int .i64 k∧Hid (∀j x,j<k→l[j]? = some x→T≠x)) (fun q=>n-(intOf q).toNat)
 case atStart=>exact⟨0,Nat.zero_le _,rfl,fun j x hj=>by omega⟩
 case round =>
  obtain⟨k,hk,rfl,HK⟩:=hrel
  by_cases hlt:k<n
  · obtain⟨b,off,u,rfl,hb,HU,hc⟩:=h.at_ hlt
    obtain⟨x,hx,rfl⟩:=zm0 HU.out;have HX:=qh hx;have i0:(0:Int)≤(k:Int):=om;have i1:(k:Int)<(n:Int):=om;clear hx HU
    by_cases hT:T=x
    · subst hT
      go_wp2_with fail
      go_ret
      exact⟨k,rfl,by
       have hm:T∈l:=mg9 HX.out
       rw[zbh.2 hm];simp,rfl⟩
    · have e1:(T.toList == x.toList)=false:=str_ne hT
      have HK':Hid (∀j x,j<k+1→l[j]? = some x→T≠x):=fun j y hj hy=>by
       rcases Nat.lt_or_ge j k with h|h
       · exact HK.out j y h hy
       · obtain rfl:j=k:=om
         rw[HX.out]at hy
         injection hy with hy
         rw[←hy];exact hT
      have HT:=qh hT;clear hT
      go_wp2_with fail
      go_round
      case rel=>exact⟨k+1,by omega,by go_num,HK'.out⟩
      case measure=>simp[intOf];omega
  · go_wp2_with fail
    go_ret;refine⟨-1,rfl,?_,rfl⟩
    have hm:T ∉ l:=fun hm=>by
     obtain⟨j,hj,e⟩:=List.mem_iff_getElem.1 hm;exact HK.out j T (by have:=HL.out;omega) (by rw[ge9 hj,e]) rfl
    rw[Bool.eq_false_iff.2 (fun h=>hm (zbh.1 h))]
    rfl
theorem zg3(A:Option Addr)(n c:Nat)(l:List ByteArray)(T:ByteArray)(w:World)(h:Rd w A n (strs l))(hn:n≤140737488355328):
 Calls Tryz.prog 81 #[.slice A n c,.string T] w fun e w'=>e=.returned (.bool (bmem T l))∧w=w':=by
 have HI:=qh (zlz A n c l T w h hn);clear h
 go_enter Tryz.func81, Tryz.ntmps81
 go_wp2_with (go_at_call 110;refine HI.out.mono ?_;rintro e w' ⟨z,rfl,hz,rfl⟩;have HZ:=qh hz;clear hz)
 go_ret;exact⟨by rw[←HZ.out];rfl,rfl⟩
section
structure Flt where
 j:Nat
 d:Tmp
 ty:TypeId
 Z:List Value
 v:Nat→Value
def setJ(L:Array Bool):List Nat→Array Bool
 | []=>L
 | j :: r=>setJ (L.setIfInBounds j true) r
def doneJ:List (Flt × Option Nat)→List Nat
 | []=>[]
 | (_,none) :: r=>doneJ r
 | (f,some _) :: r=>f.j :: doneJ r
def putF(a:Act):List (Flt × Option Nat)→Act
 | []=>a
 | (_,none) :: r=>putF a r
 | (f,some g) :: r=>putF (a.put (some f.d) (f.v g)) r
def leftN:List (Flt × Option Nat)→Nat
 | []=>0
 | (_,none) :: r=>leftN r+1
 | (_,some _) :: r=>leftN r
def okF(B:Nat)(W:World):List (Flt × Option Nat)→Prop
 | []=>True
 | (_,none) :: r=>okF B W r
 | (f,some g) :: r=>(B≤g∧Blk W g f.ty f.Z∧∀x∈r,x.2≠some g)∧okF B W r
def subs:List Nat→List (List Nat)
 | []=>[[]]
 | j :: r=>subs r++(subs r).map (j :: ·)
theorem zc5:∀F:List (Flt × Option Nat),doneJ F∈subs (F.map (·.1.j))
 | []=>by simp[doneJ,subs]
 | (f,none) :: r=>by
  simp only[doneJ,List.map_cons,subs,List.mem_append];exact .inl (zc5 r)
 | (f,some g) :: r=>by
  simp only[doneJ,List.map_cons,subs,List.mem_append,List.mem_map];exact .inr ⟨_,zc5 r,rfl⟩
theorem zm8(L:Array Bool)(i j:Nat):(L.setIfInBounds i true).setIfInBounds j true=(L.setIfInBounds j true).setIfInBounds i true:=by
 by_cases h:i=j
 · rw[h]
 · exact Array.setIfInBounds_comm _ _ h
theorem zfr:∀(S:List Nat) (L:Array Bool) (i:Nat),(setJ L S).setIfInBounds i true=setJ (L.setIfInBounds i true) S
 | [],_,_=>rfl
 | j :: r,L,i=>by rw[setJ,zfr r,setJ,zm8]
theorem zhd(L:Array Bool)(f:Flt)(g:Nat)(post:List (Flt × Option Nat)):∀pre,(setJ L (doneJ (pre++(f,none) :: post))).setIfInBounds f.j true=setJ L (doneJ (pre++(f,some g) :: post))
 | []=>by simp only[List.nil_append,doneJ,setJ];rw[zfr]
 | (h,none) :: pre=>by
  simp only[List.cons_append,doneJ];exact zhd L f g post pre
 | (h,some k) :: pre=>by
  simp only[List.cons_append,doneJ,setJ];exact zhd (L.setIfInBounds h.j true) f g post pre
theorem zec:∀(F:List (Flt × Option Nat)) (a:Act) (d:Tmp) (v:Value),(∀x∈F,x.1.d≠d)→(putF a F).put (some d) v=putF (a.put (some d) v) F
 | [],_,_,_,_=>rfl
 | (f,none) :: r,a,d,v,h=>zec r a d v fun x hx=>h x (List.mem_cons_of_mem _ hx)
 | (f,some g) :: r,a,d,v,h=>by
  have hne:=h (f,some g) List.mem_cons_self;rw[putF,zec r _ d v fun x hx=>h x (List.mem_cons_of_mem _ hx),putF]
  congr 1
  exact(Act.put_comm a _ _ (fun e h1 h2=>hne (by injection h1 with h1;injection h2 with h2;rw[h1,h2]))).symm
theorem zhi(f:Flt)(g:Nat)(post:List (Flt × Option Nat))(hpost:∀x∈post,x.1.d≠f.d):∀(pre:List (Flt × Option Nat)) (a:Act),(putF a (pre++(f,none) :: post)).put (some f.d) (f.v g)=putF a (pre++(f,some g) :: post)
 | [],a=>by simp only[List.nil_append,putF];exact zec post a f.d (f.v g) hpost
 | (h,none) :: pre,a=>by
  simp only[List.cons_append,putF];exact zhi f g post hpost pre a
 | (h,some k) :: pre,a=>by
  simp only[List.cons_append,putF];exact zhi f g post hpost pre _
theorem zf1(f:Flt)(g:Nat)(post:List (Flt × Option Nat)):∀pre,leftN (pre++(f,none) :: post)=leftN (pre++(f,some g) :: post)+1
 | []=>rfl
 | (h,none) :: pre=>by simp only[List.cons_append,leftN];rw[zf1 f g post pre]
 | (h,some k) :: pre=>by simp only[List.cons_append,leftN];rw[zf1 f g post pre]
theorem zeg{B:Nat}{W W':World}(hB:Below W.heap.size W W'):∀F,okF B W F→okF B W' F
 | [],_=>trivial
 | (_,none) :: r,h=>zeg hB r h
 | (_,some _) :: r,h=>⟨⟨h.1.1,h.1.2.1.below hB h.1.2.1.lt,h.1.2.2⟩,zeg hB r h.2⟩
theorem zlm{B:Nat}{W:World}: ∀F,okF B W F→∀x∈F,∀g,x.2=some g→g<W.heap.size
 | [],_,x,hx,_,_=>by cases hx
 | (_,none) :: r,h,x,hx,g,hg=>by
  rcases List.mem_cons.1 hx with rfl|hx
  · cases hg
  · exact zlm r h x hx g hg
 | (_,some k) :: r,h,x,hx,g,hg=>by
  rcases List.mem_cons.1 hx with rfl|hx
  · injection hg with hg;subst hg;exact h.1.2.1.lt
  · exact zlm r h.2 x hx g hg
theorem zll{B:Nat}{W:World}(f:Flt)(post:List (Flt × Option Nat))(hB:B≤W.heap.size):∀pre,okF B W (pre++(f,none) :: post)→okF B (W.alloc (.cells f.Z.toArray f.ty)) (pre++(f,some W.heap.size) :: post)
 | [],h=>by
  refine⟨⟨hB,Blk.new _ _ _,fun x hx he=>?_⟩,zeg ((Below.refl _ _).alloc lr _) post h⟩;exact absurd (zlm post h x hx _ he) om
 | (_,none) :: pre,h=>zll f post hB pre h
 | (y,some k) :: pre,h=>by
  refine⟨⟨h.1.1,h.1.2.1.alloc _,fun x hx he=>?_⟩,zll f post hB pre h.2⟩
  rcases List.mem_append.1 hx with hx|hx
  · exact h.1.2.2 x (List.mem_append_left _ hx) he
  · rcases List.mem_cons.1 hx with rfl|hx
    · injection he with he
      have:=h.1.2.1.lt;omega
    · exact h.1.2.2 x (List.mem_append_right _ (List.mem_cons_of_mem _ hx)) he
theorem zhu(f:Flt)(g:Nat)(post:List (Flt × Option Nat))(x:Nat):∀pre,x∈doneJ (pre++(f,none) :: post)→x∈doneJ (pre++(f,some g) :: post)
 | [],h=>List.mem_cons_of_mem _ h
 | (_,none) :: pre,h=>zhu f g post x pre h
 | (_,some _) :: pre,h=>by
  simp only[List.cons_append,doneJ,List.mem_cons]at h ⊢
  rcases h with h|h
  · exact .inl h
  · exact .inr (zhu f g post x pre h)
theorem zln{must:List Nat}{F F':List (Flt × Option Nat)}(h:must.all (doneJ F).contains=true)(hg:∀x∈doneJ F,x∈doneJ F'):must.all (doneJ F').contains=true:=by
 rw[List.all_eq_true]at h ⊢;intro x hx;have:=h x hx;simp only[List.contains_iff_mem]at this ⊢;exact hg x this
theorem zdv(x:Nat):∀F:List (Flt × Option Nat),x∈F.map (·.1.j)→x ∉ doneJ F→∃pre f post,F=pre++(f,none) :: post∧f.j=x
 | [],h,_=>by cases h
 | (f,none) :: r,h,hn=>by
  by_cases e:f.j=x
  · exact⟨[],f,r,rfl,e⟩
  · simp only[List.map_cons,List.mem_cons]at h
    rcases h with h|h
    · exact absurd h.symm e
    · obtain⟨pre,f',post,rfl,e'⟩:=zdv x r h hn
      exact⟨(f,none) :: pre,f',post,rfl,e'⟩
 | (f,some g) :: r,h,hn=>by
  simp only[doneJ,List.mem_cons,not_or]at hn;simp only[List.map_cons,List.mem_cons]at h
  rcases h with h|h
  · exact absurd h hn.1
  · obtain⟨pre,f',post,rfl,e'⟩:=zdv x r h hn.2
    exact⟨(f,some g) :: pre,f',post,rfl,e'⟩
section
variable{P:Program}{ops:Array Oper}{Q:Exit→Act→World→Prop}{md:Region.Mode}{T:World→Prop}{k:Nat}{B:Nat}{fs:List Flt}
def AnyG(P:Program)(md:Region.Mode)(ops:Array Oper)(Q:Exit→Act→World→Prop)(k:Nat)(T:World→Prop)(B:Nat)(fs:List Flt)(must:List Nat)(fuel:Nat)(listed:Array Bool)(a:Act)(R:World→Prop):Prop :=
 ∀F W,F.map (·.1)=fs→R W→okF B W F→must.all (doneJ F).contains=true→AnyK P md ops Q k T (fuel+leftN F) (setJ listed (doneJ F)) (putF a F) W
def FltRun(P:Program)(ops:Array Oper)(fs:List Flt)(a:Act)(f:Flt):Prop :=
 ∃oj,ops[f.j]? = some oj∧oj.dst=some f.d∧oj.guard=none∧∀F W,F.map (·.1)=fs→(execOp (putF a F).eval oj).run P W=.ok (.value (f.v W.heap.size)) (W.alloc (.cells f.Z.toArray f.ty))
theorem zfh:∀fs:List Flt,doneJ (fs.map fun f=>(f,none))=[]
 | []=>rfl
 | _ :: r=>zfh r
theorem zge(a:Act):∀fs:List Flt,putF a (fs.map fun f=>(f,none))=a
 | []=>rfl
 | _ :: r=>zge a r
theorem zfg:∀fs:List Flt,leftN (fs.map fun f=>(f,none))=fs.length
 | []=>rfl
 | _ :: r=>congrArg (· + 1) (zfg r)
theorem zh8(W:World):∀fs:List Flt,okF B W (fs.map fun f=>(f,none))
 | []=>trivial
 | _ :: r=>zh8 W r
theorem AnyG.start{fuel:Nat}{listed:Array Bool}{a:Act}{w:World}(B:Nat)(fs:List Flt)(R:World→Prop)(fuel':Nat)(hf:fuel=fuel'+fs.length)(hR:R w)(h:AnyG P md ops Q k T B fs [] fuel' listed a R):AnyK P md ops Q k T fuel listed a w:=by
 have:=h (fs.map fun f=>(f,none)) w (by rw[List.map_map];exact List.map_id _) hR (zh8 w fs) rfl;rw[zfh,zge,zfg,←hf]at this;exact this
def okStep(md:Region.Mode)(ops:Array Oper)(listed:Array Bool)(js:List Nat)(must must':List Nat)(i:Nat):Bool :=
 (subs js).all fun S=>(!(must.all S.contains))|| ((!(Region.ready md ops (setJ listed S)).isEmpty) && (Region.ready md ops (setJ listed S)).all fun x=>(x == i && must'.all S.contains)|| (js.contains x && !S.contains x))
theorem zhm{listed:Array Bool}{i:Nat}{must must':List Nat}(h:okStep md ops listed (fs.map (·.j)) must must' i=true){F:List (Flt × Option Nat)}(hF:F.map (·.1)=fs)(hm:must.all (doneJ F).contains=true):
 Region.ready md ops (setJ listed (doneJ F))≠[]∧∀x∈Region.ready md ops (setJ listed (doneJ F)),(x=i∧must'.all (doneJ F).contains=true)∨∃pre f post,F=pre++(f,none) :: post∧f.j=x:=by
 have e:F.map (·.1.j)=fs.map (·.j):=by rw[←hF,List.map_map];rfl
 have h1:=List.all_eq_true.1 h (doneJ F) (e ▸ zc5 F);rw[hm,Bool.not_true,Bool.false_or,Bool.and_eq_true]at h1;refine⟨fun h2=>by rw[h2]at h1;simp at h1,fun x hx=>?_⟩;have h2:=List.all_eq_true.1 h1.2 x hx;rw[Bool.or_eq_true,Bool.and_eq_true,Bool.and_eq_true]at h2
 rcases h2 with ⟨h2,h3⟩|⟨h2,h3⟩
 · exact .inl ⟨by simpa using h2,h3⟩
 · exact .inr (zdv x F (e ▸ (by simpa using h2)) (by simpa using h3))
theorem AnyG.one{fuel:Nat}{listed:Array Bool}{a:Act}{R:World→Prop}(hd:(fs.map (·.d)).Nodup)(hfl:∀f∈fs,FltRun P ops fs a f)(hRa:∀W o,R W→R (W.alloc o))(hRB:∀W,R W→B≤W.heap.size)(hT:∀W,R W→T W)
 {F:List (Flt × Option Nat)} {W:World} (hF:F.map (·.1)=fs) (hR:R W) (hok:okF B W F) {x:Nat} (hx:∃pre f post,F=pre++(f,none) :: post∧f.j=x) {n:Nat} (hn:fuel+leftN F=n+1)
 (ih:∀F' W',F'.map (·.1)=fs→R W'→okF B W' F'→leftN F'<leftN F→(∀y∈doneJ F,y∈doneJ F')→AnyK P md ops Q k T (fuel+leftN F') (setJ listed (doneJ F')) (putF a F') W'):
 wpOp P ops Q x (fun a' w'=>(((setJ listed (doneJ F)).setIfInBounds x true).getD k true=false→T w')∧AnyK P md ops Q k T n ((setJ listed (doneJ F)).setIfInBounds x true) a' w') (putF a F) W:=by
 obtain⟨pre,f,post,rfl,rfl⟩:=hx;have hfs:f∈fs:=by rw[←hF];simp
 obtain⟨oj,h1,h2,h3,h4⟩:=hfl f hfs
 unfold wpOp
 simp only[h1];rw[if_pos (by simp[Region.wanted,h3])];refine .inl ?_
 unfold Oper.wp
 rw[h4 _ W hF,Oper.upon_value,h2]
 have hpost:∀y∈post,y.1.d≠f.d:=by
  intro y hy he;rw[←hF]at hd;simp only[List.map_append,List.map_cons,List.nodup_append,List.nodup_cons]at hd;exact hd.2.1.1 (List.mem_map.2 ⟨y.1,List.mem_map.2 ⟨y,hy,rfl⟩,he⟩)
 rw[zhd listed f W.heap.size post pre,zhi f W.heap.size post hpost pre a];have hl:=zf1 f W.heap.size post pre;refine⟨fun _=>hT _ (hRa _ _ hR),?_⟩;have h5:=ih (pre++(f,some W.heap.size) :: post) (W.alloc (.cells f.Z.toArray f.ty)) (by rw[←hF];simp) (hRa _ _ hR) (zll f post (hRB W hR) pre hok) om (fun y hy=>zhu f _ post y pre hy);rw[show fuel+leftN (pre++(f,some W.heap.size) :: post)=n by omega]at h5;exact h5
theorem AnyG.step{fuel:Nat}{listed:Array Bool}{a:Act}{R:World→Prop}(i:Nat){oi:Oper}{di:Tmp}{X:Type}{must:List Nat}(must':List Nat)(v:X→Value)(R':X→World→Prop)(hi:ops[i]? = some oi)(hig:oi.guard=none)(hdi:∀f∈fs,f.d≠di)(hd:(fs.map (·.d)).Nodup)
 (chk:okStep md ops listed (fs.map (·.j)) must must' i=true)
 (hmain:∀F W,F.map (·.1)=fs→R W→okF B W F→(Region.ready md ops (setJ listed (doneJ F))).contains i=true→∀K:Act→World→Prop,(∀x w',R' x w'→Below W.heap.size W w'→K ((putF a F).put (some di) (v x)) w')→oi.wp P (putF a F) W K Q)
 (hfl:∀f∈fs,FltRun P ops fs a f) (hRa:∀W o,R W→R (W.alloc o)) (hRB:∀W,R W→B≤W.heap.size) (hT:∀W,R W→T W) (hT':∀x W,R' x W→T W)
 (h:∀x,AnyG P md ops Q k T B fs must' fuel (listed.setIfInBounds i true) (a.put (some di) (v x)) (R' x)):AnyG P md ops Q k T B fs must (fuel+1) listed a R:=by
 have key:∀n F W,leftN F=n→F.map (·.1)=fs→R W→okF B W F→must.all (doneJ F).contains=true→AnyK P md ops Q k T (fuel+1+leftN F) (setJ listed (doneJ F)) (putF a F) W:=by
  intro n
  induction n using Nat.strongRecOn with
  | _ n ih =>
   intro F W hn hF hR hok hm;obtain⟨hne,hall⟩:=zhm chk hF hm;rw[show fuel+1+leftN F=(fuel+leftN F)+1 by omega];refine⟨fun h0=>absurd h0 hne,fun x hx=>?_⟩
   rcases hall x hx with ⟨rfl,hm'⟩|hx
   · unfold wpOp
     simp only[hi];rw[if_pos (by simp[Region.wanted,hig])];refine .inl (hmain F W hF hR hok (by simpa using hx) _ fun y w' hR' hB=>?_);refine⟨fun _=>hT' y w' hR',?_⟩;have h2:=h y F w' hF hR' (zeg hB F hok) hm';rw[←zfr,←zec F a di (v y) (fun z hz=>hdi z.1 (by rw[←hF];exact List.mem_map.2 ⟨z,hz,rfl⟩))]at h2;exact h2
   · exact AnyG.one (fuel:=fuel+1) hd hfl hRa hRB hT hF hR hok hx om fun F' W' h1 h2 h3 h4 h5=>ih (leftN F') om F' W' rfl h1 h2 h3 (zln hm h5)
 exact fun F W hF hR hok hm=>key _ F W rfl hF hR hok hm
def okEnd(md:Region.Mode)(ops:Array Oper)(listed:Array Bool)(js must:List Nat):Bool :=
 (subs js).all fun S=>(!(must.all S.contains))|| (S.length == js.length)|| ((!(Region.ready md ops (setJ listed S)).isEmpty) && (Region.ready md ops (setJ listed S)).all fun x=>js.contains x && !S.contains x)
theorem ze6:∀F:List (Flt × Option Nat),(doneJ F).length+leftN F=F.length
 | []=>rfl
 | (_,none) :: r=>by have:=ze6 r;simp only[doneJ,leftN,List.length_cons];omega
 | (_,some _) :: r=>by have:=ze6 r;simp only[doneJ,leftN,List.length_cons];omega
theorem AnyG.fin{fuel:Nat}{listed:Array Bool}{a:Act}{R:World→Prop}(hd:(fs.map (·.d)).Nodup){must:List Nat}(chk:okEnd md ops listed (fs.map (·.j)) must=true)
 (hfl:∀f∈fs,FltRun P ops fs a f) (hRa:∀W o,R W→R (W.alloc o)) (hRB:∀W,R W→B≤W.heap.size) (hT:∀W,R W→T W)
 (h:∀F W,F.map (·.1)=fs→leftN F=0→R W→okF B W F→AnyK P md ops Q k T fuel (setJ listed (doneJ F)) (putF a F) W):AnyG P md ops Q k T B fs must fuel listed a R:=by
 have key:∀n F W,leftN F=n→F.map (·.1)=fs→R W→okF B W F→must.all (doneJ F).contains=true→AnyK P md ops Q k T (fuel+leftN F) (setJ listed (doneJ F)) (putF a F) W:=by
  intro n
  induction n using Nat.strongRecOn with
  | _ n ih =>
   intro F W hn hF hR hok hm
   rcases Nat.eq_zero_or_pos (leftN F)with h0|h0
   · rw[h0]
     exact h F W hF h0 hR hok
   · have e:F.map (·.1.j)=fs.map (·.j):=by rw[←hF,List.map_map];rfl
     have h1:=List.all_eq_true.1 chk (doneJ F) (e ▸ zc5 F);have hl:=ze6 F;have hl2:F.length=(fs.map (·.j)).length:=by rw[←e,List.length_map]
     rw[hm,Bool.not_true,Bool.false_or,Bool.or_eq_true,Bool.and_eq_true]at h1
     rcases h1 with h1|h1
     · have:(doneJ F).length=(fs.map (·.j)).length:=by simpa using h1
       omega
     · rw[show fuel+leftN F=(fuel+leftN F-1)+1 by omega]
       refine⟨fun h2=>by rw[h2]at h1;simp at h1,fun x hx=>?_⟩;have h2:=List.all_eq_true.1 h1.2 x hx;rw[Bool.and_eq_true]at h2;refine AnyG.one (fuel:=fuel) hd hfl hRa hRB hT hF hR hok (zdv x F (e ▸ (by simpa using h2.1)) (by simpa using h2.2)) om fun F' W' h1 h2 h3 h4 h5=>ih (leftN F') om F' W' rfl h1 h2 h3 (zln hm h5)
 exact fun F W hF hR hok hm=>key _ F W rfl hF hR hok hm
end
section
variable{P:Program}{ops:Array Oper}{a:Act}
theorem flt1{f:Flt}(h:FltRun P ops [f] a f):∀g∈[f],FltRun P ops [f] a g:=by
 intro g hg;rw[List.mem_singleton]at hg;subst hg;exact h
theorem flt2{f1 f2:Flt}(h1:FltRun P ops [f1,f2] a f1)(h2:FltRun P ops [f1,f2] a f2):∀g∈[f1,f2],FltRun P ops [f1,f2] a g:=by
 intro g hg;simp only[List.mem_cons,List.not_mem_nil,or_false]at hg
 rcases hg with rfl|rfl
 · exact h1
 · exact h2
end
end
end Go.Proofs.YtafjkbbiaopemaaGreatDoor
