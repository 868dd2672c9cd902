/- Part of the proof. -/
import Derived.Test.YtafjkbbiaopemaaGreatDoorChecked
import Derived.WalkKit
import Derived.WalkSpells
import Derived.WalkLawsBesides
import Derived.BigQuiet
import Derived.Deep.QuietTactic
import Derived.Lib.Hide
import Derived.Maps.AppendAt
import Derived.Deep.AppendLies
import Derived.Deep.Draws
import Derived.Deep.RegionHeld3
import Derived.Laws.OwnMore
import Derived.Laws.CopyOwn
import Derived.Laws.ResultCell
import Derived.Test.YtafjkbbiaopemaaGreatDoorRows
import Derived.ProofKit
import Derived.OpenShut
import Derived.ShutString
import Derived.ChangeOld
import Derived.SizedLaws
set_option linter.all false
set_option maxRecDepth 100000
set_option maxHeartbeats 0
namespace Go.Proofs.YtafjkbbiaopemaaGreatDoor
open Go.RowKit
section
theorem qh{p:Prop}(h:p):Hid p:=(Lib.hid) h
theorem kr{p:Prop}(h:p:=by kernel_rfl):p:=h
theorem rr{p:Prop}(h:p:=by rfl):p:=h
theorem om{p:Prop}(h:p:=by omega):p:=h
theorem sy{p:Prop}(h:p:=by simp):p:=h
theorem lr{n:Nat}: n≤n:=Nat.le_refl n
theorem tk{α:Type}{i:Nat}{l:List α}(h:l.length≤i):l.take i=l:=_root_.List.take_of_length_le h
theorem ge9{α:Type}{l:List α}{i:Nat}(h:i<l.length):l[i]? = some (l[i]):=_root_.List.getElem?_eq_getElem h
theorem ex9{α:Type}(a:α):∃x,x=a:=⟨a,rfl⟩
theorem gd9{α:Type}{l:List α}{i:Nat}{a:α}: l.getD i a=l[i]?.getD a:=_root_.List.getD_eq_getElem?_getD
theorem mg9{α:Type}{l:List α}{i:Nat}{a:α}(h:l[i]? = some a):a∈l:=_root_.List.mem_of_getElem? h
theorem ga9{w:World}: ∀(W:World) (o:Obj),Below w.heap.size w W→Below w.heap.size w (W.alloc o):=fun _ o h=>h.alloc h.size o
theorem gs9{w:World}: ∀W:World,Below w.heap.size w W→w.heap.size≤W.heap.size:=fun _ h=>h.size
theorem gi9{α:Type}{l:List α}{i:Nat}{a:α}: l[i]? = some a ↔ ∃h:i<l.length,l[i]=a:=_root_.List.getElem?_eq_some_iff
theorem lp9{α:Type}{n:Nat}{a:α}: (_root_.List.replicate n a).length=n:=_root_.List.length_replicate
theorem as9{α:Type}(a b c:List α):(a++b)++c=a++(b++c):=_root_.List.append_assoc a b c
theorem ar9{α:Type}{l m:List α}{i:Nat}(h:l.length≤i):(l++m)[i]? = m[i-l.length]?:=_root_.List.getElem?_append_right h
theorem ll9{α:Type}{l m:List α}{i:Nat}(h:i<l.length):(l++m)[i]? = l[i]?:=_root_.List.getElem?_append_left h
theorem la9{α:Type}{l m:List α}: (l++m).length=l.length+m.length:=_root_.List.length_append
def Rd(w:World)(A:Option Addr)(n:Nat)(xs:List Value):Prop :=
 xs.length=n∧(0<n→∃b off,A=some ⟨b,off,none⟩∧b<w.heap.size∧∀j u,xs[j]? = some u→w.cell? ⟨b,off+j,none⟩=some u)
def u8(c:UInt8):Value:=.int .u8 c.toNat
def u8s(l:List UInt8):List Value:=l.map u8
theorem zfb(l:List UInt8):(u8s l).length=l.length:=by simp[u8s]
theorem zbc(a b:List UInt8):u8s (a++b)=u8s a++u8s b:=by simp[u8s]
theorem u8s_getElem?(l:List UInt8)(k:Nat):(u8s l)[k]? = l[k]?.map u8:=by simp[u8s]
theorem Rd.len{w:World}{A:Option Addr}{n:Nat}{l:List UInt8}(h:Rd w A n (u8s l)):l.length=n:=by simpa[zfb] using h.1
theorem Rd.at_{w:World}{A:Option Addr}{n:Nat}{xs:List Value}(h:Rd w A n xs){k:Nat}(hk:k<n):
 ∃b off u,A=some ⟨b,off,none⟩∧b<w.heap.size∧Hid (xs[k]? = some u)∧w.cell? ⟨b,off+k,none⟩=some u:=by
 obtain⟨b,off,e,hb,hc⟩:=h.2 om;have hl:k<xs.length:=by have:=h.1;omega
 exact⟨b,off,_,e,hb,ge9 hl,hc k _ (ge9 hl)⟩
theorem Rd.u8{w:World}{A:Option Addr}{n:Nat}{l:List UInt8}(h:Rd w A n (u8s l)){k:Nat}(hk:k<n):
 ∃b off x,A=some ⟨b,off,none⟩∧b<w.heap.size∧Hid (l[k]? = some x)∧w.cell? ⟨b,off+k,none⟩=some (.int .u8 (x:UInt8).toNat):=by
 obtain⟨b,off,e,hb,hc⟩:=h.2 om;have hl:k<l.length:=by have:=h.len;omega
 exact⟨b,off,l[k],e,hb,ge9 hl,hc k _ (by rw[u8s_getElem?,ge9 hl];rfl)⟩
theorem Rd.keep{w w':World}{A:Option Addr}{n:Nat}{xs:List Value}(h:Rd w A n xs)(hs:w.heap.size≤w'.heap.size)(hk:∀p:Addr,p.block<w.heap.size→w'.cell? p=w.cell? p):Rd w' A n xs :=
 ⟨h.1,fun hn=>by
  obtain⟨b,off,e,hbl,hc⟩:=h.2 hn
  exact⟨b,off,e,Nat.lt_of_lt_of_le hbl hs,fun j u hu=>(hk ⟨b,off+j,none⟩ hbl).trans (hc j u hu)⟩⟩
theorem Rd.below{w w':World}{A:Option Addr}{n:Nat}{xs:List Value}(h:Rd w A n xs)(hb:Below w.heap.size w w'):Rd w' A n xs :=
 h.keep hb.size fun _ hp=>hb.cell hp
theorem Rd.drewN{w:World}{A:Option Addr}{n:Nat}{xs:List Value}(h:Rd w A n xs)(q:Nat):Rd (w.drewN q) A n xs:=h
theorem Rd.drew{w:World}{A:Option Addr}{n:Nat}{xs:List Value}(h:Rd w A n xs):Rd w.drew A n xs:=h
theorem Rd.alloc{w:World}{A:Option Addr}{n:Nat}{xs:List Value}(h:Rd w A n xs)(o:Obj):Rd (w.alloc o) A n xs :=
 h.keep sy fun p hp=>World.cell?_alloc_lt w o p hp
theorem Rd.nil(w:World)(A:Option Addr):Rd w A 0 []:=⟨rfl,fun h=>absurd h om⟩
theorem Rd.cut{w:World}{A A':Option Addr}{n:Nat}{xs:List Value}(h:Rd w A n xs){k m:Nat}(hm:m≤n)(hk:k≤m)
 (hA:k<m→∀b off,A=some ⟨b,off,none⟩→A'=some ⟨b,off+k,none⟩):Rd w A' (m-k) ((xs.take m).drop k):=by
 refine⟨by have:=h.1;simp;omega,fun hn=>?_⟩;obtain⟨b,off,e,hb,hc⟩:=h.2 om;refine⟨b,off+k,hA om b off e,hb,fun j u hu=>?_⟩;rw[List.getElem?_drop,List.getElem?_take]at hu
 split at hu
 · rw[Nat.add_assoc];exact hc _ u hu
 · cases hu
theorem Rd.of_own{w:World}{base n c:Nat}{e:TypeId}{A:Option Addr}{xs:List Value}(h:w.ownsRow base e 1 (.slice A n c) n xs):Rd w A n xs:=by
 refine⟨by simpa using h.1,fun hn=>?_⟩
 rcases h.2 with ⟨_,h0⟩|⟨g,cap,cur,hv,_,hg,hnc,_,hcs,htake⟩
 · omega
 · injection hv with hA
   subst hA;refine⟨g,0,rfl,(Array.getElem?_eq_some_iff.1 hg).1,fun j u hu=>?_⟩;rw[cell_of_row w g (0+j) cur e (0,0) hg,Nat.zero_add];rw[←htake,List.getElem?_take]at hu
   split at hu
   · simpa using hu
   · cases hu
def Blk(w:World)(g:Nat)(t:TypeId)(cs:List Value):Prop:=w.heap[g]? = some (.cells cs.toArray t (0,0))
section
variable{w w':World}{g:Nat}{t:TypeId}{cs:List Value}
theorem Blk.lt(h:Blk w g t cs):g<w.heap.size:=by
 rcases Nat.lt_or_ge g w.heap.size with hlt|hge
 · exact hlt
 · unfold Blk at h;rw[Array.getElem?_eq_none hge]at h;cases h
theorem Blk.cell(h:Blk w g t cs)(i:Nat):w.cell? ⟨g,i,none⟩=cs[i]?:=by rw[cell_of_row w g i cs.toArray t (0,0) h];simp
theorem Blk.frozen(h:Blk w g t cs)(i:Nat):w.frozen? ⟨g,i,none⟩=false:=by
 unfold Blk at h
 simp[World.frozen?,h]
theorem Blk.new(w:World)(t:TypeId)(cs:List Value):Blk (w.alloc (.cells cs.toArray t)) w.heap.size t cs:=heap_alloc_new w _
theorem Blk.new'{w:World}{t:TypeId}{cs:List Value}{A:Array Value}{g:Nat}(hg:g=w.heap.size)(hA:A=cs.toArray):Blk (w.alloc (.cells A t)) g t cs:=by subst hg;subst hA;exact heap_alloc_new w _
theorem Blk.drew(h:Blk w g t cs):Blk w.drew g t cs:=h
theorem Blk.drewN(h:Blk w g t cs)(n:Nat):Blk (w.drewN n) g t cs:=h
theorem Blk.alloc(h:Blk w g t cs)(o:Obj):Blk (w.alloc o) g t cs:=(Below.heap_alloc w o g h.lt).trans h
theorem Blk.far(h:Blk w g t cs){p:Addr}(hp:g≠p.block)(u:Value):Blk (w.setCell p u) g t cs:=(Below.heap_setCell w p u g hp).trans h
theorem Blk.below{B:Nat}(h:Blk w g t cs)(hb:Below B w w')(hg:g<B):Blk w' g t cs:=(hb.block g hg).trans h
theorem Blk.grown{row:Option Nat}(h:Blk w g t cs)(hb:w.grownBy w' row)(hg:some g≠row):Blk w' g t cs:=(hb.block g h.lt hg).trans h
theorem Blk.range(h:Blk w g t cs):w.rangeAt g 0 cs:=fun j v hv=>by rw[h.cell,Nat.zero_add];exact hv
theorem Blk.mid(h:Blk w g t cs)(o:Nat)(ds:List Value)(hd:∀j v,ds[j]? = some v→cs[o+j]? = some v):w.rangeAt g o ds:=fun j v hv=>by rw[h.cell];exact hd j v hv
theorem Blk.there(h:Blk w g t cs)(o n:Nat)(hn:o+n≤cs.length):w.there g o n:=fun j hj=>by
 rw[h.cell,h.frozen];exact⟨by simp;omega,rfl⟩
theorem Blk.rd(h:Blk w g t cs)(o n:Nat)(hn:o+n≤cs.length):Rd w (some ⟨g,o,none⟩) n ((cs.drop o).take n):=by
 refine⟨by simp;omega,fun _=>⟨g,o,rfl,h.lt,fun j u hu=>?_⟩⟩;rw[h.cell];rw[List.getElem?_take]at hu
 split at hu
 · simpa using hu
 · cases hu
end
theorem zeg{α:Type}(cs:List α)(o:Nat)(v:α)(r:List α)(h:o<cs.length):splice cs o (v :: r)=splice (cs.set o v) (o+1) r:=by
 unfold splice
 have e1:(cs.set o v).take (o+1)=cs.take o++[v]:=by
  rw[List.take_succ_eq_append_getElem (by simpa using h),List.take_set_of_le lr]
  simp
 rw[e1,List.drop_set_of_lt om]
 simp[Nat.add_assoc,Nat.add_comm 1]
theorem zfo(g:Nat)(t:TypeId):∀(vs:List Value) (o:Nat) (cs:List Value) (w:World),Blk w g t cs→o+vs.length≤cs.length →
 Blk (w.setCells g o vs) g t (splice cs o vs):=by
 intro vs
 induction vs with
 | nil=>intro o cs w h ho;simpa[World.setCells,splice] using h
 | cons v r ih =>
  intro o cs w h ho;rw[World.setCells];simp only[List.length_cons]at ho
  have h1:Blk (w.setCell ⟨g,o,none⟩ v) g t (cs.set o v):=by
   unfold Blk at h ⊢
   simp[World.setCell,Array.getElem?_modify,h]
  have:=ih (o+1) (cs.set o v) _ h1 (by simp;omega);rw[zeg cs o v r om];exact this
theorem ze9(g B:Nat)(w0:World):∀(vs:List Value) (o:Nat) (w:World),Below B w0 w→B≤g→Below B w0 (w.setCells g o vs):=by
 intro vs
 induction vs with
 | nil=>intro o w h _;exact h
 | cons v r ih=>intro o w h hg;rw[World.setCells];exact ih (o+1) _ (h.setCell (p:=⟨g,o,none⟩) hg v) hg
theorem zdl(g:Nat):∀(vs:List Value) (o:Nat) (w:World),(w.setCells g o vs).heap.size=w.heap.size:=by
 intro vs
 induction vs with
 | nil=>intro o w;rfl
 | cons v r ih=>intro o w;rw[World.setCells,ih];simp[World.setCell]
theorem ze8(g g':Nat)(hne:g'≠g):∀(vs:List Value) (o:Nat) (w:World),(w.setCells g o vs).heap[g']? = w.heap[g']?:=by
 intro vs
 induction vs with
 | nil=>intro o w;rfl
 | cons v r ih=>intro o w;rw[World.setCells,ih];exact Below.heap_setCell w ⟨g,o,none⟩ v g' hne
section
variable{P:Program}{w:World}{ops:Array Oper}{rest:List Oper}{o:Oper}{a:Act}{K:Act→World→Prop}{Q:Exit→Act→World→Prop}
structure Only(w w':World)(g:Nat):Prop where
 grown:w.grownBy w' (some g)
 size:w'.heap.size=w.heap.size
theorem Only.below{B g:Nat}{w0 w w':World}(h:Only w w' g)(hb:Below B w0 w)(hg:B≤g)(hB:B≤w.heap.size):Below B w0 w' :=
 hb.grown h.grown hB (fun k hk=>by injection hk with hk;omega)
theorem Only.blk{w w':World}{g g':Nat}{t:TypeId}{cs:List Value}(h:Only w w' g)(hb:Blk w g' t cs)(hne:g'≠g):Blk w' g' t cs :=
 hb.grown h.grown (fun e=>hne (by injection e))
theorem Only.rd{w w':World}{g n:Nat}{A:Option Addr}{xs:List Value}(h:Only w w' g)(hr:Rd w A n xs)(hne:∀ad,A=some ad→ad.block≠g):Rd w' A n xs :=
 ⟨hr.1,fun hn=>by
  obtain⟨b,off,e,hb,hc⟩:=hr.2 hn;refine⟨b,off,e,by rw[h.size];exact hb,fun j u hu=>?_⟩
  exact(World.cell?_of_block (a:=⟨b,off+j,none⟩) (h.grown.block b hb (fun e'=>hne _ e (by injection e')))).trans (hc j u hu)⟩
theorem Only.of_setCells(w:World)(g o:Nat)(vs:List Value):Only w (w.setCells g o vs) g :=
 have hb:=ze9 g w.heap.size w vs o w
 ⟨⟨by clear hb;revert o w;induction vs with
  | nil=>intros;rfl
  | cons v r ih=>intro w o;rw[World.setCells,ih];rfl,
  by clear hb;revert o w;induction vs with
   | nil=>intros;rfl
   | cons v r ih=>intro w o;rw[World.setCells,ih];rfl,
  by clear hb;revert o w;induction vs with
   | nil=>intros;rfl
   | cons v r ih=>intro w o;rw[World.setCells,ih];rfl,
  Nat.le_of_eq (zdl g vs o w).symm,fun k _ hne=>ze8 g k (fun e=>hne (by rw[e])) vs o w⟩,zdl g vs o w⟩
theorem zcj(hgd:o.guard=none)(h:∀K:Act→World→Prop,(∀a w,wpList P ops Q rest a w→K a w)→o.wp P a w K Q):wpList P ops Q (o :: rest) a w:=wpList_plain hgd h
theorem zoq{E:Prop}(hgd:o.guard=none)(h:o.wp P a w K Q):if Region.wanted o (yielded ops a.tmps)=true then Oper.wp P o a w K Q else E:=by
 rw[if_pos (by simp[Region.wanted,hgd])];exact h
theorem zbz{v:Value}{w':World}(hrun:(execOp a.eval o).run P w=.ok (.value v) w')(h:K (a.put o.dst v) w'):o.wp P a w K Q:=by
 unfold Oper.wp
 rw[hrun];exact h
theorem zgv(b:Builtin)(xs:Array Operand)(ts:Array TypeId)(ho:o.op=.call { callee:=.builtin b,args:=xs,argTypes:=ts }){args:Array Value}(he:xs.map a.eval=args){n:Next}{w':World}
 (hrun:∀cs,(builtin b ts o.type cs args).run P w=.ok n w'):(execOp a.eval o).run P w=.ok n w':=by
 unfold execOp
 simp only[ho,resolve,invoke,Sem.run_bind,Sem.run_pure,Result.andThen_ok,he,hrun]
theorem zdi(ty:TypeId)(x y:Operand)(ho:o.op=.store ty x y)(g off:Nat)(cs:List Value)(hx:a.eval x=.pointer (some ⟨g,off,none⟩))(hy:a.eval y=.agg cs.toArray)
 (t:TypeId) (cur:List Value) (hB:Blk w g t cur) (hi:(P.info? ty).map (·.size)=some cs.length) (h1:∀v∈cs,v.oneCell'=true) (hfit:off+cs.length≤cur.length)
 (h:∀w',Blk w' g t (splice cur off cs)→Only w w' g→K (a.put o.dst undef) w'):o.wp P a w K Q :=
 wp_store_mid ty x y ho g off cs.toArray hx hy (by simpa using hB.there off cs.length hfit) (by simpa using hi) (all_oneCell_toArray h1)
   (h _ (by simpa using zfo g t cs off cur w hB hfit) (by simpa using Only.of_setCells w g off cs))
theorem zae(hgd:o.guard=none)(ty:TypeId)(x y:Operand)(ho:o.op=.store ty x y)(g off:Nat)(cs:List Value)(hx:a.eval x=.pointer (some ⟨g,off,none⟩))(hy:a.eval y=.agg cs.toArray)
 (t:TypeId) (cur:List Value) (hB:Blk w g t cur) (hi:(P.info? ty).map (·.size)=some cs.length) (h1:∀v∈cs,v.oneCell'=true) (hfit:off+cs.length≤cur.length)
 (h:∀w',Blk w' g t (splice cur off cs)→Only w w' g→wpList P ops Q rest (a.put o.dst undef) w'):wpList P ops Q (o :: rest) a w :=
 zcj hgd fun _ hK=>zdi ty x y ho g off cs hx hy t cur hB hi h1 hfit fun w' hb hg=>hK _ _ (h w' hb hg)
end
theorem zmm{P:Program}{w:World}{fn:Func}{p:Tmp}{ty:TypeId}(h:fn.results=#[.cell p ty])(tmps:Array Value)(g:Nat)(t:TypeId)(cs:List Value)(hp:tmps.getD p undef=.pointer (some ⟨g,0,none⟩))
 (hB:Blk w g t cs) (d:TypeDesc) (hu:P.underlying ty=some d) (hd:d.isRow=true) (hi:(P.info? ty).map (·.size)=some cs.length):
 (results fn tmps).run P w=.ok (.agg cs.toArray) w:=by
 have hp':tmps[p]?.getD undef=.pointer (some ⟨g,0,none⟩):=by rw[←hp];simp
 simp[results,h,hp',asAddr,run_loadVar_mid w g 0 ty cs d hB.range hu hd hi]
theorem zbl{α:Type}(Z cs:List α)(h:cs.length=Z.length):splice Z 0 cs=cs:=by
 unfold splice
 rw[List.drop_eq_nil_of_le om]
 simp
def RdS(sz:Nat)(w:World)(A:Option Addr)(n:Nat)(xs:List Value):Prop :=
 xs.length=n*sz∧(0<n→∃b off,A=some ⟨b,off,none⟩∧b<w.heap.size∧∀j u,xs[j]? = some u→w.cell? ⟨b,off+j,none⟩=some u)
theorem Rd.toS{w:World}{A:Option Addr}{n:Nat}{xs:List Value}(h:Rd w A n xs):RdS 1 w A n xs:=⟨by simpa using h.1,h.2⟩
theorem RdS.to1{w:World}{A:Option Addr}{n:Nat}{xs:List Value}(h:RdS 1 w A n xs):Rd w A n xs:=⟨by simpa using h.1,h.2⟩
section
variable{P:Program}{w:World}{ops:Array Oper}{rest:List Oper}{o:Oper}{a:Act}{K:Act→World→Prop}{Q:Exit→Act→World→Prop}
theorem zg6(base:Nat)(t ty e:TypeId)(i:TypeInfo)(size:Nat)(ht:P.underlying t=some (.slice e))(hi:P.info? e=some i)
 (v:Value) (n:Nat) (xs:List Value) (hown:w.ownsRow base e size v n xs) (c:Nat):(Builtin.append_ #[t,t] ty #[v,.slice none 0 c]).run P w=.ok v w:=by
 rcases hown.2 with ⟨rfl,rfl⟩|⟨g,cap,cur,rfl,_,_,hnc,_⟩
 · simp[Builtin.append_,run_underlying ht,sizeOf,typeInfo,hi,Builtin.lenOf,Builtin.firstCells]
 · simp[Builtin.append_,run_underlying ht,sizeOf,typeInfo,hi,Builtin.lenOf,Builtin.firstCells,hnc,storeCells]
structure ElemIs(P:Program)(e:TypeId)(size bytes:Nat):Prop where
 ex:∃i z,P.info? e=some i∧i.zero=some z∧i.size=size∧i.bytes=bytes∧z.cells.size=size
 pos:0<size
theorem ElemIs.of{P:Program}{e:TypeId}{z:Value}{size bytes:Nat}(h:(P.info? e).map (fun i=>(i.zero,i.size,i.bytes))=some (some z,size,bytes))(hz:z.cells.size=size)(hp:0<size):ElemIs P e size bytes:=by
 cases hq:P.info? e with
 | none=>simp[hq]at h
 | some i =>
  simp[hq]at h
  exact⟨⟨i,z,hq,h.1,h.2.1,h.2.2,hz⟩,hp⟩
theorem zow(base:Nat)(t ty e:TypeId)(size bytes:Nat)(ht:P.underlying t=some (.slice e))(he:ElemIs P e size bytes)
 (v:Value) (n:Nat) (xs:List Value) (hown:w.ownsRow base e size v n xs)
 (A:Option Addr) (m c:Nat) (news:List Value) (hr:RdS size w A m news) (h1:∀u∈news,u.oneCell'=true)
 (h63:n+m≤maxLen) (hbytes:(n+m)*bytes≤140737488355328) (hbase:base≤w.heap.size):
 ∃v' w',(Builtin.append_ #[t,t] ty #[v,.slice A m c]).run P w=.ok v' w'∧w'.ownsRow base e size v' (n+m) (xs++news)∧w.grownBy w' v.ownBlock ∧
   (v'.ownBlock=v.ownBlock∨v'.ownBlock=some w.heap.size):=by
 obtain⟨⟨i,z,hi,hz,hsize,hby,hzs⟩,hsz⟩:=he
 rcases A with _|ad
 · have hm:m=0:=by
    rcases Nat.eq_zero_or_pos m with h0|h0
    · exact h0
    · obtain⟨b,off,h,_⟩:=hr.2 h0
      cases h
   subst hm;have hn:news=[]:=List.eq_nil_of_length_eq_zero (by simpa using hr.1);subst hn;exact⟨v,w,zg6 base t ty e i size ht hi v n xs hown c,by simpa using hown,World.grownBy.refl w _,.inl rfl⟩
 · have hcells:∀j u,news[j]? = some u→w.cell? (ad.add j)=some u:=by
    intro j u hu
    rcases Nat.eq_zero_or_pos m with h0|h0
    · subst h0
      have hn:news=[]:=List.eq_nil_of_length_eq_zero (by simpa using hr.1);subst hn
      simp at hu
    · obtain⟨b,off,h,_,hc⟩:=hr.2 h0
      injection h with h
      subst h;rw[Addr.add_mid];exact hc j u hu
   obtain⟨v',w',hrun,h2,h3,_,h5⟩:=run_append_own_at (P:=P) w base t ty e i z size bytes ht hi hz hsize hby hzs hsz v n xs hown ad m c news hr.1 hcells h1 h63 hbytes hbase;exact⟨v',w',hrun,h2,h3,h5⟩
theorem zc5{w:World}{base n:Nat}{e:TypeId}{size:Nat}{v:Value}{xs:List Value}(h:w.ownsRow base e size v n xs):∃A c,v=.slice A n c∧n≤c:=by
 rcases h.2 with ⟨rfl,rfl⟩|⟨g,cap,cur,rfl,_,_,hnc,_⟩
 · exact⟨_,_,rfl,lr⟩
 · exact⟨_,_,rfl,hnc⟩
theorem zci(s x:Operand)(t:TypeId)(ho:o.op=.call { callee:=.builtin .append,args:=#[s,x],argTypes:=#[t,t] })
 (base:Nat) (e:TypeId) (size bytes:Nat) (ht:P.underlying t=some (.slice e)) (he:ElemIs P e size bytes)
 (v:Value) (n:Nat) (xs:List Value) (hs:a.eval s=v) (hown:w.ownsRow base e size v n xs)
 (A:Option Addr) (m c:Nat) (news:List Value) (hx:a.eval x=.slice A m c) (hr:RdS size w A m news) (h1:∀u∈news,u.oneCell'=true)
 (hbytes:n*bytes+m*bytes≤140737488355328) (h63:n+m≤140737488355328) (hbase:base≤w.heap.size)
 (h:∀A' c' w',w'.ownsRow base e size (.slice A' (n+m) c') (n+m) (xs++news)→n+m≤c'→w.grownBy w' v.ownBlock→(Value.ownBlock (.slice A' (n+m) c')=v.ownBlock∨Value.ownBlock (.slice A' (n+m) c')=some w.heap.size)→K (a.put o.dst (.slice A' (n+m) c')) w'):o.wp P a w K Q:=by
 obtain⟨v',w',hrun,h2,h3,h4⟩:=zow (P:=P) base t o.type e size bytes ht he v n xs hown A m c news hr h1 (by simp only[maxLen];omega) (by rw[Nat.add_mul];exact hbytes) hbase;have hev : #[s,x].map a.eval=#[v,.slice A m c]:=by simp[hs,hx]
 obtain⟨A',c',rfl,hc⟩:=zc5 h2;refine zbz (zgv .append #[s,x] #[t,t] ho hev fun cs=>?_) (h A' c' w' h2 hc h3 h4);simp only[builtin,Sem.run_bind,hrun,Sem.run_pure,Result.andThen_ok]
theorem zas(hgd:o.guard=none)(s x:Operand)(t:TypeId)(ho:o.op=.call { callee:=.builtin .append,args:=#[s,x],argTypes:=#[t,t] })
 (base:Nat) (e:TypeId) (size bytes:Nat) (ht:P.underlying t=some (.slice e)) (he:ElemIs P e size bytes)
 (v:Value) (n:Nat) (xs:List Value) (hs:a.eval s=v) (hown:w.ownsRow base e size v n xs)
 (A:Option Addr) (m c:Nat) (news:List Value) (hx:a.eval x=.slice A m c) (hr:RdS size w A m news) (h1:∀u∈news,u.oneCell'=true)
 (hbytes:n*bytes+m*bytes≤140737488355328) (h63:n+m≤140737488355328) (hbase:base≤w.heap.size)
 (h:∀A' c' w',w'.ownsRow base e size (.slice A' (n+m) c') (n+m) (xs++news)→n+m≤c'→w.grownBy w' v.ownBlock→(Value.ownBlock (.slice A' (n+m) c')=v.ownBlock∨Value.ownBlock (.slice A' (n+m) c')=some w.heap.size)→wpList P ops Q rest (a.put o.dst (.slice A' (n+m) c')) w'):wpList P ops Q (o :: rest) a w :=
 zcj hgd fun _ hK=>zci s x t ho base e size bytes ht he v n xs hs hown A m c news hx hr h1 hbytes h63 hbase fun A' c' w' h2 hc h3 h4=>hK _ _ (h A' c' w' h2 hc h3 h4)
theorem zfl{F:Prop}(hgd:o.guard=none)(s x:Operand)(t:TypeId)(ho:o.op=.call { callee:=.builtin .append,args:=#[s,x],argTypes:=#[t,t] })
 (base:Nat) (e:TypeId) (size bytes:Nat) (ht:P.underlying t=some (.slice e)) (he:ElemIs P e size bytes)
 (v:Value) (n:Nat) (xs:List Value) (hs:a.eval s=v) (hown:w.ownsRow base e size v n xs)
 (A:Option Addr) (m c:Nat) (news:List Value) (hx:a.eval x=.slice A m c) (hr:RdS size w A m news) (h1:∀u∈news,u.oneCell'=true)
 (hbytes:n*bytes+m*bytes≤140737488355328) (h63:n+m≤140737488355328) (hbase:base≤w.heap.size)
 (h:∀A' c' w',w'.ownsRow base e size (.slice A' (n+m) c') (n+m) (xs++news)→n+m≤c'→w.grownBy w' v.ownBlock→(Value.ownBlock (.slice A' (n+m) c')=v.ownBlock∨Value.ownBlock (.slice A' (n+m) c')=some w.heap.size)→K (a.put o.dst (.slice A' (n+m) c')) w'):if Region.wanted o (yielded ops a.tmps)=true then Oper.wp P o a w K Q else F :=
 zoq hgd (zci s x t ho base e size bytes ht he v n xs hs hown A m c news hx hr h1 hbytes h63 hbase h)
end
theorem RdS.new(w:World)(t:TypeId)(cs:List Value)(sz:Nat)(h:cs.length=sz):RdS sz (w.alloc (.cells cs.toArray t)) (some ⟨w.heap.size,0,none⟩) 1 cs :=
 ⟨by simpa using h,fun _=>⟨w.heap.size,0,rfl,by simp,fun j u hu=>by rw[(Blk.new w t cs).cell,Nat.zero_add];exact hu⟩⟩
theorem zbu{w:World}{g base:Nat}{e:TypeId}{cs:List Value}(h:Blk w g e cs)(hb:base≤g)(n cap size:Nat)(hn:n≤cap)(hc:cs.length=cap*size)(hm:cap≤140737488355328):
 w.ownsRow base e size (.slice (some ⟨g,0,none⟩) n cap) n (cs.take (n*size)) :=
 ⟨by rw[List.length_take,hc];exact Nat.min_eq_left (Nat.mul_le_mul_right _ hn),.inr ⟨g,cap,cs.toArray,rfl,hb,h,hn,by simp only[maxLen];omega,by simpa using hc,by simp⟩⟩
section
variable{P:Program}{w:World}{ops:Array Oper}{rest:List Oper}{o:Oper}{a:Act}{K:Act→World→Prop}{Q:Exit→Act→World→Prop}
end
def SlB(w:World)(v:Value)(l:List UInt8):Prop:=∃A n c,v=.slice A n c∧n≤c∧Rd w A n (u8s l)
def RdB(w:World)(A:Option Addr)(n:Nat)(ls:List (List UInt8)):Prop :=
 ∃vs:List Value,Rd w A n vs∧ls.length=n∧∀(i:Nat) (v:Value),vs[i]? = some v→∃l,ls[i]? = some l∧SlB w v l
theorem SlB.below{w w':World}{v:Value}{l:List UInt8}(h:SlB w v l)(hb:Below w.heap.size w w'):SlB w' v l:=by
 obtain⟨A,n,c,e,hn,hr⟩:=h;exact⟨A,n,c,e,hn,hr.below hb⟩
theorem RdB.below{w w':World}{A:Option Addr}{n:Nat}{ls:List (List UInt8)}(h:RdB w A n ls)(hb:Below w.heap.size w w'):RdB w' A n ls:=by
 obtain⟨vs,hr,hl,hv⟩:=h;exact⟨vs,hr.below hb,hl,fun i v hi=>let ⟨l,h1,h2⟩:=hv i v hi;⟨l,h1,h2.below hb⟩⟩
theorem RdB.at_{w:World}{A:Option Addr}{n:Nat}{ls:List (List UInt8)}(h:RdB w A n ls){k:Nat}(hk:k<n):
 ∃b off A1 n1 c1 l,A=some ⟨b,off,none⟩∧b<w.heap.size∧Hid (ls[k]? = some l)∧w.cell? ⟨b,off+k,none⟩=some (.slice A1 n1 c1)∧n1≤c1∧Rd w A1 n1 (u8s l):=by
 obtain⟨vs,hr,hl,hv⟩:=h;obtain⟨b,off,u,rfl,hb,hu,hc⟩:=hr.at_ hk;obtain⟨l,h1,A1,n1,c1,rfl,h2,h3⟩:=hv k u hu.out;exact⟨b,off,A1,n1,c1,l,rfl,hb,h1,hc,h2,h3⟩
def SlBs(w:World):List Value→List (List UInt8)→Prop
 | [],[]=>True
 | v :: vs,l :: ls=>SlB w v l∧SlBs w vs ls
 | _,_=>False
theorem SlBs.get{w:World}: ∀ {vs:List Value} {ls:List (List UInt8)},SlBs w vs ls→ls.length=vs.length∧∀(i:Nat) (v:Value),vs[i]? = some v→∃l,ls[i]? = some l∧SlB w v l
 | [],[],_=>⟨rfl,fun i v h=>by simp at h⟩
 | v :: vs,l :: ls,h=>by
  obtain⟨h1,h2⟩:=h;obtain⟨h3,h4⟩:=SlBs.get h2;refine⟨by simp[h3],fun i u hu=>?_⟩
  cases i with
  | zero=>simp at hu;subst hu;exact⟨l,rfl,h1⟩
  | succ i=>simp at hu;simpa using h4 i u hu
 | [],_ :: _,h=>h.elim
 | _ :: _,[],h=>h.elim
theorem RdB.of_blk{w:World}{g:Nat}{t:TypeId}{vs:List Value}{ls:List (List UInt8)}(h:Blk w g t vs)(hs:SlBs w vs ls):RdB w (some ⟨g,0,none⟩) vs.length ls:=by
 obtain⟨h1,h2⟩:=hs.get;refine⟨vs,?_,h1,h2⟩;have:=h.rd 0 vs.length om
 simpa using this
theorem SlB.of_blk{w:World}{g:Nat}{t:TypeId}{cs:List Value}(h:Blk w g t cs)(o n c:Nat)(l:List UInt8)(hn:o+n≤cs.length)(hc:n≤c)(hl:(cs.drop o).take n=u8s l):SlB w (.slice (some ⟨g,o,none⟩) n c) l :=
 ⟨_,_,_,rfl,hc,hl ▸ h.rd o n hn⟩
theorem znb{w:World}{base base' n:Nat}{e:TypeId}{size:Nat}{v:Value}{xs:List Value}(h:w.ownsRow base e size v n xs)(hb:base'≤base):w.ownsRow base' e size v n xs:=by
 obtain⟨h1,h2⟩:=h;refine⟨h1,?_⟩
 rcases h2 with h2|⟨g,cap,cur,hv,hg,r⟩
 · exact .inl h2
 · exact .inr ⟨g,cap,cur,hv,Nat.le_trans hb hg,r⟩
theorem zd2(off:Nat):∀(cs:List Value) (k:Nat) (A:List Value),off+k+cs.length≤A.length →
 (cs.zipIdx k).foldl (fun(B:Array Value) (p:Value × Nat)=>B.setIfInBounds (off+p.2) p.1) A.toArray=(splice A (off+k) cs).toArray
 | [],k,A,_=>by simp[splice]
 | c :: cs,k,A,h=>by
  simp only[List.length_cons]at h;rw[List.zipIdx_cons,List.foldl_cons,zeg A (off+k) c cs om,List.setIfInBounds_toArray,zd2 off cs (k+1) (A.set (off+k) c) (by simp;omega)]
  rfl
theorem zew{place:Nat→Option (Nat × Nat)}{Z:List Value}{i off:Nat}{v:Value}{cs:List Value}{rest:List (Nat × Value)}(hv:v.cells=cs.toArray)(hp:place i=some (off,cs.length))(hfit:off+cs.length≤Z.length):
 Instr.fill place Z.toArray ((i,v) :: rest)=Instr.fill place (splice Z off cs).toArray rest:=by
 have h:=zd2 off cs 0 Z om;simp only[Nat.add_zero]at h;rw[Instr.fill];simp only[hp,hv,List.size_toArray];rw[if_neg (by simp;omega)]
 congr 1
 rw[←h,←Array.foldl_toList]
 simp
section
variable{P:Program}{w:World}{ops:Array Oper}{rest:List Oper}{o:Oper}{a:Act}{K:Act→World→Prop}{Q:Exit→Act→World→Prop}
theorem zlm(t:TypeId)(parts:List (Nat × Operand))(ho:o.op=.build t parts.toArray)(parts':List (Nat × Value))(he:parts.map (fun p=>(p.1,a.eval p.2))=parts')(v:Value)(hrun:(Instr.build t parts'.toArray).run P w=.ok v w)(h:K (a.put o.dst v) w):o.wp P a w K Q:=by
 refine zbz (v:=v) ?_ h
 unfold execOp
 simp only[ho,Sem.run_bind,List.map_toArray,he,hrun,Sem.run_pure,Result.andThen_ok]
theorem zao(hgd:o.guard=none)(t:TypeId)(parts:List (Nat × Operand))(ho:o.op=.build t parts.toArray)(parts':List (Nat × Value))(he:parts.map (fun p=>(p.1,a.eval p.2))=parts')(v:Value)(hrun:(Instr.build t parts'.toArray).run P w=.ok v w)(h:wpList P ops Q rest (a.put o.dst v) w):wpList P ops Q (o :: rest) a w :=
 zcj hgd fun _ hK=>zlm t parts ho parts' he v hrun (hK _ _ h)
theorem zaa(hgd:o.guard=none)(ty:TypeId)(x y:Operand)(ho:o.op=.store ty x y)(g:Nat)(cs:List Value)(hx:a.eval x=.pointer (some ⟨g,0,none⟩))(hy:a.eval y=.agg cs.toArray)
 (t:TypeId) (cur:List Value) (hB:Blk w g t cur) (hi:(P.info? ty).map (·.size)=some cs.length) (h1:∀v∈cs,v.oneCell'=true) (hfit:cs.length=cur.length)
 (h:∀w',Blk w' g t cs→Only w w' g→wpList P ops Q rest (a.put o.dst undef) w'):wpList P ops Q (o :: rest) a w :=
 zae hgd ty x y ho g 0 cs hx hy t cur hB hi h1 om fun w' hb hg=>h w' (by rwa [zbl _ _ hfit]at hb) hg
end
theorem zio{α:Type}(Z X1 X2:List α)(k:Nat)(hk:X1.length=k)(hZ:Z.length=k+X2.length):splice (splice Z 0 X1) k X2=X1++X2:=by
 subst hk;have e1:splice Z 0 X1=X1++Z.drop X1.length:=by simp[splice]
 rw[e1]
 unfold splice
 rw[List.take_left,List.drop_eq_nil_of_le (by simp;omega),List.append_nil]
theorem qbl{w w':World}{g:Nat}{t:TypeId}{cs:List Value}(h:Hid (Blk w g t cs))(hb:Below w.heap.size w w'):Hid (Blk w' g t cs):=qh (h.out.below hb h.out.lt)
theorem qtr{w w1 w2:World}(h:Hid (Below w.heap.size w w1))(hb:Below w1.heap.size w1 w2):Hid (Below w.heap.size w w2):=qh (h.out.trans (hb.mono h.out.size))
theorem qal{w w':World}{o:Obj}{g g':Nat}{t:TypeId}{cs:List Value}(h:Only (w.alloc o) w' g)(hb:Hid (Blk w g' t cs))(hne:g'≠g):Hid (Blk w' g' t cs):=qh (h.blk (hb.out.alloc o) hne)
theorem qon{w w':World}{g g':Nat}{t:TypeId}{cs:List Value}(h:Only w w' g)(hb:Hid (Blk w g' t cs))(hne:Hid (g'≠g)):Hid (Blk w' g' t cs):=qh (h.blk hb.out hne.out)
end
section
open Go.ChangeShapes Go.WideShapes Go.ChangeAt Go.RowKit
open Go.ChangeMaps (open_string shut_string)
theorem own:ownKnob Tryz.prog.godebug=none:=by kernel_rfl
theorem laidOut:laidOutB Tryz.prog = true:=by kernel_rfl
end
end Go.Proofs.YtafjkbbiaopemaaGreatDoor
