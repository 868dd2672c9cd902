/- Part of the proof. -/
import Derived.Test.YtadopcjppijgiaaGreatChecked
import Derived.WalkKit
import Derived.WalkSpells
import Derived.WalkLawsBesides
import Derived.BigQuiet
import Derived.Deep.QuietTactic
import Derived.Lib.Hide
import Derived.Maps.AppendAt
import Derived.Deep.AppendLies
import Derived.Deep.Draws
import Derived.Deep.RegionHeld3
import Derived.Laws.OwnMore
import Derived.Laws.CopyOwn
import Derived.Laws.ResultCell
import Derived.Test.YtadopcjppijgiaaGreatRows
import Derived.ProofKit
import Derived.OpenShut
import Derived.ShutString
import Derived.ChangeOld
import Derived.SizedLaws
set_option linter.all false
set_option maxRecDepth 100000
set_option maxHeartbeats 0
namespace Go.Proofs.YtadopcjppijgiaaGreat
open Go.RowKit
section
def Hid(p:Prop):Prop:=p
theorem qh{p:Prop}(h:p):Hid p:=h
theorem Hid.o{p:Prop}(h:Hid p):p:=h
theorem Hid.out{p:Prop}(h:Hid p):p:=h
theorem kr{p:Prop}(h:p:=by kernel_rfl):p:=h
theorem rr{p:Prop}(h:p:=by rfl):p:=h
theorem om{p:Prop}(h:p:=by omega):p:=h
theorem sy{p:Prop}(h:p:=by simp):p:=h
theorem lr{n:Nat}: n≤n:=Nat.le_refl n
theorem tk{α:Type}{i:Nat}{l:List α}(h:l.length≤i):l.take i=l:=_root_.List.take_of_length_le h
theorem ge9{α:Type}{l:List α}{i:Nat}(h:i<l.length):l[i]? = some (l[i]):=_root_.List.getElem?_eq_getElem h
theorem ex9{α:Type}(a:α):∃x,x=a:=⟨a,rfl⟩
theorem gd9{α:Type}{l:List α}{i:Nat}{a:α}: l.getD i a=l[i]?.getD a:=_root_.List.getD_eq_getElem?_getD
theorem mg9{α:Type}{l:List α}{i:Nat}{a:α}(h:l[i]? = some a):a∈l:=_root_.List.mem_of_getElem? h
theorem ga9{w:World}: ∀(W:World) (o:Obj),Below w.heap.size w W→Below w.heap.size w (W.alloc o):=fun _ o h=>h.alloc h.size o
theorem gs9{w:World}: ∀W:World,Below w.heap.size w W→w.heap.size≤W.heap.size:=fun _ h=>h.size
theorem gi9{α:Type}{l:List α}{i:Nat}{a:α}: l[i]? = some a ↔ ∃h:i<l.length,l[i]=a:=_root_.List.getElem?_eq_some_iff
theorem lp9{α:Type}{n:Nat}{a:α}: (_root_.List.replicate n a).length=n:=_root_.List.length_replicate
theorem as9{α:Type}(a b c:List α):(a++b)++c=a++(b++c):=_root_.List.append_assoc a b c
theorem ar9{α:Type}{l m:List α}{i:Nat}(h:l.length≤i):(l++m)[i]? = m[i-l.length]?:=_root_.List.getElem?_append_right h
theorem ll9{α:Type}{l m:List α}{i:Nat}(h:i<l.length):(l++m)[i]? = l[i]?:=_root_.List.getElem?_append_left h
theorem la9{α:Type}{l m:List α}: (l++m).length=l.length+m.length:=_root_.List.length_append
def Rd(w:World)(A:Option Addr)(n:Nat)(xs:List Value):Prop :=
 xs.length=n∧(0<n→∃b off,A=some ⟨b,off,none⟩∧b<w.heap.size∧∀j u,xs[j]? = some u→w.cell? ⟨b,off+j,none⟩=some u)
def u8(c:UInt8):Value:=.int .u8 c.toNat
def u8s(l:List UInt8):List Value:=l.map u8
theorem zaa(l:List UInt8):(u8s l).length=l.length:=by simp[u8s]
theorem zae(a b:List UInt8):u8s (a++b)=u8s a++u8s b:=by simp[u8s]
theorem zay(a:List UInt8)(n:Nat):(u8s a).take n=u8s (a.take n):=by simp[u8s,List.map_take]
theorem za9(a:List UInt8)(n:Nat):(u8s a).drop n=u8s (a.drop n):=by simp[u8s,List.map_drop]
theorem zac(l:List UInt8):∀v∈u8s l,v.oneCell'=true:=by
 intro v hv;obtain⟨c,_,rfl⟩:=List.mem_map.1 hv
 rfl
theorem u8s_getElem?(l:List UInt8)(k:Nat):(u8s l)[k]? = l[k]?.map u8:=by simp[u8s]
theorem Rd.len{w:World}{A:Option Addr}{n:Nat}{l:List UInt8}(h:Rd w A n (u8s l)):l.length=n:=by simpa[zaa] using h.1
theorem Rd.at_{w:World}{A:Option Addr}{n:Nat}{xs:List Value}(h:Rd w A n xs){k:Nat}(hk:k<n):
 ∃b r u,A=some ⟨b,r,none⟩∧b<w.heap.size∧Hid (xs[k]? = some u)∧w.cell? ⟨b,r+k,none⟩=some u:=by
 obtain⟨b,r,e,hb,hc⟩:=h.2 om;have hl:k<xs.length:=by have:=h.1;omega
 exact⟨b,r,_,e,hb,ge9 hl,hc k _ (ge9 hl)⟩
theorem Rd.u8{w:World}{A:Option Addr}{n:Nat}{l:List UInt8}(h:Rd w A n (u8s l)){k:Nat}(hk:k<n):
 ∃b r x,A=some ⟨b,r,none⟩∧b<w.heap.size∧Hid (l[k]? = some x)∧w.cell? ⟨b,r+k,none⟩=some (.int .u8 (x:UInt8).toNat):=by
 obtain⟨b,r,e,hb,hc⟩:=h.2 om;have hl:k<l.length:=by have:=h.len;omega
 exact⟨b,r,l[k],e,hb,ge9 hl,hc k _ (by rw[u8s_getElem?,ge9 hl];rfl)⟩
theorem Rd.keep{w w':World}{A:Option Addr}{n:Nat}{xs:List Value}(h:Rd w A n xs)(hs:w.heap.size≤w'.heap.size)(hk:∀p:Addr,p.block<w.heap.size→w'.cell? p=w.cell? p):Rd w' A n xs :=
 ⟨h.1,fun hn=>by
  obtain⟨b,D,e,r,hc⟩:=h.2 hn
  exact⟨b,D,e,Nat.lt_of_lt_of_le r hs,fun j u hu=>(hk ⟨b,D+j,none⟩ r).trans (hc j u hu)⟩⟩
theorem Rd.below{w w':World}{A:Option Addr}{n:Nat}{xs:List Value}(h:Rd w A n xs)(hb:Below w.heap.size w w'):Rd w' A n xs :=
 h.keep hb.size fun _ hp=>hb.cell hp
theorem Rd.drewN{w:World}{A:Option Addr}{n:Nat}{xs:List Value}(h:Rd w A n xs)(q:Nat):Rd (w.drewN q) A n xs:=h
theorem Rd.drew{w:World}{A:Option Addr}{n:Nat}{xs:List Value}(h:Rd w A n xs):Rd w.drew A n xs:=h
theorem Rd.alloc{w:World}{A:Option Addr}{n:Nat}{xs:List Value}(h:Rd w A n xs)(o:Obj):Rd (w.alloc o) A n xs :=
 h.keep sy fun p hp=>World.cell?_alloc_lt w o p hp
theorem Rd.nil(w:World)(A:Option Addr):Rd w A 0 []:=⟨rfl,fun h=>absurd h om⟩
theorem Rd.cut{w:World}{A A':Option Addr}{n:Nat}{xs:List Value}(h:Rd w A n xs){k m:Nat}(hm:m≤n)(hk:k≤m)
 (hA:k<m→∀b r,A=some ⟨b,r,none⟩→A'=some ⟨b,r+k,none⟩):Rd w A' (m-k) ((xs.take m).drop k):=by
 refine⟨by have:=h.1;simp;omega,fun hn=>?_⟩;obtain⟨b,r,e,hb,hc⟩:=h.2 om;refine⟨b,r+k,hA om b r e,hb,fun j u hu=>?_⟩;rw[List.getElem?_drop,List.getElem?_take]at hu
 split at hu
 · rw[Nat.add_assoc];exact hc _ u hu
 · cases hu
theorem Rd.of_own{w:World}{base n c:Nat}{e:TypeId}{A:Option Addr}{xs:List Value}(h:w.ownsRow base e 1 (.slice A n c) n xs):Rd w A n xs:=by
 refine⟨by simpa using h.1,fun hn=>?_⟩
 rcases h.2 with ⟨_,h0⟩|⟨g,G,D,hv,_,hg,E,_,I,r⟩
 · omega
 · injection hv with hA
   subst hA;refine⟨g,0,rfl,(Array.getElem?_eq_some_iff.1 hg).1,fun j u hu=>?_⟩;rw[cell_of_row w g (0+j) D e (0,0) hg,Nat.zero_add];rw[←r,List.getElem?_take]at hu
   split at hu
   · simpa using hu
   · cases hu
def Blk(w:World)(g:Nat)(t:TypeId)(cs:List Value):Prop:=w.heap[g]? = some (.cells cs.toArray t (0,0))
section
variable{w w':World}{g:Nat}{t:TypeId}{cs:List Value}
theorem Blk.lt(h:Blk w g t cs):g<w.heap.size:=by
 rcases Nat.lt_or_ge g w.heap.size with A|r
 · exact A
 · unfold Blk at h;rw[Array.getElem?_eq_none r]at h;cases h
theorem Blk.cell(h:Blk w g t cs)(i:Nat):w.cell? ⟨g,i,none⟩=cs[i]?:=by rw[cell_of_row w g i cs.toArray t (0,0) h];simp
theorem Blk.frozen(h:Blk w g t cs)(i:Nat):w.frozen? ⟨g,i,none⟩=false:=by
 unfold Blk at h
 simp[World.frozen?,h]
theorem Blk.new(w:World)(t:TypeId)(cs:List Value):Blk (w.alloc (.cells cs.toArray t)) w.heap.size t cs:=heap_alloc_new w _
theorem Blk.new'{w:World}{t:TypeId}{cs:List Value}{A:Array Value}{g:Nat}(hg:g=w.heap.size)(hA:A=cs.toArray):Blk (w.alloc (.cells A t)) g t cs:=by subst hg;subst hA;exact heap_alloc_new w _
theorem Blk.drew(h:Blk w g t cs):Blk w.drew g t cs:=h
theorem Blk.drewN(h:Blk w g t cs)(n:Nat):Blk (w.drewN n) g t cs:=h
theorem Blk.alloc(h:Blk w g t cs)(o:Obj):Blk (w.alloc o) g t cs:=(Below.heap_alloc w o g h.lt).trans h
theorem Blk.far(h:Blk w g t cs){p:Addr}(hp:g≠p.block)(u:Value):Blk (w.setCell p u) g t cs:=(Below.heap_setCell w p u g hp).trans h
theorem Blk.below{B:Nat}(h:Blk w g t cs)(hb:Below B w w')(hg:g<B):Blk w' g t cs:=(hb.block g hg).trans h
theorem Blk.grown{row:Option Nat}(h:Blk w g t cs)(hb:w.grownBy w' row)(hg:some g≠row):Blk w' g t cs:=(hb.block g h.lt hg).trans h
theorem Blk.range(h:Blk w g t cs):w.rangeAt g 0 cs:=fun j v hv=>by rw[h.cell,Nat.zero_add];exact hv
theorem Blk.mid(h:Blk w g t cs)(o:Nat)(ds:List Value)(hd:∀j v,ds[j]? = some v→cs[o+j]? = some v):w.rangeAt g o ds:=fun j v hv=>by rw[h.cell];exact hd j v hv
theorem Blk.there(h:Blk w g t cs)(o n:Nat)(hn:o+n≤cs.length):w.there g o n:=fun j hj=>by
 rw[h.cell,h.frozen];exact⟨by simp;omega,rfl⟩
theorem Blk.rd(h:Blk w g t cs)(o n:Nat)(hn:o+n≤cs.length):Rd w (some ⟨g,o,none⟩) n ((cs.drop o).take n):=by
 refine⟨by simp;omega,fun _=>⟨g,o,rfl,h.lt,fun j u hu=>?_⟩⟩;rw[h.cell];rw[List.getElem?_take]at hu
 split at hu
 · simpa using hu
 · cases hu
end
theorem zg4{α:Type}(cs:List α)(o:Nat)(v:α)(r:List α)(h:o<cs.length):splice cs o (v :: r)=splice (cs.set o v) (o+1) r:=by
 unfold splice
 have e1:(cs.set o v).take (o+1)=cs.take o++[v]:=by
  rw[List.take_succ_eq_append_getElem (by simpa using h),List.take_set_of_le lr]
  simp
 rw[e1,List.drop_set_of_lt om]
 simp[Nat.add_assoc,Nat.add_comm 1]
theorem za2(g:Nat)(t:TypeId):∀(vs:List Value) (o:Nat) (cs:List Value) (w:World),Blk w g t cs→o+vs.length≤cs.length →
 Blk (w.setCells g o vs) g t (splice cs o vs):=by
 intro vs
 induction vs with
 | nil=>intro o cs w h ho;simpa[World.setCells,splice] using h
 | cons v r ih =>
  intro o cs w h ho;rw[World.setCells];simp only[List.length_cons]at ho
  have h1:Blk (w.setCell ⟨g,o,none⟩ v) g t (cs.set o v):=by
   unfold Blk at h ⊢
   simp[World.setCell,Array.getElem?_modify,h]
  have:=ih (o+1) (cs.set o v) _ h1 (by simp;omega);rw[zg4 cs o v r om];exact this
theorem zbq(g B:Nat)(w0:World):∀(vs:List Value) (o:Nat) (w:World),Below B w0 w→B≤g→Below B w0 (w.setCells g o vs):=by
 intro vs
 induction vs with
 | nil=>intro o w h _;exact h
 | cons v r ih=>intro o w h hg;rw[World.setCells];exact ih (o+1) _ (h.setCell (p:=⟨g,o,none⟩) hg v) hg
theorem zfb(g:Nat):∀(vs:List Value) (o:Nat) (w:World),(w.setCells g o vs).heap.size=w.heap.size:=by
 intro vs
 induction vs with
 | nil=>intro o w;rfl
 | cons v r ih=>intro o w;rw[World.setCells,ih];simp[World.setCell]
theorem zh7(g g':Nat)(A:g'≠g):∀(vs:List Value) (o:Nat) (w:World),(w.setCells g o vs).heap[g']? = w.heap[g']?:=by
 intro vs
 induction vs with
 | nil=>intro o w;rfl
 | cons v r ih=>intro o w;rw[World.setCells,ih];exact Below.heap_setCell w ⟨g,o,none⟩ v g' A
section
variable{P:Program}{w:World}{ops:Array Oper}{rest:List Oper}{o:Oper}{a:Act}{K:Act→World→Prop}{Q:Exit→Act→World→Prop}
structure Only(w w':World)(g:Nat):Prop where
 grown:w.grownBy w' (some g)
 size:w'.heap.size=w.heap.size
theorem Only.below{B g:Nat}{w0 w w':World}(h:Only w w' g)(hb:Below B w0 w)(hg:B≤g)(hB:B≤w.heap.size):Below B w0 w' :=
 hb.grown h.grown hB (fun k hk=>by injection hk with hk;omega)
theorem Only.blk{w w':World}{g g':Nat}{t:TypeId}{cs:List Value}(h:Only w w' g)(hb:Blk w g' t cs)(r:g'≠g):Blk w' g' t cs :=
 hb.grown h.grown (fun e=>r (by injection e))
theorem Only.rd{w w':World}{g n:Nat}{A:Option Addr}{xs:List Value}(h:Only w w' g)(hr:Rd w A n xs)(D:∀ad,A=some ad→ad.block≠g):Rd w' A n xs :=
 ⟨hr.1,fun hn=>by
  obtain⟨b,r,e,hb,hc⟩:=hr.2 hn;refine⟨b,r,e,by rw[h.size];exact hb,fun j u hu=>?_⟩
  exact(World.cell?_of_block (a:=⟨b,r+j,none⟩) (h.grown.block b hb (fun e'=>D _ e (by injection e')))).trans (hc j u hu)⟩
theorem Only.of_setCells(w:World)(g o:Nat)(vs:List Value):Only w (w.setCells g o vs) g :=
 have hb:=zbq g w.heap.size w vs o w
 ⟨⟨by clear hb;revert o w;induction vs with
  | nil=>intros;rfl
  | cons v r ih=>intro w o;rw[World.setCells,ih];rfl,
  by clear hb;revert o w;induction vs with
   | nil=>intros;rfl
   | cons v r ih=>intro w o;rw[World.setCells,ih];rfl,
  by clear hb;revert o w;induction vs with
   | nil=>intros;rfl
   | cons v r ih=>intro w o;rw[World.setCells,ih];rfl,
  Nat.le_of_eq (zfb g vs o w).symm,fun k _ hne=>zh7 g k (fun e=>hne (by rw[e])) vs o w⟩,zfb g vs o w⟩
theorem zb2(r:o.guard=none)(h:∀K:Act→World→Prop,(∀a w,wpList P ops Q rest a w→K a w)→o.wp P a w K Q):wpList P ops Q (o :: rest) a w:=wpList_plain r h
theorem zqt{E:Prop}(r:o.guard=none)(h:o.wp P a w K Q):if Region.wanted o (yielded ops a.tmps)=true then Oper.wp P o a w K Q else E:=by
 rw[if_pos (by simp[Region.wanted,r])];exact h
theorem zck{v:Value}{w':World}(r:(execOp a.eval o).run P w=.ok (.value v) w')(h:K (a.put o.dst v) w'):o.wp P a w K Q:=by
 unfold Oper.wp
 rw[r];exact h
theorem zfp(A:o.guard=none){v:Value}{w':World}(r:(execOp a.eval o).run P w=.ok (.value v) w')(h:wpList P ops Q rest (a.put o.dst v) w'):wpList P ops Q (o :: rest) a w :=
 zb2 A fun _ hK=>zck r (hK _ _ h)
theorem zcd(b:Builtin)(xs:Array Operand)(ts:Array TypeId)(ho:o.op=.call { callee:=.builtin b,args:=xs,argTypes:=ts }){args:Array Value}(he:xs.map a.eval=args){n:Next}{w':World}
 (hrun:∀cs,(builtin b ts o.type cs args).run P w=.ok n w'):(execOp a.eval o).run P w=.ok n w':=by
 unfold execOp
 simp only[ho,resolve,invoke,Sem.run_bind,Sem.run_pure,Result.andThen_ok,he,hrun]
theorem zqf(d s:Operand)(T:TypeId)(ho:o.op=.call { callee:=.builtin .copy,args:=#[d,s],argTypes:=#[T,T] })(E:TypeId)(hu:P.underlying T=some (.slice E))(hsz:(P.info? E).map (·.size)=some 1)
 (g off dLen dCap:Nat) (hd:a.eval d=.slice (some ⟨g,off,none⟩) dLen dCap) (sp:Option Addr) (sLen sCap:Nat) (hs:a.eval s=.slice sp sLen sCap)
 (t:TypeId) (cur:List Value) (hB:Blk w g t cur) (xs:List Value) (hr:Rd w sp sLen xs) (h1:∀v∈xs,v.oneCell'=true) (hfit:off+dLen≤cur.length)
 (h:∀w',Blk w' g t (splice cur off (xs.take dLen))→Only w w' g→K (a.put o.dst (goInt (xs.take dLen).length)) w'):o.wp P a w K Q:=by
 have hl:(xs.take dLen).length=Nat.min sLen dLen:=by rw[List.length_take,hr.1];exact Nat.min_comm _ _
 have he : #[d,s].map a.eval=#[.slice (some ⟨g,off,none⟩) dLen dCap,.slice sp sLen sCap]:=by simp[hd,hs]
 by_cases h0:Nat.min sLen dLen=0
 · have r:=run_copy_none (P:=P) w T T o.type E (some ⟨g,off,none⟩) sp dLen dCap sLen sCap hu hsz h0
   have G:xs.take dLen=[]:=List.eq_nil_of_length_eq_zero (by rw[hl,h0]);refine zck (zcd .copy #[d,s] #[T,T] ho he fun cs=>?_) (h w (by rw[G];simpa[splice] using hB) ⟨⟨rfl,rfl,rfl,lr,fun _ _ _=>rfl⟩,rfl⟩);simp only[builtin,Sem.run_bind,r,Sem.run_pure,Result.andThen_ok,G]
   rfl
 · have D:0<sLen:=by
    have:Nat.min sLen dLen≤sLen:=Nat.min_le_left _ _;omega
   obtain⟨b,A,rfl,hb,hc⟩:=hr.2 D
   have r:=run_copy_row (P:=P) w T T o.type E g off dLen dCap ⟨b,A,none⟩ sLen sCap cur.toArray t (xs.take dLen) hu hsz hB hl
     (fun j v hv=>by
      rw[Addr.add_mid];rw[List.getElem?_take]at hv
      split at hv
      · exact hc j v hv
      · cases hv)
     (by rw[hl];have:Nat.min sLen dLen≤dLen:=Nat.min_le_right _ _;simp;omega) (fun v hv=>h1 v (List.mem_of_mem_take hv))
   refine zck (zcd .copy #[d,s] #[T,T] ho he fun cs=>?_)
     (h (w.setRow g (cur.toArray.toList.take off++(xs.take dLen)++cur.toArray.toList.drop (off+(xs.take dLen).length)).toArray) (show _=_ by rw[setRow_heap w g _ _ t _ hB];simp[splice])
       ⟨⟨rfl,rfl,rfl,by simp[World.setRow],fun k _ hk=>setRow_other w g k _ (fun e=>hk (by rw[e]))⟩,by simp[World.setRow]⟩)
   simp only[builtin,Sem.run_bind,r,Sem.run_pure,Result.andThen_ok]
theorem zav(r:o.guard=none)(d s:Operand)(T:TypeId)(ho:o.op=.call { callee:=.builtin .copy,args:=#[d,s],argTypes:=#[T,T] })(E:TypeId)(hu:P.underlying T=some (.slice E))(hsz:(P.info? E).map (·.size)=some 1)
 (g off dLen dCap:Nat) (hd:a.eval d=.slice (some ⟨g,off,none⟩) dLen dCap) (sp:Option Addr) (sLen sCap:Nat) (hs:a.eval s=.slice sp sLen sCap)
 (t:TypeId) (cur:List Value) (hB:Blk w g t cur) (xs:List Value) (hr:Rd w sp sLen xs) (h1:∀v∈xs,v.oneCell'=true) (hfit:off+dLen≤cur.length)
 (h:∀w',Blk w' g t (splice cur off (xs.take dLen))→Only w w' g→wpList P ops Q rest (a.put o.dst (goInt (xs.take dLen).length)) w'):wpList P ops Q (o :: rest) a w :=
 zb2 r fun _ hK=>zqf d s T ho E hu hsz g off dLen dCap hd sp sLen sCap hs t cur hB xs hr h1 hfit fun w' hb hg=>hK _ _ (h w' hb hg)
theorem zbs{F:Prop}(r:o.guard=none)(d s:Operand)(T:TypeId)(ho:o.op=.call { callee:=.builtin .copy,args:=#[d,s],argTypes:=#[T,T] })(E:TypeId)(hu:P.underlying T=some (.slice E))(hsz:(P.info? E).map (·.size)=some 1)
 (g off dLen dCap:Nat) (hd:a.eval d=.slice (some ⟨g,off,none⟩) dLen dCap) (sp:Option Addr) (sLen sCap:Nat) (hs:a.eval s=.slice sp sLen sCap)
 (t:TypeId) (cur:List Value) (hB:Blk w g t cur) (xs:List Value) (hr:Rd w sp sLen xs) (h1:∀v∈xs,v.oneCell'=true) (hfit:off+dLen≤cur.length)
 (h:∀w',Blk w' g t (splice cur off (xs.take dLen))→Only w w' g→K (a.put o.dst (goInt (xs.take dLen).length)) w'):if Region.wanted o (yielded ops a.tmps)=true then Oper.wp P o a w K Q else F :=
 zqt r (zqf d s T ho E hu hsz g off dLen dCap hd sp sLen sCap hs t cur hB xs hr h1 hfit h)
theorem zge(ty:TypeId)(x y:Operand)(ho:o.op=.store ty x y)(g off:Nat)(cs:List Value)(hx:a.eval x=.pointer (some ⟨g,off,none⟩))(hy:a.eval y=.agg cs.toArray)
 (t:TypeId) (cur:List Value) (hB:Blk w g t cur) (hi:(P.info? ty).map (·.size)=some cs.length) (h1:∀v∈cs,v.oneCell'=true) (hfit:off+cs.length≤cur.length)
 (h:∀w',Blk w' g t (splice cur off cs)→Only w w' g→K (a.put o.dst undef) w'):o.wp P a w K Q :=
 wp_store_mid ty x y ho g off cs.toArray hx hy (by simpa using hB.there off cs.length hfit) (by simpa using hi) (all_oneCell_toArray h1)
   (h _ (by simpa using za2 g t cs off cur w hB hfit) (by simpa using Only.of_setCells w g off cs))
theorem zbw(r:o.guard=none)(ty:TypeId)(x y:Operand)(ho:o.op=.store ty x y)(g off:Nat)(cs:List Value)(hx:a.eval x=.pointer (some ⟨g,off,none⟩))(hy:a.eval y=.agg cs.toArray)
 (t:TypeId) (cur:List Value) (hB:Blk w g t cur) (hi:(P.info? ty).map (·.size)=some cs.length) (h1:∀v∈cs,v.oneCell'=true) (hfit:off+cs.length≤cur.length)
 (h:∀w',Blk w' g t (splice cur off cs)→Only w w' g→wpList P ops Q rest (a.put o.dst undef) w'):wpList P ops Q (o :: rest) a w :=
 zb2 r fun _ hK=>zge ty x y ho g off cs hx hy t cur hB hi h1 hfit fun w' hb hg=>hK _ _ (h w' hb hg)
end
theorem zak{P:Program}{w:World}{fn:Func}{p u:Tmp}{ty:TypeId}(h:fn.results=#[.cell p ty,.tmp u])(r:Array Value)(g:Nat)(t:TypeId)(cs:List Value)(hp:r.getD p undef=.pointer (some ⟨g,0,none⟩))
 (hB:Blk w g t cs) (d:TypeDesc) (hu:P.underlying ty=some d) (hd:d.isRow=true) (hi:(P.info? ty).map (·.size)=some cs.length):
 (results fn r).run P w=.ok (.tuple #[.agg cs.toArray,r.getD u undef]) w:=by
 rw[results_cell_tmp h,hp]
 simp[asAddr,run_loadVar_mid w g 0 ty cs d hB.range hu hd hi]
theorem zan{P:Program}{w:World}{fn:Func}{p:Tmp}{ty:TypeId}(h:fn.results=#[.cell p ty])(r:Array Value)(g:Nat)(t:TypeId)(cs:List Value)(hp:r.getD p undef=.pointer (some ⟨g,0,none⟩))
 (hB:Blk w g t cs) (d:TypeDesc) (hu:P.underlying ty=some d) (hd:d.isRow=true) (hi:(P.info? ty).map (·.size)=some cs.length):
 (results fn r).run P w=.ok (.agg cs.toArray) w:=by
 have A:r[p]?.getD undef=.pointer (some ⟨g,0,none⟩):=by rw[←hp];simp
 simp[results,h,A,asAddr,run_loadVar_mid w g 0 ty cs d hB.range hu hd hi]
theorem zap{α:Type}(Z cs:List α)(h:cs.length=Z.length):splice Z 0 cs=cs:=by
 unfold splice
 rw[List.drop_eq_nil_of_le om]
 simp
def RdS(sz:Nat)(w:World)(A:Option Addr)(n:Nat)(xs:List Value):Prop :=
 xs.length=n*sz∧(0<n→∃b off,A=some ⟨b,off,none⟩∧b<w.heap.size∧∀j u,xs[j]? = some u→w.cell? ⟨b,off+j,none⟩=some u)
theorem Rd.toS{w:World}{A:Option Addr}{n:Nat}{xs:List Value}(h:Rd w A n xs):RdS 1 w A n xs:=⟨by simpa using h.1,h.2⟩
theorem RdS.to1{w:World}{A:Option Addr}{n:Nat}{xs:List Value}(h:RdS 1 w A n xs):Rd w A n xs:=⟨by simpa using h.1,h.2⟩
section
variable{P:Program}{w:World}{ops:Array Oper}{rest:List Oper}{o:Oper}{a:Act}{K:Act→World→Prop}{Q:Exit→Act→World→Prop}
theorem zl9(base:Nat)(t ty e:TypeId)(i:TypeInfo)(r:Nat)(ht:P.underlying t=some (.slice e))(hi:P.info? e=some i)
 (v:Value) (n:Nat) (xs:List Value) (hown:w.ownsRow base e r v n xs) (c:Nat):(Builtin.append_ #[t,t] ty #[v,.slice none 0 c]).run P w=.ok v w:=by
 rcases hown.2 with ⟨rfl,rfl⟩|⟨g,E,D,rfl,_,_,A,_⟩
 · simp[Builtin.append_,run_underlying ht,sizeOf,typeInfo,hi,Builtin.lenOf,Builtin.firstCells]
 · simp[Builtin.append_,run_underlying ht,sizeOf,typeInfo,hi,Builtin.lenOf,Builtin.firstCells,A,storeCells]
structure ElemIs(P:Program)(e:TypeId)(size bytes:Nat):Prop where
 ex:∃i z,P.info? e=some i∧i.zero=some z∧i.size=size∧i.bytes=bytes∧z.cells.size=size
 pos:0<size
theorem ElemIs.of{P:Program}{e:TypeId}{z:Value}{r bytes:Nat}(h:(P.info? e).map (fun i=>(i.zero,i.size,i.bytes))=some (some z,r,bytes))(hz:z.cells.size=r)(hp:0<r):ElemIs P e r bytes:=by
 cases hq:P.info? e with
 | none=>simp[hq]at h
 | some i =>
  simp[hq]at h
  exact⟨⟨i,z,hq,h.1,h.2.1,h.2.2,hz⟩,hp⟩
theorem zxl(base:Nat)(t ty e:TypeId)(r bytes:Nat)(ht:P.underlying t=some (.slice e))(he:ElemIs P e r bytes)
 (v:Value) (n:Nat) (xs:List Value) (hown:w.ownsRow base e r v n xs)
 (A:Option Addr) (m c:Nat) (news:List Value) (hr:RdS r w A m news) (h1:∀u∈news,u.oneCell'=true)
 (h63:n+m≤maxLen) (hbytes:(n+m)*bytes≤140737488355328) (hbase:base≤w.heap.size):
 ∃v' w',(Builtin.append_ #[t,t] ty #[v,.slice A m c]).run P w=.ok v' w'∧w'.ownsRow base e r v' (n+m) (xs++news)∧w.grownBy w' v.ownBlock ∧
   (v'.ownBlock=v.ownBlock∨v'.ownBlock=some w.heap.size):=by
 obtain⟨⟨i,z,hi,hz,E,J,U⟩,I⟩:=he
 rcases A with _|ad
 · have hm:m=0:=by
    rcases Nat.eq_zero_or_pos m with h0|h0
    · exact h0
    · obtain⟨b,M,h,_⟩:=hr.2 h0
      cases h
   subst hm;have hn:news=[]:=List.eq_nil_of_length_eq_zero (by simpa using hr.1);subst hn;exact⟨v,w,zl9 base t ty e i r ht hi v n xs hown c,by simpa using hown,World.grownBy.refl w _,.inl rfl⟩
 · have D:∀j u,news[j]? = some u→w.cell? (ad.add j)=some u:=by
    intro j u hu
    rcases Nat.eq_zero_or_pos m with h0|h0
    · subst h0
      have hn:news=[]:=List.eq_nil_of_length_eq_zero (by simpa using hr.1);subst hn
      simp at hu
    · obtain⟨b,M,h,_,hc⟩:=hr.2 h0
      injection h with h
      subst h;rw[Addr.add_mid];exact hc j u hu
   obtain⟨v',w',G,h2,h3,_,h5⟩:=run_append_own_at (P:=P) w base t ty e i z r bytes ht hi hz E J U I v n xs hown ad m c news hr.1 D h1 h63 hbytes hbase;exact⟨v',w',G,h2,h3,h5⟩
theorem zeq{w:World}{base n:Nat}{e:TypeId}{r:Nat}{v:Value}{xs:List Value}(h:w.ownsRow base e r v n xs):∃A c,v=.slice A n c∧n≤c:=by
 rcases h.2 with ⟨rfl,rfl⟩|⟨g,G,E,rfl,_,_,D,_⟩
 · exact⟨_,_,rfl,lr⟩
 · exact⟨_,_,rfl,D⟩
theorem zgu(s x:Operand)(t:TypeId)(ho:o.op=.call { callee:=.builtin .append,args:=#[s,x],argTypes:=#[t,t] })
 (base:Nat) (e:TypeId) (size bytes:Nat) (ht:P.underlying t=some (.slice e)) (he:ElemIs P e size bytes)
 (v:Value) (n:Nat) (xs:List Value) (hs:a.eval s=v) (hown:w.ownsRow base e size v n xs)
 (A:Option Addr) (m c:Nat) (news:List Value) (hx:a.eval x=.slice A m c) (hr:RdS size w A m news) (h1:∀u∈news,u.oneCell'=true)
 (hbytes:n*bytes+m*bytes≤140737488355328) (h63:n+m≤140737488355328) (hbase:base≤w.heap.size)
 (h:∀A' c' w',w'.ownsRow base e size (.slice A' (n+m) c') (n+m) (xs++news)→n+m≤c'→w.grownBy w' v.ownBlock→(Value.ownBlock (.slice A' (n+m) c')=v.ownBlock∨Value.ownBlock (.slice A' (n+m) c')=some w.heap.size)→K (a.put o.dst (.slice A' (n+m) c')) w'):o.wp P a w K Q:=by
 obtain⟨v',w',r,h2,h3,h4⟩:=zxl (P:=P) base t o.type e size bytes ht he v n xs hown A m c news hr h1 (by simp only[maxLen];omega) (by rw[Nat.add_mul];exact hbytes) hbase;have D : #[s,x].map a.eval=#[v,.slice A m c]:=by simp[hs,hx]
 obtain⟨A',c',rfl,hc⟩:=zeq h2;refine zck (zcd .append #[s,x] #[t,t] ho D fun cs=>?_) (h A' c' w' h2 hc h3 h4);simp only[builtin,Sem.run_bind,r,Sem.run_pure,Result.andThen_ok]
theorem zah(r:o.guard=none)(s x:Operand)(t:TypeId)(ho:o.op=.call { callee:=.builtin .append,args:=#[s,x],argTypes:=#[t,t] })
 (base:Nat) (e:TypeId) (size bytes:Nat) (ht:P.underlying t=some (.slice e)) (he:ElemIs P e size bytes)
 (v:Value) (n:Nat) (xs:List Value) (hs:a.eval s=v) (hown:w.ownsRow base e size v n xs)
 (A:Option Addr) (m c:Nat) (news:List Value) (hx:a.eval x=.slice A m c) (hr:RdS size w A m news) (h1:∀u∈news,u.oneCell'=true)
 (hbytes:n*bytes+m*bytes≤140737488355328) (h63:n+m≤140737488355328) (hbase:base≤w.heap.size)
 (h:∀A' c' w',w'.ownsRow base e size (.slice A' (n+m) c') (n+m) (xs++news)→n+m≤c'→w.grownBy w' v.ownBlock→(Value.ownBlock (.slice A' (n+m) c')=v.ownBlock∨Value.ownBlock (.slice A' (n+m) c')=some w.heap.size)→wpList P ops Q rest (a.put o.dst (.slice A' (n+m) c')) w'):wpList P ops Q (o :: rest) a w :=
 zb2 r fun _ hK=>zgu s x t ho base e size bytes ht he v n xs hs hown A m c news hx hr h1 hbytes h63 hbase fun A' c' w' h2 hc h3 h4=>hK _ _ (h A' c' w' h2 hc h3 h4)
theorem zno{F:Prop}(r:o.guard=none)(s x:Operand)(t:TypeId)(ho:o.op=.call { callee:=.builtin .append,args:=#[s,x],argTypes:=#[t,t] })
 (base:Nat) (e:TypeId) (size bytes:Nat) (ht:P.underlying t=some (.slice e)) (he:ElemIs P e size bytes)
 (v:Value) (n:Nat) (xs:List Value) (hs:a.eval s=v) (hown:w.ownsRow base e size v n xs)
 (A:Option Addr) (m c:Nat) (news:List Value) (hx:a.eval x=.slice A m c) (hr:RdS size w A m news) (h1:∀u∈news,u.oneCell'=true)
 (hbytes:n*bytes+m*bytes≤140737488355328) (h63:n+m≤140737488355328) (hbase:base≤w.heap.size)
 (h:∀A' c' w',w'.ownsRow base e size (.slice A' (n+m) c') (n+m) (xs++news)→n+m≤c'→w.grownBy w' v.ownBlock→(Value.ownBlock (.slice A' (n+m) c')=v.ownBlock∨Value.ownBlock (.slice A' (n+m) c')=some w.heap.size)→K (a.put o.dst (.slice A' (n+m) c')) w'):if Region.wanted o (yielded ops a.tmps)=true then Oper.wp P o a w K Q else F :=
 zqt r (zgu s x t ho base e size bytes ht he v n xs hs hown A m c news hx hr h1 hbytes h63 hbase h)
end
theorem RdS.new(w:World)(t:TypeId)(cs:List Value)(sz:Nat)(h:cs.length=sz):RdS sz (w.alloc (.cells cs.toArray t)) (some ⟨w.heap.size,0,none⟩) 1 cs :=
 ⟨by simpa using h,fun _=>⟨w.heap.size,0,rfl,by simp,fun j u hu=>by rw[(Blk.new w t cs).cell,Nat.zero_add];exact hu⟩⟩
def rep{α:Type}(n:Nat)(z:α):List α:=List.replicate n z
theorem zao{α:Type}(n:Nat)(z:α):(rep n z).length=n:=by simp[rep]
theorem zhc{α:Type}{n:Nat}{z:α}{i:Nat}(h:i<n):(rep n z)[i]? = some z:=by
 unfold rep
 rw[List.getElem?_replicate,if_pos h]
theorem zx2(n:Nat)(c:UInt8):rep n (u8 c)=u8s (rep n c):=by simp[rep,u8s]
theorem zbg{w:World}{g base:Nat}{e:TypeId}{cs:List Value}(h:Blk w g e cs)(hb:base≤g)(n r A:Nat)(hn:n≤r)(hc:cs.length=r*A)(hm:r≤140737488355328):
 w.ownsRow base e A (.slice (some ⟨g,0,none⟩) n r) n (cs.take (n*A)) :=
 ⟨by rw[List.length_take,hc];exact Nat.min_eq_left (Nat.mul_le_mul_right _ hn),.inr ⟨g,r,cs.toArray,rfl,hb,h,hn,by simp only[maxLen];omega,by simpa using hc,by simp⟩⟩
section
variable{P:Program}{w:World}{ops:Array Oper}{rest:List Oper}{o:Oper}{a:Act}{K:Act→World→Prop}{Q:Exit→Act→World→Prop}
theorem ztw(x y:Operand)(t:TypeId)(ho:o.op=.makeSlice t x y)(e:TypeId)(z:Value)(bytes:Nat)(ht:P.underlying t=some (.slice e))(hi:(P.info? e).map (fun i=>(i.zero,i.size,i.bytes))=some (some z,1,bytes))(hz:z.cells=#[z])
 (kl kc:IntKind) (ln lc:Int) (hx:a.eval x=.int kl ln) (hy:a.eval y=.int kc lc) (n c:Nat) (hn:ln=n) (hc:lc=c) (hnc:n≤c) (hbytes:bytes*c≤281474976710656) (h63:c≤140737488355328)
 (h:∀w',Blk w' w.heap.size e (rep c z)→w.grownBy w' none→w'.heap.size=w.heap.size+1→K (a.put o.dst (.slice (some ⟨w.heap.size,0,none⟩) n c)) w'):o.wp P a w K Q:=by
 subst hn;subst hc
 cases hq:P.info? e with
 | none=>simp[hq]at hi
 | some i =>
  simp[hq]at hi
  obtain⟨A,D,r⟩:=hi;subst r
  have hr:=run_make (P:=P) w t e i z ht hq A kl kc n c om om (by
   have h:((i.bytes*c:Nat):Int)≤281474976710656:=om
   rwa [Int.natCast_mul]at h) om
  rw[D,Nat.mul_one,hz]at hr;simp only[Int.toNat_natCast]at hr;refine zck (v:=.slice (some ⟨w.heap.size,0,none⟩) n c) ?_ (h (w.alloc (.cells (madeCells #[z] c) e)) (Blk.new' rfl (by unfold rep;rw[←toList_madeCells_one])) (World.grownBy_alloc w _ none) sy)
  unfold execOp
  simp only[ho,hx,hy,Sem.run_bind,hr,Sem.run_pure,Result.andThen_ok]
theorem zaj(r:o.guard=none)(x y:Operand)(t:TypeId)(ho:o.op=.makeSlice t x y)(e:TypeId)(z:Value)(bytes:Nat)(ht:P.underlying t=some (.slice e))(hi:(P.info? e).map (fun i=>(i.zero,i.size,i.bytes))=some (some z,1,bytes))(hz:z.cells=#[z])
 (kl kc:IntKind) (ln lc:Int) (hx:a.eval x=.int kl ln) (hy:a.eval y=.int kc lc) (n c:Nat) (hn:ln=n) (hc:lc=c) (hnc:n≤c) (hbytes:bytes*c≤281474976710656) (h63:c≤140737488355328)
 (h:∀w',Blk w' w.heap.size e (rep c z)→w.grownBy w' none→w'.heap.size=w.heap.size+1→wpList P ops Q rest (a.put o.dst (.slice (some ⟨w.heap.size,0,none⟩) n c)) w'):wpList P ops Q (o :: rest) a w :=
 zb2 r fun _ hK=>ztw x y t ho e z bytes ht hi hz kl kc ln lc hx hy n c hn hc hnc hbytes h63 fun w' h1 h2 h3=>hK _ _ (h w' h1 h2 h3)
end
def SlB(w:World)(v:Value)(l:List UInt8):Prop:=∃A n c,v=.slice A n c∧n≤c∧Rd w A n (u8s l)
def RdB(w:World)(A:Option Addr)(n:Nat)(ls:List (List UInt8)):Prop :=
 ∃vs:List Value,Rd w A n vs∧ls.length=n∧∀(i:Nat) (v:Value),vs[i]? = some v→∃l,ls[i]? = some l∧SlB w v l
theorem SlB.below{w w':World}{v:Value}{l:List UInt8}(h:SlB w v l)(hb:Below w.heap.size w w'):SlB w' v l:=by
 obtain⟨A,n,c,e,hn,hr⟩:=h;exact⟨A,n,c,e,hn,hr.below hb⟩
theorem RdB.below{w w':World}{A:Option Addr}{n:Nat}{ls:List (List UInt8)}(h:RdB w A n ls)(hb:Below w.heap.size w w'):RdB w' A n ls:=by
 obtain⟨vs,hr,hl,hv⟩:=h;exact⟨vs,hr.below hb,hl,fun i v hi=>let ⟨l,h1,h2⟩:=hv i v hi;⟨l,h1,h2.below hb⟩⟩
theorem RdB.at_{w:World}{A:Option Addr}{n:Nat}{ls:List (List UInt8)}(h:RdB w A n ls){k:Nat}(hk:k<n):
 ∃b r A1 n1 c1 l,A=some ⟨b,r,none⟩∧b<w.heap.size∧Hid (ls[k]? = some l)∧w.cell? ⟨b,r+k,none⟩=some (.slice A1 n1 c1)∧n1≤c1∧Rd w A1 n1 (u8s l):=by
 obtain⟨vs,hr,hl,hv⟩:=h;obtain⟨b,r,u,rfl,hb,hu,hc⟩:=hr.at_ hk;obtain⟨l,h1,A1,n1,c1,rfl,h2,h3⟩:=hv k u hu.o;exact⟨b,r,A1,n1,c1,l,rfl,hb,h1,hc,h2,h3⟩
theorem zad{w w':World}(h:w.grownBy w' none):Below w.heap.size w w':=(Below.refl _ _).grown h lr sy
def SlBs(w:World):List Value→List (List UInt8)→Prop
 | [],[]=>True
 | v :: vs,l :: ls=>SlB w v l∧SlBs w vs ls
 | _,_=>False
theorem SlBs.get{w:World}: ∀ {vs:List Value} {ls:List (List UInt8)},SlBs w vs ls→ls.length=vs.length∧∀(i:Nat) (v:Value),vs[i]? = some v→∃l,ls[i]? = some l∧SlB w v l
 | [],[],_=>⟨rfl,fun i v h=>by simp at h⟩
 | v :: vs,l :: ls,h=>by
  obtain⟨h1,h2⟩:=h;obtain⟨h3,h4⟩:=SlBs.get h2;refine⟨by simp[h3],fun i u hu=>?_⟩
  cases i with
  | zero=>simp at hu;subst hu;exact⟨l,rfl,h1⟩
  | succ i=>simp at hu;simpa using h4 i u hu
 | [],_ :: _,h=>h.elim
 | _ :: _,[],h=>h.elim
theorem RdB.of_blk{w:World}{g:Nat}{t:TypeId}{vs:List Value}{ls:List (List UInt8)}(h:Blk w g t vs)(hs:SlBs w vs ls):RdB w (some ⟨g,0,none⟩) vs.length ls:=by
 obtain⟨h1,h2⟩:=hs.get;refine⟨vs,?_,h1,h2⟩;have:=h.rd 0 vs.length om
 simpa using this
theorem SlB.of_blk{w:World}{g:Nat}{t:TypeId}{cs:List Value}(h:Blk w g t cs)(o n c:Nat)(l:List UInt8)(hn:o+n≤cs.length)(hc:n≤c)(hl:(cs.drop o).take n=u8s l):SlB w (.slice (some ⟨g,o,none⟩) n c) l :=
 ⟨_,_,_,rfl,hc,hl ▸ h.rd o n hn⟩
theorem SlB.of_rd{w:World}{A:Option Addr}{n c:Nat}{l:List UInt8}(h:Rd w A n (u8s l))(hc:n≤c):SlB w (.slice A n c) l:=⟨_,_,_,rfl,hc,h⟩
theorem zbi{w:World}{base base' n:Nat}{e:TypeId}{A:Nat}{v:Value}{xs:List Value}(h:w.ownsRow base e A v n xs)(hb:base'≤base):w.ownsRow base' e A v n xs:=by
 obtain⟨h1,h2⟩:=h;refine⟨h1,?_⟩
 rcases h2 with h2|⟨g,E,D,hv,hg,r⟩
 · exact .inl h2
 · exact .inr ⟨g,E,D,hv,Nat.le_trans hb hg,r⟩
theorem zf8(off:Nat):∀(cs:List Value) (k:Nat) (A:List Value),off+k+cs.length≤A.length →
 (cs.zipIdx k).foldl (fun(B:Array Value) (p:Value × Nat)=>B.setIfInBounds (off+p.2) p.1) A.toArray=(splice A (off+k) cs).toArray
 | [],k,A,_=>by simp[splice]
 | c :: cs,k,A,h=>by
  simp only[List.length_cons]at h;rw[List.zipIdx_cons,List.foldl_cons,zg4 A (off+k) c cs om,List.setIfInBounds_toArray,zf8 off cs (k+1) (A.set (off+k) c) (by simp;omega)]
  rfl
theorem zat{place:Nat→Option (Nat × Nat)}{Z:List Value}{i off:Nat}{v:Value}{cs:List Value}{rest:List (Nat × Value)}(hv:v.cells=cs.toArray)(hp:place i=some (off,cs.length))(r:off+cs.length≤Z.length):
 Instr.fill place Z.toArray ((i,v) :: rest)=Instr.fill place (splice Z off cs).toArray rest:=by
 have h:=zf8 off cs 0 Z om;simp only[Nat.add_zero]at h;rw[Instr.fill];simp only[hp,hv,List.size_toArray];rw[if_neg (by simp;omega)]
 congr 1
 rw[←h,←Array.foldl_toList]
 simp
theorem zbt{P:Program}{t:TypeId}{Z:Array Value}{A:Array Field}{r:Array (Nat × Nat)}{D:Array (Nat × Value)}{cells:Array Value}(hz:∀w,(zeroValue t).run P w=.ok (.agg Z) w)(hu:P.underlying t=some (.struct A))
 (hp:∀w,(A.mapM (fun f=>do pure (f.offset,←sizeOf f.type)):Sem (Array (Nat × Nat))).run P w=.ok r w) (hf:Instr.fill (r[·]?) Z D.toList=some cells) (w:World):(Instr.build t D).run P w=.ok (.agg cells) w:=by
 unfold Instr.build
 simp only[Sem.run_bind,hz,Result.andThen_ok,Value.cells,run_underlying hu,hp,hf,Sem.run_pure]
section
variable{P:Program}{w:World}{ops:Array Oper}{rest:List Oper}{o:Oper}{a:Act}{K:Act→World→Prop}{Q:Exit→Act→World→Prop}
theorem ztx(t:TypeId)(A:List (Nat × Operand))(ho:o.op=.build t A.toArray)(r:List (Nat × Value))(he:A.map (fun p=>(p.1,a.eval p.2))=r)(v:Value)(D:(Instr.build t r.toArray).run P w=.ok v w)(h:K (a.put o.dst v) w):o.wp P a w K Q:=by
 refine zck (v:=v) ?_ h
 unfold execOp
 simp only[ho,Sem.run_bind,List.map_toArray,he,D,Sem.run_pure,Result.andThen_ok]
theorem zai(E:o.guard=none)(t:TypeId)(A:List (Nat × Operand))(ho:o.op=.build t A.toArray)(r:List (Nat × Value))(he:A.map (fun p=>(p.1,a.eval p.2))=r)(v:Value)(D:(Instr.build t r.toArray).run P w=.ok v w)(h:wpList P ops Q rest (a.put o.dst v) w):wpList P ops Q (o :: rest) a w :=
 zb2 E fun _ hK=>ztx t A ho r he v D (hK _ _ h)
theorem zab(r:o.guard=none)(ty:TypeId)(x y:Operand)(ho:o.op=.store ty x y)(g:Nat)(cs:List Value)(hx:a.eval x=.pointer (some ⟨g,0,none⟩))(hy:a.eval y=.agg cs.toArray)
 (t:TypeId) (cur:List Value) (hB:Blk w g t cur) (hi:(P.info? ty).map (·.size)=some cs.length) (h1:∀v∈cs,v.oneCell'=true) (hfit:cs.length=cur.length)
 (h:∀w',Blk w' g t cs→Only w w' g→wpList P ops Q rest (a.put o.dst undef) w'):wpList P ops Q (o :: rest) a w :=
 zbw r ty x y ho g 0 cs hx hy t cur hB hi h1 om fun w' hb hg=>h w' (by rwa [zap _ _ hfit]at hb) hg
end
theorem zo2{α:Type}(Z X1 X2:List α)(k:Nat)(hk:X1.length=k)(hZ:Z.length=k+X2.length):splice (splice Z 0 X1) k X2=X1++X2:=by
 subst hk;have e1:splice Z 0 X1=X1++Z.drop X1.length:=by simp[splice]
 rw[e1]
 unfold splice
 rw[List.take_left,List.drop_eq_nil_of_le (by simp;omega),List.append_nil]
theorem qbl{w w':World}{g:Nat}{t:TypeId}{cs:List Value}(h:Hid (Blk w g t cs))(hb:Below w.heap.size w w'):Hid (Blk w' g t cs):=qh (h.o.below hb h.o.lt)
theorem qtr{w w1 w2:World}(h:Hid (Below w.heap.size w w1))(hb:Below w1.heap.size w1 w2):Hid (Below w.heap.size w w2):=qh (h.o.trans (hb.mono h.o.size))
theorem qal{w w':World}{o:Obj}{g g':Nat}{t:TypeId}{cs:List Value}(h:Only (w.alloc o) w' g)(hb:Hid (Blk w g' t cs))(r:g'≠g):Hid (Blk w' g' t cs):=qh (h.blk (hb.o.alloc o) r)
theorem qon{w w':World}{g g':Nat}{t:TypeId}{cs:List Value}(h:Only w w' g)(hb:Hid (Blk w g' t cs))(r:Hid (g'≠g)):Hid (Blk w' g' t cs):=qh (h.blk hb.o r.o)
end
theorem eU8:ElemIs Tryz.prog 5 1 1:=ElemIs.of (z:=.int .u8 0) kr rfl om
theorem zk1{α:Type}{a b:List α}{k:Nat}{x y:α}(h:a.take k=b.take k)(ha:a[k]? = some x)(hb:b[k]? = some y)(e:x=y):a.take (k+1)=b.take (k+1):=by
 rw[List.take_add_one,List.take_add_one,h,ha,hb,e]
theorem zv6{x y:UInt8}(h:((x.toNat:Int) != (y.toNat:Int))=false):x=y:=by
 have h:=bne_eq_false_iff_eq.1 h;exact UInt8.toNat_inj.1 om
theorem ztg{x y:UInt8}(h:((x.toNat:Int) != (y.toNat:Int))=true):x≠y:=by
 rintro rfl
 simp at h
theorem zly(A B:Option Addr)(n m c d:Nat)(a b:List UInt8)(w:World)(ha:Rd w A n (u8s a))(hb:Rd w B m (u8s b))(hn:n≤140737488355328)(hm:m≤140737488355328):
 Calls Tryz.prog 11 #[.slice A n c,.slice B m d] w fun e w'=>e=.returned (.bool (decide (a=b)))∧∃q,w'=w.drewN q:=by
 have G:=ha.len;have M:=hb.len;have I:=qh G;have J:=qh M;clear G M
 by_cases r:n=m
 · subst r
   go_enter Tryz.func11, Tryz.ntmps11
   go_wp2
   go_loopw [5] (fun i wr=>∃k:Nat,k≤n∧i=.int .i64 k∧a.take k=b.take k∧∃q,wr=w.drewN q) (fun i _=>n-(intOf i).toNat)
   case atStart=>exact⟨0,Nat.zero_le _,rfl,rfl,0,rfl⟩
   case round =>
    obtain⟨k,hk,rfl,D,q,rfl⟩:=hrel;have HP:=qh D;clear D
    by_cases hlt:k<n
    · obtain⟨b1,U,x,rfl,a3,HX,a0⟩:=ha.u8 hlt
      obtain⟨b2,V,y,rfl,a2,HY,a1⟩:=hb.u8 hlt;have a4:(0:Int)≤(k:Int):=om;have Y:(k:Int)<(n:Int):=om;go_wp2
      go_quiet (fail)
      go_wp2
      · go_ret
        refine⟨?_,q+nq,World.drewN_drewN _ _ _⟩
        have r:a≠b:=by
         rintro rfl;have:=HX.o.symm.trans HY.o
         injection this with this
         exact ztg ‹_› this
        simp[r]
      · go_roundw
        case rel=>exact⟨k+1,by omega,by go_num,zk1 HP.o HX.o HY.o (zv6 ‹_›),q+nq,rfl⟩
        case measure=>simp[intOf];omega
    · go_wp2
      go_ret;refine⟨?_,q,rfl⟩
      have E:a=b:=by
       have:=HP.o
       rwa [tk (by rw[I.o];omega),tk (by rw[J.o];omega)]at this
      simp[E]
 · have X:((n:Int) != (m:Int))=true:=by rw[bne_iff_ne];omega
   go_enter Tryz.func11, Tryz.ntmps11
   go_wp2;go_ret;refine⟨?_,0,rfl⟩
   have E:a≠b:=by
    rintro rfl;exact r (I.o.symm.trans J.o)
   simp[E]
theorem zb1(A:Option Addr)(n c:Nat)(l:List UInt8)(w:World)(h:Rd w A n (u8s l))(hn:n≤140737488355328):
 Calls Tryz.prog 28 #[.slice A n c] w fun e w'=>∃A' c',e=.returned (.slice A' n c')∧n≤c'∧w'.ownsRow w.heap.size 5 1 (.slice A' n c') n (u8s l)∧Below w.heap.size w w':=by
 go_enter Tryz.func28, Tryz.ntmps28
 go_wp2_with (at_builtin;refine zah rfl (.tmp 3) (.tmp 4) _ rfl w.heap.size 5 1 1 Tryz.underlying22 eU8 (.slice (some ⟨w.heap.size,0,none⟩) 0 0) 0 [] rr ?c1 A n c (u8s l) rr ?c2 (zac _) om om sy ?_)
 case c1=>exact⟨rfl,.inr ⟨w.heap.size,0,#[],rfl,lr,heap_alloc_new w _,lr,by simp[maxLen],rfl,rfl⟩⟩
 case c2=>exact(h.alloc _).toS
 intro A' c' w' r D hg E;have hB:Below w.heap.size w w':=((Below.refl _ _).alloc lr _).grown hg sy (by intro k hk;simp[Value.ownBlock]at hk;omega);go_wp2;go_ret;exact⟨A',c',rfl,D,r,hB⟩
theorem zcu(ls:List (List UInt8))(k:Nat)(l:List UInt8)(h:ls[k]? = some l):(ls.take (k+1)).flatten=(ls.take k).flatten++l:=by
 rw[List.take_add_one,h];simp
theorem zb5(ls:List (List UInt8))(k:Nat):((ls.take k).flatten).length≤ls.flatten.length:=by
 have:ls.flatten=(ls.take k).flatten++(ls.drop k).flatten:=by rw[←List.flatten_append,List.take_append_drop]
 rw[this];simp
theorem iU8:(Tryz.prog.info? 5).map (fun i=>(i.zero,i.size,i.bytes))=some (some (.int .u8 0),1,1):=by kernel_rfl
theorem zvj(A:Option Addr)(n c:Nat)(ls:List (List UInt8))(w:World)(h:RdB w A n ls)(hn:n≤1073741824)(hf:ls.flatten.length≤1073741824):
 Calls Tryz.prog 36 #[.slice A n c] w fun e w'=>∃A' c',e=.returned (.slice A' ls.flatten.length c')∧ls.flatten.length≤c'∧w'.ownsRow w.heap.size 5 1 (.slice A' ls.flatten.length c') ls.flatten.length (u8s ls.flatten)∧Below w.heap.size w w':=by
 have a0:ls.length=n:=by obtain⟨_,_,h,_⟩:=h;exact h
 have a2:=qh a0;clear a0
 go_enter Tryz.func36, Tryz.ntmps36
 go_wp2
 go_loop [3,11] (fun t i=>∃k:Nat,k≤n∧i=.int .i64 k∧t=.int .i64 ((ls.take k).flatten.length)) (fun _ i=>n-(intOf i).toNat)
 case atStart=>exact⟨0,Nat.zero_le _,rfl,rfl⟩
 case round =>
  obtain⟨k,hk,rfl,rfl⟩:=hrel;have Y:=zb5 ls k
  by_cases hlt:k<n
  · obtain⟨b,a9,A1,n1,c1,l,rfl,hb,HX,hc,a6,U⟩:=h.at_ hlt
    have hs:=zcu ls k l HX.o;have I:=zb5 ls (k+1);have r:(ls.take (k+1)).flatten.length=(ls.take k).flatten.length+n1:=by rw[hs,la9,U.len]
    have HS:=qh r;have V:(ls.take k).flatten.length+n1≤1073741824:=om;clear hs r I;generalize hT:(ls.take k).flatten.length=T at *;have HT:=qh hT;clear hT;go_wp2
    go_round
    case rel=>exact⟨k+1,by omega,by go_num,by rw[HS.o];go_num⟩
    case measure=>simp[intOf];omega
  · have X:k=n:=om
    subst X;rw[tk (by rw[a2.o];exact lr)]at *;clear hlt hk Y;generalize hT:ls.flatten.length=T at *;have HT:=qh hT;clear hT
    go_wp2_with (at_make;refine zaj rfl _ _ 22 rfl 5 (.int .u8 0) 1 Tryz.underlying22 iU8 rfl _ _ _ _ rfl rfl 0 T rfl rfl (Nat.zero_le _) om om ?_)
    intro w1 V a4 b1;have a1:Below w.heap.size w w1:=zad a4;have G:=zbg V lr 0 T 1 (Nat.zero_le _) (by simp[zao]) om;have HO:=qh G;clear b1 a4 V G;go_wp2
    go_loopw [6,24] (fun v i wr=>∃j:Nat,j≤k∧i=.int .i64 j∧∃A' c',v=.slice A' (ls.take j).flatten.length c'∧(ls.take j).flatten.length≤c'∧wr.ownsRow w.heap.size 5 1 (.slice A' (ls.take j).flatten.length c') (ls.take j).flatten.length (u8s (ls.take j).flatten)∧Below w.heap.size w wr) (fun _ i _=>k-(intOf i).toNat)
    case atStart=>exact⟨0,Nat.zero_le _,rfl,_,_,rfl,Nat.zero_le _,by simpa[u8s] using HO.o,a1⟩
    case round =>
     clear HO a1;obtain⟨j,hj,rfl,A',c',rfl,a7,D,J⟩:=hrel;have Y:=zb5 ls j
     by_cases hlt:j<k
     · obtain⟨b,a9,A1,n1,c1,l,rfl,hb,HX,hc,a6,U⟩:=(h.below J).at_ hlt
       have hs:=zcu ls j l HX.o;have I:=zb5 ls (j+1);have r:(ls.take (j+1)).flatten.length=(ls.take j).flatten.length+n1:=by rw[hs,la9,U.len]
       have HS:=qh r;have b4:=qh hs;have b2:ls.flatten.length=T:=HT.o;have V:(ls.take j).flatten.length+n1≤1073741824:=om;clear hs r I b2 Y;generalize (ls.take j).flatten=F at *;generalize hFl:F.length=M at *;have HF:=qh hFl;clear hFl
       go_wp2_with (at_builtin;refine zah rfl (.tmp 28) (.tmp 29) _ rfl w.heap.size 5 1 1 Tryz.underlying22 eU8 (.slice A' M c') M (u8s F) rr D A1 n1 c1 (u8s l) rr U.toS (zac _) om om J.size ?_)
       intro A2 c2 w2 E b3 a5 a3;have a8:Below w.heap.size w w2:=J.grown a5 J.size (fun g hg=>(D.lt g hg).1);rw[←zae,←b4.o]at E;clear a5 a3 D;go_wp2
       go_roundw
       case rel=>exact⟨j+1,by omega,by go_num,A2,c2,by rw[HS.o],by rw[HS.o];exact b3,by rw[HS.o];exact E,a8⟩
       case measure=>simp[intOf];omega
     · have X:j=k:=om
       subst X;rw[tk (by rw[a2.o];exact lr)]at *;go_wp2;go_ret;rw[HT.o]at *;exact⟨A',c',rfl,a7,D,J⟩
theorem zef(A:Option Addr)(n c:Nat)(ls:List (List UInt8))(w:World)(h:RdB w A n ls)(hn:n≤1073741824)(F:List UInt8)(N:Nat)(hF:ls.flatten=F)(hN:F.length=N)(hf:N≤1073741824):
 Calls Tryz.prog 36 #[.slice A n c] w fun e w'=>∃A' c',e=.returned (.slice A' N c')∧N≤c'∧w'.ownsRow w.heap.size 5 1 (.slice A' N c') N (u8s F)∧Below w.heap.size w w':=by
 subst hF;subst hN;exact zvj A n c ls w h hn hf
def chk(k i c id n:Nat):Int :=
 if 450<n then 2 else if c<1∨16<c∨c≤i then 3 else if k≠1∧c≠1 then 3 else if k=2∧(id≠0∨n≠0) then 3 else 0
theorem zx1{a b:Int}(h:a=b):Ending.returned (Value.int .i64 a)=.returned (.int .i64 b):=by rw[h]
theorem zp1(A:Option Addr)(n cp k id i c:Nat)(w:World)(h1:1≤k)(h3:k≤3)(hn:n≤450):
 Calls Tryz.prog 51 #[.agg #[.int .u8 k,.int .u64 id,.int .i64 i,.int .i64 c,.slice A n cp]] w fun e w'=>e=.returned (.int .i64 (chk k i c id n))∧Below w.heap.size w w':=by
 have D:¬(450:Int)<(n:Int):=om;have r:¬(k:Int)<1:=om;have E:¬(3:Int)<(k:Int):=om
 go_enter Tryz.func51, Tryz.ntmps51
 go_wp2_with fail
 all_goals (go_ret;refine⟨zx1 ?_,(Below.refl _ _).alloc lr _⟩;clear D r E;unfold chk)
 all_goals (repeat' split)
 all_goals (first|rfl|omega|(exfalso;simp_all;omega)| (exfalso;simp_all;done))
def allZ(l:List UInt8):Bool:=l.all (· == 0)
theorem zid{l:List UInt8}{k:Nat}{x:UInt8}(h:l[k]? = some x):allZ (l.take (k+1))=(allZ (l.take k) && x == 0):=by
 unfold allZ
 rw[List.take_add_one,h]
 simp
theorem zzr{l:List UInt8}{k:Nat}{x:UInt8}(h:l[k]? = some x)(hx:x≠0):allZ l=false:=by
 unfold allZ
 rw[List.all_eq_false];exact⟨x,mg9 h,by simpa using hx⟩
theorem ze4(A:Option Addr)(n c:Nat)(l:List UInt8)(w:World)(h:Rd w A n (u8s l))(hn:n≤140737488355328):
 Calls Tryz.prog 55 #[.slice A n c] w fun e w'=>e=.returned (.bool (allZ l))∧w=w':=by
 have HL:=qh h.len
 go_enter Tryz.func55, Tryz.ntmps55
 go_wp2
 go_loop [7] (fun q=>∃k:Nat,k≤n∧q=.int .i64 k∧allZ (l.take k)=true) (fun q=>n-(intOf q).toNat)
 case atStart=>exact⟨0,Nat.zero_le _,rfl,rfl⟩
 case round =>
  obtain⟨k,hk,rfl,hz⟩:=hrel;have HZ:=qh hz;clear hz
  by_cases hlt:k<n
  · obtain⟨b,r,x,rfl,hb,HX,hc⟩:=h.u8 hlt
    by_cases hx:x=0
    · subst hx
      have HS:=qh (zid HX.o);have E:w.cell? ⟨b,r+k,none⟩=some (.int .u8 0):=hc;clear hc;go_wp2
      go_round
      case rel=>exact⟨k+1,by omega,by go_num,by rw[HS.o,HZ.o];rfl⟩
      case measure=>simp[intOf];omega
    · have HN:=qh (zzr HX.o hx)
      have D:((x.toNat:Int) != 0)=true:=by
       rw[bne_iff_ne];intro e;exact hx (UInt8.toNat_inj.1 (by simpa using e))
      clear hx;go_wp2;go_ret;exact⟨(by rw[HN.o];rfl),rfl⟩
  · obtain rfl:k=n:=om
    have HT:Hid (allZ l=true):=by
     have:=HZ.o
     rwa [tk (Nat.le_of_eq HL.o)]at this
    go_wp2;go_ret;exact⟨(by rw[HT.o];rfl),rfl⟩
theorem zp5(A:Option Addr)(n c:Nat)(l:List UInt8)(w:World)(h:Rd w A n (u8s l))(hn:n≤1000000):
 Calls Tryz.prog 56 #[.slice A n c] w fun e w'=>e=.returned (.slice (some ⟨w.heap.size,0,none⟩) n n)∧Blk w' w.heap.size 5 (u8s l)∧Below w.heap.size w w':=by
 have HR:=qh h;have HT:Hid ((u8s l).take n=u8s l):=tk (by rw[zaa,h.len];exact lr);have HL:Hid ((u8s l).length=n):=by show _=_;rw[zaa,h.len]
 clear h
 go_enter Tryz.func56, Tryz.ntmps56
 go_wp2_with (first
  | (refine zaj rfl (.tmp 5) (.tmp 5) 22 rfl 5 (.int .u8 0) 1 Tryz.underlying22 iU8 rfl .i64 .i64 (n:Int) (n:Int) rr rr n n rfl rfl om om om ?_;intro w1 G E M;have D:=qh (zad E);have U:=qh G;clear G E M)
  | (refine zav rfl (.tmp 7) (.tmp 8) 22 rfl 5 Tryz.underlying22 kr w.heap.size 0 n n rr A n c rr 5 _ U.o (u8s l) (by exact HR.o.below D.o) (zac _) (by rw[zao];omega) ?_;intro w2 r I;rw[HT.o,zap _ _ (by rw[HL.o,zao])]at r;have V:=qh r;have J:=qh (I.below D.o lr D.o.size);clear r I))
 go_ret;exact⟨rfl,V.o,J.o⟩
section
open Go.ChangeShapes Go.WideShapes Go.ChangeAt Go.RowKit
open Go.ChangeMaps (open_string shut_string)
theorem own:ownKnob Tryz.prog.godebug=none:=by kernel_rfl
theorem laidOut:laidOutB Tryz.prog = true:=by kernel_rfl
theorem znj{m:Int}(h:(Lit.int .u8 m).wf=true):m=((UInt8.ofNat m.toNat).toNat:Nat):=by
 have:=bounds_u8 h
 simp
 omega
end
