/- Part of the proof. -/
import Derived.Test.YtafjkbbiaopemaaGreatDoorBax07
set_option linter.all false
set_option maxRecDepth 100000
set_option maxHeartbeats 0
namespace Go.Proofs.YtafjkbbiaopemaaGreatDoor
open Go.RowKit
section
theorem zj6{P:Program}{w:World}{fn:Func}{p p2:Tmp}{ty ty2:TypeId}(h:fn.results=#[.cell p ty,.cell p2 ty2])(tmps:Array Value)(g g2:Nat)(t t2:TypeId)(cs cs2:List Value)(hp:tmps.getD p undef=.pointer (some ⟨g,0,none⟩))(hp2:tmps.getD p2 undef=.pointer (some ⟨g2,0,none⟩))
 (hB:Blk w g t cs) (hB2:Blk w g2 t2 cs2) (d d2:TypeDesc) (hu:P.underlying ty=some d) (hd:d.isRow=true) (hi:(P.info? ty).map (·.size)=some cs.length) (hu2:P.underlying ty2=some d2) (hd2:d2.isRow=true) (hi2:(P.info? ty2).map (·.size)=some cs2.length):
 (results fn tmps).run P w=.ok (.tuple #[.agg cs.toArray,.agg cs2.toArray]) w:=by
 have hp':tmps[p]?.getD undef=.pointer (some ⟨g,0,none⟩):=by rw[←hp];simp
 have hp2':tmps[p2]?.getD undef=.pointer (some ⟨g2,0,none⟩):=by rw[←hp2];simp
 simp[results,h,hp',hp2',asAddr,run_loadVar_mid w g 0 ty cs d hB.range hu hd hi,run_loadVar_mid w g2 0 ty2 cs2 d2 hB2.range hu2 hd2 hi2]
theorem zpq{t:Lx.Tok}{l:List ByteArray}(h:isOf t l=true):t.kind≠6:=fun e=>by
 unfold isOf at h;rw[e]at h;revert h;simp
section
variable(g:Nat)(A:Option Addr)(n c i:Nat)(ts:List Lx.Tok)(t:Lx.Tok)
def Stm(w:World):Prop:=Blk w g 100 [.slice A n c,.int .i64 i]∧RdS 4 w A n (toksCells ts)
end
theorem Stm.below{g:Nat}{A:Option Addr}{n c i:Nat}{ts:List Lx.Tok}{w w':World}(h:Stm g A n c i ts w)(hb:Below w.heap.size w w'):Stm g A n c i ts w':=⟨h.1.below hb h.1.lt,h.2.below hb⟩
theorem Stm.alloc{g:Nat}{A:Option Addr}{n c i:Nat}{ts:List Lx.Tok}{w:World}(h:Stm g A n c i ts w)(o:Obj):Stm g A n c i ts (w.alloc o):=⟨h.1.alloc o,h.2.alloc o⟩
theorem Rd.new1(w:World)(t:TypeId)(T:ByteArray):Rd (w.alloc (.cells #[.string T] t)) (some ⟨w.heap.size,0,none⟩) 1 (strs [T]):=RdS.to1 (RdS.new w t [.string T] 1 rfl)
theorem fld3(a b c d:Value)(W:World):(Instr.field 72 (.agg #[a,b,c,d]) 3).run Tryz.prog W=.ok d W:=by kernel_rfl
theorem Rd.new1'{w:World}{t:TypeId}{T:ByteArray}{g:Nat}(hg:g=w.heap.size):Rd (w.alloc (.cells #[.string T] t)) (some ⟨g,0,none⟩) 1 (strs [T]):=by subst hg;exact Rd.new1 w t T
theorem zom(g:Nat)(A:Option Addr)(n c i:Nat)(ts:List Lx.Tok)(t:Lx.Tok)(T:ByteArray)(w:World)(h:Stm g A n c i ts w)(hn:ts.length=n)(hn8:n≤100000)(ht:tokAt ts i=t)(hno:isOf t [T]=false):
 Calls Tryz.prog 82 #[.pointer (some ⟨g,0,none⟩),.string T] w fun e w'=>e=.returned (.agg #[.int .i64 9,.int .i64 t.at_])∧Below w.heap.size w w':=by
 have HI:=qh (fun W A1 n1 c1 (h:Stm g A n c i ts W) (h2:Rd W A1 n1 (strs [T])) (h3:n1≤140737488355328)=>hno ▸ zk1 g A n c i ts t A1 n1 c1 [T] W h.1 h.2 hn hn8 ht h2 h3);have HP:=qh (fun W (h:Stm g A n c i ts W)=>ht ▸ zdn g A n c i ts W h.1 h.2 hn hn8);have HS:=qh h;clear h ht hn hno;have HZ:Hid (∀W,Below (w.alloc (.cells #[.int .i64 0,.int .i64 0] 29)).heap.size (w.alloc (.cells #[.int .i64 0,.int .i64 0] 29)) W→Blk W w.heap.size 29 [.int .i64 0,.int .i64 0]):=fun W hW=>(Blk.new w _ _).below hW sy
 unfold tokCells at *
 have hfld:=fld3 (.int .i64 t.kind) (.string (bytesOf t.text)) (.int .i64 t.num) (.int .i64 t.at_)
 go_enter Tryz.func82, Tryz.ntmps82
 go_wp2_with (first
  | (go_at_call 46;(with_reducible refine(HI.out _ (some ⟨w.heap.size+1,0,none⟩) 1 1 ((HS.out.alloc _).alloc _) (by exact Rd.new1' sy) om).mono ?_);rintro e w2 ⟨rfl,hB2⟩)
  | (go_at_call 53;refine(HP.out _ (((HS.out.alloc _).alloc _).below hB2)).mono ?_;rintro e w3 ⟨rfl,hB3⟩;have hB13:=(((Below.refl _ (w.alloc (.cells #[.int .i64 0,.int .i64 0] 29))).alloc lr (.cells #[.string T] 9)).trans (hB2.mono sy)).trans (hB3.mono (by have:=hB2.size;simp at this;simp;omega));have hz3:=HZ.out w3 hB13;obtain⟨z0,z1,f0,f1⟩:=hz3.two))
 refine bodyPost_ret (res_c rfl _ w.heap.size 29 [.int .i64 9,.int .i64 t.at_] rfl (by exact(hz3.set_ 0 _).set_ 1 _) _ Tryz.underlying29 rfl hd48) rfl ⟨rfl,?_⟩;exact((((Below.refl _ _).alloc lr _).trans (hB13.mono sy)).setCell lr _).setCell lr _
theorem zlx(g:Nat)(A:Option Addr)(n c i:Nat)(ts:List Lx.Tok)(t:Lx.Tok)(T:ByteArray)(w:World)(h:Stm g A n c i ts w)(hn:ts.length=n)(hn8:n≤100000)(hi:i≤100000)(ht:tokAt ts i=t)(hyes:isOf t [T]=true):
 Calls Tryz.prog 82 #[.pointer (some ⟨g,0,none⟩),.string T] w fun e w'=>e=.returned (.agg #[.int .i64 0,.int .i64 0])∧Blk w' g 100 [.slice A n c,.int .i64 ((i+1:Nat):Int)]∧Wrote g w w':=by
 have HI:=qh (fun W A1 n1 c1 (h:Stm g A n c i ts W) (h2:Rd W A1 n1 (strs [T])) (h3:n1≤140737488355328)=>hyes ▸ zk1 g A n c i ts t A1 n1 c1 [T] W h.1 h.2 hn hn8 ht h2 h3)
 have HX:Hid (∀W (h:Stm g A n c i ts W),Calls Tryz.prog 47 #[.pointer (some ⟨g,0,none⟩)] W fun e w'=>e=.returned (.agg (tokCells t).toArray)∧Blk w' g 100 [.slice A n c,.int .i64 ((i+1:Nat):Int)]∧Wrote g W w'):=fun W h=>by
  have:=zh3 g A n c i ts t W h.1 h.2 hn hn8 hi ht;rw[if_neg (zpq hyes)]at this;exact this
 have HS:=qh h;have hgl:=h.1.lt;clear h ht hn hyes;have HZ:Hid (∀W,Below (w.alloc (.cells #[.int .i64 0,.int .i64 0] 29)).heap.size (w.alloc (.cells #[.int .i64 0,.int .i64 0] 29)) W→Blk W w.heap.size 29 [.int .i64 0,.int .i64 0]):=fun W hW=>(Blk.new w _ _).below hW sy
 unfold tokCells at *
 go_enter Tryz.func82, Tryz.ntmps82
 go_wp2_with (first
  | (go_at_call 46;(with_reducible refine(HI.out _ (some ⟨w.heap.size+1,0,none⟩) 1 1 ((HS.out.alloc _).alloc _) (by exact Rd.new1' sy) om).mono ?_);rintro e w2 ⟨rfl,hB2⟩)
  | (go_at_call 47;refine(HX.out _ (((HS.out.alloc _).alloc _).below hB2)).mono ?_;rintro e w3 ⟨rfl,hb3,hW3⟩;have hB12:=((Below.refl _ (w.alloc (.cells #[.int .i64 0,.int .i64 0] 29))).alloc lr (.cells #[.string T] 9)).trans (hB2.mono sy);have hz3:=Blk.grown (HZ.out w2 hB12) hW3 (fun e=>by injection e with e;omega);obtain⟨z0,z1,f0,f1⟩:=hz3.two))
 have hne:g≠w.heap.size:=Nat.ne_of_lt hgl;refine bodyPost_ret (res_c rfl _ w.heap.size 29 [.int .i64 0,.int .i64 0] rfl (by exact(hz3.set_ 0 _).set_ 1 _) _ Tryz.underlying29 rfl hd48) rfl ⟨rfl,?_,?_⟩
 · exact(hb3.far hne _).far hne _
 · have h0:=Below.wrote (((Below.refl _ w).alloc lr _).trans (hB12.mono sy)) hW3
   exact(h0.setNew lr _).setNew lr _
theorem new_no(s:ByteArray)(w:World){p q:Nat}{ts:List Lx.Tok}(h:Lx.scan s.data.toList=((p,q),ts))(hp:p≠0):
 Calls Tryz.prog 19 #[.string s] w fun e w'=>e=.returned (.tuple #[.pointer none,.agg #[.int .i64 p,.int .i64 q]])∧Below w.heap.size w w':=by
 have HSC:=qh (fun w=>zjx s w h (n:=ts.length) rfl);have e1:((p:Int) != 0)=true:=by rw[bne_iff_ne];omega
 clear h hp;have HZ:Hid (∀W,Below (w.alloc (.cells #[.int .i64 0,.int .i64 0] 29)).heap.size (w.alloc (.cells #[.int .i64 0,.int .i64 0] 29)) W→Blk W w.heap.size 29 [.int .i64 0,.int .i64 0]∧Below w.heap.size w W):=fun W hW=>⟨(Blk.new w _ _).below hW sy,((Below.refl _ w).alloc lr _).trans (hW.mono sy)⟩
 go_enter Tryz.func19, Tryz.ntmps19
 go_wp2_with (go_at_call 45;refine(HSC.out _).mono ?_;rintro e w2 ⟨A2,c2,rfl,hc2,hown2,hB2⟩;obtain⟨hz,hBw⟩:=HZ.out w2 hB2;have hl1:=hz.lt)
 have hz':=hz.alloc (.cells #[.int .i64 p,.int .i64 q] 29);have hBw':=hBw.alloc hBw.size (.cells #[.int .i64 p,.int .i64 q] 29);have hnew:=Blk.new w2 29 [.int .i64 p,.int .i64 q];clear hz hBw hB2 hown2;generalize w2.alloc (.cells #[.int .i64 p,.int .i64 q] 29)=w3 at *;generalize w2.heap.size=u at *;obtain⟨z0,z1,f0,f1⟩:=hz'.two;obtain⟨x0,x1,k0,k1⟩:=hnew.two;have n1:¬u=w.heap.size:=om
 go_region
 go_wp2_with fail
 refine bodyPost_ret (zbm rfl _ w.heap.size 29 [.int .i64 p,.int .i64 q] rfl (by exact(hz'.drew.set_ 0 _).set_ 1 _) _ Tryz.underlying29 rfl hd48) rfl ?_;exact⟨rfl,(hBw'.drew.setCell lr _).setCell lr _⟩
theorem zpg(s:ByteArray)(w:World){n:Nat}{ts:List Lx.Tok}(h:Lx.scan s.data.toList=((0,0),ts))(hn:ts.length=n):
 Calls Tryz.prog 19 #[.string s] w fun e w'=>∃A c g,e=.returned (.tuple #[.pointer (some ⟨g,0,none⟩),.agg #[.int .i64 0,.int .i64 0]])∧w.heap.size≤g∧Stm g A n c 0 ts w'∧Below w.heap.size w w':=by
 have HSC:=qh (fun w=>zjx s w h hn);clear h;have HZ:Hid (∀W,Below (w.alloc (.cells #[.int .i64 0,.int .i64 0] 29)).heap.size (w.alloc (.cells #[.int .i64 0,.int .i64 0] 29)) W→Blk W w.heap.size 29 [.int .i64 0,.int .i64 0]∧Below w.heap.size w W):=fun W hW=>⟨(Blk.new w _ _).below hW sy,((Below.refl _ w).alloc lr _).trans (hW.mono sy)⟩
 go_enter Tryz.func19, Tryz.ntmps19
 go_wp2_with (go_at_call 45;refine(HSC.out _).mono ?_;rintro e w2 ⟨A2,c2,rfl,hc2,hown2,hB2⟩;obtain⟨hz,hBw⟩:=HZ.out w2 hB2;have hl1:=hz.lt;obtain⟨z0,z1,f0,f1⟩:=hz.two)
 refine bodyPost_ret (zbm rfl _ w.heap.size 29 [.int .i64 0,.int .i64 0] rfl (by exact(((hz.set_ 0 _).set_ 1 _).alloc _).alloc _) _ Tryz.underlying29 rfl hd48) rfl ?_;have ho:Only w2 ((w2.setCell ⟨w.heap.size,0,none⟩ (.int .i64 0)).setCell ⟨w.heap.size,1,none⟩ (.int .i64 0)) w.heap.size:=((Only.refl w2 w.heap.size).setCell 0 _).setCell 1 _;have hown3:=hown2.kept ho.grown (.inr (zbv hown2 hz (by decide)));have hB3:=ho.below hBw lr (Nat.le_of_lt hl1);refine⟨A2,c2,w2.heap.size+1,rfl,by omega,⟨?_,((RdS.of_own hown3).alloc _).alloc _⟩,(hB3.alloc hB3.size _).alloc (by have:=hB3.size;simp at this ⊢;omega) _⟩;exact Blk.new' (by simp[World.setCell]) rfl
end
end Go.Proofs.YtafjkbbiaopemaaGreatDoor
namespace Go.Proofs.YtafjkbbiaopemaaGreatDoor.Tr
open Go.RowKit
def FzOk(_:World)(_:Nat):Prop:=True
def RdF(F:Nat→Prop)(sz:Nat)(w:World)(A:Option Addr)(n:Nat)(xs:List Value):Prop:=RdS sz w A n xs∧(0<n→∀ad:Addr,A=some ad→F ad.block∧FzOk w ad.block)
structure Keep(F G:Nat→Prop)(w w':World):Prop where
 size:w.heap.size≤w'.heap.size
 block:∀k,F k→k<w.heap.size→w'.heap[k]? = w.heap[k]?
 to:∀k,F k→k<w.heap.size→G k
theorem RdF.keep{F G:Nat→Prop}{sz:Nat}{w w':World}{A:Option Addr}{n:Nat}{xs:List Value}(h:RdF F sz w A n xs)(hk:Keep F G w w'):RdF G sz w' A n xs:=by
 obtain⟨⟨h1,h2⟩,h3⟩:=h;refine⟨⟨h1,fun hn=>?_⟩,fun hn ad hA=>?_⟩
 · obtain⟨b,off,rfl,hb,hc⟩:=h2 hn
   exact⟨b,off,rfl,Nat.lt_of_lt_of_le hb hk.size,fun j u hu=>(World.cell?_of_block (a:=⟨b,off+j,none⟩) (hk.block b (h3 hn _ rfl).1 hb)).trans (hc j u hu)⟩
 · obtain⟨b,off,rfl,hb,_⟩:=h2 hn
   injection hA with hA
   subst hA;exact⟨hk.to b (h3 hn _ rfl).1 hb,trivial⟩
theorem RdF.nil(F:Nat→Prop)(sz:Nat)(w:World)(A:Option Addr):RdF F sz w A 0 []:=⟨⟨by simp,fun h=>absurd h om⟩,fun h=>absurd h om⟩
def Ex.op:Ex→ByteArray | .mk a _ _ _ _=>a
def Ex.num:Ex→Int | .mk _ a _ _ _=>a
def Ex.text:Ex→ByteArray | .mk _ _ a _ _=>a
def Ex.args:Ex→List Ex | .mk _ _ _ _ a=>a
def exC(e:Ex)(a:Option Addr × Nat):List Value:=[.string e.op,.int .i64 e.num,.string e.text,.int .i64 e.at_,.slice a.1 e.args.length a.2]
def zipC{α β:Type}(f:α→β→List Value):List α→List β→List Value
 | e :: es,a :: al=>f e a++zipC f es al
 | _,_=>[]
theorem zby{α β:Type}(f:α→β→List Value):∀(es:List α) (sl:List β) (e:α) (a:β),sl.length=es.length→zipC f (es++[e]) (sl++[a])=zipC f es sl++f e a
 | [],[],_,_,_=>by simp[zipC]
 | x :: es,y :: sl,e,a,h=>by
  have h5:=zby f es sl e a (by simpa using h);simp only[List.cons_append,zipC,h5,List.append_assoc]
theorem zdh{α β:Type}(f:α→β→List Value)(k:Nat)(hf:∀e a,(f e a).length=k):∀(es:List α) (sl:List β) (i:Nat) (e:α) (a:β) (j:Nat) (v:Value),es[i]? = some e→sl[i]? = some a→(f e a)[j]? = some v→(zipC f es sl)[i*k+j]? = some v
 | [],_,i,_,_,_,_,h,_,_=>by simp at h
 | _ :: _,[],i,_,_,_,_,_,h,_=>by simp at h
 | x :: es,y :: sl,0,e,a,j,v,h1,h2,h3=>by
  simp at h1 h2
  subst h1;subst h2;have hj:=(gi9.1 h3).1;simp only[zipC,Nat.zero_mul,Nat.zero_add];rw[ll9 hj];exact h3
 | x :: es,y :: sl,i+1,e,a,j,v,h1,h2,h3=>by
  simp at h1 h2
  have h5:=zdh f k hf es sl i e a j v h1 h2 h3;simp only[zipC];rw[ar9 (by rw[hf,Nat.succ_mul];omega),hf,show(i+1)*k+j-k=i*k+j by rw[Nat.succ_mul];omega];exact h5
inductive ArgsIn (F:Nat→Prop) (w:World):Option Addr→List Ex→Prop
 | mk (A:Option Addr) (es:List Ex) (sl:List (Option Addr × Nat)) (hl:sl.length=es.length) (hr:RdF F 5 w A es.length (zipC exC es sl)) (hi:∀(i:Nat) (e:Ex) (a:Option Addr × Nat),es[i]? = some e→sl[i]? = some a→ArgsIn F w a.1 e.args):ArgsIn F w A es
theorem ArgsIn.keep{F G:Nat→Prop}{w w':World}(hk:Keep F G w w'){A:Option Addr}{es:List Ex}(h:ArgsIn F w A es):ArgsIn G w' A es:=by
 induction h with
 | mk A es sl hl hr hi ih=>exact .mk A es sl hl (hr.keep hk) ih
theorem ArgsIn.nil(F:Nat→Prop)(w:World)(A:Option Addr):ArgsIn F w A []:=.mk A [] [] rfl (RdF.nil F 5 w A) fun _ _ _ h=>(by simp at h)
def rfC(r:Rf):List Value:=[.string r.name,.int .i64 r.at_]
def RfsIn(F:Nat→Prop)(w:World)(A:Option Addr)(l:List Rf):Prop:=RdF F 2 w A l.length (l.flatMap rfC)
theorem RfsIn.keep{F G:Nat→Prop}{w w':World}(hk:Keep F G w w'){A:Option Addr}{l:List Rf}(h:RfsIn F w A l):RfsIn G w' A l:=RdF.keep h hk
structure StA where
 a:Option Addr × Nat
 b:Option Addr × Nat
 c:Option Addr × Nat
 r:Option Addr × Nat
 y:Option Addr × Nat
 z:Option Addr × Nat
def St.kind:St→ByteArray | .mk a _ _ _ _ _ _ _ _ _ _=>a
def St.at_:St→Int | .mk _ a _ _ _ _ _ _ _ _ _=>a
def St.name:St→Rf | .mk _ _ a _ _ _ _ _ _ _ _=>a
def St.ea:St→Ex | .mk _ _ _ a _ _ _ _ _ _ _=>a
def St.eb:St→Ex | .mk _ _ _ _ a _ _ _ _ _ _=>a
def St.ec:St→Ex | .mk _ _ _ _ _ a _ _ _ _ _=>a
def St.routes:St→List Rf | .mk _ _ _ _ _ _ a _ _ _ _=>a
def St.block:St→Rf | .mk _ _ _ _ _ _ _ a _ _ _=>a
def St.tag:St→Rf | .mk _ _ _ _ _ _ _ _ a _ _=>a
def St.body:St→List St | .mk _ _ _ _ _ _ _ _ _ a _=>a
def St.els:St→List St | .mk _ _ _ _ _ _ _ _ _ _ a=>a
def stC(s:St)(p:StA):List Value :=
 [.string s.kind,.int .i64 s.at_,.string s.name.name,.int .i64 s.name.at_]++(exC s.ea p.a++(exC s.eb p.b++(exC s.ec p.c ++
   [.slice p.r.1 s.routes.length p.r.2,.string s.block.name,.int .i64 s.block.at_,.string s.tag.name,.int .i64 s.tag.at_,.slice p.y.1 s.body.length p.y.2,.slice p.z.1 s.els.length p.z.2])))
inductive BodyIn (F:Nat→Prop) (w:World):Option Addr→List St→Prop
 | mk (A:Option Addr) (ss:List St) (sl:List StA) (hl:sl.length=ss.length) (hr:RdF F 26 w A ss.length (zipC stC ss sl))
     (he:∀(i:Nat) (s:St) (p:StA),ss[i]? = some s→sl[i]? = some p→ArgsIn F w p.a.1 s.ea.args∧ArgsIn F w p.b.1 s.eb.args∧ArgsIn F w p.c.1 s.ec.args∧RfsIn F w p.r.1 s.routes)
     (hy:∀(i:Nat) (s:St) (p:StA),ss[i]? = some s→sl[i]? = some p→BodyIn F w p.y.1 s.body)
     (hz:∀(i:Nat) (s:St) (p:StA),ss[i]? = some s→sl[i]? = some p→BodyIn F w p.z.1 s.els):BodyIn F w A ss
theorem BodyIn.keep{F G:Nat→Prop}{w w':World}(hk:Keep F G w w'){A:Option Addr}{ss:List St}(h:BodyIn F w A ss):BodyIn G w' A ss:=by
 induction h with
 | mk A ss sl hl hr he hy hz ihy ihz =>
  exact .mk A ss sl hl (hr.keep hk) (fun i s p h1 h2=>by
   obtain⟨x1,x2,x3,x4⟩:=he i s p h1 h2
   exact⟨x1.keep hk,x2.keep hk,x3.keep hk,x4.keep hk⟩) ihy ihz
theorem BodyIn.nil(F:Nat→Prop)(w:World)(A:Option Addr):BodyIn F w A []:=.mk A [] [] rfl (RdF.nil F 26 w A) (fun _ _ _ h=>(by simp at h)) (fun _ _ _ h=>(by simp at h)) fun _ _ _ h=>(by simp at h)
def StIn(F:Nat→Prop)(w:World)(s:St)(p:StA):Prop:=(ArgsIn F w p.a.1 s.ea.args∧ArgsIn F w p.b.1 s.eb.args∧ArgsIn F w p.c.1 s.ec.args∧RfsIn F w p.r.1 s.routes)∧BodyIn F w p.y.1 s.body∧BodyIn F w p.z.1 s.els
theorem StIn.keep{F G:Nat→Prop}{w w':World}(hk:Keep F G w w'){s:St}{p:StA}(h:StIn F w s p):StIn G w' s p:=by
 obtain⟨⟨x1,x2,x3,x4⟩,x5,x6⟩:=h;exact⟨⟨x1.keep hk,x2.keep hk,x3.keep hk,x4.keep hk⟩,x5.keep hk,x6.keep hk⟩
def plC(s:Pl)(p:(Option Addr × Nat) × (Option Addr × Nat)):List Value:=[.string s.node.name,.int .i64 s.node.at_]++(exC s.delay p.1++exC s.flags p.2)
def PlIn(F:Nat→Prop)(w:World)(s:Pl)(p:(Option Addr × Nat) × (Option Addr × Nat)):Prop:=ArgsIn F w p.1.1 s.delay.args∧ArgsIn F w p.2.1 s.flags.args
def PlsIn(F:Nat→Prop)(w:World)(A:Option Addr)(l:List Pl):Prop:=∃sl:List ((Option Addr × Nat) × (Option Addr × Nat)),sl.length=l.length∧RdF F 12 w A l.length (zipC plC l sl)∧∀(i:Nat) (s:Pl) (p:(Option Addr × Nat) × (Option Addr × Nat)),l[i]? = some s→sl[i]? = some p→PlIn F w s p
theorem PlIn.keep{F G:Nat→Prop}{w w':World}(hk:Keep F G w w'){s:Pl}{p:(Option Addr × Nat) × (Option Addr × Nat)}(h:PlIn F w s p):PlIn G w' s p:=⟨h.1.keep hk,h.2.keep hk⟩
theorem PlsIn.keep{F G:Nat→Prop}{w w':World}(hk:Keep F G w w'){A:Option Addr}{l:List Pl}(h:PlsIn F w A l):PlsIn G w' A l:=by
 obtain⟨sl,h1,h2,h3⟩:=h;exact⟨sl,h1,h2.keep hk,fun i s p h4 h5=>(h3 i s p h4 h5).keep hk⟩
theorem PlsIn.nil(F:Nat→Prop)(w:World)(A:Option Addr):PlsIn F w A []:=⟨[],rfl,RdF.nil F 12 w A,fun _ _ _ h=>(by simp at h)⟩
def dcC(s:Dc)(p:(Option Addr × Nat) × (Option Addr × Nat)):List Value:=[.string s.kind,.string s.name.name,.int .i64 s.name.at_]++(exC s.value p.1++[.slice p.2.1 s.places.length p.2.2])
def DcIn(F:Nat→Prop)(w:World)(s:Dc)(p:(Option Addr × Nat) × (Option Addr × Nat)):Prop:=ArgsIn F w p.1.1 s.value.args∧PlsIn F w p.2.1 s.places
def DcsIn(F:Nat→Prop)(w:World)(A:Option Addr)(l:List Dc):Prop:=∃sl:List ((Option Addr × Nat) × (Option Addr × Nat)),sl.length=l.length∧RdF F 9 w A l.length (zipC dcC l sl)∧∀(i:Nat) (s:Dc) (p:(Option Addr × Nat) × (Option Addr × Nat)),l[i]? = some s→sl[i]? = some p→DcIn F w s p
theorem DcIn.keep{F G:Nat→Prop}{w w':World}(hk:Keep F G w w'){s:Dc}{p:(Option Addr × Nat) × (Option Addr × Nat)}(h:DcIn F w s p):DcIn G w' s p:=⟨h.1.keep hk,h.2.keep hk⟩
theorem DcsIn.keep{F G:Nat→Prop}{w w':World}(hk:Keep F G w w'){A:Option Addr}{l:List Dc}(h:DcsIn F w A l):DcsIn G w' A l:=by
 obtain⟨sl,h1,h2,h3⟩:=h;exact⟨sl,h1,h2.keep hk,fun i s p h4 h5=>(h3 i s p h4 h5).keep hk⟩
theorem DcsIn.nil(F:Nat→Prop)(w:World)(A:Option Addr):DcsIn F w A []:=⟨[],rfl,RdF.nil F 9 w A,fun _ _ _ h=>(by simp at h)⟩
structure Wr(L:List Nat)(w w':World):Prop where
 os:w'.os=w.os
 tape:w'.tape=w.tape
 output:w'.output=w.output
 size:w.heap.size≤w'.heap.size
 block:∀k,k<w.heap.size→k ∉ L→w'.heap[k]? = w.heap[k]?
theorem Wr.refl(L:List Nat)(w:World):Wr L w w:=⟨rfl,rfl,rfl,lr,fun _ _ _=>rfl⟩
theorem Wr.trans{L:List Nat}{w w1 w2:World}(h:Wr L w w1)(k:Wr L w1 w2):Wr L w w2 :=
 ⟨k.os.trans h.os,k.tape.trans h.tape,k.output.trans h.output,Nat.le_trans h.size k.size,fun i hi hL=>(k.block i (Nat.lt_of_lt_of_le hi h.size) hL).trans (h.block i hi hL)⟩
theorem Wr.of_below{L:List Nat}{w w1:World}(h:Below w.heap.size w w1):Wr L w w1:=⟨h.os,h.tape,h.output,h.size,fun k hk _=>h.block k hk⟩
theorem Wr.of_wrote{L:List Nat}{g:Nat}{w w1:World}(h:Wrote g w w1)(hg:g∈L):Wr L w w1:=⟨h.os,h.tape,h.output,h.size,fun k hk hL=>h.block k hk fun e=>hL (by injection e with e;rw[e];exact hg)⟩
theorem Wr.below{L:List Nat}{B:Nat}{w0 w w1:World}(h:Wr L w w1)(hb:Below B w0 w)(hL:∀g∈L,B≤g)(hB:B≤w.heap.size):Below B w0 w1 :=
 ⟨h.os.trans hb.os,h.tape.trans hb.tape,h.output.trans hb.output,Nat.le_trans hb.size h.size,fun k hk=>(h.block k (Nat.lt_of_lt_of_le hk hB) fun hm=>absurd (hL k hm) om).trans (hb.block k hk)⟩
theorem Wr.keep{L:List Nat}{w w':World}(h:Wr L w w')(F G:Nat→Prop)(hF:∀k,F k→k<w.heap.size→k ∉ L)(hG:∀k,F k→k<w.heap.size→G k):Keep F G w w':=⟨h.size,fun k hf hk=>h.block k hk (hF k hf hk),hG⟩
theorem ze2{w:World}{B:Nat}{o o':Obj}{w0:World}(h:Below B w0 w)(hB:B≤w.heap.size):Below B w0 ((w.alloc o).alloc o'):=(h.alloc hB o).alloc (by simp;omega) o'
end Go.Proofs.YtafjkbbiaopemaaGreatDoor.Tr
