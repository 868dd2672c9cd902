/- Part of the proof. -/
import Derived.IntWalk
import Derived.Test.YtadopcjppijgiaaGreatSkp11
set_option linter.all false
set_option maxRecDepth 100000
set_option maxHeartbeats 0
namespace Go.Proofs.YtadopcjppijgiaaGreat
open Go.RowKit
theorem zju{w:World}{g o n:Nat}{l:List UInt8}(h:Rd w (some ⟨g,o,none⟩) n (u8s l))(f d:Nat)(hd:f+d≤n):Rd w (some ⟨g,o+f,none⟩) d (u8s ((l.drop f).take d)):=by
 have:=h.cut (A':=some ⟨g,o+f,none⟩) (m:=f+d) (k:=f) hd om (fun _ b off e=>by injection e with e;injection e with e1 e2;subst e1;subst e2;rfl);rw[zay,za9,show f+d-f=d by omega,List.drop_take,show f+d-f=d by omega]at this;exact this
def fK(b:List UInt8):Nat:=(b.getD 16 0).toNat
def fI(b:List UInt8):Nat:=(b.getD 17 0).toNat
def fC(b:List UInt8):Nat:=(b.getD 18 0).toNat
def fZ(b:List UInt8):Nat:=(b.getD 19 0).toNat
def fD(b:List UInt8):Nat:=beNat ((b.drop 20).take 8)
def fN(b:List UInt8):Nat:=beNat ((b.drop 28).take 2)
def fData(b:List UInt8):List UInt8:=(b.drop 30).take (fN b)
theorem zvv{b:List UInt8}{i:Nat}(h:i<b.length):b[i]? = some (b.getD i 0):=by
 rw[gd9,ge9 h]
 rfl
theorem Rd.get{w:World}{bb bo n:Nat}{l:List UInt8}(h:Rd w (some ⟨bb,bo,none⟩) n (u8s l)){i:Nat}(hi:i<n):w.cell? ⟨bb,bo+i,none⟩=some (.int .u8 (l.getD i 0).toNat):=by
 obtain⟨b,r,x,e,_,HX,hc⟩:=h.u8 hi
 injection e with e
 injection e with e1 e2
 subst e1;subst e2;rw[hc];have:=HX.o;rw[zvv (by rw[h.len];exact hi)]at this
 injection this with this
 rw[this]
theorem zza(b:List UInt8):(u8s (fData b)).length=(fData b).length:=zaa _
theorem zn2(k i c:Int)(id:Int)(A:Option Addr)(n m:Nat):∀v∈([.int .u8 k,.int .u64 id,.int .i64 i,.int .i64 c,.slice A n m]:List Value),v.oneCell'=true:=by
 intro v hv;simp only[List.mem_cons,List.not_mem_nil,or_false]at hv
 rcases hv with rfl|rfl|rfl|rfl|rfl <;> rfl
