/- Part of the proof. -/
import Derived.Test.YtpgpaenloaphaaaGreatSmx16
import Derived.Test.YtpgpaenloaphaaaGreatSmx17
set_option maxRecDepth 100000
set_option maxHeartbeats 0
namespace Go.Proofs.YtpgpaenloaphaaaGreat
open Go.RowKit
def mixed(x y:List UInt8)(i:Nat):List UInt8:=Ch.xor (x.take i) (y.take i)++x.drop i
theorem zrm(x y:List UInt8)(i:Nat)(h:x.length=y.length):(mixed x y i).length=x.length:=by
 unfold mixed
 rw[la9,Ch.xor_len _ _ (by simp[h]),List.length_take,List.length_drop];omega
theorem zrn(x y:List UInt8)(i:Nat)(h:x.length=y.length)(hi:i<x.length):(mixed x y i)[i]? = x[i]?:=by
 unfold mixed
 have hl:(Ch.xor (x.take i) (y.take i)).length=i:=by rw[Ch.xor_len _ _ (by simp[h]),List.length_take];omega
 rw[ar9 om,hl,Nat.sub_self,List.getElem?_drop,Nat.add_zero]
theorem zrl(x y:List UInt8)(i:Nat)(h:x.length=y.length){a b:UInt8}(ha:x[i]? = some a)(hb:y[i]? = some b):(mixed x y i).set i (a ^^^ b)=mixed x y (i+1):=by
 unfold mixed
 have hi:=(gi9.1 ha).1;have hl:(Ch.xor (x.take i) (y.take i)).length=i:=by rw[Ch.xor_len _ _ (by simp[h]),List.length_take];omega
 have hd:x.drop i=a :: x.drop (i+1):=by
  rw[List.drop_eq_getElem_cons hi];congr 1;have:=(gi9.1 ha).2;exact this
 rw[List.set_append_right _ _ om,hl,Nat.sub_self,hd,List.set_cons_zero,List.take_add_one,List.take_add_one,ha,hb]
 unfold Ch.xor
 rw[List.zipWith_append (by simp[h])]
 simp
theorem zro(x y:List UInt8)(h:x.length=y.length):mixed x y x.length=Ch.xor x y:=by
 unfold mixed
 rw[tk lr,tk om,List.drop_of_length_le lr,List.append_nil]

theorem zra{w:World}{base n c:Nat}{e:TypeId}{A:Option Addr}{xs:List Value}(h:w.ownsRow base e 1 (.slice A n c) n xs)(hn:0<n):∃g rest,A=some ⟨g,0,none⟩∧base≤g∧Blk w g e (xs++rest):=by
 rcases h.2 with ⟨_,h0⟩|⟨g,cap,cur,hv,hb,hg,hnc,_,hcs,htake⟩
 · omega
 · injection hv with hA
   subst hA;refine⟨g,cur.toList.drop n,rfl,hb,?_⟩
   unfold Blk
   rw[hg,←htake,Nat.mul_one,List.take_append_drop]
def PaysR(w:World)(A:Option Addr)(m:Nat)(ks:List (List UInt8)):Prop :=
 ks.length=m∧(∀k∈ks,k.length=32)∧(0<m→∃b off,A=some ⟨b,off,none⟩∧∀i k,ks[i]? = some k→Rd w (some ⟨b,off+i*32,none⟩) 32 (u8s k))
theorem PaysR.below{w w':World}{A:Option Addr}{m:Nat}{ks:List (List UInt8)}(h:PaysR w A m ks)(hB:Below w.heap.size w w'):PaysR w' A m ks :=
 ⟨h.1,h.2.1,fun hm=>by
  obtain⟨b,off,e,hr⟩:=h.2.2 hm
  exact⟨b,off,e,fun i k hi=>(hr i k hi).below hB⟩⟩
theorem eSl:ElemIs Tryz.prog 22 1 24:=ElemIs.of (z:=.slice none 0 0) kr rfl om
theorem iSl:(Tryz.prog.info? 22).map (fun i=>(i.zero,i.size,i.bytes))=some (some (.slice none 0 0),1,24):=by kernel_rfl
end Go.Proofs.YtpgpaenloaphaaaGreat
