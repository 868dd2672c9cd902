/- Part of the proof. -/
import Derived.Test.YtafjkbbiaopemaaGreatDoorBax35
set_option linter.all false
set_option maxRecDepth 100000
set_option maxHeartbeats 0
namespace Go.Proofs.YtafjkbbiaopemaaGreatDoor.Tr
open Go.RowKit
section
mutual
def bare:Ex→Ex
 | .mk op num text _ args=>.mk op num text 0 (bareL args)
def bareL:List Ex→List Ex
 | []=>[]
 | e :: l=>bare e :: bareL l
end
theorem zaj:∀l:List Ex,bareL l=l.map bare
 | []=>rfl
 | e :: es=>by rw[bareL,zaj es];rfl
def At(ts:List Lx.Tok):Nat→List Ky→Prop
 | _,[]=>True
 | i,k :: l=>(i<ts.length∧Lx.key (tokAt ts i)=k)∧At ts (i+1) l
theorem At.left{ts:List Lx.Tok}: ∀ {i:Nat} {l r:List Ky},At ts i (l++r)→At ts i l
 | _,[],_,_=>trivial
 | _,_ :: _,_,h=>⟨h.1,At.left h.2⟩
theorem At.right{ts:List Lx.Tok}: ∀ {i:Nat} {l r:List Ky},At ts i (l++r)→At ts (i+l.length) r
 | _,[],_,h=>h
 | i,k :: l,r,h=>by
  have:=At.right h.2;rw[List.length_cons,show i+(l.length+1)=i+1+l.length by omega];exact this
theorem At.len{ts:List Lx.Tok}: ∀ {i:Nat} {l:List Ky},At ts i l→l=[]∨i+l.length≤ts.length
 | _,[],_=>.inl rfl
 | i,k :: l,h=>by
  rcases At.len h.2 with rfl|h2
  · have:=h.1.1
    exact .inr (by simp;omega)
  · exact .inr (by rw[List.length_cons];omega)
def isK(k:Ky)(l:List ByteArray):Bool:=(decide (k.1=2)|| decide (k.1=5)) && bmem (bytesOf k.2.1) l
section
variable{ts us:List Lx.Tok}
def NoOp(r:List Ky):Prop:=∃k l,r=k :: l∧isK k [m_star]=false∧isK k [m_plus,m_minus]=false
theorem NoOp.mk{k:Ky}{l:List Ky}(h:(isK k [m_star] || isK k [m_plus,m_minus])=false):NoOp (k :: l):=by
 rw[Bool.or_eq_false_iff]at h;exact⟨k,l,rfl,h.1,h.2⟩
variable{ex:PS→Ex × PS}{m:Nat}
end
end
section
open Lx (Sep NameOk TkP)
def bodyK(l:List Ky):List Ky:=mrk m_lbr :: (l++[mrk m_rbr])
section
variable{us:List Lx.Tok}(HP:∀i,TkP (tokAt us i))
include HP
omit HP in
theorem Pz.body{p:List UInt8}{ks:List Ky}(h:Pz false p ks)(d:Nat):Pz false (prBody d p) (bodyK ks):=by
 have h1:Pz false [32,123,10] [mrk m_lbr]:=Pz.cat (l1:=[32]) (Pz.blank (by decide)) (Pz.cat (l1:=[123]) (Pz.mark (by decide)) (l2:=[10]) (Pz.blank (by decide)));have h2:Pz false [125] [mrk m_rbr]:=Pz.mark (by decide);have h3:=h1.cat (h.cat ((Pz.blanks (2*d)).cat h2))
 unfold prBody bodyK ind
 simpa[List.append_assoc] using h3
end
end
end Go.Proofs.YtafjkbbiaopemaaGreatDoor.Tr
