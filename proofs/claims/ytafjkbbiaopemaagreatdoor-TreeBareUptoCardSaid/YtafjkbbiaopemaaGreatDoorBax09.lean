/- Part of the proof. -/
import Derived.Lib.ItoaMem
import Derived.Test.YtafjkbbiaopemaaGreatDoorBax08
set_option linter.all false
set_option maxRecDepth 100000
set_option maxHeartbeats 0
namespace Go.Proofs.YtafjkbbiaopemaaGreatDoor.Lx
open Go.RowKit
def hexC(n:Nat):UInt8:=if n<10 then UInt8.ofNat (48+n) else UInt8.ofNat (87+n)
def qb(c:UInt8):List UInt8 :=
 if c == 34 || c == 92 then [92,c] else if c == 10 then [92,110] else if c<32 || c>126 then [92,120,hexC (c.toNat/16),hexC (c.toNat%16)] else [c]
def quote(b:List UInt8):List UInt8:=34 :: (b.flatMap qb++[34])
theorem qb_len(c:UInt8):1≤(qb c).length∧(qb c).length≤4:=by
 unfold qb;repeat (first|split|simp)
theorem zke(b:List UInt8):b.length≤(b.flatMap qb).length∧(b.flatMap qb).length≤4*b.length:=by
 induction b with
 | nil=>simp
 | cons c b ih =>
  have:=qb_len c;simp only[List.flatMap_cons,List.length_append,List.length_cons];omega
theorem qbs_snoc(l:List UInt8)(k:Nat)(x:UInt8)(h:l[k]? = some x):(l.take (k+1)).flatMap qb=(l.take k).flatMap qb++qb x:=by
 rw[List.take_add_one,h];simp
theorem zgr:∀n:Fin 16,hexV (hexC n.val)=some n.val:=by decide
theorem znj(c:UInt8):hexV (hexC (c.toNat/16))=some (c.toNat/16)∧hexV (hexC (c.toNat%16))=some (c.toNat%16):=by
 have:=c.toNat_lt;exact⟨zgr ⟨c.toNat/16,by omega⟩,zgr ⟨c.toNat%16,by omega⟩⟩
theorem zol(c:UInt8)(f:Nat)(r acc:List UInt8):text (f+1) (qb c++r) acc=text f r (acc++[c]):=by
 unfold qb
 split
 · rename_i h
   have h':c=34∨c=92:=by simpa using h
   have he:esc (c :: r)=some (c,2):=by unfold esc;simp only[];rw[if_pos h]
   show text (f+1) (92 :: c :: r) acc=_
   conv=>lhs;unfold text
   simp only[];rw[if_neg (by decide),if_pos (by decide),he]
   rfl
 · split
   · rename_i h
     have:c=10:=by simpa using h
     subst this
     show text (f+1) (92 :: 110 :: r) acc=_
     conv=>lhs;unfold text
     rfl
   · split
     · have hp:=znj c
       have hv:UInt8.ofNat (16*(c.toNat/16)+c.toNat%16)=c:=by
        rw[Nat.div_add_mod];exact UInt8.ofNat_toNat
       have he:esc (120 :: hexC (c.toNat/16) :: hexC (c.toNat%16) :: r)=some (c,4):=by
        unfold esc
        simp only[];rw[if_neg (by decide),if_neg (by decide),if_pos (by decide)];simp only[hp.1,hp.2,hv]
       show text (f+1) (92 :: 120 :: hexC (c.toNat/16) :: hexC (c.toNat%16) :: r) acc=_
       conv=>lhs;unfold text
       simp only[];rw[if_neg (by decide),if_pos (by decide),he]
       rfl
     · rename_i h1 h2 h3
       have h34:(c == 34)=false:=by cases h:c == 34 <;> simp_all
       have h92:(c == 92)=false:=by cases h:c == 92 <;> simp_all
       show text (f+1) (c :: r) acc=_
       conv=>lhs;unfold text
       simp only[h34,h92];rw[if_neg h3]
       rfl
theorem zls(b:List UInt8)(f:Nat)(acc:List UInt8)(hf:b.length<f)(x:List UInt8):text f (b.flatMap qb++34 :: x) acc=.inr (acc++b,x):=by
 induction b generalizing f acc with
 | nil =>
  obtain⟨f,rfl⟩:∃g,f=g+1:=⟨f-1,by omega⟩
  simp[text]
 | cons c b ih =>
  obtain⟨f,rfl⟩:∃g,f=g+1:=⟨f-1,by omega⟩;rw[List.flatMap_cons,List.append_assoc,zol,ih f _ (by simp at hf;omega)]
  simp
theorem quote_len(b:List UInt8):b.length+2≤(quote b).length∧(quote b).length≤4*b.length+2:=by
 have:=zke b
 unfold quote
 simp only[List.length_cons,List.length_append,List.length_nil];omega
theorem token_quote(b x:List UInt8):token (quote b++x)=.inr (4,b,0,x):=by
 have hl:=zke b;have e:quote b++x=34 :: (b.flatMap qb++34 :: x):=by simp[quote]
 rw[e]
 unfold token
 simp only[];rw[if_neg (by decide),if_neg (by decide),if_pos (by decide),zls b _ [] (by simp only[List.length_cons,List.length_append];omega)]
 simp
end Go.Proofs.YtafjkbbiaopemaaGreatDoor.Lx
namespace Go.Proofs.YtafjkbbiaopemaaGreatDoor.Tr
open Go.RowKit
def tx(s:ByteArray):List UInt8:=s.data.toList
def par(b:Bool)(l:List UInt8):List UInt8:=if b then 40 :: (l++[41]) else l
def Ex.sum(e:Ex):Bool:=(decide (e.op=m_plus)|| decide (e.op=m_minus)) && decide (e.args.length=2)
def Ex.prod(e:Ex):Bool:=decide (e.op=m_star) && decide (e.args.length=2)
def sepB(sep:List UInt8):List (List UInt8)→List UInt8
 | []=>[]
 | [a]=>a
 | a :: b :: l=>a++sep++sepB sep (b :: l)
def prB(op:ByteArray)(num:Int)(text:ByteArray)(args:List Ex)(ps:List (List UInt8)):List UInt8 :=
 if op=k_number then Lib.itoa num
 else if op=k_name then tx text
 else if op=k_text then Lx.quote (tx text)
 else if op=k_join then [106,111,105,110,40]++sepB [44,32] ps++[41]
 else if op=m_plus∨op=m_minus∨op=m_star then
  match args,ps with
  | [a,b],[pa,pb]=>par (decide (op=m_star) && a.sum) pa++[32]++tx op++[32]++par (b.sum || (decide (op=m_star) && b.prod)) pb
  | _,_=>[63]
 else [63]
mutual
def prE:Ex→List UInt8
 | .mk op num text _ args=>prB op num text args (prL args)
def prL:List Ex→List (List UInt8)
 | []=>[]
 | e :: es=>prE e :: prL es
end
theorem zcq:∀l:List Ex,prL l=l.map prE
 | []=>rfl
 | e :: es=>by rw[prL,zcq es];rfl
end Go.Proofs.YtafjkbbiaopemaaGreatDoor.Tr
