/- Part of the proof. -/
import Derived.Lib.ItoaMem
import Derived.Lib.ItoaLen
import Derived.Test.YtafjkbbiaopemaaGreatDoorPrx06
set_option linter.all false
set_option maxRecDepth 100000
set_option maxHeartbeats 0
namespace Go.Proofs.YtafjkbbiaopemaaGreatDoor.Lx
open Go.RowKit
def hexC(n:Nat):UInt8:=if n<10 then UInt8.ofNat (48+n) else UInt8.ofNat (87+n)
def qb(c:UInt8):List UInt8 :=
 if c == 34 || c == 92 then [92,c] else if c == 10 then [92,110] else if c<32 || c>126 then [92,120,hexC (c.toNat/16),hexC (c.toNat%16)] else [c]
def quote(b:List UInt8):List UInt8:=34 :: (b.flatMap qb++[34])
theorem qb_len(c:UInt8):1≤(qb c).length∧(qb c).length≤4:=by
 unfold qb;repeat (first|split|simp)
theorem zk2(b:List UInt8):b.length≤(b.flatMap qb).length∧(b.flatMap qb).length≤4*b.length:=by
 induction b with
 | nil=>simp
 | cons c b ih =>
  have:=qb_len c;simp only[List.flatMap_cons,List.length_append,List.length_cons];omega
theorem qbs_snoc(l:List UInt8)(k:Nat)(x:UInt8)(h:l[k]? = some x):(l.take (k+1)).flatMap qb=(l.take k).flatMap qb++qb x:=by
 rw[List.take_add_one,h];simp
theorem zgx:∀n:Fin 16,hexV (hexC n.val)=some n.val:=by decide
theorem zov(c:UInt8):hexV (hexC (c.toNat/16))=some (c.toNat/16)∧hexV (hexC (c.toNat%16))=some (c.toNat%16):=by
 have:=c.toNat_lt;exact⟨zgx ⟨c.toNat/16,by omega⟩,zgx ⟨c.toNat%16,by omega⟩⟩
theorem zpx(c:UInt8)(f:Nat)(r acc:List UInt8):text (f+1) (qb c++r) acc=text f r (acc++[c]):=by
 unfold qb
 split
 · rename_i h
   have h':c=34∨c=92:=by simpa using h
   have he:esc (c :: r)=some (c,2):=by unfold esc;simp only[];rw[if_pos h]
   show text (f+1) (92 :: c :: r) acc=_
   conv=>lhs;unfold text
   simp only[];rw[if_neg (by decide),if_pos (by decide),he]
   rfl
 · split
   · rename_i h
     have:c=10:=by simpa using h
     subst this
     show text (f+1) (92 :: 110 :: r) acc=_
     conv=>lhs;unfold text
     rfl
   · split
     · have hp:=zov c
       have hv:UInt8.ofNat (16*(c.toNat/16)+c.toNat%16)=c:=by
        rw[Nat.div_add_mod];exact UInt8.ofNat_toNat
       have he:esc (120 :: hexC (c.toNat/16) :: hexC (c.toNat%16) :: r)=some (c,4):=by
        unfold esc
        simp only[];rw[if_neg (by decide),if_neg (by decide),if_pos (by decide)];simp only[hp.1,hp.2,hv]
       show text (f+1) (92 :: 120 :: hexC (c.toNat/16) :: hexC (c.toNat%16) :: r) acc=_
       conv=>lhs;unfold text
       simp only[];rw[if_neg (by decide),if_pos (by decide),he]
       rfl
     · rename_i h1 h2 h3
       have h34:(c == 34)=false:=by cases h:c == 34 <;> simp_all
       have h92:(c == 92)=false:=by cases h:c == 92 <;> simp_all
       show text (f+1) (c :: r) acc=_
       conv=>lhs;unfold text
       simp only[h34,h92];rw[if_neg h3]
       rfl
theorem zmt(b:List UInt8)(f:Nat)(acc:List UInt8)(hf:b.length<f)(x:List UInt8):text f (b.flatMap qb++34 :: x) acc=.inr (acc++b,x):=by
 induction b generalizing f acc with
 | nil =>
  obtain⟨f,rfl⟩:∃g,f=g+1:=⟨f-1,by omega⟩
  simp[text]
 | cons c b ih =>
  obtain⟨f,rfl⟩:∃g,f=g+1:=⟨f-1,by omega⟩;rw[List.flatMap_cons,List.append_assoc,zpx,ih f _ (by simp at hf;omega)]
  simp
theorem quote_len(b:List UInt8):b.length+2≤(quote b).length∧(quote b).length≤4*b.length+2:=by
 have:=zk2 b
 unfold quote
 simp only[List.length_cons,List.length_append,List.length_nil];omega
theorem token_quote(b x:List UInt8):token (quote b++x)=.inr (4,b,0,x):=by
 have hl:=zk2 b;have e:quote b++x=34 :: (b.flatMap qb++34 :: x):=by simp[quote]
 rw[e]
 unfold token
 simp only[];rw[if_neg (by decide),if_neg (by decide),if_pos (by decide),zmt b _ [] (by simp only[List.length_cons,List.length_append];omega)]
 simp
end Go.Proofs.YtafjkbbiaopemaaGreatDoor.Lx
namespace Go.Proofs.YtafjkbbiaopemaaGreatDoor.Tr
open Go.RowKit
def tx(s:ByteArray):List UInt8:=s.data.toList
def par(b:Bool)(l:List UInt8):List UInt8:=if b then 40 :: (l++[41]) else l
def Ex.sum(e:Ex):Bool:=(decide (e.op=m_plus)|| decide (e.op=m_minus)) && decide (e.args.length=2)
def Ex.prod(e:Ex):Bool:=decide (e.op=m_star) && decide (e.args.length=2)
def sepB(sep:List UInt8):List (List UInt8)→List UInt8
 | []=>[]
 | [a]=>a
 | a :: b :: l=>a++sep++sepB sep (b :: l)
def prB(op:ByteArray)(num:Int)(text:ByteArray)(args:List Ex)(ps:List (List UInt8)):List UInt8 :=
 if op=k_number then Lib.itoa num
 else if op=k_name then tx text
 else if op=k_text then Lx.quote (tx text)
 else if op=k_join then [106,111,105,110,40]++sepB [44,32] ps++[41]
 else if op=m_plus∨op=m_minus∨op=m_star then
  match args,ps with
  | [a,b],[pa,pb]=>par (decide (op=m_star) && a.sum) pa++[32]++tx op++[32]++par (b.sum || (decide (op=m_star) && b.prod)) pb
  | _,_=>[63]
 else [63]
mutual
def prE:Ex→List UInt8
 | .mk op num text _ args=>prB op num text args (prL args)
def prL:List Ex→List (List UInt8)
 | []=>[]
 | e :: es=>prE e :: prL es
end
theorem zct:∀l:List Ex,prL l=l.map prE
 | []=>rfl
 | e :: es=>by rw[prL,zct es];rfl
end Go.Proofs.YtafjkbbiaopemaaGreatDoor.Tr
namespace Go.Proofs.YtafjkbbiaopemaaGreatDoor
open Go.RowKit
theorem q_yes{x:UInt8}(h:(x == 34 || x == 92)=true):((x.toNat:Int) == 34)=true∨(((x.toNat:Int) == 34)=false∧((x.toNat:Int) == 92)=true):=by
 have h':x=34∨x=92:=by simpa using h
 rcases h' with rfl|rfl
 · exact .inl rfl
 · exact .inr ⟨rfl,rfl⟩
theorem q_no{x:UInt8}(h:(x == 34 || x == 92)=false):((x.toNat:Int) == 34)=false∧((x.toNat:Int) == 92)=false:=by
 have h':x≠34∧x≠92:=by simpa using h
 exact⟨za2 (k:=34) h'.1,za2 (k:=92) h'.2⟩
theorem zpn:∀(i:Nat) (h:i<16),((({ data:=#[48,49,50,51,52,53,54,55,56,57,97,98,99,100,101,102] } : ByteArray)[i]'h).toNat:Int)=((Lx.hexC i).toNat:Int):=by decide
theorem hex_hi(x:UInt8)(k:((x.toNat:Int)/16).toNat<16):((({ data:=#[48,49,50,51,52,53,54,55,56,57,97,98,99,100,101,102] } : ByteArray)[((x.toNat:Int)/16).toNat]'k).toNat:Int)=((Lx.hexC (x.toNat/16)).toNat:Int):=by
 have e:((x.toNat:Int)/16).toNat=x.toNat/16:=om;rw[zpn _ k,e]
theorem hex_lo(x:UInt8)(k:((x.toNat:Int)%16).toNat<16):((({ data:=#[48,49,50,51,52,53,54,55,56,57,97,98,99,100,101,102] } : ByteArray)[((x.toNat:Int)%16).toNat]'k).toNat:Int)=((Lx.hexC (x.toNat%16)).toNat:Int):=by
 have e:((x.toNat:Int)%16).toNat=x.toNat%16:=om;rw[zpn _ k,e]
theorem and15:∀(n:Fin 256),bits .and .u8 (n.val:Int) 15=(n.val:Int)%16:=by decide +kernel
theorem zre(x:UInt8):bits .and .u8 (x.toNat:Int) 15=(x.toNat:Int)%16:=and15 ⟨x.toNat,x.toNat_lt⟩
theorem zk1(A:Option Addr)(n c:Nat)(l:List UInt8)(w:World)(h:Rd w A n (u8s l))(hn:n≤35184372080000):
 Calls Tryz.prog 94 #[.slice A n c] w fun e w'=>e=.returned (.string (bytesOf (Lx.quote l)))∧Below w.heap.size w w':=by
 have hl:l.length=n:=h.len;have HL:=qh hl;clear hl
 go_enter Tryz.func94, Tryz.ntmps94
 go_wp2_with fail
 go_loopg [3,9] n (fun k o q wr=>∃(i:Nat) (acc:List UInt8) (A':Option Addr) (c':Nat),i≤n∧k=n-i∧q=.int .i64 i∧o=.slice A' acc.length c'∧acc.length≤4*i+1 ∧
   wr.ownsRow w.heap.size 5 1 (.slice A' acc.length c') acc.length (u8s acc)∧Below w.heap.size w wr∧Hid (acc=34 :: (l.take i).flatMap Lx.qb))
 case atStart =>
  refine⟨0,[34],some ⟨w.heap.size,0,none⟩,1,by omega,rfl,rfl,rfl,by simp,?_,(Below.refl _ _).alloc lr _,by show _=_;simp⟩;exact zc2 (cs:=u8s [34]) (Blk.new' rfl rfl) lr 1 1 1 lr rfl om
 case round =>
  obtain⟨i,acc,A',c',hi,hgk,rfl,rfl,hacc,hown,hBr,HA⟩:=hrel;have HGK:=qh hgk;clear hgk
  by_cases hlt:i<n
  · obtain⟨b,off,x,rfl,hb,HX,hc⟩:=(h.below hBr).u8 hlt
    have HM:Hid (n-(i+1)<gk):=by have:=HGK.out;show n-(i+1)<gk;omega
    have HN:Hid (acc++Lx.qb x=34 :: (l.take (i+1)).flatMap Lx.qb):=by show _=_;rw[HA.out,Lx.qbs_snoc l i x HX.out];rfl
    have hql:=(Lx.qb_len x).2;clear hql
    by_cases hq:(x == 34 || x == 92)=true
    · have hqb:Lx.qb x=[92,x]:=by unfold Lx.qb;rw[if_pos hq]
      rw[hqb]at HN;have hcs:=q_yes hq;clear hq hqb HX HGK HA
      rcases hcs with e1|⟨e1,e2⟩
      all_goals
        go_wp2_with (at_builtin;refine zay rfl (.tmp 24) (.tmp 26) _ rfl w.heap.size 5 1 1 Tryz.underlying83 eU8b (.slice A' acc.length c') acc.length (u8s acc) rr (by exact hown.alloc _) (some ⟨wr.heap.size,0,none⟩) 2 2 [.int .u8 92,.int .u8 x.toNat] rr (by exact RdS.of_blk (sz:=1) (n:=2) (Blk.new wr _ [.int .u8 92,.int .u8 x.toNat]) rfl) (by simp[Value.oneCell']) om om (Nat.le_trans hBr.size sy) ?_)
        intro A2 c2 w3 hown2 hc2 hg2 hat2;have hB3:Below w.heap.size w w3:=(hBr.alloc hBr.size _).grown hg2 (Nat.le_trans hBr.size sy) (fun k hk=>(hown.lt k hk).1)
        have hown3:w3.ownsRow w.heap.size 5 1 (.slice A2 (acc++[92,x]).length c2) (acc++[92,x]).length (u8s (acc++[92,x])):=by
         rw[za9,la9];exact hown2
        have HO3:=qh hown3;clear hg2 hat2 hown2 hown hBr hown3
        go_wp2_with fail
        go_roundg (n-(i+1))
        case measure=>exact HM.out
        case rel=>exact⟨i+1,acc++[92,x],A2,c2,hlt,rfl,by go_num,by rw[la9];rfl,by rw[la9];simp;omega,HO3.out,hB3,HN.out⟩
    · have hqn:=q_no (by simpa using hq)
      obtain⟨e1,e2⟩:=hqn
      by_cases hq10:(x == 10)=true
      · have hqb:Lx.qb x=[92,110]:=by unfold Lx.qb;rw[if_neg hq,if_pos hq10]
        rw[hqb]at HN;have e3:((x.toNat:Int) == 10)=true:=by rw[show x=10 from by simpa using hq10];rfl
        clear hq hq10 hqb HX HGK HA
        go_wp2_with (at_builtin;refine zay rfl (.tmp 31) (.tmp 32) _ rfl w.heap.size 5 1 1 Tryz.underlying83 eU8b (.slice A' acc.length c') acc.length (u8s acc) rr (by exact hown.alloc _) (some ⟨wr.heap.size,0,none⟩) 2 2 [.int .u8 92,.int .u8 110] rr (by exact RdS.of_blk (sz:=1) (n:=2) (Blk.new wr _ [.int .u8 92,.int .u8 110]) rfl) (by simp[Value.oneCell']) om om (Nat.le_trans hBr.size sy) ?_)
        intro A2 c2 w3 hown2 hc2 hg2 hat2;have hB3:Below w.heap.size w w3:=(hBr.alloc hBr.size _).grown hg2 (Nat.le_trans hBr.size sy) (fun k hk=>(hown.lt k hk).1)
        have hown3:w3.ownsRow w.heap.size 5 1 (.slice A2 (acc++[92,110]).length c2) (acc++[92,110]).length (u8s (acc++[92,110])):=by
         rw[za9,la9];exact hown2
        have HO3:=qh hown3;clear hg2 hat2 hown2 hown hBr hown3
        go_wp2_with fail
        go_roundg (n-(i+1))
        case measure=>exact HM.out
        case rel=>exact⟨i+1,acc++[92,110],A2,c2,hlt,rfl,by go_num,by rw[la9];rfl,by rw[la9];simp;omega,HO3.out,hB3,HN.out⟩
      · have e3:((x.toNat:Int) == 10)=false:=za2 (k:=10) (by simpa using hq10)
        by_cases hct:(x<32 || x>126)=true
        · have hqb:Lx.qb x=[92,120,Lx.hexC (x.toNat/16),Lx.hexC (x.toNat%16)]:=by unfold Lx.qb;rw[if_neg hq,if_neg hq10,if_pos hct]
          rw[hqb]at HN;have hcase:=zhv hct;clear hq hq10 hct hqb HX HGK HA;have g0:(0:Int)≤(x.toNat:Int)/16:=om;have g1:(x.toNat:Int)/16<16:=by have:=x.toNat_lt;omega
          have g2:=zre x;have g3:(x.toNat:Int)%16<16:=om;have g6:(0:Int)≤(x.toNat:Int)%16:=om;have g4:=hex_hi x;have g5:=hex_lo x
          rcases hcase with a1|⟨a1,a2⟩
          all_goals
            go_wp2_with fail
            go_region_law ((refine zfo rfl (.tmp 41) (.tmp 48) _ rfl w.heap.size 5 1 1 Tryz.underlying83 eU8b (.slice A' acc.length c') acc.length (u8s acc) rr (by exact hown.alloc _) (some ⟨wr.heap.size,0,none⟩) 4 4 [.int .u8 92,.int .u8 120,.int .u8 (Lx.hexC (x.toNat/16)).toNat,.int .u8 (Lx.hexC (x.toNat%16)).toNat] rr (by exact RdS.of_blk (sz:=1) (n:=4) (Blk.new wr _ [.int .u8 92,.int .u8 120,.int .u8 (Lx.hexC (x.toNat/16)).toNat,.int .u8 (Lx.hexC (x.toNat%16)).toNat]) rfl) (by simp[Value.oneCell']) om om (Nat.le_trans hBr.size sy) ?_;intro A2 c2 w3 hown2 hc2 hg2 hat2))
            all_goals
              have hB3:Below w.heap.size w w3:=(hBr.alloc hBr.size _).drew.grown hg2 (Nat.le_trans hBr.size sy) (fun k hk=>(hown.lt k hk).1)
              have hown3:w3.ownsRow w.heap.size 5 1 (.slice A2 (acc++[92,120,Lx.hexC (x.toNat/16),Lx.hexC (x.toNat%16)]).length c2) (acc++[92,120,Lx.hexC (x.toNat/16),Lx.hexC (x.toNat%16)]).length (u8s (acc++[92,120,Lx.hexC (x.toNat/16),Lx.hexC (x.toNat%16)])):=by
               rw[za9,la9];exact hown2
              have HO3:=qh hown3;clear hg2 hat2 hown2 hown hBr hown3
              go_wp2_with fail
              go_roundg (n-(i+1))
              case measure=>exact HM.out
              case rel=>exact⟨i+1,acc++[92,120,Lx.hexC (x.toNat/16),Lx.hexC (x.toNat%16)],A2,c2,hlt,rfl,by go_num,by rw[la9];rfl,by rw[la9];simp;omega,HO3.out,hB3,HN.out⟩
        · have hqb:Lx.qb x=[x]:=by unfold Lx.qb;rw[if_neg hq,if_neg hq10,if_neg hct]
          rw[hqb]at HN;obtain⟨a1,a2⟩:=zmb (by simpa using hct);clear hq hq10 hct hqb HX HGK HA
          go_wp2_with (at_builtin;refine zay rfl (.tmp 13) (.tmp 15) _ rfl w.heap.size 5 1 1 Tryz.underlying83 eU8b (.slice A' acc.length c') acc.length (u8s acc) rr (by exact hown.alloc _) (some ⟨wr.heap.size,0,none⟩) 1 1 [.int .u8 x.toNat] rr (by exact RdS.of_blk (sz:=1) (n:=1) (Blk.new wr _ [.int .u8 x.toNat]) rfl) (by simp[Value.oneCell']) om om (Nat.le_trans hBr.size sy) ?_)
          intro A2 c2 w3 hown2 hc2 hg2 hat2;have hB3:Below w.heap.size w w3:=(hBr.alloc hBr.size _).grown hg2 (Nat.le_trans hBr.size sy) (fun k hk=>(hown.lt k hk).1)
          have hown3:w3.ownsRow w.heap.size 5 1 (.slice A2 (acc++[x]).length c2) (acc++[x]).length (u8s (acc++[x])):=by
           rw[za9,la9];exact hown2
          have HO3:=qh hown3;clear hg2 hat2 hown2 hown hBr hown3
          go_wp2_with fail
          go_roundg (n-(i+1))
          case measure=>exact HM.out
          case rel=>exact⟨i+1,acc++[x],A2,c2,hlt,rfl,by go_num,by rw[la9];rfl,by rw[la9];simp;omega,HO3.out,hB3,HN.out⟩
  · have hin:i=n:=om
    subst hin;have HE:Hid (acc++[34]=Lx.quote l):=by show _=_;rw[HA.out,tk (by rw[HL.out];omega)];rfl
    go_wp2_with (first
     | (at_builtin;refine zay rfl (.tmp 51) (.tmp 52) _ rfl w.heap.size 5 1 1 Tryz.underlying83 eU8b (.slice A' acc.length c') acc.length (u8s acc) rr (by exact hown.alloc _) (some ⟨wr.heap.size,0,none⟩) 1 1 [.int .u8 34] rr (by exact RdS.new wr _ [.int .u8 34] 1 rfl) (by simp[Value.oneCell']) om om (Nat.le_trans hBr.size sy) ?_;intro A2 c2 w3 hown2 hc2 hg2 hat2;have hB3:Below w.heap.size w w3:=(hBr.alloc hBr.size _).grown hg2 (Nat.le_trans hBr.size sy) (fun k hk=>(hown.lt k hk).1);have hr3:Rd w3 A2 (acc.length+1) (u8s (acc++[34])):=by rw[za9];exact Rd.of_own hown2)
     | (refine zb2 rfl 83 9 (.tmp 53) rfl 5 Tryz.underlying83 Tryz.underlying5 Tryz.underlying9 A2 (acc.length+1) c2 rr (acc++[34]) hr3 ?_))
    go_ret;rw[HE.out];exact⟨rfl,hB3⟩
end Go.Proofs.YtafjkbbiaopemaaGreatDoor
namespace Go.Proofs.YtafjkbbiaopemaaGreatDoor.Tr
open Go.RowKit
section
theorem zo5(v:Nat):Lib.decDigits v=(if v<10 then [] else Lib.decDigits (v/10))++[UInt8.ofNat (48+v%10)]:=by
 rw[Lib.decDigits]
 split
 · rename_i h
   rw[Nat.mod_eq_of_lt h]
   rfl
 · rfl
section
variable{w w':World}
theorem zo2(n:Nat)(hn:n≤9223372036854775807)(w:World):Calls Tryz.prog 75 #[.int .i64 n] w fun e w'=>e=.returned (.string ⟨(Lib.itoa n).toArray⟩)∧Below w.heap.size w w':=by
 rw[Lib.itoa_nonneg]
 have hlen0:(Lib.decDigits n).length≤21:=by
  have:=Lib.itoa_length_le (n:Int) om om;rw[Lib.itoa_nonneg]at this;exact this
 generalize hR:Lib.decDigits n=R at *;have HR:=qh hR;have HLN:=qh hlen0;clear hR hlen0;have hneg:¬((n:Int)<0):=om
 go_enter Tryz.func75, Tryz.ntmps75
 go_wp2;clear hneg
 go_loopg [0,3,5] n (fun kk v0 v3 v5 wr=>∃(v:Nat) (acc:List UInt8) (A':Option Addr) (c':Nat),v0=.int .i64 v∧v3=.slice A' acc.length c'∧v≤kk∧v≤n∧wr.ownsRow w.heap.size 5 1 (.slice A' acc.length c') acc.length (u8s acc)∧Below w.heap.size w wr∧Hid (R=Lib.decDigits v++acc))
 case atStart=>exact⟨n,[],none,0,rfl,rfl,lr,lr,World.ownsRow_nil _ _ _ _,Below.refl _ _,by show _=_;rw[HR.out];simp⟩
 case round =>
  obtain⟨v,acc,A',c',rfl,rfl,hk,hvn,hown,hB,HA⟩:=hrel;have hd0:¬((v:Int)%10<0):=om;obtain⟨x,hx⟩:∃x:UInt8,x=UInt8.ofNat (48+v%10):=⟨_,rfl⟩
  have hxn:(x.toNat:Int)=48+(v:Int)%10:=by
   rw[hx,UInt8.toNat_ofNat',Nat.mod_eq_of_lt om];omega
  have HX:=qh (And.intro hx hxn)
  have hal:acc.length≤21:=by
   have h1:=congrArg List.length HA.out;have h2:=HLN.out;simp only[List.length_append]at h1;omega
  have hacc2:R=(if v<10 then [] else Lib.decDigits (v/10))++(x :: acc):=by
   rw[HA.out,zo5,hx]
   simp[List.append_assoc]
  have HA2:=qh hacc2;clear hacc2 hx HA;have HXN:Hid ([.int .u8 (48+(v:Int)%10)]++u8s acc=u8s (x :: acc)):=(by show _=_;rw[←hxn];rfl);clear hxn;have HOW:=qh (And.intro hown hB)
  by_cases h10:v<10
  · have h0:(v:Int)/10=0:=om
    have HA3:Hid (R=x :: acc):=(by have:=HA2.out;rw[if_pos h10]at this;exact this);clear hown hB
    go_wp2_with (first
     | (at_builtin;refine zay rfl (.tmp 17) (.tmp 18) _ rfl w.heap.size 5 1 1 Tryz.underlying83 eU8b (.slice (some ⟨wr.heap.size,0,none⟩) 1 1) 1 [.int .u8 (48+(v:Int)%10)] rr (by exact zc2 (cs:=[.int .u8 (48+(v:Int)%10)]) (Blk.new' rfl rfl) HOW.out.2.size 1 1 1 lr rfl om) A' acc.length c' (u8s acc) rr (by exact(Rd.of_own (HOW.out.1.alloc _)).toS) (by intro u hu;simp only[u8s,List.mem_map]at hu;obtain⟨_,_,rfl⟩:=hu;rfl) om om (Nat.le_trans HOW.out.2.size sy) ?_;intro A5 c5 w5 hown5 hc5 hg5 hat5;have HO5:Hid (w5.ownsRow w.heap.size 5 1 (.slice A5 (1+acc.length) c5) (1+acc.length) (u8s (x :: acc))∧Below w.heap.size w w5):=⟨HXN.out ▸ hown5,(HOW.out.2.alloc HOW.out.2.size _).grown hg5 (Nat.le_trans HOW.out.2.size sy) (fun k hk=>by injection hk with hk;rw[←hk];exact HOW.out.2.size)⟩;clear hown5 hc5 hg5 hat5)
     | (refine zb2 rfl 83 9 (.tmp 28) rfl 5 Tryz.underlying83 Tryz.underlying5 Tryz.underlying9 A5 (1+acc.length) c5 rr (x :: acc) (Rd.of_own HO5.out.1) ?_))
    go_ret;rw[HA3.out];exact⟨rfl,HO5.out.2⟩
  · have h0:(v:Int)/10≠0:=om
    have HA3:Hid (R=Lib.decDigits (v/10)++(x :: acc)):=(by have:=HA2.out;rw[if_neg h10]at this;exact this);clear hown hB
    go_wp2_with (at_builtin;refine zay rfl (.tmp 17) (.tmp 18) _ rfl w.heap.size 5 1 1 Tryz.underlying83 eU8b (.slice (some ⟨wr.heap.size,0,none⟩) 1 1) 1 [.int .u8 (48+(v:Int)%10)] rr (by exact zc2 (cs:=[.int .u8 (48+(v:Int)%10)]) (Blk.new' rfl rfl) HOW.out.2.size 1 1 1 lr rfl om) A' acc.length c' (u8s acc) rr (by exact(Rd.of_own (HOW.out.1.alloc _)).toS) (by intro u hu;simp only[u8s,List.mem_map]at hu;obtain⟨_,_,rfl⟩:=hu;rfl) om om (Nat.le_trans HOW.out.2.size sy) ?_;intro A5 c5 w5 hown5 hc5 hg5 hat5;have HO5:Hid (w5.ownsRow w.heap.size 5 1 (.slice A5 (1+acc.length) c5) (1+acc.length) (u8s (x :: acc))∧Below w.heap.size w w5):=⟨HXN.out ▸ hown5,(HOW.out.2.alloc HOW.out.2.size _).grown hg5 (Nat.le_trans HOW.out.2.size sy) (fun k hk=>by injection hk with hk;rw[←hk];exact HOW.out.2.size)⟩;clear hown5 hc5 hg5 hat5)
    have e5:(x :: acc).length=1+acc.length:=by simp;omega
    go_roundg (v/10)
    case measure=>omega
    case rel=>exact⟨v/10,x :: acc,A5,c5,by simp,by rw[e5],lr,by omega,by rw[e5];exact HO5.out.1,HO5.out.2,HA3⟩
end
end
end Go.Proofs.YtafjkbbiaopemaaGreatDoor.Tr
