/- Part of the proof. -/
import Derived.Lib.ItoaMem
import Derived.Lib.ItoaLen
import Derived.Test.YtafjkbbiaopemaaGreatDoorBax09
set_option linter.all false
set_option maxRecDepth 100000
set_option maxHeartbeats 0
namespace Go.Proofs.YtafjkbbiaopemaaGreatDoor
open Go.RowKit
theorem q_yes{x:UInt8}(h:(x == 34 || x == 92)=true):((x.toNat:Int) == 34)=true∨(((x.toNat:Int) == 34)=false∧((x.toNat:Int) == 92)=true):=by
 have h':x=34∨x=92:=by simpa using h
 rcases h' with rfl|rfl
 · exact .inl rfl
 · exact .inr ⟨rfl,rfl⟩
theorem q_no{x:UInt8}(h:(x == 34 || x == 92)=false):((x.toNat:Int) == 34)=false∧((x.toNat:Int) == 92)=false:=by
 have h':x≠34∧x≠92:=by simpa using h
 exact⟨za7 (k:=34) h'.1,za7 (k:=92) h'.2⟩
theorem zob:∀(i:Nat) (h:i<16),((({ data:=#[48,49,50,51,52,53,54,55,56,57,97,98,99,100,101,102] } : ByteArray)[i]'h).toNat:Int)=((Lx.hexC i).toNat:Int):=by decide
theorem hex_hi(x:UInt8)(k:((x.toNat:Int)/16).toNat<16):((({ data:=#[48,49,50,51,52,53,54,55,56,57,97,98,99,100,101,102] } : ByteArray)[((x.toNat:Int)/16).toNat]'k).toNat:Int)=((Lx.hexC (x.toNat/16)).toNat:Int):=by
 have e:((x.toNat:Int)/16).toNat=x.toNat/16:=om;rw[zob _ k,e]
theorem hex_lo(x:UInt8)(k:((x.toNat:Int)%16).toNat<16):((({ data:=#[48,49,50,51,52,53,54,55,56,57,97,98,99,100,101,102] } : ByteArray)[((x.toNat:Int)%16).toNat]'k).toNat:Int)=((Lx.hexC (x.toNat%16)).toNat:Int):=by
 have e:((x.toNat:Int)%16).toNat=x.toNat%16:=om;rw[zob _ k,e]
theorem and15:∀(n:Fin 256),bits .and .u8 (n.val:Int) 15=(n.val:Int)%16:=by decide +kernel
theorem zpt(x:UInt8):bits .and .u8 (x.toNat:Int) 15=(x.toNat:Int)%16:=and15 ⟨x.toNat,x.toNat_lt⟩
theorem zkd(A:Option Addr)(n c:Nat)(l:List UInt8)(w:World)(h:Rd w A n (u8s l))(hn:n≤35184372080000):
 Calls Tryz.prog 94 #[.slice A n c] w fun e w'=>e=.returned (.string (bytesOf (Lx.quote l)))∧Below w.heap.size w w':=by
 have hl:l.length=n:=h.len;have HL:=qh hl;clear hl
 go_enter Tryz.func94, Tryz.ntmps94
 go_wp2_with fail
 go_loopg [3,9] n (fun k o q wr=>∃(i:Nat) (acc:List UInt8) (A':Option Addr) (c':Nat),i≤n∧k=n-i∧q=.int .i64 i∧o=.slice A' acc.length c'∧acc.length≤4*i+1 ∧
   wr.ownsRow w.heap.size 5 1 (.slice A' acc.length c') acc.length (u8s acc)∧Below w.heap.size w wr∧Hid (acc=34 :: (l.take i).flatMap Lx.qb))
 case atStart =>
  refine⟨0,[34],some ⟨w.heap.size,0,none⟩,1,by omega,rfl,rfl,rfl,by simp,?_,(Below.refl _ _).alloc lr _,by show _=_;simp⟩;exact zbu (cs:=u8s [34]) (Blk.new' rfl rfl) lr 1 1 1 lr rfl om
 case round =>
  obtain⟨i,acc,A',c',hi,hgk,rfl,rfl,hacc,hown,hBr,HA⟩:=hrel;have HGK:=qh hgk;clear hgk
  by_cases hlt:i<n
  · obtain⟨b,off,x,rfl,hb,HX,hc⟩:=(h.below hBr).u8 hlt
    have HM:Hid (n-(i+1)<gk):=by have:=HGK.out;show n-(i+1)<gk;omega
    have HN:Hid (acc++Lx.qb x=34 :: (l.take (i+1)).flatMap Lx.qb):=by show _=_;rw[HA.out,Lx.qbs_snoc l i x HX.out];rfl
    have hql:=(Lx.qb_len x).2;clear hql
    by_cases hq:(x == 34 || x == 92)=true
    · have hqb:Lx.qb x=[92,x]:=by unfold Lx.qb;rw[if_pos hq]
      rw[hqb]at HN;have hcs:=q_yes hq;clear hq hqb HX HGK HA
      rcases hcs with e1|⟨e1,e2⟩
      all_goals
        go_wp2_with (at_builtin;refine zas rfl (.tmp 24) (.tmp 26) _ rfl w.heap.size 5 1 1 Tryz.underlying83 eU8b (.slice A' acc.length c') acc.length (u8s acc) rr (by exact hown.alloc _) (some ⟨wr.heap.size,0,none⟩) 2 2 [.int .u8 92,.int .u8 x.toNat] rr (by exact RdS.of_blk (sz:=1) (n:=2) (Blk.new wr _ [.int .u8 92,.int .u8 x.toNat]) rfl) (by simp[Value.oneCell']) om om (Nat.le_trans hBr.size sy) ?_)
        intro A2 c2 w3 hown2 hc2 hg2 hat2;have hB3:Below w.heap.size w w3:=(hBr.alloc hBr.size _).grown hg2 (Nat.le_trans hBr.size sy) (fun k hk=>(hown.lt k hk).1)
        have hown3:w3.ownsRow w.heap.size 5 1 (.slice A2 (acc++[92,x]).length c2) (acc++[92,x]).length (u8s (acc++[92,x])):=by
         rw[zbc,la9];exact hown2
        have HO3:=qh hown3;clear hg2 hat2 hown2 hown hBr hown3
        go_wp2_with fail
        go_roundg (n-(i+1))
        case measure=>exact HM.out
        case rel=>exact⟨i+1,acc++[92,x],A2,c2,hlt,rfl,by go_num,by rw[la9];rfl,by rw[la9];simp;omega,HO3.out,hB3,HN.out⟩
    · have hqn:=q_no (by simpa using hq)
      obtain⟨e1,e2⟩:=hqn
      by_cases hq10:(x == 10)=true
      · have hqb:Lx.qb x=[92,110]:=by unfold Lx.qb;rw[if_neg hq,if_pos hq10]
        rw[hqb]at HN;have e3:((x.toNat:Int) == 10)=true:=by rw[show x=10 from by simpa using hq10];rfl
        clear hq hq10 hqb HX HGK HA
        go_wp2_with (at_builtin;refine zas rfl (.tmp 31) (.tmp 32) _ rfl w.heap.size 5 1 1 Tryz.underlying83 eU8b (.slice A' acc.length c') acc.length (u8s acc) rr (by exact hown.alloc _) (some ⟨wr.heap.size,0,none⟩) 2 2 [.int .u8 92,.int .u8 110] rr (by exact RdS.of_blk (sz:=1) (n:=2) (Blk.new wr _ [.int .u8 92,.int .u8 110]) rfl) (by simp[Value.oneCell']) om om (Nat.le_trans hBr.size sy) ?_)
        intro A2 c2 w3 hown2 hc2 hg2 hat2;have hB3:Below w.heap.size w w3:=(hBr.alloc hBr.size _).grown hg2 (Nat.le_trans hBr.size sy) (fun k hk=>(hown.lt k hk).1)
        have hown3:w3.ownsRow w.heap.size 5 1 (.slice A2 (acc++[92,110]).length c2) (acc++[92,110]).length (u8s (acc++[92,110])):=by
         rw[zbc,la9];exact hown2
        have HO3:=qh hown3;clear hg2 hat2 hown2 hown hBr hown3
        go_wp2_with fail
        go_roundg (n-(i+1))
        case measure=>exact HM.out
        case rel=>exact⟨i+1,acc++[92,110],A2,c2,hlt,rfl,by go_num,by rw[la9];rfl,by rw[la9];simp;omega,HO3.out,hB3,HN.out⟩
      · have e3:((x.toNat:Int) == 10)=false:=za7 (k:=10) (by simpa using hq10)
        by_cases hct:(x<32 || x>126)=true
        · have hqb:Lx.qb x=[92,120,Lx.hexC (x.toNat/16),Lx.hexC (x.toNat%16)]:=by unfold Lx.qb;rw[if_neg hq,if_neg hq10,if_pos hct]
          rw[hqb]at HN;have hcase:=zhk hct;clear hq hq10 hct hqb HX HGK HA;have g0:(0:Int)≤(x.toNat:Int)/16:=om;have g1:(x.toNat:Int)/16<16:=by have:=x.toNat_lt;omega
          have g2:=zpt x;have g3:(x.toNat:Int)%16<16:=om;have g6:(0:Int)≤(x.toNat:Int)%16:=om;have g4:=hex_hi x;have g5:=hex_lo x
          rcases hcase with a1|⟨a1,a2⟩
          all_goals
            go_wp2_with fail
            go_region_law ((refine zfl rfl (.tmp 41) (.tmp 48) _ rfl w.heap.size 5 1 1 Tryz.underlying83 eU8b (.slice A' acc.length c') acc.length (u8s acc) rr (by exact hown.alloc _) (some ⟨wr.heap.size,0,none⟩) 4 4 [.int .u8 92,.int .u8 120,.int .u8 (Lx.hexC (x.toNat/16)).toNat,.int .u8 (Lx.hexC (x.toNat%16)).toNat] rr (by exact RdS.of_blk (sz:=1) (n:=4) (Blk.new wr _ [.int .u8 92,.int .u8 120,.int .u8 (Lx.hexC (x.toNat/16)).toNat,.int .u8 (Lx.hexC (x.toNat%16)).toNat]) rfl) (by simp[Value.oneCell']) om om (Nat.le_trans hBr.size sy) ?_;intro A2 c2 w3 hown2 hc2 hg2 hat2))
            all_goals
              have hB3:Below w.heap.size w w3:=(hBr.alloc hBr.size _).drew.grown hg2 (Nat.le_trans hBr.size sy) (fun k hk=>(hown.lt k hk).1)
              have hown3:w3.ownsRow w.heap.size 5 1 (.slice A2 (acc++[92,120,Lx.hexC (x.toNat/16),Lx.hexC (x.toNat%16)]).length c2) (acc++[92,120,Lx.hexC (x.toNat/16),Lx.hexC (x.toNat%16)]).length (u8s (acc++[92,120,Lx.hexC (x.toNat/16),Lx.hexC (x.toNat%16)])):=by
               rw[zbc,la9];exact hown2
              have HO3:=qh hown3;clear hg2 hat2 hown2 hown hBr hown3
              go_wp2_with fail
              go_roundg (n-(i+1))
              case measure=>exact HM.out
              case rel=>exact⟨i+1,acc++[92,120,Lx.hexC (x.toNat/16),Lx.hexC (x.toNat%16)],A2,c2,hlt,rfl,by go_num,by rw[la9];rfl,by rw[la9];simp;omega,HO3.out,hB3,HN.out⟩
        · have hqb:Lx.qb x=[x]:=by unfold Lx.qb;rw[if_neg hq,if_neg hq10,if_neg hct]
          rw[hqb]at HN;obtain⟨a1,a2⟩:=zld (by simpa using hct);clear hq hq10 hct hqb HX HGK HA
          go_wp2_with (at_builtin;refine zas rfl (.tmp 13) (.tmp 15) _ rfl w.heap.size 5 1 1 Tryz.underlying83 eU8b (.slice A' acc.length c') acc.length (u8s acc) rr (by exact hown.alloc _) (some ⟨wr.heap.size,0,none⟩) 1 1 [.int .u8 x.toNat] rr (by exact RdS.of_blk (sz:=1) (n:=1) (Blk.new wr _ [.int .u8 x.toNat]) rfl) (by simp[Value.oneCell']) om om (Nat.le_trans hBr.size sy) ?_)
          intro A2 c2 w3 hown2 hc2 hg2 hat2;have hB3:Below w.heap.size w w3:=(hBr.alloc hBr.size _).grown hg2 (Nat.le_trans hBr.size sy) (fun k hk=>(hown.lt k hk).1)
          have hown3:w3.ownsRow w.heap.size 5 1 (.slice A2 (acc++[x]).length c2) (acc++[x]).length (u8s (acc++[x])):=by
           rw[zbc,la9];exact hown2
          have HO3:=qh hown3;clear hg2 hat2 hown2 hown hBr hown3
          go_wp2_with fail
          go_roundg (n-(i+1))
          case measure=>exact HM.out
          case rel=>exact⟨i+1,acc++[x],A2,c2,hlt,rfl,by go_num,by rw[la9];rfl,by rw[la9];simp;omega,HO3.out,hB3,HN.out⟩
  · have hin:i=n:=om
    subst hin;have HE:Hid (acc++[34]=Lx.quote l):=by show _=_;rw[HA.out,tk (by rw[HL.out];omega)];rfl
    go_wp2_with (first
     | (at_builtin;refine zas rfl (.tmp 51) (.tmp 52) _ rfl w.heap.size 5 1 1 Tryz.underlying83 eU8b (.slice A' acc.length c') acc.length (u8s acc) rr (by exact hown.alloc _) (some ⟨wr.heap.size,0,none⟩) 1 1 [.int .u8 34] rr (by exact RdS.new wr _ [.int .u8 34] 1 rfl) (by simp[Value.oneCell']) om om (Nat.le_trans hBr.size sy) ?_;intro A2 c2 w3 hown2 hc2 hg2 hat2;have hB3:Below w.heap.size w w3:=(hBr.alloc hBr.size _).grown hg2 (Nat.le_trans hBr.size sy) (fun k hk=>(hown.lt k hk).1);have hr3:Rd w3 A2 (acc.length+1) (u8s (acc++[34])):=by rw[zbc];exact Rd.of_own hown2)
     | (refine zbs rfl 83 9 (.tmp 53) rfl 5 Tryz.underlying83 Tryz.underlying5 Tryz.underlying9 A2 (acc.length+1) c2 rr (acc++[34]) hr3 ?_))
    go_ret;rw[HE.out];exact⟨rfl,hB3⟩
end Go.Proofs.YtafjkbbiaopemaaGreatDoor
namespace Go.Proofs.YtafjkbbiaopemaaGreatDoor.Tr
open Go.RowKit
section
theorem zic(v:Nat):Lib.decDigits v=(if v<10 then [] else Lib.decDigits (v/10))++[UInt8.ofNat (48+v%10)]:=by
 rw[Lib.decDigits]
 split
 · rename_i h
   rw[Nat.mod_eq_of_lt h]
   rfl
 · rfl
section
variable{w w':World}
theorem znr(n:Nat)(hn:n≤9223372036854775807)(w:World):Calls Tryz.prog 75 #[.int .i64 n] w fun e w'=>e=.returned (.string ⟨(Lib.itoa n).toArray⟩)∧Below w.heap.size w w':=by
 rw[Lib.itoa_nonneg]
 have hlen0:(Lib.decDigits n).length≤21:=by
  have:=Lib.itoa_length_le (n:Int) om om;rw[Lib.itoa_nonneg]at this;exact this
 generalize hR:Lib.decDigits n=R at *;have HR:=qh hR;have HLN:=qh hlen0;clear hR hlen0;have hneg:¬((n:Int)<0):=om
 go_enter Tryz.func75, Tryz.ntmps75
 go_wp2;clear hneg
 go_loopg [0,3,5] n (fun kk v0 v3 v5 wr=>∃(v:Nat) (acc:List UInt8) (A':Option Addr) (c':Nat),v0=.int .i64 v∧v3=.slice A' acc.length c'∧v≤kk∧v≤n∧wr.ownsRow w.heap.size 5 1 (.slice A' acc.length c') acc.length (u8s acc)∧Below w.heap.size w wr∧Hid (R=Lib.decDigits v++acc))
 case atStart=>exact⟨n,[],none,0,rfl,rfl,lr,lr,World.ownsRow_nil _ _ _ _,Below.refl _ _,by show _=_;rw[HR.out];simp⟩
 case round =>
  obtain⟨v,acc,A',c',rfl,rfl,hk,hvn,hown,hB,HA⟩:=hrel;have hd0:¬((v:Int)%10<0):=om;obtain⟨x,hx⟩:∃x:UInt8,x=UInt8.ofNat (48+v%10):=⟨_,rfl⟩
  have hxn:(x.toNat:Int)=48+(v:Int)%10:=by
   rw[hx,UInt8.toNat_ofNat',Nat.mod_eq_of_lt om];omega
  have HX:=qh (And.intro hx hxn)
  have hal:acc.length≤21:=by
   have h1:=congrArg List.length HA.out;have h2:=HLN.out;simp only[List.length_append]at h1;omega
  have hacc2:R=(if v<10 then [] else Lib.decDigits (v/10))++(x :: acc):=by
   rw[HA.out,zic,hx]
   simp[List.append_assoc]
  have HA2:=qh hacc2;clear hacc2 hx HA;have HXN:Hid ([.int .u8 (48+(v:Int)%10)]++u8s acc=u8s (x :: acc)):=(by show _=_;rw[←hxn];rfl);clear hxn;have HOW:=qh (And.intro hown hB)
  by_cases h10:v<10
  · have h0:(v:Int)/10=0:=om
    have HA3:Hid (R=x :: acc):=(by have:=HA2.out;rw[if_pos h10]at this;exact this);clear hown hB
    go_wp2_with (first
     | (at_builtin;refine zas rfl (.tmp 17) (.tmp 18) _ rfl w.heap.size 5 1 1 Tryz.underlying83 eU8b (.slice (some ⟨wr.heap.size,0,none⟩) 1 1) 1 [.int .u8 (48+(v:Int)%10)] rr (by exact zbu (cs:=[.int .u8 (48+(v:Int)%10)]) (Blk.new' rfl rfl) HOW.out.2.size 1 1 1 lr rfl om) A' acc.length c' (u8s acc) rr (by exact(Rd.of_own (HOW.out.1.alloc _)).toS) (by intro u hu;simp only[u8s,List.mem_map]at hu;obtain⟨_,_,rfl⟩:=hu;rfl) om om (Nat.le_trans HOW.out.2.size sy) ?_;intro A5 c5 w5 hown5 hc5 hg5 hat5;have HO5:Hid (w5.ownsRow w.heap.size 5 1 (.slice A5 (1+acc.length) c5) (1+acc.length) (u8s (x :: acc))∧Below w.heap.size w w5):=⟨HXN.out ▸ hown5,(HOW.out.2.alloc HOW.out.2.size _).grown hg5 (Nat.le_trans HOW.out.2.size sy) (fun k hk=>by injection hk with hk;rw[←hk];exact HOW.out.2.size)⟩;clear hown5 hc5 hg5 hat5)
     | (refine zbs rfl 83 9 (.tmp 28) rfl 5 Tryz.underlying83 Tryz.underlying5 Tryz.underlying9 A5 (1+acc.length) c5 rr (x :: acc) (Rd.of_own HO5.out.1) ?_))
    go_ret;rw[HA3.out];exact⟨rfl,HO5.out.2⟩
  · have h0:(v:Int)/10≠0:=om
    have HA3:Hid (R=Lib.decDigits (v/10)++(x :: acc)):=(by have:=HA2.out;rw[if_neg h10]at this;exact this);clear hown hB
    go_wp2_with (at_builtin;refine zas rfl (.tmp 17) (.tmp 18) _ rfl w.heap.size 5 1 1 Tryz.underlying83 eU8b (.slice (some ⟨wr.heap.size,0,none⟩) 1 1) 1 [.int .u8 (48+(v:Int)%10)] rr (by exact zbu (cs:=[.int .u8 (48+(v:Int)%10)]) (Blk.new' rfl rfl) HOW.out.2.size 1 1 1 lr rfl om) A' acc.length c' (u8s acc) rr (by exact(Rd.of_own (HOW.out.1.alloc _)).toS) (by intro u hu;simp only[u8s,List.mem_map]at hu;obtain⟨_,_,rfl⟩:=hu;rfl) om om (Nat.le_trans HOW.out.2.size sy) ?_;intro A5 c5 w5 hown5 hc5 hg5 hat5;have HO5:Hid (w5.ownsRow w.heap.size 5 1 (.slice A5 (1+acc.length) c5) (1+acc.length) (u8s (x :: acc))∧Below w.heap.size w w5):=⟨HXN.out ▸ hown5,(HOW.out.2.alloc HOW.out.2.size _).grown hg5 (Nat.le_trans HOW.out.2.size sy) (fun k hk=>by injection hk with hk;rw[←hk];exact HOW.out.2.size)⟩;clear hown5 hc5 hg5 hat5)
    have e5:(x :: acc).length=1+acc.length:=by simp;omega
    go_roundg (v/10)
    case measure=>omega
    case rel=>exact⟨v/10,x :: acc,A5,c5,by simp,by rw[e5],lr,by omega,by rw[e5];exact HO5.out.1,HO5.out.2,HA3⟩
end
end
end Go.Proofs.YtafjkbbiaopemaaGreatDoor.Tr
