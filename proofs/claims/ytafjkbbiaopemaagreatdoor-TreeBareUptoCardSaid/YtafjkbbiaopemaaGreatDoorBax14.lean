/- Part of the proof. -/
import Derived.Test.YtafjkbbiaopemaaGreatDoorBax12
set_option linter.all false
set_option maxRecDepth 100000
set_option maxHeartbeats 0
namespace Go.Proofs.YtafjkbbiaopemaaGreatDoor
open Go.RowKit
theorem znk{n:Nat}(h:n<10):((Lx.hexC n).toNat:Int)=48+(n:Int):=by
 unfold Lx.hexC;rw[if_pos h,UInt8.toNat_ofNat'];omega
theorem zk4{n:Nat}(h:10≤n)(h':n<16):((Lx.hexC n).toNat:Int)=87+(n:Int):=by
 unfold Lx.hexC;rw[if_neg om,UInt8.toNat_ofNat'];omega
theorem zmj(n:Nat)(hn:n<16)(w:World):Calls Tryz.prog 124 #[.int .u8 n] w fun e w'=>e=.returned (.int .u8 (Lx.hexC n).toNat)∧w=w':=by
 by_cases h:n<10
 · have he:=znk h
   have HE:=qh he;clear he
   go_enter Tryz.func124, Tryz.ntmps124
   go_wp2_with fail
   go_ret;refine⟨zft ?_,rfl⟩;rw[HE.out]
 · have he:=zk4 om hn
   have HE:=qh he;clear he
   go_enter Tryz.func124, Tryz.ntmps124
   go_wp2_with fail
   go_ret;refine⟨zft ?_,rfl⟩;rw[HE.out];omega
theorem zfq(z:Int)(n:Nat)(hz:z=n)(hn:n<16)(w:World):Calls Tryz.prog 124 #[.int .u8 z] w fun e w'=>e=.returned (.int .u8 (Lx.hexC n).toNat)∧w=w':=by
 subst hz;exact zmj n hn w
theorem zmz(b off c:Nat)(x:UInt8)(w:World)(hb:b<w.heap.size)(hx:w.cell? ⟨b,off,none⟩=some (.int .u8 x.toNat)):
 Calls Tryz.prog 101 #[.slice (some ⟨b,off,none⟩) 1 c] w fun e w'=>e=.returned (.string (bytesOf [Lx.hexC (x.toNat/16),Lx.hexC (x.toNat%16)]))∧Below w.heap.size w w':=by
 go_enter Tryz.func101, Tryz.ntmps101
 go_wp2_with fail
 go_loopg [3,4] 1 (fun k o q wr=>∃i:Nat,i≤1∧k=1-i∧q=.int .i64 i∧Below w.heap.size w wr∧(i=0→o=.slice none 0 0∧wr=w)∧(i=1→∃A' c',o=.slice A' 2 c'∧wr.ownsRow w.heap.size 5 1 (.slice A' 2 c') 2 (u8s [Lx.hexC (x.toNat/16),Lx.hexC (x.toNat%16)])))
 case atStart=>exact⟨0,by omega,rfl,rfl,Below.refl _ _,fun _=>⟨rfl,rfl⟩,fun h=>by omega⟩
 case round =>
  obtain⟨i,hi,hgk,rfl,hBr,h0,h1⟩:=hrel
  by_cases hlt:i=0
  · obtain⟨rfl,rfl⟩:=h0 hlt
    subst hlt;clear h1
    go_wp2_with fail
    have hx16:=x.toNat_lt;have t3:IntKind.u8.wrap ((x.toNat:Int)/16)=(x.toNat:Int)/16:=IntWalk.u8_in _ om;have t4:IntKind.u8.wrap ((x.toNat:Int)%16)=(x.toNat:Int)%16:=IntWalk.u8_in _ om;have t5:Int.tmod (x.toNat:Int) 16=(x.toNat:Int)%16:=Int.tmod_eq_emod_of_nonneg om;have L3:=qh (fun w=>zfq (Int.tmod (x.toNat:Int) 16) (x.toNat%16) (by rw[t5];omega) om w);have L1:=qh (fun w=>zfq ((x.toNat:Int)/16) (x.toNat/16) om om w);have L2:=qh (fun w=>zfq ((x.toNat:Int)%16) (x.toNat%16) om om w);have HXA:Hid (∀o,(wr.alloc o).cell? ⟨b,off,none⟩=some (.int .u8 x.toNat)):=fun o=>(World.cell?_alloc_lt wr o ⟨b,off,none⟩ hb).trans hx
    have own0:Hid (∀(w:World) B,w.ownsRow B 5 1 (.slice none 0 0) 0 []):=fun w B=>World.ownsRow_nil _ _ _ _
    go_region_held3 (fun W=>W.cell? ⟨b,off,none⟩=some (.int .u8 x.toNat)) (first|exact hx|assumption|exact HXA.out _) (first
     | (go_at_call 124;((first|with_reducible refine(L1.out _).mono ?_|with_reducible refine(L2.out _).mono ?_|with_reducible refine(L3.out _).mono ?_);rintro e w' ⟨rfl,rfl⟩))
     | (refine zfl rfl (.tmp 11) (.tmp 24) _ rfl wr.heap.size 5 1 1 Tryz.underlying83 eU8b (.slice none 0 0) 0 [] rr (own0.out _ _) (some ⟨wr.heap.size,0,none⟩) 2 2 [.int .u8 (Lx.hexC (x.toNat/16)).toNat,.int .u8 (Lx.hexC (x.toNat%16)).toNat] rr (by exact RdS.of_blk (sz:=1) (n:=2) (Blk.new wr _ [.int .u8 (Lx.hexC (x.toNat/16)).toNat,.int .u8 (Lx.hexC (x.toNat%16)).toNat]) rfl) (by simp[Value.oneCell']) om om sy ?_;intro A2 c2 w3 hown2 hc2 hg2 hat2;have hx3:w3.cell? ⟨b,off,none⟩=some (.int .u8 x.toNat):=hg2.cell (HXA.out _) (by simp[Value.ownBlock])))
    have hB3:Below wr.heap.size wr w3:=((Below.refl _ _).alloc lr _).drew.grown hg2 sy (fun k hk=>by simp[Value.ownBlock]at hk);clear t3 t4 t5 hg2 hat2 hx3
    go_wp2_with fail
    go_roundg 0
    case measure=>omega
    case rel=>exact⟨1,by omega,rfl,rfl,hB3,fun h=>by omega,fun _=>⟨A2,c2,rfl,hown2⟩⟩
  · have hi1:i=1:=om
    obtain⟨A',c',rfl,hown⟩:=h1 hi1;subst hi1;clear h0 h1
    go_wp2_with (refine zbs rfl 83 9 (.tmp 26) rfl 5 Tryz.underlying83 Tryz.underlying5 Tryz.underlying9 A' 2 c' rr [Lx.hexC (x.toNat/16),Lx.hexC (x.toNat%16)] (Rd.of_own hown) ?_)
    go_ret;exact⟨rfl,hBr⟩
theorem zbb(a b:List UInt8):bytesOf a++bytesOf b=bytesOf (a++b):=by
 show ByteArray.append _ _=_
 apply ByteArray.ext
 simp[bytesOf]
theorem ziv(A:Option Addr)(n c:Nat)(l:List UInt8)(w:World)(h:Rd w A n (u8s l))(hn:n≤35184372080000)(hc:n≤c):
 Calls Tryz.prog 76 #[.slice A n c] w fun e w'=>e=.returned (.string (bytesOf (Lx.quote l)))∧Below w.heap.size w w':=by
 have hl:l.length=n:=h.len;have HL:=qh hl;clear hl
 go_enter Tryz.func76, Tryz.ntmps76
 go_wp2_with fail
 go_loopg [3,4] n (fun k o q wr=>∃(i:Nat) (acc:List UInt8),i≤n∧k=n-i∧q=.int .i64 i∧o=.string (bytesOf acc)∧acc.length≤4*i+1∧Below w.heap.size w wr∧Hid (acc=34 :: (l.take i).flatMap Lx.qb))
 case atStart=>exact⟨0,[34],by omega,rfl,rfl,rfl,by simp,Below.refl _ _,by show _=_;simp⟩
 case round =>
  obtain⟨i,acc,hi,hgk,rfl,rfl,hacc,hBr,HA⟩:=hrel;have HGK:=qh hgk;clear hgk
  by_cases hlt:i<n
  · obtain⟨b,off,x,rfl,hb,HX,hc⟩:=(h.below hBr).u8 hlt
    have HM:Hid (n-(i+1)<gk):=by have:=HGK.out;show n-(i+1)<gk;omega
    have HN:Hid (acc++Lx.qb x=34 :: (l.take (i+1)).flatMap Lx.qb):=by show _=_;rw[HA.out,Lx.qbs_snoc l i x HX.out];rfl
    have hsz:(bytesOf acc).size≤140737488355328:=by rw[zbd];omega
    by_cases h34:x=34
    · have e1:((x.toNat:Int) == 34)=true:=by rw[h34];rfl
      rw[show Lx.qb x=[92,34] from by rw[h34];rfl]at HN;clear h34 HX HGK HA
      go_wp2_with fail
      go_roundg (n-(i+1))
      case measure=>exact HM.out
      case rel=>exact⟨i+1,acc++[92,34],hlt,rfl,by go_num,congrArg Value.string (zbb acc [92,34]),by rw[la9];simp;omega,hBr,HN.out⟩
    · have e1:((x.toNat:Int) == 34)=false:=za7 (k:=34) h34
      by_cases h92:x=92
      · have e2:((x.toNat:Int) == 92)=true:=by rw[h92];rfl
        rw[show Lx.qb x=[92,92] from by rw[h92];rfl]at HN;clear h34 h92 HX HGK HA
        go_wp2_with fail
        go_roundg (n-(i+1))
        case measure=>exact HM.out
        case rel=>exact⟨i+1,acc++[92,92],hlt,rfl,by go_num,congrArg Value.string (zbb acc [92,92]),by rw[la9];simp;omega,hBr,HN.out⟩
      · have e2:((x.toNat:Int) == 92)=false:=za7 (k:=92) h92
        by_cases h10:x=10
        · have e3:((x.toNat:Int) == 10)=true:=by rw[h10];rfl
          rw[show Lx.qb x=[92,110] from by rw[h10];rfl]at HN;clear h34 h92 h10 HX HGK HA
          go_wp2_with fail
          go_roundg (n-(i+1))
          case measure=>exact HM.out
          case rel=>exact⟨i+1,acc++[92,110],hlt,rfl,by go_num,congrArg Value.string (zbb acc [92,110]),by rw[la9];simp;omega,hBr,HN.out⟩
        · have e3:((x.toNat:Int) == 10)=false:=za7 (k:=10) h10
          have hq:¬(x == 34 || x == 92)=true:=by simp[h34,h92]
          have hq10:¬(x == 10)=true:=by simp[h10]
          have k1:(i:Int)≤(i:Int)+1:=om;have k2:((i:Int)+1).toNat=i+1:=om;have k4:(i:Int)+1≤(c:Int):=om
          have hrd:Rd wr (some ⟨b,off+i,none⟩) 1 (u8s [x]):=⟨rfl,fun _=>⟨b,off+i,rfl,hb,fun j u hu=>by
           cases j with
           | zero=>simp[u8s]at hu;subst hu;exact hc
           | succ j=>simp[u8s]at hu⟩⟩
          by_cases hct:(x<32 || x>126)=true
          · rw[show Lx.qb x=[92,120,Lx.hexC (x.toNat/16),Lx.hexC (x.toNat%16)] from by unfold Lx.qb;rw[if_neg hq,if_neg hq10,if_pos hct]]at HN
            have hcase:decide ((32:Int)≤(x.toNat:Int))=false∨(decide ((32:Int)≤(x.toNat:Int))=true∧decide ((x.toNat:Int)≤126)=false):=by
             rcases zhk hct with a1|⟨a1,a2⟩
             · left;simp at a1 ⊢;omega
             · right;simp at a1 a2 ⊢;omega
            clear h34 h92 h10 hq hq10 hct HX HGK HA;have hs2:(bytesOf [Lx.hexC (x.toNat/16),Lx.hexC (x.toNat%16)]).size=2:=rfl
            rcases hcase with a1|⟨a1,a2⟩
            all_goals
              go_wp2_with (go_at_call 101;refine(zmz b (off+i) _ x _ hb hc).mono ?_;rintro e w3 ⟨rfl,hB3⟩)
              go_roundg (n-(i+1))
              case measure=>exact HM.out
              case rel=>exact⟨i+1,acc++[92,120,Lx.hexC (x.toNat/16),Lx.hexC (x.toNat%16)],hlt,rfl,by go_num,congrArg Value.string ((congrArg (·++bytesOf [Lx.hexC (x.toNat/16),Lx.hexC (x.toNat%16)]) (zbb acc [92,120])).trans ((zbb _ _).trans (by rw[as9];rfl))),by rw[la9];simp;omega,hBr.trans (hB3.mono hBr.size),HN.out⟩
          · rw[show Lx.qb x=[x] from by unfold Lx.qb;rw[if_neg hq,if_neg hq10,if_neg hct]]at HN
            have a12:decide ((32:Int)≤(x.toNat:Int))=true∧decide ((x.toNat:Int)≤126)=true:=by
             obtain⟨a1,a2⟩:=zld (by simpa using hct)
             simp at a1 a2 ⊢;omega
            obtain⟨a1,a2⟩:=a12;clear h34 h92 h10 hq hq10 hct HX HGK HA;have hs1:(bytesOf [x]).size=1:=rfl
            go_wp2_with (refine zbs rfl 83 9 (.tmp 62) rfl 5 Tryz.underlying83 Tryz.underlying5 Tryz.underlying9 (some ⟨b,off+i,none⟩) 1 _ rr [x] hrd ?_)
            go_roundg (n-(i+1))
            case measure=>exact HM.out
            case rel=>exact⟨i+1,acc++[x],hlt,rfl,by go_num,congrArg Value.string (zbb acc [x]),by rw[la9];simp;omega,hBr,HN.out⟩
  · have hin:i=n:=om
    subst hin;have HE:Hid (acc++[34]=Lx.quote l):=by show _=_;rw[HA.out,tk (by rw[HL.out];omega)];rfl
    have hsz:(bytesOf acc).size≤140737488355328:=by rw[zbd];omega
    go_wp2_with fail
    go_ret;rw[←HE.out];exact⟨congrArg (fun z=>Ending.returned (.string z)) (zbb acc [34]),hBr⟩
end Go.Proofs.YtafjkbbiaopemaaGreatDoor
