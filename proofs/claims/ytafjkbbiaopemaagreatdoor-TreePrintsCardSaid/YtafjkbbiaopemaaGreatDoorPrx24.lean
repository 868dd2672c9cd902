/- Part of the proof. -/
import Derived.Test.YtafjkbbiaopemaaGreatDoorPrx22
set_option linter.all false
set_option maxRecDepth 100000
set_option maxHeartbeats 0
namespace Go.Proofs.YtafjkbbiaopemaaGreatDoor.Tr
open Go.RowKit
section
theorem lfP_u8:Tryz.prog.cellsOf 5 = 1:=by kernel_rfl
section
variable{w w':World}{b B:Nat}{l:List UInt8}
theorem str_c(h:IsP B b l w)(h0:l≠[]):Calls Tryz.prog 36 #[.pointer (some ⟨b,0,none⟩)] w fun e w'=>e=.returned (.string ⟨l.toArray⟩)∧Below B w w':=by
 obtain⟨hBb,p,v,hp,hb,hown,hne⟩:=h;have hl0:l.length≠0:=by simpa using h0
 obtain⟨g,cap,cur,rfl,hbg,hg,hnc,hcm,hcs,htake⟩:∃g cap cur,v=.slice (some ⟨g,0,none⟩) l.length cap∧B≤g∧w.heap[g]? = some (.cells cur 5 (0,0))∧l.length≤cap∧cap≤maxLen∧cur.size=cap*1∧cur.toList.take (l.length*1)=u8s l:=by
  rcases hown.2 with ⟨_,hz⟩|⟨g,cap,cur,hv,r⟩
  · exact absurd hz hl0
  · exact⟨g,cap,cur,hv,r⟩
 have c1:w.drew.cell? ⟨b,1,none⟩=some (.slice (some ⟨g,0,none⟩) l.length cap):=hb.cell 1
 have hSD:(Builtin.unsafeSliceData_ #[83] 118 #[.slice (some ⟨g,0,none⟩) l.length cap]).run Tryz.prog w.drew=.ok (.pointer (some ⟨g,0,none⟩)) w.drew :=
  Lib.run_unsafeSliceData_row _ _ _ _ _ _ om
 have hUS:(Builtin.unsafeString_ #[118,3] 9 #[.pointer (some ⟨g,0,none⟩),.int .i64 l.length]).run Tryz.prog w.drew=.ok (.string ⟨l.toArray⟩) (w.drew.freeze ⟨g,0,none⟩ l.length):=by
  refine Lib.run_unsafeString_row w.drew 118 3 9 5 Tryz.underlying118 lfP_u8 g cur.size (by have hg':w.drew.heap[g]? = some (.cells cur 5 (0,0)):=hg;simp[World.shape?,hg']) l h0 om (by unfold maxLen at hcm;omega) ?_;intro j x hx;have:=hown.cells (g:=g) rfl j (.int .u8 x.toNat) (by simp[u8s,hx];rfl);exact this
 clear hb hown hne hp;have mixed:Tryz.prog.follows .mixedOrders=true:=by kernel_rfl
 go_enter Tryz.func36, Tryz.ntmps36
 go_wp2
 go_region_o
 all_goals (go_wp2;go_ret;exact⟨rfl,Lib.below_freeze (Below.drew (Below.refl B w)) (p:=⟨g,0,none⟩) hbg _⟩)
end
end
section
@[reducible] def srcM:ByteArray:={ data:=#[108,101,116,32,109,61,49,59,99,111,118,101,114,32,109,59] }
@[reducible] def txtM:ByteArray:={ data:=#[108,101,116,32,109,32,61,32,49,59,10,99,111,118,101,114,32,109,59,10] }
def dcX:Dc:=⟨k_let,⟨sM,4⟩,.mk k_number 1 zs 6 [],[]⟩
def stX:St:=.mk k_cover 8 zR zE zE zE [⟨sM,14⟩] zR zR [] []
theorem parseM:parse srcM.data.toList=(⟨[dcX],[stX]⟩,(0,0)):=by kernel_rfl
section
variable{w w' w0:World}{b B g off c gd od gb ob:Nat}{p:plA}{ps:StA}{l l':List UInt8}
attribute [local go_sem ↓] zip
end
end
section
theorem zl3(s:List UInt8):(parse s).2=(0,0)∨((parse s).1=⟨[],[]⟩∧(((parse s).2=(2,0)∧8000<s.length)∨(∃q:Int,((parse s).2=(9,q)∨(parse s).2=(11,q))∧0≤q∧q≤s.length))):=by
 rcases hR:Lx.scan s with ⟨⟨p,q⟩,ts⟩
 unfold parse
 rw[hR]
 by_cases hp:p=0
 · subst hp
   have hq:q=0:=by
    rcases Lx.scan_cases s with ⟨p',q',h1,h2⟩|⟨us,h1,_⟩
    · rw[hR]at h1
      injection h1 with h3
      injection h3 with h3 h4
      omega
    · rw[hR]at h1
      injection h1 with h3
      injection h3
   subst hq;obtain⟨hen,h0,_,_,hat⟩:=zem hR
   rcases zhk hen h0 with h|⟨h1,h2,j,hj,h3⟩
   · exact .inl h
   · refine .inr ⟨h1,.inr ⟨(tokAt ts j).at_,?_,by omega,by have:=hat j hj;omega⟩⟩
     rcases h2 with h2|h2
     · exact .inl (Prod.ext h2 h3)
     · exact .inr (Prod.ext h2 h3)
 · refine .inr ?_
   rcases Lx.scan_cases s with ⟨p',q',h1,h2⟩|⟨us,h1,_⟩
   · rw[hR]at h1
     injection h1 with h3 h4
     injection h3 with h3 h5
     subst h3 h5 h4;obtain⟨n,rfl⟩:∃n,p=n+1:=⟨p-1,by omega⟩
     rcases h2 with ⟨h2,rfl,h6⟩|⟨h2,h6,_⟩
     · obtain rfl:n=1:=om
       exact⟨rfl,.inl ⟨rfl,h6⟩⟩
     · obtain rfl:n=8:=om
       exact⟨rfl,.inr ⟨(q:Int),.inl rfl,by omega,by omega⟩⟩
   · rw[hR]at h1
     injection h1 with h3 h4
     injection h3 with h3 h5
     exact absurd h3 hp
section
variable{w w':World}
theorem zfu(A B:Option Addr)(a b:Nat)(w:World):Calls Tryz.prog 33 #[.slice A 0 a,.slice B 0 b,.bool true] w fun e w'=>e=.returned (.bool true)∧w=w':=by
 go_enter Tryz.func33, Tryz.ntmps33
 go_wp2
 go_loopg [7] 0 (fun kk q wr=>q=.int .i64 0∧w=wr)
 case atStart=>exact⟨rfl,rfl⟩
 case round =>
  obtain⟨rfl,rfl⟩:=hrel;go_wp2;go_ret;exact⟨rfl,rfl⟩
theorem znf(A B C D:Option Addr)(a b c d:Nat)(w:World):Calls Tryz.prog 11 #[.agg #[.slice A 0 a,.slice B 0 b],.agg #[.slice C 0 c,.slice D 0 d],.bool true] w fun e w'=>e=.returned (.bool true)∧Below w.heap.size w w':=by
 have HS:=qh (fun W=>zfu B D b d W);have HB:Hid (Below w.heap.size w ((w.alloc (.cells #[.slice A 0 a,.slice B 0 b] 26)).alloc (.cells #[.slice C 0 c,.slice D 0 d] 26))):=((Below.refl _ _).alloc lr _).alloc sy _
 go_enter Tryz.func11, Tryz.ntmps11
 go_wp2
 go_loopg [7] 0 (fun kk q wr=>q=.int .i64 0∧wr=(w.alloc (.cells #[.slice A 0 a,.slice B 0 b] 26)).alloc (.cells #[.slice C 0 c,.slice D 0 d] 26))
 case atStart=>exact⟨rfl,rfl⟩
 case round =>
  obtain⟨rfl,rfl⟩:=hrel
  go_wp2_with (go_at_call 33;(refine(HS.out _).mono ?_);rintro e w2 ⟨rfl,rfl⟩)
  go_ret;exact⟨rfl,HB.out⟩
end
end
end Go.Proofs.YtafjkbbiaopemaaGreatDoor.Tr
