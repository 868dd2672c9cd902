/- Part of the proof. -/
import Derived.Test.YtafjkbbiaopemaaGreatDoorBax29
set_option linter.all false
set_option maxRecDepth 100000
set_option maxHeartbeats 0
namespace Go.Proofs.YtafjkbbiaopemaaGreatDoor.Tr
open Go.RowKit
section
theorem lfP_u8:Tryz.prog.cellsOf 5 = 1:=by kernel_rfl
section
variable{w w':World}{b B:Nat}{l:List UInt8}
theorem str_c(h:IsP B b l w)(h0:l≠[]):Calls Tryz.prog 36 #[.pointer (some ⟨b,0,none⟩)] w fun e w'=>e=.returned (.string ⟨l.toArray⟩)∧Below B w w':=by
 obtain⟨hBb,p,v,hp,hb,hown,hne⟩:=h;have hl0:l.length≠0:=by simpa using h0
 obtain⟨g,cap,cur,rfl,hbg,hg,hnc,hcm,hcs,htake⟩:∃g cap cur,v=.slice (some ⟨g,0,none⟩) l.length cap∧B≤g∧w.heap[g]? = some (.cells cur 5 (0,0))∧l.length≤cap∧cap≤maxLen∧cur.size=cap*1∧cur.toList.take (l.length*1)=u8s l:=by
  rcases hown.2 with ⟨_,hz⟩|⟨g,cap,cur,hv,r⟩
  · exact absurd hz hl0
  · exact⟨g,cap,cur,hv,r⟩
 have c1:w.drew.cell? ⟨b,1,none⟩=some (.slice (some ⟨g,0,none⟩) l.length cap):=hb.cell 1
 have hSD:(Builtin.unsafeSliceData_ #[83] 118 #[.slice (some ⟨g,0,none⟩) l.length cap]).run Tryz.prog w.drew=.ok (.pointer (some ⟨g,0,none⟩)) w.drew :=
  Lib.run_unsafeSliceData_row _ _ _ _ _ _ om
 have hUS:(Builtin.unsafeString_ #[118,3] 9 #[.pointer (some ⟨g,0,none⟩),.int .i64 l.length]).run Tryz.prog w.drew=.ok (.string ⟨l.toArray⟩) (w.drew.freeze ⟨g,0,none⟩ l.length):=by
  refine Lib.run_unsafeString_row w.drew 118 3 9 5 Tryz.underlying118 lfP_u8 g cur.size (by have hg':w.drew.heap[g]? = some (.cells cur 5 (0,0)):=hg;simp[World.shape?,hg']) l h0 om (by unfold maxLen at hcm;omega) ?_;intro j x hx;have:=hown.cells (g:=g) rfl j (.int .u8 x.toNat) (by simp[u8s,hx];rfl);exact this
 clear hb hown hne hp;have mixed:Tryz.prog.follows .mixedOrders=true:=by kernel_rfl
 go_enter Tryz.func36, Tryz.ntmps36
 go_wp2
 go_region_o
 all_goals (go_wp2;go_ret;exact⟨rfl,Lib.below_freeze (Below.drew (Below.refl B w)) (p:=⟨g,0,none⟩) hbg _⟩)
end
end
section
@[reducible] def srcM:ByteArray:={ data:=#[108,101,116,32,109,61,49,59,99,111,118,101,114,32,109,59] }
@[reducible] def txtM:ByteArray:={ data:=#[108,101,116,32,109,32,61,32,49,59,10,99,111,118,101,114,32,109,59,10] }
def dcX:Dc:=⟨k_let,⟨sM,4⟩,.mk k_number 1 zs 6 [],[]⟩
def stX:St:=.mk k_cover 8 zR zE zE zE [⟨sM,14⟩] zR zR [] []
theorem parseM:parse srcM.data.toList=(⟨[dcX],[stX]⟩,(0,0)):=by kernel_rfl
section
variable{w w' w0:World}{b B g off c gd od gb ob:Nat}{p:plA}{ps:StA}{l l':List UInt8}
attribute [local go_sem ↓] zh5
end
end
end Go.Proofs.YtafjkbbiaopemaaGreatDoor.Tr
