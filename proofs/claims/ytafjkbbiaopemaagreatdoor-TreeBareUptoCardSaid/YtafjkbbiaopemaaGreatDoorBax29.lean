/- Part of the proof. -/
import Derived.Test.YtafjkbbiaopemaaGreatDoorBax05
import Derived.Test.YtafjkbbiaopemaaGreatDoorBax27
set_option linter.all false
set_option maxRecDepth 100000
set_option maxHeartbeats 0
namespace Go.Proofs.YtafjkbbiaopemaaGreatDoor.Tr
open Go.RowKit
section
structure PrS(B b:Nat)(w0:World)(l:List UInt8)(w:World):Prop where
 p:IsP B b l w
 bl:Below B w0 w
 ot:Oth b w0 w
 hB:B≤w0.heap.size
def PrE(B b:Nat)(w:World)(l:List UInt8)(e:Ending)(w':World):Prop:=e=.returned (.tuple #[])∧IsP B b l w'∧Below B w w'∧Oth b w w'
section
variable{w w' w0:World}{b B g:Nat}{l l':List UInt8}
theorem IsP.lt(h:IsP B b l w):b<w.heap.size:=by obtain⟨_,_,_,_,hb,_⟩:=h;exact hb.lt
theorem IsP.al(h:IsP B b l w)(hB:B≤w.heap.size)(o:Obj):IsP B b l (w.alloc o):=by
 obtain⟨h1,p,v,h2,h3,h4,h5⟩:=h;exact⟨h1,p,v,h2,h3.alloc o,h4.alloc o,h5⟩
theorem PrS.al(h:PrS B b w0 l w)(o:Obj):PrS B b w0 l (w.alloc o):=⟨h.p.al (Nat.le_trans h.hB h.bl.size) o,h.bl.alloc (Nat.le_trans h.hB h.bl.size) o,h.ot.trans (Oth.alloc b w o),h.hB⟩
theorem PrS.st{e:Ending}(h:PrS B b w0 l w)(k:PrE B b w l' e w'):PrS B b w0 l' w':=⟨k.2.1,h.bl.trans k.2.2.1,h.ot.trans k.2.2.2,h.hB⟩
theorem PrS.start(h:IsP B b l w)(hB:B≤w.heap.size):PrS B b w l w:=⟨h,Below.refl _ _,Oth.refl _ _,hB⟩
theorem PrS.fin(h:PrS B b w l w'):PrE B b w l (.returned (.tuple #[])) w':=⟨rfl,h.p,h.bl,h.ot⟩
theorem zad(h:PrS B b w0 l w)(g:Nat)(hg:g=w.heap.size)(L:List ByteArray)(n:Nat)(hn:L.length=n)(hn8:n≤1000000)(hlen:l.length+(flatS L).length≤140737488355328):
 Calls Tryz.prog 70 #[.pointer (some ⟨b,0,none⟩),.slice (some ⟨g,0,none⟩) n n] (w.alloc (.cells (strs L).toArray 9)) fun e w'=>PrE B b (w.alloc (.cells (strs L).toArray 9)) (l++flatS L) e w':=by
 subst hg;exact zoj L n n hn hn8 (h.al _).p (by have:=h.hB;have:=h.bl.size;simp;omega) (Blk.new _ _ _) (by have:=h.p.lt;omega) hlen
@[reducible] def sM:ByteArray:={ data:=#[109] }
theorem zmx(w:World):Calls Tryz.prog 98 #[.string { data:=#[32,32] },.int .i64 0] w fun e w'=>e=.returned (.string { data:=#[] })∧w=w':=by
 go_enter Tryz.func98, Tryz.ntmps98
 go_wp2;go_ret;exact⟨rfl,rfl⟩
end
end
section
attribute [local go_sem ↓] zky
section
variable{w w' w0:World}{b B g off c:Nat}{l l':List UInt8}{p:StA}
theorem Oth.fresh{o:Obj}(ho:Only (w.alloc o) w' w.heap.size):Oth b w w':=⟨by have:=ho.grown.size;simp at this;omega,fun k o' h1 _ _=>(ho.grown.block k (by have:=(Array.getElem?_eq_some_iff.1 h1).1;simp;omega) (fun e=>by injection e with e;have:=(Array.getElem?_eq_some_iff.1 h1).1;omega)).trans ((Below.heap_alloc w o k (Array.getElem?_eq_some_iff.1 h1).1).trans h1)⟩
theorem IsP.fresh{o:Obj}(h:IsP B b l w)(ho:Only (w.alloc o) w' w.heap.size):IsP B b l w':=by
 have hlt:=h.lt;obtain⟨h1,p,v,h2,h3,h4,h5⟩:=h;exact⟨h1,p,v,h2,(h3.alloc o).grown ho.grown (fun e=>by injection e with e;omega),zen (h4.alloc o) ho (fun k hk e=>by have:=(h4.lt k hk).2;omega),h5⟩
end
end
end Go.Proofs.YtafjkbbiaopemaaGreatDoor.Tr
