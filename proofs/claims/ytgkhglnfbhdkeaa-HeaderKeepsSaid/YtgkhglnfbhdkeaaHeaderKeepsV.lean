/- HeaderKeeps: the walk over the arguments as they are read. -/
import Derived.Test.YtgkhglnfbhdkeaaHeaderKeepsW
import Derived.Test.YtgkhglnfbhdkeaaRdH
namespace Go.Proofs.Ytgkhglnfbhdkeaa.headerKeeps
open Go.RowKit
theorem walkA {W : World} (a : Sl UInt8) (h : Rd W a.A a.n (u8s a.l) ∧ a.n ≤ a.c ∧ a.c ≤ 140737488351232) (b : Sl Sp) (h2 : SlIn none 192 192 Sp.cells (fun _ s => s.ok) W b) : Calls Try.prog 7 #[a.val, b.val] W fun e w' => e = .returned (.bool true) ∧ Below W.heap.size W w' :=
  walk a.A a.n a.c a.l b.A b.n b.c b.l W h.1 h.2.1 h.2.2 h2.rd (fun s hs => h2.each s hs) h2.len (by have h4 := h2.reach; have h5 := h2.cap; unfold reachBytes at h4; omega)
end Go.Proofs.Ytgkhglnfbhdkeaa.headerKeeps
