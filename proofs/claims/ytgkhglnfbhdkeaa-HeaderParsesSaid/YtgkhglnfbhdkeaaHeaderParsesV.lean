/- HeaderParses: the walk over the argument as it is read. -/
import Derived.Test.YtgkhglnfbhdkeaaHeaderParsesW
import Derived.Test.YtgkhglnfbhdkeaaRdB
namespace Go.Proofs.Ytgkhglnfbhdkeaa.headerParses
open Go.RowKit
theorem walkA {W : World} (a : Sl UInt8) (h : Rd W a.A a.n (u8s a.l) ∧ a.n ≤ a.c ∧ a.c ≤ 140737488351232) : Calls Try.prog 5 #[a.val] W fun e w' => e = .returned (.bool true) ∧ Below W.heap.size W w' :=
  walk a.A a.n a.c a.l W h.1 h.2.1 h.2.2
end Go.Proofs.Ytgkhglnfbhdkeaa.headerParses
