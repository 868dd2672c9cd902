/- SurbUses: the walk over the arguments as they are read. -/
import Derived.Test.YtgkhglnfbhdkeaaSurbUsesW
import Derived.Test.YtgkhglnfbhdkeaaRdB
namespace Go.Proofs.Ytgkhglnfbhdkeaa.surbUses
open Go.RowKit
theorem walkA {W : World} (a : Sl UInt8) (h : Rd W a.A a.n (u8s a.l) ∧ a.n ≤ a.c ∧ a.c ≤ 140737488351232) (b : Sl UInt8) (h2 : Rd W b.A b.n (u8s b.l) ∧ b.n ≤ b.c ∧ b.c ≤ 140737488351232) : Calls Try.prog 3 #[a.val, b.val] W fun e w' => e = .returned (.bool true) ∧ Below W.heap.size W w' :=
  walk a.A a.n a.c a.l b.A b.n b.c b.l W h.1 h.2.1 h2.1 (by have := h2.2.1; have := h2.2.2; omega)
end Go.Proofs.Ytgkhglnfbhdkeaa.surbUses
