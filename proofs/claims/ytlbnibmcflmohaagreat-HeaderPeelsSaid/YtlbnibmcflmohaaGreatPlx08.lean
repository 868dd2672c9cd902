/- Part of the proof: Frm2. -/
import Derived.Test.YtlbnibmcflmohaaGreatPlx04
namespace Go.Proofs.YtlbnibmcflmohaaGreat
open Go.RowKit
def chk (k i c id n : Nat) : Int :=
  if 450 < n then 2 else if c < 1 ∨ 16 < c ∨ c ≤ i then 3 else if k ≠ 1 ∧ c ≠ 1 then 3 else if k = 2 ∧ (id ≠ 0 ∨ n ≠ 0) then 3 else 0
end Go.Proofs.YtlbnibmcflmohaaGreat
