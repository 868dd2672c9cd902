/- Part of the proof: Frm1. -/
import Derived.Test.YtlbnibmcflmohaaGreatPlx18
namespace Go.Proofs.YtlbnibmcflmohaaGreat
open Go.RowKit
theorem u8s_splice (a b : List UInt8) (o : Nat) : splice (u8s a) o (u8s b) = u8s (splice a o b) := by
  unfold splice
  rw [u8s_take, u8s_length, u8s_drop, ← u8s_append, ← u8s_append]
end Go.Proofs.YtlbnibmcflmohaaGreat
