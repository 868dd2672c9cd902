/- Part of the proof: Open. -/
import Derived.Test.YtlbnibmcflmohaaRows
import Derived.ProofKit
import Derived.OpenShut
import Derived.ShutString
import Derived.ChangeOld
import Derived.SizedLaws
import Derived.Test.YtlbnibmcflmohaaFlx01
namespace Go.Proofs.Ytlbnibmcflmohaa
open Go.ChangeShapes Go.WideShapes Go.ChangeAt Go.RowKit
open Go.ChangeMaps (open_string shut_string)
theorem own : ownKnob Try.prog.godebug = none := by kernel_rfl
theorem laidOut : laidOutB Try.prog = true := by kernel_rfl
theorem u8_of_wf {m : Int} (h : (Lit.int .u8 m).wf = true) : m = ((UInt8.ofNat m.toNat).toNat : Nat) := by
  have := bounds_u8 h
  simp
  omega
end Go.Proofs.Ytlbnibmcflmohaa
