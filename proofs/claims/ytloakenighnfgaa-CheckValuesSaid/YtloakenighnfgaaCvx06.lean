/- Part of the proof: Open. -/
import Derived.Test.YtloakenighnfgaaRows
import Derived.ProofKit
import Derived.OpenShut
import Derived.ShutString
import Derived.ChangeOld
import Derived.SizedLaws
import Derived.Test.YtloakenighnfgaaCvx01
set_option linter.unusedVariables false
namespace Go.Proofs.Ytloakenighnfgaa
open Go.ChangeShapes Go.WideShapes Go.ChangeAt Go.RowKit
open Go.ChangeMaps (open_string shut_string)
theorem own : ownKnob Try.prog.godebug = none := by kernel_rfl
theorem laidOut : laidOutB Try.prog = true := by kernel_rfl
end Go.Proofs.Ytloakenighnfgaa
