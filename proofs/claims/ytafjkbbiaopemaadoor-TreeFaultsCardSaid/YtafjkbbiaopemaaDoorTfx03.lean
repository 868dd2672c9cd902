/- Part of the proof: Open. -/
import Derived.Test.YtafjkbbiaopemaaDoorRows
import Derived.ProofKit
import Derived.OpenShut
import Derived.ShutString
import Derived.ChangeOld
import Derived.SizedLaws
import Derived.Test.YtafjkbbiaopemaaDoorTfx01
set_option linter.unusedVariables false
namespace Go.Proofs.YtafjkbbiaopemaaDoor
open Go.ChangeShapes Go.WideShapes Go.ChangeAt Go.RowKit
open Go.ChangeMaps (open_string shut_string)
theorem own : ownKnob Tryd.prog.godebug = none := by kernel_rfl
theorem laidOut : laidOutB Tryd.prog = true := by kernel_rfl
end Go.Proofs.YtafjkbbiaopemaaDoor
