/- The empty reply block equals itself. -/
import Derived.Test.YtkpacpkldjfbhaaSp
namespace Go.Proofs.Ytkpacpkldjfbhaa
theorem eq37 (w : World) : (eqAt 37 (.agg z37.toArray) (.agg Try.zeroCells37)).run Try.prog w = .ok (.bool true) w := by rw [← zc37]; kernel_rfl
theorem eqq_37 (x y : Value) : binOp .eql 37 x y = eqAt 37 x y := rfl
end Go.Proofs.Ytkpacpkldjfbhaa
