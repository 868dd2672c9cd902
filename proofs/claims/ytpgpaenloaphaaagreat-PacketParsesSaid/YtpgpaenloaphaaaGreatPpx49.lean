/- Part of the proof: Awk13. -/
import Derived.Great.BuildSlice
import Derived.Test.YtpgpaenloaphaaaGreatPpx45
namespace Go.Proofs.YtpgpaenloaphaaaGreat
open Go.RowKit
attribute [local go_sem ↓] ldq_cm ldq_34 ldq_69
def al9 : List UInt8 := 9 :: List.replicate 31 0
def z32 : List UInt8 := List.replicate 32 0
def s9 : Sp := ⟨z32, z32, z32, z32, al9, z32⟩
def c27 : Cm := ⟨2, 0, 7, 0, List.replicate 16 0⟩
theorem eqq_34 (x y : Value) : binOp .eql 32 x y = eqAt 32 x y := rfl
theorem eqq_cm (x y : Value) : binOp .eql 47 x y = eqAt 47 x y := rfl
def h9 : List UInt8 := hst [c27] [s9] 1 1
attribute [local go_sem ↓] eqq_34 eqq_cm
end Go.Proofs.YtpgpaenloaphaaaGreat
