/- Part of the proof: McR. -/
import Derived.Lib.ConvBytes
import Derived.Lib.AtoiErrMem
import Derived.Lib.SlBytesConst
import Derived.Test.YtlbnibmcflmohaaFlx19
namespace Go.Proofs.Ytlbnibmcflmohaa
open Go.RowKit
section
variable {P : Program} {w : World} {ops : Array Oper} {rest : List Oper} {o : Oper} {a : Act} {K : Act → World → Prop} {Q : Exit → Act → World → Prop}
end
end Go.Proofs.Ytlbnibmcflmohaa
/- mac.Expand to one sum. -/
namespace Go.Proofs.Ytlbnibmcflmohaa
open Go.RowKit
theorem own_only {w w' : World} {base n g : Nat} {e : TypeId} {size : Nat} {v : Value} {xs : List Value} (h : w.ownsRow base e size v n xs) (ho : Only w w' g) (hne : ∀ k, v.ownBlock = some k → k ≠ g) : w'.ownsRow base e size v n xs := by
  refine h.kept ho.grown ?_
  cases hv : v.ownBlock with
  | none => exact .inl rfl
  | some k => exact .inr (fun e => hne k hv (by injection e))
theorem SlB.nil (w : World) : SlB w (.slice none 0 0) [] := ⟨_, _, _, rfl, Nat.le_refl _, Rd.nil _ _⟩
end Go.Proofs.Ytlbnibmcflmohaa
/- mac.Derive: a key for each label. -/
namespace Go.Proofs.Ytlbnibmcflmohaa
open Go.RowKit
theorem splice_at {α : Type} (a b c d : List α) (h : c.length = b.length) : splice (a ++ b ++ d) a.length c = a ++ c ++ d := by
  unfold splice
  rw [List.append_assoc a b d, List.take_left, h, ← List.length_append, ← List.append_assoc a b d, List.drop_left, List.append_assoc]
end Go.Proofs.Ytlbnibmcflmohaa
