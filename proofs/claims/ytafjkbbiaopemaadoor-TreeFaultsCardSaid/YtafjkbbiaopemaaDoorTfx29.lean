/- Part of the proof: Ua. -/
import Derived.Test.YtafjkbbiaopemaaDoorTfx28
set_option linter.unusedVariables false
namespace Go.Proofs.YtafjkbbiaopemaaDoor.Tr
open Go.RowKit
section
variable {gp gs : Nat} {A : Option Addr} {n c : Nat} {ts : List Lx.Tok} {s : PS} {w : World}
theorem factor_c (cx : Cx gp gs A n ts) (d : Nat) (hex : ExK gp gs A n c ts 25 (exprP ts d) (Q d)) : ExK gp gs A n c ts 63 (factorP ts (exprP ts d)) (Q (d + 1)) := by
  intro s w h hq
  cases hk4 : kindIs ts 4 s
  · cases hkj : sees ts [k_join] s
    · exact factor_at cx (exprP ts d) (d + 1) (atom_c cx d hex) h hq hk4 hkj
    · exact factor_jn cx (exprP ts d) d hex (expr_g cx.ends d) h hq hk4 hkj
  · exact factor_tx cx (exprP ts d) h hk4
theorem expr_all (cx : Cx gp gs A n ts) : ∀ d : Nat, ExK gp gs A n c ts 25 (exprP ts d) (Q d)
  | 0 => fun _ _ _ hq => absurd hq.d1 (by omega)
  | d + 1 => expr_c cx (exprP ts d) (d + 1) (term_c cx (exprP ts d) (d + 1) (factor_c cx d (expr_all cx d)) (factor_g cx.ends (expr_g cx.ends d))) (term_g cx.ends (expr_g cx.ends d))
theorem atom_all (cx : Cx gp gs A n ts) (d : Nat) : ExK gp gs A n c ts 44 (atomP ts (exprP ts d)) (Q (d + 1)) := atom_c cx d (expr_all cx d)
end
end Go.Proofs.YtafjkbbiaopemaaDoor.Tr
