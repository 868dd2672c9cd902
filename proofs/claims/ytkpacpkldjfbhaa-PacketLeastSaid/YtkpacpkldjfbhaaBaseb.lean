/- More words: loads and stores of long values. -/
import Derived.Test.YtkpacpkldjfbhaaBase
namespace Go.Proofs.Ytkpacpkldjfbhaa
open Go.RowKit

/-! ### loads and stores of long values, sealed: the walk does not open them; a hypothesis (a rule over a world) says what they do -/
def ldAt (ty : TypeId) (v : Value) : Sem Value := Instr.loadAt ty v
def stAt (ty : TypeId) (p v : Value) : Sem Unit := Instr.storeAt ty p v
theorem ldAt_run {P : Program} {w : World} {g : Nat} {t : TypeId} {cs : List Value} (hB : Blk w g t cs) (ty : TypeId) (o : Nat) (ds : List Value) (hd : (cs.drop o).take ds.length = ds) (d : TypeDesc) (hu : P.underlying ty = some d) (hr : d.isRow = true) (hi : (P.info? ty).map (·.size) = some ds.length) :
    (ldAt ty (.pointer (some ⟨g, o, none⟩))).run P w = .ok (.agg ds.toArray) w :=
  run_loadAt_mid w g o ty ds d (hB.mid o ds fun j v hv => by
    rw [← hd, List.getElem?_take] at hv
    split at hv
    · simpa using hv
    · cases hv) hu hr hi
theorem stAt_run {P : Program} {w : World} {g : Nat} {t : TypeId} {cs : List Value} (hB : Blk w g t cs) (ty : TypeId) (o : Nat) (ds : List Value) (hfit : o + ds.length ≤ cs.length) (h1 : ∀ v ∈ ds, v.oneCell' = true) (hi : (P.info? ty).map (·.size) = some ds.length) :
    (stAt ty (.pointer (some ⟨g, o, none⟩)) (.agg ds.toArray)).run P w = .ok () (w.setCells g o ds) := by
  have h := run_storeAt_mid (P := P) w g o ty ds.toArray (by simpa using hB.there o ds.length hfit) (by simpa using hi) (all_oneCell_toArray h1)
  exact h

end Go.Proofs.Ytkpacpkldjfbhaa
