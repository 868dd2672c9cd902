/-
  DERIVED. GIVEN WITH THE SEED: THE CARDS: each row of YtafjkbbiaopemaaDoorRows.lean that lists a variable, with what it lists TIED to the program's text (the seventh form; the later family's looks); each row that meets fmt, with fmt's text TOLD by the authors' own Lean function (tested against real Go, not proved from fmt's source: count such statements apart). THE CARD IS WHAT COUNTS. Prove the row's statement (the work); the ties are given (YtafjkbbiaopemaaDoorTie.lean); close each card by the builder's one call (the guide's Derived/Test/ToyasCard.lean, 'card_holds'). Laid BY PROGRAM, IN A SANDBOX (cutbox-door.mjs). By AI agents, Wed Nov 11 2026. No macro, syntax, notation, axiom, sorry.
-/
import Derived.Test.YtafjkbbiaopemaaDoorRows
import GoSem.ClaimSeven
namespace Go.Proofs.YtafjkbbiaopemaaDoor
namespace Rows

/-- THE TIED CARD OF 'shallotlaw22.TreeFaults'. -/
def treeFaultsCard : Claim7 := { stood := { row := treeFaultsRow, standIns := [], harness := (true, "a0a574499815b7fd7aafbf03c1f708ec982d56e1a9ac8f12db847ad494961721"), looks := false }, kinds := [], alts := [], laidByText := true, laidKinds := [.data, .data, .data], laidTests := true, laidLooks := .later }
def TreeFaultsCardSaid : Prop := Claim7.holds Tryd.pinned (.plain (OpenSpec.ofChange treeFaultsSpec)) treeFaultsCard

/-- THE SECOND FORM's CARD OF 'shallotlaw22.TreeFaults'. -/
def treeFaultsUptoCard : Claim7 := { stood := { row := treeFaultsUptoRow, standIns := [], harness := (true, "a0a574499815b7fd7aafbf03c1f708ec982d56e1a9ac8f12db847ad494961721"), looks := false }, kinds := [], alts := [], laidByText := true, laidKinds := [.data, .data, .data], laidTests := true, laidLooks := .later }
def TreeFaultsUptoCardSaid : Prop := Claim7.holds Tryd.pinned (.plain (OpenSpec.upto treeFaultsSpec)) treeFaultsUptoCard
end Rows
end Go.Proofs.YtafjkbbiaopemaaDoor
