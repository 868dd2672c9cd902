/-
  No cell of these rows narrows 'for every input' (looked for: loops, veiled, ifaces, maps, wideKeys, modest, calm, conditions, laid).
  DERIVED. THE GIVEN ROWS OF THIS SEAT. 5 by the template 'for every input the law returns true; each argument reads behind the call as it read before'; 0 by the template 'total and deterministic' (their statements: YtgkhglnfbhdkeaaTotals.lean).
  GIVEN WITH THE SEED: the statements are not yours to turn. If you find one false, say at which input.
  Laid BY PROGRAM, IN A SANDBOX (cutbox-rows.mjs): the forced cells as the released guide's own fill.sh prints them over the translation ad26d6f5b6c57107… (all of the seat's roots in one cut). By AI agents, Wed Nov 11 2026. No macro, syntax, notation, axiom, sorry.
-/
import Derived.Test.YtgkhglnfbhdkeaaChecked
import GoSem.Claim
import GoSem.ClaimJoined
import GoSem.ClaimMapViews
import Derived.JoinedTies
import Derived.KernelRfl
namespace Go.Proofs.Ytgkhglnfbhdkeaa
/- THE CELL 'sum', in the pinned program and in every row, IS THE sha256 OF THE DUMP (.gsa) THAT YtgkhglnfbhdkeaaProg.lean LOADS. Nothing in Lean hashes anything: it is a label: what it is worth is what the hold of that sum in a sandbox is worth. -/
noncomputable def Try.pinned : Pinned := { name := "ytgkhglnfbhdkeaa", sum := "ad26d6f5b6c571070dcc517b500e65eb05c7a20906ac3ed6f0949450f37e6e83", checked := Try.checked }
namespace Rows
def none {H : Type} : Left H := { results := [], args := [] }

/-- 'shallotlaw16.SurbUses': WHATEVER THE INPUT: true; the input reads as it did. -/
def surbUsesSpec : ChangeSpec := { name := "surbUses", fn := fun _ => fun
  | [d1, d2] => { results := [.lit (.bool true)], args := [d1, d2] }
  | _ => none }
def surbUsesRow : OpenClaim := { program := "ytgkhglnfbhdkeaa", sum := "ad26d6f5b6c571070dcc517b500e65eb05c7a20906ac3ed6f0949450f37e6e83", func := "shallot/shallotlaw16.SurbUses", spec := "surbUses", apart := false }
def SurbUsesSaid : Prop := surbUsesRow.holds Try.pinned (OpenSpec.ofChange surbUsesSpec)

/-- ITS FALSE NEIGHBOUR: 'it returns false'. Refute it at one input. -/
def surbUsesWrong : ChangeSpec := { name := "surbUses", fn := fun _ => fun
  | [d1, d2] => { results := [.lit (.bool false)], args := [d1, d2] }
  | _ => none }
def SurbUsesWrongFalsely : Prop := surbUsesRow.holds Try.pinned (OpenSpec.ofChange surbUsesWrong)

/-- 'shallotlaw16.SurbDecodes': WHATEVER THE INPUT: true; the input reads as it did. -/
def surbDecodesSpec : ChangeSpec := { name := "surbDecodes", fn := fun _ => fun
  | [d1, d2, d3] => { results := [.lit (.bool true)], args := [d1, d2, d3] }
  | _ => none }
def surbDecodesRow : OpenClaim := { program := "ytgkhglnfbhdkeaa", sum := "ad26d6f5b6c571070dcc517b500e65eb05c7a20906ac3ed6f0949450f37e6e83", func := "shallot/shallotlaw16.SurbDecodes", spec := "surbDecodes", unfollowed := true, recurses := true, apart := false }
def SurbDecodesSaid : Prop := surbDecodesRow.holds Try.pinned (OpenSpec.ofChange surbDecodesSpec)

/-- ITS FALSE NEIGHBOUR: 'it returns false'. Refute it at one input. -/
def surbDecodesWrong : ChangeSpec := { name := "surbDecodes", fn := fun _ => fun
  | [d1, d2, d3] => { results := [.lit (.bool false)], args := [d1, d2, d3] }
  | _ => none }
def SurbDecodesWrongFalsely : Prop := surbDecodesRow.holds Try.pinned (OpenSpec.ofChange surbDecodesWrong)

/-- 'shallotlaw13.HeaderParses': WHATEVER THE INPUT: true; the input reads as it did. -/
def headerParsesSpec : ChangeSpec := { name := "headerParses", fn := fun _ => fun
  | [d] => { results := [.lit (.bool true)], args := [d] }
  | _ => none }
def headerParsesRow : OpenClaim := { program := "ytgkhglnfbhdkeaa", sum := "ad26d6f5b6c571070dcc517b500e65eb05c7a20906ac3ed6f0949450f37e6e83", func := "shallot/shallotlaw13.HeaderParses", spec := "headerParses", inPlace := ["math/bits.Add64", "math/bits.Sub64"], unfollowed := true, recurses := true, apart := false }
def HeaderParsesSaid : Prop := headerParsesRow.holds Try.pinned (OpenSpec.ofChange headerParsesSpec)

/-- ITS FALSE NEIGHBOUR: 'it returns false'. Refute it at one input. -/
def headerParsesWrong : ChangeSpec := { name := "headerParses", fn := fun _ => fun
  | [d] => { results := [.lit (.bool false)], args := [d] }
  | _ => none }
def HeaderParsesWrongFalsely : Prop := headerParsesRow.holds Try.pinned (OpenSpec.ofChange headerParsesWrong)

/-- 'shallotlaw13.HeaderFlips': WHATEVER THE INPUT: true; the input reads as it did. -/
def headerFlipsSpec : ChangeSpec := { name := "headerFlips", fn := fun _ => fun
  | [d1, d2, d3] => { results := [.lit (.bool true)], args := [d1, d2, d3] }
  | _ => none }
def headerFlipsRow : OpenClaim := { program := "ytgkhglnfbhdkeaa", sum := "ad26d6f5b6c571070dcc517b500e65eb05c7a20906ac3ed6f0949450f37e6e83", func := "shallot/shallotlaw13.HeaderFlips", spec := "headerFlips", inPlace := ["math/bits.Add64", "math/bits.Sub64"], unfollowed := true, recurses := true, apart := false }
def HeaderFlipsSaid : Prop := headerFlipsRow.holds Try.pinned (OpenSpec.ofChange headerFlipsSpec)

/-- ITS FALSE NEIGHBOUR: 'it returns false'. Refute it at one input. -/
def headerFlipsWrong : ChangeSpec := { name := "headerFlips", fn := fun _ => fun
  | [d1, d2, d3] => { results := [.lit (.bool false)], args := [d1, d2, d3] }
  | _ => none }
def HeaderFlipsWrongFalsely : Prop := headerFlipsRow.holds Try.pinned (OpenSpec.ofChange headerFlipsWrong)

/-- 'shallotlaw13.HeaderKeeps': WHATEVER THE INPUT: true; the input reads as it did. -/
def headerKeepsSpec : ChangeSpec := { name := "headerKeeps", fn := fun _ => fun
  | [d1, d2] => { results := [.lit (.bool true)], args := [d1, d2] }
  | _ => none }
def headerKeepsRow : OpenClaim := { program := "ytgkhglnfbhdkeaa", sum := "ad26d6f5b6c571070dcc517b500e65eb05c7a20906ac3ed6f0949450f37e6e83", func := "shallot/shallotlaw13.HeaderKeeps", spec := "headerKeeps", inPlace := ["math/bits.Add64", "math/bits.Sub64"], unfollowed := true, recurses := true, apart := false }
def HeaderKeepsSaid : Prop := headerKeepsRow.holds Try.pinned (OpenSpec.ofChange headerKeepsSpec)

/-- ITS FALSE NEIGHBOUR: 'it returns false'. Refute it at one input. -/
def headerKeepsWrong : ChangeSpec := { name := "headerKeeps", fn := fun _ => fun
  | [d1, d2] => { results := [.lit (.bool false)], args := [d1, d2] }
  | _ => none }
def HeaderKeepsWrongFalsely : Prop := headerKeepsRow.holds Try.pinned (OpenSpec.ofChange headerKeepsWrong)

/- THE SECOND FORM. 'bulk': how many values and letters a reading holds, each counted each time it is reached (what is shared counts as often as it is met; a slice's spare places count too). A statement '..UptoSaid' is the law's where the arguments, and the package variables that the reading takes, are together of bulk at most 1048576: NARROWER than '..Said'. Prove '..Said' where nothing that the law and all that it calls make is longer than what came in: it says more and counts as full. Else prove '..UptoSaid'. A law counts once. -/
mutual
def uptoBulk {H : Type} : DataW H → Nat
  | .lit (.string bytes) => bytes.length + 1
  | .lit _ => 1
  | .nil => 1
  | .ptr d => uptoBulk d + 1
  | .slice elems spare => uptoBulkAll elems + uptoBulkAll spare + 1
  | .agg parts => uptoBulkAll parts + 1
  | .iface _ d => uptoBulk d + 1
  | .map entries => uptoBulkEntries entries + 1
  | .held _ => 1
def uptoBulkAll {H : Type} : List (DataW H) → Nat
  | [] => 0
  | d :: r => uptoBulk d + uptoBulkAll r
def uptoBulkEntries {H : Type} : List (Lit × DataW H) → Nat
  | [] => 0
  | x :: r => uptoBulkEntry x + uptoBulkEntries r
def uptoBulkEntry {H : Type} : Lit × DataW H → Nat
  | (.string bytes, d) => bytes.length + uptoBulk d + 1
  | (_, d) => uptoBulk d + 1
 end
def uptoSmall : (H : Type) → List (DataW H) → Bool := fun _ ds => decide (uptoBulkAll ds ≤ 1048576)
def OpenSpec.upto (s : _root_.Go.ChangeSpec) : _root_.Go.OpenSpec := { _root_.Go.OpenSpec.ofChange s with cond := some uptoSmall }

/-- 'shallotlaw16.SurbUses', WHERE WHAT IT READS IS OF BULK AT MOST 1048576: true; the input reads as it did. -/
def surbUsesUptoRow : OpenClaim := { program := "ytgkhglnfbhdkeaa", sum := "ad26d6f5b6c571070dcc517b500e65eb05c7a20906ac3ed6f0949450f37e6e83", func := "shallot/shallotlaw16.SurbUses", spec := "surbUses", apart := false, narrowed := true }
def SurbUsesUptoSaid : Prop := surbUsesUptoRow.holds Try.pinned (OpenSpec.upto surbUsesSpec)

/-- 'shallotlaw16.SurbDecodes', WHERE WHAT IT READS IS OF BULK AT MOST 1048576: true; the input reads as it did. -/
def surbDecodesUptoRow : OpenClaim := { program := "ytgkhglnfbhdkeaa", sum := "ad26d6f5b6c571070dcc517b500e65eb05c7a20906ac3ed6f0949450f37e6e83", func := "shallot/shallotlaw16.SurbDecodes", spec := "surbDecodes", unfollowed := true, recurses := true, apart := false, narrowed := true }
def SurbDecodesUptoSaid : Prop := surbDecodesUptoRow.holds Try.pinned (OpenSpec.upto surbDecodesSpec)

/-- 'shallotlaw13.HeaderParses', WHERE WHAT IT READS IS OF BULK AT MOST 1048576: true; the input reads as it did. -/
def headerParsesUptoRow : OpenClaim := { program := "ytgkhglnfbhdkeaa", sum := "ad26d6f5b6c571070dcc517b500e65eb05c7a20906ac3ed6f0949450f37e6e83", func := "shallot/shallotlaw13.HeaderParses", spec := "headerParses", inPlace := ["math/bits.Add64", "math/bits.Sub64"], unfollowed := true, recurses := true, apart := false, narrowed := true }
def HeaderParsesUptoSaid : Prop := headerParsesUptoRow.holds Try.pinned (OpenSpec.upto headerParsesSpec)

/-- 'shallotlaw13.HeaderFlips', WHERE WHAT IT READS IS OF BULK AT MOST 1048576: true; the input reads as it did. -/
def headerFlipsUptoRow : OpenClaim := { program := "ytgkhglnfbhdkeaa", sum := "ad26d6f5b6c571070dcc517b500e65eb05c7a20906ac3ed6f0949450f37e6e83", func := "shallot/shallotlaw13.HeaderFlips", spec := "headerFlips", inPlace := ["math/bits.Add64", "math/bits.Sub64"], unfollowed := true, recurses := true, apart := false, narrowed := true }
def HeaderFlipsUptoSaid : Prop := headerFlipsUptoRow.holds Try.pinned (OpenSpec.upto headerFlipsSpec)

/-- 'shallotlaw13.HeaderKeeps', WHERE WHAT IT READS IS OF BULK AT MOST 1048576: true; the input reads as it did. -/
def headerKeepsUptoRow : OpenClaim := { program := "ytgkhglnfbhdkeaa", sum := "ad26d6f5b6c571070dcc517b500e65eb05c7a20906ac3ed6f0949450f37e6e83", func := "shallot/shallotlaw13.HeaderKeeps", spec := "headerKeeps", inPlace := ["math/bits.Add64", "math/bits.Sub64"], unfollowed := true, recurses := true, apart := false, narrowed := true }
def HeaderKeepsUptoSaid : Prop := headerKeepsUptoRow.holds Try.pinned (OpenSpec.upto headerKeepsSpec)

end Rows
end Go.Proofs.Ytgkhglnfbhdkeaa
