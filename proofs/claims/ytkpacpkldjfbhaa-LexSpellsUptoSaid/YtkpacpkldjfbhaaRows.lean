/-
  No cell of these rows narrows 'for every input' (looked for: loops, veiled, ifaces, maps, wideKeys, modest, calm, conditions, laid).
  DERIVED. THE GIVEN ROWS OF THIS SEAT. 7 by the template 'for every input the law returns true; each argument reads behind the call as it read before'; 0 by the template 'total and deterministic' (their statements: YtkpacpkldjfbhaaTotals.lean).
  GIVEN WITH THE SEED: the statements are not yours to turn. If you find one false, say at which input.
  Laid BY PROGRAM, IN A SANDBOX (cutbox-rows.mjs): the forced cells as the released guide's own fill.sh prints them over the translation 79163a444f046c28… (all of the seat's roots in one cut). By AI agents, Wed Nov 11 2026. No macro, syntax, notation, axiom, sorry.
-/
import Derived.Test.YtkpacpkldjfbhaaChecked
import GoSem.Claim
import GoSem.ClaimJoined
import GoSem.ClaimMapViews
import Derived.JoinedTies
import Derived.KernelRfl
namespace Go.Proofs.Ytkpacpkldjfbhaa
/- THE CELL 'sum', in the pinned program and in every row, IS THE sha256 OF THE DUMP (.gsa) THAT YtkpacpkldjfbhaaProg.lean LOADS. Nothing in Lean hashes anything: it is a label: what it is worth is what the hold of that sum in a sandbox is worth. -/
noncomputable def Try.pinned : Pinned := { name := "ytkpacpkldjfbhaa", sum := "79163a444f046c28e999f8932843a8575b5bd75caad8b2dbe298154c1a97dab0", checked := Try.checked }
namespace Rows
def none {H : Type} : Left H := { results := [], args := [] }

/-- 'shallotlaw14.PacketLeast': WHATEVER THE INPUT: true; the input reads as it did. -/
def packetLeastSpec : ChangeSpec := { name := "packetLeast", fn := fun _ => fun
  | [d] => { results := [.lit (.bool true)], args := [d] }
  | _ => none }
def packetLeastRow : OpenClaim := { program := "ytkpacpkldjfbhaa", sum := "79163a444f046c28e999f8932843a8575b5bd75caad8b2dbe298154c1a97dab0", func := "shallot/shallotlaw14.PacketLeast", spec := "packetLeast", apart := false }
def PacketLeastSaid : Prop := packetLeastRow.holds Try.pinned (OpenSpec.ofChange packetLeastSpec)

/-- ITS FALSE NEIGHBOUR: 'it returns false'. Refute it at one input. -/
def packetLeastWrong : ChangeSpec := { name := "packetLeast", fn := fun _ => fun
  | [d] => { results := [.lit (.bool false)], args := [d] }
  | _ => none }
def PacketLeastWrongFalsely : Prop := packetLeastRow.holds Try.pinned (OpenSpec.ofChange packetLeastWrong)

/-- 'shallotlaw16.SurbBlocks': WHATEVER THE INPUT: true; the input reads as it did. -/
def surbBlocksSpec : ChangeSpec := { name := "surbBlocks", fn := fun _ => fun
  | [d] => { results := [.lit (.bool true)], args := [d] }
  | _ => none }
def surbBlocksRow : OpenClaim := { program := "ytkpacpkldjfbhaa", sum := "79163a444f046c28e999f8932843a8575b5bd75caad8b2dbe298154c1a97dab0", func := "shallot/shallotlaw16.SurbBlocks", spec := "surbBlocks", apart := false }
def SurbBlocksSaid : Prop := surbBlocksRow.holds Try.pinned (OpenSpec.ofChange surbBlocksSpec)

/-- ITS FALSE NEIGHBOUR: 'it returns false'. Refute it at one input. -/
def surbBlocksWrong : ChangeSpec := { name := "surbBlocks", fn := fun _ => fun
  | [d] => { results := [.lit (.bool false)], args := [d] }
  | _ => none }
def SurbBlocksWrongFalsely : Prop := surbBlocksRow.holds Try.pinned (OpenSpec.ofChange surbBlocksWrong)

/-- 'shallotlaw21.LexScans': WHATEVER THE INPUT: true; the input reads as it did. -/
def lexScansSpec : ChangeSpec := { name := "lexScans", fn := fun _ => fun
  | [d] => { results := [.lit (.bool true)], args := [d] }
  | _ => none }
def lexScansRow : OpenClaim := { program := "ytkpacpkldjfbhaa", sum := "79163a444f046c28e999f8932843a8575b5bd75caad8b2dbe298154c1a97dab0", func := "shallot/shallotlaw21.LexScans", spec := "lexScans", inPlace := ["internal/bytealg.IndexByteString"], apart := false }
def LexScansSaid : Prop := lexScansRow.holds Try.pinned (OpenSpec.ofChange lexScansSpec)

/-- ITS FALSE NEIGHBOUR: 'it returns false'. Refute it at one input. -/
def lexScansWrong : ChangeSpec := { name := "lexScans", fn := fun _ => fun
  | [d] => { results := [.lit (.bool false)], args := [d] }
  | _ => none }
def LexScansWrongFalsely : Prop := lexScansRow.holds Try.pinned (OpenSpec.ofChange lexScansWrong)

/-- 'shallotlaw21.LexPlaces': WHATEVER THE INPUT: true; the input reads as it did. -/
def lexPlacesSpec : ChangeSpec := { name := "lexPlaces", fn := fun _ => fun
  | [d] => { results := [.lit (.bool true)], args := [d] }
  | _ => none }
def lexPlacesRow : OpenClaim := { program := "ytkpacpkldjfbhaa", sum := "79163a444f046c28e999f8932843a8575b5bd75caad8b2dbe298154c1a97dab0", func := "shallot/shallotlaw21.LexPlaces", spec := "lexPlaces", inPlace := ["internal/bytealg.IndexByteString"], apart := false }
def LexPlacesSaid : Prop := lexPlacesRow.holds Try.pinned (OpenSpec.ofChange lexPlacesSpec)

/-- ITS FALSE NEIGHBOUR: 'it returns false'. Refute it at one input. -/
def lexPlacesWrong : ChangeSpec := { name := "lexPlaces", fn := fun _ => fun
  | [d] => { results := [.lit (.bool false)], args := [d] }
  | _ => none }
def LexPlacesWrongFalsely : Prop := lexPlacesRow.holds Try.pinned (OpenSpec.ofChange lexPlacesWrong)

/-- 'shallotlaw21.LexQuotes': WHATEVER THE INPUT: true; the input reads as it did. -/
def lexQuotesSpec : ChangeSpec := { name := "lexQuotes", fn := fun _ => fun
  | [d] => { results := [.lit (.bool true)], args := [d] }
  | _ => none }
def lexQuotesRow : OpenClaim := { program := "ytkpacpkldjfbhaa", sum := "79163a444f046c28e999f8932843a8575b5bd75caad8b2dbe298154c1a97dab0", func := "shallot/shallotlaw21.LexQuotes", spec := "lexQuotes", inPlace := ["internal/bytealg.IndexByteString"], apart := false }
def LexQuotesSaid : Prop := lexQuotesRow.holds Try.pinned (OpenSpec.ofChange lexQuotesSpec)

/-- ITS FALSE NEIGHBOUR: 'it returns false'. Refute it at one input. -/
def lexQuotesWrong : ChangeSpec := { name := "lexQuotes", fn := fun _ => fun
  | [d] => { results := [.lit (.bool false)], args := [d] }
  | _ => none }
def LexQuotesWrongFalsely : Prop := lexQuotesRow.holds Try.pinned (OpenSpec.ofChange lexQuotesWrong)

/-- 'shallotlaw21.LexStreams': WHATEVER THE INPUT: true; the input reads as it did. -/
def lexStreamsSpec : ChangeSpec := { name := "lexStreams", fn := fun _ => fun
  | [d1, d2] => { results := [.lit (.bool true)], args := [d1, d2] }
  | _ => none }
def lexStreamsRow : OpenClaim := { program := "ytkpacpkldjfbhaa", sum := "79163a444f046c28e999f8932843a8575b5bd75caad8b2dbe298154c1a97dab0", func := "shallot/shallotlaw21.LexStreams", spec := "lexStreams", inPlace := ["internal/bytealg.IndexByteString"], apart := false }
def LexStreamsSaid : Prop := lexStreamsRow.holds Try.pinned (OpenSpec.ofChange lexStreamsSpec)

/-- ITS FALSE NEIGHBOUR: 'it returns false'. Refute it at one input. -/
def lexStreamsWrong : ChangeSpec := { name := "lexStreams", fn := fun _ => fun
  | [d1, d2] => { results := [.lit (.bool false)], args := [d1, d2] }
  | _ => none }
def LexStreamsWrongFalsely : Prop := lexStreamsRow.holds Try.pinned (OpenSpec.ofChange lexStreamsWrong)

/-- 'shallotlaw21.LexSpells': WHATEVER THE INPUT: true; the input reads as it did. -/
def lexSpellsSpec : ChangeSpec := { name := "lexSpells", fn := fun _ => fun
  | [d1, d2] => { results := [.lit (.bool true)], args := [d1, d2] }
  | _ => none }
def lexSpellsRow : OpenClaim := { program := "ytkpacpkldjfbhaa", sum := "79163a444f046c28e999f8932843a8575b5bd75caad8b2dbe298154c1a97dab0", func := "shallot/shallotlaw21.LexSpells", spec := "lexSpells", inPlace := ["internal/bytealg.IndexByteString", "internal/abi.NoEscape", "internal/bytealg.MakeNoZero"], apart := false }
def LexSpellsSaid : Prop := lexSpellsRow.holds Try.pinned (OpenSpec.ofChange lexSpellsSpec)

/-- ITS FALSE NEIGHBOUR: 'it returns false'. Refute it at one input. -/
def lexSpellsWrong : ChangeSpec := { name := "lexSpells", fn := fun _ => fun
  | [d1, d2] => { results := [.lit (.bool false)], args := [d1, d2] }
  | _ => none }
def LexSpellsWrongFalsely : Prop := lexSpellsRow.holds Try.pinned (OpenSpec.ofChange lexSpellsWrong)

/- THE SECOND FORM. 'bulk': how many values and letters a reading holds, each counted each time it is reached (what is shared counts as often as it is met; a slice's spare places count too). A statement '..UptoSaid' is the law's where the arguments, and the package variables that the reading takes, are together of bulk at most 1048576: NARROWER than '..Said'. Prove '..Said' where nothing that the law and all that it calls make is longer than what came in: it says more and counts as full. Else prove '..UptoSaid'. A law counts once. -/
mutual
def uptoBulk {H : Type} : DataW H → Nat
  | .lit (.string bytes) => bytes.length + 1
  | .lit _ => 1
  | .nil => 1
  | .ptr d => uptoBulk d + 1
  | .slice elems spare => uptoBulkAll elems + uptoBulkAll spare + 1
  | .agg parts => uptoBulkAll parts + 1
  | .iface _ d => uptoBulk d + 1
  | .map entries => uptoBulkEntries entries + 1
  | .held _ => 1
def uptoBulkAll {H : Type} : List (DataW H) → Nat
  | [] => 0
  | d :: r => uptoBulk d + uptoBulkAll r
def uptoBulkEntries {H : Type} : List (Lit × DataW H) → Nat
  | [] => 0
  | x :: r => uptoBulkEntry x + uptoBulkEntries r
def uptoBulkEntry {H : Type} : Lit × DataW H → Nat
  | (.string bytes, d) => bytes.length + uptoBulk d + 1
  | (_, d) => uptoBulk d + 1
 end
def uptoSmall : (H : Type) → List (DataW H) → Bool := fun _ ds => decide (uptoBulkAll ds ≤ 1048576)
def OpenSpec.upto (s : _root_.Go.ChangeSpec) : _root_.Go.OpenSpec := { _root_.Go.OpenSpec.ofChange s with cond := some uptoSmall }

/-- 'shallotlaw14.PacketLeast', WHERE WHAT IT READS IS OF BULK AT MOST 1048576: true; the input reads as it did. -/
def packetLeastUptoRow : OpenClaim := { program := "ytkpacpkldjfbhaa", sum := "79163a444f046c28e999f8932843a8575b5bd75caad8b2dbe298154c1a97dab0", func := "shallot/shallotlaw14.PacketLeast", spec := "packetLeast", apart := false, narrowed := true }
def PacketLeastUptoSaid : Prop := packetLeastUptoRow.holds Try.pinned (OpenSpec.upto packetLeastSpec)

/-- 'shallotlaw16.SurbBlocks', WHERE WHAT IT READS IS OF BULK AT MOST 1048576: true; the input reads as it did. -/
def surbBlocksUptoRow : OpenClaim := { program := "ytkpacpkldjfbhaa", sum := "79163a444f046c28e999f8932843a8575b5bd75caad8b2dbe298154c1a97dab0", func := "shallot/shallotlaw16.SurbBlocks", spec := "surbBlocks", apart := false, narrowed := true }
def SurbBlocksUptoSaid : Prop := surbBlocksUptoRow.holds Try.pinned (OpenSpec.upto surbBlocksSpec)

/-- 'shallotlaw21.LexScans', WHERE WHAT IT READS IS OF BULK AT MOST 1048576: true; the input reads as it did. -/
def lexScansUptoRow : OpenClaim := { program := "ytkpacpkldjfbhaa", sum := "79163a444f046c28e999f8932843a8575b5bd75caad8b2dbe298154c1a97dab0", func := "shallot/shallotlaw21.LexScans", spec := "lexScans", inPlace := ["internal/bytealg.IndexByteString"], apart := false, narrowed := true }
def LexScansUptoSaid : Prop := lexScansUptoRow.holds Try.pinned (OpenSpec.upto lexScansSpec)

/-- 'shallotlaw21.LexPlaces', WHERE WHAT IT READS IS OF BULK AT MOST 1048576: true; the input reads as it did. -/
def lexPlacesUptoRow : OpenClaim := { program := "ytkpacpkldjfbhaa", sum := "79163a444f046c28e999f8932843a8575b5bd75caad8b2dbe298154c1a97dab0", func := "shallot/shallotlaw21.LexPlaces", spec := "lexPlaces", inPlace := ["internal/bytealg.IndexByteString"], apart := false, narrowed := true }
def LexPlacesUptoSaid : Prop := lexPlacesUptoRow.holds Try.pinned (OpenSpec.upto lexPlacesSpec)

/-- 'shallotlaw21.LexQuotes', WHERE WHAT IT READS IS OF BULK AT MOST 1048576: true; the input reads as it did. -/
def lexQuotesUptoRow : OpenClaim := { program := "ytkpacpkldjfbhaa", sum := "79163a444f046c28e999f8932843a8575b5bd75caad8b2dbe298154c1a97dab0", func := "shallot/shallotlaw21.LexQuotes", spec := "lexQuotes", inPlace := ["internal/bytealg.IndexByteString"], apart := false, narrowed := true }
def LexQuotesUptoSaid : Prop := lexQuotesUptoRow.holds Try.pinned (OpenSpec.upto lexQuotesSpec)

/-- 'shallotlaw21.LexStreams', WHERE WHAT IT READS IS OF BULK AT MOST 1048576: true; the input reads as it did. -/
def lexStreamsUptoRow : OpenClaim := { program := "ytkpacpkldjfbhaa", sum := "79163a444f046c28e999f8932843a8575b5bd75caad8b2dbe298154c1a97dab0", func := "shallot/shallotlaw21.LexStreams", spec := "lexStreams", inPlace := ["internal/bytealg.IndexByteString"], apart := false, narrowed := true }
def LexStreamsUptoSaid : Prop := lexStreamsUptoRow.holds Try.pinned (OpenSpec.upto lexStreamsSpec)

/-- 'shallotlaw21.LexSpells', WHERE WHAT IT READS IS OF BULK AT MOST 1048576: true; the input reads as it did. -/
def lexSpellsUptoRow : OpenClaim := { program := "ytkpacpkldjfbhaa", sum := "79163a444f046c28e999f8932843a8575b5bd75caad8b2dbe298154c1a97dab0", func := "shallot/shallotlaw21.LexSpells", spec := "lexSpells", inPlace := ["internal/bytealg.IndexByteString", "internal/abi.NoEscape", "internal/bytealg.MakeNoZero"], apart := false, narrowed := true }
def LexSpellsUptoSaid : Prop := lexSpellsUptoRow.holds Try.pinned (OpenSpec.upto lexSpellsSpec)

end Rows
end Go.Proofs.Ytkpacpkldjfbhaa
