/-
  No cell of these rows narrows 'for every input' (looked for: loops, veiled, ifaces, maps, wideKeys, modest, calm, conditions, laid).
  DERIVED. THE GIVEN ROWS OF THIS SEAT. 7 by the template 'for every input the law returns true; each argument reads behind the call as it read before'; 0 by the template 'total and deterministic' (their statements: YtpgpaenloaphaaaGreatTotals.lean).
  GIVEN WITH THE SEED: the statements are not yours to turn. If you find one false, say at which input.
  Laid BY PROGRAM, IN A SANDBOX (cutbox-rows.mjs): the forced cells as the released guide's own fill.sh prints them over the translation 84bcc1c8d3b9d4c3… (all of the seat's roots in one cut). By AI agents, Wed Nov 11 2026. No macro, syntax, notation, axiom, sorry.
-/
import Derived.Test.YtpgpaenloaphaaaGreatChecked
import GoSem.Claim
import GoSem.ClaimJoined
import GoSem.ClaimMapViews
import Derived.JoinedTies
import Derived.KernelRfl
namespace Go.Proofs.YtpgpaenloaphaaaGreat
/- THE CELL 'sum', in the pinned program and in every row, IS THE sha256 OF THE DUMP (.gsa) THAT YtpgpaenloaphaaaGreatProg.lean LOADS. Nothing in Lean hashes anything: it is a label: what it is worth is what the hold of that sum in a sandbox is worth. -/
noncomputable def Tryz.pinned : Pinned := { name := "ytpgpaenloaphaaagreat", sum := "84bcc1c8d3b9d4c3e0e285abfc5d37f70f1a080798a91067c8dda6b4e6b201f3", checked := Tryz.checked }
namespace Rows
def none {H : Type} : Left H := { results := [], args := [] }

/-- 'shallotlaw14.PacketParses': WHATEVER THE INPUT: true; the input reads as it did. -/
def packetParsesSpec : ChangeSpec := { name := "packetParses", fn := fun _ => fun
  | [d1, d2] => { results := [.lit (.bool true)], args := [d1, d2] }
  | _ => none }
def packetParsesRow : OpenClaim := { program := "ytpgpaenloaphaaagreat", sum := "84bcc1c8d3b9d4c3e0e285abfc5d37f70f1a080798a91067c8dda6b4e6b201f3", func := "shallot/shallotlaw14.PacketParses", spec := "packetParses", inPlace := ["math/bits.Add64", "math/bits.Sub64"], apart := false }
def PacketParsesSaid : Prop := packetParsesRow.holds Tryz.pinned (OpenSpec.ofChange packetParsesSpec)

/-- ITS FALSE NEIGHBOUR: 'it returns false'. Refute it at one input. -/
def packetParsesWrong : ChangeSpec := { name := "packetParses", fn := fun _ => fun
  | [d1, d2] => { results := [.lit (.bool false)], args := [d1, d2] }
  | _ => none }
def PacketParsesWrongFalsely : Prop := packetParsesRow.holds Tryz.pinned (OpenSpec.ofChange packetParsesWrong)

/-- 'shallotlaw13.HeaderOpens': WHATEVER THE INPUT: true; the input reads as it did. -/
def headerOpensSpec : ChangeSpec := { name := "headerOpens", fn := fun _ => fun
  | [d1, d2] => { results := [.lit (.bool true)], args := [d1, d2] }
  | _ => none }
def headerOpensRow : OpenClaim := { program := "ytpgpaenloaphaaagreat", sum := "84bcc1c8d3b9d4c3e0e285abfc5d37f70f1a080798a91067c8dda6b4e6b201f3", func := "shallot/shallotlaw13.HeaderOpens", spec := "headerOpens", inPlace := ["math/bits.Add64", "math/bits.Sub64"], unfollowed := true, recurses := true, apart := false }
def HeaderOpensSaid : Prop := headerOpensRow.holds Tryz.pinned (OpenSpec.ofChange headerOpensSpec)

/-- ITS FALSE NEIGHBOUR: 'it returns false'. Refute it at one input. -/
def headerOpensWrong : ChangeSpec := { name := "headerOpens", fn := fun _ => fun
  | [d1, d2] => { results := [.lit (.bool false)], args := [d1, d2] }
  | _ => none }
def HeaderOpensWrongFalsely : Prop := headerOpensRow.holds Tryz.pinned (OpenSpec.ofChange headerOpensWrong)

/-- 'shallotlaw16.SurbMakes': WHATEVER THE INPUT: true; the input reads as it did. -/
def surbMakesSpec : ChangeSpec := { name := "surbMakes", fn := fun _ => fun
  | [d1, d2] => { results := [.lit (.bool true)], args := [d1, d2] }
  | _ => none }
def surbMakesRow : OpenClaim := { program := "ytpgpaenloaphaaagreat", sum := "84bcc1c8d3b9d4c3e0e285abfc5d37f70f1a080798a91067c8dda6b4e6b201f3", func := "shallot/shallotlaw16.SurbMakes", spec := "surbMakes", inPlace := ["math/bits.Add64", "math/bits.Sub64"], unfollowed := true, recurses := true, apart := false }
def SurbMakesSaid : Prop := surbMakesRow.holds Tryz.pinned (OpenSpec.ofChange surbMakesSpec)

/-- ITS FALSE NEIGHBOUR: 'it returns false'. Refute it at one input. -/
def surbMakesWrong : ChangeSpec := { name := "surbMakes", fn := fun _ => fun
  | [d1, d2] => { results := [.lit (.bool false)], args := [d1, d2] }
  | _ => none }
def SurbMakesWrongFalsely : Prop := surbMakesRow.holds Tryz.pinned (OpenSpec.ofChange surbMakesWrong)

/-- 'shallotlaw14.PacketBuilds': WHATEVER THE INPUT: true; the input reads as it did. -/
def packetBuildsSpec : ChangeSpec := { name := "packetBuilds", fn := fun _ => fun
  | [d1, d2] => { results := [.lit (.bool true)], args := [d1, d2] }
  | _ => none }
def packetBuildsRow : OpenClaim := { program := "ytpgpaenloaphaaagreat", sum := "84bcc1c8d3b9d4c3e0e285abfc5d37f70f1a080798a91067c8dda6b4e6b201f3", func := "shallot/shallotlaw14.PacketBuilds", spec := "packetBuilds", inPlace := ["math/bits.Add64", "math/bits.Sub64"], unfollowed := true, recurses := true, apart := false }
def PacketBuildsSaid : Prop := packetBuildsRow.holds Tryz.pinned (OpenSpec.ofChange packetBuildsSpec)

/-- ITS FALSE NEIGHBOUR: 'it returns false'. Refute it at one input. -/
def packetBuildsWrong : ChangeSpec := { name := "packetBuilds", fn := fun _ => fun
  | [d1, d2] => { results := [.lit (.bool false)], args := [d1, d2] }
  | _ => none }
def PacketBuildsWrongFalsely : Prop := packetBuildsRow.holds Tryz.pinned (OpenSpec.ofChange packetBuildsWrong)

/-- 'shallotlaw14.PacketKeeps': WHATEVER THE INPUT: true; the input reads as it did. -/
def packetKeepsSpec : ChangeSpec := { name := "packetKeeps", fn := fun _ => fun
  | [d1, d2, d3] => { results := [.lit (.bool true)], args := [d1, d2, d3] }
  | _ => none }
def packetKeepsRow : OpenClaim := { program := "ytpgpaenloaphaaagreat", sum := "84bcc1c8d3b9d4c3e0e285abfc5d37f70f1a080798a91067c8dda6b4e6b201f3", func := "shallot/shallotlaw14.PacketKeeps", spec := "packetKeeps", inPlace := ["math/bits.Add64", "math/bits.Sub64"], unfollowed := true, recurses := true, apart := false }
def PacketKeepsSaid : Prop := packetKeepsRow.holds Tryz.pinned (OpenSpec.ofChange packetKeepsSpec)

/-- ITS FALSE NEIGHBOUR: 'it returns false'. Refute it at one input. -/
def packetKeepsWrong : ChangeSpec := { name := "packetKeeps", fn := fun _ => fun
  | [d1, d2, d3] => { results := [.lit (.bool false)], args := [d1, d2, d3] }
  | _ => none }
def PacketKeepsWrongFalsely : Prop := packetKeepsRow.holds Tryz.pinned (OpenSpec.ofChange packetKeepsWrong)

/-- 'shallotlaw14.PacketHides': WHATEVER THE INPUT: true; the input reads as it did. -/
def packetHidesSpec : ChangeSpec := { name := "packetHides", fn := fun _ => fun
  | [d1, d2] => { results := [.lit (.bool true)], args := [d1, d2] }
  | _ => none }
def packetHidesRow : OpenClaim := { program := "ytpgpaenloaphaaagreat", sum := "84bcc1c8d3b9d4c3e0e285abfc5d37f70f1a080798a91067c8dda6b4e6b201f3", func := "shallot/shallotlaw14.PacketHides", spec := "packetHides", inPlace := ["math/bits.Add64", "math/bits.Sub64"], unfollowed := true, recurses := true, apart := false }
def PacketHidesSaid : Prop := packetHidesRow.holds Tryz.pinned (OpenSpec.ofChange packetHidesSpec)

/-- ITS FALSE NEIGHBOUR: 'it returns false'. Refute it at one input. -/
def packetHidesWrong : ChangeSpec := { name := "packetHides", fn := fun _ => fun
  | [d1, d2] => { results := [.lit (.bool false)], args := [d1, d2] }
  | _ => none }
def PacketHidesWrongFalsely : Prop := packetHidesRow.holds Tryz.pinned (OpenSpec.ofChange packetHidesWrong)

/-- 'shallotlaw16.SurbKeeps': WHATEVER THE INPUT: true; the input reads as it did. -/
def surbKeepsSpec : ChangeSpec := { name := "surbKeeps", fn := fun _ => fun
  | [d1, d2, d3] => { results := [.lit (.bool true)], args := [d1, d2, d3] }
  | _ => none }
def surbKeepsRow : OpenClaim := { program := "ytpgpaenloaphaaagreat", sum := "84bcc1c8d3b9d4c3e0e285abfc5d37f70f1a080798a91067c8dda6b4e6b201f3", func := "shallot/shallotlaw16.SurbKeeps", spec := "surbKeeps", inPlace := ["math/bits.Add64", "math/bits.Sub64"], unfollowed := true, recurses := true, apart := false }
def SurbKeepsSaid : Prop := surbKeepsRow.holds Tryz.pinned (OpenSpec.ofChange surbKeepsSpec)

/-- ITS FALSE NEIGHBOUR: 'it returns false'. Refute it at one input. -/
def surbKeepsWrong : ChangeSpec := { name := "surbKeeps", fn := fun _ => fun
  | [d1, d2, d3] => { results := [.lit (.bool false)], args := [d1, d2, d3] }
  | _ => none }
def SurbKeepsWrongFalsely : Prop := surbKeepsRow.holds Tryz.pinned (OpenSpec.ofChange surbKeepsWrong)

/- THE SECOND FORM. 'bulk': how many values and letters a reading holds, each counted each time it is reached (what is shared counts as often as it is met; a slice's spare places count too). A statement '..UptoSaid' is the law's where the arguments, and the package variables that the reading takes, are together of bulk at most 1048576: NARROWER than '..Said'. Prove '..Said' where nothing that the law and all that it calls make is longer than what came in: it says more and counts as full. Else prove '..UptoSaid'. A law counts once. -/
mutual
def uptoBulk {H : Type} : DataW H → Nat
  | .lit (.string bytes) => bytes.length + 1
  | .lit _ => 1
  | .nil => 1
  | .ptr d => uptoBulk d + 1
  | .slice elems spare => uptoBulkAll elems + uptoBulkAll spare + 1
  | .agg parts => uptoBulkAll parts + 1
  | .iface _ d => uptoBulk d + 1
  | .map entries => uptoBulkEntries entries + 1
  | .held _ => 1
def uptoBulkAll {H : Type} : List (DataW H) → Nat
  | [] => 0
  | d :: r => uptoBulk d + uptoBulkAll r
def uptoBulkEntries {H : Type} : List (Lit × DataW H) → Nat
  | [] => 0
  | x :: r => uptoBulkEntry x + uptoBulkEntries r
def uptoBulkEntry {H : Type} : Lit × DataW H → Nat
  | (.string bytes, d) => bytes.length + uptoBulk d + 1
  | (_, d) => uptoBulk d + 1
 end
def uptoSmall : (H : Type) → List (DataW H) → Bool := fun _ ds => decide (uptoBulkAll ds ≤ 1048576)
def OpenSpec.upto (s : _root_.Go.ChangeSpec) : _root_.Go.OpenSpec := { _root_.Go.OpenSpec.ofChange s with cond := some uptoSmall }

/-- 'shallotlaw14.PacketParses', WHERE WHAT IT READS IS OF BULK AT MOST 1048576: true; the input reads as it did. -/
def packetParsesUptoRow : OpenClaim := { program := "ytpgpaenloaphaaagreat", sum := "84bcc1c8d3b9d4c3e0e285abfc5d37f70f1a080798a91067c8dda6b4e6b201f3", func := "shallot/shallotlaw14.PacketParses", spec := "packetParses", inPlace := ["math/bits.Add64", "math/bits.Sub64"], apart := false, narrowed := true }
def PacketParsesUptoSaid : Prop := packetParsesUptoRow.holds Tryz.pinned (OpenSpec.upto packetParsesSpec)

/-- 'shallotlaw13.HeaderOpens', WHERE WHAT IT READS IS OF BULK AT MOST 1048576: true; the input reads as it did. -/
def headerOpensUptoRow : OpenClaim := { program := "ytpgpaenloaphaaagreat", sum := "84bcc1c8d3b9d4c3e0e285abfc5d37f70f1a080798a91067c8dda6b4e6b201f3", func := "shallot/shallotlaw13.HeaderOpens", spec := "headerOpens", inPlace := ["math/bits.Add64", "math/bits.Sub64"], unfollowed := true, recurses := true, apart := false, narrowed := true }
def HeaderOpensUptoSaid : Prop := headerOpensUptoRow.holds Tryz.pinned (OpenSpec.upto headerOpensSpec)

/-- 'shallotlaw16.SurbMakes', WHERE WHAT IT READS IS OF BULK AT MOST 1048576: true; the input reads as it did. -/
def surbMakesUptoRow : OpenClaim := { program := "ytpgpaenloaphaaagreat", sum := "84bcc1c8d3b9d4c3e0e285abfc5d37f70f1a080798a91067c8dda6b4e6b201f3", func := "shallot/shallotlaw16.SurbMakes", spec := "surbMakes", inPlace := ["math/bits.Add64", "math/bits.Sub64"], unfollowed := true, recurses := true, apart := false, narrowed := true }
def SurbMakesUptoSaid : Prop := surbMakesUptoRow.holds Tryz.pinned (OpenSpec.upto surbMakesSpec)

/-- 'shallotlaw14.PacketBuilds', WHERE WHAT IT READS IS OF BULK AT MOST 1048576: true; the input reads as it did. -/
def packetBuildsUptoRow : OpenClaim := { program := "ytpgpaenloaphaaagreat", sum := "84bcc1c8d3b9d4c3e0e285abfc5d37f70f1a080798a91067c8dda6b4e6b201f3", func := "shallot/shallotlaw14.PacketBuilds", spec := "packetBuilds", inPlace := ["math/bits.Add64", "math/bits.Sub64"], unfollowed := true, recurses := true, apart := false, narrowed := true }
def PacketBuildsUptoSaid : Prop := packetBuildsUptoRow.holds Tryz.pinned (OpenSpec.upto packetBuildsSpec)

/-- 'shallotlaw14.PacketKeeps', WHERE WHAT IT READS IS OF BULK AT MOST 1048576: true; the input reads as it did. -/
def packetKeepsUptoRow : OpenClaim := { program := "ytpgpaenloaphaaagreat", sum := "84bcc1c8d3b9d4c3e0e285abfc5d37f70f1a080798a91067c8dda6b4e6b201f3", func := "shallot/shallotlaw14.PacketKeeps", spec := "packetKeeps", inPlace := ["math/bits.Add64", "math/bits.Sub64"], unfollowed := true, recurses := true, apart := false, narrowed := true }
def PacketKeepsUptoSaid : Prop := packetKeepsUptoRow.holds Tryz.pinned (OpenSpec.upto packetKeepsSpec)

/-- 'shallotlaw14.PacketHides', WHERE WHAT IT READS IS OF BULK AT MOST 1048576: true; the input reads as it did. -/
def packetHidesUptoRow : OpenClaim := { program := "ytpgpaenloaphaaagreat", sum := "84bcc1c8d3b9d4c3e0e285abfc5d37f70f1a080798a91067c8dda6b4e6b201f3", func := "shallot/shallotlaw14.PacketHides", spec := "packetHides", inPlace := ["math/bits.Add64", "math/bits.Sub64"], unfollowed := true, recurses := true, apart := false, narrowed := true }
def PacketHidesUptoSaid : Prop := packetHidesUptoRow.holds Tryz.pinned (OpenSpec.upto packetHidesSpec)

/-- 'shallotlaw16.SurbKeeps', WHERE WHAT IT READS IS OF BULK AT MOST 1048576: true; the input reads as it did. -/
def surbKeepsUptoRow : OpenClaim := { program := "ytpgpaenloaphaaagreat", sum := "84bcc1c8d3b9d4c3e0e285abfc5d37f70f1a080798a91067c8dda6b4e6b201f3", func := "shallot/shallotlaw16.SurbKeeps", spec := "surbKeeps", inPlace := ["math/bits.Add64", "math/bits.Sub64"], unfollowed := true, recurses := true, apart := false, narrowed := true }
def SurbKeepsUptoSaid : Prop := surbKeepsUptoRow.holds Tryz.pinned (OpenSpec.upto surbKeepsSpec)

end Rows
end Go.Proofs.YtpgpaenloaphaaaGreat
