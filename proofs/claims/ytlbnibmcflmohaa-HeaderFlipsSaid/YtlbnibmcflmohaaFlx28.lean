/- Part of the proof: Dec2. -/
import Derived.Test.YtlbnibmcflmohaaFlx20
import Derived.Test.YtlbnibmcflmohaaFlx24
namespace Go.Proofs.Ytlbnibmcflmohaa
open Go.RowKit
def PaysR (w : World) (A : Option Addr) (m : Nat) (ks : List (List UInt8)) : Prop :=
  ks.length = m ∧ (∀ k ∈ ks, k.length = 32) ∧ (0 < m → ∃ b off, A = some ⟨b, off, none⟩ ∧ ∀ i k, ks[i]? = some k → Rd w (some ⟨b, off + i * 32, none⟩) 32 (u8s k))
theorem PaysR.below {w w' : World} {A : Option Addr} {m : Nat} {ks : List (List UInt8)} (h : PaysR w A m ks) (hB : Below w.heap.size w w') : PaysR w' A m ks :=
  ⟨h.1, h.2.1, fun hm => by
    obtain ⟨b, off, e, hr⟩ := h.2.2 hm
    exact ⟨b, off, e, fun i k hi => (hr i k hi).below hB⟩⟩
end Go.Proofs.Ytlbnibmcflmohaa
