/- Part of the proof: Frm3. -/
import Derived.IntWalk
import Derived.Test.YtlbnibmcflmohaaGreatPlx08
import Derived.Test.YtlbnibmcflmohaaGreatPlx13
import Derived.Test.YtlbnibmcflmohaaGreatPlx16
namespace Go.Proofs.YtlbnibmcflmohaaGreat
open Go.RowKit
theorem getD_get {b : List UInt8} {i : Nat} (h : i < b.length) : b[i]? = some (b.getD i 0) := by
  rw [List.getD_eq_getElem?_getD, List.getElem?_eq_getElem h]
  rfl
theorem Rd.get {w : World} {bb bo n : Nat} {l : List UInt8} (h : Rd w (some ⟨bb, bo, none⟩) n (u8s l)) {i : Nat} (hi : i < n) : w.cell? ⟨bb, bo + i, none⟩ = some (.int .u8 (l.getD i 0).toNat) := by
  obtain ⟨b, off, x, e, _, HX, hc⟩ := h.u8 hi
  injection e with e
  injection e with e1 e2
  subst e1
  subst e2
  rw [hc]
  have := HX.out
  rw [getD_get (by rw [h.len]; exact hi)] at this
  injection this with this
  rw [this]
end Go.Proofs.YtlbnibmcflmohaaGreat
