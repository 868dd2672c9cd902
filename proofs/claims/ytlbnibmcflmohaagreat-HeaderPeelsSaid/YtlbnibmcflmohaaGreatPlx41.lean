/- Part of the proof: Opd, Opa. -/
import Derived.Test.YtlbnibmcflmohaaGreatPlx39
namespace Go.Proofs.YtlbnibmcflmohaaGreat
open Go.RowKit
noncomputable def opE (s : Sp) (h : List UInt8) : Nat := if fits s h = false then 6 else if dce ((plainOf s h).take 32) ≠ 0 then 3 else if (dcm ((plainOf s h).take 32)).k ≠ 1 then 0 else mE s.blind s.alpha
noncomputable def opC (s : Sp) (h : List UInt8) : Cm := if fits s h = false then Cm.zero else if dce ((plainOf s h).take 32) ≠ 0 then Cm.zero else if (dcm ((plainOf s h).take 32)).k ≠ 1 then dcm ((plainOf s h).take 32) else if mE s.blind s.alpha = 0 then dcm ((plainOf s h).take 32) else Cm.zero
end Go.Proofs.YtlbnibmcflmohaaGreat
namespace Go.Proofs.YtlbnibmcflmohaaGreat
open Go.RowKit
noncomputable def opN (s : Sp) (h : List UInt8) : List UInt8 := if fits s h = false then z288 else if dce ((plainOf s h).take 32) ≠ 0 then z288 else if (dcm ((plainOf s h).take 32)).k ≠ 1 then z288 else if mE s.blind s.alpha = 0 then mB s.blind s.alpha ++ (plainOf s h).drop 32 else z288
theorem hopen_any (s : Sp) (hs : s.ok) (h : List UInt8) (hh : h.length = 288) (w : World) :
    Calls Tryz.prog 11 #[.agg (u8s h).toArray, .agg s.cells.toArray] w fun e w' => e = .returned (.tuple #[.agg (opC s h).cells.toArray, .agg (u8s (opN s h)).toArray, .int .i64 (opE s h : Int)]) ∧ Below w.heap.size w w' := by
  unfold opC opN opE
  by_cases h1 : fits s h = false
  · simp only [if_pos h1]
    exact open_bad s hs h hh h1 w
  · have h1' : fits s h = true := by simpa using h1
    simp only [if_neg h1]
    by_cases h2 : dce ((plainOf s h).take 32) ≠ 0
    · simp only [if_pos h2]
      exact open_form s hs h hh h1' h2 w
    · have h2' : dce ((plainOf s h).take 32) = 0 := Decidable.not_not.1 h2
      simp only [if_neg h2]
      by_cases h3 : (dcm ((plainOf s h).take 32)).k ≠ 1
      · simp only [if_pos h3]
        exact open_last s hs h hh h1' h2' h3 w
      · have h3' : (dcm ((plainOf s h).take 32)).k = 1 := Decidable.not_not.1 h3
        simp only [if_neg h3]
        refine (open_relay s hs h hh h1' h2' h3' w).mono ?_
        rintro e w' ⟨rfl, hB⟩
        refine ⟨?_, hB⟩
        by_cases h4 : mE s.blind s.alpha = 0
        · simp only [if_pos h4]
        · simp only [if_neg h4]
end Go.Proofs.YtlbnibmcflmohaaGreat
