/- Part of the proof: Ty. -/
import Derived.Test.YtafjkbbiaopemaaDoorTfx25
set_option linter.unusedVariables false
namespace Go.Proofs.YtafjkbbiaopemaaDoor.Tr
open Go.RowKit
section
theorem RdS.ofOwn3 {w : World} {base n c sz : Nat} {e : TypeId} {A : Option Addr} {xs : List Value} (h : w.ownsRow base e sz (.slice A n c) n xs) : RdS sz w A n xs := by
  refine ⟨h.1, fun hn => ?_⟩
  rcases h.2 with ⟨_, h0⟩ | ⟨g, cap, cur, hv, _, hg, hnc, _, hcs, htake⟩
  · omega
  · injection hv with hA
    subst hA
    refine ⟨g, 0, rfl, (Array.getElem?_eq_some_iff.1 hg).1, fun j u hu => ?_⟩
    rw [cell_of_row w g (0 + j) cur e (0, 0) hg, Nat.zero_add]
    rw [← htake, List.getElem?_take] at hu
    split at hu
    · simpa using hu
    · cases hu
end
section
variable {gp gs : Nat} {A : Option Addr} {n c : Nat} {ts : List Lx.Tok} {s q q' : PS} {w w' w0 : World} {g : Nat} {E : Ex} {a : Option Addr × Nat}
theorem open_Q2 {d : Nat} (cx : Cx gp gs A n ts) (h : Q (d + 1) s) (hk : s.ok = true) : Q d (openP ts s) := by
  cases hs : sees ts [m_lpar] s
  · have hg := open_g cx.ends s
    have h1 := h.ok hk
    have h0 := h.p0
    have hpa := hg.1
    refine ⟨by omega, by omega, by omega, fun ho => ?_⟩
    exfalso
    have hi : isOf (pk ts s) [m_lpar] = false := by
      unfold sees at hs
      rw [hk] at hs
      simpa using hs
    have hf : (takeP ts m_lpar s).ok = false := by unfold takeP; rw [hk, hi]; rfl
    unfold openP at ho
    rw [hs] at ho
    change (takeP ts m_lpar s).ok = true at ho
    rw [hf] at ho
    cases ho
  · exact open_Q cx h hs
theorem ArgsIn.jn {w0 : World} {p : Int} {l : List Ex} {sl : List (Option Addr × Nat)} {A1 : Option Addr} {c1 : Nat} (h : JnS gp gs A n c ts w0 g p l sl (.slice A1 l.length c1) q w) : ArgsIn (Fx w0.heap.size g) w A1 l := by
  refine .mk _ _ sl h.nl ⟨RdS.ofOwn3 h.own, fun hn ad e => ?_⟩ (fun i e a h1 h2 => (h.ar i e a h1 h2).keep ⟨Nat.le_refl _, fun _ _ _ => rfl, fun k hk _ => ⟨hk.1, hk.2.1⟩⟩)
  obtain ⟨b, off, e2, hb, _⟩ := (RdS.ofOwn3 h.own).2 hn
  subst e
  injection e2 with e2
  subst e2
  exact ⟨(h.own.lt b rfl).1, h.ob b rfl⟩
end
end Go.Proofs.YtafjkbbiaopemaaDoor.Tr
