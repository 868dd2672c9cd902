/- Arguments of a law, opened to what the walks ask. -/
import Derived.Test.YtgkhglnfbhdkeaaBase
import Derived.Test.YtgkhglnfbhdkeaaRows
import Derived.ProofKit
import Derived.OpenShut
import Derived.ShutString
import Derived.ChangeOld
import Derived.SizedLaws
namespace Go.Proofs.Ytgkhglnfbhdkeaa
open Go.ChangeShapes Go.WideShapes Go.ChangeAt Go.RowKit
open Go.ChangeMaps (open_string shut_string)

theorem own : ownKnob Try.prog.godebug = none := by kernel_rfl
theorem laidOut : laidOutB Try.prog = true := by kernel_rfl

def intsOf (k : IntKind) (l : List Int) : List Value := l.map fun n => .int k n

theorem open_intsOf {H : Type} {enc : TypeId × Value → H} {P : Program} {W : World} {t e : TypeId} {k : IntKind} {a : Option Addr} {n c : Nat} {d : DataW H} {p : List MemPlace} (ht : P.underlying t = some (.slice e)) (he : P.underlying e = some (.int k)) (hC : P.cellsOf e = 1)
    (h : DataW.Trod enc P W 0 (fun _ => true) true t (.slice a n c) d p) (by_ R : Nat) (hw : ∀ elems spare, d = .slice elems spare → (elems.length + spare.length) * by_ ≤ R) :
    ∃ l, Rd W a n (intsOf k l) ∧ n ≤ c ∧ c * by_ ≤ R ∧ ∀ m ∈ l, (Lit.int k m).wf = true := by
  obtain ⟨fuel, hf⟩ := h
  rcases open_ints ht he hC hf with ⟨hcs, _⟩ | ⟨x, l, c', zs, hcs, _, hl, hm, hz, hx, hcell, hwz⟩
  · simp [Value.cells] at hcs
    obtain ⟨rfl, rfl, rfl⟩ := hcs
    exact ⟨[], Rd.nil _ _, by omega, by omega, by simp⟩
  · simp [Value.cells] at hcs
    obtain ⟨rfl, rfl, rfl⟩ := hcs
    simp only [if_true] at hz
    have hd : d = .slice (lits k (zs.take n)) (lits k (zs.drop n)) := by simp only [Prod.mk.injEq] at hx; exact hx.1
    have hwt := hw _ _ hd
    simp [lits] at hwt
    refine ⟨zs.take n, ⟨by simp [intsOf]; omega, fun hn => ?_⟩, hl, ?_, fun m hm => hwz m (List.mem_of_mem_take hm)⟩
    · obtain ⟨b, off, spot⟩ := x
      have h0 := hcell 0 (by omega)
      have hspot : spot = none := by simpa [Addr.add] using World.cell?_spot h0
      subst hspot
      refine ⟨b, off, rfl, World.block_lt_of_cell? W _ h0, fun j u hu => ?_⟩
      simp only [intsOf, List.getElem?_map, Option.map_eq_some_iff] at hu
      obtain ⟨m, hm, rfl⟩ := hu
      rw [List.getElem?_take] at hm
      split at hm
      · have hj : j < zs.length := (List.getElem?_eq_some_iff.1 hm).1
        have := hcell j hj
        rw [Addr.add_mid] at this
        rw [this]
        simp [List.getD_eq_getElem?_getD, hm]
      · cases hm
    · have : n + (zs.length - n) = c := by omega
      have h2 : min n zs.length = n := by omega
      rw [h2, this] at hwt
      exact hwt

theorem u8_of_wf {m : Int} (h : (Lit.int .u8 m).wf = true) : m = ((UInt8.ofNat m.toNat).toNat : Nat) := by
  have := bounds_u8 h
  simp
  omega
theorem open_bytes {H : Type} {enc : TypeId × Value → H} {P : Program} {W : World} {t e : TypeId} {a : Option Addr} {n c : Nat} {d : DataW H} {p : List MemPlace} (ht : P.underlying t = some (.slice e)) (he : P.underlying e = some (.int .u8)) (hC : P.cellsOf e = 1)
    (h : DataW.Trod enc P W 0 (fun _ => true) true t (.slice a n c) d p) (R : Nat) (hw : ∀ elems spare, d = .slice elems spare → (elems.length + spare.length) * 1 ≤ R) :
    ∃ l, Rd W a n (u8s l) ∧ n ≤ c ∧ c ≤ R := by
  obtain ⟨l, hr, hn, hc, hwf⟩ := open_intsOf ht he hC h 1 R hw
  refine ⟨l.map fun m => UInt8.ofNat m.toNat, ?_, hn, by omega⟩
  have : u8s (l.map fun m => UInt8.ofNat m.toNat) = intsOf .u8 l := by
    simp only [u8s, intsOf, List.map_map]
    exact List.map_congr_left fun m hm => congrArg (Value.int .u8) (u8_of_wf (hwf m hm)).symm
  rw [this]
  exact hr

end Go.Proofs.Ytgkhglnfbhdkeaa
