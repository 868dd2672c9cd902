/- Arrays of bytes and stores as arguments. -/
import Derived.Test.YtgkhglnfbhdkeaaRdB
import Derived.Test.YtgkhglnfbhdkeaaSurbDecW
namespace Go.Proofs.Ytgkhglnfbhdkeaa
open Go.RowKit

def toU8 : Value → UInt8
  | .int .u8 k => UInt8.ofNat k.toNat
  | _ => 0
theorem reads_arr {P : Program} {B : Option Nat} {N n : Nat} {t e : TypeId} (ht : P.underlying t = some (.array n e)) (hu : P.underlying e = some (.int .u8)) (hc : P.cellsOf e = 1) (hct : P.cellsOf t = n) : Reads P B N t (fun l : List UInt8 => u8s l) (fun _ l => l.length = n) :=
  ⟨fun {H enc W fuel cs x} hf hx hw hb => by
    obtain ⟨xs, m, rfl, rfl, hlen, hxl, hel⟩ := DataW.trod_array ht hx
    refine ⟨cs.map toU8, ?_, by rw [List.length_map, hlen, hct]⟩
    have hall : ∀ v ∈ cs, u8 (toU8 v) = v := by
      intro v hv
      obtain ⟨i, hi, rfl⟩ := List.getElem_of_mem hv
      have h1 := hel i (by omega)
      rw [hc, Nat.mul_one, List.getElem?_eq_getElem (by omega)] at h1
      obtain ⟨k, e1, _, hk⟩ := DataW.trod_int hu h1
      rw [List.drop_eq_getElem_cons hi, List.take_succ_cons, List.take_zero] at e1
      injection e1 with e1 _
      rw [e1]
      exact congrArg (fun z => Value.int .u8 z) (u8_of_wf hk).symm
    rw [u8s, List.map_map]
    have h2 : cs.map (u8 ∘ toU8) = cs.map id := List.map_congr_left (fun v hv => hall v hv)
    rw [h2, List.map_id]⟩
/-- a store with its keys -/
structure StX where
  mark : List UInt8
  own : List UInt8
  pays : Sl (List UInt8)
def StX.cells (s : StX) : List Value := stC s.mark s.own s.pays.A s.pays.n s.pays.c
def StXQ (W : World) (s : StX) : Prop := s.mark.length = 16 ∧ s.own.length = 32 ∧ RdS 32 W s.pays.A s.pays.n (s.pays.l.flatMap u8s) ∧ s.pays.l.length = s.pays.n ∧ (∀ k ∈ s.pays.l, k.length = 32) ∧ s.pays.n ≤ s.pays.c
theorem reads_store (B : Option Nat) (N : Nat) : Reads Try.prog B N 47 StX.cells StXQ :=
  Reads.mono ((reads_struct (N := N + 1) Try.underlying47 (by kernel_rfl)
    (readsF_cons (sz := 16) rfl (by kernel_rfl) (reads_arr Try.underlying25 Try.underlying5 (by kernel_rfl) (by kernel_rfl)) (readsF_cons (sz := 32) rfl (by kernel_rfl) (reads_arr Try.underlying24 Try.underlying5 (by kernel_rfl) (by kernel_rfl))
      (readsF_cons (sz := 1) rfl (by kernel_rfl) (reads_slice (N := N) 32 32 Try.underlying45 (by kernel_rfl) (by kernel_rfl) (by omega) (reads_arr Try.underlying24 Try.underlying5 (by kernel_rfl) (by kernel_rfl))) readsF_nil)))).imp
    fun W ⟨mk, ow, s, _⟩ ⟨h1, h2, hs, _⟩ => ⟨⟨mk, ow, s⟩, by simp [StX.cells, stC, Sl.val], h1, h2, hs.rd, hs.len, fun k hk => hs.each k hk, hs.cap⟩) (by omega)
theorem reads_storeD (B : Option Nat) (N : Nat) : Reads Try.prog B N 47 StD.cells (fun _ s => s.ok) :=
  (reads_store B N).imp fun _ s h => ⟨⟨s.mark, s.own, s.pays.A, s.pays.n, s.pays.c⟩, rfl, h.1, h.2.1⟩
theorem reads_stores (B : Option Nat) (N : Nat) : Reads Try.prog B N 48 (fun s : Sl StD => [s.val]) (SlIn B 49 72 StD.cells (fun _ s => s.ok)) :=
  Reads.mono (reads_slice (N := N) 49 72 Try.underlying48 (by kernel_rfl) (by kernel_rfl) (by omega) (reads_storeD B N)) (by omega)
end Go.Proofs.Ytgkhglnfbhdkeaa
namespace Go.Proofs.Ytgkhglnfbhdkeaa.surbDecodes
open Go.RowKit
theorem walkA {W : World} (s : StX) (hs : StXQ W s) (b : Sl UInt8) (h2 : Rd W b.A b.n (u8s b.l) ∧ b.n ≤ b.c ∧ b.c ≤ 140737488351232) (a : Sl StD) (h3 : SlIn none 49 72 StD.cells (fun _ s => s.ok) W a) :
    Calls Try.prog 4 #[.agg s.cells.toArray, b.val, a.val] W fun e w' => e = .returned (.bool true) ∧ Below W.heap.size W w' :=
  walk s.mark s.own s.pays.A s.pays.n s.pays.c s.pays.l b.A b.n b.c b.l a.A a.n a.c a.l W hs.1 hs.2.1 hs.2.2.1 hs.2.2.2.1 hs.2.2.2.2.1 hs.2.2.2.2.2 h2.1 h2.2.1 h2.2.2 h3.rd h3.len (fun s h => h3.each s h) h3.cap (by have h4 := h3.reach; unfold reachBytes at h4; omega)
end Go.Proofs.Ytgkhglnfbhdkeaa.surbDecodes
