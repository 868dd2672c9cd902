/- Lists of commands and of steps as arguments. -/
import Derived.Test.YtgkhglnfbhdkeaaRdB
import Derived.Test.YtgkhglnfbhdkeaaStp
namespace Go.Proofs.Ytgkhglnfbhdkeaa
open Go.RowKit

def toU8h : Value → UInt8
  | .int .u8 k => UInt8.ofNat k.toNat
  | _ => 0
theorem reads_arrH {P : Program} {B : Option Nat} {N n : Nat} {t e : TypeId} (ht : P.underlying t = some (.array n e)) (hu : P.underlying e = some (.int .u8)) (hc : P.cellsOf e = 1) (hct : P.cellsOf t = n) : Reads P B N t (fun l : List UInt8 => u8s l) (fun _ l => l.length = n) :=
  ⟨fun {H enc W fuel cs x} hf hx hw hb => by
    obtain ⟨xs, m, rfl, rfl, hlen, hxl, hel⟩ := DataW.trod_array ht hx
    refine ⟨cs.map toU8h, ?_, by rw [List.length_map, hlen, hct]⟩
    have hall : ∀ v ∈ cs, u8 (toU8h v) = v := by
      intro v hv
      obtain ⟨i, hi, rfl⟩ := List.getElem_of_mem hv
      have h1 := hel i (by omega)
      rw [hc, Nat.mul_one, List.getElem?_eq_getElem (by omega)] at h1
      obtain ⟨k, e1, _, hk⟩ := DataW.trod_int hu h1
      rw [List.drop_eq_getElem_cons hi, List.take_succ_cons, List.take_zero] at e1
      injection e1 with e1 _
      rw [e1]
      exact congrArg (fun z => Value.int .u8 z) (u8_of_wf hk).symm
    rw [u8s, List.map_map]
    have h2 : cs.map (u8 ∘ toU8h) = cs.map id := List.map_congr_left (fun v hv => hall v hv)
    rw [h2, List.map_id]⟩
theorem reads_u32 {P : Program} {B : Option Nat} {N : Nat} {t : TypeId} (ht : P.underlying t = some (.int .u32)) : Reads P B N t (fun x : Nat => [.int .u32 (x : Int)]) (fun _ x => x < 4294967296) :=
  (reads_int ht).imp fun _ n hn => by
    have h2 : IntKind.u32.min ≤ n ∧ n ≤ IntKind.u32.max := by simpa [Lit.wf] using hn
    have h3 : (0 : Int) ≤ n ∧ n ≤ 4294967295 := h2
    exact ⟨n.toNat, by rw [Int.toNat_of_nonneg h3.1], by omega⟩
theorem reads_u64 {P : Program} {B : Option Nat} {N : Nat} {t : TypeId} (ht : P.underlying t = some (.int .u64)) : Reads P B N t (fun x : Nat => [.int .u64 (x : Int)]) (fun _ x => x < 18446744073709551616) :=
  (reads_int ht).imp fun _ n hn => by
    have h2 : IntKind.u64.min ≤ n ∧ n ≤ IntKind.u64.max := by simpa [Lit.wf] using hn
    have h3 : (0 : Int) ≤ n ∧ n ≤ 18446744073709551615 := h2
    exact ⟨n.toNat, by rw [Int.toNat_of_nonneg h3.1], by omega⟩
theorem reads_cm (B : Option Nat) (N : Nat) : Reads Try.prog B N 76 Cm.cells (fun _ c => c.ok) :=
  Reads.mono ((reads_struct (N := N) Try.underlying76 (by kernel_rfl)
    (readsF_cons (sz := 1) rfl (by kernel_rfl) (reads_u8 Try.underlying5) (readsF_cons (sz := 1) rfl (by kernel_rfl) (reads_u8 Try.underlying5) (readsF_cons (sz := 1) rfl (by kernel_rfl) (reads_u32 Try.underlying74) (readsF_cons (sz := 1) rfl (by kernel_rfl) (reads_u64 Try.underlying29) (readsF_cons (sz := 16) rfl (by kernel_rfl) (reads_arrH Try.underlying25 Try.underlying5 (by kernel_rfl) (by kernel_rfl)) readsF_nil)))))).imp
    fun W ⟨k, f, d, n, m, _⟩ ⟨_, _, h3, h4, h5, _⟩ => ⟨⟨k, f, d, n, m⟩, by simp [Cm.cells, u8], h3, h4, h5⟩) (by omega)
theorem reads_keys (B : Option Nat) (N : Nat) : Reads Try.prog B N 67 (fun x : List UInt8 × List UInt8 × List UInt8 × List UInt8 => u8s x.1 ++ (u8s x.2.1 ++ (u8s x.2.2.1 ++ u8s x.2.2.2))) (fun _ x => x.1.length = 32 ∧ x.2.1.length = 32 ∧ x.2.2.1.length = 32 ∧ x.2.2.2.length = 32) :=
  Reads.mono ((reads_struct (N := N) Try.underlying67 (by kernel_rfl)
    (readsF_cons (sz := 32) rfl (by kernel_rfl) (reads_arrH Try.underlying24 Try.underlying5 (by kernel_rfl) (by kernel_rfl)) (readsF_cons (sz := 32) rfl (by kernel_rfl) (reads_arrH Try.underlying24 Try.underlying5 (by kernel_rfl) (by kernel_rfl)) (readsF_cons (sz := 32) rfl (by kernel_rfl) (reads_arrH Try.underlying24 Try.underlying5 (by kernel_rfl) (by kernel_rfl)) (readsF_cons (sz := 32) rfl (by kernel_rfl) (reads_arrH Try.underlying24 Try.underlying5 (by kernel_rfl) (by kernel_rfl)) readsF_nil))))).imp
    fun W ⟨a, b, c, d, _⟩ ⟨h1, h2, h3, h4, _⟩ => ⟨(a, b, c, d), by simp, h1, h2, h3, h4⟩) (by omega)
theorem reads_sp (B : Option Nat) (N : Nat) : Reads Try.prog B N 72 Sp.cells (fun _ s => s.ok) :=
  Reads.mono ((reads_struct (N := N) Try.underlying72 (by kernel_rfl)
    (readsF_cons (sz := 128) rfl (by kernel_rfl) (reads_keys B N) (readsF_cons (sz := 32) rfl (by kernel_rfl) (reads_arrH Try.underlying24 Try.underlying5 (by kernel_rfl) (by kernel_rfl)) (readsF_cons (sz := 32) rfl (by kernel_rfl) (reads_arrH Try.underlying24 Try.underlying5 (by kernel_rfl) (by kernel_rfl)) readsF_nil)))).imp
    fun W ⟨⟨a, b, c, d⟩, e, f, _⟩ ⟨⟨h1, h2, h3, h4⟩, h5, h6, _⟩ => ⟨⟨a, b, c, d, e, f⟩, by simp [Sp.cells, Sp.bytes, u8s_append], h1, h2, h3, h4, h5, h6⟩) (by omega)
theorem reads_cms (B : Option Nat) (N : Nat) : Reads Try.prog B N 60 (fun s : Sl Cm => [s.val]) (SlIn B 20 32 Cm.cells (fun _ c => c.ok)) :=
  Reads.mono (reads_slice (N := N) 20 32 Try.underlying60 (by kernel_rfl) (by kernel_rfl) (by omega) (reads_cm B N)) (by omega)
theorem reads_sps (B : Option Nat) (N : Nat) : Reads Try.prog B N 61 (fun s : Sl Sp => [s.val]) (SlIn B 192 192 Sp.cells (fun _ s => s.ok)) :=
  Reads.mono (reads_slice (N := N) 192 192 Try.underlying61 (by kernel_rfl) (by kernel_rfl) (by omega) (reads_sp B N)) (by omega)
theorem reads_i64 (B : Option Nat) (N : Nat) : Reads Try.prog B N 3 (fun n : Int => [.int .i64 n]) (fun _ n => (Lit.int .i64 n).wf = true) := reads_int Try.underlying3
end Go.Proofs.Ytgkhglnfbhdkeaa
