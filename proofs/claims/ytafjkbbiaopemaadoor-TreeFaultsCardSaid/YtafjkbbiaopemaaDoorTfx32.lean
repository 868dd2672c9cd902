/- Part of the proof: Uf. -/
import Derived.Test.YtafjkbbiaopemaaDoorTfx31
set_option linter.unusedVariables false
namespace Go.Proofs.YtafjkbbiaopemaaDoor.Tr
open Go.RowKit
theorem stC_one (T : St) (p : StA) : ∀ v ∈ stC T p, v.oneCell' = true := by
  intro v hv
  simp only [stC, exC, List.mem_cons, List.mem_append, List.not_mem_nil, or_false] at hv
  rcases hv with (rfl | rfl | rfl | rfl) | (rfl | rfl | rfl | rfl | rfl) | (rfl | rfl | rfl | rfl | rfl) | (rfl | rfl | rfl | rfl | rfl) | rfl | rfl | rfl | rfl | rfl | rfl | rfl <;> rfl
theorem eSt : ElemIs Tryd.prog 41 26 384 := ElemIs.of (z := .agg (stC zT ⟨(none, 0), (none, 0), (none, 0), (none, 0), (none, 0), (none, 0)⟩).toArray) (by kernel_rfl) rfl (by omega)
def Fv (B : Nat) (v : Value) (k : Nat) : Prop := B ≤ k ∧ v.ownBlock ≠ some k
structure BdS (gp gs : Nat) (A : Option Addr) (n c : Nat) (ts : List Lx.Tok) (w0 : World) (l : List St) (sl : List StA) (v : Value) (q : PS) (w : World) : Prop where
  st : PSt gp gs A n c ts q w
  wr : Wr [gp, gs] w0 w
  own : w.ownsRow w0.heap.size 41 26 v l.length (zipC stC l sl)
  nl : sl.length = l.length
  ar : ∀ (i : Nat) (s : St) (p : StA), l[i]? = some s → sl[i]? = some p → StIn (Fv w0.heap.size v) w s p
  lo : PLo gp gs A w0.heap.size
section
variable {gp gs : Nat} {A : Option Addr} {n c : Nat} {ts : List Lx.Tok} {s q q' : PS} {w w' w0 : World} {l : List St} {sl : List StA} {v v' : Value} {X : St} {y : StA}
theorem PLo.nin {B : Nat} (h : PLo gp gs A B) : ∀ x ∈ [gp, gs], x < B := by
  intro x hx
  have h1 := h.1
  have h2 := h.2.1
  simp only [List.mem_cons, List.not_mem_nil, or_false] at hx
  omega
theorem BdS.call (h : BdS gp gs A n c ts w0 l sl v q w) (hs : PSt gp gs A n c ts q' w') (hW : Wr [gp, gs] w w') : BdS gp gs A n c ts w0 l sl v q' w' :=
  ⟨hs, h.wr.trans hW, own_same h.own (fun k hk hlt _ => hW.block k hlt (fun hm => by have := h.lo.nin k hm; omega)), h.nl,
    fun i s p h1 h2 => (h.ar i s p h1 h2).keep (hW.keep _ _ (fun k hk _ hm => by have h5 := h.lo.nin k hm; have h6 := hk.1; omega) (fun _ h _ => h)), h.lo⟩
theorem BdS.fr (h : BdS gp gs A n c ts w0 l sl v q w) {B : Nat} (hB : w.heap.size ≤ B) {W : World} {T : St} {p : StA} (ha : StIn (Fr B) W T p) : StIn (Fv w0.heap.size v) W T p :=
  ha.keep ⟨Nat.le_refl _, fun _ _ _ => rfl, fun k hk _ => ⟨by have := h.wr.size; unfold Fr at hk; omega, fun e => by have := (h.own.lt k e).2; unfold Fr at hk; omega⟩⟩
theorem BdS.push (h : BdS gp gs A n c ts w0 l sl v q w) (hy : StIn (Fv w0.heap.size v) w X y) {w5 : World} (hg : (w.alloc (.cells (stC X y).toArray 41)).grownBy w5 v.ownBlock)
    (ho : w5.ownsRow w0.heap.size 41 26 v' (l.length + 1) (zipC stC l sl ++ stC X y)) (hat : v'.ownBlock = v.ownBlock ∨ v'.ownBlock = some (w.alloc (.cells (stC X y).toArray 41)).heap.size) :
    BdS gp gs A n c ts w0 (l ++ [X]) (sl ++ [y]) v' q w5 := by
  have hB5 : Below w0.heap.size w w5 := ((Below.refl _ w).alloc h.wr.size _).grown hg (Nat.le_trans h.wr.size (by simp)) (fun k hk => (h.own.lt k hk).1)
  have hK : Keep (Fv w0.heap.size v) (Fv w0.heap.size v') w w5 := by
    refine ⟨hB5.size, fun k hk hkl => ?_, fun k hk hkl => ⟨hk.1, fun e => ?_⟩⟩
    · rw [hg.block k (by simp; omega) hk.2.symm]
      exact Below.heap_alloc w _ k hkl
    · rcases hat with h1 | h1
      · exact hk.2 (h1 ▸ e)
      · rw [h1] at e
        injection e with e
        simp at e
        omega
  refine ⟨h.st.belowB h.lo hB5, h.wr.thenb hB5, ?_, by simp [h.nl], fun i s p h1 h2 => ?_, h.lo⟩
  · rw [List.length_append, zipC_snoc stC l sl X y h.nl]
    exact ho
  · rcases Nat.lt_or_ge i l.length with hi | hi
    · rw [List.getElem?_append_left hi] at h1
      rw [List.getElem?_append_left (by rw [h.nl]; exact hi)] at h2
      exact (h.ar i s p h1 h2).keep hK
    · have hi0 : i = l.length := by
        have := (List.getElem?_eq_some_iff.1 h1).1
        simp at this
        omega
      subst hi0
      simp at h1
      rw [← h.nl] at h2
      simp at h2
      subst h1 h2
      exact hy.keep hK
theorem BdS.fin (h : BdS gp gs A n c ts w0 l sl v q w) : ∃ A' c', v = .slice A' l.length c' ∧ BodyIn (Fr w0.heap.size) w A' l := by
  obtain ⟨A', c', rfl, hc⟩ := own_form h.own
  have hK : Keep (Fv w0.heap.size (.slice A' l.length c')) (Fr w0.heap.size) w w := ⟨Nat.le_refl _, fun _ _ _ => rfl, fun k hk _ => hk.1⟩
  refine ⟨A', c', rfl, .mk A' l sl h.nl ⟨RdS.ofOwn3 h.own, fun hn ad e => ?_⟩ (fun i s p h1 h2 => ((h.ar i s p h1 h2).keep hK).1) (fun i s p h1 h2 => ((h.ar i s p h1 h2).keep hK).2.1) (fun i s p h1 h2 => ((h.ar i s p h1 h2).keep hK).2.2)⟩
  subst e
  have h5 := h.own
  rcases h5.2 with ⟨h6, h0⟩ | ⟨g, cap, cur, hv, hb, _⟩
  · omega
  · injection hv with hA
    injection hA with hA
    subst hA
    exact hb
end
end Go.Proofs.YtafjkbbiaopemaaDoor.Tr
