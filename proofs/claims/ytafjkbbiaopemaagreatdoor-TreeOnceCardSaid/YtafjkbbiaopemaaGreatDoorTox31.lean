/- Part of the proof: Ul. -/
import Derived.Test.YtafjkbbiaopemaaGreatDoorTox29
set_option linter.unusedVariables false
namespace Go.Proofs.YtafjkbbiaopemaaGreatDoor.Tr
open Go.RowKit
structure TpS (gp gs G : Nat) (A : Option Addr) (n c : Nat) (ts : List Lx.Tok) (w0 : World) (vD : Value) (l : List St) (sl : List StA) (v : Value) (q : PS) (w : World) : Prop where
  st : PSt gp gs A n c ts q w
  wr : Wr [gp, gs, G] w0 w
  e : Blk w G 26 [vD, v]
  own : w.ownsRow w0.heap.size 42 26 v l.length (zipC stC l sl)
  nl : sl.length = l.length
  ar : ∀ (i : Nat) (s : St) (p : StA), l[i]? = some s → sl[i]? = some p → StIn (Fv w0.heap.size v) w s p
  lo : PLo gp gs A G
  lt : G < w0.heap.size
section
variable {gp gs G : Nat} {A : Option Addr} {n c : Nat} {ts : List Lx.Tok} {s q q' : PS} {w w' w0 : World} {vD : Value} {l : List St} {sl : List StA} {v v' : Value} {X : St} {y : StA}
theorem TpS.nin (h : TpS gp gs G A n c ts w0 vD l sl v q w) : ∀ x ∈ [gp, gs, G], x < w0.heap.size := by
  intro x hx
  have h1 := h.lo.1
  have h2 := h.lo.2.1
  have h3 := h.lt
  simp only [List.mem_cons, List.not_mem_nil, or_false] at hx
  omega
theorem TpS.call (h : TpS gp gs G A n c ts w0 vD l sl v q w) (hs : PSt gp gs A n c ts q' w') (hW : Wr [gp, gs] w w') : TpS gp gs G A n c ts w0 vD l sl v q' w' := by
  have hW3 : Wr [gp, gs, G] w w' := hW.mono (fun g hg => by simp only [List.mem_cons, List.not_mem_nil, or_false] at hg ⊢; omega)
  exact ⟨hs, h.wr.trans hW3, Blk.wr h.e hW h.lo (Nat.le_refl _), own_same h.own (fun k hk hlt _ => hW3.block k hlt (fun hm => by have := h.nin k hm; omega)), h.nl,
    fun i s p h1 h2 => (h.ar i s p h1 h2).keep (hW3.keep _ _ (fun k hk _ hm => by have h5 := h.nin k hm; have h6 := hk.1; omega) (fun _ h _ => h)), h.lo, h.lt⟩
theorem TpS.fr (h : TpS gp gs G A n c ts w0 vD l sl v q w) {B : Nat} (hB : w.heap.size ≤ B) {W : World} {T : St} {p : StA} (ha : StIn (Fr B) W T p) : StIn (Fv w0.heap.size v) W T p :=
  ha.keep ⟨Nat.le_refl _, fun _ _ _ => rfl, fun k hk _ => ⟨by have := h.wr.size; unfold Fr at hk; omega, fun e => by have := (h.own.lt k e).2; unfold Fr at hk; omega⟩⟩
theorem TpS.push (h : TpS gp gs G A n c ts w0 vD l sl v q w) (hy : StIn (Fv w0.heap.size v) w X y) {w5 : World} (hg : (w.alloc (.cells (stC X y).toArray 42)).grownBy w5 v.ownBlock)
    (ho : w5.ownsRow w0.heap.size 42 26 v' (l.length + 1) (zipC stC l sl ++ stC X y)) (hat : v'.ownBlock = v.ownBlock ∨ v'.ownBlock = some (w.alloc (.cells (stC X y).toArray 42)).heap.size) :
    TpS gp gs G A n c ts w0 vD (l ++ [X]) (sl ++ [y]) v' q (w5.setCell ⟨G, 1, none⟩ v') := by
  have hlt := h.lt
  have hobl : ∀ k, v.ownBlock = some k → w0.heap.size ≤ k ∧ k < w.heap.size := fun k hk => h.own.lt k hk
  have hsz : (w.alloc (.cells (stC X y).toArray 42)).heap.size = w.heap.size + 1 := by simp
  have hB5 : Below w0.heap.size w w5 := ((Below.refl _ w).alloc h.wr.size _).grown hg (Nat.le_trans h.wr.size (by simp)) (fun k hk => (h.own.lt k hk).1)
  have hW5 : Wr [gp, gs, G] w0 w5 := h.wr.thenb hB5
  have hob' : ∀ k, v'.ownBlock = some k → w0.heap.size ≤ k := by
    intro k hk
    rcases hat with h1 | h1
    · exact (hobl k (h1 ▸ hk)).1
    · rw [h1] at hk
      injection hk with hk
      have := h.wr.size
      omega
  have hK : Keep (Fv w0.heap.size v) (Fv w0.heap.size v') w (w5.setCell ⟨G, 1, none⟩ v') := by
    refine ⟨Nat.le_trans hB5.size (by simp [World.setCell]), fun k hk hkl => ?_, fun k hk hkl => ⟨hk.1, fun e => ?_⟩⟩
    · rw [Below.heap_setCell w5 ⟨G, 1, none⟩ v' k (by have := hk.1; show k ≠ G; omega), hg.block k (by omega) hk.2.symm]
      exact Below.heap_alloc w _ k hkl
    · rcases hat with h1 | h1
      · exact hk.2 (h1 ▸ e)
      · rw [h1] at e
        injection e with e
        omega
  refine ⟨(h.st.belowB (h.lo.mono (Nat.le_of_lt hlt)) hB5).setNew h.lo (p := ⟨G, 1, none⟩) (Nat.le_refl _) _, hW5.setCell (by simp) _, ?_, ?_, by simp [h.nl], ?_, h.lo, h.lt⟩
  · exact ((h.e.alloc _).grown hg (fun e => by have := (hobl G e.symm).1; omega)).set_ 1 v'
  · rw [List.length_append, zipC_snoc stC l sl X y h.nl]
    exact own_same ho (fun k hk hkl e => Below.heap_setCell w5 ⟨G, 1, none⟩ v' k (by have := hob' k e; show k ≠ G; omega))
  · intro i s p h1 h2
    rcases Nat.lt_or_ge i l.length with hi | hi
    · rw [List.getElem?_append_left hi] at h1
      rw [List.getElem?_append_left (by rw [h.nl]; exact hi)] at h2
      exact (h.ar i s p h1 h2).keep hK
    · have hi0 : i = l.length := by
        have := (List.getElem?_eq_some_iff.1 h1).1
        simp at this
        omega
      subst hi0
      simp at h1
      rw [← h.nl] at h2
      simp at h2
      subst h1 h2
      exact hy.keep hK
theorem TpS.fin (h : TpS gp gs G A n c ts w0 vD l sl v q w) : ∃ A' c', v = .slice A' l.length c' ∧ BodyIn (Fr w0.heap.size) w A' l := by
  obtain ⟨A', c', rfl, hc⟩ := own_form h.own
  have hK : Keep (Fv w0.heap.size (.slice A' l.length c')) (Fr w0.heap.size) w w := ⟨Nat.le_refl _, fun _ _ _ => rfl, fun k hk _ => hk.1⟩
  refine ⟨A', c', rfl, .mk A' l sl h.nl ⟨RdS.ofOwn3 h.own, fun hn ad e => ?_⟩ (fun i s p h1 h2 => ((h.ar i s p h1 h2).keep hK).1) (fun i s p h1 h2 => ((h.ar i s p h1 h2).keep hK).2.1) (fun i s p h1 h2 => ((h.ar i s p h1 h2).keep hK).2.2)⟩
  subst e
  have h5 := h.own
  rcases h5.2 with ⟨h6, h0⟩ | ⟨g, cap, cur, hv, hb, _⟩
  · omega
  · injection hv with hA
    injection hA with hA
    subst hA
    exact ⟨hb, own_fro h5 rfl⟩
theorem Stm.tok {g : Nat} {i : Nat} (h : Stm g A n c i ts w) (hn : ts.length = n) (h0 : 0 < n) : ∀ ad : Addr, A = some ad → ad.block ≠ g := by
  intro ad hA e
  obtain ⟨b, off, e2, hb, hc⟩ := h.2.2 h0
  rw [hA] at e2
  injection e2 with e2
  subst e2
  simp only at e
  subst e
  have hl := h.2.1
  have h2 := hc 2 _ (List.getElem?_eq_getElem (by rw [hl]; omega))
  rw [h.1.cell] at h2
  rw [List.getElem?_eq_none (by simp)] at h2
  cases h2
theorem QS0 : QS 14 s0 := ⟨⟨by decide, by decide, by decide, fun _ => ⟨by decide, by decide⟩⟩, by decide, by decide, by decide, fun _ => ⟨by decide, by decide⟩⟩
end
end Go.Proofs.YtafjkbbiaopemaaGreatDoor.Tr
