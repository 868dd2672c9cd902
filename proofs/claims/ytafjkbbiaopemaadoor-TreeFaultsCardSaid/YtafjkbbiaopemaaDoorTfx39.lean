/- Part of the proof: Vb. -/
import Derived.Test.YtafjkbbiaopemaaDoorTfx37
set_option linter.unusedVariables false
namespace Go.Proofs.YtafjkbbiaopemaaDoor.Tr
open Go.RowKit
theorem hdDc : (Tryd.prog.info? 52).map (·.size) = some 9 := by kernel_rfl
theorem ldq_Dc (v : Value) : Instr.loadAt 52 v = ldAt 52 v := rfl
theorem ePl : ElemIs Tryd.prog 59 12 168 := ElemIs.of (z := .agg (plC zPl pl0).toArray) (by kernel_rfl) rfl (by omega)
theorem onePl (X : Pl) (y : plA) : (Tryd.prog.info? 59).map (fun i => ((i.zero.map (fun z => z.cells.size)), i.size)) = some (some (plC X y).length, (plC X y).length) := by kernel_rfl
theorem szSpl (w : World) : (sizeOf 50).run Tryd.prog w = .ok 1 w := by kernel_rfl
theorem agSpl (w : World) : (isAgg 50).run Tryd.prog w = .ok false w := by kernel_rfl
theorem plC_len (T : Pl) (p : plA) : (plC T p).length = 12 := rfl
def zDc : Dc := ⟨zs, zR, zE, []⟩
theorem dcC_one (T : Dc) (p : plA) : ∀ v ∈ dcC T p, v.oneCell' = true := by
  intro v hv
  simp only [dcC, exC, List.mem_cons, List.mem_append, List.not_mem_nil, or_false] at hv
  rcases hv with (rfl | rfl | rfl) | (rfl | rfl | rfl | rfl | rfl) | rfl <;> rfl
theorem bld_Dc (K : ByteArray) (w : World) : (Instr.build 52 #[(0, .string K)]).run Tryd.prog w = .ok (.agg (dcC ⟨K, zR, zE, []⟩ pl0).toArray) w := by kernel_rfl
@[reducible] def dlC (K : ByteArray) (N : Rf) (v : Value) : List Value := [.string K, .string N.name, .int .i64 N.at_, .string zs, .int .i64 0, .string zs, .int .i64 0, .slice none 0 0, v]
structure DlS (gp gs : Nat) (A : Option Addr) (n c : Nat) (ts : List Lx.Tok) (w0 : World) (g : Nat) (K : ByteArray) (N : Rf) (l : List Pl) (sl : List plA) (v : Value) (q : PS) (w : World) : Prop where
  st : PSt gp gs A n c ts q w
  wr : Wr [gp, gs] w0 w
  z : Blk w w0.heap.size 52 (dcC zDc pl0)
  e : Blk w g 52 (dlC K N v)
  own : w.ownsRow (w0.heap.size + 1) 59 12 v l.length (zipC plC l sl)
  nl : sl.length = l.length
  ob : ∀ k, v.ownBlock = some k → k ≠ g
  ar : ∀ (i : Nat) (e : Pl) (a : plA), l[i]? = some e → sl[i]? = some a → PlIn (Fj w0.heap.size g v) w e a
  lt : w0.heap.size < g
  lo : PLo gp gs A w0.heap.size
section
variable {gp gs : Nat} {A : Option Addr} {n c : Nat} {ts : List Lx.Tok} {s q q' : PS} {w w' w0 : World} {g : Nat} {K : ByteArray} {N : Rf} {l : List Pl} {sl : List plA} {v v' : Value} {X : Pl} {y : plA}
theorem DlS.call (h : DlS gp gs A n c ts w0 g K N l sl v q w) (hs : PSt gp gs A n c ts q' w') (hW : Wr [gp, gs] w w') : DlS gp gs A n c ts w0 g K N l sl v q' w' :=
  ⟨hs, h.wr.trans hW, Blk.wr h.z hW h.lo (Nat.le_refl _), Blk.wr h.e hW (h.lo.mono (Nat.le_of_lt h.lt)) (Nat.le_refl _),
    own_same h.own (fun k hk hlt _ => hW.block k hlt (fun hm => by have := h.lo.all k hm; omega)), h.nl, h.ob, fun i e a h1 h2 => (h.ar i e a h1 h2).keep (keep_fj_wr hW h.lo.all), h.lt, h.lo⟩
theorem DlS.fr (h : DlS gp gs A n c ts w0 g K N l sl v q w) {B : Nat} (hB : w.heap.size ≤ B) {W : World} (ha : PlIn (Fr B) W X y) : PlIn (Fj w0.heap.size g v) W X y :=
  ha.keep ⟨Nat.le_refl _, fun _ _ _ => rfl, fun k hk _ => by
    have h1 := h.e.lt
    have h2 := h.lt
    unfold Fr at hk
    refine ⟨by omega, by omega, fun e => ?_⟩
    have h3 := (h.own.lt k e).2
    omega⟩
theorem DlS.push (h : DlS gp gs A n c ts w0 g K N l sl v q w) (hy : PlIn (Fj w0.heap.size g v) w X y) {w5 : World} (hg : (w.alloc (.cells (plC X y).toArray 59)).grownBy w5 v.ownBlock)
    (ho : w5.ownsRow (w0.heap.size + 1) 59 12 v' (l.length + 1) (zipC plC l sl ++ plC X y)) (hat : v'.ownBlock = v.ownBlock ∨ v'.ownBlock = some (w.alloc (.cells (plC X y).toArray 59)).heap.size) :
    DlS gp gs A n c ts w0 g K N (l ++ [X]) (sl ++ [y]) v' q (w5.setCell ⟨g, 8, none⟩ v') := by
  have hlt := h.lt
  have hgl := h.e.lt
  have hobg : ∀ k, v.ownBlock = some k → w0.heap.size + 1 ≤ k := fun k hk => (h.own.lt k hk).1
  have hobl : ∀ k, v.ownBlock = some k → k < w.heap.size := fun k hk => (h.own.lt k hk).2
  have hsz : (w.alloc (.cells (plC X y).toArray 59)).heap.size = w.heap.size + 1 := by simp
  have hsz5 : (w.alloc (.cells (plC X y).toArray 59)).heap.size ≤ w5.heap.size := hg.size
  have hB5 : Below (w0.heap.size + 1) w w5 := ((Below.refl _ w).alloc (by omega) _).grown hg (by omega) hobg
  have hB6 : Below (w0.heap.size + 1) w (w5.setCell ⟨g, 8, none⟩ v') := hB5.setCell (by exact hlt) v'
  have hob' : ∀ k, v'.ownBlock = some k → k ≠ g := by
    intro k hk
    rcases hat with h1 | h1
    · exact h.ob k (h1 ▸ hk)
    · rw [h1] at hk
      injection hk with hk
      omega
  have hK : Keep (Fj w0.heap.size g v) (Fj w0.heap.size g v') w (w5.setCell ⟨g, 8, none⟩ v') := by
    refine ⟨hB6.size, fun k hk hkl => ?_, fun k hk hkl => ⟨hk.1, hk.2.1, fun e => ?_⟩⟩
    · rw [Below.heap_setCell w5 ⟨g, 8, none⟩ v' k hk.2.1, hg.block k (by omega) hk.2.2.symm]
      exact Below.heap_alloc w _ k hkl
    · rcases hat with h1 | h1
      · exact hk.2.2 (h1 ▸ e)
      · rw [h1] at e
        injection e with e
        omega
  refine ⟨h.st.belowB (h.lo.mono (Nat.le_succ _)) hB6, h.wr.thenb (hB6.mono (Nat.le_succ _)), h.z.below hB6 (Nat.lt_succ_self _), ?_, ?_, by simp [h.nl], hob', ?_, h.lt, h.lo⟩
  · exact (((h.e.alloc _).grown hg (fun e => h.ob g e.symm rfl)).set_ 8 v')
  · rw [List.length_append, zipC_snoc plC l sl X y h.nl]
    exact own_same ho (fun k hk hkl e => Below.heap_setCell w5 ⟨g, 8, none⟩ v' k (hob' k e))
  · intro i e a h1 h2
    by_cases hi : i < l.length
    · rw [List.getElem?_append_left hi] at h1
      rw [List.getElem?_append_left (by rw [h.nl]; exact hi)] at h2
      exact (h.ar i e a h1 h2).keep hK
    · have hi2 : i = l.length := by
        have := (List.getElem?_eq_some_iff.1 h1).1
        simp at this
        omega
      subst hi2
      rw [List.getElem?_append_right (Nat.le_refl _), Nat.sub_self] at h1
      rw [← h.nl, List.getElem?_append_right (Nat.le_refl _), Nat.sub_self] at h2
      simp at h1 h2
      subst h1 h2
      exact hy.keep hK
theorem DlS.fin {A1 : Option Addr} {c1 : Nat} (h : DlS gp gs A n c ts w0 g K N l sl (.slice A1 l.length c1) q w) (ho : Only w w' w0.heap.size) : DcIn (Fr w0.heap.size) w' ⟨K, N, zE, l⟩ ((none, 0), (A1, c1)) ∧ PSt gp gs A n c ts q w' ∧ Wr [gp, gs] w0 w' := by
  have hK : Keep (Fj w0.heap.size g (.slice A1 l.length c1)) (Fr w0.heap.size) w w' := (Wr.onlyg (L := [w0.heap.size]) ho (by simp)).keep _ _ (fun k hk _ hm => by simp only [List.mem_cons, List.not_mem_nil, or_false] at hm; have := hk.1; omega) (fun k hk _ => Nat.le_of_lt hk.1)
  have hr : RdF (fun k => w0.heap.size < k) 12 w A1 l.length (zipC plC l sl) := ⟨RdS.ofOwn3 h.own, fun hn ad e => by
    obtain ⟨b, off, e2, hb, _⟩ := (RdS.ofOwn3 h.own).2 hn
    subst e
    injection e2 with e2
    subst e2
    exact (h.own.lt b rfl).1⟩
  refine ⟨⟨ArgsIn.nil _ _ _, sl, h.nl, hr.keep ((Wr.onlyg (L := [w0.heap.size]) ho (by simp)).keep (fun k => w0.heap.size < k) (Fr w0.heap.size) (fun k hk _ hm => by simp only [List.mem_cons, List.not_mem_nil, or_false] at hm; omega) (fun k hk _ => Nat.le_of_lt hk)), fun i s p h1 h2 => (h.ar i s p h1 h2).keep hK⟩, h.st.only h.lo (Nat.le_refl _) ho, Wr.newL h.wr (Wr.onlyg (L := [w0.heap.size]) ho (by simp)) (fun g hg => .inr (by simp at hg; omega))⟩
end
end Go.Proofs.YtafjkbbiaopemaaDoor.Tr
