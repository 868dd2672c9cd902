/- Part of the proof: Tx, Ty. -/
import Derived.Test.YtafjkbbiaopemaaGreatDoorTox20
set_option linter.unusedVariables false
namespace Go.Proofs.YtafjkbbiaopemaaGreatDoor.Tr
open Go.RowKit
def Fj (B g : Nat) (v : Value) (k : Nat) : Prop := B < k ∧ k ≠ g ∧ v.ownBlock ≠ some k
structure JnS (gp gs : Nat) (A : Option Addr) (n c : Nat) (ts : List Lx.Tok) (w0 : World) (g : Nat) (p : Int) (l : List Ex) (sl : List (Option Addr × Nat)) (v : Value) (q : PS) (w : World) : Prop where
  st : PSt gp gs A n c ts q w
  wr : Wr [gp, gs] w0 w
  z : Blk w w0.heap.size 39 zEc
  e : Blk w g 39 [.string k_join, .int .i64 0, .string zs, .int .i64 p, v]
  own : w.ownsRow (w0.heap.size + 1) 39 5 v l.length (zipC exC l sl)
  nl : sl.length = l.length
  ob : ∀ k, v.ownBlock = some k → k ≠ g
  ar : ∀ (i : Nat) (e : Ex) (a : Option Addr × Nat), l[i]? = some e → sl[i]? = some a → ArgsIn (Fj w0.heap.size g v) w a.1 e.args
  lt : w0.heap.size < g
  lo : PLo gp gs A w0.heap.size
section
variable {gp gs : Nat} {A : Option Addr} {n c : Nat} {ts : List Lx.Tok} {s q q' : PS} {w w' w0 : World} {g : Nat} {p : Int} {l : List Ex} {sl : List (Option Addr × Nat)} {v v' : Value} {X : Ex} {y : Option Addr × Nat}
theorem RdS.belowB {sz B : Nat} {xs : List Value} (h : RdS sz w A n xs) (hb : Below B w w') (hA : ∀ ad : Addr, A = some ad → ad.block < B) : RdS sz w' A n xs :=
  ⟨h.1, fun hn => by
    obtain ⟨b, off, rfl, hbl, hc⟩ := h.2 hn
    exact ⟨b, off, rfl, Nat.lt_of_lt_of_le hbl hb.size, fun j u hu => (World.cell?_of_block (a := ⟨b, off + j, none⟩) (hb.block b (hA _ rfl))).trans (hc j u hu)⟩⟩
theorem PSt.belowB {B : Nat} (h : PSt gp gs A n c ts s w) (hl : PLo gp gs A B) (hb : Below B w w') : PSt gp gs A n c ts s w' :=
  ⟨h.par.below hb hl.1, ⟨h.stm.1.below hb hl.2.1, RdS.belowB h.stm.2 hb hl.2.2⟩, h.z, h.lt⟩
theorem keep_fj_wr {B : Nat} {L : List Nat} (hw : Wr L w w') (hL : ∀ x ∈ L, x ≤ B) : Keep (Fj B g v) (Fj B g v) w w' := hw.keep _ _ (fun k hk _ hm => by have h1 := hL k hm; have h2 := hk.1; omega) (fun _ h _ => h)
theorem JnS.call (h : JnS gp gs A n c ts w0 g p l sl v q w) (hs : PSt gp gs A n c ts q' w') (hW : Wr [gp, gs] w w') : JnS gp gs A n c ts w0 g p l sl v q' w' :=
  ⟨hs, h.wr.trans hW, Blk.wr h.z hW h.lo (Nat.le_refl _), Blk.wr h.e hW (h.lo.mono (Nat.le_of_lt h.lt)) (Nat.le_refl _),
    own_same h.own (fun k hk hlt _ => hW.block k hlt (fun hm => by have := h.lo.all k hm; omega)), h.nl, h.ob, fun i e a h1 h2 => (h.ar i e a h1 h2).keep (keep_fj_wr hW h.lo.all), h.lt, h.lo⟩
theorem JnS.fr (h : JnS gp gs A n c ts w0 g p l sl v q w) {B : Nat} (hB : w.heap.size ≤ B) {W : World} {B2 : Option Addr} {es : List Ex} (ha : ArgsIn (Fr B) W B2 es) : ArgsIn (Fj w0.heap.size g v) W B2 es :=
  ha.keep ⟨Nat.le_refl _, fun _ _ _ => rfl, fun k hk _ => by
    have h1 := h.e.lt
    have h2 := h.lt
    unfold Fr at hk
    refine ⟨by omega, by omega, fun e => ?_⟩
    have h3 := (h.own.lt k e).2
    omega⟩
theorem JnS.push (h : JnS gp gs A n c ts w0 g p l sl v q w) (hy : ArgsIn (Fj w0.heap.size g v) w y.1 X.args) {w5 : World} (hg : (w.alloc (.cells (exC X y).toArray 39)).grownBy w5 v.ownBlock)
    (ho : w5.ownsRow (w0.heap.size + 1) 39 5 v' (l.length + 1) (zipC exC l sl ++ exC X y)) (hat : v'.ownBlock = v.ownBlock ∨ v'.ownBlock = some (w.alloc (.cells (exC X y).toArray 39)).heap.size) :
    JnS gp gs A n c ts w0 g p (l ++ [X]) (sl ++ [y]) v' q (w5.setCell ⟨g, 4, none⟩ v') := by
  have hlt := h.lt
  have hgl := h.e.lt
  have hobg : ∀ k, v.ownBlock = some k → w0.heap.size + 1 ≤ k := fun k hk => (h.own.lt k hk).1
  have hobl : ∀ k, v.ownBlock = some k → k < w.heap.size := fun k hk => (h.own.lt k hk).2
  have hsz : (w.alloc (.cells (exC X y).toArray 39)).heap.size = w.heap.size + 1 := by simp
  have hsz5 : (w.alloc (.cells (exC X y).toArray 39)).heap.size ≤ w5.heap.size := hg.size
  have hB5 : Below (w0.heap.size + 1) w w5 := ((Below.refl _ w).alloc (by omega) _).grown hg (by omega) hobg
  have hB6 : Below (w0.heap.size + 1) w (w5.setCell ⟨g, 4, none⟩ v') := hB5.setCell (by exact hlt) v'
  have hob' : ∀ k, v'.ownBlock = some k → k ≠ g := by
    intro k hk
    rcases hat with h1 | h1
    · exact h.ob k (h1 ▸ hk)
    · rw [h1] at hk
      injection hk with hk
      omega
  have hK : Keep (Fj w0.heap.size g v) (Fj w0.heap.size g v') w (w5.setCell ⟨g, 4, none⟩ v') := by
    refine ⟨hB6.size, fun k hk hkl => ?_, fun k hk hkl => ⟨hk.1, hk.2.1, fun e => ?_⟩⟩
    · rw [Below.heap_setCell w5 ⟨g, 4, none⟩ v' k hk.2.1, hg.block k (by omega) hk.2.2.symm]
      exact Below.heap_alloc w _ k hkl
    · rcases hat with h1 | h1
      · exact hk.2.2 (h1 ▸ e)
      · rw [h1] at e
        injection e with e
        omega
  refine ⟨h.st.belowB (h.lo.mono (Nat.le_succ _)) hB6, h.wr.thenb (hB6.mono (Nat.le_succ _)), h.z.below hB6 (Nat.lt_succ_self _), ?_, ?_, by simp [h.nl], hob', ?_, h.lt, h.lo⟩
  · exact (((h.e.alloc _).grown hg (fun e => h.ob g e.symm rfl)).set_ 4 v')
  · rw [List.length_append, zipC_snoc exC l sl X y h.nl]
    exact own_same ho (fun k hk hkl e => Below.heap_setCell w5 ⟨g, 4, none⟩ v' k (hob' k e))
  · intro i e a h1 h2
    by_cases hi : i < l.length
    · rw [List.getElem?_append_left hi] at h1
      rw [List.getElem?_append_left (by rw [h.nl]; exact hi)] at h2
      exact (h.ar i e a h1 h2).keep hK
    · have hi2 : i = l.length := by
        have := (List.getElem?_eq_some_iff.1 h1).1
        simp at this
        omega
      subst hi2
      rw [List.getElem?_append_right (Nat.le_refl _), Nat.sub_self] at h1
      rw [← h.nl, List.getElem?_append_right (Nat.le_refl _), Nat.sub_self] at h2
      simp at h1 h2
      subst h1
      subst h2
      exact hy.keep hK
end
end Go.Proofs.YtafjkbbiaopemaaGreatDoor.Tr
namespace Go.Proofs.YtafjkbbiaopemaaGreatDoor.Tr
open Go.RowKit
section
theorem own_fro {w : World} {base n sz : Nat} {e : TypeId} {v : Value} {xs : List Value} (h : w.ownsRow base e sz v n xs) {b : Nat} (hb : v.ownBlock = some b) (o : Nat) : w.frozen? ⟨b, o, none⟩ = false := by
  rcases h.2 with ⟨h0, _⟩ | ⟨g, cap, cur, hv, _, hg, _⟩
  · rw [h0] at hb; cases hb
  · rw [hv] at hb
    injection hb with hb
    subst hb
    unfold World.frozen?
    rw [hg]
    simp
theorem RdS.ofOwn3 {w : World} {base n c sz : Nat} {e : TypeId} {A : Option Addr} {xs : List Value} (h : w.ownsRow base e sz (.slice A n c) n xs) : RdS sz w A n xs := by
  refine ⟨h.1, fun hn => ?_⟩
  rcases h.2 with ⟨_, h0⟩ | ⟨g, cap, cur, hv, _, hg, hnc, _, hcs, htake⟩
  · omega
  · injection hv with hA
    subst hA
    refine ⟨g, 0, rfl, (Array.getElem?_eq_some_iff.1 hg).1, fun j u hu => ?_⟩
    rw [cell_of_row w g (0 + j) cur e (0, 0) hg, Nat.zero_add]
    rw [← htake, List.getElem?_take] at hu
    split at hu
    · simpa using hu
    · cases hu
end
section
variable {gp gs : Nat} {A : Option Addr} {n c : Nat} {ts : List Lx.Tok} {s q q' : PS} {w w' w0 : World} {g : Nat} {E : Ex} {a : Option Addr × Nat}
theorem open_Q2 {d : Nat} (cx : Cx gp gs A n ts) (h : Q (d + 1) s) (hk : s.ok = true) : Q d (openP ts s) := by
  cases hs : sees ts [m_lpar] s
  · have hg := open_g cx.ends s
    have h1 := h.ok hk
    have h0 := h.p0
    have hpa := hg.1
    refine ⟨by omega, by omega, by omega, fun ho => ?_⟩
    exfalso
    have hi : isOf (pk ts s) [m_lpar] = false := by
      unfold sees at hs
      rw [hk] at hs
      simpa using hs
    have hf : (takeP ts m_lpar s).ok = false := by unfold takeP; rw [hk, hi]; rfl
    unfold openP at ho
    rw [hs] at ho
    change (takeP ts m_lpar s).ok = true at ho
    rw [hf] at ho
    cases ho
  · exact open_Q cx h hs
theorem ArgsIn.jn {w0 : World} {p : Int} {l : List Ex} {sl : List (Option Addr × Nat)} {A1 : Option Addr} {c1 : Nat} (h : JnS gp gs A n c ts w0 g p l sl (.slice A1 l.length c1) q w) : ArgsIn (Fx w0.heap.size g) w A1 l := by
  refine .mk _ _ sl h.nl ⟨RdS.ofOwn3 h.own, fun hn ad e => ?_⟩ (fun i e a h1 h2 => (h.ar i e a h1 h2).keep ⟨Nat.le_refl _, fun _ _ _ => rfl, fun k hk _ => ⟨hk.1, hk.2.1⟩⟩)
  obtain ⟨b, off, e2, hb, _⟩ := (RdS.ofOwn3 h.own).2 hn
  subst e
  injection e2 with e2
  subst e2
  exact ⟨⟨(h.own.lt b rfl).1, h.ob b rfl⟩, own_fro h.own rfl⟩
end
end Go.Proofs.YtafjkbbiaopemaaGreatDoor.Tr
