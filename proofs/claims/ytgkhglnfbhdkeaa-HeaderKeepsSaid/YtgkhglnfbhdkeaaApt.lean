/- Blocks that bear marks: what shallotref01.Apart keeps. No function of the program in sight. -/
import Derived.Test.YtgkhglnfbhdkeaaStp
namespace Go.Proofs.Ytgkhglnfbhdkeaa
open Go.RowKit

/-- what list i holds at place j -/
def mrk (i j : Nat) : UInt8 := UInt8.ofNat (17 * i + 3 * j + 1)
/-- whose a block is -/
def Own := Nat → Option Nat
/-- the slice v of n bytes lies in a block of i's; its first p places bear their marks -/
def Tr (w : World) (O : Own) (i : Nat) (v : Value) (n p : Nat) : Prop :=
  p ≤ n ∧ ((v = .slice none 0 0 ∧ n = 0) ∨ ∃ g cap cur, v = .slice (some ⟨g, 0, none⟩) n cap ∧ O g = some i ∧ Blk w g 5 cur ∧ n ≤ cap ∧ cur.length = cap ∧ cap ≤ maxLen ∧ (∀ j, j < n → ∃ x : UInt8, cur[j]? = some (u8 x)) ∧ ∀ j, j < p → cur[j]? = some (u8 (mrk i j)))
/-- what is known of the blocks -/
structure MS (base : Nat) (w0 w : World) (O : Own) : Prop where
  free : ∀ g, w.heap.size ≤ g → O g = none
  lo : ∀ g i, O g = some i → base ≤ g
  below : Below base w0 w
/-- a step that keeps all marks -/
structure MStep (w : World) (O : Own) (w' : World) (O' : Own) : Prop where
  keep : ∀ i v n p, Tr w O i v n p → Tr w' O' i v n p
  ext : ∀ g i, O g = some i → O' g = some i
  idle : ∀ g, g < w.heap.size → O g = none → w'.heap[g]? = w.heap[g]? ∧ O' g = none
  size : w.heap.size ≤ w'.heap.size
theorem MStep.refl (w : World) (O : Own) : MStep w O w O := ⟨fun _ _ _ _ h => h, fun _ _ h => h, fun _ _ h => ⟨rfl, h⟩, Nat.le_refl _⟩
theorem MStep.trans {w w1 w2 : World} {O O1 O2 : Own} (h : MStep w O w1 O1) (h2 : MStep w1 O1 w2 O2) : MStep w O w2 O2 :=
  ⟨fun i v n p ht => h2.keep i v n p (h.keep i v n p ht), fun g i hg => h2.ext g i (h.ext g i hg), fun g hl hg => by
    obtain ⟨a, b⟩ := h.idle g hl hg
    obtain ⟨c, d⟩ := h2.idle g (Nat.lt_of_lt_of_le hl h.size) b
    exact ⟨c.trans a, d⟩, Nat.le_trans h.size h2.size⟩
/-- a step that leaves the marked blocks alone -/
theorem MStep.of {w w' : World} {O : Own} (hs : w.heap.size ≤ w'.heap.size) (hk : ∀ g, g < w.heap.size → O g ≠ none → w'.heap[g]? = w.heap[g]?) (hi : ∀ g, g < w.heap.size → O g = none → w'.heap[g]? = w.heap[g]?) : MStep w O w' O :=
  ⟨fun i v n p ⟨hp, h⟩ => ⟨hp, by
    rcases h with h | ⟨g, cap, cur, rfl, hO, hb, r⟩
    · exact .inl h
    · exact .inr ⟨g, cap, cur, rfl, hO, (hk g hb.lt (by rw [hO]; exact fun h => by cases h)).trans hb, r⟩⟩, fun _ _ h => h, fun g hl hg => ⟨hi g hl hg, hg⟩, hs⟩
theorem MStep.alloc (w : World) (O : Own) (o : Obj) : MStep w O (w.alloc o) O := .of (by simp) (fun g hl _ => Below.heap_alloc w o g hl) (fun g hl _ => Below.heap_alloc w o g hl)
theorem MStep.drew (w : World) (O : Own) : MStep w O w.drew O := .of (Nat.le_refl _) (fun _ _ _ => rfl) (fun _ _ _ => rfl)
theorem MStep.drewN (w : World) (O : Own) (q : Nat) : MStep w O (w.drewN q) O := .of (Nat.le_refl _) (fun _ _ _ => rfl) (fun _ _ _ => rfl)
theorem MS.alloc {base : Nat} {w0 w : World} {O : Own} (h : MS base w0 w O) (hb : base ≤ w.heap.size) (o : Obj) : MS base w0 (w.alloc o) O := ⟨fun g hg => h.free g (by simp at hg; omega), h.lo, h.below.alloc hb o⟩

/-- the write of a mark -/
theorem Tr.set {w : World} {O : Own} {i n p j : Nat} {g cap : Nat} (h : Tr w O i (.slice (some ⟨g, 0, none⟩) n cap) n p) (hj : j < n) :
    MStep w O (w.setCell ⟨g, j, none⟩ (u8 (mrk i j))) O ∧ (j = p → Tr (w.setCell ⟨g, j, none⟩ (u8 (mrk i j))) O i (.slice (some ⟨g, 0, none⟩) n cap) n (p + 1)) := by
  obtain ⟨hp, h⟩ := h
  rcases h with ⟨h, h0⟩ | ⟨g', cap', cur, hv, hO, hb, hnc, hcl, hcm, hby, hmk⟩
  · cases h
  · injection hv with e1 _ e2
    injection e1 with e1
    injection e1 with e1
    subst e1
    subst e2
    have hjl : j < cur.length := by omega
    have hb' := hb.set_ j (u8 (mrk i j))
    have hget : ∀ k, (cur.set j (u8 (mrk i j)))[k]? = if j = k then some (u8 (mrk i j)) else cur[k]? := fun k => by
      rw [List.getElem?_set]
      split <;> simp_all
    constructor
    · refine ⟨fun i2 v2 n2 p2 ⟨hp2, h2⟩ => ⟨hp2, ?_⟩, fun _ _ h => h, fun k hl hk => ⟨Below.heap_setCell w ⟨g, j, none⟩ _ k (fun e => by subst e; rw [hO] at hk; cases hk), hk⟩, by simp [World.setCell]⟩
      rcases h2 with h2 | ⟨g2, cap2, cur2, rfl, hO2, hb2, hn2, hc2, hm2, hby2, hmk2⟩
      · exact .inl h2
      · by_cases hg : g2 = g
        · subst hg
          rw [hO] at hO2
          injection hO2 with hO2
          subst hO2
          have hcc : cur2 = cur := by
            have := hb2.symm.trans hb
            injection this with this
            injection this with this
            simpa using congrArg Array.toList this
          subst hcc
          refine .inr ⟨g2, cap2, _, rfl, hO, hb', hn2, by rw [List.length_set]; exact hc2, hm2, fun k hk => ?_, fun k hk => ?_⟩
          · rw [hget]; split
            · exact ⟨_, rfl⟩
            · exact hby2 k hk
          · rw [hget]; split
            · rename_i e; subst e; rfl
            · exact hmk2 k hk
        · exact .inr ⟨g2, cap2, cur2, rfl, hO2, hb2.far (p := ⟨g, j, none⟩) hg _, hn2, hc2, hm2, hby2, hmk2⟩
    · rintro rfl
      refine ⟨by omega, .inr ⟨g, cap, _, rfl, hO, hb', hnc, by rw [List.length_set]; exact hcl, hcm, fun k hk => ?_, fun k hk => ?_⟩⟩
      · rw [hget]; split
        · exact ⟨_, rfl⟩
        · exact hby k hk
      · rw [hget]; split
        · rename_i e; subst e; rfl
        · exact hmk k (by omega)
theorem Tr.frozen {w : World} {O : Own} {i n p g cap : Nat} (h : Tr w O i (.slice (some ⟨g, 0, none⟩) n cap) n p) (j : Nat) : w.frozen? ⟨g, j, none⟩ = false := by
  rcases h.2 with ⟨h, _⟩ | ⟨g', cap', cur, hv, _, hb, _⟩
  · cases h
  · injection hv with e1 _ _
    injection e1 with e1
    injection e1 with e1
    subst e1
    exact hb.frozen j
theorem Tr.cell {w : World} {O : Own} {i n p g cap : Nat} (h : Tr w O i (.slice (some ⟨g, 0, none⟩) n cap) n p) {j : Nat} (hj : j < n) : ∃ x : UInt8, w.cell? ⟨g, j, none⟩ = some (.int .u8 x.toNat) := by
  rcases h.2 with ⟨h, _⟩ | ⟨g', cap', cur, hv, _, hb, _, _, _, hby, _⟩
  · cases h
  · injection hv with e1 _ _
    injection e1 with e1
    injection e1 with e1
    subst e1
    obtain ⟨x, hx⟩ := hby j hj
    exact ⟨x, (hb.cell j).trans hx⟩
theorem Tr.mark {w : World} {O : Own} {i n p g cap : Nat} (h : Tr w O i (.slice (some ⟨g, 0, none⟩) n cap) n p) {j : Nat} (hj : j < p) : w.cell? ⟨g, j, none⟩ = some (.int .u8 (mrk i j).toNat) := by
  rcases h.2 with ⟨h, _⟩ | ⟨g', cap', cur, hv, _, hb, _, _, _, _, hmk⟩
  · cases h
  · injection hv with e1 _ _
    injection e1 with e1
    injection e1 with e1
    subst e1
    exact (hb.cell j).trans (hmk j hj)
theorem Tr.form {w : World} {O : Own} {i n p : Nat} {v : Value} (h : Tr w O i v n p) : (v = .slice none 0 0 ∧ n = 0) ∨ ∃ g cap, v = .slice (some ⟨g, 0, none⟩) n cap ∧ O g = some i ∧ g < w.heap.size := by
  rcases h.2 with h | ⟨g, cap, cur, rfl, hO, hb, _⟩
  · exact .inl h
  · exact .inr ⟨g, cap, rfl, hO, hb.lt⟩

def putOwn (O : Own) (g i : Nat) : Own := fun k => if k = g then some i else O k
/-- an append of marks -/
theorem run_app_mk {P : Program} {base : Nat} {w0 w : World} {O : Own} (hM : MS base w0 w O) (hbs : base ≤ w.heap.size) (t ty : TypeId) (ht : P.underlying t = some (.slice 5)) (he : ElemIs P 5 1 1) {i n : Nat} {v : Value} (h : Tr w O i v n n)
    (A : Option Addr) (m c : Nat) (news : List Value) (hr : Rd w A m news) (hm : 0 < m) (hnew : ∀ j, j < m → news[j]? = some (u8 (mrk i (n + j)))) (hbytes : n + m ≤ 140737488355328) :
    ∃ A' c' w' O', (Builtin.append_ #[t, t] ty #[v, .slice A m c]).run P w = .ok (.slice A' (n + m) c') w' ∧ Tr w' O' i (.slice A' (n + m) c') (n + m) (n + m) ∧ MStep w O w' O' ∧ MS base w0 w' O' := by
  obtain ⟨⟨ti, z, hi, hz, hsize, hby, hzs⟩, hsz⟩ := he
  obtain ⟨b, soff, rfl, hbl, hc⟩ := hr.2 hm
  have hnl : news.length = m := hr.1
  have hone : ∀ u ∈ news, u.oneCell' = true := by
    intro u hu
    obtain ⟨k, hk, rfl⟩ := List.getElem_of_mem hu
    have := hnew k (by omega)
    rw [List.getElem?_eq_getElem hk] at this
    injection this with this
    rw [this]
    rfl
  have hl1 : news.length = m * ti.size := by rw [hsize, Nat.mul_one, hnl]
  have hnews : ∀ j u, news[j]? = some u → w.cell? ((⟨b, soff, none⟩ : Addr).add j) = some u := fun j u hu => by rw [Addr.add_mid]; exact hc j u hu
  have hgrowW : ∀ (cs : List Value) (cap : Nat), cs.length = cap → n + m ≤ cap → cap ≤ maxLen → (∀ j, j < n + m → cs[j]? = some (u8 (mrk i j))) →
      Tr (w.drew.alloc (.cells cs.toArray 5)) (putOwn O w.heap.size i) i (.slice (some ⟨w.heap.size, 0, none⟩) (n + m) cap) (n + m) (n + m) ∧ MStep w O (w.drew.alloc (.cells cs.toArray 5)) (putOwn O w.heap.size i) ∧ MS base w0 (w.drew.alloc (.cells cs.toArray 5)) (putOwn O w.heap.size i) := by
    intro cs cap hcl hcap hcm hmk
    have hold : ∀ g, g < w.heap.size → (w.drew.alloc (.cells cs.toArray 5)).heap[g]? = w.heap[g]? := fun g hg => Below.heap_alloc w.drew _ g hg
    have hpo : ∀ g, g < w.heap.size → putOwn O w.heap.size i g = O g := fun g hg => by unfold putOwn; rw [if_neg (by omega)]
    refine ⟨⟨Nat.le_refl _, .inr ⟨w.heap.size, cap, cs, rfl, by unfold putOwn; rw [if_pos rfl], Blk.new w.drew _ cs, hcap, hcl, hcm, fun j hj => ⟨_, hmk j hj⟩, hmk⟩⟩, ⟨fun i2 v2 n2 p2 ⟨hp2, h2⟩ => ⟨hp2, ?_⟩, fun g i2 hg => ?_, fun g hl hg => ⟨hold g hl, by rw [hpo g hl]; exact hg⟩, by simp⟩, ⟨fun g hg => ?_, fun g i2 hg => ?_, (hM.below.drew.alloc hbs _)⟩⟩
    · rcases h2 with h2 | ⟨g2, cap2, cur2, rfl, hO2, hb2, r⟩
      · exact .inl h2
      · exact .inr ⟨g2, cap2, cur2, rfl, by rw [hpo g2 hb2.lt]; exact hO2, (hold g2 hb2.lt).trans hb2, r⟩
    · rcases Nat.lt_or_ge g w.heap.size with hlt | hge
      · rw [hpo g hlt]; exact hg
      · rw [hM.free g hge] at hg; cases hg
    · simp at hg
      unfold putOwn
      rw [if_neg (by omega)]
      exact hM.free g (by omega)
    · unfold putOwn at hg
      split at hg
      · rename_i e; rw [e]; exact hbs
      · exact hM.lo g i2 hg
  have hzl : ∀ k, (Builtin.zeroCells z.cells k).size = k := fun k => by rw [size_zeroCells, hzs, Nat.mul_one]
  rcases h.2 with ⟨rfl, rfl⟩ | ⟨g, cap, cur, rfl, hO, hb, hnc, hcl, hcm, hbyt, hmk⟩
  · have hrun := run_append_nil (P := P) w t ty 5 ti z ht hi hz ⟨b, soff, none⟩ m c news hl1 hnews hm (by omega) (by rw [hby]; omega)
    have hge := grownCap_ge w m 0 5
    have hle := grownCap_le_maxLen w m 0 5 (by simp only [maxLen]; omega)
    obtain ⟨q1, q2, q3⟩ := hgrowW (news.toArray ++ Builtin.zeroCells z.cells (grownCap w m 0 5 - m)).toList (grownCap w m 0 5) (by rw [Array.length_toList, Array.size_append, List.size_toArray, hzl, hnl]; omega) (by omega) hle
      (fun j hj => by rw [Array.toList_append, List.getElem?_append_left (by simp [hnl]; omega)]; have h5 := hnew j (by omega); rw [Nat.zero_add] at h5; simpa using h5)
    rw [Array.toArray_toList] at q1 q2 q3
    rw [Nat.zero_add] at q1 ⊢
    exact ⟨_, _, _, _, hrun, q1, q2, q3⟩
  · by_cases hroom : n + m ≤ cap
    · have hrun := run_append_room (P := P) w t ty 5 ti ht hi g n cap cur.toArray hb ⟨b, soff, none⟩ m c news hl1 hnews hone hroom (by rw [hsize, Nat.mul_one, hnl, List.size_toArray]; omega)
      rw [hsize, Nat.mul_one, hnl] at hrun
      have hget : ∀ j, (cur.take n ++ news ++ cur.drop (n + m))[j]? = if n ≤ j ∧ j < n + m then some (u8 (mrk i j)) else cur[j]? := fun j => by
        have htl : (cur.take n).length = n := by rw [List.length_take, hcl]; omega
        rcases Nat.lt_or_ge j n with h1 | h1
        · rw [if_neg (by omega), List.append_assoc, List.getElem?_append_left (by omega), List.getElem?_take, if_pos h1]
        · rcases Nat.lt_or_ge j (n + m) with h2 | h2
          · rw [if_pos ⟨h1, h2⟩, List.getElem?_append_left (by rw [List.length_append]; omega), List.getElem?_append_right (by omega), htl]
            have := hnew (j - n) (by omega)
            rwa [show n + (j - n) = j by omega] at this
          · rw [if_neg (by omega), List.getElem?_append_right (by rw [List.length_append]; omega), List.length_append, htl, hnl, List.getElem?_drop]
            congr 1
            omega
      have hb' : Blk (w.setRow g (cur.take n ++ news ++ cur.drop (n + m)).toArray) g 5 (cur.take n ++ news ++ cur.drop (n + m)) := setRow_heap w g _ _ _ _ hb
      have hl' : (cur.take n ++ news ++ cur.drop (n + m)).length = cap := by simp [hnl]; omega
      have hby' : ∀ k, (∃ x : UInt8, cur[k]? = some (u8 x)) ∨ (n ≤ k ∧ k < n + m) → ∃ x : UInt8, (cur.take n ++ news ++ cur.drop (n + m))[k]? = some (u8 x) := fun k hk => by
        rw [hget]
        split
        · exact ⟨_, rfl⟩
        · rename_i h; exact hk.resolve_right h
      refine ⟨_, _, _, O, hrun, ⟨Nat.le_refl _, .inr ⟨g, cap, _, rfl, hO, hb', hroom, hl', hcm, fun k hk => ?_, fun k hk => ?_⟩⟩, ⟨fun i2 v2 n2 p2 ⟨hp2, h2⟩ => ⟨hp2, ?_⟩, fun _ _ h => h, fun k hl hk => ⟨setRow_other w g k _ (fun e => by subst e; rw [hO] at hk; cases hk), hk⟩, by simp⟩, ⟨fun k hk => hM.free k (by simp at hk; exact hk), hM.lo, ?_⟩⟩
      · rw [hget]
        split
        · exact ⟨_, rfl⟩
        · exact hbyt k (by omega)
      · rw [hget]
        split
        · rfl
        · exact hmk k (by omega)
      · rcases h2 with h2 | ⟨g2, cap2, cur2, rfl, hO2, hb2, hn2, hc2, hm2, hby2, hmk2⟩
        · exact .inl h2
        · by_cases hg : g2 = g
          · subst hg
            rw [hO] at hO2
            injection hO2 with hO2
            subst hO2
            have hcc : cur2 = cur := by
              have := hb2.symm.trans hb
              injection this with this
              injection this with this
              simpa using congrArg Array.toList this
            subst hcc
            refine .inr ⟨g2, cap2, _, rfl, hO, hb', hn2, by rw [hl']; omega, hm2, fun k hk => hby' k (.inl (hby2 k hk)), fun k hk => ?_⟩
            rw [hget]
            split
            · rfl
            · exact hmk2 k hk
          · exact .inr ⟨g2, cap2, cur2, rfl, hO2, (setRow_other w g g2 _ hg).trans hb2, hn2, hc2, hm2, hby2, hmk2⟩
      · have hgr : w.grownBy (w.setRow g (cur.take n ++ news ++ cur.drop (n + m)).toArray) (some g) := ⟨rfl, rfl, rfl, by simp, fun k _ hk => setRow_other w g k _ (fun e => hk (by rw [e]))⟩
        exact hM.below.grown hgr hbs (fun k hk => by injection hk with hk; subst hk; exact hM.lo g i hO)
    · have holds : ∀ j u, (cur.take n)[j]? = some u → w.cell? ((⟨g, 0, none⟩ : Addr).add j) = some u := fun j u hu => by
        rw [Addr.add_mid, Nat.zero_add, hb.cell]
        rw [List.getElem?_take] at hu
        split at hu
        · exact hu
        · cases hu
      have htl : (cur.take n).length = n := by rw [List.length_take, hcl]; omega
      have hrun := run_append_grow (P := P) w t ty 5 ti z ht hi hz ⟨g, 0, none⟩ n cap (cur.take n) (by rw [htl, hsize, Nat.mul_one]) holds ⟨b, soff, none⟩ m c news hl1 hnews (by omega) (by omega) (growslice_fits (by omega) (by rw [hby]; omega))
      have hge := grownCap_ge w (n + m) cap 5
      have hle := grownCap_le_maxLen w (n + m) cap 5 (by simp only [maxLen]; omega)
      obtain ⟨q1, q2, q3⟩ := hgrowW ((cur.take n).toArray ++ news.toArray ++ Builtin.zeroCells z.cells (grownCap w (n + m) cap 5 - (n + m))).toList (grownCap w (n + m) cap 5) (by rw [Array.length_toList, Array.size_append, Array.size_append, List.size_toArray, List.size_toArray, hzl, hnl, htl]; omega) (by omega) hle
        (fun j hj => by
          rw [Array.toList_append, Array.toList_append, List.getElem?_append_left (by simp [hnl]; omega)]
          rcases Nat.lt_or_ge j n with hjn | hjn
          · rw [List.getElem?_append_left (by rw [htl]; exact hjn), List.getElem?_take, if_pos hjn]
            exact hmk j hjn
          · rw [List.getElem?_append_right (by rw [htl]; exact hjn), htl]
            have := hnew (j - n) (by omega)
            rwa [show n + (j - n) = j by omega] at this)
      rw [Array.toArray_toList] at q1 q2 q3
      exact ⟨_, _, _, _, hrun, q1, q2, q3⟩

section
variable {P : Program} {w : World} {ops : Array Oper} {rest : List Oper} {o : Oper} {a : Act} {K : Act → World → Prop} {Q : Exit → Act → World → Prop}
theorem wpList_app_mk (hgd : o.guard = none) (s x : Operand) (t : TypeId) (ho : o.op = .call { callee := .builtin .append, args := #[s, x], argTypes := #[t, t] }) {base : Nat} {w0 : World} {O : Own} (hM : MS base w0 w O) (hbs : base ≤ w.heap.size) (ht : P.underlying t = some (.slice 5)) (he : ElemIs P 5 1 1)
    {i n : Nat} (v : Value) (hs : a.eval s = v) (h : Tr w O i v n n) (A : Option Addr) (m c : Nat) (news : List Value) (hx : a.eval x = .slice A m c) (hr : Rd w A m news) (hm : 0 < m) (hnew : ∀ j, j < m → news[j]? = some (u8 (mrk i (n + j)))) (hbytes : n + m ≤ 140737488355328)
    (hc : ∀ A' c' w' O', Tr w' O' i (.slice A' (n + m) c') (n + m) (n + m) → MStep w O w' O' → MS base w0 w' O' → wpList P ops Q rest (a.put o.dst (.slice A' (n + m) c')) w') : wpList P ops Q (o :: rest) a w := by
  obtain ⟨A', c', w', O', hrun, h1, h2, h3⟩ := run_app_mk (P := P) hM hbs t o.type ht he h A m c news hr hm hnew hbytes
  refine wpList_val hgd (exec_builtin .append #[s, x] #[t, t] ho (args := #[v, .slice A m c]) (by simp [hs, hx]) fun cs => ?_) (hc A' c' w' O' h1 h2 h3)
  simp only [builtin, Sem.run_bind, hrun, Sem.run_pure, Result.andThen_ok]
end
end Go.Proofs.Ytgkhglnfbhdkeaa
