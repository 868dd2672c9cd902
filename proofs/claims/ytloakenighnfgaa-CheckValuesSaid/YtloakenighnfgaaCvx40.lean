/- Part of the proof: Read, RdN. -/
import Derived.Deep.Slices
import Derived.DataReads
import Derived.Test.YtloakenighnfgaaCvx06
import Derived.Test.YtloakenighnfgaaCvx36
set_option linter.unusedVariables false
namespace Go.Proofs.Ytloakenighnfgaa
open Go.ChangeShapes Go.WideShapes Go.ChangeAt Go.RowKit
def Small {H : Type} (B : Option Nat) (d : DataW H) : Prop := ∀ b, B = some b → Rows.uptoBulk d ≤ b
theorem bulk_part {H : Type} {d : DataW H} {l : List (DataW H)} (h : d ∈ l) : Rows.uptoBulk d ≤ Rows.uptoBulkAll l := by
  induction l with
  | nil => cases h
  | cons x r ih =>
    simp only [Rows.uptoBulkAll]
    cases List.mem_cons.1 h with
    | inl e => subst e; omega
    | inr e => have := ih e; omega
theorem bulk_one {H : Type} (d : DataW H) : 1 ≤ Rows.uptoBulk d := by
  cases d with
  | lit l => cases l <;> simp [Rows.uptoBulk]
  | nil => simp [Rows.uptoBulk]
  | ptr d => simp [Rows.uptoBulk]
  | slice elems spare => simp [Rows.uptoBulk]
  | agg parts => simp [Rows.uptoBulk]
  | iface t d => simp [Rows.uptoBulk]
  | map entries => simp [Rows.uptoBulk]
  | held h => simp [Rows.uptoBulk]
theorem bulk_len {H : Type} (l : List (DataW H)) : l.length ≤ Rows.uptoBulkAll l := by
  induction l with
  | nil => simp [Rows.uptoBulkAll]
  | cons x r ih => have := bulk_one x; simp only [Rows.uptoBulkAll, List.length_cons]; omega
structure Reads (P : Program) (B : Option Nat) (N : Nat) (t : TypeId) {α : Type} (cells : α → List Value) (Q : World → α → Prop) : Prop where
  opens : ∀ {H : Type} {enc : TypeId × Value → H} {W : World} {fuel : Nat} {cs : List Value} {x : DataW H × List MemPlace}, fuel < N → DataW.trod enc P W 0 (fun _ => true) true fuel t cs = some x → (∀ k ∈ x.1.weights P t, k ≤ reachBytes) → Small B x.1 → ∃ a, cs = cells a ∧ Q W a
theorem Reads.imp {P : Program} {B : Option Nat} {N : Nat} {t : TypeId} {α β : Type} {c : α → List Value} {Q : World → α → Prop} {c' : β → List Value} {Q' : World → β → Prop} (h : Reads P B N t c Q) (f : ∀ W a, Q W a → ∃ b, c a = c' b ∧ Q' W b) : Reads P B N t c' Q' :=
  ⟨fun hf hx hw hb => by
    obtain ⟨a, rfl, hq⟩ := h.opens hf hx hw hb
    obtain ⟨b, e, hq'⟩ := f _ a hq
    exact ⟨b, e, hq'⟩⟩
theorem Reads.mono {P : Program} {B : Option Nat} {N M : Nat} {t : TypeId} {α : Type} {c : α → List Value} {Q : World → α → Prop} (h : Reads P B M t c Q) (hN : N ≤ M) : Reads P B N t c Q := ⟨fun hf hx hw hb => h.opens (by omega) hx hw hb⟩
theorem reads_int {P : Program} {B : Option Nat} {N : Nat} {t : TypeId} {k : IntKind} (ht : P.underlying t = some (.int k)) : Reads P B N t (fun n : Int => [.int k n]) (fun _ n => (Lit.int k n).wf = true) :=
  ⟨fun _ hx _ _ => by
    obtain ⟨n, rfl, _, hn⟩ := DataW.trod_int ht hx
    exact ⟨n, rfl, hn⟩⟩
structure Sl (α : Type) where
  A : Option Addr
  n : Nat
  c : Nat
  l : List α
def Sl.val {α : Type} (s : Sl α) : Value := .slice s.A s.n s.c
structure SlIn (B : Option Nat) {α : Type} (sz by_ : Nat) (cells : α → List Value) (Q : World → α → Prop) (W : World) (s : Sl α) : Prop where
  rd : RdS sz W s.A s.n (s.l.flatMap cells)
  len : s.l.length = s.n
  cap : s.n ≤ s.c
  reach : s.c * by_ ≤ reachBytes
  small : ∀ b, B = some b → s.c ≤ b
  each : ∀ a ∈ s.l, Q W a
  size : ∀ a ∈ s.l, (cells a).length = sz
theorem weightsAll_mem {H : Type} {P : Program} {e : TypeId} {d : DataW H} {l : List (DataW H)} {k : Nat} (hd : d ∈ l) (hk : k ∈ d.weights P e) : k ∈ DataW.weightsAll P e l := by
  induction l with
  | nil => cases hd
  | cons a l ih =>
    rw [DataW.weightsAll, List.mem_append]
    rcases List.mem_cons.1 hd with rfl | h
    · exact .inl hk
    · exact .inr (ih h)
theorem flatMap_get {α β : Type} {f : α → List β} {sz : Nat} {l : List α} (h : ∀ a ∈ l, (f a).length = sz) {j : Nat} {u : β} (hu : (l.flatMap f)[j]? = some u) : ∃ i a, l[i]? = some a ∧ ∃ r, r < sz ∧ j = i * sz + r ∧ (f a)[r]? = some u := by
  induction l generalizing j with
  | nil => simp at hu
  | cons a l ih =>
    have ha := h a (by simp)
    rw [List.flatMap_cons] at hu
    rcases Nat.lt_or_ge j sz with hj | hj
    · rw [List.getElem?_append_left (by omega)] at hu
      exact ⟨0, a, rfl, j, hj, by omega, hu⟩
    · rw [List.getElem?_append_right (by omega), ha] at hu
      obtain ⟨i, b, hb, r, hr, e, hu'⟩ := ih (fun b hb => h b (by simp [hb])) hu
      exact ⟨i + 1, b, by simpa using hb, r, hr, by rw [Nat.add_mul]; omega, hu'⟩
theorem flatMap_len {α β : Type} {f : α → List β} {sz : Nat} {l : List α} (h : ∀ a ∈ l, (f a).length = sz) : (l.flatMap f).length = l.length * sz := by
  induction l with
  | nil => simp
  | cons a l ih => rw [List.flatMap_cons, List.length_append, h a (by simp), ih (fun b hb => h b (by simp [hb])), List.length_cons, Nat.add_mul]; omega
theorem reads_slice {P : Program} {B : Option Nat} {N : Nat} {t e : TypeId} {α : Type} {cells : α → List Value} {Q : World → α → Prop} (sz by_ : Nat) (ht : P.underlying t = some (.slice e)) (hC : P.cellsOf e = sz) (hb : P.bytesOf e = by_) (hsz : 0 < sz) (he : Reads P B N e cells Q) :
    Reads P B (N + 1) t (fun s : Sl α => [s.val]) (SlIn B sz by_ cells Q) :=
  ⟨fun {H enc W fuel cs x} hf hx hw hB => by
    rcases DataW.trod_slice ht hx with ⟨rfl, rfl⟩ | ⟨a, len, cap, elems, rest, n, rfl, rfl, rfl, _, hl, hm, hlen, hel, hsp, _⟩
    · exact ⟨⟨none, 0, 0, []⟩, rfl, ⟨by simp, fun h => absurd h (Nat.lt_irrefl 0)⟩, rfl, Nat.le_refl _, by simp, by simp, by simp, by simp⟩
    · have hrest := (hsp rfl).1
      simp only [DataW.weights, ht, List.length_map] at hw
      have hreach : cap * by_ ≤ reachBytes := by
        have := hw ((elems.length + rest.length) * P.bytesOf e) (by simp)
        rw [hlen, hrest, hb] at this
        rwa [show len + (cap - len) = cap by omega] at this
      have hsmall : ∀ b, B = some b → cap ≤ b := fun b e => by
        have h0 := hB b e
        simp only [Rows.uptoBulk] at h0
        have h1 := bulk_len (elems.map (·.1))
        have h2 := bulk_len (rest.map (·.1))
        rw [List.length_map] at h1 h2
        omega
      have hsm : ∀ y ∈ elems, Small B y.1 := fun y hy b e => by
        have h0 := hB b e
        simp only [Rows.uptoBulk] at h0
        have h1 := bulk_part (List.mem_map.2 ⟨y, hy, rfl⟩ : y.1 ∈ elems.map (·.1))
        omega
      have hall : ∀ k, k ≤ len → ∃ l : List α, l.length = k ∧ ∀ i b, l[i]? = some b → Q W b ∧ (cells b).length = sz ∧ ∀ r, r < sz → W.cell? (a.add (i * sz + r)) = (cells b)[r]? := by
        intro k
        induction k with
        | zero => exact fun _ => ⟨[], rfl, fun i b h => by simp at h⟩
        | succ k ih =>
          intro hk
          obtain ⟨l, hll, h⟩ := ih (by omega)
          have h1 := hel k (by omega)
          obtain ⟨y, hy⟩ : ∃ y, elems[k]? = some y := ⟨_, List.getElem?_eq_getElem (by omega)⟩
          rw [hy, Option.bind_eq_some_iff] at h1
          obtain ⟨cs', hc', htr⟩ := h1
          obtain ⟨b, rfl, hq⟩ := he.opens (by omega) htr (fun q hq => hw q (by
            rw [List.mem_cons, List.mem_append]
            exact .inr (.inl (weightsAll_mem (List.mem_map.2 ⟨y, List.mem_of_getElem? hy, rfl⟩) hq)))) (hsm y (List.mem_of_getElem? hy))
          obtain ⟨_, hcl, hat⟩ := World.cells?_some hc'
          rw [hC] at hcl hat
          refine ⟨l ++ [b], by simp [hll], fun i b' hb' => ?_⟩
          rcases Nat.lt_or_ge i l.length with hi | hi
          · rw [List.getElem?_append_left hi] at hb'
            exact h i b' hb'
          · rw [List.getElem?_append_right hi] at hb'
            have : i - l.length = 0 := by
              rcases Nat.eq_zero_or_pos (i - l.length) with h0 | h0
              · exact h0
              · rw [List.getElem?_eq_none (by simp; omega)] at hb'; cases hb'
            rw [this] at hb'
            simp at hb'
            subst hb'
            obtain rfl : i = k := by omega
            refine ⟨hq, hcl, fun r hr => ?_⟩
            rw [← Go.Deep.add_add]
            exact hat r hr
      obtain ⟨l, hll, h⟩ := hall len (Nat.le_refl _)
      have hsize : ∀ b ∈ l, (cells b).length = sz := fun b hb => by
        obtain ⟨i, hi, e⟩ := List.mem_iff_getElem.1 hb
        exact (h i b (by rw [List.getElem?_eq_getElem hi, e])).2.1
      refine ⟨⟨some a, len, cap, l⟩, rfl, ⟨by rw [flatMap_len hsize, hll], fun hn => ?_⟩, hll, hl, hreach, hsmall, fun b hb => ?_, hsize⟩
      · obtain ⟨b0, hb0⟩ : ∃ b, l[0]? = some b := ⟨_, List.getElem?_eq_getElem (by rw [hll]; exact hn)⟩
        have h0 := (h 0 b0 hb0).2.2 0 hsz
        obtain ⟨u0, hu0⟩ : ∃ u, (cells b0)[0]? = some u := ⟨_, List.getElem?_eq_getElem (by rw [(h 0 b0 hb0).2.1]; exact hsz)⟩
        rw [hu0] at h0
        obtain ⟨b, off, spot⟩ := a
        have hspot : spot = none := by simpa [Addr.add] using World.cell?_spot h0
        subst hspot
        refine ⟨b, off, rfl, (by have := World.block_lt_of_cell? W _ h0; rw [Addr.add_mid] at this; exact this), fun j u hu => ?_⟩
        obtain ⟨i, a', ha', r, hr, rfl, hu'⟩ := flatMap_get hsize hu
        have := (h i a' ha').2.2 r hr
        rw [Addr.add_mid, hu'] at this
        exact this
      · obtain ⟨i, hi, e⟩ := List.mem_iff_getElem.1 hb
        exact (h i b (by rw [List.getElem?_eq_getElem hi, e])).1⟩
structure ReadsF (P : Program) (B : Option Nat) (N : Nat) (fs : List Field) (off : Nat) {α : Type} (cells : α → List Value) (Q : World → α → Prop) : Prop where
  opens : ∀ {H : Type} {enc : TypeId × Value → H} {W : World} {fuel : Nat} {cs : List Value} {xs : List (DataW H × List MemPlace)}, fuel < N → xs.length = fs.length →
    (∀ (i : Nat) (f : Field), fs[i]? = some f → DataW.trod enc P W 0 (fun _ => true) true fuel f.type ((cs.drop f.offset).take (P.cellsOf f.type)) = xs[i]?) → (∀ k ∈ DataW.weightsEach P (fs.map (·.type)) (xs.map (·.1)), k ≤ reachBytes) → (∀ b, B = some b → Rows.uptoBulkAll (xs.map (·.1)) ≤ b) →
    (∃ a, cs.take off ++ cells a = cs.take (off + (cells a).length) ∧ off + (cells a).length = off + (fs.map fun f => P.cellsOf f.type).sum ∧ Q W a) ∨ cs.length < off + (fs.map fun f => P.cellsOf f.type).sum
theorem readsF_nil {P : Program} {B : Option Nat} {N : Nat} {off : Nat} : ReadsF P B N [] off (fun _ : Unit => []) (fun _ _ => True) := ⟨fun _ _ _ _ _ => .inl ⟨(), by simp, by simp, trivial⟩⟩
theorem readsF_cons {P : Program} {B : Option Nat} {N : Nat} {f : Field} {fs : List Field} {off sz : Nat} {α β : Type} {c : α → List Value} {Q : World → α → Prop} {c' : β → List Value} {Q' : World → β → Prop} (ho : f.offset = off) (hsz : P.cellsOf f.type = sz)
    (h : Reads P B N f.type c Q) (h' : ReadsF P B N fs (off + sz) c' Q') : ReadsF P B N (f :: fs) off (fun x : α × β => c x.1 ++ c' x.2) (fun W x => Q W x.1 ∧ Q' W x.2) :=
  ⟨fun {H enc W fuel cs xs} hf hl hx hw hB => by
    cases xs with
    | nil => simp at hl
    | cons y xs =>
      simp only [List.length_cons, Nat.add_right_cancel_iff] at hl
      simp only [List.map_cons, List.sum_cons, hsz]
      rcases Nat.lt_or_ge cs.length (off + (sz + (fs.map fun f => P.cellsOf f.type).sum)) with hlt | hge
      · exact .inr hlt
      left
      have h0 := hx 0 f rfl
      rw [ho, hsz] at h0
      simp only [List.map_cons, DataW.weightsEach, List.mem_append] at hw
      simp only [List.map_cons, Rows.uptoBulkAll] at hB
      obtain ⟨a, ea, hq⟩ := h.opens hf h0 (fun k hk => hw k (.inl hk)) (fun b e => by have := hB b e; omega)
      rcases h'.opens (cs := cs) hf hl (fun i g hg => hx (i + 1) g (by simpa using hg)) (fun k hk => hw k (.inr hk)) (fun b e => by have := hB b e; omega) with ⟨b, eb, el, hq'⟩ | hb
      · have hal : (c a).length = sz := by rw [← ea]; simp; omega
        refine ⟨(a, b), ?_, ?_, hq, hq'⟩
        · show cs.take off ++ (c a ++ c' b) = _
          rw [← List.append_assoc]
          have e1 : cs.take off ++ c a = cs.take (off + sz) := by rw [← ea, List.take_add]
          rw [e1, eb, List.length_append, hal, Nat.add_assoc]
        · show off + (c a ++ c' b).length = _
          rw [List.length_append, hal]; omega
      · omega⟩
theorem reads_struct {P : Program} {B : Option Nat} {N : Nat} {t : TypeId} {fs : Array Field} {α : Type} {c : α → List Value} {Q : World → α → Prop} (ht : P.underlying t = some (.struct fs)) (hC : (fs.toList.map fun f => P.cellsOf f.type).sum = P.cellsOf t) (h : ReadsF P B N fs.toList 0 c Q) : Reads P B (N + 1) t c Q :=
  ⟨fun {H enc W fuel cs x} hf hx hw hB => by
    obtain ⟨xs, n, rfl, rfl, hcl, hxl, hfs⟩ := DataW.trod_struct ht hx
    rcases h.opens (cs := cs) (fuel := n) (by omega) (by simpa using hxl) (fun i f hi => hfs i f (by simpa using hi)) (by simpa [DataW.weights, ht] using hw) (fun b e => by have := hB b e; simp only [Rows.uptoBulk] at this; omega) with ⟨a, ea, el, hq⟩ | hb
    · refine ⟨a, ?_, hq⟩
      simp only [List.take_zero, List.nil_append, Nat.zero_add] at ea el
      rw [ea, List.take_of_length_le (by omega)]
    · omega⟩
theorem flat_u8s (l : List UInt8) : (l.flatMap fun x => [u8 x]) = u8s l := by
  induction l with
  | nil => rfl
  | cons a l ih => rw [List.flatMap_cons, ih]; rfl
theorem SlIn.bytes {B : Option Nat} {W : World} {s : Sl UInt8} (h : SlIn B 1 1 (fun x : UInt8 => [u8 x]) (fun _ _ => True) W s) : Rd W s.A s.n (u8s s.l) ∧ s.n ≤ s.c ∧ s.c ≤ 140737488351232 := by
  have h1 := h.rd
  rw [flat_u8s] at h1
  have h2 := h.reach
  unfold reachBytes at h2
  exact ⟨h1.to1, h.cap, by omega⟩
end Go.Proofs.Ytloakenighnfgaa
namespace Go.Proofs.Ytloakenighnfgaa.Tr
open Go.RowKit
theorem reads_num (B : Option Nat) : ∀ N, Reads Try.prog B N 24 ndC NdIn
  | 0 => ⟨fun hf => absurd hf (Nat.not_lt_zero _)⟩
  | N + 1 => Reads.mono ((reads_struct (N := N + 1) Try.underlying24 (by kernel_rfl)
      (readsF_cons (sz := 1) rfl (by kernel_rfl) (reads_int Try.underlying3) (readsF_cons (sz := 1) rfl (by kernel_rfl) (reads_int Try.underlying3) (readsF_cons (sz := 1) rfl (by kernel_rfl) (reads_slice (N := N) 3 40 Try.underlying22 (by kernel_rfl) (by kernel_rfl) (by omega) (reads_num B N)) readsF_nil)))).imp
      fun W ⟨op, k, s, _⟩ ⟨_, _, h3, _⟩ => ⟨.mk op k s.A s.n s.c s.l, by simp [ndC, Sl.val], .mk op k s.A s.n s.c s.l h3.len h3.rd h3.each⟩) (by omega)
theorem reads_i64n (B : Option Nat) (N : Nat) : Reads Try.prog B N 3 (fun n : Int => [.int .i64 n]) (fun _ n => (Lit.int .i64 n).wf = true) := reads_int Try.underlying3
theorem reads_ints (B : Option Nat) (N : Nat) : Reads Try.prog B N 25 (fun s : Sl Int => [s.val]) (SlIn B 1 8 (fun n : Int => [.int .i64 n]) (fun _ n => (Lit.int .i64 n).wf = true)) :=
  Reads.mono (reads_slice (N := N) 1 8 Try.underlying25 (by kernel_rfl) (by kernel_rfl) (by omega) (reads_i64n B N)) (by omega)
end Go.Proofs.Ytloakenighnfgaa.Tr
